/- CheckMade, for arguments of bulk at most 1048576: it answers true. -/
import Derived.Test.YtbdilgkfnacahaaG11
import Derived.Test.YtbdilgkfnacahaaG12
import Derived.Test.YtbdilgkfnacahaaRows
import Derived.WalkKit
import Derived.ProofKit
import Derived.OpenShut
import Derived.JoinedCond
import Derived.ChangeOld
set_option maxRecDepth 100000
set_option maxHeartbeats 4000000
set_option linter.unusedSimpArgs false
set_option linter.unusedVariables false
namespace Go.Proofs.Ytbdilgkfnacahaa.checkMade
open Go.ChangeShapes Go.WideShapes Go.ChangeAt Go.RowKit Go.V
def ixF_MadeLaw (fr : Go.V.Fr) (k : Nat) : Go.V.D := Go.V.nth .junk fr.loc k
theorem compS_err : ∀ (ls : List (List Nod)) (r : Nat) (c : List PIns) (s : List Int), (compS ls r c s).e ≠ 0 → (compS ls r c s).code = []
 | [], r, c, s, h => by rw [compS_nil'] at h; exact absurd rfl h
 | l :: ls, r, c, s, h => by
  rw [compS] at h ⊢
  split
  ·rfl
  ·rename_i h1;rw [if_neg h1] at h
   split
   ·rfl
   ·rename_i h2;rw [if_neg h2] at h;exact compS_err ls _ _ _ h
theorem compile_err {ls : List (List Nod)} (h : (compileS ls).e ≠ 0) : (compileS ls).code = [] := by
 unfold compileS at h ⊢
 split
 ·rfl
 ·rename_i h1;rw [if_neg h1] at h;exact compS_err _ _ _ _ h
theorem law {s0 : St} (x : D) (ps : List (List UInt8)) (hx : SlD x 1 (ps.map strC)) (hpl : ps.length ≤ 1048576 ∧ ∀ b ∈ ps, b.length ≤ 1048576) : Ev pv 7 [x] s0 (.bool true) s0 := by
 refine Ev.mk1 rfl fi7 rfl rfl rfl ?_;dsimp only [u3, u4, List.length, Nat.reduceSub, Nat.reduceAdd, w1, w2];obtain ⟨hSb, hF, hH⟩ := ri s0;generalize enterSt .ro s0 = S at *;have hxa := hx.arg s0.bs.length S;refine qq ?_;refine qj fun K hK => ?_;refine qm ?_;refine qe hK ?_;refine qq ?_;refine qj fun K hK => ?_;refine qm ?_;refine qe hK ?_;refine qq ?_;refine qq ?_;refine qj fun K hK => ?_;refine qm ?_;refine qe hK ?_;have hH : Has s0.bs.length S S (.lst .nul 1 (([] : List (List Nod)).map partC) :: []) := hH.nulE 1;refine EvC.block ?_;refine EvC.loop (fun mm fr st => ∃ (i : Nat) (ld : D) (parts : List (List Nod)), fr.clean = ⟨14, [x, ixF_MadeLaw fr 1, .bool false, ld, .int .i64 (i : Nat), ixF_MadeLaw fr 5, ixF_MadeLaw fr 6, ixF_MadeLaw fr 7, ixF_MadeLaw fr 8, ixF_MadeLaw fr 9, ixF_MadeLaw fr 10, ixF_MadeLaw fr 11, ixF_MadeLaw fr 12, ixF_MadeLaw fr 13], []⟩ ∧ Has s0.bs.length S st [.lst ld 1 (parts.map partC)] ∧ (i + mm = 8) ∧ (∀ l ∈ parts, (∀ n ∈ l, NdV n) ∧ l.length ≤ 500) ∧ (parts.length ≤ i)) (8) ?_ ?_
 ·exact ⟨0, .nul, [], rfl, hH, by omega, fun l hl => (by cases hl), by simp⟩
 rintro mm fr st ⟨i, ld, parts, hfr, hH, hi, hp, hpl2⟩;rw [hfr];clear hfr;generalize ixF_MadeLaw fr = ee;clear fr;refine qq ?_;refine qq ?_;refine EvC.cutT 21 (.bool (decide (((i : Nat) : Int) < ((ps.length : Nat) : Int)) && decide (((i : Nat) : Int) < 8))) [] ?_ (fun ff tmp htmp => ?_)
 ·refine qm ?_;refine qm ?_;refine qn ?_;simp only [List.length_map];refine qg ?_;refine qm ?_;refine EvO.two 18 rfl (fun hg4 => ?_) (fun hg4 => ?_)
  ·refine qm ?_ (hg := wi hg4);refine qg ?_ (hg := wi hg4);refine qt hg4 ?_;refine EvO.nil (leafT ?_ ?_)
   ·dsimp only [setW, List.foldl, nth, u2, u1]
    all_goals (first | rfl | simp)
   ·dsimp only [Fr.putO, Fr.put, Fr.clean, Fr.ev, Fr.get, nth, V.look, u1, u2, v1, v2, v3, v4, v5, v6, v7, List.length, u3, u4, Nat.reduceSub, Nat.reduceAdd, List.map]
    all_goals (simp_all; done)
  ·refine qs ?_ (hg := wn hg4);refine qs ?_ (hg := wn hg4);refine qu hg4 ?_;refine EvO.nil (leafT ?_ ?_)
   ·dsimp only [setW, List.foldl, nth, u2, u1]
    all_goals (first | rfl | simp)
   ·dsimp only [Fr.putO, Fr.put, Fr.clean, Fr.ev, Fr.get, nth, V.look, u1, u2, v1, v2, v3, v4, v5, v6, v7, List.length, u3, u4, Nat.reduceSub, Nat.reduceAdd, List.map]
    all_goals (simp_all; omega)
 dsimp only [setW, List.foldl, nth, u2, u1];dsimp only [Fr.putO, Fr.put, Fr.clean, Fr.ev, Fr.get, nth, V.look, u1, u2, v1, v2, v3, v4, v5, v6, v7, List.length, u3, u4, Nat.reduceSub, Nat.reduceAdd, List.map]
 by_cases hlt : i < ps.length ∧ i < 8
 ·obtain ⟨b, hbb⟩ : ∃ b, ps[i]? = some b := ⟨ps[i]'hlt.1, List.getElem?_eq_getElem _⟩
  have hr1 := str_get hbb;have hbl := hpl.2 b (List.mem_of_getElem? hbb);have hc2 : (decide (((i : Nat) : Int) < ((ps.length : Nat) : Int)) && decide (((i : Nat) : Int) < 8)) = true := by rw [Bool.and_eq_true, decide_eq_true_eq, decide_eq_true_eq]; omega
  rw [hc2] at htmp;refine qB ?_;refine EvC.skip ?_;refine qq ?_;refine EvC.block ?_;obtain ⟨_, hev, l, e, w, rfl, hv, hll⟩ := parse_ev (s0 := st) hbl;refine qq ?_;refine qj fun K hK => ?_;refine qm ?_;refine qm ?_;refine qr fun p27 hp27 => ?_;refine qR ?_;refine qv (hev) ?_;refine qm ?_;refine qg ?_;refine qg ?_;refine qg ?_;refine qm ?_;refine qm ?_;refine qm ?_;refine qe hK ?_;refine qq ?_;refine qj fun K hK => ?_;refine qm ?_;refine qg ?_;refine qe hK ?_;refine EvC.cond (by rfl) (fun he => ?_) (fun he => ?_) <;> try simp only [beq_iff_eq, beq_eq_false_iff_ne, ne_eq] at he
  ·refine qj fun K hK => ?_;refine qm ?_;refine qm ?_;refine qh (s := 1) (vs := [_]) hH fun k37 st hk37 hH => ?_;refine EvO.happend (s := 1) hH rfl (ev rfl) (ev rfl) (by exact at1) (by exact hH.rows (by exact at0)) rfl rfl rfl rfl rfl rfl rfl ⟨(Nat.le_of_ble_eq_true rfl), (Nat.le_of_ble_eq_true rfl)⟩ (fun _ => (put_T rfl _)) (by simp only [List.length_cons, List.length_nil, List.length_map] <;> omega) (by exact .inl hF) (fun x38 st hH => ?_);dsimp only [u2, u1, u3, u4, setMany, u5, u6, D.cells, Nat.reduceAdd, partC, compD, Pg.d, Pg.cs, pgV, insC, intC] at hH;refine qm ?_;refine qe hK ?_;have hH := hH.drop 1;refine qj fun K hK => ?_;refine qm ?_;refine qA ?_;refine qm ?_;refine qe hK ?_;refine ⟨mm - 1, by omega, ⟨i + 1, x38, parts ++ [l], rfl, (by rw [List.map_append]; exact hH), by omega, ?_, by rw [List.length_append]; simp only [List.length_cons, List.length_nil]; omega⟩⟩;intro l' hl'
   rcases List.mem_append.1 hl' with hl' | hl'
   ·exact hp l' hl'
   ·simp only [List.mem_cons, List.not_mem_nil, or_false] at hl'; subst hl'; exact ⟨hv, hll⟩
  ·refine EvC.skip ?_;refine qj fun K hK => ?_;refine qm ?_;refine qA ?_;refine qm ?_;refine qe hK ?_;exact ⟨mm - 1, by omega, ⟨i + 1, ld, parts, rfl, hH, by omega, hp, by omega⟩⟩
 ·have hc2 : (decide (((i : Nat) : Int) < ((ps.length : Nat) : Int)) && decide (((i : Nat) : Int) < 8)) = false := by
   rw [Bool.and_eq_false_iff, decide_eq_false_iff_not, decide_eq_false_iff_not]; omega
  rw [hc2] at htmp;refine qC ?_;refine EvC.exit ?_;obtain ⟨hev, hok, hlen⟩ := comp_parts hp (by omega) (hH.rows at0);have hmade := fun h => made_right (parts := parts) (by omega) h hlen;have herr := compile_err (ls := parts);generalize compileS parts = R at *;have hcd : Arg s0.bs.length S 4 (.sl ((R.code.map insC).map (elD 4))) (R.code.map insC) := hok.c.arg s0.bs.length S;have hsd : Arg s0.bs.length S 1 (intsV R.starts) (R.starts.map intC) := hok.s.arg s0.bs.length S;refine qq ?_;refine qj fun K hK => ?_;refine qm ?_;refine qv (hev) ?_;refine qm ?_;refine qg ?_;refine qg ?_;refine qg ?_;refine qa hH fun k8 st hk8 hH => ?_;refine qS hH at0 fun st hH => ?_;dsimp only [u2, u1, u3, u4, setMany, u5, u6, D.cells, Nat.reduceAdd, partC, compD, Pg.d, Pg.cs, pgV, insC, intC] at hH;refine qm ?_;refine qm ?_;refine qe hK ?_;refine qq ?_;refine qq ?_;refine qj fun K hK => ?_;refine qm ?_;refine qg ?_;refine qe hK ?_
  by_cases he : R.e = 0
  ·obtain ⟨hR, hsl, hru⟩ := hmade he
   have hright : ∀ st : St, Ev pv 27 [(pgV R.code R.starts).d] st (.bool true) st := fun st => by
    have := checkRight_ev (s0 := st) hok
    rwa [dec_yes hR] at this
   have hreach := fun (st : St) (r : Int) => checkReach_ev (s0 := st) (rule := r) hok;simp only [Pg.d, pgV] at hright hreach;refine qE rfl (by simp [he]) ?_;refine EvC.skip ?_;have hg3 : (!true) = false := rfl;refine qq ?_;refine qq ?_;refine qj fun K hK => ?_;refine EvO.hloadS (m := 2) hH rfl (ev rfl) (by exact at0) (by dsimp only [List.drop_succ_cons, List.drop_zero, List.take_succ_cons, List.take_zero, partC, compD, Pg.d, Pg.cs, pgV, insC, intC] <;> rfl) rfl rfl (put_T rfl _) ?_;refine qv ((hright _)) ?_;refine qg ?_;refine qm ?_;refine qp (o := 1) ?_ (hg := wi hg3);refine ql hH at0 ?_ (hg := wi hg3);refine qn ?_ (hg := wi hg3);simp only [List.length_map];refine qm ?_ (hg := wi hg3);refine qn ?_ (hR := hH.rows at1) (hg := wi hg3);simp only [List.length_map];refine qg ?_ (hg := wi hg3);refine qu hg3 ?_;refine qe hK ?_;have hc3 : (((R.starts.length : Nat) : Int) != ((parts.length : Nat) : Int)) = false := by rw [hsl]; simp
   refine qE rfl (by rw [hc3]) ?_;refine EvC.skip ?_;refine qq ?_;refine qq ?_;refine qj fun K hK => ?_;refine qm ?_;refine qe hK ?_;have hH : Has s0.bs.length S st (.box k8 (.mem 0 false [.sl ((R.code.map insC).map (elD 4)), intsV R.starts]) :: .lst ld 1 (parts.map partC) :: []) := hH;refine EvC.block ?_;refine EvC.loop (fun mm fr st => ∃ (r : Nat), fr.clean = ⟨14, [ixF_MadeLaw fr 0, ixF_MadeLaw fr 1, .bool false, ld, ixF_MadeLaw fr 4, ixF_MadeLaw fr 5, ixF_MadeLaw fr 6, ixF_MadeLaw fr 7, .ptr k8 0 0, ixF_MadeLaw fr 9, ixF_MadeLaw fr 10, .int .i64 (r : Nat), ixF_MadeLaw fr 12, ixF_MadeLaw fr 13], []⟩ ∧ Has s0.bs.length S st (.box k8 (.mem 0 false [.sl ((R.code.map insC).map (elD 4)), intsV R.starts]) :: .lst ld 1 (parts.map partC) :: []) ∧ (r + mm = parts.length)) (parts.length) ?_ ?_
   ·exact ⟨0, rfl, hH, by omega⟩
   rintro mm fr st ⟨r, hfr, hH, hr⟩;rw [hfr];clear hfr;generalize ixF_MadeLaw fr = ee;clear fr;refine qq ?_;refine qq ?_;refine qj fun K hK => ?_;refine qm ?_;refine qm ?_;refine qn ?_ (hR := hH.rows at1);simp only [List.length_map];refine qg ?_;refine qe hK ?_
   by_cases hrl : r < parts.length
   ·obtain ⟨s, e, hQ⟩ := hru r hrl;have hQs : R.starts[r]? = some (s : Int) := hQ.st;have hQn : ∀ b' : Int, R.starts[r + 1]? = some b' → b' = (e : Int) := hQ.nx;have hQl : r + 1 = R.starts.length → R.code.length = e := hQ.la;have hQe : e ≤ R.code.length := hQ.el;have hQm : R.code[e - 1]? = some (mkI 7 (r : Nat) 0 []) := hQ.mt;have hse := hQ.se;have hc4 : decide (((r : Nat) : Int) < ((parts.length : Nat) : Int)) = true := by rw [decide_eq_true_eq]; omega
    refine qD rfl (by rw [hc4]) ?_;refine EvC.skip ?_;refine qq ?_;refine EvC.block ?_;refine qq ?_;refine qj fun K hK => ?_;refine qp (o := 0) ?_;refine ql hH at0 ?_;refine qn ?_;simp only [List.length_map];refine qm ?_;refine qe hK ?_;refine qq ?_;refine qq ?_;refine EvC.merge3 (fun fr st => ∃  (tmp : List (Nat × D)), fr = ⟨14, [ixF_MadeLaw fr 0, ixF_MadeLaw fr 1, .bool false, ld, ixF_MadeLaw fr 4, ixF_MadeLaw fr 5, ixF_MadeLaw fr 6, ixF_MadeLaw fr 7, .ptr k8 0 0, ixF_MadeLaw fr 9, ixF_MadeLaw fr 10, .int .i64 (r : Nat), .int .i64 (e : Nat), ixF_MadeLaw fr 13], tmp⟩ ∧ Has s0.bs.length S st (.box k8 (.mem 0 false [.sl ((R.code.map insC).map (elD 4)), intsV R.starts]) :: .lst ld 1 (parts.map partC) :: []) ∧ (True)) ?_ ?_
    ·refine qj fun K hK => ?_;refine qm ?_;refine EvO.addZ (z := ((r + 1 : Nat) : Int)) rfl (ev rfl) (ev rfl) (by (try simp only [List.length_reverse, List.length_cons, List.length_nil, List.length_append, List.length_map, List.length_set]); rw [wrap_i64 (by omega) (by omega)] <;> omega) (put_T rfl _) ?_;refine qm ?_;refine qn ?_ (hR := hH.rows at1);simp only [List.length_map];refine qg ?_;refine qe hK ?_
     by_cases hnx : r + 1 < parts.length
     ·obtain ⟨b', hb'⟩ : ∃ b', R.starts[r + 1]? = some b' := ⟨R.starts[r + 1]'(by omega), List.getElem?_eq_getElem _⟩
      have hbe := hQn b' hb';subst hbe;have hr2 := int_get hb';have hc5 : decide (((r + 1 : Nat) : Int) < ((parts.length : Nat) : Int)) = true := by rw [decide_eq_true_eq]; omega
      refine qD rfl (by rw [hc5]) ?_;refine qj fun K hK => ?_;refine qp (o := 1) ?_;refine ql hH at0 ?_;refine qm ?_;refine EvO.addZ (z := ((r + 1 : Nat) : Int)) rfl (ev rfl) (ev rfl) (by (try simp only [List.length_reverse, List.length_cons, List.length_nil, List.length_append, List.length_map, List.length_set]); rw [wrap_i64 (by omega) (by omega)] <;> omega) (put_T rfl _) ?_;refine qr fun p83 hp83 => ?_;refine qR ?_;refine qm ?_;refine qe hK ?_;exact ⟨_, rfl, hH, trivial⟩
     ·have hc5 : decide (((r + 1 : Nat) : Int) < ((parts.length : Nat) : Int)) = false := by rw [decide_eq_false_iff_not]; omega
      have hle := hQl (by omega);rw [← hle];refine qE rfl (by rw [hc5]) ?_;refine EvC.skip ?_;exact ⟨_, rfl, hH, trivial⟩
    ·rintro fr st ⟨tmp, hfr, hH, htr⟩;rw [hfr];clear hfr;generalize ixF_MadeLaw fr = ee;clear fr;refine qq ?_;refine qj fun K hK => ?_;refine EvO.hloadS (m := 2) hH rfl (ev rfl) (by exact at0) (by dsimp only [List.drop_succ_cons, List.drop_zero, List.take_succ_cons, List.take_zero, partC, compD, Pg.d, Pg.cs, pgV, insC, intC] <;> rfl) rfl rfl (put_T rfl _) ?_;refine qm ?_;refine qv ((hreach _ _)) ?_;refine qm ?_;refine qe hK ?_;have hfi := hQ.fi;have hlt2 := hQ.lt
     have hXl : (reachN (pgV R.code R.starts) ((r : Nat) : Int)).length ≤ 1048576 := by
      unfold reachN; split
      ·refine Nat.le_trans (nums_len _ _) ?_;rw [reachS_len]; exact hok.cl
      ·simp
     simp only [pgV] at hfi hlt2 hXl;generalize reachN ⟨.sl ((R.code.map insC).map (elD 4)), R.code, intsV R.starts, R.starts⟩ ((r : Nat) : Int) = X at *;have hX0 := lt_get hfi;have hxx := (intsV_sl X).arg s0.bs.length S;have hrs := int_get hQs;have hr0 := int_get hfi;have hrl2 := int_get hlt2;have hrm := ins_get hQm;have hg3 : (((X.length : Nat) : Int) == 0) = false := by rw [beq_eq_false_iff_ne]; omega
     have hg14 : (((s : Nat) : Int) != ((s : Nat) : Int)) = false := by simp
     have hg25 : (((e - 1 : Nat) : Int) != ((e - 1 : Nat) : Int)) = false := by simp
     have hg35 : ((7 : Int) != 7) = false := by decide
     refine qq ?_;refine qj fun K hK => ?_;refine qm ?_;refine qn ?_;simp only [List.length_map];refine qg ?_;refine qm ?_;refine qm ?_ (hg := wi hg3);refine qr (fun p93 hp93 => ?_) (hg := wi hg3);refine qR ?_ (hg := wi hg3);refine qp (o := 1) ?_ (hg := wi hg3);refine ql hH at0 ?_ (hg := wi hg3);refine qm ?_ (hg := wi hg3);refine qr (fun p98 hp98 => ?_) (hg := wi hg3);refine qR ?_ (hg := wi hg3);refine qg ?_ (hg := wi hg3);refine qu hg3 ?_;refine qm ?_;refine qm ?_ (hg := wi hg14);refine qm ?_ (hg := wi hg14);refine qn ?_ (hg := wi hg14);simp only [List.length_map];refine EvO.subZ (z := ((X.length - 1 : Nat) : Int)) (wantD_is rfl rfl rfl hg14) (ev rfl) (ev rfl) (by (try simp only [List.length_reverse, List.length_cons, List.length_nil, List.length_append, List.length_map, List.length_set]); rw [wrap_i64 (by omega) (by omega)] <;> omega) (put_T rfl _) ?_;refine qr (fun p107 hp107 => ?_) (hg := wi hg14);refine qR ?_ (hg := wi hg14);refine qm ?_ (hg := wi hg14);refine EvO.subZ (z := ((e - 1 : Nat) : Int)) (wantD_is rfl rfl rfl hg14) (ev rfl) (ev rfl) (by (try simp only [List.length_reverse, List.length_cons, List.length_nil, List.length_append, List.length_map, List.length_set]); rw [wrap_i64 (by omega) (by omega)] <;> omega) (put_T rfl _) ?_;refine qg ?_ (hg := wi hg14);refine qu hg14 ?_;refine qm ?_;refine qp (o := 0) ?_ (hg := wi hg25);refine ql hH at0 ?_ (hg := wi hg25);refine qm ?_ (hg := wi hg25);refine EvO.subZ (z := ((e - 1 : Nat) : Int)) (wantD_is rfl rfl rfl hg25) (ev rfl) (ev rfl) (by (try simp only [List.length_reverse, List.length_cons, List.length_nil, List.length_append, List.length_map, List.length_set]); rw [wrap_i64 (by omega) (by omega)] <;> omega) (put_T rfl _) ?_;refine qr (fun p118 hp118 => ?_) (hg := wi hg25);refine qf (fo := 0) (fun p119 hp119 => ?_) (hg := wi hg25);refine qR ?_ (hg := wi hg25);refine qg ?_ (hg := wi hg25);refine qu hg25 ?_;refine qm ?_;refine qp (o := 0) ?_ (hg := wi hg35);refine ql hH at0 ?_ (hg := wi hg35);refine qm ?_ (hg := wi hg35);refine EvO.subZ (z := ((e - 1 : Nat) : Int)) (wantD_is rfl rfl rfl hg35) (ev rfl) (ev rfl) (by (try simp only [List.length_reverse, List.length_cons, List.length_nil, List.length_append, List.length_map, List.length_set]); rw [wrap_i64 (by omega) (by omega)] <;> omega) (put_T rfl _) ?_;refine qr (fun p128 hp128 => ?_) (hg := wi hg35);refine qf (fo := 1) (fun p129 hp129 => ?_) (hg := wi hg35);refine qR ?_ (hg := wi hg35);refine qm ?_ (hg := wi hg35);refine qg ?_ (hg := wi hg35);refine qu hg35 ?_;refine qe hK ?_;have hc6 : (((r : Nat) : Int) != ((r : Nat) : Int)) = false := by simp
     refine EvC.cond (v := false) (by dsimp only [Fr.ev, Fr.get, nth, V.look]; exact congrArg D.bool hc6) (fun h => by cases h) (fun _ => ?_);refine EvC.skip ?_;refine qj fun K hK => ?_;refine qm ?_;refine qA ?_;refine qm ?_;refine qe hK ?_;exact ⟨mm - 1, by omega, ⟨r + 1, rfl, hH, by omega⟩⟩
   ·have hc4 : decide (((r : Nat) : Int) < ((parts.length : Nat) : Int)) = false := by rw [decide_eq_false_iff_not]; omega
    refine qE rfl (by rw [hc4]) ?_;refine EvC.exit ?_;refine qq ?_;refine qj fun K hK => ?_;refine qv (Ev.prim rfl rfl) ?_;refine qm ?_;refine qe hK ?_;refine EvC.ret ⟨rx, _, rfl, rl hSb hH (rfl)⟩
  ·have hce := herr he;have hg4 : (((R.code.length : Nat) : Int) == 0) = true := by rw [hce]; rfl
   refine qD rfl (by simp [he]) ?_;refine qq ?_;refine qj fun K hK => ?_;refine qp (o := 0) ?_;refine ql hH at0 ?_;refine qn ?_;simp only [List.length_map];refine qg ?_;refine qm ?_;refine qv (Ev.prim rfl rfl) ?_ (hg := wi hg4);refine qt hg4 ?_;refine qm ?_;refine qe hK ?_;refine EvC.ret ⟨rx, _, rfl, rl hSb hH (rfl)⟩
theorem own : ownKnob Try.prog.godebug = none := by kernel_rfl
theorem laidOut : laidOutB Try.prog = true := by kernel_rfl
theorem lifted (os : Os) (started : os.Started) (H : Type) (enc : TypeId × Value → H) (F : Stop.Interp) :
  ReturnsInHanded {} Try.checked os 7 .any ((Rows.OpenSpec.upto Rows.checkMadeSpec).pre6 enc Try.prog Try.f7 Rows.checkMadeUptoRow.domain false) (((Rows.OpenSpec.upto Rows.checkMadeSpec).at F).post enc Try.prog Try.f7 false true false false) := by
 refine returnsInHanded_of_cond (C := Try.checked) (s := Rows.OpenSpec.upto Rows.checkMadeSpec) (k := Rows.uptoSmall) rfl own started (by kernel_rfl) Try.func7
  (OpenSpec.witness (enc := enc) (C := Try.checked) (s := Rows.OpenSpec.upto Rows.checkMadeSpec) (k := Rows.uptoSmall) rfl false ⟨#[], #[.slice none 0 0], []⟩ 8 (by kernel_rfl) (by kernel_rfl) (by kernel_rfl)
   (x := ([.nil], [], [])) (by kernel_rfl) rfl (by kernel_rfl)) ?_
 intro W base args ds gs before hval hW _ hk _;have hW' := hW;obtain ⟨p, q, hA0, hV, rfl, hfz, hnd⟩ := hW;have hA : DataW.TrodAll enc Try.prog W 0 (fun _ => true) true Try.f7.params.toList args.toList ds p := hA0;rw [Try.params7] at hA hval;obtain ⟨v0, vs0, d0, ds0, p0, q0, hargs, rfl, rfl, h0, r0⟩ := trodAll_cons hA;obtain ⟨rfl, rfl, rfl⟩ := trodAll_nil r0;obtain rfl : args = #[v0] := by cases args; simp_all
 obtain ⟨rfl, rfl⟩ := trodVars_none hV;simp only [Rows.uptoSmall, List.append_nil, decide_eq_true_eq, Rows.uptoBulkAll] at hk;have i0 := trod_ir h0 (n := 12) (by kernel_rfl) (hval 0 55 v0 rfl rfl);have k0 := h0;have lt0 : ∀ x ∈ p0, x.block < W.heap.size := by obtain ⟨m, hm⟩ := k0; exact DataW.trod_lt m _ _ _ hm
 obtain ⟨y0, b0, hb0, sl0, ok0⟩ := arg_strs (Rd.of h0)
 have hlaw : Ev pv 7 [dval d0] ⟨[], 0, 0⟩ (.bool true) ⟨[], 0, 0⟩ := by
  rw [hb0];exact law y0 b0 sl0 (ok0 (by omega))
 have hir : ∀ (i : Nat) c v, [dval d0][i]? = some c → [v0][i]? = some v → IR W (fun b => b < W.heap.size) c v := by
  intro i c v hc hv
  match i, hc, hv with
  | 0, hc, hv => cases hc; cases hv; exact i0
 clear hA0;refine (law_calls view hlaw (us := [v0]) rfl hir).mono fun e W' ⟨he, bel⟩ => ?_;subst he;exact ⟨_, rfl, _, _, _, [], _, [], hW', trodAll_mk1 (shut_bool Try.underlying4 _), (trodAll_cons_mk (Below.trod laidOut (by kernel_rfl) (of_decide_eq_true (by kernel_rfl)) k0 bel lt0) trodAll_mk0), rfl, bel.frame _, fun h => by cases h⟩
theorem proved : Rows.CheckMadeUptoSaid :=
 OpenClaim.holds_of_cond 7 Try.f7 rfl rfl rfl rfl rfl rfl rfl ⟨rfl, rfl, rfl, rfl, rfl⟩ rfl rfl rfl rfl rfl (by kernel_rfl) Try.func7 (by kernel_rfl)
  (of_decide_eq_true (by kernel_rfl)) (by unfold Func.isWrapper; rw [if_neg (by decide +kernel)]; exact ⟨rfl, rfl⟩)
  (fun os started H enc _ F => lifted os started H enc F)
end Go.Proofs.Ytbdilgkfnacahaa.checkMade
#print axioms Go.Proofs.Ytbdilgkfnacahaa.checkMade.proved
