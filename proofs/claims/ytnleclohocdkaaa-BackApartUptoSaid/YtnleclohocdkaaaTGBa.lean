/- own -/
import Derived.Test.YtnleclohocdkaaaTGQe
import Derived.Test.YtnleclohocdkaaaTGM3
import Derived.Test.YtnleclohocdkaaaTGCa
import Derived.Test.YtnleclohocdkaaaTGPc
set_option maxRecDepth 100000
set_option maxHeartbeats 4000000
set_option linter.unusedSimpArgs false
set_option linter.unusedVariables false
set_option linter.unusedSectionVars false
namespace Go.Proofs.Ytnleclohocdkaaa
open Go.V Go
def ixF_Ba (fr : Go.V.Fr) (k : Nat) : Go.V.D := Go.V.nth .junk fr.loc k
abbrev Cps := Nat → Int
def capsC (f : Cps) : List D := [.int .i64 (f 0), .int .i64 (f 1), .int .i64 (f 2), .int .i64 (f 3), .int .i64 (f 4), .int .i64 (f 5), .int .i64 (f 6), .int .i64 (f 7), .int .i64 (f 8), .int .i64 (f 9)]
def noCaps : Cps := fun _ => -1
def zeroCaps : Cps := fun _ => 0
def setC (f : Cps) (x : Nat) (v : Int) : Cps := fun j => if j = x then v else f j
structure Tr3 where
 pc : Nat
 at_ : Nat
 c : Cps
def tryC (t : Tr3) : List D := .int .i64 (t.pc : Nat) :: .int .i64 (t.at_ : Nat) :: capsC t.c
theorem set_caps {a b : D} {f : Cps} {x : Nat} {v : Int} (hx : x < 10) : setMany (a :: b :: capsC f) (2 + x) [.int .i64 v] = a :: b :: capsC (setC f x v) := by
 match x, hx with
 | 0, _ => rfl
 | 1, _ => rfl
 | 2, _ => rfl
 | 3, _ => rfl
 | 4, _ => rfl
 | 5, _ => rfl
 | 6, _ => rfl
 | 7, _ => rfl
 | 8, _ => rfl
 | 9, _ => rfl
inductive Res where
 | found
 | more (l : List Tr3)
def stepS (code : List PIns) (gs : List (Nat × Nat)) (pl : List Int) (t : Tr3) : Res :=
 match code[t.pc]? with
 | none => .more []
 | some i =>
  if i.op = 7 then .found
  else if i.op = 2 then .more [⟨i.x.toNat, t.at_, t.c⟩, ⟨i.y.toNat, t.at_, t.c⟩]
  else if i.op = 3 then .more [⟨i.x.toNat, t.at_, t.c⟩]
  else if i.op = 4 then .more [⟨t.pc + 1, t.at_, setC t.c i.x.toNat (pl.getD t.at_ 0)⟩]
  else if i.op = 5 then .more (if t.at_ = 0 then [⟨t.pc + 1, t.at_, t.c⟩] else [])
  else if i.op = 6 then .more (if t.at_ = gs.length then [⟨t.pc + 1, t.at_, t.c⟩] else [])
  else .more (if t.at_ < gs.length ∧ hasS i.rs ((gs.getD t.at_ (0, 0)).1 : Nat) = true then [⟨t.pc + 1, t.at_ + 1, t.c⟩] else [])
theorem shaped_cases {n ns pc : Nat} {i : PIns} (h : shapedS n ns pc i = true) :
  i.op = 7 ∨ (i.op = 2 ∧ (0 ≤ i.x ∧ i.x < (n : Int)) ∧ 0 ≤ i.y ∧ i.y < (n : Int)) ∨ (i.op = 3 ∧ 0 ≤ i.x ∧ i.x < (n : Int)) ∨ (i.op = 4 ∧ pc + 1 < n ∧ 0 ≤ i.x ∧ i.x < 10) ∨ (i.op = 5 ∧ pc + 1 < n) ∨ (i.op = 6 ∧ pc + 1 < n) ∨ (i.op = 1 ∧ pc + 1 < n) := by
 unfold shapedS at h
 split at h
 ·rename_i h1;simp only [Bool.and_eq_true, decide_eq_true_eq] at h;refine .inr (.inr (.inr (.inr (.inr (.inr ⟨h1, ?_⟩)))));omega
 ·simp only [Bool.and_eq_true] at h;obtain ⟨_, h⟩ := h
  split at h
  ·rename_i h2;simp only [Bool.and_eq_true] at h;exact .inr (.inl ⟨h2, inS_iff.1 h.1, inS_iff.1 h.2⟩)
  ·simp only [Bool.and_eq_true] at h;obtain ⟨_, h⟩ := h
   split at h
   ·rename_i h3;exact .inr (.inr (.inl ⟨h3, inS_iff.1 h⟩))
   ·split at h
    ·rename_i h4;simp only [Bool.and_eq_true, decide_eq_true_eq] at h;exact .inr (.inr (.inr (.inl ⟨h4, by omega, inS_iff.1 h.2⟩)))
    ·split at h
     ·rename_i h5;simp only [Bool.and_eq_true, decide_eq_true_eq] at h
      rcases h5 with h5 | h5
      ·exact .inr (.inr (.inr (.inr (.inl ⟨h5, by omega⟩))))
      ·exact .inr (.inr (.inr (.inr (.inr (.inl ⟨h5, by omega⟩)))))
     ·split at h
      ·rename_i h7;exact .inl h7
      ·cases h
def stepPost (N : Nat) (S : St) (k : Nat) (p : Pg) (gs : List (Nat × Nat)) (plD seenD : D) (pls : List Int) (H : List Ent) (t : Tr3) (stk : List Tr3) (d : D) (st' : St) : Prop :=
 match stepS p.code gs pls t with
 | .found => d = .tup [.agg (capsC t.c), .bool true] ∧ ∃ leftD, Has N S st' (.box k (.mem 0 false [p.cd, p.sd, gotsD gs, plD, seenD, leftD]) :: .lst leftD 12 (stk.reverse.map tryC) :: .lst plD 1 (pls.map intC) :: H)
 | .more l => d = .tup [.agg (capsC zeroCaps), .bool false] ∧ ∃ leftD, Has N S st' (.box k (.mem 0 false [p.cd, p.sd, gotsD gs, plD, seenD, leftD]) :: .lst leftD 12 ((l ++ stk).reverse.map tryC) :: .lst plD 1 (pls.map intC) :: H)
theorem step_ev {N : Nat} {S st : St} {H : List Ent} {k : Nat} {p : Pg} {gs : List (Nat × Nat)} {plD seenD leftD : D} {pls : List Int} {t : Tr3} {stk : List Tr3} {i : PIns} (hF : S.flr ≤ N) (hp : p.ok) (hi : p.code[t.pc]? = some i) (hsh : shapedS p.code.length p.starts.length t.pc i = true) (hgl : gs.length ≤ 1048576) (hat : t.at_ ≤ gs.length) (hpl : pls.length = gs.length + 1) (hsl : stk.length ≤ 536870912)
  (hH : Has N S st (.box k (.mem 0 false [p.cd, p.sd, gotsD gs, plD, seenD, leftD]) :: .lst leftD 12 (stk.reverse.map tryC) :: .lst plD 1 (pls.map intC) :: H)) :
  ∃ d st', Ev pv 84 [.ptr k 0 0, .agg (tryC t)] st d st' ∧ stepPost N S k p gs plD seenD pls H t stk d st' := by
 have hc := hp.c.arg N S;have hlen := hp.cl;have hgr : Arg N S 2 (gotsD gs) (gs.map gotC) := Arg.pure (fun st => gots_rows st gs);have hr := ins_get hi;have hrd := (hp.i i (List.mem_of_getElem? hi)).1;have hra := hrd.arg N S;have hrl := (hp.i i (List.mem_of_getElem? hi)).2;have hlt := lt_get hi;have hcases := shaped_cases hsh;obtain ⟨op, x, y, rd, rs⟩ := i;obtain ⟨pc, at_, c⟩ := t;simp only at *;refine Ev.mkE rfl fi84 rfl rfl rfl ?_;dsimp only [u3, u4, List.length, Nat.reduceSub, Nat.reduceAdd, w1, w2];change EvC _ _ _ _ st _;refine qq ?_;refine qj fun K hK => ?_;refine qb hH fun k3 st hk3 hH => ?_;dsimp only [u2, u1, u3, u4, setMany, u5, u6, D.cells, Nat.reduceAdd, insC, intC, tryC, capsC] at hH;refine qa hH fun k4 st hk4 hH => ?_;refine qm ?_;refine qe hK ?_;refine qq ?_;refine qj fun K hK => ?_;refine qm ?_;refine qg ?_;refine qp (o := 0) ?_;refine qp (o := 0) ?_;refine ql hH at2 ?_;refine qp (o := 0) ?_;refine ql hH at1 ?_;refine qr fun p15 hp15 => ?_;refine EvO.rloadS rfl (ev rfl) (by assumption) rfl (by dsimp only [Fr.put, u1, u2] <;> rfl) ?_;refine qa hH fun k6 st hk6 hH => ?_;refine qS hH at0 fun st hH => ?_;dsimp only [u2, u1, u3, u4, setMany, u5, u6, D.cells, Nat.reduceAdd, insC, intC, tryC, capsC] at hH;refine qe hK ?_;refine qq ?_;refine qj fun K hK => ?_;refine EvO.hloadS (m := 12) hH rfl (ev rfl) (by exact at2) (by dsimp only [List.drop_succ_cons, List.drop_zero, List.take_succ_cons, List.take_zero, insC, intC, tryC, capsC] <;> rfl) rfl rfl (by dsimp only [Fr.put, u1, u2] <;> rfl) ?_;refine qa hH fun k7 st hk7 hH => ?_;refine qS hH at0 fun st hH => ?_;dsimp only [u2, u1, u3, u4, setMany, u5, u6, D.cells, Nat.reduceAdd, insC, intC, tryC, capsC] at hH;refine qe hK ?_;refine qq ?_;refine qj fun K hK => ?_;refine qp (o := 0) ?_;refine ql hH at0 ?_;refine qA ?_;refine qp (o := 0) ?_;refine qT hH at0 fun st hH => ?_;dsimp only [u2, u1, u3, u4, setMany, u5, u6, D.cells, Nat.reduceAdd, insC, intC, tryC, capsC] at hH;refine qe hK ?_;refine qq ?_;refine qq ?_;refine qj fun K hK => ?_;refine qp (o := 0) ?_;refine ql hH at1 ?_;refine qe hK ?_;have hze : D.agg [.int .i64 0, .int .i64 0, .int .i64 0, .int .i64 0, .int .i64 0, .int .i64 0, .int .i64 0, .int .i64 0, .int .i64 0, .int .i64 0] = .agg (capsC zeroCaps) := rfl;refine EvC.merge (fun fr st => ∃ (t' : Tr3) (tmp : List (Nat × D)), fr = ⟨24, [.ptr k 0 0, ixF_Ba fr 1, ixF_Ba fr 2, .ptr k3 0 0, .ptr k4 0 0, .bool false, .ptr k6 0 0, .ptr k7 0 0, ixF_Ba fr 8, ixF_Ba fr 9, ixF_Ba fr 10, ixF_Ba fr 11, ixF_Ba fr 12, ixF_Ba fr 13, ixF_Ba fr 14, ixF_Ba fr 15, ixF_Ba fr 16, ixF_Ba fr 17, ixF_Ba fr 18, ixF_Ba fr 19, ixF_Ba fr 20, ixF_Ba fr 21, ixF_Ba fr 22, ixF_Ba fr 23], tmp⟩ ∧ Has N S st (.box k7 (.mem 0 false (tryC t')) :: .box k6 (.mem 0 false [.int .i64 op, .int .i64 x, .int .i64 y, rd]) :: .box k4 (.mem 0 false (capsC zeroCaps)) :: .box k3 (.mem 0 false (tryC ⟨pc, at_, c⟩)) :: .box k (.mem 0 false [p.cd, p.sd, gotsD gs, plD, seenD, leftD]) :: .lst leftD 12 (stk.reverse.map tryC) :: .lst plD 1 (pls.map intC) :: H) ∧ (stepS p.code gs pls ⟨pc, at_, c⟩ = .more [t'])) ?_ ?_
 ·refine EvC.block ?_;refine qq ?_;refine qj fun K hK => ?_;refine qg ?_;refine qm ?_;refine qe hK ?_;refine EvC.cond (by rfl) (fun h7 => ?_) (fun h7 => ?_) <;> try simp only [beq_iff_eq, beq_eq_false_iff_ne, ne_eq] at h7
  ·have hS : stepS p.code gs pls ⟨pc, at_, c⟩ = .found := by unfold stepS; simp only [hi]; rw [if_pos h7]
   refine qq ?_;refine qj fun K hK => ?_;refine qp (o := 2) ?_;refine EvO.hloadS (m := 10) hH rfl (ev rfl) (by exact at3) (by dsimp only [List.drop_succ_cons, List.drop_zero, List.take_succ_cons, List.take_zero, insC, intC, tryC, capsC] <;> rfl) rfl rfl (put_T rfl _) ?_;refine qS hH at2 fun st hH => ?_;dsimp only [u2, u1, u3, u4, setMany, u5, u6, D.cells, Nat.reduceAdd, insC, intC, tryC, capsC] at hH;refine qm ?_;refine qe hK ?_;refine EvC.ret ⟨rx, _, _, _, hH.resCellT rfl at2 rfl rfl, rfl, ?_⟩;unfold stepPost; rw [hS];exact ⟨rfl, leftD, hH.drop 4⟩
  ·refine qq ?_;refine qj fun K hK => ?_;refine qg ?_;refine qm ?_;refine qe hK ?_;refine EvC.cond (by rfl) (fun h2 => ?_) (fun h2 => ?_) <;> try simp only [beq_iff_eq, beq_eq_false_iff_ne, ne_eq] at h2
   ·obtain ⟨_, ⟨hx0, hx1⟩, hy0, hy1⟩ := (hcases.resolve_left h7).resolve_right (by omega);obtain ⟨xn, rfl⟩ := Int.eq_ofNat_of_zero_le hx0;obtain ⟨yn, rfl⟩ := Int.eq_ofNat_of_zero_le hy0;have hS : stepS p.code gs pls ⟨pc, at_, c⟩ = .more [⟨xn, at_, c⟩, ⟨yn, at_, c⟩] := by unfold stepS; simp only [hi]; rw [if_neg h7, if_pos h2]; rfl
    refine qq ?_;refine qj fun K hK => ?_;refine qm ?_;refine qm ?_;refine qg ?_;refine qp (o := 5) ?_;refine ql hH at4 ?_;refine qp (o := 2) ?_;refine ql hH at1 ?_;refine qp (o := 1) ?_;refine ql hH at3 ?_;refine qp (o := 2) ?_;refine EvO.hloadS (m := 10) hH rfl (ev rfl) (by exact at3) (by dsimp only [List.drop_succ_cons, List.drop_zero, List.take_succ_cons, List.take_zero, insC, intC, tryC, capsC] <;> rfl) rfl rfl (put_T rfl _) ?_;refine EvO.go (d := .agg (tryC ⟨yn, at_, c⟩)) (st1 := _) rfl rfl rfl (put_T rfl _) ?_;refine qp (o := 1) ?_;refine ql hH at1 ?_;refine qp (o := 1) ?_;refine ql hH at3 ?_;refine qp (o := 2) ?_;refine EvO.hloadS (m := 10) hH rfl (ev rfl) (by exact at3) (by dsimp only [List.drop_succ_cons, List.drop_zero, List.take_succ_cons, List.take_zero, insC, intC, tryC, capsC] <;> rfl) rfl rfl (put_T rfl _) ?_;refine EvO.go (d := .agg (tryC ⟨xn, at_, c⟩)) (st1 := _) rfl rfl rfl (put_T rfl _) ?_;refine qh (s := 12) (vs := [_, _]) hH fun k49 st hk49 hH => ?_;dsimp only [u2, u1, u3, u4, setMany, u5, u6, D.cells, Nat.reduceAdd, insC, intC, tryC, capsC] at hH;refine EvO.happend (s := 12) hH rfl (ev rfl) (ev rfl) (by exact at6) (by exact hH.rows (by exact at0)) rfl rfl rfl rfl rfl rfl rfl ⟨(Nat.le_of_ble_eq_true rfl), (Nat.le_of_ble_eq_true rfl)⟩ (fun _ => (put_T rfl _)) (by simp only [List.length_cons, List.length_nil, List.length_map, List.length_reverse] <;> omega) (by exact .inl hF) (fun x50 st hH => ?_);dsimp only [u2, u1, u3, u4, setMany, u5, u6, D.cells, Nat.reduceAdd, insC, intC, tryC, capsC] at hH;refine qg ?_;refine qp (o := 5) ?_;refine qT hH at5 (fun st hH => ?_) (hcs := hH.ocells at6);dsimp only [u2, u1, u3, u4, setMany, u5, u6, D.cells, Nat.reduceAdd, insC, intC, tryC, capsC] at hH;refine qe hK ?_;refine qq ?_;refine qj fun K hK => ?_;refine EvO.go (d := .agg (capsC zeroCaps)) (st1 := _) rfl rfl rfl (put_T rfl _) ?_;refine qS hH at3 fun st hH => ?_;dsimp only [u2, u1, u3, u4, setMany, u5, u6, D.cells, Nat.reduceAdd, insC, intC, tryC, capsC] at hH;refine qm ?_;refine qe hK ?_;refine EvC.ret ⟨rx, _, _, _, hH.resCellT rfl at3 rfl rfl, rfl, ?_⟩;unfold stepPost; rw [hS];refine ⟨rfl, x50, ?_⟩;have hrv : ((([⟨xn, at_, c⟩, ⟨yn, at_, c⟩] : List Tr3) ++ stk).reverse.map tryC) = stk.reverse.map tryC ++ [tryC ⟨yn, at_, c⟩, tryC ⟨xn, at_, c⟩] := by simp
    rw [hrv];exact hH.drop 5
   ·refine qq ?_;refine qj fun K hK => ?_;refine qg ?_;refine qm ?_;refine qe hK ?_;refine EvC.cond (by rfl) (fun h3 => ?_) (fun h3 => ?_) <;> try simp only [beq_iff_eq, beq_eq_false_iff_ne, ne_eq] at h3
    ·obtain ⟨_, hx0, hx1⟩ := ((hcases.resolve_left h7).resolve_left (by omega)).resolve_right (by omega);obtain ⟨xn, rfl⟩ := Int.eq_ofNat_of_zero_le hx0;refine qj fun K hK => ?_;refine qp (o := 1) ?_;refine ql hH at1 ?_;refine qp (o := 0) ?_;refine qT hH at0 fun st hH => ?_;dsimp only [u2, u1, u3, u4, setMany, u5, u6, D.cells, Nat.reduceAdd, insC, intC, tryC, capsC] at hH;refine qe hK ?_;exact ⟨⟨xn, at_, c⟩, _, rfl, hH, by unfold stepS; simp only [hi]; rw [if_neg h7, if_neg h2, if_pos h3]; rfl⟩
    ·refine qq ?_;refine qj fun K hK => ?_;refine qg ?_;refine qm ?_;refine qe hK ?_;refine EvC.cond (by rfl) (fun h4 => ?_) (fun h4 => ?_) <;> try simp only [beq_iff_eq, beq_eq_false_iff_ne, ne_eq] at h4
     ·obtain ⟨_, hpc1, hx0, hx1⟩ := (((hcases.resolve_left h7).resolve_left (by omega)).resolve_left (by omega)).resolve_right (by omega);obtain ⟨xn, rfl⟩ := Int.eq_ofNat_of_zero_le hx0
      obtain ⟨pv0, hpv⟩ : ∃ v, pls[at_]? = some v := ⟨pls[at_]'(by omega), List.getElem?_eq_getElem _⟩
      have hr1 := int_get hpv;refine qj fun K hK => ?_;refine qp (o := 1) ?_;refine ql hH at1 ?_;refine qm ?_;refine qg ?_;refine qp (o := 3) ?_;refine ql hH at4 ?_;refine qp (o := 1) ?_;refine ql hH at3 ?_;refine qi hH at6 fun p69 hp69 => ?_;refine qo hH at6 ?_;refine qp (o := 2) ?_;refine EvO.harr (m := 10) (s := 1) (i := xn) (o := 2 + xn) rfl (ev rfl) (ev rfl) rfl rfl (by omega) (by omega) (put_T rfl _) ?_;refine EvO.hstore hH rfl (ev rfl) (ev rfl) rfl (by exact rfl) at0 (by show 2 + xn + 1 ≤ 12; omega) (.inl hF) (fun st hH => ?_);change Has _ _ _ (.box k7 (.mem 0 false (setMany (_ :: _ :: capsC c) (2 + xn) [.int .i64 pv0])) :: _) at hH;rw [set_caps (by omega)] at hH;refine qe hK ?_;refine ⟨⟨pc + 1, at_, setC c xn pv0⟩, _, rfl, hH, by unfold stepS; simp only [hi]; rw [if_neg h7, if_neg h2, if_neg h3, if_pos h4]; simp [List.getD_eq_getElem?_getD, hpv]⟩
     ·refine qq ?_;refine qj fun K hK => ?_;refine qg ?_;refine qm ?_;refine qe hK ?_;refine EvC.cond (by rfl) (fun h5 => ?_) (fun h5 => ?_) <;> try simp only [beq_iff_eq, beq_eq_false_iff_ne, ne_eq] at h5
      ·refine qq ?_;refine qj fun K hK => ?_;refine qp (o := 1) ?_;refine ql hH at3 ?_;refine qg ?_;refine qe hK ?_
       by_cases ha : at_ = 0
       ·subst ha;refine EvC.cond (v := false) (by dsimp only [Fr.ev, Fr.get, nth, V.look]; rfl) (fun h => by cases h) (fun _ => ?_);refine EvC.skip ?_;exact ⟨⟨pc + 1, 0, c⟩, _, rfl, hH, by unfold stepS; simp only [hi]; rw [if_neg h7, if_neg h2, if_neg h3, if_neg h4, if_pos h5]; rfl⟩
       ·refine qD rfl (by simp; omega) ?_;refine qq ?_;refine qj fun K hK => ?_;refine EvO.go (d := .agg (capsC zeroCaps)) (st1 := _) rfl rfl rfl (put_T rfl _) ?_;refine qS hH at2 fun st hH => ?_;dsimp only [u2, u1, u3, u4, setMany, u5, u6, D.cells, Nat.reduceAdd, insC, intC, tryC, capsC] at hH;refine qm ?_;refine qe hK ?_;refine EvC.ret ⟨rx, _, _, _, hH.resCellT rfl at2 rfl rfl, rfl, ?_⟩;have hS : stepS p.code gs pls ⟨pc, at_, c⟩ = .more [] := by unfold stepS; simp only [hi]; rw [if_neg h7, if_neg h2, if_neg h3, if_neg h4, if_pos h5, if_neg ha]
        unfold stepPost; rw [hS];exact ⟨rfl, leftD, hH.drop 4⟩
      ·refine qq ?_;refine qj fun K hK => ?_;refine qg ?_;refine qm ?_;refine qe hK ?_;refine EvC.cond (by rfl) (fun h6 => ?_) (fun h6 => ?_) <;> try simp only [beq_iff_eq, beq_eq_false_iff_ne, ne_eq] at h6
       ·refine qq ?_;refine qj fun K hK => ?_;refine qp (o := 1) ?_;refine ql hH at3 ?_;refine qm ?_;refine qg ?_;refine qp (o := 2) ?_;refine ql hH at4 ?_;refine qn ?_;simp only [List.length_map];refine qg ?_;refine qe hK ?_
        by_cases ha : at_ = gs.length
        ·refine qE rfl (by rw [ha]; simp) ?_;refine EvC.skip ?_;exact ⟨⟨pc + 1, at_, c⟩, _, rfl, hH, by unfold stepS; simp only [hi]; rw [if_neg h7, if_neg h2, if_neg h3, if_neg h4, if_neg h5, if_pos h6, if_pos ha]⟩
        ·refine qD rfl (by simp; omega) ?_;refine qq ?_;refine qj fun K hK => ?_;refine EvO.go (d := .agg (capsC zeroCaps)) (st1 := _) rfl rfl rfl (put_T rfl _) ?_;refine qS hH at2 fun st hH => ?_;dsimp only [u2, u1, u3, u4, setMany, u5, u6, D.cells, Nat.reduceAdd, insC, intC, tryC, capsC] at hH;refine qm ?_;refine qe hK ?_;refine EvC.ret ⟨rx, _, _, _, hH.resCellT rfl at2 rfl rfl, rfl, ?_⟩;have hS : stepS p.code gs pls ⟨pc, at_, c⟩ = .more [] := by unfold stepS; simp only [hi]; rw [if_neg h7, if_neg h2, if_neg h3, if_neg h4, if_neg h5, if_pos h6, if_neg ha]
         unfold stepPost; rw [hS];exact ⟨rfl, leftD, hH.drop 4⟩
       ·have h1 : op = 1 := by omega
        refine qq ?_;refine qj fun K hK => ?_;refine qg ?_;refine qm ?_;refine qe hK ?_;refine qD rfl (by simp [h1]) ?_
        have hno : ∀ b, stepS p.code gs pls ⟨pc, at_, c⟩ = .more b ↔ (.more (if at_ < gs.length ∧ hasS rs ((gs.getD at_ (0, 0)).1 : Nat) = true then [⟨pc + 1, at_ + 1, c⟩] else []) : Res) = .more b := by
         intro b; unfold stepS; simp only [hi]; rw [if_neg h7, if_neg h2, if_neg h3, if_neg h4, if_neg h5, if_neg h6]
        by_cases ha : at_ < gs.length
        ·obtain ⟨g, hg⟩ : ∃ g, gs[at_]? = some g := ⟨gs[at_]'ha, List.getElem?_eq_getElem _⟩
         have hr1 : (gs.map gotC)[at_]? = some (gotC g) := by rw [List.getElem?_map, hg]; rfl
         have hgd : gs.getD at_ (0, 0) = g := by rw [List.getD_eq_getElem?_getD, hg]; rfl
         have hg8 : decide ((at_ : Int) ≥ (gs.length : Nat)) = false := by rw [decide_eq_false]; simp; omega
         rw [hgd] at hno;refine qq ?_;refine qq ?_;refine EvC.cutT 114 (.bool (!hasS rs (g.1 : Nat))) [] ?_ (fun ff tmp htmp => ?_)
         ·refine qp (o := 1) ?_;refine ql hH at3 ?_;refine qm ?_;refine qg ?_;refine qp (o := 2) ?_;refine ql hH at4 ?_;refine qn ?_;simp only [List.length_map];refine qg ?_;refine qm ?_;refine qp (o := 3) ?_ (hg := wi hg8);refine ql hH at1 ?_ (hg := wi hg8);refine qm ?_ (hg := wi hg8);refine qg ?_ (hg := wi hg8);refine qp (o := 2) ?_ (hg := wi hg8);refine ql hH at4 ?_ (hg := wi hg8);refine qp (o := 1) ?_ (hg := wi hg8);refine ql hH at3 ?_ (hg := wi hg8);refine qr (fun p109 hp109 => ?_) (hg := wi hg8);refine qf (fo := 0) (fun p110 hp110 => ?_) (hg := wi hg8);refine qR ?_ (hg := wi hg8);refine qv (has_ev (hra.rows hH) (by omega)) ?_ (hg := wi hg8);refine qg ?_ (hg := wi hg8);refine qu hg8 ?_;refine EvO.nil (leafT ?_ ?_)
          ·dsimp only [setW, List.foldl, nth, u2, u1]
           all_goals (first | rfl | simp)
          ·dsimp only [Fr.putO, Fr.put, Fr.clean, Fr.ev, Fr.get, nth, look, u1, u2, v1, v2, v4]
           all_goals (first | rfl | (simp [hg8]; done) | (simp_all; done) | (simp [hg8]; omega) | (simp_all; omega))
         dsimp only [setW, List.foldl, nth, u2, u1];refine EvC.cond (by assumption) (fun hh => ?_) (fun hh => ?_) <;> try simp only [Bool.not_eq_true', Bool.not_eq_false'] at hh
         ·refine qq ?_;refine qj fun K hK => ?_;refine EvO.go (d := .agg (capsC zeroCaps)) (st1 := _) rfl rfl rfl (put_T rfl _) ?_;refine qS hH at2 fun st hH => ?_;dsimp only [u2, u1, u3, u4, setMany, u5, u6, D.cells, Nat.reduceAdd, insC, intC, tryC, capsC] at hH;refine qm ?_;refine qe hK ?_;refine EvC.ret ⟨rx, _, _, _, hH.resCellT rfl at2 rfl rfl, rfl, ?_⟩;have hS := (hno []).2 (by rw [if_neg (by rintro ⟨_, h⟩; rw [h] at hh; cases hh)]);unfold stepPost; rw [hS];exact ⟨rfl, leftD, hH.drop 4⟩
         ·refine EvC.skip ?_;refine qj fun K hK => ?_;refine qp (o := 1) ?_;refine ql hH at0 ?_;refine qA ?_;refine qp (o := 1) ?_;refine qT hH at0 fun st hH => ?_;dsimp only [u2, u1, u3, u4, setMany, u5, u6, D.cells, Nat.reduceAdd, insC, intC, tryC, capsC] at hH;refine qe hK ?_;exact ⟨⟨pc + 1, at_ + 1, c⟩, _, rfl, hH, (hno _).2 (by rw [if_pos ⟨ha, by simpa using hh⟩])⟩
        ·have hg8 : decide ((at_ : Int) ≥ (gs.length : Nat)) = true := by rw [decide_eq_true]; simp; omega
         refine qq ?_;refine qq ?_;refine EvC.cutT 114 (.bool true) [] ?_ (fun ff tmp htmp => ?_)
         ·refine qp (o := 1) ?_;refine ql hH at3 ?_;refine qm ?_;refine qg ?_;refine qp (o := 2) ?_;refine ql hH at4 ?_;refine qn ?_;simp only [List.length_map];refine qg ?_;refine qm ?_;refine qs ?_ (hg := wn hg8);refine qs ?_ (hg := wn hg8);refine qs ?_ (hg := wn hg8);refine qs ?_ (hg := wn hg8);refine qs ?_ (hg := wn hg8);refine qs ?_ (hg := wn hg8);refine qs ?_ (hg := wn hg8);refine qs ?_ (hg := wn hg8);refine qs ?_ (hg := wn hg8);refine qs ?_ (hg := wn hg8);refine qs ?_ (hg := wn hg8);refine qs ?_ (hg := wn hg8);refine qs ?_ (hg := wn hg8);refine qt hg8 ?_;refine EvO.nil (leafT ?_ ?_)
          ·dsimp only [setW, List.foldl, nth, u2, u1]
           all_goals (first | rfl | simp)
          ·dsimp only [Fr.putO, Fr.put, Fr.clean, Fr.ev, Fr.get, nth, look, u1, u2, v1, v2, v4]
           all_goals (first | rfl | (simp [hg8]; done) | (simp_all; done) | (simp [hg8]; omega) | (simp_all; omega))
         dsimp only [setW, List.foldl, nth, u2, u1];refine qB ?_;refine qq ?_;refine qj fun K hK => ?_;refine EvO.go (d := .agg (capsC zeroCaps)) (st1 := _) rfl rfl rfl (put_T rfl _) ?_;refine qS hH at2 fun st hH => ?_;dsimp only [u2, u1, u3, u4, setMany, u5, u6, D.cells, Nat.reduceAdd, insC, intC, tryC, capsC] at hH;refine qm ?_;refine qe hK ?_;refine EvC.ret ⟨rx, _, _, _, hH.resCellT rfl at2 rfl rfl, rfl, ?_⟩;have hS := (hno []).2 (by rw [if_neg (fun h => ha h.1)]);unfold stepPost; rw [hS];exact ⟨rfl, leftD, hH.drop 4⟩
 ·rintro fr st ⟨t', tmp, hfr, hH, hS⟩;rw [hfr];clear hfr;generalize ixF_Ba fr = ee;clear fr;obtain ⟨pc', at', c'⟩ := t';dsimp only [tryC, capsC] at hH;refine qq ?_;refine qj fun K hK => ?_;refine qm ?_;refine qm ?_;refine qg ?_;refine qp (o := 5) ?_;refine ql hH at4 ?_;refine EvO.hloadS (m := 12) hH rfl (ev rfl) (by exact at0) (by dsimp only [List.drop_succ_cons, List.drop_zero, List.take_succ_cons, List.take_zero, insC, intC, tryC, capsC] <;> rfl) rfl rfl (put_T rfl _) ?_;refine qh (s := 12) (vs := [_]) hH fun k126 st hk126 hH => ?_;refine EvO.happend (s := 12) hH rfl (ev rfl) (ev rfl) (by exact at6) (by exact hH.rows (by exact at0)) rfl rfl rfl rfl rfl rfl rfl ⟨(Nat.le_of_ble_eq_true rfl), (Nat.le_of_ble_eq_true rfl)⟩ (fun _ => (put_T rfl _)) (by simp only [List.length_cons, List.length_nil, List.length_map, List.length_reverse] <;> omega) (by exact .inl hF) (fun x127 st hH => ?_);dsimp only [u2, u1, u3, u4, setMany, u5, u6, D.cells, Nat.reduceAdd, insC, intC, tryC, capsC] at hH;refine qg ?_;refine qp (o := 5) ?_;refine qT hH at5 (fun st hH => ?_) (hcs := hH.ocells at6);dsimp only [u2, u1, u3, u4, setMany, u5, u6, D.cells, Nat.reduceAdd, insC, intC, tryC, capsC] at hH;refine qe hK ?_;refine qq ?_;refine qj fun K hK => ?_;refine EvO.go (d := .agg (capsC zeroCaps)) (st1 := _) rfl rfl rfl (put_T rfl _) ?_;refine qS hH at3 fun st hH => ?_;dsimp only [u2, u1, u3, u4, setMany, u5, u6, D.cells, Nat.reduceAdd, insC, intC, tryC, capsC] at hH;refine qm ?_;refine qe hK ?_;refine EvC.ret ⟨rx, _, _, _, hH.resCellT rfl at3 rfl rfl, rfl, ?_⟩;unfold stepPost; rw [hS];refine ⟨rfl, x127, ?_⟩;have hrv : ((([⟨pc', at', c'⟩] : List Tr3) ++ stk).reverse.map tryC) = stk.reverse.map tryC ++ [tryC ⟨pc', at', c'⟩] := by simp
  rw [hrv];exact hH.drop 5
def ixF_Bb (fr : Go.V.Fr) (k : Nat) : Go.V.D := Go.V.nth .junk fr.loc k
def dfsF (idx : Nat → Nat → Nat) (stp : Tr3 → Res) : Nat → List Bool → List Tr3 → Option Cps × List Bool
 | 0, arr, _ => (none, arr)
 | _ + 1, arr, [] => (none, arr)
 | f + 1, arr, t :: stk => match arr[idx t.pc t.at_]? with
  | some false => match stp t with
   | .found => (some t.c, arr.set (idx t.pc t.at_) true)
   | .more l => dfsF idx stp f (arr.set (idx t.pc t.at_) true) (l ++ stk)
  | _ => dfsF idx stp f arr stk
theorem step_len (code : List PIns) (gs : List (Nat × Nat)) (pl : List Int) (t : Tr3) : ∀ l, stepS code gs pl t = .more l → l.length ≤ 2 := by
 intro l h;unfold stepS at h
 split at h
 ·cases h; simp
 ·repeat' split at h
  all_goals (first | (cases h; done) | (cases h; simp; done) | (cases h; split <;> simp))
def okT (p : Pg) (gs : List (Nat × Nat)) (t : Tr3) : Prop := t.pc < p.code.length ∧ t.at_ ≤ gs.length
theorem step_ok {p : Pg} {gs : List (Nat × Nat)} {pl : List Int} (hR : RightQ p) {t : Tr3} (ht : okT p gs t) : ∀ l, stepS p.code gs pl t = .more l → ∀ u ∈ l, okT p gs u := by
 intro l h u hu;obtain ⟨h1, h2⟩ := ht
 obtain ⟨i, hi⟩ : ∃ i, p.code[t.pc]? = some i := ⟨p.code[t.pc]'h1, List.getElem?_eq_getElem _⟩
 have hc := shaped_cases (hR.sh t.pc i hi);unfold stepS at h;rw [hi] at h;simp only at h
 split at h
 ·cases h
 ·split at h
  ·cases h;simp only [List.mem_cons, List.not_mem_nil, or_false] at hu
   rcases hu with rfl | rfl
   ·exact ⟨by show i.x.toNat < _; omega, h2⟩
   ·exact ⟨by show i.y.toNat < _; omega, h2⟩
  ·split at h
   ·cases h;simp only [List.mem_cons, List.not_mem_nil, or_false] at hu;subst hu;exact ⟨by show i.x.toNat < _; omega, h2⟩
   ·split at h
    ·cases h;simp only [List.mem_cons, List.not_mem_nil, or_false] at hu;subst hu;exact ⟨by show t.pc + 1 < _; omega, h2⟩
    ·split at h
     ·cases h
      split at hu
      ·simp only [List.mem_cons, List.not_mem_nil, or_false] at hu;subst hu;exact ⟨by show t.pc + 1 < _; omega, h2⟩
      ·cases hu
     ·split at h
      ·cases h
       split at hu
       ·simp only [List.mem_cons, List.not_mem_nil, or_false] at hu;subst hu;exact ⟨by show t.pc + 1 < _; omega, h2⟩
       ·cases hu
      ·cases h
       split at hu
       ·rename_i h8;simp only [List.mem_cons, List.not_mem_nil, or_false] at hu;subst hu;exact ⟨by show t.pc + 1 < _; omega, by show t.at_ + 1 ≤ _; omega⟩
       ·cases hu
theorem try_last (v : Tr3) (r : List Tr3) : ((v :: r).reverse.map tryC)[r.length]? = some (tryC v) := by
 rw [List.getElem?_map, List.reverse_cons, List.getElem?_append_right (by simp)]; simp
theorem try_pop (v : Tr3) (r : List Tr3) : (((v :: r).reverse.map tryC).take r.length).drop 0 = r.reverse.map tryC := by
 rw [List.reverse_cons, List.map_append, List.drop_zero, List.take_left' (by simp)]
def outC (r : Option Cps) : D := match r with
 | some c => .tup [.agg (capsC c), .bool true]
 | none => .tup [.agg (capsC zeroCaps), .bool false]
def idxP (n : Nat) (pc at_ : Nat) : Nat := at_ * n + pc
theorem from3_ev {N : Nat} {S st : St} {H : List Ent} {k : Nat} {p : Pg} {gs : List (Nat × Nat)} {plD seenD leftD : D} {pls : List Int} {old : List (List D)} {arr : List Bool} {start i : Nat} (hF : S.flr ≤ N) (hp : p.ok) (hR : RightQ p) (hgl : gs.length ≤ 1048576) (hpl : pls.length = gs.length + 1) (hsz : (gs.length + 1) * p.code.length ≤ 134217728) (hal : arr.length = (gs.length + 1) * p.code.length) (hst : start < p.code.length) (hi : i ≤ gs.length)
  (hH : Has N S st (.box k (.mem 0 false [p.cd, p.sd, gotsD gs, plD, seenD, leftD]) :: .lst leftD 12 old :: .lst plD 1 (pls.map intC) :: .lst seenD 1 (arr.map boolC) :: H)) :
  ∃ d st', Ev pv 60 [.ptr k 0 0, .int .i64 (start : Nat), .int .i64 (i : Nat)] st d st' ∧ ∃ leftD' old', d = outC (dfsF (idxP p.code.length) (stepS p.code gs pls) (3 * arr.length + 1) arr [⟨start, i, noCaps⟩]).1 ∧
   Has N S st' (.box k (.mem 0 false [p.cd, p.sd, gotsD gs, plD, seenD, leftD']) :: .lst leftD' 12 old' :: .lst plD 1 (pls.map intC) :: .lst seenD 1 ((dfsF (idxP p.code.length) (stepS p.code gs pls) (3 * arr.length + 1) arr [⟨start, i, noCaps⟩]).2.map boolC) :: H) := by
 have hlen := hp.cl
 obtain ⟨R, hR0⟩ : ∃ R, dfsF (idxP p.code.length) (stepS p.code gs pls) (3 * arr.length + 1) arr [⟨start, i, noCaps⟩] = R := ⟨_, rfl⟩
 rw [hR0];have hcl0 := List.count_le_length (a := false) (l := arr);refine Ev.mkE rfl fi60 rfl rfl rfl ?_;dsimp only [u3, u4, List.length, Nat.reduceSub, Nat.reduceAdd, w1, w2];change EvC _ _ _ _ st _;refine qq ?_;refine qj fun K hK => ?_;refine qa hH fun k6 st hk6 hH => ?_;refine qm ?_;refine qe hK ?_;refine qq ?_;refine qj fun K hK => ?_;refine qm ?_;refine qm ?_;refine qg ?_;refine qp (o := 5) ?_;refine ql hH at1 ?_;refine EvO.oslice hH rfl (ev rfl) (by exact at2) rfl rfl (bounds_to (n := 0) (by omega)) ⟨by omega, by omega⟩ (fun _ => (put_T rfl _)) (fun y17 hH => ?_);dsimp only [u1, u2, List.take_zero] at hH;rw [List.drop_nil] at hH;refine qm ?_;refine qm ?_;refine qv (Ev.prim rfl rfl) ?_;refine EvO.go (d := .agg (tryC ⟨start, i, noCaps⟩)) (st1 := _) rfl rfl rfl (put_T rfl _) ?_;refine qh (s := 12) (vs := [_]) hH fun k22 st hk22 hH => ?_;dsimp only [u2, u1, u3, u4, setMany, u5, u6, D.cells, Nat.reduceAdd, insC, intC, boolC, tryC, capsC, noCaps, zeroCaps] at hH;refine EvO.happend (s := 12) hH rfl (ev rfl) (ev rfl) (by exact at3) (by exact hH.rows (by exact at0)) rfl rfl rfl rfl rfl rfl rfl ⟨(Nat.le_of_ble_eq_true rfl), (Nat.le_of_ble_eq_true rfl)⟩ (fun _ => (put_T rfl _)) (by simp only [List.length_cons, List.length_nil, List.length_map] <;> omega) (by exact .inl hF) (fun x23 st hH => ?_);dsimp only [u2, u1, u3, u4, setMany, u5, u6, D.cells, Nat.reduceAdd, insC, intC, boolC, tryC, capsC, noCaps, zeroCaps] at hH;refine qg ?_;refine qp (o := 5) ?_;refine qT hH at2 (fun st hH => ?_) (hcs := hH.ocells at3);dsimp only [u2, u1, u3, u4, setMany, u5, u6, D.cells, Nat.reduceAdd, insC, intC, boolC, tryC, capsC, noCaps, zeroCaps] at hH;refine qe hK ?_;refine qq ?_;refine EvC.block ?_;refine EvC.loop (fun mm fr st => ∃ (ld : D) (ar : List Bool) (stk : List Tr3), fr.clean = ⟨12, [.ptr k 0 0, ixF_Bb fr 1, ixF_Bb fr 2, ixF_Bb fr 3, ixF_Bb fr 4, ixF_Bb fr 5, .ptr k6 0 0, .bool false, ixF_Bb fr 8, ixF_Bb fr 9, ixF_Bb fr 10, ixF_Bb fr 11], []⟩ ∧ Has N S st (.box k6 (.mem 0 false (capsC zeroCaps)) :: .box k (.mem 0 false [p.cd, p.sd, gotsD gs, plD, seenD, ld]) :: .lst ld 12 (stk.reverse.map tryC) :: .lst plD 1 (pls.map intC) :: .lst seenD 1 (ar.map boolC) :: H) ∧ (dfsF (idxP p.code.length) (stepS p.code gs pls) mm ar stk = R) ∧ (3 * ar.count false + stk.length ≤ mm) ∧ (ar.length = (gs.length + 1) * p.code.length) ∧ (∀ v ∈ stk, okT p gs v) ∧ (mm ≤ 3 * arr.length + 1)) (3 * arr.length + 1) ?_ ?_
 ·exact ⟨_, arr, [⟨start, i, noCaps⟩], rfl, (by exact hH.drop 1), hR0, (by simp only [List.length_cons, List.length_nil]; omega), hal, (by intro v hv; simp only [List.mem_cons, List.not_mem_nil, or_false] at hv; subst hv; exact ⟨hst, hi⟩), Nat.le_refl _⟩
 rintro mm fr st ⟨ld, ar, stk, hfr, hH, hd, hm, hal, hsk, hmm⟩;rw [hfr];clear hfr;generalize ixF_Bb fr = ee;clear fr
 rcases stk with _ | ⟨v, stk⟩
 ·refine qq ?_;refine qq ?_;refine qj fun K hK => ?_;refine qm ?_;refine qg ?_;refine qp (o := 5) ?_;refine ql hH at1 ?_;refine qn ?_ (hR := hH.rows at2);simp only [List.length_map, List.length_nil, List.length_reverse];refine qg ?_;refine qe hK ?_;refine EvC.cond (v := false) (by dsimp only [Fr.ev, Fr.get, nth, V.look]; rfl) (fun h => by cases h) (fun _ => ?_);refine EvC.exit ?_;refine qq ?_;refine qj fun K hK => ?_;refine EvO.go (d := .agg (capsC zeroCaps)) (st1 := _) rfl rfl rfl (put_T rfl _) ?_;refine qS hH at0 fun st hH => ?_;dsimp only [u2, u1, u3, u4, setMany, u5, u6, D.cells, Nat.reduceAdd, insC, intC, boolC, tryC, capsC, noCaps, zeroCaps] at hH;refine qm ?_;refine qe hK ?_;have hfin : R = (none, ar) := by rw [← hd]; cases mm <;> rfl
  refine EvC.ret ⟨rx, _, _, _, hH.resCellT rfl at0 rfl rfl, rfl, ?_⟩;rw [hfin];exact ⟨_, _, rfl, hH.drop 1⟩
 ·have hv := hsk v (List.mem_cons_self ..);obtain ⟨hv1, hv2⟩ := hv;have hst : ∀ w ∈ stk, okT p gs w := fun w hw => hsk w (List.mem_cons_of_mem _ hw);simp only [List.length_cons] at hm
  obtain ⟨mm, rfl⟩ : ∃ m', mm = m' + 1 := ⟨mm - 1, by omega⟩
  have hbd : v.at_ * p.code.length + v.pc < ar.length := by
   have h1 : (v.at_ + 1) * p.code.length ≤ (gs.length + 1) * p.code.length := Nat.mul_le_mul_right _ (by omega);rw [Nat.add_mul, Nat.one_mul] at h1;omega
  obtain ⟨b, hb⟩ : ∃ b, ar[idxP p.code.length v.pc v.at_]? = some b := ⟨ar[idxP p.code.length v.pc v.at_]'hbd, List.getElem?_eq_getElem _⟩
  obtain ⟨ii, hii⟩ : ∃ x, p.code[v.pc]? = some x := ⟨p.code[v.pc]'hv1, List.getElem?_eq_getElem _⟩
  have hsok := fun l => step_ok (pl := pls) hR (t := v) ⟨hv1, hv2⟩ l;have hsln := step_len p.code gs pls v;have hr1 := try_last v stk;have hr2 := bool_get hb
  obtain ⟨m, hm0⟩ : ∃ m, v.at_ * p.code.length = m := ⟨_, rfl⟩
  have hix : idxP p.code.length v.pc v.at_ = m + v.pc := by unfold idxP; rw [hm0]
  rw [hm0] at hbd;rw [hix] at hr2;have hca := hp.c.arg N S;refine qq ?_;refine qq ?_;refine qj fun K hK => ?_;refine qm ?_;refine qg ?_;refine qp (o := 5) ?_;refine ql hH at1 ?_;refine qn ?_ (hR := hH.rows at2);simp only [List.length_map, List.length_cons, List.length_reverse];refine qg ?_;refine qe hK ?_;refine qD rfl (by simp) ?_;refine EvC.skip ?_;refine EvC.block ?_;refine qq ?_;refine qj fun K hK => ?_;refine qm ?_;refine qg ?_;refine qp (o := 5) ?_;refine ql hH at1 ?_;refine qm ?_;refine qg ?_;refine qp (o := 5) ?_;refine ql hH at1 ?_;refine qn ?_ (hR := hH.rows at2);simp only [List.length_map, List.length_cons, List.length_reverse];refine EvO.subZ (z := ((stk.length : Nat) : Int)) rfl (ev rfl) (ev rfl) (by (try simp only [List.length_reverse, List.length_cons, List.length_nil, List.length_append, List.length_map, List.length_set]); rw [wrap_i64 (by omega) (by omega)] <;> omega) (put_T rfl _) ?_;refine qi hH at2 fun p42 hp42 => ?_;refine EvO.oloadS hH rfl (ev rfl) (by assumption) (by exact at2) (by assumption) rfl (put_T rfl _) ?_;refine qa hH fun k8 st hk8 hH => ?_;dsimp only [u2, u1, u3, u4, setMany, u5, u6, D.cells, Nat.reduceAdd, insC, intC, boolC, tryC, capsC, noCaps, zeroCaps] at hH;refine qS hH at0 fun st hH => ?_;dsimp only [u2, u1, u3, u4, setMany, u5, u6, D.cells, Nat.reduceAdd, insC, intC, boolC, tryC, capsC, noCaps, zeroCaps] at hH;refine qe hK ?_;refine qq ?_;refine qj fun K hK => ?_;refine qm ?_;refine qm ?_;refine qg ?_;refine qp (o := 5) ?_;refine ql hH at2 ?_;refine qm ?_;refine qg ?_;refine qp (o := 5) ?_;refine ql hH at2 ?_;refine qn ?_ (hR := hH.rows at3);simp only [List.length_map, List.length_cons, List.length_reverse];refine EvO.subZ (z := ((stk.length : Nat) : Int)) rfl (ev rfl) (ev rfl) (by (try simp only [List.length_reverse, List.length_cons, List.length_nil, List.length_append, List.length_map, List.length_set]); rw [wrap_i64 (by omega) (by omega)] <;> omega) (put_T rfl _) ?_;refine EvO.oslice hH rfl (ev rfl) (by exact at3) rfl rfl (bounds_to (by simp only [List.length_map, List.length_reverse, List.length_cons, List.length_append, List.length_nil, List.length_take, List.length_drop, List.length_set, List.length_replicate]; omega)) ⟨(by omega), (by simp only [List.length_map, List.length_reverse, List.length_cons, List.length_append, List.length_nil, List.length_take, List.length_drop, List.length_set, List.length_replicate]; omega)⟩ (fun _ => (put_T rfl _)) (fun y55 hH => ?_);refine qg ?_;refine qp (o := 5) ?_;refine qT hH at2 (fun st hH => ?_) (hcs := hH.ocells at3);dsimp only [u2, u1, u3, u4, setMany, u5, u6, D.cells, Nat.reduceAdd, insC, intC, boolC, tryC, capsC, noCaps, zeroCaps] at hH;refine qe hK ?_;rw [try_pop] at hH;refine qq ?_;refine qj fun K hK => ?_;refine qp (o := 1) ?_;refine ql hH at0 ?_;refine qm ?_;refine qg ?_;refine qp (o := 0) ?_;refine qp (o := 0) ?_;refine ql hH at2 ?_;refine qn ?_;simp only [List.length_map];refine EvO.mulZ (z := ((m : Nat) : Int)) rfl (ev rfl) (ev rfl) (by rw [← Int.natCast_mul, hm0]; exact wrap_nat (by simp only [maxN]; omega)) (put_T rfl _) ?_;refine qp (o := 0) ?_;refine ql hH at0 ?_;refine EvO.addN rfl (ev rfl) (ev rfl) (by omega) (put_T rfl _) ?_;refine qm ?_;refine qe hK ?_;refine qq ?_;refine qq ?_;refine qj fun K hK => ?_;refine qm ?_;refine qg ?_;refine qp (o := 4) ?_;refine ql hH at2 ?_;refine qm ?_;refine qi hH at5 fun p75 hp75 => ?_;refine qo hH at5 ?_;refine qe hK ?_
  cases b with
  | true =>
   refine qB ?_;refine EvC.exit ?_;simp only [dfsF, hb] at hd;exact ⟨mm, by omega, ⟨_, ar, stk, rfl, (hH.drop 1), hd, by omega, hal, hst, by omega⟩⟩
  | false =>
   have hcnt := count_set hb;have hset : (ar.set (idxP p.code.length v.pc v.at_) true).map boolC = (ar.map boolC).set (m + v.pc) [.bool true] := by rw [List.map_set, hix]; rfl
   simp only [dfsF, hb] at hd;refine qC ?_;refine EvC.skip ?_;refine qq ?_;refine qj fun K hK => ?_;refine qm ?_;refine qg ?_;refine qp (o := 4) ?_;refine ql hH at2 ?_;refine qm ?_;refine qi hH at5 fun p82 hp82 => ?_;refine EvO.ostore hH rfl (ev rfl) (ev rfl) (by assumption) rfl rfl (by exact at5) (by assumption) (Nat.le_of_ble_eq_true rfl) (by exact .inl hF) (fun st hH => ?_);dsimp only [u2, u1, u3, u4, setMany, u5, u6, D.cells, Nat.reduceAdd, insC, intC, boolC, tryC, capsC, noCaps, zeroCaps] at hH;refine qe hK ?_
   have hH3 : Has N S st (.box k (.mem 0 false [p.cd, p.sd, gotsD gs, plD, seenD, y55]) :: .lst y55 12 (stk.reverse.map tryC) :: .lst plD 1 (pls.map intC) :: .box k6 (.mem 0 false (capsC zeroCaps)) :: .lst seenD 1 ((ar.map boolC).set (m + v.pc) [.bool true]) :: H) :=
    (((hH.drop 1).front (j := 3) rfl).front (j := 3) rfl).front (j := 3) rfl
   obtain ⟨d, st1, hev, hpost⟩ := step_ev hF hp hii (hR.sh v.pc ii hii) hgl hv2 hpl (by omega) hH3;unfold stepPost at hpost
   cases hS : stepS p.code gs pls v with
   | found =>
    rw [hS] at hpost hd;simp only at hpost hd;obtain ⟨rfl, ld', hH4⟩ := hpost;have hH4 := hH4.front (j := 3) rfl;refine qq ?_;refine qj fun K hK => ?_;refine qm ?_;refine EvO.hloadS (m := 12) hH rfl (ev rfl) (by exact at0) (by dsimp only [List.drop_succ_cons, List.drop_zero, List.take_succ_cons, List.take_zero, insC, intC, boolC, tryC, capsC, noCaps, zeroCaps] <;> rfl) rfl rfl (put_T rfl _) ?_;refine qv (hev) ?_;refine qm ?_;refine qg ?_;refine qg ?_;refine EvO.halloc hH4 rfl rfl (fun _ => by dsimp only [Fr.put, u1, u2] <;> rfl) (fun k10 st hk10 hH => ?_);dsimp only [capsC, zeroCaps] at hH;refine qT hH at0 fun st hH => ?_;dsimp only [u2, u1, u3, u4, setMany, u5, u6, D.cells, Nat.reduceAdd, insC, intC, boolC, tryC, capsC, noCaps, zeroCaps] at hH;refine qm ?_;refine qe hK ?_;refine qq ?_;refine qj fun K hK => ?_;refine qm ?_;refine qe hK ?_;refine qB ?_;refine qq ?_;refine qj fun K hK => ?_;refine EvO.hloadS (m := 10) hH rfl (ev rfl) (by exact at0) (by dsimp only [List.drop_succ_cons, List.drop_zero, List.take_succ_cons, List.take_zero, insC, intC, boolC, tryC, capsC, noCaps, zeroCaps] <;> rfl) rfl rfl (put_T rfl _) ?_;refine qS hH at1 fun st hH => ?_;dsimp only [u2, u1, u3, u4, setMany, u5, u6, D.cells, Nat.reduceAdd, insC, intC, boolC, tryC, capsC, noCaps, zeroCaps] at hH;refine qm ?_;refine qe hK ?_;refine EvC.ret ⟨rx, _, _, _, hH.resCellT rfl at1 rfl rfl, rfl, ?_⟩;rw [← hd];exact ⟨_, _, rfl, (by rw [hset]; exact hH.drop 2)⟩
   | more l =>
    rw [hS] at hpost hd;simp only at hpost hd;obtain ⟨rfl, ld', hH4⟩ := hpost;have hH4 := hH4.front (j := 3) rfl;have hl2 := hsln l hS;refine qq ?_;refine qj fun K hK => ?_;refine qm ?_;refine EvO.hloadS (m := 12) hH rfl (ev rfl) (by exact at0) (by dsimp only [List.drop_succ_cons, List.drop_zero, List.take_succ_cons, List.take_zero, insC, intC, boolC, tryC, capsC, noCaps, zeroCaps] <;> rfl) rfl rfl (put_T rfl _) ?_;refine qv (hev) ?_;refine qm ?_;refine qg ?_;refine qg ?_;refine EvO.halloc hH4 rfl rfl (fun _ => by dsimp only [Fr.put, u1, u2] <;> rfl) (fun k10 st hk10 hH => ?_);dsimp only [capsC, zeroCaps] at hH;refine qT hH at0 fun st hH => ?_;dsimp only [u2, u1, u3, u4, setMany, u5, u6, D.cells, Nat.reduceAdd, insC, intC, boolC, tryC, capsC, noCaps, zeroCaps] at hH;refine qm ?_;refine qe hK ?_;refine qq ?_;refine qj fun K hK => ?_;refine qm ?_;refine qe hK ?_;refine qC ?_;refine EvC.skip ?_;refine ⟨mm, by omega, ⟨_, ar.set (idxP p.code.length v.pc v.at_) true, l ++ stk, rfl, (by rw [hset]; exact hH.drop 1), hd, by simp only [List.length_append]; omega, by rw [List.length_set]; exact hal, ?_, by omega⟩⟩;intro w hw
    rcases List.mem_append.1 hw with hw | hw
    ·exact hsok l hS w hw
    ·exact hst w hw
def ixF_Bc (fr : Go.V.Fr) (k : Nat) : Go.V.D := Go.V.nth .junk fr.loc k
def plS : Int → List (Nat × Nat) → List Int
 | a, [] => [a]
 | a, g :: r => a :: plS (a + (g.2 : Nat)) r
theorem plS_len : ∀ (l : List (Nat × Nat)) (a : Int), (plS a l).length = l.length + 1
 | [], _ => rfl
 | g :: r, a => by simp only [plS, List.length_cons, plS_len r]
def findP (idx : Nat → Nat → Nat) (stp : Tr3 → Res) (fuel start : Nat) : Nat → Nat → List Bool → Option Cps
 | 0, _, _ => none
 | m + 1, i, arr => match (dfsF idx stp fuel arr [⟨start, i, noCaps⟩]).1 with
  | some c => some c
  | none => findP idx stp fuel start m (i + 1) (dfsF idx stp fuel arr [⟨start, i, noCaps⟩]).2
noncomputable def progFind (p : Pg) (rule : Int) (b : List UInt8) : Option Cps :=
 if dec (RightQ p) = true ∧ 0 ≤ rule ∧ rule < (p.starts.length : Int) then
  findP (idxP p.code.length) (stepS p.code (allS b) (plS 0 (allS b))) (3 * (((allS b).length + 1) * p.code.length) + 1) (p.starts.getD rule.toNat 0).toNat ((allS b).length + 1) 0 (List.replicate (((allS b).length + 1) * p.code.length) false)
 else none
theorem dfsF_len (idx : Nat → Nat → Nat) (stp : Tr3 → Res) : ∀ (f : Nat) (arr : List Bool) (stk : List Tr3), (dfsF idx stp f arr stk).2.length = arr.length
 | 0, arr, _ => by simp [dfsF]
 | f + 1, arr, [] => by simp [dfsF]
 | f + 1, arr, t :: stk => by
  unfold dfsF
  split
  ·split
   ·simp
   ·rw [dfsF_len idx stp f, List.length_set]
  ·exact dfsF_len idx stp f arr stk
theorem find3_ev {s0 : St} {p : Pg} {b : List UInt8} (hp : p.ok) (rule : Int) (hbl : b.length ≤ 1048576) (hsz : ((allS b).length + 1) * p.code.length ≤ 134217728) :
  Ev pv 27 [p.d, .int .i64 rule, .str b] s0 (outC (progFind p rule b)) s0 := by
 obtain ⟨hgl, hgs⟩ := allS_len _ b (Nat.le_refl _);have hev : ∀ (st : St) (x : D), Bytes st x b → Ev pv 28 [x] st (gotsD (allS b)) st := fun st x h => all_ev h hbl;unfold progFind;generalize allS b = gs at *;refine Ev.mk1 rfl fi27 rfl rfl rfl ?_;dsimp only [u3, u4, List.length, Nat.reduceSub, Nat.reduceAdd, w1, w2];obtain ⟨hSb, hF, hH⟩ := ri s0;generalize enterSt .ro s0 = S at *;have hc := hp.c.arg s0.bs.length S;have hs := hp.s.arg s0.bs.length S;have hlen := hp.cl;have hsl := hp.sl;unfold Pg.d;refine qq ?_;refine qj fun K hK => ?_;refine qb hH fun k3 st hk3 hH => ?_;refine qa hH fun k6 st hk6 hH => ?_;refine qm ?_;refine qe hK ?_;refine qq ?_;refine qq ?_;refine EvC.cutL 28 (.bool ((!dec (RightQ p) || decide (rule < 0)) || decide (rule ≥ p.starts.length))) [15, 16, 17, 18, 19, 20, 21, 22, 23, 24, 25, 26, 27] ?_ (fun ff tmp => ?_)
 ·refine EvO.hloadS (m := 2) hH rfl (ev rfl) (by exact at1) (by dsimp only [List.drop_succ_cons, List.drop_zero, List.take_succ_cons, List.take_zero, insC, intC, boolC, tryC, capsC, noCaps, zeroCaps] <;> rfl) rfl rfl (by dsimp only [Fr.put, u1, u2] <;> rfl) ?_;refine qv (checkRight_ev (p := p) hp) ?_;refine qg ?_;refine qm ?_;refine EvO.two 18 rfl (fun hg3 => ?_) (fun hg3 => ?_)
  ·refine qs ?_ (hg := wn hg3);refine qs ?_ (hg := wn hg3);refine qt hg3 ?_;refine qm ?_;refine qs ?_;refine qs ?_;refine qs ?_;refine qs ?_;refine qs ?_;refine qg ?_;refine EvO.nil (leafL ?_);dsimp only [setW, List.foldl, nth, u2, u1];dsimp only [Fr.putO, Fr.put, Fr.clean, Fr.ev, Fr.get, nth, look, u1, u2, v1, v2, v4]
   all_goals (simp [hg3]; done)
  ·refine qm ?_ (hg := wi hg3);refine qg ?_ (hg := wi hg3);refine qu hg3 ?_;refine qm ?_;refine EvO.two 22 rfl (fun hg7 => ?_) (fun hg7 => ?_)
   ·refine qs ?_ (hg := wn hg7);refine qs ?_ (hg := wn hg7);refine qs ?_ (hg := wn hg7);refine qs ?_ (hg := wn hg7);refine qs ?_ (hg := wn hg7);refine qt hg7 ?_;refine EvO.nil (leafL ?_);dsimp only [setW, List.foldl, nth, u2, u1];dsimp only [Fr.putO, Fr.put, Fr.clean, Fr.ev, Fr.get, nth, look, u1, u2, v1, v2, v4]
    all_goals (simp [hg3, hg7]; done)
   ·refine qm ?_ (hg := wi hg7);refine qp (o := 1) ?_ (hg := wi hg7);refine ql hH at1 ?_ (hg := wi hg7);refine qn ?_ (hg := wi hg7);simp only [List.length_map];refine qg ?_ (hg := wi hg7);refine qu hg7 ?_;refine EvO.nil (leafL ?_);dsimp only [setW, List.foldl, nth, u2, u1];dsimp only [Fr.putO, Fr.put, Fr.clean, Fr.ev, Fr.get, nth, look, u1, u2, v1, v2, v4]
    all_goals (simp [hg3, hg7]; done)
 dsimp only [setW, List.foldl, nth, u2, u1];generalize ff 15 = e15;generalize ff 16 = e16;generalize ff 17 = e17;generalize ff 18 = e18;generalize ff 19 = e19;generalize ff 20 = e20;generalize ff 21 = e21;generalize ff 22 = e22;generalize ff 23 = e23;generalize ff 24 = e24;generalize ff 25 = e25;generalize ff 26 = e26;generalize ff 27 = e27;refine qc (fun h0 => ?_) (fun h0 => ?_) <;> try simp only [cs] at h0
 ·have hn : ¬ (dec (RightQ p) = true ∧ 0 ≤ rule ∧ rule < (p.starts.length : Int)) := by
   rintro ⟨h1, h2, h3⟩;rw [h1] at h0;simp at h0; omega
  rw [if_neg hn];refine qq ?_;refine qj fun K hK => ?_;refine EvO.go (d := .agg (capsC zeroCaps)) (st1 := _) rfl rfl rfl (by dsimp only [Fr.put, u1, u2] <;> rfl) ?_;refine qS hH at0 fun st hH => ?_;dsimp only [u2, u1, u3, u4, setMany, u5, u6, D.cells, Nat.reduceAdd, insC, intC, boolC, tryC, capsC, noCaps, zeroCaps] at hH;refine qm ?_;refine qe hK ?_;refine EvC.ret ⟨rx, _, hH.resCellT rfl at0 rfl rfl, rl hSb hH rfl⟩
 ·have h1 : RightQ p ∧ 0 ≤ rule ∧ rule < (p.starts.length : Int) := by
   simp only [Bool.or_eq_false_iff, Bool.not_eq_false', decide_eq_false_iff_not] at h0;exact ⟨dec_true h0.1.1, by omega, by omega⟩
  obtain ⟨hR, hin0, hin1⟩ := h1;rw [if_pos ⟨dec_yes hR, hin0, hin1⟩];obtain ⟨ru, rfl⟩ := Int.eq_ofNat_of_zero_le hin0
  obtain ⟨start, hs1⟩ : ∃ v, p.starts[ru]? = some v := ⟨p.starts[ru]'(by omega), List.getElem?_eq_getElem _⟩
  have hst := hR.st start (List.mem_of_getElem? hs1);obtain ⟨sn, rfl⟩ := Int.eq_ofNat_of_zero_le hst.1
  have hgd : (p.starts.getD ((ru : Nat) : Int).toNat 0).toNat = sn := by
   rw [Int.toNat_natCast, List.getD_eq_getElem?_getD, hs1]; rfl
  rw [hgd];have hr0 := int_get hs1;have hgr : Arg s0.bs.length S 2 (gotsD gs) (gs.map gotC) := Arg.pure (fun st => gots_rows st gs);refine EvC.skip ?_;refine qq ?_;refine qj fun K hK => ?_;refine EvO.hloadS (m := 2) hH rfl (ev rfl) (by exact at1) (by dsimp only [List.drop_succ_cons, List.drop_zero, List.take_succ_cons, List.take_zero, insC, intC, boolC, tryC, capsC, noCaps, zeroCaps] <;> rfl) rfl rfl (by dsimp only [Fr.put, u1, u2] <;> rfl) ?_;refine qm ?_;refine EvO.hbytes hH rfl rfl rfl rfl rfl (by omega) (fun _ => by dsimp only [Fr.put, u1, u2] <;> rfl) (fun k32 st hk32 hH => ?_);refine qv ((hev _ _ (hH.rows at0))) ?_;refine EvO.go (d := .agg [p.cd, p.sd, gotsD gs, .nul, .nul, .nul]) (st1 := _) rfl rfl rfl (by dsimp only [Fr.put, u1, u2] <;> rfl) ?_;refine qb hH fun k35 st hk35 hH => ?_;refine qm ?_;refine qe hK ?_;refine qq ?_;refine qj fun K hK => ?_;refine qm ?_;refine qe hK ?_;refine qq ?_;refine qq ?_;refine qj fun K hK => ?_;refine qm ?_;refine qg ?_;refine qp (o := 2) ?_;refine ql hH at0 ?_;refine qn ?_;simp only [List.length_map];refine qm ?_;refine qe hK ?_;refine EvC.block ?_;refine EvC.loop (fun mm fr st => ∃ (i : Nat) (a : Int) (done : List Int) (pd : D), fr.clean = ⟨89, [ixF_Bc fr 0, .int .i64 (ru : Nat), ixF_Bc fr 2, .ptr k3 0 0, ixF_Bc fr 4, ixF_Bc fr 5, .ptr k6 0 0, .bool false, .ptr k35 0 0, .int .i64 a, ixF_Bc fr 10, ixF_Bc fr 11, ixF_Bc fr 12, ixF_Bc fr 13, ixF_Bc fr 14, ixF_Bc fr 15, ixF_Bc fr 16, ixF_Bc fr 17, ixF_Bc fr 18, ixF_Bc fr 19, ixF_Bc fr 20, ixF_Bc fr 21, ixF_Bc fr 22, ixF_Bc fr 23, ixF_Bc fr 24, ixF_Bc fr 25, ixF_Bc fr 26, ixF_Bc fr 27, ixF_Bc fr 28, ixF_Bc fr 29, ixF_Bc fr 30, ixF_Bc fr 31, ixF_Bc fr 32, ixF_Bc fr 33, ixF_Bc fr 34, ixF_Bc fr 35, ixF_Bc fr 36, ixF_Bc fr 37, ixF_Bc fr 38, gotsD gs, .int .i64 (gs.length : Nat), .int .i64 (i : Nat), ixF_Bc fr 42, ixF_Bc fr 43, ixF_Bc fr 44, ixF_Bc fr 45, ixF_Bc fr 46, ixF_Bc fr 47, ixF_Bc fr 48, ixF_Bc fr 49, ixF_Bc fr 50, ixF_Bc fr 51, ixF_Bc fr 52, ixF_Bc fr 53, ixF_Bc fr 54, ixF_Bc fr 55, ixF_Bc fr 56, ixF_Bc fr 57, ixF_Bc fr 58, ixF_Bc fr 59, ixF_Bc fr 60, ixF_Bc fr 61, ixF_Bc fr 62, ixF_Bc fr 63, ixF_Bc fr 64, ixF_Bc fr 65, ixF_Bc fr 66, ixF_Bc fr 67, ixF_Bc fr 68, ixF_Bc fr 69, ixF_Bc fr 70, ixF_Bc fr 71, ixF_Bc fr 72, ixF_Bc fr 73, ixF_Bc fr 74, ixF_Bc fr 75, ixF_Bc fr 76, ixF_Bc fr 77, ixF_Bc fr 78, ixF_Bc fr 79, ixF_Bc fr 80, ixF_Bc fr 81, ixF_Bc fr 82, ixF_Bc fr 83, ixF_Bc fr 84, ixF_Bc fr 85, ixF_Bc fr 86, ixF_Bc fr 87, ixF_Bc fr 88], []⟩ ∧ Has s0.bs.length S st [.box k35 (.mem 0 false [p.cd, p.sd, gotsD gs, pd, .nul, .nul]), .lst pd 1 (done.map intC), .box k6 (.mem 0 false (capsC zeroCaps)), .box k3 (.mem 0 false [p.cd, p.sd])] ∧ (i + mm = gs.length) ∧ (done ++ plS a (gs.drop i) = plS 0 gs) ∧ (0 ≤ a) ∧ (a ≤ 1048576 * i) ∧ (done.length = i)) (gs.length) ?_ ?_
  ·refine ⟨0, 0, [], .nul, rfl, ?_, by omega, rfl, Int.le_refl _, (by omega), rfl⟩;exact (((hH.drop 0).erase 1).nulE 1).front (j := 1) rfl
  rintro mm fr st ⟨i, a, done, pd, hfr, hH, hi, hdn, ha0, ha1, hdl⟩;rw [hfr];clear hfr;generalize ixF_Bc fr = ee;clear fr;refine qq ?_;refine qj fun K hK => ?_;refine qg ?_;refine qe hK ?_;refine qq ?_;refine EvC.cond (by rfl) (fun h3 => ?_) (fun h3 => ?_) <;> try simp only [decide_eq_true_eq, decide_eq_false_iff_not] at h3
  ·refine EvC.skip ?_
   obtain ⟨g, hg⟩ : ∃ g, gs[i]? = some g := ⟨gs[i]'(by omega), List.getElem?_eq_getElem _⟩
   have hg2 := hgs g (List.mem_of_getElem? hg);have hr1 : (gs.map gotC)[i]? = some (gotC g) := by rw [List.getElem?_map, hg]; rfl
   have hdr : gs.drop i = g :: gs.drop (i + 1) := by
    have := List.drop_eq_getElem_cons (l := gs) (i := i) (by omega);rw [this]; congr 1;rw [List.getElem?_eq_getElem (by omega)] at hg;exact Option.some.inj hg
   refine qq ?_;refine EvC.block ?_;refine qq ?_;refine qj fun K hK => ?_;refine qr fun p43 hp43 => ?_;refine EvO.rloadS rfl (ev rfl) (by assumption) rfl (by dsimp only [Fr.put, u1, u2] <;> rfl) ?_;refine qa hH fun k11 st hk11 hH => ?_;dsimp only [u2, u1, u3, u4, setMany, u5, u6, D.cells, Nat.reduceAdd, insC, intC, boolC, tryC, capsC, noCaps, zeroCaps] at hH;refine qS hH at0 fun st hH => ?_;dsimp only [u2, u1, u3, u4, setMany, u5, u6, D.cells, Nat.reduceAdd, insC, intC, boolC, tryC, capsC, noCaps, zeroCaps] at hH;refine qe hK ?_;refine qq ?_;refine qj fun K hK => ?_;refine qm ?_;refine qm ?_;refine qg ?_;refine qp (o := 3) ?_;refine ql hH at1 ?_;refine qm ?_;refine qh (s := 1) (vs := [_]) hH fun k51 st hk51 hH => ?_;refine qP hH at3 (hH.rows at0) fun x52 st hH => ?_;dsimp only [u2, u1, u3, u4, setMany, u5, u6, D.cells, Nat.reduceAdd, insC, intC, boolC, tryC, capsC, noCaps, zeroCaps] at hH;refine qg ?_;refine qp (o := 3) ?_;refine qT hH at2 (fun st hH => ?_) (hcs := hH.ocells at3);dsimp only [u2, u1, u3, u4, setMany, u5, u6, D.cells, Nat.reduceAdd, insC, intC, boolC, tryC, capsC, noCaps, zeroCaps] at hH;refine qe hK ?_;refine qj fun K hK => ?_;refine qm ?_;refine qp (o := 1) ?_;refine ql hH at1 ?_;refine qA ?_;refine qm ?_;refine qe hK ?_;refine qj fun K hK => ?_;refine qA ?_;refine qm ?_;refine qe hK ?_;exact ⟨mm - 1, by omega, ⟨i + 1, a + (g.2 : Nat), done ++ [a], x52, rfl, (by rw [List.map_append]; exact hH.drop 2), by omega, by rw [← hdn, hdr]; simp [plS], by omega, by omega, by simp [hdl]⟩⟩
  ·refine EvC.exit ?_;have hdr : gs.drop i = [] := List.drop_eq_nil_of_le (by omega);rw [hdr] at hdn;simp only [plS] at hdn;have hpl := plS_len gs 0;refine qq ?_;refine qj fun K hK => ?_;refine qm ?_;refine qm ?_;refine qg ?_;refine qp (o := 3) ?_;refine ql hH at0 ?_;refine qm ?_;refine qh (s := 1) (vs := [_]) hH fun k66 st hk66 hH => ?_;dsimp only [u2, u1, u3, u4, setMany, u5, u6, D.cells, Nat.reduceAdd, insC, intC, boolC, tryC, capsC, noCaps, zeroCaps] at hH;refine qP hH at2 (hH.rows at0) fun x67 st hH => ?_;dsimp only [u2, u1, u3, u4, setMany, u5, u6, D.cells, Nat.reduceAdd, insC, intC, boolC, tryC, capsC, noCaps, zeroCaps] at hH;refine qg ?_;refine qp (o := 3) ?_;refine qT hH at1 (fun st hH => ?_) (hcs := hH.ocells at2);dsimp only [u2, u1, u3, u4, setMany, u5, u6, D.cells, Nat.reduceAdd, insC, intC, boolC, tryC, capsC, noCaps, zeroCaps] at hH;refine qe hK ?_
   have hH : Has s0.bs.length S st [.box k35 (.mem 0 false [p.cd, p.sd, gotsD gs, x67, .nul, .nul]), .lst x67 1 ((plS 0 gs).map intC), .box k6 (.mem 0 false (capsC zeroCaps)), .box k3 (.mem 0 false [p.cd, p.sd])] := by
    rw [← hdn, List.map_append]; exact hH.drop 1
   rw [← hpl] at hsz ⊢;generalize plS 0 gs = pls at *;refine qq ?_;refine qj fun K hK => ?_;refine qm ?_;refine qm ?_;refine qg ?_;refine qp (o := 3) ?_;refine ql hH at0 ?_;refine qn ?_ (hR := hH.rows at1);simp only [List.length_map];refine qp (o := 0) ?_;refine ql hH at3 ?_;refine qn ?_;simp only [List.length_map];refine EvO.mulZ (z := ((pls.length * p.code.length : Nat) : Int)) rfl (ev rfl) (ev rfl) (by rw [← Int.natCast_mul]; exact wrap_nat (by simp only [maxN]; omega)) (by dsimp only [Fr.put, u1, u2] <;> rfl) ?_;refine EvO.hmake (s := 1) hH rfl rfl rfl rfl rfl rfl rfl rfl (Nat.le_of_ble_eq_true rfl) (by omega) (fun _ => by dsimp only [Fr.put, u1, u2] <;> rfl) (fun k80 st hk80 hH => ?_);dsimp only [u2, u1, u3, u4, setMany, u5, u6, D.cells, Nat.reduceAdd, insC, intC, boolC, tryC, capsC, noCaps, zeroCaps] at hH;refine qg ?_;refine qp (o := 4) ?_;refine qT hH at1 fun st hH => ?_;dsimp only [u2, u1, u3, u4, setMany, u5, u6, D.cells, Nat.reduceAdd, insC, intC, boolC, tryC, capsC, noCaps, zeroCaps] at hH;refine qe hK ?_;refine qq ?_;refine qq ?_;refine qj fun K hK => ?_;refine qm ?_;refine qg ?_;refine qp (o := 3) ?_;refine ql hH at1 ?_;refine qn ?_ (hR := hH.rows at2);simp only [List.length_map];refine qm ?_;refine qe hK ?_
   obtain ⟨R, hR0⟩ : ∃ R, findP (idxP p.code.length) (stepS p.code gs pls) (3 * (pls.length * p.code.length) + 1) sn pls.length 0 (List.replicate (pls.length * p.code.length) false) = R := ⟨_, rfl⟩
   rw [hR0];refine EvC.block ?_;refine EvC.loop (fun mm fr st => ∃ (i : Nat) (ar : List Bool) (ld : D) (old : List (List D)), fr.clean = ⟨89, [ixF_Bc fr 0, .int .i64 (ru : Nat), ixF_Bc fr 2, .ptr k3 0 0, ixF_Bc fr 4, ixF_Bc fr 5, .ptr k6 0 0, .bool false, .ptr k35 0 0, ixF_Bc fr 9, ixF_Bc fr 10, ixF_Bc fr 11, ixF_Bc fr 12, ixF_Bc fr 13, ixF_Bc fr 14, ixF_Bc fr 15, ixF_Bc fr 16, ixF_Bc fr 17, ixF_Bc fr 18, ixF_Bc fr 19, ixF_Bc fr 20, ixF_Bc fr 21, ixF_Bc fr 22, ixF_Bc fr 23, ixF_Bc fr 24, ixF_Bc fr 25, ixF_Bc fr 26, ixF_Bc fr 27, ixF_Bc fr 28, ixF_Bc fr 29, ixF_Bc fr 30, ixF_Bc fr 31, ixF_Bc fr 32, ixF_Bc fr 33, ixF_Bc fr 34, ixF_Bc fr 35, ixF_Bc fr 36, ixF_Bc fr 37, ixF_Bc fr 38, ixF_Bc fr 39, ixF_Bc fr 40, ixF_Bc fr 41, ixF_Bc fr 42, ixF_Bc fr 43, ixF_Bc fr 44, ixF_Bc fr 45, ixF_Bc fr 46, ixF_Bc fr 47, ixF_Bc fr 48, ixF_Bc fr 49, ixF_Bc fr 50, ixF_Bc fr 51, ixF_Bc fr 52, ixF_Bc fr 53, ixF_Bc fr 54, ixF_Bc fr 55, ixF_Bc fr 56, ixF_Bc fr 57, ixF_Bc fr 58, ixF_Bc fr 59, ixF_Bc fr 60, ixF_Bc fr 61, ixF_Bc fr 62, ixF_Bc fr 63, ixF_Bc fr 64, ixF_Bc fr 65, ixF_Bc fr 66, ixF_Bc fr 67, ixF_Bc fr 68, ixF_Bc fr 69, ixF_Bc fr 70, ixF_Bc fr 71, ixF_Bc fr 72, ixF_Bc fr 73, ixF_Bc fr 74, ixF_Bc fr 75, ixF_Bc fr 76, ixF_Bc fr 77, ixF_Bc fr 78, ixF_Bc fr 79, ixF_Bc fr 80, ixF_Bc fr 81, ixF_Bc fr 82, ixF_Bc fr 83, ixF_Bc fr 84, ixF_Bc fr 85, ixF_Bc fr 86, .int .i64 (pls.length : Nat), .int .i64 (i : Nat)], []⟩ ∧ Has s0.bs.length S st [.box k35 (.mem 0 false [p.cd, p.sd, gotsD gs, x67, .win k80 0 0 (pls.length * p.code.length) 1, ld]), .lst ld 12 old, .lst x67 1 (pls.map intC), .lst (.win k80 0 0 (pls.length * p.code.length) 1) 1 (ar.map boolC), .box k6 (.mem 0 false (capsC zeroCaps)), .box k3 (.mem 0 false [p.cd, p.sd])] ∧ (i + mm = pls.length) ∧ (ar.length = pls.length * p.code.length) ∧ (findP (idxP p.code.length) (stepS p.code gs pls) (3 * (pls.length * p.code.length) + 1) sn mm i ar = R)) (pls.length) ?_ ?_
   ·refine ⟨0, List.replicate (pls.length * p.code.length) false, .nul, [], rfl, ?_, by omega, by rw [List.length_replicate], hR0⟩;rw [List.map_replicate];exact ((hH.front (j := 2) rfl).nulE 12).front (j := 3) rfl
   rintro mm fr st ⟨i, ar, ld, old, hfr, hH, hi, har, hfd⟩;rw [hfr];clear hfr;generalize ixF_Bc fr = ee;clear fr;refine qq ?_;refine qj fun K hK => ?_;refine qg ?_;refine qe hK ?_;refine qq ?_;refine EvC.cond (by rfl) (fun h4 => ?_) (fun h4 => ?_) <;> try simp only [decide_eq_true_eq, decide_eq_false_iff_not] at h4
   ·refine EvC.skip ?_
    obtain ⟨mm, rfl⟩ : ∃ m', mm = m' + 1 := ⟨mm - 1, by omega⟩
    refine qq ?_;refine EvC.block ?_;refine qq ?_;refine qj fun K hK => ?_;refine qm ?_;refine qm ?_;refine qe hK ?_;obtain ⟨d, st1, hev, ld', old', hd, hH2⟩ := from3_ev (start := sn) (i := i) hF hp hR (by omega) hpl (by rw [← hpl]; exact hsz) (by rw [← hpl]; exact har) (by omega) (by omega) hH;rw [har] at hd hH2
    cases hD : (dfsF (idxP p.code.length) (stepS p.code gs pls) (3 * (pls.length * p.code.length) + 1) ar [⟨sn, i, noCaps⟩]).1 with
    | some c =>
     simp only [findP, hD] at hfd;rw [hD] at hd;have hd : d = .tup [.agg (capsC c), .bool true] := hd;subst hd;refine qq ?_;refine qj fun K hK => ?_;refine qm ?_;refine qp (o := 1) ?_;refine ql hH at5 ?_;refine qm ?_;refine qr fun p96 hp96 => ?_;refine qR ?_;refine qm ?_;refine qv (hev) ?_;refine qm ?_;refine qg ?_;refine qg ?_;refine EvO.halloc hH2 rfl rfl (fun _ => by dsimp only [Fr.put, u1, u2] <;> rfl) (fun k13 st hk13 hH => ?_);dsimp only [capsC, zeroCaps] at hH;refine qT hH at0 fun st hH => ?_;dsimp only [u2, u1, u3, u4, setMany, u5, u6, D.cells, Nat.reduceAdd, insC, intC, boolC, tryC, capsC, noCaps, zeroCaps] at hH;refine qm ?_;refine qe hK ?_;refine qq ?_;refine qj fun K hK => ?_;refine qm ?_;refine qe hK ?_;refine qB ?_;refine qq ?_;refine qj fun K hK => ?_;refine EvO.hloadS (m := 10) hH rfl (ev rfl) (by exact at0) (by dsimp only [List.drop_succ_cons, List.drop_zero, List.take_succ_cons, List.take_zero, insC, intC, boolC, tryC, capsC, noCaps, zeroCaps] <;> rfl) rfl rfl (put_T rfl _) ?_;refine qS hH at5 fun st hH => ?_;dsimp only [u2, u1, u3, u4, setMany, u5, u6, D.cells, Nat.reduceAdd, insC, intC, boolC, tryC, capsC, noCaps, zeroCaps] at hH;refine qm ?_;refine qe hK ?_;rw [← hfd];refine EvC.ret ⟨rx, _, hH.resCellT rfl at5 rfl rfl, rl hSb hH rfl⟩
    | none =>
     have hlen2 := dfsF_len (idxP p.code.length) (stepS p.code gs pls) (3 * (pls.length * p.code.length) + 1) ar [⟨sn, i, noCaps⟩];simp only [findP, hD] at hfd;rw [hD] at hd;have hd : d = .tup [.agg (capsC zeroCaps), .bool false] := hd;subst hd;refine qq ?_;refine qj fun K hK => ?_;refine qm ?_;refine qp (o := 1) ?_;refine ql hH at5 ?_;refine qm ?_;refine qr fun p96 hp96 => ?_;refine qR ?_;refine qm ?_;refine qv (hev) ?_;refine qm ?_;refine qg ?_;refine qg ?_;refine EvO.halloc hH2 rfl rfl (fun _ => by dsimp only [Fr.put, u1, u2] <;> rfl) (fun k13 st hk13 hH => ?_);dsimp only [capsC, zeroCaps] at hH;refine qT hH at0 fun st hH => ?_;dsimp only [u2, u1, u3, u4, setMany, u5, u6, D.cells, Nat.reduceAdd, insC, intC, boolC, tryC, capsC, noCaps, zeroCaps] at hH;refine qm ?_;refine qe hK ?_;refine qq ?_;refine qj fun K hK => ?_;refine qm ?_;refine qe hK ?_;refine qC ?_;refine EvC.skip ?_;refine qj fun K hK => ?_;refine qA ?_;refine qm ?_;refine qe hK ?_;exact ⟨mm, by omega, ⟨i + 1, _, ld', old', rfl, (hH.drop 1), by omega, by rw [hlen2]; exact har, hfd⟩⟩
   ·refine EvC.exit ?_;refine qq ?_;refine qj fun K hK => ?_;refine EvO.go (d := .agg (capsC zeroCaps)) (st1 := _) rfl rfl rfl (put_T rfl _) ?_;refine qS hH at4 fun st hH => ?_;dsimp only [u2, u1, u3, u4, setMany, u5, u6, D.cells, Nat.reduceAdd, insC, intC, boolC, tryC, capsC, noCaps, zeroCaps] at hH;refine qm ?_;refine qe hK ?_
    have hfin : R = none := by
     have : mm = 0 := by omega
     subst this;rw [← hfd]; rfl
    rw [hfin];refine EvC.ret ⟨rx, _, hH.resCellT rfl at4 rfl rfl, rl hSb hH rfl⟩
abbrev Sn := Nat → Nat → Bool
def updS (s : Sn) (t : Tr3) : Sn := fun a b => if a = t.pc ∧ b = t.at_ then true else s a b
inductive Run (stp : Tr3 → Res) : Sn → List Tr3 → Option Cps → Sn → Prop
 | nil {s : Sn} : Run stp s [] none s
 | old {s s' : Sn} {t : Tr3} {stk : List Tr3} {r : Option Cps} : s t.pc t.at_ = true → Run stp s stk r s' → Run stp s (t :: stk) r s'
 | found {s : Sn} {t : Tr3} {stk : List Tr3} : s t.pc t.at_ = false → stp t = .found → Run stp s (t :: stk) (some t.c) (updS s t)
 | more {s s' : Sn} {t : Tr3} {stk l : List Tr3} {r : Option Cps} : s t.pc t.at_ = false → stp t = .more l → Run stp (updS s t) (l ++ stk) r s' → Run stp s (t :: stk) r s'
theorem Run.one {stp : Tr3 → Res} {s s1 s2 : Sn} {stk : List Tr3} {r1 r2 : Option Cps} (h1 : Run stp s stk r1 s1) : Run stp s stk r2 s2 → r1 = r2 ∧ s1 = s2 := by
 induction h1 with
 | nil => intro h; cases h; exact ⟨rfl, rfl⟩
 | old h _ ih =>
  intro h2
  cases h2 with
  | old _ h' => exact ih h'
  | found h' _ => rw [h] at h'; cases h'
  | more h' _ _ => rw [h] at h'; cases h'
 | found h hf =>
  intro h2
  cases h2 with
  | old h' _ => rw [h] at h'; cases h'
  | found _ _ => exact ⟨rfl, rfl⟩
  | more _ h' _ => rw [hf] at h'; cases h'
 | more h hm _ ih =>
  intro h2
  cases h2 with
  | old h' _ => rw [h] at h'; cases h'
  | found _ h' => rw [hm] at h'; cases h'
  | more _ h' h'' =>
   rw [hm] at h';cases h';exact ih h''
def RelS (idx : Nat → Nat → Nat) (ok : Nat → Nat → Prop) (arr : List Bool) (s : Sn) : Prop := ∀ a b, ok a b → arr[idx a b]? = some (s a b)
def InjS (idx : Nat → Nat → Nat) (ok : Nat → Nat → Prop) : Prop := ∀ a b a' b', ok a b → ok a' b' → idx a b = idx a' b' → a = a' ∧ b = b'
def KeepS (stp : Tr3 → Res) (ok : Nat → Nat → Prop) : Prop := ∀ t l, ok t.pc t.at_ → stp t = .more l → l.length ≤ 2 ∧ ∀ u ∈ l, ok u.pc u.at_
theorem RelS.upd {idx : Nat → Nat → Nat} {ok : Nat → Nat → Prop} {arr : List Bool} {s : Sn} {t : Tr3} (hI : InjS idx ok) (ht : ok t.pc t.at_) (h : RelS idx ok arr s) : RelS idx ok (arr.set (idx t.pc t.at_) true) (updS s t) := by
 intro a b hab;unfold updS
 by_cases he : idx a b = idx t.pc t.at_
 ·rw [if_pos (hI _ _ _ _ hab ht he), he];have := lt_get (h _ _ ht);rw [List.getElem?_set_self this]
 ·rw [if_neg (by rintro ⟨rfl, rfl⟩; exact he rfl), List.getElem?_set_ne (fun e => he e.symm)];exact h a b hab
theorem dfsF_run {idx : Nat → Nat → Nat} {ok : Nat → Nat → Prop} {stp : Tr3 → Res} (hI : InjS idx ok) (hK : KeepS stp ok) : ∀ (f : Nat) (arr : List Bool) (stk : List Tr3) (s : Sn), 3 * arr.count false + stk.length ≤ f → RelS idx ok arr s → (∀ t ∈ stk, ok t.pc t.at_) → ∃ s', Run stp s stk (dfsF idx stp f arr stk).1 s' ∧ RelS idx ok (dfsF idx stp f arr stk).2 s' := by
 intro f
 induction f with
 | zero =>
  intro arr stk s h1 hr _;have : stk = [] := List.length_eq_zero_iff.1 (by omega);subst this;exact ⟨s, .nil, hr⟩
 | succ f ih =>
  intro arr stk s h1 hr hs
  cases stk with
  | nil => exact ⟨s, .nil, hr⟩
  | cons t stk =>
   have ht := hs t (List.mem_cons_self ..);have hs2 : ∀ u ∈ stk, ok u.pc u.at_ := fun u hu => hs u (List.mem_cons_of_mem _ hu);simp only [List.length_cons] at h1;have hb := hr _ _ ht;unfold dfsF;rw [hb]
   cases hst : s t.pc t.at_ with
   | true =>
    obtain ⟨s', h2, h3⟩ := ih arr stk s (by omega) hr hs2;exact ⟨s', .old hst h2, h3⟩
   | false =>
    rw [hst] at hb;have hcnt := count_set hb;simp only
    cases hS : stp t with
    | found => exact ⟨_, .found hst hS, hr.upd hI ht⟩
    | more l =>
     obtain ⟨hl, hok⟩ := hK t l ht hS
     obtain ⟨s', h2, h3⟩ := ih (arr.set (idx t.pc t.at_) true) (l ++ stk) (updS s t) (by rw [List.length_append]; omega) (hr.upd hI ht) (by
      intro u hu
      rcases List.mem_append.1 hu with hu | hu
      ·exact hok u hu
      ·exact hs2 u hu)
     exact ⟨s', .more hst hS h2, h3⟩
theorem mul_inj {n a b a' b' : Nat} (h1 : b < n) (h2 : b' < n) (h : a * n + b = a' * n + b') : a = a' ∧ b = b' := by
 have hb : b = b' := by
  have := congrArg (· % n) h;simp only [Nat.mul_add_mod_self_right, Nat.mod_eq_of_lt h1, Nat.mod_eq_of_lt h2] at this;exact this
 subst hb;exact ⟨Nat.eq_of_mul_eq_mul_right (by omega) (by omega : a * n = a' * n), rfl⟩
theorem mul_lt {n m a b : Nat} (h1 : a < m) (h2 : b < n) : a * n + b < m * n := by
 have := Nat.mul_le_mul_right n (show a + 1 ≤ m by omega);rw [Nat.add_mul, Nat.one_mul] at this;omega
end Go.Proofs.Ytnleclohocdkaaa
namespace Go.V
variable {N : Nat} {S st : St} {H : List Ent}
theorem Has.rot (A B : List Ent) (h : Has N S st (A ++ (B ++ H))) : Has N S st (B ++ (A ++ H)) := by
  refine h.sub (fun i => if i < B.length then i + A.length else if i < B.length + A.length then i - B.length else i) (fun a b e => ?_) fun i e hi => ?_
  · have e' : (if a < B.length then a + A.length else if a < B.length + A.length then a - B.length else a) = (if b < B.length then b + A.length else if b < B.length + A.length then b - B.length else b) := e
    repeat' split at e'
    all_goals omega
  · show (A ++ (B ++ H))[if i < B.length then i + A.length else if i < B.length + A.length then i - B.length else i]? = some e
    by_cases h1 : i < B.length
    · rw [if_pos h1, List.getElem?_append_right (by omega), Nat.add_sub_cancel, List.getElem?_append_left h1]
      rwa [List.getElem?_append_left h1] at hi
    · rw [List.getElem?_append_right (by omega)] at hi
      by_cases h2 : i < B.length + A.length
      · rw [if_neg h1, if_pos h2, List.getElem?_append_left (by omega)]
        rwa [List.getElem?_append_left (by omega)] at hi
      · rw [if_neg h1, if_neg h2, List.getElem?_append_right (by omega), List.getElem?_append_right (by omega)]
        rw [List.getElem?_append_right (by omega)] at hi
        rw [← hi]; congr 1; omega
theorem Has.repl {j : Nat} {e : Ent} (h : Has N S st (e :: H)) (hj : j < H.length) : Has N S st (H.set j e) :=
  Has.back (h.erase (j + 1)) hj
theorem Has.clear {P : Pv} {j : Nat} {x : D} {s : Nat} {es : List (List D)} {t e : TypeId} {z : List D} (h : Has N S st H) (hj : H[j]? = some (.lst x s es)) (ht : P.und t = some (.slice e)) (hz : zeroC P e = some z) (hzl : z.length = s) (hr : refs z = 0) :
    ∃ st', clearD P [t] x st = some (.tup [], st') ∧ Has N S st' (H.set j (.lst x s (List.replicate es.length z))) := by
  have hk0 := (h.ok j _ hj).2
  have hown := h.own hj
  have hjl : j < H.length := by
    rcases Nat.lt_or_ge j H.length with h' | h'
    · exact h'
    · rw [List.getElem?_eq_none h'] at hj; cases hj
  cases hown with
  | nul =>
    refine ⟨st, by simp only [clearD, ht], ?_⟩
    have : H.set j (.lst .nul s (List.replicate ([] : List (List D)).length z)) = H := by
      refine List.ext_getElem? fun i => ?_
      by_cases hi : i = j
      · subst hi; rw [List.getElem?_set_self hjl, hj]; rfl
      · rw [List.getElem?_set_ne (fun e => hi e.symm)]
    rw [this]; exact h
  | win k ver off es c hm hle hc he =>
    have hk := hk0 k (by simp only [Ent.lst, D.ref])
    have hrf : ∀ n, refs (Go.V.repl n z) = 0 := by
      intro n
      unfold Go.V.repl
      induction n with
      | zero => rfl
      | succ n ih =>
        rw [List.replicate_succ, List.flatten_cons]
        have happ : ∀ (a b : List D), refs a = 0 → refs b = 0 → refs (a ++ b) = 0 := by
          intro a
          induction a with
          | nil => intro b _ hb; exact hb
          | cons d a iha =>
            intro b ha hb
            simp only [refs, List.cons_append] at ha ⊢
            have := iha b (by omega) hb
            omega
        exact happ _ _ hr ih
    have hlr : (Go.V.repl es.length z).length = es.length * s := by
      unfold Go.V.repl
      rw [flat_len (s := s) (fun e he => by rw [(List.mem_replicate.1 he).2]; exact hzl), List.length_replicate]
    have hw : st.wr k ver off (Go.V.repl es.length z) = some ⟨st.bs.set k (.mem ver true (c.take off ++ Go.V.repl es.length z ++ c.drop (off + (Go.V.repl es.length z).length))), st.flr, st.ro⟩ := wr_own hm (by omega) (canW_has h hk.1 (.inr (hrf _)))
    refine ⟨_, by simp only [clearD, ht, hz, Option.bind_some]; rw [if_pos hzl, hw]; rfl, ?_⟩
    refine h.upd hj (fun n hn hne => ?_) (by simp) rfl rfl ?_ (fun n hn => .inl hn) fun n hn => ?_
    · simp only; rw [List.getElem?_set_ne (fun e => hne (by simp only [Ent.lst, D.ref]; omega))]
    · have hlen' : ∀ e' ∈ List.replicate es.length z, e'.length = s := fun e' he' => by rw [(List.mem_replicate.1 he').2]; exact hzl
      have := OwnP.win (st := ⟨st.bs.set k (.mem ver true (c.take off ++ Go.V.repl es.length z ++ c.drop (off + (Go.V.repl es.length z).length))), st.flr, st.ro⟩) (s := s) k ver off (List.replicate es.length z) (c.take off ++ Go.V.repl es.length z ++ c.drop (off + (Go.V.repl es.length z).length))
        (by simp only; rw [List.getElem?_set_self hk.2]) (by rw [List.length_replicate]; simp; omega) ?_ hlen'
      · rw [List.length_replicate] at this; exact this
      · rw [List.length_replicate, List.append_assoc, List.drop_append_of_le_length (by simp; omega), List.drop_take, Nat.sub_self, List.take_zero, List.nil_append, ← hlr, List.take_left']
        · rfl
        · rfl
    · simp only [Ent.lst, D.ref] at hn
      have : n = k := by omega
      subst this
      simpa using hk.2
variable {P : Pv} {ops : Array Oper} {rest : List Oper} {fr fr' : Fr} {Q : Fr → St → Prop} {ty : TypeId} {pp : String} {a : Array Edge} {g : Option (Nat × Bool)} {dst : Nat}
end Go.V
namespace Go.Proofs.Ytnleclohocdkaaa
open Go.V Go
def numC (n : Nat) : List D := [.int .i64 (n : Nat)]
def itC (n : Nat) : List D := [.int .i64 (n : Nat), .bool true]
structure SetOk (P Q : List Nat) (seen : List Bool) : Prop where
 len : P.length = seen.length
 mem : ∀ (i p : Nat), P[i]? = some p → seen[i]? = some (decide (Q[p]? = some i))
 cnt : Q.length = seen.count true
 small : seen.length ≤ 4096
theorem SetOk.get {P Q : List Nat} {seen : List Bool} (h : SetOk P Q seen) {i : Nat} {b : Bool} (hi : seen[i]? = some b) : ∃ p, P[i]? = some p ∧ b = decide (Q[p]? = some i) := by
 have hl := lt_get hi;have hl2 := h.len;refine ⟨P[i]'(by omega), List.getElem?_eq_getElem _, ?_⟩;have := h.mem i _ (List.getElem?_eq_getElem (by omega));rw [hi] at this; exact Option.some.inj this
theorem SetOk.add {P Q : List Nat} {seen : List Bool} (h : SetOk P Q seen) {i : Nat} (hi : seen[i]? = some false) : SetOk (P.set i Q.length) (Q ++ [i]) (seen.set i true) := by
 have hl := lt_get hi;have hl2 := h.len;refine ⟨by simp [hl2], fun j p hj => ?_, ?_, by rw [List.length_set]; exact h.small⟩
 ·by_cases hij : j = i
  ·subst hij;rw [List.getElem?_set_self (by omega)] at hj ⊢;cases hj;simp
  ·rw [List.getElem?_set_ne (fun e => hij e.symm)] at hj ⊢;rw [h.mem j p hj]
   congr 2
   rcases Nat.lt_trichotomy p Q.length with hp | hp | hp
   ·rw [List.getElem?_append_left hp]
   ·subst hp;have hne : ¬ i = j := fun e => hij e.symm;simp [hne]
   ·rw [List.getElem?_eq_none (by omega), List.getElem?_eq_none (by simp; omega)]
 ·have h1 := List.length_eq_countP_add_countP (fun b => b == true) (l := seen);have h2 := List.length_eq_countP_add_countP (fun b => b == true) (l := seen.set i true);have h3 := count_set hi
  have e1 : ∀ l : List Bool, l.countP (fun a => decide (¬ (a == true) = true)) = l.count false := by
   intro l; unfold List.count; congr 1; funext b; cases b <;> rfl
  have e2 : ∀ l : List Bool, l.countP (fun a => a == true) = l.count true := fun l => rfl;rw [e1, e2] at h1 h2;rw [List.length_append, h.cnt];simp only [List.length_set, List.length_cons, List.length_nil] at h2 ⊢;omega
theorem SetOk.clear {P Q : List Nat} {seen : List Bool} (h : SetOk P Q seen) : SetOk P [] (List.replicate seen.length false) := by
 refine ⟨by rw [List.length_replicate]; exact h.len, fun i p hi => ?_, ?_, by rw [List.length_replicate]; exact h.small⟩
 ·have := lt_get hi;have := h.len;rw [List.getElem?_replicate, if_pos (by omega)]; simp
 ·rw [List.count_replicate]; simp
theorem SetOk.len_le {P Q : List Nat} {seen : List Bool} (h : SetOk P Q seen) : Q.length ≤ 4096 := by
 have := h.cnt; have := h.small; have := List.count_le_length (a := true) (l := seen); omega
end Go.Proofs.Ytnleclohocdkaaa
namespace Go.Proofs.Ytnleclohocdkaaa
open Go.V Go
structure Thr where
 pc : Nat
 c : Cps
def thrC (t : Thr) : List D := [.int .i64 (t.pc : Nat), .int .i64 (t.c 0), .int .i64 (t.c 1), .int .i64 (t.c 2), .int .i64 (t.c 3), .int .i64 (t.c 4), .int .i64 (t.c 5), .int .i64 (t.c 6), .int .i64 (t.c 7), .int .i64 (t.c 8), .int .i64 (t.c 9)]
def lstC (dn : Bool) (f : Cps) (d : D) : List D := [.bool dn, .int .i64 (f 0), .int .i64 (f 1), .int .i64 (f 2), .int .i64 (f 3), .int .i64 (f 4), .int .i64 (f 5), .int .i64 (f 6), .int .i64 (f 7), .int .i64 (f 8), .int .i64 (f 9), d]
structure Wk where
 seen : List Bool
 dn : Bool
 best : Cps
 rdy : List Thr
def Good (code : List PIns) (w w' : Wk) : Prop :=
 w'.seen.length = w.seen.length ∧ w'.seen.count false ≤ w.seen.count false ∧ w'.rdy.length + w'.seen.count false ≤ w.rdy.length + w.seen.count false ∧ ∀ t ∈ w'.rdy, t ∈ w.rdy ∨ ∃ i, code[t.pc]? = some i ∧ i.op = 1
theorem Good.refl {code : List PIns} {w : Wk} : Good code w w := ⟨rfl, Nat.le_refl _, Nat.le_refl _, fun t h => .inl h⟩
theorem Good.trans {code : List PIns} {a b c : Wk} (h : Good code a b) (k : Good code b c) : Good code a c :=
 ⟨k.1.trans h.1, Nat.le_trans k.2.1 h.2.1, Nat.le_trans k.2.2.1 h.2.2.1, fun t ht => by
  rcases k.2.2.2 t ht with q | q
  ·exact h.2.2.2 t q
  ·exact .inr q⟩
theorem Good.step {code : List PIns} {w w' : Wk} {j : Nat} (hj : w.seen[j]? = some false) (k : Good code ⟨w.seen.set j true, w.dn, w.best, w.rdy⟩ w') : Good code w w' := by
 have hc := count_set hj;refine Good.trans (b := ⟨w.seen.set j true, w.dn, w.best, w.rdy⟩) ⟨?_, ?_, ?_, fun t h => .inl h⟩ k
 ·simp
 ·show (w.seen.set j true).count false ≤ _; omega
 ·show w.rdy.length + (w.seen.set j true).count false ≤ _; omega
end Go.Proofs.Ytnleclohocdkaaa
namespace Go.Proofs.Ytnleclohocdkaaa
open Go.V Go
structure VL where
 dn : Bool
 best : Cps
 td : D
 ths : List Thr
def vlC (l : VL) : List D := lstC l.dn l.best l.td
def vlE (l : VL) : Ent := .lst l.td 11 (l.ths.map thrC)
def MH (A : List Ent) (N : Nat) (S st : St) (ks kv : Nat) (p : Pg) (pl : Nat) (ld : D) (L : List VL) (H : List Ent) : Prop :=
 ∃ pd qd P Q sn, Has N S st (A ++ (.box kv (.mem 0 false [p.cd, p.sd, .int .i64 (pl : Nat), ld, .ptr ks 0 0]) :: .box ks (.mem 0 false [pd, qd]) :: .lst pd 1 (P.map numC) :: .lst qd 2 (Q.map itC) :: .lst ld 12 (L.map vlC) :: (L.map vlE ++ H))) ∧ SetOk P Q sn ∧ sn.length = p.code.length
theorem MH.push (A B : List Ent) {N : Nat} {S st : St} {ks kv : Nat} {p : Pg} {pl : Nat} {ld : D} {L : List VL} {H : List Ent} (h : MH (A ++ B) N S st ks kv p pl ld L H) : MH B N S st ks kv p pl ld L (A ++ H) := by
 obtain ⟨pd, qd, P, Q, sn, hH, hok, hsn⟩ := h;refine ⟨pd, qd, P, Q, sn, ?_, hok, hsn⟩;have := Has.rot (H := H) A (B ++ (.box kv (.mem 0 false [p.cd, p.sd, .int .i64 (pl : Nat), ld, .ptr ks 0 0]) :: .box ks (.mem 0 false [pd, qd]) :: .lst pd 1 (P.map numC) :: .lst qd 2 (Q.map itC) :: .lst ld 12 (L.map vlC) :: L.map vlE)) (by simpa only [List.append_assoc, List.cons_append] using hH)
 simpa only [List.append_assoc, List.cons_append] using this
end Go.Proofs.Ytnleclohocdkaaa
namespace Go.Proofs.Ytnleclohocdkaaa
open Go.V Go
structure PL where
 dn : Bool
 best : Cps
 ths : List Thr
def PL.ok (n : Nat) (l : PL) : Prop := (∀ t ∈ l.ths, t.pc < n) ∧ l.ths.length ≤ 1000
end Go.Proofs.Ytnleclohocdkaaa
namespace Go.Proofs.Ytnleclohocdkaaa
open Go.V Go
def VL.pl (l : VL) : PL := ⟨l.dn, l.best, l.ths⟩
theorem MH.mono {A : List Ent} {N : Nat} {S st : St} {ks kv : Nat} {p : Pg} {pl : Nat} {ld : D} {L : List VL} {H : List Ent} (n : Nat) (h : MH A N S st ks kv p pl ld L H) : MH (A.drop n) N S st ks kv p pl ld L H := by
 obtain ⟨pd, qd, P, Q, sn, hH, hok, hsn⟩ := h;refine ⟨pd, qd, P, Q, sn, ?_, hok, hsn⟩
 rcases Nat.le_total n A.length with hn | hn
 ·have := hH.drop n
  rwa [List.drop_append_of_le_length hn] at this
 ·have := hH.drop A.length;rw [List.drop_append_of_le_length (Nat.le_refl _), List.drop_length] at this;rw [List.drop_eq_nil_of_le hn]; exact this
end Go.Proofs.Ytnleclohocdkaaa
namespace Go.Proofs.Ytnleclohocdkaaa
open Go.V Go
section
variable {stp : Tr3 → Res}
theorem run_app {s s1 : Sn} {A : List Tr3} {r1 : Option Cps} (h : Run stp s A r1 s1) : ∀ B, (∀ c, r1 = some c → ∃ s2, Run stp s (A ++ B) (some c) s2) ∧ (r1 = none → ∀ r s2, Run stp s1 B r s2 → Run stp s (A ++ B) r s2) := by
  induction h with
  | nil => exact fun B => ⟨fun c h => (by cases h), fun _ r s2 h => h⟩
  | old ht _ ih =>
    intro B
    obtain ⟨h1, h2⟩ := ih B
    exact ⟨fun c hc => (by obtain ⟨s2, h⟩ := h1 c hc; exact ⟨s2, .old ht h⟩), fun hn r s2 h => .old ht (h2 hn r s2 h)⟩
  | found ht hf => exact fun B => ⟨fun c hc => (by cases hc; exact ⟨_, .found ht hf⟩), fun hn => (by cases hn)⟩
  | @more s s' t stk l r ht hm _ ih =>
    intro B
    obtain ⟨h1, h2⟩ := ih B
    rw [List.append_assoc] at h1 h2
    exact ⟨fun c hc => (by obtain ⟨s2, h⟩ := h1 c hc; exact ⟨s2, .more ht hm h⟩), fun hn r s2 h => .more ht hm (h2 hn r s2 h)⟩
def Ag (k : Nat) (s s' : Sn) : Prop := ∀ a b, k < b → s a b = s' a b
theorem Ag.symm {k : Nat} {s s' : Sn} (h : Ag k s s') : Ag k s' s := fun a b hb => (h a b hb).symm
theorem Ag.trans {k : Nat} {s s' s'' : Sn} (h : Ag k s s') (h2 : Ag k s' s'') : Ag k s s'' := fun a b hb => (h a b hb).trans (h2 a b hb)
theorem Ag.upd {k : Nat} {s : Sn} {t : Tr3} (ht : t.at_ = k) : Ag k s (updS s t) := fun a b hb => by
  unfold updS; rw [if_neg (by omega)]
end
section
variable {code : List PIns} {ns : Nat} {gs : List (Nat × Nat)} {pls : List Int} {k pl : Nat} {e : Bool}
end
theorem findP_run {idx : Nat → Nat → Nat} {ok : Nat → Nat → Prop} {stp : Tr3 → Res} (hI : InjS idx ok) (hK : KeepS stp ok) {fuel start : Nat} : ∀ (m i : Nat) (arr : List Bool) (V : Sn), RelS idx ok arr V → (∀ j, j < i + m → ok start j) → 3 * arr.length + 1 ≤ fuel → ∃ s', Run stp V ((List.range' i m).map fun j => ⟨start, j, noCaps⟩) (findP idx stp fuel start m i arr) s'
  | 0, i, arr, V, _, _, _ => ⟨V, .nil⟩
  | m + 1, i, arr, V, hr, hst, hf => by
    have hc1 := List.count_le_length (a := false) (l := arr)
    obtain ⟨sP, hrun, hrel⟩ := dfsF_run hI hK fuel arr [⟨start, i, noCaps⟩] V (by simp only [List.length_cons, List.length_nil]; omega) hr (fun t ht => by
      simp only [List.mem_cons, List.not_mem_nil, or_false] at ht
      subst ht
      exact hst i (by omega))
    unfold findP
    rw [List.range'_succ, List.map_cons]
    cases hQ : (dfsF idx stp fuel arr [⟨start, i, noCaps⟩]).1 with
    | some c =>
      rw [hQ] at hrun
      exact (run_app hrun _).1 c rfl
    | none =>
      rw [hQ] at hrun
      obtain ⟨s', h⟩ := findP_run hI hK m (i + 1) _ sP hrel (fun j hj => hst j (by omega)) (by rw [dfsF_len]; exact hf)
      exact ⟨s', (run_app hrun _).2 rfl _ _ h⟩
end Go.Proofs.Ytnleclohocdkaaa
namespace Go.Proofs.Ytnleclohocdkaaa
open Go.V Go
structure Lab (X : Nat → Prop) (c : List PIns) (b : Nat) (A : Nat → Prop) (g : Nat → Nat → Prop) : Prop where
  hd : g b = A
  tl : g (b + c.length) = A
  xs : ∀ n, X n → b ≤ n → n ≤ b + c.length → g n = A
  st : ∀ j i, c[j]? = some i → (∀ v ∈ nextS (b + j) i, ∃ n : Nat, v = (n : Int) ∧ ((b ≤ n ∧ n ≤ b + c.length ∧ ∀ s, g n s → g (b + j) s ∨ (i.op = 4 ∧ i.x = (s : Int))) ∨ (X n ∧ ∀ s, A s → g (b + j) s ∨ (i.op = 4 ∧ i.x = (s : Int))))) ∧
    i.op ≠ 7 ∧ (i.op = 4 → ∃ k : Nat, 1 ≤ k ∧ (i.x = ((2 * k : Nat) : Int) ∨ (i.x = ((2 * k + 1 : Nat) : Int) ∧ g (b + j) (2 * k))))
theorem Lab.nil (X : Nat → Prop) (b : Nat) (A : Nat → Prop) : Lab X [] b A fun _ => A := ⟨rfl, rfl, fun _ _ _ _ => rfl, fun j i h => by simp at h⟩
theorem Lab.one {X : Nat → Prop} {b : Nat} {A : Nat → Prop} {i : PIns} (h4 : i.op ≠ 4) (h7 : i.op ≠ 7) (h : ∀ v ∈ nextS b i, ∃ n : Nat, v = (n : Int) ∧ (n = b + 1 ∨ X n)) : Lab X [i] b A fun _ => A := by
  refine ⟨rfl, rfl, fun _ _ _ _ => rfl, fun j i' hj => ?_⟩
  cases j with
  | succ j => simp at hj
  | zero =>
    simp only [List.getElem?_cons_zero, Option.some.injEq] at hj
    subst hj
    refine ⟨fun v hv => ?_, h7, fun h => absurd h h4⟩
    obtain ⟨n, h1, h2⟩ := h v hv
    refine ⟨n, h1, ?_⟩
    rcases h2 with rfl | h2
    · exact .inl ⟨by omega, by simp, fun s hs => .inl hs⟩
    · exact .inr ⟨h2, fun s hs => .inl hs⟩
theorem Lab.widen {X Y : Nat → Prop} {c : List PIns} {b : Nat} {A : Nat → Prop} {g : Nat → Nat → Prop} (h : Lab X c b A g) (h1 : ∀ n, X n → Y n) (h2 : ∀ n, Y n → X n ∨ n ≤ b ∨ b + c.length ≤ n) : Lab Y c b A g := by
  refine ⟨h.hd, h.tl, fun n hn h3 h4 => ?_, fun j i hj => ⟨fun v hv => ?_, (h.st j i hj).2⟩⟩
  · rcases h2 n hn with h5 | h5 | h5
    · exact h.xs n h5 h3 h4
    · rw [show n = b by omega]; exact h.hd
    · rw [show n = b + c.length by omega]; exact h.tl
  · obtain ⟨n, e, h5⟩ := (h.st j i hj).1 v hv
    refine ⟨n, e, ?_⟩
    rcases h5 with h5 | ⟨h5, h6⟩
    · exact .inl h5
    · exact .inr ⟨h1 n h5, h6⟩
theorem Lab.close {X Y : Nat → Prop} {c : List PIns} {b : Nat} {A : Nat → Prop} {g : Nat → Nat → Prop} (h : Lab X c b A g) (h1 : ∀ n, Y n → X n) (h2 : ∀ n, X n → Y n ∨ (b ≤ n ∧ n ≤ b + c.length)) : Lab Y c b A g := by
  refine ⟨h.hd, h.tl, fun n hn => h.xs n (h1 n hn), fun j i hj => ⟨fun v hv => ?_, (h.st j i hj).2⟩⟩
  obtain ⟨n, e, h5⟩ := (h.st j i hj).1 v hv
  refine ⟨n, e, ?_⟩
  rcases h5 with h5 | ⟨h5, h6⟩
  · exact .inl h5
  · rcases h2 n h5 with h7 | ⟨h7, h8⟩
    · exact .inr ⟨h7, h6⟩
    · exact .inl ⟨h7, h8, fun s hs => h6 s (by rw [h.xs n h5 h7 h8] at hs; exact hs)⟩
theorem Lab.append {X : Nat → Prop} {c d : List PIns} {b e : Nat} {A : Nat → Prop} {g f : Nat → Nat → Prop} (h : Lab X c b A g) (he : e = b + c.length) (k : Lab X d e A f) : Lab X (c ++ d) b A fun n => if n < e then g n else f n := by
  subst he
  have hm : ∀ n, b + c.length = n → g n = f n := fun n hn => by subst hn; rw [h.tl, k.hd]
  refine ⟨?_, ?_, fun n hn h1 h2 => ?_, fun j i hj => ?_⟩
  · show (if b < b + c.length then g b else f b) = A
    split
    · exact h.hd
    · rw [show b = b + c.length by omega]; exact k.hd
  · show (if b + (c ++ d).length < b + c.length then g _ else f _) = A
    rw [if_neg (by rw [List.length_append]; omega), List.length_append, ← Nat.add_assoc]; exact k.tl
  · show (if n < b + c.length then g n else f n) = A
    rw [List.length_append] at h2
    split
    · exact h.xs n hn h1 (by omega)
    · exact k.xs n hn (by omega) (by omega)
  · by_cases hjl : j < c.length
    · rw [List.getElem?_append_left hjl] at hj
      obtain ⟨h1, h2⟩ := h.st j i hj
      have hg : (if b + j < b + c.length then g (b + j) else f (b + j)) = g (b + j) := if_pos (by omega)
      simp only [hg]
      refine ⟨fun v hv => ?_, h2⟩
      obtain ⟨n, e1, h3⟩ := h1 v hv
      refine ⟨n, e1, ?_⟩
      rcases h3 with ⟨h3, h4, h5⟩ | h3
      · refine .inl ⟨h3, by rw [List.length_append]; omega, fun s hs => h5 s ?_⟩
        split at hs
        · exact hs
        · rw [hm n (by omega)]; exact hs
      · exact .inr h3
    · rw [List.getElem?_append_right (by omega)] at hj
      obtain ⟨h1, h2⟩ := k.st (j - c.length) i hj
      have hjj : b + c.length + (j - c.length) = b + j := by omega
      rw [hjj] at h1 h2
      have hg : (if b + j < b + c.length then g (b + j) else f (b + j)) = f (b + j) := if_neg (by omega)
      simp only [hg]
      refine ⟨fun v hv => ?_, h2⟩
      obtain ⟨n, e1, h3⟩ := h1 v hv
      refine ⟨n, e1, ?_⟩
      rcases h3 with ⟨h3, h4, h5⟩ | h3
      · refine .inl ⟨by omega, by rw [List.length_append]; omega, fun s hs => h5 s ?_⟩
        rw [if_neg (by omega)] at hs
        exact hs
      · exact .inr h3
theorem Lab.group {c : List PIns} {b : Nat} {A : Nat → Prop} {g : Nat → Nat → Prop} {k : Nat} {q w : PIns} (hk : 1 ≤ k) (hq : q.op = 4 ∧ q.x = ((2 * k : Nat) : Int)) (hw : w.op = 4 ∧ w.x = ((2 * k + 1 : Nat) : Int)) (h : Lab (fun _ => False) c (b + 1) (fun s => A s ∨ s = 2 * k) g) :
    Lab (fun _ => False) (q :: (c ++ [w])) b A fun n => if n ≤ b ∨ b + 1 + c.length < n then A else g n := by
  have hnx : ∀ (i : PIns) (m : Nat), i.op = 4 → nextS m i = [((m + 1 : Nat) : Int)] := fun i m hi => by unfold nextS; rw [if_neg (by omega), if_neg (by omega), if_neg (by omega)]
  refine ⟨if_pos (.inl (by omega)), if_pos (.inr (by simp; omega)), fun n hn => hn.elim, fun j i hj => ?_⟩
  cases j with
  | zero =>
    simp only [List.getElem?_cons_zero, Option.some.injEq] at hj
    subst hj
    refine ⟨fun v hv => ?_, by rw [hq.1]; decide, fun _ => ⟨k, hk, .inl hq.2⟩⟩
    rw [hnx q _ hq.1] at hv
    simp only [List.mem_cons, List.not_mem_nil, or_false] at hv
    subst hv
    refine ⟨b + 0 + 1, rfl, .inl ⟨by omega, by simp, fun s hs => ?_⟩⟩
    rw [if_neg (by omega)] at hs
    rw [show b + 0 + 1 = b + 1 by omega, h.hd] at hs
    rcases hs with hs | rfl
    · exact .inl (by rw [if_pos (.inl (by omega))]; exact hs)
    · exact .inr ⟨hq.1, hq.2⟩
  | succ j =>
    rw [List.getElem?_cons_succ] at hj
    by_cases hjl : j < c.length
    · rw [List.getElem?_append_left hjl] at hj
      obtain ⟨h1, h2⟩ := h.st j i hj
      have hjj : b + 1 + j = b + (j + 1) := by omega
      rw [hjj] at h1 h2
      have hg : (if b + (j + 1) ≤ b ∨ b + 1 + c.length < b + (j + 1) then A else g (b + (j + 1))) = g (b + (j + 1)) := if_neg (by omega)
      simp only [hg]
      refine ⟨fun v hv => ?_, h2⟩
      obtain ⟨n, e1, h3⟩ := h1 v hv
      refine ⟨n, e1, ?_⟩
      rcases h3 with ⟨h3, h4, h5⟩ | ⟨h3, _⟩
      · refine .inl ⟨by omega, by simp; omega, fun s hs => h5 s ?_⟩
        rw [if_neg (by omega)] at hs
        exact hs
      · exact h3.elim
    · rw [List.getElem?_append_right (by omega)] at hj
      have hjc : j = c.length := by
        rcases Nat.eq_or_lt_of_le (show c.length ≤ j by omega) with h' | h'
        · exact h'.symm
        · rw [List.getElem?_eq_none (by simp; omega)] at hj; cases hj
      subst hjc
      simp only [Nat.sub_self, List.getElem?_cons_zero, Option.some.injEq] at hj
      subst hj
      have hg : (if b + (c.length + 1) ≤ b ∨ b + 1 + c.length < b + (c.length + 1) then A else g (b + (c.length + 1))) = g (b + (c.length + 1)) := if_neg (by omega)
      have ht : g (b + (c.length + 1)) = fun s => A s ∨ s = 2 * k := by rw [← h.tl]; congr 1; omega
      refine ⟨fun v hv => ?_, by rw [hw.1]; decide, fun _ => ⟨k, hk, .inr ⟨hw.2, by rw [hg, ht]; exact .inr rfl⟩⟩⟩
      rw [hnx w _ hw.1] at hv
      simp only [List.mem_cons, List.not_mem_nil, or_false] at hv
      subst hv
      refine ⟨b + (c.length + 1) + 1, rfl, .inl ⟨by omega, by simp; omega, fun s hs => ?_⟩⟩
      rw [if_pos (.inr (by omega))] at hs
      rw [hg, ht]
      exact .inl (.inl hs)
theorem Lab.jp {b e : Nat} {X : Nat → Prop} (A : Nat → Prop) (he : X e) : Lab X [jpI e] b A fun _ => A := by
  refine Lab.one (by simp [jpI, mkI]) (by simp [jpI, mkI]) fun v hv => ?_
  simp only [nextS, jpI, mkI, if_true, List.mem_cons, List.not_mem_nil, or_false] at hv
  rw [if_neg (by decide)] at hv
  simp only [List.mem_cons, List.not_mem_nil, or_false] at hv
  exact ⟨e, hv, .inr he⟩
theorem Lab.sp {b o : Nat} {lz : Bool} {X : Nat → Prop} (A : Nat → Prop) (he : X o) : Lab X [spI b o lz] b A fun _ => A := by
  have h2 : (spI b o lz).op = 2 := by unfold spI; split <;> rfl
  refine Lab.one (by omega) (by omega) fun v hv => ?_
  unfold nextS at hv
  rw [if_pos h2] at hv
  unfold spI at hv
  split at hv
  · simp only [mkI, List.mem_cons, List.not_mem_nil, or_false] at hv
    rcases hv with rfl | rfl
    · exact ⟨o, rfl, .inr he⟩
    · exact ⟨b + 1, rfl, .inl rfl⟩
  · simp only [mkI, List.mem_cons, List.not_mem_nil, or_false] at hv
    rcases hv with rfl | rfl
    · exact ⟨b + 1, rfl, .inl rfl⟩
    · exact ⟨o, rfl, .inr he⟩
def Labd (X : Nat → Prop) (c : List PIns) (b : Nat) (A : Nat → Prop) : Prop := ∃ g, Lab X c b A g
theorem Labd.append {X : Nat → Prop} {c d : List PIns} {b e : Nat} {A : Nat → Prop} (h : Labd X c b A) (he : e = b + c.length) (k : Labd X d e A) : Labd X (c ++ d) b A := by
  obtain ⟨g, h⟩ := h; obtain ⟨f, k⟩ := k; exact ⟨_, h.append he k⟩
theorem repC_lab {A : Nat → Prop} {c : Nat → List PIns} {z : Nat} (hl : ∀ b, (c b).length = z) (hc : ∀ b, Labd (fun _ => False) (c b) b A) : ∀ k b, Labd (fun _ => False) (repC c z k b) b A
  | 0, b => ⟨_, .nil _ b A⟩
  | k + 1, b => (hc b).append (by rw [hl]) (repC_lab hl hc k (b + z))
theorem optC_lab {A : Nat → Prop} {c : Nat → List PIns} {z e : Nat} {lz : Bool} (hl : ∀ b, (c b).length = z) (hc : ∀ b, Labd (fun _ => False) (c b) b A) : ∀ k b, b + k * (z + 1) ≤ e → Labd (fun n => n = e) (optC (fun s => spI s e lz) c z k b) b A
  | 0, b, _ => ⟨_, .nil _ b A⟩
  | k + 1, b, he => by
    rw [Nat.add_mul] at he
    obtain ⟨g, hg⟩ := hc (b + 1)
    have h1 : Labd (fun n => n = e) (c (b + 1)) (b + 1) A := ⟨g, hg.widen (fun n h => h.elim) fun n h => .inr (.inr (by rw [hl]; omega))⟩
    have h2 := h1.append (e := b + 1 + z) (by rw [hl]) (optC_lab (lz := lz) hl hc k (b + 1 + z) (by omega))
    exact Labd.append (c := [_]) ⟨_, Lab.sp A rfl⟩ (e := b + 1) rfl h2
theorem Labd.widen {X Y : Nat → Prop} {c : List PIns} {b : Nat} {A : Nat → Prop} (h : Labd X c b A) (h1 : ∀ n, X n → Y n) (h2 : ∀ n, Y n → X n ∨ n ≤ b ∨ b + c.length ≤ n) : Labd Y c b A := by
  obtain ⟨g, h⟩ := h; exact ⟨g, h.widen h1 h2⟩
theorem Labd.close {X Y : Nat → Prop} {c : List PIns} {b : Nat} {A : Nat → Prop} (h : Labd X c b A) (h1 : ∀ n, Y n → X n) (h2 : ∀ n, X n → Y n ∨ (b ≤ n ∧ n ≤ b + c.length)) : Labd Y c b A := by
  obtain ⟨g, h⟩ := h; exact ⟨g, h.close h1 h2⟩
theorem rptC_lab {A : Nat → Prop} {n : Nod} {c : Nat → List PIns} {z : Nat} (hl : ∀ b, (c b).length = z) (hc : ∀ b, Labd (fun _ => False) (c b) b A) (b : Nat) : Labd (fun _ => False) (rptC n c z b) b A := by
  have hr := repC_lab hl hc n.mn.toNat b
  have hrl : (repC c z n.mn.toNat b).length = n.mn.toNat * z := repC_len hl _ _
  unfold rptC
  split
  · refine hr.append (e := b + n.mn.toNat * z) (by rw [hrl]) ?_
    generalize b + n.mn.toNat * z = s
    have h1 : Labd (fun n => n = s ∨ n = s + z + 2) (c (s + 1)) (s + 1) A := (hc (s + 1)).widen (fun n h => h.elim) fun n h => by rw [hl]; omega
    have h2 : Labd (fun n => n = s ∨ n = s + z + 2) [jpI s] (s + 1 + z) A := ⟨_, Lab.jp A (.inl rfl)⟩
    have h3 := Labd.append (c := [spI s (s + z + 2) n.lz]) (b := s) ⟨_, Lab.sp A (.inr rfl)⟩ (e := s + 1) rfl (h1.append (by rw [hl]) h2)
    refine Labd.close h3 (fun n h => h.elim) fun n h => .inr ?_
    simp only [List.length_append, List.length_cons, List.length_nil, hl]
    omega
  · refine hr.append (e := b + n.mn.toNat * z) (by rw [hrl]) ?_
    generalize b + n.mn.toNat * z = s
    have h1 := optC_lab (lz := n.lz) (e := s + (n.mx.toNat - n.mn.toNat) * (z + 1)) hl hc (n.mx.toNat - n.mn.toNat) s (Nat.le_refl _)
    refine Labd.close h1 (fun n h => h.elim) fun n h => .inr ?_
    rw [optC_len hl]
    omega
mutual
theorem codeT_lab : ∀ (t : Tr) (b : Nat) (A : Nat → Prop), t.ok → Labd (fun _ => False) (codeT t b) b A
  | .mk n ks, b, A, h => by
    have hlen := codeT_len (.mk n ks) b h
    simp only [Tr.ok] at h
    obtain ⟨h1, h2⟩ := h
    have hcl := fun b => catT_len ks b h2
    have hnx : ∀ (op x y : Int) (rs : List Rg) (m : Nat), op ≠ 2 → op ≠ 3 → op ≠ 7 → ∀ v ∈ nextS m (mkI op x y rs), ∃ n : Nat, v = (n : Int) ∧ (n = m + 1 ∨ False) := by
      intro op x y rs m a1 a2 a3 v hv
      unfold nextS at hv
      rw [if_neg (show ¬ (mkI op x y rs).op = 2 from a1), if_neg (show ¬ (mkI op x y rs).op = 3 from a2), if_neg (show ¬ (mkI op x y rs).op = 7 from a3)] at hv
      simp only [List.mem_cons, List.not_mem_nil, or_false] at hv
      exact ⟨m + 1, hv, .inl rfl⟩
    simp only [codeT]
    split
    · exact ⟨_, Lab.one (by simp [mkI]) (by simp [mkI]) (hnx 1 0 0 _ b (by decide) (by decide) (by decide))⟩
    · split
      · exact ⟨_, Lab.one (by simp [mkI]) (by simp [mkI]) (hnx 5 0 0 _ b (by decide) (by decide) (by decide))⟩
      · split
        · exact ⟨_, Lab.one (by simp [mkI]) (by simp [mkI]) (hnx 6 0 0 _ b (by decide) (by decide) (by decide))⟩
        · split
          · exact catT_lab ks b A h2
          · split
            · rename_i h4
              have hz : nodSz n ks.sz ks.len = ks.sz + 2 * (ks.len - 1) := by unfold nodSz; rw [if_neg (by omega), if_pos h4]
              have ha := altT_len (jpI (b + nodSz n ks.sz ks.len)) ks b h2
              refine Labd.close (X := fun m => m = b + nodSz n ks.sz ks.len) ?_ (fun n h => h.elim) fun m hm => .inr ?_
              · exact altT_lab _ ks b A h2 (by rw [ha, hz]; omega)
              · rw [ha]; rw [hz] at hm; omega
            · split
              · exact rptC_lab hcl (fun b => catT_lab ks b A h2) b
              · split
                · rename_i h6
                  obtain ⟨g, hg⟩ := catT_lab ks (b + 1) (fun s => A s ∨ s = 2 * n.cap.toNat) h2
                  have hcap : 1 ≤ n.cap := by
                    rcases h1.2 with h | h | h | h | h <;> omega
                  exact ⟨_, Lab.group (k := n.cap.toNat) (by omega) ⟨rfl, by show 2 * n.cap = _; omega⟩ ⟨rfl, by show 2 * n.cap + 1 = _; omega⟩ hg⟩
                · exact ⟨_, .nil _ b A⟩
theorem catT_lab : ∀ (ts : Trs) (b : Nat) (A : Nat → Prop), ts.ok → Labd (fun _ => False) (catT ts b) b A
  | .nil, b, A, _ => by simp only [catT]; exact ⟨_, .nil _ b A⟩
  | .cons t ts, b, A, h => by
    simp only [Trs.ok] at h
    simp only [catT]
    exact (codeT_lab t b A h.1).append (by rw [codeT_len t b h.1]) (catT_lab ts (b + t.sz) A h.2)
theorem altT_lab (e : Nat) : ∀ (ts : Trs) (b : Nat) (A : Nat → Prop), ts.ok → b + (altT (jpI e) ts b).length ≤ e → Labd (fun n => n = e) (altT (jpI e) ts b) b A
  | .nil, b, A, _, _ => by simp only [altT]; exact ⟨_, .nil _ b A⟩
  | .cons t ts, b, A, h, he => by
    simp only [Trs.ok] at h
    simp only [altT] at he ⊢
    split
    · rename_i h0
      rw [if_pos h0] at he
      exact (codeT_lab t b A h.1).widen (fun n h => h.elim) fun n hn => .inr (.inr (by omega))
    · rename_i h0
      rw [if_neg h0] at he
      simp only [List.length_cons, List.length_append, codeT_len t (b + 1) h.1] at he
      have h1 : Labd (fun n => n = e ∨ n = b + 1 + t.sz + 1) (codeT t (b + 1)) (b + 1) A := (codeT_lab t (b + 1) A h.1).widen (fun n h => h.elim) fun n hn => .inr (.inr (by rw [codeT_len t (b + 1) h.1]; omega))
      have h2 : Labd (fun n => n = e ∨ n = b + 1 + t.sz + 1) (altT (jpI e) ts (b + t.sz + 2)) (b + t.sz + 2) A := (altT_lab e ts (b + t.sz + 2) A h.2 (by omega)).widen (fun n h => .inl h) fun n hn => by omega
      have h3 : Labd (fun n => n = e ∨ n = b + 1 + t.sz + 1) (jpI e :: altT (jpI e) ts (b + t.sz + 2)) (b + 1 + t.sz) A := Labd.append (c := [jpI e]) ⟨_, Lab.jp A (.inl rfl)⟩ (e := b + t.sz + 2) (by simp only [List.length_cons, List.length_nil]; omega) h2
      have h4 := Labd.append (c := [spI b (b + 1 + t.sz + 1) false]) (b := b) ⟨_, Lab.sp A (.inr rfl)⟩ (e := b + 1) rfl (h1.append (by rw [codeT_len t (b + 1) h.1]) h3)
      refine Labd.close h4 (fun n h => .inl h) fun n hn => ?_
      rcases hn with hn | hn
      · exact .inl hn
      · refine .inr ?_
        simp only [List.length_append, List.length_cons, List.length_nil, codeT_len t (b + 1) h.1]
        omega
end
end Go.Proofs.Ytnleclohocdkaaa
