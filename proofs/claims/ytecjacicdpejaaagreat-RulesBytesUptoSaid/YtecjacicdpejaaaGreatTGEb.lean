/-
 The readers of a set.
-/
import Derived.Test.YtecjacicdpejaaaGreatTGHr
import Derived.Test.YtecjacicdpejaaaGreatTGYb
import Derived.Test.YtecjacicdpejaaaGreatTM2
import Derived.DataReads
import Derived.ChangeOld
import GoSem.ClaimChange
import Derived.Below
import Derived.Test.YtecjacicdpejaaaGreatRows
import Derived.Test.YtecjacicdpejaaaGreatTGUa
import Derived.Test.YtecjacicdpejaaaGreatTDgp
set_option maxRecDepth 100000
set_option maxHeartbeats 4000000
set_option linter.unusedSimpArgs false
set_option linter.unusedVariables false
set_option linter.unusedSectionVars false
set_option linter.unnecessarySimpa false
namespace Go.Proofs.YtecjacicdpejaaaGreat
open Go.V Go
def ixF_Eb (fr : Go.V.Fr) (k : Nat) : Go.V.D := Go.V.nth .junk fr.loc k
def patR (b : List UInt8) (s : Rdr) : Pat × Rdr := (⟨(textR b 32 s).1, (textR b 120 (textR b 32 s).2).1⟩, (textR b 120 (textR b 32 s).2).2)
def patsR (b : List UInt8) (s : Rdr) : List Pat × Rdr := itemsL (patR b) (itemsR b 8 s).1.toNat (itemsR b 8 s).2
def setR (b : List UInt8) (s : Rdr) : (List Pat × List UInt8) × Rdr := (((patsR b s).1, (textR b 120 (patsR b s).2).1), (textR b 120 (patsR b s).2).2)
theorem patR_ok {b : List UInt8} {s : Rdr} (h : s.at_ ≤ b.length) : (patR b s).2.at_ ≤ b.length := (textR_ok (textR_ok h).1).1
theorem patsR_ok {b : List UInt8} {s : Rdr} (h : s.at_ ≤ b.length) : (patsR b s).2.at_ ≤ b.length := itemsL_ok (fun _ h => patR_ok h) _ _ (itemsR_ok h).1
theorem textR_err {b : List UInt8} {m : Int} {s : Rdr} (h : s.e ≠ 0) : (textR b m s).2.e ≠ 0 := by
 have h1 : numR b s = (0, s) := by unfold numR; rw [if_pos h]
 have h2 : (uptoR b m s).2.e ≠ 0 := by
  unfold uptoR;rw [h1]
  split
  ·rename_i hc; exact absurd hc.1 h
  ·exact h
 unfold textR;rw [if_pos h2]; exact h2
def patD (l : List Pat) : D := .sl ((l.map patC).map (elD 2))
theorem pat_tell (l : List Pat) : (∀ e ∈ l.map patC, ∀ d ∈ e, tellC d = true) ∧ (l.map patC).map (·.map frzC) = l.map patC := by
 constructor
 ·intro e he d hd;obtain ⟨q, hq, rfl⟩ := List.mem_map.1 he;simp only [patC, List.mem_cons, List.not_mem_nil, or_false] at hd
  rcases hd with rfl | rfl <;> rfl
 ·rw [List.map_map]; rfl
theorem pat_plain (l : List Pat) : ∀ e ∈ l.map patC, ∀ d ∈ e, plainC d = true := by
 intro e he d hd;obtain ⟨q, hq, rfl⟩ := List.mem_map.1 he;simp only [patC, List.mem_cons, List.not_mem_nil, or_false] at hd
 rcases hd with rfl | rfl <;> rfl
theorem pat_len (l : List Pat) : ∀ e ∈ l.map patC, e.length = 2 := by
 intro e he;obtain ⟨q, hq, rfl⟩ := List.mem_map.1 he; rfl
theorem pat_sl (l : List Pat) : SlD (patD l) 2 (l.map patC) := SlD.frozen (pat_len l) (pat_plain l)
theorem gPat_ev {N k : Nat} {S s0 : St} {H : List Ent} {x : D} {b : List UInt8} {s : Rdr} (hbl : b.length ≤ 1099511627776) (hok : s.at_ ≤ b.length) (hH : Has N S s0 (.box k (.mem 0 false (rdC x s)) :: .lst x 1 (byteCells b) :: H)) :
  ∃ d st', Ev pv 130 [.ptr k 0 0] s0 d st' ∧ d = .agg (patC (patR b s).1) ∧ Has N S st' (.box k (.mem 0 false (rdC x (patR b s).2)) :: .lst x 1 (byteCells b) :: H) := by
 refine Ev.mkE rfl fi130 rfl rfl rfl ?_;refine zE ?_;have hH0 := hH;have hH := hH.enterRw;have hS2 : (enterSt .rw s0).bs = s0.bs := rfl;generalize enterSt .rw s0 = S2 at *;refine zQ 2 ?_;refine qa hH fun k2 st hk2 hH => ?_;dsimp only [u2, u1, u3, u4, setMany, u5, u6, D.cells, Nat.reduceAdd, rdC] at hH;refine zQ 3 ?_;refine qa hH fun k3 st hk3 hH => ?_;refine zQ 1 ?_;have hH : Has N S2 st (.box k (.mem 0 false (rdC x s)) :: .lst x 1 (byteCells b) :: .box k3 (.mem 0 false (patC ⟨[], []⟩)) :: .box k2 (.mem 0 false (patC ⟨[], []⟩)) :: H) := Has.rot [_, _] [_, _] hH;refine zQ 3 ?_;obtain ⟨_, st, hev, rfl, hH⟩ := gText_ev hbl hok 32 hH;refine qv hev ?_;refine zQ 1 ?_;refine EvO.hstore hH rfl (ev rfl) (ev rfl) rfl (by exact rfl) at2 (by exact Nat.le_of_ble_eq_true rfl) (.inr rfl) (fun st hH => ?_);dsimp only [u1, u2] at hH;refine zQ 1 ?_;have hH : Has N S2 st (.box k (.mem 0 false (rdC x (textR b 32 s).2)) :: .lst x 1 (byteCells b) :: .box k3 (.mem 0 false (patC ⟨(textR b 32 s).1, []⟩)) :: .box k2 (.mem 0 false (patC ⟨[], []⟩)) :: H) := hH;have hok1 := (textR_ok (b := b) (m := 32) hok).1;refine zQ 3 ?_;obtain ⟨_, st, hev, rfl, hH⟩ := gText_ev hbl hok1 120 hH;refine qv hev ?_;refine zQ 1 ?_;refine EvO.hstore hH rfl (ev rfl) (ev rfl) rfl (by exact rfl) at2 (by exact Nat.le_of_ble_eq_true rfl) (.inr rfl) (fun st hH => ?_);dsimp only [u1, u2] at hH;refine zQ 1 ?_;have hH : Has N S2 st (.box k (.mem 0 false (rdC x (patR b s).2)) :: .lst x 1 (byteCells b) :: .box k3 (.mem 0 false (patC (patR b s).1)) :: .box k2 (.mem 0 false (patC ⟨[], []⟩)) :: H) := hH;generalize (patR b s).1 = t at *;refine zQ 2 ?_;refine EvO.hloadS (m := 2) (r := patC t) hH rfl (ev rfl) at2 rfl rfl rfl (put_T rfl _) ?_;refine EvO.hstoreA hH rfl (ev rfl) (ev rfl) rfl (by exact rfl) at3 (by exact rfl) (.inr rfl) (fun st hH => ?_);dsimp only [u1, u2] at hH;refine zQ 1 ?_;refine EvC.ret ⟨rx, _, _, _, hH.resCell rfl at3 rfl, leaveD_rw (show freezeD st s0.bs.length false 16 (.agg (patC t)) = some (.agg (patC t)) from rfl), ?_⟩;exact ⟨rfl, hH0.leaveRw1 hS2 ((hH.erase 2).erase 2)⟩
theorem gPats_ev {N k : Nat} {S s0 : St} {H : List Ent} {x : D} {b : List UInt8} {s : Rdr} (hbl : b.length ≤ 1099511627776) (hok : s.at_ ≤ b.length) (hH : Has N S s0 (.box k (.mem 0 false (rdC x s)) :: .lst x 1 (byteCells b) :: H)) :
  ∃ d st', Ev pv 129 [.ptr k 0 0, .int .i64 8, .fn 130 []] s0 d st' ∧ (∃ L : List Pat, d = patD L ∧ L.length ≤ 8 ∧ True ∧ ((patsR b s).2.e = 0 → L = (patsR b s).1)) ∧ Has N S st' (.box k (.mem 0 false (rdC x (patsR b s).2)) :: .lst x 1 (byteCells b) :: H) := by
 have hbc := byteCells_len b;obtain ⟨u1, u2, u3, u4⟩ := uptoR_ok (m := 8) hok;obtain ⟨i1, i2, i3, i4⟩ := itemsR_ok (m := 8) hok;have hiv : itemsR b 8 s = if (uptoR b 8 s).2.e = 0 ∧ (uptoR b 8 s).1 > (b.length : Int) - (uptoR b 8 s).2.at_ then ((uptoR b 8 s).1, ⟨s.at_, 3⟩) else uptoR b 8 s := rfl;unfold patsR;refine Ev.mkE rfl fi129 rfl rfl rfl ?_;refine zE ?_;have hH0 := hH;have hH := hH.enterRw;have hS2 : (enterSt .rw s0).bs = s0.bs := rfl;generalize enterSt .rw s0 = S2 at *;refine zQ 16 ?_;obtain ⟨_, st, hev, rfl, hH⟩ := gUpto_ev hbl hok 8 hH;refine qv hev ?_;refine zQ 2 ?_;generalize uptoR b 8 s = R at *;obtain ⟨n, s1⟩ := R;dsimp only at u1 u2 u3 u4 hiv hH ⊢;refine zQ 2 ?_;refine EvC.merge3 (fun fr st => ∃  (tmp : List (Nat × D)), fr = ⟨11, [.ptr k 0 0, ixF_Eb fr 1, .fn 130 [], ixF_Eb fr 3, ixF_Eb fr 4, ixF_Eb fr 5, ixF_Eb fr 6, ixF_Eb fr 7, .int .i64 (itemsR b 8 s).1, ixF_Eb fr 9, ixF_Eb fr 10], tmp⟩ ∧ Has N S2 st (.box k (.mem 0 false (rdC x (itemsR b 8 s).2)) :: .lst x 1 (byteCells b) :: H) ∧ (True)) ?_ ?_
 ·by_cases he : s1.e = 0
  ·have hg5 : (s1.e == 0) = true := by simpa using he
   refine zQ 12 ?_;refine qn ?_ (hR := hH.rows at1) (hg := wi hg5);refine zQ 4 ?_;refine EvO.subZ (z := (((b.length : Nat) : Int) - (s1.at_ : Nat))) (wantD_is rfl rfl rfl hg5) (ev rfl) (ev rfl) (by (try simp only [List.length_reverse, List.length_cons, List.length_nil, List.length_append, List.length_map, List.length_set]); rw [wrap_i64 (by omega) (by omega)] <;> omega) (put_T rfl _) ?_;refine zQ 3 ?_
   by_cases hlt : n > (b.length : Int) - s1.at_
   ·rw [if_pos ⟨he, hlt⟩] at hiv;rw [hiv];have hc : decide (n > (b.length : Int) - s1.at_) = true := by rw [decide_eq_true_eq]; exact hlt
    refine qD rfl (by rw [hc]) ?_;refine zQ 3 ?_;obtain ⟨_, st, hev, rfl, hH⟩ := gWrong_ev s.at_ 3 hH;refine qv hev ?_;refine zQ 1 ?_;exact ⟨_, rfl, hH, trivial⟩
   ·rw [if_neg (fun h => hlt h.2)] at hiv;rw [hiv];have hc : decide (n > (b.length : Int) - s1.at_) = false := by rw [decide_eq_false_iff_not]; exact hlt
    refine qE rfl (by rw [hc]) ?_;refine zQ 1 ?_;exact ⟨_, rfl, hH, trivial⟩
  ·rw [if_neg (fun h => he h.1)] at hiv;rw [hiv];have hg5 : (s1.e == 0) = false := by simpa using he
   refine zQ 23 ?_;exact ⟨_, rfl, hH, trivial⟩
 rintro fr st ⟨tmp, hfr, hH, ht⟩;rw [hfr];clear hfr;generalize ixF_Eb fr = ee;clear fr;clear hiv u1 u2 u3 u4;generalize itemsR b 8 s = R at *;obtain ⟨n, s2⟩ := R;dsimp only at i1 i2 i3 i4 hH ⊢
 obtain ⟨m, rfl⟩ : ∃ m : Nat, n = (m : Nat) := ⟨n.toNat, by omega⟩
 rw [Int.toNat_natCast];refine zQ 9 ?_;have hH : Has N S2 st (.box k (.mem 0 false (rdC x s2)) :: .lst x 1 (byteCells b) :: .lst .nul 2 (([] : List Pat).map patC) :: H) := Has.rot [_] [_, _] (hH.nulE 2);refine zQ 1 ?_;refine EvC.loop (fun mm fr st => ∃ (i : Nat) (sr : Rdr) (od : D) (acc : List Pat), fr.clean = ⟨11, [.ptr k 0 0, ixF_Eb fr 1, .fn 130 [], ixF_Eb fr 3, ixF_Eb fr 4, ixF_Eb fr 5, ixF_Eb fr 6, ixF_Eb fr 7, .int .i64 (m : Nat), od, .int .i64 (i : Nat)], []⟩ ∧ Has N S2 st (.box k (.mem 0 false (rdC x sr)) :: .lst x 1 (byteCells b) :: .lst od 2 (acc.map patC) :: H) ∧ (i + mm = m) ∧ (acc.length = i) ∧ (sr.at_ ≤ b.length) ∧ (sr.e = 0 → s2.e = 0) ∧ (∀ k, od.ref = k + 1 → S2.bs.length ≤ k) ∧ ((itemsL (patR b) m s2).2 = (itemsL (patR b) mm sr).2) ∧ ((itemsL (patR b) mm sr).2.e = 0 → (itemsL (patR b) m s2).1 = acc ++ (itemsL (patR b) mm sr).1) ∧ (acc.length ≤ 8) ∧ (True)) (m) ?_ ?_
 ·exact ⟨0, s2, .nul, [], rfl, hH, by omega, rfl, i1, fun h => h, fun k hk => by simp only [D.ref] at hk; omega, rfl, fun _ => rfl, by simp, trivial⟩
 rintro mm fr st ⟨i, sr, od, acc, hfr, hH, hi, hal, hsr, hse, hod, hI2, hI1, hab, hval⟩;rw [hfr];clear hfr;generalize ixF_Eb fr = ee;clear fr;refine zQ 2 ?_;refine EvC.cutT 49 (.bool (decide (((i : Nat) : Int) < (m : Nat)) && (sr.e == 0))) [] ?_ (fun ff tmp htmp => ?_)
 ·refine zQ 4 ?_;refine EvO.two 43 rfl (fun hg3 => ?_) (fun hg3 => ?_)
  ·refine zQ 6 ?_;refine EvO.nil (leafT ?_ ?_)
   ·dsimp only [setW, List.foldl, nth, u2, u1]
    all_goals (first | rfl | simp)
   ·refine zF ?_
    all_goals (simp_all; done)
  ·refine zQ 6 ?_;refine EvO.nil (leafT ?_ ?_)
   ·dsimp only [setW, List.foldl, nth, u2, u1]
    all_goals (first | rfl | simp)
   ·refine zF ?_
    all_goals (simp_all; omega)
 refine zG ?_;refine qc (fun hc => ?_) (fun hc => ?_) <;> try simp only [cs] at hc
 ·have hc : i < m ∧ sr.e = 0 := by
   rw [Bool.and_eq_true, decide_eq_true_eq] at hc;exact ⟨by omega, by simpa using hc.2⟩
  obtain ⟨hlt, he⟩ := hc
  obtain ⟨mm, rfl⟩ : ∃ q, mm = q + 1 := ⟨mm - 1, by omega⟩
  have hmb := i4 (hse he)
  have hstep : itemsL (patR b) (mm + 1) sr = ((patR b sr).1 :: (itemsL (patR b) mm (patR b sr).2).1, (itemsL (patR b) mm (patR b sr).2).2) := by
   conv => lhs; unfold itemsL
   rw [if_neg (by simpa using he)]
  rw [hstep] at hI1 hI2;have hok1 : (patR b sr).2.at_ ≤ b.length := patR_ok hsr;refine zQ 7 ?_;obtain ⟨_, st, hev, rfl, hH⟩ := gPat_ev hbl hsr hH;refine qv hev ?_;refine qh (s := 2) (vs := [_]) hH fun k56 st hk56 hH => ?_;dsimp only [u2, u1, u3, u4, setMany, u5, u6, D.cells, Nat.reduceAdd, rdC] at hH;refine EvO.happend5 (s := 2) hH rfl (ev rfl) (ev rfl) at3 (hH.rows at0) rfl rfl rfl rfl rfl rfl rfl ⟨(Nat.le_of_ble_eq_true rfl), (Nat.le_of_ble_eq_true rfl)⟩ (fun _ => (put_T rfl _)) (by simp only [List.length_map, List.length_cons, List.length_nil]; omega) (.inr rfl) hod (fun x57 st hod hH => ?_);dsimp only [u1, u2] at hH;refine zQ 2 ?_;have hH := hH.drop 1;refine zQ 5 ?_;refine ⟨mm, by omega, ⟨i + 1, (patR b sr).2, x57, acc ++ [(patR b sr).1], rfl, (by rw [List.map_append]; exact hH), by omega, (by rw [List.length_append]; simp only [List.length_cons, List.length_nil]; omega), hok1, fun _ => hse he, hod, hI2, ?_, (by rw [List.length_append]; simp only [List.length_cons, List.length_nil]; omega), trivial⟩⟩;intro h0;rw [hI1 h0];rw [List.append_assoc]; rfl
 ·refine zQ 1 ?_
  have hend : itemsL (patR b) mm sr = ([], sr) := by
   by_cases he : sr.e = 0
   ·have : mm = 0 := by
     rcases Nat.eq_zero_or_pos mm with h | h
     ·exact h
     ·exfalso
      have h1 : decide (((i : Nat) : Int) < (m : Nat)) = true := by rw [decide_eq_true_eq]; omega
      rw [h1, he] at hc; simp at hc
    rw [this]; rfl
   ·exact itemsL_err _ he mm
  rw [hend] at hI1 hI2;simp only [List.append_nil] at hI1;rw [hI2];refine zQ 9 ?_;refine EvC.cond (by rfl) (fun hne => ?_) (fun hne => ?_) <;> try simp only [bne_iff_ne, bne_eq_false_iff_eq, ne_eq] at hne
  ·refine zQ 4 ?_;refine EvC.ret ⟨rx, _, _, _, rfl, leaveD_rw (rfl), ?_⟩;exact ⟨⟨[], rfl, by simp, trivial, fun h => absurd h (by simpa using hne)⟩, hH0.leaveRw1 hS2 (hH.erase 2)⟩
  ·refine zQ 6 ?_;have htl := pat_tell acc;have hfz := hH.freezeT (L := s0.bs.length) (n := 16) at2 (fun k hk => by rw [← hS2]; exact hod k hk) htl.1 (by decide);rw [htl.2] at hfz;refine EvC.ret ⟨rx, _, _, _, rfl, leaveD_rw hfz, ?_⟩;exact ⟨⟨acc, rfl, hab, hval, fun h => (hI1 h).symm⟩, hH0.leaveRw1 hS2 (hH.erase 2)⟩
theorem gSet_ev {N k : Nat} {S s0 : St} {H : List Ent} {x : D} {b : List UInt8} {s : Rdr} (hbl : b.length ≤ 1099511627776) (hok : s.at_ ≤ b.length) (hH : Has N S s0 (.box k (.mem 0 false (rdC x s)) :: .lst x 1 (byteCells b) :: H)) :
  ∃ d st', Ev pv 65 [.ptr k 0 0] s0 d st' ∧ (∃ (l : List Pat) (c : List UInt8), d = .agg [patD l, .str c] ∧ l.length ≤ 8 ∧ ((setR b s).2.e = 0 → (l, c) = (setR b s).1)) ∧ Has N S st' (.box k (.mem 0 false (rdC x (setR b s).2)) :: .lst x 1 (byteCells b) :: H) := by
 refine Ev.mkE rfl fi65 rfl rfl rfl ?_;refine zE ?_;have hH0 := hH;have hH := hH.enterRw;have hS2 : (enterSt .rw s0).bs = s0.bs := rfl;generalize enterSt .rw s0 = S2 at *;refine zQ 2 ?_;refine qa hH fun k2 st hk2 hH => ?_;dsimp only [u2, u1, u3, u4, setMany, u5, u6, D.cells, Nat.reduceAdd, rdC] at hH;refine zQ 3 ?_;refine qa hH fun k3 st hk3 hH => ?_;refine zQ 1 ?_;have hH : Has N S2 st (.box k (.mem 0 false (rdC x s)) :: .lst x 1 (byteCells b) :: .box k3 (.mem 0 false [.nul, .str []]) :: .box k2 (.mem 0 false [.nul, .str []]) :: H) := Has.rot [_, _] [_, _] hH;refine zQ 3 ?_;obtain ⟨_, st, hev, ⟨l, rfl, hll, _, hlq⟩, hH⟩ := gPats_ev hbl hok hH;refine qv hev ?_;refine zQ 1 ?_;refine EvO.hstore hH rfl (ev rfl) (ev rfl) rfl (by exact rfl) at2 (by exact Nat.le_of_ble_eq_true rfl) (.inr rfl) (fun st hH => ?_);dsimp only [u1, u2] at hH;refine zQ 1 ?_;have hH : Has N S2 st (.box k (.mem 0 false (rdC x (patsR b s).2)) :: .lst x 1 (byteCells b) :: .box k3 (.mem 0 false [patD l, .str []]) :: .box k2 (.mem 0 false [.nul, .str []]) :: H) := hH;have hok1 := patsR_ok (b := b) hok;refine zQ 3 ?_;obtain ⟨_, st, hev, rfl, hH⟩ := gText_ev hbl hok1 120 hH;refine qv hev ?_;refine zQ 1 ?_;refine EvO.hstore hH rfl (ev rfl) (ev rfl) rfl (by exact rfl) at2 (by exact Nat.le_of_ble_eq_true rfl) (.inr rfl) (fun st hH => ?_);dsimp only [u1, u2] at hH;refine zQ 1 ?_;have hH : Has N S2 st (.box k (.mem 0 false (rdC x (setR b s).2)) :: .lst x 1 (byteCells b) :: .box k3 (.mem 0 false [patD l, .str (textR b 120 (patsR b s).2).1]) :: .box k2 (.mem 0 false [.nul, .str []]) :: H) := hH
 have hq : (setR b s).2.e = 0 → (l, (textR b 120 (patsR b s).2).1) = (setR b s).1 := fun h => by
  have h1 : (patsR b s).2.e = 0 := by
   rcases Classical.em ((patsR b s).2.e = 0) with h1 | h1
   ·exact h1
   ·exact absurd h (textR_err h1)
  rw [hlq h1]; rfl
 generalize (textR b 120 (patsR b s).2).1 = c at *;refine zQ 2 ?_;refine EvO.hloadS (m := 2) (r := [patD l, .str c]) hH rfl (ev rfl) at2 rfl rfl rfl (put_T rfl _) ?_;refine EvO.hstoreA hH rfl (ev rfl) (ev rfl) rfl (by exact rfl) at3 (by exact rfl) (.inr rfl) (fun st hH => ?_);dsimp only [u1, u2] at hH;refine zQ 1 ?_;refine EvC.ret ⟨rx, _, _, _, hH.resCell rfl at3 rfl, leaveD_rw (show freezeD st s0.bs.length false 16 (.agg [patD l, .str c]) = some (.agg [patD l, .str c]) from rfl), ?_⟩;exact ⟨⟨l, c, rfl, hll, hq⟩, hH0.leaveRw1 hS2 ((hH.erase 2).erase 2)⟩
theorem hSet_ev {N k : Nat} {S s0 : St} {H : List Ent} {x : D} {b : List UInt8} {s : Rdr} (hbl : b.length ≤ 1099511627776) (hok : s.at_ ≤ b.length) (hH : Has N S s0 (.box k (.mem 0 false (rdC x s)) :: .lst x 1 (byteCells b) :: H)) :
  ∃ d st', Ev pv 66 [.ptr k 0 0] s0 d st' ∧ (∃ (l : List Pat) (c : List UInt8), d = .agg [patD l, .str c] ∧ ((setR b s).2.e = 0 → (l, c) = (setR b s).1)) ∧ Has N S st' (.box k (.mem 0 false (rdC x (setR b s).2)) :: .lst x 1 (byteCells b) :: H) := by
 have hbc := byteCells_len b;obtain ⟨u1, u2, u3, u4⟩ := uptoR_ok (m := 8) hok;obtain ⟨i1, i2, i3, i4⟩ := itemsR_ok (m := 8) hok;have hiv : itemsR b 8 s = if (uptoR b 8 s).2.e = 0 ∧ (uptoR b 8 s).1 > (b.length : Int) - (uptoR b 8 s).2.at_ then ((uptoR b 8 s).1, ⟨s.at_, 3⟩) else uptoR b 8 s := rfl;unfold setR patsR;have hF1 : (enterSt .rw s0).flr = (enterSt .rw s0).bs.length := rfl;refine Ev.mkE rfl fi66 rfl rfl rfl ?_;refine zE ?_;have hH0 := hH;have hH := hH.enterRw;have hS2 : (enterSt .rw s0).bs = s0.bs := rfl;generalize enterSt .rw s0 = S2 at *;refine zQ 2 ?_;refine qa hH fun k2 st hk2 hH => ?_;dsimp only [u2, u1, u3, u4, setMany, u5, u6, D.cells, Nat.reduceAdd, rdC] at hH;refine zQ 3 ?_;refine qa hH fun k3 st hk3 hH => ?_;refine zQ 1 ?_;have hH : Has N S2 st (.box k (.mem 0 false (rdC x s)) :: .lst x 1 (byteCells b) :: .box k3 (.mem 0 false [.nul, .str []]) :: .box k2 (.mem 0 false [.nul, .str []]) :: H) := Has.rot [_, _] [_, _] hH;refine zQ 11 ?_;obtain ⟨_, st, hev, rfl, hH⟩ := hUpto_ev hbl hok 8 hH;refine qv hev ?_;refine zQ 2 ?_;generalize uptoR b 8 s = R at *;obtain ⟨n, s1⟩ := R;dsimp only at u1 u2 u3 u4 hiv hH ⊢;refine zQ 2 ?_;refine EvC.merge3 (fun fr st => ∃  (tmp : List (Nat × D)), fr = ⟨8, [.ptr k 0 0, ixF_Eb fr 1, .ptr k2 0 0, .ptr k3 0 0, ixF_Eb fr 4, .int .i64 (itemsR b 8 s).1, ixF_Eb fr 6, ixF_Eb fr 7], tmp⟩ ∧ Has N S2 st (.box k (.mem 0 false (rdC x (itemsR b 8 s).2)) :: .lst x 1 (byteCells b) :: .box k3 (.mem 0 false [.nul, .str []]) :: .box k2 (.mem 0 false [.nul, .str []]) :: H) ∧ (True)) ?_ ?_
 ·by_cases he : s1.e = 0
  ·have hg5 : (s1.e == 0) = true := by simpa using he
   refine zQ 12 ?_;refine qn ?_ (hR := hH.rows at1) (hg := wi hg5);refine zQ 4 ?_;refine EvO.subZ (z := (((b.length : Nat) : Int) - (s1.at_ : Nat))) (wantD_is rfl rfl rfl hg5) (ev rfl) (ev rfl) (by (try simp only [List.length_reverse, List.length_cons, List.length_nil, List.length_append, List.length_map, List.length_set]); rw [wrap_i64 (by omega) (by omega)] <;> omega) (put_T rfl _) ?_;refine zQ 3 ?_
   by_cases hlt : n > (b.length : Int) - s1.at_
   ·rw [if_pos ⟨he, hlt⟩] at hiv;rw [hiv];have hc : decide (n > (b.length : Int) - s1.at_) = true := by rw [decide_eq_true_eq]; exact hlt
    refine qD rfl (by rw [hc]) ?_;refine zQ 5 ?_;refine qT hH at0 fun st hH => ?_;dsimp only [u2, u1, u3, u4, setMany, u5, u6, D.cells, Nat.reduceAdd, rdC] at hH;refine zQ 6 ?_;refine qT hH at0 fun st hH => ?_;dsimp only [u2, u1, u3, u4, setMany, u5, u6, D.cells, Nat.reduceAdd, rdC] at hH;refine zQ 1 ?_;exact ⟨_, rfl, hH, trivial⟩
   ·rw [if_neg (fun h => hlt h.2)] at hiv;rw [hiv];have hc : decide (n > (b.length : Int) - s1.at_) = false := by rw [decide_eq_false_iff_not]; exact hlt
    refine qE rfl (by rw [hc]) ?_;refine zQ 1 ?_;exact ⟨_, rfl, hH, trivial⟩
  ·rw [if_neg (fun h => he h.1)] at hiv;rw [hiv];have hg5 : (s1.e == 0) = false := by simpa using he
   refine zQ 23 ?_;exact ⟨_, rfl, hH, trivial⟩
 rintro fr st ⟨tmp, hfr, hH, ht⟩;rw [hfr];clear hfr;generalize ixF_Eb fr = ee;clear fr;clear hiv u1 u2 u3 u4;generalize itemsR b 8 s = R at *;obtain ⟨n, s2⟩ := R;dsimp only at i1 i2 i3 i4 hH ⊢
 obtain ⟨m, rfl⟩ : ∃ m : Nat, n = (m : Nat) := ⟨n.toNat, by omega⟩
 rw [Int.toNat_natCast];refine zQ 5 ?_;have hH : Has N S2 st (.box k (.mem 0 false (rdC x s2)) :: .lst x 1 (byteCells b) :: .box k3 (.mem 0 false [.nul, .str []]) :: .box k2 (.mem 0 false [.nul, .str []]) :: .lst .nul 2 (([] : List Pat).map patC) :: H) := Has.rot [_] [_, _, _, _] (hH.nulE 2);refine zQ 1 ?_;refine EvC.loop (fun mm fr st => ∃ (i : Nat) (sr : Rdr) (od : D) (acc : List Pat), fr.clean = ⟨8, [.ptr k 0 0, ixF_Eb fr 1, .ptr k2 0 0, .ptr k3 0 0, ixF_Eb fr 4, .int .i64 (m : Nat), .int .i64 (i : Nat), ixF_Eb fr 7], []⟩ ∧ Has N S2 st (.box k (.mem 0 false (rdC x sr)) :: .lst x 1 (byteCells b) :: .box k3 (.mem 0 false [od, .str []]) :: .box k2 (.mem 0 false [.nul, .str []]) :: .lst od 2 (acc.map patC) :: H) ∧ (i + mm = m) ∧ (acc.length = i) ∧ (sr.at_ ≤ b.length) ∧ (sr.e = 0 → s2.e = 0) ∧ (∀ k, od.ref = k + 1 → S2.bs.length ≤ k) ∧ ((itemsL (patR b) m s2).2 = (itemsL (patR b) mm sr).2) ∧ ((itemsL (patR b) mm sr).2.e = 0 → (itemsL (patR b) m s2).1 = acc ++ (itemsL (patR b) mm sr).1) ∧ (acc.length ≤ 8)) (m) ?_ ?_
 ·exact ⟨0, s2, .nul, [], rfl, hH, by omega, rfl, i1, fun h => h, fun k hk => by simp only [D.ref] at hk; omega, rfl, fun _ => rfl, by simp⟩
 rintro mm fr st ⟨i, sr, od, acc, hfr, hH, hi, hal, hsr, hse, hod, hI2, hI1, hab⟩;rw [hfr];clear hfr;generalize ixF_Eb fr = ee;clear fr;refine zQ 2 ?_;refine EvC.cutT 49 (.bool (decide (((i : Nat) : Int) < (m : Nat)) && (sr.e == 0))) [] ?_ (fun ff tmp htmp => ?_)
 ·refine zQ 4 ?_;refine EvO.two 43 rfl (fun hg3 => ?_) (fun hg3 => ?_)
  ·refine zQ 6 ?_;refine EvO.nil (leafT ?_ ?_)
   ·dsimp only [setW, List.foldl, nth, u2, u1]
    all_goals (first | rfl | simp)
   ·refine zF ?_
    all_goals (simp_all; done)
  ·refine zQ 6 ?_;refine EvO.nil (leafT ?_ ?_)
   ·dsimp only [setW, List.foldl, nth, u2, u1]
    all_goals (first | rfl | simp)
   ·refine zF ?_
    all_goals (simp_all; omega)
 refine zG ?_;refine qc (fun hc => ?_) (fun hc => ?_) <;> try simp only [cs] at hc
 ·have hc : i < m ∧ sr.e = 0 := by
   rw [Bool.and_eq_true, decide_eq_true_eq] at hc;exact ⟨by omega, by simpa using hc.2⟩
  obtain ⟨hlt, he⟩ := hc
  obtain ⟨mm, rfl⟩ : ∃ q, mm = q + 1 := ⟨mm - 1, by omega⟩
  have hmb := i4 (hse he)
  have hstep : itemsL (patR b) (mm + 1) sr = ((patR b sr).1 :: (itemsL (patR b) mm (patR b sr).2).1, (itemsL (patR b) mm (patR b sr).2).2) := by
   conv => lhs; unfold itemsL
   rw [if_neg (by simpa using he)]
  rw [hstep] at hI1 hI2;have hok1 := (textR_ok (b := b) (m := 32) hsr).1;have hok2 := patR_ok (b := b) hsr;have hpr : patR b sr = (⟨(textR b 32 sr).1, (textR b 120 (textR b 32 sr).2).1⟩, (textR b 120 (textR b 32 sr).2).2) := rfl;refine zQ 6 ?_;obtain ⟨_, st, hev, rfl, hH⟩ := hText_ev hbl hsr 32 hH;refine qv hev ?_;refine qg ?_;refine qa hH fun k7 st hk7 hH => ?_;dsimp only [u2, u1, u3, u4, setMany, u5, u6, D.cells, Nat.reduceAdd, rdC] at hH;refine qS hH at0 fun st hH => ?_;dsimp only [u2, u1, u3, u4, setMany, u5, u6, D.cells, Nat.reduceAdd, rdC] at hH;refine zQ 1 ?_;have hH : Has N S2 st (.box k (.mem 0 false (rdC x (textR b 32 sr).2)) :: .lst x 1 (byteCells b) :: .box k3 (.mem 0 false [od, .str []]) :: .box k2 (.mem 0 false [.nul, .str []]) :: .lst od 2 (acc.map patC) :: .box k7 (.mem 0 false [.str (textR b 32 sr).1, .str []]) :: H) := Has.rot [_] [_, _, _, _, _] hH;refine zQ 3 ?_;obtain ⟨_, st, hev, rfl, hH⟩ := hText_ev hbl hok1 120 hH;refine qv hev ?_;refine zQ 1 ?_;refine EvO.hstore hH rfl (ev rfl) (ev rfl) rfl (by exact rfl) at5 (by exact Nat.le_of_ble_eq_true rfl) (.inr rfl) (fun st hH => ?_);dsimp only [u1, u2] at hH;refine zQ 1 ?_;have hH : Has N S2 st (.box k (.mem 0 false (rdC x (patR b sr).2)) :: .lst x 1 (byteCells b) :: .box k3 (.mem 0 false [od, .str []]) :: .box k2 (.mem 0 false [.nul, .str []]) :: .lst od 2 (acc.map patC) :: .box k7 (.mem 0 false (patC (patR b sr).1)) :: H) := hH;clear hpr;generalize (patR b sr).1 = t at *;generalize (patR b sr).2 = s5 at *;refine zQ 2 ?_;refine EvO.hload hH rfl (ev rfl) at2 rfl (put_T rfl _) ?_;refine EvO.hloadS (m := 2) (r := patC t) hH rfl (ev rfl) at5 rfl rfl rfl (put_T rfl _) ?_;refine qh (s := 2) (vs := [_]) hH fun k61 st hk61 hH => ?_;dsimp only [u2, u1, u3, u4, setMany, u5, u6, D.cells, Nat.reduceAdd, rdC] at hH;refine EvO.happend5 (s := 2) hH rfl (ev rfl) (ev rfl) at5 (hH.rows at0) rfl rfl rfl rfl rfl rfl rfl ⟨(Nat.le_of_ble_eq_true rfl), (Nat.le_of_ble_eq_true rfl)⟩ (fun _ => (put_T rfl _)) (by simp only [List.length_map, List.length_cons, List.length_nil]; omega) (.inr rfl) hod (fun x62 st hod hH => ?_);dsimp only [u1, u2] at hH;refine zQ 1 ?_;refine has_hstoreK hH rfl (ev rfl) (ev rfl) (hH.ocells at5) (by exact rfl) at3 (by exact Nat.le_of_ble_eq_true rfl) (by omega) (fun st hH => ?_);dsimp only [u1, u2] at hH;refine zQ 1 ?_
  have hH : Has N S2 st (.box k (.mem 0 false (rdC x s5)) :: .lst x 1 (byteCells b) :: .box k3 (.mem 0 false [x62, .str []]) :: .box k2 (.mem 0 false [.nul, .str []]) :: .lst x62 2 ((acc ++ [t]).map patC) :: H) := by
   rw [List.map_append]; exact (hH.drop 1).erase 5
  refine zQ 5 ?_;refine ⟨mm, by omega, ⟨i + 1, s5, x62, acc ++ [t], rfl, hH, by omega, (by rw [List.length_append]; simp only [List.length_cons, List.length_nil]; omega), hok2, fun _ => hse he, hod, hI2, ?_, (by rw [List.length_append]; simp only [List.length_cons, List.length_nil]; omega)⟩⟩;intro h0;rw [hI1 h0];rw [List.append_assoc]; rfl
 ·refine zQ 1 ?_
  have hend : itemsL (patR b) mm sr = ([], sr) := by
   by_cases he : sr.e = 0
   ·have : mm = 0 := by
     rcases Nat.eq_zero_or_pos mm with h | h
     ·exact h
     ·exfalso
      have h1 : decide (((i : Nat) : Int) < (m : Nat)) = true := by rw [decide_eq_true_eq]; omega
      rw [h1, he] at hc; simp at hc
    rw [this]; rfl
   ·exact itemsL_err _ he mm
  rw [hend] at hI1 hI2;simp only [List.append_nil] at hI1;rw [hI2];have hte := textR_err (b := b) (m := 120) (s := sr);refine zQ 9 ?_;refine EvC.cond (by rfl) (fun hne => ?_) (fun hne => ?_) <;> try simp only [bne_iff_ne, bne_eq_false_iff_eq, ne_eq] at hne
  ·have hne : sr.e ≠ 0 := by simpa using hne
   refine zQ 2 ?_;refine qT hH at2 fun st hH => ?_;dsimp only [u2, u1, u3, u4, setMany, u5, u6, D.cells, Nat.reduceAdd, rdC] at hH;refine zQ 4 ?_;obtain ⟨_, st, hev, rfl, hH⟩ := hText_ev hbl hsr 120 hH;refine qv hev ?_;refine zQ 1 ?_;refine EvO.hstore hH rfl (ev rfl) (ev rfl) rfl (by exact rfl) at2 (by exact Nat.le_of_ble_eq_true rfl) (.inr rfl) (fun st hH => ?_);dsimp only [u1, u2] at hH;refine zQ 1 ?_;generalize (textR b 120 sr).1 = c at *;have hH : Has N S2 st (.box k (.mem 0 false (rdC x (textR b 120 sr).2)) :: .lst x 1 (byteCells b) :: .box k3 (.mem 0 false [.nul, .str c]) :: .box k2 (.mem 0 false [.nul, .str []]) :: .lst od 2 (acc.map patC) :: H) := hH;refine zQ 2 ?_;refine EvO.hloadS (m := 2) (r := [.nul, .str c]) hH rfl (ev rfl) at2 rfl rfl rfl (put_T rfl _) ?_;refine EvO.hstoreA hH rfl (ev rfl) (ev rfl) rfl (by exact rfl) at3 (by exact rfl) (.inr rfl) (fun st hH => ?_);dsimp only [u1, u2] at hH;refine zQ 1 ?_;refine EvC.ret ⟨rx, _, _, _, hH.resCell rfl at3 rfl, leaveD_rw (show freezeD st s0.bs.length false 16 (.agg [.nul, .str c]) = some (.agg [patD [], .str c]) from rfl), ?_⟩;exact ⟨⟨[], c, rfl, fun h => absurd h (hte hne)⟩, hH0.leaveRw1 hS2 (((hH.erase 2).erase 2).erase 2)⟩
  ·have hne : sr.e = 0 := by simpa using hne
   refine zQ 4 ?_;obtain ⟨_, st, hev, rfl, hH⟩ := hText_ev hbl hsr 120 hH;refine qv hev ?_;refine zQ 1 ?_;refine EvO.hstore hH rfl (ev rfl) (ev rfl) rfl (by exact rfl) at2 (by exact Nat.le_of_ble_eq_true rfl) (.inr rfl) (fun st hH => ?_);dsimp only [u1, u2] at hH;refine zQ 1 ?_;have hH : Has N S2 st (.box k (.mem 0 false (rdC x (textR b 120 sr).2)) :: .lst x 1 (byteCells b) :: .box k3 (.mem 0 false [od, .str (textR b 120 sr).1]) :: .box k2 (.mem 0 false [.nul, .str []]) :: .lst od 2 (acc.map patC) :: H) := hH;generalize (textR b 120 sr).1 = c at *;have hoc := hH.ocells (j := 4) rfl;refine zQ 2 ?_;refine EvO.hloadS (m := 2) (r := [od, .str c]) hH rfl (ev rfl) at2 rfl rfl rfl (put_T rfl _) ?_;refine has_hstoreK hH rfl (ev rfl) (ev rfl) rfl (by exact rfl) at3 (by exact Nat.le_of_ble_eq_true rfl) (by omega) (fun st hH => ?_);dsimp only [u1, u2] at hH;refine zQ 1 ?_;have htl := pat_tell acc;have hfz := hH.freezeT (L := s0.bs.length) (n := 15) (j := 4) rfl (fun k hk => by rw [← hS2]; exact hod k hk) htl.1 (by decide);rw [htl.2] at hfz
   refine EvC.ret ⟨rx, _, _, _, hH.resCell rfl at3 rfl, leaveD_rw (show freezeD st s0.bs.length false 16 (.agg [od, .str c]) = some (.agg [patD acc, .str c]) by
    show Option.map D.agg (mapO (freezeD st s0.bs.length false 15) [od, .str c]) = _;unfold mapO;rw [hfz]
    rfl), ?_⟩
   exact ⟨⟨acc, c, rfl, fun h => by rw [hI1 hne]⟩, hH0.leaveRw1 hS2 (((hH.erase 2).erase 2).erase 2)⟩
end Go.Proofs.YtecjacicdpejaaaGreat
namespace Go.V
open Go.RowKit
def isAggW {H : Type} : DataW H → Bool
  | .agg _ => true
  | _ => false
mutual
def dcs {H : Type} : DataW H → List D
  | .lit (.bool b) => [.bool b]
  | .lit (.int k n) => [.int k n]
  | .lit (.string l) => [.str l]
  | .lit _ => [.junk]
  | .nil => [.nul]
  | .slice elems _ => [.sl (dels elems)]
  | .agg parts => dparts parts
  | .ptr _ => [.junk]
  | .iface _ _ => [.junk]
  | .map _ => [.junk]
  | .held _ => [.junk]
def dels {H : Type} : List (DataW H) → List D
  | [] => []
  | d :: r => (if isAggW d then .agg (dcs d) else (dcs d).headD .junk) :: dels r
def dparts {H : Type} : List (DataW H) → List D
  | [] => []
  | d :: r => dcs d ++ dparts r
end
def dval {H : Type} (d : DataW H) : D := if isAggW d then .agg (dcs d) else (dcs d).headD .junk
theorem dels_map {H : Type} : ∀ l : List (DataW H), dels l = l.map dval
  | [] => rfl
  | d :: r => by simp only [dels, List.map_cons, dels_map r]; rfl
def contig (P : Program) : Nat → List Field → Option Nat
  | o, [] => some o
  | o, f :: fs => if f.offset = o then contig P (o + P.cellsOf f.type) fs else none
def okT (P : Program) : Nat → TypeId → Bool
  | 0, _ => false
  | n + 1, t => match P.underlying t with
    | some .bool => true
    | some (.int _) => true
    | some .string => true
    | some (.slice e) => okT P n e && decide (0 < P.cellsOf e)
    | some (.struct fs) => (contig P 0 fs.toList == some (P.cellsOf t)) && fs.toList.all fun f => okT P n f.type
    | some (.array m e) => okT P n e && (P.cellsOf t == m * P.cellsOf e)
    | _ => false
structure CR (w : World) (Z : Nat → Prop) (cs : List D) (vs : List Value) : Prop where
  len : cs.length = vs.length
  one : ∀ v ∈ vs, v.oneCell' = true
  onec : ∀ c ∈ cs, c.cells? = some [c]
  rel : ∀ (i : Nat) c v, cs[i]? = some c → vs[i]? = some v → IR w Z c v
theorem CR.nil {w : World} {Z : Nat → Prop} : CR w Z [] [] := ⟨rfl, by simp, by simp, by simp⟩
theorem CR.single {w : World} {Z : Nat → Prop} {c : D} {v : Value} (h : IR w Z c v) (h1 : v.oneCell' = true) (h2 : c.cells? = some [c]) : CR w Z [c] [v] :=
  ⟨rfl, by simpa using h1, by simpa using h2, fun i c' v' hc hv => by
    cases i with
    | zero => simp at hc hv; subst hc; subst hv; exact h
    | succ i => simp at hc⟩
theorem CR.append {w : World} {Z : Nat → Prop} {cs cs' : List D} {vs vs' : List Value} (h : CR w Z cs vs) (g : CR w Z cs' vs') : CR w Z (cs ++ cs') (vs ++ vs') := by
  refine ⟨by simp [h.len, g.len], fun v hv => ?_, fun c hc => ?_, fun i c v hc hv => ?_⟩
  · rcases List.mem_append.1 hv with hv | hv
    · exact h.one v hv
    · exact g.one v hv
  · rcases List.mem_append.1 hc with hc | hc
    · exact h.onec c hc
    · exact g.onec c hc
  · rw [List.getElem?_append] at hc hv
    have := h.len
    split at hc
    · rw [if_pos (by omega)] at hv; exact h.rel i c v hc hv
    · rw [if_neg (by omega)] at hv; rw [← this] at hv; exact g.rel _ c v hc hv
theorem parts_cr {H : Type} {P : Program} {w : World} {Z : Nat → Prop} {f : Field → Option (DataW H × List MemPlace)} {cs : List Value} : ∀ {fs : List Field} {o e : Nat} {xs : List (DataW H × List MemPlace)}, contig P o fs = some e → e ≤ cs.length → fs.mapM f = some xs →
    (∀ g ∈ fs, ∀ x, f g = some x → CR w Z (dcs x.1) ((cs.drop g.offset).take (P.cellsOf g.type))) → CR w Z (dparts (xs.map (·.1))) ((cs.drop o).take (e - o)) ∧ o ≤ e
  | [], o, e, xs, hc, _, hm, _ => by
    simp [contig] at hc; subst hc
    simp at hm; subst hm
    simp [dparts]; exact CR.nil
  | g :: fs, o, e, xs, hc, he, hm, hx => by
    simp only [contig] at hc
    split at hc
    · rename_i ho
      rw [List.mapM_cons] at hm
      cases h1 : f g with
      | none => rw [h1] at hm; simp at hm
      | some x =>
        rw [h1] at hm
        cases h2 : fs.mapM f with
        | none => rw [h2] at hm; simp at hm
        | some ys =>
          rw [h2] at hm
          simp at hm; subst hm
          obtain ⟨ih, hle⟩ := parts_cr hc he h2 fun g' hg' => hx g' (List.mem_cons_of_mem _ hg')
          have hg := hx g (List.mem_cons_self ..) x h1
          rw [ho] at hg
          refine ⟨?_, by omega⟩
          simp only [List.map_cons, dparts]
          have : (cs.drop o).take (e - o) = (cs.drop o).take (P.cellsOf g.type) ++ (cs.drop (o + P.cellsOf g.type)).take (e - (o + P.cellsOf g.type)) := by
            rw [← List.drop_drop, show e - o = P.cellsOf g.type + (e - (o + P.cellsOf g.type)) by omega, List.take_add]
          rw [this]
          exact hg.append ih
    · cases hc
theorem elems_cr {H : Type} {w : World} {Z : Nat → Prop} {s : Nat} {f : Nat → Option (DataW H × List MemPlace)} {cs : List Value} : ∀ {m k : Nat} {xs : List (DataW H × List MemPlace)}, (List.range' k m).mapM f = some xs → (k + m) * s ≤ cs.length →
    (∀ i x, f i = some x → CR w Z (dcs x.1) ((cs.drop (i * s)).take s)) → CR w Z (dparts (xs.map (·.1))) ((cs.drop (k * s)).take (m * s))
  | 0, k, xs, hm, _, _ => by simp at hm; subst hm; simp [dparts]; exact CR.nil
  | m + 1, k, xs, hm, hl, hx => by
    rw [List.range'_succ, List.mapM_cons] at hm
    cases h1 : f k with
    | none => rw [h1] at hm; simp at hm
    | some x =>
      rw [h1] at hm
      cases h2 : (List.range' (k + 1) m).mapM f with
      | none => rw [h2] at hm; simp at hm
      | some ys =>
        rw [h2] at hm
        simp at hm; subst hm
        have ih := elems_cr h2 (by rw [show k + 1 + m = k + (m + 1) by omega]; exact hl) hx
        simp only [List.map_cons, dparts]
        rw [show (m + 1) * s = s + m * s by rw [Nat.add_mul]; omega, List.take_add, List.drop_drop, show k * s + s = (k + 1) * s by rw [Nat.add_mul]; omega]
        exact (hx k x h1).append ih
theorem cells_one {c : D} (h : c.cells? = some [c]) : c.cells = [c] := by
  cases c <;> first | rfl | cases h | (simp only [D.cells?, Option.some.injEq] at h; simpa only [D.cells] using h)
theorem add_none (b off n : Nat) : (⟨b, off, none⟩ : Addr).add n = ⟨b, off + n, none⟩ := by
  cases n <;> simp [Addr.add]
theorem trod_cr {H : Type} {enc : TypeId × Value → H} {P : Program} {w : World} {spare : Nat → Bool} {held : Bool} : ∀ (fuel : Nat) (t : TypeId) (cs : List Value) (d : DataW H) (ps : List MemPlace) (n : Nat), DataW.trod enc P w 0 spare held fuel t cs = some (d, ps) → okT P n t = true →
    CR w (fun b => b < w.heap.size) (dcs d) cs ∧ cs.length = (match P.underlying t with | some (.struct _) | some (.array _ _) => P.cellsOf t | _ => 1) ∧ (isAggW d = (match P.underlying t with | some (.struct _) | some (.array _ _) => true | _ => false))
  | 0, t, cs, d, ps, n, h, _ => by simp [DataW.trod] at h
  | fuel + 1, t, cs, d, ps, 0, h, ht => by simp [okT] at ht
  | fuel + 1, t, cs, d, ps, n + 1, h, ht => by
    simp only [okT] at ht
    unfold DataW.trod at h
    cases hu : P.underlying t with
    | none => rw [hu] at ht; simp at ht
    | some u =>
      rw [hu] at h ht
      cases u with
      | bool =>
        rcases cs with _ | ⟨v, _ | ⟨v2, cs⟩⟩ <;> try (simp at h; done)
        cases v <;> simp at h
        obtain ⟨rfl, rfl⟩ := h
        exact ⟨CR.single (.bool _) rfl rfl, rfl, rfl⟩
      | int k =>
        rcases cs with _ | ⟨v, _ | ⟨v2, cs⟩⟩ <;> try (simp at h; done)
        cases v <;> simp at h
        obtain ⟨⟨rfl, _⟩, rfl, rfl⟩ := h
        exact ⟨CR.single (.int _ _) rfl rfl, rfl, rfl⟩
      | string =>
        rcases cs with _ | ⟨v, _ | ⟨v2, cs⟩⟩ <;> try (simp at h; done)
        cases v <;> simp at h
        rename_i b
        obtain ⟨_, rfl, rfl⟩ := h
        refine ⟨CR.single ?_ rfl rfl, rfl, rfl⟩
        have := IR.str (w := w) (Z := fun b => b < w.heap.size) b.data.toList
        simpa using this
      | slice e =>
        simp only [Bool.and_eq_true, decide_eq_true_eq] at ht
        rcases cs with _ | ⟨v, _ | ⟨v2, cs⟩⟩ <;> try (simp at h; done)
        cases v <;> try (simp at h; done)
        rename_i a len cap
        cases a with
        | none =>
          cases len <;> cases cap <;> simp at h
          obtain ⟨rfl, rfl⟩ := h
          exact ⟨CR.single .nul rfl rfl, rfl, rfl⟩
        | some a =>
          simp only at h
          split at h
          · rename_i hc
            simp only [Option.bind_eq_some_iff, Option.map_eq_some_iff] at h
            obtain ⟨elems, he, rest, hr, hd⟩ := h
            cases hd
            refine ⟨?_, rfl, rfl⟩
            have hlen : elems.length = len := by simpa using mapM_some_length he
            have hget := mapM_some_get he
            have each : ∀ (i : Nat), i < len → ∃ x cs, elems[i]? = some x ∧ w.cells? 0 (a.add (i * P.cellsOf e)) (P.cellsOf e) = some cs ∧ CR w (fun b => b < w.heap.size) (dcs x.1) cs ∧ cs.length = P.cellsOf e ∧ (isAggW x.1 = (match P.underlying e with | some (.struct _) | some (.array _ _) => true | _ => false)) ∧ cs.length = (match P.underlying e with | some (.struct _) | some (.array _ _) => P.cellsOf e | _ => 1) := by
              intro i hi
              have h1 := hget i i (by simp [hi])
              have h2 : elems[i]? = some (elems[i]'(by omega)) := List.getElem?_eq_getElem _
              rw [h2] at h1
              obtain ⟨cs, hcs, hx⟩ := Option.bind_eq_some_iff.1 h1
              obtain ⟨q1, q2, q3⟩ := trod_cr fuel e cs _ _ n hx ht.1
              exact ⟨_, cs, h2, hcs, q1, (World.cells?_some hcs).2.1, q3, q2⟩
            refine CR.single ?_ rfl rfl
            cases len with
            | zero =>
              have : elems = [] := by cases elems with | nil => rfl | cons _ _ => simp at hlen
              subst this
              exact .emp _ _
            | succ m =>
              have hsp : a.spot = none ∧ a.block < w.heap.size := by
                obtain ⟨x, cs, _, h2, _, _⟩ := each 0 (by omega)
                refine ⟨?_, ?_⟩
                · have := (World.cells?_some h2).2.2 0 ht.2
                  have hl := (World.cells?_some h2).2.1
                  obtain ⟨c0, hc0⟩ : ∃ c0, cs[0]? = some c0 := ⟨cs[0]'(by omega), List.getElem?_eq_getElem _⟩
                  rw [hc0] at this
                  simpa [Addr.add] using World.cell?_spot this
                · simpa [Addr.add] using World.cells?_block h2 ht.2
              obtain ⟨b, off, spot⟩ := a
              simp only at hsp
              obtain ⟨rfl, hb⟩ := hsp
              have hcell : ∀ (i j : Nat), i < m + 1 → j < P.cellsOf e → ∃ x cs v, elems[i]? = some x ∧ cs[j]? = some v ∧ w.cell? ⟨b, off + (i * P.cellsOf e + j), none⟩ = some v ∧ CR w (fun b => b < w.heap.size) (dcs x.1) cs := by
                intro i j hi hj
                obtain ⟨x, cs, h1, h2, h3, h4, _⟩ := each i hi
                have := (World.cells?_some h2).2.2 j hj
                obtain ⟨v, hv⟩ : ∃ v, cs[j]? = some v := ⟨cs[j]'(by omega), List.getElem?_eq_getElem _⟩
                rw [hv] at this
                refine ⟨x, cs, v, h1, hv, ?_, h3⟩
                rw [← this, add_none, add_none, Nat.add_assoc]
              have hes : (dels (elems.map (·.1))) = elems.map fun x => dval x.1 := by rw [dels_map, List.map_map]; rfl
              have hE : ∀ (i : Nat) q, (dels (elems.map (·.1)))[i]? = some q → ∃ x cs, i < m + 1 ∧ elems[i]? = some x ∧ q.cells? = some q.cells ∧ q.cells = dcs x.1 ∧ CR w (fun b => b < w.heap.size) (dcs x.1) cs ∧ cs.length = P.cellsOf e := by
                intro i q hq
                rw [hes, List.getElem?_map] at hq
                obtain ⟨x, hx, rfl⟩ := Option.map_eq_some_iff.1 hq
                have hi : i < m + 1 := by
                  rcases Nat.lt_or_ge i (m + 1) with h' | h'
                  · exact h'
                  · rw [List.getElem?_eq_none (by omega)] at hx; cases hx
                obtain ⟨x', cs, h1, h2, h3, h4, h5, h6⟩ := each i hi
                rw [hx] at h1; cases h1
                refine ⟨x, cs, hi, hx, ?_, ?_, h3, h4⟩
                · unfold dval
                  split
                  · rfl
                  · rename_i hna
                    have hl1 : (dcs x.1).length = 1 := by
                      rw [h3.len, h6]
                      rw [h5] at hna
                      revert hna
                      split <;> simp
                    match hd : dcs x.1, hl1 with
                    | [c], _ => have := h3.onec c (by rw [hd]; simp); simp only [List.headD_cons]; rw [cells_one this]; exact this
                · unfold dval
                  split
                  · rfl
                  · rename_i hna
                    have hl1 : (dcs x.1).length = 1 := by
                      rw [h3.len, h6]
                      rw [h5] at hna
                      revert hna
                      split <;> simp
                    match hd : dcs x.1, hl1 with
                    | [c], _ => have := h3.onec c (by rw [hd]; simp); simp only [List.headD_cons]; exact cells_one this
              have hL : (dels (elems.map (·.1))).length = m + 1 := by rw [hes]; simp [hlen]
              have hf := fun (i j : Nat) (hi : i < m + 1) (hj : j < P.cellsOf e) => hcell i j hi hj
              have := IR.sl (w := w) (Z := fun b => b < w.heap.size) (dels (elems.map (·.1))) b off cap (P.cellsOf e) (fun i j => (w.cell? ⟨b, off + (i * P.cellsOf e + j), none⟩).getD undef) hb (by rw [hL]; exact hc.2.1)
                (fun i q hq => by
                  obtain ⟨x, cs, h1, h2, h3, h4, h5, h6⟩ := hE i q hq
                  exact ⟨h3, by rw [h4, h5.len, h6]⟩)
                (fun i q j c hq hj => by
                  obtain ⟨x, cs, h1, h2, h3, h4, h5, h6⟩ := hE i q hq
                  have hjl : j < P.cellsOf e := by
                    rcases Nat.lt_or_ge j (P.cellsOf e) with h' | h'
                    · exact h'
                    · rw [h4, List.getElem?_eq_none (by rw [h5.len, h6]; exact h')] at hj; cases hj
                  obtain ⟨x', cs', v, g1, g2, g3, g4⟩ := hf i j h1 hjl
                  rw [g3]
                  exact ⟨rfl, g4.one v (List.mem_of_getElem? g2)⟩)
                (fun i q j c hq hj => by
                  obtain ⟨x, cs, h1, h2, h3, h4, h5, h6⟩ := hE i q hq
                  have hjl : j < P.cellsOf e := by
                    rcases Nat.lt_or_ge j (P.cellsOf e) with h' | h'
                    · exact h'
                    · rw [h4, List.getElem?_eq_none (by rw [h5.len, h6]; exact h')] at hj; cases hj
                  obtain ⟨x', cs', v, g1, g2, g3, g4⟩ := hf i j h1 hjl
                  rw [g3]
                  rw [h2] at g1; cases g1
                  exact g4.rel j c v (by rw [← h4]; exact hj) g2)
              rw [hL] at this
              exact this
          · cases h
      | struct fs =>
        simp only [Bool.and_eq_true, beq_iff_eq, List.all_eq_true] at ht
        simp only at h
        split at h
        · rename_i hl
          obtain ⟨xs, hx, hd⟩ := Option.map_eq_some_iff.1 h
          cases hd
          refine ⟨?_, hl, rfl⟩
          obtain ⟨h1, _⟩ := parts_cr (w := w) (Z := fun b => b < w.heap.size) (cs := cs) ht.1 (by omega) hx fun g hg x hgx => (trod_cr fuel g.type _ _ _ n hgx (ht.2 g hg)).1
          rw [List.drop_zero, Nat.sub_zero, ← hl, List.take_length] at h1
          exact h1
        · cases h
      | array m e =>
        simp only [Bool.and_eq_true, beq_iff_eq] at ht
        simp only at h
        split at h
        · rename_i hl
          obtain ⟨xs, hx, hd⟩ := Option.map_eq_some_iff.1 h
          cases hd
          refine ⟨?_, hl, rfl⟩
          rw [List.range_eq_range'] at hx
          have h1 := elems_cr (w := w) (Z := fun b => b < w.heap.size) (s := P.cellsOf e) (cs := cs) hx (by rw [Nat.zero_add, ← ht.2, hl]; exact Nat.le_refl _) fun i x hix => (trod_cr fuel e _ _ _ n hix ht.1).1
          rw [Nat.zero_mul, List.drop_zero, ← ht.2, ← hl, List.take_length] at h1
          exact h1
        · cases h
      | _ => simp at ht
theorem trod_ir {H : Type} {enc : TypeId × Value → H} {P : Program} {w : World} {spare : Nat → Bool} {held : Bool} {r : Reach} {base : Nat} {t : TypeId} {v : Value} {d : DataW H} {ps : List MemPlace} {n : Nat} (h : DataW.Trod enc P w 0 spare held t v d ps) (ht : okT P n t = true) (hv : Value.okWide P w r base t v) :
    IR w (fun b => b < w.heap.size) (dval d) v := by
  obtain ⟨fuel, hf⟩ := h
  obtain ⟨h1, h2, h3⟩ := trod_cr fuel t _ d ps n hf ht
  have hu : ∃ u, P.underlying t = some u := by
    cases n with
    | zero => simp [okT] at ht
    | succ n =>
      simp only [okT] at ht
      cases hu : P.underlying t with
      | none => rw [hu] at ht; simp at ht
      | some u => exact ⟨u, rfl⟩
  obtain ⟨u, hu⟩ := hu
  unfold Value.okWide at hv
  rw [hu] at hv h2 h3
  have hagg : (∃ cs : Array Value, v = .agg cs) → isAggW d = true → IR w (fun b => b < w.heap.size) (dval d) v := by
    rintro ⟨cs, rfl⟩ hd
    unfold dval
    rw [if_pos hd]
    have := IR.agg (w := w) (Z := fun b => b < w.heap.size) (dcs d) cs.toList (by simpa [Value.cells] using h1.len) (by simpa [Value.cells] using h1.one) (by simpa [Value.cells] using h1.rel)
    simpa using this
  have hone : isAggW d = false → v.cells.toList.length = 1 → (∀ cs, v ≠ .agg cs) → IR w (fun b => b < w.heap.size) (dval d) v := by
    intro hd hl hna
    unfold dval
    rw [if_neg (by rw [hd]; simp)]
    have hc : v.cells.toList = [v] := by cases v <;> first | rfl | exact absurd rfl (hna _)
    rw [hc] at h1
    match hq : dcs d, h1.len with
    | [c], _ => exact h1.rel 0 c v (by rw [hq]; rfl) rfl
  have hcell : Cell.okWide P w r base t v → ∀ cs, v ≠ .agg cs := by
    rintro hc cs rfl
    unfold Cell.okWide at hc
    rw [hu] at hc
    cases u <;> simp [Cell.ok, hu] at hc
  cases u with
  | struct fs => obtain ⟨cs, h, _⟩ := hv; exact hagg ⟨cs, h⟩ h3
  | array m e => obtain ⟨cs, h, _⟩ := hv; exact hagg ⟨cs, h⟩ h3
  | _ => exact hone h3 h2 (hcell hv)
end Go.V
namespace Go.V
open Go.RowKit
theorem wf_u8 {n : Int} (h : (Lit.int .u8 n).wf = true) : ∃ y : UInt8, n = (y.toNat : Nat) := by
  have : 0 ≤ n ∧ n ≤ 255 := by simpa [Lit.wf, IntKind.min, IntKind.max, IntKind.signed, IntKind.bits] using h
  refine ⟨UInt8.ofNat n.toNat, ?_⟩
  rw [show (UInt8.ofNat n.toNat).toNat = n.toNat % 256 from rfl]
  omega
theorem law_calls {pv : Pv} {P : Program} (h : pv.Ok P ∧ pv.codes ∧ CfOk P pv (primF pv)) {f : Nat} {ds : List D} {st' : St} (hs : Ev pv f ds ⟨[], 0, 0⟩ (.bool true) st') {w : World} {us : List Value} (hl : ds.length = us.length)
    (hr : ∀ (i : Nat) c v, ds[i]? = some c → us[i]? = some v → IR w (fun b => b < w.heap.size) c v) : Calls P f us.toArray w fun e w' => e = .returned (.bool true) ∧ Below w.heap.size w w' := by
  obtain ⟨N, hN⟩ := Ev.out hs
  refine (sound h (hN N (Nat.le_refl _)) (w := w) (Z := fun b => b < w.heap.size) (fun _ h => h) hl hr).mono fun e w' => ?_
  rintro ⟨v, β', Z', rfl, he, hv⟩
  rw [vr_bool hv]
  exact ⟨rfl, ⟨he.os, he.tape, he.output, he.size, fun k hk => he.block k hk fun f => f⟩⟩
end Go.V
namespace Go.V
open Go.RowKit
def Rd {H : Type} (enc : TypeId × Value → H) (P : Program) (w : World) (spare : Nat → Bool) (held : Bool) (t : TypeId) (d : DataW H) : Prop :=
  ∃ fuel cs ps, DataW.trod enc P w 0 spare held fuel t cs = some (d, ps)
section
variable {H : Type} {enc : TypeId × Value → H} {P : Program} {w : World} {spare : Nat → Bool} {held : Bool} {t e : TypeId} {d : DataW H}
theorem Rd.of {v : Value} {ps : List MemPlace} (h : DataW.Trod enc P w 0 spare held t v d ps) : Rd enc P w spare held t d := by
  obtain ⟨fuel, h⟩ := h
  exact ⟨fuel, _, _, h⟩
theorem Rd.int {k : IntKind} (h : Rd enc P w spare held t d) (ht : P.underlying t = some (.int k)) : ∃ n : Int, d = .lit (.int k n) ∧ (Lit.int k n).wf = true := by
  obtain ⟨fuel, cs, ps, h⟩ := h
  cases fuel with
  | zero => simp [DataW.trod] at h
  | succ fuel =>
    unfold DataW.trod at h
    rw [ht] at h
    rcases cs with _ | ⟨v, _ | ⟨v2, cs⟩⟩ <;> try (simp at h; done)
    cases v <;> simp at h
    obtain ⟨⟨rfl, hw⟩, rfl, _⟩ := h
    exact ⟨_, rfl, hw⟩
theorem Rd.bool (h : Rd enc P w spare held t d) (ht : P.underlying t = some .bool) : ∃ b : Bool, d = .lit (.bool b) := by
  obtain ⟨fuel, cs, ps, h⟩ := h
  cases fuel with
  | zero => simp [DataW.trod] at h
  | succ fuel =>
    unfold DataW.trod at h
    rw [ht] at h
    rcases cs with _ | ⟨v, _ | ⟨v2, cs⟩⟩ <;> try (simp at h; done)
    cases v <;> simp at h
    obtain ⟨rfl, _⟩ := h
    exact ⟨_, rfl⟩
theorem Rd.string (h : Rd enc P w spare held t d) (ht : P.underlying t = some .string) : ∃ l : List UInt8, d = .lit (.string l) := by
  obtain ⟨fuel, cs, ps, h⟩ := h
  cases fuel with
  | zero => simp [DataW.trod] at h
  | succ fuel =>
    unfold DataW.trod at h
    rw [ht] at h
    rcases cs with _ | ⟨v, _ | ⟨v2, cs⟩⟩ <;> try (simp at h; done)
    cases v <;> simp at h
    obtain ⟨_, rfl, _⟩ := h
    exact ⟨_, rfl⟩
theorem Rd.slice (h : Rd enc P w spare held t d) (ht : P.underlying t = some (.slice e)) : d = .nil ∨ ∃ elems rest, d = .slice elems rest ∧ ∀ x ∈ elems, Rd enc P w spare held e x := by
  obtain ⟨fuel, cs, ps, h⟩ := h
  cases fuel with
  | zero => simp [DataW.trod] at h
  | succ fuel =>
    unfold DataW.trod at h
    rw [ht] at h
    rcases cs with _ | ⟨v, _ | ⟨v2, cs⟩⟩ <;> try (simp at h; done)
    cases v <;> try (simp at h; done)
    rename_i a len cap
    cases a with
    | none =>
      cases len <;> cases cap <;> simp at h
      obtain ⟨rfl, rfl⟩ := h
      exact .inl rfl
    | some a =>
      simp only at h
      split at h
      · simp only [Option.bind_eq_some_iff, Option.map_eq_some_iff] at h
        obtain ⟨elems, hm, rest, hr, hd⟩ := h
        cases hd
        refine .inr ⟨_, _, rfl, fun x hx => ?_⟩
        obtain ⟨y, hy, rfl⟩ := List.mem_map.1 hx
        have hlen : elems.length = len := by simpa using mapM_some_length hm
        have hget := mapM_some_get hm
        obtain ⟨i, hi⟩ := List.getElem?_of_mem hy
        have hil : i < len := by have := lt_get hi; omega
        have h1 := hget i i (by simp [hil])
        rw [hi] at h1
        obtain ⟨cs, _, hx⟩ := Option.bind_eq_some_iff.1 h1
        exact ⟨fuel, cs, y.2, hx⟩
      · cases h
theorem mapM_all2 {α β : Type} {f : α → Option β} : ∀ {l : List α} {m : List β}, l.mapM f = some m → All2 (fun a b => f a = some b) l m
  | [], m, h => by simp at h; subst h; exact .nil
  | a :: l, m, h => by
    rw [List.mapM_cons] at h
    cases h1 : f a with
    | none => rw [h1] at h; simp at h
    | some b =>
      rw [h1] at h
      cases h2 : l.mapM f with
      | none => rw [h2] at h; simp at h
      | some ys => rw [h2] at h; simp at h; subst h; exact .cons h1 (mapM_all2 h2)
theorem All2.mapR {α β γ : Type} {R : α → γ → Prop} {f : β → γ} : ∀ {l : List α} {m : List β}, All2 (fun a b => R a (f b)) l m → All2 R l (m.map f)
  | _, _, .nil => .nil
  | _, _, .cons a t => .cons a t.mapR
theorem Rd.struct {fs : Array Field} (h : Rd enc P w spare held t d) (ht : P.underlying t = some (.struct fs)) : ∃ parts, d = .agg parts ∧ All2 (fun (f : Field) x => Rd enc P w spare held f.type x) fs.toList parts := by
  obtain ⟨fuel, cs, ps, h⟩ := h
  cases fuel with
  | zero => simp [DataW.trod] at h
  | succ fuel =>
    unfold DataW.trod at h
    rw [ht] at h
    simp only at h
    split at h
    · obtain ⟨xs, hx, hd⟩ := Option.map_eq_some_iff.1 h
      cases hd
      refine ⟨_, rfl, ?_⟩
      exact ((mapM_all2 hx).mono fun f x hfx => (⟨fuel, _, _, hfx⟩ : Rd enc P w spare held f.type x.1)).mapR
    · cases h
theorem Rd.array {n : Nat} (h : Rd enc P w spare held t d) (ht : P.underlying t = some (.array n e)) : ∃ parts, d = .agg parts ∧ parts.length = n ∧ ∀ x ∈ parts, Rd enc P w spare held e x := by
  obtain ⟨fuel, cs, ps, h⟩ := h
  cases fuel with
  | zero => simp [DataW.trod] at h
  | succ fuel =>
    unfold DataW.trod at h
    rw [ht] at h
    simp only at h
    split at h
    · obtain ⟨xs, hx, hd⟩ := Option.map_eq_some_iff.1 h
      cases hd
      have h1 := mapM_all2 hx
      refine ⟨_, rfl, by have := h1.len; simp at this; simp [← this], fun x hx' => ?_⟩
      obtain ⟨y, hy, rfl⟩ := List.mem_map.1 hx'
      have key : ∀ {l : List Nat} {m : List (DataW H × List MemPlace)}, All2 (fun i x => DataW.trod enc P w 0 spare held fuel e ((cs.drop (i * P.cellsOf e)).take (P.cellsOf e)) = some x) l m → ∀ y ∈ m, Rd enc P w spare held e y.1 := by
        intro l m h
        induction h with
        | nil => intro y hy; cases hy
        | cons a t ih =>
          intro y hy
          rcases List.mem_cons.1 hy with rfl | hy
          · exact ⟨fuel, _, _, a⟩
          · exact ih y hy
      exact key h1 y hy
    · cases h
end
theorem sl_of {H α : Type} {s : Nat} {f : α → List D} {Q : α → DataW H → Prop} {elems rest : List (DataW H)} (h : ∀ x ∈ elems, ∃ a, (dval x).cells? = some (dval x).cells ∧ (dval x).cells = f a ∧ (f a).length = s ∧ Q a x) :
    ∃ ws : List α, SlD (dval (.slice elems rest)) s (ws.map f) ∧ ws.length = elems.length ∧ ∀ a ∈ ws, ∃ x ∈ elems, Q a x := by
  have key : ∃ ws : List α, (elems.map dval).map D.cells = ws.map f ∧ (∀ d ∈ elems.map dval, d.cells? = some d.cells ∧ d.cells.length = s) ∧ ws.length = elems.length ∧ ∀ a ∈ ws, ∃ x ∈ elems, Q a x := by
    induction elems with
    | nil => exact ⟨[], rfl, fun d hd => (by cases hd), rfl, fun a ha => by cases ha⟩
    | cons x l ih =>
      obtain ⟨ws, h1, h2, h3, h4⟩ := ih fun y hy => h y (List.mem_cons_of_mem _ hy)
      obtain ⟨a, g1, g2, g3, g4⟩ := h x (List.mem_cons_self ..)
      refine ⟨a :: ws, by simp only [List.map_cons, h1, g2], fun d hd => ?_, by simp [h3], fun b hb => ?_⟩
      · simp only [List.map_cons, List.mem_cons] at hd
        rcases hd with rfl | hd
        · exact ⟨g1, by rw [g2]; exact g3⟩
        · exact h2 d hd
      · rcases List.mem_cons.1 hb with rfl | hb
        · exact ⟨x, List.mem_cons_self .., g4⟩
        · obtain ⟨y, hy, hq⟩ := h4 b hb
          exact ⟨y, List.mem_cons_of_mem _ hy, hq⟩
  obtain ⟨ws, h1, h2, h3, h4⟩ := key
  refine ⟨ws, .inr ⟨elems.map dval, ?_, h1, h2⟩, h3, h4⟩
  show D.sl (dels elems) = _
  rw [dels_map]
end Go.V
namespace Go.Proofs.YtecjacicdpejaaaGreat
theorem bulk_one {H : Type} (d : DataW H) : 1 ≤ Rows.uptoBulk d := by
  cases d with
  | lit l => cases l <;> simp [Rows.uptoBulk]
  | _ => simp [Rows.uptoBulk]
theorem bulk_len {H : Type} (l : List (DataW H)) : l.length ≤ Rows.uptoBulkAll l := by
  induction l with
  | nil => simp [Rows.uptoBulkAll]
  | cons x r ih => have := bulk_one x; simp only [Rows.uptoBulkAll, List.length_cons]; omega
end Go.Proofs.YtecjacicdpejaaaGreat
namespace Go.Proofs.YtecjacicdpejaaaGreat
open Go.V Go Go.RowKit
variable {H : Type} {enc : TypeId × Value → H} {w : World} {spare : Nat → Bool} {held : Bool} {d : DataW H}
theorem bulk_all {H : Type} {l : List (DataW H)} {x : DataW H} (h : x ∈ l) : Rows.uptoBulk x ≤ Rows.uptoBulkAll l := by
 induction l with
 | nil => cases h
 | cons y l ih =>
  simp only [Rows.uptoBulkAll]
  rcases List.mem_cons.1 h with rfl | h
  ·omega
  ·have := ih h; omega
end Go.Proofs.YtecjacicdpejaaaGreat
namespace Go.Proofs.YtecjacicdpejaaaGreat
open Go.V Go Go.RowKit
structure St8 where
 x : D
 l : List Pat
 c : List UInt8
def St8.d (s : St8) : D := .agg [s.x, .str s.c]
structure St8.ok (s : St8) : Prop where
 hx : SlD s.x 2 (s.l.map patC)
 ln : s.l.length ≤ 1048576
 fit : ∀ p ∈ s.l, p.fit
 hc : s.c.length ≤ 1048576
variable {H : Type} {enc : TypeId × Value → H} {w : World} {spare : Nat → Bool} {held : Bool} {d : DataW H}
theorem arg_pat (h : Rd enc Tryz.prog w spare held 92 d) : ∃ p : Pat, (dval d).cells? = some (dval d).cells ∧ (dval d).cells = patC p ∧ p.nm.length ≤ Rows.uptoBulk d ∧ p.tx.length ≤ Rows.uptoBulk d := by
 obtain ⟨parts, rfl, hp⟩ := h.struct Tryz.underlying92
 cases hp with
 | cons a hp => cases hp with
  | cons b hp => cases hp with
   | nil =>
    obtain ⟨x, rfl⟩ := a.string Tryz.underlying9;obtain ⟨y, rfl⟩ := b.string Tryz.underlying9;refine ⟨⟨x, y⟩, rfl, rfl, ?_, ?_⟩ <;> simp only [Rows.uptoBulk, Rows.uptoBulkAll] <;> omega
theorem arg_set (h : Rd enc Tryz.prog w spare held 86 d) : ∃ s : St8, dval d = s.d ∧ (Rows.uptoBulk d ≤ 1048576 → s.ok) := by
 obtain ⟨parts, rfl, hp⟩ := h.struct Tryz.underlying86
 cases hp with
 | cons a2 hp => cases hp with
  | cons b2 hp => cases hp with
   | nil =>
    rename_i d3 d4;obtain ⟨y, rfl⟩ := b2.string Tryz.underlying9
    rcases a2.slice Tryz.underlying84 with rfl | ⟨elems, rest, rfl, he⟩
    ·refine ⟨⟨.nul, [], y⟩, rfl, fun hb => ⟨.inl ⟨rfl, rfl⟩, by simp, fun p hp => (by cases hp), ?_⟩⟩;simp only [Rows.uptoBulk, Rows.uptoBulkAll] at hb;show y.length ≤ _;omega
    ·obtain ⟨l, h1, h2, h3⟩ := sl_of (s := 2) (f := patC) (Q := fun (p : Pat) x => p.nm.length ≤ Rows.uptoBulk x ∧ p.tx.length ≤ Rows.uptoBulk x) (rest := rest) fun x hx => by
      obtain ⟨p, g1, g2, g3, g4⟩ := arg_pat (he x hx);exact ⟨p, g1, g2, rfl, g3, g4⟩
     refine ⟨⟨_, l, y⟩, rfl, fun hb => ⟨h1, ?_, fun p hp => ?_, ?_⟩⟩
     ·have := bulk_len elems;simp only [Rows.uptoBulk, Rows.uptoBulkAll] at hb;show l.length ≤ _;omega
     ·obtain ⟨x, hx, h4, h5⟩ := h3 p hp;have := bulk_all hx;simp only [Rows.uptoBulk, Rows.uptoBulkAll] at hb;exact ⟨by omega, by omega⟩
     ·simp only [Rows.uptoBulk, Rows.uptoBulkAll] at hb;show y.length ≤ _;omega
end Go.Proofs.YtecjacicdpejaaaGreat
namespace Go.Proofs.YtecjacicdpejaaaGreat
open Go.V Go
def isS (gs : List (Nat × Nat)) (i : Nat) (r : Int) : Bool := match gs[i]? with
 | some g => ((g.1 : Nat) : Int) == r
 | none => false
end Go.Proofs.YtecjacicdpejaaaGreat
namespace Go.Proofs.YtecjacicdpejaaaGreat
open Go.V Go
end Go.Proofs.YtecjacicdpejaaaGreat
namespace Go.Proofs.YtecjacicdpejaaaGreat
open Go.V Go
end Go.Proofs.YtecjacicdpejaaaGreat
namespace Go.Proofs.YtecjacicdpejaaaGreat
open Go.V Go
structure Nod where
  op : Int
  rd : D
  rs : List Rg
  mn : Int
  mx : Int
  lz : Bool
  cap : Int
  kids : Int
def nodC (n : Nod) : List D := [.int .i64 n.op, n.rd, .int .i64 n.mn, .int .i64 n.mx, .bool n.lz, .int .i64 n.cap, .int .i64 n.kids]
def Nod.ok (n : Nod) : Prop := SlD n.rd 2 (n.rs.map rangeC) ∧ n.rs.length ≤ 1048576 ∧ n.kids ≤ 9223372036854775807
structure Nl where
  d : D
  l : List Nod
structure Nl.ok (x : Nl) : Prop where
  c : SlD x.d 7 (x.l.map nodC)
  i : ∀ n ∈ x.l, n.ok
  nl : x.l.length ≤ 1048576
mutual
inductive Tr where
  | mk (n : Nod) (ks : Trs)
inductive Trs where
  | nil
  | cons (t : Tr) (ts : Trs)
end
def Trs.len : Trs → Nat
  | .nil => 0
  | .cons _ ts => ts.len + 1
mutual
def Tr.flat : Tr → List Nod
  | .mk n ks => n :: ks.flat
def Trs.flat : Trs → List Nod
  | .nil => []
  | .cons t ts => t.flat ++ ts.flat
end
def nodOk (n : Nod) (nk : Nat) : Prop :=
  n.kids = (nk : Int) ∧ (((n.op = 1 ∨ n.op = 7 ∨ n.op = 8) ∧ nk = 0) ∨ (n.op = 2 ∧ nk = 0) ∨ ((n.op = 3 ∨ n.op = 4) ∧ 2 ≤ nk) ∨
    (n.op = 5 ∧ nk = 1 ∧ 0 ≤ n.mn ∧ n.mn ≤ 30 ∧ (n.mx = -1 ∨ (n.mn ≤ n.mx ∧ n.mx ≤ 30))) ∨ (n.op = 6 ∧ nk = 1 ∧ 1 ≤ n.cap ∧ n.cap ≤ 4))
mutual
def Tr.ok : Tr → Prop
  | .mk n ks => nodOk n ks.len ∧ ks.ok
def Trs.ok : Trs → Prop
  | .nil => True
  | .cons t ts => t.ok ∧ ts.ok
end
def nodSz (n : Nod) (s k : Nat) : Nat :=
  if n.op = 2 ∨ n.op = 7 ∨ n.op = 8 then 1
  else if n.op = 4 then s + 2 * (k - 1)
  else if n.op = 6 then s + 2
  else if n.op = 5 then (if n.mx = -1 then n.mn.toNat * s + s + 2 else n.mn.toNat * s + (n.mx.toNat - n.mn.toNat) * (s + 1))
  else s
mutual
def Tr.sz : Tr → Nat
  | .mk n ks => nodSz n ks.sz ks.len
def Trs.sz : Trs → Nat
  | .nil => 0
  | .cons t ts => t.sz + ts.sz
end
def mkI (op x y : Int) (rs : List Rg) : PIns := ⟨op, x, y, .sl ((rs.map rangeC).map (elD 2)), rs⟩
def spI (s o : Nat) (lz : Bool) : PIns := if lz = true then mkI 2 (o : Nat) ((s + 1 : Nat) : Int) [] else mkI 2 ((s + 1 : Nat) : Int) (o : Nat) []
def jpI (e : Nat) : PIns := mkI 3 (e : Nat) 0 []
def repC (c : Nat → List PIns) (z : Nat) : Nat → Nat → List PIns
  | 0, _ => []
  | k + 1, b => c b ++ repC c z k (b + z)
def optC (sp : Nat → PIns) (c : Nat → List PIns) (z : Nat) : Nat → Nat → List PIns
  | 0, _ => []
  | k + 1, b => sp b :: (c (b + 1) ++ optC sp c z k (b + 1 + z))
def rptC (n : Nod) (c : Nat → List PIns) (z b : Nat) : List PIns :=
  if n.mx = -1 then repC c z n.mn.toNat b ++ (spI (b + n.mn.toNat * z) (b + n.mn.toNat * z + z + 2) n.lz :: (c (b + n.mn.toNat * z + 1) ++ [jpI (b + n.mn.toNat * z)]))
  else repC c z n.mn.toNat b ++ optC (fun s => spI s (b + n.mn.toNat * z + (n.mx.toNat - n.mn.toNat) * (z + 1)) n.lz) c z (n.mx.toNat - n.mn.toNat) (b + n.mn.toNat * z)
mutual
def codeT : Tr → Nat → List PIns
  | .mk n ks, b =>
    if n.op = 2 then [mkI 1 0 0 n.rs]
    else if n.op = 7 then [mkI 5 0 0 []]
    else if n.op = 8 then [mkI 6 0 0 []]
    else if n.op = 3 then catT ks b
    else if n.op = 4 then altT (jpI (b + nodSz n ks.sz ks.len)) ks b
    else if n.op = 5 then rptC n (catT ks) ks.sz b
    else if n.op = 6 then mkI 4 (2 * n.cap) 0 [] :: (catT ks (b + 1) ++ [mkI 4 (2 * n.cap + 1) 0 []])
    else []
def catT : Trs → Nat → List PIns
  | .nil, _ => []
  | .cons t ts, b => codeT t b ++ catT ts (b + t.sz)
def altT (jp : PIns) : Trs → Nat → List PIns
  | .nil, _ => []
  | .cons t ts, b => if ts.len = 0 then codeT t b else spI b (b + 1 + t.sz + 1) false :: (codeT t (b + 1) ++ jp :: altT jp ts (b + t.sz + 2))
end
theorem repC_len {c : Nat → List PIns} {z : Nat} (hc : ∀ b, (c b).length = z) : ∀ k b, (repC c z k b).length = k * z
  | 0, b => by simp [repC]
  | k + 1, b => by rw [repC, List.length_append, hc, repC_len hc k, Nat.add_mul]; omega
theorem optC_len {sp : Nat → PIns} {c : Nat → List PIns} {z : Nat} (hc : ∀ b, (c b).length = z) : ∀ k b, (optC sp c z k b).length = k * (z + 1)
  | 0, b => by simp [optC]
  | k + 1, b => by rw [optC, List.length_cons, List.length_append, hc, optC_len hc k, Nat.add_mul]; omega
theorem rptC_len {n : Nod} {c : Nat → List PIns} {z b : Nat} (hc : ∀ b, (c b).length = z) (h : n.op = 5) : (rptC n c z b).length = nodSz n z 1 := by
  unfold rptC nodSz
  rw [if_neg (show ¬ (n.op = 2 ∨ n.op = 7 ∨ n.op = 8) by omega), if_neg (show ¬ n.op = 4 by omega), if_neg (show ¬ n.op = 6 by omega), if_pos h]
  split
  · rw [List.length_append, repC_len hc, List.length_cons, List.length_append, hc]; simp only [List.length_cons, List.length_nil]; omega
  · rw [List.length_append, repC_len hc, optC_len hc]
theorem Trs.len_nil {ks : Trs} (h : ks.len = 0) : ks = .nil := by
  cases ks with
  | nil => rfl
  | cons t ts => simp [Trs.len] at h
mutual
theorem codeT_len : ∀ (t : Tr) (b : Nat), t.ok → (codeT t b).length = t.sz
  | .mk n ks, b, h => by
    simp only [Tr.ok] at h
    obtain ⟨h1, h2⟩ := h
    have hc := fun b => catT_len ks b h2
    have ha := fun jp b => altT_len jp ks b h2
    simp only [codeT, Tr.sz]
    obtain ⟨_, ⟨h3, h4⟩ | ⟨h3, h4⟩ | ⟨h3, h4⟩ | ⟨h3, h4, h5⟩ | ⟨h3, h4, h5⟩⟩ := h1
    · have hk := Trs.len_nil h4
      subst hk
      by_cases q7 : n.op = 7
      · simp [q7, nodSz]
      · by_cases q8 : n.op = 8
        · simp [q8, nodSz]
        · have q1 : n.op = 1 := by omega
          simp [q1, nodSz, Trs.sz]
    · simp [h3, nodSz]
    · rcases h3 with h3 | h3
      · simp [h3, nodSz, hc]
      · simp [h3, nodSz, ha]
    · have := rptC_len (n := n) (b := b) hc h3
      simp only [h3] at this ⊢
      simp only [show ¬ ((5 : Int) = 2) by decide, show ¬ ((5 : Int) = 7) by decide, show ¬ ((5 : Int) = 8) by decide, show ¬ ((5 : Int) = 3) by decide, show ¬ ((5 : Int) = 4) by decide, if_false, if_true]
      rw [this, h4]
    · simp [h3, nodSz, hc]
theorem catT_len : ∀ (ts : Trs) (b : Nat), ts.ok → (catT ts b).length = ts.sz
  | .nil, b, _ => by simp [catT, Trs.sz]
  | .cons t ts, b, h => by
    simp only [Trs.ok] at h
    simp only [catT, Trs.sz, List.length_append]
    rw [codeT_len t b h.1, catT_len ts _ h.2]
theorem altT_len (jp : PIns) : ∀ (ts : Trs) (b : Nat), ts.ok → (altT jp ts b).length = ts.sz + 2 * (ts.len - 1)
  | .nil, b, _ => by simp [altT, Trs.sz, Trs.len]
  | .cons t ts, b, h => by
    simp only [Trs.ok] at h
    have h1 := altT_len jp ts (b + t.sz + 2) h.2
    simp only [altT, Trs.sz, Trs.len]
    by_cases q : ts.len = 0
    · rw [if_pos q, codeT_len t b h.1, q]
      have := Trs.len_nil q
      subst this
      simp [Trs.sz]
    · rw [if_neg q, List.length_cons, List.length_append, List.length_cons, codeT_len t _ h.1, h1]
      omega
end
def Seg {α : Type} (L : List α) (at_ : Nat) (M : List α) : Prop := ∃ post, L.drop at_ = M ++ post
theorem Seg.head {α : Type} {L M : List α} {a : α} {at_ : Nat} (h : Seg L at_ (a :: M)) : L[at_]? = some a := by
  obtain ⟨post, h⟩ := h
  have := congrArg (·[0]?) h
  simpa using this
theorem Seg.left {α : Type} {L M M' : List α} {at_ : Nat} (h : Seg L at_ (M ++ M')) : Seg L at_ M := by
  obtain ⟨post, h⟩ := h
  exact ⟨M' ++ post, by rw [h, List.append_assoc]⟩
theorem Seg.right {α : Type} {L M M' : List α} {at_ : Nat} (h : Seg L at_ (M ++ M')) : Seg L (at_ + M.length) M' := by
  obtain ⟨post, h⟩ := h
  refine ⟨post, ?_⟩
  rw [← List.drop_drop, h, List.append_assoc, List.drop_left]
theorem Seg.le {α : Type} {L M : List α} {at_ : Nat} (h : Seg L at_ M) (hM : M ≠ []) : at_ + M.length ≤ L.length := by
  obtain ⟨post, h⟩ := h
  have := congrArg List.length h
  simp only [List.length_drop, List.length_append] at this
  have : 0 < M.length := by cases M with | nil => exact absurd rfl hM | cons _ _ => simp
  omega
theorem Seg.all {α : Type} (L : List α) : Seg L 0 L := ⟨[], by simp⟩
mutual
def Tr.zs : Tr → List Int
  | .mk n ks => ((min (nodSz n ks.sz ks.len) 401 : Nat) : Int) :: ks.zs
def Trs.zs : Trs → List Int
  | .nil => []
  | .cons t ts => t.zs ++ ts.zs
end
mutual
def Tr.es : Tr → Nat → List Int
  | .mk n ks, at_ => ((at_ + 1 + ks.flat.length : Nat) : Int) :: ks.es (at_ + 1)
def Trs.es : Trs → Nat → List Int
  | .nil, _ => []
  | .cons t ts, at_ => t.es at_ ++ ts.es (at_ + t.flat.length)
end
mutual
theorem Tr.zs_len : ∀ t : Tr, t.zs.length = t.flat.length
  | .mk n ks => by simp [Tr.zs, Tr.flat, Trs.zs_len ks]
theorem Trs.zs_len : ∀ ts : Trs, ts.zs.length = ts.flat.length
  | .nil => rfl
  | .cons t ts => by simp [Trs.zs, Trs.flat, Tr.zs_len t, Trs.zs_len ts]
end
mutual
theorem Tr.es_len : ∀ (t : Tr) (a : Nat), (t.es a).length = t.flat.length
  | .mk n ks, a => by simp [Tr.es, Tr.flat, Trs.es_len ks]
theorem Trs.es_len : ∀ (ts : Trs) (a : Nat), (ts.es a).length = ts.flat.length
  | .nil, _ => rfl
  | .cons t ts, a => by simp [Trs.es, Trs.flat, Tr.es_len t, Trs.es_len ts]
end
end Go.Proofs.YtecjacicdpejaaaGreat
namespace Go.Proofs.YtecjacicdpejaaaGreat
open Go.V Go
end Go.Proofs.YtecjacicdpejaaaGreat
namespace Go.Proofs.YtecjacicdpejaaaGreat
open Go.V Go
end Go.Proofs.YtecjacicdpejaaaGreat
namespace Go.Proofs.YtecjacicdpejaaaGreat
open Go.V Go
end Go.Proofs.YtecjacicdpejaaaGreat
namespace Go.Proofs.YtecjacicdpejaaaGreat
open Go.V Go
end Go.Proofs.YtecjacicdpejaaaGreat
namespace Go.Proofs.YtecjacicdpejaaaGreat
open Go.V Go
end Go.Proofs.YtecjacicdpejaaaGreat
namespace Go.Proofs.YtecjacicdpejaaaGreat
open Go.V Go
end Go.Proofs.YtecjacicdpejaaaGreat
namespace Go.Proofs.YtecjacicdpejaaaGreat
open Go.V Go
end Go.Proofs.YtecjacicdpejaaaGreat
namespace Go.Proofs.YtecjacicdpejaaaGreat
open Go.V Go
end Go.Proofs.YtecjacicdpejaaaGreat
namespace Go.Proofs.YtecjacicdpejaaaGreat
open Go.V Go
theorem Seg.cons {α : Type} {L M : List α} {a : α} {at_ : Nat} (h : L[at_]? = some a) (h2 : Seg L (at_ + 1) M) : Seg L at_ (a :: M) := by
  obtain ⟨post, h2⟩ := h2
  refine ⟨post, ?_⟩
  have h3 : L[at_]'(lt_get h) = a := Option.some.inj ((List.getElem?_eq_getElem _).symm.trans h)
  rw [List.drop_eq_getElem_cons (lt_get h), h2, h3]; rfl
theorem Seg.append {α : Type} {L M M' : List α} {at_ : Nat} (h : Seg L at_ M) (h2 : Seg L (at_ + M.length) M') : Seg L at_ (M ++ M') := by
  obtain ⟨post, h⟩ := h
  obtain ⟨post', h2⟩ := h2
  refine ⟨post', ?_⟩
  rw [← List.drop_drop, h, List.drop_left] at h2
  rw [h, h2, List.append_assoc]
theorem Seg.none {α : Type} (L : List α) (at_ : Nat) : Seg L at_ [] := ⟨_, rfl⟩
end Go.Proofs.YtecjacicdpejaaaGreat
namespace Go.Proofs.YtecjacicdpejaaaGreat
open Go.V Go
def InsV (i : PIns) : Prop := i.rd = .sl ((i.rs.map rangeC).map (elD 2)) ∧ i.rs.length ≤ 1048576
theorem mkI_v (op x y : Int) : InsV (mkI op x y []) := ⟨rfl, by simp [mkI]⟩
theorem mkI_r (op x y : Int) {rs : List Rg} (h : rs.length ≤ 1048576) : InsV (mkI op x y rs) := ⟨rfl, h⟩
theorem spI_v (s o : Nat) (lz : Bool) : InsV (spI s o lz) := by unfold spI; split <;> exact mkI_v _ _ _
theorem jpI_v (e : Nat) : InsV (jpI e) := mkI_v _ _ _
theorem repC_v {c : Nat → List PIns} {z : Nat} (hc : ∀ b, ∀ i ∈ c b, InsV i) : ∀ k b, ∀ i ∈ repC c z k b, InsV i
  | 0, b, i, hi => by cases hi
  | k + 1, b, i, hi => by
    simp only [repC] at hi
    rcases List.mem_append.1 hi with hi | hi
    · exact hc b i hi
    · exact repC_v hc k _ i hi
theorem optC_v {sp : Nat → PIns} {c : Nat → List PIns} {z : Nat} (hs : ∀ s, InsV (sp s)) (hc : ∀ b, ∀ i ∈ c b, InsV i) : ∀ k b, ∀ i ∈ optC sp c z k b, InsV i
  | 0, b, i, hi => by cases hi
  | k + 1, b, i, hi => by
    simp only [optC] at hi
    rcases List.mem_cons.1 hi with rfl | hi
    · exact hs _
    · rcases List.mem_append.1 hi with hi | hi
      · exact hc _ i hi
      · exact optC_v hs hc k _ i hi
mutual
theorem codeT_v : ∀ (t : Tr) (b : Nat), (∀ n ∈ t.flat, n.rs.length ≤ 1048576) → ∀ i ∈ codeT t b, InsV i
  | .mk n ks, b, h, i, hi => by
    simp only [Tr.flat] at h
    have hn := h n (List.mem_cons_self ..)
    have hk : ∀ n ∈ ks.flat, n.rs.length ≤ 1048576 := fun m hm => h m (List.mem_cons_of_mem _ hm)
    have hc := fun b => catT_v ks b hk
    have ha := fun jp (hj : InsV jp) b => altT_v jp hj ks b hk
    simp only [codeT] at hi
    split at hi
    · simp only [List.mem_cons, List.not_mem_nil, or_false] at hi; subst hi; exact mkI_r _ _ _ hn
    split at hi
    · simp only [List.mem_cons, List.not_mem_nil, or_false] at hi; subst hi; exact mkI_v _ _ _
    split at hi
    · simp only [List.mem_cons, List.not_mem_nil, or_false] at hi; subst hi; exact mkI_v _ _ _
    split at hi
    · exact hc b i hi
    split at hi
    · exact ha _ (jpI_v _) b i hi
    split at hi
    · unfold rptC at hi
      split at hi
      · rcases List.mem_append.1 hi with hi | hi
        · exact repC_v hc _ _ i hi
        · rcases List.mem_cons.1 hi with rfl | hi
          · exact spI_v _ _ _
          · rcases List.mem_append.1 hi with hi | hi
            · exact hc _ i hi
            · simp only [List.mem_cons, List.not_mem_nil, or_false] at hi; subst hi; exact jpI_v _
      · rcases List.mem_append.1 hi with hi | hi
        · exact repC_v hc _ _ i hi
        · exact optC_v (fun s => spI_v _ _ _) hc _ _ i hi
    split at hi
    · rcases List.mem_cons.1 hi with rfl | hi
      · exact mkI_v _ _ _
      · rcases List.mem_append.1 hi with hi | hi
        · exact hc _ i hi
        · simp only [List.mem_cons, List.not_mem_nil, or_false] at hi; subst hi; exact mkI_v _ _ _
    · cases hi
theorem catT_v : ∀ (ts : Trs) (b : Nat), (∀ n ∈ ts.flat, n.rs.length ≤ 1048576) → ∀ i ∈ catT ts b, InsV i
  | .nil, b, _, i, hi => by simp [catT] at hi
  | .cons t ts, b, h, i, hi => by
    simp only [Trs.flat] at h
    simp only [catT] at hi
    rcases List.mem_append.1 hi with hi | hi
    · exact codeT_v t b (fun n hn => h n (List.mem_append_left _ hn)) i hi
    · exact catT_v ts _ (fun n hn => h n (List.mem_append_right _ hn)) i hi
theorem altT_v (jp : PIns) (hj : InsV jp) : ∀ (ts : Trs) (b : Nat), (∀ n ∈ ts.flat, n.rs.length ≤ 1048576) → ∀ i ∈ altT jp ts b, InsV i
  | .nil, b, _, i, hi => by simp [altT] at hi
  | .cons t ts, b, h, i, hi => by
    simp only [Trs.flat] at h
    have h1 : ∀ n ∈ t.flat, n.rs.length ≤ 1048576 := fun n hn => h n (List.mem_append_left _ hn)
    have h2 : ∀ n ∈ ts.flat, n.rs.length ≤ 1048576 := fun n hn => h n (List.mem_append_right _ hn)
    simp only [altT] at hi
    split at hi
    · exact codeT_v t b h1 i hi
    · rcases List.mem_cons.1 hi with rfl | hi
      · exact spI_v _ _ _
      · rcases List.mem_append.1 hi with hi | hi
        · exact codeT_v t _ h1 i hi
        · rcases List.mem_cons.1 hi with rfl | hi
          · exact hj
          · exact altT_v jp hj ts _ h2 i hi
end
end Go.Proofs.YtecjacicdpejaaaGreat
namespace Go.Proofs.YtecjacicdpejaaaGreat
open Go.V Go
end Go.Proofs.YtecjacicdpejaaaGreat
namespace Go.Proofs.YtecjacicdpejaaaGreat
open Go.V Go
end Go.Proofs.YtecjacicdpejaaaGreat
namespace Go.Proofs.YtecjacicdpejaaaGreat
open Go.V Go
end Go.Proofs.YtecjacicdpejaaaGreat
namespace Go.Proofs.YtecjacicdpejaaaGreat
open Go.V Go
end Go.Proofs.YtecjacicdpejaaaGreat
namespace Go.Proofs.YtecjacicdpejaaaGreat
open Go.V Go
end Go.Proofs.YtecjacicdpejaaaGreat
namespace Go.Proofs.YtecjacicdpejaaaGreat
open Go.V Go
end Go.Proofs.YtecjacicdpejaaaGreat
namespace Go.Proofs.YtecjacicdpejaaaGreat
open Go.V Go
end Go.Proofs.YtecjacicdpejaaaGreat
namespace Go.Proofs.YtecjacicdpejaaaGreat
open Go.V Go
end Go.Proofs.YtecjacicdpejaaaGreat
namespace Go.Proofs.YtecjacicdpejaaaGreat
open Go.V Go
end Go.Proofs.YtecjacicdpejaaaGreat
namespace Go.Proofs.YtecjacicdpejaaaGreat
open Go.V Go Go.RowKit
variable {H : Type} {enc : TypeId × Value → H} {w : World} {spare : Nat → Bool} {held : Bool} {d : DataW H}
end Go.Proofs.YtecjacicdpejaaaGreat
namespace Go.Proofs.YtecjacicdpejaaaGreat
open Go.V Go Go.RowKit
variable {H : Type} {enc : TypeId × Value → H} {w : World} {spare : Nat → Bool} {held : Bool} {d : DataW H}
theorem arg_byl (h : Rd enc Tryz.prog w spare held 23 d) : ∃ (y : D) (b : List UInt8), dval d = y ∧ SlD y 1 (byteCells b) ∧ (Rows.uptoBulk d ≤ 1048576 → b.length ≤ 1048576) := by
 rcases h.slice Tryz.underlying23 with rfl | ⟨elems, rest, rfl, he⟩
 ·exact ⟨_, [], rfl, .inl ⟨rfl, rfl⟩, fun _ => by simp⟩
 ·obtain ⟨l, h1, h2, _⟩ := sl_of (s := 1) (f := fun c : UInt8 => [.int .u8 (c.toNat : Nat)]) (Q := fun _ _ => True) (rest := rest) fun x hx => by
   obtain ⟨n, rfl, hw⟩ := (he x hx).int Tryz.underlying5;obtain ⟨c, rfl⟩ := wf_u8 hw;exact ⟨c, rfl, rfl, rfl, trivial⟩
  refine ⟨_, l, rfl, h1, fun hb => ?_⟩;have := bulk_len elems;simp only [Rows.uptoBulk] at hb;omega
end Go.Proofs.YtecjacicdpejaaaGreat
