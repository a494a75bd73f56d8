/- UtfSteps, for arguments of bulk at most 1048576: it answers true. -/
import Derived.Test.YtlljdbhefepheaaUn
import Derived.Test.YtlljdbhefepheaaWd
import Derived.Test.YtlljdbhefepheaaRows
import Derived.Test.YtlljdbhefepheaaBulk
import Derived.WalkKit
import Derived.ProofKit
import Derived.OpenShut
import Derived.JoinedCond
import Derived.ChangeOld
namespace Go.Proofs.Ytlljdbhefepheaa.utfSteps
open Go.ChangeShapes Go.WideShapes Go.ChangeAt Go.RowKit Go.V
set_option maxRecDepth 100000
set_option maxHeartbeats 4000000
set_option linter.unusedSimpArgs false
set_option linter.unusedVariables false

theorem begun_le {l : List UInt8} (h : begunS l = true) : l.length ≤ 3 := by
  obtain ⟨h1, h2, h3⟩ := (fits_first l).1.1 h
  cases l with
  | nil => simp
  | cons c xs =>
    have := needS_le c.toNat
    simp only [fitsS] at h2 h3
    split at h2
    · simp at h2
    · split at h2
      · split at h2
        · rw [← h3]; rename_i a1 a2 a3; rw [if_neg a1, if_pos a2, if_pos a3]; simp only; omega
        · simp at h2
      · simp at h2

theorem tell_le : ∀ (f : Nat) (l : List UInt8), l.length ≤ f → (tellF f l).2.length ≤ 3
  | 0, l, h => by simp [tellF]; have : l = [] := by cases l with | nil => rfl | cons _ _ => simp at h
                  subst this; simp
  | f + 1, [], _ => by simp [tellF]
  | f + 1, c :: l, h => by
    simp only [tellF]
    split
    · rename_i hb; exact begun_le hb
    · have hp := oneS_pos (c :: l)
      exact tell_le f _ (by rw [List.length_drop]; simp only [List.length_cons] at h ⊢; omega)

theorem tell_n : ∀ (f : Nat) (l : List UInt8), (tellF f l).1.length ≤ f
  | 0, l => by simp [tellF]
  | f + 1, [] => by simp [tellF]
  | f + 1, c :: l => by
    simp only [tellF]
    split
    · simp
    · simp only [List.length_cons]; have := tell_n f ((c :: l).drop (oneS (c :: l)).2); omega

theorem jF_len : ∀ (f : Nat) (l j : List UInt8), (l ++ j).length = 4 → l.length ≤ f → ((tellF f l).2 ++ jF f l j).length = 4
  | 0, l, j, h, hf => by
    have : l = [] := by cases l with | nil => rfl | cons _ _ => simp at hf
    subst this; exact h
  | f + 1, [], j, h, _ => by simpa [tellF, jF] using h
  | f + 1, c :: l, j, h, hf => by
    simp only [tellF, jF]
    split
    · exact h
    · have hp := oneS_pos (c :: l)
      have hle := oneS_le (b := c :: l) (by simp)
      rw [List.length_append] at h
      refine jF_len f _ _ ?_ ?_
      · rw [List.length_append, List.length_drop, List.length_drop, List.length_append]; omega
      · rw [List.length_drop]; simp only [List.length_cons] at hf ⊢; omega

/-- what is held behind some bytes -/
def heldF (h : List UInt8) : List UInt8 → List UInt8
  | [] => h
  | c :: l => heldF (byteS h c).2 l

theorem law {st : St} {x : D} {b : List UInt8} (hb : Bytes st x b) (hlen : b.length ≤ 1048576) : Ev pv 7 [x] st (.bool true) st := by
  refine Ev.mk1 rfl fi7 rfl rfl rfl ?_
  dsimp only [List.cons_append, List.nil_append, List.length, Nat.reduceSub, Nat.reduceAdd, List.replicate_succ, List.replicate_zero]
  have hx := hb.ref
  have hb1 := hb.enter .ro
  have hbl := byteCells_len b
  have hN0 : (enterSt .ro st).bs.length = st.bs.length := rfl
  have hnew : Ev pv 10 [] (enterSt .ro st) (.ptr st.bs.length 0 0) ((enterSt .ro st).push (.mem 0 false (decC [] [0, 0, 0, 0]))) := by
    refine Ev.mk1 rfl fi10 rfl rfl rfl ?_
    dsimp only [List.cons_append, List.nil_append, List.length, Nat.reduceSub, Nat.reduceAdd, List.replicate_succ, List.replicate_zero]
    try change EvC _ _ _ _ _
    repeat refine EvC.seq ?_
    try generalize hK : SeqQ _ _ _ = K
    refine EvC.reg ?_
    repeat (first | refine EvO.T rfl rfl rfl rfl ?_ | refine EvO.L rfl rfl rfl rfl ?_ | refine EvO.N rfl rfl rfl ?_ | refine EvO.offT rfl rfl ?_ | refine EvO.offL rfl rfl ?_)
    refine EvO.nil ?_
    dsimp only [Fr.putO, Fr.put, Fr.clean, Fr.ev, Fr.get, nth, Go.V.look, List.set_cons_succ, List.set_cons_zero, ofVal_int, ofVal_bool, ofVal_str, ofVal_nul, ofVal_pnil, ofVal_nilfn, ofVal_nilif, List.length, List.cons_append, List.nil_append, List.append_nil, Nat.reduceSub, Nat.reduceAdd, List.map, List.map_cons, List.map_nil]
    try subst hK
    try change EvC _ _ _ _ _
    try change EvC _ _ _ _ _
    repeat refine EvC.seq ?_
    try generalize hK : SeqQ _ _ _ = K
    refine EvC.reg ?_
    repeat (first | refine EvO.T rfl rfl rfl rfl ?_ | refine EvO.L rfl rfl rfl rfl ?_ | refine EvO.N rfl rfl rfl ?_ | refine EvO.offT rfl rfl ?_ | refine EvO.offL rfl rfl ?_)
    refine EvO.nil ?_
    dsimp only [Fr.putO, Fr.put, Fr.clean, Fr.ev, Fr.get, nth, Go.V.look, List.set_cons_succ, List.set_cons_zero, ofVal_int, ofVal_bool, ofVal_str, ofVal_nul, ofVal_pnil, ofVal_nilfn, ofVal_nilif, List.length, List.cons_append, List.nil_append, List.append_nil, Nat.reduceSub, Nat.reduceAdd, List.map, List.map_cons, List.map_nil]
    try subst hK
    try change EvC _ _ _ _ _
    exact EvC.ret ⟨fun i h => (by cases h), _, rfl, rfl⟩
  try change EvC _ _ _ _ _
  repeat refine EvC.seq ?_
  try generalize hK : SeqQ _ _ _ = K
  refine EvC.reg ?_
  repeat (first | refine EvO.T rfl rfl rfl rfl ?_ | refine EvO.L rfl rfl rfl rfl ?_ | refine EvO.N rfl rfl rfl ?_ | refine EvO.offT rfl rfl ?_ | refine EvO.offL rfl rfl ?_)
  refine EvO.nil ?_
  dsimp only [Fr.putO, Fr.put, Fr.clean, Fr.ev, Fr.get, nth, Go.V.look, List.set_cons_succ, List.set_cons_zero, ofVal_int, ofVal_bool, ofVal_str, ofVal_nul, ofVal_pnil, ofVal_nilfn, ofVal_nilif, List.length, List.cons_append, List.nil_append, List.append_nil, Nat.reduceSub, Nat.reduceAdd, List.map, List.map_cons, List.map_nil]
  try subst hK
  try change EvC _ _ _ _ _
  try change EvC _ _ _ _ _
  repeat refine EvC.seq ?_
  try generalize hK : SeqQ _ _ _ = K
  refine EvC.reg ?_
  refine EvO.callT rfl rfl rfl hnew ?_
  repeat (first | refine EvO.T rfl rfl rfl rfl ?_ | refine EvO.L rfl rfl rfl rfl ?_ | refine EvO.N rfl rfl rfl ?_ | refine EvO.offT rfl rfl ?_ | refine EvO.offL rfl rfl ?_)
  refine EvO.nil ?_
  dsimp only [Fr.putO, Fr.put, Fr.clean, Fr.ev, Fr.get, nth, Go.V.look, List.set_cons_succ, List.set_cons_zero, ofVal_int, ofVal_bool, ofVal_str, ofVal_nul, ofVal_pnil, ofVal_nilfn, ofVal_nilif, List.length, List.cons_append, List.nil_append, List.append_nil, Nat.reduceSub, Nat.reduceAdd, List.map, List.map_cons, List.map_nil]
  try subst hK
  try change EvC _ _ _ _ _
  try change EvC _ _ _ _ _
  repeat refine EvC.seq ?_
  try generalize hK : SeqQ _ _ _ = K
  refine EvC.reg ?_
  repeat (first | refine EvO.T rfl rfl rfl rfl ?_ | refine EvO.L rfl rfl rfl rfl ?_ | refine EvO.N rfl rfl rfl ?_ | refine EvO.offT rfl rfl ?_ | refine EvO.offL rfl rfl ?_)
  refine EvO.nil ?_
  dsimp only [Fr.putO, Fr.put, Fr.clean, Fr.ev, Fr.get, nth, Go.V.look, List.set_cons_succ, List.set_cons_zero, ofVal_int, ofVal_bool, ofVal_str, ofVal_nul, ofVal_pnil, ofVal_nilfn, ofVal_nilif, List.length, List.cons_append, List.nil_append, List.append_nil, Nat.reduceSub, Nat.reduceAdd, List.map, List.map_cons, List.map_nil]
  try subst hK
  try change EvC _ _ _ _ _
  try change EvC _ _ _ _ _
  repeat refine EvC.seq ?_
  refine EvC.cond (v := false) rfl (fun h => by cases h) fun _ => ?_
  try change EvC _ _ _ _ _
  refine EvC.skip ?_
  try change EvC _ _ _ _ _
  try change EvC _ _ _ _ _
  repeat refine EvC.seq ?_
  try generalize hK : SeqQ _ _ _ = K
  refine EvC.reg ?_
  repeat (first | refine EvO.T rfl rfl rfl rfl ?_ | refine EvO.L rfl rfl rfl rfl ?_ | refine EvO.N rfl rfl rfl ?_ | refine EvO.offT rfl rfl ?_ | refine EvO.offL rfl rfl ?_)
  refine EvO.nil ?_
  dsimp only [Fr.putO, Fr.put, Fr.clean, Fr.ev, Fr.get, nth, Go.V.look, List.set_cons_succ, List.set_cons_zero, ofVal_int, ofVal_bool, ofVal_str, ofVal_nul, ofVal_pnil, ofVal_nilfn, ofVal_nilif, List.length, List.cons_append, List.nil_append, List.append_nil, Nat.reduceSub, Nat.reduceAdd, List.map, List.map_cons, List.map_nil]
  try subst hK
  try change EvC _ _ _ _ _
  try change EvC _ _ _ _ _
  repeat refine EvC.seq ?_
  try generalize hK : SeqQ _ _ _ = K
  refine EvC.reg ?_
  repeat (first | refine EvO.T rfl rfl rfl rfl ?_ | refine EvO.L rfl rfl rfl rfl ?_ | refine EvO.N rfl rfl rfl ?_ | refine EvO.offT rfl rfl ?_ | refine EvO.offL rfl rfl ?_)
  refine EvO.nil ?_
  dsimp only [Fr.putO, Fr.put, Fr.clean, Fr.ev, Fr.get, nth, Go.V.look, List.set_cons_succ, List.set_cons_zero, ofVal_int, ofVal_bool, ofVal_str, ofVal_nul, ofVal_pnil, ofVal_nilfn, ofVal_nilif, List.length, List.cons_append, List.nil_append, List.append_nil, Nat.reduceSub, Nat.reduceAdd, List.map, List.map_cons, List.map_nil]
  try subst hK
  try change EvC _ _ _ _ _
  try change EvC _ _ _ _ _
  repeat refine EvC.seq ?_
  refine EvC.block ?_
  have hdec : ∀ h j, ((enterSt .ro st).push (.mem 0 false (decC h j))).bs[st.bs.length]? = some (.mem 0 false (decC h j)) := fun h j => push_at (enterSt .ro st) _
  have hset : ∀ b b', (⟨((enterSt .ro st).push b).bs.set st.bs.length b', ((enterSt .ro st).push b).flr, ((enterSt .ro st).push b).ro⟩ : St) = (enterSt .ro st).push b' := fun b b' => push_set (st := enterSt .ro st) rfl
  have hxx : ∀ bx, Ex st.bs.length (enterSt .ro st) ((enterSt .ro st).push bx) := fun bx => Ex.push (st := enterSt .ro st) (Nat.le_refl _) bx
  refine EvC.loop (fun m fr st' => ∃ (i : Nat) (h j : List UInt8) (hd v6 v7 v8 : D), fr.clean = ⟨9, [x, .tup [], .bool false, .ptr st.bs.length 0 0, hd, .int .i64 (i : Nat), v6, v7, v8], []⟩ ∧ st' = (enterSt .ro st).push (.mem 0 false (decC h j)) ∧ (∀ S, Bytes S hd h) ∧ (h ++ j).length = 4 ∧ h.length ≤ 3 ∧ i ≤ b.length ∧ m = b.length - i) b.length
    ⟨0, [], [0, 0, 0, 0], .nul, _, _, _, rfl, rfl, fun S => .nul, rfl, by simp, by omega, rfl⟩ ?_
  rintro m fr st' ⟨i, h, j, hd, v6, v7, v8, hfr, rfl, hhd, hl, h3, hib, rfl⟩
  rw [hfr]
  have hb2 : ∀ bx, Bytes ((enterSt .ro st).push bx) x b := fun bx => hb1.ex (hxx bx) hx
  by_cases h4 : i < b.length ∧ i < 500
  · obtain ⟨y, hy⟩ : ∃ y, b[i]? = some y := ⟨b[i]'(by omega), List.getElem?_eq_getElem _⟩
    have hyc := byteCells_get hy
    obtain ⟨j0, js, rfl⟩ : ∃ j0 js, j = j0 :: js := by
      rw [List.length_append] at hl
      cases j with | nil => simp at hl; omega | cons a b => exact ⟨a, b, rfl⟩
    have hrb := rbyte_ev (c := y) (hhd ((enterSt .ro st).push (.mem 0 false (decC h (j0 :: js))))) h3
    have hbe := byte_ev (c := y) (hdec h (j0 :: js)) hl (Nat.le_refl _)
    rw [hset] at hbe
    have hfl : ((h ++ [y]) ++ js).length = 4 := by simp at hl ⊢; omega
    have hj4 := jF_len (h.length + 1) (h ++ [y]) js hfl (by simp)
    have h3' := tell_le (h.length + 1) (h ++ [y]) (by simp)
    have htn := tell_n (h.length + 1) (h ++ [y])
    change (byteS h y).2.length ≤ 3 at h3'
    change ((byteS h y).2 ++ _).length = 4 at hj4
    change (byteS h y).1.length ≤ _ at htn
    generalize jF (h.length + 1) (h ++ [y]) js = j2 at *
    generalize byteS h y = q at *
    have hhe := held_ev (hdec q.2 j2) hj4 (by show st.bs.length ≤ _; simp [St.push, enterSt])
    try change EvC _ _ _ _ _
    repeat refine EvC.seq ?_
    try generalize hK : SeqQ _ _ _ = K
    refine EvC.reg ?_
    (first | refine EvO.T rfl rfl rfl rfl ?_ | refine EvO.L rfl rfl rfl rfl ?_ | refine EvO.N rfl rfl rfl ?_ | refine EvO.offT rfl rfl ?_ | refine EvO.offL rfl rfl ?_)
    (first | refine EvO.T rfl rfl rfl rfl ?_ | refine EvO.L rfl rfl rfl rfl ?_ | refine EvO.N rfl rfl rfl ?_ | refine EvO.offT rfl rfl ?_ | refine EvO.offL rfl rfl ?_)
    refine EvO.len rfl rfl rfl (hb2 _) rfl ?_
    rw [hbl]
    repeat (first | refine EvO.T rfl rfl rfl rfl ?_ | refine EvO.L rfl rfl rfl rfl ?_ | refine EvO.N rfl rfl rfl ?_ | refine EvO.offT rfl rfl ?_ | refine EvO.offL rfl rfl ?_ | simp (disch := omega) only [decide_eq_true, decide_eq_false, beq_yes, beq_no, bne_yes, bne_no])
    refine EvO.nil ?_
    dsimp only [Fr.putO, Fr.put, Fr.clean, Fr.ev, Fr.get, nth, Go.V.look, List.set_cons_succ, List.set_cons_zero, ofVal_int, ofVal_bool, ofVal_str, ofVal_nul, ofVal_pnil, ofVal_nilfn, ofVal_nilif, List.length, List.cons_append, List.nil_append, List.append_nil, Nat.reduceSub, Nat.reduceAdd, List.map, List.map_cons, List.map_nil]
    try subst hK
    try change EvC _ _ _ _ _
    try change EvC _ _ _ _ _
    repeat refine EvC.seq ?_
    refine EvC.cond (v := true) rfl (fun _ => ?_) (fun h => by cases h)
    try change EvC _ _ _ _ _
    refine EvC.skip ?_
    try change EvC _ _ _ _ _
    try change EvC _ _ _ _ _
    repeat refine EvC.seq ?_
    refine EvC.block ?_
    try change EvC _ _ _ _ _
    repeat refine EvC.seq ?_
    try generalize hK : SeqQ _ _ _ = K
    refine EvC.reg ?_
    repeat (first | refine EvO.T rfl rfl rfl rfl ?_ | refine EvO.L rfl rfl rfl rfl ?_ | refine EvO.N rfl rfl rfl ?_ | refine EvO.offT rfl rfl ?_ | refine EvO.offL rfl rfl ?_)
    refine EvO.nil ?_
    dsimp only [Fr.putO, Fr.put, Fr.clean, Fr.ev, Fr.get, nth, Go.V.look, List.set_cons_succ, List.set_cons_zero, ofVal_int, ofVal_bool, ofVal_str, ofVal_nul, ofVal_pnil, ofVal_nilfn, ofVal_nilif, List.length, List.cons_append, List.nil_append, List.append_nil, Nat.reduceSub, Nat.reduceAdd, List.map, List.map_cons, List.map_nil]
    try subst hK
    try change EvC _ _ _ _ _
    try change EvC _ _ _ _ _
    repeat refine EvC.seq ?_
    try generalize hK : SeqQ _ _ _ = K
    refine EvC.reg ?_
    (first | refine EvO.T rfl rfl rfl rfl ?_ | refine EvO.L rfl rfl rfl rfl ?_ | refine EvO.N rfl rfl rfl ?_ | refine EvO.offT rfl rfl ?_ | refine EvO.offL rfl rfl ?_)
    (first | refine EvO.T rfl rfl rfl rfl ?_ | refine EvO.L rfl rfl rfl rfl ?_ | refine EvO.N rfl rfl rfl ?_ | refine EvO.offT rfl rfl ?_ | refine EvO.offL rfl rfl ?_)
    (first | refine EvO.T rfl rfl rfl rfl ?_ | refine EvO.L rfl rfl rfl rfl ?_ | refine EvO.N rfl rfl rfl ?_ | refine EvO.offT rfl rfl ?_ | refine EvO.offL rfl rfl ?_)
    refine EvO.idxLoad rfl rfl rfl (fun _ => rfl) rfl rfl (hb2 _) rfl rfl (by omega) hyc rfl (fun p => ?_)
    refine EvO.callT rfl rfl rfl hrb ?_
    repeat (first | refine EvO.T rfl rfl rfl rfl ?_ | refine EvO.L rfl rfl rfl rfl ?_ | refine EvO.N rfl rfl rfl ?_ | refine EvO.offT rfl rfl ?_ | refine EvO.offL rfl rfl ?_)
    refine EvO.nil ?_
    dsimp only [Fr.putO, Fr.put, Fr.clean, Fr.ev, Fr.get, nth, Go.V.look, List.set_cons_succ, List.set_cons_zero, ofVal_int, ofVal_bool, ofVal_str, ofVal_nul, ofVal_pnil, ofVal_nilfn, ofVal_nilif, List.length, List.cons_append, List.nil_append, List.append_nil, Nat.reduceSub, Nat.reduceAdd, List.map, List.map_cons, List.map_nil]
    try subst hK
    try change EvC _ _ _ _ _
    try change EvC _ _ _ _ _
    repeat refine EvC.seq ?_
    try generalize hK : SeqQ _ _ _ = K
    refine EvC.reg ?_
    (first | refine EvO.T rfl rfl rfl rfl ?_ | refine EvO.L rfl rfl rfl rfl ?_ | refine EvO.N rfl rfl rfl ?_ | refine EvO.offT rfl rfl ?_ | refine EvO.offL rfl rfl ?_)
    (first | refine EvO.T rfl rfl rfl rfl ?_ | refine EvO.L rfl rfl rfl rfl ?_ | refine EvO.N rfl rfl rfl ?_ | refine EvO.offT rfl rfl ?_ | refine EvO.offL rfl rfl ?_)
    (first | refine EvO.T rfl rfl rfl rfl ?_ | refine EvO.L rfl rfl rfl rfl ?_ | refine EvO.N rfl rfl rfl ?_ | refine EvO.offT rfl rfl ?_ | refine EvO.offL rfl rfl ?_)
    refine EvO.idxLoad rfl rfl rfl (fun _ => rfl) rfl rfl (hb2 _) rfl rfl (by omega) hyc rfl (fun p => ?_)
    refine EvO.callT rfl rfl rfl hbe ?_
    (first | refine EvO.T rfl rfl rfl rfl ?_ | refine EvO.L rfl rfl rfl rfl ?_ | refine EvO.N rfl rfl rfl ?_ | refine EvO.offT rfl rfl ?_ | refine EvO.offL rfl rfl ?_)
    refine EvO.callT rfl rfl rfl (same_got (gots_rows _ _) (gots_rows _ _) (by omega)) ?_
    (first | refine EvO.T rfl rfl rfl rfl ?_ | refine EvO.L rfl rfl rfl rfl ?_ | refine EvO.N rfl rfl rfl ?_ | refine EvO.offT rfl rfl ?_ | refine EvO.offL rfl rfl ?_)
    (first | refine EvO.T rfl rfl rfl rfl ?_ | refine EvO.L rfl rfl rfl rfl ?_ | refine EvO.N rfl rfl rfl ?_ | refine EvO.offT rfl rfl ?_ | refine EvO.offL rfl rfl ?_)
    (first | refine EvO.T rfl rfl rfl rfl ?_ | refine EvO.L rfl rfl rfl rfl ?_ | refine EvO.N rfl rfl rfl ?_ | refine EvO.offT rfl rfl ?_ | refine EvO.offL rfl rfl ?_)
    refine EvO.callT rfl rfl rfl hhe ?_
    (first | refine EvO.T rfl rfl rfl rfl ?_ | refine EvO.L rfl rfl rfl rfl ?_ | refine EvO.N rfl rfl rfl ?_ | refine EvO.offT rfl rfl ?_ | refine EvO.offL rfl rfl ?_)
    refine EvO.callT rfl rfl rfl (same_byte (bytesV_ok _ _) (bytesV_ok _ _) (by omega)) ?_
    repeat (first | refine EvO.T rfl rfl rfl rfl ?_ | refine EvO.L rfl rfl rfl rfl ?_ | refine EvO.N rfl rfl rfl ?_ | refine EvO.offT rfl rfl ?_ | refine EvO.offL rfl rfl ?_)
    refine EvO.nil ?_
    dsimp only [Fr.putO, Fr.put, Fr.clean, Fr.ev, Fr.get, nth, Go.V.look, List.set_cons_succ, List.set_cons_zero, ofVal_int, ofVal_bool, ofVal_str, ofVal_nul, ofVal_pnil, ofVal_nilfn, ofVal_nilif, List.length, List.cons_append, List.nil_append, List.append_nil, Nat.reduceSub, Nat.reduceAdd, List.map, List.map_cons, List.map_nil]
    try subst hK
    try change EvC _ _ _ _ _
    try change EvC _ _ _ _ _
    repeat refine EvC.seq ?_
    refine EvC.cond (v := false) rfl (fun h => by cases h) fun _ => ?_
    try change EvC _ _ _ _ _
    refine EvC.skip ?_
    change EvC _ _ _ _ _
    try change EvC _ _ _ _ _
    repeat refine EvC.seq ?_
    try generalize hK : SeqQ _ _ _ = K
    refine EvC.reg ?_
    repeat (first | refine EvO.T rfl rfl rfl rfl ?_ | refine EvO.L rfl rfl rfl rfl ?_ | refine EvO.N rfl rfl rfl ?_ | refine EvO.offT rfl rfl ?_ | refine EvO.offL rfl rfl ?_)
    refine EvO.nil ?_
    dsimp only [Fr.putO, Fr.put, Fr.clean, Fr.ev, Fr.get, nth, Go.V.look, List.set_cons_succ, List.set_cons_zero, ofVal_int, ofVal_bool, ofVal_str, ofVal_nul, ofVal_pnil, ofVal_nilfn, ofVal_nilif, List.length, List.cons_append, List.nil_append, List.append_nil, Nat.reduceSub, Nat.reduceAdd, List.map, List.map_cons, List.map_nil]
    try subst hK
    try change EvC _ _ _ _ _
    rw [wrap_i64 (by omega) (by omega)]
    exact ⟨b.length - (i + 1), by omega, i + 1, q.2, j2, _, _, _, _, rfl, rfl, fun S => bytesV_ok S q.2, hj4, h3', by omega, rfl⟩
  · generalize hK0 : SeqQ _ _ (fun (o : Out) (fr : Fr) (st1 : St) => (∀ (i : Nat), o ≠ Out.exit i) ∧ _) = K0
    have H : ∀ m2, K0 .next ⟨9, [x, .tup [], .bool false, .ptr st.bs.length 0 0, hd, .int .i64 (i : Nat), v6, v7, v8], m2⟩ ((enterSt .ro st).push (.mem 0 false (decC h j))) := by
      intro m2
      subst hK0
      have hen := end_ev (hdec h j) hl (Nat.le_refl _)
      rw [hset] at hen
      have hl0 : (([] : List UInt8) ++ (h ++ j)).length = 4 := by simpa using hl
      have hhe := held_ev (hdec [] (h ++ j)) hl0 (by show st.bs.length ≤ _; simp [St.push, enterSt])
      have hen2 := end_ev (hdec [] (h ++ j)) hl0 (Nat.le_refl _)
      rw [hset] at hen2
      have hR := fun S => gots_rows S (badS h.length)
      have hRl : ((badS h.length).map gotC).length = h.length := by simp [badS]
      try change EvC _ _ _ _ _
      repeat refine EvC.seq ?_
      try generalize hK : SeqQ _ _ _ = K
      refine EvC.reg ?_
      (first | refine EvO.T rfl rfl rfl rfl ?_ | refine EvO.L rfl rfl rfl rfl ?_ | refine EvO.N rfl rfl rfl ?_ | refine EvO.offT rfl rfl ?_ | refine EvO.offL rfl rfl ?_)
      refine EvO.callT rfl rfl rfl hen ?_
      repeat (first | refine EvO.T rfl rfl rfl rfl ?_ | refine EvO.L rfl rfl rfl rfl ?_ | refine EvO.N rfl rfl rfl ?_ | refine EvO.offT rfl rfl ?_ | refine EvO.offL rfl rfl ?_)
      refine EvO.nil ?_
      dsimp only [Fr.putO, Fr.put, Fr.clean, Fr.ev, Fr.get, nth, Go.V.look, List.set_cons_succ, List.set_cons_zero, ofVal_int, ofVal_bool, ofVal_str, ofVal_nul, ofVal_pnil, ofVal_nilfn, ofVal_nilif, List.length, List.cons_append, List.nil_append, List.append_nil, Nat.reduceSub, Nat.reduceAdd, List.map, List.map_cons, List.map_nil]
      try subst hK
      try change EvC _ _ _ _ _
      try change EvC _ _ _ _ _
      repeat refine EvC.seq ?_
      try generalize hK : SeqQ _ _ _ = K
      refine EvC.reg ?_
      (first | refine EvO.T rfl rfl rfl rfl ?_ | refine EvO.L rfl rfl rfl rfl ?_ | refine EvO.N rfl rfl rfl ?_ | refine EvO.offT rfl rfl ?_ | refine EvO.offL rfl rfl ?_)
      refine EvO.len rfl rfl rfl (hR _) rfl ?_
      (first | refine EvO.T rfl rfl rfl rfl ?_ | refine EvO.L rfl rfl rfl rfl ?_ | refine EvO.N rfl rfl rfl ?_ | refine EvO.offT rfl rfl ?_ | refine EvO.offL rfl rfl ?_)
      refine EvO.len rfl rfl rfl (hhd _) rfl ?_
      rw [hRl, byteCells_len]
      refine EvO.T rfl rfl rfl (d := .bool false) (st1 := (enterSt .ro st).push (.mem 0 false (decC [] (h ++ j)))) ?_ ?_
      · show some (D.bool ((h.length : Int) != (h.length : Int)), _) = _
        simp
      (first | refine EvO.T rfl rfl rfl rfl ?_ | refine EvO.L rfl rfl rfl rfl ?_ | refine EvO.N rfl rfl rfl ?_ | refine EvO.offT rfl rfl ?_ | refine EvO.offL rfl rfl ?_)
      (first | refine EvO.T rfl rfl rfl rfl ?_ | refine EvO.L rfl rfl rfl rfl ?_ | refine EvO.N rfl rfl rfl ?_ | refine EvO.offT rfl rfl ?_ | refine EvO.offL rfl rfl ?_)
      refine EvO.callT rfl rfl rfl hhe ?_
      refine EvO.len rfl rfl rfl (bytesV_ok _ []) rfl ?_
      (first | refine EvO.T rfl rfl rfl rfl ?_ | refine EvO.L rfl rfl rfl rfl ?_ | refine EvO.N rfl rfl rfl ?_ | refine EvO.offT rfl rfl ?_ | refine EvO.offL rfl rfl ?_)
      (first | refine EvO.T rfl rfl rfl rfl ?_ | refine EvO.L rfl rfl rfl rfl ?_ | refine EvO.N rfl rfl rfl ?_ | refine EvO.offT rfl rfl ?_ | refine EvO.offL rfl rfl ?_)
      (first | refine EvO.T rfl rfl rfl rfl ?_ | refine EvO.L rfl rfl rfl rfl ?_ | refine EvO.N rfl rfl rfl ?_ | refine EvO.offT rfl rfl ?_ | refine EvO.offL rfl rfl ?_)
      (first | refine EvO.T rfl rfl rfl rfl ?_ | refine EvO.L rfl rfl rfl rfl ?_ | refine EvO.N rfl rfl rfl ?_ | refine EvO.offT rfl rfl ?_ | refine EvO.offL rfl rfl ?_)
      refine EvO.callT rfl rfl rfl hen2 ?_
      refine EvO.len rfl rfl rfl (gots_rows _ (badS 0)) rfl ?_
      repeat (first | refine EvO.T rfl rfl rfl rfl ?_ | refine EvO.L rfl rfl rfl rfl ?_ | refine EvO.N rfl rfl rfl ?_ | refine EvO.offT rfl rfl ?_ | refine EvO.offL rfl rfl ?_)
      refine EvO.nil ?_
      dsimp only [Fr.putO, Fr.put, Fr.clean, Fr.ev, Fr.get, nth, Go.V.look, List.set_cons_succ, List.set_cons_zero, ofVal_int, ofVal_bool, ofVal_str, ofVal_nul, ofVal_pnil, ofVal_nilfn, ofVal_nilif, List.length, List.cons_append, List.nil_append, List.append_nil, Nat.reduceSub, Nat.reduceAdd, List.map, List.map_cons, List.map_nil]
      try subst hK
      try change EvC _ _ _ _ _
      try change EvC _ _ _ _ _
      repeat refine EvC.seq ?_
      refine EvC.cond (v := false) rfl (fun h => by cases h) fun _ => ?_
      try change EvC _ _ _ _ _
      refine EvC.skip ?_
      try change EvC _ _ _ _ _
      try change EvC _ _ _ _ _
      repeat refine EvC.seq ?_
      try generalize hK : SeqQ _ _ _ = K
      refine EvC.reg ?_
      repeat (first | refine EvO.T rfl rfl rfl rfl ?_ | refine EvO.L rfl rfl rfl rfl ?_ | refine EvO.N rfl rfl rfl ?_ | refine EvO.offT rfl rfl ?_ | refine EvO.offL rfl rfl ?_)
      refine EvO.nil ?_
      dsimp only [Fr.putO, Fr.put, Fr.clean, Fr.ev, Fr.get, nth, Go.V.look, List.set_cons_succ, List.set_cons_zero, ofVal_int, ofVal_bool, ofVal_str, ofVal_nul, ofVal_pnil, ofVal_nilfn, ofVal_nilif, List.length, List.cons_append, List.nil_append, List.append_nil, Nat.reduceSub, Nat.reduceAdd, List.map, List.map_cons, List.map_nil]
      try subst hK
      try change EvC _ _ _ _ _
      try change EvC _ _ _ _ _
      repeat refine EvC.seq ?_
      refine EvC.block ?_
      refine EvC.loop (fun m fr st' => ∃ (k : Nat), fr.clean = ⟨9, [x, .tup [], .bool false, .ptr st.bs.length 0 0, hd, .int .i64 (i : Nat), v6, gotsD (badS h.length), .int .i64 (k : Nat)], []⟩ ∧ st' = (enterSt .ro st).push (.mem 0 false (decC [] ([] ++ (h ++ j)))) ∧ k + m = h.length) h.length ⟨0, rfl, rfl, by omega⟩ ?_
      rintro m fr st' ⟨k, hfr, rfl, hkm⟩
      rw [hfr]
      try change EvC _ _ _ _ _
      repeat refine EvC.seq ?_
      try generalize hK : SeqQ _ _ _ = K
      refine EvC.reg ?_
      (first | refine EvO.T rfl rfl rfl rfl ?_ | refine EvO.L rfl rfl rfl rfl ?_ | refine EvO.N rfl rfl rfl ?_ | refine EvO.offT rfl rfl ?_ | refine EvO.offL rfl rfl ?_)
      (first | refine EvO.T rfl rfl rfl rfl ?_ | refine EvO.L rfl rfl rfl rfl ?_ | refine EvO.N rfl rfl rfl ?_ | refine EvO.offT rfl rfl ?_ | refine EvO.offL rfl rfl ?_)
      refine EvO.len rfl rfl rfl (hR _) rfl ?_
      rw [hRl]
      repeat (first | refine EvO.T rfl rfl rfl rfl ?_ | refine EvO.L rfl rfl rfl rfl ?_ | refine EvO.N rfl rfl rfl ?_ | refine EvO.offT rfl rfl ?_ | refine EvO.offL rfl rfl ?_)
      refine EvO.nil ?_
      dsimp only [Fr.putO, Fr.put, Fr.clean, Fr.ev, Fr.get, nth, Go.V.look, List.set_cons_succ, List.set_cons_zero, ofVal_int, ofVal_bool, ofVal_str, ofVal_nul, ofVal_pnil, ofVal_nilfn, ofVal_nilif, List.length, List.cons_append, List.nil_append, List.append_nil, Nat.reduceSub, Nat.reduceAdd, List.map, List.map_cons, List.map_nil]
      try subst hK
      try change EvC _ _ _ _ _
      try change EvC _ _ _ _ _
      repeat refine EvC.seq ?_
      refine EvC.cond rfl (fun h6 => ?_) (fun h6 => ?_) <;> try simp only [decide_eq_true_eq, decide_eq_false_iff_not, beq_iff_eq, beq_eq_false_iff_ne, bne_iff_ne, bne_eq_false_iff_eq, ne_eq, Bool.not_eq_true', Bool.not_eq_false', Bool.not_eq_true, Bool.not_eq_false] at h6
      · refine EvC.skip ?_
        try change EvC _ _ _ _ _
        have hr : ((badS h.length).map gotC)[k]? = some (gotC (65533, 1)) := by
          rw [List.getElem?_map, badS, List.getElem?_replicate, if_pos (by omega)]; rfl
        try change EvC _ _ _ _ _
        repeat refine EvC.seq ?_
        refine EvC.block ?_
        try change EvC _ _ _ _ _
        repeat refine EvC.seq ?_
        try generalize hK : SeqQ _ _ _ = K
        refine EvC.reg ?_
        (first | refine EvO.T rfl rfl rfl rfl ?_ | refine EvO.L rfl rfl rfl rfl ?_ | refine EvO.N rfl rfl rfl ?_ | refine EvO.offT rfl rfl ?_ | refine EvO.offL rfl rfl ?_)
        (first | refine EvO.T rfl rfl rfl rfl ?_ | refine EvO.L rfl rfl rfl rfl ?_ | refine EvO.N rfl rfl rfl ?_ | refine EvO.offT rfl rfl ?_ | refine EvO.offL rfl rfl ?_)
        refine EvO.idxLoad rfl rfl rfl (fun _ => rfl) rfl rfl (hR _) rfl rfl (by omega) hr (d := .agg (gotC (65533, 1))) rfl (fun p => ?_)
        refine EvO.T rfl rfl rfl (d := .agg (gotC (65533, 1))) (st1 := (enterSt .ro st).push (.mem 0 false (decC [] ([] ++ (h ++ j))))) rfl ?_
        refine EvO.T rfl rfl rfl (d := .bool false) (st1 := (enterSt .ro st).push (.mem 0 false (decC [] ([] ++ (h ++ j))))) rfl ?_
        refine EvO.nil ?_
        dsimp only [Fr.putO, Fr.put, Fr.clean, Fr.ev, Fr.get, nth, Go.V.look, List.set_cons_succ, List.set_cons_zero, ofVal_int, ofVal_bool, ofVal_str, ofVal_nul, ofVal_pnil, ofVal_nilfn, ofVal_nilif, List.length, List.cons_append, List.nil_append, List.append_nil, Nat.reduceSub, Nat.reduceAdd, List.map, List.map_cons, List.map_nil]
        try subst hK
        try change EvC _ _ _ _ _
        try change EvC _ _ _ _ _
        repeat refine EvC.seq ?_
        refine EvC.cond (v := false) rfl (fun h => by cases h) fun _ => ?_
        try change EvC _ _ _ _ _
        refine EvC.skip ?_
        change EvC _ _ _ _ _
        try change EvC _ _ _ _ _
        repeat refine EvC.seq ?_
        try generalize hK : SeqQ _ _ _ = K
        refine EvC.reg ?_
        repeat (first | refine EvO.T rfl rfl rfl rfl ?_ | refine EvO.L rfl rfl rfl rfl ?_ | refine EvO.N rfl rfl rfl ?_ | refine EvO.offT rfl rfl ?_ | refine EvO.offL rfl rfl ?_)
        refine EvO.nil ?_
        dsimp only [Fr.putO, Fr.put, Fr.clean, Fr.ev, Fr.get, nth, Go.V.look, List.set_cons_succ, List.set_cons_zero, ofVal_int, ofVal_bool, ofVal_str, ofVal_nul, ofVal_pnil, ofVal_nilfn, ofVal_nilif, List.length, List.cons_append, List.nil_append, List.append_nil, Nat.reduceSub, Nat.reduceAdd, List.map, List.map_cons, List.map_nil]
        try subst hK
        try change EvC _ _ _ _ _
        rw [wrap_i64 (by omega) (by omega)]
        exact ⟨m - 1, by omega, k + 1, rfl, rfl, by omega⟩
      · refine EvC.exit ?_
        try change EvC _ _ _ _ _
        repeat refine EvC.seq ?_
        try generalize hK : SeqQ _ _ _ = K
        refine EvC.reg ?_
        refine EvO.callT rfl rfl rfl (Ev.prim rfl rfl) ?_
        repeat (first | refine EvO.T rfl rfl rfl rfl ?_ | refine EvO.L rfl rfl rfl rfl ?_ | refine EvO.N rfl rfl rfl ?_ | refine EvO.offT rfl rfl ?_ | refine EvO.offL rfl rfl ?_)
        refine EvO.nil ?_
        dsimp only [Fr.putO, Fr.put, Fr.clean, Fr.ev, Fr.get, nth, Go.V.look, List.set_cons_succ, List.set_cons_zero, ofVal_int, ofVal_bool, ofVal_str, ofVal_nul, ofVal_pnil, ofVal_nilfn, ofVal_nilif, List.length, List.cons_append, List.nil_append, List.append_nil, Nat.reduceSub, Nat.reduceAdd, List.map, List.map_cons, List.map_nil]
        try subst hK
        try change EvC _ _ _ _ _
        have hex9 := hxx (.mem 0 false (decC [] ([] ++ (h ++ j))))
        exact EvC.ret ⟨fun i h => (by cases h), _, rfl, leave_same (by simp) (hex9.take rfl) rfl⟩
    by_cases h5 : i < b.length
    · try change EvC _ _ _ _ _
      repeat refine EvC.seq ?_
      try generalize hK : SeqQ _ _ _ = K
      refine EvC.reg ?_
      (first | refine EvO.T rfl rfl rfl rfl ?_ | refine EvO.L rfl rfl rfl rfl ?_ | refine EvO.N rfl rfl rfl ?_ | refine EvO.offT rfl rfl ?_ | refine EvO.offL rfl rfl ?_)
      (first | refine EvO.T rfl rfl rfl rfl ?_ | refine EvO.L rfl rfl rfl rfl ?_ | refine EvO.N rfl rfl rfl ?_ | refine EvO.offT rfl rfl ?_ | refine EvO.offL rfl rfl ?_)
      refine EvO.len rfl rfl rfl (hb2 _) rfl ?_
      rw [hbl]
      repeat (first | refine EvO.T rfl rfl rfl rfl ?_ | refine EvO.L rfl rfl rfl rfl ?_ | refine EvO.N rfl rfl rfl ?_ | refine EvO.offT rfl rfl ?_ | refine EvO.offL rfl rfl ?_ | simp (disch := omega) only [decide_eq_true, decide_eq_false, beq_yes, beq_no, bne_yes, bne_no])
      refine EvO.nil ?_
      dsimp only [Fr.putO, Fr.put, Fr.clean, Fr.ev, Fr.get, nth, Go.V.look, List.set_cons_succ, List.set_cons_zero, ofVal_int, ofVal_bool, ofVal_str, ofVal_nul, ofVal_pnil, ofVal_nilfn, ofVal_nilif, List.length, List.cons_append, List.nil_append, List.append_nil, Nat.reduceSub, Nat.reduceAdd, List.map, List.map_cons, List.map_nil]
      try subst hK
      try change EvC _ _ _ _ _
      try change EvC _ _ _ _ _
      repeat refine EvC.seq ?_
      refine EvC.cond (v := false) rfl (fun h => by cases h) fun _ => ?_
      try change EvC _ _ _ _ _
      refine EvC.exit ?_
      exact H _
    · try change EvC _ _ _ _ _
      repeat refine EvC.seq ?_
      try generalize hK : SeqQ _ _ _ = K
      refine EvC.reg ?_
      (first | refine EvO.T rfl rfl rfl rfl ?_ | refine EvO.L rfl rfl rfl rfl ?_ | refine EvO.N rfl rfl rfl ?_ | refine EvO.offT rfl rfl ?_ | refine EvO.offL rfl rfl ?_)
      (first | refine EvO.T rfl rfl rfl rfl ?_ | refine EvO.L rfl rfl rfl rfl ?_ | refine EvO.N rfl rfl rfl ?_ | refine EvO.offT rfl rfl ?_ | refine EvO.offL rfl rfl ?_)
      refine EvO.len rfl rfl rfl (hb2 _) rfl ?_
      rw [hbl]
      repeat (first | refine EvO.T rfl rfl rfl rfl ?_ | refine EvO.L rfl rfl rfl rfl ?_ | refine EvO.N rfl rfl rfl ?_ | refine EvO.offT rfl rfl ?_ | refine EvO.offL rfl rfl ?_ | simp (disch := omega) only [decide_eq_true, decide_eq_false, beq_yes, beq_no, bne_yes, bne_no])
      refine EvO.nil ?_
      dsimp only [Fr.putO, Fr.put, Fr.clean, Fr.ev, Fr.get, nth, Go.V.look, List.set_cons_succ, List.set_cons_zero, ofVal_int, ofVal_bool, ofVal_str, ofVal_nul, ofVal_pnil, ofVal_nilfn, ofVal_nilif, List.length, List.cons_append, List.nil_append, List.append_nil, Nat.reduceSub, Nat.reduceAdd, List.map, List.map_cons, List.map_nil]
      try subst hK
      try change EvC _ _ _ _ _
      try change EvC _ _ _ _ _
      repeat refine EvC.seq ?_
      refine EvC.cond (v := false) rfl (fun h => by cases h) fun _ => ?_
      try change EvC _ _ _ _ _
      refine EvC.exit ?_
      exact H _

theorem own : ownKnob Try.prog.godebug = none := by kernel_rfl
theorem laidOut : laidOutB Try.prog = true := by kernel_rfl

theorem lifted (os : Os) (started : os.Started) (H : Type) (enc : TypeId × Value → H) (F : Stop.Interp) :
    ReturnsInHanded {} Try.checked os 7 .any ((Rows.OpenSpec.upto Rows.utfStepsSpec).pre6 enc Try.prog Try.f7 Rows.utfStepsUptoRow.domain false) (((Rows.OpenSpec.upto Rows.utfStepsSpec).at F).post enc Try.prog Try.f7 false true false false) := by
  refine returnsInHanded_of_cond (C := Try.checked) (s := Rows.OpenSpec.upto Rows.utfStepsSpec) (k := Rows.uptoSmall) rfl own started (by kernel_rfl) Try.func7
    (OpenSpec.witness (enc := enc) (C := Try.checked) (s := Rows.OpenSpec.upto Rows.utfStepsSpec) (k := Rows.uptoSmall) rfl false ⟨#[], #[.slice none 0 0], []⟩ 8 (by kernel_rfl) (by kernel_rfl) (by kernel_rfl)
      (x := ([.nil], [], [])) (by kernel_rfl) rfl (by kernel_rfl)) ?_
  intro W base args ds gs before hval hW _ hk _
  have hW' := hW
  obtain ⟨p, q, hA0, hV, rfl, hfz, hnd⟩ := hW
  have hA : DataW.TrodAll enc Try.prog W 0 (fun _ => true) true Try.f7.params.toList args.toList ds p := hA0
  rw [Try.params7] at hA hval
  obtain ⟨v0, vs0, d0, ds0, p0, q0, hargs, rfl, rfl, h0, r0⟩ := trodAll_cons hA
  obtain ⟨rfl, rfl, rfl⟩ := trodAll_nil r0
  obtain rfl : args = #[v0] := by cases args; simp_all
  obtain ⟨rfl, rfl⟩ := trodVars_none hV
  simp only [Rows.uptoSmall, List.append_nil, List.nil_append, List.singleton_append, List.cons_append, decide_eq_true_eq, Rows.uptoBulkAll] at hk
  have i0 := trod_ir h0 (n := 12) (by kernel_rfl) (hval 0 29 v0 rfl rfl)
  have k0 := h0
  have lt0 : ∀ x ∈ p0, x.block < W.heap.size := by obtain ⟨m, hm⟩ := k0; exact DataW.trod_lt m _ _ _ hm
  obtain ⟨b0, hb0, hs0⟩ := arg_bytes h0 Try.underlying29 Try.underlying5
  have l0 : b0.length ≤ Rows.uptoBulk d0 := by rcases hs0 with ⟨rfl, rfl⟩ | ⟨es, rest, rfl, he⟩ <;> simp only [Rows.uptoBulk, List.length_nil] <;> first | omega | (have := bulk_len es; omega)
  have hlaw : Ev pv 7 [dval d0] ⟨[], 0, 0⟩ (.bool true) ⟨[], 0, 0⟩ := by
    exact law (hb0 _) (by omega)
  have hir : ∀ (i : Nat) c v, [dval d0][i]? = some c → [v0][i]? = some v → IR W (fun b => b < W.heap.size) c v := by
    intro i c v hc hv
    match i, hc, hv with
    | 0, hc, hv => cases hc; cases hv; exact i0
  clear hA0
  refine (law_calls view hlaw (us := [v0]) rfl hir).mono fun e W' ⟨he, bel⟩ => ?_
  subst he
  exact ⟨_, rfl, _, _, _, [], _, [], hW', trodAll_mk1 (shut_bool Try.underlying4 _), (trodAll_cons_mk (Below.trod laidOut (by kernel_rfl) (of_decide_eq_true (by kernel_rfl)) k0 bel lt0) trodAll_mk0), rfl, bel.frame _, fun h => by cases h⟩

theorem proved : Rows.UtfStepsUptoSaid :=
  OpenClaim.holds_of_cond 7 Try.f7 rfl rfl rfl rfl rfl rfl rfl ⟨rfl, rfl, rfl, rfl, rfl⟩ rfl rfl rfl rfl rfl (by kernel_rfl) Try.func7 (by kernel_rfl)
    (of_decide_eq_true (by kernel_rfl)) (by unfold Func.isWrapper; first | (rw [if_pos (by decide +kernel)]; kernel_rfl) | (rw [if_neg (by decide +kernel)]; exact ⟨rfl, rfl⟩))
    (fun os started H enc _ F => lifted os started H enc F)
end Go.Proofs.Ytlljdbhefepheaa.utfSteps
#print axioms Go.Proofs.Ytlljdbhefepheaa.utfSteps.proved
