/- UtfGo, for arguments of bulk at most 1048576: it answers true. -/
import Derived.Test.YtlljdbhefepheaaUi
import Derived.Test.YtlljdbhefepheaaWd
import Derived.Test.YtlljdbhefepheaaRows
import Derived.Test.YtlljdbhefepheaaBulk
import Derived.WalkKit
import Derived.ProofKit
import Derived.OpenShut
import Derived.JoinedCond
import Derived.ChangeOld
namespace Go.Proofs.Ytlljdbhefepheaa.utfGo
open Go.ChangeShapes Go.WideShapes Go.ChangeAt Go.RowKit Go.V
set_option maxRecDepth 100000
set_option maxHeartbeats 4000000
set_option linter.unusedSimpArgs false
set_option linter.unusedVariables false

theorem law {st : St} (b : List UInt8) (hlen : b.length ≤ 1048576) : Ev pv 5 [.str b] st (.bool true) st := by
  refine Ev.mk1 rfl fi5 rfl rfl rfl ?_
  dsimp only [List.cons_append, List.nil_append, List.length, Nat.reduceSub, Nat.reduceAdd, List.replicate_succ, List.replicate_zero]
  try change EvC _ _ _ _ _
  repeat refine EvC.seq ?_
  try generalize hK : SeqQ _ _ _ = K
  refine EvC.reg ?_
  repeat (first | refine EvO.T rfl rfl rfl rfl ?_ | refine EvO.L rfl rfl rfl rfl ?_ | refine EvO.N rfl rfl rfl ?_ | refine EvO.offT rfl rfl ?_ | refine EvO.offL rfl rfl ?_)
  refine EvO.nil ?_
  dsimp only [Fr.putO, Fr.put, Fr.clean, Fr.ev, Fr.get, nth, Go.V.look, List.set_cons_succ, List.set_cons_zero, ofVal_int, ofVal_bool, ofVal_str, ofVal_nul, ofVal_pnil, ofVal_nilfn, ofVal_nilif, List.length, List.cons_append, List.nil_append, List.append_nil, Nat.reduceSub, Nat.reduceAdd, List.map, List.map_cons, List.map_nil]
  try subst hK
  try change EvC _ _ _ _ _
  generalize hS1 : (enterSt .ro st).push (.mem 0 true (b.map u8D)) = S1
  have hex1 : Ex st.bs.length (enterSt .ro st) S1 := by subst hS1; exact Ex.push (st := enterSt .ro st) (Nat.le_refl _) _
  have hb1 : Bytes S1 (.win st.bs.length 0 0 b.length 1) b := by subst hS1; exact bytes_win (push_at (enterSt .ro st) _)
  have hG := fun st => gots_rows st (allS b)
  try change EvC _ _ _ _ _
  repeat refine EvC.seq ?_
  try generalize hK : SeqQ _ _ _ = K
  refine EvC.reg ?_
  (first | refine EvO.T rfl rfl rfl rfl ?_ | refine EvO.L rfl rfl rfl rfl ?_ | refine EvO.N rfl rfl rfl ?_ | refine EvO.offT rfl rfl ?_ | refine EvO.offL rfl rfl ?_)
  refine EvO.convBytesL rfl rfl rfl rfl rfl rfl (by omega) ?_
  refine EvO.callL rfl rfl rfl (d := gotsD (allS b)) (st1 := S1) (by subst hS1; exact all_ev hb1 hlen) ?_
  repeat (first | refine EvO.T rfl rfl rfl rfl ?_ | refine EvO.L rfl rfl rfl rfl ?_ | refine EvO.N rfl rfl rfl ?_ | refine EvO.offT rfl rfl ?_ | refine EvO.offL rfl rfl ?_)
  refine EvO.nil ?_
  dsimp only [Fr.putO, Fr.put, Fr.clean, Fr.ev, Fr.get, nth, Go.V.look, List.set_cons_succ, List.set_cons_zero, ofVal_int, ofVal_bool, ofVal_str, ofVal_nul, ofVal_pnil, ofVal_nilfn, ofVal_nilif, List.length, List.cons_append, List.nil_append, List.append_nil, Nat.reduceSub, Nat.reduceAdd, List.map, List.map_cons, List.map_nil]
  try subst hK
  try change EvC _ _ _ _ _
  try change EvC _ _ _ _ _
  repeat refine EvC.seq ?_
  try generalize hK : SeqQ _ _ _ = K
  refine EvC.reg ?_
  repeat (first | refine EvO.T rfl rfl rfl rfl ?_ | refine EvO.L rfl rfl rfl rfl ?_ | refine EvO.N rfl rfl rfl ?_ | refine EvO.offT rfl rfl ?_ | refine EvO.offL rfl rfl ?_)
  refine EvO.nil ?_
  dsimp only [Fr.putO, Fr.put, Fr.clean, Fr.ev, Fr.get, nth, Go.V.look, List.set_cons_succ, List.set_cons_zero, ofVal_int, ofVal_bool, ofVal_str, ofVal_nul, ofVal_pnil, ofVal_nilfn, ofVal_nilif, List.length, List.cons_append, List.nil_append, List.append_nil, Nat.reduceSub, Nat.reduceAdd, List.map, List.map_cons, List.map_nil]
  try subst hK
  try change EvC _ _ _ _ _
  have hfl : S1.flr = st.bs.length := by rw [hex1.flr]; rfl
  have hro : S1.ro = st.bs.length := by rw [hex1.ro]; rfl
  have hNS : st.bs.length ≤ S1.bs.length := hex1.len
  generalize hL : allS b = L at *
  try change EvC _ _ _ _ _
  repeat refine EvC.seq ?_
  try generalize hK : SeqQ _ _ _ = K
  refine EvC.reg ?_
  repeat (first | refine EvO.T rfl rfl rfl rfl ?_ | refine EvO.L rfl rfl rfl rfl ?_ | refine EvO.N rfl rfl rfl ?_ | refine EvO.offT rfl rfl ?_ | refine EvO.offL rfl rfl ?_)
  refine EvO.nil ?_
  dsimp only [Fr.putO, Fr.put, Fr.clean, Fr.ev, Fr.get, nth, Go.V.look, List.set_cons_succ, List.set_cons_zero, ofVal_int, ofVal_bool, ofVal_str, ofVal_nul, ofVal_pnil, ofVal_nilfn, ofVal_nilif, List.length, List.cons_append, List.nil_append, List.append_nil, Nat.reduceSub, Nat.reduceAdd, List.map, List.map_cons, List.map_nil]
  try subst hK
  try change EvC _ _ _ _ _
  try change EvC _ _ _ _ _
  repeat refine EvC.seq ?_
  refine EvC.block ?_
  refine EvC.loop (fun j fr st' => ∃ (k pos : Nat) (v6 v7 v8 v9 v10 v11 v13 : D), fr.clean = ⟨14, [.str b, .tup [], .bool false, gotsD L, .int .i64 (k : Nat), .int .i64 (pos : Nat), v6, v7, v8, v9, v10, v11, .ptr S1.bs.length 0 0, v13], []⟩ ∧ st' = S1.push (.iter b pos) ∧ L.drop k = allS (b.drop pos) ∧ k ≤ L.length ∧ pos ≤ b.length ∧ j = b.length - pos) b.length
    ⟨0, 0, _, _, _, _, _, _, _, rfl, rfl, by rw [List.drop_zero, List.drop_zero, hL], by omega, by omega, by omega⟩ ?_
  rintro j fr st' ⟨k, pos, v6, v7, v8, v9, v10, v11, v13, hfr, rfl, hd, hkl, hpl, rfl⟩
  rw [hfr]
  have hpush := push_at S1 (.iter b pos)
  by_cases hp : pos < b.length
  · have hdec := decode_one b pos hp
    have hne : b.drop pos ≠ [] := by intro h; have := congrArg List.length h; simp at this; omega
    rw [allS_cons hne] at hd
    generalize hg : oneS (b.drop pos) = g at *
    have hgp := oneS_pos (b.drop pos)
    have hgl := oneS_le hne
    rw [hg] at hgp hgl
    rw [List.length_drop] at hgl
    have hk : k < L.length := by
      rcases Nat.lt_or_ge k L.length with h' | h'
      · exact h'
      · rw [List.drop_eq_nil_of_le h'] at hd; cases hd
    have hLk : L[k]? = some g := by
      have := congrArg (fun l => l[0]?) hd
      simpa using this
    have hr : (L.map gotC)[k]? = some (gotC g) := by rw [List.getElem?_map, hLk]; rfl
    have hd2 : L.drop (k + 1) = allS (b.drop (pos + g.2)) := by
      have := congrArg (fun l => l.drop 1) hd
      simpa [List.drop_drop] using this
    have hg4 : g.2 ≤ 4 := by
      rw [← hg]; unfold oneS; split
      · simp
      · rename_i hz
        obtain ⟨c, xs, hcx⟩ : ∃ c xs, b.drop pos = c :: xs := by cases h : b.drop pos with | nil => exact absurd h hne | cons c xs => exact ⟨c, xs, rfl⟩
        have := needS_le c.toNat
        rw [hcx, first_all] at hz ⊢
        by_cases h1 : needS c.toNat = 0
        · simp [h1]
        · rw [if_neg h1]
          split
          · split <;> simp <;> omega
          · simp
    try change EvC _ _ _ _ _
    repeat refine EvC.seq ?_
    try generalize hK : SeqQ _ _ _ = K
    refine EvC.reg ?_
    refine EvO.nextL rfl rfl rfl hpush hp (canW_own (N := st.bs.length) hNS (by show S1.flr ≤ _; omega) (by show S1.ro ≤ _; omega)) ?_
    rw [hdec, push_set rfl]
    repeat (first | refine EvO.T rfl rfl rfl rfl ?_ | refine EvO.L rfl rfl rfl rfl ?_ | refine EvO.N rfl rfl rfl ?_ | refine EvO.offT rfl rfl ?_ | refine EvO.offL rfl rfl ?_)
    refine EvO.nil ?_
    dsimp only [Fr.putO, Fr.put, Fr.clean, Fr.ev, Fr.get, nth, Go.V.look, List.set_cons_succ, List.set_cons_zero, ofVal_int, ofVal_bool, ofVal_str, ofVal_nul, ofVal_pnil, ofVal_nilfn, ofVal_nilif, List.length, List.cons_append, List.nil_append, List.append_nil, Nat.reduceSub, Nat.reduceAdd, List.map, List.map_cons, List.map_nil]
    try subst hK
    try change EvC _ _ _ _ _
    try change EvC _ _ _ _ _
    repeat refine EvC.seq ?_
    refine EvC.cond (v := true) rfl (fun _ => ?_) (fun h => by cases h)
    try change EvC _ _ _ _ _
    refine EvC.skip ?_
    try change EvC _ _ _ _ _
    try change EvC _ _ _ _ _
    repeat refine EvC.seq ?_
    refine EvC.block ?_
    try change EvC _ _ _ _ _
    repeat refine EvC.seq ?_
    try generalize hK : SeqQ _ _ _ = K
    refine EvC.reg ?_
    repeat (first | refine EvO.T rfl rfl rfl rfl ?_ | refine EvO.L rfl rfl rfl rfl ?_ | refine EvO.N rfl rfl rfl ?_ | refine EvO.offT rfl rfl ?_ | refine EvO.offL rfl rfl ?_)
    refine EvO.nil ?_
    dsimp only [Fr.putO, Fr.put, Fr.clean, Fr.ev, Fr.get, nth, Go.V.look, List.set_cons_succ, List.set_cons_zero, ofVal_int, ofVal_bool, ofVal_str, ofVal_nul, ofVal_pnil, ofVal_nilfn, ofVal_nilif, List.length, List.cons_append, List.nil_append, List.append_nil, Nat.reduceSub, Nat.reduceAdd, List.map, List.map_cons, List.map_nil]
    try subst hK
    try change EvC _ _ _ _ _
    have hR := hG (S1.push (.iter b (pos + g.2)))
    try change EvC _ _ _ _ _
    repeat refine EvC.seq ?_
    try generalize hK : SeqQ _ _ _ = K
    refine EvC.reg ?_
    (first | refine EvO.T rfl rfl rfl rfl ?_ | refine EvO.L rfl rfl rfl rfl ?_ | refine EvO.N rfl rfl rfl ?_ | refine EvO.offT rfl rfl ?_ | refine EvO.offL rfl rfl ?_)
    (first | refine EvO.T rfl rfl rfl rfl ?_ | refine EvO.L rfl rfl rfl rfl ?_ | refine EvO.N rfl rfl rfl ?_ | refine EvO.offT rfl rfl ?_ | refine EvO.offL rfl rfl ?_)
    refine EvO.len rfl rfl rfl hR rfl ?_
    rw [List.length_map]
    (first | refine EvO.T rfl rfl rfl rfl ?_ | refine EvO.L rfl rfl rfl rfl ?_ | refine EvO.N rfl rfl rfl ?_ | refine EvO.offT rfl rfl ?_ | refine EvO.offL rfl rfl ?_)
    simp (disch := omega) only [decide_eq_true, decide_eq_false, beq_yes, beq_no, bne_yes, bne_no]
    (first | refine EvO.T rfl rfl rfl rfl ?_ | refine EvO.L rfl rfl rfl rfl ?_ | refine EvO.N rfl rfl rfl ?_ | refine EvO.offT rfl rfl ?_ | refine EvO.offL rfl rfl ?_)
    (first | refine EvO.T rfl rfl rfl rfl ?_ | refine EvO.L rfl rfl rfl rfl ?_ | refine EvO.N rfl rfl rfl ?_ | refine EvO.offT rfl rfl ?_ | refine EvO.offL rfl rfl ?_)
    (first | refine EvO.T rfl rfl rfl rfl ?_ | refine EvO.L rfl rfl rfl rfl ?_ | refine EvO.N rfl rfl rfl ?_ | refine EvO.offT rfl rfl ?_ | refine EvO.offL rfl rfl ?_)
    refine EvO.T rfl rfl rfl (d := .bool false) (st1 := S1.push (.iter b (pos + g.2))) ?_ ?_
    · show some (D.bool ((pos : Int) != (pos : Int)), _) = _
      simp
    (first | refine EvO.T rfl rfl rfl rfl ?_ | refine EvO.L rfl rfl rfl rfl ?_ | refine EvO.N rfl rfl rfl ?_ | refine EvO.offT rfl rfl ?_ | refine EvO.offL rfl rfl ?_)
    (first | refine EvO.T rfl rfl rfl rfl ?_ | refine EvO.L rfl rfl rfl rfl ?_ | refine EvO.N rfl rfl rfl ?_ | refine EvO.offT rfl rfl ?_ | refine EvO.offL rfl rfl ?_)
    (first | refine EvO.T rfl rfl rfl rfl ?_ | refine EvO.L rfl rfl rfl rfl ?_ | refine EvO.N rfl rfl rfl ?_ | refine EvO.offT rfl rfl ?_ | refine EvO.offL rfl rfl ?_)
    (first | refine EvO.T rfl rfl rfl rfl ?_ | refine EvO.L rfl rfl rfl rfl ?_ | refine EvO.N rfl rfl rfl ?_ | refine EvO.offT rfl rfl ?_ | refine EvO.offL rfl rfl ?_)
    refine EvO.idxField (f := 0) rfl rfl rfl rfl (fun _ => rfl) (fun _ _ => rfl) rfl rfl hR rfl rfl rfl rfl rfl (by decide) rfl (by decide) (by omega) hr (d := .int .i32 (g.1 : Nat)) rfl fun p p' => ?_
    (first | refine EvO.T rfl rfl rfl rfl ?_ | refine EvO.L rfl rfl rfl rfl ?_ | refine EvO.N rfl rfl rfl ?_ | refine EvO.offT rfl rfl ?_ | refine EvO.offL rfl rfl ?_)
    refine EvO.T rfl rfl rfl (d := .bool false) (st1 := S1.push (.iter b (pos + g.2))) ?_ ?_
    · show some (D.bool ((g.1 : Int) != (g.1 : Int)), _) = _
      simp
    (first | refine EvO.T rfl rfl rfl rfl ?_ | refine EvO.L rfl rfl rfl rfl ?_ | refine EvO.N rfl rfl rfl ?_ | refine EvO.offT rfl rfl ?_ | refine EvO.offL rfl rfl ?_)
    (first | refine EvO.T rfl rfl rfl rfl ?_ | refine EvO.L rfl rfl rfl rfl ?_ | refine EvO.N rfl rfl rfl ?_ | refine EvO.offT rfl rfl ?_ | refine EvO.offL rfl rfl ?_)
    (first | refine EvO.T rfl rfl rfl rfl ?_ | refine EvO.L rfl rfl rfl rfl ?_ | refine EvO.N rfl rfl rfl ?_ | refine EvO.offT rfl rfl ?_ | refine EvO.offL rfl rfl ?_)
    (first | refine EvO.T rfl rfl rfl rfl ?_ | refine EvO.L rfl rfl rfl rfl ?_ | refine EvO.N rfl rfl rfl ?_ | refine EvO.offT rfl rfl ?_ | refine EvO.offL rfl rfl ?_)
    refine EvO.idxField (f := 1) rfl rfl rfl rfl (fun _ => rfl) (fun _ _ => rfl) rfl rfl hR rfl rfl rfl rfl rfl (by decide) rfl (by decide) (by omega) hr (d := .int .i64 (g.2 : Nat)) rfl fun p p' => ?_
    (first | refine EvO.T rfl rfl rfl rfl ?_ | refine EvO.L rfl rfl rfl rfl ?_ | refine EvO.N rfl rfl rfl ?_ | refine EvO.offT rfl rfl ?_ | refine EvO.offL rfl rfl ?_)
    simp (disch := omega) only [decide_eq_true, decide_eq_false, beq_yes, beq_no, bne_yes, bne_no]
    (first | refine EvO.T rfl rfl rfl rfl ?_ | refine EvO.L rfl rfl rfl rfl ?_ | refine EvO.N rfl rfl rfl ?_ | refine EvO.offT rfl rfl ?_ | refine EvO.offL rfl rfl ?_)
    (first | refine EvO.T rfl rfl rfl rfl ?_ | refine EvO.L rfl rfl rfl rfl ?_ | refine EvO.N rfl rfl rfl ?_ | refine EvO.offT rfl rfl ?_ | refine EvO.offL rfl rfl ?_)
    (first | refine EvO.T rfl rfl rfl rfl ?_ | refine EvO.L rfl rfl rfl rfl ?_ | refine EvO.N rfl rfl rfl ?_ | refine EvO.offT rfl rfl ?_ | refine EvO.offL rfl rfl ?_)
    (first | refine EvO.T rfl rfl rfl rfl ?_ | refine EvO.L rfl rfl rfl rfl ?_ | refine EvO.N rfl rfl rfl ?_ | refine EvO.offT rfl rfl ?_ | refine EvO.offL rfl rfl ?_)
    refine EvO.idxField (f := 1) rfl rfl rfl rfl (fun _ => rfl) (fun _ _ => rfl) rfl rfl hR rfl rfl rfl rfl rfl (by decide) rfl (by decide) (by omega) hr (d := .int .i64 (g.2 : Nat)) rfl fun p p' => ?_
    (first | refine EvO.T rfl rfl rfl rfl ?_ | refine EvO.L rfl rfl rfl rfl ?_ | refine EvO.N rfl rfl rfl ?_ | refine EvO.offT rfl rfl ?_ | refine EvO.offL rfl rfl ?_)
    simp (disch := omega) only [decide_eq_true, decide_eq_false, beq_yes, beq_no, bne_yes, bne_no]
    repeat (first | refine EvO.T rfl rfl rfl rfl ?_ | refine EvO.L rfl rfl rfl rfl ?_ | refine EvO.N rfl rfl rfl ?_ | refine EvO.offT rfl rfl ?_ | refine EvO.offL rfl rfl ?_)
    refine EvO.nil ?_
    dsimp only [Fr.putO, Fr.put, Fr.clean, Fr.ev, Fr.get, nth, Go.V.look, List.set_cons_succ, List.set_cons_zero, ofVal_int, ofVal_bool, ofVal_str, ofVal_nul, ofVal_pnil, ofVal_nilfn, ofVal_nilif, List.length, List.cons_append, List.nil_append, List.append_nil, Nat.reduceSub, Nat.reduceAdd, List.map, List.map_cons, List.map_nil]
    try subst hK
    try change EvC _ _ _ _ _
    try change EvC _ _ _ _ _
    repeat refine EvC.seq ?_
    refine EvC.cond (v := false) rfl (fun h => by cases h) fun _ => ?_
    try change EvC _ _ _ _ _
    refine EvC.skip ?_
    try change EvC _ _ _ _ _
    try change EvC _ _ _ _ _
    repeat refine EvC.seq ?_
    try generalize hK : SeqQ _ _ _ = K
    refine EvC.reg ?_
    (first | refine EvO.T rfl rfl rfl rfl ?_ | refine EvO.L rfl rfl rfl rfl ?_ | refine EvO.N rfl rfl rfl ?_ | refine EvO.offT rfl rfl ?_ | refine EvO.offL rfl rfl ?_)
    (first | refine EvO.T rfl rfl rfl rfl ?_ | refine EvO.L rfl rfl rfl rfl ?_ | refine EvO.N rfl rfl rfl ?_ | refine EvO.offT rfl rfl ?_ | refine EvO.offL rfl rfl ?_)
    (first | refine EvO.T rfl rfl rfl rfl ?_ | refine EvO.L rfl rfl rfl rfl ?_ | refine EvO.N rfl rfl rfl ?_ | refine EvO.offT rfl rfl ?_ | refine EvO.offL rfl rfl ?_)
    refine EvO.idxField (f := 1) rfl rfl rfl rfl (fun _ => rfl) (fun _ _ => rfl) rfl rfl hR rfl rfl rfl rfl rfl (by decide) rfl (by decide) (by omega) hr (d := .int .i64 (g.2 : Nat)) rfl fun p p' => ?_
    repeat (first | refine EvO.T rfl rfl rfl rfl ?_ | refine EvO.L rfl rfl rfl rfl ?_ | refine EvO.N rfl rfl rfl ?_ | refine EvO.offT rfl rfl ?_ | refine EvO.offL rfl rfl ?_)
    refine EvO.nil ?_
    dsimp only [Fr.putO, Fr.put, Fr.clean, Fr.ev, Fr.get, nth, Go.V.look, List.set_cons_succ, List.set_cons_zero, ofVal_int, ofVal_bool, ofVal_str, ofVal_nul, ofVal_pnil, ofVal_nilfn, ofVal_nilif, List.length, List.cons_append, List.nil_append, List.append_nil, Nat.reduceSub, Nat.reduceAdd, List.map, List.map_cons, List.map_nil]
    try subst hK
    try change EvC _ _ _ _ _
    try change EvC _ _ _ _ _
    repeat refine EvC.seq ?_
    try generalize hK : SeqQ _ _ _ = K
    refine EvC.reg ?_
    repeat (first | refine EvO.T rfl rfl rfl rfl ?_ | refine EvO.L rfl rfl rfl rfl ?_ | refine EvO.N rfl rfl rfl ?_ | refine EvO.offT rfl rfl ?_ | refine EvO.offL rfl rfl ?_)
    refine EvO.nil ?_
    dsimp only [Fr.putO, Fr.put, Fr.clean, Fr.ev, Fr.get, nth, Go.V.look, List.set_cons_succ, List.set_cons_zero, ofVal_int, ofVal_bool, ofVal_str, ofVal_nul, ofVal_pnil, ofVal_nilfn, ofVal_nilif, List.length, List.cons_append, List.nil_append, List.append_nil, Nat.reduceSub, Nat.reduceAdd, List.map, List.map_cons, List.map_nil]
    try subst hK
    try change EvC _ _ _ _ _
    have e1 : wrapD .i64 ((pos : Int) + (g.2 : Nat)) = ((pos + g.2 : Nat) : Int) := by rw [wrap_i64 (by omega) (by omega)]; rfl
    have e2 : wrapD .i64 ((k : Int) + 1) = ((k + 1 : Nat) : Int) := by
      have : L.length ≤ b.length := by
        rw [← hL]
        have key : ∀ n (b : List UInt8), (allF n b).length ≤ n := by
          intro n
          induction n with
          | zero => intro b; simp [allF]
          | succ n ih => intro b; cases b <;> simp [allF]; exact ih _
        exact key _ _
      rw [wrap_i64 (by omega) (by omega)]; rfl
    rw [e1, e2]
    refine ⟨b.length - (pos + g.2), by omega, k + 1, pos + g.2, _, _, _, _, _, _, _, rfl, rfl, hd2, by omega, by omega, rfl⟩
  · have hpe : pos = b.length := by omega
    subst hpe
    rw [List.drop_length, allS_nil] at hd
    have hk : k = L.length := by
      have := congrArg List.length hd
      simp at this; omega
    subst hk
    have hR := hG (S1.push (.iter b b.length))
    try change EvC _ _ _ _ _
    repeat refine EvC.seq ?_
    try generalize hK : SeqQ _ _ _ = K
    refine EvC.reg ?_
    refine EvO.nextEndL rfl rfl rfl hpush hp ?_
    repeat (first | refine EvO.T rfl rfl rfl rfl ?_ | refine EvO.L rfl rfl rfl rfl ?_ | refine EvO.N rfl rfl rfl ?_ | refine EvO.offT rfl rfl ?_ | refine EvO.offL rfl rfl ?_)
    refine EvO.nil ?_
    dsimp only [Fr.putO, Fr.put, Fr.clean, Fr.ev, Fr.get, nth, Go.V.look, List.set_cons_succ, List.set_cons_zero, ofVal_int, ofVal_bool, ofVal_str, ofVal_nul, ofVal_pnil, ofVal_nilfn, ofVal_nilif, List.length, List.cons_append, List.nil_append, List.append_nil, Nat.reduceSub, Nat.reduceAdd, List.map, List.map_cons, List.map_nil]
    try subst hK
    try change EvC _ _ _ _ _
    try change EvC _ _ _ _ _
    repeat refine EvC.seq ?_
    refine EvC.cond (v := false) rfl (fun h => by cases h) fun _ => ?_
    try change EvC _ _ _ _ _
    refine EvC.exit ?_
    try change EvC _ _ _ _ _
    repeat refine EvC.seq ?_
    try generalize hK : SeqQ _ _ _ = K
    refine EvC.reg ?_
    (first | refine EvO.T rfl rfl rfl rfl ?_ | refine EvO.L rfl rfl rfl rfl ?_ | refine EvO.N rfl rfl rfl ?_ | refine EvO.offT rfl rfl ?_ | refine EvO.offL rfl rfl ?_)
    (first | refine EvO.T rfl rfl rfl rfl ?_ | refine EvO.L rfl rfl rfl rfl ?_ | refine EvO.N rfl rfl rfl ?_ | refine EvO.offT rfl rfl ?_ | refine EvO.offL rfl rfl ?_)
    refine EvO.len rfl rfl rfl hR rfl ?_
    rw [List.length_map]
    refine EvO.T rfl rfl rfl (d := .bool true) (st1 := S1.push (.iter b b.length)) ?_ ?_
    · show some (D.bool ((L.length : Int) == (L.length : Int)), _) = _
      simp
    (first | refine EvO.T rfl rfl rfl rfl ?_ | refine EvO.L rfl rfl rfl rfl ?_ | refine EvO.N rfl rfl rfl ?_ | refine EvO.offT rfl rfl ?_ | refine EvO.offL rfl rfl ?_)
    (first | refine EvO.T rfl rfl rfl rfl ?_ | refine EvO.L rfl rfl rfl rfl ?_ | refine EvO.N rfl rfl rfl ?_ | refine EvO.offT rfl rfl ?_ | refine EvO.offL rfl rfl ?_)
    (first | refine EvO.T rfl rfl rfl rfl ?_ | refine EvO.L rfl rfl rfl rfl ?_ | refine EvO.N rfl rfl rfl ?_ | refine EvO.offT rfl rfl ?_ | refine EvO.offL rfl rfl ?_)
    refine EvO.lenS rfl rfl rfl rfl ?_
    refine EvO.T rfl rfl rfl (d := .bool true) (st1 := S1.push (.iter b b.length)) ?_ ?_
    · show some (D.bool ((b.length : Int) == (b.length : Int)), _) = _
      simp
    (first | refine EvO.T rfl rfl rfl rfl ?_ | refine EvO.L rfl rfl rfl rfl ?_ | refine EvO.N rfl rfl rfl ?_ | refine EvO.offT rfl rfl ?_ | refine EvO.offL rfl rfl ?_)
    (first | refine EvO.T rfl rfl rfl rfl ?_ | refine EvO.L rfl rfl rfl rfl ?_ | refine EvO.N rfl rfl rfl ?_ | refine EvO.offT rfl rfl ?_ | refine EvO.offL rfl rfl ?_)
    refine EvO.callT rfl rfl rfl (Ev.prim rfl rfl) ?_
    repeat (first | refine EvO.T rfl rfl rfl rfl ?_ | refine EvO.L rfl rfl rfl rfl ?_ | refine EvO.N rfl rfl rfl ?_ | refine EvO.offT rfl rfl ?_ | refine EvO.offL rfl rfl ?_)
    refine EvO.nil ?_
    dsimp only [Fr.putO, Fr.put, Fr.clean, Fr.ev, Fr.get, nth, Go.V.look, List.set_cons_succ, List.set_cons_zero, ofVal_int, ofVal_bool, ofVal_str, ofVal_nul, ofVal_pnil, ofVal_nilfn, ofVal_nilif, List.length, List.cons_append, List.nil_append, List.append_nil, Nat.reduceSub, Nat.reduceAdd, List.map, List.map_cons, List.map_nil]
    try subst hK
    try change EvC _ _ _ _ _
    have hex2 := hex1.trans (Ex.push hNS (.iter b b.length))
    refine EvC.ret ⟨fun i h => (by cases h), _, rfl, leave_same (by simp) (hex2.take rfl) rfl⟩

theorem own : ownKnob Try.prog.godebug = none := by kernel_rfl
theorem laidOut : laidOutB Try.prog = true := by kernel_rfl

theorem lifted (os : Os) (started : os.Started) (H : Type) (enc : TypeId × Value → H) (F : Stop.Interp) :
    ReturnsInHanded {} Try.checked os 5 .any ((Rows.OpenSpec.upto Rows.utfGoSpec).pre6 enc Try.prog Try.f5 Rows.utfGoUptoRow.domain false) (((Rows.OpenSpec.upto Rows.utfGoSpec).at F).post enc Try.prog Try.f5 false true false false) := by
  refine returnsInHanded_of_cond (C := Try.checked) (s := Rows.OpenSpec.upto Rows.utfGoSpec) (k := Rows.uptoSmall) rfl own started (by kernel_rfl) Try.func5
    (OpenSpec.witness (enc := enc) (C := Try.checked) (s := Rows.OpenSpec.upto Rows.utfGoSpec) (k := Rows.uptoSmall) rfl false ⟨#[], #[.string .empty], []⟩ 8 (by kernel_rfl) (by kernel_rfl) (by kernel_rfl)
      (x := ([.lit (.string [])], [], [])) (by kernel_rfl) rfl (by kernel_rfl)) ?_
  intro W base args ds gs before hval hW _ hk _
  have hW' := hW
  obtain ⟨p, q, hA0, hV, rfl, hfz, hnd⟩ := hW
  have hA : DataW.TrodAll enc Try.prog W 0 (fun _ => true) true Try.f5.params.toList args.toList ds p := hA0
  rw [Try.params5] at hA hval
  obtain ⟨v0, vs0, d0, ds0, p0, q0, hargs, rfl, rfl, h0, r0⟩ := trodAll_cons hA
  obtain ⟨rfl, rfl, rfl⟩ := trodAll_nil r0
  obtain rfl : args = #[v0] := by cases args; simp_all
  obtain ⟨rfl, rfl⟩ := trodVars_none hV
  simp only [Rows.uptoSmall, List.append_nil, List.nil_append, List.singleton_append, List.cons_append, decide_eq_true_eq, Rows.uptoBulkAll] at hk
  have i0 := trod_ir h0 (n := 12) (by kernel_rfl) (hval 0 9 v0 rfl rfl)
  have k0 := h0
  have lt0 : ∀ x ∈ p0, x.block < W.heap.size := by obtain ⟨m, hm⟩ := k0; exact DataW.trod_lt m _ _ _ hm
  obtain ⟨b0, hb0, hs0⟩ := arg_string h0 Try.underlying9
  have l0 : b0.length ≤ Rows.uptoBulk d0 := by rw [hs0]; simp only [Rows.uptoBulk]; omega
  have hlaw : Ev pv 5 [dval d0] ⟨[], 0, 0⟩ (.bool true) ⟨[], 0, 0⟩ := by
    rw [hb0]
    exact law b0 (by omega)
  have hir : ∀ (i : Nat) c v, [dval d0][i]? = some c → [v0][i]? = some v → IR W (fun b => b < W.heap.size) c v := by
    intro i c v hc hv
    match i, hc, hv with
    | 0, hc, hv => cases hc; cases hv; exact i0
  clear hA0
  refine (law_calls view hlaw (us := [v0]) rfl hir).mono fun e W' ⟨he, bel⟩ => ?_
  subst he
  exact ⟨_, rfl, _, _, _, [], _, [], hW', trodAll_mk1 (shut_bool Try.underlying4 _), (trodAll_cons_mk (Below.trod laidOut (by kernel_rfl) (of_decide_eq_true (by kernel_rfl)) k0 bel lt0) trodAll_mk0), rfl, bel.frame _, fun h => by cases h⟩

theorem proved : Rows.UtfGoUptoSaid :=
  OpenClaim.holds_of_cond 5 Try.f5 rfl rfl rfl rfl rfl rfl rfl ⟨rfl, rfl, rfl, rfl, rfl⟩ rfl rfl rfl rfl rfl (by kernel_rfl) Try.func5 (by kernel_rfl)
    (of_decide_eq_true (by kernel_rfl)) (by unfold Func.isWrapper; first | (rw [if_pos (by decide +kernel)]; kernel_rfl) | (rw [if_neg (by decide +kernel)]; exact ⟨rfl, rfl⟩))
    (fun os started H enc _ F => lifted os started H enc F)
end Go.Proofs.Ytlljdbhefepheaa.utfGo
#print axioms Go.Proofs.Ytlljdbhefepheaa.utfGo.proved
