/- UtfWhole, for arguments of bulk at most 1048576: it answers true. -/
import Derived.Test.YtlljdbhefepheaaUm
import Derived.Test.YtlljdbhefepheaaWd
import Derived.Test.YtlljdbhefepheaaRows
import Derived.Test.YtlljdbhefepheaaBulk
import Derived.WalkKit
import Derived.ProofKit
import Derived.OpenShut
import Derived.JoinedCond
import Derived.ChangeOld
namespace Go.Proofs.Ytlljdbhefepheaa.utfWhole
open Go.ChangeShapes Go.WideShapes Go.ChangeAt Go.RowKit Go.V
set_option maxRecDepth 100000
set_option maxHeartbeats 4000000
set_option linter.unusedSimpArgs false
set_option linter.unusedVariables false

theorem law {st : St} {x : D} {b : List UInt8} (hb : Bytes st x b) (hlen : b.length ≤ 1048576) : Ev pv 8 [x] st (.bool true) st := by
  refine Ev.mk1 rfl fi8 rfl rfl rfl ?_
  dsimp only [List.cons_append, List.nil_append, List.length, Nat.reduceSub, Nat.reduceAdd, List.replicate_succ, List.replicate_zero]
  have hx := hb.ref
  have hb1 := hb.enter .ro
  have hbl := byteCells_len b
  have hnew : Ev pv 10 [] (enterSt .ro st) (.ptr st.bs.length 0 0) ((enterSt .ro st).push (.mem 0 false (decC [] [0, 0, 0, 0]))) := by
    refine Ev.mk1 rfl fi10 rfl rfl rfl ?_
    dsimp only [List.cons_append, List.nil_append, List.length, Nat.reduceSub, Nat.reduceAdd, List.replicate_succ, List.replicate_zero]
    try change EvC _ _ _ _ _
    repeat refine EvC.seq ?_
    try generalize hK : SeqQ _ _ _ = K
    refine EvC.reg ?_
    repeat (first | refine EvO.T rfl rfl rfl rfl ?_ | refine EvO.L rfl rfl rfl rfl ?_ | refine EvO.N rfl rfl rfl ?_ | refine EvO.offT rfl rfl ?_ | refine EvO.offL rfl rfl ?_)
    refine EvO.nil ?_
    dsimp only [Fr.putO, Fr.put, Fr.clean, Fr.ev, Fr.get, nth, Go.V.look, List.set_cons_succ, List.set_cons_zero, ofVal_int, ofVal_bool, ofVal_str, ofVal_nul, ofVal_pnil, ofVal_nilfn, ofVal_nilif, List.length, List.cons_append, List.nil_append, List.append_nil, Nat.reduceSub, Nat.reduceAdd, List.map, List.map_cons, List.map_nil]
    try subst hK
    try change EvC _ _ _ _ _
    try change EvC _ _ _ _ _
    repeat refine EvC.seq ?_
    try generalize hK : SeqQ _ _ _ = K
    refine EvC.reg ?_
    repeat (first | refine EvO.T rfl rfl rfl rfl ?_ | refine EvO.L rfl rfl rfl rfl ?_ | refine EvO.N rfl rfl rfl ?_ | refine EvO.offT rfl rfl ?_ | refine EvO.offL rfl rfl ?_)
    refine EvO.nil ?_
    dsimp only [Fr.putO, Fr.put, Fr.clean, Fr.ev, Fr.get, nth, Go.V.look, List.set_cons_succ, List.set_cons_zero, ofVal_int, ofVal_bool, ofVal_str, ofVal_nul, ofVal_pnil, ofVal_nilfn, ofVal_nilif, List.length, List.cons_append, List.nil_append, List.append_nil, Nat.reduceSub, Nat.reduceAdd, List.map, List.map_cons, List.map_nil]
    try subst hK
    try change EvC _ _ _ _ _
    exact EvC.ret ⟨fun i h => (by cases h), _, rfl, rfl⟩
  try change EvC _ _ _ _ _
  repeat refine EvC.seq ?_
  try generalize hK : SeqQ _ _ _ = K
  refine EvC.reg ?_
  repeat (first | refine EvO.T rfl rfl rfl rfl ?_ | refine EvO.L rfl rfl rfl rfl ?_ | refine EvO.N rfl rfl rfl ?_ | refine EvO.offT rfl rfl ?_ | refine EvO.offL rfl rfl ?_)
  refine EvO.nil ?_
  dsimp only [Fr.putO, Fr.put, Fr.clean, Fr.ev, Fr.get, nth, Go.V.look, List.set_cons_succ, List.set_cons_zero, ofVal_int, ofVal_bool, ofVal_str, ofVal_nul, ofVal_pnil, ofVal_nilfn, ofVal_nilif, List.length, List.cons_append, List.nil_append, List.append_nil, Nat.reduceSub, Nat.reduceAdd, List.map, List.map_cons, List.map_nil]
  try subst hK
  try change EvC _ _ _ _ _
  try change EvC _ _ _ _ _
  repeat refine EvC.seq ?_
  try generalize hK : SeqQ _ _ _ = K
  refine EvC.reg ?_
  (first | refine EvO.T rfl rfl rfl rfl ?_ | refine EvO.L rfl rfl rfl rfl ?_ | refine EvO.N rfl rfl rfl ?_ | refine EvO.offT rfl rfl ?_ | refine EvO.offL rfl rfl ?_)
  refine EvO.len rfl rfl rfl hb1 rfl ?_
  rw [hbl]
  repeat (first | refine EvO.T rfl rfl rfl rfl ?_ | refine EvO.L rfl rfl rfl rfl ?_ | refine EvO.N rfl rfl rfl ?_ | refine EvO.offT rfl rfl ?_ | refine EvO.offL rfl rfl ?_)
  refine EvO.nil ?_
  dsimp only [Fr.putO, Fr.put, Fr.clean, Fr.ev, Fr.get, nth, Go.V.look, List.set_cons_succ, List.set_cons_zero, ofVal_int, ofVal_bool, ofVal_str, ofVal_nul, ofVal_pnil, ofVal_nilfn, ofVal_nilif, List.length, List.cons_append, List.nil_append, List.append_nil, Nat.reduceSub, Nat.reduceAdd, List.map, List.map_cons, List.map_nil]
  try subst hK
  try change EvC _ _ _ _ _
  generalize hK : SeqQ _ (Code.seq _ _) _ = K
  have H : ∀ (y : D) (b : List UInt8) (m : List (Nat × D)), Bytes (enterSt .ro st) y b → y.ref ≤ st.bs.length → b.length ≤ 500 → K .next ⟨10, [y, .tup [], .bool false, .tup [], .tup [], .tup [], .tup [], .tup [], .tup [], .tup []], m⟩ (enterSt .ro st) := by
    intro y b m hb1 hx hlen
    subst hK
    have hbl := byteCells_len b
    have hN0 : (enterSt .ro st).bs.length = st.bs.length := rfl
    try change EvC _ _ _ _ _
    repeat refine EvC.seq ?_
    try generalize hK : SeqQ _ _ _ = K
    refine EvC.reg ?_
    refine EvO.callT rfl rfl rfl hnew ?_
    repeat (first | refine EvO.T rfl rfl rfl rfl ?_ | refine EvO.L rfl rfl rfl rfl ?_ | refine EvO.N rfl rfl rfl ?_ | refine EvO.offT rfl rfl ?_ | refine EvO.offL rfl rfl ?_)
    refine EvO.nil ?_
    dsimp only [Fr.putO, Fr.put, Fr.clean, Fr.ev, Fr.get, nth, Go.V.look, List.set_cons_succ, List.set_cons_zero, ofVal_int, ofVal_bool, ofVal_str, ofVal_nul, ofVal_pnil, ofVal_nilfn, ofVal_nilif, List.length, List.cons_append, List.nil_append, List.append_nil, Nat.reduceSub, Nat.reduceAdd, List.map, List.map_cons, List.map_nil]
    try subst hK
    try change EvC _ _ _ _ _
    try change EvC _ _ _ _ _
    repeat refine EvC.seq ?_
    try generalize hK : SeqQ _ _ _ = K
    refine EvC.reg ?_
    repeat (first | refine EvO.T rfl rfl rfl rfl ?_ | refine EvO.L rfl rfl rfl rfl ?_ | refine EvO.N rfl rfl rfl ?_ | refine EvO.offT rfl rfl ?_ | refine EvO.offL rfl rfl ?_)
    refine EvO.nil ?_
    dsimp only [Fr.putO, Fr.put, Fr.clean, Fr.ev, Fr.get, nth, Go.V.look, List.set_cons_succ, List.set_cons_zero, ofVal_int, ofVal_bool, ofVal_str, ofVal_nul, ofVal_pnil, ofVal_nilfn, ofVal_nilif, List.length, List.cons_append, List.nil_append, List.append_nil, Nat.reduceSub, Nat.reduceAdd, List.map, List.map_cons, List.map_nil]
    try subst hK
    try change EvC _ _ _ _ _
    try change EvC _ _ _ _ _
    repeat refine EvC.seq ?_
    refine EvC.cond (v := false) rfl (fun h => by cases h) fun _ => ?_
    try change EvC _ _ _ _ _
    refine EvC.skip ?_
    try change EvC _ _ _ _ _
    try change EvC _ _ _ _ _
    repeat refine EvC.seq ?_
    try generalize hK : SeqQ _ _ _ = K
    refine EvC.reg ?_
    repeat (first | refine EvO.T rfl rfl rfl rfl ?_ | refine EvO.L rfl rfl rfl rfl ?_ | refine EvO.N rfl rfl rfl ?_ | refine EvO.offT rfl rfl ?_ | refine EvO.offL rfl rfl ?_)
    refine EvO.nil ?_
    dsimp only [Fr.putO, Fr.put, Fr.clean, Fr.ev, Fr.get, nth, Go.V.look, List.set_cons_succ, List.set_cons_zero, ofVal_int, ofVal_bool, ofVal_str, ofVal_nul, ofVal_pnil, ofVal_nilfn, ofVal_nilif, List.length, List.cons_append, List.nil_append, List.append_nil, Nat.reduceSub, Nat.reduceAdd, List.map, List.map_cons, List.map_nil]
    try subst hK
    try change EvC _ _ _ _ _
    try change EvC _ _ _ _ _
    repeat refine EvC.seq ?_
    try generalize hK : SeqQ _ _ _ = K
    refine EvC.reg ?_
    repeat (first | refine EvO.T rfl rfl rfl rfl ?_ | refine EvO.L rfl rfl rfl rfl ?_ | refine EvO.N rfl rfl rfl ?_ | refine EvO.offT rfl rfl ?_ | refine EvO.offL rfl rfl ?_)
    refine EvO.nil ?_
    dsimp only [Fr.putO, Fr.put, Fr.clean, Fr.ev, Fr.get, nth, Go.V.look, List.set_cons_succ, List.set_cons_zero, ofVal_int, ofVal_bool, ofVal_str, ofVal_nul, ofVal_pnil, ofVal_nilfn, ofVal_nilif, List.length, List.cons_append, List.nil_append, List.append_nil, Nat.reduceSub, Nat.reduceAdd, List.map, List.map_cons, List.map_nil]
    try subst hK
    try change EvC _ _ _ _ _
    try change EvC _ _ _ _ _
    repeat refine EvC.seq ?_
    try generalize hK : SeqQ _ _ _ = K
    refine EvC.reg ?_
    repeat (first | refine EvO.T rfl rfl rfl rfl ?_ | refine EvO.L rfl rfl rfl rfl ?_ | refine EvO.N rfl rfl rfl ?_ | refine EvO.offT rfl rfl ?_ | refine EvO.offL rfl rfl ?_)
    refine EvO.nil ?_
    dsimp only [Fr.putO, Fr.put, Fr.clean, Fr.ev, Fr.get, nth, Go.V.look, List.set_cons_succ, List.set_cons_zero, ofVal_int, ofVal_bool, ofVal_str, ofVal_nul, ofVal_pnil, ofVal_nilfn, ofVal_nilif, List.length, List.cons_append, List.nil_append, List.append_nil, Nat.reduceSub, Nat.reduceAdd, List.map, List.map_cons, List.map_nil]
    try subst hK
    try change EvC _ _ _ _ _
    try change EvC _ _ _ _ _
    repeat refine EvC.seq ?_
    refine EvC.block ?_
    refine EvC.loop (fun m fr st' => ∃ (i n : Nat) (h j : List UInt8) (T : List (Nat × Nat)) (out v7 v8 v9 : D), fr.clean = ⟨10, [y, .tup [], .bool false, .ptr st.bs.length 0 0, out, .int .i64 (n : Nat), .int .i64 (i : Nat), v7, v8, v9], []⟩ ∧ Ex st.bs.length (enterSt .ro st) st' ∧ st'.bs[st.bs.length]? = some (.mem 0 false (decC h j)) ∧ (h ++ j).length = 4 ∧ h.length ≤ 3 ∧
      Acc (st.bs.length + 1) st' 2 out (T.map gotC) ∧ n + h.length = i ∧ h = (b.take i).drop n ∧ i ≤ b.length ∧ (∀ rest, allS (b.take i ++ rest) = T ++ allS (h ++ rest)) ∧ (h = [] ∨ begunS h = true) ∧ T.length ≤ 4 * i ∧ m = b.length - i) b.length
      ⟨0, 0, [], [0, 0, 0, 0], [], .nul, _, _, _, rfl, Ex.push (st := enterSt .ro st) (Nat.le_refl _) _, push_at (enterSt .ro st) _, rfl, by simp, .nul, rfl, by simp, by omega, fun rest => by simp, .inl rfl, by simp, by omega⟩ ?_
    rintro m fr st' ⟨i, n, h, j, T, out, v7, v8, v9, hfr, hex, hdec, hl, h3, hacc, hni, hhb, hib, hall, hbeg, hTl, rfl⟩
    rw [hfr]
    have hy1 : Bytes st' y b := hb1.ex hex hx
    have hflr : st'.flr = st.bs.length := by rw [hex.flr]; rfl
    have hro2 : st'.ro = st.bs.length := by rw [hex.ro]; rfl
    have hkl : st.bs.length < st'.bs.length := by
      rcases Nat.lt_or_ge st.bs.length st'.bs.length with h' | h'
      · exact h'
      · rw [List.getElem?_eq_none h'] at hdec; cases hdec
    try change EvC _ _ _ _ _
    repeat refine EvC.seq ?_
    try generalize hK : SeqQ _ _ _ = K
    refine EvC.reg ?_
    (first | refine EvO.T rfl rfl rfl rfl ?_ | refine EvO.L rfl rfl rfl rfl ?_ | refine EvO.N rfl rfl rfl ?_ | refine EvO.offT rfl rfl ?_ | refine EvO.offL rfl rfl ?_)
    (first | refine EvO.T rfl rfl rfl rfl ?_ | refine EvO.L rfl rfl rfl rfl ?_ | refine EvO.N rfl rfl rfl ?_ | refine EvO.offT rfl rfl ?_ | refine EvO.offL rfl rfl ?_)
    refine EvO.len rfl rfl rfl hy1 rfl ?_
    rw [hbl]
    repeat (first | refine EvO.T rfl rfl rfl rfl ?_ | refine EvO.L rfl rfl rfl rfl ?_ | refine EvO.N rfl rfl rfl ?_ | refine EvO.offT rfl rfl ?_ | refine EvO.offL rfl rfl ?_)
    refine EvO.nil ?_
    dsimp only [Fr.putO, Fr.put, Fr.clean, Fr.ev, Fr.get, nth, Go.V.look, List.set_cons_succ, List.set_cons_zero, ofVal_int, ofVal_bool, ofVal_str, ofVal_nul, ofVal_pnil, ofVal_nilfn, ofVal_nilif, List.length, List.cons_append, List.nil_append, List.append_nil, Nat.reduceSub, Nat.reduceAdd, List.map, List.map_cons, List.map_nil]
    try subst hK
    try change EvC _ _ _ _ _
    try change EvC _ _ _ _ _
    repeat refine EvC.seq ?_
    refine EvC.cond rfl (fun h4 => ?_) (fun h4 => ?_) <;> try simp only [decide_eq_true_eq, decide_eq_false_iff_not, beq_iff_eq, beq_eq_false_iff_ne, bne_iff_ne, bne_eq_false_iff_eq, ne_eq, Bool.not_eq_true', Bool.not_eq_false', Bool.not_eq_true, Bool.not_eq_false] at h4
    · refine EvC.skip ?_
      try change EvC _ _ _ _ _
      obtain ⟨c, hc⟩ : ∃ c, b[i]? = some c := ⟨b[i]'(by omega), List.getElem?_eq_getElem _⟩
      have hyc := byteCells_get hc
      obtain ⟨j0, js, rfl⟩ : ∃ j0 js, j = j0 :: js := by
        rw [List.length_append] at hl
        cases j with | nil => simp at hl; omega | cons a b => exact ⟨a, b, rfl⟩
      have hbe := byte_ev (c := c) hdec hl (by omega)
      have hfl : ((h ++ [c]) ++ js).length = 4 := by simp at hl ⊢; omega
      have hj4 := jF_len (h.length + 1) (h ++ [c]) js hfl (by simp)
      have h3' := tell_le (h.length + 1) (h ++ [c]) (by simp)
      have htn := tell_n (h.length + 1) (h ++ [c])
      have hta := fun rest => tell_all (h.length + 1) (h ++ [c]) rest (by simp)
      obtain ⟨hs1, hs2⟩ := tell_sum (h.length + 1) (h ++ [c]) (by simp)
      have htb := tell_begun (h.length + 1) (h ++ [c]) (by simp)
      change (byteS h c).2.length ≤ 3 at h3'
      change ((byteS h c).2 ++ _).length = 4 at hj4
      change (byteS h c).1.length ≤ _ at htn
      change ∀ rest, _ = (byteS h c).1 ++ allS ((byteS h c).2 ++ rest) at hta
      change ((byteS h c).1.map (·.2)).sum + (byteS h c).2.length = _ at hs1
      change (byteS h c).2 = (h ++ [c]).drop ((byteS h c).1.map (·.2)).sum at hs2
      change (byteS h c).2 = [] ∨ begunS (byteS h c).2 = true at htb
      generalize jF (h.length + 1) (h ++ [c]) js = j2 at *
      generalize byteS h c = q at *
      simp only [List.length_append, List.length_cons, List.length_nil] at hs1
      have htk : b.take (i + 1) = b.take i ++ [c] := by rw [List.take_add_one, hc]; rfl
      have hhc : h ++ [c] = (b.take (i + 1)).drop n := by
        rw [htk, List.drop_append_of_le_length (by rw [List.length_take]; omega), ← hhb]
      have hh' : q.2 = (b.take (i + 1)).drop (n + (q.1.map (·.2)).sum) := by rw [hs2, hhc, List.drop_drop]
      have hex2 : Ex st.bs.length (enterSt .ro st) ⟨st'.bs.set st.bs.length (.mem 0 false (decC q.2 j2)), st'.flr, st'.ro⟩ := hex.trans (Ex.set (Nat.le_refl _) _)
      have hacc2 := acc_setLow (Nat.lt_succ_self st.bs.length) hacc (.mem 0 false (decC q.2 j2))
      have hdec2 : (⟨st'.bs.set st.bs.length (.mem 0 false (decC q.2 j2)), st'.flr, st'.ro⟩ : St).bs[st.bs.length]? = some (.mem 0 false (decC q.2 j2)) := List.getElem?_set_self hkl
      generalize (⟨st'.bs.set st.bs.length (.mem 0 false (decC q.2 j2)), st'.flr, st'.ro⟩ : St) = S2 at *
      have hR := gots_rows S2 q.1
      have hRl : (q.1.map gotC).length = q.1.length := List.length_map ..
      have hfl2 : S2.flr = st.bs.length := by rw [hex2.flr]; rfl
      have hro3 : S2.ro = st.bs.length := by rw [hex2.ro]; rfl
      have hkl2 : st.bs.length < S2.bs.length := by
        rcases Nat.lt_or_ge st.bs.length S2.bs.length with h' | h'
        · exact h'
        · rw [List.getElem?_eq_none h'] at hdec2; cases hdec2
      try change EvC _ _ _ _ _
      repeat refine EvC.seq ?_
      refine EvC.block ?_
      try change EvC _ _ _ _ _
      repeat refine EvC.seq ?_
      try generalize hK : SeqQ _ _ _ = K
      refine EvC.reg ?_
      (first | refine EvO.T rfl rfl rfl rfl ?_ | refine EvO.L rfl rfl rfl rfl ?_ | refine EvO.N rfl rfl rfl ?_ | refine EvO.offT rfl rfl ?_ | refine EvO.offL rfl rfl ?_)
      (first | refine EvO.T rfl rfl rfl rfl ?_ | refine EvO.L rfl rfl rfl rfl ?_ | refine EvO.N rfl rfl rfl ?_ | refine EvO.offT rfl rfl ?_ | refine EvO.offL rfl rfl ?_)
      (first | refine EvO.T rfl rfl rfl rfl ?_ | refine EvO.L rfl rfl rfl rfl ?_ | refine EvO.N rfl rfl rfl ?_ | refine EvO.offT rfl rfl ?_ | refine EvO.offL rfl rfl ?_)
      refine EvO.idxLoad rfl rfl rfl (fun _ => rfl) rfl rfl hy1 rfl rfl (by omega) hyc rfl (fun p => ?_)
      refine EvO.callT rfl rfl rfl hbe ?_
      repeat (first | refine EvO.T rfl rfl rfl rfl ?_ | refine EvO.L rfl rfl rfl rfl ?_ | refine EvO.N rfl rfl rfl ?_ | refine EvO.offT rfl rfl ?_ | refine EvO.offL rfl rfl ?_)
      refine EvO.nil ?_
      dsimp only [Fr.putO, Fr.put, Fr.clean, Fr.ev, Fr.get, nth, Go.V.look, List.set_cons_succ, List.set_cons_zero, ofVal_int, ofVal_bool, ofVal_str, ofVal_nul, ofVal_pnil, ofVal_nilfn, ofVal_nilif, List.length, List.cons_append, List.nil_append, List.append_nil, Nat.reduceSub, Nat.reduceAdd, List.map, List.map_cons, List.map_nil]
      try subst hK
      try change EvC _ _ _ _ _
      try change EvC _ _ _ _ _
      repeat refine EvC.seq ?_
      try generalize hK : SeqQ _ _ _ = K
      refine EvC.reg ?_
      repeat (first | refine EvO.T rfl rfl rfl rfl ?_ | refine EvO.L rfl rfl rfl rfl ?_ | refine EvO.N rfl rfl rfl ?_ | refine EvO.offT rfl rfl ?_ | refine EvO.offL rfl rfl ?_)
      refine EvO.nil ?_
      dsimp only [Fr.putO, Fr.put, Fr.clean, Fr.ev, Fr.get, nth, Go.V.look, List.set_cons_succ, List.set_cons_zero, ofVal_int, ofVal_bool, ofVal_str, ofVal_nul, ofVal_pnil, ofVal_nilfn, ofVal_nilif, List.length, List.cons_append, List.nil_append, List.append_nil, Nat.reduceSub, Nat.reduceAdd, List.map, List.map_cons, List.map_nil]
      try subst hK
      try change EvC _ _ _ _ _
      try change EvC _ _ _ _ _
      repeat refine EvC.seq ?_
      refine EvC.block ?_
      refine EvC.loop (fun m2 fr s2 => ∃ (k : Nat), fr.clean = ⟨10, [y, .tup [], .bool false, .ptr st.bs.length 0 0, out, .int .i64 ((n + ((q.1.take k).map (·.2)).sum : Nat) : Int), .int .i64 (i : Nat), gotsD q.1, .int .i64 (k : Nat), v9], []⟩ ∧ s2 = S2 ∧ k + m2 = q.1.length) q.1.length ⟨0, rfl, rfl, by omega⟩ ?_
      rintro m2 fr s2 ⟨k, hfr, rfl, hkm⟩
      rw [hfr]
      try change EvC _ _ _ _ _
      repeat refine EvC.seq ?_
      try generalize hK : SeqQ _ _ _ = K
      refine EvC.reg ?_
      (first | refine EvO.T rfl rfl rfl rfl ?_ | refine EvO.L rfl rfl rfl rfl ?_ | refine EvO.N rfl rfl rfl ?_ | refine EvO.offT rfl rfl ?_ | refine EvO.offL rfl rfl ?_)
      (first | refine EvO.T rfl rfl rfl rfl ?_ | refine EvO.L rfl rfl rfl rfl ?_ | refine EvO.N rfl rfl rfl ?_ | refine EvO.offT rfl rfl ?_ | refine EvO.offL rfl rfl ?_)
      refine EvO.len rfl rfl rfl hR rfl ?_
      rw [hRl]
      repeat (first | refine EvO.T rfl rfl rfl rfl ?_ | refine EvO.L rfl rfl rfl rfl ?_ | refine EvO.N rfl rfl rfl ?_ | refine EvO.offT rfl rfl ?_ | refine EvO.offL rfl rfl ?_)
      refine EvO.nil ?_
      dsimp only [Fr.putO, Fr.put, Fr.clean, Fr.ev, Fr.get, nth, Go.V.look, List.set_cons_succ, List.set_cons_zero, ofVal_int, ofVal_bool, ofVal_str, ofVal_nul, ofVal_pnil, ofVal_nilfn, ofVal_nilif, List.length, List.cons_append, List.nil_append, List.append_nil, Nat.reduceSub, Nat.reduceAdd, List.map, List.map_cons, List.map_nil]
      try subst hK
      try change EvC _ _ _ _ _
      try change EvC _ _ _ _ _
      repeat refine EvC.seq ?_
      refine EvC.cond rfl (fun h6 => ?_) (fun h6 => ?_) <;> try simp only [decide_eq_true_eq, decide_eq_false_iff_not, beq_iff_eq, beq_eq_false_iff_ne, bne_iff_ne, bne_eq_false_iff_eq, ne_eq, Bool.not_eq_true', Bool.not_eq_false', Bool.not_eq_true, Bool.not_eq_false] at h6
      · refine EvC.skip ?_
        try change EvC _ _ _ _ _
        obtain ⟨g, hg⟩ : ∃ g, q.1[k]? = some g := ⟨q.1[k]'(by omega), List.getElem?_eq_getElem _⟩
        have hr : (q.1.map gotC)[k]? = some (gotC g) := by rw [List.getElem?_map, hg]; rfl
        have hsum : ((q.1.take (k + 1)).map (·.2)).sum = ((q.1.take k).map (·.2)).sum + g.2 := by
          rw [List.take_add_one, hg]; simp
        have hle : ((q.1.take (k + 1)).map (·.2)).sum + ((q.1.drop (k + 1)).map (·.2)).sum = (q.1.map (·.2)).sum := by
          rw [← List.sum_append, ← List.map_append, List.take_append_drop]
        try change EvC _ _ _ _ _
        repeat refine EvC.seq ?_
        refine EvC.block ?_
        try change EvC _ _ _ _ _
        repeat refine EvC.seq ?_
        try generalize hK : SeqQ _ _ _ = K
        refine EvC.reg ?_
        (first | refine EvO.T rfl rfl rfl rfl ?_ | refine EvO.L rfl rfl rfl rfl ?_ | refine EvO.N rfl rfl rfl ?_ | refine EvO.offT rfl rfl ?_ | refine EvO.offL rfl rfl ?_)
        (first | refine EvO.T rfl rfl rfl rfl ?_ | refine EvO.L rfl rfl rfl rfl ?_ | refine EvO.N rfl rfl rfl ?_ | refine EvO.offT rfl rfl ?_ | refine EvO.offL rfl rfl ?_)
        (first | refine EvO.T rfl rfl rfl rfl ?_ | refine EvO.L rfl rfl rfl rfl ?_ | refine EvO.N rfl rfl rfl ?_ | refine EvO.offT rfl rfl ?_ | refine EvO.offL rfl rfl ?_)
        refine EvO.idxField (f := 1) rfl rfl rfl rfl (fun _ => rfl) (fun _ _ => rfl) rfl rfl hR rfl rfl rfl rfl rfl (by decide) rfl (by decide) (by omega) hr (d := .int .i64 (g.2 : Nat)) rfl fun p p' => ?_
        repeat (first | refine EvO.T rfl rfl rfl rfl ?_ | refine EvO.L rfl rfl rfl rfl ?_ | refine EvO.N rfl rfl rfl ?_ | refine EvO.offT rfl rfl ?_ | refine EvO.offL rfl rfl ?_)
        refine EvO.nil ?_
        dsimp only [Fr.putO, Fr.put, Fr.clean, Fr.ev, Fr.get, nth, Go.V.look, List.set_cons_succ, List.set_cons_zero, ofVal_int, ofVal_bool, ofVal_str, ofVal_nul, ofVal_pnil, ofVal_nilfn, ofVal_nilif, List.length, List.cons_append, List.nil_append, List.append_nil, Nat.reduceSub, Nat.reduceAdd, List.map, List.map_cons, List.map_nil]
        try subst hK
        try change EvC _ _ _ _ _
        try change EvC _ _ _ _ _
        repeat refine EvC.seq ?_
        try generalize hK : SeqQ _ _ _ = K
        refine EvC.reg ?_
        repeat (first | refine EvO.T rfl rfl rfl rfl ?_ | refine EvO.L rfl rfl rfl rfl ?_ | refine EvO.N rfl rfl rfl ?_ | refine EvO.offT rfl rfl ?_ | refine EvO.offL rfl rfl ?_)
        refine EvO.nil ?_
        dsimp only [Fr.putO, Fr.put, Fr.clean, Fr.ev, Fr.get, nth, Go.V.look, List.set_cons_succ, List.set_cons_zero, ofVal_int, ofVal_bool, ofVal_str, ofVal_nul, ofVal_pnil, ofVal_nilfn, ofVal_nilif, List.length, List.cons_append, List.nil_append, List.append_nil, Nat.reduceSub, Nat.reduceAdd, List.map, List.map_cons, List.map_nil]
        try subst hK
        try change EvC _ _ _ _ _
        rw [wrap_i64 (by omega) (by omega), wrap_i64 (by omega) (by omega)]
        rw [show (((n + ((q.1.take k).map (·.2)).sum : Nat) : Int) + (g.2 : Nat)) = ((n + ((q.1.take (k + 1)).map (·.2)).sum : Nat) : Int) by rw [hsum]; omega]
        exact ⟨m2 - 1, by omega, k + 1, rfl, rfl, by omega⟩
      refine EvC.exit ?_
      have hk : k = q.1.length := by omega
      subst hk
      rw [List.take_length]
      generalize hn' : n + (q.1.map (·.2)).sum = n' at *
      try change EvC _ _ _ _ _
      repeat refine EvC.seq ?_
      try generalize hK : SeqQ _ _ _ = K
      refine EvC.reg ?_
      (first | refine EvO.T rfl rfl rfl rfl ?_ | refine EvO.L rfl rfl rfl rfl ?_ | refine EvO.N rfl rfl rfl ?_ | refine EvO.offT rfl rfl ?_ | refine EvO.offL rfl rfl ?_)
      (first | refine EvO.T rfl rfl rfl rfl ?_ | refine EvO.L rfl rfl rfl rfl ?_ | refine EvO.N rfl rfl rfl ?_ | refine EvO.offT rfl rfl ?_ | refine EvO.offL rfl rfl ?_)
      refine EvO.append (N := st.bs.length + 1) rfl rfl rfl rfl hacc2 hR rfl rfl rfl rfl rfl rfl rfl (by decide) hkl2 (by omega) (by omega) (by rw [List.length_map, hRl]; show (T.length + q.1.length) * 16 ≤ _; omega) fun out' s3 hacc3 hex3 _ _ _ => ?_
      repeat (first | refine EvO.T rfl rfl rfl rfl ?_ | refine EvO.L rfl rfl rfl rfl ?_ | refine EvO.N rfl rfl rfl ?_ | refine EvO.offT rfl rfl ?_ | refine EvO.offL rfl rfl ?_)
      refine EvO.nil ?_
      dsimp only [Fr.putO, Fr.put, Fr.clean, Fr.ev, Fr.get, nth, Go.V.look, List.set_cons_succ, List.set_cons_zero, ofVal_int, ofVal_bool, ofVal_str, ofVal_nul, ofVal_pnil, ofVal_nilfn, ofVal_nilif, List.length, List.cons_append, List.nil_append, List.append_nil, Nat.reduceSub, Nat.reduceAdd, List.map, List.map_cons, List.map_nil]
      try subst hK
      try change EvC _ _ _ _ _
      have hdec3 : s3.bs[st.bs.length]? = some (.mem 0 false (decC q.2 j2)) := by rw [hex3.low _ (Nat.lt_succ_self _)]; exact hdec2
      have hexl : Ex st.bs.length s2 s3 := ⟨fun k hk => hex3.low k (by omega), hex3.len, hex3.flr, hex3.ro⟩
      have hex4 := hex2.trans hexl
      have hro4 : s3.ro = st.bs.length := by rw [hex4.ro]; rfl
      have hlen4 := hex4.len
      have hhe := held_ev hdec3 hj4 (by rw [hro4]; rw [hN0] at hlen4; exact hlen4)
      have hy3 : Bytes s3 y b := hb1.ex hex4 hx
      try change EvC _ _ _ _ _
      repeat refine EvC.seq ?_
      try generalize hK : SeqQ _ _ _ = K
      refine EvC.reg ?_
      (first | refine EvO.T rfl rfl rfl rfl ?_ | refine EvO.L rfl rfl rfl rfl ?_ | refine EvO.N rfl rfl rfl ?_ | refine EvO.offT rfl rfl ?_ | refine EvO.offL rfl rfl ?_)
      refine EvO.callT rfl rfl rfl hhe ?_
      repeat (first | refine EvO.T rfl rfl rfl rfl ?_ | refine EvO.L rfl rfl rfl rfl ?_ | refine EvO.N rfl rfl rfl ?_ | refine EvO.offT rfl rfl ?_ | refine EvO.offL rfl rfl ?_)
      refine EvO.nil ?_
      dsimp only [Fr.putO, Fr.put, Fr.clean, Fr.ev, Fr.get, nth, Go.V.look, List.set_cons_succ, List.set_cons_zero, ofVal_int, ofVal_bool, ofVal_str, ofVal_nul, ofVal_pnil, ofVal_nilfn, ofVal_nilif, List.length, List.cons_append, List.nil_append, List.append_nil, Nat.reduceSub, Nat.reduceAdd, List.map, List.map_cons, List.map_nil]
      try subst hK
      try change EvC _ _ _ _ _
      have hH := bytesV_ok s3 q.2
      try change EvC _ _ _ _ _
      repeat refine EvC.seq ?_
      try generalize hK : SeqQ _ _ _ = K
      refine EvC.reg ?_
      (first | refine EvO.T rfl rfl rfl rfl ?_ | refine EvO.L rfl rfl rfl rfl ?_ | refine EvO.N rfl rfl rfl ?_ | refine EvO.offT rfl rfl ?_ | refine EvO.offL rfl rfl ?_)
      refine EvO.len rfl rfl rfl hH rfl ?_
      rw [byteCells_len]
      (first | refine EvO.T rfl rfl rfl rfl ?_ | refine EvO.L rfl rfl rfl rfl ?_ | refine EvO.N rfl rfl rfl ?_ | refine EvO.offT rfl rfl ?_ | refine EvO.offL rfl rfl ?_)
      simp (disch := omega) only [decide_eq_true, decide_eq_false, beq_yes, beq_no, bne_yes, bne_no]
      (first | refine EvO.T rfl rfl rfl rfl ?_ | refine EvO.L rfl rfl rfl rfl ?_ | refine EvO.N rfl rfl rfl ?_ | refine EvO.offT rfl rfl ?_ | refine EvO.offL rfl rfl ?_)
      (first | refine EvO.T rfl rfl rfl rfl ?_ | refine EvO.L rfl rfl rfl rfl ?_ | refine EvO.N rfl rfl rfl ?_ | refine EvO.offT rfl rfl ?_ | refine EvO.offL rfl rfl ?_)
      (first | refine EvO.T rfl rfl rfl rfl ?_ | refine EvO.L rfl rfl rfl rfl ?_ | refine EvO.N rfl rfl rfl ?_ | refine EvO.offT rfl rfl ?_ | refine EvO.offL rfl rfl ?_)
      refine EvO.len rfl rfl rfl hH rfl ?_
      rw [byteCells_len]
      (first | refine EvO.T rfl rfl rfl rfl ?_ | refine EvO.L rfl rfl rfl rfl ?_ | refine EvO.N rfl rfl rfl ?_ | refine EvO.offT rfl rfl ?_ | refine EvO.offL rfl rfl ?_)
      (first | refine EvO.T rfl rfl rfl rfl ?_ | refine EvO.L rfl rfl rfl rfl ?_ | refine EvO.N rfl rfl rfl ?_ | refine EvO.offT rfl rfl ?_ | refine EvO.offL rfl rfl ?_)
      (first | refine EvO.T rfl rfl rfl rfl ?_ | refine EvO.L rfl rfl rfl rfl ?_ | refine EvO.N rfl rfl rfl ?_ | refine EvO.offT rfl rfl ?_ | refine EvO.offL rfl rfl ?_)
      refine EvO.T rfl rfl rfl (d := .bool false) (st1 := s3) ?_ ?_
      · show some (D.bool (wrapD .i64 ((n' : Int) + (q.2.length : Nat)) != wrapD .i64 ((i : Int) + 1)), _) = _
        rw [wrap_i64 (by omega) (by omega), wrap_i64 (by omega) (by omega)]
        rw [show ((n' : Int) + (q.2.length : Nat)) = (i : Int) + 1 by omega]; simp
      (first | refine EvO.T rfl rfl rfl rfl ?_ | refine EvO.L rfl rfl rfl rfl ?_ | refine EvO.N rfl rfl rfl ?_ | refine EvO.offT rfl rfl ?_ | refine EvO.offL rfl rfl ?_)
      (first | refine EvO.T rfl rfl rfl rfl ?_ | refine EvO.L rfl rfl rfl rfl ?_ | refine EvO.N rfl rfl rfl ?_ | refine EvO.offT rfl rfl ?_ | refine EvO.offL rfl rfl ?_)
      (first | refine EvO.T rfl rfl rfl rfl ?_ | refine EvO.L rfl rfl rfl rfl ?_ | refine EvO.N rfl rfl rfl ?_ | refine EvO.offT rfl rfl ?_ | refine EvO.offL rfl rfl ?_)
      (first | refine EvO.T rfl rfl rfl rfl ?_ | refine EvO.L rfl rfl rfl rfl ?_ | refine EvO.N rfl rfl rfl ?_ | refine EvO.offT rfl rfl ?_ | refine EvO.offL rfl rfl ?_)
      (first | refine EvO.T rfl rfl rfl rfl ?_ | refine EvO.L rfl rfl rfl rfl ?_ | refine EvO.N rfl rfl rfl ?_ | refine EvO.offT rfl rfl ?_ | refine EvO.offL rfl rfl ?_)
      (first | refine EvO.T rfl rfl rfl rfl ?_ | refine EvO.L rfl rfl rfl rfl ?_ | refine EvO.N rfl rfl rfl ?_ | refine EvO.offT rfl rfl ?_ | refine EvO.offL rfl rfl ?_)
      (first | refine EvO.T rfl rfl rfl rfl ?_ | refine EvO.L rfl rfl rfl rfl ?_ | refine EvO.N rfl rfl rfl ?_ | refine EvO.offT rfl rfl ?_ | refine EvO.offL rfl rfl ?_)
      rw [wrap_i64 (by omega) (by omega), show (i : Int) + 1 = ((i + 1 : Nat) : Int) by omega]
      refine EvO.slice rfl rfl rfl hy3 rfl rfl (l := n') (r := i + 1) ?_ ⟨by omega, by omega⟩ fun y4 hy5 _ => ?_
      · show boundsD (byteCells b).length (some (.int .i64 (n' : Nat))) (some (.int .i64 ((i + 1 : Nat) : Int))) = _
        simp only [boundsD, optBound, boundD]
        rw [if_pos ⟨by omega, by omega⟩]
        simp only [Option.bind_some]
        rw [if_pos ⟨by omega, by omega⟩]; rfl
      have hy6 : Bytes s3 y4 q.2 := by
        have : ((byteCells b).take (i + 1)).drop n' = byteCells q.2 := by rw [hh']; simp [byteCells, List.map_drop, List.map_take]
        unfold Bytes; rw [← this]; exact hy5
      refine EvO.callT rfl rfl rfl (same_byte hH hy6 (by omega)) ?_
      repeat (first | refine EvO.T rfl rfl rfl rfl ?_ | refine EvO.L rfl rfl rfl rfl ?_ | refine EvO.N rfl rfl rfl ?_ | refine EvO.offT rfl rfl ?_ | refine EvO.offL rfl rfl ?_)
      refine EvO.nil ?_
      dsimp only [Fr.putO, Fr.put, Fr.clean, Fr.ev, Fr.get, nth, Go.V.look, List.set_cons_succ, List.set_cons_zero, ofVal_int, ofVal_bool, ofVal_str, ofVal_nul, ofVal_pnil, ofVal_nilfn, ofVal_nilif, List.length, List.cons_append, List.nil_append, List.append_nil, Nat.reduceSub, Nat.reduceAdd, List.map, List.map_cons, List.map_nil]
      try subst hK
      try change EvC _ _ _ _ _
      try change EvC _ _ _ _ _
      repeat refine EvC.seq ?_
      refine EvC.cond (v := false) rfl (fun h => by cases h) fun _ => ?_
      try change EvC _ _ _ _ _
      refine EvC.skip ?_
      change EvC _ _ _ _ _
      try change EvC _ _ _ _ _
      repeat refine EvC.seq ?_
      try generalize hK : SeqQ _ _ _ = K
      refine EvC.reg ?_
      repeat (first | refine EvO.T rfl rfl rfl rfl ?_ | refine EvO.L rfl rfl rfl rfl ?_ | refine EvO.N rfl rfl rfl ?_ | refine EvO.offT rfl rfl ?_ | refine EvO.offL rfl rfl ?_)
      refine EvO.nil ?_
      dsimp only [Fr.putO, Fr.put, Fr.clean, Fr.ev, Fr.get, nth, Go.V.look, List.set_cons_succ, List.set_cons_zero, ofVal_int, ofVal_bool, ofVal_str, ofVal_nul, ofVal_pnil, ofVal_nilfn, ofVal_nilif, List.length, List.cons_append, List.nil_append, List.append_nil, Nat.reduceSub, Nat.reduceAdd, List.map, List.map_cons, List.map_nil]
      try subst hK
      try change EvC _ _ _ _ _
      rw [wrap_i64 (by omega) (by omega), show (i : Int) + 1 = ((i + 1 : Nat) : Int) by omega]
      refine ⟨b.length - (i + 1), by omega, i + 1, n', q.2, j2, T ++ q.1, out', _, _, _, rfl, hex4, hdec3, hj4, h3', by rw [List.map_append]; exact hacc3, by omega, hh', by omega, fun rest => ?_, htb, by rw [List.length_append]; omega, rfl⟩
      rw [htk, List.append_assoc, hall, List.append_assoc, ← hta, List.append_assoc]
    · refine EvC.exit ?_
      have hi : i = b.length := by omega
      subst hi
      have hab := hall []
      rw [List.take_length, List.append_nil, List.append_nil] at hab
      have hbad : allS h = badS h.length := by
        rcases hbeg with rfl | hbeg
        · rfl
        · exact begun_all hbeg
      rw [hbad] at hab
      have hen := end_ev hdec hl (by omega)
      have hacc2 := acc_setLow (Nat.lt_succ_self st.bs.length) hacc (.mem 0 false (decC [] (h ++ j)))
      have hex2 : Ex st.bs.length (enterSt .ro st) ⟨st'.bs.set st.bs.length (.mem 0 false (decC [] (h ++ j))), st'.flr, st'.ro⟩ := hex.trans (Ex.set (Nat.le_refl _) _)
      have hlS : (⟨st'.bs.set st.bs.length (.mem 0 false (decC [] (h ++ j))), st'.flr, st'.ro⟩ : St).bs.length = st'.bs.length := by simp
      generalize (⟨st'.bs.set st.bs.length (.mem 0 false (decC [] (h ++ j))), st'.flr, st'.ro⟩ : St) = S2 at *
      have hfl2 : S2.flr = st.bs.length := by rw [hex2.flr]; rfl
      have hro3 : S2.ro = st.bs.length := by rw [hex2.ro]; rfl
      try change EvC _ _ _ _ _
      repeat refine EvC.seq ?_
      try generalize hK : SeqQ _ _ _ = K
      refine EvC.reg ?_
      (first | refine EvO.T rfl rfl rfl rfl ?_ | refine EvO.L rfl rfl rfl rfl ?_ | refine EvO.N rfl rfl rfl ?_ | refine EvO.offT rfl rfl ?_ | refine EvO.offL rfl rfl ?_)
      (first | refine EvO.T rfl rfl rfl rfl ?_ | refine EvO.L rfl rfl rfl rfl ?_ | refine EvO.N rfl rfl rfl ?_ | refine EvO.offT rfl rfl ?_ | refine EvO.offL rfl rfl ?_)
      refine EvO.callT rfl rfl rfl hen ?_
      refine EvO.append (N := st.bs.length + 1) rfl rfl rfl rfl hacc2 (gots_rows S2 (badS h.length)) rfl rfl rfl rfl rfl rfl rfl (by decide) (by omega) (by omega) (by omega) (by rw [List.length_map, List.length_map]; simp only [badS, List.length_replicate]; show (T.length + h.length) * 16 ≤ _; omega) fun out' s3 hacc3 hex3 _ _ _ => ?_
      repeat (first | refine EvO.T rfl rfl rfl rfl ?_ | refine EvO.L rfl rfl rfl rfl ?_ | refine EvO.N rfl rfl rfl ?_ | refine EvO.offT rfl rfl ?_ | refine EvO.offL rfl rfl ?_)
      refine EvO.nil ?_
      dsimp only [Fr.putO, Fr.put, Fr.clean, Fr.ev, Fr.get, nth, Go.V.look, List.set_cons_succ, List.set_cons_zero, ofVal_int, ofVal_bool, ofVal_str, ofVal_nul, ofVal_pnil, ofVal_nilfn, ofVal_nilif, List.length, List.cons_append, List.nil_append, List.append_nil, Nat.reduceSub, Nat.reduceAdd, List.map, List.map_cons, List.map_nil]
      try subst hK
      try change EvC _ _ _ _ _
      have hexl : Ex st.bs.length S2 s3 := ⟨fun k hk => hex3.low k (by omega), hex3.len, hex3.flr, hex3.ro⟩
      have hex4 := hex2.trans hexl
      have hy3 : Bytes s3 y b := hb1.ex hex4 hx
      rw [← List.map_append, ← hab] at hacc3
      have hal : (allS b).length ≤ b.length := by
        have key : ∀ n (b : List UInt8), (allF n b).length ≤ n := by
          intro n
          induction n with
          | zero => intro b; simp [allF]
          | succ n ih => intro b; cases b <;> simp [allF]; exact ih _
        exact key _ _
      try change EvC _ _ _ _ _
      repeat refine EvC.seq ?_
      try generalize hK : SeqQ _ _ _ = K
      refine EvC.reg ?_
      (first | refine EvO.T rfl rfl rfl rfl ?_ | refine EvO.L rfl rfl rfl rfl ?_ | refine EvO.N rfl rfl rfl ?_ | refine EvO.offT rfl rfl ?_ | refine EvO.offL rfl rfl ?_)
      (first | refine EvO.T rfl rfl rfl rfl ?_ | refine EvO.L rfl rfl rfl rfl ?_ | refine EvO.N rfl rfl rfl ?_ | refine EvO.offT rfl rfl ?_ | refine EvO.offL rfl rfl ?_)
      refine EvO.callT rfl rfl rfl (all_ev hy3 (by omega)) ?_
      refine EvO.callT rfl rfl rfl (same_got hacc3.rows (gots_rows _ _) (by omega)) ?_
      (first | refine EvO.T rfl rfl rfl rfl ?_ | refine EvO.L rfl rfl rfl rfl ?_ | refine EvO.N rfl rfl rfl ?_ | refine EvO.offT rfl rfl ?_ | refine EvO.offL rfl rfl ?_)
      refine EvO.callT rfl rfl rfl (Ev.prim rfl rfl) ?_
      repeat (first | refine EvO.T rfl rfl rfl rfl ?_ | refine EvO.L rfl rfl rfl rfl ?_ | refine EvO.N rfl rfl rfl ?_ | refine EvO.offT rfl rfl ?_ | refine EvO.offL rfl rfl ?_)
      refine EvO.nil ?_
      dsimp only [Fr.putO, Fr.put, Fr.clean, Fr.ev, Fr.get, nth, Go.V.look, List.set_cons_succ, List.set_cons_zero, ofVal_int, ofVal_bool, ofVal_str, ofVal_nul, ofVal_pnil, ofVal_nilfn, ofVal_nilif, List.length, List.cons_append, List.nil_append, List.append_nil, Nat.reduceSub, Nat.reduceAdd, List.map, List.map_cons, List.map_nil]
      try subst hK
      try change EvC _ _ _ _ _
      exact EvC.ret ⟨fun i h => (by cases h), _, rfl, leave_same (by simp) (hex4.take rfl) rfl⟩
  try change EvC _ _ _ _ _
  repeat refine EvC.seq ?_
  refine EvC.cond rfl (fun h0 => ?_) (fun h0 => ?_) <;> try simp only [decide_eq_true_eq, decide_eq_false_iff_not, beq_iff_eq, beq_eq_false_iff_ne, bne_iff_ne, bne_eq_false_iff_eq, ne_eq, Bool.not_eq_true', Bool.not_eq_false', Bool.not_eq_true, Bool.not_eq_false] at h0
  · try change EvC _ _ _ _ _
    repeat refine EvC.seq ?_
    try generalize hK : SeqQ _ _ _ = K
    refine EvC.reg ?_
    (first | refine EvO.T rfl rfl rfl rfl ?_ | refine EvO.L rfl rfl rfl rfl ?_ | refine EvO.N rfl rfl rfl ?_ | refine EvO.offT rfl rfl ?_ | refine EvO.offL rfl rfl ?_)
    refine EvO.slice rfl rfl rfl hb1 rfl rfl (l := 0) (r := 500) ?_ ⟨by omega, by omega⟩ fun y2 hy3 hyr2 => ?_
    · show boundsD _ none (some (.int .i64 500)) = _
      simp only [boundsD, optBound, boundD, Option.bind_some]
      rw [if_pos ⟨by omega, by omega⟩]; rfl
    repeat (first | refine EvO.T rfl rfl rfl rfl ?_ | refine EvO.L rfl rfl rfl rfl ?_ | refine EvO.N rfl rfl rfl ?_ | refine EvO.offT rfl rfl ?_ | refine EvO.offL rfl rfl ?_)
    refine EvO.nil ?_
    dsimp only [Fr.putO, Fr.put, Fr.clean, Fr.ev, Fr.get, nth, Go.V.look, List.set_cons_succ, List.set_cons_zero, ofVal_int, ofVal_bool, ofVal_str, ofVal_nul, ofVal_pnil, ofVal_nilfn, ofVal_nilif, List.length, List.cons_append, List.nil_append, List.append_nil, Nat.reduceSub, Nat.reduceAdd, List.map, List.map_cons, List.map_nil]
    try subst hK
    try change EvC _ _ _ _ _
    refine H y2 (b.take 500) _ ?_ (Nat.le_trans hyr2 hx) (by rw [List.length_take]; omega)
    have : ((byteCells b).take 500).drop 0 = byteCells (b.take 500) := by simp [byteCells]
    unfold Bytes; rw [← this]; exact hy3
  · refine EvC.skip ?_
    exact H x b _ hb1 hx (by omega)

theorem own : ownKnob Try.prog.godebug = none := by kernel_rfl
theorem laidOut : laidOutB Try.prog = true := by kernel_rfl

theorem lifted (os : Os) (started : os.Started) (H : Type) (enc : TypeId × Value → H) (F : Stop.Interp) :
    ReturnsInHanded {} Try.checked os 8 .any ((Rows.OpenSpec.upto Rows.utfWholeSpec).pre6 enc Try.prog Try.f8 Rows.utfWholeUptoRow.domain false) (((Rows.OpenSpec.upto Rows.utfWholeSpec).at F).post enc Try.prog Try.f8 false true false false) := by
  refine returnsInHanded_of_cond (C := Try.checked) (s := Rows.OpenSpec.upto Rows.utfWholeSpec) (k := Rows.uptoSmall) rfl own started (by kernel_rfl) Try.func8
    (OpenSpec.witness (enc := enc) (C := Try.checked) (s := Rows.OpenSpec.upto Rows.utfWholeSpec) (k := Rows.uptoSmall) rfl false ⟨#[], #[.slice none 0 0], []⟩ 8 (by kernel_rfl) (by kernel_rfl) (by kernel_rfl)
      (x := ([.nil], [], [])) (by kernel_rfl) rfl (by kernel_rfl)) ?_
  intro W base args ds gs before hval hW _ hk _
  have hW' := hW
  obtain ⟨p, q, hA0, hV, rfl, hfz, hnd⟩ := hW
  have hA : DataW.TrodAll enc Try.prog W 0 (fun _ => true) true Try.f8.params.toList args.toList ds p := hA0
  rw [Try.params8] at hA hval
  obtain ⟨v0, vs0, d0, ds0, p0, q0, hargs, rfl, rfl, h0, r0⟩ := trodAll_cons hA
  obtain ⟨rfl, rfl, rfl⟩ := trodAll_nil r0
  obtain rfl : args = #[v0] := by cases args; simp_all
  obtain ⟨rfl, rfl⟩ := trodVars_none hV
  simp only [Rows.uptoSmall, List.append_nil, List.nil_append, List.singleton_append, List.cons_append, decide_eq_true_eq, Rows.uptoBulkAll] at hk
  have i0 := trod_ir h0 (n := 12) (by kernel_rfl) (hval 0 29 v0 rfl rfl)
  have k0 := h0
  have lt0 : ∀ x ∈ p0, x.block < W.heap.size := by obtain ⟨m, hm⟩ := k0; exact DataW.trod_lt m _ _ _ hm
  obtain ⟨b0, hb0, hs0⟩ := arg_bytes h0 Try.underlying29 Try.underlying5
  have l0 : b0.length ≤ Rows.uptoBulk d0 := by rcases hs0 with ⟨rfl, rfl⟩ | ⟨es, rest, rfl, he⟩ <;> simp only [Rows.uptoBulk, List.length_nil] <;> first | omega | (have := bulk_len es; omega)
  have hlaw : Ev pv 8 [dval d0] ⟨[], 0, 0⟩ (.bool true) ⟨[], 0, 0⟩ := by
    exact law (hb0 _) (by omega)
  have hir : ∀ (i : Nat) c v, [dval d0][i]? = some c → [v0][i]? = some v → IR W (fun b => b < W.heap.size) c v := by
    intro i c v hc hv
    match i, hc, hv with
    | 0, hc, hv => cases hc; cases hv; exact i0
  clear hA0
  refine (law_calls view hlaw (us := [v0]) rfl hir).mono fun e W' ⟨he, bel⟩ => ?_
  subst he
  exact ⟨_, rfl, _, _, _, [], _, [], hW', trodAll_mk1 (shut_bool Try.underlying4 _), (trodAll_cons_mk (Below.trod laidOut (by kernel_rfl) (of_decide_eq_true (by kernel_rfl)) k0 bel lt0) trodAll_mk0), rfl, bel.frame _, fun h => by cases h⟩

theorem proved : Rows.UtfWholeUptoSaid :=
  OpenClaim.holds_of_cond 8 Try.f8 rfl rfl rfl rfl rfl rfl rfl ⟨rfl, rfl, rfl, rfl, rfl⟩ rfl rfl rfl rfl rfl (by kernel_rfl) Try.func8 (by kernel_rfl)
    (of_decide_eq_true (by kernel_rfl)) (by unfold Func.isWrapper; first | (rw [if_pos (by decide +kernel)]; kernel_rfl) | (rw [if_neg (by decide +kernel)]; exact ⟨rfl, rfl⟩))
    (fun os started H enc _ F => lifted os started H enc F)
end Go.Proofs.Ytlljdbhefepheaa.utfWhole
#print axioms Go.Proofs.Ytlljdbhefepheaa.utfWhole.proved
