import Derived.Test.YtlljdbhefepheaaUl
namespace Go.Proofs.Ytlljdbhefepheaa
open Go.V Go
set_option maxRecDepth 100000
set_option maxHeartbeats 4000000
set_option linter.unusedSimpArgs false
set_option linter.unusedVariables false

theorem held_ev {st : St} {k v : Nat} {h j : List UInt8} (hm : st.bs[k]? = some (.mem v false (decC h j))) (hl : (h ++ j).length = 4) (hro : st.ro ≤ st.bs.length) : Ev pv 15 [.ptr k v 0] st (bytesV h) st := by
  refine Ev.mk1 rfl fi15 rfl rfl rfl ?_
  dsimp only [List.cons_append, List.nil_append, List.length, Nat.reduceSub, Nat.reduceAdd, List.replicate_succ, List.replicate_zero]
  have hm0 : (enterSt .rw st).bs[k]? = some (.mem v false (decC h j)) := hm
  have hl2 := hl
  rw [List.length_append] at hl2
  have hcl := decC_len hl
  have hcd := decC_drop hl
  have hsub := bytes_sub (st := enterSt .rw st) (l := 0) (r := h.length) hm0 (Nat.zero_le _) (by rw [hl]; omega)
  rw [List.take_left, List.drop_zero] at hsub
  try change EvC _ _ _ _ _
  repeat refine EvC.seq ?_
  try generalize hK : SeqQ _ _ _ = K
  refine EvC.reg ?_
  repeat (first | refine EvO.T rfl rfl rfl rfl ?_ | refine EvO.L rfl rfl rfl rfl ?_ | refine EvO.N rfl rfl rfl ?_ | refine EvO.offT rfl rfl ?_ | refine EvO.offL rfl rfl ?_)
  refine EvO.nil ?_
  dsimp only [Fr.putO, Fr.put, Fr.clean, Fr.ev, Fr.get, nth, Go.V.look, List.set_cons_succ, List.set_cons_zero, ofVal_int, ofVal_bool, ofVal_str, ofVal_nul, ofVal_pnil, ofVal_nilfn, ofVal_nilif, List.length, List.cons_append, List.nil_append, List.append_nil, Nat.reduceSub, Nat.reduceAdd, List.map, List.map_cons, List.map_nil]
  try subst hK
  try change EvC _ _ _ _ _
  try change EvC _ _ _ _ _
  repeat refine EvC.seq ?_
  try generalize hK : SeqQ _ _ _ = K
  refine EvC.reg ?_
  (first | refine EvO.T rfl rfl rfl rfl ?_ | refine EvO.L rfl rfl rfl rfl ?_ | refine EvO.N rfl rfl rfl ?_ | refine EvO.offT rfl rfl ?_ | refine EvO.offL rfl rfl ?_)
  (first | refine EvO.T rfl rfl rfl rfl ?_ | refine EvO.L rfl rfl rfl rfl ?_ | refine EvO.N rfl rfl rfl ?_ | refine EvO.offT rfl rfl ?_ | refine EvO.offL rfl rfl ?_)
  (first | refine EvO.T rfl rfl rfl rfl ?_ | refine EvO.L rfl rfl rfl rfl ?_ | refine EvO.N rfl rfl rfl ?_ | refine EvO.offT rfl rfl ?_ | refine EvO.offL rfl rfl ?_)
  (first | refine EvO.T rfl rfl rfl rfl ?_ | refine EvO.L rfl rfl rfl rfl ?_ | refine EvO.N rfl rfl rfl ?_ | refine EvO.offT rfl rfl ?_ | refine EvO.offL rfl rfl ?_)
  (first | refine EvO.T rfl rfl rfl rfl ?_ | refine EvO.L rfl rfl rfl rfl ?_ | refine EvO.N rfl rfl rfl ?_ | refine EvO.offT rfl rfl ?_ | refine EvO.offL rfl rfl ?_)
  (first | refine EvO.T rfl rfl rfl rfl ?_ | refine EvO.L rfl rfl rfl rfl ?_ | refine EvO.N rfl rfl rfl ?_ | refine EvO.offT rfl rfl ?_ | refine EvO.offL rfl rfl ?_)
  refine EvO.load (k := k) (ver := v) (off := 4) rfl rfl rfl hm0 (d := .int .i64 (h.length : Nat)) (by rw [hcd]; rfl) ?_
  refine EvO.sliceArr (l := 0) (r := h.length) rfl rfl rfl rfl rfl hm0 (by rw [hcl]; decide) ?_ ?_
  · show boundsD 4 none (some (.int .i64 (h.length : Nat))) = _
    simp only [boundsD, optBound, boundD]
    rw [if_pos ⟨by omega, by omega⟩]; rfl
  refine EvO.append (N := st.bs.length) (x := .nul) (es := []) (y := .win k v 0 (h.length - 0) 1) (ys := byteCells h) rfl rfl rfl rfl .nul hsub rfl rfl rfl rfl rfl rfl rfl (by decide) (Nat.le_refl _) (Nat.le_refl _) hro (by rw [byteCells_len]; show (0 + h.length) * 1 ≤ _; omega) fun x' st2 hacc hex _ _ _ => ?_
  rw [List.nil_append] at hacc
  repeat (first | refine EvO.T rfl rfl rfl rfl ?_ | refine EvO.L rfl rfl rfl rfl ?_ | refine EvO.N rfl rfl rfl ?_ | refine EvO.offT rfl rfl ?_ | refine EvO.offL rfl rfl ?_)
  refine EvO.nil ?_
  dsimp only [Fr.putO, Fr.put, Fr.clean, Fr.ev, Fr.get, nth, Go.V.look, List.set_cons_succ, List.set_cons_zero, ofVal_int, ofVal_bool, ofVal_str, ofVal_nul, ofVal_pnil, ofVal_nilfn, ofVal_nilif, List.length, List.cons_append, List.nil_append, List.append_nil, Nat.reduceSub, Nat.reduceAdd, List.map, List.map_cons, List.map_nil]
  try subst hK
  try change EvC _ _ _ _ _
  refine EvC.ret ⟨fun i h => (by cases h), _, rfl, leave_same (by simp) (hex.take rfl) ?_⟩
  exact hacc.freeze (byteCells_plain h) (n := 15) (by decide)

def badS (n : Nat) : List (Nat × Nat) := List.replicate n (65533, 1)

theorem end_ev {st : St} {k v : Nat} {h j : List UInt8} (hm : st.bs[k]? = some (.mem v false (decC h j))) (hl : (h ++ j).length = 4) (hro : st.ro ≤ k) :
    Ev pv 21 [.ptr k v 0] st (gotsD (badS h.length)) ⟨st.bs.set k (.mem v false (decC [] (h ++ j))), st.flr, st.ro⟩ := by
  have hkl : k < st.bs.length := by
    rcases Nat.lt_or_ge k st.bs.length with h' | h'
    · exact h'
    · rw [List.getElem?_eq_none h'] at hm; cases hm
  have hl2 := hl
  rw [List.length_append] at hl2
  refine Ev.mk1 rfl fi21 rfl rfl rfl ?_
  dsimp only [List.cons_append, List.nil_append, List.length, Nat.reduceSub, Nat.reduceAdd, List.replicate_succ, List.replicate_zero]
  have hmap : ((h ++ j).map u8D).length = 4 := by rw [List.length_map, hl]
  have hcan : ∀ S : St, S.ro = st.ro → S.canW k 0 = true := fun S hS => canW_flat (by omega)
  have hm00 : (enterSt .rw st).bs[k]? = some (.mem v false ((h ++ j).map u8D ++ [.int .i64 (h.length : Nat)])) := hm
  try change EvC _ _ _ _ _
  repeat refine EvC.seq ?_
  try generalize hK : SeqQ _ _ _ = K
  refine EvC.reg ?_
  repeat (first | refine EvO.T rfl rfl rfl rfl ?_ | refine EvO.L rfl rfl rfl rfl ?_ | refine EvO.N rfl rfl rfl ?_ | refine EvO.offT rfl rfl ?_ | refine EvO.offL rfl rfl ?_)
  refine EvO.nil ?_
  dsimp only [Fr.putO, Fr.put, Fr.clean, Fr.ev, Fr.get, nth, Go.V.look, List.set_cons_succ, List.set_cons_zero, ofVal_int, ofVal_bool, ofVal_str, ofVal_nul, ofVal_pnil, ofVal_nilfn, ofVal_nilif, List.length, List.cons_append, List.nil_append, List.append_nil, Nat.reduceSub, Nat.reduceAdd, List.map, List.map_cons, List.map_nil]
  try subst hK
  try change EvC _ _ _ _ _
  try change EvC _ _ _ _ _
  repeat refine EvC.seq ?_
  try generalize hK : SeqQ _ _ _ = K
  refine EvC.reg ?_
  repeat (first | refine EvO.T rfl rfl rfl rfl ?_ | refine EvO.L rfl rfl rfl rfl ?_ | refine EvO.N rfl rfl rfl ?_ | refine EvO.offT rfl rfl ?_ | refine EvO.offL rfl rfl ?_)
  refine EvO.nil ?_
  dsimp only [Fr.putO, Fr.put, Fr.clean, Fr.ev, Fr.get, nth, Go.V.look, List.set_cons_succ, List.set_cons_zero, ofVal_int, ofVal_bool, ofVal_str, ofVal_nul, ofVal_pnil, ofVal_nilfn, ofVal_nilif, List.length, List.cons_append, List.nil_append, List.append_nil, Nat.reduceSub, Nat.reduceAdd, List.map, List.map_cons, List.map_nil]
  try subst hK
  try change EvC _ _ _ _ _
  try change EvC _ _ _ _ _
  repeat refine EvC.seq ?_
  refine EvC.block ?_
  refine EvC.loop (fun m fr st' => ∃ (done : Nat) (out : D), fr.clean = ⟨4, [.ptr k v 0, .tup [], .nul, out], []⟩ ∧ st'.bs[k]? = some (.mem v false ((h ++ j).map u8D ++ [.int .i64 (m : Nat)])) ∧ Exk st.bs.length k (enterSt .rw st) st' ∧ Acc st.bs.length st' 2 out ((badS done).map gotC) ∧ done + m = h.length) h.length
    ⟨0, .nul, rfl, hm00, ⟨fun _ _ _ => rfl, Nat.le_refl _, rfl, rfl⟩, .nul, by omega⟩ ?_
  rintro m fr st' ⟨done, out, hfr, hm3, hx, hacc, hdm⟩
  rw [hfr]
  have hN : st.bs.length ≤ st'.bs.length := hx.len
  have hflr : st'.flr = st.bs.length := by rw [hx.flr]; rfl
  have hro2 : st'.ro = st.ro := by rw [hx.ro]; rfl
  try change EvC _ _ _ _ _
  repeat refine EvC.seq ?_
  try generalize hK : SeqQ _ _ _ = K
  refine EvC.reg ?_
  (first | refine EvO.T rfl rfl rfl rfl ?_ | refine EvO.L rfl rfl rfl rfl ?_ | refine EvO.N rfl rfl rfl ?_ | refine EvO.offT rfl rfl ?_ | refine EvO.offL rfl rfl ?_)
  (first | refine EvO.T rfl rfl rfl rfl ?_ | refine EvO.L rfl rfl rfl rfl ?_ | refine EvO.N rfl rfl rfl ?_ | refine EvO.offT rfl rfl ?_ | refine EvO.offL rfl rfl ?_)
  (first | refine EvO.T rfl rfl rfl rfl ?_ | refine EvO.L rfl rfl rfl rfl ?_ | refine EvO.N rfl rfl rfl ?_ | refine EvO.offT rfl rfl ?_ | refine EvO.offL rfl rfl ?_)
  refine EvO.load (k := k) (ver := v) (off := 4) rfl rfl rfl hm3 (d := .int .i64 (m : Nat)) (by rw [← hmap, List.drop_left]; rfl) ?_
  repeat (first | refine EvO.T rfl rfl rfl rfl ?_ | refine EvO.L rfl rfl rfl rfl ?_ | refine EvO.N rfl rfl rfl ?_ | refine EvO.offT rfl rfl ?_ | refine EvO.offL rfl rfl ?_)
  refine EvO.nil ?_
  dsimp only [Fr.putO, Fr.put, Fr.clean, Fr.ev, Fr.get, nth, Go.V.look, List.set_cons_succ, List.set_cons_zero, ofVal_int, ofVal_bool, ofVal_str, ofVal_nul, ofVal_pnil, ofVal_nilfn, ofVal_nilif, List.length, List.cons_append, List.nil_append, List.append_nil, Nat.reduceSub, Nat.reduceAdd, List.map, List.map_cons, List.map_nil]
  try subst hK
  try change EvC _ _ _ _ _
  try change EvC _ _ _ _ _
  repeat refine EvC.seq ?_
  refine EvC.cond rfl (fun h1 => ?_) (fun h1 => ?_) <;> try simp only [decide_eq_true_eq, decide_eq_false_iff_not, beq_iff_eq, beq_eq_false_iff_ne, bne_iff_ne, bne_eq_false_iff_eq, ne_eq, Bool.not_eq_true', Bool.not_eq_false', Bool.not_eq_true, Bool.not_eq_false] at h1
  · refine EvC.skip ?_
    try change EvC _ _ _ _ _
    obtain ⟨m, rfl⟩ : ∃ m', m = m' + 1 := ⟨m - 1, by omega⟩
    try change EvC _ _ _ _ _
    repeat refine EvC.seq ?_
    refine EvC.block ?_
    try change EvC _ _ _ _ _
    repeat refine EvC.seq ?_
    try generalize hK : SeqQ _ _ _ = K
    refine EvC.reg ?_
    (first | refine EvO.T rfl rfl rfl rfl ?_ | refine EvO.L rfl rfl rfl rfl ?_ | refine EvO.N rfl rfl rfl ?_ | refine EvO.offT rfl rfl ?_ | refine EvO.offL rfl rfl ?_)
    refine EvO.T rfl rfl rfl (d := .agg (gotC (65533, 1))) (st1 := st') rfl ?_
    refine EvO.T rfl rfl rfl (d := .win st'.bs.length 0 0 1 2) (st1 := st'.push (.mem 0 true (gotC (65533, 1)))) rfl ?_
    refine EvO.append rfl rfl rfl rfl (hacc.push _) (Rows.one rfl) rfl rfl rfl rfl rfl rfl rfl (by decide) (by simp [St.push]; omega) (by show st'.flr ≤ _; omega) (by show st'.ro ≤ _; omega) (by simp only [List.length_map, List.length_cons, List.length_nil, badS, List.length_replicate]; show (done + 1) * 16 ≤ _; omega) fun out' st2 hacc2 hex2 _ hsame _ => ?_
    repeat (first | refine EvO.T rfl rfl rfl rfl ?_ | refine EvO.L rfl rfl rfl rfl ?_ | refine EvO.N rfl rfl rfl ?_ | refine EvO.offT rfl rfl ?_ | refine EvO.offL rfl rfl ?_)
    refine EvO.nil ?_
    dsimp only [Fr.putO, Fr.put, Fr.clean, Fr.ev, Fr.get, nth, Go.V.look, List.set_cons_succ, List.set_cons_zero, ofVal_int, ofVal_bool, ofVal_str, ofVal_nul, ofVal_pnil, ofVal_nilfn, ofVal_nilif, List.length, List.cons_append, List.nil_append, List.append_nil, Nat.reduceSub, Nat.reduceAdd, List.map, List.map_cons, List.map_nil]
    try subst hK
    try change EvC _ _ _ _ _
    have hx2 : Exk st.bs.length k (enterSt .rw st) st2 := (hx.of (Ex.push hN (.mem 0 true (gotC (65533, 1))))).of hex2
    have hm4 : st2.bs[k]? = some (.mem v false ((h ++ j).map u8D ++ [.int .i64 ((m + 1 : Nat) : Int)])) := by
      rw [hex2.low k (by omega)]
      simp only [St.push]; rw [List.getElem?_append_left (by omega)]; exact hm3
    have hro4 : st2.ro = st.ro := by rw [hx2.ro]; rfl
    have hk2 : k < st2.bs.length := by have := hx2.len; have e : (enterSt .rw st).bs.length = st.bs.length := rfl; omega
    try change EvC _ _ _ _ _
    repeat refine EvC.seq ?_
    try generalize hK : SeqQ _ _ _ = K
    refine EvC.reg ?_
    (first | refine EvO.T rfl rfl rfl rfl ?_ | refine EvO.L rfl rfl rfl rfl ?_ | refine EvO.N rfl rfl rfl ?_ | refine EvO.offT rfl rfl ?_ | refine EvO.offL rfl rfl ?_)
    (first | refine EvO.T rfl rfl rfl rfl ?_ | refine EvO.L rfl rfl rfl rfl ?_ | refine EvO.N rfl rfl rfl ?_ | refine EvO.offT rfl rfl ?_ | refine EvO.offL rfl rfl ?_)
    (first | refine EvO.T rfl rfl rfl rfl ?_ | refine EvO.L rfl rfl rfl rfl ?_ | refine EvO.N rfl rfl rfl ?_ | refine EvO.offT rfl rfl ?_ | refine EvO.offL rfl rfl ?_)
    refine EvO.load (k := k) (ver := v) (off := 4) rfl rfl rfl hm4 (d := .int .i64 ((m + 1 : Nat) : Int)) (by rw [← hmap, List.drop_left]; rfl) ?_
    (first | refine EvO.T rfl rfl rfl rfl ?_ | refine EvO.L rfl rfl rfl rfl ?_ | refine EvO.N rfl rfl rfl ?_ | refine EvO.offT rfl rfl ?_ | refine EvO.offL rfl rfl ?_)
    rw [wrap_i64 (by omega) (by omega), show ((m + 1 : Nat) : Int) - 1 = (m : Nat) by omega]
    (first | refine EvO.T rfl rfl rfl rfl ?_ | refine EvO.L rfl rfl rfl rfl ?_ | refine EvO.N rfl rfl rfl ?_ | refine EvO.offT rfl rfl ?_ | refine EvO.offL rfl rfl ?_)
    (first | refine EvO.T rfl rfl rfl rfl ?_ | refine EvO.L rfl rfl rfl rfl ?_ | refine EvO.N rfl rfl rfl ?_ | refine EvO.offT rfl rfl ?_ | refine EvO.offL rfl rfl ?_)
    refine EvO.store (k := k) (ver := v) (off := 4) (cs := [.int .i64 (m : Nat)]) rfl rfl rfl rfl rfl hm4 (by rw [List.length_append, hmap]; exact Nat.le_refl _) (hcan st2 hro4) ?_
    have hc2 : ((h ++ j).map u8D ++ [D.int .i64 ((m + 1 : Nat) : Int)]).take 4 ++ [.int .i64 (m : Nat)] ++ ((h ++ j).map u8D ++ [D.int .i64 ((m + 1 : Nat) : Int)]).drop (4 + [D.int .i64 (m : Nat)].length) = (h ++ j).map u8D ++ [.int .i64 (m : Nat)] := by
      rw [List.take_left' hmap, List.drop_eq_nil_of_le (by rw [List.length_append, hmap]; exact Nat.le_refl _), List.append_nil]
    rw [hc2]
    refine EvO.nil ?_
    dsimp only [Fr.putO, Fr.put, Fr.clean, Fr.ev, Fr.get, nth, Go.V.look, List.set_cons_succ, List.set_cons_zero, ofVal_int, ofVal_bool, ofVal_str, ofVal_nul, ofVal_pnil, ofVal_nilfn, ofVal_nilif, List.length, List.cons_append, List.nil_append, List.append_nil, Nat.reduceSub, Nat.reduceAdd, List.map, List.map_cons, List.map_nil]
    try subst hK
    try change EvC _ _ _ _ _
    refine ⟨m, by omega, done + 1, out', rfl, List.getElem?_set_self hk2, hx2.put _, ?_, by omega⟩
    have : (badS (done + 1)).map gotC = (badS done).map gotC ++ [gotC (65533, 1)] := by
      unfold badS; rw [List.replicate_succ', List.map_append]; rfl
    rw [this]
    exact acc_setLow hkl hacc2 _
  · refine EvC.exit ?_
    have hm0 : m = 0 := by omega
    subst hm0
    have hd : done = h.length := by omega
    subst hd
    try change EvC _ _ _ _ _
    repeat refine EvC.seq ?_
    try generalize hK : SeqQ _ _ _ = K
    refine EvC.reg ?_
    repeat (first | refine EvO.T rfl rfl rfl rfl ?_ | refine EvO.L rfl rfl rfl rfl ?_ | refine EvO.N rfl rfl rfl ?_ | refine EvO.offT rfl rfl ?_ | refine EvO.offL rfl rfl ?_)
    refine EvO.nil ?_
    dsimp only [Fr.putO, Fr.put, Fr.clean, Fr.ev, Fr.get, nth, Go.V.look, List.set_cons_succ, List.set_cons_zero, ofVal_int, ofVal_bool, ofVal_str, ofVal_nul, ofVal_pnil, ofVal_nilfn, ofVal_nilif, List.length, List.cons_append, List.nil_append, List.append_nil, Nat.reduceSub, Nat.reduceAdd, List.map, List.map_cons, List.map_nil]
    try subst hK
    try change EvC _ _ _ _ _
    refine EvC.ret ⟨fun i h => (by cases h), _, rfl, leave_rw ?_ ?_⟩
    · exact hx.take (a := enterSt .rw st) hkl hm3
    · exact hacc.freeze gotC_plain (n := 15) (by decide)
end Go.Proofs.Ytlljdbhefepheaa
