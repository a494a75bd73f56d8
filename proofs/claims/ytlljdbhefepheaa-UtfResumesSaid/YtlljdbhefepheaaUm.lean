import Derived.Test.YtlljdbhefepheaaUk
namespace Go.Proofs.Ytlljdbhefepheaa
open Go.V Go
set_option maxRecDepth 100000
set_option maxHeartbeats 4000000
set_option linter.unusedSimpArgs false
set_option linter.unusedVariables false

theorem held_ev {st : St} {k v : Nat} {h j : List UInt8} (hm : st.bs[k]? = some (.mem v false (decC h j))) (hl : (h ++ j).length = 4) (hro : st.ro ≤ st.bs.length) : Ev pv 15 [.ptr k v 0] st (bytesV h) st := by
  refine Ev.mk1 rfl fi15 rfl rfl rfl ?_
  dsimp only [List.cons_append, List.nil_append, List.length, Nat.reduceSub, Nat.reduceAdd, List.replicate_succ, List.replicate_zero]
  have hm0 : (enterSt .rw st).bs[k]? = some (.mem v false (decC h j)) := hm
  have hl2 := hl
  rw [List.length_append] at hl2
  have hcl := decC_len hl
  have hcd := decC_drop hl
  have hsub := bytes_sub (st := enterSt .rw st) (l := 0) (r := h.length) hm0 (Nat.zero_le _) (by rw [hl]; omega)
  rw [List.take_left, List.drop_zero] at hsub
  try change EvC _ _ _ _ _ _
  repeat refine EvC.seq ?_
  try generalize hK : SeqQ _ _ _ _ = K
  refine EvC.reg ?_
  repeat (first | refine EvO.T rfl rfl rfl rfl ?_ | refine EvO.L rfl rfl rfl rfl ?_ | refine EvO.N rfl rfl rfl ?_ | refine EvO.offT rfl rfl ?_ | refine EvO.offL rfl rfl ?_)
  refine EvO.nil ?_
  dsimp only [Fr.putO, Fr.put, Fr.clean, Fr.ev, Fr.get, nth, Go.V.look, List.set_cons_succ, List.set_cons_zero, ofVal_int, ofVal_bool, ofVal_str, ofVal_nul, ofVal_pnil, ofVal_nilfn, ofVal_nilif, List.length, List.cons_append, List.nil_append, List.append_nil, Nat.reduceSub, Nat.reduceAdd, List.map, List.map_cons, List.map_nil]
  try subst hK
  try change EvC _ _ _ _ _ _
  try change EvC _ _ _ _ _ _
  repeat refine EvC.seq ?_
  try generalize hK : SeqQ _ _ _ _ = K
  refine EvC.reg ?_
  (first | refine EvO.T rfl rfl rfl rfl ?_ | refine EvO.L rfl rfl rfl rfl ?_ | refine EvO.N rfl rfl rfl ?_ | refine EvO.offT rfl rfl ?_ | refine EvO.offL rfl rfl ?_)
  (first | refine EvO.T rfl rfl rfl rfl ?_ | refine EvO.L rfl rfl rfl rfl ?_ | refine EvO.N rfl rfl rfl ?_ | refine EvO.offT rfl rfl ?_ | refine EvO.offL rfl rfl ?_)
  (first | refine EvO.T rfl rfl rfl rfl ?_ | refine EvO.L rfl rfl rfl rfl ?_ | refine EvO.N rfl rfl rfl ?_ | refine EvO.offT rfl rfl ?_ | refine EvO.offL rfl rfl ?_)
  (first | refine EvO.T rfl rfl rfl rfl ?_ | refine EvO.L rfl rfl rfl rfl ?_ | refine EvO.N rfl rfl rfl ?_ | refine EvO.offT rfl rfl ?_ | refine EvO.offL rfl rfl ?_)
  (first | refine EvO.T rfl rfl rfl rfl ?_ | refine EvO.L rfl rfl rfl rfl ?_ | refine EvO.N rfl rfl rfl ?_ | refine EvO.offT rfl rfl ?_ | refine EvO.offL rfl rfl ?_)
  (first | refine EvO.T rfl rfl rfl rfl ?_ | refine EvO.L rfl rfl rfl rfl ?_ | refine EvO.N rfl rfl rfl ?_ | refine EvO.offT rfl rfl ?_ | refine EvO.offL rfl rfl ?_)
  refine EvO.load (k := k) (ver := v) (off := 4) rfl rfl rfl hm0 (d := .int .i64 (h.length : Nat)) (by rw [hcd]; rfl) ?_
  refine EvO.sliceArr (l := 0) (r := h.length) rfl rfl rfl rfl rfl hm0 (by rw [hcl]; decide) ?_ ?_
  · show boundsD 4 none (some (.int .i64 (h.length : Nat))) = _
    simp only [boundsD, optBound, boundD]
    rw [if_pos ⟨by omega, by omega⟩]; rfl
  refine EvO.append (N := st.bs.length) (x := .nul) (es := []) (y := .win k v 0 (h.length - 0) 1) (ys := byteCells h) rfl rfl rfl rfl .nul hsub rfl rfl rfl rfl rfl rfl rfl (by decide) (Nat.le_refl _) (Nat.le_refl _) hro (by rw [byteCells_len]; show (0 + h.length) * 1 ≤ _; omega) fun x' st2 hacc hex _ _ _ => ?_
  rw [List.nil_append] at hacc
  repeat (first | refine EvO.T rfl rfl rfl rfl ?_ | refine EvO.L rfl rfl rfl rfl ?_ | refine EvO.N rfl rfl rfl ?_ | refine EvO.offT rfl rfl ?_ | refine EvO.offL rfl rfl ?_)
  refine EvO.nil ?_
  dsimp only [Fr.putO, Fr.put, Fr.clean, Fr.ev, Fr.get, nth, Go.V.look, List.set_cons_succ, List.set_cons_zero, ofVal_int, ofVal_bool, ofVal_str, ofVal_nul, ofVal_pnil, ofVal_nilfn, ofVal_nilif, List.length, List.cons_append, List.nil_append, List.append_nil, Nat.reduceSub, Nat.reduceAdd, List.map, List.map_cons, List.map_nil]
  try subst hK
  try change EvC _ _ _ _ _ _
  refine EvC.ret ⟨fun i h => (by cases h), _, rfl, leave_same (by simp) (hex.take rfl) ?_⟩
  exact hacc.freeze (byteCells_plain h) (n := 15) (by decide)

def badS (n : Nat) : List (Nat × Nat) := List.replicate n (65533, 1)

theorem end_ev {st : St} {k v : Nat} {h j : List UInt8} (hm : st.bs[k]? = some (.mem v false (decC h j))) (hl : (h ++ j).length = 4) (hro : st.ro ≤ k) :
    Ev pv 21 [.ptr k v 0] st (gotsD (badS h.length)) ⟨st.bs.set k (.mem v false (decC [] (h ++ j))), st.flr, st.ro⟩ := by
  have hkl : k < st.bs.length := by
    rcases Nat.lt_or_ge k st.bs.length with h' | h'
    · exact h'
    · rw [List.getElem?_eq_none h'] at hm; cases hm
  have hl2 := hl
  rw [List.length_append] at hl2
  refine Ev.mk1 rfl fi21 rfl rfl rfl ?_
  dsimp only [List.cons_append, List.nil_append, List.length, Nat.reduceSub, Nat.reduceAdd, List.replicate_succ, List.replicate_zero]
  have hmap : ((h ++ j).map u8D).length = 4 := by rw [List.length_map, hl]
  have hcan : ∀ S : St, S.ro = st.ro → S.canW k 0 = true := fun S hS => canW_flat (by omega)
  have hm00 : (enterSt .rw st).bs[k]? = some (.mem v false ((h ++ j).map u8D ++ [.int .i64 (h.length : Nat)])) := hm
  try change EvC _ _ _ _ _ _
  repeat refine EvC.seq ?_
  try generalize hK : SeqQ _ _ _ _ = K
  refine EvC.reg ?_
  repeat (first | refine EvO.T rfl rfl rfl rfl ?_ | refine EvO.L rfl rfl rfl rfl ?_ | refine EvO.N rfl rfl rfl ?_ | refine EvO.offT rfl rfl ?_ | refine EvO.offL rfl rfl ?_)
  refine EvO.nil ?_
  dsimp only [Fr.putO, Fr.put, Fr.clean, Fr.ev, Fr.get, nth, Go.V.look, List.set_cons_succ, List.set_cons_zero, ofVal_int, ofVal_bool, ofVal_str, ofVal_nul, ofVal_pnil, ofVal_nilfn, ofVal_nilif, List.length, List.cons_append, List.nil_append, List.append_nil, Nat.reduceSub, Nat.reduceAdd, List.map, List.map_cons, List.map_nil]
  try subst hK
  try change EvC _ _ _ _ _ _
  try change EvC _ _ _ _ _ _
  repeat refine EvC.seq ?_
  try generalize hK : SeqQ _ _ _ _ = K
  refine EvC.reg ?_
  repeat (first | refine EvO.T rfl rfl rfl rfl ?_ | refine EvO.L rfl rfl rfl rfl ?_ | refine EvO.N rfl rfl rfl ?_ | refine EvO.offT rfl rfl ?_ | refine EvO.offL rfl rfl ?_)
  refine EvO.nil ?_
  dsimp only [Fr.putO, Fr.put, Fr.clean, Fr.ev, Fr.get, nth, Go.V.look, List.set_cons_succ, List.set_cons_zero, ofVal_int, ofVal_bool, ofVal_str, ofVal_nul, ofVal_pnil, ofVal_nilfn, ofVal_nilif, List.length, List.cons_append, List.nil_append, List.append_nil, Nat.reduceSub, Nat.reduceAdd, List.map, List.map_cons, List.map_nil]
  try subst hK
  try change EvC _ _ _ _ _ _
  try change EvC _ _ _ _ _ _
  repeat refine EvC.seq ?_
  refine EvC.block ?_
  refine EvC.loop (fun m fr st' => ∃ (done : Nat) (out : D), fr.clean = ⟨4, [.ptr k v 0, .tup [], .nul, out], []⟩ ∧ st'.bs[k]? = some (.mem v false ((h ++ j).map u8D ++ [.int .i64 (m : Nat)])) ∧ Exk st.bs.length k (enterSt .rw st) st' ∧ Acc st.bs.length st' 2 out ((badS done).map gotC) ∧ done + m = h.length) h.length
    ⟨0, .nul, rfl, hm00, ⟨fun _ _ _ => rfl, Nat.le_refl _, rfl, rfl⟩, .nul, by omega⟩ ?_
  rintro m fr st' ⟨done, out, hfr, hm3, hx, hacc, hdm⟩
  rw [hfr]
  have hN : st.bs.length ≤ st'.bs.length := hx.len
  have hflr : st'.flr = st.bs.length := by rw [hx.flr]; rfl
  have hro2 : st'.ro = st.ro := by rw [hx.ro]; rfl
  try change EvC _ _ _ _ _ _
  repeat refine EvC.seq ?_
  try generalize hK : SeqQ _ _ _ _ = K
  refine EvC.reg ?_
  (first | refine EvO.T rfl rfl rfl rfl ?_ | refine EvO.L rfl rfl rfl rfl ?_ | refine EvO.N rfl rfl rfl ?_ | refine EvO.offT rfl rfl ?_ | refine EvO.offL rfl rfl ?_)
  (first | refine EvO.T rfl rfl rfl rfl ?_ | refine EvO.L rfl rfl rfl rfl ?_ | refine EvO.N rfl rfl rfl ?_ | refine EvO.offT rfl rfl ?_ | refine EvO.offL rfl rfl ?_)
  (first | refine EvO.T rfl rfl rfl rfl ?_ | refine EvO.L rfl rfl rfl rfl ?_ | refine EvO.N rfl rfl rfl ?_ | refine EvO.offT rfl rfl ?_ | refine EvO.offL rfl rfl ?_)
  refine EvO.load (k := k) (ver := v) (off := 4) rfl rfl rfl hm3 (d := .int .i64 (m : Nat)) (by rw [← hmap, List.drop_left]; rfl) ?_
  repeat (first | refine EvO.T rfl rfl rfl rfl ?_ | refine EvO.L rfl rfl rfl rfl ?_ | refine EvO.N rfl rfl rfl ?_ | refine EvO.offT rfl rfl ?_ | refine EvO.offL rfl rfl ?_)
  refine EvO.nil ?_
  dsimp only [Fr.putO, Fr.put, Fr.clean, Fr.ev, Fr.get, nth, Go.V.look, List.set_cons_succ, List.set_cons_zero, ofVal_int, ofVal_bool, ofVal_str, ofVal_nul, ofVal_pnil, ofVal_nilfn, ofVal_nilif, List.length, List.cons_append, List.nil_append, List.append_nil, Nat.reduceSub, Nat.reduceAdd, List.map, List.map_cons, List.map_nil]
  try subst hK
  try change EvC _ _ _ _ _ _
  try change EvC _ _ _ _ _ _
  repeat refine EvC.seq ?_
  refine EvC.cond rfl (fun h1 => ?_) (fun h1 => ?_) <;> try simp only [decide_eq_true_eq, decide_eq_false_iff_not, beq_iff_eq, beq_eq_false_iff_ne, bne_iff_ne, bne_eq_false_iff_eq, ne_eq, Bool.not_eq_true', Bool.not_eq_false', Bool.not_eq_true, Bool.not_eq_false] at h1
  · refine EvC.skip ?_
    try change EvC _ _ _ _ _ _
    obtain ⟨m, rfl⟩ : ∃ m', m = m' + 1 := ⟨m - 1, by omega⟩
    try change EvC _ _ _ _ _ _
    repeat refine EvC.seq ?_
    refine EvC.block ?_
    try change EvC _ _ _ _ _ _
    repeat refine EvC.seq ?_
    try generalize hK : SeqQ _ _ _ _ = K
    refine EvC.reg ?_
    (first | refine EvO.T rfl rfl rfl rfl ?_ | refine EvO.L rfl rfl rfl rfl ?_ | refine EvO.N rfl rfl rfl ?_ | refine EvO.offT rfl rfl ?_ | refine EvO.offL rfl rfl ?_)
    refine EvO.T rfl rfl rfl (d := .agg (gotC (65533, 1))) (st1 := st') rfl ?_
    refine EvO.T rfl rfl rfl (d := .win st'.bs.length 0 0 1 2) (st1 := st'.push (.mem 0 true (gotC (65533, 1)))) rfl ?_
    refine EvO.append rfl rfl rfl rfl (hacc.push _) (Rows.one rfl) rfl rfl rfl rfl rfl rfl rfl (by decide) (by simp [St.push]; omega) (by show st'.flr ≤ _; omega) (by show st'.ro ≤ _; omega) (by simp only [List.length_map, List.length_cons, List.length_nil, badS, List.length_replicate]; show (done + 1) * 16 ≤ _; omega) fun out' st2 hacc2 hex2 _ hsame _ => ?_
    repeat (first | refine EvO.T rfl rfl rfl rfl ?_ | refine EvO.L rfl rfl rfl rfl ?_ | refine EvO.N rfl rfl rfl ?_ | refine EvO.offT rfl rfl ?_ | refine EvO.offL rfl rfl ?_)
    refine EvO.nil ?_
    dsimp only [Fr.putO, Fr.put, Fr.clean, Fr.ev, Fr.get, nth, Go.V.look, List.set_cons_succ, List.set_cons_zero, ofVal_int, ofVal_bool, ofVal_str, ofVal_nul, ofVal_pnil, ofVal_nilfn, ofVal_nilif, List.length, List.cons_append, List.nil_append, List.append_nil, Nat.reduceSub, Nat.reduceAdd, List.map, List.map_cons, List.map_nil]
    try subst hK
    try change EvC _ _ _ _ _ _
    have hx2 : Exk st.bs.length k (enterSt .rw st) st2 := (hx.of (Ex.push hN (.mem 0 true (gotC (65533, 1))))).of hex2
    have hm4 : st2.bs[k]? = some (.mem v false ((h ++ j).map u8D ++ [.int .i64 ((m + 1 : Nat) : Int)])) := by
      rw [hex2.low k (by omega)]
      simp only [St.push]; rw [List.getElem?_append_left (by omega)]; exact hm3
    have hro4 : st2.ro = st.ro := by rw [hx2.ro]; rfl
    have hk2 : k < st2.bs.length := by have := hx2.len; have e : (enterSt .rw st).bs.length = st.bs.length := rfl; omega
    try change EvC _ _ _ _ _ _
    repeat refine EvC.seq ?_
    try generalize hK : SeqQ _ _ _ _ = K
    refine EvC.reg ?_
    (first | refine EvO.T rfl rfl rfl rfl ?_ | refine EvO.L rfl rfl rfl rfl ?_ | refine EvO.N rfl rfl rfl ?_ | refine EvO.offT rfl rfl ?_ | refine EvO.offL rfl rfl ?_)
    (first | refine EvO.T rfl rfl rfl rfl ?_ | refine EvO.L rfl rfl rfl rfl ?_ | refine EvO.N rfl rfl rfl ?_ | refine EvO.offT rfl rfl ?_ | refine EvO.offL rfl rfl ?_)
    (first | refine EvO.T rfl rfl rfl rfl ?_ | refine EvO.L rfl rfl rfl rfl ?_ | refine EvO.N rfl rfl rfl ?_ | refine EvO.offT rfl rfl ?_ | refine EvO.offL rfl rfl ?_)
    refine EvO.load (k := k) (ver := v) (off := 4) rfl rfl rfl hm4 (d := .int .i64 ((m + 1 : Nat) : Int)) (by rw [← hmap, List.drop_left]; rfl) ?_
    (first | refine EvO.T rfl rfl rfl rfl ?_ | refine EvO.L rfl rfl rfl rfl ?_ | refine EvO.N rfl rfl rfl ?_ | refine EvO.offT rfl rfl ?_ | refine EvO.offL rfl rfl ?_)
    rw [wrap_i64 (by omega) (by omega), show ((m + 1 : Nat) : Int) - 1 = (m : Nat) by omega]
    (first | refine EvO.T rfl rfl rfl rfl ?_ | refine EvO.L rfl rfl rfl rfl ?_ | refine EvO.N rfl rfl rfl ?_ | refine EvO.offT rfl rfl ?_ | refine EvO.offL rfl rfl ?_)
    (first | refine EvO.T rfl rfl rfl rfl ?_ | refine EvO.L rfl rfl rfl rfl ?_ | refine EvO.N rfl rfl rfl ?_ | refine EvO.offT rfl rfl ?_ | refine EvO.offL rfl rfl ?_)
    refine EvO.store (k := k) (ver := v) (off := 4) (cs := [.int .i64 (m : Nat)]) rfl rfl rfl rfl rfl hm4 (by rw [List.length_append, hmap]; exact Nat.le_refl _) (hcan st2 hro4) ?_
    have hc2 : ((h ++ j).map u8D ++ [D.int .i64 ((m + 1 : Nat) : Int)]).take 4 ++ [.int .i64 (m : Nat)] ++ ((h ++ j).map u8D ++ [D.int .i64 ((m + 1 : Nat) : Int)]).drop (4 + [D.int .i64 (m : Nat)].length) = (h ++ j).map u8D ++ [.int .i64 (m : Nat)] := by
      rw [List.take_left' hmap, List.drop_eq_nil_of_le (by rw [List.length_append, hmap]; exact Nat.le_refl _), List.append_nil]
    rw [hc2]
    refine EvO.nil ?_
    dsimp only [Fr.putO, Fr.put, Fr.clean, Fr.ev, Fr.get, nth, Go.V.look, List.set_cons_succ, List.set_cons_zero, ofVal_int, ofVal_bool, ofVal_str, ofVal_nul, ofVal_pnil, ofVal_nilfn, ofVal_nilif, List.length, List.cons_append, List.nil_append, List.append_nil, Nat.reduceSub, Nat.reduceAdd, List.map, List.map_cons, List.map_nil]
    try subst hK
    try change EvC _ _ _ _ _ _
    refine ⟨m, by omega, done + 1, out', rfl, List.getElem?_set_self hk2, hx2.put _, ?_, by omega⟩
    have : (badS (done + 1)).map gotC = (badS done).map gotC ++ [gotC (65533, 1)] := by
      unfold badS; rw [List.replicate_succ', List.map_append]; rfl
    rw [this]
    exact acc_setLow hkl hacc2 _
  · refine EvC.exit ?_
    have hm0 : m = 0 := by omega
    subst hm0
    have hd : done = h.length := by omega
    subst hd
    try change EvC _ _ _ _ _ _
    repeat refine EvC.seq ?_
    try generalize hK : SeqQ _ _ _ _ = K
    refine EvC.reg ?_
    repeat (first | refine EvO.T rfl rfl rfl rfl ?_ | refine EvO.L rfl rfl rfl rfl ?_ | refine EvO.N rfl rfl rfl ?_ | refine EvO.offT rfl rfl ?_ | refine EvO.offL rfl rfl ?_)
    refine EvO.nil ?_
    dsimp only [Fr.putO, Fr.put, Fr.clean, Fr.ev, Fr.get, nth, Go.V.look, List.set_cons_succ, List.set_cons_zero, ofVal_int, ofVal_bool, ofVal_str, ofVal_nul, ofVal_pnil, ofVal_nilfn, ofVal_nilif, List.length, List.cons_append, List.nil_append, List.append_nil, Nat.reduceSub, Nat.reduceAdd, List.map, List.map_cons, List.map_nil]
    try subst hK
    try change EvC _ _ _ _ _ _
    refine EvC.ret ⟨fun i h => (by cases h), _, rfl, leave_rw ?_ ?_⟩
    · exact hx.take (a := enterSt .rw st) hkl hm3
    · exact hacc.freeze gotC_plain (n := 15) (by decide)

theorem rows_box {st st' : St} {s k v off len : Nat} {es : List (List D)} (h : V.Rows st s (.win k v off len s) es) (hb : st'.bs[k]? = st.bs[k]?) : V.Rows st' s (.win k v off len s) es := by
  cases h with
  | win k ver off es ar c hm hl he => exact .win k v off es ar c (by simp only [St.mem?, hb] at hm ⊢; exact hm) hl he

theorem freeze_win {N : Nat} {st : St} {s k v off len n : Nat} {es : List (List D)} (h : V.Rows st s (.win k v off len s) es) (hN : N ≤ k) (hp : ∀ e ∈ es, ∀ d ∈ e, plainC d = true) (hn : 2 ≤ n) : freezeD st N false (n + 1) (.win k v off len s) = some (.sl (es.map (elD s))) := by
  obtain ⟨n, rfl⟩ : ∃ m, n = m + 2 := ⟨n - 2, by omega⟩
  have hes : ∀ e ∈ es, e.length = s := fun e he => by
    obtain ⟨i, hi⟩ := List.getElem?_of_mem he
    exact h.elen i e hi
  have hrow := h.row
  cases h with
  | win k ver off es ar c hm hl he =>
    simp only [rowD, hm, Option.bind_some, if_pos hl, Option.some.injEq, Prod.mk.injEq, true_and] at hrow
    show (if k < N then some (D.win k v off es.length s) else pureD st N (n + 2) (.win k v off es.length s)) = _
    rw [if_neg (show ¬ k < N by omega), pureD]
    simp only [if_neg (show ¬ k < N by omega), hm, Option.bind_some]
    rw [if_pos hl, hrow, mapO_plain (fun d hd => by
      obtain ⟨e, he', hd'⟩ := List.mem_flatten.1 hd
      exact hp e he' d hd')]
    simp only [Option.map_some, chunk_flat hes]

theorem rbyte_ev {st : St} {x : D} {h : List UInt8} {c : UInt8} (hb : Bytes st x h) (h3 : h.length ≤ 3) : Ev pv 20 [x, .int .u8 (c.toNat : Nat)] st (.tup [bytesV (byteS h c).2, gotsD (byteS h c).1]) st := by
  have hx := hb.ref
  refine Ev.mk1 rfl fi20 rfl rfl rfl ?_
  dsimp only [List.cons_append, List.nil_append, List.length, Nat.reduceSub, Nat.reduceAdd, List.replicate_succ, List.replicate_zero]
  have hb1 := hb.enter .ro
  have hN0 : (enterSt .ro st).bs.length = st.bs.length := rfl
  try change EvC _ _ _ _ _ _
  repeat refine EvC.seq ?_
  try generalize hK : SeqQ _ _ _ _ = K
  refine EvC.reg ?_
  repeat (first | refine EvO.T rfl rfl rfl rfl ?_ | refine EvO.L rfl rfl rfl rfl ?_ | refine EvO.N rfl rfl rfl ?_ | refine EvO.offT rfl rfl ?_ | refine EvO.offL rfl rfl ?_)
  refine EvO.nil ?_
  dsimp only [Fr.putO, Fr.put, Fr.clean, Fr.ev, Fr.get, nth, Go.V.look, List.set_cons_succ, List.set_cons_zero, ofVal_int, ofVal_bool, ofVal_str, ofVal_nul, ofVal_pnil, ofVal_nilfn, ofVal_nilif, List.length, List.cons_append, List.nil_append, List.append_nil, Nat.reduceSub, Nat.reduceAdd, List.map, List.map_cons, List.map_nil]
  try subst hK
  try change EvC _ _ _ _ _ _
  try change EvC _ _ _ _ _ _
  repeat refine EvC.seq ?_
  try generalize hK : SeqQ _ _ _ _ = K
  refine EvC.reg ?_
  refine EvO.T rfl rfl rfl (d := .win st.bs.length 0 0 0 1) (st1 := (enterSt .ro st).push (.mem 0 true [])) rfl ?_
  have hx1 : Ex st.bs.length (enterSt .ro st) ((enterSt .ro st).push (.mem 0 true [])) := Ex.push (st := enterSt .ro st) (Nat.le_refl _) _
  have ha1 : V.Acc st.bs.length ((enterSt .ro st).push (.mem 0 true [])) 1 (.win st.bs.length 0 0 0 1) [] := .win _ _ [] (Nat.le_refl _) (push_at (enterSt .ro st) _) (by simp)
  (first | refine EvO.T rfl rfl rfl rfl ?_ | refine EvO.L rfl rfl rfl rfl ?_ | refine EvO.N rfl rfl rfl ?_ | refine EvO.offT rfl rfl ?_ | refine EvO.offL rfl rfl ?_)
  refine EvO.append rfl rfl rfl rfl ha1 (hb1.ex hx1 hx) rfl rfl rfl rfl rfl rfl rfl (by decide) hx1.len (Nat.le_refl _) (Nat.le_refl _) (by rw [byteCells_len]; show (0 + h.length) * 1 ≤ _; omega) fun y1 s1 hc1 hx2 _ _ _ => ?_
  rw [List.nil_append] at hc1
  have hx3 := hx1.trans hx2
  (first | refine EvO.T rfl rfl rfl rfl ?_ | refine EvO.L rfl rfl rfl rfl ?_ | refine EvO.N rfl rfl rfl ?_ | refine EvO.offT rfl rfl ?_ | refine EvO.offL rfl rfl ?_)
  refine EvO.T rfl rfl rfl (d := .win s1.bs.length 0 0 1 1) (st1 := s1.push (.mem 0 true [u8D c])) rfl ?_
  have hx4 := hx3.trans (Ex.push hx3.len (.mem 0 true [u8D c]))
  refine EvO.append rfl rfl rfl rfl (hc1.push _) (Rows.one (c := [u8D c]) rfl) rfl rfl rfl rfl rfl rfl rfl (by decide) hx4.len (by rw [hx4.flr]; exact Nat.le_refl _) (by rw [hx4.ro]; exact Nat.le_refl _) (by rw [byteCells_len]; show (h.length + 1) * 1 ≤ _; omega) fun y2 s2 hc2 hx5 _ _ _ => ?_
  have hx6 := hx4.trans hx5
  have hcc : byteCells h ++ [[u8D c]] = byteCells (h ++ [c]) := by simp [byteCells, u8D]
  rw [hcc] at hc2
  obtain ⟨k0, v0, rfl, hk0⟩ : ∃ k0 v0, y2 = .win k0 v0 0 (h ++ [c]).length 1 ∧ st.bs.length ≤ k0 := by
    have hne : byteCells (h ++ [c]) ≠ [] := by simp [byteCells]
    have hll := byteCells_len (h ++ [c])
    generalize byteCells (h ++ [c]) = es at *
    cases hc2 with
    | nul => exact absurd rfl hne
    | win k ver es hN hm he => exact ⟨k, ver, by rw [hll], hN⟩
  repeat (first | refine EvO.T rfl rfl rfl rfl ?_ | refine EvO.L rfl rfl rfl rfl ?_ | refine EvO.N rfl rfl rfl ?_ | refine EvO.offT rfl rfl ?_ | refine EvO.offL rfl rfl ?_)
  refine EvO.nil ?_
  dsimp only [Fr.putO, Fr.put, Fr.clean, Fr.ev, Fr.get, nth, Go.V.look, List.set_cons_succ, List.set_cons_zero, ofVal_int, ofVal_bool, ofVal_str, ofVal_nul, ofVal_pnil, ofVal_nilfn, ofVal_nilif, List.length, List.cons_append, List.nil_append, List.append_nil, Nat.reduceSub, Nat.reduceAdd, List.map, List.map_cons, List.map_nil]
  try subst hK
  try change EvC _ _ _ _ _ _
  try change EvC _ _ _ _ _ _
  repeat refine EvC.seq ?_
  try generalize hK : SeqQ _ _ _ _ = K
  refine EvC.reg ?_
  repeat (first | refine EvO.T rfl rfl rfl rfl ?_ | refine EvO.L rfl rfl rfl rfl ?_ | refine EvO.N rfl rfl rfl ?_ | refine EvO.offT rfl rfl ?_ | refine EvO.offL rfl rfl ?_)
  refine EvO.nil ?_
  dsimp only [Fr.putO, Fr.put, Fr.clean, Fr.ev, Fr.get, nth, Go.V.look, List.set_cons_succ, List.set_cons_zero, ofVal_int, ofVal_bool, ofVal_str, ofVal_nul, ofVal_pnil, ofVal_nilfn, ofVal_nilif, List.length, List.cons_append, List.nil_append, List.append_nil, Nat.reduceSub, Nat.reduceAdd, List.map, List.map_cons, List.map_nil]
  try subst hK
  try change EvC _ _ _ _ _ _
  try change EvC _ _ _ _ _ _
  repeat refine EvC.seq ?_
  refine EvC.block ?_
  generalize hK0 : SeqQ _ _ _ _ = K0
  have fin : ∀ (st' : St) (done : List (Nat × Nat)) (l : List UInt8) (ky vy oy : Nat) (out g : D) (m2 : List (Nat × D)), Ex st.bs.length (enterSt .ro st) st' → Acc st.bs.length st' 2 out (done.map gotC) → Bytes st' (.win ky vy oy l.length 1) l → st.bs.length ≤ ky → done = (byteS h c).1 → l = (byteS h c).2 →
      K0 .next ⟨9, [x, .int .u8 (c.toNat : Nat), .tup [], .tup [], .nul, .nul, .win ky vy oy l.length 1, out, g], m2⟩ st' := by
    intro st' done l ky vy oy out g m2 hx hacc hl hky hd hl2
    subst hK0
    try change EvC _ _ _ _ _ _
    repeat refine EvC.seq ?_
    try generalize hK : SeqQ _ _ _ _ = K
    refine EvC.reg ?_
    repeat (first | refine EvO.T rfl rfl rfl rfl ?_ | refine EvO.L rfl rfl rfl rfl ?_ | refine EvO.N rfl rfl rfl ?_ | refine EvO.offT rfl rfl ?_ | refine EvO.offL rfl rfl ?_)
    refine EvO.nil ?_
    dsimp only [Fr.putO, Fr.put, Fr.clean, Fr.ev, Fr.get, nth, Go.V.look, List.set_cons_succ, List.set_cons_zero, ofVal_int, ofVal_bool, ofVal_str, ofVal_nul, ofVal_pnil, ofVal_nilfn, ofVal_nilif, List.length, List.cons_append, List.nil_append, List.append_nil, Nat.reduceSub, Nat.reduceAdd, List.map, List.map_cons, List.map_nil]
    try subst hK
    try change EvC _ _ _ _ _ _
    refine EvC.ret ⟨fun i h => (by cases h), _, rfl, leave_same (by simp) (hx.take rfl) ?_⟩
    have f1 := freeze_win (N := st.bs.length) (n := 14) hl hky (byteCells_plain l) (by decide)
    have f2 := hacc.freeze (N := st.bs.length) (n := 14) gotC_plain (by decide)
    show (mapO (freezeD st' st.bs.length false 15) [.win ky vy oy l.length 1, out]).map D.tup = _
    rw [← hd, ← hl2]
    simp only [mapO, f1, f2, Option.map_some]
    rfl
  refine EvC.loop (fun m fr st' => ∃ (f : Nat) (l : List UInt8) (done : List (Nat × Nat)) (ky vy oy : Nat) (out g : D), fr.clean = ⟨9, [x, .int .u8 (c.toNat : Nat), .tup [], .tup [], .nul, .nul, .win ky vy oy l.length 1, out, g], []⟩ ∧ Ex st.bs.length (enterSt .ro st) st' ∧ Acc st.bs.length st' 2 out (done.map gotC) ∧ Bytes st' (.win ky vy oy l.length 1) l ∧ st.bs.length ≤ ky ∧ out.ref ≠ ky + 1 ∧
    m = l.length ∧ l.length ≤ f ∧ done ++ (tellF f l).1 = (byteS h c).1 ∧ (tellF f l).2 = (byteS h c).2 ∧ done.length + l.length ≤ 4) (h.length + 1)
    ⟨h.length + 1, h ++ [c], [], k0, v0, 0, .nul, _, rfl, hx6, .nul, hc2.rows, hk0, by simp [D.ref], by simp, by simp, rfl, rfl, by simp; omega⟩ ?_
  clear hc2 hx6 hx5 hx4 hc1 hx3 hx2 ha1 hx1
  rintro m fr st' ⟨f, l, done, ky, vy, oy, out, g0, hfr, hx, hacc, hl, hky, hor, rfl, hlf, ht1, ht2, hdl⟩
  rw [hfr]
  have hN : st.bs.length ≤ st'.bs.length := hx.len
  have hflr : st'.flr = st.bs.length := by rw [hx.flr]; rfl
  have hro2 : st'.ro = st.bs.length := by rw [hx.ro]; rfl
  have hkyl := hl.ref
  simp only [D.ref] at hkyl
  by_cases hl0 : l = []
  · subst hl0
    try change EvC _ _ _ _ _ _
    repeat refine EvC.seq ?_
    try generalize hK : SeqQ _ _ _ _ = K
    refine EvC.reg ?_
    (first | refine EvO.T rfl rfl rfl rfl ?_ | refine EvO.L rfl rfl rfl rfl ?_ | refine EvO.N rfl rfl rfl ?_ | refine EvO.offT rfl rfl ?_ | refine EvO.offL rfl rfl ?_)
    refine EvO.len rfl rfl rfl hl rfl ?_
    repeat (first | refine EvO.T rfl rfl rfl rfl ?_ | refine EvO.L rfl rfl rfl rfl ?_ | refine EvO.N rfl rfl rfl ?_ | refine EvO.offT rfl rfl ?_ | refine EvO.offL rfl rfl ?_ | simp (disch := omega) only [decide_eq_true, decide_eq_false, beq_yes, beq_no, bne_yes, bne_no])
    refine EvO.nil ?_
    dsimp only [Fr.putO, Fr.put, Fr.clean, Fr.ev, Fr.get, nth, Go.V.look, List.set_cons_succ, List.set_cons_zero, ofVal_int, ofVal_bool, ofVal_str, ofVal_nul, ofVal_pnil, ofVal_nilfn, ofVal_nilif, List.length, List.cons_append, List.nil_append, List.append_nil, Nat.reduceSub, Nat.reduceAdd, List.map, List.map_cons, List.map_nil]
    try subst hK
    try change EvC _ _ _ _ _ _
    try change EvC _ _ _ _ _ _
    repeat refine EvC.seq ?_
    refine EvC.cond (v := false) rfl (fun h => by cases h) fun _ => ?_
    try change EvC _ _ _ _ _ _
    refine EvC.exit ?_
    refine fin st' done [] ky vy oy out _ _ hx hacc hl hky ?_ ?_
    · have : (tellF f ([] : List UInt8)).1 = [] := by cases f <;> rfl
      rw [← ht1, this, List.append_nil]
    · rw [← ht2]; cases f <;> rfl
  have hlp : 0 < l.length := by cases l with | nil => exact absurd rfl hl0 | cons a b => simp
  obtain ⟨f, rfl⟩ : ∃ f', f = f' + 1 := ⟨f - 1, by omega⟩
  have htell : tellF (f + 1) l = if begunS l = true then ([], l) else (oneS l :: (tellF f (l.drop (oneS l).2)).1, (tellF f (l.drop (oneS l).2)).2) := by
    cases l with | nil => exact absurd rfl hl0 | cons a b => rfl
  cases hbg : begunS l with
  | true =>
    rw [htell, if_pos hbg] at ht1 ht2
    have hbe := begun_ev hl (by omega)
    rw [hbg] at hbe
    try change EvC _ _ _ _ _ _
    repeat refine EvC.seq ?_
    try generalize hK : SeqQ _ _ _ _ = K
    refine EvC.reg ?_
    (first | refine EvO.T rfl rfl rfl rfl ?_ | refine EvO.L rfl rfl rfl rfl ?_ | refine EvO.N rfl rfl rfl ?_ | refine EvO.offT rfl rfl ?_ | refine EvO.offL rfl rfl ?_)
    refine EvO.len rfl rfl rfl hl rfl ?_
    rw [byteCells_len]
    (first | refine EvO.T rfl rfl rfl rfl ?_ | refine EvO.L rfl rfl rfl rfl ?_ | refine EvO.N rfl rfl rfl ?_ | refine EvO.offT rfl rfl ?_ | refine EvO.offL rfl rfl ?_)
    simp (disch := omega) only [decide_eq_true, decide_eq_false, beq_yes, beq_no, bne_yes, bne_no]
    (first | refine EvO.T rfl rfl rfl rfl ?_ | refine EvO.L rfl rfl rfl rfl ?_ | refine EvO.N rfl rfl rfl ?_ | refine EvO.offT rfl rfl ?_ | refine EvO.offL rfl rfl ?_)
    (first | refine EvO.T rfl rfl rfl rfl ?_ | refine EvO.L rfl rfl rfl rfl ?_ | refine EvO.N rfl rfl rfl ?_ | refine EvO.offT rfl rfl ?_ | refine EvO.offL rfl rfl ?_)
    refine EvO.callT rfl rfl rfl hbe ?_
    repeat (first | refine EvO.T rfl rfl rfl rfl ?_ | refine EvO.L rfl rfl rfl rfl ?_ | refine EvO.N rfl rfl rfl ?_ | refine EvO.offT rfl rfl ?_ | refine EvO.offL rfl rfl ?_)
    refine EvO.nil ?_
    dsimp only [Fr.putO, Fr.put, Fr.clean, Fr.ev, Fr.get, nth, Go.V.look, List.set_cons_succ, List.set_cons_zero, ofVal_int, ofVal_bool, ofVal_str, ofVal_nul, ofVal_pnil, ofVal_nilfn, ofVal_nilif, List.length, List.cons_append, List.nil_append, List.append_nil, Nat.reduceSub, Nat.reduceAdd, List.map, List.map_cons, List.map_nil]
    try subst hK
    try change EvC _ _ _ _ _ _
    try change EvC _ _ _ _ _ _
    repeat refine EvC.seq ?_
    refine EvC.cond (v := false) rfl (fun h => by cases h) fun _ => ?_
    try change EvC _ _ _ _ _ _
    refine EvC.exit ?_
    exact fin st' done l ky vy oy out _ _ hx hacc hl hky (by rw [← ht1, List.append_nil]) (by rw [← ht2])
  | false =>
    rw [htell, if_neg (by rw [hbg]; simp)] at ht1 ht2
    have hbe := begun_ev hl (by omega)
    rw [hbg] at hbe
    have hof := rfirst_ev hl (by omega)
    have hg4 := oneS_le hl0
    have hgp := oneS_pos l
    generalize hg : oneS l = g at *
    try change EvC _ _ _ _ _ _
    repeat refine EvC.seq ?_
    try generalize hK : SeqQ _ _ _ _ = K
    refine EvC.reg ?_
    (first | refine EvO.T rfl rfl rfl rfl ?_ | refine EvO.L rfl rfl rfl rfl ?_ | refine EvO.N rfl rfl rfl ?_ | refine EvO.offT rfl rfl ?_ | refine EvO.offL rfl rfl ?_)
    refine EvO.len rfl rfl rfl hl rfl ?_
    rw [byteCells_len]
    (first | refine EvO.T rfl rfl rfl rfl ?_ | refine EvO.L rfl rfl rfl rfl ?_ | refine EvO.N rfl rfl rfl ?_ | refine EvO.offT rfl rfl ?_ | refine EvO.offL rfl rfl ?_)
    simp (disch := omega) only [decide_eq_true, decide_eq_false, beq_yes, beq_no, bne_yes, bne_no]
    (first | refine EvO.T rfl rfl rfl rfl ?_ | refine EvO.L rfl rfl rfl rfl ?_ | refine EvO.N rfl rfl rfl ?_ | refine EvO.offT rfl rfl ?_ | refine EvO.offL rfl rfl ?_)
    (first | refine EvO.T rfl rfl rfl rfl ?_ | refine EvO.L rfl rfl rfl rfl ?_ | refine EvO.N rfl rfl rfl ?_ | refine EvO.offT rfl rfl ?_ | refine EvO.offL rfl rfl ?_)
    refine EvO.callT rfl rfl rfl hbe ?_
    repeat (first | refine EvO.T rfl rfl rfl rfl ?_ | refine EvO.L rfl rfl rfl rfl ?_ | refine EvO.N rfl rfl rfl ?_ | refine EvO.offT rfl rfl ?_ | refine EvO.offL rfl rfl ?_)
    refine EvO.nil ?_
    dsimp only [Fr.putO, Fr.put, Fr.clean, Fr.ev, Fr.get, nth, Go.V.look, List.set_cons_succ, List.set_cons_zero, ofVal_int, ofVal_bool, ofVal_str, ofVal_nul, ofVal_pnil, ofVal_nilfn, ofVal_nilif, List.length, List.cons_append, List.nil_append, List.append_nil, Nat.reduceSub, Nat.reduceAdd, List.map, List.map_cons, List.map_nil]
    try subst hK
    try change EvC _ _ _ _ _ _
    try change EvC _ _ _ _ _ _
    repeat refine EvC.seq ?_
    refine EvC.cond (v := true) rfl (fun _ => ?_) (fun h => by cases h)
    try change EvC _ _ _ _ _ _
    refine EvC.skip ?_
    try change EvC _ _ _ _ _ _
    try change EvC _ _ _ _ _ _
    repeat refine EvC.seq ?_
    refine EvC.block ?_
    try change EvC _ _ _ _ _ _
    repeat refine EvC.seq ?_
    try generalize hK : SeqQ _ _ _ _ = K
    refine EvC.reg ?_
    (first | refine EvO.T rfl rfl rfl rfl ?_ | refine EvO.L rfl rfl rfl rfl ?_ | refine EvO.N rfl rfl rfl ?_ | refine EvO.offT rfl rfl ?_ | refine EvO.offL rfl rfl ?_)
    refine EvO.callT rfl rfl rfl hof ?_
    refine EvO.L rfl rfl rfl (d := .ptr st'.bs.length 0 0) (st1 := st'.push (.mem 0 false (gotC (0, 0)))) rfl ?_
    refine EvO.store (k := st'.bs.length) (ver := 0) (off := 0) (cs := gotC g) rfl rfl rfl rfl rfl (push_at st' _) (by simp [gotC]) (canW_own (N := st.bs.length) hN (by rw [← hflr]; exact Nat.le_refl _) (by rw [← hro2]; exact Nat.le_refl _)) ?_
    refine EvO.nil ?_
    dsimp only [Fr.putO, Fr.put, Fr.clean, Fr.ev, Fr.get, nth, Go.V.look, List.set_cons_succ, List.set_cons_zero, ofVal_int, ofVal_bool, ofVal_str, ofVal_nul, ofVal_pnil, ofVal_nilfn, ofVal_nilif, List.length, List.cons_append, List.nil_append, List.append_nil, Nat.reduceSub, Nat.reduceAdd, List.map, List.map_cons, List.map_nil]
    try subst hK
    try change EvC _ _ _ _ _ _
    rw [show (⟨(st'.push (.mem 0 false (gotC (0, 0)))).bs.set st'.bs.length (.mem 0 false ((gotC (0, 0)).take 0 ++ gotC g ++ (gotC (0, 0)).drop (0 + (gotC g).length))), (st'.push (.mem 0 false (gotC (0, 0)))).flr, (st'.push (.mem 0 false (gotC (0, 0)))).ro⟩ : St) = st'.push (.mem 0 false (gotC g)) from push_set rfl]
    have hex1 := hx.trans (Ex.push hN (.mem 0 false (gotC g)))
    have hkb : ∀ b : Box, (st'.push b).bs[ky]? = st'.bs[ky]? := fun b => by simp only [St.push]; rw [List.getElem?_append_left (by omega)]
    have hl1 : Bytes (st'.push (.mem 0 false (gotC g))) (.win ky vy oy l.length 1) l := rows_box hl (hkb _)
    generalize hS1 : st'.push (.mem 0 false (gotC g)) = S1 at hex1 hl1
    have hg1 : S1.bs[st'.bs.length]? = some (.mem 0 false (gotC g)) := by subst hS1; exact push_at st' _
    have hacc1 : V.Acc st.bs.length S1 2 out (done.map gotC) := by subst hS1; exact hacc.push _
    have hl2 : st'.bs.length < S1.bs.length := by subst hS1; simp [St.push]
    have hor2 := hacc.ref
    try change EvC _ _ _ _ _ _
    repeat refine EvC.seq ?_
    try generalize hK : SeqQ _ _ _ _ = K
    refine EvC.reg ?_
    (first | refine EvO.T rfl rfl rfl rfl ?_ | refine EvO.L rfl rfl rfl rfl ?_ | refine EvO.N rfl rfl rfl ?_ | refine EvO.offT rfl rfl ?_ | refine EvO.offL rfl rfl ?_)
    refine EvO.load (k := st'.bs.length) (ver := 0) (off := 0) (ar := false) (c := gotC g) (d := .agg (gotC g)) rfl rfl rfl hg1 rfl ?_
    refine EvO.T rfl rfl rfl (d := .win S1.bs.length 0 0 1 2) (st1 := S1.push (.mem 0 true (gotC g))) rfl ?_
    have hex2 := hex1.trans (Ex.push hex1.len (.mem 0 true (gotC g)))
    refine EvO.append rfl rfl rfl rfl (hacc1.push _) (Rows.one rfl) rfl rfl rfl rfl rfl rfl rfl (by decide) hex2.len (by rw [hex2.flr]; exact Nat.le_refl _) (by rw [hex2.ro]; exact Nat.le_refl _) (by simp only [List.length_map, List.length_cons, List.length_nil]; show (done.length + 1) * 16 ≤ _; omega) fun out' st2 hacc2 hex3 _ hsame hrf => ?_
    repeat (first | refine EvO.T rfl rfl rfl rfl ?_ | refine EvO.L rfl rfl rfl rfl ?_ | refine EvO.N rfl rfl rfl ?_ | refine EvO.offT rfl rfl ?_ | refine EvO.offL rfl rfl ?_)
    refine EvO.nil ?_
    dsimp only [Fr.putO, Fr.put, Fr.clean, Fr.ev, Fr.get, nth, Go.V.look, List.set_cons_succ, List.set_cons_zero, ofVal_int, ofVal_bool, ofVal_str, ofVal_nul, ofVal_pnil, ofVal_nilfn, ofVal_nilif, List.length, List.cons_append, List.nil_append, List.append_nil, Nat.reduceSub, Nat.reduceAdd, List.map, List.map_cons, List.map_nil]
    try subst hK
    try change EvC _ _ _ _ _ _
    have hex4 := hex2.trans hex3
    have hl3 : Bytes st2 (.win ky vy oy l.length 1) l := by
      refine rows_box hl1 ?_
      rw [hsame ky (by simp [St.push]; omega) (fun e => hor e.symm)]
      simp only [St.push]; rw [List.getElem?_append_left (by omega)]
    have hg2 : st2.bs[st'.bs.length]? = some (.mem 0 false (gotC g)) := by
      rw [hsame st'.bs.length (by simp [St.push]; omega) (by show st'.bs.length + 1 ≠ out.ref; omega)]
      simp only [St.push]; rw [List.getElem?_append_left hl2]; exact hg1
    try change EvC _ _ _ _ _ _
    repeat refine EvC.seq ?_
    try generalize hK : SeqQ _ _ _ _ = K
    refine EvC.reg ?_
    (first | refine EvO.T rfl rfl rfl rfl ?_ | refine EvO.L rfl rfl rfl rfl ?_ | refine EvO.N rfl rfl rfl ?_ | refine EvO.offT rfl rfl ?_ | refine EvO.offL rfl rfl ?_)
    (first | refine EvO.T rfl rfl rfl rfl ?_ | refine EvO.L rfl rfl rfl rfl ?_ | refine EvO.N rfl rfl rfl ?_ | refine EvO.offT rfl rfl ?_ | refine EvO.offL rfl rfl ?_)
    refine EvO.load (k := st'.bs.length) (ver := 0) (off := 1) (ar := false) (c := gotC g) (d := .int .i64 (g.2 : Nat)) rfl rfl rfl hg2 rfl ?_
    refine EvO.T rfl rfl rfl (d := .win ky vy (oy + g.2 * 1) (l.length - g.2) 1) (st1 := st2) ?_ ?_
    · show Option.map _ ((boundsD l.length (some (.int .i64 (g.2 : Nat))) none).map _) = _
      simp only [boundsD, optBound, boundD, Option.bind_some]
      rw [if_pos ⟨by omega, by omega⟩]; rfl
    repeat (first | refine EvO.T rfl rfl rfl rfl ?_ | refine EvO.L rfl rfl rfl rfl ?_ | refine EvO.N rfl rfl rfl ?_ | refine EvO.offT rfl rfl ?_ | refine EvO.offL rfl rfl ?_)
    refine EvO.nil ?_
    dsimp only [Fr.putO, Fr.put, Fr.clean, Fr.ev, Fr.get, nth, Go.V.look, List.set_cons_succ, List.set_cons_zero, ofVal_int, ofVal_bool, ofVal_str, ofVal_nul, ofVal_pnil, ofVal_nilfn, ofVal_nilif, List.length, List.cons_append, List.nil_append, List.append_nil, Nat.reduceSub, Nat.reduceAdd, List.map, List.map_cons, List.map_nil]
    try subst hK
    try change EvC _ _ _ _ _ _
    have hl4 : Bytes st2 (.win ky vy (oy + g.2 * 1) (l.length - g.2) 1) (l.drop g.2) := by
      obtain ⟨y, q1, q2, _⟩ := Rows.slice (P := pv) hl3 (t := 29) (e := 5) rfl rfl (lo := some (.int .i64 (g.2 : Nat))) (hi := none) (l := g.2) (r := l.length) (by
        rw [byteCells_len]
        simp only [boundsD, optBound, boundD, Option.bind_some]
        rw [if_pos ⟨by omega, by omega⟩]; rfl) ⟨by omega, by rw [byteCells_len]; omega⟩
      have : sliceD pv 29 (.win ky vy oy l.length 1) (some (.int .i64 (g.2 : Nat))) none st2 = some (.win ky vy (oy + g.2 * 1) (l.length - g.2) 1) := by
        show (boundsD l.length (some (.int .i64 (g.2 : Nat))) none).map _ = _
        simp only [boundsD, optBound, boundD, Option.bind_some]
        rw [if_pos ⟨by omega, by omega⟩]; rfl
      rw [this] at q1; cases q1
      have e : ((byteCells l).take l.length).drop g.2 = byteCells (l.drop g.2) := by
        rw [← byteCells_len, List.take_length]; simp [byteCells]
      unfold Bytes; rw [← e]; exact q2
    have hdl2 : l.length - g.2 = (l.drop g.2).length := by rw [List.length_drop]
    rw [hdl2] at hl4 ⊢
    refine ⟨(l.drop g.2).length, by omega, f, l.drop g.2, done ++ [g], ky, vy, oy + g.2 * 1, out', _, rfl, hex4, ?_, hl4, hky, ?_, rfl, by omega, ?_, ht2, ?_⟩
    · rw [List.map_append]; exact hacc2
    · rcases hrf with h' | h'
      · rw [h']; exact hor
      · have : S1.bs.length < (S1.push (.mem 0 true (gotC g))).bs.length := by simp [St.push]
        omega
    · rw [← ht1, List.append_assoc, List.singleton_append]
    · rw [List.length_append, ← hdl2]; simp only [List.length_cons, List.length_nil]; omega
theorem begun_le {l : List UInt8} (h : begunS l = true) : l.length ≤ 3 := by
  obtain ⟨h1, h2, h3⟩ := (fits_first l).1.1 h
  cases l with
  | nil => simp
  | cons c xs =>
    have := needS_le c.toNat
    simp only [fitsS] at h2 h3
    split at h2
    · simp at h2
    · split at h2
      · split at h2
        · rw [← h3]; rename_i a1 a2 a3; rw [if_neg a1, if_pos a2, if_pos a3]; simp only; omega
        · simp at h2
      · simp at h2

theorem tell_le : ∀ (f : Nat) (l : List UInt8), l.length ≤ f → (tellF f l).2.length ≤ 3
  | 0, l, h => by simp [tellF]; have : l = [] := by cases l with | nil => rfl | cons _ _ => simp at h
                  subst this; simp
  | f + 1, [], _ => by simp [tellF]
  | f + 1, c :: l, h => by
    simp only [tellF]
    split
    · rename_i hb; exact begun_le hb
    · have hp := oneS_pos (c :: l)
      exact tell_le f _ (by rw [List.length_drop]; simp only [List.length_cons] at h ⊢; omega)

theorem tell_n : ∀ (f : Nat) (l : List UInt8), (tellF f l).1.length ≤ f
  | 0, l => by simp [tellF]
  | f + 1, [] => by simp [tellF]
  | f + 1, c :: l => by
    simp only [tellF]
    split
    · simp
    · simp only [List.length_cons]; have := tell_n f ((c :: l).drop (oneS (c :: l)).2); omega

theorem jF_len : ∀ (f : Nat) (l j : List UInt8), (l ++ j).length = 4 → l.length ≤ f → ((tellF f l).2 ++ jF f l j).length = 4
  | 0, l, j, h, hf => by
    have : l = [] := by cases l with | nil => rfl | cons _ _ => simp at hf
    subst this; exact h
  | f + 1, [], j, h, _ => by simpa [tellF, jF] using h
  | f + 1, c :: l, j, h, hf => by
    simp only [tellF, jF]
    split
    · exact h
    · have hp := oneS_pos (c :: l)
      have hle := oneS_le (b := c :: l) (by simp)
      rw [List.length_append] at h
      refine jF_len f _ _ ?_ ?_
      · rw [List.length_append, List.length_drop, List.length_drop, List.length_append]; omega
      · rw [List.length_drop]; simp only [List.length_cons] at hf ⊢; omega


/- the plain law: byte by byte is all at once -/
theorem scan_more (n : Nat) : ∀ (left r lo hi : Nat) (xs rest : List UInt8), (scanS left n r lo hi xs).2.2 = false → scanS left n r lo hi (xs ++ rest) = scanS left n r lo hi xs
  | 0, r, lo, hi, xs, rest, _ => by simp [scanS]
  | left + 1, r, lo, hi, [], rest, h => by simp [scanS] at h
  | left + 1, r, lo, hi, x :: xs, rest, h => by
    simp only [scanS, List.cons_append] at h ⊢
    split
    · rfl
    · rename_i hc
      rw [if_neg hc] at h
      exact scan_more n left _ _ _ xs rest h

theorem first_more {l : List UInt8} (hl : l ≠ []) (h : begunS l ≠ true) (rest : List UInt8) : firstS (l ++ rest) = firstS l := by
  cases l with
  | nil => exact absurd rfl hl
  | cons c xs =>
    unfold begunS at h
    simp only [firstS, List.cons_append] at h ⊢
    split
    · rfl
    · rename_i hk
      rw [if_neg hk] at h
      exact scan_more _ _ _ _ _ xs rest (by simpa using h)

theorem one_more {l : List UInt8} (hl : l ≠ []) (h : begunS l ≠ true) (rest : List UInt8) : oneS (l ++ rest) = oneS l := by
  unfold oneS; rw [first_more hl h]

theorem tell_all : ∀ (f : Nat) (l rest : List UInt8), l.length ≤ f → allS (l ++ rest) = (tellF f l).1 ++ allS ((tellF f l).2 ++ rest)
  | 0, l, rest, h => by
    have : l = [] := by cases l with | nil => rfl | cons _ _ => simp at h
    subst this; rfl
  | f + 1, [], rest, _ => by simp [tellF]
  | f + 1, c :: l, rest, h => by
    simp only [tellF]
    split
    · simp
    · rename_i hb
      have hp := oneS_pos (c :: l)
      have hle := oneS_le (b := c :: l) (by simp)
      rw [allS_cons (by simp), one_more (by simp) hb, List.drop_append_of_le_length hle]
      rw [tell_all f _ rest (by rw [List.length_drop]; simp only [List.length_cons] at h ⊢; omega)]
      rfl

theorem tell_sum : ∀ (f : Nat) (l : List UInt8), l.length ≤ f → ((tellF f l).1.map (·.2)).sum + (tellF f l).2.length = l.length ∧ (tellF f l).2 = l.drop ((tellF f l).1.map (·.2)).sum
  | 0, l, h => by
    have : l = [] := by cases l with | nil => rfl | cons _ _ => simp at h
    subst this; exact ⟨rfl, rfl⟩
  | f + 1, [], _ => ⟨rfl, rfl⟩
  | f + 1, c :: l, h => by
    simp only [tellF]
    split
    · exact ⟨by simp, by simp⟩
    · have hp := oneS_pos (c :: l)
      have hle := oneS_le (b := c :: l) (by simp)
      obtain ⟨h1, h2⟩ := tell_sum f ((c :: l).drop (oneS (c :: l)).2) (by rw [List.length_drop]; simp only [List.length_cons] at h ⊢; omega)
      rw [List.length_drop] at h1
      refine ⟨by simp only [List.map_cons, List.sum_cons]; omega, ?_⟩
      simp only [List.map_cons, List.sum_cons]
      rw [← List.drop_drop]; exact h2

theorem good_cont {c i y : Nat} (h : goodS c i y = true) : 128 ≤ y ∧ y ≤ 191 := by
  unfold goodS loS hiS at h
  split at h <;> simp only [decide_eq_true_eq] at h
  · repeat' split at h
    all_goals omega
  · exact h

theorem tail_cont (c : Nat) : ∀ (left i : Nat) (xs : List UInt8), tailS c left i xs = true → xs.length ≤ left → ∀ y ∈ xs, 128 ≤ y.toNat ∧ y.toNat ≤ 191
  | 0, i, xs, _, hl => by
    have : xs = [] := by cases xs with | nil => rfl | cons _ _ => simp at hl
    subst this; simp
  | left + 1, i, [], _, _ => by simp
  | left + 1, i, x :: xs, h, hl => by
    simp only [tailS, Bool.and_eq_true] at h
    intro y hy
    rcases List.mem_cons.1 hy with rfl | hy
    · exact good_cont h.1
    · exact tail_cont c left (i + 1) xs h.2 (by simpa using hl) y hy

theorem all_cont : ∀ (xs : List UInt8), (∀ y ∈ xs, 128 ≤ y.toNat ∧ y.toNat ≤ 191) → allS xs = badS xs.length
  | [], _ => rfl
  | x :: xs, h => by
    have hx := h x (List.mem_cons_self ..)
    have h1 : oneS (x :: xs) = (65533, 1) := by
      rw [one_all, if_pos]
      unfold needS; rw [if_neg (by omega), if_pos (by omega)]
    rw [allS_cons (by simp), h1, List.drop_succ_cons, List.drop_zero, all_cont xs fun y hy => h y (List.mem_cons_of_mem _ hy)]
    rfl

theorem begun_all {h : List UInt8} (hb : begunS h = true) : allS h = badS h.length := by
  have hf := begun_first hb
  cases h with
  | nil => rfl
  | cons c xs =>
    have h1 : oneS (c :: xs) = (65533, 1) := by unfold oneS; rw [hf]; rfl
    rw [first_all] at hf
    by_cases h2 : needS c.toNat = 0
    · rw [if_pos h2] at hf; simp at hf
    by_cases h3 : tailS c.toNat (needS c.toNat - 1) 1 xs = true
    · by_cases h4 : xs.length < needS c.toNat - 1
      · rw [allS_cons (by simp), h1, List.drop_succ_cons, List.drop_zero, all_cont xs (tail_cont _ _ _ _ h3 (by omega))]
        rfl
      · rw [if_neg h2, if_pos h3, if_neg h4] at hf; simp at hf
    · rw [if_neg h2, if_neg h3] at hf; simp at hf

theorem tell_begun : ∀ (f : Nat) (l : List UInt8), l.length ≤ f → (tellF f l).2 = [] ∨ begunS (tellF f l).2 = true
  | 0, l, h => by
    have : l = [] := by cases l with | nil => rfl | cons _ _ => simp at h
    subst this; exact .inl rfl
  | f + 1, [], _ => .inl rfl
  | f + 1, c :: l, h => by
    simp only [tellF]
    split
    · rename_i hb; exact .inr hb
    · have hp := oneS_pos (c :: l)
      exact tell_begun f _ (by rw [List.length_drop]; simp only [List.length_cons] at h ⊢; omega)
end Go.Proofs.Ytlljdbhefepheaa
