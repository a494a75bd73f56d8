import Derived.Test.YtlljdbhefepheaaUm
namespace Go.Proofs.Ytlljdbhefepheaa
open Go.V Go
set_option maxRecDepth 100000
set_option maxHeartbeats 4000000
set_option linter.unusedSimpArgs false
set_option linter.unusedVariables false

theorem rows_box {st st' : St} {s k v off len : Nat} {es : List (List D)} (h : V.Rows st s (.win k v off len s) es) (hb : st'.bs[k]? = st.bs[k]?) : V.Rows st' s (.win k v off len s) es := by
  cases h with
  | win k ver off es ar c hm hl he => exact .win k v off es ar c (by simp only [St.mem?, hb] at hm ⊢; exact hm) hl he

theorem freeze_win {N : Nat} {st : St} {s k v off len n : Nat} {es : List (List D)} (h : V.Rows st s (.win k v off len s) es) (hN : N ≤ k) (hp : ∀ e ∈ es, ∀ d ∈ e, plainC d = true) (hn : 2 ≤ n) : freezeD st N false (n + 1) (.win k v off len s) = some (.sl (es.map (elD s))) := by
  obtain ⟨n, rfl⟩ : ∃ m, n = m + 2 := ⟨n - 2, by omega⟩
  have hes : ∀ e ∈ es, e.length = s := fun e he => by
    obtain ⟨i, hi⟩ := List.getElem?_of_mem he
    exact h.elen i e hi
  have hrow := h.row
  cases h with
  | win k ver off es ar c hm hl he =>
    simp only [rowD, hm, Option.bind_some, if_pos hl, Option.some.injEq, Prod.mk.injEq, true_and] at hrow
    show (if k < N then some (D.win k v off es.length s) else pureD st N (n + 2) (.win k v off es.length s)) = _
    rw [if_neg (show ¬ k < N by omega), pureD]
    simp only [if_neg (show ¬ k < N by omega), hm, Option.bind_some]
    rw [if_pos hl, hrow, mapO_plain (fun d hd => by
      obtain ⟨e, he', hd'⟩ := List.mem_flatten.1 hd
      exact hp e he' d hd')]
    simp only [Option.map_some, chunk_flat hes]

theorem rbyte_ev {st : St} {x : D} {h : List UInt8} {c : UInt8} (hb : Bytes st x h) (h3 : h.length ≤ 3) : Ev pv 20 [x, .int .u8 (c.toNat : Nat)] st (.tup [bytesV (byteS h c).2, gotsD (byteS h c).1]) st := by
  have hx := hb.ref
  refine Ev.mk1 rfl fi20 rfl rfl rfl ?_
  dsimp only [List.cons_append, List.nil_append, List.length, Nat.reduceSub, Nat.reduceAdd, List.replicate_succ, List.replicate_zero]
  have hb1 := hb.enter .ro
  have hN0 : (enterSt .ro st).bs.length = st.bs.length := rfl
  try change EvC _ _ _ _ _
  repeat refine EvC.seq ?_
  try generalize hK : SeqQ _ _ _ = K
  refine EvC.reg ?_
  repeat (first | refine EvO.T rfl rfl rfl rfl ?_ | refine EvO.L rfl rfl rfl rfl ?_ | refine EvO.N rfl rfl rfl ?_ | refine EvO.offT rfl rfl ?_ | refine EvO.offL rfl rfl ?_)
  refine EvO.nil ?_
  dsimp only [Fr.putO, Fr.put, Fr.clean, Fr.ev, Fr.get, nth, Go.V.look, List.set_cons_succ, List.set_cons_zero, ofVal_int, ofVal_bool, ofVal_str, ofVal_nul, ofVal_pnil, ofVal_nilfn, ofVal_nilif, List.length, List.cons_append, List.nil_append, List.append_nil, Nat.reduceSub, Nat.reduceAdd, List.map, List.map_cons, List.map_nil]
  try subst hK
  try change EvC _ _ _ _ _
  try change EvC _ _ _ _ _
  repeat refine EvC.seq ?_
  try generalize hK : SeqQ _ _ _ = K
  refine EvC.reg ?_
  refine EvO.T rfl rfl rfl (d := .win st.bs.length 0 0 0 1) (st1 := (enterSt .ro st).push (.mem 0 true [])) rfl ?_
  have hx1 : Ex st.bs.length (enterSt .ro st) ((enterSt .ro st).push (.mem 0 true [])) := Ex.push (st := enterSt .ro st) (Nat.le_refl _) _
  have ha1 : V.Acc st.bs.length ((enterSt .ro st).push (.mem 0 true [])) 1 (.win st.bs.length 0 0 0 1) [] := .win _ _ [] (Nat.le_refl _) (push_at (enterSt .ro st) _) (by simp)
  (first | refine EvO.T rfl rfl rfl rfl ?_ | refine EvO.L rfl rfl rfl rfl ?_ | refine EvO.N rfl rfl rfl ?_ | refine EvO.offT rfl rfl ?_ | refine EvO.offL rfl rfl ?_)
  refine EvO.append rfl rfl rfl rfl ha1 (hb1.ex hx1 hx) rfl rfl rfl rfl rfl rfl rfl (by decide) hx1.len (Nat.le_refl _) (Nat.le_refl _) (by rw [byteCells_len]; show (0 + h.length) * 1 ≤ _; omega) fun y1 s1 hc1 hx2 _ _ _ => ?_
  rw [List.nil_append] at hc1
  have hx3 := hx1.trans hx2
  (first | refine EvO.T rfl rfl rfl rfl ?_ | refine EvO.L rfl rfl rfl rfl ?_ | refine EvO.N rfl rfl rfl ?_ | refine EvO.offT rfl rfl ?_ | refine EvO.offL rfl rfl ?_)
  refine EvO.T rfl rfl rfl (d := .win s1.bs.length 0 0 1 1) (st1 := s1.push (.mem 0 true [u8D c])) rfl ?_
  have hx4 := hx3.trans (Ex.push hx3.len (.mem 0 true [u8D c]))
  refine EvO.append rfl rfl rfl rfl (hc1.push _) (Rows.one (c := [u8D c]) rfl) rfl rfl rfl rfl rfl rfl rfl (by decide) hx4.len (by rw [hx4.flr]; exact Nat.le_refl _) (by rw [hx4.ro]; exact Nat.le_refl _) (by rw [byteCells_len]; show (h.length + 1) * 1 ≤ _; omega) fun y2 s2 hc2 hx5 _ _ _ => ?_
  have hx6 := hx4.trans hx5
  have hcc : byteCells h ++ [[u8D c]] = byteCells (h ++ [c]) := by simp [byteCells, u8D]
  rw [hcc] at hc2
  obtain ⟨k0, v0, rfl, hk0⟩ : ∃ k0 v0, y2 = .win k0 v0 0 (h ++ [c]).length 1 ∧ st.bs.length ≤ k0 := by
    have hne : byteCells (h ++ [c]) ≠ [] := by simp [byteCells]
    have hll := byteCells_len (h ++ [c])
    generalize byteCells (h ++ [c]) = es at *
    cases hc2 with
    | nul => exact absurd rfl hne
    | win k ver es hN hm he => exact ⟨k, ver, by rw [hll], hN⟩
  repeat (first | refine EvO.T rfl rfl rfl rfl ?_ | refine EvO.L rfl rfl rfl rfl ?_ | refine EvO.N rfl rfl rfl ?_ | refine EvO.offT rfl rfl ?_ | refine EvO.offL rfl rfl ?_)
  refine EvO.nil ?_
  dsimp only [Fr.putO, Fr.put, Fr.clean, Fr.ev, Fr.get, nth, Go.V.look, List.set_cons_succ, List.set_cons_zero, ofVal_int, ofVal_bool, ofVal_str, ofVal_nul, ofVal_pnil, ofVal_nilfn, ofVal_nilif, List.length, List.cons_append, List.nil_append, List.append_nil, Nat.reduceSub, Nat.reduceAdd, List.map, List.map_cons, List.map_nil]
  try subst hK
  try change EvC _ _ _ _ _
  try change EvC _ _ _ _ _
  repeat refine EvC.seq ?_
  try generalize hK : SeqQ _ _ _ = K
  refine EvC.reg ?_
  repeat (first | refine EvO.T rfl rfl rfl rfl ?_ | refine EvO.L rfl rfl rfl rfl ?_ | refine EvO.N rfl rfl rfl ?_ | refine EvO.offT rfl rfl ?_ | refine EvO.offL rfl rfl ?_)
  refine EvO.nil ?_
  dsimp only [Fr.putO, Fr.put, Fr.clean, Fr.ev, Fr.get, nth, Go.V.look, List.set_cons_succ, List.set_cons_zero, ofVal_int, ofVal_bool, ofVal_str, ofVal_nul, ofVal_pnil, ofVal_nilfn, ofVal_nilif, List.length, List.cons_append, List.nil_append, List.append_nil, Nat.reduceSub, Nat.reduceAdd, List.map, List.map_cons, List.map_nil]
  try subst hK
  try change EvC _ _ _ _ _
  try change EvC _ _ _ _ _
  repeat refine EvC.seq ?_
  refine EvC.block ?_
  generalize hK0 : SeqQ _ _ _ = K0
  have fin : ∀ (st' : St) (done : List (Nat × Nat)) (l : List UInt8) (ky vy oy : Nat) (out g : D) (m2 : List (Nat × D)), Ex st.bs.length (enterSt .ro st) st' → Acc st.bs.length st' 2 out (done.map gotC) → Bytes st' (.win ky vy oy l.length 1) l → st.bs.length ≤ ky → done = (byteS h c).1 → l = (byteS h c).2 →
      K0 .next ⟨9, [x, .int .u8 (c.toNat : Nat), .tup [], .tup [], .nul, .nul, .win ky vy oy l.length 1, out, g], m2⟩ st' := by
    intro st' done l ky vy oy out g m2 hx hacc hl hky hd hl2
    subst hK0
    try change EvC _ _ _ _ _
    repeat refine EvC.seq ?_
    try generalize hK : SeqQ _ _ _ = K
    refine EvC.reg ?_
    repeat (first | refine EvO.T rfl rfl rfl rfl ?_ | refine EvO.L rfl rfl rfl rfl ?_ | refine EvO.N rfl rfl rfl ?_ | refine EvO.offT rfl rfl ?_ | refine EvO.offL rfl rfl ?_)
    refine EvO.nil ?_
    dsimp only [Fr.putO, Fr.put, Fr.clean, Fr.ev, Fr.get, nth, Go.V.look, List.set_cons_succ, List.set_cons_zero, ofVal_int, ofVal_bool, ofVal_str, ofVal_nul, ofVal_pnil, ofVal_nilfn, ofVal_nilif, List.length, List.cons_append, List.nil_append, List.append_nil, Nat.reduceSub, Nat.reduceAdd, List.map, List.map_cons, List.map_nil]
    try subst hK
    try change EvC _ _ _ _ _
    refine EvC.ret ⟨fun i h => (by cases h), _, rfl, leave_same (by simp) (hx.take rfl) ?_⟩
    have f1 := freeze_win (N := st.bs.length) (n := 14) hl hky (byteCells_plain l) (by decide)
    have f2 := hacc.freeze (N := st.bs.length) (n := 14) gotC_plain (by decide)
    show (mapO (freezeD st' st.bs.length false 15) [.win ky vy oy l.length 1, out]).map D.tup = _
    rw [← hd, ← hl2]
    simp only [mapO, f1, f2, Option.map_some]
    rfl
  refine EvC.loop (fun m fr st' => ∃ (f : Nat) (l : List UInt8) (done : List (Nat × Nat)) (ky vy oy : Nat) (out g : D), fr.clean = ⟨9, [x, .int .u8 (c.toNat : Nat), .tup [], .tup [], .nul, .nul, .win ky vy oy l.length 1, out, g], []⟩ ∧ Ex st.bs.length (enterSt .ro st) st' ∧ Acc st.bs.length st' 2 out (done.map gotC) ∧ Bytes st' (.win ky vy oy l.length 1) l ∧ st.bs.length ≤ ky ∧ out.ref ≠ ky + 1 ∧
    m = l.length ∧ l.length ≤ f ∧ done ++ (tellF f l).1 = (byteS h c).1 ∧ (tellF f l).2 = (byteS h c).2 ∧ done.length + l.length ≤ 4) (h.length + 1)
    ⟨h.length + 1, h ++ [c], [], k0, v0, 0, .nul, _, rfl, hx6, .nul, hc2.rows, hk0, by simp [D.ref], by simp, by simp, rfl, rfl, by simp; omega⟩ ?_
  clear hc2 hx6 hx5 hx4 hc1 hx3 hx2 ha1 hx1
  rintro m fr st' ⟨f, l, done, ky, vy, oy, out, g0, hfr, hx, hacc, hl, hky, hor, rfl, hlf, ht1, ht2, hdl⟩
  rw [hfr]
  have hN : st.bs.length ≤ st'.bs.length := hx.len
  have hflr : st'.flr = st.bs.length := by rw [hx.flr]; rfl
  have hro2 : st'.ro = st.bs.length := by rw [hx.ro]; rfl
  have hkyl := hl.ref
  simp only [D.ref] at hkyl
  by_cases hl0 : l = []
  · subst hl0
    try change EvC _ _ _ _ _
    repeat refine EvC.seq ?_
    try generalize hK : SeqQ _ _ _ = K
    refine EvC.reg ?_
    (first | refine EvO.T rfl rfl rfl rfl ?_ | refine EvO.L rfl rfl rfl rfl ?_ | refine EvO.N rfl rfl rfl ?_ | refine EvO.offT rfl rfl ?_ | refine EvO.offL rfl rfl ?_)
    refine EvO.len rfl rfl rfl hl rfl ?_
    repeat (first | refine EvO.T rfl rfl rfl rfl ?_ | refine EvO.L rfl rfl rfl rfl ?_ | refine EvO.N rfl rfl rfl ?_ | refine EvO.offT rfl rfl ?_ | refine EvO.offL rfl rfl ?_ | simp (disch := omega) only [decide_eq_true, decide_eq_false, beq_yes, beq_no, bne_yes, bne_no])
    refine EvO.nil ?_
    dsimp only [Fr.putO, Fr.put, Fr.clean, Fr.ev, Fr.get, nth, Go.V.look, List.set_cons_succ, List.set_cons_zero, ofVal_int, ofVal_bool, ofVal_str, ofVal_nul, ofVal_pnil, ofVal_nilfn, ofVal_nilif, List.length, List.cons_append, List.nil_append, List.append_nil, Nat.reduceSub, Nat.reduceAdd, List.map, List.map_cons, List.map_nil]
    try subst hK
    try change EvC _ _ _ _ _
    try change EvC _ _ _ _ _
    repeat refine EvC.seq ?_
    refine EvC.cond (v := false) rfl (fun h => by cases h) fun _ => ?_
    try change EvC _ _ _ _ _
    refine EvC.exit ?_
    refine fin st' done [] ky vy oy out _ _ hx hacc hl hky ?_ ?_
    · have : (tellF f ([] : List UInt8)).1 = [] := by cases f <;> rfl
      rw [← ht1, this, List.append_nil]
    · rw [← ht2]; cases f <;> rfl
  have hlp : 0 < l.length := by cases l with | nil => exact absurd rfl hl0 | cons a b => simp
  obtain ⟨f, rfl⟩ : ∃ f', f = f' + 1 := ⟨f - 1, by omega⟩
  have htell : tellF (f + 1) l = if begunS l = true then ([], l) else (oneS l :: (tellF f (l.drop (oneS l).2)).1, (tellF f (l.drop (oneS l).2)).2) := by
    cases l with | nil => exact absurd rfl hl0 | cons a b => rfl
  cases hbg : begunS l with
  | true =>
    rw [htell, if_pos hbg] at ht1 ht2
    have hbe := begun_ev hl (by omega)
    rw [hbg] at hbe
    try change EvC _ _ _ _ _
    repeat refine EvC.seq ?_
    try generalize hK : SeqQ _ _ _ = K
    refine EvC.reg ?_
    (first | refine EvO.T rfl rfl rfl rfl ?_ | refine EvO.L rfl rfl rfl rfl ?_ | refine EvO.N rfl rfl rfl ?_ | refine EvO.offT rfl rfl ?_ | refine EvO.offL rfl rfl ?_)
    refine EvO.len rfl rfl rfl hl rfl ?_
    rw [byteCells_len]
    (first | refine EvO.T rfl rfl rfl rfl ?_ | refine EvO.L rfl rfl rfl rfl ?_ | refine EvO.N rfl rfl rfl ?_ | refine EvO.offT rfl rfl ?_ | refine EvO.offL rfl rfl ?_)
    simp (disch := omega) only [decide_eq_true, decide_eq_false, beq_yes, beq_no, bne_yes, bne_no]
    (first | refine EvO.T rfl rfl rfl rfl ?_ | refine EvO.L rfl rfl rfl rfl ?_ | refine EvO.N rfl rfl rfl ?_ | refine EvO.offT rfl rfl ?_ | refine EvO.offL rfl rfl ?_)
    (first | refine EvO.T rfl rfl rfl rfl ?_ | refine EvO.L rfl rfl rfl rfl ?_ | refine EvO.N rfl rfl rfl ?_ | refine EvO.offT rfl rfl ?_ | refine EvO.offL rfl rfl ?_)
    refine EvO.callT rfl rfl rfl hbe ?_
    repeat (first | refine EvO.T rfl rfl rfl rfl ?_ | refine EvO.L rfl rfl rfl rfl ?_ | refine EvO.N rfl rfl rfl ?_ | refine EvO.offT rfl rfl ?_ | refine EvO.offL rfl rfl ?_)
    refine EvO.nil ?_
    dsimp only [Fr.putO, Fr.put, Fr.clean, Fr.ev, Fr.get, nth, Go.V.look, List.set_cons_succ, List.set_cons_zero, ofVal_int, ofVal_bool, ofVal_str, ofVal_nul, ofVal_pnil, ofVal_nilfn, ofVal_nilif, List.length, List.cons_append, List.nil_append, List.append_nil, Nat.reduceSub, Nat.reduceAdd, List.map, List.map_cons, List.map_nil]
    try subst hK
    try change EvC _ _ _ _ _
    try change EvC _ _ _ _ _
    repeat refine EvC.seq ?_
    refine EvC.cond (v := false) rfl (fun h => by cases h) fun _ => ?_
    try change EvC _ _ _ _ _
    refine EvC.exit ?_
    exact fin st' done l ky vy oy out _ _ hx hacc hl hky (by rw [← ht1, List.append_nil]) (by rw [← ht2])
  | false =>
    rw [htell, if_neg (by rw [hbg]; simp)] at ht1 ht2
    have hbe := begun_ev hl (by omega)
    rw [hbg] at hbe
    have hof := rfirst_ev hl (by omega)
    have hg4 := oneS_le hl0
    have hgp := oneS_pos l
    generalize hg : oneS l = g at *
    try change EvC _ _ _ _ _
    repeat refine EvC.seq ?_
    try generalize hK : SeqQ _ _ _ = K
    refine EvC.reg ?_
    (first | refine EvO.T rfl rfl rfl rfl ?_ | refine EvO.L rfl rfl rfl rfl ?_ | refine EvO.N rfl rfl rfl ?_ | refine EvO.offT rfl rfl ?_ | refine EvO.offL rfl rfl ?_)
    refine EvO.len rfl rfl rfl hl rfl ?_
    rw [byteCells_len]
    (first | refine EvO.T rfl rfl rfl rfl ?_ | refine EvO.L rfl rfl rfl rfl ?_ | refine EvO.N rfl rfl rfl ?_ | refine EvO.offT rfl rfl ?_ | refine EvO.offL rfl rfl ?_)
    simp (disch := omega) only [decide_eq_true, decide_eq_false, beq_yes, beq_no, bne_yes, bne_no]
    (first | refine EvO.T rfl rfl rfl rfl ?_ | refine EvO.L rfl rfl rfl rfl ?_ | refine EvO.N rfl rfl rfl ?_ | refine EvO.offT rfl rfl ?_ | refine EvO.offL rfl rfl ?_)
    (first | refine EvO.T rfl rfl rfl rfl ?_ | refine EvO.L rfl rfl rfl rfl ?_ | refine EvO.N rfl rfl rfl ?_ | refine EvO.offT rfl rfl ?_ | refine EvO.offL rfl rfl ?_)
    refine EvO.callT rfl rfl rfl hbe ?_
    repeat (first | refine EvO.T rfl rfl rfl rfl ?_ | refine EvO.L rfl rfl rfl rfl ?_ | refine EvO.N rfl rfl rfl ?_ | refine EvO.offT rfl rfl ?_ | refine EvO.offL rfl rfl ?_)
    refine EvO.nil ?_
    dsimp only [Fr.putO, Fr.put, Fr.clean, Fr.ev, Fr.get, nth, Go.V.look, List.set_cons_succ, List.set_cons_zero, ofVal_int, ofVal_bool, ofVal_str, ofVal_nul, ofVal_pnil, ofVal_nilfn, ofVal_nilif, List.length, List.cons_append, List.nil_append, List.append_nil, Nat.reduceSub, Nat.reduceAdd, List.map, List.map_cons, List.map_nil]
    try subst hK
    try change EvC _ _ _ _ _
    try change EvC _ _ _ _ _
    repeat refine EvC.seq ?_
    refine EvC.cond (v := true) rfl (fun _ => ?_) (fun h => by cases h)
    try change EvC _ _ _ _ _
    refine EvC.skip ?_
    try change EvC _ _ _ _ _
    try change EvC _ _ _ _ _
    repeat refine EvC.seq ?_
    refine EvC.block ?_
    try change EvC _ _ _ _ _
    repeat refine EvC.seq ?_
    try generalize hK : SeqQ _ _ _ = K
    refine EvC.reg ?_
    (first | refine EvO.T rfl rfl rfl rfl ?_ | refine EvO.L rfl rfl rfl rfl ?_ | refine EvO.N rfl rfl rfl ?_ | refine EvO.offT rfl rfl ?_ | refine EvO.offL rfl rfl ?_)
    refine EvO.callT rfl rfl rfl hof ?_
    refine EvO.L rfl rfl rfl (d := .ptr st'.bs.length 0 0) (st1 := st'.push (.mem 0 false (gotC (0, 0)))) rfl ?_
    refine EvO.store (k := st'.bs.length) (ver := 0) (off := 0) (cs := gotC g) rfl rfl rfl rfl rfl (push_at st' _) (by simp [gotC]) (canW_own (N := st.bs.length) hN (by rw [← hflr]; exact Nat.le_refl _) (by rw [← hro2]; exact Nat.le_refl _)) ?_
    refine EvO.nil ?_
    dsimp only [Fr.putO, Fr.put, Fr.clean, Fr.ev, Fr.get, nth, Go.V.look, List.set_cons_succ, List.set_cons_zero, ofVal_int, ofVal_bool, ofVal_str, ofVal_nul, ofVal_pnil, ofVal_nilfn, ofVal_nilif, List.length, List.cons_append, List.nil_append, List.append_nil, Nat.reduceSub, Nat.reduceAdd, List.map, List.map_cons, List.map_nil]
    try subst hK
    try change EvC _ _ _ _ _
    rw [show (⟨(st'.push (.mem 0 false (gotC (0, 0)))).bs.set st'.bs.length (.mem 0 false ((gotC (0, 0)).take 0 ++ gotC g ++ (gotC (0, 0)).drop (0 + (gotC g).length))), (st'.push (.mem 0 false (gotC (0, 0)))).flr, (st'.push (.mem 0 false (gotC (0, 0)))).ro⟩ : St) = st'.push (.mem 0 false (gotC g)) from push_set rfl]
    have hex1 := hx.trans (Ex.push hN (.mem 0 false (gotC g)))
    have hkb : ∀ b : Box, (st'.push b).bs[ky]? = st'.bs[ky]? := fun b => by simp only [St.push]; rw [List.getElem?_append_left (by omega)]
    have hl1 : Bytes (st'.push (.mem 0 false (gotC g))) (.win ky vy oy l.length 1) l := rows_box hl (hkb _)
    generalize hS1 : st'.push (.mem 0 false (gotC g)) = S1 at hex1 hl1
    have hg1 : S1.bs[st'.bs.length]? = some (.mem 0 false (gotC g)) := by subst hS1; exact push_at st' _
    have hacc1 : V.Acc st.bs.length S1 2 out (done.map gotC) := by subst hS1; exact hacc.push _
    have hl2 : st'.bs.length < S1.bs.length := by subst hS1; simp [St.push]
    have hor2 := hacc.ref
    try change EvC _ _ _ _ _
    repeat refine EvC.seq ?_
    try generalize hK : SeqQ _ _ _ = K
    refine EvC.reg ?_
    (first | refine EvO.T rfl rfl rfl rfl ?_ | refine EvO.L rfl rfl rfl rfl ?_ | refine EvO.N rfl rfl rfl ?_ | refine EvO.offT rfl rfl ?_ | refine EvO.offL rfl rfl ?_)
    refine EvO.load (k := st'.bs.length) (ver := 0) (off := 0) (ar := false) (c := gotC g) (d := .agg (gotC g)) rfl rfl rfl hg1 rfl ?_
    refine EvO.T rfl rfl rfl (d := .win S1.bs.length 0 0 1 2) (st1 := S1.push (.mem 0 true (gotC g))) rfl ?_
    have hex2 := hex1.trans (Ex.push hex1.len (.mem 0 true (gotC g)))
    refine EvO.append rfl rfl rfl rfl (hacc1.push _) (Rows.one rfl) rfl rfl rfl rfl rfl rfl rfl (by decide) hex2.len (by rw [hex2.flr]; exact Nat.le_refl _) (by rw [hex2.ro]; exact Nat.le_refl _) (by simp only [List.length_map, List.length_cons, List.length_nil]; show (done.length + 1) * 16 ≤ _; omega) fun out' st2 hacc2 hex3 _ hsame hrf => ?_
    repeat (first | refine EvO.T rfl rfl rfl rfl ?_ | refine EvO.L rfl rfl rfl rfl ?_ | refine EvO.N rfl rfl rfl ?_ | refine EvO.offT rfl rfl ?_ | refine EvO.offL rfl rfl ?_)
    refine EvO.nil ?_
    dsimp only [Fr.putO, Fr.put, Fr.clean, Fr.ev, Fr.get, nth, Go.V.look, List.set_cons_succ, List.set_cons_zero, ofVal_int, ofVal_bool, ofVal_str, ofVal_nul, ofVal_pnil, ofVal_nilfn, ofVal_nilif, List.length, List.cons_append, List.nil_append, List.append_nil, Nat.reduceSub, Nat.reduceAdd, List.map, List.map_cons, List.map_nil]
    try subst hK
    try change EvC _ _ _ _ _
    have hex4 := hex2.trans hex3
    have hl3 : Bytes st2 (.win ky vy oy l.length 1) l := by
      refine rows_box hl1 ?_
      rw [hsame ky (by simp [St.push]; omega) (fun e => hor e.symm)]
      simp only [St.push]; rw [List.getElem?_append_left (by omega)]
    have hg2 : st2.bs[st'.bs.length]? = some (.mem 0 false (gotC g)) := by
      rw [hsame st'.bs.length (by simp [St.push]; omega) (by show st'.bs.length + 1 ≠ out.ref; omega)]
      simp only [St.push]; rw [List.getElem?_append_left hl2]; exact hg1
    try change EvC _ _ _ _ _
    repeat refine EvC.seq ?_
    try generalize hK : SeqQ _ _ _ = K
    refine EvC.reg ?_
    (first | refine EvO.T rfl rfl rfl rfl ?_ | refine EvO.L rfl rfl rfl rfl ?_ | refine EvO.N rfl rfl rfl ?_ | refine EvO.offT rfl rfl ?_ | refine EvO.offL rfl rfl ?_)
    (first | refine EvO.T rfl rfl rfl rfl ?_ | refine EvO.L rfl rfl rfl rfl ?_ | refine EvO.N rfl rfl rfl ?_ | refine EvO.offT rfl rfl ?_ | refine EvO.offL rfl rfl ?_)
    refine EvO.load (k := st'.bs.length) (ver := 0) (off := 1) (ar := false) (c := gotC g) (d := .int .i64 (g.2 : Nat)) rfl rfl rfl hg2 rfl ?_
    refine EvO.T rfl rfl rfl (d := .win ky vy (oy + g.2 * 1) (l.length - g.2) 1) (st1 := st2) ?_ ?_
    · show Option.map _ ((boundsD l.length (some (.int .i64 (g.2 : Nat))) none).map _) = _
      simp only [boundsD, optBound, boundD, Option.bind_some]
      rw [if_pos ⟨by omega, by omega⟩]; rfl
    repeat (first | refine EvO.T rfl rfl rfl rfl ?_ | refine EvO.L rfl rfl rfl rfl ?_ | refine EvO.N rfl rfl rfl ?_ | refine EvO.offT rfl rfl ?_ | refine EvO.offL rfl rfl ?_)
    refine EvO.nil ?_
    dsimp only [Fr.putO, Fr.put, Fr.clean, Fr.ev, Fr.get, nth, Go.V.look, List.set_cons_succ, List.set_cons_zero, ofVal_int, ofVal_bool, ofVal_str, ofVal_nul, ofVal_pnil, ofVal_nilfn, ofVal_nilif, List.length, List.cons_append, List.nil_append, List.append_nil, Nat.reduceSub, Nat.reduceAdd, List.map, List.map_cons, List.map_nil]
    try subst hK
    try change EvC _ _ _ _ _
    have hl4 : Bytes st2 (.win ky vy (oy + g.2 * 1) (l.length - g.2) 1) (l.drop g.2) := by
      obtain ⟨y, q1, q2, _⟩ := Rows.slice (P := pv) hl3 (t := 29) (e := 5) rfl rfl (lo := some (.int .i64 (g.2 : Nat))) (hi := none) (l := g.2) (r := l.length) (by
        rw [byteCells_len]
        simp only [boundsD, optBound, boundD, Option.bind_some]
        rw [if_pos ⟨by omega, by omega⟩]; rfl) ⟨by omega, by rw [byteCells_len]; omega⟩
      have : sliceD pv 29 (.win ky vy oy l.length 1) (some (.int .i64 (g.2 : Nat))) none st2 = some (.win ky vy (oy + g.2 * 1) (l.length - g.2) 1) := by
        show (boundsD l.length (some (.int .i64 (g.2 : Nat))) none).map _ = _
        simp only [boundsD, optBound, boundD, Option.bind_some]
        rw [if_pos ⟨by omega, by omega⟩]; rfl
      rw [this] at q1; cases q1
      have e : ((byteCells l).take l.length).drop g.2 = byteCells (l.drop g.2) := by
        rw [← byteCells_len, List.take_length]; simp [byteCells]
      unfold Bytes; rw [← e]; exact q2
    have hdl2 : l.length - g.2 = (l.drop g.2).length := by rw [List.length_drop]
    rw [hdl2] at hl4 ⊢
    refine ⟨(l.drop g.2).length, by omega, f, l.drop g.2, done ++ [g], ky, vy, oy + g.2 * 1, out', _, rfl, hex4, ?_, hl4, hky, ?_, rfl, by omega, ?_, ht2, ?_⟩
    · rw [List.map_append]; exact hacc2
    · rcases hrf with h' | h'
      · rw [h']; exact hor
      · have : S1.bs.length < (S1.push (.mem 0 true (gotC g))).bs.length := by simp [St.push]
        omega
    · rw [← ht1, List.append_assoc, List.singleton_append]
    · rw [List.length_append, ← hdl2]; simp only [List.length_cons, List.length_nil]; omega
end Go.Proofs.Ytlljdbhefepheaa
