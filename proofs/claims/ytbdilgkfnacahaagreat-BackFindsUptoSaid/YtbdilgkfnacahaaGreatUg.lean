import Derived.Test.YtbdilgkfnacahaaGreatUf
namespace Go.Proofs.YtbdilgkfnacahaaGreat
open Go.V Go
set_option maxRecDepth 100000
set_option maxHeartbeats 4000000
set_option linter.unusedSimpArgs false
set_option linter.unusedVariables false

theorem and8 {c j : Nat} (hc : c < 256) (hj : j ≤ 8) {m : Int} (hm : m = ((2 ^ j - 1 : Nat) : Int)) : wrapD .u8 ((BitVec.ofInt IntKind.u8.bits (c : Nat) &&& BitVec.ofInt IntKind.u8.bits m).toNat : Nat) = ((c % 2 ^ j : Nat) : Int) := by
 have h1 : 2 ^ j ≤ 2 ^ 8 := Nat.pow_le_pow_right (by omega) hj
 subst hm
 show wrapD .u8 ((BitVec.ofInt 8 (c : Nat) &&& BitVec.ofInt 8 ((2 ^ j - 1 : Nat) : Int)).toNat : Nat) = _
 rw [and_low (w := 8) (by omega) (by omega)]
 have : c % 2 ^ j ≤ c := Nat.mod_le _ _
 rw [wrap_nat (k := .u8) (by simp only [maxN]; omega)]

theorem w32 {c : Nat} (h : c < 2147483648) : wrapD .i32 (c : Nat) = (c : Nat) := wrap_nat (by simp only [maxN]; omega)

theorem shl32 {a : Nat} (i : Nat) {e : Int} (he : e = (i : Nat)) (hi : i ≤ 31) (h : a * 2 ^ i < 2147483648) : wrapD .i32 ((a : Int) * 2 ^ (min e.toNat IntKind.i32.bits)) = ((a * 2 ^ i : Nat) : Int) := by
 subst he
 have : min ((i : Nat) : Int).toNat IntKind.i32.bits = i := by show min ((i : Nat) : Int).toNat 32 = i; omega
 rw [this]
 have : (a : Int) * 2 ^ i = ((a * 2 ^ i : Nat) : Int) := by simp
 rw [this, w32 h]

theorem or32 {x a b : Nat} (i : Nat) (hx : x = a * 2 ^ i) (hb : b < 2 ^ i) (h : a * 2 ^ i + b < 2147483648) : wrapD .i32 ((BitVec.ofInt IntKind.i32.bits (x : Nat) ||| BitVec.ofInt IntKind.i32.bits (b : Nat)).toNat : Nat) = ((a * 2 ^ i + b : Nat) : Int) := by
 subst hx
 show wrapD .i32 ((BitVec.ofInt 32 ((a * 2 ^ i : Nat) : Int) ||| BitVec.ofInt 32 (b : Nat)).toNat : Nat) = _
 rw [bv_or (by omega) (by omega)]
 have h3 : (a * 2 ^ i) ||| b = a * 2 ^ i + b := by
  rw [Nat.mul_comm a, Nat.two_pow_add_eq_or_of_lt hb]
 rw [h3, w32 h]

theorem rfirst_ev {st : St} {x : D} {b : List UInt8} (hb : Bytes st x b) (hlen : b.length ≤ 1048576) : Ev pv 54 [x] st (.agg (gotC (oneS b))) st := by
 refine Ev.mk1 rfl fi54 rfl rfl rfl ?_
 dsimp only [List.cons_append, List.nil_append, List.length, Nat.reduceSub, Nat.reduceAdd, List.replicate_succ, List.replicate_zero]
 have hx := hb.ref
 have hb0 := hb.enter .ro
 have hbl := byteCells_len b
 obtain ⟨_, hz, hnz⟩ := fits_first b
 try refine qy ?_
 repeat refine qq ?_
 try generalize hK : SeqQ _ _ _ _ = K
 refine EvC.reg ?_
 repeat (first | refine EvO.T rfl rfl rfl rfl ?_ | refine EvO.L rfl rfl rfl rfl ?_ | refine EvO.N rfl rfl rfl ?_ | refine EvO.offT rfl rfl ?_ | refine EvO.offL rfl rfl ?_)
 refine EvO.nil ?_
 try dsimp only [Fr.putO, Fr.put, Fr.clean, Fr.ev, Fr.get, nth, Go.V.look, u1, u2, v1, v2, v3, v4, v5, v6, v7, List.length, u3, u4, Nat.reduceSub, Nat.reduceAdd, List.map]
 try subst hK
 try refine qy ?_
 generalize hS : (enterSt .ro st).push _ = S
 have hb : Bytes S x b := by subst hS; exact Rows.ex (Ex.push (st := enterSt .ro st) (N := st.bs.length) (Nat.le_refl _) _) hb0 hx
 try refine qy ?_
 repeat refine qq ?_
 try generalize hK : SeqQ _ _ _ _ = K
 refine EvC.reg ?_
 (first | refine EvO.T rfl rfl rfl rfl ?_ | refine EvO.L rfl rfl rfl rfl ?_ | refine EvO.N rfl rfl rfl ?_ | refine EvO.offT rfl rfl ?_ | refine EvO.offL rfl rfl ?_)
 refine EvO.callL rfl rfl rfl (fits_ev hb hlen) ?_
 repeat (first | refine EvO.T rfl rfl rfl rfl ?_ | refine EvO.L rfl rfl rfl rfl ?_ | refine EvO.N rfl rfl rfl ?_ | refine EvO.offT rfl rfl ?_ | refine EvO.offL rfl rfl ?_)
 refine EvO.nil ?_
 try dsimp only [Fr.putO, Fr.put, Fr.clean, Fr.ev, Fr.get, nth, Go.V.look, u1, u2, v1, v2, v3, v4, v5, v6, v7, List.length, u3, u4, Nat.reduceSub, Nat.reduceAdd, List.map]
 try subst hK
 try refine qy ?_
 generalize hk : (fitsS b).1 = k at *
 generalize hn : (fitsS b).2 = n at *
 have hSN : S.bs[st.bs.length]? = some (.mem 0 false [.int .i32 0, .int .i64 0]) := by subst hS; exact push_at (enterSt .ro st) _
 have hSw : ∀ r, S.canW st.bs.length r = true := fun r => by subst hS; exact canW_own (N := st.bs.length) (Nat.le_refl _) (Nat.le_refl _) (Nat.le_refl _)
 have done : ∀ (q : Nat × Nat) (fr : Fr) (s1 : St), fr.get 2 = .ptr st.bs.length 0 0 → s1 = { S with bs := S.bs.set st.bs.length (.mem 0 false (gotC q)) } →
   (∀ i, Out.ret ≠ .exit i) ∧ ∃ ds, resD pv fr s1 Tryz.f54.results.toList = some ds ∧ leaveD .ro false st s1 (tupD ds) = some (.agg (gotC q), st) := by
  intro q fr s1 hg hs
  have hs2 : s1 = (enterSt .ro st).push (.mem 0 false (gotC q)) := by
   rw [hs, ← hS]; exact push_set (st := enterSt .ro st) (k := st.bs.length) rfl
  have hm : s1.mem? st.bs.length 0 = some (false, gotC q) := by rw [hs2]; exact mem_push (enterSt .ro st) 0 false (gotC q)
  have hl : loadD pv 61 (.ptr st.bs.length 0 0) s1 = some (.agg (gotC q)) := by
   simp only [loadD, hm, Option.bind_some]; rfl
  have hr : resD pv fr s1 Tryz.f54.results.toList = some [.agg (gotC q)] := by
   show (loadD pv 61 (fr.get 2) s1).bind _ = _
   rw [hg, hl]; rfl
  refine ⟨fun i h => (by cases h), _, hr, leave_same (by simp) ?_ rfl⟩
  have hex9 := Ex.push (N := st.bs.length) (st := enterSt .ro st) (Nat.le_refl _) (.mem 0 false (gotC q))
  rw [hs2]; exact hex9.take rfl
 by_cases h1 : k = 0 ∨ k < n
 ·have ho := hz h1
  rw [ho]
  by_cases h2 : k = 0
  ·subst h2
   try refine qy ?_
   repeat refine qq ?_
   try generalize hK : SeqQ _ _ _ _ = K
   refine EvC.reg ?_
   repeat (first | refine EvO.T rfl rfl rfl rfl ?_ | refine EvO.L rfl rfl rfl rfl ?_ | refine EvO.N rfl rfl rfl ?_ | refine EvO.offT rfl rfl ?_ | refine EvO.offL rfl rfl ?_ | simp (disch := omega) only [decide_eq_true, decide_eq_false, beq_yes, beq_no, bne_yes, bne_no])
   refine EvO.nil ?_
   try dsimp only [Fr.putO, Fr.put, Fr.clean, Fr.ev, Fr.get, nth, Go.V.look, u1, u2, v1, v2, v3, v4, v5, v6, v7, List.length, u3, u4, Nat.reduceSub, Nat.reduceAdd, List.map]
   try subst hK
   try refine qy ?_
   refine EvC.cond (v := true) rfl (fun _ => ?_) (fun h => by cases h)
   try refine qy ?_
   repeat refine qq ?_
   try generalize hK : SeqQ _ _ _ _ = K
   refine EvC.reg ?_
   (first | refine EvO.T rfl rfl rfl rfl ?_ | refine EvO.L rfl rfl rfl rfl ?_ | refine EvO.N rfl rfl rfl ?_ | refine EvO.offT rfl rfl ?_ | refine EvO.offL rfl rfl ?_)
   refine EvO.store (k := st.bs.length) (ver := 0) (off := 0) (cs := gotC (65533, 1)) rfl rfl rfl rfl rfl hSN (by decide) (hSw _) ?_
   refine EvO.nil ?_
   try dsimp only [Fr.putO, Fr.put, Fr.clean, Fr.ev, Fr.get, nth, Go.V.look, u1, u2, v1, v2, v3, v4, v5, v6, v7, List.length, u3, u4, Nat.reduceSub, Nat.reduceAdd, List.map]
   try subst hK
   try refine qy ?_
   exact EvC.ret (done _ _ _ rfl rfl)
  ·try refine qy ?_
   repeat refine qq ?_
   try generalize hK : SeqQ _ _ _ _ = K
   refine EvC.reg ?_
   repeat (first | refine EvO.T rfl rfl rfl rfl ?_ | refine EvO.L rfl rfl rfl rfl ?_ | refine EvO.N rfl rfl rfl ?_ | refine EvO.offT rfl rfl ?_ | refine EvO.offL rfl rfl ?_ | simp (disch := omega) only [decide_eq_true, decide_eq_false, beq_yes, beq_no, bne_yes, bne_no])
   refine EvO.nil ?_
   try dsimp only [Fr.putO, Fr.put, Fr.clean, Fr.ev, Fr.get, nth, Go.V.look, u1, u2, v1, v2, v3, v4, v5, v6, v7, List.length, u3, u4, Nat.reduceSub, Nat.reduceAdd, List.map]
   try subst hK
   try refine qy ?_
   refine EvC.cond (v := true) rfl (fun _ => ?_) (fun h => by cases h)
   try refine qy ?_
   repeat refine qq ?_
   try generalize hK : SeqQ _ _ _ _ = K
   refine EvC.reg ?_
   (first | refine EvO.T rfl rfl rfl rfl ?_ | refine EvO.L rfl rfl rfl rfl ?_ | refine EvO.N rfl rfl rfl ?_ | refine EvO.offT rfl rfl ?_ | refine EvO.offL rfl rfl ?_)
   refine EvO.store (k := st.bs.length) (ver := 0) (off := 0) (cs := gotC (65533, 1)) rfl rfl rfl rfl rfl hSN (by decide) (hSw _) ?_
   refine EvO.nil ?_
   try dsimp only [Fr.putO, Fr.put, Fr.clean, Fr.ev, Fr.get, nth, Go.V.look, u1, u2, v1, v2, v3, v4, v5, v6, v7, List.length, u3, u4, Nat.reduceSub, Nat.reduceAdd, List.map]
   try subst hK
   try refine qy ?_
   exact EvC.ret (done _ _ _ rfl rfl)
 obtain ⟨c, xs, rfl, hn1, hn4, hxl, ho⟩ := hnz h1
 rw [ho]
 have hc := u8_lt c
 try refine qy ?_
 repeat refine qq ?_
 try generalize hK : SeqQ _ _ _ _ = K
 refine EvC.reg ?_
 repeat (first | refine EvO.T rfl rfl rfl rfl ?_ | refine EvO.L rfl rfl rfl rfl ?_ | refine EvO.N rfl rfl rfl ?_ | refine EvO.offT rfl rfl ?_ | refine EvO.offL rfl rfl ?_ | simp (disch := omega) only [decide_eq_true, decide_eq_false, beq_yes, beq_no, bne_yes, bne_no])
 refine EvO.nil ?_
 try dsimp only [Fr.putO, Fr.put, Fr.clean, Fr.ev, Fr.get, nth, Go.V.look, u1, u2, v1, v2, v3, v4, v5, v6, v7, List.length, u3, u4, Nat.reduceSub, Nat.reduceAdd, List.map]
 try subst hK
 try refine qy ?_
 refine EvC.cond (v := false) rfl (fun h => by cases h) fun _ => ?_
 refine EvC.skip ?_
 try refine qy ?_
 repeat refine qq ?_
 try generalize hK : SeqQ _ _ _ _ = K
 refine EvC.reg ?_
 (first | refine EvO.T rfl rfl rfl rfl ?_ | refine EvO.L rfl rfl rfl rfl ?_ | refine EvO.N rfl rfl rfl ?_ | refine EvO.offT rfl rfl ?_ | refine EvO.offL rfl rfl ?_)
 refine EvO.idxLoadL rfl rfl rfl (fun _ => rfl) (by simp) rfl rfl hb rfl rfl (by omega) (i := 0) (r := [.int .u8 (c.toNat : Nat)]) rfl rfl (fun p => ?_)
 repeat (first | refine EvO.T rfl rfl rfl rfl ?_ | refine EvO.L rfl rfl rfl rfl ?_ | refine EvO.N rfl rfl rfl ?_ | refine EvO.offT rfl rfl ?_ | refine EvO.offL rfl rfl ?_)
 refine EvO.nil ?_
 try dsimp only [Fr.putO, Fr.put, Fr.clean, Fr.ev, Fr.get, nth, Go.V.look, u1, u2, v1, v2, v3, v4, v5, v6, v7, List.length, u3, u4, Nat.reduceSub, Nat.reduceAdd, List.map]
 try subst hK
 try refine qy ?_
 repeat refine qq ?_
 try generalize hK : SeqQ _ _ _ _ = K
 refine EvC.reg ?_
 repeat (first | refine EvO.T rfl rfl rfl rfl ?_ | refine EvO.L rfl rfl rfl rfl ?_ | refine EvO.N rfl rfl rfl ?_ | refine EvO.offT rfl rfl ?_ | refine EvO.offL rfl rfl ?_)
 refine EvO.nil ?_
 try dsimp only [Fr.putO, Fr.put, Fr.clean, Fr.ev, Fr.get, nth, Go.V.look, u1, u2, v1, v2, v3, v4, v5, v6, v7, List.length, u3, u4, Nat.reduceSub, Nat.reduceAdd, List.map]
 try subst hK
 try refine qy ?_
 rw [w32 (by omega)]
 have hq : n = 1 ∨ n = 2 ∨ n = 3 ∨ n = 4 := by omega
 generalize hK : SeqQ _ _ _ _ = K
 have H : ∀ (r : Nat) (m : List (Nat × D)) (l2 : List D), r = (oneS (c :: xs)).1 → l2.length = 18 → K .next ⟨24, x :: .tup [] :: .ptr st.bs.length 0 0 :: .int .i64 (k : Nat) :: .int .i64 (n : Nat) :: .int .i32 r :: l2, m⟩ S := by
  intro r m l2 hr hl2
  subst hK
  try refine qy ?_
  repeat refine qq ?_
  try generalize hK : SeqQ _ _ _ _ = K
  refine EvC.reg ?_
  (first | refine EvO.T rfl rfl rfl rfl ?_ | refine EvO.L rfl rfl rfl rfl ?_ | refine EvO.N rfl rfl rfl ?_ | refine EvO.offT rfl rfl ?_ | refine EvO.offL rfl rfl ?_)
  (first | refine EvO.T rfl rfl rfl rfl ?_ | refine EvO.L rfl rfl rfl rfl ?_ | refine EvO.N rfl rfl rfl ?_ | refine EvO.offT rfl rfl ?_ | refine EvO.offL rfl rfl ?_)
  refine EvO.T rfl rfl rfl (d := .agg (gotC (r, n))) (st1 := S) rfl ?_
  refine EvO.store (k := st.bs.length) (ver := 0) (off := 0) (cs := gotC (r, n)) rfl rfl rfl rfl rfl hSN (by simp [gotC]) (hSw _) ?_
  refine EvO.nil ?_
  try dsimp only [Fr.putO, Fr.put, Fr.clean, Fr.ev, Fr.get, nth, Go.V.look, u1, u2, v1, v2, v3, v4, v5, v6, v7, List.length, u3, u4, Nat.reduceSub, Nat.reduceAdd, List.map]
  try subst hK
  try refine qy ?_
  rw [← ho]
  have e : oneS (c :: xs) = (r, n) := by rw [hr, ho]
  rw [e]
  exact EvC.ret (done _ _ _ rfl rfl)
 rcases hq with hq | hq | hq | hq
 ·subst hq
  try refine qy ?_
  repeat refine qq ?_
  refine EvC.block ?_
  try refine qy ?_
  repeat refine qq ?_
  try generalize hK : SeqQ _ _ _ _ = K
  refine EvC.reg ?_
  repeat (first | refine EvO.T rfl rfl rfl rfl ?_ | refine EvO.L rfl rfl rfl rfl ?_ | refine EvO.N rfl rfl rfl ?_ | refine EvO.offT rfl rfl ?_ | refine EvO.offL rfl rfl ?_)
  refine EvO.nil ?_
  try dsimp only [Fr.putO, Fr.put, Fr.clean, Fr.ev, Fr.get, nth, Go.V.look, u1, u2, v1, v2, v3, v4, v5, v6, v7, List.length, u3, u4, Nat.reduceSub, Nat.reduceAdd, List.map]
  try subst hK
  try refine qy ?_
  refine EvC.cond (v := false) rfl (fun h => by cases h) fun _ => ?_
  try refine qy ?_
  repeat refine qq ?_
  try generalize hK : SeqQ _ _ _ _ = K
  refine EvC.reg ?_
  repeat (first | refine EvO.T rfl rfl rfl rfl ?_ | refine EvO.L rfl rfl rfl rfl ?_ | refine EvO.N rfl rfl rfl ?_ | refine EvO.offT rfl rfl ?_ | refine EvO.offL rfl rfl ?_)
  refine EvO.nil ?_
  try dsimp only [Fr.putO, Fr.put, Fr.clean, Fr.ev, Fr.get, nth, Go.V.look, u1, u2, v1, v2, v3, v4, v5, v6, v7, List.length, u3, u4, Nat.reduceSub, Nat.reduceAdd, List.map]
  try subst hK
  try refine qy ?_
  refine EvC.cond (v := false) rfl (fun h => by cases h) fun _ => ?_
  try refine qy ?_
  repeat refine qq ?_
  try generalize hK : SeqQ _ _ _ _ = K
  refine EvC.reg ?_
  repeat (first | refine EvO.T rfl rfl rfl rfl ?_ | refine EvO.L rfl rfl rfl rfl ?_ | refine EvO.N rfl rfl rfl ?_ | refine EvO.offT rfl rfl ?_ | refine EvO.offL rfl rfl ?_)
  refine EvO.nil ?_
  try dsimp only [Fr.putO, Fr.put, Fr.clean, Fr.ev, Fr.get, nth, Go.V.look, u1, u2, v1, v2, v3, v4, v5, v6, v7, List.length, u3, u4, Nat.reduceSub, Nat.reduceAdd, List.map]
  try subst hK
  try refine qy ?_
  refine EvC.cond (v := false) rfl (fun h => by cases h) fun _ => ?_
  try refine qy ?_
  refine EvC.skip ?_
  refine H _ _ _ ?_ rfl
  rw [ho]; simp [foldR, startS]
 ·subst hq
  obtain ⟨y1, ys, rfl⟩ : ∃ y1 ys, xs = y1 :: ys := by
   match xs, hxl with
   | y1 :: ys, _ => exact ⟨y1, ys, rfl⟩
  have hy1 := u8_lt y1
  try refine qy ?_
  repeat refine qq ?_
  refine EvC.block ?_
  try refine qy ?_
  repeat refine qq ?_
  try generalize hK : SeqQ _ _ _ _ = K
  refine EvC.reg ?_
  repeat (first | refine EvO.T rfl rfl rfl rfl ?_ | refine EvO.L rfl rfl rfl rfl ?_ | refine EvO.N rfl rfl rfl ?_ | refine EvO.offT rfl rfl ?_ | refine EvO.offL rfl rfl ?_)
  refine EvO.nil ?_
  try dsimp only [Fr.putO, Fr.put, Fr.clean, Fr.ev, Fr.get, nth, Go.V.look, u1, u2, v1, v2, v3, v4, v5, v6, v7, List.length, u3, u4, Nat.reduceSub, Nat.reduceAdd, List.map]
  try subst hK
  try refine qy ?_
  refine EvC.cond (v := true) rfl (fun _ => ?_) (fun h => by cases h)
  try refine qy ?_
  repeat refine qq ?_
  try generalize hK : SeqQ _ _ _ _ = K
  refine EvC.reg ?_
  (first | refine EvO.T rfl rfl rfl rfl ?_ | refine EvO.L rfl rfl rfl rfl ?_ | refine EvO.N rfl rfl rfl ?_ | refine EvO.offT rfl rfl ?_ | refine EvO.offL rfl rfl ?_)
  refine EvO.idxLoad rfl rfl rfl (fun _ => rfl) rfl rfl hb rfl rfl (by omega) (i := 0) (r := [.int .u8 (c.toNat : Nat)]) rfl rfl (fun p => ?_)
  repeat (first | refine EvO.T rfl rfl rfl rfl ?_ | refine EvO.L rfl rfl rfl rfl ?_ | refine EvO.N rfl rfl rfl ?_ | refine EvO.offT rfl rfl ?_ | refine EvO.offL rfl rfl ?_)
  refine EvO.idxLoad rfl rfl rfl (fun _ => rfl) rfl rfl hb rfl rfl (by omega) (i := 1) (r := [.int .u8 (y1.toNat : Nat)]) rfl rfl (fun p => ?_)
  repeat (first | refine EvO.T rfl rfl rfl rfl ?_ | refine EvO.L rfl rfl rfl rfl ?_ | refine EvO.N rfl rfl rfl ?_ | refine EvO.offT rfl rfl ?_ | refine EvO.offL rfl rfl ?_)
  refine EvO.nil ?_
  try dsimp only [Fr.putO, Fr.put, Fr.clean, Fr.ev, Fr.get, nth, Go.V.look, u1, u2, v1, v2, v3, v4, v5, v6, v7, List.length, u3, u4, Nat.reduceSub, Nat.reduceAdd, List.map]
  try subst hK
  try refine qy ?_
  rw [and8 (j := 5) (m := 31) hc (by omega) (by decide), and8 (j := 6) (m := 63) hy1 (by omega) (by decide), w32 (c := c.toNat % 2 ^ 5) (by omega), w32 (c := y1.toNat % 2 ^ 6) (by omega), shl32 6 (by decide) (by omega) (by omega), or32 6 rfl (by omega) (by omega)]
  refine H _ _ _ ?_ rfl
  rw [ho]; simp [foldR, startS]
 ·subst hq
  obtain ⟨y1, y2, ys, rfl⟩ : ∃ y1 y2 ys, xs = y1 :: y2 :: ys := by
   match xs, hxl with
   | y1 :: y2 :: ys, _ => exact ⟨y1, y2, ys, rfl⟩
  have hy1 := u8_lt y1
  have hy2 := u8_lt y2
  try refine qy ?_
  repeat refine qq ?_
  refine EvC.block ?_
  try refine qy ?_
  repeat refine qq ?_
  try generalize hK : SeqQ _ _ _ _ = K
  refine EvC.reg ?_
  repeat (first | refine EvO.T rfl rfl rfl rfl ?_ | refine EvO.L rfl rfl rfl rfl ?_ | refine EvO.N rfl rfl rfl ?_ | refine EvO.offT rfl rfl ?_ | refine EvO.offL rfl rfl ?_)
  refine EvO.nil ?_
  try dsimp only [Fr.putO, Fr.put, Fr.clean, Fr.ev, Fr.get, nth, Go.V.look, u1, u2, v1, v2, v3, v4, v5, v6, v7, List.length, u3, u4, Nat.reduceSub, Nat.reduceAdd, List.map]
  try subst hK
  try refine qy ?_
  refine EvC.cond (v := false) rfl (fun h => by cases h) fun _ => ?_
  try refine qy ?_
  repeat refine qq ?_
  try generalize hK : SeqQ _ _ _ _ = K
  refine EvC.reg ?_
  repeat (first | refine EvO.T rfl rfl rfl rfl ?_ | refine EvO.L rfl rfl rfl rfl ?_ | refine EvO.N rfl rfl rfl ?_ | refine EvO.offT rfl rfl ?_ | refine EvO.offL rfl rfl ?_)
  refine EvO.nil ?_
  try dsimp only [Fr.putO, Fr.put, Fr.clean, Fr.ev, Fr.get, nth, Go.V.look, u1, u2, v1, v2, v3, v4, v5, v6, v7, List.length, u3, u4, Nat.reduceSub, Nat.reduceAdd, List.map]
  try subst hK
  try refine qy ?_
  refine EvC.cond (v := true) rfl (fun _ => ?_) (fun h => by cases h)
  try refine qy ?_
  repeat refine qq ?_
  try generalize hK : SeqQ _ _ _ _ = K
  refine EvC.reg ?_
  (first | refine EvO.T rfl rfl rfl rfl ?_ | refine EvO.L rfl rfl rfl rfl ?_ | refine EvO.N rfl rfl rfl ?_ | refine EvO.offT rfl rfl ?_ | refine EvO.offL rfl rfl ?_)
  refine EvO.idxLoad rfl rfl rfl (fun _ => rfl) rfl rfl hb rfl rfl (by omega) (i := 0) (r := [.int .u8 (c.toNat : Nat)]) rfl rfl (fun p => ?_)
  repeat (first | refine EvO.T rfl rfl rfl rfl ?_ | refine EvO.L rfl rfl rfl rfl ?_ | refine EvO.N rfl rfl rfl ?_ | refine EvO.offT rfl rfl ?_ | refine EvO.offL rfl rfl ?_)
  refine EvO.idxLoad rfl rfl rfl (fun _ => rfl) rfl rfl hb rfl rfl (by omega) (i := 1) (r := [.int .u8 (y1.toNat : Nat)]) rfl rfl (fun p => ?_)
  repeat (first | refine EvO.T rfl rfl rfl rfl ?_ | refine EvO.L rfl rfl rfl rfl ?_ | refine EvO.N rfl rfl rfl ?_ | refine EvO.offT rfl rfl ?_ | refine EvO.offL rfl rfl ?_)
  refine EvO.idxLoad rfl rfl rfl (fun _ => rfl) rfl rfl hb rfl rfl (by omega) (i := 2) (r := [.int .u8 (y2.toNat : Nat)]) rfl rfl (fun p => ?_)
  repeat (first | refine EvO.T rfl rfl rfl rfl ?_ | refine EvO.L rfl rfl rfl rfl ?_ | refine EvO.N rfl rfl rfl ?_ | refine EvO.offT rfl rfl ?_ | refine EvO.offL rfl rfl ?_)
  refine EvO.nil ?_
  try dsimp only [Fr.putO, Fr.put, Fr.clean, Fr.ev, Fr.get, nth, Go.V.look, u1, u2, v1, v2, v3, v4, v5, v6, v7, List.length, u3, u4, Nat.reduceSub, Nat.reduceAdd, List.map]
  try subst hK
  try refine qy ?_
  rw [and8 (j := 4) (m := 15) hc (by omega) (by decide), and8 (j := 6) (m := 63) hy1 (by omega) (by decide), and8 (j := 6) (m := 63) hy2 (by omega) (by decide), w32 (c := c.toNat % 2 ^ 4) (by omega), w32 (c := y1.toNat % 2 ^ 6) (by omega), w32 (c := y2.toNat % 2 ^ 6) (by omega), shl32 12 (by decide) (by omega) (by omega), shl32 6 (by decide) (by omega) (by omega), or32 12 rfl (by omega) (by omega), or32 (a := c.toNat % 2 ^ 4 * 64 + y1.toNat % 2 ^ 6) 6 (by omega) (by omega) (by omega)]
  refine H _ _ _ ?_ rfl
  rw [ho]; simp [foldR, startS]
 ·subst hq
  obtain ⟨y1, y2, y3, ys, rfl⟩ : ∃ y1 y2 y3 ys, xs = y1 :: y2 :: y3 :: ys := by
   match xs, hxl with
   | y1 :: y2 :: y3 :: ys, _ => exact ⟨y1, y2, y3, ys, rfl⟩
  have hy1 := u8_lt y1
  have hy2 := u8_lt y2
  have hy3 := u8_lt y3
  try refine qy ?_
  repeat refine qq ?_
  refine EvC.block ?_
  try refine qy ?_
  repeat refine qq ?_
  try generalize hK : SeqQ _ _ _ _ = K
  refine EvC.reg ?_
  repeat (first | refine EvO.T rfl rfl rfl rfl ?_ | refine EvO.L rfl rfl rfl rfl ?_ | refine EvO.N rfl rfl rfl ?_ | refine EvO.offT rfl rfl ?_ | refine EvO.offL rfl rfl ?_)
  refine EvO.nil ?_
  try dsimp only [Fr.putO, Fr.put, Fr.clean, Fr.ev, Fr.get, nth, Go.V.look, u1, u2, v1, v2, v3, v4, v5, v6, v7, List.length, u3, u4, Nat.reduceSub, Nat.reduceAdd, List.map]
  try subst hK
  try refine qy ?_
  refine EvC.cond (v := false) rfl (fun h => by cases h) fun _ => ?_
  try refine qy ?_
  repeat refine qq ?_
  try generalize hK : SeqQ _ _ _ _ = K
  refine EvC.reg ?_
  repeat (first | refine EvO.T rfl rfl rfl rfl ?_ | refine EvO.L rfl rfl rfl rfl ?_ | refine EvO.N rfl rfl rfl ?_ | refine EvO.offT rfl rfl ?_ | refine EvO.offL rfl rfl ?_)
  refine EvO.nil ?_
  try dsimp only [Fr.putO, Fr.put, Fr.clean, Fr.ev, Fr.get, nth, Go.V.look, u1, u2, v1, v2, v3, v4, v5, v6, v7, List.length, u3, u4, Nat.reduceSub, Nat.reduceAdd, List.map]
  try subst hK
  try refine qy ?_
  refine EvC.cond (v := false) rfl (fun h => by cases h) fun _ => ?_
  try refine qy ?_
  repeat refine qq ?_
  try generalize hK : SeqQ _ _ _ _ = K
  refine EvC.reg ?_
  repeat (first | refine EvO.T rfl rfl rfl rfl ?_ | refine EvO.L rfl rfl rfl rfl ?_ | refine EvO.N rfl rfl rfl ?_ | refine EvO.offT rfl rfl ?_ | refine EvO.offL rfl rfl ?_)
  refine EvO.nil ?_
  try dsimp only [Fr.putO, Fr.put, Fr.clean, Fr.ev, Fr.get, nth, Go.V.look, u1, u2, v1, v2, v3, v4, v5, v6, v7, List.length, u3, u4, Nat.reduceSub, Nat.reduceAdd, List.map]
  try subst hK
  try refine qy ?_
  refine EvC.cond (v := true) rfl (fun _ => ?_) (fun h => by cases h)
  try refine qy ?_
  repeat refine qq ?_
  try generalize hK : SeqQ _ _ _ _ = K
  refine EvC.reg ?_
  (first | refine EvO.T rfl rfl rfl rfl ?_ | refine EvO.L rfl rfl rfl rfl ?_ | refine EvO.N rfl rfl rfl ?_ | refine EvO.offT rfl rfl ?_ | refine EvO.offL rfl rfl ?_)
  refine EvO.idxLoad rfl rfl rfl (fun _ => rfl) rfl rfl hb rfl rfl (by omega) (i := 0) (r := [.int .u8 (c.toNat : Nat)]) rfl rfl (fun p => ?_)
  repeat (first | refine EvO.T rfl rfl rfl rfl ?_ | refine EvO.L rfl rfl rfl rfl ?_ | refine EvO.N rfl rfl rfl ?_ | refine EvO.offT rfl rfl ?_ | refine EvO.offL rfl rfl ?_)
  refine EvO.idxLoad rfl rfl rfl (fun _ => rfl) rfl rfl hb rfl rfl (by omega) (i := 1) (r := [.int .u8 (y1.toNat : Nat)]) rfl rfl (fun p => ?_)
  repeat (first | refine EvO.T rfl rfl rfl rfl ?_ | refine EvO.L rfl rfl rfl rfl ?_ | refine EvO.N rfl rfl rfl ?_ | refine EvO.offT rfl rfl ?_ | refine EvO.offL rfl rfl ?_)
  refine EvO.idxLoad rfl rfl rfl (fun _ => rfl) rfl rfl hb rfl rfl (by omega) (i := 2) (r := [.int .u8 (y2.toNat : Nat)]) rfl rfl (fun p => ?_)
  repeat (first | refine EvO.T rfl rfl rfl rfl ?_ | refine EvO.L rfl rfl rfl rfl ?_ | refine EvO.N rfl rfl rfl ?_ | refine EvO.offT rfl rfl ?_ | refine EvO.offL rfl rfl ?_)
  refine EvO.idxLoad rfl rfl rfl (fun _ => rfl) rfl rfl hb rfl rfl (by omega) (i := 3) (r := [.int .u8 (y3.toNat : Nat)]) rfl rfl (fun p => ?_)
  repeat (first | refine EvO.T rfl rfl rfl rfl ?_ | refine EvO.L rfl rfl rfl rfl ?_ | refine EvO.N rfl rfl rfl ?_ | refine EvO.offT rfl rfl ?_ | refine EvO.offL rfl rfl ?_)
  refine EvO.nil ?_
  try dsimp only [Fr.putO, Fr.put, Fr.clean, Fr.ev, Fr.get, nth, Go.V.look, u1, u2, v1, v2, v3, v4, v5, v6, v7, List.length, u3, u4, Nat.reduceSub, Nat.reduceAdd, List.map]
  try subst hK
  try refine qy ?_
  rw [and8 (j := 3) (m := 7) hc (by omega) (by decide), and8 (j := 6) (m := 63) hy1 (by omega) (by decide), and8 (j := 6) (m := 63) hy2 (by omega) (by decide), and8 (j := 6) (m := 63) hy3 (by omega) (by decide), w32 (c := c.toNat % 2 ^ 3) (by omega), w32 (c := y1.toNat % 2 ^ 6) (by omega), w32 (c := y2.toNat % 2 ^ 6) (by omega), w32 (c := y3.toNat % 2 ^ 6) (by omega), shl32 18 (by decide) (by omega) (by omega), shl32 12 (by decide) (by omega) (by omega), shl32 6 (by decide) (by omega) (by omega), or32 18 rfl (by omega) (by omega), or32 (a := c.toNat % 2 ^ 3 * 64 + y1.toNat % 2 ^ 6) 12 (by omega) (by omega) (by omega), or32 (a := (c.toNat % 2 ^ 3 * 64 + y1.toNat % 2 ^ 6) * 64 + y2.toNat % 2 ^ 6) 6 (by omega) (by omega) (by omega)]
  refine H _ _ _ ?_ rfl
  rw [ho]; simp [foldR, startS]
end Go.Proofs.YtbdilgkfnacahaaGreat
