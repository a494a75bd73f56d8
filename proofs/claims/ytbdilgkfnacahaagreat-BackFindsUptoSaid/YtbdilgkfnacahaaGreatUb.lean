import Derived.Test.YtbdilgkfnacahaaGreatUa
namespace Go.Proofs.YtbdilgkfnacahaaGreat
open Go.V Go
set_option maxRecDepth 100000
set_option maxHeartbeats 4000000
set_option linter.unusedSimpArgs false
set_option linter.unusedVariables false

def oneS (b : List UInt8) : Nat × Nat := if (firstS b).2.1 = 0 then (65533, 1) else ((firstS b).1, (firstS b).2.1)

def allF : Nat → List UInt8 → List (Nat × Nat)
 | 0, _ => []
 | _ + 1, [] => []
 | n + 1, b => oneS b :: allF n (b.drop (oneS b).2)
def allS (b : List UInt8) : List (Nat × Nat) := allF b.length b

theorem oneS_pos (b : List UInt8) : 1 ≤ (oneS b).2 := by
 unfold oneS; split
 ·simp
 ·simp only; omega

theorem allF_more : ∀ (n : Nat) (b : List UInt8), b.length ≤ n → allF n b = allS b
 | 0, [], _ => rfl
 | 0, _ :: _, h => by simp at h
 | n + 1, [], _ => rfl
 | n + 1, c :: b, h => by
  have hp := oneS_pos (c :: b)
  have h1 : ((c :: b).drop (oneS (c :: b)).2).length ≤ b.length := by rw [List.length_drop]; simp only [List.length_cons]; omega
  simp only [List.length_cons] at h
  show oneS (c :: b) :: allF n ((c :: b).drop _) = oneS (c :: b) :: allF b.length ((c :: b).drop _)
  rw [allF_more n _ (by omega)]
  rcases Nat.lt_or_ge n b.length with h2 | h2
  ·omega
  ·rw [allF_more b.length _ h1]
termination_by n b => b.length
decreasing_by all_goals (simp_wf; omega)

theorem allS_nil : allS [] = [] := rfl
theorem allS_cons {b : List UInt8} (h : b ≠ []) : allS b = oneS b :: allS (b.drop (oneS b).2) := by
 match b, h with
 | c :: b, _ =>
  show oneS (c :: b) :: allF b.length ((c :: b).drop _) = _
  rw [allF_more]
  have hp := oneS_pos (c :: b)
  rw [List.length_drop]; simp only [List.length_cons]; omega

def gotC (g : Nat × Nat) : List D := [.int .i32 (g.1 : Nat), .int .i64 (g.2 : Nat)]
def gotsD (l : List (Nat × Nat)) : D := .sl ((l.map gotC).map (elD 2))

theorem gotC_len {l : List (Nat × Nat)} : ∀ e ∈ l.map gotC, e.length = 2 := by
 intro e he; obtain ⟨g, _, rfl⟩ := List.mem_map.1 he; rfl
theorem gotC_plain {l : List (Nat × Nat)} : ∀ e ∈ l.map gotC, ∀ d ∈ e, plainC d = true := by
 intro e he d hd; obtain ⟨g, _, rfl⟩ := List.mem_map.1 he
 simp only [gotC, List.mem_cons, List.not_mem_nil, or_false] at hd
 rcases hd with rfl | rfl <;> rfl
theorem gots_rows (st : St) (l : List (Nat × Nat)) : V.Rows st 2 (gotsD l) (l.map gotC) := Rows.ofFrozen gotC_len gotC_plain

theorem scanS_le : ∀ (left n r lo hi : Nat) (b : List UInt8), (scanS left n r lo hi b).2.1 ≠ 0 → (scanS left n r lo hi b).2.1 = n ∧ left ≤ b.length
 | 0, n, r, lo, hi, b, h => by simp [scanS]
 | left + 1, n, r, lo, hi, [], h => by simp [scanS] at h
 | left + 1, n, r, lo, hi, x :: xs, h => by
  simp only [scanS] at h ⊢
  split at h
  ·simp at h
  ·rename_i hc
   rw [if_neg hc]
   have := scanS_le left n _ _ _ xs h
   exact ⟨this.1, by simp; omega⟩

theorem oneS_le {b : List UInt8} (h : b ≠ []) : (oneS b).2 ≤ b.length := by
 match b, h with
 | c :: xs, _ =>
  unfold oneS
  split
  ·simp
  ·rename_i hz
   simp only [firstS] at hz ⊢
   split at hz
   ·simp at hz
   ·rename_i hk
    rw [if_neg hk]
    have := scanS_le _ _ _ _ _ _ hz
    rw [this.1]; simp; omega

theorem all_ev {st : St} {x : D} {b : List UInt8} (hb : Bytes st x b) (hlen : b.length ≤ 1048576) : Ev pv 24 [x] st (gotsD (allS b)) st := by
 refine Ev.mk1 rfl fi24 rfl rfl rfl ?_
 dsimp only [List.cons_append, List.nil_append, List.length, Nat.reduceSub, Nat.reduceAdd, List.replicate_succ, List.replicate_zero]
 have hx := hb.ref
 try refine qy ?_
 repeat refine qq ?_
 try generalize hK : SeqQ _ _ _ _ = K
 refine EvC.reg ?_
 repeat (first | refine EvO.T rfl rfl rfl rfl ?_ | refine EvO.L rfl rfl rfl rfl ?_ | refine EvO.N rfl rfl rfl ?_ | refine EvO.offT rfl rfl ?_ | refine EvO.offL rfl rfl ?_)
 refine EvO.nil ?_
 try dsimp only [Fr.putO, Fr.put, Fr.clean, Fr.ev, Fr.get, nth, Go.V.look, u1, u2, v1, v2, v3, v4, v5, v6, v7, List.length, u3, u4, Nat.reduceSub, Nat.reduceAdd, List.map]
 try subst hK
 try refine qy ?_
 repeat refine qq ?_
 try generalize hK : SeqQ _ _ _ _ = K
 refine EvC.reg ?_
 repeat (first | refine EvO.T rfl rfl rfl rfl ?_ | refine EvO.L rfl rfl rfl rfl ?_ | refine EvO.N rfl rfl rfl ?_ | refine EvO.offT rfl rfl ?_ | refine EvO.offL rfl rfl ?_)
 refine EvO.nil ?_
 try dsimp only [Fr.putO, Fr.put, Fr.clean, Fr.ev, Fr.get, nth, Go.V.look, u1, u2, v1, v2, v3, v4, v5, v6, v7, List.length, u3, u4, Nat.reduceSub, Nat.reduceAdd, List.map]
 try subst hK
 try refine qy ?_
 refine EvC.seq (EvC.block ?_)
 refine EvC.loop (fun j fr st' => ∃ (y out r n : D) (b' : List UInt8) (done : List (Nat × Nat)), fr.clean = ⟨6, [y, .tup [], .nul, out, r, n], []⟩ ∧ Ex st.bs.length (enterSt .ro st) st' ∧ Bytes st' y b' ∧ y.ref ≤ st.bs.length ∧
  Acc st.bs.length st' 2 out (done.map gotC) ∧ j = b'.length ∧ done ++ allS b' = allS b ∧ done.length + b'.length ≤ b.length) b.length
  ⟨x, .nul, _, _, b, [], rfl, Ex.refl _ _, hb.enter .ro, hx, .nul, rfl, rfl, by simp⟩ ?_
 rintro j fr st' ⟨y, out, r, n, b', done, hfr, hex, hy, hyr, hacc, rfl, hall, hl⟩
 rw [hfr]
 try refine qy ?_
 repeat refine qq ?_
 try generalize hK : SeqQ _ _ _ _ = K
 refine EvC.reg ?_
 (first | refine EvO.T rfl rfl rfl rfl ?_ | refine EvO.L rfl rfl rfl rfl ?_ | refine EvO.N rfl rfl rfl ?_ | refine EvO.offT rfl rfl ?_ | refine EvO.offL rfl rfl ?_)
 refine EvO.len rfl rfl rfl hy rfl ?_
 repeat (first | refine EvO.T rfl rfl rfl rfl ?_ | refine EvO.L rfl rfl rfl rfl ?_ | refine EvO.N rfl rfl rfl ?_ | refine EvO.offT rfl rfl ?_ | refine EvO.offL rfl rfl ?_)
 refine EvO.nil ?_
 try dsimp only [Fr.putO, Fr.put, Fr.clean, Fr.ev, Fr.get, nth, Go.V.look, u1, u2, v1, v2, v3, v4, v5, v6, v7, List.length, u3, u4, Nat.reduceSub, Nat.reduceAdd, List.map]
 try subst hK
 try refine qy ?_
 rw [byteCells_len]
 try refine qy ?_
 repeat refine qq ?_
 refine qc (fun h1 => ?_) (fun h1 => ?_) <;> try simp only [cs] at h1
 ·refine EvC.skip ?_
  have hb0 : b' ≠ [] := by rintro rfl; simp at h1
  try refine qy ?_
  repeat refine qq ?_
  refine EvC.block ?_
  try refine qy ?_
  repeat refine qq ?_
  try generalize hK : SeqQ _ _ _ _ = K
  refine EvC.reg ?_
  (first | refine EvO.T rfl rfl rfl rfl ?_ | refine EvO.L rfl rfl rfl rfl ?_ | refine EvO.N rfl rfl rfl ?_ | refine EvO.offT rfl rfl ?_ | refine EvO.offL rfl rfl ?_)
  refine EvO.callT rfl rfl rfl (first_ev hy) ?_
  repeat (first | refine EvO.T rfl rfl rfl rfl ?_ | refine EvO.L rfl rfl rfl rfl ?_ | refine EvO.N rfl rfl rfl ?_ | refine EvO.offT rfl rfl ?_ | refine EvO.offL rfl rfl ?_)
  refine EvO.nil ?_
  try dsimp only [Fr.putO, Fr.put, Fr.clean, Fr.ev, Fr.get, nth, Go.V.look, u1, u2, v1, v2, v3, v4, v5, v6, v7, List.length, u3, u4, Nat.reduceSub, Nat.reduceAdd, List.map]
  try subst hK
  try refine qy ?_
  generalize hf : firstS b' = F at *
  obtain ⟨r0, n0, bg⟩ := F
  try refine qy ?_
  repeat refine qq ?_
  try generalize hK : SeqQ _ _ _ _ = K
  refine EvC.reg ?_
  repeat (first | refine EvO.T rfl rfl rfl rfl ?_ | refine EvO.L rfl rfl rfl rfl ?_ | refine EvO.N rfl rfl rfl ?_ | refine EvO.offT rfl rfl ?_ | refine EvO.offL rfl rfl ?_)
  refine EvO.nil ?_
  try dsimp only [Fr.putO, Fr.put, Fr.clean, Fr.ev, Fr.get, nth, Go.V.look, u1, u2, v1, v2, v3, v4, v5, v6, v7, List.length, u3, u4, Nat.reduceSub, Nat.reduceAdd, List.map]
  try subst hK
  try refine qy ?_
  generalize hK : SeqQ _ _ _ _ = K
  have H : ∀ m, K .next ⟨6, [y, .tup [], .nul, out, .int .i32 ((oneS b').1 : Nat), .int .i64 ((oneS b').2 : Nat)], m⟩ st' := by
   intro m
   subst hK
   generalize hg : oneS b' = g
   have hp := oneS_pos b'
   have hle := oneS_le hb0
   rw [hg] at hp hle
   try refine qy ?_
   repeat refine qq ?_
   try generalize hK : SeqQ _ _ _ _ = K
   refine EvC.reg ?_
   (first | refine EvO.T rfl rfl rfl rfl ?_ | refine EvO.L rfl rfl rfl rfl ?_ | refine EvO.N rfl rfl rfl ?_ | refine EvO.offT rfl rfl ?_ | refine EvO.offL rfl rfl ?_)
   (first | refine EvO.T rfl rfl rfl rfl ?_ | refine EvO.L rfl rfl rfl rfl ?_ | refine EvO.N rfl rfl rfl ?_ | refine EvO.offT rfl rfl ?_ | refine EvO.offL rfl rfl ?_)
   (first | refine EvO.T rfl rfl rfl rfl ?_ | refine EvO.L rfl rfl rfl rfl ?_ | refine EvO.N rfl rfl rfl ?_ | refine EvO.offT rfl rfl ?_ | refine EvO.offL rfl rfl ?_)
   refine EvO.T rfl rfl rfl (d := .agg (gotC g)) (st1 := st') rfl ?_
   refine EvO.T rfl rfl rfl (d := .win st'.bs.length 0 0 1 2) (st1 := st'.push (.mem 0 true (gotC g))) rfl ?_
   have hN : st.bs.length ≤ st'.bs.length := hex.len
   have hex1 := hex.trans (Ex.push hN (.mem 0 true (gotC g)))
   refine EvO.append rfl rfl rfl rfl (hacc.push _) (Rows.one rfl) rfl rfl rfl rfl rfl rfl rfl (by decide) hex1.len (by rw [hex1.flr]; exact Nat.le_refl _) (by rw [hex1.ro]; exact Nat.le_refl _) (by simp only [List.length_map, List.length_cons, List.length_nil]; show (done.length + 1) * 16 ≤ _; omega) fun out' st2 hacc2 hex2 _ _ _ => ?_
   repeat (first | refine EvO.T rfl rfl rfl rfl ?_ | refine EvO.L rfl rfl rfl rfl ?_ | refine EvO.N rfl rfl rfl ?_ | refine EvO.offT rfl rfl ?_ | refine EvO.offL rfl rfl ?_)
   refine EvO.nil ?_
   try dsimp only [Fr.putO, Fr.put, Fr.clean, Fr.ev, Fr.get, nth, Go.V.look, u1, u2, v1, v2, v3, v4, v5, v6, v7, List.length, u3, u4, Nat.reduceSub, Nat.reduceAdd, List.map]
   try subst hK
   try refine qy ?_
   have hex3 := hex1.trans hex2
   have hy2 : Bytes st2 y b' := Rows.ex ((Ex.push hN _).trans hex2) hy hyr
   try refine qy ?_
   repeat refine qq ?_
   try generalize hK : SeqQ _ _ _ _ = K
   refine EvC.reg ?_
   (first | refine EvO.T rfl rfl rfl rfl ?_ | refine EvO.L rfl rfl rfl rfl ?_ | refine EvO.N rfl rfl rfl ?_ | refine EvO.offT rfl rfl ?_ | refine EvO.offL rfl rfl ?_)
   (first | refine EvO.T rfl rfl rfl rfl ?_ | refine EvO.L rfl rfl rfl rfl ?_ | refine EvO.N rfl rfl rfl ?_ | refine EvO.offT rfl rfl ?_ | refine EvO.offL rfl rfl ?_)
   refine EvO.slice rfl rfl rfl hy2 rfl rfl (l := g.2) (r := b'.length) ?_ ⟨by omega, by rw [byteCells_len]; omega⟩ fun y2 hy3 hyr2 => ?_
   ·show boundsD (byteCells b').length (some (.int .i64 (g.2 : Nat))) none = _
    rw [byteCells_len]
    simp only [boundsD, optBound, boundD, Option.bind_some]
    rw [if_pos ⟨by omega, by omega⟩]; rfl
   repeat (first | refine EvO.T rfl rfl rfl rfl ?_ | refine EvO.L rfl rfl rfl rfl ?_ | refine EvO.N rfl rfl rfl ?_ | refine EvO.offT rfl rfl ?_ | refine EvO.offL rfl rfl ?_)
   refine EvO.nil ?_
   try dsimp only [Fr.putO, Fr.put, Fr.clean, Fr.ev, Fr.get, nth, Go.V.look, u1, u2, v1, v2, v3, v4, v5, v6, v7, List.length, u3, u4, Nat.reduceSub, Nat.reduceAdd, List.map]
   try subst hK
   try refine qy ?_
   refine ⟨(b'.drop g.2).length, by rw [List.length_drop]; omega, y2, out', _, _, b'.drop g.2, done ++ [g], rfl, hex3, ?_, Nat.le_trans hyr2 hyr, ?_, rfl, ?_, ?_⟩
   ·have : ((byteCells b').take b'.length).drop g.2 = byteCells (b'.drop g.2) := by
     rw [← byteCells_len, List.take_length]; simp [byteCells]
    unfold Bytes; rw [← this]; exact hy3
   ·rw [List.map_append]; exact hacc2
   ·rw [List.append_assoc, List.singleton_append, ← hall, allS_cons hb0, hg]
   ·rw [List.length_append, List.length_drop]; simp only [List.length_cons, List.length_nil]; omega
  try refine qy ?_
  repeat refine qq ?_
  refine qc (fun h2 => ?_) (fun h2 => ?_) <;> try simp only [cs] at h2
  ·refine EvC.reg ?_
   repeat (first | refine EvO.T rfl rfl rfl rfl ?_ | refine EvO.L rfl rfl rfl rfl ?_ | refine EvO.N rfl rfl rfl ?_ | refine EvO.offT rfl rfl ?_ | refine EvO.offL rfl rfl ?_)
   refine EvO.nil ?_
   try dsimp only [Fr.putO, Fr.put, Fr.clean, Fr.ev, Fr.get, nth, Go.V.look, u1, u2, v1, v2, v3, v4, v5, v6, v7, List.length, u3, u4, Nat.reduceSub, Nat.reduceAdd, List.map]
   have : oneS b' = (65533, 1) := by unfold oneS; rw [hf, if_pos (by simpa using h2)]
   rw [this] at H
   exact H _
  ·refine EvC.skip ?_
   have : oneS b' = (r0, n0) := by unfold oneS; rw [hf, if_neg (by simpa using h2)]
   rw [this] at H
   exact H _
 ·refine EvC.exit ?_
  have hb0 : b' = [] := by cases b' with | nil => rfl | cons _ _ => simp at h1 <;> omega
  subst hb0
  rw [allS_nil, List.append_nil] at hall
  try refine qy ?_
  repeat refine qq ?_
  try generalize hK : SeqQ _ _ _ _ = K
  refine EvC.reg ?_
  repeat (first | refine EvO.T rfl rfl rfl rfl ?_ | refine EvO.L rfl rfl rfl rfl ?_ | refine EvO.N rfl rfl rfl ?_ | refine EvO.offT rfl rfl ?_ | refine EvO.offL rfl rfl ?_)
  refine EvO.nil ?_
  try dsimp only [Fr.putO, Fr.put, Fr.clean, Fr.ev, Fr.get, nth, Go.V.look, u1, u2, v1, v2, v3, v4, v5, v6, v7, List.length, u3, u4, Nat.reduceSub, Nat.reduceAdd, List.map]
  try subst hK
  try refine qy ?_
  refine EvC.ret ⟨fun i h => (by cases h), _, rfl, leave_same (by simp) (hex.take rfl) ?_⟩
  rw [← hall]
  exact hacc.freeze gotC_plain (n := 15) (by decide)
end Go.Proofs.YtbdilgkfnacahaaGreat
