import Derived.Test.YtbdilgkfnacahaaGreatUg
namespace Go.Proofs.YtbdilgkfnacahaaGreat
open Go.V Go
set_option maxRecDepth 100000
set_option maxHeartbeats 4000000
set_option linter.unusedSimpArgs false
set_option linter.unusedVariables false

theorem rall_ev {st : St} {x : D} {b : List UInt8} (hb : Bytes st x b) (hlen : b.length ≤ 1048576) : Ev pv 29 [x] st (gotsD (allS b)) st := by
 refine Ev.mk1 rfl fi29 rfl rfl rfl ?_
 dsimp only [List.cons_append, List.nil_append, List.length, Nat.reduceSub, Nat.reduceAdd, List.replicate_succ, List.replicate_zero]
 have hx := hb.ref
 try refine qy ?_
 repeat refine qq ?_
 try generalize hK : SeqQ _ _ _ _ = K
 refine EvC.reg ?_
 repeat (first | refine EvO.T rfl rfl rfl rfl ?_ | refine EvO.L rfl rfl rfl rfl ?_ | refine EvO.N rfl rfl rfl ?_ | refine EvO.offT rfl rfl ?_ | refine EvO.offL rfl rfl ?_)
 refine EvO.nil ?_
 try dsimp only [Fr.putO, Fr.put, Fr.clean, Fr.ev, Fr.get, nth, Go.V.look, u1, u2, v1, v2, v3, v4, v5, v6, v7, List.length, u3, u4, Nat.reduceSub, Nat.reduceAdd, List.map]
 try subst hK
 try refine qy ?_
 repeat refine qq ?_
 try generalize hK : SeqQ _ _ _ _ = K
 refine EvC.reg ?_
 repeat (first | refine EvO.T rfl rfl rfl rfl ?_ | refine EvO.L rfl rfl rfl rfl ?_ | refine EvO.N rfl rfl rfl ?_ | refine EvO.offT rfl rfl ?_ | refine EvO.offL rfl rfl ?_)
 refine EvO.nil ?_
 try dsimp only [Fr.putO, Fr.put, Fr.clean, Fr.ev, Fr.get, nth, Go.V.look, u1, u2, v1, v2, v3, v4, v5, v6, v7, List.length, u3, u4, Nat.reduceSub, Nat.reduceAdd, List.map]
 try subst hK
 try refine qy ?_
 repeat refine qq ?_
 refine EvC.block ?_
 refine EvC.loop (fun j fr st' => ∃ (y out g : D) (b' : List UInt8) (done : List (Nat × Nat)), fr.clean = ⟨5, [y, .tup [], .nul, out, g], []⟩ ∧ Ex st.bs.length (enterSt .ro st) st' ∧ Bytes st' y b' ∧ y.ref ≤ st.bs.length ∧
  Acc st.bs.length st' 2 out (done.map gotC) ∧ j = b'.length ∧ done ++ allS b' = allS b ∧ done.length + b'.length ≤ b.length) b.length
  ⟨x, .nul, _, b, [], rfl, Ex.refl _ _, hb.enter .ro, hx, .nul, rfl, rfl, by simp⟩ ?_
 rintro j fr st' ⟨y, out, g0, b', done, hfr, hex, hy, hyr, hacc, rfl, hall, hl⟩
 rw [hfr]
 try refine qy ?_
 repeat refine qq ?_
 try generalize hK : SeqQ _ _ _ _ = K
 refine EvC.reg ?_
 (first | refine EvO.T rfl rfl rfl rfl ?_ | refine EvO.L rfl rfl rfl rfl ?_ | refine EvO.N rfl rfl rfl ?_ | refine EvO.offT rfl rfl ?_ | refine EvO.offL rfl rfl ?_)
 refine EvO.len rfl rfl rfl hy rfl ?_
 repeat (first | refine EvO.T rfl rfl rfl rfl ?_ | refine EvO.L rfl rfl rfl rfl ?_ | refine EvO.N rfl rfl rfl ?_ | refine EvO.offT rfl rfl ?_ | refine EvO.offL rfl rfl ?_)
 refine EvO.nil ?_
 try dsimp only [Fr.putO, Fr.put, Fr.clean, Fr.ev, Fr.get, nth, Go.V.look, u1, u2, v1, v2, v3, v4, v5, v6, v7, List.length, u3, u4, Nat.reduceSub, Nat.reduceAdd, List.map]
 try subst hK
 try refine qy ?_
 rw [byteCells_len]
 try refine qy ?_
 repeat refine qq ?_
 refine qc (fun h1 => ?_) (fun h1 => ?_) <;> try simp only [cs] at h1
 ·refine EvC.skip ?_
  try refine qy ?_
  have hb0 : b' ≠ [] := by rintro rfl; simp at h1
  try refine qy ?_
  repeat refine qq ?_
  refine EvC.block ?_
  have hof := rfirst_ev hy (by omega)
  generalize hg : oneS b' = g at hof
  have hp := oneS_pos b'
  have hle := oneS_le hb0
  rw [hg] at hp hle
  have hN : st.bs.length ≤ st'.bs.length := hex.len
  have hf : st'.flr = st.bs.length := by rw [hex.flr]; rfl
  have hro : st'.ro = st.bs.length := by rw [hex.ro]; rfl
  try refine qy ?_
  repeat refine qq ?_
  try generalize hK : SeqQ _ _ _ _ = K
  refine EvC.reg ?_
  (first | refine EvO.T rfl rfl rfl rfl ?_ | refine EvO.L rfl rfl rfl rfl ?_ | refine EvO.N rfl rfl rfl ?_ | refine EvO.offT rfl rfl ?_ | refine EvO.offL rfl rfl ?_)
  refine EvO.callT rfl rfl rfl hof ?_
  refine EvO.L rfl rfl rfl (d := .ptr st'.bs.length 0 0) (st1 := st'.push (.mem 0 false (gotC (0, 0)))) rfl ?_
  refine EvO.store (k := st'.bs.length) (ver := 0) (off := 0) (cs := gotC g) rfl rfl rfl rfl rfl (push_at st' _) (by simp [gotC]) (canW_own (N := st.bs.length) hN (by rw [← hf]; exact Nat.le_refl _) (by rw [← hro]; exact Nat.le_refl _)) ?_
  refine EvO.nil ?_
  try dsimp only [Fr.putO, Fr.put, Fr.clean, Fr.ev, Fr.get, nth, Go.V.look, u1, u2, v1, v2, v3, v4, v5, v6, v7, List.length, u3, u4, Nat.reduceSub, Nat.reduceAdd, List.map]
  try subst hK
  try refine qy ?_
  rw [show (⟨(st'.push (.mem 0 false (gotC (0, 0)))).bs.set st'.bs.length (.mem 0 false ((gotC (0, 0)).take 0 ++ gotC g ++ (gotC (0, 0)).drop (0 + (gotC g).length))), (st'.push (.mem 0 false (gotC (0, 0)))).flr, (st'.push (.mem 0 false (gotC (0, 0)))).ro⟩ : St) = st'.push (.mem 0 false (gotC g)) from push_set rfl]
  have hex1 := hex.trans (Ex.push hN (.mem 0 false (gotC g)))
  generalize hS1 : st'.push (.mem 0 false (gotC g)) = S1 at hex1
  have hg1 : S1.bs[st'.bs.length]? = some (.mem 0 false (gotC g)) := by subst hS1; exact push_at st' _
  have hacc1 : V.Acc st.bs.length S1 2 out (done.map gotC) := by subst hS1; exact hacc.push _
  have hl1 : st'.bs.length < S1.bs.length := by subst hS1; simp [St.push]
  try refine qy ?_
  repeat refine qq ?_
  try generalize hK : SeqQ _ _ _ _ = K
  refine EvC.reg ?_
  (first | refine EvO.T rfl rfl rfl rfl ?_ | refine EvO.L rfl rfl rfl rfl ?_ | refine EvO.N rfl rfl rfl ?_ | refine EvO.offT rfl rfl ?_ | refine EvO.offL rfl rfl ?_)
  refine EvO.load (k := st'.bs.length) (ver := 0) (off := 0) (ar := false) (c := gotC g) (d := .agg (gotC g)) rfl rfl rfl hg1 rfl ?_
  refine EvO.T rfl rfl rfl (d := .win S1.bs.length 0 0 1 2) (st1 := S1.push (.mem 0 true (gotC g))) rfl ?_
  have hex2 := hex1.trans (Ex.push hex1.len (.mem 0 true (gotC g)))
  refine EvO.append rfl rfl rfl rfl (hacc1.push _) (Rows.one rfl) rfl rfl rfl rfl rfl rfl rfl (by decide) hex2.len (by rw [hex2.flr]; exact Nat.le_refl _) (by rw [hex2.ro]; exact Nat.le_refl _) (by simp only [List.length_map, List.length_cons, List.length_nil]; show (done.length + 1) * 16 ≤ _; omega) fun out' st2 hacc2 hex3 _ hsame _ => ?_
  repeat (first | refine EvO.T rfl rfl rfl rfl ?_ | refine EvO.L rfl rfl rfl rfl ?_ | refine EvO.N rfl rfl rfl ?_ | refine EvO.offT rfl rfl ?_ | refine EvO.offL rfl rfl ?_)
  refine EvO.nil ?_
  try dsimp only [Fr.putO, Fr.put, Fr.clean, Fr.ev, Fr.get, nth, Go.V.look, u1, u2, v1, v2, v3, v4, v5, v6, v7, List.length, u3, u4, Nat.reduceSub, Nat.reduceAdd, List.map]
  try subst hK
  try refine qy ?_
  have hex4 := hex2.trans hex3
  have hy2 : Bytes st2 y b' := Rows.ex ((Ex.push hN _).trans ((Ex.push (by rw [hS1]; exact hex1.len) _).trans (by rw [hS1]; exact hex3))) hy hyr
  have hg2 : st2.bs[st'.bs.length]? = some (.mem 0 false (gotC g)) := by
   rw [hsame st'.bs.length (by simp [St.push]; omega) ?_]
   ·simp only [St.push]; rw [List.getElem?_append_left hl1]; exact hg1
   ·have := hacc.ref
    show st'.bs.length + 1 ≠ out.ref
    omega
  try refine qy ?_
  repeat refine qq ?_
  try generalize hK : SeqQ _ _ _ _ = K
  refine EvC.reg ?_
  (first | refine EvO.T rfl rfl rfl rfl ?_ | refine EvO.L rfl rfl rfl rfl ?_ | refine EvO.N rfl rfl rfl ?_ | refine EvO.offT rfl rfl ?_ | refine EvO.offL rfl rfl ?_)
  (first | refine EvO.T rfl rfl rfl rfl ?_ | refine EvO.L rfl rfl rfl rfl ?_ | refine EvO.N rfl rfl rfl ?_ | refine EvO.offT rfl rfl ?_ | refine EvO.offL rfl rfl ?_)
  refine EvO.load (k := st'.bs.length) (ver := 0) (off := 1) (ar := false) (c := gotC g) (d := .int .i64 (g.2 : Nat)) rfl rfl rfl hg2 rfl ?_
  refine EvO.slice rfl rfl rfl hy2 rfl rfl (l := g.2) (r := b'.length) ?_ ⟨by omega, by rw [byteCells_len]; omega⟩ fun y2 hy3 hyr2 => ?_
  ·show boundsD (byteCells b').length (some (.int .i64 (g.2 : Nat))) none = _
   rw [byteCells_len]
   simp only [boundsD, optBound, boundD, Option.bind_some]
   rw [if_pos ⟨by omega, by omega⟩]; rfl
  repeat (first | refine EvO.T rfl rfl rfl rfl ?_ | refine EvO.L rfl rfl rfl rfl ?_ | refine EvO.N rfl rfl rfl ?_ | refine EvO.offT rfl rfl ?_ | refine EvO.offL rfl rfl ?_)
  refine EvO.nil ?_
  try dsimp only [Fr.putO, Fr.put, Fr.clean, Fr.ev, Fr.get, nth, Go.V.look, u1, u2, v1, v2, v3, v4, v5, v6, v7, List.length, u3, u4, Nat.reduceSub, Nat.reduceAdd, List.map]
  try subst hK
  try refine qy ?_
  refine ⟨(b'.drop g.2).length, by rw [List.length_drop]; omega, y2, out', _, b'.drop g.2, done ++ [g], rfl, hex4, ?_, Nat.le_trans hyr2 hyr, ?_, rfl, ?_, ?_⟩
  ·have : ((byteCells b').take b'.length).drop g.2 = byteCells (b'.drop g.2) := by
    rw [← byteCells_len, List.take_length]; simp [byteCells]
   unfold Bytes; rw [← this]; exact hy3
  ·rw [List.map_append]; exact hacc2
  ·rw [List.append_assoc, List.singleton_append, ← hall, allS_cons hb0, hg]
  ·rw [List.length_append, List.length_drop]; simp only [List.length_cons, List.length_nil]; omega
 ·refine EvC.exit ?_
  have hb0 : b' = [] := by cases b' with | nil => rfl | cons _ _ => simp at h1 <;> omega
  subst hb0
  rw [allS_nil, List.append_nil] at hall
  try refine qy ?_
  repeat refine qq ?_
  try generalize hK : SeqQ _ _ _ _ = K
  refine EvC.reg ?_
  repeat (first | refine EvO.T rfl rfl rfl rfl ?_ | refine EvO.L rfl rfl rfl rfl ?_ | refine EvO.N rfl rfl rfl ?_ | refine EvO.offT rfl rfl ?_ | refine EvO.offL rfl rfl ?_)
  refine EvO.nil ?_
  try dsimp only [Fr.putO, Fr.put, Fr.clean, Fr.ev, Fr.get, nth, Go.V.look, u1, u2, v1, v2, v3, v4, v5, v6, v7, List.length, u3, u4, Nat.reduceSub, Nat.reduceAdd, List.map]
  try subst hK
  try refine qy ?_
  refine EvC.ret ⟨fun i h => (by cases h), _, rfl, leave_same (by simp) (hex.take rfl) ?_⟩
  rw [← hall]
  exact hacc.freeze gotC_plain (n := 15) (by decide)
end Go.Proofs.YtbdilgkfnacahaaGreat
