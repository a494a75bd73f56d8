/- UtfResumes, for arguments of bulk at most 1048576: it answers true. -/
import Derived.Test.YtlljdbhefepheaaUm
import Derived.Test.YtlljdbhefepheaaWd
import Derived.Test.YtlljdbhefepheaaRows
import Derived.Test.YtlljdbhefepheaaBulk
import Derived.WalkKit
import Derived.ProofKit
import Derived.OpenShut
import Derived.JoinedCond
import Derived.ChangeOld
namespace Go.Proofs.Ytlljdbhefepheaa.utfResumes
open Go.ChangeShapes Go.WideShapes Go.ChangeAt Go.RowKit Go.V
set_option maxRecDepth 100000
set_option maxHeartbeats 4000000
set_option linter.unusedSimpArgs false
set_option linter.unusedVariables false

theorem within_ev {st : St} {a : Int} {n : Nat} (hn : n ≤ 300) : ∃ k : Int, Ev pv 22 [.int .i64 a, .int .i64 0, .int .i64 (n : Nat)] st (.int .i64 k) st := by
  have hb : wrapD .i64 (wrapD .i64 ((n : Int) - 0) + 1) = (n : Int) + 1 := by
    have e : wrapD .i64 ((n : Int) - 0) = n := by rw [wrap_i64 (by omega) (by omega)]; omega
    rw [e, wrap_i64 (by omega) (by omega)]
  by_cases h : a.tmod ((n : Int) + 1) < 0
  · refine ⟨wrapD .i64 (0 + wrapD .i64 (wrapD .i64 (wrapD .i64 (a.tmod ((n : Int) + 1) + n) - 0) + 1)), ?_⟩
    refine Ev.mk1 rfl fi22 rfl rfl rfl ?_
    dsimp only [List.cons_append, List.nil_append, List.length, Nat.reduceSub, Nat.reduceAdd, List.replicate_succ, List.replicate_zero]
    try change EvC _ _ _ _ _ _
    repeat refine EvC.seq ?_
    try generalize hK : SeqQ _ _ _ _ = K
    refine EvC.reg ?_
    repeat (first | refine EvO.T rfl rfl rfl rfl ?_ | refine EvO.L rfl rfl rfl rfl ?_ | refine EvO.N rfl rfl rfl ?_ | refine EvO.offT rfl rfl ?_ | refine EvO.offL rfl rfl ?_)
    refine EvO.nil ?_
    dsimp only [Fr.putO, Fr.put, Fr.clean, Fr.ev, Fr.get, nth, Go.V.look, List.set_cons_succ, List.set_cons_zero, ofVal_int, ofVal_bool, ofVal_str, ofVal_nul, ofVal_pnil, ofVal_nilfn, ofVal_nilif, List.length, List.cons_append, List.nil_append, List.append_nil, Nat.reduceSub, Nat.reduceAdd, List.map, List.map_cons, List.map_nil]
    try subst hK
    try change EvC _ _ _ _ _ _
    try change EvC _ _ _ _ _ _
    repeat refine EvC.seq ?_
    try generalize hK : SeqQ _ _ _ _ = K
    refine EvC.reg ?_
    (first | refine EvO.T rfl rfl rfl rfl ?_ | refine EvO.L rfl rfl rfl rfl ?_ | refine EvO.N rfl rfl rfl ?_ | refine EvO.offT rfl rfl ?_ | refine EvO.offL rfl rfl ?_)
    (first | refine EvO.T rfl rfl rfl rfl ?_ | refine EvO.L rfl rfl rfl rfl ?_ | refine EvO.N rfl rfl rfl ?_ | refine EvO.offT rfl rfl ?_ | refine EvO.offL rfl rfl ?_)
    (first | refine EvO.T rfl rfl rfl rfl ?_ | refine EvO.L rfl rfl rfl rfl ?_ | refine EvO.N rfl rfl rfl ?_ | refine EvO.offT rfl rfl ?_ | refine EvO.offL rfl rfl ?_)
    (first | refine EvO.T rfl rfl rfl rfl ?_ | refine EvO.L rfl rfl rfl rfl ?_ | refine EvO.N rfl rfl rfl ?_ | refine EvO.offT rfl rfl ?_ | refine EvO.offL rfl rfl ?_)
    (first | refine EvO.T rfl rfl rfl rfl ?_ | refine EvO.L rfl rfl rfl rfl ?_ | refine EvO.N rfl rfl rfl ?_ | refine EvO.offT rfl rfl ?_ | refine EvO.offL rfl rfl ?_)
    rw [hb]
    refine EvO.T rfl rfl rfl (d := .int .i64 (a.tmod ((n : Int) + 1))) (st1 := enterSt .ro st) ?_ ?_
    · show (if (n : Int) + 1 = 0 then none else some (D.int .i64 (a.tmod ((n : Int) + 1)))).map (fun d => (d, enterSt .ro st)) = _
      rw [if_neg (by omega)]; rfl
    repeat (first | refine EvO.T rfl rfl rfl rfl ?_ | refine EvO.L rfl rfl rfl rfl ?_ | refine EvO.N rfl rfl rfl ?_ | refine EvO.offT rfl rfl ?_ | refine EvO.offL rfl rfl ?_)
    refine EvO.nil ?_
    dsimp only [Fr.putO, Fr.put, Fr.clean, Fr.ev, Fr.get, nth, Go.V.look, List.set_cons_succ, List.set_cons_zero, ofVal_int, ofVal_bool, ofVal_str, ofVal_nul, ofVal_pnil, ofVal_nilfn, ofVal_nilif, List.length, List.cons_append, List.nil_append, List.append_nil, Nat.reduceSub, Nat.reduceAdd, List.map, List.map_cons, List.map_nil]
    try subst hK
    try change EvC _ _ _ _ _ _
    try change EvC _ _ _ _ _ _
    repeat refine EvC.seq ?_
    try generalize hK : SeqQ _ _ _ _ = K
    refine EvC.reg ?_
    repeat (first | refine EvO.T rfl rfl rfl rfl ?_ | refine EvO.L rfl rfl rfl rfl ?_ | refine EvO.N rfl rfl rfl ?_ | refine EvO.offT rfl rfl ?_ | refine EvO.offL rfl rfl ?_)
    refine EvO.nil ?_
    dsimp only [Fr.putO, Fr.put, Fr.clean, Fr.ev, Fr.get, nth, Go.V.look, List.set_cons_succ, List.set_cons_zero, ofVal_int, ofVal_bool, ofVal_str, ofVal_nul, ofVal_pnil, ofVal_nilfn, ofVal_nilif, List.length, List.cons_append, List.nil_append, List.append_nil, Nat.reduceSub, Nat.reduceAdd, List.map, List.map_cons, List.map_nil]
    try subst hK
    try change EvC _ _ _ _ _ _
    try change EvC _ _ _ _ _ _
    repeat refine EvC.seq ?_
    refine EvC.cond rfl (fun h2 => ?_) (fun h2 => ?_) <;> try simp only [decide_eq_true_eq, decide_eq_false_iff_not, beq_iff_eq, beq_eq_false_iff_ne, bne_iff_ne, bne_eq_false_iff_eq, ne_eq, Bool.not_eq_true', Bool.not_eq_false', Bool.not_eq_true, Bool.not_eq_false] at h2
    · try change EvC _ _ _ _ _ _
      repeat refine EvC.seq ?_
      try generalize hK : SeqQ _ _ _ _ = K
      refine EvC.reg ?_
      repeat (first | refine EvO.T rfl rfl rfl rfl ?_ | refine EvO.L rfl rfl rfl rfl ?_ | refine EvO.N rfl rfl rfl ?_ | refine EvO.offT rfl rfl ?_ | refine EvO.offL rfl rfl ?_)
      refine EvO.nil ?_
      dsimp only [Fr.putO, Fr.put, Fr.clean, Fr.ev, Fr.get, nth, Go.V.look, List.set_cons_succ, List.set_cons_zero, ofVal_int, ofVal_bool, ofVal_str, ofVal_nul, ofVal_pnil, ofVal_nilfn, ofVal_nilif, List.length, List.cons_append, List.nil_append, List.append_nil, Nat.reduceSub, Nat.reduceAdd, List.map, List.map_cons, List.map_nil]
      try subst hK
      try change EvC _ _ _ _ _ _
      try change EvC _ _ _ _ _ _
      repeat refine EvC.seq ?_
      try generalize hK : SeqQ _ _ _ _ = K
      refine EvC.reg ?_
      repeat (first | refine EvO.T rfl rfl rfl rfl ?_ | refine EvO.L rfl rfl rfl rfl ?_ | refine EvO.N rfl rfl rfl ?_ | refine EvO.offT rfl rfl ?_ | refine EvO.offL rfl rfl ?_)
      refine EvO.nil ?_
      dsimp only [Fr.putO, Fr.put, Fr.clean, Fr.ev, Fr.get, nth, Go.V.look, List.set_cons_succ, List.set_cons_zero, ofVal_int, ofVal_bool, ofVal_str, ofVal_nul, ofVal_pnil, ofVal_nilfn, ofVal_nilif, List.length, List.cons_append, List.nil_append, List.append_nil, Nat.reduceSub, Nat.reduceAdd, List.map, List.map_cons, List.map_nil]
      try subst hK
      try change EvC _ _ _ _ _ _
      exact EvC.ret ⟨fun i h => (by cases h), _, rfl, leave_same (by simp) (by simp [enterSt]) rfl⟩
    · omega
  · refine ⟨wrapD .i64 (0 + a.tmod ((n : Int) + 1)), ?_⟩
    refine Ev.mk1 rfl fi22 rfl rfl rfl ?_
    dsimp only [List.cons_append, List.nil_append, List.length, Nat.reduceSub, Nat.reduceAdd, List.replicate_succ, List.replicate_zero]
    try change EvC _ _ _ _ _ _
    repeat refine EvC.seq ?_
    try generalize hK : SeqQ _ _ _ _ = K
    refine EvC.reg ?_
    repeat (first | refine EvO.T rfl rfl rfl rfl ?_ | refine EvO.L rfl rfl rfl rfl ?_ | refine EvO.N rfl rfl rfl ?_ | refine EvO.offT rfl rfl ?_ | refine EvO.offL rfl rfl ?_)
    refine EvO.nil ?_
    dsimp only [Fr.putO, Fr.put, Fr.clean, Fr.ev, Fr.get, nth, Go.V.look, List.set_cons_succ, List.set_cons_zero, ofVal_int, ofVal_bool, ofVal_str, ofVal_nul, ofVal_pnil, ofVal_nilfn, ofVal_nilif, List.length, List.cons_append, List.nil_append, List.append_nil, Nat.reduceSub, Nat.reduceAdd, List.map, List.map_cons, List.map_nil]
    try subst hK
    try change EvC _ _ _ _ _ _
    try change EvC _ _ _ _ _ _
    repeat refine EvC.seq ?_
    try generalize hK : SeqQ _ _ _ _ = K
    refine EvC.reg ?_
    (first | refine EvO.T rfl rfl rfl rfl ?_ | refine EvO.L rfl rfl rfl rfl ?_ | refine EvO.N rfl rfl rfl ?_ | refine EvO.offT rfl rfl ?_ | refine EvO.offL rfl rfl ?_)
    (first | refine EvO.T rfl rfl rfl rfl ?_ | refine EvO.L rfl rfl rfl rfl ?_ | refine EvO.N rfl rfl rfl ?_ | refine EvO.offT rfl rfl ?_ | refine EvO.offL rfl rfl ?_)
    (first | refine EvO.T rfl rfl rfl rfl ?_ | refine EvO.L rfl rfl rfl rfl ?_ | refine EvO.N rfl rfl rfl ?_ | refine EvO.offT rfl rfl ?_ | refine EvO.offL rfl rfl ?_)
    (first | refine EvO.T rfl rfl rfl rfl ?_ | refine EvO.L rfl rfl rfl rfl ?_ | refine EvO.N rfl rfl rfl ?_ | refine EvO.offT rfl rfl ?_ | refine EvO.offL rfl rfl ?_)
    (first | refine EvO.T rfl rfl rfl rfl ?_ | refine EvO.L rfl rfl rfl rfl ?_ | refine EvO.N rfl rfl rfl ?_ | refine EvO.offT rfl rfl ?_ | refine EvO.offL rfl rfl ?_)
    rw [hb]
    refine EvO.T rfl rfl rfl (d := .int .i64 (a.tmod ((n : Int) + 1))) (st1 := enterSt .ro st) ?_ ?_
    · show (if (n : Int) + 1 = 0 then none else some (D.int .i64 (a.tmod ((n : Int) + 1)))).map (fun d => (d, enterSt .ro st)) = _
      rw [if_neg (by omega)]; rfl
    repeat (first | refine EvO.T rfl rfl rfl rfl ?_ | refine EvO.L rfl rfl rfl rfl ?_ | refine EvO.N rfl rfl rfl ?_ | refine EvO.offT rfl rfl ?_ | refine EvO.offL rfl rfl ?_)
    refine EvO.nil ?_
    dsimp only [Fr.putO, Fr.put, Fr.clean, Fr.ev, Fr.get, nth, Go.V.look, List.set_cons_succ, List.set_cons_zero, ofVal_int, ofVal_bool, ofVal_str, ofVal_nul, ofVal_pnil, ofVal_nilfn, ofVal_nilif, List.length, List.cons_append, List.nil_append, List.append_nil, Nat.reduceSub, Nat.reduceAdd, List.map, List.map_cons, List.map_nil]
    try subst hK
    try change EvC _ _ _ _ _ _
    try change EvC _ _ _ _ _ _
    repeat refine EvC.seq ?_
    try generalize hK : SeqQ _ _ _ _ = K
    refine EvC.reg ?_
    repeat (first | refine EvO.T rfl rfl rfl rfl ?_ | refine EvO.L rfl rfl rfl rfl ?_ | refine EvO.N rfl rfl rfl ?_ | refine EvO.offT rfl rfl ?_ | refine EvO.offL rfl rfl ?_)
    refine EvO.nil ?_
    dsimp only [Fr.putO, Fr.put, Fr.clean, Fr.ev, Fr.get, nth, Go.V.look, List.set_cons_succ, List.set_cons_zero, ofVal_int, ofVal_bool, ofVal_str, ofVal_nul, ofVal_pnil, ofVal_nilfn, ofVal_nilif, List.length, List.cons_append, List.nil_append, List.append_nil, Nat.reduceSub, Nat.reduceAdd, List.map, List.map_cons, List.map_nil]
    try subst hK
    try change EvC _ _ _ _ _ _
    try change EvC _ _ _ _ _ _
    repeat refine EvC.seq ?_
    refine EvC.cond rfl (fun h2 => ?_) (fun h2 => ?_) <;> try simp only [decide_eq_true_eq, decide_eq_false_iff_not, beq_iff_eq, beq_eq_false_iff_ne, bne_iff_ne, bne_eq_false_iff_eq, ne_eq, Bool.not_eq_true', Bool.not_eq_false', Bool.not_eq_true, Bool.not_eq_false] at h2
    · omega
    · refine EvC.skip ?_
      try change EvC _ _ _ _ _ _
      try change EvC _ _ _ _ _ _
      repeat refine EvC.seq ?_
      try generalize hK : SeqQ _ _ _ _ = K
      refine EvC.reg ?_
      repeat (first | refine EvO.T rfl rfl rfl rfl ?_ | refine EvO.L rfl rfl rfl rfl ?_ | refine EvO.N rfl rfl rfl ?_ | refine EvO.offT rfl rfl ?_ | refine EvO.offL rfl rfl ?_)
      refine EvO.nil ?_
      dsimp only [Fr.putO, Fr.put, Fr.clean, Fr.ev, Fr.get, nth, Go.V.look, List.set_cons_succ, List.set_cons_zero, ofVal_int, ofVal_bool, ofVal_str, ofVal_nul, ofVal_pnil, ofVal_nilfn, ofVal_nilif, List.length, List.cons_append, List.nil_append, List.append_nil, Nat.reduceSub, Nat.reduceAdd, List.map, List.map_cons, List.map_nil]
      try subst hK
      try change EvC _ _ _ _ _ _
      exact EvC.ret ⟨fun i h => (by cases h), _, rfl, leave_same (by simp) (by simp [enterSt]) rfl⟩

theorem new_ev (st : St) : Ev pv 10 [] st (.ptr st.bs.length 0 0) (st.push (.mem 0 false (decC [] [0, 0, 0, 0]))) := by
  refine Ev.mk1 rfl fi10 rfl rfl rfl ?_
  dsimp only [List.cons_append, List.nil_append, List.length, Nat.reduceSub, Nat.reduceAdd, List.replicate_succ, List.replicate_zero]
  try change EvC _ _ _ _ _ _
  repeat refine EvC.seq ?_
  try generalize hK : SeqQ _ _ _ _ = K
  refine EvC.reg ?_
  repeat (first | refine EvO.T rfl rfl rfl rfl ?_ | refine EvO.L rfl rfl rfl rfl ?_ | refine EvO.N rfl rfl rfl ?_ | refine EvO.offT rfl rfl ?_ | refine EvO.offL rfl rfl ?_)
  refine EvO.nil ?_
  dsimp only [Fr.putO, Fr.put, Fr.clean, Fr.ev, Fr.get, nth, Go.V.look, List.set_cons_succ, List.set_cons_zero, ofVal_int, ofVal_bool, ofVal_str, ofVal_nul, ofVal_pnil, ofVal_nilfn, ofVal_nilif, List.length, List.cons_append, List.nil_append, List.append_nil, Nat.reduceSub, Nat.reduceAdd, List.map, List.map_cons, List.map_nil]
  try subst hK
  try change EvC _ _ _ _ _ _
  try change EvC _ _ _ _ _ _
  repeat refine EvC.seq ?_
  try generalize hK : SeqQ _ _ _ _ = K
  refine EvC.reg ?_
  repeat (first | refine EvO.T rfl rfl rfl rfl ?_ | refine EvO.L rfl rfl rfl rfl ?_ | refine EvO.N rfl rfl rfl ?_ | refine EvO.offT rfl rfl ?_ | refine EvO.offL rfl rfl ?_)
  refine EvO.nil ?_
  dsimp only [Fr.putO, Fr.put, Fr.clean, Fr.ev, Fr.get, nth, Go.V.look, List.set_cons_succ, List.set_cons_zero, ofVal_int, ofVal_bool, ofVal_str, ofVal_nul, ofVal_pnil, ofVal_nilfn, ofVal_nilif, List.length, List.cons_append, List.nil_append, List.append_nil, Nat.reduceSub, Nat.reduceAdd, List.map, List.map_cons, List.map_nil]
  try subst hK
  try change EvC _ _ _ _ _ _
  exact EvC.ret ⟨fun i h => (by cases h), _, rfl, rfl⟩

theorem of_ev {st : St} {x : D} {h : List UInt8} (hb : Bytes st x h) (hok : begunS h = true ∨ h = []) (h3 : h.length ≤ 3) (hro : st.ro ≤ st.bs.length) :
    Ev pv 16 [x] st (.tup [.ptr st.bs.length 0 0, .int .i64 0]) (st.push (.mem 0 false (decC h (([0, 0, 0, 0] : List UInt8).drop h.length)))) := by
  have hx := hb.ref
  have hbl := byteCells_len h
  refine Ev.mk1 rfl fi16 rfl rfl rfl ?_
  dsimp only [List.cons_append, List.nil_append, List.length, Nat.reduceSub, Nat.reduceAdd, List.replicate_succ, List.replicate_zero]
  try change EvC _ _ _ _ _ _
  repeat refine EvC.seq ?_
  try generalize hK : SeqQ _ _ _ _ = K
  refine EvC.reg ?_
  repeat (first | refine EvO.T rfl rfl rfl rfl ?_ | refine EvO.L rfl rfl rfl rfl ?_ | refine EvO.N rfl rfl rfl ?_ | refine EvO.offT rfl rfl ?_ | refine EvO.offL rfl rfl ?_)
  refine EvO.nil ?_
  dsimp only [Fr.putO, Fr.put, Fr.clean, Fr.ev, Fr.get, nth, Go.V.look, List.set_cons_succ, List.set_cons_zero, ofVal_int, ofVal_bool, ofVal_str, ofVal_nul, ofVal_pnil, ofVal_nilfn, ofVal_nilif, List.length, List.cons_append, List.nil_append, List.append_nil, Nat.reduceSub, Nat.reduceAdd, List.map, List.map_cons, List.map_nil]
  try subst hK
  try change EvC _ _ _ _ _ _
  try change EvC _ _ _ _ _ _
  repeat refine EvC.seq ?_
  try generalize hK : SeqQ _ _ _ _ = K
  refine EvC.reg ?_
  (first | refine EvO.T rfl rfl rfl rfl ?_ | refine EvO.L rfl rfl rfl rfl ?_ | refine EvO.N rfl rfl rfl ?_ | refine EvO.offT rfl rfl ?_ | refine EvO.offL rfl rfl ?_)
  refine EvO.callT rfl rfl rfl (first_ev hb) ?_
  repeat (first | refine EvO.T rfl rfl rfl rfl ?_ | refine EvO.L rfl rfl rfl rfl ?_ | refine EvO.N rfl rfl rfl ?_ | refine EvO.offT rfl rfl ?_ | refine EvO.offL rfl rfl ?_)
  refine EvO.nil ?_
  dsimp only [Fr.putO, Fr.put, Fr.clean, Fr.ev, Fr.get, nth, Go.V.look, List.set_cons_succ, List.set_cons_zero, ofVal_int, ofVal_bool, ofVal_str, ofVal_nul, ofVal_pnil, ofVal_nilfn, ofVal_nilif, List.length, List.cons_append, List.nil_append, List.append_nil, Nat.reduceSub, Nat.reduceAdd, List.map, List.map_cons, List.map_nil]
  try subst hK
  try change EvC _ _ _ _ _ _
  have hbeg : (firstS h).2.2 = begunS h := rfl
  rw [hbeg]
  generalize (firstS h).1 = r0
  generalize (firstS h).2.1 = n0
  cases hbg : begunS h with
  | true =>
    try change EvC _ _ _ _ _ _
    repeat refine EvC.seq ?_
    try generalize hK : SeqQ _ _ _ _ = K
    refine EvC.reg ?_
    repeat (first | refine EvO.T rfl rfl rfl rfl ?_ | refine EvO.L rfl rfl rfl rfl ?_ | refine EvO.N rfl rfl rfl ?_ | refine EvO.offT rfl rfl ?_ | refine EvO.offL rfl rfl ?_)
    refine EvO.nil ?_
    dsimp only [Fr.putO, Fr.put, Fr.clean, Fr.ev, Fr.get, nth, Go.V.look, List.set_cons_succ, List.set_cons_zero, ofVal_int, ofVal_bool, ofVal_str, ofVal_nul, ofVal_pnil, ofVal_nilfn, ofVal_nilif, List.length, List.cons_append, List.nil_append, List.append_nil, Nat.reduceSub, Nat.reduceAdd, List.map, List.map_cons, List.map_nil]
    try subst hK
    try change EvC _ _ _ _ _ _
    try change EvC _ _ _ _ _ _
    repeat refine EvC.seq ?_
    refine EvC.cond (v := false) rfl (fun h => by cases h) fun _ => ?_
    try change EvC _ _ _ _ _ _
    refine EvC.skip ?_
    try change EvC _ _ _ _ _ _
    have hm0 : (st.push (.mem 0 false (decC [] [0, 0, 0, 0]))).bs[st.bs.length]? = some (.mem 0 false (decC [] [0, 0, 0, 0])) := push_at st _
    have hb1 : Bytes (st.push (.mem 0 false (decC [] [0, 0, 0, 0]))) x h := hb.ex (Ex.push (Nat.le_refl _) _) hx
    have hcan : ∀ S : St, S.ro = st.ro → S.canW st.bs.length 0 = true := fun S hS => canW_flat (by omega)
    try change EvC _ _ _ _ _ _
    repeat refine EvC.seq ?_
    try generalize hK : SeqQ _ _ _ _ = K
    refine EvC.reg ?_
    refine EvO.callT rfl rfl rfl (new_ev st) ?_
    repeat (first | refine EvO.T rfl rfl rfl rfl ?_ | refine EvO.L rfl rfl rfl rfl ?_ | refine EvO.N rfl rfl rfl ?_ | refine EvO.offT rfl rfl ?_ | refine EvO.offL rfl rfl ?_)
    refine EvO.nil ?_
    dsimp only [Fr.putO, Fr.put, Fr.clean, Fr.ev, Fr.get, nth, Go.V.look, List.set_cons_succ, List.set_cons_zero, ofVal_int, ofVal_bool, ofVal_str, ofVal_nul, ofVal_pnil, ofVal_nilfn, ofVal_nilif, List.length, List.cons_append, List.nil_append, List.append_nil, Nat.reduceSub, Nat.reduceAdd, List.map, List.map_cons, List.map_nil]
    try subst hK
    try change EvC _ _ _ _ _ _
    try change EvC _ _ _ _ _ _
    repeat refine EvC.seq ?_
    try generalize hK : SeqQ _ _ _ _ = K
    refine EvC.reg ?_
    (first | refine EvO.T rfl rfl rfl rfl ?_ | refine EvO.L rfl rfl rfl rfl ?_ | refine EvO.N rfl rfl rfl ?_ | refine EvO.offT rfl rfl ?_ | refine EvO.offL rfl rfl ?_)
    (first | refine EvO.T rfl rfl rfl rfl ?_ | refine EvO.L rfl rfl rfl rfl ?_ | refine EvO.N rfl rfl rfl ?_ | refine EvO.offT rfl rfl ?_ | refine EvO.offL rfl rfl ?_)
    (first | refine EvO.T rfl rfl rfl rfl ?_ | refine EvO.L rfl rfl rfl rfl ?_ | refine EvO.N rfl rfl rfl ?_ | refine EvO.offT rfl rfl ?_ | refine EvO.offL rfl rfl ?_)
    (first | refine EvO.T rfl rfl rfl rfl ?_ | refine EvO.L rfl rfl rfl rfl ?_ | refine EvO.N rfl rfl rfl ?_ | refine EvO.offT rfl rfl ?_ | refine EvO.offL rfl rfl ?_)
    refine EvO.sliceArr (k := st.bs.length) (v := 0) (off := 0) (l := 0) (r := 4) rfl rfl rfl rfl rfl hm0 (by decide) rfl ?_
    (first | refine EvO.T rfl rfl rfl rfl ?_ | refine EvO.L rfl rfl rfl rfl ?_ | refine EvO.N rfl rfl rfl ?_ | refine EvO.offT rfl rfl ?_ | refine EvO.offL rfl rfl ?_)
    refine EvO.copy (k := st.bs.length) (ver := 0) (off := 0) (len := 4) (s := 1) (ys := byteCells h) (ar := false) (c := decC [] [0, 0, 0, 0]) rfl rfl rfl rfl hb1 rfl rfl hm0 (by decide) ?_ ?_
    · rw [byteCells_flat]
      have : ∀ (b : List UInt8) m, refs ((b.map u8D).take m) = 0 := by
        intro b m
        induction b generalizing m with
        | nil => simp [refs]
        | cons y b ih => cases m with
          | zero => simp [refs]
          | succ m => simp only [List.map_cons, List.take_succ_cons, refs, ih]; rfl
      rw [this]
      exact hcan _ rfl
    have hmin : min (byteCells h).length 4 = h.length := by omega
    rw [hmin, byteCells_flat]
    have hc1 : (decC [] [0, 0, 0, 0]).take 0 ++ (h.map u8D).take (h.length * 1) ++ (decC [] [0, 0, 0, 0]).drop (0 + h.length * 1) = (h ++ ([0, 0, 0, 0] : List UInt8).drop h.length).map u8D ++ [.int .i64 0] := by
      rw [List.take_zero, List.nil_append, Nat.mul_one, Nat.zero_add]
      have e1 : (h.map u8D).take h.length = h.map u8D := List.take_of_length_le (by simp)
      rw [e1, List.map_append, List.append_assoc]
      congr 1
      show ([0, 0, 0, 0].map u8D ++ [D.int .i64 0]).drop h.length = _
      rw [List.drop_append_of_le_length (by simp; omega), List.map_drop]
    rw [hc1]
    have hlt : ((h ++ ([0, 0, 0, 0] : List UInt8).drop h.length).map u8D).length = 4 := by simp; omega
    have hT : ∃ T : List D, T = (h ++ ([0, 0, 0, 0] : List UInt8).drop h.length).map u8D := ⟨_, rfl⟩
    obtain ⟨T, hT⟩ := hT
    rw [← hT] at hlt ⊢
    have hps : ∀ b b' : Box, (⟨(st.push b).bs.set st.bs.length b', (st.push b).flr, (st.push b).ro⟩ : St) = st.push b' := fun b b' => push_set rfl
    (first | refine EvO.T rfl rfl rfl rfl ?_ | refine EvO.L rfl rfl rfl rfl ?_ | refine EvO.N rfl rfl rfl ?_ | refine EvO.offT rfl rfl ?_ | refine EvO.offL rfl rfl ?_)
    (first | refine EvO.T rfl rfl rfl rfl ?_ | refine EvO.L rfl rfl rfl rfl ?_ | refine EvO.N rfl rfl rfl ?_ | refine EvO.offT rfl rfl ?_ | refine EvO.offL rfl rfl ?_)
    rw [hps]
    refine EvO.store (k := st.bs.length) (ver := 0) (off := 4) (cs := [.int .i64 (h.length : Nat)]) rfl rfl rfl rfl rfl (push_at st _) (by rw [List.length_append, hlt]; exact Nat.le_refl _) (hcan _ rfl) ?_
    rw [hps]
    have hc2 : (T ++ [D.int .i64 0]).take 4 ++ [.int .i64 (h.length : Nat)] ++ (T ++ [D.int .i64 0]).drop (4 + [D.int .i64 (h.length : Nat)].length) = decC h (([0, 0, 0, 0] : List UInt8).drop h.length) := by
      rw [List.take_left' hlt, List.drop_eq_nil_of_le (by rw [List.length_append, hlt]; exact Nat.le_refl _), List.append_nil, hT]
      rfl
    rw [hc2]
    refine EvO.nil ?_
    dsimp only [Fr.putO, Fr.put, Fr.clean, Fr.ev, Fr.get, nth, Go.V.look, List.set_cons_succ, List.set_cons_zero, ofVal_int, ofVal_bool, ofVal_str, ofVal_nul, ofVal_pnil, ofVal_nilfn, ofVal_nilif, List.length, List.cons_append, List.nil_append, List.append_nil, Nat.reduceSub, Nat.reduceAdd, List.map, List.map_cons, List.map_nil]
    try subst hK
    try change EvC _ _ _ _ _ _
    try change EvC _ _ _ _ _ _
    repeat refine EvC.seq ?_
    try generalize hK : SeqQ _ _ _ _ = K
    refine EvC.reg ?_
    repeat (first | refine EvO.T rfl rfl rfl rfl ?_ | refine EvO.L rfl rfl rfl rfl ?_ | refine EvO.N rfl rfl rfl ?_ | refine EvO.offT rfl rfl ?_ | refine EvO.offL rfl rfl ?_)
    refine EvO.nil ?_
    dsimp only [Fr.putO, Fr.put, Fr.clean, Fr.ev, Fr.get, nth, Go.V.look, List.set_cons_succ, List.set_cons_zero, ofVal_int, ofVal_bool, ofVal_str, ofVal_nul, ofVal_pnil, ofVal_nilfn, ofVal_nilif, List.length, List.cons_append, List.nil_append, List.append_nil, Nat.reduceSub, Nat.reduceAdd, List.map, List.map_cons, List.map_nil]
    try subst hK
    try change EvC _ _ _ _ _ _
    exact EvC.ret ⟨fun i h => (by cases h), _, rfl, rfl⟩
  | false =>
    have hl0 : h.length = 0 := by
      rcases hok with h' | h'
      · rw [hbg] at h'; cases h'
      · rw [h']; rfl
    try change EvC _ _ _ _ _ _
    repeat refine EvC.seq ?_
    try generalize hK : SeqQ _ _ _ _ = K
    refine EvC.reg ?_
    (first | refine EvO.T rfl rfl rfl rfl ?_ | refine EvO.L rfl rfl rfl rfl ?_ | refine EvO.N rfl rfl rfl ?_ | refine EvO.offT rfl rfl ?_ | refine EvO.offL rfl rfl ?_)
    (first | refine EvO.T rfl rfl rfl rfl ?_ | refine EvO.L rfl rfl rfl rfl ?_ | refine EvO.N rfl rfl rfl ?_ | refine EvO.offT rfl rfl ?_ | refine EvO.offL rfl rfl ?_)
    (first | refine EvO.T rfl rfl rfl rfl ?_ | refine EvO.L rfl rfl rfl rfl ?_ | refine EvO.N rfl rfl rfl ?_ | refine EvO.offT rfl rfl ?_ | refine EvO.offL rfl rfl ?_)
    (first | refine EvO.T rfl rfl rfl rfl ?_ | refine EvO.L rfl rfl rfl rfl ?_ | refine EvO.N rfl rfl rfl ?_ | refine EvO.offT rfl rfl ?_ | refine EvO.offL rfl rfl ?_)
    refine EvO.len rfl rfl rfl hb rfl ?_
    rw [hbl]
    repeat (first | refine EvO.T rfl rfl rfl rfl ?_ | refine EvO.L rfl rfl rfl rfl ?_ | refine EvO.N rfl rfl rfl ?_ | refine EvO.offT rfl rfl ?_ | refine EvO.offL rfl rfl ?_ | simp (disch := omega) only [decide_eq_true, decide_eq_false, beq_yes, beq_no, bne_yes, bne_no])
    refine EvO.nil ?_
    dsimp only [Fr.putO, Fr.put, Fr.clean, Fr.ev, Fr.get, nth, Go.V.look, List.set_cons_succ, List.set_cons_zero, ofVal_int, ofVal_bool, ofVal_str, ofVal_nul, ofVal_pnil, ofVal_nilfn, ofVal_nilif, List.length, List.cons_append, List.nil_append, List.append_nil, Nat.reduceSub, Nat.reduceAdd, List.map, List.map_cons, List.map_nil]
    try subst hK
    try change EvC _ _ _ _ _ _
    try change EvC _ _ _ _ _ _
    repeat refine EvC.seq ?_
    refine EvC.cond (v := false) rfl (fun h => by cases h) fun _ => ?_
    try change EvC _ _ _ _ _ _
    refine EvC.skip ?_
    try change EvC _ _ _ _ _ _
    have hm0 : (st.push (.mem 0 false (decC [] [0, 0, 0, 0]))).bs[st.bs.length]? = some (.mem 0 false (decC [] [0, 0, 0, 0])) := push_at st _
    have hb1 : Bytes (st.push (.mem 0 false (decC [] [0, 0, 0, 0]))) x h := hb.ex (Ex.push (Nat.le_refl _) _) hx
    have hcan : ∀ S : St, S.ro = st.ro → S.canW st.bs.length 0 = true := fun S hS => canW_flat (by omega)
    try change EvC _ _ _ _ _ _
    repeat refine EvC.seq ?_
    try generalize hK : SeqQ _ _ _ _ = K
    refine EvC.reg ?_
    refine EvO.callT rfl rfl rfl (new_ev st) ?_
    repeat (first | refine EvO.T rfl rfl rfl rfl ?_ | refine EvO.L rfl rfl rfl rfl ?_ | refine EvO.N rfl rfl rfl ?_ | refine EvO.offT rfl rfl ?_ | refine EvO.offL rfl rfl ?_)
    refine EvO.nil ?_
    dsimp only [Fr.putO, Fr.put, Fr.clean, Fr.ev, Fr.get, nth, Go.V.look, List.set_cons_succ, List.set_cons_zero, ofVal_int, ofVal_bool, ofVal_str, ofVal_nul, ofVal_pnil, ofVal_nilfn, ofVal_nilif, List.length, List.cons_append, List.nil_append, List.append_nil, Nat.reduceSub, Nat.reduceAdd, List.map, List.map_cons, List.map_nil]
    try subst hK
    try change EvC _ _ _ _ _ _
    try change EvC _ _ _ _ _ _
    repeat refine EvC.seq ?_
    try generalize hK : SeqQ _ _ _ _ = K
    refine EvC.reg ?_
    (first | refine EvO.T rfl rfl rfl rfl ?_ | refine EvO.L rfl rfl rfl rfl ?_ | refine EvO.N rfl rfl rfl ?_ | refine EvO.offT rfl rfl ?_ | refine EvO.offL rfl rfl ?_)
    (first | refine EvO.T rfl rfl rfl rfl ?_ | refine EvO.L rfl rfl rfl rfl ?_ | refine EvO.N rfl rfl rfl ?_ | refine EvO.offT rfl rfl ?_ | refine EvO.offL rfl rfl ?_)
    (first | refine EvO.T rfl rfl rfl rfl ?_ | refine EvO.L rfl rfl rfl rfl ?_ | refine EvO.N rfl rfl rfl ?_ | refine EvO.offT rfl rfl ?_ | refine EvO.offL rfl rfl ?_)
    (first | refine EvO.T rfl rfl rfl rfl ?_ | refine EvO.L rfl rfl rfl rfl ?_ | refine EvO.N rfl rfl rfl ?_ | refine EvO.offT rfl rfl ?_ | refine EvO.offL rfl rfl ?_)
    refine EvO.sliceArr (k := st.bs.length) (v := 0) (off := 0) (l := 0) (r := 4) rfl rfl rfl rfl rfl hm0 (by decide) rfl ?_
    (first | refine EvO.T rfl rfl rfl rfl ?_ | refine EvO.L rfl rfl rfl rfl ?_ | refine EvO.N rfl rfl rfl ?_ | refine EvO.offT rfl rfl ?_ | refine EvO.offL rfl rfl ?_)
    refine EvO.copy (k := st.bs.length) (ver := 0) (off := 0) (len := 4) (s := 1) (ys := byteCells h) (ar := false) (c := decC [] [0, 0, 0, 0]) rfl rfl rfl rfl hb1 rfl rfl hm0 (by decide) ?_ ?_
    · rw [byteCells_flat]
      have : ∀ (b : List UInt8) m, refs ((b.map u8D).take m) = 0 := by
        intro b m
        induction b generalizing m with
        | nil => simp [refs]
        | cons y b ih => cases m with
          | zero => simp [refs]
          | succ m => simp only [List.map_cons, List.take_succ_cons, refs, ih]; rfl
      rw [this]
      exact hcan _ rfl
    have hmin : min (byteCells h).length 4 = h.length := by omega
    rw [hmin, byteCells_flat]
    have hc1 : (decC [] [0, 0, 0, 0]).take 0 ++ (h.map u8D).take (h.length * 1) ++ (decC [] [0, 0, 0, 0]).drop (0 + h.length * 1) = (h ++ ([0, 0, 0, 0] : List UInt8).drop h.length).map u8D ++ [.int .i64 0] := by
      rw [List.take_zero, List.nil_append, Nat.mul_one, Nat.zero_add]
      have e1 : (h.map u8D).take h.length = h.map u8D := List.take_of_length_le (by simp)
      rw [e1, List.map_append, List.append_assoc]
      congr 1
      show ([0, 0, 0, 0].map u8D ++ [D.int .i64 0]).drop h.length = _
      rw [List.drop_append_of_le_length (by simp; omega), List.map_drop]
    rw [hc1]
    have hlt : ((h ++ ([0, 0, 0, 0] : List UInt8).drop h.length).map u8D).length = 4 := by simp; omega
    have hT : ∃ T : List D, T = (h ++ ([0, 0, 0, 0] : List UInt8).drop h.length).map u8D := ⟨_, rfl⟩
    obtain ⟨T, hT⟩ := hT
    rw [← hT] at hlt ⊢
    have hps : ∀ b b' : Box, (⟨(st.push b).bs.set st.bs.length b', (st.push b).flr, (st.push b).ro⟩ : St) = st.push b' := fun b b' => push_set rfl
    (first | refine EvO.T rfl rfl rfl rfl ?_ | refine EvO.L rfl rfl rfl rfl ?_ | refine EvO.N rfl rfl rfl ?_ | refine EvO.offT rfl rfl ?_ | refine EvO.offL rfl rfl ?_)
    (first | refine EvO.T rfl rfl rfl rfl ?_ | refine EvO.L rfl rfl rfl rfl ?_ | refine EvO.N rfl rfl rfl ?_ | refine EvO.offT rfl rfl ?_ | refine EvO.offL rfl rfl ?_)
    rw [hps]
    refine EvO.store (k := st.bs.length) (ver := 0) (off := 4) (cs := [.int .i64 (h.length : Nat)]) rfl rfl rfl rfl rfl (push_at st _) (by rw [List.length_append, hlt]; exact Nat.le_refl _) (hcan _ rfl) ?_
    rw [hps]
    have hc2 : (T ++ [D.int .i64 0]).take 4 ++ [.int .i64 (h.length : Nat)] ++ (T ++ [D.int .i64 0]).drop (4 + [D.int .i64 (h.length : Nat)].length) = decC h (([0, 0, 0, 0] : List UInt8).drop h.length) := by
      rw [List.take_left' hlt, List.drop_eq_nil_of_le (by rw [List.length_append, hlt]; exact Nat.le_refl _), List.append_nil, hT]
      rfl
    rw [hc2]
    refine EvO.nil ?_
    dsimp only [Fr.putO, Fr.put, Fr.clean, Fr.ev, Fr.get, nth, Go.V.look, List.set_cons_succ, List.set_cons_zero, ofVal_int, ofVal_bool, ofVal_str, ofVal_nul, ofVal_pnil, ofVal_nilfn, ofVal_nilif, List.length, List.cons_append, List.nil_append, List.append_nil, Nat.reduceSub, Nat.reduceAdd, List.map, List.map_cons, List.map_nil]
    try subst hK
    try change EvC _ _ _ _ _ _
    try change EvC _ _ _ _ _ _
    repeat refine EvC.seq ?_
    try generalize hK : SeqQ _ _ _ _ = K
    refine EvC.reg ?_
    repeat (first | refine EvO.T rfl rfl rfl rfl ?_ | refine EvO.L rfl rfl rfl rfl ?_ | refine EvO.N rfl rfl rfl ?_ | refine EvO.offT rfl rfl ?_ | refine EvO.offL rfl rfl ?_)
    refine EvO.nil ?_
    dsimp only [Fr.putO, Fr.put, Fr.clean, Fr.ev, Fr.get, nth, Go.V.look, List.set_cons_succ, List.set_cons_zero, ofVal_int, ofVal_bool, ofVal_str, ofVal_nul, ofVal_pnil, ofVal_nilfn, ofVal_nilif, List.length, List.cons_append, List.nil_append, List.append_nil, Nat.reduceSub, Nat.reduceAdd, List.map, List.map_cons, List.map_nil]
    try subst hK
    try change EvC _ _ _ _ _ _
    exact EvC.ret ⟨fun i h => (by cases h), _, rfl, rfl⟩

theorem of_bad {st : St} {x : D} {h : List UInt8} (hb : Bytes st x h) (hn : begunS h = false) (hne : h ≠ []) : Ev pv 16 [x] st (.tup [.pnil, .int .i64 4]) st := by
  have hbl := byteCells_len h
  refine Ev.mk1 rfl fi16 rfl rfl rfl ?_
  dsimp only [List.cons_append, List.nil_append, List.length, Nat.reduceSub, Nat.reduceAdd, List.replicate_succ, List.replicate_zero]
  try change EvC _ _ _ _ _ _
  repeat refine EvC.seq ?_
  try generalize hK : SeqQ _ _ _ _ = K
  refine EvC.reg ?_
  repeat (first | refine EvO.T rfl rfl rfl rfl ?_ | refine EvO.L rfl rfl rfl rfl ?_ | refine EvO.N rfl rfl rfl ?_ | refine EvO.offT rfl rfl ?_ | refine EvO.offL rfl rfl ?_)
  refine EvO.nil ?_
  dsimp only [Fr.putO, Fr.put, Fr.clean, Fr.ev, Fr.get, nth, Go.V.look, List.set_cons_succ, List.set_cons_zero, ofVal_int, ofVal_bool, ofVal_str, ofVal_nul, ofVal_pnil, ofVal_nilfn, ofVal_nilif, List.length, List.cons_append, List.nil_append, List.append_nil, Nat.reduceSub, Nat.reduceAdd, List.map, List.map_cons, List.map_nil]
  try subst hK
  try change EvC _ _ _ _ _ _
  try change EvC _ _ _ _ _ _
  repeat refine EvC.seq ?_
  try generalize hK : SeqQ _ _ _ _ = K
  refine EvC.reg ?_
  (first | refine EvO.T rfl rfl rfl rfl ?_ | refine EvO.L rfl rfl rfl rfl ?_ | refine EvO.N rfl rfl rfl ?_ | refine EvO.offT rfl rfl ?_ | refine EvO.offL rfl rfl ?_)
  refine EvO.callT rfl rfl rfl (first_ev hb) ?_
  repeat (first | refine EvO.T rfl rfl rfl rfl ?_ | refine EvO.L rfl rfl rfl rfl ?_ | refine EvO.N rfl rfl rfl ?_ | refine EvO.offT rfl rfl ?_ | refine EvO.offL rfl rfl ?_)
  refine EvO.nil ?_
  dsimp only [Fr.putO, Fr.put, Fr.clean, Fr.ev, Fr.get, nth, Go.V.look, List.set_cons_succ, List.set_cons_zero, ofVal_int, ofVal_bool, ofVal_str, ofVal_nul, ofVal_pnil, ofVal_nilfn, ofVal_nilif, List.length, List.cons_append, List.nil_append, List.append_nil, Nat.reduceSub, Nat.reduceAdd, List.map, List.map_cons, List.map_nil]
  try subst hK
  try change EvC _ _ _ _ _ _
  have hbeg : (firstS h).2.2 = begunS h := rfl
  rw [hbeg, hn]
  have hl : 0 < h.length := by cases h with | nil => exact absurd rfl hne | cons _ _ => simp
  try change EvC _ _ _ _ _ _
  repeat refine EvC.seq ?_
  try generalize hK : SeqQ _ _ _ _ = K
  refine EvC.reg ?_
  (first | refine EvO.T rfl rfl rfl rfl ?_ | refine EvO.L rfl rfl rfl rfl ?_ | refine EvO.N rfl rfl rfl ?_ | refine EvO.offT rfl rfl ?_ | refine EvO.offL rfl rfl ?_)
  (first | refine EvO.T rfl rfl rfl rfl ?_ | refine EvO.L rfl rfl rfl rfl ?_ | refine EvO.N rfl rfl rfl ?_ | refine EvO.offT rfl rfl ?_ | refine EvO.offL rfl rfl ?_)
  (first | refine EvO.T rfl rfl rfl rfl ?_ | refine EvO.L rfl rfl rfl rfl ?_ | refine EvO.N rfl rfl rfl ?_ | refine EvO.offT rfl rfl ?_ | refine EvO.offL rfl rfl ?_)
  (first | refine EvO.T rfl rfl rfl rfl ?_ | refine EvO.L rfl rfl rfl rfl ?_ | refine EvO.N rfl rfl rfl ?_ | refine EvO.offT rfl rfl ?_ | refine EvO.offL rfl rfl ?_)
  refine EvO.len rfl rfl rfl hb rfl ?_
  rw [hbl]
  repeat (first | refine EvO.T rfl rfl rfl rfl ?_ | refine EvO.L rfl rfl rfl rfl ?_ | refine EvO.N rfl rfl rfl ?_ | refine EvO.offT rfl rfl ?_ | refine EvO.offL rfl rfl ?_ | simp (disch := omega) only [decide_eq_true, decide_eq_false, beq_yes, beq_no, bne_yes, bne_no])
  refine EvO.nil ?_
  dsimp only [Fr.putO, Fr.put, Fr.clean, Fr.ev, Fr.get, nth, Go.V.look, List.set_cons_succ, List.set_cons_zero, ofVal_int, ofVal_bool, ofVal_str, ofVal_nul, ofVal_pnil, ofVal_nilfn, ofVal_nilif, List.length, List.cons_append, List.nil_append, List.append_nil, Nat.reduceSub, Nat.reduceAdd, List.map, List.map_cons, List.map_nil]
  try subst hK
  try change EvC _ _ _ _ _ _
  try change EvC _ _ _ _ _ _
  repeat refine EvC.seq ?_
  refine EvC.cond (v := true) rfl (fun _ => ?_) (fun h => by cases h)
  try change EvC _ _ _ _ _ _
  try change EvC _ _ _ _ _ _
  repeat refine EvC.seq ?_
  try generalize hK : SeqQ _ _ _ _ = K
  refine EvC.reg ?_
  repeat (first | refine EvO.T rfl rfl rfl rfl ?_ | refine EvO.L rfl rfl rfl rfl ?_ | refine EvO.N rfl rfl rfl ?_ | refine EvO.offT rfl rfl ?_ | refine EvO.offL rfl rfl ?_)
  refine EvO.nil ?_
  dsimp only [Fr.putO, Fr.put, Fr.clean, Fr.ev, Fr.get, nth, Go.V.look, List.set_cons_succ, List.set_cons_zero, ofVal_int, ofVal_bool, ofVal_str, ofVal_nul, ofVal_pnil, ofVal_nilfn, ofVal_nilif, List.length, List.cons_append, List.nil_append, List.append_nil, Nat.reduceSub, Nat.reduceAdd, List.map, List.map_cons, List.map_nil]
  try subst hK
  try change EvC _ _ _ _ _ _
  exact EvC.ret ⟨fun i h => (by cases h), _, rfl, rfl⟩

theorem tell_beg : ∀ (f : Nat) (l : List UInt8), l.length ≤ f → begunS (tellF f l).2 = true ∨ (tellF f l).2 = []
  | 0, l, h => by right; have : l = [] := by cases l with | nil => rfl | cons _ _ => simp at h
                  subst this; rfl
  | f + 1, [], _ => .inr rfl
  | f + 1, c :: l, h => by
    unfold tellF
    split
    · rename_i hb; exact .inl hb
    · refine tell_beg f _ ?_
      have := oneS_pos (c :: l)
      simp only [List.length_drop, List.length_cons] at h ⊢
      omega

theorem begun_le {h : List UInt8} (hb : begunS h = true) : h.length ≤ 3 := by
  have h1 := tell_le h.length h (Nat.le_refl _)
  cases h with
  | nil => simp
  | cons c l =>
    have : tellF (c :: l).length (c :: l) = ([], c :: l) := by
      rw [List.length_cons]; unfold tellF; rw [if_pos hb]
    rw [this] at h1
    exact h1

theorem box_none {x : D} {b : List UInt8} (hb : ∀ S, Bytes S x b) : x.box? = none := by
  have h := hb ⟨[], 0, 0⟩
  cases x with
  | win k v o l s => cases h with | win _ _ _ _ _ _ hm _ _ => simp [St.mem?] at hm
  | ptr k v o => cases h
  | _ => rfl

theorem idxP {P : Pv} {st : St} {s : Nat} {x : D} {es : List (List D)} (h : V.Rows st s x es) (hx : x.box? = none) {t e : TypeId} (ht : P.und t = some (.slice e)) (hs : szOf P e = some s) {k : IntKind} {i : Int} {r : List D} (h0 : 0 ≤ i) (hi : es[i.toNat]? = some r) :
    ∃ p, (∀ st', indexAddrD P t x (.int k i) st' = some p) ∧ p.box? = none ∧ ∀ d st', takeD P e r = some d → loadD P e p st' = some d := by
  cases h with
  | nul => simp at hi
  | sl es h =>
    rw [List.getElem?_map] at hi
    obtain ⟨d, hd, rfl⟩ := Option.map_eq_some_iff.1 hi
    obtain ⟨h1, h2⟩ := h d (List.mem_of_getElem? hd)
    refine ⟨.ep d.cells, fun st' => ?_, rfl, fun d' st' h => h⟩
    simp only [indexAddrD, ht, hs, Option.bind_some, if_pos h0, hd, h1, if_pos h2]
  | win k ver off es ar c hm hl he => simp [D.box?] at hx

theorem cutB {x : D} {b : List UInt8} (hb : ∀ S, Bytes S x b) (h : 300 < b.length) (st : St) : ∃ y, sliceD pv 29 x none (some (.int .i64 300)) st = some y ∧ ∀ S, Bytes S y (b.take 300) := by
  have hbl := byteCells_len b
  have hbx := box_none hb
  have hbd : boundsD (byteCells b).length none (some (.int .i64 300)) = some (0, 300) := by
    simp only [boundsD, optBound, boundD]
    rw [if_pos ⟨by omega, by omega⟩]; rfl
  obtain ⟨y, h1, h2, h3⟩ := (hb st).slice (P := pv) (t := 29) (e := 5) rfl rfl (lo := none) (hi := some (.int .i64 300)) hbd ⟨by omega, by omega⟩
  refine ⟨y, h1, fun S => ?_⟩
  obtain ⟨y', g1, g2, _⟩ := (hb S).slice (P := pv) (t := 29) (e := 5) rfl rfl (lo := none) (hi := some (.int .i64 300)) hbd ⟨by omega, by omega⟩
  have e : y' = y := by
    have : sliceD pv 29 x none (some (.int .i64 300)) S = sliceD pv 29 x none (some (.int .i64 300)) st := by
      cases x <;> first | rfl | (simp [D.box?] at hbx)
    rw [this, h1] at g1; cases g1; rfl
  subst e
  rw [List.drop_zero] at g2
  have : (byteCells b).take 300 = byteCells (b.take 300) := by simp [byteCells, List.map_take]
  rw [this] at g2
  exact g2

theorem ex_set {N k : Nat} {a b : St} (h : Ex N a b) (hk : N ≤ k) (bx : Box) : Ex N a ⟨b.bs.set k bx, b.flr, b.ro⟩ := h.trans (Ex.set hk bx)

theorem law {st : St} {x y : D} {b g : List UInt8} {a : Int} (hb0 : ∀ S, Bytes S x b) (hlen0 : b.length ≤ 1048576) (w : True) (hg : ∀ S, Bytes S y g) (hglen : g.length ≤ 1048576) : Ev pv 9 [x, .int .i64 a, y] st (.bool true) st := by
  refine Ev.mk1 rfl fi9 rfl rfl rfl ?_
  dsimp only [List.cons_append, List.nil_append, List.length, Nat.reduceSub, Nat.reduceAdd, List.replicate_succ, List.replicate_zero]
  have hN0 : (enterSt .ro st).bs.length = st.bs.length := rfl
  try change EvC _ _ _ _ _ _
  repeat refine EvC.seq ?_
  try generalize hK : SeqQ _ _ _ _ = K
  refine EvC.reg ?_
  repeat (first | refine EvO.T rfl rfl rfl rfl ?_ | refine EvO.L rfl rfl rfl rfl ?_ | refine EvO.N rfl rfl rfl ?_ | refine EvO.offT rfl rfl ?_ | refine EvO.offL rfl rfl ?_)
  refine EvO.nil ?_
  dsimp only [Fr.putO, Fr.put, Fr.clean, Fr.ev, Fr.get, nth, Go.V.look, List.set_cons_succ, List.set_cons_zero, ofVal_int, ofVal_bool, ofVal_str, ofVal_nul, ofVal_pnil, ofVal_nilfn, ofVal_nilif, List.length, List.cons_append, List.nil_append, List.append_nil, Nat.reduceSub, Nat.reduceAdd, List.map, List.map_cons, List.map_nil]
  try subst hK
  try change EvC _ _ _ _ _ _
  try change EvC _ _ _ _ _ _
  repeat refine EvC.seq ?_
  try generalize hK : SeqQ _ _ _ _ = K
  refine EvC.reg ?_
  (first | refine EvO.T rfl rfl rfl rfl ?_ | refine EvO.L rfl rfl rfl rfl ?_ | refine EvO.N rfl rfl rfl ?_ | refine EvO.offT rfl rfl ?_ | refine EvO.offL rfl rfl ?_)
  refine EvO.len rfl rfl rfl (hb0 _) rfl ?_
  rw [byteCells_len]
  repeat (first | refine EvO.T rfl rfl rfl rfl ?_ | refine EvO.L rfl rfl rfl rfl ?_ | refine EvO.N rfl rfl rfl ?_ | refine EvO.offT rfl rfl ?_ | refine EvO.offL rfl rfl ?_)
  refine EvO.nil ?_
  dsimp only [Fr.putO, Fr.put, Fr.clean, Fr.ev, Fr.get, nth, Go.V.look, List.set_cons_succ, List.set_cons_zero, ofVal_int, ofVal_bool, ofVal_str, ofVal_nul, ofVal_pnil, ofVal_nilfn, ofVal_nilif, List.length, List.cons_append, List.nil_append, List.append_nil, Nat.reduceSub, Nat.reduceAdd, List.map, List.map_cons, List.map_nil]
  try subst hK
  try change EvC _ _ _ _ _ _
  generalize hK0 : SeqQ _ _ _ _ = K0
  have main : ∀ (x : D) (b : List UInt8) m2, (∀ S, Bytes S x b) → b.length ≤ 300 → K0 .next ⟨15, [x, .int .i64 a, y, .tup [], .tup [], .tup [], .bool false, .tup [], .tup [], .tup [], .tup [], .tup [], .tup [], .tup [], .tup []], m2⟩ (enterSt .ro st) := by
    intro x b m2 hb hlen
    subst hK0
    have hxb := box_none hb
    have hbl := byteCells_len b
    try change EvC _ _ _ _ _ _
    repeat refine EvC.seq ?_
    try generalize hK : SeqQ _ _ _ _ = K
    refine EvC.reg ?_
    refine EvO.callT rfl rfl rfl (new_ev _) ?_
    refine EvO.callT rfl rfl rfl (new_ev _) ?_
    repeat (first | refine EvO.T rfl rfl rfl rfl ?_ | refine EvO.L rfl rfl rfl rfl ?_ | refine EvO.N rfl rfl rfl ?_ | refine EvO.offT rfl rfl ?_ | refine EvO.offL rfl rfl ?_)
    refine EvO.nil ?_
    dsimp only [Fr.putO, Fr.put, Fr.clean, Fr.ev, Fr.get, nth, Go.V.look, List.set_cons_succ, List.set_cons_zero, ofVal_int, ofVal_bool, ofVal_str, ofVal_nul, ofVal_pnil, ofVal_nilfn, ofVal_nilif, List.length, List.cons_append, List.nil_append, List.append_nil, Nat.reduceSub, Nat.reduceAdd, List.map, List.map_cons, List.map_nil]
    try subst hK
    try change EvC _ _ _ _ _ _
    rw [hN0, show ((enterSt .ro st).push (.mem 0 false (decC [] [0, 0, 0, 0]))).bs.length = st.bs.length + 1 by simp [St.push, enterSt]]
    generalize hS0 : ((enterSt .ro st).push (.mem 0 false (decC [] [0, 0, 0, 0]))).push (.mem 0 false (decC [] [0, 0, 0, 0])) = S0
    have hx0 : Ex st.bs.length (enterSt .ro st) S0 := by
      subst hS0
      have e1 : Ex st.bs.length (enterSt .ro st) ((enterSt .ro st).push (.mem 0 false (decC [] [0, 0, 0, 0]))) := Ex.push (st := enterSt .ro st) (Nat.le_refl _) _
      exact e1.trans (Ex.push e1.len _)
    have hd0 : S0.bs[st.bs.length]? = some (.mem 0 false (decC [] [0, 0, 0, 0])) := by subst hS0; simp [St.push, enterSt]
    have he0 : S0.bs[st.bs.length + 1]? = some (.mem 0 false (decC [] [0, 0, 0, 0])) := by subst hS0; simp [St.push, enterSt]
    try change EvC _ _ _ _ _ _
    repeat refine EvC.seq ?_
    try generalize hK : SeqQ _ _ _ _ = K
    refine EvC.reg ?_
    repeat (first | refine EvO.T rfl rfl rfl rfl ?_ | refine EvO.L rfl rfl rfl rfl ?_ | refine EvO.N rfl rfl rfl ?_ | refine EvO.offT rfl rfl ?_ | refine EvO.offL rfl rfl ?_)
    refine EvO.nil ?_
    dsimp only [Fr.putO, Fr.put, Fr.clean, Fr.ev, Fr.get, nth, Go.V.look, List.set_cons_succ, List.set_cons_zero, ofVal_int, ofVal_bool, ofVal_str, ofVal_nul, ofVal_pnil, ofVal_nilfn, ofVal_nilif, List.length, List.cons_append, List.nil_append, List.append_nil, Nat.reduceSub, Nat.reduceAdd, List.map, List.map_cons, List.map_nil]
    try subst hK
    try change EvC _ _ _ _ _ _
    try change EvC _ _ _ _ _ _
    repeat refine EvC.seq ?_
    refine EvC.cond (v := false) rfl (fun h => by cases h) fun _ => ?_
    try change EvC _ _ _ _ _ _
    refine EvC.skip ?_
    try change EvC _ _ _ _ _ _
    obtain ⟨k, hk⟩ := within_ev (st := S0) (a := a) hlen
    try change EvC _ _ _ _ _ _
    repeat refine EvC.seq ?_
    try generalize hK : SeqQ _ _ _ _ = K
    refine EvC.reg ?_
    (first | refine EvO.T rfl rfl rfl rfl ?_ | refine EvO.L rfl rfl rfl rfl ?_ | refine EvO.N rfl rfl rfl ?_ | refine EvO.offT rfl rfl ?_ | refine EvO.offL rfl rfl ?_)
    (first | refine EvO.T rfl rfl rfl rfl ?_ | refine EvO.L rfl rfl rfl rfl ?_ | refine EvO.N rfl rfl rfl ?_ | refine EvO.offT rfl rfl ?_ | refine EvO.offL rfl rfl ?_)
    refine EvO.len rfl rfl rfl (hb _) rfl ?_
    rw [hbl]
    refine EvO.callT rfl rfl rfl hk ?_
    repeat (first | refine EvO.T rfl rfl rfl rfl ?_ | refine EvO.L rfl rfl rfl rfl ?_ | refine EvO.N rfl rfl rfl ?_ | refine EvO.offT rfl rfl ?_ | refine EvO.offL rfl rfl ?_)
    refine EvO.nil ?_
    dsimp only [Fr.putO, Fr.put, Fr.clean, Fr.ev, Fr.get, nth, Go.V.look, List.set_cons_succ, List.set_cons_zero, ofVal_int, ofVal_bool, ofVal_str, ofVal_nul, ofVal_pnil, ofVal_nilfn, ofVal_nilif, List.length, List.cons_append, List.nil_append, List.append_nil, Nat.reduceSub, Nat.reduceAdd, List.map, List.map_cons, List.map_nil]
    try subst hK
    try change EvC _ _ _ _ _ _
    try change EvC _ _ _ _ _ _
    repeat refine EvC.seq ?_
    try generalize hK : SeqQ _ _ _ _ = K
    refine EvC.reg ?_
    repeat (first | refine EvO.T rfl rfl rfl rfl ?_ | refine EvO.L rfl rfl rfl rfl ?_ | refine EvO.N rfl rfl rfl ?_ | refine EvO.offT rfl rfl ?_ | refine EvO.offL rfl rfl ?_)
    refine EvO.nil ?_
    dsimp only [Fr.putO, Fr.put, Fr.clean, Fr.ev, Fr.get, nth, Go.V.look, List.set_cons_succ, List.set_cons_zero, ofVal_int, ofVal_bool, ofVal_str, ofVal_nul, ofVal_pnil, ofVal_nilfn, ofVal_nilif, List.length, List.cons_append, List.nil_append, List.append_nil, Nat.reduceSub, Nat.reduceAdd, List.map, List.map_cons, List.map_nil]
    try subst hK
    try change EvC _ _ _ _ _ _
    try change EvC _ _ _ _ _ _
    repeat refine EvC.seq ?_
    refine EvC.block ?_
    refine EvC.loop (fun m fr S => ∃ (i kd ke : Nat) (h j1 j2 : List UInt8) (v11 v12 : D), fr.clean = ⟨15, [x, .int .i64 a, y, .tup [], .tup [], .tup [], .bool false, .ptr kd 0 0, .ptr ke 0 0, .int .i64 k, .int .i64 (i : Nat), v11, v12, .tup [], .tup []], []⟩ ∧ Ex st.bs.length (enterSt .ro st) S ∧ kd ≠ ke ∧ st.bs.length ≤ kd ∧ st.bs.length ≤ ke ∧
      S.bs[kd]? = some (.mem 0 false (decC h j1)) ∧ S.bs[ke]? = some (.mem 0 false (decC h j2)) ∧ (h ++ j1).length = 4 ∧ (h ++ j2).length = 4 ∧ h.length ≤ 3 ∧ (begunS h = true ∨ h = []) ∧ i ≤ b.length ∧ m = b.length - i) b.length
      ⟨0, _, _, [], _, _, _, _, rfl, hx0, by omega, by omega, by omega, hd0, he0, rfl, rfl, by simp, .inr rfl, by omega, rfl⟩ ?_
    rintro m fr S ⟨i, kd, ke, h, j1, j2, v11, v12, hfr, hx, hne, hkd, hke, hd, he, hl1, hl2, h3, hbg, hib, rfl⟩
    rw [hfr]
    by_cases h4 : i < b.length
    · obtain ⟨c, hc⟩ : ∃ c, b[i]? = some c := ⟨b[i]'h4, List.getElem?_eq_getElem _⟩
      have hcc := byteCells_get hc
      try change EvC _ _ _ _ _ _
      repeat refine EvC.seq ?_
      try generalize hK : SeqQ _ _ _ _ = K
      refine EvC.reg ?_
      (first | refine EvO.T rfl rfl rfl rfl ?_ | refine EvO.L rfl rfl rfl rfl ?_ | refine EvO.N rfl rfl rfl ?_ | refine EvO.offT rfl rfl ?_ | refine EvO.offL rfl rfl ?_)
      (first | refine EvO.T rfl rfl rfl rfl ?_ | refine EvO.L rfl rfl rfl rfl ?_ | refine EvO.N rfl rfl rfl ?_ | refine EvO.offT rfl rfl ?_ | refine EvO.offL rfl rfl ?_)
      refine EvO.len rfl rfl rfl (hb _) rfl ?_
      rw [hbl]
      repeat (first | refine EvO.T rfl rfl rfl rfl ?_ | refine EvO.L rfl rfl rfl rfl ?_ | refine EvO.N rfl rfl rfl ?_ | refine EvO.offT rfl rfl ?_ | refine EvO.offL rfl rfl ?_ | simp (disch := omega) only [decide_eq_true, decide_eq_false, beq_yes, beq_no, bne_yes, bne_no])
      refine EvO.nil ?_
      dsimp only [Fr.putO, Fr.put, Fr.clean, Fr.ev, Fr.get, nth, Go.V.look, List.set_cons_succ, List.set_cons_zero, ofVal_int, ofVal_bool, ofVal_str, ofVal_nul, ofVal_pnil, ofVal_nilfn, ofVal_nilif, List.length, List.cons_append, List.nil_append, List.append_nil, Nat.reduceSub, Nat.reduceAdd, List.map, List.map_cons, List.map_nil]
      try subst hK
      try change EvC _ _ _ _ _ _
      try change EvC _ _ _ _ _ _
      repeat refine EvC.seq ?_
      refine EvC.cond (v := true) rfl (fun _ => ?_) (fun h => by cases h)
      try change EvC _ _ _ _ _ _
      refine EvC.skip ?_
      try change EvC _ _ _ _ _ _
      try change EvC _ _ _ _ _ _
      repeat refine EvC.seq ?_
      refine EvC.block ?_
      try change EvC _ _ _ _ _ _
      repeat refine EvC.seq ?_
      try generalize hK : SeqQ _ _ _ _ = K
      refine EvC.reg ?_
      repeat (first | refine EvO.T rfl rfl rfl rfl ?_ | refine EvO.L rfl rfl rfl rfl ?_ | refine EvO.N rfl rfl rfl ?_ | refine EvO.offT rfl rfl ?_ | refine EvO.offL rfl rfl ?_)
      refine EvO.nil ?_
      dsimp only [Fr.putO, Fr.put, Fr.clean, Fr.ev, Fr.get, nth, Go.V.look, List.set_cons_succ, List.set_cons_zero, ofVal_int, ofVal_bool, ofVal_str, ofVal_nul, ofVal_pnil, ofVal_nilfn, ofVal_nilif, List.length, List.cons_append, List.nil_append, List.append_nil, Nat.reduceSub, Nat.reduceAdd, List.map, List.map_cons, List.map_nil]
      try subst hK
      try change EvC _ _ _ _ _ _
      generalize hK1 : SeqQ _ _ _ _ = K1
      have step : ∀ (S : St) (kd : Nat) (j1 : List UInt8) (v11 v12 : D) m2, Ex st.bs.length (enterSt .ro st) S → kd ≠ ke → st.bs.length ≤ kd → S.bs[kd]? = some (.mem 0 false (decC h j1)) → S.bs[ke]? = some (.mem 0 false (decC h j2)) → (h ++ j1).length = 4 →
          K1 .next ⟨15, [x, .int .i64 a, y, .tup [], .tup [], .tup [], .bool false, .ptr kd 0 0, .ptr ke 0 0, .int .i64 k, .int .i64 (i : Nat), v11, v12, .tup [], .tup []], m2⟩ S := by
        intro S kd j1 v11 v12 m2 hx hne hkd hd he hl1
        subst hK1
        obtain ⟨a0, js1, rfl⟩ : ∃ j0 js, j1 = j0 :: js := by
          rw [List.length_append] at hl1
          cases j1 with | nil => simp at hl1; omega | cons a b => exact ⟨a, b, rfl⟩
        obtain ⟨b0, js2, rfl⟩ : ∃ j0 js, j2 = j0 :: js := by
          rw [List.length_append] at hl2
          cases j2 with | nil => simp at hl2; omega | cons a b => exact ⟨a, b, rfl⟩
        have hro : S.ro = st.bs.length := hx.ro
        have hkl : kd < S.bs.length := by
          rcases Nat.lt_or_ge kd S.bs.length with h' | h'
          · exact h'
          · rw [List.getElem?_eq_none h'] at hd; cases hd
        have hel : ke < S.bs.length := by
          rcases Nat.lt_or_ge ke S.bs.length with h' | h'
          · exact h'
          · rw [List.getElem?_eq_none h'] at he; cases he
        have B1 := byte_ev (c := c) hd hl1 (by omega)
        have f1 : ((h ++ [c]) ++ js1).length = 4 := by simp at hl1 ⊢; omega
        have f2 : ((h ++ [c]) ++ js2).length = 4 := by simp at hl2 ⊢; omega
        have n1 := jF_len (h.length + 1) (h ++ [c]) js1 f1 (by simp)
        have n2 := jF_len (h.length + 1) (h ++ [c]) js2 f2 (by simp)
        have n3 := tell_le (h.length + 1) (h ++ [c]) (by simp)
        have n4 := tell_beg (h.length + 1) (h ++ [c]) (by simp)
        have n5 := tell_n (h.length + 1) (h ++ [c])
        change ((byteS h c).2 ++ _).length = 4 at n1 n2
        change (byteS h c).2.length ≤ 3 at n3
        change begunS (byteS h c).2 = true ∨ (byteS h c).2 = [] at n4
        change (byteS h c).1.length ≤ _ at n5
        generalize jF (h.length + 1) (h ++ [c]) js1 = p1 at *
        generalize hS1 : (⟨S.bs.set kd (.mem 0 false (decC (byteS h c).2 p1)), S.flr, S.ro⟩ : St) = S1 at B1
        have he1 : S1.bs[ke]? = some (.mem 0 false (decC h (b0 :: js2))) := by subst hS1; simp only; rw [List.getElem?_set_ne hne]; exact he
        have hd1 : S1.bs[kd]? = some (.mem 0 false (decC (byteS h c).2 p1)) := by subst hS1; simp only; rw [List.getElem?_set_self hkl]
        have hx1 : Ex st.bs.length (enterSt .ro st) S1 := by subst hS1; exact ex_set hx hkd _
        have hro1 : S1.ro = st.bs.length := hx1.ro
        have B2 := byte_ev (c := c) he1 hl2 (by omega)
        generalize jF (h.length + 1) (h ++ [c]) js2 = p2 at *
        generalize hS2 : (⟨S1.bs.set ke (.mem 0 false (decC (byteS h c).2 p2)), S1.flr, S1.ro⟩ : St) = S2 at B2
        have hel1 : ke < S1.bs.length := by subst hS1; simpa using hel
        have he2 : S2.bs[ke]? = some (.mem 0 false (decC (byteS h c).2 p2)) := by subst hS2; simp only; rw [List.getElem?_set_self hel1]
        have hd2 : S2.bs[kd]? = some (.mem 0 false (decC (byteS h c).2 p1)) := by subst hS2; simp only; rw [List.getElem?_set_ne (fun e => hne e.symm)]; exact hd1
        have hx2 : Ex st.bs.length (enterSt .ro st) S2 := by subst hS2; exact ex_set hx1 hke _
        generalize byteS h c = q at *
        obtain ⟨p, i1, i2, i3⟩ := idxP (P := pv) (hb S) hxb (t := 29) (e := 5) rfl rfl (k := .i64) (i := (i : Nat)) (by omega) (by simpa using hcc)
        have i4 := i3 (.int .u8 (c.toNat : Nat)) S rfl
        have i5 := i3 (.int .u8 (c.toNat : Nat)) S1 rfl
        try change EvC _ _ _ _ _ _
        repeat refine EvC.seq ?_
        try generalize hK : SeqQ _ _ _ _ = K
        refine EvC.regY rfl ?_
        (first | refine EvY.cons (EvO.T rfl rfl rfl rfl (EvO.nil ⟨rfl, ?_⟩)) | refine EvY.cons (EvO.L rfl rfl rfl rfl (EvO.nil ⟨rfl, ?_⟩)) | refine EvY.cons (EvO.N rfl rfl rfl (EvO.nil ⟨rfl, ?_⟩)) | refine EvY.cons (EvO.offT rfl rfl (EvO.nil ⟨rfl, ?_⟩)) | refine EvY.cons (EvO.offL rfl rfl (EvO.nil ⟨rfl, ?_⟩)))
        (first | refine EvY.cons (EvO.T rfl rfl rfl rfl (EvO.nil ⟨rfl, ?_⟩)) | refine EvY.cons (EvO.L rfl rfl rfl rfl (EvO.nil ⟨rfl, ?_⟩)) | refine EvY.cons (EvO.N rfl rfl rfl (EvO.nil ⟨rfl, ?_⟩)) | refine EvY.cons (EvO.offT rfl rfl (EvO.nil ⟨rfl, ?_⟩)) | refine EvY.cons (EvO.offL rfl rfl (EvO.nil ⟨rfl, ?_⟩)))
        (first | refine EvY.cons (EvO.T rfl rfl rfl rfl (EvO.nil ⟨rfl, ?_⟩)) | refine EvY.cons (EvO.L rfl rfl rfl rfl (EvO.nil ⟨rfl, ?_⟩)) | refine EvY.cons (EvO.N rfl rfl rfl (EvO.nil ⟨rfl, ?_⟩)) | refine EvY.cons (EvO.offT rfl rfl (EvO.nil ⟨rfl, ?_⟩)) | refine EvY.cons (EvO.offL rfl rfl (EvO.nil ⟨rfl, ?_⟩)))
        refine EvY.cons (EvO.T rfl rfl rfl (d := p) (st1 := S) ?_ (EvO.nil ⟨rfl, ?_⟩))
        · show (indexAddrD pv 29 x (.int .i64 (i : Nat)) S).map _ = _
          rw [i1]; rfl
        refine EvY.cons (EvO.T rfl rfl rfl (d := .int .u8 (c.toNat : Nat)) (st1 := S) ?_ (EvO.nil ⟨rfl, ?_⟩))
        · show (loadD pv 5 p S).map _ = _
          rw [i4]; rfl
        refine EvY.cons (EvO.callT rfl rfl rfl B1 (EvO.nil ⟨rfl, ?_⟩))
        (first | refine EvY.cons (EvO.T rfl rfl rfl rfl (EvO.nil ⟨rfl, ?_⟩)) | refine EvY.cons (EvO.L rfl rfl rfl rfl (EvO.nil ⟨rfl, ?_⟩)) | refine EvY.cons (EvO.N rfl rfl rfl (EvO.nil ⟨rfl, ?_⟩)) | refine EvY.cons (EvO.offT rfl rfl (EvO.nil ⟨rfl, ?_⟩)) | refine EvY.cons (EvO.offL rfl rfl (EvO.nil ⟨rfl, ?_⟩)))
        (first | refine EvY.cons (EvO.T rfl rfl rfl rfl (EvO.nil ⟨rfl, ?_⟩)) | refine EvY.cons (EvO.L rfl rfl rfl rfl (EvO.nil ⟨rfl, ?_⟩)) | refine EvY.cons (EvO.N rfl rfl rfl (EvO.nil ⟨rfl, ?_⟩)) | refine EvY.cons (EvO.offT rfl rfl (EvO.nil ⟨rfl, ?_⟩)) | refine EvY.cons (EvO.offL rfl rfl (EvO.nil ⟨rfl, ?_⟩)))
        (first | refine EvY.cons (EvO.T rfl rfl rfl rfl (EvO.nil ⟨rfl, ?_⟩)) | refine EvY.cons (EvO.L rfl rfl rfl rfl (EvO.nil ⟨rfl, ?_⟩)) | refine EvY.cons (EvO.N rfl rfl rfl (EvO.nil ⟨rfl, ?_⟩)) | refine EvY.cons (EvO.offT rfl rfl (EvO.nil ⟨rfl, ?_⟩)) | refine EvY.cons (EvO.offL rfl rfl (EvO.nil ⟨rfl, ?_⟩)))
        refine EvY.cons (EvO.T rfl rfl rfl (d := p) (st1 := S1) ?_ (EvO.nil ⟨?_, ?_⟩))
        · show (indexAddrD pv 29 x (.int .i64 (i : Nat)) S1).map _ = _
          rw [i1]; rfl
        · show (stillB x.box? S S1 && _) = true
          rw [hxb]; rfl
        refine EvY.cons (EvO.T rfl rfl rfl (d := .int .u8 (c.toNat : Nat)) (st1 := S1) ?_ (EvO.nil ⟨?_, ?_⟩))
        · show (loadD pv 5 p S1).map _ = _
          rw [i5]; rfl
        · show (stillB p.box? S S1 && _) = true
          rw [i2]; rfl
        refine EvY.cons (EvO.callT rfl rfl rfl B2 (EvO.nil ⟨rfl, ?_⟩))
        refine EvY.cons (EvO.callT rfl rfl rfl (same_got (gots_rows _ _) (gots_rows _ _) (by omega)) (EvO.nil ⟨rfl, ?_⟩))
        (first | refine EvY.cons (EvO.T rfl rfl rfl rfl (EvO.nil ⟨rfl, ?_⟩)) | refine EvY.cons (EvO.L rfl rfl rfl rfl (EvO.nil ⟨rfl, ?_⟩)) | refine EvY.cons (EvO.N rfl rfl rfl (EvO.nil ⟨rfl, ?_⟩)) | refine EvY.cons (EvO.offT rfl rfl (EvO.nil ⟨rfl, ?_⟩)) | refine EvY.cons (EvO.offL rfl rfl (EvO.nil ⟨rfl, ?_⟩)))
        refine EvY.nil ?_
        dsimp only [Fr.putO, Fr.put, Fr.clean, Fr.ev, Fr.get, nth, Go.V.look, List.set_cons_succ, List.set_cons_zero, ofVal_int, ofVal_bool, ofVal_str, ofVal_nul, ofVal_pnil, ofVal_nilfn, ofVal_nilif, List.length, List.cons_append, List.nil_append, List.append_nil, Nat.reduceSub, Nat.reduceAdd, List.map, List.map_cons, List.map_nil]
        try subst hK
        try change EvC _ _ _ _ _ _
        try change EvC _ _ _ _ _ _
        repeat refine EvC.seq ?_
        refine EvC.cond (v := false) rfl (fun h => by cases h) fun _ => ?_
        try change EvC _ _ _ _ _ _
        refine EvC.skip ?_
        change EvC _ _ _ _ _ _
        try change EvC _ _ _ _ _ _
        repeat refine EvC.seq ?_
        try generalize hK : SeqQ _ _ _ _ = K
        refine EvC.reg ?_
        repeat (first | refine EvO.T rfl rfl rfl rfl ?_ | refine EvO.L rfl rfl rfl rfl ?_ | refine EvO.N rfl rfl rfl ?_ | refine EvO.offT rfl rfl ?_ | refine EvO.offL rfl rfl ?_)
        refine EvO.nil ?_
        dsimp only [Fr.putO, Fr.put, Fr.clean, Fr.ev, Fr.get, nth, Go.V.look, List.set_cons_succ, List.set_cons_zero, ofVal_int, ofVal_bool, ofVal_str, ofVal_nul, ofVal_pnil, ofVal_nilfn, ofVal_nilif, List.length, List.cons_append, List.nil_append, List.append_nil, Nat.reduceSub, Nat.reduceAdd, List.map, List.map_cons, List.map_nil]
        try subst hK
        try change EvC _ _ _ _ _ _
        rw [wrap_i64 (by omega) (by omega)]
        exact ⟨b.length - (i + 1), by omega, i + 1, kd, ke, q.2, p1, p2, _, _, rfl, hx2, hne, hkd, hke, hd2, he2, n1, n2, n3, n4, by omega, rfl⟩
      try change EvC _ _ _ _ _ _
      repeat refine EvC.seq ?_
      refine EvC.cond rfl (fun h5 => ?_) (fun h5 => ?_) <;> try simp only [decide_eq_true_eq, decide_eq_false_iff_not, beq_iff_eq, beq_eq_false_iff_ne, bne_iff_ne, bne_eq_false_iff_eq, ne_eq, Bool.not_eq_true', Bool.not_eq_false', Bool.not_eq_true, Bool.not_eq_false] at h5
      · have hro : S.ro = st.bs.length := hx.ro
        have hlS : st.bs.length ≤ S.bs.length := hx.len
        have hhe := held_ev hd hl1 (by omega)
        have hof := of_ev (bytesV_ok S h) hbg h3 (by omega)
        try change EvC _ _ _ _ _ _
        repeat refine EvC.seq ?_
        try generalize hK : SeqQ _ _ _ _ = K
        refine EvC.reg ?_
        (first | refine EvO.T rfl rfl rfl rfl ?_ | refine EvO.L rfl rfl rfl rfl ?_ | refine EvO.N rfl rfl rfl ?_ | refine EvO.offT rfl rfl ?_ | refine EvO.offL rfl rfl ?_)
        refine EvO.callT rfl rfl rfl hhe ?_
        refine EvO.callT rfl rfl rfl hof ?_
        repeat (first | refine EvO.T rfl rfl rfl rfl ?_ | refine EvO.L rfl rfl rfl rfl ?_ | refine EvO.N rfl rfl rfl ?_ | refine EvO.offT rfl rfl ?_ | refine EvO.offL rfl rfl ?_)
        refine EvO.nil ?_
        dsimp only [Fr.putO, Fr.put, Fr.clean, Fr.ev, Fr.get, nth, Go.V.look, List.set_cons_succ, List.set_cons_zero, ofVal_int, ofVal_bool, ofVal_str, ofVal_nul, ofVal_pnil, ofVal_nilfn, ofVal_nilif, List.length, List.cons_append, List.nil_append, List.append_nil, Nat.reduceSub, Nat.reduceAdd, List.map, List.map_cons, List.map_nil]
        try subst hK
        try change EvC _ _ _ _ _ _
        try change EvC _ _ _ _ _ _
        repeat refine EvC.seq ?_
        try generalize hK : SeqQ _ _ _ _ = K
        refine EvC.reg ?_
        repeat (first | refine EvO.T rfl rfl rfl rfl ?_ | refine EvO.L rfl rfl rfl rfl ?_ | refine EvO.N rfl rfl rfl ?_ | refine EvO.offT rfl rfl ?_ | refine EvO.offL rfl rfl ?_)
        refine EvO.nil ?_
        dsimp only [Fr.putO, Fr.put, Fr.clean, Fr.ev, Fr.get, nth, Go.V.look, List.set_cons_succ, List.set_cons_zero, ofVal_int, ofVal_bool, ofVal_str, ofVal_nul, ofVal_pnil, ofVal_nilfn, ofVal_nilif, List.length, List.cons_append, List.nil_append, List.append_nil, Nat.reduceSub, Nat.reduceAdd, List.map, List.map_cons, List.map_nil]
        try subst hK
        try change EvC _ _ _ _ _ _
        try change EvC _ _ _ _ _ _
        repeat refine EvC.seq ?_
        refine EvC.cond (v := false) rfl (fun h => by cases h) fun _ => ?_
        try change EvC _ _ _ _ _ _
        refine EvC.skip ?_
        try change EvC _ _ _ _ _ _
        try change EvC _ _ _ _ _ _
        repeat refine EvC.seq ?_
        try generalize hK : SeqQ _ _ _ _ = K
        refine EvC.reg ?_
        repeat (first | refine EvO.T rfl rfl rfl rfl ?_ | refine EvO.L rfl rfl rfl rfl ?_ | refine EvO.N rfl rfl rfl ?_ | refine EvO.offT rfl rfl ?_ | refine EvO.offL rfl rfl ?_)
        refine EvO.nil ?_
        dsimp only [Fr.putO, Fr.put, Fr.clean, Fr.ev, Fr.get, nth, Go.V.look, List.set_cons_succ, List.set_cons_zero, ofVal_int, ofVal_bool, ofVal_str, ofVal_nul, ofVal_pnil, ofVal_nilfn, ofVal_nilif, List.length, List.cons_append, List.nil_append, List.append_nil, Nat.reduceSub, Nat.reduceAdd, List.map, List.map_cons, List.map_nil]
        try subst hK
        try change EvC _ _ _ _ _ _
        have hkl : kd < S.bs.length := by
          rcases Nat.lt_or_ge kd S.bs.length with h' | h'
          · exact h'
          · rw [List.getElem?_eq_none h'] at hd; cases hd
        have hel : ke < S.bs.length := by
          rcases Nat.lt_or_ge ke S.bs.length with h' | h'
          · exact h'
          · rw [List.getElem?_eq_none h'] at he; cases he
        refine step _ S.bs.length (([0, 0, 0, 0] : List UInt8).drop h.length) _ _ _ (hx.trans (Ex.push hlS _)) (by omega) hlS (push_at S _) ?_ (by simp; omega)
        simp only [St.push]; rw [List.getElem?_append_left hel]; exact he
      · refine EvC.skip ?_
        exact step S kd j1 v11 v12 _ hx hne hkd hd he hl1
    · generalize hK2 : SeqQ _ _ _ _ = K2
      try change EvC _ _ _ _ _ _
      repeat refine EvC.seq ?_
      try generalize hK : SeqQ _ _ _ _ = K
      refine EvC.reg ?_
      (first | refine EvO.T rfl rfl rfl rfl ?_ | refine EvO.L rfl rfl rfl rfl ?_ | refine EvO.N rfl rfl rfl ?_ | refine EvO.offT rfl rfl ?_ | refine EvO.offL rfl rfl ?_)
      (first | refine EvO.T rfl rfl rfl rfl ?_ | refine EvO.L rfl rfl rfl rfl ?_ | refine EvO.N rfl rfl rfl ?_ | refine EvO.offT rfl rfl ?_ | refine EvO.offL rfl rfl ?_)
      refine EvO.len rfl rfl rfl (hb _) rfl ?_
      rw [hbl]
      repeat (first | refine EvO.T rfl rfl rfl rfl ?_ | refine EvO.L rfl rfl rfl rfl ?_ | refine EvO.N rfl rfl rfl ?_ | refine EvO.offT rfl rfl ?_ | refine EvO.offL rfl rfl ?_ | simp (disch := omega) only [decide_eq_true, decide_eq_false, beq_yes, beq_no, bne_yes, bne_no])
      refine EvO.nil ?_
      dsimp only [Fr.putO, Fr.put, Fr.clean, Fr.ev, Fr.get, nth, Go.V.look, List.set_cons_succ, List.set_cons_zero, ofVal_int, ofVal_bool, ofVal_str, ofVal_nul, ofVal_pnil, ofVal_nilfn, ofVal_nilif, List.length, List.cons_append, List.nil_append, List.append_nil, Nat.reduceSub, Nat.reduceAdd, List.map, List.map_cons, List.map_nil]
      try subst hK
      try change EvC _ _ _ _ _ _
      try change EvC _ _ _ _ _ _
      repeat refine EvC.seq ?_
      refine EvC.cond (v := false) rfl (fun h => by cases h) fun _ => ?_
      try change EvC _ _ _ _ _ _
      refine EvC.exit ?_
      subst hK2
      have hro : S.ro = st.bs.length := hx.ro
      have hlS : st.bs.length ≤ S.bs.length := hx.len
      have hkl : kd < S.bs.length := by
        rcases Nat.lt_or_ge kd S.bs.length with h' | h'
        · exact h'
        · rw [List.getElem?_eq_none h'] at hd; cases hd
      have hel : ke < S.bs.length := by
        rcases Nat.lt_or_ge ke S.bs.length with h' | h'
        · exact h'
        · rw [List.getElem?_eq_none h'] at he; cases he
      by_cases hok : begunS g = true ∨ g = []
      · have hg3 : g.length ≤ 3 := by
          rcases hok with h' | h'
          · exact begun_le h'
          · rw [h']; simp
        have hof := of_ev (hg S) hok hg3 (by omega)
        have hxp : Ex st.bs.length (enterSt .ro st) (S.push (.mem 0 false (decC g (([0, 0, 0, 0] : List UInt8).drop g.length)))) := hx.trans (Ex.push hlS _)
        have hdp : (S.push (.mem 0 false (decC g (([0, 0, 0, 0] : List UInt8).drop g.length)))).bs[kd]? = some (.mem 0 false (decC h j1)) := by simp only [St.push]; rw [List.getElem?_append_left hkl]; exact hd
        have hep : (S.push (.mem 0 false (decC g (([0, 0, 0, 0] : List UInt8).drop g.length)))).bs[ke]? = some (.mem 0 false (decC h j2)) := by simp only [St.push]; rw [List.getElem?_append_left hel]; exact he
        have hgp : (S.push (.mem 0 false (decC g (([0, 0, 0, 0] : List UInt8).drop g.length)))).bs[S.bs.length]? = some (.mem 0 false (decC g (([0, 0, 0, 0] : List UInt8).drop g.length))) := push_at S _
        have hlp : (S.push (.mem 0 false (decC g (([0, 0, 0, 0] : List UInt8).drop g.length)))).bs.length = S.bs.length + 1 := by simp [St.push]
        generalize S.push (.mem 0 false (decC g (([0, 0, 0, 0] : List UInt8).drop g.length))) = T at *
        generalize hx3 : S.bs.length = kx at *
        have htro : T.ro = st.bs.length := hxp.ro
        have hE1 := end_ev hdp hl1 (by omega)
        generalize hT1 : (⟨T.bs.set kd (.mem 0 false (decC [] (h ++ j1))), T.flr, T.ro⟩ : St) = T1 at hE1
        have he1 : T1.bs[ke]? = some (.mem 0 false (decC h j2)) := by subst hT1; simp only; rw [List.getElem?_set_ne hne]; exact hep
        have hg1 : T1.bs[kx]? = some (.mem 0 false (decC g (([0, 0, 0, 0] : List UInt8).drop g.length))) := by subst hT1; simp only; rw [List.getElem?_set_ne (by omega)]; exact hgp
        have hxt1 : Ex st.bs.length (enterSt .ro st) T1 := by subst hT1; exact ex_set hxp hkd _
        have htro1 : T1.ro = st.bs.length := hxt1.ro
        have hE2 := end_ev he1 hl2 (by omega)
        generalize hT2 : (⟨T1.bs.set ke (.mem 0 false (decC [] (h ++ j2))), T1.flr, T1.ro⟩ : St) = T2 at hE2
        have hg2 : T2.bs[kx]? = some (.mem 0 false (decC g (([0, 0, 0, 0] : List UInt8).drop g.length))) := by subst hT2; simp only; rw [List.getElem?_set_ne (by omega)]; exact hg1
        have hxt2 : Ex st.bs.length (enterSt .ro st) T2 := by subst hT2; exact ex_set hxt1 hke _
        have htro2 : T2.ro = st.bs.length := hxt2.ro
        have hlt2 : st.bs.length ≤ T2.bs.length := hxt2.len
        have hhe := held_ev hg2 (by simp; omega) (by omega)
        have hbad : (badS h.length).length < 4611686018427387904 := by simp [badS]; omega
        try change EvC _ _ _ _ _ _
        repeat refine EvC.seq ?_
        try generalize hK : SeqQ _ _ _ _ = K
        refine EvC.reg ?_
        (first | refine EvO.T rfl rfl rfl rfl ?_ | refine EvO.L rfl rfl rfl rfl ?_ | refine EvO.N rfl rfl rfl ?_ | refine EvO.offT rfl rfl ?_ | refine EvO.offL rfl rfl ?_)
        refine EvO.callT rfl rfl rfl hof ?_
        repeat (first | refine EvO.T rfl rfl rfl rfl ?_ | refine EvO.L rfl rfl rfl rfl ?_ | refine EvO.N rfl rfl rfl ?_ | refine EvO.offT rfl rfl ?_ | refine EvO.offL rfl rfl ?_)
        refine EvO.nil ?_
        dsimp only [Fr.putO, Fr.put, Fr.clean, Fr.ev, Fr.get, nth, Go.V.look, List.set_cons_succ, List.set_cons_zero, ofVal_int, ofVal_bool, ofVal_str, ofVal_nul, ofVal_pnil, ofVal_nilfn, ofVal_nilif, List.length, List.cons_append, List.nil_append, List.append_nil, Nat.reduceSub, Nat.reduceAdd, List.map, List.map_cons, List.map_nil]
        try subst hK
        try change EvC _ _ _ _ _ _
        have hbe := begun_ev (hg T) hglen
        cases hbg2 : begunS g with
        | true =>
          rw [hbg2] at hbe
          try change EvC _ _ _ _ _ _
          repeat refine EvC.seq ?_
          try generalize hK : SeqQ _ _ _ _ = K
          refine EvC.reg ?_
          (first | refine EvO.T rfl rfl rfl rfl ?_ | refine EvO.L rfl rfl rfl rfl ?_ | refine EvO.N rfl rfl rfl ?_ | refine EvO.offT rfl rfl ?_ | refine EvO.offL rfl rfl ?_)
          refine EvO.callT rfl rfl rfl hbe ?_
          repeat (first | refine EvO.T rfl rfl rfl rfl ?_ | refine EvO.L rfl rfl rfl rfl ?_ | refine EvO.N rfl rfl rfl ?_ | refine EvO.offT rfl rfl ?_ | refine EvO.offL rfl rfl ?_)
          refine EvO.nil ?_
          dsimp only [Fr.putO, Fr.put, Fr.clean, Fr.ev, Fr.get, nth, Go.V.look, List.set_cons_succ, List.set_cons_zero, ofVal_int, ofVal_bool, ofVal_str, ofVal_nul, ofVal_pnil, ofVal_nilfn, ofVal_nilif, List.length, List.cons_append, List.nil_append, List.append_nil, Nat.reduceSub, Nat.reduceAdd, List.map, List.map_cons, List.map_nil]
          try subst hK
          try change EvC _ _ _ _ _ _
          try change EvC _ _ _ _ _ _
          repeat refine EvC.seq ?_
          refine EvC.cond (v := false) rfl (fun h => by cases h) fun _ => ?_
          try change EvC _ _ _ _ _ _
          refine EvC.skip ?_
          try change EvC _ _ _ _ _ _
          try change EvC _ _ _ _ _ _
          repeat refine EvC.seq ?_
          try generalize hK : SeqQ _ _ _ _ = K
          refine EvC.reg ?_
          (first | refine EvO.T rfl rfl rfl rfl ?_ | refine EvO.L rfl rfl rfl rfl ?_ | refine EvO.N rfl rfl rfl ?_ | refine EvO.offT rfl rfl ?_ | refine EvO.offL rfl rfl ?_)
          refine EvO.callT rfl rfl rfl hE1 ?_
          (first | refine EvO.T rfl rfl rfl rfl ?_ | refine EvO.L rfl rfl rfl rfl ?_ | refine EvO.N rfl rfl rfl ?_ | refine EvO.offT rfl rfl ?_ | refine EvO.offL rfl rfl ?_)
          refine EvO.callT rfl rfl rfl hE2 ?_
          refine EvO.callT rfl rfl rfl (same_got (gots_rows _ _) (gots_rows _ _) hbad) ?_
          (first | refine EvO.T rfl rfl rfl rfl ?_ | refine EvO.L rfl rfl rfl rfl ?_ | refine EvO.N rfl rfl rfl ?_ | refine EvO.offT rfl rfl ?_ | refine EvO.offL rfl rfl ?_)
          (first | refine EvO.T rfl rfl rfl rfl ?_ | refine EvO.L rfl rfl rfl rfl ?_ | refine EvO.N rfl rfl rfl ?_ | refine EvO.offT rfl rfl ?_ | refine EvO.offL rfl rfl ?_)
          (first | refine EvO.T rfl rfl rfl rfl ?_ | refine EvO.L rfl rfl rfl rfl ?_ | refine EvO.N rfl rfl rfl ?_ | refine EvO.offT rfl rfl ?_ | refine EvO.offL rfl rfl ?_)
          (first | refine EvO.T rfl rfl rfl rfl ?_ | refine EvO.L rfl rfl rfl rfl ?_ | refine EvO.N rfl rfl rfl ?_ | refine EvO.offT rfl rfl ?_ | refine EvO.offL rfl rfl ?_)
          (first | refine EvO.T rfl rfl rfl rfl ?_ | refine EvO.L rfl rfl rfl rfl ?_ | refine EvO.N rfl rfl rfl ?_ | refine EvO.offT rfl rfl ?_ | refine EvO.offL rfl rfl ?_)
          (first | refine EvO.T rfl rfl rfl rfl ?_ | refine EvO.L rfl rfl rfl rfl ?_ | refine EvO.N rfl rfl rfl ?_ | refine EvO.offT rfl rfl ?_ | refine EvO.offL rfl rfl ?_)
          (first | refine EvO.T rfl rfl rfl rfl ?_ | refine EvO.L rfl rfl rfl rfl ?_ | refine EvO.N rfl rfl rfl ?_ | refine EvO.offT rfl rfl ?_ | refine EvO.offL rfl rfl ?_)
          (first | refine EvO.T rfl rfl rfl rfl ?_ | refine EvO.L rfl rfl rfl rfl ?_ | refine EvO.N rfl rfl rfl ?_ | refine EvO.offT rfl rfl ?_ | refine EvO.offL rfl rfl ?_)
          (first | refine EvO.T rfl rfl rfl rfl ?_ | refine EvO.L rfl rfl rfl rfl ?_ | refine EvO.N rfl rfl rfl ?_ | refine EvO.offT rfl rfl ?_ | refine EvO.offL rfl rfl ?_)
          (first | refine EvO.T rfl rfl rfl rfl ?_ | refine EvO.L rfl rfl rfl rfl ?_ | refine EvO.N rfl rfl rfl ?_ | refine EvO.offT rfl rfl ?_ | refine EvO.offL rfl rfl ?_)
          refine EvO.callT rfl rfl rfl hhe ?_
          (first | refine EvO.T rfl rfl rfl rfl ?_ | refine EvO.L rfl rfl rfl rfl ?_ | refine EvO.N rfl rfl rfl ?_ | refine EvO.offT rfl rfl ?_ | refine EvO.offL rfl rfl ?_)
          refine EvO.callT rfl rfl rfl (same_byte (bytesV_ok _ g) (hg _) (by omega)) ?_
          (first | refine EvO.T rfl rfl rfl rfl ?_ | refine EvO.L rfl rfl rfl rfl ?_ | refine EvO.N rfl rfl rfl ?_ | refine EvO.offT rfl rfl ?_ | refine EvO.offL rfl rfl ?_)
          (first | refine EvO.T rfl rfl rfl rfl ?_ | refine EvO.L rfl rfl rfl rfl ?_ | refine EvO.N rfl rfl rfl ?_ | refine EvO.offT rfl rfl ?_ | refine EvO.offL rfl rfl ?_)
          refine EvO.callT rfl rfl rfl (Ev.prim rfl rfl) ?_
          repeat (first | refine EvO.T rfl rfl rfl rfl ?_ | refine EvO.L rfl rfl rfl rfl ?_ | refine EvO.N rfl rfl rfl ?_ | refine EvO.offT rfl rfl ?_ | refine EvO.offL rfl rfl ?_)
          refine EvO.nil ?_
          dsimp only [Fr.putO, Fr.put, Fr.clean, Fr.ev, Fr.get, nth, Go.V.look, List.set_cons_succ, List.set_cons_zero, ofVal_int, ofVal_bool, ofVal_str, ofVal_nul, ofVal_pnil, ofVal_nilfn, ofVal_nilif, List.length, List.cons_append, List.nil_append, List.append_nil, Nat.reduceSub, Nat.reduceAdd, List.map, List.map_cons, List.map_nil]
          try subst hK
          try change EvC _ _ _ _ _ _
          exact EvC.ret ⟨fun i h => (by cases h), _, rfl, leave_same (by simp) (hxt2.take rfl) rfl⟩
        | false =>
          rw [hbg2] at hbe
          have hg0 : g.length = 0 := by
            rcases hok with h' | h'
            · rw [hbg2] at h'; cases h'
            · rw [h']; rfl
          try change EvC _ _ _ _ _ _
          repeat refine EvC.seq ?_
          try generalize hK : SeqQ _ _ _ _ = K
          refine EvC.reg ?_
          (first | refine EvO.T rfl rfl rfl rfl ?_ | refine EvO.L rfl rfl rfl rfl ?_ | refine EvO.N rfl rfl rfl ?_ | refine EvO.offT rfl rfl ?_ | refine EvO.offL rfl rfl ?_)
          refine EvO.callT rfl rfl rfl hbe ?_
          (first | refine EvO.T rfl rfl rfl rfl ?_ | refine EvO.L rfl rfl rfl rfl ?_ | refine EvO.N rfl rfl rfl ?_ | refine EvO.offT rfl rfl ?_ | refine EvO.offL rfl rfl ?_)
          (first | refine EvO.T rfl rfl rfl rfl ?_ | refine EvO.L rfl rfl rfl rfl ?_ | refine EvO.N rfl rfl rfl ?_ | refine EvO.offT rfl rfl ?_ | refine EvO.offL rfl rfl ?_)
          (first | refine EvO.T rfl rfl rfl rfl ?_ | refine EvO.L rfl rfl rfl rfl ?_ | refine EvO.N rfl rfl rfl ?_ | refine EvO.offT rfl rfl ?_ | refine EvO.offL rfl rfl ?_)
          refine EvO.len rfl rfl rfl (hg T) rfl ?_
          rw [byteCells_len]
          repeat (first | refine EvO.T rfl rfl rfl rfl ?_ | refine EvO.L rfl rfl rfl rfl ?_ | refine EvO.N rfl rfl rfl ?_ | refine EvO.offT rfl rfl ?_ | refine EvO.offL rfl rfl ?_ | simp (disch := omega) only [decide_eq_true, decide_eq_false, beq_yes, beq_no, bne_yes, bne_no])
          refine EvO.nil ?_
          dsimp only [Fr.putO, Fr.put, Fr.clean, Fr.ev, Fr.get, nth, Go.V.look, List.set_cons_succ, List.set_cons_zero, ofVal_int, ofVal_bool, ofVal_str, ofVal_nul, ofVal_pnil, ofVal_nilfn, ofVal_nilif, List.length, List.cons_append, List.nil_append, List.append_nil, Nat.reduceSub, Nat.reduceAdd, List.map, List.map_cons, List.map_nil]
          try subst hK
          try change EvC _ _ _ _ _ _
          try change EvC _ _ _ _ _ _
          repeat refine EvC.seq ?_
          refine EvC.cond (v := false) rfl (fun h => by cases h) fun _ => ?_
          try change EvC _ _ _ _ _ _
          refine EvC.skip ?_
          try change EvC _ _ _ _ _ _
          try change EvC _ _ _ _ _ _
          repeat refine EvC.seq ?_
          try generalize hK : SeqQ _ _ _ _ = K
          refine EvC.reg ?_
          (first | refine EvO.T rfl rfl rfl rfl ?_ | refine EvO.L rfl rfl rfl rfl ?_ | refine EvO.N rfl rfl rfl ?_ | refine EvO.offT rfl rfl ?_ | refine EvO.offL rfl rfl ?_)
          refine EvO.callT rfl rfl rfl hE1 ?_
          (first | refine EvO.T rfl rfl rfl rfl ?_ | refine EvO.L rfl rfl rfl rfl ?_ | refine EvO.N rfl rfl rfl ?_ | refine EvO.offT rfl rfl ?_ | refine EvO.offL rfl rfl ?_)
          refine EvO.callT rfl rfl rfl hE2 ?_
          refine EvO.callT rfl rfl rfl (same_got (gots_rows _ _) (gots_rows _ _) hbad) ?_
          (first | refine EvO.T rfl rfl rfl rfl ?_ | refine EvO.L rfl rfl rfl rfl ?_ | refine EvO.N rfl rfl rfl ?_ | refine EvO.offT rfl rfl ?_ | refine EvO.offL rfl rfl ?_)
          (first | refine EvO.T rfl rfl rfl rfl ?_ | refine EvO.L rfl rfl rfl rfl ?_ | refine EvO.N rfl rfl rfl ?_ | refine EvO.offT rfl rfl ?_ | refine EvO.offL rfl rfl ?_)
          (first | refine EvO.T rfl rfl rfl rfl ?_ | refine EvO.L rfl rfl rfl rfl ?_ | refine EvO.N rfl rfl rfl ?_ | refine EvO.offT rfl rfl ?_ | refine EvO.offL rfl rfl ?_)
          (first | refine EvO.T rfl rfl rfl rfl ?_ | refine EvO.L rfl rfl rfl rfl ?_ | refine EvO.N rfl rfl rfl ?_ | refine EvO.offT rfl rfl ?_ | refine EvO.offL rfl rfl ?_)
          (first | refine EvO.T rfl rfl rfl rfl ?_ | refine EvO.L rfl rfl rfl rfl ?_ | refine EvO.N rfl rfl rfl ?_ | refine EvO.offT rfl rfl ?_ | refine EvO.offL rfl rfl ?_)
          (first | refine EvO.T rfl rfl rfl rfl ?_ | refine EvO.L rfl rfl rfl rfl ?_ | refine EvO.N rfl rfl rfl ?_ | refine EvO.offT rfl rfl ?_ | refine EvO.offL rfl rfl ?_)
          (first | refine EvO.T rfl rfl rfl rfl ?_ | refine EvO.L rfl rfl rfl rfl ?_ | refine EvO.N rfl rfl rfl ?_ | refine EvO.offT rfl rfl ?_ | refine EvO.offL rfl rfl ?_)
          (first | refine EvO.T rfl rfl rfl rfl ?_ | refine EvO.L rfl rfl rfl rfl ?_ | refine EvO.N rfl rfl rfl ?_ | refine EvO.offT rfl rfl ?_ | refine EvO.offL rfl rfl ?_)
          (first | refine EvO.T rfl rfl rfl rfl ?_ | refine EvO.L rfl rfl rfl rfl ?_ | refine EvO.N rfl rfl rfl ?_ | refine EvO.offT rfl rfl ?_ | refine EvO.offL rfl rfl ?_)
          (first | refine EvO.T rfl rfl rfl rfl ?_ | refine EvO.L rfl rfl rfl rfl ?_ | refine EvO.N rfl rfl rfl ?_ | refine EvO.offT rfl rfl ?_ | refine EvO.offL rfl rfl ?_)
          refine EvO.callT rfl rfl rfl hhe ?_
          (first | refine EvO.T rfl rfl rfl rfl ?_ | refine EvO.L rfl rfl rfl rfl ?_ | refine EvO.N rfl rfl rfl ?_ | refine EvO.offT rfl rfl ?_ | refine EvO.offL rfl rfl ?_)
          refine EvO.callT rfl rfl rfl (same_byte (bytesV_ok _ g) (hg _) (by omega)) ?_
          (first | refine EvO.T rfl rfl rfl rfl ?_ | refine EvO.L rfl rfl rfl rfl ?_ | refine EvO.N rfl rfl rfl ?_ | refine EvO.offT rfl rfl ?_ | refine EvO.offL rfl rfl ?_)
          (first | refine EvO.T rfl rfl rfl rfl ?_ | refine EvO.L rfl rfl rfl rfl ?_ | refine EvO.N rfl rfl rfl ?_ | refine EvO.offT rfl rfl ?_ | refine EvO.offL rfl rfl ?_)
          refine EvO.callT rfl rfl rfl (Ev.prim rfl rfl) ?_
          repeat (first | refine EvO.T rfl rfl rfl rfl ?_ | refine EvO.L rfl rfl rfl rfl ?_ | refine EvO.N rfl rfl rfl ?_ | refine EvO.offT rfl rfl ?_ | refine EvO.offL rfl rfl ?_)
          refine EvO.nil ?_
          dsimp only [Fr.putO, Fr.put, Fr.clean, Fr.ev, Fr.get, nth, Go.V.look, List.set_cons_succ, List.set_cons_zero, ofVal_int, ofVal_bool, ofVal_str, ofVal_nul, ofVal_pnil, ofVal_nilfn, ofVal_nilif, List.length, List.cons_append, List.nil_append, List.append_nil, Nat.reduceSub, Nat.reduceAdd, List.map, List.map_cons, List.map_nil]
          try subst hK
          try change EvC _ _ _ _ _ _
          exact EvC.ret ⟨fun i h => (by cases h), _, rfl, leave_same (by simp) (hxt2.take rfl) rfl⟩
      · obtain ⟨hb1, hb2⟩ : begunS g = false ∧ g ≠ [] := by
          refine ⟨?_, fun e => hok (.inr e)⟩
          cases hb : begunS g with
          | false => rfl
          | true => exact absurd (.inl hb) hok
        have hof := of_bad (hg S) hb1 hb2
        have hbe := begun_ev (hg S) hglen
        rw [hb1] at hbe
        have hgl : 0 < g.length := by cases g with | nil => exact absurd rfl hb2 | cons _ _ => simp
        try change EvC _ _ _ _ _ _
        repeat refine EvC.seq ?_
        try generalize hK : SeqQ _ _ _ _ = K
        refine EvC.reg ?_
        (first | refine EvO.T rfl rfl rfl rfl ?_ | refine EvO.L rfl rfl rfl rfl ?_ | refine EvO.N rfl rfl rfl ?_ | refine EvO.offT rfl rfl ?_ | refine EvO.offL rfl rfl ?_)
        refine EvO.callT rfl rfl rfl hof ?_
        repeat (first | refine EvO.T rfl rfl rfl rfl ?_ | refine EvO.L rfl rfl rfl rfl ?_ | refine EvO.N rfl rfl rfl ?_ | refine EvO.offT rfl rfl ?_ | refine EvO.offL rfl rfl ?_)
        refine EvO.nil ?_
        dsimp only [Fr.putO, Fr.put, Fr.clean, Fr.ev, Fr.get, nth, Go.V.look, List.set_cons_succ, List.set_cons_zero, ofVal_int, ofVal_bool, ofVal_str, ofVal_nul, ofVal_pnil, ofVal_nilfn, ofVal_nilif, List.length, List.cons_append, List.nil_append, List.append_nil, Nat.reduceSub, Nat.reduceAdd, List.map, List.map_cons, List.map_nil]
        try subst hK
        try change EvC _ _ _ _ _ _
        try change EvC _ _ _ _ _ _
        repeat refine EvC.seq ?_
        try generalize hK : SeqQ _ _ _ _ = K
        refine EvC.reg ?_
        (first | refine EvO.T rfl rfl rfl rfl ?_ | refine EvO.L rfl rfl rfl rfl ?_ | refine EvO.N rfl rfl rfl ?_ | refine EvO.offT rfl rfl ?_ | refine EvO.offL rfl rfl ?_)
        refine EvO.callT rfl rfl rfl hbe ?_
        (first | refine EvO.T rfl rfl rfl rfl ?_ | refine EvO.L rfl rfl rfl rfl ?_ | refine EvO.N rfl rfl rfl ?_ | refine EvO.offT rfl rfl ?_ | refine EvO.offL rfl rfl ?_)
        (first | refine EvO.T rfl rfl rfl rfl ?_ | refine EvO.L rfl rfl rfl rfl ?_ | refine EvO.N rfl rfl rfl ?_ | refine EvO.offT rfl rfl ?_ | refine EvO.offL rfl rfl ?_)
        (first | refine EvO.T rfl rfl rfl rfl ?_ | refine EvO.L rfl rfl rfl rfl ?_ | refine EvO.N rfl rfl rfl ?_ | refine EvO.offT rfl rfl ?_ | refine EvO.offL rfl rfl ?_)
        refine EvO.len rfl rfl rfl (hg S) rfl ?_
        rw [byteCells_len]
        repeat (first | refine EvO.T rfl rfl rfl rfl ?_ | refine EvO.L rfl rfl rfl rfl ?_ | refine EvO.N rfl rfl rfl ?_ | refine EvO.offT rfl rfl ?_ | refine EvO.offL rfl rfl ?_ | simp (disch := omega) only [decide_eq_true, decide_eq_false, beq_yes, beq_no, bne_yes, bne_no])
        refine EvO.nil ?_
        dsimp only [Fr.putO, Fr.put, Fr.clean, Fr.ev, Fr.get, nth, Go.V.look, List.set_cons_succ, List.set_cons_zero, ofVal_int, ofVal_bool, ofVal_str, ofVal_nul, ofVal_pnil, ofVal_nilfn, ofVal_nilif, List.length, List.cons_append, List.nil_append, List.append_nil, Nat.reduceSub, Nat.reduceAdd, List.map, List.map_cons, List.map_nil]
        try subst hK
        try change EvC _ _ _ _ _ _
        try change EvC _ _ _ _ _ _
        repeat refine EvC.seq ?_
        refine EvC.cond (v := true) rfl (fun _ => ?_) (fun h => by cases h)
        try change EvC _ _ _ _ _ _
        try change EvC _ _ _ _ _ _
        repeat refine EvC.seq ?_
        try generalize hK : SeqQ _ _ _ _ = K
        refine EvC.reg ?_
        (first | refine EvO.T rfl rfl rfl rfl ?_ | refine EvO.L rfl rfl rfl rfl ?_ | refine EvO.N rfl rfl rfl ?_ | refine EvO.offT rfl rfl ?_ | refine EvO.offL rfl rfl ?_)
        (first | refine EvO.T rfl rfl rfl rfl ?_ | refine EvO.L rfl rfl rfl rfl ?_ | refine EvO.N rfl rfl rfl ?_ | refine EvO.offT rfl rfl ?_ | refine EvO.offL rfl rfl ?_)
        (first | refine EvO.T rfl rfl rfl rfl ?_ | refine EvO.L rfl rfl rfl rfl ?_ | refine EvO.N rfl rfl rfl ?_ | refine EvO.offT rfl rfl ?_ | refine EvO.offL rfl rfl ?_)
        (first | refine EvO.T rfl rfl rfl rfl ?_ | refine EvO.L rfl rfl rfl rfl ?_ | refine EvO.N rfl rfl rfl ?_ | refine EvO.offT rfl rfl ?_ | refine EvO.offL rfl rfl ?_)
        (first | refine EvO.T rfl rfl rfl rfl ?_ | refine EvO.L rfl rfl rfl rfl ?_ | refine EvO.N rfl rfl rfl ?_ | refine EvO.offT rfl rfl ?_ | refine EvO.offL rfl rfl ?_)
        (first | refine EvO.T rfl rfl rfl rfl ?_ | refine EvO.L rfl rfl rfl rfl ?_ | refine EvO.N rfl rfl rfl ?_ | refine EvO.offT rfl rfl ?_ | refine EvO.offL rfl rfl ?_)
        (first | refine EvO.T rfl rfl rfl rfl ?_ | refine EvO.L rfl rfl rfl rfl ?_ | refine EvO.N rfl rfl rfl ?_ | refine EvO.offT rfl rfl ?_ | refine EvO.offL rfl rfl ?_)
        refine EvO.callT rfl rfl rfl (Ev.prim rfl rfl) ?_
        repeat (first | refine EvO.T rfl rfl rfl rfl ?_ | refine EvO.L rfl rfl rfl rfl ?_ | refine EvO.N rfl rfl rfl ?_ | refine EvO.offT rfl rfl ?_ | refine EvO.offL rfl rfl ?_)
        refine EvO.nil ?_
        dsimp only [Fr.putO, Fr.put, Fr.clean, Fr.ev, Fr.get, nth, Go.V.look, List.set_cons_succ, List.set_cons_zero, ofVal_int, ofVal_bool, ofVal_str, ofVal_nul, ofVal_pnil, ofVal_nilfn, ofVal_nilif, List.length, List.cons_append, List.nil_append, List.append_nil, Nat.reduceSub, Nat.reduceAdd, List.map, List.map_cons, List.map_nil]
        try subst hK
        try change EvC _ _ _ _ _ _
        exact EvC.ret ⟨fun i h => (by cases h), _, rfl, leave_same (by simp) (hx.take rfl) rfl⟩
  try change EvC _ _ _ _ _ _
  repeat refine EvC.seq ?_
  refine EvC.cond rfl (fun h1 => ?_) (fun h1 => ?_) <;> try simp only [decide_eq_true_eq, decide_eq_false_iff_not, beq_iff_eq, beq_eq_false_iff_ne, bne_iff_ne, bne_eq_false_iff_eq, ne_eq, Bool.not_eq_true', Bool.not_eq_false', Bool.not_eq_true, Bool.not_eq_false] at h1
  · obtain ⟨x', c1, c2⟩ := cutB hb0 (by omega) (enterSt .ro st)
    try change EvC _ _ _ _ _ _
    repeat refine EvC.seq ?_
    try generalize hK : SeqQ _ _ _ _ = K
    refine EvC.reg ?_
    (first | refine EvO.T rfl rfl rfl rfl ?_ | refine EvO.L rfl rfl rfl rfl ?_ | refine EvO.N rfl rfl rfl ?_ | refine EvO.offT rfl rfl ?_ | refine EvO.offL rfl rfl ?_)
    refine EvO.T rfl rfl rfl (d := x') (st1 := enterSt .ro st) ?_ ?_
    · show (sliceD pv 29 x none (some (.int .i64 300)) (enterSt .ro st)).map _ = _
      rw [c1]; rfl
    repeat (first | refine EvO.T rfl rfl rfl rfl ?_ | refine EvO.L rfl rfl rfl rfl ?_ | refine EvO.N rfl rfl rfl ?_ | refine EvO.offT rfl rfl ?_ | refine EvO.offL rfl rfl ?_)
    refine EvO.nil ?_
    dsimp only [Fr.putO, Fr.put, Fr.clean, Fr.ev, Fr.get, nth, Go.V.look, List.set_cons_succ, List.set_cons_zero, ofVal_int, ofVal_bool, ofVal_str, ofVal_nul, ofVal_pnil, ofVal_nilfn, ofVal_nilif, List.length, List.cons_append, List.nil_append, List.append_nil, Nat.reduceSub, Nat.reduceAdd, List.map, List.map_cons, List.map_nil]
    try subst hK
    try change EvC _ _ _ _ _ _
    exact main x' _ _ c2 (by simp; omega)
  · refine EvC.skip ?_
    exact main x b _ hb0 (by omega)

theorem own : ownKnob Try.prog.godebug = none := by kernel_rfl
theorem laidOut : laidOutB Try.prog = true := by kernel_rfl

theorem lifted (os : Os) (started : os.Started) (H : Type) (enc : TypeId × Value → H) (F : Stop.Interp) :
    ReturnsInHanded {} Try.checked os 9 .any ((Rows.OpenSpec.upto Rows.utfResumesSpec).pre6 enc Try.prog Try.f9 Rows.utfResumesUptoRow.domain false) (((Rows.OpenSpec.upto Rows.utfResumesSpec).at F).post enc Try.prog Try.f9 false true false false) := by
  refine returnsInHanded_of_cond (C := Try.checked) (s := Rows.OpenSpec.upto Rows.utfResumesSpec) (k := Rows.uptoSmall) rfl own started (by kernel_rfl) Try.func9
    (OpenSpec.witness (enc := enc) (C := Try.checked) (s := Rows.OpenSpec.upto Rows.utfResumesSpec) (k := Rows.uptoSmall) rfl false ⟨#[], #[.slice none 0 0, .int .i64 0, .slice none 0 0], []⟩ 8 (by kernel_rfl) (by kernel_rfl) (by kernel_rfl)
      (x := ([.nil, .lit (.int .i64 0), .nil], [], [])) (by kernel_rfl) rfl (by kernel_rfl)) ?_
  intro W base args ds gs before hval hW _ hk _
  have hW' := hW
  obtain ⟨p, q, hA0, hV, rfl, hfz, hnd⟩ := hW
  have hA : DataW.TrodAll enc Try.prog W 0 (fun _ => true) true Try.f9.params.toList args.toList ds p := hA0
  rw [Try.params9] at hA hval
  obtain ⟨v0, vs0, d0, ds0, p0, q0, hargs, rfl, rfl, h0, r0⟩ := trodAll_cons hA
  obtain ⟨v1, vs1, d1, ds1, p1, q1, rfl, rfl, rfl, h1, r1⟩ := trodAll_cons r0
  obtain ⟨v2, vs2, d2, ds2, p2, q2, rfl, rfl, rfl, h2, r2⟩ := trodAll_cons r1
  obtain ⟨rfl, rfl, rfl⟩ := trodAll_nil r2
  obtain rfl : args = #[v0, v1, v2] := by cases args; simp_all
  obtain ⟨rfl, rfl⟩ := trodVars_none hV
  simp only [Rows.uptoSmall, List.append_nil, List.nil_append, List.singleton_append, List.cons_append, decide_eq_true_eq, Rows.uptoBulkAll] at hk
  have i0 := trod_ir h0 (n := 12) (by kernel_rfl) (hval 0 29 v0 rfl rfl)
  have k0 := h0
  have lt0 : ∀ x ∈ p0, x.block < W.heap.size := by obtain ⟨m, hm⟩ := k0; exact DataW.trod_lt m _ _ _ hm
  obtain ⟨b0, hb0, hs0⟩ := arg_bytes h0 Try.underlying29 Try.underlying5
  have l0 : b0.length ≤ Rows.uptoBulk d0 := by rcases hs0 with ⟨rfl, rfl⟩ | ⟨es, rest, rfl, he⟩ <;> simp only [Rows.uptoBulk, List.length_nil] <;> first | omega | (have := bulk_len es; omega)
  have i1 := trod_ir h1 (n := 12) (by kernel_rfl) (hval 1 3 v1 rfl rfl)
  have k1 := h1
  have lt1 : ∀ x ∈ p1, x.block < W.heap.size := by obtain ⟨m, hm⟩ := k1; exact DataW.trod_lt m _ _ _ hm
  obtain ⟨b1, hb1, hs1, w1⟩ := arg_int h1 Try.underlying3
  have i2 := trod_ir h2 (n := 12) (by kernel_rfl) (hval 2 29 v2 rfl rfl)
  have k2 := h2
  have lt2 : ∀ x ∈ p2, x.block < W.heap.size := by obtain ⟨m, hm⟩ := k2; exact DataW.trod_lt m _ _ _ hm
  obtain ⟨b2, hb2, hs2⟩ := arg_bytes h2 Try.underlying29 Try.underlying5
  have l2 : b2.length ≤ Rows.uptoBulk d2 := by rcases hs2 with ⟨rfl, rfl⟩ | ⟨es, rest, rfl, he⟩ <;> simp only [Rows.uptoBulk, List.length_nil] <;> first | omega | (have := bulk_len es; omega)
  have hlaw : Ev pv 9 [dval d0, dval d1, dval d2] ⟨[], 0, 0⟩ (.bool true) ⟨[], 0, 0⟩ := by
    rw [hb1]
    exact law hb0 (by omega) trivial hb2 (by omega)
  have hir : ∀ (i : Nat) c v, [dval d0, dval d1, dval d2][i]? = some c → [v0, v1, v2][i]? = some v → IR W (fun b => b < W.heap.size) c v := by
    intro i c v hc hv
    match i, hc, hv with
    | 0, hc, hv => cases hc; cases hv; exact i0
    | 1, hc, hv => cases hc; cases hv; exact i1
    | 2, hc, hv => cases hc; cases hv; exact i2
  clear hA0
  refine (law_calls view hlaw (us := [v0, v1, v2]) rfl hir).mono fun e W' ⟨he, bel⟩ => ?_
  subst he
  exact ⟨_, rfl, _, _, _, [], _, [], hW', trodAll_mk1 (shut_bool Try.underlying4 _), (trodAll_cons_mk (Below.trod laidOut (by kernel_rfl) (of_decide_eq_true (by kernel_rfl)) k0 bel lt0) (trodAll_cons_mk (Below.trod laidOut (by kernel_rfl) (of_decide_eq_true (by kernel_rfl)) k1 bel lt1) (trodAll_cons_mk (Below.trod laidOut (by kernel_rfl) (of_decide_eq_true (by kernel_rfl)) k2 bel lt2) trodAll_mk0))), rfl, bel.frame _, fun h => by cases h⟩

theorem proved : Rows.UtfResumesUptoSaid :=
  OpenClaim.holds_of_cond 9 Try.f9 rfl rfl rfl rfl rfl rfl rfl ⟨rfl, rfl, rfl, rfl, rfl⟩ rfl rfl rfl rfl rfl (by kernel_rfl) Try.func9 (by kernel_rfl)
    (of_decide_eq_true (by kernel_rfl)) (by unfold Func.isWrapper; first | (rw [if_pos (by decide +kernel)]; kernel_rfl) | (rw [if_neg (by decide +kernel)]; exact ⟨rfl, rfl⟩))
    (fun os started H enc _ F => lifted os started H enc F)
end Go.Proofs.Ytlljdbhefepheaa.utfResumes
#print axioms Go.Proofs.Ytlljdbhefepheaa.utfResumes.proved
