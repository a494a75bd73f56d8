import Derived.Test.YtbdilgkfnacahaaGreatUb
namespace Go.Proofs.YtbdilgkfnacahaaGreat
open Go.V Go
set_option maxRecDepth 100000
set_option maxHeartbeats 4000000
set_option linter.unusedSimpArgs false
set_option linter.unusedVariables false

def needS (c : Nat) : Nat := if c < 128 then 1 else if c < 194 then 0 else if c < 224 then 2 else if c < 240 then 3 else if c < 245 then 4 else 0

theorem need_ev (c : Nat) (st : St) : Ev pv 85 [.int .u8 c] st (.int .i64 (needS c : Nat)) st := by
 refine Ev.mk1 rfl fi85 rfl rfl rfl ?_
 dsimp only [List.cons_append, List.nil_append, List.length, Nat.reduceSub, Nat.reduceAdd, List.replicate_succ, List.replicate_zero]
 unfold needS
 repeat' split
 ·repeat (first | refine EvO.T rfl rfl rfl rfl ?_ | refine EvO.L rfl rfl rfl rfl ?_ | refine EvO.N rfl rfl rfl ?_ | refine EvO.offT rfl rfl ?_ | refine EvO.offL rfl rfl ?_ | (refine EvO.nil ?_; try dsimp only [Fr.putO, Fr.put, Fr.clean, Fr.ev, Fr.get, nth, Go.V.look, u1, u2, v1, v2, v3, v4, v5, v6, v7, List.length, u3, u4, Nat.reduceSub, Nat.reduceAdd, List.map]) | refine EvC.seq ?_ | refine EvC.reg ?_ | refine EvC.cond (v := true) rfl (fun _ => ?_) (fun h => by cases h) | refine EvC.cond (v := false) rfl (fun h => by cases h) (fun _ => ?_) | refine EvC.skip ?_ | refine EvC.block ?_ | simp (disch := omega) only [decide_eq_true, decide_eq_false, beq_yes, beq_no, bne_yes, bne_no])
  refine EvC.ret ⟨fun i h => (by cases h), _, rfl, leave_same (by simp) (by simp [enterSt]) ?_⟩
  rfl
 ·repeat (first | refine EvO.T rfl rfl rfl rfl ?_ | refine EvO.L rfl rfl rfl rfl ?_ | refine EvO.N rfl rfl rfl ?_ | refine EvO.offT rfl rfl ?_ | refine EvO.offL rfl rfl ?_ | (refine EvO.nil ?_; try dsimp only [Fr.putO, Fr.put, Fr.clean, Fr.ev, Fr.get, nth, Go.V.look, u1, u2, v1, v2, v3, v4, v5, v6, v7, List.length, u3, u4, Nat.reduceSub, Nat.reduceAdd, List.map]) | refine EvC.seq ?_ | refine EvC.reg ?_ | refine EvC.cond (v := true) rfl (fun _ => ?_) (fun h => by cases h) | refine EvC.cond (v := false) rfl (fun h => by cases h) (fun _ => ?_) | refine EvC.skip ?_ | refine EvC.block ?_ | simp (disch := omega) only [decide_eq_true, decide_eq_false, beq_yes, beq_no, bne_yes, bne_no])
  refine EvC.ret ⟨fun i h => (by cases h), _, rfl, leave_same (by simp) (by simp [enterSt]) ?_⟩
  rfl
 ·repeat (first | refine EvO.T rfl rfl rfl rfl ?_ | refine EvO.L rfl rfl rfl rfl ?_ | refine EvO.N rfl rfl rfl ?_ | refine EvO.offT rfl rfl ?_ | refine EvO.offL rfl rfl ?_ | (refine EvO.nil ?_; try dsimp only [Fr.putO, Fr.put, Fr.clean, Fr.ev, Fr.get, nth, Go.V.look, u1, u2, v1, v2, v3, v4, v5, v6, v7, List.length, u3, u4, Nat.reduceSub, Nat.reduceAdd, List.map]) | refine EvC.seq ?_ | refine EvC.reg ?_ | refine EvC.cond (v := true) rfl (fun _ => ?_) (fun h => by cases h) | refine EvC.cond (v := false) rfl (fun h => by cases h) (fun _ => ?_) | refine EvC.skip ?_ | refine EvC.block ?_ | simp (disch := omega) only [decide_eq_true, decide_eq_false, beq_yes, beq_no, bne_yes, bne_no])
  refine EvC.ret ⟨fun i h => (by cases h), _, rfl, leave_same (by simp) (by simp [enterSt]) ?_⟩
  rfl
 ·repeat (first | refine EvO.T rfl rfl rfl rfl ?_ | refine EvO.L rfl rfl rfl rfl ?_ | refine EvO.N rfl rfl rfl ?_ | refine EvO.offT rfl rfl ?_ | refine EvO.offL rfl rfl ?_ | (refine EvO.nil ?_; try dsimp only [Fr.putO, Fr.put, Fr.clean, Fr.ev, Fr.get, nth, Go.V.look, u1, u2, v1, v2, v3, v4, v5, v6, v7, List.length, u3, u4, Nat.reduceSub, Nat.reduceAdd, List.map]) | refine EvC.seq ?_ | refine EvC.reg ?_ | refine EvC.cond (v := true) rfl (fun _ => ?_) (fun h => by cases h) | refine EvC.cond (v := false) rfl (fun h => by cases h) (fun _ => ?_) | refine EvC.skip ?_ | refine EvC.block ?_ | simp (disch := omega) only [decide_eq_true, decide_eq_false, beq_yes, beq_no, bne_yes, bne_no])
  refine EvC.ret ⟨fun i h => (by cases h), _, rfl, leave_same (by simp) (by simp [enterSt]) ?_⟩
  rfl
 ·repeat (first | refine EvO.T rfl rfl rfl rfl ?_ | refine EvO.L rfl rfl rfl rfl ?_ | refine EvO.N rfl rfl rfl ?_ | refine EvO.offT rfl rfl ?_ | refine EvO.offL rfl rfl ?_ | (refine EvO.nil ?_; try dsimp only [Fr.putO, Fr.put, Fr.clean, Fr.ev, Fr.get, nth, Go.V.look, u1, u2, v1, v2, v3, v4, v5, v6, v7, List.length, u3, u4, Nat.reduceSub, Nat.reduceAdd, List.map]) | refine EvC.seq ?_ | refine EvC.reg ?_ | refine EvC.cond (v := true) rfl (fun _ => ?_) (fun h => by cases h) | refine EvC.cond (v := false) rfl (fun h => by cases h) (fun _ => ?_) | refine EvC.skip ?_ | refine EvC.block ?_ | simp (disch := omega) only [decide_eq_true, decide_eq_false, beq_yes, beq_no, bne_yes, bne_no])
  refine EvC.ret ⟨fun i h => (by cases h), _, rfl, leave_same (by simp) (by simp [enterSt]) ?_⟩
  rfl
 ·repeat (first | refine EvO.T rfl rfl rfl rfl ?_ | refine EvO.L rfl rfl rfl rfl ?_ | refine EvO.N rfl rfl rfl ?_ | refine EvO.offT rfl rfl ?_ | refine EvO.offL rfl rfl ?_ | (refine EvO.nil ?_; try dsimp only [Fr.putO, Fr.put, Fr.clean, Fr.ev, Fr.get, nth, Go.V.look, u1, u2, v1, v2, v3, v4, v5, v6, v7, List.length, u3, u4, Nat.reduceSub, Nat.reduceAdd, List.map]) | refine EvC.seq ?_ | refine EvC.reg ?_ | refine EvC.cond (v := true) rfl (fun _ => ?_) (fun h => by cases h) | refine EvC.cond (v := false) rfl (fun h => by cases h) (fun _ => ?_) | refine EvC.skip ?_ | refine EvC.block ?_ | simp (disch := omega) only [decide_eq_true, decide_eq_false, beq_yes, beq_no, bne_yes, bne_no])
  refine EvC.ret ⟨fun i h => (by cases h), _, rfl, leave_same (by simp) (by simp [enterSt]) ?_⟩
  rfl

def loS (c : Nat) : Nat := if c = 224 then 160 else if c = 237 then 128 else if c = 240 then 144 else 128
def hiS (c : Nat) : Nat := if c = 224 then 191 else if c = 237 then 159 else if c = 240 then 191 else if c = 244 then 143 else 191

theorem second_ev (c d : Nat) (st : St) : Ev pv 86 [.int .u8 c, .int .u8 d] st (.bool (decide (loS c ≤ d ∧ d ≤ hiS c))) st := by
 refine Ev.mk1 rfl fi86 rfl rfl rfl ?_
 dsimp only [List.cons_append, List.nil_append, List.length, Nat.reduceSub, Nat.reduceAdd, List.replicate_succ, List.replicate_zero]
 have key : (c = 224 ∧ loS c = 160 ∧ hiS c = 191) ∨ (c = 237 ∧ loS c = 128 ∧ hiS c = 159) ∨ (c = 240 ∧ loS c = 144 ∧ hiS c = 191) ∨ (c = 244 ∧ loS c = 128 ∧ hiS c = 143) ∨ (c ≠ 224 ∧ c ≠ 237 ∧ c ≠ 240 ∧ c ≠ 244 ∧ loS c = 128 ∧ hiS c = 191) := by
  unfold loS hiS
  split
  ·omega
  split
  ·omega
  split
  ·omega
  split
  ·omega
  ·omega
 have key2 : d < loS c ∨ (loS c ≤ d ∧ hiS c < d) ∨ (loS c ≤ d ∧ d ≤ hiS c) := by omega
 generalize loS c = lo at *
 generalize hiS c = hi at *
 rcases key with ⟨h, rfl, rfl⟩ | ⟨h, rfl, rfl⟩ | ⟨h, rfl, rfl⟩ | ⟨h, rfl, rfl⟩ | ⟨h1, h2, h3, h4, rfl, rfl⟩ <;> rcases key2 with k | ⟨k1, k2⟩ | ⟨k1, k2⟩
 all_goals
  repeat (first | refine EvO.T rfl rfl rfl rfl ?_ | refine EvO.L rfl rfl rfl rfl ?_ | refine EvO.N rfl rfl rfl ?_ | refine EvO.offT rfl rfl ?_ | refine EvO.offL rfl rfl ?_ | (refine EvO.nil ?_; try dsimp only [Fr.putO, Fr.put, Fr.clean, Fr.ev, Fr.get, nth, Go.V.look, u1, u2, v1, v2, v3, v4, v5, v6, v7, List.length, u3, u4, Nat.reduceSub, Nat.reduceAdd, List.map]) | refine EvC.seq ?_ | refine EvC.reg ?_ | refine EvC.cond (v := true) rfl (fun _ => ?_) (fun h => by cases h) | refine EvC.cond (v := false) rfl (fun h => by cases h) (fun _ => ?_) | refine EvC.skip ?_ | refine EvC.block ?_ | simp (disch := omega) only [decide_eq_true, decide_eq_false, beq_yes, beq_no, bne_yes, bne_no])
  refine EvC.ret ⟨fun i h => (by cases h), _, rfl, leave_same (by simp) (by simp [enterSt]) ?_⟩
  simp (disch := omega) only [decide_eq_true, decide_eq_false]
  rfl
end Go.Proofs.YtbdilgkfnacahaaGreat
