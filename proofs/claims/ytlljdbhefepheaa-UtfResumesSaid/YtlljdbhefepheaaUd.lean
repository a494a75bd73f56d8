import Derived.Test.YtlljdbhefepheaaUc
import Derived.Test.YtlljdbhefepheaaLf
namespace Go.Proofs.Ytlljdbhefepheaa
open Go.V Go
set_option maxRecDepth 100000
set_option maxHeartbeats 4000000
set_option linter.unusedSimpArgs false
set_option linter.unusedVariables false

theorem eq_got (g : Nat × Nat) : equalD pv 26 (.agg (gotC g)) (.agg (gotC g)) = some true := by
  have h : ∀ a b a' b' : Int, equalD pv 26 (.agg [.int .i32 a, .int .i64 b]) (.agg [.int .i32 a', .int .i64 b']) = (match some (a == a') with | some true => (match some (b == b') with | some true => some true | some false => some false | none => none) | some false => some false | none => none) := fun _ _ _ _ => rfl
  rw [gotC, h]
  simp

theorem same_got {st : St} {x y : D} {l : List (Nat × Nat)} (hx : V.Rows st 2 x (l.map gotC)) (hy : V.Rows st 2 y (l.map gotC)) (hl : l.length < 4611686018427387904) : Ev pv 11 [x, y] st (.bool true) st := by
  refine Ev.mk1 rfl fi11 rfl rfl rfl ?_
  dsimp only [List.cons_append, List.nil_append, List.length, Nat.reduceSub, Nat.reduceAdd, List.replicate_succ, List.replicate_zero]
  have hx := hx.enter .ro
  have hy := hy.enter .ro
  have hlen : (l.map gotC).length = l.length := List.length_map ..
  try change EvC _ _ _ _ _ _
  repeat refine EvC.seq ?_
  try generalize hK : SeqQ _ _ _ _ = K
  refine EvC.reg ?_
  repeat (first | refine EvO.T rfl rfl rfl rfl ?_ | refine EvO.L rfl rfl rfl rfl ?_ | refine EvO.N rfl rfl rfl ?_ | refine EvO.offT rfl rfl ?_ | refine EvO.offL rfl rfl ?_)
  refine EvO.nil ?_
  dsimp only [Fr.putO, Fr.put, Fr.clean, Fr.ev, Fr.get, nth, Go.V.look, List.set_cons_succ, List.set_cons_zero, ofVal_int, ofVal_bool, ofVal_str, ofVal_nul, ofVal_pnil, ofVal_nilfn, ofVal_nilif, List.length, List.cons_append, List.nil_append, List.append_nil, Nat.reduceSub, Nat.reduceAdd, List.map, List.map_cons, List.map_nil]
  try subst hK
  try change EvC _ _ _ _ _ _
  try change EvC _ _ _ _ _ _
  repeat refine EvC.seq ?_
  try generalize hK : SeqQ _ _ _ _ = K
  refine EvC.reg ?_
  (first | refine EvO.T rfl rfl rfl rfl ?_ | refine EvO.L rfl rfl rfl rfl ?_ | refine EvO.N rfl rfl rfl ?_ | refine EvO.offT rfl rfl ?_ | refine EvO.offL rfl rfl ?_)
  refine EvO.len rfl rfl rfl hx rfl ?_
  (first | refine EvO.T rfl rfl rfl rfl ?_ | refine EvO.L rfl rfl rfl rfl ?_ | refine EvO.N rfl rfl rfl ?_ | refine EvO.offT rfl rfl ?_ | refine EvO.offL rfl rfl ?_)
  refine EvO.len rfl rfl rfl hy rfl ?_
  repeat (first | refine EvO.T rfl rfl rfl rfl ?_ | refine EvO.L rfl rfl rfl rfl ?_ | refine EvO.N rfl rfl rfl ?_ | refine EvO.offT rfl rfl ?_ | refine EvO.offL rfl rfl ?_)
  refine EvO.nil ?_
  dsimp only [Fr.putO, Fr.put, Fr.clean, Fr.ev, Fr.get, nth, Go.V.look, List.set_cons_succ, List.set_cons_zero, ofVal_int, ofVal_bool, ofVal_str, ofVal_nul, ofVal_pnil, ofVal_nilfn, ofVal_nilif, List.length, List.cons_append, List.nil_append, List.append_nil, Nat.reduceSub, Nat.reduceAdd, List.map, List.map_cons, List.map_nil]
  try subst hK
  try change EvC _ _ _ _ _ _
  try change EvC _ _ _ _ _ _
  repeat refine EvC.seq ?_
  refine EvC.cond rfl (fun h1 => ?_) (fun h1 => ?_) <;> try simp only [decide_eq_true_eq, decide_eq_false_iff_not, beq_iff_eq, beq_eq_false_iff_ne, bne_iff_ne, bne_eq_false_iff_eq, ne_eq, Bool.not_eq_true', Bool.not_eq_false', Bool.not_eq_true, Bool.not_eq_false] at h1
  · exact absurd trivial h1
  refine EvC.skip ?_
  try change EvC _ _ _ _ _ _
  try change EvC _ _ _ _ _ _
  repeat refine EvC.seq ?_
  try generalize hK : SeqQ _ _ _ _ = K
  refine EvC.reg ?_
  repeat (first | refine EvO.T rfl rfl rfl rfl ?_ | refine EvO.L rfl rfl rfl rfl ?_ | refine EvO.N rfl rfl rfl ?_ | refine EvO.offT rfl rfl ?_ | refine EvO.offL rfl rfl ?_)
  refine EvO.nil ?_
  dsimp only [Fr.putO, Fr.put, Fr.clean, Fr.ev, Fr.get, nth, Go.V.look, List.set_cons_succ, List.set_cons_zero, ofVal_int, ofVal_bool, ofVal_str, ofVal_nul, ofVal_pnil, ofVal_nilfn, ofVal_nilif, List.length, List.cons_append, List.nil_append, List.append_nil, Nat.reduceSub, Nat.reduceAdd, List.map, List.map_cons, List.map_nil]
  try subst hK
  try change EvC _ _ _ _ _ _
  try change EvC _ _ _ _ _ _
  repeat refine EvC.seq ?_
  refine EvC.block ?_
  refine EvC.loop (fun j fr st' => ∃ i : Nat, fr.clean = ⟨6, [x, y, .tup [], .tup [], .bool false, .int .i64 (i : Nat)], []⟩ ∧ st' = enterSt .ro st ∧ i + j = l.length) l.length ⟨0, rfl, rfl, by omega⟩ ?_
  rintro j fr st' ⟨i, hfr, rfl, hij⟩
  rw [hfr]
  try change EvC _ _ _ _ _ _
  repeat refine EvC.seq ?_
  try generalize hK : SeqQ _ _ _ _ = K
  refine EvC.reg ?_
  (first | refine EvO.T rfl rfl rfl rfl ?_ | refine EvO.L rfl rfl rfl rfl ?_ | refine EvO.N rfl rfl rfl ?_ | refine EvO.offT rfl rfl ?_ | refine EvO.offL rfl rfl ?_)
  (first | refine EvO.T rfl rfl rfl rfl ?_ | refine EvO.L rfl rfl rfl rfl ?_ | refine EvO.N rfl rfl rfl ?_ | refine EvO.offT rfl rfl ?_ | refine EvO.offL rfl rfl ?_)
  refine EvO.len rfl rfl rfl hx rfl ?_
  repeat (first | refine EvO.T rfl rfl rfl rfl ?_ | refine EvO.L rfl rfl rfl rfl ?_ | refine EvO.N rfl rfl rfl ?_ | refine EvO.offT rfl rfl ?_ | refine EvO.offL rfl rfl ?_)
  refine EvO.nil ?_
  dsimp only [Fr.putO, Fr.put, Fr.clean, Fr.ev, Fr.get, nth, Go.V.look, List.set_cons_succ, List.set_cons_zero, ofVal_int, ofVal_bool, ofVal_str, ofVal_nul, ofVal_pnil, ofVal_nilfn, ofVal_nilif, List.length, List.cons_append, List.nil_append, List.append_nil, Nat.reduceSub, Nat.reduceAdd, List.map, List.map_cons, List.map_nil]
  try subst hK
  try change EvC _ _ _ _ _ _
  rw [hlen]
  try change EvC _ _ _ _ _ _
  repeat refine EvC.seq ?_
  refine EvC.cond rfl (fun h2 => ?_) (fun h2 => ?_) <;> try simp only [decide_eq_true_eq, decide_eq_false_iff_not, beq_iff_eq, beq_eq_false_iff_ne, bne_iff_ne, bne_eq_false_iff_eq, ne_eq, Bool.not_eq_true', Bool.not_eq_false', Bool.not_eq_true, Bool.not_eq_false] at h2
  · refine EvC.skip ?_
    try change EvC _ _ _ _ _ _
    obtain ⟨g, hg⟩ : ∃ g, l[i]? = some g := ⟨l[i]'(by omega), List.getElem?_eq_getElem _⟩
    have hr : (l.map gotC)[i]? = some (gotC g) := by rw [List.getElem?_map, hg]; rfl
    try change EvC _ _ _ _ _ _
    repeat refine EvC.seq ?_
    refine EvC.block ?_
    try change EvC _ _ _ _ _ _
    repeat refine EvC.seq ?_
    try generalize hK : SeqQ _ _ _ _ = K
    refine EvC.reg ?_
    (first | refine EvO.T rfl rfl rfl rfl ?_ | refine EvO.L rfl rfl rfl rfl ?_ | refine EvO.N rfl rfl rfl ?_ | refine EvO.offT rfl rfl ?_ | refine EvO.offL rfl rfl ?_)
    (first | refine EvO.T rfl rfl rfl rfl ?_ | refine EvO.L rfl rfl rfl rfl ?_ | refine EvO.N rfl rfl rfl ?_ | refine EvO.offT rfl rfl ?_ | refine EvO.offL rfl rfl ?_)
    refine EvO.idxLoad rfl rfl rfl (fun _ => rfl) rfl rfl hx rfl rfl (by omega) hr (d := .agg (gotC g)) rfl (fun p => ?_)
    (first | refine EvO.T rfl rfl rfl rfl ?_ | refine EvO.L rfl rfl rfl rfl ?_ | refine EvO.N rfl rfl rfl ?_ | refine EvO.offT rfl rfl ?_ | refine EvO.offL rfl rfl ?_)
    (first | refine EvO.T rfl rfl rfl rfl ?_ | refine EvO.L rfl rfl rfl rfl ?_ | refine EvO.N rfl rfl rfl ?_ | refine EvO.offT rfl rfl ?_ | refine EvO.offL rfl rfl ?_)
    refine EvO.idxLoad rfl rfl rfl (fun _ => rfl) rfl rfl hy rfl rfl (by omega) hr (d := .agg (gotC g)) rfl (fun p => ?_)
    refine EvO.T rfl rfl rfl (d := .bool false) (st1 := enterSt .ro st) ?_ ?_
    · show Option.map _ (Option.map _ (equalD pv 26 (.agg (gotC g)) (.agg (gotC g)))) = _
      rw [eq_got]; rfl
    refine EvO.nil ?_
    dsimp only [Fr.putO, Fr.put, Fr.clean, Fr.ev, Fr.get, nth, Go.V.look, List.set_cons_succ, List.set_cons_zero, ofVal_int, ofVal_bool, ofVal_str, ofVal_nul, ofVal_pnil, ofVal_nilfn, ofVal_nilif, List.length, List.cons_append, List.nil_append, List.append_nil, Nat.reduceSub, Nat.reduceAdd, List.map, List.map_cons, List.map_nil]
    try subst hK
    try change EvC _ _ _ _ _ _
    try change EvC _ _ _ _ _ _
    repeat refine EvC.seq ?_
    refine EvC.cond rfl (fun h3 => ?_) (fun h3 => ?_) <;> try simp only [decide_eq_true_eq, decide_eq_false_iff_not, beq_iff_eq, beq_eq_false_iff_ne, bne_iff_ne, bne_eq_false_iff_eq, ne_eq, Bool.not_eq_true', Bool.not_eq_false', Bool.not_eq_true, Bool.not_eq_false] at h3
    · cases h3
    refine EvC.skip ?_
    try change EvC _ _ _ _ _ _
    try change EvC _ _ _ _ _ _
    repeat refine EvC.seq ?_
    try generalize hK : SeqQ _ _ _ _ = K
    refine EvC.reg ?_
    repeat (first | refine EvO.T rfl rfl rfl rfl ?_ | refine EvO.L rfl rfl rfl rfl ?_ | refine EvO.N rfl rfl rfl ?_ | refine EvO.offT rfl rfl ?_ | refine EvO.offL rfl rfl ?_)
    refine EvO.nil ?_
    dsimp only [Fr.putO, Fr.put, Fr.clean, Fr.ev, Fr.get, nth, Go.V.look, List.set_cons_succ, List.set_cons_zero, ofVal_int, ofVal_bool, ofVal_str, ofVal_nul, ofVal_pnil, ofVal_nilfn, ofVal_nilif, List.length, List.cons_append, List.nil_append, List.append_nil, Nat.reduceSub, Nat.reduceAdd, List.map, List.map_cons, List.map_nil]
    try subst hK
    try change EvC _ _ _ _ _ _
    rw [wrap_i64 (by omega) (by omega)]
    exact ⟨j - 1, by omega, i + 1, rfl, rfl, by omega⟩
  · refine EvC.exit ?_
    try change EvC _ _ _ _ _ _
    repeat refine EvC.seq ?_
    try generalize hK : SeqQ _ _ _ _ = K
    refine EvC.reg ?_
    repeat (first | refine EvO.T rfl rfl rfl rfl ?_ | refine EvO.L rfl rfl rfl rfl ?_ | refine EvO.N rfl rfl rfl ?_ | refine EvO.offT rfl rfl ?_ | refine EvO.offL rfl rfl ?_)
    refine EvO.nil ?_
    dsimp only [Fr.putO, Fr.put, Fr.clean, Fr.ev, Fr.get, nth, Go.V.look, List.set_cons_succ, List.set_cons_zero, ofVal_int, ofVal_bool, ofVal_str, ofVal_nul, ofVal_pnil, ofVal_nilfn, ofVal_nilif, List.length, List.cons_append, List.nil_append, List.append_nil, Nat.reduceSub, Nat.reduceAdd, List.map, List.map_cons, List.map_nil]
    try subst hK
    try change EvC _ _ _ _ _ _
    refine EvC.ret ⟨fun i h => (by cases h), _, rfl, leave_same (by simp) (by simp [enterSt]) ?_⟩
    rfl
theorem same_byte {st : St} {x y : D} {l : List UInt8} (hx : Bytes st x l) (hy : Bytes st y l) (hl : l.length < 4611686018427387904) : Ev pv 14 [x, y] st (.bool true) st := by
  refine Ev.mk1 rfl fi14 rfl rfl rfl ?_
  dsimp only [List.cons_append, List.nil_append, List.length, Nat.reduceSub, Nat.reduceAdd, List.replicate_succ, List.replicate_zero]
  have hx := hx.enter .ro
  have hy := hy.enter .ro
  have hlen : (byteCells l).length = l.length := byteCells_len l
  try change EvC _ _ _ _ _ _
  repeat refine EvC.seq ?_
  try generalize hK : SeqQ _ _ _ _ = K
  refine EvC.reg ?_
  repeat (first | refine EvO.T rfl rfl rfl rfl ?_ | refine EvO.L rfl rfl rfl rfl ?_ | refine EvO.N rfl rfl rfl ?_ | refine EvO.offT rfl rfl ?_ | refine EvO.offL rfl rfl ?_)
  refine EvO.nil ?_
  dsimp only [Fr.putO, Fr.put, Fr.clean, Fr.ev, Fr.get, nth, Go.V.look, List.set_cons_succ, List.set_cons_zero, ofVal_int, ofVal_bool, ofVal_str, ofVal_nul, ofVal_pnil, ofVal_nilfn, ofVal_nilif, List.length, List.cons_append, List.nil_append, List.append_nil, Nat.reduceSub, Nat.reduceAdd, List.map, List.map_cons, List.map_nil]
  try subst hK
  try change EvC _ _ _ _ _ _
  try change EvC _ _ _ _ _ _
  repeat refine EvC.seq ?_
  try generalize hK : SeqQ _ _ _ _ = K
  refine EvC.reg ?_
  (first | refine EvO.T rfl rfl rfl rfl ?_ | refine EvO.L rfl rfl rfl rfl ?_ | refine EvO.N rfl rfl rfl ?_ | refine EvO.offT rfl rfl ?_ | refine EvO.offL rfl rfl ?_)
  refine EvO.len rfl rfl rfl hx rfl ?_
  (first | refine EvO.T rfl rfl rfl rfl ?_ | refine EvO.L rfl rfl rfl rfl ?_ | refine EvO.N rfl rfl rfl ?_ | refine EvO.offT rfl rfl ?_ | refine EvO.offL rfl rfl ?_)
  refine EvO.len rfl rfl rfl hy rfl ?_
  repeat (first | refine EvO.T rfl rfl rfl rfl ?_ | refine EvO.L rfl rfl rfl rfl ?_ | refine EvO.N rfl rfl rfl ?_ | refine EvO.offT rfl rfl ?_ | refine EvO.offL rfl rfl ?_)
  refine EvO.nil ?_
  dsimp only [Fr.putO, Fr.put, Fr.clean, Fr.ev, Fr.get, nth, Go.V.look, List.set_cons_succ, List.set_cons_zero, ofVal_int, ofVal_bool, ofVal_str, ofVal_nul, ofVal_pnil, ofVal_nilfn, ofVal_nilif, List.length, List.cons_append, List.nil_append, List.append_nil, Nat.reduceSub, Nat.reduceAdd, List.map, List.map_cons, List.map_nil]
  try subst hK
  try change EvC _ _ _ _ _ _
  try change EvC _ _ _ _ _ _
  repeat refine EvC.seq ?_
  refine EvC.cond rfl (fun h1 => ?_) (fun h1 => ?_) <;> try simp only [decide_eq_true_eq, decide_eq_false_iff_not, beq_iff_eq, beq_eq_false_iff_ne, bne_iff_ne, bne_eq_false_iff_eq, ne_eq, Bool.not_eq_true', Bool.not_eq_false', Bool.not_eq_true, Bool.not_eq_false] at h1
  · exact absurd trivial h1
  refine EvC.skip ?_
  try change EvC _ _ _ _ _ _
  try change EvC _ _ _ _ _ _
  repeat refine EvC.seq ?_
  try generalize hK : SeqQ _ _ _ _ = K
  refine EvC.reg ?_
  repeat (first | refine EvO.T rfl rfl rfl rfl ?_ | refine EvO.L rfl rfl rfl rfl ?_ | refine EvO.N rfl rfl rfl ?_ | refine EvO.offT rfl rfl ?_ | refine EvO.offL rfl rfl ?_)
  refine EvO.nil ?_
  dsimp only [Fr.putO, Fr.put, Fr.clean, Fr.ev, Fr.get, nth, Go.V.look, List.set_cons_succ, List.set_cons_zero, ofVal_int, ofVal_bool, ofVal_str, ofVal_nul, ofVal_pnil, ofVal_nilfn, ofVal_nilif, List.length, List.cons_append, List.nil_append, List.append_nil, Nat.reduceSub, Nat.reduceAdd, List.map, List.map_cons, List.map_nil]
  try subst hK
  try change EvC _ _ _ _ _ _
  try change EvC _ _ _ _ _ _
  repeat refine EvC.seq ?_
  refine EvC.block ?_
  refine EvC.loop (fun j fr st' => ∃ i : Nat, fr.clean = ⟨6, [x, y, .tup [], .tup [], .bool false, .int .i64 (i : Nat)], []⟩ ∧ st' = enterSt .ro st ∧ i + j = l.length) l.length ⟨0, rfl, rfl, by omega⟩ ?_
  rintro j fr st' ⟨i, hfr, rfl, hij⟩
  rw [hfr]
  try change EvC _ _ _ _ _ _
  repeat refine EvC.seq ?_
  try generalize hK : SeqQ _ _ _ _ = K
  refine EvC.reg ?_
  (first | refine EvO.T rfl rfl rfl rfl ?_ | refine EvO.L rfl rfl rfl rfl ?_ | refine EvO.N rfl rfl rfl ?_ | refine EvO.offT rfl rfl ?_ | refine EvO.offL rfl rfl ?_)
  (first | refine EvO.T rfl rfl rfl rfl ?_ | refine EvO.L rfl rfl rfl rfl ?_ | refine EvO.N rfl rfl rfl ?_ | refine EvO.offT rfl rfl ?_ | refine EvO.offL rfl rfl ?_)
  refine EvO.len rfl rfl rfl hx rfl ?_
  repeat (first | refine EvO.T rfl rfl rfl rfl ?_ | refine EvO.L rfl rfl rfl rfl ?_ | refine EvO.N rfl rfl rfl ?_ | refine EvO.offT rfl rfl ?_ | refine EvO.offL rfl rfl ?_)
  refine EvO.nil ?_
  dsimp only [Fr.putO, Fr.put, Fr.clean, Fr.ev, Fr.get, nth, Go.V.look, List.set_cons_succ, List.set_cons_zero, ofVal_int, ofVal_bool, ofVal_str, ofVal_nul, ofVal_pnil, ofVal_nilfn, ofVal_nilif, List.length, List.cons_append, List.nil_append, List.append_nil, Nat.reduceSub, Nat.reduceAdd, List.map, List.map_cons, List.map_nil]
  try subst hK
  try change EvC _ _ _ _ _ _
  rw [hlen]
  try change EvC _ _ _ _ _ _
  repeat refine EvC.seq ?_
  refine EvC.cond rfl (fun h2 => ?_) (fun h2 => ?_) <;> try simp only [decide_eq_true_eq, decide_eq_false_iff_not, beq_iff_eq, beq_eq_false_iff_ne, bne_iff_ne, bne_eq_false_iff_eq, ne_eq, Bool.not_eq_true', Bool.not_eq_false', Bool.not_eq_true, Bool.not_eq_false] at h2
  · refine EvC.skip ?_
    try change EvC _ _ _ _ _ _
    obtain ⟨g, hg⟩ : ∃ g, l[i]? = some g := ⟨l[i]'(by omega), List.getElem?_eq_getElem _⟩
    have hr := byteCells_get hg
    try change EvC _ _ _ _ _ _
    repeat refine EvC.seq ?_
    refine EvC.block ?_
    try change EvC _ _ _ _ _ _
    repeat refine EvC.seq ?_
    try generalize hK : SeqQ _ _ _ _ = K
    refine EvC.reg ?_
    (first | refine EvO.T rfl rfl rfl rfl ?_ | refine EvO.L rfl rfl rfl rfl ?_ | refine EvO.N rfl rfl rfl ?_ | refine EvO.offT rfl rfl ?_ | refine EvO.offL rfl rfl ?_)
    (first | refine EvO.T rfl rfl rfl rfl ?_ | refine EvO.L rfl rfl rfl rfl ?_ | refine EvO.N rfl rfl rfl ?_ | refine EvO.offT rfl rfl ?_ | refine EvO.offL rfl rfl ?_)
    refine EvO.idxLoad rfl rfl rfl (fun _ => rfl) rfl rfl hx rfl rfl (by omega) hr rfl (fun p => ?_)
    (first | refine EvO.T rfl rfl rfl rfl ?_ | refine EvO.L rfl rfl rfl rfl ?_ | refine EvO.N rfl rfl rfl ?_ | refine EvO.offT rfl rfl ?_ | refine EvO.offL rfl rfl ?_)
    (first | refine EvO.T rfl rfl rfl rfl ?_ | refine EvO.L rfl rfl rfl rfl ?_ | refine EvO.N rfl rfl rfl ?_ | refine EvO.offT rfl rfl ?_ | refine EvO.offL rfl rfl ?_)
    refine EvO.idxLoad rfl rfl rfl (fun _ => rfl) rfl rfl hy rfl rfl (by omega) hr rfl (fun p => ?_)
    repeat (first | refine EvO.T rfl rfl rfl rfl ?_ | refine EvO.L rfl rfl rfl rfl ?_ | refine EvO.N rfl rfl rfl ?_ | refine EvO.offT rfl rfl ?_ | refine EvO.offL rfl rfl ?_)
    refine EvO.nil ?_
    dsimp only [Fr.putO, Fr.put, Fr.clean, Fr.ev, Fr.get, nth, Go.V.look, List.set_cons_succ, List.set_cons_zero, ofVal_int, ofVal_bool, ofVal_str, ofVal_nul, ofVal_pnil, ofVal_nilfn, ofVal_nilif, List.length, List.cons_append, List.nil_append, List.append_nil, Nat.reduceSub, Nat.reduceAdd, List.map, List.map_cons, List.map_nil]
    try subst hK
    try change EvC _ _ _ _ _ _
    try change EvC _ _ _ _ _ _
    repeat refine EvC.seq ?_
    refine EvC.cond rfl (fun h3 => ?_) (fun h3 => ?_) <;> try simp only [decide_eq_true_eq, decide_eq_false_iff_not, beq_iff_eq, beq_eq_false_iff_ne, bne_iff_ne, bne_eq_false_iff_eq, ne_eq, Bool.not_eq_true', Bool.not_eq_false', Bool.not_eq_true, Bool.not_eq_false] at h3
    · exact absurd trivial h3
    refine EvC.skip ?_
    try change EvC _ _ _ _ _ _
    try change EvC _ _ _ _ _ _
    repeat refine EvC.seq ?_
    try generalize hK : SeqQ _ _ _ _ = K
    refine EvC.reg ?_
    repeat (first | refine EvO.T rfl rfl rfl rfl ?_ | refine EvO.L rfl rfl rfl rfl ?_ | refine EvO.N rfl rfl rfl ?_ | refine EvO.offT rfl rfl ?_ | refine EvO.offL rfl rfl ?_)
    refine EvO.nil ?_
    dsimp only [Fr.putO, Fr.put, Fr.clean, Fr.ev, Fr.get, nth, Go.V.look, List.set_cons_succ, List.set_cons_zero, ofVal_int, ofVal_bool, ofVal_str, ofVal_nul, ofVal_pnil, ofVal_nilfn, ofVal_nilif, List.length, List.cons_append, List.nil_append, List.append_nil, Nat.reduceSub, Nat.reduceAdd, List.map, List.map_cons, List.map_nil]
    try subst hK
    try change EvC _ _ _ _ _ _
    rw [wrap_i64 (by omega) (by omega)]
    exact ⟨j - 1, by omega, i + 1, rfl, rfl, by omega⟩
  · refine EvC.exit ?_
    try change EvC _ _ _ _ _ _
    repeat refine EvC.seq ?_
    try generalize hK : SeqQ _ _ _ _ = K
    refine EvC.reg ?_
    repeat (first | refine EvO.T rfl rfl rfl rfl ?_ | refine EvO.L rfl rfl rfl rfl ?_ | refine EvO.N rfl rfl rfl ?_ | refine EvO.offT rfl rfl ?_ | refine EvO.offL rfl rfl ?_)
    refine EvO.nil ?_
    dsimp only [Fr.putO, Fr.put, Fr.clean, Fr.ev, Fr.get, nth, Go.V.look, List.set_cons_succ, List.set_cons_zero, ofVal_int, ofVal_bool, ofVal_str, ofVal_nul, ofVal_pnil, ofVal_nilfn, ofVal_nilif, List.length, List.cons_append, List.nil_append, List.append_nil, Nat.reduceSub, Nat.reduceAdd, List.map, List.map_cons, List.map_nil]
    try subst hK
    try change EvC _ _ _ _ _ _
    refine EvC.ret ⟨fun i h => (by cases h), _, rfl, leave_same (by simp) (by simp [enterSt]) ?_⟩
    rfl

def bytesV (b : List UInt8) : D := .sl ((byteCells b).map (elD 1))
theorem byteCells_one (b : List UInt8) : ∀ e ∈ byteCells b, e.length = 1 := by
  intro e he; obtain ⟨y, _, rfl⟩ := List.mem_map.1 he; rfl
theorem byteCells_plain (b : List UInt8) : ∀ e ∈ byteCells b, ∀ d ∈ e, plainC d = true := by
  intro e he d hd; obtain ⟨y, _, rfl⟩ := List.mem_map.1 he
  simp only [List.mem_cons, List.not_mem_nil, or_false] at hd
  subst hd; rfl
theorem bytesV_ok (st : St) (b : List UInt8) : Bytes st (bytesV b) b := Rows.ofFrozen (byteCells_one b) (byteCells_plain b)

def u8D (y : UInt8) : D := .int .u8 (y.toNat : Nat)
theorem byteCells_flat (b : List UInt8) : (byteCells b).flatten = b.map u8D := by
  induction b with
  | nil => rfl
  | cons y b ih => simp only [byteCells, List.map_cons, List.flatten_cons] at ih ⊢; rw [ih]; rfl

/-- a window on bytes -/
theorem bytes_win {st : St} {k ver : Nat} {ar : Bool} {b : List UInt8} (hm : st.bs[k]? = some (.mem ver ar (b.map u8D))) : Bytes st (.win k ver 0 b.length 1) b := by
  have := Rows.win (st := st) (s := 1) k ver 0 (byteCells b) ar (b.map u8D) (St.mem_of hm) (by simp [byteCells]) fun i e hi => by
    rw [← byteCells_flat, Nat.zero_add]; exact flat_at (byteCells_one b) i e hi
  rwa [byteCells_len] at this

theorem freeze_bytes {N : Nat} {st : St} {k ver : Nat} {b : List UInt8} (hN : N ≤ k) (hm : st.bs[k]? = some (.mem ver true (b.map u8D))) : freezeD st N false 16 (.win k ver 0 b.length 1) = some (bytesV b) := by
  have := (Acc.win (N := N) (st := st) (s := 1) k ver (byteCells b) hN (by rw [byteCells_flat]; exact hm) (byteCells_one b)).freeze (byteCells_plain b) (n := 15) (by decide)
  rwa [byteCells_len] at this

theorem roomy_ev {st : St} {x : D} {b : List UInt8} {m : UInt8} (hb : Bytes st x b) (hlen : b.length ≤ 1048576) : Ev pv 17 [x, .int .u8 (m.toNat : Nat)] st (bytesV (b ++ List.replicate 80 m)) st := by
  refine Ev.mk1 rfl fi17 rfl rfl rfl ?_
  dsimp only [List.cons_append, List.nil_append, List.length, Nat.reduceSub, Nat.reduceAdd, List.replicate_succ, List.replicate_zero]
  have hx := hb.ref
  have hb1 := hb.enter .ro
  try change EvC _ _ _ _ _ _
  repeat refine EvC.seq ?_
  try generalize hK : SeqQ _ _ _ _ = K
  refine EvC.reg ?_
  repeat (first | refine EvO.T rfl rfl rfl rfl ?_ | refine EvO.L rfl rfl rfl rfl ?_ | refine EvO.N rfl rfl rfl ?_ | refine EvO.offT rfl rfl ?_ | refine EvO.offL rfl rfl ?_)
  refine EvO.nil ?_
  dsimp only [Fr.putO, Fr.put, Fr.clean, Fr.ev, Fr.get, nth, Go.V.look, List.set_cons_succ, List.set_cons_zero, ofVal_int, ofVal_bool, ofVal_str, ofVal_nul, ofVal_pnil, ofVal_nilfn, ofVal_nilif, List.length, List.cons_append, List.nil_append, List.append_nil, Nat.reduceSub, Nat.reduceAdd, List.map, List.map_cons, List.map_nil]
  try subst hK
  try change EvC _ _ _ _ _ _
  try change EvC _ _ _ _ _ _
  repeat refine EvC.seq ?_
  try generalize hK : SeqQ _ _ _ _ = K
  refine EvC.reg ?_
  (first | refine EvO.T rfl rfl rfl rfl ?_ | refine EvO.L rfl rfl rfl rfl ?_ | refine EvO.N rfl rfl rfl ?_ | refine EvO.offT rfl rfl ?_ | refine EvO.offL rfl rfl ?_)
  refine EvO.len rfl rfl rfl hb1 rfl ?_
  (first | refine EvO.T rfl rfl rfl rfl ?_ | refine EvO.L rfl rfl rfl rfl ?_ | refine EvO.N rfl rfl rfl ?_ | refine EvO.offT rfl rfl ?_ | refine EvO.offL rfl rfl ?_)
  rw [show wrapD .i64 (((byteCells b).length : Nat) + 80 : Int) = ((b.length + 80 : Nat) : Int) by rw [byteCells_len, wrap_i64 (by omega) (by omega)]; rfl]
  refine EvO.makeSlice rfl rfl rfl rfl rfl rfl rfl rfl (by show (b.length + 80) * 1 ≤ _; omega) (by omega) ?_
  repeat (first | refine EvO.T rfl rfl rfl rfl ?_ | refine EvO.L rfl rfl rfl rfl ?_ | refine EvO.N rfl rfl rfl ?_ | refine EvO.offT rfl rfl ?_ | refine EvO.offL rfl rfl ?_)
  refine EvO.nil ?_
  dsimp only [Fr.putO, Fr.put, Fr.clean, Fr.ev, Fr.get, nth, Go.V.look, List.set_cons_succ, List.set_cons_zero, ofVal_int, ofVal_bool, ofVal_str, ofVal_nul, ofVal_pnil, ofVal_nilfn, ofVal_nilif, List.length, List.cons_append, List.nil_append, List.append_nil, Nat.reduceSub, Nat.reduceAdd, List.map, List.map_cons, List.map_nil]
  try subst hK
  try change EvC _ _ _ _ _ _
  have hex0 : Ex st.bs.length (enterSt .ro st) ((enterSt .ro st).push (.mem 0 true (repl (b.length + 80) [ofVal (.int .u8 0)]))) := Ex.push (st := enterSt .ro st) (Nat.le_refl _) _
  have hb2 := Rows.ex hex0 hb1 hx
  try change EvC _ _ _ _ _ _
  repeat refine EvC.seq ?_
  try generalize hK : SeqQ _ _ _ _ = K
  refine EvC.reg ?_
  (first | refine EvO.T rfl rfl rfl rfl ?_ | refine EvO.L rfl rfl rfl rfl ?_ | refine EvO.N rfl rfl rfl ?_ | refine EvO.offT rfl rfl ?_ | refine EvO.offL rfl rfl ?_)
  (first | refine EvO.T rfl rfl rfl rfl ?_ | refine EvO.L rfl rfl rfl rfl ?_ | refine EvO.N rfl rfl rfl ?_ | refine EvO.offT rfl rfl ?_ | refine EvO.offL rfl rfl ?_)
  refine EvO.copy (k := st.bs.length) (ver := 0) (off := 0) (len := b.length + 80) (s := 1) (ys := byteCells b) (ar := true) (c := repl (b.length + 80) [.int .u8 0]) rfl rfl rfl rfl hb2 rfl rfl (push_at (enterSt .ro st) _) (by rw [repl_one]; simp) (canW_own (N := st.bs.length) (Nat.le_refl _) (Nat.le_refl _) (Nat.le_refl _)) ?_
  repeat (first | refine EvO.T rfl rfl rfl rfl ?_ | refine EvO.L rfl rfl rfl rfl ?_ | refine EvO.N rfl rfl rfl ?_ | refine EvO.offT rfl rfl ?_ | refine EvO.offL rfl rfl ?_)
  refine EvO.nil ?_
  dsimp only [Fr.putO, Fr.put, Fr.clean, Fr.ev, Fr.get, nth, Go.V.look, List.set_cons_succ, List.set_cons_zero, ofVal_int, ofVal_bool, ofVal_str, ofVal_nul, ofVal_pnil, ofVal_nilfn, ofVal_nilif, List.length, List.cons_append, List.nil_append, List.append_nil, Nat.reduceSub, Nat.reduceAdd, List.map, List.map_cons, List.map_nil]
  try subst hK
  try change EvC _ _ _ _ _ _
  rw [push_set (st := enterSt .ro st) (k := st.bs.length) rfl]
  have hc0 : (repl (b.length + 80) [D.int .u8 0]).take 0 ++ (byteCells b).flatten.take (min (byteCells b).length (b.length + 80) * 1) ++ (repl (b.length + 80) [D.int .u8 0]).drop (0 + min (byteCells b).length (b.length + 80) * 1) = (b ++ List.replicate 80 0).map u8D := by
    have h1 : min (byteCells b).length (b.length + 80) * 1 = b.length := by rw [byteCells_len]; omega
    have h2 : (b.map u8D).length = b.length := List.length_map ..
    rw [h1, byteCells_flat, repl_one, List.take_zero, List.nil_append, Nat.zero_add, List.drop_replicate, List.map_append]
    congr 1
    · rw [← h2, List.take_length]
    · rw [List.map_replicate]; congr 1; omega
  rw [hc0]
  generalize hS : (enterSt .ro st).push (.mem 0 true ((b ++ List.replicate 80 0).map u8D)) = st1
  have hb3 : V.Rows st1 1 x (byteCells b) := by subst hS; exact hb1.ex (N := st.bs.length) (Ex.push (st := enterSt .ro st) (Nat.le_refl _) _) hx
  try change EvC _ _ _ _ _ _
  repeat refine EvC.seq ?_
  try generalize hK : SeqQ _ _ _ _ = K
  refine EvC.reg ?_
  (first | refine EvO.T rfl rfl rfl rfl ?_ | refine EvO.L rfl rfl rfl rfl ?_ | refine EvO.N rfl rfl rfl ?_ | refine EvO.offT rfl rfl ?_ | refine EvO.offL rfl rfl ?_)
  refine EvO.len rfl rfl rfl hb3 rfl ?_
  repeat (first | refine EvO.T rfl rfl rfl rfl ?_ | refine EvO.L rfl rfl rfl rfl ?_ | refine EvO.N rfl rfl rfl ?_ | refine EvO.offT rfl rfl ?_ | refine EvO.offL rfl rfl ?_)
  refine EvO.nil ?_
  dsimp only [Fr.putO, Fr.put, Fr.clean, Fr.ev, Fr.get, nth, Go.V.look, List.set_cons_succ, List.set_cons_zero, ofVal_int, ofVal_bool, ofVal_str, ofVal_nul, ofVal_pnil, ofVal_nilfn, ofVal_nilif, List.length, List.cons_append, List.nil_append, List.append_nil, Nat.reduceSub, Nat.reduceAdd, List.map, List.map_cons, List.map_nil]
  try subst hK
  try change EvC _ _ _ _ _ _
  rw [byteCells_len]
  try change EvC _ _ _ _ _ _
  repeat refine EvC.seq ?_
  refine EvC.block ?_
  refine EvC.loop (fun j fr st' => ∃ i : Nat, fr.clean = ⟨7, [x, .int .u8 (m.toNat : Nat), .tup [], .tup [], .nul, .win st.bs.length 0 0 (b.length + 80) 1, .int .i64 ((b.length + i : Nat) : Int)], []⟩ ∧ st' = (enterSt .ro st).push (.mem 0 true ((b ++ (List.replicate i m ++ List.replicate j 0)).map u8D)) ∧ i + j = 80) 80 ⟨0, rfl, hS.symm, by omega⟩ ?_
  rintro j fr st' ⟨i, hfr, rfl, hij⟩
  rw [hfr]
  have hbl : (b ++ (List.replicate i m ++ List.replicate j 0)).length = b.length + 80 := by simp; omega
  have hwin : ∀ (st : St) (j : Nat), i + j = 80 → Bytes ((enterSt .ro st).push (.mem 0 true ((b ++ (List.replicate i m ++ List.replicate j 0)).map u8D))) (.win st.bs.length 0 0 (b.length + 80) 1) (b ++ (List.replicate i m ++ List.replicate j 0)) := by
    intro st j hij
    have := bytes_win (st := (enterSt .ro st).push (.mem 0 true ((b ++ (List.replicate i m ++ List.replicate j 0)).map u8D))) (k := st.bs.length) (ver := 0) (ar := true) (b := b ++ (List.replicate i m ++ List.replicate j 0)) (push_at (enterSt .ro st) _)
    have e : (b ++ (List.replicate i m ++ List.replicate j 0)).length = b.length + 80 := by simp; omega
    rwa [e] at this
  try change EvC _ _ _ _ _ _
  repeat refine EvC.seq ?_
  try generalize hK : SeqQ _ _ _ _ = K
  refine EvC.reg ?_
  (first | refine EvO.T rfl rfl rfl rfl ?_ | refine EvO.L rfl rfl rfl rfl ?_ | refine EvO.N rfl rfl rfl ?_ | refine EvO.offT rfl rfl ?_ | refine EvO.offL rfl rfl ?_)
  (first | refine EvO.T rfl rfl rfl rfl ?_ | refine EvO.L rfl rfl rfl rfl ?_ | refine EvO.N rfl rfl rfl ?_ | refine EvO.offT rfl rfl ?_ | refine EvO.offL rfl rfl ?_)
  refine EvO.len rfl rfl rfl (hwin st j hij) rfl ?_
  repeat (first | refine EvO.T rfl rfl rfl rfl ?_ | refine EvO.L rfl rfl rfl rfl ?_ | refine EvO.N rfl rfl rfl ?_ | refine EvO.offT rfl rfl ?_ | refine EvO.offL rfl rfl ?_)
  refine EvO.nil ?_
  dsimp only [Fr.putO, Fr.put, Fr.clean, Fr.ev, Fr.get, nth, Go.V.look, List.set_cons_succ, List.set_cons_zero, ofVal_int, ofVal_bool, ofVal_str, ofVal_nul, ofVal_pnil, ofVal_nilfn, ofVal_nilif, List.length, List.cons_append, List.nil_append, List.append_nil, Nat.reduceSub, Nat.reduceAdd, List.map, List.map_cons, List.map_nil]
  try subst hK
  try change EvC _ _ _ _ _ _
  rw [byteCells_len, hbl]
  try change EvC _ _ _ _ _ _
  repeat refine EvC.seq ?_
  refine EvC.cond rfl (fun h1 => ?_) (fun h1 => ?_) <;> try simp only [decide_eq_true_eq, decide_eq_false_iff_not, beq_iff_eq, beq_eq_false_iff_ne, bne_iff_ne, bne_eq_false_iff_eq, ne_eq, Bool.not_eq_true', Bool.not_eq_false', Bool.not_eq_true, Bool.not_eq_false] at h1
  · refine EvC.skip ?_
    try change EvC _ _ _ _ _ _
    try change EvC _ _ _ _ _ _
    repeat refine EvC.seq ?_
    refine EvC.block ?_
    obtain ⟨j, rfl⟩ : ∃ j', j = j' + 1 := ⟨j - 1, by omega⟩
    try change EvC _ _ _ _ _ _
    repeat refine EvC.seq ?_
    try generalize hK : SeqQ _ _ _ _ = K
    refine EvC.reg ?_
    (first | refine EvO.T rfl rfl rfl rfl ?_ | refine EvO.L rfl rfl rfl rfl ?_ | refine EvO.N rfl rfl rfl ?_ | refine EvO.offT rfl rfl ?_ | refine EvO.offL rfl rfl ?_)
    (first | refine EvO.T rfl rfl rfl rfl ?_ | refine EvO.L rfl rfl rfl rfl ?_ | refine EvO.N rfl rfl rfl ?_ | refine EvO.offT rfl rfl ?_ | refine EvO.offL rfl rfl ?_)
    (first | refine EvO.T rfl rfl rfl rfl ?_ | refine EvO.L rfl rfl rfl rfl ?_ | refine EvO.N rfl rfl rfl ?_ | refine EvO.offT rfl rfl ?_ | refine EvO.offL rfl rfl ?_)
    refine EvO.idxStore (kk := .i64) (i := ((b.length + i : Nat) : Int)) (k := st.bs.length) (ver := 0) (off := 0) (len := b.length + 80) (s := 1) (v := .int .u8 (m.toNat : Nat)) (cs := [u8D m]) (ar := true) (c := (b ++ (List.replicate i m ++ List.replicate (j + 1) 0)).map u8D) rfl rfl rfl rfl rfl rfl rfl rfl rfl rfl (by omega) (by omega) (push_at (enterSt .ro st) _) (by rw [List.length_map, hbl]; omega) (canW_own (N := st.bs.length) (Nat.le_refl _) (Nat.le_refl _) (Nat.le_refl _)) ?_
    refine EvO.nil ?_
    dsimp only [Fr.putO, Fr.put, Fr.clean, Fr.ev, Fr.get, nth, Go.V.look, List.set_cons_succ, List.set_cons_zero, ofVal_int, ofVal_bool, ofVal_str, ofVal_nul, ofVal_pnil, ofVal_nilfn, ofVal_nilif, List.length, List.cons_append, List.nil_append, List.append_nil, Nat.reduceSub, Nat.reduceAdd, List.map, List.map_cons, List.map_nil]
    try subst hK
    try change EvC _ _ _ _ _ _
    rw [push_set (st := enterSt .ro st) (k := st.bs.length) rfl]
    have hc1 : ((b ++ (List.replicate i m ++ List.replicate (j + 1) 0)).map u8D).take (0 + ((b.length + i : Nat) : Int).toNat * 1) ++ [u8D m] ++ ((b ++ (List.replicate i m ++ List.replicate (j + 1) 0)).map u8D).drop (0 + ((b.length + i : Nat) : Int).toNat * 1 + 1) = (b ++ (List.replicate (i + 1) m ++ List.replicate j 0)).map u8D := by
      have e : 0 + ((b.length + i : Nat) : Int).toNat * 1 = (b ++ List.replicate i m).length := by rw [List.length_append, List.length_replicate]; omega
      rw [e, ← List.append_assoc, List.replicate_succ (n := j), List.map_append, List.map_cons]
      have e2 : (b ++ List.replicate i m).length = ((b ++ List.replicate i m).map u8D).length := by rw [List.length_map]
      rw [e2, List.take_left, ← List.drop_drop, List.drop_left, List.drop_succ_cons, List.drop_zero]
      rw [List.replicate_succ']
      simp [List.map_append]
    rw [hc1]
    try change EvC _ _ _ _ _ _
    repeat refine EvC.seq ?_
    try generalize hK : SeqQ _ _ _ _ = K
    refine EvC.reg ?_
    repeat (first | refine EvO.T rfl rfl rfl rfl ?_ | refine EvO.L rfl rfl rfl rfl ?_ | refine EvO.N rfl rfl rfl ?_ | refine EvO.offT rfl rfl ?_ | refine EvO.offL rfl rfl ?_)
    refine EvO.nil ?_
    dsimp only [Fr.putO, Fr.put, Fr.clean, Fr.ev, Fr.get, nth, Go.V.look, List.set_cons_succ, List.set_cons_zero, ofVal_int, ofVal_bool, ofVal_str, ofVal_nul, ofVal_pnil, ofVal_nilfn, ofVal_nilif, List.length, List.cons_append, List.nil_append, List.append_nil, Nat.reduceSub, Nat.reduceAdd, List.map, List.map_cons, List.map_nil]
    try subst hK
    try change EvC _ _ _ _ _ _
    rw [wrap_i64 (by omega) (by omega)]
    refine ⟨j, by omega, i + 1, rfl, rfl, by omega⟩
  · refine EvC.exit ?_
    have hj : j = 0 := by omega
    have hi : i = 80 := by omega
    subst hj hi
    try change EvC _ _ _ _ _ _
    repeat refine EvC.seq ?_
    try generalize hK : SeqQ _ _ _ _ = K
    refine EvC.reg ?_
    repeat (first | refine EvO.T rfl rfl rfl rfl ?_ | refine EvO.L rfl rfl rfl rfl ?_ | refine EvO.N rfl rfl rfl ?_ | refine EvO.offT rfl rfl ?_ | refine EvO.offL rfl rfl ?_)
    refine EvO.nil ?_
    dsimp only [Fr.putO, Fr.put, Fr.clean, Fr.ev, Fr.get, nth, Go.V.look, List.set_cons_succ, List.set_cons_zero, ofVal_int, ofVal_bool, ofVal_str, ofVal_nul, ofVal_pnil, ofVal_nilfn, ofVal_nilif, List.length, List.cons_append, List.nil_append, List.append_nil, Nat.reduceSub, Nat.reduceAdd, List.map, List.map_cons, List.map_nil]
    try subst hK
    try change EvC _ _ _ _ _ _
    have hex9 := Ex.push (N := st.bs.length) (st := enterSt .ro st) (Nat.le_refl _) (.mem 0 true ((b ++ (List.replicate 80 m ++ List.replicate 0 0)).map u8D))
    refine EvC.ret ⟨fun i h => (by cases h), _, rfl, leave_same (by simp) (hex9.take rfl) ?_⟩
    have := freeze_bytes (N := st.bs.length) (st := (enterSt .ro st).push (.mem 0 true ((b ++ (List.replicate 80 m ++ List.replicate 0 0)).map u8D))) (k := st.bs.length) (ver := 0) (b := b ++ List.replicate 80 m) (Nat.le_refl _) (push_at (enterSt .ro st) _)
    rw [show (b ++ List.replicate 80 m).length = b.length + 80 by simp] at this
    exact this

theorem intact_ev {st : St} {x y : D} {b : List UInt8} {m : UInt8} (hx : Bytes st x (b ++ List.replicate 80 m)) (hy : Bytes st y b) (hlen : b.length ≤ 1048576) : Ev pv 19 [x, y, .int .u8 (m.toNat : Nat)] st (.bool true) st := by
  refine Ev.mk1 rfl fi19 rfl rfl rfl ?_
  dsimp only [List.cons_append, List.nil_append, List.length, Nat.reduceSub, Nat.reduceAdd, List.replicate_succ, List.replicate_zero]
  have hx1 := hx.enter .ro
  have hy1 := hy.enter .ro
  have hxl : (byteCells (b ++ List.replicate 80 m)).length = b.length + 80 := by rw [byteCells_len]; simp
  have hyl := byteCells_len b
  try change EvC _ _ _ _ _ _
  repeat refine EvC.seq ?_
  try generalize hK : SeqQ _ _ _ _ = K
  refine EvC.reg ?_
  repeat (first | refine EvO.T rfl rfl rfl rfl ?_ | refine EvO.L rfl rfl rfl rfl ?_ | refine EvO.N rfl rfl rfl ?_ | refine EvO.offT rfl rfl ?_ | refine EvO.offL rfl rfl ?_)
  refine EvO.nil ?_
  dsimp only [Fr.putO, Fr.put, Fr.clean, Fr.ev, Fr.get, nth, Go.V.look, List.set_cons_succ, List.set_cons_zero, ofVal_int, ofVal_bool, ofVal_str, ofVal_nul, ofVal_pnil, ofVal_nilfn, ofVal_nilif, List.length, List.cons_append, List.nil_append, List.append_nil, Nat.reduceSub, Nat.reduceAdd, List.map, List.map_cons, List.map_nil]
  try subst hK
  try change EvC _ _ _ _ _ _
  try change EvC _ _ _ _ _ _
  repeat refine EvC.seq ?_
  try generalize hK : SeqQ _ _ _ _ = K
  refine EvC.reg ?_
  (first | refine EvO.T rfl rfl rfl rfl ?_ | refine EvO.L rfl rfl rfl rfl ?_ | refine EvO.N rfl rfl rfl ?_ | refine EvO.offT rfl rfl ?_ | refine EvO.offL rfl rfl ?_)
  refine EvO.len rfl rfl rfl hx1 rfl ?_
  (first | refine EvO.T rfl rfl rfl rfl ?_ | refine EvO.L rfl rfl rfl rfl ?_ | refine EvO.N rfl rfl rfl ?_ | refine EvO.offT rfl rfl ?_ | refine EvO.offL rfl rfl ?_)
  refine EvO.len rfl rfl rfl hy1 rfl ?_
  (first | refine EvO.T rfl rfl rfl rfl ?_ | refine EvO.L rfl rfl rfl rfl ?_ | refine EvO.N rfl rfl rfl ?_ | refine EvO.offT rfl rfl ?_ | refine EvO.offL rfl rfl ?_)
  rw [hxl, hyl, show wrapD .i64 ((b.length : Int) + 80) = ((b.length + 80 : Nat) : Int) by rw [wrap_i64 (by omega) (by omega)]; rfl]
  refine EvO.T rfl rfl rfl (d := .bool false) (st1 := enterSt .ro st) ?_ ?_
  · show some (D.bool (((b.length + 80 : Nat) : Int) != ((b.length + 80 : Nat) : Int)), enterSt .ro st) = _
    simp
  (first | refine EvO.T rfl rfl rfl rfl ?_ | refine EvO.L rfl rfl rfl rfl ?_ | refine EvO.N rfl rfl rfl ?_ | refine EvO.offT rfl rfl ?_ | refine EvO.offL rfl rfl ?_)
  (first | refine EvO.T rfl rfl rfl rfl ?_ | refine EvO.L rfl rfl rfl rfl ?_ | refine EvO.N rfl rfl rfl ?_ | refine EvO.offT rfl rfl ?_ | refine EvO.offL rfl rfl ?_)
  (first | refine EvO.T rfl rfl rfl rfl ?_ | refine EvO.L rfl rfl rfl rfl ?_ | refine EvO.N rfl rfl rfl ?_ | refine EvO.offT rfl rfl ?_ | refine EvO.offL rfl rfl ?_)
  refine EvO.len rfl rfl rfl hy1 rfl ?_
  refine EvO.slice rfl rfl rfl hx1 rfl rfl (l := 0) (r := b.length) ?_ ⟨by omega, by omega⟩ fun y2 hy3 hyr2 => ?_
  · show boundsD _ none (some (.int .i64 ((byteCells b).length : Nat))) = _
    rw [hxl, hyl]
    simp only [boundsD, optBound, boundD, Option.bind_some]
    rw [if_pos ⟨by omega, by omega⟩]; rfl
  have hy4 : Bytes (enterSt .ro st) y2 b := by
    have : ((byteCells (b ++ List.replicate 80 m)).take b.length).drop 0 = byteCells b := by
      rw [← hyl]; simp [byteCells]
    unfold Bytes; rw [← this]; exact hy3
  (first | refine EvO.T rfl rfl rfl rfl ?_ | refine EvO.L rfl rfl rfl rfl ?_ | refine EvO.N rfl rfl rfl ?_ | refine EvO.offT rfl rfl ?_ | refine EvO.offL rfl rfl ?_)
  refine EvO.callT rfl rfl rfl (same_byte hy4 hy1 (by omega)) ?_
  repeat (first | refine EvO.T rfl rfl rfl rfl ?_ | refine EvO.L rfl rfl rfl rfl ?_ | refine EvO.N rfl rfl rfl ?_ | refine EvO.offT rfl rfl ?_ | refine EvO.offL rfl rfl ?_)
  refine EvO.nil ?_
  dsimp only [Fr.putO, Fr.put, Fr.clean, Fr.ev, Fr.get, nth, Go.V.look, List.set_cons_succ, List.set_cons_zero, ofVal_int, ofVal_bool, ofVal_str, ofVal_nul, ofVal_pnil, ofVal_nilfn, ofVal_nilif, List.length, List.cons_append, List.nil_append, List.append_nil, Nat.reduceSub, Nat.reduceAdd, List.map, List.map_cons, List.map_nil]
  try subst hK
  try change EvC _ _ _ _ _ _
  refine EvC.cond (v := false) rfl (fun h => by cases h) fun _ => ?_
  refine EvC.skip ?_
  try change EvC _ _ _ _ _ _
  try change EvC _ _ _ _ _ _
  repeat refine EvC.seq ?_
  try generalize hK : SeqQ _ _ _ _ = K
  refine EvC.reg ?_
  (first | refine EvO.T rfl rfl rfl rfl ?_ | refine EvO.L rfl rfl rfl rfl ?_ | refine EvO.N rfl rfl rfl ?_ | refine EvO.offT rfl rfl ?_ | refine EvO.offL rfl rfl ?_)
  refine EvO.len rfl rfl rfl hy1 rfl ?_
  repeat (first | refine EvO.T rfl rfl rfl rfl ?_ | refine EvO.L rfl rfl rfl rfl ?_ | refine EvO.N rfl rfl rfl ?_ | refine EvO.offT rfl rfl ?_ | refine EvO.offL rfl rfl ?_)
  refine EvO.nil ?_
  dsimp only [Fr.putO, Fr.put, Fr.clean, Fr.ev, Fr.get, nth, Go.V.look, List.set_cons_succ, List.set_cons_zero, ofVal_int, ofVal_bool, ofVal_str, ofVal_nul, ofVal_pnil, ofVal_nilfn, ofVal_nilif, List.length, List.cons_append, List.nil_append, List.append_nil, Nat.reduceSub, Nat.reduceAdd, List.map, List.map_cons, List.map_nil]
  try subst hK
  try change EvC _ _ _ _ _ _
  rw [hyl]
  try change EvC _ _ _ _ _ _
  repeat refine EvC.seq ?_
  refine EvC.block ?_
  refine EvC.loop (fun j fr st' => ∃ i : Nat, fr.clean = ⟨8, [x, y, .int .u8 (m.toNat : Nat), .tup [], .tup [], .tup [], .bool false, .int .i64 ((b.length + i : Nat) : Int)], []⟩ ∧ st' = enterSt .ro st ∧ i + j = 80) 80 ⟨0, rfl, rfl, by omega⟩ ?_
  rintro j fr st' ⟨i, hfr, rfl, hij⟩
  rw [hfr]
  try change EvC _ _ _ _ _ _
  repeat refine EvC.seq ?_
  try generalize hK : SeqQ _ _ _ _ = K
  refine EvC.reg ?_
  (first | refine EvO.T rfl rfl rfl rfl ?_ | refine EvO.L rfl rfl rfl rfl ?_ | refine EvO.N rfl rfl rfl ?_ | refine EvO.offT rfl rfl ?_ | refine EvO.offL rfl rfl ?_)
  (first | refine EvO.T rfl rfl rfl rfl ?_ | refine EvO.L rfl rfl rfl rfl ?_ | refine EvO.N rfl rfl rfl ?_ | refine EvO.offT rfl rfl ?_ | refine EvO.offL rfl rfl ?_)
  refine EvO.len rfl rfl rfl hx1 rfl ?_
  repeat (first | refine EvO.T rfl rfl rfl rfl ?_ | refine EvO.L rfl rfl rfl rfl ?_ | refine EvO.N rfl rfl rfl ?_ | refine EvO.offT rfl rfl ?_ | refine EvO.offL rfl rfl ?_)
  refine EvO.nil ?_
  dsimp only [Fr.putO, Fr.put, Fr.clean, Fr.ev, Fr.get, nth, Go.V.look, List.set_cons_succ, List.set_cons_zero, ofVal_int, ofVal_bool, ofVal_str, ofVal_nul, ofVal_pnil, ofVal_nilfn, ofVal_nilif, List.length, List.cons_append, List.nil_append, List.append_nil, Nat.reduceSub, Nat.reduceAdd, List.map, List.map_cons, List.map_nil]
  try subst hK
  try change EvC _ _ _ _ _ _
  rw [hxl]
  try change EvC _ _ _ _ _ _
  repeat refine EvC.seq ?_
  refine EvC.cond rfl (fun h1 => ?_) (fun h1 => ?_) <;> try simp only [decide_eq_true_eq, decide_eq_false_iff_not, beq_iff_eq, beq_eq_false_iff_ne, bne_iff_ne, bne_eq_false_iff_eq, ne_eq, Bool.not_eq_true', Bool.not_eq_false', Bool.not_eq_true, Bool.not_eq_false] at h1
  · refine EvC.skip ?_
    try change EvC _ _ _ _ _ _
    try change EvC _ _ _ _ _ _
    repeat refine EvC.seq ?_
    refine EvC.block ?_
    have hr : (b ++ List.replicate 80 m)[b.length + i]? = some m := by
      rw [List.getElem?_append_right (by omega), List.getElem?_replicate]
      rw [if_pos (by omega)]
    have hr2 := byteCells_get hr
    try change EvC _ _ _ _ _ _
    repeat refine EvC.seq ?_
    try generalize hK : SeqQ _ _ _ _ = K
    refine EvC.reg ?_
    (first | refine EvO.T rfl rfl rfl rfl ?_ | refine EvO.L rfl rfl rfl rfl ?_ | refine EvO.N rfl rfl rfl ?_ | refine EvO.offT rfl rfl ?_ | refine EvO.offL rfl rfl ?_)
    (first | refine EvO.T rfl rfl rfl rfl ?_ | refine EvO.L rfl rfl rfl rfl ?_ | refine EvO.N rfl rfl rfl ?_ | refine EvO.offT rfl rfl ?_ | refine EvO.offL rfl rfl ?_)
    refine EvO.idxLoad rfl rfl rfl (fun _ => rfl) rfl rfl hx1 rfl rfl (by omega) hr2 rfl (fun p => ?_)
    repeat (first | refine EvO.T rfl rfl rfl rfl ?_ | refine EvO.L rfl rfl rfl rfl ?_ | refine EvO.N rfl rfl rfl ?_ | refine EvO.offT rfl rfl ?_ | refine EvO.offL rfl rfl ?_)
    refine EvO.nil ?_
    dsimp only [Fr.putO, Fr.put, Fr.clean, Fr.ev, Fr.get, nth, Go.V.look, List.set_cons_succ, List.set_cons_zero, ofVal_int, ofVal_bool, ofVal_str, ofVal_nul, ofVal_pnil, ofVal_nilfn, ofVal_nilif, List.length, List.cons_append, List.nil_append, List.append_nil, Nat.reduceSub, Nat.reduceAdd, List.map, List.map_cons, List.map_nil]
    try subst hK
    try change EvC _ _ _ _ _ _
    try change EvC _ _ _ _ _ _
    repeat refine EvC.seq ?_
    refine EvC.cond rfl (fun h3 => ?_) (fun h3 => ?_) <;> try simp only [decide_eq_true_eq, decide_eq_false_iff_not, beq_iff_eq, beq_eq_false_iff_ne, bne_iff_ne, bne_eq_false_iff_eq, ne_eq, Bool.not_eq_true', Bool.not_eq_false', Bool.not_eq_true, Bool.not_eq_false] at h3
    · exact absurd trivial h3
    refine EvC.skip ?_
    try change EvC _ _ _ _ _ _
    try change EvC _ _ _ _ _ _
    repeat refine EvC.seq ?_
    try generalize hK : SeqQ _ _ _ _ = K
    refine EvC.reg ?_
    repeat (first | refine EvO.T rfl rfl rfl rfl ?_ | refine EvO.L rfl rfl rfl rfl ?_ | refine EvO.N rfl rfl rfl ?_ | refine EvO.offT rfl rfl ?_ | refine EvO.offL rfl rfl ?_)
    refine EvO.nil ?_
    dsimp only [Fr.putO, Fr.put, Fr.clean, Fr.ev, Fr.get, nth, Go.V.look, List.set_cons_succ, List.set_cons_zero, ofVal_int, ofVal_bool, ofVal_str, ofVal_nul, ofVal_pnil, ofVal_nilfn, ofVal_nilif, List.length, List.cons_append, List.nil_append, List.append_nil, Nat.reduceSub, Nat.reduceAdd, List.map, List.map_cons, List.map_nil]
    try subst hK
    try change EvC _ _ _ _ _ _
    rw [wrap_i64 (by omega) (by omega)]
    exact ⟨j - 1, by omega, i + 1, rfl, rfl, by omega⟩
  · refine EvC.exit ?_
    try change EvC _ _ _ _ _ _
    repeat refine EvC.seq ?_
    try generalize hK : SeqQ _ _ _ _ = K
    refine EvC.reg ?_
    repeat (first | refine EvO.T rfl rfl rfl rfl ?_ | refine EvO.L rfl rfl rfl rfl ?_ | refine EvO.N rfl rfl rfl ?_ | refine EvO.offT rfl rfl ?_ | refine EvO.offL rfl rfl ?_)
    refine EvO.nil ?_
    dsimp only [Fr.putO, Fr.put, Fr.clean, Fr.ev, Fr.get, nth, Go.V.look, List.set_cons_succ, List.set_cons_zero, ofVal_int, ofVal_bool, ofVal_str, ofVal_nul, ofVal_pnil, ofVal_nilfn, ofVal_nilif, List.length, List.cons_append, List.nil_append, List.append_nil, Nat.reduceSub, Nat.reduceAdd, List.map, List.map_cons, List.map_nil]
    try subst hK
    try change EvC _ _ _ _ _ _
    refine EvC.ret ⟨fun i h => (by cases h), _, rfl, leave_same (by simp) (by simp [enterSt]) ?_⟩
    rfl
end Go.Proofs.Ytlljdbhefepheaa
