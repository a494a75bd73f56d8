/- UtfBack, for arguments of bulk at most 1048576: it answers true. -/
import Derived.Test.YtlljdbhefepheaaUj
import Derived.Test.YtlljdbhefepheaaWd
import Derived.Test.YtlljdbhefepheaaRows
import Derived.Test.YtlljdbhefepheaaBulk
import Derived.WalkKit
import Derived.ProofKit
import Derived.OpenShut
import Derived.JoinedCond
import Derived.ChangeOld
namespace Go.Proofs.Ytlljdbhefepheaa.utfBack
open Go.ChangeShapes Go.WideShapes Go.ChangeAt Go.RowKit Go.V
set_option maxRecDepth 100000
set_option maxHeartbeats 4000000
set_option linter.unusedSimpArgs false
set_option linter.unusedVariables false

def reS (g : Nat × Nat) : Nat × Nat := (g.1, (encS g.1).length)

theorem again : ∀ (l : List (Nat × Nat)), (∀ g ∈ l, okR g.1) → allS (l.flatMap fun g => encS g.1) = l.map reS
  | [], _ => rfl
  | g :: l, h => by
    have hg := h g (List.mem_cons_self ..)
    obtain ⟨h1, h2⟩ := enc_one hg (l.flatMap fun g => encS g.1)
    rw [List.flatMap_cons, allS_cons (by simp [h2]), h1]
    rw [List.drop_left, again l fun x hx => h x (List.mem_cons_of_mem _ hx)]
    rfl

theorem all_ok : ∀ (n : Nat) (b : List UInt8), ∀ g ∈ allF n b, okR g.1 ∧ (g = (65533, 1) ∨ g.2 = (encS g.1).length)
  | 0, _, g, h => by simp [allF] at h
  | n + 1, [], g, h => by simp [allF] at h
  | n + 1, c :: b, g, h => by
    simp only [allF, List.mem_cons] at h
    rcases h with rfl | h
    · exact one_ok _
    · exact all_ok n _ g h

theorem all_len (n : Nat) : ∀ (b : List UInt8), (allF n b).length ≤ n := by
  induction n with
  | zero => intro b; simp [allF]
  | succ n ih => intro b; cases b <;> simp [allF]; exact ih _

theorem enc_le {r : Nat} (h : okR r) : (encS r).length ≤ 4 := by
  rw [enc_len h]; repeat' split
  all_goals omega

theorem flat_le : ∀ (l : List (Nat × Nat)), (∀ g ∈ l, okR g.1) → (l.flatMap fun g => encS g.1).length ≤ 4 * l.length
  | [], _ => by simp
  | g :: l, h => by
    have := enc_le (h g (List.mem_cons_self ..))
    have := flat_le l fun x hx => h x (List.mem_cons_of_mem _ hx)
    simp only [List.flatMap_cons, List.length_append, List.length_cons]; omega

theorem law {st : St} {x : D} {b : List UInt8} (hb : Bytes st x b) (hlen : b.length ≤ 1048576) : Ev pv 6 [x] st (.bool true) st := by
  refine Ev.mk1 rfl fi6 rfl rfl rfl ?_
  dsimp only [List.cons_append, List.nil_append, List.length, Nat.reduceSub, Nat.reduceAdd, List.replicate_succ, List.replicate_zero]
  have hx := hb.ref
  have hb1 := hb.enter .ro
  have hbl := byteCells_len b
  try change EvC _ _ _ _ _
  repeat refine EvC.seq ?_
  try generalize hK : SeqQ _ _ _ = K
  refine EvC.reg ?_
  repeat (first | refine EvO.T rfl rfl rfl rfl ?_ | refine EvO.L rfl rfl rfl rfl ?_ | refine EvO.N rfl rfl rfl ?_ | refine EvO.offT rfl rfl ?_ | refine EvO.offL rfl rfl ?_)
  refine EvO.nil ?_
  dsimp only [Fr.putO, Fr.put, Fr.clean, Fr.ev, Fr.get, nth, Go.V.look, List.set_cons_succ, List.set_cons_zero, ofVal_int, ofVal_bool, ofVal_str, ofVal_nul, ofVal_pnil, ofVal_nilfn, ofVal_nilif, List.length, List.cons_append, List.nil_append, List.append_nil, Nat.reduceSub, Nat.reduceAdd, List.map, List.map_cons, List.map_nil]
  try subst hK
  try change EvC _ _ _ _ _
  try change EvC _ _ _ _ _
  repeat refine EvC.seq ?_
  try generalize hK : SeqQ _ _ _ = K
  refine EvC.reg ?_
  (first | refine EvO.T rfl rfl rfl rfl ?_ | refine EvO.L rfl rfl rfl rfl ?_ | refine EvO.N rfl rfl rfl ?_ | refine EvO.offT rfl rfl ?_ | refine EvO.offL rfl rfl ?_)
  refine EvO.len rfl rfl rfl hb1 rfl ?_
  rw [hbl]
  repeat (first | refine EvO.T rfl rfl rfl rfl ?_ | refine EvO.L rfl rfl rfl rfl ?_ | refine EvO.N rfl rfl rfl ?_ | refine EvO.offT rfl rfl ?_ | refine EvO.offL rfl rfl ?_)
  refine EvO.nil ?_
  dsimp only [Fr.putO, Fr.put, Fr.clean, Fr.ev, Fr.get, nth, Go.V.look, List.set_cons_succ, List.set_cons_zero, ofVal_int, ofVal_bool, ofVal_str, ofVal_nul, ofVal_pnil, ofVal_nilfn, ofVal_nilif, List.length, List.cons_append, List.nil_append, List.append_nil, Nat.reduceSub, Nat.reduceAdd, List.map, List.map_cons, List.map_nil]
  try subst hK
  try change EvC _ _ _ _ _
  generalize hK : SeqQ _ (Code.seq _ _) _ = K
  have H : ∀ (y : D) (b : List UInt8) (m : List (Nat × D)), Bytes (enterSt .ro st) y b → b.length ≤ 300 → K .next ⟨8, [y, .tup [], .bool false, .tup [], .tup [], .tup [], .tup [], .tup []], m⟩ (enterSt .ro st) := by
    intro y b m hb hlen
    subst hK
    have hok := all_ok b.length b
    have hal := all_len b.length b
    have hL0 : allF b.length b = allS b := rfl
    rw [hL0] at hok hal
    have hall := all_ev hb (by omega)
    generalize allS b = L at *
    have hG := fun st => gots_rows st L
    have hokr : ∀ g ∈ L, okR g.1 := fun g hg => (hok g hg).1
    have hagain := again L hokr
    have hfl := flat_le L hokr
    try change EvC _ _ _ _ _
    repeat refine EvC.seq ?_
    try generalize hK : SeqQ _ _ _ = K
    refine EvC.reg ?_
    (first | refine EvO.T rfl rfl rfl rfl ?_ | refine EvO.L rfl rfl rfl rfl ?_ | refine EvO.N rfl rfl rfl ?_ | refine EvO.offT rfl rfl ?_ | refine EvO.offL rfl rfl ?_)
    refine EvO.callT rfl rfl rfl hall ?_
    repeat (first | refine EvO.T rfl rfl rfl rfl ?_ | refine EvO.L rfl rfl rfl rfl ?_ | refine EvO.N rfl rfl rfl ?_ | refine EvO.offT rfl rfl ?_ | refine EvO.offL rfl rfl ?_)
    refine EvO.nil ?_
    dsimp only [Fr.putO, Fr.put, Fr.clean, Fr.ev, Fr.get, nth, Go.V.look, List.set_cons_succ, List.set_cons_zero, ofVal_int, ofVal_bool, ofVal_str, ofVal_nul, ofVal_pnil, ofVal_nilfn, ofVal_nilif, List.length, List.cons_append, List.nil_append, List.append_nil, Nat.reduceSub, Nat.reduceAdd, List.map, List.map_cons, List.map_nil]
    try subst hK
    try change EvC _ _ _ _ _
    try change EvC _ _ _ _ _
    repeat refine EvC.seq ?_
    try generalize hK : SeqQ _ _ _ = K
    refine EvC.reg ?_
    repeat (first | refine EvO.T rfl rfl rfl rfl ?_ | refine EvO.L rfl rfl rfl rfl ?_ | refine EvO.N rfl rfl rfl ?_ | refine EvO.offT rfl rfl ?_ | refine EvO.offL rfl rfl ?_)
    refine EvO.nil ?_
    dsimp only [Fr.putO, Fr.put, Fr.clean, Fr.ev, Fr.get, nth, Go.V.look, List.set_cons_succ, List.set_cons_zero, ofVal_int, ofVal_bool, ofVal_str, ofVal_nul, ofVal_pnil, ofVal_nilfn, ofVal_nilif, List.length, List.cons_append, List.nil_append, List.append_nil, Nat.reduceSub, Nat.reduceAdd, List.map, List.map_cons, List.map_nil]
    try subst hK
    try change EvC _ _ _ _ _
    try change EvC _ _ _ _ _
    repeat refine EvC.seq ?_
    try generalize hK : SeqQ _ _ _ = K
    refine EvC.reg ?_
    repeat (first | refine EvO.T rfl rfl rfl rfl ?_ | refine EvO.L rfl rfl rfl rfl ?_ | refine EvO.N rfl rfl rfl ?_ | refine EvO.offT rfl rfl ?_ | refine EvO.offL rfl rfl ?_)
    refine EvO.nil ?_
    dsimp only [Fr.putO, Fr.put, Fr.clean, Fr.ev, Fr.get, nth, Go.V.look, List.set_cons_succ, List.set_cons_zero, ofVal_int, ofVal_bool, ofVal_str, ofVal_nul, ofVal_pnil, ofVal_nilfn, ofVal_nilif, List.length, List.cons_append, List.nil_append, List.append_nil, Nat.reduceSub, Nat.reduceAdd, List.map, List.map_cons, List.map_nil]
    try subst hK
    try change EvC _ _ _ _ _
    try change EvC _ _ _ _ _
    repeat refine EvC.seq ?_
    refine EvC.block ?_
    refine EvC.loop (fun j fr st' => ∃ k : Nat, fr.clean = ⟨8, [y, .tup [], .bool false, gotsD L, .str ((L.take k).flatMap fun g => encS g.1), .int .i64 (k : Nat), .tup [], .tup []], []⟩ ∧ st' = enterSt .ro st ∧ k + j = L.length) L.length ⟨0, rfl, rfl, by omega⟩ ?_
    rintro j fr st' ⟨k, hfr, rfl, hkj⟩
    rw [hfr]
    try change EvC _ _ _ _ _
    repeat refine EvC.seq ?_
    try generalize hK : SeqQ _ _ _ = K
    refine EvC.reg ?_
    (first | refine EvO.T rfl rfl rfl rfl ?_ | refine EvO.L rfl rfl rfl rfl ?_ | refine EvO.N rfl rfl rfl ?_ | refine EvO.offT rfl rfl ?_ | refine EvO.offL rfl rfl ?_)
    (first | refine EvO.T rfl rfl rfl rfl ?_ | refine EvO.L rfl rfl rfl rfl ?_ | refine EvO.N rfl rfl rfl ?_ | refine EvO.offT rfl rfl ?_ | refine EvO.offL rfl rfl ?_)
    refine EvO.len rfl rfl rfl (hG _) rfl ?_
    rw [List.length_map]
    repeat (first | refine EvO.T rfl rfl rfl rfl ?_ | refine EvO.L rfl rfl rfl rfl ?_ | refine EvO.N rfl rfl rfl ?_ | refine EvO.offT rfl rfl ?_ | refine EvO.offL rfl rfl ?_)
    refine EvO.nil ?_
    dsimp only [Fr.putO, Fr.put, Fr.clean, Fr.ev, Fr.get, nth, Go.V.look, List.set_cons_succ, List.set_cons_zero, ofVal_int, ofVal_bool, ofVal_str, ofVal_nul, ofVal_pnil, ofVal_nilfn, ofVal_nilif, List.length, List.cons_append, List.nil_append, List.append_nil, Nat.reduceSub, Nat.reduceAdd, List.map, List.map_cons, List.map_nil]
    try subst hK
    try change EvC _ _ _ _ _
    try change EvC _ _ _ _ _
    repeat refine EvC.seq ?_
    refine EvC.cond rfl (fun h1 => ?_) (fun h1 => ?_) <;> try simp only [decide_eq_true_eq, decide_eq_false_iff_not, beq_iff_eq, beq_eq_false_iff_ne, bne_iff_ne, bne_eq_false_iff_eq, ne_eq, Bool.not_eq_true', Bool.not_eq_false', Bool.not_eq_true, Bool.not_eq_false] at h1
    · refine EvC.skip ?_
      try change EvC _ _ _ _ _
      try change EvC _ _ _ _ _
      repeat refine EvC.seq ?_
      refine EvC.block ?_
      obtain ⟨g, hg⟩ : ∃ g, L[k]? = some g := ⟨L[k]'(by omega), List.getElem?_eq_getElem _⟩
      have hr : (L.map gotC)[k]? = some (gotC g) := by rw [List.getElem?_map, hg]; rfl
      have hgo := hokr g (List.mem_of_getElem? hg)
      have hgl := enc_le hgo
      have htk : (L.take (k + 1)).flatMap (fun g => encS g.1) = (L.take k).flatMap (fun g => encS g.1) ++ encS g.1 := by
        rw [List.take_add_one, hg]; simp
      have hpl := flat_le (L.take k) fun g hg => hokr g (List.mem_of_mem_take hg)
      rw [List.length_take] at hpl
      try change EvC _ _ _ _ _
      repeat refine EvC.seq ?_
      try generalize hK : SeqQ _ _ _ = K
      refine EvC.reg ?_
      (first | refine EvO.T rfl rfl rfl rfl ?_ | refine EvO.L rfl rfl rfl rfl ?_ | refine EvO.N rfl rfl rfl ?_ | refine EvO.offT rfl rfl ?_ | refine EvO.offL rfl rfl ?_)
      (first | refine EvO.T rfl rfl rfl rfl ?_ | refine EvO.L rfl rfl rfl rfl ?_ | refine EvO.N rfl rfl rfl ?_ | refine EvO.offT rfl rfl ?_ | refine EvO.offL rfl rfl ?_)
      (first | refine EvO.T rfl rfl rfl rfl ?_ | refine EvO.L rfl rfl rfl rfl ?_ | refine EvO.N rfl rfl rfl ?_ | refine EvO.offT rfl rfl ?_ | refine EvO.offL rfl rfl ?_)
      refine EvO.idxField (f := 0) rfl rfl rfl rfl (fun _ => rfl) (fun _ _ => rfl) rfl rfl (hG _) rfl rfl rfl rfl rfl (by decide) rfl (by decide) (by omega) hr (d := .int .i32 (g.1 : Nat)) rfl fun p p' => ?_
      refine EvO.T rfl rfl rfl (d := .str (encS g.1)) (st1 := enterSt .ro st) rfl ?_
      refine EvO.addS rfl rfl rfl rfl (by omega) ?_
      repeat (first | refine EvO.T rfl rfl rfl rfl ?_ | refine EvO.L rfl rfl rfl rfl ?_ | refine EvO.N rfl rfl rfl ?_ | refine EvO.offT rfl rfl ?_ | refine EvO.offL rfl rfl ?_)
      refine EvO.nil ?_
      dsimp only [Fr.putO, Fr.put, Fr.clean, Fr.ev, Fr.get, nth, Go.V.look, List.set_cons_succ, List.set_cons_zero, ofVal_int, ofVal_bool, ofVal_str, ofVal_nul, ofVal_pnil, ofVal_nilfn, ofVal_nilif, List.length, List.cons_append, List.nil_append, List.append_nil, Nat.reduceSub, Nat.reduceAdd, List.map, List.map_cons, List.map_nil]
      try subst hK
      try change EvC _ _ _ _ _
      rw [← htk]
      try change EvC _ _ _ _ _
      repeat refine EvC.seq ?_
      try generalize hK : SeqQ _ _ _ = K
      refine EvC.reg ?_
      repeat (first | refine EvO.T rfl rfl rfl rfl ?_ | refine EvO.L rfl rfl rfl rfl ?_ | refine EvO.N rfl rfl rfl ?_ | refine EvO.offT rfl rfl ?_ | refine EvO.offL rfl rfl ?_)
      refine EvO.nil ?_
      dsimp only [Fr.putO, Fr.put, Fr.clean, Fr.ev, Fr.get, nth, Go.V.look, List.set_cons_succ, List.set_cons_zero, ofVal_int, ofVal_bool, ofVal_str, ofVal_nul, ofVal_pnil, ofVal_nilfn, ofVal_nilif, List.length, List.cons_append, List.nil_append, List.append_nil, Nat.reduceSub, Nat.reduceAdd, List.map, List.map_cons, List.map_nil]
      try subst hK
      try change EvC _ _ _ _ _
      rw [wrap_i64 (by omega) (by omega)]
      exact ⟨j - 1, by omega, k + 1, rfl, rfl, by omega⟩
    refine EvC.exit ?_
    have hk : k = L.length := by omega
    subst hk
    rw [List.take_length]
    generalize hs : L.flatMap (fun g => encS g.1) = s at *
    generalize hS1 : (enterSt .ro st).push (.mem 0 true (s.map u8D)) = S1
    have hex1 : Ex st.bs.length (enterSt .ro st) S1 := by subst hS1; exact Ex.push (st := enterSt .ro st) (Nat.le_refl _) _
    have hb1 : Bytes S1 (.win st.bs.length 0 0 s.length 1) s := by subst hS1; exact bytes_win (push_at (enterSt .ro st) _)
    have hall2 := all_ev hb1 (by omega)
    rw [hagain] at hall2
    try change EvC _ _ _ _ _
    repeat refine EvC.seq ?_
    try generalize hK : SeqQ _ _ _ = K
    refine EvC.reg ?_
    (first | refine EvO.T rfl rfl rfl rfl ?_ | refine EvO.L rfl rfl rfl rfl ?_ | refine EvO.N rfl rfl rfl ?_ | refine EvO.offT rfl rfl ?_ | refine EvO.offL rfl rfl ?_)
    refine EvO.convBytes rfl rfl rfl rfl rfl rfl (by omega) ?_
    refine EvO.callT rfl rfl rfl (d := gotsD (L.map reS)) (st1 := S1) (by subst hS1; exact hall2) ?_
    repeat (first | refine EvO.T rfl rfl rfl rfl ?_ | refine EvO.L rfl rfl rfl rfl ?_ | refine EvO.N rfl rfl rfl ?_ | refine EvO.offT rfl rfl ?_ | refine EvO.offL rfl rfl ?_)
    refine EvO.nil ?_
    dsimp only [Fr.putO, Fr.put, Fr.clean, Fr.ev, Fr.get, nth, Go.V.look, List.set_cons_succ, List.set_cons_zero, ofVal_int, ofVal_bool, ofVal_str, ofVal_nul, ofVal_pnil, ofVal_nilfn, ofVal_nilif, List.length, List.cons_append, List.nil_append, List.append_nil, Nat.reduceSub, Nat.reduceAdd, List.map, List.map_cons, List.map_nil]
    try subst hK
    try change EvC _ _ _ _ _
    have hM := gots_rows S1 (L.map reS)
    have hN := gots_rows S1 L
    try change EvC _ _ _ _ _
    repeat refine EvC.seq ?_
    try generalize hK : SeqQ _ _ _ = K
    refine EvC.reg ?_
    (first | refine EvO.T rfl rfl rfl rfl ?_ | refine EvO.L rfl rfl rfl rfl ?_ | refine EvO.N rfl rfl rfl ?_ | refine EvO.offT rfl rfl ?_ | refine EvO.offL rfl rfl ?_)
    refine EvO.len rfl rfl rfl hM rfl ?_
    (first | refine EvO.T rfl rfl rfl rfl ?_ | refine EvO.L rfl rfl rfl rfl ?_ | refine EvO.N rfl rfl rfl ?_ | refine EvO.offT rfl rfl ?_ | refine EvO.offL rfl rfl ?_)
    refine EvO.len rfl rfl rfl hN rfl ?_
    rw [List.length_map, List.length_map, List.length_map]
    refine EvO.T rfl rfl rfl (d := .bool false) (st1 := S1) ?_ ?_
    · show some (D.bool ((L.length : Int) != (L.length : Int)), _) = _
      simp
    refine EvO.nil ?_
    dsimp only [Fr.putO, Fr.put, Fr.clean, Fr.ev, Fr.get, nth, Go.V.look, List.set_cons_succ, List.set_cons_zero, ofVal_int, ofVal_bool, ofVal_str, ofVal_nul, ofVal_pnil, ofVal_nilfn, ofVal_nilif, List.length, List.cons_append, List.nil_append, List.append_nil, Nat.reduceSub, Nat.reduceAdd, List.map, List.map_cons, List.map_nil]
    try subst hK
    try change EvC _ _ _ _ _
    try change EvC _ _ _ _ _
    repeat refine EvC.seq ?_
    refine EvC.cond (v := false) rfl (fun h => by cases h) fun _ => ?_
    try change EvC _ _ _ _ _
    refine EvC.skip ?_
    try change EvC _ _ _ _ _
    try change EvC _ _ _ _ _
    repeat refine EvC.seq ?_
    try generalize hK : SeqQ _ _ _ = K
    refine EvC.reg ?_
    repeat (first | refine EvO.T rfl rfl rfl rfl ?_ | refine EvO.L rfl rfl rfl rfl ?_ | refine EvO.N rfl rfl rfl ?_ | refine EvO.offT rfl rfl ?_ | refine EvO.offL rfl rfl ?_)
    refine EvO.nil ?_
    dsimp only [Fr.putO, Fr.put, Fr.clean, Fr.ev, Fr.get, nth, Go.V.look, List.set_cons_succ, List.set_cons_zero, ofVal_int, ofVal_bool, ofVal_str, ofVal_nul, ofVal_pnil, ofVal_nilfn, ofVal_nilif, List.length, List.cons_append, List.nil_append, List.append_nil, Nat.reduceSub, Nat.reduceAdd, List.map, List.map_cons, List.map_nil]
    try subst hK
    try change EvC _ _ _ _ _
    try change EvC _ _ _ _ _
    repeat refine EvC.seq ?_
    refine EvC.block ?_
    refine EvC.loop (fun j fr st' => ∃ k : Nat, fr.clean = ⟨8, [y, .tup [], .bool false, gotsD L, .str s, .int .i64 (L.length : Nat), gotsD (L.map reS), .int .i64 (k : Nat)], []⟩ ∧ st' = S1 ∧ k + j = L.length) L.length ⟨0, rfl, rfl, by omega⟩ ?_
    rintro j fr st' ⟨k, hfr, rfl, hkj⟩
    rw [hfr]
    try change EvC _ _ _ _ _
    repeat refine EvC.seq ?_
    try generalize hK : SeqQ _ _ _ = K
    refine EvC.reg ?_
    (first | refine EvO.T rfl rfl rfl rfl ?_ | refine EvO.L rfl rfl rfl rfl ?_ | refine EvO.N rfl rfl rfl ?_ | refine EvO.offT rfl rfl ?_ | refine EvO.offL rfl rfl ?_)
    (first | refine EvO.T rfl rfl rfl rfl ?_ | refine EvO.L rfl rfl rfl rfl ?_ | refine EvO.N rfl rfl rfl ?_ | refine EvO.offT rfl rfl ?_ | refine EvO.offL rfl rfl ?_)
    refine EvO.len rfl rfl rfl hN rfl ?_
    rw [List.length_map]
    repeat (first | refine EvO.T rfl rfl rfl rfl ?_ | refine EvO.L rfl rfl rfl rfl ?_ | refine EvO.N rfl rfl rfl ?_ | refine EvO.offT rfl rfl ?_ | refine EvO.offL rfl rfl ?_)
    refine EvO.nil ?_
    dsimp only [Fr.putO, Fr.put, Fr.clean, Fr.ev, Fr.get, nth, Go.V.look, List.set_cons_succ, List.set_cons_zero, ofVal_int, ofVal_bool, ofVal_str, ofVal_nul, ofVal_pnil, ofVal_nilfn, ofVal_nilif, List.length, List.cons_append, List.nil_append, List.append_nil, Nat.reduceSub, Nat.reduceAdd, List.map, List.map_cons, List.map_nil]
    try subst hK
    try change EvC _ _ _ _ _
    try change EvC _ _ _ _ _
    repeat refine EvC.seq ?_
    refine EvC.cond rfl (fun h2 => ?_) (fun h2 => ?_) <;> try simp only [decide_eq_true_eq, decide_eq_false_iff_not, beq_iff_eq, beq_eq_false_iff_ne, bne_iff_ne, bne_eq_false_iff_eq, ne_eq, Bool.not_eq_true', Bool.not_eq_false', Bool.not_eq_true, Bool.not_eq_false] at h2
    · refine EvC.skip ?_
      try change EvC _ _ _ _ _
      try change EvC _ _ _ _ _
      repeat refine EvC.seq ?_
      refine EvC.block ?_
      obtain ⟨g, hg⟩ : ∃ g, L[k]? = some g := ⟨L[k]'(by omega), List.getElem?_eq_getElem _⟩
      have hr : (L.map gotC)[k]? = some (gotC g) := by rw [List.getElem?_map, hg]; rfl
      obtain ⟨n, hn⟩ : ∃ n, (encS g.1).length = n := ⟨_, rfl⟩
      have hr2 : ((L.map reS).map gotC)[k]? = some (gotC (g.1, n)) := by rw [List.getElem?_map, List.getElem?_map, hg, ← hn]; rfl
      have hgo := hok g (List.mem_of_getElem? hg)
      rw [hn] at hgo
      generalize hK0 : SeqQ _ _ _ = K0
      have step : ∀ m, K0 .next ⟨8, [y, .tup [], .bool false, gotsD L, .str s, .int .i64 (L.length : Nat), gotsD (L.map reS), .int .i64 (k : Nat)], m⟩ st' := by
        intro m
        subst hK0
        try change EvC _ _ _ _ _
        repeat refine EvC.seq ?_
        try generalize hK : SeqQ _ _ _ = K
        refine EvC.reg ?_
        repeat (first | refine EvO.T rfl rfl rfl rfl ?_ | refine EvO.L rfl rfl rfl rfl ?_ | refine EvO.N rfl rfl rfl ?_ | refine EvO.offT rfl rfl ?_ | refine EvO.offL rfl rfl ?_)
        refine EvO.nil ?_
        dsimp only [Fr.putO, Fr.put, Fr.clean, Fr.ev, Fr.get, nth, Go.V.look, List.set_cons_succ, List.set_cons_zero, ofVal_int, ofVal_bool, ofVal_str, ofVal_nul, ofVal_pnil, ofVal_nilfn, ofVal_nilif, List.length, List.cons_append, List.nil_append, List.append_nil, Nat.reduceSub, Nat.reduceAdd, List.map, List.map_cons, List.map_nil]
        try subst hK
        try change EvC _ _ _ _ _
        rw [wrap_i64 (by omega) (by omega)]
        exact ⟨j - 1, by omega, k + 1, rfl, rfl, by omega⟩
      try change EvC _ _ _ _ _
      repeat refine EvC.seq ?_
      try generalize hK : SeqQ _ _ _ = K
      refine EvC.reg ?_
      (first | refine EvO.T rfl rfl rfl rfl ?_ | refine EvO.L rfl rfl rfl rfl ?_ | refine EvO.N rfl rfl rfl ?_ | refine EvO.offT rfl rfl ?_ | refine EvO.offL rfl rfl ?_)
      (first | refine EvO.T rfl rfl rfl rfl ?_ | refine EvO.L rfl rfl rfl rfl ?_ | refine EvO.N rfl rfl rfl ?_ | refine EvO.offT rfl rfl ?_ | refine EvO.offL rfl rfl ?_)
      refine EvO.idxField (f := 0) rfl rfl rfl rfl (fun _ => rfl) (fun _ _ => rfl) rfl rfl hM rfl rfl rfl rfl rfl (by decide) rfl (by decide) (by omega) hr2 (d := .int .i32 (g.1 : Nat)) rfl fun p p' => ?_
      (first | refine EvO.T rfl rfl rfl rfl ?_ | refine EvO.L rfl rfl rfl rfl ?_ | refine EvO.N rfl rfl rfl ?_ | refine EvO.offT rfl rfl ?_ | refine EvO.offL rfl rfl ?_)
      (first | refine EvO.T rfl rfl rfl rfl ?_ | refine EvO.L rfl rfl rfl rfl ?_ | refine EvO.N rfl rfl rfl ?_ | refine EvO.offT rfl rfl ?_ | refine EvO.offL rfl rfl ?_)
      refine EvO.idxField (f := 0) rfl rfl rfl rfl (fun _ => rfl) (fun _ _ => rfl) rfl rfl hN rfl rfl rfl rfl rfl (by decide) rfl (by decide) (by omega) hr (d := .int .i32 (g.1 : Nat)) rfl fun p p' => ?_
      refine EvO.T rfl rfl rfl (d := .bool false) (st1 := st') ?_ ?_
      · show some (D.bool ((g.1 : Int) != (g.1 : Int)), _) = _
        simp
      (first | refine EvO.T rfl rfl rfl rfl ?_ | refine EvO.L rfl rfl rfl rfl ?_ | refine EvO.N rfl rfl rfl ?_ | refine EvO.offT rfl rfl ?_ | refine EvO.offL rfl rfl ?_)
      (first | refine EvO.T rfl rfl rfl rfl ?_ | refine EvO.L rfl rfl rfl rfl ?_ | refine EvO.N rfl rfl rfl ?_ | refine EvO.offT rfl rfl ?_ | refine EvO.offL rfl rfl ?_)
      (first | refine EvO.T rfl rfl rfl rfl ?_ | refine EvO.L rfl rfl rfl rfl ?_ | refine EvO.N rfl rfl rfl ?_ | refine EvO.offT rfl rfl ?_ | refine EvO.offL rfl rfl ?_)
      refine EvO.idxField (f := 1) rfl rfl rfl rfl (fun _ => rfl) (fun _ _ => rfl) rfl rfl hM rfl rfl rfl rfl rfl (by decide) rfl (by decide) (by omega) hr2 (d := .int .i64 (n : Nat)) rfl fun p p' => ?_
      (first | refine EvO.T rfl rfl rfl rfl ?_ | refine EvO.L rfl rfl rfl rfl ?_ | refine EvO.N rfl rfl rfl ?_ | refine EvO.offT rfl rfl ?_ | refine EvO.offL rfl rfl ?_)
      (first | refine EvO.T rfl rfl rfl rfl ?_ | refine EvO.L rfl rfl rfl rfl ?_ | refine EvO.N rfl rfl rfl ?_ | refine EvO.offT rfl rfl ?_ | refine EvO.offL rfl rfl ?_)
      refine EvO.idxField (f := 0) rfl rfl rfl rfl (fun _ => rfl) (fun _ _ => rfl) rfl rfl hN rfl rfl rfl rfl rfl (by decide) rfl (by decide) (by omega) hr (d := .int .i32 (g.1 : Nat)) rfl fun p p' => ?_
      refine EvO.T rfl rfl rfl (d := .str (encS g.1)) (st1 := st') rfl ?_
      refine EvO.lenS rfl rfl rfl rfl ?_
      rw [hn]
      refine EvO.T rfl rfl rfl (d := .bool false) (st1 := st') ?_ ?_
      · show some (D.bool ((n : Int) != (n : Int)), _) = _
        simp
      (first | refine EvO.T rfl rfl rfl rfl ?_ | refine EvO.L rfl rfl rfl rfl ?_ | refine EvO.N rfl rfl rfl ?_ | refine EvO.offT rfl rfl ?_ | refine EvO.offL rfl rfl ?_)
      (first | refine EvO.T rfl rfl rfl rfl ?_ | refine EvO.L rfl rfl rfl rfl ?_ | refine EvO.N rfl rfl rfl ?_ | refine EvO.offT rfl rfl ?_ | refine EvO.offL rfl rfl ?_)
      (first | refine EvO.T rfl rfl rfl rfl ?_ | refine EvO.L rfl rfl rfl rfl ?_ | refine EvO.N rfl rfl rfl ?_ | refine EvO.offT rfl rfl ?_ | refine EvO.offL rfl rfl ?_)
      (first | refine EvO.T rfl rfl rfl rfl ?_ | refine EvO.L rfl rfl rfl rfl ?_ | refine EvO.N rfl rfl rfl ?_ | refine EvO.offT rfl rfl ?_ | refine EvO.offL rfl rfl ?_)
      refine EvO.idxField (f := 1) rfl rfl rfl rfl (fun _ => rfl) (fun _ _ => rfl) rfl rfl hN rfl rfl rfl rfl rfl (by decide) rfl (by decide) (by omega) hr (d := .int .i64 (g.2 : Nat)) rfl fun p p' => ?_
      (first | refine EvO.T rfl rfl rfl rfl ?_ | refine EvO.L rfl rfl rfl rfl ?_ | refine EvO.N rfl rfl rfl ?_ | refine EvO.offT rfl rfl ?_ | refine EvO.offL rfl rfl ?_)
      (first | refine EvO.T rfl rfl rfl rfl ?_ | refine EvO.L rfl rfl rfl rfl ?_ | refine EvO.N rfl rfl rfl ?_ | refine EvO.offT rfl rfl ?_ | refine EvO.offL rfl rfl ?_)
      refine EvO.idxField (f := 1) rfl rfl rfl rfl (fun _ => rfl) (fun _ _ => rfl) rfl rfl hM rfl rfl rfl rfl rfl (by decide) rfl (by decide) (by omega) hr2 (d := .int .i64 (n : Nat)) rfl fun p p' => ?_
      by_cases he : g.2 = n
      · refine EvO.T rfl rfl rfl (d := .bool false) (st1 := st') ?_ ?_
        · show some (D.bool ((g.2 : Int) != (n : Int)), _) = _
          rw [he]; simp
        repeat (first | refine EvO.T rfl rfl rfl rfl ?_ | refine EvO.L rfl rfl rfl rfl ?_ | refine EvO.N rfl rfl rfl ?_ | refine EvO.offT rfl rfl ?_ | refine EvO.offL rfl rfl ?_ | simp (disch := omega) only [decide_eq_true, decide_eq_false, beq_yes, beq_no, bne_yes, bne_no])
        refine EvO.nil ?_
        dsimp only [Fr.putO, Fr.put, Fr.clean, Fr.ev, Fr.get, nth, Go.V.look, List.set_cons_succ, List.set_cons_zero, ofVal_int, ofVal_bool, ofVal_str, ofVal_nul, ofVal_pnil, ofVal_nilfn, ofVal_nilif, List.length, List.cons_append, List.nil_append, List.append_nil, Nat.reduceSub, Nat.reduceAdd, List.map, List.map_cons, List.map_nil]
        try subst hK
        try change EvC _ _ _ _ _
        try change EvC _ _ _ _ _
        repeat refine EvC.seq ?_
        refine EvC.cond (v := false) rfl (fun h => by cases h) fun _ => ?_
        try change EvC _ _ _ _ _
        refine EvC.skip ?_
        exact step _
      · have hge : g = (65533, 1) := hgo.2.resolve_right he
        refine EvO.T rfl rfl rfl (d := .bool true) (st1 := st') ?_ ?_
        · show some (D.bool ((g.2 : Int) != (n : Int)), _) = _
          have : (g.2 : Int) ≠ (n : Int) := by omega
          simp [this]
        (first | refine EvO.T rfl rfl rfl rfl ?_ | refine EvO.L rfl rfl rfl rfl ?_ | refine EvO.N rfl rfl rfl ?_ | refine EvO.offT rfl rfl ?_ | refine EvO.offL rfl rfl ?_)
        (first | refine EvO.T rfl rfl rfl rfl ?_ | refine EvO.L rfl rfl rfl rfl ?_ | refine EvO.N rfl rfl rfl ?_ | refine EvO.offT rfl rfl ?_ | refine EvO.offL rfl rfl ?_)
        (first | refine EvO.T rfl rfl rfl rfl ?_ | refine EvO.L rfl rfl rfl rfl ?_ | refine EvO.N rfl rfl rfl ?_ | refine EvO.offT rfl rfl ?_ | refine EvO.offL rfl rfl ?_)
        refine EvO.idxField (f := 0) rfl rfl rfl rfl (fun _ => rfl) (fun _ _ => rfl) rfl rfl hN rfl rfl rfl rfl rfl (by decide) rfl (by decide) (by omega) hr (d := .int .i32 (g.1 : Nat)) rfl fun p p' => ?_
        refine EvO.T rfl rfl rfl (d := .bool false) (st1 := st') ?_ ?_
        · show some (D.bool ((g.1 : Int) != 65533), _) = _
          rw [hge]; rfl
        (first | refine EvO.T rfl rfl rfl rfl ?_ | refine EvO.L rfl rfl rfl rfl ?_ | refine EvO.N rfl rfl rfl ?_ | refine EvO.offT rfl rfl ?_ | refine EvO.offL rfl rfl ?_)
        (first | refine EvO.T rfl rfl rfl rfl ?_ | refine EvO.L rfl rfl rfl rfl ?_ | refine EvO.N rfl rfl rfl ?_ | refine EvO.offT rfl rfl ?_ | refine EvO.offL rfl rfl ?_)
        (first | refine EvO.T rfl rfl rfl rfl ?_ | refine EvO.L rfl rfl rfl rfl ?_ | refine EvO.N rfl rfl rfl ?_ | refine EvO.offT rfl rfl ?_ | refine EvO.offL rfl rfl ?_)
        refine EvO.idxField (f := 1) rfl rfl rfl rfl (fun _ => rfl) (fun _ _ => rfl) rfl rfl hN rfl rfl rfl rfl rfl (by decide) rfl (by decide) (by omega) hr (d := .int .i64 (g.2 : Nat)) rfl fun p p' => ?_
        refine EvO.T rfl rfl rfl (d := .bool false) (st1 := st') ?_ ?_
        · show some (D.bool ((g.2 : Int) != 1), _) = _
          rw [hge]; rfl
        repeat (first | refine EvO.T rfl rfl rfl rfl ?_ | refine EvO.L rfl rfl rfl rfl ?_ | refine EvO.N rfl rfl rfl ?_ | refine EvO.offT rfl rfl ?_ | refine EvO.offL rfl rfl ?_ | simp (disch := omega) only [decide_eq_true, decide_eq_false, beq_yes, beq_no, bne_yes, bne_no])
        refine EvO.nil ?_
        dsimp only [Fr.putO, Fr.put, Fr.clean, Fr.ev, Fr.get, nth, Go.V.look, List.set_cons_succ, List.set_cons_zero, ofVal_int, ofVal_bool, ofVal_str, ofVal_nul, ofVal_pnil, ofVal_nilfn, ofVal_nilif, List.length, List.cons_append, List.nil_append, List.append_nil, Nat.reduceSub, Nat.reduceAdd, List.map, List.map_cons, List.map_nil]
        try subst hK
        try change EvC _ _ _ _ _
        try change EvC _ _ _ _ _
        repeat refine EvC.seq ?_
        refine EvC.cond (v := false) rfl (fun h => by cases h) fun _ => ?_
        try change EvC _ _ _ _ _
        refine EvC.skip ?_
        exact step _
    refine EvC.exit ?_
    try change EvC _ _ _ _ _
    repeat refine EvC.seq ?_
    try generalize hK : SeqQ _ _ _ = K
    refine EvC.reg ?_
    refine EvO.callT rfl rfl rfl (Ev.prim rfl rfl) ?_
    repeat (first | refine EvO.T rfl rfl rfl rfl ?_ | refine EvO.L rfl rfl rfl rfl ?_ | refine EvO.N rfl rfl rfl ?_ | refine EvO.offT rfl rfl ?_ | refine EvO.offL rfl rfl ?_)
    refine EvO.nil ?_
    dsimp only [Fr.putO, Fr.put, Fr.clean, Fr.ev, Fr.get, nth, Go.V.look, List.set_cons_succ, List.set_cons_zero, ofVal_int, ofVal_bool, ofVal_str, ofVal_nul, ofVal_pnil, ofVal_nilfn, ofVal_nilif, List.length, List.cons_append, List.nil_append, List.append_nil, Nat.reduceSub, Nat.reduceAdd, List.map, List.map_cons, List.map_nil]
    try subst hK
    try change EvC _ _ _ _ _
    refine EvC.ret ⟨fun i h => (by cases h), _, rfl, leave_same (by simp) (hex1.take rfl) rfl⟩
  try change EvC _ _ _ _ _
  repeat refine EvC.seq ?_
  refine EvC.cond rfl (fun h0 => ?_) (fun h0 => ?_) <;> try simp only [decide_eq_true_eq, decide_eq_false_iff_not, beq_iff_eq, beq_eq_false_iff_ne, bne_iff_ne, bne_eq_false_iff_eq, ne_eq, Bool.not_eq_true', Bool.not_eq_false', Bool.not_eq_true, Bool.not_eq_false] at h0
  · try change EvC _ _ _ _ _
    repeat refine EvC.seq ?_
    try generalize hK : SeqQ _ _ _ = K
    refine EvC.reg ?_
    (first | refine EvO.T rfl rfl rfl rfl ?_ | refine EvO.L rfl rfl rfl rfl ?_ | refine EvO.N rfl rfl rfl ?_ | refine EvO.offT rfl rfl ?_ | refine EvO.offL rfl rfl ?_)
    refine EvO.slice rfl rfl rfl hb1 rfl rfl (l := 0) (r := 300) ?_ ⟨by omega, by omega⟩ fun y2 hy3 hyr2 => ?_
    · show boundsD _ none (some (.int .i64 300)) = _
      simp only [boundsD, optBound, boundD, Option.bind_some]
      rw [if_pos ⟨by omega, by omega⟩]; rfl
    repeat (first | refine EvO.T rfl rfl rfl rfl ?_ | refine EvO.L rfl rfl rfl rfl ?_ | refine EvO.N rfl rfl rfl ?_ | refine EvO.offT rfl rfl ?_ | refine EvO.offL rfl rfl ?_)
    refine EvO.nil ?_
    dsimp only [Fr.putO, Fr.put, Fr.clean, Fr.ev, Fr.get, nth, Go.V.look, List.set_cons_succ, List.set_cons_zero, ofVal_int, ofVal_bool, ofVal_str, ofVal_nul, ofVal_pnil, ofVal_nilfn, ofVal_nilif, List.length, List.cons_append, List.nil_append, List.append_nil, Nat.reduceSub, Nat.reduceAdd, List.map, List.map_cons, List.map_nil]
    try subst hK
    try change EvC _ _ _ _ _
    refine H y2 (b.take 300) _ ?_ (by rw [List.length_take]; omega)
    have : ((byteCells b).take 300).drop 0 = byteCells (b.take 300) := by simp [byteCells]
    unfold Bytes; rw [← this]; exact hy3
  · refine EvC.skip ?_
    exact H x b _ hb1 (by omega)

theorem own : ownKnob Try.prog.godebug = none := by kernel_rfl
theorem laidOut : laidOutB Try.prog = true := by kernel_rfl

theorem lifted (os : Os) (started : os.Started) (H : Type) (enc : TypeId × Value → H) (F : Stop.Interp) :
    ReturnsInHanded {} Try.checked os 6 .any ((Rows.OpenSpec.upto Rows.utfBackSpec).pre6 enc Try.prog Try.f6 Rows.utfBackUptoRow.domain false) (((Rows.OpenSpec.upto Rows.utfBackSpec).at F).post enc Try.prog Try.f6 false true false false) := by
  refine returnsInHanded_of_cond (C := Try.checked) (s := Rows.OpenSpec.upto Rows.utfBackSpec) (k := Rows.uptoSmall) rfl own started (by kernel_rfl) Try.func6
    (OpenSpec.witness (enc := enc) (C := Try.checked) (s := Rows.OpenSpec.upto Rows.utfBackSpec) (k := Rows.uptoSmall) rfl false ⟨#[], #[.slice none 0 0], []⟩ 8 (by kernel_rfl) (by kernel_rfl) (by kernel_rfl)
      (x := ([.nil], [], [])) (by kernel_rfl) rfl (by kernel_rfl)) ?_
  intro W base args ds gs before hval hW _ hk _
  have hW' := hW
  obtain ⟨p, q, hA0, hV, rfl, hfz, hnd⟩ := hW
  have hA : DataW.TrodAll enc Try.prog W 0 (fun _ => true) true Try.f6.params.toList args.toList ds p := hA0
  rw [Try.params6] at hA hval
  obtain ⟨v0, vs0, d0, ds0, p0, q0, hargs, rfl, rfl, h0, r0⟩ := trodAll_cons hA
  obtain ⟨rfl, rfl, rfl⟩ := trodAll_nil r0
  obtain rfl : args = #[v0] := by cases args; simp_all
  obtain ⟨rfl, rfl⟩ := trodVars_none hV
  simp only [Rows.uptoSmall, List.append_nil, List.nil_append, List.singleton_append, List.cons_append, decide_eq_true_eq, Rows.uptoBulkAll] at hk
  have i0 := trod_ir h0 (n := 12) (by kernel_rfl) (hval 0 29 v0 rfl rfl)
  have k0 := h0
  have lt0 : ∀ x ∈ p0, x.block < W.heap.size := by obtain ⟨m, hm⟩ := k0; exact DataW.trod_lt m _ _ _ hm
  obtain ⟨b0, hb0, hs0⟩ := arg_bytes h0 Try.underlying29 Try.underlying5
  have l0 : b0.length ≤ Rows.uptoBulk d0 := by rcases hs0 with ⟨rfl, rfl⟩ | ⟨es, rest, rfl, he⟩ <;> simp only [Rows.uptoBulk, List.length_nil] <;> first | omega | (have := bulk_len es; omega)
  have hlaw : Ev pv 6 [dval d0] ⟨[], 0, 0⟩ (.bool true) ⟨[], 0, 0⟩ := by
    exact law (hb0 _) (by omega)
  have hir : ∀ (i : Nat) c v, [dval d0][i]? = some c → [v0][i]? = some v → IR W (fun b => b < W.heap.size) c v := by
    intro i c v hc hv
    match i, hc, hv with
    | 0, hc, hv => cases hc; cases hv; exact i0
  clear hA0
  refine (law_calls view hlaw (us := [v0]) rfl hir).mono fun e W' ⟨he, bel⟩ => ?_
  subst he
  exact ⟨_, rfl, _, _, _, [], _, [], hW', trodAll_mk1 (shut_bool Try.underlying4 _), (trodAll_cons_mk (Below.trod laidOut (by kernel_rfl) (of_decide_eq_true (by kernel_rfl)) k0 bel lt0) trodAll_mk0), rfl, bel.frame _, fun h => by cases h⟩

theorem proved : Rows.UtfBackUptoSaid :=
  OpenClaim.holds_of_cond 6 Try.f6 rfl rfl rfl rfl rfl rfl rfl ⟨rfl, rfl, rfl, rfl, rfl⟩ rfl rfl rfl rfl rfl (by kernel_rfl) Try.func6 (by kernel_rfl)
    (of_decide_eq_true (by kernel_rfl)) (by unfold Func.isWrapper; first | (rw [if_pos (by decide +kernel)]; kernel_rfl) | (rw [if_neg (by decide +kernel)]; exact ⟨rfl, rfl⟩))
    (fun os started H enc _ F => lifted os started H enc F)
end Go.Proofs.Ytlljdbhefepheaa.utfBack
#print axioms Go.Proofs.Ytlljdbhefepheaa.utfBack.proved
