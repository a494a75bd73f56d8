/-
 A program that is copied is right as it was, and reaches what it reached.
-/
import Derived.Test.YtbdilgkfnacahaaGreatJn
namespace Go.Proofs.YtbdilgkfnacahaaGreat
open Go.V Go
set_option maxRecDepth 100000
set_option linter.unusedSimpArgs false
set_option linter.unusedVariables false

theorem copy_get {code : List PIns} {pc : Nat} {i : PIns} (h : (code.map copyI)[pc]? = some i) : ∃ q, code[pc]? = some q ∧ i = copyI q := by
 rw [List.getElem?_map] at h
 obtain ⟨q, hq, rfl⟩ := Option.map_eq_some_iff.1 h
 exact ⟨q, hq, rfl⟩
theorem get_copy {code : List PIns} {pc : Nat} {i : PIns} (h : code[pc]? = some i) : (code.map copyI)[pc]? = some (copyI i) := by
 rw [List.getElem?_map, h]; rfl

theorem dfs_copy (code : List PIns) : ∀ (f : Nat) (seen : List Bool) (stk : List Int), dfs (code.map copyI) f seen stk = dfs code f seen stk
 | 0, _, _ => rfl
 | _ + 1, _, [] => rfl
 | f + 1, seen, v :: stk => by
  have ih := dfs_copy code f
  unfold dfs
  rw [List.getElem?_map]
  cases h1 : seen[v.toNat]? with
  | none => exact ih _ _
  | some b =>
   cases b with
   | true => exact ih _ _
   | false =>
    cases h2 : code[v.toNat]? with
    | none => rfl
    | some i => exact ih _ _

theorem reach_copy (code : List PIns) (s : Int) : reachS (code.map copyI) s = reachS code s := by
 unfold reachS; rw [List.length_map, dfs_copy]

theorem right_copy {p q : Pg} (h1 : q.code = p.code.map copyI) (h2 : q.starts = p.starts) : RightQ q ↔ RightQ p := by
 have hl : q.code.length = p.code.length := by rw [h1]; simp
 constructor
 ·intro h
  refine ⟨by rw [← hl]; exact h.cl, by rw [← h2]; exact h.sl, fun pc i hi => ?_, fun v hv => ?_, fun r s hs pc i hpc hre hi hop => ?_⟩
  ·have := h.sh pc (copyI i) (by rw [h1]; exact get_copy hi)
   rw [hl, h2] at this; exact this
  ·have := h.st v (by rw [h2]; exact hv)
   rw [hl] at this; exact this
  ·exact h.fo r s (by rw [h2]; exact hs) pc (copyI i) (by rw [hl]; exact hpc) (by rw [h1, reach_copy]; exact hre) (by rw [h1]; exact get_copy hi) hop
 ·intro h
  refine ⟨by rw [hl]; exact h.cl, by rw [h2]; exact h.sl, fun pc i hi => ?_, fun v hv => ?_, fun r s hs pc i hpc hre hi hop => ?_⟩
  ·rw [h1] at hi
   obtain ⟨j, hj, rfl⟩ := copy_get hi
   rw [hl, h2]; exact h.sh pc j hj
  ·rw [hl]; exact h.st v (by rw [← h2]; exact hv)
  ·rw [h1] at hi hre
   rw [reach_copy] at hre
   obtain ⟨j, hj, rfl⟩ := copy_get hi
   exact h.fo r s (by rw [← h2]; exact hs) pc j (by rw [← hl]; exact hpc) hre hj hop

theorem nums_false : ∀ (n i : Nat), numsS i (List.replicate n false) = []
 | 0, _ => rfl
 | n + 1, i => by simp only [List.replicate_succ, numsS, nums_false n]; rfl

theorem dec_iff {p q : Prop} (h : p ↔ q) : dec p = dec q := by
 by_cases hp : p
 ·rw [dec_yes hp, dec_yes (h.1 hp)]
 ·rw [dec_no hp, dec_no (fun g => hp (h.2 g))]
theorem dec_true {p : Prop} (h : dec p = true) : p := by
 refine Classical.byContradiction fun g => ?_
 rw [dec_no g] at h; cases h

theorem copy_keys (l : List PIns) : (l.map copyI).map keyI = l.map keyI := by rw [List.map_map]; rfl
end Go.Proofs.YtbdilgkfnacahaaGreat
