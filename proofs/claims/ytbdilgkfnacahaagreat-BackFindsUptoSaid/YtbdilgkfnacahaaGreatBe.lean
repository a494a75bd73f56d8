/-
 The plain law of the two searches: fuel.
-/
import Derived.Test.YtbdilgkfnacahaaGreatBd
namespace Go.Proofs.YtbdilgkfnacahaaGreat
open Go.V Go
set_option linter.unusedSimpArgs false
set_option linter.unusedVariables false

/-- with fuel enough, more fuel says the same -/
theorem dfsF_more (idx : Nat → Nat → Nat) (stp : Tr3 → Res) (hl : ∀ t l, stp t = .more l → l.length ≤ 2) : ∀ (f f' : Nat) (arr : List Bool) (stk : List Tr3), 3 * arr.count false + stk.length ≤ f → f ≤ f' → dfsF idx stp f' arr stk = dfsF idx stp f arr stk := by
 intro f
 induction f with
 | zero =>
  intro f' arr stk h1 h2
  have : stk = [] := List.length_eq_zero_iff.1 (by omega)
  subst this
  cases f' <;> rfl
 | succ f ih =>
  intro f' arr stk h1 h2
  obtain ⟨f', rfl⟩ : ∃ k, f' = k + 1 := ⟨f' - 1, by omega⟩
  cases stk with
  | nil => rfl
  | cons t stk =>
   simp only [List.length_cons] at h1
   unfold dfsF
   split
   ·rename_i hb
    have hcnt := count_set hb
    split
    ·rfl
    ·rename_i l hS
     have := hl t l hS
     exact ih f' _ _ (by rw [List.length_append]; omega) (by omega)
   ·exact ih f' _ _ (by omega) (by omega)
end Go.Proofs.YtbdilgkfnacahaaGreat
