/- A closed sentence is reckoned by V: UtfRuns. No conditions. -/
import Derived.Test.YtlljdbhefepheaaView
import Derived.KernelRfl
namespace Go.Proofs.Ytlljdbhefepheaa
open Go.V
set_option maxRecDepth 1000000

def utfRunsTrue : Option (D × St) → Bool
  | some (.bool true, ⟨[], _, _⟩) => true
  | _ => false

theorem utfRunsReckoned : utfRunsTrue (callD pv0 400 3 [] ⟨[], 0, 0⟩) = true := by kernel_rfl

theorem utfRunsTrue_some {r : Option (D × St)} (h : utfRunsTrue r = true) : ∃ st, r = some (.bool true, st) ∧ st.bs = [] := by
  match r, h with
  | some (.bool true, ⟨[], a, b⟩), _ => exact ⟨⟨[], a, b⟩, rfl, rfl⟩

theorem utfRunsIs : ∃ st, callD pv0 400 3 [] ⟨[], 0, 0⟩ = some (.bool true, st) ∧ st.bs = [] := utfRunsTrue_some utfRunsReckoned
end Go.Proofs.Ytlljdbhefepheaa
