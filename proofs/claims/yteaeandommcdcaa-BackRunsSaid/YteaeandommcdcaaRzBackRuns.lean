/- A closed sentence is reckoned by V: BackRuns. No conditions. -/
import Derived.Test.YteaeandommcdcaaRzFinds
import Derived.KernelRfl
namespace Go.Proofs.Yteaeandommcdcaa
open Go.V
set_option maxRecDepth 1000000

def backRunsTrue : Option (D × St) → Bool
  | some (.bool true, ⟨[], _, _⟩) => true
  | _ => false

theorem backRunsReckoned : backRunsTrue (callD pvB 400 5 [] ⟨[], 0, 0⟩) = true := by kernel_rfl

theorem backRunsTrue_some {r : Option (D × St)} (h : backRunsTrue r = true) : ∃ st, r = some (.bool true, st) ∧ st.bs = [] := by
  match r, h with
  | some (.bool true, ⟨[], a, b⟩), _ => exact ⟨⟨[], a, b⟩, rfl, rfl⟩

theorem backRunsIs : ∃ st, callD pvB 400 5 [] ⟨[], 0, 0⟩ = some (.bool true, st) ∧ st.bs = [] := backRunsTrue_some backRunsReckoned
end Go.Proofs.Yteaeandommcdcaa
