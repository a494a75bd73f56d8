/- A closed sentence is reckoned by V: StateRuns. No conditions. -/
import Derived.Test.YteaeandommcdcaaGreatRzMStateRuns
import Derived.KernelRfl
namespace Go.Proofs.YteaeandommcdcaaGreat.stateRuns
open Go.V
set_option maxRecDepth 1000000

theorem reckoned : isD (.bool true) (callD pvM 400 5 [] ⟨[], 0, 0⟩) = true := by kernel_rfl
end Go.Proofs.YteaeandommcdcaaGreat.stateRuns
namespace Go.Proofs.YteaeandommcdcaaGreat
open Go.V
theorem stateRunsIs : ∃ st, callD stateRuns.pvM 400 5 [] ⟨[], 0, 0⟩ = some (.bool true, st) ∧ st.bs = [] := stateRuns.isD_some stateRuns.reckoned
end Go.Proofs.YteaeandommcdcaaGreat
