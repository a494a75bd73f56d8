/- A closed sentence is reckoned by V: EventRuns. No conditions. -/
import Derived.Test.YteaeandommcdcaaGreatRzMEventRuns
import Derived.KernelRfl
namespace Go.Proofs.YteaeandommcdcaaGreat.eventRuns
open Go.V
set_option maxRecDepth 1000000

theorem reckoned : isD (.bool true) (callD pvM 400 6 [] ⟨[], 0, 0⟩) = true := by kernel_rfl
end Go.Proofs.YteaeandommcdcaaGreat.eventRuns
namespace Go.Proofs.YteaeandommcdcaaGreat
open Go.V
theorem eventRunsIs : ∃ st, callD eventRuns.pvM 400 6 [] ⟨[], 0, 0⟩ = some (.bool true, st) ∧ st.bs = [] := eventRuns.isD_some eventRuns.reckoned
end Go.Proofs.YteaeandommcdcaaGreat
