/- A closed sentence is reckoned by V: RulesRuns. No conditions. -/
import Derived.Test.YteaeandommcdcaaGreatRzMRulesRuns
import Derived.KernelRfl
namespace Go.Proofs.YteaeandommcdcaaGreat.rulesRuns
open Go.V
set_option maxRecDepth 1000000

theorem reckoned : isD (.bool true) (callD pvM 400 4 [] ⟨[], 0, 0⟩) = true := by kernel_rfl
end Go.Proofs.YteaeandommcdcaaGreat.rulesRuns
namespace Go.Proofs.YteaeandommcdcaaGreat
open Go.V
theorem rulesRunsIs : ∃ st, callD rulesRuns.pvM 400 4 [] ⟨[], 0, 0⟩ = some (.bool true, st) ∧ st.bs = [] := rulesRuns.isD_some rulesRuns.reckoned
end Go.Proofs.YteaeandommcdcaaGreat
