/- A closed sentence is reckoned by V: ProgRuns. No conditions. -/
import Derived.Test.YteaeandommcdcaaRzMProgRuns
import Derived.KernelRfl
namespace Go.Proofs.Yteaeandommcdcaa.progRuns
open Go.V
set_option maxRecDepth 1000000

theorem reckoned : isD (.bool true) (callD pvM 400 3 [] ⟨[], 0, 0⟩) = true := by kernel_rfl
end Go.Proofs.Yteaeandommcdcaa.progRuns
namespace Go.Proofs.Yteaeandommcdcaa
open Go.V
theorem progRunsIs : ∃ st, callD progRuns.pvM 400 3 [] ⟨[], 0, 0⟩ = some (.bool true, st) ∧ st.bs = [] := progRuns.isD_some progRuns.reckoned
end Go.Proofs.Yteaeandommcdcaa
