/- A closed sentence is reckoned by V: VmRuns. No conditions. -/
import Derived.Test.YteaeandommcdcaaRzMVmRuns
import Derived.KernelRfl
namespace Go.Proofs.Yteaeandommcdcaa.vmRuns
open Go.V
set_option maxRecDepth 1000000

theorem reckoned : isD (.bool true) (callD pvM 400 6 [] ⟨[], 0, 0⟩) = true := by kernel_rfl
end Go.Proofs.Yteaeandommcdcaa.vmRuns
namespace Go.Proofs.Yteaeandommcdcaa
open Go.V
theorem vmRunsIs : ∃ st, callD vmRuns.pvM 400 6 [] ⟨[], 0, 0⟩ = some (.bool true, st) ∧ st.bs = [] := vmRuns.isD_some vmRuns.reckoned
end Go.Proofs.Yteaeandommcdcaa
