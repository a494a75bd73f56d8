/- A closed sentence is reckoned by V: ScanRuns. No conditions. -/
import Derived.Test.YteaeandommcdcaaGreatRzMScanRuns
import Derived.KernelRfl
namespace Go.Proofs.YteaeandommcdcaaGreat.scanRuns
open Go.V
set_option maxRecDepth 1000000

theorem reckoned : isD (.bool true) (callD pvM 400 3 [] ⟨[], 0, 0⟩) = true := by kernel_rfl
end Go.Proofs.YteaeandommcdcaaGreat.scanRuns
namespace Go.Proofs.YteaeandommcdcaaGreat
open Go.V
theorem scanRunsIs : ∃ st, callD scanRuns.pvM 400 3 [] ⟨[], 0, 0⟩ = some (.bool true, st) ∧ st.bs = [] := scanRuns.isD_some scanRuns.reckoned
end Go.Proofs.YteaeandommcdcaaGreat
