/- A closed sentence is reckoned by V: ProgRuns. No conditions. -/
import Derived.Test.YtbdilgkfnacahaaRzMProgRuns
import Derived.KernelRfl
namespace Go.Proofs.Ytbdilgkfnacahaa.progRuns
open Go.V
set_option maxRecDepth 1000000

theorem reckoned : isD (.bool true) (callD pvM 400 18 [] ⟨[], 0, 0⟩) = true := by kernel_rfl
end Go.Proofs.Ytbdilgkfnacahaa.progRuns
namespace Go.Proofs.Ytbdilgkfnacahaa
open Go.V
theorem progRunsIs : ∃ st, callD progRuns.pvM 400 18 [] ⟨[], 0, 0⟩ = some (.bool true, st) ∧ st.bs = [] := progRuns.isD_some progRuns.reckoned
end Go.Proofs.Ytbdilgkfnacahaa
namespace Go.Proofs.Ytbdilgkfnacahaa
open Go.V
theorem progRuns_ok : PrimOk Try.prog pv0 18 (memo0 (.bool true)) := by
  obtain ⟨st, h1, h2⟩ := progRunsIs
  have h := memo0_ok progRuns.viewM h1 h2
  exact ⟨h.fn, h.calls, h.ro, h.len⟩
end Go.Proofs.Ytbdilgkfnacahaa
