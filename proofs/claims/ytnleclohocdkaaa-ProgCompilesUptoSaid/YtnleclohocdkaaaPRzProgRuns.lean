/- own -/
import Derived.Test.YtnleclohocdkaaaPRzMProgRuns
import Derived.KernelRfl
set_option maxRecDepth 1000000
namespace Go.Proofs.Ytnleclohocdkaaa.progRuns
open Go.V
theorem reckoned : isD (.bool true) (callD pvM 400 23 [] ⟨[],0,0⟩) = true := by kernel_rfl
end Go.Proofs.Ytnleclohocdkaaa.progRuns
namespace Go.Proofs.Ytnleclohocdkaaa
open Go.V
theorem progRunsIs : ∃ st,callD progRuns.pvM 400 23 [] ⟨[],0,0⟩ = some (.bool true,st) /\ st.bs = [] := progRuns.isD_some progRuns.reckoned
end Go.Proofs.Ytnleclohocdkaaa
namespace Go.Proofs.Ytnleclohocdkaaa
open Go.V
theorem progRuns_ok : PrimOk Try.prog pv0 23 (memo0 (.bool true)) := by
 obtain ⟨st,h1,h2⟩ := progRunsIs
 have h := memo0_ok progRuns.viewM h1 h2
 exact ⟨h.fn,h.calls,h.ro,h.len⟩
end Go.Proofs.Ytnleclohocdkaaa
