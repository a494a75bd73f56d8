/- own -/
import Derived.Test.YtapfahlbkhgdpaaTRzFinds
import Derived.KernelRfl
set_option maxRecDepth 1000000
namespace Go.Proofs.Ytapfahlbkhgdpaa
open Go.V
def backRunsTrue : Option (D × St) -> Bool
 | some (.bool true,⟨[],_,_⟩) => true
 | _ => false
theorem backRunsReckoned : backRunsTrue (callD pvB 400 8 [] ⟨[],0,0⟩) = true := by kernel_rfl
theorem backRunsTrue_some {r : Option (D × St)} (h : backRunsTrue r = true) : ∃ st,r = some (.bool true,st) /\ st.bs = [] := by
 match r,h with
 | some (.bool true,⟨[],a,b⟩),_ => exact ⟨⟨[],a,b⟩,rfl,rfl⟩
theorem backRunsIs : ∃ st,callD pvB 400 8 [] ⟨[],0,0⟩ = some (.bool true,st) /\ st.bs = [] := backRunsTrue_some backRunsReckoned
theorem backRuns_ok : PrimOk Try.prog pv0 8 (memo0 (.bool true)) := by
 obtain ⟨st,h1,h2⟩ := backRunsIs
 have h := memo0_ok viewB h1 h2
 exact ⟨h.fn,h.calls,h.ro,h.len⟩
end Go.Proofs.Ytapfahlbkhgdpaa
