/- own -/
import Derived.Test.YtopaaegigcfkeaaGreatTRzMAwake
import Derived.KernelRfl
set_option maxRecDepth 1000000
namespace Go.Proofs.YtopaaegigcfkeaaGreat.awake
open Go.V
theorem reckoned : isD (.bool true) (callD pvM 400 15 [] ⟨[],0,0⟩) = true := by kernel_rfl
end Go.Proofs.YtopaaegigcfkeaaGreat.awake
namespace Go.Proofs.YtopaaegigcfkeaaGreat
open Go.V
theorem awakeIs : ∃ st,callD awake.pvM 400 15 [] ⟨[],0,0⟩ = some (.bool true,st) /\ st.bs = [] := awake.isD_some awake.reckoned
end Go.Proofs.YtopaaegigcfkeaaGreat
namespace Go.Proofs.YtopaaegigcfkeaaGreat
open Go.V
theorem awake_ok : PrimOk Tryz.prog pv0 15 (memo0 (.bool true)) := by
 obtain ⟨st,h1,h2⟩ := awakeIs
 have h := memo0_ok awake.viewM h1 h2
 exact ⟨h.fn,h.calls,h.ro,h.len⟩
end Go.Proofs.YtopaaegigcfkeaaGreat
