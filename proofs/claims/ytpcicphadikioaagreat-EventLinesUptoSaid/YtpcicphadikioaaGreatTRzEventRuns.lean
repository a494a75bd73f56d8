/- A closed sentence is reckoned by V: EventRuns. No conditions. -/
import Derived.Test.YtpcicphadikioaaGreatTRzMEventRuns
import Derived.KernelRfl
set_option maxRecDepth 1000000
namespace Go.Proofs.YtpcicphadikioaaGreat.eventRuns
open Go.V
theorem CK:z7 (.bool true) (bI IZ 400 7 [] ⟨[],0,0⟩)=true:=by kernel_rfl
end Go.Proofs.YtpcicphadikioaaGreat.eventRuns
namespace Go.Proofs.YtpcicphadikioaaGreat
open Go.V
theorem xb:∃st,bI eventRuns.IZ 400 7 [] ⟨[],0,0⟩=some (.bool true,st)∧st.bs=[]:=eventRuns.dr eventRuns.CK
end Go.Proofs.YtpcicphadikioaaGreat
namespace Go.Proofs.YtpcicphadikioaaGreat
open Go.V
theorem uR:eA Tryz.prog dN 7 (sK (.bool true)):=by
 obtain⟨st,h1,h2⟩:=xb;have h:=wm eventRuns.Jk h1 h2;exact⟨h.fn,h.calls,h.ro,h.len⟩
end Go.Proofs.YtpcicphadikioaaGreat
