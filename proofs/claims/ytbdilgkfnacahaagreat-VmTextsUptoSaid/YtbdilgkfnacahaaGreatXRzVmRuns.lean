/- A closed sentence is reckoned by V: VmRuns. No conditions. -/
import Derived.Test.YtbdilgkfnacahaaGreatXRzMVmRuns
import Derived.KernelRfl
set_option maxRecDepth 1000000
namespace Go.Proofs.YtbdilgkfnacahaaGreat.vmRuns
open Go.V
theorem Ad:q_ (.bool true) (bD LQ 400 14 [] ⟨[],0,0⟩)=true:=by kernel_rfl
end Go.Proofs.YtbdilgkfnacahaaGreat.vmRuns
namespace Go.Proofs.YtbdilgkfnacahaaGreat
open Go.V
theorem zK:∃st,bD vmRuns.LQ 400 14 [] ⟨[],0,0⟩=some (.bool true,st)∧st.bs=[]:=vmRuns.b6 vmRuns.Ad
end Go.Proofs.YtbdilgkfnacahaaGreat
namespace Go.Proofs.YtbdilgkfnacahaaGreat
open Go.V
theorem yl:eM Tryz.prog a8 14 (mZ (.bool true)):=by
 obtain⟨st,h1,h2⟩:=zK;have h:=oD vmRuns.Mf h1 h2;exact⟨h.fn,h.calls,h.ro,h.len⟩
end Go.Proofs.YtbdilgkfnacahaaGreat
