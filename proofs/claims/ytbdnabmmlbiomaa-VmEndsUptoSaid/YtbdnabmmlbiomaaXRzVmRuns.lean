/- A closed sentence is reckoned by V: VmRuns. No conditions. -/
import Derived.Test.YtbdnabmmlbiomaaXRzMVmRuns
import Derived.KernelRfl
set_option maxRecDepth 1000000
namespace Go.Proofs.Ytbdnabmmlbiomaa.vmRuns
open Go.V
theorem zR:qz (.bool true) (aZ K6 400 10 [] ⟨[],0,0⟩)=true:=by kernel_rfl
end Go.Proofs.Ytbdnabmmlbiomaa.vmRuns
namespace Go.Proofs.Ytbdnabmmlbiomaa
open Go.V
theorem zt:∃st,aZ vmRuns.K6 400 10 [] ⟨[],0,0⟩=some (.bool true,st)∧st.bs=[]:=vmRuns.bU vmRuns.zR
end Go.Proofs.Ytbdnabmmlbiomaa
namespace Go.Proofs.Ytbdnabmmlbiomaa
open Go.V
theorem x6:dL Try.prog aV 10 (kb (.bool true)):=by
 obtain⟨st,h1,h2⟩:=zt;have h:=kO vmRuns.Lm h1 h2;exact⟨h.fn,h.calls,h.ro,h.len⟩
end Go.Proofs.Ytbdnabmmlbiomaa
