/- A closed sentence is reckoned by V: VmRuns. No conditions. -/
import Derived.Test.YtbdnabmmlbiomaaXRzMVmRuns
import Derived.KernelRfl
set_option maxRecDepth 1000000
namespace Go.Proofs.Ytbdnabmmlbiomaa.vmRuns
open Go.V
theorem AB:rA (.bool true) (bI Lr 400 10 [] ⟨[],0,0⟩)=true:=by kernel_rfl
end Go.Proofs.Ytbdnabmmlbiomaa.vmRuns
namespace Go.Proofs.Ytbdnabmmlbiomaa
open Go.V
theorem Ab:∃st,bI vmRuns.Lr 400 10 [] ⟨[],0,0⟩=some (.bool true,st)∧st.bs=[]:=vmRuns.b_ vmRuns.AB
end Go.Proofs.Ytbdnabmmlbiomaa
namespace Go.Proofs.Ytbdnabmmlbiomaa
open Go.V
theorem yE:eY Try.prog bd 10 (nz (.bool true)):=by
 obtain⟨st,h1,h2⟩:=Ab;have h:=oT vmRuns.LL h1 h2;exact⟨h.fn,h.calls,h.ro,h.len⟩
end Go.Proofs.Ytbdnabmmlbiomaa
