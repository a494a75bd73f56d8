/- A closed sentence is reckoned by V: VmRuns. No conditions. -/
import Derived.Test.YtbdilgkfnacahaaGreatXRzMVmRuns
import Derived.KernelRfl
set_option maxRecDepth 1000000
namespace Go.Proofs.YtbdilgkfnacahaaGreat.vmRuns
open Go.V
theorem tW:mB (.bool true) (aV Fy 400 14 [] ⟨[],0,0⟩)=true:=by kernel_rfl
end Go.Proofs.YtbdilgkfnacahaaGreat.vmRuns
namespace Go.Proofs.YtbdilgkfnacahaaGreat
open Go.V
theorem tI:∃st,aV vmRuns.Fy 400 14 [] ⟨[],0,0⟩=some (.bool true,st)∧st.bs=[]:=vmRuns.bj vmRuns.tW
end Go.Proofs.YtbdilgkfnacahaaGreat
namespace Go.Proofs.YtbdilgkfnacahaaGreat
open Go.V
theorem sD:dj Tryz.prog aK 14 (jY (.bool true)):=by
 obtain⟨st,h1,h2⟩:=tI;have h:=kW vmRuns.FR h1 h2;exact⟨h.fn,h.calls,h.ro,h.len⟩
end Go.Proofs.YtbdilgkfnacahaaGreat
