/- A closed sentence is reckoned by V: ProgRuns. No conditions. -/
import Derived.Test.YtbdilgkfnacahaaXRzMProgRuns
import Derived.KernelRfl
set_option maxRecDepth 1000000
namespace Go.Proofs.Ytbdilgkfnacahaa.progRuns
open Go.V
theorem yU:Rc (.bool true) (b9 J8 400 18 [] ⟨[],0,0⟩)=true:=by kernel_rfl
end Go.Proofs.Ytbdilgkfnacahaa.progRuns
namespace Go.Proofs.Ytbdilgkfnacahaa
open Go.V
theorem uZ:∃st,b9 progRuns.J8 400 18 [] ⟨[],0,0⟩=some (.bool true,st)∧st.bs=[]:=progRuns.zA progRuns.yU
end Go.Proofs.Ytbdilgkfnacahaa
namespace Go.Proofs.Ytbdilgkfnacahaa
open Go.V
theorem te:e_ Try.prog bf 18 (jC (.bool true)):=by
 obtain⟨st,h1,h2⟩:=uZ;have h:=jB progRuns.Kv h1 h2;exact⟨h.fn,h.calls,h.ro,h.len⟩
end Go.Proofs.Ytbdilgkfnacahaa
