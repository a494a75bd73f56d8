/- A closed sentence is reckoned by V: BackRuns. No conditions. -/
import Derived.Test.YtbdilgkfnacahaaXRzFinds
import Derived.KernelRfl
set_option maxRecDepth 1000000
namespace Go.Proofs.Ytbdilgkfnacahaa
open Go.V
def lM:Option (D×St)→Bool
 |some (.bool true,⟨[],_,_⟩)=>true
 |_=>false
theorem mD:lM (b9 J9 400 34 [] ⟨[],0,0⟩)=true:=by kernel_rfl
theorem lL {r:Option (D×St)} (h:lM r=true):∃st,r=some (.bool true,st)∧st.bs=[]:=by
 match r,h with
 |some (.bool true,⟨[],a,b⟩),_=>exact⟨⟨[],a,b⟩,rfl,rfl⟩
theorem vY:∃st,b9 J9 400 34 [] ⟨[],0,0⟩=some (.bool true,st)∧st.bs=[]:=lL mD
theorem uw:e_ Try.prog bf 34 (jC (.bool true)):=by
 obtain⟨st,h1,h2⟩:=vY;have h:=jB Kw h1 h2;exact⟨h.fn,h.calls,h.ro,h.len⟩
end Go.Proofs.Ytbdilgkfnacahaa
