/- A closed sentence is reckoned by V: CheckRuns. No conditions. -/
import Derived.Test.YtbdilgkfnacahaaXView
import Derived.KernelRfl
set_option maxRecDepth 1000000
namespace Go.Proofs.Ytbdilgkfnacahaa
open Go.V
def kz:Option (D×St)→Bool
 |some (.bool true,⟨[],_,_⟩)=>true
 |_=>false
theorem lF:kz (b9 bf 400 29 [] ⟨[],0,0⟩)=true:=by kernel_rfl
theorem kL {r:Option (D×St)} (h:kz r=true):∃st,r=some (.bool true,st)∧st.bs=[]:=by
 match r,h with
 |some (.bool true,⟨[],a,b⟩),_=>exact⟨⟨[],a,b⟩,rfl,rfl⟩
theorem uh:∃st,b9 bf 400 29 [] ⟨[],0,0⟩=some (.bool true,st)∧st.bs=[]:=kL lF
end Go.Proofs.Ytbdilgkfnacahaa
