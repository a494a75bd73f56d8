/- A closed sentence is reckoned by V: BackRuns. No conditions. -/
import Derived.Test.YtnleclohocdkaaaWRzFinds
import Derived.KernelRfl
set_option maxRecDepth 1000000
namespace Go.Proofs.Ytnleclohocdkaaa
open Go.V
def mR:Option (D×St)→Bool
 |some (.bool true,⟨[],_,_⟩)=>true
 |_=>false
theorem nR:mR (aZ G9 400 26 [] ⟨[],0,0⟩)=true:=by kernel_rfl
theorem mQ {r:Option (D×St)} (h:mR r=true):∃st,r=some (.bool true,st)∧st.bs=[]:=by
 match r,h with
 |some (.bool true,⟨[],a,b⟩),_=>exact⟨⟨[],a,b⟩,rfl,rfl⟩
theorem yD:∃st,aZ G9 400 26 [] ⟨[],0,0⟩=some (.bool true,st)∧st.bs=[]:=mQ nR
theorem wV:dg Try.prog eY 26 (jt (.bool true)):=by
 obtain⟨st,h1,h2⟩:=yD;have h:=jr Hx h1 h2;exact⟨h.fn,h.calls,h.ro,h.len⟩
end Go.Proofs.Ytnleclohocdkaaa
