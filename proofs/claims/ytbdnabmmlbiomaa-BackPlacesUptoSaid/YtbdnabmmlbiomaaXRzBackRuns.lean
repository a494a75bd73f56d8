/- A closed sentence is reckoned by V: BackRuns. No conditions. -/
import Derived.Test.YtbdnabmmlbiomaaXRzFinds
import Derived.KernelRfl
set_option maxRecDepth 1000000
namespace Go.Proofs.Ytbdnabmmlbiomaa
open Go.V
def kK:Option (D×St)→Bool
 |some (.bool true,⟨[],_,_⟩)=>true
 |_=>false
theorem lA:kK (b8 Il 400 21 [] ⟨[],0,0⟩)=true:=by kernel_rfl
theorem kJ {r:Option (D×St)} (h:kK r=true):∃st,r=some (.bool true,st)∧st.bs=[]:=by
 match r,h with
 |some (.bool true,⟨[],a,b⟩),_=>exact⟨⟨[],a,b⟩,rfl,rfl⟩
theorem uD:∃st,b8 Il 400 21 [] ⟨[],0,0⟩=some (.bool true,st)∧st.bs=[]:=kJ lA
theorem sX:fX Try.prog bf 21 (lL (.bool true)):=by
 obtain⟨st,h1,h2⟩:=uD;have h:=mU II h1 h2;exact⟨h.fn,h.calls,h.ro,h.len⟩
end Go.Proofs.Ytbdnabmmlbiomaa
