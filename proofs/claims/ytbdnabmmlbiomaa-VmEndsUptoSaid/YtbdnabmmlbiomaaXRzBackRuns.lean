/- A closed sentence is reckoned by V: BackRuns. No conditions. -/
import Derived.Test.YtbdnabmmlbiomaaXRzFinds
import Derived.KernelRfl
set_option maxRecDepth 1000000
namespace Go.Proofs.Ytbdnabmmlbiomaa
open Go.V
def lx:Option (D×St)→Bool
 |some (.bool true,⟨[],_,_⟩)=>true
 |_=>false
theorem mf:lx (aZ K7 400 21 [] ⟨[],0,0⟩)=true:=by kernel_rfl
theorem lv {r:Option (D×St)} (h:lx r=true):∃st,r=some (.bool true,st)∧st.bs=[]:=by
 match r,h with
 |some (.bool true,⟨[],a,b⟩),_=>exact⟨⟨[],a,b⟩,rfl,rfl⟩
theorem wJ:∃st,aZ K7 400 21 [] ⟨[],0,0⟩=some (.bool true,st)∧st.bs=[]:=lv mf
theorem uV:dL Try.prog aV 21 (kb (.bool true)):=by
 obtain⟨st,h1,h2⟩:=wJ;have h:=kO Ln h1 h2;exact⟨h.fn,h.calls,h.ro,h.len⟩
end Go.Proofs.Ytbdnabmmlbiomaa
