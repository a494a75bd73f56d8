/- A closed sentence is reckoned by V: StateRuns. No conditions. -/
import Derived.Test.YtkbacjpologjbaaGreatWRzMStateRuns
import Derived.KernelRfl
set_option maxRecDepth 1000000
namespace Go.Proofs.YtkbacjpologjbaaGreat.stateRuns
open Go.V
theorem HB:Ku (.bool true) (cQ PA 400 7 [] ⟨[],0,0⟩)=true:=by kernel_rfl
end Go.Proofs.YtkbacjpologjbaaGreat.stateRuns
namespace Go.Proofs.YtkbacjpologjbaaGreat
open Go.V
theorem Ad:∃st,cQ stateRuns.PA 400 7 [] ⟨[],0,0⟩=some (.bool true,st)∧st.bs=[]:=stateRuns.iz stateRuns.HB
theorem yq:gr Tryz.prog nQ 7 (sU (.bool true)):=by
 obtain⟨st,h1,h2⟩:=Ad;have h:=uY stateRuns.P8 h1 h2;exact⟨h.fn,h.calls,h.ro,h.len⟩
end Go.Proofs.YtkbacjpologjbaaGreat
