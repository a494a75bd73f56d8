/- A closed sentence is reckoned by V: VmRuns. No conditions. -/
import Derived.Test.YtnleclohocdkaaaGreatTRzMVmRuns
import Derived.KernelRfl
set_option maxRecDepth 1000000
namespace Go.Proofs.YtnleclohocdkaaaGreat.vmRuns
open Go.V
theorem AA:qY (.bool true) (aZ Gt 400 14 [] ⟨[],0,0⟩)=true:=by kernel_rfl
end Go.Proofs.YtnleclohocdkaaaGreat.vmRuns
namespace Go.Proofs.YtnleclohocdkaaaGreat
open Go.V
theorem Ad:∃st,aZ vmRuns.Gt 400 14 [] ⟨[],0,0⟩=some (.bool true,st)∧st.bs=[]:=vmRuns.bC vmRuns.AA
end Go.Proofs.YtnleclohocdkaaaGreat
namespace Go.Proofs.YtnleclohocdkaaaGreat
open Go.V
theorem yA:dU Tryz.prog gF 14 (ml (.bool true)):=by
 obtain⟨st,h1,h2⟩:=Ad;have h:=oc vmRuns.GS h1 h2;exact⟨h.fn,h.calls,h.ro,h.len⟩
end Go.Proofs.YtnleclohocdkaaaGreat
