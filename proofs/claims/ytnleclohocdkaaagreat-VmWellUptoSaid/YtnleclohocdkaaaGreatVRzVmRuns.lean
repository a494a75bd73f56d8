/- A closed sentence is reckoned by V: VmRuns. No conditions. -/
import Derived.Test.YtnleclohocdkaaaGreatVRzMVmRuns
import Derived.KernelRfl
set_option maxRecDepth 1000000
namespace Go.Proofs.YtnleclohocdkaaaGreat.vmRuns
open Go.V
theorem B_:sS (.bool true) (bd Iy 400 14 [] ⟨[],0,0⟩)=true:=by kernel_rfl
end Go.Proofs.YtnleclohocdkaaaGreat.vmRuns
namespace Go.Proofs.YtnleclohocdkaaaGreat
open Go.V
theorem BJ:∃st,bd vmRuns.Iy 400 14 [] ⟨[],0,0⟩=some (.bool true,st)∧st.bs=[]:=vmRuns.bN vmRuns.B_
end Go.Proofs.YtnleclohocdkaaaGreat
namespace Go.Proofs.YtnleclohocdkaaaGreat
open Go.V
theorem An:eO Tryz.prog iu 14 (nV (.bool true)):=by
 obtain⟨st,h1,h2⟩:=BJ;have h:=pC vmRuns.I3 h1 h2;exact⟨h.fn,h.calls,h.ro,h.len⟩
end Go.Proofs.YtnleclohocdkaaaGreat
