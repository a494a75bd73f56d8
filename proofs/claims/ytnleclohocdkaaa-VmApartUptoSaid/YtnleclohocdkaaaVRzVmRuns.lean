/- A closed sentence is reckoned by V: VmRuns. No conditions. -/
import Derived.Test.YtnleclohocdkaaaVRzMVmRuns
import Derived.KernelRfl
set_option maxRecDepth 1000000
namespace Go.Proofs.Ytnleclohocdkaaa.vmRuns
open Go.V
theorem CT:te (.bool true) (br Iw 400 33 [] ⟨[],0,0⟩)=true:=by kernel_rfl
end Go.Proofs.Ytnleclohocdkaaa.vmRuns
namespace Go.Proofs.Ytnleclohocdkaaa
open Go.V
theorem Cw:∃st,br vmRuns.Iw 400 33 [] ⟨[],0,0⟩=some (.bool true,st)∧st.bs=[]:=vmRuns.bY vmRuns.CT
end Go.Proofs.Ytnleclohocdkaaa
namespace Go.Proofs.Ytnleclohocdkaaa
open Go.V
theorem AU:fk Try.prog iZ 33 (ox (.bool true)):=by
 obtain⟨st,h1,h2⟩:=Cw;have h:=qk vmRuns.I1 h1 h2;exact⟨h.fn,h.calls,h.ro,h.len⟩
end Go.Proofs.Ytnleclohocdkaaa
