/- A closed sentence is reckoned by V: ScanRuns. No conditions. -/
import Derived.Test.YtnleclohocdkaaaGreatSRzMScanRuns
import Derived.KernelRfl
set_option maxRecDepth 1000000
namespace Go.Proofs.YtnleclohocdkaaaGreat.scanRuns
open Go.V
theorem B9:Ei (.bool true) (bZ ID 400 31 [] ⟨[],0,0⟩)=true:=by kernel_rfl
end Go.Proofs.YtnleclohocdkaaaGreat.scanRuns
namespace Go.Proofs.YtnleclohocdkaaaGreat
open Go.V
theorem w9:∃st,bZ scanRuns.ID 400 31 [] ⟨[],0,0⟩=some (.bool true,st)∧st.bs=[]:=scanRuns.eK scanRuns.B9
end Go.Proofs.YtnleclohocdkaaaGreat
namespace Go.Proofs.YtnleclohocdkaaaGreat
open Go.V
theorem uN:eQ Tryz.prog lp 31 (nH (.bool true)):=by
 obtain⟨st,h1,h2⟩:=w9;have h:=pj scanRuns.I9 h1 h2;exact⟨h.fn,h.calls,h.ro,h.len⟩
end Go.Proofs.YtnleclohocdkaaaGreat
