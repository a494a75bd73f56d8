/- A closed sentence is reckoned by V: StateRuns. No conditions. -/
import Derived.Test.YtecjacicdpejaaaGreatXRzMStateRuns
import Derived.KernelRfl
set_option maxRecDepth 1000000
namespace Go.Proofs.YtecjacicdpejaaaGreat.stateRuns
open Go.V
theorem D7:GD (.bool true) (cz KU 400 17 [] ⟨[],0,0⟩)=true:=by kernel_rfl
end Go.Proofs.YtecjacicdpejaaaGreat.stateRuns
namespace Go.Proofs.YtecjacicdpejaaaGreat
open Go.V
theorem w8:∃st,cz stateRuns.KU 400 17 [] ⟨[],0,0⟩=some (.bool true,st)∧st.bs=[]:=stateRuns.gj stateRuns.D7
end Go.Proofs.YtecjacicdpejaaaGreat
namespace Go.Proofs.YtecjacicdpejaaaGreat
open Go.V
theorem vu:fp Tryz.prog l5 17 (pB (.bool true)):=by
 obtain⟨st,h1,h2⟩:=w8;have h:=rX stateRuns.Lm h1 h2;exact⟨h.fn,h.calls,h.ro,h.len⟩
end Go.Proofs.YtecjacicdpejaaaGreat
