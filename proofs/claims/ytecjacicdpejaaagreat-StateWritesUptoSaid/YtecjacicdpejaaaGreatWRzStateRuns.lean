/- A closed sentence is reckoned by V: StateRuns. No conditions. -/
import Derived.Test.YtecjacicdpejaaaGreatWRzMStateRuns
import Derived.KernelRfl
set_option maxRecDepth 1000000
namespace Go.Proofs.YtecjacicdpejaaaGreat.stateRuns
open Go.V
theorem K2:N3 (.bool true) (dQ TD 400 17 [] ⟨[],0,0⟩)=true:=by kernel_rfl
end Go.Proofs.YtecjacicdpejaaaGreat.stateRuns
namespace Go.Proofs.YtecjacicdpejaaaGreat
open Go.V
theorem CS:∃st,dQ stateRuns.TD 400 17 [] ⟨[],0,0⟩=some (.bool true,st)∧st.bs=[]:=stateRuns.jM stateRuns.K2
theorem Bk:iE Tryz.prog pZ 17 (vp (.bool true)):=by
 obtain⟨st,h1,h2⟩:=CS;have h:=xH stateRuns.T5 h1 h2;exact⟨h.fn,h.calls,h.ro,h.len⟩
end Go.Proofs.YtecjacicdpejaaaGreat
