/- A closed sentence is reckoned by V: RulesRuns. No conditions. -/
import Derived.Test.YtecjacicdpejaaaGreatXRzMRulesRuns
import Derived.KernelRfl
set_option maxRecDepth 1000000
namespace Go.Proofs.YtecjacicdpejaaaGreat.rulesRuns
open Go.V
theorem CO:wI (.bool true) (cg Jf 400 51 [] ⟨[],0,0⟩)=true:=by kernel_rfl
end Go.Proofs.YtecjacicdpejaaaGreat.rulesRuns
namespace Go.Proofs.YtecjacicdpejaaaGreat
open Go.V
theorem vL:∃st,cg rulesRuns.Jf 400 51 [] ⟨[],0,0⟩=some (.bool true,st)∧st.bs=[]:=rulesRuns.cI rulesRuns.CO
end Go.Proofs.YtecjacicdpejaaaGreat
namespace Go.Proofs.YtecjacicdpejaaaGreat
open Go.V
theorem tZ:fQ Tryz.prog dY 51 (oB (.bool true)):=by
 obtain⟨st,h1,h2⟩:=vL;have h:=qz rulesRuns.JK h1 h2;exact⟨h.fn,h.calls,h.ro,h.len⟩
end Go.Proofs.YtecjacicdpejaaaGreat
