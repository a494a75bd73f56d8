/- A closed sentence is reckoned by V: RulesRuns. No conditions. -/
import Derived.Test.YthahmilhpmfkfaaGreatVRzMRulesRuns
import Derived.KernelRfl
set_option maxRecDepth 1000000
namespace Go.Proofs.YthahmilhpmfkfaaGreat.rulesRuns
open Go.V
theorem Fe:yG (.bool true) (cz Mc 400 6 [] ⟨[],0,0⟩)=true:=by kernel_rfl
end Go.Proofs.YthahmilhpmfkfaaGreat.rulesRuns
namespace Go.Proofs.YthahmilhpmfkfaaGreat
open Go.V
theorem xO:∃st,cz rulesRuns.Mc 400 6 [] ⟨[],0,0⟩=some (.bool true,st)∧st.bs=[]:=rulesRuns.cS rulesRuns.Fe
end Go.Proofs.YthahmilhpmfkfaaGreat
namespace Go.Proofs.YthahmilhpmfkfaaGreat
open Go.V
theorem vS:jj Tryz.prog eQ 6 (B1 (.bool true)):=by
 obtain⟨st,h1,h2⟩:=xO;have h:=FQ rulesRuns.Mz h1 h2;exact⟨h.fn,h.calls,h.ro,h.len⟩
end Go.Proofs.YthahmilhpmfkfaaGreat
