/- A closed sentence is reckoned by V: RulesRuns. No conditions. -/
import Derived.Test.YtecjacicdpejaaaGreatTRzMRulesRuns
import Derived.KernelRfl
set_option maxRecDepth 1000000
namespace Go.Proofs.YtecjacicdpejaaaGreat.rulesRuns
open Go.V
theorem reckoned : isD (.bool true) (callD pvM 400 51 [] ⟨[], 0, 0⟩) = true := by kernel_rfl
end Go.Proofs.YtecjacicdpejaaaGreat.rulesRuns
namespace Go.Proofs.YtecjacicdpejaaaGreat
open Go.V
theorem rulesRunsIs : ∃ st, callD rulesRuns.pvM 400 51 [] ⟨[], 0, 0⟩ = some (.bool true, st) ∧ st.bs = [] := rulesRuns.isD_some rulesRuns.reckoned
end Go.Proofs.YtecjacicdpejaaaGreat
namespace Go.Proofs.YtecjacicdpejaaaGreat
open Go.V
theorem rulesRuns_ok : PrimOk Tryz.prog pv0 51 (memo0 (.bool true)) := by
  obtain ⟨st, h1, h2⟩ := rulesRunsIs
  have h := memo0_ok rulesRuns.viewM h1 h2
  exact ⟨h.fn, h.calls, h.ro, h.len⟩
end Go.Proofs.YtecjacicdpejaaaGreat
