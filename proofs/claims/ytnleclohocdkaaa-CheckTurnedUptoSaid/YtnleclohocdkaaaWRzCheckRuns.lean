/- own -/
import Derived.Test.YtnleclohocdkaaaWView
import Derived.KernelRfl
set_option maxRecDepth 1000000
namespace Go.Proofs.Ytnleclohocdkaaa
open Go.V
def checkRunsTrue : Option (D × St) -> Bool
 | some (.bool true,⟨[],_,_⟩) => true
 | _ => false
theorem checkRunsReckoned : checkRunsTrue (callD pv0 400 13 [] ⟨[],0,0⟩) = true := by kernel_rfl
theorem checkRunsTrue_some {r : Option (D × St)} (h : checkRunsTrue r = true) : ∃ st,r = some (.bool true,st) /\ st.bs = [] := by
 match r,h with
 | some (.bool true,⟨[],a,b⟩),_ => exact ⟨⟨[],a,b⟩,rfl,rfl⟩
theorem checkRunsIs : ∃ st,callD pv0 400 13 [] ⟨[],0,0⟩ = some (.bool true,st) /\ st.bs = [] := checkRunsTrue_some checkRunsReckoned
end Go.Proofs.Ytnleclohocdkaaa
