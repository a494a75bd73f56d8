/- own -/
import Derived.Test.YtapfahlbkhgdpaaTView
import Derived.Test.YtapfahlbkhgdpaaTM2
import Derived.KernelRfl
set_option maxRecDepth 1000000
namespace Go.Proofs.Ytapfahlbkhgdpaa
open Go.V
def isNone10 : Option (D × St) -> Bool
 | some (d,⟨[],_,_⟩) => beqD (.agg [.int .i64 (-1), .int .i64 (-1), .int .i64 (-1), .int .i64 (-1), .int .i64 (-1), .int .i64 (-1), .int .i64 (-1), .int .i64 (-1), .int .i64 (-1), .int .i64 (-1)]) d
 | _ => false
theorem isNone10_some {r : Option (D × St)} (h : isNone10 r = true) : ∃ st,r = some (.agg [.int .i64 (-1), .int .i64 (-1), .int .i64 (-1), .int .i64 (-1), .int .i64 (-1), .int .i64 (-1), .int .i64 (-1), .int .i64 (-1), .int .i64 (-1), .int .i64 (-1)],st) /\ st.bs = [] := by
 match r,h with
 | some (d,⟨[],a,b⟩),h => exact ⟨⟨[],a,b⟩,by rw [beqD_eq _ _ h],rfl⟩
theorem none27R : isNone10 (callD pv0 100 27 [] ⟨[],0,0⟩) = true := by kernel_rfl
theorem none27_ok : PrimOk Try.prog pv0 27 (memo0 (.agg [.int .i64 (-1), .int .i64 (-1), .int .i64 (-1), .int .i64 (-1), .int .i64 (-1), .int .i64 (-1), .int .i64 (-1), .int .i64 (-1), .int .i64 (-1), .int .i64 (-1)])) := by
 obtain ⟨st,h1,h2⟩ := isNone10_some none27R
 exact memo0_ok view0 h1 h2
end Go.Proofs.Ytapfahlbkhgdpaa
