/-
  Functions that answer no places are reckoned. By program.
-/
import Derived.Test.YtecjacicdpejaaaGreatTView
import Derived.Test.YtecjacicdpejaaaGreatTM2
import Derived.KernelRfl
set_option maxRecDepth 1000000
namespace Go.Proofs.YtecjacicdpejaaaGreat
open Go.V
def isNone10 : Option (D × St) → Bool
  | some (d, ⟨[], _, _⟩) => beqD (.agg [.int .i64 (-1), .int .i64 (-1), .int .i64 (-1), .int .i64 (-1), .int .i64 (-1), .int .i64 (-1), .int .i64 (-1), .int .i64 (-1), .int .i64 (-1), .int .i64 (-1)]) d
  | _ => false
theorem isNone10_some {r : Option (D × St)} (h : isNone10 r = true) : ∃ st, r = some (.agg [.int .i64 (-1), .int .i64 (-1), .int .i64 (-1), .int .i64 (-1), .int .i64 (-1), .int .i64 (-1), .int .i64 (-1), .int .i64 (-1), .int .i64 (-1), .int .i64 (-1)], st) ∧ st.bs = [] := by
  match r, h with
  | some (d, ⟨[], a, b⟩), h => exact ⟨⟨[], a, b⟩, by rw [beqD_eq _ _ h], rfl⟩
theorem none193R : isNone10 (callD pv0 100 193 [] ⟨[], 0, 0⟩) = true := by kernel_rfl
theorem none193_ok : PrimOk Tryz.prog pv0 193 (memo0 (.agg [.int .i64 (-1), .int .i64 (-1), .int .i64 (-1), .int .i64 (-1), .int .i64 (-1), .int .i64 (-1), .int .i64 (-1), .int .i64 (-1), .int .i64 (-1), .int .i64 (-1)])) := by
  obtain ⟨st, h1, h2⟩ := isNone10_some none193R
  exact memo0_ok view0 h1 h2
theorem none149R : isNone10 (callD pv0 100 149 [] ⟨[], 0, 0⟩) = true := by kernel_rfl
theorem none149_ok : PrimOk Tryz.prog pv0 149 (memo0 (.agg [.int .i64 (-1), .int .i64 (-1), .int .i64 (-1), .int .i64 (-1), .int .i64 (-1), .int .i64 (-1), .int .i64 (-1), .int .i64 (-1), .int .i64 (-1), .int .i64 (-1)])) := by
  obtain ⟨st, h1, h2⟩ := isNone10_some none149R
  exact memo0_ok view0 h1 h2
end Go.Proofs.YtecjacicdpejaaaGreat
