/-
  Functions that answer no places are reckoned. By program.
-/
import Derived.Test.YtbdilgkfnacahaaView
import Derived.Test.YtbdilgkfnacahaaM2
import Derived.KernelRfl
namespace Go.Proofs.Ytbdilgkfnacahaa
open Go.V
set_option maxRecDepth 1000000

def isNone10 : Option (D × St) → Bool
  | some (d, ⟨[], _, _⟩) => beqD (.agg [.int .i64 (-1), .int .i64 (-1), .int .i64 (-1), .int .i64 (-1), .int .i64 (-1), .int .i64 (-1), .int .i64 (-1), .int .i64 (-1), .int .i64 (-1), .int .i64 (-1)]) d
  | _ => false

theorem isNone10_some {r : Option (D × St)} (h : isNone10 r = true) : ∃ st, r = some (.agg [.int .i64 (-1), .int .i64 (-1), .int .i64 (-1), .int .i64 (-1), .int .i64 (-1), .int .i64 (-1), .int .i64 (-1), .int .i64 (-1), .int .i64 (-1), .int .i64 (-1)], st) ∧ st.bs = [] := by
  match r, h with
  | some (d, ⟨[], a, b⟩), h => exact ⟨⟨[], a, b⟩, by rw [beqD_eq _ _ h], rfl⟩

theorem none73R : isNone10 (callD pv0 100 73 [] ⟨[], 0, 0⟩) = true := by kernel_rfl
theorem none73_ok : PrimOk Try.prog pv0 73 (memo0 (.agg [.int .i64 (-1), .int .i64 (-1), .int .i64 (-1), .int .i64 (-1), .int .i64 (-1), .int .i64 (-1), .int .i64 (-1), .int .i64 (-1), .int .i64 (-1), .int .i64 (-1)])) := by
  obtain ⟨st, h1, h2⟩ := isNone10_some none73R
  exact memo0_ok view0 h1 h2
theorem none59R : isNone10 (callD pv0 100 59 [] ⟨[], 0, 0⟩) = true := by kernel_rfl
theorem none59_ok : PrimOk Try.prog pv0 59 (memo0 (.agg [.int .i64 (-1), .int .i64 (-1), .int .i64 (-1), .int .i64 (-1), .int .i64 (-1), .int .i64 (-1), .int .i64 (-1), .int .i64 (-1), .int .i64 (-1), .int .i64 (-1)])) := by
  obtain ⟨st, h1, h2⟩ := isNone10_some none59R
  exact memo0_ok view0 h1 h2
end Go.Proofs.Ytbdilgkfnacahaa
