/-
  Functions that answer no places are reckoned. By program.
-/
import Derived.Test.YtbdilgkfnacahaaGreatView
import Derived.Test.YtbdilgkfnacahaaGreatM2
import Derived.KernelRfl
namespace Go.Proofs.YtbdilgkfnacahaaGreat
open Go.V
set_option maxRecDepth 1000000

def isNone10 : Option (D × St) → Bool
  | some (d, ⟨[], _, _⟩) => beqD (.agg [.int .i64 (-1), .int .i64 (-1), .int .i64 (-1), .int .i64 (-1), .int .i64 (-1), .int .i64 (-1), .int .i64 (-1), .int .i64 (-1), .int .i64 (-1), .int .i64 (-1)]) d
  | _ => false

theorem isNone10_some {r : Option (D × St)} (h : isNone10 r = true) : ∃ st, r = some (.agg [.int .i64 (-1), .int .i64 (-1), .int .i64 (-1), .int .i64 (-1), .int .i64 (-1), .int .i64 (-1), .int .i64 (-1), .int .i64 (-1), .int .i64 (-1), .int .i64 (-1)], st) ∧ st.bs = [] := by
  match r, h with
  | some (d, ⟨[], a, b⟩), h => exact ⟨⟨[], a, b⟩, by rw [beqD_eq _ _ h], rfl⟩

theorem none52R : isNone10 (callD pv0 100 52 [] ⟨[], 0, 0⟩) = true := by kernel_rfl
theorem none52_ok : PrimOk Tryz.prog pv0 52 (memo0 (.agg [.int .i64 (-1), .int .i64 (-1), .int .i64 (-1), .int .i64 (-1), .int .i64 (-1), .int .i64 (-1), .int .i64 (-1), .int .i64 (-1), .int .i64 (-1), .int .i64 (-1)])) := by
  obtain ⟨st, h1, h2⟩ := isNone10_some none52R
  exact memo0_ok view0 h1 h2
theorem none30R : isNone10 (callD pv0 100 30 [] ⟨[], 0, 0⟩) = true := by kernel_rfl
theorem none30_ok : PrimOk Tryz.prog pv0 30 (memo0 (.agg [.int .i64 (-1), .int .i64 (-1), .int .i64 (-1), .int .i64 (-1), .int .i64 (-1), .int .i64 (-1), .int .i64 (-1), .int .i64 (-1), .int .i64 (-1), .int .i64 (-1)])) := by
  obtain ⟨st, h1, h2⟩ := isNone10_some none30R
  exact memo0_ok view0 h1 h2
end Go.Proofs.YtbdilgkfnacahaaGreat
