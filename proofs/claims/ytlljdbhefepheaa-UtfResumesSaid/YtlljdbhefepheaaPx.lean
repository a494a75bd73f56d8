/-
  The view with what was reckoned once laid over it. By program.
-/
import Derived.Test.YtlljdbhefepheaaView
import Derived.Test.YtlljdbhefepheaaWb
import Derived.Test.YtlljdbhefepheaaRzUtfRuns
namespace Go.Proofs.Ytlljdbhefepheaa
open Go.V
set_option maxRecDepth 100000
noncomputable def pv : Pv := pv0.over [(3, memo0 (.bool true))]
theorem view : pv.Ok Try.prog ∧ pv.codes ∧ CfOk Try.prog pv (primF pv) := by
  refine view_over view0 rfl fun q hq => ?_
  simp only [List.mem_cons, List.not_mem_nil, or_false] at hq
  rcases hq with rfl
  · obtain ⟨st, h1, h2⟩ := utfRunsIs
    exact memo0_ok view0 h1 h2
theorem fi2 : pv.fi 2 = some ⟨Try.f2, 0, .rw, false, none, []⟩ := by kernel_rfl
theorem fi3 : pv.fi 3 = some ⟨Try.f3, 9, .ro, false, none, []⟩ := by kernel_rfl
theorem fi4 : pv.fi 4 = some ⟨Try.f4, 4, .ro, false, none, []⟩ := by kernel_rfl
theorem fi5 : pv.fi 5 = some ⟨Try.f5, 14, .ro, false, none, []⟩ := by kernel_rfl
theorem fi6 : pv.fi 6 = some ⟨Try.f6, 8, .ro, false, none, []⟩ := by kernel_rfl
theorem fi7 : pv.fi 7 = some ⟨Try.f7, 9, .ro, false, none, []⟩ := by kernel_rfl
theorem fi8 : pv.fi 8 = some ⟨Try.f8, 10, .ro, false, none, []⟩ := by kernel_rfl
theorem fi9 : pv.fi 9 = some ⟨Try.f9, 15, .ro, false, none, [(15, [(5, 9), (5, 10)])]⟩ := by kernel_rfl
theorem fi10 : pv.fi 10 = some ⟨Try.f10, 1, .keep, false, none, []⟩ := by kernel_rfl
theorem fi11 : pv.fi 11 = some ⟨Try.f11, 6, .ro, false, none, []⟩ := by kernel_rfl
theorem fi12 : pv.fi 12 = some ⟨Try.f12, 6, .ro, false, none, []⟩ := by kernel_rfl
theorem fi13 : pv.fi 13 = some ⟨Try.f13, 9, .rw, false, none, []⟩ := by kernel_rfl
theorem fi14 : pv.fi 14 = some ⟨Try.f14, 6, .ro, false, none, []⟩ := by kernel_rfl
theorem fi15 : pv.fi 15 = some ⟨Try.f15, 3, .rw, false, none, []⟩ := by kernel_rfl
theorem fi16 : pv.fi 16 = some ⟨Try.f16, 8, .keep, false, none, []⟩ := by kernel_rfl
theorem fi17 : pv.fi 17 = some ⟨Try.f17, 7, .ro, false, none, []⟩ := by kernel_rfl
theorem fi18 : pv.fi 18 = some ⟨Try.f18, 5, .ro, false, none, []⟩ := by kernel_rfl
theorem fi19 : pv.fi 19 = some ⟨Try.f19, 8, .ro, false, none, []⟩ := by kernel_rfl
theorem fi20 : pv.fi 20 = some ⟨Try.f20, 9, .ro, false, none, []⟩ := by kernel_rfl
theorem fi21 : pv.fi 21 = some ⟨Try.f21, 4, .rw, false, none, []⟩ := by kernel_rfl
theorem fi22 : pv.fi 22 = some ⟨Try.f22, 7, .ro, false, none, []⟩ := by kernel_rfl
theorem fi23 : pv.fi 23 = some ⟨Try.f23, 5, .ro, false, none, []⟩ := by kernel_rfl
theorem fi24 : pv.fi 24 = some ⟨Try.f24, 9, .ro, false, none, []⟩ := by kernel_rfl
theorem fi25 : pv.fi 25 = some ⟨Try.f25, 2, .rw, false, none, []⟩ := by kernel_rfl
theorem fi26 : pv.fi 26 = some ⟨Try.f26, 24, .ro, false, none, []⟩ := by kernel_rfl
theorem fi27 : pv.fi 27 = some ⟨Try.f27, 6, .ro, false, none, []⟩ := by kernel_rfl
theorem fi28 : pv.fi 28 = some ⟨Try.f28, 5, .ro, false, none, []⟩ := by kernel_rfl
theorem fi29 : pv.fi 29 = some ⟨Try.f29, 3, .ro, false, none, []⟩ := by kernel_rfl
theorem fi30 : pv.fi 30 = some ⟨Try.f30, 6, .ro, false, none, []⟩ := by kernel_rfl
end Go.Proofs.Ytlljdbhefepheaa
