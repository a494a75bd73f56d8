/-
  The view with what was reckoned once laid over it. By program.
-/
import Derived.Test.YtecjacicdpejaaaGreatTView
import Derived.Test.YtecjacicdpejaaaGreatTM2
import Derived.Test.YtecjacicdpejaaaGreatTRzRulesRuns
import Derived.Test.YtecjacicdpejaaaGreatTRzNone
import Derived.Test.YtecjacicdpejaaaGreatTDgp
import Derived.Test.YtecjacicdpejaaaGreatTSrp
set_option maxRecDepth 100000
namespace Go.Proofs.YtecjacicdpejaaaGreat
open Go.V
noncomputable def pv : Pv := pv0.over [(51, memo0 (.bool true)), (193, memo0 (.agg [.int .i64 (-1), .int .i64 (-1), .int .i64 (-1), .int .i64 (-1), .int .i64 (-1), .int .i64 (-1), .int .i64 (-1), .int .i64 (-1), .int .i64 (-1), .int .i64 (-1)])), (149, memo0 (.agg [.int .i64 (-1), .int .i64 (-1), .int .i64 (-1), .int .i64 (-1), .int .i64 (-1), .int .i64 (-1), .int .i64 (-1), .int .i64 (-1), .int .i64 (-1), .int .i64 (-1)])), (271, digP), (251, srtP)]
theorem view : pv.Ok Tryz.prog ∧ pv.codes ∧ CfOk Tryz.prog pv (primF pv) := by
  refine view_over view0 rfl fun q hq => ?_
  simp only [List.mem_cons, List.not_mem_nil, or_false] at hq
  rcases hq with rfl | rfl | rfl | rfl | rfl
  · exact rulesRuns_ok
  · exact none193_ok
  · exact none149_ok
  · exact digP_ok (by kernel_rfl)
  · exact srtP_ok view0 (by kernel_rfl)
theorem fi12 : pv.fi 12 = some ⟨Tryz.f12, 12, .ro, false, none, [(9, [(1, 5), (9, 13)])]⟩ := by kernel_rfl
theorem fi18 : pv.fi 18 = some ⟨Tryz.f18, 7, .ro, false, none, []⟩ := by kernel_rfl
theorem fi21 : pv.fi 21 = some ⟨Tryz.f21, 6, .ro, false, none, []⟩ := by kernel_rfl
theorem fi28 : pv.fi 28 = some ⟨Tryz.f28, 8, .ro, false, none, []⟩ := by kernel_rfl
theorem fi34 : pv.fi 34 = some ⟨Tryz.f34, 9, .nw, false, none, []⟩ := by kernel_rfl
theorem fi35 : pv.fi 35 = some ⟨Tryz.f35, 3, .nw, false, none, []⟩ := by kernel_rfl
theorem fi36 : pv.fi 36 = some ⟨Tryz.f36, 3, .nw, false, none, []⟩ := by kernel_rfl
theorem fi37 : pv.fi 37 = some ⟨Tryz.f37, 60, .rw, false, none, []⟩ := by kernel_rfl
theorem fi38 : pv.fi 38 = some ⟨Tryz.f38, 6, .rw, false, none, []⟩ := by kernel_rfl
theorem fi41 : pv.fi 41 = some ⟨Tryz.f41, 3, .rw, false, none, []⟩ := by kernel_rfl
theorem fi42 : pv.fi 42 = some ⟨Tryz.f42, 3, .rw, false, none, []⟩ := by kernel_rfl
theorem fi49 : pv.fi 49 = some ⟨Tryz.f49, 3, .ro, false, none, []⟩ := by kernel_rfl
theorem fi56 : pv.fi 56 = some ⟨Tryz.f56, 5, .ro, false, none, []⟩ := by kernel_rfl
theorem fi63 : pv.fi 63 = some ⟨Tryz.f63, 5, .ro, false, none, []⟩ := by kernel_rfl
theorem fi64 : pv.fi 64 = some ⟨Tryz.f64, 6, .ro, false, none, []⟩ := by kernel_rfl
theorem fi65 : pv.fi 65 = some ⟨Tryz.f65, 4, .rw, false, none, []⟩ := by kernel_rfl
theorem fi66 : pv.fi 66 = some ⟨Tryz.f66, 8, .rw, false, none, []⟩ := by kernel_rfl
theorem fi73 : pv.fi 73 = some ⟨Tryz.f73, 9, .nw, false, none, []⟩ := by kernel_rfl
theorem fi81 : pv.fi 81 = some ⟨Tryz.f81, 6, .ro, false, none, []⟩ := by kernel_rfl
theorem fi82 : pv.fi 82 = some ⟨Tryz.f82, 5, .ro, false, none, []⟩ := by kernel_rfl
theorem fi97 : pv.fi 97 = some ⟨Tryz.f97, 7, .rw, false, none, []⟩ := by kernel_rfl
theorem fi98 : pv.fi 98 = some ⟨Tryz.f98, 8, .rw, false, none, []⟩ := by kernel_rfl
theorem fi100 : pv.fi 100 = some ⟨Tryz.f100, 8, .rw, false, none, []⟩ := by kernel_rfl
theorem fi124 : pv.fi 124 = some ⟨Tryz.f124, 6, .ro, false, none, []⟩ := by kernel_rfl
theorem fi127 : pv.fi 127 = some ⟨Tryz.f127, 17, .ro, false, none, []⟩ := by kernel_rfl
theorem fi128 : pv.fi 128 = some ⟨Tryz.f128, 5, .ro, false, none, []⟩ := by kernel_rfl
theorem fi129 : pv.fi 129 = some ⟨Tryz.f129, 11, .rw, false, none, []⟩ := by kernel_rfl
theorem fi130 : pv.fi 130 = some ⟨Tryz.f130, 4, .rw, false, none, []⟩ := by kernel_rfl
theorem fi131 : pv.fi 131 = some ⟨Tryz.f131, 7, .rw, false, none, []⟩ := by kernel_rfl
theorem fi140 : pv.fi 140 = some ⟨Tryz.f140, 6, .nw, false, none, []⟩ := by kernel_rfl
theorem fi152 : pv.fi 152 = some ⟨Tryz.f152, 7, .rw, false, none, []⟩ := by kernel_rfl
end Go.Proofs.YtecjacicdpejaaaGreat
