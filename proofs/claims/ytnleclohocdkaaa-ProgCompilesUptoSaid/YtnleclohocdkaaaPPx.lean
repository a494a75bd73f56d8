/- own -/
import Derived.Test.YtnleclohocdkaaaPView
import Derived.Test.YtnleclohocdkaaaPM2
import Derived.Test.YtnleclohocdkaaaPRzProgRuns
import Derived.Test.YtnleclohocdkaaaPRzNone
import Derived.Test.YtnleclohocdkaaaPDgp
import Derived.Test.YtnleclohocdkaaaPSrp
set_option maxRecDepth 100000
namespace Go.Proofs.Ytnleclohocdkaaa
open Go.V
noncomputable def pv : Pv := pv0.over [(23,memo0 (.bool true)),(83,memo0 (.agg [.int .i64 (-1), .int .i64 (-1), .int .i64 (-1), .int .i64 (-1), .int .i64 (-1), .int .i64 (-1), .int .i64 (-1), .int .i64 (-1), .int .i64 (-1), .int .i64 (-1)])),(93,memo0 (.agg [.int .i64 (-1), .int .i64 (-1), .int .i64 (-1), .int .i64 (-1), .int .i64 (-1), .int .i64 (-1), .int .i64 (-1), .int .i64 (-1), .int .i64 (-1), .int .i64 (-1)])),(126,digP),(115,srtP)]
theorem view : pv.Ok Try.prog /\ pv.codes /\ CfOk Try.prog pv (primF pv) := by
 refine view_over view0 rfl fun q hq => ?_
 simp only [List.mem_cons,List.not_mem_nil,or_false] at hq
 rcases hq with rfl | rfl | rfl | rfl | rfl
 ·exact progRuns_ok
 ·exact none83_ok
 ·exact none93_ok
 ·exact digP_ok (by kernel_rfl)
 ·exact srtP_ok view0 (by kernel_rfl)
theorem fi4 : pv.fi 4 = some ⟨Try.f4,14, .ro,false,none, []⟩ := by kernel_rfl
theorem fi12 : pv.fi 12 = some ⟨Try.f12,18, .keep,false,none, []⟩ := by kernel_rfl
theorem fi18 : pv.fi 18 = some ⟨Try.f18,3, .ro,false,none, []⟩ := by kernel_rfl
theorem fi19 : pv.fi 19 = some ⟨Try.f19,6, .ro,false,none, []⟩ := by kernel_rfl
theorem fi20 : pv.fi 20 = some ⟨Try.f20,9, .ro,false,none, []⟩ := by kernel_rfl
theorem fi21 : pv.fi 21 = some ⟨Try.f21,8, .ro,false,none, [(6, [(6,12),(8,12),(9,12)])]⟩ := by kernel_rfl
theorem fi22 : pv.fi 22 = some ⟨Try.f22,8, .ro,false,none, [(6, [(6,10),(7,10)])]⟩ := by kernel_rfl
theorem fi40 : pv.fi 40 = some ⟨Try.f40,4, .ro,false,none, []⟩ := by kernel_rfl
theorem fi41 : pv.fi 41 = some ⟨Try.f41,36, .rw,false,none, []⟩ := by kernel_rfl
theorem fi42 : pv.fi 42 = some ⟨Try.f42,16, .rw,false,none, []⟩ := by kernel_rfl
theorem fi43 : pv.fi 43 = some ⟨Try.f43,5, .keep,false,none, []⟩ := by kernel_rfl
theorem fi44 : pv.fi 44 = some ⟨Try.f44,40, .keep,false,none, []⟩ := by kernel_rfl
theorem fi46 : pv.fi 46 = some ⟨Try.f46,6, .ro,false,none, []⟩ := by kernel_rfl
theorem fi53 : pv.fi 53 = some ⟨Try.f53,5, .ro,false,none, []⟩ := by kernel_rfl
theorem fi54 : pv.fi 54 = some ⟨Try.f54,10, .ro,false,none, []⟩ := by kernel_rfl
theorem fi55 : pv.fi 55 = some ⟨Try.f55,5, .keep,false,none, []⟩ := by kernel_rfl
theorem fi56 : pv.fi 56 = some ⟨Try.f56,12, .keep,false,none, []⟩ := by kernel_rfl
theorem fi57 : pv.fi 57 = some ⟨Try.f57,6, .ro,false,none, []⟩ := by kernel_rfl
theorem fi74 : pv.fi 74 = some ⟨Try.f74,8, .rw,false,none, []⟩ := by kernel_rfl
theorem fi75 : pv.fi 75 = some ⟨Try.f75,68, .keep,false,none, []⟩ := by kernel_rfl
theorem fi76 : pv.fi 76 = some ⟨Try.f76,78, .keep,false,none, []⟩ := by kernel_rfl
theorem fi77 : pv.fi 77 = some ⟨Try.f77,3, .ro,false,none, []⟩ := by kernel_rfl
theorem fi78 : pv.fi 78 = some ⟨Try.f78,5, .ro,false,none, []⟩ := by kernel_rfl
theorem fi80 : pv.fi 80 = some ⟨Try.f80,5, .ro,false,none, []⟩ := by kernel_rfl
theorem fi81 : pv.fi 81 = some ⟨Try.f81,8, .keep,false,none, []⟩ := by kernel_rfl
theorem fi82 : pv.fi 82 = some ⟨Try.f82,12, .keep,false,none, []⟩ := by kernel_rfl
theorem fi100 : pv.fi 100 = some ⟨Try.f100,11, .ro,false,none, []⟩ := by kernel_rfl
theorem fi101 : pv.fi 101 = some ⟨Try.f101,4, .rw,false,none, []⟩ := by kernel_rfl
theorem fi102 : pv.fi 102 = some ⟨Try.f102,14, .ro,false,none, []⟩ := by kernel_rfl
theorem fi103 : pv.fi 103 = some ⟨Try.f103,26, .ro,false,none, []⟩ := by kernel_rfl
theorem fi104 : pv.fi 104 = some ⟨Try.f104,6, .ro,false,none, []⟩ := by kernel_rfl
theorem fi105 : pv.fi 105 = some ⟨Try.f105,30, .ro,false,none, [(22, [(3,7),(5,7),(5,9)])]⟩ := by kernel_rfl
theorem fi106 : pv.fi 106 = some ⟨Try.f106,7, .ro,false,none, []⟩ := by kernel_rfl
theorem fi107 : pv.fi 107 = some ⟨Try.f107,4, .rw,false,none, []⟩ := by kernel_rfl
theorem fi113 : pv.fi 113 = some ⟨Try.f113,4, .ro,false,none, []⟩ := by kernel_rfl
theorem fi114 : pv.fi 114 = some ⟨Try.f114,20, .ro,false,none, []⟩ := by kernel_rfl
theorem fi117 : pv.fi 117 = some ⟨Try.f117,7, .ro,false,none, []⟩ := by kernel_rfl
theorem fi118 : pv.fi 118 = some ⟨Try.f118,6, .ro,false,none, []⟩ := by kernel_rfl
theorem fi119 : pv.fi 119 = some ⟨Try.f119,7, .keep,false,none, []⟩ := by kernel_rfl
end Go.Proofs.Ytnleclohocdkaaa
