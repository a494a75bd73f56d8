/- own -/
import Derived.Test.YtnleclohocdkaaaWView
import Derived.Test.YtnleclohocdkaaaWM2
import Derived.Test.YtnleclohocdkaaaWRzCheckRuns
import Derived.Test.YtnleclohocdkaaaWRzNone
import Derived.Test.YtnleclohocdkaaaWDgp
import Derived.Test.YtnleclohocdkaaaWSrp
set_option maxRecDepth 100000
namespace Go.Proofs.Ytnleclohocdkaaa
open Go.V
noncomputable def pv : Pv := pv0.over [(13,memo0 (.bool true)),(83,memo0 (.agg [.int .i64 (-1), .int .i64 (-1), .int .i64 (-1), .int .i64 (-1), .int .i64 (-1), .int .i64 (-1), .int .i64 (-1), .int .i64 (-1), .int .i64 (-1), .int .i64 (-1)])),(93,memo0 (.agg [.int .i64 (-1), .int .i64 (-1), .int .i64 (-1), .int .i64 (-1), .int .i64 (-1), .int .i64 (-1), .int .i64 (-1), .int .i64 (-1), .int .i64 (-1), .int .i64 (-1)])),(126,digP),(115,srtP)]
theorem view : pv.Ok Try.prog /\ pv.codes /\ CfOk Try.prog pv (primF pv) := by
 refine view_over view0 rfl fun q hq => ?_
 simp only [List.mem_cons,List.not_mem_nil,or_false] at hq
 rcases hq with rfl | rfl | rfl | rfl | rfl
 ·obtain ⟨st,h1,h2⟩ := checkRunsIs
  exact memo0_ok view0 h1 h2
 ·exact none83_ok
 ·exact none93_ok
 ·exact digP_ok (by kernel_rfl)
 ·exact srtP_ok view0 (by kernel_rfl)
theorem fi3 : pv.fi 3 = some ⟨Try.f3,71, .ro,false,none, []⟩ := by kernel_rfl
theorem fi11 : pv.fi 11 = some ⟨Try.f11,24, .ro,false,none, []⟩ := by kernel_rfl
theorem fi12 : pv.fi 12 = some ⟨Try.f12,18, .ro,false,none, []⟩ := by kernel_rfl
theorem fi14 : pv.fi 14 = some ⟨Try.f14,6, .keep,false,none, []⟩ := by kernel_rfl
theorem fi15 : pv.fi 15 = some ⟨Try.f15,7, .ro,false,none, []⟩ := by kernel_rfl
theorem fi16 : pv.fi 16 = some ⟨Try.f16,49, .ro,false,none, []⟩ := by kernel_rfl
theorem fi17 : pv.fi 17 = some ⟨Try.f17,8, .ro,false,none, []⟩ := by kernel_rfl
theorem fi28 : pv.fi 28 = some ⟨Try.f28,6, .ro,false,none, []⟩ := by kernel_rfl
theorem fi38 : pv.fi 38 = some ⟨Try.f38,4, .rw,false,none, []⟩ := by kernel_rfl
theorem fi39 : pv.fi 39 = some ⟨Try.f39,7, .rw,false,none, []⟩ := by kernel_rfl
theorem fi40 : pv.fi 40 = some ⟨Try.f40,4, .ro,false,none, []⟩ := by kernel_rfl
theorem fi41 : pv.fi 41 = some ⟨Try.f41,36, .rw,false,none, []⟩ := by kernel_rfl
theorem fi42 : pv.fi 42 = some ⟨Try.f42,16, .rw,false,none, []⟩ := by kernel_rfl
theorem fi43 : pv.fi 43 = some ⟨Try.f43,5, .keep,false,none, []⟩ := by kernel_rfl
theorem fi44 : pv.fi 44 = some ⟨Try.f44,40, .keep,false,none, []⟩ := by kernel_rfl
theorem fi48 : pv.fi 48 = some ⟨Try.f48,39, .ro,false,none, []⟩ := by kernel_rfl
theorem fi49 : pv.fi 49 = some ⟨Try.f49,5, .ro,false,none, []⟩ := by kernel_rfl
theorem fi50 : pv.fi 50 = some ⟨Try.f50,41, .ro,false,none, []⟩ := by kernel_rfl
theorem fi51 : pv.fi 51 = some ⟨Try.f51,22, .ro,false,none, [(13, [(3,5)])]⟩ := by kernel_rfl
theorem fi52 : pv.fi 52 = some ⟨Try.f52,8, .ro,false,none, []⟩ := by kernel_rfl
theorem fi61 : pv.fi 61 = some ⟨Try.f61,9, .ro,false,none, []⟩ := by kernel_rfl
theorem fi71 : pv.fi 71 = some ⟨Try.f71,4, .rw,false,none, []⟩ := by kernel_rfl
theorem fi72 : pv.fi 72 = some ⟨Try.f72,5, .rw,false,none, []⟩ := by kernel_rfl
theorem fi73 : pv.fi 73 = some ⟨Try.f73,27, .ro,false,none, []⟩ := by kernel_rfl
theorem fi74 : pv.fi 74 = some ⟨Try.f74,8, .rw,false,none, []⟩ := by kernel_rfl
theorem fi75 : pv.fi 75 = some ⟨Try.f75,68, .keep,false,none, []⟩ := by kernel_rfl
theorem fi76 : pv.fi 76 = some ⟨Try.f76,78, .keep,false,none, []⟩ := by kernel_rfl
theorem fi77 : pv.fi 77 = some ⟨Try.f77,3, .ro,false,none, []⟩ := by kernel_rfl
theorem fi78 : pv.fi 78 = some ⟨Try.f78,5, .ro,false,none, []⟩ := by kernel_rfl
theorem fi79 : pv.fi 79 = some ⟨Try.f79,13, .ro,false,none, []⟩ := by kernel_rfl
theorem fi85 : pv.fi 85 = some ⟨Try.f85,5, .ro,false,none, []⟩ := by kernel_rfl
theorem fi98 : pv.fi 98 = some ⟨Try.f98,5, .rw,false,none, []⟩ := by kernel_rfl
theorem fi99 : pv.fi 99 = some ⟨Try.f99,5, .rw,false,none, []⟩ := by kernel_rfl
theorem fi100 : pv.fi 100 = some ⟨Try.f100,11, .ro,false,none, []⟩ := by kernel_rfl
theorem fi101 : pv.fi 101 = some ⟨Try.f101,4, .rw,false,none, []⟩ := by kernel_rfl
theorem fi102 : pv.fi 102 = some ⟨Try.f102,14, .ro,false,none, []⟩ := by kernel_rfl
theorem fi103 : pv.fi 103 = some ⟨Try.f103,26, .ro,false,none, []⟩ := by kernel_rfl
theorem fi104 : pv.fi 104 = some ⟨Try.f104,6, .ro,false,none, []⟩ := by kernel_rfl
theorem fi111 : pv.fi 111 = some ⟨Try.f111,26, .rw,false,none, []⟩ := by kernel_rfl
theorem fi112 : pv.fi 112 = some ⟨Try.f112,14, .rw,false,none, []⟩ := by kernel_rfl
theorem fi113 : pv.fi 113 = some ⟨Try.f113,4, .ro,false,none, []⟩ := by kernel_rfl
theorem fi114 : pv.fi 114 = some ⟨Try.f114,20, .ro,false,none, []⟩ := by kernel_rfl
theorem fi117 : pv.fi 117 = some ⟨Try.f117,7, .ro,false,none, []⟩ := by kernel_rfl
theorem fi118 : pv.fi 118 = some ⟨Try.f118,6, .ro,false,none, []⟩ := by kernel_rfl
theorem fi119 : pv.fi 119 = some ⟨Try.f119,7, .keep,false,none, []⟩ := by kernel_rfl
theorem fi120 : pv.fi 120 = some ⟨Try.f120,5, .rw,false,none, []⟩ := by kernel_rfl
theorem fi121 : pv.fi 121 = some ⟨Try.f121,7, .rw,false,none, []⟩ := by kernel_rfl
theorem fi122 : pv.fi 122 = some ⟨Try.f122,7, .rw,false,none, []⟩ := by kernel_rfl
theorem fi123 : pv.fi 123 = some ⟨Try.f123,61, .rw,true,none, []⟩ := by kernel_rfl
theorem fi124 : pv.fi 124 = some ⟨Try.f124,1, .ro,false,none, []⟩ := by kernel_rfl
theorem fi125 : pv.fi 125 = some ⟨Try.f125,3, .ro,false,none, []⟩ := by kernel_rfl
theorem fi127 : pv.fi 127 = some ⟨Try.f127,5, .ro,false,none, []⟩ := by kernel_rfl
theorem fi128 : pv.fi 128 = some ⟨Try.f128,12, .ro,false,none, []⟩ := by kernel_rfl
theorem fi131 : pv.fi 131 = some ⟨Try.f131,8, .rw,false,none, []⟩ := by kernel_rfl
theorem fi132 : pv.fi 132 = some ⟨Try.f132,11, .ro,false,none, []⟩ := by kernel_rfl
theorem fi133 : pv.fi 133 = some ⟨Try.f133,3, .ro,false,none, []⟩ := by kernel_rfl
theorem fi147 : pv.fi 147 = some ⟨Try.f147,29, .rw,true,none, []⟩ := by kernel_rfl
end Go.Proofs.Ytnleclohocdkaaa
