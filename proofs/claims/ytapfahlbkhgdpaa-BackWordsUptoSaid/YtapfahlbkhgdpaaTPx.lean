/- own -/
import Derived.Test.YtapfahlbkhgdpaaTView
import Derived.Test.YtapfahlbkhgdpaaTM2
import Derived.Test.YtapfahlbkhgdpaaTRzBackRuns
import Derived.Test.YtapfahlbkhgdpaaTRzNone
import Derived.Test.YtapfahlbkhgdpaaTDgp
import Derived.Test.YtapfahlbkhgdpaaTSrp
import Derived.Test.YtapfahlbkhgdpaaTGIxu
set_option maxRecDepth 100000
namespace Go.Proofs.Ytapfahlbkhgdpaa
open Go.V
noncomputable def pv : Pv := pv0.over [(8,memo0 (.bool true)),(27,memo0 (.agg [.int .i64 (-1), .int .i64 (-1), .int .i64 (-1), .int .i64 (-1), .int .i64 (-1), .int .i64 (-1), .int .i64 (-1), .int .i64 (-1), .int .i64 (-1), .int .i64 (-1)])),(62,digP),(54,srtP),(7,sidxP)]
theorem view : pv.Ok Try.prog /\ pv.codes /\ CfOk Try.prog pv (primF pv) := by
 refine view_over view0 rfl fun q hq => ?_
 simp only [List.mem_cons,List.not_mem_nil,or_false] at hq
 rcases hq with rfl | rfl | rfl | rfl | rfl
 ·exact backRuns_ok
 ·exact none27_ok
 ·exact digP_ok (by kernel_rfl)
 ·exact srtP_ok view0 (by kernel_rfl)
 ·exact sidxP_ok
theorem fi3 : pv.fi 3 = some ⟨Try.f3,12, .ro,false,none, []⟩ := by kernel_rfl
theorem fi4 : pv.fi 4 = some ⟨Try.f4,5, .ro,false,none, []⟩ := by kernel_rfl
theorem fi5 : pv.fi 5 = some ⟨Try.f5,11, .ro,false,none, []⟩ := by kernel_rfl
theorem fi6 : pv.fi 6 = some ⟨Try.f6,89, .ro,false,none, []⟩ := by kernel_rfl
theorem fi9 : pv.fi 9 = some ⟨Try.f9,24, .ro,false,none, []⟩ := by kernel_rfl
theorem fi10 : pv.fi 10 = some ⟨Try.f10,18, .ro,false,none, []⟩ := by kernel_rfl
theorem fi11 : pv.fi 11 = some ⟨Try.f11,49, .ro,false,none, []⟩ := by kernel_rfl
theorem fi12 : pv.fi 12 = some ⟨Try.f12,6, .ro,false,none, []⟩ := by kernel_rfl
theorem fi13 : pv.fi 13 = some ⟨Try.f13,12, .keep,false,none, []⟩ := by kernel_rfl
theorem fi16 : pv.fi 16 = some ⟨Try.f16,4, .rw,false,none, []⟩ := by kernel_rfl
theorem fi17 : pv.fi 17 = some ⟨Try.f17,7, .rw,false,none, []⟩ := by kernel_rfl
theorem fi18 : pv.fi 18 = some ⟨Try.f18,4, .ro,false,none, []⟩ := by kernel_rfl
theorem fi19 : pv.fi 19 = some ⟨Try.f19,36, .rw,false,none, []⟩ := by kernel_rfl
theorem fi20 : pv.fi 20 = some ⟨Try.f20,16, .rw,false,none, []⟩ := by kernel_rfl
theorem fi21 : pv.fi 21 = some ⟨Try.f21,5, .keep,false,none, []⟩ := by kernel_rfl
theorem fi22 : pv.fi 22 = some ⟨Try.f22,40, .keep,false,none, []⟩ := by kernel_rfl
theorem fi23 : pv.fi 23 = some ⟨Try.f23,39, .ro,false,none, []⟩ := by kernel_rfl
theorem fi24 : pv.fi 24 = some ⟨Try.f24,5, .ro,false,none, []⟩ := by kernel_rfl
theorem fi25 : pv.fi 25 = some ⟨Try.f25,41, .ro,false,none, []⟩ := by kernel_rfl
theorem fi26 : pv.fi 26 = some ⟨Try.f26,9, .ro,false,none, []⟩ := by kernel_rfl
theorem fi28 : pv.fi 28 = some ⟨Try.f28,24, .keep,false,none, []⟩ := by kernel_rfl
theorem fi33 : pv.fi 33 = some ⟨Try.f33,4, .rw,false,none, []⟩ := by kernel_rfl
theorem fi34 : pv.fi 34 = some ⟨Try.f34,5, .rw,false,none, []⟩ := by kernel_rfl
theorem fi35 : pv.fi 35 = some ⟨Try.f35,27, .ro,false,none, []⟩ := by kernel_rfl
theorem fi36 : pv.fi 36 = some ⟨Try.f36,8, .rw,false,none, []⟩ := by kernel_rfl
theorem fi37 : pv.fi 37 = some ⟨Try.f37,68, .keep,false,none, []⟩ := by kernel_rfl
theorem fi38 : pv.fi 38 = some ⟨Try.f38,78, .keep,false,none, []⟩ := by kernel_rfl
theorem fi39 : pv.fi 39 = some ⟨Try.f39,3, .ro,false,none, []⟩ := by kernel_rfl
theorem fi40 : pv.fi 40 = some ⟨Try.f40,5, .ro,false,none, []⟩ := by kernel_rfl
theorem fi41 : pv.fi 41 = some ⟨Try.f41,10, .ro,false,none, []⟩ := by kernel_rfl
theorem fi44 : pv.fi 44 = some ⟨Try.f44,5, .rw,false,none, []⟩ := by kernel_rfl
theorem fi45 : pv.fi 45 = some ⟨Try.f45,5, .rw,false,none, []⟩ := by kernel_rfl
theorem fi46 : pv.fi 46 = some ⟨Try.f46,11, .ro,false,none, []⟩ := by kernel_rfl
theorem fi47 : pv.fi 47 = some ⟨Try.f47,4, .rw,false,none, []⟩ := by kernel_rfl
theorem fi48 : pv.fi 48 = some ⟨Try.f48,14, .ro,false,none, []⟩ := by kernel_rfl
theorem fi49 : pv.fi 49 = some ⟨Try.f49,26, .ro,false,none, []⟩ := by kernel_rfl
theorem fi50 : pv.fi 50 = some ⟨Try.f50,26, .rw,false,none, []⟩ := by kernel_rfl
theorem fi51 : pv.fi 51 = some ⟨Try.f51,14, .rw,false,none, []⟩ := by kernel_rfl
theorem fi52 : pv.fi 52 = some ⟨Try.f52,4, .ro,false,none, []⟩ := by kernel_rfl
theorem fi53 : pv.fi 53 = some ⟨Try.f53,20, .ro,false,none, []⟩ := by kernel_rfl
theorem fi56 : pv.fi 56 = some ⟨Try.f56,5, .rw,false,none, []⟩ := by kernel_rfl
theorem fi57 : pv.fi 57 = some ⟨Try.f57,7, .rw,false,none, []⟩ := by kernel_rfl
theorem fi58 : pv.fi 58 = some ⟨Try.f58,7, .rw,false,none, []⟩ := by kernel_rfl
theorem fi59 : pv.fi 59 = some ⟨Try.f59,61, .rw,true,none, []⟩ := by kernel_rfl
theorem fi60 : pv.fi 60 = some ⟨Try.f60,1, .ro,false,none, []⟩ := by kernel_rfl
theorem fi61 : pv.fi 61 = some ⟨Try.f61,3, .ro,false,none, []⟩ := by kernel_rfl
theorem fi63 : pv.fi 63 = some ⟨Try.f63,5, .ro,false,none, []⟩ := by kernel_rfl
theorem fi64 : pv.fi 64 = some ⟨Try.f64,12, .ro,false,none, []⟩ := by kernel_rfl
theorem fi67 : pv.fi 67 = some ⟨Try.f67,8, .rw,false,none, []⟩ := by kernel_rfl
theorem fi68 : pv.fi 68 = some ⟨Try.f68,11, .ro,false,none, []⟩ := by kernel_rfl
theorem fi69 : pv.fi 69 = some ⟨Try.f69,3, .ro,false,none, []⟩ := by kernel_rfl
theorem fi83 : pv.fi 83 = some ⟨Try.f83,29, .rw,true,none, []⟩ := by kernel_rfl
end Go.Proofs.Ytapfahlbkhgdpaa
