/-
  The view with what was reckoned once laid over it. By program.
-/
import Derived.Test.YtbdilgkfnacahaaGreatView
import Derived.Test.YtbdilgkfnacahaaGreatM2
import Derived.Test.YtbdilgkfnacahaaGreatRzBackRuns
import Derived.Test.YtbdilgkfnacahaaGreatRzNone
import Derived.Test.YtbdilgkfnacahaaGreatSrp
namespace Go.Proofs.YtbdilgkfnacahaaGreat
open Go.V
set_option maxRecDepth 100000
noncomputable def pv : Pv := pv0.over [(7, memo0 (.bool true)), (52, memo0 (.agg [.int .i64 (-1), .int .i64 (-1), .int .i64 (-1), .int .i64 (-1), .int .i64 (-1), .int .i64 (-1), .int .i64 (-1), .int .i64 (-1), .int .i64 (-1), .int .i64 (-1)])), (30, memo0 (.agg [.int .i64 (-1), .int .i64 (-1), .int .i64 (-1), .int .i64 (-1), .int .i64 (-1), .int .i64 (-1), .int .i64 (-1), .int .i64 (-1), .int .i64 (-1), .int .i64 (-1)])), (94, srtP)]
theorem view : pv.Ok Tryz.prog ∧ pv.codes ∧ CfOk Tryz.prog pv (primF pv) := by
  refine view_over view0 rfl fun q hq => ?_
  simp only [List.mem_cons, List.not_mem_nil, or_false] at hq
  rcases hq with rfl | rfl | rfl | rfl
  · exact backRuns_ok
  · exact none52_ok
  · exact none30_ok
  · exact srtP_ok view0 (by kernel_rfl)
theorem fi2 : pv.fi 2 = some ⟨Tryz.f2, 0, .rw, false, none, []⟩ := by kernel_rfl
theorem fi3 : pv.fi 3 = some ⟨Tryz.f3, 12, .ro, false, none, []⟩ := by kernel_rfl
theorem fi4 : pv.fi 4 = some ⟨Tryz.f4, 9, .ro, false, none, [(10, [(1, 2), (7, 8), (7, 9)]), (14, [(1, 2), (6, 7), (6, 8)])]⟩ := by kernel_rfl
theorem fi5 : pv.fi 5 = some ⟨Tryz.f5, 12, .ro, false, none, [(14, [(1, 2)]), (16, [(1, 2), (1, 3)])]⟩ := by kernel_rfl
theorem fi6 : pv.fi 6 = some ⟨Tryz.f6, 5, .ro, false, none, []⟩ := by kernel_rfl
theorem fi7 : pv.fi 7 = some ⟨Tryz.f7, 7, .ro, false, none, []⟩ := by kernel_rfl
theorem fi8 : pv.fi 8 = some ⟨Tryz.f8, 6, .ro, false, none, []⟩ := by kernel_rfl
theorem fi9 : pv.fi 9 = some ⟨Tryz.f9, 89, .ro, false, none, []⟩ := by kernel_rfl
theorem fi10 : pv.fi 10 = some ⟨Tryz.f10, 126, .ro, false, none, []⟩ := by kernel_rfl
theorem fi11 : pv.fi 11 = some ⟨Tryz.f11, 8, .ro, false, none, [(6, [(6, 12), (8, 12), (9, 12)])]⟩ := by kernel_rfl
theorem fi12 : pv.fi 12 = some ⟨Tryz.f12, 6, .keep, false, none, []⟩ := by kernel_rfl
theorem fi13 : pv.fi 13 = some ⟨Tryz.f13, 8, .ro, false, none, []⟩ := by kernel_rfl
theorem fi14 : pv.fi 14 = some ⟨Tryz.f14, 26, .ro, false, none, []⟩ := by kernel_rfl
theorem fi15 : pv.fi 15 = some ⟨Tryz.f15, 5, .ro, false, none, []⟩ := by kernel_rfl
theorem fi16 : pv.fi 16 = some ⟨Tryz.f16, 5, .ro, false, none, []⟩ := by kernel_rfl
theorem fi17 : pv.fi 17 = some ⟨Tryz.f17, 3, .rw, false, none, [(1, [(3, 8)])]⟩ := by kernel_rfl
theorem fi18 : pv.fi 18 = some ⟨Tryz.f18, 6, .ro, false, none, []⟩ := by kernel_rfl
theorem fi19 : pv.fi 19 = some ⟨Tryz.f19, 13, .keep, false, none, []⟩ := by kernel_rfl
theorem fi20 : pv.fi 20 = some ⟨Tryz.f20, 8, .ro, false, none, []⟩ := by kernel_rfl
theorem fi21 : pv.fi 21 = some ⟨Tryz.f21, 13, .keep, false, none, [(3, [(3, 8)])]⟩ := by kernel_rfl
theorem fi22 : pv.fi 22 = some ⟨Tryz.f22, 14, .ro, false, none, []⟩ := by kernel_rfl
theorem fi23 : pv.fi 23 = some ⟨Tryz.f23, 11, .ro, false, none, []⟩ := by kernel_rfl
theorem fi24 : pv.fi 24 = some ⟨Tryz.f24, 6, .ro, false, none, []⟩ := by kernel_rfl
theorem fi25 : pv.fi 25 = some ⟨Tryz.f25, 11, .ro, false, none, []⟩ := by kernel_rfl
theorem fi26 : pv.fi 26 = some ⟨Tryz.f26, 13, .ro, false, none, []⟩ := by kernel_rfl
theorem fi27 : pv.fi 27 = some ⟨Tryz.f27, 49, .ro, false, none, []⟩ := by kernel_rfl
theorem fi28 : pv.fi 28 = some ⟨Tryz.f28, 12, .keep, false, none, []⟩ := by kernel_rfl
theorem fi29 : pv.fi 29 = some ⟨Tryz.f29, 5, .ro, false, none, []⟩ := by kernel_rfl
theorem fi30 : pv.fi 30 = some ⟨Tryz.f30, 3, .ro, false, none, []⟩ := by kernel_rfl
theorem fi31 : pv.fi 31 = some ⟨Tryz.f31, 6, .ro, false, none, []⟩ := by kernel_rfl
theorem fi32 : pv.fi 32 = some ⟨Tryz.f32, 6, .ro, false, none, []⟩ := by kernel_rfl
theorem fi33 : pv.fi 33 = some ⟨Tryz.f33, 6, .ro, false, none, []⟩ := by kernel_rfl
theorem fi34 : pv.fi 34 = some ⟨Tryz.f34, 6, .keep, false, none, []⟩ := by kernel_rfl
theorem fi35 : pv.fi 35 = some ⟨Tryz.f35, 11, .keep, false, none, []⟩ := by kernel_rfl
theorem fi36 : pv.fi 36 = some ⟨Tryz.f36, 22, .ro, false, none, [(13, [(3, 5)])]⟩ := by kernel_rfl
theorem fi37 : pv.fi 37 = some ⟨Tryz.f37, 8, .ro, false, none, []⟩ := by kernel_rfl
theorem fi38 : pv.fi 38 = some ⟨Tryz.f38, 10, .keep, false, none, []⟩ := by kernel_rfl
theorem fi39 : pv.fi 39 = some ⟨Tryz.f39, 4, .ro, false, none, []⟩ := by kernel_rfl
theorem fi40 : pv.fi 40 = some ⟨Tryz.f40, 9, .keep, false, none, []⟩ := by kernel_rfl
theorem fi41 : pv.fi 41 = some ⟨Tryz.f41, 6, .ro, false, none, []⟩ := by kernel_rfl
theorem fi42 : pv.fi 42 = some ⟨Tryz.f42, 37, .keep, false, none, [(10, [(4, 5)])]⟩ := by kernel_rfl
theorem fi43 : pv.fi 43 = some ⟨Tryz.f43, 13, .ro, false, none, [(7, [(4, 5)])]⟩ := by kernel_rfl
theorem fi44 : pv.fi 44 = some ⟨Tryz.f44, 25, .keep, false, none, []⟩ := by kernel_rfl
theorem fi45 : pv.fi 45 = some ⟨Tryz.f45, 6, .keep, false, none, []⟩ := by kernel_rfl
theorem fi46 : pv.fi 46 = some ⟨Tryz.f46, 24, .ro, false, none, []⟩ := by kernel_rfl
theorem fi47 : pv.fi 47 = some ⟨Tryz.f47, 18, .ro, false, none, []⟩ := by kernel_rfl
theorem fi48 : pv.fi 48 = some ⟨Tryz.f48, 9, .ro, false, none, []⟩ := by kernel_rfl
theorem fi49 : pv.fi 49 = some ⟨Tryz.f49, 39, .ro, false, none, []⟩ := by kernel_rfl
theorem fi50 : pv.fi 50 = some ⟨Tryz.f50, 5, .ro, false, none, []⟩ := by kernel_rfl
theorem fi51 : pv.fi 51 = some ⟨Tryz.f51, 41, .ro, false, none, []⟩ := by kernel_rfl
theorem fi52 : pv.fi 52 = some ⟨Tryz.f52, 4, .ro, false, none, []⟩ := by kernel_rfl
theorem fi53 : pv.fi 53 = some ⟨Tryz.f53, 24, .keep, false, none, []⟩ := by kernel_rfl
theorem fi54 : pv.fi 54 = some ⟨Tryz.f54, 24, .ro, false, none, []⟩ := by kernel_rfl
theorem fi55 : pv.fi 55 = some ⟨Tryz.f55, 4, .keep, false, none, []⟩ := by kernel_rfl
theorem fi56 : pv.fi 56 = some ⟨Tryz.f56, 14, .ro, false, none, []⟩ := by kernel_rfl
theorem fi57 : pv.fi 57 = some ⟨Tryz.f57, 4, .ro, false, none, []⟩ := by kernel_rfl
theorem fi58 : pv.fi 58 = some ⟨Tryz.f58, 5, .ro, false, none, []⟩ := by kernel_rfl
theorem fi59 : pv.fi 59 = some ⟨Tryz.f59, 13, .ro, false, none, []⟩ := by kernel_rfl
theorem fi60 : pv.fi 60 = some ⟨Tryz.f60, 1, .keep, false, none, []⟩ := by kernel_rfl
theorem fi61 : pv.fi 61 = some ⟨Tryz.f61, 33, .keep, false, none, [(8, [(9, 12)])]⟩ := by kernel_rfl
theorem fi62 : pv.fi 62 = some ⟨Tryz.f62, 31, .keep, false, none, []⟩ := by kernel_rfl
theorem fi63 : pv.fi 63 = some ⟨Tryz.f63, 10, .ro, false, none, []⟩ := by kernel_rfl
theorem fi64 : pv.fi 64 = some ⟨Tryz.f64, 7, .keep, false, none, []⟩ := by kernel_rfl
theorem fi65 : pv.fi 65 = some ⟨Tryz.f65, 4, .rw, false, none, []⟩ := by kernel_rfl
theorem fi66 : pv.fi 66 = some ⟨Tryz.f66, 7, .rw, false, none, []⟩ := by kernel_rfl
theorem fi67 : pv.fi 67 = some ⟨Tryz.f67, 4, .ro, false, none, []⟩ := by kernel_rfl
theorem fi68 : pv.fi 68 = some ⟨Tryz.f68, 36, .rw, false, none, []⟩ := by kernel_rfl
theorem fi69 : pv.fi 69 = some ⟨Tryz.f69, 16, .rw, false, none, []⟩ := by kernel_rfl
theorem fi70 : pv.fi 70 = some ⟨Tryz.f70, 5, .keep, false, none, []⟩ := by kernel_rfl
theorem fi71 : pv.fi 71 = some ⟨Tryz.f71, 40, .keep, false, none, []⟩ := by kernel_rfl
theorem fi72 : pv.fi 72 = some ⟨Tryz.f72, 5, .ro, false, none, []⟩ := by kernel_rfl
theorem fi73 : pv.fi 73 = some ⟨Tryz.f73, 3, .ro, false, none, []⟩ := by kernel_rfl
theorem fi74 : pv.fi 74 = some ⟨Tryz.f74, 6, .ro, false, none, []⟩ := by kernel_rfl
theorem fi75 : pv.fi 75 = some ⟨Tryz.f75, 6, .ro, false, none, []⟩ := by kernel_rfl
theorem fi76 : pv.fi 76 = some ⟨Tryz.f76, 6, .rw, false, none, []⟩ := by kernel_rfl
theorem fi77 : pv.fi 77 = some ⟨Tryz.f77, 4, .rw, false, none, []⟩ := by kernel_rfl
theorem fi78 : pv.fi 78 = some ⟨Tryz.f78, 5, .rw, false, none, []⟩ := by kernel_rfl
theorem fi79 : pv.fi 79 = some ⟨Tryz.f79, 27, .ro, false, none, []⟩ := by kernel_rfl
theorem fi80 : pv.fi 80 = some ⟨Tryz.f80, 8, .rw, false, none, []⟩ := by kernel_rfl
theorem fi81 : pv.fi 81 = some ⟨Tryz.f81, 68, .keep, false, none, []⟩ := by kernel_rfl
theorem fi82 : pv.fi 82 = some ⟨Tryz.f82, 78, .keep, false, none, []⟩ := by kernel_rfl
theorem fi83 : pv.fi 83 = some ⟨Tryz.f83, 14, .ro, false, none, []⟩ := by kernel_rfl
theorem fi84 : pv.fi 84 = some ⟨Tryz.f84, 26, .ro, false, none, []⟩ := by kernel_rfl
theorem fi85 : pv.fi 85 = some ⟨Tryz.f85, 3, .ro, false, none, []⟩ := by kernel_rfl
theorem fi86 : pv.fi 86 = some ⟨Tryz.f86, 6, .ro, false, none, []⟩ := by kernel_rfl
theorem fi87 : pv.fi 87 = some ⟨Tryz.f87, 7, .ro, false, none, []⟩ := by kernel_rfl
theorem fi88 : pv.fi 88 = some ⟨Tryz.f88, 7, .keep, false, none, []⟩ := by kernel_rfl
theorem fi89 : pv.fi 89 = some ⟨Tryz.f89, 5, .rw, false, none, []⟩ := by kernel_rfl
theorem fi90 : pv.fi 90 = some ⟨Tryz.f90, 5, .rw, false, none, []⟩ := by kernel_rfl
theorem fi91 : pv.fi 91 = some ⟨Tryz.f91, 11, .ro, false, none, []⟩ := by kernel_rfl
theorem fi92 : pv.fi 92 = some ⟨Tryz.f92, 4, .rw, false, none, []⟩ := by kernel_rfl
theorem fi93 : pv.fi 93 = some ⟨Tryz.f93, 20, .ro, false, none, []⟩ := by kernel_rfl
theorem fi94 : pv.fi 94 = some ⟨Tryz.f94, 5, .rw, false, none, []⟩ := by kernel_rfl
theorem fi95 : pv.fi 95 = some ⟨Tryz.f95, 5, .ro, false, none, []⟩ := by kernel_rfl
theorem fi96 : pv.fi 96 = some ⟨Tryz.f96, 26, .rw, false, none, []⟩ := by kernel_rfl
theorem fi97 : pv.fi 97 = some ⟨Tryz.f97, 14, .rw, false, none, []⟩ := by kernel_rfl
theorem fi98 : pv.fi 98 = some ⟨Tryz.f98, 4, .ro, false, none, []⟩ := by kernel_rfl
theorem fi99 : pv.fi 99 = some ⟨Tryz.f99, 21, .rw, false, none, []⟩ := by kernel_rfl
theorem fi100 : pv.fi 100 = some ⟨Tryz.f100, 3, .rw, false, none, []⟩ := by kernel_rfl
theorem fi101 : pv.fi 101 = some ⟨Tryz.f101, 5, .rw, false, none, []⟩ := by kernel_rfl
theorem fi102 : pv.fi 102 = some ⟨Tryz.f102, 7, .rw, false, none, []⟩ := by kernel_rfl
theorem fi103 : pv.fi 103 = some ⟨Tryz.f103, 7, .rw, false, none, []⟩ := by kernel_rfl
theorem fi104 : pv.fi 104 = some ⟨Tryz.f104, 61, .rw, true, none, []⟩ := by kernel_rfl
theorem fi105 : pv.fi 105 = some ⟨Tryz.f105, 1, .ro, false, none, []⟩ := by kernel_rfl
theorem fi106 : pv.fi 106 = some ⟨Tryz.f106, 3, .ro, false, none, []⟩ := by kernel_rfl
theorem fi107 : pv.fi 107 = some ⟨Tryz.f107, 6, .rw, false, none, [(7, [(0, 4)])]⟩ := by kernel_rfl
theorem fi108 : pv.fi 108 = some ⟨Tryz.f108, 5, .ro, false, none, []⟩ := by kernel_rfl
theorem fi109 : pv.fi 109 = some ⟨Tryz.f109, 12, .ro, false, none, []⟩ := by kernel_rfl
theorem fi110 : pv.fi 110 = some ⟨Tryz.f110, 10, .rw, false, none, []⟩ := by kernel_rfl
theorem fi111 : pv.fi 111 = some ⟨Tryz.f111, 13, .rw, false, none, []⟩ := by kernel_rfl
theorem fi112 : pv.fi 112 = some ⟨Tryz.f112, 13, .rw, false, none, []⟩ := by kernel_rfl
theorem fi113 : pv.fi 113 = some ⟨Tryz.f113, 56, .rw, false, none, []⟩ := by kernel_rfl
theorem fi114 : pv.fi 114 = some ⟨Tryz.f114, 10, .rw, false, none, []⟩ := by kernel_rfl
theorem fi115 : pv.fi 115 = some ⟨Tryz.f115, 13, .rw, false, none, []⟩ := by kernel_rfl
theorem fi116 : pv.fi 116 = some ⟨Tryz.f116, 13, .rw, false, none, []⟩ := by kernel_rfl
theorem fi117 : pv.fi 117 = some ⟨Tryz.f117, 14, .rw, false, none, []⟩ := by kernel_rfl
theorem fi118 : pv.fi 118 = some ⟨Tryz.f118, 3, .rw, false, none, []⟩ := by kernel_rfl
theorem fi119 : pv.fi 119 = some ⟨Tryz.f119, 3, .rw, false, none, []⟩ := by kernel_rfl
theorem fi120 : pv.fi 120 = some ⟨Tryz.f120, 8, .rw, false, none, []⟩ := by kernel_rfl
theorem fi121 : pv.fi 121 = some ⟨Tryz.f121, 11, .ro, false, none, []⟩ := by kernel_rfl
theorem fi122 : pv.fi 122 = some ⟨Tryz.f122, 3, .ro, false, none, []⟩ := by kernel_rfl
theorem fi123 : pv.fi 123 = some ⟨Tryz.f123, 3, .rw, false, none, []⟩ := by kernel_rfl
theorem fi124 : pv.fi 124 = some ⟨Tryz.f124, 5, .rw, false, none, []⟩ := by kernel_rfl
theorem fi125 : pv.fi 125 = some ⟨Tryz.f125, 3, .rw, false, none, [(1, [(4, 8)])]⟩ := by kernel_rfl
theorem fi126 : pv.fi 126 = some ⟨Tryz.f126, 12, .rw, false, none, []⟩ := by kernel_rfl
theorem fi127 : pv.fi 127 = some ⟨Tryz.f127, 3, .rw, false, none, []⟩ := by kernel_rfl
theorem fi128 : pv.fi 128 = some ⟨Tryz.f128, 3, .rw, false, none, []⟩ := by kernel_rfl
theorem fi129 : pv.fi 129 = some ⟨Tryz.f129, 9, .rw, false, none, []⟩ := by kernel_rfl
theorem fi130 : pv.fi 130 = some ⟨Tryz.f130, 13, .rw, false, none, []⟩ := by kernel_rfl
theorem fi131 : pv.fi 131 = some ⟨Tryz.f131, 29, .rw, true, none, []⟩ := by kernel_rfl
theorem fi132 : pv.fi 132 = some ⟨Tryz.f132, 1, .rw, false, none, []⟩ := by kernel_rfl
theorem fi133 : pv.fi 133 = some ⟨Tryz.f133, 12, .rw, false, none, []⟩ := by kernel_rfl
end Go.Proofs.YtbdilgkfnacahaaGreat
