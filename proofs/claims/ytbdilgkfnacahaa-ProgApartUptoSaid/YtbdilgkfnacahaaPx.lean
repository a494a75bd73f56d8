/-
  The view with what was reckoned once laid over it. By program.
-/
import Derived.Test.YtbdilgkfnacahaaView
import Derived.Test.YtbdilgkfnacahaaM2
import Derived.Test.YtbdilgkfnacahaaRzCheckRuns
import Derived.Test.YtbdilgkfnacahaaRzProgRuns
import Derived.Test.YtbdilgkfnacahaaRzBackRuns
import Derived.Test.YtbdilgkfnacahaaRzNone
import Derived.Test.YtbdilgkfnacahaaDgp
import Derived.Test.YtbdilgkfnacahaaSrp
namespace Go.Proofs.Ytbdilgkfnacahaa
open Go.V
set_option maxRecDepth 100000
noncomputable def pv : Pv := pv0.over [(29, memo0 (.bool true)), (18, memo0 (.bool true)), (34, memo0 (.bool true)), (73, memo0 (.agg [.int .i64 (-1), .int .i64 (-1), .int .i64 (-1), .int .i64 (-1), .int .i64 (-1), .int .i64 (-1), .int .i64 (-1), .int .i64 (-1), .int .i64 (-1), .int .i64 (-1)])), (59, memo0 (.agg [.int .i64 (-1), .int .i64 (-1), .int .i64 (-1), .int .i64 (-1), .int .i64 (-1), .int .i64 (-1), .int .i64 (-1), .int .i64 (-1), .int .i64 (-1), .int .i64 (-1)])), (106, digP), (92, srtP)]
theorem view : pv.Ok Try.prog ∧ pv.codes ∧ CfOk Try.prog pv (primF pv) := by
  refine view_over view0 rfl fun q hq => ?_
  simp only [List.mem_cons, List.not_mem_nil, or_false] at hq
  rcases hq with rfl | rfl | rfl | rfl | rfl | rfl | rfl
  · obtain ⟨st, h1, h2⟩ := checkRunsIs
    exact memo0_ok view0 h1 h2
  · exact progRuns_ok
  · exact backRuns_ok
  · exact none73_ok
  · exact none59_ok
  · exact digP_ok (by kernel_rfl)
  · exact srtP_ok view0 (by kernel_rfl)
theorem fi2 : pv.fi 2 = some ⟨Try.f2, 0, .rw, false, none, []⟩ := by kernel_rfl
theorem fi3 : pv.fi 3 = some ⟨Try.f3, 14, .ro, false, none, []⟩ := by kernel_rfl
theorem fi4 : pv.fi 4 = some ⟨Try.f4, 133, .ro, false, none, []⟩ := by kernel_rfl
theorem fi5 : pv.fi 5 = some ⟨Try.f5, 7, .ro, false, none, []⟩ := by kernel_rfl
theorem fi6 : pv.fi 6 = some ⟨Try.f6, 10, .ro, false, none, []⟩ := by kernel_rfl
theorem fi7 : pv.fi 7 = some ⟨Try.f7, 14, .ro, false, none, []⟩ := by kernel_rfl
theorem fi8 : pv.fi 8 = some ⟨Try.f8, 71, .ro, false, none, []⟩ := by kernel_rfl
theorem fi9 : pv.fi 9 = some ⟨Try.f9, 127, .ro, false, none, []⟩ := by kernel_rfl
theorem fi10 : pv.fi 10 = some ⟨Try.f10, 13, .ro, false, none, []⟩ := by kernel_rfl
theorem fi11 : pv.fi 11 = some ⟨Try.f11, 21, .ro, false, none, []⟩ := by kernel_rfl
theorem fi12 : pv.fi 12 = some ⟨Try.f12, 3, .ro, false, none, []⟩ := by kernel_rfl
theorem fi13 : pv.fi 13 = some ⟨Try.f13, 6, .ro, false, none, []⟩ := by kernel_rfl
theorem fi14 : pv.fi 14 = some ⟨Try.f14, 18, .ro, false, none, []⟩ := by kernel_rfl
theorem fi15 : pv.fi 15 = some ⟨Try.f15, 9, .ro, false, none, []⟩ := by kernel_rfl
theorem fi16 : pv.fi 16 = some ⟨Try.f16, 8, .ro, false, none, [(6, [(6, 12), (8, 12), (9, 12)])]⟩ := by kernel_rfl
theorem fi17 : pv.fi 17 = some ⟨Try.f17, 8, .ro, false, none, [(6, [(6, 10), (7, 10)])]⟩ := by kernel_rfl
theorem fi18 : pv.fi 18 = some ⟨Try.f18, 21, .ro, false, none, []⟩ := by kernel_rfl
theorem fi19 : pv.fi 19 = some ⟨Try.f19, 6, .ro, false, none, []⟩ := by kernel_rfl
theorem fi20 : pv.fi 20 = some ⟨Try.f20, 6, .ro, false, none, []⟩ := by kernel_rfl
theorem fi21 : pv.fi 21 = some ⟨Try.f21, 4, .ro, false, none, []⟩ := by kernel_rfl
theorem fi22 : pv.fi 22 = some ⟨Try.f22, 40, .ro, false, none, []⟩ := by kernel_rfl
theorem fi23 : pv.fi 23 = some ⟨Try.f23, 3, .ro, false, none, []⟩ := by kernel_rfl
theorem fi24 : pv.fi 24 = some ⟨Try.f24, 6, .ro, false, none, []⟩ := by kernel_rfl
theorem fi25 : pv.fi 25 = some ⟨Try.f25, 8, .ro, false, none, []⟩ := by kernel_rfl
theorem fi26 : pv.fi 26 = some ⟨Try.f26, 8, .ro, false, none, []⟩ := by kernel_rfl
theorem fi27 : pv.fi 27 = some ⟨Try.f27, 49, .ro, false, none, []⟩ := by kernel_rfl
theorem fi28 : pv.fi 28 = some ⟨Try.f28, 29, .ro, false, none, []⟩ := by kernel_rfl
theorem fi29 : pv.fi 29 = some ⟨Try.f29, 6, .ro, false, none, []⟩ := by kernel_rfl
theorem fi30 : pv.fi 30 = some ⟨Try.f30, 24, .ro, false, none, []⟩ := by kernel_rfl
theorem fi31 : pv.fi 31 = some ⟨Try.f31, 7, .ro, false, none, []⟩ := by kernel_rfl
theorem fi32 : pv.fi 32 = some ⟨Try.f32, 5, .ro, false, none, []⟩ := by kernel_rfl
theorem fi33 : pv.fi 33 = some ⟨Try.f33, 11, .ro, false, none, []⟩ := by kernel_rfl
theorem fi34 : pv.fi 34 = some ⟨Try.f34, 7, .ro, false, none, []⟩ := by kernel_rfl
theorem fi35 : pv.fi 35 = some ⟨Try.f35, 89, .ro, false, none, []⟩ := by kernel_rfl
theorem fi36 : pv.fi 36 = some ⟨Try.f36, 126, .ro, false, none, []⟩ := by kernel_rfl
theorem fi37 : pv.fi 37 = some ⟨Try.f37, 36, .rw, false, none, []⟩ := by kernel_rfl
theorem fi38 : pv.fi 38 = some ⟨Try.f38, 16, .rw, false, none, []⟩ := by kernel_rfl
theorem fi39 : pv.fi 39 = some ⟨Try.f39, 5, .keep, false, none, []⟩ := by kernel_rfl
theorem fi40 : pv.fi 40 = some ⟨Try.f40, 40, .keep, false, none, []⟩ := by kernel_rfl
theorem fi41 : pv.fi 41 = some ⟨Try.f41, 5, .ro, false, none, []⟩ := by kernel_rfl
theorem fi42 : pv.fi 42 = some ⟨Try.f42, 10, .ro, false, none, []⟩ := by kernel_rfl
theorem fi43 : pv.fi 43 = some ⟨Try.f43, 5, .keep, false, none, []⟩ := by kernel_rfl
theorem fi44 : pv.fi 44 = some ⟨Try.f44, 12, .keep, false, none, []⟩ := by kernel_rfl
theorem fi45 : pv.fi 45 = some ⟨Try.f45, 4, .ro, false, none, []⟩ := by kernel_rfl
theorem fi46 : pv.fi 46 = some ⟨Try.f46, 8, .rw, false, none, []⟩ := by kernel_rfl
theorem fi47 : pv.fi 47 = some ⟨Try.f47, 22, .ro, false, none, [(13, [(3, 5)])]⟩ := by kernel_rfl
theorem fi48 : pv.fi 48 = some ⟨Try.f48, 13, .ro, false, none, []⟩ := by kernel_rfl
theorem fi49 : pv.fi 49 = some ⟨Try.f49, 39, .ro, false, none, []⟩ := by kernel_rfl
theorem fi50 : pv.fi 50 = some ⟨Try.f50, 5, .ro, false, none, []⟩ := by kernel_rfl
theorem fi51 : pv.fi 51 = some ⟨Try.f51, 41, .ro, false, none, []⟩ := by kernel_rfl
theorem fi52 : pv.fi 52 = some ⟨Try.f52, 9, .ro, false, none, []⟩ := by kernel_rfl
theorem fi53 : pv.fi 53 = some ⟨Try.f53, 6, .ro, false, none, []⟩ := by kernel_rfl
theorem fi54 : pv.fi 54 = some ⟨Try.f54, 4, .rw, false, none, []⟩ := by kernel_rfl
theorem fi55 : pv.fi 55 = some ⟨Try.f55, 7, .rw, false, none, []⟩ := by kernel_rfl
theorem fi56 : pv.fi 56 = some ⟨Try.f56, 13, .ro, false, none, []⟩ := by kernel_rfl
theorem fi57 : pv.fi 57 = some ⟨Try.f57, 12, .keep, false, none, []⟩ := by kernel_rfl
theorem fi58 : pv.fi 58 = some ⟨Try.f58, 5, .ro, false, none, []⟩ := by kernel_rfl
theorem fi59 : pv.fi 59 = some ⟨Try.f59, 3, .ro, false, none, []⟩ := by kernel_rfl
theorem fi60 : pv.fi 60 = some ⟨Try.f60, 6, .ro, false, none, []⟩ := by kernel_rfl
theorem fi61 : pv.fi 61 = some ⟨Try.f61, 68, .keep, false, none, []⟩ := by kernel_rfl
theorem fi62 : pv.fi 62 = some ⟨Try.f62, 78, .keep, false, none, []⟩ := by kernel_rfl
theorem fi63 : pv.fi 63 = some ⟨Try.f63, 5, .ro, false, none, []⟩ := by kernel_rfl
theorem fi64 : pv.fi 64 = some ⟨Try.f64, 8, .keep, false, none, []⟩ := by kernel_rfl
theorem fi65 : pv.fi 65 = some ⟨Try.f65, 12, .keep, false, none, []⟩ := by kernel_rfl
theorem fi66 : pv.fi 66 = some ⟨Try.f66, 11, .ro, false, none, []⟩ := by kernel_rfl
theorem fi67 : pv.fi 67 = some ⟨Try.f67, 5, .ro, false, none, []⟩ := by kernel_rfl
theorem fi68 : pv.fi 68 = some ⟨Try.f68, 3, .ro, false, none, []⟩ := by kernel_rfl
theorem fi69 : pv.fi 69 = some ⟨Try.f69, 9, .ro, false, none, []⟩ := by kernel_rfl
theorem fi70 : pv.fi 70 = some ⟨Try.f70, 4, .rw, false, none, []⟩ := by kernel_rfl
theorem fi71 : pv.fi 71 = some ⟨Try.f71, 5, .rw, false, none, []⟩ := by kernel_rfl
theorem fi72 : pv.fi 72 = some ⟨Try.f72, 27, .ro, false, none, []⟩ := by kernel_rfl
theorem fi73 : pv.fi 73 = some ⟨Try.f73, 4, .ro, false, none, []⟩ := by kernel_rfl
theorem fi74 : pv.fi 74 = some ⟨Try.f74, 24, .keep, false, none, []⟩ := by kernel_rfl
theorem fi75 : pv.fi 75 = some ⟨Try.f75, 24, .ro, false, none, []⟩ := by kernel_rfl
theorem fi76 : pv.fi 76 = some ⟨Try.f76, 4, .rw, false, none, []⟩ := by kernel_rfl
theorem fi77 : pv.fi 77 = some ⟨Try.f77, 30, .ro, false, none, [(22, [(3, 7), (5, 7), (5, 9)])]⟩ := by kernel_rfl
theorem fi78 : pv.fi 78 = some ⟨Try.f78, 7, .ro, false, none, []⟩ := by kernel_rfl
theorem fi79 : pv.fi 79 = some ⟨Try.f79, 4, .rw, false, none, []⟩ := by kernel_rfl
theorem fi80 : pv.fi 80 = some ⟨Try.f80, 4, .ro, false, none, []⟩ := by kernel_rfl
theorem fi81 : pv.fi 81 = some ⟨Try.f81, 6, .ro, false, none, []⟩ := by kernel_rfl
theorem fi82 : pv.fi 82 = some ⟨Try.f82, 14, .ro, false, none, []⟩ := by kernel_rfl
theorem fi83 : pv.fi 83 = some ⟨Try.f83, 26, .ro, false, none, []⟩ := by kernel_rfl
theorem fi84 : pv.fi 84 = some ⟨Try.f84, 5, .ro, false, none, []⟩ := by kernel_rfl
theorem fi85 : pv.fi 85 = some ⟨Try.f85, 5, .rw, false, none, []⟩ := by kernel_rfl
theorem fi86 : pv.fi 86 = some ⟨Try.f86, 5, .rw, false, none, []⟩ := by kernel_rfl
theorem fi87 : pv.fi 87 = some ⟨Try.f87, 10, .ro, false, none, []⟩ := by kernel_rfl
theorem fi88 : pv.fi 88 = some ⟨Try.f88, 6, .ro, false, none, []⟩ := by kernel_rfl
theorem fi89 : pv.fi 89 = some ⟨Try.f89, 7, .ro, false, none, []⟩ := by kernel_rfl
theorem fi90 : pv.fi 90 = some ⟨Try.f90, 7, .keep, false, none, []⟩ := by kernel_rfl
theorem fi91 : pv.fi 91 = some ⟨Try.f91, 20, .ro, false, none, []⟩ := by kernel_rfl
theorem fi92 : pv.fi 92 = some ⟨Try.f92, 5, .rw, false, none, []⟩ := by kernel_rfl
theorem fi93 : pv.fi 93 = some ⟨Try.f93, 5, .ro, false, none, []⟩ := by kernel_rfl
theorem fi94 : pv.fi 94 = some ⟨Try.f94, 26, .rw, false, none, []⟩ := by kernel_rfl
theorem fi95 : pv.fi 95 = some ⟨Try.f95, 14, .rw, false, none, []⟩ := by kernel_rfl
theorem fi96 : pv.fi 96 = some ⟨Try.f96, 3, .ro, false, none, []⟩ := by kernel_rfl
theorem fi97 : pv.fi 97 = some ⟨Try.f97, 6, .ro, false, none, []⟩ := by kernel_rfl
theorem fi98 : pv.fi 98 = some ⟨Try.f98, 21, .rw, false, none, []⟩ := by kernel_rfl
theorem fi99 : pv.fi 99 = some ⟨Try.f99, 3, .rw, false, none, []⟩ := by kernel_rfl
theorem fi100 : pv.fi 100 = some ⟨Try.f100, 5, .rw, false, none, []⟩ := by kernel_rfl
theorem fi101 : pv.fi 101 = some ⟨Try.f101, 7, .rw, false, none, []⟩ := by kernel_rfl
theorem fi102 : pv.fi 102 = some ⟨Try.f102, 7, .rw, false, none, []⟩ := by kernel_rfl
theorem fi103 : pv.fi 103 = some ⟨Try.f103, 61, .rw, true, none, []⟩ := by kernel_rfl
theorem fi104 : pv.fi 104 = some ⟨Try.f104, 1, .ro, false, none, []⟩ := by kernel_rfl
theorem fi105 : pv.fi 105 = some ⟨Try.f105, 3, .ro, false, none, []⟩ := by kernel_rfl
theorem fi106 : pv.fi 106 = some ⟨Try.f106, 6, .rw, false, none, [(7, [(0, 4)])]⟩ := by kernel_rfl
theorem fi107 : pv.fi 107 = some ⟨Try.f107, 5, .ro, false, none, []⟩ := by kernel_rfl
theorem fi108 : pv.fi 108 = some ⟨Try.f108, 12, .ro, false, none, []⟩ := by kernel_rfl
theorem fi109 : pv.fi 109 = some ⟨Try.f109, 10, .rw, false, none, []⟩ := by kernel_rfl
theorem fi110 : pv.fi 110 = some ⟨Try.f110, 13, .rw, false, none, []⟩ := by kernel_rfl
theorem fi111 : pv.fi 111 = some ⟨Try.f111, 13, .rw, false, none, []⟩ := by kernel_rfl
theorem fi112 : pv.fi 112 = some ⟨Try.f112, 56, .rw, false, none, []⟩ := by kernel_rfl
theorem fi113 : pv.fi 113 = some ⟨Try.f113, 10, .rw, false, none, []⟩ := by kernel_rfl
theorem fi114 : pv.fi 114 = some ⟨Try.f114, 13, .rw, false, none, []⟩ := by kernel_rfl
theorem fi115 : pv.fi 115 = some ⟨Try.f115, 13, .rw, false, none, []⟩ := by kernel_rfl
theorem fi116 : pv.fi 116 = some ⟨Try.f116, 14, .rw, false, none, []⟩ := by kernel_rfl
theorem fi117 : pv.fi 117 = some ⟨Try.f117, 3, .rw, false, none, []⟩ := by kernel_rfl
theorem fi118 : pv.fi 118 = some ⟨Try.f118, 3, .rw, false, none, []⟩ := by kernel_rfl
theorem fi119 : pv.fi 119 = some ⟨Try.f119, 8, .rw, false, none, []⟩ := by kernel_rfl
theorem fi120 : pv.fi 120 = some ⟨Try.f120, 11, .ro, false, none, []⟩ := by kernel_rfl
theorem fi121 : pv.fi 121 = some ⟨Try.f121, 3, .ro, false, none, []⟩ := by kernel_rfl
theorem fi122 : pv.fi 122 = some ⟨Try.f122, 3, .rw, false, none, []⟩ := by kernel_rfl
theorem fi123 : pv.fi 123 = some ⟨Try.f123, 5, .rw, false, none, []⟩ := by kernel_rfl
theorem fi124 : pv.fi 124 = some ⟨Try.f124, 3, .rw, false, none, [(1, [(4, 8)])]⟩ := by kernel_rfl
theorem fi125 : pv.fi 125 = some ⟨Try.f125, 12, .rw, false, none, []⟩ := by kernel_rfl
theorem fi126 : pv.fi 126 = some ⟨Try.f126, 3, .rw, false, none, []⟩ := by kernel_rfl
theorem fi127 : pv.fi 127 = some ⟨Try.f127, 3, .rw, false, none, []⟩ := by kernel_rfl
theorem fi128 : pv.fi 128 = some ⟨Try.f128, 9, .rw, false, none, []⟩ := by kernel_rfl
theorem fi129 : pv.fi 129 = some ⟨Try.f129, 13, .rw, false, none, []⟩ := by kernel_rfl
theorem fi130 : pv.fi 130 = some ⟨Try.f130, 29, .rw, true, none, []⟩ := by kernel_rfl
theorem fi131 : pv.fi 131 = some ⟨Try.f131, 1, .rw, false, none, []⟩ := by kernel_rfl
theorem fi132 : pv.fi 132 = some ⟨Try.f132, 12, .rw, false, none, []⟩ := by kernel_rfl
end Go.Proofs.Ytbdilgkfnacahaa
