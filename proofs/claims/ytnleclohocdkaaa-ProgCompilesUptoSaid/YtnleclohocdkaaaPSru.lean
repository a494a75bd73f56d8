/- slices.SortFunc on ranges is laid at this program. No conditions. -/
import Derived.Shelf.SlSortCmp.WholeK
import Derived.Shelf.SlGeneric
import Derived.Ground.SlsfProg
import Derived.Test.YtnleclohocdkaaaProg
namespace Go.Proofs
open Go.Shelf
def Ytnleclohocdkaaa.sortR_ren : Go.Shelf.Ren := ⟨fun | 6 => 115 | 15 => 130 | 14 => 129 | 28 => 145 | 29 => 146 | 20 => 137 | 21 => 138 | 22 => 139 | 23 => 140 | 24 => 141 | 25 => 142 | 26 => 143 | 27 => 144 | 46 => 149 | 47 => 150 | 48 => 151 | 49 => 152 | 50 => 153 | 57 => 155 | n => n, fun | 22 => 37 | 24 => 42 | 25 => 185 | 3 => 3 | 39 => 152 | 0 => 0 | 53 => 172 | 55 => 215 | 4 => 4 | 46 => 208 | 45 => 207 | 50 => 165 | 5 => 5 | 9 => 9 | 66 => 217 | 70 => 221 | 76 => 225 | 77 => 180 | n => n, fun | n => n⟩
theorem Ytnleclohocdkaaa.sortR : Go.Proofs.SlLaysF0.n6 Try.prog Ytnleclohocdkaaa.sortR_ren := {
  mixed := by kernel_rfl
  f6 := ⟨Try.f115.name, by decide, Try.func115.trans (congrArg some (by kernel_rfl))⟩
  f14 := ⟨Try.f129.name, by decide, Try.func129.trans (congrArg some (by kernel_rfl))⟩
  f15 := Try.func130.trans (congrArg some (by kernel_rfl))
  f20 := ⟨Try.f137.name, by decide, Try.func137.trans (congrArg some (by kernel_rfl))⟩
  f21 := ⟨Try.f138.name, by decide, Try.func138.trans (congrArg some (by kernel_rfl))⟩
  f22 := ⟨Try.f139.name, by decide, Try.func139.trans (congrArg some (by kernel_rfl))⟩
  f23 := ⟨Try.f140.name, by decide, Try.func140.trans (congrArg some (by kernel_rfl))⟩
  f24 := ⟨Try.f141.name, by decide, Try.func141.trans (congrArg some (by kernel_rfl))⟩
  f25 := ⟨Try.f142.name, by decide, Try.func142.trans (congrArg some (by kernel_rfl))⟩
  f26 := ⟨Try.f143.name, by decide, Try.func143.trans (congrArg some (by kernel_rfl))⟩
  f27 := ⟨Try.f144.name, by decide, Try.func144.trans (congrArg some (by kernel_rfl))⟩
  f28 := Try.func145.trans (congrArg some (by kernel_rfl))
  f29 := Try.func146.trans (congrArg some (by kernel_rfl))
  f46 := ⟨Try.f149.name, by decide, Try.func149.trans (congrArg some (by kernel_rfl))⟩
  f47 := Try.func150.trans (congrArg some (by kernel_rfl))
  f48 := Try.func151.trans (congrArg some (by kernel_rfl))
  f49 := ⟨Try.f152.name, by decide, Try.func152.trans (congrArg some (by kernel_rfl))⟩
  f50 := ⟨Try.f153.name, by decide, Try.func153.trans (congrArg some (by kernel_rfl))⟩
  f57 := ⟨Try.f155.name, by decide, Try.func155.trans (congrArg some (by kernel_rfl))⟩
  t0 := Try.underlying0
  a0 := Try.isAgg0
  z0 := Try.sizeOf0
  v0 := Try.zeroValue0
  t3 := Try.underlying3
  a3 := Try.isAgg3
  z3 := Try.sizeOf3
  v3 := Try.zeroValue3
  t4 := Try.underlying4
  a4 := Try.isAgg4
  z4 := Try.sizeOf4
  v4 := Try.zeroValue4
  t5 := Try.underlying5
  a5 := Try.isAgg5
  z5 := Try.sizeOf5
  v5 := Try.zeroValue5
  t9 := Try.underlying9
  a9 := Try.isAgg9
  z9 := Try.sizeOf9
  v9 := Try.zeroValue9
  t22 := Try.underlying37
  a22 := Try.isAgg37
  z22 := Try.sizeOf37
  v22 := Try.zeroValue37
  t25 := Try.underlying185
  a25 := Try.isAgg185
  z25 := Try.sizeOf185
  v25 := Try.zeroValue185
  t39 := Try.underlying152
  a39 := Try.isAgg152
  z39 := Try.sizeOf152
  v39 := Try.zeroValue152
  t45 := Try.underlying207
  a45 := Try.isAgg207
  z45 := Try.sizeOf207
  v45 := Try.zeroValue207
  t46 := Try.underlying208
  a46 := Try.isAgg208
  z46 := Try.sizeOf208
  v46 := Try.zeroValue208
  t50 := Try.underlying165
  a50 := Try.isAgg165
  z50 := Try.sizeOf165
  v50 := Try.zeroValue165
  t53 := Try.underlying172
  a53 := Try.isAgg172
  z53 := Try.sizeOf172
  v53 := Try.zeroValue172
  t55 := Try.underlying215
  a55 := Try.isAgg215
  z55 := Try.sizeOf215
  v55 := Try.zeroValue215
  t66 := Try.underlying217
  a66 := Try.isAgg217
  z66 := Try.sizeOf217
  v66 := Try.zeroValue217
  t70 := Try.underlying221
  a70 := Try.isAgg221
  z70 := Try.sizeOf221
  v70 := Try.zeroValue221
  t76 := Try.underlying225
  a76 := Try.isAgg225
  z76 := Try.sizeOf225
  v76 := Try.zeroValue225
  t77 := Try.underlying180
  a77 := Try.isAgg180
  z77 := Try.sizeOf180
  v77 := Try.zeroValue180 }
end Go.Proofs
