/-
  What RulesRuns asks of some functions is reckoned, one call a theorem. By program.
-/
import Derived.Test.YtecjacicdpejaaaGreatTView
import Derived.Test.YtecjacicdpejaaaGreatTM2
import Derived.KernelRfl
set_option maxRecDepth 1000000
namespace Go.Proofs.YtecjacicdpejaaaGreat.rulesRuns
open Go.V Go
def isD (d : D) : Option (D × St) → Bool
  | some (e, ⟨[], _, _⟩) => beqD e d
  | _ => false
theorem isD_some {d : D} {r : Option (D × St)} (h : isD d r = true) : ∃ st, r = some (d, st) ∧ st.bs = [] := by
  match r, h with
  | some (e, ⟨[], a, b⟩), h => exact ⟨⟨[], a, b⟩, by rw [beqD_eq e d h], rfl⟩
theorem m0 : isD (.tup [.sl [.agg [.int .i64 (5), .sl [], .int .i64 (1), .int .i64 (-1), .bool false, .int .i64 (0), .int .i64 (1)], .agg [.int .i64 (2), .sl [.agg [.int .i32 (120), .int .i32 (120)]], .int .i64 (0), .int .i64 (0), .bool false, .int .i64 (0), .int .i64 (0)]], .int .i64 (0), .int .i64 (0)]) (callD pv0 400 68 [.str [120, 43]] ⟨[], 0, 0⟩) = true := by kernel_rfl
theorem m1 : isD (.bool true) (callD pv0 400 135 [.sl [.agg [.int .i64 (5), .sl [], .int .i64 (1), .int .i64 (-1), .bool false, .int .i64 (0), .int .i64 (1)], .agg [.int .i64 (2), .sl [.agg [.int .i32 (120), .int .i32 (120)]], .int .i64 (0), .int .i64 (0), .bool false, .int .i64 (0), .int .i64 (0)]]] ⟨[], 0, 0⟩) = true := by kernel_rfl
theorem m2 : isD (.sl [.agg [.int .i64 (5), .sl [], .int .i64 (1), .int .i64 (-1), .bool false, .int .i64 (0), .int .i64 (1)], .agg [.int .i64 (2), .sl [.agg [.int .i32 (120), .int .i32 (120)]], .int .i64 (0), .int .i64 (0), .bool false, .int .i64 (0), .int .i64 (0)]]) (callD pv0 400 115 [.sl [.agg [.int .i64 (5), .sl [], .int .i64 (1), .int .i64 (-1), .bool false, .int .i64 (0), .int .i64 (1)], .agg [.int .i64 (2), .sl [.agg [.int .i32 (120), .int .i32 (120)]], .int .i64 (0), .int .i64 (0), .bool false, .int .i64 (0), .int .i64 (0)]]] ⟨[], 0, 0⟩) = true := by kernel_rfl
theorem m3 : isD (.tup [.sl [.agg [.int .i64 (4), .sl [], .int .i64 (0), .int .i64 (0), .bool false, .int .i64 (0), .int .i64 (2)], .agg [.int .i64 (2), .sl [.agg [.int .i32 (121), .int .i32 (121)]], .int .i64 (0), .int .i64 (0), .bool false, .int .i64 (0), .int .i64 (0)], .agg [.int .i64 (2), .sl [.agg [.int .i32 (122), .int .i32 (122)]], .int .i64 (0), .int .i64 (0), .bool false, .int .i64 (0), .int .i64 (0)]], .int .i64 (0), .int .i64 (0)]) (callD pv0 400 68 [.str [121, 124, 122]] ⟨[], 0, 0⟩) = true := by kernel_rfl
theorem m4 : isD (.bool true) (callD pv0 400 135 [.sl [.agg [.int .i64 (4), .sl [], .int .i64 (0), .int .i64 (0), .bool false, .int .i64 (0), .int .i64 (2)], .agg [.int .i64 (2), .sl [.agg [.int .i32 (121), .int .i32 (121)]], .int .i64 (0), .int .i64 (0), .bool false, .int .i64 (0), .int .i64 (0)], .agg [.int .i64 (2), .sl [.agg [.int .i32 (122), .int .i32 (122)]], .int .i64 (0), .int .i64 (0), .bool false, .int .i64 (0), .int .i64 (0)]]] ⟨[], 0, 0⟩) = true := by kernel_rfl
theorem m5 : isD (.sl [.agg [.int .i64 (2), .sl [.agg [.int .i32 (121), .int .i32 (122)]], .int .i64 (0), .int .i64 (0), .bool false, .int .i64 (0), .int .i64 (0)]]) (callD pv0 400 115 [.sl [.agg [.int .i64 (4), .sl [], .int .i64 (0), .int .i64 (0), .bool false, .int .i64 (0), .int .i64 (2)], .agg [.int .i64 (2), .sl [.agg [.int .i32 (121), .int .i32 (121)]], .int .i64 (0), .int .i64 (0), .bool false, .int .i64 (0), .int .i64 (0)], .agg [.int .i64 (2), .sl [.agg [.int .i32 (122), .int .i32 (122)]], .int .i64 (0), .int .i64 (0), .bool false, .int .i64 (0), .int .i64 (0)]]] ⟨[], 0, 0⟩) = true := by kernel_rfl
theorem m6 : isD (.tup [.sl [.agg [.int .i64 (3), .sl [], .int .i64 (0), .int .i64 (0), .bool false, .int .i64 (0), .int .i64 (2)], .agg [.int .i64 (7), .sl [], .int .i64 (0), .int .i64 (0), .bool false, .int .i64 (0), .int .i64 (0)], .agg [.int .i64 (2), .sl [.agg [.int .i32 (32), .int .i32 (32)]], .int .i64 (0), .int .i64 (0), .bool false, .int .i64 (0), .int .i64 (0)]], .int .i64 (0), .int .i64 (0)]) (callD pv0 400 68 [.str [94, 32]] ⟨[], 0, 0⟩) = true := by kernel_rfl
theorem m7 : isD (.bool true) (callD pv0 400 135 [.sl [.agg [.int .i64 (2), .sl [.agg [.int .i32 (121), .int .i32 (122)]], .int .i64 (0), .int .i64 (0), .bool false, .int .i64 (0), .int .i64 (0)]]] ⟨[], 0, 0⟩) = true := by kernel_rfl
theorem m8 : isD (.bool true) (callD pv0 400 135 [.sl [.agg [.int .i64 (3), .sl [], .int .i64 (0), .int .i64 (0), .bool false, .int .i64 (0), .int .i64 (2)], .agg [.int .i64 (7), .sl [], .int .i64 (0), .int .i64 (0), .bool false, .int .i64 (0), .int .i64 (0)], .agg [.int .i64 (2), .sl [.agg [.int .i32 (32), .int .i32 (32)]], .int .i64 (0), .int .i64 (0), .bool false, .int .i64 (0), .int .i64 (0)]]] ⟨[], 0, 0⟩) = true := by kernel_rfl
theorem m9 : isD (.sl [.agg [.int .i64 (3), .sl [], .int .i64 (0), .int .i64 (0), .bool false, .int .i64 (0), .int .i64 (2)], .agg [.int .i64 (7), .sl [], .int .i64 (0), .int .i64 (0), .bool false, .int .i64 (0), .int .i64 (0)], .agg [.int .i64 (2), .sl [.agg [.int .i32 (32), .int .i32 (32)]], .int .i64 (0), .int .i64 (0), .bool false, .int .i64 (0), .int .i64 (0)]]) (callD pv0 400 115 [.sl [.agg [.int .i64 (3), .sl [], .int .i64 (0), .int .i64 (0), .bool false, .int .i64 (0), .int .i64 (2)], .agg [.int .i64 (7), .sl [], .int .i64 (0), .int .i64 (0), .bool false, .int .i64 (0), .int .i64 (0)], .agg [.int .i64 (2), .sl [.agg [.int .i32 (32), .int .i32 (32)]], .int .i64 (0), .int .i64 (0), .bool false, .int .i64 (0), .int .i64 (0)]]] ⟨[], 0, 0⟩) = true := by kernel_rfl
theorem m10 : isD (.tup [.sl [.agg [.int .i64 (2), .sl [.agg [.int .i32 (120), .int .i32 (120)]], .int .i64 (0), .int .i64 (0), .bool false, .int .i64 (0), .int .i64 (0)]], .int .i64 (0), .int .i64 (0)]) (callD pv0 400 68 [.str [120]] ⟨[], 0, 0⟩) = true := by kernel_rfl
theorem m11 : isD (.bool true) (callD pv0 400 135 [.sl [.agg [.int .i64 (2), .sl [.agg [.int .i32 (120), .int .i32 (120)]], .int .i64 (0), .int .i64 (0), .bool false, .int .i64 (0), .int .i64 (0)]]] ⟨[], 0, 0⟩) = true := by kernel_rfl
theorem m12 : isD (.sl [.agg [.int .i64 (2), .sl [.agg [.int .i32 (120), .int .i32 (120)]], .int .i64 (0), .int .i64 (0), .bool false, .int .i64 (0), .int .i64 (0)]]) (callD pv0 400 115 [.sl [.agg [.int .i64 (2), .sl [.agg [.int .i32 (120), .int .i32 (120)]], .int .i64 (0), .int .i64 (0), .bool false, .int .i64 (0), .int .i64 (0)]]] ⟨[], 0, 0⟩) = true := by kernel_rfl
theorem m13 : isD (.tup [.sl [], .int .i64 (4), .int .i64 (0)]) (callD pv0 400 68 [.str [40]] ⟨[], 0, 0⟩) = true := by kernel_rfl
theorem m14 : isD (.tup [.sl [], .int .i64 (4), .int .i64 (0)]) (callD pv0 400 68 [.str [42]] ⟨[], 0, 0⟩) = true := by kernel_rfl
def memo68 : List (List D × D) := [([.str [120, 43]], .tup [.sl [.agg [.int .i64 (5), .sl [], .int .i64 (1), .int .i64 (-1), .bool false, .int .i64 (0), .int .i64 (1)], .agg [.int .i64 (2), .sl [.agg [.int .i32 (120), .int .i32 (120)]], .int .i64 (0), .int .i64 (0), .bool false, .int .i64 (0), .int .i64 (0)]], .int .i64 (0), .int .i64 (0)]),
  ([.str [121, 124, 122]], .tup [.sl [.agg [.int .i64 (4), .sl [], .int .i64 (0), .int .i64 (0), .bool false, .int .i64 (0), .int .i64 (2)], .agg [.int .i64 (2), .sl [.agg [.int .i32 (121), .int .i32 (121)]], .int .i64 (0), .int .i64 (0), .bool false, .int .i64 (0), .int .i64 (0)], .agg [.int .i64 (2), .sl [.agg [.int .i32 (122), .int .i32 (122)]], .int .i64 (0), .int .i64 (0), .bool false, .int .i64 (0), .int .i64 (0)]], .int .i64 (0), .int .i64 (0)]),
  ([.str [94, 32]], .tup [.sl [.agg [.int .i64 (3), .sl [], .int .i64 (0), .int .i64 (0), .bool false, .int .i64 (0), .int .i64 (2)], .agg [.int .i64 (7), .sl [], .int .i64 (0), .int .i64 (0), .bool false, .int .i64 (0), .int .i64 (0)], .agg [.int .i64 (2), .sl [.agg [.int .i32 (32), .int .i32 (32)]], .int .i64 (0), .int .i64 (0), .bool false, .int .i64 (0), .int .i64 (0)]], .int .i64 (0), .int .i64 (0)]),
  ([.str [120]], .tup [.sl [.agg [.int .i64 (2), .sl [.agg [.int .i32 (120), .int .i32 (120)]], .int .i64 (0), .int .i64 (0), .bool false, .int .i64 (0), .int .i64 (0)]], .int .i64 (0), .int .i64 (0)]),
  ([.str [40]], .tup [.sl [], .int .i64 (4), .int .i64 (0)]),
  ([.str [42]], .tup [.sl [], .int .i64 (4), .int .i64 (0)])]
theorem memo68_ok : PrimOk Tryz.prog pv0 68 (memoL memo68) := by
  refine memoL_ok view0 fun q hq => ?_
  simp only [memo68, List.mem_cons, List.not_mem_nil, or_false] at hq
  rcases hq with rfl | rfl | rfl | rfl | rfl | rfl
  · obtain ⟨st, h1, h2⟩ := isD_some m0
    exact ⟨by decide, _, st, h1, h2⟩
  · obtain ⟨st, h1, h2⟩ := isD_some m3
    exact ⟨by decide, _, st, h1, h2⟩
  · obtain ⟨st, h1, h2⟩ := isD_some m6
    exact ⟨by decide, _, st, h1, h2⟩
  · obtain ⟨st, h1, h2⟩ := isD_some m10
    exact ⟨by decide, _, st, h1, h2⟩
  · obtain ⟨st, h1, h2⟩ := isD_some m13
    exact ⟨by decide, _, st, h1, h2⟩
  · obtain ⟨st, h1, h2⟩ := isD_some m14
    exact ⟨by decide, _, st, h1, h2⟩
def memo135 : List (List D × D) := [([.sl [.agg [.int .i64 (5), .sl [], .int .i64 (1), .int .i64 (-1), .bool false, .int .i64 (0), .int .i64 (1)], .agg [.int .i64 (2), .sl [.agg [.int .i32 (120), .int .i32 (120)]], .int .i64 (0), .int .i64 (0), .bool false, .int .i64 (0), .int .i64 (0)]]], .bool true),
  ([.sl [.agg [.int .i64 (4), .sl [], .int .i64 (0), .int .i64 (0), .bool false, .int .i64 (0), .int .i64 (2)], .agg [.int .i64 (2), .sl [.agg [.int .i32 (121), .int .i32 (121)]], .int .i64 (0), .int .i64 (0), .bool false, .int .i64 (0), .int .i64 (0)], .agg [.int .i64 (2), .sl [.agg [.int .i32 (122), .int .i32 (122)]], .int .i64 (0), .int .i64 (0), .bool false, .int .i64 (0), .int .i64 (0)]]], .bool true),
  ([.sl [.agg [.int .i64 (2), .sl [.agg [.int .i32 (121), .int .i32 (122)]], .int .i64 (0), .int .i64 (0), .bool false, .int .i64 (0), .int .i64 (0)]]], .bool true),
  ([.sl [.agg [.int .i64 (3), .sl [], .int .i64 (0), .int .i64 (0), .bool false, .int .i64 (0), .int .i64 (2)], .agg [.int .i64 (7), .sl [], .int .i64 (0), .int .i64 (0), .bool false, .int .i64 (0), .int .i64 (0)], .agg [.int .i64 (2), .sl [.agg [.int .i32 (32), .int .i32 (32)]], .int .i64 (0), .int .i64 (0), .bool false, .int .i64 (0), .int .i64 (0)]]], .bool true),
  ([.sl [.agg [.int .i64 (2), .sl [.agg [.int .i32 (120), .int .i32 (120)]], .int .i64 (0), .int .i64 (0), .bool false, .int .i64 (0), .int .i64 (0)]]], .bool true)]
theorem memo135_ok : PrimOk Tryz.prog pv0 135 (memoL memo135) := by
  refine memoL_ok view0 fun q hq => ?_
  simp only [memo135, List.mem_cons, List.not_mem_nil, or_false] at hq
  rcases hq with rfl | rfl | rfl | rfl | rfl
  · obtain ⟨st, h1, h2⟩ := isD_some m1
    exact ⟨by decide, _, st, h1, h2⟩
  · obtain ⟨st, h1, h2⟩ := isD_some m4
    exact ⟨by decide, _, st, h1, h2⟩
  · obtain ⟨st, h1, h2⟩ := isD_some m7
    exact ⟨by decide, _, st, h1, h2⟩
  · obtain ⟨st, h1, h2⟩ := isD_some m8
    exact ⟨by decide, _, st, h1, h2⟩
  · obtain ⟨st, h1, h2⟩ := isD_some m11
    exact ⟨by decide, _, st, h1, h2⟩
def memo115 : List (List D × D) := [([.sl [.agg [.int .i64 (5), .sl [], .int .i64 (1), .int .i64 (-1), .bool false, .int .i64 (0), .int .i64 (1)], .agg [.int .i64 (2), .sl [.agg [.int .i32 (120), .int .i32 (120)]], .int .i64 (0), .int .i64 (0), .bool false, .int .i64 (0), .int .i64 (0)]]], .sl [.agg [.int .i64 (5), .sl [], .int .i64 (1), .int .i64 (-1), .bool false, .int .i64 (0), .int .i64 (1)], .agg [.int .i64 (2), .sl [.agg [.int .i32 (120), .int .i32 (120)]], .int .i64 (0), .int .i64 (0), .bool false, .int .i64 (0), .int .i64 (0)]]),
  ([.sl [.agg [.int .i64 (4), .sl [], .int .i64 (0), .int .i64 (0), .bool false, .int .i64 (0), .int .i64 (2)], .agg [.int .i64 (2), .sl [.agg [.int .i32 (121), .int .i32 (121)]], .int .i64 (0), .int .i64 (0), .bool false, .int .i64 (0), .int .i64 (0)], .agg [.int .i64 (2), .sl [.agg [.int .i32 (122), .int .i32 (122)]], .int .i64 (0), .int .i64 (0), .bool false, .int .i64 (0), .int .i64 (0)]]], .sl [.agg [.int .i64 (2), .sl [.agg [.int .i32 (121), .int .i32 (122)]], .int .i64 (0), .int .i64 (0), .bool false, .int .i64 (0), .int .i64 (0)]]),
  ([.sl [.agg [.int .i64 (3), .sl [], .int .i64 (0), .int .i64 (0), .bool false, .int .i64 (0), .int .i64 (2)], .agg [.int .i64 (7), .sl [], .int .i64 (0), .int .i64 (0), .bool false, .int .i64 (0), .int .i64 (0)], .agg [.int .i64 (2), .sl [.agg [.int .i32 (32), .int .i32 (32)]], .int .i64 (0), .int .i64 (0), .bool false, .int .i64 (0), .int .i64 (0)]]], .sl [.agg [.int .i64 (3), .sl [], .int .i64 (0), .int .i64 (0), .bool false, .int .i64 (0), .int .i64 (2)], .agg [.int .i64 (7), .sl [], .int .i64 (0), .int .i64 (0), .bool false, .int .i64 (0), .int .i64 (0)], .agg [.int .i64 (2), .sl [.agg [.int .i32 (32), .int .i32 (32)]], .int .i64 (0), .int .i64 (0), .bool false, .int .i64 (0), .int .i64 (0)]]),
  ([.sl [.agg [.int .i64 (2), .sl [.agg [.int .i32 (120), .int .i32 (120)]], .int .i64 (0), .int .i64 (0), .bool false, .int .i64 (0), .int .i64 (0)]]], .sl [.agg [.int .i64 (2), .sl [.agg [.int .i32 (120), .int .i32 (120)]], .int .i64 (0), .int .i64 (0), .bool false, .int .i64 (0), .int .i64 (0)]])]
theorem memo115_ok : PrimOk Tryz.prog pv0 115 (memoL memo115) := by
  refine memoL_ok view0 fun q hq => ?_
  simp only [memo115, List.mem_cons, List.not_mem_nil, or_false] at hq
  rcases hq with rfl | rfl | rfl | rfl
  · obtain ⟨st, h1, h2⟩ := isD_some m2
    exact ⟨by decide, _, st, h1, h2⟩
  · obtain ⟨st, h1, h2⟩ := isD_some m5
    exact ⟨by decide, _, st, h1, h2⟩
  · obtain ⟨st, h1, h2⟩ := isD_some m9
    exact ⟨by decide, _, st, h1, h2⟩
  · obtain ⟨st, h1, h2⟩ := isD_some m12
    exact ⟨by decide, _, st, h1, h2⟩
noncomputable def pvM : Pv := pv0.over [(68, memoL memo68), (135, memoL memo135), (115, memoL memo115)]
theorem viewM : pvM.Ok Tryz.prog ∧ pvM.codes ∧ CfOk Tryz.prog pvM (primF pvM) := by
  refine view_over view0 rfl fun q hq => ?_
  simp only [List.mem_cons, List.not_mem_nil, or_false] at hq
  rcases hq with rfl | rfl | rfl
  · exact memo68_ok
  · exact memo135_ok
  · exact memo115_ok
end Go.Proofs.YtecjacicdpejaaaGreat.rulesRuns
