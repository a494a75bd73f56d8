/-
  What StateRuns asks of some functions is reckoned, one call a theorem. By program.
-/
import Derived.Test.YteaeandommcdcaaGreatView
import Derived.Test.YteaeandommcdcaaGreatWb
import Derived.KernelRfl
namespace Go.Proofs.YteaeandommcdcaaGreat.stateRuns
open Go.V Go
set_option maxRecDepth 1000000

def isD (d : D) : Option (D × St) → Bool
  | some (e, ⟨[], _, _⟩) => beqD e d
  | _ => false

theorem isD_some {d : D} {r : Option (D × St)} (h : isD d r = true) : ∃ st, r = some (d, st) ∧ st.bs = [] := by
  match r, h with
  | some (e, ⟨[], a, b⟩), h => exact ⟨⟨[], a, b⟩, by rw [beqD_eq e d h], rfl⟩

theorem m0 : isD (.tup [.sl [.agg [.int .i64 (2), .sl [.agg [.int .i32 (97), .int .i32 (97)]], .int .i64 (0), .int .i64 (0), .bool false, .int .i64 (0), .int .i64 (0)]], .int .i64 (0), .int .i64 (0)]) (callD pv0 400 32 [.str [97]] ⟨[], 0, 0⟩) = true := by kernel_rfl
theorem m1 : isD (.tup [.sl [.agg [.int .i64 (2), .sl [.agg [.int .i32 (98), .int .i32 (98)]], .int .i64 (0), .int .i64 (0), .bool false, .int .i64 (0), .int .i64 (0)]], .int .i64 (0), .int .i64 (0)]) (callD pv0 400 32 [.str [98]] ⟨[], 0, 0⟩) = true := by kernel_rfl
theorem m2 : isD (.bool true) (callD pv0 400 51 [.agg [.sl [.agg [.int .i64 (4), .int .i64 (0), .int .i64 (0), .sl []], .agg [.int .i64 (1), .int .i64 (0), .int .i64 (0), .sl [.agg [.int .i32 (97), .int .i32 (97)]]], .agg [.int .i64 (4), .int .i64 (1), .int .i64 (0), .sl []], .agg [.int .i64 (7), .int .i64 (0), .int .i64 (0), .sl []]], .sl [.int .i64 (0)]]] ⟨[], 0, 0⟩) = true := by kernel_rfl
theorem m3 : isD (.bool true) (callD pv0 400 48 [.agg [.sl [.agg [.int .i64 (4), .int .i64 (0), .int .i64 (0), .sl []], .agg [.int .i64 (1), .int .i64 (0), .int .i64 (0), .sl [.agg [.int .i32 (97), .int .i32 (97)]]], .agg [.int .i64 (4), .int .i64 (1), .int .i64 (0), .sl []], .agg [.int .i64 (7), .int .i64 (0), .int .i64 (0), .sl []]], .sl [.int .i64 (0)]], .agg [.sl [], .int .i64 (1), .sl [.agg [.bool false, .int .i64 (-1), .int .i64 (-1), .int .i64 (-1), .int .i64 (-1), .int .i64 (-1), .int .i64 (-1), .int .i64 (-1), .int .i64 (-1), .int .i64 (-1), .int .i64 (-1), .sl [.agg [.int .i64 (2), .int .i64 (0), .int .i64 (-1), .int .i64 (-1), .int .i64 (-1), .int .i64 (-1), .int .i64 (-1), .int .i64 (-1), .int .i64 (-1), .int .i64 (-1), .int .i64 (-1)], .agg [.int .i64 (0), .int .i64 (-1), .int .i64 (-1), .int .i64 (-1), .int .i64 (-1), .int .i64 (-1), .int .i64 (-1), .int .i64 (-1), .int .i64 (-1), .int .i64 (-1), .int .i64 (-1)]]]]]] ⟨[], 0, 0⟩) = true := by kernel_rfl
theorem m4 : isD (.int .i64 (13052677746869)) (callD pv0 400 25 [.agg [.sl [.agg [.int .i64 (4), .int .i64 (0), .int .i64 (0), .sl []], .agg [.int .i64 (1), .int .i64 (0), .int .i64 (0), .sl [.agg [.int .i32 (97), .int .i32 (97)]]], .agg [.int .i64 (4), .int .i64 (1), .int .i64 (0), .sl []], .agg [.int .i64 (7), .int .i64 (0), .int .i64 (0), .sl []]], .sl [.int .i64 (0)]]] ⟨[], 0, 0⟩) = true := by kernel_rfl
theorem m5 : isD (.bool true) (callD pv0 400 51 [.agg [.sl [.agg [.int .i64 (4), .int .i64 (0), .int .i64 (0), .sl []], .agg [.int .i64 (1), .int .i64 (0), .int .i64 (0), .sl [.agg [.int .i32 (98), .int .i32 (98)]]], .agg [.int .i64 (4), .int .i64 (1), .int .i64 (0), .sl []], .agg [.int .i64 (7), .int .i64 (0), .int .i64 (0), .sl []]], .sl [.int .i64 (0)]]] ⟨[], 0, 0⟩) = true := by kernel_rfl
theorem m6 : isD (.int .i64 (180614441661231)) (callD pv0 400 25 [.agg [.sl [.agg [.int .i64 (4), .int .i64 (0), .int .i64 (0), .sl []], .agg [.int .i64 (1), .int .i64 (0), .int .i64 (0), .sl [.agg [.int .i32 (98), .int .i32 (98)]]], .agg [.int .i64 (4), .int .i64 (1), .int .i64 (0), .sl []], .agg [.int .i64 (7), .int .i64 (0), .int .i64 (0), .sl []]], .sl [.int .i64 (0)]]] ⟨[], 0, 0⟩) = true := by kernel_rfl
theorem m7 : isD (.int .i64 (265400924434341)) (callD pv0 400 25 [.agg [.nul, .nul]] ⟨[], 0, 0⟩) = true := by kernel_rfl

def memo32 : List (List D × D) := [([.str [97]], .tup [.sl [.agg [.int .i64 (2), .sl [.agg [.int .i32 (97), .int .i32 (97)]], .int .i64 (0), .int .i64 (0), .bool false, .int .i64 (0), .int .i64 (0)]], .int .i64 (0), .int .i64 (0)]),
  ([.str [98]], .tup [.sl [.agg [.int .i64 (2), .sl [.agg [.int .i32 (98), .int .i32 (98)]], .int .i64 (0), .int .i64 (0), .bool false, .int .i64 (0), .int .i64 (0)]], .int .i64 (0), .int .i64 (0)])]

theorem memo32_ok : PrimOk Tryz.prog pv0 32 (memoL memo32) := by
  refine memoL_ok view0 fun q hq => ?_
  simp only [memo32, List.mem_cons, List.not_mem_nil, or_false] at hq
  rcases hq with rfl | rfl
  · obtain ⟨st, h1, h2⟩ := isD_some m0
    exact ⟨by decide, _, st, h1, h2⟩
  · obtain ⟨st, h1, h2⟩ := isD_some m1
    exact ⟨by decide, _, st, h1, h2⟩

def memo51 : List (List D × D) := [([.agg [.sl [.agg [.int .i64 (4), .int .i64 (0), .int .i64 (0), .sl []], .agg [.int .i64 (1), .int .i64 (0), .int .i64 (0), .sl [.agg [.int .i32 (97), .int .i32 (97)]]], .agg [.int .i64 (4), .int .i64 (1), .int .i64 (0), .sl []], .agg [.int .i64 (7), .int .i64 (0), .int .i64 (0), .sl []]], .sl [.int .i64 (0)]]], .bool true),
  ([.agg [.sl [.agg [.int .i64 (4), .int .i64 (0), .int .i64 (0), .sl []], .agg [.int .i64 (1), .int .i64 (0), .int .i64 (0), .sl [.agg [.int .i32 (98), .int .i32 (98)]]], .agg [.int .i64 (4), .int .i64 (1), .int .i64 (0), .sl []], .agg [.int .i64 (7), .int .i64 (0), .int .i64 (0), .sl []]], .sl [.int .i64 (0)]]], .bool true)]

theorem memo51_ok : PrimOk Tryz.prog pv0 51 (memoL memo51) := by
  refine memoL_ok view0 fun q hq => ?_
  simp only [memo51, List.mem_cons, List.not_mem_nil, or_false] at hq
  rcases hq with rfl | rfl
  · obtain ⟨st, h1, h2⟩ := isD_some m2
    exact ⟨by decide, _, st, h1, h2⟩
  · obtain ⟨st, h1, h2⟩ := isD_some m5
    exact ⟨by decide, _, st, h1, h2⟩

def memo48 : List (List D × D) := [([.agg [.sl [.agg [.int .i64 (4), .int .i64 (0), .int .i64 (0), .sl []], .agg [.int .i64 (1), .int .i64 (0), .int .i64 (0), .sl [.agg [.int .i32 (97), .int .i32 (97)]]], .agg [.int .i64 (4), .int .i64 (1), .int .i64 (0), .sl []], .agg [.int .i64 (7), .int .i64 (0), .int .i64 (0), .sl []]], .sl [.int .i64 (0)]], .agg [.sl [], .int .i64 (1), .sl [.agg [.bool false, .int .i64 (-1), .int .i64 (-1), .int .i64 (-1), .int .i64 (-1), .int .i64 (-1), .int .i64 (-1), .int .i64 (-1), .int .i64 (-1), .int .i64 (-1), .int .i64 (-1), .sl [.agg [.int .i64 (2), .int .i64 (0), .int .i64 (-1), .int .i64 (-1), .int .i64 (-1), .int .i64 (-1), .int .i64 (-1), .int .i64 (-1), .int .i64 (-1), .int .i64 (-1), .int .i64 (-1)], .agg [.int .i64 (0), .int .i64 (-1), .int .i64 (-1), .int .i64 (-1), .int .i64 (-1), .int .i64 (-1), .int .i64 (-1), .int .i64 (-1), .int .i64 (-1), .int .i64 (-1), .int .i64 (-1)]]]]]], .bool true)]

theorem memo48_ok : PrimOk Tryz.prog pv0 48 (memoL memo48) := by
  refine memoL_ok view0 fun q hq => ?_
  simp only [memo48, List.mem_cons, List.not_mem_nil, or_false] at hq
  subst hq
  · obtain ⟨st, h1, h2⟩ := isD_some m3
    exact ⟨by decide, _, st, h1, h2⟩

def memo25 : List (List D × D) := [([.agg [.sl [.agg [.int .i64 (4), .int .i64 (0), .int .i64 (0), .sl []], .agg [.int .i64 (1), .int .i64 (0), .int .i64 (0), .sl [.agg [.int .i32 (97), .int .i32 (97)]]], .agg [.int .i64 (4), .int .i64 (1), .int .i64 (0), .sl []], .agg [.int .i64 (7), .int .i64 (0), .int .i64 (0), .sl []]], .sl [.int .i64 (0)]]], .int .i64 (13052677746869)),
  ([.agg [.sl [.agg [.int .i64 (4), .int .i64 (0), .int .i64 (0), .sl []], .agg [.int .i64 (1), .int .i64 (0), .int .i64 (0), .sl [.agg [.int .i32 (98), .int .i32 (98)]]], .agg [.int .i64 (4), .int .i64 (1), .int .i64 (0), .sl []], .agg [.int .i64 (7), .int .i64 (0), .int .i64 (0), .sl []]], .sl [.int .i64 (0)]]], .int .i64 (180614441661231)),
  ([.agg [.nul, .nul]], .int .i64 (265400924434341))]

theorem memo25_ok : PrimOk Tryz.prog pv0 25 (memoL memo25) := by
  refine memoL_ok view0 fun q hq => ?_
  simp only [memo25, List.mem_cons, List.not_mem_nil, or_false] at hq
  rcases hq with rfl | rfl | rfl
  · obtain ⟨st, h1, h2⟩ := isD_some m4
    exact ⟨by decide, _, st, h1, h2⟩
  · obtain ⟨st, h1, h2⟩ := isD_some m6
    exact ⟨by decide, _, st, h1, h2⟩
  · obtain ⟨st, h1, h2⟩ := isD_some m7
    exact ⟨by decide, _, st, h1, h2⟩

noncomputable def pvN : Pv := pv0.over [(32, memoL memo32), (51, memoL memo51), (48, memoL memo48), (25, memoL memo25)]
theorem viewN : pvN.Ok Tryz.prog ∧ pvN.codes ∧ CfOk Tryz.prog pvN (primF pvN) := by
  refine view_over view0 rfl fun q hq => ?_
  simp only [List.mem_cons, List.not_mem_nil, or_false] at hq
  rcases hq with rfl | rfl | rfl | rfl
  · exact memo32_ok
  · exact memo51_ok
  · exact memo48_ok
  · exact memo25_ok

def st0 : St := ⟨[.mem 0 true [.str [97]], .mem 0 false [.sl [.agg [.int .i64 (4), .int .i64 (0), .int .i64 (0), .sl []], .agg [.int .i64 (1), .int .i64 (0), .int .i64 (0), .sl [.agg [.int .i32 (97), .int .i32 (97)]]], .agg [.int .i64 (4), .int .i64 (1), .int .i64 (0), .sl []], .agg [.int .i64 (7), .int .i64 (0), .int .i64 (0), .sl []]], .sl [.int .i64 (0)]], .mem 0 true [.str [98]], .mem 0 false [.sl [.agg [.int .i64 (4), .int .i64 (0), .int .i64 (0), .sl []], .agg [.int .i64 (1), .int .i64 (0), .int .i64 (0), .sl [.agg [.int .i32 (98), .int .i32 (98)]]], .agg [.int .i64 (4), .int .i64 (1), .int .i64 (0), .sl []], .agg [.int .i64 (7), .int .i64 (0), .int .i64 (0), .sl []]], .sl [.int .i64 (0)]], .mem 0 true [.int .u8 (97)], .mem 0 false [.sl [], .int .i64 (1), .sl [.agg [.bool false, .int .i64 (-1), .int .i64 (-1), .int .i64 (-1), .int .i64 (-1), .int .i64 (-1), .int .i64 (-1), .int .i64 (-1), .int .i64 (-1), .int .i64 (-1), .int .i64 (-1), .sl [.agg [.int .i64 (2), .int .i64 (0), .int .i64 (-1), .int .i64 (-1), .int .i64 (-1), .int .i64 (-1), .int .i64 (-1), .int .i64 (-1), .int .i64 (-1), .int .i64 (-1), .int .i64 (-1)], .agg [.int .i64 (0), .int .i64 (-1), .int .i64 (-1), .int .i64 (-1), .int .i64 (-1), .int .i64 (-1), .int .i64 (-1), .int .i64 (-1), .int .i64 (-1), .int .i64 (-1), .int .i64 (-1)]]]]]], 0, 0⟩
theorem n0 : isS (.sl [.int .u8 (6), .int .u8 (11), .int .u8 (223), .int .u8 (16), .int .u8 (56), .int .u8 (112), .int .u8 (181), .int .u8 (0), .int .u8 (1), .int .u8 (1), .int .u8 (1), .int .u8 (1), .int .u8 (0), .int .u8 (0), .int .u8 (0), .int .u8 (0), .int .u8 (0), .int .u8 (0), .int .u8 (0), .int .u8 (0), .int .u8 (0), .int .u8 (0), .int .u8 (0), .int .u8 (1), .int .u8 (2), .int .u8 (1), .int .u8 (2), .int .u8 (1), .int .u8 (1), .int .u8 (0), .int .u8 (0), .int .u8 (0), .int .u8 (0), .int .u8 (0), .int .u8 (0), .int .u8 (0), .int .u8 (0), .int .u8 (0), .int .u8 (0), .int .u8 (0), .int .u8 (0), .int .u8 (0), .int .u8 (0), .int .u8 (0), .int .u8 (0), .int .u8 (0), .int .u8 (0), .int .u8 (0), .int .u8 (0)]) st0 (callD pvN 400 22 [.agg [.sl [.agg [.int .i64 (4), .int .i64 (0), .int .i64 (0), .sl []], .agg [.int .i64 (1), .int .i64 (0), .int .i64 (0), .sl [.agg [.int .i32 (97), .int .i32 (97)]]], .agg [.int .i64 (4), .int .i64 (1), .int .i64 (0), .sl []], .agg [.int .i64 (7), .int .i64 (0), .int .i64 (0), .sl []]], .sl [.int .i64 (0)]], .agg [.sl [], .int .i64 (1), .sl [.agg [.bool false, .int .i64 (-1), .int .i64 (-1), .int .i64 (-1), .int .i64 (-1), .int .i64 (-1), .int .i64 (-1), .int .i64 (-1), .int .i64 (-1), .int .i64 (-1), .int .i64 (-1), .sl [.agg [.int .i64 (2), .int .i64 (0), .int .i64 (-1), .int .i64 (-1), .int .i64 (-1), .int .i64 (-1), .int .i64 (-1), .int .i64 (-1), .int .i64 (-1), .int .i64 (-1), .int .i64 (-1)], .agg [.int .i64 (0), .int .i64 (-1), .int .i64 (-1), .int .i64 (-1), .int .i64 (-1), .int .i64 (-1), .int .i64 (-1), .int .i64 (-1), .int .i64 (-1), .int .i64 (-1), .int .i64 (-1)]]]]]] st0) = true := by kernel_rfl
theorem n1 : isS (.tup [.agg [.sl [], .int .i64 (1), .sl [.agg [.bool false, .int .i64 (-1), .int .i64 (-1), .int .i64 (-1), .int .i64 (-1), .int .i64 (-1), .int .i64 (-1), .int .i64 (-1), .int .i64 (-1), .int .i64 (-1), .int .i64 (-1), .sl [.agg [.int .i64 (2), .int .i64 (0), .int .i64 (-1), .int .i64 (-1), .int .i64 (-1), .int .i64 (-1), .int .i64 (-1), .int .i64 (-1), .int .i64 (-1), .int .i64 (-1), .int .i64 (-1)], .agg [.int .i64 (0), .int .i64 (-1), .int .i64 (-1), .int .i64 (-1), .int .i64 (-1), .int .i64 (-1), .int .i64 (-1), .int .i64 (-1), .int .i64 (-1), .int .i64 (-1), .int .i64 (-1)]]]]], .int .i64 (0)]) st0 (callD pvN 400 23 [.agg [.sl [.agg [.int .i64 (4), .int .i64 (0), .int .i64 (0), .sl []], .agg [.int .i64 (1), .int .i64 (0), .int .i64 (0), .sl [.agg [.int .i32 (97), .int .i32 (97)]]], .agg [.int .i64 (4), .int .i64 (1), .int .i64 (0), .sl []], .agg [.int .i64 (7), .int .i64 (0), .int .i64 (0), .sl []]], .sl [.int .i64 (0)]], .sl [.int .u8 (6), .int .u8 (11), .int .u8 (223), .int .u8 (16), .int .u8 (56), .int .u8 (112), .int .u8 (181), .int .u8 (0), .int .u8 (1), .int .u8 (1), .int .u8 (1), .int .u8 (1), .int .u8 (0), .int .u8 (0), .int .u8 (0), .int .u8 (0), .int .u8 (0), .int .u8 (0), .int .u8 (0), .int .u8 (0), .int .u8 (0), .int .u8 (0), .int .u8 (0), .int .u8 (1), .int .u8 (2), .int .u8 (1), .int .u8 (2), .int .u8 (1), .int .u8 (1), .int .u8 (0), .int .u8 (0), .int .u8 (0), .int .u8 (0), .int .u8 (0), .int .u8 (0), .int .u8 (0), .int .u8 (0), .int .u8 (0), .int .u8 (0), .int .u8 (0), .int .u8 (0), .int .u8 (0), .int .u8 (0), .int .u8 (0), .int .u8 (0), .int .u8 (0), .int .u8 (0), .int .u8 (0), .int .u8 (0)]] st0) = true := by kernel_rfl
def st1 : St := ⟨st0.bs ++ [.mem 0 false [.sl [], .int .i64 (1), .sl [.agg [.bool false, .int .i64 (-1), .int .i64 (-1), .int .i64 (-1), .int .i64 (-1), .int .i64 (-1), .int .i64 (-1), .int .i64 (-1), .int .i64 (-1), .int .i64 (-1), .int .i64 (-1), .sl [.agg [.int .i64 (2), .int .i64 (0), .int .i64 (-1), .int .i64 (-1), .int .i64 (-1), .int .i64 (-1), .int .i64 (-1), .int .i64 (-1), .int .i64 (-1), .int .i64 (-1), .int .i64 (-1)], .agg [.int .i64 (0), .int .i64 (-1), .int .i64 (-1), .int .i64 (-1), .int .i64 (-1), .int .i64 (-1), .int .i64 (-1), .int .i64 (-1), .int .i64 (-1), .int .i64 (-1), .int .i64 (-1)]]]]]], 0, 0⟩
theorem n2 : isS (.tup [.agg [.sl [], .int .i64 (0), .sl []], .int .i64 (11)]) st1 (callD pvN 400 23 [.agg [.sl [.agg [.int .i64 (4), .int .i64 (0), .int .i64 (0), .sl []], .agg [.int .i64 (1), .int .i64 (0), .int .i64 (0), .sl [.agg [.int .i32 (98), .int .i32 (98)]]], .agg [.int .i64 (4), .int .i64 (1), .int .i64 (0), .sl []], .agg [.int .i64 (7), .int .i64 (0), .int .i64 (0), .sl []]], .sl [.int .i64 (0)]], .sl [.int .u8 (6), .int .u8 (11), .int .u8 (223), .int .u8 (16), .int .u8 (56), .int .u8 (112), .int .u8 (181), .int .u8 (0), .int .u8 (1), .int .u8 (1), .int .u8 (1), .int .u8 (1), .int .u8 (0), .int .u8 (0), .int .u8 (0), .int .u8 (0), .int .u8 (0), .int .u8 (0), .int .u8 (0), .int .u8 (0), .int .u8 (0), .int .u8 (0), .int .u8 (0), .int .u8 (1), .int .u8 (2), .int .u8 (1), .int .u8 (2), .int .u8 (1), .int .u8 (1), .int .u8 (0), .int .u8 (0), .int .u8 (0), .int .u8 (0), .int .u8 (0), .int .u8 (0), .int .u8 (0), .int .u8 (0), .int .u8 (0), .int .u8 (0), .int .u8 (0), .int .u8 (0), .int .u8 (0), .int .u8 (0), .int .u8 (0), .int .u8 (0), .int .u8 (0), .int .u8 (0), .int .u8 (0), .int .u8 (0)]] st1) = true := by kernel_rfl
def st2 : St := ⟨st1.bs ++ [.mem 0 false [.sl [], .int .i64 (0), .sl []]], 0, 0⟩
theorem n3 : isS (.tup [.agg [.sl [], .int .i64 (0), .sl []], .int .i64 (3)]) st2 (callD pvN 400 23 [.agg [.sl [.agg [.int .i64 (4), .int .i64 (0), .int .i64 (0), .sl []], .agg [.int .i64 (1), .int .i64 (0), .int .i64 (0), .sl [.agg [.int .i32 (97), .int .i32 (97)]]], .agg [.int .i64 (4), .int .i64 (1), .int .i64 (0), .sl []], .agg [.int .i64 (7), .int .i64 (0), .int .i64 (0), .sl []]], .sl [.int .i64 (0)]], .sl [.int .u8 (6), .int .u8 (11), .int .u8 (223), .int .u8 (16), .int .u8 (56), .int .u8 (112), .int .u8 (181), .int .u8 (0), .int .u8 (1), .int .u8 (1), .int .u8 (1), .int .u8 (1), .int .u8 (0), .int .u8 (0), .int .u8 (0), .int .u8 (0), .int .u8 (0), .int .u8 (0), .int .u8 (0), .int .u8 (0), .int .u8 (0), .int .u8 (0), .int .u8 (0), .int .u8 (1), .int .u8 (2), .int .u8 (1), .int .u8 (2), .int .u8 (1), .int .u8 (1), .int .u8 (0), .int .u8 (0), .int .u8 (0), .int .u8 (0), .int .u8 (0), .int .u8 (0), .int .u8 (0), .int .u8 (0), .int .u8 (0), .int .u8 (0), .int .u8 (0), .int .u8 (0), .int .u8 (0), .int .u8 (0), .int .u8 (0), .int .u8 (0), .int .u8 (0), .int .u8 (0), .int .u8 (0)]] st2) = true := by kernel_rfl
def st3 : St := ⟨st2.bs ++ [.mem 0 false [.sl [], .int .i64 (0), .sl []], .mem 2 true [.int .u8 (6), .int .u8 (11), .int .u8 (223), .int .u8 (16), .int .u8 (56), .int .u8 (112), .int .u8 (181), .int .u8 (0), .int .u8 (1), .int .u8 (1), .int .u8 (1), .int .u8 (1), .int .u8 (0), .int .u8 (0), .int .u8 (0), .int .u8 (0), .int .u8 (0), .int .u8 (0), .int .u8 (0), .int .u8 (0), .int .u8 (0), .int .u8 (0), .int .u8 (0), .int .u8 (1), .int .u8 (2), .int .u8 (1), .int .u8 (2), .int .u8 (1), .int .u8 (1), .int .u8 (0), .int .u8 (0), .int .u8 (0), .int .u8 (0), .int .u8 (0), .int .u8 (0), .int .u8 (0), .int .u8 (0), .int .u8 (0), .int .u8 (0), .int .u8 (0), .int .u8 (0), .int .u8 (0), .int .u8 (0), .int .u8 (0), .int .u8 (0), .int .u8 (0), .int .u8 (0), .int .u8 (0), .int .u8 (0), .int .u8 (0)], .mem 0 true [.int .u8 (0)]], 0, 0⟩
theorem n4 : isS (.tup [.agg [.sl [], .int .i64 (0), .sl []], .int .i64 (5)]) st3 (callD pvN 400 23 [.agg [.sl [.agg [.int .i64 (4), .int .i64 (0), .int .i64 (0), .sl []], .agg [.int .i64 (1), .int .i64 (0), .int .i64 (0), .sl [.agg [.int .i32 (97), .int .i32 (97)]]], .agg [.int .i64 (4), .int .i64 (1), .int .i64 (0), .sl []], .agg [.int .i64 (7), .int .i64 (0), .int .i64 (0), .sl []]], .sl [.int .i64 (0)]], .win 9 2 0 50 1] st3) = true := by kernel_rfl

def memoS22 : List ((List D × St) × (D × St)) := [(([.agg [.sl [.agg [.int .i64 (4), .int .i64 (0), .int .i64 (0), .sl []], .agg [.int .i64 (1), .int .i64 (0), .int .i64 (0), .sl [.agg [.int .i32 (97), .int .i32 (97)]]], .agg [.int .i64 (4), .int .i64 (1), .int .i64 (0), .sl []], .agg [.int .i64 (7), .int .i64 (0), .int .i64 (0), .sl []]], .sl [.int .i64 (0)]], .agg [.sl [], .int .i64 (1), .sl [.agg [.bool false, .int .i64 (-1), .int .i64 (-1), .int .i64 (-1), .int .i64 (-1), .int .i64 (-1), .int .i64 (-1), .int .i64 (-1), .int .i64 (-1), .int .i64 (-1), .int .i64 (-1), .sl [.agg [.int .i64 (2), .int .i64 (0), .int .i64 (-1), .int .i64 (-1), .int .i64 (-1), .int .i64 (-1), .int .i64 (-1), .int .i64 (-1), .int .i64 (-1), .int .i64 (-1), .int .i64 (-1)], .agg [.int .i64 (0), .int .i64 (-1), .int .i64 (-1), .int .i64 (-1), .int .i64 (-1), .int .i64 (-1), .int .i64 (-1), .int .i64 (-1), .int .i64 (-1), .int .i64 (-1), .int .i64 (-1)]]]]]], st0), (.sl [.int .u8 (6), .int .u8 (11), .int .u8 (223), .int .u8 (16), .int .u8 (56), .int .u8 (112), .int .u8 (181), .int .u8 (0), .int .u8 (1), .int .u8 (1), .int .u8 (1), .int .u8 (1), .int .u8 (0), .int .u8 (0), .int .u8 (0), .int .u8 (0), .int .u8 (0), .int .u8 (0), .int .u8 (0), .int .u8 (0), .int .u8 (0), .int .u8 (0), .int .u8 (0), .int .u8 (1), .int .u8 (2), .int .u8 (1), .int .u8 (2), .int .u8 (1), .int .u8 (1), .int .u8 (0), .int .u8 (0), .int .u8 (0), .int .u8 (0), .int .u8 (0), .int .u8 (0), .int .u8 (0), .int .u8 (0), .int .u8 (0), .int .u8 (0), .int .u8 (0), .int .u8 (0), .int .u8 (0), .int .u8 (0), .int .u8 (0), .int .u8 (0), .int .u8 (0), .int .u8 (0), .int .u8 (0), .int .u8 (0)], st0))]

theorem memoS22_ok : PrimOk Tryz.prog pv0 22 (memoS memoS22) := by
  refine memoS_ok (pv := pv0) viewN (fun _ => rfl) fun q hq => ?_
  simp only [memoS22, List.mem_cons, List.not_mem_nil, or_false] at hq
  subst hq
  · exact ⟨400, isS_some n0⟩

def memoS23 : List ((List D × St) × (D × St)) := [(([.agg [.sl [.agg [.int .i64 (4), .int .i64 (0), .int .i64 (0), .sl []], .agg [.int .i64 (1), .int .i64 (0), .int .i64 (0), .sl [.agg [.int .i32 (97), .int .i32 (97)]]], .agg [.int .i64 (4), .int .i64 (1), .int .i64 (0), .sl []], .agg [.int .i64 (7), .int .i64 (0), .int .i64 (0), .sl []]], .sl [.int .i64 (0)]], .sl [.int .u8 (6), .int .u8 (11), .int .u8 (223), .int .u8 (16), .int .u8 (56), .int .u8 (112), .int .u8 (181), .int .u8 (0), .int .u8 (1), .int .u8 (1), .int .u8 (1), .int .u8 (1), .int .u8 (0), .int .u8 (0), .int .u8 (0), .int .u8 (0), .int .u8 (0), .int .u8 (0), .int .u8 (0), .int .u8 (0), .int .u8 (0), .int .u8 (0), .int .u8 (0), .int .u8 (1), .int .u8 (2), .int .u8 (1), .int .u8 (2), .int .u8 (1), .int .u8 (1), .int .u8 (0), .int .u8 (0), .int .u8 (0), .int .u8 (0), .int .u8 (0), .int .u8 (0), .int .u8 (0), .int .u8 (0), .int .u8 (0), .int .u8 (0), .int .u8 (0), .int .u8 (0), .int .u8 (0), .int .u8 (0), .int .u8 (0), .int .u8 (0), .int .u8 (0), .int .u8 (0), .int .u8 (0), .int .u8 (0)]], st0), (.tup [.agg [.sl [], .int .i64 (1), .sl [.agg [.bool false, .int .i64 (-1), .int .i64 (-1), .int .i64 (-1), .int .i64 (-1), .int .i64 (-1), .int .i64 (-1), .int .i64 (-1), .int .i64 (-1), .int .i64 (-1), .int .i64 (-1), .sl [.agg [.int .i64 (2), .int .i64 (0), .int .i64 (-1), .int .i64 (-1), .int .i64 (-1), .int .i64 (-1), .int .i64 (-1), .int .i64 (-1), .int .i64 (-1), .int .i64 (-1), .int .i64 (-1)], .agg [.int .i64 (0), .int .i64 (-1), .int .i64 (-1), .int .i64 (-1), .int .i64 (-1), .int .i64 (-1), .int .i64 (-1), .int .i64 (-1), .int .i64 (-1), .int .i64 (-1), .int .i64 (-1)]]]]], .int .i64 (0)], st0)),
  (([.agg [.sl [.agg [.int .i64 (4), .int .i64 (0), .int .i64 (0), .sl []], .agg [.int .i64 (1), .int .i64 (0), .int .i64 (0), .sl [.agg [.int .i32 (98), .int .i32 (98)]]], .agg [.int .i64 (4), .int .i64 (1), .int .i64 (0), .sl []], .agg [.int .i64 (7), .int .i64 (0), .int .i64 (0), .sl []]], .sl [.int .i64 (0)]], .sl [.int .u8 (6), .int .u8 (11), .int .u8 (223), .int .u8 (16), .int .u8 (56), .int .u8 (112), .int .u8 (181), .int .u8 (0), .int .u8 (1), .int .u8 (1), .int .u8 (1), .int .u8 (1), .int .u8 (0), .int .u8 (0), .int .u8 (0), .int .u8 (0), .int .u8 (0), .int .u8 (0), .int .u8 (0), .int .u8 (0), .int .u8 (0), .int .u8 (0), .int .u8 (0), .int .u8 (1), .int .u8 (2), .int .u8 (1), .int .u8 (2), .int .u8 (1), .int .u8 (1), .int .u8 (0), .int .u8 (0), .int .u8 (0), .int .u8 (0), .int .u8 (0), .int .u8 (0), .int .u8 (0), .int .u8 (0), .int .u8 (0), .int .u8 (0), .int .u8 (0), .int .u8 (0), .int .u8 (0), .int .u8 (0), .int .u8 (0), .int .u8 (0), .int .u8 (0), .int .u8 (0), .int .u8 (0), .int .u8 (0)]], st1), (.tup [.agg [.sl [], .int .i64 (0), .sl []], .int .i64 (11)], st1)),
  (([.agg [.sl [.agg [.int .i64 (4), .int .i64 (0), .int .i64 (0), .sl []], .agg [.int .i64 (1), .int .i64 (0), .int .i64 (0), .sl [.agg [.int .i32 (97), .int .i32 (97)]]], .agg [.int .i64 (4), .int .i64 (1), .int .i64 (0), .sl []], .agg [.int .i64 (7), .int .i64 (0), .int .i64 (0), .sl []]], .sl [.int .i64 (0)]], .sl [.int .u8 (6), .int .u8 (11), .int .u8 (223), .int .u8 (16), .int .u8 (56), .int .u8 (112), .int .u8 (181), .int .u8 (0), .int .u8 (1), .int .u8 (1), .int .u8 (1), .int .u8 (1), .int .u8 (0), .int .u8 (0), .int .u8 (0), .int .u8 (0), .int .u8 (0), .int .u8 (0), .int .u8 (0), .int .u8 (0), .int .u8 (0), .int .u8 (0), .int .u8 (0), .int .u8 (1), .int .u8 (2), .int .u8 (1), .int .u8 (2), .int .u8 (1), .int .u8 (1), .int .u8 (0), .int .u8 (0), .int .u8 (0), .int .u8 (0), .int .u8 (0), .int .u8 (0), .int .u8 (0), .int .u8 (0), .int .u8 (0), .int .u8 (0), .int .u8 (0), .int .u8 (0), .int .u8 (0), .int .u8 (0), .int .u8 (0), .int .u8 (0), .int .u8 (0), .int .u8 (0), .int .u8 (0)]], st2), (.tup [.agg [.sl [], .int .i64 (0), .sl []], .int .i64 (3)], st2)),
  (([.agg [.sl [.agg [.int .i64 (4), .int .i64 (0), .int .i64 (0), .sl []], .agg [.int .i64 (1), .int .i64 (0), .int .i64 (0), .sl [.agg [.int .i32 (97), .int .i32 (97)]]], .agg [.int .i64 (4), .int .i64 (1), .int .i64 (0), .sl []], .agg [.int .i64 (7), .int .i64 (0), .int .i64 (0), .sl []]], .sl [.int .i64 (0)]], .win 9 2 0 50 1], st3), (.tup [.agg [.sl [], .int .i64 (0), .sl []], .int .i64 (5)], st3))]

theorem memoS23_ok : PrimOk Tryz.prog pv0 23 (memoS memoS23) := by
  refine memoS_ok (pv := pv0) viewN (fun _ => rfl) fun q hq => ?_
  simp only [memoS23, List.mem_cons, List.not_mem_nil, or_false] at hq
  rcases hq with rfl | rfl | rfl | rfl
  · exact ⟨400, isS_some n1⟩
  · exact ⟨400, isS_some n2⟩
  · exact ⟨400, isS_some n3⟩
  · exact ⟨400, isS_some n4⟩

noncomputable def pvM : Pv := pv0.over [(32, memoL memo32), (51, memoL memo51), (48, memoL memo48), (25, memoL memo25), (22, memoS memoS22), (23, memoS memoS23)]
theorem viewM : pvM.Ok Tryz.prog ∧ pvM.codes ∧ CfOk Tryz.prog pvM (primF pvM) := by
  refine view_over view0 rfl fun q hq => ?_
  simp only [List.mem_cons, List.not_mem_nil, or_false] at hq
  rcases hq with rfl | rfl | rfl | rfl | rfl | rfl
  · exact memo32_ok
  · exact memo51_ok
  · exact memo48_ok
  · exact memo25_ok
  · exact memoS22_ok
  · exact memoS23_ok
end Go.Proofs.YteaeandommcdcaaGreat.stateRuns
