/-
  What ScanRuns asks of some functions is reckoned, one call a theorem. By program.
-/
import Derived.Test.YteaeandommcdcaaGreatView
import Derived.Test.YteaeandommcdcaaGreatWb
import Derived.KernelRfl
namespace Go.Proofs.YteaeandommcdcaaGreat.scanRuns
open Go.V Go
set_option maxRecDepth 1000000

def isD (d : D) : Option (D × St) → Bool
  | some (e, ⟨[], _, _⟩) => beqD e d
  | _ => false

theorem isD_some {d : D} {r : Option (D × St)} (h : isD d r = true) : ∃ st, r = some (d, st) ∧ st.bs = [] := by
  match r, h with
  | some (e, ⟨[], a, b⟩), h => exact ⟨⟨[], a, b⟩, by rw [beqD_eq e d h], rfl⟩

theorem m0 : isD (.tup [.sl [.agg [.int .i64 (2), .sl [.agg [.int .i32 (233), .int .i32 (233)]], .int .i64 (0), .int .i64 (0), .bool false, .int .i64 (0), .int .i64 (0)]], .int .i64 (0), .int .i64 (0)]) (callD pv0 400 32 [.str [195, 169]] ⟨[], 0, 0⟩) = true := by kernel_rfl
theorem m1 : isD (.bool true) (callD pv0 400 73 [.sl [.agg [.int .i64 (2), .sl [.agg [.int .i32 (233), .int .i32 (233)]], .int .i64 (0), .int .i64 (0), .bool false, .int .i64 (0), .int .i64 (0)]]] ⟨[], 0, 0⟩) = true := by kernel_rfl
theorem m2 : isD (.tup [.sl [.agg [.int .i64 (2), .sl [.agg [.int .i32 (0), .int .i32 (9)], .agg [.int .i32 (11), .int .i32 (55295)], .agg [.int .i32 (57344), .int .i32 (1114111)]], .int .i64 (0), .int .i64 (0), .bool false, .int .i64 (0), .int .i64 (0)]], .int .i64 (0), .int .i64 (0)]) (callD pv0 400 32 [.str [46]] ⟨[], 0, 0⟩) = true := by kernel_rfl
theorem m3 : isD (.bool true) (callD pv0 400 73 [.sl [.agg [.int .i64 (2), .sl [.agg [.int .i32 (0), .int .i32 (9)], .agg [.int .i32 (11), .int .i32 (55295)], .agg [.int .i32 (57344), .int .i32 (1114111)]], .int .i64 (0), .int .i64 (0), .bool false, .int .i64 (0), .int .i64 (0)]]] ⟨[], 0, 0⟩) = true := by kernel_rfl
theorem m4 : isD (.bool true) (callD pv0 400 51 [.agg [.sl [.agg [.int .i64 (4), .int .i64 (0), .int .i64 (0), .sl []], .agg [.int .i64 (1), .int .i64 (0), .int .i64 (0), .sl [.agg [.int .i32 (233), .int .i32 (233)]]], .agg [.int .i64 (4), .int .i64 (1), .int .i64 (0), .sl []], .agg [.int .i64 (7), .int .i64 (0), .int .i64 (0), .sl []]], .sl [.int .i64 (0)]]] ⟨[], 0, 0⟩) = true := by kernel_rfl
theorem m5 : isD (.bool true) (callD pv0 400 51 [.agg [.sl [.agg [.int .i64 (4), .int .i64 (0), .int .i64 (0), .sl []], .agg [.int .i64 (1), .int .i64 (0), .int .i64 (0), .sl [.agg [.int .i32 (0), .int .i32 (9)], .agg [.int .i32 (11), .int .i32 (55295)], .agg [.int .i32 (57344), .int .i32 (1114111)]]], .agg [.int .i64 (4), .int .i64 (1), .int .i64 (0), .sl []], .agg [.int .i64 (7), .int .i64 (0), .int .i64 (0), .sl []]], .sl [.int .i64 (0)]]] ⟨[], 0, 0⟩) = true := by kernel_rfl

def memo32 : List (List D × D) := [([.str [195, 169]], .tup [.sl [.agg [.int .i64 (2), .sl [.agg [.int .i32 (233), .int .i32 (233)]], .int .i64 (0), .int .i64 (0), .bool false, .int .i64 (0), .int .i64 (0)]], .int .i64 (0), .int .i64 (0)]),
  ([.str [46]], .tup [.sl [.agg [.int .i64 (2), .sl [.agg [.int .i32 (0), .int .i32 (9)], .agg [.int .i32 (11), .int .i32 (55295)], .agg [.int .i32 (57344), .int .i32 (1114111)]], .int .i64 (0), .int .i64 (0), .bool false, .int .i64 (0), .int .i64 (0)]], .int .i64 (0), .int .i64 (0)])]

theorem memo32_ok {P : Program} (h : pv0.Ok P ∧ pv0.codes ∧ CfOk P pv0 (primF pv0)) : PrimOk P pv0 32 (memoL memo32) := by
  refine memoL_ok h fun q hq => ?_
  simp only [memo32, List.mem_cons, List.not_mem_nil, or_false] at hq
  rcases hq with rfl | rfl
  · obtain ⟨st, h1, h2⟩ := isD_some m0
    exact ⟨by decide, _, st, h1, h2⟩
  · obtain ⟨st, h1, h2⟩ := isD_some m2
    exact ⟨by decide, _, st, h1, h2⟩

def memo73 : List (List D × D) := [([.sl [.agg [.int .i64 (2), .sl [.agg [.int .i32 (233), .int .i32 (233)]], .int .i64 (0), .int .i64 (0), .bool false, .int .i64 (0), .int .i64 (0)]]], .bool true),
  ([.sl [.agg [.int .i64 (2), .sl [.agg [.int .i32 (0), .int .i32 (9)], .agg [.int .i32 (11), .int .i32 (55295)], .agg [.int .i32 (57344), .int .i32 (1114111)]], .int .i64 (0), .int .i64 (0), .bool false, .int .i64 (0), .int .i64 (0)]]], .bool true)]

theorem memo73_ok {P : Program} (h : pv0.Ok P ∧ pv0.codes ∧ CfOk P pv0 (primF pv0)) : PrimOk P pv0 73 (memoL memo73) := by
  refine memoL_ok h fun q hq => ?_
  simp only [memo73, List.mem_cons, List.not_mem_nil, or_false] at hq
  rcases hq with rfl | rfl
  · obtain ⟨st, h1, h2⟩ := isD_some m1
    exact ⟨by decide, _, st, h1, h2⟩
  · obtain ⟨st, h1, h2⟩ := isD_some m3
    exact ⟨by decide, _, st, h1, h2⟩

def memo51 : List (List D × D) := [([.agg [.sl [.agg [.int .i64 (4), .int .i64 (0), .int .i64 (0), .sl []], .agg [.int .i64 (1), .int .i64 (0), .int .i64 (0), .sl [.agg [.int .i32 (233), .int .i32 (233)]]], .agg [.int .i64 (4), .int .i64 (1), .int .i64 (0), .sl []], .agg [.int .i64 (7), .int .i64 (0), .int .i64 (0), .sl []]], .sl [.int .i64 (0)]]], .bool true),
  ([.agg [.sl [.agg [.int .i64 (4), .int .i64 (0), .int .i64 (0), .sl []], .agg [.int .i64 (1), .int .i64 (0), .int .i64 (0), .sl [.agg [.int .i32 (0), .int .i32 (9)], .agg [.int .i32 (11), .int .i32 (55295)], .agg [.int .i32 (57344), .int .i32 (1114111)]]], .agg [.int .i64 (4), .int .i64 (1), .int .i64 (0), .sl []], .agg [.int .i64 (7), .int .i64 (0), .int .i64 (0), .sl []]], .sl [.int .i64 (0)]]], .bool true)]

theorem memo51_ok {P : Program} (h : pv0.Ok P ∧ pv0.codes ∧ CfOk P pv0 (primF pv0)) : PrimOk P pv0 51 (memoL memo51) := by
  refine memoL_ok h fun q hq => ?_
  simp only [memo51, List.mem_cons, List.not_mem_nil, or_false] at hq
  rcases hq with rfl | rfl
  · obtain ⟨st, h1, h2⟩ := isD_some m4
    exact ⟨by decide, _, st, h1, h2⟩
  · obtain ⟨st, h1, h2⟩ := isD_some m5
    exact ⟨by decide, _, st, h1, h2⟩

noncomputable def pvM : Pv := pv0.over [(32, memoL memo32), (73, memoL memo73), (51, memoL memo51)]
theorem viewM : pvM.Ok Tryz.prog ∧ pvM.codes ∧ CfOk Tryz.prog pvM (primF pvM) := by
  refine view_over view0 rfl fun q hq => ?_
  simp only [List.mem_cons, List.not_mem_nil, or_false] at hq
  rcases hq with rfl | rfl | rfl
  · exact memo32_ok view0
  · exact memo73_ok view0
  · exact memo51_ok view0
end Go.Proofs.YteaeandommcdcaaGreat.scanRuns
