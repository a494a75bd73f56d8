/- own -/
import Derived.Test.YtapfahlbkhgdpaaTView
import Derived.Test.YtapfahlbkhgdpaaTM2
import Derived.KernelRfl
set_option maxRecDepth 1000000
namespace Go.Proofs.Ytapfahlbkhgdpaa
open Go.V
def findsTrue : Option (D × St) -> Bool
 | some (.bool true,⟨[],_,_⟩) => true
 | _ => false
theorem findsTrue_some {r : Option (D × St)} (h : findsTrue r = true) : ∃ st,r = some (.bool true,st) /\ st.bs = [] := by
 match r,h with
 | some (.bool true,⟨[],a,b⟩),_ => exact ⟨⟨[],a,b⟩,rfl,rfl⟩
theorem finds0 : findsTrue (callD pv0 400 15 [.str [97,43], .str [98,97,97,98], .int .i64 (1), .int .i64 (3)] ⟨[],0,0⟩) = true := by kernel_rfl
theorem finds1 : findsTrue (callD pv0 400 15 [.str [97,43,63], .str [98,97,97,98], .int .i64 (1), .int .i64 (2)] ⟨[],0,0⟩) = true := by kernel_rfl
theorem finds2 : findsTrue (callD pv0 400 15 [.str [97,124,97,98], .str [97,98], .int .i64 (0), .int .i64 (1)] ⟨[],0,0⟩) = true := by kernel_rfl
theorem finds3 : findsTrue (callD pv0 400 15 [.str [120], .str [97,98], .int .i64 (-1), .int .i64 (0)] ⟨[],0,0⟩) = true := by kernel_rfl
theorem finds4 : findsTrue (callD pv0 400 15 [.str [94,98], .str [97,98], .int .i64 (-1), .int .i64 (0)] ⟨[],0,0⟩) = true := by kernel_rfl
theorem finds5 : findsTrue (callD pv0 400 15 [.str [98,36], .str [98,97,98], .int .i64 (2), .int .i64 (3)] ⟨[],0,0⟩) = true := by kernel_rfl
theorem finds6 : findsTrue (callD pv0 400 15 [.str [40,63,58,41], .str [], .int .i64 (0), .int .i64 (0)] ⟨[],0,0⟩) = true := by kernel_rfl
theorem finds7 : findsTrue (callD pv0 400 15 [.str [195,169], .str [97,195,169], .int .i64 (1), .int .i64 (3)] ⟨[],0,0⟩) = true := by kernel_rfl
theorem finds8 : findsTrue (callD pv0 400 15 [.str [46], .str [255], .int .i64 (0), .int .i64 (1)] ⟨[],0,0⟩) = true := by kernel_rfl
def findsMemo : List (List D × D) := [([.str [97,43], .str [98,97,97,98], .int .i64 (1), .int .i64 (3)], .bool true),
 ([.str [97,43,63], .str [98,97,97,98], .int .i64 (1), .int .i64 (2)], .bool true),
 ([.str [97,124,97,98], .str [97,98], .int .i64 (0), .int .i64 (1)], .bool true),
 ([.str [120], .str [97,98], .int .i64 (-1), .int .i64 (0)], .bool true),
 ([.str [94,98], .str [97,98], .int .i64 (-1), .int .i64 (0)], .bool true),
 ([.str [98,36], .str [98,97,98], .int .i64 (2), .int .i64 (3)], .bool true),
 ([.str [40,63,58,41], .str [], .int .i64 (0), .int .i64 (0)], .bool true),
 ([.str [195,169], .str [97,195,169], .int .i64 (1), .int .i64 (3)], .bool true),
 ([.str [46], .str [255], .int .i64 (0), .int .i64 (1)], .bool true)]
theorem findsMemo_ok {P : Program} (h : pv0.Ok P /\ pv0.codes /\ CfOk P pv0 (primF pv0)) : PrimOk P pv0 15 (memoL findsMemo) := by
 refine memoL_ok h fun q hq => ?_
 simp only [findsMemo,List.mem_cons,List.not_mem_nil,or_false] at hq
 rcases hq with rfl | rfl | rfl | rfl | rfl | rfl | rfl | rfl | rfl
 ·obtain ⟨st,h1,h2⟩ := findsTrue_some finds0
  exact ⟨by decide,_,st,h1,h2⟩
 ·obtain ⟨st,h1,h2⟩ := findsTrue_some finds1
  exact ⟨by decide,_,st,h1,h2⟩
 ·obtain ⟨st,h1,h2⟩ := findsTrue_some finds2
  exact ⟨by decide,_,st,h1,h2⟩
 ·obtain ⟨st,h1,h2⟩ := findsTrue_some finds3
  exact ⟨by decide,_,st,h1,h2⟩
 ·obtain ⟨st,h1,h2⟩ := findsTrue_some finds4
  exact ⟨by decide,_,st,h1,h2⟩
 ·obtain ⟨st,h1,h2⟩ := findsTrue_some finds5
  exact ⟨by decide,_,st,h1,h2⟩
 ·obtain ⟨st,h1,h2⟩ := findsTrue_some finds6
  exact ⟨by decide,_,st,h1,h2⟩
 ·obtain ⟨st,h1,h2⟩ := findsTrue_some finds7
  exact ⟨by decide,_,st,h1,h2⟩
 ·obtain ⟨st,h1,h2⟩ := findsTrue_some finds8
  exact ⟨by decide,_,st,h1,h2⟩
noncomputable def pvB : Pv := pv0.over [(15,memoL findsMemo)]
theorem viewB : pvB.Ok Try.prog /\ pvB.codes /\ CfOk Try.prog pvB (primF pvB) := by
 refine view_over view0 rfl fun q hq => ?_
 simp only [List.mem_cons,List.not_mem_nil,or_false] at hq
 subst hq
 exact findsMemo_ok view0
end Go.Proofs.Ytapfahlbkhgdpaa
