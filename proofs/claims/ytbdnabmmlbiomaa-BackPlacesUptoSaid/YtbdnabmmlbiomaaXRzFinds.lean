/-
 What BackRuns asks of finds is reckoned, one call a theorem. By program.
-/
import Derived.Test.YtbdnabmmlbiomaaXView
import Derived.Test.YtbdnabmmlbiomaaXM2
import Derived.KernelRfl
set_option maxRecDepth 1000000
namespace Go.Proofs.Ytbdnabmmlbiomaa
open Go.V
def dc:Option (D×St)→Bool
 |some (.bool true,⟨[],_,_⟩)=>true
 |_=>false
theorem bP {r:Option (D×St)} (h:dc r=true):∃st,r=some (.bool true,st)∧st.bs=[]:=by
 match r,h with
 |some (.bool true,⟨[],a,b⟩),_=>exact⟨⟨[],a,b⟩,rfl,rfl⟩
theorem H0:dc (b8 bf 400 37 [.str [97,43],.str [98,97,97,98],.int .i64 (1),.int .i64 (3)] ⟨[],0,0⟩)=true:=by kernel_rfl
theorem HZ:dc (b8 bf 400 37 [.str [97,43,63],.str [98,97,97,98],.int .i64 (1),.int .i64 (2)] ⟨[],0,0⟩)=true:=by kernel_rfl
theorem HY:dc (b8 bf 400 37 [.str [97,124,97,98],.str [97,98],.int .i64 (0),.int .i64 (1)] ⟨[],0,0⟩)=true:=by kernel_rfl
theorem HX:dc (b8 bf 400 37 [.str [120],.str [97,98],.int .i64 (-1),.int .i64 (0)] ⟨[],0,0⟩)=true:=by kernel_rfl
theorem HW:dc (b8 bf 400 37 [.str [94,98],.str [97,98],.int .i64 (-1),.int .i64 (0)] ⟨[],0,0⟩)=true:=by kernel_rfl
theorem HV:dc (b8 bf 400 37 [.str [98,36],.str [98,97,98],.int .i64 (2),.int .i64 (3)] ⟨[],0,0⟩)=true:=by kernel_rfl
theorem HU:dc (b8 bf 400 37 [.str [40,63,58,41],.str [],.int .i64 (0),.int .i64 (0)] ⟨[],0,0⟩)=true:=by kernel_rfl
theorem HT:dc (b8 bf 400 37 [.str [195,169],.str [97,195,169],.int .i64 (1),.int .i64 (3)] ⟨[],0,0⟩)=true:=by kernel_rfl
theorem HS:dc (b8 bf 400 37 [.str [46],.str [255],.int .i64 (0),.int .i64 (1)] ⟨[],0,0⟩)=true:=by kernel_rfl
def lv:List (List D×D):=[([.str [97,43],.str [98,97,97,98],.int .i64 (1),.int .i64 (3)],.bool true),
 ([.str [97,43,63],.str [98,97,97,98],.int .i64 (1),.int .i64 (2)],.bool true),
 ([.str [97,124,97,98],.str [97,98],.int .i64 (0),.int .i64 (1)],.bool true),
 ([.str [120],.str [97,98],.int .i64 (-1),.int .i64 (0)],.bool true),
 ([.str [94,98],.str [97,98],.int .i64 (-1),.int .i64 (0)],.bool true),
 ([.str [98,36],.str [98,97,98],.int .i64 (2),.int .i64 (3)],.bool true),
 ([.str [40,63,58,41],.str [],.int .i64 (0),.int .i64 (0)],.bool true),
 ([.str [195,169],.str [97,195,169],.int .i64 (1),.int .i64 (3)],.bool true),
 ([.str [46],.str [255],.int .i64 (0),.int .i64 (1)],.bool true)]
theorem qz {P:Program} (h:bf.Ok P∧bf.fU∧fv P bf (dg bf)):fX P bf 37 (oD lv):=by
 refine yh h fun q hq=>?_;simp only[lv,List.mem_cons,List.not_mem_nil,or_false] at hq
 rcases hq with rfl|rfl|rfl|rfl|rfl|rfl|rfl|rfl|rfl
 ·obtain⟨st,h1,h2⟩:=bP H0;exact⟨by decide,_,st,h1,h2⟩
 ·obtain⟨st,h1,h2⟩:=bP HZ;exact⟨by decide,_,st,h1,h2⟩
 ·obtain⟨st,h1,h2⟩:=bP HY;exact⟨by decide,_,st,h1,h2⟩
 ·obtain⟨st,h1,h2⟩:=bP HX;exact⟨by decide,_,st,h1,h2⟩
 ·obtain⟨st,h1,h2⟩:=bP HW;exact⟨by decide,_,st,h1,h2⟩
 ·obtain⟨st,h1,h2⟩:=bP HV;exact⟨by decide,_,st,h1,h2⟩
 ·obtain⟨st,h1,h2⟩:=bP HU;exact⟨by decide,_,st,h1,h2⟩
 ·obtain⟨st,h1,h2⟩:=bP HT;exact⟨by decide,_,st,h1,h2⟩
 ·obtain⟨st,h1,h2⟩:=bP HS;exact⟨by decide,_,st,h1,h2⟩
noncomputable def Il:Pv:=bf.over [(37,oD lv)]
theorem II:Il.Ok Try.prog∧Il.fU∧fv Try.prog Il (dg Il):=by
 refine oj om rfl fun q hq=>?_;simp only[List.mem_cons,List.not_mem_nil,or_false] at hq;subst hq;exact qz om
end Go.Proofs.Ytbdnabmmlbiomaa
