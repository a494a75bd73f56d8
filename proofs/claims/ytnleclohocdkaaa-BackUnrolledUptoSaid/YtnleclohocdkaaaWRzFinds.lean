/-
 What BackRuns asks of finds is reckoned, one call a theorem. By program.
-/
import Derived.Test.YtnleclohocdkaaaWView
import Derived.Test.YtnleclohocdkaaaWM2
import Derived.KernelRfl
set_option maxRecDepth 1000000
namespace Go.Proofs.Ytnleclohocdkaaa
open Go.V
def dP:Option (D×St)→Bool
 |some (.bool true,⟨[],_,_⟩)=>true
 |_=>false
theorem cu {r:Option (D×St)} (h:dP r=true):∃st,r=some (.bool true,st)∧st.bs=[]:=by
 match r,h with
 |some (.bool true,⟨[],a,b⟩),_=>exact⟨⟨[],a,b⟩,rfl,rfl⟩
theorem GR:dP (aZ eY 400 59 [.str [97,43],.str [98,97,97,98],.int .i64 (1),.int .i64 (3)] ⟨[],0,0⟩)=true:=by kernel_rfl
theorem GQ:dP (aZ eY 400 59 [.str [97,43,63],.str [98,97,97,98],.int .i64 (1),.int .i64 (2)] ⟨[],0,0⟩)=true:=by kernel_rfl
theorem GP:dP (aZ eY 400 59 [.str [97,124,97,98],.str [97,98],.int .i64 (0),.int .i64 (1)] ⟨[],0,0⟩)=true:=by kernel_rfl
theorem GO:dP (aZ eY 400 59 [.str [120],.str [97,98],.int .i64 (-1),.int .i64 (0)] ⟨[],0,0⟩)=true:=by kernel_rfl
theorem GN:dP (aZ eY 400 59 [.str [94,98],.str [97,98],.int .i64 (-1),.int .i64 (0)] ⟨[],0,0⟩)=true:=by kernel_rfl
theorem GM:dP (aZ eY 400 59 [.str [98,36],.str [98,97,98],.int .i64 (2),.int .i64 (3)] ⟨[],0,0⟩)=true:=by kernel_rfl
theorem GL:dP (aZ eY 400 59 [.str [40,63,58,41],.str [],.int .i64 (0),.int .i64 (0)] ⟨[],0,0⟩)=true:=by kernel_rfl
theorem GK:dP (aZ eY 400 59 [.str [195,169],.str [97,195,169],.int .i64 (1),.int .i64 (3)] ⟨[],0,0⟩)=true:=by kernel_rfl
theorem GJ:dP (aZ eY 400 59 [.str [46],.str [255],.int .i64 (0),.int .i64 (1)] ⟨[],0,0⟩)=true:=by kernel_rfl
def nJ:List (List D×D):=[([.str [97,43],.str [98,97,97,98],.int .i64 (1),.int .i64 (3)],.bool true),
 ([.str [97,43,63],.str [98,97,97,98],.int .i64 (1),.int .i64 (2)],.bool true),
 ([.str [97,124,97,98],.str [97,98],.int .i64 (0),.int .i64 (1)],.bool true),
 ([.str [120],.str [97,98],.int .i64 (-1),.int .i64 (0)],.bool true),
 ([.str [94,98],.str [97,98],.int .i64 (-1),.int .i64 (0)],.bool true),
 ([.str [98,36],.str [98,97,98],.int .i64 (2),.int .i64 (3)],.bool true),
 ([.str [40,63,58,41],.str [],.int .i64 (0),.int .i64 (0)],.bool true),
 ([.str [195,169],.str [97,195,169],.int .i64 (1),.int .i64 (3)],.bool true),
 ([.str [46],.str [255],.int .i64 (0),.int .i64 (1)],.bool true)]
theorem uh {P:Program} (h:eY.Ok P∧eY.gf∧f_ P eY (dt eY)):dg P eY 59 (ga nJ):=by
 refine kr h fun q hq=>?_;simp only[nJ,List.mem_cons,List.not_mem_nil,or_false] at hq
 rcases hq with rfl|rfl|rfl|rfl|rfl|rfl|rfl|rfl|rfl
 ·obtain⟨st,h1,h2⟩:=cu GR;exact⟨by decide,_,st,h1,h2⟩
 ·obtain⟨st,h1,h2⟩:=cu GQ;exact⟨by decide,_,st,h1,h2⟩
 ·obtain⟨st,h1,h2⟩:=cu GP;exact⟨by decide,_,st,h1,h2⟩
 ·obtain⟨st,h1,h2⟩:=cu GO;exact⟨by decide,_,st,h1,h2⟩
 ·obtain⟨st,h1,h2⟩:=cu GN;exact⟨by decide,_,st,h1,h2⟩
 ·obtain⟨st,h1,h2⟩:=cu GM;exact⟨by decide,_,st,h1,h2⟩
 ·obtain⟨st,h1,h2⟩:=cu GL;exact⟨by decide,_,st,h1,h2⟩
 ·obtain⟨st,h1,h2⟩:=cu GK;exact⟨by decide,_,st,h1,h2⟩
 ·obtain⟨st,h1,h2⟩:=cu GJ;exact⟨by decide,_,st,h1,h2⟩
noncomputable def G9:Pv:=eY.over [(59,ga nJ)]
theorem Hx:G9.Ok Try.prog∧G9.gf∧f_ Try.prog G9 (dt G9):=by
 refine jk iM rfl fun q hq=>?_;simp only[List.mem_cons,List.not_mem_nil,or_false] at hq;subst hq;exact uh iM
end Go.Proofs.Ytnleclohocdkaaa
