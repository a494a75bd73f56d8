/-
 What BackRuns asks of finds is reckoned, one call a theorem. By program.
-/
import Derived.Test.YtbdnabmmlbiomaaXView
import Derived.Test.YtbdnabmmlbiomaaXM2
import Derived.KernelRfl
set_option maxRecDepth 1000000
namespace Go.Proofs.Ytbdnabmmlbiomaa
open Go.V
def dp:Option (D×St)→Bool
 |some (.bool true,⟨[],_,_⟩)=>true
 |_=>false
theorem bV {r:Option (D×St)} (h:dp r=true):∃st,r=some (.bool true,st)∧st.bs=[]:=by
 match r,h with
 |some (.bool true,⟨[],a,b⟩),_=>exact⟨⟨[],a,b⟩,rfl,rfl⟩
theorem KK:dp (aZ aV 400 37 [.str [97,43],.str [98,97,97,98],.int .i64 (1),.int .i64 (3)] ⟨[],0,0⟩)=true:=by kernel_rfl
theorem KJ:dp (aZ aV 400 37 [.str [97,43,63],.str [98,97,97,98],.int .i64 (1),.int .i64 (2)] ⟨[],0,0⟩)=true:=by kernel_rfl
theorem KI:dp (aZ aV 400 37 [.str [97,124,97,98],.str [97,98],.int .i64 (0),.int .i64 (1)] ⟨[],0,0⟩)=true:=by kernel_rfl
theorem KH:dp (aZ aV 400 37 [.str [120],.str [97,98],.int .i64 (-1),.int .i64 (0)] ⟨[],0,0⟩)=true:=by kernel_rfl
theorem KG:dp (aZ aV 400 37 [.str [94,98],.str [97,98],.int .i64 (-1),.int .i64 (0)] ⟨[],0,0⟩)=true:=by kernel_rfl
theorem KF:dp (aZ aV 400 37 [.str [98,36],.str [98,97,98],.int .i64 (2),.int .i64 (3)] ⟨[],0,0⟩)=true:=by kernel_rfl
theorem KE:dp (aZ aV 400 37 [.str [40,63,58,41],.str [],.int .i64 (0),.int .i64 (0)] ⟨[],0,0⟩)=true:=by kernel_rfl
theorem KD:dp (aZ aV 400 37 [.str [195,169],.str [97,195,169],.int .i64 (1),.int .i64 (3)] ⟨[],0,0⟩)=true:=by kernel_rfl
theorem KC:dp (aZ aV 400 37 [.str [46],.str [255],.int .i64 (0),.int .i64 (1)] ⟨[],0,0⟩)=true:=by kernel_rfl
def l9:List (List D×D):=[([.str [97,43],.str [98,97,97,98],.int .i64 (1),.int .i64 (3)],.bool true),
 ([.str [97,43,63],.str [98,97,97,98],.int .i64 (1),.int .i64 (2)],.bool true),
 ([.str [97,124,97,98],.str [97,98],.int .i64 (0),.int .i64 (1)],.bool true),
 ([.str [120],.str [97,98],.int .i64 (-1),.int .i64 (0)],.bool true),
 ([.str [94,98],.str [97,98],.int .i64 (-1),.int .i64 (0)],.bool true),
 ([.str [98,36],.str [98,97,98],.int .i64 (2),.int .i64 (3)],.bool true),
 ([.str [40,63,58,41],.str [],.int .i64 (0),.int .i64 (0)],.bool true),
 ([.str [195,169],.str [97,195,169],.int .i64 (1),.int .i64 (3)],.bool true),
 ([.str [46],.str [255],.int .i64 (0),.int .i64 (1)],.bool true)]
theorem sF {P:Program} (h:aV.Ok P∧aV.fG∧fy P aV (c9 aV)):dL P aV 37 (eY l9):=by
 refine jr h fun q hq=>?_;simp only[l9,List.mem_cons,List.not_mem_nil,or_false] at hq
 rcases hq with rfl|rfl|rfl|rfl|rfl|rfl|rfl|rfl|rfl
 ·obtain⟨st,h1,h2⟩:=bV KK;exact⟨by decide,_,st,h1,h2⟩
 ·obtain⟨st,h1,h2⟩:=bV KJ;exact⟨by decide,_,st,h1,h2⟩
 ·obtain⟨st,h1,h2⟩:=bV KI;exact⟨by decide,_,st,h1,h2⟩
 ·obtain⟨st,h1,h2⟩:=bV KH;exact⟨by decide,_,st,h1,h2⟩
 ·obtain⟨st,h1,h2⟩:=bV KG;exact⟨by decide,_,st,h1,h2⟩
 ·obtain⟨st,h1,h2⟩:=bV KF;exact⟨by decide,_,st,h1,h2⟩
 ·obtain⟨st,h1,h2⟩:=bV KE;exact⟨by decide,_,st,h1,h2⟩
 ·obtain⟨st,h1,h2⟩:=bV KD;exact⟨by decide,_,st,h1,h2⟩
 ·obtain⟨st,h1,h2⟩:=bV KC;exact⟨by decide,_,st,h1,h2⟩
noncomputable def K7:Pv:=aV.over [(37,eY l9)]
theorem Ln:K7.Ok Try.prog∧K7.fG∧fy Try.prog K7 (c9 K7):=by
 refine jH iT rfl fun q hq=>?_;simp only[List.mem_cons,List.not_mem_nil,or_false] at hq;subst hq;exact sF iT
end Go.Proofs.Ytbdnabmmlbiomaa
