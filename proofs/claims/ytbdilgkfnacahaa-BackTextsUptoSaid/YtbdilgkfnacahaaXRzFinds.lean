/-
 What BackRuns asks of finds is reckoned, one call a theorem. By program.
-/
import Derived.Test.YtbdilgkfnacahaaXView
import Derived.Test.YtbdilgkfnacahaaXM2
import Derived.KernelRfl
set_option maxRecDepth 1000000
namespace Go.Proofs.Ytbdilgkfnacahaa
open Go.V
def dE:Option (D×St)→Bool
 |some (.bool true,⟨[],_,_⟩)=>true
 |_=>false
theorem b4 {r:Option (D×St)} (h:dE r=true):∃st,r=some (.bool true,st)∧st.bs=[]:=by
 match r,h with
 |some (.bool true,⟨[],a,b⟩),_=>exact⟨⟨[],a,b⟩,rfl,rfl⟩
theorem JR:dE (b9 bf 400 56 [.str [97,43],.str [98,97,97,98],.int .i64 (1),.int .i64 (3)] ⟨[],0,0⟩)=true:=by kernel_rfl
theorem JQ:dE (b9 bf 400 56 [.str [97,43,63],.str [98,97,97,98],.int .i64 (1),.int .i64 (2)] ⟨[],0,0⟩)=true:=by kernel_rfl
theorem JP:dE (b9 bf 400 56 [.str [97,124,97,98],.str [97,98],.int .i64 (0),.int .i64 (1)] ⟨[],0,0⟩)=true:=by kernel_rfl
theorem JO:dE (b9 bf 400 56 [.str [120],.str [97,98],.int .i64 (-1),.int .i64 (0)] ⟨[],0,0⟩)=true:=by kernel_rfl
theorem JN:dE (b9 bf 400 56 [.str [94,98],.str [97,98],.int .i64 (-1),.int .i64 (0)] ⟨[],0,0⟩)=true:=by kernel_rfl
theorem JM:dE (b9 bf 400 56 [.str [98,36],.str [98,97,98],.int .i64 (2),.int .i64 (3)] ⟨[],0,0⟩)=true:=by kernel_rfl
theorem JL:dE (b9 bf 400 56 [.str [40,63,58,41],.str [],.int .i64 (0),.int .i64 (0)] ⟨[],0,0⟩)=true:=by kernel_rfl
theorem JK:dE (b9 bf 400 56 [.str [195,169],.str [97,195,169],.int .i64 (1),.int .i64 (3)] ⟨[],0,0⟩)=true:=by kernel_rfl
theorem JJ:dE (b9 bf 400 56 [.str [46],.str [255],.int .i64 (0),.int .i64 (1)] ⟨[],0,0⟩)=true:=by kernel_rfl
def mw:List (List D×D):=[([.str [97,43],.str [98,97,97,98],.int .i64 (1),.int .i64 (3)],.bool true),
 ([.str [97,43,63],.str [98,97,97,98],.int .i64 (1),.int .i64 (2)],.bool true),
 ([.str [97,124,97,98],.str [97,98],.int .i64 (0),.int .i64 (1)],.bool true),
 ([.str [120],.str [97,98],.int .i64 (-1),.int .i64 (0)],.bool true),
 ([.str [94,98],.str [97,98],.int .i64 (-1),.int .i64 (0)],.bool true),
 ([.str [98,36],.str [98,97,98],.int .i64 (2),.int .i64 (3)],.bool true),
 ([.str [40,63,58,41],.str [],.int .i64 (0),.int .i64 (0)],.bool true),
 ([.str [195,169],.str [97,195,169],.int .i64 (1),.int .i64 (3)],.bool true),
 ([.str [46],.str [255],.int .i64 (0),.int .i64 (1)],.bool true)]
theorem rN {P:Program} (h:bf.Ok P∧bf.gE∧f' P bf (dK bf)):e_ P bf 56 (pE mw):=by
 refine zq h fun q hq=>?_;simp only[mw,List.mem_cons,List.not_mem_nil,or_false] at hq
 rcases hq with rfl|rfl|rfl|rfl|rfl|rfl|rfl|rfl|rfl
 ·obtain⟨st,h1,h2⟩:=b4 JR;exact⟨by decide,_,st,h1,h2⟩
 ·obtain⟨st,h1,h2⟩:=b4 JQ;exact⟨by decide,_,st,h1,h2⟩
 ·obtain⟨st,h1,h2⟩:=b4 JP;exact⟨by decide,_,st,h1,h2⟩
 ·obtain⟨st,h1,h2⟩:=b4 JO;exact⟨by decide,_,st,h1,h2⟩
 ·obtain⟨st,h1,h2⟩:=b4 JN;exact⟨by decide,_,st,h1,h2⟩
 ·obtain⟨st,h1,h2⟩:=b4 JM;exact⟨by decide,_,st,h1,h2⟩
 ·obtain⟨st,h1,h2⟩:=b4 JL;exact⟨by decide,_,st,h1,h2⟩
 ·obtain⟨st,h1,h2⟩:=b4 JK;exact⟨by decide,_,st,h1,h2⟩
 ·obtain⟨st,h1,h2⟩:=b4 JJ;exact⟨by decide,_,st,h1,h2⟩
noncomputable def J9:Pv:=bf.over [(56,pE mw)]
theorem Kw:J9.Ok Try.prog∧J9.gE∧f' Try.prog J9 (dK J9):=by
 refine lW mI rfl fun q hq=>?_;simp only[List.mem_cons,List.not_mem_nil,or_false] at hq;subst hq;exact rN mI
end Go.Proofs.Ytbdilgkfnacahaa
