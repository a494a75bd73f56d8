/-
 What RulesRuns asks of some functions is reckoned, one call a theorem. By program.
-/
import Derived.Test.YthahmilhpmfkfaaGreatVView
import Derived.Test.YthahmilhpmfkfaaGreatVM2
import Derived.KernelRfl
set_option maxRecDepth 1000000
namespace Go.Proofs.YthahmilhpmfkfaaGreat.rulesRuns
open Go.V Go
def yG (d:D):Option (D×St)→Bool
 |some (e,⟨[],_,_⟩)=>fF e d
 |_=>false
theorem cS {d:D} {r:Option (D×St)} (h:yG d r=true):∃st,r=some (d,st)∧st.bs=[]:=by
 match r,h with
 |some (e,⟨[],a,b⟩),h=>exact⟨⟨[],a,b⟩,by rw[CH e d h],rfl⟩
theorem m0:yG (.tup [.sl [.agg [.int .i64 (5),.sl [],.int .i64 (1),.int .i64 (-1),.bool false,.int .i64 (0),.int .i64 (1)],.agg [.int .i64 (2),.sl [.agg [.int .i32 (120),.int .i32 (120)]],.int .i64 (0),.int .i64 (0),.bool false,.int .i64 (0),.int .i64 (0)]],.int .i64 (0),.int .i64 (0)]) (cz eQ 400 18 [.str [120,43]] ⟨[],0,0⟩)=true:=by kernel_rfl
theorem m1:yG (.bool true) (cz eQ 400 44 [.sl [.agg [.int .i64 (5),.sl [],.int .i64 (1),.int .i64 (-1),.bool false,.int .i64 (0),.int .i64 (1)],.agg [.int .i64 (2),.sl [.agg [.int .i32 (120),.int .i32 (120)]],.int .i64 (0),.int .i64 (0),.bool false,.int .i64 (0),.int .i64 (0)]]] ⟨[],0,0⟩)=true:=by kernel_rfl
theorem m2:yG (.sl [.agg [.int .i64 (5),.sl [],.int .i64 (1),.int .i64 (-1),.bool false,.int .i64 (0),.int .i64 (1)],.agg [.int .i64 (2),.sl [.agg [.int .i32 (120),.int .i32 (120)]],.int .i64 (0),.int .i64 (0),.bool false,.int .i64 (0),.int .i64 (0)]]) (cz eQ 400 20 [.sl [.agg [.int .i64 (5),.sl [],.int .i64 (1),.int .i64 (-1),.bool false,.int .i64 (0),.int .i64 (1)],.agg [.int .i64 (2),.sl [.agg [.int .i32 (120),.int .i32 (120)]],.int .i64 (0),.int .i64 (0),.bool false,.int .i64 (0),.int .i64 (0)]]] ⟨[],0,0⟩)=true:=by kernel_rfl
theorem m3:yG (.tup [.sl [.agg [.int .i64 (4),.sl [],.int .i64 (0),.int .i64 (0),.bool false,.int .i64 (0),.int .i64 (2)],.agg [.int .i64 (2),.sl [.agg [.int .i32 (121),.int .i32 (121)]],.int .i64 (0),.int .i64 (0),.bool false,.int .i64 (0),.int .i64 (0)],.agg [.int .i64 (2),.sl [.agg [.int .i32 (122),.int .i32 (122)]],.int .i64 (0),.int .i64 (0),.bool false,.int .i64 (0),.int .i64 (0)]],.int .i64 (0),.int .i64 (0)]) (cz eQ 400 18 [.str [121,124,122]] ⟨[],0,0⟩)=true:=by kernel_rfl
theorem m4:yG (.bool true) (cz eQ 400 44 [.sl [.agg [.int .i64 (4),.sl [],.int .i64 (0),.int .i64 (0),.bool false,.int .i64 (0),.int .i64 (2)],.agg [.int .i64 (2),.sl [.agg [.int .i32 (121),.int .i32 (121)]],.int .i64 (0),.int .i64 (0),.bool false,.int .i64 (0),.int .i64 (0)],.agg [.int .i64 (2),.sl [.agg [.int .i32 (122),.int .i32 (122)]],.int .i64 (0),.int .i64 (0),.bool false,.int .i64 (0),.int .i64 (0)]]] ⟨[],0,0⟩)=true:=by kernel_rfl
theorem m5:yG (.sl [.agg [.int .i64 (2),.sl [.agg [.int .i32 (121),.int .i32 (122)]],.int .i64 (0),.int .i64 (0),.bool false,.int .i64 (0),.int .i64 (0)]]) (cz eQ 400 20 [.sl [.agg [.int .i64 (4),.sl [],.int .i64 (0),.int .i64 (0),.bool false,.int .i64 (0),.int .i64 (2)],.agg [.int .i64 (2),.sl [.agg [.int .i32 (121),.int .i32 (121)]],.int .i64 (0),.int .i64 (0),.bool false,.int .i64 (0),.int .i64 (0)],.agg [.int .i64 (2),.sl [.agg [.int .i32 (122),.int .i32 (122)]],.int .i64 (0),.int .i64 (0),.bool false,.int .i64 (0),.int .i64 (0)]]] ⟨[],0,0⟩)=true:=by kernel_rfl
theorem m6:yG (.tup [.sl [.agg [.int .i64 (3),.sl [],.int .i64 (0),.int .i64 (0),.bool false,.int .i64 (0),.int .i64 (2)],.agg [.int .i64 (7),.sl [],.int .i64 (0),.int .i64 (0),.bool false,.int .i64 (0),.int .i64 (0)],.agg [.int .i64 (2),.sl [.agg [.int .i32 (32),.int .i32 (32)]],.int .i64 (0),.int .i64 (0),.bool false,.int .i64 (0),.int .i64 (0)]],.int .i64 (0),.int .i64 (0)]) (cz eQ 400 18 [.str [94,32]] ⟨[],0,0⟩)=true:=by kernel_rfl
theorem m7:yG (.bool true) (cz eQ 400 44 [.sl [.agg [.int .i64 (2),.sl [.agg [.int .i32 (121),.int .i32 (122)]],.int .i64 (0),.int .i64 (0),.bool false,.int .i64 (0),.int .i64 (0)]]] ⟨[],0,0⟩)=true:=by kernel_rfl
theorem m8:yG (.bool true) (cz eQ 400 44 [.sl [.agg [.int .i64 (3),.sl [],.int .i64 (0),.int .i64 (0),.bool false,.int .i64 (0),.int .i64 (2)],.agg [.int .i64 (7),.sl [],.int .i64 (0),.int .i64 (0),.bool false,.int .i64 (0),.int .i64 (0)],.agg [.int .i64 (2),.sl [.agg [.int .i32 (32),.int .i32 (32)]],.int .i64 (0),.int .i64 (0),.bool false,.int .i64 (0),.int .i64 (0)]]] ⟨[],0,0⟩)=true:=by kernel_rfl
theorem m9:yG (.sl [.agg [.int .i64 (3),.sl [],.int .i64 (0),.int .i64 (0),.bool false,.int .i64 (0),.int .i64 (2)],.agg [.int .i64 (7),.sl [],.int .i64 (0),.int .i64 (0),.bool false,.int .i64 (0),.int .i64 (0)],.agg [.int .i64 (2),.sl [.agg [.int .i32 (32),.int .i32 (32)]],.int .i64 (0),.int .i64 (0),.bool false,.int .i64 (0),.int .i64 (0)]]) (cz eQ 400 20 [.sl [.agg [.int .i64 (3),.sl [],.int .i64 (0),.int .i64 (0),.bool false,.int .i64 (0),.int .i64 (2)],.agg [.int .i64 (7),.sl [],.int .i64 (0),.int .i64 (0),.bool false,.int .i64 (0),.int .i64 (0)],.agg [.int .i64 (2),.sl [.agg [.int .i32 (32),.int .i32 (32)]],.int .i64 (0),.int .i64 (0),.bool false,.int .i64 (0),.int .i64 (0)]]] ⟨[],0,0⟩)=true:=by kernel_rfl
theorem m10:yG (.tup [.sl [.agg [.int .i64 (2),.sl [.agg [.int .i32 (120),.int .i32 (120)]],.int .i64 (0),.int .i64 (0),.bool false,.int .i64 (0),.int .i64 (0)]],.int .i64 (0),.int .i64 (0)]) (cz eQ 400 18 [.str [120]] ⟨[],0,0⟩)=true:=by kernel_rfl
theorem m11:yG (.bool true) (cz eQ 400 44 [.sl [.agg [.int .i64 (2),.sl [.agg [.int .i32 (120),.int .i32 (120)]],.int .i64 (0),.int .i64 (0),.bool false,.int .i64 (0),.int .i64 (0)]]] ⟨[],0,0⟩)=true:=by kernel_rfl
theorem m12:yG (.sl [.agg [.int .i64 (2),.sl [.agg [.int .i32 (120),.int .i32 (120)]],.int .i64 (0),.int .i64 (0),.bool false,.int .i64 (0),.int .i64 (0)]]) (cz eQ 400 20 [.sl [.agg [.int .i64 (2),.sl [.agg [.int .i32 (120),.int .i32 (120)]],.int .i64 (0),.int .i64 (0),.bool false,.int .i64 (0),.int .i64 (0)]]] ⟨[],0,0⟩)=true:=by kernel_rfl
theorem m13:yG (.tup [.sl [],.int .i64 (4),.int .i64 (0)]) (cz eQ 400 18 [.str [40]] ⟨[],0,0⟩)=true:=by kernel_rfl
theorem m14:yG (.tup [.sl [],.int .i64 (4),.int .i64 (0)]) (cz eQ 400 18 [.str [42]] ⟨[],0,0⟩)=true:=by kernel_rfl
def Au:List (List D×D):=[([.str [120,43]],.tup [.sl [.agg [.int .i64 (5),.sl [],.int .i64 (1),.int .i64 (-1),.bool false,.int .i64 (0),.int .i64 (1)],.agg [.int .i64 (2),.sl [.agg [.int .i32 (120),.int .i32 (120)]],.int .i64 (0),.int .i64 (0),.bool false,.int .i64 (0),.int .i64 (0)]],.int .i64 (0),.int .i64 (0)]),
 ([.str [121,124,122]],.tup [.sl [.agg [.int .i64 (4),.sl [],.int .i64 (0),.int .i64 (0),.bool false,.int .i64 (0),.int .i64 (2)],.agg [.int .i64 (2),.sl [.agg [.int .i32 (121),.int .i32 (121)]],.int .i64 (0),.int .i64 (0),.bool false,.int .i64 (0),.int .i64 (0)],.agg [.int .i64 (2),.sl [.agg [.int .i32 (122),.int .i32 (122)]],.int .i64 (0),.int .i64 (0),.bool false,.int .i64 (0),.int .i64 (0)]],.int .i64 (0),.int .i64 (0)]),
 ([.str [94,32]],.tup [.sl [.agg [.int .i64 (3),.sl [],.int .i64 (0),.int .i64 (0),.bool false,.int .i64 (0),.int .i64 (2)],.agg [.int .i64 (7),.sl [],.int .i64 (0),.int .i64 (0),.bool false,.int .i64 (0),.int .i64 (0)],.agg [.int .i64 (2),.sl [.agg [.int .i32 (32),.int .i32 (32)]],.int .i64 (0),.int .i64 (0),.bool false,.int .i64 (0),.int .i64 (0)]],.int .i64 (0),.int .i64 (0)]),
 ([.str [120]],.tup [.sl [.agg [.int .i64 (2),.sl [.agg [.int .i32 (120),.int .i32 (120)]],.int .i64 (0),.int .i64 (0),.bool false,.int .i64 (0),.int .i64 (0)]],.int .i64 (0),.int .i64 (0)]),
 ([.str [40]],.tup [.sl [],.int .i64 (4),.int .i64 (0)]),
 ([.str [42]],.tup [.sl [],.int .i64 (4),.int .i64 (0)])]
theorem Dx:jj Tryz.prog eQ 18 (mK Au):=by
 refine sy rC fun q hq=>?_;simp only[Au,List.mem_cons,List.not_mem_nil,or_false] at hq
 rcases hq with rfl|rfl|rfl|rfl|rfl|rfl
 ·obtain⟨st,h1,h2⟩:=cS m0;exact⟨by decide,_,st,h1,h2⟩
 ·obtain⟨st,h1,h2⟩:=cS m3;exact⟨by decide,_,st,h1,h2⟩
 ·obtain⟨st,h1,h2⟩:=cS m6;exact⟨by decide,_,st,h1,h2⟩
 ·obtain⟨st,h1,h2⟩:=cS m10;exact⟨by decide,_,st,h1,h2⟩
 ·obtain⟨st,h1,h2⟩:=cS m13;exact⟨by decide,_,st,h1,h2⟩
 ·obtain⟨st,h1,h2⟩:=cS m14;exact⟨by decide,_,st,h1,h2⟩
def Ar:List (List D×D):=[([.sl [.agg [.int .i64 (5),.sl [],.int .i64 (1),.int .i64 (-1),.bool false,.int .i64 (0),.int .i64 (1)],.agg [.int .i64 (2),.sl [.agg [.int .i32 (120),.int .i32 (120)]],.int .i64 (0),.int .i64 (0),.bool false,.int .i64 (0),.int .i64 (0)]]],.bool true),
 ([.sl [.agg [.int .i64 (4),.sl [],.int .i64 (0),.int .i64 (0),.bool false,.int .i64 (0),.int .i64 (2)],.agg [.int .i64 (2),.sl [.agg [.int .i32 (121),.int .i32 (121)]],.int .i64 (0),.int .i64 (0),.bool false,.int .i64 (0),.int .i64 (0)],.agg [.int .i64 (2),.sl [.agg [.int .i32 (122),.int .i32 (122)]],.int .i64 (0),.int .i64 (0),.bool false,.int .i64 (0),.int .i64 (0)]]],.bool true),
 ([.sl [.agg [.int .i64 (2),.sl [.agg [.int .i32 (121),.int .i32 (122)]],.int .i64 (0),.int .i64 (0),.bool false,.int .i64 (0),.int .i64 (0)]]],.bool true),
 ([.sl [.agg [.int .i64 (3),.sl [],.int .i64 (0),.int .i64 (0),.bool false,.int .i64 (0),.int .i64 (2)],.agg [.int .i64 (7),.sl [],.int .i64 (0),.int .i64 (0),.bool false,.int .i64 (0),.int .i64 (0)],.agg [.int .i64 (2),.sl [.agg [.int .i32 (32),.int .i32 (32)]],.int .i64 (0),.int .i64 (0),.bool false,.int .i64 (0),.int .i64 (0)]]],.bool true),
 ([.sl [.agg [.int .i64 (2),.sl [.agg [.int .i32 (120),.int .i32 (120)]],.int .i64 (0),.int .i64 (0),.bool false,.int .i64 (0),.int .i64 (0)]]],.bool true)]
theorem Dv:jj Tryz.prog eQ 44 (mK Ar):=by
 refine sy rC fun q hq=>?_;simp only[Ar,List.mem_cons,List.not_mem_nil,or_false] at hq
 rcases hq with rfl|rfl|rfl|rfl|rfl
 ·obtain⟨st,h1,h2⟩:=cS m1;exact⟨by decide,_,st,h1,h2⟩
 ·obtain⟨st,h1,h2⟩:=cS m4;exact⟨by decide,_,st,h1,h2⟩
 ·obtain⟨st,h1,h2⟩:=cS m7;exact⟨by decide,_,st,h1,h2⟩
 ·obtain⟨st,h1,h2⟩:=cS m8;exact⟨by decide,_,st,h1,h2⟩
 ·obtain⟨st,h1,h2⟩:=cS m11;exact⟨by decide,_,st,h1,h2⟩
def As:List (List D×D):=[([.sl [.agg [.int .i64 (5),.sl [],.int .i64 (1),.int .i64 (-1),.bool false,.int .i64 (0),.int .i64 (1)],.agg [.int .i64 (2),.sl [.agg [.int .i32 (120),.int .i32 (120)]],.int .i64 (0),.int .i64 (0),.bool false,.int .i64 (0),.int .i64 (0)]]],.sl [.agg [.int .i64 (5),.sl [],.int .i64 (1),.int .i64 (-1),.bool false,.int .i64 (0),.int .i64 (1)],.agg [.int .i64 (2),.sl [.agg [.int .i32 (120),.int .i32 (120)]],.int .i64 (0),.int .i64 (0),.bool false,.int .i64 (0),.int .i64 (0)]]),
 ([.sl [.agg [.int .i64 (4),.sl [],.int .i64 (0),.int .i64 (0),.bool false,.int .i64 (0),.int .i64 (2)],.agg [.int .i64 (2),.sl [.agg [.int .i32 (121),.int .i32 (121)]],.int .i64 (0),.int .i64 (0),.bool false,.int .i64 (0),.int .i64 (0)],.agg [.int .i64 (2),.sl [.agg [.int .i32 (122),.int .i32 (122)]],.int .i64 (0),.int .i64 (0),.bool false,.int .i64 (0),.int .i64 (0)]]],.sl [.agg [.int .i64 (2),.sl [.agg [.int .i32 (121),.int .i32 (122)]],.int .i64 (0),.int .i64 (0),.bool false,.int .i64 (0),.int .i64 (0)]]),
 ([.sl [.agg [.int .i64 (3),.sl [],.int .i64 (0),.int .i64 (0),.bool false,.int .i64 (0),.int .i64 (2)],.agg [.int .i64 (7),.sl [],.int .i64 (0),.int .i64 (0),.bool false,.int .i64 (0),.int .i64 (0)],.agg [.int .i64 (2),.sl [.agg [.int .i32 (32),.int .i32 (32)]],.int .i64 (0),.int .i64 (0),.bool false,.int .i64 (0),.int .i64 (0)]]],.sl [.agg [.int .i64 (3),.sl [],.int .i64 (0),.int .i64 (0),.bool false,.int .i64 (0),.int .i64 (2)],.agg [.int .i64 (7),.sl [],.int .i64 (0),.int .i64 (0),.bool false,.int .i64 (0),.int .i64 (0)],.agg [.int .i64 (2),.sl [.agg [.int .i32 (32),.int .i32 (32)]],.int .i64 (0),.int .i64 (0),.bool false,.int .i64 (0),.int .i64 (0)]]),
 ([.sl [.agg [.int .i64 (2),.sl [.agg [.int .i32 (120),.int .i32 (120)]],.int .i64 (0),.int .i64 (0),.bool false,.int .i64 (0),.int .i64 (0)]]],.sl [.agg [.int .i64 (2),.sl [.agg [.int .i32 (120),.int .i32 (120)]],.int .i64 (0),.int .i64 (0),.bool false,.int .i64 (0),.int .i64 (0)]])]
theorem Dw:jj Tryz.prog eQ 20 (mK As):=by
 refine sy rC fun q hq=>?_;simp only[As,List.mem_cons,List.not_mem_nil,or_false] at hq
 rcases hq with rfl|rfl|rfl|rfl
 ·obtain⟨st,h1,h2⟩:=cS m2;exact⟨by decide,_,st,h1,h2⟩
 ·obtain⟨st,h1,h2⟩:=cS m5;exact⟨by decide,_,st,h1,h2⟩
 ·obtain⟨st,h1,h2⟩:=cS m9;exact⟨by decide,_,st,h1,h2⟩
 ·obtain⟨st,h1,h2⟩:=cS m12;exact⟨by decide,_,st,h1,h2⟩
noncomputable def Mc:Pv:=eQ.over [(18,mK Au),(44,mK Ar),(20,mK As)]
theorem Mz:Mc.Ok Tryz.prog∧Mc.gC∧gx Tryz.prog Mc (dJ Mc):=by
 refine ud rC rfl fun q hq=>?_;simp only[List.mem_cons,List.not_mem_nil,or_false] at hq
 rcases hq with rfl|rfl|rfl
 ·exact Dx
 ·exact Dv
 ·exact Dw
end Go.Proofs.YthahmilhpmfkfaaGreat.rulesRuns
