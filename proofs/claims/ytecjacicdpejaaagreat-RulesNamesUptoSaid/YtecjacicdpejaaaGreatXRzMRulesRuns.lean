/-
 What RulesRuns asks of some functions is reckoned, one call a theorem. By program.
-/
import Derived.Test.YtecjacicdpejaaaGreatXView
import Derived.Test.YtecjacicdpejaaaGreatXM2
import Derived.KernelRfl
set_option maxRecDepth 1000000
namespace Go.Proofs.YtecjacicdpejaaaGreat.rulesRuns
open Go.V Go
def wI (d:D):Option (D×St)→Bool
 |some (e,⟨[],_,_⟩)=>eK e d
 |_=>false
theorem cI {d:D} {r:Option (D×St)} (h:wI d r=true):∃st,r=some (d,st)∧st.bs=[]:=by
 match r,h with
 |some (e,⟨[],a,b⟩),h=>exact⟨⟨[],a,b⟩,by rw[po e d h],rfl⟩
theorem m0:wI (.tup [.sl [.agg [.int .i64 (5),.sl [],.int .i64 (1),.int .i64 (-1),.bool false,.int .i64 (0),.int .i64 (1)],.agg [.int .i64 (2),.sl [.agg [.int .i32 (120),.int .i32 (120)]],.int .i64 (0),.int .i64 (0),.bool false,.int .i64 (0),.int .i64 (0)]],.int .i64 (0),.int .i64 (0)]) (cg dY 400 68 [.str [120,43]] ⟨[],0,0⟩)=true:=by kernel_rfl
theorem m1:wI (.bool true) (cg dY 400 135 [.sl [.agg [.int .i64 (5),.sl [],.int .i64 (1),.int .i64 (-1),.bool false,.int .i64 (0),.int .i64 (1)],.agg [.int .i64 (2),.sl [.agg [.int .i32 (120),.int .i32 (120)]],.int .i64 (0),.int .i64 (0),.bool false,.int .i64 (0),.int .i64 (0)]]] ⟨[],0,0⟩)=true:=by kernel_rfl
theorem m2:wI (.sl [.agg [.int .i64 (5),.sl [],.int .i64 (1),.int .i64 (-1),.bool false,.int .i64 (0),.int .i64 (1)],.agg [.int .i64 (2),.sl [.agg [.int .i32 (120),.int .i32 (120)]],.int .i64 (0),.int .i64 (0),.bool false,.int .i64 (0),.int .i64 (0)]]) (cg dY 400 115 [.sl [.agg [.int .i64 (5),.sl [],.int .i64 (1),.int .i64 (-1),.bool false,.int .i64 (0),.int .i64 (1)],.agg [.int .i64 (2),.sl [.agg [.int .i32 (120),.int .i32 (120)]],.int .i64 (0),.int .i64 (0),.bool false,.int .i64 (0),.int .i64 (0)]]] ⟨[],0,0⟩)=true:=by kernel_rfl
theorem m3:wI (.tup [.sl [.agg [.int .i64 (4),.sl [],.int .i64 (0),.int .i64 (0),.bool false,.int .i64 (0),.int .i64 (2)],.agg [.int .i64 (2),.sl [.agg [.int .i32 (121),.int .i32 (121)]],.int .i64 (0),.int .i64 (0),.bool false,.int .i64 (0),.int .i64 (0)],.agg [.int .i64 (2),.sl [.agg [.int .i32 (122),.int .i32 (122)]],.int .i64 (0),.int .i64 (0),.bool false,.int .i64 (0),.int .i64 (0)]],.int .i64 (0),.int .i64 (0)]) (cg dY 400 68 [.str [121,124,122]] ⟨[],0,0⟩)=true:=by kernel_rfl
theorem m4:wI (.bool true) (cg dY 400 135 [.sl [.agg [.int .i64 (4),.sl [],.int .i64 (0),.int .i64 (0),.bool false,.int .i64 (0),.int .i64 (2)],.agg [.int .i64 (2),.sl [.agg [.int .i32 (121),.int .i32 (121)]],.int .i64 (0),.int .i64 (0),.bool false,.int .i64 (0),.int .i64 (0)],.agg [.int .i64 (2),.sl [.agg [.int .i32 (122),.int .i32 (122)]],.int .i64 (0),.int .i64 (0),.bool false,.int .i64 (0),.int .i64 (0)]]] ⟨[],0,0⟩)=true:=by kernel_rfl
theorem m5:wI (.sl [.agg [.int .i64 (2),.sl [.agg [.int .i32 (121),.int .i32 (122)]],.int .i64 (0),.int .i64 (0),.bool false,.int .i64 (0),.int .i64 (0)]]) (cg dY 400 115 [.sl [.agg [.int .i64 (4),.sl [],.int .i64 (0),.int .i64 (0),.bool false,.int .i64 (0),.int .i64 (2)],.agg [.int .i64 (2),.sl [.agg [.int .i32 (121),.int .i32 (121)]],.int .i64 (0),.int .i64 (0),.bool false,.int .i64 (0),.int .i64 (0)],.agg [.int .i64 (2),.sl [.agg [.int .i32 (122),.int .i32 (122)]],.int .i64 (0),.int .i64 (0),.bool false,.int .i64 (0),.int .i64 (0)]]] ⟨[],0,0⟩)=true:=by kernel_rfl
theorem m6:wI (.tup [.sl [.agg [.int .i64 (3),.sl [],.int .i64 (0),.int .i64 (0),.bool false,.int .i64 (0),.int .i64 (2)],.agg [.int .i64 (7),.sl [],.int .i64 (0),.int .i64 (0),.bool false,.int .i64 (0),.int .i64 (0)],.agg [.int .i64 (2),.sl [.agg [.int .i32 (32),.int .i32 (32)]],.int .i64 (0),.int .i64 (0),.bool false,.int .i64 (0),.int .i64 (0)]],.int .i64 (0),.int .i64 (0)]) (cg dY 400 68 [.str [94,32]] ⟨[],0,0⟩)=true:=by kernel_rfl
theorem m7:wI (.bool true) (cg dY 400 135 [.sl [.agg [.int .i64 (2),.sl [.agg [.int .i32 (121),.int .i32 (122)]],.int .i64 (0),.int .i64 (0),.bool false,.int .i64 (0),.int .i64 (0)]]] ⟨[],0,0⟩)=true:=by kernel_rfl
theorem m8:wI (.bool true) (cg dY 400 135 [.sl [.agg [.int .i64 (3),.sl [],.int .i64 (0),.int .i64 (0),.bool false,.int .i64 (0),.int .i64 (2)],.agg [.int .i64 (7),.sl [],.int .i64 (0),.int .i64 (0),.bool false,.int .i64 (0),.int .i64 (0)],.agg [.int .i64 (2),.sl [.agg [.int .i32 (32),.int .i32 (32)]],.int .i64 (0),.int .i64 (0),.bool false,.int .i64 (0),.int .i64 (0)]]] ⟨[],0,0⟩)=true:=by kernel_rfl
theorem m9:wI (.sl [.agg [.int .i64 (3),.sl [],.int .i64 (0),.int .i64 (0),.bool false,.int .i64 (0),.int .i64 (2)],.agg [.int .i64 (7),.sl [],.int .i64 (0),.int .i64 (0),.bool false,.int .i64 (0),.int .i64 (0)],.agg [.int .i64 (2),.sl [.agg [.int .i32 (32),.int .i32 (32)]],.int .i64 (0),.int .i64 (0),.bool false,.int .i64 (0),.int .i64 (0)]]) (cg dY 400 115 [.sl [.agg [.int .i64 (3),.sl [],.int .i64 (0),.int .i64 (0),.bool false,.int .i64 (0),.int .i64 (2)],.agg [.int .i64 (7),.sl [],.int .i64 (0),.int .i64 (0),.bool false,.int .i64 (0),.int .i64 (0)],.agg [.int .i64 (2),.sl [.agg [.int .i32 (32),.int .i32 (32)]],.int .i64 (0),.int .i64 (0),.bool false,.int .i64 (0),.int .i64 (0)]]] ⟨[],0,0⟩)=true:=by kernel_rfl
theorem m10:wI (.tup [.sl [.agg [.int .i64 (2),.sl [.agg [.int .i32 (120),.int .i32 (120)]],.int .i64 (0),.int .i64 (0),.bool false,.int .i64 (0),.int .i64 (0)]],.int .i64 (0),.int .i64 (0)]) (cg dY 400 68 [.str [120]] ⟨[],0,0⟩)=true:=by kernel_rfl
theorem m11:wI (.bool true) (cg dY 400 135 [.sl [.agg [.int .i64 (2),.sl [.agg [.int .i32 (120),.int .i32 (120)]],.int .i64 (0),.int .i64 (0),.bool false,.int .i64 (0),.int .i64 (0)]]] ⟨[],0,0⟩)=true:=by kernel_rfl
theorem m12:wI (.sl [.agg [.int .i64 (2),.sl [.agg [.int .i32 (120),.int .i32 (120)]],.int .i64 (0),.int .i64 (0),.bool false,.int .i64 (0),.int .i64 (0)]]) (cg dY 400 115 [.sl [.agg [.int .i64 (2),.sl [.agg [.int .i32 (120),.int .i32 (120)]],.int .i64 (0),.int .i64 (0),.bool false,.int .i64 (0),.int .i64 (0)]]] ⟨[],0,0⟩)=true:=by kernel_rfl
theorem m13:wI (.tup [.sl [],.int .i64 (4),.int .i64 (0)]) (cg dY 400 68 [.str [40]] ⟨[],0,0⟩)=true:=by kernel_rfl
theorem m14:wI (.tup [.sl [],.int .i64 (4),.int .i64 (0)]) (cg dY 400 68 [.str [42]] ⟨[],0,0⟩)=true:=by kernel_rfl
def yv:List (List D×D):=[([.str [120,43]],.tup [.sl [.agg [.int .i64 (5),.sl [],.int .i64 (1),.int .i64 (-1),.bool false,.int .i64 (0),.int .i64 (1)],.agg [.int .i64 (2),.sl [.agg [.int .i32 (120),.int .i32 (120)]],.int .i64 (0),.int .i64 (0),.bool false,.int .i64 (0),.int .i64 (0)]],.int .i64 (0),.int .i64 (0)]),
 ([.str [121,124,122]],.tup [.sl [.agg [.int .i64 (4),.sl [],.int .i64 (0),.int .i64 (0),.bool false,.int .i64 (0),.int .i64 (2)],.agg [.int .i64 (2),.sl [.agg [.int .i32 (121),.int .i32 (121)]],.int .i64 (0),.int .i64 (0),.bool false,.int .i64 (0),.int .i64 (0)],.agg [.int .i64 (2),.sl [.agg [.int .i32 (122),.int .i32 (122)]],.int .i64 (0),.int .i64 (0),.bool false,.int .i64 (0),.int .i64 (0)]],.int .i64 (0),.int .i64 (0)]),
 ([.str [94,32]],.tup [.sl [.agg [.int .i64 (3),.sl [],.int .i64 (0),.int .i64 (0),.bool false,.int .i64 (0),.int .i64 (2)],.agg [.int .i64 (7),.sl [],.int .i64 (0),.int .i64 (0),.bool false,.int .i64 (0),.int .i64 (0)],.agg [.int .i64 (2),.sl [.agg [.int .i32 (32),.int .i32 (32)]],.int .i64 (0),.int .i64 (0),.bool false,.int .i64 (0),.int .i64 (0)]],.int .i64 (0),.int .i64 (0)]),
 ([.str [120]],.tup [.sl [.agg [.int .i64 (2),.sl [.agg [.int .i32 (120),.int .i32 (120)]],.int .i64 (0),.int .i64 (0),.bool false,.int .i64 (0),.int .i64 (0)]],.int .i64 (0),.int .i64 (0)]),
 ([.str [40]],.tup [.sl [],.int .i64 (4),.int .i64 (0)]),
 ([.str [42]],.tup [.sl [],.int .i64 (4),.int .i64 (0)])]
theorem Bi:fQ Tryz.prog dY 68 (lx yv):=by
 refine qx mc fun q hq=>?_;simp only[yv,List.mem_cons,List.not_mem_nil,or_false] at hq
 rcases hq with rfl|rfl|rfl|rfl|rfl|rfl
 ·obtain⟨st,h1,h2⟩:=cI m0;exact⟨by decide,_,st,h1,h2⟩
 ·obtain⟨st,h1,h2⟩:=cI m3;exact⟨by decide,_,st,h1,h2⟩
 ·obtain⟨st,h1,h2⟩:=cI m6;exact⟨by decide,_,st,h1,h2⟩
 ·obtain⟨st,h1,h2⟩:=cI m10;exact⟨by decide,_,st,h1,h2⟩
 ·obtain⟨st,h1,h2⟩:=cI m13;exact⟨by decide,_,st,h1,h2⟩
 ·obtain⟨st,h1,h2⟩:=cI m14;exact⟨by decide,_,st,h1,h2⟩
def ux:List (List D×D):=[([.sl [.agg [.int .i64 (5),.sl [],.int .i64 (1),.int .i64 (-1),.bool false,.int .i64 (0),.int .i64 (1)],.agg [.int .i64 (2),.sl [.agg [.int .i32 (120),.int .i32 (120)]],.int .i64 (0),.int .i64 (0),.bool false,.int .i64 (0),.int .i64 (0)]]],.bool true),
 ([.sl [.agg [.int .i64 (4),.sl [],.int .i64 (0),.int .i64 (0),.bool false,.int .i64 (0),.int .i64 (2)],.agg [.int .i64 (2),.sl [.agg [.int .i32 (121),.int .i32 (121)]],.int .i64 (0),.int .i64 (0),.bool false,.int .i64 (0),.int .i64 (0)],.agg [.int .i64 (2),.sl [.agg [.int .i32 (122),.int .i32 (122)]],.int .i64 (0),.int .i64 (0),.bool false,.int .i64 (0),.int .i64 (0)]]],.bool true),
 ([.sl [.agg [.int .i64 (2),.sl [.agg [.int .i32 (121),.int .i32 (122)]],.int .i64 (0),.int .i64 (0),.bool false,.int .i64 (0),.int .i64 (0)]]],.bool true),
 ([.sl [.agg [.int .i64 (3),.sl [],.int .i64 (0),.int .i64 (0),.bool false,.int .i64 (0),.int .i64 (2)],.agg [.int .i64 (7),.sl [],.int .i64 (0),.int .i64 (0),.bool false,.int .i64 (0),.int .i64 (0)],.agg [.int .i64 (2),.sl [.agg [.int .i32 (32),.int .i32 (32)]],.int .i64 (0),.int .i64 (0),.bool false,.int .i64 (0),.int .i64 (0)]]],.bool true),
 ([.sl [.agg [.int .i64 (2),.sl [.agg [.int .i32 (120),.int .i32 (120)]],.int .i64 (0),.int .i64 (0),.bool false,.int .i64 (0),.int .i64 (0)]]],.bool true)]
theorem yw:fQ Tryz.prog dY 135 (lx ux):=by
 refine qx mc fun q hq=>?_;simp only[ux,List.mem_cons,List.not_mem_nil,or_false] at hq
 rcases hq with rfl|rfl|rfl|rfl|rfl
 ·obtain⟨st,h1,h2⟩:=cI m1;exact⟨by decide,_,st,h1,h2⟩
 ·obtain⟨st,h1,h2⟩:=cI m4;exact⟨by decide,_,st,h1,h2⟩
 ·obtain⟨st,h1,h2⟩:=cI m7;exact⟨by decide,_,st,h1,h2⟩
 ·obtain⟨st,h1,h2⟩:=cI m8;exact⟨by decide,_,st,h1,h2⟩
 ·obtain⟨st,h1,h2⟩:=cI m11;exact⟨by decide,_,st,h1,h2⟩
def uy:List (List D×D):=[([.sl [.agg [.int .i64 (5),.sl [],.int .i64 (1),.int .i64 (-1),.bool false,.int .i64 (0),.int .i64 (1)],.agg [.int .i64 (2),.sl [.agg [.int .i32 (120),.int .i32 (120)]],.int .i64 (0),.int .i64 (0),.bool false,.int .i64 (0),.int .i64 (0)]]],.sl [.agg [.int .i64 (5),.sl [],.int .i64 (1),.int .i64 (-1),.bool false,.int .i64 (0),.int .i64 (1)],.agg [.int .i64 (2),.sl [.agg [.int .i32 (120),.int .i32 (120)]],.int .i64 (0),.int .i64 (0),.bool false,.int .i64 (0),.int .i64 (0)]]),
 ([.sl [.agg [.int .i64 (4),.sl [],.int .i64 (0),.int .i64 (0),.bool false,.int .i64 (0),.int .i64 (2)],.agg [.int .i64 (2),.sl [.agg [.int .i32 (121),.int .i32 (121)]],.int .i64 (0),.int .i64 (0),.bool false,.int .i64 (0),.int .i64 (0)],.agg [.int .i64 (2),.sl [.agg [.int .i32 (122),.int .i32 (122)]],.int .i64 (0),.int .i64 (0),.bool false,.int .i64 (0),.int .i64 (0)]]],.sl [.agg [.int .i64 (2),.sl [.agg [.int .i32 (121),.int .i32 (122)]],.int .i64 (0),.int .i64 (0),.bool false,.int .i64 (0),.int .i64 (0)]]),
 ([.sl [.agg [.int .i64 (3),.sl [],.int .i64 (0),.int .i64 (0),.bool false,.int .i64 (0),.int .i64 (2)],.agg [.int .i64 (7),.sl [],.int .i64 (0),.int .i64 (0),.bool false,.int .i64 (0),.int .i64 (0)],.agg [.int .i64 (2),.sl [.agg [.int .i32 (32),.int .i32 (32)]],.int .i64 (0),.int .i64 (0),.bool false,.int .i64 (0),.int .i64 (0)]]],.sl [.agg [.int .i64 (3),.sl [],.int .i64 (0),.int .i64 (0),.bool false,.int .i64 (0),.int .i64 (2)],.agg [.int .i64 (7),.sl [],.int .i64 (0),.int .i64 (0),.bool false,.int .i64 (0),.int .i64 (0)],.agg [.int .i64 (2),.sl [.agg [.int .i32 (32),.int .i32 (32)]],.int .i64 (0),.int .i64 (0),.bool false,.int .i64 (0),.int .i64 (0)]]),
 ([.sl [.agg [.int .i64 (2),.sl [.agg [.int .i32 (120),.int .i32 (120)]],.int .i64 (0),.int .i64 (0),.bool false,.int .i64 (0),.int .i64 (0)]]],.sl [.agg [.int .i64 (2),.sl [.agg [.int .i32 (120),.int .i32 (120)]],.int .i64 (0),.int .i64 (0),.bool false,.int .i64 (0),.int .i64 (0)]])]
theorem yx:fQ Tryz.prog dY 115 (lx uy):=by
 refine qx mc fun q hq=>?_;simp only[uy,List.mem_cons,List.not_mem_nil,or_false] at hq
 rcases hq with rfl|rfl|rfl|rfl
 ·obtain⟨st,h1,h2⟩:=cI m2;exact⟨by decide,_,st,h1,h2⟩
 ·obtain⟨st,h1,h2⟩:=cI m5;exact⟨by decide,_,st,h1,h2⟩
 ·obtain⟨st,h1,h2⟩:=cI m9;exact⟨by decide,_,st,h1,h2⟩
 ·obtain⟨st,h1,h2⟩:=cI m12;exact⟨by decide,_,st,h1,h2⟩
noncomputable def Jf:Pv:=dY.over [(68,lx yv),(135,lx ux),(115,lx uy)]
theorem JK:Jf.Ok Tryz.prog∧Jf.fL∧fR Tryz.prog Jf (du Jf):=by
 refine sv mc rfl fun q hq=>?_;simp only[List.mem_cons,List.not_mem_nil,or_false] at hq
 rcases hq with rfl|rfl|rfl
 ·exact Bi
 ·exact yw
 ·exact yx
end Go.Proofs.YtecjacicdpejaaaGreat.rulesRuns
