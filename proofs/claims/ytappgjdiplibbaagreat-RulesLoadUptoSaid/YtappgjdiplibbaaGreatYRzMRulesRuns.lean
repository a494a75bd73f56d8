/-
 What RulesRuns asks of some functions is reckoned, one call a theorem. By program.
-/
import Derived.Test.YtappgjdiplibbaaGreatYView
import Derived.Test.YtappgjdiplibbaaGreatYM2
import Derived.KernelRfl
set_option maxRecDepth 1000000
namespace Go.Proofs.YtappgjdiplibbaaGreat.rulesRuns
open Go.V Go
def C' (d:D):Option (D×St)->Bool
 |some (e,⟨[],_,_⟩)=>gE e d
 |_=>false
theorem dn {d:D} {r:Option (D×St)} (h:C' d r=true):∃U,r=some (d,U)/\U.bs=[]:=by
 match r,h with
 |some (e,⟨[],a,b⟩),h=>exact⟨⟨[],a,b⟩,by rw[HN e d h],rfl⟩
theorem m0:C' (.tup [.sl [.agg [.int .i64 (5),.sl [],.int .i64 (1),.int .i64 (-1),.bool false,.int .i64 (0),.int .i64 (1)],.agg [.int .i64 (2),.sl [.agg [.int .i32 (120),.int .i32 (120)]],.int .i64 (0),.int .i64 (0),.bool false,.int .i64 (0),.int .i64 (0)]],.int .i64 (0),.int .i64 (0)]) (cA dE 400 18 [.str [120,43]] ⟨[],0,0⟩)=true:=by kernel_rfl
theorem m1:C' (.bool true) (cA dE 400 44 [.sl [.agg [.int .i64 (5),.sl [],.int .i64 (1),.int .i64 (-1),.bool false,.int .i64 (0),.int .i64 (1)],.agg [.int .i64 (2),.sl [.agg [.int .i32 (120),.int .i32 (120)]],.int .i64 (0),.int .i64 (0),.bool false,.int .i64 (0),.int .i64 (0)]]] ⟨[],0,0⟩)=true:=by kernel_rfl
theorem m2:C' (.sl [.agg [.int .i64 (5),.sl [],.int .i64 (1),.int .i64 (-1),.bool false,.int .i64 (0),.int .i64 (1)],.agg [.int .i64 (2),.sl [.agg [.int .i32 (120),.int .i32 (120)]],.int .i64 (0),.int .i64 (0),.bool false,.int .i64 (0),.int .i64 (0)]]) (cA dE 400 20 [.sl [.agg [.int .i64 (5),.sl [],.int .i64 (1),.int .i64 (-1),.bool false,.int .i64 (0),.int .i64 (1)],.agg [.int .i64 (2),.sl [.agg [.int .i32 (120),.int .i32 (120)]],.int .i64 (0),.int .i64 (0),.bool false,.int .i64 (0),.int .i64 (0)]]] ⟨[],0,0⟩)=true:=by kernel_rfl
theorem m3:C' (.tup [.sl [.agg [.int .i64 (4),.sl [],.int .i64 (0),.int .i64 (0),.bool false,.int .i64 (0),.int .i64 (2)],.agg [.int .i64 (2),.sl [.agg [.int .i32 (121),.int .i32 (121)]],.int .i64 (0),.int .i64 (0),.bool false,.int .i64 (0),.int .i64 (0)],.agg [.int .i64 (2),.sl [.agg [.int .i32 (122),.int .i32 (122)]],.int .i64 (0),.int .i64 (0),.bool false,.int .i64 (0),.int .i64 (0)]],.int .i64 (0),.int .i64 (0)]) (cA dE 400 18 [.str [121,124,122]] ⟨[],0,0⟩)=true:=by kernel_rfl
theorem m4:C' (.bool true) (cA dE 400 44 [.sl [.agg [.int .i64 (4),.sl [],.int .i64 (0),.int .i64 (0),.bool false,.int .i64 (0),.int .i64 (2)],.agg [.int .i64 (2),.sl [.agg [.int .i32 (121),.int .i32 (121)]],.int .i64 (0),.int .i64 (0),.bool false,.int .i64 (0),.int .i64 (0)],.agg [.int .i64 (2),.sl [.agg [.int .i32 (122),.int .i32 (122)]],.int .i64 (0),.int .i64 (0),.bool false,.int .i64 (0),.int .i64 (0)]]] ⟨[],0,0⟩)=true:=by kernel_rfl
theorem m5:C' (.sl [.agg [.int .i64 (2),.sl [.agg [.int .i32 (121),.int .i32 (122)]],.int .i64 (0),.int .i64 (0),.bool false,.int .i64 (0),.int .i64 (0)]]) (cA dE 400 20 [.sl [.agg [.int .i64 (4),.sl [],.int .i64 (0),.int .i64 (0),.bool false,.int .i64 (0),.int .i64 (2)],.agg [.int .i64 (2),.sl [.agg [.int .i32 (121),.int .i32 (121)]],.int .i64 (0),.int .i64 (0),.bool false,.int .i64 (0),.int .i64 (0)],.agg [.int .i64 (2),.sl [.agg [.int .i32 (122),.int .i32 (122)]],.int .i64 (0),.int .i64 (0),.bool false,.int .i64 (0),.int .i64 (0)]]] ⟨[],0,0⟩)=true:=by kernel_rfl
theorem m6:C' (.tup [.sl [.agg [.int .i64 (3),.sl [],.int .i64 (0),.int .i64 (0),.bool false,.int .i64 (0),.int .i64 (2)],.agg [.int .i64 (7),.sl [],.int .i64 (0),.int .i64 (0),.bool false,.int .i64 (0),.int .i64 (0)],.agg [.int .i64 (2),.sl [.agg [.int .i32 (32),.int .i32 (32)]],.int .i64 (0),.int .i64 (0),.bool false,.int .i64 (0),.int .i64 (0)]],.int .i64 (0),.int .i64 (0)]) (cA dE 400 18 [.str [94,32]] ⟨[],0,0⟩)=true:=by kernel_rfl
theorem m7:C' (.bool true) (cA dE 400 44 [.sl [.agg [.int .i64 (2),.sl [.agg [.int .i32 (121),.int .i32 (122)]],.int .i64 (0),.int .i64 (0),.bool false,.int .i64 (0),.int .i64 (0)]]] ⟨[],0,0⟩)=true:=by kernel_rfl
theorem m8:C' (.bool true) (cA dE 400 44 [.sl [.agg [.int .i64 (3),.sl [],.int .i64 (0),.int .i64 (0),.bool false,.int .i64 (0),.int .i64 (2)],.agg [.int .i64 (7),.sl [],.int .i64 (0),.int .i64 (0),.bool false,.int .i64 (0),.int .i64 (0)],.agg [.int .i64 (2),.sl [.agg [.int .i32 (32),.int .i32 (32)]],.int .i64 (0),.int .i64 (0),.bool false,.int .i64 (0),.int .i64 (0)]]] ⟨[],0,0⟩)=true:=by kernel_rfl
theorem m9:C' (.sl [.agg [.int .i64 (3),.sl [],.int .i64 (0),.int .i64 (0),.bool false,.int .i64 (0),.int .i64 (2)],.agg [.int .i64 (7),.sl [],.int .i64 (0),.int .i64 (0),.bool false,.int .i64 (0),.int .i64 (0)],.agg [.int .i64 (2),.sl [.agg [.int .i32 (32),.int .i32 (32)]],.int .i64 (0),.int .i64 (0),.bool false,.int .i64 (0),.int .i64 (0)]]) (cA dE 400 20 [.sl [.agg [.int .i64 (3),.sl [],.int .i64 (0),.int .i64 (0),.bool false,.int .i64 (0),.int .i64 (2)],.agg [.int .i64 (7),.sl [],.int .i64 (0),.int .i64 (0),.bool false,.int .i64 (0),.int .i64 (0)],.agg [.int .i64 (2),.sl [.agg [.int .i32 (32),.int .i32 (32)]],.int .i64 (0),.int .i64 (0),.bool false,.int .i64 (0),.int .i64 (0)]]] ⟨[],0,0⟩)=true:=by kernel_rfl
theorem m10:C' (.tup [.sl [.agg [.int .i64 (2),.sl [.agg [.int .i32 (120),.int .i32 (120)]],.int .i64 (0),.int .i64 (0),.bool false,.int .i64 (0),.int .i64 (0)]],.int .i64 (0),.int .i64 (0)]) (cA dE 400 18 [.str [120]] ⟨[],0,0⟩)=true:=by kernel_rfl
theorem m11:C' (.bool true) (cA dE 400 44 [.sl [.agg [.int .i64 (2),.sl [.agg [.int .i32 (120),.int .i32 (120)]],.int .i64 (0),.int .i64 (0),.bool false,.int .i64 (0),.int .i64 (0)]]] ⟨[],0,0⟩)=true:=by kernel_rfl
theorem m12:C' (.sl [.agg [.int .i64 (2),.sl [.agg [.int .i32 (120),.int .i32 (120)]],.int .i64 (0),.int .i64 (0),.bool false,.int .i64 (0),.int .i64 (0)]]) (cA dE 400 20 [.sl [.agg [.int .i64 (2),.sl [.agg [.int .i32 (120),.int .i32 (120)]],.int .i64 (0),.int .i64 (0),.bool false,.int .i64 (0),.int .i64 (0)]]] ⟨[],0,0⟩)=true:=by kernel_rfl
theorem m13:C' (.tup [.sl [],.int .i64 (4),.int .i64 (0)]) (cA dE 400 18 [.str [40]] ⟨[],0,0⟩)=true:=by kernel_rfl
theorem m14:C' (.tup [.sl [],.int .i64 (4),.int .i64 (0)]) (cA dE 400 18 [.str [42]] ⟨[],0,0⟩)=true:=by kernel_rfl
def Fh:List (List D×D):=[([.str [120,43]],.tup [.sl [.agg [.int .i64 (5),.sl [],.int .i64 (1),.int .i64 (-1),.bool false,.int .i64 (0),.int .i64 (1)],.agg [.int .i64 (2),.sl [.agg [.int .i32 (120),.int .i32 (120)]],.int .i64 (0),.int .i64 (0),.bool false,.int .i64 (0),.int .i64 (0)]],.int .i64 (0),.int .i64 (0)]),
 ([.str [121,124,122]],.tup [.sl [.agg [.int .i64 (4),.sl [],.int .i64 (0),.int .i64 (0),.bool false,.int .i64 (0),.int .i64 (2)],.agg [.int .i64 (2),.sl [.agg [.int .i32 (121),.int .i32 (121)]],.int .i64 (0),.int .i64 (0),.bool false,.int .i64 (0),.int .i64 (0)],.agg [.int .i64 (2),.sl [.agg [.int .i32 (122),.int .i32 (122)]],.int .i64 (0),.int .i64 (0),.bool false,.int .i64 (0),.int .i64 (0)]],.int .i64 (0),.int .i64 (0)]),
 ([.str [94,32]],.tup [.sl [.agg [.int .i64 (3),.sl [],.int .i64 (0),.int .i64 (0),.bool false,.int .i64 (0),.int .i64 (2)],.agg [.int .i64 (7),.sl [],.int .i64 (0),.int .i64 (0),.bool false,.int .i64 (0),.int .i64 (0)],.agg [.int .i64 (2),.sl [.agg [.int .i32 (32),.int .i32 (32)]],.int .i64 (0),.int .i64 (0),.bool false,.int .i64 (0),.int .i64 (0)]],.int .i64 (0),.int .i64 (0)]),
 ([.str [120]],.tup [.sl [.agg [.int .i64 (2),.sl [.agg [.int .i32 (120),.int .i32 (120)]],.int .i64 (0),.int .i64 (0),.bool false,.int .i64 (0),.int .i64 (0)]],.int .i64 (0),.int .i64 (0)]),
 ([.str [40]],.tup [.sl [],.int .i64 (4),.int .i64 (0)]),
 ([.str [42]],.tup [.sl [],.int .i64 (4),.int .i64 (0)])]
theorem IF:dx Tryz.prog dE 18 (pa Fh):=by
 refine vW jS λq hq=>?_;simp only[Fh,List.mem_cons,List.not_mem_nil,or_false] at hq
 rcases hq with rfl|rfl|rfl|rfl|rfl|rfl
 .obtain⟨U,h1,X⟩:=dn m0;exact⟨by decide,_,U,h1,X⟩
 .obtain⟨U,h1,X⟩:=dn m3;exact⟨by decide,_,U,h1,X⟩
 .obtain⟨U,h1,X⟩:=dn m6;exact⟨by decide,_,U,h1,X⟩
 .obtain⟨U,h1,X⟩:=dn m10;exact⟨by decide,_,U,h1,X⟩
 .obtain⟨U,h1,X⟩:=dn m13;exact⟨by decide,_,U,h1,X⟩
 .obtain⟨U,h1,X⟩:=dn m14;exact⟨by decide,_,U,h1,X⟩
def Ff:List (List D×D):=[([.sl [.agg [.int .i64 (5),.sl [],.int .i64 (1),.int .i64 (-1),.bool false,.int .i64 (0),.int .i64 (1)],.agg [.int .i64 (2),.sl [.agg [.int .i32 (120),.int .i32 (120)]],.int .i64 (0),.int .i64 (0),.bool false,.int .i64 (0),.int .i64 (0)]]],.bool true),
 ([.sl [.agg [.int .i64 (4),.sl [],.int .i64 (0),.int .i64 (0),.bool false,.int .i64 (0),.int .i64 (2)],.agg [.int .i64 (2),.sl [.agg [.int .i32 (121),.int .i32 (121)]],.int .i64 (0),.int .i64 (0),.bool false,.int .i64 (0),.int .i64 (0)],.agg [.int .i64 (2),.sl [.agg [.int .i32 (122),.int .i32 (122)]],.int .i64 (0),.int .i64 (0),.bool false,.int .i64 (0),.int .i64 (0)]]],.bool true),
 ([.sl [.agg [.int .i64 (2),.sl [.agg [.int .i32 (121),.int .i32 (122)]],.int .i64 (0),.int .i64 (0),.bool false,.int .i64 (0),.int .i64 (0)]]],.bool true),
 ([.sl [.agg [.int .i64 (3),.sl [],.int .i64 (0),.int .i64 (0),.bool false,.int .i64 (0),.int .i64 (2)],.agg [.int .i64 (7),.sl [],.int .i64 (0),.int .i64 (0),.bool false,.int .i64 (0),.int .i64 (0)],.agg [.int .i64 (2),.sl [.agg [.int .i32 (32),.int .i32 (32)]],.int .i64 (0),.int .i64 (0),.bool false,.int .i64 (0),.int .i64 (0)]]],.bool true),
 ([.sl [.agg [.int .i64 (2),.sl [.agg [.int .i32 (120),.int .i32 (120)]],.int .i64 (0),.int .i64 (0),.bool false,.int .i64 (0),.int .i64 (0)]]],.bool true)]
theorem ID:dx Tryz.prog dE 44 (pa Ff):=by
 refine vW jS λq hq=>?_;simp only[Ff,List.mem_cons,List.not_mem_nil,or_false] at hq
 rcases hq with rfl|rfl|rfl|rfl|rfl
 .obtain⟨U,h1,X⟩:=dn m1;exact⟨by decide,_,U,h1,X⟩
 .obtain⟨U,h1,X⟩:=dn m4;exact⟨by decide,_,U,h1,X⟩
 .obtain⟨U,h1,X⟩:=dn m7;exact⟨by decide,_,U,h1,X⟩
 .obtain⟨U,h1,X⟩:=dn m8;exact⟨by decide,_,U,h1,X⟩
 .obtain⟨U,h1,X⟩:=dn m11;exact⟨by decide,_,U,h1,X⟩
def Fg:List (List D×D):=[([.sl [.agg [.int .i64 (5),.sl [],.int .i64 (1),.int .i64 (-1),.bool false,.int .i64 (0),.int .i64 (1)],.agg [.int .i64 (2),.sl [.agg [.int .i32 (120),.int .i32 (120)]],.int .i64 (0),.int .i64 (0),.bool false,.int .i64 (0),.int .i64 (0)]]],.sl [.agg [.int .i64 (5),.sl [],.int .i64 (1),.int .i64 (-1),.bool false,.int .i64 (0),.int .i64 (1)],.agg [.int .i64 (2),.sl [.agg [.int .i32 (120),.int .i32 (120)]],.int .i64 (0),.int .i64 (0),.bool false,.int .i64 (0),.int .i64 (0)]]),
 ([.sl [.agg [.int .i64 (4),.sl [],.int .i64 (0),.int .i64 (0),.bool false,.int .i64 (0),.int .i64 (2)],.agg [.int .i64 (2),.sl [.agg [.int .i32 (121),.int .i32 (121)]],.int .i64 (0),.int .i64 (0),.bool false,.int .i64 (0),.int .i64 (0)],.agg [.int .i64 (2),.sl [.agg [.int .i32 (122),.int .i32 (122)]],.int .i64 (0),.int .i64 (0),.bool false,.int .i64 (0),.int .i64 (0)]]],.sl [.agg [.int .i64 (2),.sl [.agg [.int .i32 (121),.int .i32 (122)]],.int .i64 (0),.int .i64 (0),.bool false,.int .i64 (0),.int .i64 (0)]]),
 ([.sl [.agg [.int .i64 (3),.sl [],.int .i64 (0),.int .i64 (0),.bool false,.int .i64 (0),.int .i64 (2)],.agg [.int .i64 (7),.sl [],.int .i64 (0),.int .i64 (0),.bool false,.int .i64 (0),.int .i64 (0)],.agg [.int .i64 (2),.sl [.agg [.int .i32 (32),.int .i32 (32)]],.int .i64 (0),.int .i64 (0),.bool false,.int .i64 (0),.int .i64 (0)]]],.sl [.agg [.int .i64 (3),.sl [],.int .i64 (0),.int .i64 (0),.bool false,.int .i64 (0),.int .i64 (2)],.agg [.int .i64 (7),.sl [],.int .i64 (0),.int .i64 (0),.bool false,.int .i64 (0),.int .i64 (0)],.agg [.int .i64 (2),.sl [.agg [.int .i32 (32),.int .i32 (32)]],.int .i64 (0),.int .i64 (0),.bool false,.int .i64 (0),.int .i64 (0)]]),
 ([.sl [.agg [.int .i64 (2),.sl [.agg [.int .i32 (120),.int .i32 (120)]],.int .i64 (0),.int .i64 (0),.bool false,.int .i64 (0),.int .i64 (0)]]],.sl [.agg [.int .i64 (2),.sl [.agg [.int .i32 (120),.int .i32 (120)]],.int .i64 (0),.int .i64 (0),.bool false,.int .i64 (0),.int .i64 (0)]])]
theorem IE:dx Tryz.prog dE 20 (pa Fg):=by
 refine vW jS λq hq=>?_;simp only[Fg,List.mem_cons,List.not_mem_nil,or_false] at hq
 rcases hq with rfl|rfl|rfl|rfl
 .obtain⟨U,h1,X⟩:=dn m2;exact⟨by decide,_,U,h1,X⟩
 .obtain⟨U,h1,X⟩:=dn m5;exact⟨by decide,_,U,h1,X⟩
 .obtain⟨U,h1,X⟩:=dn m9;exact⟨by decide,_,U,h1,X⟩
 .obtain⟨U,h1,X⟩:=dn m12;exact⟨by decide,_,U,h1,X⟩
noncomputable def TH:Pv:=dE.over [(18,pa Fh),(44,pa Ff),(20,pa Fg)]
theorem UE:TH.Ok Tryz.prog/\TH.fu/\gh Tryz.prog TH (dj TH):=by
 refine oe jS rfl λq hq=>?_;simp only[List.mem_cons,List.not_mem_nil,or_false] at hq
 rcases hq with rfl|rfl|rfl
 .exact IF
 .exact ID
 .exact IE
end Go.Proofs.YtappgjdiplibbaaGreat.rulesRuns
