/-
 What ScanRuns asks of some functions is reckoned, one call a theorem. By program.
-/
import Derived.Test.YtnleclohocdkaaaGreatSView
import Derived.Test.YtnleclohocdkaaaGreatSM2
import Derived.KernelRfl
set_option maxRecDepth 1000000
namespace Go.Proofs.YtnleclohocdkaaaGreat.scanRuns
open Go.V Go
def Ei (d:D):Option (D×St)→Bool
 |some (e,⟨[],_,_⟩)=>dM e d
 |_=>false
theorem eK {d:D} {r:Option (D×St)} (h:Ei d r=true):∃st,r=some (d,st)∧st.bs=[]:=by
 match r,h with
 |some (e,⟨[],a,b⟩),h=>exact⟨⟨[],a,b⟩,by rw[oD e d h],rfl⟩
theorem m0:Ei (.tup [.sl [.agg [.int .i64 (2),.sl [.agg [.int .i32 (233),.int .i32 (233)]],.int .i64 (0),.int .i64 (0),.bool false,.int .i64 (0),.int .i64 (0)]],.int .i64 (0),.int .i64 (0)]) (bZ lp 400 55 [.str [195,169]] ⟨[],0,0⟩)=true:=by kernel_rfl
theorem m1:Ei (.bool true) (bZ lp 400 121 [.sl [.agg [.int .i32 (233),.int .i32 (233)]]] ⟨[],0,0⟩)=true:=by kernel_rfl
theorem m2:Ei (.bool true) (bZ lp 400 43 [.sl [.agg [.int .i64 (2),.sl [.agg [.int .i32 (233),.int .i32 (233)]],.int .i64 (0),.int .i64 (0),.bool false,.int .i64 (0),.int .i64 (0)]]] ⟨[],0,0⟩)=true:=by kernel_rfl
theorem m3:Ei (.tup [.sl [.agg [.int .i64 (2),.sl [.agg [.int .i32 (0),.int .i32 (9)],.agg [.int .i32 (11),.int .i32 (55295)],.agg [.int .i32 (57344),.int .i32 (1114111)]],.int .i64 (0),.int .i64 (0),.bool false,.int .i64 (0),.int .i64 (0)]],.int .i64 (0),.int .i64 (0)]) (bZ lp 400 55 [.str [46]] ⟨[],0,0⟩)=true:=by kernel_rfl
theorem m4:Ei (.bool true) (bZ lp 400 121 [.sl [.agg [.int .i32 (0),.int .i32 (9)],.agg [.int .i32 (11),.int .i32 (55295)],.agg [.int .i32 (57344),.int .i32 (1114111)]]] ⟨[],0,0⟩)=true:=by kernel_rfl
theorem m5:Ei (.bool true) (bZ lp 400 43 [.sl [.agg [.int .i64 (2),.sl [.agg [.int .i32 (0),.int .i32 (9)],.agg [.int .i32 (11),.int .i32 (55295)],.agg [.int .i32 (57344),.int .i32 (1114111)]],.int .i64 (0),.int .i64 (0),.bool false,.int .i64 (0),.int .i64 (0)]]] ⟨[],0,0⟩)=true:=by kernel_rfl
theorem m6:Ei (.bool true) (bZ lp 400 62 [.agg [.sl [.agg [.int .i64 (4),.int .i64 (0),.int .i64 (0),.sl []],.agg [.int .i64 (1),.int .i64 (0),.int .i64 (0),.sl [.agg [.int .i32 (233),.int .i32 (233)]]],.agg [.int .i64 (4),.int .i64 (1),.int .i64 (0),.sl []],.agg [.int .i64 (7),.int .i64 (0),.int .i64 (0),.sl []]],.sl [.int .i64 (0)]]] ⟨[],0,0⟩)=true:=by kernel_rfl
theorem m7:Ei (.bool true) (bZ lp 400 62 [.agg [.sl [.agg [.int .i64 (4),.int .i64 (0),.int .i64 (0),.sl []],.agg [.int .i64 (1),.int .i64 (0),.int .i64 (0),.sl [.agg [.int .i32 (0),.int .i32 (9)],.agg [.int .i32 (11),.int .i32 (55295)],.agg [.int .i32 (57344),.int .i32 (1114111)]]],.agg [.int .i64 (4),.int .i64 (1),.int .i64 (0),.sl []],.agg [.int .i64 (7),.int .i64 (0),.int .i64 (0),.sl []]],.sl [.int .i64 (0)]]] ⟨[],0,0⟩)=true:=by kernel_rfl
def xz:List (List D×D):=[([.str [195,169]],.tup [.sl [.agg [.int .i64 (2),.sl [.agg [.int .i32 (233),.int .i32 (233)]],.int .i64 (0),.int .i64 (0),.bool false,.int .i64 (0),.int .i64 (0)]],.int .i64 (0),.int .i64 (0)]),
 ([.str [46]],.tup [.sl [.agg [.int .i64 (2),.sl [.agg [.int .i32 (0),.int .i32 (9)],.agg [.int .i32 (11),.int .i32 (55295)],.agg [.int .i32 (57344),.int .i32 (1114111)]],.int .i64 (0),.int .i64 (0),.bool false,.int .i64 (0),.int .i64 (0)]],.int .i64 (0),.int .i64 (0)])]
theorem AJ:eQ Tryz.prog lp 55 (ja xz):=by
 refine lA kY fun q hq=>?_;simp only[xz,List.mem_cons,List.not_mem_nil,or_false] at hq
 rcases hq with rfl|rfl
 ·obtain⟨st,h1,h2⟩:=eK m0;exact⟨by decide,_,st,h1,h2⟩
 ·obtain⟨st,h1,h2⟩:=eK m3;exact⟨by decide,_,st,h1,h2⟩
def tF:List (List D×D):=[([.sl [.agg [.int .i32 (233),.int .i32 (233)]]],.bool true),
 ([.sl [.agg [.int .i32 (0),.int .i32 (9)],.agg [.int .i32 (11),.int .i32 (55295)],.agg [.int .i32 (57344),.int .i32 (1114111)]]],.bool true)]
theorem xB:eQ Tryz.prog lp 121 (ja tF):=by
 refine lA kY fun q hq=>?_;simp only[tF,List.mem_cons,List.not_mem_nil,or_false] at hq
 rcases hq with rfl|rfl
 ·obtain⟨st,h1,h2⟩:=eK m1;exact⟨by decide,_,st,h1,h2⟩
 ·obtain⟨st,h1,h2⟩:=eK m4;exact⟨by decide,_,st,h1,h2⟩
def xA:List (List D×D):=[([.sl [.agg [.int .i64 (2),.sl [.agg [.int .i32 (233),.int .i32 (233)]],.int .i64 (0),.int .i64 (0),.bool false,.int .i64 (0),.int .i64 (0)]]],.bool true),
 ([.sl [.agg [.int .i64 (2),.sl [.agg [.int .i32 (0),.int .i32 (9)],.agg [.int .i32 (11),.int .i32 (55295)],.agg [.int .i32 (57344),.int .i32 (1114111)]],.int .i64 (0),.int .i64 (0),.bool false,.int .i64 (0),.int .i64 (0)]]],.bool true)]
theorem AK:eQ Tryz.prog lp 43 (ja xA):=by
 refine lA kY fun q hq=>?_;simp only[xA,List.mem_cons,List.not_mem_nil,or_false] at hq
 rcases hq with rfl|rfl
 ·obtain⟨st,h1,h2⟩:=eK m2;exact⟨by decide,_,st,h1,h2⟩
 ·obtain⟨st,h1,h2⟩:=eK m5;exact⟨by decide,_,st,h1,h2⟩
def xy:List (List D×D):=[([.agg [.sl [.agg [.int .i64 (4),.int .i64 (0),.int .i64 (0),.sl []],.agg [.int .i64 (1),.int .i64 (0),.int .i64 (0),.sl [.agg [.int .i32 (233),.int .i32 (233)]]],.agg [.int .i64 (4),.int .i64 (1),.int .i64 (0),.sl []],.agg [.int .i64 (7),.int .i64 (0),.int .i64 (0),.sl []]],.sl [.int .i64 (0)]]],.bool true),
 ([.agg [.sl [.agg [.int .i64 (4),.int .i64 (0),.int .i64 (0),.sl []],.agg [.int .i64 (1),.int .i64 (0),.int .i64 (0),.sl [.agg [.int .i32 (0),.int .i32 (9)],.agg [.int .i32 (11),.int .i32 (55295)],.agg [.int .i32 (57344),.int .i32 (1114111)]]],.agg [.int .i64 (4),.int .i64 (1),.int .i64 (0),.sl []],.agg [.int .i64 (7),.int .i64 (0),.int .i64 (0),.sl []]],.sl [.int .i64 (0)]]],.bool true)]
theorem AH:eQ Tryz.prog lp 62 (ja xy):=by
 refine lA kY fun q hq=>?_;simp only[xy,List.mem_cons,List.not_mem_nil,or_false] at hq
 rcases hq with rfl|rfl
 ·obtain⟨st,h1,h2⟩:=eK m6;exact⟨by decide,_,st,h1,h2⟩
 ·obtain⟨st,h1,h2⟩:=eK m7;exact⟨by decide,_,st,h1,h2⟩
noncomputable def ID:Pv:=lp.over [(55,ja xz),(121,ja tF),(43,ja xA),(62,ja xy)]
theorem I9:ID.Ok Tryz.prog∧ID.gS∧gf Tryz.prog ID (dt ID):=by
 refine rM kY rfl fun q hq=>?_;simp only[List.mem_cons,List.not_mem_nil,or_false] at hq
 rcases hq with rfl|rfl|rfl|rfl
 ·exact AJ
 ·exact xB
 ·exact AK
 ·exact AH
end Go.Proofs.YtnleclohocdkaaaGreat.scanRuns
