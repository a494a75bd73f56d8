/-
 What ScanRuns asks of some functions is reckoned, one call a theorem. By program.
-/
import Derived.Test.YtbdnabmmlbiomaaGreatXView
import Derived.Test.YtbdnabmmlbiomaaGreatXM2
import Derived.KernelRfl
set_option maxRecDepth 1000000
namespace Go.Proofs.YtbdnabmmlbiomaaGreat.scanRuns
open Go.V Go
def F4 (d:D):Option (D×St)→Bool
 |some (e,⟨[],_,_⟩)=>fH e d
 |_=>false
theorem gA {d:D} {r:Option (D×St)} (h:F4 d r=true):∃st,r=some (d,st)∧st.bs=[]:=by
 match r,h with
 |some (e,⟨[],a,b⟩),h=>exact⟨⟨[],a,b⟩,by rw[re e d h],rfl⟩
theorem m0:F4 (.tup [.sl [.agg [.int .i64 (2),.sl [.agg [.int .i32 (233),.int .i32 (233)]],.int .i64 (0),.int .i64 (0),.bool false,.int .i64 (0),.int .i64 (0)]],.int .i64 (0),.int .i64 (0)]) (c9 a_ 400 51 [.str [195,169]] ⟨[],0,0⟩)=true:=by kernel_rfl
theorem m1:F4 (.bool true) (c9 a_ 400 132 [.sl [.agg [.int .i32 (233),.int .i32 (233)]]] ⟨[],0,0⟩)=true:=by kernel_rfl
theorem m2:F4 (.bool true) (c9 a_ 400 87 [.sl [.agg [.int .i64 (2),.sl [.agg [.int .i32 (233),.int .i32 (233)]],.int .i64 (0),.int .i64 (0),.bool false,.int .i64 (0),.int .i64 (0)]]] ⟨[],0,0⟩)=true:=by kernel_rfl
theorem m3:F4 (.tup [.sl [.agg [.int .i64 (2),.sl [.agg [.int .i32 (0),.int .i32 (9)],.agg [.int .i32 (11),.int .i32 (55295)],.agg [.int .i32 (57344),.int .i32 (1114111)]],.int .i64 (0),.int .i64 (0),.bool false,.int .i64 (0),.int .i64 (0)]],.int .i64 (0),.int .i64 (0)]) (c9 a_ 400 51 [.str [46]] ⟨[],0,0⟩)=true:=by kernel_rfl
theorem m4:F4 (.bool true) (c9 a_ 400 132 [.sl [.agg [.int .i32 (0),.int .i32 (9)],.agg [.int .i32 (11),.int .i32 (55295)],.agg [.int .i32 (57344),.int .i32 (1114111)]]] ⟨[],0,0⟩)=true:=by kernel_rfl
theorem m5:F4 (.bool true) (c9 a_ 400 87 [.sl [.agg [.int .i64 (2),.sl [.agg [.int .i32 (0),.int .i32 (9)],.agg [.int .i32 (11),.int .i32 (55295)],.agg [.int .i32 (57344),.int .i32 (1114111)]],.int .i64 (0),.int .i64 (0),.bool false,.int .i64 (0),.int .i64 (0)]]] ⟨[],0,0⟩)=true:=by kernel_rfl
theorem m6:F4 (.bool true) (c9 a_ 400 58 [.agg [.sl [.agg [.int .i64 (4),.int .i64 (0),.int .i64 (0),.sl []],.agg [.int .i64 (1),.int .i64 (0),.int .i64 (0),.sl [.agg [.int .i32 (233),.int .i32 (233)]]],.agg [.int .i64 (4),.int .i64 (1),.int .i64 (0),.sl []],.agg [.int .i64 (7),.int .i64 (0),.int .i64 (0),.sl []]],.sl [.int .i64 (0)]]] ⟨[],0,0⟩)=true:=by kernel_rfl
theorem m7:F4 (.bool true) (c9 a_ 400 58 [.agg [.sl [.agg [.int .i64 (4),.int .i64 (0),.int .i64 (0),.sl []],.agg [.int .i64 (1),.int .i64 (0),.int .i64 (0),.sl [.agg [.int .i32 (0),.int .i32 (9)],.agg [.int .i32 (11),.int .i32 (55295)],.agg [.int .i32 (57344),.int .i32 (1114111)]]],.agg [.int .i64 (4),.int .i64 (1),.int .i64 (0),.sl []],.agg [.int .i64 (7),.int .i64 (0),.int .i64 (0),.sl []]],.sl [.int .i64 (0)]]] ⟨[],0,0⟩)=true:=by kernel_rfl
def zC:List (List D×D):=[([.str [195,169]],.tup [.sl [.agg [.int .i64 (2),.sl [.agg [.int .i32 (233),.int .i32 (233)]],.int .i64 (0),.int .i64 (0),.bool false,.int .i64 (0),.int .i64 (0)]],.int .i64 (0),.int .i64 (0)]),
 ([.str [46]],.tup [.sl [.agg [.int .i64 (2),.sl [.agg [.int .i32 (0),.int .i32 (9)],.agg [.int .i32 (11),.int .i32 (55295)],.agg [.int .i32 (57344),.int .i32 (1114111)]],.int .i64 (0),.int .i64 (0),.bool false,.int .i64 (0),.int .i64 (0)]],.int .i64 (0),.int .i64 (0)])]
theorem Co:gf Tryz.prog a_ 51 (kT zC):=by
 refine nI mD fun q hq=>?_;simp only[zC,List.mem_cons,List.not_mem_nil,or_false] at hq
 rcases hq with rfl|rfl
 ·obtain⟨st,h1,h2⟩:=gA m0;exact⟨by decide,_,st,h1,h2⟩
 ·obtain⟨st,h1,h2⟩:=gA m3;exact⟨by decide,_,st,h1,h2⟩
def vF:List (List D×D):=[([.sl [.agg [.int .i32 (233),.int .i32 (233)]]],.bool true),
 ([.sl [.agg [.int .i32 (0),.int .i32 (9)],.agg [.int .i32 (11),.int .i32 (55295)],.agg [.int .i32 (57344),.int .i32 (1114111)]]],.bool true)]
theorem zD:gf Tryz.prog a_ 132 (kT vF):=by
 refine nI mD fun q hq=>?_;simp only[vF,List.mem_cons,List.not_mem_nil,or_false] at hq
 rcases hq with rfl|rfl
 ·obtain⟨st,h1,h2⟩:=gA m1;exact⟨by decide,_,st,h1,h2⟩
 ·obtain⟨st,h1,h2⟩:=gA m4;exact⟨by decide,_,st,h1,h2⟩
def zA:List (List D×D):=[([.sl [.agg [.int .i64 (2),.sl [.agg [.int .i32 (233),.int .i32 (233)]],.int .i64 (0),.int .i64 (0),.bool false,.int .i64 (0),.int .i64 (0)]]],.bool true),
 ([.sl [.agg [.int .i64 (2),.sl [.agg [.int .i32 (0),.int .i32 (9)],.agg [.int .i32 (11),.int .i32 (55295)],.agg [.int .i32 (57344),.int .i32 (1114111)]],.int .i64 (0),.int .i64 (0),.bool false,.int .i64 (0),.int .i64 (0)]]],.bool true)]
theorem Cm:gf Tryz.prog a_ 87 (kT zA):=by
 refine nI mD fun q hq=>?_;simp only[zA,List.mem_cons,List.not_mem_nil,or_false] at hq
 rcases hq with rfl|rfl
 ·obtain⟨st,h1,h2⟩:=gA m2;exact⟨by decide,_,st,h1,h2⟩
 ·obtain⟨st,h1,h2⟩:=gA m5;exact⟨by decide,_,st,h1,h2⟩
def zB:List (List D×D):=[([.agg [.sl [.agg [.int .i64 (4),.int .i64 (0),.int .i64 (0),.sl []],.agg [.int .i64 (1),.int .i64 (0),.int .i64 (0),.sl [.agg [.int .i32 (233),.int .i32 (233)]]],.agg [.int .i64 (4),.int .i64 (1),.int .i64 (0),.sl []],.agg [.int .i64 (7),.int .i64 (0),.int .i64 (0),.sl []]],.sl [.int .i64 (0)]]],.bool true),
 ([.agg [.sl [.agg [.int .i64 (4),.int .i64 (0),.int .i64 (0),.sl []],.agg [.int .i64 (1),.int .i64 (0),.int .i64 (0),.sl [.agg [.int .i32 (0),.int .i32 (9)],.agg [.int .i32 (11),.int .i32 (55295)],.agg [.int .i32 (57344),.int .i32 (1114111)]]],.agg [.int .i64 (4),.int .i64 (1),.int .i64 (0),.sl []],.agg [.int .i64 (7),.int .i64 (0),.int .i64 (0),.sl []]],.sl [.int .i64 (0)]]],.bool true)]
theorem Cn:gf Tryz.prog a_ 58 (kT zB):=by
 refine nI mD fun q hq=>?_;simp only[zB,List.mem_cons,List.not_mem_nil,or_false] at hq
 rcases hq with rfl|rfl
 ·obtain⟨st,h1,h2⟩:=gA m6;exact⟨by decide,_,st,h1,h2⟩
 ·obtain⟨st,h1,h2⟩:=gA m7;exact⟨by decide,_,st,h1,h2⟩
noncomputable def S0:Pv:=a_.over [(51,kT zC),(132,kT vF),(87,kT zA),(58,kT zB)]
theorem Ty:S0.Ok Tryz.prog∧S0.jA∧iP Tryz.prog S0 (eZ S0):=by
 refine tR mD rfl fun q hq=>?_;simp only[List.mem_cons,List.not_mem_nil,or_false] at hq
 rcases hq with rfl|rfl|rfl|rfl
 ·exact Co
 ·exact zD
 ·exact Cm
 ·exact Cn
end Go.Proofs.YtbdnabmmlbiomaaGreat.scanRuns
