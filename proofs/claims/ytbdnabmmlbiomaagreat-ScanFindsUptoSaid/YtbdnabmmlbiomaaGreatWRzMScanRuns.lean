import Derived.Test.YtbdnabmmlbiomaaGreatWView
import Derived.Test.YtbdnabmmlbiomaaGreatWM2
import Derived.KernelRfl
set_option maxRecDepth 1000000
namespace Go.Proofs.YtbdnabmmlbiomaaGreat.scanRuns
open Go.V Go
def E1 (d:D):Option (D×St)→Bool
 |some (e,⟨[],_,_⟩)=>fp e d
 |_=>false
theorem gf {d:D} {r:Option (D×St)} (h:E1 d r=true):∃st,r=some (d,st)∧st.bs=[]:=by
 match r,h with
 |some (e,⟨[],a,b⟩),h=>exact⟨⟨[],a,b⟩,by rw[pW e d h],rfl⟩
theorem m0:E1 (.tup [.sl [.agg [.int .i64 (2),.sl [.agg [.int .i32 (233),.int .i32 (233)]],.int .i64 (0),.int .i64 (0),.bool false,.int .i64 (0),.int .i64 (0)]],.int .i64 (0),.int .i64 (0)]) (cW aU 400 51 [.str [195,169]] ⟨[],0,0⟩)=true:=by kernel_rfl
theorem m1:E1 (.bool true) (cW aU 400 132 [.sl [.agg [.int .i32 (233),.int .i32 (233)]]] ⟨[],0,0⟩)=true:=by kernel_rfl
theorem m2:E1 (.bool true) (cW aU 400 87 [.sl [.agg [.int .i64 (2),.sl [.agg [.int .i32 (233),.int .i32 (233)]],.int .i64 (0),.int .i64 (0),.bool false,.int .i64 (0),.int .i64 (0)]]] ⟨[],0,0⟩)=true:=by kernel_rfl
theorem m3:E1 (.tup [.sl [.agg [.int .i64 (2),.sl [.agg [.int .i32 (0),.int .i32 (9)],.agg [.int .i32 (11),.int .i32 (55295)],.agg [.int .i32 (57344),.int .i32 (1114111)]],.int .i64 (0),.int .i64 (0),.bool false,.int .i64 (0),.int .i64 (0)]],.int .i64 (0),.int .i64 (0)]) (cW aU 400 51 [.str [46]] ⟨[],0,0⟩)=true:=by kernel_rfl
theorem m4:E1 (.bool true) (cW aU 400 132 [.sl [.agg [.int .i32 (0),.int .i32 (9)],.agg [.int .i32 (11),.int .i32 (55295)],.agg [.int .i32 (57344),.int .i32 (1114111)]]] ⟨[],0,0⟩)=true:=by kernel_rfl
theorem m5:E1 (.bool true) (cW aU 400 87 [.sl [.agg [.int .i64 (2),.sl [.agg [.int .i32 (0),.int .i32 (9)],.agg [.int .i32 (11),.int .i32 (55295)],.agg [.int .i32 (57344),.int .i32 (1114111)]],.int .i64 (0),.int .i64 (0),.bool false,.int .i64 (0),.int .i64 (0)]]] ⟨[],0,0⟩)=true:=by kernel_rfl
theorem m6:E1 (.bool true) (cW aU 400 58 [.agg [.sl [.agg [.int .i64 (4),.int .i64 (0),.int .i64 (0),.sl []],.agg [.int .i64 (1),.int .i64 (0),.int .i64 (0),.sl [.agg [.int .i32 (233),.int .i32 (233)]]],.agg [.int .i64 (4),.int .i64 (1),.int .i64 (0),.sl []],.agg [.int .i64 (7),.int .i64 (0),.int .i64 (0),.sl []]],.sl [.int .i64 (0)]]] ⟨[],0,0⟩)=true:=by kernel_rfl
theorem m7:E1 (.bool true) (cW aU 400 58 [.agg [.sl [.agg [.int .i64 (4),.int .i64 (0),.int .i64 (0),.sl []],.agg [.int .i64 (1),.int .i64 (0),.int .i64 (0),.sl [.agg [.int .i32 (0),.int .i32 (9)],.agg [.int .i32 (11),.int .i32 (55295)],.agg [.int .i32 (57344),.int .i32 (1114111)]]],.agg [.int .i64 (4),.int .i64 (1),.int .i64 (0),.sl []],.agg [.int .i64 (7),.int .i64 (0),.int .i64 (0),.sl []]],.sl [.int .i64 (0)]]] ⟨[],0,0⟩)=true:=by kernel_rfl
def yv:List (List D×D):=[([.str [195,169]],.tup [.sl [.agg [.int .i64 (2),.sl [.agg [.int .i32 (233),.int .i32 (233)]],.int .i64 (0),.int .i64 (0),.bool false,.int .i64 (0),.int .i64 (0)]],.int .i64 (0),.int .i64 (0)]),
 ([.str [46]],.tup [.sl [.agg [.int .i64 (2),.sl [.agg [.int .i32 (0),.int .i32 (9)],.agg [.int .i32 (11),.int .i32 (55295)],.agg [.int .i32 (57344),.int .i32 (1114111)]],.int .i64 (0),.int .i64 (0),.bool false,.int .i64 (0),.int .i64 (0)]],.int .i64 (0),.int .i64 (0)])]
theorem Bm:fQ Tryz.prog aU 51 (kG yv):=by
 refine mU mc fun q hq=>?_;simp only[yv,List.mem_cons,List.not_mem_nil,or_false] at hq
 rcases hq with rfl|rfl
 ·obtain⟨st,h1,h2⟩:=gf m0;exact⟨by decide,_,st,h1,h2⟩
 ·obtain⟨st,h1,h2⟩:=gf m3;exact⟨by decide,_,st,h1,h2⟩
def uJ:List (List D×D):=[([.sl [.agg [.int .i32 (233),.int .i32 (233)]]],.bool true),
 ([.sl [.agg [.int .i32 (0),.int .i32 (9)],.agg [.int .i32 (11),.int .i32 (55295)],.agg [.int .i32 (57344),.int .i32 (1114111)]]],.bool true)]
theorem yw:fQ Tryz.prog aU 132 (kG uJ):=by
 refine mU mc fun q hq=>?_;simp only[uJ,List.mem_cons,List.not_mem_nil,or_false] at hq
 rcases hq with rfl|rfl
 ·obtain⟨st,h1,h2⟩:=gf m1;exact⟨by decide,_,st,h1,h2⟩
 ·obtain⟨st,h1,h2⟩:=gf m4;exact⟨by decide,_,st,h1,h2⟩
def yt:List (List D×D):=[([.sl [.agg [.int .i64 (2),.sl [.agg [.int .i32 (233),.int .i32 (233)]],.int .i64 (0),.int .i64 (0),.bool false,.int .i64 (0),.int .i64 (0)]]],.bool true),
 ([.sl [.agg [.int .i64 (2),.sl [.agg [.int .i32 (0),.int .i32 (9)],.agg [.int .i32 (11),.int .i32 (55295)],.agg [.int .i32 (57344),.int .i32 (1114111)]],.int .i64 (0),.int .i64 (0),.bool false,.int .i64 (0),.int .i64 (0)]]],.bool true)]
theorem Bk:fQ Tryz.prog aU 87 (kG yt):=by
 refine mU mc fun q hq=>?_;simp only[yt,List.mem_cons,List.not_mem_nil,or_false] at hq
 rcases hq with rfl|rfl
 ·obtain⟨st,h1,h2⟩:=gf m2;exact⟨by decide,_,st,h1,h2⟩
 ·obtain⟨st,h1,h2⟩:=gf m5;exact⟨by decide,_,st,h1,h2⟩
def yu:List (List D×D):=[([.agg [.sl [.agg [.int .i64 (4),.int .i64 (0),.int .i64 (0),.sl []],.agg [.int .i64 (1),.int .i64 (0),.int .i64 (0),.sl [.agg [.int .i32 (233),.int .i32 (233)]]],.agg [.int .i64 (4),.int .i64 (1),.int .i64 (0),.sl []],.agg [.int .i64 (7),.int .i64 (0),.int .i64 (0),.sl []]],.sl [.int .i64 (0)]]],.bool true),
 ([.agg [.sl [.agg [.int .i64 (4),.int .i64 (0),.int .i64 (0),.sl []],.agg [.int .i64 (1),.int .i64 (0),.int .i64 (0),.sl [.agg [.int .i32 (0),.int .i32 (9)],.agg [.int .i32 (11),.int .i32 (55295)],.agg [.int .i32 (57344),.int .i32 (1114111)]]],.agg [.int .i64 (4),.int .i64 (1),.int .i64 (0),.sl []],.agg [.int .i64 (7),.int .i64 (0),.int .i64 (0),.sl []]],.sl [.int .i64 (0)]]],.bool true)]
theorem Bl:fQ Tryz.prog aU 58 (kG yu):=by
 refine mU mc fun q hq=>?_;simp only[yu,List.mem_cons,List.not_mem_nil,or_false] at hq
 rcases hq with rfl|rfl
 ·obtain⟨st,h1,h2⟩:=gf m6;exact⟨by decide,_,st,h1,h2⟩
 ·obtain⟨st,h1,h2⟩:=gf m7;exact⟨by decide,_,st,h1,h2⟩
noncomputable def Rw:Pv:=aU.over [(51,kG yv),(132,kG uJ),(87,kG yt),(58,kG yu)]
theorem RM:Rw.Ok Tryz.prog∧Rw.jn∧iA Tryz.prog Rw (eP Rw):=by
 refine sY mc rfl fun q hq=>?_;simp only[List.mem_cons,List.not_mem_nil,or_false] at hq
 rcases hq with rfl|rfl|rfl|rfl
 ·exact Bm
 ·exact yw
 ·exact Bk
 ·exact Bl
end Go.Proofs.YtbdnabmmlbiomaaGreat.scanRuns
