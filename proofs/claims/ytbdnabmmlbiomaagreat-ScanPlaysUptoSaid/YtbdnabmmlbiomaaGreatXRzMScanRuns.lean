import Derived.Test.YtbdnabmmlbiomaaGreatXView
import Derived.Test.YtbdnabmmlbiomaaGreatXM2
import Derived.KernelRfl
set_option maxRecDepth 1000000
namespace Go.Proofs.YtbdnabmmlbiomaaGreat.scanRuns
open Go.V Go
def EO (d:D):Option (D×St)→Bool
 |some (e,⟨[],_,_⟩)=>eZ e d
 |_=>false
theorem fW {d:D} {r:Option (D×St)} (h:EO d r=true):∃st,r=some (d,st)∧st.bs=[]:=by
 match r,h with
 |some (e,⟨[],a,b⟩),h=>exact⟨⟨[],a,b⟩,by rw[pA e d h],rfl⟩
theorem m0:EO (.tup [.sl [.agg [.int .i64 (2),.sl [.agg [.int .i32 (233),.int .i32 (233)]],.int .i64 (0),.int .i64 (0),.bool false,.int .i64 (0),.int .i64 (0)]],.int .i64 (0),.int .i64 (0)]) (cJ aW 400 51 [.str [195,169]] ⟨[],0,0⟩)=true:=by kernel_rfl
theorem m1:EO (.bool true) (cJ aW 400 132 [.sl [.agg [.int .i32 (233),.int .i32 (233)]]] ⟨[],0,0⟩)=true:=by kernel_rfl
theorem m2:EO (.bool true) (cJ aW 400 87 [.sl [.agg [.int .i64 (2),.sl [.agg [.int .i32 (233),.int .i32 (233)]],.int .i64 (0),.int .i64 (0),.bool false,.int .i64 (0),.int .i64 (0)]]] ⟨[],0,0⟩)=true:=by kernel_rfl
theorem m3:EO (.tup [.sl [.agg [.int .i64 (2),.sl [.agg [.int .i32 (0),.int .i32 (9)],.agg [.int .i32 (11),.int .i32 (55295)],.agg [.int .i32 (57344),.int .i32 (1114111)]],.int .i64 (0),.int .i64 (0),.bool false,.int .i64 (0),.int .i64 (0)]],.int .i64 (0),.int .i64 (0)]) (cJ aW 400 51 [.str [46]] ⟨[],0,0⟩)=true:=by kernel_rfl
theorem m4:EO (.bool true) (cJ aW 400 132 [.sl [.agg [.int .i32 (0),.int .i32 (9)],.agg [.int .i32 (11),.int .i32 (55295)],.agg [.int .i32 (57344),.int .i32 (1114111)]]] ⟨[],0,0⟩)=true:=by kernel_rfl
theorem m5:EO (.bool true) (cJ aW 400 87 [.sl [.agg [.int .i64 (2),.sl [.agg [.int .i32 (0),.int .i32 (9)],.agg [.int .i32 (11),.int .i32 (55295)],.agg [.int .i32 (57344),.int .i32 (1114111)]],.int .i64 (0),.int .i64 (0),.bool false,.int .i64 (0),.int .i64 (0)]]] ⟨[],0,0⟩)=true:=by kernel_rfl
theorem m6:EO (.bool true) (cJ aW 400 58 [.agg [.sl [.agg [.int .i64 (4),.int .i64 (0),.int .i64 (0),.sl []],.agg [.int .i64 (1),.int .i64 (0),.int .i64 (0),.sl [.agg [.int .i32 (233),.int .i32 (233)]]],.agg [.int .i64 (4),.int .i64 (1),.int .i64 (0),.sl []],.agg [.int .i64 (7),.int .i64 (0),.int .i64 (0),.sl []]],.sl [.int .i64 (0)]]] ⟨[],0,0⟩)=true:=by kernel_rfl
theorem m7:EO (.bool true) (cJ aW 400 58 [.agg [.sl [.agg [.int .i64 (4),.int .i64 (0),.int .i64 (0),.sl []],.agg [.int .i64 (1),.int .i64 (0),.int .i64 (0),.sl [.agg [.int .i32 (0),.int .i32 (9)],.agg [.int .i32 (11),.int .i32 (55295)],.agg [.int .i32 (57344),.int .i32 (1114111)]]],.agg [.int .i64 (4),.int .i64 (1),.int .i64 (0),.sl []],.agg [.int .i64 (7),.int .i64 (0),.int .i64 (0),.sl []]],.sl [.int .i64 (0)]]] ⟨[],0,0⟩)=true:=by kernel_rfl
def yt:List (List D×D):=[([.str [195,169]],.tup [.sl [.agg [.int .i64 (2),.sl [.agg [.int .i32 (233),.int .i32 (233)]],.int .i64 (0),.int .i64 (0),.bool false,.int .i64 (0),.int .i64 (0)]],.int .i64 (0),.int .i64 (0)]),
 ([.str [46]],.tup [.sl [.agg [.int .i64 (2),.sl [.agg [.int .i32 (0),.int .i32 (9)],.agg [.int .i32 (11),.int .i32 (55295)],.agg [.int .i32 (57344),.int .i32 (1114111)]],.int .i64 (0),.int .i64 (0),.bool false,.int .i64 (0),.int .i64 (0)]],.int .i64 (0),.int .i64 (0)])]
theorem Bb:fG Tryz.prog aW 51 (kq yt):=by
 refine mF lV fun q hq=>?_;simp only[yt,List.mem_cons,List.not_mem_nil,or_false] at hq
 rcases hq with rfl|rfl
 ·obtain⟨st,h1,h2⟩:=fW m0;exact⟨by decide,_,st,h1,h2⟩
 ·obtain⟨st,h1,h2⟩:=fW m3;exact⟨by decide,_,st,h1,h2⟩
def tZ:List (List D×D):=[([.sl [.agg [.int .i32 (233),.int .i32 (233)]]],.bool true),
 ([.sl [.agg [.int .i32 (0),.int .i32 (9)],.agg [.int .i32 (11),.int .i32 (55295)],.agg [.int .i32 (57344),.int .i32 (1114111)]]],.bool true)]
theorem yu:fG Tryz.prog aW 132 (kq tZ):=by
 refine mF lV fun q hq=>?_;simp only[tZ,List.mem_cons,List.not_mem_nil,or_false] at hq
 rcases hq with rfl|rfl
 ·obtain⟨st,h1,h2⟩:=fW m1;exact⟨by decide,_,st,h1,h2⟩
 ·obtain⟨st,h1,h2⟩:=fW m4;exact⟨by decide,_,st,h1,h2⟩
def yq:List (List D×D):=[([.sl [.agg [.int .i64 (2),.sl [.agg [.int .i32 (233),.int .i32 (233)]],.int .i64 (0),.int .i64 (0),.bool false,.int .i64 (0),.int .i64 (0)]]],.bool true),
 ([.sl [.agg [.int .i64 (2),.sl [.agg [.int .i32 (0),.int .i32 (9)],.agg [.int .i32 (11),.int .i32 (55295)],.agg [.int .i32 (57344),.int .i32 (1114111)]],.int .i64 (0),.int .i64 (0),.bool false,.int .i64 (0),.int .i64 (0)]]],.bool true)]
theorem A':fG Tryz.prog aW 87 (kq yq):=by
 refine mF lV fun q hq=>?_;simp only[yq,List.mem_cons,List.not_mem_nil,or_false] at hq
 rcases hq with rfl|rfl
 ·obtain⟨st,h1,h2⟩:=fW m2;exact⟨by decide,_,st,h1,h2⟩
 ·obtain⟨st,h1,h2⟩:=fW m5;exact⟨by decide,_,st,h1,h2⟩
def yr:List (List D×D):=[([.agg [.sl [.agg [.int .i64 (4),.int .i64 (0),.int .i64 (0),.sl []],.agg [.int .i64 (1),.int .i64 (0),.int .i64 (0),.sl [.agg [.int .i32 (233),.int .i32 (233)]]],.agg [.int .i64 (4),.int .i64 (1),.int .i64 (0),.sl []],.agg [.int .i64 (7),.int .i64 (0),.int .i64 (0),.sl []]],.sl [.int .i64 (0)]]],.bool true),
 ([.agg [.sl [.agg [.int .i64 (4),.int .i64 (0),.int .i64 (0),.sl []],.agg [.int .i64 (1),.int .i64 (0),.int .i64 (0),.sl [.agg [.int .i32 (0),.int .i32 (9)],.agg [.int .i32 (11),.int .i32 (55295)],.agg [.int .i32 (57344),.int .i32 (1114111)]]],.agg [.int .i64 (4),.int .i64 (1),.int .i64 (0),.sl []],.agg [.int .i64 (7),.int .i64 (0),.int .i64 (0),.sl []]],.sl [.int .i64 (0)]]],.bool true)]
theorem Ba:fG Tryz.prog aW 58 (kq yr):=by
 refine mF lV fun q hq=>?_;simp only[yr,List.mem_cons,List.not_mem_nil,or_false] at hq
 rcases hq with rfl|rfl
 ·obtain⟨st,h1,h2⟩:=fW m6;exact⟨by decide,_,st,h1,h2⟩
 ·obtain⟨st,h1,h2⟩:=fW m7;exact⟨by decide,_,st,h1,h2⟩
noncomputable def Rk:Pv:=aW.over [(51,kq yt),(132,kq tZ),(87,kq yq),(58,kq yr)]
theorem RK:Rk.Ok Tryz.prog∧Rk.jc∧ie Tryz.prog Rk (eI Rk):=by
 refine sr lV rfl fun q hq=>?_;simp only[List.mem_cons,List.not_mem_nil,or_false] at hq
 rcases hq with rfl|rfl|rfl|rfl
 ·exact Bb
 ·exact yu
 ·exact A'
 ·exact Ba
end Go.Proofs.YtbdnabmmlbiomaaGreat.scanRuns
