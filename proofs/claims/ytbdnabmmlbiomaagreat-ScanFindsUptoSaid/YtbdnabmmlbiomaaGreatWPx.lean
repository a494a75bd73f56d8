import Derived.Test.YtbdnabmmlbiomaaGreatWView
import Derived.Test.YtbdnabmmlbiomaaGreatWM2
import Derived.Test.YtbdnabmmlbiomaaGreatWRzScanRuns
import Derived.Test.YtbdnabmmlbiomaaGreatWRzNone
import Derived.Test.YtbdnabmmlbiomaaGreatWDgp
import Derived.Test.YtbdnabmmlbiomaaGreatWSrp
set_option maxRecDepth 100000
namespace Go.Proofs.YtbdnabmmlbiomaaGreat
open Go.V
noncomputable def pv:Pv:=aU.over [(29,mf (.bool true)),(118,mf (.agg [.int .i64 (-1),.int .i64 (-1),.int .i64 (-1),.int .i64 (-1),.int .i64 (-1),.int .i64 (-1),.int .i64 (-1),.int .i64 (-1),.int .i64 (-1),.int .i64 (-1)])),(67,mf (.agg [.int .i64 (-1),.int .i64 (-1),.int .i64 (-1),.int .i64 (-1),.int .i64 (-1),.int .i64 (-1),.int .i64 (-1),.int .i64 (-1),.int .i64 (-1),.int .i64 (-1)])),(59,mf (.agg [.int .i64 (-1),.int .i64 (-1),.int .i64 (-1),.int .i64 (-1),.int .i64 (-1),.int .i64 (-1),.int .i64 (-1),.int .i64 (-1),.int .i64 (-1),.int .i64 (-1)])),(172,BT),(154,AZ)]
theorem view:pv.Ok Tryz.prog∧pv.jn∧iA Tryz.prog pv (eP pv):=by
 refine sY mc rfl fun q hq=>?_;simp only[List.mem_cons,List.not_mem_nil,or_false] at hq
 rcases hq with rfl|rfl|rfl|rfl|rfl|rfl
 ·exact vS
 ·exact yp
 ·exact Bd
 ·exact Be
 ·exact LP (by kernel_rfl)
 ·exact Fo mc (by kernel_rfl)
theorem fi8:pv.fi 8=some ⟨Tryz.f8,14,.ro,false,none,[]⟩:=by kernel_rfl
theorem YA:pv.fi 11=some ⟨Tryz.f11,6,.aW,false,none,[]⟩:=by kernel_rfl
theorem Yz:pv.fi 13=some ⟨Tryz.f13,6,.ro,false,none,[]⟩:=by kernel_rfl
theorem Yy:pv.fi 15=some ⟨Tryz.f15,3,.rw,false,none,[(1,[(3,8)])]⟩:=by kernel_rfl
theorem Yx:pv.fi 18=some ⟨Tryz.f18,13,.aW,false,none,[(3,[(3,8)])]⟩:=by kernel_rfl
theorem Yw:pv.fi 21=some ⟨Tryz.f21,13,.aW,false,none,[]⟩:=by kernel_rfl
theorem Yv:pv.fi 26=some ⟨Tryz.f26,5,.ro,false,none,[]⟩:=by kernel_rfl
theorem Yu:pv.fi 27=some ⟨Tryz.f27,11,.ro,false,none,[]⟩:=by kernel_rfl
theorem Yt:pv.fi 28=some ⟨Tryz.f28,6,.aW,false,none,[]⟩:=by kernel_rfl
theorem Ys:pv.fi 31=some ⟨Tryz.f31,2,.aW,false,none,[(0,[(3,9)])]⟩:=by kernel_rfl
theorem Yr:pv.fi 34=some ⟨Tryz.f34,3,.rw,false,none,[(1,[(4,8)])]⟩:=by kernel_rfl
theorem Yq:pv.fi 35=some ⟨Tryz.f35,6,.rw,false,none,[]⟩:=by kernel_rfl
theorem Yp:pv.fi 38=some ⟨Tryz.f38,9,.aW,false,none,[]⟩:=by kernel_rfl
theorem Yo:pv.fi 45=some ⟨Tryz.f45,89,.ro,false,none,[]⟩:=by kernel_rfl
theorem Yn:pv.fi 47=some ⟨Tryz.f47,18,.ro,false,none,[]⟩:=by kernel_rfl
theorem Ym:pv.fi 51=some ⟨Tryz.f51,24,.ro,false,none,[]⟩:=by kernel_rfl
theorem Yl:pv.fi 52=some ⟨Tryz.f52,6,.aW,false,none,[]⟩:=by kernel_rfl
theorem Yk:pv.fi 53=some ⟨Tryz.f53,11,.aW,false,none,[]⟩:=by kernel_rfl
theorem Yj:pv.fi 56=some ⟨Tryz.f56,9,.ro,false,none,[]⟩:=by kernel_rfl
theorem Uc:pv.fi 57=some ⟨Tryz.f57,9,.aW,false,none,[]⟩:=by kernel_rfl
theorem Yi:pv.fi 58=some ⟨Tryz.f58,49,.ro,false,none,[]⟩:=by kernel_rfl
theorem Yh:pv.fi 62=some ⟨Tryz.f62,25,.aW,false,none,[]⟩:=by kernel_rfl
theorem Yg:pv.fi 64=some ⟨Tryz.f64,37,.aW,false,none,[(10,[(4,5)])]⟩:=by kernel_rfl
theorem Yf:pv.fi 72=some ⟨Tryz.f72,1,.aW,false,none,[]⟩:=by kernel_rfl
theorem Ye:pv.fi 74=some ⟨Tryz.f74,9,.aW,false,none,[]⟩:=by kernel_rfl
theorem Yd:pv.fi 75=some ⟨Tryz.f75,9,.rw,false,none,[]⟩:=by kernel_rfl
theorem Yc:pv.fi 77=some ⟨Tryz.f77,3,.rw,false,none,[]⟩:=by kernel_rfl
theorem Yb:pv.fi 78=some ⟨Tryz.f78,8,.aW,false,none,[]⟩:=by kernel_rfl
theorem Ya:pv.fi 79=some ⟨Tryz.f79,4,.aW,false,none,[(2,[(5,10)])]⟩:=by kernel_rfl
theorem X':pv.fi 80=some ⟨Tryz.f80,4,.rw,false,none,[]⟩:=by kernel_rfl
theorem X_:pv.fi 82=some ⟨Tryz.f82,12,.aW,false,none,[]⟩:=by kernel_rfl
theorem X9:pv.fi 87=some ⟨Tryz.f87,4,.ro,false,none,[]⟩:=by kernel_rfl
theorem X8:pv.fi 88=some ⟨Tryz.f88,36,.rw,false,none,[]⟩:=by kernel_rfl
theorem X7:pv.fi 89=some ⟨Tryz.f89,16,.rw,false,none,[]⟩:=by kernel_rfl
theorem X6:pv.fi 90=some ⟨Tryz.f90,5,.aW,false,none,[]⟩:=by kernel_rfl
theorem X5:pv.fi 91=some ⟨Tryz.f91,40,.aW,false,none,[]⟩:=by kernel_rfl
theorem X4:pv.fi 99=some ⟨Tryz.f99,4,.rw,false,none,[]⟩:=by kernel_rfl
theorem UT:pv.fi 100=some ⟨Tryz.f100,7,.rw,false,none,[]⟩:=by kernel_rfl
theorem US:pv.fi 101=some ⟨Tryz.f101,4,.aW,false,none,[]⟩:=by kernel_rfl
theorem UR:pv.fi 102=some ⟨Tryz.f102,14,.ro,false,none,[]⟩:=by kernel_rfl
theorem UQ:pv.fi 103=some ⟨Tryz.f103,5,.ro,false,none,[]⟩:=by kernel_rfl
theorem UP:pv.fi 104=some ⟨Tryz.f104,39,.ro,false,none,[]⟩:=by kernel_rfl
theorem UO:pv.fi 105=some ⟨Tryz.f105,5,.ro,false,none,[]⟩:=by kernel_rfl
theorem UN:pv.fi 106=some ⟨Tryz.f106,41,.ro,false,none,[]⟩:=by kernel_rfl
theorem UM:pv.fi 107=some ⟨Tryz.f107,1,.aW,false,none,[]⟩:=by kernel_rfl
theorem UL:pv.fi 108=some ⟨Tryz.f108,10,.ro,false,none,[]⟩:=by kernel_rfl
theorem UK:pv.fi 109=some ⟨Tryz.f109,7,.aW,false,none,[]⟩:=by kernel_rfl
theorem UJ:pv.fi 110=some ⟨Tryz.f110,33,.aW,false,none,[(8,[(9,12)])]⟩:=by kernel_rfl
theorem UI:pv.fi 114=some ⟨Tryz.f114,2,.rw,false,none,[]⟩:=by kernel_rfl
theorem UH:pv.fi 116=some ⟨Tryz.f116,4,.aW,false,none,[]⟩:=by kernel_rfl
theorem UG:pv.fi 119=some ⟨Tryz.f119,24,.aW,false,none,[]⟩:=by kernel_rfl
theorem My:pv.fi 123=some ⟨Tryz.f123,8,.rw,false,none,[]⟩:=by kernel_rfl
theorem UF:pv.fi 124=some ⟨Tryz.f124,68,.aW,false,none,[]⟩:=by kernel_rfl
theorem UE:pv.fi 125=some ⟨Tryz.f125,78,.aW,false,none,[]⟩:=by kernel_rfl
theorem UD:pv.fi 129=some ⟨Tryz.f129,4,.rw,false,none,[]⟩:=by kernel_rfl
theorem UC:pv.fi 130=some ⟨Tryz.f130,5,.rw,false,none,[]⟩:=by kernel_rfl
theorem UB:pv.fi 131=some ⟨Tryz.f131,27,.ro,false,none,[]⟩:=by kernel_rfl
theorem UA:pv.fi 132=some ⟨Tryz.f132,3,.ro,false,none,[]⟩:=by kernel_rfl
theorem Uz:pv.fi 133=some ⟨Tryz.f133,6,.rw,false,none,[]⟩:=by kernel_rfl
theorem Uy:pv.fi 138=some ⟨Tryz.f138,11,.ro,false,none,[]⟩:=by kernel_rfl
theorem Ux:pv.fi 139=some ⟨Tryz.f139,4,.rw,false,none,[]⟩:=by kernel_rfl
theorem Uw:pv.fi 143=some ⟨Tryz.f143,5,.rw,false,none,[]⟩:=by kernel_rfl
theorem Uv:pv.fi 144=some ⟨Tryz.f144,5,.rw,false,none,[]⟩:=by kernel_rfl
theorem Uu:pv.fi 145=some ⟨Tryz.f145,14,.ro,false,none,[]⟩:=by kernel_rfl
theorem Ut:pv.fi 146=some ⟨Tryz.f146,26,.ro,false,none,[]⟩:=by kernel_rfl
theorem Us:pv.fi 150=some ⟨Tryz.f150,4,.ro,false,none,[]⟩:=by kernel_rfl
theorem Ur:pv.fi 151=some ⟨Tryz.f151,26,.rw,false,none,[]⟩:=by kernel_rfl
theorem Uq:pv.fi 152=some ⟨Tryz.f152,14,.rw,false,none,[]⟩:=by kernel_rfl
theorem Up:pv.fi 153=some ⟨Tryz.f153,20,.ro,false,none,[]⟩:=by kernel_rfl
theorem Uo:pv.fi 166=some ⟨Tryz.f166,5,.rw,false,none,[]⟩:=by kernel_rfl
theorem Un:pv.fi 167=some ⟨Tryz.f167,7,.rw,false,none,[]⟩:=by kernel_rfl
theorem Um:pv.fi 168=some ⟨Tryz.f168,7,.rw,false,none,[]⟩:=by kernel_rfl
theorem Ul:pv.fi 169=some ⟨Tryz.f169,61,.rw,true,none,[]⟩:=by kernel_rfl
theorem Uk:pv.fi 170=some ⟨Tryz.f170,1,.ro,false,none,[]⟩:=by kernel_rfl
theorem Uj:pv.fi 171=some ⟨Tryz.f171,3,.ro,false,none,[]⟩:=by kernel_rfl
theorem Ui:pv.fi 173=some ⟨Tryz.f173,5,.ro,false,none,[]⟩:=by kernel_rfl
theorem Uh:pv.fi 174=some ⟨Tryz.f174,12,.ro,false,none,[]⟩:=by kernel_rfl
theorem Ug:pv.fi 181=some ⟨Tryz.f181,8,.rw,false,none,[]⟩:=by kernel_rfl
theorem Uf:pv.fi 182=some ⟨Tryz.f182,11,.ro,false,none,[]⟩:=by kernel_rfl
theorem Ue:pv.fi 183=some ⟨Tryz.f183,3,.ro,false,none,[]⟩:=by kernel_rfl
theorem Ud:pv.fi 197=some ⟨Tryz.f197,29,.rw,true,none,[]⟩:=by kernel_rfl
end Go.Proofs.YtbdnabmmlbiomaaGreat
