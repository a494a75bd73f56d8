/-
 The view with what was reckoned once laid over it. By program.
-/
import Derived.Test.YtecjacicdpejaaaGreatVView
import Derived.Test.YtecjacicdpejaaaGreatVM2
import Derived.Test.YtecjacicdpejaaaGreatVRzStateRuns
import Derived.Test.YtecjacicdpejaaaGreatVRzNone
import Derived.Test.YtecjacicdpejaaaGreatVDgp
import Derived.Test.YtecjacicdpejaaaGreatVSrp
set_option maxRecDepth 100000
namespace Go.Proofs.YtecjacicdpejaaaGreat
open Go.V
noncomputable def pv:Pv:=pZ.over [(17,vp (.bool true)),(193,vp (.agg [.int .i64 (-1),.int .i64 (-1),.int .i64 (-1),.int .i64 (-1),.int .i64 (-1),.int .i64 (-1),.int .i64 (-1),.int .i64 (-1),.int .i64 (-1),.int .i64 (-1)])),(149,vp (.agg [.int .i64 (-1),.int .i64 (-1),.int .i64 (-1),.int .i64 (-1),.int .i64 (-1),.int .i64 (-1),.int .i64 (-1),.int .i64 (-1),.int .i64 (-1),.int .i64 (-1)])),(271,JR),(251,IM)]
theorem view:pv.Ok Tryz.prog∧pv.l_∧lb Tryz.prog pv (gK pv):=by
 refine tN rp rfl fun q hq=>?_;simp only[List.mem_cons,List.not_mem_nil,or_false] at hq
 rcases hq with rfl|rfl|rfl|rfl|rfl
 ·exact Bk
 ·exact FL
 ·exact FM
 ·exact Qb (by kernel_rfl)
 ·exact Ox rp (by kernel_rfl)
theorem fi9:pv.fi 9=some ⟨Tryz.f9,18,.ro,false,none,[]⟩:=by kernel_rfl
theorem aca:pv.fi 14=some ⟨Tryz.f14,11,.ro,false,none,[]⟩:=by kernel_rfl
theorem ab9:pv.fi 15=some ⟨Tryz.f15,8,.ro,false,none,[]⟩:=by kernel_rfl
theorem ab8:pv.fi 16=some ⟨Tryz.f16,5,.ro,false,none,[]⟩:=by kernel_rfl
theorem ab6:pv.fi 19=some ⟨Tryz.f19,4,.ro,false,none,[]⟩:=by kernel_rfl
theorem ab4:pv.fi 21=some ⟨Tryz.f21,6,.ro,false,none,[]⟩:=by kernel_rfl
theorem W0:pv.fi 22=some ⟨Tryz.f22,5,.ro,false,none,[]⟩:=by kernel_rfl
theorem ab3:pv.fi 24=some ⟨Tryz.f24,5,.nw,false,none,[]⟩:=by kernel_rfl
theorem ab1:pv.fi 26=some ⟨Tryz.f26,5,.nw,false,none,[]⟩:=by kernel_rfl
theorem abY:pv.fi 29=some ⟨Tryz.f29,10,.ro,false,none,[]⟩:=by kernel_rfl
theorem abW:pv.fi 31=some ⟨Tryz.f31,5,.ro,false,none,[]⟩:=by kernel_rfl
theorem Ws:pv.fi 32=some ⟨Tryz.f32,7,.ro,false,none,[]⟩:=by kernel_rfl
theorem abV:pv.fi 33=some ⟨Tryz.f33,7,.ro,false,none,[]⟩:=by kernel_rfl
theorem abT:pv.fi 35=some ⟨Tryz.f35,3,.nw,false,none,[]⟩:=by kernel_rfl
theorem abR:pv.fi 37=some ⟨Tryz.f37,60,.rw,false,none,[]⟩:=by kernel_rfl
theorem abP:pv.fi 39=some ⟨Tryz.f39,4,.rw,false,none,[]⟩:=by kernel_rfl
theorem abM:pv.fi 42=some ⟨Tryz.f42,3,.rw,false,none,[]⟩:=by kernel_rfl
theorem abL:pv.fi 43=some ⟨Tryz.f43,6,.cw,false,none,[]⟩:=by kernel_rfl
theorem abK:pv.fi 44=some ⟨Tryz.f44,9,.cw,false,none,[]⟩:=by kernel_rfl
theorem abJ:pv.fi 45=some ⟨Tryz.f45,9,.cw,false,none,[]⟩:=by kernel_rfl
theorem abI:pv.fi 46=some ⟨Tryz.f46,3,.rw,false,none,[(1,[(4,8)])]⟩:=by kernel_rfl
theorem Wr:pv.fi 47=some ⟨Tryz.f47,6,.ro,false,none,[]⟩:=by kernel_rfl
theorem abH:pv.fi 48=some ⟨Tryz.f48,6,.rw,false,none,[]⟩:=by kernel_rfl
theorem abG:pv.fi 67=some ⟨Tryz.f67,3,.rw,false,none,[]⟩:=by kernel_rfl
theorem abF:pv.fi 68=some ⟨Tryz.f68,24,.ro,false,none,[]⟩:=by kernel_rfl
theorem abE:pv.fi 69=some ⟨Tryz.f69,18,.ro,false,none,[]⟩:=by kernel_rfl
theorem abD:pv.fi 70=some ⟨Tryz.f70,9,.ro,false,none,[]⟩:=by kernel_rfl
theorem abC:pv.fi 71=some ⟨Tryz.f71,22,.ro,false,none,[]⟩:=by kernel_rfl
theorem abB:pv.fi 72=some ⟨Tryz.f72,17,.nw,false,none,[]⟩:=by kernel_rfl
theorem abA:pv.fi 73=some ⟨Tryz.f73,9,.nw,false,none,[]⟩:=by kernel_rfl
theorem abz:pv.fi 74=some ⟨Tryz.f74,17,.nw,false,none,[]⟩:=by kernel_rfl
theorem aby:pv.fi 75=some ⟨Tryz.f75,5,.nw,false,none,[]⟩:=by kernel_rfl
theorem abx:pv.fi 76=some ⟨Tryz.f76,17,.nw,false,none,[]⟩:=by kernel_rfl
theorem abw:pv.fi 77=some ⟨Tryz.f77,5,.nw,false,none,[]⟩:=by kernel_rfl
theorem abt:pv.fi 81=some ⟨Tryz.f81,6,.ro,false,none,[]⟩:=by kernel_rfl
theorem abq:pv.fi 83=some ⟨Tryz.f83,17,.nw,false,none,[]⟩:=by kernel_rfl
theorem abp:pv.fi 84=some ⟨Tryz.f84,5,.nw,false,none,[]⟩:=by kernel_rfl
theorem abo:pv.fi 85=some ⟨Tryz.f85,9,.nw,false,none,[]⟩:=by kernel_rfl
theorem abn:pv.fi 86=some ⟨Tryz.f86,5,.ro,false,none,[]⟩:=by kernel_rfl
theorem abm:pv.fi 87=some ⟨Tryz.f87,17,.nw,false,none,[]⟩:=by kernel_rfl
theorem abl:pv.fi 88=some ⟨Tryz.f88,5,.nw,false,none,[]⟩:=by kernel_rfl
theorem abh:pv.fi 91=some ⟨Tryz.f91,49,.ro,false,none,[]⟩:=by kernel_rfl
theorem abe:pv.fi 94=some ⟨Tryz.f94,5,.ro,false,none,[]⟩:=by kernel_rfl
theorem Wq:pv.fi 95=some ⟨Tryz.f95,8,.cw,false,none,[]⟩:=by kernel_rfl
theorem abd:pv.fi 96=some ⟨Tryz.f96,33,.ro,false,none,[]⟩:=by kernel_rfl
theorem abc:pv.fi 97=some ⟨Tryz.f97,7,.rw,false,none,[]⟩:=by kernel_rfl
theorem abb:pv.fi 98=some ⟨Tryz.f98,8,.rw,false,none,[]⟩:=by kernel_rfl
theorem aba:pv.fi 99=some ⟨Tryz.f99,3,.rw,false,none,[]⟩:=by kernel_rfl
theorem X3:pv.fi 102=some ⟨Tryz.f102,6,.cw,false,none,[]⟩:=by kernel_rfl
theorem X2:pv.fi 103=some ⟨Tryz.f103,1,.cw,false,none,[]⟩:=by kernel_rfl
theorem X1:pv.fi 104=some ⟨Tryz.f104,8,.cw,false,none,[(6,[(3,6)])]⟩:=by kernel_rfl
theorem X0:pv.fi 105=some ⟨Tryz.f105,2,.cw,false,none,[(0,[(3,9)])]⟩:=by kernel_rfl
theorem XZ:pv.fi 106=some ⟨Tryz.f106,3,.rw,false,none,[]⟩:=by kernel_rfl
theorem XY:pv.fi 107=some ⟨Tryz.f107,3,.rw,false,none,[(1,[(3,8)])]⟩:=by kernel_rfl
theorem Q0:pv.fi 108=some ⟨Tryz.f108,6,.ro,false,none,[]⟩:=by kernel_rfl
theorem XX:pv.fi 109=some ⟨Tryz.f109,4,.cw,false,none,[(2,[(5,10)])]⟩:=by kernel_rfl
theorem XW:pv.fi 110=some ⟨Tryz.f110,9,.cw,false,none,[]⟩:=by kernel_rfl
theorem XV:pv.fi 111=some ⟨Tryz.f111,4,.rw,false,none,[]⟩:=by kernel_rfl
theorem XU:pv.fi 112=some ⟨Tryz.f112,13,.cw,false,none,[]⟩:=by kernel_rfl
theorem XS:pv.fi 132=some ⟨Tryz.f132,6,.ro,false,none,[]⟩:=by kernel_rfl
theorem XR:pv.fi 133=some ⟨Tryz.f133,4,.rw,false,none,[]⟩:=by kernel_rfl
theorem XQ:pv.fi 134=some ⟨Tryz.f134,7,.rw,false,none,[]⟩:=by kernel_rfl
theorem XP:pv.fi 135=some ⟨Tryz.f135,4,.ro,false,none,[]⟩:=by kernel_rfl
theorem XO:pv.fi 136=some ⟨Tryz.f136,36,.rw,false,none,[]⟩:=by kernel_rfl
theorem XN:pv.fi 137=some ⟨Tryz.f137,16,.rw,false,none,[]⟩:=by kernel_rfl
theorem XM:pv.fi 138=some ⟨Tryz.f138,5,.cw,false,none,[]⟩:=by kernel_rfl
theorem XL:pv.fi 139=some ⟨Tryz.f139,40,.cw,false,none,[]⟩:=by kernel_rfl
theorem XK:pv.fi 140=some ⟨Tryz.f140,6,.nw,false,none,[]⟩:=by kernel_rfl
theorem XH:pv.fi 143=some ⟨Tryz.f143,39,.ro,false,none,[]⟩:=by kernel_rfl
theorem XG:pv.fi 144=some ⟨Tryz.f144,5,.ro,false,none,[]⟩:=by kernel_rfl
theorem XF:pv.fi 145=some ⟨Tryz.f145,41,.ro,false,none,[]⟩:=by kernel_rfl
theorem XC:pv.fi 148=some ⟨Tryz.f148,9,.ro,false,none,[]⟩:=by kernel_rfl
theorem XB:pv.fi 150=some ⟨Tryz.f150,9,.ro,false,none,[]⟩:=by kernel_rfl
theorem XA:pv.fi 151=some ⟨Tryz.f151,55,.ro,false,none,[]⟩:=by kernel_rfl
theorem Xz:pv.fi 152=some ⟨Tryz.f152,7,.rw,false,none,[]⟩:=by kernel_rfl
theorem Xy:pv.fi 153=some ⟨Tryz.f153,11,.rw,false,none,[]⟩:=by kernel_rfl
theorem Xx:pv.fi 154=some ⟨Tryz.f154,4,.rw,false,none,[]⟩:=by kernel_rfl
theorem Xw:pv.fi 155=some ⟨Tryz.f155,5,.rw,false,none,[]⟩:=by kernel_rfl
theorem Xv:pv.fi 156=some ⟨Tryz.f156,6,.rw,false,none,[]⟩:=by kernel_rfl
theorem Xu:pv.fi 157=some ⟨Tryz.f157,11,.rw,false,none,[]⟩:=by kernel_rfl
theorem Xt:pv.fi 158=some ⟨Tryz.f158,4,.rw,false,none,[]⟩:=by kernel_rfl
theorem Xp:pv.fi 162=some ⟨Tryz.f162,6,.cw,false,none,[]⟩:=by kernel_rfl
theorem Xo:pv.fi 163=some ⟨Tryz.f163,11,.cw,false,none,[]⟩:=by kernel_rfl
theorem QZ:pv.fi 164=some ⟨Tryz.f164,9,.cw,false,none,[]⟩:=by kernel_rfl
theorem Xn:pv.fi 165=some ⟨Tryz.f165,9,.rw,false,none,[]⟩:=by kernel_rfl
theorem Xl:pv.fi 166=some ⟨Tryz.f166,4,.cw,false,none,[]⟩:=by kernel_rfl
theorem Xk:pv.fi 167=some ⟨Tryz.f167,13,.cw,false,none,[(3,[(3,8)])]⟩:=by kernel_rfl
theorem Xj:pv.fi 168=some ⟨Tryz.f168,37,.cw,false,none,[(10,[(4,5)])]⟩:=by kernel_rfl
theorem Xi:pv.fi 186=some ⟨Tryz.f186,4,.rw,false,none,[]⟩:=by kernel_rfl
theorem Xh:pv.fi 187=some ⟨Tryz.f187,5,.rw,false,none,[]⟩:=by kernel_rfl
theorem Xg:pv.fi 188=some ⟨Tryz.f188,27,.ro,false,none,[]⟩:=by kernel_rfl
theorem QY:pv.fi 189=some ⟨Tryz.f189,8,.rw,false,none,[]⟩:=by kernel_rfl
theorem Xf:pv.fi 190=some ⟨Tryz.f190,68,.cw,false,none,[]⟩:=by kernel_rfl
theorem Xe:pv.fi 191=some ⟨Tryz.f191,78,.cw,false,none,[]⟩:=by kernel_rfl
theorem Xb:pv.fi 195=some ⟨Tryz.f195,3,.ro,false,none,[]⟩:=by kernel_rfl
theorem W9:pv.fi 198=some ⟨Tryz.f198,5,.ro,false,none,[]⟩:=by kernel_rfl
theorem W8:pv.fi 199=some ⟨Tryz.f199,4,.cw,false,none,[]⟩:=by kernel_rfl
theorem W7:pv.fi 200=some ⟨Tryz.f200,14,.ro,false,none,[]⟩:=by kernel_rfl
theorem W6:pv.fi 201=some ⟨Tryz.f201,2,.rw,false,none,[]⟩:=by kernel_rfl
theorem W5:pv.fi 202=some ⟨Tryz.f202,25,.cw,false,none,[]⟩:=by kernel_rfl
theorem W4:pv.fi 203=some ⟨Tryz.f203,1,.cw,false,none,[]⟩:=by kernel_rfl
theorem W3:pv.fi 204=some ⟨Tryz.f204,33,.cw,false,none,[(8,[(9,12)])]⟩:=by kernel_rfl
theorem W2:pv.fi 219=some ⟨Tryz.f219,5,.rw,false,none,[]⟩:=by kernel_rfl
theorem WZ:pv.fi 220=some ⟨Tryz.f220,5,.rw,false,none,[]⟩:=by kernel_rfl
theorem WY:pv.fi 221=some ⟨Tryz.f221,11,.ro,false,none,[]⟩:=by kernel_rfl
theorem WX:pv.fi 222=some ⟨Tryz.f222,4,.rw,false,none,[]⟩:=by kernel_rfl
theorem WU:pv.fi 225=some ⟨Tryz.f225,14,.ro,false,none,[]⟩:=by kernel_rfl
theorem WT:pv.fi 226=some ⟨Tryz.f226,26,.ro,false,none,[]⟩:=by kernel_rfl
theorem WR:pv.fi 228=some ⟨Tryz.f228,10,.ro,false,none,[]⟩:=by kernel_rfl
theorem WQ:pv.fi 229=some ⟨Tryz.f229,7,.cw,false,none,[]⟩:=by kernel_rfl
theorem WN:pv.fi 247=some ⟨Tryz.f247,26,.rw,false,none,[]⟩:=by kernel_rfl
theorem WM:pv.fi 248=some ⟨Tryz.f248,14,.rw,false,none,[]⟩:=by kernel_rfl
theorem WL:pv.fi 249=some ⟨Tryz.f249,4,.ro,false,none,[]⟩:=by kernel_rfl
theorem WK:pv.fi 250=some ⟨Tryz.f250,20,.ro,false,none,[]⟩:=by kernel_rfl
theorem WG:pv.fi 256=some ⟨Tryz.f256,6,.rw,false,none,[]⟩:=by kernel_rfl
theorem WE:pv.fi 265=some ⟨Tryz.f265,5,.rw,false,none,[]⟩:=by kernel_rfl
theorem WD:pv.fi 266=some ⟨Tryz.f266,7,.rw,false,none,[]⟩:=by kernel_rfl
theorem WC:pv.fi 267=some ⟨Tryz.f267,7,.rw,false,none,[]⟩:=by kernel_rfl
theorem WB:pv.fi 268=some ⟨Tryz.f268,61,.rw,true,none,[]⟩:=by kernel_rfl
theorem WA:pv.fi 269=some ⟨Tryz.f269,1,.ro,false,none,[]⟩:=by kernel_rfl
theorem Wz:pv.fi 270=some ⟨Tryz.f270,3,.ro,false,none,[]⟩:=by kernel_rfl
theorem Wy:pv.fi 272=some ⟨Tryz.f272,5,.ro,false,none,[]⟩:=by kernel_rfl
theorem Wx:pv.fi 273=some ⟨Tryz.f273,12,.ro,false,none,[]⟩:=by kernel_rfl
theorem Ww:pv.fi 286=some ⟨Tryz.f286,8,.rw,false,none,[]⟩:=by kernel_rfl
theorem Wv:pv.fi 287=some ⟨Tryz.f287,11,.ro,false,none,[]⟩:=by kernel_rfl
theorem Wu:pv.fi 288=some ⟨Tryz.f288,3,.ro,false,none,[]⟩:=by kernel_rfl
theorem Wt:pv.fi 306=some ⟨Tryz.f306,29,.rw,true,none,[]⟩:=by kernel_rfl
end Go.Proofs.YtecjacicdpejaaaGreat
