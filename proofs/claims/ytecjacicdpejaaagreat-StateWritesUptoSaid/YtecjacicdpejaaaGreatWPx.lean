/-
 The view with what was reckoned once laid over it. By program.
-/
import Derived.Test.YtecjacicdpejaaaGreatWView
import Derived.Test.YtecjacicdpejaaaGreatWM2
import Derived.Test.YtecjacicdpejaaaGreatWRzStateRuns
import Derived.Test.YtecjacicdpejaaaGreatWRzNone
import Derived.Test.YtecjacicdpejaaaGreatWDgp
import Derived.Test.YtecjacicdpejaaaGreatWSrp
set_option maxRecDepth 100000
namespace Go.Proofs.YtecjacicdpejaaaGreat
open Go.V
noncomputable def pv:Pv:=pZ.over [(17,vp (.bool true)),(193,vp (.agg [.int .i64 (-1),.int .i64 (-1),.int .i64 (-1),.int .i64 (-1),.int .i64 (-1),.int .i64 (-1),.int .i64 (-1),.int .i64 (-1),.int .i64 (-1),.int .i64 (-1)])),(149,vp (.agg [.int .i64 (-1),.int .i64 (-1),.int .i64 (-1),.int .i64 (-1),.int .i64 (-1),.int .i64 (-1),.int .i64 (-1),.int .i64 (-1),.int .i64 (-1),.int .i64 (-1)])),(271,JR),(251,IM)]
theorem view:pv.Ok Tryz.prog∧pv.l_∧lb Tryz.prog pv (gK pv):=by
 refine tN rp rfl fun q hq=>?_;simp only[List.mem_cons,List.not_mem_nil,or_false] at hq
 rcases hq with rfl|rfl|rfl|rfl|rfl
 ·exact Bk
 ·exact FL
 ·exact FM
 ·exact Qb (by kernel_rfl)
 ·exact Ox rp (by kernel_rfl)
theorem fi3:pv.fi 3=some ⟨Tryz.f3,12,.ro,false,none,[]⟩:=by kernel_rfl
theorem aca:pv.fi 14=some ⟨Tryz.f14,11,.ro,false,none,[]⟩:=by kernel_rfl
theorem ab9:pv.fi 15=some ⟨Tryz.f15,8,.ro,false,none,[]⟩:=by kernel_rfl
theorem ab8:pv.fi 16=some ⟨Tryz.f16,5,.ro,false,none,[]⟩:=by kernel_rfl
theorem ab7:pv.fi 18=some ⟨Tryz.f18,7,.ro,false,none,[]⟩:=by kernel_rfl
theorem ab6:pv.fi 19=some ⟨Tryz.f19,4,.ro,false,none,[]⟩:=by kernel_rfl
theorem ab5:pv.fi 20=some ⟨Tryz.f20,4,.ro,false,none,[]⟩:=by kernel_rfl
theorem ab4:pv.fi 21=some ⟨Tryz.f21,6,.ro,false,none,[]⟩:=by kernel_rfl
theorem W0:pv.fi 22=some ⟨Tryz.f22,5,.ro,false,none,[]⟩:=by kernel_rfl
theorem WO:pv.fi 23=some ⟨Tryz.f23,5,.nw,false,none,[]⟩:=by kernel_rfl
theorem ab3:pv.fi 24=some ⟨Tryz.f24,5,.nw,false,none,[]⟩:=by kernel_rfl
theorem ab2:pv.fi 25=some ⟨Tryz.f25,5,.nw,false,none,[]⟩:=by kernel_rfl
theorem ab1:pv.fi 26=some ⟨Tryz.f26,5,.nw,false,none,[]⟩:=by kernel_rfl
theorem ab0:pv.fi 27=some ⟨Tryz.f27,7,.nw,false,none,[]⟩:=by kernel_rfl
theorem abZ:pv.fi 28=some ⟨Tryz.f28,8,.ro,false,none,[]⟩:=by kernel_rfl
theorem Ws:pv.fi 32=some ⟨Tryz.f32,7,.ro,false,none,[]⟩:=by kernel_rfl
theorem abU:pv.fi 34=some ⟨Tryz.f34,9,.nw,false,none,[]⟩:=by kernel_rfl
theorem abL:pv.fi 43=some ⟨Tryz.f43,6,.cw,false,none,[]⟩:=by kernel_rfl
theorem abJ:pv.fi 45=some ⟨Tryz.f45,9,.cw,false,none,[]⟩:=by kernel_rfl
theorem abI:pv.fi 46=some ⟨Tryz.f46,3,.rw,false,none,[(1,[(4,8)])]⟩:=by kernel_rfl
theorem abF:pv.fi 68=some ⟨Tryz.f68,24,.ro,false,none,[]⟩:=by kernel_rfl
theorem abE:pv.fi 69=some ⟨Tryz.f69,18,.ro,false,none,[]⟩:=by kernel_rfl
theorem abD:pv.fi 70=some ⟨Tryz.f70,9,.ro,false,none,[]⟩:=by kernel_rfl
theorem abC:pv.fi 71=some ⟨Tryz.f71,22,.ro,false,none,[]⟩:=by kernel_rfl
theorem abB:pv.fi 72=some ⟨Tryz.f72,17,.nw,false,none,[]⟩:=by kernel_rfl
theorem abA:pv.fi 73=some ⟨Tryz.f73,9,.nw,false,none,[]⟩:=by kernel_rfl
theorem abz:pv.fi 74=some ⟨Tryz.f74,17,.nw,false,none,[]⟩:=by kernel_rfl
theorem aby:pv.fi 75=some ⟨Tryz.f75,5,.nw,false,none,[]⟩:=by kernel_rfl
theorem abx:pv.fi 76=some ⟨Tryz.f76,17,.nw,false,none,[]⟩:=by kernel_rfl
theorem abw:pv.fi 77=some ⟨Tryz.f77,5,.nw,false,none,[]⟩:=by kernel_rfl
theorem abv:pv.fi 78=some ⟨Tryz.f78,8,.ro,false,none,[]⟩:=by kernel_rfl
theorem abu:pv.fi 79=some ⟨Tryz.f79,8,.ro,false,none,[]⟩:=by kernel_rfl
theorem Tc:pv.fi 80=some ⟨Tryz.f80,5,.ro,false,none,[]⟩:=by kernel_rfl
theorem abt:pv.fi 81=some ⟨Tryz.f81,6,.ro,false,none,[]⟩:=by kernel_rfl
theorem abr:pv.fi 82=some ⟨Tryz.f82,5,.ro,false,none,[]⟩:=by kernel_rfl
theorem abq:pv.fi 83=some ⟨Tryz.f83,17,.nw,false,none,[]⟩:=by kernel_rfl
theorem abp:pv.fi 84=some ⟨Tryz.f84,5,.nw,false,none,[]⟩:=by kernel_rfl
theorem abo:pv.fi 85=some ⟨Tryz.f85,9,.nw,false,none,[]⟩:=by kernel_rfl
theorem abn:pv.fi 86=some ⟨Tryz.f86,5,.ro,false,none,[]⟩:=by kernel_rfl
theorem abm:pv.fi 87=some ⟨Tryz.f87,17,.nw,false,none,[]⟩:=by kernel_rfl
theorem abl:pv.fi 88=some ⟨Tryz.f88,5,.nw,false,none,[]⟩:=by kernel_rfl
theorem abk:pv.fi 89=some ⟨Tryz.f89,7,.nw,false,none,[]⟩:=by kernel_rfl
theorem abj:pv.fi 90=some ⟨Tryz.f90,5,.ro,false,none,[]⟩:=by kernel_rfl
theorem abh:pv.fi 91=some ⟨Tryz.f91,49,.ro,false,none,[]⟩:=by kernel_rfl
theorem abg:pv.fi 92=some ⟨Tryz.f92,8,.ro,false,none,[]⟩:=by kernel_rfl
theorem Wq:pv.fi 95=some ⟨Tryz.f95,8,.cw,false,none,[]⟩:=by kernel_rfl
theorem abd:pv.fi 96=some ⟨Tryz.f96,33,.ro,false,none,[]⟩:=by kernel_rfl
theorem X3:pv.fi 102=some ⟨Tryz.f102,6,.cw,false,none,[]⟩:=by kernel_rfl
theorem X2:pv.fi 103=some ⟨Tryz.f103,1,.cw,false,none,[]⟩:=by kernel_rfl
theorem X0:pv.fi 105=some ⟨Tryz.f105,2,.cw,false,none,[(0,[(3,9)])]⟩:=by kernel_rfl
theorem XZ:pv.fi 106=some ⟨Tryz.f106,3,.rw,false,none,[]⟩:=by kernel_rfl
theorem XY:pv.fi 107=some ⟨Tryz.f107,3,.rw,false,none,[(1,[(3,8)])]⟩:=by kernel_rfl
theorem XW:pv.fi 110=some ⟨Tryz.f110,9,.cw,false,none,[]⟩:=by kernel_rfl
theorem XS:pv.fi 132=some ⟨Tryz.f132,6,.ro,false,none,[]⟩:=by kernel_rfl
theorem XR:pv.fi 133=some ⟨Tryz.f133,4,.rw,false,none,[]⟩:=by kernel_rfl
theorem XQ:pv.fi 134=some ⟨Tryz.f134,7,.rw,false,none,[]⟩:=by kernel_rfl
theorem XP:pv.fi 135=some ⟨Tryz.f135,4,.ro,false,none,[]⟩:=by kernel_rfl
theorem XO:pv.fi 136=some ⟨Tryz.f136,36,.rw,false,none,[]⟩:=by kernel_rfl
theorem XN:pv.fi 137=some ⟨Tryz.f137,16,.rw,false,none,[]⟩:=by kernel_rfl
theorem XM:pv.fi 138=some ⟨Tryz.f138,5,.cw,false,none,[]⟩:=by kernel_rfl
theorem XL:pv.fi 139=some ⟨Tryz.f139,40,.cw,false,none,[]⟩:=by kernel_rfl
theorem XK:pv.fi 140=some ⟨Tryz.f140,6,.nw,false,none,[]⟩:=by kernel_rfl
theorem XJ:pv.fi 141=some ⟨Tryz.f141,11,.ro,false,none,[]⟩:=by kernel_rfl
theorem XI:pv.fi 142=some ⟨Tryz.f142,5,.ro,false,none,[]⟩:=by kernel_rfl
theorem XH:pv.fi 143=some ⟨Tryz.f143,39,.ro,false,none,[]⟩:=by kernel_rfl
theorem XG:pv.fi 144=some ⟨Tryz.f144,5,.ro,false,none,[]⟩:=by kernel_rfl
theorem XF:pv.fi 145=some ⟨Tryz.f145,41,.ro,false,none,[]⟩:=by kernel_rfl
theorem XE:pv.fi 146=some ⟨Tryz.f146,22,.ro,false,none,[(13,[(3,5)])]⟩:=by kernel_rfl
theorem XD:pv.fi 147=some ⟨Tryz.f147,8,.ro,false,none,[]⟩:=by kernel_rfl
theorem XC:pv.fi 148=some ⟨Tryz.f148,9,.ro,false,none,[]⟩:=by kernel_rfl
theorem XB:pv.fi 150=some ⟨Tryz.f150,9,.ro,false,none,[]⟩:=by kernel_rfl
theorem XA:pv.fi 151=some ⟨Tryz.f151,55,.ro,false,none,[]⟩:=by kernel_rfl
theorem Xp:pv.fi 162=some ⟨Tryz.f162,6,.cw,false,none,[]⟩:=by kernel_rfl
theorem Xo:pv.fi 163=some ⟨Tryz.f163,11,.cw,false,none,[]⟩:=by kernel_rfl
theorem QZ:pv.fi 164=some ⟨Tryz.f164,9,.cw,false,none,[]⟩:=by kernel_rfl
theorem Xn:pv.fi 165=some ⟨Tryz.f165,9,.rw,false,none,[]⟩:=by kernel_rfl
theorem Xk:pv.fi 167=some ⟨Tryz.f167,13,.cw,false,none,[(3,[(3,8)])]⟩:=by kernel_rfl
theorem Xj:pv.fi 168=some ⟨Tryz.f168,37,.cw,false,none,[(10,[(4,5)])]⟩:=by kernel_rfl
theorem Xi:pv.fi 186=some ⟨Tryz.f186,4,.rw,false,none,[]⟩:=by kernel_rfl
theorem Xh:pv.fi 187=some ⟨Tryz.f187,5,.rw,false,none,[]⟩:=by kernel_rfl
theorem Xg:pv.fi 188=some ⟨Tryz.f188,27,.ro,false,none,[]⟩:=by kernel_rfl
theorem QY:pv.fi 189=some ⟨Tryz.f189,8,.rw,false,none,[]⟩:=by kernel_rfl
theorem Xf:pv.fi 190=some ⟨Tryz.f190,68,.cw,false,none,[]⟩:=by kernel_rfl
theorem Xe:pv.fi 191=some ⟨Tryz.f191,78,.cw,false,none,[]⟩:=by kernel_rfl
theorem Xd:pv.fi 192=some ⟨Tryz.f192,6,.ro,false,none,[]⟩:=by kernel_rfl
theorem Xc:pv.fi 194=some ⟨Tryz.f194,6,.ro,false,none,[]⟩:=by kernel_rfl
theorem Xb:pv.fi 195=some ⟨Tryz.f195,3,.ro,false,none,[]⟩:=by kernel_rfl
theorem Xa:pv.fi 196=some ⟨Tryz.f196,5,.ro,false,none,[]⟩:=by kernel_rfl
theorem W_:pv.fi 197=some ⟨Tryz.f197,13,.ro,false,none,[]⟩:=by kernel_rfl
theorem W9:pv.fi 198=some ⟨Tryz.f198,5,.ro,false,none,[]⟩:=by kernel_rfl
theorem W8:pv.fi 199=some ⟨Tryz.f199,4,.cw,false,none,[]⟩:=by kernel_rfl
theorem W7:pv.fi 200=some ⟨Tryz.f200,14,.ro,false,none,[]⟩:=by kernel_rfl
theorem W6:pv.fi 201=some ⟨Tryz.f201,2,.rw,false,none,[]⟩:=by kernel_rfl
theorem W5:pv.fi 202=some ⟨Tryz.f202,25,.cw,false,none,[]⟩:=by kernel_rfl
theorem W4:pv.fi 203=some ⟨Tryz.f203,1,.cw,false,none,[]⟩:=by kernel_rfl
theorem W3:pv.fi 204=some ⟨Tryz.f204,33,.cw,false,none,[(8,[(9,12)])]⟩:=by kernel_rfl
theorem W2:pv.fi 219=some ⟨Tryz.f219,5,.rw,false,none,[]⟩:=by kernel_rfl
theorem WZ:pv.fi 220=some ⟨Tryz.f220,5,.rw,false,none,[]⟩:=by kernel_rfl
theorem WY:pv.fi 221=some ⟨Tryz.f221,11,.ro,false,none,[]⟩:=by kernel_rfl
theorem WX:pv.fi 222=some ⟨Tryz.f222,4,.rw,false,none,[]⟩:=by kernel_rfl
theorem WW:pv.fi 223=some ⟨Tryz.f223,3,.ro,false,none,[]⟩:=by kernel_rfl
theorem WV:pv.fi 224=some ⟨Tryz.f224,6,.ro,false,none,[]⟩:=by kernel_rfl
theorem WU:pv.fi 225=some ⟨Tryz.f225,14,.ro,false,none,[]⟩:=by kernel_rfl
theorem WT:pv.fi 226=some ⟨Tryz.f226,26,.ro,false,none,[]⟩:=by kernel_rfl
theorem WS:pv.fi 227=some ⟨Tryz.f227,6,.ro,false,none,[]⟩:=by kernel_rfl
theorem WR:pv.fi 228=some ⟨Tryz.f228,10,.ro,false,none,[]⟩:=by kernel_rfl
theorem WQ:pv.fi 229=some ⟨Tryz.f229,7,.cw,false,none,[]⟩:=by kernel_rfl
theorem WN:pv.fi 247=some ⟨Tryz.f247,26,.rw,false,none,[]⟩:=by kernel_rfl
theorem WM:pv.fi 248=some ⟨Tryz.f248,14,.rw,false,none,[]⟩:=by kernel_rfl
theorem WL:pv.fi 249=some ⟨Tryz.f249,4,.ro,false,none,[]⟩:=by kernel_rfl
theorem WK:pv.fi 250=some ⟨Tryz.f250,20,.ro,false,none,[]⟩:=by kernel_rfl
theorem WJ:pv.fi 253=some ⟨Tryz.f253,7,.ro,false,none,[]⟩:=by kernel_rfl
theorem WI:pv.fi 254=some ⟨Tryz.f254,6,.ro,false,none,[]⟩:=by kernel_rfl
theorem WH:pv.fi 255=some ⟨Tryz.f255,7,.cw,false,none,[]⟩:=by kernel_rfl
theorem WG:pv.fi 256=some ⟨Tryz.f256,6,.rw,false,none,[]⟩:=by kernel_rfl
theorem WE:pv.fi 265=some ⟨Tryz.f265,5,.rw,false,none,[]⟩:=by kernel_rfl
theorem WD:pv.fi 266=some ⟨Tryz.f266,7,.rw,false,none,[]⟩:=by kernel_rfl
theorem WC:pv.fi 267=some ⟨Tryz.f267,7,.rw,false,none,[]⟩:=by kernel_rfl
theorem WB:pv.fi 268=some ⟨Tryz.f268,61,.rw,true,none,[]⟩:=by kernel_rfl
theorem WA:pv.fi 269=some ⟨Tryz.f269,1,.ro,false,none,[]⟩:=by kernel_rfl
theorem Wz:pv.fi 270=some ⟨Tryz.f270,3,.ro,false,none,[]⟩:=by kernel_rfl
theorem Wy:pv.fi 272=some ⟨Tryz.f272,5,.ro,false,none,[]⟩:=by kernel_rfl
theorem Wx:pv.fi 273=some ⟨Tryz.f273,12,.ro,false,none,[]⟩:=by kernel_rfl
theorem Ww:pv.fi 286=some ⟨Tryz.f286,8,.rw,false,none,[]⟩:=by kernel_rfl
theorem Wv:pv.fi 287=some ⟨Tryz.f287,11,.ro,false,none,[]⟩:=by kernel_rfl
theorem Wu:pv.fi 288=some ⟨Tryz.f288,3,.ro,false,none,[]⟩:=by kernel_rfl
theorem Wt:pv.fi 306=some ⟨Tryz.f306,29,.rw,true,none,[]⟩:=by kernel_rfl
end Go.Proofs.YtecjacicdpejaaaGreat
