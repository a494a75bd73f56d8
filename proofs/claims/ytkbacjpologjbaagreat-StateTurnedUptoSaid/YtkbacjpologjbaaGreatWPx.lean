/-
 The view with what was reckoned once laid over it. By program.
-/
import Derived.Test.YtkbacjpologjbaaGreatWView
import Derived.Test.YtkbacjpologjbaaGreatWM2
import Derived.Test.YtkbacjpologjbaaGreatWRzStateRuns
import Derived.Test.YtkbacjpologjbaaGreatWRzNone
import Derived.Test.YtkbacjpologjbaaGreatWDgp
import Derived.Test.YtkbacjpologjbaaGreatWSrp
set_option maxRecDepth 100000
namespace Go.Proofs.YtkbacjpologjbaaGreat
open Go.V
noncomputable def pv:Pv:=nQ.over [(7,sU (.bool true)),(95,sU (.agg [.int .i64 (-1),.int .i64 (-1),.int .i64 (-1),.int .i64 (-1),.int .i64 (-1),.int .i64 (-1),.int .i64 (-1),.int .i64 (-1),.int .i64 (-1),.int .i64 (-1)])),(107,sU (.agg [.int .i64 (-1),.int .i64 (-1),.int .i64 (-1),.int .i64 (-1),.int .i64 (-1),.int .i64 (-1),.int .i64 (-1),.int .i64 (-1),.int .i64 (-1),.int .i64 (-1)])),(153,Gu),(142,Fy)]
theorem view:pv.Ok Tryz.prog∧pv.ka∧ju Tryz.prog pv (fv pv):=by
 refine q_ ov rfl fun q hq=>?_;simp only[List.mem_cons,List.not_mem_nil,or_false] at hq
 rcases hq with rfl|rfl|rfl|rfl|rfl
 ·exact yq
 ·exact FY
 ·exact CI
 ·exact Mp (by kernel_rfl)
 ·exact KM ov (by kernel_rfl)
theorem fi3:pv.fi 3=some ⟨Tryz.f3,54,.ro,false,none,[]⟩:=by kernel_rfl
theorem fi4:pv.fi 4=some ⟨Tryz.f4,11,.ro,false,none,[]⟩:=by kernel_rfl
theorem fi5:pv.fi 5=some ⟨Tryz.f5,8,.ro,false,none,[]⟩:=by kernel_rfl
theorem fi6:pv.fi 6=some ⟨Tryz.f6,5,.ro,false,none,[]⟩:=by kernel_rfl
theorem fi8:pv.fi 8=some ⟨Tryz.f8,5,.nw,false,none,[]⟩:=by kernel_rfl
theorem fi9:pv.fi 9=some ⟨Tryz.f9,7,.ro,false,none,[]⟩:=by kernel_rfl
theorem X0:pv.fi 10=some ⟨Tryz.f10,10,.ro,false,none,[]⟩:=by kernel_rfl
theorem XZ:pv.fi 11=some ⟨Tryz.f11,10,.ro,false,none,[(6,[(4,5)])]⟩:=by kernel_rfl
theorem XY:pv.fi 12=some ⟨Tryz.f12,5,.ro,false,none,[]⟩:=by kernel_rfl
theorem XX:pv.fi 13=some ⟨Tryz.f13,24,.ro,false,none,[]⟩:=by kernel_rfl
theorem XW:pv.fi 14=some ⟨Tryz.f14,18,.ro,false,none,[]⟩:=by kernel_rfl
theorem XV:pv.fi 15=some ⟨Tryz.f15,6,.cw,false,none,[]⟩:=by kernel_rfl
theorem XU:pv.fi 16=some ⟨Tryz.f16,9,.cw,false,none,[]⟩:=by kernel_rfl
theorem XT:pv.fi 17=some ⟨Tryz.f17,3,.rw,false,none,[(1,[(4,8)])]⟩:=by kernel_rfl
theorem XS:pv.fi 19=some ⟨Tryz.f19,4,.ro,false,none,[]⟩:=by kernel_rfl
theorem XR:pv.fi 20=some ⟨Tryz.f20,9,.ro,false,none,[]⟩:=by kernel_rfl
theorem XQ:pv.fi 21=some ⟨Tryz.f21,22,.ro,false,none,[]⟩:=by kernel_rfl
theorem O':pv.fi 22=some ⟨Tryz.f22,5,.ro,false,none,[]⟩:=by kernel_rfl
theorem XP:pv.fi 23=some ⟨Tryz.f23,5,.nw,false,none,[]⟩:=by kernel_rfl
theorem XO:pv.fi 24=some ⟨Tryz.f24,9,.nw,false,none,[]⟩:=by kernel_rfl
theorem XN:pv.fi 25=some ⟨Tryz.f25,4,.ro,false,none,[]⟩:=by kernel_rfl
theorem XM:pv.fi 26=some ⟨Tryz.f26,49,.ro,false,none,[]⟩:=by kernel_rfl
theorem XL:pv.fi 27=some ⟨Tryz.f27,3,.nw,false,none,[]⟩:=by kernel_rfl
theorem XK:pv.fi 28=some ⟨Tryz.f28,60,.rw,false,none,[]⟩:=by kernel_rfl
theorem XJ:pv.fi 29=some ⟨Tryz.f29,3,.rw,false,none,[]⟩:=by kernel_rfl
theorem XI:pv.fi 30=some ⟨Tryz.f30,4,.rw,false,none,[]⟩:=by kernel_rfl
theorem XH:pv.fi 31=some ⟨Tryz.f31,3,.rw,false,none,[]⟩:=by kernel_rfl
theorem Sh:pv.fi 32=some ⟨Tryz.f32,7,.ro,false,none,[]⟩:=by kernel_rfl
theorem XG:pv.fi 33=some ⟨Tryz.f33,8,.ro,false,none,[]⟩:=by kernel_rfl
theorem XF:pv.fi 34=some ⟨Tryz.f34,3,.nw,false,none,[]⟩:=by kernel_rfl
theorem XE:pv.fi 35=some ⟨Tryz.f35,6,.rw,false,none,[]⟩:=by kernel_rfl
theorem XD:pv.fi 36=some ⟨Tryz.f36,4,.rw,false,none,[]⟩:=by kernel_rfl
theorem XC:pv.fi 37=some ⟨Tryz.f37,3,.rw,false,none,[]⟩:=by kernel_rfl
theorem XB:pv.fi 38=some ⟨Tryz.f38,6,.ro,false,none,[]⟩:=by kernel_rfl
theorem XA:pv.fi 39=some ⟨Tryz.f39,5,.ro,false,none,[]⟩:=by kernel_rfl
theorem Xz:pv.fi 40=some ⟨Tryz.f40,6,.ro,false,none,[]⟩:=by kernel_rfl
theorem Xy:pv.fi 41=some ⟨Tryz.f41,4,.rw,false,none,[]⟩:=by kernel_rfl
theorem Xx:pv.fi 42=some ⟨Tryz.f42,7,.rw,false,none,[]⟩:=by kernel_rfl
theorem Xw:pv.fi 43=some ⟨Tryz.f43,4,.ro,false,none,[]⟩:=by kernel_rfl
theorem Xv:pv.fi 44=some ⟨Tryz.f44,36,.rw,false,none,[]⟩:=by kernel_rfl
theorem Xu:pv.fi 45=some ⟨Tryz.f45,16,.rw,false,none,[]⟩:=by kernel_rfl
theorem Xt:pv.fi 46=some ⟨Tryz.f46,5,.cw,false,none,[]⟩:=by kernel_rfl
theorem Xs:pv.fi 47=some ⟨Tryz.f47,40,.cw,false,none,[]⟩:=by kernel_rfl
theorem Xr:pv.fi 48=some ⟨Tryz.f48,6,.cw,false,none,[]⟩:=by kernel_rfl
theorem Xq:pv.fi 49=some ⟨Tryz.f49,1,.cw,false,none,[]⟩:=by kernel_rfl
theorem Xp:pv.fi 50=some ⟨Tryz.f50,2,.cw,false,none,[(0,[(3,9)])]⟩:=by kernel_rfl
theorem Xo:pv.fi 51=some ⟨Tryz.f51,3,.rw,false,none,[]⟩:=by kernel_rfl
theorem Xn:pv.fi 52=some ⟨Tryz.f52,3,.rw,false,none,[(1,[(3,8)])]⟩:=by kernel_rfl
theorem Xl:pv.fi 54=some ⟨Tryz.f54,9,.nw,false,none,[]⟩:=by kernel_rfl
theorem Xk:pv.fi 55=some ⟨Tryz.f55,17,.nw,false,none,[]⟩:=by kernel_rfl
theorem Xj:pv.fi 56=some ⟨Tryz.f56,17,.nw,false,none,[]⟩:=by kernel_rfl
theorem Xi:pv.fi 57=some ⟨Tryz.f57,5,.nw,false,none,[]⟩:=by kernel_rfl
theorem Xh:pv.fi 58=some ⟨Tryz.f58,17,.nw,false,none,[]⟩:=by kernel_rfl
theorem Xg:pv.fi 59=some ⟨Tryz.f59,5,.nw,false,none,[]⟩:=by kernel_rfl
theorem Xf:pv.fi 60=some ⟨Tryz.f60,11,.ro,false,none,[]⟩:=by kernel_rfl
theorem Xe:pv.fi 61=some ⟨Tryz.f61,5,.ro,false,none,[]⟩:=by kernel_rfl
theorem Xd:pv.fi 62=some ⟨Tryz.f62,7,.nw,false,none,[]⟩:=by kernel_rfl
theorem Xc:pv.fi 63=some ⟨Tryz.f63,5,.ro,false,none,[]⟩:=by kernel_rfl
theorem Xb:pv.fi 64=some ⟨Tryz.f64,8,.ro,false,none,[]⟩:=by kernel_rfl
theorem Xa:pv.fi 65=some ⟨Tryz.f65,8,.ro,false,none,[]⟩:=by kernel_rfl
theorem W_:pv.fi 66=some ⟨Tryz.f66,39,.ro,false,none,[]⟩:=by kernel_rfl
theorem W9:pv.fi 67=some ⟨Tryz.f67,5,.ro,false,none,[]⟩:=by kernel_rfl
theorem W8:pv.fi 68=some ⟨Tryz.f68,41,.ro,false,none,[]⟩:=by kernel_rfl
theorem W7:pv.fi 69=some ⟨Tryz.f69,7,.rw,false,none,[]⟩:=by kernel_rfl
theorem W6:pv.fi 70=some ⟨Tryz.f70,8,.rw,false,none,[]⟩:=by kernel_rfl
theorem W5:pv.fi 71=some ⟨Tryz.f71,3,.rw,false,none,[]⟩:=by kernel_rfl
theorem Sg:pv.fi 72=some ⟨Tryz.f72,8,.cw,false,none,[]⟩:=by kernel_rfl
theorem W4:pv.fi 73=some ⟨Tryz.f73,33,.ro,false,none,[]⟩:=by kernel_rfl
theorem W3:pv.fi 74=some ⟨Tryz.f74,22,.ro,false,none,[(13,[(3,5)])]⟩:=by kernel_rfl
theorem W2:pv.fi 75=some ⟨Tryz.f75,8,.ro,false,none,[]⟩:=by kernel_rfl
theorem W0:pv.fi 76=some ⟨Tryz.f76,8,.rw,false,none,[]⟩:=by kernel_rfl
theorem WZ:pv.fi 77=some ⟨Tryz.f77,10,.rw,false,none,[]⟩:=by kernel_rfl
theorem WY:pv.fi 78=some ⟨Tryz.f78,6,.ro,false,none,[]⟩:=by kernel_rfl
theorem WX:pv.fi 79=some ⟨Tryz.f79,9,.ro,false,none,[]⟩:=by kernel_rfl
theorem WW:pv.fi 80=some ⟨Tryz.f80,4,.rw,false,none,[]⟩:=by kernel_rfl
theorem WV:pv.fi 81=some ⟨Tryz.f81,5,.rw,false,none,[]⟩:=by kernel_rfl
theorem WU:pv.fi 82=some ⟨Tryz.f82,27,.ro,false,none,[]⟩:=by kernel_rfl
theorem Sf:pv.fi 83=some ⟨Tryz.f83,8,.rw,false,none,[]⟩:=by kernel_rfl
theorem WT:pv.fi 84=some ⟨Tryz.f84,68,.cw,false,none,[]⟩:=by kernel_rfl
theorem WS:pv.fi 85=some ⟨Tryz.f85,78,.cw,false,none,[]⟩:=by kernel_rfl
theorem WR:pv.fi 86=some ⟨Tryz.f86,6,.cw,false,none,[]⟩:=by kernel_rfl
theorem WQ:pv.fi 87=some ⟨Tryz.f87,11,.cw,false,none,[]⟩:=by kernel_rfl
theorem WO:pv.fi 88=some ⟨Tryz.f88,9,.cw,false,none,[]⟩:=by kernel_rfl
theorem WN:pv.fi 89=some ⟨Tryz.f89,9,.rw,false,none,[]⟩:=by kernel_rfl
theorem WM:pv.fi 90=some ⟨Tryz.f90,9,.cw,false,none,[]⟩:=by kernel_rfl
theorem WL:pv.fi 93=some ⟨Tryz.f93,6,.nw,false,none,[]⟩:=by kernel_rfl
theorem WK:pv.fi 94=some ⟨Tryz.f94,6,.ro,false,none,[]⟩:=by kernel_rfl
theorem WJ:pv.fi 96=some ⟨Tryz.f96,6,.ro,false,none,[]⟩:=by kernel_rfl
theorem WI:pv.fi 97=some ⟨Tryz.f97,7,.nw,false,none,[]⟩:=by kernel_rfl
theorem WH:pv.fi 98=some ⟨Tryz.f98,5,.ro,false,none,[]⟩:=by kernel_rfl
theorem WG:pv.fi 99=some ⟨Tryz.f99,3,.ro,false,none,[]⟩:=by kernel_rfl
theorem Th:pv.fi 100=some ⟨Tryz.f100,7,.rw,false,none,[]⟩:=by kernel_rfl
theorem Tf:pv.fi 101=some ⟨Tryz.f101,11,.rw,false,none,[]⟩:=by kernel_rfl
theorem Te:pv.fi 102=some ⟨Tryz.f102,4,.rw,false,none,[]⟩:=by kernel_rfl
theorem Td:pv.fi 103=some ⟨Tryz.f103,5,.rw,false,none,[]⟩:=by kernel_rfl
theorem Tc:pv.fi 104=some ⟨Tryz.f104,6,.rw,false,none,[]⟩:=by kernel_rfl
theorem Tb:pv.fi 105=some ⟨Tryz.f105,11,.rw,false,none,[]⟩:=by kernel_rfl
theorem Ta:pv.fi 106=some ⟨Tryz.f106,4,.rw,false,none,[]⟩:=by kernel_rfl
theorem S':pv.fi 108=some ⟨Tryz.f108,9,.ro,false,none,[]⟩:=by kernel_rfl
theorem S_:pv.fi 109=some ⟨Tryz.f109,55,.ro,false,none,[]⟩:=by kernel_rfl
theorem S9:pv.fi 110=some ⟨Tryz.f110,5,.ro,false,none,[]⟩:=by kernel_rfl
theorem S8:pv.fi 111=some ⟨Tryz.f111,13,.ro,false,none,[]⟩:=by kernel_rfl
theorem S7:pv.fi 112=some ⟨Tryz.f112,7,.rw,false,none,[]⟩:=by kernel_rfl
theorem S6:pv.fi 113=some ⟨Tryz.f113,7,.rw,false,none,[]⟩:=by kernel_rfl
theorem S5:pv.fi 114=some ⟨Tryz.f114,5,.rw,false,none,[]⟩:=by kernel_rfl
theorem S4:pv.fi 115=some ⟨Tryz.f115,5,.rw,false,none,[]⟩:=by kernel_rfl
theorem S3:pv.fi 116=some ⟨Tryz.f116,6,.ro,false,none,[]⟩:=by kernel_rfl
theorem S0:pv.fi 117=some ⟨Tryz.f117,5,.ro,false,none,[]⟩:=by kernel_rfl
theorem SZ:pv.fi 118=some ⟨Tryz.f118,5,.rw,false,none,[]⟩:=by kernel_rfl
theorem SY:pv.fi 119=some ⟨Tryz.f119,5,.rw,false,none,[]⟩:=by kernel_rfl
theorem SX:pv.fi 120=some ⟨Tryz.f120,11,.ro,false,none,[]⟩:=by kernel_rfl
theorem SV:pv.fi 121=some ⟨Tryz.f121,4,.rw,false,none,[]⟩:=by kernel_rfl
theorem SU:pv.fi 122=some ⟨Tryz.f122,4,.cw,false,none,[]⟩:=by kernel_rfl
theorem SS:pv.fi 123=some ⟨Tryz.f123,14,.ro,false,none,[]⟩:=by kernel_rfl
theorem SR:pv.fi 124=some ⟨Tryz.f124,13,.cw,false,none,[(3,[(3,8)])]⟩:=by kernel_rfl
theorem SQ:pv.fi 125=some ⟨Tryz.f125,2,.rw,false,none,[]⟩:=by kernel_rfl
theorem SP:pv.fi 132=some ⟨Tryz.f132,3,.ro,false,none,[]⟩:=by kernel_rfl
theorem SO:pv.fi 133=some ⟨Tryz.f133,6,.ro,false,none,[]⟩:=by kernel_rfl
theorem SN:pv.fi 134=some ⟨Tryz.f134,14,.ro,false,none,[]⟩:=by kernel_rfl
theorem SM:pv.fi 135=some ⟨Tryz.f135,26,.ro,false,none,[]⟩:=by kernel_rfl
theorem SL:pv.fi 136=some ⟨Tryz.f136,6,.ro,false,none,[]⟩:=by kernel_rfl
theorem SK:pv.fi 137=some ⟨Tryz.f137,26,.rw,false,none,[]⟩:=by kernel_rfl
theorem SJ:pv.fi 138=some ⟨Tryz.f138,14,.rw,false,none,[]⟩:=by kernel_rfl
theorem SI:pv.fi 139=some ⟨Tryz.f139,4,.ro,false,none,[]⟩:=by kernel_rfl
theorem SG:pv.fi 140=some ⟨Tryz.f140,25,.cw,false,none,[]⟩:=by kernel_rfl
theorem SF:pv.fi 141=some ⟨Tryz.f141,20,.ro,false,none,[]⟩:=by kernel_rfl
theorem SE:pv.fi 144=some ⟨Tryz.f144,7,.ro,false,none,[]⟩:=by kernel_rfl
theorem SD:pv.fi 145=some ⟨Tryz.f145,6,.ro,false,none,[]⟩:=by kernel_rfl
theorem SC:pv.fi 146=some ⟨Tryz.f146,7,.cw,false,none,[]⟩:=by kernel_rfl
theorem SB:pv.fi 147=some ⟨Tryz.f147,5,.rw,false,none,[]⟩:=by kernel_rfl
theorem SA:pv.fi 148=some ⟨Tryz.f148,7,.rw,false,none,[]⟩:=by kernel_rfl
theorem Sz:pv.fi 149=some ⟨Tryz.f149,7,.rw,false,none,[]⟩:=by kernel_rfl
theorem Sy:pv.fi 150=some ⟨Tryz.f150,61,.rw,true,none,[]⟩:=by kernel_rfl
theorem Sx:pv.fi 151=some ⟨Tryz.f151,1,.ro,false,none,[]⟩:=by kernel_rfl
theorem Sw:pv.fi 152=some ⟨Tryz.f152,3,.ro,false,none,[]⟩:=by kernel_rfl
theorem Sv:pv.fi 154=some ⟨Tryz.f154,5,.ro,false,none,[]⟩:=by kernel_rfl
theorem Su:pv.fi 155=some ⟨Tryz.f155,12,.ro,false,none,[]⟩:=by kernel_rfl
theorem Ss:pv.fi 156=some ⟨Tryz.f156,37,.cw,false,none,[(10,[(4,5)])]⟩:=by kernel_rfl
theorem Sr:pv.fi 157=some ⟨Tryz.f157,1,.cw,false,none,[]⟩:=by kernel_rfl
theorem Sq:pv.fi 158=some ⟨Tryz.f158,10,.ro,false,none,[]⟩:=by kernel_rfl
theorem Sp:pv.fi 159=some ⟨Tryz.f159,7,.cw,false,none,[]⟩:=by kernel_rfl
theorem Sn:pv.fi 162=some ⟨Tryz.f162,8,.rw,false,none,[]⟩:=by kernel_rfl
theorem Sm:pv.fi 163=some ⟨Tryz.f163,11,.ro,false,none,[]⟩:=by kernel_rfl
theorem Sl:pv.fi 164=some ⟨Tryz.f164,3,.ro,false,none,[]⟩:=by kernel_rfl
theorem Sk:pv.fi 168=some ⟨Tryz.f168,33,.cw,false,none,[(8,[(9,12)])]⟩:=by kernel_rfl
theorem Sj:pv.fi 169=some ⟨Tryz.f169,6,.rw,false,none,[]⟩:=by kernel_rfl
theorem Si:pv.fi 180=some ⟨Tryz.f180,29,.rw,true,none,[]⟩:=by kernel_rfl
end Go.Proofs.YtkbacjpologjbaaGreat
