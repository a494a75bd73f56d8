/-
 The view with what was reckoned once laid over it. By program.
-/
import Derived.Test.YtnleclohocdkaaaGreatSView
import Derived.Test.YtnleclohocdkaaaGreatSM2
import Derived.Test.YtnleclohocdkaaaGreatSRzScanRuns
import Derived.Test.YtnleclohocdkaaaGreatSRzNone
import Derived.Test.YtnleclohocdkaaaGreatSDgp
import Derived.Test.YtnleclohocdkaaaGreatSSrp
set_option maxRecDepth 100000
namespace Go.Proofs.YtnleclohocdkaaaGreat
open Go.V
noncomputable def pv:Pv:=lp.over [(31,nH (.bool true)),(71,nH (.agg [.int .i64 (-1),.int .i64 (-1),.int .i64 (-1),.int .i64 (-1),.int .i64 (-1),.int .i64 (-1),.int .i64 (-1),.int .i64 (-1),.int .i64 (-1),.int .i64 (-1)])),(63,nH (.agg [.int .i64 (-1),.int .i64 (-1),.int .i64 (-1),.int .i64 (-1),.int .i64 (-1),.int .i64 (-1),.int .i64 (-1),.int .i64 (-1),.int .i64 (-1),.int .i64 (-1)])),(160,Bi),(146,z8)]
theorem view:pv.Ok Tryz.prog∧pv.gS∧gf Tryz.prog pv (dt pv):=by
 refine rM kY rfl fun q hq=>?_;simp only[List.mem_cons,List.not_mem_nil,or_false] at hq
 rcases hq with rfl|rfl|rfl|rfl|rfl
 ·exact uN
 ·exact Az
 ·exact AA
 ·exact F2 (by kernel_rfl)
 ·exact EH kY (by kernel_rfl)
theorem UJ:pv.fi 6=some ⟨Tryz.f6,19,.ro,false,none,[]⟩:=by kernel_rfl
theorem UI:pv.fi 8=some ⟨Tryz.f8,18,.ro,false,none,[]⟩:=by kernel_rfl
theorem PE:pv.fi 13=some ⟨Tryz.f13,6,.aP,false,none,[]⟩:=by kernel_rfl
theorem PD:pv.fi 15=some ⟨Tryz.f15,6,.ro,false,none,[]⟩:=by kernel_rfl
theorem PC:pv.fi 16=some ⟨Tryz.f16,7,.ro,false,none,[]⟩:=by kernel_rfl
theorem PB:pv.fi 17=some ⟨Tryz.f17,3,.aP,false,none,[(1,[(3,8)])]⟩:=by kernel_rfl
theorem PA:pv.fi 18=some ⟨Tryz.f18,33,.ro,false,none,[]⟩:=by kernel_rfl
theorem Pz:pv.fi 19=some ⟨Tryz.f19,8,.aP,false,none,[(6,[(3,6)])]⟩:=by kernel_rfl
theorem Py:pv.fi 20=some ⟨Tryz.f20,13,.aP,false,none,[(3,[(3,8)])]⟩:=by kernel_rfl
theorem Px:pv.fi 21=some ⟨Tryz.f21,5,.ro,false,none,[]⟩:=by kernel_rfl
theorem KP:pv.fi 22=some ⟨Tryz.f22,6,.ro,false,none,[]⟩:=by kernel_rfl
theorem Pw:pv.fi 23=some ⟨Tryz.f23,13,.aP,false,none,[]⟩:=by kernel_rfl
theorem Pu:pv.fi 28=some ⟨Tryz.f28,5,.ro,false,none,[]⟩:=by kernel_rfl
theorem Pt:pv.fi 29=some ⟨Tryz.f29,11,.ro,false,none,[]⟩:=by kernel_rfl
theorem Ps:pv.fi 30=some ⟨Tryz.f30,6,.aP,false,none,[]⟩:=by kernel_rfl
theorem Pr:pv.fi 32=some ⟨Tryz.f32,9,.aP,false,none,[]⟩:=by kernel_rfl
theorem Pq:pv.fi 33=some ⟨Tryz.f33,3,.aP,false,none,[(1,[(4,8)])]⟩:=by kernel_rfl
theorem Pp:pv.fi 34=some ⟨Tryz.f34,7,.ro,false,none,[]⟩:=by kernel_rfl
theorem Po:pv.fi 35=some ⟨Tryz.f35,9,.aP,false,none,[]⟩:=by kernel_rfl
theorem Pn:pv.fi 36=some ⟨Tryz.f36,6,.aP,false,none,[]⟩:=by kernel_rfl
theorem Pm:pv.fi 37=some ⟨Tryz.f37,5,.ro,false,none,[]⟩:=by kernel_rfl
theorem Pl:pv.fi 38=some ⟨Tryz.f38,6,.rw,false,none,[]⟩:=by kernel_rfl
theorem Pk:pv.fi 43=some ⟨Tryz.f43,4,.ro,false,none,[]⟩:=by kernel_rfl
theorem Pj:pv.fi 44=some ⟨Tryz.f44,36,.rw,false,none,[]⟩:=by kernel_rfl
theorem Ph:pv.fi 45=some ⟨Tryz.f45,16,.rw,false,none,[]⟩:=by kernel_rfl
theorem Pf:pv.fi 46=some ⟨Tryz.f46,5,.aP,false,none,[]⟩:=by kernel_rfl
theorem Pc:pv.fi 47=some ⟨Tryz.f47,40,.aP,false,none,[]⟩:=by kernel_rfl
theorem Pb:pv.fi 55=some ⟨Tryz.f55,24,.ro,false,none,[]⟩:=by kernel_rfl
theorem Pa:pv.fi 56=some ⟨Tryz.f56,6,.aP,false,none,[]⟩:=by kernel_rfl
theorem O':pv.fi 57=some ⟨Tryz.f57,11,.aP,false,none,[]⟩:=by kernel_rfl
theorem O_:pv.fi 60=some ⟨Tryz.f60,9,.ro,false,none,[]⟩:=by kernel_rfl
theorem O9:pv.fi 61=some ⟨Tryz.f61,9,.aP,false,none,[]⟩:=by kernel_rfl
theorem O8:pv.fi 62=some ⟨Tryz.f62,49,.ro,false,none,[]⟩:=by kernel_rfl
theorem O7:pv.fi 64=some ⟨Tryz.f64,9,.ro,false,none,[]⟩:=by kernel_rfl
theorem O6:pv.fi 65=some ⟨Tryz.f65,55,.ro,false,none,[]⟩:=by kernel_rfl
theorem O5:pv.fi 66=some ⟨Tryz.f66,25,.aP,false,none,[]⟩:=by kernel_rfl
theorem KO:pv.fi 67=some ⟨Tryz.f67,6,.ro,false,none,[]⟩:=by kernel_rfl
theorem O4:pv.fi 68=some ⟨Tryz.f68,37,.aP,false,none,[(10,[(4,5)])]⟩:=by kernel_rfl
theorem O3:pv.fi 76=some ⟨Tryz.f76,1,.aP,false,none,[]⟩:=by kernel_rfl
theorem O2:pv.fi 77=some ⟨Tryz.f77,2,.aP,false,none,[(0,[(3,9)])]⟩:=by kernel_rfl
theorem O1:pv.fi 78=some ⟨Tryz.f78,6,.ro,false,none,[]⟩:=by kernel_rfl
theorem O0:pv.fi 79=some ⟨Tryz.f79,3,.aP,false,none,[]⟩:=by kernel_rfl
theorem OZ:pv.fi 80=some ⟨Tryz.f80,8,.aP,false,none,[]⟩:=by kernel_rfl
theorem OY:pv.fi 81=some ⟨Tryz.f81,4,.aP,false,none,[(2,[(5,10)])]⟩:=by kernel_rfl
theorem OX:pv.fi 82=some ⟨Tryz.f82,9,.aP,false,none,[]⟩:=by kernel_rfl
theorem OW:pv.fi 83=some ⟨Tryz.f83,4,.rw,false,none,[]⟩:=by kernel_rfl
theorem KN:pv.fi 88=some ⟨Tryz.f88,8,.rw,false,none,[]⟩:=by kernel_rfl
theorem OV:pv.fi 89=some ⟨Tryz.f89,68,.aP,false,none,[]⟩:=by kernel_rfl
theorem OU:pv.fi 90=some ⟨Tryz.f90,78,.aP,false,none,[]⟩:=by kernel_rfl
theorem OT:pv.fi 94=some ⟨Tryz.f94,4,.rw,false,none,[]⟩:=by kernel_rfl
theorem OS:pv.fi 95=some ⟨Tryz.f95,7,.rw,false,none,[]⟩:=by kernel_rfl
theorem OR:pv.fi 96=some ⟨Tryz.f96,4,.aP,false,none,[]⟩:=by kernel_rfl
theorem OQ:pv.fi 97=some ⟨Tryz.f97,14,.ro,false,none,[]⟩:=by kernel_rfl
theorem OP:pv.fi 98=some ⟨Tryz.f98,5,.ro,false,none,[]⟩:=by kernel_rfl
theorem OO:pv.fi 99=some ⟨Tryz.f99,39,.ro,false,none,[]⟩:=by kernel_rfl
theorem Lq:pv.fi 100=some ⟨Tryz.f100,5,.ro,false,none,[]⟩:=by kernel_rfl
theorem Lp:pv.fi 101=some ⟨Tryz.f101,41,.ro,false,none,[]⟩:=by kernel_rfl
theorem Lo:pv.fi 102=some ⟨Tryz.f102,1,.aP,false,none,[]⟩:=by kernel_rfl
theorem Ln:pv.fi 103=some ⟨Tryz.f103,10,.ro,false,none,[]⟩:=by kernel_rfl
theorem Lm:pv.fi 104=some ⟨Tryz.f104,7,.aP,false,none,[]⟩:=by kernel_rfl
theorem Ll:pv.fi 105=some ⟨Tryz.f105,33,.aP,false,none,[(8,[(9,12)])]⟩:=by kernel_rfl
theorem Lk:pv.fi 109=some ⟨Tryz.f109,9,.rw,false,none,[]⟩:=by kernel_rfl
theorem Lj:pv.fi 110=some ⟨Tryz.f110,4,.aP,false,none,[]⟩:=by kernel_rfl
theorem Li:pv.fi 113=some ⟨Tryz.f113,11,.ro,false,none,[]⟩:=by kernel_rfl
theorem Lh:pv.fi 114=some ⟨Tryz.f114,4,.rw,false,none,[]⟩:=by kernel_rfl
theorem Lg:pv.fi 118=some ⟨Tryz.f118,4,.rw,false,none,[]⟩:=by kernel_rfl
theorem Lf:pv.fi 119=some ⟨Tryz.f119,5,.rw,false,none,[]⟩:=by kernel_rfl
theorem Le:pv.fi 120=some ⟨Tryz.f120,27,.ro,false,none,[]⟩:=by kernel_rfl
theorem Ld:pv.fi 121=some ⟨Tryz.f121,3,.ro,false,none,[]⟩:=by kernel_rfl
theorem Lc:pv.fi 122=some ⟨Tryz.f122,6,.rw,false,none,[]⟩:=by kernel_rfl
theorem Lb:pv.fi 124=some ⟨Tryz.f124,2,.rw,false,none,[]⟩:=by kernel_rfl
theorem La:pv.fi 129=some ⟨Tryz.f129,4,.ro,false,none,[]⟩:=by kernel_rfl
theorem K':pv.fi 130=some ⟨Tryz.f130,5,.rw,false,none,[]⟩:=by kernel_rfl
theorem K_:pv.fi 131=some ⟨Tryz.f131,5,.rw,false,none,[]⟩:=by kernel_rfl
theorem K9:pv.fi 132=some ⟨Tryz.f132,14,.ro,false,none,[]⟩:=by kernel_rfl
theorem K8:pv.fi 133=some ⟨Tryz.f133,26,.ro,false,none,[]⟩:=by kernel_rfl
theorem K7:pv.fi 143=some ⟨Tryz.f143,26,.rw,false,none,[]⟩:=by kernel_rfl
theorem K6:pv.fi 144=some ⟨Tryz.f144,14,.rw,false,none,[]⟩:=by kernel_rfl
theorem K5:pv.fi 145=some ⟨Tryz.f145,20,.ro,false,none,[]⟩:=by kernel_rfl
theorem K4:pv.fi 154=some ⟨Tryz.f154,5,.rw,false,none,[]⟩:=by kernel_rfl
theorem K3:pv.fi 155=some ⟨Tryz.f155,7,.rw,false,none,[]⟩:=by kernel_rfl
theorem K2:pv.fi 156=some ⟨Tryz.f156,7,.rw,false,none,[]⟩:=by kernel_rfl
theorem K1:pv.fi 157=some ⟨Tryz.f157,61,.rw,true,none,[]⟩:=by kernel_rfl
theorem KZ:pv.fi 158=some ⟨Tryz.f158,1,.ro,false,none,[]⟩:=by kernel_rfl
theorem KY:pv.fi 159=some ⟨Tryz.f159,3,.ro,false,none,[]⟩:=by kernel_rfl
theorem KW:pv.fi 161=some ⟨Tryz.f161,5,.ro,false,none,[]⟩:=by kernel_rfl
theorem KV:pv.fi 162=some ⟨Tryz.f162,12,.ro,false,none,[]⟩:=by kernel_rfl
theorem KU:pv.fi 165=some ⟨Tryz.f165,8,.rw,false,none,[]⟩:=by kernel_rfl
theorem KS:pv.fi 166=some ⟨Tryz.f166,11,.ro,false,none,[]⟩:=by kernel_rfl
theorem KR:pv.fi 167=some ⟨Tryz.f167,3,.ro,false,none,[]⟩:=by kernel_rfl
theorem KQ:pv.fi 181=some ⟨Tryz.f181,29,.rw,true,none,[]⟩:=by kernel_rfl
end Go.Proofs.YtnleclohocdkaaaGreat
