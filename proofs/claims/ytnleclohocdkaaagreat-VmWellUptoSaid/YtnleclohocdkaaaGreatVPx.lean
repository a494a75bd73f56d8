/-
 The view with what was reckoned once laid over it. By program.
-/
import Derived.Test.YtnleclohocdkaaaGreatVView
import Derived.Test.YtnleclohocdkaaaGreatVM2
import Derived.Test.YtnleclohocdkaaaGreatVRzVmRuns
import Derived.Test.YtnleclohocdkaaaGreatVRzNone
import Derived.Test.YtnleclohocdkaaaGreatVDgp
import Derived.Test.YtnleclohocdkaaaGreatVSrp
set_option maxRecDepth 100000
namespace Go.Proofs.YtnleclohocdkaaaGreat
open Go.V
noncomputable def pv:Pv:=iu.over [(14,nV (.bool true)),(71,nV (.agg [.int .i64 (-1),.int .i64 (-1),.int .i64 (-1),.int .i64 (-1),.int .i64 (-1),.int .i64 (-1),.int .i64 (-1),.int .i64 (-1),.int .i64 (-1),.int .i64 (-1)])),(63,nV (.agg [.int .i64 (-1),.int .i64 (-1),.int .i64 (-1),.int .i64 (-1),.int .i64 (-1),.int .i64 (-1),.int .i64 (-1),.int .i64 (-1),.int .i64 (-1),.int .i64 (-1)])),(160,Bm),(146,As)]
theorem view:pv.Ok Tryz.prog∧pv.gL∧gg Tryz.prog pv (dx pv):=by
 refine mG kT rfl fun q hq=>?_;simp only[List.mem_cons,List.not_mem_nil,or_false] at hq
 rcases hq with rfl|rfl|rfl|rfl|rfl
 ·exact An
 ·exact AU
 ·exact AV
 ·exact FR (by kernel_rfl)
 ·exact Eu kT (by kernel_rfl)
theorem Uh:pv.fi 5=some ⟨Tryz.f5,19,.ro,false,none,[(9,[(1,4)]),(10,[(1,4)]),(17,[(8,9)]),(23,[(1,2)]),(26,[(3,4),(9,10),(9,11)])]⟩:=by kernel_rfl
theorem Ug:pv.fi 8=some ⟨Tryz.f8,18,.ro,false,none,[]⟩:=by kernel_rfl
theorem Pk:pv.fi 12=some ⟨Tryz.f12,11,.ro,false,none,[]⟩:=by kernel_rfl
theorem Pj:pv.fi 15=some ⟨Tryz.f15,6,.ro,false,none,[]⟩:=by kernel_rfl
theorem Ph:pv.fi 17=some ⟨Tryz.f17,3,.aW,false,none,[(1,[(3,8)])]⟩:=by kernel_rfl
theorem Pf:pv.fi 18=some ⟨Tryz.f18,33,.ro,false,none,[]⟩:=by kernel_rfl
theorem KR:pv.fi 19=some ⟨Tryz.f19,8,.aW,false,none,[(6,[(3,6)])]⟩:=by kernel_rfl
theorem Pc:pv.fi 20=some ⟨Tryz.f20,13,.aW,false,none,[(3,[(3,8)])]⟩:=by kernel_rfl
theorem Pb:pv.fi 21=some ⟨Tryz.f21,5,.ro,false,none,[]⟩:=by kernel_rfl
theorem KQ:pv.fi 22=some ⟨Tryz.f22,6,.ro,false,none,[]⟩:=by kernel_rfl
theorem Pa:pv.fi 23=some ⟨Tryz.f23,13,.aW,false,none,[]⟩:=by kernel_rfl
theorem O':pv.fi 24=some ⟨Tryz.f24,6,.aW,false,none,[]⟩:=by kernel_rfl
theorem O_:pv.fi 25=some ⟨Tryz.f25,11,.ro,false,none,[]⟩:=by kernel_rfl
theorem O9:pv.fi 26=some ⟨Tryz.f26,14,.ro,false,none,[]⟩:=by kernel_rfl
theorem O8:pv.fi 27=some ⟨Tryz.f27,8,.ro,false,none,[]⟩:=by kernel_rfl
theorem O7:pv.fi 43=some ⟨Tryz.f43,4,.ro,false,none,[]⟩:=by kernel_rfl
theorem O6:pv.fi 44=some ⟨Tryz.f44,36,.rw,false,none,[]⟩:=by kernel_rfl
theorem O5:pv.fi 45=some ⟨Tryz.f45,16,.rw,false,none,[]⟩:=by kernel_rfl
theorem O4:pv.fi 46=some ⟨Tryz.f46,5,.aW,false,none,[]⟩:=by kernel_rfl
theorem O3:pv.fi 47=some ⟨Tryz.f47,40,.aW,false,none,[]⟩:=by kernel_rfl
theorem O2:pv.fi 55=some ⟨Tryz.f55,24,.ro,false,none,[]⟩:=by kernel_rfl
theorem O1:pv.fi 56=some ⟨Tryz.f56,6,.aW,false,none,[]⟩:=by kernel_rfl
theorem O0:pv.fi 60=some ⟨Tryz.f60,9,.ro,false,none,[]⟩:=by kernel_rfl
theorem OZ:pv.fi 61=some ⟨Tryz.f61,9,.aW,false,none,[]⟩:=by kernel_rfl
theorem OY:pv.fi 62=some ⟨Tryz.f62,49,.ro,false,none,[]⟩:=by kernel_rfl
theorem OX:pv.fi 64=some ⟨Tryz.f64,9,.ro,false,none,[]⟩:=by kernel_rfl
theorem OW:pv.fi 65=some ⟨Tryz.f65,55,.ro,false,none,[]⟩:=by kernel_rfl
theorem OV:pv.fi 66=some ⟨Tryz.f66,25,.aW,false,none,[]⟩:=by kernel_rfl
theorem KP:pv.fi 67=some ⟨Tryz.f67,6,.ro,false,none,[]⟩:=by kernel_rfl
theorem OU:pv.fi 68=some ⟨Tryz.f68,37,.aW,false,none,[(10,[(4,5)])]⟩:=by kernel_rfl
theorem OT:pv.fi 69=some ⟨Tryz.f69,8,.ro,false,none,[]⟩:=by kernel_rfl
theorem OS:pv.fi 70=some ⟨Tryz.f70,6,.ro,false,none,[]⟩:=by kernel_rfl
theorem OR:pv.fi 72=some ⟨Tryz.f72,8,.ro,false,none,[]⟩:=by kernel_rfl
theorem OQ:pv.fi 73=some ⟨Tryz.f73,13,.ro,true,none,[(7,[(4,5)])]⟩:=by kernel_rfl
theorem OP:pv.fi 74=some ⟨Tryz.f74,6,.ro,false,none,[]⟩:=by kernel_rfl
theorem OO:pv.fi 75=some ⟨Tryz.f75,6,.aW,false,none,[]⟩:=by kernel_rfl
theorem KO:pv.fi 88=some ⟨Tryz.f88,8,.rw,false,none,[]⟩:=by kernel_rfl
theorem ON:pv.fi 89=some ⟨Tryz.f89,68,.aW,false,none,[]⟩:=by kernel_rfl
theorem OM:pv.fi 90=some ⟨Tryz.f90,78,.aW,false,none,[]⟩:=by kernel_rfl
theorem OL:pv.fi 94=some ⟨Tryz.f94,4,.rw,false,none,[]⟩:=by kernel_rfl
theorem OK:pv.fi 95=some ⟨Tryz.f95,7,.rw,false,none,[]⟩:=by kernel_rfl
theorem OJ:pv.fi 96=some ⟨Tryz.f96,4,.aW,false,none,[]⟩:=by kernel_rfl
theorem OI:pv.fi 97=some ⟨Tryz.f97,14,.ro,false,none,[]⟩:=by kernel_rfl
theorem OH:pv.fi 98=some ⟨Tryz.f98,5,.ro,false,none,[]⟩:=by kernel_rfl
theorem OG:pv.fi 99=some ⟨Tryz.f99,39,.ro,false,none,[]⟩:=by kernel_rfl
theorem Lv:pv.fi 100=some ⟨Tryz.f100,5,.ro,false,none,[]⟩:=by kernel_rfl
theorem Lu:pv.fi 101=some ⟨Tryz.f101,41,.ro,false,none,[]⟩:=by kernel_rfl
theorem Lt:pv.fi 102=some ⟨Tryz.f102,1,.aW,false,none,[]⟩:=by kernel_rfl
theorem Ls:pv.fi 103=some ⟨Tryz.f103,10,.ro,false,none,[]⟩:=by kernel_rfl
theorem Lr:pv.fi 104=some ⟨Tryz.f104,7,.aW,false,none,[]⟩:=by kernel_rfl
theorem Lq:pv.fi 105=some ⟨Tryz.f105,33,.aW,false,none,[(8,[(9,12)])]⟩:=by kernel_rfl
theorem Lp:pv.fi 106=some ⟨Tryz.f106,22,.ro,false,none,[(13,[(3,5)])]⟩:=by kernel_rfl
theorem Lo:pv.fi 107=some ⟨Tryz.f107,13,.ro,false,none,[]⟩:=by kernel_rfl
theorem Ln:pv.fi 108=some ⟨Tryz.f108,31,.aW,false,none,[]⟩:=by kernel_rfl
theorem Lm:pv.fi 113=some ⟨Tryz.f113,11,.ro,false,none,[]⟩:=by kernel_rfl
theorem Ll:pv.fi 114=some ⟨Tryz.f114,4,.rw,false,none,[]⟩:=by kernel_rfl
theorem Lk:pv.fi 118=some ⟨Tryz.f118,4,.rw,false,none,[]⟩:=by kernel_rfl
theorem Lj:pv.fi 119=some ⟨Tryz.f119,5,.rw,false,none,[]⟩:=by kernel_rfl
theorem Li:pv.fi 120=some ⟨Tryz.f120,27,.ro,false,none,[]⟩:=by kernel_rfl
theorem Lh:pv.fi 121=some ⟨Tryz.f121,3,.ro,false,none,[]⟩:=by kernel_rfl
theorem Lg:pv.fi 122=some ⟨Tryz.f122,6,.rw,false,none,[]⟩:=by kernel_rfl
theorem Lf:pv.fi 123=some ⟨Tryz.f123,5,.ro,false,none,[]⟩:=by kernel_rfl
theorem Le:pv.fi 129=some ⟨Tryz.f129,4,.ro,false,none,[]⟩:=by kernel_rfl
theorem Ld:pv.fi 130=some ⟨Tryz.f130,5,.rw,false,none,[]⟩:=by kernel_rfl
theorem Lc:pv.fi 131=some ⟨Tryz.f131,5,.rw,false,none,[]⟩:=by kernel_rfl
theorem Lb:pv.fi 132=some ⟨Tryz.f132,14,.ro,false,none,[]⟩:=by kernel_rfl
theorem La:pv.fi 133=some ⟨Tryz.f133,26,.ro,false,none,[]⟩:=by kernel_rfl
theorem K':pv.fi 134=some ⟨Tryz.f134,6,.ro,false,none,[]⟩:=by kernel_rfl
theorem K_:pv.fi 143=some ⟨Tryz.f143,26,.rw,false,none,[]⟩:=by kernel_rfl
theorem K9:pv.fi 144=some ⟨Tryz.f144,14,.rw,false,none,[]⟩:=by kernel_rfl
theorem K8:pv.fi 145=some ⟨Tryz.f145,20,.ro,false,none,[]⟩:=by kernel_rfl
theorem K7:pv.fi 148=some ⟨Tryz.f148,7,.ro,false,none,[]⟩:=by kernel_rfl
theorem K6:pv.fi 149=some ⟨Tryz.f149,7,.aW,false,none,[]⟩:=by kernel_rfl
theorem K5:pv.fi 154=some ⟨Tryz.f154,5,.rw,false,none,[]⟩:=by kernel_rfl
theorem K4:pv.fi 155=some ⟨Tryz.f155,7,.rw,false,none,[]⟩:=by kernel_rfl
theorem K3:pv.fi 156=some ⟨Tryz.f156,7,.rw,false,none,[]⟩:=by kernel_rfl
theorem K2:pv.fi 157=some ⟨Tryz.f157,61,.rw,true,none,[]⟩:=by kernel_rfl
theorem K1:pv.fi 158=some ⟨Tryz.f158,1,.ro,false,none,[]⟩:=by kernel_rfl
theorem K0:pv.fi 159=some ⟨Tryz.f159,3,.ro,false,none,[]⟩:=by kernel_rfl
theorem KZ:pv.fi 161=some ⟨Tryz.f161,5,.ro,false,none,[]⟩:=by kernel_rfl
theorem KY:pv.fi 162=some ⟨Tryz.f162,12,.ro,false,none,[]⟩:=by kernel_rfl
theorem KW:pv.fi 165=some ⟨Tryz.f165,8,.rw,false,none,[]⟩:=by kernel_rfl
theorem KV:pv.fi 166=some ⟨Tryz.f166,11,.ro,false,none,[]⟩:=by kernel_rfl
theorem KU:pv.fi 167=some ⟨Tryz.f167,3,.ro,false,none,[]⟩:=by kernel_rfl
theorem KS:pv.fi 181=some ⟨Tryz.f181,29,.rw,true,none,[]⟩:=by kernel_rfl
end Go.Proofs.YtnleclohocdkaaaGreat
