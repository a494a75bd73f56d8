/-
 The view with what was reckoned once laid over it. By program.
-/
import Derived.Test.YtnleclohocdkaaaGreatTView
import Derived.Test.YtnleclohocdkaaaGreatTM2
import Derived.Test.YtnleclohocdkaaaGreatTRzVmRuns
import Derived.Test.YtnleclohocdkaaaGreatTRzNone
import Derived.Test.YtnleclohocdkaaaGreatTDgp
import Derived.Test.YtnleclohocdkaaaGreatTSrp
set_option maxRecDepth 100000
namespace Go.Proofs.YtnleclohocdkaaaGreat
open Go.V
noncomputable def pv:Pv:=gF.over [(14,ml (.bool true)),(71,ml (.agg [.int .i64 (-1),.int .i64 (-1),.int .i64 (-1),.int .i64 (-1),.int .i64 (-1),.int .i64 (-1),.int .i64 (-1),.int .i64 (-1),.int .i64 (-1),.int .i64 (-1)])),(63,ml (.agg [.int .i64 (-1),.int .i64 (-1),.int .i64 (-1),.int .i64 (-1),.int .i64 (-1),.int .i64 (-1),.int .i64 (-1),.int .i64 (-1),.int .i64 (-1),.int .i64 (-1)])),(160,zH),(146,yG)]
theorem view:pv.Ok Tryz.prog∧pv.fP∧e_ Tryz.prog pv (cQ pv):=by
 refine lf jJ rfl fun q hq=>?_;simp only[List.mem_cons,List.not_mem_nil,or_false] at hq
 rcases hq with rfl|rfl|rfl|rfl|rfl
 ·exact yA
 ·exact y4
 ·exact y5
 ·exact D4 (by kernel_rfl)
 ·exact CU jJ (by kernel_rfl)
theorem RD:pv.fi 4=some ⟨Tryz.f4,22,.ro,false,none,[]⟩:=by kernel_rfl
theorem RC:pv.fi 8=some ⟨Tryz.f8,18,.ro,false,none,[]⟩:=by kernel_rfl
theorem MN:pv.fi 12=some ⟨Tryz.f12,11,.ro,false,none,[]⟩:=by kernel_rfl
theorem ML:pv.fi 13=some ⟨Tryz.f13,6,.aT,false,none,[]⟩:=by kernel_rfl
theorem MK:pv.fi 15=some ⟨Tryz.f15,6,.ro,false,none,[]⟩:=by kernel_rfl
theorem MJ:pv.fi 16=some ⟨Tryz.f16,7,.ro,false,none,[]⟩:=by kernel_rfl
theorem MI:pv.fi 17=some ⟨Tryz.f17,3,.aT,false,none,[(1,[(3,8)])]⟩:=by kernel_rfl
theorem MG:pv.fi 18=some ⟨Tryz.f18,33,.ro,false,none,[]⟩:=by kernel_rfl
theorem MF:pv.fi 19=some ⟨Tryz.f19,8,.aT,false,none,[(6,[(3,6)])]⟩:=by kernel_rfl
theorem ME:pv.fi 20=some ⟨Tryz.f20,13,.aT,false,none,[(3,[(3,8)])]⟩:=by kernel_rfl
theorem MD:pv.fi 21=some ⟨Tryz.f21,5,.ro,false,none,[]⟩:=by kernel_rfl
theorem II:pv.fi 22=some ⟨Tryz.f22,6,.ro,false,none,[]⟩:=by kernel_rfl
theorem MC:pv.fi 23=some ⟨Tryz.f23,13,.aT,false,none,[]⟩:=by kernel_rfl
theorem MB:pv.fi 43=some ⟨Tryz.f43,4,.ro,false,none,[]⟩:=by kernel_rfl
theorem MA:pv.fi 44=some ⟨Tryz.f44,36,.rw,false,none,[]⟩:=by kernel_rfl
theorem Mz:pv.fi 45=some ⟨Tryz.f45,16,.rw,false,none,[]⟩:=by kernel_rfl
theorem My:pv.fi 46=some ⟨Tryz.f46,5,.aT,false,none,[]⟩:=by kernel_rfl
theorem Mx:pv.fi 47=some ⟨Tryz.f47,40,.aT,false,none,[]⟩:=by kernel_rfl
theorem Mw:pv.fi 55=some ⟨Tryz.f55,24,.ro,false,none,[]⟩:=by kernel_rfl
theorem Mv:pv.fi 56=some ⟨Tryz.f56,6,.aT,false,none,[]⟩:=by kernel_rfl
theorem Mu:pv.fi 57=some ⟨Tryz.f57,11,.aT,false,none,[]⟩:=by kernel_rfl
theorem Mt:pv.fi 60=some ⟨Tryz.f60,9,.ro,false,none,[]⟩:=by kernel_rfl
theorem Ms:pv.fi 61=some ⟨Tryz.f61,9,.aT,false,none,[]⟩:=by kernel_rfl
theorem Mr:pv.fi 62=some ⟨Tryz.f62,49,.ro,false,none,[]⟩:=by kernel_rfl
theorem Mq:pv.fi 64=some ⟨Tryz.f64,9,.ro,false,none,[]⟩:=by kernel_rfl
theorem Mp:pv.fi 65=some ⟨Tryz.f65,55,.ro,false,none,[]⟩:=by kernel_rfl
theorem Mo:pv.fi 66=some ⟨Tryz.f66,25,.aT,false,none,[]⟩:=by kernel_rfl
theorem IH:pv.fi 67=some ⟨Tryz.f67,6,.ro,false,none,[]⟩:=by kernel_rfl
theorem Mn:pv.fi 68=some ⟨Tryz.f68,37,.aT,false,none,[(10,[(4,5)])]⟩:=by kernel_rfl
theorem IG:pv.fi 88=some ⟨Tryz.f88,8,.rw,false,none,[]⟩:=by kernel_rfl
theorem Mm:pv.fi 89=some ⟨Tryz.f89,68,.aT,false,none,[]⟩:=by kernel_rfl
theorem Ml:pv.fi 90=some ⟨Tryz.f90,78,.aT,false,none,[]⟩:=by kernel_rfl
theorem Mk:pv.fi 94=some ⟨Tryz.f94,4,.rw,false,none,[]⟩:=by kernel_rfl
theorem Mj:pv.fi 95=some ⟨Tryz.f95,7,.rw,false,none,[]⟩:=by kernel_rfl
theorem Mh:pv.fi 96=some ⟨Tryz.f96,4,.aT,false,none,[]⟩:=by kernel_rfl
theorem Mg:pv.fi 97=some ⟨Tryz.f97,14,.ro,false,none,[]⟩:=by kernel_rfl
theorem Mf:pv.fi 98=some ⟨Tryz.f98,5,.ro,false,none,[]⟩:=by kernel_rfl
theorem Me:pv.fi 99=some ⟨Tryz.f99,39,.ro,false,none,[]⟩:=by kernel_rfl
theorem Ji:pv.fi 100=some ⟨Tryz.f100,5,.ro,false,none,[]⟩:=by kernel_rfl
theorem Jh:pv.fi 101=some ⟨Tryz.f101,41,.ro,false,none,[]⟩:=by kernel_rfl
theorem Jg:pv.fi 102=some ⟨Tryz.f102,1,.aT,false,none,[]⟩:=by kernel_rfl
theorem Jf:pv.fi 103=some ⟨Tryz.f103,10,.ro,false,none,[]⟩:=by kernel_rfl
theorem Je:pv.fi 104=some ⟨Tryz.f104,7,.aT,false,none,[]⟩:=by kernel_rfl
theorem Jd:pv.fi 105=some ⟨Tryz.f105,33,.aT,false,none,[(8,[(9,12)])]⟩:=by kernel_rfl
theorem Jc:pv.fi 113=some ⟨Tryz.f113,11,.ro,false,none,[]⟩:=by kernel_rfl
theorem Jb:pv.fi 114=some ⟨Tryz.f114,4,.rw,false,none,[]⟩:=by kernel_rfl
theorem Ja:pv.fi 118=some ⟨Tryz.f118,4,.rw,false,none,[]⟩:=by kernel_rfl
theorem I':pv.fi 119=some ⟨Tryz.f119,5,.rw,false,none,[]⟩:=by kernel_rfl
theorem I_:pv.fi 120=some ⟨Tryz.f120,27,.ro,false,none,[]⟩:=by kernel_rfl
theorem I9:pv.fi 121=some ⟨Tryz.f121,3,.ro,false,none,[]⟩:=by kernel_rfl
theorem I8:pv.fi 122=some ⟨Tryz.f122,6,.rw,false,none,[]⟩:=by kernel_rfl
theorem I7:pv.fi 129=some ⟨Tryz.f129,4,.ro,false,none,[]⟩:=by kernel_rfl
theorem I6:pv.fi 130=some ⟨Tryz.f130,5,.rw,false,none,[]⟩:=by kernel_rfl
theorem I5:pv.fi 131=some ⟨Tryz.f131,5,.rw,false,none,[]⟩:=by kernel_rfl
theorem I4:pv.fi 132=some ⟨Tryz.f132,14,.ro,false,none,[]⟩:=by kernel_rfl
theorem I3:pv.fi 133=some ⟨Tryz.f133,26,.ro,false,none,[]⟩:=by kernel_rfl
theorem I2:pv.fi 143=some ⟨Tryz.f143,26,.rw,false,none,[]⟩:=by kernel_rfl
theorem I1:pv.fi 144=some ⟨Tryz.f144,14,.rw,false,none,[]⟩:=by kernel_rfl
theorem I0:pv.fi 145=some ⟨Tryz.f145,20,.ro,false,none,[]⟩:=by kernel_rfl
theorem IZ:pv.fi 154=some ⟨Tryz.f154,5,.rw,false,none,[]⟩:=by kernel_rfl
theorem IY:pv.fi 155=some ⟨Tryz.f155,7,.rw,false,none,[]⟩:=by kernel_rfl
theorem IX:pv.fi 156=some ⟨Tryz.f156,7,.rw,false,none,[]⟩:=by kernel_rfl
theorem IW:pv.fi 157=some ⟨Tryz.f157,61,.rw,true,none,[]⟩:=by kernel_rfl
theorem IV:pv.fi 158=some ⟨Tryz.f158,1,.ro,false,none,[]⟩:=by kernel_rfl
theorem IU:pv.fi 159=some ⟨Tryz.f159,3,.ro,false,none,[]⟩:=by kernel_rfl
theorem IQ:pv.fi 161=some ⟨Tryz.f161,5,.ro,false,none,[]⟩:=by kernel_rfl
theorem IP:pv.fi 162=some ⟨Tryz.f162,12,.ro,false,none,[]⟩:=by kernel_rfl
theorem IM:pv.fi 165=some ⟨Tryz.f165,8,.rw,false,none,[]⟩:=by kernel_rfl
theorem IL:pv.fi 166=some ⟨Tryz.f166,11,.ro,false,none,[]⟩:=by kernel_rfl
theorem IK:pv.fi 167=some ⟨Tryz.f167,3,.ro,false,none,[]⟩:=by kernel_rfl
theorem IJ:pv.fi 181=some ⟨Tryz.f181,29,.rw,true,none,[]⟩:=by kernel_rfl
end Go.Proofs.YtnleclohocdkaaaGreat
