/-
 The view with what was reckoned once laid over it. By program.
-/
import Derived.Test.YtbdilgkfnacahaaGreatXView
import Derived.Test.YtbdilgkfnacahaaGreatXM2
import Derived.Test.YtbdilgkfnacahaaGreatXRzVmRuns
import Derived.Test.YtbdilgkfnacahaaGreatXRzNone
import Derived.Test.YtbdilgkfnacahaaGreatXDgp
import Derived.Test.YtbdilgkfnacahaaGreatXSrp
set_option maxRecDepth 100000
namespace Go.Proofs.YtbdilgkfnacahaaGreat
open Go.V
noncomputable def pv:Pv:=aK.over [(14,jY (.bool true)),(57,jY (.agg [.int .i64 (-1),.int .i64 (-1),.int .i64 (-1),.int .i64 (-1),.int .i64 (-1),.int .i64 (-1),.int .i64 (-1),.int .i64 (-1),.int .i64 (-1),.int .i64 (-1)])),(30,jY (.agg [.int .i64 (-1),.int .i64 (-1),.int .i64 (-1),.int .i64 (-1),.int .i64 (-1),.int .i64 (-1),.int .i64 (-1),.int .i64 (-1),.int .i64 (-1),.int .i64 (-1)])),(107,Ay),(94,sH)]
theorem view:pv.Ok Tryz.prog∧pv.eI∧ej Tryz.prog pv (cA pv):=by
 refine jf gW rfl fun q hq=>?_;simp only[List.mem_cons,List.not_mem_nil,or_false] at hq
 rcases hq with rfl|rfl|rfl|rfl|rfl
 ·exact sD
 ·exact sW
 ·exact sX
 ·exact Ax (by kernel_rfl)
 ·exact vZ gW (by kernel_rfl)
theorem LY:pv.fi 4=some ⟨Tryz.f4,9,.ro,false,none,[(10,[(1,2),(7,8),(7,9)]),(14,[(1,2),(6,7),(6,8)])]⟩:=by kernel_rfl
theorem Hy:pv.fi 12=some ⟨Tryz.f12,6,.aP,false,none,[]⟩:=by kernel_rfl
theorem KB:pv.fi 13=some ⟨Tryz.f13,8,.ro,false,none,[]⟩:=by kernel_rfl
theorem KA:pv.fi 15=some ⟨Tryz.f15,5,.ro,false,none,[]⟩:=by kernel_rfl
theorem Kz:pv.fi 16=some ⟨Tryz.f16,5,.ro,false,none,[]⟩:=by kernel_rfl
theorem Ky:pv.fi 17=some ⟨Tryz.f17,3,.rw,false,none,[(1,[(3,8)])]⟩:=by kernel_rfl
theorem Kx:pv.fi 18=some ⟨Tryz.f18,6,.ro,false,none,[]⟩:=by kernel_rfl
theorem Kw:pv.fi 19=some ⟨Tryz.f19,13,.aP,false,none,[]⟩:=by kernel_rfl
theorem Kv:pv.fi 20=some ⟨Tryz.f20,8,.ro,false,none,[]⟩:=by kernel_rfl
theorem Ku:pv.fi 21=some ⟨Tryz.f21,13,.aP,false,none,[(3,[(3,8)])]⟩:=by kernel_rfl
theorem Kt:pv.fi 22=some ⟨Tryz.f22,14,.ro,false,none,[]⟩:=by kernel_rfl
theorem Ks:pv.fi 27=some ⟨Tryz.f27,49,.ro,false,none,[]⟩:=by kernel_rfl
theorem Kr:pv.fi 31=some ⟨Tryz.f31,6,.ro,false,none,[]⟩:=by kernel_rfl
theorem Hx:pv.fi 34=some ⟨Tryz.f34,6,.aP,false,none,[]⟩:=by kernel_rfl
theorem Kq:pv.fi 35=some ⟨Tryz.f35,11,.aP,false,none,[]⟩:=by kernel_rfl
theorem Kp:pv.fi 36=some ⟨Tryz.f36,22,.ro,false,none,[(13,[(3,5)])]⟩:=by kernel_rfl
theorem Ko:pv.fi 37=some ⟨Tryz.f37,8,.ro,false,none,[]⟩:=by kernel_rfl
theorem Kn:pv.fi 40=some ⟨Tryz.f40,9,.aP,false,none,[]⟩:=by kernel_rfl
theorem Km:pv.fi 41=some ⟨Tryz.f41,6,.ro,false,none,[]⟩:=by kernel_rfl
theorem Kl:pv.fi 42=some ⟨Tryz.f42,37,.aP,false,none,[(10,[(4,5)])]⟩:=by kernel_rfl
theorem Kk:pv.fi 43=some ⟨Tryz.f43,13,.ro,true,none,[(7,[(4,5)])]⟩:=by kernel_rfl
theorem Kj:pv.fi 44=some ⟨Tryz.f44,25,.aP,false,none,[]⟩:=by kernel_rfl
theorem Ki:pv.fi 45=some ⟨Tryz.f45,6,.aP,false,none,[]⟩:=by kernel_rfl
theorem Kh:pv.fi 49=some ⟨Tryz.f49,39,.ro,false,none,[]⟩:=by kernel_rfl
theorem Kg:pv.fi 50=some ⟨Tryz.f50,5,.ro,false,none,[]⟩:=by kernel_rfl
theorem Kf:pv.fi 51=some ⟨Tryz.f51,41,.ro,false,none,[]⟩:=by kernel_rfl
theorem Ke:pv.fi 55=some ⟨Tryz.f55,4,.aP,false,none,[]⟩:=by kernel_rfl
theorem Kd:pv.fi 56=some ⟨Tryz.f56,14,.ro,false,none,[]⟩:=by kernel_rfl
theorem Kc:pv.fi 58=some ⟨Tryz.f58,5,.ro,false,none,[]⟩:=by kernel_rfl
theorem Kb:pv.fi 59=some ⟨Tryz.f59,13,.ro,false,none,[]⟩:=by kernel_rfl
theorem Ka:pv.fi 60=some ⟨Tryz.f60,1,.aP,false,none,[]⟩:=by kernel_rfl
theorem J':pv.fi 61=some ⟨Tryz.f61,33,.aP,false,none,[(8,[(9,12)])]⟩:=by kernel_rfl
theorem J_:pv.fi 62=some ⟨Tryz.f62,31,.aP,false,none,[]⟩:=by kernel_rfl
theorem J9:pv.fi 63=some ⟨Tryz.f63,10,.ro,false,none,[]⟩:=by kernel_rfl
theorem J8:pv.fi 64=some ⟨Tryz.f64,7,.aP,false,none,[]⟩:=by kernel_rfl
theorem J7:pv.fi 73=some ⟨Tryz.f73,3,.ro,false,none,[]⟩:=by kernel_rfl
theorem J6:pv.fi 75=some ⟨Tryz.f75,6,.ro,false,none,[]⟩:=by kernel_rfl
theorem J5:pv.fi 76=some ⟨Tryz.f76,6,.rw,false,none,[]⟩:=by kernel_rfl
theorem J4:pv.fi 83=some ⟨Tryz.f83,14,.ro,false,none,[]⟩:=by kernel_rfl
theorem J3:pv.fi 84=some ⟨Tryz.f84,26,.ro,false,none,[]⟩:=by kernel_rfl
theorem J2:pv.fi 87=some ⟨Tryz.f87,7,.ro,false,none,[]⟩:=by kernel_rfl
theorem J1:pv.fi 88=some ⟨Tryz.f88,7,.aP,false,none,[]⟩:=by kernel_rfl
theorem J0:pv.fi 93=some ⟨Tryz.f93,20,.ro,false,none,[]⟩:=by kernel_rfl
end Go.Proofs.YtbdilgkfnacahaaGreat
