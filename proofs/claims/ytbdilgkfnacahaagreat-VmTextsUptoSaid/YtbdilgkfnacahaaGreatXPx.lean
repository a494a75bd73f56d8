/-
 The view with what was reckoned once laid over it. By program.
-/
import Derived.Test.YtbdilgkfnacahaaGreatXView
import Derived.Test.YtbdilgkfnacahaaGreatXM2
import Derived.Test.YtbdilgkfnacahaaGreatXRzVmRuns
import Derived.Test.YtbdilgkfnacahaaGreatXRzNone
import Derived.Test.YtbdilgkfnacahaaGreatXDgp
import Derived.Test.YtbdilgkfnacahaaGreatXSrp
set_option maxRecDepth 100000
namespace Go.Proofs.YtbdilgkfnacahaaGreat
open Go.V
noncomputable def pv:Pv:=a8.over [(14,mZ (.bool true)),(57,mZ (.agg [.int .i64 (-1),.int .i64 (-1),.int .i64 (-1),.int .i64 (-1),.int .i64 (-1),.int .i64 (-1),.int .i64 (-1),.int .i64 (-1),.int .i64 (-1),.int .i64 (-1)])),(30,mZ (.agg [.int .i64 (-1),.int .i64 (-1),.int .i64 (-1),.int .i64 (-1),.int .i64 (-1),.int .i64 (-1),.int .i64 (-1),.int .i64 (-1),.int .i64 (-1),.int .i64 (-1)])),(107,zk),(94,yr)]
theorem view:pv.Ok Tryz.prog∧pv.gJ∧gb Tryz.prog pv (dA pv):=by
 refine lX kC rfl fun q hq=>?_;simp only[List.mem_cons,List.not_mem_nil,or_false] at hq
 rcases hq with rfl|rfl|rfl|rfl|rfl
 ·exact yl
 ·exact yL
 ·exact yM
 ·exact GC (by kernel_rfl)
 ·exact Cq kC (by kernel_rfl)
theorem WK:pv.fi 5=some ⟨Tryz.f5,12,.ro,false,none,[(14,[(1,2)]),(16,[(1,2),(1,3)])]⟩:=by kernel_rfl
theorem Sa:pv.fi 12=some ⟨Tryz.f12,6,.bm,false,none,[]⟩:=by kernel_rfl
theorem R_:pv.fi 15=some ⟨Tryz.f15,5,.ro,false,none,[]⟩:=by kernel_rfl
theorem R9:pv.fi 16=some ⟨Tryz.f16,5,.ro,false,none,[]⟩:=by kernel_rfl
theorem R8:pv.fi 17=some ⟨Tryz.f17,3,.rw,false,none,[(1,[(3,8)])]⟩:=by kernel_rfl
theorem R7:pv.fi 18=some ⟨Tryz.f18,6,.ro,false,none,[]⟩:=by kernel_rfl
theorem R6:pv.fi 19=some ⟨Tryz.f19,13,.bm,false,none,[]⟩:=by kernel_rfl
theorem R5:pv.fi 20=some ⟨Tryz.f20,8,.ro,false,none,[]⟩:=by kernel_rfl
theorem R4:pv.fi 21=some ⟨Tryz.f21,13,.bm,false,none,[(3,[(3,8)])]⟩:=by kernel_rfl
theorem R3:pv.fi 22=some ⟨Tryz.f22,14,.ro,false,none,[]⟩:=by kernel_rfl
theorem R2:pv.fi 23=some ⟨Tryz.f23,11,.ro,false,none,[]⟩:=by kernel_rfl
theorem R0:pv.fi 24=some ⟨Tryz.f24,6,.ro,false,none,[]⟩:=by kernel_rfl
theorem RZ:pv.fi 27=some ⟨Tryz.f27,49,.ro,false,none,[]⟩:=by kernel_rfl
theorem RY:pv.fi 31=some ⟨Tryz.f31,6,.ro,false,none,[]⟩:=by kernel_rfl
theorem RX:pv.fi 34=some ⟨Tryz.f34,6,.bm,false,none,[]⟩:=by kernel_rfl
theorem RW:pv.fi 35=some ⟨Tryz.f35,11,.bm,false,none,[]⟩:=by kernel_rfl
theorem RV:pv.fi 40=some ⟨Tryz.f40,9,.bm,false,none,[]⟩:=by kernel_rfl
theorem RU:pv.fi 41=some ⟨Tryz.f41,6,.ro,false,none,[]⟩:=by kernel_rfl
theorem RT:pv.fi 42=some ⟨Tryz.f42,37,.bm,false,none,[(10,[(4,5)])]⟩:=by kernel_rfl
theorem RS:pv.fi 43=some ⟨Tryz.f43,13,.ro,true,none,[(7,[(4,5)])]⟩:=by kernel_rfl
theorem RR:pv.fi 44=some ⟨Tryz.f44,25,.bm,false,none,[]⟩:=by kernel_rfl
theorem RQ:pv.fi 45=some ⟨Tryz.f45,6,.bm,false,none,[]⟩:=by kernel_rfl
theorem RP:pv.fi 46=some ⟨Tryz.f46,24,.ro,false,none,[]⟩:=by kernel_rfl
theorem RO:pv.fi 47=some ⟨Tryz.f47,18,.ro,false,none,[]⟩:=by kernel_rfl
theorem RN:pv.fi 48=some ⟨Tryz.f48,9,.ro,false,none,[]⟩:=by kernel_rfl
theorem RM:pv.fi 49=some ⟨Tryz.f49,39,.ro,false,none,[]⟩:=by kernel_rfl
theorem RL:pv.fi 50=some ⟨Tryz.f50,5,.ro,false,none,[]⟩:=by kernel_rfl
theorem RK:pv.fi 51=some ⟨Tryz.f51,41,.ro,false,none,[]⟩:=by kernel_rfl
theorem RJ:pv.fi 55=some ⟨Tryz.f55,4,.bm,false,none,[]⟩:=by kernel_rfl
theorem RI:pv.fi 56=some ⟨Tryz.f56,14,.ro,false,none,[]⟩:=by kernel_rfl
theorem RH:pv.fi 60=some ⟨Tryz.f60,1,.bm,false,none,[]⟩:=by kernel_rfl
theorem RG:pv.fi 61=some ⟨Tryz.f61,33,.bm,false,none,[(8,[(9,12)])]⟩:=by kernel_rfl
theorem RF:pv.fi 62=some ⟨Tryz.f62,31,.bm,false,none,[]⟩:=by kernel_rfl
theorem RE:pv.fi 63=some ⟨Tryz.f63,10,.ro,false,none,[]⟩:=by kernel_rfl
theorem RD:pv.fi 64=some ⟨Tryz.f64,7,.bm,false,none,[]⟩:=by kernel_rfl
theorem RC:pv.fi 65=some ⟨Tryz.f65,4,.rw,false,none,[]⟩:=by kernel_rfl
theorem RB:pv.fi 66=some ⟨Tryz.f66,7,.rw,false,none,[]⟩:=by kernel_rfl
theorem RA:pv.fi 67=some ⟨Tryz.f67,4,.ro,false,none,[]⟩:=by kernel_rfl
theorem Rz:pv.fi 68=some ⟨Tryz.f68,36,.rw,false,none,[]⟩:=by kernel_rfl
theorem Ry:pv.fi 69=some ⟨Tryz.f69,16,.rw,false,none,[]⟩:=by kernel_rfl
theorem Rx:pv.fi 70=some ⟨Tryz.f70,5,.bm,false,none,[]⟩:=by kernel_rfl
theorem Rw:pv.fi 71=some ⟨Tryz.f71,40,.bm,false,none,[]⟩:=by kernel_rfl
theorem Rv:pv.fi 72=some ⟨Tryz.f72,5,.ro,false,none,[]⟩:=by kernel_rfl
theorem Ru:pv.fi 73=some ⟨Tryz.f73,3,.ro,false,none,[]⟩:=by kernel_rfl
theorem Rt:pv.fi 76=some ⟨Tryz.f76,6,.rw,false,none,[]⟩:=by kernel_rfl
theorem Rr:pv.fi 77=some ⟨Tryz.f77,4,.rw,false,none,[]⟩:=by kernel_rfl
theorem Rq:pv.fi 78=some ⟨Tryz.f78,5,.rw,false,none,[]⟩:=by kernel_rfl
theorem Rp:pv.fi 79=some ⟨Tryz.f79,27,.ro,false,none,[]⟩:=by kernel_rfl
theorem Od:pv.fi 80=some ⟨Tryz.f80,8,.rw,false,none,[]⟩:=by kernel_rfl
theorem Ro:pv.fi 81=some ⟨Tryz.f81,68,.bm,false,none,[]⟩:=by kernel_rfl
theorem Rn:pv.fi 82=some ⟨Tryz.f82,78,.bm,false,none,[]⟩:=by kernel_rfl
theorem Rm:pv.fi 83=some ⟨Tryz.f83,14,.ro,false,none,[]⟩:=by kernel_rfl
theorem Rl:pv.fi 84=some ⟨Tryz.f84,26,.ro,false,none,[]⟩:=by kernel_rfl
theorem Rk:pv.fi 89=some ⟨Tryz.f89,5,.rw,false,none,[]⟩:=by kernel_rfl
theorem Rj:pv.fi 90=some ⟨Tryz.f90,5,.rw,false,none,[]⟩:=by kernel_rfl
theorem Ri:pv.fi 91=some ⟨Tryz.f91,11,.ro,false,none,[]⟩:=by kernel_rfl
theorem Rh:pv.fi 92=some ⟨Tryz.f92,4,.rw,false,none,[]⟩:=by kernel_rfl
theorem Rf:pv.fi 93=some ⟨Tryz.f93,20,.ro,false,none,[]⟩:=by kernel_rfl
theorem Re:pv.fi 96=some ⟨Tryz.f96,26,.rw,false,none,[]⟩:=by kernel_rfl
theorem Rc:pv.fi 97=some ⟨Tryz.f97,14,.rw,false,none,[]⟩:=by kernel_rfl
theorem Rb:pv.fi 98=some ⟨Tryz.f98,4,.ro,false,none,[]⟩:=by kernel_rfl
theorem Ot:pv.fi 101=some ⟨Tryz.f101,5,.rw,false,none,[]⟩:=by kernel_rfl
theorem Oq:pv.fi 102=some ⟨Tryz.f102,7,.rw,false,none,[]⟩:=by kernel_rfl
theorem Oo:pv.fi 103=some ⟨Tryz.f103,7,.rw,false,none,[]⟩:=by kernel_rfl
theorem On:pv.fi 104=some ⟨Tryz.f104,61,.rw,true,none,[]⟩:=by kernel_rfl
theorem Om:pv.fi 105=some ⟨Tryz.f105,1,.ro,false,none,[]⟩:=by kernel_rfl
theorem Ol:pv.fi 106=some ⟨Tryz.f106,3,.ro,false,none,[]⟩:=by kernel_rfl
theorem Oj:pv.fi 108=some ⟨Tryz.f108,5,.ro,false,none,[]⟩:=by kernel_rfl
theorem Oi:pv.fi 109=some ⟨Tryz.f109,12,.ro,false,none,[]⟩:=by kernel_rfl
theorem Oh:pv.fi 120=some ⟨Tryz.f120,8,.rw,false,none,[]⟩:=by kernel_rfl
theorem Og:pv.fi 121=some ⟨Tryz.f121,11,.ro,false,none,[]⟩:=by kernel_rfl
theorem Of:pv.fi 122=some ⟨Tryz.f122,3,.ro,false,none,[]⟩:=by kernel_rfl
theorem Oe:pv.fi 131=some ⟨Tryz.f131,29,.rw,true,none,[]⟩:=by kernel_rfl
end Go.Proofs.YtbdilgkfnacahaaGreat
