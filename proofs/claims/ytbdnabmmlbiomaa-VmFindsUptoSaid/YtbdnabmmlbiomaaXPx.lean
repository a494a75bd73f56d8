/-
 The view with what was reckoned once laid over it. By program.
-/
import Derived.Test.YtbdnabmmlbiomaaXView
import Derived.Test.YtbdnabmmlbiomaaXM2
import Derived.Test.YtbdnabmmlbiomaaXRzVmRuns
import Derived.Test.YtbdnabmmlbiomaaXRzNone
import Derived.Test.YtbdnabmmlbiomaaXDgp
import Derived.Test.YtbdnabmmlbiomaaXSrp
set_option maxRecDepth 100000
namespace Go.Proofs.Ytbdnabmmlbiomaa
open Go.V
noncomputable def pv:Pv:=bd.over [(10,nz (.bool true)),(55,nz (.agg [.int .i64 (-1),.int .i64 (-1),.int .i64 (-1),.int .i64 (-1),.int .i64 (-1),.int .i64 (-1),.int .i64 (-1),.int .i64 (-1),.int .i64 (-1),.int .i64 (-1)])),(46,nz (.agg [.int .i64 (-1),.int .i64 (-1),.int .i64 (-1),.int .i64 (-1),.int .i64 (-1),.int .i64 (-1),.int .i64 (-1),.int .i64 (-1),.int .i64 (-1),.int .i64 (-1)])),(89,zD),(81,yI)]
theorem view:pv.Ok Try.prog∧pv.gU∧gp Try.prog pv (dH pv):=by
 refine mh kN rfl fun q hq=>?_;simp only[List.mem_cons,List.not_mem_nil,or_false] at hq
 rcases hq with rfl|rfl|rfl|rfl|rfl
 ·exact yE
 ·exact y3
 ·exact y4
 ·exact Gb (by kernel_rfl)
 ·exact CC kN (by kernel_rfl)
theorem WR:pv.fi 4=some ⟨Try.f4,15,.ro,false,none,[]⟩:=by kernel_rfl
theorem WQ:pv.fi 8=some ⟨Try.f8,11,.ro,false,none,[]⟩:=by kernel_rfl
theorem WO:pv.fi 9=some ⟨Try.f9,6,.bz,false,none,[]⟩:=by kernel_rfl
theorem R7:pv.fi 11=some ⟨Try.f11,6,.ro,false,none,[]⟩:=by kernel_rfl
theorem R6:pv.fi 12=some ⟨Try.f12,13,.bz,false,none,[]⟩:=by kernel_rfl
theorem R5:pv.fi 14=some ⟨Try.f14,13,.bz,false,none,[(3,[(3,8)])]⟩:=by kernel_rfl
theorem R4:pv.fi 17=some ⟨Try.f17,89,.ro,false,none,[]⟩:=by kernel_rfl
theorem R3:pv.fi 18=some ⟨Try.f18,24,.ro,false,none,[]⟩:=by kernel_rfl
theorem R2:pv.fi 23=some ⟨Try.f23,18,.ro,false,none,[]⟩:=by kernel_rfl
theorem R0:pv.fi 24=some ⟨Try.f24,6,.bz,false,none,[]⟩:=by kernel_rfl
theorem RZ:pv.fi 25=some ⟨Try.f25,11,.bz,false,none,[]⟩:=by kernel_rfl
theorem RY:pv.fi 28=some ⟨Try.f28,9,.ro,false,none,[]⟩:=by kernel_rfl
theorem RX:pv.fi 29=some ⟨Try.f29,37,.bz,false,none,[(10,[(4,5)])]⟩:=by kernel_rfl
theorem RW:pv.fi 31=some ⟨Try.f31,25,.bz,false,none,[]⟩:=by kernel_rfl
theorem RV:pv.fi 33=some ⟨Try.f33,49,.ro,false,none,[]⟩:=by kernel_rfl
theorem RU:pv.fi 34=some ⟨Try.f34,12,.bz,false,none,[]⟩:=by kernel_rfl
theorem RT:pv.fi 35=some ⟨Try.f35,4,.rw,false,none,[]⟩:=by kernel_rfl
theorem RS:pv.fi 36=some ⟨Try.f36,7,.rw,false,none,[]⟩:=by kernel_rfl
theorem RR:pv.fi 39=some ⟨Try.f39,4,.ro,false,none,[]⟩:=by kernel_rfl
theorem RQ:pv.fi 40=some ⟨Try.f40,36,.rw,false,none,[]⟩:=by kernel_rfl
theorem RP:pv.fi 41=some ⟨Try.f41,16,.rw,false,none,[]⟩:=by kernel_rfl
theorem RO:pv.fi 42=some ⟨Try.f42,5,.bz,false,none,[]⟩:=by kernel_rfl
theorem RN:pv.fi 43=some ⟨Try.f43,40,.bz,false,none,[]⟩:=by kernel_rfl
theorem RM:pv.fi 44=some ⟨Try.f44,4,.bz,false,none,[]⟩:=by kernel_rfl
theorem RL:pv.fi 45=some ⟨Try.f45,14,.ro,false,none,[]⟩:=by kernel_rfl
theorem RK:pv.fi 47=some ⟨Try.f47,5,.ro,false,none,[]⟩:=by kernel_rfl
theorem RJ:pv.fi 48=some ⟨Try.f48,1,.bz,false,none,[]⟩:=by kernel_rfl
theorem RI:pv.fi 49=some ⟨Try.f49,33,.bz,false,none,[(8,[(9,12)])]⟩:=by kernel_rfl
theorem RH:pv.fi 50=some ⟨Try.f50,10,.ro,false,none,[]⟩:=by kernel_rfl
theorem RG:pv.fi 51=some ⟨Try.f51,7,.bz,false,none,[]⟩:=by kernel_rfl
theorem RF:pv.fi 52=some ⟨Try.f52,39,.ro,false,none,[]⟩:=by kernel_rfl
theorem RE:pv.fi 53=some ⟨Try.f53,5,.ro,false,none,[]⟩:=by kernel_rfl
theorem RD:pv.fi 54=some ⟨Try.f54,41,.ro,false,none,[]⟩:=by kernel_rfl
theorem RC:pv.fi 56=some ⟨Try.f56,24,.bz,false,none,[]⟩:=by kernel_rfl
theorem RB:pv.fi 57=some ⟨Try.f57,4,.rw,false,none,[]⟩:=by kernel_rfl
theorem RA:pv.fi 58=some ⟨Try.f58,5,.rw,false,none,[]⟩:=by kernel_rfl
theorem Rz:pv.fi 59=some ⟨Try.f59,27,.ro,false,none,[]⟩:=by kernel_rfl
theorem NY:pv.fi 64=some ⟨Try.f64,8,.rw,false,none,[]⟩:=by kernel_rfl
theorem Ry:pv.fi 65=some ⟨Try.f65,68,.bz,false,none,[]⟩:=by kernel_rfl
theorem Rx:pv.fi 66=some ⟨Try.f66,78,.bz,false,none,[]⟩:=by kernel_rfl
theorem Rw:pv.fi 67=some ⟨Try.f67,6,.rw,false,none,[]⟩:=by kernel_rfl
theorem Rv:pv.fi 68=some ⟨Try.f68,3,.ro,false,none,[]⟩:=by kernel_rfl
theorem Ru:pv.fi 69=some ⟨Try.f69,5,.rw,false,none,[]⟩:=by kernel_rfl
theorem Rt:pv.fi 70=some ⟨Try.f70,5,.rw,false,none,[]⟩:=by kernel_rfl
theorem Rr:pv.fi 73=some ⟨Try.f73,11,.ro,false,none,[]⟩:=by kernel_rfl
theorem Rq:pv.fi 74=some ⟨Try.f74,4,.rw,false,none,[]⟩:=by kernel_rfl
theorem Rp:pv.fi 75=some ⟨Try.f75,14,.ro,false,none,[]⟩:=by kernel_rfl
theorem Ro:pv.fi 76=some ⟨Try.f76,26,.ro,false,none,[]⟩:=by kernel_rfl
theorem Rn:pv.fi 77=some ⟨Try.f77,26,.rw,false,none,[]⟩:=by kernel_rfl
theorem Rm:pv.fi 78=some ⟨Try.f78,14,.rw,false,none,[]⟩:=by kernel_rfl
theorem Rl:pv.fi 79=some ⟨Try.f79,4,.ro,false,none,[]⟩:=by kernel_rfl
theorem Rk:pv.fi 80=some ⟨Try.f80,20,.ro,false,none,[]⟩:=by kernel_rfl
theorem Rj:pv.fi 83=some ⟨Try.f83,5,.rw,false,none,[]⟩:=by kernel_rfl
theorem Ri:pv.fi 84=some ⟨Try.f84,7,.rw,false,none,[]⟩:=by kernel_rfl
theorem Rh:pv.fi 85=some ⟨Try.f85,7,.rw,false,none,[]⟩:=by kernel_rfl
theorem Rf:pv.fi 86=some ⟨Try.f86,61,.rw,true,none,[]⟩:=by kernel_rfl
theorem Re:pv.fi 87=some ⟨Try.f87,1,.ro,false,none,[]⟩:=by kernel_rfl
theorem Rc:pv.fi 88=some ⟨Try.f88,3,.ro,false,none,[]⟩:=by kernel_rfl
theorem Rb:pv.fi 90=some ⟨Try.f90,5,.ro,false,none,[]⟩:=by kernel_rfl
theorem Ra:pv.fi 91=some ⟨Try.f91,12,.ro,false,none,[]⟩:=by kernel_rfl
theorem Q_:pv.fi 94=some ⟨Try.f94,8,.rw,false,none,[]⟩:=by kernel_rfl
theorem Q9:pv.fi 95=some ⟨Try.f95,11,.ro,false,none,[]⟩:=by kernel_rfl
theorem Q8:pv.fi 96=some ⟨Try.f96,3,.ro,false,none,[]⟩:=by kernel_rfl
theorem NZ:pv.fi 110=some ⟨Try.f110,29,.rw,true,none,[]⟩:=by kernel_rfl
end Go.Proofs.Ytbdnabmmlbiomaa
