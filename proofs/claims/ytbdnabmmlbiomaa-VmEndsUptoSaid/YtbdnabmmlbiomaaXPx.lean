/-
 The view with what was reckoned once laid over it. By program.
-/
import Derived.Test.YtbdnabmmlbiomaaXView
import Derived.Test.YtbdnabmmlbiomaaXM2
import Derived.Test.YtbdnabmmlbiomaaXRzBackRuns
import Derived.Test.YtbdnabmmlbiomaaXRzVmRuns
import Derived.Test.YtbdnabmmlbiomaaXRzNone
import Derived.Test.YtbdnabmmlbiomaaXDgp
import Derived.Test.YtbdnabmmlbiomaaXSrp
set_option maxRecDepth 100000
namespace Go.Proofs.Ytbdnabmmlbiomaa
open Go.V
noncomputable def pv:Pv:=aV.over [(21,kb (.bool true)),(10,kb (.bool true)),(55,kb (.agg [.int .i64 (-1),.int .i64 (-1),.int .i64 (-1),.int .i64 (-1),.int .i64 (-1),.int .i64 (-1),.int .i64 (-1),.int .i64 (-1),.int .i64 (-1),.int .i64 (-1)])),(46,kb (.agg [.int .i64 (-1),.int .i64 (-1),.int .i64 (-1),.int .i64 (-1),.int .i64 (-1),.int .i64 (-1),.int .i64 (-1),.int .i64 (-1),.int .i64 (-1),.int .i64 (-1)])),(89,y5),(81,ya)]
theorem view:pv.Ok Try.prog∧pv.fG∧fy Try.prog pv (c9 pv):=by
 refine jH iT rfl fun q hq=>?_;simp only[List.mem_cons,List.not_mem_nil,or_false] at hq
 rcases hq with rfl|rfl|rfl|rfl|rfl|rfl
 ·exact uV
 ·exact x6
 ·exact yy
 ·exact yz
 ·exact FG (by kernel_rfl)
 ·exact B8 iT (by kernel_rfl)
theorem VZ:pv.fi 3=some ⟨Try.f3,15,.ro,false,none,[]⟩:=by kernel_rfl
theorem VY:pv.fi 8=some ⟨Try.f8,11,.ro,false,none,[]⟩:=by kernel_rfl
theorem VX:pv.fi 9=some ⟨Try.f9,6,.br,false,none,[]⟩:=by kernel_rfl
theorem Rk:pv.fi 11=some ⟨Try.f11,6,.ro,false,none,[]⟩:=by kernel_rfl
theorem Rj:pv.fi 12=some ⟨Try.f12,13,.br,false,none,[]⟩:=by kernel_rfl
theorem Ri:pv.fi 13=some ⟨Try.f13,6,.ro,false,none,[]⟩:=by kernel_rfl
theorem Rh:pv.fi 14=some ⟨Try.f14,13,.br,false,none,[(3,[(3,8)])]⟩:=by kernel_rfl
theorem Rf:pv.fi 15=some ⟨Try.f15,5,.ro,false,none,[]⟩:=by kernel_rfl
theorem Re:pv.fi 16=some ⟨Try.f16,3,.rw,false,none,[(1,[(3,8)])]⟩:=by kernel_rfl
theorem Rc:pv.fi 18=some ⟨Try.f18,24,.ro,false,none,[]⟩:=by kernel_rfl
theorem Rb:pv.fi 23=some ⟨Try.f23,18,.ro,false,none,[]⟩:=by kernel_rfl
theorem Ra:pv.fi 24=some ⟨Try.f24,6,.br,false,none,[]⟩:=by kernel_rfl
theorem Q_:pv.fi 25=some ⟨Try.f25,11,.br,false,none,[]⟩:=by kernel_rfl
theorem Q9:pv.fi 28=some ⟨Try.f28,9,.ro,false,none,[]⟩:=by kernel_rfl
theorem Q8:pv.fi 29=some ⟨Try.f29,37,.br,false,none,[(10,[(4,5)])]⟩:=by kernel_rfl
theorem Q7:pv.fi 30=some ⟨Try.f30,6,.ro,false,none,[]⟩:=by kernel_rfl
theorem Q6:pv.fi 31=some ⟨Try.f31,25,.br,false,none,[]⟩:=by kernel_rfl
theorem Q5:pv.fi 32=some ⟨Try.f32,9,.br,false,none,[]⟩:=by kernel_rfl
theorem Q4:pv.fi 33=some ⟨Try.f33,49,.ro,false,none,[]⟩:=by kernel_rfl
theorem Q3:pv.fi 35=some ⟨Try.f35,4,.rw,false,none,[]⟩:=by kernel_rfl
theorem Q0:pv.fi 36=some ⟨Try.f36,7,.rw,false,none,[]⟩:=by kernel_rfl
theorem QZ:pv.fi 39=some ⟨Try.f39,4,.ro,false,none,[]⟩:=by kernel_rfl
theorem QY:pv.fi 40=some ⟨Try.f40,36,.rw,false,none,[]⟩:=by kernel_rfl
theorem QX:pv.fi 41=some ⟨Try.f41,16,.rw,false,none,[]⟩:=by kernel_rfl
theorem QW:pv.fi 42=some ⟨Try.f42,5,.br,false,none,[]⟩:=by kernel_rfl
theorem QV:pv.fi 43=some ⟨Try.f43,40,.br,false,none,[]⟩:=by kernel_rfl
theorem QU:pv.fi 44=some ⟨Try.f44,4,.br,false,none,[]⟩:=by kernel_rfl
theorem QT:pv.fi 45=some ⟨Try.f45,14,.ro,false,none,[]⟩:=by kernel_rfl
theorem QS:pv.fi 47=some ⟨Try.f47,5,.ro,false,none,[]⟩:=by kernel_rfl
theorem QR:pv.fi 48=some ⟨Try.f48,1,.br,false,none,[]⟩:=by kernel_rfl
theorem QQ:pv.fi 49=some ⟨Try.f49,33,.br,false,none,[(8,[(9,12)])]⟩:=by kernel_rfl
theorem QP:pv.fi 50=some ⟨Try.f50,10,.ro,false,none,[]⟩:=by kernel_rfl
theorem QO:pv.fi 51=some ⟨Try.f51,7,.br,false,none,[]⟩:=by kernel_rfl
theorem QN:pv.fi 52=some ⟨Try.f52,39,.ro,false,none,[]⟩:=by kernel_rfl
theorem QM:pv.fi 53=some ⟨Try.f53,5,.ro,false,none,[]⟩:=by kernel_rfl
theorem QL:pv.fi 54=some ⟨Try.f54,41,.ro,false,none,[]⟩:=by kernel_rfl
theorem QK:pv.fi 57=some ⟨Try.f57,4,.rw,false,none,[]⟩:=by kernel_rfl
theorem QJ:pv.fi 58=some ⟨Try.f58,5,.rw,false,none,[]⟩:=by kernel_rfl
theorem QI:pv.fi 59=some ⟨Try.f59,27,.ro,false,none,[]⟩:=by kernel_rfl
theorem NC:pv.fi 64=some ⟨Try.f64,8,.rw,false,none,[]⟩:=by kernel_rfl
theorem QH:pv.fi 65=some ⟨Try.f65,68,.br,false,none,[]⟩:=by kernel_rfl
theorem QG:pv.fi 66=some ⟨Try.f66,78,.br,false,none,[]⟩:=by kernel_rfl
theorem QF:pv.fi 67=some ⟨Try.f67,6,.rw,false,none,[]⟩:=by kernel_rfl
theorem QE:pv.fi 68=some ⟨Try.f68,3,.ro,false,none,[]⟩:=by kernel_rfl
theorem QD:pv.fi 69=some ⟨Try.f69,5,.rw,false,none,[]⟩:=by kernel_rfl
theorem QC:pv.fi 70=some ⟨Try.f70,5,.rw,false,none,[]⟩:=by kernel_rfl
theorem QB:pv.fi 73=some ⟨Try.f73,11,.ro,false,none,[]⟩:=by kernel_rfl
theorem QA:pv.fi 74=some ⟨Try.f74,4,.rw,false,none,[]⟩:=by kernel_rfl
theorem Qz:pv.fi 75=some ⟨Try.f75,14,.ro,false,none,[]⟩:=by kernel_rfl
theorem Qy:pv.fi 76=some ⟨Try.f76,26,.ro,false,none,[]⟩:=by kernel_rfl
theorem Qx:pv.fi 77=some ⟨Try.f77,26,.rw,false,none,[]⟩:=by kernel_rfl
theorem Qw:pv.fi 78=some ⟨Try.f78,14,.rw,false,none,[]⟩:=by kernel_rfl
theorem Qv:pv.fi 79=some ⟨Try.f79,4,.ro,false,none,[]⟩:=by kernel_rfl
theorem Qu:pv.fi 80=some ⟨Try.f80,20,.ro,false,none,[]⟩:=by kernel_rfl
theorem Qt:pv.fi 83=some ⟨Try.f83,5,.rw,false,none,[]⟩:=by kernel_rfl
theorem Qs:pv.fi 84=some ⟨Try.f84,7,.rw,false,none,[]⟩:=by kernel_rfl
theorem Qr:pv.fi 85=some ⟨Try.f85,7,.rw,false,none,[]⟩:=by kernel_rfl
theorem Qq:pv.fi 86=some ⟨Try.f86,61,.rw,true,none,[]⟩:=by kernel_rfl
theorem Qp:pv.fi 87=some ⟨Try.f87,1,.ro,false,none,[]⟩:=by kernel_rfl
theorem Qo:pv.fi 88=some ⟨Try.f88,3,.ro,false,none,[]⟩:=by kernel_rfl
theorem Qn:pv.fi 90=some ⟨Try.f90,5,.ro,false,none,[]⟩:=by kernel_rfl
theorem Qm:pv.fi 91=some ⟨Try.f91,12,.ro,false,none,[]⟩:=by kernel_rfl
theorem Ql:pv.fi 94=some ⟨Try.f94,8,.rw,false,none,[]⟩:=by kernel_rfl
theorem Qk:pv.fi 95=some ⟨Try.f95,11,.ro,false,none,[]⟩:=by kernel_rfl
theorem Qj:pv.fi 96=some ⟨Try.f96,3,.ro,false,none,[]⟩:=by kernel_rfl
theorem ND:pv.fi 110=some ⟨Try.f110,29,.rw,true,none,[]⟩:=by kernel_rfl
end Go.Proofs.Ytbdnabmmlbiomaa
