/-
 The view with what was reckoned once laid over it. By program.
-/
import Derived.Test.YtbdilgkfnacahaaXView
import Derived.Test.YtbdilgkfnacahaaXM2
import Derived.Test.YtbdilgkfnacahaaXRzCheckRuns
import Derived.Test.YtbdilgkfnacahaaXRzProgRuns
import Derived.Test.YtbdilgkfnacahaaXRzBackRuns
import Derived.Test.YtbdilgkfnacahaaXRzNone
import Derived.Test.YtbdilgkfnacahaaXDgp
import Derived.Test.YtbdilgkfnacahaaXSrp
set_option maxRecDepth 100000
namespace Go.Proofs.Ytbdilgkfnacahaa
open Go.V
noncomputable def pv:Pv:=bf.over [(29,jC (.bool true)),(18,jC (.bool true)),(34,jC (.bool true)),(73,jC (.agg [.int .i64 (-1),.int .i64 (-1),.int .i64 (-1),.int .i64 (-1),.int .i64 (-1),.int .i64 (-1),.int .i64 (-1),.int .i64 (-1),.int .i64 (-1),.int .i64 (-1)])),(59,jC (.agg [.int .i64 (-1),.int .i64 (-1),.int .i64 (-1),.int .i64 (-1),.int .i64 (-1),.int .i64 (-1),.int .i64 (-1),.int .i64 (-1),.int .i64 (-1),.int .i64 (-1)])),(106,vM),(92,xx)]
theorem view:pv.Ok Try.prog∧pv.gE∧f' Try.prog pv (dK pv):=by
 refine lW mI rfl fun q hq=>?_;simp only[List.mem_cons,List.not_mem_nil,or_false] at hq
 rcases hq with rfl|rfl|rfl|rfl|rfl|rfl|rfl
 ·obtain⟨st,h1,h2⟩:=uh;exact jB mI h1 h2
 ·exact te
 ·exact uw
 ·exact xO
 ·exact xP
 ·exact xg (by kernel_rfl)
 ·exact A' mI (by kernel_rfl)
theorem Qn:pv.fi 10=some ⟨Try.f10,13,.ro,false,none,[]⟩:=by kernel_rfl
theorem Qm:pv.fi 14=some ⟨Try.f14,18,.ro,false,none,[]⟩:=by kernel_rfl
theorem Ql:pv.fi 21=some ⟨Try.f21,4,.ro,false,none,[]⟩:=by kernel_rfl
theorem Qk:pv.fi 25=some ⟨Try.f25,8,.ro,false,none,[]⟩:=by kernel_rfl
theorem Qj:pv.fi 26=some ⟨Try.f26,8,.ro,false,none,[]⟩:=by kernel_rfl
theorem Qi:pv.fi 27=some ⟨Try.f27,49,.ro,false,none,[]⟩:=by kernel_rfl
theorem Qh:pv.fi 30=some ⟨Try.f30,24,.ro,false,none,[]⟩:=by kernel_rfl
theorem Qg:pv.fi 32=some ⟨Try.f32,5,.ro,false,none,[]⟩:=by kernel_rfl
theorem Qf:pv.fi 33=some ⟨Try.f33,11,.ro,false,none,[]⟩:=by kernel_rfl
theorem Qe:pv.fi 35=some ⟨Try.f35,89,.ro,false,none,[]⟩:=by kernel_rfl
theorem Qd:pv.fi 36=some ⟨Try.f36,126,.ro,false,none,[]⟩:=by kernel_rfl
theorem Qc:pv.fi 37=some ⟨Try.f37,36,.rw,false,none,[]⟩:=by kernel_rfl
theorem Qb:pv.fi 38=some ⟨Try.f38,16,.rw,false,none,[]⟩:=by kernel_rfl
theorem Qa:pv.fi 39=some ⟨Try.f39,5,.cj,false,none,[]⟩:=by kernel_rfl
theorem P':pv.fi 40=some ⟨Try.f40,40,.cj,false,none,[]⟩:=by kernel_rfl
theorem Mv:pv.fi 46=some ⟨Try.f46,8,.rw,false,none,[]⟩:=by kernel_rfl
theorem P_:pv.fi 47=some ⟨Try.f47,22,.ro,false,none,[(13,[(3,5)])]⟩:=by kernel_rfl
theorem P9:pv.fi 48=some ⟨Try.f48,13,.ro,false,none,[]⟩:=by kernel_rfl
theorem P8:pv.fi 49=some ⟨Try.f49,39,.ro,false,none,[]⟩:=by kernel_rfl
theorem P7:pv.fi 50=some ⟨Try.f50,5,.ro,false,none,[]⟩:=by kernel_rfl
theorem P6:pv.fi 51=some ⟨Try.f51,41,.ro,false,none,[]⟩:=by kernel_rfl
theorem P5:pv.fi 53=some ⟨Try.f53,6,.ro,false,none,[]⟩:=by kernel_rfl
theorem P4:pv.fi 54=some ⟨Try.f54,4,.rw,false,none,[]⟩:=by kernel_rfl
theorem P3:pv.fi 55=some ⟨Try.f55,7,.rw,false,none,[]⟩:=by kernel_rfl
theorem P2:pv.fi 57=some ⟨Try.f57,12,.cj,false,none,[]⟩:=by kernel_rfl
theorem P1:pv.fi 58=some ⟨Try.f58,5,.ro,false,none,[]⟩:=by kernel_rfl
theorem P0:pv.fi 60=some ⟨Try.f60,6,.ro,false,none,[]⟩:=by kernel_rfl
theorem PZ:pv.fi 61=some ⟨Try.f61,68,.cj,false,none,[]⟩:=by kernel_rfl
theorem PY:pv.fi 62=some ⟨Try.f62,78,.cj,false,none,[]⟩:=by kernel_rfl
theorem PX:pv.fi 66=some ⟨Try.f66,11,.ro,false,none,[]⟩:=by kernel_rfl
theorem PW:pv.fi 67=some ⟨Try.f67,5,.ro,false,none,[]⟩:=by kernel_rfl
theorem PV:pv.fi 68=some ⟨Try.f68,3,.ro,false,none,[]⟩:=by kernel_rfl
theorem PU:pv.fi 69=some ⟨Try.f69,9,.ro,false,none,[]⟩:=by kernel_rfl
theorem PT:pv.fi 70=some ⟨Try.f70,4,.rw,false,none,[]⟩:=by kernel_rfl
theorem PS:pv.fi 71=some ⟨Try.f71,5,.rw,false,none,[]⟩:=by kernel_rfl
theorem PR:pv.fi 72=some ⟨Try.f72,27,.ro,false,none,[]⟩:=by kernel_rfl
theorem PQ:pv.fi 74=some ⟨Try.f74,24,.cj,false,none,[]⟩:=by kernel_rfl
theorem PO:pv.fi 75=some ⟨Try.f75,24,.ro,false,none,[]⟩:=by kernel_rfl
theorem PN:pv.fi 76=some ⟨Try.f76,4,.rw,false,none,[]⟩:=by kernel_rfl
theorem PM:pv.fi 80=some ⟨Try.f80,4,.ro,false,none,[]⟩:=by kernel_rfl
theorem PL:pv.fi 81=some ⟨Try.f81,6,.ro,false,none,[]⟩:=by kernel_rfl
theorem PK:pv.fi 82=some ⟨Try.f82,14,.ro,false,none,[]⟩:=by kernel_rfl
theorem PJ:pv.fi 83=some ⟨Try.f83,26,.ro,false,none,[]⟩:=by kernel_rfl
theorem PI:pv.fi 84=some ⟨Try.f84,5,.ro,false,none,[]⟩:=by kernel_rfl
theorem PH:pv.fi 85=some ⟨Try.f85,5,.rw,false,none,[]⟩:=by kernel_rfl
theorem PG:pv.fi 86=some ⟨Try.f86,5,.rw,false,none,[]⟩:=by kernel_rfl
theorem PF:pv.fi 87=some ⟨Try.f87,10,.ro,false,none,[]⟩:=by kernel_rfl
theorem PE:pv.fi 88=some ⟨Try.f88,6,.ro,false,none,[]⟩:=by kernel_rfl
theorem PD:pv.fi 89=some ⟨Try.f89,7,.ro,false,none,[]⟩:=by kernel_rfl
theorem PC:pv.fi 90=some ⟨Try.f90,7,.cj,false,none,[]⟩:=by kernel_rfl
theorem PB:pv.fi 91=some ⟨Try.f91,20,.ro,false,none,[]⟩:=by kernel_rfl
theorem PA:pv.fi 94=some ⟨Try.f94,26,.rw,false,none,[]⟩:=by kernel_rfl
theorem Pz:pv.fi 95=some ⟨Try.f95,14,.rw,false,none,[]⟩:=by kernel_rfl
theorem Py:pv.fi 96=some ⟨Try.f96,3,.ro,false,none,[]⟩:=by kernel_rfl
theorem Px:pv.fi 97=some ⟨Try.f97,6,.ro,false,none,[]⟩:=by kernel_rfl
theorem MH:pv.fi 100=some ⟨Try.f100,5,.rw,false,none,[]⟩:=by kernel_rfl
theorem MG:pv.fi 101=some ⟨Try.f101,7,.rw,false,none,[]⟩:=by kernel_rfl
theorem MF:pv.fi 102=some ⟨Try.f102,7,.rw,false,none,[]⟩:=by kernel_rfl
theorem ME:pv.fi 103=some ⟨Try.f103,61,.rw,true,none,[]⟩:=by kernel_rfl
theorem MD:pv.fi 104=some ⟨Try.f104,1,.ro,false,none,[]⟩:=by kernel_rfl
theorem MC:pv.fi 105=some ⟨Try.f105,3,.ro,false,none,[]⟩:=by kernel_rfl
theorem MB:pv.fi 107=some ⟨Try.f107,5,.ro,false,none,[]⟩:=by kernel_rfl
theorem MA:pv.fi 108=some ⟨Try.f108,12,.ro,false,none,[]⟩:=by kernel_rfl
theorem Mz:pv.fi 119=some ⟨Try.f119,8,.rw,false,none,[]⟩:=by kernel_rfl
theorem My:pv.fi 120=some ⟨Try.f120,11,.ro,false,none,[]⟩:=by kernel_rfl
theorem Mx:pv.fi 121=some ⟨Try.f121,3,.ro,false,none,[]⟩:=by kernel_rfl
theorem Mw:pv.fi 130=some ⟨Try.f130,29,.rw,true,none,[]⟩:=by kernel_rfl
end Go.Proofs.Ytbdilgkfnacahaa
