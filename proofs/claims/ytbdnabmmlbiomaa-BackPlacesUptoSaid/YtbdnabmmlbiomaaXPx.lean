/-
 The view with what was reckoned once laid over it. By program.
-/
import Derived.Test.YtbdnabmmlbiomaaXView
import Derived.Test.YtbdnabmmlbiomaaXM2
import Derived.Test.YtbdnabmmlbiomaaXRzBackRuns
import Derived.Test.YtbdnabmmlbiomaaXRzNone
import Derived.Test.YtbdnabmmlbiomaaXDgp
import Derived.Test.YtbdnabmmlbiomaaXSrp
set_option maxRecDepth 100000
namespace Go.Proofs.Ytbdnabmmlbiomaa
open Go.V
noncomputable def pv:Pv:=bf.over [(21,lL (.bool true)),(55,lL (.agg [.int .i64 (-1),.int .i64 (-1),.int .i64 (-1),.int .i64 (-1),.int .i64 (-1),.int .i64 (-1),.int .i64 (-1),.int .i64 (-1),.int .i64 (-1),.int .i64 (-1)])),(46,lL (.agg [.int .i64 (-1),.int .i64 (-1),.int .i64 (-1),.int .i64 (-1),.int .i64 (-1),.int .i64 (-1),.int .i64 (-1),.int .i64 (-1),.int .i64 (-1),.int .i64 (-1)])),(89,wT),(81,vW)]
theorem view:pv.Ok Try.prog∧pv.fU∧fv Try.prog pv (dg pv):=by
 refine oj om rfl fun q hq=>?_;simp only[List.mem_cons,List.not_mem_nil,or_false] at hq
 rcases hq with rfl|rfl|rfl|rfl|rfl
 ·exact sX
 ·exact wh
 ·exact wj
 ·exact Dc (by kernel_rfl)
 ·exact zP om (by kernel_rfl)
theorem Sa:pv.fi 6=some ⟨Try.f6,14,.ro,false,none,[]⟩:=by kernel_rfl
theorem NV:pv.fi 11=some ⟨Try.f11,6,.ro,false,none,[]⟩:=by kernel_rfl
theorem NU:pv.fi 17=some ⟨Try.f17,89,.ro,false,none,[]⟩:=by kernel_rfl
theorem NT:pv.fi 18=some ⟨Try.f18,24,.ro,false,none,[]⟩:=by kernel_rfl
theorem NS:pv.fi 19=some ⟨Try.f19,5,.ro,false,none,[]⟩:=by kernel_rfl
theorem NR:pv.fi 20=some ⟨Try.f20,11,.ro,false,none,[]⟩:=by kernel_rfl
theorem NQ:pv.fi 23=some ⟨Try.f23,18,.ro,false,none,[]⟩:=by kernel_rfl
theorem NP:pv.fi 28=some ⟨Try.f28,9,.ro,false,none,[]⟩:=by kernel_rfl
theorem NO:pv.fi 33=some ⟨Try.f33,49,.ro,false,none,[]⟩:=by kernel_rfl
theorem NN:pv.fi 34=some ⟨Try.f34,12,.bD,false,none,[]⟩:=by kernel_rfl
theorem NM:pv.fi 35=some ⟨Try.f35,4,.rw,false,none,[]⟩:=by kernel_rfl
theorem NL:pv.fi 36=some ⟨Try.f36,7,.rw,false,none,[]⟩:=by kernel_rfl
theorem NK:pv.fi 39=some ⟨Try.f39,4,.ro,false,none,[]⟩:=by kernel_rfl
theorem NJ:pv.fi 40=some ⟨Try.f40,36,.rw,false,none,[]⟩:=by kernel_rfl
theorem NI:pv.fi 41=some ⟨Try.f41,16,.rw,false,none,[]⟩:=by kernel_rfl
theorem NH:pv.fi 42=some ⟨Try.f42,5,.bD,false,none,[]⟩:=by kernel_rfl
theorem NG:pv.fi 43=some ⟨Try.f43,40,.bD,false,none,[]⟩:=by kernel_rfl
theorem NF:pv.fi 47=some ⟨Try.f47,5,.ro,false,none,[]⟩:=by kernel_rfl
theorem ND:pv.fi 50=some ⟨Try.f50,10,.ro,false,none,[]⟩:=by kernel_rfl
theorem NC:pv.fi 52=some ⟨Try.f52,39,.ro,false,none,[]⟩:=by kernel_rfl
theorem NB:pv.fi 53=some ⟨Try.f53,5,.ro,false,none,[]⟩:=by kernel_rfl
theorem NA:pv.fi 54=some ⟨Try.f54,41,.ro,false,none,[]⟩:=by kernel_rfl
theorem Nz:pv.fi 56=some ⟨Try.f56,24,.bD,false,none,[]⟩:=by kernel_rfl
theorem Ny:pv.fi 57=some ⟨Try.f57,4,.rw,false,none,[]⟩:=by kernel_rfl
theorem Nw:pv.fi 58=some ⟨Try.f58,5,.rw,false,none,[]⟩:=by kernel_rfl
theorem Nv:pv.fi 59=some ⟨Try.f59,27,.ro,false,none,[]⟩:=by kernel_rfl
theorem Ko:pv.fi 64=some ⟨Try.f64,8,.rw,false,none,[]⟩:=by kernel_rfl
theorem Nu:pv.fi 65=some ⟨Try.f65,68,.bD,false,none,[]⟩:=by kernel_rfl
theorem Nt:pv.fi 66=some ⟨Try.f66,78,.bD,false,none,[]⟩:=by kernel_rfl
theorem Ns:pv.fi 68=some ⟨Try.f68,3,.ro,false,none,[]⟩:=by kernel_rfl
theorem Nr:pv.fi 69=some ⟨Try.f69,5,.rw,false,none,[]⟩:=by kernel_rfl
theorem Nq:pv.fi 70=some ⟨Try.f70,5,.rw,false,none,[]⟩:=by kernel_rfl
theorem Np:pv.fi 73=some ⟨Try.f73,11,.ro,false,none,[]⟩:=by kernel_rfl
theorem Nn:pv.fi 74=some ⟨Try.f74,4,.rw,false,none,[]⟩:=by kernel_rfl
theorem Nk:pv.fi 75=some ⟨Try.f75,14,.ro,false,none,[]⟩:=by kernel_rfl
theorem Nj:pv.fi 76=some ⟨Try.f76,26,.ro,false,none,[]⟩:=by kernel_rfl
theorem Ni:pv.fi 77=some ⟨Try.f77,26,.rw,false,none,[]⟩:=by kernel_rfl
theorem Nh:pv.fi 78=some ⟨Try.f78,14,.rw,false,none,[]⟩:=by kernel_rfl
theorem Ng:pv.fi 79=some ⟨Try.f79,4,.ro,false,none,[]⟩:=by kernel_rfl
theorem Nf:pv.fi 80=some ⟨Try.f80,20,.ro,false,none,[]⟩:=by kernel_rfl
theorem Nd:pv.fi 83=some ⟨Try.f83,5,.rw,false,none,[]⟩:=by kernel_rfl
theorem Nc:pv.fi 84=some ⟨Try.f84,7,.rw,false,none,[]⟩:=by kernel_rfl
theorem Nb:pv.fi 85=some ⟨Try.f85,7,.rw,false,none,[]⟩:=by kernel_rfl
theorem Na:pv.fi 86=some ⟨Try.f86,61,.rw,true,none,[]⟩:=by kernel_rfl
theorem M_:pv.fi 87=some ⟨Try.f87,1,.ro,false,none,[]⟩:=by kernel_rfl
theorem M9:pv.fi 88=some ⟨Try.f88,3,.ro,false,none,[]⟩:=by kernel_rfl
theorem M8:pv.fi 90=some ⟨Try.f90,5,.ro,false,none,[]⟩:=by kernel_rfl
theorem M7:pv.fi 91=some ⟨Try.f91,12,.ro,false,none,[]⟩:=by kernel_rfl
theorem M6:pv.fi 94=some ⟨Try.f94,8,.rw,false,none,[]⟩:=by kernel_rfl
theorem M5:pv.fi 95=some ⟨Try.f95,11,.ro,false,none,[]⟩:=by kernel_rfl
theorem M4:pv.fi 96=some ⟨Try.f96,3,.ro,false,none,[]⟩:=by kernel_rfl
theorem Kp:pv.fi 110=some ⟨Try.f110,29,.rw,true,none,[]⟩:=by kernel_rfl
end Go.Proofs.Ytbdnabmmlbiomaa
