/-
 The view with what was reckoned once laid over it. By program.
-/
import Derived.Test.YtajblankjjmonaaGreatWView
import Derived.Test.YtajblankjjmonaaGreatWM2
import Derived.Test.YtajblankjjmonaaGreatWRzProgRuns
import Derived.Test.YtajblankjjmonaaGreatWDgp
import Derived.Test.YtajblankjjmonaaGreatWSrp
set_option maxRecDepth 100000
namespace Go.Proofs.YtajblankjjmonaaGreat
open Go.V
noncomputable def pv:Pv:=zO.over [(8,yF (.bool true)),(91,xK),(79,zz)]
theorem view:pv.Ok Tryz.prog∧pv.jm∧gO Tryz.prog pv (eF pv):=by
 refine rk A5 rfl fun q hq=>?_;simp only[List.mem_cons,List.not_mem_nil,or_false] at hq
 rcases hq with rfl|rfl|rfl
 ·exact uQ
 ·exact zg (by kernel_rfl)
 ·exact DB A5 (by kernel_rfl)
theorem fi3:pv.fi 3=some ⟨Tryz.f3,14,.ro,false,none,[]⟩:=by kernel_rfl
theorem R7:pv.fi 4=some ⟨Tryz.f4,10,.ro,false,none,[]⟩:=by kernel_rfl
theorem R6:pv.fi 5=some ⟨Tryz.f5,18,.ro,false,none,[]⟩:=by kernel_rfl
theorem R5:pv.fi 6=some ⟨Tryz.f6,9,.ro,false,none,[]⟩:=by kernel_rfl
theorem R4:pv.fi 7=some ⟨Tryz.f7,8,.ro,false,none,[(6,[(6,12),(8,12),(9,12)])]⟩:=by kernel_rfl
theorem R3:pv.fi 9=some ⟨Tryz.f9,5,.ro,false,none,[]⟩:=by kernel_rfl
theorem NH:pv.fi 10=some ⟨Tryz.f10,6,.rw,false,none,[]⟩:=by kernel_rfl
theorem NG:pv.fi 11=some ⟨Tryz.f11,3,.rw,false,none,[]⟩:=by kernel_rfl
theorem NF:pv.fi 12=some ⟨Tryz.f12,3,.rw,false,none,[]⟩:=by kernel_rfl
theorem ND:pv.fi 13=some ⟨Tryz.f13,4,.ro,false,none,[]⟩:=by kernel_rfl
theorem NC:pv.fi 14=some ⟨Tryz.f14,36,.rw,false,none,[]⟩:=by kernel_rfl
theorem NB:pv.fi 15=some ⟨Tryz.f15,16,.rw,false,none,[]⟩:=by kernel_rfl
theorem NA:pv.fi 16=some ⟨Tryz.f16,5,.cD,false,none,[]⟩:=by kernel_rfl
theorem Nz:pv.fi 17=some ⟨Tryz.f17,40,.cD,false,none,[]⟩:=by kernel_rfl
theorem Ny:pv.fi 18=some ⟨Tryz.f18,5,.ro,false,none,[]⟩:=by kernel_rfl
theorem Nw:pv.fi 19=some ⟨Tryz.f19,10,.ro,false,none,[]⟩:=by kernel_rfl
theorem Nv:pv.fi 20=some ⟨Tryz.f20,5,.cD,false,none,[]⟩:=by kernel_rfl
theorem Nu:pv.fi 21=some ⟨Tryz.f21,12,.cD,false,none,[]⟩:=by kernel_rfl
theorem Nt:pv.fi 22=some ⟨Tryz.f22,6,.ro,false,none,[]⟩:=by kernel_rfl
theorem Ns:pv.fi 23=some ⟨Tryz.f23,6,.ro,false,none,[]⟩:=by kernel_rfl
theorem Nr:pv.fi 25=some ⟨Tryz.f25,24,.ro,false,none,[]⟩:=by kernel_rfl
theorem Nq:pv.fi 26=some ⟨Tryz.f26,6,.rw,false,none,[]⟩:=by kernel_rfl
theorem Np:pv.fi 27=some ⟨Tryz.f27,5,.rw,false,none,[]⟩:=by kernel_rfl
theorem Nn:pv.fi 28=some ⟨Tryz.f28,7,.ro,false,none,[]⟩:=by kernel_rfl
theorem Jm:pv.fi 29=some ⟨Tryz.f29,8,.rw,false,none,[]⟩:=by kernel_rfl
theorem Nk:pv.fi 30=some ⟨Tryz.f30,68,.cD,false,none,[]⟩:=by kernel_rfl
theorem Nj:pv.fi 31=some ⟨Tryz.f31,78,.cD,false,none,[]⟩:=by kernel_rfl
theorem Ni:pv.fi 32=some ⟨Tryz.f32,5,.ro,false,none,[]⟩:=by kernel_rfl
theorem Nh:pv.fi 33=some ⟨Tryz.f33,8,.cD,false,none,[]⟩:=by kernel_rfl
theorem Ng:pv.fi 34=some ⟨Tryz.f34,12,.cD,false,none,[]⟩:=by kernel_rfl
theorem Nf:pv.fi 35=some ⟨Tryz.f35,24,.ro,false,none,[]⟩:=by kernel_rfl
theorem Nd:pv.fi 36=some ⟨Tryz.f36,6,.ro,false,none,[]⟩:=by kernel_rfl
theorem Nc:pv.fi 37=some ⟨Tryz.f37,39,.rw,false,none,[]⟩:=by kernel_rfl
theorem Nb:pv.fi 38=some ⟨Tryz.f38,11,.ro,false,none,[]⟩:=by kernel_rfl
theorem Na:pv.fi 39=some ⟨Tryz.f39,4,.rw,false,none,[]⟩:=by kernel_rfl
theorem Jl:pv.fi 40=some ⟨Tryz.f40,30,.ro,false,none,[(22,[(3,7),(5,7),(5,9)])]⟩:=by kernel_rfl
theorem M_:pv.fi 41=some ⟨Tryz.f41,7,.ro,false,none,[]⟩:=by kernel_rfl
theorem M9:pv.fi 42=some ⟨Tryz.f42,4,.rw,false,none,[]⟩:=by kernel_rfl
theorem M8:pv.fi 43=some ⟨Tryz.f43,6,.ro,false,none,[]⟩:=by kernel_rfl
theorem M7:pv.fi 44=some ⟨Tryz.f44,4,.rw,false,none,[]⟩:=by kernel_rfl
theorem M6:pv.fi 45=some ⟨Tryz.f45,7,.rw,false,none,[]⟩:=by kernel_rfl
theorem M5:pv.fi 46=some ⟨Tryz.f46,3,.ro,false,none,[]⟩:=by kernel_rfl
theorem M4:pv.fi 47=some ⟨Tryz.f47,6,.ro,false,none,[]⟩:=by kernel_rfl
theorem M3:pv.fi 48=some ⟨Tryz.f48,27,.rw,false,none,[]⟩:=by kernel_rfl
theorem M1:pv.fi 49=some ⟨Tryz.f49,15,.rw,false,none,[]⟩:=by kernel_rfl
theorem M0:pv.fi 50=some ⟨Tryz.f50,4,.ro,false,none,[]⟩:=by kernel_rfl
theorem MZ:pv.fi 51=some ⟨Tryz.f51,3,.ro,false,none,[]⟩:=by kernel_rfl
theorem MY:pv.fi 52=some ⟨Tryz.f52,5,.ro,false,none,[]⟩:=by kernel_rfl
theorem MX:pv.fi 53=some ⟨Tryz.f53,9,.ro,false,none,[]⟩:=by kernel_rfl
theorem MW:pv.fi 54=some ⟨Tryz.f54,4,.rw,false,none,[]⟩:=by kernel_rfl
theorem MV:pv.fi 55=some ⟨Tryz.f55,5,.rw,false,none,[]⟩:=by kernel_rfl
theorem MU:pv.fi 56=some ⟨Tryz.f56,27,.ro,false,none,[]⟩:=by kernel_rfl
theorem MT:pv.fi 57=some ⟨Tryz.f57,11,.rw,false,none,[]⟩:=by kernel_rfl
theorem MS:pv.fi 58=some ⟨Tryz.f58,3,.cD,false,none,[]⟩:=by kernel_rfl
theorem MR:pv.fi 59=some ⟨Tryz.f59,11,.rw,false,none,[]⟩:=by kernel_rfl
theorem MQ:pv.fi 60=some ⟨Tryz.f60,6,.ro,false,none,[]⟩:=by kernel_rfl
theorem MP:pv.fi 61=some ⟨Tryz.f61,43,.rw,false,none,[]⟩:=by kernel_rfl
theorem MO:pv.fi 62=some ⟨Tryz.f62,6,.rw,false,none,[]⟩:=by kernel_rfl
theorem MN:pv.fi 63=some ⟨Tryz.f63,5,.ro,false,none,[]⟩:=by kernel_rfl
theorem MM:pv.fi 64=some ⟨Tryz.f64,6,.ro,false,none,[]⟩:=by kernel_rfl
theorem ML:pv.fi 65=some ⟨Tryz.f65,14,.ro,false,none,[]⟩:=by kernel_rfl
theorem MK:pv.fi 66=some ⟨Tryz.f66,26,.ro,false,none,[]⟩:=by kernel_rfl
theorem MJ:pv.fi 67=some ⟨Tryz.f67,6,.ro,false,none,[]⟩:=by kernel_rfl
theorem MI:pv.fi 68=some ⟨Tryz.f68,5,.ro,false,none,[]⟩:=by kernel_rfl
theorem MH:pv.fi 69=some ⟨Tryz.f69,5,.rw,false,none,[]⟩:=by kernel_rfl
theorem MG:pv.fi 70=some ⟨Tryz.f70,5,.rw,false,none,[]⟩:=by kernel_rfl
theorem MF:pv.fi 71=some ⟨Tryz.f71,2,.rw,false,none,[]⟩:=by kernel_rfl
theorem ME:pv.fi 72=some ⟨Tryz.f72,26,.rw,false,none,[]⟩:=by kernel_rfl
theorem MD:pv.fi 73=some ⟨Tryz.f73,3,.ro,false,none,[]⟩:=by kernel_rfl
theorem MC:pv.fi 74=some ⟨Tryz.f74,7,.ro,false,none,[]⟩:=by kernel_rfl
theorem MB:pv.fi 75=some ⟨Tryz.f75,6,.ro,false,none,[]⟩:=by kernel_rfl
theorem MA:pv.fi 76=some ⟨Tryz.f76,7,.cD,false,none,[]⟩:=by kernel_rfl
theorem Mz:pv.fi 77=some ⟨Tryz.f77,3,.ro,false,none,[]⟩:=by kernel_rfl
theorem My:pv.fi 78=some ⟨Tryz.f78,20,.ro,false,none,[]⟩:=by kernel_rfl
theorem Mx:pv.fi 81=some ⟨Tryz.f81,26,.rw,false,none,[]⟩:=by kernel_rfl
theorem Mw:pv.fi 82=some ⟨Tryz.f82,14,.rw,false,none,[]⟩:=by kernel_rfl
theorem Mv:pv.fi 85=some ⟨Tryz.f85,5,.rw,false,none,[]⟩:=by kernel_rfl
theorem Mu:pv.fi 86=some ⟨Tryz.f86,7,.rw,false,none,[]⟩:=by kernel_rfl
theorem Mt:pv.fi 87=some ⟨Tryz.f87,7,.rw,false,none,[]⟩:=by kernel_rfl
theorem Ms:pv.fi 88=some ⟨Tryz.f88,61,.rw,true,none,[]⟩:=by kernel_rfl
theorem Mr:pv.fi 89=some ⟨Tryz.f89,1,.ro,false,none,[]⟩:=by kernel_rfl
theorem Mq:pv.fi 90=some ⟨Tryz.f90,3,.ro,false,none,[]⟩:=by kernel_rfl
theorem Mp:pv.fi 92=some ⟨Tryz.f92,5,.ro,false,none,[]⟩:=by kernel_rfl
theorem Mo:pv.fi 93=some ⟨Tryz.f93,12,.ro,false,none,[]⟩:=by kernel_rfl
theorem Jq:pv.fi 104=some ⟨Tryz.f104,8,.rw,false,none,[]⟩:=by kernel_rfl
theorem Jp:pv.fi 105=some ⟨Tryz.f105,11,.ro,false,none,[]⟩:=by kernel_rfl
theorem Jo:pv.fi 106=some ⟨Tryz.f106,3,.ro,false,none,[]⟩:=by kernel_rfl
theorem Jn:pv.fi 115=some ⟨Tryz.f115,29,.rw,true,none,[]⟩:=by kernel_rfl
end Go.Proofs.YtajblankjjmonaaGreat
