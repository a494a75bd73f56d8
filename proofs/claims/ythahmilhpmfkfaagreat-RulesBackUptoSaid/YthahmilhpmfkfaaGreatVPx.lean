/-
 The view with what was reckoned once laid over it. By program.
-/
import Derived.Test.YthahmilhpmfkfaaGreatVView
import Derived.Test.YthahmilhpmfkfaaGreatVM2
import Derived.Test.YthahmilhpmfkfaaGreatVRzRulesRuns
import Derived.Test.YthahmilhpmfkfaaGreatVDgp
import Derived.Test.YthahmilhpmfkfaaGreatVSrp
import Derived.Test.YthahmilhpmfkfaaGreatVSrf
set_option maxRecDepth 100000
namespace Go.Proofs.YthahmilhpmfkfaaGreat
open Go.V
noncomputable def pv:Pv:=eQ.over [(6,B1 (.bool true)),(102,D7),(107,C3),(40,uh)]
theorem view:pv.Ok Tryz.prog∧pv.gC∧gx Tryz.prog pv (dJ pv):=by
 refine ud rC rfl fun q hq=>?_;simp only[List.mem_cons,List.not_mem_nil,or_false] at hq
 rcases hq with rfl|rfl|rfl|rfl
 ·exact vS
 ·exact Jq (by kernel_rfl)
 ·exact HU rC (by kernel_rfl)
 ·exact EI rC (fun _ _ _ _ _ _ _ _ _ h1 h2 h3=>GR h1 h2 h3) (by kernel_rfl)
theorem XP:pv.fi 3=some ⟨Tryz.f3,15,.ro,false,none,[(22,[(1,2)])]⟩:=by kernel_rfl
theorem XO:pv.fi 4=some ⟨Tryz.f4,3,.ro,false,none,[]⟩:=by kernel_rfl
theorem XN:pv.fi 5=some ⟨Tryz.f5,11,.cM,false,none,[]⟩:=by kernel_rfl
theorem XM:pv.fi 7=some ⟨Tryz.f7,3,.nw,false,none,[]⟩:=by kernel_rfl
theorem XL:pv.fi 8=some ⟨Tryz.f8,5,.ro,false,none,[]⟩:=by kernel_rfl
theorem XK:pv.fi 9=some ⟨Tryz.f9,4,.rw,false,none,[]⟩:=by kernel_rfl
theorem Ti:pv.fi 10=some ⟨Tryz.f10,3,.rw,false,none,[]⟩:=by kernel_rfl
theorem Th:pv.fi 11=some ⟨Tryz.f11,5,.ro,false,none,[]⟩:=by kernel_rfl
theorem Tf:pv.fi 12=some ⟨Tryz.f12,4,.ro,false,none,[]⟩:=by kernel_rfl
theorem Te:pv.fi 13=some ⟨Tryz.f13,3,.cM,false,none,[]⟩:=by kernel_rfl
theorem Td:pv.fi 14=some ⟨Tryz.f14,3,.cM,false,none,[]⟩:=by kernel_rfl
theorem Tc:pv.fi 15=some ⟨Tryz.f15,8,.ro,false,none,[(6,[(6,12),(8,12),(9,12)])]⟩:=by kernel_rfl
theorem Tb:pv.fi 16=some ⟨Tryz.f16,18,.cM,false,none,[]⟩:=by kernel_rfl
theorem Ta:pv.fi 17=some ⟨Tryz.f17,3,.cM,false,none,[]⟩:=by kernel_rfl
theorem S':pv.fi 18=some ⟨Tryz.f18,24,.ro,false,none,[]⟩:=by kernel_rfl
theorem S_:pv.fi 19=some ⟨Tryz.f19,18,.ro,false,none,[]⟩:=by kernel_rfl
theorem S9:pv.fi 20=some ⟨Tryz.f20,4,.ro,false,none,[]⟩:=by kernel_rfl
theorem S8:pv.fi 26=some ⟨Tryz.f26,17,.ro,false,none,[]⟩:=by kernel_rfl
theorem S7:pv.fi 27=some ⟨Tryz.f27,5,.ro,false,none,[]⟩:=by kernel_rfl
theorem S6:pv.fi 28=some ⟨Tryz.f28,6,.ro,false,none,[]⟩:=by kernel_rfl
theorem S5:pv.fi 29=some ⟨Tryz.f29,11,.rw,false,none,[]⟩:=by kernel_rfl
theorem S4:pv.fi 30=some ⟨Tryz.f30,4,.rw,false,none,[]⟩:=by kernel_rfl
theorem S3:pv.fi 31=some ⟨Tryz.f31,8,.rw,false,none,[]⟩:=by kernel_rfl
theorem S1:pv.fi 32=some ⟨Tryz.f32,6,.ro,false,none,[]⟩:=by kernel_rfl
theorem S0:pv.fi 33=some ⟨Tryz.f33,9,.ro,false,none,[]⟩:=by kernel_rfl
theorem SZ:pv.fi 34=some ⟨Tryz.f34,22,.ro,false,none,[]⟩:=by kernel_rfl
theorem SY:pv.fi 35=some ⟨Tryz.f35,14,.cM,false,none,[]⟩:=by kernel_rfl
theorem SX:pv.fi 36=some ⟨Tryz.f36,6,.ro,false,none,[]⟩:=by kernel_rfl
theorem SV:pv.fi 37=some ⟨Tryz.f37,6,.ro,false,none,[]⟩:=by kernel_rfl
theorem SU:pv.fi 38=some ⟨Tryz.f38,1,.cM,false,none,[]⟩:=by kernel_rfl
theorem SS:pv.fi 39=some ⟨Tryz.f39,16,.ro,false,none,[]⟩:=by kernel_rfl
theorem SR:pv.fi 41=some ⟨Tryz.f41,6,.ro,false,none,[]⟩:=by kernel_rfl
theorem SQ:pv.fi 42=some ⟨Tryz.f42,4,.rw,false,none,[]⟩:=by kernel_rfl
theorem SP:pv.fi 43=some ⟨Tryz.f43,7,.rw,false,none,[]⟩:=by kernel_rfl
theorem SO:pv.fi 44=some ⟨Tryz.f44,4,.ro,false,none,[]⟩:=by kernel_rfl
theorem SN:pv.fi 45=some ⟨Tryz.f45,36,.rw,false,none,[]⟩:=by kernel_rfl
theorem SM:pv.fi 46=some ⟨Tryz.f46,16,.rw,false,none,[]⟩:=by kernel_rfl
theorem SL:pv.fi 47=some ⟨Tryz.f47,5,.cM,false,none,[]⟩:=by kernel_rfl
theorem SK:pv.fi 48=some ⟨Tryz.f48,40,.cM,false,none,[]⟩:=by kernel_rfl
theorem SJ:pv.fi 49=some ⟨Tryz.f49,16,.ro,false,none,[]⟩:=by kernel_rfl
theorem SI:pv.fi 50=some ⟨Tryz.f50,28,.ro,false,none,[]⟩:=by kernel_rfl
theorem SH:pv.fi 51=some ⟨Tryz.f51,23,.ro,false,none,[]⟩:=by kernel_rfl
theorem SG:pv.fi 53=some ⟨Tryz.f53,9,.nw,false,none,[]⟩:=by kernel_rfl
theorem SF:pv.fi 54=some ⟨Tryz.f54,6,.nw,false,none,[]⟩:=by kernel_rfl
theorem SE:pv.fi 55=some ⟨Tryz.f55,7,.rw,false,none,[]⟩:=by kernel_rfl
theorem SD:pv.fi 56=some ⟨Tryz.f56,7,.rw,false,none,[]⟩:=by kernel_rfl
theorem SC:pv.fi 59=some ⟨Tryz.f59,9,.ro,false,none,[]⟩:=by kernel_rfl
theorem SB:pv.fi 60=some ⟨Tryz.f60,4,.rw,false,none,[]⟩:=by kernel_rfl
theorem SA:pv.fi 61=some ⟨Tryz.f61,5,.rw,false,none,[]⟩:=by kernel_rfl
theorem Sz:pv.fi 62=some ⟨Tryz.f62,27,.ro,false,none,[]⟩:=by kernel_rfl
theorem Ov:pv.fi 63=some ⟨Tryz.f63,8,.rw,false,none,[]⟩:=by kernel_rfl
theorem Sy:pv.fi 64=some ⟨Tryz.f64,68,.cM,false,none,[]⟩:=by kernel_rfl
theorem Sx:pv.fi 65=some ⟨Tryz.f65,78,.cM,false,none,[]⟩:=by kernel_rfl
theorem Sw:pv.fi 66=some ⟨Tryz.f66,4,.ro,false,none,[]⟩:=by kernel_rfl
theorem Sv:pv.fi 67=some ⟨Tryz.f67,5,.ro,false,none,[]⟩:=by kernel_rfl
theorem Su:pv.fi 68=some ⟨Tryz.f68,4,.ro,false,none,[]⟩:=by kernel_rfl
theorem Ss:pv.fi 69=some ⟨Tryz.f69,60,.rw,false,none,[]⟩:=by kernel_rfl
theorem Sr:pv.fi 72=some ⟨Tryz.f72,5,.ro,false,none,[]⟩:=by kernel_rfl
theorem Sq:pv.fi 73=some ⟨Tryz.f73,5,.rw,false,none,[]⟩:=by kernel_rfl
theorem Sp:pv.fi 74=some ⟨Tryz.f74,5,.rw,false,none,[]⟩:=by kernel_rfl
theorem Sn:pv.fi 75=some ⟨Tryz.f75,11,.ro,false,none,[]⟩:=by kernel_rfl
theorem Sm:pv.fi 76=some ⟨Tryz.f76,4,.rw,false,none,[]⟩:=by kernel_rfl
theorem Sl:pv.fi 77=some ⟨Tryz.f77,11,.cM,false,none,[]⟩:=by kernel_rfl
theorem Sk:pv.fi 78=some ⟨Tryz.f78,8,.rw,false,none,[]⟩:=by kernel_rfl
theorem Sj:pv.fi 79=some ⟨Tryz.f79,3,.ro,false,none,[]⟩:=by kernel_rfl
theorem Si:pv.fi 80=some ⟨Tryz.f80,7,.ro,false,none,[]⟩:=by kernel_rfl
theorem Sh:pv.fi 81=some ⟨Tryz.f81,11,.ro,false,none,[(7,[(6,9)])]⟩:=by kernel_rfl
theorem Sg:pv.fi 82=some ⟨Tryz.f82,9,.ro,false,none,[]⟩:=by kernel_rfl
theorem Sf:pv.fi 83=some ⟨Tryz.f83,3,.ro,false,none,[]⟩:=by kernel_rfl
theorem Se:pv.fi 84=some ⟨Tryz.f84,3,.ro,false,none,[]⟩:=by kernel_rfl
theorem Sd:pv.fi 86=some ⟨Tryz.f86,26,.rw,false,none,[]⟩:=by kernel_rfl
theorem Sc:pv.fi 87=some ⟨Tryz.f87,14,.rw,false,none,[]⟩:=by kernel_rfl
theorem Sb:pv.fi 88=some ⟨Tryz.f88,4,.ro,false,none,[]⟩:=by kernel_rfl
theorem Sa:pv.fi 89=some ⟨Tryz.f89,3,.ro,false,none,[]⟩:=by kernel_rfl
theorem R_:pv.fi 90=some ⟨Tryz.f90,9,.ro,false,none,[]⟩:=by kernel_rfl
theorem R9:pv.fi 91=some ⟨Tryz.f91,26,.ro,false,none,[]⟩:=by kernel_rfl
theorem R8:pv.fi 92=some ⟨Tryz.f92,5,.ro,false,none,[]⟩:=by kernel_rfl
theorem R7:pv.fi 93=some ⟨Tryz.f93,4,.ro,false,none,[]⟩:=by kernel_rfl
theorem R6:pv.fi 94=some ⟨Tryz.f94,7,.ro,false,none,[(1,[(3,6)])]⟩:=by kernel_rfl
theorem R5:pv.fi 96=some ⟨Tryz.f96,5,.rw,false,none,[]⟩:=by kernel_rfl
theorem R4:pv.fi 97=some ⟨Tryz.f97,7,.rw,false,none,[]⟩:=by kernel_rfl
theorem R3:pv.fi 98=some ⟨Tryz.f98,7,.rw,false,none,[]⟩:=by kernel_rfl
theorem R2:pv.fi 99=some ⟨Tryz.f99,61,.rw,true,none,[]⟩:=by kernel_rfl
theorem OH:pv.fi 100=some ⟨Tryz.f100,1,.ro,false,none,[]⟩:=by kernel_rfl
theorem OG:pv.fi 101=some ⟨Tryz.f101,3,.ro,false,none,[]⟩:=by kernel_rfl
theorem OE:pv.fi 103=some ⟨Tryz.f103,5,.ro,false,none,[]⟩:=by kernel_rfl
theorem OD:pv.fi 104=some ⟨Tryz.f104,12,.ro,false,none,[]⟩:=by kernel_rfl
theorem OC:pv.fi 105=some ⟨Tryz.f105,14,.ro,false,none,[]⟩:=by kernel_rfl
theorem OB:pv.fi 106=some ⟨Tryz.f106,20,.ro,false,none,[]⟩:=by kernel_rfl
theorem OA:pv.fi 109=some ⟨Tryz.f109,18,.ro,false,none,[]⟩:=by kernel_rfl
theorem Oz:pv.fi 110=some ⟨Tryz.f110,8,.rw,false,none,[]⟩:=by kernel_rfl
theorem Oy:pv.fi 111=some ⟨Tryz.f111,11,.ro,false,none,[]⟩:=by kernel_rfl
theorem Ox:pv.fi 112=some ⟨Tryz.f112,3,.ro,false,none,[]⟩:=by kernel_rfl
theorem Ow:pv.fi 118=some ⟨Tryz.f118,29,.rw,true,none,[]⟩:=by kernel_rfl
end Go.Proofs.YthahmilhpmfkfaaGreat
