/-
 The view with what was reckoned once laid over it. By program.
-/
import Derived.Test.YtnleclohocdkaaaVView
import Derived.Test.YtnleclohocdkaaaVM2
import Derived.Test.YtnleclohocdkaaaVRzVmRuns
import Derived.Test.YtnleclohocdkaaaVRzNone
import Derived.Test.YtnleclohocdkaaaVDgp
import Derived.Test.YtnleclohocdkaaaVSrp
set_option maxRecDepth 100000
namespace Go.Proofs.Ytnleclohocdkaaa
open Go.V
noncomputable def pv:Pv:=iZ.over [(33,ox (.bool true)),(83,ox (.agg [.int .i64 (-1),.int .i64 (-1),.int .i64 (-1),.int .i64 (-1),.int .i64 (-1),.int .i64 (-1),.int .i64 (-1),.int .i64 (-1),.int .i64 (-1),.int .i64 (-1)])),(93,ox (.agg [.int .i64 (-1),.int .i64 (-1),.int .i64 (-1),.int .i64 (-1),.int .i64 (-1),.int .i64 (-1),.int .i64 (-1),.int .i64 (-1),.int .i64 (-1),.int .i64 (-1)])),(126,BX),(115,AY)]
theorem view:pv.Ok Try.prog∧pv.ig∧gE Try.prog pv (dL pv):=by
 refine nb lE rfl fun q hq=>?_;simp only[List.mem_cons,List.not_mem_nil,or_false] at hq
 rcases hq with rfl|rfl|rfl|rfl|rfl
 ·exact AU
 ·exact Bk
 ·exact Bj
 ·exact F' (by kernel_rfl)
 ·exact E_ lE (by kernel_rfl)
theorem Pb:pv.fi 10=some ⟨Try.f10,27,.ro,false,none,[]⟩:=by kernel_rfl
theorem Pa:pv.fi 11=some ⟨Try.f11,24,.ro,false,none,[]⟩:=by kernel_rfl
theorem O':pv.fi 12=some ⟨Try.f12,18,.ro,false,none,[]⟩:=by kernel_rfl
theorem O_:pv.fi 16=some ⟨Try.f16,49,.ro,false,none,[]⟩:=by kernel_rfl
theorem O9:pv.fi 28=some ⟨Try.f28,6,.ro,false,none,[]⟩:=by kernel_rfl
theorem O8:pv.fi 32=some ⟨Try.f32,11,.ro,false,none,[]⟩:=by kernel_rfl
theorem O7:pv.fi 34=some ⟨Try.f34,6,.bO,false,none,[]⟩:=by kernel_rfl
theorem O6:pv.fi 35=some ⟨Try.f35,13,.bO,false,none,[(3,[(3,8)])]⟩:=by kernel_rfl
theorem O5:pv.fi 36=some ⟨Try.f36,6,.ro,false,none,[]⟩:=by kernel_rfl
theorem O4:pv.fi 37=some ⟨Try.f37,13,.bO,false,none,[]⟩:=by kernel_rfl
theorem O3:pv.fi 38=some ⟨Try.f38,4,.rw,false,none,[]⟩:=by kernel_rfl
theorem O2:pv.fi 39=some ⟨Try.f39,7,.rw,false,none,[]⟩:=by kernel_rfl
theorem O1:pv.fi 40=some ⟨Try.f40,4,.ro,false,none,[]⟩:=by kernel_rfl
theorem O0:pv.fi 41=some ⟨Try.f41,36,.rw,false,none,[]⟩:=by kernel_rfl
theorem OZ:pv.fi 42=some ⟨Try.f42,16,.rw,false,none,[]⟩:=by kernel_rfl
theorem OY:pv.fi 43=some ⟨Try.f43,5,.bO,false,none,[]⟩:=by kernel_rfl
theorem OX:pv.fi 44=some ⟨Try.f44,40,.bO,false,none,[]⟩:=by kernel_rfl
theorem OW:pv.fi 48=some ⟨Try.f48,39,.ro,false,none,[]⟩:=by kernel_rfl
theorem OV:pv.fi 49=some ⟨Try.f49,5,.ro,false,none,[]⟩:=by kernel_rfl
theorem OU:pv.fi 50=some ⟨Try.f50,41,.ro,false,none,[]⟩:=by kernel_rfl
theorem OT:pv.fi 61=some ⟨Try.f61,9,.ro,false,none,[]⟩:=by kernel_rfl
theorem OS:pv.fi 66=some ⟨Try.f66,6,.bO,false,none,[]⟩:=by kernel_rfl
theorem OR:pv.fi 67=some ⟨Try.f67,11,.bO,false,none,[]⟩:=by kernel_rfl
theorem OQ:pv.fi 68=some ⟨Try.f68,25,.bO,false,none,[]⟩:=by kernel_rfl
theorem OP:pv.fi 69=some ⟨Try.f69,6,.ro,false,none,[]⟩:=by kernel_rfl
theorem OO:pv.fi 70=some ⟨Try.f70,37,.bO,false,none,[(10,[(4,5)])]⟩:=by kernel_rfl
theorem ON:pv.fi 71=some ⟨Try.f71,4,.rw,false,none,[]⟩:=by kernel_rfl
theorem OM:pv.fi 72=some ⟨Try.f72,5,.rw,false,none,[]⟩:=by kernel_rfl
theorem OL:pv.fi 73=some ⟨Try.f73,27,.ro,false,none,[]⟩:=by kernel_rfl
theorem KS:pv.fi 74=some ⟨Try.f74,8,.rw,false,none,[]⟩:=by kernel_rfl
theorem OK:pv.fi 75=some ⟨Try.f75,68,.bO,false,none,[]⟩:=by kernel_rfl
theorem OJ:pv.fi 76=some ⟨Try.f76,78,.bO,false,none,[]⟩:=by kernel_rfl
theorem OI:pv.fi 77=some ⟨Try.f77,3,.ro,false,none,[]⟩:=by kernel_rfl
theorem OH:pv.fi 85=some ⟨Try.f85,5,.ro,false,none,[]⟩:=by kernel_rfl
theorem OG:pv.fi 91=some ⟨Try.f91,4,.bO,false,none,[]⟩:=by kernel_rfl
theorem OE:pv.fi 92=some ⟨Try.f92,14,.ro,false,none,[]⟩:=by kernel_rfl
theorem OD:pv.fi 94=some ⟨Try.f94,1,.bO,false,none,[]⟩:=by kernel_rfl
theorem OC:pv.fi 95=some ⟨Try.f95,10,.ro,false,none,[]⟩:=by kernel_rfl
theorem OB:pv.fi 96=some ⟨Try.f96,7,.bO,false,none,[]⟩:=by kernel_rfl
theorem OA:pv.fi 97=some ⟨Try.f97,33,.bO,false,none,[(8,[(9,12)])]⟩:=by kernel_rfl
theorem Oz:pv.fi 98=some ⟨Try.f98,5,.rw,false,none,[]⟩:=by kernel_rfl
theorem Oy:pv.fi 99=some ⟨Try.f99,5,.rw,false,none,[]⟩:=by kernel_rfl
theorem Ld:pv.fi 100=some ⟨Try.f100,11,.ro,false,none,[]⟩:=by kernel_rfl
theorem Lc:pv.fi 101=some ⟨Try.f101,4,.rw,false,none,[]⟩:=by kernel_rfl
theorem Lb:pv.fi 102=some ⟨Try.f102,14,.ro,false,none,[]⟩:=by kernel_rfl
theorem La:pv.fi 103=some ⟨Try.f103,26,.ro,false,none,[]⟩:=by kernel_rfl
theorem K':pv.fi 110=some ⟨Try.f110,6,.rw,false,none,[]⟩:=by kernel_rfl
theorem K_:pv.fi 111=some ⟨Try.f111,26,.rw,false,none,[]⟩:=by kernel_rfl
theorem K9:pv.fi 112=some ⟨Try.f112,14,.rw,false,none,[]⟩:=by kernel_rfl
theorem K8:pv.fi 113=some ⟨Try.f113,4,.ro,false,none,[]⟩:=by kernel_rfl
theorem K7:pv.fi 114=some ⟨Try.f114,20,.ro,false,none,[]⟩:=by kernel_rfl
theorem K6:pv.fi 120=some ⟨Try.f120,5,.rw,false,none,[]⟩:=by kernel_rfl
theorem K5:pv.fi 121=some ⟨Try.f121,7,.rw,false,none,[]⟩:=by kernel_rfl
theorem K4:pv.fi 122=some ⟨Try.f122,7,.rw,false,none,[]⟩:=by kernel_rfl
theorem K3:pv.fi 123=some ⟨Try.f123,61,.rw,true,none,[]⟩:=by kernel_rfl
theorem K2:pv.fi 124=some ⟨Try.f124,1,.ro,false,none,[]⟩:=by kernel_rfl
theorem K1:pv.fi 125=some ⟨Try.f125,3,.ro,false,none,[]⟩:=by kernel_rfl
theorem K0:pv.fi 127=some ⟨Try.f127,5,.ro,false,none,[]⟩:=by kernel_rfl
theorem KZ:pv.fi 128=some ⟨Try.f128,12,.ro,false,none,[]⟩:=by kernel_rfl
theorem KY:pv.fi 131=some ⟨Try.f131,8,.rw,false,none,[]⟩:=by kernel_rfl
theorem KW:pv.fi 132=some ⟨Try.f132,11,.ro,false,none,[]⟩:=by kernel_rfl
theorem KV:pv.fi 133=some ⟨Try.f133,3,.ro,false,none,[]⟩:=by kernel_rfl
theorem KU:pv.fi 147=some ⟨Try.f147,29,.rw,true,none,[]⟩:=by kernel_rfl
end Go.Proofs.Ytnleclohocdkaaa
