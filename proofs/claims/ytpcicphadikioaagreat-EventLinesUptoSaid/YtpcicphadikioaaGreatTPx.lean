/-
 The view with what was reckoned once laid over it. By program.
-/
import Derived.Test.YtpcicphadikioaaGreatTView
import Derived.Test.YtpcicphadikioaaGreatTM2
import Derived.Test.YtpcicphadikioaaGreatTRzEventRuns
import Derived.Test.YtpcicphadikioaaGreatTRzNone
import Derived.Test.YtpcicphadikioaaGreatTDgp
import Derived.Test.YtpcicphadikioaaGreatTSrp
import Derived.Test.YtpcicphadikioaaGreatTSrf
set_option maxRecDepth 100000
namespace Go.Proofs.YtpcicphadikioaaGreat
open Go.V
noncomputable def pv:Pv:=dN.over [(7,sK (.bool true)),(73,sK (.agg [.int .i64 (-1),.int .i64 (-1),.int .i64 (-1),.int .i64 (-1),.int .i64 (-1),.int .i64 (-1),.int .i64 (-1),.int .i64 (-1),.int .i64 (-1),.int .i64 (-1)])),(93,BO),(98,AM),(24,rY)]
theorem view:pv.Ok Tryz.prog∧pv.fc∧fk Tryz.prog pv (cW pv):=by
 refine nc k_ rfl fun q hq=>?_;simp only[List.mem_cons,List.not_mem_nil,or_false] at hq
 rcases hq with rfl|rfl|rfl|rfl|rfl
 ·exact uR
 ·exact A9
 ·exact Gl (by kernel_rfl)
 ·exact E_ k_ (by kernel_rfl)
 ·exact Cn k_ (fun _ _ _ _ _ _ _ _ _ h1 h2 h3=>Eb h1 h2 h3) (by kernel_rfl)
theorem TS:pv.fi 3=some ⟨Tryz.f3,15,.ro,false,none,[]⟩:=by kernel_rfl
theorem TR:pv.fi 4=some ⟨Tryz.f4,11,.ch,false,none,[]⟩:=by kernel_rfl
theorem TQ:pv.fi 5=some ⟨Tryz.f5,5,.ro,false,none,[]⟩:=by kernel_rfl
theorem TP:pv.fi 6=some ⟨Tryz.f6,9,.ro,false,none,[]⟩:=by kernel_rfl
theorem TO:pv.fi 8=some ⟨Tryz.f8,40,.ro,false,none,[(20,[(11,13)])]⟩:=by kernel_rfl
theorem TN:pv.fi 9=some ⟨Tryz.f9,18,.ch,false,none,[]⟩:=by kernel_rfl
theorem Pl:pv.fi 10=some ⟨Tryz.f10,3,.ro,false,none,[]⟩:=by kernel_rfl
theorem Pk:pv.fi 11=some ⟨Tryz.f11,24,.ro,false,none,[]⟩:=by kernel_rfl
theorem Pj:pv.fi 12=some ⟨Tryz.f12,18,.ro,false,none,[]⟩:=by kernel_rfl
theorem Ph:pv.fi 13=some ⟨Tryz.f13,4,.ro,false,none,[]⟩:=by kernel_rfl
theorem Pf:pv.fi 14=some ⟨Tryz.f14,7,.ro,false,none,[]⟩:=by kernel_rfl
theorem Pc:pv.fi 17=some ⟨Tryz.f17,4,.ro,false,none,[(1,[(9,11)])]⟩:=by kernel_rfl
theorem Pb:pv.fi 18=some ⟨Tryz.f18,1,.ch,false,none,[]⟩:=by kernel_rfl
theorem K6:pv.fi 19=some ⟨Tryz.f19,6,.ch,false,none,[]⟩:=by kernel_rfl
theorem Pa:pv.fi 20=some ⟨Tryz.f20,3,.ch,false,none,[]⟩:=by kernel_rfl
theorem O':pv.fi 21=some ⟨Tryz.f21,1,.ch,false,none,[]⟩:=by kernel_rfl
theorem O_:pv.fi 22=some ⟨Tryz.f22,1,.ch,false,none,[]⟩:=by kernel_rfl
theorem O9:pv.fi 23=some ⟨Tryz.f23,16,.ro,false,none,[]⟩:=by kernel_rfl
theorem O8:pv.fi 25=some ⟨Tryz.f25,6,.ro,false,none,[]⟩:=by kernel_rfl
theorem O7:pv.fi 26=some ⟨Tryz.f26,4,.rw,false,none,[]⟩:=by kernel_rfl
theorem O6:pv.fi 27=some ⟨Tryz.f27,7,.rw,false,none,[]⟩:=by kernel_rfl
theorem O5:pv.fi 28=some ⟨Tryz.f28,4,.ro,false,none,[]⟩:=by kernel_rfl
theorem O4:pv.fi 29=some ⟨Tryz.f29,36,.rw,false,none,[]⟩:=by kernel_rfl
theorem O3:pv.fi 30=some ⟨Tryz.f30,16,.rw,false,none,[]⟩:=by kernel_rfl
theorem O2:pv.fi 31=some ⟨Tryz.f31,5,.ch,false,none,[]⟩:=by kernel_rfl
theorem O1:pv.fi 32=some ⟨Tryz.f32,40,.ch,false,none,[]⟩:=by kernel_rfl
theorem O0:pv.fi 33=some ⟨Tryz.f33,16,.ro,false,none,[]⟩:=by kernel_rfl
theorem OZ:pv.fi 34=some ⟨Tryz.f34,28,.ro,false,none,[]⟩:=by kernel_rfl
theorem OY:pv.fi 35=some ⟨Tryz.f35,23,.ro,false,none,[]⟩:=by kernel_rfl
theorem OX:pv.fi 39=some ⟨Tryz.f39,14,.ro,false,none,[]⟩:=by kernel_rfl
theorem OW:pv.fi 40=some ⟨Tryz.f40,9,.ro,false,none,[]⟩:=by kernel_rfl
theorem OV:pv.fi 43=some ⟨Tryz.f43,9,.ro,false,none,[]⟩:=by kernel_rfl
theorem OU:pv.fi 44=some ⟨Tryz.f44,4,.rw,false,none,[]⟩:=by kernel_rfl
theorem OT:pv.fi 45=some ⟨Tryz.f45,5,.rw,false,none,[]⟩:=by kernel_rfl
theorem OS:pv.fi 46=some ⟨Tryz.f46,27,.ro,false,none,[]⟩:=by kernel_rfl
theorem K5:pv.fi 47=some ⟨Tryz.f47,8,.rw,false,none,[]⟩:=by kernel_rfl
theorem OR:pv.fi 48=some ⟨Tryz.f48,68,.ch,false,none,[]⟩:=by kernel_rfl
theorem OQ:pv.fi 49=some ⟨Tryz.f49,78,.ch,false,none,[]⟩:=by kernel_rfl
theorem OP:pv.fi 50=some ⟨Tryz.f50,4,.ro,false,none,[]⟩:=by kernel_rfl
theorem OO:pv.fi 51=some ⟨Tryz.f51,5,.ro,false,none,[]⟩:=by kernel_rfl
theorem ON:pv.fi 52=some ⟨Tryz.f52,4,.ro,false,none,[]⟩:=by kernel_rfl
theorem OM:pv.fi 57=some ⟨Tryz.f57,5,.ro,false,none,[]⟩:=by kernel_rfl
theorem OL:pv.fi 58=some ⟨Tryz.f58,5,.rw,false,none,[]⟩:=by kernel_rfl
theorem OK:pv.fi 59=some ⟨Tryz.f59,5,.rw,false,none,[]⟩:=by kernel_rfl
theorem OJ:pv.fi 60=some ⟨Tryz.f60,11,.ro,false,none,[]⟩:=by kernel_rfl
theorem OI:pv.fi 61=some ⟨Tryz.f61,4,.rw,false,none,[]⟩:=by kernel_rfl
theorem OH:pv.fi 62=some ⟨Tryz.f62,11,.ch,false,none,[]⟩:=by kernel_rfl
theorem OG:pv.fi 63=some ⟨Tryz.f63,8,.rw,false,none,[]⟩:=by kernel_rfl
theorem OE:pv.fi 64=some ⟨Tryz.f64,3,.ro,false,none,[]⟩:=by kernel_rfl
theorem OD:pv.fi 65=some ⟨Tryz.f65,7,.ro,false,none,[]⟩:=by kernel_rfl
theorem OC:pv.fi 66=some ⟨Tryz.f66,11,.ro,false,none,[(7,[(6,9)])]⟩:=by kernel_rfl
theorem OB:pv.fi 67=some ⟨Tryz.f67,9,.ro,false,none,[]⟩:=by kernel_rfl
theorem OA:pv.fi 68=some ⟨Tryz.f68,3,.ro,false,none,[]⟩:=by kernel_rfl
theorem Oz:pv.fi 69=some ⟨Tryz.f69,3,.ro,false,none,[]⟩:=by kernel_rfl
theorem Oy:pv.fi 76=some ⟨Tryz.f76,26,.rw,false,none,[]⟩:=by kernel_rfl
theorem Ox:pv.fi 77=some ⟨Tryz.f77,14,.rw,false,none,[]⟩:=by kernel_rfl
theorem Ow:pv.fi 78=some ⟨Tryz.f78,4,.ro,false,none,[]⟩:=by kernel_rfl
theorem Ov:pv.fi 79=some ⟨Tryz.f79,3,.ro,false,none,[]⟩:=by kernel_rfl
theorem Ou:pv.fi 80=some ⟨Tryz.f80,9,.ro,false,none,[]⟩:=by kernel_rfl
theorem Ot:pv.fi 81=some ⟨Tryz.f81,26,.ro,false,none,[]⟩:=by kernel_rfl
theorem Oq:pv.fi 82=some ⟨Tryz.f82,5,.ro,false,none,[]⟩:=by kernel_rfl
theorem Oo:pv.fi 83=some ⟨Tryz.f83,4,.ro,false,none,[]⟩:=by kernel_rfl
theorem On:pv.fi 84=some ⟨Tryz.f84,7,.ro,false,none,[(1,[(3,6)])]⟩:=by kernel_rfl
theorem Om:pv.fi 87=some ⟨Tryz.f87,5,.rw,false,none,[]⟩:=by kernel_rfl
theorem Ol:pv.fi 88=some ⟨Tryz.f88,7,.rw,false,none,[]⟩:=by kernel_rfl
theorem Oj:pv.fi 89=some ⟨Tryz.f89,7,.rw,false,none,[]⟩:=by kernel_rfl
theorem Oi:pv.fi 90=some ⟨Tryz.f90,61,.rw,true,none,[]⟩:=by kernel_rfl
theorem Oh:pv.fi 91=some ⟨Tryz.f91,1,.ro,false,none,[]⟩:=by kernel_rfl
theorem Og:pv.fi 92=some ⟨Tryz.f92,3,.ro,false,none,[]⟩:=by kernel_rfl
theorem Of:pv.fi 94=some ⟨Tryz.f94,5,.ro,false,none,[]⟩:=by kernel_rfl
theorem Oe:pv.fi 95=some ⟨Tryz.f95,12,.ro,false,none,[]⟩:=by kernel_rfl
theorem Od:pv.fi 96=some ⟨Tryz.f96,14,.ro,false,none,[]⟩:=by kernel_rfl
theorem Oc:pv.fi 97=some ⟨Tryz.f97,20,.ro,false,none,[]⟩:=by kernel_rfl
theorem K':pv.fi 100=some ⟨Tryz.f100,18,.ro,false,none,[]⟩:=by kernel_rfl
theorem K_:pv.fi 101=some ⟨Tryz.f101,8,.rw,false,none,[]⟩:=by kernel_rfl
theorem K9:pv.fi 102=some ⟨Tryz.f102,11,.ro,false,none,[]⟩:=by kernel_rfl
theorem K8:pv.fi 103=some ⟨Tryz.f103,3,.ro,false,none,[]⟩:=by kernel_rfl
theorem K7:pv.fi 109=some ⟨Tryz.f109,29,.rw,true,none,[]⟩:=by kernel_rfl
end Go.Proofs.YtpcicphadikioaaGreat
