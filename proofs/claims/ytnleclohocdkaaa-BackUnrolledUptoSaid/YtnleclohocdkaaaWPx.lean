/-
 The view with what was reckoned once laid over it. By program.
-/
import Derived.Test.YtnleclohocdkaaaWView
import Derived.Test.YtnleclohocdkaaaWM2
import Derived.Test.YtnleclohocdkaaaWRzBackRuns
import Derived.Test.YtnleclohocdkaaaWRzNone
import Derived.Test.YtnleclohocdkaaaWDgp
import Derived.Test.YtnleclohocdkaaaWSrp
set_option maxRecDepth 100000
namespace Go.Proofs.Ytnleclohocdkaaa
open Go.V
noncomputable def pv:Pv:=eY.over [(26,jt (.bool true)),(83,jt (.agg [.int .i64 (-1),.int .i64 (-1),.int .i64 (-1),.int .i64 (-1),.int .i64 (-1),.int .i64 (-1),.int .i64 (-1),.int .i64 (-1),.int .i64 (-1),.int .i64 (-1)])),(93,jt (.agg [.int .i64 (-1),.int .i64 (-1),.int .i64 (-1),.int .i64 (-1),.int .i64 (-1),.int .i64 (-1),.int .i64 (-1),.int .i64 (-1),.int .i64 (-1),.int .i64 (-1)])),(126,yj),(115,Ai)]
theorem view:pv.Ok Try.prog∧pv.gf∧f_ Try.prog pv (dt pv):=by
 refine jk iM rfl fun q hq=>?_;simp only[List.mem_cons,List.not_mem_nil,or_false] at hq
 rcases hq with rfl|rfl|rfl|rfl|rfl
 ·exact wV
 ·exact AE
 ·exact AD
 ·exact zI (by kernel_rfl)
 ·exact DU iM (by kernel_rfl)
theorem QO:pv.fi 8=some ⟨Try.f8,20,.ro,false,none,[]⟩:=by kernel_rfl
theorem MC:pv.fi 11=some ⟨Try.f11,24,.ro,false,none,[]⟩:=by kernel_rfl
theorem MB:pv.fi 12=some ⟨Try.f12,18,.ro,false,none,[]⟩:=by kernel_rfl
theorem MA:pv.fi 16=some ⟨Try.f16,49,.ro,false,none,[]⟩:=by kernel_rfl
theorem Mz:pv.fi 24=some ⟨Try.f24,5,.ro,false,none,[]⟩:=by kernel_rfl
theorem My:pv.fi 25=some ⟨Try.f25,11,.ro,false,none,[]⟩:=by kernel_rfl
theorem Mx:pv.fi 27=some ⟨Try.f27,89,.ro,false,none,[]⟩:=by kernel_rfl
theorem Mw:pv.fi 28=some ⟨Try.f28,6,.ro,false,none,[]⟩:=by kernel_rfl
theorem Mv:pv.fi 29=some ⟨Try.f29,11,.ro,false,none,[]⟩:=by kernel_rfl
theorem Mu:pv.fi 30=some ⟨Try.f30,11,.ro,false,none,[]⟩:=by kernel_rfl
theorem Mt:pv.fi 38=some ⟨Try.f38,4,.rw,false,none,[]⟩:=by kernel_rfl
theorem Ms:pv.fi 39=some ⟨Try.f39,7,.rw,false,none,[]⟩:=by kernel_rfl
theorem Mr:pv.fi 40=some ⟨Try.f40,4,.ro,false,none,[]⟩:=by kernel_rfl
theorem Mq:pv.fi 41=some ⟨Try.f41,36,.rw,false,none,[]⟩:=by kernel_rfl
theorem Mp:pv.fi 42=some ⟨Try.f42,16,.rw,false,none,[]⟩:=by kernel_rfl
theorem Mo:pv.fi 43=some ⟨Try.f43,5,.cy,false,none,[]⟩:=by kernel_rfl
theorem Mn:pv.fi 44=some ⟨Try.f44,40,.cy,false,none,[]⟩:=by kernel_rfl
theorem Mm:pv.fi 48=some ⟨Try.f48,39,.ro,false,none,[]⟩:=by kernel_rfl
theorem Ml:pv.fi 49=some ⟨Try.f49,5,.ro,false,none,[]⟩:=by kernel_rfl
theorem Mk:pv.fi 50=some ⟨Try.f50,41,.ro,false,none,[]⟩:=by kernel_rfl
theorem Mj:pv.fi 60=some ⟨Try.f60,12,.cy,false,none,[]⟩:=by kernel_rfl
theorem Mi:pv.fi 61=some ⟨Try.f61,9,.ro,false,none,[]⟩:=by kernel_rfl
theorem Mh:pv.fi 71=some ⟨Try.f71,4,.rw,false,none,[]⟩:=by kernel_rfl
theorem Mg:pv.fi 72=some ⟨Try.f72,5,.rw,false,none,[]⟩:=by kernel_rfl
theorem Mf:pv.fi 73=some ⟨Try.f73,27,.ro,false,none,[]⟩:=by kernel_rfl
theorem I6:pv.fi 74=some ⟨Try.f74,8,.rw,false,none,[]⟩:=by kernel_rfl
theorem Me:pv.fi 75=some ⟨Try.f75,68,.cy,false,none,[]⟩:=by kernel_rfl
theorem Md:pv.fi 76=some ⟨Try.f76,78,.cy,false,none,[]⟩:=by kernel_rfl
theorem Mc:pv.fi 77=some ⟨Try.f77,3,.ro,false,none,[]⟩:=by kernel_rfl
theorem Mb:pv.fi 84=some ⟨Try.f84,24,.cy,false,none,[]⟩:=by kernel_rfl
theorem Ma:pv.fi 85=some ⟨Try.f85,5,.ro,false,none,[]⟩:=by kernel_rfl
theorem L':pv.fi 95=some ⟨Try.f95,10,.ro,false,none,[]⟩:=by kernel_rfl
theorem L_:pv.fi 98=some ⟨Try.f98,5,.rw,false,none,[]⟩:=by kernel_rfl
theorem L9:pv.fi 99=some ⟨Try.f99,5,.rw,false,none,[]⟩:=by kernel_rfl
theorem Jo:pv.fi 100=some ⟨Try.f100,11,.ro,false,none,[]⟩:=by kernel_rfl
theorem Jn:pv.fi 101=some ⟨Try.f101,4,.rw,false,none,[]⟩:=by kernel_rfl
theorem Jm:pv.fi 102=some ⟨Try.f102,14,.ro,false,none,[]⟩:=by kernel_rfl
theorem Jl:pv.fi 103=some ⟨Try.f103,26,.ro,false,none,[]⟩:=by kernel_rfl
theorem Jk:pv.fi 111=some ⟨Try.f111,26,.rw,false,none,[]⟩:=by kernel_rfl
theorem Jj:pv.fi 112=some ⟨Try.f112,14,.rw,false,none,[]⟩:=by kernel_rfl
theorem Ji:pv.fi 113=some ⟨Try.f113,4,.ro,false,none,[]⟩:=by kernel_rfl
theorem Jh:pv.fi 114=some ⟨Try.f114,20,.ro,false,none,[]⟩:=by kernel_rfl
theorem Jg:pv.fi 120=some ⟨Try.f120,5,.rw,false,none,[]⟩:=by kernel_rfl
theorem Jf:pv.fi 121=some ⟨Try.f121,7,.rw,false,none,[]⟩:=by kernel_rfl
theorem Je:pv.fi 122=some ⟨Try.f122,7,.rw,false,none,[]⟩:=by kernel_rfl
theorem Jd:pv.fi 123=some ⟨Try.f123,61,.rw,true,none,[]⟩:=by kernel_rfl
theorem Jc:pv.fi 124=some ⟨Try.f124,1,.ro,false,none,[]⟩:=by kernel_rfl
theorem Jb:pv.fi 125=some ⟨Try.f125,3,.ro,false,none,[]⟩:=by kernel_rfl
theorem Ja:pv.fi 127=some ⟨Try.f127,5,.ro,false,none,[]⟩:=by kernel_rfl
theorem I':pv.fi 128=some ⟨Try.f128,12,.ro,false,none,[]⟩:=by kernel_rfl
theorem I_:pv.fi 131=some ⟨Try.f131,8,.rw,false,none,[]⟩:=by kernel_rfl
theorem I9:pv.fi 132=some ⟨Try.f132,11,.ro,false,none,[]⟩:=by kernel_rfl
theorem I8:pv.fi 133=some ⟨Try.f133,3,.ro,false,none,[]⟩:=by kernel_rfl
theorem I7:pv.fi 147=some ⟨Try.f147,29,.rw,true,none,[]⟩:=by kernel_rfl
end Go.Proofs.Ytnleclohocdkaaa
