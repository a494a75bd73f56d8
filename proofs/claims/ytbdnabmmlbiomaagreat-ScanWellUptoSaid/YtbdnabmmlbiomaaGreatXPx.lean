/-
 The view with what was reckoned once laid over it. By program.
-/
import Derived.Test.YtbdnabmmlbiomaaGreatXView
import Derived.Test.YtbdnabmmlbiomaaGreatXM2
import Derived.Test.YtbdnabmmlbiomaaGreatXRzScanRuns
import Derived.Test.YtbdnabmmlbiomaaGreatXRzNone
import Derived.Test.YtbdnabmmlbiomaaGreatXDgp
import Derived.Test.YtbdnabmmlbiomaaGreatXSrp
set_option maxRecDepth 100000
namespace Go.Proofs.YtbdnabmmlbiomaaGreat
open Go.V
noncomputable def pv:Pv:=a_.over [(29,mE (.bool true)),(118,mE (.agg [.int .i64 (-1),.int .i64 (-1),.int .i64 (-1),.int .i64 (-1),.int .i64 (-1),.int .i64 (-1),.int .i64 (-1),.int .i64 (-1),.int .i64 (-1),.int .i64 (-1)])),(67,mE (.agg [.int .i64 (-1),.int .i64 (-1),.int .i64 (-1),.int .i64 (-1),.int .i64 (-1),.int .i64 (-1),.int .i64 (-1),.int .i64 (-1),.int .i64 (-1),.int .i64 (-1)])),(59,mE (.agg [.int .i64 (-1),.int .i64 (-1),.int .i64 (-1),.int .i64 (-1),.int .i64 (-1),.int .i64 (-1),.int .i64 (-1),.int .i64 (-1),.int .i64 (-1),.int .i64 (-1)])),(172,CT),(154,BV)]
theorem view:pv.Ok Tryz.prog∧pv.jA∧iP Tryz.prog pv (eZ pv):=by
 refine tR mD rfl fun q hq=>?_;simp only[List.mem_cons,List.not_mem_nil,or_false] at hq
 rcases hq with rfl|rfl|rfl|rfl|rfl|rfl
 ·exact w8
 ·exact zx
 ·exact Ch
 ·exact Ci
 ·exact M5 (by kernel_rfl)
 ·exact Gl mD (by kernel_rfl)
theorem fi7:pv.fi 7=some ⟨Tryz.f7,11,.ro,false,none,[(15,[(8,9),(14,15),(14,16)])]⟩:=by kernel_rfl
theorem aai:pv.fi 13=some ⟨Tryz.f13,6,.ro,false,none,[]⟩:=by kernel_rfl
theorem aah:pv.fi 15=some ⟨Tryz.f15,3,.rw,false,none,[(1,[(3,8)])]⟩:=by kernel_rfl
theorem aag:pv.fi 16=some ⟨Tryz.f16,33,.ro,false,none,[]⟩:=by kernel_rfl
theorem VJ:pv.fi 17=some ⟨Tryz.f17,8,.bd,false,none,[(6,[(3,6)])]⟩:=by kernel_rfl
theorem aaf:pv.fi 18=some ⟨Tryz.f18,13,.bd,false,none,[(3,[(3,8)])]⟩:=by kernel_rfl
theorem aae:pv.fi 19=some ⟨Tryz.f19,5,.ro,false,none,[]⟩:=by kernel_rfl
theorem aad:pv.fi 20=some ⟨Tryz.f20,6,.ro,false,none,[]⟩:=by kernel_rfl
theorem aac:pv.fi 21=some ⟨Tryz.f21,13,.bd,false,none,[]⟩:=by kernel_rfl
theorem aab:pv.fi 22=some ⟨Tryz.f22,6,.ro,false,none,[]⟩:=by kernel_rfl
theorem aaa:pv.fi 23=some ⟨Tryz.f23,11,.ro,false,none,[]⟩:=by kernel_rfl
theorem Z_:pv.fi 24=some ⟨Tryz.f24,14,.ro,false,none,[]⟩:=by kernel_rfl
theorem Z9:pv.fi 25=some ⟨Tryz.f25,8,.ro,false,none,[]⟩:=by kernel_rfl
theorem Z8:pv.fi 27=some ⟨Tryz.f27,11,.ro,false,none,[]⟩:=by kernel_rfl
theorem Z7:pv.fi 33=some ⟨Tryz.f33,5,.ro,false,none,[]⟩:=by kernel_rfl
theorem Z6:pv.fi 34=some ⟨Tryz.f34,3,.rw,false,none,[(1,[(4,8)])]⟩:=by kernel_rfl
theorem Z5:pv.fi 35=some ⟨Tryz.f35,6,.rw,false,none,[]⟩:=by kernel_rfl
theorem Z4:pv.fi 36=some ⟨Tryz.f36,7,.ro,false,none,[]⟩:=by kernel_rfl
theorem VA:pv.fi 40=some ⟨Tryz.f40,7,.ro,false,none,[]⟩:=by kernel_rfl
theorem SD:pv.fi 41=some ⟨Tryz.f41,9,.bd,false,none,[]⟩:=by kernel_rfl
theorem SC:pv.fi 43=some ⟨Tryz.f43,5,.ro,false,none,[]⟩:=by kernel_rfl
theorem ZZ:pv.fi 44=some ⟨Tryz.f44,3,.ro,false,none,[(1,[(3,6),(3,9)])]⟩:=by kernel_rfl
theorem ZY:pv.fi 47=some ⟨Tryz.f47,18,.ro,false,none,[]⟩:=by kernel_rfl
theorem ZX:pv.fi 51=some ⟨Tryz.f51,24,.ro,false,none,[]⟩:=by kernel_rfl
theorem ZW:pv.fi 52=some ⟨Tryz.f52,6,.bd,false,none,[]⟩:=by kernel_rfl
theorem ZV:pv.fi 56=some ⟨Tryz.f56,9,.ro,false,none,[]⟩:=by kernel_rfl
theorem Vz:pv.fi 57=some ⟨Tryz.f57,9,.bd,false,none,[]⟩:=by kernel_rfl
theorem ZU:pv.fi 58=some ⟨Tryz.f58,49,.ro,false,none,[]⟩:=by kernel_rfl
theorem ZT:pv.fi 60=some ⟨Tryz.f60,9,.ro,false,none,[]⟩:=by kernel_rfl
theorem ZS:pv.fi 61=some ⟨Tryz.f61,55,.ro,false,none,[]⟩:=by kernel_rfl
theorem ZR:pv.fi 62=some ⟨Tryz.f62,25,.bd,false,none,[]⟩:=by kernel_rfl
theorem ZQ:pv.fi 63=some ⟨Tryz.f63,6,.ro,false,none,[]⟩:=by kernel_rfl
theorem ZP:pv.fi 64=some ⟨Tryz.f64,37,.bd,false,none,[(10,[(4,5)])]⟩:=by kernel_rfl
theorem ZO:pv.fi 65=some ⟨Tryz.f65,8,.ro,false,none,[]⟩:=by kernel_rfl
theorem ZN:pv.fi 66=some ⟨Tryz.f66,6,.ro,false,none,[]⟩:=by kernel_rfl
theorem ZM:pv.fi 68=some ⟨Tryz.f68,8,.ro,false,none,[]⟩:=by kernel_rfl
theorem ZL:pv.fi 69=some ⟨Tryz.f69,13,.ro,true,none,[(7,[(4,5)])]⟩:=by kernel_rfl
theorem ZK:pv.fi 70=some ⟨Tryz.f70,6,.ro,false,none,[]⟩:=by kernel_rfl
theorem ZJ:pv.fi 71=some ⟨Tryz.f71,6,.bd,false,none,[]⟩:=by kernel_rfl
theorem ZI:pv.fi 72=some ⟨Tryz.f72,1,.bd,false,none,[]⟩:=by kernel_rfl
theorem ZH:pv.fi 73=some ⟨Tryz.f73,6,.ro,false,none,[]⟩:=by kernel_rfl
theorem ZG:pv.fi 74=some ⟨Tryz.f74,9,.bd,false,none,[]⟩:=by kernel_rfl
theorem ZF:pv.fi 77=some ⟨Tryz.f77,3,.rw,false,none,[]⟩:=by kernel_rfl
theorem Vy:pv.fi 78=some ⟨Tryz.f78,8,.bd,false,none,[]⟩:=by kernel_rfl
theorem ZE:pv.fi 79=some ⟨Tryz.f79,4,.bd,false,none,[(2,[(5,10)])]⟩:=by kernel_rfl
theorem ZD:pv.fi 80=some ⟨Tryz.f80,4,.rw,false,none,[]⟩:=by kernel_rfl
theorem ZC:pv.fi 81=some ⟨Tryz.f81,5,.ro,false,none,[]⟩:=by kernel_rfl
theorem ZB:pv.fi 87=some ⟨Tryz.f87,4,.ro,false,none,[]⟩:=by kernel_rfl
theorem ZA:pv.fi 88=some ⟨Tryz.f88,36,.rw,false,none,[]⟩:=by kernel_rfl
theorem Zz:pv.fi 89=some ⟨Tryz.f89,16,.rw,false,none,[]⟩:=by kernel_rfl
theorem Zy:pv.fi 90=some ⟨Tryz.f90,5,.bd,false,none,[]⟩:=by kernel_rfl
theorem Zx:pv.fi 91=some ⟨Tryz.f91,40,.bd,false,none,[]⟩:=by kernel_rfl
theorem Zw:pv.fi 99=some ⟨Tryz.f99,4,.rw,false,none,[]⟩:=by kernel_rfl
theorem Ws:pv.fi 100=some ⟨Tryz.f100,7,.rw,false,none,[]⟩:=by kernel_rfl
theorem Wr:pv.fi 101=some ⟨Tryz.f101,4,.bd,false,none,[]⟩:=by kernel_rfl
theorem Wq:pv.fi 102=some ⟨Tryz.f102,14,.ro,false,none,[]⟩:=by kernel_rfl
theorem Wp:pv.fi 103=some ⟨Tryz.f103,5,.ro,false,none,[]⟩:=by kernel_rfl
theorem Wo:pv.fi 104=some ⟨Tryz.f104,39,.ro,false,none,[]⟩:=by kernel_rfl
theorem Wn:pv.fi 105=some ⟨Tryz.f105,5,.ro,false,none,[]⟩:=by kernel_rfl
theorem Wm:pv.fi 106=some ⟨Tryz.f106,41,.ro,false,none,[]⟩:=by kernel_rfl
theorem Wl:pv.fi 107=some ⟨Tryz.f107,1,.bd,false,none,[]⟩:=by kernel_rfl
theorem Wj:pv.fi 108=some ⟨Tryz.f108,10,.ro,false,none,[]⟩:=by kernel_rfl
theorem Wi:pv.fi 109=some ⟨Tryz.f109,7,.bd,false,none,[]⟩:=by kernel_rfl
theorem Wh:pv.fi 110=some ⟨Tryz.f110,33,.bd,false,none,[(8,[(9,12)])]⟩:=by kernel_rfl
theorem Wg:pv.fi 111=some ⟨Tryz.f111,22,.ro,false,none,[(13,[(3,5)])]⟩:=by kernel_rfl
theorem Wf:pv.fi 112=some ⟨Tryz.f112,13,.ro,false,none,[]⟩:=by kernel_rfl
theorem We:pv.fi 113=some ⟨Tryz.f113,31,.bd,false,none,[]⟩:=by kernel_rfl
theorem Wd:pv.fi 116=some ⟨Tryz.f116,4,.bd,false,none,[]⟩:=by kernel_rfl
theorem Wc:pv.fi 117=some ⟨Tryz.f117,6,.ro,false,none,[]⟩:=by kernel_rfl
theorem NP:pv.fi 123=some ⟨Tryz.f123,8,.rw,false,none,[]⟩:=by kernel_rfl
theorem Wb:pv.fi 124=some ⟨Tryz.f124,68,.bd,false,none,[]⟩:=by kernel_rfl
theorem Wa:pv.fi 125=some ⟨Tryz.f125,78,.bd,false,none,[]⟩:=by kernel_rfl
theorem V_:pv.fi 129=some ⟨Tryz.f129,4,.rw,false,none,[]⟩:=by kernel_rfl
theorem V9:pv.fi 130=some ⟨Tryz.f130,5,.rw,false,none,[]⟩:=by kernel_rfl
theorem V8:pv.fi 131=some ⟨Tryz.f131,27,.ro,false,none,[]⟩:=by kernel_rfl
theorem V7:pv.fi 132=some ⟨Tryz.f132,3,.ro,false,none,[]⟩:=by kernel_rfl
theorem V6:pv.fi 133=some ⟨Tryz.f133,6,.rw,false,none,[]⟩:=by kernel_rfl
theorem V5:pv.fi 134=some ⟨Tryz.f134,5,.ro,false,none,[]⟩:=by kernel_rfl
theorem V4:pv.fi 135=some ⟨Tryz.f135,3,.ro,false,none,[]⟩:=by kernel_rfl
theorem V3:pv.fi 136=some ⟨Tryz.f136,6,.ro,false,none,[]⟩:=by kernel_rfl
theorem V2:pv.fi 138=some ⟨Tryz.f138,11,.ro,false,none,[]⟩:=by kernel_rfl
theorem V1:pv.fi 139=some ⟨Tryz.f139,4,.rw,false,none,[]⟩:=by kernel_rfl
theorem V0:pv.fi 143=some ⟨Tryz.f143,5,.rw,false,none,[]⟩:=by kernel_rfl
theorem VZ:pv.fi 144=some ⟨Tryz.f144,5,.rw,false,none,[]⟩:=by kernel_rfl
theorem VY:pv.fi 145=some ⟨Tryz.f145,14,.ro,false,none,[]⟩:=by kernel_rfl
theorem VX:pv.fi 146=some ⟨Tryz.f146,26,.ro,false,none,[]⟩:=by kernel_rfl
theorem VW:pv.fi 147=some ⟨Tryz.f147,6,.ro,false,none,[]⟩:=by kernel_rfl
theorem VV:pv.fi 150=some ⟨Tryz.f150,4,.ro,false,none,[]⟩:=by kernel_rfl
theorem VU:pv.fi 151=some ⟨Tryz.f151,26,.rw,false,none,[]⟩:=by kernel_rfl
theorem VT:pv.fi 152=some ⟨Tryz.f152,14,.rw,false,none,[]⟩:=by kernel_rfl
theorem VS:pv.fi 153=some ⟨Tryz.f153,20,.ro,false,none,[]⟩:=by kernel_rfl
theorem VQ:pv.fi 156=some ⟨Tryz.f156,7,.ro,false,none,[]⟩:=by kernel_rfl
theorem VP:pv.fi 157=some ⟨Tryz.f157,7,.bd,false,none,[]⟩:=by kernel_rfl
theorem VO:pv.fi 166=some ⟨Tryz.f166,5,.rw,false,none,[]⟩:=by kernel_rfl
theorem VN:pv.fi 167=some ⟨Tryz.f167,7,.rw,false,none,[]⟩:=by kernel_rfl
theorem VM:pv.fi 168=some ⟨Tryz.f168,7,.rw,false,none,[]⟩:=by kernel_rfl
theorem VK:pv.fi 169=some ⟨Tryz.f169,61,.rw,true,none,[]⟩:=by kernel_rfl
theorem VI:pv.fi 170=some ⟨Tryz.f170,1,.ro,false,none,[]⟩:=by kernel_rfl
theorem VH:pv.fi 171=some ⟨Tryz.f171,3,.ro,false,none,[]⟩:=by kernel_rfl
theorem VG:pv.fi 173=some ⟨Tryz.f173,5,.ro,false,none,[]⟩:=by kernel_rfl
theorem VF:pv.fi 174=some ⟨Tryz.f174,12,.ro,false,none,[]⟩:=by kernel_rfl
theorem VE:pv.fi 181=some ⟨Tryz.f181,8,.rw,false,none,[]⟩:=by kernel_rfl
theorem VD:pv.fi 182=some ⟨Tryz.f182,11,.ro,false,none,[]⟩:=by kernel_rfl
theorem VC:pv.fi 183=some ⟨Tryz.f183,3,.ro,false,none,[]⟩:=by kernel_rfl
theorem VB:pv.fi 197=some ⟨Tryz.f197,29,.rw,true,none,[]⟩:=by kernel_rfl
end Go.Proofs.YtbdnabmmlbiomaaGreat
