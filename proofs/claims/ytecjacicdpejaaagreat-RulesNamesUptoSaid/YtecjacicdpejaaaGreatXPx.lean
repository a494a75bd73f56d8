/-
 The view with what was reckoned once laid over it. By program.
-/
import Derived.Test.YtecjacicdpejaaaGreatXView
import Derived.Test.YtecjacicdpejaaaGreatXM2
import Derived.Test.YtecjacicdpejaaaGreatXRzRulesRuns
import Derived.Test.YtecjacicdpejaaaGreatXRzNone
import Derived.Test.YtecjacicdpejaaaGreatXDgp
import Derived.Test.YtecjacicdpejaaaGreatXSrp
import Derived.Test.YtecjacicdpejaaaGreatXSrf
set_option maxRecDepth 100000
namespace Go.Proofs.YtecjacicdpejaaaGreat
open Go.V
noncomputable def pv:Pv:=dY.over [(51,oB (.bool true)),(193,oB (.agg [.int .i64 (-1),.int .i64 (-1),.int .i64 (-1),.int .i64 (-1),.int .i64 (-1),.int .i64 (-1),.int .i64 (-1),.int .i64 (-1),.int .i64 (-1),.int .i64 (-1)])),(149,oB (.agg [.int .i64 (-1),.int .i64 (-1),.int .i64 (-1),.int .i64 (-1),.int .i64 (-1),.int .i64 (-1),.int .i64 (-1),.int .i64 (-1),.int .i64 (-1),.int .i64 (-1)])),(271,BQ),(251,AU),(171,sB)]
theorem view:pv.Ok Tryz.prog∧pv.fL∧fR Tryz.prog pv (du pv):=by
 refine sv mc rfl fun q hq=>?_;simp only[List.mem_cons,List.not_mem_nil,or_false] at hq
 rcases hq with rfl|rfl|rfl|rfl|rfl|rfl
 ·exact tZ
 ·exact yp
 ·exact yq
 ·exact Gv (by kernel_rfl)
 ·exact Fa mc (by kernel_rfl)
 ·exact Cp mc (fun _ _ _ _ _ _ _ _ _ h1 h2 h3=>Ee h1 h2 h3) (by kernel_rfl)
theorem PV:pv.fi 10=some ⟨Tryz.f10,13,.ro,false,none,[]⟩:=by kernel_rfl
theorem PU:pv.fi 49=some ⟨Tryz.f49,3,.ro,false,none,[]⟩:=by kernel_rfl
theorem PT:pv.fi 50=some ⟨Tryz.f50,11,.bE,false,none,[]⟩:=by kernel_rfl
theorem PS:pv.fi 52=some ⟨Tryz.f52,7,.ro,false,none,[]⟩:=by kernel_rfl
theorem PQ:pv.fi 53=some ⟨Tryz.f53,5,.ro,false,none,[]⟩:=by kernel_rfl
theorem PO:pv.fi 68=some ⟨Tryz.f68,24,.ro,false,none,[]⟩:=by kernel_rfl
theorem PN:pv.fi 69=some ⟨Tryz.f69,18,.ro,false,none,[]⟩:=by kernel_rfl
theorem Mv:pv.fi 113=some ⟨Tryz.f113,18,.bE,false,none,[]⟩:=by kernel_rfl
theorem Mu:pv.fi 114=some ⟨Tryz.f114,3,.ro,false,none,[]⟩:=by kernel_rfl
theorem Mt:pv.fi 115=some ⟨Tryz.f115,4,.ro,false,none,[]⟩:=by kernel_rfl
theorem Ms:pv.fi 118=some ⟨Tryz.f118,9,.ro,false,none,[]⟩:=by kernel_rfl
theorem Mr:pv.fi 132=some ⟨Tryz.f132,6,.ro,false,none,[]⟩:=by kernel_rfl
theorem Mq:pv.fi 133=some ⟨Tryz.f133,4,.rw,false,none,[]⟩:=by kernel_rfl
theorem Mp:pv.fi 134=some ⟨Tryz.f134,7,.rw,false,none,[]⟩:=by kernel_rfl
theorem Mo:pv.fi 135=some ⟨Tryz.f135,4,.ro,false,none,[]⟩:=by kernel_rfl
theorem Mn:pv.fi 136=some ⟨Tryz.f136,36,.rw,false,none,[]⟩:=by kernel_rfl
theorem Mm:pv.fi 137=some ⟨Tryz.f137,16,.rw,false,none,[]⟩:=by kernel_rfl
theorem Ml:pv.fi 138=some ⟨Tryz.f138,5,.bE,false,none,[]⟩:=by kernel_rfl
theorem Mk:pv.fi 139=some ⟨Tryz.f139,40,.bE,false,none,[]⟩:=by kernel_rfl
theorem Mj:pv.fi 148=some ⟨Tryz.f148,9,.ro,false,none,[]⟩:=by kernel_rfl
theorem Mi:pv.fi 169=some ⟨Tryz.f169,1,.bE,false,none,[]⟩:=by kernel_rfl
theorem Mh:pv.fi 170=some ⟨Tryz.f170,16,.ro,false,none,[]⟩:=by kernel_rfl
theorem Mg:pv.fi 172=some ⟨Tryz.f172,16,.ro,false,none,[]⟩:=by kernel_rfl
theorem Mf:pv.fi 173=some ⟨Tryz.f173,28,.ro,false,none,[]⟩:=by kernel_rfl
theorem Me:pv.fi 174=some ⟨Tryz.f174,23,.ro,false,none,[]⟩:=by kernel_rfl
theorem Md:pv.fi 175=some ⟨Tryz.f175,9,.ro,false,none,[]⟩:=by kernel_rfl
theorem Mc:pv.fi 186=some ⟨Tryz.f186,4,.rw,false,none,[]⟩:=by kernel_rfl
theorem Mb:pv.fi 187=some ⟨Tryz.f187,5,.rw,false,none,[]⟩:=by kernel_rfl
theorem Ma:pv.fi 188=some ⟨Tryz.f188,27,.ro,false,none,[]⟩:=by kernel_rfl
theorem G':pv.fi 189=some ⟨Tryz.f189,8,.rw,false,none,[]⟩:=by kernel_rfl
theorem L_:pv.fi 190=some ⟨Tryz.f190,68,.bE,false,none,[]⟩:=by kernel_rfl
theorem L9:pv.fi 191=some ⟨Tryz.f191,78,.bE,false,none,[]⟩:=by kernel_rfl
theorem L8:pv.fi 195=some ⟨Tryz.f195,3,.ro,false,none,[]⟩:=by kernel_rfl
theorem L7:pv.fi 198=some ⟨Tryz.f198,5,.ro,false,none,[]⟩:=by kernel_rfl
theorem L6:pv.fi 206=some ⟨Tryz.f206,4,.ro,false,none,[]⟩:=by kernel_rfl
theorem L5:pv.fi 207=some ⟨Tryz.f207,5,.ro,false,none,[]⟩:=by kernel_rfl
theorem L4:pv.fi 208=some ⟨Tryz.f208,4,.ro,false,none,[]⟩:=by kernel_rfl
theorem L3:pv.fi 219=some ⟨Tryz.f219,5,.rw,false,none,[]⟩:=by kernel_rfl
theorem L1:pv.fi 220=some ⟨Tryz.f220,5,.rw,false,none,[]⟩:=by kernel_rfl
theorem L0:pv.fi 221=some ⟨Tryz.f221,11,.ro,false,none,[]⟩:=by kernel_rfl
theorem LZ:pv.fi 222=some ⟨Tryz.f222,4,.rw,false,none,[]⟩:=by kernel_rfl
theorem LY:pv.fi 225=some ⟨Tryz.f225,14,.ro,false,none,[]⟩:=by kernel_rfl
theorem LX:pv.fi 226=some ⟨Tryz.f226,26,.ro,false,none,[]⟩:=by kernel_rfl
theorem LW:pv.fi 232=some ⟨Tryz.f232,11,.bE,false,none,[]⟩:=by kernel_rfl
theorem LV:pv.fi 233=some ⟨Tryz.f233,8,.rw,false,none,[]⟩:=by kernel_rfl
theorem LU:pv.fi 234=some ⟨Tryz.f234,3,.ro,false,none,[]⟩:=by kernel_rfl
theorem LS:pv.fi 235=some ⟨Tryz.f235,7,.ro,false,none,[]⟩:=by kernel_rfl
theorem LQ:pv.fi 236=some ⟨Tryz.f236,11,.ro,false,none,[(7,[(6,9)])]⟩:=by kernel_rfl
theorem LP:pv.fi 237=some ⟨Tryz.f237,9,.ro,false,none,[]⟩:=by kernel_rfl
theorem LO:pv.fi 238=some ⟨Tryz.f238,3,.ro,false,none,[]⟩:=by kernel_rfl
theorem LN:pv.fi 239=some ⟨Tryz.f239,3,.ro,false,none,[]⟩:=by kernel_rfl
theorem LM:pv.fi 247=some ⟨Tryz.f247,26,.rw,false,none,[]⟩:=by kernel_rfl
theorem LL:pv.fi 248=some ⟨Tryz.f248,14,.rw,false,none,[]⟩:=by kernel_rfl
theorem LK:pv.fi 249=some ⟨Tryz.f249,4,.ro,false,none,[]⟩:=by kernel_rfl
theorem LJ:pv.fi 250=some ⟨Tryz.f250,20,.ro,false,none,[]⟩:=by kernel_rfl
theorem LI:pv.fi 258=some ⟨Tryz.f258,9,.ro,false,none,[]⟩:=by kernel_rfl
theorem LH:pv.fi 259=some ⟨Tryz.f259,5,.ro,false,none,[]⟩:=by kernel_rfl
theorem LG:pv.fi 260=some ⟨Tryz.f260,4,.ro,false,none,[]⟩:=by kernel_rfl
theorem LF:pv.fi 261=some ⟨Tryz.f261,7,.ro,false,none,[(1,[(3,6)])]⟩:=by kernel_rfl
theorem LD:pv.fi 265=some ⟨Tryz.f265,5,.rw,false,none,[]⟩:=by kernel_rfl
theorem LC:pv.fi 266=some ⟨Tryz.f266,7,.rw,false,none,[]⟩:=by kernel_rfl
theorem LB:pv.fi 267=some ⟨Tryz.f267,7,.rw,false,none,[]⟩:=by kernel_rfl
theorem LA:pv.fi 268=some ⟨Tryz.f268,61,.rw,true,none,[]⟩:=by kernel_rfl
theorem Lz:pv.fi 269=some ⟨Tryz.f269,1,.ro,false,none,[]⟩:=by kernel_rfl
theorem Ly:pv.fi 270=some ⟨Tryz.f270,3,.ro,false,none,[]⟩:=by kernel_rfl
theorem Lx:pv.fi 272=some ⟨Tryz.f272,5,.ro,false,none,[]⟩:=by kernel_rfl
theorem Lw:pv.fi 273=some ⟨Tryz.f273,12,.ro,false,none,[]⟩:=by kernel_rfl
theorem Lv:pv.fi 277=some ⟨Tryz.f277,18,.ro,false,none,[]⟩:=by kernel_rfl
theorem Lu:pv.fi 286=some ⟨Tryz.f286,8,.rw,false,none,[]⟩:=by kernel_rfl
theorem Lt:pv.fi 287=some ⟨Tryz.f287,11,.ro,false,none,[]⟩:=by kernel_rfl
theorem Ls:pv.fi 288=some ⟨Tryz.f288,3,.ro,false,none,[]⟩:=by kernel_rfl
theorem Lr:pv.fi 306=some ⟨Tryz.f306,29,.rw,true,none,[]⟩:=by kernel_rfl
end Go.Proofs.YtecjacicdpejaaaGreat
