/-
 The view with what was reckoned once laid over it. By program.
-/
import Derived.Test.YtecjacicdpejaaaGreatXView
import Derived.Test.YtecjacicdpejaaaGreatXM2
import Derived.Test.YtecjacicdpejaaaGreatXRzStateRuns
import Derived.Test.YtecjacicdpejaaaGreatXRzNone
import Derived.Test.YtecjacicdpejaaaGreatXDgp
import Derived.Test.YtecjacicdpejaaaGreatXSrp
set_option maxRecDepth 100000
namespace Go.Proofs.YtecjacicdpejaaaGreat
open Go.V
noncomputable def pv:Pv:=l5.over [(17,pB (.bool true)),(193,pB (.agg [.int .i64 (-1),.int .i64 (-1),.int .i64 (-1),.int .i64 (-1),.int .i64 (-1),.int .i64 (-1),.int .i64 (-1),.int .i64 (-1),.int .i64 (-1),.int .i64 (-1)])),(149,pB (.agg [.int .i64 (-1),.int .i64 (-1),.int .i64 (-1),.int .i64 (-1),.int .i64 (-1),.int .i64 (-1),.int .i64 (-1),.int .i64 (-1),.int .i64 (-1),.int .i64 (-1)])),(271,Dd),(251,Cl)]
theorem view:pv.Ok Tryz.prog∧pv.i_∧iu Tryz.prog pv (ek pv):=by
 refine ou mD rfl fun q hq=>?_;simp only[List.mem_cons,List.not_mem_nil,or_false] at hq
 rcases hq with rfl|rfl|rfl|rfl|rfl
 ·exact vu
 ·exact zA
 ·exact zB
 ·exact Ii (by kernel_rfl)
 ·exact GX mD (by kernel_rfl)
theorem WU:pv.fi 5=some ⟨Tryz.f5,11,.ro,false,none,[]⟩:=by kernel_rfl
theorem Sb:pv.fi 14=some ⟨Tryz.f14,11,.ro,false,none,[]⟩:=by kernel_rfl
theorem Sa:pv.fi 19=some ⟨Tryz.f19,4,.ro,false,none,[]⟩:=by kernel_rfl
theorem R_:pv.fi 20=some ⟨Tryz.f20,4,.ro,false,none,[]⟩:=by kernel_rfl
theorem R9:pv.fi 21=some ⟨Tryz.f21,6,.ro,false,none,[]⟩:=by kernel_rfl
theorem R8:pv.fi 29=some ⟨Tryz.f29,10,.ro,false,none,[]⟩:=by kernel_rfl
theorem R7:pv.fi 30=some ⟨Tryz.f30,10,.ro,false,none,[(6,[(4,5)])]⟩:=by kernel_rfl
theorem R6:pv.fi 31=some ⟨Tryz.f31,5,.ro,false,none,[]⟩:=by kernel_rfl
theorem Nj:pv.fi 32=some ⟨Tryz.f32,7,.ro,false,none,[]⟩:=by kernel_rfl
theorem R5:pv.fi 34=some ⟨Tryz.f34,9,.nw,false,none,[]⟩:=by kernel_rfl
theorem R4:pv.fi 35=some ⟨Tryz.f35,3,.nw,false,none,[]⟩:=by kernel_rfl
theorem R3:pv.fi 36=some ⟨Tryz.f36,3,.nw,false,none,[]⟩:=by kernel_rfl
theorem R2:pv.fi 37=some ⟨Tryz.f37,60,.rw,false,none,[]⟩:=by kernel_rfl
theorem R1:pv.fi 38=some ⟨Tryz.f38,6,.rw,false,none,[]⟩:=by kernel_rfl
theorem R0:pv.fi 39=some ⟨Tryz.f39,4,.rw,false,none,[]⟩:=by kernel_rfl
theorem RZ:pv.fi 40=some ⟨Tryz.f40,4,.rw,false,none,[]⟩:=by kernel_rfl
theorem RY:pv.fi 42=some ⟨Tryz.f42,3,.rw,false,none,[]⟩:=by kernel_rfl
theorem RX:pv.fi 47=some ⟨Tryz.f47,6,.ro,false,none,[]⟩:=by kernel_rfl
theorem RW:pv.fi 67=some ⟨Tryz.f67,3,.rw,false,none,[]⟩:=by kernel_rfl
theorem RV:pv.fi 68=some ⟨Tryz.f68,24,.ro,false,none,[]⟩:=by kernel_rfl
theorem RU:pv.fi 69=some ⟨Tryz.f69,18,.ro,false,none,[]⟩:=by kernel_rfl
theorem RT:pv.fi 70=some ⟨Tryz.f70,9,.ro,false,none,[]⟩:=by kernel_rfl
theorem RS:pv.fi 71=some ⟨Tryz.f71,22,.ro,false,none,[]⟩:=by kernel_rfl
theorem RR:pv.fi 72=some ⟨Tryz.f72,17,.nw,false,none,[]⟩:=by kernel_rfl
theorem RQ:pv.fi 73=some ⟨Tryz.f73,9,.nw,false,none,[]⟩:=by kernel_rfl
theorem RP:pv.fi 74=some ⟨Tryz.f74,17,.nw,false,none,[]⟩:=by kernel_rfl
theorem RO:pv.fi 75=some ⟨Tryz.f75,5,.nw,false,none,[]⟩:=by kernel_rfl
theorem RN:pv.fi 76=some ⟨Tryz.f76,17,.nw,false,none,[]⟩:=by kernel_rfl
theorem RM:pv.fi 77=some ⟨Tryz.f77,5,.nw,false,none,[]⟩:=by kernel_rfl
theorem RL:pv.fi 78=some ⟨Tryz.f78,8,.ro,false,none,[]⟩:=by kernel_rfl
theorem RK:pv.fi 79=some ⟨Tryz.f79,8,.ro,false,none,[]⟩:=by kernel_rfl
theorem Kx:pv.fi 80=some ⟨Tryz.f80,5,.ro,false,none,[]⟩:=by kernel_rfl
theorem RJ:pv.fi 91=some ⟨Tryz.f91,49,.ro,false,none,[]⟩:=by kernel_rfl
theorem RI:pv.fi 92=some ⟨Tryz.f92,8,.ro,false,none,[]⟩:=by kernel_rfl
theorem RH:pv.fi 93=some ⟨Tryz.f93,3,.rw,false,none,[]⟩:=by kernel_rfl
theorem RG:pv.fi 94=some ⟨Tryz.f94,5,.ro,false,none,[]⟩:=by kernel_rfl
theorem Ni:pv.fi 95=some ⟨Tryz.f95,8,.bW,false,none,[]⟩:=by kernel_rfl
theorem RF:pv.fi 96=some ⟨Tryz.f96,33,.ro,false,none,[]⟩:=by kernel_rfl
theorem RE:pv.fi 97=some ⟨Tryz.f97,7,.rw,false,none,[]⟩:=by kernel_rfl
theorem RD:pv.fi 98=some ⟨Tryz.f98,8,.rw,false,none,[]⟩:=by kernel_rfl
theorem RC:pv.fi 99=some ⟨Tryz.f99,3,.rw,false,none,[]⟩:=by kernel_rfl
theorem OB:pv.fi 100=some ⟨Tryz.f100,8,.rw,false,none,[]⟩:=by kernel_rfl
theorem OA:pv.fi 101=some ⟨Tryz.f101,10,.rw,false,none,[]⟩:=by kernel_rfl
theorem Oz:pv.fi 103=some ⟨Tryz.f103,1,.bW,false,none,[]⟩:=by kernel_rfl
theorem Oy:pv.fi 108=some ⟨Tryz.f108,6,.ro,false,none,[]⟩:=by kernel_rfl
theorem Ox:pv.fi 131=some ⟨Tryz.f131,7,.rw,false,none,[]⟩:=by kernel_rfl
theorem Ow:pv.fi 132=some ⟨Tryz.f132,6,.ro,false,none,[]⟩:=by kernel_rfl
theorem Ov:pv.fi 133=some ⟨Tryz.f133,4,.rw,false,none,[]⟩:=by kernel_rfl
theorem Ou:pv.fi 134=some ⟨Tryz.f134,7,.rw,false,none,[]⟩:=by kernel_rfl
theorem Ot:pv.fi 135=some ⟨Tryz.f135,4,.ro,false,none,[]⟩:=by kernel_rfl
theorem Oq:pv.fi 136=some ⟨Tryz.f136,36,.rw,false,none,[]⟩:=by kernel_rfl
theorem Oo:pv.fi 137=some ⟨Tryz.f137,16,.rw,false,none,[]⟩:=by kernel_rfl
theorem On:pv.fi 138=some ⟨Tryz.f138,5,.bW,false,none,[]⟩:=by kernel_rfl
theorem Om:pv.fi 139=some ⟨Tryz.f139,40,.bW,false,none,[]⟩:=by kernel_rfl
theorem Ol:pv.fi 140=some ⟨Tryz.f140,6,.nw,false,none,[]⟩:=by kernel_rfl
theorem Oj:pv.fi 141=some ⟨Tryz.f141,11,.ro,false,none,[]⟩:=by kernel_rfl
theorem Oi:pv.fi 142=some ⟨Tryz.f142,5,.ro,false,none,[]⟩:=by kernel_rfl
theorem Oh:pv.fi 143=some ⟨Tryz.f143,39,.ro,false,none,[]⟩:=by kernel_rfl
theorem Og:pv.fi 144=some ⟨Tryz.f144,5,.ro,false,none,[]⟩:=by kernel_rfl
theorem Of:pv.fi 145=some ⟨Tryz.f145,41,.ro,false,none,[]⟩:=by kernel_rfl
theorem Oe:pv.fi 146=some ⟨Tryz.f146,22,.ro,false,none,[(13,[(3,5)])]⟩:=by kernel_rfl
theorem Od:pv.fi 147=some ⟨Tryz.f147,8,.ro,false,none,[]⟩:=by kernel_rfl
theorem Oc:pv.fi 148=some ⟨Tryz.f148,9,.ro,false,none,[]⟩:=by kernel_rfl
theorem Ob:pv.fi 150=some ⟨Tryz.f150,9,.ro,false,none,[]⟩:=by kernel_rfl
theorem Oa:pv.fi 151=some ⟨Tryz.f151,55,.ro,false,none,[]⟩:=by kernel_rfl
theorem N':pv.fi 152=some ⟨Tryz.f152,7,.rw,false,none,[]⟩:=by kernel_rfl
theorem N_:pv.fi 153=some ⟨Tryz.f153,11,.rw,false,none,[]⟩:=by kernel_rfl
theorem N9:pv.fi 154=some ⟨Tryz.f154,4,.rw,false,none,[]⟩:=by kernel_rfl
theorem N8:pv.fi 155=some ⟨Tryz.f155,5,.rw,false,none,[]⟩:=by kernel_rfl
theorem N7:pv.fi 156=some ⟨Tryz.f156,6,.rw,false,none,[]⟩:=by kernel_rfl
theorem N6:pv.fi 157=some ⟨Tryz.f157,11,.rw,false,none,[]⟩:=by kernel_rfl
theorem N5:pv.fi 158=some ⟨Tryz.f158,4,.rw,false,none,[]⟩:=by kernel_rfl
theorem N4:pv.fi 159=some ⟨Tryz.f159,7,.rw,false,none,[]⟩:=by kernel_rfl
theorem N3:pv.fi 160=some ⟨Tryz.f160,5,.rw,false,none,[]⟩:=by kernel_rfl
theorem N2:pv.fi 161=some ⟨Tryz.f161,5,.rw,false,none,[]⟩:=by kernel_rfl
theorem N1:pv.fi 186=some ⟨Tryz.f186,4,.rw,false,none,[]⟩:=by kernel_rfl
theorem N0:pv.fi 187=some ⟨Tryz.f187,5,.rw,false,none,[]⟩:=by kernel_rfl
theorem NZ:pv.fi 188=some ⟨Tryz.f188,27,.ro,false,none,[]⟩:=by kernel_rfl
theorem I6:pv.fi 189=some ⟨Tryz.f189,8,.rw,false,none,[]⟩:=by kernel_rfl
theorem NY:pv.fi 190=some ⟨Tryz.f190,68,.bW,false,none,[]⟩:=by kernel_rfl
theorem NX:pv.fi 191=some ⟨Tryz.f191,78,.bW,false,none,[]⟩:=by kernel_rfl
theorem NW:pv.fi 192=some ⟨Tryz.f192,6,.ro,false,none,[]⟩:=by kernel_rfl
theorem NV:pv.fi 194=some ⟨Tryz.f194,6,.ro,false,none,[]⟩:=by kernel_rfl
theorem NU:pv.fi 195=some ⟨Tryz.f195,3,.ro,false,none,[]⟩:=by kernel_rfl
theorem NT:pv.fi 196=some ⟨Tryz.f196,5,.ro,false,none,[]⟩:=by kernel_rfl
theorem NS:pv.fi 197=some ⟨Tryz.f197,13,.ro,false,none,[]⟩:=by kernel_rfl
theorem NR:pv.fi 198=some ⟨Tryz.f198,5,.ro,false,none,[]⟩:=by kernel_rfl
theorem NQ:pv.fi 219=some ⟨Tryz.f219,5,.rw,false,none,[]⟩:=by kernel_rfl
theorem NP:pv.fi 220=some ⟨Tryz.f220,5,.rw,false,none,[]⟩:=by kernel_rfl
theorem NO:pv.fi 221=some ⟨Tryz.f221,11,.ro,false,none,[]⟩:=by kernel_rfl
theorem NN:pv.fi 222=some ⟨Tryz.f222,4,.rw,false,none,[]⟩:=by kernel_rfl
theorem NM:pv.fi 223=some ⟨Tryz.f223,3,.ro,false,none,[]⟩:=by kernel_rfl
theorem NL:pv.fi 224=some ⟨Tryz.f224,6,.ro,false,none,[]⟩:=by kernel_rfl
theorem NK:pv.fi 225=some ⟨Tryz.f225,14,.ro,false,none,[]⟩:=by kernel_rfl
theorem NJ:pv.fi 226=some ⟨Tryz.f226,26,.ro,false,none,[]⟩:=by kernel_rfl
theorem NI:pv.fi 227=some ⟨Tryz.f227,6,.ro,false,none,[]⟩:=by kernel_rfl
theorem NH:pv.fi 247=some ⟨Tryz.f247,26,.rw,false,none,[]⟩:=by kernel_rfl
theorem NG:pv.fi 248=some ⟨Tryz.f248,14,.rw,false,none,[]⟩:=by kernel_rfl
theorem NF:pv.fi 249=some ⟨Tryz.f249,4,.ro,false,none,[]⟩:=by kernel_rfl
theorem ND:pv.fi 250=some ⟨Tryz.f250,20,.ro,false,none,[]⟩:=by kernel_rfl
theorem NC:pv.fi 253=some ⟨Tryz.f253,7,.ro,false,none,[]⟩:=by kernel_rfl
theorem NB:pv.fi 254=some ⟨Tryz.f254,6,.ro,false,none,[]⟩:=by kernel_rfl
theorem NA:pv.fi 255=some ⟨Tryz.f255,7,.bW,false,none,[]⟩:=by kernel_rfl
theorem Nz:pv.fi 265=some ⟨Tryz.f265,5,.rw,false,none,[]⟩:=by kernel_rfl
theorem Ny:pv.fi 266=some ⟨Tryz.f266,7,.rw,false,none,[]⟩:=by kernel_rfl
theorem Nw:pv.fi 267=some ⟨Tryz.f267,7,.rw,false,none,[]⟩:=by kernel_rfl
theorem Nv:pv.fi 268=some ⟨Tryz.f268,61,.rw,true,none,[]⟩:=by kernel_rfl
theorem Nu:pv.fi 269=some ⟨Tryz.f269,1,.ro,false,none,[]⟩:=by kernel_rfl
theorem Nt:pv.fi 270=some ⟨Tryz.f270,3,.ro,false,none,[]⟩:=by kernel_rfl
theorem Ns:pv.fi 272=some ⟨Tryz.f272,5,.ro,false,none,[]⟩:=by kernel_rfl
theorem Nr:pv.fi 273=some ⟨Tryz.f273,12,.ro,false,none,[]⟩:=by kernel_rfl
theorem Nq:pv.fi 286=some ⟨Tryz.f286,8,.rw,false,none,[]⟩:=by kernel_rfl
theorem Np:pv.fi 287=some ⟨Tryz.f287,11,.ro,false,none,[]⟩:=by kernel_rfl
theorem Nn:pv.fi 288=some ⟨Tryz.f288,3,.ro,false,none,[]⟩:=by kernel_rfl
theorem Nk:pv.fi 306=some ⟨Tryz.f306,29,.rw,true,none,[]⟩:=by kernel_rfl
end Go.Proofs.YtecjacicdpejaaaGreat
