/-
 Two machines side by side in memory: one of them steps, the other one stays.
-/
import Derived.Test.YtnleclohocdkaaaGreatVGYe
import Derived.Test.YtnleclohocdkaaaGreatVGHr
import Derived.Test.YtnleclohocdkaaaGreatVGUa
import Derived.Test.YtnleclohocdkaaaGreatVM2
import Derived.Test.YtnleclohocdkaaaGreatVGJi
import Derived.Test.YtnleclohocdkaaaGreatVGJp
set_option maxRecDepth 100000
set_option maxHeartbeats 4000000
set_option linter.unusedSimpArgs false
set_option linter.unusedVariables false
set_option linter.unusedSectionVars false
namespace Go.Proofs.YtnleclohocdkaaaGreat
open Go.V Go
def cN (ks kv:Nat) (p:Pg) (pl:Nat) (ld pd qd:D) (P Q:List Nat) (L:List VL):List aP:=
 .box kv (.mem 0 false [p.cd,p.sd,.int .i64 (pl:Nat),ld,.ptr ks 0 0])::.box ks (.mem 0 false [pd,qd])::.lst pd 1 (P.map fF)::.lst qd 2 (Q.map ni)::.lst ld 12 (L.map dp)::L.map mF
theorem sF {A:List aP} {N:Nat} {S st:St} {ks kv:Nat} {p:Pg} {pl:Nat} {ld:D} {L:List VL} {H:List aP} (h:MH A N S st ks kv p pl ld L H):∃pd qd P Q sn,Has N S st (A++(cN ks kv p pl ld pd qd P Q L++H))∧cy P Q sn∧sn.length=p.code.length:=by
 obtain⟨pd,qd,P,Q,sn,hH,h1,h2⟩:=h;exact⟨pd,qd,P,Q,sn,by simpa only[cN,List.cons_append] using hH,h1,h2⟩
theorem vU {A:List aP} {N:Nat} {S st:St} {ks kv:Nat} {p:Pg} {pl:Nat} {ld:D} {L:List VL} {H:List aP} {pd qd:D} {P Q:List Nat} {sn:List Bool} (hH:Has N S st (A++(cN ks kv p pl ld pd qd P Q L++H))) (h1:cy P Q sn) (h2:sn.length=p.code.length):MH A N S st ks kv p pl ld L H:=
 ⟨pd,qd,P,Q,sn,by simpa only[cN,List.cons_append] using hH,h1,h2⟩
def MM (A:List aP) (N:Nat) (S st:St) (ks kv:Nat) (p:Pg) (pl:Nat) (ld:D) (L:List VL) (zz zy:Nat) (p2:Pg) (zh:Nat) (zx:D) (L2:List VL):Prop:=
 ∃pd qd P Q sn D' D9 P2 Q2 GJ,Has N S st (A++(cN ks kv p pl ld pd qd P Q L++cN zz zy p2 zh zx D' D9 P2 Q2 L2))∧cy P Q sn∧sn.length=p.code.length∧cy P2 Q2 GJ∧GJ.length=p2.code.length
section
variable{A:List aP} {N:Nat} {S st:St} {ks kv zz zy:Nat} {p p2:Pg} {pl zh:Nat} {ld zx:D} {L L2:List VL}
theorem MM.one (h:MM A N S st ks kv p pl ld L zz zy p2 zh zx L2):∃H,MH [] N S st ks kv p pl ld L H∧∀(B:List aP) (ab:St) (Cl:Nat) (Jr:D) (L':List VL),MH B N S ab ks kv p Cl Jr L' H→MM (B++A) N S ab ks kv p Cl Jr L' zz zy p2 zh zx L2:=by
 obtain⟨pd,qd,P,Q,sn,D',D9,P2,Q2,GJ,hH,h1,h2,h3,h4⟩:=h
 refine⟨cN zz zy p2 zh zx D' D9 P2 Q2 L2++A,vU (by
  have a:=Has.iD A (cN ks kv p pl ld pd qd P Q L++cN zz zy p2 zh zx D' D9 P2 Q2 L2) (H:=[]) (by rw[List.append_nil];exact hH);rw[List.append_nil,List.append_assoc] at a
  exact a) h1 h2,fun B ab Cl Jr L' hM=>?_⟩
 obtain⟨Ea,D_,P',Q',Ml,Uc,KK,OB⟩:=sF hM;refine⟨Ea,D_,P',Q',Ml,D',D9,P2,Q2,GJ,?_,KK,OB,h3,h4⟩
 have a:=Has.iD (B++(cN ks kv p Cl Jr Ea D_ P' Q' L'++cN zz zy p2 zh zx D' D9 P2 Q2 L2)) A (H:=[]) (by rw[List.append_nil];simpa only[List.append_assoc] using Uc);have b:Has N S ab (A++(B++((cN ks kv p Cl Jr Ea D_ P' Q' L'++cN zz zy p2 zh zx D' D9 P2 Q2 L2)++[]))):=by simpa only[List.append_assoc] using a
 have c:=Has.iD _ _ b;rw[List.append_nil] at c
 simpa only[List.append_assoc] using c
theorem MM.drop (n:Nat) (h:MM A N S st ks kv p pl ld L zz zy p2 zh zx L2) (hn:n≤A.length):MM (A.drop n) N S st ks kv p pl ld L zz zy p2 zh zx L2:=by
 obtain⟨pd,qd,P,Q,sn,D',D9,P2,Q2,GJ,hH,h1,h2,h3,h4⟩:=h;refine⟨pd,qd,P,Q,sn,D',D9,P2,Q2,GJ,?_,h1,h2,h3,h4⟩;have:=hH.drop n
 rwa [List.drop_append_of_le_length hn] at this
theorem MM.has (h:MM A N S st ks kv p pl ld L zz zy p2 zh zx L2):Has N S st A:=by
 obtain⟨pd,qd,P,Q,sn,D',D9,P2,Q2,GJ,hH,_⟩:=h;have:=hH.take A.length
 rwa [List.take_left] at this
theorem MM.made {pd qd:D} {P Q:List Nat} {sn:List Bool} (h:MH [] N S st ks kv p pl ld L (cN zz zy p2 zh zx pd qd P Q L2++A)) (h1:cy P Q sn) (h2:sn.length=p2.code.length):MM A N S st ks kv p pl ld L zz zy p2 zh zx L2:=by
 obtain⟨Ea,D_,P',Q',Ml,hH,h3,h4⟩:=sF h;refine⟨Ea,D_,P',Q',Ml,pd,qd,P,Q,sn,?_,h3,h4,h1,h2⟩;have a:=Has.iD (cN ks kv p pl ld Ea D_ P' Q' L++cN zz zy p2 zh zx pd qd P Q L2) A (H:=[]) (by rw[List.append_nil];simpa only[List.nil_append,List.append_assoc] using hH)
 rwa [List.append_nil] at a
end
end Go.Proofs.YtnleclohocdkaaaGreat
namespace Go.Proofs.YtnleclohocdkaaaGreat
open Go.V Go
def nf (fr:Go.V.Fr) (k:Nat):Go.V.D:=Go.V.nth .junk fr.loc k
theorem Has.over {N:Nat} {S st ab:St} {H H2:List aP} (h:Has N S st H) (h2:Has st.bs.length st ab H2):Has N S ab (H2++H):=by
 have hN:=h.hN;have hl:=h.ex.len;have pX:=h2.ex.len;refine⟨⟨fun k hk=>?_,by omega,h2.ex.flr.trans h.ex.flr,h2.ex.ro.trans h.ex.ro⟩,hN,h.fe,fun i e hi=>?_,fun i j a b hij ha hb k rF gT=>?_⟩
 ·rw[h2.ex.low k (by omega)];exact h.ex.low k hk
 ·by_cases hlt:i<H2.length
  ·rw[List.getElem?_append_left hlt] at hi;obtain⟨h3,h4⟩:=h2.ok i e hi;exact⟨h3,fun k hk=>⟨by have:=(h4 k hk).1;omega,(h4 k hk).2⟩⟩
  ·rw[List.getElem?_append_right (by omega)] at hi;obtain⟨h3,h4⟩:=h.ok _ e hi;exact⟨e.loc (fun k hk=>h2.ex.low k (h4 k hk).2) h3,fun k hk=>⟨(h4 k hk).1,by have:=(h4 k hk).2;omega⟩⟩
 ·by_cases h1:i<H2.length<;>by_cases h3:j<H2.length
  ·rw[List.getElem?_append_left h1] at ha;rw[List.getElem?_append_left h3] at hb;exact h2.dis i j a b hij ha hb k rF gT
  ·rw[List.getElem?_append_left h1] at ha;rw[List.getElem?_append_right (by omega)] at hb;have:=((h2.ok _ a ha).2 k rF).1;have:=((h.ok _ b hb).2 k gT).2;omega
  ·rw[List.getElem?_append_right (by omega)] at ha;rw[List.getElem?_append_left h3] at hb;have:=((h2.ok _ b hb).2 k gT).1;have:=((h.ok _ a ha).2 k rF).2;omega
  ·rw[List.getElem?_append_right (by omega)] at ha hb;exact h.dis _ _ a b (by omega) ha hb k rF gT
theorem re {N:Nat} {S s0:St} {H:List aP} {x:D} {L:List VL} (hF:S.flr≤N) (hLl:L.length≤1000) (hx:Arg N S 12 x (L.map dp)) (ht:∀l∈L,Arg N S 11 l.td (l.aM.map az)∧l.aM.length≤1000) (hH:Has N S s0 H):
  ∃d ab,Ev pv 61 [x] s0 d ab∧∃L':List VL,L'.map VL.pl=L.map VL.pl∧Has N S ab (.lst d 12 (L'.map dp)::(L'.map mF++H)):=by
 refine Ev.iI rfl OZ rfl rfl rfl ?_;refine zE ?_;change EvC _ _ _ _ s0 _;refine zQ 12 ?_;refine qn ?_;simp only[List.length_map];refine zQ 3 ?_;refine EvC.loop (fun mm fr st=>∃(i:Nat) (y:D) (M:List VL),fr.clean=⟨9,[nf fr 0,nf fr 1,nf fr 2,y,nf fr 4,nf fr 5,x,.int .i64 (L.length:Nat),.int .i64 (i:Nat)],[]⟩∧Has N S st (.lst y 12 (M.map dp)::(M.map mF++H))∧(i+mm=L.length)∧(M.map VL.pl=(L.take i).map VL.pl)) (L.length) ?_ ?_
 ·exact⟨0,.nul,[],rfl,(hH.nulE 12),by omega,rfl⟩
 rintro mm fr st ⟨i,y,M,hfr,hH,hi,hM⟩;rw[hfr];clear hfr;generalize nf fr=ee;clear fr
 have T7:M.length=i:=by
  have:=congrArg List.length hM;rw[List.length_map,List.length_map,List.length_take] at this;omega
 refine zQ 5 ?_;refine zP (fun hlt=>?_) fun hlt=>?_
 ·refine zQ 1 ?_;have hil:i<L.length:=by omega
  obtain⟨l,hl⟩:∃l,L[i]?=some l:=⟨L[i]'hil,List.getElem?_eq_getElem _⟩
  obtain⟨E_,lI⟩:=ht l (List.mem_of_getElem? hl);have hr1:=oW hl;refine zQ 4 ?_;refine qr fun P6 J1=>?_;refine EvO.bF rfl (ev rfl) (by assumption) rfl (put_T rfl _) ?_;refine qa hH fun k5 st zO hH=>?_;refine qS hH at0 fun st hH=>?_;dsimp only[u2,u1,u3,u4,setMany,u5,u6,D.cells,Nat.reduceAdd,aq,az,ax,ai,dp,fV] at hH;refine zQ 1 ?_;have hH:=hH.nulE 11;refine zQ 4 ?_;refine EvO.happend (s:=11) hH rfl (ev rfl) (ev rfl) (by exact at0) (by exact Arg.rows (by assumption) hH) rfl rfl rfl rfl rfl rfl rfl ⟨(Nat.le_of_ble_eq_true rfl),(Nat.le_of_ble_eq_true rfl)⟩ (fun _=>(put_T rfl _)) (by simp only[List.length_nil,List.length_map]<;>omega) (by exact .inl hF) (fun Rl st hH=>?_);dsimp only[u2,u1,u3,u4,setMany,u5,u6,D.cells,Nat.reduceAdd,aq,az,ax,ai,dp,fV] at hH;refine zQ 1 ?_;refine qT hH at1 (fun st hH=>?_) (gQ:=hH.ocells at0);dsimp only[u2,u1,u3,u4,setMany,u5,u6,D.cells,Nat.reduceAdd,aq,az,ax,ai,dp,fV] at hH;refine zQ 3 ?_;refine EvO.hloadS (m:=12) hH rfl (ev rfl) (by exact at1) (by dsimp only[List.drop_succ_cons,List.drop_zero,List.take_succ_cons,List.take_zero,aq,az,ax,ai,dp,fV]<;>rfl) rfl rfl (put_T rfl _) ?_;refine qh (s:=12) (vs:=[_]) hH fun k18 st NW hH=>?_;refine EvO.happend (s:=12) hH rfl (ev rfl) (ev rfl) (by exact at3) (by exact hH.rows (by exact at0)) rfl rfl rfl rfl rfl rfl rfl ⟨(Nat.le_of_ble_eq_true rfl),(Nat.le_of_ble_eq_true rfl)⟩ (fun _=>(put_T rfl _)) (by simp only[List.length_cons,List.length_nil,List.length_map]<;>omega) (by exact .inl hF) (fun LH st hH=>?_);dsimp only[u2,u1,u3,u4,setMany,u5,u6,D.cells,Nat.reduceAdd,aq,az,ax,ai,dp,fV] at hH;refine zQ 6 ?_;have hH:=(hH.drop 1).erase 1;have hH:=Has.iD [_] (_::M.map mF) hH;refine⟨mm-1,by omega,⟨i+1,LH,M++[⟨l.dn,l.aD,Rl,l.aM⟩],rfl,?_,by omega,?_⟩⟩
  ·rw[List.map_append,List.map_append,List.append_assoc];exact hH
  ·rw[List.map_append,hM,List.take_add_one,hl,Option.toList_some,List.map_append];rfl
 ·refine zQ 1 ?_;have hil:i=L.length:=by omega
  refine zQ 5 ?_;refine EvC.ret ⟨rx,_,_,_,rfl,rfl,?_⟩;rw[List.take_of_length_le (by omega)] at hM;exact⟨M,hM,hH⟩
end Go.Proofs.YtnleclohocdkaaaGreat
namespace Go.Proofs.YtnleclohocdkaaaGreat
open Go.V Go
end Go.Proofs.YtnleclohocdkaaaGreat
namespace Go.Proofs.YtnleclohocdkaaaGreat
open Go.V Go
end Go.Proofs.YtnleclohocdkaaaGreat
namespace Go.Proofs.YtnleclohocdkaaaGreat
open Go.V Go
/- the plain law: the two ways to look at the first rune -/
end Go.Proofs.YtnleclohocdkaaaGreat
namespace Go.Proofs.YtnleclohocdkaaaGreat
open Go.V Go
end Go.Proofs.YtnleclohocdkaaaGreat
namespace Go.Proofs.YtnleclohocdkaaaGreat
open Go.V Go
end Go.Proofs.YtnleclohocdkaaaGreat
namespace Go.Proofs.YtnleclohocdkaaaGreat
open Go.V Go
def Rm (y:UInt8):D:=.int .u8 (y.toNat:Nat)
end Go.Proofs.YtnleclohocdkaaaGreat
namespace Go.Proofs.YtnleclohocdkaaaGreat
open Go.V Go
def Ly (h j:List UInt8):List D:=(h++j).map Rm++[.int .i64 (h.length:Nat)]
end Go.Proofs.YtnleclohocdkaaaGreat
namespace Go.Proofs.YtnleclohocdkaaaGreat
open Go.V Go
theorem sr {L:List VL} {n:Nat} (h:∀l∈L.map VL.pl,l.ok n):∀l∈L,l.pl.ok n:=fun l hl=>h _ (List.mem_map_of_mem hl)
end Go.Proofs.YtnleclohocdkaaaGreat
namespace Go.Proofs.YtnleclohocdkaaaGreat
open Go.V Go
/- the plain law: byte by byte is all at once -/
end Go.Proofs.YtnleclohocdkaaaGreat
namespace Go.Proofs.YtnleclohocdkaaaGreat
open Go.V Go
def SH (A:List aP) (N:Nat) (S st:St) (kS kd kv ks:Nat) (p:Pg) (pl:Nat) (ld:D) (L:List VL) (h:List UInt8) (H:List aP):Prop:=
 ∃pd qd P Q sn js,Has N S st (A++(.box kS (.mem 0 false [.ptr kd 0 0,.ptr kv 0 0])::.box kd (.mem 0 false (Ly h js))::(cN ks kv p pl ld pd qd P Q L++H)))∧cy P Q sn∧sn.length=p.code.length∧(h++js).length=4
end Go.Proofs.YtnleclohocdkaaaGreat
namespace Go.Proofs.YtnleclohocdkaaaGreat
open Go.V Go
structure AS (st:St) (kS kd kv ks:Nat) (p:Pg) (pl:Nat) (ld:D) (L:List VL) (h js:List UInt8):Prop where
 s:st.bs[kS]?=some (.mem 0 false [.ptr kd 0 0,.ptr kv 0 0])
 sl:kS<st.bs.length
 d:st.bs[kd]?=some (.mem 0 false (Ly h js))
 dl:kd<st.bs.length
 hl:(h++js).length=4
 m:AM st.bs.length st kv ks p pl ld L
 ro:st.ro≤st.bs.length
theorem SH.as {N kS kd kv ks:Nat} {S s0:St} {H:List aP} {p:Pg} {pl:Nat} {ld:D} {L:List VL} {h:List UInt8} (hM:SH [] N S s0 kS kd kv ks p pl ld L h H):∃js,AS s0 kS kd kv ks p pl ld L h js:=by
 obtain⟨pd,qd,P,Q,sn,js,hH,hok,fc,hl⟩:=hM;dsimp only[u4] at hH;have hM:MH [] N S s0 ks kv p pl ld L ([_,_]++H):=MH.push [_,_] [] (H:=H) (vU hH hok fc);exact⟨js,hH.at at0,(hH.ge at0).2,hH.at at1,(hH.ge at1).2,hl,hM.am,hM.ro⟩
theorem AM.bs {N:Nat} {S S2:St} {kv ks:Nat} {p:Pg} {pl:Nat} {ld:D} {L:List VL} (h:AM N S kv ks p pl ld L) (hS:S2.bs=S.bs):AM N S2 kv ks p pl ld L:=
 ⟨h.lt,by rw[hS];exact h.le,by rw[hS];exact h.at_,⟨h.ld.1.bs hS,h.ld.2⟩,fun l hl=>⟨(h.td l hl).1.bs hS,(h.td l hl).2⟩,h.ksl⟩
end Go.Proofs.YtnleclohocdkaaaGreat
namespace Go.Proofs.YtnleclohocdkaaaGreat
open Go.V Go
section
variable{A:List aP} {N kS kd kv ks:Nat} {S s0:St} {p:Pg} {pl:Nat} {ld:D} {L:List VL} {h:List UInt8} {H:List aP}
theorem SH.pull (A:List aP) (hM:SH [] N S s0 kS kd kv ks p pl ld L h (A++H)):SH A N S s0 kS kd kv ks p pl ld L h H:=by
 obtain⟨pd,qd,P,Q,sn,js,hH,h1,h2,h3⟩:=hM;refine⟨pd,qd,P,Q,sn,js,?_,h1,h2,h3⟩;have:=Has.iD (_::_::cN ks kv p pl ld pd qd P Q L) A (H:=H) (by simpa only[List.nil_append,List.cons_append,List.append_assoc] using hH)
 simpa only[List.cons_append,List.append_assoc] using this
theorem SH.push (hM:SH A N S s0 kS kd kv ks p pl ld L h H):SH [] N S s0 kS kd kv ks p pl ld L h (A++H):=by
 obtain⟨pd,qd,P,Q,sn,js,hH,h1,h2,h3⟩:=hM;refine⟨pd,qd,P,Q,sn,js,?_,h1,h2,h3⟩;have:=Has.iD A (_::_::cN ks kv p pl ld pd qd P Q L) (H:=H) (by simpa only[List.cons_append,List.append_assoc] using hH)
 simpa only[List.nil_append,List.cons_append,List.append_assoc] using this
theorem SH.has (hM:SH A N S s0 kS kd kv ks p pl ld L h H):Has N S s0 A:=by
 obtain⟨pd,qd,P,Q,sn,js,hH,h1,h2,h3⟩:=hM;have:=hH.take A.length
 rwa [List.take_left] at this
end
end Go.Proofs.YtnleclohocdkaaaGreat
namespace Go.Proofs.YtnleclohocdkaaaGreat
open Go.V Go
def gD (fr:Go.V.Fr) (k:Nat):Go.V.D:=Go.V.nth .junk fr.loc k
def bX (f:lb) (to:Int):Prop:=∀i,i<10→-1≤f i∧f i≤to
theorem DP {f:lb} {st:St} {i:Nat} (hi:i<10):(pR pv 55 (.agg (ai f)) (.int .i64 (i:Nat))).map (fun d=>(d,st))=some (.int .i64 (f i),st):=by
 match i,hi with
 |0,_=>rfl
 |1,_=>rfl
 |2,_=>rfl
 |3,_=>rfl
 |4,_=>rfl
 |5,_=>rfl
 |6,_=>rfl
 |7,_=>rfl
 |8,_=>rfl
 |9,_=>rfl
theorem tn {f:lb} {i:Nat} (hi:i<10):cL pv 3 ((ai f).drop (0+i*1))=some (.int .i64 (f i)):=by
 match i,hi with
 |0,_=>rfl
 |1,_=>rfl
 |2,_=>rfl
 |3,_=>rfl
 |4,_=>rfl
 |5,_=>rfl
 |6,_=>rfl
 |7,_=>rfl
 |8,_=>rfl
 |9,_=>rfl
theorem Ab {st:St} {k i:Nat} (hi:i<10):(br pv 55 (.ptr k 0 0) (.int .i64 (i:Nat)) st).map (fun d=>(d,st))=some (.ptr k 0 (0+i*1),st):=by
 show Option.map _ (if(0:Int)≤(i:Nat)∧((i:Nat):Int)<((10:Nat):Int) then some (D.ptr k 0 (0+((i:Nat):Int).toNat*1)) else none)=_;rw[if_pos ⟨by omega,by omega⟩];rfl
theorem mU {s0:St} (f:lb) (to:Int):Ev pv 64 [.agg (ai f),.int .i64 to] s0 (.bool (dec (bX f to))) s0:=by
 refine Ev.mk1 rfl OX rfl rfl rfl ?_;refine zE ?_;obtain⟨hSb,hF,hH⟩:=ri s0;generalize enterSt .ro s0=S at*;refine zQ 2 ?_;refine qb hH fun k2 st hk2 hH=>?_;refine zQ 5 ?_;refine EvO.hloadS (m:=10) hH rfl (ev rfl) (by exact at0) (by dsimp only[List.drop_succ_cons,List.drop_zero,List.take_succ_cons,List.take_zero]<;>rfl) rfl rfl (by dsimp only[Fr.put,u1,u2]<;>rfl) ?_;refine zQ 3 ?_;refine EvC.loop (fun mm fr st=>∃(i:Nat),fr.clean=⟨9,[gD fr 0,.int .i64 to,gD fr 2,gD fr 3,gD fr 4,gD fr 5,gD fr 6,.agg (ai f),.int .i64 (i:Nat)],[]⟩∧Has s0.bs.length S st [.box k2 (.mem 0 false (ai f))]∧(i+mm=10)∧(∀j,j<i→-1≤f j∧f j≤to)) (10) ?_ ?_
 ·exact⟨0,rfl,hH,by omega,by intro j h;omega⟩
 rintro mm fr st ⟨i,hfr,hH,hi,hpre⟩;rw[hfr];clear hfr;generalize gD fr=ee;clear fr;refine zQ 5 ?_;refine zP (fun hlt=>?_) fun hlt=>?_
 ·refine zQ 5 ?_;refine EvO.go (d:=.int .i64 (f i)) (st1:=_) rfl rfl (DP (by omega)) (put_T rfl _) ?_;refine zQ 3 ?_;refine EvC.cutT 17 (.bool (decide (f i< -1)||decide (f i>to))) [] ?_ (fun ff tmp htmp=>?_)
  ·refine zQ 3 ?_;refine EvO.two 13 rfl (fun bL=>?_) (fun bL=>?_)
   ·refine zQ 4 ?_;refine EvO.nil (leafT ?_ ?_)
    ·dsimp only[setW,List.foldl,nth,u2,u1]
     all_goals(first|rfl|simp)
    ·refine zF ?_
     all_goals(simp[bL];done)
   ·refine zQ 4 ?_;refine EvO.nil (leafT ?_ ?_)
    ·dsimp only[setW,List.foldl,nth,u2,u1]
     all_goals(first|rfl|simp)
    ·refine zF ?_
     all_goals(simp[bL];done)
  refine zG ?_;refine qc (fun h2=>?_) (fun h2=>?_)<;>try simp only[cs] at h2
  ·rw[ct (fun h=>by have:=h i (by omega);simp at h2;omega)];refine zQ 4 ?_;refine EvC.ret ⟨rx,_,rfl,rl hSb hH (rfl)⟩
  ·refine zQ 5 ?_;refine⟨mm-1,by omega,⟨i+1,rfl,hH,by omega,?_⟩⟩;intro j hj
   by_cases he:j=i
   ·subst he;simp at h2;omega
   ·exact hpre j (by omega)
 ·refine zQ 1 ?_;rw[bR (q:=bX f to) (fun j hj=>hpre j (by omega))];refine zQ 4 ?_;refine EvC.ret ⟨rx,_,rfl,rl hSb hH (rfl)⟩
theorem pb {s0:St} (f:lb) (to:Int):Ev pv 70 [.agg (ai f),.int .i64 to] s0 (.bool (dec (bX f to))) s0:=by
 refine Ev.mk1 rfl OS rfl rfl rfl ?_;refine zE ?_;obtain⟨hSb,hF,hH⟩:=ri s0;generalize enterSt .ro s0=S at*;refine zQ 2 ?_;refine qb hH fun k2 st hk2 hH=>?_;refine zQ 8 ?_;refine EvC.loop (fun mm fr st=>∃(i:Nat),fr.clean=⟨6,[gD fr 0,.int .i64 to,.ptr k2 0 0,gD fr 3,gD fr 4,.int .i64 (i:Nat)],[]⟩∧Has s0.bs.length S st [.box k2 (.mem 0 false (ai f))]∧(i+mm=10)∧(∀j,j<i→-1≤f j∧f j≤to)) (10) ?_ ?_
 ·exact⟨0,rfl,hH,by omega,by intro j h;omega⟩
 rintro mm fr st ⟨i,hfr,hH,hi,hpre⟩;rw[hfr];clear hfr;generalize gD fr=ee;clear fr;refine zQ 6 ?_;refine zP (fun hlt=>?_) fun hlt=>?_
 ·refine zQ 4 ?_;refine EvC.cutT 20 (.bool (decide (f i< -1)||decide (f i>to))) [] ?_ (fun ff tmp htmp=>?_)
  ·refine qm ?_;refine EvO.go (d:=.ptr k2 0 (0+i*1)) (st1:=_) rfl rfl (Ab (by omega)) (put_T rfl _) ?_;refine EvO.hload hH rfl rfl at0 (tn (by omega)) (put_T rfl _) ?_;refine zQ 2 ?_;refine EvO.two 14 rfl (fun hg4=>?_) (fun hg4=>?_)
   ·refine zQ 6 ?_;refine EvO.nil (leafT ?_ ?_)
    ·dsimp only[setW,List.foldl,nth,u2,u1]
     all_goals(first|rfl|simp)
    ·refine zF ?_
     all_goals(simp[hg4];done)
   ·refine zQ 1 ?_;refine EvO.go (d:=.ptr k2 0 (0+i*1)) (st1:=_) (wantD_is rfl rfl rfl hg4) rfl (Ab (by omega)) (put_T rfl _) ?_;refine EvO.hload hH (wantD_is rfl rfl rfl hg4) rfl at0 (tn (by omega)) (put_T rfl _) ?_;refine zQ 3 ?_;refine EvO.nil (leafT ?_ ?_)
    ·dsimp only[setW,List.foldl,nth,u2,u1]
     all_goals(first|rfl|simp)
    ·refine zF ?_
     all_goals(simp[hg4];done)
  refine zG ?_;refine qc (fun h2=>?_) (fun h2=>?_)<;>try simp only[cs] at h2
  ·rw[ct (fun h=>by have:=h i (by omega);simp at h2;omega)];refine zQ 4 ?_;refine EvC.ret ⟨rx,_,rfl,rl hSb hH (rfl)⟩
  ·refine zQ 6 ?_;refine⟨mm-1,by omega,⟨i+1,rfl,hH,by omega,?_⟩⟩;intro j hj
   by_cases he:j=i
   ·subst he;simp at h2;omega
   ·exact hpre j (by omega)
 ·refine zQ 1 ?_;rw[bR (q:=bX f to) (fun j hj=>hpre j (by omega))];refine zQ 4 ?_;refine EvC.ret ⟨rx,_,rfl,rl hSb hH (rfl)⟩
end Go.Proofs.YtnleclohocdkaaaGreat
namespace Go.V
def iL (l:List (Int×Int)):List (D×D):=l.map fun p=>(.int .i64 p.1,.int .i64 p.2)
def getM:List (Int×Int)→Int→Int
 |[],_=>0
 |(k,x)::l,n=>if n=k then x else getM l n
def mT:List (Int×Int)→Int→Int→List (Int×Int)
 |[],n,v=>[(n,v)]
 |(k,x)::l,n,v=>if n=k then(n,v)::l else(k,x)::mT l n v
theorem ma (n v m:Int):∀l,getM (mT l n v) m=if m=n then v else getM l m
 |[]=>rfl
 |(k,x)::l=>by
  unfold mT
  by_cases h:n=k
  ·subst h;rw[if_pos rfl];unfold getM
   by_cases h2:m=n<;>simp[h2]
  ·rw[if_neg h];unfold getM;rw[ma n v m l]
   by_cases h2:m=n
   ·subst h2;simp[h]
   ·simp[h2]
theorem qN (n:Int):∀(l:List (Int×Int)) (i:Nat),(e5 .i64 n (iL l) i=some none∧getM l n=0∧∀v,mT l n v=l++[(n,v)])∨∃j,e5 .i64 n (iL l) i=some (some (i+j,.int .i64 (getM l n)))∧∀v,mT l n v=l.set j (n,v)
 |[],i=>.inl ⟨rfl,rfl,fun v=>rfl⟩
 |(k,x)::l,i=>by
  by_cases h:n=k
  ·subst h;exact .inr ⟨0,by simp[iL,e5,getM],fun v=>by simp[mT]⟩
  ·have hb:(n==k)=false:=by simpa using h
   rcases qN n l (i+1) with⟨h1,h2,h3⟩|⟨j,h1,h3⟩
   ·refine .inl ⟨?_,by simp[getM,h,h2],fun v=>by simp[mT,h,h3 v]⟩;show(if IntKind.i64=IntKind.i64 then(if(n==k)=true then some (some (i,D.int .i64 x)) else e5 .i64 n (iL l) (i+1)) else none)=_;rw[hb];exact h1
   ·refine .inr ⟨j+1,?_,fun v=>by simp[mT,h,h3 v]⟩;show(if IntKind.i64=IntKind.i64 then(if(n==k)=true then some (some (i,D.int .i64 x)) else e5 .i64 n (iL l) (i+1)) else none)=_;rw[hb];simp only[getM,h,if_false];rw[show i+(j+1)=i+1+j by omega];exact h1
variable{P:Pv}
theorem pD {st:St} {k:Nat} {l:List (Int×Int)} {t kt e:TypeId} {kk:IntKind} {n v:Int} (ht:P.bP t=some (.map kt e)) (hk:P.bP kt=some (.int kk)) (hb:st.bs[k]?=some (.map (iL l))) (hw:st.kb k 0=true):
  gY P t (.mp k) (.int .i64 n) (.int .i64 v) st=some {st with bs:=st.bs.set k (.map (iL (mT l n v)))}:=by
 unfold gY;simp only[ht,hk,hb,hw]
 rcases qN n l 0 with⟨h1,_,h3⟩|⟨j,h1,h3⟩
 ·rw[h1,h3 v];simp[iL]
 ·rw[h1,h3 v];simp[iL]
theorem x_ {st:St} {k:Nat} {l:List (Int×Int)} {t kt e:TypeId} {kk:IntKind} {n:Int} (ht:P.bP t=some (.map kt e)) (hk:P.bP kt=some (.int kk)) (he:rV P e=some (.int .i64 0)) (hb:st.bs[k]?=some (.map (iL l))):
  l0 P t (.mp k) (.int .i64 n) st=some (.int .i64 (getM l n)):=by
 unfold l0;simp only[ht,hk,hb]
 rcases qN n l 0 with⟨h1,h2,_⟩|⟨j,h1,_⟩
 ·rw[h1,h2];exact he
 ·rw[h1]
variable{N:Nat} {S st:St} {H:List aP} {fr aA:Fr} {ops:Array Oper} {rest:List Oper} {Q:Fr→St→Prop} {dst ty:Nat} {pp:String} {a:Array Edge} {g:Option (Nat×Bool)}
theorem EvO.HC {t:TypeId} {aA:Nat→Fr} (hH:Has N S st H) (hg:aw ops fr ⟨some dst,.makeMap t none,ty,pp,a,g⟩=some true) (hp:∀k,fr.put dst (.mp k)=aA k)
  (h:∀k ab,S.bs.length≤k→Has N S ab (.box k (.map (iL []))::H)→EvO P ops rest (aA k) ab Q):EvO P ops (⟨some dst,.makeMap t none,ty,pp,a,g⟩::rest) fr st Q:=
 EvO.go hg rfl (d:=.mp st.bs.length) (st1:=st.push (.map [])) rfl (hp _) (h _ _ hH.len (hH.tN _))
theorem EvO.zM {j k:Nat} {l:List (Int×Int)} {t kt e:TypeId} {kk:IntKind} {n v:Int} {mo ko vo:Operand} (hH:Has N S st H) (hg:aw ops fr ⟨none,.mapUpdate t mo ko vo,ty,pp,a,g⟩=some true) (ht:P.bP t=some (.map kt e)) (hk:P.bP kt=some (.int kk)) (hm:fr.ev mo=.mp k) (hn:fr.ev ko=.int .i64 n) (hv:fr.ev vo=.int .i64 v) (hj:H[j]?=some (.box k (.map (iL l))))
  (h:∀ab,Has N S ab (H.set j (.box k (.map (iL (mT l n v)))))→EvO P ops rest fr ab Q):EvO P ops (⟨none,.mapUpdate t mo ko vo,ty,pp,a,g⟩::rest) fr st Q:=by
 refine EvO.N hg rfl (d:=.tup []) (st1:=⟨st.bs.set k (.map (iL (mT l n v))),st.flr,st.ro⟩) ?_ (h _ (hH.tB (av:=0) hj));simp only[cZ,hm,hn,hv,pD ht hk (hH.at hj) (fS hH (cs:=[]) (hH.ge hj).1 (.inr rfl)),Option.map_some]
theorem EvO.Fz {j k:Nat} {l:List (Int×Int)} {t kt e:TypeId} {kk:IntKind} {n v:Int} {mo ko vo:Operand} (hH:Has N S st H) (hg:aw ops fr ⟨none,.insert t mo ko vo,ty,pp,a,g⟩=some true) (ht:P.bP t=some (.map kt e)) (hk:P.bP kt=some (.int kk)) (hm:fr.ev mo=.mp k) (hn:fr.ev ko=.int .i64 n) (hv:fr.ev vo=.int .i64 v) (hj:H[j]?=some (.box k (.map (iL l))))
  (h:∀ab,Has N S ab (H.set j (.box k (.map (iL (mT l n v)))))→EvO P ops rest fr ab Q):EvO P ops (⟨none,.insert t mo ko vo,ty,pp,a,g⟩::rest) fr st Q:=by
 refine EvO.N hg rfl (d:=.tup []) (st1:=⟨st.bs.set k (.map (iL (mT l n v))),st.flr,st.ro⟩) ?_ (h _ (hH.tB (av:=0) hj));simp only[cZ,hm,hn,hv,pD ht hk (hH.at hj) (fS hH (cs:=[]) (hH.ge hj).1 (.inr rfl)),Option.map_some]
theorem EvO.FA {j k:Nat} {l:List (Int×Int)} {t kt e:TypeId} {kk:IntKind} {n:Int} {mo ko:Operand} (hH:Has N S st H) (hg:aw ops fr ⟨some dst,.lookup t mo ko false,ty,pp,a,g⟩=some true) (ht:P.bP t=some (.map kt e)) (hk:P.bP kt=some (.int kk)) (he:rV P e=some (.int .i64 0)) (hm:fr.ev mo=.mp k) (hn:fr.ev ko=.int .i64 n) (hj:H[j]?=some (.box k (.map (iL l)))) (hp:fr.put dst (.int .i64 (getM l n))=aA)
  (h:EvO P ops rest aA st Q):EvO P ops (⟨some dst,.lookup t mo ko false,ty,pp,a,g⟩::rest) fr st Q:=by
 refine EvO.go hg rfl (d:=.int .i64 (getM l n)) (st1:=st) ?_ hp h;simp only[cZ,hm,hn,x_ ht hk he (hH.at hj),Option.map_some]
end Go.V
namespace Go.Proofs.YtnleclohocdkaaaGreat
open Go.V Go
def ay (fr:Go.V.Fr) (k:Nat):Go.V.D:=Go.V.nth .junk fr.loc k
structure GT where
 pc:Int
 c:lb
def cw (t:GT):List D:=[.int .i64 t.pc,.int .i64 (t.c 0),.int .i64 (t.c 1),.int .i64 (t.c 2),.int .i64 (t.c 3),.int .i64 (t.c 4),.int .i64 (t.c 5),.int .i64 (t.c 6),.int .i64 (t.c 7),.int .i64 (t.c 8),.int .i64 (t.c 9)]
theorem yy {l:List GT} {i:Nat} {q:GT} (h:l[i]?=some q):(l.map cw)[i]?=some (cw q):=by rw[List.getElem?_map,h];rfl
def og (p:Pg) (s:Int) (m:Nat) (n:Int):Prop:=n=s∨∃i q,i<m∧n=((i+1:Nat):Int)∧(aR p.code s)[i]?=some true∧p.code[i]?=some q∧q.op=1
def kY (p:Pg) (s:Int) (aM:List GT) (m:Nat) (n:Int):Prop:=og p s p.code.length n∧∀j t,j<m→aM[j]?=some t→t.pc≠n
def iW (p:Pg) (s:Int) (aM:List GT) (place:Int) (m:Nat):Prop:=∀j t,j<m→aM[j]?=some t→kY p s aM j t.pc∧bX t.c place
theorem qJ {p:Pg} {s:Int} {m:Nat} {n:Int} {b:Bool} {q:aC} (hb:(aR p.code s)[m]?=some b) (hq:p.code[m]?=some q):og p s (m+1) n↔og p s m n∨(n=((m+1:Nat):Int)∧(b &&(q.op==1))=true):=by
 unfold og;constructor
 ·rintro(h|⟨i,q',h1,h2,h3,h4,h5⟩)
  ·exact .inl (.inl h)
  ·by_cases he:i=m
   ·subst he;rw[hb] at h3;cases h3;rw[hq] at h4;cases h4;exact .inr ⟨h2,by simp[h5]⟩
   ·exact .inl (.inr ⟨i,q',by omega,h2,h3,h4,h5⟩)
 ·rintro((h|⟨i,q',h1,h2,h3,h4,h5⟩)|⟨h1,h2⟩)
  ·exact .inl h
  ·exact .inr ⟨i,q',by omega,h2,h3,h4,h5⟩
  ·simp only[Bool.and_eq_true,beq_iff_eq] at h2;obtain⟨rfl,h2⟩:=h2;exact .inr ⟨m,q,by omega,h1,hb,hq,h2⟩
theorem yz {p:Pg} {s:Int} {aM:List GT} {j:Nat} {n:Int} {t:GT} (ht:aM[j]?=some t):kY p s aM (j+1) n↔kY p s aM j n∧n≠t.pc:=by
 unfold kY;constructor
 ·rintro⟨h1,h2⟩;exact⟨⟨h1,fun j' t' hj h=>h2 j' t' (by omega) h⟩,fun h=>h2 j t (by omega) ht h.symm⟩
 ·rintro⟨⟨h1,h2⟩,h3⟩;refine⟨h1,fun j' t' hj h=>?_⟩
  by_cases he:j'=j
  ·subst he;rw[ht] at h;cases h;exact fun h=>h3 h.symm
  ·exact h2 j' t' (by omega) h
theorem nL {p:Pg} {s place:Int} {aM:List GT} {j:Nat} {t:GT} (ht:aM[j]?=some t) (h:iW p s aM place j) (h1:kY p s aM j t.pc) (h2:bX t.c place):iW p s aM place (j+1):=by
 intro j' t' hj h'
 by_cases he:j'=j
 ·subst he;rw[ht] at h';cases h';exact⟨h1,h2⟩
 ·exact h j' t' (by omega) h'
theorem BH {s0:St} {p:Pg} (hp:p.ok) (hR:aX p) {r:Nat} {s:Int} (hr:p.af[r]?=some s) {dn:Bool} {b:lb} {td:D} {aM:List GT} (E9:V.Rows s0 11 td (aM.map cw)) (hl:aM.length≤1048576) (place:Int):
  Ev pv 65 [p.d,.int .i64 (r:Nat),.agg (ax dn b td),.int .i64 place] s0 (.bool (dec (iW p s aM place aM.length))) s0:=by
 have hcl:=hR.closed;have e_:=hR.st s (List.mem_of_getElem? hr);have wv:=hp.c;have hlen:=hp.cl;have n_:=jc p.code s;have Sk:=hR.sl;have Sh:=lt_get hr;refine Ev.mk1 rfl OW rfl rfl rfl ?_;refine zE ?_;obtain⟨hSb,hF,hH⟩:=ri s0;generalize enterSt .ro s0=S at*;have hc:=hp.c.arg s0.bs.length S;have hs:=hp.s.arg s0.bs.length S;have E_:=Arg.of E9 hSb;have IF:=(kM (aR p.code s)).arg s0.bs.length S;have hr1:=dc hr;unfold Pg.d;refine zQ 2 ?_;refine qb hH fun k4 st IM hH=>?_;dsimp only[u2,u1,u3,u4,setMany,u5,u6,D.cells,Nat.reduceAdd,aq,ax,ai,ae,Pg.cs,cw,aI] at hH;refine qb hH fun k6 st Ef hH=>?_;dsimp only[u2,u1,u3,u4,setMany,u5,u6,D.cells,Nat.reduceAdd,aq,ax,ai,ae,Pg.cs,cw,aI] at hH;refine zQ 9 ?_;refine qr fun F_ wy=>?_;refine qR ?_;refine qv ((z6 wv hlen hcl e_)) ?_;refine zQ 4 ?_;refine EvO.HC hH rfl (fun _=>by dsimp only[Fr.put,u1,u2]<;>rfl) (fun km st NJ hH=>?_);refine zQ 3 ?_;refine qr fun p27 hp27=>?_;refine qR ?_;refine EvO.Fz hH rfl rfl rfl rfl rfl rfl at0 (fun st hH=>?_);dsimp only[u2] at hH;refine zQ 7 ?_;refine qn ?_;simp only[List.length_map];refine zQ 3 ?_;refine EvC.loop (fun mm fr st=>∃(i:Nat) (M:List (Int×Int)),fr.clean=⟨55,[ay fr 0,.int .i64 (r:Nat),ay fr 2,.int .i64 place,.ptr k4 0 0,ay fr 5,.ptr k6 0 0,ay fr 7,ay fr 8,ay fr 9,.mp km,ay fr 11,ay fr 12,ay fr 13,ay fr 14,ay fr 15,ay fr 16,ay fr 17,ay fr 18,ay fr 19,ay fr 20,ay fr 21,ay fr 22,ay fr 23,ay fr 24,ay fr 25,ay fr 26,ay fr 27,ay fr 28,ay fr 29,lH (aR p.code s),.int .i64 ((aR p.code s).length:Nat),.int .i64 (i:Nat),ay fr 33,ay fr 34,ay fr 35,ay fr 36,ay fr 37,ay fr 38,ay fr 39,ay fr 40,ay fr 41,ay fr 42,ay fr 43,ay fr 44,ay fr 45,ay fr 46,ay fr 47,ay fr 48,ay fr 49,ay fr 50,ay fr 51,ay fr 52,ay fr 53,ay fr 54],[]⟩∧Has s0.bs.length S st [.box km (.map (iL M)),.box k6 (.mem 0 false (ax dn b td)),.box k4 (.mem 0 false [p.cd,p.sd])]∧(i+mm=p.code.length)∧(∀n,getM M n≠0↔og p s i n)) (p.code.length) ?_ ?_
 ·refine⟨0,_,rfl,hH,by omega,?_⟩;intro n;rw[ma];unfold og
  by_cases hn:n=s<;>simp[hn,getM]
 rintro mm fr st ⟨i,M,hfr,hH,hi,hM⟩;rw[hfr];clear hfr;generalize ay fr=ee;clear fr;refine zQ 5 ?_;refine zP (fun h1=>?_) fun h1=>?_
 ·refine zQ 1 ?_
  obtain⟨b,hb⟩:∃b,(aR p.code s)[i]?=some b:=⟨(aR p.code s)[i]'(by omega),List.getElem?_eq_getElem _⟩
  obtain⟨q,hq⟩:∃q,p.code[i]?=some q:=⟨p.code[i]'(by omega),List.getElem?_eq_getElem _⟩
  have hr1:=fU hb;have kW:=de hq;refine zQ 5 ?_;refine qr fun IA A_=>?_;refine zQ 5 ?_;refine EvC.j9 46 (.bool (b &&(q.op==1))) [37,38,39,40,41,42,43,44,45] ?_ (fun ff tmp=>?_)
  ·refine zQ 2 ?_;refine EvO.two 38 rfl (fun fu=>?_) (fun fu=>?_)
   ·refine zQ 3 ?_;refine qr (fun RF Nt=>?_) (hg:=wi fu);refine qf (fo:=0) (fun Jb C4=>?_) (hg:=wi fu);refine zQ 3 ?_;refine EvO.nil (aK ?_);refine zG ?_
    all_goals(simp[fu];done)
   ·refine zQ 8 ?_;refine EvO.nil (aK ?_);refine zG ?_
    all_goals(simp[fu];done)
  dsimp only[setW,List.foldl,nth,u2,u1];generalize ff 37=VS;generalize ff 38=VQ;generalize ff 39=VP;generalize ff 40=VO;generalize ff 41=VN;generalize ff 42=VM;generalize ff 43=VK;generalize ff 44=VJ;generalize ff 45=VI;refine zF ?_;refine qc (fun h2=>?_) (fun h2=>?_)<;>try simp only[cs] at h2
  ·refine zQ 4 ?_;refine EvO.zM hH rfl rfl rfl rfl rfl rfl at0 (fun st hH=>?_);dsimp only[u2] at hH;refine zQ 5 ?_;refine⟨mm-1,by omega,⟨i+1,_,rfl,hH,by omega,?_⟩⟩;intro n;rw[ma,qJ hb hq,h2,←hM n]
   by_cases hn:n=((i+1:Nat):Int)
   ·rw[if_pos (by rw[hn];omega)];simp[hn]
   ·rw[if_neg (by omega)];exact⟨.inl,fun h=>h.elim id fun h=>absurd h.1 hn⟩
  ·refine zQ 5 ?_;refine⟨mm-1,by omega,⟨i+1,_,rfl,hH,by omega,?_⟩⟩;intro n;rw[qJ hb hq,←hM n];exact⟨.inl,fun h=>h.elim id fun h=>absurd h.2 (by rw[h2];decide)⟩
 ·refine zQ 1 ?_;have hM:∀n,getM M n≠0↔kY p s aM 0 n:=fun n=>by rw[hM n];unfold kY;rw[show i=p.code.length by omega];simp
  refine zQ 5 ?_;refine qn ?_;simp only[List.length_map];refine zQ 3 ?_;refine EvC.loop (fun mm fr st=>∃(j:Nat) (M:List (Int×Int)),fr.clean=⟨55,[ay fr 0,.int .i64 (r:Nat),ay fr 2,.int .i64 place,.ptr k4 0 0,ay fr 5,.ptr k6 0 0,ay fr 7,ay fr 8,ay fr 9,.mp km,ay fr 11,ay fr 12,ay fr 13,ay fr 14,ay fr 15,ay fr 16,ay fr 17,ay fr 18,ay fr 19,ay fr 20,ay fr 21,ay fr 22,ay fr 23,ay fr 24,ay fr 25,ay fr 26,ay fr 27,ay fr 28,ay fr 29,ay fr 30,ay fr 31,ay fr 32,ay fr 33,ay fr 34,ay fr 35,ay fr 36,ay fr 37,ay fr 38,ay fr 39,ay fr 40,ay fr 41,ay fr 42,ay fr 43,ay fr 44,ay fr 45,ay fr 46,ay fr 47,ay fr 48,ay fr 49,ay fr 50,ay fr 51,td,.int .i64 (aM.length:Nat),.int .i64 (j:Nat)],[]⟩∧Has s0.bs.length S st [.box km (.map (iL M)),.box k6 (.mem 0 false (ax dn b td)),.box k4 (.mem 0 false [p.cd,p.sd])]∧(j+mm=aM.length)∧(∀n,getM M n≠0↔kY p s aM j n)∧(iW p s aM place j)) (aM.length) ?_ ?_
  ·exact⟨0,_,rfl,hH,by omega,hM,(by intro j t h;omega)⟩
  rintro mm fr st ⟨j,M,hfr,hH,hj,hM,hw⟩;rw[hfr];clear hfr;generalize ay fr=ee;clear fr;refine zQ 5 ?_;refine zP (fun h3=>?_) fun h3=>?_
  ·refine zQ 1 ?_
   obtain⟨t,ht⟩:∃t,aM[j]?=some t:=⟨aM[j]'(by omega),List.getElem?_eq_getElem _⟩
   have LX:=yy ht;refine zQ 4 ?_;refine qr fun Mt Hq=>?_;refine EvO.bF rfl (ev rfl) (by assumption) rfl (put_T rfl _) ?_;refine qa hH fun k14 st HL hH=>?_;dsimp only[u2,u1,u3,u4,setMany,u5,u6,D.cells,Nat.reduceAdd,aq,ax,ai,ae,Pg.cs,cw,aI] at hH;refine qS hH at0 fun st hH=>?_;dsimp only[u2,u1,u3,u4,setMany,u5,u6,D.cells,Nat.reduceAdd,aq,ax,ai,ae,Pg.cs,cw,aI] at hH;refine zQ 3 ?_;refine EvC.cutT 69 (.bool (getM M t.pc==0||!(dec (bX t.c place)))) [] ?_ (fun ff tmp htmp=>?_)
   ·refine zQ 3 ?_;refine EvO.FA hH rfl rfl rfl rfl rfl rfl at1 (put_T rfl _) ?_;refine zQ 2 ?_;refine EvO.two 63 rfl (fun cI=>?_) (fun cI=>?_)
    ·refine zQ 6 ?_;refine EvO.nil (leafT ?_ ?_)
     ·dsimp only[setW,List.foldl,nth,u2,u1]
      all_goals(first|rfl|simp)
     ·refine zF ?_
      all_goals(simp[cI];done)
    ·refine zQ 1 ?_;refine EvO.hloadS (m:=10) hH (wantD_is rfl rfl rfl cI) (ev rfl) (by exact at0) (by dsimp only[List.drop_succ_cons,List.drop_zero,List.take_succ_cons,List.take_zero,aq,ax,ai,ae,Pg.cs,cw,aI]<;>rfl) rfl rfl (put_T rfl _) ?_;refine zQ 1 ?_;refine qv (mU t.c place) ?_ (hg:=wi cI);refine zQ 2 ?_;refine EvO.nil (leafT ?_ ?_)
     ·dsimp only[setW,List.foldl,nth,u2,u1]
      all_goals(first|rfl|simp)
     ·refine zF ?_
      all_goals(simp[cI];done)
   refine zG ?_;refine qc (fun h4=>?_) (fun h4=>?_)<;>try simp only[cs] at h4
   ·rw[ct (fun h=>by
     have:=h j t (by omega) ht;rw[bR this.2] at h4;have h5:=(hM t.pc).2 this.1
     simp[h5] at h4)]
    refine zQ 4 ?_;refine EvC.ret ⟨rx,_,rfl,rl hSb hH (rfl)⟩
   ·refine zQ 5 ?_;refine EvO.zM hH rfl rfl rfl rfl rfl rfl at1 (fun st hH=>?_);dsimp only[u1,u2] at hH;refine zQ 5 ?_;refine⟨mm-1,by omega,⟨j+1,_,rfl,hH.drop 1,by omega,?_,?_⟩⟩
    ·intro n;rw[ma,yz ht,←hM n]
     by_cases hn:n=t.pc<;>simp[hn]
    ·simp only[Bool.or_eq_false_iff,beq_eq_false_iff_ne,ne_eq,Bool.not_eq_false'] at h4;exact nL ht hw ((hM t.pc).1 h4.1) (@of_decide_eq_true _ (Classical.propDecidable _) h4.2)
  ·refine zQ 1 ?_;rw[show aM.length=j by omega,bR hw];refine zQ 4 ?_;refine EvC.ret ⟨rx,_,rfl,rl hSb hH (rfl)⟩
end Go.Proofs.YtnleclohocdkaaaGreat
namespace Go.Proofs.YtnleclohocdkaaaGreat
open Go.V Go
def bM (fr:Go.V.Fr) (k:Nat):Go.V.D:=Go.V.nth .junk fr.loc k
structure GV where
 dn:Bool
 aD:lb
 td:D
 aM:List GT
def cO (l:GV):List D:=ax l.dn l.aD l.td
theorem ny {l:List GV} {i:Nat} {q:GV} (h:l[i]?=some q):(l.map cO)[i]?=some (cO q):=by rw[List.getElem?_map,h];rfl
def kU (f:lb):Prop:=∀i,i<10→f i=-1
theorem CD (f:lb):dec (kU f)=(f 0==-1 &&(f 1==-1 &&(f 2==-1 &&(f 3==-1 &&(f 4==-1 &&(f 5==-1 &&(f 6==-1 &&(f 7==-1 &&(f 8==-1 &&f 9==-1))))))))):=by
 by_cases h:kU f
 ·rw[bR h,h 0 (by decide),h 1 (by decide),h 2 (by decide),h 3 (by decide),h 4 (by decide),h 5 (by decide),h 6 (by decide),h 7 (by decide),h 8 (by decide),h 9 (by decide)];rfl
 ·rw[ct h];refine(Bool.eq_false_iff.2 fun h2=>h ?_).symm;simp only[Bool.and_eq_true,beq_iff_eq] at h2;intro i hi
  match i,hi with
  |0,_=>exact h2.1
  |1,_=>exact h2.2.1
  |2,_=>exact h2.2.2.1
  |3,_=>exact h2.2.2.2.1
  |4,_=>exact h2.2.2.2.2.1
  |5,_=>exact h2.2.2.2.2.2.1
  |6,_=>exact h2.2.2.2.2.2.2.1
  |7,_=>exact h2.2.2.2.2.2.2.2.1
  |8,_=>exact h2.2.2.2.2.2.2.2.2.1
  |9,_=>exact h2.2.2.2.2.2.2.2.2.2
theorem vQ (f:lb):iT pv .neq 55 (.agg (ai f)) (.agg (ai bG))=some (.bool (!dec (kU f))):=by
 have h:∀a b c d e g i j k l n:Int,iT pv .neq 55 (.agg [.int .i64 a,.int .i64 b,.int .i64 c,.int .i64 d,.int .i64 e,.int .i64 g,.int .i64 i,.int .i64 j,.int .i64 k,.int .i64 l]) (.agg [.int .i64 n,.int .i64 n,.int .i64 n,.int .i64 n,.int .i64 n,.int .i64 n,.int .i64 n,.int .i64 n,.int .i64 n,.int .i64 n])=Option.map (fun b=>D.bool !b) (match some (a==n) with|some true=>(match some (b==n) with|some true=>(match some (c==n) with|some true=>(match some (d==n) with|some true=>(match some (e==n) with|some true=>(match some (g==n) with|some true=>(match some (i==n) with|some true=>(match some (j==n) with|some true=>(match some (k==n) with|some true=>(match some (l==n) with|some true=>some true|some false=>some false|none=>none)|some false=>some false|none=>none)|some false=>some false|none=>none)|some false=>some false|none=>none)|some false=>some false|none=>none)|some false=>some false|none=>none)|some false=>some false|none=>none)|some false=>some false|none=>none)|some false=>some false|none=>none)|some false=>some false|none=>none):=fun _ _ _ _ _ _ _ _ _ _ _=>rfl;rw[CD];unfold ai;rw[show bG 0=-1 from rfl,show bG 1=-1 from rfl,show bG 2=-1 from rfl,show bG 3=-1 from rfl,show bG 4=-1 from rfl,show bG 5=-1 from rfl,show bG 6=-1 from rfl,show bG 7=-1 from rfl,show bG 8=-1 from rfl,show bG 9=-1 from rfl];rw[h];generalize(f 0==-1)=b0;generalize(f 1==-1)=b1;generalize(f 2==-1)=b2;generalize(f 3==-1)=b3;generalize(f 4==-1)=b4;generalize(f 5==-1)=b5;generalize(f 6==-1)=b6;generalize(f 7==-1)=b7;generalize(f 8==-1)=b8;generalize(f 9==-1)=b9;cases b0
 ·rfl
 cases b1
 ·rfl
 cases b2
 ·rfl
 cases b3
 ·rfl
 cases b4
 ·rfl
 cases b5
 ·rfl
 cases b6
 ·rfl
 cases b7
 ·rfl
 cases b8
 ·rfl
 cases b9<;>rfl
def tv (p:Pg) (place:Int) (L:List GV) (m:Nat):Prop:=∀r l s,r<m→L[r]?=some l→p.af[r]?=some s→(l.dn=true∨kU l.aD)∧bX l.aD place∧iW p s l.aM place l.aM.length
structure cB (p:Pg) (place:Int) (L:List GV):Prop where
 right:aX p
 ge:0≤place
 le:place≤1099511627776
 len:L.length=p.af.length
 each:tv p place L L.length
theorem tv.succ {p:Pg} {place:Int} {L:List GV} {m:Nat} {l:GV} {s:Int} (h:tv p place L m) (hl:L[m]?=some l) (hs:p.af[m]?=some s) (h1:(l.dn=true∨kU l.aD)∧bX l.aD place∧iW p s l.aM place l.aM.length):tv p place L (m+1):=by
 intro r l' s' hr hl' kH
 by_cases he:r=m
 ·subst he;rw[hl] at hl';cases hl';rw[hs] at kH;cases kH;exact h1
 ·exact h r l' s' (by omega) hl' kH
def fm (st:St) (x:D) (L:List GV):Prop:=V.Rows st 12 x (L.map cO)∧L.length≤1048576∧∀l∈L,V.Rows st 11 l.td (l.aM.map cw)∧l.aM.length≤1048576
theorem oX (fQ:∀st,Ev pv 63 [] st (.agg (ai bG)) st) {s0:St} {p:Pg} (hp:p.ok) {x:D} {L:List GV} (hx:fm s0 x L) (place:Int):
  Ev pv 18 [p.d,.agg [.int .i64 place,x]] s0 (.bool (dec (cB p place L))) s0:=by
 obtain⟨hx,hLl,yh⟩:=hx;have gi:=hp.sl;refine Ev.mk1 rfl Pf rfl rfl rfl ?_;refine zE ?_;obtain⟨hSb,hF,hH⟩:=ri s0;generalize enterSt .ro s0=S at*;have hs:=hp.s.arg s0.bs.length S;have hla:=Arg.of hx hSb;have hcr:=fun st=>k_ (s0:=st) hp;have JA:=fun{st:St} (hR:aX p) {r:Nat} {s:Int} (hr:p.af[r]?=some s) {dn:Bool} {b:lb} {td:D} {aM:List GT} (E9:V.Rows st 11 td (aM.map cw)) (hl:aM.length≤1048576)=>BH (s0:=st) hp hR hr (dn:=dn) (b:=b) E9 hl place;unfold Pg.d at*;refine zQ 2 ?_;refine qb hH fun k2 st hk2 hH=>?_;dsimp only[u2,u1,u3,u4,setMany,u5,u6,D.cells,Nat.reduceAdd,aq,ax,ai,ae,Pg.cs,cw,cO] at hH;refine qb hH fun k3 st BD hH=>?_;refine zQ 4 ?_;refine EvC.j9 28 (.bool (((!dec (aX p)||decide (place<0))||decide (place>1099511627776))||(((L.length:Nat):Int) !=((p.af.length:Nat):Int)))) [7,8,9,10,11,12,13,14,15,16,17,18,19,20,21,22,23,24,25,26,27] ?_ (fun ff tmp=>?_)
 ·refine EvO.hloadS (m:=2) hH rfl (ev rfl) (by exact at1) (by dsimp only[List.drop_succ_cons,List.drop_zero,List.take_succ_cons,List.take_zero,aq,ax,ai,ae,Pg.cs,cw,cO]<;>rfl) rfl rfl (by dsimp only[Fr.put,u1,u2]<;>rfl) ?_;refine qv ((hcr _)) ?_;refine zQ 2 ?_;refine EvO.two 10 rfl (fun hg3=>?_) (fun hg3=>?_)
  ·refine zQ 18 ?_;refine EvO.nil (aK ?_);refine zG ?_
   all_goals(simp[hg3];done)
  ·refine zQ 5 ?_;refine EvO.two 15 rfl (fun hg8=>?_) (fun hg8=>?_)
   ·refine zQ 13 ?_;refine EvO.nil (aK ?_);refine zG ?_
    all_goals(simp[hg3,hg8];done)
   ·refine zQ 5 ?_;refine EvO.two 20 rfl (fun hg13=>?_) (fun hg13=>?_)
    ·refine zQ 8 ?_;refine EvO.nil (aK ?_);refine zG ?_
     all_goals(simp[hg3,hg8,hg13];done)
    ·refine zQ 2 ?_;refine qn ?_ (hg:=wi hg13);simp only[List.length_map];refine zQ 2 ?_;refine qn ?_ (hg:=wi hg13);simp only[List.length_map];refine zQ 2 ?_;refine EvO.nil (aK ?_);refine zG ?_
     all_goals(simp[hg3,hg8,hg13];done)
 dsimp only[setW,List.foldl,nth,u2,u1];generalize ff 7=e7;generalize ff 8=e8;generalize ff 9=e9;generalize ff 10=Uz;generalize ff 11=Uy;generalize ff 12=Ux;generalize ff 13=Uw;generalize ff 14=Uv;generalize ff 15=Uu;generalize ff 16=Ut;generalize ff 17=V1;generalize ff 18=Us;generalize ff 19=Ur;generalize ff 20=Uq;generalize ff 21=Up;generalize ff 22=Uo;generalize ff 23=Un;generalize ff 24=Um;generalize ff 25=Ul;generalize ff 26=Uk;generalize ff 27=Uj;refine qc (fun h0=>?_) (fun h0=>?_)<;>try simp only[cs] at h0
 ·rw[ct (q:=cB p place L) (fun h=>by
   rw[bR h.right] at h0;have h1:=h.ge;have h2:=h.le;have h3:=h.len
   simp at h0;omega)]
  refine zQ 4 ?_;refine EvC.ret ⟨rx,_,rfl,rl hSb hH (rfl)⟩
 ·refine zQ 1 ?_
  have h0:aX p∧0≤place∧place≤1099511627776∧L.length=p.af.length:=by
   simp only[Bool.or_eq_false_iff,decide_eq_false_iff_not,Bool.not_eq_false'] at h0;obtain⟨⟨⟨h1,h2⟩,h3⟩,h4⟩:=h0;refine⟨@of_decide_eq_true _ (Classical.propDecidable _) h1,by omega,by omega,?_⟩;simp at h4;omega
  obtain⟨hR,hge,hle,KE⟩:=h0;refine zQ 5 ?_;refine qn ?_;simp only[List.length_map];refine zQ 3 ?_;refine EvC.loop (fun mm fr st=>∃(r:Nat),fr.clean=⟨33,[bM fr 0,bM fr 1,.ptr k2 0 0,.ptr k3 0 0,bM fr 4,bM fr 5,bM fr 6,bM fr 7,bM fr 8,bM fr 9,bM fr 10,bM fr 11,bM fr 12,bM fr 13,bM fr 14,bM fr 15,bM fr 16,bM fr 17,bM fr 18,bM fr 19,bM fr 20,bM fr 21,bM fr 22,bM fr 23,bM fr 24,bM fr 25,bM fr 26,bM fr 27,bM fr 28,bM fr 29,x,.int .i64 (L.length:Nat),.int .i64 (r:Nat)],[]⟩∧Has s0.bs.length S st [.box k3 (.mem 0 false [.int .i64 place,x]),.box k2 (.mem 0 false [p.cd,p.sd])]∧(r+mm=L.length)∧(tv p place L r)) (L.length) ?_ ?_
  ·exact⟨0,rfl,hH,by omega,by intro r l s h;omega⟩
  rintro mm fr st ⟨r,hfr,hH,hi,hw⟩;rw[hfr];clear hfr;generalize bM fr=ee;clear fr;refine zQ 5 ?_;refine zP (fun h1=>?_) fun h1=>?_
  ·refine zQ 1 ?_
   obtain⟨l,hl⟩:∃l,L[r]?=some l:=⟨L[r]'(by omega),List.getElem?_eq_getElem _⟩
   obtain⟨s,iP⟩:∃s,p.af[r]?=some s:=⟨p.af[r]'(by omega),List.getElem?_eq_getElem _⟩
   obtain⟨E9,lI⟩:=yh l (List.mem_of_getElem? hl);have E_:=Arg.of E9 hSb;have hr1:=ny hl;refine zQ 5 ?_;refine qr fun IA A_=>?_;refine EvO.bF rfl (ev rfl) (by assumption) rfl (put_T rfl _) ?_;refine qa hH fun k6 st Ef hH=>?_;refine qm ?_;refine qS hH at0 fun st hH=>?_;dsimp only[u2,u1,u3,u4,setMany,u5,u6,D.cells,Nat.reduceAdd,aq,ax,ai,ae,Pg.cs,cw,cO] at hH;refine zQ 2 ?_;refine EvC.cutT 62 (.bool (((!l.dn &&!dec (kU l.aD))||!dec (bX l.aD place))||!dec (iW p s l.aM place l.aM.length))) [] ?_ (fun ff tmp htmp=>?_)
   ·refine zQ 4 ?_;refine EvO.two 40 rfl (fun hg3=>?_) (fun hg3=>?_)
    ·refine zQ 1 ?_;refine EvO.hloadS (m:=10) hH (wantD_is rfl rfl rfl hg3) (ev rfl) (by exact at0) (by dsimp only[List.drop_succ_cons,List.drop_zero,List.take_succ_cons,List.take_zero,aq,ax,ai,ae,Pg.cs,cw,cO]<;>rfl) rfl rfl (put_T rfl _) ?_;refine qv (fQ _) ?_ (hg:=wi hg3);refine EvO.Ga (wantD_is rfl rfl rfl hg3) (ev rfl) (ev rfl) (vQ l.aD) (put_T rfl _) ?_;refine zQ 2 ?_;refine EvO.two 46 rfl (fun dI=>?_) (fun dI=>?_)
     ·refine zQ 16 ?_;refine EvO.nil (leafT ?_ ?_)
      ·dsimp only[setW,List.foldl,nth,u2,u1]
       all_goals(first|rfl|simp)
      ·refine zF ?_
       all_goals(simp[hg3,dI];done)
     ·refine zQ 1 ?_;refine EvO.hloadS (m:=10) hH (wantD_is rfl rfl rfl dI) (ev rfl) (by exact at0) (by dsimp only[List.drop_succ_cons,List.drop_zero,List.take_succ_cons,List.take_zero,aq,ax,ai,ae,Pg.cs,cw,cO]<;>rfl) rfl rfl (put_T rfl _) ?_;refine zQ 2 ?_;refine qv (mU l.aD place) ?_ (hg:=wi dI);refine zQ 3 ?_;refine EvO.two 54 rfl (fun bH=>?_) (fun bH=>?_)
      ·refine zQ 8 ?_;refine EvO.nil (leafT ?_ ?_)
       ·dsimp only[setW,List.foldl,nth,u2,u1]
        all_goals(first|rfl|simp)
       ·refine zF ?_
        all_goals(simp[hg3,dI,bH];done)
      ·refine EvO.hloadS (m:=2) hH (wantD_is rfl rfl rfl bH) (ev rfl) (by exact at2) (by dsimp only[List.drop_succ_cons,List.drop_zero,List.take_succ_cons,List.take_zero,aq,ax,ai,ae,Pg.cs,cw,cO]<;>rfl) rfl rfl (put_T rfl _) ?_;refine zQ 1 ?_;refine EvO.hloadS (m:=12) hH (wantD_is rfl rfl rfl bH) (ev rfl) (by exact at0) (by dsimp only[List.drop_succ_cons,List.drop_zero,List.take_succ_cons,List.take_zero,aq,ax,ai,ae,Pg.cs,cw,cO]<;>rfl) rfl rfl (put_T rfl _) ?_;refine zQ 2 ?_;refine qv ((JA hR iP (E_.rows hH) lI)) ?_ (hg:=wi bH);refine zQ 2 ?_;refine EvO.nil (leafT ?_ ?_)
       ·dsimp only[setW,List.foldl,nth,u2,u1]
        all_goals(first|rfl|simp)
       ·refine zF ?_
        all_goals(simp[hg3,dI,bH];done)
    ·refine zQ 7 ?_;refine EvO.hloadS (m:=10) hH rfl (ev rfl) (by exact at0) (by dsimp only[List.drop_succ_cons,List.drop_zero,List.take_succ_cons,List.take_zero,aq,ax,ai,ae,Pg.cs,cw,cO]<;>rfl) rfl rfl (put_T rfl _) ?_;refine zQ 2 ?_;refine qv (mU l.aD place) ?_;refine zQ 3 ?_;refine EvO.two 54 rfl (fun bH=>?_) (fun bH=>?_)
     ·refine zQ 8 ?_;refine EvO.nil (leafT ?_ ?_)
      ·dsimp only[setW,List.foldl,nth,u2,u1]
       all_goals(first|rfl|simp)
      ·refine zF ?_
       all_goals(simp[hg3,bH];done)
     ·refine EvO.hloadS (m:=2) hH (wantD_is rfl rfl rfl bH) (ev rfl) (by exact at2) (by dsimp only[List.drop_succ_cons,List.drop_zero,List.take_succ_cons,List.take_zero,aq,ax,ai,ae,Pg.cs,cw,cO]<;>rfl) rfl rfl (put_T rfl _) ?_;refine zQ 1 ?_;refine EvO.hloadS (m:=12) hH (wantD_is rfl rfl rfl bH) (ev rfl) (by exact at0) (by dsimp only[List.drop_succ_cons,List.drop_zero,List.take_succ_cons,List.take_zero,aq,ax,ai,ae,Pg.cs,cw,cO]<;>rfl) rfl rfl (put_T rfl _) ?_;refine zQ 2 ?_;refine qv ((JA hR iP (E_.rows hH) lI)) ?_ (hg:=wi bH);refine zQ 2 ?_;refine EvO.nil (leafT ?_ ?_)
      ·dsimp only[setW,List.foldl,nth,u2,u1]
       all_goals(first|rfl|simp)
      ·refine zF ?_
       all_goals(simp[hg3,bH];done)
   refine zG ?_;refine qc (fun h2=>?_) (fun h2=>?_)<;>try simp only[cs] at h2
   ·rw[ct (q:=cB p place L) (fun h=>by
     obtain⟨h3,h4,h5⟩:=h.each r l s (by omega) hl iP;rw[bR h4,bR h5] at h2
     rcases h3 with h3|h3
     ·simp[h3] at h2
     ·simp[bR h3] at h2)]
    refine zQ 4 ?_;refine EvC.ret ⟨rx,_,rfl,rl hSb hH (rfl)⟩
   ·refine zQ 5 ?_;refine⟨mm-1,by omega,⟨r+1,rfl,hH.drop 1,by omega,?_⟩⟩;simp only[Bool.or_eq_false_iff,Bool.and_eq_false_iff,Bool.not_eq_false'] at h2;obtain⟨⟨h3,h4⟩,h5⟩:=h2;refine hw.succ hl iP ⟨?_,@of_decide_eq_true _ (Classical.propDecidable _) h4,@of_decide_eq_true _ (Classical.propDecidable _) h5⟩
    rcases h3 with h3|h3
    ·exact .inl h3
    ·exact .inr (@of_decide_eq_true _ (Classical.propDecidable _) h3)
  ·refine zQ 1 ?_;rw[bR (q:=cB p place L) ⟨hR,hge,hle,KE,by rw[show L.length=r by omega];exact hw⟩];refine zQ 4 ?_;refine EvC.ret ⟨rx,_,rfl,rl hSb hH (rfl)⟩
end Go.Proofs.YtnleclohocdkaaaGreat
namespace Go.Proofs.YtnleclohocdkaaaGreat
open Go.V Go
def e6 (fr:Go.V.Fr) (k:Nat):Go.V.D:=Go.V.nth .junk fr.loc k
theorem uK {q:Prop} (h:dec q=true):q:=@of_decide_eq_true _ (Classical.propDecidable _) h
theorem qK {p:Pg} (hR:aX p) {s:Int} (hs:0≤s∧s<(p.code.length:Int)) {m:Nat} {n:Int} (h:og p s m n):0≤n∧n<(p.code.length:Int):=by
 rcases h with rfl|⟨i,q,h1,rfl,h3,h4,h5⟩
 ·exact hs
 ·have h6:=hR.sh i q h4;unfold bI at h6;rw[if_pos h5] at h6;simp only[Bool.and_eq_true,decide_eq_true_eq] at h6;exact⟨by omega,h6.2.1.1⟩
def rA (aM:List GT) (j:Nat) (seen:List Bool):Prop:=∀(k:Nat) b,seen[k]?=some b→(b=true↔∃j' t,j'<j∧aM[j']?=some t∧t.pc=(k:Int))
theorem rA.nil (aM:List GT) (n:Nat):rA aM 0 (List.replicate n false):=by
 intro k b h;rw[List.getElem?_replicate] at h
 split at h
 ·cases h;simp
 ·cases h
theorem rA.set {aM:List GT} {j k:Nat} {seen:List Bool} {t:GT} (h:rA aM j seen) (ht:aM[j]?=some t) (hk:t.pc=(k:Int)):rA aM (j+1) (seen.set k true):=by
 intro k' b hb;rw[List.getElem?_set] at hb
 by_cases he:k=k'
 ·subst he;rw[if_pos rfl] at hb
  split at hb
  ·cases hb;exact⟨fun _=>⟨j,t,by omega,ht,hk⟩,fun _=>rfl⟩
  ·cases hb
 ·rw[if_neg he] at hb;rw[h k' b hb];constructor
  ·rintro⟨j',t',h1,h2,h3⟩;exact⟨j',t',by omega,h2,h3⟩
  ·rintro⟨j',t',h1,h2,h3⟩
   by_cases hj:j'=j
   ·subst hj;rw[ht] at h2;cases h2;omega
   ·exact⟨j',t',by omega,h2,h3⟩
theorem Ca (fQ:∀st,Ev pv 71 [] st (.agg (ai bG)) st) {s0:St} {p:Pg} (hp:p.ok) {x:D} {L:List GV} (hx:fm s0 x L) (place:Int):
  Ev pv 25 [p.d,.agg [.int .i64 place,x]] s0 (.bool (dec (cB p place L))) s0:=by
 obtain⟨hx,hLl,yh⟩:=hx;have gi:=hp.sl;have FG:=hp.cl;refine Ev.mk1 rfl O_ rfl rfl rfl ?_;refine zE ?_;obtain⟨hSb,hF,hH⟩:=ri s0;generalize enterSt .ro s0=S at*;have hc:=hp.c.arg s0.bs.length S;have hs:=hp.s.arg s0.bs.length S;have hla:=Arg.of hx hSb;have hcr:=fun st=>tI (s0:=st) hp
 have M_:=fun(hR:aX p) {r:Nat} {s:Int} (hr:p.af[r]?=some s) (st:St)=>(show je p (r:Nat)=aR p.code s by
      unfold je
      rw[if_pos (cS.2 ⟨by omega,by have:=lt_get hr;omega⟩),Int.toNat_natCast,List.getD_eq_getElem?_getD,hr];rfl)▸nT (s0:=st) (p:=p) (ja:=(r:Nat)) hp hR.closed hR.st
 unfold Pg.d at*;refine zQ 2 ?_;refine qb hH fun k2 st hk2 hH=>?_;dsimp only[u2,u1,u3,u4,setMany,u5,u6,D.cells,Nat.reduceAdd,aq,ax,ai,ae,Pg.cs,cw,cO,aI] at hH;refine qb hH fun k3 st BD hH=>?_;refine zQ 4 ?_;refine EvC.cutT 32 (.bool (((!dec (aX p)||decide (place<0))||decide (place>1099511627776))||(((L.length:Nat):Int) !=((p.af.length:Nat):Int)))) [] ?_ (fun ff tmp htmp=>?_)
 ·refine EvO.hloadS (m:=2) hH rfl (ev rfl) (by exact at1) (by dsimp only[List.drop_succ_cons,List.drop_zero,List.take_succ_cons,List.take_zero,aq,ax,ai,ae,Pg.cs,cw,cO,aI]<;>rfl) rfl rfl (put_T rfl _) ?_;refine qv ((hcr _)) ?_;refine zQ 2 ?_;refine EvO.two 14 rfl (fun hg3=>?_) (fun hg3=>?_)
  ·refine zQ 18 ?_;refine EvO.nil (leafT ?_ ?_)
   ·dsimp only[setW,List.foldl,nth,u2,u1]
    all_goals(first|rfl|simp)
   ·refine zF ?_
    all_goals(simp[hg3];done)
  ·refine zQ 5 ?_;refine EvO.two 19 rfl (fun hg8=>?_) (fun hg8=>?_)
   ·refine zQ 13 ?_;refine EvO.nil (leafT ?_ ?_)
    ·dsimp only[setW,List.foldl,nth,u2,u1]
     all_goals(first|rfl|simp)
    ·refine zF ?_
     all_goals(simp[hg3,hg8];done)
   ·refine zQ 5 ?_;refine EvO.two 24 rfl (fun hg13=>?_) (fun hg13=>?_)
    ·refine zQ 8 ?_;refine EvO.nil (leafT ?_ ?_)
     ·dsimp only[setW,List.foldl,nth,u2,u1]
      all_goals(first|rfl|simp)
     ·refine zF ?_
      all_goals(simp[hg3,hg8,hg13];done)
    ·refine zQ 2 ?_;refine qn ?_ (hg:=wi hg13);simp only[List.length_map];refine zQ 2 ?_;refine qn ?_ (hg:=wi hg13);simp only[List.length_map];refine zQ 2 ?_;refine EvO.nil (leafT ?_ ?_)
     ·dsimp only[setW,List.foldl,nth,u2,u1]
      all_goals(first|rfl|simp)
     ·refine zF ?_
      all_goals(simp[hg3,hg8,hg13];done)
 dsimp only[setW,List.foldl,nth,u2,u1];refine qc (fun h0=>?_) (fun h0=>?_)<;>try simp only[cs] at h0
 ·rw[ct (q:=cB p place L) (fun h=>by
   rw[bR h.right] at h0;have h1:=h.ge;have h2:=h.le;have h3:=h.len
   simp at h0;omega)]
  refine zQ 4 ?_;refine EvC.ret ⟨rx,_,rfl,rl hSb hH (rfl)⟩
 ·refine zQ 1 ?_
  have h0:aX p∧0≤place∧place≤1099511627776∧L.length=p.af.length:=by
   simp only[Bool.or_eq_false_iff,decide_eq_false_iff_not,Bool.not_eq_false'] at h0;obtain⟨⟨⟨h1,h2⟩,h3⟩,h4⟩:=h0;refine⟨uK h1,by omega,by omega,?_⟩;simp at h4;omega
  obtain⟨hR,hge,hle,KE⟩:=h0;refine zQ 6 ?_;refine EvC.loop (fun mm fr st=>∃(r:Nat),fr.clean=⟨11,[e6 fr 0,e6 fr 1,.ptr k2 0 0,.ptr k3 0 0,e6 fr 4,.int .i64 (r:Nat),e6 fr 6,e6 fr 7,e6 fr 8,e6 fr 9,e6 fr 10],[]⟩∧Has s0.bs.length S st [.box k3 (.mem 0 false [.int .i64 place,x]),.box k2 (.mem 0 false [p.cd,p.sd])]∧(r+mm=L.length)∧(tv p place L r)) (L.length) ?_ ?_
  ·exact⟨0,rfl,hH,by omega,by intro r l s h;omega⟩
  rintro mm fr st ⟨r,hfr,hH,hi,hw⟩;rw[hfr];clear hfr;generalize e6 fr=ee;clear fr;refine zQ 6 ?_;refine qn ?_;simp only[List.length_map];refine zQ 2 ?_;refine zP (fun h1=>?_) fun h1=>?_
  ·refine zQ 1 ?_
   obtain⟨l,hl⟩:∃l,L[r]?=some l:=⟨L[r]'(by omega),List.getElem?_eq_getElem _⟩
   obtain⟨s,iP⟩:∃s,p.af[r]?=some s:=⟨p.af[r]'(by omega),List.getElem?_eq_getElem _⟩
   obtain⟨E9,lI⟩:=yh l (List.mem_of_getElem? hl);have E_:=Arg.of E9 hSb;have hr1:=ny hl;have kW:=dc iP;have e_:=hR.st s (List.mem_of_getElem? iP);refine zQ 7 ?_;refine qr fun Jb C4=>?_;refine EvO.bF rfl (ev rfl) (by assumption) rfl (put_T rfl _) ?_;refine qa hH fun k6 st Ef hH=>?_;refine qS hH at0 fun st hH=>?_;dsimp only[u2,u1,u3,u4,setMany,u5,u6,D.cells,Nat.reduceAdd,aq,ax,ai,ae,Pg.cs,cw,cO,aI] at hH;refine zQ 3 ?_;refine EvC.cutT 61 (.bool (!dec (bX l.aD place)||(!l.dn &&!dec (kU l.aD)))) [] ?_ (fun ff tmp htmp=>?_)
   ·refine zQ 1 ?_;refine EvO.hloadS (m:=10) hH rfl (ev rfl) (by exact at0) (by dsimp only[List.drop_succ_cons,List.drop_zero,List.take_succ_cons,List.take_zero,aq,ax,ai,ae,Pg.cs,cw,cO,aI]<;>rfl) rfl rfl (put_T rfl _) ?_;refine zQ 2 ?_;refine qv (pb l.aD place) ?_;refine zQ 2 ?_;refine EvO.two 51 rfl (fun ft=>?_) (fun ft=>?_)
    ·refine zQ 10 ?_;refine EvO.nil (leafT ?_ ?_)
     ·dsimp only[setW,List.foldl,nth,u2,u1]
      all_goals(first|rfl|simp)
     ·refine zF ?_
      all_goals(simp[ft];done)
    ·refine zQ 4 ?_;refine EvO.two 55 rfl (fun cv=>?_) (fun cv=>?_)
     ·refine zQ 1 ?_;refine EvO.hloadS (m:=10) hH (wantD_is rfl rfl rfl cv) (ev rfl) (by exact at0) (by dsimp only[List.drop_succ_cons,List.drop_zero,List.take_succ_cons,List.take_zero,aq,ax,ai,ae,Pg.cs,cw,cO,aI]<;>rfl) rfl rfl (put_T rfl _) ?_;refine qv (fQ _) ?_ (hg:=wi cv);refine EvO.Ga (wantD_is rfl rfl rfl cv) (ev rfl) (ev rfl) (vQ l.aD) (put_T rfl _) ?_;refine EvO.pickT (wantD_is rfl rfl rfl ft) rfl cv (put_T rfl _) ?_;refine zQ 1 ?_;refine EvO.nil (leafT ?_ ?_)
      ·dsimp only[setW,List.foldl,nth,u2,u1]
       all_goals(first|rfl|simp)
      ·refine zF ?_
       all_goals(simp[ft,cv];done)
     ·refine zQ 4 ?_;refine EvO.pickF (wantD_is rfl rfl rfl ft) rfl cv (put_T rfl _) ?_;refine zQ 1 ?_;refine EvO.nil (leafT ?_ ?_)
      ·dsimp only[setW,List.foldl,nth,u2,u1]
       all_goals(first|rfl|simp)
      ·refine zF ?_
       all_goals(simp[ft,cv];done)
   refine zG ?_;refine qc (fun h2=>?_) (fun h2=>?_)<;>try simp only[cs] at h2
   ·rw[ct (q:=cB p place L) (fun h=>by
     obtain⟨h3,h4,h5⟩:=h.each r l s (by omega) hl iP;rw[bR h4] at h2
     rcases h3 with h3|h3
     ·simp[h3] at h2
     ·simp[bR h3] at h2)]
    refine zQ 4 ?_;refine EvC.ret ⟨rx,_,rfl,rl hSb hH (rfl)⟩
   ·refine zQ 1 ?_
    have h2:bX l.aD place∧(l.dn=true∨kU l.aD):=by
     simp only[Bool.or_eq_false_iff,Bool.and_eq_false_iff,Bool.not_eq_false'] at h2;obtain⟨h3,h4⟩:=h2;refine⟨uK h3,?_⟩
     rcases h4 with h4|h4
     ·exact .inl h4
     ·exact .inr (uK h4)
    have n_:=jc p.code s;have IF:=(kM (aR p.code s)).arg s0.bs.length S;refine zQ 2 ?_;refine EvO.hloadS (m:=2) hH rfl (ev rfl) (by exact at2) (by dsimp only[List.drop_succ_cons,List.drop_zero,List.take_succ_cons,List.take_zero,aq,ax,ai,ae,Pg.cs,cw,cO,aI]<;>rfl) rfl rfl (put_T rfl _) ?_;refine qm ?_;refine qv ((M_ hR iP _)) ?_;refine zQ 6 ?_;refine qn ?_;simp only[List.length_map];refine EvO.pW (s:=1) hH rfl rfl rfl rfl rfl rfl rfl rfl (Nat.le_of_ble_eq_true rfl) (by omega) (fun _=>(put_T rfl _)) (fun k68 st Tb hH=>?_);refine zQ 7 ?_;refine EvC.loop (fun mm fr st=>∃(j:Nat) (y:D) (seen:List Bool),fr.clean=⟨11,[e6 fr 0,e6 fr 1,.ptr k2 0 0,.ptr k3 0 0,e6 fr 4,.int .i64 (r:Nat),.ptr k6 0 0,lH (aR p.code s),y,.int .i64 (j:Nat),e6 fr 10],[]⟩∧Has s0.bs.length S st [.lst y 1 (seen.map aI),.box k6 (.mem 0 false (ax l.dn l.aD l.td)),.box k3 (.mem 0 false [.int .i64 place,x]),.box k2 (.mem 0 false [p.cd,p.sd])]∧(j+mm=l.aM.length)∧(seen.length=p.code.length)∧(rA l.aM j seen)∧(iW p s l.aM place j)) (l.aM.length) ?_ ?_
    ·exact⟨0,_,List.replicate p.code.length false,rfl,(by rw[List.map_replicate];exact hH),by omega,by simp,rA.nil _ _,(by intro j t h;omega)⟩
    rintro mm fr st ⟨j,y,seen,hfr,hH,hj,fc,pU,JA⟩;rw[hfr];clear hfr;generalize e6 fr=ee;clear fr;refine zQ 6 ?_;refine qn ?_;simp only[List.length_map];refine zQ 2 ?_;refine zP (fun h3=>?_) fun h3=>?_
    ·refine zQ 1 ?_
     obtain⟨⟨pc,tc⟩,ht⟩:∃t,l.aM[j]?=some t:=⟨l.aM[j]'(by omega),List.getElem?_eq_getElem _⟩
     have LX:=yy ht;have jA:¬(kY p s l.aM j pc∧bX tc place)→¬cB p place L:=fun h2 h=>h2 ((h.each r l s (by omega) hl iP).2.2 j _ (by omega) ht);have Jy:kY p s l.aM j pc→bX tc place→iW p s l.aM place (j+1):=fun h1 h2=>nL ht JA h1 h2;refine zQ 7 ?_;refine qr fun LI Fo=>?_;refine EvO.bF rfl (ev rfl) (by assumption) rfl (put_T rfl _) ?_;refine qa hH fun k10 st Kf hH=>?_;dsimp only[u2,u1,u3,u4,setMany,u5,u6,D.cells,Nat.reduceAdd,aq,ax,ai,ae,Pg.cs,cw,cO,aI] at hH;refine qS hH at0 fun st hH=>?_;dsimp only[u2,u1,u3,u4,setMany,u5,u6,D.cells,Nat.reduceAdd,aq,ax,ai,ae,Pg.cs,cw,cO,aI] at hH;refine zQ 1 ?_
     by_cases BC:pc<0
     ·have hg3:decide (pc<0)=true:=decide_eq_true BC;refine zQ 2 ?_;refine EvC.cutT 106 (.bool true) [] ?_ (fun ff tmp htmp=>?_)
      ·refine zQ 26 ?_;refine EvO.nil (leafT ?_ ?_)
       ·dsimp only[setW,List.foldl,nth,u2,u1]
        all_goals(first|rfl|simp)
       ·exact zS
        all_goals(first|rfl|(simp[hg3];done)|(simp_all;done)|(simp[hg3];omega)|(simp_all;omega))
      refine zG ?_;refine qB ?_;rw[ct (jA fun h=>by have:=qK hR e_ h.1.1;omega)];refine zQ 4 ?_;refine EvC.ret ⟨rx,_,rfl,rl hSb hH (rfl)⟩
     ·have hg3:decide (pc<0)=false:=decide_eq_false BC
      by_cases C7:pc≥(p.code.length:Int)
      ·have bt:decide (pc≥(p.code.length:Int))=true:=decide_eq_true C7;refine zQ 2 ?_;refine EvC.cutT 106 (.bool true) [] ?_ (fun ff tmp htmp=>?_)
       ·refine zQ 8 ?_;refine qn ?_ (hg:=wi hg3);simp only[List.length_map];refine zQ 17 ?_;refine EvO.nil (leafT ?_ ?_)
        ·dsimp only[setW,List.foldl,nth,u2,u1]
         all_goals(first|rfl|simp)
        ·exact zS
         all_goals(first|rfl|(simp[hg3,bt];done)|(simp_all;done)|(simp[hg3,bt];omega)|(simp_all;omega))
       refine zG ?_;refine qB ?_;rw[ct (jA fun h=>by have:=qK hR e_ h.1.1;omega)];refine zQ 4 ?_;refine EvC.ret ⟨rx,_,rfl,rl hSb hH (rfl)⟩
      ·have bt:decide (pc≥(p.code.length:Int))=false:=decide_eq_false C7;obtain⟨k,rfl⟩:=Int.eq_ofNat_of_zero_le (show 0≤pc by omega)
       obtain⟨b,hb⟩:∃b,seen[k]?=some b:=⟨seen[k]'(by omega),List.getElem?_eq_getElem _⟩
       have Vk:=fU hb;have ew:(seen.set k true).map aI=(seen.map aI).set k [.bool true]:=by rw[List.map_set];rfl
       refine zQ 2 ?_;refine EvC.cutT 106 (.bool (b||!dec (bX tc place))) [] ?_ (fun ff tmp htmp=>?_)
       ·refine zQ 8 ?_;refine qn ?_ (hg:=wi hg3);simp only[List.length_map];refine zQ 6 ?_;refine qi hH at1 (fun US Ss=>?_) (hg:=wi bt);refine zQ 3 ?_;refine EvO.two 99 rfl (fun De=>?_) (fun De=>?_)
        ·refine zQ 7 ?_;refine EvO.nil (leafT ?_ ?_)
         ·dsimp only[setW,List.foldl,nth,u2,u1]
          all_goals(first|rfl|simp)
         ·refine zF ?_
          all_goals(simp[hg3,bt,De];done)
        ·refine zQ 1 ?_;refine EvO.hloadS (m:=10) hH (wantD_is rfl rfl rfl De) (ev rfl) (by exact at0) (by dsimp only[List.drop_succ_cons,List.drop_zero,List.take_succ_cons,List.take_zero,aq,ax,ai,ae,Pg.cs,cw,cO,aI]<;>rfl) rfl rfl (put_T rfl _) ?_;refine zQ 2 ?_;refine qv (pb tc place) ?_ (hg:=wi De);refine zQ 2 ?_;refine EvO.nil (leafT ?_ ?_)
         ·dsimp only[setW,List.foldl,nth,u2,u1]
          all_goals(first|rfl|simp)
         ·refine zF ?_
          all_goals(simp[hg3,bt,De];done)
       refine zG ?_;refine qc (fun h4=>?_) (fun h4=>?_)<;>try simp only[cs] at h4
       ·rw[ct (jA fun h=>by
         rw[bR h.2] at h4;simp at h4;obtain⟨j',t',h5,h6,h7⟩:=(pU k b hb).1 h4
         exact h.1.2 j' t' h5 h6 h7)]
        refine zQ 4 ?_;refine EvC.ret ⟨rx,_,rfl,rl hSb hH (rfl)⟩
       ·refine zQ 1 ?_;simp only[Bool.or_eq_false_iff,Bool.not_eq_false'] at h4;obtain⟨rfl,h4⟩:=h4;have hpl:=uK h4;have C9:∀j' t',j'<j→l.aM[j']?=some t'→t'.pc≠(k:Int):=fun j' t' h5 h6 h7=>by have:=(pU k false hb).2 ⟨j',t',h5,h6,h7⟩;cases this
        by_cases jI:(k:Int)=s
        ·have hg8:((k:Int) !=s)=false:=by simp[jI]
         refine zQ 2 ?_;refine EvC.cutT 139 (.bool false) [] ?_ (fun ff tmp htmp=>?_)
         ·refine zQ 5 ?_;refine qr fun Jg Gl=>?_;refine zQ 27 ?_;refine EvO.nil (leafT ?_ ?_)
          ·dsimp only[setW,List.foldl,nth,u2,u1]
           all_goals(first|rfl|simp)
          ·exact zS
           all_goals(first|rfl|(simp[hg8];done)|(simp_all;done)|(simp[hg8];omega)|(simp_all;omega))
         dsimp only[setW,List.foldl,nth,u2,u1];refine zQ 6 ?_;refine qi hH at1 fun Mz JU=>?_;refine EvO.eW hH rfl (ev rfl) (ev rfl) (by assumption) rfl rfl (by exact at1) (by assumption) (Nat.le_of_ble_eq_true rfl) (by exact .inl hF) (fun st hH=>?_);dsimp only[u2,u1,u3,u4,setMany,u5,u6,D.cells,Nat.reduceAdd,aq,ax,ai,ae,Pg.cs,cw,cO,aI] at hH;refine zQ 6 ?_;exact⟨mm-1,by omega,⟨j+1,y,seen.set k true,rfl,(by rw[ew];exact hH.drop 1),by omega,by simpa using fc,pU.set ht rfl,Jy ⟨.inl jI,C9⟩ hpl⟩⟩
        ·have hg8:((k:Int) !=s)=true:=by simp[jI]
         by_cases wE:k=0
         ·subst wE;have cJ:(((0:Nat):Int)==0)=true:=rfl;refine zQ 2 ?_;refine EvC.cutT 139 (.bool true) [] ?_ (fun ff tmp htmp=>?_)
          ·refine zQ 5 ?_;refine qr fun Jg Gl=>?_;refine zQ 14 ?_;refine EvO.pickT (wantD_is rfl rfl rfl hg8) rfl cJ (put_T rfl _) ?_;refine zQ 12 ?_;refine EvO.nil (leafT ?_ ?_)
           ·dsimp only[setW,List.foldl,nth,u2,u1]
            all_goals(first|rfl|simp)
           ·exact zS
            all_goals(first|rfl|(simp[hg8,cJ];done)|(simp_all;done)|(simp[hg8,cJ];omega)|(simp_all;omega))
          dsimp only[setW,List.foldl,nth,u2,u1];refine qB ?_
          rw[ct (jA fun h=>by
           rcases h.1.1 with h|⟨i,q,h5,h6,_⟩
           ·exact jI h
           ·omega)]
          refine zQ 4 ?_;refine EvC.ret ⟨rx,_,rfl,rl hSb hH (rfl)⟩
         ·obtain⟨k',rfl⟩:∃k',k=k'+1:=⟨k-1,by omega⟩
          have cJ:(((k'+1:Nat):Int)==0)=false:=by simp;omega
          obtain⟨b2,hb2⟩:∃b,(aR p.code s)[k']?=some b:=⟨(aR p.code s)[k']'(by omega),List.getElem?_eq_getElem _⟩
          obtain⟨q,hq⟩:∃q,p.code[k']?=some q:=⟨p.code[k']'(by omega),List.getElem?_eq_getElem _⟩
          have Vj:=fU hb2;have Vi:=de hq;refine zQ 2 ?_;refine EvC.cutT 139 (.bool (!b2||(q.op !=1))) [] ?_ (fun ff tmp htmp=>?_)
          ·refine zQ 5 ?_;refine qr fun Jg Gl=>?_;refine zQ 10 ?_;refine EvO.gR (z:=((k':Nat):Int)) (wantD_is rfl rfl rfl cJ) (ev rfl) (ev rfl) (by(try simp only[List.length_reverse,List.length_cons,List.length_nil,List.length_append,List.length_map,List.length_set]);rw[wrap_i64 (by omega) (by omega)]<;>omega) (put_T rfl _) ?_;refine qr (fun RN Qk=>?_) (hg:=wi cJ);refine zQ 2 ?_;refine EvO.pickF (wantD_is rfl rfl rfl hg8) rfl cJ (put_T rfl _) ?_;refine zQ 1 ?_;refine EvO.two 128 rfl (fun ga=>?_) (fun ga=>?_)
           ·refine zQ 9 ?_;refine EvO.pickT (wantD_is rfl rfl rfl hg8) rfl ga (put_T rfl _) ?_;refine zQ 1 ?_;refine EvO.nil (leafT ?_ ?_)
            ·dsimp only[setW,List.foldl,nth,u2,u1]
             all_goals(first|rfl|simp)
            ·refine zF ?_
             all_goals(simp[hg8,cJ,ga];done)
           ·refine zQ 4 ?_;refine EvO.gR (z:=((k':Nat):Int)) (wantD_is rfl rfl rfl ga) (ev rfl) (ev rfl) (by(try simp only[List.length_reverse,List.length_cons,List.length_nil,List.length_append,List.length_map,List.length_set]);rw[wrap_i64 (by omega) (by omega)]<;>omega) (put_T rfl _) ?_;refine qr (fun RM Qj=>?_) (hg:=wi ga);refine qf (fo:=0) (fun RL Qi=>?_) (hg:=wi ga);refine zQ 2 ?_;refine EvO.pickF (wantD_is rfl rfl rfl hg8) rfl ga (put_T rfl _) ?_;refine zQ 1 ?_;refine EvO.nil (leafT ?_ ?_)
            ·dsimp only[setW,List.foldl,nth,u2,u1]
             all_goals(first|rfl|simp)
            ·refine zF ?_
             all_goals(simp[hg8,cJ,ga];done)
          dsimp only[setW,List.foldl,nth,u2,u1];refine qc (fun h5=>?_) (fun h5=>?_)<;>try simp only[cs] at h5
          ·rw[ct (jA fun h=>by
            rcases h.1.1 with h|⟨i,q',h6,h7,h8,h9,h10⟩
            ·exact jI h
            ·have:i=k':=by omega
             subst this;rw[hb2] at h8;cases h8;rw[hq] at h9;cases h9
             simp[h10] at h5)]
           refine zQ 4 ?_;refine EvC.ret ⟨rx,_,rfl,rl hSb hH (rfl)⟩
          ·refine zQ 1 ?_;simp only[Bool.or_eq_false_iff,Bool.not_eq_false',bne_eq_false_iff_eq] at h5;obtain⟨rfl,h5⟩:=h5;refine zQ 4 ?_;refine qi hH at1 fun Mz JU=>?_;refine EvO.eW hH rfl (ev rfl) (ev rfl) (by assumption) rfl rfl (by exact at1) (by assumption) (Nat.le_of_ble_eq_true rfl) (by exact .inl hF) (fun st hH=>?_);dsimp only[u2,u1,u3,u4,setMany,u5,u6,D.cells,Nat.reduceAdd,aq,ax,ai,ae,Pg.cs,cw,cO,aI] at hH;refine zQ 6 ?_;exact⟨mm-1,by omega,⟨j+1,y,seen.set (k'+1) true,rfl,(by rw[ew];exact hH.drop 1),by omega,by simpa using fc,pU.set ht rfl,Jy ⟨.inr ⟨k',q,by omega,rfl,hb2,hq,h5⟩,C9⟩ hpl⟩⟩
    ·refine zQ 6 ?_;exact⟨L.length-(r+1),by omega,⟨r+1,rfl,hH.drop 2,by omega,hw.succ hl iP ⟨h2.2,h2.1,by rw[show l.aM.length=j by omega];exact JA⟩⟩⟩
  ·refine zQ 1 ?_;rw[bR (q:=cB p place L) ⟨hR,hge,hle,KE,by rw[show L.length=r by omega];exact hw⟩];refine zQ 4 ?_;refine EvC.ret ⟨rx,_,rfl,rl hSb hH (rfl)⟩
end Go.Proofs.YtnleclohocdkaaaGreat
namespace Go.Proofs.YtnleclohocdkaaaGreat
open Go.V Go
def GT.Bv (t:GT):eQ:=⟨t.pc.toNat,t.c⟩
def GV.v (l:GV):VL:=⟨l.dn,l.aD,l.td,l.aM.map GT.Bv⟩
theorem wM (L:List GV):(L.map GV.v).map dp=L.map cO:=by rw[List.map_map];rfl
theorem Ap {l:List GT} (h:∀t∈l,0≤t.pc):(l.map GT.Bv).map az=l.map cw:=by
 rw[List.map_map];refine List.map_congr_left fun t ht=>?_;obtain⟨k,hk⟩:=Int.eq_ofNat_of_zero_le (h t ht);obtain⟨pc,c⟩:=t;simp only at hk;subst hk
 rfl
theorem cB.Bv {p:Pg} {place:Int} {L:List GV} (h:cB p place L) {l:GV} (hl:l∈L) {t:GT} (ht:t∈l.aM):0≤t.pc∧t.pc<(p.code.length:Int):=by
 obtain⟨r,hr⟩:=List.getElem?_of_mem hl;obtain⟨j,hj⟩:=List.getElem?_of_mem ht;have n_:=lt_get hr;have hlen:=h.len
 obtain⟨s,hs⟩:∃s,p.af[r]?=some s:=⟨p.af[r]'(by omega),List.getElem?_eq_getElem _⟩
 exact qK h.right (h.right.st s (List.mem_of_getElem? hs)) ((h.each r l s n_ hr hs).2.2 j t (lt_get hj) hj).1.1
theorem cB.cells {p:Pg} {place:Int} {L:List GV} (h:cB p place L) {l:GV} (hl:l∈L):l.v.aM.map az=l.aM.map cw:=Ap fun t ht=>(h.Bv hl ht).1
theorem cB.ok {p:Pg} {place:Int} {L:List GV} (h:cB p place L) (ht:∀l∈L,l.aM.length≤1000):∀l∈(L.map GV.v).map VL.pl,l.ok p.code.length:=by
 intro q hq;obtain⟨v,hv,rfl⟩:=List.mem_map.1 hq;obtain⟨l,hl,rfl⟩:=List.mem_map.1 hv;refine⟨fun t h'=>?_,by show(l.aM.map GT.Bv).length≤1000;rw[List.length_map];exact ht l hl⟩;obtain⟨u,hu,rfl⟩:=List.mem_map.1 (show t∈l.aM.map GT.Bv from h');have:=h.Bv hl hu;show u.pc.toNat<_;omega
theorem BN (fQ:∀st,Ev pv 63 [] st (.agg (ai bG)) st) {N:Nat} {S s0:St} {H:List aP} {p:Pg} {x:D} {L:List GV} {place:Int} (hF:S.flr≤N) (hp:p.ok) (hR:aX p) (hW:¬cB p place L) (hx:Arg N S 12 x (L.map cO)) (hLl:L.length≤1048576) (ht:∀l∈L,Arg N S 11 l.td (l.aM.map cw)∧l.aM.length≤1048576) (hH:Has N S s0 H):
  ∃r ab,Ev pv 19 [p.d,.agg [.int .i64 place,x]] s0 r ab∧r=.tup [.pnil,.int .i64 4]∧Has N S ab H:=by
 have Ee:=fun{st:St} {H:List aP} (hH:Has N S st H)=>uY hF hp hR hH;have JB:=fun{st:St} (hx:fm st x L)=>oX fQ hp hx place;rw[ct hW] at JB;unfold Pg.d at*;refine Ev.iI rfl KR rfl rfl rfl ?_;refine zE ?_;change EvC _ _ _ _ s0 _;refine zQ 2 ?_;refine qb hH fun k2 st hk2 hH=>?_;dsimp only[u2,u1,u3,u4,setMany,u5,u6,D.cells,Nat.reduceAdd,Pg.cs] at hH;refine qb hH fun k3 st BD hH=>?_;refine zQ 5 ?_;refine EvO.hloadS (m:=2) hH rfl (ev rfl) (by exact at1) (by dsimp only[List.drop_succ_cons,List.drop_zero,List.take_succ_cons,List.take_zero,Pg.cs]<;>rfl) rfl rfl (put_T rfl _) ?_;obtain⟨_,st,hev,kv,ks,q,rfl,hq,hM⟩:=Ee hH;refine qv hev ?_;refine zQ 6 ?_;obtain⟨pd,qd,P,Q,sn,hH,hok,fc⟩:=hM;dsimp only[u4,u6] at hH;refine zQ 6 ?_;refine EvC.cond (v:=false) (by dsimp only[Fr.ev,Fr.get,nth,V.look];rfl) (fun h=>by cases h) (fun _=>?_);refine zQ 4 ?_;refine EvO.hloadS (m:=2) hH rfl (ev rfl) (by exact at6) (by dsimp only[List.drop_succ_cons,List.drop_zero,List.take_succ_cons,List.take_zero,Pg.cs]<;>rfl) rfl rfl (put_T rfl _) ?_;refine EvO.hloadS (m:=2) hH rfl (ev rfl) (by exact at5) (by dsimp only[List.drop_succ_cons,List.drop_zero,List.take_succ_cons,List.take_zero,Pg.cs]<;>rfl) rfl rfl (put_T rfl _) ?_;refine qv ((JB ⟨hx.rows hH,hLl,fun l hl=>⟨(ht l hl).1.rows hH,(ht l hl).2⟩⟩)) ?_;refine zQ 2 ?_;refine EvC.cond (v:=true) (by dsimp only[Fr.ev,Fr.get,nth,V.look];rfl) (fun _=>?_) (fun h=>by cases h);refine zQ 5 ?_;refine EvC.ret ⟨rx,_,_,_,rfl,rfl,?_⟩;exact⟨rfl,hH.drop 7⟩
theorem GC (fQ:∀st,Ev pv 63 [] st (.agg (ai bG)) st) {N:Nat} {S s0:St} {H:List aP} {p:Pg} {x:D} {L:List GV} {place:Int} (hF:S.flr≤N) (hp:p.ok) (hW:cB p place L) (hx:Arg N S 12 x (L.map cO)) (ht:∀l∈L,Arg N S 11 l.td (l.aM.map cw)∧l.aM.length≤1000) (hH:Has N S s0 H):
  ∃r ab,Ev pv 19 [p.d,.agg [.int .i64 place,x]] s0 r ab∧∃kv ks q ld L',r=.tup [.ptr kv 0 0,.int .i64 0]∧uO p q∧L'.map VL.pl=(L.map GV.v).map VL.pl∧MH [] N S ab ks kv q place.toNat ld L' H:=by
 have hR:=hW.right;have JI:=hR.sl;have hLl:=hW.len;obtain⟨pn,rfl⟩:=Int.eq_ofNat_of_zero_le hW.ge;have Ee:=fun{st:St} {H:List aP} (hH:Has N S st H)=>uY hF hp hR hH;have JB:=fun{st:St} (hx:fm st x L)=>oX fQ hp hx ((pn:Nat):Int);rw[bR hW] at JB;have Vf:=hx.2
 have TK:=fun{st:St} {H:List aP} (hH:Has N S st H)=>re (L:=L.map GV.v) (x:=x) hF (by rw[List.length_map];omega) (by rw[wM];exact hx) (fun l hl=>by
  obtain⟨g,hg,rfl⟩:=List.mem_map.1 hl;refine⟨?_,by show(g.aM.map GT.Bv).length≤1000;rw[List.length_map];exact(ht g hg).2⟩
  rw[hW.cells hg];exact(ht g hg).1) hH
 unfold Pg.d at*;refine Ev.iI rfl KR rfl rfl rfl ?_;refine zE ?_;change EvC _ _ _ _ s0 _;refine qq<|qj fun K hK=>qb hH fun k2 st hk2 hH=>?_;dsimp only[u2,u1,u3,u4,setMany,u5,u6,D.cells,Nat.reduceAdd,Pg.cs] at hH;refine qb hH fun k3 st BD hH=>?_;refine qm ?_;refine qm ?_;refine qe hK<|qq<|qj fun K hK=>?_;refine EvO.hloadS (m:=2) hH rfl (ev rfl) (by exact at1) (by dsimp only[List.drop_succ_cons,List.drop_zero,List.take_succ_cons,List.take_zero,Pg.cs]<;>rfl) rfl rfl (put_T rfl _) ?_;obtain⟨_,st,hev,kv,ks,q,rfl,hq,hM⟩:=Ee hH;refine qv hev ?_;refine qm ?_;refine qg ?_;refine qg ?_;refine qm ?_;refine qm ?_;refine qe hK ?_;obtain⟨pd,qd,P,Q,sn,hH,hok,fc⟩:=hM;dsimp only[u4,u6] at hH;refine qq<|qq<|qj fun K hK=>qm ?_;refine qg ?_;refine qe hK<|EvC.cond (v:=false) (by dsimp only[Fr.ev,Fr.get,nth,V.look];rfl) (fun h=>by cases h) (fun _=>?_);refine EvC.skip<|qq<|qq<|qj fun K hK=>?_;refine EvO.hloadS (m:=2) hH rfl (ev rfl) (by exact at6) (by dsimp only[List.drop_succ_cons,List.drop_zero,List.take_succ_cons,List.take_zero,Pg.cs]<;>rfl) rfl rfl (put_T rfl _) ?_;refine EvO.hloadS (m:=2) hH rfl (ev rfl) (by exact at5) (by dsimp only[List.drop_succ_cons,List.drop_zero,List.take_succ_cons,List.take_zero,Pg.cs]<;>rfl) rfl rfl (put_T rfl _) ?_;refine qv ((JB ⟨hx.rows hH,by omega,fun l hl=>⟨(ht l hl).1.rows hH,by have:=(ht l hl).2;omega⟩⟩)) ?_;refine qg ?_;refine qe hK<|EvC.cond (v:=false) (by dsimp only[Fr.ev,Fr.get,nth,V.look];rfl) (fun h=>by cases h) (fun _=>?_);refine EvC.skip ?_;have hH:=Has.iD [_,_,_,_,_] [_,_] hH;dsimp only[u3,u4] at hH;have rN:=hH;have BD:=hH.ge at0;change EvC _ _ _ _ _ _;refine qq ?_;generalize hK:SeqQ _ _ _ _=K;refine EvC.lT rfl ?_;refine ba.cons ?_;refine qm ?_;refine EvO.nil ⟨rfl,?_⟩;refine ba.cons ?_;refine qm ?_;refine EvO.nil ⟨rfl,?_⟩;refine ba.cons ?_;refine qp (o:=0) ?_;refine EvO.nil ⟨rfl,?_⟩;refine ba.cons ?_;refine ql hH at0 ?_;refine EvO.nil ⟨rfl,?_⟩;refine ba.cons ?_;refine qp (o:=1) ?_;refine EvO.nil ⟨rfl,?_⟩;refine ba.cons ?_;refine ql hH at0 ?_;refine EvO.nil ⟨rfl,?_⟩;refine ba.cons ?_;obtain⟨_,st,hev,L2,Ei,hH⟩:=TK hH;have hH:=Has.iD (_::L2.map mF) [_,_,_,_,_,_,_] hH;dsimp only[u3,u4] at hH;have yx:=hH;refine qv hev ?_;refine EvO.nil ⟨by exact Bool.and_eq_true_iff.2 ⟨dQ rfl rfl rfl (rN.at at0) (yx.at at0) (rN.at at0) (by simp only[refs,D.ref];omega),rfl⟩,?_⟩;refine ba.cons ?_;refine qg ?_;refine EvO.nil ⟨rfl,?_⟩;refine ba.cons ?_;refine qp (o:=2) ?_;refine EvO.nil ⟨rfl,?_⟩;refine ba.cons ?_;refine qT hH at2 fun st hH=>?_;dsimp only[u2,u1,u3,u4,setMany,u5,u6,D.cells,Nat.reduceAdd,Pg.cs] at hH;refine EvO.nil ⟨rfl,?_⟩;refine ba.cons ?_;refine qg ?_;refine EvO.nil ⟨rfl,?_⟩;refine ba.cons ?_;refine qp (o:=3) ?_;refine EvO.nil ⟨rfl,?_⟩;refine ba.cons ?_;refine qT hH at2 (fun st hH=>?_) (gQ:=hH.ocells at7);dsimp only[u2,u1,u3,u4,setMany,u5,u6,D.cells,Nat.reduceAdd,Pg.cs] at hH;refine EvO.nil ⟨rfl,?_⟩;refine ba.nil ?_;subst hK;refine qq<|qj fun K hK=>qm ?_;refine qm ?_;refine qm ?_;refine qe hK<|EvC.ret ⟨rx,_,_,_,rfl,rfl,?_⟩;rw[Int.toNat_natCast];exact⟨kv,ks,q,_,L2,rfl,hq,Ei,pd,qd,P,Q,sn,(hH.drop 2).erase 4,hok,fc⟩
structure LG (x:D) (L:List GV):Prop where
 sl:SlD x 12 (L.map cO)
 ln:L.length≤12
 th:∀l∈L,SlD l.td 11 (l.aM.map cw)∧l.aM.length≤500
theorem LG.arg {x:D} {L:List GV} (h:LG x L) (st:St):fm st x L:=⟨h.sl.rows st,by have:=h.ln;omega,fun l hl=>⟨(h.th l hl).1.rows st,by have:=(h.th l hl).2;omega⟩⟩
end Go.Proofs.YtnleclohocdkaaaGreat
namespace Go.Proofs.YtnleclohocdkaaaGreat
open Go.V Go
theorem Dr (l:List GT):∀e∈l.map cw,∀d∈e,bC d=true:=by
 intro e he d hd;obtain⟨q,_,rfl⟩:=List.mem_map.1 he;simp only[cw,List.mem_cons,List.not_mem_nil,or_false] at hd
 rcases hd with rfl|rfl|rfl|rfl|rfl|rfl|rfl|rfl|rfl|rfl|rfl<;>rfl
theorem H9 (l:List GT):∀e∈l.map cw,e.length=11:=by
 intro e he;obtain⟨q,_,rfl⟩:=List.mem_map.1 he;rfl
def OC (l:List GT):D:=.sl ((l.map cw).map (iR 11))
theorem KL (l:List GT):SlD (OC l) 11 (l.map cw):=SlD.frozen (H9 l) (Dr l)
def GV.told (l:GV):GV:=⟨l.dn,l.aD,OC l.aM,l.aM⟩
def G3 (L:List GV):D:=.sl (((L.map GV.told).map cO).map (iR 12))
theorem H8 (L:List GV):∀e∈L.map cO,e.length=12:=by
 intro e he;obtain⟨q,_,rfl⟩:=List.mem_map.1 he;rfl
theorem told_plain (L:List GV):∀e∈(L.map GV.told).map cO,∀d∈e,bC d=true:=by
 intro e he d hd;obtain⟨q,hq,rfl⟩:=List.mem_map.1 he;obtain⟨g,_,rfl⟩:=List.mem_map.1 hq;simp only[cO,ax,GV.told,OC,List.mem_cons,List.not_mem_nil,or_false] at hd
 rcases hd with rfl|rfl|rfl|rfl|rfl|rfl|rfl|rfl|rfl|rfl|rfl|rfl<;>rfl
theorem LG.told {x:D} {L:List GV} (h:LG x L):LG (G3 L) (L.map GV.told):=by
 refine⟨SlD.frozen (H8 _) (told_plain L),by rw[List.length_map];exact h.ln,fun l hl=>?_⟩;obtain⟨g,hg,rfl⟩:=List.mem_map.1 hl;exact⟨KL _,(h.th g hg).2⟩
theorem rW {p:Pg} {place:Int} {L:List GV}:cB p place (L.map GV.told)↔cB p place L:=by
 constructor
 ·rintro⟨h1,h2,h3,h4,h5⟩;refine⟨h1,h2,h3,by simpa using h4,fun r l s hr hl hs=>?_⟩;have:=h5 r l.told s (by simpa using hr) (by rw[List.getElem?_map,hl];rfl) hs;exact this
 ·rintro⟨h1,h2,h3,h4,h5⟩;refine⟨h1,h2,h3,by simpa using h4,fun r l s hr hl hs=>?_⟩;rw[List.getElem?_map] at hl;obtain⟨g,hg,rfl⟩:=Option.map_eq_some_iff.1 hl;exact h5 r g s (by simpa using hr) hg hs
end Go.Proofs.YtnleclohocdkaaaGreat
namespace Go.Proofs.YtnleclohocdkaaaGreat
open Go.V Go
def rE (code:List aC) (R:List Bool):Prop:=∀(u:Nat) i,R[u]?=some true→code[u]?=some i→∀w∈bj u i,R[w.toNat]?=some true
structure Ir (code:List aC) (R:List Bool) (pl:Int) (w:Wk):Prop where
 b:w.dn=true∨kU w.aD
 p:bX w.aD pl
 r:∀t∈w.rdy,R[t.pc]?=some true∧(∃i,code[t.pc]?=some i∧i.op=1)∧bX t.c pl
theorem Ir.seen {code:List aC} {R:List Bool} {pl:Int} {w:Wk} (h:Ir code R pl w) (s:List Bool):Ir code R pl ⟨s,w.dn,w.aD,w.rdy⟩:=⟨h.b,h.p,h.r⟩
theorem sq {f:lb} {pl Cl:Int} (h:bX f pl) (hp:pl≤Cl):bX f Cl:=fun i hi=>⟨(h i hi).1,by have:=(h i hi).2;omega⟩
structure DZ (p:Pg) (s:Int) (pl:Int) (l:PL):Prop where
 b:l.dn=true∨kU l.aD
 c:bX l.aD pl
 t:∀t∈l.aM,og p s p.code.length (t.pc:Int)∧bX t.c pl
 d:(l.aM.map eQ.pc).Nodup
theorem DZ.up {p:Pg} {s pl Cl:Int} {l:PL} (h:DZ p s pl l) (hp:pl≤Cl):DZ p s Cl l:=⟨h.b,sq h.c hp,fun t ht=>⟨(h.t t ht).1,sq (h.t t ht).2 hp⟩,h.d⟩
def eQ.g (t:eQ):GT:=⟨(t.pc:Int),t.c⟩
def VL.g (l:VL):GV:=⟨l.dn,l.aD,l.td,l.aM.map eQ.g⟩
theorem zZ (l:List eQ):(l.map eQ.g).map cw=l.map az:=by rw[List.map_map];rfl
theorem BL (V:List VL):(V.map VL.g).map cO=V.map dp:=by rw[List.map_map];rfl
end Go.Proofs.YtnleclohocdkaaaGreat
