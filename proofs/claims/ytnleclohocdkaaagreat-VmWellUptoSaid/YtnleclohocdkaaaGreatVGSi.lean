/-
 What a machine has, lists that are copied: in memory of one's own (keep).
-/
import Derived.Test.YtnleclohocdkaaaGreatVGHr
import Derived.Test.YtnleclohocdkaaaGreatVGZb
import Derived.Test.YtnleclohocdkaaaGreatVM2
import Derived.DataReads
import Derived.ChangeOld
import GoSem.ClaimChange
import Derived.Below
import Derived.Test.YtnleclohocdkaaaGreatRows
import Derived.Test.YtnleclohocdkaaaGreatVGQe
set_option maxRecDepth 100000
set_option maxHeartbeats 4000000
set_option linter.unusedSimpArgs false
set_option linter.unusedVariables false
set_option linter.unusedSectionVars false
set_option linter.unnecessarySimpa false
namespace Go.Proofs.YtnleclohocdkaaaGreat
open Go.V Go
def ie (fr:Go.V.Fr) (k:Nat):Go.V.D:=Go.V.nth .junk fr.loc k
theorem xi {kv ks:Nat} {s0:St} {p:Pg} {pl:Nat} {ld:D} {L:List VL} (hp:p.ok) (hLl:L.length≤1000) (hok:∀l∈L,l.aM.length≤1000) (hA:AM s0.bs.length s0 kv ks p pl ld L) (hF:s0.flr≤s0.bs.length) (fe:s0.ro≤s0.bs.length):
  ∃r ab,Ev pv 17 [.ptr kv 0 0] s0 r ab∧∃(d:D) (L':List VL),r=.agg [.int .i64 (pl:Nat),d]∧L'.map VL.pl=L.map VL.pl∧Has s0.bs.length s0 ab (.lst d 12 (L'.map dp)::L'.map mF):=by
 have hH:Has s0.bs.length s0 s0 []:=Has.start (Nat.le_refl _) fe;refine Ev.iI rfl Ph rfl rfl rfl ?_;refine zE ?_;change EvC _ _ _ _ s0 _;refine qq<|qj fun K hK=>qa hH fun k2 st hk2 hH=>?_;refine qe hK ?_;have C7:=hA.to hH 2;have Vp:=hA.to hH 3;have hb2:=hA.box hH;have Gh:=hA.refs hp hH;change EvC _ _ _ _ _ _;refine qq ?_;generalize hK:SeqQ _ _ _ _=K;refine EvC.lT rfl ?_;refine ba.cons ?_;refine qm ?_;refine EvO.nil ⟨rfl,?_⟩;refine ba.cons ?_;refine qg ?_;refine EvO.nil ⟨rfl,?_⟩;refine ba.cons ?_;refine qp (o:=2) ?_;refine EvO.nil ⟨rfl,?_⟩;refine ba.cons ?_;refine qR ?_;refine EvO.nil ⟨rfl,?_⟩;refine ba.cons ?_;refine qm ?_;refine EvO.nil ⟨rfl,?_⟩;refine ba.cons ?_;refine qg ?_;refine EvO.nil ⟨rfl,?_⟩;refine ba.cons ?_;refine qp (o:=3) ?_;refine EvO.nil ⟨rfl,?_⟩;refine ba.cons ?_;refine qR ?_;refine EvO.nil ⟨rfl,?_⟩;refine ba.cons ?_;obtain⟨_,st,hev,L2,Ei,hH⟩:=re hF hLl hA.ld (fun l hl=>⟨hA.td l hl,hok l hl⟩) hH;have hH:=Has.iD (_::L2.map mF) [_] hH;dsimp only[u3,u4] at hH;refine qv hev ?_;refine EvO.nil ⟨by exact Bool.and_eq_true_iff.2 ⟨dQ rfl rfl rfl hb2 (hA.box hH) hb2 Gh,rfl⟩,?_⟩;refine ba.cons ?_;refine EvO.eX (qs:=[(0,_),(1,_)]) rfl rfl rfl rfl ⟨rfl,(ev rfl),(by rfl),rfl,(ev rfl),(by exact hH.ocells (by exact at1)),trivial⟩ (by intro q hq;simp only[List.mem_cons,List.not_mem_nil,or_false] at hq;rcases hq with rfl|rfl<;>exact⟨rfl,by exact Nat.le_of_ble_eq_true rfl⟩) (by show List.foldl _ [_,_] _=_;dsimp only[List.foldl_cons,List.foldl_nil,u2,u1]<;>rfl) (put_T rfl _) ?_;refine EvO.nil ⟨rfl,?_⟩;refine ba.cons ?_;refine qS hH at0 fun st hH=>?_;dsimp only[u2,u1,u3,u4,setMany,u5,u6,D.cells,Nat.reduceAdd,aq,az,ax,ai,dp,fV] at hH;refine EvO.nil ⟨rfl,?_⟩;refine ba.nil ?_;subst hK;refine EvC.ret ⟨rx,_,_,_,hH.oI rfl at0 rfl,rfl,?_⟩;refine⟨_,L2,rfl,Ei,?_⟩;have h1:=hH.drop 1
 simpa only[List.drop_succ_cons,List.drop_zero,List.append_nil] using h1
def FM (l:GV):aP:=.lst l.td 11 (l.aM.map cw)
theorem rR {N:Nat} {S s0:St} {H:List aP} {x:D} {L:List GV} (hF:S.flr≤N) (hLl:L.length≤1000) (hx:Arg N S 12 x (L.map cO)) (ht:∀l∈L,Arg N S 11 l.td (l.aM.map cw)∧l.aM.length≤1000) (hH:Has N S s0 H):
  ∃d ab,Ev pv 24 [x] s0 d ab∧∃L':List GV,L'.map GV.told=L.map GV.told∧Has N S ab (.lst d 12 (L'.map cO)::(L'.map FM++H)):=by
 refine Ev.iI rfl O' rfl rfl rfl ?_;refine zE ?_;change EvC _ _ _ _ s0 _;refine zQ 14 ?_;refine EvC.loop (fun mm fr st=>∃(i:Nat) (y:D) (M:List GV),fr.clean=⟨6,[x,ie fr 1,ie fr 2,y,.int .i64 (i:Nat),ie fr 5],[]⟩∧Has N S st (.lst y 12 (M.map cO)::(M.map FM++H))∧(i+mm=L.length)∧(M.map GV.told=(L.take i).map GV.told)) (L.length) ?_ ?_
 ·exact⟨0,.nul,[],rfl,(hH.nulE 12),by omega,rfl⟩
 rintro mm fr st ⟨i,y,M,hfr,hH,hi,hM⟩;rw[hfr];clear hfr;generalize ie fr=ee;clear fr
 have T7:M.length=i:=by
  have:=congrArg List.length hM;rw[List.length_map,List.length_map,List.length_take] at this;omega
 refine zQ 5 ?_;refine qn ?_;simp only[List.length_map];refine zQ 2 ?_;refine zP (fun hlt=>?_) fun hlt=>?_
 ·refine zQ 1 ?_;have hil:i<L.length:=by omega
  obtain⟨l,hl⟩:∃l,L[i]?=some l:=⟨L[i]'hil,List.getElem?_eq_getElem _⟩
  obtain⟨E_,lI⟩:=ht l (List.mem_of_getElem? hl);have hr1:=ny hl;refine zQ 6 ?_;refine qr fun P0 JV=>?_;refine EvO.bF rfl (ev rfl) (by assumption) rfl (put_T rfl _) ?_;refine qa hH fun k5 st zO hH=>?_;refine qS hH at0 fun st hH=>?_;dsimp only[u2,u1,u3,u4,setMany,u5,u6,D.cells,Nat.reduceAdd,aq,cw,ax,ai,cO] at hH;refine zQ 3 ?_;refine EvO.HE (s:=11) hH rfl rfl rfl rfl rfl (fun _=>(put_T rfl _)) (fun k16 st To hH=>?_);refine zQ 2 ?_;refine qr fun LO Fu=>?_;refine qf (fo:=11) fun F_ wy=>?_;refine qR ?_;refine EvO.happend (s:=11) hH rfl (ev rfl) (ev rfl) (by exact at0) (by exact Arg.rows (by assumption) hH) rfl rfl rfl rfl rfl rfl rfl ⟨(Nat.le_of_ble_eq_true rfl),(Nat.le_of_ble_eq_true rfl)⟩ (fun _=>(put_T rfl _)) (by simp only[List.length_nil,List.length_map]<;>omega) (by exact .inl hF) (fun Rk st hH=>?_);dsimp only[u2,u1,u3,u4,setMany,u5,u6,D.cells,Nat.reduceAdd,aq,cw,ax,ai,cO] at hH;refine zQ 1 ?_;refine qT hH at1 (fun st hH=>?_) (gQ:=hH.ocells at0);dsimp only[u2,u1,u3,u4,setMany,u5,u6,D.cells,Nat.reduceAdd,aq,cw,ax,ai,cO] at hH;refine zQ 3 ?_;refine EvO.hloadS (m:=12) hH rfl (ev rfl) (by exact at1) (by dsimp only[List.drop_succ_cons,List.drop_zero,List.take_succ_cons,List.take_zero,aq,cw,ax,ai,cO]<;>rfl) rfl rfl (put_T rfl _) ?_;refine qh (s:=12) (vs:=[_]) hH fun k26 st NS hH=>?_;refine EvO.happend (s:=12) hH rfl (ev rfl) (ev rfl) (by exact at3) (by exact hH.rows (by exact at0)) rfl rfl rfl rfl rfl rfl rfl ⟨(Nat.le_of_ble_eq_true rfl),(Nat.le_of_ble_eq_true rfl)⟩ (fun _=>(put_T rfl _)) (by simp only[List.length_cons,List.length_nil,List.length_map]<;>omega) (by exact .inl hF) (fun Ri st hH=>?_);dsimp only[u2,u1,u3,u4,setMany,u5,u6,D.cells,Nat.reduceAdd,aq,cw,ax,ai,cO] at hH;refine zQ 2 ?_;have hH:=(hH.drop 1).erase 1;have hH:=Has.iD [_] (_::M.map FM) hH;refine zQ 5 ?_;refine⟨mm-1,by omega,⟨i+1,Ri,M++[⟨l.dn,l.aD,Rk,l.aM⟩],rfl,?_,by omega,?_⟩⟩
  ·rw[List.map_append,List.map_append,List.append_assoc];exact hH
  ·rw[List.map_append,hM,List.take_add_one,hl,Option.toList_some,List.map_append];rfl
 ·refine zQ 1 ?_;have hil:i=L.length:=by omega
  refine zQ 5 ?_;refine EvC.ret ⟨rx,_,_,_,rfl,rfl,?_⟩;rw[List.take_of_length_le (by omega)] at hM;exact⟨M,hM,hH⟩
def kD (d:D) (L:List GV):List aP:=.lst d 12 (L.map cO)::L.map FM
theorem jg {N:Nat} {S st:St} {A B:List aP} {d:D} {L:List GV} (hH:Has N S st (A++(kD d L++B))) (hl:L.length≤1000) (ht:∀l∈L,l.aM.length≤1000):fm st d L:=by
 have h0:(A++(kD d L++B))[A.length]?=some (.lst d 12 (L.map cO)):=by
  rw[List.getElem?_append_right (Nat.le_refl _),Nat.sub_self];rfl
 refine⟨hH.rows h0,by omega,fun l hm=>⟨?_,by have:=ht l hm;omega⟩⟩;obtain⟨i,hi⟩:=List.getElem?_of_mem hm;have hil:=lt_get hi
 have h1:(A++(kD d L++B))[A.length+(1+i)]?=some (FM l):=by
  rw[List.getElem?_append_right (by omega),show A.length+(1+i)-A.length=i+1 by omega];show(aP.lst d 12 (L.map cO)::(L.map FM++B))[i+1]?=_;rw[List.getElem?_cons_succ,List.getElem?_append_left (by rw[List.length_map];exact hil),List.getElem?_map,hi];rfl
 exact hH.rows h1
theorem y6 {N:Nat} {S s0:St} {H:List aP} (hF:S.flr≤N) (hH:Has N S s0 H):s0.flr≤s0.bs.length∧s0.ro≤s0.bs.length:=by
 have h1:=hH.ex.flr;have h2:=hH.ex.ro;have h3:=hH.fe;have h4:=hH.hN;have h5:=hH.ex.len;constructor<;>omega
theorem MH.over {A H2:List aP} {N:Nat} {S st ab:St} {ks kv:Nat} {p:Pg} {pl:Nat} {ld:D} {L:List VL} {H:List aP} (hM:MH A N S st ks kv p pl ld L H) (h2:Has st.bs.length st ab H2):MH (H2++A) N S ab ks kv p pl ld L H:=by
 obtain⟨pd,qd,P,Q,sn,hH,h3,h4⟩:=sF hM;exact vU (by simpa only[List.append_assoc] using Has.over hH h2) h3 h4
theorem Has.uL {N:Nat} {S st:St} (A B C:List aP) (h:Has N S st (A++(B++C))):Has N S st (A++C):=by
 have h1:=(Has.iD A B h).drop B.length
 rwa [List.drop_left] at h1
theorem Has.GF {N:Nat} {S st:St} (A B C D:List aP) (h:Has N S st (A++(B++(C++D)))):Has N S st (A++(C++(B++D))):=by
 have h1:=Has.iD A (B++(C++D)) (H:=[]) (by rw[List.append_nil];exact h);rw[List.append_nil,List.append_assoc,List.append_assoc] at h1;have h2:=Has.iD B C h1;have h3:=Has.iD (C++(B++D)) A (H:=[]) (by rw[List.append_nil];simpa only[List.append_assoc] using h2);rw[List.append_nil] at h3;exact h3
theorem vV {A:List aP} {N:Nat} {S st:St} {ks kv:Nat} {p:Pg} {pl:Nat} {ld:D} {L:List VL} {pd qd:D} {P Q:List Nat} {sn:List Bool} {H:List aP} (hH:Has N S st (A++(cN ks kv p pl ld pd qd P Q L++H))) (h1:cy P Q sn) (h2:sn.length=p.code.length):MH [] N S st ks kv p pl ld L (A++H):=by
 have:=MH.push A [] (H:=H) (by rw[List.append_nil];exact vU hH h1 h2);exact this
theorem mZ {A B:List aP} {N:Nat} {S st:St} {ks kv:Nat} {p:Pg} {pl:Nat} {ld:D} {L:List VL} {H:List aP} (hM:MH B N S st ks kv p pl ld L (A++H)):∃pd qd P Q sn,Has N S st (A++(B++(cN ks kv p pl ld pd qd P Q L++H)))∧cy P Q sn∧sn.length=p.code.length:=by
 obtain⟨pd,qd,P,Q,sn,hH,h1,h2⟩:=sF (MH.pull A B hM);exact⟨pd,qd,P,Q,sn,by rw[List.append_assoc] at hH;exact hH,h1,h2⟩
theorem kg {N kv ks:Nat} {S s0:St} {H:List aP} {p:Pg} {pl:Nat} {ld:D} {L:List VL} (hF:S.flr≤N) (hp:p.ok) (hLl:L.length≤1000) (hok:∀l∈L,l.aM.length≤1000) (hM:MH [] N S s0 ks kv p pl ld L H):
  ∃r ab,Ev pv 17 [.ptr kv 0 0] s0 r ab∧∃(d:D) (L':List VL),r=.agg [.int .i64 (pl:Nat),d]∧L'.map VL.pl=L.map VL.pl∧MH (kD d (L'.map VL.g)) N S ab ks kv p pl ld L H:=by
 obtain⟨_,_,_,_,_,hH,_,_⟩:=sF hM;obtain⟨h1,h2⟩:=y6 hF hH;obtain⟨r,ab,hev,d,L',hr,hL,yx⟩:=xi hp hLl hok hM.am h1 h2
 have e:(.lst d 12 (L'.map dp)::L'.map mF:List aP)=kD d (L'.map VL.g):=by
  unfold kD;rw[BL,List.map_map]
  congr 1
  refine List.map_congr_left fun l _=>?_;show mF l=aP.lst l.td 11 ((l.aM.map eQ.g).map cw);rw[zZ];rfl
 rw[e] at yx;have:=MH.over hM yx;rw[List.append_nil] at this;exact⟨r,ab,hev,d,L',hr,hL,this⟩
theorem Ep (fQ:∀st,Ev pv 63 [] st (.agg (ai bG)) st) {N:Nat} {S s0:St} {H:List aP} {p:Pg} {x:D} {L:List GV} {place:Int} (hF:S.flr≤N) (hp:p.ok) (hW:cB p place L) (hx:fm s0 x L) (ht:∀l∈L,l.aM.length≤1000) (hH:Has N S s0 H):
  ∃r ab,Ev pv 19 [p.d,.agg [.int .i64 place,x]] s0 r ab∧∃kv ks q ld L',r=.tup [.ptr kv 0 0,.int .i64 0]∧uO p q∧L'.map VL.pl=(L.map GV.v).map VL.pl∧MH [] N S ab ks kv q place.toNat ld L' H:=by
 obtain⟨h1,h2⟩:=y6 hF hH;obtain⟨r,ab,hev,kv,ks,q,ld,L',hr,hq,hL,hM⟩:=GC (N:=s0.bs.length) (S:=s0) fQ h1 hp hW (Arg.of hx.1 rfl) (fun l hl=>⟨Arg.of (hx.2.2 l hl).1 rfl,ht l hl⟩) (Has.start (Nat.le_refl _) h2);obtain⟨pd,qd,P,Q,sn,yx,h3,h4⟩:=sF hM;refine⟨r,ab,hev,kv,ks,q,ld,L',hr,hq,hL,vU (A:=[]) (H:=H) (pd:=pd) (qd:=qd) ?_ h3 h4⟩;have:=Has.over hH yx
 simpa only[List.nil_append,List.append_nil] using this
theorem Ao (fQ:∀st,Ev pv 63 [] st (.agg (ai bG)) st) {N:Nat} {S s0:St} {H:List aP} {p:Pg} {x:D} {L:List GV} {place:Int} (hF:S.flr≤N) (hp:p.ok) (hR:aX p) (hW:¬cB p place L) (hx:fm s0 x L) (hH:Has N S s0 H):
  ∃r ab,Ev pv 19 [p.d,.agg [.int .i64 place,x]] s0 r ab∧r=.tup [.pnil,.int .i64 4]∧Has N S ab H:=by
 obtain⟨h1,h2⟩:=y6 hF hH;obtain⟨r,ab,hev,hr,yx⟩:=BN (N:=s0.bs.length) (S:=s0) fQ h1 hp hR hW (Arg.of hx.1 rfl) hx.2.1 (fun l hl=>⟨Arg.of (hx.2.2 l hl).1 rfl,(hx.2.2 l hl).2⟩) (Has.start (Nat.le_refl _) h2);exact⟨r,ab,hev,hr,by simpa only[List.nil_append] using Has.over hH yx⟩
theorem kZ {N:Nat} {S s0:St} {H:List aP} {x:D} {L:List GV} (hF:S.flr≤N) (hLl:L.length≤1000) (hx:fm s0 x L) (ht:∀l∈L,l.aM.length≤1000) (hH:Has N S s0 H):
  ∃d ab,Ev pv 24 [x] s0 d ab∧∃L':List GV,L'.map GV.told=L.map GV.told∧Has N S ab (kD d L'++H):=by
 obtain⟨h1,h2⟩:=y6 hF hH;obtain⟨d,ab,hev,L',hL,yx⟩:=rR (N:=s0.bs.length) (S:=s0) h1 hLl (Arg.of hx.1 rfl) (fun l hl=>⟨Arg.of (hx.2.2 l hl).1 rfl,ht l hl⟩) (Has.start (Nat.le_refl _) h2);refine⟨d,ab,hev,L',hL,?_⟩;have:=Has.over hH yx
 simpa only[kD,List.append_nil,List.cons_append] using this
def gO (st:St) (es:List (List D)) (L:List GV):Prop:=es.length=L.length∧∀(i:Nat) l,L[i]?=some l→∃d,V.Rows st 11 d (l.aM.map cw)∧es[i]?=some (ax l.dn l.aD d)
theorem ki {L L':List GV} (h:L'.map GV.told=L.map GV.told):L'.length=L.length∧∀(i:Nat) l,L[i]?=some l→∃l',L'[i]?=some l'∧l'.dn=l.dn∧l'.aD=l.aD∧l'.aM=l.aM:=by
 refine⟨by have:=congrArg List.length h;simpa using this,fun i l hl=>?_⟩;have h1:(L'.map GV.told)[i]?=some l.told:=by rw[h,List.getElem?_map,hl];rfl
 rw[List.getElem?_map] at h1;obtain⟨l',h2,h3⟩:=Option.map_eq_some_iff.1 h1;refine⟨l',h2,?_⟩;simp only[GV.told,GV.mk.injEq] at h3;exact⟨h3.1,h3.2.1,h3.2.2.2⟩
theorem fm.v_ {st:St} {x:D} {L L':List GV} (hx:fm st x L') (h:L'.map GV.told=L.map GV.told):gO st (L'.map cO) L:=by
 obtain⟨h1,h2⟩:=ki h;refine⟨by rw[List.length_map];exact h1,fun i l hl=>?_⟩;obtain⟨l',h3,h4,h5,h6⟩:=h2 i l hl;refine⟨l'.td,by rw[←h6];exact(hx.2.2 l' (List.mem_of_getElem? h3)).1,?_⟩;rw[ny h3,←h4,←h5];rfl
theorem gO.ex {s0 S st:St} {H:List aP} {es:List (List D)} {L:List GV} (h:gO s0 es L) (hS:S.bs=s0.bs) (hH:Has s0.bs.length S st H):gO st es L:=⟨h.1,fun i l hl=>by
 obtain⟨d,h1,h2⟩:=h.2 i l hl
 exact⟨d,(Arg.of h1 hS).rows hH,h2⟩⟩
def PL.gv (l:PL):GV:=⟨l.dn,l.aD,.nul,l.aM.map eQ.g⟩
theorem vZ (st:St) (L:List PL):gO st (L.map fV) (L.map PL.gv):=by
 refine⟨by simp,fun i l hl=>?_⟩;rw[List.getElem?_map] at hl;obtain⟨q,hq,rfl⟩:=Option.map_eq_some_iff.1 hl;refine⟨I6 q.aM,?_,Ck hq⟩;show V.Rows st 11 _ ((q.aM.map eQ.g).map cw);rw[zZ];exact(BQ q.aM).rows st
theorem y4 {L:List VL} {P:List PL} (h:L.map VL.pl=P):(L.map VL.g).map GV.told=(P.map PL.gv).map GV.told:=by
 rw[←h,List.map_map,List.map_map,List.map_map];rfl
theorem EF {L L':List GV} (h:L'.map GV.told=L.map GV.told):(L'.map GV.v).map VL.pl=(L.map GV.v).map VL.pl:=by
 have e:∀L:List GV,(L.map GV.v).map VL.pl=(L.map GV.told).map fun l=>⟨l.dn,l.aD,l.aM.map GT.Bv⟩:=fun L=>by rw[List.map_map,List.map_map];rfl
 rw[e,e,h]
theorem G2 (t:GT):iT pv .neq 60 (.agg (cw t)) (.agg (cw t))=some (.bool false):=by
 have h:∀a b c d e g i j k l m:Int,iT pv .neq 60 (.agg [.int .i64 a,.int .i64 b,.int .i64 c,.int .i64 d,.int .i64 e,.int .i64 g,.int .i64 i,.int .i64 j,.int .i64 k,.int .i64 l,.int .i64 m]) (.agg [.int .i64 a,.int .i64 b,.int .i64 c,.int .i64 d,.int .i64 e,.int .i64 g,.int .i64 i,.int .i64 j,.int .i64 k,.int .i64 l,.int .i64 m])=Option.map (fun b=>D.bool !b) (match some (a==a) with|some true=>(match(match some (b==b) with|some true=>(match some (c==c) with|some true=>(match some (d==d) with|some true=>(match some (e==e) with|some true=>(match some (g==g) with|some true=>(match some (i==i) with|some true=>(match some (j==j) with|some true=>(match some (k==k) with|some true=>(match some (l==l) with|some true=>(match some (m==m) with|some true=>some true|some false=>some false|none=>none)|some false=>some false|none=>none)|some false=>some false|none=>none)|some false=>some false|none=>none)|some false=>some false|none=>none)|some false=>some false|none=>none)|some false=>some false|none=>none)|some false=>some false|none=>none)|some false=>some false|none=>none)|some false=>some false|none=>none) with|some true=>some true|some false=>some false|none=>none)|some false=>some false|none=>none):=fun _ _ _ _ _ _ _ _ _ _ _=>rfl;unfold cw;rw[h];simp only[beq_self_eq_true,Option.map_some,Bool.not_true]
theorem Az {s0:St} {x y:D} {l:List GT} (hx:V.Rows s0 11 x (l.map cw)) (hy:V.Rows s0 11 y (l.map cw)) (hl:l.length≤1073741824):Ev pv 67 [x,y] s0 (.bool true) s0:=by
 refine Ev.mk1 rfl KP rfl rfl rfl ?_;refine zE ?_;obtain⟨hSb,hF,hH⟩:=ri s0;generalize enterSt .ro s0=S at*;have hx:=Arg.of hx hSb;have hy:=Arg.of hy hSb;refine zQ 8 ?_;refine qn ?_;simp only[List.length_map];refine qm ?_;refine qn ?_;simp only[List.length_map];refine zQ 2 ?_;refine qE rfl (by simp) ?_;refine zQ 7 ?_;refine EvC.loop (fun mm fr st=>∃(i:Nat),fr.clean=⟨6,[x,y,ie fr 2,ie fr 3,.bool false,.int .i64 (i:Nat)],[]⟩∧Has s0.bs.length S st []∧(i+mm=l.length)) (l.length) ?_ ?_
 ·exact⟨0,rfl,hH,by omega⟩
 rintro mm fr st ⟨i,hfr,hH,hi⟩;rw[hfr];clear hfr;generalize ie fr=ee;clear fr;refine zQ 5 ?_;refine qn ?_;simp only[List.length_map];refine zQ 2 ?_;refine zP (fun h1=>?_) fun h1=>?_
 ·refine zQ 1 ?_
  obtain⟨p,hp⟩:∃p,l[i]?=some p:=⟨l[i]'(by omega),List.getElem?_eq_getElem _⟩
  have hr1:=yy hp;refine zQ 6 ?_;refine qr fun LO Fu=>?_;refine EvO.bF rfl (ev rfl) (by assumption) rfl (put_T rfl _) ?_;refine zQ 2 ?_;refine qr fun LN Ft=>?_;refine EvO.bF rfl (ev rfl) (by assumption) rfl (put_T rfl _) ?_;refine EvO.Ga rfl (ev rfl) (ev rfl) (G2 p) (put_T rfl _) ?_;refine zQ 8 ?_;exact⟨mm-1,by omega,⟨i+1,rfl,hH,by omega⟩⟩
 ·refine zQ 5 ?_;refine EvC.ret ⟨rx,_,rfl,rl hSb hH (rfl)⟩
theorem A2 {s0:St} {x y:D} {es fs:List (List D)} {L:List GV} (hx:V.Rows s0 12 x es) (hy:V.Rows s0 12 y fs) (ov:gO s0 es L) (FC:gO s0 fs L) (hl:L.length≤1073741824) (uh:∀l∈L,l.aM.length≤1000):Ev pv 22 [x,y] s0 (.bool true) s0:=by
 obtain⟨mB,IQ⟩:=ov;obtain⟨lC,N5⟩:=FC;refine Ev.mk1 rfl KQ rfl rfl rfl ?_;refine zE ?_;obtain⟨hSb,hF,hH⟩:=ri s0;generalize enterSt .ro s0=S at*;have hx:=Arg.of hx hSb;have hy:=Arg.of hy hSb;refine zQ 8 ?_;refine qn ?_;refine qm ?_;refine qn ?_;refine zQ 2 ?_;refine qE rfl (by rw[mB,lC];simp) ?_;refine zQ 7 ?_;refine EvC.loop (fun mm fr st=>∃(i:Nat),fr.clean=⟨6,[x,y,ie fr 2,ie fr 3,.bool false,.int .i64 (i:Nat)],[]⟩∧Has s0.bs.length S st []∧(i+mm=es.length)) (es.length) ?_ ?_
 ·exact⟨0,rfl,hH,by omega⟩
 rintro mm fr st ⟨i,hfr,hH,hi⟩;rw[hfr];clear hfr;generalize ie fr=ee;clear fr;refine zQ 5 ?_;refine qn ?_;refine zQ 2 ?_;refine zP (fun h1=>?_) fun h1=>?_
 ·refine zQ 1 ?_
  obtain⟨l,hll⟩:∃l,L[i]?=some l:=⟨L[i]'(by omega),List.getElem?_eq_getElem _⟩
  obtain⟨d1,yt,hr1⟩:=IQ i l hll;obtain⟨d2,uS,kW⟩:=N5 i l hll;have lI:=uh l (List.mem_of_getElem? hll);have bt:(l.dn !=l.dn)=false:=by simp
  have eL:false=false:=rfl;refine zQ 3 ?_;refine EvC.cutT 54 (.bool false) [] ?_ (fun ff tmp htmp=>?_)
  ·refine zQ 2 ?_;refine qr fun LO Fu=>?_;refine qf (fo:=0) fun F_ wy=>?_;refine zQ 3 ?_;refine qr fun F9 wx=>?_;refine qf (fo:=0) fun GP yj=>?_;refine zQ 5 ?_;refine qr (fun RJ Ny=>?_) (hg:=wi bt);refine qf (fo:=1) (fun RI Nw=>?_) (hg:=wi bt);refine zQ 3 ?_;refine qr (fun LL Fs=>?_) (hg:=wi bt);refine qf (fo:=1) (fun LK Fq=>?_) (hg:=wi bt);refine zQ 1 ?_;refine EvO.Ga (wantD_is rfl rfl rfl bt) (ev rfl) (ev rfl) (vR l.aD) (put_T rfl _) ?_;refine zQ 4 ?_;refine qr (fun Iz A9=>?_) (hg:=wi eL);refine qf (fo:=11) (fun Mv Ht=>?_) (hg:=wi eL);refine zQ 3 ?_;refine qr (fun Mu Hr=>?_) (hg:=wi eL);refine qf (fo:=11) (fun LJ Fp=>?_) (hg:=wi eL);refine zQ 1 ?_;refine qv (Az ((Arg.of yt hSb).rows hH) ((Arg.of uS hSb).rows hH) (by omega)) ?_ (hg:=wi eL);refine zQ 2 ?_;refine EvO.nil (leafT ?_ ?_)
   ·dsimp only[setW,List.foldl,nth,u2,u1]
    all_goals(first|rfl|simp)
   ·dsimp only[Fr.putO,Fr.put,Fr.clean,Fr.ev,Fr.get,nth,look,u1,u2,v1,v2,v4]
    all_goals(rfl)
  dsimp only[setW,List.foldl,nth,u2,u1];dsimp only[Fr.putO,Fr.put,Fr.clean,Fr.ev,Fr.get,nth,look,u1,u2,v1,v2,v4];refine zQ 7 ?_;exact⟨mm-1,by omega,⟨i+1,rfl,hH,by omega⟩⟩
 ·refine zQ 5 ?_;refine EvC.ret ⟨rx,_,rfl,rl hSb hH (rfl)⟩
theorem jj {s0:St} {pl:Int} {x y:D} {es fs:List (List D)} {L:List GV} (hx:V.Rows s0 12 x es) (hy:V.Rows s0 12 y fs) (ov:gO s0 es L) (FC:gO s0 fs L) (hl:L.length≤1000) (uh:∀l∈L,l.aM.length≤1000):Ev pv 21 [.agg [.int .i64 pl,x],.agg [.int .i64 pl,y]] s0 (.bool true) s0:=by
 have NI:=fun{st:St} (hx:V.Rows st 12 x es) (hy:V.Rows st 12 y fs) (ov:gO st es L) (FC:gO st fs L)=>A2 (s0:=st) hx hy ov FC (by omega) uh;have Vw:=dG hx;have Vv:=dG hy;refine Ev.mk1 rfl Pb rfl rfl rfl ?_;refine zE ?_;obtain⟨hSb,hF,hH⟩:=ri s0;generalize enterSt .ro s0=S at*;have cI:(pl==pl)=true:=by simp
 have hx:=Arg.of hx hSb;have hy:=Arg.of hy hSb;refine zQ 2 ?_;refine qb hH fun k2 st hk2 hH=>?_;refine qb hH fun k3 st BD hH=>?_;refine zQ 14 ?_;refine qv (NI (hx.rows hH) (hy.rows hH) (ov.ex hSb hH) (FC.ex hSb hH)) ?_ (hg:=wi cI);refine zQ 3 ?_;refine EvC.ret ⟨rx,_,rfl,rl hSb hH (rfl)⟩
end Go.Proofs.YtnleclohocdkaaaGreat
namespace Go.V
open Go.RowKit
def nj {H:Type}:DataW H→Bool
 | .agg _=>true
 |_=>false
mutual
def mC {H:Type}:DataW H→List D
 | .lit (.bool b)=>[.bool b]
 | .lit (.int k n)=>[.int k n]
 | .lit (.string l)=>[.str l]
 | .lit _=>[.junk]
 | .nil=>[.nul]
 | .slice elems _=>[.sl (uJ elems)]
 | .agg parts=>j8 parts
 | .ptr _=>[.junk]
 | .iface _ _=>[.junk]
 | .map _=>[.junk]
 | .held _=>[.junk]
def uJ {H:Type}:List (DataW H)→List D
 |[]=>[]
 |d::r=>(if nj d then .agg (mC d) else(mC d).headD .junk)::uJ r
def j8 {H:Type}:List (DataW H)→List D
 |[]=>[]
 |d::r=>mC d++j8 r
end
def dval {H:Type} (d:DataW H):D:=if nj d then .agg (mC d) else(mC d).headD .junk
theorem ra {H:Type}:∀l:List (DataW H),uJ l=l.map dval
 |[]=>rfl
 |d::r=>by simp only[uJ,List.map_cons,ra r];rfl
def rf (P:Program):Nat→List Field→Option Nat
 |o,[]=>some o
 |o,f::fs=>if f.offset=o then rf P (o+P.cellsOf f.type) fs else none
def EH (P:Program):Nat→TypeId→Bool
 |0,_=>false
 |n+1,t=>match P.underlying t with
  |some .bool=>true
  |some (.int _)=>true
  |some .string=>true
  |some (.slice e)=>EH P n e &&decide (0<P.cellsOf e)
  |some (.struct fs)=>(rf P 0 fs.toList==some (P.cellsOf t)) &&fs.toList.all fun f=>EH P n f.type
  |some (.array m e)=>EH P n e &&(P.cellsOf t==m*P.cellsOf e)
  |_=>false
structure CR (w:World) (Z:Nat→Prop) (cs:List D) (vs:List Value):Prop where
 len:cs.length=vs.length
 one:∀v∈vs,v.oneCell'=true
 onec:∀c∈cs,c.cells?=some [c]
 rel:∀(i:Nat) c v,cs[i]?=some c→vs[i]?=some v→IR w Z c v
theorem CR.nil {w:World} {Z:Nat→Prop}:CR w Z [] []:=⟨rfl,by simp,by simp,by simp⟩
theorem CR.single {w:World} {Z:Nat→Prop} {c:D} {v:Value} (h:IR w Z c v) (h1:v.oneCell'=true) (h2:c.cells?=some [c]):CR w Z [c] [v]:=
 ⟨rfl,by simpa using h1,by simpa using h2,fun i c' v' hc hv=>by
  cases i with
  |zero=>simp at hc hv;subst hc;subst hv;exact h
  |succ i=>simp at hc⟩
theorem CR.append {w:World} {Z:Nat→Prop} {cs cs':List D} {vs I1:List Value} (h:CR w Z cs vs) (g:CR w Z cs' I1):CR w Z (cs++cs') (vs++I1):=by
 refine⟨by simp[h.len,g.len],fun v hv=>?_,fun c hc=>?_,fun i c v hc hv=>?_⟩
 ·rcases List.mem_append.1 hv with hv|hv
  ·exact h.one v hv
  ·exact g.one v hv
 ·rcases List.mem_append.1 hc with hc|hc
  ·exact h.onec c hc
  ·exact g.onec c hc
 ·rw[List.getElem?_append] at hc hv;have:=h.len
  split at hc
  ·rw[if_pos (by omega)] at hv;exact h.rel i c v hc hv
  ·rw[if_neg (by omega)] at hv;rw[←this] at hv;exact g.rel _ c v hc hv
theorem vF {H:Type} {P:Program} {w:World} {Z:Nat→Prop} {f:Field→Option (DataW H×List MemPlace)} {cs:List Value}:∀{fs:List Field} {o e:Nat} {xs:List (DataW H×List MemPlace)},rf P o fs=some e→e≤cs.length→fs.mapM f=some xs→
  (∀g∈fs,∀x,f g=some x→CR w Z (mC x.1) ((cs.drop g.offset).take (P.cellsOf g.type)))→CR w Z (j8 (xs.map (·.1))) ((cs.drop o).take (e-o))∧o≤e
 |[],o,e,xs,hc,_,hm,_=>by
  simp[rf] at hc;subst hc;simp at hm;subst hm;simp[j8];exact CR.nil
 |g::fs,o,e,xs,hc,he,hm,hx=>by
  simp only[rf] at hc
  split at hc
  ·rename_i ho;rw[List.mapM_cons] at hm
   cases h1:f g with
   |none=>rw[h1] at hm;simp at hm
   |some x=>
    rw[h1] at hm
    cases h2:fs.mapM f with
    |none=>rw[h2] at hm;simp at hm
    |some ys=>
     rw[h2] at hm;simp at hm;subst hm;obtain⟨ih,hle⟩:=vF hc he h2 fun g' TD=>hx g' (List.mem_cons_of_mem _ TD);have hg:=hx g (List.mem_cons_self ..) x h1;rw[ho] at hg;refine⟨?_,by omega⟩;simp only[List.map_cons,j8]
     have:(cs.drop o).take (e-o)=(cs.drop o).take (P.cellsOf g.type)++(cs.drop (o+P.cellsOf g.type)).take (e-(o+P.cellsOf g.type)):=by
      rw[←List.drop_drop,show e-o=P.cellsOf g.type+(e-(o+P.cellsOf g.type)) by omega,List.take_add]
     rw[this];exact hg.append ih
  ·cases hc
theorem wS {H:Type} {w:World} {Z:Nat→Prop} {s:Nat} {f:Nat→Option (DataW H×List MemPlace)} {cs:List Value}:∀{m k:Nat} {xs:List (DataW H×List MemPlace)},(List.range' k m).mapM f=some xs→(k+m)*s≤cs.length→
  (∀i x,f i=some x→CR w Z (mC x.1) ((cs.drop (i*s)).take s))→CR w Z (j8 (xs.map (·.1))) ((cs.drop (k*s)).take (m*s))
 |0,k,xs,hm,_,_=>by simp at hm;subst hm;simp[j8];exact CR.nil
 |m+1,k,xs,hm,hl,hx=>by
  rw[List.range'_succ,List.mapM_cons] at hm
  cases h1:f k with
  |none=>rw[h1] at hm;simp at hm
  |some x=>
   rw[h1] at hm
   cases h2:(List.range' (k+1) m).mapM f with
   |none=>rw[h2] at hm;simp at hm
   |some ys=>
    rw[h2] at hm;simp at hm;subst hm;have ih:=wS h2 (by rw[show k+1+m=k+(m+1) by omega];exact hl) hx;simp only[List.map_cons,j8];rw[show(m+1)*s=s+m*s by rw[Nat.add_mul];omega,List.take_add,List.drop_drop,show k*s+s=(k+1)*s by rw[Nat.add_mul];omega];exact(hx k x h1).append ih
theorem cells_one {c:D} (h:c.cells?=some [c]):c.cells=[c]:=by
 cases c<;>first|rfl|cases h|(simp only[D.cells?,Option.some.injEq] at h;simpa only[D.cells] using h)
theorem xg (b off n:Nat):(⟨b,off,none⟩:Addr).add n=⟨b,off+n,none⟩:=by
 cases n<;>simp[Addr.add]
theorem oA {H:Type} {enc:TypeId×Value→H} {P:Program} {w:World} {spare:Nat→Bool} {held:Bool}:∀(fuel:Nat) (t:TypeId) (cs:List Value) (d:DataW H) (ps:List MemPlace) (n:Nat),DataW.trod enc P w 0 spare held fuel t cs=some (d,ps)→EH P n t=true→
  CR w (fun b=>b<w.heap.size) (mC d) cs∧cs.length=(match P.underlying t with|some (.struct _)|some (.array _ _)=>P.cellsOf t|_=>1)∧(nj d=(match P.underlying t with|some (.struct _)|some (.array _ _)=>true|_=>false))
 |0,t,cs,d,ps,n,h,_=>by simp[DataW.trod] at h
 |fuel+1,t,cs,d,ps,0,h,ht=>by simp[EH] at ht
 |fuel+1,t,cs,d,ps,n+1,h,ht=>by
  simp only[EH] at ht;unfold DataW.trod at h
  cases hu:P.underlying t with
  |none=>rw[hu] at ht;simp at ht
  |some u=>
   rw[hu] at h ht
   cases u with
   |bool=>
    rcases cs with _|⟨v,_|⟨v2,cs⟩⟩<;>try(simp at h;done)
    cases v<;>simp at h
    obtain⟨rfl,rfl⟩:=h;exact⟨CR.single (.bool _) rfl rfl,rfl,rfl⟩
   |int k=>
    rcases cs with _|⟨v,_|⟨v2,cs⟩⟩<;>try(simp at h;done)
    cases v<;>simp at h
    obtain⟨⟨rfl,_⟩,rfl,rfl⟩:=h;exact⟨CR.single (.int _ _) rfl rfl,rfl,rfl⟩
   |string=>
    rcases cs with _|⟨v,_|⟨v2,cs⟩⟩<;>try(simp at h;done)
    cases v<;>simp at h
    rename_i b;obtain⟨_,rfl,rfl⟩:=h;refine⟨CR.single ?_ rfl rfl,rfl,rfl⟩;have:=IR.str (w:=w) (Z:=fun b=>b<w.heap.size) b.data.toList
    simpa using this
   |slice e=>
    simp only[Bool.and_eq_true,decide_eq_true_eq] at ht
    rcases cs with _|⟨v,_|⟨v2,cs⟩⟩<;>try(simp at h;done)
    cases v<;>try(simp at h;done)
    rename_i a len cap
    cases a with
    |none=>
     cases len<;>cases cap<;>simp at h
     obtain⟨rfl,rfl⟩:=h;exact⟨CR.single .nul rfl rfl,rfl,rfl⟩
    |some a=>
     simp only at h
     split at h
     ·rename_i hc;simp only[Option.bind_eq_some_iff,Option.map_eq_some_iff] at h;obtain⟨elems,he,rest,hr,hd⟩:=h;cases hd;refine⟨?_,rfl,rfl⟩;have hlen:elems.length=len:=by simpa using mapM_some_length he
      have hget:=mapM_some_get he
      have each:∀(i:Nat),i<len→∃x cs,elems[i]?=some x∧w.cells? 0 (a.add (i*P.cellsOf e)) (P.cellsOf e)=some cs∧CR w (fun b=>b<w.heap.size) (mC x.1) cs∧cs.length=P.cellsOf e∧(nj x.1=(match P.underlying e with|some (.struct _)|some (.array _ _)=>true|_=>false))∧cs.length=(match P.underlying e with|some (.struct _)|some (.array _ _)=>P.cellsOf e|_=>1):=by
       intro i hi;have h1:=hget i i (by simp[hi]);have h2:elems[i]?=some (elems[i]'(by omega)):=List.getElem?_eq_getElem _;rw[h2] at h1;obtain⟨cs,gQ,hx⟩:=Option.bind_eq_some_iff.1 h1;obtain⟨q1,q2,q3⟩:=oA fuel e cs _ _ n hx ht.1;exact⟨_,cs,h2,gQ,q1,(World.cells?_some gQ).2.1,q3,q2⟩
      refine CR.single ?_ rfl rfl
      cases len with
      |zero=>
       have:elems=[]:=by cases elems with|nil=>rfl|cons _ _=>simp at hlen
       subst this;exact .emp _ _
      |succ m=>
       have lJ:a.spot=none∧a.block<w.heap.size:=by
        obtain⟨x,cs,_,h2,_,_⟩:=each 0 (by omega);refine⟨?_,?_⟩
        ·have:=(World.cells?_some h2).2.2 0 ht.2;have hl:=(World.cells?_some h2).2.1
         obtain⟨c0,Oj⟩:∃c0,cs[0]?=some c0:=⟨cs[0]'(by omega),List.getElem?_eq_getElem _⟩
         rw[Oj] at this
         simpa[Addr.add] using World.cell?_spot this
        ·simpa[Addr.add] using World.cells?_block h2 ht.2
       obtain⟨b,off,spot⟩:=a;simp only at lJ;obtain⟨rfl,hb⟩:=lJ
       have hcell:∀(i j:Nat),i<m+1→j<P.cellsOf e→∃x cs v,elems[i]?=some x∧cs[j]?=some v∧w.cell? ⟨b,off+(i*P.cellsOf e+j),none⟩=some v∧CR w (fun b=>b<w.heap.size) (mC x.1) cs:=by
        intro i j hi hj;obtain⟨x,cs,h1,h2,h3,h4,_⟩:=each i hi;have:=(World.cells?_some h2).2.2 j hj
        obtain⟨v,hv⟩:∃v,cs[j]?=some v:=⟨cs[j]'(by omega),List.getElem?_eq_getElem _⟩
        rw[hv] at this;refine⟨x,cs,v,h1,hv,?_,h3⟩;rw[←this,xg,xg,Nat.add_assoc]
       have ov:(uJ (elems.map (·.1)))=elems.map fun x=>dval x.1:=by rw[ra,List.map_map];rfl
       have hE:∀(i:Nat) q,(uJ (elems.map (·.1)))[i]?=some q→∃x cs,i<m+1∧elems[i]?=some x∧q.cells?=some q.cells∧q.cells=mC x.1∧CR w (fun b=>b<w.heap.size) (mC x.1) cs∧cs.length=P.cellsOf e:=by
        intro i q hq;rw[ov,List.getElem?_map] at hq;obtain⟨x,hx,rfl⟩:=Option.map_eq_some_iff.1 hq
        have hi:i<m+1:=by
         rcases Nat.lt_or_ge i (m+1) with h'|h'
         ·exact h'
         ·rw[List.getElem?_eq_none (by omega)] at hx;cases hx
        obtain⟨x',cs,h1,h2,h3,h4,h5,h6⟩:=each i hi;rw[hx] at h1;cases h1;refine⟨x,cs,hi,hx,?_,?_,h3,h4⟩
        ·unfold dval
         split
         ·rfl
         ·rename_i Gp
          have ux:(mC x.1).length=1:=by
           rw[h3.len,h6];rw[h5] at Gp
           revert Gp
           split<;>simp
          match hd:mC x.1,ux with
          |[c],_=>have:=h3.onec c (by rw[hd];simp);simp only[List.headD_cons];rw[cells_one this];exact this
        ·unfold dval
         split
         ·rfl
         ·rename_i Gp
          have ux:(mC x.1).length=1:=by
           rw[h3.len,h6];rw[h5] at Gp
           revert Gp
           split<;>simp
          match hd:mC x.1,ux with
          |[c],_=>have:=h3.onec c (by rw[hd];simp);simp only[List.headD_cons];exact cells_one this
       have hL:(uJ (elems.map (·.1))).length=m+1:=by rw[ov];simp[hlen]
       have hf:=fun(i j:Nat) (hi:i<m+1) (hj:j<P.cellsOf e)=>hcell i j hi hj;have:=IR.sl (w:=w) (Z:=fun b=>b<w.heap.size) (uJ (elems.map (·.1))) b off cap (P.cellsOf e) (fun i j=>(w.cell? ⟨b,off+(i*P.cellsOf e+j),none⟩).getD undef) hb (by rw[hL];exact hc.2.1)
        (fun i q hq=>by
         obtain⟨x,cs,h1,h2,h3,h4,h5,h6⟩:=hE i q hq
         exact⟨h3,by rw[h4,h5.len,h6]⟩)
        (fun i q j c hq hj=>by
         obtain⟨x,cs,h1,h2,h3,h4,h5,h6⟩:=hE i q hq
         have iV:j<P.cellsOf e:=by
          rcases Nat.lt_or_ge j (P.cellsOf e) with h'|h'
          ·exact h'
          ·rw[h4,List.getElem?_eq_none (by rw[h5.len,h6];exact h')] at hj;cases hj
         obtain⟨x',cs',v,g1,g2,g3,g4⟩:=hf i j h1 iV;rw[g3]
         exact⟨rfl,g4.one v (List.mem_of_getElem? g2)⟩)
        (fun i q j c hq hj=>by
         obtain⟨x,cs,h1,h2,h3,h4,h5,h6⟩:=hE i q hq
         have iV:j<P.cellsOf e:=by
          rcases Nat.lt_or_ge j (P.cellsOf e) with h'|h'
          ·exact h'
          ·rw[h4,List.getElem?_eq_none (by rw[h5.len,h6];exact h')] at hj;cases hj
         obtain⟨x',cs',v,g1,g2,g3,g4⟩:=hf i j h1 iV;rw[g3];rw[h2] at g1;cases g1
         exact g4.rel j c v (by rw[←h4];exact hj) g2)
       rw[hL] at this;exact this
     ·cases h
   |struct fs=>
    simp only[Bool.and_eq_true,beq_iff_eq,List.all_eq_true] at ht;simp only at h
    split at h
    ·rename_i hl;obtain⟨xs,hx,hd⟩:=Option.map_eq_some_iff.1 h;cases hd;refine⟨?_,hl,rfl⟩;obtain⟨h1,_⟩:=vF (w:=w) (Z:=fun b=>b<w.heap.size) (cs:=cs) ht.1 (by omega) hx fun g hg x Tz=>(oA fuel g.type _ _ _ n Tz (ht.2 g hg)).1;rw[List.drop_zero,Nat.sub_zero,←hl,List.take_length] at h1;exact h1
    ·cases h
   |array m e=>
    simp only[Bool.and_eq_true,beq_iff_eq] at ht;simp only at h
    split at h
    ·rename_i hl;obtain⟨xs,hx,hd⟩:=Option.map_eq_some_iff.1 h;cases hd;refine⟨?_,hl,rfl⟩;rw[List.range_eq_range'] at hx;have h1:=wS (w:=w) (Z:=fun b=>b<w.heap.size) (s:=P.cellsOf e) (cs:=cs) hx (by rw[Nat.zero_add,←ht.2,hl];exact Nat.le_refl _) fun i x Tu=>(oA fuel e _ _ _ n Tu ht.1).1;rw[Nat.zero_mul,List.drop_zero,←ht.2,←hl,List.take_length] at h1;exact h1
    ·cases h
   |_=>simp at ht
theorem trod_ir {H:Type} {enc:TypeId×Value→H} {P:Program} {w:World} {spare:Nat→Bool} {held:Bool} {r:Reach} {base:Nat} {t:TypeId} {v:Value} {d:DataW H} {ps:List MemPlace} {n:Nat} (h:DataW.Trod enc P w 0 spare held t v d ps) (ht:EH P n t=true) (hv:Value.okWide P w r base t v):
  IR w (fun b=>b<w.heap.size) (dval d) v:=by
 obtain⟨fuel,hf⟩:=h;obtain⟨h1,h2,h3⟩:=oA fuel t _ d ps n hf ht
 have hu:∃u,P.underlying t=some u:=by
  cases n with
  |zero=>simp[EH] at ht
  |succ n=>
   simp only[EH] at ht
   cases hu:P.underlying t with
   |none=>rw[hu] at ht;simp at ht
   |some u=>exact⟨u,rfl⟩
 obtain⟨u,hu⟩:=hu;unfold Value.okWide at hv;rw[hu] at hv h2 h3
 have Ky:(∃cs:Array Value,v=.agg cs)→nj d=true→IR w (fun b=>b<w.heap.size) (dval d) v:=by
  rintro⟨cs,rfl⟩ hd;unfold dval;rw[if_pos hd];have:=IR.agg (w:=w) (Z:=fun b=>b<w.heap.size) (mC d) cs.toList (by simpa[Value.cells] using h1.len) (by simpa[Value.cells] using h1.one) (by simpa[Value.cells] using h1.rel)
  simpa using this
 have jo:nj d=false→v.cells.toList.length=1→(∀cs,v≠.agg cs)→IR w (fun b=>b<w.heap.size) (dval d) v:=by
  intro hd hl Gp;unfold dval;rw[if_neg (by rw[hd];simp)]
  have hc:v.cells.toList=[v]:=by cases v<;>first|rfl|exact absurd rfl (Gp _)
  rw[hc] at h1
  match hq:mC d,h1.len with
  |[c],_=>exact h1.rel 0 c v (by rw[hq];rfl) rfl
 have hcell:Cell.okWide P w r base t v→∀cs,v≠.agg cs:=by
  rintro hc cs rfl;unfold Cell.okWide at hc;rw[hu] at hc;cases u<;>simp[Cell.ok,hu] at hc
 cases u with
 |struct fs=>obtain⟨cs,h,_⟩:=hv;exact Ky ⟨cs,h⟩ h3
 |array m e=>obtain⟨cs,h,_⟩:=hv;exact Ky ⟨cs,h⟩ h3
 |_=>exact jo h3 h2 (hcell hv)
end Go.V
namespace Go.V
open Go.RowKit
theorem Ah {H:Type} {enc:TypeId×Value→H} {P:Program} {w:World} {spare:Nat→Bool} {held:Bool} {t:TypeId} {v:Value} {d:DataW H} {ps:List MemPlace} {k:IntKind} (h:DataW.Trod enc P w 0 spare held t v d ps) (ht:P.underlying t=some (.int k)):
  ∃n:Int,dval d=.int k n∧d=.lit (.int k n)∧(Lit.int k n).wf=true:=by
 obtain⟨fuel,h⟩:=h
 cases fuel with
 |zero=>simp[DataW.trod] at h
 |succ fuel=>
  unfold DataW.trod at h;rw[ht] at h;generalize v.cells.toList=cs at h
  rcases cs with _|⟨v,_|⟨v2,cs⟩⟩<;>try(simp at h;done)
  cases v<;>simp at h
  obtain⟨⟨rfl,hw⟩,rfl,_⟩:=h;exact⟨_,rfl,rfl,hw⟩
theorem law_calls {pv:Pv} {P:Program} (h:pv.Ok P∧pv.gL∧gg P pv (dx pv)) {f:Nat} {ds:List D} {ab:St} (hs:Ev pv f ds ⟨[],0,0⟩ (.bool true) ab) {w:World} {us:List Value} (hl:ds.length=us.length)
  (hr:∀(i:Nat) c v,ds[i]?=some c→us[i]?=some v→IR w (fun b=>b<w.heap.size) c v):Calls P f us.toArray w fun e w'=>e=.returned (.bool true)∧Below w.heap.size w w':=by
 obtain⟨N,hN⟩:=Ev.out hs;refine(sound h (hN N (Nat.le_refl _)) (w:=w) (Z:=fun b=>b<w.heap.size) (fun _ h=>h) hl hr).mono fun e w'=>?_;rintro⟨v,β',Z',rfl,he,hv⟩;rw[dv hv];exact⟨rfl,⟨he.os,he.tape,he.output,he.size,fun k hk=>he.block k hk fun f=>f⟩⟩
end Go.V
namespace Go.V
open Go.RowKit
def Rd {H:Type} (enc:TypeId×Value→H) (P:Program) (w:World) (spare:Nat→Bool) (held:Bool) (t:TypeId) (d:DataW H):Prop:=
 ∃fuel cs ps,DataW.trod enc P w 0 spare held fuel t cs=some (d,ps)
section
variable{H:Type} {enc:TypeId×Value→H} {P:Program} {w:World} {spare:Nat→Bool} {held:Bool} {t e:TypeId} {d:DataW H}
theorem Rd.of {v:Value} {ps:List MemPlace} (h:DataW.Trod enc P w 0 spare held t v d ps):Rd enc P w spare held t d:=by
 obtain⟨fuel,h⟩:=h;exact⟨fuel,_,_,h⟩
theorem Rd.int {k:IntKind} (h:Rd enc P w spare held t d) (ht:P.underlying t=some (.int k)):∃n:Int,d=.lit (.int k n)∧(Lit.int k n).wf=true:=by
 obtain⟨fuel,cs,ps,h⟩:=h
 cases fuel with
 |zero=>simp[DataW.trod] at h
 |succ fuel=>
  unfold DataW.trod at h;rw[ht] at h
  rcases cs with _|⟨v,_|⟨v2,cs⟩⟩<;>try(simp at h;done)
  cases v<;>simp at h
  obtain⟨⟨rfl,hw⟩,rfl,_⟩:=h;exact⟨_,rfl,hw⟩
theorem Rd.bool (h:Rd enc P w spare held t d) (ht:P.underlying t=some .bool):∃b:Bool,d=.lit (.bool b):=by
 obtain⟨fuel,cs,ps,h⟩:=h
 cases fuel with
 |zero=>simp[DataW.trod] at h
 |succ fuel=>
  unfold DataW.trod at h;rw[ht] at h
  rcases cs with _|⟨v,_|⟨v2,cs⟩⟩<;>try(simp at h;done)
  cases v<;>simp at h
  obtain⟨rfl,_⟩:=h;exact⟨_,rfl⟩
theorem Rd.string (h:Rd enc P w spare held t d) (ht:P.underlying t=some .string):∃l:List UInt8,d=.lit (.string l):=by
 obtain⟨fuel,cs,ps,h⟩:=h
 cases fuel with
 |zero=>simp[DataW.trod] at h
 |succ fuel=>
  unfold DataW.trod at h;rw[ht] at h
  rcases cs with _|⟨v,_|⟨v2,cs⟩⟩<;>try(simp at h;done)
  cases v<;>simp at h
  obtain⟨_,rfl,_⟩:=h;exact⟨_,rfl⟩
theorem Rd.slice (h:Rd enc P w spare held t d) (ht:P.underlying t=some (.slice e)):d=.nil∨∃elems rest,d=.slice elems rest∧∀x∈elems,Rd enc P w spare held e x:=by
 obtain⟨fuel,cs,ps,h⟩:=h
 cases fuel with
 |zero=>simp[DataW.trod] at h
 |succ fuel=>
  unfold DataW.trod at h;rw[ht] at h
  rcases cs with _|⟨v,_|⟨v2,cs⟩⟩<;>try(simp at h;done)
  cases v<;>try(simp at h;done)
  rename_i a len cap
  cases a with
  |none=>
   cases len<;>cases cap<;>simp at h
   obtain⟨rfl,rfl⟩:=h;exact .inl rfl
  |some a=>
   simp only at h
   split at h
   ·simp only[Option.bind_eq_some_iff,Option.map_eq_some_iff] at h;obtain⟨elems,hm,rest,hr,hd⟩:=h;cases hd;refine .inr ⟨_,_,rfl,fun x hx=>?_⟩;obtain⟨y,hy,rfl⟩:=List.mem_map.1 hx;have hlen:elems.length=len:=by simpa using mapM_some_length hm
    have hget:=mapM_some_get hm;obtain⟨i,hi⟩:=List.getElem?_of_mem hy;have hil:i<len:=by have:=lt_get hi;omega
    have h1:=hget i i (by simp[hil]);rw[hi] at h1;obtain⟨cs,_,hx⟩:=Option.bind_eq_some_iff.1 h1;exact⟨fuel,cs,y.2,hx⟩
   ·cases h
theorem nb {α β:Type} {f:α→Option β}:∀{l:List α} {m:List β},l.mapM f=some m→b_ (fun a b=>f a=some b) l m
 |[],m,h=>by simp at h;subst h;exact .nil
 |a::l,m,h=>by
  rw[List.mapM_cons] at h
  cases h1:f a with
  |none=>rw[h1] at h;simp at h
  |some b=>
   rw[h1] at h
   cases h2:l.mapM f with
   |none=>rw[h2] at h;simp at h
   |some ys=>rw[h2] at h;simp at h;subst h;exact .cons h1 (nb h2)
theorem b_.Jn {α β γ:Type} {R:α→γ→Prop} {f:β→γ}:∀{l:List α} {m:List β},b_ (fun a b=>R a (f b)) l m→b_ R l (m.map f)
 |_,_,.nil=>.nil
 |_,_,.cons a t=>.cons a t.Jn
theorem Rd.struct {fs:Array Field} (h:Rd enc P w spare held t d) (ht:P.underlying t=some (.struct fs)):∃parts,d=.agg parts∧b_ (fun(f:Field) x=>Rd enc P w spare held f.type x) fs.toList parts:=by
 obtain⟨fuel,cs,ps,h⟩:=h
 cases fuel with
 |zero=>simp[DataW.trod] at h
 |succ fuel=>
  unfold DataW.trod at h;rw[ht] at h;simp only at h
  split at h
  ·obtain⟨xs,hx,hd⟩:=Option.map_eq_some_iff.1 h;cases hd;refine⟨_,rfl,?_⟩;exact((nb hx).mono fun f x TE=>(⟨fuel,_,_,TE⟩:Rd enc P w spare held f.type x.1)).Jn
  ·cases h
theorem Rd.array {n:Nat} (h:Rd enc P w spare held t d) (ht:P.underlying t=some (.array n e)):∃parts,d=.agg parts∧parts.length=n∧∀x∈parts,Rd enc P w spare held e x:=by
 obtain⟨fuel,cs,ps,h⟩:=h
 cases fuel with
 |zero=>simp[DataW.trod] at h
 |succ fuel=>
  unfold DataW.trod at h;rw[ht] at h;simp only at h
  split at h
  ·obtain⟨xs,hx,hd⟩:=Option.map_eq_some_iff.1 h;cases hd;have h1:=nb hx;refine⟨_,rfl,by have:=h1.len;simp at this;simp[←this],fun x MS=>?_⟩;obtain⟨y,hy,rfl⟩:=List.mem_map.1 MS
   have key:∀{l:List Nat} {m:List (DataW H×List MemPlace)},b_ (fun i x=>DataW.trod enc P w 0 spare held fuel e ((cs.drop (i*P.cellsOf e)).take (P.cellsOf e))=some x) l m→∀y∈m,Rd enc P w spare held e y.1:=by
    intro l m h
    induction h with
    |nil=>intro y hy;cases hy
    |cons a t ih=>
     intro y hy
     rcases List.mem_cons.1 hy with rfl|hy
     ·exact⟨fuel,_,_,a⟩
     ·exact ih y hy
   exact key h1 y hy
  ·cases h
end
theorem BZ {H α:Type} {s:Nat} {f:α→List D} {Q:α→DataW H→Prop} {elems rest:List (DataW H)} (h:∀x∈elems,∃a,(dval x).cells?=some (dval x).cells∧(dval x).cells=f a∧(f a).length=s∧Q a x):
  ∃ws:List α,SlD (dval (.slice elems rest)) s (ws.map f)∧ws.length=elems.length∧∀a∈ws,∃x∈elems,Q a x:=by
 have key:∃ws:List α,(elems.map dval).map D.cells=ws.map f∧(∀d∈elems.map dval,d.cells?=some d.cells∧d.cells.length=s)∧ws.length=elems.length∧∀a∈ws,∃x∈elems,Q a x:=by
  induction elems with
  |nil=>exact⟨[],rfl,fun d hd=>(by cases hd),rfl,fun a ha=>by cases ha⟩
  |cons x l ih=>
   obtain⟨ws,h1,h2,h3,h4⟩:=ih fun y hy=>h y (List.mem_cons_of_mem _ hy);obtain⟨a,g1,g2,g3,g4⟩:=h x (List.mem_cons_self ..);refine⟨a::ws,by simp only[List.map_cons,h1,g2],fun d hd=>?_,by simp[h3],fun b hb=>?_⟩
   ·simp only[List.map_cons,List.mem_cons] at hd
    rcases hd with rfl|hd
    ·exact⟨g1,by rw[g2];exact g3⟩
    ·exact h2 d hd
   ·rcases List.mem_cons.1 hb with rfl|hb
    ·exact⟨x,List.mem_cons_self ..,g4⟩
    ·obtain⟨y,hy,hq⟩:=h4 b hb;exact⟨y,List.mem_cons_of_mem _ hy,hq⟩
 obtain⟨ws,h1,h2,h3,h4⟩:=key;refine⟨ws,.inr ⟨elems.map dval,?_,h1,h2⟩,h3,h4⟩;show D.sl (uJ elems)=_;rw[ra]
theorem B0 {H α:Type} {s:Nat} {f:α→List D}:SlD (dval (.nil:DataW H)) s (([]:List α).map f):=.inl ⟨rfl,rfl⟩
end Go.V
namespace Go.Proofs.YtnleclohocdkaaaGreat
theorem DR {H:Type} (d:DataW H):1≤Rows.uptoBulk d:=by
 cases d with
 |lit l=>cases l<;>simp[Rows.uptoBulk]
 |_=>simp[Rows.uptoBulk]
theorem rn {H:Type} (l:List (DataW H)):l.length≤Rows.uptoBulkAll l:=by
 induction l with
 |nil=>simp[Rows.uptoBulkAll]
 |cons x r ih=>have:=DR x;simp only[Rows.uptoBulkAll,List.length_cons];omega
end Go.Proofs.YtnleclohocdkaaaGreat
namespace Go.Proofs.YtnleclohocdkaaaGreat
open Go.V Go Go.RowKit
variable{H:Type} {enc:TypeId×Value→H} {w:World} {spare:Nat→Bool} {held:Bool} {d:DataW H}
theorem w9 {H:Type} {l:List (DataW H)} {x:DataW H} (h:x∈l):Rows.uptoBulk x≤Rows.uptoBulkAll l:=by
 induction l with
 |nil=>cases h
 |cons y l ih=>
  simp only[Rows.uptoBulkAll]
  rcases List.mem_cons.1 h with rfl|h
  ·omega
  ·have:=ih h;omega
end Go.Proofs.YtnleclohocdkaaaGreat
namespace Go.Proofs.YtnleclohocdkaaaGreat
open Go.V Go Go.RowKit
variable{H:Type} {enc:TypeId×Value→H} {w:World} {spare:Nat→Bool} {held:Bool} {d:DataW H}
theorem arg_strs (h:Rd enc Tryz.prog w spare held 22 d):∃(y:D) (ps:List (List UInt8)),dval d=y∧SlD y 1 (ps.map strC)∧(Rows.uptoBulk d≤1048576→ps.length≤1048576∧∀b∈ps,b.length≤1048576):=by
 rcases h.slice Tryz.underlying22 with rfl|⟨elems,rest,rfl,he⟩
 ·exact⟨_,[],rfl,.inl ⟨rfl,rfl⟩,fun _=>⟨by simp,fun b hb=>(by cases hb)⟩⟩
 ·obtain⟨l,h1,h2,h3⟩:=BZ (s:=1) (f:=strC) (Q:=fun(b:List UInt8) x=>b.length≤Rows.uptoBulk x) (rest:=rest) fun x hx=>by
   obtain⟨b,rfl⟩:=(he x hx).string Tryz.underlying9;refine⟨b,rfl,rfl,rfl,?_⟩;simp only[Rows.uptoBulk];omega
  refine⟨_,l,rfl,h1,fun hb=>⟨?_,fun b dr=>?_⟩⟩
  ·have:=rn elems;simp only[Rows.uptoBulk] at hb;omega
  ·obtain⟨x,hx,h4⟩:=h3 b dr;have:=w9 hx;simp only[Rows.uptoBulk] at hb;omega
end Go.Proofs.YtnleclohocdkaaaGreat
namespace Go.Proofs.YtnleclohocdkaaaGreat
open Go.V Go Go.RowKit
variable{H:Type} {enc:TypeId×Value→H} {w:World} {spare:Nat→Bool} {held:Bool} {d:DataW H}
end Go.Proofs.YtnleclohocdkaaaGreat
namespace Go.Proofs.YtnleclohocdkaaaGreat
open Go.V Go Go.RowKit
structure Sc where
 y:D
 h:List UInt8
 place:Int
 x:D
 L:List GV
def Sc.d (s:Sc):D:=.agg [s.y,.int .i64 s.place,s.x]
structure Sc.ok (s:Sc):Prop where
 hy:SlD s.y 1 (V.byteCells s.h)
 hl:s.h.length≤1048576
 hx:SlD s.x 12 (s.L.map cO)
 ln:s.L.length≤1048576
 th:∀l∈s.L,SlD l.td 11 (l.aM.map cw)∧l.aM.length≤1048576
variable{H:Type} {enc:TypeId×Value→H} {w:World} {spare:Nat→Bool} {held:Bool} {d:DataW H}
theorem xc (h:Rd enc Tryz.prog w spare held 55 d):∃f:lb,mC d=ai f:=by
 obtain⟨parts,rfl,hl,he⟩:=h.array Tryz.underlying55
 match parts,hl,he with
 |[a0,a1,a2,a3,a4,a5,a6,a7,a8,a9],_,he=>
  obtain⟨n0,rfl,_⟩:=(he a0 (by simp)).int Tryz.underlying3;obtain⟨n1,rfl,_⟩:=(he a1 (by simp)).int Tryz.underlying3;obtain⟨n2,rfl,_⟩:=(he a2 (by simp)).int Tryz.underlying3;obtain⟨n3,rfl,_⟩:=(he a3 (by simp)).int Tryz.underlying3;obtain⟨n4,rfl,_⟩:=(he a4 (by simp)).int Tryz.underlying3;obtain⟨n5,rfl,_⟩:=(he a5 (by simp)).int Tryz.underlying3;obtain⟨n6,rfl,_⟩:=(he a6 (by simp)).int Tryz.underlying3;obtain⟨n7,rfl,_⟩:=(he a7 (by simp)).int Tryz.underlying3;obtain⟨n8,rfl,_⟩:=(he a8 (by simp)).int Tryz.underlying3;obtain⟨n9,rfl,_⟩:=(he a9 (by simp)).int Tryz.underlying3;exact⟨fun i=>([n0,n1,n2,n3,n4,n5,n6,n7,n8,n9]:List Int).getD i 0,rfl⟩
theorem DV (h:Rd enc Tryz.prog w spare held 60 d):∃t:GT,(dval d).cells?=some (dval d).cells∧(dval d).cells=cw t:=by
 obtain⟨parts,rfl,hp⟩:=h.struct Tryz.underlying60
 cases hp with
 |cons a hp=>cases hp with
  |cons b hp=>cases hp with
   |nil=>
    rename_i d1 d2;obtain⟨x,rfl,_⟩:=a.int Tryz.underlying3;obtain⟨f,hf⟩:=xc b;refine⟨⟨x,f⟩,rfl,?_⟩;show mC _++(mC d2++[])=_;rw[hf];rfl
theorem Br (h:Rd enc Tryz.prog w spare held 56 d):∃l:List GT,SlD (dval d) 11 (l.map cw)∧l.length≤Rows.uptoBulk d:=by
 rcases h.slice Tryz.underlying56 with rfl|⟨elems,rest,rfl,he⟩
 ·exact⟨[],B0,by simp⟩
 ·obtain⟨rs,h1,h2,_⟩:=BZ (s:=11) (f:=cw) (Q:=fun _ _=>True) (rest:=rest) fun x hx=>by
   obtain⟨a,h1,h2⟩:=DV (he x hx);exact⟨a,h1,h2,rfl,trivial⟩
  refine⟨rs,h1,?_⟩;have:=rn elems;simp only[Rows.uptoBulk];omega
theorem Bs (h:Rd enc Tryz.prog w spare held 58 d):∃l:GV,(dval d).cells?=some (dval d).cells∧(dval d).cells=cO l∧SlD l.td 11 (l.aM.map cw)∧l.aM.length≤Rows.uptoBulk d:=by
 obtain⟨parts,rfl,hp⟩:=h.struct Tryz.underlying58
 cases hp with
 |cons a hp=>cases hp with
  |cons b hp=>cases hp with
   |cons c hp=>cases hp with
    |nil=>
     rename_i d1 d2 d3;obtain⟨x,rfl⟩:=a.bool Tryz.underlying4;obtain⟨f,hf⟩:=xc b;obtain⟨aM,h1,h2⟩:=Br c
     have h3:mC d3=[dval d3]:=by
      rcases c.slice Tryz.underlying56 with rfl|⟨elems,rest,rfl,he⟩<;>rfl
     refine⟨⟨x,f,dval d3,aM⟩,rfl,?_,h1,?_⟩
     ·show mC _++(mC d2++(mC d3++[]))=_;rw[hf,h3];rfl
     ·simp only[Rows.uptoBulk,Rows.uptoBulkAll];omega
theorem yR (h:Rd enc Tryz.prog w spare held 48 d):∃L:List GV,SlD (dval d) 12 (L.map cO)∧L.length≤Rows.uptoBulk d∧∀l∈L,SlD l.td 11 (l.aM.map cw)∧l.aM.length≤Rows.uptoBulk d:=by
 rcases h.slice Tryz.underlying48 with rfl|⟨elems,rest,rfl,he⟩
 ·exact⟨[],B0,by simp,fun i hi=>by cases hi⟩
 ·obtain⟨L,h1,h2,h3⟩:=BZ (s:=12) (f:=cO) (Q:=fun(l:GV) x=>SlD l.td 11 (l.aM.map cw)∧l.aM.length≤Rows.uptoBulk x) (rest:=rest) fun x hx=>by
   obtain⟨a,h1,h2,h3,h4⟩:=Bs (he x hx);exact⟨a,h1,h2,rfl,h3,h4⟩
  refine⟨L,h1,?_,fun i hi=>?_⟩
  ·have:=rn elems;simp only[Rows.uptoBulk];omega
  ·obtain⟨x,hx,h4,h5⟩:=h3 i hi;have:=w9 hx;exact⟨h4,by simp only[Rows.uptoBulk];omega⟩
end Go.Proofs.YtnleclohocdkaaaGreat
namespace Go.Proofs.YtnleclohocdkaaaGreat
open Go.V Go Go.RowKit
structure Mc where
 place:Int
 x:D
 L:List GV
def Mc.d (s:Mc):D:=.agg [.int .i64 s.place,s.x]
structure Mc.ok (s:Mc):Prop where
 hx:SlD s.x 12 (s.L.map cO)
 ln:s.L.length≤1048576
 th:∀l∈s.L,SlD l.td 11 (l.aM.map cw)∧l.aM.length≤1048576
variable{H:Type} {enc:TypeId×Value→H} {w:World} {spare:Nat→Bool} {held:Bool} {d:DataW H}
theorem DU (h:Rd enc Tryz.prog w spare held 50 d):∃s:Mc,dval d=s.d∧(Rows.uptoBulk d≤1048576→s.ok):=by
 obtain⟨parts,rfl,hp⟩:=h.struct Tryz.underlying50
 cases hp with
 |cons a2 hp=>cases hp with
  |cons b2 hp=>cases hp with
   |nil=>
    rename_i d3 d4;obtain⟨n,rfl,_⟩:=a2.int Tryz.underlying3;obtain⟨L,g1,g2,g3⟩:=yR b2
    have e2:mC d4=[dval d4]:=by
     rcases b2.slice Tryz.underlying48 with rfl|⟨elems,rest,rfl,he⟩<;>rfl
    refine⟨⟨n,dval d4,L⟩,?_,fun hb=>?_⟩
    ·show D.agg (mC _++(mC d4++[]))=_;rw[e2];rfl
    ·simp only[Rows.uptoBulk,Rows.uptoBulkAll] at hb;exact⟨g1,by show L.length≤_;omega,fun l hl=>⟨(g3 l hl).1,by have:=(g3 l hl).2;omega⟩⟩
end Go.Proofs.YtnleclohocdkaaaGreat
