/-
 What a scanner has, in memory of one's own (keep); a scanner of it; it is written over.
-/
import Derived.Test.YtnleclohocdkaaaGreatSGHr
import Derived.Test.YtnleclohocdkaaaGreatSGSc
import Derived.Test.YtnleclohocdkaaaGreatSGCa
import Derived.Test.YtnleclohocdkaaaGreatSGUa
import Derived.Test.YtnleclohocdkaaaGreatSDgp
set_option maxRecDepth 100000
set_option maxHeartbeats 4000000
set_option linter.unusedSimpArgs false
set_option linter.unusedVariables false
namespace Go.Proofs.YtnleclohocdkaaaGreat
open Go.V Go
def fh (fr:Go.V.Fr) (k:Nat):Go.V.D:=Go.V.nth .junk fr.loc k
theorem vS {kd:Nat} {s0:St} {h js:List UInt8} (hD:s0.bs[kd]?=some (.mem 0 false (bE h js))) (LX:kd<s0.bs.length) (hl:(h++js).length=4) (hF:s0.flr≤s0.bs.length) (cZ:s0.ro≤s0.bs.length):
  ∃x ab,Ev pv 79 [.ptr kd 0 0] s0 x ab∧Has s0.bs.length s0 ab [.lst x 1 (V.byteCells h)]:=by
 have hH:Has s0.bs.length s0 s0 []:=Has.start (Nat.le_refl _) cZ;have jC:=hl;rw[List.length_append] at jC;have hcl:=lQ hl;have n_:=ka hl;have CU:=na (st:=s0) (l:=0) (r:=h.length) hD (Nat.zero_le _) (by rw[hl];omega);rw[List.take_left,List.drop_zero] at CU;have Gq:Arg s0.bs.length s0 1 (.win kd 0 0 (h.length-0) 1) (V.byteCells h):=Arg.of CU rfl;have hbl:=aS h;refine Ev.fX rfl O0 rfl rfl rfl ?_;refine zE ?_;change EvC _ _ _ _ s0 _;refine zQ 4 ?_;have hH:=hH.nulE 1;refine zQ 8 ?_;refine EvO.load (k:=kd) (aq:=0) (off:=4) rfl rfl rfl hD (d:=.int .i64 (h.length:Nat)) (by rw[n_];rfl) ?_;refine EvO.ib (l:=0) (r:=h.length) rfl rfl rfl rfl rfl hD (by rw[hcl];decide) (by show bd 4 none (some (.int .i64 (h.length:Nat)))=_;simp only[bd,dS,fQ];rw[if_pos ⟨by omega,by omega⟩];rfl) ?_;refine EvO.happend (s:=1) hH rfl (ev rfl) (ev rfl) (by exact at0) (by exact Arg.rows (by assumption) hH) rfl rfl rfl rfl rfl rfl rfl ⟨(Nat.le_of_ble_eq_true rfl),(Nat.le_of_ble_eq_true rfl)⟩ (fun _=>(put_T rfl _)) (by simp only[List.length_nil]<;>omega) (by exact .inl hF) (fun Vb st hH=>?_);dsimp only[u2,u1,u3,u4,setMany,u5,u6,D.cells,Nat.reduceAdd] at hH;refine zQ 2 ?_;refine EvC.ret ⟨rx,_,_,_,rfl,rfl,?_⟩;exact hH
theorem Cj {st:St} {s:Nat} {x:D} {es:List (List D)} (h:fJ st s x es):x=.nul∨∃k v o n,x=.win k v o n s:=by
 cases h with
 |nul=>exact .inl rfl
 |win k aq off es c _ _ _ _=>exact .inr ⟨k,aq,off,_,rfl⟩
theorem G0 (d:D) (L':List VL):(.lst d 12 (L'.map dW)::L'.map jR:List aN)=rB d (L'.map VL.g):=by
 unfold rB;rw[BI,List.map_map]
 congr 1
 refine List.map_congr_left fun l _=>?_;show jR l=aN.lst l.td 11 ((l.aU.map dA.g).map fq);rw[FW];rfl
theorem Ah {kS kd kv ks:Nat} {s0:St} {p:Pg} {pl:Nat} {ld:D} {L:List VL} {h js:List UInt8} (hp:p.ok) (hLl:L.length≤1000) (hok:∀l∈L,l.aU.length≤1000) (hA:AS s0 kS kd kv ks p pl ld L h js) (hF:s0.flr≤s0.bs.length):
  ∃r ab,Ev pv 33 [.ptr kS 0 0] s0 r ab∧∃(y d:D) (L':List VL),r=.agg [y,.int .i64 (pl:Nat),d]∧L'.map VL.pl=L.map VL.pl∧Has s0.bs.length s0 ab (rB d (L'.map VL.g)++[.lst y 1 (V.byteCells h)]):=by
 have cZ:=hA.ro;have hH:Has s0.bs.length s0 s0 []:=Has.start (Nat.le_refl _) cZ;have hm:=hA.m;refine Ev.fX rfl Pq rfl rfl rfl<|zE ?_;change EvC _ _ _ _ s0 _;refine qq<|qj fun K hK=>qa hH fun k2 st hk2 hH=>qe hK ?_;have IL:=pt hH hA.sl hA.s 0;have C8:=pt hH hA.sl hA.s 1;obtain⟨f1,f2⟩:=rP hF hH;obtain⟨y,st1,HQ,jE⟩:=vS (s0:=st) (kd:=kd) (h:=h) (js:=js) (by rw[hH.ex.low kd hA.dl];exact hA.d) (by have:=hH.ex.len;have:=hA.dl;omega) hA.hl f1 f2;have hy0:=Cj (jE.own (j:=0) rfl);have jE:=Has.over hH jE;obtain⟨f3,f4⟩:=rP hF jE;obtain⟨_,st2,hev2,d,L2,rfl,x9,uq⟩:=wJ hp hLl hok (hm.lift jE) f3 f4;have uq:=Has.over jE uq;have Em:=pt jE hA.sl hA.s 1;have hb1:st.bs[kS]?=some (.mem 0 false [.ptr kd 0 0,.ptr kv 0 0]):=by rw[hH.ex.low kS hA.sl];exact hA.s
 have hb2:st1.bs[kS]?=some (.mem 0 false [.ptr kd 0 0,.ptr kv 0 0]):=by rw[jE.ex.low kS hA.sl];exact hA.s
 change EvC _ _ _ _ _ _;refine qq ?_;generalize hK:SeqQ _ _ _ _=K;refine EvC.tm rfl<|bD.cons<|qm<|EvO.nil ⟨rfl,?_⟩;refine bD.cons<|qg<|EvO.nil ⟨rfl,?_⟩;refine bD.cons<|qp (o:=0)<|EvO.nil ⟨rfl,?_⟩;refine bD.cons<|qR<|EvO.nil ⟨rfl,?_⟩;refine bD.cons ?_;have V':=hH;have hH:=jE;dsimp only[u3,u4] at hH;refine EvO.hcall rfl rfl HQ (put_T rfl _)<|EvO.nil ⟨rfl,?_⟩;refine bD.cons<|qm<|EvO.nil ⟨rfl,?_⟩;refine bD.cons<|qg<|EvO.nil ⟨rfl,?_⟩;refine bD.cons<|qp (o:=1)<|EvO.nil ⟨rfl,?_⟩;refine bD.cons<|qR<|EvO.nil ⟨by exact Bool.and_eq_true_iff.2 ⟨Im rfl rfl hb1 hb2,rfl⟩,?_⟩;refine bD.cons ?_;have V_:=hH;have hH:=Has.e5 (.lst d 12 (L2.map dW)::L2.map jR) [_,_] (H:=[]) (by rw[List.append_nil];exact uq);dsimp only[u3,u4] at hH;refine EvO.hcall rfl rfl hev2 (put_T rfl _)<|EvO.nil ⟨rfl,?_⟩;refine bD.cons ?_;refine EvO.go (d:=.agg [y,.int .i64 (pl:Nat),d]) (st1:=_) rfl rfl (by rcases hy0 with rfl|⟨_,_,_,_,rfl⟩<;>rfl) (put_T rfl _) ?_;refine EvO.nil ⟨rfl,?_⟩;refine bD.cons<|qS hH at1 fun st hH=>?_;dsimp only[u2,u1,u3,u4,setMany,u5,u6,D.cells,Nat.reduceAdd,aB,aI,aG,ay,jY] at hH;refine EvO.nil ⟨rfl,?_⟩;refine bD.nil ?_;subst hK;refine EvC.ret ⟨rx,_,_,_,hH.ov rfl at1 rfl,rfl,?_⟩;refine⟨y,d,L2,rfl,x9,?_⟩;rw[←G0];have hH:=hH.erase 1;rw[List.append_nil] at hH;have:=Has.e5 [.lst y 1 (V.byteCells h)] (.lst d 12 (L2.map dW)::L2.map jR) (H:=[]) (by rw[List.append_nil];exact hH);rw[List.append_nil] at this;exact this
theorem SH.over {H2:List aN} {N:Nat} {S st ab:St} {kS kd kv ks:Nat} {p:Pg} {pl:Nat} {ld:D} {L:List VL} {h:List UInt8} {H:List aN} (hM:SH [] N S st kS kd kv ks p pl ld L h H) (h2:Has st.bs.length st ab H2):SH H2 N S ab kS kd kv ks p pl ld L h H:=by
 obtain⟨pd,qd,P,Q,sn,js,hH,h3,h4,h5⟩:=hM;exact⟨pd,qd,P,Q,sn,js,by simpa only[List.nil_append] using Has.over hH h2,h3,h4,h5⟩
theorem SH.pR {A:List aN} {N:Nat} {S st:St} {kS kd kv ks:Nat} {p:Pg} {pl:Nat} {ld:D} {L:List VL} {h:List UInt8} {H:List aN} (hM:SH A N S st kS kd kv ks p pl ld L h H):∃E,Has N S st (A++(E++H))∧∀(N':Nat) (S' ab:St) (A' H':List aN),Has N' S' ab (A'++(E++H'))→SH A' N' S' ab kS kd kv ks p pl ld L h H':=by
 obtain⟨pd,qd,P,Q,sn,js,hH,hok,cY,hl⟩:=hM;exact⟨.box kS (.mem 0 false [.ptr kd 0 0,.ptr kv 0 0])::.box kd (.mem 0 false (bE h js))::c_ ks kv p pl ld pd qd P Q L,hH,fun _ _ _ A' H' h=>⟨pd,qd,P,Q,sn,js,h,hok,cY,hl⟩⟩
theorem mi {N kS kd kv ks:Nat} {S s0:St} {p:Pg} {pl:Nat} {ld:D} {L:List VL} {h:List UInt8} {H:List aN} (hF:S.flr≤N) (hp:p.ok) (hLl:L.length≤1000) (hok:∀l∈L,l.aU.length≤1000) (hM:SH [] N S s0 kS kd kv ks p pl ld L h H):
  ∃r ab,Ev pv 33 [.ptr kS 0 0] s0 r ab∧∃(y d:D) (L':List VL),r=.agg [y,.int .i64 (pl:Nat),d]∧L'.map VL.pl=L.map VL.pl∧SH (rB d (L'.map VL.g)++[.lst y 1 (V.byteCells h)]) N S ab kS kd kv ks p pl ld L h H:=by
 obtain⟨js,hA⟩:=hM.as;obtain⟨E,hE,_⟩:=hM.pR;obtain⟨h1,_⟩:=rP hF hE;obtain⟨r,ab,hev,y,d,L',hr,hL,hH⟩:=Ah hp hLl hok hA h1;exact⟨r,ab,hev,y,d,L',hr,hL,hM.over hH⟩
theorem cP {st:St} {s:Nat} {x:D} {es:List (List D)} (h:V.Rows st s x es):x.cells?=some [x]:=by cases h<;>rfl
theorem FV {s0 S st:St} {H:List aN} {x:D} {L:List GV} (hg:kQ s0 x L) (hS:S.bs=s0.bs) (hH:Has s0.bs.length S st H):kQ st x L:=
 ⟨(Arg.of hg.1 hS).rows hH,hg.2.1,fun l hl=>⟨(Arg.of (hg.2.2 l hl).1 hS).rows hH,(hg.2.2 l hl).2⟩⟩
theorem EN (cC:∀st,Ev pv 63 [] st (.agg (ay aZ)) st) {N:Nat} {S s0:St} {H:List aN} {p:Pg} {x y:D} {h:List UInt8} {L:List GV} {place:Int} (hF:S.flr≤N) (hp:p.ok) (hW:eX p place L) (hx:Arg N S 12 x (L.map gD)) (R2:∀l∈L,Arg N S 11 l.td (l.aU.map fq)∧l.aU.length≤1000) (Gq:Arg N S 1 y (V.byteCells h)) (hb:cj h=true∨h=[]) (h3:h.length≤3) (hH:Has N S s0 H):
  ∃r ab,Ev pv 35 [p.d,.agg [y,.int .i64 place,x]] s0 r ab∧∃kS kd kv ks q ld L',r=.tup [.ptr kS 0 0,.int .i64 0]∧i_ p q∧L'.map VL.pl=(L.map GV.v).map VL.pl∧SH [] N S ab kS kd kv ks q place.toNat ld L' h H:=by
 have R7:=fun{st:St} {H:List aN} (hH:Has N S st H)=>GI (N:=N) (S:=S) cC hF hp hW hx R2 hH;have hcl:=cP hx.1;have kf:=cP Gq.1;unfold Pg.d at*;refine Ev.fX rfl Po rfl rfl rfl ?_;refine zE ?_;change EvC _ _ _ _ s0 _;refine zQ 2 ?_;refine qb hH fun k2 st hk2 hH=>?_;refine qb hH fun k3 st BB hH=>?_;refine zQ 5 ?_;refine EvO.hloadS (m:=2) hH rfl (ev rfl) (by exact at1) (by dsimp only[List.drop_succ_cons,List.drop_zero,List.take_succ_cons,List.take_zero,aB,aI,aG,ay,jY]<;>rfl) rfl rfl (put_T rfl _) ?_;refine zQ 1 ?_;refine EvO.hloadS (m:=2) hH rfl (ev rfl) (by exact at0) (by dsimp only[List.drop_succ_cons,List.drop_zero,List.take_succ_cons,List.take_zero,aB,aI,aG,ay,jY]<;>rfl) rfl rfl (put_T rfl _) ?_;obtain⟨_,st,hev,kv,ks,q,ld,L2,rfl,hq,x9,hM⟩:=R7 hH;refine qv hev ?_;refine zQ 6 ?_;obtain⟨pd,qd,P,Q,sn,hH,hok,cY⟩:=nG (MH.pull [_,_] [] (H:=H) hM);dsimp only[u3,u4] at hH;refine zQ 6 ?_;refine EvC.cond (v:=false) (by dsimp only[Fr.ev,Fr.get,nth,V.look];rfl) (fun h=>by cases h) (fun _=>?_);refine zQ 5 ?_;obtain⟨kd,st,hev,hH⟩:=wS Gq hb h3 hH;refine qv hev ?_;refine zQ 12 ?_;refine EvC.cond (v:=false) (by dsimp only[Fr.ev,Fr.get,nth,V.look];rfl) (fun h=>by cases h) (fun _=>?_);refine zQ 5 ?_;refine EvO.eE (qs:=[(0,_),(1,_)]) rfl rfl rfl rfl ⟨rfl,(ev rfl),(by rfl),rfl,(ev rfl),(by rfl),trivial⟩ (by intro q hq;simp only[List.mem_cons,List.not_mem_nil,or_false] at hq;rcases hq with rfl|rfl<;>exact⟨rfl,by exact Nat.le_of_ble_eq_true rfl⟩) (by show List.foldl _ [_,_] _=_;dsimp only[List.foldl_cons,List.foldl_nil,u2,u1]<;>rfl) (put_T rfl _) ?_;refine qb hH fun k31 st TC hH=>?_;refine zQ 3 ?_;refine EvC.ret ⟨rx,_,_,_,rfl,rfl,?_⟩;refine⟨k31,kd,kv,ks,q,ld,L2,rfl,hq,x9,pd,qd,P,Q,sn,([0,0,0,0]:List UInt8).drop h.length,?_,hok,cY,by simp;omega⟩;exact(hH.erase 2).erase 2
theorem EM (cC:∀st,Ev pv 63 [] st (.agg (ay aZ)) st) {N:Nat} {S s0:St} {H:List aN} {p:Pg} {x y:D} {h:List UInt8} {L:List GV} {place:Int} (hF:S.flr≤N) (hp:p.ok) (hW:eX p place L) (hx:kQ s0 x L) (ht:∀l∈L,l.aU.length≤1000) (hy:V.Rows s0 1 y (V.byteCells h)) (hb:cj h=true∨h=[]) (h3:h.length≤3) (hH:Has N S s0 H):
  ∃r ab,Ev pv 35 [p.d,.agg [y,.int .i64 place,x]] s0 r ab∧∃kS kd kv ks q ld L',r=.tup [.ptr kS 0 0,.int .i64 0]∧i_ p q∧L'.map VL.pl=(L.map GV.v).map VL.pl∧SH [] N S ab kS kd kv ks q place.toNat ld L' h H:=by
 obtain⟨h1,h2⟩:=rP hF hH;obtain⟨r,ab,hev,kS,kd,kv,ks,q,ld,L',hr,hq,hL,hM⟩:=EN (N:=s0.bs.length) (S:=s0) cC h1 hp hW (Arg.of hx.1 rfl) (fun l hl=>⟨Arg.of (hx.2.2 l hl).1 rfl,ht l hl⟩) (Arg.of hy rfl) hb h3 (Has.start (Nat.le_refl _) h2);obtain⟨E,hE,hB⟩:=hM.pR;refine⟨r,ab,hev,kS,kd,kv,ks,q,ld,L',hr,hq,hL,hB N S ab [] H ?_⟩;have:=Has.over hH hE
 simpa only[List.nil_append,List.append_nil] using this
theorem Ag (cC:∀st,Ev pv 63 [] st (.agg (ay aZ)) st) {s0:St} {p:Pg} {x y:D} {h:List UInt8} {L:List GV} {place:Int} (hp:p.ok) (hx:kQ s0 x L) (hy:V.Rows s0 1 y (V.byteCells h)) (hb:cj h=true∨h=[]) (hW:eX p place L):
  Ev pv 34 [p.d,.agg [y,.int .i64 place,x]] s0 (.bool true) s0:=by
 have LK:=fun(st:St) (hx:kQ st x L)=>uC cC hp hx place;have hcl:=cP hx.1;have kf:=cP hy
 have h3:h.length≤3:=by
  rcases hb with hb|rfl
  ·exact wB hb
  ·simp
 unfold Pg.d at*;refine Ev.mk1 rfl Pp rfl rfl rfl ?_;refine zE ?_;obtain⟨hSb,hF,hH⟩:=ri s0;generalize enterSt .ro s0=S at*;have Gq:=Arg.of hy hSb;refine zQ 2 ?_;refine qb hH fun k2 st hk2 hH=>?_;refine qb hH fun k3 st BB hH=>?_;refine zQ 6 ?_;obtain⟨kd,st,hev,hH⟩:=wS Gq hb h3 hH;refine qv hev ?_;refine zQ 6 ?_;have bS:true=true:=rfl;have hw:=LK _ (FV hx hSb hH);rw[dc hW] at hw;refine zQ 5 ?_;refine EvO.hloadS (m:=2) hH (wantD_is rfl rfl rfl bS) (ev rfl) (by exact at2) (by dsimp only[List.drop_succ_cons,List.drop_zero,List.take_succ_cons,List.take_zero,aB,aI,aG,ay,jY]<;>rfl) rfl rfl (put_T rfl _) ?_;refine zQ 1 ?_;refine EvO.hloadS (m:=2) hH (wantD_is rfl rfl rfl bS) (ev rfl) (by exact at1) (by dsimp only[List.drop_succ_cons,List.drop_zero,List.take_succ_cons,List.take_zero,aB,aI,aG,ay,jY]<;>rfl) rfl rfl (put_T rfl _) ?_;refine qv (hw) ?_ (hg:=wi bS);refine zQ 3 ?_;refine EvC.ret ⟨rx,_,rfl,rl hSb hH (rfl)⟩
theorem Ad {s0:St} {x y lx ly:D} {es fs:List (List D)} {h:List UInt8} {pl:Int} {L:List GV} (hx:V.Rows s0 1 x (V.byteCells h)) (hy:V.Rows s0 1 y (V.byteCells h)) (V0:h.length≤1048576) (LV:V.Rows s0 12 lx es) (LU:V.Rows s0 12 ly fs) (kW:eR s0 es L) (Df:eR s0 fs L) (hl:L.length≤1000) (uh:∀l∈L,l.aU.length≤1000):Ev pv 37 [.agg [x,.int .i64 pl,lx],.agg [y,.int .i64 pl,ly]] s0 (.bool true) s0:=by
 have Sk:=fun{st:St} (hx:V.Rows st 1 x (V.byteCells h)) (hy:V.Rows st 1 y (V.byteCells h))=>Ae (st:=st) (x:=x) (y:=y) (l:=h) hx hy (by omega);have hm:=fun{st:St} (h1:V.Rows st 12 lx es) (h2:V.Rows st 12 ly fs) (h3:eR st es L) (h4:eR st fs L)=>tK (s0:=st) (pl:=pl) h1 h2 h3 h4 hl uh;have hcl:=cP hx;have kf:=cP hy;have A6:=cP LV;have Dp:=cP LU;refine Ev.mk1 rfl Pm rfl rfl rfl ?_;refine zE ?_;obtain⟨hSb,hF,hH⟩:=ri s0;generalize enterSt .ro s0=S at*;have hx:=Arg.of hx hSb;have hy:=Arg.of hy hSb;have LV:=Arg.of LV hSb;have LU:=Arg.of LU hSb;refine zQ 2 ?_;refine qb hH fun k2 st hk2 hH=>?_;refine qb hH fun k3 st BB hH=>?_;refine zQ 2 ?_;have fK:true=true:=rfl;refine zQ 6 ?_;refine qv ((Sk (hx.rows hH) (hy.rows hH))) ?_;refine zQ 2 ?_;refine EvO.hloadS (m:=2) hH (wantD_is rfl rfl rfl fK) (ev rfl) (by exact at1) (by dsimp only[List.drop_succ_cons,List.drop_zero,List.take_succ_cons,List.take_zero,aB,aI,aG,ay,jY]<;>rfl) rfl rfl (put_T rfl _) ?_;refine zQ 1 ?_;refine EvO.hloadS (m:=2) hH (wantD_is rfl rfl rfl fK) (ev rfl) (by exact at0) (by dsimp only[List.drop_succ_cons,List.drop_zero,List.take_succ_cons,List.take_zero,aB,aI,aG,ay,jY]<;>rfl) rfl rfl (put_T rfl _) ?_;refine qv ((hm (LV.rows hH) (LU.rows hH) (kW.ex hSb hH) (Df.ex hSb hH))) ?_ (hg:=wi fK);refine zQ 3 ?_;refine EvC.ret ⟨rx,_,rfl,rl hSb hH (rfl)⟩
theorem GJ (c:UInt8):((255-c:UInt8).toNat:Int)=((255-c.toNat:Nat):Int):=by
 have:=UInt8.toNat_lt c;rw[UInt8.toNat_sub];simp;omega
theorem Bn (h:List UInt8) (i:Nat) (c:UInt8):(V.byteCells h).set i [.int .u8 ((255-c.toNat:Nat):Int)]=V.byteCells (h.set i (255-c)):=by
 unfold V.byteCells;rw[List.map_set,GJ]
theorem BS {N:Nat} {S s0:St} {H:List aN} {d y:D} {L:List GV} {h:List UInt8} {pl:Int} (hF:S.flr≤N) (hl:L.length≤8) (hh:h.length≤3) (uh:∀l∈L,l.aU.length≤1000) (hH:Has N S s0 (.lst y 1 (V.byteCells h)::.lst d 12 (L.map gD)::(L.map FU++H))):
  ∃r ab,Ev pv 36 [.agg [y,.int .i64 pl,d]] s0 r ab∧r=.tup []∧Has N S ab H:=by
 have T3:=hH.ocells at0;have n_:=hH.ocells at1;refine Ev.fX rfl Pn rfl rfl rfl ?_;refine zE ?_;change EvC _ _ _ _ s0 _;refine zQ 2 ?_;refine qb hH fun k1 st kV hH=>?_;refine zQ 7 ?_;refine EvC.loop (fun mm fr st=>∃(i:Nat) (g:List UInt8),fr.clean=⟨6,[fh fr 0,.ptr k1 0 0,.int .i64 (i:Nat),fh fr 3,fh fr 4,fh fr 5],[]⟩∧Has N S st (.box k1 (.mem 0 false [y,.int .i64 pl,d])::.lst y 1 (V.byteCells g)::.lst d 12 (L.map gD)::(L.map FU++H))∧(i+mm=h.length)∧(g.length=h.length)) (h.length) ?_ ?_
 ·exact⟨0,h,rfl,hH,by omega,rfl⟩
 rintro mm fr st ⟨i,g,hfr,hH,hi,hg⟩;rw[hfr];clear hfr;generalize fh fr=ee;clear fr;have rE:=aS g;refine zQ 6 ?_;refine qn ?_ (hR:=hH.rows at1);refine zQ 2 ?_
 by_cases hlt:i<h.length
 ·obtain⟨c,hc⟩:∃c,g[i]?=some c:=⟨g[i]'(by omega),List.getElem?_eq_getElem _⟩
  have hr1:=hY hc;have V3:=UInt8.toNat_lt c;refine qD rfl (by rw[show decide (((i:Nat):Int)<(((V.byteCells g).length:Nat):Int))=true from by rw[decide_eq_true_eq];omega]) ?_;refine zQ 10 ?_;refine qi hH at1 fun LG FE=>?_;refine zQ 1 ?_;refine EvO.ky (z:=((255-c.toNat:Nat):Int)) rfl (ev rfl) (ev rfl) (by rw[show(255:Int)-((c.toNat:Nat):Int)=((255-c.toNat:Nat):Int) by omega,di (by have:ke .u8=255:=rfl;omega)]) (put_T rfl _) ?_;refine qi hH at1 fun LF FD=>?_;refine EvO.iK hH rfl (ev rfl) (ev rfl) (by assumption) rfl rfl (by exact at1) (by assumption) (Nat.le_of_ble_eq_true rfl) (by exact .inl hF) (fun st hH=>?_);dsimp only[u2,u1,u3,u4,setMany,u5,u6,D.cells,Nat.reduceAdd,aB,aG,ay,ai,gD,fq] at hH;refine zQ 6 ?_;exact⟨mm-1,by omega,⟨i+1,g.set i (255-c),rfl,(by rw[←Bn];exact hH),by omega,(by rw[List.length_set];exact hg)⟩⟩
 ·refine qE rfl (by rw[show decide (((i:Nat):Int)<(((V.byteCells g).length:Nat):Int))=false from by rw[decide_eq_false_iff_not];omega]) ?_;refine zQ 5 ?_;have hH:Has N S st (.box k1 (.mem 0 false [y,.int .i64 pl,d])::.lst y 1 (V.byteCells g)::.lst d 12 (L.map gD)::((L.drop 0).map FU++H)):=hH;refine zQ 1 ?_;refine EvC.loop (fun mm fr st=>∃(j:Nat) (es:List (List D)),fr.clean=⟨6,[fh fr 0,.ptr k1 0 0,fh fr 2,.int .i64 (j:Nat),fh fr 4,fh fr 5],[]⟩∧Has N S st (.box k1 (.mem 0 false [y,.int .i64 pl,d])::.lst y 1 (V.byteCells g)::.lst d 12 es::((L.drop j).map FU++H))∧(j+mm=L.length)∧(es.length=L.length)∧(∀q,j≤q→es[q]?=(L.map gD)[q]?)) (L.length) ?_ ?_
  ·exact⟨0,L.map gD,rfl,hH,by omega,(by rw[List.length_map]),(fun _ _=>rfl)⟩
  rintro mm fr st ⟨j,es,hfr,hH,hj,oz,kW⟩;rw[hfr];clear hfr;generalize fh fr=ee;clear fr;refine zQ 7 ?_;refine qn ?_ (hR:=hH.rows at2);refine zQ 2 ?_
  by_cases iS:j<L.length
  ·obtain⟨l,jC⟩:∃l,L[j]?=some l:=⟨L[j]'iS,List.getElem?_eq_getElem _⟩
   have n5:es[j]?=some (gD l):=by rw[kW j (Nat.le_refl _)];exact x_ jC
   have Ta:=uh l (List.mem_of_getElem? jC)
   have vT:L.drop j=l::L.drop (j+1):=by
    obtain⟨h3,h4⟩:=List.getElem?_eq_some_iff.1 jC;rw[List.drop_eq_getElem_cons h3,h4]
   rw[vT] at hH;have hH:Has N S st (.box k1 (.mem 0 false [y,.int .i64 pl,d])::.lst y 1 (V.byteCells g)::.lst d 12 es::.lst l.td 11 (l.aU.map fq)::((L.drop (j+1)).map FU++H)):=hH;refine qD rfl (by rw[show decide (((j:Nat):Int)<((es.length:Nat):Int))=true from by rw[decide_eq_true_eq];omega]) ?_;refine zQ 9 ?_;refine qi hH at2 fun Jg C6=>?_;refine EvO.fx (fo:=11) (m:=0) (o2:=11) rfl (ev rfl) (by assumption) rfl rfl rfl (fun _=>(put_T rfl _)) (fun LD FC=>?_);refine zQ 9 ?_;refine EvC.loop (fun mm fr st=>∃(q:Nat) (fs:List (List D)),fr.clean=⟨6,[fh fr 0,.ptr k1 0 0,fh fr 2,.int .i64 (j:Nat),l.td,.int .i64 (q:Nat)],[]⟩∧Has N S st (.box k1 (.mem 0 false [y,.int .i64 pl,d])::.lst y 1 (V.byteCells g)::.lst d 12 es::.lst l.td 11 fs::((L.drop (j+1)).map FU++H))∧(q+mm=l.aU.length)∧(fs.length=l.aU.length)) (l.aU.length) ?_ ?_
   ·exact⟨0,l.aU.map fq,rfl,hH,by omega,by rw[List.length_map]⟩
   rintro mm fr st ⟨q,fs,hfr,hH,hq,kJ⟩;rw[hfr];clear hfr;generalize fh fr=ee;clear fr;refine zQ 5 ?_;refine qn ?_ (hR:=hH.rows at3);refine zQ 2 ?_
   by_cases FA:q<l.aU.length
   ·have Oj:decide (((q:Nat):Int)<((fs.length:Nat):Int))=true:=by rw[decide_eq_true_eq];omega
    obtain⟨e0,M9⟩:∃e,fs[q]?=some e:=⟨fs[q]'(by omega),List.getElem?_eq_getElem _⟩
    refine qD rfl (by rw[Oj]) ?_;refine zQ 6 ?_;refine EvO.go (d:=.agg [.int .i64 (-9),.int .i64 0,.int .i64 0,.int .i64 0,.int .i64 0,.int .i64 0,.int .i64 0,.int .i64 0,.int .i64 0,.int .i64 0,.int .i64 0]) (st1:=_) rfl rfl rfl (put_T rfl _) ?_;refine qi hH at3 fun Vz SR=>?_;refine EvO.iK hH rfl (ev rfl) (ev rfl) (by assumption) rfl rfl (by exact at3) (by assumption) (Nat.le_of_ble_eq_true rfl) (by exact .inl hF) (fun st hH=>?_);dsimp only[u2,u1,u3,u4,setMany,u5,u6,D.cells,Nat.reduceAdd,aB,aG,ay,ai,gD,fq] at hH;refine zQ 6 ?_;exact⟨mm-1,by omega,⟨q+1,_,rfl,hH,by omega,(by rw[List.length_set];exact kJ)⟩⟩
   ·have Oj:decide (((q:Nat):Int)<((fs.length:Nat):Int))=false:=by rw[decide_eq_false_iff_not];omega
    refine qE rfl (by rw[Oj]) ?_;refine zQ 1 ?_;have hH:=hH.erase 3;refine zQ 5 ?_;refine EvO.go (d:=.agg [.bool true,.int .i64 0,.int .i64 0,.int .i64 0,.int .i64 0,.int .i64 0,.int .i64 0,.int .i64 0,.int .i64 0,.int .i64 0,.int .i64 0,.nul]) (st1:=_) rfl rfl rfl (put_T rfl _) ?_;refine qi hH at2 fun Vy SQ=>?_;refine EvO.iK hH rfl (ev rfl) (ev rfl) (by assumption) rfl rfl (by exact at2) (by assumption) (Nat.le_of_ble_eq_true rfl) (by exact .inl hF) (fun st hH=>?_);dsimp only[u2,u1,u3,u4,setMany,u5,u6,D.cells,Nat.reduceAdd,aB,aG,ay,ai,gD,fq] at hH;refine zQ 6 ?_;refine⟨L.length-(j+1),by omega,⟨j+1,_,rfl,hH,by omega,(by rw[List.length_set];exact oz),(fun q hq=>by rw[List.getElem?_set_ne (by omega)];exact kW q (by omega))⟩⟩
  ·rw[List.drop_eq_nil_of_le (by omega)] at hH;refine qE rfl (by rw[show decide (((j:Nat):Int)<((es.length:Nat):Int))=false from by rw[decide_eq_false_iff_not];omega]) ?_;refine zQ 1 ?_;refine⟨fun i h=>(by cases h),_,_,_,rfl,rfl,?_⟩;exact⟨rfl,hH.drop 3⟩
theorem rU (cC:∀st,Ev pv 63 [] st (.agg (ay aZ)) st) {kS kd kv ks:Nat} {s0:St} {p:Pg} {pl:Nat} {ld:D} {L:List VL} {h js:List UInt8} (hp:p.ok) (hR:aO p) (hpl:pl≤2000000000000) (hLl:L.length=p.ah.length) (vY:∀l∈L,l.pl.ok p.code.length) (hb:cj h=true∨h=[]) (h3:h.length≤3) (hA:AS s0 kS kd kv ks p pl ld L h js):
  ∃d ab,Ev pv 38 [.ptr kS 0 0] s0 d ab∧d=xH ((ew p.code (au p) (iZ h.length) pl (L.map VL.pl)).2.map (kM p.code (ew p.code (au p) (iZ h.length) pl (L.map VL.pl)).1))∧ab=s0:=by
 have cZ:=hA.ro;have IJ:=hR.sl;refine Ev.fX rfl Pl rfl rfl rfl ?_;refine zE ?_;have hSb:(enterSt .rw s0).bs=s0.bs:=rfl;have hF:(enterSt .rw s0).flr≤s0.bs.length:=Nat.le_refl _;have hH:Has s0.bs.length (enterSt .rw s0) (enterSt .rw s0) []:=Has.start (Nat.le_refl _) cZ;generalize enterSt .rw s0=S2 at*;have hm:=hA.m.bs hSb;have bO:S2.bs[kS]?=some (.mem 0 false [.ptr kd 0 0,.ptr kv 0 0]):=by rw[hSb];exact hA.s
 have UD:S2.bs[kd]?=some (.mem 0 false (bE h js)):=by rw[hSb];exact hA.d
 have FI:∀l∈L.map VL.pl,l.ok p.code.length:=fun l hl=>by obtain⟨y,hy,rfl⟩:=List.mem_map.1 hl;exact vY y hy
 have AZ:(L.map VL.pl).length=p.ah.length:=by rw[List.length_map];exact hLl
 obtain⟨pL,iy⟩:=ou hR (iZ h.length) pl (L.map VL.pl) AZ FI;have VS:=tj p.code (au p) (iZ h.length) pl (L.map VL.pl);have hbl:(iZ h.length).length=h.length:=by unfold iZ;rw[List.length_replicate]
 refine zQ 4 ?_;have IL:=pt hH hA.sl bO 0;obtain⟨f1,f2⟩:=rP hF hH;obtain⟨y,st1,HQ,jE⟩:=vS (s0:=S2) (kd:=kd) (h:=h) (js:=js) UD (by rw[hSb];exact hA.dl) hA.hl f1 f2;have jE:=Has.over hH jE;obtain⟨f3,f4⟩:=rP hF jE;obtain⟨G9,st2,hev2,uq⟩:=wS (N:=st1.bs.length) (S:=st1) (Arg.of (jE.rows at0) rfl) hb h3 (Has.start (Nat.le_refl _) f4);have uq:=Has.over jE uq;refine zQ 6 ?_;have hH:=jE;dsimp only[u3,u4] at hH;refine EvO.hcall rfl rfl HQ (put_T rfl _) ?_;have hH:=uq;dsimp only[u3,u4] at hH;refine EvO.hcall rfl rfl hev2 (put_T rfl _) ?_;refine zQ 6 ?_;have hH:=hH.erase 1;dsimp only[List.eraseIdx_cons_succ,List.eraseIdx_cons_zero] at hH;refine zQ 6 ?_;refine EvC.cond (v:=false) (by dsimp only[Fr.ev,Fr.get,nth,V.look];rfl) (fun h=>by cases h) (fun _=>?_);refine zQ 1 ?_;have C8:=pt hH hA.sl bO 1;obtain⟨_,st2,N7,kF,ki,nW,L2,rfl,x9,hM⟩:=Gh hF hp hR (by omega) (Jf vY) hm hH
 have OE:L2.length=p.ah.length:=by
  have:=congrArg List.length x9;rw[List.length_map,List.length_map] at this;omega
 have KE:∀l∈L2,l.pl.ok p.code.length:=gh (by rw[x9];exact FI);obtain⟨pd,qd,P,Q,sn,uq,fP,cY⟩:=nG (MH.pull [_] [] (H:=[]) hM);refine zQ 6 ?_;have hH:=uq;refine EvO.hcall rfl rfl N7 (put_T rfl _) ?_;refine zQ 2 ?_;have hge:=hH.ge (j:=0) rfl;have HD:(h++([0,0,0,0]:List UInt8).drop h.length).length=4:=by simp;omega
 have N6:=Ie (st:=st2) (k:=G9) (v:=0) (h:=h) (j:=([0,0,0,0]:List UInt8).drop h.length) (hH.at (j:=0) rfl) HD (by rw[hH.ex.ro];exact Nat.le_trans hH.cZ hge.1);have I0:=hH.mg (b':=.mem 0 false (bE [] (h++([0,0,0,0]:List UInt8).drop h.length))) (aq:=0) (j:=0) rfl;dsimp only[u2,u3,u4] at I0;generalize(⟨st2.bs.set G9 (.mem 0 false (bE [] (h++([0,0,0,0]:List UInt8).drop h.length))),st2.flr,st2.ro⟩:St)=Md at*;obtain⟨_,Vh,N4,rfl,Qf,L3,x7,hM⟩:=uE (gs:=iZ h.length) cC hF hp hR (by omega) (by omega) OE KE (MH.push [_] [] (H:=[]) (vu I0 fP cY));rw[x9] at x7 hM;have OD:L3.length=p.ah.length:=by rw[←pL,←x7,List.length_map]
 have KC:∀l∈L3,l.pl.ok p.code.length:=gh (by rw[x7];exact iy);refine zQ 4 ?_;refine EvO.hcall rfl rfl N6 (put_T rfl _) ?_;refine EvO.hcall rfl rfl N4 (put_T rfl _) ?_;refine zQ 1 ?_;obtain⟨ed,LC,N8,hM⟩:=Gg hF hp hR (by omega) OD KC hM;obtain⟨pd,qd,P,Q,sn,H7,S4,Sh⟩:=nG hM;dsimp only[u3,u4] at H7;refine zQ 3 ?_;have hH:=H7;refine EvO.hcall rfl rfl N8 (put_T rfl _) ?_;refine zQ 2 ?_;have hE:(L3.map fun l=>kM p.code (ew p.code (au p) (iZ h.length) pl (L.map VL.pl)).1 l.pl)=(ew p.code (au p) (iZ h.length) pl (L.map VL.pl)).2.map (kM p.code (ew p.code (au p) (iZ h.length) pl (L.map VL.pl)).1):=by rw[←x7,List.map_map];rfl
 rw[hE] at hH;refine EvC.ret ⟨rx,_,_,_,rfl,ae (Be hH (j:=0) rfl fun l hl=>(by obtain⟨x,_,rfl⟩:=List.mem_map.1 hl;rfl)),rfl,back_eq hH hSb⟩
structure dY where
 i:Nat
 o:Nat
 g:Nat
 e:Int
 w:Int
def aF (gs:List (Nat×Nat)) (bc:D) (s:dY):List D:=[dv gs,bc,.int .i64 (s.i:Nat),.int .i64 (s.o:Nat),.int .i64 (s.g:Nat),.int .i64 s.e,.int .i64 s.w]
def jz (gs:List (Nat×Nat)) (i:Nat) (r:Int):Bool:=match gs[i]? with
 |some g=>((g.1:Nat):Int)==r
 |none=>false
theorem pC {gs:List (Nat×Nat)} {i:Nat} {r:Int} (h:jz gs i r=true):i<gs.length:=by
 unfold jz at h
 split at h
 ·exact lt_get (by assumption)
 ·cases h
def ct (gs:List (Nat×Nat)) (s:dY) (r:Int):dY:=if jz gs s.i r=true then{s with i:=s.i+1} else s
def It (gs:List (Nat×Nat)) (i:Nat):Bool:=match gs[i]? with
 |some g=>((g.1:Nat):Int)==65533 &&((g.2:Nat):Int)==1
 |none=>false
def gV (br:List Int) (s:dY) (i:Nat) (e:Int):dY:=if s.e=0 then{s with e:=e,w:=br.getD i 0} else s
theorem nK {N k:Nat} {S s0:St} {H:List aN} {gs:List (Nat×Nat)} {bc:D} {s:dY} (rE:gs.length≤1048576) (r:Int) (hH:Has N S s0 (.box k (.mem 0 false (aF gs bc s))::H)):
  ∃d ab,Ev pv 130 [.ptr k 0 0,.int .i32 r] s0 d ab∧d=.bool (jz gs s.i r)∧Has N S ab (.box k (.mem 0 false (aF gs bc s))::H):=by
 refine Ev.fX rfl K' rfl rfl rfl ?_;refine zE ?_;have bP:=hH;have hH:=hH.bT;have bO:(enterSt .rw s0).bs=s0.bs:=rfl;generalize enterSt .rw s0=S2 at*;have FM:Arg N S2 2 (dv gs) (gs.map aL):=Arg.pure (fun st=>c7 st gs);refine zQ 4 ?_
 by_cases ha:s.i<gs.length
 ·obtain⟨g,hg⟩:∃g,gs[s.i]?=some g:=⟨gs[s.i]'ha,List.getElem?_eq_getElem _⟩
  have hr1:(gs.map aL)[s.i]?=some (aL g):=by rw[List.getElem?_map,hg];rfl
  have cw:decide ((s.i:Int)<(gs.length:Nat))=true:=by rw[decide_eq_true];simp;omega
  have hv:jz gs s.i r=(((g.1:Nat):Int)==r):=by unfold jz;rw[hg]
  refine qq<|EvC.kh 4 (.bool (((g.1:Nat):Int)==r)) [] ?_ (fun ff tmp=>?_)
  ·refine zQ 8 ?_;refine qn ?_;simp only[List.length_map];refine zQ 10 ?_;refine qr (fun IF AY=>?_) (hg:=wi cw);refine qf (fo:=0) (fun IE AX=>?_) (hg:=wi cw);refine zQ 5 ?_;refine EvO.nil (aK ?_);dsimp only[setW,List.foldl,nth,u2,u1];dsimp only[Fr.putO,Fr.put,Fr.clean,Fr.ev,Fr.get,nth,look,u1,u2,v1,v2,v4]
   all_goals(first|rfl|(simp[cw];done)|(simp_all;done)|(simp[cw];omega)|(simp_all;omega))
  dsimp only[setW,List.foldl,nth,u2,u1];refine EvC.ret ⟨rx,_,_,_,rfl,ae (rfl),?_⟩;exact⟨by rw[hv];rfl,bP.ak bO hH⟩
 ·have cw:decide ((s.i:Int)<(gs.length:Nat))=false:=by rw[decide_eq_false];simp;omega
  have hv:jz gs s.i r=false:=by
   cases h:jz gs s.i r with
   |true=>exact absurd (pC h) ha
   |false=>rfl
  refine qq<|EvC.kh 4 (.bool false) [] ?_ (fun ff tmp=>?_)
  ·refine zQ 8 ?_;refine qn ?_;simp only[List.length_map];refine zQ 17 ?_;refine EvO.nil (aK ?_);dsimp only[setW,List.foldl,nth,u2,u1];dsimp only[Fr.putO,Fr.put,Fr.clean,Fr.ev,Fr.get,nth,look,u1,u2,v1,v2,v4]
   all_goals(first|rfl|(simp[cw];done)|(simp_all;done)|(simp[cw];omega)|(simp_all;omega))
  dsimp only[setW,List.foldl,nth,u2,u1];refine EvC.ret ⟨rx,_,_,_,rfl,ae (rfl),?_⟩;exact⟨by rw[hv];rfl,bP.ak bO hH⟩
theorem c9 {N k:Nat} {S s0:St} {H:List aN} {gs:List (Nat×Nat)} {bc:D} {s:dY} (rE:gs.length≤1048576) (r:Int) (hH:Has N S s0 (.box k (.mem 0 false (aF gs bc s))::H)):
  ∃d ab,Ev pv 119 [.ptr k 0 0,.int .i32 r] s0 d ab∧d=.bool (jz gs s.i r)∧Has N S ab (.box k (.mem 0 false (aF gs bc (ct gs s r)))::H):=by
 refine Ev.fX rfl Lf rfl rfl rfl ?_;refine zE ?_;have bP:=hH;have hH:=hH.bT;have bO:(enterSt .rw s0).bs=s0.bs:=rfl;generalize enterSt .rw s0=S2 at*;refine zQ 9 ?_;obtain⟨_,st,hev,rfl,hH⟩:=nK rE r hH;refine qv hev ?_;refine zQ 1 ?_;unfold ct
 cases hb:jz gs s.i r with
 |true=>
  have hlt:=pC hb;dsimp only[aF] at hH;rw[if_pos rfl];refine zQ 10 ?_;refine qT hH at0 fun st hH=>?_;dsimp only[u2,u1,u3,u4,setMany,u5,u6,D.cells,Nat.reduceAdd,aF,aL,ai] at hH;refine zQ 5 ?_;refine EvC.ret ⟨rx,_,_,_,rfl,ae (rfl),?_⟩;exact⟨rfl,bP.ak bO hH⟩
 |false=>
  rw[if_neg (by simp)];refine zQ 6 ?_;refine EvC.ret ⟨rx,_,_,_,rfl,ae (rfl),?_⟩;exact⟨rfl,bP.ak bO hH⟩
theorem yA {N k:Nat} {S s0:St} {H:List aN} {gs:List (Nat×Nat)} {bc:D} {s:dY} (i:Nat) (hi:i<gs.length) (hH:Has N S s0 (.box k (.mem 0 false (aF gs bc s))::H)):
  ∃d ab,Ev pv 154 [.ptr k 0 0,.int .i64 (i:Nat)] s0 d ab∧d=.bool (It gs i)∧Has N S ab (.box k (.mem 0 false (aF gs bc s))::H):=by
 refine Ev.fX rfl K4 rfl rfl rfl ?_;refine zE ?_;have bP:=hH;have hH:=hH.bT;have bO:(enterSt .rw s0).bs=s0.bs:=rfl;generalize enterSt .rw s0=S2 at*;have FM:Arg N S2 2 (dv gs) (gs.map aL):=Arg.pure (fun st=>c7 st gs);refine zQ 4 ?_
 obtain⟨g,hg⟩:∃g,gs[i]?=some g:=⟨gs[i]'hi,List.getElem?_eq_getElem _⟩
 have hr1:(gs.map aL)[i]?=some (aL g):=by rw[List.getElem?_map,hg];rfl
 have hv:It gs i=(((g.1:Nat):Int)==65533 &&((g.2:Nat):Int)==1):=by unfold It;rw[hg]
 refine qq<|EvC.kh 4 (.bool (((g.1:Nat):Int)==65533 &&((g.2:Nat):Int)==1)) [] ?_ (fun ff tmp=>?_)
 ·refine zQ 5 ?_;refine qr fun LH FF=>?_;refine qf (fo:=0) fun Qd J1=>?_;refine zQ 3 ?_;refine EvO.two 14 rfl (fun eS=>?_) (fun eS=>?_)
  ·refine zQ 5 ?_;refine qr (fun Jh C7=>?_) (hg:=wi eS);refine qf (fo:=1) (fun Mp Hy=>?_) (hg:=wi eS);refine zQ 4 ?_;refine EvO.nil (aK ?_);refine zG ?_
   all_goals(simp[eS];done)
  ·refine zQ 11 ?_;refine EvO.nil (aK ?_);refine zG ?_
   all_goals(simp[eS];done)
 dsimp only[setW,List.foldl,nth,u2,u1];refine EvC.ret ⟨rx,_,_,_,rfl,ae (rfl),?_⟩;exact⟨by rw[hv];rfl,bP.ak bO hH⟩
theorem cv {N k:Nat} {S s0:St} {H:List aN} {gs:List (Nat×Nat)} {bc:D} {br:List Int} {s:dY} (i:Nat) (e:Int) (hi:i<br.length) (hH:Has N S s0 (.box k (.mem 0 false (aF gs bc s))::.lst bc 1 (br.map ai)::H)):
  ∃d ab,Ev pv 95 [.ptr k 0 0,.int .i64 (i:Nat),.int .i64 e] s0 d ab∧d=.sl []∧Has N S ab (.box k (.mem 0 false (aF gs bc (gV br s i e)))::.lst bc 1 (br.map ai)::H):=by
 refine Ev.fX rfl OS rfl rfl rfl ?_;refine zE ?_;have bP:=hH;have hH:=hH.bT;have bO:(enterSt .rw s0).bs=s0.bs:=rfl;generalize enterSt .rw s0=S2 at*;refine zQ 4 ?_
 obtain⟨v,hv⟩:∃v,br[i]?=some v:=⟨br[i]'hi,List.getElem?_eq_getElem _⟩
 have hr1:=dX hv;unfold gV;refine zQ 9 ?_;refine zI (fun h0=>?_) fun h0=>?_
 ·rw[if_pos h0];have IW:br.getD i 0=v:=by rw[List.getD_eq_getElem?_getD,hv];rfl
  refine zQ 9 ?_;refine qi hH at1 fun Jh C7=>?_;refine zQ 3 ?_;refine qT hH at0 fun st hH=>?_;dsimp only[u2,u1,u3,u4,setMany,u5,u6,D.cells,Nat.reduceAdd,aF,aL,ai] at hH;refine zQ 2 ?_;refine qT hH at0 fun st hH=>?_;dsimp only[u2,u1,u3,u4,setMany,u5,u6,D.cells,Nat.reduceAdd,aF,aL,ai] at hH;refine zQ 5 ?_;refine EvC.ret ⟨rx,_,_,_,rfl,ae (rfl),?_⟩;exact⟨rfl,by rw[IW];exact bP.ak bO hH⟩
 ·rw[if_neg h0];refine zQ 5 ?_;refine EvC.ret ⟨rx,_,_,_,rfl,ae (rfl),?_⟩;exact⟨rfl,bP.ak bO hH⟩
def dK (fr:Go.V.Fr) (k:Nat):Go.V.D:=Go.V.nth .junk fr.loc k
noncomputable def jv (l:List Rg):List Rg:=@dite _ (∃a,fw l a) (Classical.propDecidable _) (fun h=>Classical.choose h) (fun _=>[])
theorem CG {l a:List Rg} (h:fw l a):jv l=a:=by
 have hx:∃a,fw l a:=⟨a,h⟩
 unfold jv;rw[dif_pos hx];exact(Classical.choose_spec hx).unique h
theorem lu {s0:St} {x:D} {l:List Rg} (hx:V.Rows s0 2 x (l.map aj)) (hl:l.length≤1048576):Ev pv 133 [x] s0 (a8 (jv l)) s0∧(jv l).length≤2*l.length∧fw l (jv l):=by
 obtain⟨_,hev,all,rfl,hperm,nM⟩:=za hx (by omega);have hM:fw l (all.foldl cM []).reverse:=po (fun x=>hperm.mem_iff) nM;have hlen:=hperm.length_eq;have kJ:=gR l;have iS:=pA all;rw[CG hM];exact⟨hev,by rw[List.length_reverse];omega,hM⟩
theorem ig (l:List Rg):SlD (a8 l) 2 (l.map aj):=by
 rw[←gm];refine SlD.frozen ?_ ?_
 ·intro e he;obtain⟨x,_,rfl⟩:=List.mem_map.1 he;rfl
 ·intro e he d hd;obtain⟨x,_,rfl⟩:=List.mem_map.1 he;simp only[aj,List.mem_cons,List.not_mem_nil,or_false] at hd
  rcases hd with rfl|rfl<;>rfl
theorem tI {r:Int} {l a:List Rg} (h0:0≤r) (h1:r<55296) (hr:ez l r) (h:fw l a):a≠[]:=by
 rintro rfl;have:=(h.2 r).2 ⟨by unfold mP;omega,hr⟩;obtain⟨x,hx,_⟩:=this;cases hx
theorem vy {r:Int} (h0:0≤r) (h1:r<55296) {a:List Rg} (h:fw [(r,r)] a):a≠[]:=by
 rintro rfl;have:=(h.2 r).2 ⟨?_,?_⟩
 ·obtain⟨x,hx,_⟩:=this;cases hx
 ·unfold mP;omega
 ·exact⟨(r,r),List.mem_cons_self ..,by simp⟩
theorem ic {s0:St} (r:Int):Ev pv 159 [.int .i32 r] s0 (a8 (jv [(r,r)])) s0:=by
 refine Ev.mk1 rfl KY rfl rfl rfl ?_;refine zE ?_;obtain⟨hSb,hF,hH⟩:=ri s0;generalize enterSt .ro s0=S at*;refine zQ 8 ?_;refine EvO.eE (qs:=[(0,_),(1,_)]) rfl rfl rfl rfl ⟨rfl,(ev rfl),(by rfl),rfl,(ev rfl),(by rfl),trivial⟩ (by intro q hq;simp only[List.mem_cons,List.not_mem_nil,or_false] at hq;rcases hq with rfl|rfl<;>exact⟨rfl,by exact Nat.le_of_ble_eq_true rfl⟩) (by show List.foldl _ [_,_] _=_;dsimp only[List.foldl_cons,List.foldl_nil,u2,u1]<;>rfl) (put_T rfl _) ?_;refine qh (s:=2) (vs:=[_]) hH fun k6 st A0 hH=>?_;obtain⟨hev,hl,_⟩:=lu (l:=[(r,r)]) (hH.rows at0) (by simp);refine qv hev ?_;refine zQ 2 ?_;refine EvC.ret ⟨rx,_,rfl,rl hSb hH (rfl)⟩
theorem Cw {s0:St} {x:D} {l:List Rg} (hx:V.Rows s0 2 x (l.map aj)) (hl:l.length≤131072):∃d,Ev pv 166 [x] s0 d s0∧∃a:List Rg,d=a8 a∧a.length≤4*l.length+2:=by
 refine Ev.CD rfl KS rfl rfl rfl ?_;refine zE ?_;obtain⟨hSb,hF,hH⟩:=ri s0;generalize enterSt .ro s0=S at*;have hx:=Arg.of hx hSb;refine zQ 12 ?_;obtain⟨hev,AZ,_⟩:=lu (hx.rows hH) (by omega);have hla:=(ig (jv l)).arg s0.bs.length S;generalize jv l=m at*;refine zQ 4 ?_;refine qv (hev) ?_;refine qn ?_;simp only[List.length_map];refine zQ 2 ?_;have hH:=hH.nulE 2;refine zQ 1 ?_;refine EvC.loop (fun mm fr st=>∃(i:Nat) (n:Int) (o:D) (out:List Rg),fr.clean=⟨11,[dK fr 0,dK fr 1,dK fr 2,o,.int .i32 n,dK fr 5,dK fr 6,dK fr 7,a8 m,.int .i64 (m.length:Nat),.int .i64 (i:Nat)],[]⟩∧Has s0.bs.length S st [.lst o 2 (out.map aj)]∧(i+mm=m.length)∧(out.length=i)) (m.length) ?_ ?_
 ·exact⟨0,0,.nul,[],rfl,hH,by omega,rfl⟩
 rintro mm fr st ⟨i,n,o,out,hfr,hH,hi,ho⟩;rw[hfr];clear hfr;generalize dK fr=ee;clear fr;refine zQ 5 ?_;refine zP (fun h1=>?_) fun h1=>?_
 ·refine zQ 1 ?_
  obtain⟨q,hq⟩:∃q,m[i]?=some q:=⟨m[i]'(by omega),List.getElem?_eq_getElem _⟩
  have hr:=e_ hq;refine zQ 4 ?_;refine qr fun Qc J0=>?_;refine EvO.cu rfl (ev rfl) (by assumption) rfl (put_T rfl _) ?_;refine qa hH fun k6 st A0 hH=>?_;refine qS hH at0 fun st hH=>?_;dsimp only[u2,u1,u3,u4,setMany,u5,u6,D.cells,Nat.reduceAdd,aj] at hH;refine zQ 7 ?_;refine EvO.ky (z:=bw .i32 (q.1-1)) rfl (ev rfl) (ev rfl) rfl (put_T rfl _) ?_;refine EvO.eE (qs:=[(0,_),(1,_)]) rfl rfl rfl rfl ⟨rfl,(ev rfl),(by rfl),rfl,(ev rfl),(by rfl),trivial⟩ (by intro q hq;simp only[List.mem_cons,List.not_mem_nil,or_false] at hq;rcases hq with rfl|rfl<;>exact⟨rfl,by exact Nat.le_of_ble_eq_true rfl⟩) (by show List.foldl _ [_,_] _=_;dsimp only[List.foldl_cons,List.foldl_nil,u2,u1]<;>rfl) (put_T rfl _) ?_;refine qh (s:=2) (vs:=[_]) hH fun k20 st NR hH=>?_;refine EvO.happend (s:=2) hH rfl (ev rfl) (ev rfl) (by exact at2) (by exact hH.rows (by exact at0)) rfl rfl rfl rfl rfl rfl rfl ⟨(Nat.le_of_ble_eq_true rfl),(Nat.le_of_ble_eq_true rfl)⟩ (fun _=>(put_T rfl _)) (by simp only[List.length_cons,List.length_nil,List.length_map]<;>omega) (by exact .inl hF) (fun U' st hH=>?_);dsimp only[u2,u1,u3,u4,setMany,u5,u6,D.cells,Nat.reduceAdd,aj] at hH;refine zQ 5 ?_;refine EvO.gI (z:=bw .i32 (q.2+1)) rfl (ev rfl) (ev rfl) rfl (put_T rfl _) ?_;refine zQ 6 ?_;exact⟨mm-1,by omega,⟨i+1,_,_,out++[(n,bw .i32 (q.1-1))],rfl,(by rw[List.map_append];exact hH.drop 2),by omega,by simp[ho]⟩⟩
 ·refine zQ 5 ?_;refine EvO.eE (qs:=[(0,_),(1,_)]) rfl rfl rfl rfl ⟨rfl,(ev rfl),(by rfl),rfl,(ev rfl),(by rfl),trivial⟩ (by intro q hq;simp only[List.mem_cons,List.not_mem_nil,or_false] at hq;rcases hq with rfl|rfl<;>exact⟨rfl,by exact Nat.le_of_ble_eq_true rfl⟩) (by show List.foldl _ [_,_] _=_;dsimp only[List.foldl_cons,List.foldl_nil,u2,u1]<;>rfl) (put_T rfl _) ?_;refine qh (s:=2) (vs:=[_]) hH fun k29 st TD hH=>?_;refine EvO.happend (s:=2) hH rfl (ev rfl) (ev rfl) (by exact at1) (by exact hH.rows (by exact at0)) rfl rfl rfl rfl rfl rfl rfl ⟨(Nat.le_of_ble_eq_true rfl),(Nat.le_of_ble_eq_true rfl)⟩ (fun _=>(put_T rfl _)) (by simp only[List.length_cons,List.length_nil,List.length_map]<;>omega) (by exact .inl hF) (fun U_ st hH=>?_);dsimp only[u2,u1,u3,u4,setMany,u5,u6,D.cells,Nat.reduceAdd,aj] at hH;obtain⟨hev,jC,_⟩:=lu (l:=out++[(n,1114111)]) (by rw[List.map_append];exact hH.rows at1) (by simp;omega);refine qv hev ?_;refine zQ 2 ?_;refine EvC.ret ⟨rx,_,_,rfl,rl hSb hH (rfl),?_⟩;exact⟨_,rfl,by simp at jC;omega⟩
theorem Ig {s0:St}:∃d,Ev pv 158 [] s0 d s0∧∃a:List Rg,d=a8 a∧a.length≤6:=by
 refine Ev.CD rfl KZ rfl rfl rfl ?_;refine zE ?_;obtain⟨hSb,hF,hH⟩:=ri s0;generalize enterSt .ro s0=S at*;refine zQ 6 ?_;refine EvO.eE (qs:=[(0,_),(1,_)]) rfl rfl rfl rfl ⟨rfl,(ev rfl),(by rfl),rfl,(ev rfl),(by rfl),trivial⟩ (by intro q hq;simp only[List.mem_cons,List.not_mem_nil,or_false] at hq;rcases hq with rfl|rfl<;>exact⟨rfl,by exact Nat.le_of_ble_eq_true rfl⟩) (by show List.foldl _ [_,_] _=_;dsimp only[List.foldl_cons,List.foldl_nil,u2,u1]<;>rfl) (put_T rfl _) ?_;refine qh (s:=2) (vs:=[_]) hH fun k2 st hk2 hH=>?_;obtain⟨_,hev,a,rfl,hl⟩:=Cw (l:=[(10,10)]) (hH.rows at0) (by simp);refine qv hev ?_;refine zQ 2 ?_;refine EvC.ret ⟨rx,_,_,rfl,rl hSb hH (rfl),?_⟩;exact⟨a,rfl,hl⟩
theorem Fh {s0:St} (r:Int):Ev pv 167 [.int .i32 r] s0 (.bool (decide (33≤r∧r≤47∨58≤r∧r≤64∨91≤r∧r≤96∨123≤r∧r≤126))) s0:=by
 refine Ev.mk1 rfl KR rfl rfl rfl ?_;refine zE ?_;obtain⟨hSb,hF,hH⟩:=ri s0;generalize enterSt .ro s0=S at*;refine zQ 5 ?_;refine EvC.kh 2 (.bool (decide (33≤r∧r≤47∨58≤r∧r≤64∨91≤r∧r≤96∨123≤r∧r≤126))) [] ?_ (fun ff tmp=>?_)
 ·refine zQ 3 ?_;refine EvO.two 5 rfl (fun bS=>?_) (fun bS=>?_)
  ·refine zQ 4 ?_;refine EvO.two 9 rfl (fun gw=>?_) (fun gw=>?_)
   ·refine zQ 24 ?_;refine EvO.nil (aK ?_);refine zG ?_
    all_goals(simp[bS,gw];done)
   ·refine zQ 3 ?_;refine EvO.two 12 rfl (fun eS=>?_) (fun eS=>?_)
    ·refine zQ 2 ?_;refine EvO.pickT (wantD_is rfl rfl rfl gw) rfl eS (put_T rfl _) ?_;refine zQ 2 ?_;refine EvO.two 17 rfl (fun eo=>?_) (fun eo=>?_)
     ·refine zQ 16 ?_;refine EvO.nil (aK ?_);refine zG ?_
      all_goals(simp[bS,gw,eS,eo];done)
     ·refine zQ 3 ?_;refine EvO.two 20 rfl (fun bA=>?_) (fun bA=>?_)
      ·refine zQ 2 ?_;refine EvO.pickT (wantD_is rfl rfl rfl eo) rfl bA (put_T rfl _) ?_;refine zQ 2 ?_;refine EvO.two 25 rfl (fun dU=>?_) (fun dU=>?_)
       ·refine zQ 8 ?_;refine EvO.nil (aK ?_);refine zG ?_
        all_goals(simp[bS,gw,eS,eo,bA,dU];done)
       ·refine zQ 3 ?_;refine EvO.two 28 rfl (fun cE=>?_) (fun cE=>?_)
        ·refine zQ 2 ?_;refine EvO.pickT (wantD_is rfl rfl rfl dU) rfl cE (put_T rfl _) ?_;refine zQ 2 ?_;refine EvO.nil (aK ?_);refine zG ?_
         all_goals(simp[bS,gw,eS,eo,bA,dU,cE];done)
        ·refine zQ 2 ?_;refine EvO.pickF (wantD_is rfl rfl rfl dU) rfl cE (put_T rfl _) ?_;refine zQ 2 ?_;refine EvO.nil (aK ?_);refine zG ?_
         all_goals(simp[bS,gw,eS,eo,bA,dU,cE];done)
      ·refine zQ 2 ?_;refine EvO.pickF (wantD_is rfl rfl rfl eo) rfl bA (put_T rfl _) ?_;refine zQ 5 ?_;refine EvO.two 28 rfl (fun cE=>?_) (fun cE=>?_)
       ·refine zQ 5 ?_;refine EvO.nil (aK ?_);refine zG ?_
        all_goals(simp[bS,gw,eS,eo,bA,cE];done)
       ·refine zQ 5 ?_;refine EvO.nil (aK ?_);refine zG ?_
        all_goals(simp[bS,gw,eS,eo,bA,cE];done)
    ·refine zQ 2 ?_;refine EvO.pickF (wantD_is rfl rfl rfl gw) rfl eS (put_T rfl _) ?_;refine zQ 5 ?_;refine EvO.two 20 rfl (fun bA=>?_) (fun bA=>?_)
     ·refine zQ 5 ?_;refine EvO.two 25 rfl (fun dU=>?_) (fun dU=>?_)
      ·refine zQ 8 ?_;refine EvO.nil (aK ?_);refine zG ?_
       all_goals(simp[bS,gw,eS,bA,dU];done)
      ·refine zQ 3 ?_;refine EvO.two 28 rfl (fun cE=>?_) (fun cE=>?_)
       ·refine zQ 2 ?_;refine EvO.pickT (wantD_is rfl rfl rfl dU) rfl cE (put_T rfl _) ?_;refine zQ 2 ?_;refine EvO.nil (aK ?_);refine zG ?_
        all_goals(simp[bS,gw,eS,bA,dU,cE];done)
       ·refine zQ 2 ?_;refine EvO.pickF (wantD_is rfl rfl rfl dU) rfl cE (put_T rfl _) ?_;refine zQ 2 ?_;refine EvO.nil (aK ?_);refine zG ?_
        all_goals(simp[bS,gw,eS,bA,dU,cE];done)
     ·refine zQ 8 ?_;refine EvO.two 28 rfl (fun cE=>?_) (fun cE=>?_)
      ·refine zQ 5 ?_;refine EvO.nil (aK ?_);refine zG ?_
       all_goals(simp[bS,gw,eS,bA,cE];done)
      ·refine zQ 5 ?_;refine EvO.nil (aK ?_);refine zG ?_
       all_goals(simp[bS,gw,eS,bA,cE];done)
  ·refine zQ 7 ?_;refine EvO.two 12 rfl (fun eS=>?_) (fun eS=>?_)
   ·refine zQ 5 ?_;refine EvO.two 17 rfl (fun eo=>?_) (fun eo=>?_)
    ·refine zQ 16 ?_;refine EvO.nil (aK ?_);refine zG ?_
     all_goals(simp[bS,eS,eo];done)
    ·refine zQ 3 ?_;refine EvO.two 20 rfl (fun bA=>?_) (fun bA=>?_)
     ·refine zQ 2 ?_;refine EvO.pickT (wantD_is rfl rfl rfl eo) rfl bA (put_T rfl _) ?_;refine zQ 2 ?_;refine EvO.two 25 rfl (fun dU=>?_) (fun dU=>?_)
      ·refine zQ 8 ?_;refine EvO.nil (aK ?_);refine zG ?_
       all_goals(simp[bS,eS,eo,bA,dU];done)
      ·refine zQ 3 ?_;refine EvO.two 28 rfl (fun cE=>?_) (fun cE=>?_)
       ·refine zQ 2 ?_;refine EvO.pickT (wantD_is rfl rfl rfl dU) rfl cE (put_T rfl _) ?_;refine zQ 2 ?_;refine EvO.nil (aK ?_);refine zG ?_
        all_goals(simp[bS,eS,eo,bA,dU,cE];done)
       ·refine zQ 2 ?_;refine EvO.pickF (wantD_is rfl rfl rfl dU) rfl cE (put_T rfl _) ?_;refine zQ 2 ?_;refine EvO.nil (aK ?_);refine zG ?_
        all_goals(simp[bS,eS,eo,bA,dU,cE];done)
     ·refine zQ 2 ?_;refine EvO.pickF (wantD_is rfl rfl rfl eo) rfl bA (put_T rfl _) ?_;refine zQ 5 ?_;refine EvO.two 28 rfl (fun cE=>?_) (fun cE=>?_)
      ·refine zQ 5 ?_;refine EvO.nil (aK ?_);refine zG ?_
       all_goals(simp[bS,eS,eo,bA,cE];done)
      ·refine zQ 5 ?_;refine EvO.nil (aK ?_);refine zG ?_
       all_goals(simp[bS,eS,eo,bA,cE];done)
   ·refine zQ 8 ?_;refine EvO.two 20 rfl (fun bA=>?_) (fun bA=>?_)
    ·refine zQ 5 ?_;refine EvO.two 25 rfl (fun dU=>?_) (fun dU=>?_)
     ·refine zQ 8 ?_;refine EvO.nil (aK ?_);refine zG ?_
      all_goals(simp[bS,eS,bA,dU];done)
     ·refine zQ 3 ?_;refine EvO.two 28 rfl (fun cE=>?_) (fun cE=>?_)
      ·refine zQ 2 ?_;refine EvO.pickT (wantD_is rfl rfl rfl dU) rfl cE (put_T rfl _) ?_;refine zQ 2 ?_;refine EvO.nil (aK ?_);refine zG ?_
       all_goals(simp[bS,eS,bA,dU,cE];done)
      ·refine zQ 2 ?_;refine EvO.pickF (wantD_is rfl rfl rfl dU) rfl cE (put_T rfl _) ?_;refine zQ 2 ?_;refine EvO.nil (aK ?_);refine zG ?_
       all_goals(simp[bS,eS,bA,dU,cE];done)
    ·refine zQ 8 ?_;refine EvO.two 28 rfl (fun cE=>?_) (fun cE=>?_)
     ·refine zQ 5 ?_;refine EvO.nil (aK ?_);refine zG ?_
      all_goals(simp[bS,eS,bA,cE];done)
     ·refine zQ 5 ?_;refine EvO.nil (aK ?_);refine zG ?_
      all_goals(simp[bS,eS,bA,cE];done)
 dsimp only[setW,List.foldl,nth,u2,u1];refine EvC.ret ⟨rx,_,rfl,rl hSb hH (rfl)⟩
theorem Fj {s0:St} (a b:List UInt8):∃d,Ev pv 161 [.str a,.str b] s0 d s0∧∃v:Bool,d=.bool v:=by
 refine Ev.CD rfl KW rfl rfl rfl ?_;refine zE ?_;obtain⟨hSb,hF,hH⟩:=ri s0;generalize enterSt .ro s0=S at*;refine zQ 5 ?_;refine EvC.kh 4 (.bool (decide ((a.length:Int)<b.length)||(((a.length:Int)==b.length) &&Op.bytesLess a b))) [] ?_ (fun ff tmp=>?_)
 ·refine qm ?_;refine EvO.slen rfl rfl rfl (put_T rfl _) ?_;refine qm ?_;refine EvO.slen rfl rfl rfl (put_T rfl _) ?_;refine zQ 2 ?_;refine EvO.two 10 rfl (fun fK=>?_) (fun fK=>?_)
  ·refine zQ 12 ?_;refine EvO.nil (aK ?_);refine zG ?_
   all_goals(simp_all;done)
  ·refine zQ 1 ?_;refine EvO.slen (wantD_is rfl rfl rfl fK) rfl rfl (put_T rfl _) ?_;refine zQ 1 ?_;refine EvO.slen (wantD_is rfl rfl rfl fK) rfl rfl (put_T rfl _) ?_;refine zQ 2 ?_;refine EvO.two 16 rfl (fun ch=>?_) (fun ch=>?_)
   ·refine zQ 3 ?_;refine EvO.pickT (wantD_is rfl rfl rfl fK) rfl ch (put_T rfl _) ?_;refine zQ 2 ?_;refine EvO.nil (aK ?_);refine zG ?_
    all_goals(simp_all;done)
   ·refine zQ 3 ?_;refine EvO.pickF (wantD_is rfl rfl rfl fK) rfl ch (put_T rfl _) ?_;refine zQ 2 ?_;refine EvO.nil (aK ?_);refine zG ?_
    all_goals(simp_all;done)
 dsimp only[setW,List.foldl,nth,u2,u1];refine EvC.ret ⟨rx,_,_,rfl,rl hSb hH (rfl),?_⟩;exact⟨_,rfl⟩
theorem kZ {s0:St} (b:List UInt8) (hb:b.length≤1048576):∃d,Ev pv 162 [.str b] s0 d s0∧∃(n:Int) (v:Bool),d=.tup [.int .i64 n,.bool v]:=by
 refine Ev.CD rfl KV rfl rfl rfl ?_;refine zE ?_;obtain⟨hSb,hF,hH⟩:=ri s0;generalize enterSt .ro s0=S at*;refine zQ 9 ?_;refine EvO.slen rfl rfl rfl (by dsimp only[Fr.put,u1,u2]<;>rfl) ?_;refine zQ 2 ?_;refine zP (fun h0=>?_) fun h0=>?_
 ·refine zQ 5 ?_;refine EvC.ret ⟨rx,_,_,rfl,rl hSb hH (rfl),?_⟩;exact⟨_,_,rfl⟩
 ·refine zQ 9 ?_;refine EvO.slen rfl rfl rfl (by dsimp only[Fr.put,u1,u2]<;>rfl) ?_;refine zQ 3 ?_;refine EvC.loop (fun mm fr st=>∃(i:Nat) (n:Int),fr.clean=⟨12,[.str b,dK fr 1,dK fr 2,dK fr 3,.int .i64 n,dK fr 5,dK fr 6,dK fr 7,dK fr 8,dK fr 9,.int .i64 (b.length:Nat),.int .i64 (i:Nat)],[]⟩∧Has s0.bs.length S st []∧(i+mm=b.length)) (b.length) ?_ ?_
  ·exact⟨0,0,rfl,hH,by omega⟩
  rintro mm fr st ⟨i,n,hfr,hH,hi⟩;rw[hfr];clear hfr;generalize dK fr=ee;clear fr;refine zQ 5 ?_;refine zP (fun h1=>?_) fun h1=>?_
  ·refine zQ 1 ?_
   obtain⟨c,hc⟩:∃c,b[i]?=some c:=⟨b[i]'(by omega),List.getElem?_eq_getElem _⟩
   refine zQ 9 ?_;refine EvO.xx (z:=bw .i64 (10*n)) rfl (ev rfl) (ev rfl) rfl (put_T rfl _) ?_;refine zQ 2 ?_;refine EvO.Mg rfl (ev rfl) (ev rfl) rfl (by assumption) (put_T rfl _) ?_;refine EvO.go (d:=.int .u8 (bw .u8 ((c.toNat:Nat)-48))) (st1:=_) rfl rfl rfl (put_T rfl _) ?_;refine qg ?_;refine EvO.gI (z:=bw .i64 (bw .i64 (10*n)+bw .i64 (bw .u8 ((c.toNat:Nat)-48)))) rfl (ev rfl) (ev rfl) rfl (put_T rfl _) ?_;refine zQ 6 ?_;exact⟨mm-1,by omega,⟨i+1,_,rfl,hH,by omega⟩⟩
  ·refine zQ 9 ?_;refine EvC.ret ⟨rx,_,_,rfl,rl hSb hH (rfl),?_⟩;exact⟨_,_,rfl⟩
theorem nC:∀gs:List (Nat×Nat),iF ((gs.map aL).map (iV 2))=some (gs.map fun g=>((g.1:Nat):Int))
 |[]=>rfl
 |g::gs=>by
  have ih:=nC gs;simp only[List.map_cons];show(match iF ((gs.map aL).map (iV 2)) with|some rs=>some (((g.1:Nat):Int)::rs)|none=>none)=_;rw[ih]
theorem wg:∀(rs:List Int) (acc:List UInt8),(digS rs acc).2≤rs.length∧(digS rs acc).1.length≤acc.length+(digS rs acc).2
 |[],acc=>by simp[digS]
 |r::rs,acc=>by
  unfold digS
  split
  ·have h:=wg rs (if 48<r∨acc≠[] then acc++[UInt8.ofNat r.toNat] else acc);simp only[List.length_cons]
   have hl:(if 48<r∨acc≠[] then acc++[UInt8.ofNat r.toNat] else acc).length≤acc.length+1:=by
    split<;>simp
   omega
  ·simp
structure jO (gs:List (Nat×Nat)) (br:List Int):Prop where
 gl:gs.length≤120
 pl:br.length=gs.length
theorem sO {N k:Nat} {S s0:St} {H:List aN} {gs:List (Nat×Nat)} {bc:D} {s:dY} (rE:gs.length≤120) (hi:s.i≤gs.length) (hne:gs≠[]) (hH:Has N S s0 (.box k (.mem 0 false (aF gs bc s))::H)):
  ∃d ab,Ev pv 160 [.ptr k 0 0] s0 d ab∧∃(t:List UInt8) (v:Bool) (m:Nat),d=.tup [.str t,.bool v]∧t.length≤120∧s.i+m≤gs.length∧Has N S ab (.box k (.mem 0 false (aF gs bc {s with i:=s.i+m}))::H):=by
 have hb:=hH.at at0;have hw:=fH (cs:=[.int .i64 0]) hH (hH.ge at0).1 (.inr rfl);have hl:=wg ((gs.map fun g=>((g.1:Nat):Int)).drop s.i) [];obtain⟨h1,h2⟩:=hl;simp only[List.length_drop,List.length_map,List.length_nil] at h1 h2;refine⟨_,_,Ev.prim rfl ?_,(digS ((gs.map fun g=>((g.1:Nat):Int)).drop s.i) []).1,decide (0<(digS ((gs.map fun g=>((g.1:Nat):Int)).drop s.i) []).2),(digS ((gs.map fun g=>((g.1:Nat):Int)).drop s.i) []).2,rfl,by omega,by omega,hH.mg (aq:=0) at0⟩
 have hd:decide ((gs.map fun g=>((g.1:Nat):Int))≠[]∧(0:Int)≤(s.i:Nat)∧((s.i:Nat):Int).toNat≤(gs.map fun g=>((g.1:Nat):Int)).length∧(gs.map fun g=>((g.1:Nat):Int)).length<1099511627776)=true:=by
  rw[decide_eq_true];refine⟨by simpa using hne,by omega,by simp;omega,by simp;omega⟩
 show Bi [.ptr k 0 0] s0=_;simp only[Bi,St.mem_of hb];show(match iF ((gs.map aL).map (iV 2)) with|some rs=>F1 s0 k 0 0 rs (s.i:Nat)|none=>none)=_;rw[nC];simp only[F1,hd];have hwr:=kr (cs:=[.int .i64 ((s.i+(digS ((gs.map fun g=>((g.1:Nat):Int)).drop s.i) []).2:Nat))]) (off:=2) hb (by show 2+1≤7;omega) hw;simp only[Int.toNat_natCast,Nat.zero_add];rw[hwr]
 rfl
def D_ (gs:List (Nat×Nat)) (s s':dY) (d1:D) (b:Bool):Prop:=
 s'.o=s.o∧s'.g=s.g∧s.i≤s'.i∧s'.i≤gs.length∧(d1=.nul∨∃a,d1=a8 a∧a.length≤8)∧(s'.e≠0∨s'.e=0∧s.i<s'.i∧∃a,d1=a8 a∧a.length≤8∧a≠[])
theorem cH {br:List Int} {s:dY} {i:Nat} {e:Int} (he:s.e=0) (h:e≠0):(gV br s i e).e≠0∧(gV br s i e).i=s.i∧(gV br s i e).o=s.o∧(gV br s i e).g=s.g:=by
 unfold gV;rw[if_pos he];exact⟨h,rfl,rfl,rfl⟩
theorem yT {N k:Nat} {S s0:St} {H:List aN} {gs:List (Nat×Nat)} {bc:D} {br:List Int} {s:dY} (hok:jO gs br) (he:s.e=0) (hi:s.i<gs.length) (hH:Has N S s0 (.box k (.mem 0 false (aF gs bc s))::.lst bc 1 (br.map ai)::H)):
  ∃d ab,Ev pv 157 [.ptr k 0 0] s0 d ab∧∃(d1:D) (b:Bool) (s':dY),d=.tup [d1,.bool b]∧D_ gs s s' d1 b∧Has N S ab (.box k (.mem 0 false (aF gs bc s'))::.lst bc 1 (br.map ai)::H):=by
 have rE:=hok.gl;have hpl:=hok.pl;refine Ev.fX rfl K1 rfl rfl rfl ?_;refine zE ?_;have bP:=hH;have hH:=hH.bT;have bO:(enterSt .rw s0).bs=s0.bs:=rfl;generalize enterSt .rw s0=S2 at*;have FM:Arg N S2 2 (dv gs) (gs.map aL):=Arg.pure (fun st=>c7 st gs);refine zQ 22 ?_;refine qT hH at0 fun st hH=>?_;dsimp only[u2,u1,u3,u4,setMany,u5,u6,D.cells,Nat.reduceAdd,aF,aL,ai,aj] at hH;refine zQ 12 ?_;refine qn ?_;simp only[List.length_map];refine zQ 2 ?_;refine zP (fun h0=>?_) fun h0=>?_
 ·refine zQ 4 ?_;obtain⟨_,st,hev,rfl,hH⟩:=cv (s:={s with i:=s.i+1}) s.i 4 (by omega) hH;refine qv hev ?_;refine zQ 6 ?_;obtain⟨h1,h2,h3,h4⟩:=cH (br:=br) (s:={s with i:=s.i+1}) (i:=s.i) (e:=4) he (by decide);refine EvC.ret ⟨rx,_,_,_,rfl,ae (rfl),?_⟩;exact⟨_,_,_,rfl,⟨h3,h4,by rw[h2];simp,by rw[h2];exact hi,.inl rfl,.inl h1⟩,bP.ak bO hH⟩
 ·obtain⟨g,hg⟩:∃g,gs[s.i+1]?=some g:=⟨gs[s.i+1]'(by omega),List.getElem?_eq_getElem _⟩
  have hr1:(gs.map aL)[s.i+1]?=some (aL g):=by rw[List.getElem?_map,hg];rfl
  have hlt:=lt_get hg;refine zQ 9 ?_;obtain⟨_,st,hev,rfl,hH⟩:=yA (s:={s with i:=s.i+1}) (s.i+1) hlt hH;refine qv hev ?_;refine zQ 1 ?_;dsimp only[aF] at hH;refine qc (fun hb=>?_) (fun hb=>?_)<;>try simp only[cs] at hb
  ·refine zQ 7 ?_;obtain⟨_,st,hev,rfl,hH⟩:=cv (s:={s with i:=s.i+1}) (s.i+1) 4 (by omega) hH;refine qv hev ?_;refine zQ 6 ?_;obtain⟨h1,h2,h3,h4⟩:=cH (br:=br) (s:={s with i:=s.i+1}) (i:=s.i+1) (e:=4) he (by decide);refine EvC.ret ⟨rx,_,_,_,rfl,ae (rfl),?_⟩;exact⟨_,_,_,rfl,⟨h3,h4,by rw[h2];simp,by rw[h2];exact hi,.inl rfl,.inl h1⟩,bP.ak bO hH⟩
  ·refine zQ 11 ?_;refine qr fun Ml Hu=>?_;refine qf (fo:=0) fun Rz Nk=>?_;refine zQ 12 ?_;refine qT hH at0 fun st hH=>?_;dsimp only[u2,u1,u3,u4,setMany,u5,u6,D.cells,Nat.reduceAdd,aF,aL,ai,aj] at hH;refine zQ 6 ?_
   have fp:∀(a:List Rg) (b:Bool),a.length≤8→a≠[]→D_ gs s {s with i:=s.i+1+1} (a8 a) b:=fun a b h1 h2=>⟨rfl,rfl,by show s.i≤s.i+1+1;omega,by show s.i+1+1≤_;omega,.inr ⟨a,rfl,h1⟩,.inr ⟨he,by show s.i<s.i+1+1;omega,a,rfl,h1,h2⟩⟩
   have iP:∀(r:Int),0≤r→r<55296→(jv [(r,r)]).length≤8∧jv [(r,r)]≠[]:=by
    intro r h1 h2;obtain⟨_,h3,h4⟩:=lu (s0:=s0) (x:=a8 [(r,r)]) (l:=[(r,r)]) (eD _ _) (by simp);exact⟨by simp at h3;omega,vy h1 h2 h4⟩
   refine zQ 6 ?_;refine zI (fun q1=>?_) fun q1=>?_
   ·refine zQ 2 ?_;refine qv (ic 10) ?_;refine zQ 3 ?_;refine EvC.ret ⟨rx,_,_,_,rfl,ae (rfl),?_⟩;exact⟨_,_,_,rfl,fp _ _ (iP 10 (by decide) (by decide)).1 (iP 10 (by decide) (by decide)).2,bP.ak bO hH⟩
   ·refine zQ 5 ?_;refine zI (fun q2=>?_) fun q2=>?_
    ·refine zQ 2 ?_;refine qv (ic 9) ?_;refine zQ 3 ?_;refine EvC.ret ⟨rx,_,_,_,rfl,ae (rfl),?_⟩;exact⟨_,_,_,rfl,fp _ _ (iP 9 (by decide) (by decide)).1 (iP 9 (by decide) (by decide)).2,bP.ak bO hH⟩
    ·refine zQ 5 ?_;refine zI (fun q3=>?_) fun q3=>?_
     ·refine zQ 2 ?_;refine qv (ic 13) ?_;refine zQ 3 ?_;refine EvC.ret ⟨rx,_,_,_,rfl,ae (rfl),?_⟩;exact⟨_,_,_,rfl,fp _ _ (iP 13 (by decide) (by decide)).1 (iP 13 (by decide) (by decide)).2,bP.ak bO hH⟩
     ·refine zQ 5 ?_;refine zI (fun q4=>?_) fun q4=>?_
      ·refine zQ 2 ?_;refine EvO.eE (qs:=[(0,_),(1,_)]) rfl rfl rfl rfl ⟨rfl,(ev rfl),(by rfl),rfl,(ev rfl),(by rfl),trivial⟩ (by intro q hq;simp only[List.mem_cons,List.not_mem_nil,or_false] at hq;rcases hq with rfl|rfl<;>exact⟨rfl,by exact Nat.le_of_ble_eq_true rfl⟩) (by show List.foldl _ [_,_] _=_;dsimp only[List.foldl_cons,List.foldl_nil,u2,u1]<;>rfl) (put_T rfl _) ?_;refine qh (s:=2) (vs:=[_]) hH fun k73 st To hH=>?_;obtain⟨hev,hl,En⟩:=lu (l:=[(48,57)]) (hH.rows at0) (by simp);refine qv hev ?_;refine zQ 3 ?_;refine EvC.ret ⟨rx,_,_,_,rfl,ae (rfl),?_⟩;exact⟨_,_,_,rfl,fp _ _ (by simp at hl;omega) (tI (r:=48) (by decide) (by decide) ⟨_,List.mem_cons_self ..,by decide,by decide⟩ En),bP.ak bO (hH.drop 1)⟩
      ·refine zQ 5 ?_;refine zI (fun q5=>?_) fun q5=>?_
       ·refine zQ 2 ?_;refine EvO.eE (qs:=[(0,_),(1,_)]) rfl rfl rfl rfl ⟨rfl,(ev rfl),(by rfl),rfl,(ev rfl),(by rfl),trivial⟩ (by intro q hq;simp only[List.mem_cons,List.not_mem_nil,or_false] at hq;rcases hq with rfl|rfl<;>exact⟨rfl,by exact Nat.le_of_ble_eq_true rfl⟩) (by show List.foldl _ [_,_] _=_;dsimp only[List.foldl_cons,List.foldl_nil,u2,u1]<;>rfl) (put_T rfl _) ?_;refine EvO.eE (qs:=[(0,_),(1,_)]) rfl rfl rfl rfl ⟨rfl,(ev rfl),(by rfl),rfl,(ev rfl),(by rfl),trivial⟩ (by intro q hq;simp only[List.mem_cons,List.not_mem_nil,or_false] at hq;rcases hq with rfl|rfl<;>exact⟨rfl,by exact Nat.le_of_ble_eq_true rfl⟩) (by show List.foldl _ [_,_] _=_;dsimp only[List.foldl_cons,List.foldl_nil,u2,u1]<;>rfl) (put_T rfl _) ?_;refine EvO.eE (qs:=[(0,_),(1,_)]) rfl rfl rfl rfl ⟨rfl,(ev rfl),(by rfl),rfl,(ev rfl),(by rfl),trivial⟩ (by intro q hq;simp only[List.mem_cons,List.not_mem_nil,or_false] at hq;rcases hq with rfl|rfl<;>exact⟨rfl,by exact Nat.le_of_ble_eq_true rfl⟩) (by show List.foldl _ [_,_] _=_;dsimp only[List.foldl_cons,List.foldl_nil,u2,u1]<;>rfl) (put_T rfl _) ?_;refine qh (s:=2) (vs:=[_,_,_]) hH fun k80 st NM hH=>?_;obtain⟨hev,hl,En⟩:=lu (l:=[(9,10),(13,13),(32,32)]) (hH.rows at0) (by simp);refine qv hev ?_;refine zQ 3 ?_;refine EvC.ret ⟨rx,_,_,_,rfl,ae (rfl),?_⟩;exact⟨_,_,_,rfl,fp _ _ (by simp at hl;omega) (tI (r:=9) (by decide) (by decide) ⟨_,List.mem_cons_self ..,by decide,by decide⟩ En),bP.ak bO (hH.drop 1)⟩
       ·refine zQ 5 ?_;refine zI (fun q6=>?_) fun q6=>?_
        ·refine zQ 2 ?_;refine EvO.eE (qs:=[(0,_),(1,_)]) rfl rfl rfl rfl ⟨rfl,(ev rfl),(by rfl),rfl,(ev rfl),(by rfl),trivial⟩ (by intro q hq;simp only[List.mem_cons,List.not_mem_nil,or_false] at hq;rcases hq with rfl|rfl<;>exact⟨rfl,by exact Nat.le_of_ble_eq_true rfl⟩) (by show List.foldl _ [_,_] _=_;dsimp only[List.foldl_cons,List.foldl_nil,u2,u1]<;>rfl) (put_T rfl _) ?_;refine EvO.eE (qs:=[(0,_),(1,_)]) rfl rfl rfl rfl ⟨rfl,(ev rfl),(by rfl),rfl,(ev rfl),(by rfl),trivial⟩ (by intro q hq;simp only[List.mem_cons,List.not_mem_nil,or_false] at hq;rcases hq with rfl|rfl<;>exact⟨rfl,by exact Nat.le_of_ble_eq_true rfl⟩) (by show List.foldl _ [_,_] _=_;dsimp only[List.foldl_cons,List.foldl_nil,u2,u1]<;>rfl) (put_T rfl _) ?_;refine EvO.eE (qs:=[(0,_),(1,_)]) rfl rfl rfl rfl ⟨rfl,(ev rfl),(by rfl),rfl,(ev rfl),(by rfl),trivial⟩ (by intro q hq;simp only[List.mem_cons,List.not_mem_nil,or_false] at hq;rcases hq with rfl|rfl<;>exact⟨rfl,by exact Nat.le_of_ble_eq_true rfl⟩) (by show List.foldl _ [_,_] _=_;dsimp only[List.foldl_cons,List.foldl_nil,u2,u1]<;>rfl) (put_T rfl _) ?_;refine EvO.eE (qs:=[(0,_),(1,_)]) rfl rfl rfl rfl ⟨rfl,(ev rfl),(by rfl),rfl,(ev rfl),(by rfl),trivial⟩ (by intro q hq;simp only[List.mem_cons,List.not_mem_nil,or_false] at hq;rcases hq with rfl|rfl<;>exact⟨rfl,by exact Nat.le_of_ble_eq_true rfl⟩) (by show List.foldl _ [_,_] _=_;dsimp only[List.foldl_cons,List.foldl_nil,u2,u1]<;>rfl) (put_T rfl _) ?_;refine qh (s:=2) (vs:=[_,_,_,_]) hH fun k88 st J_ hH=>?_;obtain⟨hev,hl,En⟩:=lu (l:=[(48,57),(65,90),(95,95),(97,122)]) (hH.rows at0) (by simp);refine qv hev ?_;refine zQ 3 ?_;refine EvC.ret ⟨rx,_,_,_,rfl,ae (rfl),?_⟩;exact⟨_,_,_,rfl,fp _ _ (by simp at hl;omega) (tI (r:=48) (by decide) (by decide) ⟨_,List.mem_cons_self ..,by decide,by decide⟩ En),bP.ak bO (hH.drop 1)⟩
        ·refine zQ 5 ?_;refine qv (Fh _) ?_;refine zQ 2 ?_;refine EvC.cond (by rfl) (fun q7=>?_) (fun q7=>?_)<;>try simp only[decide_eq_true_eq,decide_eq_false_iff_not,Bool.not_eq_true',Bool.not_eq_false'] at q7
         ·refine zQ 4 ?_;obtain⟨_,st,hev,rfl,hH⟩:=cv (s:={s with i:=s.i+1+1}) s.i 4 (by omega) hH;refine qv hev ?_;refine zQ 6 ?_;obtain⟨h1,h2,h3,h4⟩:=cH (br:=br) (s:={s with i:=s.i+1+1}) (i:=s.i) (e:=4) he (by decide);refine EvC.ret ⟨rx,_,_,_,rfl,ae (rfl),?_⟩;exact⟨_,_,_,rfl,⟨h3,h4,by rw[h2];show s.i≤s.i+1+1;omega,by rw[h2];show s.i+1+1≤_;omega,.inl rfl,.inl h1⟩,bP.ak bO hH⟩
         ·refine zQ 4 ?_;refine qv (ic _) ?_;refine zQ 3 ?_;have hm:=iP ((g.1:Nat):Int) (by omega) (by omega);refine EvC.ret ⟨rx,_,_,_,rfl,ae (rfl),?_⟩;exact⟨_,_,_,rfl,fp _ _ hm.1 hm.2,bP.ak bO hH⟩
structure Nod where
 op:Int
 rd:D
 rs:List Rg
 mn:Int
 mx:Int
 lz:Bool
 cap:Int
 kids:Int
def aQ (n:Nod):List D:=[.int .i64 n.op,n.rd,.int .i64 n.mn,.int .i64 n.mx,.bool n.lz,.int .i64 n.cap,.int .i64 n.kids]
def Nod.ok (n:Nod):Prop:=SlD n.rd 2 (n.rs.map aj)∧n.rs.length≤1048576∧n.kids≤9223372036854775807
structure Nl where
 d:D
 l:List Nod
structure Nl.ok (x:Nl):Prop where
 c:SlD x.d 7 (x.l.map aQ)
 i:∀n∈x.l,n.ok
 nl:x.l.length≤1048576
theorem j6 {l:List Nod} {i:Nat} {q:Nod} (h:l[i]?=some q):(l.map aQ)[i]?=some (aQ q):=by rw[List.getElem?_map,h];rfl
mutual
inductive Tr where
 |mk (n:Nod) (ks:a7)
inductive a7 where
 |nil
 |cons (t:Tr) (ts:a7)
end
def a7.len:a7→Nat
 | .nil=>0
 | .cons _ ts=>ts.len+1
mutual
def Tr.flat:Tr→List Nod
 | .mk n ks=>n::ks.flat
def a7.flat:a7→List Nod
 | .nil=>[]
 | .cons t ts=>t.flat++ts.flat
end
def vl (n:Nod) (nk:Nat):Prop:=
 n.kids=(nk:Int)∧(((n.op=1∨n.op=7∨n.op=8)∧nk=0)∨(n.op=2∧nk=0)∨((n.op=3∨n.op=4)∧2≤nk)∨
  (n.op=5∧nk=1∧0≤n.mn∧n.mn≤30∧(n.mx=-1∨(n.mn≤n.mx∧n.mx≤30)))∨(n.op=6∧nk=1∧1≤n.cap∧n.cap≤4))
mutual
def Tr.ok:Tr→Prop
 | .mk n ks=>vl n ks.len∧ks.ok
def a7.ok:a7→Prop
 | .nil=>True
 | .cons t ts=>t.ok∧ts.ok
end
def ba (n:Nod) (s k:Nat):Nat:=
 if n.op=2∨n.op=7∨n.op=8 then 1
 else if n.op=4 then s+2*(k-1)
 else if n.op=6 then s+2
 else if n.op=5 then(if n.mx=-1 then n.mn.toNat*s+s+2 else n.mn.toNat*s+(n.mx.toNat-n.mn.toNat)*(s+1))
 else s
mutual
def Tr.sz:Tr→Nat
 | .mk n ks=>ba n ks.sz ks.len
def a7.sz:a7→Nat
 | .nil=>0
 | .cons t ts=>t.sz+ts.sz
end
def cq (op x y:Int) (rs:List Rg):aA:=⟨op,x,y,.sl ((rs.map aj).map (iV 2)),rs⟩
def mf (s o:Nat) (lz:Bool):aA:=if lz=true then cq 2 (o:Nat) ((s+1:Nat):Int) [] else cq 2 ((s+1:Nat):Int) (o:Nat) []
def lE (e:Nat):aA:=cq 3 (e:Nat) 0 []
def ef (c:Nat→List aA) (z:Nat):Nat→Nat→List aA
 |0,_=>[]
 |k+1,b=>c b++ef c z k (b+z)
def dR (sp:Nat→aA) (c:Nat→List aA) (z:Nat):Nat→Nat→List aA
 |0,_=>[]
 |k+1,b=>sp b::(c (b+1)++dR sp c z k (b+1+z))
def vc (z:Nat):Nat→Nat→List Nat
 |0,_=>[]
 |k+1,b=>b::vc z k (b+1+z)
def mw (n:Nod) (c:Nat→List aA) (z b:Nat):List aA:=
 if n.mx=-1 then ef c z n.mn.toNat b++(mf (b+n.mn.toNat*z) (b+n.mn.toNat*z+z+2) n.lz::(c (b+n.mn.toNat*z+1)++[lE (b+n.mn.toNat*z)]))
 else ef c z n.mn.toNat b++dR (fun s=>mf s (b+n.mn.toNat*z+(n.mx.toNat-n.mn.toNat)*(z+1)) n.lz) c z (n.mx.toNat-n.mn.toNat) (b+n.mn.toNat*z)
mutual
def aE:Tr→Nat→List aA
 | .mk n ks,b=>
  if n.op=2 then[cq 1 0 0 n.rs]
  else if n.op=7 then[cq 5 0 0 []]
  else if n.op=8 then[cq 6 0 0 []]
  else if n.op=3 then eN ks b
  else if n.op=4 then dD (lE (b+ba n ks.sz ks.len)) ks b
  else if n.op=5 then mw n (eN ks) ks.sz b
  else if n.op=6 then cq 4 (2*n.cap) 0 []::(eN ks (b+1)++[cq 4 (2*n.cap+1) 0 []])
  else[]
def eN:a7→Nat→List aA
 | .nil,_=>[]
 | .cons t ts,b=>aE t b++eN ts (b+t.sz)
def dD (jp:aA):a7→Nat→List aA
 | .nil,_=>[]
 | .cons t ts,b=>if ts.len=0 then aE t b else mf b (b+1+t.sz+1) false::(aE t (b+1)++jp::dD jp ts (b+t.sz+2))
end
def q_:a7→Nat→List Nat
 | .nil,_=>[]
 | .cons t ts,b=>if ts.len=0 then[] else(b+1+t.sz)::q_ ts (b+t.sz+2)
theorem ie {c:Nat→List aA} {z:Nat} (hc:∀b,(c b).length=z):∀k b,(ef c z k b).length=k*z
 |0,b=>by simp[ef]
 |k+1,b=>by rw[ef,List.length_append,hc,ie hc k,Nat.add_mul];omega
theorem o7 {sp:Nat→aA} {c:Nat→List aA} {z:Nat} (hc:∀b,(c b).length=z):∀k b,(dR sp c z k b).length=k*(z+1)
 |0,b=>by simp[dR]
 |k+1,b=>by rw[dR,List.length_cons,List.length_append,hc,o7 hc k,Nat.add_mul];omega
theorem B6 {n:Nod} {c:Nat→List aA} {z b:Nat} (hc:∀b,(c b).length=z) (h:n.op=5):(mw n c z b).length=ba n z 1:=by
 unfold mw ba;rw[if_neg (show¬(n.op=2∨n.op=7∨n.op=8) by omega),if_neg (show¬n.op=4 by omega),if_neg (show¬n.op=6 by omega),if_pos h]
 split
 ·rw[List.length_append,ie hc,List.length_cons,List.length_append,hc];simp only[List.length_cons,List.length_nil];omega
 ·rw[List.length_append,ie hc,o7 hc]
theorem a7.zc {ks:a7} (h:ks.len=1):∃t,ks=.cons t .nil:=by
 cases ks with
 |nil=>simp[a7.len] at h
 |cons t ts=>cases ts with
  |nil=>exact⟨t,rfl⟩
  |cons u us=>simp[a7.len] at h
theorem a7.len_nil {ks:a7} (h:ks.len=0):ks=.nil:=by
 cases ks with
 |nil=>rfl
 |cons t ts=>simp[a7.len] at h
mutual
theorem bN:∀(t:Tr) (b:Nat),t.ok→(aE t b).length=t.sz
 | .mk n ks,b,h=>by
  simp only[Tr.ok] at h;obtain⟨h1,h2⟩:=h;have hc:=fun b=>lW ks b h2;have ha:=fun jp b=>qZ jp ks b h2;simp only[aE,Tr.sz];obtain⟨_,⟨h3,h4⟩|⟨h3,h4⟩|⟨h3,h4⟩|⟨h3,h4,h5⟩|⟨h3,h4,h5⟩⟩:=h1
  ·have hk:=a7.len_nil h4;subst hk
   by_cases q7:n.op=7
   ·simp[q7,ba]
   ·by_cases q8:n.op=8
    ·simp[q8,ba]
    ·have q1:n.op=1:=by omega
     simp[q1,ba,a7.sz]
  ·simp[h3,ba]
  ·rcases h3 with h3|h3
   ·simp[h3,ba,hc]
   ·simp[h3,ba,ha]
  ·have:=B6 (n:=n) (b:=b) hc h3;simp only[h3] at this⊢;simp only[show¬((5:Int)=2) by decide,show¬((5:Int)=7) by decide,show¬((5:Int)=8) by decide,show¬((5:Int)=3) by decide,show¬((5:Int)=4) by decide,if_false,if_true];rw[this,h4]
  ·simp[h3,ba,hc]
theorem lW:∀(ts:a7) (b:Nat),ts.ok→(eN ts b).length=ts.sz
 | .nil,b,_=>by simp[eN,a7.sz]
 | .cons t ts,b,h=>by
  simp only[a7.ok] at h;simp only[eN,a7.sz,List.length_append];rw[bN t b h.1,lW ts _ h.2]
theorem qZ (jp:aA):∀(ts:a7) (b:Nat),ts.ok→(dD jp ts b).length=ts.sz+2*(ts.len-1)
 | .nil,b,_=>by simp[dD,a7.sz,a7.len]
 | .cons t ts,b,h=>by
  simp only[a7.ok] at h;have h1:=qZ jp ts (b+t.sz+2) h.2;simp only[dD,a7.sz,a7.len]
  by_cases q:ts.len=0
  ·rw[if_pos q,bN t b h.1,q];have:=a7.len_nil q;subst this;simp[a7.sz]
  ·rw[if_neg q,List.length_cons,List.length_append,List.length_cons,bN t _ h.1,h1];omega
end
def gk (f:Nat→aA) (c:List aA) (l:List Nat):List aA:=l.foldl (fun c j=>c.set j (f j)) c
theorem oq {α:Type} (pre post:List α) (x y:α):(pre++x::post).set pre.length y=pre++y::post:=by
 rw[List.set_append_right _ _ (Nat.le_refl _),Nat.sub_self];rfl
theorem oA {α:Type} (pre post:List α) (x:α):(pre++x::post)[pre.length]?=some x:=by
 rw[List.getElem?_append_right (Nat.le_refl _),Nat.sub_self];rfl
theorem mC {sp:Nat→aA} {c:Nat→List aA} {z:Nat} (hc:∀b,(c b).length=z) {i0:aA}:∀(k b:Nat) (pre post:List aA),pre.length=b→gk sp (pre++dR (fun _=>i0) c z k b++post) (vc z k b)=pre++dR sp c z k b++post∧∀j∈vc z k b,(pre++dR (fun _=>i0) c z k b++post)[j]?=some i0
 |0,b,pre,post,_=>⟨rfl,fun j hj=>by cases hj⟩
 |k+1,b,pre,post,h=>by
  have ih:=mC (sp:=sp) hc (i0:=i0) k (b+1+z) (pre++i0::c (b+1)) post (by rw[List.length_append,List.length_cons,hc];omega);have zf:=mC (sp:=sp) hc (i0:=i0) k (b+1+z) (pre++sp b::c (b+1)) post (by rw[List.length_append,List.length_cons,hc];omega);simp only[dR,vc];have e:pre++i0::(c (b+1)++dR (fun _=>i0) c z k (b+1+z))++post=pre++i0::(c (b+1)++dR (fun _=>i0) c z k (b+1+z)++post):=by simp
  have e2:pre++i0::c (b+1)++dR (fun _=>i0) c z k (b+1+z)++post=pre++i0::(c (b+1)++dR (fun _=>i0) c z k (b+1+z)++post):=by simp
  refine⟨?_,fun j hj=>?_⟩
  ·unfold gk at zf⊢;rw[List.foldl_cons,e]
   have hs:(pre++i0::(c (b+1)++dR (fun _=>i0) c z k (b+1+z)++post)).set b (sp b)=pre++sp b::c (b+1)++dR (fun _=>i0) c z k (b+1+z)++post:=by
    rw[←h,oq];simp
   rw[hs,zf.1];simp
  ·rw[e]
   rcases List.mem_cons.1 hj with rfl|hj
   ·rw[←h];exact oA _ _ _
   ·rw[←e2];exact ih.2 j hj
theorem nf {jp i0:aA}:∀(ts:a7) (b:Nat) (pre post:List aA),ts.ok→pre.length=b→gk (fun _=>jp) (pre++dD i0 ts b++post) (q_ ts b)=pre++dD jp ts b++post∧∀j∈q_ ts b,(pre++dD i0 ts b++post)[j]?=some i0
 | .nil,b,pre,post,_,_=>⟨by simp[dD,q_,gk],fun j hj=>by simp[q_] at hj⟩
 | .cons t ts,b,pre,post,hok,h=>by
  simp only[a7.ok] at hok
  by_cases q:ts.len=0
  ·simp only[dD,q_,if_pos q];exact⟨rfl,fun j hj=>by cases hj⟩
  ·simp only[dD,q_,if_neg q];generalize mf b (b+1+t.sz+1) false=sp;have hcl:=bN t (b+1) hok.1;have ih:=nf (jp:=jp) (i0:=i0) ts (b+t.sz+2) (pre++sp::(aE t (b+1)++[i0])) post hok.2 (by simp only[List.length_append,List.length_cons,List.length_nil,hcl];omega);have zf:=nf (jp:=jp) (i0:=i0) ts (b+t.sz+2) (pre++sp::(aE t (b+1)++[jp])) post hok.2 (by simp only[List.length_append,List.length_cons,List.length_nil,hcl];omega);generalize dD i0 ts (b+t.sz+2)=A at*;have e:pre++sp::(aE t (b+1)++i0::A)++post=(pre++sp::aE t (b+1))++i0::(A++post):=by simp
   have hl:(pre++sp::aE t (b+1)).length=b+1+t.sz:=by simp only[List.length_append,List.length_cons,hcl];omega
   refine⟨?_,fun j hj=>?_⟩
   ·unfold gk at zf⊢;rw[List.foldl_cons,e,←hl,oq];have:=zf.1;simp only[List.append_assoc,List.cons_append,List.nil_append] at this⊢;exact this
   ·rw[e]
    rcases List.mem_cons.1 hj with rfl|hj
    ·rw[←hl];exact oA _ _ _
    ·have:=ih.2 j hj;simp only[List.append_assoc,List.cons_append,List.nil_append] at this⊢;exact this
def eB {α:Type} (L:List α) (at_:Nat) (M:List α):Prop:=∃post,L.drop at_=M++post
theorem eB.head {α:Type} {L M:List α} {a:α} {at_:Nat} (h:eB L at_ (a::M)):L[at_]?=some a:=by
 obtain⟨post,h⟩:=h;have:=congrArg (·[0]?) h
 simpa using this
theorem eB.tail {α:Type} {L M:List α} {a:α} {at_:Nat} (h:eB L at_ (a::M)):eB L (at_+1) M:=by
 obtain⟨post,h⟩:=h;refine⟨post,?_⟩;rw[←List.drop_drop,h];rfl
theorem eB.left {α:Type} {L M M':List α} {at_:Nat} (h:eB L at_ (M++M')):eB L at_ M:=by
 obtain⟨post,h⟩:=h;exact⟨M'++post,by rw[h,List.append_assoc]⟩
theorem eB.right {α:Type} {L M M':List α} {at_:Nat} (h:eB L at_ (M++M')):eB L (at_+M.length) M':=by
 obtain⟨post,h⟩:=h;refine⟨post,?_⟩;rw[←List.drop_drop,h,List.append_assoc,List.drop_left]
theorem eB.le {α:Type} {L M:List α} {at_:Nat} (h:eB L at_ M) (hM:M≠[]):at_+M.length≤L.length:=by
 obtain⟨post,h⟩:=h;have:=congrArg List.length h;simp only[List.length_drop,List.length_append] at this
 have:0<M.length:=by cases M with|nil=>exact absurd rfl hM|cons _ _=>simp
 omega
theorem eB.all {α:Type} (L:List α):eB L 0 L:=⟨[],by simp⟩
mutual
def Tr.zs:Tr→List Int
 | .mk n ks=>((min (ba n ks.sz ks.len) 401:Nat):Int)::ks.zs
def a7.zs:a7→List Int
 | .nil=>[]
 | .cons t ts=>t.zs++ts.zs
end
mutual
def Tr.es:Tr→Nat→List Int
 | .mk n ks,at_=>((at_+1+ks.flat.length:Nat):Int)::ks.es (at_+1)
def a7.es:a7→Nat→List Int
 | .nil,_=>[]
 | .cons t ts,at_=>t.es at_++ts.es (at_+t.flat.length)
end
mutual
theorem Tr.gU:∀t:Tr,t.zs.length=t.flat.length
 | .mk n ks=>by simp[Tr.zs,Tr.flat,a7.gU ks]
theorem a7.gU:∀ts:a7,ts.zs.length=ts.flat.length
 | .nil=>rfl
 | .cons t ts=>by simp[a7.zs,a7.flat,Tr.gU t,a7.gU ts]
end
mutual
theorem Tr.g_:∀(t:Tr) (a:Nat),(t.es a).length=t.flat.length
 | .mk n ks,a=>by simp[Tr.es,Tr.flat,a7.g_ ks]
theorem a7.g_:∀(ts:a7) (a:Nat),(ts.es a).length=ts.flat.length
 | .nil,_=>rfl
 | .cons t ts,a=>by simp[a7.es,a7.flat,Tr.g_ t,a7.g_ ts]
end
theorem Tr.gy (t:Tr):0<t.flat.length:=by cases t;simp[Tr.flat]
theorem a7.jx:∀ts:a7,ts.len≤ts.flat.length
 | .nil=>Nat.le_refl _
 | .cons t ts=>by
  have h1:=a7.jx ts;have h2:=t.gy;simp only[a7.len,a7.flat,List.length_append];omega
def xO (fr:Go.V.Fr) (k:Nat):Go.V.D:=Go.V.nth .junk fr.loc k
theorem Bb {st:St} {L n:Nat} {kn:Bool} {k aq off len s:Nat}:aX st L kn n (.win k aq off len s)=aX st L false n (.win k aq off len s):=by
 cases n<;>rfl
theorem A_ (l:List Rg):(l.map aj).map (·.map oa)=l.map aj:=by
 rw[List.map_map];rfl
theorem wT (l:List Rg):∀e∈l.map aj,∀d∈e,nv d=true:=by
 intro e he d hd;obtain⟨x,_,rfl⟩:=List.mem_map.1 he;simp only[aj,List.mem_cons,List.not_mem_nil,or_false] at hd
 rcases hd with rfl|rfl<;>rfl
theorem nN {N L j:Nat} {S st:St} {H:List aN} {x:D} {l:List Rg} (hH:Has N S st H) (hj:H[j]?=some (.lst x 2 (l.map aj))) (hx:∀k,x.ref=k+1→L≤k) {n:Nat} (hn:3≤n):aX st L false n x=some (a8 l):=by
 rw[hH.zw hj hx (wT l) hn,A_,gm]
def Lw (gs:List (Nat×Nat)) (s s':dY) (d1:D) (b:Bool):Prop:=
 D_ gs s s' d1 b∨(s'=s∧d1=.nul∧b=false)
theorem yY {N k:Nat} {S s0:St} {H:List aN} {gs:List (Nat×Nat)} {bc:D} {br:List Int} {s:dY} (hok:jO gs br) (he:s.e=0) (hi:s.i<gs.length) (hH:Has N S s0 (.box k (.mem 0 false (aF gs bc s))::.lst bc 1 (br.map ai)::H)):
  ∃d ab,Ev pv 181 [.ptr k 0 0] s0 d ab∧∃(d1:D) (b:Bool) (s':dY),d=.tup [d1,.bool b]∧Lw gs s s' d1 b∧Has N S ab (.box k (.mem 0 false (aF gs bc s'))::.lst bc 1 (br.map ai)::H):=by
 have rE:=hok.gl;have hpl:=hok.pl;refine Ev.fX rfl KQ rfl rfl rfl ?_;refine zE ?_;have bP:=hH;have hH:=hH.bT;have bO:(enterSt .rw s0).bs=s0.bs:=rfl;generalize enterSt .rw s0=S2 at*;have FM:Arg N S2 2 (dv gs) (gs.map aL):=Arg.pure (fun st=>c7 st gs)
 obtain⟨g,hg⟩:∃g,gs[s.i]?=some g:=⟨gs[s.i]'hi,List.getElem?_eq_getElem _⟩
 have hr1:(gs.map aL)[s.i]?=some (aL g):=by rw[List.getElem?_map,hg];rfl
 refine zQ 13 ?_;obtain⟨_,st,hev,rfl,hH⟩:=yA (s:=s) s.i hi hH;refine qv hev ?_;refine zQ 1 ?_;refine qc (fun hb=>?_) (fun hb=>?_)<;>try simp only[cs] at hb
 ·refine zQ 7 ?_;obtain⟨_,st,hev,rfl,hH⟩:=cv (s:=s) s.i 4 (by omega) hH;refine qv hev ?_;refine zQ 6 ?_;obtain⟨h1,h2,h3,h4⟩:=cH (br:=br) (s:=s) (i:=s.i) (e:=4) he (by decide);refine EvC.ret ⟨rx,_,_,_,rfl,ae (rfl),?_⟩;exact⟨_,_,_,rfl,.inl ⟨h3,h4,by rw[h2];exact Nat.le_refl _,by rw[h2];omega,.inl rfl,.inl h1⟩,bP.ak bO hH⟩
 ·refine zQ 11 ?_;refine qr fun IE AX=>?_;refine qf (fo:=0) fun RJ Ny=>?_;refine zQ 13 ?_;refine zI (fun q1=>?_) fun q1=>?_
  ·refine zQ 3 ?_;obtain⟨_,st,hev,d1,b,s',rfl,hP,hH⟩:=yT (s:=s) hok he hi hH;refine qv hev ?_;refine zQ 5 ?_
   rcases hP.2.2.2.2.1 with rfl|⟨a,rfl,_⟩
   ·refine EvC.ret ⟨rx,_,_,_,rfl,ae (rfl),?_⟩;exact⟨_,_,_,rfl,.inl hP,bP.ak bO hH⟩
   ·refine EvC.ret ⟨rx,_,_,_,rfl,ae (rfl),?_⟩;exact⟨_,_,_,rfl,.inl hP,bP.ak bO hH⟩
  ·refine zQ 6 ?_
   by_cases Jc:((g.1:Nat):Int)=91
   ·refine qD rfl (by simp[Jc]) ?_;refine zQ 1 ?_;refine qD rfl (by simp[Jc]) ?_;refine zQ 5 ?_;refine EvC.ret ⟨rx,_,_,_,rfl,ae (rfl),?_⟩;exact⟨_,_,_,rfl,.inr ⟨rfl,rfl,rfl⟩,bP.ak bO hH⟩
   refine qE rfl (by simp[Jc]) ?_;refine zQ 5 ?_
   by_cases Mj:((g.1:Nat):Int)=93
   ·refine qD rfl (by simp[Mj]) ?_;refine zQ 1 ?_;refine qD rfl (by simp[Mj]) ?_;refine zQ 5 ?_;refine EvC.ret ⟨rx,_,_,_,rfl,ae (rfl),?_⟩;exact⟨_,_,_,rfl,.inr ⟨rfl,rfl,rfl⟩,bP.ak bO hH⟩
   refine qE rfl (by simp[Mj]) ?_;refine zQ 4 ?_
   by_cases P9:((g.1:Nat):Int)=45
   ·refine qD rfl (by simp[P9]) ?_;refine zQ 5 ?_;refine EvC.ret ⟨rx,_,_,_,rfl,ae (rfl),?_⟩;exact⟨_,_,_,rfl,.inr ⟨rfl,rfl,rfl⟩,bP.ak bO hH⟩
   refine qE rfl (by simp[P9]) ?_;refine zQ 9 ?_;refine qT hH at0 fun st hH=>?_;dsimp only[u2,u1,u3,u4,setMany,u5,u6,D.cells,Nat.reduceAdd,aF,aL,ai,aj] at hH;refine zQ 5 ?_;refine EvO.eE (qs:=[(0,_),(1,_)]) rfl rfl rfl rfl ⟨rfl,(ev rfl),(by rfl),rfl,(ev rfl),(by rfl),trivial⟩ (by intro q hq;simp only[List.mem_cons,List.not_mem_nil,or_false] at hq;rcases hq with rfl|rfl<;>exact⟨rfl,by exact Nat.le_of_ble_eq_true rfl⟩) (by show List.foldl _ [_,_] _=_;dsimp only[List.foldl_cons,List.foldl_nil,u2,u1]<;>rfl) (put_T rfl _) ?_;refine qh (s:=2) (vs:=[_]) hH fun k39 st TA hH=>?_;refine zQ 3 ?_;have hH:Has N S2 st (.lst (.win k39 0 0 1 2) 2 (([((g.1:Nat),(g.1:Nat))]:List Rg).map aj)::.box k (.mem 0 false (aF gs bc {s with i:=s.i+1}))::.lst bc 1 (br.map ai)::H):=hH;have hfz:=nN hH at0 (L:=s0.bs.length) (n:=15) (fun k hk=>by simp only[D.ref] at hk;rw[←bO];omega) (by decide)
   have NY:aX st s0.bs.length true 16 (ry [.win k39 0 0 1 2,.bool true])=some (.tup [a8 [(((g.1:Nat):Int),((g.1:Nat):Int))],.bool true]):=by
    show(gF (aX st s0.bs.length true 15) [.win k39 0 0 1 2,.bool true]).map D.tup=_;simp only[gF,Bb,hfz];rfl
   refine EvC.ret ⟨rx,_,_,_,rfl,ae NY,⟨_,_,{s with i:=s.i+1},rfl,.inl ⟨rfl,rfl,?_,?_,.inr ⟨_,rfl,by simp⟩,.inr ⟨he,?_,_,rfl,?_,?_⟩⟩,bP.ak bO (hH.drop 1)⟩⟩
   ·show s.i≤s.i+1;omega
   ·show s.i+1≤_;omega
   ·show s.i<s.i+1;omega
   ·simp
   ·simp
def Ly (gs:List (Nat×Nat)) (s s':dY) (d:D):Prop:=
 s'.o=s.o∧s'.g=s.g∧s.i≤s'.i∧s'.i≤gs.length∧∃a:List Rg,d=a8 a∧a.length≤8∧(s'.e≠0∨s'.e=0∧s.i<s'.i)
theorem fO {gs:List (Nat×Nat)} {s:dY} {r:Int}:(ct gs s r).o=s.o∧(ct gs s r).g=s.g∧(ct gs s r).e=s.e∧s.i≤(ct gs s r).i∧(s.i≤gs.length→(ct gs s r).i≤gs.length):=by
 unfold ct
 split
 ·rename_i h;have:=pC h;exact⟨rfl,rfl,rfl,by show s.i≤s.i+1;omega,fun _=>by show s.i+1≤_;omega⟩
 ·exact⟨rfl,rfl,rfl,Nat.le_refl _,fun h=>h⟩
theorem Fm {N k:Nat} {S s0:St} {H:List aN} {gs:List (Nat×Nat)} {bc:D} {br:List Int} {s:dY} (hok:jO gs br) (he:s.e=0) (hi:s.i<gs.length) (hH:Has N S s0 (.box k (.mem 0 false (aF gs bc s))::.lst bc 1 (br.map ai)::H)):
  ∃d ab,Ev pv 165 [.ptr k 0 0] s0 d ab∧∃(s':dY),Ly gs s s' d∧Has N S ab (.box k (.mem 0 false (aF gs bc s'))::.lst bc 1 (br.map ai)::H):=by
 have rE:=hok.gl;have hpl:=hok.pl;refine Ev.fX rfl KU rfl rfl rfl ?_;refine zE ?_;have bP:=hH;have hH:=hH.bT;have bO:(enterSt .rw s0).bs=s0.bs:=rfl;generalize enterSt .rw s0=S2 at*;have FM:Arg N S2 2 (dv gs) (gs.map aL):=Arg.pure (fun st=>c7 st gs);refine zQ 15 ?_;obtain⟨_,st,hev,d1,b,s1,rfl,hP,hH⟩:=yY (s:=s) hok he hi hH;refine qv hev ?_;refine zQ 15 ?_
 rcases hP with hP|⟨e1,rfl,rfl⟩
 ·obtain⟨p1,p2,p3,p4,p5,p6⟩:=hP
  rcases p6 with p6|⟨p6,p7,a,rfl,p8,p9⟩
  ·refine qD rfl (by simp[p6]) ?_;refine zQ 4 ?_;refine EvC.ret ⟨rx,_,_,_,rfl,ae (rfl),?_⟩;exact⟨s1,⟨p1,p2,p3,p4,[],rfl,by simp,.inl p6⟩,bP.ak bO hH⟩
  ·obtain⟨q,a',rfl⟩:∃q a',a=q::a':=List.exists_cons_of_ne_nil p9;refine qE rfl (by simp[p6]) ?_;refine zQ 5 ?_;refine EvO.go (d:=.bool false) (st1:=_) rfl rfl rfl (put_T rfl _) ?_;refine zQ 3 ?_;obtain⟨k1,k2,k3,k4,k5⟩:=fO (gs:=gs) (s:=s1) (r:=45);have k5:=k5 p4;refine zQ 4 ?_;obtain⟨_,st,hev,rfl,hH⟩:=c9 (s:=s1) (by omega) 45 hH;refine qv hev ?_;refine zQ 2 ?_;generalize ct gs s1 45=s2 at*
   cases hb:jz gs s1.i 45 with
   |false=>
    refine zQ 6 ?_;refine EvC.ret ⟨rx,_,_,_,rfl,ae (rfl),?_⟩;exact⟨s2,⟨k1.trans p1,k2.trans p2,by omega,k5,q::a',rfl,p8,.inr ⟨k3.trans p6,by omega⟩⟩,bP.ak bO hH⟩
   |true=>
    refine zQ 21 ?_;refine qn ?_;simp only[List.length_map];refine zQ 2 ?_;refine EvC.merge (fun fr st=>∃(d2:D) (two:Bool) (s3:dY) (tmp:List (Nat×D)),fr=⟨8,[.ptr k 0 0,xO fr 1,xO fr 2,.int .i64 (s.i:Nat),a8 (q::a'),.bool b,d2,.bool two],tmp⟩∧Has N S2 st (.box k (.mem 0 false (aF gs bc s3))::.lst bc 1 (br.map ai)::H)∧(s3.o=s.o)∧(s3.g=s.g)∧(s2.i≤s3.i)∧(s3.i≤gs.length)∧(s3.e≠0∨s3.e=0∧(two=false∨∃a2:List Rg,d2=a8 a2∧a2≠[]))) ?_ ?_
    ·refine zP (fun hlt=>?_) fun hlt=>?_
     ·refine zQ 2 ?_;obtain⟨_,st,hev,d2,two,s3,rfl,Un,hH⟩:=yY (s:=s2) hok (k3.trans p6) (by omega) hH;refine qv hev ?_;refine zQ 6 ?_
      rcases Un with⟨r1,r2,r3,r4,r5,r6⟩|⟨e1,rfl,rfl⟩
      ·refine⟨d2,two,s3,_,rfl,hH,r1.trans (k1.trans p1),r2.trans (k2.trans p2),r3,r4,?_⟩
       rcases r6 with r6|⟨r6,r7,a2,rfl,r8,r9⟩
       ·exact .inl r6
       ·refine .inr ⟨r6,?_⟩
        cases two with
        |false=>exact .inl rfl
        |true=>exact .inr ⟨a2,rfl,r9⟩
      ·exact⟨.nul,false,s3,_,rfl,hH,by rw[e1];exact k1.trans p1,by rw[e1];exact k2.trans p2,by rw[e1];exact Nat.le_refl _,by rw[e1];exact k5,.inr ⟨by rw[e1];exact k3.trans p6,.inl rfl⟩⟩
     ·refine zQ 1 ?_;exact⟨.nul,false,s2,_,rfl,hH,k1.trans p1,k2.trans p2,Nat.le_refl _,k5,.inr ⟨k3.trans p6,.inl rfl⟩⟩
    ·rintro fr st ⟨d2,two,s3,tmp,hfr,hH,h1,h2,h3,h4,h5⟩;rw[hfr];clear hfr;generalize xO fr=ee;clear fr
     rcases h5 with h5|⟨h5,h6⟩
     ·have fK:(s3.e==0)=false:=by simpa using h5
      refine zQ 39 ?_;refine qD rfl (by simp[h5]) ?_;refine zQ 4 ?_;refine EvC.ret ⟨rx,_,_,_,rfl,ae (rfl),?_⟩;exact⟨s3,⟨h1,h2,by omega,h4,[],rfl,by simp,.inl h5⟩,bP.ak bO hH⟩
     ·have fK:(s3.e==0)=true:=by simpa using h5
      cases b with
      |false=>
       have hg8:(!false)=true:=rfl;refine zQ 14 ?_;refine EvO.pickT (wantD_is rfl rfl rfl fK) rfl hg8 (put_T rfl _) ?_;refine zQ 17 ?_;obtain⟨_,st,hev,rfl,hH⟩:=cv (s:=s3) s.i 4 (by omega) hH;refine qv hev ?_;refine zQ 1 ?_;obtain⟨w1,w2,w3,w4⟩:=cH (br:=br) (s:=s3) (i:=s.i) (e:=4) h5 (by decide);generalize gV br s3 s.i 4=s4 at*;refine zQ 9 ?_;refine qD rfl (by simp[w1]) ?_;refine zQ 4 ?_;refine EvC.ret ⟨rx,_,_,_,rfl,ae (rfl),?_⟩;exact⟨s4,⟨w3.trans h1,w4.trans h2,by omega,by omega,[],rfl,by simp,.inl w1⟩,bP.ak bO hH⟩
      |true=>
       have hg8:(!true)=false:=rfl
       cases two with
       |false=>
        have lK:(!false)=true:=rfl;refine zQ 14 ?_;refine EvO.pickF (wantD_is rfl rfl rfl fK) rfl hg8 (put_T rfl _) ?_;refine zQ 10 ?_;refine EvO.pickT (wantD_is rfl rfl rfl fK) rfl lK (put_T rfl _) ?_;refine zQ 6 ?_;obtain⟨_,st,hev,rfl,hH⟩:=cv (s:=s3) s.i 4 (by omega) hH;refine qv hev ?_;refine zQ 1 ?_;obtain⟨w1,w2,w3,w4⟩:=cH (br:=br) (s:=s3) (i:=s.i) (e:=4) h5 (by decide);generalize gV br s3 s.i 4=s4 at*;refine zQ 9 ?_;refine qD rfl (by simp[w1]) ?_;refine zQ 4 ?_;refine EvC.ret ⟨rx,_,_,_,rfl,ae (rfl),?_⟩;exact⟨s4,⟨w3.trans h1,w4.trans h2,by omega,by omega,[],rfl,by simp,.inl w1⟩,bP.ak bO hH⟩
       |true=>
        have lK:(!true)=false:=rfl
        obtain⟨a2,rfl,h7⟩:∃a2:List Rg,d2=a8 a2∧a2≠[]:=by
         rcases h6 with h6|h6
         ·cases h6
         ·exact h6
        obtain⟨q2,QV,rfl⟩:∃q a',a2=q::a':=List.exists_cons_of_ne_nil h7;have LN:=(ig (q::a')).arg N S2;have Ht:=(ig (q2::QV)).arg N S2;have LO:((q::a').map aj)[0]?=some (aj q):=rfl;have hr1:((q2::QV).map aj)[0]?=some (aj q2):=rfl;refine zQ 14 ?_;refine EvO.pickF (wantD_is rfl rfl rfl fK) rfl hg8 (put_T rfl _) ?_;refine zQ 2 ?_;refine qr (fun Vu SM=>?_) (hg:=wi lK);refine qf (fo:=0) (fun Vt SL=>?_) (hg:=wi lK);refine zQ 2 ?_;refine qr (fun Rx Ni=>?_) (hg:=wi lK);refine qf (fo:=0) (fun Vr SJ=>?_) (hg:=wi lK);refine zQ 2 ?_;refine EvO.pickF (wantD_is rfl rfl rfl fK) rfl lK (put_T rfl _) ?_;refine zQ 2 ?_;refine zP (fun hgt=>?_) fun hgt=>?_
        ·refine zQ 3 ?_;obtain⟨_,st,hev,rfl,hH⟩:=cv (s:=s3) s.i 4 (by omega) hH;refine qv hev ?_;refine zQ 1 ?_;obtain⟨w1,w2,w3,w4⟩:=cH (br:=br) (s:=s3) (i:=s.i) (e:=4) h5 (by decide);generalize gV br s3 s.i 4=s4 at*;refine zQ 9 ?_;refine qD rfl (by simp[w1]) ?_;refine zQ 4 ?_;refine EvC.ret ⟨rx,_,_,_,rfl,ae (rfl),?_⟩;exact⟨s4,⟨w3.trans h1,w4.trans h2,by omega,by omega,[],rfl,by simp,.inl w1⟩,bP.ak bO hH⟩
        ·refine zQ 10 ?_;refine qE rfl (by simp[h5]) ?_;refine zQ 4 ?_;refine qr fun Rv Ng=>?_;refine qf (fo:=0) fun Vm SD=>?_;refine zQ 2 ?_;refine qr fun Vk SB=>?_;refine qf (fo:=0) fun Vj SA=>?_;refine qR ?_;refine EvO.eE (qs:=[(0,_),(1,_)]) rfl rfl rfl rfl ⟨rfl,(ev rfl),(by rfl),rfl,(ev rfl),(by rfl),trivial⟩ (by intro q hq;simp only[List.mem_cons,List.not_mem_nil,or_false] at hq;rcases hq with rfl|rfl<;>exact⟨rfl,by exact Nat.le_of_ble_eq_true rfl⟩) (by show List.foldl _ [_,_] _=_;dsimp only[List.foldl_cons,List.foldl_nil,u2,u1]<;>rfl) (put_T rfl _) ?_;refine qh (s:=2) (vs:=[_]) hH fun k87 st Tm hH=>?_;dsimp only[u2,u1,u3,u4,setMany,u5,u6,D.cells,Nat.reduceAdd,aF,aL,ai,aj] at hH;refine zQ 2 ?_;have hH:Has N S2 st (.lst (.win k87 0 0 1 2) 2 (([(q.1,q2.1)]:List Rg).map aj)::.box k (.mem 0 false (aF gs bc s3))::.lst bc 1 (br.map ai)::H):=hH;have hfz:=nN hH at0 (L:=s0.bs.length) (n:=16) (fun k hk=>by simp only[D.ref] at hk;rw[←bO];omega) (by decide);refine EvC.ret ⟨rx,_,_,_,rfl,ae hfz,⟨s3,⟨h1,h2,by omega,h4,[(q.1,q2.1)],rfl,by simp,.inr ⟨h5,by omega⟩⟩,bP.ak bO (hH.drop 1)⟩⟩
 ·have e2:s1.e=0:=by rw[e1];exact he
  have e3:s1.i=s.i∧s1.o=s.o∧s1.g=s.g:=by rw[e1];exact⟨rfl,rfl,rfl⟩
  clear e1;refine qE rfl (by simp[e2]) ?_;refine zQ 5 ?_;refine EvO.go (d:=.bool true) (st1:=_) rfl rfl rfl (put_T rfl _) ?_;refine zQ 6 ?_;obtain⟨_,st,hev,rfl,hH⟩:=cv (s:=s1) s.i 4 (by omega) hH;refine qv hev ?_;refine zQ 1 ?_;obtain⟨w1,w2,w3,w4⟩:=cH (br:=br) (s:=s1) (i:=s.i) (e:=4) e2 (by decide);refine zQ 4 ?_;refine EvC.ret ⟨rx,_,_,_,rfl,ae (rfl),?_⟩;exact⟨_,⟨by omega,by omega,by omega,by omega,[],rfl,by simp,.inl w1⟩,bP.ak bO hH⟩
end Go.Proofs.YtnleclohocdkaaaGreat
