/-
 The scanner: fed, told, at its end.
-/
import Derived.Test.YtbdnabmmlbiomaaGreatXGYn
import Derived.Test.YtbdnabmmlbiomaaGreatXGYj
import Derived.Test.YtbdnabmmlbiomaaGreatXGPc
import Derived.Test.YtbdnabmmlbiomaaGreatXM2
set_option maxRecDepth 100000
set_option maxHeartbeats 4000000
set_option linter.unusedSimpArgs false
set_option linter.unusedVariables false
set_option linter.unusedSectionVars false
namespace Go.Proofs.YtbdnabmmlbiomaaGreat
open Go.V Go
theorem pj (b:List UInt8):dr (je b) 1 (byteCells b):=dr.frozen (mI b) (fT b)
def TB (x:D) (pl:Nat) (L:List PL):D:=.agg [x,.int .i64 (pl:Nat),jE L]
structure AS (st:St) (kS kd kv ks:Nat) (p:Pg) (pl:Nat) (ld:D) (L:List VL) (h js:List UInt8):Prop where
 s:st.bs[kS]?=some (.mem 0 false [.ptr kd 0 0,.ptr kv 0 0])
 sl:kS<st.bs.length
 d:st.bs[kd]?=some (.mem 0 false (fG h js))
 dl:kd<st.bs.length
 hl:(h++js).length=4
 m:AM st.bs.length st kv ks p pl ld L
 ro:st.ro≤st.bs.length
theorem SH.as {N kS kd kv ks:Nat} {S s0:St} {H:List bJ} {p:Pg} {pl:Nat} {ld:D} {L:List VL} {h:List UInt8} (hM:SH [] N S s0 kS kd kv ks p pl ld L h H):∃js,AS s0 kS kd kv ks p pl ld L h js:=by
 obtain⟨pd,qd,P,Q,sn,js,hH,bA,gj,hl⟩:=hM;dsimp only[u4] at hH;have hM:MH [] N S s0 ks kv p pl ld L ([_,_]++H):=MH.push [_,_] [] (H:=H) (Es hH bA gj);exact⟨js,hH.at av,(hH.ge av).2,hH.at bh,(hH.ge bh).2,hl,hM.am,hM.ro⟩
theorem AM.bs {N:Nat} {S S2:St} {kv ks:Nat} {p:Pg} {pl:Nat} {ld:D} {L:List VL} (h:AM N S kv ks p pl ld L) (hS:S2.bs=S.bs):AM N S2 kv ks p pl ld L:=
 ⟨h.lt,by rw[hS];exact h.le,by rw[hS];exact h.at_,⟨h.ld.1.bs hS,h.ld.2⟩,fun l hl=>⟨(h.td l hl).1.bs hS,(h.td l hl).2⟩,h.ksl⟩
theorem AM.lift {N:Nat} {S st:St} {H:List bJ} {kv ks:Nat} {p:Pg} {pl:Nat} {ld:D} {L:List VL} (h:AM N S kv ks p pl ld L) (hH:Has N S st H):AM st.bs.length st kv ks p pl ld L:=by
 have h1:=h.le;have h2:=hH.ex.len;have h3:=h.lt;have h4:=h.ksl;exact⟨by omega,Nat.le_refl _,h.box hH,⟨h.ld.rows hH,by have:=h.ld.2;omega⟩,fun l hl=>⟨(h.td l hl).rows hH,by have:=(h.td l hl).2;omega⟩,by omega⟩
theorem vM {N:Nat} {S st:St} {H:List bJ} {k:Nat} {cs:List D} (hH:Has N S st H) (hk:k<N) (h:S.bs[k]?=some (.mem 0 false cs)) (o:Nat):jN st (.ptr k 0 o) (cs.drop o):=
 .inl ⟨k,0,o,false,_,rfl,St.mem_of (by rw[hH.ex.low k hk];exact h),List.take_length ..⟩
theorem back_eq {S st s0:St} {H:List bJ} (hH:Has s0.bs.length S st H) (bt:S.bs=s0.bs):(⟨st.bs.take s0.bs.length,s0.flr,s0.ro⟩:St)=s0:=by
 have Y':st.bs.take s0.bs.length=s0.bs:=by
  refine List.ext_getElem? fun j=>?_;rw[List.getElem?_take]
  by_cases hj:j<s0.bs.length
  ·rw[if_pos hj,hH.ex.low j hj,bt]
  ·rw[if_neg hj,List.getElem?_eq_none (by omega)]
 rw[Y']
theorem CO {N:Nat} {S st:St} {H:List bJ} {j:Nat} {d:D} {E:List PL} (hH:Has N S st H) (hj:H[j]?=some (.aO d 12 (E.map kc))) (he:∀l∈E,l.bB=[]):bn st N false 16 d=some (jE E):=by
 have hown:=hH.own hj;have jI:j<H.length:=bC hj
 have h2:Has N S st (H.set j (.deep (fun _=>False) d 12 (E.map jr))):=hH.C_ hj (fun _ _ _=>rfl) (Nat.le_refl _) rfl rfl ⟨⟨E.map kc,hown,by
   clear hj hown jI
   induction E with
   |nil=>exact .nil
   |cons l E ih=>
    rw[List.map_cons,List.map_cons];refine .cons ?_ (ih fun x hx=>he x (List.mem_cons_of_mem _ hx));unfold jr;rw[he l (List.mem_cons_self ..)]
    exact wx (.aO .nul 11 [] .nul (fun e h=>by cases h) (fun k h=>by simp only[D.ref] at h;omega))⟩,fun _ _=>id⟩ (fun k hk=>.inl (by
   rcases hk with hk|hk
   ·exact hk
   ·exact hk.elim)) (fun k hk=>by
   rcases hk with hk|hk
   ·exact((hH.ok j _ hj).2 k hk).2
   ·exact hk.elim)
 exact h2.kb (n:=15) (List.getElem?_set_self jI) (by decide)
theorem Nr {L:List VL} {n:Nat} (h:∀l∈L,l.pl.ok n):∀l∈L,l.bB.length≤1000:=fun l hl=>(h l hl).2
theorem DK {kS kd kv ks:Nat} {s0:St} {p:Pg} {pl:Nat} {ld:D} {L:List VL} {h js:List UInt8} (hp:p.ok) (pR:L.length≤1000) (bA:∀l∈L,l.bB.length≤1000) (hA:AS s0 kS kd kv ks p pl ld L h js):
  ∃d ai,Ev pv 34 [.ptr kS 0 0] s0 d ai∧d=TB (je h) pl (L.map VL.pl)∧ai=s0:=by
 have eT:=hA.ro;refine Ev.iD rfl Z6 rfl rfl rfl ?_;dsimp only[u3,u4,List.length,Nat.reduceSub,Nat.reduceAdd,w1,w2];have bt:(ah .rw s0).bs=s0.bs:=rfl;have hF:(ah .rw s0).flr≤s0.bs.length:=Nat.le_refl _;have hH:Has s0.bs.length (ah .rw s0) (ah .rw s0) []:=Has.start (Nat.le_refl _) eT;generalize ah .rw s0=S2 at*;have hm:=hA.m.bs bt;have cL:S2.bs[kS]?=some (.mem 0 false [.ptr kd 0 0,.ptr kv 0 0]):=by rw[bt];exact hA.s
 have Zq:S2.bs[kd]?=some (.mem 0 false (fG h js)):=by rw[bt];exact hA.d
 refine qq<|qj fun K hK=>qa hH fun k2 st hk2 hH=>qe hK ?_;have S':=vM hH hA.sl cL 0;have zU:=vM hH hA.sl cL 1;have Cz:st.ro≤st.bs.length:=by rw[hH.ex.ro];exact Nat.le_trans hH.eT (Nat.le_trans hH.hN hH.ex.len)
 obtain⟨_,st1,Va,rfl,Ut⟩:=yT hp pR bA (hm.lift hH) Cz;rw[Ut] at Va;clear Ut st1;have Sf:=Bt (st:=st) (k:=kd) (v:=0) (h:=h) (j:=js) (by rw[hH.ex.low kd hA.dl];exact Zq) hA.hl Cz;have hbS:st.bs[kS]?=some (.mem 0 false [.ptr kd 0 0,.ptr kv 0 0]):=by rw[hH.ex.low kS hA.sl];exact cL
 change ab _ _ _ _ _ _;refine qq ?_;generalize hK:bj _ _ _ _=K;refine ab.oK rfl<|bP.cons<|qm<|aa.nil ⟨rfl,?_⟩;refine bP.cons<|qg<|aa.nil ⟨rfl,?_⟩;refine bP.cons<|qp (o:=0)<|aa.nil ⟨rfl,?_⟩;refine bP.cons<|qR<|aa.nil ⟨rfl,?_⟩;refine bP.cons<|aa.ju rfl rfl Sf (ae rfl _)<|aa.nil ⟨rfl,?_⟩;refine bP.cons<|qm<|aa.nil ⟨rfl,?_⟩;refine bP.cons<|qg<|aa.nil ⟨rfl,?_⟩;refine bP.cons<|qp (o:=1)<|aa.nil ⟨rfl,?_⟩;refine bP.cons<|qR<|aa.nil ⟨by exact Bool.and_eq_true_iff.2 ⟨pf rfl rfl hbS hbS,rfl⟩,?_⟩;refine bP.cons<|aa.ju rfl rfl Va (ae rfl _)<|aa.nil ⟨rfl,?_⟩;refine bP.cons<|aa.go (d:=TB (je h) pl (L.map VL.pl)) (st1:=_) rfl rfl rfl (ae rfl _)<|aa.nil ⟨rfl,?_⟩;refine bP.cons<|qS hH av fun st hH=>?_;dsimp only[u2,u1,u3,u4,setMany,u5,u6,D.cells,Nat.reduceAdd] at hH;refine aa.nil ⟨rfl,?_⟩;refine bP.nil ?_;subst hK;refine ab.ret ⟨rx,_,_,_,hH.l_ rfl av rfl,au (show bn st s0.bs.length false 16 (TB (je h) pl (L.map VL.pl))=some (TB (je h) pl (L.map VL.pl)) from rfl),rfl,back_eq hH bt⟩
theorem DM (dB:∀st,Ev pv 59 [] st (.agg (ay bX)) st) {kS kd kv ks:Nat} {s0:St} {p:Pg} {pl:Nat} {ld:D} {L:List VL} {h js:List UInt8} (hp:p.ok) (hR:bE p) (ib:pl≤2000000000000) (pR:L.length=p.ak.length) (MY:∀l∈L,l.pl.ok p.code.length) (hb:cF h=true∨h=[]) (h3:h.length≤3) (hA:AS s0 kS kd kv ks p pl ld L h js):
  ∃d ai,Ev pv 35 [.ptr kS 0 0] s0 d ai∧d=jE ((gJ p.code (ba p) (iq h.length) pl (L.map VL.pl)).2.map (jc p.code (gJ p.code (ba p) (iq h.length) pl (L.map VL.pl)).1))∧ai=s0:=by
 have eT:=hA.ro;have RD:=hR.sl;refine Ev.iD rfl Z5 rfl rfl rfl ?_;dsimp only[u3,u4,List.length,Nat.reduceSub,Nat.reduceAdd,w1,w2];have bt:(ah .rw s0).bs=s0.bs:=rfl;have hF:(ah .rw s0).flr≤s0.bs.length:=Nat.le_refl _;have hH:Has s0.bs.length (ah .rw s0) (ah .rw s0) []:=Has.start (Nat.le_refl _) eT;generalize ah .rw s0=S2 at*;have hm:=hA.m.bs bt;have cL:S2.bs[kS]?=some (.mem 0 false [.ptr kd 0 0,.ptr kv 0 0]):=by rw[bt];exact hA.s
 have Zq:S2.bs[kd]?=some (.mem 0 false (fG h js)):=by rw[bt];exact hA.d
 have UU:∀l∈L.map VL.pl,l.ok p.code.length:=fun l hl=>by obtain⟨y,hy,rfl⟩:=List.mem_map.1 hl;exact MY y hy
 have zX:(L.map VL.pl).length=p.ak.length:=by rw[List.length_map];exact pR
 obtain⟨ni,jH⟩:=vj hR (iq h.length) pl (L.map VL.pl) zX UU;have hrp:=A4 p.code (ba p) (iq h.length) pl (L.map VL.pl);have hbl:(iq h.length).length=h.length:=by unfold iq;rw[List.length_replicate]
 refine qq<|qj fun K hK=>qm ?_;refine qe hK ?_;have S':=vM hH hA.sl cL 0;have Cz:S2.ro≤S2.bs.length:=Nat.le_trans hH.eT hH.hN;have Sf:=Bt (st:=S2) (k:=kd) (v:=0) (h:=h) (j:=js) Zq hA.hl Cz;have Se:=Nu (st:=S2) (x:=je h) (C3 S2 h) hb h3 Cz;refine qq<|qj fun K hK=>qm ?_;refine qg ?_;refine qp (o:=0) ?_;refine qR ?_;refine aa.ju rfl rfl Sf (ae rfl _) ?_;have hH:=hH.nD (.mem 0 false (fG h (([0,0,0,0]:List UInt8).drop h.length)));refine aa.ju rfl rfl Se (ae rfl _) ?_;refine qm ?_;refine qg ?_;refine qg ?_;refine qm ?_;refine qm ?_;refine qe hK ?_;generalize S2.push (.mem 0 false (fG h (([0,0,0,0]:List UInt8).drop h.length)))=st at*
 obtain⟨kd2,YA⟩:∃k,k=S2.bs.length:=⟨_,rfl⟩
 rw[←YA] at hH⊢;refine qq<|qq<|qj fun K hK=>qm ?_;refine qg ?_;refine qe hK<|ab.cond (v:=false) (by dsimp only[Fr.ev,Fr.get,nth,V.look];rfl) (fun h=>by cases h) (fun _=>?_);refine ab.skip ?_;have zU:=vM hH hA.sl cL 1;obtain⟨_,st2,YW,r_,qW,xS,L2,rfl,Ac,hM⟩:=Nj hF hp hR (by omega) (Nr MY) hm hH
 have Zm:L2.length=p.ak.length:=by
  have:=congrArg List.length Ac;rw[List.length_map,List.length_map] at this;omega
 have Bw:∀l∈L2,l.pl.ok p.code.length:=oO (by rw[Ac];exact UU);obtain⟨pd,qd,P,Q,sn,NO,gM,gj⟩:=ur (MH.pull [_] [] (H:=[]) hM);refine qq<|qj fun K hK=>qm ?_;refine qg ?_;refine qp (o:=1) ?_;refine qR ?_;have hH:=NO;refine aa.ju rfl rfl YW (ae rfl _) ?_;refine qm ?_;refine qe hK ?_;have hge:=hH.ge (j:=0) rfl;have hl4:(h++([0,0,0,0]:List UInt8).drop h.length).length=4:=by simp;omega
 have MS:=SE (st:=st2) (k:=kd2) (v:=0) (h:=h) (j:=([0,0,0,0]:List UInt8).drop h.length) (hH.at (j:=0) rfl) hl4 (by rw[hH.ex.ro];exact Nat.le_trans hH.eT hge.1);have hH3:=hH.ry (b':=.mem 0 false (fG [] (h++([0,0,0,0]:List UInt8).drop h.length))) (aG:=0) (j:=0) rfl;dsimp only[u2,u3,u4] at hH3;generalize(⟨st2.bs.set kd2 (.mem 0 false (fG [] (h++([0,0,0,0]:List UInt8).drop h.length))),st2.flr,st2.ro⟩:St)=Xg at*;obtain⟨_,st4,E3,rfl,ld3,L3,W3,hM⟩:=Dw (gs:=iq h.length) dB hF hp hR (by omega) (by omega) Zm Bw (MH.push [_] [] (H:=[]) (Es hH3 gM gj));rw[Ac] at W3 hM;have Zj:L3.length=p.ak.length:=by rw[←ni,←W3,List.length_map]
 have Vs:∀l∈L3,l.pl.ok p.code.length:=oO (by rw[W3];exact jH);refine qq<|qj fun K hK=>qm ?_;refine qm ?_;refine aa.ju rfl rfl MS (ae rfl _) ?_;refine aa.ju rfl rfl E3 (ae rfl _) ?_;refine qe hK ?_;obtain⟨ed,st5,YX,hM⟩:=Ni hF hp hR (by omega) Zj Vs hM;obtain⟨pd,qd,P,Q,sn,hH5,abp,aaR⟩:=ur hM;dsimp only[u3,u4] at hH5;refine qq<|qj fun K hK=>qm ?_;have hH:=hH5;refine aa.ju rfl rfl YX (ae rfl _) ?_;refine qm ?_;refine qe hK ?_;have hE:(L3.map fun l=>jc p.code (gJ p.code (ba p) (iq h.length) pl (L.map VL.pl)).1 l.pl)=(gJ p.code (ba p) (iq h.length) pl (L.map VL.pl)).2.map (jc p.code (gJ p.code (ba p) (iq h.length) pl (L.map VL.pl)).1):=by rw[←W3,List.map_map];rfl
 rw[hE] at hH;refine ab.ret ⟨rx,_,_,_,rfl,au (CO hH (j:=0) rfl fun l hl=>(by obtain⟨x,_,rfl⟩:=List.mem_map.1 hl;rfl)),rfl,back_eq hH bt⟩
def vQ (fr:Go.V.Fr) (k:Nat):Go.V.D:=Go.V.nth .bD fr.loc k
section
variable{A:List bJ} {N kS kd kv ks:Nat} {S s0:St} {p:Pg} {pl:Nat} {ld:D} {L:List VL} {h:List UInt8} {H:List bJ}
theorem SH.pull (A:List bJ) (hM:SH [] N S s0 kS kd kv ks p pl ld L h (A++H)):SH A N S s0 kS kd kv ks p pl ld L h H:=by
 obtain⟨pd,qd,P,Q,sn,js,hH,h1,h2,h3⟩:=hM;refine⟨pd,qd,P,Q,sn,js,?_,h1,h2,h3⟩;have:=Has.lA (_::_::gh ks kv p pl ld pd qd P Q L) A (H:=H) (by simpa only[List.nil_append,List.cons_append,List.append_assoc] using hH)
 simpa only[List.cons_append,List.append_assoc] using this
theorem SH.push (hM:SH A N S s0 kS kd kv ks p pl ld L h H):SH [] N S s0 kS kd kv ks p pl ld L h (A++H):=by
 obtain⟨pd,qd,P,Q,sn,js,hH,h1,h2,h3⟩:=hM;refine⟨pd,qd,P,Q,sn,js,?_,h1,h2,h3⟩;have:=Has.lA A (_::_::gh ks kv p pl ld pd qd P Q L) (H:=H) (by simpa only[List.cons_append,List.append_assoc] using hH)
 simpa only[List.nil_append,List.cons_append,List.append_assoc] using this
theorem SH.has (hM:SH A N S s0 kS kd kv ks p pl ld L h H):Has N S s0 A:=by
 obtain⟨pd,qd,P,Q,sn,js,hH,h1,h2,h3⟩:=hM;have:=hH.take A.length
 rwa [List.take_left] at this
end
theorem Ez (pl:Nat) (L:List PL):uy pl L=.agg [.int .i64 (pl:Nat),jE L]:=rfl
theorem tF (dB:∀st,Ev pv 67 [] st (.agg (ay bX)) st) {s0:St} {p:Pg} {x y:D} {h:List UInt8} {pl:Nat} {V:List VL} {ls:List PL} (hp:p.ok) (hR:bE p) (hx:dr x 1 (byteCells h)) (h3:h.length≤3) (ib:pl≤2000000000000) (hy:dr y 12 (V.map dP)) (hV:∀l∈V,dr l.td 11 (l.bB.map aK)) (Ab:V.map VL.pl=ls) (wG:ls.length=p.ak.length) (bA:∀l∈ls,l.ok p.code.length):
  Ev pv 36 [p.d,.agg [x,.int .i64 (pl:Nat),y]] s0 (jE ((gJ p.code (ba p) (iq h.length) pl ls).2.map (jc p.code (gJ p.code (ba p) (iq h.length) pl ls).1))) s0:=by
 have hbl:(iq h.length).length=h.length:=by unfold iq;rw[List.length_replicate]
 have gi:=fun(st:St) (pl:Nat) (y:D) (V:List VL) (L:List PL) (r n:Int) (h1:pl≤3000000000000) (hy:dr y 12 (V.map dP)) (hV:∀l∈V,dr l.td 11 (l.bB.map aK)) (Ab:V.map VL.pl=L) (h2:L.length=p.ak.length) (h3:∀l∈L,l.ok p.code.length)=>B_ (s0:=st) (pl:=pl) (L:=L) (r:=r) (n:=n) dB hp hR h1 hy hV Ab h2 h3;have hen:=fun(st:St) (pl:Nat) (y:D) (V:List VL) (L:List PL) (h1:pl≤4000000000000) (hy:dr y 12 (V.map dP)) (hV:∀l∈V,dr l.td 11 (l.bB.map aK)) (Ab:V.map VL.pl=L) (h2:L.length=p.ak.length) (h3:∀l∈L,l.ok p.code.length)=>Ca (s0:=st) (pl:=pl) (L:=L) hp hR h1 hy hV Ab h2 h3;simp only[Ez] at gi hen;have hcl:=hx.cells;have abS:=hy.cells;have Tk:=bI h;have Ul:=hx.arg s0.bs.length;unfold Pg.d at*;refine Ev.h_ rfl Z4 rfl rfl rfl ?_;dsimp only[u3,u4,List.length,Nat.reduceSub,Nat.reduceAdd,w1,w2];obtain⟨bt,hF,hH⟩:=ri s0;generalize ah .ro s0=S at*;have Ul:=Ul S;refine qq<|qj fun K hK=>qb hH fun k2 st hk2 hH=>?_;dsimp only[u2,u1,u3,u4,setMany,u5,u6,D.cells,Nat.reduceAdd,Pg.cs,bo] at hH;refine qb hH fun k3 st qX hH=>?_;refine qm ?_;refine qe hK<|qq<|qj fun K hK=>qp (o:=1) ?_;refine aa.aF (m:=2) hH rfl (ev rfl) (by exact av) (by dsimp only[List.drop_succ_cons,List.drop_zero,List.take_succ_cons,List.take_zero,Pg.cs,bo]<;>rfl) rfl rfl (ae rfl _) ?_;refine qa hH fun k5 st yh hH=>?_;refine qS hH av fun st hH=>?_;dsimp only[u2,u1,u3,u4,setMany,u5,u6,D.cells,Nat.reduceAdd,Pg.cs,bo] at hH;refine qe hK<|qq<|qq<|qj fun K hK=>qm ?_;refine qe hK<|ab.block<|ab.loop (fun mm fr st=>∃(i tu:Nat) (y':D) (V':List VL) (L_:List PL),fr.clean=⟨7,[vQ fr 0,vQ fr 1,.ptr k2 0 0,.ptr k3 0 0,vQ fr 4,.ptr k5 0 0,.int .i64 (i:Nat)],[]⟩∧Has s0.bs.length S st [.box k5 (.mem 0 false [.int .i64 (tu:Nat),y']),.box k3 (.mem 0 false [x,.int .i64 (pl:Nat),y]),.box k2 (.mem 0 false [p.cd,p.sd])]∧(i+mm=h.length)∧(gJ p.code (ba p) (iq mm) tu L_=gJ p.code (ba p) (iq h.length) pl ls)∧(tu≤pl+4*i)∧(L_.length=p.ak.length)∧(∀l∈L_,l.ok p.code.length)∧(dr y' 12 (V'.map dP))∧(∀l∈V',dr l.td 11 (l.bB.map aK))∧(V'.map VL.pl=L_)) (h.length) ?_ ?_
 ·exact⟨0,pl,y,V,ls,rfl,hH,by omega,rfl,by omega,wG,bA,hy,hV,Ab⟩
 rintro mm fr st ⟨i,tu,y',V',L_,hfr,hH,hi,j_,Yb,R4,gM,Ct,hV2,Vo⟩;rw[hfr];clear hfr;generalize vQ fr=ee;clear fr;have jJ:=Ct.cells;refine qq<|qq<|qj fun K hK=>qm ?_;refine qp (o:=0) ?_;refine ql hH bh ?_;refine qn ?_;refine qg ?_;refine qe hK ?_;rw[Tk];refine ab.cond (by rfl) (fun hlt=>?_) (fun hlt=>?_)<;>try simp only[decide_eq_true_eq,decide_eq_false_iff_not] at hlt
 ·refine ab.skip ?_;have Y7:=ke 1;refine qq<|ab.block<|qj fun K hK=>?_;refine aa.aF (m:=2) hH rfl (ev rfl) (by exact dF) (by dsimp only[List.drop_succ_cons,List.drop_zero,List.take_succ_cons,List.take_zero,Pg.cs,bo]<;>rfl) rfl rfl (ae rfl _) ?_;refine aa.aF (m:=2) hH rfl (ev rfl) (by exact av) (by dsimp only[List.drop_succ_cons,List.drop_zero,List.take_succ_cons,List.take_zero,Pg.cs,bo]<;>rfl) rfl rfl (ae rfl _) ?_;refine qv ((gi _ _ _ _ _ _ _ (by omega) Ct hV2 Vo R4 gM)) ?_;refine qS hH av fun st hH=>?_;dsimp only[u2,u1,u3,u4,setMany,u5,u6,D.cells,Nat.reduceAdd,Pg.cs,bo] at hH;refine qe hK<|qj fun K hK=>qm ?_;refine qA ?_;refine qm ?_;refine qe hK ?_
  obtain⟨m,rfl⟩:∃m,mm=m+1:=⟨mm-1,by omega⟩
  exact⟨m,by omega,⟨i+1,tu+dO 1,jE (dj p.code tu 65533 (ba p) L_),(dj p.code tu 65533 (ba p) L_).map PL.v,dj p.code tu 65533 (ba p) L_,rfl,hH,by omega,(by rw[←j_];rfl),by omega,(by rw[gR _ _ _ _ _ (by unfold ba;rw[List.length_map];omega)];exact R4),(fun l hl=>l6 hR (mM hR) l hl),(by rw[Gf];exact nN _),Xc _,Xd _⟩⟩
 ·refine ab.exit ?_;have kW:mm=0:=by omega
  subst kW;have j_:(tu,L_)=gJ p.code (ba p) (iq h.length) pl ls:=j_;rw[←j_];refine qq<|qj fun K hK=>?_;refine aa.aF (m:=2) hH rfl (ev rfl) (by exact dF) (by dsimp only[List.drop_succ_cons,List.drop_zero,List.take_succ_cons,List.take_zero,Pg.cs,bo]<;>rfl) rfl rfl (ae rfl _) ?_;refine aa.aF (m:=2) hH rfl (ev rfl) (by exact av) (by dsimp only[List.drop_succ_cons,List.drop_zero,List.take_succ_cons,List.take_zero,Pg.cs,bo]<;>rfl) rfl rfl (ae rfl _) ?_;refine qv ((hen _ _ _ _ _ (by omega) Ct hV2 Vo R4 gM)) ?_;refine qm ?_;refine qe hK<|ab.ret ⟨rx,_,rfl,rl bt hH (rfl)⟩
theorem B2 {s0:St} {x y lx ly:D} {es fs:List (List D)} {h:List UInt8} {pl:Int} {L:List PL} (hx:dr x 1 (byteCells h)) (hy:dr y 1 (byteCells h)) (z6:h.length≤1048576) (MI:dr lx 12 es) (hly:dr ly 12 fs) (o9:mJ es L) (E0:mJ fs L) (hl:L.length≤1000) (tv:∀l∈L,l.bB.length≤1000):Ev pv 33 [.agg [x,.int .i64 pl,lx],.agg [y,.int .i64 pl,ly]] s0 (.bool true) s0:=by
 have hsb:=fun st=>B3 (st:=st) (x:=x) (y:=y) (l:=h) (hx.rows st) (hy.rows st) (by omega);have hm:=fun st=>vK (s0:=st) (pl:=pl) (MI.rows st) (hly.rows st) o9 E0 hl tv;have hcl:=hx.cells;have jJ:=hy.cells;have CG:=MI.cells;have E6:=hly.cells;refine Ev.h_ rfl Z7 rfl rfl rfl ?_;dsimp only[u3,u4,List.length,Nat.reduceSub,Nat.reduceAdd,w1,w2];obtain⟨bt,hF,hH⟩:=ri s0;generalize ah .ro s0=S at*;refine qq<|qj fun K hK=>qb hH fun k2 st hk2 hH=>?_;refine qb hH fun k3 st qX hH=>?_;refine qm ?_;refine qe hK ?_;have bk:true=true:=rfl;refine qq<|qj fun K hK=>qp (o:=0) ?_;refine ql hH bh ?_;refine qp (o:=0) ?_;refine ql hH av ?_;refine qv ((hsb _)) ?_;refine qm ?_;refine qp (o:=1) ?_ (hg:=wi bk);refine aa.aF (m:=2) hH (aq rfl rfl rfl bk) (ev rfl) (by exact bh) (by dsimp only[List.drop_succ_cons,List.drop_zero,List.take_succ_cons,List.take_zero,Pg.cs,bo]<;>rfl) rfl rfl (ae rfl _) ?_;refine qp (o:=1) ?_ (hg:=wi bk);refine aa.aF (m:=2) hH (aq rfl rfl rfl bk) (ev rfl) (by exact av) (by dsimp only[List.drop_succ_cons,List.drop_zero,List.take_succ_cons,List.take_zero,Pg.cs,bo]<;>rfl) rfl rfl (ae rfl _) ?_;refine qv ((hm _)) ?_ (hg:=wi bk);refine qt bk ?_;refine qm ?_;refine qe hK<|ab.ret ⟨rx,_,rfl,rl bt hH (rfl)⟩
end Go.Proofs.YtbdnabmmlbiomaaGreat
namespace Go.Proofs.YtbdnabmmlbiomaaGreat
open Go.V Go
def iY (fr:Go.V.Fr) (k:Nat):Go.V.D:=Go.V.nth .bD fr.loc k
def eu (f:nc) (to:Int):Prop:=∀i,i<10→-1≤f i∧f i≤to
theorem FD {f:nc} {st:St} {i:Nat} (hi:i<10):(su pv 45 (.agg (ay f)) (.int .i64 (i:Nat))).map (fun d=>(d,st))=some (.int .i64 (f i),st):=by
 match i,hi with
 |0,_=>rfl
 |1,_=>rfl
 |2,_=>rfl
 |3,_=>rfl
 |4,_=>rfl
 |5,_=>rfl
 |6,_=>rfl
 |7,_=>rfl
 |8,_=>rfl
 |9,_=>rfl
theorem u7 {f:nc} {i:Nat} (hi:i<10):dW pv 3 ((ay f).drop (0+i*1))=some (.int .i64 (f i)):=by
 match i,hi with
 |0,_=>rfl
 |1,_=>rfl
 |2,_=>rfl
 |3,_=>rfl
 |4,_=>rfl
 |5,_=>rfl
 |6,_=>rfl
 |7,_=>rfl
 |8,_=>rfl
 |9,_=>rfl
theorem BG {st:St} {k i:Nat} (hi:i<10):(cm pv 45 (.ptr k 0 0) (.int .i64 (i:Nat)) st).map (fun d=>(d,st))=some (.ptr k 0 (0+i*1),st):=by
 show Option.map _ (if(0:Int)≤(i:Nat)∧((i:Nat):Int)<((10:Nat):Int) then some (D.ptr k 0 (0+((i:Nat):Int).toNat*1)) else none)=_;rw[if_pos ⟨by omega,by omega⟩];rfl
theorem oN {s0:St} (f:nc) (to:Int):Ev pv 60 [.agg (ay f),.int .i64 to] s0 (.bool (dec (eu f to))) s0:=by
 refine Ev.h_ rfl ZT rfl rfl rfl ?_;dsimp only[u3,u4,List.length,Nat.reduceSub,Nat.reduceAdd,w1,w2];obtain⟨bt,hF,hH⟩:=ri s0;generalize ah .ro s0=S at*;refine qq<|qj fun K hK=>qb hH fun k2 st hk2 hH=>?_;refine qm ?_;refine qe hK<|qq<|qq<|qj fun K hK=>?_;refine aa.aF (m:=10) hH rfl (ev rfl) (by exact av) (by dsimp only[List.drop_succ_cons,List.drop_zero,List.take_succ_cons,List.take_zero]<;>rfl) rfl rfl (by dsimp only[Fr.put,u1,u2]<;>rfl) ?_;refine qm ?_;refine qe hK<|ab.block<|ab.loop (fun mm fr st=>∃(i:Nat),fr.clean=⟨9,[iY fr 0,.int .i64 to,iY fr 2,iY fr 3,iY fr 4,iY fr 5,iY fr 6,.agg (ay f),.int .i64 (i:Nat)],[]⟩∧Has s0.bs.length S st [.box k2 (.mem 0 false (ay f))]∧(i+mm=10)∧(∀j,j<i→-1≤f j∧f j≤to)) (10) ?_ ?_
 ·exact⟨0,rfl,hH,by omega,by intro j h;omega⟩
 rintro mm fr st ⟨i,hfr,hH,hi,hpre⟩;rw[hfr];clear hfr;generalize iY fr=ee;clear fr;refine qq<|qj fun K hK=>qg ?_;refine qe hK<|qq ?_;refine ab.cond (by rfl) (fun hlt=>?_) (fun hlt=>?_)<;>try simp only[decide_eq_true_eq,decide_eq_false_iff_not] at hlt
 ·refine ab.skip<|qq<|ab.block<|qq<|qj fun K hK=>aa.go (d:=.int .i64 (f i)) (st1:=_) rfl rfl (FD (by omega)) (ae rfl _) ?_;refine qm ?_;refine qe hK<|qq<|ab.dz 17 (.bool (decide (f i< -1)||decide (f i>to))) [] ?_ (fun ff tmp cY=>?_)
  ·refine qm ?_;refine qg ?_;refine qm ?_;refine aa.two 13 rfl (fun aZ=>?_) (fun aZ=>?_)
   ·refine qs ?_ (hg:=wn aZ);refine qs ?_ (hg:=wn aZ);refine qs ?_ (hg:=wn aZ);refine qt aZ ?_;refine aa.nil (aY ?_ ?_)
    ·dsimp only[aB,List.foldl,nth,u2,u1]
     all_goals(first|rfl|simp)
    ·dsimp only[Fr.aj,Fr.put,Fr.clean,Fr.ev,Fr.get,nth,V.look,u1,u2,v1,v2,v3,v4,v5,v6,v7,List.length,u3,u4,Nat.reduceSub,Nat.reduceAdd,List.map]
     all_goals(simp[aZ];done)
   ·refine qm ?_ (hg:=wi aZ);refine qm ?_ (hg:=wi aZ);refine qg ?_ (hg:=wi aZ);refine qu aZ ?_;refine aa.nil (aY ?_ ?_)
    ·dsimp only[aB,List.foldl,nth,u2,u1]
     all_goals(first|rfl|simp)
    ·dsimp only[Fr.aj,Fr.put,Fr.clean,Fr.ev,Fr.get,nth,V.look,u1,u2,v1,v2,v3,v4,v5,v6,v7,List.length,u3,u4,Nat.reduceSub,Nat.reduceAdd,List.map]
     all_goals(simp[aZ];done)
  dsimp only[aB,List.foldl,nth,u2,u1];dsimp only[Fr.aj,Fr.put,Fr.clean,Fr.ev,Fr.get,nth,V.look,u1,u2,v1,v2,v3,v4,v5,v6,v7,List.length,u3,u4,Nat.reduceSub,Nat.reduceAdd,List.map];refine qc (fun h2=>?_) (fun h2=>?_)<;>try simp only[cs] at h2
  ·rw[cQ (fun h=>by have:=h i (by omega);simp at h2;omega)];refine qq<|qj fun K hK=>qm ?_;refine qe hK<|ab.ret ⟨rx,_,rfl,rl bt hH (rfl)⟩
  ·refine ab.skip<|qj fun K hK=>qA ?_;refine qm ?_;refine qe hK ?_;refine⟨mm-1,by omega,⟨i+1,rfl,hH,by omega,?_⟩⟩;intro j hj
   by_cases he:j=i
   ·subst he;simp at h2;omega
   ·exact hpre j (by omega)
 ·refine ab.exit ?_;rw[cD (q:=eu f to) (fun j hj=>hpre j (by omega))];refine qq<|qj fun K hK=>qm ?_;refine qe hK<|ab.ret ⟨rx,_,rfl,rl bt hH (rfl)⟩
theorem rG {s0:St} (f:nc) (to:Int):Ev pv 66 [.agg (ay f),.int .i64 to] s0 (.bool (dec (eu f to))) s0:=by
 refine Ev.h_ rfl ZN rfl rfl rfl ?_;dsimp only[u3,u4,List.length,Nat.reduceSub,Nat.reduceAdd,w1,w2];obtain⟨bt,hF,hH⟩:=ri s0;generalize ah .ro s0=S at*;refine qq<|qj fun K hK=>qb hH fun k2 st hk2 hH=>?_;refine qm ?_;refine qe hK<|qq<|qq<|qj fun K hK=>qm ?_;refine qe hK<|ab.block<|ab.loop (fun mm fr st=>∃(i:Nat),fr.clean=⟨6,[iY fr 0,.int .i64 to,.ptr k2 0 0,iY fr 3,iY fr 4,.int .i64 (i:Nat)],[]⟩∧Has s0.bs.length S st [.box k2 (.mem 0 false (ay f))]∧(i+mm=10)∧(∀j,j<i→-1≤f j∧f j≤to)) (10) ?_ ?_
 ·exact⟨0,rfl,hH,by omega,by intro j h;omega⟩
 rintro mm fr st ⟨i,hfr,hH,hi,hpre⟩;rw[hfr];clear hfr;generalize iY fr=ee;clear fr;refine qq<|qq<|qj fun K hK=>qm ?_;refine qg ?_;refine qe hK ?_;refine ab.cond (by rfl) (fun hlt=>?_) (fun hlt=>?_)<;>try simp only[decide_eq_true_eq,decide_eq_false_iff_not] at hlt
 ·refine ab.skip<|qq<|ab.block<|qq<|ab.dz 20 (.bool (decide (f i< -1)||decide (f i>to))) [] ?_ (fun ff tmp cY=>?_)
  ·refine qm ?_;refine aa.go (d:=.ptr k2 0 (0+i*1)) (st1:=_) rfl rfl (BG (by omega)) (ae rfl _) ?_;refine aa.uG hH rfl rfl av (u7 (by omega)) (ae rfl _) ?_;refine qg ?_;refine qm ?_;refine aa.two 14 rfl (fun cx=>?_) (fun cx=>?_)
   ·refine qs ?_ (hg:=wn cx);refine qs ?_ (hg:=wn cx);refine qs ?_ (hg:=wn cx);refine qs ?_ (hg:=wn cx);refine qs ?_ (hg:=wn cx);refine qt cx ?_;refine aa.nil (aY ?_ ?_)
    ·dsimp only[aB,List.foldl,nth,u2,u1]
     all_goals(first|rfl|simp)
    ·dsimp only[Fr.aj,Fr.put,Fr.clean,Fr.ev,Fr.get,nth,V.look,u1,u2,v1,v2,v3,v4,v5,v6,v7,List.length,u3,u4,Nat.reduceSub,Nat.reduceAdd,List.map]
     all_goals(simp[cx];done)
   ·refine qm ?_ (hg:=wi cx);refine aa.go (d:=.ptr k2 0 (0+i*1)) (st1:=_) (aq rfl rfl rfl cx) rfl (BG (by omega)) (ae rfl _) ?_;refine aa.uG hH (aq rfl rfl rfl cx) rfl av (u7 (by omega)) (ae rfl _) ?_;refine qm ?_ (hg:=wi cx);refine qg ?_ (hg:=wi cx);refine qu cx ?_;refine aa.nil (aY ?_ ?_)
    ·dsimp only[aB,List.foldl,nth,u2,u1]
     all_goals(first|rfl|simp)
    ·dsimp only[Fr.aj,Fr.put,Fr.clean,Fr.ev,Fr.get,nth,V.look,u1,u2,v1,v2,v3,v4,v5,v6,v7,List.length,u3,u4,Nat.reduceSub,Nat.reduceAdd,List.map]
     all_goals(simp[cx];done)
  dsimp only[aB,List.foldl,nth,u2,u1];dsimp only[Fr.aj,Fr.put,Fr.clean,Fr.ev,Fr.get,nth,V.look,u1,u2,v1,v2,v3,v4,v5,v6,v7,List.length,u3,u4,Nat.reduceSub,Nat.reduceAdd,List.map];refine qc (fun h2=>?_) (fun h2=>?_)<;>try simp only[cs] at h2
  ·rw[cQ (fun h=>by have:=h i (by omega);simp at h2;omega)];refine qq<|qj fun K hK=>qm ?_;refine qe hK<|ab.ret ⟨rx,_,rfl,rl bt hH (rfl)⟩
  ·refine ab.skip<|qj fun K hK=>qm ?_;refine qA ?_;refine qm ?_;refine qe hK ?_;refine⟨mm-1,by omega,⟨i+1,rfl,hH,by omega,?_⟩⟩;intro j hj
   by_cases he:j=i
   ·subst he;simp at h2;omega
   ·exact hpre j (by omega)
 ·refine ab.exit ?_;rw[cD (q:=eu f to) (fun j hj=>hpre j (by omega))];refine qq<|qj fun K hK=>qm ?_;refine qe hK<|ab.ret ⟨rx,_,rfl,rl bt hH (rfl)⟩
end Go.Proofs.YtbdnabmmlbiomaaGreat
namespace Go.V
def j5 (l:List (Int×Int)):List (D×D):=l.map fun p=>(.int .i64 p.1,.int .i64 p.2)
def getM:List (Int×Int)→Int→Int
 |[],_=>0
 |(k,x)::l,n=>if n=k then x else getM l n
def oM:List (Int×Int)→Int→Int→List (Int×Int)
 |[],n,v=>[(n,v)]
 |(k,x)::l,n,v=>if n=k then(n,v)::l else(k,x)::oM l n v
theorem nW (n v m:Int):∀l,getM (oM l n v) m=if m=n then v else getM l m
 |[]=>rfl
 |(k,x)::l=>by
  unfold oM
  by_cases h:n=k
  ·subst h;rw[if_pos rfl];unfold getM
   by_cases h2:m=n<;>simp[h2]
  ·rw[if_neg h];unfold getM;rw[nW n v m l]
   by_cases h2:m=n
   ·subst h2;simp[h]
   ·simp[h2]
theorem sR (n:Int):∀(l:List (Int×Int)) (i:Nat),(gy .i64 n (j5 l) i=some none∧getM l n=0∧∀v,oM l n v=l++[(n,v)])∨∃j,gy .i64 n (j5 l) i=some (some (i+j,.int .i64 (getM l n)))∧∀v,oM l n v=l.set j (n,v)
 |[],i=>.inl ⟨rfl,rfl,fun v=>rfl⟩
 |(k,x)::l,i=>by
  by_cases h:n=k
  ·subst h;exact .inr ⟨0,by simp[j5,gy,getM],fun v=>by simp[oM]⟩
  ·have hb:(n==k)=false:=by simpa using h
   rcases sR n l (i+1) with⟨h1,h2,h3⟩|⟨j,h1,h3⟩
   ·refine .inl ⟨?_,by simp[getM,h,h2],fun v=>by simp[oM,h,h3 v]⟩;show(if IntKind.i64=IntKind.i64 then(if(n==k)=true then some (some (i,D.int .i64 x)) else gy .i64 n (j5 l) (i+1)) else none)=_;rw[hb];exact h1
   ·refine .inr ⟨j+1,?_,fun v=>by simp[oM,h,h3 v]⟩;show(if IntKind.i64=IntKind.i64 then(if(n==k)=true then some (some (i,D.int .i64 x)) else gy .i64 n (j5 l) (i+1)) else none)=_;rw[hb];simp only[getM,h,if_false];rw[show i+(j+1)=i+1+j by omega];exact h1
variable{P:Pv}
theorem rV {st:St} {k:Nat} {l:List (Int×Int)} {t kt e:TypeId} {kk:IntKind} {n v:Int} (ht:P.cJ t=some (.map kt e)) (hk:P.cJ kt=some (.int kk)) (hb:st.bs[k]?=some (.map (j5 l))) (hw:st.jn k 0=true):
  jt P t (.mp k) (.int .i64 n) (.int .i64 v) st=some {st with bs:=st.bs.set k (.map (j5 (oM l n v)))}:=by
 unfold jt;simp only[ht,hk,hb,hw]
 rcases sR n l 0 with⟨h1,_,h3⟩|⟨j,h1,h3⟩
 ·rw[h1,h3 v];simp[j5]
 ·rw[h1,h3 v];simp[j5]
theorem zI {st:St} {k:Nat} {l:List (Int×Int)} {t kt e:TypeId} {kk:IntKind} {n:Int} (ht:P.cJ t=some (.map kt e)) (hk:P.cJ kt=some (.int kk)) (he:tQ P e=some (.int .i64 0)) (hb:st.bs[k]?=some (.map (j5 l))):
  nM P t (.mp k) (.int .i64 n) st=some (.int .i64 (getM l n)):=by
 unfold nM;simp only[ht,hk,hb]
 rcases sR n l 0 with⟨h1,h2,_⟩|⟨j,h1,_⟩
 ·rw[h1,h2];exact he
 ·rw[h1]
variable{N:Nat} {S st:St} {H:List bJ} {fr aM:Fr} {ops:Array Oper} {rest:List Oper} {Q:Fr→St→Prop} {dst ty:Nat} {pp:String} {a:Array Edge} {g:Option (Nat×Bool)}
theorem aa.v_ {t:TypeId} {aM:Nat→Fr} (hH:Has N S st H) (hg:aH ops fr ⟨some dst,.makeMap t none,ty,pp,a,g⟩=some true) (hp:∀k,fr.put dst (.mp k)=aM k)
  (h:∀k ai,S.bs.length≤k→Has N S ai (.box k (.map (j5 []))::H)→aa P ops rest (aM k) ai Q):aa P ops (⟨some dst,.makeMap t none,ty,pp,a,g⟩::rest) fr st Q:=
 aa.go hg rfl (d:=.mp st.bs.length) (st1:=st.push (.map [])) rfl (hp _) (h _ _ hH.len (hH.nD _))
theorem aa.Bp {j k:Nat} {l:List (Int×Int)} {t kt e:TypeId} {kk:IntKind} {n v:Int} {mo ko vo:Operand} (hH:Has N S st H) (hg:aH ops fr ⟨none,.mapUpdate t mo ko vo,ty,pp,a,g⟩=some true) (ht:P.cJ t=some (.map kt e)) (hk:P.cJ kt=some (.int kk)) (hm:fr.ev mo=.mp k) (hn:fr.ev ko=.int .i64 n) (hv:fr.ev vo=.int .i64 v) (hj:H[j]?=some (.box k (.map (j5 l))))
  (h:∀ai,Has N S ai (H.set j (.box k (.map (j5 (oM l n v)))))→aa P ops rest fr ai Q):aa P ops (⟨none,.mapUpdate t mo ko vo,ty,pp,a,g⟩::rest) fr st Q:=by
 refine aa.N hg rfl (d:=.tup []) (st1:=⟨st.bs.set k (.map (j5 (oM l n v))),st.flr,st.ro⟩) ?_ (h _ (hH.ry (aG:=0) hj));simp only[ef,hm,hn,hv,rV ht hk (hH.at hj) (ig hH (cs:=[]) (hH.ge hj).1 (.inr rfl)),Option.map_some]
theorem aa.MD {j k:Nat} {l:List (Int×Int)} {t kt e:TypeId} {kk:IntKind} {n v:Int} {mo ko vo:Operand} (hH:Has N S st H) (hg:aH ops fr ⟨none,.insert t mo ko vo,ty,pp,a,g⟩=some true) (ht:P.cJ t=some (.map kt e)) (hk:P.cJ kt=some (.int kk)) (hm:fr.ev mo=.mp k) (hn:fr.ev ko=.int .i64 n) (hv:fr.ev vo=.int .i64 v) (hj:H[j]?=some (.box k (.map (j5 l))))
  (h:∀ai,Has N S ai (H.set j (.box k (.map (j5 (oM l n v)))))→aa P ops rest fr ai Q):aa P ops (⟨none,.insert t mo ko vo,ty,pp,a,g⟩::rest) fr st Q:=by
 refine aa.N hg rfl (d:=.tup []) (st1:=⟨st.bs.set k (.map (j5 (oM l n v))),st.flr,st.ro⟩) ?_ (h _ (hH.ry (aG:=0) hj));simp only[ef,hm,hn,hv,rV ht hk (hH.at hj) (ig hH (cs:=[]) (hH.ge hj).1 (.inr rfl)),Option.map_some]
theorem aa.ME {j k:Nat} {l:List (Int×Int)} {t kt e:TypeId} {kk:IntKind} {n:Int} {mo ko:Operand} (hH:Has N S st H) (hg:aH ops fr ⟨some dst,.lookup t mo ko false,ty,pp,a,g⟩=some true) (ht:P.cJ t=some (.map kt e)) (hk:P.cJ kt=some (.int kk)) (he:tQ P e=some (.int .i64 0)) (hm:fr.ev mo=.mp k) (hn:fr.ev ko=.int .i64 n) (hj:H[j]?=some (.box k (.map (j5 l)))) (hp:fr.put dst (.int .i64 (getM l n))=aM)
  (h:aa P ops rest aM st Q):aa P ops (⟨some dst,.lookup t mo ko false,ty,pp,a,g⟩::rest) fr st Q:=by
 refine aa.go hg rfl (d:=.int .i64 (getM l n)) (st1:=st) ?_ hp h;simp only[ef,hm,hn,zI ht hk he (hH.at hj),Option.map_some]
end Go.V
namespace Go.Proofs.YtbdnabmmlbiomaaGreat
open Go.V Go
def aI (fr:Go.V.Fr) (k:Nat):Go.V.D:=Go.V.nth .bD fr.loc k
structure GT where
 pc:Int
 c:nc
def fe (t:GT):List D:=[.int .i64 t.pc,.int .i64 (t.c 0),.int .i64 (t.c 1),.int .i64 (t.c 2),.int .i64 (t.c 3),.int .i64 (t.c 4),.int .i64 (t.c 5),.int .i64 (t.c 6),.int .i64 (t.c 7),.int .i64 (t.c 8),.int .i64 (t.c 9)]
theorem Fc {l:List GT} {i:Nat} {q:GT} (h:l[i]?=some q):(l.map fe)[i]?=some (fe q):=by rw[List.getElem?_map,h];rfl
def sM (p:Pg) (s:Int) (m:Nat) (n:Int):Prop:=n=s∨∃i q,i<m∧n=((i+1:Nat):Int)∧(bF p.code s)[i]?=some true∧p.code[i]?=some q∧q.op=1
def mG (p:Pg) (s:Int) (bB:List GT) (m:Nat) (n:Int):Prop:=sM p s p.code.length n∧∀j t,j<m→bB[j]?=some t→t.pc≠n
def ki (p:Pg) (s:Int) (bB:List GT) (place:Int) (m:Nat):Prop:=∀j t,j<m→bB[j]?=some t→mG p s bB j t.pc∧eu t.c place
theorem sK {p:Pg} {s:Int} {m:Nat} {n:Int} {b:Bool} {q:aQ} (hb:(bF p.code s)[m]?=some b) (hq:p.code[m]?=some q):sM p s (m+1) n↔sM p s m n∨(n=((m+1:Nat):Int)∧(b &&(q.op==1))=true):=by
 unfold sM;constructor
 ·rintro(h|⟨i,q',h1,h2,h3,h4,h5⟩)
  ·exact .inl (.inl h)
  ·by_cases he:i=m
   ·subst he;rw[hb] at h3;cases h3;rw[hq] at h4;cases h4;exact .inr ⟨h2,by simp[h5]⟩
   ·exact .inl (.inr ⟨i,q',by omega,h2,h3,h4,h5⟩)
 ·rintro((h|⟨i,q',h1,h2,h3,h4,h5⟩)|⟨h1,h2⟩)
  ·exact .inl h
  ·exact .inr ⟨i,q',by omega,h2,h3,h4,h5⟩
  ·simp only[Bool.and_eq_true,beq_iff_eq] at h2;obtain⟨rfl,h2⟩:=h2;exact .inr ⟨m,q,by omega,h1,hb,hq,h2⟩
theorem Ad {p:Pg} {s:Int} {bB:List GT} {j:Nat} {n:Int} {t:GT} (ht:bB[j]?=some t):mG p s bB (j+1) n↔mG p s bB j n∧n≠t.pc:=by
 unfold mG;constructor
 ·rintro⟨h1,h2⟩;exact⟨⟨h1,fun j' t' hj h=>h2 j' t' (by omega) h⟩,fun h=>h2 j t (by omega) ht h.symm⟩
 ·rintro⟨⟨h1,h2⟩,h3⟩;refine⟨h1,fun j' t' hj h=>?_⟩
  by_cases he:j'=j
  ·subst he;rw[ht] at h;cases h;exact fun h=>h3 h.symm
  ·exact h2 j' t' (by omega) h
theorem py {p:Pg} {s place:Int} {bB:List GT} {j:Nat} {t:GT} (ht:bB[j]?=some t) (h:ki p s bB place j) (h1:mG p s bB j t.pc) (h2:eu t.c place):ki p s bB place (j+1):=by
 intro j' t' hj h'
 by_cases he:j'=j
 ·subst he;rw[ht] at h';cases h';exact⟨h1,h2⟩
 ·exact h j' t' (by omega) h'
theorem Dl {s0:St} {p:Pg} (hp:p.ok) (hR:bE p) {r:Nat} {s:Int} (hr:p.ak[r]?=some s) {dn:Bool} {b:nc} {td:D} {bB:List GT} (Cw:V.Rows s0 11 td (bB.map fe)) (hl:bB.length≤1048576) (place:Int):
  Ev pv 61 [p.d,.int .i64 (r:Nat),.agg (aJ dn b td),.int .i64 place] s0 (.bool (dec (ki p s bB place bB.length))) s0:=by
 have hcl:=hR.closed;have gi:=hR.st s (List.mem_of_getElem? hr);have yW:=hp.c;have hlen:=hp.cl;have ni:=kA p.code s;have hr8:=hR.sl;have aaV:=bC hr;refine Ev.h_ rfl ZS rfl rfl rfl ?_;dsimp only[u3,u4,List.length,Nat.reduceSub,Nat.reduceAdd,w1,w2];obtain⟨bt,hF,hH⟩:=ri s0;generalize ah .ro s0=S at*;have hc:=hp.c.arg s0.bs.length S;have hs:=hp.s.arg s0.bs.length S;have F6:=Arg.of Cw bt;have S9:=(mr (bF p.code s)).arg s0.bs.length S;have gB:=eA hr;unfold Pg.d;refine qq<|qj fun K hK=>qb hH fun k4 st Tf hH=>?_;dsimp only[u2,u1,u3,u4,setMany,u5,u6,D.cells,Nat.reduceAdd,aC,aJ,ay,aw,Pg.cs,fe,bf] at hH;refine qb hH fun k6 st F9 hH=>?_;dsimp only[u2,u1,u3,u4,setMany,u5,u6,D.cells,Nat.reduceAdd,aC,aJ,ay,aw,Pg.cs,fe,bf] at hH;refine qm ?_;refine qe hK<|qq<|qj fun K hK=>qp (o:=0) ?_;refine ql hH bh ?_;refine qp (o:=1) ?_;refine ql hH bh ?_;refine qm ?_;refine qr fun Q_ zT=>?_;refine qR ?_;refine qv ((BB yW hlen hcl gi)) ?_;refine qm ?_;refine qe hK<|qq<|qj fun K hK=>?_;refine aa.v_ hH rfl (fun _=>by dsimp only[Fr.put,u1,u2]<;>rfl) (fun km st Yz hH=>?_);refine qp (o:=1) ?_;refine ql hH dF ?_;refine qm ?_;refine qr fun Xy RV=>?_;refine qR ?_;refine aa.MD hH rfl rfl rfl rfl rfl rfl av (fun st hH=>?_);dsimp only[u2] at hH;refine qm ?_;refine qm ?_;refine qe hK<|qq<|qq<|qj fun K hK=>qm ?_;refine qn ?_;simp only[List.length_map];refine qm ?_;refine qe hK<|ab.block<|ab.loop (fun mm fr st=>∃(i:Nat) (M:List (Int×Int)),fr.clean=⟨55,[aI fr 0,.int .i64 (r:Nat),aI fr 2,.int .i64 place,.ptr k4 0 0,aI fr 5,.ptr k6 0 0,aI fr 7,aI fr 8,aI fr 9,.mp km,aI fr 11,aI fr 12,aI fr 13,aI fr 14,aI fr 15,aI fr 16,aI fr 17,aI fr 18,aI fr 19,aI fr 20,aI fr 21,aI fr 22,aI fr 23,aI fr 24,aI fr 25,aI fr 26,aI fr 27,aI fr 28,aI fr 29,nb (bF p.code s),.int .i64 ((bF p.code s).length:Nat),.int .i64 (i:Nat),aI fr 33,aI fr 34,aI fr 35,aI fr 36,aI fr 37,aI fr 38,aI fr 39,aI fr 40,aI fr 41,aI fr 42,aI fr 43,aI fr 44,aI fr 45,aI fr 46,aI fr 47,aI fr 48,aI fr 49,aI fr 50,aI fr 51,aI fr 52,aI fr 53,aI fr 54],[]⟩∧Has s0.bs.length S st [.box km (.map (j5 M)),.box k6 (.mem 0 false (aJ dn b td)),.box k4 (.mem 0 false [p.cd,p.sd])]∧(i+mm=p.code.length)∧(∀n,getM M n≠0↔sM p s i n)) (p.code.length) ?_ ?_
 ·refine⟨0,_,rfl,hH,by omega,?_⟩;intro n;rw[nW];unfold sM
  by_cases hn:n=s<;>simp[hn,getM]
 rintro mm fr st ⟨i,M,hfr,hH,hi,hM⟩;rw[hfr];clear hfr;generalize aI fr=ee;clear fr;refine qq<|qj fun K hK=>qg ?_;refine qe hK<|qq ?_;refine ab.cond (by rfl) (fun h1=>?_) (fun h1=>?_)<;>try simp only[decide_eq_true_eq,decide_eq_false_iff_not] at h1
 ·refine ab.skip ?_
  obtain⟨b,hb⟩:∃b,(bF p.code s)[i]?=some b:=⟨(bF p.code s)[i]'(by omega),List.getElem?_eq_getElem _⟩
  obtain⟨q,hq⟩:∃q,p.code[i]?=some q:=⟨p.code[i]'(by omega),List.getElem?_eq_getElem _⟩
  have gB:=il hb;have mV:=eB hq;refine qq<|ab.block<|qq<|qj fun K hK=>qm ?_;refine qr fun S1 CB=>?_;refine qR ?_;refine qm ?_;refine qm ?_;refine qe hK<|qq<|ab.lV 46 (.bool (b &&(q.op==1))) [37,38,39,40,41,42,43,44,45] ?_ (fun ff tmp=>?_)
  ·refine qm ?_;refine qm ?_;refine aa.two 38 rfl (fun cW=>?_) (fun cW=>?_)
   ·refine qp (o:=0) ?_ (hg:=wi cW);refine ql hH dF ?_ (hg:=wi cW);refine qm ?_ (hg:=wi cW);refine qr (fun p42 Ym=>?_) (hg:=wi cW);refine qf (fo:=0) (fun Xt RQ=>?_) (hg:=wi cW);refine qR ?_ (hg:=wi cW);refine qg ?_ (hg:=wi cW);refine qt cW ?_;refine aa.nil (bp ?_);dsimp only[aB,List.foldl,nth,u2,u1];dsimp only[Fr.aj,Fr.put,Fr.clean,Fr.ev,Fr.get,nth,V.look,u1,u2,v1,v2,v3,v4,v5,v6,v7,List.length,u3,u4,Nat.reduceSub,Nat.reduceAdd,List.map]
    all_goals(simp[cW];done)
   ·refine qs ?_ (hg:=wn cW);refine qs ?_ (hg:=wn cW);refine qs ?_ (hg:=wn cW);refine qs ?_ (hg:=wn cW);refine qs ?_ (hg:=wn cW);refine qs ?_ (hg:=wn cW);refine qs ?_ (hg:=wn cW);refine qu cW ?_;refine aa.nil (bp ?_);dsimp only[aB,List.foldl,nth,u2,u1];dsimp only[Fr.aj,Fr.put,Fr.clean,Fr.ev,Fr.get,nth,V.look,u1,u2,v1,v2,v3,v4,v5,v6,v7,List.length,u3,u4,Nat.reduceSub,Nat.reduceAdd,List.map]
    all_goals(simp[cW];done)
  dsimp only[aB,List.foldl,nth,u2,u1];generalize ff 37=e37;generalize ff 38=e38;generalize ff 39=e39;generalize ff 40=e40;generalize ff 41=e41;generalize ff 42=e42;generalize ff 43=e43;generalize ff 44=e44;generalize ff 45=e45;dsimp only[Fr.aj,Fr.put,Fr.clean,Fr.ev,Fr.get,nth,V.look,u1,u2,v1,v2,v3,v4,v5,v6,v7,List.length,u3,u4,Nat.reduceSub,Nat.reduceAdd,List.map];refine qc (fun h2=>?_) (fun h2=>?_)<;>try simp only[cs] at h2
  ·refine qj fun K hK=>qm ?_;refine qm ?_;refine qA ?_;refine aa.Bp hH rfl rfl rfl rfl rfl rfl av (fun st hH=>?_);dsimp only[u2] at hH;refine qe hK<|qj fun K hK=>qA ?_;refine qm ?_;refine qe hK ?_;refine⟨mm-1,by omega,⟨i+1,_,rfl,hH,by omega,?_⟩⟩;intro n;rw[nW,sK hb hq,h2,←hM n]
   by_cases hn:n=((i+1:Nat):Int)
   ·rw[if_pos (by rw[hn];omega)];simp[hn]
   ·rw[if_neg (by omega)];exact⟨.inl,fun h=>h.elim id fun h=>absurd h.1 hn⟩
  ·refine ab.skip<|qj fun K hK=>qA ?_;refine qm ?_;refine qe hK ?_;refine⟨mm-1,by omega,⟨i+1,_,rfl,hH,by omega,?_⟩⟩;intro n;rw[sK hb hq,←hM n];exact⟨.inl,fun h=>h.elim id fun h=>absurd h.2 (by rw[h2];decide)⟩
 ·refine ab.exit ?_;have hM:∀n,getM M n≠0↔mG p s bB 0 n:=fun n=>by rw[hM n];unfold mG;rw[show i=p.code.length by omega];simp
  refine qq<|qq<|qj fun K hK=>qp (o:=11) ?_;refine ql hH bh ?_;refine qn ?_;simp only[List.length_map];refine qm ?_;refine qe hK<|ab.block<|ab.loop (fun mm fr st=>∃(j:Nat) (M:List (Int×Int)),fr.clean=⟨55,[aI fr 0,.int .i64 (r:Nat),aI fr 2,.int .i64 place,.ptr k4 0 0,aI fr 5,.ptr k6 0 0,aI fr 7,aI fr 8,aI fr 9,.mp km,aI fr 11,aI fr 12,aI fr 13,aI fr 14,aI fr 15,aI fr 16,aI fr 17,aI fr 18,aI fr 19,aI fr 20,aI fr 21,aI fr 22,aI fr 23,aI fr 24,aI fr 25,aI fr 26,aI fr 27,aI fr 28,aI fr 29,aI fr 30,aI fr 31,aI fr 32,aI fr 33,aI fr 34,aI fr 35,aI fr 36,aI fr 37,aI fr 38,aI fr 39,aI fr 40,aI fr 41,aI fr 42,aI fr 43,aI fr 44,aI fr 45,aI fr 46,aI fr 47,aI fr 48,aI fr 49,aI fr 50,aI fr 51,td,.int .i64 (bB.length:Nat),.int .i64 (j:Nat)],[]⟩∧Has s0.bs.length S st [.box km (.map (j5 M)),.box k6 (.mem 0 false (aJ dn b td)),.box k4 (.mem 0 false [p.cd,p.sd])]∧(j+mm=bB.length)∧(∀n,getM M n≠0↔mG p s bB j n)∧(ki p s bB place j)) (bB.length) ?_ ?_
  ·exact⟨0,_,rfl,hH,by omega,hM,(by intro j t h;omega)⟩
  rintro mm fr st ⟨j,M,hfr,hH,hj,hM,hw⟩;rw[hfr];clear hfr;generalize aI fr=ee;clear fr;refine qq<|qj fun K hK=>qg ?_;refine qe hK<|qq ?_;refine ab.cond (by rfl) (fun h3=>?_) (fun h3=>?_)<;>try simp only[decide_eq_true_eq,decide_eq_false_iff_not] at h3
  ·refine ab.skip ?_
   obtain⟨t,ht⟩:∃t,bB[j]?=some t:=⟨bB[j]'(by omega),List.getElem?_eq_getElem _⟩
   have WQ:=Fc ht;refine qq<|ab.block<|qq<|qj fun K hK=>qr fun Xq RN=>?_;refine aa.cA rfl (ev rfl) (by assumption) rfl (ae rfl _) ?_;refine qa hH fun k14 st Sa hH=>?_;dsimp only[u2,u1,u3,u4,setMany,u5,u6,D.cells,Nat.reduceAdd,aC,aJ,ay,aw,Pg.cs,fe,bf] at hH;refine qS hH av fun st hH=>?_;dsimp only[u2,u1,u3,u4,setMany,u5,u6,D.cells,Nat.reduceAdd,aC,aJ,ay,aw,Pg.cs,fe,bf] at hH;refine qe hK<|qq<|qq<|ab.dz 69 (.bool (getM M t.pc==0||!(dec (eu t.c place)))) [] ?_ (fun ff tmp cY=>?_)
   ·refine qm ?_;refine qp (o:=0) ?_;refine ql hH av ?_;refine aa.ME hH rfl rfl rfl rfl rfl rfl bh (ae rfl _) ?_;refine qg ?_;refine qm ?_;refine aa.two 63 rfl (fun bk=>?_) (fun bk=>?_)
    ·refine qs ?_ (hg:=wn bk);refine qs ?_ (hg:=wn bk);refine qs ?_ (hg:=wn bk);refine qs ?_ (hg:=wn bk);refine qs ?_ (hg:=wn bk);refine qt bk ?_;refine aa.nil (aY ?_ ?_)
     ·dsimp only[aB,List.foldl,nth,u2,u1]
      all_goals(first|rfl|simp)
     ·dsimp only[Fr.aj,Fr.put,Fr.clean,Fr.ev,Fr.get,nth,V.look,u1,u2,v1,v2,v3,v4,v5,v6,v7,List.length,u3,u4,Nat.reduceSub,Nat.reduceAdd,List.map]
      all_goals(simp[bk];done)
    ·refine qp (o:=1) ?_ (hg:=wi bk);refine aa.aF (m:=10) hH (aq rfl rfl rfl bk) (ev rfl) (by exact av) (by dsimp only[List.drop_succ_cons,List.drop_zero,List.take_succ_cons,List.take_zero,aC,aJ,ay,aw,Pg.cs,fe,bf]<;>rfl) rfl rfl (ae rfl _) ?_;refine qm ?_ (hg:=wi bk);refine qv (oN t.c place) ?_ (hg:=wi bk);refine qg ?_ (hg:=wi bk);refine qu bk ?_;refine aa.nil (aY ?_ ?_)
     ·dsimp only[aB,List.foldl,nth,u2,u1]
      all_goals(first|rfl|simp)
     ·dsimp only[Fr.aj,Fr.put,Fr.clean,Fr.ev,Fr.get,nth,V.look,u1,u2,v1,v2,v3,v4,v5,v6,v7,List.length,u3,u4,Nat.reduceSub,Nat.reduceAdd,List.map]
      all_goals(simp[bk];done)
   dsimp only[aB,List.foldl,nth,u2,u1];dsimp only[Fr.aj,Fr.put,Fr.clean,Fr.ev,Fr.get,nth,V.look,u1,u2,v1,v2,v3,v4,v5,v6,v7,List.length,u3,u4,Nat.reduceSub,Nat.reduceAdd,List.map];refine qc (fun h4=>?_) (fun h4=>?_)<;>try simp only[cs] at h4
   ·rw[cQ (fun h=>by
     have:=h j t (by omega) ht;rw[cD this.2] at h4;have h5:=(hM t.pc).2 this.1
     simp[h5] at h4)]
    refine qq<|qj fun K hK=>qm ?_;refine qe hK<|ab.ret ⟨rx,_,rfl,rl bt hH (rfl)⟩
   ·refine ab.skip<|qj fun K hK=>qm ?_;refine qp (o:=0) ?_;refine ql hH av ?_;refine aa.Bp hH rfl rfl rfl rfl rfl rfl bh (fun st hH=>?_);dsimp only[u1,u2] at hH;refine qe hK<|qj fun K hK=>qA ?_;refine qm ?_;refine qe hK ?_;refine⟨mm-1,by omega,⟨j+1,_,rfl,hH.drop 1,by omega,?_,?_⟩⟩
    ·intro n;rw[nW,Ad ht,←hM n]
     by_cases hn:n=t.pc<;>simp[hn]
    ·simp only[Bool.or_eq_false_iff,beq_eq_false_iff_ne,ne_eq,Bool.not_eq_false'] at h4;exact py ht hw ((hM t.pc).1 h4.1) (@of_decide_eq_true _ (Classical.propDecidable _) h4.2)
  ·refine ab.exit ?_;rw[show bB.length=j by omega,cD hw];refine qq<|qj fun K hK=>qm ?_;refine qe hK<|ab.ret ⟨rx,_,rfl,rl bt hH (rfl)⟩
def cG (fr:Go.V.Fr) (k:Nat):Go.V.D:=Go.V.nth .bD fr.loc k
structure GV where
 dn:Bool
 aU:nc
 td:D
 bB:List GT
def gr (l:GV):List D:=aJ l.dn l.aU l.td
theorem sI {l:List GV} {i:Nat} {q:GV} (h:l[i]?=some q):(l.map gr)[i]?=some (gr q):=by rw[List.getElem?_map,h];rfl
def pJ (f:nc):Prop:=∀i,i<10→f i=-1
theorem Ej (f:nc):dec (pJ f)=(f 0==-1 &&(f 1==-1 &&(f 2==-1 &&(f 3==-1 &&(f 4==-1 &&(f 5==-1 &&(f 6==-1 &&(f 7==-1 &&(f 8==-1 &&f 9==-1))))))))):=by
 by_cases h:pJ f
 ·rw[cD h,h 0 (by decide),h 1 (by decide),h 2 (by decide),h 3 (by decide),h 4 (by decide),h 5 (by decide),h 6 (by decide),h 7 (by decide),h 8 (by decide),h 9 (by decide)];rfl
 ·rw[cQ h];refine(Bool.eq_false_iff.2 fun h2=>h ?_).symm;simp only[Bool.and_eq_true,beq_iff_eq] at h2;intro i hi
  match i,hi with
  |0,_=>exact h2.1
  |1,_=>exact h2.2.1
  |2,_=>exact h2.2.2.1
  |3,_=>exact h2.2.2.2.1
  |4,_=>exact h2.2.2.2.2.1
  |5,_=>exact h2.2.2.2.2.2.1
  |6,_=>exact h2.2.2.2.2.2.2.1
  |7,_=>exact h2.2.2.2.2.2.2.2.1
  |8,_=>exact h2.2.2.2.2.2.2.2.2.1
  |9,_=>exact h2.2.2.2.2.2.2.2.2.2
theorem xG (f:nc):lb pv .neq 45 (.agg (ay f)) (.agg (ay bX))=some (.bool (!dec (pJ f))):=by
 have h:∀a b c d e g i j k l n:Int,lb pv .neq 45 (.agg [.int .i64 a,.int .i64 b,.int .i64 c,.int .i64 d,.int .i64 e,.int .i64 g,.int .i64 i,.int .i64 j,.int .i64 k,.int .i64 l]) (.agg [.int .i64 n,.int .i64 n,.int .i64 n,.int .i64 n,.int .i64 n,.int .i64 n,.int .i64 n,.int .i64 n,.int .i64 n,.int .i64 n])=Option.map (fun b=>D.bool !b) (match some (a==n) with|some true=>(match some (b==n) with|some true=>(match some (c==n) with|some true=>(match some (d==n) with|some true=>(match some (e==n) with|some true=>(match some (g==n) with|some true=>(match some (i==n) with|some true=>(match some (j==n) with|some true=>(match some (k==n) with|some true=>(match some (l==n) with|some true=>some true|some false=>some false|none=>none)|some false=>some false|none=>none)|some false=>some false|none=>none)|some false=>some false|none=>none)|some false=>some false|none=>none)|some false=>some false|none=>none)|some false=>some false|none=>none)|some false=>some false|none=>none)|some false=>some false|none=>none)|some false=>some false|none=>none):=fun _ _ _ _ _ _ _ _ _ _ _=>rfl;rw[Ej];unfold ay;rw[show bX 0=-1 from rfl,show bX 1=-1 from rfl,show bX 2=-1 from rfl,show bX 3=-1 from rfl,show bX 4=-1 from rfl,show bX 5=-1 from rfl,show bX 6=-1 from rfl,show bX 7=-1 from rfl,show bX 8=-1 from rfl,show bX 9=-1 from rfl];rw[h];generalize(f 0==-1)=b0;generalize(f 1==-1)=b1;generalize(f 2==-1)=b2;generalize(f 3==-1)=b3;generalize(f 4==-1)=b4;generalize(f 5==-1)=b5;generalize(f 6==-1)=b6;generalize(f 7==-1)=b7;generalize(f 8==-1)=b8;generalize(f 9==-1)=b9;cases b0
 ·rfl
 cases b1
 ·rfl
 cases b2
 ·rfl
 cases b3
 ·rfl
 cases b4
 ·rfl
 cases b5
 ·rfl
 cases b6
 ·rfl
 cases b7
 ·rfl
 cases b8
 ·rfl
 cases b9<;>rfl
def vc (p:Pg) (place:Int) (L:List GV) (m:Nat):Prop:=∀r l s,r<m→L[r]?=some l→p.ak[r]?=some s→(l.dn=true∨pJ l.aU)∧eu l.aU place∧ki p s l.bB place l.bB.length
structure dJ (p:Pg) (place:Int) (L:List GV):Prop where
 right:bE p
 ge:0≤place
 le:place≤1099511627776
 len:L.length=p.ak.length
 each:vc p place L L.length
theorem vc.succ {p:Pg} {place:Int} {L:List GV} {m:Nat} {l:GV} {s:Int} (h:vc p place L m) (hl:L[m]?=some l) (hs:p.ak[m]?=some s) (h1:(l.dn=true∨pJ l.aU)∧eu l.aU place∧ki p s l.bB place l.bB.length):vc p place L (m+1):=by
 intro r l' s' hr gP mh
 by_cases he:r=m
 ·subst he;rw[hl] at gP;cases gP;rw[hs] at mh;cases mh;exact h1
 ·exact h r l' s' (by omega) gP mh
def FU (st:St) (x:D) (L:List GV):Prop:=V.Rows st 12 x (L.map gr)∧L.length≤1048576∧∀l∈L,V.Rows st 11 l.td (l.bB.map fe)∧l.bB.length≤1048576
theorem rk (dB:∀st,Ev pv 59 [] st (.agg (ay bX)) st) {s0:St} {p:Pg} (hp:p.ok) {x:D} {L:List GV} (hx:FU s0 x L) (place:Int):
  Ev pv 16 [p.d,.agg [.int .i64 place,x]] s0 (.bool (dec (dJ p place L))) s0:=by
 obtain⟨hx,pR,zQ⟩:=hx;have iE:=hp.sl;refine Ev.h_ rfl aag rfl rfl rfl ?_;dsimp only[u3,u4,List.length,Nat.reduceSub,Nat.reduceAdd,w1,w2];obtain⟨bt,hF,hH⟩:=ri s0;generalize ah .ro s0=S at*;have hs:=hp.s.arg s0.bs.length S;have hla:=Arg.of hx bt;have hcr:=fun st=>mH (s0:=st) hp;have Um:=fun{st:St} (hR:bE p) {r:Nat} {s:Int} (hr:p.ak[r]?=some s) {dn:Bool} {b:nc} {td:D} {bB:List GT} (Cw:V.Rows st 11 td (bB.map fe)) (hl:bB.length≤1048576)=>Dl (s0:=st) hp hR hr (dn:=dn) (b:=b) Cw hl place;unfold Pg.d at*;refine qq<|qj fun K hK=>qb hH fun k2 st hk2 hH=>?_;dsimp only[u2,u1,u3,u4,setMany,u5,u6,D.cells,Nat.reduceAdd,aC,aJ,ay,aw,Pg.cs,fe,gr] at hH;refine qb hH fun k3 st qX hH=>?_;refine qm ?_;refine qe hK<|qq<|qq<|ab.lV 28 (.bool (((!dec (bE p)||decide (place<0))||decide (place>1099511627776))||(((L.length:Nat):Int) !=((p.ak.length:Nat):Int)))) [7,8,9,10,11,12,13,14,15,16,17,18,19,20,21,22,23,24,25,26,27] ?_ (fun ff tmp=>?_)
 ·refine aa.aF (m:=2) hH rfl (ev rfl) (by exact bh) (by dsimp only[List.drop_succ_cons,List.drop_zero,List.take_succ_cons,List.take_zero,aC,aJ,ay,aw,Pg.cs,fe,gr]<;>rfl) rfl rfl (by dsimp only[Fr.put,u1,u2]<;>rfl) ?_;refine qv ((hcr _)) ?_;refine qg ?_;refine qm ?_;refine aa.two 10 rfl (fun aR=>?_) (fun aR=>?_)
  ·refine qs ?_ (hg:=wn aR);refine qs ?_ (hg:=wn aR);refine qs ?_ (hg:=wn aR);refine qt aR ?_;refine qm ?_;refine qs ?_;refine qs ?_;refine qs ?_;refine qg ?_;refine qm ?_;refine qs ?_;refine qs ?_;refine qs ?_;refine qs ?_;refine qs ?_;refine qs ?_;refine qs ?_;refine qg ?_;refine aa.nil (bp ?_);dsimp only[aB,List.foldl,nth,u2,u1];dsimp only[Fr.aj,Fr.put,Fr.clean,Fr.ev,Fr.get,nth,V.look,u1,u2,v1,v2,v3,v4,v5,v6,v7,List.length,u3,u4,Nat.reduceSub,Nat.reduceAdd,List.map]
   all_goals(simp[aR];done)
  ·refine qp (o:=0) ?_ (hg:=wi aR);refine ql hH av ?_ (hg:=wi aR);refine qg ?_ (hg:=wi aR);refine qu aR ?_;refine qm ?_;refine aa.two 15 rfl (fun cV=>?_) (fun cV=>?_)
   ·refine qs ?_ (hg:=wn cV);refine qs ?_ (hg:=wn cV);refine qs ?_ (hg:=wn cV);refine qt cV ?_;refine qm ?_;refine qs ?_;refine qs ?_;refine qs ?_;refine qs ?_;refine qs ?_;refine qs ?_;refine qs ?_;refine qg ?_;refine aa.nil (bp ?_);dsimp only[aB,List.foldl,nth,u2,u1];dsimp only[Fr.aj,Fr.put,Fr.clean,Fr.ev,Fr.get,nth,V.look,u1,u2,v1,v2,v3,v4,v5,v6,v7,List.length,u3,u4,Nat.reduceSub,Nat.reduceAdd,List.map]
    all_goals(simp[aR,cV];done)
   ·refine qp (o:=0) ?_ (hg:=wi cV);refine ql hH av ?_ (hg:=wi cV);refine qg ?_ (hg:=wi cV);refine qu cV ?_;refine qm ?_;refine aa.two 20 rfl (fun bu=>?_) (fun bu=>?_)
    ·refine qs ?_ (hg:=wn bu);refine qs ?_ (hg:=wn bu);refine qs ?_ (hg:=wn bu);refine qs ?_ (hg:=wn bu);refine qs ?_ (hg:=wn bu);refine qs ?_ (hg:=wn bu);refine qs ?_ (hg:=wn bu);refine qt bu ?_;refine aa.nil (bp ?_);dsimp only[aB,List.foldl,nth,u2,u1];dsimp only[Fr.aj,Fr.put,Fr.clean,Fr.ev,Fr.get,nth,V.look,u1,u2,v1,v2,v3,v4,v5,v6,v7,List.length,u3,u4,Nat.reduceSub,Nat.reduceAdd,List.map]
     all_goals(simp[aR,cV,bu];done)
    ·refine qp (o:=1) ?_ (hg:=wi bu);refine ql hH av ?_ (hg:=wi bu);refine qn ?_ (hg:=wi bu);simp only[List.length_map];refine qp (o:=1) ?_ (hg:=wi bu);refine ql hH bh ?_ (hg:=wi bu);refine qn ?_ (hg:=wi bu);simp only[List.length_map];refine qg ?_ (hg:=wi bu);refine qu bu ?_;refine aa.nil (bp ?_);dsimp only[aB,List.foldl,nth,u2,u1];dsimp only[Fr.aj,Fr.put,Fr.clean,Fr.ev,Fr.get,nth,V.look,u1,u2,v1,v2,v3,v4,v5,v6,v7,List.length,u3,u4,Nat.reduceSub,Nat.reduceAdd,List.map]
     all_goals(simp[aR,cV,bu];done)
 dsimp only[aB,List.foldl,nth,u2,u1];generalize ff 7=e7;generalize ff 8=e8;generalize ff 9=e9;generalize ff 10=e10;generalize ff 11=e11;generalize ff 12=e12;generalize ff 13=e13;generalize ff 14=e14;generalize ff 15=e15;generalize ff 16=e16;generalize ff 17=e17;generalize ff 18=e18;generalize ff 19=e19;generalize ff 20=e20;generalize ff 21=e21;generalize ff 22=e22;generalize ff 23=e23;generalize ff 24=e24;generalize ff 25=e25;generalize ff 26=e26;generalize ff 27=e27;refine qc (fun h0=>?_) (fun h0=>?_)<;>try simp only[cs] at h0
 ·rw[cQ (q:=dJ p place L) (fun h=>by
   rw[cD h.right] at h0;have h1:=h.ge;have h2:=h.le;have h3:=h.len
   simp at h0;omega)]
  refine qq<|qj fun K hK=>qm ?_;refine qe hK<|ab.ret ⟨rx,_,rfl,rl bt hH (rfl)⟩
 ·refine ab.skip ?_
  have h0:bE p∧0≤place∧place≤1099511627776∧L.length=p.ak.length:=by
   simp only[Bool.or_eq_false_iff,decide_eq_false_iff_not,Bool.not_eq_false'] at h0;obtain⟨⟨⟨h1,h2⟩,h3⟩,h4⟩:=h0;refine⟨@of_decide_eq_true _ (Classical.propDecidable _) h1,by omega,by omega,?_⟩;simp at h4;omega
  obtain⟨hR,hge,hle,Vr⟩:=h0;refine qq<|qq<|qj fun K hK=>qp (o:=1) ?_;refine ql hH av ?_;refine qn ?_;simp only[List.length_map];refine qm ?_;refine qe hK<|ab.block<|ab.loop (fun mm fr st=>∃(r:Nat),fr.clean=⟨33,[cG fr 0,cG fr 1,.ptr k2 0 0,.ptr k3 0 0,cG fr 4,cG fr 5,cG fr 6,cG fr 7,cG fr 8,cG fr 9,cG fr 10,cG fr 11,cG fr 12,cG fr 13,cG fr 14,cG fr 15,cG fr 16,cG fr 17,cG fr 18,cG fr 19,cG fr 20,cG fr 21,cG fr 22,cG fr 23,cG fr 24,cG fr 25,cG fr 26,cG fr 27,cG fr 28,cG fr 29,x,.int .i64 (L.length:Nat),.int .i64 (r:Nat)],[]⟩∧Has s0.bs.length S st [.box k3 (.mem 0 false [.int .i64 place,x]),.box k2 (.mem 0 false [p.cd,p.sd])]∧(r+mm=L.length)∧(vc p place L r)) (L.length) ?_ ?_
  ·exact⟨0,rfl,hH,by omega,by intro r l s h;omega⟩
  rintro mm fr st ⟨r,hfr,hH,hi,hw⟩;rw[hfr];clear hfr;generalize cG fr=ee;clear fr;refine qq<|qj fun K hK=>qg ?_;refine qe hK<|qq ?_;refine ab.cond (by rfl) (fun h1=>?_) (fun h1=>?_)<;>try simp only[decide_eq_true_eq,decide_eq_false_iff_not] at h1
  ·refine ab.skip ?_
   obtain⟨l,hl⟩:∃l,L[r]?=some l:=⟨L[r]'(by omega),List.getElem?_eq_getElem _⟩
   obtain⟨s,j9⟩:∃s,p.ak[r]?=some s:=⟨p.ak[r]'(by omega),List.getElem?_eq_getElem _⟩
   obtain⟨Cw,ng⟩:=zQ l (List.mem_of_getElem? hl);have F6:=Arg.of Cw bt;have gB:=sI hl;refine qq<|ab.block<|qq<|qj fun K hK=>qm ?_;refine qr fun S1 CB=>?_;refine aa.cA rfl (ev rfl) (by assumption) rfl (ae rfl _) ?_;refine qa hH fun k6 st F9 hH=>?_;refine qm ?_;refine qS hH av fun st hH=>?_;dsimp only[u2,u1,u3,u4,setMany,u5,u6,D.cells,Nat.reduceAdd,aC,aJ,ay,aw,Pg.cs,fe,gr] at hH;refine qe hK<|qq<|ab.dz 62 (.bool (((!l.dn &&!dec (pJ l.aU))||!dec (eu l.aU place))||!dec (ki p s l.bB place l.bB.length))) [] ?_ (fun ff tmp cY=>?_)
   ·refine qp (o:=0) ?_;refine ql hH av ?_;refine qg ?_;refine qm ?_;refine aa.two 40 rfl (fun aR=>?_) (fun aR=>?_)
    ·refine qp (o:=1) ?_ (hg:=wi aR);refine aa.aF (m:=10) hH (aq rfl rfl rfl aR) (ev rfl) (by exact av) (by dsimp only[List.drop_succ_cons,List.drop_zero,List.take_succ_cons,List.take_zero,aC,aJ,ay,aw,Pg.cs,fe,gr]<;>rfl) rfl rfl (ae rfl _) ?_;refine qv (dB _) ?_ (hg:=wi aR);refine aa.S6 (aq rfl rfl rfl aR) (ev rfl) (ev rfl) (xG l.aU) (ae rfl _) ?_;refine qt aR ?_;refine qm ?_;refine aa.two 46 rfl (fun bV=>?_) (fun bV=>?_)
     ·refine qs ?_ (hg:=wn bV);refine qs ?_ (hg:=wn bV);refine qs ?_ (hg:=wn bV);refine qs ?_ (hg:=wn bV);refine qs ?_ (hg:=wn bV);refine qs ?_ (hg:=wn bV);refine qt bV ?_;refine qm ?_;refine qs ?_;refine qs ?_;refine qs ?_;refine qs ?_;refine qs ?_;refine qs ?_;refine qs ?_;refine qg ?_;refine aa.nil (aY ?_ ?_)
      ·dsimp only[aB,List.foldl,nth,u2,u1]
       all_goals(first|rfl|simp)
      ·dsimp only[Fr.aj,Fr.put,Fr.clean,Fr.ev,Fr.get,nth,V.look,u1,u2,v1,v2,v3,v4,v5,v6,v7,List.length,u3,u4,Nat.reduceSub,Nat.reduceAdd,List.map]
       all_goals(simp[aR,bV];done)
     ·refine qp (o:=1) ?_ (hg:=wi bV);refine aa.aF (m:=10) hH (aq rfl rfl rfl bV) (ev rfl) (by exact av) (by dsimp only[List.drop_succ_cons,List.drop_zero,List.take_succ_cons,List.take_zero,aC,aJ,ay,aw,Pg.cs,fe,gr]<;>rfl) rfl rfl (ae rfl _) ?_;refine qp (o:=0) ?_ (hg:=wi bV);refine ql hH bh ?_ (hg:=wi bV);refine qv (oN l.aU place) ?_ (hg:=wi bV);refine qg ?_ (hg:=wi bV);refine qu bV ?_;refine qm ?_;refine aa.two 54 rfl (fun aW=>?_) (fun aW=>?_)
      ·refine qs ?_ (hg:=wn aW);refine qs ?_ (hg:=wn aW);refine qs ?_ (hg:=wn aW);refine qs ?_ (hg:=wn aW);refine qs ?_ (hg:=wn aW);refine qs ?_ (hg:=wn aW);refine qs ?_ (hg:=wn aW);refine qt aW ?_;refine aa.nil (aY ?_ ?_)
       ·dsimp only[aB,List.foldl,nth,u2,u1]
        all_goals(first|rfl|simp)
       ·dsimp only[Fr.aj,Fr.put,Fr.clean,Fr.ev,Fr.get,nth,V.look,u1,u2,v1,v2,v3,v4,v5,v6,v7,List.length,u3,u4,Nat.reduceSub,Nat.reduceAdd,List.map]
        all_goals(simp[aR,bV,aW];done)
      ·refine aa.aF (m:=2) hH (aq rfl rfl rfl aW) (ev rfl) (by exact dF) (by dsimp only[List.drop_succ_cons,List.drop_zero,List.take_succ_cons,List.take_zero,aC,aJ,ay,aw,Pg.cs,fe,gr]<;>rfl) rfl rfl (ae rfl _) ?_;refine qm ?_ (hg:=wi aW);refine aa.aF (m:=12) hH (aq rfl rfl rfl aW) (ev rfl) (by exact av) (by dsimp only[List.drop_succ_cons,List.drop_zero,List.take_succ_cons,List.take_zero,aC,aJ,ay,aw,Pg.cs,fe,gr]<;>rfl) rfl rfl (ae rfl _) ?_;refine qp (o:=0) ?_ (hg:=wi aW);refine ql hH bh ?_ (hg:=wi aW);refine qv ((Um hR j9 (F6.rows hH) ng)) ?_ (hg:=wi aW);refine qg ?_ (hg:=wi aW);refine qu aW ?_;refine aa.nil (aY ?_ ?_)
       ·dsimp only[aB,List.foldl,nth,u2,u1]
        all_goals(first|rfl|simp)
       ·dsimp only[Fr.aj,Fr.put,Fr.clean,Fr.ev,Fr.get,nth,V.look,u1,u2,v1,v2,v3,v4,v5,v6,v7,List.length,u3,u4,Nat.reduceSub,Nat.reduceAdd,List.map]
        all_goals(simp[aR,bV,aW];done)
    ·refine qs ?_ (hg:=wn aR);refine qs ?_ (hg:=wn aR);refine qs ?_ (hg:=wn aR);refine qs ?_ (hg:=wn aR);refine qu aR ?_;refine qm ?_;refine qp (o:=1) ?_;refine aa.aF (m:=10) hH rfl (ev rfl) (by exact av) (by dsimp only[List.drop_succ_cons,List.drop_zero,List.take_succ_cons,List.take_zero,aC,aJ,ay,aw,Pg.cs,fe,gr]<;>rfl) rfl rfl (ae rfl _) ?_;refine qp (o:=0) ?_;refine ql hH bh ?_;refine qv (oN l.aU place) ?_;refine qg ?_;refine qg ?_;refine qm ?_;refine aa.two 54 rfl (fun aW=>?_) (fun aW=>?_)
     ·refine qs ?_ (hg:=wn aW);refine qs ?_ (hg:=wn aW);refine qs ?_ (hg:=wn aW);refine qs ?_ (hg:=wn aW);refine qs ?_ (hg:=wn aW);refine qs ?_ (hg:=wn aW);refine qs ?_ (hg:=wn aW);refine qt aW ?_;refine aa.nil (aY ?_ ?_)
      ·dsimp only[aB,List.foldl,nth,u2,u1]
       all_goals(first|rfl|simp)
      ·dsimp only[Fr.aj,Fr.put,Fr.clean,Fr.ev,Fr.get,nth,V.look,u1,u2,v1,v2,v3,v4,v5,v6,v7,List.length,u3,u4,Nat.reduceSub,Nat.reduceAdd,List.map]
       all_goals(simp[aR,aW];done)
     ·refine aa.aF (m:=2) hH (aq rfl rfl rfl aW) (ev rfl) (by exact dF) (by dsimp only[List.drop_succ_cons,List.drop_zero,List.take_succ_cons,List.take_zero,aC,aJ,ay,aw,Pg.cs,fe,gr]<;>rfl) rfl rfl (ae rfl _) ?_;refine qm ?_ (hg:=wi aW);refine aa.aF (m:=12) hH (aq rfl rfl rfl aW) (ev rfl) (by exact av) (by dsimp only[List.drop_succ_cons,List.drop_zero,List.take_succ_cons,List.take_zero,aC,aJ,ay,aw,Pg.cs,fe,gr]<;>rfl) rfl rfl (ae rfl _) ?_;refine qp (o:=0) ?_ (hg:=wi aW);refine ql hH bh ?_ (hg:=wi aW);refine qv ((Um hR j9 (F6.rows hH) ng)) ?_ (hg:=wi aW);refine qg ?_ (hg:=wi aW);refine qu aW ?_;refine aa.nil (aY ?_ ?_)
      ·dsimp only[aB,List.foldl,nth,u2,u1]
       all_goals(first|rfl|simp)
      ·dsimp only[Fr.aj,Fr.put,Fr.clean,Fr.ev,Fr.get,nth,V.look,u1,u2,v1,v2,v3,v4,v5,v6,v7,List.length,u3,u4,Nat.reduceSub,Nat.reduceAdd,List.map]
       all_goals(simp[aR,aW];done)
   dsimp only[aB,List.foldl,nth,u2,u1];dsimp only[Fr.aj,Fr.put,Fr.clean,Fr.ev,Fr.get,nth,V.look,u1,u2,v1,v2,v3,v4,v5,v6,v7,List.length,u3,u4,Nat.reduceSub,Nat.reduceAdd,List.map];refine qc (fun h2=>?_) (fun h2=>?_)<;>try simp only[cs] at h2
   ·rw[cQ (q:=dJ p place L) (fun h=>by
     obtain⟨h3,h4,h5⟩:=h.each r l s (by omega) hl j9;rw[cD h4,cD h5] at h2
     rcases h3 with h3|h3
     ·simp[h3] at h2
     ·simp[cD h3] at h2)]
    refine qq<|qj fun K hK=>qm ?_;refine qe hK<|ab.ret ⟨rx,_,rfl,rl bt hH (rfl)⟩
   ·refine ab.skip<|qj fun K hK=>qA ?_;refine qm ?_;refine qe hK ?_;refine⟨mm-1,by omega,⟨r+1,rfl,hH.drop 1,by omega,?_⟩⟩;simp only[Bool.or_eq_false_iff,Bool.and_eq_false_iff,Bool.not_eq_false'] at h2;obtain⟨⟨h3,h4⟩,h5⟩:=h2;refine hw.succ hl j9 ⟨?_,@of_decide_eq_true _ (Classical.propDecidable _) h4,@of_decide_eq_true _ (Classical.propDecidable _) h5⟩
    rcases h3 with h3|h3
    ·exact .inl h3
    ·exact .inr (@of_decide_eq_true _ (Classical.propDecidable _) h3)
  ·refine ab.exit ?_;rw[cD (q:=dJ p place L) ⟨hR,hge,hle,Vr,by rw[show L.length=r by omega];exact hw⟩];refine qq<|qj fun K hK=>qm ?_;refine qe hK<|ab.ret ⟨rx,_,rfl,rl bt hH (rfl)⟩
def gz (fr:Go.V.Fr) (k:Nat):Go.V.D:=Go.V.nth .bD fr.loc k
theorem wy {q:Prop} (h:dec q=true):q:=@of_decide_eq_true _ (Classical.propDecidable _) h
theorem sL {p:Pg} (hR:bE p) {s:Int} (hs:0≤s∧s<(p.code.length:Int)) {m:Nat} {n:Int} (h:sM p s m n):0≤n∧n<(p.code.length:Int):=by
 rcases h with rfl|⟨i,q,h1,rfl,h3,h4,h5⟩
 ·exact hs
 ·have h6:=hR.sh i q h4;unfold cC at h6;rw[if_pos h5] at h6;simp only[Bool.and_eq_true,decide_eq_true_eq] at h6;exact⟨by omega,h6.2.1.1⟩
def tn (bB:List GT) (j:Nat) (seen:List Bool):Prop:=∀(k:Nat) b,seen[k]?=some b→(b=true↔∃j' t,j'<j∧bB[j']?=some t∧t.pc=(k:Int))
theorem tn.nil (bB:List GT) (n:Nat):tn bB 0 (List.replicate n false):=by
 intro k b h;rw[List.getElem?_replicate] at h
 split at h
 ·cases h;simp
 ·cases h
theorem tn.set {bB:List GT} {j k:Nat} {seen:List Bool} {t:GT} (h:tn bB j seen) (ht:bB[j]?=some t) (hk:t.pc=(k:Int)):tn bB (j+1) (seen.set k true):=by
 intro k' b hb;rw[List.getElem?_set] at hb
 by_cases he:k=k'
 ·subst he;rw[if_pos rfl] at hb
  split at hb
  ·cases hb;exact⟨fun _=>⟨j,t,by omega,ht,hk⟩,fun _=>rfl⟩
  ·cases hb
 ·rw[if_neg he] at hb;rw[h k' b hb];constructor
  ·rintro⟨j',t',h1,h2,h3⟩;exact⟨j',t',by omega,h2,h3⟩
  ·rintro⟨j',t',h1,h2,h3⟩
   by_cases hj:j'=j
   ·subst hj;rw[ht] at h2;cases h2;omega
   ·exact⟨j',t',by omega,h2,h3⟩
theorem DV (dB:∀st,Ev pv 67 [] st (.agg (ay bX)) st) {s0:St} {p:Pg} (hp:p.ok) {x:D} {L:List GV} (hx:FU s0 x L) (place:Int):
  Ev pv 23 [p.d,.agg [.int .i64 place,x]] s0 (.bool (dec (dJ p place L))) s0:=by
 obtain⟨hx,pR,zQ⟩:=hx;have iE:=hp.sl;have E6:=hp.cl;refine Ev.h_ rfl aaa rfl rfl rfl ?_;dsimp only[u3,u4,List.length,Nat.reduceSub,Nat.reduceAdd,w1,w2];obtain⟨bt,hF,hH⟩:=ri s0;generalize ah .ro s0=S at*;have hc:=hp.c.arg s0.bs.length S;have hs:=hp.s.arg s0.bs.length S;have hla:=Arg.of hx bt;have hcr:=fun st=>vp (s0:=st) hp
 have X7:=fun(hR:bE p) {r:Nat} {s:Int} (hr:p.ak[r]?=some s) (st:St)=>(show kB p (r:Nat)=bF p.code s by
      unfold kB
      rw[if_pos (dS.2 ⟨by omega,by have:=bC hr;omega⟩),Int.toNat_natCast,List.getD_eq_getElem?_getD,hr];rfl)▸pG (s0:=st) (p:=p) (ky:=(r:Nat)) hp hR.closed hR.st
 unfold Pg.d at*;refine qq<|qj fun K hK=>qb hH fun k2 st hk2 hH=>?_;dsimp only[u2,u1,u3,u4,setMany,u5,u6,D.cells,Nat.reduceAdd,aC,aJ,ay,aw,Pg.cs,fe,gr,bf] at hH;refine qb hH fun k3 st qX hH=>?_;refine qm ?_;refine qe hK<|qq<|qq<|ab.dz 32 (.bool (((!dec (bE p)||decide (place<0))||decide (place>1099511627776))||(((L.length:Nat):Int) !=((p.ak.length:Nat):Int)))) [] ?_ (fun ff tmp cY=>?_)
 ·refine aa.aF (m:=2) hH rfl (ev rfl) (by exact bh) (by dsimp only[List.drop_succ_cons,List.drop_zero,List.take_succ_cons,List.take_zero,aC,aJ,ay,aw,Pg.cs,fe,gr,bf]<;>rfl) rfl rfl (ae rfl _) ?_;refine qv ((hcr _)) ?_;refine qg ?_;refine qm ?_;refine aa.two 14 rfl (fun aR=>?_) (fun aR=>?_)
  ·refine qs ?_ (hg:=wn aR);refine qs ?_ (hg:=wn aR);refine qs ?_ (hg:=wn aR);refine qt aR ?_;refine qm ?_;refine qs ?_;refine qs ?_;refine qs ?_;refine qg ?_;refine qm ?_;refine qs ?_;refine qs ?_;refine qs ?_;refine qs ?_;refine qs ?_;refine qs ?_;refine qs ?_;refine qg ?_;refine aa.nil (aY ?_ ?_)
   ·dsimp only[aB,List.foldl,nth,u2,u1]
    all_goals(first|rfl|simp)
   ·dsimp only[Fr.aj,Fr.put,Fr.clean,Fr.ev,Fr.get,nth,V.look,u1,u2,v1,v2,v3,v4,v5,v6,v7,List.length,u3,u4,Nat.reduceSub,Nat.reduceAdd,List.map]
    all_goals(simp[aR];done)
  ·refine qp (o:=0) ?_ (hg:=wi aR);refine ql hH av ?_ (hg:=wi aR);refine qg ?_ (hg:=wi aR);refine qu aR ?_;refine qm ?_;refine aa.two 19 rfl (fun cV=>?_) (fun cV=>?_)
   ·refine qs ?_ (hg:=wn cV);refine qs ?_ (hg:=wn cV);refine qs ?_ (hg:=wn cV);refine qt cV ?_;refine qm ?_;refine qs ?_;refine qs ?_;refine qs ?_;refine qs ?_;refine qs ?_;refine qs ?_;refine qs ?_;refine qg ?_;refine aa.nil (aY ?_ ?_)
    ·dsimp only[aB,List.foldl,nth,u2,u1]
     all_goals(first|rfl|simp)
    ·dsimp only[Fr.aj,Fr.put,Fr.clean,Fr.ev,Fr.get,nth,V.look,u1,u2,v1,v2,v3,v4,v5,v6,v7,List.length,u3,u4,Nat.reduceSub,Nat.reduceAdd,List.map]
     all_goals(simp[aR,cV];done)
   ·refine qp (o:=0) ?_ (hg:=wi cV);refine ql hH av ?_ (hg:=wi cV);refine qg ?_ (hg:=wi cV);refine qu cV ?_;refine qm ?_;refine aa.two 24 rfl (fun bu=>?_) (fun bu=>?_)
    ·refine qs ?_ (hg:=wn bu);refine qs ?_ (hg:=wn bu);refine qs ?_ (hg:=wn bu);refine qs ?_ (hg:=wn bu);refine qs ?_ (hg:=wn bu);refine qs ?_ (hg:=wn bu);refine qs ?_ (hg:=wn bu);refine qt bu ?_;refine aa.nil (aY ?_ ?_)
     ·dsimp only[aB,List.foldl,nth,u2,u1]
      all_goals(first|rfl|simp)
     ·dsimp only[Fr.aj,Fr.put,Fr.clean,Fr.ev,Fr.get,nth,V.look,u1,u2,v1,v2,v3,v4,v5,v6,v7,List.length,u3,u4,Nat.reduceSub,Nat.reduceAdd,List.map]
      all_goals(simp[aR,cV,bu];done)
    ·refine qp (o:=1) ?_ (hg:=wi bu);refine ql hH av ?_ (hg:=wi bu);refine qn ?_ (hg:=wi bu);simp only[List.length_map];refine qp (o:=1) ?_ (hg:=wi bu);refine ql hH bh ?_ (hg:=wi bu);refine qn ?_ (hg:=wi bu);simp only[List.length_map];refine qg ?_ (hg:=wi bu);refine qu bu ?_;refine aa.nil (aY ?_ ?_)
     ·dsimp only[aB,List.foldl,nth,u2,u1]
      all_goals(first|rfl|simp)
     ·dsimp only[Fr.aj,Fr.put,Fr.clean,Fr.ev,Fr.get,nth,V.look,u1,u2,v1,v2,v3,v4,v5,v6,v7,List.length,u3,u4,Nat.reduceSub,Nat.reduceAdd,List.map]
      all_goals(simp[aR,cV,bu];done)
 dsimp only[aB,List.foldl,nth,u2,u1];refine qc (fun h0=>?_) (fun h0=>?_)<;>try simp only[cs] at h0
 ·rw[cQ (q:=dJ p place L) (fun h=>by
   rw[cD h.right] at h0;have h1:=h.ge;have h2:=h.le;have h3:=h.len
   simp at h0;omega)]
  refine qq<|qj fun K hK=>qm ?_;refine qe hK<|ab.ret ⟨rx,_,rfl,rl bt hH (rfl)⟩
 ·refine ab.skip ?_
  have h0:bE p∧0≤place∧place≤1099511627776∧L.length=p.ak.length:=by
   simp only[Bool.or_eq_false_iff,decide_eq_false_iff_not,Bool.not_eq_false'] at h0;obtain⟨⟨⟨h1,h2⟩,h3⟩,h4⟩:=h0;refine⟨wy h1,by omega,by omega,?_⟩;simp at h4;omega
  obtain⟨hR,hge,hle,Vr⟩:=h0;refine qq<|qq<|qj fun K hK=>qm ?_;refine qe hK<|ab.block<|ab.loop (fun mm fr st=>∃(r:Nat),fr.clean=⟨11,[gz fr 0,gz fr 1,.ptr k2 0 0,.ptr k3 0 0,gz fr 4,.int .i64 (r:Nat),gz fr 6,gz fr 7,gz fr 8,gz fr 9,gz fr 10],[]⟩∧Has s0.bs.length S st [.box k3 (.mem 0 false [.int .i64 place,x]),.box k2 (.mem 0 false [p.cd,p.sd])]∧(r+mm=L.length)∧(vc p place L r)) (L.length) ?_ ?_
  ·exact⟨0,rfl,hH,by omega,by intro r l s h;omega⟩
  rintro mm fr st ⟨r,hfr,hH,hi,hw⟩;rw[hfr];clear hfr;generalize gz fr=ee;clear fr;refine qq<|qq<|qj fun K hK=>qm ?_;refine qp (o:=1) ?_;refine ql hH av ?_;refine qn ?_;simp only[List.length_map];refine qg ?_;refine qe hK ?_;refine ab.cond (by rfl) (fun h1=>?_) (fun h1=>?_)<;>try simp only[decide_eq_true_eq,decide_eq_false_iff_not] at h1
  ·refine ab.skip ?_
   obtain⟨l,hl⟩:∃l,L[r]?=some l:=⟨L[r]'(by omega),List.getElem?_eq_getElem _⟩
   obtain⟨s,j9⟩:∃s,p.ak[r]?=some s:=⟨p.ak[r]'(by omega),List.getElem?_eq_getElem _⟩
   obtain⟨Cw,ng⟩:=zQ l (List.mem_of_getElem? hl);have F6:=Arg.of Cw bt;have gB:=sI hl;have mV:=eA j9;have gi:=hR.st s (List.mem_of_getElem? j9);refine qq<|ab.block<|qq<|qj fun K hK=>qp (o:=1) ?_;refine ql hH av ?_;refine qm ?_;refine qr fun Xt RQ=>?_;refine aa.cA rfl (ev rfl) (by assumption) rfl (ae rfl _) ?_;refine qa hH fun k6 st F9 hH=>?_;refine qS hH av fun st hH=>?_;dsimp only[u2,u1,u3,u4,setMany,u5,u6,D.cells,Nat.reduceAdd,aC,aJ,ay,aw,Pg.cs,fe,gr,bf] at hH;refine qe hK<|qq<|qq<|ab.dz 61 (.bool (!dec (eu l.aU place)||(!l.dn &&!dec (pJ l.aU)))) [] ?_ (fun ff tmp cY=>?_)
   ·refine qp (o:=1) ?_;refine aa.aF (m:=10) hH rfl (ev rfl) (by exact av) (by dsimp only[List.drop_succ_cons,List.drop_zero,List.take_succ_cons,List.take_zero,aC,aJ,ay,aw,Pg.cs,fe,gr,bf]<;>rfl) rfl rfl (ae rfl _) ?_;refine qp (o:=0) ?_;refine ql hH bh ?_;refine qv (rG l.aU place) ?_;refine qg ?_;refine qm ?_;refine aa.two 51 rfl (fun cM=>?_) (fun cM=>?_)
    ·refine qs ?_ (hg:=wn cM);refine qs ?_ (hg:=wn cM);refine qs ?_ (hg:=wn cM);refine qs ?_ (hg:=wn cM);refine qs ?_;refine qs ?_;refine qs ?_;refine qs ?_;refine qs ?_ (hg:=wn cM);refine qt cM ?_;refine aa.nil (aY ?_ ?_)
     ·dsimp only[aB,List.foldl,nth,u2,u1]
      all_goals(first|rfl|simp)
     ·dsimp only[Fr.aj,Fr.put,Fr.clean,Fr.ev,Fr.get,nth,V.look,u1,u2,v1,v2,v3,v4,v5,v6,v7,List.length,u3,u4,Nat.reduceSub,Nat.reduceAdd,List.map]
      all_goals(simp[cM];done)
    ·refine qp (o:=0) ?_ (hg:=wi cM);refine ql hH av ?_ (hg:=wi cM);refine qg ?_ (hg:=wi cM);refine qm ?_ (hg:=wi cM);refine aa.two 55 rfl (fun aX=>?_) (fun aX=>?_)
     ·refine qp (o:=1) ?_ (hg:=wi aX);refine aa.aF (m:=10) hH (aq rfl rfl rfl aX) (ev rfl) (by exact av) (by dsimp only[List.drop_succ_cons,List.drop_zero,List.take_succ_cons,List.take_zero,aC,aJ,ay,aw,Pg.cs,fe,gr,bf]<;>rfl) rfl rfl (ae rfl _) ?_;refine qv (dB _) ?_ (hg:=wi aX);refine aa.S6 (aq rfl rfl rfl aX) (ev rfl) (ev rfl) (xG l.aU) (ae rfl _) ?_;refine aa.dI (aq rfl rfl rfl cM) rfl aX (ae rfl _) ?_;refine qu cM ?_;refine aa.nil (aY ?_ ?_)
      ·dsimp only[aB,List.foldl,nth,u2,u1]
       all_goals(first|rfl|simp)
      ·dsimp only[Fr.aj,Fr.put,Fr.clean,Fr.ev,Fr.get,nth,V.look,u1,u2,v1,v2,v3,v4,v5,v6,v7,List.length,u3,u4,Nat.reduceSub,Nat.reduceAdd,List.map]
       all_goals(simp[cM,aX];done)
     ·refine qs ?_ (hg:=wn aX);refine qs ?_ (hg:=wn aX);refine qs ?_ (hg:=wn aX);refine qs ?_ (hg:=wn aX);refine aa.de (aq rfl rfl rfl cM) rfl aX (ae rfl _) ?_;refine qu cM ?_;refine aa.nil (aY ?_ ?_)
      ·dsimp only[aB,List.foldl,nth,u2,u1]
       all_goals(first|rfl|simp)
      ·dsimp only[Fr.aj,Fr.put,Fr.clean,Fr.ev,Fr.get,nth,V.look,u1,u2,v1,v2,v3,v4,v5,v6,v7,List.length,u3,u4,Nat.reduceSub,Nat.reduceAdd,List.map]
       all_goals(simp[cM,aX];done)
   dsimp only[aB,List.foldl,nth,u2,u1];dsimp only[Fr.aj,Fr.put,Fr.clean,Fr.ev,Fr.get,nth,V.look,u1,u2,v1,v2,v3,v4,v5,v6,v7,List.length,u3,u4,Nat.reduceSub,Nat.reduceAdd,List.map];refine qc (fun h2=>?_) (fun h2=>?_)<;>try simp only[cs] at h2
   ·rw[cQ (q:=dJ p place L) (fun h=>by
     obtain⟨h3,h4,h5⟩:=h.each r l s (by omega) hl j9;rw[cD h4] at h2
     rcases h3 with h3|h3
     ·simp[h3] at h2
     ·simp[cD h3] at h2)]
    refine qq<|qj fun K hK=>qm ?_;refine qe hK<|ab.ret ⟨rx,_,rfl,rl bt hH (rfl)⟩
   ·refine ab.skip ?_
    have h2:eu l.aU place∧(l.dn=true∨pJ l.aU):=by
     simp only[Bool.or_eq_false_iff,Bool.and_eq_false_iff,Bool.not_eq_false'] at h2;obtain⟨h3,h4⟩:=h2;refine⟨wy h3,?_⟩
     rcases h4 with h4|h4
     ·exact .inl h4
     ·exact .inr (wy h4)
    have ni:=kA p.code s;have S9:=(mr (bF p.code s)).arg s0.bs.length S;refine qq<|qj fun K hK=>?_;refine aa.aF (m:=2) hH rfl (ev rfl) (by exact dF) (by dsimp only[List.drop_succ_cons,List.drop_zero,List.take_succ_cons,List.take_zero,aC,aJ,ay,aw,Pg.cs,fe,gr,bf]<;>rfl) rfl rfl (ae rfl _) ?_;refine qm ?_;refine qv ((X7 hR j9 _)) ?_;refine qm ?_;refine qe hK<|qq<|qj fun K hK=>qp (o:=0) ?_;refine ql hH dF ?_;refine qn ?_;simp only[List.length_map];refine aa.sB (s:=1) hH rfl rfl rfl rfl rfl rfl rfl rfl (Nat.le_of_ble_eq_true rfl) (by omega) (fun _=>(ae rfl _)) (fun k68 st abA hH=>?_);refine qm ?_;refine qe hK<|qq<|qj fun K hK=>qm ?_;refine qe hK<|ab.block<|ab.loop (fun mm fr st=>∃(j:Nat) (y:D) (seen:List Bool),fr.clean=⟨11,[gz fr 0,gz fr 1,.ptr k2 0 0,.ptr k3 0 0,gz fr 4,.int .i64 (r:Nat),.ptr k6 0 0,nb (bF p.code s),y,.int .i64 (j:Nat),gz fr 10],[]⟩∧Has s0.bs.length S st [.aO y 1 (seen.map bf),.box k6 (.mem 0 false (aJ l.dn l.aU l.td)),.box k3 (.mem 0 false [.int .i64 place,x]),.box k2 (.mem 0 false [p.cd,p.sd])]∧(j+mm=l.bB.length)∧(seen.length=p.code.length)∧(tn l.bB j seen)∧(ki p s l.bB place j)) (l.bB.length) ?_ ?_
    ·exact⟨0,_,List.replicate p.code.length false,rfl,(by rw[List.map_replicate];exact hH),by omega,by simp,tn.nil _ _,(by intro j t h;omega)⟩
    rintro mm fr st ⟨j,y,seen,hfr,hH,hj,gj,sy,Um⟩;rw[hfr];clear hfr;generalize gz fr=ee;clear fr;refine qq<|qq<|qj fun K hK=>qm ?_;refine qp (o:=11) ?_;refine ql hH bh ?_;refine qn ?_;simp only[List.length_map];refine qg ?_;refine qe hK ?_;refine ab.cond (by rfl) (fun h3=>?_) (fun h3=>?_)<;>try simp only[decide_eq_true_eq,decide_eq_false_iff_not] at h3
    ·refine ab.skip ?_
     obtain⟨⟨pc,tc⟩,ht⟩:∃t,l.bB[j]?=some t:=⟨l.bB[j]'(by omega),List.getElem?_eq_getElem _⟩
     have WQ:=Fc ht;have kh:¬(mG p s l.bB j pc∧eu tc place)→¬dJ p place L:=fun h2 h=>h2 ((h.each r l s (by omega) hl j9).2.2 j _ (by omega) ht);have Uj:mG p s l.bB j pc→eu tc place→ki p s l.bB place (j+1):=fun h1 h2=>py ht Um h1 h2;refine qq<|ab.block<|qq<|qj fun K hK=>qp (o:=11) ?_;refine ql hH bh ?_;refine qm ?_;refine qr fun WH Mx=>?_;refine aa.cA rfl (ev rfl) (by assumption) rfl (ae rfl _) ?_;refine qa hH fun k10 st U4 hH=>?_;dsimp only[u2,u1,u3,u4,setMany,u5,u6,D.cells,Nat.reduceAdd,aC,aJ,ay,aw,Pg.cs,fe,gr,bf] at hH;refine qS hH av fun st hH=>?_;dsimp only[u2,u1,u3,u4,setMany,u5,u6,D.cells,Nat.reduceAdd,aC,aJ,ay,aw,Pg.cs,fe,gr,bf] at hH;refine qe hK ?_
     by_cases zU:pc<0
     ·have aR:decide (pc<0)=true:=decide_eq_true zU;refine qq<|qq<|ab.dz 106 (.bool true) [] ?_ (fun ff tmp cY=>?_)
      ·refine qp (o:=0) ?_;refine ql hH av ?_;refine qg ?_;refine qm ?_;refine qs ?_ (hg:=wn aR);refine qs ?_ (hg:=wn aR);refine qs ?_ (hg:=wn aR);refine qs ?_ (hg:=wn aR);refine qs ?_ (hg:=wn aR);refine qs ?_ (hg:=wn aR);refine qt aR ?_;refine qm ?_;refine qs ?_;refine qs ?_;refine qs ?_;refine qs ?_;refine qs ?_;refine qg ?_;refine qm ?_;refine qs ?_;refine qs ?_;refine qs ?_;refine qs ?_;refine qs ?_;refine qs ?_;refine qg ?_;refine aa.nil (aY ?_ ?_)
       ·dsimp only[aB,List.foldl,nth,u2,u1]
        all_goals(first|rfl|simp)
       ·dsimp only[Fr.aj,Fr.put,Fr.clean,Fr.ev,Fr.get,nth,V.look,u1,u2,v1,v2,v3,v4,v5,v6,v7,List.length,u3,u4,Nat.reduceSub,Nat.reduceAdd,List.map]
        all_goals(first|rfl|(simp[aR];done)|(simp_all;done)|(simp[aR];omega)|(simp_all;omega))
      dsimp only[aB,List.foldl,nth,u2,u1];dsimp only[Fr.aj,Fr.put,Fr.clean,Fr.ev,Fr.get,nth,V.look,u1,u2,v1,v2,v3,v4,v5,v6,v7,List.length,u3,u4,Nat.reduceSub,Nat.reduceAdd,List.map];refine qB ?_;rw[cQ (kh fun h=>by have:=sL hR gi h.1.1;omega)];refine qq<|qj fun K hK=>qm ?_;refine qe hK<|ab.ret ⟨rx,_,rfl,rl bt hH (rfl)⟩
     ·have aR:decide (pc<0)=false:=decide_eq_false zU
      by_cases Df:pc≥(p.code.length:Int)
      ·have aT:decide (pc≥(p.code.length:Int))=true:=decide_eq_true Df;refine qq<|qq<|ab.dz 106 (.bool true) [] ?_ (fun ff tmp cY=>?_)
       ·refine qp (o:=0) ?_;refine ql hH av ?_;refine qg ?_;refine qm ?_;refine qp (o:=0) ?_ (hg:=wi aR);refine ql hH av ?_ (hg:=wi aR);refine qp (o:=0) ?_ (hg:=wi aR);refine ql hH gH ?_ (hg:=wi aR);refine qn ?_ (hg:=wi aR);simp only[List.length_map];refine qg ?_ (hg:=wi aR);refine qu aR ?_;refine qm ?_;refine qs ?_ (hg:=wn aT);refine qs ?_ (hg:=wn aT);refine qs ?_ (hg:=wn aT);refine qs ?_ (hg:=wn aT);refine qs ?_ (hg:=wn aT);refine qt aT ?_;refine qm ?_;refine qs ?_;refine qs ?_;refine qs ?_;refine qs ?_;refine qs ?_;refine qs ?_;refine qg ?_;refine aa.nil (aY ?_ ?_)
        ·dsimp only[aB,List.foldl,nth,u2,u1]
         all_goals(first|rfl|simp)
        ·dsimp only[Fr.aj,Fr.put,Fr.clean,Fr.ev,Fr.get,nth,V.look,u1,u2,v1,v2,v3,v4,v5,v6,v7,List.length,u3,u4,Nat.reduceSub,Nat.reduceAdd,List.map]
         all_goals(first|rfl|(simp[aR,aT];done)|(simp_all;done)|(simp[aR,aT];omega)|(simp_all;omega))
       dsimp only[aB,List.foldl,nth,u2,u1];dsimp only[Fr.aj,Fr.put,Fr.clean,Fr.ev,Fr.get,nth,V.look,u1,u2,v1,v2,v3,v4,v5,v6,v7,List.length,u3,u4,Nat.reduceSub,Nat.reduceAdd,List.map];refine qB ?_;rw[cQ (kh fun h=>by have:=sL hR gi h.1.1;omega)];refine qq<|qj fun K hK=>qm ?_;refine qe hK<|ab.ret ⟨rx,_,rfl,rl bt hH (rfl)⟩
      ·have aT:decide (pc≥(p.code.length:Int))=false:=decide_eq_false Df;obtain⟨k,rfl⟩:=Int.eq_ofNat_of_zero_le (show 0≤pc by omega)
       obtain⟨b,hb⟩:∃b,seen[k]?=some b:=⟨seen[k]'(by omega),List.getElem?_eq_getElem _⟩
       have hr4:=il hb;have fO:(seen.set k true).map bf=(seen.map bf).set k [.bool true]:=by rw[List.map_set];rfl
       refine qq<|qq<|ab.dz 106 (.bool (b||!dec (eu tc place))) [] ?_ (fun ff tmp cY=>?_)
       ·refine qp (o:=0) ?_;refine ql hH av ?_;refine qg ?_;refine qm ?_;refine qp (o:=0) ?_ (hg:=wi aR);refine ql hH av ?_ (hg:=wi aR);refine qp (o:=0) ?_ (hg:=wi aR);refine ql hH gH ?_ (hg:=wi aR);refine qn ?_ (hg:=wi aR);simp only[List.length_map];refine qg ?_ (hg:=wi aR);refine qu aR ?_;refine qm ?_;refine qm ?_ (hg:=wi aT);refine qp (o:=0) ?_ (hg:=wi aT);refine ql hH av ?_ (hg:=wi aT);refine qi hH bh (fun p96 aa0=>?_) (hg:=wi aT);refine qo hH bh ?_ (hg:=wi aT);refine qu aT ?_;refine qm ?_;refine aa.two 99 rfl (fun lR=>?_) (fun lR=>?_)
        ·refine qs ?_ (hg:=wn lR);refine qs ?_ (hg:=wn lR);refine qs ?_ (hg:=wn lR);refine qs ?_ (hg:=wn lR);refine qs ?_ (hg:=wn lR);refine qs ?_ (hg:=wn lR);refine qt lR ?_;refine aa.nil (aY ?_ ?_)
         ·dsimp only[aB,List.foldl,nth,u2,u1]
          all_goals(first|rfl|simp)
         ·dsimp only[Fr.aj,Fr.put,Fr.clean,Fr.ev,Fr.get,nth,V.look,u1,u2,v1,v2,v3,v4,v5,v6,v7,List.length,u3,u4,Nat.reduceSub,Nat.reduceAdd,List.map]
          all_goals(simp[aR,aT,lR];done)
        ·refine qp (o:=1) ?_ (hg:=wi lR);refine aa.aF (m:=10) hH (aq rfl rfl rfl lR) (ev rfl) (by exact av) (by dsimp only[List.drop_succ_cons,List.drop_zero,List.take_succ_cons,List.take_zero,aC,aJ,ay,aw,Pg.cs,fe,gr,bf]<;>rfl) rfl rfl (ae rfl _) ?_;refine qp (o:=0) ?_ (hg:=wi lR);refine ql hH fm ?_ (hg:=wi lR);refine qv (rG tc place) ?_ (hg:=wi lR);refine qg ?_ (hg:=wi lR);refine qu lR ?_;refine aa.nil (aY ?_ ?_)
         ·dsimp only[aB,List.foldl,nth,u2,u1]
          all_goals(first|rfl|simp)
         ·dsimp only[Fr.aj,Fr.put,Fr.clean,Fr.ev,Fr.get,nth,V.look,u1,u2,v1,v2,v3,v4,v5,v6,v7,List.length,u3,u4,Nat.reduceSub,Nat.reduceAdd,List.map]
          all_goals(simp[aR,aT,lR];done)
       dsimp only[aB,List.foldl,nth,u2,u1];dsimp only[Fr.aj,Fr.put,Fr.clean,Fr.ev,Fr.get,nth,V.look,u1,u2,v1,v2,v3,v4,v5,v6,v7,List.length,u3,u4,Nat.reduceSub,Nat.reduceAdd,List.map];refine qc (fun h4=>?_) (fun h4=>?_)<;>try simp only[cs] at h4
       ·rw[cQ (kh fun h=>by
         rw[cD h.2] at h4;simp at h4;obtain⟨j',t',h5,h6,h7⟩:=(sy k b hb).1 h4
         exact h.1.2 j' t' h5 h6 h7)]
        refine qq<|qj fun K hK=>qm ?_;refine qe hK<|ab.ret ⟨rx,_,rfl,rl bt hH (rfl)⟩
       ·refine ab.skip ?_;simp only[Bool.or_eq_false_iff,Bool.not_eq_false'] at h4;obtain⟨rfl,h4⟩:=h4;have ib:=wy h4;have ET:∀j' t',j'<j→l.bB[j']?=some t'→t'.pc≠(k:Int):=fun j' t' h5 h6 h7=>by have:=(sy k false hb).2 ⟨j',t',h5,h6,h7⟩;cases this
        by_cases lj:(k:Int)=s
        ·have cV:((k:Int) !=s)=false:=by simp[lj]
         refine qq<|qq<|ab.dz 139 (.bool false) [] ?_ (fun ff tmp cY=>?_)
         ·refine qp (o:=0) ?_;refine ql hH av ?_;refine qp (o:=1) ?_;refine ql hH gH ?_;refine qm ?_;refine qr fun T1 ND=>?_;refine qR ?_;refine qg ?_;refine qm ?_;refine qs ?_ (hg:=wn cV);refine qs ?_ (hg:=wn cV);refine qs ?_ (hg:=wn cV);refine qs ?_ (hg:=wn cV);refine qs ?_;refine qs ?_;refine qs ?_;refine qs ?_;refine qs ?_;refine qs ?_;refine qs ?_;refine qs ?_ (hg:=wn cV);refine qs ?_ (hg:=wn cV);refine qs ?_;refine qs ?_;refine qs ?_;refine qs ?_;refine qs ?_;refine qs ?_;refine qs ?_;refine qs ?_;refine qs ?_;refine qs ?_ (hg:=wn cV);refine qu cV ?_;refine aa.nil (aY ?_ ?_)
          ·dsimp only[aB,List.foldl,nth,u2,u1]
           all_goals(first|rfl|simp)
          ·dsimp only[Fr.aj,Fr.put,Fr.clean,Fr.ev,Fr.get,nth,V.look,u1,u2,v1,v2,v3,v4,v5,v6,v7,List.length,u3,u4,Nat.reduceSub,Nat.reduceAdd,List.map]
           all_goals(first|rfl|(simp[cV];done)|(simp_all;done)|(simp[cV];omega)|(simp_all;omega))
         dsimp only[aB,List.foldl,nth,u2,u1];refine qC ?_;refine ab.skip<|qj fun K hK=>qm ?_;refine qp (o:=0) ?_;refine ql hH av ?_;refine qi hH bh fun XB UL=>?_;refine aa.gX hH rfl (ev rfl) (ev rfl) (by assumption) rfl rfl (by exact bh) (by assumption) (Nat.le_of_ble_eq_true rfl) (by exact .inl hF) (fun st hH=>?_);dsimp only[u2,u1,u3,u4,setMany,u5,u6,D.cells,Nat.reduceAdd,aC,aJ,ay,aw,Pg.cs,fe,gr,bf] at hH;refine qe hK<|qj fun K hK=>qm ?_;refine qA ?_;refine qm ?_;refine qe hK ?_;exact⟨mm-1,by omega,⟨j+1,y,seen.set k true,rfl,(by rw[fO];exact hH.drop 1),by omega,by simpa using gj,sy.set ht rfl,Uj ⟨.inl lj,ET⟩ ib⟩⟩
        ·have cV:((k:Int) !=s)=true:=by simp[lj]
         by_cases yi:k=0
         ·subst yi;have bG:(((0:Nat):Int)==0)=true:=rfl;refine qq<|qq<|ab.dz 139 (.bool true) [] ?_ (fun ff tmp cY=>?_)
          ·refine qp (o:=0) ?_;refine ql hH av ?_;refine qp (o:=1) ?_;refine ql hH gH ?_;refine qm ?_;refine qr fun T1 ND=>?_;refine qR ?_;refine qg ?_;refine qm ?_;refine qp (o:=0) ?_ (hg:=wi cV);refine ql hH av ?_ (hg:=wi cV);refine qg ?_ (hg:=wi cV);refine qm ?_ (hg:=wi cV);refine qs ?_ (hg:=wn bG);refine qs ?_ (hg:=wn bG);refine qs ?_ (hg:=wn bG);refine qs ?_ (hg:=wn bG);refine qs ?_ (hg:=wn bG);refine qs ?_ (hg:=wn bG);refine qs ?_ (hg:=wn bG);refine aa.dI (aq rfl rfl rfl cV) rfl bG (ae rfl _) ?_;refine qm ?_ (hg:=wi cV);refine qs ?_;refine qs ?_;refine qs ?_;refine qs ?_;refine qs ?_;refine qs ?_;refine qs ?_;refine qs ?_;refine qs ?_;refine qg ?_ (hg:=wi cV);refine qt cV ?_;refine aa.nil (aY ?_ ?_)
           ·dsimp only[aB,List.foldl,nth,u2,u1]
            all_goals(first|rfl|simp)
           ·dsimp only[Fr.aj,Fr.put,Fr.clean,Fr.ev,Fr.get,nth,V.look,u1,u2,v1,v2,v3,v4,v5,v6,v7,List.length,u3,u4,Nat.reduceSub,Nat.reduceAdd,List.map]
            all_goals(first|rfl|(simp[cV,bG];done)|(simp_all;done)|(simp[cV,bG];omega)|(simp_all;omega))
          dsimp only[aB,List.foldl,nth,u2,u1];refine qB ?_
          rw[cQ (kh fun h=>by
           rcases h.1.1 with h|⟨i,q,h5,h6,_⟩
           ·exact lj h
           ·omega)]
          refine qq<|qj fun K hK=>qm ?_;refine qe hK<|ab.ret ⟨rx,_,rfl,rl bt hH (rfl)⟩
         ·obtain⟨k',rfl⟩:∃k',k=k'+1:=⟨k-1,by omega⟩
          have bG:(((k'+1:Nat):Int)==0)=false:=by simp;omega
          obtain⟨b2,hb2⟩:∃b,(bF p.code s)[k']?=some b:=⟨(bF p.code s)[k']'(by omega),List.getElem?_eq_getElem _⟩
          obtain⟨q,hq⟩:∃q,p.code[k']?=some q:=⟨p.code[k']'(by omega),List.getElem?_eq_getElem _⟩
          have hr5:=il hb2;have hr6:=eB hq;refine qq<|qq<|ab.dz 139 (.bool (!b2||(q.op !=1))) [] ?_ (fun ff tmp cY=>?_)
          ·refine qp (o:=0) ?_;refine ql hH av ?_;refine qp (o:=1) ?_;refine ql hH gH ?_;refine qm ?_;refine qr fun T1 ND=>?_;refine qR ?_;refine qg ?_;refine qm ?_;refine qp (o:=0) ?_ (hg:=wi cV);refine ql hH av ?_ (hg:=wi cV);refine qg ?_ (hg:=wi cV);refine qm ?_ (hg:=wi cV);refine qm ?_ (hg:=wi bG);refine qp (o:=0) ?_ (hg:=wi bG);refine ql hH av ?_ (hg:=wi bG);refine aa.ji (z:=((k':Nat):Int)) (aq rfl rfl rfl bG) (ev rfl) (ev rfl) (by rw[wrap_i64 (by omega) (by omega)]<;>omega) (ae rfl _) ?_;refine qr (fun aaH aas=>?_) (hg:=wi bG);refine qR ?_ (hg:=wi bG);refine qg ?_ (hg:=wi bG);refine aa.de (aq rfl rfl rfl cV) rfl bG (ae rfl _) ?_;refine qm ?_ (hg:=wi cV);refine aa.two 128 rfl (fun ei=>?_) (fun ei=>?_)
           ·refine qs ?_ (hg:=wn ei);refine qs ?_ (hg:=wn ei);refine qs ?_ (hg:=wn ei);refine qs ?_ (hg:=wn ei);refine qs ?_ (hg:=wn ei);refine qs ?_ (hg:=wn ei);refine qs ?_ (hg:=wn ei);refine qs ?_ (hg:=wn ei);refine qs ?_ (hg:=wn ei);refine aa.dI (aq rfl rfl rfl cV) rfl ei (ae rfl _) ?_;refine qt cV ?_;refine aa.nil (aY ?_ ?_)
            ·dsimp only[aB,List.foldl,nth,u2,u1]
             all_goals(first|rfl|simp)
            ·dsimp only[Fr.aj,Fr.put,Fr.clean,Fr.ev,Fr.get,nth,V.look,u1,u2,v1,v2,v3,v4,v5,v6,v7,List.length,u3,u4,Nat.reduceSub,Nat.reduceAdd,List.map]
             all_goals(simp[cV,bG,ei];done)
           ·refine qp (o:=0) ?_ (hg:=wi ei);refine ql hH gH ?_ (hg:=wi ei);refine qp (o:=0) ?_ (hg:=wi ei);refine ql hH av ?_ (hg:=wi ei);refine aa.ji (z:=((k':Nat):Int)) (aq rfl rfl rfl ei) (ev rfl) (ev rfl) (by rw[wrap_i64 (by omega) (by omega)]<;>omega) (ae rfl _) ?_;refine qr (fun aaG aar=>?_) (hg:=wi ei);refine qf (fo:=0) (fun aaF aaq=>?_) (hg:=wi ei);refine qR ?_ (hg:=wi ei);refine qg ?_ (hg:=wi ei);refine aa.de (aq rfl rfl rfl cV) rfl ei (ae rfl _) ?_;refine qt cV ?_;refine aa.nil (aY ?_ ?_)
            ·dsimp only[aB,List.foldl,nth,u2,u1]
             all_goals(first|rfl|simp)
            ·dsimp only[Fr.aj,Fr.put,Fr.clean,Fr.ev,Fr.get,nth,V.look,u1,u2,v1,v2,v3,v4,v5,v6,v7,List.length,u3,u4,Nat.reduceSub,Nat.reduceAdd,List.map]
             all_goals(simp[cV,bG,ei];done)
          dsimp only[aB,List.foldl,nth,u2,u1];refine qc (fun h5=>?_) (fun h5=>?_)<;>try simp only[cs] at h5
          ·rw[cQ (kh fun h=>by
            rcases h.1.1 with h|⟨i,q',h6,h7,h8,h9,h10⟩
            ·exact lj h
            ·have:i=k':=by omega
             subst this;rw[hb2] at h8;cases h8;rw[hq] at h9;cases h9
             simp[h10] at h5)]
           refine qq<|qj fun K hK=>qm ?_;refine qe hK<|ab.ret ⟨rx,_,rfl,rl bt hH (rfl)⟩
          ·refine ab.skip ?_;simp only[Bool.or_eq_false_iff,Bool.not_eq_false',bne_eq_false_iff_eq] at h5;obtain⟨rfl,h5⟩:=h5;refine qj fun K hK=>qm ?_;refine qp (o:=0) ?_;refine ql hH av ?_;refine qi hH bh fun XB UL=>?_;refine aa.gX hH rfl (ev rfl) (ev rfl) (by assumption) rfl rfl (by exact bh) (by assumption) (Nat.le_of_ble_eq_true rfl) (by exact .inl hF) (fun st hH=>?_);dsimp only[u2,u1,u3,u4,setMany,u5,u6,D.cells,Nat.reduceAdd,aC,aJ,ay,aw,Pg.cs,fe,gr,bf] at hH;refine qe hK<|qj fun K hK=>qm ?_;refine qA ?_;refine qm ?_;refine qe hK ?_;exact⟨mm-1,by omega,⟨j+1,y,seen.set (k'+1) true,rfl,(by rw[fO];exact hH.drop 1),by omega,by simpa using gj,sy.set ht rfl,Uj ⟨.inr ⟨k',q,by omega,rfl,hb2,hq,h5⟩,ET⟩ ib⟩⟩
    ·refine ab.exit<|qj fun K hK=>qm ?_;refine qA ?_;refine qm ?_;refine qe hK ?_;exact⟨L.length-(r+1),by omega,⟨r+1,rfl,hH.drop 2,by omega,hw.succ hl j9 ⟨h2.2,h2.1,by rw[show l.bB.length=j by omega];exact Um⟩⟩⟩
  ·refine ab.exit ?_;rw[cD (q:=dJ p place L) ⟨hR,hge,hle,Vr,by rw[show L.length=r by omega];exact hw⟩];refine qq<|qj fun K hK=>qm ?_;refine qe hK<|ab.ret ⟨rx,_,rfl,rl bt hH (rfl)⟩
end Go.Proofs.YtbdnabmmlbiomaaGreat
