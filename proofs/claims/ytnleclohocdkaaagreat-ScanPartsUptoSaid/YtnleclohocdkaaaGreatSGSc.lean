/-
 The scanner, function by function.
-/
import Derived.Test.YtnleclohocdkaaaGreatSGHr
import Derived.Test.YtnleclohocdkaaaGreatSGYg
import Derived.Test.YtnleclohocdkaaaGreatSGCa
import Derived.Test.YtnleclohocdkaaaGreatSM2
import Derived.Test.YtnleclohocdkaaaGreatSGUa
set_option maxRecDepth 100000
set_option maxHeartbeats 4000000
set_option linter.unusedSimpArgs false
set_option linter.unusedVariables false
set_option linter.unusedSectionVars false
namespace Go.Proofs.YtnleclohocdkaaaGreat
open Go.V Go
def SH (A:List aN) (N:Nat) (S st:St) (kS kd kv ks:Nat) (p:Pg) (pl:Nat) (ld:D) (L:List VL) (h:List UInt8) (H:List aN):Prop:=
 ∃pd qd P Q sn js,Has N S st (A++(.box kS (.mem 0 false [.ptr kd 0 0,.ptr kv 0 0])::.box kd (.mem 0 false (bE h js))::(c_ ks kv p pl ld pd qd P Q L++H)))∧cp P Q sn∧sn.length=p.code.length∧(h++js).length=4
def nA (code:List aA) (ss:List Nat) (x:List UInt8×Nat×List PL) (c:UInt8):List UInt8×Nat×List PL:=
 ((dx x.1 c).2,ew code ss (dx x.1 c).1 x.2.1 x.2.2)
def bF (code:List aA) (ss:List Nat) (b:List UInt8) (x:List UInt8×Nat×List PL):List UInt8×Nat×List PL:=b.foldl (nA code ss) x
theorem yw {h:List UInt8} {c:UInt8}:(dx h c).2.length≤3:=yM _ _ (by simp)
theorem qM {h:List UInt8} {c:UInt8}:(dx h c).1.length≤h.length+1:=by
 unfold dx;exact BL _ _
theorem Ez {N:Nat} {S s0:St} {H:List aN} (hH:Has N S s0 H):∃kd ab,Ev pv 76 [] s0 (.ptr kd 0 0) ab∧Has N S ab (.box kd (.mem 0 false (bE [] [0,0,0,0]))::H):=
 ⟨_,_,xv s0,hH.lq _⟩
theorem DM {N:Nat} {S s0:St} {H:List aN} {i kd:Nat} {h js:List UInt8} {c:UInt8} (hH:Has N S s0 H) (hi:H[i]?=some (.box kd (.mem 0 false (bE h js)))) (hl:(h++js).length=4) (h3:h.length≤3):
  ∃ab Qh,Ev pv 109 [.ptr kd 0 0,.int .u8 (c.toNat:Nat)] s0 (dv (dx h c).1) ab∧((dx h c).2++Qh).length=4∧Has N S ab (H.set i (.box kd (.mem 0 false (bE (dx h c).2 Qh)))):=by
 obtain⟨j0,js,rfl⟩:∃a b,js=a::b:=by
  cases js with
  |nil=>simp at hl;omega
  |cons a b=>exact⟨a,b,rfl⟩
 have hge:=hH.ge hi;refine⟨_,_,F9 (hH.at hi) hl (by rw[hH.ex.ro];exact Nat.le_trans hH.cZ hge.1),?_,hH.mg (aq:=0) hi⟩;unfold dx;exact CL _ _ _ (by simp at hl⊢;omega) (by simp)
theorem EO (cC:∀st,Ev pv 63 [] st (.agg (ay aZ)) st) {N:Nat} {S s0:St} {H:List aN} {p:Pg} (hF:S.flr≤N) (hp:p.ok) (hR:aO p) (hH:Has N S s0 H):
  ∃r ab,Ev pv 30 [p.d] s0 r ab∧∃kS kd kv ks q ld L,r=.tup [.ptr kS 0 0,.int .i64 0]∧i_ p q∧L.map VL.pl=(au p).map eL∧SH [] N S ab kS kd kv ks q 0 ld L [] H:=by
 have LS:∀{st H},Has N S st H→∃r ab,Ev pv 13 [p.d] st r ab∧∃kv ks q ld L,r=.tup [.ptr kv 0 0,.int .i64 0]∧i_ p q∧L.map VL.pl=(au p).map eL∧MH [] N S ab ks kv q 0 ld L H:=fun{st H} h=>Ey cC hF hp hR h;unfold Pg.d at*;refine Ev.fX rfl Ps rfl rfl rfl ?_;refine zE ?_;change EvC _ _ _ _ s0 _;refine zQ 2 ?_;refine qb hH fun k1 st kV hH=>?_;dsimp only[u2,u1,u3,u4,setMany,u5,u6,D.cells,Nat.reduceAdd,Pg.cs] at hH;refine zQ 5 ?_;refine EvO.hloadS (m:=2) hH rfl (ev rfl) (by exact at0) (by dsimp only[List.drop_succ_cons,List.drop_zero,List.take_succ_cons,List.take_zero,Pg.cs]<;>rfl) rfl rfl (put_T rfl _) ?_;obtain⟨_,st,hev,kv,ks,q,ld,L,rfl,hq,hL,hM⟩:=LS hH;refine qv hev ?_;refine zQ 12 ?_;refine EvC.cond (v:=false) (by dsimp only[Fr.ev,Fr.get,nth,V.look];rfl) (fun h=>by cases h) (fun _=>?_);refine zQ 1 ?_;obtain⟨pd,qd,P,Q,sn,hH,hok,cY⟩:=nG hM;dsimp only[u4] at hH;refine zQ 2 ?_;obtain⟨kd,st,hev,hH⟩:=Ez hH;refine qv hev ?_;refine qm ?_;refine EvO.eE (qs:=[(0,_),(1,_)]) rfl rfl rfl rfl ⟨rfl,(ev rfl),(by rfl),rfl,(ev rfl),(by rfl),trivial⟩ (by intro q hq;simp only[List.mem_cons,List.not_mem_nil,or_false] at hq;rcases hq with rfl|rfl<;>exact⟨rfl,by exact Nat.le_of_ble_eq_true rfl⟩) (by show List.foldl _ [_,_] _=_;dsimp only[List.foldl_cons,List.foldl_nil,u2,u1]<;>rfl) (put_T rfl _) ?_;refine qb hH fun k17 st Ke hH=>?_;refine zQ 3 ?_;refine EvC.ret ⟨rx,_,_,_,rfl,rfl,?_⟩;refine⟨k17,kd,kv,ks,q,ld,L,rfl,hq,hL,pd,qd,P,Q,sn,[0,0,0,0],?_,hok,cY,rfl⟩;have hH:=Has.e5 (_::_::c_ ks kv q 0 ld pd qd P Q L) [_] (H:=H) hH;exact hH.drop 1
theorem B3 (cC:∀st,Ev pv 63 [] st (.agg (ay aZ)) st) {N kS kd kv ks:Nat} {S s0:St} {H:List aN} {p:Pg} {pl:Nat} {ld:D} {L:List VL} {h:List UInt8} {c:UInt8} (hF:S.flr≤N) (hp:p.ok) (hR:aO p) (hpl:pl≤2000000000000) (h3:h.length≤3) (hLl:L.length=p.ah.length) (vY:∀l∈L,l.pl.ok p.code.length) (hM:SH [] N S s0 kS kd kv ks p pl ld L h H):
  ∃d ab,Ev pv 77 [.ptr kS 0 0,.int .u8 (c.toNat:Nat)] s0 d ab∧d=.tup []∧∃xI L',L'.map VL.pl=(ew p.code (au p) (dx h c).1 pl (L.map VL.pl)).2∧SH [] N S ab kS kd kv ks p (ew p.code (au p) (dx h c).1 pl (L.map VL.pl)).1 xI L' (dx h c).2 H:=by
 obtain⟨pd,qd,P,Q,sn,js,hH,hok,cY,hl⟩:=hM;have lH:=qM (h:=h) (c:=c);dsimp only[u4] at hH;have HH:=(hH.ge at1).2;have VY:=hH.sB (j:=2) (k:=kv) rfl rfl;refine Ev.fX rfl O2 rfl rfl rfl ?_;refine zE ?_;change EvC _ _ _ _ s0 _;have jE:=hH;change EvC _ _ _ _ _ _;generalize hK:SeqQ _ _ _ _=K;refine EvC.tm rfl ?_;refine bD.cons ?_;refine qm ?_;refine EvO.nil ⟨rfl,?_⟩;refine bD.cons ?_;refine qg ?_;refine EvO.nil ⟨rfl,?_⟩;refine bD.cons ?_;refine qp (o:=1) ?_;refine EvO.nil ⟨rfl,?_⟩;refine bD.cons ?_;refine ql hH at0 ?_;refine EvO.nil ⟨rfl,?_⟩;refine bD.cons ?_;refine qm ?_;refine EvO.nil ⟨rfl,?_⟩;refine bD.cons ?_;refine qg ?_;refine EvO.nil ⟨rfl,?_⟩;refine bD.cons ?_;refine qp (o:=0) ?_;refine EvO.nil ⟨rfl,?_⟩;refine bD.cons ?_;refine ql hH at0 ?_;refine EvO.nil ⟨rfl,?_⟩;refine bD.cons ?_;refine qm ?_;refine EvO.nil ⟨rfl,?_⟩;refine bD.cons ?_;obtain⟨st,js,hev,hl,hH⟩:=DM (c:=c) hH at1 hl h3;dsimp only[u1,u2] at hH;refine qv hev ?_;refine EvO.nil ⟨by exact Bool.and_eq_true_iff.2 ⟨fu rfl rfl rfl (jE.at at0) (hH.at at0) (jE.at at0) (by simp only[refs,D.ref];omega),rfl⟩,?_⟩;refine bD.cons ?_;obtain⟨_,st,hev,rfl,xI,L',Uu,hM⟩:=uE (gs:=(dx h c).1) cC hF hp hR (by omega) (by omega) hLl vY (MH.push [_,_] [] (H:=H) (vu hH hok cY));refine qv hev ?_;refine EvO.nil ⟨rfl,?_⟩;refine bD.nil ?_;subst hK;refine⟨fun i h=>(by cases h),_,_,_,rfl,rfl,?_⟩;obtain⟨pd,qd,P,Q,sn,hH,hok,cY⟩:=nG (MH.pull [_,_] [] (H:=H) hM);exact⟨rfl,xI,L',Uu,pd,qd,P,Q,sn,js,hH,hok,cY,hl⟩
def mK (fr:Go.V.Fr) (k:Nat):Go.V.D:=Go.V.nth .junk fr.loc k
theorem Bo {b:List UInt8} {i:Nat} {c:UInt8} (h:b[i]?=some c):(V.byteCells b)[i]?=some [.int .u8 (c.toNat:Nat)]:=by unfold V.byteCells;rw[List.getElem?_map,h];rfl
theorem w7 (code:List aA) (ss:List Nat) (b:List UInt8) (c:UInt8) (x:List UInt8×Nat×List PL):bF code ss (b++[c]) x=nA code ss (bF code ss b x) c:=by unfold bF;rw[List.foldl_append];rfl
theorem w8 (code:List aA) (ss:List Nat) (b:List UInt8) (x:List UInt8×Nat×List PL):bF (code.map cQ) ss b x=bF code ss b x:=by
 have:nA (code.map cQ) ss=nA code ss:=by funext x c;unfold nA;rw[mq]
 unfold bF;rw[this]
theorem oR {p:Pg} (hR:aO p):∀(b:List UInt8) (x:List UInt8×Nat×List PL),x.1.length≤3→x.2.2.length=p.ah.length→(∀l∈x.2.2,l.ok p.code.length)→(bF p.code (au p) b x).1.length≤3∧(bF p.code (au p) b x).2.1≤x.2.1+16*b.length∧(bF p.code (au p) b x).2.2.length=p.ah.length∧∀l∈(bF p.code (au p) b x).2.2,l.ok p.code.length
 |[],x,h1,h2,h3=>⟨h1,Nat.le_refl _,h2,h3⟩
 |c::b,x,h1,h2,h3=>by
  obtain⟨g1,g2⟩:=ou hR (dx x.1 c).1 x.2.1 x.2.2 h2 h3;have g3:=tj p.code (au p) (dx x.1 c).1 x.2.1 x.2.2;have g4:=qM (h:=x.1) (c:=c);obtain⟨q1,q2,q3,q4⟩:=oR hR b (nA p.code (au p) x c) yw g1 g2;have q2:(bF p.code (au p) (c::b) x).2.1≤(ew p.code (au p) (dx x.1 c).1 x.2.1 x.2.2).1+16*b.length:=q2;exact⟨q1,by simp only[List.length_cons];omega,q3,q4⟩
theorem oS (cC:∀st,Ev pv 63 [] st (.agg (ay aZ)) st) {N kS kd kv ks:Nat} {S s0:St} {H:List aN} {p:Pg} {pl:Nat} {ld:D} {L:List VL} {h:List UInt8} {x:D} {b:List UInt8} (hF:S.flr≤N) (hp:p.ok) (hR:aO p) (hx:Arg N S 1 x (V.byteCells b)) (hbl:b.length≤1048576) (hpl:pl+16*b.length≤2000000000000) (h3:h.length≤3) (hLl:L.length=p.ah.length) (vY:∀l∈L,l.pl.ok p.code.length) (hM:SH [] N S s0 kS kd kv ks p pl ld L h H):
  ∃d ab,Ev pv 32 [.ptr kS 0 0,x] s0 d ab∧d=.tup []∧∃xI L',L'.map VL.pl=(bF p.code (au p) b (h,pl,L.map VL.pl)).2.2∧SH [] N S ab kS kd kv ks p (bF p.code (au p) b (h,pl,L.map VL.pl)).2.1 xI L' (bF p.code (au p) b (h,pl,L.map VL.pl)).1 H:=by
 obtain⟨pd,qd,P,Q,sn,js,hH,hok,cY,hl⟩:=hM;dsimp only[u4] at hH;have Kv:=aS b;have FI:∀l∈L.map VL.pl,l.ok p.code.length:=fun l hl=>by obtain⟨y,hy,rfl⟩:=List.mem_map.1 hl;exact vY y hy
 have AZ:(L.map VL.pl).length=p.ah.length:=by rw[List.length_map];exact hLl
 have MU:=fun(i:Nat)=>oR hR (b.take i) (h,pl,L.map VL.pl) h3 AZ FI;have MT:bF p.code (au p) (b.take 0) (h,pl,L.map VL.pl)=(h,pl,L.map VL.pl):=rfl;refine Ev.fX rfl Pr rfl rfl rfl ?_;refine zE ?_;change EvC _ _ _ _ s0 _;refine zQ 3 ?_;refine qn ?_;refine zQ 2 ?_;rw[Kv];refine zQ 1 ?_;refine EvC.loop (fun mm fr st=>∃(i:Nat) (rn:Nat) (h':List UInt8) (ld pd qd:D) (L':List VL) (P Q:List Nat) (sn:List Bool) (js:List UInt8),fr.clean=⟨9,[.ptr kS 0 0,mK fr 1,mK fr 2,mK fr 3,mK fr 4,mK fr 5,x,.int .i64 (b.length:Nat),.int .i64 (i:Nat)],[]⟩∧Has N S st (.box kS (.mem 0 false [.ptr kd 0 0,.ptr kv 0 0])::.box kd (.mem 0 false (bE h' js))::(c_ ks kv p rn ld pd qd P Q L'++H))∧(i+mm=b.length)∧(cp P Q sn)∧(sn.length=p.code.length)∧((h'++js).length=4)∧(bF p.code (au p) (b.take i) (h,pl,L.map VL.pl)=(h',rn,L'.map VL.pl))) (b.length) ?_ ?_
 ·exact⟨0,pl,h,ld,pd,qd,L,P,Q,sn,js,rfl,hH,by omega,hok,cY,hl,MT⟩
 rintro mm fr st ⟨i,rn,h',ld,pd,qd,L',P,Q,sn,js,hfr,hH,hi,hok,cY,hl,hX⟩;rw[hfr];clear hfr;generalize mK fr=ee;clear fr;obtain⟨g1,g2,g3,g4⟩:=MU i;rw[hX] at g1 g2 g3 g4;simp only at g1 g2 g3 g4;have OH:L'.length=p.ah.length:=by rw[←g3,List.length_map]
 refine zQ 5 ?_;refine zP (fun hlt=>?_) fun hlt=>?_
 ·refine zQ 1 ?_;have hil:i<b.length:=by omega
  obtain⟨c,hcc⟩:∃c,b[i]?=some c:=⟨b[i]'hil,List.getElem?_eq_getElem _⟩
  have hr1:=Bo hcc;have JG:b.take (i+1)=b.take i++[c]:=by rw[List.take_add_one,hcc];rfl
  have VN:(b.take i).length=i:=by rw[List.length_take];omega
  refine zQ 4 ?_;refine qr fun LH FF=>?_;refine zQ 6 ?_;obtain⟨_,st,hev,rfl,xI,L1,FR,hM⟩:=B3 (c:=c) cC hF hp hR (by omega) g1 OH (gh g4) ⟨pd,qd,P,Q,sn,js,hH,hok,cY,hl⟩;obtain⟨pd,qd,P,Q,sn,js,hH,hok,cY,hl⟩:=hM;dsimp only[u4] at hH;refine qv hev ?_;refine zQ 5 ?_;exact⟨mm-1,by omega,⟨i+1,_,_,xI,pd,qd,L1,P,Q,sn,js,rfl,hH,by omega,hok,cY,hl,(by rw[JG,w7,hX,FR];rfl)⟩⟩
 ·refine zQ 1 ?_;refine⟨fun i h=>(by cases h),_,_,_,rfl,rfl,?_⟩;have JG:b.take i=b:=List.take_of_length_le (by omega);rw[JG] at hX;rw[hX];exact⟨rfl,ld,L',rfl,pd,qd,P,Q,sn,js,hH,hok,cY,hl⟩
structure AS (st:St) (kS kd kv ks:Nat) (p:Pg) (pl:Nat) (ld:D) (L:List VL) (h js:List UInt8):Prop where
 s:st.bs[kS]?=some (.mem 0 false [.ptr kd 0 0,.ptr kv 0 0])
 sl:kS<st.bs.length
 d:st.bs[kd]?=some (.mem 0 false (bE h js))
 dl:kd<st.bs.length
 hl:(h++js).length=4
 m:AM st.bs.length st kv ks p pl ld L
 ro:st.ro≤st.bs.length
theorem SH.as {N kS kd kv ks:Nat} {S s0:St} {H:List aN} {p:Pg} {pl:Nat} {ld:D} {L:List VL} {h:List UInt8} (hM:SH [] N S s0 kS kd kv ks p pl ld L h H):∃js,AS s0 kS kd kv ks p pl ld L h js:=by
 obtain⟨pd,qd,P,Q,sn,js,hH,hok,cY,hl⟩:=hM;dsimp only[u4] at hH;have hM:MH [] N S s0 ks kv p pl ld L ([_,_]++H):=MH.push [_,_] [] (H:=H) (vu hH hok cY);exact⟨js,hH.at at0,(hH.ge at0).2,hH.at at1,(hH.ge at1).2,hl,hM.am,hM.ro⟩
theorem AM.bs {N:Nat} {S S2:St} {kv ks:Nat} {p:Pg} {pl:Nat} {ld:D} {L:List VL} (h:AM N S kv ks p pl ld L) (hS:S2.bs=S.bs):AM N S2 kv ks p pl ld L:=
 ⟨h.lt,by rw[hS];exact h.le,by rw[hS];exact h.at_,⟨h.ld.1.bs hS,h.ld.2⟩,fun l hl=>⟨(h.td l hl).1.bs hS,(h.td l hl).2⟩,h.ksl⟩
theorem AM.lift {N:Nat} {S st:St} {H:List aN} {kv ks:Nat} {p:Pg} {pl:Nat} {ld:D} {L:List VL} (h:AM N S kv ks p pl ld L) (hH:Has N S st H):AM st.bs.length st kv ks p pl ld L:=by
 have h1:=h.le;have h2:=hH.ex.len;have h3:=h.lt;have h4:=h.ksl;exact⟨by omega,Nat.le_refl _,h.box hH,⟨h.ld.rows hH,by have:=h.ld.2;omega⟩,fun l hl=>⟨(h.td l hl).rows hH,by have:=(h.td l hl).2;omega⟩,by omega⟩
theorem pt {N:Nat} {S st:St} {H:List aN} {k:Nat} {cs:List D} (hH:Has N S st H) (hk:k<N) (h:S.bs[k]?=some (.mem 0 false cs)) (o:Nat):i7 st (.ptr k 0 o) (cs.drop o):=
 .inl ⟨k,0,o,false,_,rfl,St.mem_of (by rw[hH.ex.low k hk];exact h),List.take_length ..⟩
theorem back_eq {S st s0:St} {H:List aN} (hH:Has s0.bs.length S st H) (hSb:S.bs=s0.bs):(⟨st.bs.take s0.bs.length,s0.flr,s0.ro⟩:St)=s0:=by
 have T8:st.bs.take s0.bs.length=s0.bs:=by
  refine List.ext_getElem? fun j=>?_;rw[List.getElem?_take]
  by_cases hj:j<s0.bs.length
  ·rw[if_pos hj,hH.ex.low j hj,hSb]
  ·rw[if_neg hj,List.getElem?_eq_none (by omega)]
 rw[T8]
theorem Be {N:Nat} {S st:St} {H:List aN} {j:Nat} {d:D} {E:List PL} (hH:Has N S st H) (hj:H[j]?=some (.lst d 12 (E.map tY))) (he:∀l∈E,l.aU=[]):aX st N false 16 d=some (xH E):=by
 have hown:=hH.own hj;have iS:j<H.length:=lt_get hj
 have h2:Has N S st (H.set j (.deep (fun _=>False) d 12 (E.map jY))):=hH.Bs hj (fun _ _ _=>rfl) (Nat.le_refl _) rfl rfl ⟨⟨E.map tY,hown,by
   clear hj hown iS
   induction E with
   |nil=>exact .nil
   |cons l E ih=>
    rw[List.map_cons,List.map_cons];refine .cons ?_ (ih fun x hx=>he x (List.mem_cons_of_mem _ hx));unfold jY;rw[he l (List.mem_cons_self ..)]
    exact Ih (.lst .nul 11 [] .nul (fun e h=>by cases h) (fun k h=>by simp only[D.ref] at h;omega))⟩,fun _ _=>id⟩ (fun k hk=>.inl (by
   rcases hk with hk|hk
   ·exact hk
   ·exact hk.elim)) (fun k hk=>by
   rcases hk with hk|hk
   ·exact((hH.ok j _ hj).2 k hk).2
   ·exact hk.elim)
 exact h2.pT (n:=15) (List.getElem?_set_self iS) (by decide)
theorem Jf {L:List VL} {n:Nat} (h:∀l∈L,l.pl.ok n):∀l∈L,l.aU.length≤1000:=fun l hl=>(h l hl).2
section
variable{A:List aN} {N kS kd kv ks:Nat} {S s0:St} {p:Pg} {pl:Nat} {ld:D} {L:List VL} {h:List UInt8} {H:List aN}
theorem SH.pull (A:List aN) (hM:SH [] N S s0 kS kd kv ks p pl ld L h (A++H)):SH A N S s0 kS kd kv ks p pl ld L h H:=by
 obtain⟨pd,qd,P,Q,sn,js,hH,h1,h2,h3⟩:=hM;refine⟨pd,qd,P,Q,sn,js,?_,h1,h2,h3⟩;have:=Has.e5 (_::_::c_ ks kv p pl ld pd qd P Q L) A (H:=H) (by simpa only[List.nil_append,List.cons_append,List.append_assoc] using hH)
 simpa only[List.cons_append,List.append_assoc] using this
theorem SH.push (hM:SH A N S s0 kS kd kv ks p pl ld L h H):SH [] N S s0 kS kd kv ks p pl ld L h (A++H):=by
 obtain⟨pd,qd,P,Q,sn,js,hH,h1,h2,h3⟩:=hM;refine⟨pd,qd,P,Q,sn,js,?_,h1,h2,h3⟩;have:=Has.e5 A (_::_::c_ ks kv p pl ld pd qd P Q L) (H:=H) (by simpa only[List.cons_append,List.append_assoc] using hH)
 simpa only[List.nil_append,List.cons_append,List.append_assoc] using this
theorem SH.has (hM:SH A N S s0 kS kd kv ks p pl ld L h H):Has N S s0 A:=by
 obtain⟨pd,qd,P,Q,sn,js,hH,h1,h2,h3⟩:=hM;have:=hH.take A.length
 rwa [List.take_left] at this
end
theorem uO (code:List aA) (ss:List Nat) (x:List UInt8×Nat×List PL) (c:UInt8):cj (nA code ss x c).1=true∨(nA code ss x c).1=[]:=(oJ _ _ (by simp)).symm
end Go.Proofs.YtnleclohocdkaaaGreat
namespace Go.Proofs.YtnleclohocdkaaaGreat
open Go.V Go
def kH (fr:Go.V.Fr) (k:Nat):Go.V.D:=Go.V.nth .junk fr.loc k
def bu (f:np) (to:Int):Prop:=∀i,i<10→-1≤f i∧f i≤to
theorem DW {f:np} {st:St} {i:Nat} (hi:i<10):(pF pv 55 (.agg (ay f)) (.int .i64 (i:Nat))).map (fun d=>(d,st))=some (.int .i64 (f i),st):=by
 match i,hi with
 |0,_=>rfl
 |1,_=>rfl
 |2,_=>rfl
 |3,_=>rfl
 |4,_=>rfl
 |5,_=>rfl
 |6,_=>rfl
 |7,_=>rfl
 |8,_=>rfl
 |9,_=>rfl
theorem mB {s0:St} (f:np) (to:Int):Ev pv 64 [.agg (ay f),.int .i64 to] s0 (.bool (dec (bu f to))) s0:=by
 refine Ev.mk1 rfl O7 rfl rfl rfl ?_;refine zE ?_;obtain⟨hSb,hF,hH⟩:=ri s0;generalize enterSt .ro s0=S at*;refine zQ 2 ?_;refine qb hH fun k2 st hk2 hH=>?_;refine zQ 5 ?_;refine EvO.hloadS (m:=10) hH rfl (ev rfl) (by exact at0) (by dsimp only[List.drop_succ_cons,List.drop_zero,List.take_succ_cons,List.take_zero]<;>rfl) rfl rfl (by dsimp only[Fr.put,u1,u2]<;>rfl) ?_;refine zQ 3 ?_;refine EvC.loop (fun mm fr st=>∃(i:Nat),fr.clean=⟨9,[kH fr 0,.int .i64 to,kH fr 2,kH fr 3,kH fr 4,kH fr 5,kH fr 6,.agg (ay f),.int .i64 (i:Nat)],[]⟩∧Has s0.bs.length S st [.box k2 (.mem 0 false (ay f))]∧(i+mm=10)∧(∀j,j<i→-1≤f j∧f j≤to)) (10) ?_ ?_
 ·exact⟨0,rfl,hH,by omega,by intro j h;omega⟩
 rintro mm fr st ⟨i,hfr,hH,hi,hpre⟩;rw[hfr];clear hfr;generalize kH fr=ee;clear fr;refine zQ 5 ?_;refine zP (fun hlt=>?_) fun hlt=>?_
 ·refine zQ 5 ?_;refine EvO.go (d:=.int .i64 (f i)) (st1:=_) rfl rfl (DW (by omega)) (put_T rfl _) ?_;refine zQ 3 ?_;refine EvC.cutT 17 (.bool (decide (f i< -1)||decide (f i>to))) [] ?_ (fun ff tmp htmp=>?_)
  ·refine zQ 3 ?_;refine EvO.two 13 rfl (fun bS=>?_) (fun bS=>?_)
   ·refine zQ 4 ?_;refine EvO.nil (leafT ?_ ?_)
    ·dsimp only[setW,List.foldl,nth,u2,u1]
     all_goals(first|rfl|simp)
    ·refine zF ?_
     all_goals(simp[bS];done)
   ·refine zQ 4 ?_;refine EvO.nil (leafT ?_ ?_)
    ·dsimp only[setW,List.foldl,nth,u2,u1]
     all_goals(first|rfl|simp)
    ·refine zF ?_
     all_goals(simp[bS];done)
  refine zG ?_;refine qc (fun h2=>?_) (fun h2=>?_)<;>try simp only[cs] at h2
  ·rw[iW (fun h=>by have:=h i (by omega);simp at h2;omega)];refine zQ 4 ?_;refine EvC.ret ⟨rx,_,rfl,rl hSb hH (rfl)⟩
  ·refine zQ 5 ?_;refine⟨mm-1,by omega,⟨i+1,rfl,hH,by omega,?_⟩⟩;intro j hj
   by_cases he:j=i
   ·subst he;simp at h2;omega
   ·exact hpre j (by omega)
 ·refine zQ 1 ?_;rw[dc (q:=bu f to) (fun j hj=>hpre j (by omega))];refine zQ 4 ?_;refine EvC.ret ⟨rx,_,rfl,rl hSb hH (rfl)⟩
end Go.Proofs.YtnleclohocdkaaaGreat
namespace Go.V
def ir (l:List (Int×Int)):List (D×D):=l.map fun p=>(.int .i64 p.1,.int .i64 p.2)
def getM:List (Int×Int)→Int→Int
 |[],_=>0
 |(k,x)::l,n=>if n=k then x else getM l n
def mA:List (Int×Int)→Int→Int→List (Int×Int)
 |[],n,v=>[(n,v)]
 |(k,x)::l,n,v=>if n=k then(n,v)::l else(k,x)::mA l n v
theorem lO (n v m:Int):∀l,getM (mA l n v) m=if m=n then v else getM l m
 |[]=>rfl
 |(k,x)::l=>by
  unfold mA
  by_cases h:n=k
  ·subst h;rw[if_pos rfl];unfold getM
   by_cases h2:m=n<;>simp[h2]
  ·rw[if_neg h];unfold getM;rw[lO n v m l]
   by_cases h2:m=n
   ·subst h2;simp[h]
   ·simp[h2]
theorem pY (n:Int):∀(l:List (Int×Int)) (i:Nat),(eJ .i64 n (ir l) i=some none∧getM l n=0∧∀v,mA l n v=l++[(n,v)])∨∃j,eJ .i64 n (ir l) i=some (some (i+j,.int .i64 (getM l n)))∧∀v,mA l n v=l.set j (n,v)
 |[],i=>.inl ⟨rfl,rfl,fun v=>rfl⟩
 |(k,x)::l,i=>by
  by_cases h:n=k
  ·subst h;exact .inr ⟨0,by simp[ir,eJ,getM],fun v=>by simp[mA]⟩
  ·have hb:(n==k)=false:=by simpa using h
   rcases pY n l (i+1) with⟨h1,h2,h3⟩|⟨j,h1,h3⟩
   ·refine .inl ⟨?_,by simp[getM,h,h2],fun v=>by simp[mA,h,h3 v]⟩;show(if IntKind.i64=IntKind.i64 then(if(n==k)=true then some (some (i,D.int .i64 x)) else eJ .i64 n (ir l) (i+1)) else none)=_;rw[hb];exact h1
   ·refine .inr ⟨j+1,?_,fun v=>by simp[mA,h,h3 v]⟩;show(if IntKind.i64=IntKind.i64 then(if(n==k)=true then some (some (i,D.int .i64 x)) else eJ .i64 n (ir l) (i+1)) else none)=_;rw[hb];simp only[getM,h,if_false];rw[show i+(j+1)=i+1+j by omega];exact h1
variable{P:Pv}
theorem pk {st:St} {k:Nat} {l:List (Int×Int)} {t kt e:TypeId} {kk:IntKind} {n v:Int} (ht:P.bI t=some (.map kt e)) (hk:P.bI kt=some (.int kk)) (hb:st.bs[k]?=some (.map (ir l))) (hw:st.ga k 0=true):
  gL P t (.mp k) (.int .i64 n) (.int .i64 v) st=some {st with bs:=st.bs.set k (.map (ir (mA l n v)))}:=by
 unfold gL;simp only[ht,hk,hb,hw]
 rcases pY n l 0 with⟨h1,_,h3⟩|⟨j,h1,h3⟩
 ·rw[h1,h3 v];simp[ir]
 ·rw[h1,h3 v];simp[ir]
theorem xG {st:St} {k:Nat} {l:List (Int×Int)} {t kt e:TypeId} {kk:IntKind} {n:Int} (ht:P.bI t=some (.map kt e)) (hk:P.bI kt=some (.int kk)) (he:rJ P e=some (.int .i64 0)) (hb:st.bs[k]?=some (.map (ir l))):
  lD P t (.mp k) (.int .i64 n) st=some (.int .i64 (getM l n)):=by
 unfold lD;simp only[ht,hk,hb]
 rcases pY n l 0 with⟨h1,h2,_⟩|⟨j,h1,_⟩
 ·rw[h1,h2];exact he
 ·rw[h1]
variable{N:Nat} {S st:St} {H:List aN} {fr ax:Fr} {ops:Array Oper} {rest:List Oper} {Q:Fr→St→Prop} {dst ty:Nat} {pp:String} {a:Array Edge} {g:Option (Nat×Bool)}
theorem EvO.jf {t:TypeId} {ax:Nat→Fr} (hH:Has N S st H) (hg:av ops fr ⟨some dst,.makeMap t none,ty,pp,a,g⟩=some true) (hp:∀k,fr.put dst (.mp k)=ax k)
  (h:∀k ab,S.bs.length≤k→Has N S ab (.box k (.map (ir []))::H)→EvO P ops rest (ax k) ab Q):EvO P ops (⟨some dst,.makeMap t none,ty,pp,a,g⟩::rest) fr st Q:=
 EvO.go hg rfl (d:=.mp st.bs.length) (st1:=st.push (.map [])) rfl (hp _) (h _ _ hH.len (hH.lq _))
theorem EvO.zi {j k:Nat} {l:List (Int×Int)} {t kt e:TypeId} {kk:IntKind} {n v:Int} {mo ko vo:Operand} (hH:Has N S st H) (hg:av ops fr ⟨none,.mapUpdate t mo ko vo,ty,pp,a,g⟩=some true) (ht:P.bI t=some (.map kt e)) (hk:P.bI kt=some (.int kk)) (hm:fr.ev mo=.mp k) (hn:fr.ev ko=.int .i64 n) (hv:fr.ev vo=.int .i64 v) (hj:H[j]?=some (.box k (.map (ir l))))
  (h:∀ab,Has N S ab (H.set j (.box k (.map (ir (mA l n v)))))→EvO P ops rest fr ab Q):EvO P ops (⟨none,.mapUpdate t mo ko vo,ty,pp,a,g⟩::rest) fr st Q:=by
 refine EvO.N hg rfl (d:=.tup []) (st1:=⟨st.bs.set k (.map (ir (mA l n v))),st.flr,st.ro⟩) ?_ (h _ (hH.mg (aq:=0) hj));simp only[cG,hm,hn,hv,pk ht hk (hH.at hj) (fH hH (cs:=[]) (hH.ge hj).1 (.inr rfl)),Option.map_some]
theorem EvO.FJ {j k:Nat} {l:List (Int×Int)} {t kt e:TypeId} {kk:IntKind} {n v:Int} {mo ko vo:Operand} (hH:Has N S st H) (hg:av ops fr ⟨none,.insert t mo ko vo,ty,pp,a,g⟩=some true) (ht:P.bI t=some (.map kt e)) (hk:P.bI kt=some (.int kk)) (hm:fr.ev mo=.mp k) (hn:fr.ev ko=.int .i64 n) (hv:fr.ev vo=.int .i64 v) (hj:H[j]?=some (.box k (.map (ir l))))
  (h:∀ab,Has N S ab (H.set j (.box k (.map (ir (mA l n v)))))→EvO P ops rest fr ab Q):EvO P ops (⟨none,.insert t mo ko vo,ty,pp,a,g⟩::rest) fr st Q:=by
 refine EvO.N hg rfl (d:=.tup []) (st1:=⟨st.bs.set k (.map (ir (mA l n v))),st.flr,st.ro⟩) ?_ (h _ (hH.mg (aq:=0) hj));simp only[cG,hm,hn,hv,pk ht hk (hH.at hj) (fH hH (cs:=[]) (hH.ge hj).1 (.inr rfl)),Option.map_some]
theorem EvO.FK {j k:Nat} {l:List (Int×Int)} {t kt e:TypeId} {kk:IntKind} {n:Int} {mo ko:Operand} (hH:Has N S st H) (hg:av ops fr ⟨some dst,.lookup t mo ko false,ty,pp,a,g⟩=some true) (ht:P.bI t=some (.map kt e)) (hk:P.bI kt=some (.int kk)) (he:rJ P e=some (.int .i64 0)) (hm:fr.ev mo=.mp k) (hn:fr.ev ko=.int .i64 n) (hj:H[j]?=some (.box k (.map (ir l)))) (hp:fr.put dst (.int .i64 (getM l n))=ax)
  (h:EvO P ops rest ax st Q):EvO P ops (⟨some dst,.lookup t mo ko false,ty,pp,a,g⟩::rest) fr st Q:=by
 refine EvO.go hg rfl (d:=.int .i64 (getM l n)) (st1:=st) ?_ hp h;simp only[cG,hm,hn,xG ht hk he (hH.at hj),Option.map_some]
end Go.V
namespace Go.Proofs.YtnleclohocdkaaaGreat
open Go.V Go
def aw (fr:Go.V.Fr) (k:Nat):Go.V.D:=Go.V.nth .junk fr.loc k
structure GT where
 pc:Int
 c:np
def fq (t:GT):List D:=[.int .i64 t.pc,.int .i64 (t.c 0),.int .i64 (t.c 1),.int .i64 (t.c 2),.int .i64 (t.c 3),.int .i64 (t.c 4),.int .i64 (t.c 5),.int .i64 (t.c 6),.int .i64 (t.c 7),.int .i64 (t.c 8),.int .i64 (t.c 9)]
theorem Dz {l:List GT} {i:Nat} {q:GT} (h:l[i]?=some q):(l.map fq)[i]?=some (fq q):=by rw[List.getElem?_map,h];rfl
def gQ (p:Pg) (s:Int) (m:Nat) (n:Int):Prop:=n=s∨∃i q,i<m∧n=((i+1:Nat):Int)∧(a_ p.code s)[i]?=some true∧p.code[i]?=some q∧q.op=1
def nO (p:Pg) (s:Int) (aU:List GT) (m:Nat) (n:Int):Prop:=gQ p s p.code.length n∧∀j t,j<m→aU[j]?=some t→t.pc≠n
def ku (p:Pg) (s:Int) (aU:List GT) (place:Int) (m:Nat):Prop:=∀j t,j<m→aU[j]?=some t→nO p s aU j t.pc∧bu t.c place
theorem pU {p:Pg} {s:Int} {m:Nat} {n:Int} {b:Bool} {q:aA} (hb:(a_ p.code s)[m]?=some b) (hq:p.code[m]?=some q):gQ p s (m+1) n↔gQ p s m n∨(n=((m+1:Nat):Int)∧(b &&(q.op==1))=true):=by
 unfold gQ;constructor
 ·rintro(h|⟨i,q',h1,h2,h3,h4,h5⟩)
  ·exact .inl (.inl h)
  ·by_cases he:i=m
   ·subst he;rw[hb] at h3;cases h3;rw[hq] at h4;cases h4;exact .inr ⟨h2,by simp[h5]⟩
   ·exact .inl (.inr ⟨i,q',by omega,h2,h3,h4,h5⟩)
 ·rintro((h|⟨i,q',h1,h2,h3,h4,h5⟩)|⟨h1,h2⟩)
  ·exact .inl h
  ·exact .inr ⟨i,q',by omega,h2,h3,h4,h5⟩
  ·simp only[Bool.and_eq_true,beq_iff_eq] at h2;obtain⟨rfl,h2⟩:=h2;exact .inr ⟨m,q,by omega,h1,hb,hq,h2⟩
theorem yc {p:Pg} {s:Int} {aU:List GT} {j:Nat} {n:Int} {t:GT} (ht:aU[j]?=some t):nO p s aU (j+1) n↔nO p s aU j n∧n≠t.pc:=by
 unfold nO;constructor
 ·rintro⟨h1,h2⟩;exact⟨⟨h1,fun j' t' hj h=>h2 j' t' (by omega) h⟩,fun h=>h2 j t (by omega) ht h.symm⟩
 ·rintro⟨⟨h1,h2⟩,h3⟩;refine⟨h1,fun j' t' hj h=>?_⟩
  by_cases he:j'=j
  ·subst he;rw[ht] at h;cases h;exact fun h=>h3 h.symm
  ·exact h2 j' t' (by omega) h
theorem uz {p:Pg} {s place:Int} {aU:List GT} {j:Nat} {t:GT} (ht:aU[j]?=some t) (h:ku p s aU place j) (h1:nO p s aU j t.pc) (h2:bu t.c place):ku p s aU place (j+1):=by
 intro j' t' hj h'
 by_cases he:j'=j
 ·subst he;rw[ht] at h';cases h';exact⟨h1,h2⟩
 ·exact h j' t' (by omega) h'
theorem BF {s0:St} {p:Pg} (hp:p.ok) (hR:aO p) {r:Nat} {s:Int} (hr:p.ah[r]?=some s) {dn:Bool} {b:np} {td:D} {aU:List GT} (JJ:V.Rows s0 11 td (aU.map fq)) (hl:aU.length≤1048576) (place:Int):
  Ev pv 65 [p.d,.int .i64 (r:Nat),.agg (aG dn b td),.int .i64 place] s0 (.bool (dec (ku p s aU place aU.length))) s0:=by
 have hcl:=hR.closed;have f_:=hR.st s (List.mem_of_getElem? hr);have C4:=hp.c;have hlen:=hp.cl;have pL:=o4 p.code s;have Ss:=hR.sl;have Sn:=lt_get hr;refine Ev.mk1 rfl O6 rfl rfl rfl ?_;refine zE ?_;obtain⟨hSb,hF,hH⟩:=ri s0;generalize enterSt .ro s0=S at*;have hc:=hp.c.arg s0.bs.length S;have hs:=hp.s.arg s0.bs.length S;have II:=Arg.of JJ hSb;have LN:=(sX (a_ p.code s)).arg s0.bs.length S;have hr1:=dX hr;unfold Pg.d;refine zQ 2 ?_;refine qb hH fun k4 st IV hH=>?_;dsimp only[u2,u1,u3,u4,setMany,u5,u6,D.cells,Nat.reduceAdd,aB,aG,ay,ai,Pg.cs,fq,dz] at hH;refine qb hH fun k6 st A0 hH=>?_;dsimp only[u2,u1,u3,u4,setMany,u5,u6,D.cells,Nat.reduceAdd,aB,aG,ay,ai,Pg.cs,fq,dz] at hH;refine zQ 9 ?_;refine qr fun Jh C7=>?_;refine qR ?_;refine qv ((zu C4 hlen hcl f_)) ?_;refine zQ 4 ?_;refine EvO.jf hH rfl (fun _=>by dsimp only[Fr.put,u1,u2]<;>rfl) (fun km st NL hH=>?_);refine zQ 3 ?_;refine qr fun p27 hp27=>?_;refine qR ?_;refine EvO.FJ hH rfl rfl rfl rfl rfl rfl at0 (fun st hH=>?_);dsimp only[u2] at hH;refine zQ 7 ?_;refine qn ?_;simp only[List.length_map];refine zQ 3 ?_;refine EvC.loop (fun mm fr st=>∃(i:Nat) (M:List (Int×Int)),fr.clean=⟨55,[aw fr 0,.int .i64 (r:Nat),aw fr 2,.int .i64 place,.ptr k4 0 0,aw fr 5,.ptr k6 0 0,aw fr 7,aw fr 8,aw fr 9,.mp km,aw fr 11,aw fr 12,aw fr 13,aw fr 14,aw fr 15,aw fr 16,aw fr 17,aw fr 18,aw fr 19,aw fr 20,aw fr 21,aw fr 22,aw fr 23,aw fr 24,aw fr 25,aw fr 26,aw fr 27,aw fr 28,aw fr 29,ue (a_ p.code s),.int .i64 ((a_ p.code s).length:Nat),.int .i64 (i:Nat),aw fr 33,aw fr 34,aw fr 35,aw fr 36,aw fr 37,aw fr 38,aw fr 39,aw fr 40,aw fr 41,aw fr 42,aw fr 43,aw fr 44,aw fr 45,aw fr 46,aw fr 47,aw fr 48,aw fr 49,aw fr 50,aw fr 51,aw fr 52,aw fr 53,aw fr 54],[]⟩∧Has s0.bs.length S st [.box km (.map (ir M)),.box k6 (.mem 0 false (aG dn b td)),.box k4 (.mem 0 false [p.cd,p.sd])]∧(i+mm=p.code.length)∧(∀n,getM M n≠0↔gQ p s i n)) (p.code.length) ?_ ?_
 ·refine⟨0,_,rfl,hH,by omega,?_⟩;intro n;rw[lO];unfold gQ
  by_cases hn:n=s<;>simp[hn,getM]
 rintro mm fr st ⟨i,M,hfr,hH,hi,hM⟩;rw[hfr];clear hfr;generalize aw fr=ee;clear fr;refine zQ 5 ?_;refine zP (fun h1=>?_) fun h1=>?_
 ·refine zQ 1 ?_
  obtain⟨b,hb⟩:∃b,(a_ p.code s)[i]?=some b:=⟨(a_ p.code s)[i]'(by omega),List.getElem?_eq_getElem _⟩
  obtain⟨q,hq⟩:∃q,p.code[i]?=some q:=⟨p.code[i]'(by omega),List.getElem?_eq_getElem _⟩
  have hr1:=qX hb;have n5:=fY hq;refine zQ 5 ?_;refine qr fun Jg C6=>?_;refine zQ 5 ?_;refine EvC.kh 46 (.bool (b &&(q.op==1))) [37,38,39,40,41,42,43,44,45] ?_ (fun ff tmp=>?_)
  ·refine zQ 2 ?_;refine EvO.two 38 rfl (fun iD=>?_) (fun iD=>?_)
   ·refine zQ 3 ?_;refine qr (fun RC Nq=>?_) (hg:=wi iD);refine qf (fo:=0) (fun VA SS=>?_) (hg:=wi iD);refine zQ 3 ?_;refine EvO.nil (aK ?_);refine zG ?_
    all_goals(simp[iD];done)
   ·refine zQ 8 ?_;refine EvO.nil (aK ?_);refine zG ?_
    all_goals(simp[iD];done)
  dsimp only[setW,List.foldl,nth,u2,u1];generalize ff 37=Wl;generalize ff 38=Wj;generalize ff 39=Wi;generalize ff 40=Wh;generalize ff 41=Wg;generalize ff 42=Wf;generalize ff 43=We;generalize ff 44=Wd;generalize ff 45=Wc;refine zF ?_;refine qc (fun h2=>?_) (fun h2=>?_)<;>try simp only[cs] at h2
  ·refine zQ 4 ?_;refine EvO.zi hH rfl rfl rfl rfl rfl rfl at0 (fun st hH=>?_);dsimp only[u2] at hH;refine zQ 5 ?_;refine⟨mm-1,by omega,⟨i+1,_,rfl,hH,by omega,?_⟩⟩;intro n;rw[lO,pU hb hq,h2,←hM n]
   by_cases hn:n=((i+1:Nat):Int)
   ·rw[if_pos (by rw[hn];omega)];simp[hn]
   ·rw[if_neg (by omega)];exact⟨.inl,fun h=>h.elim id fun h=>absurd h.1 hn⟩
  ·refine zQ 5 ?_;refine⟨mm-1,by omega,⟨i+1,_,rfl,hH,by omega,?_⟩⟩;intro n;rw[pU hb hq,←hM n];exact⟨.inl,fun h=>h.elim id fun h=>absurd h.2 (by rw[h2];decide)⟩
 ·refine zQ 1 ?_;have hM:∀n,getM M n≠0↔nO p s aU 0 n:=fun n=>by rw[hM n];unfold nO;rw[show i=p.code.length by omega];simp
  refine zQ 5 ?_;refine qn ?_;simp only[List.length_map];refine zQ 3 ?_;refine EvC.loop (fun mm fr st=>∃(j:Nat) (M:List (Int×Int)),fr.clean=⟨55,[aw fr 0,.int .i64 (r:Nat),aw fr 2,.int .i64 place,.ptr k4 0 0,aw fr 5,.ptr k6 0 0,aw fr 7,aw fr 8,aw fr 9,.mp km,aw fr 11,aw fr 12,aw fr 13,aw fr 14,aw fr 15,aw fr 16,aw fr 17,aw fr 18,aw fr 19,aw fr 20,aw fr 21,aw fr 22,aw fr 23,aw fr 24,aw fr 25,aw fr 26,aw fr 27,aw fr 28,aw fr 29,aw fr 30,aw fr 31,aw fr 32,aw fr 33,aw fr 34,aw fr 35,aw fr 36,aw fr 37,aw fr 38,aw fr 39,aw fr 40,aw fr 41,aw fr 42,aw fr 43,aw fr 44,aw fr 45,aw fr 46,aw fr 47,aw fr 48,aw fr 49,aw fr 50,aw fr 51,td,.int .i64 (aU.length:Nat),.int .i64 (j:Nat)],[]⟩∧Has s0.bs.length S st [.box km (.map (ir M)),.box k6 (.mem 0 false (aG dn b td)),.box k4 (.mem 0 false [p.cd,p.sd])]∧(j+mm=aU.length)∧(∀n,getM M n≠0↔nO p s aU j n)∧(ku p s aU place j)) (aU.length) ?_ ?_
  ·exact⟨0,_,rfl,hH,by omega,hM,(by intro j t h;omega)⟩
  rintro mm fr st ⟨j,M,hfr,hH,hj,hM,hw⟩;rw[hfr];clear hfr;generalize aw fr=ee;clear fr;refine zQ 5 ?_;refine zP (fun h3=>?_) fun h3=>?_
  ·refine zQ 1 ?_
   obtain⟨t,ht⟩:∃t,aU[j]?=some t:=⟨aU[j]'(by omega),List.getElem?_eq_getElem _⟩
   have M9:=Dz ht;refine zQ 4 ?_;refine qr fun Ry Nj=>?_;refine EvO.cu rfl (ev rfl) (by assumption) rfl (put_T rfl _) ?_;refine qa hH fun k14 st HK hH=>?_;dsimp only[u2,u1,u3,u4,setMany,u5,u6,D.cells,Nat.reduceAdd,aB,aG,ay,ai,Pg.cs,fq,dz] at hH;refine qS hH at0 fun st hH=>?_;dsimp only[u2,u1,u3,u4,setMany,u5,u6,D.cells,Nat.reduceAdd,aB,aG,ay,ai,Pg.cs,fq,dz] at hH;refine zQ 3 ?_;refine EvC.cutT 69 (.bool (getM M t.pc==0||!(dec (bu t.c place)))) [] ?_ (fun ff tmp htmp=>?_)
   ·refine zQ 3 ?_;refine EvO.FK hH rfl rfl rfl rfl rfl rfl at1 (put_T rfl _) ?_;refine zQ 2 ?_;refine EvO.two 63 rfl (fun fK=>?_) (fun fK=>?_)
    ·refine zQ 6 ?_;refine EvO.nil (leafT ?_ ?_)
     ·dsimp only[setW,List.foldl,nth,u2,u1]
      all_goals(first|rfl|simp)
     ·refine zF ?_
      all_goals(simp[fK];done)
    ·refine zQ 1 ?_;refine EvO.hloadS (m:=10) hH (wantD_is rfl rfl rfl fK) (ev rfl) (by exact at0) (by dsimp only[List.drop_succ_cons,List.drop_zero,List.take_succ_cons,List.take_zero,aB,aG,ay,ai,Pg.cs,fq,dz]<;>rfl) rfl rfl (put_T rfl _) ?_;refine zQ 1 ?_;refine qv (mB t.c place) ?_ (hg:=wi fK);refine zQ 2 ?_;refine EvO.nil (leafT ?_ ?_)
     ·dsimp only[setW,List.foldl,nth,u2,u1]
      all_goals(first|rfl|simp)
     ·refine zF ?_
      all_goals(simp[fK];done)
   refine zG ?_;refine qc (fun h4=>?_) (fun h4=>?_)<;>try simp only[cs] at h4
   ·rw[iW (fun h=>by
     have:=h j t (by omega) ht;rw[dc this.2] at h4;have h5:=(hM t.pc).2 this.1
     simp[h5] at h4)]
    refine zQ 4 ?_;refine EvC.ret ⟨rx,_,rfl,rl hSb hH (rfl)⟩
   ·refine zQ 5 ?_;refine EvO.zi hH rfl rfl rfl rfl rfl rfl at1 (fun st hH=>?_);dsimp only[u1,u2] at hH;refine zQ 5 ?_;refine⟨mm-1,by omega,⟨j+1,_,rfl,hH.drop 1,by omega,?_,?_⟩⟩
    ·intro n;rw[lO,yc ht,←hM n]
     by_cases hn:n=t.pc<;>simp[hn]
    ·simp only[Bool.or_eq_false_iff,beq_eq_false_iff_ne,ne_eq,Bool.not_eq_false'] at h4;exact uz ht hw ((hM t.pc).1 h4.1) (@of_decide_eq_true _ (Classical.propDecidable _) h4.2)
  ·refine zQ 1 ?_;rw[show aU.length=j by omega,dc hw];refine zQ 4 ?_;refine EvC.ret ⟨rx,_,rfl,rl hSb hH (rfl)⟩
end Go.Proofs.YtnleclohocdkaaaGreat
namespace Go.Proofs.YtnleclohocdkaaaGreat
open Go.V Go
def bH (fr:Go.V.Fr) (k:Nat):Go.V.D:=Go.V.nth .junk fr.loc k
structure GV where
 dn:Bool
 aM:np
 td:D
 aU:List GT
def gD (l:GV):List D:=aG l.dn l.aM l.td
theorem x_ {l:List GV} {i:Nat} {q:GV} (h:l[i]?=some q):(l.map gD)[i]?=some (gD q):=by rw[List.getElem?_map,h];rfl
def nF (f:np):Prop:=∀i,i<10→f i=-1
theorem Cx (f:np):dec (nF f)=(f 0==-1 &&(f 1==-1 &&(f 2==-1 &&(f 3==-1 &&(f 4==-1 &&(f 5==-1 &&(f 6==-1 &&(f 7==-1 &&(f 8==-1 &&f 9==-1))))))))):=by
 by_cases h:nF f
 ·rw[dc h,h 0 (by decide),h 1 (by decide),h 2 (by decide),h 3 (by decide),h 4 (by decide),h 5 (by decide),h 6 (by decide),h 7 (by decide),h 8 (by decide),h 9 (by decide)];rfl
 ·rw[iW h];refine(Bool.eq_false_iff.2 fun h2=>h ?_).symm;simp only[Bool.and_eq_true,beq_iff_eq] at h2;intro i hi
  match i,hi with
  |0,_=>exact h2.1
  |1,_=>exact h2.2.1
  |2,_=>exact h2.2.2.1
  |3,_=>exact h2.2.2.2.1
  |4,_=>exact h2.2.2.2.2.1
  |5,_=>exact h2.2.2.2.2.2.1
  |6,_=>exact h2.2.2.2.2.2.2.1
  |7,_=>exact h2.2.2.2.2.2.2.2.1
  |8,_=>exact h2.2.2.2.2.2.2.2.2.1
  |9,_=>exact h2.2.2.2.2.2.2.2.2.2
theorem CA (f:np):iB pv .neq 55 (.agg (ay f)) (.agg (ay aZ))=some (.bool (!dec (nF f))):=by
 have h:∀a b c d e g i j k l n:Int,iB pv .neq 55 (.agg [.int .i64 a,.int .i64 b,.int .i64 c,.int .i64 d,.int .i64 e,.int .i64 g,.int .i64 i,.int .i64 j,.int .i64 k,.int .i64 l]) (.agg [.int .i64 n,.int .i64 n,.int .i64 n,.int .i64 n,.int .i64 n,.int .i64 n,.int .i64 n,.int .i64 n,.int .i64 n,.int .i64 n])=Option.map (fun b=>D.bool !b) (match some (a==n) with|some true=>(match some (b==n) with|some true=>(match some (c==n) with|some true=>(match some (d==n) with|some true=>(match some (e==n) with|some true=>(match some (g==n) with|some true=>(match some (i==n) with|some true=>(match some (j==n) with|some true=>(match some (k==n) with|some true=>(match some (l==n) with|some true=>some true|some false=>some false|none=>none)|some false=>some false|none=>none)|some false=>some false|none=>none)|some false=>some false|none=>none)|some false=>some false|none=>none)|some false=>some false|none=>none)|some false=>some false|none=>none)|some false=>some false|none=>none)|some false=>some false|none=>none)|some false=>some false|none=>none):=fun _ _ _ _ _ _ _ _ _ _ _=>rfl;rw[Cx];unfold ay;rw[show aZ 0=-1 from rfl,show aZ 1=-1 from rfl,show aZ 2=-1 from rfl,show aZ 3=-1 from rfl,show aZ 4=-1 from rfl,show aZ 5=-1 from rfl,show aZ 6=-1 from rfl,show aZ 7=-1 from rfl,show aZ 8=-1 from rfl,show aZ 9=-1 from rfl];rw[h];generalize(f 0==-1)=b0;generalize(f 1==-1)=b1;generalize(f 2==-1)=b2;generalize(f 3==-1)=b3;generalize(f 4==-1)=b4;generalize(f 5==-1)=b5;generalize(f 6==-1)=b6;generalize(f 7==-1)=b7;generalize(f 8==-1)=b8;generalize(f 9==-1)=b9;cases b0
 ·rfl
 cases b1
 ·rfl
 cases b2
 ·rfl
 cases b3
 ·rfl
 cases b4
 ·rfl
 cases b5
 ·rfl
 cases b6
 ·rfl
 cases b7
 ·rfl
 cases b8
 ·rfl
 cases b9<;>rfl
def wG (p:Pg) (place:Int) (L:List GV) (m:Nat):Prop:=∀r l s,r<m→L[r]?=some l→p.ah[r]?=some s→(l.dn=true∨nF l.aM)∧bu l.aM place∧ku p s l.aU place l.aU.length
structure eX (p:Pg) (place:Int) (L:List GV):Prop where
 right:aO p
 ge:0≤place
 le:place≤1099511627776
 len:L.length=p.ah.length
 each:wG p place L L.length
theorem wG.succ {p:Pg} {place:Int} {L:List GV} {m:Nat} {l:GV} {s:Int} (h:wG p place L m) (hl:L[m]?=some l) (hs:p.ah[m]?=some s) (h1:(l.dn=true∨nF l.aM)∧bu l.aM place∧ku p s l.aU place l.aU.length):wG p place L (m+1):=by
 intro r l' s' hr hl' pK
 by_cases he:r=m
 ·subst he;rw[hl] at hl';cases hl';rw[hs] at pK;cases pK;exact h1
 ·exact h r l' s' (by omega) hl' pK
def kQ (st:St) (x:D) (L:List GV):Prop:=V.Rows st 12 x (L.map gD)∧L.length≤1048576∧∀l∈L,V.Rows st 11 l.td (l.aU.map fq)∧l.aU.length≤1048576
theorem uC (cC:∀st,Ev pv 63 [] st (.agg (ay aZ)) st) {s0:St} {p:Pg} (hp:p.ok) {x:D} {L:List GV} (hx:kQ s0 x L) (place:Int):
  Ev pv 18 [p.d,.agg [.int .i64 place,x]] s0 (.bool (dec (eX p place L))) s0:=by
 obtain⟨hx,hLl,Hh⟩:=hx;have iN:=hp.sl;refine Ev.mk1 rfl PA rfl rfl rfl ?_;refine zE ?_;obtain⟨hSb,hF,hH⟩:=ri s0;generalize enterSt .ro s0=S at*;have hs:=hp.s.arg s0.bs.length S;have hla:=Arg.of hx hSb;have hcr:=fun st=>kq (s0:=st) hp;have Ql:=fun{st:St} (hR:aO p) {r:Nat} {s:Int} (hr:p.ah[r]?=some s) {dn:Bool} {b:np} {td:D} {aU:List GT} (JJ:V.Rows st 11 td (aU.map fq)) (hl:aU.length≤1048576)=>BF (s0:=st) hp hR hr (dn:=dn) (b:=b) JJ hl place;unfold Pg.d at*;refine zQ 2 ?_;refine qb hH fun k2 st hk2 hH=>?_;dsimp only[u2,u1,u3,u4,setMany,u5,u6,D.cells,Nat.reduceAdd,aB,aG,ay,ai,Pg.cs,fq,gD] at hH;refine qb hH fun k3 st BB hH=>?_;refine zQ 4 ?_;refine EvC.kh 28 (.bool (((!dec (aO p)||decide (place<0))||decide (place>1099511627776))||(((L.length:Nat):Int) !=((p.ah.length:Nat):Int)))) [7,8,9,10,11,12,13,14,15,16,17,18,19,20,21,22,23,24,25,26,27] ?_ (fun ff tmp=>?_)
 ·refine EvO.hloadS (m:=2) hH rfl (ev rfl) (by exact at1) (by dsimp only[List.drop_succ_cons,List.drop_zero,List.take_succ_cons,List.take_zero,aB,aG,ay,ai,Pg.cs,fq,gD]<;>rfl) rfl rfl (by dsimp only[Fr.put,u1,u2]<;>rfl) ?_;refine qv ((hcr _)) ?_;refine zQ 2 ?_;refine EvO.two 10 rfl (fun hg3=>?_) (fun hg3=>?_)
  ·refine zQ 18 ?_;refine EvO.nil (aK ?_);refine zG ?_
   all_goals(simp[hg3];done)
  ·refine zQ 5 ?_;refine EvO.two 15 rfl (fun hg8=>?_) (fun hg8=>?_)
   ·refine zQ 13 ?_;refine EvO.nil (aK ?_);refine zG ?_
    all_goals(simp[hg3,hg8];done)
   ·refine zQ 5 ?_;refine EvO.two 20 rfl (fun hg13=>?_) (fun hg13=>?_)
    ·refine zQ 8 ?_;refine EvO.nil (aK ?_);refine zG ?_
     all_goals(simp[hg3,hg8,hg13];done)
    ·refine zQ 2 ?_;refine qn ?_ (hg:=wi hg13);simp only[List.length_map];refine zQ 2 ?_;refine qn ?_ (hg:=wi hg13);simp only[List.length_map];refine zQ 2 ?_;refine EvO.nil (aK ?_);refine zG ?_
     all_goals(simp[hg3,hg8,hg13];done)
 dsimp only[setW,List.foldl,nth,u2,u1];generalize ff 7=e7;generalize ff 8=e8;generalize ff 9=e9;generalize ff 10=U2;generalize ff 11=U1;generalize ff 12=U0;generalize ff 13=UZ;generalize ff 14=UY;generalize ff 15=UX;generalize ff 16=UW;generalize ff 17=Wu;generalize ff 18=UU;generalize ff 19=UT;generalize ff 20=US;generalize ff 21=UR;generalize ff 22=UQ;generalize ff 23=UP;generalize ff 24=UO;generalize ff 25=UN;generalize ff 26=UM;generalize ff 27=UL;refine qc (fun h0=>?_) (fun h0=>?_)<;>try simp only[cs] at h0
 ·rw[iW (q:=eX p place L) (fun h=>by
   rw[dc h.right] at h0;have h1:=h.ge;have h2:=h.le;have h3:=h.len
   simp at h0;omega)]
  refine zQ 4 ?_;refine EvC.ret ⟨rx,_,rfl,rl hSb hH (rfl)⟩
 ·refine zQ 1 ?_
  have h0:aO p∧0≤place∧place≤1099511627776∧L.length=p.ah.length:=by
   simp only[Bool.or_eq_false_iff,decide_eq_false_iff_not,Bool.not_eq_false'] at h0;obtain⟨⟨⟨h1,h2⟩,h3⟩,h4⟩:=h0;refine⟨@of_decide_eq_true _ (Classical.propDecidable _) h1,by omega,by omega,?_⟩;simp at h4;omega
  obtain⟨hR,hge,hle,Us⟩:=h0;refine zQ 5 ?_;refine qn ?_;simp only[List.length_map];refine zQ 3 ?_;refine EvC.loop (fun mm fr st=>∃(r:Nat),fr.clean=⟨33,[bH fr 0,bH fr 1,.ptr k2 0 0,.ptr k3 0 0,bH fr 4,bH fr 5,bH fr 6,bH fr 7,bH fr 8,bH fr 9,bH fr 10,bH fr 11,bH fr 12,bH fr 13,bH fr 14,bH fr 15,bH fr 16,bH fr 17,bH fr 18,bH fr 19,bH fr 20,bH fr 21,bH fr 22,bH fr 23,bH fr 24,bH fr 25,bH fr 26,bH fr 27,bH fr 28,bH fr 29,x,.int .i64 (L.length:Nat),.int .i64 (r:Nat)],[]⟩∧Has s0.bs.length S st [.box k3 (.mem 0 false [.int .i64 place,x]),.box k2 (.mem 0 false [p.cd,p.sd])]∧(r+mm=L.length)∧(wG p place L r)) (L.length) ?_ ?_
  ·exact⟨0,rfl,hH,by omega,by intro r l s h;omega⟩
  rintro mm fr st ⟨r,hfr,hH,hi,hw⟩;rw[hfr];clear hfr;generalize bH fr=ee;clear fr;refine zQ 5 ?_;refine zP (fun h1=>?_) fun h1=>?_
  ·refine zQ 1 ?_
   obtain⟨l,hl⟩:∃l,L[r]?=some l:=⟨L[r]'(by omega),List.getElem?_eq_getElem _⟩
   obtain⟨s,rp⟩:∃s,p.ah[r]?=some s:=⟨p.ah[r]'(by omega),List.getElem?_eq_getElem _⟩
   obtain⟨JJ,lH⟩:=Hh l (List.mem_of_getElem? hl);have II:=Arg.of JJ hSb;have hr1:=x_ hl;refine zQ 5 ?_;refine qr fun Jg C6=>?_;refine EvO.cu rfl (ev rfl) (by assumption) rfl (put_T rfl _) ?_;refine qa hH fun k6 st A0 hH=>?_;refine qm ?_;refine qS hH at0 fun st hH=>?_;dsimp only[u2,u1,u3,u4,setMany,u5,u6,D.cells,Nat.reduceAdd,aB,aG,ay,ai,Pg.cs,fq,gD] at hH;refine zQ 2 ?_;refine EvC.cutT 62 (.bool (((!l.dn &&!dec (nF l.aM))||!dec (bu l.aM place))||!dec (ku p s l.aU place l.aU.length))) [] ?_ (fun ff tmp htmp=>?_)
   ·refine zQ 4 ?_;refine EvO.two 40 rfl (fun hg3=>?_) (fun hg3=>?_)
    ·refine zQ 1 ?_;refine EvO.hloadS (m:=10) hH (wantD_is rfl rfl rfl hg3) (ev rfl) (by exact at0) (by dsimp only[List.drop_succ_cons,List.drop_zero,List.take_succ_cons,List.take_zero,aB,aG,ay,ai,Pg.cs,fq,gD]<;>rfl) rfl rfl (put_T rfl _) ?_;refine qv (cC _) ?_ (hg:=wi hg3);refine EvO.IG (wantD_is rfl rfl rfl hg3) (ev rfl) (ev rfl) (CA l.aM) (put_T rfl _) ?_;refine zQ 2 ?_;refine EvO.two 46 rfl (fun eS=>?_) (fun eS=>?_)
     ·refine zQ 16 ?_;refine EvO.nil (leafT ?_ ?_)
      ·dsimp only[setW,List.foldl,nth,u2,u1]
       all_goals(first|rfl|simp)
      ·refine zF ?_
       all_goals(simp[hg3,eS];done)
     ·refine zQ 1 ?_;refine EvO.hloadS (m:=10) hH (wantD_is rfl rfl rfl eS) (ev rfl) (by exact at0) (by dsimp only[List.drop_succ_cons,List.drop_zero,List.take_succ_cons,List.take_zero,aB,aG,ay,ai,Pg.cs,fq,gD]<;>rfl) rfl rfl (put_T rfl _) ?_;refine zQ 2 ?_;refine qv (mB l.aM place) ?_ (hg:=wi eS);refine zQ 3 ?_;refine EvO.two 54 rfl (fun bA=>?_) (fun bA=>?_)
      ·refine zQ 8 ?_;refine EvO.nil (leafT ?_ ?_)
       ·dsimp only[setW,List.foldl,nth,u2,u1]
        all_goals(first|rfl|simp)
       ·refine zF ?_
        all_goals(simp[hg3,eS,bA];done)
      ·refine EvO.hloadS (m:=2) hH (wantD_is rfl rfl rfl bA) (ev rfl) (by exact at2) (by dsimp only[List.drop_succ_cons,List.drop_zero,List.take_succ_cons,List.take_zero,aB,aG,ay,ai,Pg.cs,fq,gD]<;>rfl) rfl rfl (put_T rfl _) ?_;refine zQ 1 ?_;refine EvO.hloadS (m:=12) hH (wantD_is rfl rfl rfl bA) (ev rfl) (by exact at0) (by dsimp only[List.drop_succ_cons,List.drop_zero,List.take_succ_cons,List.take_zero,aB,aG,ay,ai,Pg.cs,fq,gD]<;>rfl) rfl rfl (put_T rfl _) ?_;refine zQ 2 ?_;refine qv ((Ql hR rp (II.rows hH) lH)) ?_ (hg:=wi bA);refine zQ 2 ?_;refine EvO.nil (leafT ?_ ?_)
       ·dsimp only[setW,List.foldl,nth,u2,u1]
        all_goals(first|rfl|simp)
       ·refine zF ?_
        all_goals(simp[hg3,eS,bA];done)
    ·refine zQ 7 ?_;refine EvO.hloadS (m:=10) hH rfl (ev rfl) (by exact at0) (by dsimp only[List.drop_succ_cons,List.drop_zero,List.take_succ_cons,List.take_zero,aB,aG,ay,ai,Pg.cs,fq,gD]<;>rfl) rfl rfl (put_T rfl _) ?_;refine zQ 2 ?_;refine qv (mB l.aM place) ?_;refine zQ 3 ?_;refine EvO.two 54 rfl (fun bA=>?_) (fun bA=>?_)
     ·refine zQ 8 ?_;refine EvO.nil (leafT ?_ ?_)
      ·dsimp only[setW,List.foldl,nth,u2,u1]
       all_goals(first|rfl|simp)
      ·refine zF ?_
       all_goals(simp[hg3,bA];done)
     ·refine EvO.hloadS (m:=2) hH (wantD_is rfl rfl rfl bA) (ev rfl) (by exact at2) (by dsimp only[List.drop_succ_cons,List.drop_zero,List.take_succ_cons,List.take_zero,aB,aG,ay,ai,Pg.cs,fq,gD]<;>rfl) rfl rfl (put_T rfl _) ?_;refine zQ 1 ?_;refine EvO.hloadS (m:=12) hH (wantD_is rfl rfl rfl bA) (ev rfl) (by exact at0) (by dsimp only[List.drop_succ_cons,List.drop_zero,List.take_succ_cons,List.take_zero,aB,aG,ay,ai,Pg.cs,fq,gD]<;>rfl) rfl rfl (put_T rfl _) ?_;refine zQ 2 ?_;refine qv ((Ql hR rp (II.rows hH) lH)) ?_ (hg:=wi bA);refine zQ 2 ?_;refine EvO.nil (leafT ?_ ?_)
      ·dsimp only[setW,List.foldl,nth,u2,u1]
       all_goals(first|rfl|simp)
      ·refine zF ?_
       all_goals(simp[hg3,bA];done)
   refine zG ?_;refine qc (fun h2=>?_) (fun h2=>?_)<;>try simp only[cs] at h2
   ·rw[iW (q:=eX p place L) (fun h=>by
     obtain⟨h3,h4,h5⟩:=h.each r l s (by omega) hl rp;rw[dc h4,dc h5] at h2
     rcases h3 with h3|h3
     ·simp[h3] at h2
     ·simp[dc h3] at h2)]
    refine zQ 4 ?_;refine EvC.ret ⟨rx,_,rfl,rl hSb hH (rfl)⟩
   ·refine zQ 5 ?_;refine⟨mm-1,by omega,⟨r+1,rfl,hH.drop 1,by omega,?_⟩⟩;simp only[Bool.or_eq_false_iff,Bool.and_eq_false_iff,Bool.not_eq_false'] at h2;obtain⟨⟨h3,h4⟩,h5⟩:=h2;refine hw.succ hl rp ⟨?_,@of_decide_eq_true _ (Classical.propDecidable _) h4,@of_decide_eq_true _ (Classical.propDecidable _) h5⟩
    rcases h3 with h3|h3
    ·exact .inl h3
    ·exact .inr (@of_decide_eq_true _ (Classical.propDecidable _) h3)
  ·refine zQ 1 ?_;rw[dc (q:=eX p place L) ⟨hR,hge,hle,Us,by rw[show L.length=r by omega];exact hw⟩];refine zQ 4 ?_;refine EvC.ret ⟨rx,_,rfl,rl hSb hH (rfl)⟩
end Go.Proofs.YtnleclohocdkaaaGreat
namespace Go.Proofs.YtnleclohocdkaaaGreat
open Go.V Go
theorem DC {p:Pg} (hR:aO p) {s:Int} (hs:0≤s∧s<(p.code.length:Int)) {m:Nat} {n:Int} (h:gQ p s m n):0≤n∧n<(p.code.length:Int):=by
 rcases h with rfl|⟨i,q,h1,rfl,h3,h4,h5⟩
 ·exact hs
 ·have h6:=hR.sh i q h4;unfold cF at h6;rw[if_pos h5] at h6;simp only[Bool.and_eq_true,decide_eq_true_eq] at h6;exact⟨by omega,h6.2.1.1⟩
def wH (aU:List GT) (j:Nat) (seen:List Bool):Prop:=∀(k:Nat) b,seen[k]?=some b→(b=true↔∃j' t,j'<j∧aU[j']?=some t∧t.pc=(k:Int))
theorem wH.nil (aU:List GT) (n:Nat):wH aU 0 (List.replicate n false):=by
 intro k b h;rw[List.getElem?_replicate] at h
 split at h
 ·cases h;simp
 ·cases h
theorem wH.set {aU:List GT} {j k:Nat} {seen:List Bool} {t:GT} (h:wH aU j seen) (ht:aU[j]?=some t) (hk:t.pc=(k:Int)):wH aU (j+1) (seen.set k true):=by
 intro k' b hb;rw[List.getElem?_set] at hb
 by_cases he:k=k'
 ·subst he;rw[if_pos rfl] at hb
  split at hb
  ·cases hb;exact⟨fun _=>⟨j,t,by omega,ht,hk⟩,fun _=>rfl⟩
  ·cases hb
 ·rw[if_neg he] at hb;rw[h k' b hb];constructor
  ·rintro⟨j',t',h1,h2,h3⟩;exact⟨j',t',by omega,h2,h3⟩
  ·rintro⟨j',t',h1,h2,h3⟩
   by_cases hj:j'=j
   ·subst hj;rw[ht] at h2;cases h2;omega
   ·exact⟨j',t',by omega,h2,h3⟩
end Go.Proofs.YtnleclohocdkaaaGreat
namespace Go.Proofs.YtnleclohocdkaaaGreat
open Go.V Go
def GT.Ec (t:GT):dA:=⟨t.pc.toNat,t.c⟩
def GV.v (l:GV):VL:=⟨l.dn,l.aM,l.td,l.aU.map GT.Ec⟩
theorem Dw (L:List GV):(L.map GV.v).map dW=L.map gD:=by rw[List.map_map];rfl
theorem zZ {l:List GT} (h:∀t∈l,0≤t.pc):(l.map GT.Ec).map aI=l.map fq:=by
 rw[List.map_map];refine List.map_congr_left fun t ht=>?_;obtain⟨k,hk⟩:=Int.eq_ofNat_of_zero_le (h t ht);obtain⟨pc,c⟩:=t;simp only at hk;subst hk
 rfl
theorem eX.Ec {p:Pg} {place:Int} {L:List GV} (h:eX p place L) {l:GV} (hl:l∈L) {t:GT} (ht:t∈l.aU):0≤t.pc∧t.pc<(p.code.length:Int):=by
 obtain⟨r,hr⟩:=List.getElem?_of_mem hl;obtain⟨j,hj⟩:=List.getElem?_of_mem ht;have pL:=lt_get hr;have hlen:=h.len
 obtain⟨s,hs⟩:∃s,p.ah[r]?=some s:=⟨p.ah[r]'(by omega),List.getElem?_eq_getElem _⟩
 exact DC h.right (h.right.st s (List.mem_of_getElem? hs)) ((h.each r l s pL hr hs).2.2 j t (lt_get hj) hj).1.1
theorem eX.cells {p:Pg} {place:Int} {L:List GV} (h:eX p place L) {l:GV} (hl:l∈L):l.v.aU.map aI=l.aU.map fq:=zZ fun t ht=>(h.Ec hl ht).1
theorem eX.ok {p:Pg} {place:Int} {L:List GV} (h:eX p place L) (ht:∀l∈L,l.aU.length≤1000):∀l∈(L.map GV.v).map VL.pl,l.ok p.code.length:=by
 intro q hq;obtain⟨v,hv,rfl⟩:=List.mem_map.1 hq;obtain⟨l,hl,rfl⟩:=List.mem_map.1 hv;refine⟨fun t h'=>?_,by show(l.aU.map GT.Ec).length≤1000;rw[List.length_map];exact ht l hl⟩;obtain⟨u,hu,rfl⟩:=List.mem_map.1 (show t∈l.aU.map GT.Ec from h');have:=h.Ec hl hu;show u.pc.toNat<_;omega
theorem GI (cC:∀st,Ev pv 63 [] st (.agg (ay aZ)) st) {N:Nat} {S s0:St} {H:List aN} {p:Pg} {x:D} {L:List GV} {place:Int} (hF:S.flr≤N) (hp:p.ok) (hW:eX p place L) (hx:Arg N S 12 x (L.map gD)) (ht:∀l∈L,Arg N S 11 l.td (l.aU.map fq)∧l.aU.length≤1000) (hH:Has N S s0 H):
  ∃r ab,Ev pv 19 [p.d,.agg [.int .i64 place,x]] s0 r ab∧∃kv ks q ld L',r=.tup [.ptr kv 0 0,.int .i64 0]∧i_ p q∧L'.map VL.pl=(L.map GV.v).map VL.pl∧MH [] N S ab ks kv q place.toNat ld L' H:=by
 have hR:=hW.right;have IJ:=hR.sl;have hLl:=hW.len;obtain⟨pn,rfl⟩:=Int.eq_ofNat_of_zero_le hW.ge;have En:=fun{st:St} {H:List aN} (hH:Has N S st H)=>uB hF hp hR hH;have LK:=fun{st:St} (hx:kQ st x L)=>uC cC hp hx ((pn:Nat):Int);rw[dc hW] at LK;have VO:=hx.2
 have T6:=fun{st:St} {H:List aN} (hH:Has N S st H)=>kO (L:=L.map GV.v) (x:=x) hF (by rw[List.length_map];omega) (by rw[Dw];exact hx) (fun l hl=>by
  obtain⟨g,hg,rfl⟩:=List.mem_map.1 hl;refine⟨?_,by show(g.aU.map GT.Ec).length≤1000;rw[List.length_map];exact(ht g hg).2⟩
  rw[hW.cells hg];exact(ht g hg).1) hH
 unfold Pg.d at*;refine Ev.fX rfl Pz rfl rfl rfl ?_;refine zE ?_;change EvC _ _ _ _ s0 _;refine qq<|qj fun K hK=>qb hH fun k2 st hk2 hH=>?_;dsimp only[u2,u1,u3,u4,setMany,u5,u6,D.cells,Nat.reduceAdd,Pg.cs] at hH;refine qb hH fun k3 st BB hH=>?_;refine qm ?_;refine qm ?_;refine qe hK<|qq<|qj fun K hK=>?_;refine EvO.hloadS (m:=2) hH rfl (ev rfl) (by exact at1) (by dsimp only[List.drop_succ_cons,List.drop_zero,List.take_succ_cons,List.take_zero,Pg.cs]<;>rfl) rfl rfl (put_T rfl _) ?_;obtain⟨_,st,hev,kv,ks,q,rfl,hq,hM⟩:=En hH;refine qv hev ?_;refine qm ?_;refine qg ?_;refine qg ?_;refine qm ?_;refine qm ?_;refine qe hK ?_;obtain⟨pd,qd,P,Q,sn,hH,hok,cY⟩:=hM;dsimp only[u4,u6] at hH;refine qq<|qq<|qj fun K hK=>qm ?_;refine qg ?_;refine qe hK<|EvC.cond (v:=false) (by dsimp only[Fr.ev,Fr.get,nth,V.look];rfl) (fun h=>by cases h) (fun _=>?_);refine EvC.skip<|qq<|qq<|qj fun K hK=>?_;refine EvO.hloadS (m:=2) hH rfl (ev rfl) (by exact at6) (by dsimp only[List.drop_succ_cons,List.drop_zero,List.take_succ_cons,List.take_zero,Pg.cs]<;>rfl) rfl rfl (put_T rfl _) ?_;refine EvO.hloadS (m:=2) hH rfl (ev rfl) (by exact at5) (by dsimp only[List.drop_succ_cons,List.drop_zero,List.take_succ_cons,List.take_zero,Pg.cs]<;>rfl) rfl rfl (put_T rfl _) ?_;refine qv ((LK ⟨hx.rows hH,by omega,fun l hl=>⟨(ht l hl).1.rows hH,by have:=(ht l hl).2;omega⟩⟩)) ?_;refine qg ?_;refine qe hK<|EvC.cond (v:=false) (by dsimp only[Fr.ev,Fr.get,nth,V.look];rfl) (fun h=>by cases h) (fun _=>?_);refine EvC.skip ?_;have hH:=Has.e5 [_,_,_,_,_] [_,_] hH;dsimp only[u3,u4] at hH;have jE:=hH;have BB:=hH.ge at0;change EvC _ _ _ _ _ _;refine qq ?_;generalize hK:SeqQ _ _ _ _=K;refine EvC.tm rfl ?_;refine bD.cons ?_;refine qm ?_;refine EvO.nil ⟨rfl,?_⟩;refine bD.cons ?_;refine qm ?_;refine EvO.nil ⟨rfl,?_⟩;refine bD.cons ?_;refine qp (o:=0) ?_;refine EvO.nil ⟨rfl,?_⟩;refine bD.cons ?_;refine ql hH at0 ?_;refine EvO.nil ⟨rfl,?_⟩;refine bD.cons ?_;refine qp (o:=1) ?_;refine EvO.nil ⟨rfl,?_⟩;refine bD.cons ?_;refine ql hH at0 ?_;refine EvO.nil ⟨rfl,?_⟩;refine bD.cons ?_;obtain⟨_,st,hev,L2,x9,hH⟩:=T6 hH;have hH:=Has.e5 (_::L2.map jR) [_,_,_,_,_,_,_] hH;dsimp only[u3,u4] at hH;have uq:=hH;refine qv hev ?_;refine EvO.nil ⟨by exact Bool.and_eq_true_iff.2 ⟨fu rfl rfl rfl (jE.at at0) (uq.at at0) (jE.at at0) (by simp only[refs,D.ref];omega),rfl⟩,?_⟩;refine bD.cons ?_;refine qg ?_;refine EvO.nil ⟨rfl,?_⟩;refine bD.cons ?_;refine qp (o:=2) ?_;refine EvO.nil ⟨rfl,?_⟩;refine bD.cons ?_;refine qT hH at2 fun st hH=>?_;dsimp only[u2,u1,u3,u4,setMany,u5,u6,D.cells,Nat.reduceAdd,Pg.cs] at hH;refine EvO.nil ⟨rfl,?_⟩;refine bD.cons ?_;refine qg ?_;refine EvO.nil ⟨rfl,?_⟩;refine bD.cons ?_;refine qp (o:=3) ?_;refine EvO.nil ⟨rfl,?_⟩;refine bD.cons ?_;refine qT hH at2 (fun st hH=>?_) (gM:=hH.ocells at7);dsimp only[u2,u1,u3,u4,setMany,u5,u6,D.cells,Nat.reduceAdd,Pg.cs] at hH;refine EvO.nil ⟨rfl,?_⟩;refine bD.nil ?_;subst hK;refine qq<|qj fun K hK=>qm ?_;refine qm ?_;refine qm ?_;refine qe hK<|EvC.ret ⟨rx,_,_,_,rfl,rfl,?_⟩;rw[Int.toNat_natCast];exact⟨kv,ks,q,_,L2,rfl,hq,x9,pd,qd,P,Q,sn,(hH.drop 2).erase 4,hok,cY⟩
theorem wS {N:Nat} {S s0:St} {H:List aN} {x:D} {h:List UInt8} (hx:Arg N S 1 x (V.byteCells h)) (hb:cj h=true∨h=[]) (h3:h.length≤3) (hH:Has N S s0 H):
  ∃kd ab,Ev pv 80 [x] s0 (.tup [.ptr kd 0 0,.int .i64 0]) ab∧Has N S ab (.box kd (.mem 0 false (bE h (([0,0,0,0]:List UInt8).drop h.length)))::H):=
 ⟨_,_,Jj (hx.rows hH) hb h3 (by rw[hH.ex.ro];exact Nat.le_trans hH.cZ (Nat.le_trans hH.hN hH.len)),hH.lq _⟩
structure Lz (x:D) (L:List GV):Prop where
 sl:SlD x 12 (L.map gD)
 ln:L.length≤12
 th:∀l∈L,SlD l.td 11 (l.aU.map fq)∧l.aU.length≤500
theorem Lz.arg {x:D} {L:List GV} (h:Lz x L) (st:St):kQ st x L:=⟨h.sl.rows st,by have:=h.ln;omega,fun l hl=>⟨(h.th l hl).1.rows st,by have:=(h.th l hl).2;omega⟩⟩
end Go.Proofs.YtnleclohocdkaaaGreat
namespace Go.Proofs.YtnleclohocdkaaaGreat
open Go.V Go
theorem Dx (l:List GT):∀e∈l.map fq,∀d∈e,bC d=true:=by
 intro e he d hd;obtain⟨q,_,rfl⟩:=List.mem_map.1 he;simp only[fq,List.mem_cons,List.not_mem_nil,or_false] at hd
 rcases hd with rfl|rfl|rfl|rfl|rfl|rfl|rfl|rfl|rfl|rfl|rfl<;>rfl
theorem H_ (l:List GT):∀e∈l.map fq,e.length=11:=by
 intro e he;obtain⟨q,_,rfl⟩:=List.mem_map.1 he;rfl
def OL (l:List GT):D:=.sl ((l.map fq).map (iV 11))
theorem KK (l:List GT):SlD (OL l) 11 (l.map fq):=SlD.frozen (H_ l) (Dx l)
def GV.told (l:GV):GV:=⟨l.dn,l.aM,OL l.aU,l.aU⟩
def G8 (L:List GV):D:=.sl (((L.map GV.told).map gD).map (iV 12))
theorem H9 (L:List GV):∀e∈L.map gD,e.length=12:=by
 intro e he;obtain⟨q,_,rfl⟩:=List.mem_map.1 he;rfl
theorem told_plain (L:List GV):∀e∈(L.map GV.told).map gD,∀d∈e,bC d=true:=by
 intro e he d hd;obtain⟨q,hq,rfl⟩:=List.mem_map.1 he;obtain⟨g,_,rfl⟩:=List.mem_map.1 hq;simp only[gD,aG,GV.told,OL,List.mem_cons,List.not_mem_nil,or_false] at hd
 rcases hd with rfl|rfl|rfl|rfl|rfl|rfl|rfl|rfl|rfl|rfl|rfl|rfl<;>rfl
theorem Lz.told {x:D} {L:List GV} (h:Lz x L):Lz (G8 L) (L.map GV.told):=by
 refine⟨SlD.frozen (H9 _) (told_plain L),by rw[List.length_map];exact h.ln,fun l hl=>?_⟩;obtain⟨g,hg,rfl⟩:=List.mem_map.1 hl;exact⟨KK _,(h.th g hg).2⟩
end Go.Proofs.YtnleclohocdkaaaGreat
namespace Go.Proofs.YtnleclohocdkaaaGreat
open Go.V Go
def gY (seen:List Bool) (v:Int):Prop:=0≤v∧seen[v.toNat]?=some true
structure yH (code:List aA) (start:Int) (seen:List Bool) (fN:List Int):Prop where
 a:∀u i,seen[u]?=some true→code[u]?=some i→∀w∈bG u i,gY seen w∨w∈fN
 b:∀v∈fN,v=start∨∃u i,seen[u]?=some true∧code[u]?=some i∧v∈bG u i
 c:∀v,gY seen v→v=start∨∃u i,seen[u]?=some true∧code[u]?=some i∧v∈bG u i∧v≠(u:Int)
 d:gY seen start∨start∈fN
theorem dO {seen:List Bool} {k:Nat} (hk:k<seen.length) {v:Int}:gY (seen.set k true) v↔v=(k:Int)∨gY seen v:=by
 unfold gY;constructor
 ·rintro⟨h0,h⟩
  by_cases hv:v.toNat=k
  ·left;omega
  ·rw[List.getElem?_set_ne (fun e=>hv e.symm)] at h;exact .inr ⟨h0,h⟩
 ·rintro(rfl|⟨h0,h⟩)
  ·exact⟨by omega,by rw[Int.toNat_natCast,List.getElem?_set_self hk]⟩
  ·refine⟨h0,?_⟩
   by_cases hv:v.toNat=k
   ·rw[hv,List.getElem?_set_self hk]
   ·rw[List.getElem?_set_ne (fun e=>hv e.symm)];exact h
theorem cK {seen:List Bool} {u:Nat}:seen[u]?=some true↔gY seen (u:Int):=by
 unfold gY;rw[Int.toNat_natCast];exact⟨fun h=>⟨by omega,h⟩,fun h=>h.2⟩
theorem yj {code:List aA} {start:Int} (hcl:gT code):∀(f:Nat) (seen:List Bool) (fN:List Int),seen.length=code.length→(∀v∈fN,0≤v∧v<(code.length:Int))→3*seen.count false+fN.length≤f→yH code start seen fN→yH code start (yl code f seen fN) []
 |0,seen,fN,_,_,hm,hi=>by
  have:fN=[]:=by cases fN with|nil=>rfl|cons _ _=>simp at hm
  subst this;exact hi
 |f+1,seen,[],_,_,_,hi=>hi
 |f+1,seen,v::fN,hl,hs,hm,hi=>by
  have hv:=hs v (List.mem_cons_self ..);have pK:∀w∈fN,0≤w∧w<(code.length:Int):=fun w hw=>hs w (List.mem_cons_of_mem _ hw);obtain⟨k,rfl⟩:=Int.eq_ofNat_of_zero_le hv.1;have hk:k<code.length:=by omega
  obtain⟨i,hci⟩:∃i,code[k]?=some i:=⟨code[k]'hk,List.getElem?_eq_getElem _⟩
  obtain⟨b,hb⟩:∃b,seen[k]?=some b:=⟨seen[k]'(by omega),List.getElem?_eq_getElem _⟩
  simp only[List.length_cons] at hm;have hp:∀w,w∈((k:Int)::fN)→w=(k:Int)∨w∈fN:=fun w hw=>List.mem_cons.1 hw;unfold yl;simp only[Int.toNat_natCast,hb,hci]
  cases b with
  |true=>
   have kU:gY seen (k:Int):=cK.1 hb;refine yj hcl f seen fN hl pK (by omega) ⟨fun u j hu hj w hw=>?_,fun w hw=>hi.b w (List.mem_cons_of_mem _ hw),hi.c,?_⟩
   ·rcases hi.a u j hu hj w hw with h|h
    ·exact .inl h
    ·rcases hp w h with rfl|h
     ·exact .inl kU
     ·exact .inr h
   ·rcases hi.d with h|h
    ·exact .inl h
    ·rcases hp start h with h|h
     ·exact .inl (h▸kU)
     ·exact .inr h
  |false=>
   have Dn:=count_set hb;have fS:k<seen.length:=by omega
   have NG:=vm k i;refine yj hcl f _ _ (by rw[List.length_set];exact hl) (fun w hw=>?_) (by simp only[List.length_append,List.length_reverse];omega) ⟨fun u j hu hj w hw=>?_,fun w hw=>?_,fun w hw=>?_,?_⟩
   ·rcases List.mem_append.1 hw with hw|hw
    ·exact hcl k i hci w (List.mem_reverse.1 hw)
    ·exact pK w hw
   ·rcases(dO fS).1 (cK.1 hu) with h|h
    ·have:u=k:=by omega
     subst this;rw[hci] at hj;cases hj;exact .inr (List.mem_append.2 (.inl (List.mem_reverse.2 hw)))
    ·rcases hi.a u j (cK.2 h) hj w hw with h|h
     ·exact .inl ((dO fS).2 (.inr h))
     ·rcases hp w h with h|h
      ·exact .inl ((dO fS).2 (.inl h))
      ·exact .inr (List.mem_append.2 (.inr h))
   ·rcases List.mem_append.1 hw with hw|hw
    ·exact .inr ⟨k,i,cK.2 ((dO fS).2 (.inl rfl)),hci,List.mem_reverse.1 hw⟩
    ·rcases hi.b w (List.mem_cons_of_mem _ hw) with h|⟨u,j,h1,h2,h3⟩
     ·exact .inl h
     ·exact .inr ⟨u,j,cK.2 ((dO fS).2 (.inr (cK.1 h1))),h2,h3⟩
   ·rcases(dO fS).1 hw with rfl|h
    ·rcases hi.b (k:Int) (List.mem_cons_self ..) with h|⟨u,j,h1,h2,h3⟩
     ·exact .inl h
     ·refine .inr ⟨u,j,cK.2 ((dO fS).2 (.inr (cK.1 h1))),h2,h3,fun e=>?_⟩;have:k=u:=by omega
      subst this;rw[hb] at h1;cases h1
    ·rcases hi.c w h with h|⟨u,j,h1,h2,h3,h4⟩
     ·exact .inl h
     ·exact .inr ⟨u,j,cK.2 ((dO fS).2 (.inr (cK.1 h1))),h2,h3,h4⟩
   ·rcases hi.d with h|h
    ·exact .inl ((dO fS).2 (.inr h))
    ·rcases hp start h with h|h
     ·exact .inl ((dO fS).2 (.inl h))
     ·exact .inr (List.mem_append.2 (.inr h))
theorem lj {code:List aA} {start:Int} (hcl:gT code) (f_:0≤start∧start<(code.length:Int)):yH code start (a_ code start) []:=by
 have mT:∀v,¬gY (List.replicate code.length false) v:=by
  rintro v ⟨h0,h⟩;rw[List.getElem?_replicate] at h
  split at h<;>cases h
 refine yj hcl _ _ _ (by simp) (fun v hv=>?_) (by simp) ⟨fun u i hu=>absurd (cK.1 hu) (mT _),fun v hv=>?_,fun v hv=>absurd hv (mT v),.inr (by simp)⟩
 ·simp only[List.mem_cons,List.not_mem_nil,or_false] at hv;subst hv;exact f_
 ·simp only[List.mem_cons,List.not_mem_nil,or_false] at hv;exact .inl hv
theorem ij:∀{L:List Bool} {s:Nat} {v:Int},v∈pb s L↔∃k:Nat,L[k]?=some true∧v=((s+k:Nat):Int)
 |[],s,v=>⟨fun h=>(by cases h),fun⟨k,h,_⟩=>by simp at h⟩
 |b::l,s,v=>by
  simp only[pb,List.mem_append];constructor
  ·rintro(h|h)
   ·split at h
    ·rename_i hb;simp only[List.mem_cons,List.not_mem_nil,or_false] at h;exact⟨0,by simp[hb],by rw[h];simp⟩
    ·cases h
   ·obtain⟨k,h1,h2⟩:=ij.1 h;exact⟨k+1,by simpa using h1,by rw[h2];congr 1;omega⟩
  ·rintro⟨k,h1,h2⟩
   cases k with
   |zero=>simp at h1;subst h1;left;simp[h2]
   |succ k=>exact .inr (ij.2 ⟨k,by simpa using h1,by rw[h2];congr 1;omega⟩)
theorem sa : ∀ (L : List Bool) (s : Nat), (pb s L).Pairwise (· < ·)
 | [], s => .nil
 | b :: l, s => by
  simp only [pb];have ih := sa l (s + 1)
  split
  ·rw [List.singleton_append, List.pairwise_cons];refine ⟨fun v hv => ?_, ih⟩;obtain ⟨k, _, rfl⟩ := ij.1 hv;omega
  ·exact ih
end Go.Proofs.YtnleclohocdkaaaGreat
namespace Go.Proofs.YtnleclohocdkaaaGreat
open Go.V Go
def jP (code:List aA) (R:List Bool):Prop:=∀(u:Nat) i,R[u]?=some true→code[u]?=some i→∀w∈bG u i,R[w.toNat]?=some true
structure yE (code:List aA) (R:List Bool) (pl:Int) (w:Wk):Prop where
 b:w.dn=true∨nF w.aM
 p:bu w.aM pl
 r:∀t∈w.rdy,R[t.pc]?=some true∧(∃i,code[t.pc]?=some i∧i.op=1)∧bu t.c pl
theorem yE.seen {code:List aA} {R:List Bool} {pl:Int} {w:Wk} (h:yE code R pl w) (s:List Bool):yE code R pl ⟨s,w.dn,w.aM,w.rdy⟩:=⟨h.b,h.p,h.r⟩
theorem xr {f:np} {x:Nat} {pl:Nat} (h:bu f (pl:Int)):bu (B2 f x (pl:Nat)) (pl:Int):=by
 intro i hi;unfold B2
 split
 ·omega
 ·exact h i hi
theorem jq {pl:Int} (h:0≤pl):bu aZ pl:=fun i _=>⟨by show(-1:Int)≤-1;omega,by show(-1:Int)≤pl;omega⟩
theorem rY {f:np} {pl rn:Int} (h:bu f pl) (hp:pl≤rn):bu f rn:=fun i hi=>⟨(h i hi).1,by have:=(h i hi).2;omega⟩
theorem uy {code:List aA} {R:List Bool} (hc:jP code R) (pl:Nat) (e:Bool):∀(f:Nat) (w:Wk) (t:dA),yE code R (pl:Int) w→R[t.pc]?=some true→bu t.c (pl:Int)→yE code R (pl:Int) (bR code pl e f w t).1
 |0,w,t,h,_,_=>h
 |f+1,w,t,h,hr,hp=>by
  have ih:=uy hc pl e f;unfold bR
  split
  ·exact h
  ·split
   ·exact h
   ·rename_i i hi;have IZ:=hc t.pc i hr hi;have hs:=h.seen (w.seen.set t.pc true)
    have hn:¬i.op=2→¬i.op=3→¬i.op=7→R[t.pc+1]?=some true:=fun h1 h2 h3=>by
     have:=IZ ((t.pc+1:Nat):Int) (by unfold bG;rw[if_neg h1,if_neg h2,if_neg h3];simp)
     simpa using this
    split
    ·exact⟨.inl rfl,hp,h.r⟩
    ·rename_i h7
     split
     ·rename_i h2;have hx:=IZ i.x (by unfold bG;rw[if_pos h2];simp);have hy:=IZ i.y (by unfold bG;rw[if_pos h2];simp)
      split
      ·exact ih _ _ hs hx hp
      ·exact ih _ _ (ih _ _ hs hx hp) hy hp
     ·rename_i h2
      split
      ·rename_i h1;refine⟨h.b,h.p,fun t' ht=>?_⟩
       rcases List.mem_append.1 ht with ht|ht
       ·exact h.r t' ht
       ·simp only[List.mem_cons,List.not_mem_nil,or_false] at ht;subst ht;exact⟨hr,⟨i,hi,h1⟩,hp⟩
      ·split
       ·rename_i h3;exact ih _ _ hs (IZ i.x (by unfold bG;rw[if_neg h2,if_pos h3];simp)) hp
       ·rename_i h3;have rq:=hn h2 h3 h7
        split
        ·exact ih _ _ hs rq (xr hp)
        ·split
         ·split
          ·exact ih _ _ hs rq hp
          ·exact hs
         ·split
          ·exact ih _ _ hs rq hp
          ·exact hs
theorem DE {code:List aA} {R:List Bool} (hc:jP code R) (pl:Nat) (e:Bool):∀(l:List dA) (w:Wk),yE code R (pl:Int) w→(∀t∈l,R[t.pc]?=some true∧bu t.c (pl:Int))→yE code R (pl:Int) (nR code pl e l w)
 |[],w,h,_=>h
 |t::ts,w,h,ht=>by
  have h1:=uy hc pl e (code.length+1) w t h (ht t (List.mem_cons_self ..)).1 (ht t (List.mem_cons_self ..)).2;unfold nR
  split
  ·exact h1
  ·exact DE hc pl e ts _ h1 fun t' h'=>ht t' (List.mem_cons_of_mem _ h')
structure s_ (p:Pg) (s:Int) (pl:Int) (l:PL):Prop where
 b:l.dn=true∨nF l.aM
 c:bu l.aM pl
 t:∀t∈l.aU,gQ p s p.code.length (t.pc:Int)∧bu t.c pl
 d:(l.aU.map dA.pc).Nodup
theorem lS {p:Pg} (hR:aO p) {s:Int} (hs:0≤s∧s<(p.code.length:Int)):jP p.code (a_ p.code s):=by
 intro u i hu hi w hw
 rcases(lj hR.closed hs).a u i hu hi w hw with h|h
 ·exact h.2
 ·cases h
theorem ya {p:Pg} (hR:aO p) {s:Int} (hs:0≤s∧s<(p.code.length:Int)) {k:Nat} (h:gQ p s p.code.length (k:Int)):(a_ p.code s)[k]?=some true:=by
 rcases h with rfl|⟨i,q,_,h2,h3,h4,h5⟩
 ·rcases(lj hR.closed hs).d with h|h
  ·simpa using h.2
  ·cases h
 ·have hk:k=i+1:=by omega
  subst hk;have:=lS hR hs i q h3 h4 ((i+1:Nat):Int) (by unfold bG;rw[if_neg (by omega),if_neg (by omega),if_neg (by omega)];simp)
  simpa using this
theorem s9 {p:Pg} {s pl:Int} {l:List dA} {x:dA} (h:∀t∈l,gQ p s p.code.length (t.pc:Int)∧bu t.c pl) (hx:gQ p s p.code.length (x.pc:Int)∧bu x.c pl):∀t∈nh l x,gQ p s p.code.length (t.pc:Int)∧bu t.c pl:=by
 intro t ht
 rcases rf ht with ht|ht
 ·exact h t ht
 ·subst ht;exact hx
theorem re {l:List dA} {x:dA} (h:(l.map dA.pc).Nodup):((nh l x).map dA.pc).Nodup:=by
 unfold nh
 split
 ·exact h
 ·rename_i hn;rw[List.map_append,List.nodup_append];refine⟨h,by simp,fun a ha b hb=>?_⟩;simp only[List.map_cons,List.map_nil,List.mem_cons,List.not_mem_nil,or_false] at hb;subst hb;rintro rfl;obtain⟨y,hy,he⟩:=List.mem_map.1 ha;exact hn (List.any_eq_true.2 ⟨y,hy,by simpa using he⟩)
theorem kC {p:Pg} {s pl r:Int}:∀(l a:List dA),(∀t∈l,(a_ p.code s)[t.pc]?=some true∧(∃i,p.code[t.pc]?=some i∧i.op=1)∧bu t.c pl)→(∀t∈a,gQ p s p.code.length (t.pc:Int)∧bu t.c pl)→(a.map dA.pc).Nodup→
  (∀t∈eH p.code r l a,gQ p s p.code.length (t.pc:Int)∧bu t.c pl)∧((eH p.code r l a).map dA.pc).Nodup
 |[],a,_,h2,h3=>⟨h2,h3⟩
 |t::ts,a,h1,h2,h3=>by
  unfold eH;obtain⟨g1,⟨i,g2,g3⟩,g4⟩:=h1 t (List.mem_cons_self ..);have Qm:=fun t' h'=>h1 t' (List.mem_cons_of_mem _ h')
  split
  ·refine kC ts _ Qm (s9 h2 ⟨.inr ⟨t.pc,i,lt_get g2,rfl,g1,g2,g3⟩,g4⟩) (re h3)
  ·exact kC ts _ Qm h2 h3
theorem wW {p:Pg} (hR:aO p) {s:Nat} (hs:s<p.code.length) {pl:Nat} {r:Int} {l:PL} (h:s_ p (s:Int) (pl:Int) l):s_ p (s:Int) (pl:Int) (et p.code pl s r l):=by
 have Gw:0≤(s:Int)∧(s:Int)<(p.code.length:Int):=⟨by omega,by omega⟩
 have hw:=DE (lS hR Gw) pl false l.aU (l_ p.code.length l.dn l.aM) ⟨h.b,h.c,fun t ht=>by cases ht⟩ fun t ht=>⟨ya hR Gw (h.t t ht).1,(h.t t ht).2⟩
 obtain⟨n1,n2⟩:=kC (r:=r) (nR p.code pl false l.aU (l_ p.code.length l.dn l.aM)).rdy [] hw.r (fun t ht=>by cases ht) (by simp);unfold et;refine⟨hw.b,hw.p,?_,?_⟩
 ·dsimp only
  split
  ·exact n1
  ·exact s9 n1 ⟨.inl rfl,jq (by omega)⟩
 ·dsimp only
  split
  ·exact n2
  ·exact re n2
theorem s_.up {p:Pg} {s pl rn:Int} {l:PL} (h:s_ p s pl l) (hp:pl≤rn):s_ p s rn l:=⟨h.b,rY h.c hp,fun t ht=>⟨(h.t t ht).1,rY (h.t t ht).2 hp⟩,h.d⟩
def nU (p:Pg) (pl:Nat) (ls:List PL):Prop:=ls.length=p.ah.length∧∀(i:Nat) l s,ls[i]?=some l→p.ah[i]?=some s→s_ p s (pl:Int) l
theorem oL {p:Pg} (hR:aO p) {i:Nat} {s:Int} (h:p.ah[i]?=some s):∃k:Nat,s=(k:Int)∧k<p.code.length∧(au p)[i]?=some k:=by
 obtain⟨h1,h2⟩:=hR.st s (List.mem_of_getElem? h);obtain⟨k,rfl⟩:=Int.eq_ofNat_of_zero_le h1;exact⟨k,rfl,by omega,by unfold au;rw[List.getElem?_map,h];rfl⟩
theorem wP {p:Pg} (hR:aO p):nU p 0 ((au p).map eL):=by
 refine⟨by unfold au;simp,fun i l s hl hs=>?_⟩;obtain⟨k,rfl,hk,cY⟩:=oL hR hs;rw[List.getElem?_map,cY] at hl;cases hl;refine⟨.inr fun i _=>rfl,jq (by omega),fun t ht=>?_,by simp[eL]⟩;simp only[eL,List.mem_cons,List.not_mem_nil,or_false] at ht;subst ht;exact⟨.inl rfl,jq (by omega)⟩
theorem uw {p:Pg} (hR:aO p) {pl:Nat} {r n:Int} {ls:List PL} (h:nU p pl ls):nU p (pl+hO n) (eC p.code pl r (au p) ls):=by
 have hl:(au p).length=ls.length:=by unfold au;rw[List.length_map,h.1]
 refine⟨by rw[gj _ _ _ _ _ hl];exact h.1,fun i l s hi hs=>?_⟩;obtain⟨k,rfl,hk,cY⟩:=oL hR hs;have hil:i<ls.length:=by have:=lt_get hs;have:=h.1;omega
 obtain⟨l0,Eo⟩:∃l,ls[i]?=some l:=⟨ls[i]'hil,List.getElem?_eq_getElem _⟩
 rw[kz p.code pl r (au p) ls i k l0 cY Eo] at hi;cases hi;exact(wW hR hk (h.2 i l0 _ Eo hs)).up (by omega)
def dA.g (t:dA):GT:=⟨(t.pc:Int),t.c⟩
def VL.g (l:VL):GV:=⟨l.dn,l.aM,l.td,l.aU.map dA.g⟩
theorem FW (l:List dA):(l.map dA.g).map fq=l.map aI:=by rw[List.map_map];rfl
theorem BI (V:List VL):(V.map VL.g).map gD=V.map dW:=by rw[List.map_map];rfl
theorem uu {p:Pg} (hR:aO p) {pl:Nat} {V:List VL} (h:nU p pl (V.map VL.pl)) (hpl:pl≤1099511627776):eX p (pl:Int) (V.map VL.g):=by
 have hlen:=h.1;rw[List.length_map] at hlen;refine⟨hR,by omega,by omega,by rw[List.length_map,hlen],fun r l s hr hl hs=>?_⟩;rw[List.getElem?_map] at hl;obtain⟨v,hv,rfl⟩:=Option.map_eq_some_iff.1 hl;have hw:=h.2 r v.pl s (by rw[List.getElem?_map,hv];rfl) hs;refine⟨hw.b,hw.c,fun j t hj ht=>?_⟩;change(v.aU.map dA.g)[j]?=some t at ht;rw[List.getElem?_map] at ht;obtain⟨u,hu,rfl⟩:=Option.map_eq_some_iff.1 ht;have fZ:=hw.t u (List.mem_of_getElem? hu);refine⟨⟨fZ.1,fun j' t' xX CT he=>?_⟩,fZ.2⟩;change(v.aU.map dA.g)[j']?=some t' at CT;rw[List.getElem?_map] at CT;obtain⟨u',JF,rfl⟩:=Option.map_eq_some_iff.1 CT;have hd:(v.aU.map dA.pc).Nodup:=hw.d;have hpp:=List.pairwise_iff_getElem.1 hd j' j (by rw[List.length_map];exact lt_get JF) (by rw[List.length_map];exact lt_get hu) xX;have e1:(v.aU.map dA.pc)[j']?=some u'.pc:=by rw[List.getElem?_map,JF];rfl
 have e2:(v.aU.map dA.pc)[j]?=some u.pc:=by rw[List.getElem?_map,hu];rfl
 rw[List.getElem?_eq_some_iff] at e1 e2;obtain⟨_,e1⟩:=e1;obtain⟨_,e2⟩:=e2;rw[e1,e2] at hpp;have n9:((u'.pc:Nat):Int)=((u.pc:Nat):Int):=he;exact hpp (by omega)
end Go.Proofs.YtnleclohocdkaaaGreat
namespace Go.Proofs.YtnleclohocdkaaaGreat
open Go.V Go
def mJ (fr:Go.V.Fr) (k:Nat):Go.V.D:=Go.V.nth .junk fr.loc k
theorem wJ {kv ks:Nat} {s0:St} {p:Pg} {pl:Nat} {ld:D} {L:List VL} (hp:p.ok) (hLl:L.length≤1000) (hok:∀l∈L,l.aU.length≤1000) (hA:AM s0.bs.length s0 kv ks p pl ld L) (hF:s0.flr≤s0.bs.length) (cZ:s0.ro≤s0.bs.length):
  ∃r ab,Ev pv 17 [.ptr kv 0 0] s0 r ab∧∃(d:D) (L':List VL),r=.agg [.int .i64 (pl:Nat),d]∧L'.map VL.pl=L.map VL.pl∧Has s0.bs.length s0 ab (.lst d 12 (L'.map dW)::L'.map jR):=by
 have hH:Has s0.bs.length s0 s0 []:=Has.start (Nat.le_refl _) cZ;refine Ev.fX rfl PB rfl rfl rfl ?_;refine zE ?_;change EvC _ _ _ _ s0 _;refine qq<|qj fun K hK=>qa hH fun k2 st hk2 hH=>?_;refine qe hK ?_;have Em:=hA.to hH 2;have SY:=hA.to hH 3;have hb2:=hA.box hH;have Ek:=hA.refs hp hH;change EvC _ _ _ _ _ _;refine qq ?_;generalize hK:SeqQ _ _ _ _=K;refine EvC.tm rfl ?_;refine bD.cons ?_;refine qm ?_;refine EvO.nil ⟨rfl,?_⟩;refine bD.cons ?_;refine qg ?_;refine EvO.nil ⟨rfl,?_⟩;refine bD.cons ?_;refine qp (o:=2) ?_;refine EvO.nil ⟨rfl,?_⟩;refine bD.cons ?_;refine qR ?_;refine EvO.nil ⟨rfl,?_⟩;refine bD.cons ?_;refine qm ?_;refine EvO.nil ⟨rfl,?_⟩;refine bD.cons ?_;refine qg ?_;refine EvO.nil ⟨rfl,?_⟩;refine bD.cons ?_;refine qp (o:=3) ?_;refine EvO.nil ⟨rfl,?_⟩;refine bD.cons ?_;refine qR ?_;refine EvO.nil ⟨rfl,?_⟩;refine bD.cons ?_;obtain⟨_,st,hev,L2,x9,hH⟩:=kO hF hLl hA.ld (fun l hl=>⟨hA.td l hl,hok l hl⟩) hH;have hH:=Has.e5 (_::L2.map jR) [_] hH;dsimp only[u3,u4] at hH;refine qv hev ?_;refine EvO.nil ⟨by exact Bool.and_eq_true_iff.2 ⟨fu rfl rfl rfl hb2 (hA.box hH) hb2 Ek,rfl⟩,?_⟩;refine bD.cons ?_;refine EvO.eE (qs:=[(0,_),(1,_)]) rfl rfl rfl rfl ⟨rfl,(ev rfl),(by rfl),rfl,(ev rfl),(by exact hH.ocells (by exact at1)),trivial⟩ (by intro q hq;simp only[List.mem_cons,List.not_mem_nil,or_false] at hq;rcases hq with rfl|rfl<;>exact⟨rfl,by exact Nat.le_of_ble_eq_true rfl⟩) (by show List.foldl _ [_,_] _=_;dsimp only[List.foldl_cons,List.foldl_nil,u2,u1]<;>rfl) (put_T rfl _) ?_;refine EvO.nil ⟨rfl,?_⟩;refine bD.cons ?_;refine qS hH at0 fun st hH=>?_;dsimp only[u2,u1,u3,u4,setMany,u5,u6,D.cells,Nat.reduceAdd,aB,aI,aG,ay,dW,jY] at hH;refine EvO.nil ⟨rfl,?_⟩;refine bD.nil ?_;subst hK;refine EvC.ret ⟨rx,_,_,_,hH.ov rfl at0 rfl,rfl,?_⟩;refine⟨_,L2,rfl,x9,?_⟩;have h1:=hH.drop 1
 simpa only[List.drop_succ_cons,List.drop_zero,List.append_nil] using h1
def FU (l:GV):aN:=.lst l.td 11 (l.aU.map fq)
def rB (d:D) (L:List GV):List aN:=.lst d 12 (L.map gD)::L.map FU
theorem tx {N:Nat} {S st:St} {A B:List aN} {d:D} {L:List GV} (hH:Has N S st (A++(rB d L++B))) (hl:L.length≤1000) (ht:∀l∈L,l.aU.length≤1000):kQ st d L:=by
 have h0:(A++(rB d L++B))[A.length]?=some (.lst d 12 (L.map gD)):=by
  rw[List.getElem?_append_right (Nat.le_refl _),Nat.sub_self];rfl
 refine⟨hH.rows h0,by omega,fun l hm=>⟨?_,by have:=ht l hm;omega⟩⟩;obtain⟨i,hi⟩:=List.getElem?_of_mem hm;have hil:=lt_get hi
 have h1:(A++(rB d L++B))[A.length+(1+i)]?=some (FU l):=by
  rw[List.getElem?_append_right (by omega),show A.length+(1+i)-A.length=i+1 by omega];show(aN.lst d 12 (L.map gD)::(L.map FU++B))[i+1]?=_;rw[List.getElem?_cons_succ,List.getElem?_append_left (by rw[List.length_map];exact hil),List.getElem?_map,hi];rfl
 exact hH.rows h1
theorem rP {N:Nat} {S s0:St} {H:List aN} (hF:S.flr≤N) (hH:Has N S s0 H):s0.flr≤s0.bs.length∧s0.ro≤s0.bs.length:=by
 have h1:=hH.ex.flr;have h2:=hH.ex.ro;have h3:=hH.cZ;have h4:=hH.hN;have h5:=hH.ex.len;constructor<;>omega
theorem MH.over {A H2:List aN} {N:Nat} {S st ab:St} {ks kv:Nat} {p:Pg} {pl:Nat} {ld:D} {L:List VL} {H:List aN} (hM:MH A N S st ks kv p pl ld L H) (h2:Has st.bs.length st ab H2):MH (H2++A) N S ab ks kv p pl ld L H:=by
 obtain⟨pd,qd,P,Q,sn,hH,h3,h4⟩:=nG hM;exact vu (by simpa only[List.append_assoc] using Has.over hH h2) h3 h4
theorem Has.Ij {N:Nat} {S st:St} (A B C:List aN) (h:Has N S st (A++(B++C))):Has N S st (A++C):=by
 have h1:=(Has.e5 A B h).drop B.length
 rwa [List.drop_left] at h1
theorem Has.BM {N:Nat} {S st:St} (A B C D:List aN) (h:Has N S st (A++(B++(C++D)))):Has N S st (A++(C++(B++D))):=by
 have h1:=Has.e5 A (B++(C++D)) (H:=[]) (by rw[List.append_nil];exact h);rw[List.append_nil,List.append_assoc,List.append_assoc] at h1;have h2:=Has.e5 B C h1;have h3:=Has.e5 (C++(B++D)) A (H:=[]) (by rw[List.append_nil];simpa only[List.append_assoc] using h2);rw[List.append_nil] at h3;exact h3
def eR (st:St) (es:List (List D)) (L:List GV):Prop:=es.length=L.length∧∀(i:Nat) l,L[i]?=some l→∃d,V.Rows st 11 d (l.aU.map fq)∧es[i]?=some (aG l.dn l.aM d)
theorem EB {L L':List GV} (h:L'.map GV.told=L.map GV.told):L'.length=L.length∧∀(i:Nat) l,L[i]?=some l→∃l',L'[i]?=some l'∧l'.dn=l.dn∧l'.aM=l.aM∧l'.aU=l.aU:=by
 refine⟨by have:=congrArg List.length h;simpa using this,fun i l hl=>?_⟩;have h1:(L'.map GV.told)[i]?=some l.told:=by rw[h,List.getElem?_map,hl];rfl
 rw[List.getElem?_map] at h1;obtain⟨l',h2,h3⟩:=Option.map_eq_some_iff.1 h1;refine⟨l',h2,?_⟩;simp only[GV.told,GV.mk.injEq] at h3;exact⟨h3.1,h3.2.1,h3.2.2.2⟩
theorem kQ.Gn {st:St} {x:D} {L L':List GV} (hx:kQ st x L') (h:L'.map GV.told=L.map GV.told):eR st (L'.map gD) L:=by
 obtain⟨h1,h2⟩:=EB h;refine⟨by rw[List.length_map];exact h1,fun i l hl=>?_⟩;obtain⟨l',h3,h4,h5,h6⟩:=h2 i l hl;refine⟨l'.td,by rw[←h6];exact(hx.2.2 l' (List.mem_of_getElem? h3)).1,?_⟩;rw[x_ h3,←h4,←h5];rfl
theorem eR.ex {s0 S st:St} {H:List aN} {es:List (List D)} {L:List GV} (h:eR s0 es L) (hS:S.bs=s0.bs) (hH:Has s0.bs.length S st H):eR st es L:=⟨h.1,fun i l hl=>by
 obtain⟨d,h1,h2⟩:=h.2 i l hl
 exact⟨d,(Arg.of h1 hS).rows hH,h2⟩⟩
def PL.gv (l:PL):GV:=⟨l.dn,l.aM,.nul,l.aU.map dA.g⟩
theorem yL {L:List VL} {P:List PL} (h:L.map VL.pl=P):(L.map VL.g).map GV.told=(P.map PL.gv).map GV.told:=by
 rw[←h,List.map_map,List.map_map,List.map_map];rfl
theorem G7 (t:GT):iB pv .neq 60 (.agg (fq t)) (.agg (fq t))=some (.bool false):=by
 have h:∀a b c d e g i j k l m:Int,iB pv .neq 60 (.agg [.int .i64 a,.int .i64 b,.int .i64 c,.int .i64 d,.int .i64 e,.int .i64 g,.int .i64 i,.int .i64 j,.int .i64 k,.int .i64 l,.int .i64 m]) (.agg [.int .i64 a,.int .i64 b,.int .i64 c,.int .i64 d,.int .i64 e,.int .i64 g,.int .i64 i,.int .i64 j,.int .i64 k,.int .i64 l,.int .i64 m])=Option.map (fun b=>D.bool !b) (match some (a==a) with|some true=>(match(match some (b==b) with|some true=>(match some (c==c) with|some true=>(match some (d==d) with|some true=>(match some (e==e) with|some true=>(match some (g==g) with|some true=>(match some (i==i) with|some true=>(match some (j==j) with|some true=>(match some (k==k) with|some true=>(match some (l==l) with|some true=>(match some (m==m) with|some true=>some true|some false=>some false|none=>none)|some false=>some false|none=>none)|some false=>some false|none=>none)|some false=>some false|none=>none)|some false=>some false|none=>none)|some false=>some false|none=>none)|some false=>some false|none=>none)|some false=>some false|none=>none)|some false=>some false|none=>none)|some false=>some false|none=>none) with|some true=>some true|some false=>some false|none=>none)|some false=>some false|none=>none):=fun _ _ _ _ _ _ _ _ _ _ _=>rfl;unfold fq;rw[h];simp only[beq_self_eq_true,Option.map_some,Bool.not_true]
theorem Af {s0:St} {x y:D} {l:List GT} (hx:V.Rows s0 11 x (l.map fq)) (hy:V.Rows s0 11 y (l.map fq)) (hl:l.length≤1073741824):Ev pv 67 [x,y] s0 (.bool true) s0:=by
 refine Ev.mk1 rfl KO rfl rfl rfl ?_;refine zE ?_;obtain⟨hSb,hF,hH⟩:=ri s0;generalize enterSt .ro s0=S at*;have hx:=Arg.of hx hSb;have hy:=Arg.of hy hSb;refine zQ 8 ?_;refine qn ?_;simp only[List.length_map];refine qm ?_;refine qn ?_;simp only[List.length_map];refine zQ 2 ?_;refine qE rfl (by simp) ?_;refine zQ 7 ?_;refine EvC.loop (fun mm fr st=>∃(i:Nat),fr.clean=⟨6,[x,y,mJ fr 2,mJ fr 3,.bool false,.int .i64 (i:Nat)],[]⟩∧Has s0.bs.length S st []∧(i+mm=l.length)) (l.length) ?_ ?_
 ·exact⟨0,rfl,hH,by omega⟩
 rintro mm fr st ⟨i,hfr,hH,hi⟩;rw[hfr];clear hfr;generalize mJ fr=ee;clear fr;refine zQ 5 ?_;refine qn ?_;simp only[List.length_map];refine zQ 2 ?_;refine zP (fun h1=>?_) fun h1=>?_
 ·refine zQ 1 ?_
  obtain⟨p,hp⟩:∃p,l[i]?=some p:=⟨l[i]'(by omega),List.getElem?_eq_getElem _⟩
  have hr1:=Dz hp;refine zQ 6 ?_;refine qr fun LG FE=>?_;refine EvO.cu rfl (ev rfl) (by assumption) rfl (put_T rfl _) ?_;refine zQ 2 ?_;refine qr fun Mo Hx=>?_;refine EvO.cu rfl (ev rfl) (by assumption) rfl (put_T rfl _) ?_;refine EvO.IG rfl (ev rfl) (ev rfl) (G7 p) (put_T rfl _) ?_;refine zQ 8 ?_;exact⟨mm-1,by omega,⟨i+1,rfl,hH,by omega⟩⟩
 ·refine zQ 5 ?_;refine EvC.ret ⟨rx,_,rfl,rl hSb hH (rfl)⟩
theorem AP {s0:St} {x y:D} {es fs:List (List D)} {L:List GV} (hx:V.Rows s0 12 x es) (hy:V.Rows s0 12 y fs) (kW:eR s0 es L) (Df:eR s0 fs L) (hl:L.length≤1073741824) (uh:∀l∈L,l.aU.length≤1000):Ev pv 22 [x,y] s0 (.bool true) s0:=by
 obtain⟨oz,N_⟩:=kW;obtain⟨kJ,NZ⟩:=Df;refine Ev.mk1 rfl KP rfl rfl rfl ?_;refine zE ?_;obtain⟨hSb,hF,hH⟩:=ri s0;generalize enterSt .ro s0=S at*;have hx:=Arg.of hx hSb;have hy:=Arg.of hy hSb;refine zQ 8 ?_;refine qn ?_;refine qm ?_;refine qn ?_;refine zQ 2 ?_;refine qE rfl (by rw[oz,kJ];simp) ?_;refine zQ 7 ?_;refine EvC.loop (fun mm fr st=>∃(i:Nat),fr.clean=⟨6,[x,y,mJ fr 2,mJ fr 3,.bool false,.int .i64 (i:Nat)],[]⟩∧Has s0.bs.length S st []∧(i+mm=es.length)) (es.length) ?_ ?_
 ·exact⟨0,rfl,hH,by omega⟩
 rintro mm fr st ⟨i,hfr,hH,hi⟩;rw[hfr];clear hfr;generalize mJ fr=ee;clear fr;refine zQ 5 ?_;refine qn ?_;refine zQ 2 ?_;refine zP (fun h1=>?_) fun h1=>?_
 ·refine zQ 1 ?_
  obtain⟨l,hll⟩:∃l,L[i]?=some l:=⟨L[i]'(by omega),List.getElem?_eq_getElem _⟩
  obtain⟨d1,x0,hr1⟩:=N_ i l hll;obtain⟨d2,uj,n5⟩:=NZ i l hll;have lH:=uh l (List.mem_of_getElem? hll);have ch:(l.dn !=l.dn)=false:=by simp
  have pM:false=false:=rfl;refine zQ 3 ?_;refine EvC.cutT 54 (.bool false) [] ?_ (fun ff tmp htmp=>?_)
  ·refine zQ 2 ?_;refine qr fun LG FE=>?_;refine qf (fo:=0) fun Jh C7=>?_;refine zQ 3 ?_;refine qr fun IF AY=>?_;refine qf (fo:=0) fun IE AX=>?_;refine zQ 5 ?_;refine qr (fun RH Nv=>?_) (hg:=wi ch);refine qf (fo:=1) (fun RG Nu=>?_) (hg:=wi ch);refine zQ 3 ?_;refine qr (fun LD FC=>?_) (hg:=wi ch);refine qf (fo:=1) (fun Mn Hw=>?_) (hg:=wi ch);refine zQ 1 ?_;refine EvO.IG (wantD_is rfl rfl rfl ch) (ev rfl) (ev rfl) (vn l.aM) (put_T rfl _) ?_;refine zQ 4 ?_;refine qr (fun RB Np=>?_) (hg:=wi pM);refine qf (fo:=11) (fun RA Nn=>?_) (hg:=wi pM);refine zQ 3 ?_;refine qr (fun Mm Hv=>?_) (hg:=wi pM);refine qf (fo:=11) (fun Ml Hu=>?_) (hg:=wi pM);refine zQ 1 ?_;refine qv (Af ((Arg.of x0 hSb).rows hH) ((Arg.of uj hSb).rows hH) (by omega)) ?_ (hg:=wi pM);refine zQ 2 ?_;refine EvO.nil (leafT ?_ ?_)
   ·dsimp only[setW,List.foldl,nth,u2,u1]
    all_goals(first|rfl|simp)
   ·dsimp only[Fr.putO,Fr.put,Fr.clean,Fr.ev,Fr.get,nth,look,u1,u2,v1,v2,v4]
    all_goals(rfl)
  dsimp only[setW,List.foldl,nth,u2,u1];dsimp only[Fr.putO,Fr.put,Fr.clean,Fr.ev,Fr.get,nth,look,u1,u2,v1,v2,v4];refine zQ 7 ?_;exact⟨mm-1,by omega,⟨i+1,rfl,hH,by omega⟩⟩
 ·refine zQ 5 ?_;refine EvC.ret ⟨rx,_,rfl,rl hSb hH (rfl)⟩
theorem tK {s0:St} {pl:Int} {x y:D} {es fs:List (List D)} {L:List GV} (hx:V.Rows s0 12 x es) (hy:V.Rows s0 12 y fs) (kW:eR s0 es L) (Df:eR s0 fs L) (hl:L.length≤1000) (uh:∀l∈L,l.aU.length≤1000):Ev pv 21 [.agg [.int .i64 pl,x],.agg [.int .i64 pl,y]] s0 (.bool true) s0:=by
 have NK:=fun{st:St} (hx:V.Rows st 12 x es) (hy:V.Rows st 12 y fs) (kW:eR st es L) (Df:eR st fs L)=>AP (s0:=st) hx hy kW Df (by omega) uh;have V2:=oV hx;have T3:=oV hy;refine Ev.mk1 rfl Px rfl rfl rfl ?_;refine zE ?_;obtain⟨hSb,hF,hH⟩:=ri s0;generalize enterSt .ro s0=S at*;have fK:(pl==pl)=true:=by simp
 have hx:=Arg.of hx hSb;have hy:=Arg.of hy hSb;refine zQ 2 ?_;refine qb hH fun k2 st hk2 hH=>?_;refine qb hH fun k3 st BB hH=>?_;refine zQ 14 ?_;refine qv (NK (hx.rows hH) (hy.rows hH) (kW.ex hSb hH) (Df.ex hSb hH)) ?_ (hg:=wi fK);refine zQ 3 ?_;refine EvC.ret ⟨rx,_,rfl,rl hSb hH (rfl)⟩
end Go.Proofs.YtnleclohocdkaaaGreat
