/-
 A machine's thread goes on as far as it can without a rune.
-/
import Derived.Test.YtnleclohocdkaaaGreatTGHr
import Derived.Test.YtnleclohocdkaaaGreatTGQj
import Derived.Test.YtnleclohocdkaaaGreatTGPb
set_option maxRecDepth 100000
set_option maxHeartbeats 4000000
set_option linter.unusedSimpArgs false
set_option linter.unusedVariables false
namespace Go.Proofs.YtnleclohocdkaaaGreat
open Go.V Go
def bE (fr:Go.V.Fr) (k:Nat):Go.V.D:=Go.V.nth .junk fr.loc k
structure dx where
 pc:Nat
 c:j6
def aL (t:dx):List D:=[.int .i64 (t.pc:Nat),.int .i64 (t.c 0),.int .i64 (t.c 1),.int .i64 (t.c 2),.int .i64 (t.c 3),.int .i64 (t.c 4),.int .i64 (t.c 5),.int .i64 (t.c 6),.int .i64 (t.c 7),.int .i64 (t.c 8),.int .i64 (t.c 9)]
def aK (dn:Bool) (f:j6) (d:D):List D:=[.bool dn,.int .i64 (f 0),.int .i64 (f 1),.int .i64 (f 2),.int .i64 (f 3),.int .i64 (f 4),.int .i64 (f 5),.int .i64 (f 6),.int .i64 (f 7),.int .i64 (f 8),.int .i64 (f 9),d]
theorem CW {a:D} {f:j6} {x:Nat} {v:Int} (hx:x<10):setMany (a::aC f) (1+x) [.int .i64 v]=a::aC (Av f x v):=by
 match x,hx with
 |0,_=>rfl
 |1,_=>rfl
 |2,_=>rfl
 |3,_=>rfl
 |4,_=>rfl
 |5,_=>rfl
 |6,_=>rfl
 |7,_=>rfl
 |8,_=>rfl
 |9,_=>rfl
structure Wk where
 seen:List Bool
 dn:Bool
 aJ:j6
 rdy:List dx
def bN (code:List az) (pl:Nat) (e:Bool):Nat→Wk→dx→Wk×Bool
 |0,w,_=>(w,false)
 |f+1,w,t=>
  if w.seen.getD t.pc true=true then(w,false) else
  match code[t.pc]? with
  |none=>(w,false)
  |some i=>
   if i.op=7 then(⟨w.seen.set t.pc true,true,t.c,w.rdy⟩,true)
   else if i.op=2 then
    if(bN code pl e f ⟨w.seen.set t.pc true,w.dn,w.aJ,w.rdy⟩ ⟨i.x.toNat,t.c⟩).2=true then bN code pl e f ⟨w.seen.set t.pc true,w.dn,w.aJ,w.rdy⟩ ⟨i.x.toNat,t.c⟩
    else bN code pl e f (bN code pl e f ⟨w.seen.set t.pc true,w.dn,w.aJ,w.rdy⟩ ⟨i.x.toNat,t.c⟩).1 ⟨i.y.toNat,t.c⟩
   else if i.op=1 then(⟨w.seen.set t.pc true,w.dn,w.aJ,w.rdy++[t]⟩,false)
   else if i.op=3 then bN code pl e f ⟨w.seen.set t.pc true,w.dn,w.aJ,w.rdy⟩ ⟨i.x.toNat,t.c⟩
   else if i.op=4 then bN code pl e f ⟨w.seen.set t.pc true,w.dn,w.aJ,w.rdy⟩ ⟨t.pc+1,Av t.c i.x.toNat (pl:Nat)⟩
   else if i.op=5 then if pl=0 then bN code pl e f ⟨w.seen.set t.pc true,w.dn,w.aJ,w.rdy⟩ ⟨t.pc+1,t.c⟩ else(⟨w.seen.set t.pc true,w.dn,w.aJ,w.rdy⟩,false)
   else if e=true then bN code pl e f ⟨w.seen.set t.pc true,w.dn,w.aJ,w.rdy⟩ ⟨t.pc+1,t.c⟩ else(⟨w.seen.set t.pc true,w.dn,w.aJ,w.rdy⟩,false)
def Good (code:List az) (w w':Wk):Prop:=
 w'.seen.length=w.seen.length∧w'.seen.count false≤w.seen.count false∧w'.rdy.length+w'.seen.count false≤w.rdy.length+w.seen.count false∧∀t∈w'.rdy,t∈w.rdy∨∃i,code[t.pc]?=some i∧i.op=1
theorem Good.refl {code:List az} {w:Wk}:Good code w w:=⟨rfl,Nat.le_refl _,Nat.le_refl _,fun t h=>.inl h⟩
theorem Good.trans {code:List az} {a b c:Wk} (h:Good code a b) (k:Good code b c):Good code a c:=
 ⟨k.1.trans h.1,Nat.le_trans k.2.1 h.2.1,Nat.le_trans k.2.2.1 h.2.2.1,fun t ht=>by
  rcases k.2.2.2 t ht with q|q
  ·exact h.2.2.2 t q
  ·exact .inr q⟩
theorem Good.step {code:List az} {w w':Wk} {j:Nat} (hj:w.seen[j]?=some false) (k:Good code ⟨w.seen.set j true,w.dn,w.aJ,w.rdy⟩ w'):Good code w w':=by
 have hc:=count_set hj;refine Good.trans (b:=⟨w.seen.set j true,w.dn,w.aJ,w.rdy⟩) ⟨?_,?_,?_,fun t h=>.inl h⟩ k
 ·simp
 ·show(w.seen.set j true).count false≤_;omega
 ·show w.rdy.length+(w.seen.set j true).count false≤_;omega
theorem vK {l:List Bool} {j:Nat} (h:¬l.getD j true=true):l[j]?=some false:=by
 rw[List.getD_eq_getElem?_getD] at h
 cases hq:l[j]? with
 |none=>rw[hq] at h;exact absurd rfl h
 |some b=>rw[hq] at h;cases b with
  |false=>rfl
  |true=>exact absurd rfl h
theorem yL {l:List Bool} {j:Nat} {b:Bool} (h:l[j]?=some b):l.getD j true=b:=by
 rw[List.getD_eq_getElem?_getD,h];rfl
theorem bZ (code:List az) (pl:Nat) (e:Bool):∀(f:Nat) (w:Wk) (t:dx),Good code w (bN code pl e f w t).1
 |0,w,t=>.refl
 |f+1,w,t=>by
  unfold bN
  split
  ·exact .refl
  ·rename_i hs;have hs:=vK hs;have hc:=count_set hs
   split
   ·exact .refl
   ·rename_i i hi
    split
    ·exact Good.step hs ⟨rfl,Nat.le_refl _,Nat.le_refl _,fun t h=>.inl h⟩
    ·split
     ·split
      ·exact Good.step hs (bZ code pl e f _ _)
      ·exact Good.step hs ((bZ code pl e f _ _).trans (bZ code pl e f _ _))
     ·split
      ·rename_i h1;refine⟨by simp,by show(w.seen.set t.pc true).count false≤_;omega,by show(w.rdy++[t]).length+(w.seen.set t.pc true).count false≤_;rw[List.length_append];simp only[List.length_cons,List.length_nil];omega,fun t' h=>?_⟩
       rcases List.mem_append.1 h with h|h
       ·exact .inl h
       ·simp only[List.mem_cons,List.not_mem_nil,or_false] at h;subst h;exact .inr ⟨i,hi,h1⟩
      ·split
       ·exact Good.step hs (bZ code pl e f _ _)
       ·split
        ·exact Good.step hs (bZ code pl e f _ _)
        ·split
         ·split
          ·exact Good.step hs (bZ code pl e f _ _)
          ·exact Good.step hs .refl
         ·split
          ·exact Good.step hs (bZ code pl e f _ _)
          ·exact Good.step hs .refl
theorem lp (A:List aN) {N ks:Nat} {S s0:St} {H:List aN} {seen:List Bool} {i:Nat} {b:Bool} {pd qd:D} {P Q:List Nat} (hF:S.flr≤N) (hi:seen[i]?=some b) (hok:cj P Q seen) (hH:Has N S s0 (A++(.box ks (.mem 0 false [pd,qd])::.lst pd 1 (P.map eA)::.lst qd 2 (Q.map kY)::H))):
  ∃r ae,Ev pv 104 [.ptr ks 0 0,.int .i64 (i:Nat),.bool true] s0 r ae∧r=.bool (!b)∧∃pd qd P Q,Has N S ae (A++(.box ks (.mem 0 false [pd,qd])::.lst pd 1 (P.map eA)::.lst qd 2 (Q.map kY)::H))∧cj P Q (seen.set i true):=by
 obtain⟨r,ae,h1,h2,xG,xE,P',Q',h3,h4⟩:=yK (H:=A++H) hF hi ⟨pd,qd,P,Q,Has.g_ A [_,_,_] hH,hok⟩;exact⟨r,ae,h1,h2,xG,xE,P',Q',Has.g_ [_,_,_] A h3,h4⟩
theorem me (A:List aN) {N ks:Nat} {S s0:St} {H:List aN} {seen:List Bool} {pd qd:D} {P Q:List Nat} (hF:S.flr≤N) (hok:cj P Q seen) (hH:Has N S s0 (A++(.box ks (.mem 0 false [pd,qd])::.lst pd 1 (P.map eA)::.lst qd 2 (Q.map kY)::H))):
  ∃r ae,Ev pv 102 [.ptr ks 0 0] s0 r ae∧r=.tup []∧∃pd qd P Q,Has N S ae (A++(.box ks (.mem 0 false [pd,qd])::.lst pd 1 (P.map eA)::.lst qd 2 (Q.map kY)::H))∧cj P Q (List.replicate seen.length false):=by
 obtain⟨r,ae,h1,h2,xG,xE,P',Q',h3,h4⟩:=tD (H:=A++H) hF ⟨pd,qd,P,Q,Has.g_ A [_,_,_] hH,hok⟩;exact⟨r,ae,h1,h2,xG,xE,P',Q',Has.g_ [_,_,_] A h3,h4⟩
def Oj (N:Nat) (S st:St) (ks kv kw kl:Nat) (p:Pg) (pl:Nat) (ld:D) (e:Bool) (w:Wk) (H:List aN):Prop:=
 ∃rd pd qd P Q,Has N S st (.box kv (.mem 0 false [p.cd,p.sd,.int .i64 (pl:Nat),ld,.ptr ks 0 0])::.box kw (.mem 0 false [.ptr kl 0 0,rd,.bool e])::.box kl (.mem 0 false (aK w.dn w.aJ .nul))::.lst rd 11 (w.rdy.map aL)::.box ks (.mem 0 false [pd,qd])::.lst pd 1 (P.map eA)::.lst qd 2 (Q.map kY)::H)∧cj P Q w.seen
theorem Eh {N ks kv kw kl:Nat} {S:St} {H:List aN} {p:Pg} {pl:Nat} {ld:D} {e:Bool} (hF:S.flr≤N) (hp:p.ok) (hR:aR p) (hpl:pl≤4000000000000):∀(f:Nat) (w:Wk) (t:dx) (s0:St) (H:List aN),t.pc<p.code.length→w.seen.length=p.code.length→w.seen.count false<f→w.rdy.length+w.seen.count false≤1048576→Oj N S s0 ks kv kw kl p pl ld e w H→
  ∃r ae,Ev pv 105 [.ptr kv 0 0,.ptr kw 0 0,.agg (aL t)] s0 r ae∧r=.bool (bN p.code pl e f w t).2∧Oj N S ae ks kv kw kl p pl ld e (bN p.code pl e f w t).1 H
 |0,_,_,_,_,_,_,h,_,_=>absurd h (Nat.not_lt_zero _)
 |f+1,w,t,s0,H,Bt,il,cY,px,hT=>by
  have ih:=Eh (ks:=ks) (kv:=kv) (kw:=kw) (kl:=kl) (S:=S) (H:=H) (ld:=ld) (e:=e) hF hp hR hpl f;obtain⟨rd,pd,qd,P,Q,hH,hok⟩:=hT;have hc:=hp.c.arg N S;have hlen:=hp.cl
  obtain⟨i,hi⟩:∃i,p.code[t.pc]?=some i:=⟨p.code[t.pc]'Bt,List.getElem?_eq_getElem _⟩
  obtain⟨b,hb⟩:∃b,w.seen[t.pc]?=some b:=⟨w.seen[t.pc]'(by omega),List.getElem?_eq_getElem _⟩
  have hr:=ft hi;have Bp:=(hp.i i (List.mem_of_getElem? hi)).1;have wJ:=ke (hR.sh t.pc i hi);have GG:=yL hb;have iD:bN p.code pl e (f+1) w t=bN p.code pl e (f+1) w t:=rfl
  conv at iD=>rhs;unfold bN
  rw[GG] at iD;simp only[hi] at iD;generalize bN p.code pl e (f+1) w t=R at*;obtain⟨op,x,y,OH,rs⟩:=i;obtain⟨pc,c⟩:=t;simp only at*;refine Ev.iB rfl Jd rfl rfl rfl ?_;refine zE ?_;change EvC _ _ _ _ s0 _;refine qq<|qj fun K hK=>qb hH fun k5 st FJ hH=>?_;dsimp only[u2,u1,u3,u4,setMany,u5,u6,D.cells,Nat.reduceAdd,aA,aL,aK,aC] at hH;refine qm ?_;refine qe hK<|qq<|qq<|qj fun K hK=>qm ?_;refine qg ?_;refine qp (o:=4) ?_;refine ql hH at1 ?_;refine qp (o:=0) ?_;refine ql hH at0 ?_;obtain⟨_,st,hev,rfl,pd,qd,P,Q,hH,hok⟩:=lp [_,_,_,_,_] hF hb hok hH;dsimp only[u3,u4] at hH;refine qv hev ?_;refine qg ?_;refine qe hK ?_
  cases b with
  |true=>
   rw[if_pos rfl] at iD;subst iD;refine qB ?_;refine qq<|qj fun K hK=>qm ?_;refine qe hK<|EvC.ret ⟨rx,_,_,_,rfl,rfl,?_⟩;refine⟨rfl,rd,pd,qd,P,Q,hH.drop 1,?_⟩
   have:w.seen.set pc true=w.seen:=by
    refine List.ext_getElem? fun j=>?_
    by_cases hj:j=pc
    ·subst hj;rw[List.getElem?_set_self (by omega),hb]
    ·rw[List.getElem?_set_ne (fun e=>hj e.symm)]
   rw[←this];exact hok
  |false=>
   rw[if_neg (by decide)] at iD;have BI:=count_set hb;have Bm:(w.seen.set pc true).length=p.code.length:=by rw[List.length_set];exact il
   have Is:(w.seen.set pc true).count false<f:=by omega
   have Hz:w.rdy.length+(w.seen.set pc true).count false≤1048576:=by omega
   generalize w.seen.set pc true=sn at*;clear hb GG BI il cY px;refine qC ?_;refine EvC.skip<|qq<|qj fun K hK=>qm ?_;refine qg ?_;refine qp (o:=0) ?_;refine qp (o:=0) ?_;refine ql hH at1 ?_;refine qp (o:=0) ?_;refine ql hH at0 ?_;refine qr fun Gv zk=>?_;refine EvO.cq rfl (ev rfl) (by assumption) rfl (by dsimp only[Fr.put,u1,u2]<;>rfl) ?_;refine qa hH fun k7 st Ln hH=>?_;refine qS hH at0 fun st hH=>?_;dsimp only[u2,u1,u3,u4,setMany,u5,u6,D.cells,Nat.reduceAdd,aA,aL,aK,aC] at hH;refine qe hK<|qq<|qj fun K hK=>?_;refine EvO.hloadS (m:=11) hH rfl (ev rfl) (by exact at1) (by dsimp only[List.drop_succ_cons,List.drop_zero,List.take_succ_cons,List.take_zero,aA,aL,aK,aC]<;>rfl) rfl rfl (by dsimp only[Fr.put,u1,u2]<;>rfl) ?_;refine qa hH fun k8 st hk8 hH=>?_;refine qS hH at0 fun st hH=>?_;dsimp only[u2,u1,u3,u4,setMany,u5,u6,D.cells,Nat.reduceAdd,aA,aL,aK,aC] at hH;refine qe hK<|qq<|qj fun K hK=>qp (o:=0) ?_;refine ql hH at0 ?_;refine qA ?_;refine qp (o:=0) ?_;refine qT hH at0 fun st hH=>?_;dsimp only[u2,u1,u3,u4,setMany,u5,u6,D.cells,Nat.reduceAdd,aA,aL,aK,aC] at hH;refine qe hK<|qq<|qq<|qj fun K hK=>qp (o:=0) ?_;refine ql hH at1 ?_;refine qe hK<|EvC.merge (fun fr st=>∃(t':dx) (tmp:List (Nat×D)),fr=⟨33,[.ptr kv 0 0,.ptr kw 0 0,bE fr 2,bE fr 3,bE fr 4,.ptr k5 0 0,.bool false,.ptr k7 0 0,.ptr k8 0 0,bE fr 9,bE fr 10,bE fr 11,bE fr 12,bE fr 13,bE fr 14,bE fr 15,bE fr 16,bE fr 17,bE fr 18,bE fr 19,bE fr 20,bE fr 21,bE fr 22,bE fr 23,bE fr 24,bE fr 25,bE fr 26,bE fr 27,bE fr 28,bE fr 29,bE fr 30,bE fr 31,bE fr 32],tmp⟩∧Has N S st (.box k8 (.mem 0 false (aL t'))::.box k7 (.mem 0 false [.int .i64 op,.int .i64 x,.int .i64 y,OH])::.box k5 (.mem 0 false (aL ⟨pc,c⟩))::.box kv (.mem 0 false [p.cd,p.sd,.int .i64 (pl:Nat),ld,.ptr ks 0 0])::.box kw (.mem 0 false [.ptr kl 0 0,rd,.bool e])::.box kl (.mem 0 false (aK w.dn w.aJ .nul))::.lst rd 11 (w.rdy.map aL)::.box ks (.mem 0 false [pd,qd])::.lst pd 1 (P.map eA)::.lst qd 2 (Q.map kY)::H)∧(R=bN p.code pl e f ⟨sn,w.dn,w.aJ,w.rdy⟩ t')∧(t'.pc<p.code.length)) ?_ ?_
   ·refine EvC.block<|qq<|qj fun K hK=>qg ?_;refine qm ?_;refine qe hK<|zI (fun h7=>?_) fun h7=>?_
    ·rw[if_pos h7] at iD;subst iD;have vw:=hH;change EvC _ _ _ _ _ _;refine qq ?_;generalize hK:SeqQ _ _ _ _=K;refine EvC.yV rfl ?_;refine cM.cons ?_;refine qm ?_;refine EvO.nil ⟨rfl,?_⟩;refine cM.cons ?_;refine qg ?_;refine EvO.nil ⟨rfl,?_⟩;refine cM.cons ?_;refine qp (o:=0) ?_;refine EvO.nil ⟨rfl,?_⟩;refine cM.cons ?_;refine ql hH at4 ?_;refine EvO.nil ⟨rfl,?_⟩;refine cM.cons ?_;refine qm ?_;refine EvO.nil ⟨rfl,?_⟩;refine cM.cons ?_;refine qg ?_;refine EvO.nil ⟨rfl,?_⟩;refine cM.cons ?_;refine qp (o:=0) ?_;refine EvO.nil ⟨rfl,?_⟩;refine cM.cons ?_;refine ql hH at4 ?_;refine EvO.nil ⟨rfl,?_⟩;refine cM.cons ?_;refine qp (o:=1) ?_;refine EvO.nil ⟨rfl,?_⟩;refine cM.cons ?_;refine EvO.hloadS (m:=10) hH rfl (ev rfl) (by exact at2) (by dsimp only[List.drop_succ_cons,List.drop_zero,List.take_succ_cons,List.take_zero,aA,aL,aK,aC]<;>rfl) rfl rfl (put_T rfl _) ?_;refine EvO.nil ⟨rfl,?_⟩;refine cM.cons ?_;refine qg ?_;refine EvO.nil ⟨rfl,?_⟩;refine cM.cons ?_;refine qp (o:=0) ?_;refine EvO.nil ⟨rfl,?_⟩;refine cM.cons ?_;refine qT hH at5 fun st hH=>?_;dsimp only[u2,u1,u3,u4,setMany,u5,u6,D.cells,Nat.reduceAdd,aA,aL,aK,aC] at hH;refine EvO.nil ⟨by exact Bool.and_eq_true_iff.2 ⟨zM rfl rfl rfl (vw.at at2) (hH.at at2) (vw.at at2) rfl,rfl⟩,?_⟩;refine cM.cons ?_;refine qg ?_;refine EvO.nil ⟨rfl,?_⟩;refine cM.cons ?_;refine qp (o:=1) ?_;refine EvO.nil ⟨rfl,?_⟩;refine cM.cons ?_;refine qT hH at5 fun st hH=>?_;dsimp only[u2,u1,u3,u4,setMany,u5,u6,D.cells,Nat.reduceAdd,aA,aL,aK,aC] at hH;refine EvO.nil ⟨rfl,?_⟩;refine cM.nil ?_;subst hK;refine qq<|qj fun K hK=>qm ?_;refine qe hK<|EvC.ret ⟨rx,_,_,_,rfl,rfl,?_⟩;exact⟨rfl,rd,pd,qd,P,Q,hH.drop 3,hok⟩
    ·rw[if_neg h7] at iD;refine qq<|qj fun K hK=>qg ?_;refine qm ?_;refine qe hK<|zI (fun h2=>?_) fun h2=>?_
     ·rw[if_pos h2] at iD;obtain⟨_,⟨hx0,hx1⟩,hy0,hy1⟩:=(wJ.resolve_left h7).resolve_right (by omega);obtain⟨xn,rfl⟩:=Int.eq_ofNat_of_zero_le hx0;obtain⟨yn,rfl⟩:=Int.eq_ofNat_of_zero_le hy0;have hgo:=bZ p.code pl e f ⟨sn,w.dn,w.aJ,w.rdy⟩ ⟨xn,c⟩;have EE:=Has.g_ [_,_,_] [_,_,_,_,_,_,_] hH;obtain⟨_,st1,hev,rfl,hT⟩:=ih ⟨sn,w.dn,w.aJ,w.rdy⟩ ⟨xn,c⟩ _ _ (by show xn<_;omega) Bm Is Hz ⟨rd,pd,qd,P,Q,EE,hok⟩;clear EE;have iD:R=if(bN p.code pl e f ⟨sn,w.dn,w.aJ,w.rdy⟩ ⟨xn,c⟩).2=true then bN p.code pl e f ⟨sn,w.dn,w.aJ,w.rdy⟩ ⟨xn,c⟩ else bN p.code pl e f (bN p.code pl e f ⟨sn,w.dn,w.aJ,w.rdy⟩ ⟨xn,c⟩).1 ⟨yn,c⟩:=iD;generalize bN p.code pl e f ⟨sn,w.dn,w.aJ,w.rdy⟩ ⟨xn,c⟩=R1 at*;obtain⟨w1,b1⟩:=R1;obtain⟨hD,bU,hg3,hg4⟩:=hgo;simp only at hD bU hg3 hg4 hev hT iD;obtain⟨Nh,Nk,Ni,P1,Q1,EE,HV⟩:=hT;have EE:=Has.g_ [_,_,_,_,_,_,_] [_,_,_] EE;dsimp only[u3,u4] at EE
      cases b1 with
      |true=>
       rw[if_pos rfl] at iD;subst iD;have hg8:true=true:=rfl;refine qq<|qj fun K hK=>qm ?_;refine qm ?_;refine qp (o:=1) ?_;refine ql hH at1 ?_;refine qp (o:=1) ?_;refine EvO.hloadS (m:=10) hH rfl (ev rfl) (by exact at2) (by dsimp only[List.drop_succ_cons,List.drop_zero,List.take_succ_cons,List.take_zero,aA,aL,aK,aC]<;>rfl) rfl rfl (put_T rfl _) ?_;refine EvO.go (d:=.agg (aL ⟨xn,c⟩)) (st1:=_) rfl rfl rfl (put_T rfl _) ?_;refine qv hev ?_;refine qm ?_;refine qs ?_ (hg:=wn hg8);refine qs ?_ (hg:=wn hg8);refine qs ?_ (hg:=wn hg8);refine qs ?_ (hg:=wn hg8);refine qs ?_ (hg:=wn hg8);refine qs ?_ (hg:=wn hg8);refine qs ?_ (hg:=wn hg8);refine qs ?_ (hg:=wn hg8);refine qt hg8 ?_;refine qm ?_;refine qe hK<|EvC.ret ⟨rx,_,_,_,rfl,rfl,?_⟩;exact⟨rfl,Nh,Nk,Ni,P1,Q1,EE.drop 3,HV⟩
      |false=>
       rw[if_neg (by decide)] at iD;have hg8:false=false:=rfl;refine qq<|qj fun K hK=>qm ?_;refine qm ?_;refine qp (o:=1) ?_;refine ql hH at1 ?_;refine qp (o:=1) ?_;refine EvO.hloadS (m:=10) hH rfl (ev rfl) (by exact at2) (by dsimp only[List.drop_succ_cons,List.drop_zero,List.take_succ_cons,List.take_zero,aA,aL,aK,aC]<;>rfl) rfl rfl (put_T rfl _) ?_;refine EvO.go (d:=.agg (aL ⟨xn,c⟩)) (st1:=_) rfl rfl rfl (put_T rfl _) ?_;have hH:=EE;refine qv hev ?_;refine qm ?_;refine qm ?_ (hg:=wi hg8);refine qm ?_ (hg:=wi hg8);refine qp (o:=2) ?_ (hg:=wi hg8);refine ql hH at1 ?_ (hg:=wi hg8);refine qp (o:=1) ?_ (hg:=wi hg8);refine EvO.hloadS (m:=10) hH (wantD_is rfl rfl rfl hg8) (ev rfl) (by exact at2) (by dsimp only[List.drop_succ_cons,List.drop_zero,List.take_succ_cons,List.take_zero,aA,aL,aK,aC]<;>rfl) rfl rfl (put_T rfl _) ?_;refine EvO.go (d:=.agg (aL ⟨yn,c⟩)) (st1:=_) (wantD_is rfl rfl rfl hg8) rfl rfl (put_T rfl _) ?_;obtain⟨_,st,hev,rfl,hT⟩:=ih w1 ⟨yn,c⟩ _ _ (by show yn<_;omega) (by omega) (by omega) (by omega) ⟨Nh,Nk,Ni,P1,Q1,hH.drop 3,HV⟩;refine qv hev ?_ (hg:=wi hg8);refine qu hg8 ?_;refine qm ?_;refine qe hK<|EvC.ret ⟨rx,_,_,_,rfl,rfl,?_⟩;rw[iD];exact⟨rfl,hT⟩
     ·rw[if_neg h2] at iD;refine qq<|qj fun K hK=>qg ?_;refine qm ?_;refine qe hK<|zI (fun h1=>?_) fun h1=>?_
      ·rw[if_pos h1] at iD;subst iD;refine qq<|qj fun K hK=>qm ?_;refine qm ?_;refine qg ?_;refine qp (o:=1) ?_;refine ql hH at4 ?_;refine EvO.hloadS (m:=11) hH rfl (ev rfl) (by exact at2) (by dsimp only[List.drop_succ_cons,List.drop_zero,List.take_succ_cons,List.take_zero,aA,aL,aK,aC]<;>rfl) rfl rfl (put_T rfl _) ?_;refine qh (s:=11) (vs:=[_]) hH fun k77 st H7 hH=>?_;refine EvO.happend (s:=11) hH rfl (ev rfl) (ev rfl) (by exact at7) (by exact hH.rows (by exact at0)) rfl rfl rfl rfl rfl rfl rfl ⟨(Nat.le_of_ble_eq_true rfl),(Nat.le_of_ble_eq_true rfl)⟩ (fun _=>(put_T rfl _)) (by simp only[List.length_cons,List.length_nil,List.length_map]<;>omega) (by exact .inl hF) (fun On st hH=>?_);dsimp only[u2,u1,u3,u4,setMany,u5,u6,D.cells,Nat.reduceAdd,aA,aL,aK,aC] at hH;refine qg ?_;refine qp (o:=1) ?_;refine qT hH at5 (fun st hH=>?_) (gy:=hH.ocells at7);dsimp only[u2,u1,u3,u4,setMany,u5,u6,D.cells,Nat.reduceAdd,aA,aL,aK,aC] at hH;refine qe hK<|qq<|qj fun K hK=>qm ?_;refine qe hK<|EvC.ret ⟨rx,_,_,_,rfl,rfl,?_⟩;refine⟨rfl,On,pd,qd,P,Q,?_,hok⟩;rw[List.map_append];exact hH.drop 4
      ·rw[if_neg h1] at iD;refine qq<|qj fun K hK=>qg ?_;refine qm ?_;refine qe hK<|zI (fun h3=>?_) fun h3=>?_
       ·rw[if_pos h3] at iD;obtain⟨_,hx0,hx1⟩:=((wJ.resolve_left h7).resolve_left (by omega)).resolve_right (by omega);obtain⟨xn,rfl⟩:=Int.eq_ofNat_of_zero_le hx0;refine qj fun K hK=>qp (o:=1) ?_;refine ql hH at1 ?_;refine qp (o:=0) ?_;refine qT hH at0 fun st hH=>?_;dsimp only[u2,u1,u3,u4,setMany,u5,u6,D.cells,Nat.reduceAdd,aA,aL,aK,aC] at hH;refine qe hK ?_;exact⟨⟨xn,c⟩,_,rfl,hH,iD,by show xn<_;omega⟩
       ·rw[if_neg h3] at iD;refine qq<|qj fun K hK=>qg ?_;refine qm ?_;refine qe hK<|zI (fun h4=>?_) fun h4=>?_
        ·rw[if_pos h4] at iD;obtain⟨_,Bs,hx0,hx1⟩:=(((wJ.resolve_left h7).resolve_left (by omega)).resolve_left (by omega)).resolve_right (by omega);obtain⟨xn,rfl⟩:=Int.eq_ofNat_of_zero_le hx0;refine qj fun K hK=>qp (o:=1) ?_;refine ql hH at1 ?_;refine qm ?_;refine qg ?_;refine qp (o:=2) ?_;refine ql hH at3 ?_;refine qp (o:=1) ?_;refine EvO.FX (m:=10) (s:=1) (i:=xn) (o:=1+xn) rfl (ev rfl) (ev rfl) rfl rfl (by omega) (by omega) (put_T rfl _) ?_;refine EvO.oB hH rfl (ev rfl) (ev rfl) rfl (by exact rfl) at0 (by show 1+xn+1≤11;omega) (.inl hF) (fun st hH=>?_);change Has _ _ _ (.box k8 (.mem 0 false (setMany (_::aC c) (1+xn) [.int .i64 (pl:Nat)]))::_) at hH;rw[CW (by omega)] at hH;refine qe hK ?_;exact⟨⟨pc+1,Av c xn (pl:Nat)⟩,_,rfl,hH,iD,Bs⟩
        ·rw[if_neg h4] at iD;refine qq<|qj fun K hK=>qg ?_;refine qm ?_;refine qe hK<|zI (fun h5=>?_) fun h5=>?_
         ·rw[if_pos h5] at iD;have Bs:pc+1<p.code.length:=by omega
          refine qq<|qj fun K hK=>qm ?_;refine qg ?_;refine qp (o:=2) ?_;refine ql hH at3 ?_;refine qg ?_;refine qe hK ?_
          by_cases ha:pl=0
          ·rw[if_pos ha] at iD;subst ha;refine EvC.cond (v:=false) (by dsimp only[Fr.ev,Fr.get,nth,V.look];rfl) (fun h=>by cases h) (fun _=>?_);refine EvC.skip ?_;exact⟨⟨pc+1,c⟩,_,rfl,hH,iD,Bs⟩
          ·rw[if_neg ha] at iD;subst iD;refine qD rfl (by simp;omega) ?_;refine qq<|qj fun K hK=>qm ?_;refine qe hK<|EvC.ret ⟨rx,_,_,_,rfl,rfl,?_⟩;exact⟨rfl,rd,pd,qd,P,Q,hH.drop 3,hok⟩
         ·rw[if_neg h5] at iD;have h6:op=6:=by omega
          have Bs:pc+1<p.code.length:=by omega
          refine qq<|qj fun K hK=>qg ?_;refine qm ?_;refine qe hK<|qD rfl (by simp[h6]) ?_;refine qq<|qj fun K hK=>qm ?_;refine qg ?_;refine qp (o:=2) ?_;refine ql hH at4 ?_;refine qg ?_;refine qe hK ?_
          cases e with
          |true=>
           rw[if_pos rfl] at iD;refine qC ?_;refine EvC.skip ?_;exact⟨⟨pc+1,c⟩,_,rfl,hH,iD,Bs⟩
          |false=>
           rw[if_neg (by decide)] at iD;subst iD;refine qB ?_;refine qq<|qj fun K hK=>qm ?_;refine qe hK<|EvC.ret ⟨rx,_,_,_,rfl,rfl,?_⟩;exact⟨rfl,rd,pd,qd,P,Q,hH.drop 3,hok⟩
   ·rintro fr st ⟨t',tmp,hfr,hH,Ri,KW⟩;rw[hfr];clear hfr;generalize bE fr=ee;clear fr;obtain⟨ON,c'⟩:=t';dsimp only[aL] at hH;refine qq<|qj fun K hK=>qm ?_;refine qm ?_;refine EvO.hloadS (m:=11) hH rfl (ev rfl) (by exact at0) (by dsimp only[List.drop_succ_cons,List.drop_zero,List.take_succ_cons,List.take_zero,aA,aL,aK,aC]<;>rfl) rfl rfl (put_T rfl _) ?_;have hH:=hH.drop 3;obtain⟨_,st,hev,rfl,hT⟩:=ih ⟨sn,w.dn,w.aJ,w.rdy⟩ ⟨ON,c'⟩ _ _ KW Bm Is Hz ⟨rd,pd,qd,P,Q,hH,hok⟩;refine qv hev ?_;refine qm ?_;refine qe hK<|EvC.ret ⟨rx,_,_,_,rfl,rfl,?_⟩;rw[Ri];exact⟨rfl,hT⟩
def bJ (fr:Go.V.Fr) (k:Nat):Go.V.D:=Go.V.nth .junk fr.loc k
structure VL where
 dn:Bool
 aJ:j6
 td:D
 aV:List dx
def dX (l:VL):List D:=aK l.dn l.aJ l.td
def j7 (l:VL):aN:=.lst l.td 11 (l.aV.map aL)
theorem Ae (A:List aN) {n:Nat} (hn:A.length=n) {L:List VL} {i:Nat} {l:VL} (h:L[i]?=some l) {H:List aN}:(A++(L.map j7++H))[n+i]?=some (j7 l):=by
 have hi:=lt_get h;rw[List.getElem?_append_right (by omega),List.getElem?_append_left (by simp;omega),hn,Nat.add_sub_cancel_left,List.getElem?_map,h];rfl
theorem vz {L:List VL} {i:Nat} {l:VL} (h:L[i]?=some l):(L.map dX)[i]?=some (dX l):=by rw[List.getElem?_map,h];rfl
theorem rK {l:List dx} {i:Nat} {q:dx} (h:l[i]?=some q):(l.map aL)[i]?=some (aL q):=by rw[List.getElem?_map,h];rfl
theorem oh {N:Nat} {S st:St} {H:List aN} {j:Nat} {x:D} {s:Nat} {es:List (List D)} (h:Has N S st H) (hj:H[j]?=some (.lst x s es)):x.ref≤st.bs.length:=by
 rcases Nat.eq_zero_or_pos x.ref with h0|h0
 ·omega
 ·have:=h.uz hj (k:=x.ref-1) (by show x.ref=x.ref-1+1;omega);omega
def MH (A:List aN) (N:Nat) (S st:St) (ks kv:Nat) (p:Pg) (pl:Nat) (ld:D) (L:List VL) (H:List aN):Prop:=
 ∃pd qd P Q sn,Has N S st (A++(.box kv (.mem 0 false [p.cd,p.sd,.int .i64 (pl:Nat),ld,.ptr ks 0 0])::.box ks (.mem 0 false [pd,qd])::.lst pd 1 (P.map eA)::.lst qd 2 (Q.map kY)::.lst ld 12 (L.map dX)::(L.map j7++H)))∧cj P Q sn∧sn.length=p.code.length
theorem MH.push (A B:List aN) {N:Nat} {S st:St} {ks kv:Nat} {p:Pg} {pl:Nat} {ld:D} {L:List VL} {H:List aN} (h:MH (A++B) N S st ks kv p pl ld L H):MH B N S st ks kv p pl ld L (A++H):=by
 obtain⟨pd,qd,P,Q,sn,hH,hok,fg⟩:=h;refine⟨pd,qd,P,Q,sn,?_,hok,fg⟩;have:=Has.g_ (H:=H) A (B++(.box kv (.mem 0 false [p.cd,p.sd,.int .i64 (pl:Nat),ld,.ptr ks 0 0])::.box ks (.mem 0 false [pd,qd])::.lst pd 1 (P.map eA)::.lst qd 2 (Q.map kY)::.lst ld 12 (L.map dX)::L.map j7)) (by simpa only[List.append_assoc,List.cons_append] using hH)
 simpa only[List.append_assoc,List.cons_append] using this
theorem MH.pull (A B:List aN) {N:Nat} {S st:St} {ks kv:Nat} {p:Pg} {pl:Nat} {ld:D} {L:List VL} {H:List aN} (h:MH B N S st ks kv p pl ld L (A++H)):MH (A++B) N S st ks kv p pl ld L H:=by
 obtain⟨pd,qd,P,Q,sn,hH,hok,fg⟩:=h;refine⟨pd,qd,P,Q,sn,?_,hok,fg⟩;have:=Has.g_ (H:=H) (B++(.box kv (.mem 0 false [p.cd,p.sd,.int .i64 (pl:Nat),ld,.ptr ks 0 0])::.box ks (.mem 0 false [pd,qd])::.lst pd 1 (P.map eA)::.lst qd 2 (Q.map kY)::.lst ld 12 (L.map dX)::L.map j7)) A (by simpa only[List.append_assoc,List.cons_append] using hH)
 simpa only[List.append_assoc,List.cons_append] using this
def mF (code:List az) (pl:Nat) (e:Bool):List dx→Wk→Wk
 |[],w=>w
 |t::ts,w=>if(bN code pl e (code.length+1) w t).2=true then(bN code pl e (code.length+1) w t).1 else mF code pl e ts (bN code pl e (code.length+1) w t).1
def lb (n:Nat) (dn:Bool) (aJ:j6):Wk:=⟨List.replicate n false,dn,aJ,[]⟩
theorem oP (code:List az) (pl:Nat) (e:Bool):∀(l:List dx) (w:Wk),Good code w (mF code pl e l w)
 |[],w=>.refl
 |t::ts,w=>by
  unfold mF
  split
  ·exact bZ ..
  ·exact(bZ ..).trans (oP code pl e ts _)
theorem rf {N ks kv:Nat} {S s0:St} {H:List aN} {p:Pg} {pl:Nat} {ld:D} {L:List VL} {i:Nat} {l:VL} {e:Bool} (hF:S.flr≤N) (hp:p.ok) (hR:aR p) (hpl:pl≤4000000000000) (hl:L[i]?=some l) (vt:∀t∈l.aV,t.pc<p.code.length) (mJ:l.aV.length≤1048576) (hM:MH [] N S s0 ks kv p pl ld L H):
  ∃r ae,Ev pv 68 [.ptr kv 0 0,.int .i64 (i:Nat),.bool e] s0 r ae∧∃rd,r=.tup [.agg (aK (mF p.code pl e l.aV (lb p.code.length l.dn l.aJ)).dn (mF p.code pl e l.aV (lb p.code.length l.dn l.aJ)).aJ .nul),rd]∧MH [.lst rd 11 ((mF p.code pl e l.aV (lb p.code.length l.dn l.aJ)).rdy.map aL)] N S ae ks kv p pl ld L H:=by
 obtain⟨pd,qd,P,Q,sn,hH,hok,fg⟩:=hM;have hcl:=hR.cl;have hr1:=vz hl;have hil:=lt_get hl;generalize hW:mF p.code pl e l.aV (lb p.code.length l.dn l.aJ)=W at*;obtain⟨dn,aJ,td,aV⟩:=l;simp only at hW vt mJ;dsimp only[u4] at hH;refine Ev.iB rfl Mn rfl rfl rfl ?_;refine zE ?_;change EvC _ _ _ _ s0 _;refine qq<|qj fun K hK=>qa hH fun k6 st DP hH=>?_;refine qm ?_;refine qe hK<|qq<|qj fun K hK=>qm ?_;refine qg ?_;refine qp (o:=3) ?_;refine ql hH at1 ?_;refine qm ?_;refine qi hH at5 fun Np HG=>?_;refine EvO.r_ hH rfl (ev rfl) (by assumption) (by exact at5) (by assumption) rfl (by dsimp only[Fr.put,u1,u2]<;>rfl) ?_;refine qa hH fun k8 st hk8 hH=>?_;refine qS hH at0 fun st hH=>?_;dsimp only[u2,u1,u3,u4,setMany,u5,u6,D.cells,Nat.reduceAdd,aA,aL,aK,aC,dX] at hH;refine qe hK<|qq<|qj fun K hK=>qp (o:=0) ?_;refine ql hH at0 ?_;refine qp (o:=1) ?_;refine EvO.hloadS (m:=10) hH rfl (ev rfl) (by exact at0) (by dsimp only[List.drop_succ_cons,List.drop_zero,List.take_succ_cons,List.take_zero,aA,aL,aK,aC,dX]<;>rfl) rfl rfl (by dsimp only[Fr.put,u1,u2]<;>rfl) ?_;refine EvO.go (d:=.agg (aK dn aJ .nul)) (st1:=_) rfl rfl rfl (by dsimp only[Fr.put,u1,u2]<;>rfl) ?_;refine qa hH fun k9 st Qn hH=>?_;refine qS hH at0 fun st hH=>?_;dsimp only[u2,u1,u3,u4,setMany,u5,u6,D.cells,Nat.reduceAdd,aA,aL,aK,aC,dX] at hH;refine qe hK<|qq<|qj fun K hK=>qm ?_;refine EvO.eI (qs:=[(0,_),(2,_)]) rfl rfl rfl rfl ⟨rfl,(ev rfl),(by rfl),rfl,(ev rfl),(by rfl),trivial⟩ (by intro q hq;simp only[List.mem_cons,List.not_mem_nil,or_false] at hq;rcases hq with rfl|rfl<;>exact⟨rfl,by exact Nat.le_of_ble_eq_true rfl⟩) (by show List.foldl _ [_,_,_] _=_;dsimp only[List.foldl_cons,List.foldl_nil,u2,u1]<;>rfl) (by dsimp only[Fr.put,u1,u2]<;>rfl) ?_;refine qb hH fun k27 st QF hH=>?_;refine qm ?_;refine qe hK ?_;have bM:=hH;refine qq<|qj fun K hK=>qm ?_;refine qg ?_;refine qp (o:=4) ?_;refine ql hH at4 ?_;obtain⟨_,st,hev,rfl,pd,qd,P,Q,hH,hok⟩:=me [_,_,_,_,_] hF hok hH;dsimp only[u3,u4] at hH;refine qv hev ?_;refine qe hK ?_;clear bM;rw[fg] at hok;have hH:=Has.g_ [_,_,_,_] [_] hH;have hH:=Has.g_ [_,_,_,_,_] [_,_,_] hH;have hH:=Has.g_ [_,_,_] [_,_,_] hH;have hH:=Has.g_ [_] [_,_,_] (hH.nulE 11);dsimp only[u3,u4] at hH;have KK:=hH.rows (Ae [_,_,_,_,_,_,_,_,_,_] rfl hl);have NV:=oP p.code pl e aV (lb p.code.length dn aJ);refine qq<|qq<|qj fun K hK=>qp (o:=11) ?_;refine ql hH at7 ?_;refine EvO.rlen rfl (ev rfl) KK rfl (by dsimp only[Fr.put,u1,u2]<;>rfl) ?_;simp only[List.length_map];refine qm ?_;refine qe hK<|EvC.block<|EvC.loop (fun mm fr st=>∃(j:Nat) (w:Wk) (rest:List dx) (rd pd qd:D) (P Q:List Nat),fr.clean=⟨37,[.ptr kv 0 0,.int .i64 (i:Nat),.bool e,bJ fr 3,bJ fr 4,bJ fr 5,.ptr k6 0 0,.nul,.ptr k8 0 0,.ptr k9 0 0,.ptr k27 0 0,bJ fr 11,bJ fr 12,bJ fr 13,bJ fr 14,bJ fr 15,bJ fr 16,bJ fr 17,bJ fr 18,bJ fr 19,bJ fr 20,bJ fr 21,bJ fr 22,bJ fr 23,bJ fr 24,bJ fr 25,bJ fr 26,bJ fr 27,bJ fr 28,bJ fr 29,bJ fr 30,bJ fr 31,bJ fr 32,bJ fr 33,td,.int .i64 (aV.length:Nat),.int .i64 (j:Nat)],[]⟩∧Has N S st (.box kv (.mem 0 false [p.cd,p.sd,.int .i64 (pl:Nat),ld,.ptr ks 0 0])::.box k27 (.mem 0 false [.ptr k9 0 0,rd,.bool e])::.box k9 (.mem 0 false (aK w.dn w.aJ .nul))::.lst rd 11 (w.rdy.map aL)::.box ks (.mem 0 false [pd,qd])::.lst pd 1 (P.map eA)::.lst qd 2 (Q.map kY)::.box k8 (.mem 0 false (aK dn aJ td))::.box k6 (.mem 0 false (aK false nu .nul))::.lst ld 12 (L.map dX)::(L.map j7++H))∧(j+mm=aV.length)∧(rest=aV.drop j)∧(mF p.code pl e rest w=W)∧(w.seen.length=p.code.length)∧(w.rdy.length+w.seen.count false≤1048576)∧(cj P Q w.seen)) (aV.length) ?_ ?_
 ·exact⟨0,lb p.code.length dn aJ,aV,.nul,_,_,_,_,rfl,hH,by omega,rfl,hW,by simp[lb],by(have:=List.count_le_length (a:=false) (l:=(lb p.code.length dn aJ).seen);simp[lb] at this⊢;omega),hok⟩
 rintro mm fr st ⟨j,w,rest,rd,pd,qd,P,Q,hfr,hH,hj,kB,hex,il,px,hok⟩;rw[hfr];clear hfr;generalize bJ fr=ee;clear fr;refine qq<|qj fun K hK=>qg ?_;refine qe hK ?_;have KK:=hH.rows (Ae [_,_,_,_,_,_,_,_,_,_] rfl hl);refine qq<|zP (fun hlt=>?_) fun hlt=>?_
 ·refine EvC.skip ?_;have iK:j<aV.length:=by omega
  obtain⟨t,ht⟩:∃t,aV[j]?=some t:=⟨aV[j]'iK,List.getElem?_eq_getElem _⟩
  have Hx:=rK ht;have KB:=vt t (List.mem_of_getElem? ht)
  have wG:rest=t::aV.drop (j+1):=by
   rw[kB,List.drop_eq_getElem_cons iK]
   congr 1
   exact Option.some.inj ((List.getElem?_eq_getElem _).symm.trans ht)
  have BI:=List.count_le_length (a:=false) (l:=w.seen);have hgo:=bZ p.code pl e (p.code.length+1) w t;rw[wG] at hex;have hex:(if(bN p.code pl e (p.code.length+1) w t).2=true then(bN p.code pl e (p.code.length+1) w t).1 else mF p.code pl e (aV.drop (j+1)) (bN p.code pl e (p.code.length+1) w t).1)=W:=hex;refine qq<|EvC.block<|qq<|qj fun K hK=>EvO.ridx rfl (ev rfl) (ev rfl) KK rfl rfl Hx (fun _=>(put_T rfl _)) (fun OY K8=>?_);refine qR ?_;refine qa hH fun k12 st QL hH=>?_;dsimp only[u2,u1,u3,u4,setMany,u5,u6,D.cells,Nat.reduceAdd,aA,aL,aK,aC,dX] at hH;refine qS hH at0 fun st hH=>?_;dsimp only[u2,u1,u3,u4,setMany,u5,u6,D.cells,Nat.reduceAdd,aA,aL,aK,aC,dX] at hH;refine qe hK<|qq<|qj fun K hK=>qm ?_;refine qm ?_;refine EvO.hloadS (m:=11) hH rfl (ev rfl) (by exact at0) (by dsimp only[List.drop_succ_cons,List.drop_zero,List.take_succ_cons,List.take_zero,aA,aL,aK,aC,dX]<;>rfl) rfl rfl (put_T rfl _) ?_;have hH:=hH.drop 1;obtain⟨_,st,hev,rfl,hT⟩:=Eh (ks:=ks) (kv:=kv) (kw:=k27) (kl:=k9) (S:=S) (H:=H) (ld:=ld) (e:=e) hF hp hR hpl (p.code.length+1) w t _ _ KB il (by omega) px ⟨rd,pd,qd,P,Q,hH,hok⟩;refine qv hev ?_;refine qe hK ?_;generalize bN p.code pl e (p.code.length+1) w t=R1 at*;obtain⟨w1,b1⟩:=R1;obtain⟨hD,bU,hg3,hg4⟩:=hgo;simp only at hD bU hg3 hg4 hT hex;obtain⟨rd,pd,qd,P,Q,hH,hok⟩:=hT;have Bm:w1.seen.length=p.code.length:=hD.trans il
  cases b1 with
  |true=>
   rw[if_pos rfl] at hex;subst hex;refine qB ?_;refine EvC.exit ?_;have hH:=Has.g_ [_,_,_,_,_,_,_] [_,_] hH;dsimp only[u3,u4] at hH;have vw:=hH;have HB:=oh hH at5;have HA:=hH.uz at4 (k:=k9) rfl;change EvC _ _ _ _ _ _;refine qq ?_;generalize hK:SeqQ _ _ _ _=K;refine EvC.yV rfl ?_;refine cM.cons ?_;refine EvO.hloadS (m:=12) hH rfl (ev rfl) (by exact at4) (by dsimp only[List.drop_succ_cons,List.drop_zero,List.take_succ_cons,List.take_zero,aA,aL,aK,aC,dX]<;>rfl) rfl rfl (put_T rfl _) ?_;refine EvO.nil ⟨rfl,?_⟩;refine cM.cons ?_;refine qm ?_;refine EvO.nil ⟨rfl,?_⟩;refine cM.cons ?_;refine qg ?_;refine EvO.nil ⟨rfl,?_⟩;refine cM.cons ?_;refine qp (o:=1) ?_;refine EvO.nil ⟨rfl,?_⟩;refine cM.cons ?_;refine ql hH at3 ?_;refine EvO.nil ⟨rfl,?_⟩;refine cM.cons ?_;refine qS hH at1 fun st hH=>?_;dsimp only[u2,u1,u3,u4,setMany,u5,u6,D.cells,Nat.reduceAdd,aA,aL,aK,aC,dX] at hH;refine EvO.nil ⟨by exact Bool.and_eq_true_iff.2 ⟨gV rfl rfl rfl (vw.at at3) (hH.at at3) (vw.at at3) (by simp only[refs,D.ref];omega),rfl⟩,?_⟩;refine cM.cons ?_;refine qm ?_;refine EvO.nil ⟨rfl,?_⟩;refine cM.nil ?_;subst hK;refine EvC.ret ⟨rx,_,_,_,hH.nL rfl at1 rfl rfl,rfl,rd,rfl,pd,qd,P,Q,_,?_,hok,Bm⟩;exact((Has.g_ [_,_,_] [_] (hH.drop 2)).erase 2).erase 2
  |false=>
   rw[if_neg (by decide)] at hex;refine qC ?_;refine EvC.skip<|qj fun K hK=>qA ?_;refine qm ?_;refine qe hK ?_;exact⟨mm-1,by omega,⟨j+1,w1,aV.drop (j+1),rd,pd,qd,P,Q,rfl,hH,by omega,rfl,hex,Bm,by omega,hok⟩⟩
 ·refine EvC.exit ?_;have Bw:rest=[]:=by rw[kB,List.drop_eq_nil_iff];omega
  subst Bw;have hex:w=W:=hex;subst hex;have hH:=Has.g_ [_,_,_,_,_,_,_] [_,_] hH;dsimp only[u3,u4] at hH;have vw:=hH;have HB:=oh hH at5;have HA:=hH.uz at4 (k:=k9) rfl;change EvC _ _ _ _ _ _;refine qq ?_;generalize hK:SeqQ _ _ _ _=K;refine EvC.yV rfl ?_;refine cM.cons ?_;refine EvO.hloadS (m:=12) hH rfl (ev rfl) (by exact at4) (by dsimp only[List.drop_succ_cons,List.drop_zero,List.take_succ_cons,List.take_zero,aA,aL,aK,aC,dX]<;>rfl) rfl rfl (put_T rfl _) ?_;refine EvO.nil ⟨rfl,?_⟩;refine cM.cons ?_;refine qm ?_;refine EvO.nil ⟨rfl,?_⟩;refine cM.cons ?_;refine qg ?_;refine EvO.nil ⟨rfl,?_⟩;refine cM.cons ?_;refine qp (o:=1) ?_;refine EvO.nil ⟨rfl,?_⟩;refine cM.cons ?_;refine ql hH at3 ?_;refine EvO.nil ⟨rfl,?_⟩;refine cM.cons ?_;refine qS hH at1 fun st hH=>?_;dsimp only[u2,u1,u3,u4,setMany,u5,u6,D.cells,Nat.reduceAdd,aA,aL,aK,aC,dX] at hH;refine EvO.nil ⟨by exact Bool.and_eq_true_iff.2 ⟨gV rfl rfl rfl (vw.at at3) (hH.at at3) (vw.at at3) (by simp only[refs,D.ref];omega),rfl⟩,?_⟩;refine cM.cons ?_;refine qm ?_;refine EvO.nil ⟨rfl,?_⟩;refine cM.nil ?_;subst hK;refine EvC.ret ⟨rx,_,_,_,hH.nL rfl at1 rfl rfl,rfl,rd,rfl,pd,qd,P,Q,_,?_,hok,il⟩;exact((Has.g_ [_,_,_] [_] (hH.drop 2)).erase 2).erase 2
def aU (fr:Go.V.Fr) (k:Nat):Go.V.D:=Go.V.nth .junk fr.loc k
def gz (l:List dx) (k:Nat):Bool:=l.any fun x=>x.pc==k
def l7 (l:List dx) (t:dx):List dx:=if gz l t.pc=true then l else l++[t]
def yP (code:List az) (pc:Nat):List Rg:=match code[pc]? with
 |some i=>i.rs
 |none=>[]
def ej (code:List az) (r:Int):List dx→List dx→List dx
 |[],a=>a
 |t::ts,a=>ej code r ts (if j0 (yP code t.pc) r=true then l7 a ⟨t.pc+1,t.c⟩ else a)
structure PL where
 dn:Bool
 aJ:j6
 aV:List dx
def dA (code:List az) (pl start:Nat) (r:Int) (l:PL):PL:=
 ⟨(mF code pl false l.aV (lb code.length l.dn l.aJ)).dn,(mF code pl false l.aV (lb code.length l.dn l.aJ)).aJ,
  if(mF code pl false l.aV (lb code.length l.dn l.aJ)).dn=true then ej code r (mF code pl false l.aV (lb code.length l.dn l.aJ)).rdy []
  else l7 (ej code r (mF code pl false l.aV (lb code.length l.dn l.aJ)).rdy []) ⟨start,bj⟩⟩
theorem wL (l:List dx) (t:dx) (k:Nat):gz (l++[t]) k=(gz l k||t.pc==k):=by
 unfold gz;rw[List.any_append];simp
theorem vh (l:List dx) (t:dx):(l7 l t).length≤l.length+1:=by
 unfold l7;split
 ·omega
 ·simp
theorem o_ {l:List dx} {t x:dx} (h:x∈l7 l t):x∈l∨x=t:=by
 unfold l7 at h;split at h
 ·exact .inl h
 ·rcases List.mem_append.1 h with h|h
  ·exact .inl h
  ·exact .inr (by simpa using h)
theorem nY {code:List az} {r:Int}:∀(l a:List dx),(ej code r l a).length≤l.length+a.length∧∀x∈ej code r l a,x∈a∨∃t∈l,x.pc=t.pc+1
 |[],a=>⟨by simp[ej],fun x h=>.inl h⟩
 |t::ts,a=>by
  unfold ej
  split
  ·obtain⟨h1,h2⟩:=nY (code:=code) (r:=r) ts (l7 a ⟨t.pc+1,t.c⟩);have:=vh a ⟨t.pc+1,t.c⟩;refine⟨by simp only[List.length_cons];omega,fun x hx=>?_⟩
   rcases h2 x hx with h|⟨y,hy,he⟩
   ·rcases o_ h with h|h
    ·exact .inl h
    ·exact .inr ⟨t,List.mem_cons_self ..,by rw[h]⟩
   ·exact .inr ⟨y,List.mem_cons_of_mem _ hy,he⟩
  ·obtain⟨h1,h2⟩:=nY (code:=code) (r:=r) ts a;refine⟨by simp only[List.length_cons];omega,fun x hx=>?_⟩
   rcases h2 x hx with h|⟨y,hy,he⟩
   ·exact .inl h
   ·exact .inr ⟨y,List.mem_cons_of_mem _ hy,he⟩
def PL.ok (n:Nat) (l:PL):Prop:=(∀t∈l.aV,t.pc<n)∧l.aV.length≤1000
theorem pG {code:List az} {pl:Nat} {e:Bool} {l:List dx} {dn:Bool} {aJ:j6}:(mF code pl e l (lb code.length dn aJ)).rdy.length≤code.length∧∀t∈(mF code pl e l (lb code.length dn aJ)).rdy,∃i,code[t.pc]?=some i∧i.op=1:=by
 obtain⟨_,_,h3,h4⟩:=oP code pl e l (lb code.length dn aJ);have:=List.count_le_length (a:=false) (l:=(lb code.length dn aJ).seen);simp only[lb,List.length_replicate,List.length_nil] at h3 this;refine⟨by simp only[lb];omega,fun t ht=>?_⟩
 rcases h4 t ht with h|h
 ·simp[lb] at h
 ·exact h
theorem tO {p:Pg} (hR:aR p) {t:dx} (h:∃i,p.code[t.pc]?=some i∧i.op=1):t.pc+1<p.code.length:=by
 obtain⟨i,hi,h1⟩:=h;have:=ke (hR.sh t.pc i hi);omega
theorem An {p:Pg} (hR:aR p) {pl start:Nat} {r:Int} {l:PL} (hs:start<p.code.length):(dA p.code pl start r l).ok p.code.length:=by
 obtain⟨h1,h2⟩:=pG (code:=p.code) (pl:=pl) (e:=false) (l:=l.aV) (dn:=l.dn) (aJ:=l.aJ);have hcl:=hR.cl;unfold dA PL.ok;generalize mF p.code pl false l.aV (lb p.code.length l.dn l.aJ)=w at*;obtain⟨h3,h4⟩:=nY (code:=p.code) (r:=r) w.rdy []
 have h5:∀x∈ej p.code r w.rdy [],x.pc<p.code.length:=fun x hx=>by
  rcases h4 x hx with h|⟨t,ht,he⟩
  ·cases h
  ·have:=tO hR (h2 t ht);omega
 simp only[List.length_nil] at h3;simp only
 split
 ·exact⟨h5,by omega⟩
 ·refine⟨fun x hx=>?_,?_⟩
  ·rcases o_ hx with h|h
   ·exact h5 x h
   ·rw[h];exact hs
  ·have:=vh (ej p.code r w.rdy []) ⟨start,bj⟩;omega
theorem Am (gb:∀st,Ev pv 63 [] st (.agg (aC bj)) st) {N ks kv:Nat} {S s0:St} {H:List aN} {p:Pg} {pl:Nat} {ld:D} {L:List VL} {i start:Nat} {l:VL} {r:Int} (hF:S.flr≤N) (hp:p.ok) (hR:aR p) (hpl:pl≤4000000000000) (hl:L[i]?=some l) (Fj:p.aq[i]?=some ((start:Nat):Int)) (vt:(⟨l.dn,l.aJ,l.aV⟩:PL).ok p.code.length) (hM:MH [] N S s0 ks kv p pl ld L H):
  ∃d ae,Ev pv 66 [.ptr kv 0 0,.int .i64 (i:Nat),.int .i32 r] s0 d ae∧∃td,d=.agg (aK (dA p.code pl start r ⟨l.dn,l.aJ,l.aV⟩).dn (dA p.code pl start r ⟨l.dn,l.aJ,l.aV⟩).aJ td)∧MH [.lst td 11 ((dA p.code pl start r ⟨l.dn,l.aJ,l.aV⟩).aV.map aL)] N S ae ks kv p pl ld L H:=by
 have hcl:=hR.cl;have hc:=hp.c.arg N S;have hs:=hp.s.arg N S;have hlen:=hp.cl;have Fe:start<p.code.length:=by have:=(hR.st _ (List.mem_of_getElem? Fj)).2;omega
 have JB:=dI Fj;obtain⟨Hq,KC⟩:=vt;simp only at Hq KC;obtain⟨hb1,hb2⟩:=pG (code:=p.code) (pl:=pl) (e:=false) (l:=l.aV) (dn:=l.dn) (aJ:=l.aJ);obtain⟨pd,qd,P,Q,sn,hH,hok,fg⟩:=hM;dsimp only[u4] at hH;unfold dA;simp only;refine Ev.iB rfl Mo rfl rfl rfl ?_;refine zE ?_;change EvC _ _ _ _ s0 _;refine zQ 2 ?_;refine qa hH fun k6 st DP hH=>?_;refine zQ 1 ?_;obtain⟨_,st1,hev,rd,rfl,hM⟩:=rf (e:=false) hF hp hR hpl hl Hq (by omega) (MH.push [_] [] ⟨pd,qd,P,Q,sn,hH,hok,fg⟩);clear hok fg;have hM:=MH.pull [_] [_] hM;generalize mF p.code pl false l.aV (lb p.code.length l.dn l.aJ)=W at*;obtain⟨pd,qd,P,Q,sn,F3,hok,fg⟩:=hM;dsimp only[u3,u4] at F3;refine zQ 4 ?_;have hH:=F3;refine qv hev ?_;refine zQ 3 ?_;refine qa hH fun k7 st Ln hH=>?_;refine qS hH at0 fun st hH=>?_;dsimp only[u2,u1,u3,u4,setMany,u5,u6,D.cells,Nat.reduceAdd,aA,aL,aK,aC,dX] at hH;refine zQ 2 ?_;clear F3;refine zQ 6 ?_;obtain⟨_,st,hev,rfl,pd,qd,P,Q,hH,hok⟩:=me [_,_,_,_] hF hok hH;dsimp only[u3,u4] at hH;refine qv hev ?_;refine zQ 1 ?_;rw[fg] at hok;refine zQ 4 ?_;refine qn ?_ (hR:=hH.rows at2);simp only[List.length_map];refine zQ 2 ?_;have hH:=Has.g_ [_] [_] (hH.nulE 11);dsimp only[u3,u4] at hH
 obtain⟨A,hA⟩:∃A,ej p.code r W.rdy []=A:=⟨_,rfl⟩
 rw[hA];refine zQ 1 ?_;refine EvC.loop (fun mm fr st=>∃(j:Nat) (acc rest:List dx) (td pd qd:D) (P Q:List Nat) (sn:List Bool),fr.clean=⟨25,[.ptr kv 0 0,.int .i64 (i:Nat),.int .i32 r,aU fr 3,aU fr 4,aU fr 5,.ptr k6 0 0,.ptr k7 0 0,rd,aU fr 9,aU fr 10,aU fr 11,aU fr 12,aU fr 13,aU fr 14,aU fr 15,aU fr 16,aU fr 17,aU fr 18,aU fr 19,aU fr 20,aU fr 21,rd,.int .i64 (W.rdy.length:Nat),.int .i64 (j:Nat)],[]⟩∧Has N S st (.box k7 (.mem 0 false (aK W.dn W.aJ td))::.lst td 11 (acc.map aL)::.box k6 (.mem 0 false (aK false nu .nul))::.lst rd 11 (W.rdy.map aL)::.box kv (.mem 0 false [p.cd,p.sd,.int .i64 (pl:Nat),ld,.ptr ks 0 0])::.box ks (.mem 0 false [pd,qd])::.lst pd 1 (P.map eA)::.lst qd 2 (Q.map kY)::.lst ld 12 (L.map dX)::(L.map j7++H))∧(j+mm=W.rdy.length)∧(rest=W.rdy.drop j)∧(ej p.code r rest acc=A)∧(acc.length≤j)∧(cj P Q sn)∧(sn.length=p.code.length)∧(∀k,k<p.code.length→sn[k]?=some (gz acc k))) (W.rdy.length) ?_ ?_
 ·refine⟨0,[],W.rdy,.nul,_,_,_,_,_,rfl,hH,by omega,rfl,hA,by simp,hok,by simp,(fun k hk=>by rw[List.getElem?_replicate,if_pos hk];rfl)⟩
 rintro mm fr st ⟨j,acc,rest,td,pd,qd,P,Q,sn,hfr,hH,hj,kB,hex,hal,hok,fg,te⟩;rw[hfr];clear hfr;generalize aU fr=ee;clear fr;refine zQ 5 ?_;refine zP (fun hlt=>?_) fun hlt=>?_
 ·refine zQ 1 ?_;have iK:j<W.rdy.length:=by omega
  obtain⟨t,ht⟩:∃t,W.rdy[j]?=some t:=⟨W.rdy[j]'iK,List.getElem?_eq_getElem _⟩
  have Hx:=rK ht;obtain⟨ii,hii,NU⟩:=hb2 t (List.mem_of_getElem? ht);have Fc:=tO hR ⟨ii,hii,NU⟩;have mN:=ft hii;have Ib:=hp.i ii (List.mem_of_getElem? hii);have Fo:=Ib.1;have Fp:=Fo.arg N S;have PA:=Ib.2
  have wG:rest=t::W.rdy.drop (j+1):=by
   rw[kB,List.drop_eq_getElem_cons iK]
   congr 1
   exact Option.some.inj ((List.getElem?_eq_getElem _).symm.trans ht)
  rw[wG] at hex;have KL:yP p.code t.pc=ii.rs:=by unfold yP;rw[hii]
  unfold ej at hex;rw[KL] at hex;have KV:gz acc (t.pc+1)=gz acc (t.pc+1):=rfl;generalize LW:gz acc (t.pc+1)=bq at KV;have Dx:=te (t.pc+1) Fc;rw[LW] at Dx;refine zQ 4 ?_;refine qi hH at3 fun O2 La=>?_;refine EvO.r_ hH rfl (ev rfl) (by assumption) (by exact at3) (by assumption) rfl (put_T rfl _) ?_;refine qa hH fun k10 st QM hH=>?_;dsimp only[u2,u1,u3,u4,setMany,u5,u6,D.cells,Nat.reduceAdd,aA,aL,aK,aC,dX] at hH;refine qS hH at0 fun st hH=>?_;dsimp only[u2,u1,u3,u4,setMany,u5,u6,D.cells,Nat.reduceAdd,aA,aL,aK,aC,dX] at hH;refine zQ 1 ?_
  cases oG:j0 ii.rs r with
  |false=>
   rw[oG,if_neg (by decide)] at hex;refine zQ 9 ?_;refine qr fun Jv DE=>?_;refine qf (fo:=3) fun J1 Fu=>?_;refine zQ 2 ?_;refine qv (BO (Fp.rows hH) (by omega)) ?_;refine zQ 17 ?_;exact⟨mm-1,by omega,⟨j+1,acc,W.rdy.drop (j+1),td,pd,qd,P,Q,sn,rfl,(hH.drop 1),by omega,rfl,hex,by omega,hok,fg,te⟩⟩
  |true=>
   rw[oG,if_pos rfl] at hex;have hex:ej p.code r (W.rdy.drop (j+1)) (if gz acc (t.pc+1)=true then acc else acc++[⟨t.pc+1,t.c⟩])=A:=hex;rw[LW] at hex;have mJ:t.pc+1<sn.length:=by omega
   refine zQ 9 ?_;refine qr fun Jv DE=>?_;refine qf (fo:=3) fun J1 Fu=>?_;refine zQ 2 ?_;refine qv (BO (Fp.rows hH) (by omega)) ?_;refine zQ 8 ?_;obtain⟨_,st,hev,rfl,pd,qd,P,Q,hH,hok⟩:=lp [_,_,_,_,_,_] hF Dx hok hH;dsimp only[u3,u4] at hH;refine qv hev ?_ (hg:=wi oG);refine zQ 2 ?_
   cases bq with
   |true=>
    rw[if_pos rfl] at hex;refine zQ 6 ?_;refine⟨mm-1,by omega,⟨j+1,acc,W.rdy.drop (j+1),td,pd,qd,P,Q,sn.set (t.pc+1) true,rfl,(hH.drop 1),by omega,rfl,hex,by omega,hok,by rw[List.length_set];exact fg,?_⟩⟩;intro k hk
    by_cases hkk:k=t.pc+1
    ·subst hkk;rw[List.getElem?_set_self mJ,LW]
    ·rw[List.getElem?_set_ne (fun e=>hkk e.symm)];exact te k hk
   |false=>
    rw[if_neg (by decide)] at hex;refine zQ 7 ?_;refine qT hH at0 fun st hH=>?_;dsimp only[u2,u1,u3,u4,setMany,u5,u6,D.cells,Nat.reduceAdd,aA,aL,aK,aC,dX] at hH;refine zQ 4 ?_;refine EvO.hloadS (m:=11) hH rfl (ev rfl) (by exact at0) (by dsimp only[List.drop_succ_cons,List.drop_zero,List.take_succ_cons,List.take_zero,aA,aL,aK,aC,dX]<;>rfl) rfl rfl (put_T rfl _) ?_;refine qh (s:=11) (vs:=[_]) hH fun k57 st Qv hH=>?_;refine EvO.happend (s:=11) hH rfl (ev rfl) (ev rfl) (by exact at3) (by exact hH.rows (by exact at0)) rfl rfl rfl rfl rfl rfl rfl ⟨(Nat.le_of_ble_eq_true rfl),(Nat.le_of_ble_eq_true rfl)⟩ (fun _=>(put_T rfl _)) (by simp only[List.length_cons,List.length_nil,List.length_map]<;>omega) (by exact .inl hF) (fun Ot st hH=>?_);dsimp only[u2,u1,u3,u4,setMany,u5,u6,D.cells,Nat.reduceAdd,aA,aL,aK,aC,dX] at hH;refine zQ 1 ?_;refine qT hH at2 (fun st hH=>?_) (gy:=hH.ocells at3);dsimp only[u2,u1,u3,u4,setMany,u5,u6,D.cells,Nat.reduceAdd,aA,aL,aK,aC,dX] at hH;refine zQ 5 ?_;refine⟨mm-1,by omega,⟨j+1,acc++[⟨t.pc+1,t.c⟩],W.rdy.drop (j+1),Ot,pd,qd,P,Q,sn.set (t.pc+1) true,rfl,(by rw[List.map_append];exact hH.drop 2),by omega,rfl,hex,by simp;omega,hok,by rw[List.length_set];exact fg,?_⟩⟩;intro k hk;rw[wL]
    by_cases hkk:k=t.pc+1
    ·subst hkk;rw[List.getElem?_set_self mJ];simp
    ·rw[List.getElem?_set_ne (fun e=>hkk e.symm),te k hk];have:(t.pc+1==k)=false:=by rw[beq_eq_false_iff_ne];omega
     simp only[this,Bool.or_false]
 ·refine zQ 1 ?_;have Bw:rest=[]:=by rw[kB,List.drop_eq_nil_iff];omega
  subst Bw;have hex:acc=A:=hex;subst hex;clear hA kB;have Dx:=te start Fe;refine zQ 2 ?_;refine EvC.iV (fun fr st=>∃(aV:List dx) (td pd qd:D) (P Q:List Nat) (sn:List Bool) (tmp:List (Nat×D)),fr=⟨25,[aU fr 0,aU fr 1,aU fr 2,aU fr 3,aU fr 4,aU fr 5,.ptr k6 0 0,.ptr k7 0 0,aU fr 8,aU fr 9,aU fr 10,aU fr 11,aU fr 12,aU fr 13,aU fr 14,aU fr 15,aU fr 16,aU fr 17,aU fr 18,aU fr 19,aU fr 20,aU fr 21,aU fr 22,aU fr 23,aU fr 24],tmp⟩∧Has N S st (.box k7 (.mem 0 false (aK W.dn W.aJ td))::.lst td 11 (aV.map aL)::.box k6 (.mem 0 false (aK false nu .nul))::.lst rd 11 (W.rdy.map aL)::.box kv (.mem 0 false [p.cd,p.sd,.int .i64 (pl:Nat),ld,.ptr ks 0 0])::.box ks (.mem 0 false [pd,qd])::.lst pd 1 (P.map eA)::.lst qd 2 (Q.map kY)::.lst ld 12 (L.map dX)::(L.map j7++H))∧(aV=(if W.dn=true then acc else l7 acc ⟨start,bj⟩))∧(cj P Q sn)∧(sn.length=p.code.length)) ?_ ?_
  ·cases NZ:W.dn with
   |true=>
    rw[NZ] at hH;have hg3:(!true)=false:=rfl;refine zQ 22 ?_;exact⟨acc,td,pd,qd,P,Q,sn,_,rfl,hH,rfl,hok,fg⟩
   |false=>
    rw[NZ] at hH;have hg3:(!false)=true:=rfl;refine zQ 15 ?_;refine qr (fun Sg PO=>?_) (hg:=wi hg3);refine zQ 1 ?_;obtain⟨_,st,hev,rfl,pd,qd,P,Q,hH,hok⟩:=lp [_,_,_,_,_] hF Dx hok hH;dsimp only[u3,u4] at hH;refine qv hev ?_ (hg:=wi hg3);refine zQ 2 ?_
    by_cases Et:gz acc start=true
    ·refine qE rfl (by rw[Et];rfl) ?_;refine zQ 1 ?_;exact⟨acc,td,pd,qd,P,Q,sn.set start true,_,rfl,hH,by unfold l7;rw[if_neg (by decide),if_pos Et],hok,by rw[List.length_set];exact fg⟩
    ·refine qD rfl (by rw[Bool.eq_false_iff.2 Et];rfl) ?_;refine zQ 9 ?_;refine qr fun Sb PI=>?_;refine qR ?_;refine qv (gb _) ?_;refine EvO.go (d:=.agg (aL ⟨start,bj⟩)) (st1:=_) rfl rfl rfl (put_T rfl _) ?_;refine qh (s:=11) (vs:=[_]) hH fun k91 st Qm hH=>?_;dsimp only[u2,u1,u3,u4,setMany,u5,u6,D.cells,Nat.reduceAdd,aA,aL,aK,aC,dX] at hH;refine EvO.happend (s:=11) hH rfl (ev rfl) (ev rfl) (by exact at2) (by exact hH.rows (by exact at0)) rfl rfl rfl rfl rfl rfl rfl ⟨(Nat.le_of_ble_eq_true rfl),(Nat.le_of_ble_eq_true rfl)⟩ (fun _=>(put_T rfl _)) (by simp only[List.length_cons,List.length_nil,List.length_map]<;>omega) (by exact .inl hF) (fun Ol st hH=>?_);dsimp only[u2,u1,u3,u4,setMany,u5,u6,D.cells,Nat.reduceAdd,aA,aL,aK,aC,dX] at hH;refine zQ 1 ?_;refine qT hH at1 (fun st hH=>?_) (gy:=hH.ocells at2);dsimp only[u2,u1,u3,u4,setMany,u5,u6,D.cells,Nat.reduceAdd,aA,aL,aK,aC,dX] at hH;refine zQ 1 ?_;exact⟨acc++[⟨start,bj⟩],Ol,pd,qd,P,Q,sn.set start true,_,rfl,(by rw[List.map_append];exact hH.drop 1),by unfold l7;rw[if_neg (by decide),if_neg Et],hok,by rw[List.length_set];exact fg⟩
  ·rintro fr st ⟨aV,td,pd,qd,P,Q,sn,tmp,hfr,hH,Fb,hok,fg⟩;rw[hfr];clear hfr;generalize aU fr=ee;clear fr;refine zQ 2 ?_;refine EvO.hloadS (m:=12) hH rfl (ev rfl) (by exact at0) (by dsimp only[List.drop_succ_cons,List.drop_zero,List.take_succ_cons,List.take_zero,aA,aL,aK,aC,dX]<;>rfl) rfl rfl (put_T rfl _) ?_;refine qS hH at2 fun st hH=>?_;dsimp only[u2,u1,u3,u4,setMany,u5,u6,D.cells,Nat.reduceAdd,aA,aL,aK,aC,dX] at hH;refine zQ 1 ?_;refine EvC.ret ⟨rx,_,_,_,hH.rP rfl at2 rfl,rfl,td,rfl,pd,qd,P,Q,sn,?_,hok,fg⟩;rw[←Fb];exact((hH.drop 1).erase 1).erase 1
def cI (fr:Go.V.Fr) (k:Nat):Go.V.D:=Go.V.nth .junk fr.loc k
def VL.pl (l:VL):PL:=⟨l.dn,l.aJ,l.aV⟩
def aM (p:Pg):List Nat:=p.aq.map Int.toNat
def eE (code:List az) (pl:Nat) (r:Int):List Nat→List PL→List PL
 |s::ss,l::ls=>dA code pl s r l::eE code pl r ss ls
 |_,_=>[]
def dv (n:Int):Nat:=(min (max n 0) 4).toNat
theorem rr (n:Int):dv n≤4:=by unfold dv;omega
theorem hO (code:List az) (pl:Nat) (r:Int):∀(ss:List Nat) (ls:List PL),ss.length=ls.length→(eE code pl r ss ls).length=ls.length
 |[],[],_=>rfl
 |s::ss,l::ls,h=>by simp only[eE,List.length_cons];rw[hO code pl r ss ls (by simpa using h)]
theorem hU (code:List az) (pl:Nat) (r:Int):∀(ss:List Nat) (ls:List PL) (i:Nat) (s:Nat) (l:PL),ss[i]?=some s→ls[i]?=some l→(eE code pl r ss ls)[i]?=some (dA code pl s r l)
 |[],_,_,_,_,h,_=>by simp at h
 |_::_,[],_,_,_,_,h=>by simp at h
 |s::ss,l::ls,0,_,_,h1,h2=>by simp only[List.getElem?_cons_zero,Option.some.injEq] at h1 h2;subst h1;subst h2;rfl
 |s::ss,l::ls,i+1,_,_,h1,h2=>by simp only[List.getElem?_cons_succ] at h1 h2;simp only[eE,List.getElem?_cons_succ];exact hU code pl r ss ls i _ _ h1 h2
theorem MH.mono {A:List aN} {N:Nat} {S st:St} {ks kv:Nat} {p:Pg} {pl:Nat} {ld:D} {L:List VL} {H:List aN} (n:Nat) (h:MH A N S st ks kv p pl ld L H):MH (A.drop n) N S st ks kv p pl ld L H:=by
 obtain⟨pd,qd,P,Q,sn,hH,hok,fg⟩:=h;refine⟨pd,qd,P,Q,sn,?_,hok,fg⟩
 rcases Nat.le_total n A.length with hn|hn
 ·have:=hH.drop n
  rwa [List.drop_append_of_le_length hn] at this
 ·have:=hH.drop A.length;rw[List.drop_append_of_le_length (Nat.le_refl _),List.drop_length] at this;rw[List.drop_eq_nil_of_le hn];exact this
theorem CJ (L:List VL) (i:Nat) (l:VL):(L.set i l).map j7=(L.map j7).set i (j7 l):=List.map_set ..
theorem MH.CX {N:Nat} {S st:St} {ks kv:Nat} {p:Pg} {pl:Nat} {ld:D} {L:List VL} {H:List aN} {i:Nat} {l:VL} {pd qd:D} {P Q:List Nat} (hi:i<L.length)
  (h:Has N S st (.lst l.td 11 (l.aV.map aL)::.box kv (.mem 0 false [p.cd,p.sd,.int .i64 (pl:Nat),ld,.ptr ks 0 0])::.box ks (.mem 0 false [pd,qd])::.lst pd 1 (P.map eA)::.lst qd 2 (Q.map kY)::.lst ld 12 ((L.map dX).set i (dX l))::(L.map j7++H))):
  Has N S st (.box kv (.mem 0 false [p.cd,p.sd,.int .i64 (pl:Nat),ld,.ptr ks 0 0])::.box ks (.mem 0 false [pd,qd])::.lst pd 1 (P.map eA)::.lst qd 2 (Q.map kY)::.lst ld 12 ((L.set i l).map dX)::((L.set i l).map j7++H)):=by
 have h1:=h.dg (j:=5+i) (by simp;omega);rw[List.map_set,CJ]
 have h2:∀(a b c d e:aN),(a::b::c::d::e::(L.map j7++H)).set (5+i) (.lst l.td 11 (l.aV.map aL))=a::b::c::d::e::((L.map j7).set i (j7 l)++H):=by
  intro a b c d e;rw[Nat.add_comm 5 i];simp only[List.set_cons_succ];rw[List.set_append_left _ _ (by simpa using hi)];rfl
 rw[h2] at h1;exact h1
theorem Ed (gb:∀st,Ev pv 63 [] st (.agg (aC bj)) st) {N ks kv:Nat} {S s0:St} {H:List aN} {p:Pg} {pl:Nat} {ld:D} {L:List VL} {r n:Int} (hF:S.flr≤N) (hp:p.ok) (hR:aR p) (hpl:pl≤3000000000000) (hLl:L.length=p.aq.length) (hok:∀l∈L,l.pl.ok p.code.length) (hM:MH [] N S s0 ks kv p pl ld L H):
  ∃d ae,Ev pv 20 [.ptr kv 0 0,.int .i32 r,.int .i64 n] s0 d ae∧d=.tup []∧∃L',L'.map VL.pl=eE p.code pl r (aM p) (L.map VL.pl)∧MH [] N S ae ks kv p (pl+dv n) ld L' H:=by
 have Fg:=hR.sl;refine Ev.iB rfl ME rfl rfl rfl ?_;refine zE ?_;change EvC _ _ _ _ s0 _;obtain⟨pd,qd,P,Q,sn,hH,jG,fg⟩:=hM;dsimp only[u4] at hH;refine qq<|qq<|qj fun K hK=>qm ?_;refine qg ?_;refine qp (o:=3) ?_;refine ql hH at0 ?_;refine qn ?_ (hR:=hH.rows at4);simp only[List.length_map];refine qm ?_;refine qe hK<|EvC.block<|EvC.loop (fun mm fr st=>∃(i:Nat) (L2:List VL) (pd qd:D) (P Q:List Nat) (sn:List Bool),fr.clean=⟨13,[.ptr kv 0 0,.int .i32 r,.int .i64 n,cI fr 3,cI fr 4,cI fr 5,cI fr 6,cI fr 7,cI fr 8,cI fr 9,cI fr 10,.int .i64 (L.length:Nat),.int .i64 (i:Nat)],[]⟩∧Has N S st (.box kv (.mem 0 false [p.cd,p.sd,.int .i64 (pl:Nat),ld,.ptr ks 0 0])::.box ks (.mem 0 false [pd,qd])::.lst pd 1 (P.map eA)::.lst qd 2 (Q.map kY)::.lst ld 12 (L2.map dX)::(L2.map j7++H))∧(i+mm=L.length)∧(L2.length=L.length)∧(∀j l s,j<i→L[j]?=some l→p.aq[j]?=some s→(L2.map VL.pl)[j]?=some (dA p.code pl s.toNat r l.pl))∧(∀j,i≤j→L2[j]?=L[j]?)∧(cj P Q sn)∧(sn.length=p.code.length)) (L.length) ?_ ?_
 ·exact⟨0,L,_,_,_,_,_,rfl,hH,by omega,rfl,(by intro j l s h;omega),(fun j _=>rfl),jG,fg⟩
 rintro mm fr st ⟨i,L2,pd,qd,P,Q,sn,hfr,hH,hi,hll,NY,NJ,jG,fg⟩;rw[hfr];clear hfr;generalize cI fr=ee;clear fr;refine qq<|qj fun K hK=>qg ?_;refine qe hK<|qq<|zP (fun hlt=>?_) fun hlt=>?_
 ·refine EvC.skip ?_;have hil:i<L.length:=by omega
  obtain⟨l,hl⟩:∃l,L[i]?=some l:=⟨L[i]'hil,List.getElem?_eq_getElem _⟩
  have oD:L2[i]?=some l:=by rw[NJ i (Nat.le_refl _)];exact hl
  obtain⟨s,hs⟩:∃s,p.aq[i]?=some s:=⟨p.aq[i]'(by omega),List.getElem?_eq_getElem _⟩
  obtain⟨kZ,zi⟩:=hR.st s (List.mem_of_getElem? hs);obtain⟨Gs,rfl⟩:=Int.eq_ofNat_of_zero_le kZ;have hr1:=vz oD;refine qq<|EvC.block<|qq<|qj fun K hK=>qm ?_;refine qm ?_;refine qe hK ?_;have bM:=hH;have HB:=oh hH at4;have HA:=hH.uz at1 (k:=ks) rfl;have KN:=hp.c.ref;have KM:=hp.s.ref;have Es:refs [p.cd,p.sd,.int .i64 (pl:Nat),ld,.ptr ks 0 0]≤st.bs.length:=by simp only[refs,D.ref,KN,KM];omega
  change EvC _ _ _ _ _ _;generalize hK:SeqQ _ _ _ _=K;refine EvC.yV rfl ?_;refine cM.cons ?_;refine qm ?_;refine EvO.nil ⟨rfl,?_⟩;refine cM.cons ?_;refine qg ?_;refine EvO.nil ⟨rfl,?_⟩;refine cM.cons ?_;refine qp (o:=3) ?_;refine EvO.nil ⟨rfl,?_⟩;refine cM.cons ?_;refine ql hH at0 ?_;refine EvO.nil ⟨rfl,?_⟩;refine cM.cons ?_;refine qm ?_;refine EvO.nil ⟨rfl,?_⟩;refine cM.cons ?_;refine qm ?_;refine EvO.nil ⟨rfl,?_⟩;refine cM.cons ?_;refine qm ?_;refine EvO.nil ⟨rfl,?_⟩;refine cM.cons ?_;refine qm ?_;refine EvO.nil ⟨rfl,?_⟩;refine cM.cons ?_;obtain⟨_,st,hev,td,rfl,hM⟩:=Am gb hF hp hR (by omega) oD hs (hok l (List.mem_of_getElem? hl)) ⟨pd,qd,P,Q,sn,hH,jG,fg⟩;obtain⟨pd,qd,P,Q,sn,hH,jG,fg⟩:=hM;dsimp only[u3,u4] at hH;refine qv hev ?_;refine EvO.nil ⟨by exact Bool.and_eq_true_iff.2 ⟨gV rfl rfl rfl (bM.at at0) (hH.at at1) (bM.at at0) Es,rfl⟩,?_⟩;refine cM.cons ?_;refine qi hH at5 fun Gv zk=>?_;refine EvO.nil ⟨rfl,?_⟩;refine cM.cons ?_;refine EvO.jR hH rfl (ev rfl) (ev rfl) (by assumption) rfl rfl (by exact at5) (by assumption) (Nat.le_of_ble_eq_true rfl) (by exact .inl hF) (fun st hH=>?_);dsimp only[u2,u1,u3,u4,setMany,u5,u6,D.cells,Nat.reduceAdd,aA,aL,aK,aC,dX] at hH;refine EvO.nil ⟨rfl,?_⟩;refine cM.nil ?_;subst hK;have hH:=MH.CX (l:=⟨(dA p.code pl Gs r l.pl).dn,(dA p.code pl Gs r l.pl).aJ,td,(dA p.code pl Gs r l.pl).aV⟩) (by omega) hH;refine qj fun K hK=>qA ?_;refine qm ?_;refine qe hK ?_;refine⟨mm-1,by omega,⟨i+1,L2.set i ⟨(dA p.code pl Gs r l.pl).dn,(dA p.code pl Gs r l.pl).aJ,td,(dA p.code pl Gs r l.pl).aV⟩,pd,qd,P,Q,sn,rfl,hH,by omega,by rw[List.length_set];exact hll,?_,(fun j hj=>by rw[List.getElem?_set_ne (by omega)];exact NJ j (by omega)),jG,fg⟩⟩;intro j l' s' hj hl' oC;rw[List.map_set]
  by_cases hji:j=i
  ·subst hji;rw[hl] at hl';rw[hs] at oC;cases hl';cases oC;rw[List.getElem?_set_self (by rw[List.length_map];omega)];rfl
  ·rw[List.getElem?_set_ne (fun e=>hji e.symm)];exact NY j l' s' (by omega) hl' oC
 ·refine EvC.exit ?_;have hil:i=L.length:=by omega
  have GJ:=rr n;have Q5:((pl:Nat):Int)+min (max n 0) 4=((pl+dv n:Nat):Int):=by unfold dv;omega
  refine qj fun K hK=>qm ?_;refine qg ?_;refine qp (o:=2) ?_;refine ql hH at0 ?_;refine qm ?_;refine EvO.Dh (t1:=0) (t2:=0) rfl (ev rfl) (ev rfl) (put_T rfl _) ?_;refine EvO.Dg (t1:=0) (t2:=0) rfl (ev rfl) (ev rfl) (put_T rfl _) ?_;refine EvO.gC (z:=((pl+dv n:Nat):Int)) rfl (ev rfl) (ev rfl) (by rw[Q5];exact dz (by simp only[jV];omega)) (put_T rfl _) ?_;refine qg ?_;refine qp (o:=2) ?_;refine qT hH at0 fun st hH=>?_;dsimp only[u2,u1,u3,u4,setMany,u5,u6,D.cells,Nat.reduceAdd,aA,aL,aK,aC,dX] at hH;refine qe hK ?_;refine⟨fun i h=>(by cases h),_,_,_,rfl,rfl,?_⟩;refine⟨rfl,L2,?_,pd,qd,P,Q,sn,hH,jG,fg⟩;refine List.ext_getElem? fun j=>?_
  by_cases hj:j<L.length
  ·obtain⟨l,hl⟩:∃l,L[j]?=some l:=⟨L[j]'hj,List.getElem?_eq_getElem _⟩
   obtain⟨s,hs⟩:∃s,p.aq[j]?=some s:=⟨p.aq[j]'(by omega),List.getElem?_eq_getElem _⟩
   rw[NY j l s (by omega) hl hs,hU (s:=s.toNat) (l:=l.pl)]
   ·unfold aM;rw[List.getElem?_map,hs];rfl
   ·rw[List.getElem?_map,hl];rfl
  ·rw[List.getElem?_eq_none (by simp;omega),List.getElem?_eq_none];rw[hO]
   ·simp;omega
   ·unfold aM;simp;omega
def lW (code:List az) (pl:Nat) (l:PL):PL:=⟨(mF code pl true l.aV (lb code.length l.dn l.aJ)).dn,(mF code pl true l.aV (lb code.length l.dn l.aJ)).aJ,[]⟩
def sV (l:PL):List D:=aK l.dn l.aJ .nul
theorem Ef {N ks kv:Nat} {S s0:St} {H:List aN} {p:Pg} {pl:Nat} {ld:D} {L:List VL} (hF:S.flr≤N) (hp:p.ok) (hR:aR p) (hpl:pl≤4000000000000) (hLl:L.length=p.aq.length) (hok:∀l∈L,l.pl.ok p.code.length) (hM:MH [] N S s0 ks kv p pl ld L H):
  ∃d ae,Ev pv 23 [.ptr kv 0 0] s0 d ae∧MH [.lst d 12 ((L.map fun l=>lW p.code pl l.pl).map sV)] N S ae ks kv p pl ld L H:=by
 have Fg:=hR.sl;refine Ev.iB rfl MC rfl rfl rfl ?_;refine zE ?_;change EvC _ _ _ _ s0 _;obtain⟨pd,qd,P,Q,sn,hH,jG,fg⟩:=hM;dsimp only[u4] at hH;refine zQ 15 ?_;refine qn ?_ (hR:=hH.rows at4);simp only[List.length_map];refine zQ 3 ?_;refine EvC.loop (fun mm fr st=>∃(i:Nat) (od pd qd:D) (P Q:List Nat) (sn:List Bool),fr.clean=⟨13,[.ptr kv 0 0,cI fr 1,cI fr 2,od,cI fr 4,cI fr 5,cI fr 6,cI fr 7,cI fr 8,cI fr 9,cI fr 10,.int .i64 (L.length:Nat),.int .i64 (i:Nat)],[]⟩∧Has N S st (.lst od 12 (((L.map fun l=>lW p.code pl l.pl).take i).map sV)::.box kv (.mem 0 false [p.cd,p.sd,.int .i64 (pl:Nat),ld,.ptr ks 0 0])::.box ks (.mem 0 false [pd,qd])::.lst pd 1 (P.map eA)::.lst qd 2 (Q.map kY)::.lst ld 12 (L.map dX)::(L.map j7++H))∧(i+mm=L.length)∧(cj P Q sn)∧(sn.length=p.code.length)) (L.length) ?_ ?_
 ·exact⟨0,.nul,_,_,_,_,_,rfl,(hH.nulE 12),by omega,jG,fg⟩
 rintro mm fr st ⟨i,od,pd,qd,P,Q,sn,hfr,hH,hi,jG,fg⟩;rw[hfr];clear hfr;generalize cI fr=ee;clear fr;refine zQ 5 ?_;refine zP (fun hlt=>?_) fun hlt=>?_
 ·refine zQ 1 ?_;have hil:i<L.length:=by omega
  obtain⟨l,hl⟩:∃l,L[i]?=some l:=⟨L[i]'hil,List.getElem?_eq_getElem _⟩
  obtain⟨uG,qZ⟩:=hok l (List.mem_of_getElem? hl);simp only[VL.pl] at uG qZ;have hge:(L.map fun l=>lW p.code pl l.pl)[i]?=some (lW p.code pl l.pl):=by rw[List.getElem?_map,hl];rfl
  have px:(((L.map fun l=>lW p.code pl l.pl).take i).map sV).length=i:=by simp;omega
  refine zQ 7 ?_;obtain⟨_,st1,hev,rd,rfl,hM⟩:=rf (e:=true) hF hp hR hpl hl uG (by omega) (MH.push [_] [] ⟨pd,qd,P,Q,sn,hH,jG,fg⟩);clear jG fg;have hM:=MH.pull [_] [] (MH.mono 1 hM);obtain⟨pd,qd,P,Q,sn,F3,jG,fg⟩:=hM;dsimp only[u3,u4] at F3;generalize hB:((L.map fun l=>lW p.code pl l.pl).take i).map sV=B at*;refine zQ 4 ?_;have hH:=F3;refine qv hev ?_;refine zQ 3 ?_;refine qa hH fun k5 st FJ hH=>?_;refine qS hH at0 fun st hH=>?_;dsimp only[u2,u1,u3,u4,setMany,u5,u6,D.cells,Nat.reduceAdd,aA,aL,aK,aC,dX,sV] at hH;refine zQ 2 ?_;clear F3;refine zQ 2 ?_;refine EvO.hloadS (m:=12) hH rfl (ev rfl) (by exact at0) (by dsimp only[List.drop_succ_cons,List.drop_zero,List.take_succ_cons,List.take_zero,aA,aL,aK,aC,dX,sV]<;>rfl) rfl rfl (put_T rfl _) ?_;refine qh (s:=12) (vs:=[_]) hH fun k23 st H_ hH=>?_;refine EvO.happend (s:=12) hH rfl (ev rfl) (ev rfl) (by exact at2) (by exact hH.rows (by exact at0)) rfl rfl rfl rfl rfl rfl rfl ⟨(Nat.le_of_ble_eq_true rfl),(Nat.le_of_ble_eq_true rfl)⟩ (fun _=>(put_T rfl _)) (by simp only[List.length_cons,List.length_nil,List.length_map]<;>omega) (by exact .inl hF) (fun OB st hH=>?_);dsimp only[u2,u1,u3,u4,setMany,u5,u6,D.cells,Nat.reduceAdd,aA,aL,aK,aC,dX,sV] at hH;refine zQ 6 ?_;exact⟨mm-1,by omega,⟨i+1,OB,pd,qd,P,Q,sn,rfl,(by rw[List.take_add_one,hge,Option.toList_some,List.map_append,hB];exact hH.drop 2),by omega,jG,fg⟩⟩
 ·refine zQ 1 ?_;have hil:i=L.length:=by omega
  refine zQ 5 ?_;refine EvC.ret ⟨rx,_,_,_,rfl,rfl,?_⟩;rw[List.take_of_length_le (by simp;omega)] at hH;exact⟨pd,qd,P,Q,sn,hH,jG,fg⟩
def da (fr:Go.V.Fr) (k:Nat):Go.V.D:=Go.V.nth .junk fr.loc k
structure kT (p q:Pg):Prop where
 ok:q.ok
 code:q.code=p.code.map de
 aq:q.aq=p.aq
theorem AP {s0:St} {p:Pg} (hp:p.ok):∃d,Ev pv 97 [p.d] s0 d s0∧∃q:Pg,d=q.d∧kT p q:=by
 refine Ev.CC rfl Mg rfl rfl rfl ?_;refine zE ?_;obtain⟨hSb,hF,hH⟩:=ri s0;generalize enterSt .ro s0=S at*;have hc:=hp.c.arg s0.bs.length S;have hs:=hp.s.arg s0.bs.length S;have hlen:=hp.cl;have Hu:=hp.sl;unfold Pg.d;refine zQ 2 ?_;refine qb hH fun k1 st oE hH=>?_;dsimp only[u2,u1,u3,u4,setMany,u5,u6,D.cells,Nat.reduceAdd,Pg.cs,aA,aj] at hH;refine qa hH fun k2 st hk2 hH=>?_;refine zQ 1 ?_;have hH:=hH.nulE 1;refine zQ 4 ?_;refine qP hH at0 (Arg.rows (by assumption) hH) fun x8 st hH=>?_;dsimp only[u2,u1,u3,u4,setMany,u5,u6,D.cells,Nat.reduceAdd,Pg.cs,aA,aj] at hH;refine EvO.eI (qs:=[(1,_)]) rfl rfl rfl rfl ⟨rfl,(ev rfl),(by exact hH.ocells (by exact at0)),trivial⟩ (by intro q hq;simp only[List.mem_cons,List.not_mem_nil,or_false] at hq;rcases hq with rfl<;>exact⟨rfl,by exact Nat.le_of_ble_eq_true rfl⟩) (by show List.foldl _ [_,_] _=_;dsimp only[List.foldl_cons,List.foldl_nil,u2,u1]<;>rfl) (by dsimp only[Fr.put,u1,u2]<;>rfl) ?_;refine qa hH fun k3 st FK hH=>?_;refine qS hH at0 fun st hH=>?_;dsimp only[u2,u1,u3,u4,setMany,u5,u6,D.cells,Nat.reduceAdd,Pg.cs,aA,aj] at hH;refine zQ 1 ?_;have hH:=hH.G8 4;refine zQ 5 ?_;refine qn ?_;simp only[List.length_map];refine zQ 3 ?_;refine EvC.loop (fun mm fr st=>∃(i:Nat) (y:D) (ks:Nat→Prop),fr.clean=⟨14,[da fr 0,.ptr k1 0 0,.ptr k2 0 0,.ptr k3 0 0,da fr 4,da fr 5,da fr 6,da fr 7,da fr 8,da fr 9,da fr 10,p.cd,.int .i64 (p.code.length:Nat),.int .i64 (i:Nat)],[]⟩∧Has s0.bs.length S st [.deep ks y 4 ((p.code.take i).map oV),.box k3 (.mem 0 false [y,x8]),.lst x8 1 (p.aq.map aj),.box k2 (.mem 0 false [.nul,.nul]),.box k1 (.mem 0 false [p.cd,p.sd])]∧(i+mm=p.code.length)) (p.code.length) ?_ ?_
 ·exact⟨0,.nul,_,rfl,hH,by omega⟩
 rintro mm fr st ⟨i,y,ks,hfr,hH,hi⟩;rw[hfr];clear hfr;generalize da fr=ee;clear fr;refine zQ 5 ?_;refine zP (fun h1=>?_) fun h1=>?_
 ·refine zQ 1 ?_
  obtain⟨q,hq⟩:∃q,p.code[i]?=some q:=⟨p.code[i]'(by omega),List.getElem?_eq_getElem _⟩
  have hr:=ft hq;have uE:=hp.i q (List.mem_of_getElem? hq);have Bp:=uE.1;have JA:=uE.1.arg s0.bs.length S;have px:=uE.2;have mJ:((p.code.take i).map oV).length≤1048576:=by rw[List.length_map,List.length_take];omega
  refine zQ 4 ?_;refine qr fun O4 Lc=>?_;refine EvO.cq rfl (ev rfl) (by assumption) rfl (put_T rfl _) ?_;refine qa hH fun k5 st FJ hH=>?_;refine qS hH at0 fun st hH=>?_;dsimp only[u2,u1,u3,u4,setMany,u5,u6,D.cells,Nat.reduceAdd,Pg.cs,aA,aj] at hH;refine zQ 1 ?_;have hH:=hH.nulE 2;refine zQ 4 ?_;refine EvO.happend (s:=2) hH rfl (ev rfl) (ev rfl) (by exact at0) (by exact Arg.rows (by assumption) hH) rfl rfl rfl rfl rfl rfl rfl ⟨(Nat.le_of_ble_eq_true rfl),(Nat.le_of_ble_eq_true rfl)⟩ (fun _=>(put_T rfl _)) (by simp only[List.length_nil,List.length_map]<;>omega) (by exact .inl hF) (fun Ju st hH=>?_);dsimp only[u2,u1,u3,u4,setMany,u5,u6,D.cells,Nat.reduceAdd,Pg.cs,aA,aj] at hH;refine zQ 1 ?_;refine qT hH at1 (fun st hH=>?_) (gy:=hH.ocells at0);dsimp only[u2,u1,u3,u4,setMany,u5,u6,D.cells,Nat.reduceAdd,Pg.cs,aA,aj] at hH;refine zQ 4 ?_;refine EvO.hloadS (m:=4) hH rfl (ev rfl) (by exact at1) (by dsimp only[List.drop_succ_cons,List.drop_zero,List.take_succ_cons,List.take_zero,Pg.cs,aA,aj]<;>rfl) rfl rfl (put_T rfl _) ?_;refine qh (s:=4) (vs:=[_]) hH fun k24 st QH hH=>?_;obtain⟨hH,LM⟩:=hH.Cp (i:=1) (j:=3) (by decide) at1 at3 (c9 _);dsimp only[u1,u2] at hH;refine EvO.ni hH rfl rfl rfl at3 (hH.rows at0) (.cons (.cons (.plain _ rfl) (.cons (.plain _ rfl) (.cons (.plain _ rfl) (.cons LM .nil)))) .nil) rfl rfl rfl rfl rfl rfl rfl ⟨(Nat.le_of_ble_eq_true rfl),(Nat.le_of_ble_eq_true rfl)⟩ (fun _=>(put_T rfl _)) (by show _+1≤_;omega) (.inl hF) (fun OA st hH=>?_);dsimp only[u1,u2] at hH;refine zQ 1 ?_;refine EvO.oB hH rfl (ev rfl) (ev rfl) (by exact hH.dcells (by exact at3)) (by exact rfl) (by exact at4) (by exact Nat.le_of_ble_eq_true rfl) (by exact .inl hF) (fun st hH=>?_);dsimp only[u2,u1,u3,u4,setMany,u5,u6,D.cells,Nat.reduceAdd,Pg.cs,aA,aj] at hH;refine zQ 5 ?_;exact⟨mm-1,by omega,⟨i+1,OA,_,rfl,(by rw[List.take_add_one,hq,Option.toList_some,List.map_append];exact hH.drop 3),by omega⟩⟩
 ·refine zQ 3 ?_;refine EvO.hloadS (m:=2) hH rfl (ev rfl) (by exact at1) (by dsimp only[List.drop_succ_cons,List.drop_zero,List.take_succ_cons,List.take_zero,Pg.cs,aA,aj]<;>rfl) rfl rfl (put_T rfl _) ?_;refine qS hH at3 fun st hH=>?_;dsimp only[u2,u1,u3,u4,setMany,u5,u6,D.cells,Nat.reduceAdd,Pg.cs,aA,aj] at hH;refine zQ 1 ?_;rw[List.take_of_length_le (by omega)] at hH;have h1:=hH.uO at0 (n:=14) (by decide);have h2:=hH.yh at2 (lQ _) (n:=15) (by decide)
  have h3:aY st s0.bs.length false 16 (.agg [y,x8])=some (.agg [.sl ((p.code.map oV).map (iC 4)),.sl ((p.aq.map aj).map (iC 1))]):=by
   show(fV (aY st s0.bs.length false 15) [y,x8]).map D.agg=_;simp only[fV,h1,h2,Option.map_some]
  refine EvC.ret ⟨rx,_,_,hH.rP rfl at3 rfl,rl hSb hH h3,⟨_,p.code.map de,Bg p.aq,p.aq⟩,rfl,⟨?_,uA _,?_,by simpa using hlen,Hu⟩,rfl,rfl⟩
  ·have h0:(p.code.map de).map aA=p.code.map oV:=by rw[List.map_map];rfl
   show SlD _ 4 ((p.code.map de).map aA);rw[h0]
   have h4:∀e∈(p.code.map oV),e.length=4:=by
    intro e he;obtain⟨q,_,rfl⟩:=List.mem_map.1 he;rfl
   have:=SlD.frozen (s:=4) (es:=p.code.map oV) h4 (by
    intro e he d hd;obtain⟨q,_,rfl⟩:=List.mem_map.1 he;simp only[oV,aA,de,List.mem_cons,List.not_mem_nil,or_false] at hd
    rcases hd with rfl|rfl|rfl|rfl<;>rfl)
   exact this
  ·intro i hi;obtain⟨q,hq,rfl⟩:=List.mem_map.1 hi;exact B7 (hp.i q hq)
theorem kT.right {p q:Pg} (h:kT p q) (hR:aR p):aR q:=(vN h.code h.aq).2 hR
theorem tu {N:Nat} {S s0:St} {H:List aN} {p:Pg} (hF:S.flr≤N) (hp:p.ok) (hR:aR p) (hH:Has N S s0 H):
  ∃r ae,Ev pv 56 [p.d] s0 r ae∧∃kv ks q,r=.tup [.ptr kv 0 0,.int .i64 0]∧kT p q∧MH [] N S ae ks kv q 0 .nul [] H:=by
 have hc:=hp.c.arg N S;have hcl:=hR.cl;obtain⟨_,LC,q,rfl,hq⟩:=AP (s0:=s0) hp;have hown:∀st,∃d,Ev pv 97 [p.d] st d st∧∃q:Pg,d=q.d∧kT p q:=fun st=>AP hp;unfold Pg.d at hown;unfold Pg.d;clear LC hq q;refine Ev.iB rfl Mv rfl rfl rfl ?_;refine zE ?_;change EvC _ _ _ _ s0 _;refine zQ 2 ?_;refine qb hH fun k1 st oE hH=>?_;dsimp only[u2,u1,u3,u4,setMany,u5,u6,D.cells,Nat.reduceAdd,Pg.cs,aA,aj] at hH;refine zQ 6 ?_;refine EvO.hloadS (m:=2) hH rfl (ev rfl) (by exact at0) (by dsimp only[List.drop_succ_cons,List.drop_zero,List.take_succ_cons,List.take_zero,Pg.cs,aA,aj]<;>rfl) rfl rfl (put_T rfl _) ?_;refine qv (jM (p:=p) hp) ?_;refine zQ 2 ?_;refine qE rfl (by rw[cV hR];rfl) ?_;refine zQ 5 ?_;refine qn ?_;simp only[List.length_map];obtain⟨_,st,hev,ks,rfl,pd,qd,P,Q,hH,hok⟩:=yI (n:=p.code.length) hF (by omega) hH;refine qv hev ?_;refine zQ 6 ?_;obtain⟨_,hev,q,rfl,hq⟩:=hown st;refine zQ 2 ?_;refine EvO.hloadS (m:=2) hH rfl (ev rfl) (by exact at3) (by dsimp only[List.drop_succ_cons,List.drop_zero,List.take_succ_cons,List.take_zero,Pg.cs,aA,aj]<;>rfl) rfl rfl (put_T rfl _) ?_;refine qv hev ?_;refine qm ?_;refine EvO.go (d:=.agg [q.cd,q.sd,.int .i64 0,.nul,.ptr ks 0 0]) (st1:=_) rfl rfl rfl (put_T rfl _) ?_;refine qb hH fun k20 st Lr hH=>?_;refine zQ 4 ?_;refine EvC.ret ⟨rx,_,_,_,rfl,rfl,?_⟩;have hl:(List.replicate p.code.length false).length=q.code.length:=by rw[List.length_replicate,hq.code,List.length_map]
 exact⟨k20,ks,q,rfl,hq,pd,qd,P,Q,_,Has.g_ [_] [_,_,_,_] ((hH.erase 4).nulE 12),hok,hl⟩
def jL (s:Nat):PL:=⟨false,bj,[⟨s,bj⟩]⟩
theorem Cl (gb:∀st,Ev pv 63 [] st (.agg (aC bj)) st) {N ks kv:Nat} {S s0:St} {H:List aN} {p:Pg} (hF:S.flr≤N) (hp:p.ok) (hR:aR p) (hM:MH [] N S s0 ks kv p 0 .nul [] H):
  ∃d ae,Ev pv 57 [.ptr kv 0 0] s0 d ae∧d=.tup []∧∃ld L,L.map VL.pl=(aM p).map jL∧MH [] N S ae ks kv p 0 ld L H:=by
 have hs:=hp.s.arg N S;have Fg:=hR.sl;obtain⟨pd,qd,P,Q,sn,hH,hok,fg⟩:=hM;dsimp only[u4] at hH;refine Ev.iB rfl Mu rfl rfl rfl ?_;refine zE ?_;change EvC _ _ _ _ s0 _;refine zQ 7 ?_;refine qn ?_;simp only[List.length_map];refine zQ 3 ?_;refine EvC.loop (fun mm fr st=>∃(i:Nat) (ld:D) (L:List VL),fr.clean=⟨11,[.ptr kv 0 0,da fr 1,da fr 2,da fr 3,da fr 4,da fr 5,da fr 6,da fr 7,p.sd,.int .i64 (p.aq.length:Nat),.int .i64 (i:Nat)],[]⟩∧Has N S st (.box kv (.mem 0 false [p.cd,p.sd,.int .i64 ((0:Nat):Nat),ld,.ptr ks 0 0])::.box ks (.mem 0 false [pd,qd])::.lst pd 1 (P.map eA)::.lst qd 2 (Q.map kY)::.lst ld 12 (L.map dX)::(L.map j7++H))∧(i+mm=p.aq.length)∧(L.length=i)∧(L.map VL.pl=((aM p).take i).map jL)) (p.aq.length) ?_ ?_
 ·exact⟨0,.nul,[],rfl,hH,by omega,rfl,rfl⟩
 rintro mm fr st ⟨i,ld,L,hfr,hH,hi,hLl,N9⟩;rw[hfr];clear hfr;generalize da fr=ee;clear fr;refine zQ 5 ?_;refine zP (fun hlt=>?_) fun hlt=>?_
 ·refine zQ 1 ?_;have hil:i<p.aq.length:=by omega
  obtain⟨s,KG⟩:∃s,p.aq[i]?=some s:=⟨p.aq[i]'(by omega),List.getElem?_eq_getElem _⟩
  obtain⟨kZ,zi⟩:=hR.st s (List.mem_of_getElem? KG);obtain⟨s1,rfl⟩:=Int.eq_ofNat_of_zero_le kZ;have hr1:=dI KG;have fv:(aM p)[i]?=some s1:=by unfold aM;rw[List.getElem?_map,KG];rfl
  refine zQ 4 ?_;refine qr fun Nq HQ=>?_;refine zQ 9 ?_;refine qv (gb _) ?_;refine qm ?_;refine qv (gb _) ?_;refine EvO.go (d:=.agg (aL ⟨s1,bj⟩)) (st1:=_) rfl rfl rfl (put_T rfl _) ?_;refine qh (s:=11) (vs:=[_]) hH fun k23 st H_ hH=>?_;dsimp only[u2,u1,u3,u4,setMany,u5,u6,D.cells,Nat.reduceAdd,aA,aL,aK,aC,dX,aj] at hH;refine EvO.go (d:=.agg (aK false bj (.win k23 0 0 1 11))) (st1:=_) rfl rfl rfl (put_T rfl _) ?_;refine qh (s:=12) (vs:=[_]) hH fun k25 st QG hH=>?_;dsimp only[u2,u1,u3,u4,setMany,u5,u6,D.cells,Nat.reduceAdd,aA,aL,aK,aC,dX,aj] at hH;refine EvO.happend (s:=12) hH rfl (ev rfl) (ev rfl) (by exact at6) (by exact hH.rows (by exact at0)) rfl rfl rfl rfl rfl rfl rfl ⟨(Nat.le_of_ble_eq_true rfl),(Nat.le_of_ble_eq_true rfl)⟩ (fun _=>(put_T rfl _)) (by simp only[List.length_cons,List.length_nil,List.length_map]<;>omega) (by exact .inl hF) (fun Oz st hH=>?_);dsimp only[u2,u1,u3,u4,setMany,u5,u6,D.cells,Nat.reduceAdd,aA,aL,aK,aC,dX,aj] at hH;refine zQ 2 ?_;refine qT hH at2 (fun st hH=>?_) (gy:=hH.ocells at6);dsimp only[u2,u1,u3,u4,setMany,u5,u6,D.cells,Nat.reduceAdd,aA,aL,aK,aC,dX,aj] at hH;refine zQ 5 ?_;have hH:=hH.drop 1;have hH:=Has.g_ [_] (_::_::_::_::_::L.map j7) hH;refine⟨mm-1,by omega,⟨i+1,Oz,L++[⟨false,bj,.win k23 0 0 1 11,[⟨s1,bj⟩]⟩],rfl,?_,by omega,by simp;omega,?_⟩⟩
  ·rw[List.map_append,List.map_append,List.append_assoc];exact hH
  ·rw[List.map_append,N9,List.take_add_one,fv,Option.toList_some,List.map_append];rfl
 ·refine zQ 1 ?_;refine⟨fun i h=>(by cases h),_,_,_,rfl,rfl,?_⟩;refine⟨rfl,ld,L,?_,pd,qd,P,Q,sn,hH,hok,fg⟩;rw[N9,List.take_of_length_le];unfold aM;rw[List.length_map];omega
theorem yW {p:Pg} (hR:aR p):∀l∈(aM p).map jL,l.ok p.code.length:=by
 intro l hl;obtain⟨s,hs,rfl⟩:=List.mem_map.1 hl;obtain⟨v,hv,rfl⟩:=List.mem_map.1 hs;have:=hR.st v hv;refine⟨fun t ht=>?_,by simp[jL]⟩;simp only[jL,List.mem_cons,List.not_mem_nil,or_false] at ht;subst ht;show v.toNat<_;omega
theorem CM (gb:∀st,Ev pv 63 [] st (.agg (aC bj)) st) {N:Nat} {S s0:St} {H:List aN} {p:Pg} (hF:S.flr≤N) (hp:p.ok) (hR:aR p) (hH:Has N S s0 H):
  ∃r ae,Ev pv 13 [p.d] s0 r ae∧∃kv ks q ld L,r=.tup [.ptr kv 0 0,.int .i64 0]∧kT p q∧L.map VL.pl=(aM p).map jL∧MH [] N S ae ks kv q 0 ld L H:=by
 have CF:∀st H,Has N S st H→∃r ae,Ev pv 56 [p.d] st r ae∧∃kv ks q,r=.tup [.ptr kv 0 0,.int .i64 0]∧kT p q∧MH [] N S ae ks kv q 0 .nul [] H:=fun st H h=>tu hF hp hR h;unfold Pg.d at*;refine Ev.iB rfl ML rfl rfl rfl ?_;refine zE ?_;change EvC _ _ _ _ s0 _;refine zQ 2 ?_;refine qb hH fun k1 st oE hH=>?_;dsimp only[u2,u1,u3,u4,setMany,u5,u6,D.cells,Nat.reduceAdd,Pg.cs,aA,aj] at hH;refine zQ 5 ?_;refine EvO.hloadS (m:=2) hH rfl (ev rfl) (by exact at0) (by dsimp only[List.drop_succ_cons,List.drop_zero,List.take_succ_cons,List.take_zero,Pg.cs,aA,aj]<;>rfl) rfl rfl (put_T rfl _) ?_;obtain⟨_,st,hev,kv,ks,q,rfl,hq,hM⟩:=CF _ _ hH;refine qv hev ?_;refine zQ 12 ?_;refine EvC.cond (v:=false) (by dsimp only[Fr.ev,Fr.get,nth,V.look];rfl) (fun h=>by cases h) (fun _=>?_);refine zQ 1 ?_;obtain⟨_,st1,hev,rfl,ld,L,hL,hM⟩:=Cl gb hF hq.ok (hq.right hR) hM;refine zQ 3 ?_;refine qv hev ?_;refine zQ 7 ?_;refine EvC.ret ⟨rx,_,_,_,rfl,rfl,?_⟩;have Pt:aM q=aM p:=by unfold aM;rw[hq.aq]
 obtain⟨pd,qd,P,Q,sn,hH,hok,fg⟩:=hM;refine⟨kv,ks,q,ld,L,rfl,hq,by rw[←Pt];exact hL,pd,qd,P,Q,sn,?_,hok,fg⟩;have hH:=Has.g_ (_::_::_::_::_::L.map j7) [_] (H:=H) hH;exact hH.drop 1
def Nc (l:List dx):D:=.sl ((l.map aL).map (iC 11))
def tQ (l:PL):List D:=aK l.dn l.aJ (Nc l.aV)
structure AM (N:Nat) (S:St) (kv ks:Nat) (p:Pg) (pl:Nat) (ld:D) (L:List VL):Prop where
 lt:kv<N
 le:N≤S.bs.length
 at_:S.bs[kv]?=some (.mem 0 false [p.cd,p.sd,.int .i64 (pl:Nat),ld,.ptr ks 0 0])
 ld:Arg N S 12 ld (L.map dX)
 td:∀l∈L,Arg N S 11 l.td (l.aV.map aL)
 ksl:ks<N
theorem AM.box {N:Nat} {S st:St} {H:List aN} {kv ks:Nat} {p:Pg} {pl:Nat} {ld:D} {L:List VL} (h:AM N S kv ks p pl ld L) (hH:Has N S st H):st.bs[kv]?=some (.mem 0 false [p.cd,p.sd,.int .i64 (pl:Nat),ld,.ptr ks 0 0]):=by
 rw[hH.ex.low kv h.lt];exact h.at_
theorem AM.refs {N:Nat} {S st:St} {H:List aN} {kv ks:Nat} {p:Pg} {pl:Nat} {ld:D} {L:List VL} (h:AM N S kv ks p pl ld L) (hp:p.ok) (hH:Has N S st H):V.refs [p.cd,p.sd,.int .i64 (pl:Nat),ld,.ptr ks 0 0]≤st.bs.length:=by
 have h1:=hp.c.ref;have h2:=hp.s.ref;have h3:=h.ld.2;have h4:=h.ksl;have h5:=h.le;have h6:=hH.ex.len;simp only[V.refs,D.ref,h1,h2];omega
theorem AM.to {N:Nat} {S st:St} {H:List aN} {kv ks:Nat} {p:Pg} {pl:Nat} {ld:D} {L:List VL} (h:AM N S kv ks p pl ld L) (hH:Has N S st H) (o:Nat):iH st (.ptr kv 0 o) ([p.cd,p.sd,.int .i64 (pl:Nat),ld,.ptr ks 0 0].drop o):=
 .inl ⟨kv,0,o,false,_,rfl,St.mem_of (by rw[hH.ex.low kv h.lt];exact h.at_),List.take_length ..⟩
theorem MH.am {N ks kv:Nat} {S s0:St} {H:List aN} {p:Pg} {pl:Nat} {ld:D} {L:List VL} (hM:MH [] N S s0 ks kv p pl ld L H):AM s0.bs.length s0 kv ks p pl ld L:=by
 obtain⟨pd,qd,P,Q,sn,hH,jG,fg⟩:=hM;dsimp only[u4] at hH
 exact⟨(hH.ge at0).2,Nat.le_refl _,hH.at at0,⟨hH.rows at4,oh hH at4⟩,fun l hl=>(by
  obtain⟨i,hi⟩:=List.getElem?_of_mem hl;have h:=Ae (H:=H) [.box kv (.mem 0 false [p.cd,p.sd,.int .i64 (pl:Nat),ld,.ptr ks 0 0]),.box ks (.mem 0 false [pd,qd]),.lst pd 1 (P.map eA),.lst qd 2 (Q.map kY),.lst ld 12 (L.map dX)] rfl hi
  exact⟨hH.rows h,oh hH h⟩),hH.uz at1 rfl⟩
theorem MH.ro {N ks kv:Nat} {S s0:St} {H:List aN} {p:Pg} {pl:Nat} {ld:D} {L:List VL} (hM:MH [] N S s0 ks kv p pl ld L H):s0.ro≤s0.bs.length:=by
 obtain⟨pd,qd,P,Q,sn,hH,jG,fg⟩:=hM;rw[hH.ex.ro];exact Nat.le_trans hH.er (Nat.le_trans hH.hN hH.ex.len)
def lJ (fr:Go.V.Fr) (k:Nat):Go.V.D:=Go.V.nth .junk fr.loc k
theorem ue (f:j6):gX pv .neq 55 (.agg (aC f)) (.agg (aC f))=some (.bool false):=by
 have h:∀b c d e g i j k l m:Int,gX pv .neq 55 (.agg [.int .i64 b,.int .i64 c,.int .i64 d,.int .i64 e,.int .i64 g,.int .i64 i,.int .i64 j,.int .i64 k,.int .i64 l,.int .i64 m]) (.agg [.int .i64 b,.int .i64 c,.int .i64 d,.int .i64 e,.int .i64 g,.int .i64 i,.int .i64 j,.int .i64 k,.int .i64 l,.int .i64 m])=Option.map (fun b=>D.bool !b) (match some (b==b) with|some true=>(match some (c==c) with|some true=>(match some (d==d) with|some true=>(match some (e==e) with|some true=>(match some (g==g) with|some true=>(match some (i==i) with|some true=>(match some (j==j) with|some true=>(match some (k==k) with|some true=>(match some (l==l) with|some true=>(match some (m==m) with|some true=>some true|some false=>some false|none=>none)|some false=>some false|none=>none)|some false=>some false|none=>none)|some false=>some false|none=>none)|some false=>some false|none=>none)|some false=>some false|none=>none)|some false=>some false|none=>none)|some false=>some false|none=>none)|some false=>some false|none=>none)|some false=>some false|none=>none):=fun _ _ _ _ _ _ _ _ _ _=>rfl;unfold aC;rw[h];simp only[beq_self_eq_true,Option.map_some,Bool.not_true]
theorem De (t:dx):gX pv .neq 60 (.agg (aL t)) (.agg (aL t))=some (.bool false):=by
 have h:∀a b c d e g i j k l m:Int,gX pv .neq 60 (.agg [.int .i64 a,.int .i64 b,.int .i64 c,.int .i64 d,.int .i64 e,.int .i64 g,.int .i64 i,.int .i64 j,.int .i64 k,.int .i64 l,.int .i64 m]) (.agg [.int .i64 a,.int .i64 b,.int .i64 c,.int .i64 d,.int .i64 e,.int .i64 g,.int .i64 i,.int .i64 j,.int .i64 k,.int .i64 l,.int .i64 m])=Option.map (fun b=>D.bool !b) (match some (a==a) with|some true=>(match(match some (b==b) with|some true=>(match some (c==c) with|some true=>(match some (d==d) with|some true=>(match some (e==e) with|some true=>(match some (g==g) with|some true=>(match some (i==i) with|some true=>(match some (j==j) with|some true=>(match some (k==k) with|some true=>(match some (l==l) with|some true=>(match some (m==m) with|some true=>some true|some false=>some false|none=>none)|some false=>some false|none=>none)|some false=>some false|none=>none)|some false=>some false|none=>none)|some false=>some false|none=>none)|some false=>some false|none=>none)|some false=>some false|none=>none)|some false=>some false|none=>none)|some false=>some false|none=>none)|some false=>some false|none=>none) with|some true=>some true|some false=>some false|none=>none)|some false=>some false|none=>none):=fun _ _ _ _ _ _ _ _ _ _ _=>rfl;unfold aL;rw[h];simp only[beq_self_eq_true,Option.map_some,Bool.not_true]
theorem vL {s0:St} {x y:D} {l:List dx} (hx:V.Rows s0 11 x (l.map aL)) (hy:V.Rows s0 11 y (l.map aL)) (hl:l.length≤1073741824):Ev pv 67 [x,y] s0 (.bool true) s0:=by
 refine Ev.mk1 rfl IH rfl rfl rfl ?_;refine zE ?_;obtain⟨hSb,hF,hH⟩:=ri s0;generalize enterSt .ro s0=S at*;have hx:=Arg.of hx hSb;have hy:=Arg.of hy hSb;refine zQ 8 ?_;refine qn ?_;simp only[List.length_map];refine qm ?_;refine qn ?_;simp only[List.length_map];refine zQ 2 ?_;refine qE rfl (by simp) ?_;refine zQ 7 ?_;refine EvC.loop (fun mm fr st=>∃(i:Nat),fr.clean=⟨6,[x,y,lJ fr 2,lJ fr 3,.bool false,.int .i64 (i:Nat)],[]⟩∧Has s0.bs.length S st []∧(i+mm=l.length)) (l.length) ?_ ?_
 ·exact⟨0,rfl,hH,by omega⟩
 rintro mm fr st ⟨i,hfr,hH,hi⟩;rw[hfr];clear hfr;generalize lJ fr=ee;clear fr;refine zQ 5 ?_;refine qn ?_;simp only[List.length_map];refine zQ 2 ?_;refine zP (fun h1=>?_) fun h1=>?_
 ·refine zQ 1 ?_
  obtain⟨p,hp⟩:∃p,l[i]?=some p:=⟨l[i]'(by omega),List.getElem?_eq_getElem _⟩
  have hr1:=rK hp;refine zQ 6 ?_;refine qr fun J5 Fy=>?_;refine EvO.cq rfl (ev rfl) (by assumption) rfl (put_T rfl _) ?_;refine zQ 2 ?_;refine qr fun J2 Fv=>?_;refine EvO.cq rfl (ev rfl) (by assumption) rfl (put_T rfl _) ?_;refine EvO.Gw rfl (ev rfl) (ev rfl) (De p) (put_T rfl _) ?_;refine zQ 8 ?_;exact⟨mm-1,by omega,⟨i+1,rfl,hH,by omega⟩⟩
 ·refine zQ 5 ?_;refine EvC.ret ⟨rx,_,rfl,rl hSb hH (rfl)⟩
def vn (es:List (List D)) (L:List PL):Prop:=es.length=L.length∧∀(i:Nat) l,L[i]?=some l→∃d,SlD d 11 (l.aV.map aL)∧es[i]?=some (aK l.dn l.aJ d)
theorem qG {L:List PL} (h:∀l∈L,l.aV=[]):vn (L.map sV) L:=⟨List.length_map _,fun i l hl=>⟨.nul,by rw[h l (List.mem_of_getElem? hl)];exact .inl ⟨rfl,rfl⟩,by rw[List.getElem?_map,hl];rfl⟩⟩
def l8 (st:St) (es:List (List D)) (L:List PL):Prop:=es.length=L.length∧∀(i:Nat) l,L[i]?=some l→∃d,V.Rows st 11 d (l.aV.map aL)∧es[i]?=some (aK l.dn l.aJ d)
theorem vn.any {es:List (List D)} {L:List PL} (h:vn es L) (st:St):l8 st es L:=⟨h.1,fun i l hl=>by
 obtain⟨d,h1,h2⟩:=h.2 i l hl
 exact⟨d,h1.rows st,h2⟩⟩
theorem zc {s0:St} {x y:D} {es fs:List (List D)} {L:List PL} (hx:V.Rows s0 12 x es) (hy:V.Rows s0 12 y fs) (mO:l8 s0 es L) (DR:l8 s0 fs L) (hl:L.length≤1073741824) (vt:∀l∈L,l.aV.length≤1000):Ev pv 22 [x,y] s0 (.bool true) s0:=by
 obtain⟨ng,LG⟩:=mO;obtain⟨lU,Ly⟩:=DR;refine Ev.mk1 rfl II rfl rfl rfl ?_;refine zE ?_;obtain⟨hSb,hF,hH⟩:=ri s0;generalize enterSt .ro s0=S at*;have hx:=Arg.of hx hSb;have hy:=Arg.of hy hSb;refine zQ 8 ?_;refine qn ?_;refine qm ?_;refine qn ?_;refine zQ 2 ?_;refine qE rfl (by rw[ng,lU];simp) ?_;refine zQ 7 ?_;refine EvC.loop (fun mm fr st=>∃(i:Nat),fr.clean=⟨6,[x,y,lJ fr 2,lJ fr 3,.bool false,.int .i64 (i:Nat)],[]⟩∧Has s0.bs.length S st []∧(i+mm=es.length)) (es.length) ?_ ?_
 ·exact⟨0,rfl,hH,by omega⟩
 rintro mm fr st ⟨i,hfr,hH,hi⟩;rw[hfr];clear hfr;generalize lJ fr=ee;clear fr;refine zQ 5 ?_;refine qn ?_;refine zQ 2 ?_;refine zP (fun h1=>?_) fun h1=>?_
 ·refine zQ 1 ?_
  obtain⟨l,hll⟩:∃l,L[i]?=some l:=⟨L[i]'(by omega),List.getElem?_eq_getElem _⟩
  obtain⟨d1,wH,hr1⟩:=LG i l hll;obtain⟨d2,tg,mN⟩:=Ly i l hll;have mJ:=vt l (List.mem_of_getElem? hll);have bX:(l.dn !=l.dn)=false:=by simp
  have oF:false=false:=rfl;refine zQ 3 ?_;refine EvC.cutT 54 (.bool false) [] ?_ (fun ff tmp htmp=>?_)
  ·refine zQ 2 ?_;refine qr fun J5 Fy=>?_;refine qf (fo:=0) fun G6 Bv=>?_;refine zQ 3 ?_;refine qr fun Gv zk=>?_;refine qf (fo:=0) fun Gu zj=>?_;refine zQ 5 ?_;refine qr (fun O0 K_=>?_) (hg:=wi bX);refine qf (fo:=1) (fun OZ K9=>?_) (hg:=wi bX);refine zQ 3 ?_;refine qr (fun J1 Fu=>?_) (hg:=wi bX);refine qf (fo:=1) (fun J0 Ft=>?_) (hg:=wi bX);refine zQ 1 ?_;refine EvO.Gw (wantD_is rfl rfl rfl bX) (ev rfl) (ev rfl) (ue l.aJ) (put_T rfl _) ?_;refine zQ 4 ?_;refine qr (fun OU K4=>?_) (hg:=wi oF);refine qf (fo:=11) (fun OT K3=>?_) (hg:=wi oF);refine zQ 3 ?_;refine qr (fun JZ Fs=>?_) (hg:=wi oF);refine qf (fo:=11) (fun JY Fq=>?_) (hg:=wi oF);refine zQ 1 ?_;refine qv (vL ((Arg.of wH hSb).rows hH) ((Arg.of tg hSb).rows hH) (by omega)) ?_ (hg:=wi oF);refine zQ 2 ?_;refine EvO.nil (leafT ?_ ?_)
   ·dsimp only[setW,List.foldl,nth,u2,u1]
    all_goals(first|rfl|simp)
   ·dsimp only[Fr.putO,Fr.put,Fr.clean,Fr.ev,Fr.get,nth,look,u1,u2,v1,v2,v4]
    all_goals(rfl)
  dsimp only[setW,List.foldl,nth,u2,u1];dsimp only[Fr.putO,Fr.put,Fr.clean,Fr.ev,Fr.get,nth,look,u1,u2,v1,v2,v4];refine zQ 7 ?_;exact⟨mm-1,by omega,⟨i+1,rfl,hH,by omega⟩⟩
 ·refine zQ 5 ?_;refine EvC.ret ⟨rx,_,rfl,rl hSb hH (rfl)⟩
theorem Bc {s0:St} {x y:D} {es fs:List (List D)} {L:List PL} (hx:V.Rows s0 12 x es) (hy:V.Rows s0 12 y fs) (mO:vn es L) (DR:vn fs L) (hl:L.length≤1073741824) (vt:∀l∈L,l.aV.length≤1000):Ev pv 22 [x,y] s0 (.bool true) s0:=
 zc hx hy (mO.any s0) (DR.any s0) hl vt
theorem l8.ex {s0 S st:St} {H:List aN} {es:List (List D)} {L:List PL} (h:l8 s0 es L) (hS:S.bs=s0.bs) (hH:Has s0.bs.length S st H):l8 st es L:=⟨h.1,fun i l hl=>by
 obtain⟨d,h1,h2⟩:=h.2 i l hl
 exact⟨d,(Arg.of h1 hS).rows hH,h2⟩⟩
def PL.v (l:PL):VL:=⟨l.dn,l.aJ,Nc l.aV,l.aV⟩
open Go.V Go Go.RowKit
theorem ny (code:List az) (pl:Nat) (e:Bool):∀(f:Nat) (w:Wk) (t:dx),bN (code.map de) pl e f w t=bN code pl e f w t
 |0,_,_=>rfl
 |f+1,w,t=>by
  unfold bN;simp only[ny code pl e f,List.getElem?_map]
  cases code[t.pc]? with
  |none=>rfl
  |some i=>rfl
theorem oQ (code:List az) (pl:Nat) (e:Bool):∀(l:List dx) (w:Wk),mF (code.map de) pl e l w=mF code pl e l w
 |[],_=>rfl
 |t::ts,w=>by
  unfold mF;simp only[ny,List.length_map,oQ code pl e ts]
theorem yO (code:List az) (k:Nat):yP (code.map de) k=yP code k:=by
 unfold yP;rw[List.getElem?_map];cases code[k]?<;>rfl
theorem nZ (code:List az) (r:Int):∀(l a:List dx),ej (code.map de) r l a=ej code r l a
 |[],_=>rfl
 |t::ts,a=>by unfold ej;simp only[yO,nZ code r ts]
theorem vF (code:List az) (pl s:Nat) (r:Int) (l:PL):dA (code.map de) pl s r l=dA code pl s r l:=by
 unfold dA;simp only[oQ,nZ,List.length_map]
theorem mc (code:List az) (pl:Nat) (r:Int):∀(ss:List Nat) (ls:List PL),eE (code.map de) pl r ss ls=eE code pl r ss ls
 |[],_=>rfl
 |_::_,[]=>rfl
 |s::ss,l::ls=>by simp only[eE,vF,mc code pl r ss ls]
theorem zB (code:List az) (pl:Nat):lW (code.map de) pl=lW code pl:=by
 funext l;unfold lW;simp only[oQ,List.length_map]
theorem kT.aM {p q:Pg} (h:kT p q):aM q=aM p:=by unfold Go.Proofs.YtnleclohocdkaaaGreat.aM;rw[h.aq]
theorem pK {p:Pg} (hR:aR p) {pl:Nat} {r:Int}:∀{ss:List Nat} {ls:List PL},(∀s∈ss,s<p.code.length)→∀l∈eE p.code pl r ss ls,l.ok p.code.length
 |[],_,_,l,hl=>by cases hl
 |_::_,[],_,l,hl=>by cases hl
 |s::ss,x::ls,hs,l,hl=>by
  simp only[eE,List.mem_cons] at hl
  rcases hl with rfl|hl
  ·exact An hR (hs s (List.mem_cons_self ..))
  ·exact pK hR (fun s h=>hs s (List.mem_cons_of_mem _ h)) l hl
theorem vG {p:Pg} (hR:aR p):∀s∈aM p,s<p.code.length:=by
 intro s hs;obtain⟨v,hv,rfl⟩:=List.mem_map.1 hs;have:=hR.st v hv;omega
def c_ (ks kv:Nat) (p:Pg) (pl:Nat) (ld pd qd:D) (P Q:List Nat) (L:List VL):List aN:=
 .box kv (.mem 0 false [p.cd,p.sd,.int .i64 (pl:Nat),ld,.ptr ks 0 0])::.box ks (.mem 0 false [pd,qd])::.lst pd 1 (P.map eA)::.lst qd 2 (Q.map kY)::.lst ld 12 (L.map dX)::L.map j7
theorem n_ {A:List aN} {N:Nat} {S st:St} {ks kv:Nat} {p:Pg} {pl:Nat} {ld:D} {L:List VL} {H:List aN} (h:MH A N S st ks kv p pl ld L H):∃pd qd P Q sn,Has N S st (A++(c_ ks kv p pl ld pd qd P Q L++H))∧cj P Q sn∧sn.length=p.code.length:=by
 obtain⟨pd,qd,P,Q,sn,hH,h1,h2⟩:=h;exact⟨pd,qd,P,Q,sn,by simpa only[c_,List.cons_append] using hH,h1,h2⟩
theorem uh {A:List aN} {N:Nat} {S st:St} {ks kv:Nat} {p:Pg} {pl:Nat} {ld:D} {L:List VL} {H:List aN} {pd qd:D} {P Q:List Nat} {sn:List Bool} (hH:Has N S st (A++(c_ ks kv p pl ld pd qd P Q L++H))) (h1:cj P Q sn) (h2:sn.length=p.code.length):MH A N S st ks kv p pl ld L H:=
 ⟨pd,qd,P,Q,sn,by simpa only[c_,List.cons_append] using hH,h1,h2⟩
def MM (A:List aN) (N:Nat) (S st:St) (ks kv:Nat) (p:Pg) (pl:Nat) (ld:D) (L:List VL) (qM qK:Nat) (p2:Pg) (xF:Nat) (qJ:D) (L2:List VL):Prop:=
 ∃pd qd P Q sn CA Cz P2 Q2 EN,Has N S st (A++(c_ ks kv p pl ld pd qd P Q L++c_ qM qK p2 xF qJ CA Cz P2 Q2 L2))∧cj P Q sn∧sn.length=p.code.length∧cj P2 Q2 EN∧EN.length=p2.code.length
section
variable{A:List aN} {N:Nat} {S st:St} {ks kv qM qK:Nat} {p p2:Pg} {pl xF:Nat} {ld qJ:D} {L L2:List VL}
theorem MM.one (h:MM A N S st ks kv p pl ld L qM qK p2 xF qJ L2):∃H,MH [] N S st ks kv p pl ld L H∧∀(B:List aN) (ae:St) (tb:Nat) (wk:D) (L':List VL),MH B N S ae ks kv p tb wk L' H→MM (B++A) N S ae ks kv p tb wk L' qM qK p2 xF qJ L2:=by
 obtain⟨pd,qd,P,Q,sn,CA,Cz,P2,Q2,EN,hH,h1,h2,h3,h4⟩:=h
 refine⟨c_ qM qK p2 xF qJ CA Cz P2 Q2 L2++A,uh (by
  have a:=Has.g_ A (c_ ks kv p pl ld pd qd P Q L++c_ qM qK p2 xF qJ CA Cz P2 Q2 L2) (H:=[]) (by rw[List.append_nil];exact hH);rw[List.append_nil,List.append_assoc] at a
  exact a) h1 h2,fun B ae tb wk L' hM=>?_⟩
 obtain⟨xG,xE,P',Q',GZ,L8,F5,IC⟩:=n_ hM;refine⟨xG,xE,P',Q',GZ,CA,Cz,P2,Q2,EN,?_,F5,IC,h3,h4⟩
 have a:=Has.g_ (B++(c_ ks kv p tb wk xG xE P' Q' L'++c_ qM qK p2 xF qJ CA Cz P2 Q2 L2)) A (H:=[]) (by rw[List.append_nil];simpa only[List.append_assoc] using L8);have b:Has N S ae (A++(B++((c_ ks kv p tb wk xG xE P' Q' L'++c_ qM qK p2 xF qJ CA Cz P2 Q2 L2)++[]))):=by simpa only[List.append_assoc] using a
 have c:=Has.g_ _ _ b;rw[List.append_nil] at c
 simpa only[List.append_assoc] using c
theorem MM.drop (n:Nat) (h:MM A N S st ks kv p pl ld L qM qK p2 xF qJ L2) (hn:n≤A.length):MM (A.drop n) N S st ks kv p pl ld L qM qK p2 xF qJ L2:=by
 obtain⟨pd,qd,P,Q,sn,CA,Cz,P2,Q2,EN,hH,h1,h2,h3,h4⟩:=h;refine⟨pd,qd,P,Q,sn,CA,Cz,P2,Q2,EN,?_,h1,h2,h3,h4⟩;have:=hH.drop n
 rwa [List.drop_append_of_le_length hn] at this
theorem MM.has (h:MM A N S st ks kv p pl ld L qM qK p2 xF qJ L2):Has N S st A:=by
 obtain⟨pd,qd,P,Q,sn,CA,Cz,P2,Q2,EN,hH,_⟩:=h;have:=hH.take A.length
 rwa [List.take_left] at this
theorem MM.made {pd qd:D} {P Q:List Nat} {sn:List Bool} (h:MH [] N S st ks kv p pl ld L (c_ qM qK p2 xF qJ pd qd P Q L2++A)) (h1:cj P Q sn) (h2:sn.length=p2.code.length):MM A N S st ks kv p pl ld L qM qK p2 xF qJ L2:=by
 obtain⟨xG,xE,P',Q',GZ,hH,h3,h4⟩:=n_ h;refine⟨xG,xE,P',Q',GZ,pd,qd,P,Q,sn,?_,h3,h4,h1,h2⟩;have a:=Has.g_ (c_ ks kv p pl ld xG xE P' Q' L++c_ qM qK p2 xF qJ pd qd P Q L2) A (H:=[]) (by rw[List.append_nil];simpa only[List.nil_append,List.append_assoc] using hH)
 rwa [List.append_nil] at a
end
end Go.Proofs.YtnleclohocdkaaaGreat
