/-
 A machine's thread goes on as far as it can without a rune.
-/
import Derived.Test.YtbdnabmmlbiomaaXGQp
import Derived.Test.YtbdnabmmlbiomaaXGQh
import Derived.Test.YtbdnabmmlbiomaaXGUb
set_option maxRecDepth 100000
set_option maxHeartbeats 4000000
set_option linter.unusedSimpArgs false
set_option linter.unusedVariables false
namespace Go.Proofs.Ytbdnabmmlbiomaa
open Go.V Go
def cj (fr:Go.V.Fr) (k:Nat):Go.V.D:=Go.V.nth .bw fr.loc k
structure gk where
 pc:Nat
 c:kM
def bH (t:gk):List D:=[.int .i64 (t.pc:Nat),.int .i64 (t.c 0),.int .i64 (t.c 1),.int .i64 (t.c 2),.int .i64 (t.c 3),.int .i64 (t.c 4),.int .i64 (t.c 5),.int .i64 (t.c 6),.int .i64 (t.c 7),.int .i64 (t.c 8),.int .i64 (t.c 9)]
def bT (dn:Bool) (f:kM) (d:D):List D:=[.bool dn,.int .i64 (f 0),.int .i64 (f 1),.int .i64 (f 2),.int .i64 (f 3),.int .i64 (f 4),.int .i64 (f 5),.int .i64 (f 6),.int .i64 (f 7),.int .i64 (f 8),.int .i64 (f 9),d]
theorem CE {a:D} {f:kM} {x:Nat} {v:Int} (hx:x<10):setMany (a::ay f) (1+x) [.int .i64 v]=a::ay (tV f x v):=by
 match x,hx with
 |0,_=>rfl
 |1,_=>rfl
 |2,_=>rfl
 |3,_=>rfl
 |4,_=>rfl
 |5,_=>rfl
 |6,_=>rfl
 |7,_=>rfl
 |8,_=>rfl
 |9,_=>rfl
structure Wk where
 seen:List Bool
 dn:Bool
 aX:kM
 rdy:List gk
def bX (code:List aK) (pl:Nat) (e:Bool):Nat→Wk→gk→Wk×Bool
 |0,w,_=>(w,false)
 |f+1,w,t=>
  if w.seen.getD t.pc true=true then(w,false) else
  match code[t.pc]? with
  |none=>(w,false)
  |some i=>
   if i.op=7 then(⟨w.seen.set t.pc true,true,t.c,w.rdy⟩,true)
   else if i.op=2 then
    if(bX code pl e f ⟨w.seen.set t.pc true,w.dn,w.aX,w.rdy⟩ ⟨i.x.toNat,t.c⟩).2=true then bX code pl e f ⟨w.seen.set t.pc true,w.dn,w.aX,w.rdy⟩ ⟨i.x.toNat,t.c⟩
    else bX code pl e f (bX code pl e f ⟨w.seen.set t.pc true,w.dn,w.aX,w.rdy⟩ ⟨i.x.toNat,t.c⟩).1 ⟨i.y.toNat,t.c⟩
   else if i.op=1 then(⟨w.seen.set t.pc true,w.dn,w.aX,w.rdy++[t]⟩,false)
   else if i.op=3 then bX code pl e f ⟨w.seen.set t.pc true,w.dn,w.aX,w.rdy⟩ ⟨i.x.toNat,t.c⟩
   else if i.op=4 then bX code pl e f ⟨w.seen.set t.pc true,w.dn,w.aX,w.rdy⟩ ⟨t.pc+1,tV t.c i.x.toNat (pl:Nat)⟩
   else if i.op=5 then if pl=0 then bX code pl e f ⟨w.seen.set t.pc true,w.dn,w.aX,w.rdy⟩ ⟨t.pc+1,t.c⟩ else(⟨w.seen.set t.pc true,w.dn,w.aX,w.rdy⟩,false)
   else if e=true then bX code pl e f ⟨w.seen.set t.pc true,w.dn,w.aX,w.rdy⟩ ⟨t.pc+1,t.c⟩ else(⟨w.seen.set t.pc true,w.dn,w.aX,w.rdy⟩,false)
def Good (code:List aK) (w w':Wk):Prop:=
 w'.seen.length=w.seen.length∧w'.seen.count false≤w.seen.count false∧w'.rdy.length+w'.seen.count false≤w.rdy.length+w.seen.count false∧∀t∈w'.rdy,t∈w.rdy∨∃i,code[t.pc]?=some i∧i.op=1
theorem Good.refl {code:List aK} {w:Wk}:Good code w w:=⟨rfl,Nat.le_refl _,Nat.le_refl _,fun t h=>.inl h⟩
theorem Good.trans {code:List aK} {a b c:Wk} (h:Good code a b) (k:Good code b c):Good code a c:=
 ⟨k.1.trans h.1,Nat.le_trans k.2.1 h.2.1,Nat.le_trans k.2.2.1 h.2.2.1,fun t ht=>by
  rcases k.2.2.2 t ht with q|q
  ·exact h.2.2.2 t q
  ·exact .inr q⟩
theorem Good.step {code:List aK} {w w':Wk} {j:Nat} (hj:w.seen[j]?=some false) (k:Good code ⟨w.seen.set j true,w.dn,w.aX,w.rdy⟩ w'):Good code w w':=by
 have hc:=count_set hj;refine Good.trans (b:=⟨w.seen.set j true,w.dn,w.aX,w.rdy⟩) ⟨?_,?_,?_,fun t h=>.inl h⟩ k
 ·simp
 ·show(w.seen.set j true).count false≤_;omega
 ·show w.rdy.length+(w.seen.set j true).count false≤_;omega
theorem vM {l:List Bool} {j:Nat} (h:¬l.getD j true=true):l[j]?=some false:=by
 rw[List.getD_eq_getElem?_getD] at h
 cases hq:l[j]? with
 |none=>rw[hq] at h;exact absurd rfl h
 |some b=>rw[hq] at h;cases b with
  |false=>rfl
  |true=>exact absurd rfl h
theorem yN {l:List Bool} {j:Nat} {b:Bool} (h:l[j]?=some b):l.getD j true=b:=by
 rw[List.getD_eq_getElem?_getD,h];rfl
theorem cn (code:List aK) (pl:Nat) (e:Bool):∀(f:Nat) (w:Wk) (t:gk),Good code w (bX code pl e f w t).1
 |0,w,t=>.refl
 |f+1,w,t=>by
  unfold bX
  split
  ·exact .refl
  ·rename_i hs;have hs:=vM hs;have hc:=count_set hs
   split
   ·exact .refl
   ·rename_i i hi
    split
    ·exact Good.step hs ⟨rfl,Nat.le_refl _,Nat.le_refl _,fun t h=>.inl h⟩
    ·split
     ·split
      ·exact Good.step hs (cn code pl e f _ _)
      ·exact Good.step hs ((cn code pl e f _ _).trans (cn code pl e f _ _))
     ·split
      ·rename_i h1;refine⟨by simp,by show(w.seen.set t.pc true).count false≤_;omega,by show(w.rdy++[t]).length+(w.seen.set t.pc true).count false≤_;rw[List.length_append];simp only[List.length_cons,List.length_nil];omega,fun t' h=>?_⟩
       rcases List.mem_append.1 h with h|h
       ·exact .inl h
       ·simp only[List.mem_cons,List.not_mem_nil,or_false] at h;subst h;exact .inr ⟨i,hi,h1⟩
      ·split
       ·exact Good.step hs (cn code pl e f _ _)
       ·split
        ·exact Good.step hs (cn code pl e f _ _)
        ·split
         ·split
          ·exact Good.step hs (cn code pl e f _ _)
          ·exact Good.step hs .refl
         ·split
          ·exact Good.step hs (cn code pl e f _ _)
          ·exact Good.step hs .refl
theorem mo (A:List bP) {N ks:Nat} {S s0:St} {H:List bP} {seen:List Bool} {i:Nat} {b:Bool} {pd qd:D} {P Q:List Nat} (hF:S.flr≤N) (hi:seen[i]?=some b) (ba:dN P Q seen) (hH:Has N S s0 (A++(.box ks (.mem 0 false [pd,qd])::.aL pd 1 (P.map fK)::.aL qd 2 (Q.map mJ)::H))):
  ∃r ah,Ev pv 51 [.ptr ks 0 0,.int .i64 (i:Nat),.bool true] s0 r ah∧r=.bool (!b)∧∃pd qd P Q,Has N S ah (A++(.box ks (.mem 0 false [pd,qd])::.aL pd 1 (P.map fK)::.aL qd 2 (Q.map mJ)::H))∧dN P Q (seen.set i true):=by
 obtain⟨r,ah,h1,h2,OK,OH,P',Q',h3,h4⟩:=yM (H:=A++H) hF hi ⟨pd,qd,P,Q,Has.pU A [_,_,_] hH,ba⟩;exact⟨r,ah,h1,h2,OK,OH,P',Q',Has.pU [_,_,_] A h3,h4⟩
theorem ni (A:List bP) {N ks:Nat} {S s0:St} {H:List bP} {seen:List Bool} {pd qd:D} {P Q:List Nat} (hF:S.flr≤N) (ba:dN P Q seen) (hH:Has N S s0 (A++(.box ks (.mem 0 false [pd,qd])::.aL pd 1 (P.map fK)::.aL qd 2 (Q.map mJ)::H))):
  ∃r ah,Ev pv 48 [.ptr ks 0 0] s0 r ah∧r=.tup []∧∃pd qd P Q,Has N S ah (A++(.box ks (.mem 0 false [pd,qd])::.aL pd 1 (P.map fK)::.aL qd 2 (Q.map mJ)::H))∧dN P Q (List.replicate seen.length false):=by
 obtain⟨r,ah,h1,h2,OK,OH,P',Q',h3,h4⟩:=tT (H:=A++H) hF ⟨pd,qd,P,Q,Has.pU A [_,_,_] hH,ba⟩;exact⟨r,ah,h1,h2,OK,OH,P',Q',Has.pU [_,_,_] A h3,h4⟩
def TK (N:Nat) (S st:St) (ks kv kw kl:Nat) (p:Pg) (pl:Nat) (ld:D) (e:Bool) (w:Wk) (H:List bP):Prop:=
 ∃rd pd qd P Q,Has N S st (.box kv (.mem 0 false [p.cd,p.sd,.int .i64 (pl:Nat),ld,.ptr ks 0 0])::.box kw (.mem 0 false [.ptr kl 0 0,rd,.bool e])::.box kl (.mem 0 false (bT w.dn w.aX .nul))::.aL rd 11 (w.rdy.map bH)::.box ks (.mem 0 false [pd,qd])::.aL pd 1 (P.map fK)::.aL qd 2 (Q.map mJ)::H)∧dN P Q w.seen
theorem Gq {N ks kv kw kl:Nat} {S:St} {H:List bP} {p:Pg} {pl:Nat} {ld:D} {e:Bool} (hF:S.flr≤N) (hp:p.ok) (hR:bW p) (fF:pl≤1099511627776):∀(f:Nat) (w:Wk) (t:gk) (s0:St) (H:List bP),t.pc<p.code.length→w.seen.length=p.code.length→w.seen.count false<f→w.rdy.length+w.seen.count false≤1048576→TK N S s0 ks kv kw kl p pl ld e w H→
  ∃r ah,Ev pv 49 [.ptr kv 0 0,.ptr kw 0 0,.agg (bH t)] s0 r ah∧r=.bool (bX p.code pl e f w t).2∧TK N S ah ks kv kw kl p pl ld e (bX p.code pl e f w t).1 H
 |0,_,_,_,_,_,_,h,_,_=>absurd h (Nat.not_lt_zero _)
 |f+1,w,t,s0,H,FP,jb,dP,rC,hT=>by
  have ih:=Gq (ks:=ks) (kv:=kv) (kw:=kw) (kl:=kl) (S:=S) (H:=H) (ld:=ld) (e:=e) hF hp hR fF f;obtain⟨rd,pd,qd,P,Q,hH,ba⟩:=hT;have hc:=hp.c.arg N S;have hlen:=hp.cl
  obtain⟨i,hi⟩:∃i,p.code[t.pc]?=some i:=⟨p.code[t.pc]'FP,List.getElem?_eq_getElem _⟩
  obtain⟨b,hb⟩:∃b,w.seen[t.pc]?=some b:=⟨w.seen[t.pc]'(by omega),List.getElem?_eq_getElem _⟩
  have hr:=gz hi;have zh:=(hp.i i (List.mem_of_getElem? hi)).1;have lg:=d_ (hR.sh t.pc i hi);have wD:=yN hb;have jE:bX p.code pl e (f+1) w t=bX p.code pl e (f+1) w t:=rfl
  conv at jE=>rhs;unfold bX
  rw[wD] at jE;simp only[hi] at jE;generalize bX p.code pl e (f+1) w t=R at*;obtain⟨op,x,y,T5,rs⟩:=i;obtain⟨pc,c⟩:=t;simp only at*;refine Ev.jD rfl RI rfl rfl rfl ?_;dsimp only[u3,u4,List.length,Nat.reduceSub,Nat.reduceAdd,w1,w2];change af _ _ _ _ s0 _;refine qq<|qj fun K hK=>qb hH fun k5 st KK hH=>?_;dsimp only[u2,u1,u3,u4,setMany,u5,u6,D.cells,Nat.reduceAdd,aG,bH,bT,ay] at hH;refine qm ?_;refine qe hK<|qq<|qq<|qj fun K hK=>qm ?_;refine qg ?_;refine qp (o:=4) ?_;refine ql hH b4 ?_;refine qp (o:=0) ?_;refine ql hH aB ?_;obtain⟨_,st,aO,rfl,pd,qd,P,Q,hH,ba⟩:=mo [_,_,_,_,_] hF hb ba hH;dsimp only[u3,u4] at hH;refine qv aO ?_;refine qg ?_;refine qe hK ?_
  cases b with
  |true=>
   rw[if_pos rfl] at jE;subst jE;refine qB ?_;refine qq<|qj fun K hK=>qm ?_;refine qe hK<|af.ret ⟨rx,_,_,_,rfl,rfl,?_⟩;refine⟨rfl,rd,pd,qd,P,Q,hH.drop 1,?_⟩
   have:w.seen.set pc true=w.seen:=by
    refine List.ext_getElem? fun j=>?_
    by_cases hj:j=pc
    ·subst hj;rw[List.getElem?_set_self (by omega),hb]
    ·rw[List.getElem?_set_ne (fun e=>hj e.symm)]
   rw[←this];exact ba
  |false=>
   rw[if_neg (by decide)] at jE;have wG:=count_set hb;have Bh:(w.seen.set pc true).length=p.code.length:=by rw[List.length_set];exact jb
   have NI:(w.seen.set pc true).count false<f:=by omega
   have MM:w.rdy.length+(w.seen.set pc true).count false≤1048576:=by omega
   generalize w.seen.set pc true=sn at*;clear hb wD wG jb dP rC;refine qC ?_;refine af.skip<|qq<|qj fun K hK=>qm ?_;refine qg ?_;refine qp (o:=0) ?_;refine qp (o:=0) ?_;refine ql hH b4 ?_;refine qp (o:=0) ?_;refine ql hH aB ?_;refine qr fun Oa FR=>?_;refine ab.eA rfl (ev rfl) (by assumption) rfl (by dsimp only[Fr.put,u1,u2]<;>rfl) ?_;refine qa hH fun k7 st Qg hH=>?_;refine qS hH aB fun st hH=>?_;dsimp only[u2,u1,u3,u4,setMany,u5,u6,D.cells,Nat.reduceAdd,aG,bH,bT,ay] at hH;refine qe hK<|qq<|qj fun K hK=>?_;refine ab.bf (m:=11) hH rfl (ev rfl) (by exact b4) (by dsimp only[List.drop_succ_cons,List.drop_zero,List.take_succ_cons,List.take_zero,aG,bH,bT,ay]<;>rfl) rfl rfl (by dsimp only[Fr.put,u1,u2]<;>rfl) ?_;refine qa hH fun k8 st Nd hH=>?_;refine qS hH aB fun st hH=>?_;dsimp only[u2,u1,u3,u4,setMany,u5,u6,D.cells,Nat.reduceAdd,aG,bH,bT,ay] at hH;refine qe hK<|qq<|qj fun K hK=>qp (o:=0) ?_;refine ql hH aB ?_;refine qA ?_;refine qp (o:=0) ?_;refine qT hH aB fun st hH=>?_;dsimp only[u2,u1,u3,u4,setMany,u5,u6,D.cells,Nat.reduceAdd,aG,bH,bT,ay] at hH;refine qe hK<|qq<|qq<|qj fun K hK=>qp (o:=0) ?_;refine ql hH b4 ?_;refine qe hK<|af.merge (fun fr st=>∃(t':gk) (tmp:List (Nat×D)),fr=⟨33,[.ptr kv 0 0,.ptr kw 0 0,cj fr 2,cj fr 3,cj fr 4,.ptr k5 0 0,.bool false,.ptr k7 0 0,.ptr k8 0 0,cj fr 9,cj fr 10,cj fr 11,cj fr 12,cj fr 13,cj fr 14,cj fr 15,cj fr 16,cj fr 17,cj fr 18,cj fr 19,cj fr 20,cj fr 21,cj fr 22,cj fr 23,cj fr 24,cj fr 25,cj fr 26,cj fr 27,cj fr 28,cj fr 29,cj fr 30,cj fr 31,cj fr 32],tmp⟩∧Has N S st (.box k8 (.mem 0 false (bH t'))::.box k7 (.mem 0 false [.int .i64 op,.int .i64 x,.int .i64 y,T5])::.box k5 (.mem 0 false (bH ⟨pc,c⟩))::.box kv (.mem 0 false [p.cd,p.sd,.int .i64 (pl:Nat),ld,.ptr ks 0 0])::.box kw (.mem 0 false [.ptr kl 0 0,rd,.bool e])::.box kl (.mem 0 false (bT w.dn w.aX .nul))::.aL rd 11 (w.rdy.map bH)::.box ks (.mem 0 false [pd,qd])::.aL pd 1 (P.map fK)::.aL qd 2 (Q.map mJ)::H)∧(R=bX p.code pl e f ⟨sn,w.dn,w.aX,w.rdy⟩ t')∧(t'.pc<p.code.length)) ?_ ?_
   ·refine af.block<|qq<|qj fun K hK=>qg ?_;refine qm ?_;refine qe hK ?_;refine af.cond (by rfl) (fun h7=>?_) (fun h7=>?_)<;>try simp only[beq_iff_eq,beq_eq_false_iff_ne,ne_eq] at h7
    ·rw[if_pos h7] at jE;subst jE;have zW:=hH;change af _ _ _ _ _ _;refine qq ?_;generalize hK:ck _ _ _ _=K;refine af.Fb rfl ?_;refine f_.cons ?_;refine qm ?_;refine ab.nil ⟨rfl,?_⟩;refine f_.cons ?_;refine qg ?_;refine ab.nil ⟨rfl,?_⟩;refine f_.cons ?_;refine qp (o:=0) ?_;refine ab.nil ⟨rfl,?_⟩;refine f_.cons ?_;refine ql hH fW ?_;refine ab.nil ⟨rfl,?_⟩;refine f_.cons ?_;refine qm ?_;refine ab.nil ⟨rfl,?_⟩;refine f_.cons ?_;refine qg ?_;refine ab.nil ⟨rfl,?_⟩;refine f_.cons ?_;refine qp (o:=0) ?_;refine ab.nil ⟨rfl,?_⟩;refine f_.cons ?_;refine ql hH fW ?_;refine ab.nil ⟨rfl,?_⟩;refine f_.cons ?_;refine qp (o:=1) ?_;refine ab.nil ⟨rfl,?_⟩;refine f_.cons ?_;refine ab.bf (m:=10) hH rfl (ev rfl) (by exact cU) (by dsimp only[List.drop_succ_cons,List.drop_zero,List.take_succ_cons,List.take_zero,aG,bH,bT,ay]<;>rfl) rfl rfl (ae rfl _) ?_;refine ab.nil ⟨rfl,?_⟩;refine f_.cons ?_;refine qg ?_;refine ab.nil ⟨rfl,?_⟩;refine f_.cons ?_;refine qp (o:=0) ?_;refine ab.nil ⟨rfl,?_⟩;refine f_.cons ?_;refine qT hH l7 fun st hH=>?_;dsimp only[u2,u1,u3,u4,setMany,u5,u6,D.cells,Nat.reduceAdd,aG,bH,bT,ay] at hH;refine ab.nil ⟨by exact Bool.and_eq_true_iff.2 ⟨zH rfl rfl rfl (zW.at cU) (hH.at cU) (zW.at cU) rfl,rfl⟩,?_⟩;refine f_.cons ?_;refine qg ?_;refine ab.nil ⟨rfl,?_⟩;refine f_.cons ?_;refine qp (o:=1) ?_;refine ab.nil ⟨rfl,?_⟩;refine f_.cons ?_;refine qT hH l7 fun st hH=>?_;dsimp only[u2,u1,u3,u4,setMany,u5,u6,D.cells,Nat.reduceAdd,aG,bH,bT,ay] at hH;refine ab.nil ⟨rfl,?_⟩;refine f_.nil ?_;subst hK;refine qq<|qj fun K hK=>qm ?_;refine qe hK<|af.ret ⟨rx,_,_,_,rfl,rfl,?_⟩;exact⟨rfl,rd,pd,qd,P,Q,hH.drop 3,ba⟩
    ·rw[if_neg h7] at jE;refine qq<|qj fun K hK=>qg ?_;refine qm ?_;refine qe hK ?_;refine af.cond (by rfl) (fun h2=>?_) (fun h2=>?_)<;>try simp only[beq_iff_eq,beq_eq_false_iff_ne,ne_eq] at h2
     ·rw[if_pos h2] at jE;obtain⟨_,⟨hx0,hx1⟩,hy0,hy1⟩:=(lg.resolve_left h7).resolve_right (by omega);obtain⟨xn,rfl⟩:=Int.eq_ofNat_of_zero_le hx0;obtain⟨yn,rfl⟩:=Int.eq_ofNat_of_zero_le hy0;have Qt:=cn p.code pl e f ⟨sn,w.dn,w.aX,w.rdy⟩ ⟨xn,c⟩;have GR:=Has.pU [_,_,_] [_,_,_,_,_,_,_] hH;obtain⟨_,st1,aO,rfl,hT⟩:=ih ⟨sn,w.dn,w.aX,w.rdy⟩ ⟨xn,c⟩ _ _ (by show xn<_;omega) Bh NI MM ⟨rd,pd,qd,P,Q,GR,ba⟩;clear GR;have jE:R=if(bX p.code pl e f ⟨sn,w.dn,w.aX,w.rdy⟩ ⟨xn,c⟩).2=true then bX p.code pl e f ⟨sn,w.dn,w.aX,w.rdy⟩ ⟨xn,c⟩ else bX p.code pl e f (bX p.code pl e f ⟨sn,w.dn,w.aX,w.rdy⟩ ⟨xn,c⟩).1 ⟨yn,c⟩:=jE;generalize bX p.code pl e f ⟨sn,w.dn,w.aX,w.rdy⟩ ⟨xn,c⟩=R1 at*;obtain⟨w1,b1⟩:=R1;obtain⟨c7,bh,bD,jw⟩:=Qt;simp only at c7 bh bD jw aO hT jE;obtain⟨SC,SK,SD,P1,Q1,GR,M3⟩:=hT;have GR:=Has.pU [_,_,_,_,_,_,_] [_,_,_] GR;dsimp only[u3,u4] at GR
      cases b1 with
      |true=>
       rw[if_pos rfl] at jE;subst jE;have dc:true=true:=rfl;refine qq<|qj fun K hK=>qm ?_;refine qm ?_;refine qp (o:=1) ?_;refine ql hH b4 ?_;refine qp (o:=1) ?_;refine ab.bf (m:=10) hH rfl (ev rfl) (by exact cU) (by dsimp only[List.drop_succ_cons,List.drop_zero,List.take_succ_cons,List.take_zero,aG,bH,bT,ay]<;>rfl) rfl rfl (ae rfl _) ?_;refine ab.go (d:=.agg (bH ⟨xn,c⟩)) (st1:=_) rfl rfl rfl (ae rfl _) ?_;refine qv aO ?_;refine qm ?_;refine qs ?_ (hg:=wn dc);refine qs ?_ (hg:=wn dc);refine qs ?_ (hg:=wn dc);refine qs ?_ (hg:=wn dc);refine qs ?_ (hg:=wn dc);refine qs ?_ (hg:=wn dc);refine qs ?_ (hg:=wn dc);refine qs ?_ (hg:=wn dc);refine qt dc ?_;refine qm ?_;refine qe hK<|af.ret ⟨rx,_,_,_,rfl,rfl,?_⟩;exact⟨rfl,SC,SK,SD,P1,Q1,GR.drop 3,M3⟩
      |false=>
       rw[if_neg (by decide)] at jE;have dc:false=false:=rfl;refine qq<|qj fun K hK=>qm ?_;refine qm ?_;refine qp (o:=1) ?_;refine ql hH b4 ?_;refine qp (o:=1) ?_;refine ab.bf (m:=10) hH rfl (ev rfl) (by exact cU) (by dsimp only[List.drop_succ_cons,List.drop_zero,List.take_succ_cons,List.take_zero,aG,bH,bT,ay]<;>rfl) rfl rfl (ae rfl _) ?_;refine ab.go (d:=.agg (bH ⟨xn,c⟩)) (st1:=_) rfl rfl rfl (ae rfl _) ?_;have hH:=GR;refine qv aO ?_;refine qm ?_;refine qm ?_ (hg:=wi dc);refine qm ?_ (hg:=wi dc);refine qp (o:=2) ?_ (hg:=wi dc);refine ql hH b4 ?_ (hg:=wi dc);refine qp (o:=1) ?_ (hg:=wi dc);refine ab.bf (m:=10) hH (aD rfl rfl rfl dc) (ev rfl) (by exact cU) (by dsimp only[List.drop_succ_cons,List.drop_zero,List.take_succ_cons,List.take_zero,aG,bH,bT,ay]<;>rfl) rfl rfl (ae rfl _) ?_;refine ab.go (d:=.agg (bH ⟨yn,c⟩)) (st1:=_) (aD rfl rfl rfl dc) rfl rfl (ae rfl _) ?_;obtain⟨_,st,aO,rfl,hT⟩:=ih w1 ⟨yn,c⟩ _ _ (by show yn<_;omega) (by omega) (by omega) (by omega) ⟨SC,SK,SD,P1,Q1,hH.drop 3,M3⟩;refine qv aO ?_ (hg:=wi dc);refine qu dc ?_;refine qm ?_;refine qe hK<|af.ret ⟨rx,_,_,_,rfl,rfl,?_⟩;rw[jE];exact⟨rfl,hT⟩
     ·rw[if_neg h2] at jE;refine qq<|qj fun K hK=>qg ?_;refine qm ?_;refine qe hK ?_;refine af.cond (by rfl) (fun h1=>?_) (fun h1=>?_)<;>try simp only[beq_iff_eq,beq_eq_false_iff_ne,ne_eq] at h1
      ·rw[if_pos h1] at jE;subst jE;refine qq<|qj fun K hK=>qm ?_;refine qm ?_;refine qg ?_;refine qp (o:=1) ?_;refine ql hH fW ?_;refine ab.bf (m:=11) hH rfl (ev rfl) (by exact cU) (by dsimp only[List.drop_succ_cons,List.drop_zero,List.take_succ_cons,List.take_zero,aG,bH,bT,ay]<;>rfl) rfl rfl (ae rfl _) ?_;refine qh (s:=11) (vs:=[_]) hH fun k77 st Nf hH=>?_;refine ab.bZ (s:=11) hH rfl (ev rfl) (ev rfl) (by exact Sm) (by exact hH.rows (by exact aB)) rfl rfl rfl rfl rfl rfl rfl ⟨(Nat.le_of_ble_eq_true rfl),(Nat.le_of_ble_eq_true rfl)⟩ (fun _=>(ae rfl _)) (by simp only[List.length_cons,List.length_nil,List.length_map]<;>omega) (by exact .inl hF) (fun TN st hH=>?_);dsimp only[u2,u1,u3,u4,setMany,u5,u6,D.cells,Nat.reduceAdd,aG,bH,bT,ay] at hH;refine qg ?_;refine qp (o:=1) ?_;refine qT hH l7 (fun st hH=>?_) (gG:=hH.dV Sm);dsimp only[u2,u1,u3,u4,setMany,u5,u6,D.cells,Nat.reduceAdd,aG,bH,bT,ay] at hH;refine qe hK<|qq<|qj fun K hK=>qm ?_;refine qe hK<|af.ret ⟨rx,_,_,_,rfl,rfl,?_⟩;refine⟨rfl,TN,pd,qd,P,Q,?_,ba⟩;rw[List.map_append];exact hH.drop 4
      ·rw[if_neg h1] at jE;refine qq<|qj fun K hK=>qg ?_;refine qm ?_;refine qe hK ?_;refine af.cond (by rfl) (fun h3=>?_) (fun h3=>?_)<;>try simp only[beq_iff_eq,beq_eq_false_iff_ne,ne_eq] at h3
       ·rw[if_pos h3] at jE;obtain⟨_,hx0,hx1⟩:=((lg.resolve_left h7).resolve_left (by omega)).resolve_right (by omega);obtain⟨xn,rfl⟩:=Int.eq_ofNat_of_zero_le hx0;refine qj fun K hK=>qp (o:=1) ?_;refine ql hH b4 ?_;refine qp (o:=0) ?_;refine qT hH aB fun st hH=>?_;dsimp only[u2,u1,u3,u4,setMany,u5,u6,D.cells,Nat.reduceAdd,aG,bH,bT,ay] at hH;refine qe hK ?_;exact⟨⟨xn,c⟩,_,rfl,hH,jE,by show xn<_;omega⟩
       ·rw[if_neg h3] at jE;refine qq<|qj fun K hK=>qg ?_;refine qm ?_;refine qe hK ?_;refine af.cond (by rfl) (fun h4=>?_) (fun h4=>?_)<;>try simp only[beq_iff_eq,beq_eq_false_iff_ne,ne_eq] at h4
        ·rw[if_pos h4] at jE;obtain⟨_,zi,hx0,hx1⟩:=(((lg.resolve_left h7).resolve_left (by omega)).resolve_left (by omega)).resolve_right (by omega);obtain⟨xn,rfl⟩:=Int.eq_ofNat_of_zero_le hx0;refine qj fun K hK=>qp (o:=1) ?_;refine ql hH b4 ?_;refine qm ?_;refine qg ?_;refine qp (o:=2) ?_;refine ql hH eF ?_;refine qp (o:=1) ?_;refine ab.F3 (m:=10) (s:=1) (i:=xn) (o:=1+xn) rfl (ev rfl) (ev rfl) rfl rfl (by omega) (by omega) (ae rfl _) ?_;refine ab.mO hH rfl (ev rfl) (ev rfl) rfl (by exact rfl) aB (by show 1+xn+1≤11;omega) (.inl hF) (fun st hH=>?_);change Has _ _ _ (.box k8 (.mem 0 false (setMany (_::ay c) (1+xn) [.int .i64 (pl:Nat)]))::_) at hH;rw[CE (by omega)] at hH;refine qe hK ?_;exact⟨⟨pc+1,tV c xn (pl:Nat)⟩,_,rfl,hH,jE,zi⟩
        ·rw[if_neg h4] at jE;refine qq<|qj fun K hK=>qg ?_;refine qm ?_;refine qe hK ?_;refine af.cond (by rfl) (fun h5=>?_) (fun h5=>?_)<;>try simp only[beq_iff_eq,beq_eq_false_iff_ne,ne_eq] at h5
         ·rw[if_pos h5] at jE;have zi:pc+1<p.code.length:=by omega
          refine qq<|qj fun K hK=>qm ?_;refine qg ?_;refine qp (o:=2) ?_;refine ql hH eF ?_;refine qg ?_;refine qe hK ?_
          by_cases ha:pl=0
          ·rw[if_pos ha] at jE;subst ha;refine af.cond (v:=false) (by dsimp only[Fr.ev,Fr.get,nth,V.look];rfl) (fun h=>by cases h) (fun _=>?_);refine af.skip ?_;exact⟨⟨pc+1,c⟩,_,rfl,hH,jE,zi⟩
          ·rw[if_neg ha] at jE;subst jE;refine qD rfl (by simp;omega) ?_;refine qq<|qj fun K hK=>qm ?_;refine qe hK<|af.ret ⟨rx,_,_,_,rfl,rfl,?_⟩;exact⟨rfl,rd,pd,qd,P,Q,hH.drop 3,ba⟩
         ·rw[if_neg h5] at jE;have h6:op=6:=by omega
          have zi:pc+1<p.code.length:=by omega
          refine qq<|qj fun K hK=>qg ?_;refine qm ?_;refine qe hK<|qD rfl (by simp[h6]) ?_;refine qq<|qj fun K hK=>qm ?_;refine qg ?_;refine qp (o:=2) ?_;refine ql hH fW ?_;refine qg ?_;refine qe hK ?_
          cases e with
          |true=>
           rw[if_pos rfl] at jE;refine qC ?_;refine af.skip ?_;exact⟨⟨pc+1,c⟩,_,rfl,hH,jE,zi⟩
          |false=>
           rw[if_neg (by decide)] at jE;subst jE;refine qB ?_;refine qq<|qj fun K hK=>qm ?_;refine qe hK<|af.ret ⟨rx,_,_,_,rfl,rfl,?_⟩;exact⟨rfl,rd,pd,qd,P,Q,hH.drop 3,ba⟩
   ·rintro fr st ⟨t',tmp,hfr,hH,Wz,PB⟩;rw[hfr];clear hfr;generalize cj fr=ee;clear fr;obtain⟨N_,c'⟩:=t';dsimp only[bH] at hH;refine qq<|qj fun K hK=>qm ?_;refine qm ?_;refine ab.bf (m:=11) hH rfl (ev rfl) (by exact aB) (by dsimp only[List.drop_succ_cons,List.drop_zero,List.take_succ_cons,List.take_zero,aG,bH,bT,ay]<;>rfl) rfl rfl (ae rfl _) ?_;have hH:=hH.drop 3;obtain⟨_,st,aO,rfl,hT⟩:=ih ⟨sn,w.dn,w.aX,w.rdy⟩ ⟨N_,c'⟩ _ _ PB Bh NI MM ⟨rd,pd,qd,P,Q,hH,ba⟩;refine qv aO ?_;refine qm ?_;refine qe hK<|af.ret ⟨rx,_,_,_,rfl,rfl,?_⟩;rw[Wz];exact⟨rfl,hT⟩
def cq (fr:Go.V.Fr) (k:Nat):Go.V.D:=Go.V.nth .bw fr.loc k
structure VL where
 dn:Bool
 aX:kM
 td:D
 fe:List gk
def gZ (l:VL):List D:=bT l.dn l.aX l.td
def pN (l:VL):bP:=.aL l.td 11 (l.fe.map bH)
theorem Gn (A:List bP) {n:Nat} (hn:A.length=n) {L:List VL} {i:Nat} {l:VL} (h:L[i]?=some l) {H:List bP}:(A++(L.map pN++H))[n+i]?=some (pN l):=by
 have hi:=bj h;rw[List.getElem?_append_right (by omega),List.getElem?_append_left (by simp;omega),hn,Nat.add_sub_cancel_left,List.getElem?_map,h];rfl
theorem Ac {L:List VL} {i:Nat} {l:VL} (h:L[i]?=some l):(L.map gZ)[i]?=some (gZ l):=by rw[List.getElem?_map,h];rfl
theorem xt {l:List gk} {i:Nat} {q:gk} (h:l[i]?=some q):(l.map bH)[i]?=some (bH q):=by rw[List.getElem?_map,h];rfl
theorem wh {N:Nat} {S st:St} {H:List bP} {j:Nat} {x:D} {s:Nat} {es:List (List D)} (h:Has N S st H) (hj:H[j]?=some (.aL x s es)):x.ref≤st.bs.length:=by
 rcases Nat.eq_zero_or_pos x.ref with h0|h0
 ·omega
 ·have:=h.x0 hj (k:=x.ref-1) (by show x.ref=x.ref-1+1;omega);omega
def MH (A:List bP) (N:Nat) (S st:St) (ks kv:Nat) (p:Pg) (pl:Nat) (ld:D) (L:List VL) (H:List bP):Prop:=
 ∃pd qd P Q sn,Has N S st (A++(.box kv (.mem 0 false [p.cd,p.sd,.int .i64 (pl:Nat),ld,.ptr ks 0 0])::.box ks (.mem 0 false [pd,qd])::.aL pd 1 (P.map fK)::.aL qd 2 (Q.map mJ)::.aL ld 12 (L.map gZ)::(L.map pN++H)))∧dN P Q sn∧sn.length=p.code.length
theorem MH.push (A B:List bP) {N:Nat} {S st:St} {ks kv:Nat} {p:Pg} {pl:Nat} {ld:D} {L:List VL} {H:List bP} (h:MH (A++B) N S st ks kv p pl ld L H):MH B N S st ks kv p pl ld L (A++H):=by
 obtain⟨pd,qd,P,Q,sn,hH,ba,gE⟩:=h;refine⟨pd,qd,P,Q,sn,?_,ba,gE⟩;have:=Has.pU (H:=H) A (B++(.box kv (.mem 0 false [p.cd,p.sd,.int .i64 (pl:Nat),ld,.ptr ks 0 0])::.box ks (.mem 0 false [pd,qd])::.aL pd 1 (P.map fK)::.aL qd 2 (Q.map mJ)::.aL ld 12 (L.map gZ)::L.map pN)) (by simpa only[List.append_assoc,List.cons_append] using hH)
 simpa only[List.append_assoc,List.cons_append] using this
theorem MH.pull (A B:List bP) {N:Nat} {S st:St} {ks kv:Nat} {p:Pg} {pl:Nat} {ld:D} {L:List VL} {H:List bP} (h:MH B N S st ks kv p pl ld L (A++H)):MH (A++B) N S st ks kv p pl ld L H:=by
 obtain⟨pd,qd,P,Q,sn,hH,ba,gE⟩:=h;refine⟨pd,qd,P,Q,sn,?_,ba,gE⟩;have:=Has.pU (H:=H) (B++(.box kv (.mem 0 false [p.cd,p.sd,.int .i64 (pl:Nat),ld,.ptr ks 0 0])::.box ks (.mem 0 false [pd,qd])::.aL pd 1 (P.map fK)::.aL qd 2 (Q.map mJ)::.aL ld 12 (L.map gZ)::L.map pN)) A (by simpa only[List.append_assoc,List.cons_append] using hH)
 simpa only[List.append_assoc,List.cons_append] using this
def mc (code:List aK) (pl:Nat) (e:Bool):List gk→Wk→Wk
 |[],w=>w
 |t::ts,w=>if(bX code pl e (code.length+1) w t).2=true then(bX code pl e (code.length+1) w t).1 else mc code pl e ts (bX code pl e (code.length+1) w t).1
def jC (n:Nat) (dn:Bool) (aX:kM):Wk:=⟨List.replicate n false,dn,aX,[]⟩
theorem pr (code:List aK) (pl:Nat) (e:Bool):∀(l:List gk) (w:Wk),Good code w (mc code pl e l w)
 |[],w=>.refl
 |t::ts,w=>by
  unfold mc
  split
  ·exact cn ..
  ·exact(cn ..).trans (pr code pl e ts _)
theorem rJ {N ks kv:Nat} {S s0:St} {H:List bP} {p:Pg} {pl:Nat} {ld:D} {L:List VL} {i:Nat} {l:VL} {e:Bool} (hF:S.flr≤N) (hp:p.ok) (hR:bW p) (fF:pl≤1099511627776) (hl:L[i]?=some l) (GA:∀t∈l.fe,t.pc<p.code.length) (s8:l.fe.length≤1048576) (hM:MH [] N S s0 ks kv p pl ld L H):
  ∃r ah,Ev pv 29 [.ptr kv 0 0,.int .i64 (i:Nat),.bool e] s0 r ah∧∃rd,r=.tup [.agg (bT (mc p.code pl e l.fe (jC p.code.length l.dn l.aX)).dn (mc p.code pl e l.fe (jC p.code.length l.dn l.aX)).aX .nul),rd]∧MH [.aL rd 11 ((mc p.code pl e l.fe (jC p.code.length l.dn l.aX)).rdy.map bH)] N S ah ks kv p pl ld L H:=by
 obtain⟨pd,qd,P,Q,sn,hH,ba,gE⟩:=hM;have hcl:=hR.cl;have hO:=Ac hl;have hil:=bj hl;generalize hW:mc p.code pl e l.fe (jC p.code.length l.dn l.aX)=W at*;obtain⟨dn,aX,td,fe⟩:=l;simp only at hW GA s8;dsimp only[u4] at hH;refine Ev.jD rfl RX rfl rfl rfl ?_;dsimp only[u3,u4,List.length,Nat.reduceSub,Nat.reduceAdd,w1,w2];change af _ _ _ _ s0 _;refine qq<|qj fun K hK=>qa hH fun k6 st Cm hH=>?_;refine qm ?_;refine qe hK<|qq<|qj fun K hK=>qm ?_;refine qg ?_;refine qp (o:=3) ?_;refine ql hH b4 ?_;refine qm ?_;refine qi hH l7 fun SO MY=>?_;refine ab.oM hH rfl (ev rfl) (by assumption) (by exact l7) (by assumption) rfl (by dsimp only[Fr.put,u1,u2]<;>rfl) ?_;refine qa hH fun k8 st Nd hH=>?_;refine qS hH aB fun st hH=>?_;dsimp only[u2,u1,u3,u4,setMany,u5,u6,D.cells,Nat.reduceAdd,aG,bH,bT,ay,gZ] at hH;refine qe hK<|qq<|qj fun K hK=>qp (o:=0) ?_;refine ql hH aB ?_;refine qp (o:=1) ?_;refine ab.bf (m:=10) hH rfl (ev rfl) (by exact aB) (by dsimp only[List.drop_succ_cons,List.drop_zero,List.take_succ_cons,List.take_zero,aG,bH,bT,ay,gZ]<;>rfl) rfl rfl (by dsimp only[Fr.put,u1,u2]<;>rfl) ?_;refine ab.go (d:=.agg (bT dn aX .nul)) (st1:=_) rfl rfl rfl (by dsimp only[Fr.put,u1,u2]<;>rfl) ?_;refine qa hH fun k9 st VI hH=>?_;refine qS hH aB fun st hH=>?_;dsimp only[u2,u1,u3,u4,setMany,u5,u6,D.cells,Nat.reduceAdd,aG,bH,bT,ay,gZ] at hH;refine qe hK<|qq<|qj fun K hK=>qm ?_;refine ab.fX (qs:=[(0,_),(2,_)]) rfl rfl rfl rfl ⟨rfl,(ev rfl),(by rfl),rfl,(ev rfl),(by rfl),trivial⟩ (by intro q hq;simp only[List.mem_cons,List.not_mem_nil,or_false] at hq;rcases hq with rfl|rfl<;>exact⟨rfl,by exact Nat.le_of_ble_eq_true rfl⟩) (by show List.foldl _ [_,_,_] _=_;dsimp only[List.foldl_cons,List.foldl_nil,u2,u1]<;>rfl) (by dsimp only[Fr.put,u1,u2]<;>rfl) ?_;refine qb hH fun k27 st V3 hH=>?_;refine qm ?_;refine qe hK ?_;have cy:=hH;refine qq<|qj fun K hK=>qm ?_;refine qg ?_;refine qp (o:=4) ?_;refine ql hH fW ?_;obtain⟨_,st,aO,rfl,pd,qd,P,Q,hH,ba⟩:=ni [_,_,_,_,_] hF ba hH;dsimp only[u3,u4] at hH;refine qv aO ?_;refine qe hK ?_;clear cy;rw[gE] at ba;have hH:=Has.pU [_,_,_,_] [_] hH;have hH:=Has.pU [_,_,_,_,_] [_,_,_] hH;have hH:=Has.pU [_,_,_] [_,_,_] hH;have hH:=Has.pU [_] [_,_,_] (hH.eB 11);dsimp only[u3,u4] at hH;have Pr:=hH.rows (Gn [_,_,_,_,_,_,_,_,_,_] rfl hl);have GM:=pr p.code pl e fe (jC p.code.length dn aX);refine qq<|qq<|qj fun K hK=>qp (o:=11) ?_;refine ql hH Sm ?_;refine ab.J2 rfl (ev rfl) Pr rfl (by dsimp only[Fr.put,u1,u2]<;>rfl) ?_;simp only[List.length_map];refine qm ?_;refine qe hK<|af.block<|af.loop (fun mm fr st=>∃(j:Nat) (w:Wk) (rest:List gk) (rd pd qd:D) (P Q:List Nat),fr.clean=⟨37,[.ptr kv 0 0,.int .i64 (i:Nat),.bool e,cq fr 3,cq fr 4,cq fr 5,.ptr k6 0 0,.nul,.ptr k8 0 0,.ptr k9 0 0,.ptr k27 0 0,cq fr 11,cq fr 12,cq fr 13,cq fr 14,cq fr 15,cq fr 16,cq fr 17,cq fr 18,cq fr 19,cq fr 20,cq fr 21,cq fr 22,cq fr 23,cq fr 24,cq fr 25,cq fr 26,cq fr 27,cq fr 28,cq fr 29,cq fr 30,cq fr 31,cq fr 32,cq fr 33,td,.int .i64 (fe.length:Nat),.int .i64 (j:Nat)],[]⟩∧Has N S st (.box kv (.mem 0 false [p.cd,p.sd,.int .i64 (pl:Nat),ld,.ptr ks 0 0])::.box k27 (.mem 0 false [.ptr k9 0 0,rd,.bool e])::.box k9 (.mem 0 false (bT w.dn w.aX .nul))::.aL rd 11 (w.rdy.map bH)::.box ks (.mem 0 false [pd,qd])::.aL pd 1 (P.map fK)::.aL qd 2 (Q.map mJ)::.box k8 (.mem 0 false (bT dn aX td))::.box k6 (.mem 0 false (bT false aH .nul))::.aL ld 12 (L.map gZ)::(L.map pN++H))∧(j+mm=fe.length)∧(rest=fe.drop j)∧(mc p.code pl e rest w=W)∧(w.seen.length=p.code.length)∧(w.rdy.length+w.seen.count false≤1048576)∧(dN P Q w.seen)) (fe.length) ?_ ?_
 ·exact⟨0,jC p.code.length dn aX,fe,.nul,_,_,_,_,rfl,hH,by omega,rfl,hW,by simp[jC],by(have:=List.count_le_length (a:=false) (l:=(jC p.code.length dn aX).seen);simp[jC] at this⊢;omega),ba⟩
 rintro mm fr st ⟨j,w,rest,rd,pd,qd,P,Q,hfr,hH,hj,lL,hex,jb,rC,ba⟩;rw[hfr];clear hfr;generalize cq fr=ee;clear fr;refine qq<|qj fun K hK=>qg ?_;refine qe hK ?_;have Pr:=hH.rows (Gn [_,_,_,_,_,_,_,_,_,_] rfl hl);refine qq ?_;refine af.cond (by rfl) (fun hlt=>?_) (fun hlt=>?_)<;>try simp only[decide_eq_true_eq,decide_eq_false_iff_not] at hlt
 ·refine af.skip ?_;have kC:j<fe.length:=by omega
  obtain⟨t,ht⟩:∃t,fe[j]?=some t:=⟨fe[j]'kC,List.getElem?_eq_getElem _⟩
  have MK:=xt ht;have O_:=GA t (List.mem_of_getElem? ht)
  have p_:rest=t::fe.drop (j+1):=by
   rw[lL,List.drop_eq_getElem_cons kC]
   congr 1
   exact Option.some.inj ((List.getElem?_eq_getElem _).symm.trans ht)
  have wG:=List.count_le_length (a:=false) (l:=w.seen);have Qt:=cn p.code pl e (p.code.length+1) w t;rw[p_] at hex;have hex:(if(bX p.code pl e (p.code.length+1) w t).2=true then(bX p.code pl e (p.code.length+1) w t).1 else mc p.code pl e (fe.drop (j+1)) (bX p.code pl e (p.code.length+1) w t).1)=W:=hex;refine qq<|af.block<|qq<|qj fun K hK=>ab.Mg rfl (ev rfl) (ev rfl) Pr rfl rfl MK (fun _=>(ae rfl _)) (fun Um PV=>?_);refine qR ?_;refine qa hH fun k12 st V8 hH=>?_;dsimp only[u2,u1,u3,u4,setMany,u5,u6,D.cells,Nat.reduceAdd,aG,bH,bT,ay,gZ] at hH;refine qS hH aB fun st hH=>?_;dsimp only[u2,u1,u3,u4,setMany,u5,u6,D.cells,Nat.reduceAdd,aG,bH,bT,ay,gZ] at hH;refine qe hK<|qq<|qj fun K hK=>qm ?_;refine qm ?_;refine ab.bf (m:=11) hH rfl (ev rfl) (by exact aB) (by dsimp only[List.drop_succ_cons,List.drop_zero,List.take_succ_cons,List.take_zero,aG,bH,bT,ay,gZ]<;>rfl) rfl rfl (ae rfl _) ?_;have hH:=hH.drop 1;obtain⟨_,st,aO,rfl,hT⟩:=Gq (ks:=ks) (kv:=kv) (kw:=k27) (kl:=k9) (S:=S) (H:=H) (ld:=ld) (e:=e) hF hp hR fF (p.code.length+1) w t _ _ O_ jb (by omega) rC ⟨rd,pd,qd,P,Q,hH,ba⟩;refine qv aO ?_;refine qe hK ?_;generalize bX p.code pl e (p.code.length+1) w t=R1 at*;obtain⟨w1,b1⟩:=R1;obtain⟨c7,bh,bD,jw⟩:=Qt;simp only at c7 bh bD jw hT hex;obtain⟨rd,pd,qd,P,Q,hH,ba⟩:=hT;have Bh:w1.seen.length=p.code.length:=c7.trans jb
  cases b1 with
  |true=>
   rw[if_pos rfl] at hex;subst hex;refine qB ?_;refine af.exit ?_;have hH:=Has.pU [_,_,_,_,_,_,_] [_,_] hH;dsimp only[u3,u4] at hH;have zW:=hH;have MO:=wh hH l7;have MN:=hH.x0 fW (k:=k9) rfl;change af _ _ _ _ _ _;refine qq ?_;generalize hK:ck _ _ _ _=K;refine af.Fb rfl ?_;refine f_.cons ?_;refine ab.bf (m:=12) hH rfl (ev rfl) (by exact fW) (by dsimp only[List.drop_succ_cons,List.drop_zero,List.take_succ_cons,List.take_zero,aG,bH,bT,ay,gZ]<;>rfl) rfl rfl (ae rfl _) ?_;refine ab.nil ⟨rfl,?_⟩;refine f_.cons ?_;refine qm ?_;refine ab.nil ⟨rfl,?_⟩;refine f_.cons ?_;refine qg ?_;refine ab.nil ⟨rfl,?_⟩;refine f_.cons ?_;refine qp (o:=1) ?_;refine ab.nil ⟨rfl,?_⟩;refine f_.cons ?_;refine ql hH eF ?_;refine ab.nil ⟨rfl,?_⟩;refine f_.cons ?_;refine qS hH b4 fun st hH=>?_;dsimp only[u2,u1,u3,u4,setMany,u5,u6,D.cells,Nat.reduceAdd,aG,bH,bT,ay,gZ] at hH;refine ab.nil ⟨by exact Bool.and_eq_true_iff.2 ⟨mV rfl rfl rfl (zW.at eF) (hH.at eF) (zW.at eF) (by simp only[refs,D.ref];omega),rfl⟩,?_⟩;refine f_.cons ?_;refine qm ?_;refine ab.nil ⟨rfl,?_⟩;refine f_.nil ?_;subst hK;refine af.ret ⟨rx,_,_,_,hH.cN rfl b4 rfl rfl,rfl,rd,rfl,pd,qd,P,Q,_,?_,ba,Bh⟩;exact((Has.pU [_,_,_] [_] (hH.drop 2)).erase 2).erase 2
  |false=>
   rw[if_neg (by decide)] at hex;refine qC ?_;refine af.skip<|qj fun K hK=>qA ?_;refine qm ?_;refine qe hK ?_;exact⟨mm-1,by omega,⟨j+1,w1,fe.drop (j+1),rd,pd,qd,P,Q,rfl,hH,by omega,rfl,hex,Bh,by omega,ba⟩⟩
 ·refine af.exit ?_;have Bl:rest=[]:=by rw[lL,List.drop_eq_nil_iff];omega
  subst Bl;have hex:w=W:=hex;subst hex;have hH:=Has.pU [_,_,_,_,_,_,_] [_,_] hH;dsimp only[u3,u4] at hH;have zW:=hH;have MO:=wh hH l7;have MN:=hH.x0 fW (k:=k9) rfl;change af _ _ _ _ _ _;refine qq ?_;generalize hK:ck _ _ _ _=K;refine af.Fb rfl ?_;refine f_.cons ?_;refine ab.bf (m:=12) hH rfl (ev rfl) (by exact fW) (by dsimp only[List.drop_succ_cons,List.drop_zero,List.take_succ_cons,List.take_zero,aG,bH,bT,ay,gZ]<;>rfl) rfl rfl (ae rfl _) ?_;refine ab.nil ⟨rfl,?_⟩;refine f_.cons ?_;refine qm ?_;refine ab.nil ⟨rfl,?_⟩;refine f_.cons ?_;refine qg ?_;refine ab.nil ⟨rfl,?_⟩;refine f_.cons ?_;refine qp (o:=1) ?_;refine ab.nil ⟨rfl,?_⟩;refine f_.cons ?_;refine ql hH eF ?_;refine ab.nil ⟨rfl,?_⟩;refine f_.cons ?_;refine qS hH b4 fun st hH=>?_;dsimp only[u2,u1,u3,u4,setMany,u5,u6,D.cells,Nat.reduceAdd,aG,bH,bT,ay,gZ] at hH;refine ab.nil ⟨by exact Bool.and_eq_true_iff.2 ⟨mV rfl rfl rfl (zW.at eF) (hH.at eF) (zW.at eF) (by simp only[refs,D.ref];omega),rfl⟩,?_⟩;refine f_.cons ?_;refine qm ?_;refine ab.nil ⟨rfl,?_⟩;refine f_.nil ?_;subst hK;refine af.ret ⟨rx,_,_,_,hH.cN rfl b4 rfl rfl,rfl,rd,rfl,pd,qd,P,Q,_,?_,ba,jb⟩;exact((Has.pU [_,_,_] [_] (hH.drop 2)).erase 2).erase 2
def bt (fr:Go.V.Fr) (k:Nat):Go.V.D:=Go.V.nth .bw fr.loc k
def iF (l:List gk) (k:Nat):Bool:=l.any fun x=>x.pc==k
def lq (l:List gk) (t:gk):List gk:=if iF l t.pc=true then l else l++[t]
def oB (code:List aK) (pc:Nat):List Rg:=match code[pc]? with
 |some i=>i.rs
 |none=>[]
def dW (code:List aK) (r:Int):List gk→List gk→List gk
 |[],a=>a
 |t::ts,a=>dW code r ts (if gA (oB code t.pc) r=true then lq a ⟨t.pc+1,t.c⟩ else a)
structure PL where
 dn:Bool
 aX:kM
 fe:List gk
def eZ (code:List aK) (pl start:Nat) (r:Int) (l:PL):PL:=
 ⟨(mc code pl false l.fe (jC code.length l.dn l.aX)).dn,(mc code pl false l.fe (jC code.length l.dn l.aX)).aX,
  if(mc code pl false l.fe (jC code.length l.dn l.aX)).dn=true then dW code r (mc code pl false l.fe (jC code.length l.dn l.aX)).rdy []
  else lq (dW code r (mc code pl false l.fe (jC code.length l.dn l.aX)).rdy []) ⟨start,aR⟩⟩
theorem wJ (l:List gk) (t:gk) (k:Nat):iF (l++[t]) k=(iF l k||t.pc==k):=by
 unfold iF;rw[List.any_append];simp
theorem vy (l:List gk) (t:gk):(lq l t).length≤l.length+1:=by
 unfold lq;split
 ·omega
 ·simp
theorem vx {l:List gk} {t x:gk} (h:x∈lq l t):x∈l∨x=t:=by
 unfold lq at h;split at h
 ·exact .inl h
 ·rcases List.mem_append.1 h with h|h
  ·exact .inl h
  ·exact .inr (by simpa using h)
theorem oR {code:List aK} {r:Int}:∀(l a:List gk),(dW code r l a).length≤l.length+a.length∧∀x∈dW code r l a,x∈a∨∃t∈l,x.pc=t.pc+1
 |[],a=>⟨by simp[dW],fun x h=>.inl h⟩
 |t::ts,a=>by
  unfold dW
  split
  ·obtain⟨h1,h2⟩:=oR (code:=code) (r:=r) ts (lq a ⟨t.pc+1,t.c⟩);have:=vy a ⟨t.pc+1,t.c⟩;refine⟨by simp only[List.length_cons];omega,fun x hx=>?_⟩
   rcases h2 x hx with h|⟨y,hy,he⟩
   ·rcases vx h with h|h
    ·exact .inl h
    ·exact .inr ⟨t,List.mem_cons_self ..,by rw[h]⟩
   ·exact .inr ⟨y,List.mem_cons_of_mem _ hy,he⟩
  ·obtain⟨h1,h2⟩:=oR (code:=code) (r:=r) ts a;refine⟨by simp only[List.length_cons];omega,fun x hx=>?_⟩
   rcases h2 x hx with h|⟨y,hy,he⟩
   ·exact .inl h
   ·exact .inr ⟨y,List.mem_cons_of_mem _ hy,he⟩
def PL.ok (n:Nat) (l:PL):Prop:=(∀t∈l.fe,t.pc<n)∧l.fe.length≤1000
theorem mf {code:List aK} {pl:Nat} {e:Bool} {l:List gk} {dn:Bool} {aX:kM}:(mc code pl e l (jC code.length dn aX)).rdy.length≤code.length∧∀t∈(mc code pl e l (jC code.length dn aX)).rdy,∃i,code[t.pc]?=some i∧i.op=1:=by
 obtain⟨_,_,h3,h4⟩:=pr code pl e l (jC code.length dn aX);have:=List.count_le_length (a:=false) (l:=(jC code.length dn aX).seen);simp only[jC,List.length_replicate,List.length_nil] at h3 this;refine⟨by simp only[jC];omega,fun t ht=>?_⟩
 rcases h4 t ht with h|h
 ·simp[jC] at h
 ·exact h
theorem ue {p:Pg} (hR:bW p) {t:gk} (h:∃i,p.code[t.pc]?=some i∧i.op=1):t.pc+1<p.code.length:=by
 obtain⟨i,hi,h1⟩:=h;have:=d_ (hR.sh t.pc i hi);omega
theorem Am {p:Pg} (hR:bW p) {pl start:Nat} {r:Int} {l:PL} (hs:start<p.code.length):(eZ p.code pl start r l).ok p.code.length:=by
 obtain⟨h1,h2⟩:=mf (code:=p.code) (pl:=pl) (e:=false) (l:=l.fe) (dn:=l.dn) (aX:=l.aX);have hcl:=hR.cl;unfold eZ PL.ok;generalize mc p.code pl false l.fe (jC p.code.length l.dn l.aX)=w at*;obtain⟨h3,h4⟩:=oR (code:=p.code) (r:=r) w.rdy []
 have h5:∀x∈dW p.code r w.rdy [],x.pc<p.code.length:=fun x hx=>by
  rcases h4 x hx with h|⟨t,ht,he⟩
  ·cases h
  ·have:=ue hR (h2 t ht);omega
 simp only[List.length_nil] at h3;simp only
 split
 ·exact⟨h5,by omega⟩
 ·refine⟨fun x hx=>?_,?_⟩
  ·rcases vx hx with h|h
   ·exact h5 x h
   ·rw[h];exact hs
  ·have:=vy (dW p.code r w.rdy []) ⟨start,aR⟩;omega
theorem Al (nG:∀st,Ev pv 46 [] st (.agg (ay aR)) st) {N ks kv:Nat} {S s0:St} {H:List bP} {p:Pg} {pl:Nat} {ld:D} {L:List VL} {i start:Nat} {l:VL} {r:Int} (hF:S.flr≤N) (hp:p.ok) (hR:bW p) (fF:pl≤1099511627776) (hl:L[i]?=some l) (Kr:p.az[i]?=some ((start:Nat):Int)) (GA:(⟨l.dn,l.aX,l.fe⟩:PL).ok p.code.length) (hM:MH [] N S s0 ks kv p pl ld L H):
  ∃d ah,Ev pv 31 [.ptr kv 0 0,.int .i64 (i:Nat),.int .i32 r] s0 d ah∧∃td,d=.agg (bT (eZ p.code pl start r ⟨l.dn,l.aX,l.fe⟩).dn (eZ p.code pl start r ⟨l.dn,l.aX,l.fe⟩).aX td)∧MH [.aL td 11 ((eZ p.code pl start r ⟨l.dn,l.aX,l.fe⟩).fe.map bH)] N S ah ks kv p pl ld L H:=by
 have hcl:=hR.cl;have hc:=hp.c.arg N S;have hs:=hp.s.arg N S;have hlen:=hp.cl;have Ko:start<p.code.length:=by have:=(hR.st _ (List.mem_of_getElem? Kr)).2;omega
 have MR:=ei Kr;obtain⟨ME,Pa⟩:=GA;simp only at ME Pa;obtain⟨hb1,hb2⟩:=mf (code:=p.code) (pl:=pl) (e:=false) (l:=l.fe) (dn:=l.dn) (aX:=l.aX);obtain⟨pd,qd,P,Q,sn,hH,ba,gE⟩:=hM;dsimp only[u4] at hH;unfold eZ;simp only;refine Ev.jD rfl RW rfl rfl rfl ?_;dsimp only[u3,u4,List.length,Nat.reduceSub,Nat.reduceAdd,w1,w2];change af _ _ _ _ s0 _;refine qq<|qj fun K hK=>qa hH fun k6 st Cm hH=>?_;refine qe hK ?_;obtain⟨_,st1,aO,rd,rfl,hM⟩:=rJ (e:=false) hF hp hR fF hl ME (by omega) (MH.push [_] [] ⟨pd,qd,P,Q,sn,hH,ba,gE⟩);clear ba gE;have hM:=MH.pull [_] [_] hM;generalize mc p.code pl false l.fe (jC p.code.length l.dn l.aX)=W at*;obtain⟨pd,qd,P,Q,sn,Cp,ba,gE⟩:=hM;dsimp only[u3,u4] at Cp;refine qq<|qj fun K hK=>qm ?_;refine qm ?_;have hH:=Cp;refine qv aO ?_;refine qm ?_;refine qg ?_;refine qg ?_;refine qa hH fun k7 st Qg hH=>?_;refine qS hH aB fun st hH=>?_;dsimp only[u2,u1,u3,u4,setMany,u5,u6,D.cells,Nat.reduceAdd,aG,bH,bT,ay,gZ] at hH;refine qm ?_;refine qe hK ?_;clear Cp;refine qq<|qj fun K hK=>qm ?_;refine qg ?_;refine qp (o:=4) ?_;refine ql hH eF ?_;obtain⟨_,st,aO,rfl,pd,qd,P,Q,hH,ba⟩:=ni [_,_,_,_] hF ba hH;dsimp only[u3,u4] at hH;refine qv aO ?_;refine qe hK ?_;rw[gE] at ba;refine qq<|qq<|qj fun K hK=>qm ?_;refine qn ?_ (hR:=hH.rows cU);simp only[List.length_map];refine qm ?_;refine qe hK ?_;have hH:=Has.pU [_] [_] (hH.eB 11);dsimp only[u3,u4] at hH
 obtain⟨A,hA⟩:∃A,dW p.code r W.rdy []=A:=⟨_,rfl⟩
 rw[hA];refine af.block<|af.loop (fun mm fr st=>∃(j:Nat) (acc rest:List gk) (td pd qd:D) (P Q:List Nat) (sn:List Bool),fr.clean=⟨25,[.ptr kv 0 0,.int .i64 (i:Nat),.int .i32 r,bt fr 3,bt fr 4,bt fr 5,.ptr k6 0 0,.ptr k7 0 0,rd,bt fr 9,bt fr 10,bt fr 11,bt fr 12,bt fr 13,bt fr 14,bt fr 15,bt fr 16,bt fr 17,bt fr 18,bt fr 19,bt fr 20,bt fr 21,rd,.int .i64 (W.rdy.length:Nat),.int .i64 (j:Nat)],[]⟩∧Has N S st (.box k7 (.mem 0 false (bT W.dn W.aX td))::.aL td 11 (acc.map bH)::.box k6 (.mem 0 false (bT false aH .nul))::.aL rd 11 (W.rdy.map bH)::.box kv (.mem 0 false [p.cd,p.sd,.int .i64 (pl:Nat),ld,.ptr ks 0 0])::.box ks (.mem 0 false [pd,qd])::.aL pd 1 (P.map fK)::.aL qd 2 (Q.map mJ)::.aL ld 12 (L.map gZ)::(L.map pN++H))∧(j+mm=W.rdy.length)∧(rest=W.rdy.drop j)∧(dW p.code r rest acc=A)∧(acc.length≤j)∧(dN P Q sn)∧(sn.length=p.code.length)∧(∀k,k<p.code.length→sn[k]?=some (iF acc k))) (W.rdy.length) ?_ ?_
 ·refine⟨0,[],W.rdy,.nul,_,_,_,_,_,rfl,hH,by omega,rfl,hA,by simp,ba,by simp,(fun k hk=>by rw[List.getElem?_replicate,if_pos hk];rfl)⟩
 rintro mm fr st ⟨j,acc,rest,td,pd,qd,P,Q,sn,hfr,hH,hj,lL,hex,hal,ba,gE,tC⟩;rw[hfr];clear hfr;generalize bt fr=ee;clear fr;refine qq<|qj fun K hK=>qg ?_;refine qe hK<|qq ?_;refine af.cond (by rfl) (fun hlt=>?_) (fun hlt=>?_)<;>try simp only[decide_eq_true_eq,decide_eq_false_iff_not] at hlt
 ·refine af.skip ?_;have kC:j<W.rdy.length:=by omega
  obtain⟨t,ht⟩:∃t,W.rdy[j]?=some t:=⟨W.rdy[j]'kC,List.getElem?_eq_getElem _⟩
  have MK:=xt ht;obtain⟨ii,hii,Tm⟩:=hb2 t (List.mem_of_getElem? ht);have Km:=ue hR ⟨ii,hii,Tm⟩;have mP:=gz hii;have Nq:=hp.i ii (List.mem_of_getElem? hii);have Kv:=Nq.1;have Kw:=Kv.arg N S;have U5:=Nq.2
  have p_:rest=t::W.rdy.drop (j+1):=by
   rw[lL,List.drop_eq_getElem_cons kC]
   congr 1
   exact Option.some.inj ((List.getElem?_eq_getElem _).symm.trans ht)
  rw[p_] at hex;have Ps:oB p.code t.pc=ii.rs:=by unfold oB;rw[hii]
  unfold dW at hex;rw[Ps] at hex;have PA:iF acc (t.pc+1)=iF acc (t.pc+1):=rfl;generalize QN:iF acc (t.pc+1)=bq at PA;have FJ:=tC (t.pc+1) Km;rw[QN] at FJ;refine qq<|af.block<|qq<|qj fun K hK=>qi hH eF fun Uq PZ=>?_;refine ab.oM hH rfl (ev rfl) (by assumption) (by exact eF) (by assumption) rfl (ae rfl _) ?_;refine qa hH fun k10 st Np hH=>?_;dsimp only[u2,u1,u3,u4,setMany,u5,u6,D.cells,Nat.reduceAdd,aG,bH,bT,ay,gZ] at hH;refine qS hH aB fun st hH=>?_;dsimp only[u2,u1,u3,u4,setMany,u5,u6,D.cells,Nat.reduceAdd,aG,bH,bT,ay,gZ] at hH;refine qe hK ?_
  cases db:gA ii.rs r with
  |false=>
   rw[db,if_neg (by decide)] at hex;refine qq<|qj fun K hK=>qm ?_;refine qg ?_;refine qp (o:=0) ?_;refine qp (o:=0) ?_;refine ql hH l7 ?_;refine qp (o:=0) ?_;refine ql hH aB ?_;refine qr fun SL MV=>?_;refine qf (fo:=3) fun Uo PX=>?_;refine qR ?_;refine qm ?_;refine qv (wK (Kw.rows hH) (by omega)) ?_;refine qm ?_;refine qs ?_ (hg:=wn db);refine qs ?_ (hg:=wn db);refine qs ?_ (hg:=wn db);refine qs ?_ (hg:=wn db);refine qs ?_ (hg:=wn db);refine qs ?_ (hg:=wn db);refine qs ?_ (hg:=wn db);refine qs ?_ (hg:=wn db);refine qu db ?_;refine qe hK<|qC ?_;refine af.skip<|qj fun K hK=>qA ?_;refine qm ?_;refine qe hK ?_;exact⟨mm-1,by omega,⟨j+1,acc,W.rdy.drop (j+1),td,pd,qd,P,Q,sn,rfl,(hH.drop 1),by omega,rfl,hex,by omega,ba,gE,tC⟩⟩
  |true=>
   rw[db,if_pos rfl] at hex;have hex:dW p.code r (W.rdy.drop (j+1)) (if iF acc (t.pc+1)=true then acc else acc++[⟨t.pc+1,t.c⟩])=A:=hex;rw[QN] at hex;have s8:t.pc+1<sn.length:=by omega
   refine qq<|qj fun K hK=>qm ?_;refine qg ?_;refine qp (o:=0) ?_;refine qp (o:=0) ?_;refine ql hH l7 ?_;refine qp (o:=0) ?_;refine ql hH aB ?_;refine qr fun SL MV=>?_;refine qf (fo:=3) fun Uo PX=>?_;refine qR ?_;refine qm ?_;refine qv (wK (Kw.rows hH) (by omega)) ?_;refine qm ?_;refine qm ?_ (hg:=wi db);refine qg ?_ (hg:=wi db);refine qp (o:=4) ?_ (hg:=wi db);refine ql hH l7 ?_ (hg:=wi db);refine qp (o:=0) ?_ (hg:=wi db);refine ql hH aB ?_ (hg:=wi db);refine qA ?_ (hg:=wi db);obtain⟨_,st,aO,rfl,pd,qd,P,Q,hH,ba⟩:=mo [_,_,_,_,_,_] hF FJ ba hH;dsimp only[u3,u4] at hH;refine qv aO ?_ (hg:=wi db);refine qt db ?_;refine qe hK ?_
   cases bq with
   |true=>
    rw[if_pos rfl] at hex;refine qC ?_;refine af.skip<|qj fun K hK=>qA ?_;refine qm ?_;refine qe hK ?_;refine⟨mm-1,by omega,⟨j+1,acc,W.rdy.drop (j+1),td,pd,qd,P,Q,sn.set (t.pc+1) true,rfl,(hH.drop 1),by omega,rfl,hex,by omega,ba,by rw[List.length_set];exact gE,?_⟩⟩;intro k hk
    by_cases hkk:k=t.pc+1
    ·subst hkk;rw[List.getElem?_set_self s8,QN]
    ·rw[List.getElem?_set_ne (fun e=>hkk e.symm)];exact tC k hk
   |false=>
    rw[if_neg (by decide)] at hex;refine qB ?_;refine qq<|qj fun K hK=>qp (o:=0) ?_;refine ql hH aB ?_;refine qA ?_;refine qp (o:=0) ?_;refine qT hH aB fun st hH=>?_;dsimp only[u2,u1,u3,u4,setMany,u5,u6,D.cells,Nat.reduceAdd,aG,bH,bT,ay,gZ] at hH;refine qe hK<|qj fun K hK=>qp (o:=11) ?_;refine ql hH b4 ?_;refine ab.bf (m:=11) hH rfl (ev rfl) (by exact aB) (by dsimp only[List.drop_succ_cons,List.drop_zero,List.take_succ_cons,List.take_zero,aG,bH,bT,ay,gZ]<;>rfl) rfl rfl (ae rfl _) ?_;refine qh (s:=11) (vs:=[_]) hH fun k57 st VQ hH=>?_;refine ab.bZ (s:=11) hH rfl (ev rfl) (ev rfl) (by exact eF) (by exact hH.rows (by exact aB)) rfl rfl rfl rfl rfl rfl rfl ⟨(Nat.le_of_ble_eq_true rfl),(Nat.le_of_ble_eq_true rfl)⟩ (fun _=>(ae rfl _)) (by simp only[List.length_cons,List.length_nil,List.length_map]<;>omega) (by exact .inl hF) (fun TQ st hH=>?_);dsimp only[u2,u1,u3,u4,setMany,u5,u6,D.cells,Nat.reduceAdd,aG,bH,bT,ay,gZ] at hH;refine qp (o:=11) ?_;refine qT hH cU (fun st hH=>?_) (gG:=hH.dV eF);dsimp only[u2,u1,u3,u4,setMany,u5,u6,D.cells,Nat.reduceAdd,aG,bH,bT,ay,gZ] at hH;refine qe hK<|qj fun K hK=>qA ?_;refine qm ?_;refine qe hK ?_;refine⟨mm-1,by omega,⟨j+1,acc++[⟨t.pc+1,t.c⟩],W.rdy.drop (j+1),TQ,pd,qd,P,Q,sn.set (t.pc+1) true,rfl,(by rw[List.map_append];exact hH.drop 2),by omega,rfl,hex,by simp;omega,ba,by rw[List.length_set];exact gE,?_⟩⟩;intro k hk;rw[wJ]
    by_cases hkk:k=t.pc+1
    ·subst hkk;rw[List.getElem?_set_self s8];simp
    ·rw[List.getElem?_set_ne (fun e=>hkk e.symm),tC k hk];have:(t.pc+1==k)=false:=by rw[beq_eq_false_iff_ne];omega
     simp only[this,Bool.or_false]
 ·refine af.exit ?_;have Bl:rest=[]:=by rw[lL,List.drop_eq_nil_iff];omega
  subst Bl;have hex:acc=A:=hex;subst hex;clear hA lL;have FJ:=tC start Ko;refine qq<|qq<|af.kY (fun fr st=>∃(fe:List gk) (td pd qd:D) (P Q:List Nat) (sn:List Bool) (tmp:List (Nat×D)),fr=⟨25,[bt fr 0,bt fr 1,bt fr 2,bt fr 3,bt fr 4,bt fr 5,.ptr k6 0 0,.ptr k7 0 0,bt fr 8,bt fr 9,bt fr 10,bt fr 11,bt fr 12,bt fr 13,bt fr 14,bt fr 15,bt fr 16,bt fr 17,bt fr 18,bt fr 19,bt fr 20,bt fr 21,bt fr 22,bt fr 23,bt fr 24],tmp⟩∧Has N S st (.box k7 (.mem 0 false (bT W.dn W.aX td))::.aL td 11 (fe.map bH)::.box k6 (.mem 0 false (bT false aH .nul))::.aL rd 11 (W.rdy.map bH)::.box kv (.mem 0 false [p.cd,p.sd,.int .i64 (pl:Nat),ld,.ptr ks 0 0])::.box ks (.mem 0 false [pd,qd])::.aL pd 1 (P.map fK)::.aL qd 2 (Q.map mJ)::.aL ld 12 (L.map gZ)::(L.map pN++H))∧(fe=(if W.dn=true then acc else lq acc ⟨start,aR⟩))∧(dN P Q sn)∧(sn.length=p.code.length)) ?_ ?_
  ·cases KQ:W.dn with
   |true=>
    rw[KQ] at hH;have bD:(!true)=false:=rfl;refine qj fun K hK=>qp (o:=0) ?_;refine ql hH aB ?_;refine qg ?_;refine qm ?_;refine qs ?_ (hg:=wn bD);refine qs ?_ (hg:=wn bD);refine qs ?_ (hg:=wn bD);refine qs ?_ (hg:=wn bD);refine qs ?_ (hg:=wn bD);refine qs ?_ (hg:=wn bD);refine qs ?_ (hg:=wn bD);refine qs ?_ (hg:=wn bD);refine qs ?_ (hg:=wn bD);refine qs ?_ (hg:=wn bD);refine qs ?_ (hg:=wn bD);refine qs ?_ (hg:=wn bD);refine qs ?_ (hg:=wn bD);refine qu bD ?_;refine qe hK<|qC ?_;refine af.skip ?_;exact⟨acc,td,pd,qd,P,Q,sn,_,rfl,hH,rfl,ba,gE⟩
   |false=>
    rw[KQ] at hH;have bD:(!false)=true:=rfl;refine qj fun K hK=>qp (o:=0) ?_;refine ql hH aB ?_;refine qg ?_;refine qm ?_;refine qm ?_ (hg:=wi bD);refine qg ?_ (hg:=wi bD);refine qp (o:=4) ?_ (hg:=wi bD);refine ql hH fW ?_ (hg:=wi bD);refine qm ?_ (hg:=wi bD);refine qg ?_ (hg:=wi bD);refine qp (o:=0) ?_ (hg:=wi bD);refine qp (o:=1) ?_ (hg:=wi bD);refine ql hH fW ?_ (hg:=wi bD);refine qm ?_ (hg:=wi bD);refine qr (fun Ub PI=>?_) (hg:=wi bD);refine qR ?_ (hg:=wi bD);obtain⟨_,st,aO,rfl,pd,qd,P,Q,hH,ba⟩:=mo [_,_,_,_,_] hF FJ ba hH;dsimp only[u3,u4] at hH;refine qv aO ?_ (hg:=wi bD);refine qt bD ?_;refine qe hK ?_
    by_cases GF:iF acc start=true
    ·refine qE rfl (by rw[GF];rfl) ?_;refine af.skip ?_;exact⟨acc,td,pd,qd,P,Q,sn.set start true,_,rfl,hH,by unfold lq;rw[if_neg (by decide),if_pos GF],ba,by rw[List.length_set];exact gE⟩
    ·refine qD rfl (by rw[Bool.eq_false_iff.2 GF];rfl) ?_;refine qj fun K hK=>qp (o:=11) ?_;refine ql hH aB ?_;refine qm ?_;refine qg ?_;refine qp (o:=0) ?_;refine qp (o:=1) ?_;refine ql hH fW ?_;refine qm ?_;refine qr fun Xl Va=>?_;refine qR ?_;refine qv (nG _) ?_;refine ab.go (d:=.agg (bH ⟨start,aR⟩)) (st1:=_) rfl rfl rfl (ae rfl _) ?_;refine qh (s:=11) (vs:=[_]) hH fun k91 st VH hH=>?_;dsimp only[u2,u1,u3,u4,setMany,u5,u6,D.cells,Nat.reduceAdd,aG,bH,bT,ay,gZ] at hH;refine ab.bZ (s:=11) hH rfl (ev rfl) (ev rfl) (by exact cU) (by exact hH.rows (by exact aB)) rfl rfl rfl rfl rfl rfl rfl ⟨(Nat.le_of_ble_eq_true rfl),(Nat.le_of_ble_eq_true rfl)⟩ (fun _=>(ae rfl _)) (by simp only[List.length_cons,List.length_nil,List.length_map]<;>omega) (by exact .inl hF) (fun TL st hH=>?_);dsimp only[u2,u1,u3,u4,setMany,u5,u6,D.cells,Nat.reduceAdd,aG,bH,bT,ay,gZ] at hH;refine qp (o:=11) ?_;refine qT hH b4 (fun st hH=>?_) (gG:=hH.dV cU);dsimp only[u2,u1,u3,u4,setMany,u5,u6,D.cells,Nat.reduceAdd,aG,bH,bT,ay,gZ] at hH;refine qe hK ?_;exact⟨acc++[⟨start,aR⟩],TL,pd,qd,P,Q,sn.set start true,_,rfl,(by rw[List.map_append];exact hH.drop 1),by unfold lq;rw[if_neg (by decide),if_neg GF],ba,by rw[List.length_set];exact gE⟩
  ·rintro fr st ⟨fe,td,pd,qd,P,Q,sn,tmp,hfr,hH,O',ba,gE⟩;rw[hfr];clear hfr;generalize bt fr=ee;clear fr;refine qq<|qj fun K hK=>?_;refine ab.bf (m:=12) hH rfl (ev rfl) (by exact aB) (by dsimp only[List.drop_succ_cons,List.drop_zero,List.take_succ_cons,List.take_zero,aG,bH,bT,ay,gZ]<;>rfl) rfl rfl (ae rfl _) ?_;refine qS hH cU fun st hH=>?_;dsimp only[u2,u1,u3,u4,setMany,u5,u6,D.cells,Nat.reduceAdd,aG,bH,bT,ay,gZ] at hH;refine qe hK<|af.ret ⟨rx,_,_,_,hH.xG rfl cU rfl,rfl,td,rfl,pd,qd,P,Q,sn,?_,ba,gE⟩;rw[←O'];exact((hH.drop 1).erase 1).erase 1
def dv (fr:Go.V.Fr) (k:Nat):Go.V.D:=Go.V.nth .bw fr.loc k
def VL.pl (l:VL):PL:=⟨l.dn,l.aX,l.fe⟩
def bY (p:Pg):List Nat:=p.az.map Int.toNat
def gI (code:List aK) (pl:Nat) (r:Int):List Nat→List PL→List PL
 |s::ss,l::ls=>eZ code pl s r l::gI code pl r ss ls
 |_,_=>[]
def gV (n:Int):Nat:=(min (max n 0) 4).toNat
theorem rS (n:Int):gV n≤4:=by unfold gV;omega
theorem kS (code:List aK) (pl:Nat) (r:Int):∀(ss:List Nat) (ls:List PL),ss.length=ls.length→(gI code pl r ss ls).length=ls.length
 |[],[],_=>rfl
 |s::ss,l::ls,h=>by simp only[gI,List.length_cons];rw[kS code pl r ss ls (by simpa using h)]
theorem kT (code:List aK) (pl:Nat) (r:Int):∀(ss:List Nat) (ls:List PL) (i:Nat) (s:Nat) (l:PL),ss[i]?=some s→ls[i]?=some l→(gI code pl r ss ls)[i]?=some (eZ code pl s r l)
 |[],_,_,_,_,h,_=>by simp at h
 |_::_,[],_,_,_,_,h=>by simp at h
 |s::ss,l::ls,0,_,_,h1,h2=>by simp only[List.getElem?_cons_zero,Option.some.injEq] at h1 h2;subst h1;subst h2;rfl
 |s::ss,l::ls,i+1,_,_,h1,h2=>by simp only[List.getElem?_cons_succ] at h1 h2;simp only[gI,List.getElem?_cons_succ];exact kT code pl r ss ls i _ _ h1 h2
theorem MH.mono {A:List bP} {N:Nat} {S st:St} {ks kv:Nat} {p:Pg} {pl:Nat} {ld:D} {L:List VL} {H:List bP} (n:Nat) (h:MH A N S st ks kv p pl ld L H):MH (A.drop n) N S st ks kv p pl ld L H:=by
 obtain⟨pd,qd,P,Q,sn,hH,ba,gE⟩:=h;refine⟨pd,qd,P,Q,sn,?_,ba,gE⟩
 rcases Nat.le_total n A.length with hn|hn
 ·have:=hH.drop n
  rwa [List.drop_append_of_le_length hn] at this
 ·have:=hH.drop A.length;rw[List.drop_append_of_le_length (Nat.le_refl _),List.drop_length] at this;rw[List.drop_eq_nil_of_le hn];exact this
theorem Cs (L:List VL) (i:Nat) (l:VL):(L.set i l).map pN=(L.map pN).set i (pN l):=List.map_set ..
theorem MH.CF {N:Nat} {S st:St} {ks kv:Nat} {p:Pg} {pl:Nat} {ld:D} {L:List VL} {H:List bP} {i:Nat} {l:VL} {pd qd:D} {P Q:List Nat} (hi:i<L.length)
  (h:Has N S st (.aL l.td 11 (l.fe.map bH)::.box kv (.mem 0 false [p.cd,p.sd,.int .i64 (pl:Nat),ld,.ptr ks 0 0])::.box ks (.mem 0 false [pd,qd])::.aL pd 1 (P.map fK)::.aL qd 2 (Q.map mJ)::.aL ld 12 ((L.map gZ).set i (gZ l))::(L.map pN++H))):
  Has N S st (.box kv (.mem 0 false [p.cd,p.sd,.int .i64 (pl:Nat),ld,.ptr ks 0 0])::.box ks (.mem 0 false [pd,qd])::.aL pd 1 (P.map fK)::.aL qd 2 (Q.map mJ)::.aL ld 12 ((L.set i l).map gZ)::((L.set i l).map pN++H)):=by
 have h1:=h.ec (j:=5+i) (by simp;omega);rw[List.map_set,Cs]
 have h2:∀(a b c d e:bP),(a::b::c::d::e::(L.map pN++H)).set (5+i) (.aL l.td 11 (l.fe.map bH))=a::b::c::d::e::((L.map pN).set i (pN l)++H):=by
  intro a b c d e;rw[Nat.add_comm 5 i];simp only[List.set_cons_succ];rw[List.set_append_left _ _ (by simpa using hi)];rfl
 rw[h2] at h1;exact h1
theorem Gl (nG:∀st,Ev pv 46 [] st (.agg (ay aR)) st) {N ks kv:Nat} {S s0:St} {H:List bP} {p:Pg} {pl:Nat} {ld:D} {L:List VL} {r n:Int} (hF:S.flr≤N) (hp:p.ok) (hR:bW p) (fF:pl≤1000000000000) (TA:L.length=p.az.length) (ba:∀l∈L,l.pl.ok p.code.length) (hM:MH [] N S s0 ks kv p pl ld L H):
  ∃d ah,Ev pv 14 [.ptr kv 0 0,.int .i32 r,.int .i64 n] s0 d ah∧d=.tup []∧∃L',L'.map VL.pl=gI p.code pl r (bY p) (L.map VL.pl)∧MH [] N S ah ks kv p (pl+gV n) ld L' H:=by
 have Pm:=hR.sl;refine Ev.jD rfl R5 rfl rfl rfl ?_;dsimp only[u3,u4,List.length,Nat.reduceSub,Nat.reduceAdd,w1,w2];change af _ _ _ _ s0 _;obtain⟨pd,qd,P,Q,sn,hH,lN,gE⟩:=hM;dsimp only[u4] at hH;refine qq<|qq<|qj fun K hK=>qm ?_;refine qg ?_;refine qp (o:=3) ?_;refine ql hH aB ?_;refine qn ?_ (hR:=hH.rows fW);simp only[List.length_map];refine qm ?_;refine qe hK<|af.block<|af.loop (fun mm fr st=>∃(i:Nat) (L2:List VL) (pd qd:D) (P Q:List Nat) (sn:List Bool),fr.clean=⟨13,[.ptr kv 0 0,.int .i32 r,.int .i64 n,dv fr 3,dv fr 4,dv fr 5,dv fr 6,dv fr 7,dv fr 8,dv fr 9,dv fr 10,.int .i64 (L.length:Nat),.int .i64 (i:Nat)],[]⟩∧Has N S st (.box kv (.mem 0 false [p.cd,p.sd,.int .i64 (pl:Nat),ld,.ptr ks 0 0])::.box ks (.mem 0 false [pd,qd])::.aL pd 1 (P.map fK)::.aL qd 2 (Q.map mJ)::.aL ld 12 (L2.map gZ)::(L2.map pN++H))∧(i+mm=L.length)∧(L2.length=L.length)∧(∀j l s,j<i→L[j]?=some l→p.az[j]?=some s→(L2.map VL.pl)[j]?=some (eZ p.code pl s.toNat r l.pl))∧(∀j,i≤j→L2[j]?=L[j]?)∧(dN P Q sn)∧(sn.length=p.code.length)) (L.length) ?_ ?_
 ·exact⟨0,L,_,_,_,_,_,rfl,hH,by omega,rfl,(by intro j l s h;omega),(fun j _=>rfl),lN,gE⟩
 rintro mm fr st ⟨i,L2,pd,qd,P,Q,sn,hfr,hH,hi,zV,Tp,S4,lN,gE⟩;rw[hfr];clear hfr;generalize dv fr=ee;clear fr;refine qq<|qj fun K hK=>qg ?_;refine qe hK<|qq ?_;refine af.cond (by rfl) (fun hlt=>?_) (fun hlt=>?_)<;>try simp only[decide_eq_true_eq,decide_eq_false_iff_not] at hlt
 ·refine af.skip ?_;have hil:i<L.length:=by omega
  obtain⟨l,hl⟩:∃l,L[i]?=some l:=⟨L[i]'hil,List.getElem?_eq_getElem _⟩
  have o8:L2[i]?=some l:=by rw[S4 i (Nat.le_refl _)];exact hl
  obtain⟨s,hs⟩:∃s,p.az[i]?=some s:=⟨p.az[i]'(by omega),List.getElem?_eq_getElem _⟩
  obtain⟨nE,Ck⟩:=hR.st s (List.mem_of_getElem? hs);obtain⟨Lp,rfl⟩:=Int.eq_ofNat_of_zero_le nE;have hO:=Ac o8;refine qq<|af.block<|qq<|qj fun K hK=>qm ?_;refine qm ?_;refine qe hK ?_;have cy:=hH;have MO:=wh hH fW;have MN:=hH.x0 b4 (k:=ks) rfl;have Pu:=hp.c.ref;have Pt:=hp.s.ref;have Lu:refs [p.cd,p.sd,.int .i64 (pl:Nat),ld,.ptr ks 0 0]≤st.bs.length:=by simp only[refs,D.ref,Pu,Pt];omega
  change af _ _ _ _ _ _;generalize hK:ck _ _ _ _=K;refine af.Fb rfl ?_;refine f_.cons ?_;refine qm ?_;refine ab.nil ⟨rfl,?_⟩;refine f_.cons ?_;refine qg ?_;refine ab.nil ⟨rfl,?_⟩;refine f_.cons ?_;refine qp (o:=3) ?_;refine ab.nil ⟨rfl,?_⟩;refine f_.cons ?_;refine ql hH aB ?_;refine ab.nil ⟨rfl,?_⟩;refine f_.cons ?_;refine qm ?_;refine ab.nil ⟨rfl,?_⟩;refine f_.cons ?_;refine qm ?_;refine ab.nil ⟨rfl,?_⟩;refine f_.cons ?_;refine qm ?_;refine ab.nil ⟨rfl,?_⟩;refine f_.cons ?_;refine qm ?_;refine ab.nil ⟨rfl,?_⟩;refine f_.cons ?_;obtain⟨_,st,aO,td,rfl,hM⟩:=Al nG hF hp hR (by omega) o8 hs (ba l (List.mem_of_getElem? hl)) ⟨pd,qd,P,Q,sn,hH,lN,gE⟩;obtain⟨pd,qd,P,Q,sn,hH,lN,gE⟩:=hM;dsimp only[u3,u4] at hH;refine qv aO ?_;refine ab.nil ⟨by exact Bool.and_eq_true_iff.2 ⟨mV rfl rfl rfl (cy.at aB) (hH.at b4) (cy.at aB) Lu,rfl⟩,?_⟩;refine f_.cons ?_;refine qi hH l7 fun Oa FR=>?_;refine ab.nil ⟨rfl,?_⟩;refine f_.cons ?_;refine ab.kX hH rfl (ev rfl) (ev rfl) (by assumption) rfl rfl (by exact l7) (by assumption) (Nat.le_of_ble_eq_true rfl) (by exact .inl hF) (fun st hH=>?_);dsimp only[u2,u1,u3,u4,setMany,u5,u6,D.cells,Nat.reduceAdd,aG,bH,bT,ay,gZ] at hH;refine ab.nil ⟨rfl,?_⟩;refine f_.nil ?_;subst hK;have hH:=MH.CF (l:=⟨(eZ p.code pl Lp r l.pl).dn,(eZ p.code pl Lp r l.pl).aX,td,(eZ p.code pl Lp r l.pl).fe⟩) (by omega) hH;refine qj fun K hK=>qA ?_;refine qm ?_;refine qe hK ?_;refine⟨mm-1,by omega,⟨i+1,L2.set i ⟨(eZ p.code pl Lp r l.pl).dn,(eZ p.code pl Lp r l.pl).aX,td,(eZ p.code pl Lp r l.pl).fe⟩,pd,qd,P,Q,sn,rfl,hH,by omega,by rw[List.length_set];exact zV,?_,(fun j hj=>by rw[List.getElem?_set_ne (by omega)];exact S4 j (by omega)),lN,gE⟩⟩;intro j l' s' hj gF ta;rw[List.map_set]
  by_cases hji:j=i
  ·subst hji;rw[hl] at gF;rw[hs] at ta;cases gF;cases ta;rw[List.getElem?_set_self (by rw[List.length_map];omega)];rfl
  ·rw[List.getElem?_set_ne (fun e=>hji e.symm)];exact Tp j l' s' (by omega) gF ta
 ·refine af.exit ?_;have hil:i=L.length:=by omega
  have QH:=rS n;have Wl:((pl:Nat):Int)+min (max n 0) 4=((pl+gV n:Nat):Int):=by unfold gV;omega
  refine qj fun K hK=>qm ?_;refine qg ?_;refine qp (o:=2) ?_;refine ql hH aB ?_;refine qm ?_;refine ab.Fw (t1:=0) (t2:=0) rfl (ev rfl) (ev rfl) (ae rfl _) ?_;refine ab.Fv (t1:=0) (t2:=0) rfl (ev rfl) (ev rfl) (ae rfl _) ?_;refine ab.kK (z:=((pl+gV n:Nat):Int)) rfl (ev rfl) (ev rfl) (by rw[Wl];exact dC (by simp only[jU];omega)) (ae rfl _) ?_;refine qg ?_;refine qp (o:=2) ?_;refine qT hH aB fun st hH=>?_;dsimp only[u2,u1,u3,u4,setMany,u5,u6,D.cells,Nat.reduceAdd,aG,bH,bT,ay,gZ] at hH;refine qe hK ?_;refine⟨fun i h=>(by cases h),_,_,_,rfl,rfl,?_⟩;refine⟨rfl,L2,?_,pd,qd,P,Q,sn,hH,lN,gE⟩;refine List.ext_getElem? fun j=>?_
  by_cases hj:j<L.length
  ·obtain⟨l,hl⟩:∃l,L[j]?=some l:=⟨L[j]'hj,List.getElem?_eq_getElem _⟩
   obtain⟨s,hs⟩:∃s,p.az[j]?=some s:=⟨p.az[j]'(by omega),List.getElem?_eq_getElem _⟩
   rw[Tp j l s (by omega) hl hs,kT (s:=s.toNat) (l:=l.pl)]
   ·unfold bY;rw[List.getElem?_map,hs];rfl
   ·rw[List.getElem?_map,hl];rfl
  ·rw[List.getElem?_eq_none (by simp;omega),List.getElem?_eq_none];rw[kS]
   ·simp;omega
   ·unfold bY;simp;omega
def jH (code:List aK) (pl:Nat) (l:PL):PL:=⟨(mc code pl true l.fe (jC code.length l.dn l.aX)).dn,(mc code pl true l.fe (jC code.length l.dn l.aX)).aX,[]⟩
def qw (l:PL):List D:=bT l.dn l.aX .nul
theorem Gm {N ks kv:Nat} {S s0:St} {H:List bP} {p:Pg} {pl:Nat} {ld:D} {L:List VL} (hF:S.flr≤N) (hp:p.ok) (hR:bW p) (fF:pl≤1099511627776) (TA:L.length=p.az.length) (ba:∀l∈L,l.pl.ok p.code.length) (hM:MH [] N S s0 ks kv p pl ld L H):
  ∃d ah,Ev pv 12 [.ptr kv 0 0] s0 d ah∧MH [.aL d 12 ((L.map fun l=>jH p.code pl l.pl).map qw)] N S ah ks kv p pl ld L H:=by
 have Pm:=hR.sl;refine Ev.jD rfl R6 rfl rfl rfl ?_;dsimp only[u3,u4,List.length,Nat.reduceSub,Nat.reduceAdd,w1,w2];change af _ _ _ _ s0 _;obtain⟨pd,qd,P,Q,sn,hH,lN,gE⟩:=hM;dsimp only[u4] at hH;refine qq<|qj fun K hK=>qm ?_;refine qe hK<|qq<|qj fun K hK=>qm ?_;refine qe hK<|qq<|qq<|qj fun K hK=>qm ?_;refine qg ?_;refine qp (o:=3) ?_;refine ql hH aB ?_;refine qn ?_ (hR:=hH.rows fW);simp only[List.length_map];refine qm ?_;refine qe hK<|af.block<|af.loop (fun mm fr st=>∃(i:Nat) (od pd qd:D) (P Q:List Nat) (sn:List Bool),fr.clean=⟨13,[.ptr kv 0 0,dv fr 1,dv fr 2,od,dv fr 4,dv fr 5,dv fr 6,dv fr 7,dv fr 8,dv fr 9,dv fr 10,.int .i64 (L.length:Nat),.int .i64 (i:Nat)],[]⟩∧Has N S st (.aL od 12 (((L.map fun l=>jH p.code pl l.pl).take i).map qw)::.box kv (.mem 0 false [p.cd,p.sd,.int .i64 (pl:Nat),ld,.ptr ks 0 0])::.box ks (.mem 0 false [pd,qd])::.aL pd 1 (P.map fK)::.aL qd 2 (Q.map mJ)::.aL ld 12 (L.map gZ)::(L.map pN++H))∧(i+mm=L.length)∧(dN P Q sn)∧(sn.length=p.code.length)) (L.length) ?_ ?_
 ·exact⟨0,.nul,_,_,_,_,_,rfl,(hH.eB 12),by omega,lN,gE⟩
 rintro mm fr st ⟨i,od,pd,qd,P,Q,sn,hfr,hH,hi,lN,gE⟩;rw[hfr];clear hfr;generalize dv fr=ee;clear fr;refine qq<|qj fun K hK=>qg ?_;refine qe hK<|qq ?_;refine af.cond (by rfl) (fun hlt=>?_) (fun hlt=>?_)<;>try simp only[decide_eq_true_eq,decide_eq_false_iff_not] at hlt
 ·refine af.skip ?_;have hil:i<L.length:=by omega
  obtain⟨l,hl⟩:∃l,L[i]?=some l:=⟨L[i]'hil,List.getElem?_eq_getElem _⟩
  obtain⟨uR,rD⟩:=ba l (List.mem_of_getElem? hl);simp only[VL.pl] at uR rD;have hge:(L.map fun l=>jH p.code pl l.pl)[i]?=some (jH p.code pl l.pl):=by rw[List.getElem?_map,hl];rfl
  have rC:(((L.map fun l=>jH p.code pl l.pl).take i).map qw).length=i:=by simp;omega
  refine qq<|af.block<|qq<|qj fun K hK=>qm ?_;refine qm ?_;refine qe hK ?_;obtain⟨_,st1,aO,rd,rfl,hM⟩:=rJ (e:=true) hF hp hR fF hl uR (by omega) (MH.push [_] [] ⟨pd,qd,P,Q,sn,hH,lN,gE⟩);clear lN gE;have hM:=MH.pull [_] [] (MH.mono 1 hM);obtain⟨pd,qd,P,Q,sn,Cp,lN,gE⟩:=hM;dsimp only[u3,u4] at Cp;generalize hB:((L.map fun l=>jH p.code pl l.pl).take i).map qw=B at*;refine qq<|qj fun K hK=>qm ?_;refine qm ?_;have hH:=Cp;refine qv aO ?_;refine qm ?_;refine qg ?_;refine qg ?_;refine qa hH fun k5 st KK hH=>?_;refine qS hH aB fun st hH=>?_;dsimp only[u2,u1,u3,u4,setMany,u5,u6,D.cells,Nat.reduceAdd,aG,bH,bT,ay,gZ,qw] at hH;refine qm ?_;refine qe hK ?_;clear Cp;refine qj fun K hK=>qm ?_;refine ab.bf (m:=12) hH rfl (ev rfl) (by exact aB) (by dsimp only[List.drop_succ_cons,List.drop_zero,List.take_succ_cons,List.take_zero,aG,bH,bT,ay,gZ,qw]<;>rfl) rfl rfl (ae rfl _) ?_;refine qh (s:=12) (vs:=[_]) hH fun k23 st Nk hH=>?_;refine ab.bZ (s:=12) hH rfl (ev rfl) (ev rfl) (by exact cU) (by exact hH.rows (by exact aB)) rfl rfl rfl rfl rfl rfl rfl ⟨(Nat.le_of_ble_eq_true rfl),(Nat.le_of_ble_eq_true rfl)⟩ (fun _=>(ae rfl _)) (by simp only[List.length_cons,List.length_nil,List.length_map]<;>omega) (by exact .inl hF) (fun T0 st hH=>?_);dsimp only[u2,u1,u3,u4,setMany,u5,u6,D.cells,Nat.reduceAdd,aG,bH,bT,ay,gZ,qw] at hH;refine qm ?_;refine qe hK<|qj fun K hK=>qA ?_;refine qm ?_;refine qe hK ?_;exact⟨mm-1,by omega,⟨i+1,T0,pd,qd,P,Q,sn,rfl,(by rw[List.take_add_one,hge,Option.toList_some,List.map_append,hB];exact hH.drop 2),by omega,lN,gE⟩⟩
 ·refine af.exit ?_;have hil:i=L.length:=by omega
  refine qq<|qj fun K hK=>qm ?_;refine qm ?_;refine qe hK<|af.ret ⟨rx,_,_,_,rfl,rfl,?_⟩;rw[List.take_of_length_le (by simp;omega)] at hH;exact⟨pd,qd,P,Q,sn,hH,lN,gE⟩
def dX (fr:Go.V.Fr) (k:Nat):Go.V.D:=Go.V.nth .bw fr.loc k
structure tw (p q:Pg):Prop where
 ok:q.ok
 code:q.code=p.code.map dZ
 az:q.az=p.az
theorem AP {s0:St} {p:Pg} (hp:p.ok):∃d,Ev pv 45 [p.d] s0 d s0∧∃q:Pg,d=q.d∧tw p q:=by
 refine Ev.Fu rfl RL rfl rfl rfl ?_;dsimp only[u3,u4,List.length,Nat.reduceSub,Nat.reduceAdd,w1,w2];obtain⟨cM,hF,hH⟩:=ri s0;generalize ak .ro s0=S at*;have hc:=hp.c.arg s0.bs.length S;have hs:=hp.s.arg s0.bs.length S;have hlen:=hp.cl;have MG:=hp.sl;unfold Pg.d;refine qq<|qj fun K hK=>qb hH fun k1 st o9 hH=>?_;dsimp only[u2,u1,u3,u4,setMany,u5,u6,D.cells,Nat.reduceAdd,Pg.cs,aG,aq] at hH;refine qa hH fun k2 st hk2 hH=>?_;refine qe hK ?_;have hH:=hH.eB 1;refine qq<|qj fun K hK=>qp (o:=1) ?_;refine ql hH cU ?_;refine qP hH aB (Arg.rows (by assumption) hH) fun x8 st hH=>?_;dsimp only[u2,u1,u3,u4,setMany,u5,u6,D.cells,Nat.reduceAdd,Pg.cs,aG,aq] at hH;refine ab.fX (qs:=[(1,_)]) rfl rfl rfl rfl ⟨rfl,(ev rfl),(by exact hH.dV (by exact aB)),trivial⟩ (by intro q hq;simp only[List.mem_cons,List.not_mem_nil,or_false] at hq;rcases hq with rfl<;>exact⟨rfl,by exact Nat.le_of_ble_eq_true rfl⟩) (by show List.foldl _ [_,_] _=_;dsimp only[List.foldl_cons,List.foldl_nil,u2,u1]<;>rfl) (by dsimp only[Fr.put,u1,u2]<;>rfl) ?_;refine qa hH fun k3 st Nj hH=>?_;refine qS hH aB fun st hH=>?_;dsimp only[u2,u1,u3,u4,setMany,u5,u6,D.cells,Nat.reduceAdd,Pg.cs,aG,aq] at hH;refine qe hK ?_;have hH:=hH.Ml 4;refine qq<|qq<|qj fun K hK=>qp (o:=0) ?_;refine ql hH fW ?_;refine qn ?_;simp only[List.length_map];refine qm ?_;refine qe hK<|af.block<|af.loop (fun mm fr st=>∃(i:Nat) (y:D) (ks:Nat→Prop),fr.clean=⟨14,[dX fr 0,.ptr k1 0 0,.ptr k2 0 0,.ptr k3 0 0,dX fr 4,dX fr 5,dX fr 6,dX fr 7,dX fr 8,dX fr 9,dX fr 10,p.cd,.int .i64 (p.code.length:Nat),.int .i64 (i:Nat)],[]⟩∧Has s0.bs.length S st [.deep ks y 4 ((p.code.take i).map pB),.box k3 (.mem 0 false [y,x8]),.aL x8 1 (p.az.map aq),.box k2 (.mem 0 false [.nul,.nul]),.box k1 (.mem 0 false [p.cd,p.sd])]∧(i+mm=p.code.length)) (p.code.length) ?_ ?_
 ·exact⟨0,.nul,_,rfl,hH,by omega⟩
 rintro mm fr st ⟨i,y,ks,hfr,hH,hi⟩;rw[hfr];clear hfr;generalize dX fr=ee;clear fr;refine qq<|qj fun K hK=>qg ?_;refine qe hK<|qq ?_;refine af.cond (by rfl) (fun h1=>?_) (fun h1=>?_)<;>try simp only[decide_eq_true_eq,decide_eq_false_iff_not] at h1
 ·refine af.skip ?_
  obtain⟨q,hq⟩:∃q,p.code[i]?=some q:=⟨p.code[i]'(by omega),List.getElem?_eq_getElem _⟩
  have hr:=gz hq;have uP:=hp.i q (List.mem_of_getElem? hq);have zh:=uP.1;have MQ:=uP.1.arg s0.bs.length S;have rC:=uP.2;have s8:((p.code.take i).map pB).length≤1048576:=by rw[List.length_map,List.length_take];omega
  refine qq<|af.block<|qq<|qj fun K hK=>qr fun SP MZ=>?_;refine ab.eA rfl (ev rfl) (by assumption) rfl (ae rfl _) ?_;refine qa hH fun k5 st KK hH=>?_;refine qS hH aB fun st hH=>?_;dsimp only[u2,u1,u3,u4,setMany,u5,u6,D.cells,Nat.reduceAdd,Pg.cs,aG,aq] at hH;refine qe hK ?_;have hH:=hH.eB 2;refine qq<|qj fun K hK=>qp (o:=3) ?_;refine ql hH b4 ?_;refine ab.bZ (s:=2) hH rfl (ev rfl) (ev rfl) (by exact aB) (by exact Arg.rows (by assumption) hH) rfl rfl rfl rfl rfl rfl rfl ⟨(Nat.le_of_ble_eq_true rfl),(Nat.le_of_ble_eq_true rfl)⟩ (fun _=>(ae rfl _)) (by simp only[List.length_nil,List.length_map]<;>omega) (by exact .inl hF) (fun Su st hH=>?_);dsimp only[u2,u1,u3,u4,setMany,u5,u6,D.cells,Nat.reduceAdd,Pg.cs,aG,aq] at hH;refine qp (o:=3) ?_;refine qT hH b4 (fun st hH=>?_) (gG:=hH.dV aB);dsimp only[u2,u1,u3,u4,setMany,u5,u6,D.cells,Nat.reduceAdd,Pg.cs,aG,aq] at hH;refine qe hK<|qj fun K hK=>qp (o:=0) ?_;refine ql hH eF ?_;refine ab.bf (m:=4) hH rfl (ev rfl) (by exact b4) (by dsimp only[List.drop_succ_cons,List.drop_zero,List.take_succ_cons,List.take_zero,Pg.cs,aG,aq]<;>rfl) rfl rfl (ae rfl _) ?_;refine qh (s:=4) (vs:=[_]) hH fun k24 st V5 hH=>?_;obtain⟨hH,QG⟩:=hH.Ca (i:=1) (j:=3) (by decide) b4 eF (dU _);dsimp only[u1,u2] at hH;refine ab.oi hH rfl rfl rfl eF (hH.rows aB) (.cons (.cons (.plain _ rfl) (.cons (.plain _ rfl) (.cons (.plain _ rfl) (.cons QG .nil)))) .nil) rfl rfl rfl rfl rfl rfl rfl ⟨(Nat.le_of_ble_eq_true rfl),(Nat.le_of_ble_eq_true rfl)⟩ (fun _=>(ae rfl _)) (by show _+1≤_;omega) (.inl hF) (fun TZ st hH=>?_);dsimp only[u1,u2] at hH;refine qp (o:=0) ?_;refine ab.mO hH rfl (ev rfl) (ev rfl) (by exact hH.wT (by exact eF)) (by exact rfl) (by exact fW) (by exact Nat.le_of_ble_eq_true rfl) (by exact .inl hF) (fun st hH=>?_);dsimp only[u2,u1,u3,u4,setMany,u5,u6,D.cells,Nat.reduceAdd,Pg.cs,aG,aq] at hH;refine qe hK<|qj fun K hK=>qA ?_;refine qm ?_;refine qe hK ?_;exact⟨mm-1,by omega,⟨i+1,TZ,_,rfl,(by rw[List.take_add_one,hq,Option.toList_some,List.map_append];exact hH.drop 3),by omega⟩⟩
 ·refine af.exit<|qq<|qj fun K hK=>?_;refine ab.bf (m:=2) hH rfl (ev rfl) (by exact b4) (by dsimp only[List.drop_succ_cons,List.drop_zero,List.take_succ_cons,List.take_zero,Pg.cs,aG,aq]<;>rfl) rfl rfl (ae rfl _) ?_;refine qS hH eF fun st hH=>?_;dsimp only[u2,u1,u3,u4,setMany,u5,u6,D.cells,Nat.reduceAdd,Pg.cs,aG,aq] at hH;refine qe hK ?_;rw[List.take_of_length_le (by omega)] at hH;have h1:=hH.u9 aB (n:=14) (by decide);have h2:=hH.yk cU (mM _) (n:=15) (by decide)
  have h3:bG st s0.bs.length false 16 (.agg [y,x8])=some (.agg [.sl ((p.code.map pB).map (jK 4)),.sl ((p.az.map aq).map (jK 1))]):=by
   show(ia (bG st s0.bs.length false 15) [y,x8]).map D.agg=_;simp only[ia,h1,h2,Option.map_some]
  refine af.ret ⟨rx,_,_,hH.xG rfl eF rfl,rl cM hH h3,⟨_,p.code.map dZ,Bd p.az,p.az⟩,rfl,⟨?_,uL _,?_,by simpa using hlen,MG⟩,rfl,rfl⟩
  ·have h0:(p.code.map dZ).map aG=p.code.map pB:=by rw[List.map_map];rfl
   show gY _ 4 ((p.code.map dZ).map aG);rw[h0]
   have h4:∀e∈(p.code.map pB),e.length=4:=by
    intro e he;obtain⟨q,_,rfl⟩:=List.mem_map.1 he;rfl
   have:=gY.frozen (s:=4) (es:=p.code.map pB) h4 (by
    intro e he d hd;obtain⟨q,_,rfl⟩:=List.mem_map.1 he;simp only[pB,aG,dZ,List.mem_cons,List.not_mem_nil,or_false] at hd
    rcases hd with rfl|rfl|rfl|rfl<;>rfl)
   exact this
  ·intro i hi;obtain⟨q,hq,rfl⟩:=List.mem_map.1 hi;exact BS (hp.i q hq)
theorem tw.right {p q:Pg} (h:tw p q) (hR:bW p):bW q:=(vO h.code h.az).2 hR
theorem z_ {N:Nat} {S s0:St} {H:List bP} {p:Pg} (hF:S.flr≤N) (hp:p.ok) (hR:bW p) (hH:Has N S s0 H):
  ∃r ah,Ev pv 24 [p.d] s0 r ah∧∃kv ks q,r=.tup [.ptr kv 0 0,.int .i64 0]∧tw p q∧MH [] N S ah ks kv q 0 .nul [] H:=by
 have hc:=hp.c.arg N S;have hcl:=hR.cl;obtain⟨_,Qy,q,rfl,hq⟩:=AP (s0:=s0) hp;have hown:∀st,∃d,Ev pv 45 [p.d] st d st∧∃q:Pg,d=q.d∧tw p q:=fun st=>AP hp;unfold Pg.d at hown;unfold Pg.d;clear Qy hq q;refine Ev.jD rfl R0 rfl rfl rfl ?_;dsimp only[u3,u4,List.length,Nat.reduceSub,Nat.reduceAdd,w1,w2];change af _ _ _ _ s0 _;refine qq<|qj fun K hK=>qb hH fun k1 st o9 hH=>?_;dsimp only[u2,u1,u3,u4,setMany,u5,u6,D.cells,Nat.reduceAdd,Pg.cs,aG,aq] at hH;refine qm ?_;refine qm ?_;refine qe hK<|qq<|qq<|qj fun K hK=>?_;refine ab.bf (m:=2) hH rfl (ev rfl) (by exact aB) (by dsimp only[List.drop_succ_cons,List.drop_zero,List.take_succ_cons,List.take_zero,Pg.cs,aG,aq]<;>rfl) rfl rfl (ae rfl _) ?_;refine qv (kQ (p:=p) hp) ?_;refine qg ?_;refine qe hK<|qE rfl (by rw[lU hR];rfl) ?_;refine af.skip<|qq<|qj fun K hK=>qp (o:=0) ?_;refine ql hH aB ?_;refine qn ?_;simp only[List.length_map];obtain⟨_,st,aO,ks,rfl,pd,qd,P,Q,hH,ba⟩:=yK (n:=p.code.length) hF (by omega) hH;refine qv aO ?_;refine qm ?_;refine qg ?_;refine qg ?_;refine qm ?_;refine qm ?_;refine qe hK ?_;obtain⟨_,aO,q,rfl,hq⟩:=hown st;refine qq<|qj fun K hK=>?_;refine ab.bf (m:=2) hH rfl (ev rfl) (by exact eF) (by dsimp only[List.drop_succ_cons,List.drop_zero,List.take_succ_cons,List.take_zero,Pg.cs,aG,aq]<;>rfl) rfl rfl (ae rfl _) ?_;refine qv aO ?_;refine qm ?_;refine ab.go (d:=.agg [q.cd,q.sd,.int .i64 0,.nul,.ptr ks 0 0]) (st1:=_) rfl rfl rfl (ae rfl _) ?_;refine qb hH fun k20 st Qk hH=>?_;refine qm ?_;refine qm ?_;refine qm ?_;refine qe hK<|af.ret ⟨rx,_,_,_,rfl,rfl,?_⟩;have hl:(List.replicate p.code.length false).length=q.code.length:=by rw[List.length_replicate,hq.code,List.length_map]
 exact⟨k20,ks,q,rfl,hq,pd,qd,P,Q,_,Has.pU [_] [_,_,_,_] ((hH.erase 4).eB 12),ba,hl⟩
def rB (s:Nat):PL:=⟨false,aR,[⟨s,aR⟩]⟩
theorem B8 (nG:∀st,Ev pv 46 [] st (.agg (ay aR)) st) {N ks kv:Nat} {S s0:St} {H:List bP} {p:Pg} (hF:S.flr≤N) (hp:p.ok) (hR:bW p) (hM:MH [] N S s0 ks kv p 0 .nul [] H):
  ∃d ah,Ev pv 25 [.ptr kv 0 0] s0 d ah∧d=.tup []∧∃ld L,L.map VL.pl=(bY p).map rB∧MH [] N S ah ks kv p 0 ld L H:=by
 have hs:=hp.s.arg N S;have Pm:=hR.sl;obtain⟨pd,qd,P,Q,sn,hH,ba,gE⟩:=hM;dsimp only[u4] at hH;refine Ev.jD rfl RZ rfl rfl rfl ?_;dsimp only[u3,u4,List.length,Nat.reduceSub,Nat.reduceAdd,w1,w2];change af _ _ _ _ s0 _;refine qq<|qj fun K hK=>qm ?_;refine qg ?_;refine qp (o:=0) ?_;refine qp (o:=1) ?_;refine ql hH aB ?_;refine qn ?_;simp only[List.length_map];refine qm ?_;refine qe hK<|af.block<|af.loop (fun mm fr st=>∃(i:Nat) (ld:D) (L:List VL),fr.clean=⟨11,[.ptr kv 0 0,dX fr 1,dX fr 2,dX fr 3,dX fr 4,dX fr 5,dX fr 6,dX fr 7,p.sd,.int .i64 (p.az.length:Nat),.int .i64 (i:Nat)],[]⟩∧Has N S st (.box kv (.mem 0 false [p.cd,p.sd,.int .i64 ((0:Nat):Nat),ld,.ptr ks 0 0])::.box ks (.mem 0 false [pd,qd])::.aL pd 1 (P.map fK)::.aL qd 2 (Q.map mJ)::.aL ld 12 (L.map gZ)::(L.map pN++H))∧(i+mm=p.az.length)∧(L.length=i)∧(L.map VL.pl=((bY p).take i).map rB)) (p.az.length) ?_ ?_
 ·exact⟨0,.nul,[],rfl,hH,by omega,rfl,rfl⟩
 rintro mm fr st ⟨i,ld,L,hfr,hH,hi,TA,Tz⟩;rw[hfr];clear hfr;generalize dX fr=ee;clear fr;refine qq<|qj fun K hK=>qg ?_;refine qe hK<|qq ?_;refine af.cond (by rfl) (fun hlt=>?_) (fun hlt=>?_)<;>try simp only[decide_eq_true_eq,decide_eq_false_iff_not] at hlt
 ·refine af.skip ?_;have hil:i<p.az.length:=by omega
  obtain⟨s,Pl⟩:∃s,p.az[i]?=some s:=⟨p.az[i]'(by omega),List.getElem?_eq_getElem _⟩
  obtain⟨nE,Ck⟩:=hR.st s (List.mem_of_getElem? Pl);obtain⟨s1,rfl⟩:=Int.eq_ofNat_of_zero_le nE;have hO:=ei Pl;have c8:(bY p)[i]?=some s1:=by unfold bY;rw[List.getElem?_map,Pl];rfl
  refine qq<|af.block<|qq<|qj fun K hK=>qr fun SQ M0=>?_;refine qR ?_;refine qm ?_;refine qe hK<|qj fun K hK=>qm ?_;refine qm ?_;refine qg ?_;refine qp (o:=3) ?_;refine ql hH aB ?_;refine qv (nG _) ?_;refine qm ?_;refine qv (nG _) ?_;refine ab.go (d:=.agg (bH ⟨s1,aR⟩)) (st1:=_) rfl rfl rfl (ae rfl _) ?_;refine qh (s:=11) (vs:=[_]) hH fun k23 st Nk hH=>?_;dsimp only[u2,u1,u3,u4,setMany,u5,u6,D.cells,Nat.reduceAdd,aG,bH,bT,ay,gZ,aq] at hH;refine ab.go (d:=.agg (bT false aR (.win k23 0 0 1 11))) (st1:=_) rfl rfl rfl (ae rfl _) ?_;refine qh (s:=12) (vs:=[_]) hH fun k25 st V4 hH=>?_;dsimp only[u2,u1,u3,u4,setMany,u5,u6,D.cells,Nat.reduceAdd,aG,bH,bT,ay,gZ,aq] at hH;refine ab.bZ (s:=12) hH rfl (ev rfl) (ev rfl) (by exact GV) (by exact hH.rows (by exact aB)) rfl rfl rfl rfl rfl rfl rfl ⟨(Nat.le_of_ble_eq_true rfl),(Nat.le_of_ble_eq_true rfl)⟩ (fun _=>(ae rfl _)) (by simp only[List.length_cons,List.length_nil,List.length_map]<;>omega) (by exact .inl hF) (fun TY st hH=>?_);dsimp only[u2,u1,u3,u4,setMany,u5,u6,D.cells,Nat.reduceAdd,aG,bH,bT,ay,gZ,aq] at hH;refine qg ?_;refine qp (o:=3) ?_;refine qT hH cU (fun st hH=>?_) (gG:=hH.dV GV);dsimp only[u2,u1,u3,u4,setMany,u5,u6,D.cells,Nat.reduceAdd,aG,bH,bT,ay,gZ,aq] at hH;refine qe hK<|qj fun K hK=>qA ?_;refine qm ?_;refine qe hK ?_;have hH:=hH.drop 1;have hH:=Has.pU [_] (_::_::_::_::_::L.map pN) hH;refine⟨mm-1,by omega,⟨i+1,TY,L++[⟨false,aR,.win k23 0 0 1 11,[⟨s1,aR⟩]⟩],rfl,?_,by omega,by simp;omega,?_⟩⟩
  ·rw[List.map_append,List.map_append,List.append_assoc];exact hH
  ·rw[List.map_append,Tz,List.take_add_one,c8,Option.toList_some,List.map_append];rfl
 ·refine af.exit ?_;refine⟨fun i h=>(by cases h),_,_,_,rfl,rfl,?_⟩;refine⟨rfl,ld,L,?_,pd,qd,P,Q,sn,hH,ba,gE⟩;rw[Tz,List.take_of_length_le];unfold bY;rw[List.length_map];omega
theorem yV {p:Pg} (hR:bW p):∀l∈(bY p).map rB,l.ok p.code.length:=by
 intro l hl;obtain⟨s,hs,rfl⟩:=List.mem_map.1 hl;obtain⟨v,hv,rfl⟩:=List.mem_map.1 hs;have:=hR.st v hv;refine⟨fun t ht=>?_,by simp[rB]⟩;simp only[rB,List.mem_cons,List.not_mem_nil,or_false] at ht;subst ht;show v.toNat<_;omega
theorem Cu (nG:∀st,Ev pv 46 [] st (.agg (ay aR)) st) {N:Nat} {S s0:St} {H:List bP} {p:Pg} (hF:S.flr≤N) (hp:p.ok) (hR:bW p) (hH:Has N S s0 H):
  ∃r ah,Ev pv 9 [p.d] s0 r ah∧∃kv ks q ld L,r=.tup [.ptr kv 0 0,.int .i64 0]∧tw p q∧L.map VL.pl=(bY p).map rB∧MH [] N S ah ks kv q 0 ld L H:=by
 have GI:∀st H,Has N S st H→∃r ah,Ev pv 24 [p.d] st r ah∧∃kv ks q,r=.tup [.ptr kv 0 0,.int .i64 0]∧tw p q∧MH [] N S ah ks kv q 0 .nul [] H:=fun st H h=>z_ hF hp hR h;unfold Pg.d at*;refine Ev.jD rfl WO rfl rfl rfl ?_;dsimp only[u3,u4,List.length,Nat.reduceSub,Nat.reduceAdd,w1,w2];change af _ _ _ _ s0 _;refine qq<|qj fun K hK=>qb hH fun k1 st o9 hH=>?_;dsimp only[u2,u1,u3,u4,setMany,u5,u6,D.cells,Nat.reduceAdd,Pg.cs,aG,aq] at hH;refine qm ?_;refine qm ?_;refine qe hK<|qq<|qj fun K hK=>?_;refine ab.bf (m:=2) hH rfl (ev rfl) (by exact aB) (by dsimp only[List.drop_succ_cons,List.drop_zero,List.take_succ_cons,List.take_zero,Pg.cs,aG,aq]<;>rfl) rfl rfl (ae rfl _) ?_;obtain⟨_,st,aO,kv,ks,q,rfl,hq,hM⟩:=GI _ _ hH;refine qv aO ?_;refine qm ?_;refine qg ?_;refine qg ?_;refine qm ?_;refine qm ?_;refine qe hK<|qq<|qq<|qj fun K hK=>qm ?_;refine qg ?_;refine qe hK<|af.cond (v:=false) (by dsimp only[Fr.ev,Fr.get,nth,V.look];rfl) (fun h=>by cases h) (fun _=>?_);refine af.skip ?_;obtain⟨_,st1,aO,rfl,ld,L,hL,hM⟩:=B8 nG hF hq.ok (hq.right hR) hM;refine qq<|qj fun K hK=>qm ?_;refine qv aO ?_;refine qe hK<|qq<|qj fun K hK=>qm ?_;refine qm ?_;refine qm ?_;refine qe hK<|af.ret ⟨rx,_,_,_,rfl,rfl,?_⟩;have UY:bY q=bY p:=by unfold bY;rw[hq.az]
 obtain⟨pd,qd,P,Q,sn,hH,ba,gE⟩:=hM;refine⟨kv,ks,q,ld,L,rfl,hq,by rw[←UY];exact hL,pd,qd,P,Q,sn,?_,ba,gE⟩;have hH:=Has.pU (_::_::_::_::_::L.map pN) [_] (H:=H) hH;exact hH.drop 1
def T1 (l:List gk):D:=.sl ((l.map bH).map (jK 11))
def Mj (l:PL):List D:=bT l.dn l.aX (T1 l.fe)
open Go.V Go Go.RowKit
theorem oq (code:List aK) (pl:Nat) (e:Bool):∀(f:Nat) (w:Wk) (t:gk),bX (code.map dZ) pl e f w t=bX code pl e f w t
 |0,_,_=>rfl
 |f+1,w,t=>by
  unfold bX;simp only[oq code pl e f,List.getElem?_map]
  cases code[t.pc]? with
  |none=>rfl
  |some i=>rfl
theorem pt (code:List aK) (pl:Nat) (e:Bool):∀(l:List gk) (w:Wk),mc (code.map dZ) pl e l w=mc code pl e l w
 |[],_=>rfl
 |t::ts,w=>by
  unfold mc;simp only[oq,List.length_map,pt code pl e ts]
theorem yP (code:List aK) (k:Nat):oB (code.map dZ) k=oB code k:=by
 unfold oB;rw[List.getElem?_map];cases code[k]?<;>rfl
theorem oS (code:List aK) (r:Int):∀(l a:List gk),dW (code.map dZ) r l a=dW code r l a
 |[],_=>rfl
 |t::ts,a=>by unfold dW;simp only[yP,oS code r ts]
theorem vH (code:List aK) (pl s:Nat) (r:Int) (l:PL):eZ (code.map dZ) pl s r l=eZ code pl s r l:=by
 unfold eZ;simp only[pt,oS,List.length_map]
theorem ng (code:List aK) (pl:Nat) (r:Int):∀(ss:List Nat) (ls:List PL),gI (code.map dZ) pl r ss ls=gI code pl r ss ls
 |[],_=>rfl
 |_::_,[]=>rfl
 |s::ss,l::ls=>by simp only[gI,vH,ng code pl r ss ls]
theorem zA (code:List aK) (pl:Nat):jH (code.map dZ) pl=jH code pl:=by
 funext l;unfold jH;simp only[pt,List.length_map]
theorem tw.bY {p q:Pg} (h:tw p q):bY q=bY p:=by unfold Go.Proofs.Ytbdnabmmlbiomaa.bY;rw[h.az]
theorem qM {p:Pg} (hR:bW p) {pl:Nat} {r:Int}:∀{ss:List Nat} {ls:List PL},(∀s∈ss,s<p.code.length)→∀l∈gI p.code pl r ss ls,l.ok p.code.length
 |[],_,_,l,hl=>by cases hl
 |_::_,[],_,l,hl=>by cases hl
 |s::ss,x::ls,hs,l,hl=>by
  simp only[gI,List.mem_cons] at hl
  rcases hl with rfl|hl
  ·exact Am hR (hs s (List.mem_cons_self ..))
  ·exact qM hR (fun s h=>hs s (List.mem_cons_of_mem _ h)) l hl
theorem vI {p:Pg} (hR:bW p):∀s∈bY p,s<p.code.length:=by
 intro s hs;obtain⟨v,hv,rfl⟩:=List.mem_map.1 hs;have:=hR.st v hv;omega
end Go.Proofs.Ytbdnabmmlbiomaa
