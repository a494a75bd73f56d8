import Derived.Test.YtbdnabmmlbiomaaGreatWGQp
import Derived.Test.YtbdnabmmlbiomaaGreatWGQh
import Derived.Test.YtbdnabmmlbiomaaGreatWGUb
set_option linter.unusedSimpArgs false
set_option maxRecDepth 100000
set_option maxHeartbeats 4000000
set_option linter.unusedVariables false
namespace Go.Proofs.YtbdnabmmlbiomaaGreat
open Go.V Go
def cE (fr:Go.V.Fr) (k:Nat):Go.V.D:=Go.V.nth .bD fr.loc k
structure gW where
 pc:Nat
 c:l6
def br (t:gW):List D:=[.int .i64 (t.pc:Nat),.int .i64 (t.c 0),.int .i64 (t.c 1),.int .i64 (t.c 2),.int .i64 (t.c 3),.int .i64 (t.c 4),.int .i64 (t.c 5),.int .i64 (t.c 6),.int .i64 (t.c 7),.int .i64 (t.c 8),.int .i64 (t.c 9)]
def bL (dn:Bool) (f:l6) (d:D):List D:=[.bool dn,.int .i64 (f 0),.int .i64 (f 1),.int .i64 (f 2),.int .i64 (f 3),.int .i64 (f 4),.int .i64 (f 5),.int .i64 (f 6),.int .i64 (f 7),.int .i64 (f 8),.int .i64 (f 9),d]
theorem Fq {a:D} {f:l6} {x:Nat} {v:Int} (hx:x<10):setMany (a::aw f) (1+x) [.int .i64 v]=a::aw (vQ f x v):=by
 match x,hx with
 |0,_=>rfl
 |1,_=>rfl
 |2,_=>rfl
 |3,_=>rfl
 |4,_=>rfl
 |5,_=>rfl
 |6,_=>rfl
 |7,_=>rfl
 |8,_=>rfl
 |9,_=>rfl
structure Wk where
 seen:List Bool
 dn:Bool
 a_:l6
 rdy:List gW
def ck (code:List aJ) (pl:Nat) (e:Bool):Nat→Wk→gW→Wk×Bool
 |0,w,_=>(w,false)
 |f+1,w,t=>
  if w.seen.getD t.pc true=true then(w,false) else
  match code[t.pc]? with
  |none=>(w,false)
  |some i=>
   if i.op=7 then(⟨w.seen.set t.pc true,true,t.c,w.rdy⟩,true)
   else if i.op=2 then
    if(ck code pl e f ⟨w.seen.set t.pc true,w.dn,w.a_,w.rdy⟩ ⟨i.x.toNat,t.c⟩).2=true then ck code pl e f ⟨w.seen.set t.pc true,w.dn,w.a_,w.rdy⟩ ⟨i.x.toNat,t.c⟩
    else ck code pl e f (ck code pl e f ⟨w.seen.set t.pc true,w.dn,w.a_,w.rdy⟩ ⟨i.x.toNat,t.c⟩).1 ⟨i.y.toNat,t.c⟩
   else if i.op=1 then(⟨w.seen.set t.pc true,w.dn,w.a_,w.rdy++[t]⟩,false)
   else if i.op=3 then ck code pl e f ⟨w.seen.set t.pc true,w.dn,w.a_,w.rdy⟩ ⟨i.x.toNat,t.c⟩
   else if i.op=4 then ck code pl e f ⟨w.seen.set t.pc true,w.dn,w.a_,w.rdy⟩ ⟨t.pc+1,vQ t.c i.x.toNat (pl:Nat)⟩
   else if i.op=5 then if pl=0 then ck code pl e f ⟨w.seen.set t.pc true,w.dn,w.a_,w.rdy⟩ ⟨t.pc+1,t.c⟩ else(⟨w.seen.set t.pc true,w.dn,w.a_,w.rdy⟩,false)
   else if e=true then ck code pl e f ⟨w.seen.set t.pc true,w.dn,w.a_,w.rdy⟩ ⟨t.pc+1,t.c⟩ else(⟨w.seen.set t.pc true,w.dn,w.a_,w.rdy⟩,false)
def Good (code:List aJ) (w w':Wk):Prop:=
 w'.seen.length=w.seen.length∧w'.seen.count false≤w.seen.count false∧w'.rdy.length+w'.seen.count false≤w.rdy.length+w.seen.count false∧∀t∈w'.rdy,t∈w.rdy∨∃i,code[t.pc]?=some i∧i.op=1
theorem Good.refl {code:List aJ} {w:Wk}:Good code w w:=⟨rfl,Nat.le_refl _,Nat.le_refl _,fun t h=>.inl h⟩
theorem Good.trans {code:List aJ} {a b c:Wk} (h:Good code a b) (k:Good code b c):Good code a c:=
 ⟨k.1.trans h.1,Nat.le_trans k.2.1 h.2.1,Nat.le_trans k.2.2.1 h.2.2.1,fun t ht=>by
  rcases k.2.2.2 t ht with q|q
  ·exact h.2.2.2 t q
  ·exact .inr q⟩
theorem Good.step {code:List aJ} {w w':Wk} {j:Nat} (hj:w.seen[j]?=some false) (k:Good code ⟨w.seen.set j true,w.dn,w.a_,w.rdy⟩ w'):Good code w w':=by
 have hc:=count_set hj;refine Good.trans (b:=⟨w.seen.set j true,w.dn,w.a_,w.rdy⟩) ⟨?_,?_,?_,fun t h=>.inl h⟩ k
 ·simp
 ·show(w.seen.set j true).count false≤_;omega
 ·show w.rdy.length+(w.seen.set j true).count false≤_;omega
theorem xZ {l:List Bool} {j:Nat} (h:¬l.getD j true=true):l[j]?=some false:=by
 rw[List.getD_eq_getElem?_getD] at h
 cases hq:l[j]? with
 |none=>rw[hq] at h;exact absurd rfl h
 |some b=>rw[hq] at h;cases b with
  |false=>rfl
  |true=>exact absurd rfl h
theorem A3 {l:List Bool} {j:Nat} {b:Bool} (h:l[j]?=some b):l.getD j true=b:=by
 rw[List.getD_eq_getElem?_getD,h];rfl
theorem cH (code:List aJ) (pl:Nat) (e:Bool):∀(f:Nat) (w:Wk) (t:gW),Good code w (ck code pl e f w t).1
 |0,w,t=>.refl
 |f+1,w,t=>by
  unfold ck
  split
  ·exact .refl
  ·rename_i hs;have hs:=xZ hs;have hc:=count_set hs
   split
   ·exact .refl
   ·rename_i i hi
    split
    ·exact Good.step hs ⟨rfl,Nat.le_refl _,Nat.le_refl _,fun t h=>.inl h⟩
    ·split
     ·split
      ·exact Good.step hs (cH code pl e f _ _)
      ·exact Good.step hs ((cH code pl e f _ _).trans (cH code pl e f _ _))
     ·split
      ·rename_i h1;refine⟨by simp,by show(w.seen.set t.pc true).count false≤_;omega,by show(w.rdy++[t]).length+(w.seen.set t.pc true).count false≤_;rw[List.length_append];simp only[List.length_cons,List.length_nil];omega,fun t' h=>?_⟩
       rcases List.mem_append.1 h with h|h
       ·exact .inl h
       ·simp only[List.mem_cons,List.not_mem_nil,or_false] at h;subst h;exact .inr ⟨i,hi,h1⟩
      ·split
       ·exact Good.step hs (cH code pl e f _ _)
       ·split
        ·exact Good.step hs (cH code pl e f _ _)
        ·split
         ·split
          ·exact Good.step hs (cH code pl e f _ _)
          ·exact Good.step hs .refl
         ·split
          ·exact Good.step hs (cH code pl e f _ _)
          ·exact Good.step hs .refl
theorem nY (A:List bC) {N ks:Nat} {S s0:St} {H:List bC} {seen:List Bool} {i:Nat} {b:Bool} {pd qd:D} {P Q:List Nat} (hF:S.flr≤N) (hi:seen[i]?=some b) (bd:dj P Q seen) (hH:Has N S s0 (A++(.box ks (.mem 0 false [pd,qd])::.aM pd 1 (P.map gb)::.aM qd 2 (Q.map na)::H))):
  ∃r ah,Ev pv 109 [.ptr ks 0 0,.int .i64 (i:Nat),.bool true] s0 r ah∧r=.bool (!b)∧∃pd qd P Q,Has N S ah (A++(.box ks (.mem 0 false [pd,qd])::.aM pd 1 (P.map gb)::.aM qd 2 (Q.map na)::H))∧dj P Q (seen.set i true):=by
 obtain⟨r,ah,h1,h2,EZ,EX,P',Q',h3,h4⟩:=A2 (H:=A++H) hF hi ⟨pd,qd,P,Q,Has.mw A [_,_,_] hH,bd⟩;exact⟨r,ah,h1,h2,EZ,EX,P',Q',Has.mw [_,_,_] A h3,h4⟩
theorem oX (A:List bC) {N ks:Nat} {S s0:St} {H:List bC} {seen:List Bool} {pd qd:D} {P Q:List Nat} (hF:S.flr≤N) (bd:dj P Q seen) (hH:Has N S s0 (A++(.box ks (.mem 0 false [pd,qd])::.aM pd 1 (P.map gb)::.aM qd 2 (Q.map na)::H))):
  ∃r ah,Ev pv 107 [.ptr ks 0 0] s0 r ah∧r=.tup []∧∃pd qd P Q,Has N S ah (A++(.box ks (.mem 0 false [pd,qd])::.aM pd 1 (P.map gb)::.aM qd 2 (Q.map na)::H))∧dj P Q (List.replicate seen.length false):=by
 obtain⟨r,ah,h1,h2,EZ,EX,P',Q',h3,h4⟩:=vO (H:=A++H) hF ⟨pd,qd,P,Q,Has.mw A [_,_,_] hH,bd⟩;exact⟨r,ah,h1,h2,EZ,EX,P',Q',Has.mw [_,_,_] A h3,h4⟩
def ToH (N:Nat) (S st:St) (ks kv kw kl:Nat) (p:Pg) (pl:Nat) (ld:D) (e:Bool) (w:Wk) (H:List bC):Prop:=
 ∃rd pd qd P Q,Has N S st (.box kv (.mem 0 false [p.cd,p.sd,.int .i64 (pl:Nat),ld,.ptr ks 0 0])::.box kw (.mem 0 false [.ptr kl 0 0,rd,.bool e])::.box kl (.mem 0 false (bL w.dn w.a_ .nul))::.aM rd 11 (w.rdy.map br)::.box ks (.mem 0 false [pd,qd])::.aM pd 1 (P.map gb)::.aM qd 2 (Q.map na)::H)∧dj P Q w.seen
theorem Mb {N ks kv kw kl:Nat} {S:St} {H:List bC} {p:Pg} {pl:Nat} {ld:D} {e:Bool} (hF:S.flr≤N) (hp:p.ok) (hR:bB p) (fU:pl≤1099511627776):∀(f:Nat) (w:Wk) (t:gW) (s0:St) (H:List bC),t.pc<p.code.length→w.seen.length=p.code.length→w.seen.count false<f→w.rdy.length+w.seen.count false≤1048576→ToH N S s0 ks kv kw kl p pl ld e w H→
  ∃r ah,Ev pv 110 [.ptr kv 0 0,.ptr kw 0 0,.agg (br t)] s0 r ah∧r=.bool (ck p.code pl e f w t).2∧ToH N S ah ks kv kw kl p pl ld e (ck p.code pl e f w t).1 H
 |0,_,_,_,_,_,_,h,_,_=>absurd h (Nat.not_lt_zero _)
 |f+1,w,t,s0,H,Lp,j6,eJ,pt,hT=>by
  have ih:=Mb (ks:=ks) (kv:=kv) (kw:=kw) (kl:=kl) (S:=S) (H:=H) (ld:=ld) (e:=e) hF hp hR fU f;obtain⟨rd,pd,qd,P,Q,hH,bd⟩:=hT;have hc:=hp.c.arg N S;have hlen:=hp.cl
  obtain⟨i,hi⟩:∃i,p.code[t.pc]?=some i:=⟨p.code[t.pc]'Lp,List.getElem?_eq_getElem _⟩
  obtain⟨b,hb⟩:∃b,w.seen[t.pc]?=some b:=⟨w.seen[t.pc]'(by omega),List.getElem?_eq_getElem _⟩
  have hr:=iu hi;have Bu:=(hp.i i (List.mem_of_getElem? hi)).1;have mD:=eU (hR.sh t.pc i hi);have yO:=A3 hb;have kJ:ck p.code pl e (f+1) w t=ck p.code pl e (f+1) w t:=rfl
  conv at kJ=>rhs;unfold ck
  rw[yO] at kJ;simp only[hi] at kJ;generalize ck p.code pl e (f+1) w t=R at*;obtain⟨op,x,y,rdd,rs⟩:=i;obtain⟨pc,c⟩:=t;simp only at*;refine Ev.iC rfl UJ rfl rfl rfl ?_;dsimp only[u3,u4,List.length,Nat.reduceSub,Nat.reduceAdd,w1,w2];change ag _ _ _ _ s0 _;refine qq<|qj fun K hK=>qb hH fun k5 st E6 hH=>?_;dsimp only[u2,u1,u3,u4,setMany,u5,u6,D.cells,Nat.reduceAdd,aG,br,bL,aw] at hH;refine qm ?_;refine qe hK<|qq<|qq<|qj fun K hK=>qm ?_;refine qg ?_;refine qp (o:=4) ?_;refine ql hH aS ?_;refine qp (o:=0) ?_;refine ql hH au ?_;obtain⟨_,st,aN,rfl,pd,qd,P,Q,hH,bd⟩:=nY [_,_,_,_,_] hF hb bd hH;dsimp only[u3,u4] at hH;refine qv aN ?_;refine qg ?_;refine qe hK ?_
  cases b with
  |true=>
   rw[if_pos rfl] at kJ;subst kJ;refine qB ?_;refine qq<|qj fun K hK=>qm ?_;refine qe hK<|ag.ret ⟨rx,_,_,_,rfl,rfl,?_⟩;refine⟨rfl,rd,pd,qd,P,Q,hH.drop 1,?_⟩
   have:w.seen.set pc true=w.seen:=by
    refine List.ext_getElem? fun j=>?_
    by_cases hj:j=pc
    ·subst hj;rw[List.getElem?_set_self (by omega),hb]
    ·rw[List.getElem?_set_ne (fun e=>hj e.symm)]
   rw[←this];exact bd
  |false=>
   rw[if_neg (by decide)] at kJ;have yS:=count_set hb;have DE:(w.seen.set pc true).length=p.code.length:=by rw[List.length_set];exact j6
   have TS:(w.seen.set pc true).count false<f:=by omega
   have SR:w.rdy.length+(w.seen.set pc true).count false≤1048576:=by omega
   generalize w.seen.set pc true=sn at*;clear hb yO yS j6 eJ pt;refine qC ?_;refine ag.skip<|qq<|qj fun K hK=>qm ?_;refine qg ?_;refine qp (o:=0) ?_;refine qp (o:=0) ?_;refine ql hH aS ?_;refine qp (o:=0) ?_;refine ql hH au ?_;refine qr fun U7 Lr=>?_;refine aa.dJ rfl (ev rfl) (by assumption) rfl (by dsimp only[Fr.put,u1,u2]<;>rfl) ?_;refine qa hH fun k7 st W8 hH=>?_;refine qS hH au fun st hH=>?_;dsimp only[u2,u1,u3,u4,setMany,u5,u6,D.cells,Nat.reduceAdd,aG,br,bL,aw] at hH;refine qe hK<|qq<|qj fun K hK=>?_;refine aa.bk (m:=11) hH rfl (ev rfl) (by exact aS) (by dsimp only[List.drop_succ_cons,List.drop_zero,List.take_succ_cons,List.take_zero,aG,br,bL,aw]<;>rfl) rfl rfl (by dsimp only[Fr.put,u1,u2]<;>rfl) ?_;refine qa hH fun k8 st Tn hH=>?_;refine qS hH au fun st hH=>?_;dsimp only[u2,u1,u3,u4,setMany,u5,u6,D.cells,Nat.reduceAdd,aG,br,bL,aw] at hH;refine qe hK<|qq<|qj fun K hK=>qp (o:=0) ?_;refine ql hH au ?_;refine qA ?_;refine qp (o:=0) ?_;refine qT hH au fun st hH=>?_;dsimp only[u2,u1,u3,u4,setMany,u5,u6,D.cells,Nat.reduceAdd,aG,br,bL,aw] at hH;refine qe hK<|qq<|qq<|qj fun K hK=>qp (o:=0) ?_;refine ql hH aS ?_;refine qe hK<|ag.merge (fun fr st=>∃(t':gW) (tmp:List (Nat×D)),fr=⟨33,[.ptr kv 0 0,.ptr kw 0 0,cE fr 2,cE fr 3,cE fr 4,.ptr k5 0 0,.bool false,.ptr k7 0 0,.ptr k8 0 0,cE fr 9,cE fr 10,cE fr 11,cE fr 12,cE fr 13,cE fr 14,cE fr 15,cE fr 16,cE fr 17,cE fr 18,cE fr 19,cE fr 20,cE fr 21,cE fr 22,cE fr 23,cE fr 24,cE fr 25,cE fr 26,cE fr 27,cE fr 28,cE fr 29,cE fr 30,cE fr 31,cE fr 32],tmp⟩∧Has N S st (.box k8 (.mem 0 false (br t'))::.box k7 (.mem 0 false [.int .i64 op,.int .i64 x,.int .i64 y,rdd])::.box k5 (.mem 0 false (br ⟨pc,c⟩))::.box kv (.mem 0 false [p.cd,p.sd,.int .i64 (pl:Nat),ld,.ptr ks 0 0])::.box kw (.mem 0 false [.ptr kl 0 0,rd,.bool e])::.box kl (.mem 0 false (bL w.dn w.a_ .nul))::.aM rd 11 (w.rdy.map br)::.box ks (.mem 0 false [pd,qd])::.aM pd 1 (P.map gb)::.aM qd 2 (Q.map na)::H)∧(R=ck p.code pl e f ⟨sn,w.dn,w.a_,w.rdy⟩ t')∧(t'.pc<p.code.length)) ?_ ?_
   ·refine ag.block<|qq<|qj fun K hK=>qg ?_;refine qm ?_;refine qe hK ?_;refine ag.cond (by rfl) (fun h7=>?_) (fun h7=>?_)<;>try simp only[beq_iff_eq,beq_eq_false_iff_ne,ne_eq] at h7
    ·rw[if_pos h7] at kJ;subst kJ;have vz:=hH;change ag _ _ _ _ _ _;refine qq ?_;generalize hK:aT _ _ _ _=K;refine ag.wb rfl ?_;refine cN.cons ?_;refine qm ?_;refine aa.nil ⟨rfl,?_⟩;refine cN.cons ?_;refine qg ?_;refine aa.nil ⟨rfl,?_⟩;refine cN.cons ?_;refine qp (o:=0) ?_;refine aa.nil ⟨rfl,?_⟩;refine cN.cons ?_;refine ql hH bm ?_;refine aa.nil ⟨rfl,?_⟩;refine cN.cons ?_;refine qm ?_;refine aa.nil ⟨rfl,?_⟩;refine cN.cons ?_;refine qg ?_;refine aa.nil ⟨rfl,?_⟩;refine cN.cons ?_;refine qp (o:=0) ?_;refine aa.nil ⟨rfl,?_⟩;refine cN.cons ?_;refine ql hH bm ?_;refine aa.nil ⟨rfl,?_⟩;refine cN.cons ?_;refine qp (o:=1) ?_;refine aa.nil ⟨rfl,?_⟩;refine cN.cons ?_;refine aa.bk (m:=10) hH rfl (ev rfl) (by exact ba) (by dsimp only[List.drop_succ_cons,List.drop_zero,List.take_succ_cons,List.take_zero,aG,br,bL,aw]<;>rfl) rfl rfl (ab rfl _) ?_;refine aa.nil ⟨rfl,?_⟩;refine cN.cons ?_;refine qg ?_;refine aa.nil ⟨rfl,?_⟩;refine cN.cons ?_;refine qp (o:=0) ?_;refine aa.nil ⟨rfl,?_⟩;refine cN.cons ?_;refine qT hH bJ fun st hH=>?_;dsimp only[u2,u1,u3,u4,setMany,u5,u6,D.cells,Nat.reduceAdd,aG,br,bL,aw] at hH;refine aa.nil ⟨by exact Bool.and_eq_true_iff.2 ⟨BZ rfl rfl rfl (vz.at ba) (hH.at ba) (vz.at ba) rfl,rfl⟩,?_⟩;refine cN.cons ?_;refine qg ?_;refine aa.nil ⟨rfl,?_⟩;refine cN.cons ?_;refine qp (o:=1) ?_;refine aa.nil ⟨rfl,?_⟩;refine cN.cons ?_;refine qT hH bJ fun st hH=>?_;dsimp only[u2,u1,u3,u4,setMany,u5,u6,D.cells,Nat.reduceAdd,aG,br,bL,aw] at hH;refine aa.nil ⟨rfl,?_⟩;refine cN.nil ?_;subst hK;refine qq<|qj fun K hK=>qm ?_;refine qe hK<|ag.ret ⟨rx,_,_,_,rfl,rfl,?_⟩;exact⟨rfl,rd,pd,qd,P,Q,hH.drop 3,bd⟩
    ·rw[if_neg h7] at kJ;refine qq<|qj fun K hK=>qg ?_;refine qm ?_;refine qe hK ?_;refine ag.cond (by rfl) (fun h2=>?_) (fun h2=>?_)<;>try simp only[beq_iff_eq,beq_eq_false_iff_ne,ne_eq] at h2
     ·rw[if_pos h2] at kJ;obtain⟨_,⟨hx0,hx1⟩,hy0,hy1⟩:=(mD.resolve_left h7).resolve_right (by omega);obtain⟨xn,rfl⟩:=Int.eq_ofNat_of_zero_le hx0;obtain⟨yn,rfl⟩:=Int.eq_ofNat_of_zero_le hy0;have Xl:=cH p.code pl e f ⟨sn,w.dn,w.a_,w.rdy⟩ ⟨xn,c⟩;have Mw:=Has.mw [_,_,_] [_,_,_,_,_,_,_] hH;obtain⟨_,st1,aN,rfl,hT⟩:=ih ⟨sn,w.dn,w.a_,w.rdy⟩ ⟨xn,c⟩ _ _ (by show xn<_;omega) DE TS SR ⟨rd,pd,qd,P,Q,Mw,bd⟩;clear Mw;have kJ:R=if(ck p.code pl e f ⟨sn,w.dn,w.a_,w.rdy⟩ ⟨xn,c⟩).2=true then ck p.code pl e f ⟨sn,w.dn,w.a_,w.rdy⟩ ⟨xn,c⟩ else ck p.code pl e f (ck p.code pl e f ⟨sn,w.dn,w.a_,w.rdy⟩ ⟨xn,c⟩).1 ⟨yn,c⟩:=kJ;generalize ck p.code pl e f ⟨sn,w.dn,w.a_,w.rdy⟩ ⟨xn,c⟩=R1 at*;obtain⟨w1,b1⟩:=R1;obtain⟨dz,bz,bQ,jT⟩:=Xl;simp only at dz bz bQ jT aN hT kJ;obtain⟨Y0,Y8,Y1,P1,Q1,Mw,Tc⟩:=hT;have Mw:=Has.mw [_,_,_,_,_,_,_] [_,_,_] Mw;dsimp only[u3,u4] at Mw
      cases b1 with
      |true=>
       rw[if_pos rfl] at kJ;subst kJ;have dF:true=true:=rfl;refine qq<|qj fun K hK=>qm ?_;refine qm ?_;refine qp (o:=1) ?_;refine ql hH aS ?_;refine qp (o:=1) ?_;refine aa.bk (m:=10) hH rfl (ev rfl) (by exact ba) (by dsimp only[List.drop_succ_cons,List.drop_zero,List.take_succ_cons,List.take_zero,aG,br,bL,aw]<;>rfl) rfl rfl (ab rfl _) ?_;refine aa.go (d:=.agg (br ⟨xn,c⟩)) (st1:=_) rfl rfl rfl (ab rfl _) ?_;refine qv aN ?_;refine qm ?_;refine qs ?_ (hg:=wn dF);refine qs ?_ (hg:=wn dF);refine qs ?_ (hg:=wn dF);refine qs ?_ (hg:=wn dF);refine qs ?_ (hg:=wn dF);refine qs ?_ (hg:=wn dF);refine qs ?_ (hg:=wn dF);refine qs ?_ (hg:=wn dF);refine qt dF ?_;refine qm ?_;refine qe hK<|ag.ret ⟨rx,_,_,_,rfl,rfl,?_⟩;exact⟨rfl,Y0,Y8,Y1,P1,Q1,Mw.drop 3,Tc⟩
      |false=>
       rw[if_neg (by decide)] at kJ;have dF:false=false:=rfl;refine qq<|qj fun K hK=>qm ?_;refine qm ?_;refine qp (o:=1) ?_;refine ql hH aS ?_;refine qp (o:=1) ?_;refine aa.bk (m:=10) hH rfl (ev rfl) (by exact ba) (by dsimp only[List.drop_succ_cons,List.drop_zero,List.take_succ_cons,List.take_zero,aG,br,bL,aw]<;>rfl) rfl rfl (ab rfl _) ?_;refine aa.go (d:=.agg (br ⟨xn,c⟩)) (st1:=_) rfl rfl rfl (ab rfl _) ?_;have hH:=Mw;refine qv aN ?_;refine qm ?_;refine qm ?_ (hg:=wi dF);refine qm ?_ (hg:=wi dF);refine qp (o:=2) ?_ (hg:=wi dF);refine ql hH aS ?_ (hg:=wi dF);refine qp (o:=1) ?_ (hg:=wi dF);refine aa.bk (m:=10) hH (aC rfl rfl rfl dF) (ev rfl) (by exact ba) (by dsimp only[List.drop_succ_cons,List.drop_zero,List.take_succ_cons,List.take_zero,aG,br,bL,aw]<;>rfl) rfl rfl (ab rfl _) ?_;refine aa.go (d:=.agg (br ⟨yn,c⟩)) (st1:=_) (aC rfl rfl rfl dF) rfl rfl (ab rfl _) ?_;obtain⟨_,st,aN,rfl,hT⟩:=ih w1 ⟨yn,c⟩ _ _ (by show yn<_;omega) (by omega) (by omega) (by omega) ⟨Y0,Y8,Y1,P1,Q1,hH.drop 3,Tc⟩;refine qv aN ?_ (hg:=wi dF);refine qu dF ?_;refine qm ?_;refine qe hK<|ag.ret ⟨rx,_,_,_,rfl,rfl,?_⟩;rw[kJ];exact⟨rfl,hT⟩
     ·rw[if_neg h2] at kJ;refine qq<|qj fun K hK=>qg ?_;refine qm ?_;refine qe hK ?_;refine ag.cond (by rfl) (fun h1=>?_) (fun h1=>?_)<;>try simp only[beq_iff_eq,beq_eq_false_iff_ne,ne_eq] at h1
      ·rw[if_pos h1] at kJ;subst kJ;refine qq<|qj fun K hK=>qm ?_;refine qm ?_;refine qg ?_;refine qp (o:=1) ?_;refine ql hH bm ?_;refine aa.bk (m:=11) hH rfl (ev rfl) (by exact ba) (by dsimp only[List.drop_succ_cons,List.drop_zero,List.take_succ_cons,List.take_zero,aG,br,bL,aw]<;>rfl) rfl rfl (ab rfl _) ?_;refine qh (s:=11) (vs:=[_]) hH fun k77 st To hH=>?_;refine aa.bP (s:=11) hH rfl (ev rfl) (ev rfl) (by exact bX) (by exact hH.rows (by exact au)) rfl rfl rfl rfl rfl rfl rfl ⟨(Nat.le_of_ble_eq_true rfl),(Nat.le_of_ble_eq_true rfl)⟩ (fun _=>(ab rfl _)) (by simp only[List.length_cons,List.length_nil,List.length_map]<;>omega) (by exact .inl hF) (fun x78 st hH=>?_);dsimp only[u2,u1,u3,u4,setMany,u5,u6,D.cells,Nat.reduceAdd,aG,br,bL,aw] at hH;refine qg ?_;refine qp (o:=1) ?_;refine qT hH bJ (fun st hH=>?_) (iS:=hH.cm bX);dsimp only[u2,u1,u3,u4,setMany,u5,u6,D.cells,Nat.reduceAdd,aG,br,bL,aw] at hH;refine qe hK<|qq<|qj fun K hK=>qm ?_;refine qe hK<|ag.ret ⟨rx,_,_,_,rfl,rfl,?_⟩;refine⟨rfl,x78,pd,qd,P,Q,?_,bd⟩;rw[List.map_append];exact hH.drop 4
      ·rw[if_neg h1] at kJ;refine qq<|qj fun K hK=>qg ?_;refine qm ?_;refine qe hK ?_;refine ag.cond (by rfl) (fun h3=>?_) (fun h3=>?_)<;>try simp only[beq_iff_eq,beq_eq_false_iff_ne,ne_eq] at h3
       ·rw[if_pos h3] at kJ;obtain⟨_,hx0,hx1⟩:=((mD.resolve_left h7).resolve_left (by omega)).resolve_right (by omega);obtain⟨xn,rfl⟩:=Int.eq_ofNat_of_zero_le hx0;refine qj fun K hK=>qp (o:=1) ?_;refine ql hH aS ?_;refine qp (o:=0) ?_;refine qT hH au fun st hH=>?_;dsimp only[u2,u1,u3,u4,setMany,u5,u6,D.cells,Nat.reduceAdd,aG,br,bL,aw] at hH;refine qe hK ?_;exact⟨⟨xn,c⟩,_,rfl,hH,kJ,by show xn<_;omega⟩
       ·rw[if_neg h3] at kJ;refine qq<|qj fun K hK=>qg ?_;refine qm ?_;refine qe hK ?_;refine ag.cond (by rfl) (fun h4=>?_) (fun h4=>?_)<;>try simp only[beq_iff_eq,beq_eq_false_iff_ne,ne_eq] at h4
        ·rw[if_pos h4] at kJ;obtain⟨_,Bv,hx0,hx1⟩:=(((mD.resolve_left h7).resolve_left (by omega)).resolve_left (by omega)).resolve_right (by omega);obtain⟨xn,rfl⟩:=Int.eq_ofNat_of_zero_le hx0;refine qj fun K hK=>qp (o:=1) ?_;refine ql hH aS ?_;refine qm ?_;refine qg ?_;refine qp (o:=2) ?_;refine ql hH bf ?_;refine qp (o:=1) ?_;refine aa.LF (m:=10) (s:=1) (i:=xn) (o:=1+xn) rfl (ev rfl) (ev rfl) rfl rfl (by omega) (by omega) (ab rfl _) ?_;refine aa.fN hH rfl (ev rfl) (ev rfl) rfl (by exact rfl) au (by show 1+xn+1≤11;omega) (.inl hF) (fun st hH=>?_);change Has _ _ _ (.box k8 (.mem 0 false (setMany (_::aw c) (1+xn) [.int .i64 (pl:Nat)]))::_) at hH;rw[Fq (by omega)] at hH;refine qe hK ?_;exact⟨⟨pc+1,vQ c xn (pl:Nat)⟩,_,rfl,hH,kJ,Bv⟩
        ·rw[if_neg h4] at kJ;refine qq<|qj fun K hK=>qg ?_;refine qm ?_;refine qe hK ?_;refine ag.cond (by rfl) (fun h5=>?_) (fun h5=>?_)<;>try simp only[beq_iff_eq,beq_eq_false_iff_ne,ne_eq] at h5
         ·rw[if_pos h5] at kJ;have Bv:pc+1<p.code.length:=by omega
          refine qq<|qj fun K hK=>qm ?_;refine qg ?_;refine qp (o:=2) ?_;refine ql hH bf ?_;refine qg ?_;refine qe hK ?_
          by_cases ha:pl=0
          ·rw[if_pos ha] at kJ;subst ha;refine ag.cond (v:=false) (by dsimp only[Fr.ev,Fr.get,nth,V.look];rfl) (fun h=>by cases h) (fun _=>?_);refine ag.skip ?_;exact⟨⟨pc+1,c⟩,_,rfl,hH,kJ,Bv⟩
          ·rw[if_neg ha] at kJ;subst kJ;refine qD rfl (by simp;omega) ?_;refine qq<|qj fun K hK=>qm ?_;refine qe hK<|ag.ret ⟨rx,_,_,_,rfl,rfl,?_⟩;exact⟨rfl,rd,pd,qd,P,Q,hH.drop 3,bd⟩
         ·rw[if_neg h5] at kJ;have h6:op=6:=by omega
          have Bv:pc+1<p.code.length:=by omega
          refine qq<|qj fun K hK=>qg ?_;refine qm ?_;refine qe hK<|qD rfl (by simp[h6]) ?_;refine qq<|qj fun K hK=>qm ?_;refine qg ?_;refine qp (o:=2) ?_;refine ql hH bm ?_;refine qg ?_;refine qe hK ?_
          cases e with
          |true=>
           rw[if_pos rfl] at kJ;refine qC ?_;refine ag.skip ?_;exact⟨⟨pc+1,c⟩,_,rfl,hH,kJ,Bv⟩
          |false=>
           rw[if_neg (by decide)] at kJ;subst kJ;refine qB ?_;refine qq<|qj fun K hK=>qm ?_;refine qe hK<|ag.ret ⟨rx,_,_,_,rfl,rfl,?_⟩;exact⟨rfl,rd,pd,qd,P,Q,hH.drop 3,bd⟩
   ·rintro fr st ⟨t',tmp,hfr,hH,hR2,Ww⟩;rw[hfr];clear hfr;generalize cE fr=ee;clear fr;obtain⟨U5,c'⟩:=t';dsimp only[br] at hH;refine qq<|qj fun K hK=>qm ?_;refine qm ?_;refine aa.bk (m:=11) hH rfl (ev rfl) (by exact au) (by dsimp only[List.drop_succ_cons,List.drop_zero,List.take_succ_cons,List.take_zero,aG,br,bL,aw]<;>rfl) rfl rfl (ab rfl _) ?_;have hH:=hH.drop 3;obtain⟨_,st,aN,rfl,hT⟩:=ih ⟨sn,w.dn,w.a_,w.rdy⟩ ⟨U5,c'⟩ _ _ Ww DE TS SR ⟨rd,pd,qd,P,Q,hH,bd⟩;refine qv aN ?_;refine qm ?_;refine qe hK<|ag.ret ⟨rx,_,_,_,rfl,rfl,?_⟩;rw[hR2];exact⟨rfl,hT⟩
def cJ (fr:Go.V.Fr) (k:Nat):Go.V.D:=Go.V.nth .bD fr.loc k
structure VL where
 dn:Bool
 a_:l6
 td:D
 eL:List gW
def fG (l:VL):List D:=bL l.dn l.a_ l.td
def nR (l:VL):bC:=.aM l.td 11 (l.eL.map br)
theorem Co (A:List bC) {n:Nat} (hn:A.length=n) {L:List VL} {i:Nat} {l:VL} (h:L[i]?=some l) {H:List bC}:(A++(L.map nR++H))[n+i]?=some (nR l):=by
 have hi:=bj h;rw[List.getElem?_append_right (by omega),List.getElem?_append_left (by simp;omega),hn,Nat.add_sub_cancel_left,List.getElem?_map,h];rfl
theorem ue {L:List VL} {i:Nat} {l:VL} (h:L[i]?=some l):(L.map fG)[i]?=some (fG l):=by rw[List.getElem?_map,h];rfl
theorem zF {l:List gW} {i:Nat} {q:gW} (h:l[i]?=some q):(l.map br)[i]?=some (br q):=by rw[List.getElem?_map,h];rfl
theorem rp {N:Nat} {S st:St} {H:List bC} {j:Nat} {x:D} {s:Nat} {es:List (List D)} (h:Has N S st H) (hj:H[j]?=some (.aM x s es)):x.ref≤st.bs.length:=by
 rcases Nat.eq_zero_or_pos x.ref with h0|h0
 ·omega
 ·have:=h.tC hj (k:=x.ref-1) (by show x.ref=x.ref-1+1;omega);omega
def MH (A:List bC) (N:Nat) (S st:St) (ks kv:Nat) (p:Pg) (pl:Nat) (ld:D) (L:List VL) (H:List bC):Prop:=
 ∃pd qd P Q sn,Has N S st (A++(.box kv (.mem 0 false [p.cd,p.sd,.int .i64 (pl:Nat),ld,.ptr ks 0 0])::.box ks (.mem 0 false [pd,qd])::.aM pd 1 (P.map gb)::.aM qd 2 (Q.map na)::.aM ld 12 (L.map fG)::(L.map nR++H)))∧dj P Q sn∧sn.length=p.code.length
theorem MH.push (A B:List bC) {N:Nat} {S st:St} {ks kv:Nat} {p:Pg} {pl:Nat} {ld:D} {L:List VL} {H:List bC} (h:MH (A++B) N S st ks kv p pl ld L H):MH B N S st ks kv p pl ld L (A++H):=by
 obtain⟨pd,qd,P,Q,sn,hH,bd,eT⟩:=h;refine⟨pd,qd,P,Q,sn,?_,bd,eT⟩;have:=Has.mw (H:=H) A (B++(.box kv (.mem 0 false [p.cd,p.sd,.int .i64 (pl:Nat),ld,.ptr ks 0 0])::.box ks (.mem 0 false [pd,qd])::.aM pd 1 (P.map gb)::.aM qd 2 (Q.map na)::.aM ld 12 (L.map fG)::L.map nR)) (by simpa only[List.append_assoc,List.cons_append] using hH)
 simpa only[List.append_assoc,List.cons_append] using this
theorem MH.pull (A B:List bC) {N:Nat} {S st:St} {ks kv:Nat} {p:Pg} {pl:Nat} {ld:D} {L:List VL} {H:List bC} (h:MH B N S st ks kv p pl ld L (A++H)):MH (A++B) N S st ks kv p pl ld L H:=by
 obtain⟨pd,qd,P,Q,sn,hH,bd,eT⟩:=h;refine⟨pd,qd,P,Q,sn,?_,bd,eT⟩;have:=Has.mw (H:=H) (B++(.box kv (.mem 0 false [p.cd,p.sd,.int .i64 (pl:Nat),ld,.ptr ks 0 0])::.box ks (.mem 0 false [pd,qd])::.aM pd 1 (P.map gb)::.aM qd 2 (Q.map na)::.aM ld 12 (L.map fG)::L.map nR)) A (by simpa only[List.append_assoc,List.cons_append] using hH)
 simpa only[List.append_assoc,List.cons_append] using this
def nN (code:List aJ) (pl:Nat) (e:Bool):List gW→Wk→Wk
 |[],w=>w
 |t::ts,w=>if(ck code pl e (code.length+1) w t).2=true then(ck code pl e (code.length+1) w t).1 else nN code pl e ts (ck code pl e (code.length+1) w t).1
def kI (n:Nat) (dn:Bool) (a_:l6):Wk:=⟨List.replicate n false,dn,a_,[]⟩
theorem rO (code:List aJ) (pl:Nat) (e:Bool):∀(l:List gW) (w:Wk),Good code w (nN code pl e l w)
 |[],w=>.refl
 |t::ts,w=>by
  unfold nN
  split
  ·exact cH ..
  ·exact(cH ..).trans (rO code pl e ts _)
theorem tN {N ks kv:Nat} {S s0:St} {H:List bC} {p:Pg} {pl:Nat} {ld:D} {L:List VL} {i:Nat} {l:VL} {e:Bool} (hF:S.flr≤N) (hp:p.ok) (hR:bB p) (fU:pl≤1099511627776) (hl:L[i]?=some l) (E3:∀t∈l.eL,t.pc<p.code.length) (sD:l.eL.length≤1048576) (hM:MH [] N S s0 ks kv p pl ld L H):
  ∃r ah,Ev pv 64 [.ptr kv 0 0,.int .i64 (i:Nat),.bool e] s0 r ah∧∃rd,r=.tup [.agg (bL (nN p.code pl e l.eL (kI p.code.length l.dn l.a_)).dn (nN p.code pl e l.eL (kI p.code.length l.dn l.a_)).a_ .nul),rd]∧MH [.aM rd 11 ((nN p.code pl e l.eL (kI p.code.length l.dn l.a_)).rdy.map br)] N S ah ks kv p pl ld L H:=by
 obtain⟨pd,qd,P,Q,sn,hH,bd,eT⟩:=hM;have hcl:=hR.cl;have iv:=ue hl;have hil:=bj hl;generalize hW:nN p.code pl e l.eL (kI p.code.length l.dn l.a_)=W at*;obtain⟨dn,a_,td,eL⟩:=l;simp only at hW E3 sD;dsimp only[u4] at hH;refine Ev.iC rfl Yg rfl rfl rfl ?_;dsimp only[u3,u4,List.length,Nat.reduceSub,Nat.reduceAdd,w1,w2];change ag _ _ _ _ s0 _;refine qq<|qj fun K hK=>qa hH fun k6 st E5 hH=>?_;refine qm ?_;refine qe hK<|qq<|qj fun K hK=>qm ?_;refine qg ?_;refine qp (o:=3) ?_;refine ql hH aS ?_;refine qm ?_;refine qi hH bJ fun Ze S_=>?_;refine aa.og hH rfl (ev rfl) (by assumption) (by exact bJ) (by assumption) rfl (by dsimp only[Fr.put,u1,u2]<;>rfl) ?_;refine qa hH fun k8 st Tn hH=>?_;refine qS hH au fun st hH=>?_;dsimp only[u2,u1,u3,u4,setMany,u5,u6,D.cells,Nat.reduceAdd,aG,br,bL,aw,fG] at hH;refine qe hK<|qq<|qj fun K hK=>qp (o:=0) ?_;refine ql hH au ?_;refine qp (o:=1) ?_;refine aa.bk (m:=10) hH rfl (ev rfl) (by exact au) (by dsimp only[List.drop_succ_cons,List.drop_zero,List.take_succ_cons,List.take_zero,aG,br,bL,aw,fG]<;>rfl) rfl rfl (by dsimp only[Fr.put,u1,u2]<;>rfl) ?_;refine aa.go (d:=.agg (bL dn a_ .nul)) (st1:=_) rfl rfl rfl (by dsimp only[Fr.put,u1,u2]<;>rfl) ?_;refine qa hH fun k9 st hk9 hH=>?_;refine qS hH au fun st hH=>?_;dsimp only[u2,u1,u3,u4,setMany,u5,u6,D.cells,Nat.reduceAdd,aG,br,bL,aw,fG] at hH;refine qe hK<|qq<|qj fun K hK=>qm ?_;refine aa.gu (qs:=[(0,_),(2,_)]) rfl rfl rfl rfl ⟨rfl,(ev rfl),(by rfl),rfl,(ev rfl),(by rfl),trivial⟩ (by intro q hq;simp only[List.mem_cons,List.not_mem_nil,or_false] at hq;rcases hq with rfl|rfl<;>exact⟨rfl,by exact Nat.le_of_ble_eq_true rfl⟩) (by show List.foldl _ [_,_,_] _=_;dsimp only[List.foldl_cons,List.foldl_nil,u2,u1]<;>rfl) (by dsimp only[Fr.put,u1,u2]<;>rfl) ?_;refine qb hH fun k27 st aaY hH=>?_;refine qm ?_;refine qe hK ?_;have cQ:=hH;refine qq<|qj fun K hK=>qm ?_;refine qg ?_;refine qp (o:=4) ?_;refine ql hH bm ?_;obtain⟨_,st,aN,rfl,pd,qd,P,Q,hH,bd⟩:=oX [_,_,_,_,_] hF bd hH;dsimp only[u3,u4] at hH;refine qv aN ?_;refine qe hK ?_;clear cQ;rw[eT] at bd;have hH:=Has.mw [_,_,_,_] [_] hH;have hH:=Has.mw [_,_,_,_,_] [_,_,_] hH;have hH:=Has.mw [_,_,_] [_,_,_] hH;have hH:=Has.mw [_] [_,_,_] (hH.er 11);dsimp only[u3,u4] at hH;have Wm:=hH.rows (Co [_,_,_,_,_,_,_,_,_,_] rfl hl);have Mr:=rO p.code pl e eL (kI p.code.length dn a_);refine qq<|qq<|qj fun K hK=>qp (o:=11) ?_;refine ql hH bX ?_;refine aa.iL rfl (ev rfl) Wm rfl (by dsimp only[Fr.put,u1,u2]<;>rfl) ?_;simp only[List.length_map];refine qm ?_;refine qe hK<|ag.block<|ag.loop (fun mm fr st=>∃(j:Nat) (w:Wk) (rest:List gW) (rd pd qd:D) (P Q:List Nat),fr.clean=⟨37,[.ptr kv 0 0,.int .i64 (i:Nat),.bool e,cJ fr 3,cJ fr 4,cJ fr 5,.ptr k6 0 0,.nul,.ptr k8 0 0,.ptr k9 0 0,.ptr k27 0 0,cJ fr 11,cJ fr 12,cJ fr 13,cJ fr 14,cJ fr 15,cJ fr 16,cJ fr 17,cJ fr 18,cJ fr 19,cJ fr 20,cJ fr 21,cJ fr 22,cJ fr 23,cJ fr 24,cJ fr 25,cJ fr 26,cJ fr 27,cJ fr 28,cJ fr 29,cJ fr 30,cJ fr 31,cJ fr 32,cJ fr 33,td,.int .i64 (eL.length:Nat),.int .i64 (j:Nat)],[]⟩∧Has N S st (.box kv (.mem 0 false [p.cd,p.sd,.int .i64 (pl:Nat),ld,.ptr ks 0 0])::.box k27 (.mem 0 false [.ptr k9 0 0,rd,.bool e])::.box k9 (.mem 0 false (bL w.dn w.a_ .nul))::.aM rd 11 (w.rdy.map br)::.box ks (.mem 0 false [pd,qd])::.aM pd 1 (P.map gb)::.aM qd 2 (Q.map na)::.box k8 (.mem 0 false (bL dn a_ td))::.box k6 (.mem 0 false (bL false aH .nul))::.aM ld 12 (L.map fG)::(L.map nR++H))∧(j+mm=eL.length)∧(rest=eL.drop j)∧(nN p.code pl e rest w=W)∧(w.seen.length=p.code.length)∧(w.rdy.length+w.seen.count false≤1048576)∧(dj P Q w.seen)) (eL.length) ?_ ?_
 ·exact⟨0,kI p.code.length dn a_,eL,.nul,_,_,_,_,rfl,hH,by omega,rfl,hW,by simp[kI],by(have:=List.count_le_length (a:=false) (l:=(kI p.code.length dn a_).seen);simp[kI] at this⊢;omega),bd⟩
 rintro mm fr st ⟨j,w,rest,rd,pd,qd,P,Q,hfr,hH,hj,nc,hex,j6,pt,bd⟩;rw[hfr];clear hfr;generalize cJ fr=ee;clear fr;refine qq<|qj fun K hK=>qg ?_;refine qe hK ?_;have Wm:=hH.rows (Co [_,_,_,_,_,_,_,_,_,_] rfl hl);refine qq ?_;refine ag.cond (by rfl) (fun hlt=>?_) (fun hlt=>?_)<;>try simp only[decide_eq_true_eq,decide_eq_false_iff_not] at hlt
 ·refine ag.skip ?_;have kL:j<eL.length:=by omega
  obtain⟨t,ht⟩:∃t,eL[j]?=some t:=⟨eL[j]'kL,List.getElem?_eq_getElem _⟩
  have SO:=zF ht;have V7:=E3 t (List.mem_of_getElem? ht)
  have sQ:rest=t::eL.drop (j+1):=by
   rw[nc,List.drop_eq_getElem_cons kL]
   congr 1
   exact Option.some.inj ((List.getElem?_eq_getElem _).symm.trans ht)
  have yS:=List.count_le_length (a:=false) (l:=w.seen);have Xl:=cH p.code pl e (p.code.length+1) w t;rw[sQ] at hex;have hex:(if(ck p.code pl e (p.code.length+1) w t).2=true then(ck p.code pl e (p.code.length+1) w t).1 else nN p.code pl e (eL.drop (j+1)) (ck p.code pl e (p.code.length+1) w t).1)=W:=hex;refine qq<|ag.block<|qq<|qj fun K hK=>aa.vZ rfl (ev rfl) (ev rfl) Wm rfl rfl SO (fun _=>(ab rfl _)) (fun p38 WI=>?_);refine qR ?_;refine qa hH fun k12 st aa4 hH=>?_;dsimp only[u2,u1,u3,u4,setMany,u5,u6,D.cells,Nat.reduceAdd,aG,br,bL,aw,fG] at hH;refine qS hH au fun st hH=>?_;dsimp only[u2,u1,u3,u4,setMany,u5,u6,D.cells,Nat.reduceAdd,aG,br,bL,aw,fG] at hH;refine qe hK<|qq<|qj fun K hK=>qm ?_;refine qm ?_;refine aa.bk (m:=11) hH rfl (ev rfl) (by exact au) (by dsimp only[List.drop_succ_cons,List.drop_zero,List.take_succ_cons,List.take_zero,aG,br,bL,aw,fG]<;>rfl) rfl rfl (ab rfl _) ?_;have hH:=hH.drop 1;obtain⟨_,st,aN,rfl,hT⟩:=Mb (ks:=ks) (kv:=kv) (kw:=k27) (kl:=k9) (S:=S) (H:=H) (ld:=ld) (e:=e) hF hp hR fU (p.code.length+1) w t _ _ V7 j6 (by omega) pt ⟨rd,pd,qd,P,Q,hH,bd⟩;refine qv aN ?_;refine qe hK ?_;generalize ck p.code pl e (p.code.length+1) w t=R1 at*;obtain⟨w1,b1⟩:=R1;obtain⟨dz,bz,bQ,jT⟩:=Xl;simp only at dz bz bQ jT hT hex;obtain⟨rd,pd,qd,P,Q,hH,bd⟩:=hT;have DE:w1.seen.length=p.code.length:=dz.trans j6
  cases b1 with
  |true=>
   rw[if_pos rfl] at hex;subst hex;refine qB ?_;refine ag.exit ?_;have hH:=Has.mw [_,_,_,_,_,_,_] [_,_] hH;dsimp only[u3,u4] at hH;have vz:=hH;have SU:=rp hH bJ;have SS:=hH.tC bm (k:=k9) rfl;change ag _ _ _ _ _ _;refine qq ?_;generalize hK:aT _ _ _ _=K;refine ag.wb rfl ?_;refine cN.cons ?_;refine aa.bk (m:=12) hH rfl (ev rfl) (by exact bm) (by dsimp only[List.drop_succ_cons,List.drop_zero,List.take_succ_cons,List.take_zero,aG,br,bL,aw,fG]<;>rfl) rfl rfl (ab rfl _) ?_;refine aa.nil ⟨rfl,?_⟩;refine cN.cons ?_;refine qm ?_;refine aa.nil ⟨rfl,?_⟩;refine cN.cons ?_;refine qg ?_;refine aa.nil ⟨rfl,?_⟩;refine cN.cons ?_;refine qp (o:=1) ?_;refine aa.nil ⟨rfl,?_⟩;refine cN.cons ?_;refine ql hH bf ?_;refine aa.nil ⟨rfl,?_⟩;refine cN.cons ?_;refine qS hH aS fun st hH=>?_;dsimp only[u2,u1,u3,u4,setMany,u5,u6,D.cells,Nat.reduceAdd,aG,br,bL,aw,fG] at hH;refine aa.nil ⟨by exact Bool.and_eq_true_iff.2 ⟨iF rfl rfl rfl (vz.at bf) (hH.at bf) (vz.at bf) (by simp only[refs,D.ref];omega),rfl⟩,?_⟩;refine cN.cons ?_;refine qm ?_;refine aa.nil ⟨rfl,?_⟩;refine cN.nil ?_;subst hK;refine ag.ret ⟨rx,_,_,_,hH.dg rfl aS rfl rfl,rfl,rd,rfl,pd,qd,P,Q,_,?_,bd,DE⟩;exact((Has.mw [_,_,_] [_] (hH.drop 2)).erase 2).erase 2
  |false=>
   rw[if_neg (by decide)] at hex;refine qC ?_;refine ag.skip<|qj fun K hK=>qA ?_;refine qm ?_;refine qe hK ?_;exact⟨mm-1,by omega,⟨j+1,w1,eL.drop (j+1),rd,pd,qd,P,Q,rfl,hH,by omega,rfl,hex,DE,by omega,bd⟩⟩
 ·refine ag.exit ?_;have DL:rest=[]:=by rw[nc,List.drop_eq_nil_iff];omega
  subst DL;have hex:w=W:=hex;subst hex;have hH:=Has.mw [_,_,_,_,_,_,_] [_,_] hH;dsimp only[u3,u4] at hH;have vz:=hH;have SU:=rp hH bJ;have SS:=hH.tC bm (k:=k9) rfl;change ag _ _ _ _ _ _;refine qq ?_;generalize hK:aT _ _ _ _=K;refine ag.wb rfl ?_;refine cN.cons ?_;refine aa.bk (m:=12) hH rfl (ev rfl) (by exact bm) (by dsimp only[List.drop_succ_cons,List.drop_zero,List.take_succ_cons,List.take_zero,aG,br,bL,aw,fG]<;>rfl) rfl rfl (ab rfl _) ?_;refine aa.nil ⟨rfl,?_⟩;refine cN.cons ?_;refine qm ?_;refine aa.nil ⟨rfl,?_⟩;refine cN.cons ?_;refine qg ?_;refine aa.nil ⟨rfl,?_⟩;refine cN.cons ?_;refine qp (o:=1) ?_;refine aa.nil ⟨rfl,?_⟩;refine cN.cons ?_;refine ql hH bf ?_;refine aa.nil ⟨rfl,?_⟩;refine cN.cons ?_;refine qS hH aS fun st hH=>?_;dsimp only[u2,u1,u3,u4,setMany,u5,u6,D.cells,Nat.reduceAdd,aG,br,bL,aw,fG] at hH;refine aa.nil ⟨by exact Bool.and_eq_true_iff.2 ⟨iF rfl rfl rfl (vz.at bf) (hH.at bf) (vz.at bf) (by simp only[refs,D.ref];omega),rfl⟩,?_⟩;refine cN.cons ?_;refine qm ?_;refine aa.nil ⟨rfl,?_⟩;refine cN.nil ?_;subst hK;refine ag.ret ⟨rx,_,_,_,hH.dg rfl aS rfl rfl,rfl,rd,rfl,pd,qd,P,Q,_,?_,bd,j6⟩;exact((Has.mw [_,_,_] [_] (hH.drop 2)).erase 2).erase 2
def bI (fr:Go.V.Fr) (k:Nat):Go.V.D:=Go.V.nth .bD fr.loc k
def jz (l:List gW) (k:Nat):Bool:=l.any fun x=>x.pc==k
def mJ (l:List gW) (t:gW):List gW:=if jz l t.pc=true then l else l++[t]
def qN (code:List aJ) (pc:Nat):List Rg:=match code[pc]? with
 |some i=>i.rs
 |none=>[]
def eQ (code:List aJ) (r:Int):List gW→List gW→List gW
 |[],a=>a
 |t::ts,a=>eQ code r ts (if iw (qN code t.pc) r=true then mJ a ⟨t.pc+1,t.c⟩ else a)
structure PL where
 dn:Bool
 a_:l6
 eL:List gW
def fS (code:List aJ) (pl start:Nat) (r:Int) (l:PL):PL:=
 ⟨(nN code pl false l.eL (kI code.length l.dn l.a_)).dn,(nN code pl false l.eL (kI code.length l.dn l.a_)).a_,
  if(nN code pl false l.eL (kI code.length l.dn l.a_)).dn=true then eQ code r (nN code pl false l.eL (kI code.length l.dn l.a_)).rdy []
  else mJ (eQ code r (nN code pl false l.eL (kI code.length l.dn l.a_)).rdy []) ⟨start,aP⟩⟩
theorem yU (l:List gW) (t:gW) (k:Nat):jz (l++[t]) k=(jz l k||t.pc==k):=by
 unfold jz;rw[List.any_append];simp
theorem xI (l:List gW) (t:gW):(mJ l t).length≤l.length+1:=by
 unfold mJ;split
 ·omega
 ·simp
theorem xH {l:List gW} {t x:gW} (h:x∈mJ l t):x∈l∨x=t:=by
 unfold mJ at h;split at h
 ·exact .inl h
 ·rcases List.mem_append.1 h with h|h
  ·exact .inl h
  ·exact .inr (by simpa using h)
theorem rk {code:List aJ} {r:Int}:∀(l a:List gW),(eQ code r l a).length≤l.length+a.length∧∀x∈eQ code r l a,x∈a∨∃t∈l,x.pc=t.pc+1
 |[],a=>⟨by simp[eQ],fun x h=>.inl h⟩
 |t::ts,a=>by
  unfold eQ
  split
  ·obtain⟨h1,h2⟩:=rk (code:=code) (r:=r) ts (mJ a ⟨t.pc+1,t.c⟩);have:=xI a ⟨t.pc+1,t.c⟩;refine⟨by simp only[List.length_cons];omega,fun x hx=>?_⟩
   rcases h2 x hx with h|⟨y,hy,he⟩
   ·rcases xH h with h|h
    ·exact .inl h
    ·exact .inr ⟨t,List.mem_cons_self ..,by rw[h]⟩
   ·exact .inr ⟨y,List.mem_cons_of_mem _ hy,he⟩
  ·obtain⟨h1,h2⟩:=rk (code:=code) (r:=r) ts a;refine⟨by simp only[List.length_cons];omega,fun x hx=>?_⟩
   rcases h2 x hx with h|⟨y,hy,he⟩
   ·exact .inl h
   ·exact .inr ⟨y,List.mem_cons_of_mem _ hy,he⟩
def PL.ok (n:Nat) (l:PL):Prop:=(∀t∈l.eL,t.pc<n)∧l.eL.length≤1000
theorem nP {code:List aJ} {pl:Nat} {e:Bool} {l:List gW} {dn:Bool} {a_:l6}:(nN code pl e l (kI code.length dn a_)).rdy.length≤code.length∧∀t∈(nN code pl e l (kI code.length dn a_)).rdy,∃i,code[t.pc]?=some i∧i.op=1:=by
 obtain⟨_,_,h3,h4⟩:=rO code pl e l (kI code.length dn a_);have:=List.count_le_length (a:=false) (l:=(kI code.length dn a_).seen);simp only[kI,List.length_replicate,List.length_nil] at h3 this;refine⟨by simp only[kI];omega,fun t ht=>?_⟩
 rcases h4 t ht with h|h
 ·simp[kI] at h
 ·exact h
theorem wj {p:Pg} (hR:bB p) {t:gW} (h:∃i,p.code[t.pc]?=some i∧i.op=1):t.pc+1<p.code.length:=by
 obtain⟨i,hi,h1⟩:=h;have:=eU (hR.sh t.pc i hi);omega
theorem Cy {p:Pg} (hR:bB p) {pl start:Nat} {r:Int} {l:PL} (hs:start<p.code.length):(fS p.code pl start r l).ok p.code.length:=by
 obtain⟨h1,h2⟩:=nP (code:=p.code) (pl:=pl) (e:=false) (l:=l.eL) (dn:=l.dn) (a_:=l.a_);have hcl:=hR.cl;unfold fS PL.ok;generalize nN p.code pl false l.eL (kI p.code.length l.dn l.a_)=w at*;obtain⟨h3,h4⟩:=rk (code:=p.code) (r:=r) w.rdy []
 have h5:∀x∈eQ p.code r w.rdy [],x.pc<p.code.length:=fun x hx=>by
  rcases h4 x hx with h|⟨t,ht,he⟩
  ·cases h
  ·have:=wj hR (h2 t ht);omega
 simp only[List.length_nil] at h3;simp only
 split
 ·exact⟨h5,by omega⟩
 ·refine⟨fun x hx=>?_,?_⟩
  ·rcases xH hx with h|h
   ·exact h5 x h
   ·rw[h];exact hs
  ·have:=xI (eQ p.code r w.rdy []) ⟨start,aP⟩;omega
theorem Cx (gz:∀st,Ev pv 59 [] st (.agg (aw aP)) st) {N ks kv:Nat} {S s0:St} {H:List bC} {p:Pg} {pl:Nat} {ld:D} {L:List VL} {i start:Nat} {l:VL} {r:Int} (hF:S.flr≤N) (hp:p.ok) (hR:bB p) (fU:pl≤1099511627776) (hl:L[i]?=some l) (Qn:p.az[i]?=some ((start:Nat):Int)) (E3:(⟨l.dn,l.a_,l.eL⟩:PL).ok p.code.length) (hM:MH [] N S s0 ks kv p pl ld L H):
  ∃d ah,Ev pv 62 [.ptr kv 0 0,.int .i64 (i:Nat),.int .i32 r] s0 d ah∧∃td,d=.agg (bL (fS p.code pl start r ⟨l.dn,l.a_,l.eL⟩).dn (fS p.code pl start r ⟨l.dn,l.a_,l.eL⟩).a_ td)∧MH [.aM td 11 ((fS p.code pl start r ⟨l.dn,l.a_,l.eL⟩).eL.map br)] N S ah ks kv p pl ld L H:=by
 have hcl:=hR.cl;have hc:=hp.c.arg N S;have hs:=hp.s.arg N S;have hlen:=hp.cl;have Qj:start<p.code.length:=by have:=(hR.st _ (List.mem_of_getElem? Qn)).2;omega
 have SY:=eX Qn;obtain⟨SD,V9⟩:=E3;simp only at SD V9;obtain⟨hb1,hb2⟩:=nP (code:=p.code) (pl:=pl) (e:=false) (l:=l.eL) (dn:=l.dn) (a_:=l.a_);obtain⟨pd,qd,P,Q,sn,hH,bd,eT⟩:=hM;dsimp only[u4] at hH;unfold fS;simp only;refine Ev.iC rfl Yh rfl rfl rfl ?_;dsimp only[u3,u4,List.length,Nat.reduceSub,Nat.reduceAdd,w1,w2];change ag _ _ _ _ s0 _;refine qq<|qj fun K hK=>qa hH fun k6 st E5 hH=>?_;refine qe hK ?_;obtain⟨_,st1,aN,rd,rfl,hM⟩:=tN (e:=false) hF hp hR fU hl SD (by omega) (MH.push [_] [] ⟨pd,qd,P,Q,sn,hH,bd,eT⟩);clear bd eT;have hM:=MH.pull [_] [_] hM;generalize nN p.code pl false l.eL (kI p.code.length l.dn l.a_)=W at*;obtain⟨pd,qd,P,Q,sn,QZ,bd,eT⟩:=hM;dsimp only[u3,u4] at QZ;refine qq<|qj fun K hK=>qm ?_;refine qm ?_;have hH:=QZ;refine qv aN ?_;refine qm ?_;refine qg ?_;refine qg ?_;refine qa hH fun k7 st W8 hH=>?_;refine qS hH au fun st hH=>?_;dsimp only[u2,u1,u3,u4,setMany,u5,u6,D.cells,Nat.reduceAdd,aG,br,bL,aw,fG] at hH;refine qm ?_;refine qe hK ?_;clear QZ;refine qq<|qj fun K hK=>qm ?_;refine qg ?_;refine qp (o:=4) ?_;refine ql hH bf ?_;obtain⟨_,st,aN,rfl,pd,qd,P,Q,hH,bd⟩:=oX [_,_,_,_] hF bd hH;dsimp only[u3,u4] at hH;refine qv aN ?_;refine qe hK ?_;rw[eT] at bd;refine qq<|qq<|qj fun K hK=>qm ?_;refine qn ?_ (hR:=hH.rows ba);simp only[List.length_map];refine qm ?_;refine qe hK ?_;have hH:=Has.mw [_] [_] (hH.er 11);dsimp only[u3,u4] at hH
 obtain⟨A,hA⟩:∃A,eQ p.code r W.rdy []=A:=⟨_,rfl⟩
 rw[hA];refine ag.block<|ag.loop (fun mm fr st=>∃(j:Nat) (acc rest:List gW) (td pd qd:D) (P Q:List Nat) (sn:List Bool),fr.clean=⟨25,[.ptr kv 0 0,.int .i64 (i:Nat),.int .i32 r,bI fr 3,bI fr 4,bI fr 5,.ptr k6 0 0,.ptr k7 0 0,rd,bI fr 9,bI fr 10,bI fr 11,bI fr 12,bI fr 13,bI fr 14,bI fr 15,bI fr 16,bI fr 17,bI fr 18,bI fr 19,bI fr 20,bI fr 21,rd,.int .i64 (W.rdy.length:Nat),.int .i64 (j:Nat)],[]⟩∧Has N S st (.box k7 (.mem 0 false (bL W.dn W.a_ td))::.aM td 11 (acc.map br)::.box k6 (.mem 0 false (bL false aH .nul))::.aM rd 11 (W.rdy.map br)::.box kv (.mem 0 false [p.cd,p.sd,.int .i64 (pl:Nat),ld,.ptr ks 0 0])::.box ks (.mem 0 false [pd,qd])::.aM pd 1 (P.map gb)::.aM qd 2 (Q.map na)::.aM ld 12 (L.map fG)::(L.map nR++H))∧(j+mm=W.rdy.length)∧(rest=W.rdy.drop j)∧(eQ p.code r rest acc=A)∧(acc.length≤j)∧(dj P Q sn)∧(sn.length=p.code.length)∧(∀k,k<p.code.length→sn[k]?=some (jz acc k))) (W.rdy.length) ?_ ?_
 ·refine⟨0,[],W.rdy,.nul,_,_,_,_,_,rfl,hH,by omega,rfl,hA,by simp,bd,by simp,(fun k hk=>by rw[List.getElem?_replicate,if_pos hk];rfl)⟩
 rintro mm fr st ⟨j,acc,rest,td,pd,qd,P,Q,sn,hfr,hH,hj,nc,hex,hal,bd,eT,vu⟩;rw[hfr];clear hfr;generalize bI fr=ee;clear fr;refine qq<|qj fun K hK=>qg ?_;refine qe hK<|qq ?_;refine ag.cond (by rfl) (fun hlt=>?_) (fun hlt=>?_)<;>try simp only[decide_eq_true_eq,decide_eq_false_iff_not] at hlt
 ·refine ag.skip ?_;have kL:j<W.rdy.length:=by omega
  obtain⟨t,ht⟩:∃t,W.rdy[j]?=some t:=⟨W.rdy[j]'kL,List.getElem?_eq_getElem _⟩
  have SO:=zF ht;obtain⟨ii,hii,Xj⟩:=hb2 t (List.mem_of_getElem? ht);have Qg:=wj hR ⟨ii,hii,Xj⟩;have oE:=iu hii;have TA:=hp.i ii (List.mem_of_getElem? hii);have Qr:=TA.1;have Qs:=Qr.arg N S;have aak:=TA.2
  have sQ:rest=t::W.rdy.drop (j+1):=by
   rw[nc,List.drop_eq_getElem_cons kL]
   congr 1
   exact Option.some.inj ((List.getElem?_eq_getElem _).symm.trans ht)
  rw[sQ] at hex;have Wn:qN p.code t.pc=ii.rs:=by unfold qN;rw[hii]
  unfold eQ at hex;rw[Wn] at hex;have Wv:jz acc (t.pc+1)=jz acc (t.pc+1):=rfl;generalize XH:jz acc (t.pc+1)=bq at Wv;have Li:=vu (t.pc+1) Qg;rw[XH] at Li;refine qq<|ag.block<|qq<|qj fun K hK=>qi hH bf fun p26 WM=>?_;refine aa.og hH rfl (ev rfl) (by assumption) (by exact bf) (by assumption) rfl (ab rfl _) ?_;refine qa hH fun k10 st Tz hH=>?_;dsimp only[u2,u1,u3,u4,setMany,u5,u6,D.cells,Nat.reduceAdd,aG,br,bL,aw,fG] at hH;refine qS hH au fun st hH=>?_;dsimp only[u2,u1,u3,u4,setMany,u5,u6,D.cells,Nat.reduceAdd,aG,br,bL,aw,fG] at hH;refine qe hK ?_
  cases dE:iw ii.rs r with
  |false=>
   rw[dE,if_neg (by decide)] at hex;refine qq<|qj fun K hK=>qm ?_;refine qg ?_;refine qp (o:=0) ?_;refine qp (o:=0) ?_;refine ql hH bJ ?_;refine qp (o:=0) ?_;refine ql hH au ?_;refine qr fun Zb S7=>?_;refine qf (fo:=3) fun p36 WK=>?_;refine qR ?_;refine qm ?_;refine qv (yV (Qs.rows hH) (by omega)) ?_;refine qm ?_;refine qs ?_ (hg:=wn dE);refine qs ?_ (hg:=wn dE);refine qs ?_ (hg:=wn dE);refine qs ?_ (hg:=wn dE);refine qs ?_ (hg:=wn dE);refine qs ?_ (hg:=wn dE);refine qs ?_ (hg:=wn dE);refine qs ?_ (hg:=wn dE);refine qu dE ?_;refine qe hK<|qC ?_;refine ag.skip<|qj fun K hK=>qA ?_;refine qm ?_;refine qe hK ?_;exact⟨mm-1,by omega,⟨j+1,acc,W.rdy.drop (j+1),td,pd,qd,P,Q,sn,rfl,(hH.drop 1),by omega,rfl,hex,by omega,bd,eT,vu⟩⟩
  |true=>
   rw[dE,if_pos rfl] at hex;have hex:eQ p.code r (W.rdy.drop (j+1)) (if jz acc (t.pc+1)=true then acc else acc++[⟨t.pc+1,t.c⟩])=A:=hex;rw[XH] at hex;have sD:t.pc+1<sn.length:=by omega
   refine qq<|qj fun K hK=>qm ?_;refine qg ?_;refine qp (o:=0) ?_;refine qp (o:=0) ?_;refine ql hH bJ ?_;refine qp (o:=0) ?_;refine ql hH au ?_;refine qr fun Zb S7=>?_;refine qf (fo:=3) fun p36 WK=>?_;refine qR ?_;refine qm ?_;refine qv (yV (Qs.rows hH) (by omega)) ?_;refine qm ?_;refine qm ?_ (hg:=wi dE);refine qg ?_ (hg:=wi dE);refine qp (o:=4) ?_ (hg:=wi dE);refine ql hH bJ ?_ (hg:=wi dE);refine qp (o:=0) ?_ (hg:=wi dE);refine ql hH au ?_ (hg:=wi dE);refine qA ?_ (hg:=wi dE);obtain⟨_,st,aN,rfl,pd,qd,P,Q,hH,bd⟩:=nY [_,_,_,_,_,_] hF Li bd hH;dsimp only[u3,u4] at hH;refine qv aN ?_ (hg:=wi dE);refine qt dE ?_;refine qe hK ?_
   cases bq with
   |true=>
    rw[if_pos rfl] at hex;refine qC ?_;refine ag.skip<|qj fun K hK=>qA ?_;refine qm ?_;refine qe hK ?_;refine⟨mm-1,by omega,⟨j+1,acc,W.rdy.drop (j+1),td,pd,qd,P,Q,sn.set (t.pc+1) true,rfl,(hH.drop 1),by omega,rfl,hex,by omega,bd,by rw[List.length_set];exact eT,?_⟩⟩;intro k hk
    by_cases hkk:k=t.pc+1
    ·subst hkk;rw[List.getElem?_set_self sD,XH]
    ·rw[List.getElem?_set_ne (fun e=>hkk e.symm)];exact vu k hk
   |false=>
    rw[if_neg (by decide)] at hex;refine qB ?_;refine qq<|qj fun K hK=>qp (o:=0) ?_;refine ql hH au ?_;refine qA ?_;refine qp (o:=0) ?_;refine qT hH au fun st hH=>?_;dsimp only[u2,u1,u3,u4,setMany,u5,u6,D.cells,Nat.reduceAdd,aG,br,bL,aw,fG] at hH;refine qe hK<|qj fun K hK=>qp (o:=11) ?_;refine ql hH aS ?_;refine aa.bk (m:=11) hH rfl (ev rfl) (by exact au) (by dsimp only[List.drop_succ_cons,List.drop_zero,List.take_succ_cons,List.take_zero,aG,br,bL,aw,fG]<;>rfl) rfl rfl (ab rfl _) ?_;refine qh (s:=11) (vs:=[_]) hH fun k57 st aaN hH=>?_;refine aa.bP (s:=11) hH rfl (ev rfl) (ev rfl) (by exact bf) (by exact hH.rows (by exact au)) rfl rfl rfl rfl rfl rfl rfl ⟨(Nat.le_of_ble_eq_true rfl),(Nat.le_of_ble_eq_true rfl)⟩ (fun _=>(ab rfl _)) (by simp only[List.length_cons,List.length_nil,List.length_map]<;>omega) (by exact .inl hF) (fun x58 st hH=>?_);dsimp only[u2,u1,u3,u4,setMany,u5,u6,D.cells,Nat.reduceAdd,aG,br,bL,aw,fG] at hH;refine qp (o:=11) ?_;refine qT hH ba (fun st hH=>?_) (iS:=hH.cm bf);dsimp only[u2,u1,u3,u4,setMany,u5,u6,D.cells,Nat.reduceAdd,aG,br,bL,aw,fG] at hH;refine qe hK<|qj fun K hK=>qA ?_;refine qm ?_;refine qe hK ?_;refine⟨mm-1,by omega,⟨j+1,acc++[⟨t.pc+1,t.c⟩],W.rdy.drop (j+1),x58,pd,qd,P,Q,sn.set (t.pc+1) true,rfl,(by rw[List.map_append];exact hH.drop 2),by omega,rfl,hex,by simp;omega,bd,by rw[List.length_set];exact eT,?_⟩⟩;intro k hk;rw[yU]
    by_cases hkk:k=t.pc+1
    ·subst hkk;rw[List.getElem?_set_self sD];simp
    ·rw[List.getElem?_set_ne (fun e=>hkk e.symm),vu k hk];have:(t.pc+1==k)=false:=by rw[beq_eq_false_iff_ne];omega
     simp only[this,Bool.or_false]
 ·refine ag.exit ?_;have DL:rest=[]:=by rw[nc,List.drop_eq_nil_iff];omega
  subst DL;have hex:acc=A:=hex;subst hex;clear hA nc;have Li:=vu start Qj;refine qq<|qq<|ag.om (fun fr st=>∃(eL:List gW) (td pd qd:D) (P Q:List Nat) (sn:List Bool) (tmp:List (Nat×D)),fr=⟨25,[bI fr 0,bI fr 1,bI fr 2,bI fr 3,bI fr 4,bI fr 5,.ptr k6 0 0,.ptr k7 0 0,bI fr 8,bI fr 9,bI fr 10,bI fr 11,bI fr 12,bI fr 13,bI fr 14,bI fr 15,bI fr 16,bI fr 17,bI fr 18,bI fr 19,bI fr 20,bI fr 21,bI fr 22,bI fr 23,bI fr 24],tmp⟩∧Has N S st (.box k7 (.mem 0 false (bL W.dn W.a_ td))::.aM td 11 (eL.map br)::.box k6 (.mem 0 false (bL false aH .nul))::.aM rd 11 (W.rdy.map br)::.box kv (.mem 0 false [p.cd,p.sd,.int .i64 (pl:Nat),ld,.ptr ks 0 0])::.box ks (.mem 0 false [pd,qd])::.aM pd 1 (P.map gb)::.aM qd 2 (Q.map na)::.aM ld 12 (L.map fG)::(L.map nR++H))∧(eL=(if W.dn=true then acc else mJ acc ⟨start,aP⟩))∧(dj P Q sn)∧(sn.length=p.code.length)) ?_ ?_
  ·cases QO:W.dn with
   |true=>
    rw[QO] at hH;have bQ:(!true)=false:=rfl;refine qj fun K hK=>qp (o:=0) ?_;refine ql hH au ?_;refine qg ?_;refine qm ?_;refine qs ?_ (hg:=wn bQ);refine qs ?_ (hg:=wn bQ);refine qs ?_ (hg:=wn bQ);refine qs ?_ (hg:=wn bQ);refine qs ?_ (hg:=wn bQ);refine qs ?_ (hg:=wn bQ);refine qs ?_ (hg:=wn bQ);refine qs ?_ (hg:=wn bQ);refine qs ?_ (hg:=wn bQ);refine qs ?_ (hg:=wn bQ);refine qs ?_ (hg:=wn bQ);refine qs ?_ (hg:=wn bQ);refine qs ?_ (hg:=wn bQ);refine qu bQ ?_;refine qe hK<|qC ?_;refine ag.skip ?_;exact⟨acc,td,pd,qd,P,Q,sn,_,rfl,hH,rfl,bd,eT⟩
   |false=>
    rw[QO] at hH;have bQ:(!false)=true:=rfl;refine qj fun K hK=>qp (o:=0) ?_;refine ql hH au ?_;refine qg ?_;refine qm ?_;refine qm ?_ (hg:=wi bQ);refine qg ?_ (hg:=wi bQ);refine qp (o:=4) ?_ (hg:=wi bQ);refine ql hH bm ?_ (hg:=wi bQ);refine qm ?_ (hg:=wi bQ);refine qg ?_ (hg:=wi bQ);refine qp (o:=0) ?_ (hg:=wi bQ);refine qp (o:=1) ?_ (hg:=wi bQ);refine ql hH bm ?_ (hg:=wi bQ);refine qm ?_ (hg:=wi bQ);refine qr (fun Y' S5=>?_) (hg:=wi bQ);refine qR ?_ (hg:=wi bQ);obtain⟨_,st,aN,rfl,pd,qd,P,Q,hH,bd⟩:=nY [_,_,_,_,_] hF Li bd hH;dsimp only[u3,u4] at hH;refine qv aN ?_ (hg:=wi bQ);refine qt bQ ?_;refine qe hK ?_
    by_cases Al:jz acc start=true
    ·refine qE rfl (by rw[Al];rfl) ?_;refine ag.skip ?_;exact⟨acc,td,pd,qd,P,Q,sn.set start true,_,rfl,hH,by unfold mJ;rw[if_neg (by decide),if_pos Al],bd,by rw[List.length_set];exact eT⟩
    ·refine qD rfl (by rw[Bool.eq_false_iff.2 Al];rfl) ?_;refine qj fun K hK=>qp (o:=11) ?_;refine ql hH au ?_;refine qm ?_;refine qg ?_;refine qp (o:=0) ?_;refine qp (o:=1) ?_;refine ql hH bm ?_;refine qm ?_;refine qr fun p87 aam=>?_;refine qR ?_;refine qv (gz _) ?_;refine aa.go (d:=.agg (br ⟨start,aP⟩)) (st1:=_) rfl rfl rfl (ab rfl _) ?_;refine qh (s:=11) (vs:=[_]) hH fun k91 st aaG hH=>?_;dsimp only[u2,u1,u3,u4,setMany,u5,u6,D.cells,Nat.reduceAdd,aG,br,bL,aw,fG] at hH;refine aa.bP (s:=11) hH rfl (ev rfl) (ev rfl) (by exact ba) (by exact hH.rows (by exact au)) rfl rfl rfl rfl rfl rfl rfl ⟨(Nat.le_of_ble_eq_true rfl),(Nat.le_of_ble_eq_true rfl)⟩ (fun _=>(ab rfl _)) (by simp only[List.length_cons,List.length_nil,List.length_map]<;>omega) (by exact .inl hF) (fun x92 st hH=>?_);dsimp only[u2,u1,u3,u4,setMany,u5,u6,D.cells,Nat.reduceAdd,aG,br,bL,aw,fG] at hH;refine qp (o:=11) ?_;refine qT hH aS (fun st hH=>?_) (iS:=hH.cm ba);dsimp only[u2,u1,u3,u4,setMany,u5,u6,D.cells,Nat.reduceAdd,aG,br,bL,aw,fG] at hH;refine qe hK ?_;exact⟨acc++[⟨start,aP⟩],x92,pd,qd,P,Q,sn.set start true,_,rfl,(by rw[List.map_append];exact hH.drop 1),by unfold mJ;rw[if_neg (by decide),if_neg Al],bd,by rw[List.length_set];exact eT⟩
  ·rintro fr st ⟨eL,td,pd,qd,P,Q,sn,tmp,hfr,hH,V8,bd,eT⟩;rw[hfr];clear hfr;generalize bI fr=ee;clear fr;refine qq<|qj fun K hK=>?_;refine aa.bk (m:=12) hH rfl (ev rfl) (by exact au) (by dsimp only[List.drop_succ_cons,List.drop_zero,List.take_succ_cons,List.take_zero,aG,br,bL,aw,fG]<;>rfl) rfl rfl (ab rfl _) ?_;refine qS hH ba fun st hH=>?_;dsimp only[u2,u1,u3,u4,setMany,u5,u6,D.cells,Nat.reduceAdd,aG,br,bL,aw,fG] at hH;refine qe hK<|ag.ret ⟨rx,_,_,_,hH.pJ rfl ba rfl,rfl,td,rfl,pd,qd,P,Q,sn,?_,bd,eT⟩;rw[←V8];exact((hH.drop 1).erase 1).erase 1
def dZ (fr:Go.V.Fr) (k:Nat):Go.V.D:=Go.V.nth .bD fr.loc k
def VL.pl (l:VL):PL:=⟨l.dn,l.a_,l.eL⟩
def aF (p:Pg):List Nat:=p.az.map Int.toNat
def gB (code:List aJ) (pl:Nat) (r:Int):List Nat→List PL→List PL
 |s::ss,l::ls=>fS code pl s r l::gB code pl r ss ls
 |_,_=>[]
def gi (n:Int):Nat:=(min (max n 0) 4).toNat
theorem oM (n:Int):gi n≤4:=by unfold gi;omega
theorem j7 (code:List aJ) (pl:Nat) (r:Int):∀(ss:List Nat) (ls:List PL),ss.length=ls.length→(gB code pl r ss ls).length=ls.length
 |[],[],_=>rfl
 |s::ss,l::ls,h=>by simp only[gB,List.length_cons];rw[j7 code pl r ss ls (by simpa using h)]
theorem mo (code:List aJ) (pl:Nat) (r:Int):∀(ss:List Nat) (ls:List PL) (i:Nat) (s:Nat) (l:PL),ss[i]?=some s→ls[i]?=some l→(gB code pl r ss ls)[i]?=some (fS code pl s r l)
 |[],_,_,_,_,h,_=>by simp at h
 |_::_,[],_,_,_,_,h=>by simp at h
 |s::ss,l::ls,0,_,_,h1,h2=>by simp only[List.getElem?_cons_zero,Option.some.injEq] at h1 h2;subst h1;subst h2;rfl
 |s::ss,l::ls,i+1,_,_,h1,h2=>by simp only[List.getElem?_cons_succ] at h1 h2;simp only[gB,List.getElem?_cons_succ];exact mo code pl r ss ls i _ _ h1 h2
theorem MH.mono {A:List bC} {N:Nat} {S st:St} {ks kv:Nat} {p:Pg} {pl:Nat} {ld:D} {L:List VL} {H:List bC} (n:Nat) (h:MH A N S st ks kv p pl ld L H):MH (A.drop n) N S st ks kv p pl ld L H:=by
 obtain⟨pd,qd,P,Q,sn,hH,bd,eT⟩:=h;refine⟨pd,qd,P,Q,sn,?_,bd,eT⟩
 rcases Nat.le_total n A.length with hn|hn
 ·have:=hH.drop n
  rwa [List.drop_append_of_le_length hn] at this
 ·have:=hH.drop A.length;rw[List.drop_append_of_le_length (Nat.le_refl _),List.drop_length] at this;rw[List.drop_eq_nil_of_le hn];exact this
theorem E_ (L:List VL) (i:Nat) (l:VL):(L.set i l).map nR=(L.map nR).set i (nR l):=List.map_set ..
theorem MH.Fs {N:Nat} {S st:St} {ks kv:Nat} {p:Pg} {pl:Nat} {ld:D} {L:List VL} {H:List bC} {i:Nat} {l:VL} {pd qd:D} {P Q:List Nat} (hi:i<L.length)
  (h:Has N S st (.aM l.td 11 (l.eL.map br)::.box kv (.mem 0 false [p.cd,p.sd,.int .i64 (pl:Nat),ld,.ptr ks 0 0])::.box ks (.mem 0 false [pd,qd])::.aM pd 1 (P.map gb)::.aM qd 2 (Q.map na)::.aM ld 12 ((L.map fG).set i (fG l))::(L.map nR++H))):
  Has N S st (.box kv (.mem 0 false [p.cd,p.sd,.int .i64 (pl:Nat),ld,.ptr ks 0 0])::.box ks (.mem 0 false [pd,qd])::.aM pd 1 (P.map gb)::.aM qd 2 (Q.map na)::.aM ld 12 ((L.set i l).map fG)::((L.set i l).map nR++H)):=by
 have h1:=h.eV (j:=5+i) (by simp;omega);rw[List.map_set,E_]
 have h2:∀(a b c d e:bC),(a::b::c::d::e::(L.map nR++H)).set (5+i) (.aM l.td 11 (l.eL.map br))=a::b::c::d::e::((L.map nR).set i (nR l)++H):=by
  intro a b c d e;rw[Nat.add_comm 5 i];simp only[List.set_cons_succ];rw[List.set_append_left _ _ (by simpa using hi)];rfl
 rw[h2] at h1;exact h1
theorem L8 (gz:∀st,Ev pv 59 [] st (.agg (aw aP)) st) {N ks kv:Nat} {S s0:St} {H:List bC} {p:Pg} {pl:Nat} {ld:D} {L:List VL} {r n:Int} (hF:S.flr≤N) (hp:p.ok) (hR:bB p) (fU:pl≤1000000000000) (vy:L.length=p.az.length) (bd:∀l∈L,l.pl.ok p.code.length) (hM:MH [] N S s0 ks kv p pl ld L H):
  ∃d ah,Ev pv 18 [.ptr kv 0 0,.int .i32 r,.int .i64 n] s0 d ah∧d=.tup []∧∃L',L'.map VL.pl=gB p.code pl r (aF p) (L.map VL.pl)∧MH [] N S ah ks kv p (pl+gi n) ld L' H:=by
 have SM:=hR.sl;refine Ev.iC rfl Yx rfl rfl rfl ?_;dsimp only[u3,u4,List.length,Nat.reduceSub,Nat.reduceAdd,w1,w2];change ag _ _ _ _ s0 _;obtain⟨pd,qd,P,Q,sn,hH,hY,eT⟩:=hM;dsimp only[u4] at hH;refine qq<|qq<|qj fun K hK=>qm ?_;refine qg ?_;refine qp (o:=3) ?_;refine ql hH au ?_;refine qn ?_ (hR:=hH.rows bm);simp only[List.length_map];refine qm ?_;refine qe hK<|ag.block<|ag.loop (fun mm fr st=>∃(i:Nat) (L2:List VL) (pd qd:D) (P Q:List Nat) (sn:List Bool),fr.clean=⟨13,[.ptr kv 0 0,.int .i32 r,.int .i64 n,dZ fr 3,dZ fr 4,dZ fr 5,dZ fr 6,dZ fr 7,dZ fr 8,dZ fr 9,dZ fr 10,.int .i64 (L.length:Nat),.int .i64 (i:Nat)],[]⟩∧Has N S st (.box kv (.mem 0 false [p.cd,p.sd,.int .i64 (pl:Nat),ld,.ptr ks 0 0])::.box ks (.mem 0 false [pd,qd])::.aM pd 1 (P.map gb)::.aM qd 2 (Q.map na)::.aM ld 12 (L2.map fG)::(L2.map nR++H))∧(i+mm=L.length)∧(L2.length=L.length)∧(∀j l s,j<i→L[j]?=some l→p.az[j]?=some s→(L2.map VL.pl)[j]?=some (fS p.code pl s.toNat r l.pl))∧(∀j,i≤j→L2[j]?=L[j]?)∧(dj P Q sn)∧(sn.length=p.code.length)) (L.length) ?_ ?_
 ·exact⟨0,L,_,_,_,_,_,rfl,hH,by omega,rfl,(by intro j l s h;omega),(fun j _=>rfl),hY,eT⟩
 rintro mm fr st ⟨i,L2,pd,qd,P,Q,sn,hfr,hH,hi,yM,ZM,Zt,hY,eT⟩;rw[hfr];clear hfr;generalize dZ fr=ee;clear fr;refine qq<|qj fun K hK=>qg ?_;refine qe hK<|qq ?_;refine ag.cond (by rfl) (fun hlt=>?_) (fun hlt=>?_)<;>try simp only[decide_eq_true_eq,decide_eq_false_iff_not] at hlt
 ·refine ag.skip ?_;have hil:i<L.length:=by omega
  obtain⟨l,hl⟩:∃l,L[i]?=some l:=⟨L[i]'hil,List.getElem?_eq_getElem _⟩
  have mh:L2[i]?=some l:=by rw[Zt i (Nat.le_refl _)];exact hl
  obtain⟨s,hs⟩:∃s,p.az[i]?=some s:=⟨p.az[i]'(by omega),List.getElem?_eq_getElem _⟩
  obtain⟨pP,DF⟩:=hR.st s (List.mem_of_getElem? hs);obtain⟨Ru,rfl⟩:=Int.eq_ofNat_of_zero_le pP;have iv:=ue mh;refine qq<|ag.block<|qq<|qj fun K hK=>qm ?_;refine qm ?_;refine qe hK ?_;have cQ:=hH;have SU:=rp hH bm;have SS:=hH.tC aS (k:=ks) rfl;have Wp:=hp.c.ref;have Wo:=hp.s.ref;have Ll:refs [p.cd,p.sd,.int .i64 (pl:Nat),ld,.ptr ks 0 0]≤st.bs.length:=by simp only[refs,D.ref,Wp,Wo];omega
  change ag _ _ _ _ _ _;generalize hK:aT _ _ _ _=K;refine ag.wb rfl ?_;refine cN.cons ?_;refine qm ?_;refine aa.nil ⟨rfl,?_⟩;refine cN.cons ?_;refine qg ?_;refine aa.nil ⟨rfl,?_⟩;refine cN.cons ?_;refine qp (o:=3) ?_;refine aa.nil ⟨rfl,?_⟩;refine cN.cons ?_;refine ql hH au ?_;refine aa.nil ⟨rfl,?_⟩;refine cN.cons ?_;refine qm ?_;refine aa.nil ⟨rfl,?_⟩;refine cN.cons ?_;refine qm ?_;refine aa.nil ⟨rfl,?_⟩;refine cN.cons ?_;refine qm ?_;refine aa.nil ⟨rfl,?_⟩;refine cN.cons ?_;refine qm ?_;refine aa.nil ⟨rfl,?_⟩;refine cN.cons ?_;obtain⟨_,st,aN,td,rfl,hM⟩:=Cx gz hF hp hR (by omega) mh hs (bd l (List.mem_of_getElem? hl)) ⟨pd,qd,P,Q,sn,hH,hY,eT⟩;obtain⟨pd,qd,P,Q,sn,hH,hY,eT⟩:=hM;dsimp only[u3,u4] at hH;refine qv aN ?_;refine aa.nil ⟨by exact Bool.and_eq_true_iff.2 ⟨iF rfl rfl rfl (cQ.at au) (hH.at aS) (cQ.at au) Ll,rfl⟩,?_⟩;refine cN.cons ?_;refine qi hH bJ fun U7 Lr=>?_;refine aa.nil ⟨rfl,?_⟩;refine cN.cons ?_;refine aa.iO hH rfl (ev rfl) (ev rfl) (by assumption) rfl rfl (by exact bJ) (by assumption) (Nat.le_of_ble_eq_true rfl) (by exact .inl hF) (fun st hH=>?_);dsimp only[u2,u1,u3,u4,setMany,u5,u6,D.cells,Nat.reduceAdd,aG,br,bL,aw,fG] at hH;refine aa.nil ⟨rfl,?_⟩;refine cN.nil ?_;subst hK;have hH:=MH.Fs (l:=⟨(fS p.code pl Ru r l.pl).dn,(fS p.code pl Ru r l.pl).a_,td,(fS p.code pl Ru r l.pl).eL⟩) (by omega) hH;refine qj fun K hK=>qA ?_;refine qm ?_;refine qe hK ?_;refine⟨mm-1,by omega,⟨i+1,L2.set i ⟨(fS p.code pl Ru r l.pl).dn,(fS p.code pl Ru r l.pl).a_,td,(fS p.code pl Ru r l.pl).eL⟩,pd,qd,P,Q,sn,rfl,hH,by omega,by rw[List.length_set];exact yM,?_,(fun j hj=>by rw[List.getElem?_set_ne (by omega)];exact Zt j (by omega)),hY,eT⟩⟩;intro j l' s' hj iD uW;rw[List.map_set]
  by_cases hji:j=i
  ·subst hji;rw[hl] at iD;rw[hs] at uW;cases iD;cases uW;rw[List.getElem?_set_self (by rw[List.length_map];omega)];rfl
  ·rw[List.getElem?_set_ne (fun e=>hji e.symm)];exact ZM j l' s' (by omega) iD uW
 ·refine ag.exit ?_;have hil:i=L.length:=by omega
  have XA:=oM n;have hcz:((pl:Nat):Int)+min (max n 0) 4=((pl+gi n:Nat):Int):=by unfold gi;omega
  refine qj fun K hK=>qm ?_;refine qg ?_;refine qp (o:=2) ?_;refine ql hH au ?_;refine qm ?_;refine aa.K7 (t1:=0) (t2:=0) rfl (ev rfl) (ev rfl) (ab rfl _) ?_;refine aa.K6 (t1:=0) (t2:=0) rfl (ev rfl) (ev rfl) (ab rfl _) ?_;refine aa.lE (z:=((pl+gi n:Nat):Int)) rfl (ev rfl) (ev rfl) (by rw[hcz];exact ek (by simp only[kY];omega)) (ab rfl _) ?_;refine qg ?_;refine qp (o:=2) ?_;refine qT hH au fun st hH=>?_;dsimp only[u2,u1,u3,u4,setMany,u5,u6,D.cells,Nat.reduceAdd,aG,br,bL,aw,fG] at hH;refine qe hK ?_;refine⟨fun i h=>(by cases h),_,_,_,rfl,rfl,?_⟩;refine⟨rfl,L2,?_,pd,qd,P,Q,sn,hH,hY,eT⟩;refine List.ext_getElem? fun j=>?_
  by_cases hj:j<L.length
  ·obtain⟨l,hl⟩:∃l,L[j]?=some l:=⟨L[j]'hj,List.getElem?_eq_getElem _⟩
   obtain⟨s,hs⟩:∃s,p.az[j]?=some s:=⟨p.az[j]'(by omega),List.getElem?_eq_getElem _⟩
   rw[ZM j l s (by omega) hl hs,mo (s:=s.toNat) (l:=l.pl)]
   ·unfold aF;rw[List.getElem?_map,hs];rfl
   ·rw[List.getElem?_map,hl];rfl
  ·rw[List.getElem?_eq_none (by simp;omega),List.getElem?_eq_none];rw[j7]
   ·simp;omega
   ·unfold aF;simp;omega
def kB (code:List aJ) (pl:Nat) (l:PL):PL:=⟨(nN code pl true l.eL (kI code.length l.dn l.a_)).dn,(nN code pl true l.eL (kI code.length l.dn l.a_)).a_,[]⟩
def vf (l:PL):List D:=bL l.dn l.a_ .nul
theorem L9 {N ks kv:Nat} {S s0:St} {H:List bC} {p:Pg} {pl:Nat} {ld:D} {L:List VL} (hF:S.flr≤N) (hp:p.ok) (hR:bB p) (fU:pl≤1099511627776) (vy:L.length=p.az.length) (bd:∀l∈L,l.pl.ok p.code.length) (hM:MH [] N S s0 ks kv p pl ld L H):
  ∃d ah,Ev pv 21 [.ptr kv 0 0] s0 d ah∧MH [.aM d 12 ((L.map fun l=>kB p.code pl l.pl).map vf)] N S ah ks kv p pl ld L H:=by
 have SM:=hR.sl;refine Ev.iC rfl Yw rfl rfl rfl ?_;dsimp only[u3,u4,List.length,Nat.reduceSub,Nat.reduceAdd,w1,w2];change ag _ _ _ _ s0 _;obtain⟨pd,qd,P,Q,sn,hH,hY,eT⟩:=hM;dsimp only[u4] at hH;refine qq<|qj fun K hK=>qm ?_;refine qe hK<|qq<|qj fun K hK=>qm ?_;refine qe hK<|qq<|qq<|qj fun K hK=>qm ?_;refine qg ?_;refine qp (o:=3) ?_;refine ql hH au ?_;refine qn ?_ (hR:=hH.rows bm);simp only[List.length_map];refine qm ?_;refine qe hK<|ag.block<|ag.loop (fun mm fr st=>∃(i:Nat) (od pd qd:D) (P Q:List Nat) (sn:List Bool),fr.clean=⟨13,[.ptr kv 0 0,dZ fr 1,dZ fr 2,od,dZ fr 4,dZ fr 5,dZ fr 6,dZ fr 7,dZ fr 8,dZ fr 9,dZ fr 10,.int .i64 (L.length:Nat),.int .i64 (i:Nat)],[]⟩∧Has N S st (.aM od 12 (((L.map fun l=>kB p.code pl l.pl).take i).map vf)::.box kv (.mem 0 false [p.cd,p.sd,.int .i64 (pl:Nat),ld,.ptr ks 0 0])::.box ks (.mem 0 false [pd,qd])::.aM pd 1 (P.map gb)::.aM qd 2 (Q.map na)::.aM ld 12 (L.map fG)::(L.map nR++H))∧(i+mm=L.length)∧(dj P Q sn)∧(sn.length=p.code.length)) (L.length) ?_ ?_
 ·exact⟨0,.nul,_,_,_,_,_,rfl,(hH.er 12),by omega,hY,eT⟩
 rintro mm fr st ⟨i,od,pd,qd,P,Q,sn,hfr,hH,hi,hY,eT⟩;rw[hfr];clear hfr;generalize dZ fr=ee;clear fr;refine qq<|qj fun K hK=>qg ?_;refine qe hK<|qq ?_;refine ag.cond (by rfl) (fun hlt=>?_) (fun hlt=>?_)<;>try simp only[decide_eq_true_eq,decide_eq_false_iff_not] at hlt
 ·refine ag.skip ?_;have hil:i<L.length:=by omega
  obtain⟨l,hl⟩:∃l,L[i]?=some l:=⟨L[i]'hil,List.getElem?_eq_getElem _⟩
  obtain⟨wZ,tG⟩:=bd l (List.mem_of_getElem? hl);simp only[VL.pl] at wZ tG;have hge:(L.map fun l=>kB p.code pl l.pl)[i]?=some (kB p.code pl l.pl):=by rw[List.getElem?_map,hl];rfl
  have pt:(((L.map fun l=>kB p.code pl l.pl).take i).map vf).length=i:=by simp;omega
  refine qq<|ag.block<|qq<|qj fun K hK=>qm ?_;refine qm ?_;refine qe hK ?_;obtain⟨_,st1,aN,rd,rfl,hM⟩:=tN (e:=true) hF hp hR fU hl wZ (by omega) (MH.push [_] [] ⟨pd,qd,P,Q,sn,hH,hY,eT⟩);clear hY eT;have hM:=MH.pull [_] [] (MH.mono 1 hM);obtain⟨pd,qd,P,Q,sn,QZ,hY,eT⟩:=hM;dsimp only[u3,u4] at QZ;generalize hB:((L.map fun l=>kB p.code pl l.pl).take i).map vf=B at*;refine qq<|qj fun K hK=>qm ?_;refine qm ?_;have hH:=QZ;refine qv aN ?_;refine qm ?_;refine qg ?_;refine qg ?_;refine qa hH fun k5 st E6 hH=>?_;refine qS hH au fun st hH=>?_;dsimp only[u2,u1,u3,u4,setMany,u5,u6,D.cells,Nat.reduceAdd,aG,br,bL,aw,fG,vf] at hH;refine qm ?_;refine qe hK ?_;clear QZ;refine qj fun K hK=>qm ?_;refine aa.bk (m:=12) hH rfl (ev rfl) (by exact au) (by dsimp only[List.drop_succ_cons,List.drop_zero,List.take_succ_cons,List.take_zero,aG,br,bL,aw,fG,vf]<;>rfl) rfl rfl (ab rfl _) ?_;refine qh (s:=12) (vs:=[_]) hH fun k23 st Tw hH=>?_;refine aa.bP (s:=12) hH rfl (ev rfl) (ev rfl) (by exact ba) (by exact hH.rows (by exact au)) rfl rfl rfl rfl rfl rfl rfl ⟨(Nat.le_of_ble_eq_true rfl),(Nat.le_of_ble_eq_true rfl)⟩ (fun _=>(ab rfl _)) (by simp only[List.length_cons,List.length_nil,List.length_map]<;>omega) (by exact .inl hF) (fun x24 st hH=>?_);dsimp only[u2,u1,u3,u4,setMany,u5,u6,D.cells,Nat.reduceAdd,aG,br,bL,aw,fG,vf] at hH;refine qm ?_;refine qe hK<|qj fun K hK=>qA ?_;refine qm ?_;refine qe hK ?_;exact⟨mm-1,by omega,⟨i+1,x24,pd,qd,P,Q,sn,rfl,(by rw[List.take_add_one,hge,Option.toList_some,List.map_append,hB];exact hH.drop 2),by omega,hY,eT⟩⟩
 ·refine ag.exit ?_;have hil:i=L.length:=by omega
  refine qq<|qj fun K hK=>qm ?_;refine qm ?_;refine qe hK<|ag.ret ⟨rx,_,_,_,rfl,rfl,?_⟩;rw[List.take_of_length_le (by simp;omega)] at hH;exact⟨pd,qd,P,Q,sn,hH,hY,eT⟩
def eR (fr:Go.V.Fr) (k:Nat):Go.V.D:=Go.V.nth .bD fr.loc k
structure sA (p q:Pg):Prop where
 ok:q.ok
 code:q.code=p.code.map dV
 az:q.az=p.az
theorem C5 {s0:St} {p:Pg} (hp:p.ok):∃d,Ev pv 102 [p.d] s0 d s0∧∃q:Pg,d=q.d∧sA p q:=by
 refine Ev.E0 rfl UR rfl rfl rfl ?_;dsimp only[u3,u4,List.length,Nat.reduceSub,Nat.reduceAdd,w1,w2];obtain⟨cA,hF,hH⟩:=ri s0;generalize ai .ro s0=S at*;have hc:=hp.c.arg s0.bs.length S;have hs:=hp.s.arg s0.bs.length S;have hlen:=hp.cl;have SJ:=hp.sl;unfold Pg.d;refine qq<|qj fun K hK=>qb hH fun k1 st pQ hH=>?_;dsimp only[u2,u1,u3,u4,setMany,u5,u6,D.cells,Nat.reduceAdd,Pg.cs,aG,aq] at hH;refine qa hH fun k2 st hk2 hH=>?_;refine qe hK ?_;have hH:=hH.er 1;refine qq<|qj fun K hK=>qp (o:=1) ?_;refine ql hH ba ?_;refine qP hH au (Arg.rows (by assumption) hH) fun x8 st hH=>?_;dsimp only[u2,u1,u3,u4,setMany,u5,u6,D.cells,Nat.reduceAdd,Pg.cs,aG,aq] at hH;refine aa.gu (qs:=[(1,_)]) rfl rfl rfl rfl ⟨rfl,(ev rfl),(by exact hH.cm (by exact au)),trivial⟩ (by intro q hq;simp only[List.mem_cons,List.not_mem_nil,or_false] at hq;rcases hq with rfl<;>exact⟨rfl,by exact Nat.le_of_ble_eq_true rfl⟩) (by show List.foldl _ [_,_] _=_;dsimp only[List.foldl_cons,List.foldl_nil,u2,u1]<;>rfl) (by dsimp only[Fr.put,u1,u2]<;>rfl) ?_;refine qa hH fun k3 st Tu hH=>?_;refine qS hH au fun st hH=>?_;dsimp only[u2,u1,u3,u4,setMany,u5,u6,D.cells,Nat.reduceAdd,Pg.cs,aG,aq] at hH;refine qe hK ?_;have hH:=hH.P4 4;refine qq<|qq<|qj fun K hK=>qp (o:=0) ?_;refine ql hH bm ?_;refine qn ?_;simp only[List.length_map];refine qm ?_;refine qe hK<|ag.block<|ag.loop (fun mm fr st=>∃(i:Nat) (y:D) (ks:Nat→Prop),fr.clean=⟨14,[eR fr 0,.ptr k1 0 0,.ptr k2 0 0,.ptr k3 0 0,eR fr 4,eR fr 5,eR fr 6,eR fr 7,eR fr 8,eR fr 9,eR fr 10,p.cd,.int .i64 (p.code.length:Nat),.int .i64 (i:Nat)],[]⟩∧Has s0.bs.length S st [.deep ks y 4 ((p.code.take i).map rV),.box k3 (.mem 0 false [y,x8]),.aM x8 1 (p.az.map aq),.box k2 (.mem 0 false [.nul,.nul]),.box k1 (.mem 0 false [p.cd,p.sd])]∧(i+mm=p.code.length)) (p.code.length) ?_ ?_
 ·exact⟨0,.nul,_,rfl,hH,by omega⟩
 rintro mm fr st ⟨i,y,ks,hfr,hH,hi⟩;rw[hfr];clear hfr;generalize eR fr=ee;clear fr;refine qq<|qj fun K hK=>qg ?_;refine qe hK<|qq ?_;refine ag.cond (by rfl) (fun h1=>?_) (fun h1=>?_)<;>try simp only[decide_eq_true_eq,decide_eq_false_iff_not] at h1
 ·refine ag.skip ?_
  obtain⟨q,hq⟩:∃q,p.code[i]?=some q:=⟨p.code[i]'(by omega),List.getElem?_eq_getElem _⟩
  have hr:=iu hq;have wX:=hp.i q (List.mem_of_getElem? hq);have Bu:=wX.1;have SX:=wX.1.arg s0.bs.length S;have pt:=wX.2;have sD:((p.code.take i).map rV).length≤1048576:=by rw[List.length_map,List.length_take];omega
  refine qq<|ag.block<|qq<|qj fun K hK=>qr fun Zf S'=>?_;refine aa.dJ rfl (ev rfl) (by assumption) rfl (ab rfl _) ?_;refine qa hH fun k5 st E6 hH=>?_;refine qS hH au fun st hH=>?_;dsimp only[u2,u1,u3,u4,setMany,u5,u6,D.cells,Nat.reduceAdd,Pg.cs,aG,aq] at hH;refine qe hK ?_;have hH:=hH.er 2;refine qq<|qj fun K hK=>qp (o:=3) ?_;refine ql hH aS ?_;refine aa.bP (s:=2) hH rfl (ev rfl) (ev rfl) (by exact au) (by exact Arg.rows (by assumption) hH) rfl rfl rfl rfl rfl rfl rfl ⟨(Nat.le_of_ble_eq_true rfl),(Nat.le_of_ble_eq_true rfl)⟩ (fun _=>(ab rfl _)) (by simp only[List.length_nil,List.length_map]<;>omega) (by exact .inl hF) (fun Rr st hH=>?_);dsimp only[u2,u1,u3,u4,setMany,u5,u6,D.cells,Nat.reduceAdd,Pg.cs,aG,aq] at hH;refine qp (o:=3) ?_;refine qT hH aS (fun st hH=>?_) (iS:=hH.cm au);dsimp only[u2,u1,u3,u4,setMany,u5,u6,D.cells,Nat.reduceAdd,Pg.cs,aG,aq] at hH;refine qe hK<|qj fun K hK=>qp (o:=0) ?_;refine ql hH bf ?_;refine aa.bk (m:=4) hH rfl (ev rfl) (by exact aS) (by dsimp only[List.drop_succ_cons,List.drop_zero,List.take_succ_cons,List.take_zero,Pg.cs,aG,aq]<;>rfl) rfl rfl (ab rfl _) ?_;refine qh (s:=4) (vs:=[_]) hH fun k24 st aa0 hH=>?_;obtain⟨hH,TO⟩:=hH.zu (i:=1) (j:=3) (by decide) aS bf (eO _);dsimp only[u1,u2] at hH;refine aa.nv hH rfl rfl rfl bf (hH.rows au) (.cons (.cons (.plain _ rfl) (.cons (.plain _ rfl) (.cons (.plain _ rfl) (.cons TO .nil)))) .nil) rfl rfl rfl rfl rfl rfl rfl ⟨(Nat.le_of_ble_eq_true rfl),(Nat.le_of_ble_eq_true rfl)⟩ (fun _=>(ab rfl _)) (by show _+1≤_;omega) (.inl hF) (fun x25 st hH=>?_);dsimp only[u1,u2] at hH;refine qp (o:=0) ?_;refine aa.fN hH rfl (ev rfl) (ev rfl) (by exact hH.dN (by exact bf)) (by exact rfl) (by exact bm) (by exact Nat.le_of_ble_eq_true rfl) (by exact .inl hF) (fun st hH=>?_);dsimp only[u2,u1,u3,u4,setMany,u5,u6,D.cells,Nat.reduceAdd,Pg.cs,aG,aq] at hH;refine qe hK<|qj fun K hK=>qA ?_;refine qm ?_;refine qe hK ?_;exact⟨mm-1,by omega,⟨i+1,x25,_,rfl,(by rw[List.take_add_one,hq,Option.toList_some,List.map_append];exact hH.drop 3),by omega⟩⟩
 ·refine ag.exit<|qq<|qj fun K hK=>?_;refine aa.bk (m:=2) hH rfl (ev rfl) (by exact aS) (by dsimp only[List.drop_succ_cons,List.drop_zero,List.take_succ_cons,List.take_zero,Pg.cs,aG,aq]<;>rfl) rfl rfl (ab rfl _) ?_;refine qS hH bf fun st hH=>?_;dsimp only[u2,u1,u3,u4,setMany,u5,u6,D.cells,Nat.reduceAdd,Pg.cs,aG,aq] at hH;refine qe hK ?_;rw[List.take_of_length_le (by omega)] at hH;have h1:=hH.ni au (n:=14) (by decide);have h2:=hH.Az ba (oC _) (n:=15) (by decide)
  have h3:bw st s0.bs.length false 16 (.agg [y,x8])=some (.agg [.sl ((p.code.map rV).map (kH 4)),.sl ((p.az.map aq).map (kH 1))]):=by
   show(ir (bw st s0.bs.length false 15) [y,x8]).map D.agg=_;simp only[ir,h1,h2,Option.map_some]
  refine ag.ret ⟨rx,_,_,hH.pJ rfl bf rfl,rl cA hH h3,⟨_,p.code.map dV,Dx p.az,p.az⟩,rfl,⟨?_,wS _,?_,by simpa using hlen,SJ⟩,rfl,rfl⟩
  ·have h0:(p.code.map dV).map aG=p.code.map rV:=by rw[List.map_map];rfl
   show eH _ 4 ((p.code.map dV).map aG);rw[h0]
   have h4:∀e∈(p.code.map rV),e.length=4:=by
    intro e he;obtain⟨q,_,rfl⟩:=List.mem_map.1 he;rfl
   have:=eH.frozen (s:=4) (es:=p.code.map rV) h4 (by
    intro e he d hd;obtain⟨q,_,rfl⟩:=List.mem_map.1 he;simp only[rV,aG,dV,List.mem_cons,List.not_mem_nil,or_false] at hd
    rcases hd with rfl|rfl|rfl|rfl<;>rfl)
   exact this
  ·intro i hi;obtain⟨q,hq,rfl⟩:=List.mem_map.1 hi;exact El (hp.i q hq)
theorem sA.right {p q:Pg} (h:sA p q) (hR:bB p):bB q:=(x7 h.code h.az).2 hR
theorem Cm {N:Nat} {S s0:St} {H:List bC} {p:Pg} (hF:S.flr≤N) (hp:p.ok) (hR:bB p) (hH:Has N S s0 H):
  ∃r ah,Ev pv 52 [p.d] s0 r ah∧∃kv ks q,r=.tup [.ptr kv 0 0,.int .i64 0]∧sA p q∧MH [] N S ah ks kv q 0 .nul [] H:=by
 have hc:=hp.c.arg N S;have hcl:=hR.cl;obtain⟨_,QL,q,rfl,hq⟩:=C5 (s0:=s0) hp;have hown:∀st,∃d,Ev pv 102 [p.d] st d st∧∃q:Pg,d=q.d∧sA p q:=fun st=>C5 hp;unfold Pg.d at hown;unfold Pg.d;clear QL hq q;refine Ev.iC rfl Yl rfl rfl rfl ?_;dsimp only[u3,u4,List.length,Nat.reduceSub,Nat.reduceAdd,w1,w2];change ag _ _ _ _ s0 _;refine qq<|qj fun K hK=>qb hH fun k1 st pQ hH=>?_;dsimp only[u2,u1,u3,u4,setMany,u5,u6,D.cells,Nat.reduceAdd,Pg.cs,aG,aq] at hH;refine qm ?_;refine qm ?_;refine qe hK<|qq<|qq<|qj fun K hK=>?_;refine aa.bk (m:=2) hH rfl (ev rfl) (by exact au) (by dsimp only[List.drop_succ_cons,List.drop_zero,List.take_succ_cons,List.take_zero,Pg.cs,aG,aq]<;>rfl) rfl rfl (ab rfl _) ?_;refine qv (mi (p:=p) hp) ?_;refine qg ?_;refine qe hK<|qE rfl (by rw[nr hR];rfl) ?_;refine ag.skip<|qq<|qj fun K hK=>qp (o:=0) ?_;refine ql hH au ?_;refine qn ?_;simp only[List.length_map];obtain⟨_,st,aN,ks,rfl,pd,qd,P,Q,hH,bd⟩:=ta (n:=p.code.length) hF (by omega) hH;refine qv aN ?_;refine qm ?_;refine qg ?_;refine qg ?_;refine qm ?_;refine qm ?_;refine qe hK ?_;obtain⟨_,aN,q,rfl,hq⟩:=hown st;refine qq<|qj fun K hK=>?_;refine aa.bk (m:=2) hH rfl (ev rfl) (by exact bf) (by dsimp only[List.drop_succ_cons,List.drop_zero,List.take_succ_cons,List.take_zero,Pg.cs,aG,aq]<;>rfl) rfl rfl (ab rfl _) ?_;refine qv aN ?_;refine qm ?_;refine aa.go (d:=.agg [q.cd,q.sd,.int .i64 0,.nul,.ptr ks 0 0]) (st1:=_) rfl rfl rfl (ab rfl _) ?_;refine qb hH fun k20 st Xb hH=>?_;refine qm ?_;refine qm ?_;refine qm ?_;refine qe hK<|ag.ret ⟨rx,_,_,_,rfl,rfl,?_⟩;have hl:(List.replicate p.code.length false).length=q.code.length:=by rw[List.length_replicate,hq.code,List.length_map]
 exact⟨k20,ks,q,rfl,hq,pd,qd,P,Q,_,Has.mw [_] [_,_,_,_] ((hH.erase 4).er 12),bd,hl⟩
def fT (s:Nat):PL:=⟨false,aP,[⟨s,aP⟩]⟩
theorem EE (gz:∀st,Ev pv 59 [] st (.agg (aw aP)) st) {N ks kv:Nat} {S s0:St} {H:List bC} {p:Pg} (hF:S.flr≤N) (hp:p.ok) (hR:bB p) (hM:MH [] N S s0 ks kv p 0 .nul [] H):
  ∃d ah,Ev pv 53 [.ptr kv 0 0] s0 d ah∧d=.tup []∧∃ld L,L.map VL.pl=(aF p).map fT∧MH [] N S ah ks kv p 0 ld L H:=by
 have hs:=hp.s.arg N S;have SM:=hR.sl;obtain⟨pd,qd,P,Q,sn,hH,bd,eT⟩:=hM;dsimp only[u4] at hH;refine Ev.iC rfl Yk rfl rfl rfl ?_;dsimp only[u3,u4,List.length,Nat.reduceSub,Nat.reduceAdd,w1,w2];change ag _ _ _ _ s0 _;refine qq<|qj fun K hK=>qm ?_;refine qg ?_;refine qp (o:=0) ?_;refine qp (o:=1) ?_;refine ql hH au ?_;refine qn ?_;simp only[List.length_map];refine qm ?_;refine qe hK<|ag.block<|ag.loop (fun mm fr st=>∃(i:Nat) (ld:D) (L:List VL),fr.clean=⟨11,[.ptr kv 0 0,eR fr 1,eR fr 2,eR fr 3,eR fr 4,eR fr 5,eR fr 6,eR fr 7,p.sd,.int .i64 (p.az.length:Nat),.int .i64 (i:Nat)],[]⟩∧Has N S st (.box kv (.mem 0 false [p.cd,p.sd,.int .i64 ((0:Nat):Nat),ld,.ptr ks 0 0])::.box ks (.mem 0 false [pd,qd])::.aM pd 1 (P.map gb)::.aM qd 2 (Q.map na)::.aM ld 12 (L.map fG)::(L.map nR++H))∧(i+mm=p.az.length)∧(L.length=i)∧(L.map VL.pl=((aF p).take i).map fT)) (p.az.length) ?_ ?_
 ·exact⟨0,.nul,[],rfl,hH,by omega,rfl,rfl⟩
 rintro mm fr st ⟨i,ld,L,hfr,hH,hi,vy,ZW⟩;rw[hfr];clear hfr;generalize eR fr=ee;clear fr;refine qq<|qj fun K hK=>qg ?_;refine qe hK<|qq ?_;refine ag.cond (by rfl) (fun hlt=>?_) (fun hlt=>?_)<;>try simp only[decide_eq_true_eq,decide_eq_false_iff_not] at hlt
 ·refine ag.skip ?_;have hil:i<p.az.length:=by omega
  obtain⟨s,Wf⟩:∃s,p.az[i]?=some s:=⟨p.az[i]'(by omega),List.getElem?_eq_getElem _⟩
  obtain⟨pP,DF⟩:=hR.st s (List.mem_of_getElem? Wf);obtain⟨s1,rfl⟩:=Int.eq_ofNat_of_zero_le pP;have iv:=eX Wf;have dB:(aF p)[i]?=some s1:=by unfold aF;rw[List.getElem?_map,Wf];rfl
  refine qq<|ag.block<|qq<|qj fun K hK=>qr fun Zg Ta=>?_;refine qR ?_;refine qm ?_;refine qe hK<|qj fun K hK=>qm ?_;refine qm ?_;refine qg ?_;refine qp (o:=3) ?_;refine ql hH au ?_;refine qv (gz _) ?_;refine qm ?_;refine qv (gz _) ?_;refine aa.go (d:=.agg (br ⟨s1,aP⟩)) (st1:=_) rfl rfl rfl (ab rfl _) ?_;refine qh (s:=11) (vs:=[_]) hH fun k23 st Tw hH=>?_;dsimp only[u2,u1,u3,u4,setMany,u5,u6,D.cells,Nat.reduceAdd,aG,br,bL,aw,fG,aq] at hH;refine aa.go (d:=.agg (bL false aP (.win k23 0 0 1 11))) (st1:=_) rfl rfl rfl (ab rfl _) ?_;refine qh (s:=12) (vs:=[_]) hH fun k25 st aaZ hH=>?_;dsimp only[u2,u1,u3,u4,setMany,u5,u6,D.cells,Nat.reduceAdd,aG,br,bL,aw,fG,aq] at hH;refine aa.bP (s:=12) hH rfl (ev rfl) (ev rfl) (by exact bU) (by exact hH.rows (by exact au)) rfl rfl rfl rfl rfl rfl rfl ⟨(Nat.le_of_ble_eq_true rfl),(Nat.le_of_ble_eq_true rfl)⟩ (fun _=>(ab rfl _)) (by simp only[List.length_cons,List.length_nil,List.length_map]<;>omega) (by exact .inl hF) (fun x26 st hH=>?_);dsimp only[u2,u1,u3,u4,setMany,u5,u6,D.cells,Nat.reduceAdd,aG,br,bL,aw,fG,aq] at hH;refine qg ?_;refine qp (o:=3) ?_;refine qT hH ba (fun st hH=>?_) (iS:=hH.cm bU);dsimp only[u2,u1,u3,u4,setMany,u5,u6,D.cells,Nat.reduceAdd,aG,br,bL,aw,fG,aq] at hH;refine qe hK<|qj fun K hK=>qA ?_;refine qm ?_;refine qe hK ?_;have hH:=hH.drop 1;have hH:=Has.mw [_] (_::_::_::_::_::L.map nR) hH;refine⟨mm-1,by omega,⟨i+1,x26,L++[⟨false,aP,.win k23 0 0 1 11,[⟨s1,aP⟩]⟩],rfl,?_,by omega,by simp;omega,?_⟩⟩
  ·rw[List.map_append,List.map_append,List.append_assoc];exact hH
  ·rw[List.map_append,ZW,List.take_add_one,dB,Option.toList_some,List.map_append];rfl
 ·refine ag.exit ?_;refine⟨fun i h=>(by cases h),_,_,_,rfl,rfl,?_⟩;refine⟨rfl,ld,L,?_,pd,qd,P,Q,sn,hH,bd,eT⟩;rw[ZW,List.take_of_length_le];unfold aF;rw[List.length_map];omega
theorem th {p:Pg} (hR:bB p):∀l∈(aF p).map fT,l.ok p.code.length:=by
 intro l hl;obtain⟨s,hs,rfl⟩:=List.mem_map.1 hl;obtain⟨v,hv,rfl⟩:=List.mem_map.1 hs;have:=hR.st v hv;refine⟨fun t ht=>?_,by simp[fT]⟩;simp only[fT,List.mem_cons,List.not_mem_nil,or_false] at ht;subst ht;show v.toNat<_;omega
theorem Fb (gz:∀st,Ev pv 59 [] st (.agg (aw aP)) st) {N:Nat} {S s0:St} {H:List bC} {p:Pg} (hF:S.flr≤N) (hp:p.ok) (hR:bB p) (hH:Has N S s0 H):
  ∃r ah,Ev pv 11 [p.d] s0 r ah∧∃kv ks q ld L,r=.tup [.ptr kv 0 0,.int .i64 0]∧sA p q∧L.map VL.pl=(aF p).map fT∧MH [] N S ah ks kv q 0 ld L H:=by
 have Mo:∀st H,Has N S st H→∃r ah,Ev pv 52 [p.d] st r ah∧∃kv ks q,r=.tup [.ptr kv 0 0,.int .i64 0]∧sA p q∧MH [] N S ah ks kv q 0 .nul [] H:=fun st H h=>Cm hF hp hR h;unfold Pg.d at*;refine Ev.iC rfl YA rfl rfl rfl ?_;dsimp only[u3,u4,List.length,Nat.reduceSub,Nat.reduceAdd,w1,w2];change ag _ _ _ _ s0 _;refine qq<|qj fun K hK=>qb hH fun k1 st pQ hH=>?_;dsimp only[u2,u1,u3,u4,setMany,u5,u6,D.cells,Nat.reduceAdd,Pg.cs,aG,aq] at hH;refine qm ?_;refine qm ?_;refine qe hK<|qq<|qj fun K hK=>?_;refine aa.bk (m:=2) hH rfl (ev rfl) (by exact au) (by dsimp only[List.drop_succ_cons,List.drop_zero,List.take_succ_cons,List.take_zero,Pg.cs,aG,aq]<;>rfl) rfl rfl (ab rfl _) ?_;obtain⟨_,st,aN,kv,ks,q,rfl,hq,hM⟩:=Mo _ _ hH;refine qv aN ?_;refine qm ?_;refine qg ?_;refine qg ?_;refine qm ?_;refine qm ?_;refine qe hK<|qq<|qq<|qj fun K hK=>qm ?_;refine qg ?_;refine qe hK<|ag.cond (v:=false) (by dsimp only[Fr.ev,Fr.get,nth,V.look];rfl) (fun h=>by cases h) (fun _=>?_);refine ag.skip ?_;obtain⟨_,st1,aN,rfl,ld,L,hL,hM⟩:=EE gz hF hq.ok (hq.right hR) hM;refine qq<|qj fun K hK=>qm ?_;refine qv aN ?_;refine qe hK<|qq<|qj fun K hK=>qm ?_;refine qm ?_;refine qm ?_;refine qe hK<|ag.ret ⟨rx,_,_,_,rfl,rfl,?_⟩;have hsq:aF q=aF p:=by unfold aF;rw[hq.az]
 obtain⟨pd,qd,P,Q,sn,hH,bd,eT⟩:=hM;refine⟨kv,ks,q,ld,L,rfl,hq,by rw[←hsq];exact hL,pd,qd,P,Q,sn,?_,bd,eT⟩;have hH:=Has.mw (_::_::_::_::_::L.map nR) [_] (H:=H) hH;exact hH.drop 1
def ou (fr:Go.V.Fr) (k:Nat):Go.V.D:=Go.V.nth .bD fr.loc k
def thD (l:List gW):D:=.sl ((l.map br).map (kH 11))
def nM (l:PL):List D:=bL l.dn l.a_ (thD l.eL)
def ot (L:List PL):D:=.sl ((L.map nM).map (kH 12))
def Mf (pl:Nat) (L:List PL):D:=.agg [.int .i64 (pl:Nat),ot L]
theorem AV (l:List gW):∀e∈l.map br,∀d∈e,cy d=true:=by
 intro e he d hd;obtain⟨q,_,rfl⟩:=List.mem_map.1 he;simp only[br,List.mem_cons,List.not_mem_nil,or_false] at hd
 rcases hd with rfl|rfl|rfl|rfl|rfl|rfl|rfl|rfl|rfl|rfl|rfl<;>rfl
theorem PT (L:List PL):∀e∈L.map nM,e.length=12:=by
 intro e he;obtain⟨q,_,rfl⟩:=List.mem_map.1 he;rfl
theorem CY (L:List PL):∀e∈L.map nM,∀d∈e,cy d=true:=by
 intro e he d hd;obtain⟨q,_,rfl⟩:=List.mem_map.1 he;simp only[nM,bL,List.mem_cons,List.not_mem_nil,or_false] at hd
 rcases hd with rfl|rfl|rfl|rfl|rfl|rfl|rfl|rfl|rfl|rfl|rfl|rfl<;>rfl
theorem Dr (L:List PL):eH (ot L) 12 (L.map nM):=eH.frozen (PT L) (CY L)
theorem PU {L:List PL} {i:Nat} {l:PL} (h:L[i]?=some l):(L.map nM)[i]?=some (nM l):=by rw[List.getElem?_map,h];rfl
theorem Eh {st:St} {ks:Nat→Prop} {dn:Bool} {f:l6} {x y:D} (h:fg st ks x y):cS (fg st ks) (bL dn f x) (bL dn f y):=
 .cons (.plain _ rfl) (.cons (.plain _ rfl) (.cons (.plain _ rfl) (.cons (.plain _ rfl) (.cons (.plain _ rfl) (.cons (.plain _ rfl) (.cons (.plain _ rfl) (.cons (.plain _ rfl) (.cons (.plain _ rfl) (.cons (.plain _ rfl) (.cons (.plain _ rfl) (.cons h .nil)))))))))))
theorem BW {N:Nat} {S s0:St} {H:List bC} {x:D} {L:List VL} (hF:S.flr≤N) (vy:L.length≤1000) (hx:Arg N S 12 x (L.map fG)) (ht:∀l∈L,Arg N S 11 l.td (l.eL.map br)∧l.eL.length≤1000) (hH:Has N S s0 H):
  ∃d ah,Ev pv 57 [x] s0 d ah∧∃ks,Has N S ah (.deep ks d 12 ((L.map VL.pl).map nM)::H):=by
 refine Ev.iC rfl Uc rfl rfl rfl ?_;dsimp only[u3,u4,List.length,Nat.reduceSub,Nat.reduceAdd,w1,w2];change ag _ _ _ _ s0 _;refine qq<|qj fun K hK=>qm ?_;refine qe hK<|qq<|qj fun K hK=>qm ?_;refine qe hK<|qq<|qq<|qj fun K hK=>qm ?_;refine qn ?_;simp only[List.length_map];refine qm ?_;refine qe hK<|ag.block<|ag.loop (fun mm fr st=>∃(i:Nat) (y:D) (ks:Nat→Prop),fr.clean=⟨9,[ou fr 0,ou fr 1,ou fr 2,y,ou fr 4,ou fr 5,x,.int .i64 (L.length:Nat),.int .i64 (i:Nat)],[]⟩∧Has N S st (.deep ks y 12 (((L.map VL.pl).take i).map nM)::H)∧(i+mm=L.length)) (L.length) ?_ ?_
 ·exact⟨0,.nul,_,rfl,(hH.P4 12),by omega⟩
 rintro mm fr st ⟨i,y,ks,hfr,hH,hi⟩;rw[hfr];clear hfr;generalize ou fr=ee;clear fr;refine qq<|qj fun K hK=>qg ?_;refine qe hK<|qq ?_;refine ag.cond (by rfl) (fun hlt=>?_) (fun hlt=>?_)<;>try simp only[decide_eq_true_eq,decide_eq_false_iff_not] at hlt
 ·refine ag.skip ?_;have hil:i<L.length:=by omega
  obtain⟨l,hl⟩:∃l,L[i]?=some l:=⟨L[i]'hil,List.getElem?_eq_getElem _⟩
  obtain⟨V',sD⟩:=ht l (List.mem_of_getElem? hl);have iv:=ue hl;have hlp:(L.map VL.pl)[i]?=some l.pl:=by rw[List.getElem?_map,hl];rfl
  have aae:(((L.map VL.pl).take i).map nM).length≤1048576:=by rw[List.length_map,List.length_take,List.length_map];omega
  refine qq<|ag.block<|qq<|qj fun K hK=>qr fun Sd DK=>?_;refine aa.dJ rfl (ev rfl) (by assumption) rfl (ab rfl _) ?_;refine qa hH fun k5 st E6 hH=>?_;refine qS hH au fun st hH=>?_;dsimp only[u2,u1,u3,u4,setMany,u5,u6,D.cells,Nat.reduceAdd,aG,br,bL,aw,fG,nM] at hH;refine qe hK ?_;have hH:=hH.er 11;refine qq<|qj fun K hK=>qp (o:=11) ?_;refine ql hH aS ?_;refine aa.bP (s:=11) hH rfl (ev rfl) (ev rfl) (by exact au) (by exact Arg.rows (by assumption) hH) rfl rfl rfl rfl rfl rfl rfl ⟨(Nat.le_of_ble_eq_true rfl),(Nat.le_of_ble_eq_true rfl)⟩ (fun _=>(ab rfl _)) (by simp only[List.length_nil,List.length_map]<;>omega) (by exact .inl hF) (fun YT st hH=>?_);dsimp only[u2,u1,u3,u4,setMany,u5,u6,D.cells,Nat.reduceAdd,aG,br,bL,aw,fG,nM] at hH;refine qp (o:=11) ?_;refine qT hH aS (fun st hH=>?_) (iS:=hH.cm au);dsimp only[u2,u1,u3,u4,setMany,u5,u6,D.cells,Nat.reduceAdd,aG,br,bL,aw,fG,nM] at hH;refine qe hK<|qj fun K hK=>qm ?_;refine aa.bk (m:=12) hH rfl (ev rfl) (by exact aS) (by dsimp only[List.drop_succ_cons,List.drop_zero,List.take_succ_cons,List.take_zero,aG,br,bL,aw,fG,nM]<;>rfl) rfl rfl (ab rfl _) ?_;refine qh (s:=12) (vs:=[_]) hH fun k18 st Xc hH=>?_;obtain⟨hH,TO⟩:=hH.zu (i:=1) (j:=3) (by decide) aS bf (AV _);dsimp only[u1,u2] at hH;refine aa.nv hH rfl rfl rfl bf (hH.rows au) (.cons (Eh (dn:=l.dn) (f:=l.a_) TO) .nil) rfl rfl rfl rfl rfl rfl rfl ⟨(Nat.le_of_ble_eq_true rfl),(Nat.le_of_ble_eq_true rfl)⟩ (fun _=>(ab rfl _)) (by show _+1≤_;omega) (.inl hF) (fun Rr st hH=>?_);dsimp only[u1,u2] at hH;refine qm ?_;refine qe hK<|qj fun K hK=>qA ?_;refine qm ?_;refine qe hK ?_;exact⟨mm-1,by omega,⟨i+1,Rr,_,rfl,(by rw[List.take_add_one,hlp,Option.toList_some,List.map_append];exact hH.drop 3),by omega⟩⟩
 ·refine ag.exit ?_;have hil:i=L.length:=by omega
  refine qq<|qj fun K hK=>qm ?_;refine qm ?_;refine qe hK<|ag.ret ⟨rx,_,_,_,rfl,rfl,?_⟩;rw[List.take_of_length_le (by simp;omega)] at hH;exact⟨_,hH⟩
structure AM (N:Nat) (S:St) (kv ks:Nat) (p:Pg) (pl:Nat) (ld:D) (L:List VL):Prop where
 lt:kv<N
 le:N≤S.bs.length
 at_:S.bs[kv]?=some (.mem 0 false [p.cd,p.sd,.int .i64 (pl:Nat),ld,.ptr ks 0 0])
 ld:Arg N S 12 ld (L.map fG)
 td:∀l∈L,Arg N S 11 l.td (l.eL.map br)
 ksl:ks<N
theorem AM.box {N:Nat} {S st:St} {H:List bC} {kv ks:Nat} {p:Pg} {pl:Nat} {ld:D} {L:List VL} (h:AM N S kv ks p pl ld L) (hH:Has N S st H):st.bs[kv]?=some (.mem 0 false [p.cd,p.sd,.int .i64 (pl:Nat),ld,.ptr ks 0 0]):=by
 rw[hH.ex.low kv h.lt];exact h.at_
theorem AM.refs {N:Nat} {S st:St} {H:List bC} {kv ks:Nat} {p:Pg} {pl:Nat} {ld:D} {L:List VL} (h:AM N S kv ks p pl ld L) (hp:p.ok) (hH:Has N S st H):V.refs [p.cd,p.sd,.int .i64 (pl:Nat),ld,.ptr ks 0 0]≤st.bs.length:=by
 have h1:=hp.c.ref;have h2:=hp.s.ref;have h3:=h.ld.2;have h4:=h.ksl;have h5:=h.le;have h6:=hH.ex.len;simp only[V.refs,D.ref,h1,h2];omega
theorem AM.to {N:Nat} {S st:St} {H:List bC} {kv ks:Nat} {p:Pg} {pl:Nat} {ld:D} {L:List VL} (h:AM N S kv ks p pl ld L) (hH:Has N S st H) (o:Nat):jD st (.ptr kv 0 o) ([p.cd,p.sd,.int .i64 (pl:Nat),ld,.ptr ks 0 0].drop o):=
 .inl ⟨kv,0,o,false,_,rfl,St.mem_of (by rw[hH.ex.low kv h.lt];exact h.at_),List.take_length ..⟩
theorem xJ {kv ks:Nat} {s0:St} {p:Pg} {pl:Nat} {ld:D} {L:List VL} (hp:p.ok) (vy:L.length≤1000) (bd:∀l∈L,l.eL.length≤1000) (hA:AM s0.bs.length s0 kv ks p pl ld L) (et:s0.ro≤s0.bs.length):
  ∃d ah,Ev pv 15 [.ptr kv 0 0] s0 d ah∧d=Mf pl (L.map VL.pl)∧ah=s0:=by
 have W5:=hA.at_;have gq:=hA.lt;have sN:=hA.ld.1;have htd:∀(i:Nat) (l:VL),L[i]?=some l→V.Rows s0 11 l.td (l.eL.map br):=fun i l hl=>(hA.td l (List.mem_of_getElem? hl)).1;have Ll:=hA.refs hp (Has.start (Nat.le_refl _) et);refine Ev.iC rfl Yy rfl rfl rfl ?_;dsimp only[u3,u4,List.length,Nat.reduceSub,Nat.reduceAdd,w1,w2];have cA:(ai .rw s0).bs=s0.bs:=rfl;have hF:(ai .rw s0).flr≤s0.bs.length:=Nat.le_refl _;have hH:Has s0.bs.length (ai .rw s0) (ai .rw s0) []:=Has.start (Nat.le_refl _) et;generalize ai .rw s0=S2 at*;have hx:=Arg.of sN cA;refine qq<|qj fun K hK=>qa hH fun k2 st hk2 hH=>qe hK ?_;have Lx:st.bs[kv]?=some (.mem 0 false [p.cd,p.sd,.int .i64 (pl:Nat),ld,.ptr ks 0 0]):=by rw[hH.ex.low kv gq,cA];exact W5
 have Ce:jD st (.ptr kv 0 2) [.int .i64 (pl:Nat)]:=.inl ⟨kv,0,2,false,_,rfl,St.mem_of Lx,rfl⟩;have Ls:jD st (.ptr kv 0 3) [ld]:=.inl ⟨kv,0,3,false,_,rfl,St.mem_of Lx,rfl⟩;have hlen:=hH.ex.len;rw[cA] at hlen;change ag _ _ _ _ _ _;refine qq ?_;generalize hK:aT _ _ _ _=K;refine ag.wb rfl<|cN.cons<|qm<|aa.nil ⟨rfl,?_⟩;refine cN.cons<|qg<|aa.nil ⟨rfl,?_⟩;refine cN.cons<|qp (o:=2)<|aa.nil ⟨rfl,?_⟩;refine cN.cons<|qR<|aa.nil ⟨rfl,?_⟩;refine cN.cons<|qm<|aa.nil ⟨rfl,?_⟩;refine cN.cons<|qg<|aa.nil ⟨rfl,?_⟩;refine cN.cons<|qp (o:=3)<|aa.nil ⟨rfl,?_⟩;refine cN.cons<|qR<|aa.nil ⟨rfl,?_⟩;refine cN.cons ?_;obtain⟨yd,st,aN,ks1,hH⟩:=BW hF vy hx (fun l hl=>⟨by obtain⟨i,hi⟩:=List.getElem?_of_mem hl;exact Arg.of (htd i l hi) cA,bd l hl⟩) hH;refine qv aN<|aa.nil ⟨by exact Bool.and_eq_true_iff.2 ⟨iF rfl rfl rfl Lx (by rw[hH.ex.low kv gq,cA];exact W5) Lx (by omega),rfl⟩,?_⟩;refine cN.cons ?_;refine aa.gu (qs:=[(0,_),(1,_)]) rfl rfl rfl rfl ⟨rfl,(ev rfl),(by rfl),rfl,(ev rfl),(by exact hH.dN (by exact au)),trivial⟩ (by intro q hq;simp only[List.mem_cons,List.not_mem_nil,or_false] at hq;rcases hq with rfl|rfl<;>exact⟨rfl,by exact Nat.le_of_ble_eq_true rfl⟩) (by show List.foldl _ [_,_] _=_;dsimp only[List.foldl_cons,List.foldl_nil,u2,u1]<;>rfl) (ab rfl _) ?_;refine aa.nil ⟨rfl,?_⟩;refine cN.cons<|qS hH aS fun st hH=>?_;dsimp only[u2,u1,u3,u4,setMany,u5,u6,D.cells,Nat.reduceAdd,aG,br,bL,aw,fG,nM] at hH;refine aa.nil ⟨rfl,?_⟩;refine cN.nil ?_;subst hK;have h1:=hH.ni au (n:=14) (by decide)
 have h3:bw st s0.bs.length false 16 (.agg [.int .i64 (pl:Nat),yd])=some (Mf pl (L.map VL.pl)):=by
  show(ir (bw st s0.bs.length false 15) [.int .i64 (pl:Nat),yd]).map D.agg=_;simp only[ir,h1]
  rfl
 refine ag.ret ⟨rx,_,_,_,hH.pJ rfl aS rfl,ak h3,rfl,?_⟩
 have XG:st.bs.take s0.bs.length=s0.bs:=by
  refine List.ext_getElem? fun j=>?_;rw[List.getElem?_take]
  by_cases hj:j<s0.bs.length
  ·rw[if_pos hj,hH.ex.low j hj,cA]
  ·rw[if_neg hj,List.getElem?_eq_none (by omega)]
 rw[XG]
theorem MH.am {N ks kv:Nat} {S s0:St} {H:List bC} {p:Pg} {pl:Nat} {ld:D} {L:List VL} (hM:MH [] N S s0 ks kv p pl ld L H):AM s0.bs.length s0 kv ks p pl ld L:=by
 obtain⟨pd,qd,P,Q,sn,hH,hY,eT⟩:=hM;dsimp only[u4] at hH
 exact⟨(hH.ge au).2,Nat.le_refl _,hH.at au,⟨hH.rows bm,rp hH bm⟩,fun l hl=>(by
  obtain⟨i,hi⟩:=List.getElem?_of_mem hl;have h:=Co (H:=H) [.box kv (.mem 0 false [p.cd,p.sd,.int .i64 (pl:Nat),ld,.ptr ks 0 0]),.box ks (.mem 0 false [pd,qd]),.aM pd 1 (P.map gb),.aM qd 2 (Q.map na),.aM ld 12 (L.map fG)] rfl hi
  exact⟨hH.rows h,rp hH h⟩),hH.tC aS rfl⟩
theorem MH.ro {N ks kv:Nat} {S s0:St} {H:List bC} {p:Pg} {pl:Nat} {ld:D} {L:List VL} (hM:MH [] N S s0 ks kv p pl ld L H):s0.ro≤s0.bs.length:=by
 obtain⟨pd,qd,P,Q,sn,hH,hY,eT⟩:=hM;rw[hH.ex.ro];exact Nat.le_trans hH.et (Nat.le_trans hH.hN hH.ex.len)
open Go.V Go Go.RowKit
theorem pY (code:List aJ) (pl:Nat) (e:Bool):∀(f:Nat) (w:Wk) (t:gW),ck (code.map dV) pl e f w t=ck code pl e f w t
 |0,_,_=>rfl
 |f+1,w,t=>by
  unfold ck;simp only[pY code pl e f,List.getElem?_map]
  cases code[t.pc]? with
  |none=>rfl
  |some i=>rfl
theorem rP (code:List aJ) (pl:Nat) (e:Bool):∀(l:List gW) (w:Wk),nN (code.map dV) pl e l w=nN code pl e l w
 |[],_=>rfl
 |t::ts,w=>by
  unfold nN;simp only[pY,List.length_map,rP code pl e ts]
theorem A5 (code:List aJ) (k:Nat):qN (code.map dV) k=qN code k:=by
 unfold qN;rw[List.getElem?_map];cases code[k]?<;>rfl
theorem rm (code:List aJ) (r:Int):∀(l a:List gW),eQ (code.map dV) r l a=eQ code r l a
 |[],_=>rfl
 |t::ts,a=>by unfold eQ;simp only[A5,rm code r ts]
theorem xV (code:List aJ) (pl s:Nat) (r:Int) (l:PL):fS (code.map dV) pl s r l=fS code pl s r l:=by
 unfold fS;simp only[rP,rm,List.length_map]
theorem oV (code:List aJ) (pl:Nat) (r:Int):∀(ss:List Nat) (ls:List PL),gB (code.map dV) pl r ss ls=gB code pl r ss ls
 |[],_=>rfl
 |_::_,[]=>rfl
 |s::ss,l::ls=>by simp only[gB,xV,oV code pl r ss ls]
theorem BQ (code:List aJ) (pl:Nat):kB (code.map dV) pl=kB code pl:=by
 funext l;unfold kB;simp only[rP,List.length_map]
theorem sA.aF {p q:Pg} (h:sA p q):aF q=aF p:=by unfold Go.Proofs.YtbdnabmmlbiomaaGreat.aF;rw[h.az]
theorem nV {p:Pg} (hR:bB p) {pl:Nat} {r:Int}:∀{ss:List Nat} {ls:List PL},(∀s∈ss,s<p.code.length)→∀l∈gB p.code pl r ss ls,l.ok p.code.length
 |[],_,_,l,hl=>by cases hl
 |_::_,[],_,l,hl=>by cases hl
 |s::ss,x::ls,hs,l,hl=>by
  simp only[gB,List.mem_cons] at hl
  rcases hl with rfl|hl
  ·exact Cy hR (hs s (List.mem_cons_self ..))
  ·exact nV hR (fun s h=>hs s (List.mem_cons_of_mem _ h)) l hl
theorem qk {p:Pg} (hR:bB p):∀s∈aF p,s<p.code.length:=by
 intro s hs;obtain⟨v,hv,rfl⟩:=List.mem_map.1 hs;have:=hR.st v hv;omega
theorem Re {x y:Oper} {fi fj:Fr} {si pG sj ET:St} {a:Operand} {k aD off v:Nat} {ar:Bool} {c:List D} (hy:gQ y.op=some a) (ha:fj.ev a=.ptr k aD off) (h1:si.bs[k]?=some (.mem v ar c)) (h2:pG.bs[k]?=some (.mem v ar c)):iN x fi si pG y fj sj ET=true:=by
 unfold iN;simp only[hy,ha,D.mI];exact nT h1 h2
end Go.Proofs.YtbdnabmmlbiomaaGreat
