/-
 Ranges of runes: the canonical form, by plain lists. No program in sight.
-/
import Derived.Test.YtbdnabmmlbiomaaXPx
import Derived.Test.YtbdnabmmlbiomaaXM2
import Derived.KernelRfl
set_option linter.unusedSimpArgs false
set_option linter.unusedVariables false
set_option maxRecDepth 100000
set_option maxHeartbeats 4000000
namespace Go.V
abbrev Rg:=Int×Int
def d_ (l:List Rg) (r:Int):Prop:=∃x,x∈l∧x.1≤r∧r≤x.2
theorem ew (r:Int):¬d_ [] r:=by rintro⟨x,h,_⟩;cases h
theorem bC {x:Rg} {l:List Rg} {r:Int}:d_ (x::l) r↔(x.1≤r∧r≤x.2)∨d_ l r:=by
 constructor
 ·rintro⟨y,hy,h⟩
  rcases List.mem_cons.1 hy with rfl|hy
  ·exact .inl h
  ·exact .inr ⟨y,hy,h⟩
 ·rintro(h|⟨y,hy,h⟩)
  ·exact⟨x,List.mem_cons_self ..,h⟩
  ·exact⟨y,List.mem_cons_of_mem _ hy,h⟩
theorem rU {a b:List Rg} {r:Int}:d_ (a++b) r↔d_ a r∨d_ b r:=by
 constructor
 ·rintro⟨y,hy,h⟩
  rcases List.mem_append.1 hy with hy|hy
  ·exact .inl ⟨y,hy,h⟩
  ·exact .inr ⟨y,hy,h⟩
 ·rintro(⟨y,hy,h⟩|⟨y,hy,h⟩)
  ·exact⟨y,List.mem_append_left _ hy,h⟩
  ·exact⟨y,List.mem_append_right _ hy,h⟩
theorem oE {a b:List Rg} (h:∀x,x∈a↔x∈b) (r:Int):d_ a r↔d_ b r:=by
 constructor
 ·rintro⟨y,hy,hh⟩;exact⟨y,(h y).1 hy,hh⟩
 ·rintro⟨y,hy,hh⟩;exact⟨y,(h y).2 hy,hh⟩
def canon (l:List Rg):Prop:=(∀x∈l,x.1≤x.2)∧l.Pairwise fun x y=>x.2+1<y.1
theorem ib {x:Rg} {l:List Rg} (h:canon (x::l)):canon l∧x.1≤x.2∧∀r,d_ l r→x.2+1<r:=by
 obtain⟨h1,h2⟩:=h;rw[List.pairwise_cons] at h2;refine⟨⟨fun y hy=>h1 y (List.mem_cons_of_mem _ hy),h2.2⟩,h1 x (List.mem_cons_self ..),?_⟩;rintro r ⟨y,hy,h3,h4⟩;have:=h2.1 y hy;omega
theorem kF:∀{a b:List Rg},canon a→canon b→(∀r,d_ a r↔d_ b r)→a=b
 |[],[],_,_,_=>rfl
 |[],y::b,_,hb,h=>by
  obtain⟨_,h1,_⟩:=ib hb;exact absurd ((h y.1).2 (bC.2 (.inl ⟨Int.le_refl _,h1⟩))) (ew _)
 |x::a,[],ha,_,h=>by
  obtain⟨_,h1,_⟩:=ib ha;exact absurd ((h x.1).1 (bC.2 (.inl ⟨Int.le_refl _,h1⟩))) (ew _)
 |x::a,y::b,ha,hb,h=>by
  obtain⟨ca,xa,fa⟩:=ib ha;obtain⟨cb,yb,fb⟩:=ib hb
  have low:∀{x y:Rg} {a b:List Rg},x.1≤x.2→(∀r,d_ b r→y.2+1<r)→y.1≤y.2→(∀r,d_ (x::a) r→d_ (y::b) r)→y.1≤x.1:=by
   intro x y a b hx hf hy hh
   rcases bC.1 (hh x.1 (bC.2 (.inl ⟨Int.le_refl _,hx⟩))) with h|h
   ·exact h.1
   ·have:=hf _ h;omega
  have e1:x.1=y.1:=Int.le_antisymm (low yb fa xa fun r=>(h r).2) (low xa fb yb fun r=>(h r).1)
  have up:∀{x y:Rg} {a b:List Rg},x.1≤x.2→x.1=y.1→(∀r,d_ a r→x.2+1<r)→(∀r,d_ (y::b) r→d_ (x::a) r)→y.2≤x.2:=by
   intro x y a b hx he hf hh
   rcases Int.lt_or_le x.2 y.2 with h'|h'
   ·rcases bC.1 (hh (x.2+1) (bC.2 (.inl ⟨by omega,by omega⟩))) with h|h
    ·omega
    ·have:=hf _ h;omega
   ·exact h'
  have e2:x.2=y.2:=Int.le_antisymm (up yb e1.symm fb fun r=>(h r).1) (up xa e1 fa fun r=>(h r).2);have e:x=y:=Prod.ext e1 e2;subst e
  congr 1
  refine kF ca cb fun r=>⟨fun hr=>?_,fun hr=>?_⟩
  ·have:=fa r hr
   rcases bC.1 ((h r).1 (bC.2 (.inr hr))) with h|h
   ·omega
   ·exact h
  ·have:=fb r hr
   rcases bC.1 ((h r).2 (bC.2 (.inr hr))) with h|h
   ·omega
   ·exact h
def cP (acc:List Rg) (r:Rg):List Rg:=
 match acc with
 |[]=>[r]
 |k::rest=>if r.1≤k.2+1 then(k.1,max k.2 r.2)::rest else r::k::rest
theorem ki:∀(l acc:List Rg),(∀x∈l,x.1≤x.2)→l.Pairwise (fun x y=>x.1≤y.1)→(∀k∈acc.head?,∀x∈l,k.1≤x.1)→(∀x∈acc,x.1≤x.2)→acc.Pairwise (fun x y=>y.2+1<x.1)→
  (∀x∈l.foldl cP acc,x.1≤x.2)∧(l.foldl cP acc).Pairwise (fun x y=>y.2+1<x.1)∧∀r,d_ (l.foldl cP acc) r↔d_ acc r∨d_ l r
 |[],acc,_,_,_,h1,h2=>⟨h1,h2,fun r=>⟨.inl,fun h=>h.resolve_right (ew r)⟩⟩
 |x::l,acc,hl,hp,hk,h1,h2=>by
  rw[List.pairwise_cons] at hp;have hx:=hl x (List.mem_cons_self ..);have gf:∀y∈l,y.1≤y.2:=fun y hy=>hl y (List.mem_cons_of_mem _ hy);rw[List.foldl_cons]
  cases acc with
  |nil=>
   obtain⟨g1,g2,g3⟩:=ki l [x] gf hp.2 (fun k h_ y hy=>by simp at h_;subst h_;exact hp.1 y hy) (fun y hy=>by simp at hy;subst hy;exact hx) (by simp);refine⟨g1,g2,fun r=>(g3 r).trans ?_⟩;rw[bC (l:=l),bC (l:=[])];constructor
   ·rintro((h|h)|h)
    ·exact .inr (.inl h)
    ·exact absurd h (ew r)
    ·exact .inr (.inr h)
   ·rintro(h|h|h)
    ·exact absurd h (ew r)
    ·exact .inl (.inl h)
    ·exact .inr h
  |cons k rest=>
   have Tj:=hk k rfl x (List.mem_cons_self ..);have hkk:=h1 k (List.mem_cons_self ..);rw[List.pairwise_cons] at h2;unfold cP
   by_cases hc:x.1≤k.2+1
   ·simp only[if_pos hc]
    obtain⟨g1,g2,g3⟩:=ki l ((k.1,max k.2 x.2)::rest) gf hp.2 (fun q hq y hy=>by simp at hq;subst hq;have:=hp.1 y hy;simp only;omega) (fun y hy=>by
     rcases List.mem_cons.1 hy with rfl|hy
     ·simp only;omega
     ·exact h1 y (List.mem_cons_of_mem _ hy)) (by rw[List.pairwise_cons];exact⟨h2.1,h2.2⟩)
    refine⟨g1,g2,fun r=>(g3 r).trans ?_⟩;rw[bC (l:=rest),bC (l:=rest),bC (l:=l)];constructor
    ·rintro((h|h)|h)
     ·simp only at h
      by_cases hr:r≤k.2
      ·exact .inl (.inl ⟨h.1,hr⟩)
      ·exact .inr (.inl ⟨by omega,by omega⟩)
     ·exact .inl (.inr h)
     ·exact .inr (.inr h)
    ·rintro((h|h)|h|h)
     ·exact .inl (.inl ⟨h.1,by simp only;omega⟩)
     ·exact .inl (.inr h)
     ·exact .inl (.inl ⟨by simp only;omega,by simp only;omega⟩)
     ·exact .inr h
   ·simp only[if_neg hc]
    obtain⟨g1,g2,g3⟩:=ki l (x::k::rest) gf hp.2 (fun q hq y hy=>by simp at hq;subst hq;exact hp.1 y hy) (fun y hy=>by
     rcases List.mem_cons.1 hy with rfl|hy
     ·exact hx
     ·exact h1 y hy) (by
     rw[List.pairwise_cons];refine⟨fun y hy=>?_,by rw[List.pairwise_cons];exact h2⟩
     rcases List.mem_cons.1 hy with rfl|hy
     ·omega
     ·have:=h2.1 y hy;omega)
    refine⟨g1,g2,fun r=>(g3 r).trans ?_⟩;rw[bC (l:=k::rest),bC (l:=l)];constructor
    ·rintro((h|h)|h)
     ·exact .inr (.inl h)
     ·exact .inl h
     ·exact .inr (.inr h)
    ·rintro(h|h|h)
     ·exact .inl (.inr h)
     ·exact .inl (.inl h)
     ·exact .inr h
theorem tO {l:List Rg} (h1:∀x∈l,x.1≤x.2) (h2:l.Pairwise fun x y=>x.1≤y.1):canon (l.foldl cP []).reverse∧∀r,d_ (l.foldl cP []).reverse r↔d_ l r:=by
 obtain⟨g1,g2,g3⟩:=ki l [] h1 h2 (fun k hk=>by simp at hk) (fun x hx=>by simp at hx) List.Pairwise.nil;refine⟨⟨fun x hx=>g1 x (List.mem_reverse.1 hx),by rw[List.pairwise_reverse];exact g2⟩,fun r=>?_⟩;rw[oE (fun x=>List.mem_reverse) r,g3 r];exact⟨fun h=>h.resolve_left (ew r),.inr⟩
def lh (r:Int):Prop:=0≤r∧r≤1114111∧¬(55296≤r∧r≤57343)
def cU (x:Rg):List Rg:=
 (if max (max x.1 0) 0≤min (min x.2 1114111) 55295 then[(max (max x.1 0) 0,min (min x.2 1114111) 55295)] else[])++
 (if max (max x.1 0) 57344≤min (min x.2 1114111) 1114111 then[(max (max x.1 0) 57344,min (min x.2 1114111) 1114111)] else[])
theorem mF (x:Rg) (r:Int):d_ (cU x) r↔lh r∧x.1≤r∧r≤x.2:=by
 unfold cU lh;rw[rU]
 have one:∀(a b:Int),d_ (if a≤b then[(a,b)] else[]) r↔a≤r∧r≤b:=by
  intro a b
  split
  ·rw[bC];exact⟨fun h=>h.elim id fun h=>absurd h (ew r),.inl⟩
  ·exact⟨fun h=>absurd h (ew r),fun h=>by omega⟩
 rw[one,one];omega
theorem kS (x:Rg):∀y∈cU x,y.1≤y.2∧0≤y.1∧y.2≤1114111:=by
 intro y hy;unfold cU at hy
 rcases List.mem_append.1 hy with h|h<;>split at h<;>simp at h<;>subst h<;>simp only<;>omega
theorem mV {l all:List Rg} (hp:∀x,x∈all↔x∈l.flatMap cU) (hs:all.Pairwise fun x y=>x.1≤y.1):canon (all.foldl cP []).reverse∧∀r,d_ (all.foldl cP []).reverse r↔lh r∧d_ l r:=by
 have hle:∀x∈all,x.1≤x.2:=fun x hx=>by
  obtain⟨y,_,hy⟩:=List.mem_flatMap.1 ((hp x).1 hx);exact(kS y x hy).1
 obtain⟨g1,g2⟩:=tO hle hs;refine⟨g1,fun r=>(g2 r).trans ((oE hp r).trans ?_)⟩;constructor
 ·rintro⟨y,hy,h⟩;obtain⟨x,hx,hy⟩:=List.mem_flatMap.1 hy;have:=(mF x r).1 ⟨y,hy,h⟩;exact⟨this.1,x,hx,this.2⟩
 ·rintro⟨hr,x,hx,h⟩;obtain⟨y,hy,h'⟩:=(mF x r).2 ⟨hr,h⟩;exact⟨y,List.mem_flatMap.2 ⟨x,hx,hy⟩,h'⟩
def jC:List Rg→Int→Bool
 |[],_=>false
 |x::l,r=>(decide (x.1≤r) &&decide (r≤x.2))||jC l r
theorem sA:∀(l:List Rg) (r:Int),jC l r=true↔d_ l r
 |[],r=>⟨fun h=>(by cases h),fun h=>absurd h (ew r)⟩
 |x::l,r=>by
  rw[bC,←sA l r];simp[jC]
end Go.V
namespace Go.Proofs.Ytbdnabmmlbiomaa
open Go.V Go
def m_ (fr:Go.V.Fr) (k:Nat):Go.V.D:=Go.V.nth .bp fr.loc k
def ax (x:Rg):List D:=[.int .i32 x.1,.int .i32 x.2]
def bq (l:List Rg):D:=.sl (l.map fun x=>.agg (ax x))
theorem fO (l:List Rg):D.sl ((l.map ax).map (jD 2))=bq l:=by
 unfold bq;rw[List.map_map];rfl
theorem e_ (l:List Rg):∀e∈l.map ax,∀d∈e,bY d=true:=by
 intro e he d hd;obtain⟨x,_,rfl⟩:=List.mem_map.1 he;simp only[ax,List.mem_cons,List.not_mem_nil,or_false] at hd
 rcases hd with rfl|rfl<;>rfl
theorem tA (l:List Rg):refs (l.map ax).flatten=0:=by
 induction l with
 |nil=>rfl
 |cons x l ih=>simp only[List.map_cons,List.flatten_cons,ax,List.cons_append,List.nil_append,refs,D.ref,ih];rfl
theorem kV (l:List Rg):∀e∈l.map ax,e.length=2:=by
 intro e he;obtain⟨x,_,rfl⟩:=List.mem_map.1 he;rfl
theorem eu (st:St) (l:List Rg):V.Rows st 2 (bq l) (l.map ax):=by
 rw[←fO];exact Rows.rP (kV l) (e_ l)
theorem eN {l:List Rg} {i:Nat} {q:Rg} (h:l[i]?=some q):(l.map ax)[i]?=some (ax q):=by rw[List.getElem?_map,h];rfl
theorem wM (l:List Rg) (q:Rg) (r:Int):jC (l++[q]) r=(jC l r||(decide (q.1≤r) &&decide (r≤q.2))):=by
 induction l with
 |nil=>simp[jC]
 |cons x l ih=>simp only[List.cons_append,jC,ih,Bool.or_assoc]
theorem yT {l:List Rg} {i:Nat} {r:Int} (h:jC (l.take i) r=true):jC l r=true:=by
 rw[sA] at h⊢;obtain⟨x,h1,h2⟩:=h;exact⟨x,List.mem_of_mem_take h1,h2⟩
theorem HI {s0:St} {x:D} {l:List Rg} {r:Int} (hx:V.Rows s0 2 x (l.map ax)) (hl:l.length≤1073741824):Ev pv 50 [x,.int .i32 r] s0 (.bool (jC l r)) s0:=by
 refine Ev.nV rfl ND rfl rfl rfl ?_;dsimp only[u3,u4,List.length,Nat.reduceSub,Nat.reduceAdd,w1,w2];obtain⟨cn,hF,hH⟩:=ri s0;generalize aq .ro s0=S at*;have hx:=Arg.of hx cn;refine qq<|qj fun K hK=>qm ?_;refine qe hK<|qq<|qq<|qj fun K hK=>qm ?_;refine qn ?_;simp only[List.length_map];refine qm ?_;refine qe hK<|ag.block<|ag.loop (fun mm fr st=>∃(i:Nat),fr.clean=⟨10,[x,.int .i32 r,m_ fr 2,m_ fr 3,.bool false,m_ fr 5,m_ fr 6,x,.int .i64 (l.length:Nat),.int .i64 (i:Nat)],[]⟩∧Has s0.bs.length S st []∧(i+mm=l.length)∧(jC (l.take i) r=false)) (l.length) ?_ ?_
 ·exact⟨0,rfl,hH,by omega,rfl⟩
 rintro mm fr st ⟨i,hfr,hH,hi,hn⟩;rw[hfr];clear hfr;generalize m_ fr=ee;clear fr;refine qq<|qj fun K hK=>qg ?_;refine qe hK<|qq ?_;refine ag.cond (by rfl) (fun h1=>?_) (fun h1=>?_)<;>try simp only[decide_eq_true_eq,decide_eq_false_iff_not] at h1
 ·refine ag.skip ?_
  obtain⟨q,hq⟩:∃q,l[i]?=some q:=⟨l[i]'(by omega),List.getElem?_eq_getElem _⟩
  have hr:=eN hq;refine qq<|ag.block<|qq<|qj fun K hK=>qr fun OB JH=>?_;refine ab.eo rfl (ev rfl) (by assumption) rfl (ae rfl _) ?_;refine qa hH fun k6 st DF hH=>?_;refine qS hH aB fun st hH=>?_;dsimp only[u2,u1,u3,u4,setMany,u5,u6,D.cells,Nat.reduceAdd,ax] at hH;refine qe hK<|qq<|ag.l7 22 (.bool (decide (r≥q.1) &&decide (r≤q.2))) [] ?_ (fun ff tmp il=>?_)
  ·refine qm ?_;refine qp (o:=0) ?_;refine ql hH aB ?_;refine qg ?_;refine qm ?_;refine ab.two 17 rfl (fun eA=>?_) (fun eA=>?_)
   ·refine qm ?_ (hg:=wi eA);refine qp (o:=1) ?_ (hg:=wi eA);refine ql hH aB ?_ (hg:=wi eA);refine qg ?_ (hg:=wi eA);refine qt eA ?_;refine ab.nil (dD ?_ ?_)
    ·dsimp only[aJ,List.foldl,nth,u2,u1]
     all_goals(first|rfl|simp)
    ·dsimp only[Fr.aC,Fr.put,Fr.clean,Fr.ev,Fr.get,nth,V.look,u1,u2,v1,v2,v3,v4,v5,v6,v7,List.length,u3,u4,Nat.reduceSub,Nat.reduceAdd,List.map]
     all_goals(simp[eA];done)
   ·refine qs ?_ (hg:=wn eA);refine qs ?_ (hg:=wn eA);refine qs ?_ (hg:=wn eA);refine qs ?_ (hg:=wn eA);refine qu eA ?_;refine ab.nil (dD ?_ ?_)
    ·dsimp only[aJ,List.foldl,nth,u2,u1]
     all_goals(first|rfl|simp)
    ·dsimp only[Fr.aC,Fr.put,Fr.clean,Fr.ev,Fr.get,nth,V.look,u1,u2,v1,v2,v3,v4,v5,v6,v7,List.length,u3,u4,Nat.reduceSub,Nat.reduceAdd,List.map]
     all_goals(simp[eA];done)
  dsimp only[aJ,List.foldl,nth,u2,u1];dsimp only[Fr.aC,Fr.put,Fr.clean,Fr.ev,Fr.get,nth,V.look,u1,u2,v1,v2,v3,v4,v5,v6,v7,List.length,u3,u4,Nat.reduceSub,Nat.reduceAdd,List.map]
  have ht:jC (l.take (i+1)) r=(decide (r≥q.1) &&decide (r≤q.2)):=by
   rw[List.take_add_one,hq,Option.toList_some,wM,hn];simp
  refine qc (fun h2=>?_) (fun h2=>?_)<;>try simp only[cs] at h2
  ·refine qq<|qj fun K hK=>qm ?_;refine qe hK ?_;rw[yT (i:=i+1) (by rw[ht];simp[h2])];refine ag.ret ⟨rx,_,rfl,rl cn hH (rfl)⟩
  ·refine ag.skip<|qj fun K hK=>qA ?_;refine qm ?_;refine qe hK ?_;exact⟨mm-1,by omega,⟨i+1,rfl,(hH.drop 1),by omega,by rw[ht];simp[h2]⟩⟩
 ·refine ag.exit<|qq<|qj fun K hK=>qm ?_;refine qe hK ?_;have:jC l r=false:=by rw[←hn,List.take_of_length_le (by omega)]
  rw[this];refine ag.ret ⟨rx,_,rfl,rl cn hH (rfl)⟩
def aS (fr:Go.V.Fr) (k:Nat):Go.V.D:=Go.V.nth .bp fr.loc k
def dS:List Rg:=[(0,55295),(57344,1114111)]
def n9 (lo hi:Int) (p:Rg):List Rg:=if max lo p.1≤min hi p.2 then[(max lo p.1,min hi p.2)] else[]
theorem pf (q:Rg):cU q=dS.flatMap (n9 (max q.1 0) (min q.2 1114111)):=by
 simp[cU,dS,n9]
theorem xH {s0:St} (q:Rg):Ev pv 80 [.agg (ax q)] s0 (bq (cU q)) s0:=by
 refine Ev.nV rfl Nf rfl rfl rfl ?_;dsimp only[u3,u4,List.length,Nat.reduceSub,Nat.reduceAdd,w1,w2];obtain⟨cn,hF,hH⟩:=ri s0;generalize aq .ro s0=S at*;refine qq<|qj fun K hK=>qb hH fun k1 st oa hH=>?_;dsimp only[u2,u1,u3,u4,setMany,u5,u6,D.cells,Nat.reduceAdd,ax] at hH;refine qm ?_;refine qe hK<|qq<|qj fun K hK=>qp (o:=0) ?_;refine ql hH aB ?_;refine ab.G7 (t1:=0) (t2:=0) rfl (ev rfl) (ev rfl) (by dsimp only[Fr.put,u1,u2]<;>rfl) ?_;refine qp (o:=1) ?_;refine ql hH aB ?_;refine ab.G6 (t1:=0) (t2:=0) rfl (ev rfl) (ev rfl) (by dsimp only[Fr.put,u1,u2]<;>rfl) ?_;refine qp (o:=0) ?_;refine qT hH aB fun st hH=>?_;dsimp only[u2,u1,u3,u4,setMany,u5,u6,D.cells,Nat.reduceAdd,ax] at hH;refine qp (o:=1) ?_;refine qT hH aB fun st hH=>?_;dsimp only[u2,u1,u3,u4,setMany,u5,u6,D.cells,Nat.reduceAdd,ax] at hH;refine qe hK ?_;generalize tY:max q.1 0=lo at*;generalize wI:min q.2 1114111=hi at*;refine qq<|qj fun K hK=>qm ?_;refine qe hK ?_;have hH:=hH.fc 2;refine qq<|qq<|qj fun K hK=>qg ?_;refine qg ?_;refine qh (s:=2) (vs:=[_,_]) hH fun k17 st Mp hH=>?_;dsimp only[u2,u1,u3,u4,setMany,u5,u6,D.cells,Nat.reduceAdd,ax] at hH;refine qn ?_ (hR:=hH.rows aB);simp only[List.length_map,List.length_cons,List.length_nil];refine qm ?_;refine qe hK<|ag.block<|ag.loop (fun mm fr st=>∃(i:Nat) (x:D),fr.clean=⟨20,[.agg (ax q),.ptr k1 0 0,.nul,x,aS fr 4,aS fr 5,aS fr 6,aS fr 7,aS fr 8,aS fr 9,aS fr 10,aS fr 11,aS fr 12,aS fr 13,aS fr 14,aS fr 15,aS fr 16,.win k17 0 0 2 2,.int .i64 2,.int .i64 (i:Nat)],[]⟩∧Has s0.bs.length S st [.aN (.win k17 0 0 2 2) 2 (dS.map ax),.aN x 2 (((dS.take i).flatMap (n9 lo hi)).map ax),.box k1 (.mem 0 false [.int .i32 lo,.int .i32 hi])]∧(i+mm=2)∧(((dS.take i).flatMap (n9 lo hi)).length≤i)) (2) ?_ ?_
 ·exact⟨0,.nul,rfl,hH,by omega,by simp⟩
 rintro mm fr st ⟨i,x,hfr,hH,hij,hb⟩;rw[hfr];clear hfr;generalize aS fr=ee;clear fr;refine qq<|qj fun K hK=>qg ?_;refine qe hK<|qq ?_;refine ag.cond (by rfl) (fun h1=>?_) (fun h1=>?_)<;>try simp only[decide_eq_true_eq,decide_eq_false_iff_not] at h1
 ·refine ag.skip ?_
  obtain⟨p,hp⟩:∃p,dS[i]?=some p:=⟨dS[i]'(by simp[dS];omega),List.getElem?_eq_getElem _⟩
  have hr:=eN hp;refine qq<|ag.block<|qq<|qj fun K hK=>qi hH aB fun KA CQ=>?_;refine ab.tJ hH rfl (ev rfl) (by assumption) (by exact aB) (by assumption) rfl (ae rfl _) ?_;refine qa hH fun k5 st JV hH=>?_;refine qS hH aB fun st hH=>?_;dsimp only[u2,u1,u3,u4,setMany,u5,u6,D.cells,Nat.reduceAdd,ax] at hH;refine qe hK<|qq<|qj fun K hK=>qp (o:=0) ?_;refine ql hH gA ?_;refine qp (o:=0) ?_;refine ql hH aB ?_;refine ab.G7 (t1:=0) (t2:=0) rfl (ev rfl) (ev rfl) (ae rfl _) ?_;refine qp (o:=1) ?_;refine ql hH gA ?_;refine qp (o:=1) ?_;refine ql hH aB ?_;refine ab.G6 (t1:=0) (t2:=0) rfl (ev rfl) (ev rfl) (ae rfl _) ?_;refine qg ?_;refine qa hH fun k6 st DF hH=>?_;refine qS hH aB fun st hH=>?_;dsimp only[u2,u1,u3,u4,setMany,u5,u6,D.cells,Nat.reduceAdd,ax] at hH;refine qe hK<|qq<|qj fun K hK=>qp (o:=0) ?_;refine ql hH aB ?_;refine qp (o:=1) ?_;refine ql hH aB ?_;refine qg ?_;refine qe hK ?_;refine ag.cond (by rfl) (fun h2=>?_) (fun h2=>?_)<;>try simp only[decide_eq_true_eq,decide_eq_false_iff_not] at h2
  ·refine qj fun K hK=>qm ?_;refine ab.b9 (m:=2) hH rfl (ev rfl) (by exact aB) (by dsimp only[List.drop_succ_cons,List.drop_zero,List.take_succ_cons,List.take_zero,ax]<;>rfl) rfl rfl (ae rfl _) ?_;refine qh (s:=2) (vs:=[_]) hH fun k41 st JW hH=>?_;refine ab.cu (s:=2) hH rfl (ev rfl) (ev rfl) (by exact iv) (by exact hH.rows (by exact aB)) rfl rfl rfl rfl rfl rfl rfl ⟨(Nat.le_of_ble_eq_true rfl),(Nat.le_of_ble_eq_true rfl)⟩ (fun _=>(ae rfl _)) (by simp only[List.length_cons,List.length_nil,List.length_map]<;>omega) (by exact .inl hF) (fun IE st hH=>?_);dsimp only[u2,u1,u3,u4,setMany,u5,u6,D.cells,Nat.reduceAdd,ax] at hH;refine qm ?_;refine qe hK<|qj fun K hK=>qA ?_;refine qm ?_;refine qe hK ?_
   have h3:(dS.take (i+1)).flatMap (n9 lo hi)=(dS.take i).flatMap (n9 lo hi)++[(max lo p.1,min hi p.2)]:=by
    rw[List.take_add_one,hp,List.flatMap_append];simp[n9,h2]
   exact⟨mm-1,by omega,⟨i+1,IE,rfl,(by rw[h3,List.map_append];exact hH.drop 3),by omega,by rw[h3];simp only[List.length_append,List.length_cons,List.length_nil];omega⟩⟩
  ·refine ag.skip<|qj fun K hK=>qA ?_;refine qm ?_;refine qe hK ?_
   have h3:(dS.take (i+1)).flatMap (n9 lo hi)=(dS.take i).flatMap (n9 lo hi):=by
    rw[List.take_add_one,hp,List.flatMap_append];simp[n9,h2]
   exact⟨mm-1,by omega,⟨i+1,x,rfl,(by rw[h3];exact hH.drop 2),by omega,by rw[h3];omega⟩⟩
 ·refine ag.exit<|qq<|qj fun K hK=>qm ?_;refine qm ?_;refine qe hK ?_;rw[←fO];have h3:dS.take i=dS:=List.take_of_length_le (by simp[dS];omega);rw[h3] at hH;refine ag.ret ⟨rx,_,rfl,rl cn hH ?_⟩;refine Eq.trans (hH.freeze bN (e_ _) (n:=15) (by decide)) ?_;rw[pf,tY,wI]
theorem vY (q x:Rg) (h:x∈cU q):0≤x.1∧x.1≤1114111:=by
 obtain⟨h1,h2,h3⟩:=kS q x h;omega
theorem mG (q:Rg):(cU q).length≤2:=by
 unfold cU;split<;>split<;>simp
theorem gj (l:List Rg):(l.flatMap cU).length≤2*l.length:=by
 induction l with
 |nil=>simp
 |cons x l ih=>simp only[List.flatMap_cons,List.length_append,List.length_cons];have:=mG x;omega
theorem oo:∀{l:List Rg},(∀x∈l,0≤x.1∧x.1≤1114111)→∃m:List Rs,dM m=(l.map ax).flatten∧m.map (fun x=>(x.lo,x.hi))=l
 |[],_=>⟨[],rfl,rfl⟩
 |x::l,h=>by
  obtain⟨m,h1,h2⟩:=oo (l:=l) fun y hy=>h y (List.mem_cons_of_mem _ hy);obtain⟨h3,h4⟩:=h x (List.mem_cons_self ..);exact⟨⟨x.1,x.2,h3,h4⟩::m,by simp only[dM,h1,List.map_cons,List.flatten_cons,ax,List.cons_append,List.nil_append],by simp[h2]⟩
theorem ui (m:List Rs):dM m=((m.map fun x=>((x.lo,x.hi):Rg)).map ax).flatten:=by
 induction m with
 |nil=>rfl
 |cons x m ih=>simp only[dM,ih,List.map_cons,List.flatten_cons,ax,List.cons_append,List.nil_append]
theorem yS {N:Nat} {S st:St} {H:List bT} {j:Nat} {x:D} {l:List Rg} (hH:Has N S st H) (hj:H[j]?=some (.aN x 2 (l.map ax))) (h0:l=[]→x=.nul) (hl:l.length≤1073741824) (hr:∀y∈l,0≤y.1∧y.1≤1114111):
  ∃(ah:St) (l':List Rg),Ev pv 81 [x,.fn 82 []] st (.tup []) ah∧Has N S ah (H.set j (.aN x 2 (l'.map ax)))∧l'.Perm l∧l'.Pairwise fun a b=>a.1≤b.1:=by
 obtain⟨m,h1,h2⟩:=oo hr;obtain⟨h3,h4⟩:=srt_facts m;have yC:m.length=l.length:=by rw[←h2];simp
 have hperm:((srt m).map fun x=>((x.lo,x.hi):Rg)).Perm l:=by rw[←h2];exact h3.map _
 have jI:((srt m).map fun x=>((x.lo,x.hi):Rg)).Pairwise fun a b=>a.1≤b.1:=by rw[List.pairwise_map];exact h4
 have hlen:(srt m).length=l.length:=h3.length_eq.trans yC;have hown:=hH.own hj;generalize ua:l.map ax=es at*;have q9:es.length=l.length:=by rw[←ua];simp
 cases hown with
 |nul=>
  have JR:l=[]:=by cases l with|nil=>rfl|cons _ _=>simp at q9
  refine⟨st,(srt m).map fun x=>(x.lo,x.hi),Ev.gY rfl rfl,?_,hperm,jI⟩
  have:(srt m).map (fun x=>((x.lo,x.hi):Rg))=[]:=by
   cases hs:srt m with
   |nil=>rfl
   |cons a b=>rw[hs,JR] at hlen;simp at hlen
  rw[this];exact hH.xr hj (fun _ _ _=>rfl) (Nat.le_refl _) rfl rfl .nul (fun k hk=>.inl hk) fun k hk=>by simp only[bT.aN,D.ref] at hk;omega
 |win k az off es c hm hle hc he=>
  have hne:l≠[]:=fun e=>by have:=h0 e;cases this
  have su:1≤l.length:=by cases l with|nil=>exact absurd rfl hne|cons _ _=>simp
  have hk:=(hH.ok j _ hj).2 k (by simp only[bT.aN,D.ref]);have ub:(dM (srt m)).length=es.length*2:=by rw[kr,hlen,q9];omega
  have hwr:st.wr k az off (dM (srt m))=some ⟨st.bs.set k (.mem az true (c.take off++dM (srt m)++c.drop (off+(dM (srt m)).length))),st.flr,st.ro⟩:=
   jM hm (by omega) (gP hH hk.1 (.inr (oT _)))
  refine⟨⟨st.bs.set k (.mem az true (c.take off++dM (srt m)++c.drop (off+(dM (srt m)).length))),st.flr,st.ro⟩,(srt m).map fun x=>(x.lo,x.hi),Ev.gY rfl ?_,?_,hperm,jI⟩
  ·show vW [.win k az off es.length 2,.fn 82 []] st=_;have fG:(c.drop off).take (2*es.length)=dM m:=by rw[Nat.mul_comm,hc,h1]
   simp only[vW,St.mem_of hm,fG,uY,DQ];rw[decide_eq_true (⟨by rw[yC,q9],by omega,by omega⟩:m.length=es.length∧1≤es.length∧es.length<1099511627776)];simp only[hwr]
  ·refine hH.xr hj (fun n hn hne=>?_) (by simp) rfl rfl ?_ (fun n hn=>.inl hn) fun n hn=>?_
   ·simp only;rw[List.getElem?_set_ne (fun e=>hne (by simp only[bT.aN,D.ref];omega))]
   ·have h9:=fu.win (st:=⟨st.bs.set k (.mem az true (c.take off++dM (srt m)++c.drop (off+(dM (srt m)).length))),st.flr,st.ro⟩) (s:=2) k az off (((srt m).map fun x=>((x.lo,x.hi):Rg)).map ax) (c.take off++dM (srt m)++c.drop (off+(dM (srt m)).length))
     (by simp only;rw[List.getElem?_set_self hk.2]) (by simp only[List.length_append,List.length_take,List.length_map,List.length_drop,ub];omega) ?_ (kV _)
    ·simp only[List.length_map,hlen] at h9;rw[q9];exact h9
    ·have Me:(c.take off).length=off:=by simp;omega
     rw[List.append_assoc,List.drop_left' Me,←ui,List.take_left' (by simp only[List.length_map,hlen];omega)]
   ·simp only[bT.aN,D.ref] at hn;simp only[List.length_set];omega
theorem mZ (l:List Rg):(l.foldl cP []).length≤l.length:=by
 have key:∀(l acc:List Rg),(l.foldl cP acc).length≤acc.length+l.length:=by
  intro l
  induction l with
  |nil=>intro acc;simp
  |cons x l ih=>
   intro acc;simp only[List.foldl_cons,List.length_cons];have:=ih (cP acc x)
   have h2:(cP acc x).length≤acc.length+1:=by
    unfold cP;split
    ·simp
    ·split<;>simp
   omega
 have:=key l []
 simpa using this
theorem CE {l:List Rg} (h:∀x∈l,0≤x.2∧x.2≤1114111):∀x∈l.foldl cP [],0≤x.2∧x.2≤1114111:=by
 have key:∀(l acc:List Rg),(∀x∈l,0≤x.2∧x.2≤1114111)→(∀x∈acc,0≤x.2∧x.2≤1114111)→∀x∈l.foldl cP acc,0≤x.2∧x.2≤1114111:=by
  intro l
  induction l with
  |nil=>intro acc _ h x hx;exact h x hx
  |cons y l ih=>
   intro acc h1 h2;refine ih _ (fun x hx=>h1 x (List.mem_cons_of_mem _ hx)) fun x hx=>?_;have hy:=h1 y (List.mem_cons_self ..);unfold cP at hx
   split at hx
   ·simp only[List.mem_cons,List.not_mem_nil,or_false] at hx;rw[hx];exact hy
   ·rename_i k rest;have hk:=h2 k (List.mem_cons_self ..)
    split at hx
    ·rcases List.mem_cons.1 hx with rfl|hx
     ·simp only;omega
     ·exact h2 x (List.mem_cons_of_mem _ hx)
    ·rcases List.mem_cons.1 hx with rfl|hx
     ·exact hy
     ·exact h2 x hx
 exact key l [] h (fun x hx=>by cases hx)
theorem yr (h:Rg) (t:List Rg):((h::t).reverse.map ax)[t.length]?=some (ax h):=by
 rw[List.getElem?_map,List.reverse_cons,List.getElem?_append_right (by simp)];simp
theorem yq (h h':Rg) (t:List Rg):((h::t).reverse.map ax).set t.length (ax h')=(h'::t).reverse.map ax:=by
 rw[List.reverse_cons,List.map_append,List.set_append_right _ _ (by simp)];simp
theorem vg {s0:St} {x:D} {l:List Rg} (hx:V.Rows s0 2 x (l.map ax)) (hl:l.length≤268435456):∃d,Ev pv 76 [x] s0 d s0∧∃all:List Rg,d=bq (all.foldl cP []).reverse∧all.Perm (l.flatMap cU)∧all.Pairwise fun a b=>a.1≤b.1:=by
 refine Ev.Dt rfl Nj rfl rfl rfl ?_;dsimp only[u3,u4,List.length,Nat.reduceSub,Nat.reduceAdd,w1,w2];obtain⟨cn,hF,hH⟩:=ri s0;generalize aq .ro s0=S at*;have hx:=Arg.of hx cn;have nj:=gj l
 have hfi:∀i,((l.take i).flatMap cU).length≤2*l.length:=fun i=>by
  have:=gj (l.take i);simp only[List.length_take] at this;omega
 refine qq<|qj fun K hK=>qm ?_;refine qe hK<|qq<|qj fun K hK=>qm ?_;refine qm ?_;refine qe hK<|qq<|qq<|qj fun K hK=>qm ?_;refine qn ?_;simp only[List.length_map];refine qm ?_;refine qe hK ?_;have hH:=hH.fc 2;refine ag.block<|ag.loop (fun mm fr st=>∃(i:Nat) (y:D),fr.clean=⟨26,[x,aS fr 1,aS fr 2,y,.nul,aS fr 5,aS fr 6,aS fr 7,aS fr 8,aS fr 9,x,.int .i64 (l.length:Nat),.int .i64 (i:Nat),aS fr 13,aS fr 14,aS fr 15,aS fr 16,aS fr 17,aS fr 18,aS fr 19,aS fr 20,aS fr 21,aS fr 22,aS fr 23,aS fr 24,aS fr 25],[]⟩∧Has s0.bs.length S st [.aN y 2 (((l.take i).flatMap cU).map ax)]∧(i+mm=l.length)∧((l.take i).flatMap cU=[]→y=.nul)) (l.length) ?_ ?_
 ·exact⟨0,.nul,rfl,hH,by omega,fun _=>rfl⟩
 rintro mm fr st ⟨i,y,hfr,hH,hi,Ho⟩;rw[hfr];clear hfr;generalize aS fr=ee;clear fr;refine qq<|qj fun K hK=>qg ?_;refine qe hK ?_;have hm:=hfi i;refine qq ?_;refine ag.cond (by rfl) (fun h1=>?_) (fun h1=>?_)<;>try simp only[decide_eq_true_eq,decide_eq_false_iff_not] at h1
 ·refine ag.skip ?_
  obtain⟨q,hq⟩:∃q,l[i]?=some q:=⟨l[i]'(by omega),List.getElem?_eq_getElem _⟩
  have hr:=eN hq
  have yD:(l.take (i+1)).flatMap cU=(l.take i).flatMap cU++cU q:=by
   rw[List.take_add_one,hq];simp
  have Tc:=mG q;refine qq<|ag.block<|qq<|qj fun K hK=>qr fun S7 QW=>?_;refine ab.eo rfl (ev rfl) (by assumption) rfl (by dsimp only[Fr.put,u1,u2]<;>rfl) ?_;refine qa hH fun k6 st DF hH=>?_;refine qS hH aB fun st hH=>?_;dsimp only[u2,u1,u3,u4,setMany,u5,u6,D.cells,Nat.reduceAdd,ax] at hH;refine qe hK<|qj fun K hK=>qm ?_;refine ab.b9 (m:=2) hH rfl (ev rfl) (by exact aB) (by dsimp only[List.drop_succ_cons,List.drop_zero,List.take_succ_cons,List.take_zero,ax]<;>rfl) rfl rfl (by dsimp only[Fr.put,u1,u2]<;>rfl) ?_;refine qv (xH q) ?_;refine ab.yU hH rfl rfl rfl (by exact bN) (eu _ _) rfl rfl rfl rfl rfl rfl rfl ⟨(Nat.le_of_ble_eq_true rfl),(Nat.le_of_ble_eq_true rfl)⟩ (fun _=>by dsimp only[Fr.put,u1,u2]<;>rfl) (by simp only[List.length_map];omega) (.inl hF) (fun Pw st JJ hH=>?_);dsimp only[u2,u1] at hH;refine qm ?_;refine qe hK<|qj fun K hK=>qA ?_;refine qm ?_;refine qe hK ?_;exact⟨mm-1,by omega,⟨i+1,Pw,rfl,(by rw[yD,List.map_append];exact hH.drop 1),by omega,by rw[yD];intro h;obtain⟨h3,h4⟩:=List.append_eq_nil_iff.1 h;rw[JJ (by rw[h4];rfl)];exact Ho h3⟩⟩
 ·refine ag.exit ?_;have hT:l.take i=l:=List.take_of_length_le (by omega);rw[hT] at hH Ho hm
  obtain⟨st2,all,aM,IA,hperm,jI⟩:=yS hH aB Ho (by omega) (fun z hz=>by
   obtain⟨w,_,hw⟩:=List.mem_flatMap.1 hz
   exact vY w z hw)
  have hlen:=hperm.length_eq
  have hbd:∀z∈all,0≤z.2∧z.2≤1114111:=fun z hz=>by
   obtain⟨w,_,hw⟩:=List.mem_flatMap.1 (hperm.mem_iff.1 hz);have:=kS w z hw;omega
  refine qq<|qj fun K hK=>qm ?_;refine qv (aM) ?_;refine qe hK ?_;have hH:=IA;dsimp only[u2] at hH;clear IA aM;have hR:=hH.rows aB;have hH:=hH.fc 2;refine qq<|qq<|qj fun K hK=>qm ?_;refine qn ?_ (hR:=hH.rows bN);simp only[List.length_map];refine qm ?_;refine qe hK<|ag.block<|ag.loop (fun mm fr st=>∃(i:Nat) (z:D),fr.clean=⟨26,[x,aS fr 1,aS fr 2,y,z,aS fr 5,aS fr 6,aS fr 7,aS fr 8,aS fr 9,aS fr 10,aS fr 11,aS fr 12,aS fr 13,aS fr 14,aS fr 15,aS fr 16,aS fr 17,aS fr 18,aS fr 19,aS fr 20,aS fr 21,aS fr 22,y,.int .i64 (all.length:Nat),.int .i64 (i:Nat)],[]⟩∧Has s0.bs.length S st [.aN z 2 (((all.take i).foldl cP []).reverse.map ax),.aN y 2 (all.map ax)]∧(i+mm=all.length)) (all.length) ?_ ?_
  ·exact⟨0,.nul,rfl,hH,by omega⟩
  rintro mm fr st ⟨i,z,hfr,hH,hi⟩;rw[hfr];clear hfr;generalize aS fr=ee;clear fr;refine qq<|qj fun K hK=>qg ?_;refine qe hK ?_
  have jT:((all.take i).foldl cP []).length≤all.length:=by
   have:=mZ (all.take i);simp only[List.length_take] at this;omega
  refine qq ?_;refine ag.cond (by rfl) (fun h1=>?_) (fun h1=>?_)<;>try simp only[decide_eq_true_eq,decide_eq_false_iff_not] at h1
  ·refine ag.skip ?_
   obtain⟨q,hq⟩:∃q,all[i]?=some q:=⟨all[i]'(by omega),List.getElem?_eq_getElem _⟩
   have hr:=eN hq
   have Mt:(all.take (i+1)).foldl cP []=cP ((all.take i).foldl cP []) q:=by
    rw[List.take_add_one,hq,List.foldl_append];rfl
   generalize C5:(all.take i).foldl cP []=acc at*;refine qq<|ag.block<|qq<|qj fun K hK=>qi hH bN fun S5 QU=>?_;refine ab.tJ hH rfl (ev rfl) (by assumption) (by exact bN) (by assumption) rfl (ae rfl _) ?_;refine qa hH fun k8 st Mj hH=>?_;refine qS hH aB fun st hH=>?_;dsimp only[u2,u1,u3,u4,setMany,u5,u6,D.cells,Nat.reduceAdd,ax] at hH;refine qe hK ?_
   rcases acc with _|⟨h,t⟩
   ·refine qq<|qj fun K hK=>qm ?_;refine qn ?_ (hR:=hH.rows bN);simp only[List.length_map,List.length_nil,List.length_reverse];refine ab.j7 (z:=(-1)) rfl (ev rfl) (ev rfl) (by(try simp only[List.length_reverse,List.length_cons,List.length_nil,List.length_append,List.length_map,List.length_set]);rw[wrap_i64 (by omega) (by omega)]<;>omega) (ae rfl _) ?_;refine qm ?_;refine qe hK ?_;have bH:decide ((-1:Int)≥0)=false:=by decide
    refine qq<|ag.l7 44 (.bool false) [] ?_ (fun ff tmp il=>?_)
    ·refine qm ?_;refine qg ?_;refine qm ?_;refine qs ?_ (hg:=wn bH);refine qs ?_ (hg:=wn bH);refine qs ?_ (hg:=wn bH);refine qs ?_ (hg:=wn bH);refine qs ?_ (hg:=wn bH);refine qs ?_ (hg:=wn bH);refine qs ?_ (hg:=wn bH);refine qs ?_ (hg:=wn bH);refine qs ?_ (hg:=wn bH);refine qu bH ?_;refine ab.nil (dD ?_ ?_)
     ·dsimp only[aJ,List.foldl,nth,u2,u1]
      all_goals(first|rfl|simp)
     ·dsimp only[Fr.aC,Fr.put,Fr.clean,Fr.ev,Fr.get,nth,look,u1,u2,v1,v2,v4]
      all_goals(first|rfl|(simp[bH];done)|(simp_all;done)|(simp[bH];omega)|(simp_all;omega))
    dsimp only[aJ,List.foldl,nth,u2,u1];dsimp only[Fr.aC,Fr.put,Fr.clean,Fr.ev,Fr.get,nth,look,u1,u2,v1,v2,v4];refine qC ?_;refine qj fun K hK=>qm ?_;refine ab.b9 (m:=2) hH rfl (ev rfl) (by exact aB) (by dsimp only[List.drop_succ_cons,List.drop_zero,List.take_succ_cons,List.take_zero,ax]<;>rfl) rfl rfl (ae rfl _) ?_;refine qh (s:=2) (vs:=[_]) hH fun k59 st Mm hH=>?_;refine ab.cu (s:=2) hH rfl (ev rfl) (ev rfl) (by exact ei) (by exact hH.rows (by exact aB)) rfl rfl rfl rfl rfl rfl rfl ⟨(Nat.le_of_ble_eq_true rfl),(Nat.le_of_ble_eq_true rfl)⟩ (fun _=>(ae rfl _)) (by simp only[List.length_cons,List.length_nil,List.length_map,List.length_reverse]<;>omega) (by exact .inl hF) (fun K1 st hH=>?_);dsimp only[u2,u1,u3,u4,setMany,u5,u6,D.cells,Nat.reduceAdd,ax] at hH;refine qm ?_;refine qe hK<|qj fun K hK=>qA ?_;refine qm ?_;refine qe hK ?_;exact⟨mm-1,by omega,⟨i+1,K1,rfl,(by rw[Mt];exact hH.drop 2),by omega⟩⟩
   ·simp only[List.length_cons] at jT;refine qq<|qj fun K hK=>qm ?_;refine qn ?_ (hR:=hH.rows bN);simp only[List.length_map,List.length_cons,List.length_reverse];refine ab.j7 (z:=((t.length:Nat):Int)) rfl (ev rfl) (ev rfl) (by(try simp only[List.length_reverse,List.length_cons,List.length_nil,List.length_append,List.length_map,List.length_set]);rw[wrap_i64 (by omega) (by omega)]<;>omega) (ae rfl _) ?_;refine qm ?_;refine qe hK ?_;have vt:=yr h t;have ft:=yq h (h.1,max h.2 q.2) t;have wI:=CE (l:=all.take i) (fun x hx=>hbd x (List.mem_of_mem_take hx)) h (by rw[C5];exact List.mem_cons_self ..);have bH:decide (((t.length:Nat):Int)≥0)=true:=by rw[decide_eq_true];omega
    refine qq<|ag.l7 44 (.bool (decide (q.1≤h.2+1))) [] ?_ (fun ff tmp il=>?_)
    ·refine qm ?_;refine qg ?_;refine qm ?_;refine qp (o:=0) ?_ (hg:=wi bH);refine ql hH aB ?_ (hg:=wi bH);refine qm ?_ (hg:=wi bH);refine qm ?_ (hg:=wi bH);refine qi hH bN (fun PN L5=>?_) (hg:=wi bH);refine ab.gb (fo:=1) (m:=0) (o2:=1) (aj rfl rfl rfl bH) (ev rfl) (by assumption) rfl rfl rfl (fun _=>(ae rfl _)) (fun PM L4=>?_);refine qo hH bN ?_ (hg:=wi bH);refine ab.Ig (aj rfl rfl rfl bH) (ev rfl) (ev rfl) (by omega) (by omega) (ae rfl _) ?_;refine qg ?_ (hg:=wi bH);refine qt bH ?_;refine ab.nil (dD ?_ ?_)
     ·dsimp only[aJ,List.foldl,nth,u2,u1]
      all_goals(first|rfl|simp)
     ·dsimp only[Fr.aC,Fr.put,Fr.clean,Fr.ev,Fr.get,nth,look,u1,u2,v1,v2,v4]
      all_goals(first|rfl|(simp[bH];done)|(simp_all;done)|(simp[bH];omega)|(simp_all;omega))
    dsimp only[aJ,List.foldl,nth,u2,u1];dsimp only[Fr.aC,Fr.put,Fr.clean,Fr.ev,Fr.get,nth,look,u1,u2,v1,v2,v4];refine ag.cond (by assumption) (fun h2=>?_) (fun h2=>?_)<;>try simp only[decide_eq_true_eq,decide_eq_false_iff_not] at h2
    ·refine qj fun K hK=>qm ?_;refine qm ?_;refine qm ?_;refine qm ?_;refine qi hH bN fun PJ L2=>?_;refine ab.gb (fo:=1) (m:=0) (o2:=1) rfl (ev rfl) (by assumption) rfl rfl rfl (fun _=>(ae rfl _)) (fun PI L1=>?_);refine qo hH bN ?_;refine qp (o:=1) ?_;refine ql hH aB ?_;refine ab.G7 (t1:=0) (t2:=0) rfl (ev rfl) (ev rfl) (ae rfl _) ?_;refine qi hH bN fun SV QM=>?_;refine ab.gb (fo:=1) (m:=0) (o2:=1) rfl (ev rfl) (by assumption) rfl rfl rfl (fun _=>(ae rfl _)) (fun SU QL=>?_);refine ab.jO hH rfl (ev rfl) (ev rfl) (by assumption) rfl rfl (by exact bN) (by assumption) (Nat.le_of_ble_eq_true rfl) (by exact .inl hF) (fun st hH=>?_);dsimp only[u2,u1,u3,u4,setMany,u5,u6,D.cells,Nat.reduceAdd,ax] at hH;refine qe hK<|qj fun K hK=>qA ?_;refine qm ?_;refine qe hK ?_;exact⟨mm-1,by omega,⟨i+1,z,rfl,(by rw[Mt];simp only[cP,if_pos h2];rw[←ft];exact hH.drop 1),by omega⟩⟩
    ·refine qj fun K hK=>qm ?_;refine ab.b9 (m:=2) hH rfl (ev rfl) (by exact aB) (by dsimp only[List.drop_succ_cons,List.drop_zero,List.take_succ_cons,List.take_zero,ax]<;>rfl) rfl rfl (ae rfl _) ?_;refine qh (s:=2) (vs:=[_]) hH fun k59 st Mm hH=>?_;refine ab.cu (s:=2) hH rfl (ev rfl) (ev rfl) (by exact ei) (by exact hH.rows (by exact aB)) rfl rfl rfl rfl rfl rfl rfl ⟨(Nat.le_of_ble_eq_true rfl),(Nat.le_of_ble_eq_true rfl)⟩ (fun _=>(ae rfl _)) (by simp only[List.length_cons,List.length_nil,List.length_map,List.length_reverse]<;>omega) (by exact .inl hF) (fun K1 st hH=>?_);dsimp only[u2,u1,u3,u4,setMany,u5,u6,D.cells,Nat.reduceAdd,ax] at hH;refine qm ?_;refine qe hK<|qj fun K hK=>qA ?_;refine qm ?_;refine qe hK ?_;exact⟨mm-1,by omega,⟨i+1,K1,rfl,(by rw[Mt];simp only[cP,if_neg h2];rw[List.reverse_cons (a:=q),List.map_append];exact hH.drop 2),by omega⟩⟩
  ·refine ag.exit<|qq<|qj fun K hK=>qm ?_;refine qm ?_;refine qe hK ?_;rw[List.take_of_length_le (by omega)] at hH;refine ag.ret ⟨rx,_,_,rfl,rl cn hH ((hH.freeze aB (e_ _) (n:=15) (by decide))),?_⟩;exact⟨all,by rw[fO],hperm,jI⟩
def gv (fr:Go.V.Fr) (k:Nat):Go.V.D:=Go.V.nth .bp fr.loc k
def e5 (l a:List Rg):Prop:=canon a∧∀r,d_ a r↔lh r∧d_ l r
theorem e5.unique {l a b:List Rg} (h:e5 l a) (g:e5 l b):a=b:=kF h.1 g.1 fun r=>(h.2 r).trans (g.2 r).symm
noncomputable def iD (l:List Rg):Bool:=@decide (e5 l l) (Classical.propDecidable _)
theorem vZ {l a:List Rg} (h:e5 l a):iD l=decide (l=a):=by
 unfold iD
 by_cases hl:l=a
 ·rw[decide_eq_true hl];exact@decide_eq_true _ (Classical.propDecidable _) (by rw[hl] at h⊢;exact h)
 ·rw[decide_eq_false hl];exact@decide_eq_false _ (Classical.propDecidable _) (fun g=>hl (g.unique h))
theorem wo (p q:Rg):kH pv .neq 137 (.agg (ax p)) (.agg (ax q))=some (.bool (!decide (p=q))):=by
 have h:∀a b a' b':Int,kH pv .neq 137 (.agg [.int .i32 a,.int .i32 b]) (.agg [.int .i32 a',.int .i32 b'])=Option.map (fun b=>D.bool !b) (match some (a==a') with|some true=>(match some (b==b') with|some true=>some true|some false=>some false|none=>none)|some false=>some false|none=>none):=fun _ _ _ _=>rfl;obtain⟨a,b⟩:=p;obtain⟨a',b'⟩:=q;simp only[ax,h]
 by_cases h1:a=a'
 ·subst h1
  by_cases h2:b=b'
  ·subst h2;simp
  ·have:(b==b')=false:=by simpa using h2
   simp[this,h2]
 ·have:(a==a')=false:=by simpa using h1
  simp[this,h1]
theorem pa {α:Type} {a b:List α} {i:Nat} {x y:α} (ha:a[i]?=some x) (hb:b[i]?=some y) (h:a.take i=b.take i) (Jw:x=y):a.take (i+1)=b.take (i+1):=by
 rw[List.take_add_one,List.take_add_one,h,ha,hb,Jw]
theorem wu {α:Type} {a b:List α} {i:Nat} {x y:α} (ha:a[i]?=some x) (hb:b[i]?=some y) (Jw:¬x=y):¬a=b:=by
 intro h;subst h;rw[ha] at hb;exact Jw (Option.some.inj hb)
theorem y5 {s0:St} {x y:D} {l m:List Rg} (hx:V.Rows s0 2 x (l.map ax)) (hy:V.Rows s0 2 y (m.map ax)) (hl:l.length≤1073741824) (hm:m.length≤1073741824):Ev pv 75 [x,y] s0 (.bool (decide (l=m))) s0:=by
 refine Ev.nV rfl Nk rfl rfl rfl ?_;dsimp only[u3,u4,List.length,Nat.reduceSub,Nat.reduceAdd,w1,w2];obtain⟨cn,hF,hH⟩:=ri s0;generalize aq .ro s0=S at*;have hx:=Arg.of hx cn;have hy:=Arg.of hy cn;refine qq<|qj fun K hK=>qm ?_;refine qe hK<|qq<|qq<|qj fun K hK=>qm ?_;refine qn ?_;simp only[List.length_map];refine qm ?_;refine qn ?_;simp only[List.length_map];refine qg ?_;refine qe hK ?_
 by_cases hlen:l.length=m.length
 ·refine ag.cond (v:=false) ?_ (fun h=>by cases h) (fun _=>?_)
  ·dsimp only[Fr.ev,Fr.get,nth,V.look];rw[hlen];simp
  refine ag.skip<|qq<|qq<|qj fun K hK=>qm ?_;refine qn ?_;simp only[List.length_map];refine qm ?_;refine qe hK<|ag.block<|ag.loop (fun mm fr st=>∃(i:Nat),fr.clean=⟨14,[x,y,gv fr 2,gv fr 3,.bool false,gv fr 5,gv fr 6,gv fr 7,gv fr 8,gv fr 9,gv fr 10,gv fr 11,.int .i64 (l.length:Nat),.int .i64 (i:Nat)],[]⟩∧Has s0.bs.length S st []∧(i+mm=l.length)∧(l.take i=m.take i)) (l.length) ?_ ?_
  ·exact⟨0,rfl,hH,by omega,rfl⟩
  rintro mm fr st ⟨i,hfr,hH,hi,ht⟩;rw[hfr];clear hfr;generalize gv fr=ee;clear fr;refine qq<|qj fun K hK=>qg ?_;refine qe hK<|qq ?_;refine ag.cond (by rfl) (fun h1=>?_) (fun h1=>?_)<;>try simp only[decide_eq_true_eq,decide_eq_false_iff_not] at h1
  ·refine ag.skip ?_
   obtain⟨p,hp⟩:∃p,l[i]?=some p:=⟨l[i]'(by omega),List.getElem?_eq_getElem _⟩
   obtain⟨q,hq⟩:∃q,m[i]?=some q:=⟨m[i]'(by omega),List.getElem?_eq_getElem _⟩
   have gM:=eN hp;have nh:=eN hq;refine qq<|ag.block<|qq<|qj fun K hK=>qm ?_;refine qm ?_;refine qe hK<|qq<|qj fun K hK=>qm ?_;refine qm ?_;refine qr fun PR L8=>?_;refine ab.eo rfl (ev rfl) (by assumption) rfl (ae rfl _) ?_;refine qm ?_;refine qm ?_;refine qr fun Oz JF=>?_;refine ab.eo rfl (ev rfl) (by assumption) rfl (ae rfl _) ?_;refine ab.P0 rfl (ev rfl) (ev rfl) (wo p q) (ae rfl _) ?_;refine qe hK ?_;refine ag.cond (by rfl) (fun h2=>?_) (fun h2=>?_)<;>try simp only[decide_eq_true_eq,decide_eq_false_iff_not,Bool.not_eq_true',Bool.not_eq_false'] at h2
   ·refine qq<|qj fun K hK=>qm ?_;refine qe hK ?_;rw[decide_eq_false (wu hp hq (by simpa using h2))];refine ag.ret ⟨rx,_,rfl,rl cn hH (rfl)⟩
   ·refine ag.skip<|qj fun K hK=>qA ?_;refine qm ?_;refine qe hK ?_;exact⟨mm-1,by omega,⟨i+1,rfl,hH,by omega,pa hp hq ht (by simpa using h2)⟩⟩
  ·refine ag.exit<|qq<|qj fun K hK=>qm ?_;refine qe hK ?_;rw[decide_eq_true (by rw[List.take_of_length_le (by omega),List.take_of_length_le (by omega)] at ht;exact ht)];refine ag.ret ⟨rx,_,rfl,rl cn hH (rfl)⟩
 ·refine ag.cond (v:=true) ?_ (fun _=>?_) (fun h=>by cases h)
  ·dsimp only[Fr.ev,Fr.get,nth,V.look];simp;omega
  refine qq<|qj fun K hK=>qm ?_;refine qe hK ?_;rw[decide_eq_false (fun h=>hlen (by rw[h]))];refine ag.ret ⟨rx,_,rfl,rl cn hH (rfl)⟩
theorem ry {s0:St} {x:D} {l:List Rg} (hx:V.Rows s0 2 x (l.map ax)) (hl:l.length≤1048576):Ev pv 68 [x] s0 (.bool (iD l)) s0:=by
 refine Ev.nV rfl Ns rfl rfl rfl ?_;dsimp only[u3,u4,List.length,Nat.reduceSub,Nat.reduceAdd,w1,w2];obtain⟨cn,hF,hH⟩:=ri s0;generalize aq .ro s0=S at*;have hx:=Arg.of hx cn;refine qq<|qj fun K hK=>qm ?_;refine qe hK ?_;obtain⟨_,aM,all,rfl,hperm,jI⟩:=vg (hx.rows hH) (by omega);have hM:e5 l (all.foldl cP []).reverse:=mV (fun x=>hperm.mem_iff) jI;have hlen:=hperm.length_eq;have nj:=gj l;have jT:=mZ all;rw[vZ hM];refine qq<|qj fun K hK=>qm ?_;refine qm ?_;refine qv (aM) ?_;refine qv (y5 (hx.rows hH) (eu _ _) (by omega) (by rw[List.length_reverse];omega)) ?_;refine qm ?_;refine qe hK<|ag.ret ⟨rx,_,rfl,rl cn hH (rfl)⟩
structure aP where
 op:Int
 x:Int
 y:Int
 rd:D
 rs:List Rg
def aU (i:aP):List D:=[.int .i64 i.op,.int .i64 i.x,.int .i64 i.y,i.rd]
def aP.ok (i:aP):Prop:=gR i.rd 2 (i.rs.map ax)∧i.rs.length≤1048576
def av (n:Int):List D:=[.int .i64 n]
structure Pg where
 cd:D
 code:List aP
 sd:D
 aO:List Int
structure Pg.ok (p:Pg):Prop where
 c:gR p.cd 4 (p.code.map aU)
 s:gR p.sd 1 (p.aO.map av)
 i:∀x∈p.code,x.ok
 cl:p.code.length≤1048576
 sl:p.aO.length≤1048576
def Pg.cs (p:Pg):List D:=[p.cd,p.sd]
def Pg.d (p:Pg):D:=.agg p.cs
theorem jn {l:List aP} {i:Nat} {q:aP} (h:l[i]?=some q):(l.map aU)[i]?=some (aU q):=by rw[List.getElem?_map,h];rfl
theorem ey {l:List Int} {i:Nat} {q:Int} (h:l[i]?=some q):(l.map av)[i]?=some (av q):=by rw[List.getElem?_map,h];rfl
def pR (v n:Int):Bool:=decide (v≥0) &&decide (v<n)
noncomputable def dO (n ns pc:Nat) (i:aP):Bool:=
 if i.op=1 then i.y==0 &&(decide (((pc+1:Nat):Int)<n) &&i.x==0 &&iD i.rs)
 else i.rs.isEmpty &&
  (if i.op=2 then pR i.x n &&pR i.y n
  else i.y==0 &&
   (if i.op=3 then pR i.x n
   else if i.op=4 then decide (((pc+1:Nat):Int)<n) &&pR i.x 10
   else if i.op=5∨i.op=6 then decide (((pc+1:Nat):Int)<n) &&i.x==0
   else if i.op=7 then pR i.x ns
   else false))
theorem fJ {s0:St} (v n:Int):Ev pv 53 [.int .i64 v,.int .i64 n] s0 (.bool (pR v n)) s0:=by
 refine Ev.nV rfl NB rfl rfl rfl ?_;dsimp only[u3,u4,List.length,Nat.reduceSub,Nat.reduceAdd,w1,w2];obtain⟨cn,hF,hH⟩:=ri s0;generalize aq .ro s0=S at*;refine qq<|qj fun K hK=>qm ?_;refine qe hK<|qq<|ag.jY 4 (.bool (decide (v≥0) &&decide (v<n))) [] ?_ (fun ff tmp=>?_)
 ·refine qm ?_;refine qg ?_;refine qm ?_;refine ab.two 7 rfl (fun bH=>?_) (fun bH=>?_)
  ·refine qm ?_ (hg:=wi bH);refine qm ?_ (hg:=wi bH);refine qg ?_ (hg:=wi bH);refine qt bH ?_;refine qm ?_;refine ab.nil (aW ?_);dsimp only[aJ,List.foldl,nth,u2,u1];dsimp only[Fr.aC,Fr.put,Fr.clean,Fr.ev,Fr.get,nth,V.look,u1,u2,v1,v2,v3,v4,v5,v6,v7,List.length,u3,u4,Nat.reduceSub,Nat.reduceAdd,List.map]
   all_goals(simp[bH];done)
  ·refine qs ?_ (hg:=wn bH);refine qs ?_ (hg:=wn bH);refine qs ?_ (hg:=wn bH);refine qu bH ?_;refine qm ?_;refine ab.nil (aW ?_);dsimp only[aJ,List.foldl,nth,u2,u1];dsimp only[Fr.aC,Fr.put,Fr.clean,Fr.ev,Fr.get,nth,V.look,u1,u2,v1,v2,v3,v4,v5,v6,v7,List.length,u3,u4,Nat.reduceSub,Nat.reduceAdd,List.map]
   all_goals(simp[bH];done)
 dsimp only[aJ,List.foldl,nth,u2,u1];refine ag.ret ⟨rx,_,rfl,rl cn hH (rfl)⟩
theorem vX {s0:St} {p:Pg} {pc:Nat} {i:aP} (hp:p.ok) (hi:p.code[pc]?=some i):Ev pv 52 [p.d,.int .i64 (pc:Nat)] s0 (.bool (dO p.code.length p.aO.length pc i)) s0:=by
 refine Ev.nV rfl NC rfl rfl rfl ?_;dsimp only[u3,u4,List.length,Nat.reduceSub,Nat.reduceAdd,w1,w2];obtain⟨cn,hF,hH⟩:=ri s0;generalize aq .ro s0=S at*;have hc:=hp.c.arg s0.bs.length S;have hs:=hp.s.arg s0.bs.length S;have O2:=hp.i i (List.mem_of_getElem? hi);have Mu:=O2.1.arg s0.bs.length S;have hil:=O2.2;have hcl:=hp.cl;have jz:=hp.sl;have hr:=jn hi;have hlt:=cq hi;unfold Pg.d;refine qq<|qj fun K hK=>qb hH fun k2 st hk2 hH=>?_;dsimp only[u2,u1,u3,u4,setMany,u5,u6,D.cells,Nat.reduceAdd,Pg.cs,aU,av] at hH;refine qm ?_;refine qe hK<|qq<|qj fun K hK=>qp (o:=0) ?_;refine ql hH aB ?_;refine qm ?_;refine qr fun PZ Mb=>?_;refine ab.eo rfl (ev rfl) (by assumption) rfl (by dsimp only[Fr.put,u1,u2]<;>rfl) ?_;refine qa hH fun k5 st JV hH=>?_;refine qS hH aB fun st hH=>?_;dsimp only[u2,u1,u3,u4,setMany,u5,u6,D.cells,Nat.reduceAdd,Pg.cs,aU,av] at hH;refine qe hK<|qq<|qj fun K hK=>qm ?_;refine qA ?_;refine qp (o:=0) ?_;refine ql hH bN ?_;refine qn ?_;simp only[List.length_map];refine qg ?_;refine qm ?_;refine qe hK<|qq<|qq<|ag.jY 36 (.bool (((i.op !=1) &&decide ((i.rs.length:Int)>0))||((i.op !=2) &&(i.y !=0)))) [18,19,20,21,22,23,24,25,26,27,28,29,30,31,32,33,34,35] ?_ (fun ff tmp=>?_)
 ·refine qp (o:=0) ?_;refine ql hH aB ?_;refine qg ?_;refine qm ?_;refine ab.two 21 rfl (fun bI=>?_) (fun bI=>?_)
  ·refine qp (o:=3) ?_ (hg:=wi bI);refine ql hH aB ?_ (hg:=wi bI);refine qn ?_ (hg:=wi bI);simp only[List.length_map];refine qg ?_ (hg:=wi bI);refine qt bI ?_;refine qm ?_;refine ab.two 27 rfl (fun ck=>?_) (fun ck=>?_)
   ·refine qs ?_ (hg:=wn ck);refine qs ?_ (hg:=wn ck);refine qs ?_ (hg:=wn ck);refine qs ?_ (hg:=wn ck);refine qs ?_;refine qs ?_;refine qs ?_;refine qs ?_ (hg:=wn ck);refine qt ck ?_;refine ab.nil (aW ?_);dsimp only[aJ,List.foldl,nth,u2,u1];dsimp only[Fr.aC,Fr.put,Fr.clean,Fr.ev,Fr.get,nth,V.look,u1,u2,v1,v2,v3,v4,v5,v6,v7,List.length,u3,u4,Nat.reduceSub,Nat.reduceAdd,List.map]
    all_goals(simp_all;done)
   ·refine qp (o:=0) ?_ (hg:=wi ck);refine ql hH aB ?_ (hg:=wi ck);refine qg ?_ (hg:=wi ck);refine qm ?_ (hg:=wi ck);refine ab.two 31 rfl (fun cA=>?_) (fun cA=>?_)
    ·refine qp (o:=2) ?_ (hg:=wi cA);refine ql hH aB ?_ (hg:=wi cA);refine qg ?_ (hg:=wi cA);refine ab.dh (aj rfl rfl rfl ck) rfl cA (by dsimp only[Fr.put,u1,u2]<;>rfl) ?_;refine qu ck ?_;refine ab.nil (aW ?_);dsimp only[aJ,List.foldl,nth,u2,u1];dsimp only[Fr.aC,Fr.put,Fr.clean,Fr.ev,Fr.get,nth,V.look,u1,u2,v1,v2,v3,v4,v5,v6,v7,List.length,u3,u4,Nat.reduceSub,Nat.reduceAdd,List.map]
     all_goals(simp_all;done)
    ·refine qs ?_ (hg:=wn cA);refine qs ?_ (hg:=wn cA);refine qs ?_ (hg:=wn cA);refine ab.cF (aj rfl rfl rfl ck) rfl cA (by dsimp only[Fr.put,u1,u2]<;>rfl) ?_;refine qu ck ?_;refine ab.nil (aW ?_);dsimp only[aJ,List.foldl,nth,u2,u1];dsimp only[Fr.aC,Fr.put,Fr.clean,Fr.ev,Fr.get,nth,V.look,u1,u2,v1,v2,v3,v4,v5,v6,v7,List.length,u3,u4,Nat.reduceSub,Nat.reduceAdd,List.map]
     all_goals(simp_all;done)
  ·refine qs ?_ (hg:=wn bI);refine qs ?_ (hg:=wn bI);refine qs ?_ (hg:=wn bI);refine qs ?_ (hg:=wn bI);refine qu bI ?_;refine qm ?_;refine qp (o:=0) ?_;refine ql hH aB ?_;refine qg ?_;refine qm ?_;refine ab.two 31 rfl (fun cA=>?_) (fun cA=>?_)
   ·refine qp (o:=2) ?_ (hg:=wi cA);refine ql hH aB ?_ (hg:=wi cA);refine qg ?_ (hg:=wi cA);refine qt cA ?_;refine qg ?_;refine ab.nil (aW ?_);dsimp only[aJ,List.foldl,nth,u2,u1];dsimp only[Fr.aC,Fr.put,Fr.clean,Fr.ev,Fr.get,nth,V.look,u1,u2,v1,v2,v3,v4,v5,v6,v7,List.length,u3,u4,Nat.reduceSub,Nat.reduceAdd,List.map]
    all_goals(simp[bI,cA];done)
   ·refine qs ?_ (hg:=wn cA);refine qs ?_ (hg:=wn cA);refine qs ?_ (hg:=wn cA);refine qu cA ?_;refine qg ?_;refine ab.nil (aW ?_);dsimp only[aJ,List.foldl,nth,u2,u1];dsimp only[Fr.aC,Fr.put,Fr.clean,Fr.ev,Fr.get,nth,V.look,u1,u2,v1,v2,v3,v4,v5,v6,v7,List.length,u3,u4,Nat.reduceSub,Nat.reduceAdd,List.map]
    all_goals(simp[bI,cA];done)
 dsimp only[aJ,List.foldl,nth,u2,u1];generalize ff 18=Sm;generalize ff 19=Sl;generalize ff 20=Sk;generalize ff 21=Sj;generalize ff 22=Si;generalize ff 23=Sh;generalize ff 24=Sg;generalize ff 25=Sf;generalize ff 26=Se;generalize ff 27=Sd;generalize ff 28=TF;generalize ff 29=TE;generalize ff 30=TD;generalize ff 31=TC;generalize ff 32=TB;generalize ff 33=TA;generalize ff 34=Tz;generalize ff 35=Ty;have JQ:(i.rs.isEmpty=!decide ((i.rs.length:Int)>0)):=by cases i.rs<;>simp<;>omega
 have hsh:dO p.code.length p.aO.length pc i=if((i.op !=1) &&decide ((i.rs.length:Int)>0))||((i.op !=2) &&(i.y !=0)) then false else
   (if i.op=1 then(decide (((pc+1:Nat):Int)<p.code.length) &&i.x==0) &&iD i.rs
   else if i.op=2 then pR i.x p.code.length &&pR i.y p.code.length
   else if i.op=3 then pR i.x p.code.length
   else if i.op=4 then decide (((pc+1:Nat):Int)<p.code.length) &&pR i.x 10
   else if i.op=5 then decide (((pc+1:Nat):Int)<p.code.length) &&i.x==0
   else if i.op=6 then decide (((pc+1:Nat):Int)<p.code.length) &&i.x==0
   else if i.op=7 then pR i.x p.aO.length
   else false):=by
  unfold dO;rw[JQ];generalize decide ((i.rs.length:Int)>0)=b
  by_cases h1:i.op=1
  ·have h2:i.op≠2:=by omega
   simp only[h1];cases b<;>by_cases hy:i.y=0<;>simp[hy]
  ·by_cases h2:i.op=2
   ·simp only[h2];cases b<;>simp
   ·by_cases Pa:i.op=5
    ·simp only[Pa];cases b<;>by_cases hy:i.y=0<;>simp[hy]
    ·cases b<;>by_cases hy:i.y=0<;>simp[h1,h2,Pa,hy]
 rw[hsh];refine qc (fun h0=>?_) (fun h0=>?_)<;>try simp only[cs] at h0
 ·refine qq<|qj fun K hK=>qm ?_;refine qe hK ?_;rw[if_pos h0];refine ag.ret ⟨rx,_,rfl,rl cn hH (rfl)⟩
 ·rw[if_neg (by rw[h0];simp)];refine ag.skip<|qq<|qq<|qj fun K hK=>qp (o:=0) ?_;refine ql hH aB ?_;refine qe hK<|ag.block<|qq<|qj fun K hK=>qg ?_;refine qm ?_;refine qe hK ?_;refine ag.cond (by rfl) (fun h1=>?_) (fun h1=>?_)<;>try simp only[beq_iff_eq,beq_eq_false_iff_ne,ne_eq] at h1
  ·rw[if_pos h1];refine qq<|ag.jY 4 (.bool ((decide (((pc+1:Nat):Int)<p.code.length) &&(i.x==0)) &&iD i.rs)) [] ?_ (fun ff tmp=>?_)
   ·refine qm ?_;refine qm ?_;refine ab.two 42 rfl (fun cY=>?_) (fun cY=>?_)
    ·refine qp (o:=1) ?_ (hg:=wi cY);refine ql hH aB ?_ (hg:=wi cY);refine qg ?_ (hg:=wi cY);refine qt cY ?_;refine qm ?_;refine ab.two 47 rfl (fun ef=>?_) (fun ef=>?_)
     ·refine qp (o:=3) ?_ (hg:=wi ef);refine ql hH aB ?_ (hg:=wi ef);refine qv (ry (Mu.rows hH) hil) ?_ (hg:=wi ef);refine qt ef ?_;refine qm ?_;refine ab.nil (aW ?_);dsimp only[aJ,List.foldl,nth,u2,u1];dsimp only[Fr.aC,Fr.put,Fr.clean,Fr.ev,Fr.get,nth,V.look,u1,u2,v1,v2,v3,v4,v5,v6,v7,List.length,u3,u4,Nat.reduceSub,Nat.reduceAdd,List.map]
      all_goals(simp[cY,ef];done)
     ·refine qs ?_ (hg:=wn ef);refine qs ?_ (hg:=wn ef);refine qs ?_ (hg:=wn ef);refine qu ef ?_;refine qm ?_;refine ab.nil (aW ?_);dsimp only[aJ,List.foldl,nth,u2,u1];dsimp only[Fr.aC,Fr.put,Fr.clean,Fr.ev,Fr.get,nth,V.look,u1,u2,v1,v2,v3,v4,v5,v6,v7,List.length,u3,u4,Nat.reduceSub,Nat.reduceAdd,List.map]
      all_goals(simp[cY,ef];done)
    ·refine qs ?_ (hg:=wn cY);refine qs ?_ (hg:=wn cY);refine qs ?_ (hg:=wn cY);refine qu cY ?_;refine qm ?_;refine qs ?_;refine qs ?_;refine qs ?_;refine qg ?_;refine qm ?_;refine ab.nil (aW ?_);dsimp only[aJ,List.foldl,nth,u2,u1];dsimp only[Fr.aC,Fr.put,Fr.clean,Fr.ev,Fr.get,nth,V.look,u1,u2,v1,v2,v3,v4,v5,v6,v7,List.length,u3,u4,Nat.reduceSub,Nat.reduceAdd,List.map]
     all_goals(simp[cY];done)
   dsimp only[aJ,List.foldl,nth,u2,u1];refine ag.ret ⟨rx,_,rfl,rl cn hH (rfl)⟩
  ·rw[if_neg h1];refine qq<|qj fun K hK=>qg ?_;refine qm ?_;refine qe hK ?_;refine ag.cond (by rfl) (fun h2=>?_) (fun h2=>?_)<;>try simp only[beq_iff_eq,beq_eq_false_iff_ne,ne_eq] at h2
   ·rw[if_pos h2];refine qq<|ag.jY 4 (.bool (pR i.x p.code.length &&pR i.y p.code.length)) [] ?_ (fun ff tmp=>?_)
    ·refine qp (o:=1) ?_;refine ql hH aB ?_;refine qp (o:=0) ?_;refine ql hH bN ?_;refine qn ?_;simp only[List.length_map];refine qv (fJ _ _) ?_;refine qm ?_;refine ab.two 60 rfl (fun ef=>?_) (fun ef=>?_)
     ·refine qp (o:=2) ?_ (hg:=wi ef);refine ql hH aB ?_ (hg:=wi ef);refine qp (o:=0) ?_ (hg:=wi ef);refine ql hH bN ?_ (hg:=wi ef);refine qn ?_ (hg:=wi ef);simp only[List.length_map];refine qv (fJ _ _) ?_ (hg:=wi ef);refine qt ef ?_;refine qm ?_;refine ab.nil (aW ?_);dsimp only[aJ,List.foldl,nth,u2,u1];dsimp only[Fr.aC,Fr.put,Fr.clean,Fr.ev,Fr.get,nth,V.look,u1,u2,v1,v2,v3,v4,v5,v6,v7,List.length,u3,u4,Nat.reduceSub,Nat.reduceAdd,List.map]
      all_goals(simp[ef];done)
     ·refine qs ?_ (hg:=wn ef);refine qs ?_ (hg:=wn ef);refine qs ?_ (hg:=wn ef);refine qs ?_ (hg:=wn ef);refine qs ?_ (hg:=wn ef);refine qs ?_ (hg:=wn ef);refine qu ef ?_;refine qm ?_;refine ab.nil (aW ?_);dsimp only[aJ,List.foldl,nth,u2,u1];dsimp only[Fr.aC,Fr.put,Fr.clean,Fr.ev,Fr.get,nth,V.look,u1,u2,v1,v2,v3,v4,v5,v6,v7,List.length,u3,u4,Nat.reduceSub,Nat.reduceAdd,List.map]
      all_goals(simp[ef];done)
    dsimp only[aJ,List.foldl,nth,u2,u1];refine ag.ret ⟨rx,_,rfl,rl cn hH (rfl)⟩
   ·rw[if_neg h2];refine qq<|qj fun K hK=>qg ?_;refine qm ?_;refine qe hK ?_;refine ag.cond (by rfl) (fun h3=>?_) (fun h3=>?_)<;>try simp only[beq_iff_eq,beq_eq_false_iff_ne,ne_eq] at h3
    ·rw[if_pos h3];refine qq<|qj fun K hK=>qp (o:=1) ?_;refine ql hH aB ?_;refine qp (o:=0) ?_;refine ql hH bN ?_;refine qn ?_;simp only[List.length_map];refine qv (fJ _ _) ?_;refine qm ?_;refine qe hK<|ag.ret ⟨rx,_,rfl,rl cn hH (rfl)⟩
    ·rw[if_neg h3];refine qq<|qj fun K hK=>qg ?_;refine qm ?_;refine qe hK ?_;refine ag.cond (by rfl) (fun h4=>?_) (fun h4=>?_)<;>try simp only[beq_iff_eq,beq_eq_false_iff_ne,ne_eq] at h4
     ·rw[if_pos h4];refine qq<|ag.jY 4 (.bool (decide (((pc+1:Nat):Int)<p.code.length) &&pR i.x 10)) [] ?_ (fun ff tmp=>?_)
      ·refine qm ?_;refine qm ?_;refine ab.two 79 rfl (fun cY=>?_) (fun cY=>?_)
       ·refine qp (o:=1) ?_ (hg:=wi cY);refine ql hH aB ?_ (hg:=wi cY);refine qv (fJ _ _) ?_ (hg:=wi cY);refine qt cY ?_;refine qm ?_;refine ab.nil (aW ?_);dsimp only[aJ,List.foldl,nth,u2,u1];dsimp only[Fr.aC,Fr.put,Fr.clean,Fr.ev,Fr.get,nth,V.look,u1,u2,v1,v2,v3,v4,v5,v6,v7,List.length,u3,u4,Nat.reduceSub,Nat.reduceAdd,List.map]
        all_goals(simp[cY];done)
       ·refine qs ?_ (hg:=wn cY);refine qs ?_ (hg:=wn cY);refine qs ?_ (hg:=wn cY);refine qu cY ?_;refine qm ?_;refine ab.nil (aW ?_);dsimp only[aJ,List.foldl,nth,u2,u1];dsimp only[Fr.aC,Fr.put,Fr.clean,Fr.ev,Fr.get,nth,V.look,u1,u2,v1,v2,v3,v4,v5,v6,v7,List.length,u3,u4,Nat.reduceSub,Nat.reduceAdd,List.map]
        all_goals(simp[cY];done)
      dsimp only[aJ,List.foldl,nth,u2,u1];refine ag.ret ⟨rx,_,rfl,rl cn hH (rfl)⟩
     ·rw[if_neg h4];refine qq<|qq<|qj fun K hK=>qg ?_;refine qm ?_;refine qe hK ?_
      by_cases h5:i.op=5
      ·rw[if_pos h5];refine qD rfl (by simp[h5]) ?_;refine ag.skip<|qD rfl (by simp[h5]) ?_;refine qq<|ag.jY 4 (.bool (decide (((pc+1:Nat):Int)<p.code.length) &&(i.x==0))) [] ?_ (fun ff tmp=>?_)
       ·refine qm ?_;refine qm ?_;refine ab.two 88 rfl (fun cY=>?_) (fun cY=>?_)
        ·refine qp (o:=1) ?_ (hg:=wi cY);refine ql hH aB ?_ (hg:=wi cY);refine qg ?_ (hg:=wi cY);refine qt cY ?_;refine qm ?_;refine ab.nil (aW ?_);dsimp only[aJ,List.foldl,nth,u2,u1];dsimp only[Fr.aC,Fr.put,Fr.clean,Fr.ev,Fr.get,nth,V.look,u1,u2,v1,v2,v3,v4,v5,v6,v7,List.length,u3,u4,Nat.reduceSub,Nat.reduceAdd,List.map]
         all_goals(simp[cY];done)
        ·refine qs ?_ (hg:=wn cY);refine qs ?_ (hg:=wn cY);refine qs ?_ (hg:=wn cY);refine qu cY ?_;refine qm ?_;refine ab.nil (aW ?_);dsimp only[aJ,List.foldl,nth,u2,u1];dsimp only[Fr.aC,Fr.put,Fr.clean,Fr.ev,Fr.get,nth,V.look,u1,u2,v1,v2,v3,v4,v5,v6,v7,List.length,u3,u4,Nat.reduceSub,Nat.reduceAdd,List.map]
         all_goals(simp[cY];done)
       dsimp only[aJ,List.foldl,nth,u2,u1];refine ag.ret ⟨rx,_,rfl,rl cn hH (rfl)⟩
      ·rw[if_neg h5];refine qE rfl (by simp[h5]) ?_;refine qj fun K hK=>qg ?_;refine qm ?_;refine qe hK ?_;refine ag.cond (by rfl) (fun h6=>?_) (fun h6=>?_)<;>try simp only[beq_iff_eq,beq_eq_false_iff_ne,ne_eq] at h6
       ·rw[if_pos h6];refine qq<|ag.jY 4 (.bool (decide (((pc+1:Nat):Int)<p.code.length) &&(i.x==0))) [] ?_ (fun ff tmp=>?_)
        ·refine qm ?_;refine qm ?_;refine ab.two 88 rfl (fun cY=>?_) (fun cY=>?_)
         ·refine qp (o:=1) ?_ (hg:=wi cY);refine ql hH aB ?_ (hg:=wi cY);refine qg ?_ (hg:=wi cY);refine qt cY ?_;refine qm ?_;refine ab.nil (aW ?_);dsimp only[aJ,List.foldl,nth,u2,u1];dsimp only[Fr.aC,Fr.put,Fr.clean,Fr.ev,Fr.get,nth,V.look,u1,u2,v1,v2,v3,v4,v5,v6,v7,List.length,u3,u4,Nat.reduceSub,Nat.reduceAdd,List.map]
          all_goals(simp[cY];done)
         ·refine qs ?_ (hg:=wn cY);refine qs ?_ (hg:=wn cY);refine qs ?_ (hg:=wn cY);refine qu cY ?_;refine qm ?_;refine ab.nil (aW ?_);dsimp only[aJ,List.foldl,nth,u2,u1];dsimp only[Fr.aC,Fr.put,Fr.clean,Fr.ev,Fr.get,nth,V.look,u1,u2,v1,v2,v3,v4,v5,v6,v7,List.length,u3,u4,Nat.reduceSub,Nat.reduceAdd,List.map]
          all_goals(simp[cY];done)
        dsimp only[aJ,List.foldl,nth,u2,u1];refine ag.ret ⟨rx,_,rfl,rl cn hH (rfl)⟩
       ·rw[if_neg h6];refine qq<|qj fun K hK=>qg ?_;refine qm ?_;refine qe hK ?_;refine ag.cond (by rfl) (fun h7=>?_) (fun h7=>?_)<;>try simp only[beq_iff_eq,beq_eq_false_iff_ne,ne_eq] at h7
        ·rw[if_pos h7];refine qq<|qj fun K hK=>qp (o:=1) ?_;refine ql hH aB ?_;refine qp (o:=1) ?_;refine ql hH bN ?_;refine qn ?_;simp only[List.length_map];refine qv (fJ _ _) ?_;refine qm ?_;refine qe hK<|ag.ret ⟨rx,_,rfl,rl cn hH (rfl)⟩
        ·rw[if_neg h7];refine ag.skip<|qq<|qj fun K hK=>qm ?_;refine qe hK<|ag.ret ⟨rx,_,rfl,rl cn hH (rfl)⟩
def aI (fr:Go.V.Fr) (k:Nat):Go.V.D:=Go.V.nth .bp fr.loc k
def aT (b:Bool):List D:=[.bool b]
theorem nM {l:List Bool} {i:Nat} {q:Bool} (h:l[i]?=some q):(l.map aT)[i]?=some (aT q):=by rw[List.getElem?_map,h];rfl
theorem nL (l:List Bool):∀e∈l.map aT,∀d∈e,bY d=true:=by
 intro e he d hd;obtain⟨x,_,rfl⟩:=List.mem_map.1 he;simp only[aT,List.mem_cons,List.not_mem_nil,or_false] at hd;subst hd;rfl
theorem zn (l:List Bool):∀e∈l.map aT,e.length=1:=by
 intro e he;obtain⟨x,_,rfl⟩:=List.mem_map.1 he;rfl
def uB (l:List Bool):D:=.sl ((l.map aT).map (jD 1))
theorem wW (l:List Bool):gR (uB l) 1 (l.map aT):=gR.frozen (zn l) (nL l)
theorem oM (l:List Int):∀e∈l.map av,∀d∈e,bY d=true:=by
 intro e he d hd;obtain⟨x,_,rfl⟩:=List.mem_map.1 he;simp only[av,List.mem_cons,List.not_mem_nil,or_false] at hd;subst hd;rfl
theorem CG (l:List Int):∀e∈l.map av,e.length=1:=by
 intro e he;obtain⟨x,_,rfl⟩:=List.mem_map.1 he;rfl
def Dv (l:List Int):D:=.sl ((l.map av).map (jD 1))
theorem yt (l:List Int):gR (Dv l) 1 (l.map av):=gR.frozen (CG l) (oM l)
def b6 (pc:Nat) (i:aP):List Int:=
 if i.op=2 then[i.x,i.y] else if i.op=3 then[i.x] else if i.op=7 then[] else[((pc+1:Nat):Int)]
def qL (code:List aP):Prop:=∀pc i,code[pc]?=some i→∀v∈b6 pc i,0≤v∧v<code.length
theorem rk {n ns pc:Nat} {i:aP} (h:dO n ns pc i=true):∀v∈b6 pc i,0≤v∧v<n:=by
 intro v hv
 have e6:∀a b:Int,pR a b=true→0≤a∧a<b:=fun a b h=>by
  unfold pR at h;simp only[Bool.and_eq_true,decide_eq_true_eq] at h;exact⟨h.1,h.2⟩
 unfold dO at h;unfold b6 at hv
 split at h
 ·rename_i h1;rw[if_neg (by omega),if_neg (by omega),if_neg (by omega)] at hv;simp only[Bool.and_eq_true,decide_eq_true_eq] at h;simp only[List.mem_cons,List.not_mem_nil,or_false] at hv;subst hv;omega
 ·simp only[Bool.and_eq_true] at h;obtain⟨_,h⟩:=h
  split at h
  ·rename_i h2;rw[if_pos h2] at hv;simp only[Bool.and_eq_true] at h;simp only[List.mem_cons,List.not_mem_nil,or_false] at hv
   rcases hv with rfl|rfl
   ·exact e6 _ _ h.1
   ·exact e6 _ _ h.2
  ·rename_i h2;rw[if_neg h2] at hv;simp only[Bool.and_eq_true] at h;obtain⟨_,h⟩:=h
   split at h
   ·rename_i h3;rw[if_pos h3] at hv;simp only[List.mem_cons,List.not_mem_nil,or_false] at hv;subst hv;exact e6 _ _ h
   ·rename_i h3;rw[if_neg h3] at hv
    split at h
    ·rename_i h4;rw[if_neg (by omega)] at hv;simp only[Bool.and_eq_true,decide_eq_true_eq] at h;simp only[List.mem_cons,List.not_mem_nil,or_false] at hv;subst hv;omega
    ·split at h
     ·rename_i h5;rw[if_neg (by omega)] at hv;simp only[Bool.and_eq_true,decide_eq_true_eq] at h;simp only[List.mem_cons,List.not_mem_nil,or_false] at hv;subst hv;omega
     ·split at h
      ·rename_i h7;rw[if_pos h7] at hv;cases hv
      ·cases h
def y9 (code:List aP):Nat→List Bool→List Int→List Bool
 |0,seen,_=>seen
 |_+1,seen,[]=>seen
 |f+1,seen,v::dE=>match seen[v.toNat]? with
  |some false=>match code[v.toNat]? with
   |some i=>y9 code f (seen.set v.toNat true) ((b6 v.toNat i).reverse++dE)
   |none=>seen
  |_=>y9 code f seen dE
def et (code:List aP) (start:Int):List Bool:=y9 code (3*code.length+1) (List.replicate code.length false) [start]
theorem qJ (code:List aP):∀(f:Nat) (seen:List Bool) (dE:List Int),(y9 code f seen dE).length=seen.length
 |0,_,_=>rfl
 |_+1,_,[]=>rfl
 |f+1,seen,v::dE=>by
  unfold y9
  split
  ·split
   ·rw[qJ code f];simp
   ·rfl
  ·exact qJ code f seen dE
theorem tz (code:List aP) (s:Int):(et code s).length=code.length:=by
 unfold et;rw[qJ];simp
theorem count_set {seen:List Bool} {k:Nat} (h:seen[k]?=some false):(seen.set k true).count false+1=seen.count false:=by
 induction seen generalizing k with
 |nil=>simp at h
 |cons b l ih=>
  cases k with
  |zero=>simp at h;subst h;simp
  |succ k=>
   have:=ih (k:=k) (by simpa using h);simp only[List.set_cons_succ,List.count_cons];omega
theorem yd (pc:Nat) (i:aP):(b6 pc i).length≤2:=by
 unfold b6;split
 ·simp
 ·split
  ·simp
  ·split<;>simp
theorem xw (v:Int) (r:List Int):((v::r).reverse.map av)[r.length]?=some (av v):=by
 rw[List.getElem?_map,List.reverse_cons,List.getElem?_append_right (by simp)];simp
theorem zM (v:Int) (r:List Int):(((v::r).reverse.map av).take r.length).drop 0=r.reverse.map av:=by
 rw[List.reverse_cons,List.map_append,List.drop_zero,List.take_left' (by simp)]
theorem C7 {s0:St} {cd:D} {code:List aP} {start:Int} (p_:gR cd 4 (code.map aU)) (hlen:code.length≤1048576) (hcl:qL code) (fK:0≤start∧start<code.length):Ev pv 54 [cd,.int .i64 start] s0 (uB (et code start)) s0:=by
 refine Ev.nV rfl NA rfl rfl rfl ?_;dsimp only[u3,u4,List.length,Nat.reduceSub,Nat.reduceAdd,w1,w2];obtain⟨cn,hF,hH⟩:=ri s0;generalize aq .ro s0=S at*;have hc:=p_.arg s0.bs.length S;refine qq<|qj fun K hK=>qm ?_;refine qe hK<|qq<|qj fun K hK=>qm ?_;refine qn ?_;simp only[List.length_map];refine ab.sq (s:=1) hH rfl rfl rfl rfl rfl rfl rfl rfl (Nat.le_of_ble_eq_true rfl) (by omega) (fun _=>by dsimp only[Fr.put,u1,u2]<;>rfl) (fun k11 st JZ hH=>?_);refine qm ?_;refine qe hK<|qq<|qj fun K hK=>qm ?_;refine qh (s:=1) (vs:=[_]) hH fun k13 st Hy hH=>?_;refine qm ?_;refine qe hK<|qq<|ag.block<|ag.loop (fun mm fr st=>∃(y z:D) (seen:List Bool) (dE:List Int),fr.clean=⟨41,[cd,aI fr 1,aI fr 2,aI fr 3,.nul,y,z,aI fr 7,aI fr 8,aI fr 9,aI fr 10,aI fr 11,aI fr 12,aI fr 13,aI fr 14,aI fr 15,aI fr 16,aI fr 17,aI fr 18,aI fr 19,aI fr 20,aI fr 21,aI fr 22,aI fr 23,aI fr 24,aI fr 25,aI fr 26,aI fr 27,aI fr 28,aI fr 29,aI fr 30,aI fr 31,aI fr 32,aI fr 33,aI fr 34,aI fr 35,aI fr 36,aI fr 37,aI fr 38,aI fr 39,aI fr 40],[]⟩∧Has s0.bs.length S st [.aN z 1 (dE.reverse.map av),.aN y 1 (seen.map aT)]∧(y9 code mm seen dE=et code start)∧(3*seen.count false+dE.length≤mm)∧(seen.length=code.length)∧(∀v∈dE,0≤v∧v<(code.length:Int))∧(mm≤3*code.length+1)) (3*code.length+1) ?_ ?_
 ·exact⟨_,_,List.replicate code.length false,[start],rfl,(by rw[List.map_replicate];exact hH),rfl,by simp,by simp,by simpa using fK,by omega⟩
 rintro mm fr st ⟨y,z,seen,dE,hfr,hH,hd,hm,jz,hsk,te⟩;rw[hfr];clear hfr;generalize aI fr=ee;clear fr
 rcases dE with _|⟨v,dE⟩
 ·refine qq<|qq<|qj fun K hK=>qm ?_;refine qn ?_ (hR:=hH.rows aB);simp only[List.length_map,List.length_nil,List.length_reverse];refine qg ?_;refine qe hK<|ag.cond (v:=false) (by dsimp only[Fr.ev,Fr.get,nth,V.look];rfl) (fun h=>by cases h) (fun _=>?_);refine ag.exit<|qq<|qj fun K hK=>qm ?_;refine qm ?_;refine qe hK ?_;have eE:seen=et code start:=by rw[←hd];cases mm<;>rfl
  rw[←eE];refine ag.ret ⟨rx,_,rfl,rl cn hH ?_⟩;exact hH.freeze bN (nL _) (n:=15) (by decide)
 ·have hv:=hsk v (List.mem_cons_self ..);obtain⟨k,rfl⟩:=Int.eq_ofNat_of_zero_le hv.1;have hk:k<code.length:=by omega
  simp only[List.length_cons] at hm
  obtain⟨mm,rfl⟩:∃m',mm=m'+1:=⟨mm-1,by omega⟩
  obtain⟨b,hb⟩:∃b,seen[k]?=some b:=⟨seen[k]'(by omega),List.getElem?_eq_getElem _⟩
  obtain⟨i,hi⟩:∃i,code[k]?=some i:=⟨code[k]'(by omega),List.getElem?_eq_getElem _⟩
  have gM:=xw (k:Int) dE;have nh:=nM hb;have Qs:=jn hi;refine qq<|qq<|qj fun K hK=>qm ?_;refine qn ?_ (hR:=hH.rows aB);simp only[List.length_map,List.length_cons,List.length_reverse];refine qg ?_;refine qe hK<|qD rfl (by simp) ?_;refine ag.skip<|ag.block<|qq<|qj fun K hK=>qm ?_;refine qm ?_;refine qn ?_ (hR:=hH.rows aB);simp only[List.length_map,List.length_cons,List.length_reverse];refine ab.j7 (z:=((dE.length:Nat):Int)) rfl (ev rfl) (ev rfl) (by(try simp only[List.length_reverse,List.length_cons,List.length_nil,List.length_append,List.length_map,List.length_set]);rw[wrap_i64 (by omega) (by omega)]<;>omega) (by dsimp only[Fr.put,u1,u2]<;>rfl) ?_;refine qi hH aB fun KA CQ=>?_;refine qo hH aB ?_;refine qm ?_;refine qe hK<|qq<|qj fun K hK=>qm ?_;refine qm ?_;refine qn ?_ (hR:=hH.rows aB);simp only[List.length_map,List.length_cons,List.length_reverse];refine ab.j7 (z:=((dE.length:Nat):Int)) rfl (ev rfl) (ev rfl) (by(try simp only[List.length_reverse,List.length_cons,List.length_nil,List.length_append,List.length_map,List.length_set]);rw[wrap_i64 (by omega) (by omega)]<;>omega) (by dsimp only[Fr.put,u1,u2]<;>rfl) ?_;refine ab.tH hH rfl (ev rfl) (by exact aB) rfl rfl (ju (by simp only[List.length_map,List.length_reverse,List.length_cons,List.length_append,List.length_nil,List.length_take,List.length_drop,List.length_set,List.length_replicate];omega)) ⟨(by omega),(by simp only[List.length_map,List.length_reverse,List.length_cons,List.length_append,List.length_nil,List.length_take,List.length_drop,List.length_set,List.length_replicate];omega)⟩ (fun _=>by dsimp only[Fr.put,u1,u2]<;>rfl) (fun Ss hH=>?_);refine qm ?_;refine qe hK ?_;dsimp only[u2] at hH;rw[zM] at hH;have fK:∀w∈dE,0≤w∧w<(code.length:Int):=fun w hw=>hsk w (List.mem_cons_of_mem _ hw);refine qq<|qq<|qj fun K hK=>qm ?_;refine qm ?_;refine qi hH bN fun Ox JD=>?_;refine qo hH bN ?_;refine qe hK ?_
  cases b with
  |true=>
   refine qB ?_;refine ag.exit ?_;simp only[y9,Int.toNat_natCast,hb] at hd;exact⟨mm,by omega,⟨_,_,seen,dE,rfl,hH,hd,by omega,jz,fK,by omega⟩⟩
  |false=>
   have J':=count_set hb;have ft:(seen.set k true).map aT=(seen.map aT).set k [.bool true]:=by rw[List.map_set];rfl
   simp only[y9,Int.toNat_natCast,hb,hi] at hd;have yB:=hcl k i hi;have OV:=yd k i
   have LF:∀w∈(b6 k i).reverse++dE,0≤w∧w<(code.length:Int):=fun w hw=>by
    rcases List.mem_append.1 hw with hw|hw
    ·exact yB w (List.mem_reverse.1 hw)
    ·exact fK w hw
   have LL:(((b6 k i).reverse++dE).reverse).map av=dE.reverse.map av++(b6 k i).map av:=by
    rw[List.reverse_append,List.reverse_reverse,List.map_append]
   refine qC ?_;refine ag.skip<|qq<|qj fun K hK=>qm ?_;refine qm ?_;refine qi hH bN fun S3 QS=>?_;refine ab.jO hH rfl (ev rfl) (ev rfl) (by assumption) rfl rfl (by exact bN) (by assumption) (Nat.le_of_ble_eq_true rfl) (by exact .inl hF) (fun st hH=>?_);dsimp only[u2,u1,u3,u4,setMany,u5,u6,D.cells,Nat.reduceAdd,aU,av,aT] at hH;refine qe hK<|qq<|qj fun K hK=>qm ?_;refine qm ?_;refine qr fun S0 QQ=>?_;refine ab.eo rfl (ev rfl) (by assumption) rfl (by dsimp only[Fr.put,u1,u2]<;>rfl) ?_;refine qa hH fun k8 st Mj hH=>?_;refine qS hH aB fun st hH=>?_;dsimp only[u2,u1,u3,u4,setMany,u5,u6,D.cells,Nat.reduceAdd,aU,av,aT] at hH;refine qe hK<|qq<|qj fun K hK=>qp (o:=0) ?_;refine ql hH aB ?_;refine qe hK<|ag.merge (fun fr st=>∃(z:D) (tmp:List (Nat×D)),fr=⟨41,[cd,aI fr 1,aI fr 2,aI fr 3,.nul,y,z,aI fr 7,aI fr 8,aI fr 9,aI fr 10,aI fr 11,aI fr 12,aI fr 13,aI fr 14,aI fr 15,aI fr 16,aI fr 17,aI fr 18,aI fr 19,aI fr 20,aI fr 21,aI fr 22,aI fr 23,aI fr 24,aI fr 25,aI fr 26,aI fr 27,aI fr 28,aI fr 29,aI fr 30,aI fr 31,aI fr 32,aI fr 33,aI fr 34,aI fr 35,aI fr 36,aI fr 37,aI fr 38,aI fr 39,aI fr 40],tmp⟩∧Has s0.bs.length S st [.aN z 1 (dE.reverse.map av++(b6 k i).map av),.aN y 1 ((seen.map aT).set k [.bool true])]) ?_ ?_
   ·refine ag.block<|qq<|qj fun K hK=>qg ?_;refine qm ?_;refine qe hK ?_;refine ag.cond (by rfl) (fun h2=>?_) (fun h2=>?_)<;>try simp only[beq_iff_eq,beq_eq_false_iff_ne,ne_eq] at h2
    ·have:b6 k i=[i.x,i.y]:=by unfold b6;rw[if_pos h2]
     rw[this];refine qj fun K hK=>qm ?_;refine qp (o:=1) ?_;refine ql hH aB ?_;refine qp (o:=2) ?_;refine ql hH aB ?_;refine qh (s:=1) (vs:=[_,_]) hH fun k53 st Rh hH=>?_;refine ab.cu (s:=1) hH rfl (ev rfl) (ev rfl) (by exact ei) (by exact hH.rows (by exact aB)) rfl rfl rfl rfl rfl rfl rfl ⟨(Nat.le_of_ble_eq_true rfl),(Nat.le_of_ble_eq_true rfl)⟩ (fun _=>(ae rfl _)) (by simp only[List.length_cons,List.length_nil,List.length_map,List.length_reverse]<;>omega) (by exact .inl hF) (fun Sw st hH=>?_);dsimp only[u2,u1,u3,u4,setMany,u5,u6,D.cells,Nat.reduceAdd,aU,av,aT] at hH;refine qm ?_;refine qe hK ?_;exact⟨_,_,rfl,(by have:=hH.drop 2;exact this)⟩
    ·refine qq<|qj fun K hK=>qg ?_;refine qm ?_;refine qe hK ?_;refine ag.cond (by rfl) (fun h3=>?_) (fun h3=>?_)<;>try simp only[beq_iff_eq,beq_eq_false_iff_ne,ne_eq] at h3
     ·have:b6 k i=[i.x]:=by unfold b6;rw[if_neg h2,if_pos h3]
      rw[this];refine qj fun K hK=>qm ?_;refine qp (o:=1) ?_;refine ql hH aB ?_;refine qh (s:=1) (vs:=[_]) hH fun k60 st Rf hH=>?_;refine ab.cu (s:=1) hH rfl (ev rfl) (ev rfl) (by exact ei) (by exact hH.rows (by exact aB)) rfl rfl rfl rfl rfl rfl rfl ⟨(Nat.le_of_ble_eq_true rfl),(Nat.le_of_ble_eq_true rfl)⟩ (fun _=>(ae rfl _)) (by simp only[List.length_cons,List.length_nil,List.length_map,List.length_reverse]<;>omega) (by exact .inl hF) (fun Sv st hH=>?_);dsimp only[u2,u1,u3,u4,setMany,u5,u6,D.cells,Nat.reduceAdd,aU,av,aT] at hH;refine qm ?_;refine qe hK ?_;exact⟨_,_,rfl,(by have:=hH.drop 2;exact this)⟩
     ·refine qq<|qj fun K hK=>qg ?_;refine qm ?_;refine qe hK ?_;refine ag.cond (by rfl) (fun h7=>?_) (fun h7=>?_)<;>try simp only[beq_iff_eq,beq_eq_false_iff_ne,ne_eq] at h7
      ·have:b6 k i=[]:=by unfold b6;rw[if_neg h2,if_neg h3,if_pos h7]
       rw[this,List.map_nil,List.append_nil];refine ag.skip ?_;exact⟨_,_,rfl,(by have:=hH.drop 1;exact this)⟩
      ·have:b6 k i=[((k+1:Nat):Int)]:=by unfold b6;rw[if_neg h2,if_neg h3,if_neg h7]
       rw[this];refine qj fun K hK=>qm ?_;refine qm ?_;refine qA ?_;refine qh (s:=1) (vs:=[_]) hH fun k44 st Rn hH=>?_;refine ab.cu (s:=1) hH rfl (ev rfl) (ev rfl) (by exact ei) (by exact hH.rows (by exact aB)) rfl rfl rfl rfl rfl rfl rfl ⟨(Nat.le_of_ble_eq_true rfl),(Nat.le_of_ble_eq_true rfl)⟩ (fun _=>(ae rfl _)) (by simp only[List.length_cons,List.length_nil,List.length_map,List.length_reverse]<;>omega) (by exact .inl hF) (fun Sx st hH=>?_);dsimp only[u2,u1,u3,u4,setMany,u5,u6,D.cells,Nat.reduceAdd,aU,av,aT] at hH;refine qm ?_;refine qe hK ?_;exact⟨_,_,rfl,(by have:=hH.drop 2;exact this)⟩
   ·rintro fr st ⟨z,tmp,hfr,hH⟩;rw[hfr];clear hfr;generalize aI fr=ee;clear fr;exact⟨mm,by omega,⟨y,z,seen.set k true,(b6 k i).reverse++dE,rfl,(by rw[LL,ft];exact hH),hd,by simp only[List.length_append,List.length_reverse];omega,by simp only[List.length_set];exact jz,LF,by omega⟩⟩
def au (fr:Go.V.Fr) (k:Nat):Go.V.D:=Go.V.nth .bp fr.loc k
noncomputable def dec (q:Prop):Bool:=@decide q (Classical.propDecidable q)
theorem vG {q:Prop} (h:q):dec q=true:=@decide_eq_true q (Classical.propDecidable q) h
theorem nG {q:Prop} (h:¬q):dec q=false:=@decide_eq_false q (Classical.propDecidable q) h
def mN (p:Pg) (r:Nat) (s:Int) (n:Nat):Prop:=∀pc i,pc<n→(et p.code s)[pc]?=some true→p.code[pc]?=some i→i.op=7→i.x=(r:Int)
structure eZ (p:Pg):Prop where
 cl:p.code.length≤400
 sl:p.aO.length≤8
 sh:∀pc i,p.code[pc]?=some i→dO p.code.length p.aO.length pc i=true
 st:∀v∈p.aO,0≤v∧v<(p.code.length:Int)
 fo:∀r s,p.aO[r]?=some s→mN p r s p.code.length
theorem oZ {p:Pg} (h:∀pc i,p.code[pc]?=some i→dO p.code.length p.aO.length pc i=true):qL p.code:=
 fun pc i hi=>rk (h pc i hi)
theorem eZ.closed {p:Pg} (h:eZ p):qL p.code:=oZ h.sh
theorem e6 {a b:Int}:pR a b=true↔0≤a∧a<b:=by
 unfold pR;simp only[Bool.and_eq_true,decide_eq_true_eq,ge_iff_le]
theorem og {s0:St} {p:Pg} (hp:p.ok):Ev pv 33 [p.d] s0 (.bool (dec (eZ p))) s0:=by
 refine Ev.nV rfl NO rfl rfl rfl ?_;dsimp only[u3,u4,List.length,Nat.reduceSub,Nat.reduceAdd,w1,w2];obtain⟨cn,hF,hH⟩:=ri s0;generalize aq .ro s0=S at*;have hc:=hp.c.arg s0.bs.length S;have hs:=hp.s.arg s0.bs.length S;have p_:=hp.c;have hlen:=hp.cl;have Qk:=hp.sl;unfold Pg.d;refine qq<|qj fun K hK=>qb hH fun k1 st oa hH=>?_;dsimp only[u2,u1,u3,u4,setMany,u5,u6,D.cells,Nat.reduceAdd,Pg.cs,aU,av,aT] at hH;refine qm ?_;refine qe hK<|qq<|qq<|ag.jY 17 (.bool (decide ((p.code.length:Int)>400)||decide ((p.aO.length:Int)>8))) [8,9,10,11,12,13,14,15,16] ?_ (fun ff tmp=>?_)
 ·refine qp (o:=0) ?_;refine ql hH aB ?_;refine qn ?_;simp only[List.length_map];refine qg ?_;refine qm ?_;refine ab.two 12 rfl (fun eA=>?_) (fun eA=>?_)
  ·refine qs ?_ (hg:=wn eA);refine qs ?_ (hg:=wn eA);refine qs ?_ (hg:=wn eA);refine qs ?_ (hg:=wn eA);refine qt eA ?_;refine ab.nil (aW ?_);dsimp only[aJ,List.foldl,nth,u2,u1];dsimp only[Fr.aC,Fr.put,Fr.clean,Fr.ev,Fr.get,nth,V.look,u1,u2,v1,v2,v3,v4,v5,v6,v7,List.length,u3,u4,Nat.reduceSub,Nat.reduceAdd,List.map]
   all_goals(simp[eA];done)
  ·refine qp (o:=1) ?_ (hg:=wi eA);refine ql hH aB ?_ (hg:=wi eA);refine qn ?_ (hg:=wi eA);simp only[List.length_map];refine qg ?_ (hg:=wi eA);refine qu eA ?_;refine ab.nil (aW ?_);dsimp only[aJ,List.foldl,nth,u2,u1];dsimp only[Fr.aC,Fr.put,Fr.clean,Fr.ev,Fr.get,nth,V.look,u1,u2,v1,v2,v3,v4,v5,v6,v7,List.length,u3,u4,Nat.reduceSub,Nat.reduceAdd,List.map]
   all_goals(simp[eA];done)
 dsimp only[aJ,List.foldl,nth,u2,u1];generalize ff 8=e8;generalize ff 9=e9;generalize ff 10=TL;generalize ff 11=TK;generalize ff 12=TJ;generalize ff 13=TI;generalize ff 14=TH;generalize ff 15=Sp;generalize ff 16=Sn;refine qc (fun h0=>?_) (fun h0=>?_)<;>try simp only[cs] at h0
 ·rw[nG (fun h=>by have:=h.cl;have:=h.sl;simp at h0;omega)];refine qq<|qj fun K hK=>qm ?_;refine qe hK<|ag.ret ⟨rx,_,rfl,rl cn hH (rfl)⟩
 ·have h0:p.code.length≤400∧p.aO.length≤8:=by simp at h0;omega
  refine ag.skip<|qq<|qq<|qj fun K hK=>qp (o:=0) ?_;refine ql hH aB ?_;refine qn ?_;simp only[List.length_map];refine qm ?_;refine qe hK<|ag.block<|ag.loop (fun mm fr st=>∃(i:Nat),fr.clean=⟨49,[au fr 0,.ptr k1 0 0,.bool false,au fr 3,au fr 4,au fr 5,au fr 6,au fr 7,au fr 8,au fr 9,au fr 10,au fr 11,au fr 12,au fr 13,au fr 14,au fr 15,au fr 16,au fr 17,au fr 18,au fr 19,.int .i64 (p.code.length:Nat),.int .i64 (i:Nat),au fr 22,au fr 23,au fr 24,au fr 25,au fr 26,au fr 27,au fr 28,au fr 29,au fr 30,au fr 31,au fr 32,au fr 33,au fr 34,au fr 35,au fr 36,au fr 37,au fr 38,au fr 39,au fr 40,au fr 41,au fr 42,au fr 43,au fr 44,au fr 45,au fr 46,au fr 47,au fr 48],[]⟩∧Has s0.bs.length S st [.box k1 (.mem 0 false [p.cd,p.sd])]∧(i+mm=p.code.length)∧(∀pc q,pc<i→p.code[pc]?=some q→dO p.code.length p.aO.length pc q=true)) (p.code.length) ?_ ?_
  ·exact⟨0,rfl,hH,by omega,by intro pc q h;omega⟩
  rintro mm fr st ⟨i,hfr,hH,hi,hsh⟩;rw[hfr];clear hfr;generalize au fr=ee;clear fr;refine qq<|qj fun K hK=>qg ?_;refine qe hK<|qq ?_;refine ag.cond (by rfl) (fun h1=>?_) (fun h1=>?_)<;>try simp only[decide_eq_true_eq,decide_eq_false_iff_not] at h1
  ·refine ag.skip ?_
   obtain⟨q,hq⟩:∃q,p.code[i]?=some q:=⟨p.code[i]'(by omega),List.getElem?_eq_getElem _⟩
   refine qq<|ag.block<|qq<|qj fun K hK=>qm ?_;refine qm ?_;refine qe hK<|qq<|qj fun K hK=>?_;refine ab.b9 (m:=2) hH rfl (ev rfl) (by exact aB) (by dsimp only[List.drop_succ_cons,List.drop_zero,List.take_succ_cons,List.take_zero,Pg.cs,aU,av,aT]<;>rfl) rfl rfl (by dsimp only[Fr.put,u1,u2]<;>rfl) ?_;refine qm ?_;refine qv (vX (p:=p) hp hq) ?_;refine qg ?_;refine qe hK ?_;refine ag.cond (by rfl) (fun h2=>?_) (fun h2=>?_)<;>try simp only[Bool.not_eq_true',Bool.not_eq_false'] at h2
   ·rw[nG (fun h=>by have:=h.sh i q hq;rw[this] at h2;cases h2)];refine qq<|qj fun K hK=>qm ?_;refine qe hK<|ag.ret ⟨rx,_,rfl,rl cn hH (rfl)⟩
   ·refine ag.skip<|qj fun K hK=>qA ?_;refine qm ?_;refine qe hK ?_;refine⟨mm-1,by omega,⟨i+1,rfl,hH,by omega,?_⟩⟩;intro pc q' DB n_
    by_cases he:pc=i
    ·subst he;rw[hq] at n_;cases n_;simpa using h2
    ·exact hsh pc q' (by omega) n_
  ·refine ag.exit ?_;have hsh:∀pc q,p.code[pc]?=some q→dO p.code.length p.aO.length pc q=true:=fun pc q hq=>hsh pc q (by have:=cq hq;omega) hq;have hcl:=oZ hsh;refine qq<|qq<|qj fun K hK=>qp (o:=1) ?_;refine ql hH aB ?_;refine qn ?_;simp only[List.length_map];refine qm ?_;refine qe hK<|ag.block<|ag.loop (fun mm fr st=>∃(r:Nat),fr.clean=⟨49,[au fr 0,.ptr k1 0 0,.bool false,au fr 3,au fr 4,au fr 5,au fr 6,au fr 7,au fr 8,au fr 9,au fr 10,au fr 11,au fr 12,au fr 13,au fr 14,au fr 15,au fr 16,au fr 17,au fr 18,au fr 19,au fr 20,au fr 21,au fr 22,au fr 23,au fr 24,au fr 25,au fr 26,au fr 27,au fr 28,au fr 29,p.sd,.int .i64 (p.aO.length:Nat),.int .i64 (r:Nat),au fr 33,au fr 34,au fr 35,au fr 36,au fr 37,au fr 38,au fr 39,au fr 40,au fr 41,au fr 42,au fr 43,au fr 44,au fr 45,au fr 46,au fr 47,au fr 48],[]⟩∧Has s0.bs.length S st [.box k1 (.mem 0 false [p.cd,p.sd])]∧(r+mm=p.aO.length)∧(∀r' s,r'<r→p.aO[r']?=some s→(0≤s∧s<(p.code.length:Int))∧mN p r' s p.code.length)) (p.aO.length) ?_ ?_
   ·exact⟨0,rfl,hH,by omega,by intro pc q h;omega⟩
   rintro mm fr st ⟨r,hfr,hH,hi,cI⟩;rw[hfr];clear hfr;generalize au fr=ee;clear fr;refine qq<|qj fun K hK=>qg ?_;refine qe hK<|qq ?_;refine ag.cond (by rfl) (fun h3=>?_) (fun h3=>?_)<;>try simp only[decide_eq_true_eq,decide_eq_false_iff_not] at h3
   ·refine ag.skip ?_
    obtain⟨s,nW⟩:∃s,p.aO[r]?=some s:=⟨p.aO[r]'(by omega),List.getElem?_eq_getElem _⟩
    have KI:=ey nW;refine qq<|ag.block<|qq<|qj fun K hK=>qm ?_;refine qr fun S1 QR=>?_;refine qR ?_;refine qm ?_;refine qm ?_;refine qe hK<|qq<|qq<|qj fun K hK=>qm ?_;refine qp (o:=0) ?_;refine ql hH aB ?_;refine qn ?_;simp only[List.length_map];refine qv (fJ _ _) ?_;refine qg ?_;refine qe hK ?_;refine ag.cond (by rfl) (fun h4=>?_) (fun h4=>?_)<;>try simp only[Bool.not_eq_true',Bool.not_eq_false'] at h4
    ·rw[nG (fun h=>by have:=e6.2 (h.st s (List.mem_of_getElem? nW));rw[this] at h4;cases h4)];refine qq<|qj fun K hK=>qm ?_;refine qe hK<|ag.ret ⟨rx,_,rfl,rl cn hH (rfl)⟩
    ·have JA:=e6.1 (show pR s p.code.length=true by simpa using h4);refine ag.skip ?_;have xc:=tz p.code s;have KH:=(wW (et p.code s)).arg s0.bs.length S;refine qq<|qj fun K hK=>qp (o:=0) ?_;refine ql hH aB ?_;refine qm ?_;refine qv (C7 p_ hlen hcl JA) ?_;refine qn ?_;simp only[List.length_map];refine qm ?_;refine qe hK<|ag.block<|ag.loop (fun mm fr st=>∃(i:Nat),fr.clean=⟨49,[au fr 0,.ptr k1 0 0,.bool false,au fr 3,.int .i64 (r:Nat),au fr 5,au fr 6,au fr 7,au fr 8,au fr 9,au fr 10,au fr 11,au fr 12,au fr 13,au fr 14,au fr 15,au fr 16,au fr 17,au fr 18,au fr 19,au fr 20,au fr 21,au fr 22,au fr 23,au fr 24,au fr 25,au fr 26,au fr 27,au fr 28,au fr 29,p.sd,.int .i64 (p.aO.length:Nat),.int .i64 (r:Nat),au fr 33,au fr 34,au fr 35,au fr 36,au fr 37,au fr 38,au fr 39,au fr 40,au fr 41,au fr 42,au fr 43,au fr 44,au fr 45,uB (et p.code s),.int .i64 ((et p.code s).length:Nat),.int .i64 (i:Nat)],[]⟩∧Has s0.bs.length S st [.box k1 (.mem 0 false [p.cd,p.sd])]∧(i+mm=p.code.length)∧(mN p r s i)) (p.code.length) ?_ ?_
     ·exact⟨0,rfl,hH,by omega,by intro pc q h;omega⟩
     rintro mm fr st ⟨i,hfr,hH,hj,hom⟩;rw[hfr];clear hfr;generalize au fr=ee;clear fr;refine qq<|qj fun K hK=>qg ?_;refine qe hK<|qq ?_;refine ag.cond (by rfl) (fun h5=>?_) (fun h5=>?_)<;>try simp only[decide_eq_true_eq,decide_eq_false_iff_not] at h5
     ·refine ag.skip ?_
      obtain⟨b,hb⟩:∃b,(et p.code s)[i]?=some b:=⟨(et p.code s)[i]'(by omega),List.getElem?_eq_getElem _⟩
      obtain⟨q,hq⟩:∃q,p.code[i]?=some q:=⟨p.code[i]'(by omega),List.getElem?_eq_getElem _⟩
      have gM:=nM hb;have nh:=jn hq;refine qq<|ag.block<|qq<|qj fun K hK=>qm ?_;refine qr fun PH L0=>?_;refine qR ?_;refine qm ?_;refine qm ?_;refine qe hK<|qq<|ag.l7 72 (.bool ((b &&(q.op==7)) &&(q.x !=(r:Int)))) [] ?_ (fun ff tmp il=>?_)
      ·refine qm ?_;refine qm ?_;refine ab.two 54 rfl (fun cY=>?_) (fun cY=>?_)
       ·refine qp (o:=0) ?_ (hg:=wi cY);refine ql hH aB ?_ (hg:=wi cY);refine qm ?_ (hg:=wi cY);refine qr (fun PG LZ=>?_) (hg:=wi cY);refine qf (fo:=0) (fun SR QJ=>?_) (hg:=wi cY);refine qR ?_ (hg:=wi cY);refine qg ?_ (hg:=wi cY);refine qt cY ?_;refine qm ?_;refine ab.two 63 rfl (fun aX=>?_) (fun aX=>?_)
        ·refine qp (o:=0) ?_ (hg:=wi aX);refine ql hH aB ?_ (hg:=wi aX);refine qm ?_ (hg:=wi aX);refine qr (fun SL QD=>?_) (hg:=wi aX);refine qf (fo:=1) (fun SK QC=>?_) (hg:=wi aX);refine qR ?_ (hg:=wi aX);refine qm ?_ (hg:=wi aX);refine qg ?_ (hg:=wi aX);refine qt aX ?_;refine ab.nil (dD ?_ ?_)
         ·dsimp only[aJ,List.foldl,nth,u2,u1]
          all_goals(first|rfl|simp)
         ·dsimp only[Fr.aC,Fr.put,Fr.clean,Fr.ev,Fr.get,nth,V.look,u1,u2,v1,v2,v3,v4,v5,v6,v7,List.length,u3,u4,Nat.reduceSub,Nat.reduceAdd,List.map]
          all_goals(simp[cY,aX];done)
        ·refine qs ?_ (hg:=wn aX);refine qs ?_ (hg:=wn aX);refine qs ?_ (hg:=wn aX);refine qs ?_ (hg:=wn aX);refine qs ?_ (hg:=wn aX);refine qs ?_ (hg:=wn aX);refine qs ?_ (hg:=wn aX);refine qs ?_ (hg:=wn aX);refine qu aX ?_;refine ab.nil (dD ?_ ?_)
         ·dsimp only[aJ,List.foldl,nth,u2,u1]
          all_goals(first|rfl|simp)
         ·dsimp only[Fr.aC,Fr.put,Fr.clean,Fr.ev,Fr.get,nth,V.look,u1,u2,v1,v2,v3,v4,v5,v6,v7,List.length,u3,u4,Nat.reduceSub,Nat.reduceAdd,List.map]
          all_goals(simp[cY,aX];done)
       ·refine qs ?_ (hg:=wn cY);refine qs ?_ (hg:=wn cY);refine qs ?_ (hg:=wn cY);refine qs ?_ (hg:=wn cY);refine qs ?_ (hg:=wn cY);refine qs ?_ (hg:=wn cY);refine qs ?_ (hg:=wn cY);refine qu cY ?_;refine qm ?_;refine qs ?_;refine qs ?_;refine qs ?_;refine qs ?_;refine qs ?_;refine qs ?_;refine qs ?_;refine qs ?_;refine qg ?_;refine ab.nil (dD ?_ ?_)
        ·dsimp only[aJ,List.foldl,nth,u2,u1]
         all_goals(first|rfl|simp)
        ·dsimp only[Fr.aC,Fr.put,Fr.clean,Fr.ev,Fr.get,nth,V.look,u1,u2,v1,v2,v3,v4,v5,v6,v7,List.length,u3,u4,Nat.reduceSub,Nat.reduceAdd,List.map]
         all_goals(simp[cY];done)
      dsimp only[aJ,List.foldl,nth,u2,u1];dsimp only[Fr.aC,Fr.put,Fr.clean,Fr.ev,Fr.get,nth,V.look,u1,u2,v1,v2,v3,v4,v5,v6,v7,List.length,u3,u4,Nat.reduceSub,Nat.reduceAdd,List.map];refine qc (fun h6=>?_) (fun h6=>?_)<;>try simp only[cs] at h6
      ·rw[nG (fun h=>by
        have h7:=h.fo r s nW i q (by omega);simp only[Bool.and_eq_true,beq_iff_eq,bne_iff_ne,ne_eq] at h6;obtain⟨⟨rfl,h8⟩,h9⟩:=h6
        exact h9 (h7 hb hq h8))]
       refine qq<|qj fun K hK=>qm ?_;refine qe hK<|ag.ret ⟨rx,_,rfl,rl cn hH (rfl)⟩
      ·refine ag.skip<|qj fun K hK=>qA ?_;refine qm ?_;refine qe hK ?_;refine⟨mm-1,by omega,⟨i+1,rfl,hH,by omega,?_⟩⟩;intro pc q' DB CO n_ ez
       by_cases he:pc=i
       ·subst he;rw[hq] at n_;cases n_;rw[hb] at CO;cases CO;simp[ez] at h6;exact h6
       ·exact hom pc q' (by omega) CO n_ ez
     ·refine ag.exit<|qj fun K hK=>qA ?_;refine qm ?_;refine qe hK ?_;refine⟨p.aO.length-(r+1),by omega,⟨r+1,rfl,hH,by omega,?_⟩⟩;intro r' s' Iq xb
      by_cases he:r'=r
      ·subst he;rw[nW] at xb;cases xb;exact⟨JA,fun pc q DB=>hom pc q (by omega)⟩
      ·exact cI r' s' (by omega) xb
   ·refine ag.exit ?_
    rw[vG ⟨h0.1,h0.2,hsh,fun v hv=>by
     obtain⟨r',Iq⟩:=List.getElem?_of_mem hv
     exact(cI r' v (by have:=cq Iq;omega) Iq).1,fun r' s' xb=>(cI r' s' (by have:=cq xb;omega) xb).2⟩]
    refine qq<|qj fun K hK=>qm ?_;refine qe hK<|ag.ret ⟨rx,_,rfl,rl cn hH (rfl)⟩
def jL (i:aP):aP:=⟨i.op,i.x,i.y,.sl ((i.rs.map ax).map (jD 2)),i.rs⟩
end Go.Proofs.Ytbdnabmmlbiomaa
