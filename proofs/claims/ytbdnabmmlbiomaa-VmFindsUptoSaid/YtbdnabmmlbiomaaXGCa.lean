/-
 Ranges of runes: the canonical form, by plain lists. No program in sight.
-/
import Derived.Test.YtbdnabmmlbiomaaXPx
import Derived.Test.YtbdnabmmlbiomaaXM2
import Derived.KernelRfl
set_option linter.unusedSimpArgs false
set_option linter.unusedVariables false
set_option maxRecDepth 100000
set_option maxHeartbeats 4000000
namespace Go.V
abbrev Rg:=Int×Int
def e7 (l:List Rg) (r:Int):Prop:=∃x,x∈l∧x.1≤r∧r≤x.2
theorem fk (r:Int):¬e7 [] r:=by rintro⟨x,h,_⟩;cases h
theorem bR {x:Rg} {l:List Rg} {r:Int}:e7 (x::l) r↔(x.1≤r∧r≤x.2)∨e7 l r:=by
 constructor
 ·rintro⟨y,hy,h⟩
  rcases List.mem_cons.1 hy with rfl|hy
  ·exact .inl h
  ·exact .inr ⟨y,hy,h⟩
 ·rintro(h|⟨y,hy,h⟩)
  ·exact⟨x,List.mem_cons_self ..,h⟩
  ·exact⟨y,List.mem_cons_of_mem _ hy,h⟩
theorem uE {a b:List Rg} {r:Int}:e7 (a++b) r↔e7 a r∨e7 b r:=by
 constructor
 ·rintro⟨y,hy,h⟩
  rcases List.mem_append.1 hy with hy|hy
  ·exact .inl ⟨y,hy,h⟩
  ·exact .inr ⟨y,hy,h⟩
 ·rintro(⟨y,hy,h⟩|⟨y,hy,h⟩)
  ·exact⟨y,List.mem_append_left _ hy,h⟩
  ·exact⟨y,List.mem_append_right _ hy,h⟩
theorem rk {a b:List Rg} (h:∀x,x∈a↔x∈b) (r:Int):e7 a r↔e7 b r:=by
 constructor
 ·rintro⟨y,hy,hh⟩;exact⟨y,(h y).1 hy,hh⟩
 ·rintro⟨y,hy,hh⟩;exact⟨y,(h y).2 hy,hh⟩
def canon (l:List Rg):Prop:=(∀x∈l,x.1≤x.2)∧l.Pairwise fun x y=>x.2+1<y.1
theorem jA {x:Rg} {l:List Rg} (h:canon (x::l)):canon l∧x.1≤x.2∧∀r,e7 l r→x.2+1<r:=by
 obtain⟨h1,h2⟩:=h;rw[List.pairwise_cons] at h2;refine⟨⟨fun y hy=>h1 y (List.mem_cons_of_mem _ hy),h2.2⟩,h1 x (List.mem_cons_self ..),?_⟩;rintro r ⟨y,hy,h3,h4⟩;have:=h2.1 y hy;omega
theorem l3:∀{a b:List Rg},canon a→canon b→(∀r,e7 a r↔e7 b r)→a=b
 |[],[],_,_,_=>rfl
 |[],y::b,_,hb,h=>by
  obtain⟨_,h1,_⟩:=jA hb;exact absurd ((h y.1).2 (bR.2 (.inl ⟨Int.le_refl _,h1⟩))) (fk _)
 |x::a,[],ha,_,h=>by
  obtain⟨_,h1,_⟩:=jA ha;exact absurd ((h x.1).1 (bR.2 (.inl ⟨Int.le_refl _,h1⟩))) (fk _)
 |x::a,y::b,ha,hb,h=>by
  obtain⟨ca,xa,fa⟩:=jA ha;obtain⟨cb,yb,fb⟩:=jA hb
  have low:∀{x y:Rg} {a b:List Rg},x.1≤x.2→(∀r,e7 b r→y.2+1<r)→y.1≤y.2→(∀r,e7 (x::a) r→e7 (y::b) r)→y.1≤x.1:=by
   intro x y a b hx hf hy hh
   rcases bR.1 (hh x.1 (bR.2 (.inl ⟨Int.le_refl _,hx⟩))) with h|h
   ·exact h.1
   ·have:=hf _ h;omega
  have e1:x.1=y.1:=Int.le_antisymm (low yb fa xa fun r=>(h r).2) (low xa fb yb fun r=>(h r).1)
  have up:∀{x y:Rg} {a b:List Rg},x.1≤x.2→x.1=y.1→(∀r,e7 a r→x.2+1<r)→(∀r,e7 (y::b) r→e7 (x::a) r)→y.2≤x.2:=by
   intro x y a b hx he hf hh
   rcases Int.lt_or_le x.2 y.2 with h'|h'
   ·rcases bR.1 (hh (x.2+1) (bR.2 (.inl ⟨by omega,by omega⟩))) with h|h
    ·omega
    ·have:=hf _ h;omega
   ·exact h'
  have e2:x.2=y.2:=Int.le_antisymm (up yb e1.symm fb fun r=>(h r).1) (up xa e1 fa fun r=>(h r).2);have e:x=y:=Prod.ext e1 e2;subst e
  congr 1
  refine l3 ca cb fun r=>⟨fun hr=>?_,fun hr=>?_⟩
  ·have:=fa r hr
   rcases bR.1 ((h r).1 (bR.2 (.inr hr))) with h|h
   ·omega
   ·exact h
  ·have:=fb r hr
   rcases bR.1 ((h r).2 (bR.2 (.inr hr))) with h|h
   ·omega
   ·exact h
def dj (acc:List Rg) (r:Rg):List Rg:=
 match acc with
 |[]=>[r]
 |k::rest=>if r.1≤k.2+1 then(k.1,max k.2 r.2)::rest else r::k::rest
theorem lJ:∀(l acc:List Rg),(∀x∈l,x.1≤x.2)→l.Pairwise (fun x y=>x.1≤y.1)→(∀k∈acc.head?,∀x∈l,k.1≤x.1)→(∀x∈acc,x.1≤x.2)→acc.Pairwise (fun x y=>y.2+1<x.1)→
  (∀x∈l.foldl dj acc,x.1≤x.2)∧(l.foldl dj acc).Pairwise (fun x y=>y.2+1<x.1)∧∀r,e7 (l.foldl dj acc) r↔e7 acc r∨e7 l r
 |[],acc,_,_,_,h1,h2=>⟨h1,h2,fun r=>⟨.inl,fun h=>h.resolve_right (fk r)⟩⟩
 |x::l,acc,hl,hp,hk,h1,h2=>by
  rw[List.pairwise_cons] at hp;have hx:=hl x (List.mem_cons_self ..);have gF:∀y∈l,y.1≤y.2:=fun y hy=>hl y (List.mem_cons_of_mem _ hy);rw[List.foldl_cons]
  cases acc with
  |nil=>
   obtain⟨g1,g2,g3⟩:=lJ l [x] gF hp.2 (fun k jv y hy=>by simp at jv;subst jv;exact hp.1 y hy) (fun y hy=>by simp at hy;subst hy;exact hx) (by simp);refine⟨g1,g2,fun r=>(g3 r).trans ?_⟩;rw[bR (l:=l),bR (l:=[])];constructor
   ·rintro((h|h)|h)
    ·exact .inr (.inl h)
    ·exact absurd h (fk r)
    ·exact .inr (.inr h)
   ·rintro(h|h|h)
    ·exact absurd h (fk r)
    ·exact .inl (.inl h)
    ·exact .inr h
  |cons k rest=>
   have XQ:=hk k rfl x (List.mem_cons_self ..);have hkk:=h1 k (List.mem_cons_self ..);rw[List.pairwise_cons] at h2;unfold dj
   by_cases hc:x.1≤k.2+1
   ·simp only[if_pos hc]
    obtain⟨g1,g2,g3⟩:=lJ l ((k.1,max k.2 x.2)::rest) gF hp.2 (fun q hq y hy=>by simp at hq;subst hq;have:=hp.1 y hy;simp only;omega) (fun y hy=>by
     rcases List.mem_cons.1 hy with rfl|hy
     ·simp only;omega
     ·exact h1 y (List.mem_cons_of_mem _ hy)) (by rw[List.pairwise_cons];exact⟨h2.1,h2.2⟩)
    refine⟨g1,g2,fun r=>(g3 r).trans ?_⟩;rw[bR (l:=rest),bR (l:=rest),bR (l:=l)];constructor
    ·rintro((h|h)|h)
     ·simp only at h
      by_cases hr:r≤k.2
      ·exact .inl (.inl ⟨h.1,hr⟩)
      ·exact .inr (.inl ⟨by omega,by omega⟩)
     ·exact .inl (.inr h)
     ·exact .inr (.inr h)
    ·rintro((h|h)|h|h)
     ·exact .inl (.inl ⟨h.1,by simp only;omega⟩)
     ·exact .inl (.inr h)
     ·exact .inl (.inl ⟨by simp only;omega,by simp only;omega⟩)
     ·exact .inr h
   ·simp only[if_neg hc]
    obtain⟨g1,g2,g3⟩:=lJ l (x::k::rest) gF hp.2 (fun q hq y hy=>by simp at hq;subst hq;exact hp.1 y hy) (fun y hy=>by
     rcases List.mem_cons.1 hy with rfl|hy
     ·exact hx
     ·exact h1 y hy) (by
     rw[List.pairwise_cons];refine⟨fun y hy=>?_,by rw[List.pairwise_cons];exact h2⟩
     rcases List.mem_cons.1 hy with rfl|hy
     ·omega
     ·have:=h2.1 y hy;omega)
    refine⟨g1,g2,fun r=>(g3 r).trans ?_⟩;rw[bR (l:=k::rest),bR (l:=l)];constructor
    ·rintro((h|h)|h)
     ·exact .inr (.inl h)
     ·exact .inl h
     ·exact .inr (.inr h)
    ·rintro(h|h|h)
     ·exact .inl (.inr h)
     ·exact .inl (.inl h)
     ·exact .inr h
theorem wj {l:List Rg} (h1:∀x∈l,x.1≤x.2) (h2:l.Pairwise fun x y=>x.1≤y.1):canon (l.foldl dj []).reverse∧∀r,e7 (l.foldl dj []).reverse r↔e7 l r:=by
 obtain⟨g1,g2,g3⟩:=lJ l [] h1 h2 (fun k hk=>by simp at hk) (fun x hx=>by simp at hx) List.Pairwise.nil;refine⟨⟨fun x hx=>g1 x (List.mem_reverse.1 hx),by rw[List.pairwise_reverse];exact g2⟩,fun r=>?_⟩;rw[rk (fun x=>List.mem_reverse) r,g3 r];exact⟨fun h=>h.resolve_left (fk r),.inr⟩
def mK (r:Int):Prop:=0≤r∧r≤1114111∧¬(55296≤r∧r≤57343)
def dt (x:Rg):List Rg:=
 (if max (max x.1 0) 0≤min (min x.2 1114111) 55295 then[(max (max x.1 0) 0,min (min x.2 1114111) 55295)] else[])++
 (if max (max x.1 0) 57344≤min (min x.2 1114111) 1114111 then[(max (max x.1 0) 57344,min (min x.2 1114111) 1114111)] else[])
theorem oz (x:Rg) (r:Int):e7 (dt x) r↔mK r∧x.1≤r∧r≤x.2:=by
 unfold dt mK;rw[uE]
 have one:∀(a b:Int),e7 (if a≤b then[(a,b)] else[]) r↔a≤r∧r≤b:=by
  intro a b
  split
  ·rw[bR];exact⟨fun h=>h.elim id fun h=>absurd h (fk r),.inl⟩
  ·exact⟨fun h=>absurd h (fk r),fun h=>by omega⟩
 rw[one,one];omega
theorem mq (x:Rg):∀y∈dt x,y.1≤y.2∧0≤y.1∧y.2≤1114111:=by
 intro y hy;unfold dt at hy
 rcases List.mem_append.1 hy with h|h<;>split at h<;>simp at h<;>subst h<;>simp only<;>omega
theorem oU {l all:List Rg} (hp:∀x,x∈all↔x∈l.flatMap dt) (hs:all.Pairwise fun x y=>x.1≤y.1):canon (all.foldl dj []).reverse∧∀r,e7 (all.foldl dj []).reverse r↔mK r∧e7 l r:=by
 have hle:∀x∈all,x.1≤x.2:=fun x hx=>by
  obtain⟨y,_,hy⟩:=List.mem_flatMap.1 ((hp x).1 hx);exact(mq y x hy).1
 obtain⟨g1,g2⟩:=wj hle hs;refine⟨g1,fun r=>(g2 r).trans ((rk hp r).trans ?_)⟩;constructor
 ·rintro⟨y,hy,h⟩;obtain⟨x,hx,hy⟩:=List.mem_flatMap.1 hy;have:=(oz x r).1 ⟨y,hy,h⟩;exact⟨this.1,x,hx,this.2⟩
 ·rintro⟨hr,x,hx,h⟩;obtain⟨y,hy,h'⟩:=(oz x r).2 ⟨hr,h⟩;exact⟨y,List.mem_flatMap.2 ⟨x,hx,hy⟩,h'⟩
def gA:List Rg→Int→Bool
 |[],_=>false
 |x::l,r=>(decide (x.1≤r) &&decide (r≤x.2))||gA l r
theorem uY:∀(l:List Rg) (r:Int),gA l r=true↔e7 l r
 |[],r=>⟨fun h=>(by cases h),fun h=>absurd h (fk r)⟩
 |x::l,r=>by
  rw[bR,←uY l r];simp[gA]
end Go.V
namespace Go.Proofs.Ytbdnabmmlbiomaa
open Go.V Go
def oZ (fr:Go.V.Fr) (k:Nat):Go.V.D:=Go.V.nth .bw fr.loc k
def aw (x:Rg):List D:=[.int .i32 x.1,.int .i32 x.2]
def bF (l:List Rg):D:=.sl (l.map fun x=>.agg (aw x))
theorem gL (l:List Rg):D.sl ((l.map aw).map (jK 2))=bF l:=by
 unfold bF;rw[List.map_map];rfl
theorem dU (l:List Rg):∀e∈l.map aw,∀d∈e,cw d=true:=by
 intro e he d hd;obtain⟨x,_,rfl⟩:=List.mem_map.1 he;simp only[aw,List.mem_cons,List.not_mem_nil,or_false] at hd
 rcases hd with rfl|rfl<;>rfl
theorem vU (l:List Rg):refs (l.map aw).flatten=0:=by
 induction l with
 |nil=>rfl
 |cons x l ih=>simp only[List.map_cons,List.flatten_cons,aw,List.cons_append,List.nil_append,refs,D.ref,ih];rfl
theorem km (l:List Rg):∀e∈l.map aw,e.length=2:=by
 intro e he;obtain⟨x,_,rfl⟩:=List.mem_map.1 he;rfl
theorem fh (st:St) (l:List Rg):V.Rows st 2 (bF l) (l.map aw):=by
 rw[←gL];exact Rows.ux (km l) (dU l)
theorem fJ {l:List Rg} {i:Nat} {q:Rg} (h:l[i]?=some q):(l.map aw)[i]?=some (aw q):=by rw[List.getElem?_map,h];rfl
theorem zq (l:List Rg) (q:Rg) (r:Int):gA (l++[q]) r=(gA l r||(decide (q.1≤r) &&decide (r≤q.2))):=by
 induction l with
 |nil=>simp[gA]
 |cons x l ih=>simp only[List.cons_append,gA,ih,Bool.or_assoc]
theorem BD {l:List Rg} {i:Nat} {r:Int} (h:gA (l.take i) r=true):gA l r=true:=by
 rw[uY] at h⊢;obtain⟨x,h1,h2⟩:=h;exact⟨x,List.mem_of_mem_take h1,h2⟩
theorem wK {s0:St} {x:D} {l:List Rg} {r:Int} (hx:V.Rows s0 2 x (l.map aw)) (hl:l.length≤1073741824):Ev pv 50 [x,.int .i32 r] s0 (.bool (gA l r)) s0:=by
 refine Ev.pW rfl RH rfl rfl rfl ?_;dsimp only[u3,u4,List.length,Nat.reduceSub,Nat.reduceAdd,w1,w2];obtain⟨cM,hF,hH⟩:=ri s0;generalize ak .ro s0=S at*;have hx:=Arg.of hx cM;refine qq<|qj fun K hK=>qm ?_;refine qe hK<|qq<|qq<|qj fun K hK=>qm ?_;refine qn ?_;simp only[List.length_map];refine qm ?_;refine qe hK<|af.block<|af.loop (fun mm fr st=>∃(i:Nat),fr.clean=⟨10,[x,.int .i32 r,oZ fr 2,oZ fr 3,.bool false,oZ fr 5,oZ fr 6,x,.int .i64 (l.length:Nat),.int .i64 (i:Nat)],[]⟩∧Has s0.bs.length S st []∧(i+mm=l.length)∧(gA (l.take i) r=false)) (l.length) ?_ ?_
 ·exact⟨0,rfl,hH,by omega,rfl⟩
 rintro mm fr st ⟨i,hfr,hH,hi,hn⟩;rw[hfr];clear hfr;generalize oZ fr=ee;clear fr;refine qq<|qj fun K hK=>qg ?_;refine qe hK<|qq ?_;refine af.cond (by rfl) (fun h1=>?_) (fun h1=>?_)<;>try simp only[decide_eq_true_eq,decide_eq_false_iff_not] at h1
 ·refine af.skip ?_
  obtain⟨q,hq⟩:∃q,l[i]?=some q:=⟨l[i]'(by omega),List.getElem?_eq_getElem _⟩
  have hr:=fJ hq;refine qq<|af.block<|qq<|qj fun K hK=>qr fun SR M1=>?_;refine ab.eA rfl (ev rfl) (by assumption) rfl (ae rfl _) ?_;refine qa hH fun k6 st Cm hH=>?_;refine qS hH aB fun st hH=>?_;dsimp only[u2,u1,u3,u4,setMany,u5,u6,D.cells,Nat.reduceAdd,aw] at hH;refine qe hK<|qq<|af.jy 22 (.bool (decide (r≥q.1) &&decide (r≤q.2))) [] ?_ (fun ff tmp gh=>?_)
  ·refine qm ?_;refine qp (o:=0) ?_;refine ql hH aB ?_;refine qg ?_;refine qm ?_;refine ab.two 17 rfl (fun jw=>?_) (fun jw=>?_)
   ·refine qm ?_ (hg:=wi jw);refine qp (o:=1) ?_ (hg:=wi jw);refine ql hH aB ?_ (hg:=wi jw);refine qg ?_ (hg:=wi jw);refine qt jw ?_;refine ab.nil (cX ?_ ?_)
    ·dsimp only[aM,List.foldl,nth,u2,u1]
     all_goals(first|rfl|simp)
    ·dsimp only[Fr.aF,Fr.put,Fr.clean,Fr.ev,Fr.get,nth,V.look,u1,u2,v1,v2,v3,v4,v5,v6,v7,List.length,u3,u4,Nat.reduceSub,Nat.reduceAdd,List.map]
     all_goals(simp[jw];done)
   ·refine qs ?_ (hg:=wn jw);refine qs ?_ (hg:=wn jw);refine qs ?_ (hg:=wn jw);refine qs ?_ (hg:=wn jw);refine qu jw ?_;refine ab.nil (cX ?_ ?_)
    ·dsimp only[aM,List.foldl,nth,u2,u1]
     all_goals(first|rfl|simp)
    ·dsimp only[Fr.aF,Fr.put,Fr.clean,Fr.ev,Fr.get,nth,V.look,u1,u2,v1,v2,v3,v4,v5,v6,v7,List.length,u3,u4,Nat.reduceSub,Nat.reduceAdd,List.map]
     all_goals(simp[jw];done)
  dsimp only[aM,List.foldl,nth,u2,u1];dsimp only[Fr.aF,Fr.put,Fr.clean,Fr.ev,Fr.get,nth,V.look,u1,u2,v1,v2,v3,v4,v5,v6,v7,List.length,u3,u4,Nat.reduceSub,Nat.reduceAdd,List.map]
  have ht:gA (l.take (i+1)) r=(decide (r≥q.1) &&decide (r≤q.2)):=by
   rw[List.take_add_one,hq,Option.toList_some,zq,hn];simp
  refine qc (fun h2=>?_) (fun h2=>?_)<;>try simp only[cs] at h2
  ·refine qq<|qj fun K hK=>qm ?_;refine qe hK ?_;rw[BD (i:=i+1) (by rw[ht];simp[h2])];refine af.ret ⟨rx,_,rfl,rl cM hH (rfl)⟩
  ·refine af.skip<|qj fun K hK=>qA ?_;refine qm ?_;refine qe hK ?_;exact⟨mm-1,by omega,⟨i+1,rfl,(hH.drop 1),by omega,by rw[ht];simp[h2]⟩⟩
 ·refine af.exit<|qq<|qj fun K hK=>qm ?_;refine qe hK ?_;have:gA l r=false:=by rw[←hn,List.take_of_length_le (by omega)]
  rw[this];refine af.ret ⟨rx,_,rfl,rl cM hH (rfl)⟩
def aU (fr:Go.V.Fr) (k:Nat):Go.V.D:=Go.V.nth .bw fr.loc k
def eT:List Rg:=[(0,55295),(57344,1114111)]
def pV (lo hi:Int) (p:Rg):List Rg:=if max lo p.1≤min hi p.2 then[(max lo p.1,min hi p.2)] else[]
theorem sm (q:Rg):dt q=eT.flatMap (pV (max q.1 0) (min q.2 1114111)):=by
 simp[dt,eT,pV]
theorem Aw {s0:St} (q:Rg):Ev pv 80 [.agg (aw q)] s0 (bF (dt q)) s0:=by
 refine Ev.pW rfl Rk rfl rfl rfl ?_;dsimp only[u3,u4,List.length,Nat.reduceSub,Nat.reduceAdd,w1,w2];obtain⟨cM,hF,hH⟩:=ri s0;generalize ak .ro s0=S at*;refine qq<|qj fun K hK=>qb hH fun k1 st o9 hH=>?_;dsimp only[u2,u1,u3,u4,setMany,u5,u6,D.cells,Nat.reduceAdd,aw] at hH;refine qm ?_;refine qe hK<|qq<|qj fun K hK=>qp (o:=0) ?_;refine ql hH aB ?_;refine ab.Fw (t1:=0) (t2:=0) rfl (ev rfl) (ev rfl) (by dsimp only[Fr.put,u1,u2]<;>rfl) ?_;refine qp (o:=1) ?_;refine ql hH aB ?_;refine ab.Fv (t1:=0) (t2:=0) rfl (ev rfl) (ev rfl) (by dsimp only[Fr.put,u1,u2]<;>rfl) ?_;refine qp (o:=0) ?_;refine qT hH aB fun st hH=>?_;dsimp only[u2,u1,u3,u4,setMany,u5,u6,D.cells,Nat.reduceAdd,aw] at hH;refine qp (o:=1) ?_;refine qT hH aB fun st hH=>?_;dsimp only[u2,u1,u3,u4,setMany,u5,u6,D.cells,Nat.reduceAdd,aw] at hH;refine qe hK ?_;generalize wB:max q.1 0=lo at*;generalize zk:min q.2 1114111=hi at*;refine qq<|qj fun K hK=>qm ?_;refine qe hK ?_;have hH:=hH.eB 2;refine qq<|qq<|qj fun K hK=>qg ?_;refine qg ?_;refine qh (s:=2) (vs:=[_,_]) hH fun k17 st Ql hH=>?_;dsimp only[u2,u1,u3,u4,setMany,u5,u6,D.cells,Nat.reduceAdd,aw] at hH;refine qn ?_ (hR:=hH.rows aB);simp only[List.length_map,List.length_cons,List.length_nil];refine qm ?_;refine qe hK<|af.block<|af.loop (fun mm fr st=>∃(i:Nat) (x:D),fr.clean=⟨20,[.agg (aw q),.ptr k1 0 0,.nul,x,aU fr 4,aU fr 5,aU fr 6,aU fr 7,aU fr 8,aU fr 9,aU fr 10,aU fr 11,aU fr 12,aU fr 13,aU fr 14,aU fr 15,aU fr 16,.win k17 0 0 2 2,.int .i64 2,.int .i64 (i:Nat)],[]⟩∧Has s0.bs.length S st [.aL (.win k17 0 0 2 2) 2 (eT.map aw),.aL x 2 (((eT.take i).flatMap (pV lo hi)).map aw),.box k1 (.mem 0 false [.int .i32 lo,.int .i32 hi])]∧(i+mm=2)∧(((eT.take i).flatMap (pV lo hi)).length≤i)) (2) ?_ ?_
 ·exact⟨0,.nul,rfl,hH,by omega,by simp⟩
 rintro mm fr st ⟨i,x,hfr,hH,hij,hb⟩;rw[hfr];clear hfr;generalize aU fr=ee;clear fr;refine qq<|qj fun K hK=>qg ?_;refine qe hK<|qq ?_;refine af.cond (by rfl) (fun h1=>?_) (fun h1=>?_)<;>try simp only[decide_eq_true_eq,decide_eq_false_iff_not] at h1
 ·refine af.skip ?_
  obtain⟨p,hp⟩:∃p,eT[i]?=some p:=⟨eT[i]'(by simp[eT];omega),List.getElem?_eq_getElem _⟩
  have hr:=fJ hp;refine qq<|af.block<|qq<|qj fun K hK=>qi hH aB fun OM Ky=>?_;refine ab.oM hH rfl (ev rfl) (by assumption) (by exact aB) (by assumption) rfl (ae rfl _) ?_;refine qa hH fun k5 st KK hH=>?_;refine qS hH aB fun st hH=>?_;dsimp only[u2,u1,u3,u4,setMany,u5,u6,D.cells,Nat.reduceAdd,aw] at hH;refine qe hK<|qq<|qj fun K hK=>qp (o:=0) ?_;refine ql hH eF ?_;refine qp (o:=0) ?_;refine ql hH aB ?_;refine ab.Fw (t1:=0) (t2:=0) rfl (ev rfl) (ev rfl) (ae rfl _) ?_;refine qp (o:=1) ?_;refine ql hH eF ?_;refine qp (o:=1) ?_;refine ql hH aB ?_;refine ab.Fv (t1:=0) (t2:=0) rfl (ev rfl) (ev rfl) (ae rfl _) ?_;refine qg ?_;refine qa hH fun k6 st Cm hH=>?_;refine qS hH aB fun st hH=>?_;dsimp only[u2,u1,u3,u4,setMany,u5,u6,D.cells,Nat.reduceAdd,aw] at hH;refine qe hK<|qq<|qj fun K hK=>qp (o:=0) ?_;refine ql hH aB ?_;refine qp (o:=1) ?_;refine ql hH aB ?_;refine qg ?_;refine qe hK ?_;refine af.cond (by rfl) (fun h2=>?_) (fun h2=>?_)<;>try simp only[decide_eq_true_eq,decide_eq_false_iff_not] at h2
  ·refine qj fun K hK=>qm ?_;refine ab.bf (m:=2) hH rfl (ev rfl) (by exact aB) (by dsimp only[List.drop_succ_cons,List.drop_zero,List.take_succ_cons,List.take_zero,aw]<;>rfl) rfl rfl (ae rfl _) ?_;refine qh (s:=2) (vs:=[_]) hH fun k41 st Nh hH=>?_;refine ab.bZ (s:=2) hH rfl (ev rfl) (ev rfl) (by exact fW) (by exact hH.rows (by exact aB)) rfl rfl rfl rfl rfl rfl rfl ⟨(Nat.le_of_ble_eq_true rfl),(Nat.le_of_ble_eq_true rfl)⟩ (fun _=>(ae rfl _)) (by simp only[List.length_cons,List.length_nil,List.length_map]<;>omega) (by exact .inl hF) (fun LG st hH=>?_);dsimp only[u2,u1,u3,u4,setMany,u5,u6,D.cells,Nat.reduceAdd,aw] at hH;refine qm ?_;refine qe hK<|qj fun K hK=>qA ?_;refine qm ?_;refine qe hK ?_
   have h3:(eT.take (i+1)).flatMap (pV lo hi)=(eT.take i).flatMap (pV lo hi)++[(max lo p.1,min hi p.2)]:=by
    rw[List.take_add_one,hp,List.flatMap_append];simp[pV,h2]
   exact⟨mm-1,by omega,⟨i+1,LG,rfl,(by rw[h3,List.map_append];exact hH.drop 3),by omega,by rw[h3];simp only[List.length_append,List.length_cons,List.length_nil];omega⟩⟩
  ·refine af.skip<|qj fun K hK=>qA ?_;refine qm ?_;refine qe hK ?_
   have h3:(eT.take (i+1)).flatMap (pV lo hi)=(eT.take i).flatMap (pV lo hi):=by
    rw[List.take_add_one,hp,List.flatMap_append];simp[pV,h2]
   exact⟨mm-1,by omega,⟨i+1,x,rfl,(by rw[h3];exact hH.drop 2),by omega,by rw[h3];omega⟩⟩
 ·refine af.exit<|qq<|qj fun K hK=>qm ?_;refine qm ?_;refine qe hK ?_;rw[←gL];have h3:eT.take i=eT:=List.take_of_length_le (by simp[eT];omega);rw[h3] at hH;refine af.ret ⟨rx,_,rfl,rl cM hH ?_⟩;refine Eq.trans (hH.freeze b4 (dU _) (n:=15) (by decide)) ?_;rw[sm,wB,zk]
theorem yO (q x:Rg) (h:x∈dt q):0≤x.1∧x.1≤1114111:=by
 obtain⟨h1,h2,h3⟩:=mq q x h;omega
theorem oA (q:Rg):(dt q).length≤2:=by
 unfold dt;split<;>split<;>simp
theorem iw (l:List Rg):(l.flatMap dt).length≤2*l.length:=by
 induction l with
 |nil=>simp
 |cons x l ih=>simp only[List.flatMap_cons,List.length_append,List.length_cons];have:=oA x;omega
theorem qJ:∀{l:List Rg},(∀x∈l,0≤x.1∧x.1≤1114111)→∃m:List Rs,eM m=(l.map aw).flatten∧m.map (fun x=>(x.lo,x.hi))=l
 |[],_=>⟨[],rfl,rfl⟩
 |x::l,h=>by
  obtain⟨m,h1,h2⟩:=qJ (l:=l) fun y hy=>h y (List.mem_cons_of_mem _ hy);obtain⟨h3,h4⟩:=h x (List.mem_cons_self ..);exact⟨⟨x.1,x.2,h3,h4⟩::m,by simp only[eM,h1,List.map_cons,List.flatten_cons,aw,List.cons_append,List.nil_append],by simp[h2]⟩
theorem wP (m:List Rs):eM m=((m.map fun x=>((x.lo,x.hi):Rg)).map aw).flatten:=by
 induction m with
 |nil=>rfl
 |cons x m ih=>simp only[eM,ih,List.map_cons,List.flatten_cons,aw,List.cons_append,List.nil_append]
theorem BC {N:Nat} {S st:St} {H:List bP} {j:Nat} {x:D} {l:List Rg} (hH:Has N S st H) (hj:H[j]?=some (.aL x 2 (l.map aw))) (h0:l=[]→x=.nul) (hl:l.length≤1073741824) (hr:∀y∈l,0≤y.1∧y.1≤1114111):
  ∃(ah:St) (l':List Rg),Ev pv 81 [x,.fn 82 []] st (.tup []) ah∧Has N S ah (H.set j (.aL x 2 (l'.map aw)))∧l'.Perm l∧l'.Pairwise fun a b=>a.1≤b.1:=by
 obtain⟨m,h1,h2⟩:=qJ hr;obtain⟨h3,h4⟩:=srt_facts m;have FW:m.length=l.length:=by rw[←h2];simp
 have hperm:((srt m).map fun x=>((x.lo,x.hi):Rg)).Perm l:=by rw[←h2];exact h3.map _
 have nF:((srt m).map fun x=>((x.lo,x.hi):Rg)).Pairwise fun a b=>a.1≤b.1:=by rw[List.pairwise_map];exact h4
 have hlen:(srt m).length=l.length:=h3.length_eq.trans FW;have hown:=hH.own hj;generalize wE:l.map aw=es at*;have tD:es.length=l.length:=by rw[←wE];simp
 cases hown with
 |nul=>
  have Lx:l=[]:=by cases l with|nil=>rfl|cons _ _=>simp at tD
  refine⟨st,(srt m).map fun x=>(x.lo,x.hi),Ev.jk rfl rfl,?_,hperm,nF⟩
  have:(srt m).map (fun x=>((x.lo,x.hi):Rg))=[]:=by
   cases hs:srt m with
   |nil=>rfl
   |cons a b=>rw[hs,Lx] at hlen;simp at hlen
  rw[this];exact hH.qI hj (fun _ _ _=>rfl) (Nat.le_refl _) rfl rfl .nul (fun k hk=>.inl hk) fun k hk=>by simp only[bP.aL,D.ref] at hk;omega
 |win k aA off es c hm hle hc he=>
  have hne:l≠[]:=fun e=>by have:=h0 e;cases this
  have pZ:1≤l.length:=by cases l with|nil=>exact absurd rfl hne|cons _ _=>simp
  have hk:=(hH.ok j _ hj).2 k (by simp only[bP.aL,D.ref]);have wF:(eM (srt m)).length=es.length*2:=by rw[lS,hlen,tD];omega
  have hwr:st.wr k aA off (eM (srt m))=some ⟨st.bs.set k (.mem aA true (c.take off++eM (srt m)++c.drop (off+(eM (srt m)).length))),st.flr,st.ro⟩:=
   kR hm (by omega) (iY hH hk.1 (.inr (rL _)))
  refine⟨⟨st.bs.set k (.mem aA true (c.take off++eM (srt m)++c.drop (off+(eM (srt m)).length))),st.flr,st.ro⟩,(srt m).map fun x=>(x.lo,x.hi),Ev.jk rfl ?_,?_,hperm,nF⟩
  ·show yI [.win k aA off es.length 2,.fn 82 []] st=_;have ib:(c.drop off).take (2*es.length)=eM m:=by rw[Nat.mul_comm,hc,h1]
   simp only[yI,St.mem_of hm,ib,xF,G0];rw[decide_eq_true (⟨by rw[FW,tD],by omega,by omega⟩:m.length=es.length∧1≤es.length∧es.length<1099511627776)];simp only[hwr]
  ·refine hH.qI hj (fun n hn hne=>?_) (by simp) rfl rfl ?_ (fun n hn=>.inl hn) fun n hn=>?_
   ·simp only;rw[List.getElem?_set_ne (fun e=>hne (by simp only[bP.aL,D.ref];omega))]
   ·have h9:=gm.win (st:=⟨st.bs.set k (.mem aA true (c.take off++eM (srt m)++c.drop (off+(eM (srt m)).length))),st.flr,st.ro⟩) (s:=2) k aA off (((srt m).map fun x=>((x.lo,x.hi):Rg)).map aw) (c.take off++eM (srt m)++c.drop (off+(eM (srt m)).length))
     (by simp only;rw[List.getElem?_set_self hk.2]) (by simp only[List.length_append,List.length_take,List.length_map,List.length_drop,wF];omega) ?_ (km _)
    ·simp only[List.length_map,hlen] at h9;rw[tD];exact h9
    ·have P8:(c.take off).length=off:=by simp;omega
     rw[List.append_assoc,List.drop_left' P8,←wP,List.take_left' (by simp only[List.length_map,hlen];omega)]
   ·simp only[bP.aL,D.ref] at hn;simp only[List.length_set];omega
theorem oY (l:List Rg):(l.foldl dj []).length≤l.length:=by
 have key:∀(l acc:List Rg),(l.foldl dj acc).length≤acc.length+l.length:=by
  intro l
  induction l with
  |nil=>intro acc;simp
  |cons x l ih=>
   intro acc;simp only[List.foldl_cons,List.length_cons];have:=ih (dj acc x)
   have h2:(dj acc x).length≤acc.length+1:=by
    unfold dj;split
    ·simp
    ·split<;>simp
   omega
 have:=key l []
 simpa using this
theorem FB {l:List Rg} (h:∀x∈l,0≤x.2∧x.2≤1114111):∀x∈l.foldl dj [],0≤x.2∧x.2≤1114111:=by
 have key:∀(l acc:List Rg),(∀x∈l,0≤x.2∧x.2≤1114111)→(∀x∈acc,0≤x.2∧x.2≤1114111)→∀x∈l.foldl dj acc,0≤x.2∧x.2≤1114111:=by
  intro l
  induction l with
  |nil=>intro acc _ h x hx;exact h x hx
  |cons y l ih=>
   intro acc h1 h2;refine ih _ (fun x hx=>h1 x (List.mem_cons_of_mem _ hx)) fun x hx=>?_;have hy:=h1 y (List.mem_cons_self ..);unfold dj at hx
   split at hx
   ·simp only[List.mem_cons,List.not_mem_nil,or_false] at hx;rw[hx];exact hy
   ·rename_i k rest;have hk:=h2 k (List.mem_cons_self ..)
    split at hx
    ·rcases List.mem_cons.1 hx with rfl|hx
     ·simp only;omega
     ·exact h2 x (List.mem_cons_of_mem _ hx)
    ·rcases List.mem_cons.1 hx with rfl|hx
     ·exact hy
     ·exact h2 x hx
 exact key l [] h (fun x hx=>by cases hx)
theorem Bc (h:Rg) (t:List Rg):((h::t).reverse.map aw)[t.length]?=some (aw h):=by
 rw[List.getElem?_map,List.reverse_cons,List.getElem?_append_right (by simp)];simp
theorem Bb (h h':Rg) (t:List Rg):((h::t).reverse.map aw).set t.length (aw h')=(h'::t).reverse.map aw:=by
 rw[List.reverse_cons,List.map_append,List.set_append_right _ _ (by simp)];simp
theorem xW {s0:St} {x:D} {l:List Rg} (hx:V.Rows s0 2 x (l.map aw)) (hl:l.length≤268435456):∃d,Ev pv 76 [x] s0 d s0∧∃all:List Rg,d=bF (all.foldl dj []).reverse∧all.Perm (l.flatMap dt)∧all.Pairwise fun a b=>a.1≤b.1:=by
 refine Ev.Fu rfl Ro rfl rfl rfl ?_;dsimp only[u3,u4,List.length,Nat.reduceSub,Nat.reduceAdd,w1,w2];obtain⟨cM,hF,hH⟩:=ri s0;generalize ak .ro s0=S at*;have hx:=Arg.of hx cM;have pa:=iw l
 have hfi:∀i,((l.take i).flatMap dt).length≤2*l.length:=fun i=>by
  have:=iw (l.take i);simp only[List.length_take] at this;omega
 refine qq<|qj fun K hK=>qm ?_;refine qe hK<|qq<|qj fun K hK=>qm ?_;refine qm ?_;refine qe hK<|qq<|qq<|qj fun K hK=>qm ?_;refine qn ?_;simp only[List.length_map];refine qm ?_;refine qe hK ?_;have hH:=hH.eB 2;refine af.block<|af.loop (fun mm fr st=>∃(i:Nat) (y:D),fr.clean=⟨26,[x,aU fr 1,aU fr 2,y,.nul,aU fr 5,aU fr 6,aU fr 7,aU fr 8,aU fr 9,x,.int .i64 (l.length:Nat),.int .i64 (i:Nat),aU fr 13,aU fr 14,aU fr 15,aU fr 16,aU fr 17,aU fr 18,aU fr 19,aU fr 20,aU fr 21,aU fr 22,aU fr 23,aU fr 24,aU fr 25],[]⟩∧Has s0.bs.length S st [.aL y 2 (((l.take i).flatMap dt).map aw)]∧(i+mm=l.length)∧((l.take i).flatMap dt=[]→y=.nul)) (l.length) ?_ ?_
 ·exact⟨0,.nul,rfl,hH,by omega,fun _=>rfl⟩
 rintro mm fr st ⟨i,y,hfr,hH,hi,KB⟩;rw[hfr];clear hfr;generalize aU fr=ee;clear fr;refine qq<|qj fun K hK=>qg ?_;refine qe hK ?_;have hm:=hfi i;refine qq ?_;refine af.cond (by rfl) (fun h1=>?_) (fun h1=>?_)<;>try simp only[decide_eq_true_eq,decide_eq_false_iff_not] at h1
 ·refine af.skip ?_
  obtain⟨q,hq⟩:∃q,l[i]?=some q:=⟨l[i]'(by omega),List.getElem?_eq_getElem _⟩
  have hr:=fJ hq
  have FY:(l.take (i+1)).flatMap dt=(l.take i).flatMap dt++dt q:=by
   rw[List.take_add_one,hq];simp
  have XK:=oA q;refine qq<|af.block<|qq<|qj fun K hK=>qr fun XG Vu=>?_;refine ab.eA rfl (ev rfl) (by assumption) rfl (by dsimp only[Fr.put,u1,u2]<;>rfl) ?_;refine qa hH fun k6 st Cm hH=>?_;refine qS hH aB fun st hH=>?_;dsimp only[u2,u1,u3,u4,setMany,u5,u6,D.cells,Nat.reduceAdd,aw] at hH;refine qe hK<|qj fun K hK=>qm ?_;refine ab.bf (m:=2) hH rfl (ev rfl) (by exact aB) (by dsimp only[List.drop_succ_cons,List.drop_zero,List.take_succ_cons,List.take_zero,aw]<;>rfl) rfl rfl (by dsimp only[Fr.put,u1,u2]<;>rfl) ?_;refine qv (Aw q) ?_;refine ab.BE hH rfl rfl rfl (by exact b4) (fh _ _) rfl rfl rfl rfl rfl rfl rfl ⟨(Nat.le_of_ble_eq_true rfl),(Nat.le_of_ble_eq_true rfl)⟩ (fun _=>by dsimp only[Fr.put,u1,u2]<;>rfl) (by simp only[List.length_map];omega) (.inl hF) (fun Su st M4 hH=>?_);dsimp only[u2,u1] at hH;refine qm ?_;refine qe hK<|qj fun K hK=>qA ?_;refine qm ?_;refine qe hK ?_;exact⟨mm-1,by omega,⟨i+1,Su,rfl,(by rw[FY,List.map_append];exact hH.drop 1),by omega,by rw[FY];intro h;obtain⟨h3,h4⟩:=List.append_eq_nil_iff.1 h;rw[M4 (by rw[h4];rfl)];exact KB h3⟩⟩
 ·refine af.exit ?_;have hT:l.take i=l:=List.take_of_length_le (by omega);rw[hT] at hH KB hm
  obtain⟨st2,all,aO,LC,hperm,nF⟩:=BC hH aB KB (by omega) (fun z hz=>by
   obtain⟨w,_,hw⟩:=List.mem_flatMap.1 hz
   exact yO w z hw)
  have hlen:=hperm.length_eq
  have hbd:∀z∈all,0≤z.2∧z.2≤1114111:=fun z hz=>by
   obtain⟨w,_,hw⟩:=List.mem_flatMap.1 (hperm.mem_iff.1 hz);have:=mq w z hw;omega
  refine qq<|qj fun K hK=>qm ?_;refine qv (aO) ?_;refine qe hK ?_;have hH:=LC;dsimp only[u2] at hH;clear LC aO;have hR:=hH.rows aB;have hH:=hH.eB 2;refine qq<|qq<|qj fun K hK=>qm ?_;refine qn ?_ (hR:=hH.rows b4);simp only[List.length_map];refine qm ?_;refine qe hK<|af.block<|af.loop (fun mm fr st=>∃(i:Nat) (z:D),fr.clean=⟨26,[x,aU fr 1,aU fr 2,y,z,aU fr 5,aU fr 6,aU fr 7,aU fr 8,aU fr 9,aU fr 10,aU fr 11,aU fr 12,aU fr 13,aU fr 14,aU fr 15,aU fr 16,aU fr 17,aU fr 18,aU fr 19,aU fr 20,aU fr 21,aU fr 22,y,.int .i64 (all.length:Nat),.int .i64 (i:Nat)],[]⟩∧Has s0.bs.length S st [.aL z 2 (((all.take i).foldl dj []).reverse.map aw),.aL y 2 (all.map aw)]∧(i+mm=all.length)) (all.length) ?_ ?_
  ·exact⟨0,.nul,rfl,hH,by omega⟩
  rintro mm fr st ⟨i,z,hfr,hH,hi⟩;rw[hfr];clear hfr;generalize aU fr=ee;clear fr;refine qq<|qj fun K hK=>qg ?_;refine qe hK ?_
  have kC:((all.take i).foldl dj []).length≤all.length:=by
   have:=oY (all.take i);simp only[List.length_take] at this;omega
  refine qq ?_;refine af.cond (by rfl) (fun h1=>?_) (fun h1=>?_)<;>try simp only[decide_eq_true_eq,decide_eq_false_iff_not] at h1
  ·refine af.skip ?_
   obtain⟨q,hq⟩:∃q,all[i]?=some q:=⟨all[i]'(by omega),List.getElem?_eq_getElem _⟩
   have hr:=fJ hq
   have KM:(all.take (i+1)).foldl dj []=dj ((all.take i).foldl dj []) q:=by
    rw[List.take_add_one,hq,List.foldl_append];rfl
   generalize F5:(all.take i).foldl dj []=acc at*;refine qq<|af.block<|qq<|qj fun K hK=>qi hH b4 fun XF Vt=>?_;refine ab.oM hH rfl (ev rfl) (by assumption) (by exact b4) (by assumption) rfl (ae rfl _) ?_;refine qa hH fun k8 st Nd hH=>?_;refine qS hH aB fun st hH=>?_;dsimp only[u2,u1,u3,u4,setMany,u5,u6,D.cells,Nat.reduceAdd,aw] at hH;refine qe hK ?_
   rcases acc with _|⟨h,t⟩
   ·refine qq<|qj fun K hK=>qm ?_;refine qn ?_ (hR:=hH.rows b4);simp only[List.length_map,List.length_nil,List.length_reverse];refine ab.lA (z:=(-1)) rfl (ev rfl) (ev rfl) (by(try simp only[List.length_reverse,List.length_cons,List.length_nil,List.length_append,List.length_map,List.length_set]);rw[wrap_i64 (by omega) (by omega)]<;>omega) (ae rfl _) ?_;refine qm ?_;refine qe hK ?_;have bh:decide ((-1:Int)≥0)=false:=by decide
    refine qq<|af.jy 44 (.bool false) [] ?_ (fun ff tmp gh=>?_)
    ·refine qm ?_;refine qg ?_;refine qm ?_;refine qs ?_ (hg:=wn bh);refine qs ?_ (hg:=wn bh);refine qs ?_ (hg:=wn bh);refine qs ?_ (hg:=wn bh);refine qs ?_ (hg:=wn bh);refine qs ?_ (hg:=wn bh);refine qs ?_ (hg:=wn bh);refine qs ?_ (hg:=wn bh);refine qs ?_ (hg:=wn bh);refine qu bh ?_;refine ab.nil (cX ?_ ?_)
     ·dsimp only[aM,List.foldl,nth,u2,u1]
      all_goals(first|rfl|simp)
     ·dsimp only[Fr.aF,Fr.put,Fr.clean,Fr.ev,Fr.get,nth,look,u1,u2,v1,v2,v4]
      all_goals(first|rfl|(simp[bh];done)|(simp_all;done)|(simp[bh];omega)|(simp_all;omega))
    dsimp only[aM,List.foldl,nth,u2,u1];dsimp only[Fr.aF,Fr.put,Fr.clean,Fr.ev,Fr.get,nth,look,u1,u2,v1,v2,v4];refine qC ?_;refine qj fun K hK=>qm ?_;refine ab.bf (m:=2) hH rfl (ev rfl) (by exact aB) (by dsimp only[List.drop_succ_cons,List.drop_zero,List.take_succ_cons,List.take_zero,aw]<;>rfl) rfl rfl (ae rfl _) ?_;refine qh (s:=2) (vs:=[_]) hH fun k59 st Qh hH=>?_;refine ab.bZ (s:=2) hH rfl (ev rfl) (ev rfl) (by exact cU) (by exact hH.rows (by exact aB)) rfl rfl rfl rfl rfl rfl rfl ⟨(Nat.le_of_ble_eq_true rfl),(Nat.le_of_ble_eq_true rfl)⟩ (fun _=>(ae rfl _)) (by simp only[List.length_cons,List.length_nil,List.length_map,List.length_reverse]<;>omega) (by exact .inl hF) (fun Oy st hH=>?_);dsimp only[u2,u1,u3,u4,setMany,u5,u6,D.cells,Nat.reduceAdd,aw] at hH;refine qm ?_;refine qe hK<|qj fun K hK=>qA ?_;refine qm ?_;refine qe hK ?_;exact⟨mm-1,by omega,⟨i+1,Oy,rfl,(by rw[KM];exact hH.drop 2),by omega⟩⟩
   ·simp only[List.length_cons] at kC;refine qq<|qj fun K hK=>qm ?_;refine qn ?_ (hR:=hH.rows b4);simp only[List.length_map,List.length_cons,List.length_reverse];refine ab.lA (z:=((t.length:Nat):Int)) rfl (ev rfl) (ev rfl) (by(try simp only[List.length_reverse,List.length_cons,List.length_nil,List.length_append,List.length_map,List.length_set]);rw[wrap_i64 (by omega) (by omega)]<;>omega) (ae rfl _) ?_;refine qm ?_;refine qe hK ?_;have ya:=Bc h t;have gi:=Bb h (h.1,max h.2 q.2) t;have zk:=FB (l:=all.take i) (fun x hx=>hbd x (List.mem_of_mem_take hx)) h (by rw[F5];exact List.mem_cons_self ..);have bh:decide (((t.length:Nat):Int)≥0)=true:=by rw[decide_eq_true];omega
    refine qq<|af.jy 44 (.bool (decide (q.1≤h.2+1))) [] ?_ (fun ff tmp gh=>?_)
    ·refine qm ?_;refine qg ?_;refine qm ?_;refine qp (o:=0) ?_ (hg:=wi bh);refine ql hH aB ?_ (hg:=wi bh);refine qm ?_ (hg:=wi bh);refine qm ?_ (hg:=wi bh);refine qi hH b4 (fun Ul PU=>?_) (hg:=wi bh);refine ab.eN (fo:=1) (m:=0) (o2:=1) (aD rfl rfl rfl bh) (ev rfl) (by assumption) rfl rfl rfl (fun _=>(ae rfl _)) (fun Uk PT=>?_);refine qo hH b4 ?_ (hg:=wi bh);refine ab.Lk (aD rfl rfl rfl bh) (ev rfl) (ev rfl) (by omega) (by omega) (ae rfl _) ?_;refine qg ?_ (hg:=wi bh);refine qt bh ?_;refine ab.nil (cX ?_ ?_)
     ·dsimp only[aM,List.foldl,nth,u2,u1]
      all_goals(first|rfl|simp)
     ·dsimp only[Fr.aF,Fr.put,Fr.clean,Fr.ev,Fr.get,nth,look,u1,u2,v1,v2,v4]
      all_goals(first|rfl|(simp[bh];done)|(simp_all;done)|(simp[bh];omega)|(simp_all;omega))
    dsimp only[aM,List.foldl,nth,u2,u1];dsimp only[Fr.aF,Fr.put,Fr.clean,Fr.ev,Fr.get,nth,look,u1,u2,v1,v2,v4];refine af.cond (by assumption) (fun h2=>?_) (fun h2=>?_)<;>try simp only[decide_eq_true_eq,decide_eq_false_iff_not] at h2
    ·refine qj fun K hK=>qm ?_;refine qm ?_;refine qm ?_;refine qm ?_;refine qi hH b4 fun Ui PR=>?_;refine ab.eN (fo:=1) (m:=0) (o2:=1) rfl (ev rfl) (by assumption) rfl rfl rfl (fun _=>(ae rfl _)) (fun Uh PQ=>?_);refine qo hH b4 ?_;refine qp (o:=1) ?_;refine ql hH aB ?_;refine ab.Fw (t1:=0) (t2:=0) rfl (ev rfl) (ev rfl) (ae rfl _) ?_;refine qi hH b4 fun Xz Vn=>?_;refine ab.eN (fo:=1) (m:=0) (o2:=1) rfl (ev rfl) (by assumption) rfl rfl rfl (fun _=>(ae rfl _)) (fun Xy Vm=>?_);refine ab.kX hH rfl (ev rfl) (ev rfl) (by assumption) rfl rfl (by exact b4) (by assumption) (Nat.le_of_ble_eq_true rfl) (by exact .inl hF) (fun st hH=>?_);dsimp only[u2,u1,u3,u4,setMany,u5,u6,D.cells,Nat.reduceAdd,aw] at hH;refine qe hK<|qj fun K hK=>qA ?_;refine qm ?_;refine qe hK ?_;exact⟨mm-1,by omega,⟨i+1,z,rfl,(by rw[KM];simp only[dj,if_pos h2];rw[←gi];exact hH.drop 1),by omega⟩⟩
    ·refine qj fun K hK=>qm ?_;refine ab.bf (m:=2) hH rfl (ev rfl) (by exact aB) (by dsimp only[List.drop_succ_cons,List.drop_zero,List.take_succ_cons,List.take_zero,aw]<;>rfl) rfl rfl (ae rfl _) ?_;refine qh (s:=2) (vs:=[_]) hH fun k59 st Qh hH=>?_;refine ab.bZ (s:=2) hH rfl (ev rfl) (ev rfl) (by exact cU) (by exact hH.rows (by exact aB)) rfl rfl rfl rfl rfl rfl rfl ⟨(Nat.le_of_ble_eq_true rfl),(Nat.le_of_ble_eq_true rfl)⟩ (fun _=>(ae rfl _)) (by simp only[List.length_cons,List.length_nil,List.length_map,List.length_reverse]<;>omega) (by exact .inl hF) (fun Oy st hH=>?_);dsimp only[u2,u1,u3,u4,setMany,u5,u6,D.cells,Nat.reduceAdd,aw] at hH;refine qm ?_;refine qe hK<|qj fun K hK=>qA ?_;refine qm ?_;refine qe hK ?_;exact⟨mm-1,by omega,⟨i+1,Oy,rfl,(by rw[KM];simp only[dj,if_neg h2];rw[List.reverse_cons (a:=q),List.map_append];exact hH.drop 2),by omega⟩⟩
  ·refine af.exit<|qq<|qj fun K hK=>qm ?_;refine qm ?_;refine qe hK ?_;rw[List.take_of_length_le (by omega)] at hH;refine af.ret ⟨rx,_,_,rfl,rl cM hH ((hH.freeze aB (dU _) (n:=15) (by decide))),?_⟩;exact⟨all,by rw[gL],hperm,nF⟩
def iC (fr:Go.V.Fr) (k:Nat):Go.V.D:=Go.V.nth .bw fr.loc k
def fT (l a:List Rg):Prop:=canon a∧∀r,e7 a r↔mK r∧e7 l r
theorem fT.unique {l a b:List Rg} (h:fT l a) (g:fT l b):a=b:=l3 h.1 g.1 fun r=>(h.2 r).trans (g.2 r).symm
noncomputable def eR (l:List Rg):Bool:=@decide (fT l l) (Classical.propDecidable _)
theorem yR {l a:List Rg} (h:fT l a):eR l=decide (l=a):=by
 unfold eR
 by_cases hl:l=a
 ·rw[decide_eq_true hl];exact@decide_eq_true _ (Classical.propDecidable _) (by rw[hl] at h⊢;exact h)
 ·rw[decide_eq_false hl];exact@decide_eq_false _ (Classical.propDecidable _) (fun g=>hl (g.unique h))
theorem y7 (p q:Rg):mX pv .neq 137 (.agg (aw p)) (.agg (aw q))=some (.bool (!decide (p=q))):=by
 have h:∀a b a' b':Int,mX pv .neq 137 (.agg [.int .i32 a,.int .i32 b]) (.agg [.int .i32 a',.int .i32 b'])=Option.map (fun b=>D.bool !b) (match some (a==a') with|some true=>(match some (b==b') with|some true=>some true|some false=>some false|none=>none)|some false=>some false|none=>none):=fun _ _ _ _=>rfl;obtain⟨a,b⟩:=p;obtain⟨a',b'⟩:=q;simp only[aw,h]
 by_cases h1:a=a'
 ·subst h1
  by_cases h2:b=b'
  ·subst h2;simp
  ·have:(b==b')=false:=by simpa using h2
   simp[this,h2]
 ·have:(a==a')=false:=by simpa using h1
  simp[this,h1]
theorem sk {α:Type} {a b:List α} {i:Nat} {x y:α} (ha:a[i]?=some x) (hb:b[i]?=some y) (h:a.take i=b.take i) (MB:x=y):a.take (i+1)=b.take (i+1):=by
 rw[List.take_add_one,List.take_add_one,h,ha,hb,MB]
theorem y8 {α:Type} {a b:List α} {i:Nat} {x y:α} (ha:a[i]?=some x) (hb:b[i]?=some y) (MB:¬x=y):¬a=b:=by
 intro h;subst h;rw[ha] at hb;exact MB (Option.some.inj hb)
theorem BM {s0:St} {x y:D} {l m:List Rg} (hx:V.Rows s0 2 x (l.map aw)) (hy:V.Rows s0 2 y (m.map aw)) (hl:l.length≤1073741824) (hm:m.length≤1073741824):Ev pv 75 [x,y] s0 (.bool (decide (l=m))) s0:=by
 refine Ev.pW rfl Rp rfl rfl rfl ?_;dsimp only[u3,u4,List.length,Nat.reduceSub,Nat.reduceAdd,w1,w2];obtain⟨cM,hF,hH⟩:=ri s0;generalize ak .ro s0=S at*;have hx:=Arg.of hx cM;have hy:=Arg.of hy cM;refine qq<|qj fun K hK=>qm ?_;refine qe hK<|qq<|qq<|qj fun K hK=>qm ?_;refine qn ?_;simp only[List.length_map];refine qm ?_;refine qn ?_;simp only[List.length_map];refine qg ?_;refine qe hK ?_
 by_cases hlen:l.length=m.length
 ·refine af.cond (v:=false) ?_ (fun h=>by cases h) (fun _=>?_)
  ·dsimp only[Fr.ev,Fr.get,nth,V.look];rw[hlen];simp
  refine af.skip<|qq<|qq<|qj fun K hK=>qm ?_;refine qn ?_;simp only[List.length_map];refine qm ?_;refine qe hK<|af.block<|af.loop (fun mm fr st=>∃(i:Nat),fr.clean=⟨14,[x,y,iC fr 2,iC fr 3,.bool false,iC fr 5,iC fr 6,iC fr 7,iC fr 8,iC fr 9,iC fr 10,iC fr 11,.int .i64 (l.length:Nat),.int .i64 (i:Nat)],[]⟩∧Has s0.bs.length S st []∧(i+mm=l.length)∧(l.take i=m.take i)) (l.length) ?_ ?_
  ·exact⟨0,rfl,hH,by omega,rfl⟩
  rintro mm fr st ⟨i,hfr,hH,hi,ht⟩;rw[hfr];clear hfr;generalize iC fr=ee;clear fr;refine qq<|qj fun K hK=>qg ?_;refine qe hK<|qq ?_;refine af.cond (by rfl) (fun h1=>?_) (fun h1=>?_)<;>try simp only[decide_eq_true_eq,decide_eq_false_iff_not] at h1
  ·refine af.skip ?_
   obtain⟨p,hp⟩:∃p,l[i]?=some p:=⟨l[i]'(by omega),List.getElem?_eq_getElem _⟩
   obtain⟨q,hq⟩:∃q,m[i]?=some q:=⟨m[i]'(by omega),List.getElem?_eq_getElem _⟩
   have hO:=fJ hp;have mP:=fJ hq;refine qq<|af.block<|qq<|qj fun K hK=>qm ?_;refine qm ?_;refine qe hK<|qq<|qj fun K hK=>qm ?_;refine qm ?_;refine qr fun SO MY=>?_;refine ab.eA rfl (ev rfl) (by assumption) rfl (ae rfl _) ?_;refine qm ?_;refine qm ?_;refine qr fun OL Kx=>?_;refine ab.eA rfl (ev rfl) (by assumption) rfl (ae rfl _) ?_;refine ab.SS rfl (ev rfl) (ev rfl) (y7 p q) (ae rfl _) ?_;refine qe hK ?_;refine af.cond (by rfl) (fun h2=>?_) (fun h2=>?_)<;>try simp only[decide_eq_true_eq,decide_eq_false_iff_not,Bool.not_eq_true',Bool.not_eq_false'] at h2
   ·refine qq<|qj fun K hK=>qm ?_;refine qe hK ?_;rw[decide_eq_false (y8 hp hq (by simpa using h2))];refine af.ret ⟨rx,_,rfl,rl cM hH (rfl)⟩
   ·refine af.skip<|qj fun K hK=>qA ?_;refine qm ?_;refine qe hK ?_;exact⟨mm-1,by omega,⟨i+1,rfl,hH,by omega,sk hp hq ht (by simpa using h2)⟩⟩
  ·refine af.exit<|qq<|qj fun K hK=>qm ?_;refine qe hK ?_;rw[decide_eq_true (by rw[List.take_of_length_le (by omega),List.take_of_length_le (by omega)] at ht;exact ht)];refine af.ret ⟨rx,_,rfl,rl cM hH (rfl)⟩
 ·refine af.cond (v:=true) ?_ (fun _=>?_) (fun h=>by cases h)
  ·dsimp only[Fr.ev,Fr.get,nth,V.look];simp;omega
  refine qq<|qj fun K hK=>qm ?_;refine qe hK ?_;rw[decide_eq_false (fun h=>hlen (by rw[h]))];refine af.ret ⟨rx,_,rfl,rl cM hH (rfl)⟩
theorem tY {s0:St} {x:D} {l:List Rg} (hx:V.Rows s0 2 x (l.map aw)) (hl:l.length≤1048576):Ev pv 68 [x] s0 (.bool (eR l)) s0:=by
 refine Ev.pW rfl Rv rfl rfl rfl ?_;dsimp only[u3,u4,List.length,Nat.reduceSub,Nat.reduceAdd,w1,w2];obtain⟨cM,hF,hH⟩:=ri s0;generalize ak .ro s0=S at*;have hx:=Arg.of hx cM;refine qq<|qj fun K hK=>qm ?_;refine qe hK ?_;obtain⟨_,aO,all,rfl,hperm,nF⟩:=xW (hx.rows hH) (by omega);have hM:fT l (all.foldl dj []).reverse:=oU (fun x=>hperm.mem_iff) nF;have hlen:=hperm.length_eq;have pa:=iw l;have kC:=oY all;rw[yR hM];refine qq<|qj fun K hK=>qm ?_;refine qm ?_;refine qv (aO) ?_;refine qv (BM (hx.rows hH) (fh _ _) (by omega) (by rw[List.length_reverse];omega)) ?_;refine qm ?_;refine qe hK<|af.ret ⟨rx,_,rfl,rl cM hH (rfl)⟩
structure aK where
 op:Int
 x:Int
 y:Int
 rd:D
 rs:List Rg
def aG (i:aK):List D:=[.int .i64 i.op,.int .i64 i.x,.int .i64 i.y,i.rd]
def aK.ok (i:aK):Prop:=gY i.rd 2 (i.rs.map aw)∧i.rs.length≤1048576
def aq (n:Int):List D:=[.int .i64 n]
structure Pg where
 cd:D
 code:List aK
 sd:D
 az:List Int
structure Pg.ok (p:Pg):Prop where
 c:gY p.cd 4 (p.code.map aG)
 s:gY p.sd 1 (p.az.map aq)
 i:∀x∈p.code,x.ok
 cl:p.code.length≤1048576
 sl:p.az.length≤1048576
def Pg.cs (p:Pg):List D:=[p.cd,p.sd]
def Pg.d (p:Pg):D:=.agg p.cs
theorem gz {l:List aK} {i:Nat} {q:aK} (h:l[i]?=some q):(l.map aG)[i]?=some (aG q):=by rw[List.getElem?_map,h];rfl
theorem ei {l:List Int} {i:Nat} {q:Int} (h:l[i]?=some q):(l.map aq)[i]?=some (aq q):=by rw[List.getElem?_map,h];rfl
def o5 (v n:Int):Bool:=decide (v≥0) &&decide (v<n)
noncomputable def cJ (n ns pc:Nat) (i:aK):Bool:=
 if i.op=1 then i.y==0 &&(decide (((pc+1:Nat):Int)<n) &&i.x==0 &&eR i.rs)
 else i.rs.isEmpty &&
  (if i.op=2 then o5 i.x n &&o5 i.y n
  else i.y==0 &&
   (if i.op=3 then o5 i.x n
   else if i.op=4 then decide (((pc+1:Nat):Int)<n) &&o5 i.x 10
   else if i.op=5∨i.op=6 then decide (((pc+1:Nat):Int)<n) &&i.x==0
   else if i.op=7 then o5 i.x ns
   else false))
theorem gD {s0:St} (v n:Int):Ev pv 53 [.int .i64 v,.int .i64 n] s0 (.bool (o5 v n)) s0:=by
 refine Ev.pW rfl RE rfl rfl rfl ?_;dsimp only[u3,u4,List.length,Nat.reduceSub,Nat.reduceAdd,w1,w2];obtain⟨cM,hF,hH⟩:=ri s0;generalize ak .ro s0=S at*;refine qq<|qj fun K hK=>qm ?_;refine qe hK<|qq<|af.ln 4 (.bool (decide (v≥0) &&decide (v<n))) [] ?_ (fun ff tmp=>?_)
 ·refine qm ?_;refine qg ?_;refine qm ?_;refine ab.two 7 rfl (fun bh=>?_) (fun bh=>?_)
  ·refine qm ?_ (hg:=wi bh);refine qm ?_ (hg:=wi bh);refine qg ?_ (hg:=wi bh);refine qt bh ?_;refine qm ?_;refine ab.nil (aY ?_);dsimp only[aM,List.foldl,nth,u2,u1];dsimp only[Fr.aF,Fr.put,Fr.clean,Fr.ev,Fr.get,nth,V.look,u1,u2,v1,v2,v3,v4,v5,v6,v7,List.length,u3,u4,Nat.reduceSub,Nat.reduceAdd,List.map]
   all_goals(simp[bh];done)
  ·refine qs ?_ (hg:=wn bh);refine qs ?_ (hg:=wn bh);refine qs ?_ (hg:=wn bh);refine qu bh ?_;refine qm ?_;refine ab.nil (aY ?_);dsimp only[aM,List.foldl,nth,u2,u1];dsimp only[Fr.aF,Fr.put,Fr.clean,Fr.ev,Fr.get,nth,V.look,u1,u2,v1,v2,v3,v4,v5,v6,v7,List.length,u3,u4,Nat.reduceSub,Nat.reduceAdd,List.map]
   all_goals(simp[bh];done)
 dsimp only[aM,List.foldl,nth,u2,u1];refine af.ret ⟨rx,_,rfl,rl cM hH (rfl)⟩
theorem yJ {s0:St} {p:Pg} {pc:Nat} {i:aK} (hp:p.ok) (hi:p.code[pc]?=some i):Ev pv 52 [p.d,.int .i64 (pc:Nat)] s0 (.bool (cJ p.code.length p.az.length pc i)) s0:=by
 refine Ev.pW rfl RF rfl rfl rfl ?_;dsimp only[u3,u4,List.length,Nat.reduceSub,Nat.reduceAdd,w1,w2];obtain⟨cM,hF,hH⟩:=ri s0;generalize ak .ro s0=S at*;have hc:=hp.c.arg s0.bs.length S;have hs:=hp.s.arg s0.bs.length S;have Nq:=hp.i i (List.mem_of_getElem? hi);have Qo:=Nq.1.arg s0.bs.length S;have hil:=Nq.2;have hcl:=hp.cl;have jb:=hp.sl;have hr:=gz hi;have hlt:=bj hi;unfold Pg.d;refine qq<|qj fun K hK=>qb hH fun k2 st hk2 hH=>?_;dsimp only[u2,u1,u3,u4,setMany,u5,u6,D.cells,Nat.reduceAdd,Pg.cs,aG,aq] at hH;refine qm ?_;refine qe hK<|qq<|qj fun K hK=>qp (o:=0) ?_;refine ql hH aB ?_;refine qm ?_;refine qr fun Uy P4=>?_;refine ab.eA rfl (ev rfl) (by assumption) rfl (by dsimp only[Fr.put,u1,u2]<;>rfl) ?_;refine qa hH fun k5 st KK hH=>?_;refine qS hH aB fun st hH=>?_;dsimp only[u2,u1,u3,u4,setMany,u5,u6,D.cells,Nat.reduceAdd,Pg.cs,aG,aq] at hH;refine qe hK<|qq<|qj fun K hK=>qm ?_;refine qA ?_;refine qp (o:=0) ?_;refine ql hH b4 ?_;refine qn ?_;simp only[List.length_map];refine qg ?_;refine qm ?_;refine qe hK<|qq<|qq<|af.ln 36 (.bool (((i.op !=1) &&decide ((i.rs.length:Int)>0))||((i.op !=2) &&(i.y !=0)))) [18,19,20,21,22,23,24,25,26,27,28,29,30,31,32,33,34,35] ?_ (fun ff tmp=>?_)
 ·refine qp (o:=0) ?_;refine ql hH aB ?_;refine qg ?_;refine qm ?_;refine ab.two 21 rfl (fun bD=>?_) (fun bD=>?_)
  ·refine qp (o:=3) ?_ (hg:=wi bD);refine ql hH aB ?_ (hg:=wi bD);refine qn ?_ (hg:=wi bD);simp only[List.length_map];refine qg ?_ (hg:=wi bD);refine qt bD ?_;refine qm ?_;refine ab.two 27 rfl (fun b8=>?_) (fun b8=>?_)
   ·refine qs ?_ (hg:=wn b8);refine qs ?_ (hg:=wn b8);refine qs ?_ (hg:=wn b8);refine qs ?_ (hg:=wn b8);refine qs ?_;refine qs ?_;refine qs ?_;refine qs ?_ (hg:=wn b8);refine qt b8 ?_;refine ab.nil (aY ?_);dsimp only[aM,List.foldl,nth,u2,u1];dsimp only[Fr.aF,Fr.put,Fr.clean,Fr.ev,Fr.get,nth,V.look,u1,u2,v1,v2,v3,v4,v5,v6,v7,List.length,u3,u4,Nat.reduceSub,Nat.reduceAdd,List.map]
    all_goals(simp_all;done)
   ·refine qp (o:=0) ?_ (hg:=wi b8);refine ql hH aB ?_ (hg:=wi b8);refine qg ?_ (hg:=wi b8);refine qm ?_ (hg:=wi b8);refine ab.two 31 rfl (fun cQ=>?_) (fun cQ=>?_)
    ·refine qp (o:=2) ?_ (hg:=wi cQ);refine ql hH aB ?_ (hg:=wi cQ);refine qg ?_ (hg:=wi cQ);refine ab.dI (aD rfl rfl rfl b8) rfl cQ (by dsimp only[Fr.put,u1,u2]<;>rfl) ?_;refine qu b8 ?_;refine ab.nil (aY ?_);dsimp only[aM,List.foldl,nth,u2,u1];dsimp only[Fr.aF,Fr.put,Fr.clean,Fr.ev,Fr.get,nth,V.look,u1,u2,v1,v2,v3,v4,v5,v6,v7,List.length,u3,u4,Nat.reduceSub,Nat.reduceAdd,List.map]
     all_goals(simp_all;done)
    ·refine qs ?_ (hg:=wn cQ);refine qs ?_ (hg:=wn cQ);refine qs ?_ (hg:=wn cQ);refine ab.da (aD rfl rfl rfl b8) rfl cQ (by dsimp only[Fr.put,u1,u2]<;>rfl) ?_;refine qu b8 ?_;refine ab.nil (aY ?_);dsimp only[aM,List.foldl,nth,u2,u1];dsimp only[Fr.aF,Fr.put,Fr.clean,Fr.ev,Fr.get,nth,V.look,u1,u2,v1,v2,v3,v4,v5,v6,v7,List.length,u3,u4,Nat.reduceSub,Nat.reduceAdd,List.map]
     all_goals(simp_all;done)
  ·refine qs ?_ (hg:=wn bD);refine qs ?_ (hg:=wn bD);refine qs ?_ (hg:=wn bD);refine qs ?_ (hg:=wn bD);refine qu bD ?_;refine qm ?_;refine qp (o:=0) ?_;refine ql hH aB ?_;refine qg ?_;refine qm ?_;refine ab.two 31 rfl (fun cQ=>?_) (fun cQ=>?_)
   ·refine qp (o:=2) ?_ (hg:=wi cQ);refine ql hH aB ?_ (hg:=wi cQ);refine qg ?_ (hg:=wi cQ);refine qt cQ ?_;refine qg ?_;refine ab.nil (aY ?_);dsimp only[aM,List.foldl,nth,u2,u1];dsimp only[Fr.aF,Fr.put,Fr.clean,Fr.ev,Fr.get,nth,V.look,u1,u2,v1,v2,v3,v4,v5,v6,v7,List.length,u3,u4,Nat.reduceSub,Nat.reduceAdd,List.map]
    all_goals(simp[bD,cQ];done)
   ·refine qs ?_ (hg:=wn cQ);refine qs ?_ (hg:=wn cQ);refine qs ?_ (hg:=wn cQ);refine qu cQ ?_;refine qg ?_;refine ab.nil (aY ?_);dsimp only[aM,List.foldl,nth,u2,u1];dsimp only[Fr.aF,Fr.put,Fr.clean,Fr.ev,Fr.get,nth,V.look,u1,u2,v1,v2,v3,v4,v5,v6,v7,List.length,u3,u4,Nat.reduceSub,Nat.reduceAdd,List.map]
    all_goals(simp[bD,cQ];done)
 dsimp only[aM,List.foldl,nth,u2,u1];generalize ff 18=W3;generalize ff 19=W2;generalize ff 20=W0;generalize ff 21=WZ;generalize ff 22=WY;generalize ff 23=WX;generalize ff 24=WW;generalize ff 25=WV;generalize ff 26=WU;generalize ff 27=WT;generalize ff 28=X8;generalize ff 29=X7;generalize ff 30=X6;generalize ff 31=X5;generalize ff 32=X4;generalize ff 33=X3;generalize ff 34=X2;generalize ff 35=X1;have Na:(i.rs.isEmpty=!decide ((i.rs.length:Int)>0)):=by cases i.rs<;>simp<;>omega
 have hsh:cJ p.code.length p.az.length pc i=if((i.op !=1) &&decide ((i.rs.length:Int)>0))||((i.op !=2) &&(i.y !=0)) then false else
   (if i.op=1 then(decide (((pc+1:Nat):Int)<p.code.length) &&i.x==0) &&eR i.rs
   else if i.op=2 then o5 i.x p.code.length &&o5 i.y p.code.length
   else if i.op=3 then o5 i.x p.code.length
   else if i.op=4 then decide (((pc+1:Nat):Int)<p.code.length) &&o5 i.x 10
   else if i.op=5 then decide (((pc+1:Nat):Int)<p.code.length) &&i.x==0
   else if i.op=6 then decide (((pc+1:Nat):Int)<p.code.length) &&i.x==0
   else if i.op=7 then o5 i.x p.az.length
   else false):=by
  unfold cJ;rw[Na];generalize decide ((i.rs.length:Int)>0)=b
  by_cases h1:i.op=1
  ·have h2:i.op≠2:=by omega
   simp only[h1];cases b<;>by_cases hy:i.y=0<;>simp[hy]
  ·by_cases h2:i.op=2
   ·simp only[h2];cases b<;>simp
   ·by_cases TD:i.op=5
    ·simp only[TD];cases b<;>by_cases hy:i.y=0<;>simp[hy]
    ·cases b<;>by_cases hy:i.y=0<;>simp[h1,h2,TD,hy]
 rw[hsh];refine qc (fun h0=>?_) (fun h0=>?_)<;>try simp only[cs] at h0
 ·refine qq<|qj fun K hK=>qm ?_;refine qe hK ?_;rw[if_pos h0];refine af.ret ⟨rx,_,rfl,rl cM hH (rfl)⟩
 ·rw[if_neg (by rw[h0];simp)];refine af.skip<|qq<|qq<|qj fun K hK=>qp (o:=0) ?_;refine ql hH aB ?_;refine qe hK<|af.block<|qq<|qj fun K hK=>qg ?_;refine qm ?_;refine qe hK ?_;refine af.cond (by rfl) (fun h1=>?_) (fun h1=>?_)<;>try simp only[beq_iff_eq,beq_eq_false_iff_ne,ne_eq] at h1
  ·rw[if_pos h1];refine qq<|af.ln 4 (.bool ((decide (((pc+1:Nat):Int)<p.code.length) &&(i.x==0)) &&eR i.rs)) [] ?_ (fun ff tmp=>?_)
   ·refine qm ?_;refine qm ?_;refine ab.two 42 rfl (fun c7=>?_) (fun c7=>?_)
    ·refine qp (o:=1) ?_ (hg:=wi c7);refine ql hH aB ?_ (hg:=wi c7);refine qg ?_ (hg:=wi c7);refine qt c7 ?_;refine qm ?_;refine ab.two 47 rfl (fun ej=>?_) (fun ej=>?_)
     ·refine qp (o:=3) ?_ (hg:=wi ej);refine ql hH aB ?_ (hg:=wi ej);refine qv (tY (Qo.rows hH) hil) ?_ (hg:=wi ej);refine qt ej ?_;refine qm ?_;refine ab.nil (aY ?_);dsimp only[aM,List.foldl,nth,u2,u1];dsimp only[Fr.aF,Fr.put,Fr.clean,Fr.ev,Fr.get,nth,V.look,u1,u2,v1,v2,v3,v4,v5,v6,v7,List.length,u3,u4,Nat.reduceSub,Nat.reduceAdd,List.map]
      all_goals(simp[c7,ej];done)
     ·refine qs ?_ (hg:=wn ej);refine qs ?_ (hg:=wn ej);refine qs ?_ (hg:=wn ej);refine qu ej ?_;refine qm ?_;refine ab.nil (aY ?_);dsimp only[aM,List.foldl,nth,u2,u1];dsimp only[Fr.aF,Fr.put,Fr.clean,Fr.ev,Fr.get,nth,V.look,u1,u2,v1,v2,v3,v4,v5,v6,v7,List.length,u3,u4,Nat.reduceSub,Nat.reduceAdd,List.map]
      all_goals(simp[c7,ej];done)
    ·refine qs ?_ (hg:=wn c7);refine qs ?_ (hg:=wn c7);refine qs ?_ (hg:=wn c7);refine qu c7 ?_;refine qm ?_;refine qs ?_;refine qs ?_;refine qs ?_;refine qg ?_;refine qm ?_;refine ab.nil (aY ?_);dsimp only[aM,List.foldl,nth,u2,u1];dsimp only[Fr.aF,Fr.put,Fr.clean,Fr.ev,Fr.get,nth,V.look,u1,u2,v1,v2,v3,v4,v5,v6,v7,List.length,u3,u4,Nat.reduceSub,Nat.reduceAdd,List.map]
     all_goals(simp[c7];done)
   dsimp only[aM,List.foldl,nth,u2,u1];refine af.ret ⟨rx,_,rfl,rl cM hH (rfl)⟩
  ·rw[if_neg h1];refine qq<|qj fun K hK=>qg ?_;refine qm ?_;refine qe hK ?_;refine af.cond (by rfl) (fun h2=>?_) (fun h2=>?_)<;>try simp only[beq_iff_eq,beq_eq_false_iff_ne,ne_eq] at h2
   ·rw[if_pos h2];refine qq<|af.ln 4 (.bool (o5 i.x p.code.length &&o5 i.y p.code.length)) [] ?_ (fun ff tmp=>?_)
    ·refine qp (o:=1) ?_;refine ql hH aB ?_;refine qp (o:=0) ?_;refine ql hH b4 ?_;refine qn ?_;simp only[List.length_map];refine qv (gD _ _) ?_;refine qm ?_;refine ab.two 60 rfl (fun ej=>?_) (fun ej=>?_)
     ·refine qp (o:=2) ?_ (hg:=wi ej);refine ql hH aB ?_ (hg:=wi ej);refine qp (o:=0) ?_ (hg:=wi ej);refine ql hH b4 ?_ (hg:=wi ej);refine qn ?_ (hg:=wi ej);simp only[List.length_map];refine qv (gD _ _) ?_ (hg:=wi ej);refine qt ej ?_;refine qm ?_;refine ab.nil (aY ?_);dsimp only[aM,List.foldl,nth,u2,u1];dsimp only[Fr.aF,Fr.put,Fr.clean,Fr.ev,Fr.get,nth,V.look,u1,u2,v1,v2,v3,v4,v5,v6,v7,List.length,u3,u4,Nat.reduceSub,Nat.reduceAdd,List.map]
      all_goals(simp[ej];done)
     ·refine qs ?_ (hg:=wn ej);refine qs ?_ (hg:=wn ej);refine qs ?_ (hg:=wn ej);refine qs ?_ (hg:=wn ej);refine qs ?_ (hg:=wn ej);refine qs ?_ (hg:=wn ej);refine qu ej ?_;refine qm ?_;refine ab.nil (aY ?_);dsimp only[aM,List.foldl,nth,u2,u1];dsimp only[Fr.aF,Fr.put,Fr.clean,Fr.ev,Fr.get,nth,V.look,u1,u2,v1,v2,v3,v4,v5,v6,v7,List.length,u3,u4,Nat.reduceSub,Nat.reduceAdd,List.map]
      all_goals(simp[ej];done)
    dsimp only[aM,List.foldl,nth,u2,u1];refine af.ret ⟨rx,_,rfl,rl cM hH (rfl)⟩
   ·rw[if_neg h2];refine qq<|qj fun K hK=>qg ?_;refine qm ?_;refine qe hK ?_;refine af.cond (by rfl) (fun h3=>?_) (fun h3=>?_)<;>try simp only[beq_iff_eq,beq_eq_false_iff_ne,ne_eq] at h3
    ·rw[if_pos h3];refine qq<|qj fun K hK=>qp (o:=1) ?_;refine ql hH aB ?_;refine qp (o:=0) ?_;refine ql hH b4 ?_;refine qn ?_;simp only[List.length_map];refine qv (gD _ _) ?_;refine qm ?_;refine qe hK<|af.ret ⟨rx,_,rfl,rl cM hH (rfl)⟩
    ·rw[if_neg h3];refine qq<|qj fun K hK=>qg ?_;refine qm ?_;refine qe hK ?_;refine af.cond (by rfl) (fun h4=>?_) (fun h4=>?_)<;>try simp only[beq_iff_eq,beq_eq_false_iff_ne,ne_eq] at h4
     ·rw[if_pos h4];refine qq<|af.ln 4 (.bool (decide (((pc+1:Nat):Int)<p.code.length) &&o5 i.x 10)) [] ?_ (fun ff tmp=>?_)
      ·refine qm ?_;refine qm ?_;refine ab.two 79 rfl (fun c7=>?_) (fun c7=>?_)
       ·refine qp (o:=1) ?_ (hg:=wi c7);refine ql hH aB ?_ (hg:=wi c7);refine qv (gD _ _) ?_ (hg:=wi c7);refine qt c7 ?_;refine qm ?_;refine ab.nil (aY ?_);dsimp only[aM,List.foldl,nth,u2,u1];dsimp only[Fr.aF,Fr.put,Fr.clean,Fr.ev,Fr.get,nth,V.look,u1,u2,v1,v2,v3,v4,v5,v6,v7,List.length,u3,u4,Nat.reduceSub,Nat.reduceAdd,List.map]
        all_goals(simp[c7];done)
       ·refine qs ?_ (hg:=wn c7);refine qs ?_ (hg:=wn c7);refine qs ?_ (hg:=wn c7);refine qu c7 ?_;refine qm ?_;refine ab.nil (aY ?_);dsimp only[aM,List.foldl,nth,u2,u1];dsimp only[Fr.aF,Fr.put,Fr.clean,Fr.ev,Fr.get,nth,V.look,u1,u2,v1,v2,v3,v4,v5,v6,v7,List.length,u3,u4,Nat.reduceSub,Nat.reduceAdd,List.map]
        all_goals(simp[c7];done)
      dsimp only[aM,List.foldl,nth,u2,u1];refine af.ret ⟨rx,_,rfl,rl cM hH (rfl)⟩
     ·rw[if_neg h4];refine qq<|qq<|qj fun K hK=>qg ?_;refine qm ?_;refine qe hK ?_
      by_cases h5:i.op=5
      ·rw[if_pos h5];refine qD rfl (by simp[h5]) ?_;refine af.skip<|qD rfl (by simp[h5]) ?_;refine qq<|af.ln 4 (.bool (decide (((pc+1:Nat):Int)<p.code.length) &&(i.x==0))) [] ?_ (fun ff tmp=>?_)
       ·refine qm ?_;refine qm ?_;refine ab.two 88 rfl (fun c7=>?_) (fun c7=>?_)
        ·refine qp (o:=1) ?_ (hg:=wi c7);refine ql hH aB ?_ (hg:=wi c7);refine qg ?_ (hg:=wi c7);refine qt c7 ?_;refine qm ?_;refine ab.nil (aY ?_);dsimp only[aM,List.foldl,nth,u2,u1];dsimp only[Fr.aF,Fr.put,Fr.clean,Fr.ev,Fr.get,nth,V.look,u1,u2,v1,v2,v3,v4,v5,v6,v7,List.length,u3,u4,Nat.reduceSub,Nat.reduceAdd,List.map]
         all_goals(simp[c7];done)
        ·refine qs ?_ (hg:=wn c7);refine qs ?_ (hg:=wn c7);refine qs ?_ (hg:=wn c7);refine qu c7 ?_;refine qm ?_;refine ab.nil (aY ?_);dsimp only[aM,List.foldl,nth,u2,u1];dsimp only[Fr.aF,Fr.put,Fr.clean,Fr.ev,Fr.get,nth,V.look,u1,u2,v1,v2,v3,v4,v5,v6,v7,List.length,u3,u4,Nat.reduceSub,Nat.reduceAdd,List.map]
         all_goals(simp[c7];done)
       dsimp only[aM,List.foldl,nth,u2,u1];refine af.ret ⟨rx,_,rfl,rl cM hH (rfl)⟩
      ·rw[if_neg h5];refine qE rfl (by simp[h5]) ?_;refine qj fun K hK=>qg ?_;refine qm ?_;refine qe hK ?_;refine af.cond (by rfl) (fun h6=>?_) (fun h6=>?_)<;>try simp only[beq_iff_eq,beq_eq_false_iff_ne,ne_eq] at h6
       ·rw[if_pos h6];refine qq<|af.ln 4 (.bool (decide (((pc+1:Nat):Int)<p.code.length) &&(i.x==0))) [] ?_ (fun ff tmp=>?_)
        ·refine qm ?_;refine qm ?_;refine ab.two 88 rfl (fun c7=>?_) (fun c7=>?_)
         ·refine qp (o:=1) ?_ (hg:=wi c7);refine ql hH aB ?_ (hg:=wi c7);refine qg ?_ (hg:=wi c7);refine qt c7 ?_;refine qm ?_;refine ab.nil (aY ?_);dsimp only[aM,List.foldl,nth,u2,u1];dsimp only[Fr.aF,Fr.put,Fr.clean,Fr.ev,Fr.get,nth,V.look,u1,u2,v1,v2,v3,v4,v5,v6,v7,List.length,u3,u4,Nat.reduceSub,Nat.reduceAdd,List.map]
          all_goals(simp[c7];done)
         ·refine qs ?_ (hg:=wn c7);refine qs ?_ (hg:=wn c7);refine qs ?_ (hg:=wn c7);refine qu c7 ?_;refine qm ?_;refine ab.nil (aY ?_);dsimp only[aM,List.foldl,nth,u2,u1];dsimp only[Fr.aF,Fr.put,Fr.clean,Fr.ev,Fr.get,nth,V.look,u1,u2,v1,v2,v3,v4,v5,v6,v7,List.length,u3,u4,Nat.reduceSub,Nat.reduceAdd,List.map]
          all_goals(simp[c7];done)
        dsimp only[aM,List.foldl,nth,u2,u1];refine af.ret ⟨rx,_,rfl,rl cM hH (rfl)⟩
       ·rw[if_neg h6];refine qq<|qj fun K hK=>qg ?_;refine qm ?_;refine qe hK ?_;refine af.cond (by rfl) (fun h7=>?_) (fun h7=>?_)<;>try simp only[beq_iff_eq,beq_eq_false_iff_ne,ne_eq] at h7
        ·rw[if_pos h7];refine qq<|qj fun K hK=>qp (o:=1) ?_;refine ql hH aB ?_;refine qp (o:=1) ?_;refine ql hH b4 ?_;refine qn ?_;simp only[List.length_map];refine qv (gD _ _) ?_;refine qm ?_;refine qe hK<|af.ret ⟨rx,_,rfl,rl cM hH (rfl)⟩
        ·rw[if_neg h7];refine af.skip<|qq<|qj fun K hK=>qm ?_;refine qe hK<|af.ret ⟨rx,_,rfl,rl cM hH (rfl)⟩
def ch (c:Nat):Int×Nat×Nat:=
 if c<128 then(0,0,0) else if c<194 then(-1,0,0) else if c<224 then(1,128,191) else if c=224 then(2,160,191) else if c=237 then(2,128,159)
 else if c<240 then(2,128,191) else if c=240 then(3,144,191) else if c<244 then(3,128,191) else if c=244 then(3,128,143) else(-1,0,0)
theorem Ft (c:Nat) (st:St):Ev pv 47 [.int .u8 c] st (.tup [.int .i64 (ch c).1,.int .u8 (ch c).2.1,.int .u8 (ch c).2.2]) st:=by
 refine Ev.pW rfl RK rfl rfl rfl ?_;dsimp only[u3,u4,List.length,Nat.reduceSub,Nat.reduceAdd,w1,w2];(try refine qy ?_);(repeat refine qq ?_);(try generalize hK:ck _ _ _ _=K);refine af.fx ?_;(repeat(first|refine xT ?_|refine xL ?_|refine xN ?_|refine xo ?_|refine xp ?_));refine ab.nil ?_;(try dsimp only[Fr.aF,Fr.put,Fr.clean,Fr.ev,Fr.get,nth,V.look,u1,u2,v1,v2,v3,v4,v5,v6,v7,List.length,u3,u4,Nat.reduceSub,Nat.reduceAdd,List.map]);(try subst hK);(try refine qy ?_);refine af.seq (af.block ?_);(try refine qy ?_);(repeat refine qq ?_);(try generalize hK:ck _ _ _ _=K);refine af.fx ?_;(repeat(first|refine xT ?_|refine xL ?_|refine xN ?_|refine xo ?_|refine xp ?_));refine ab.nil ?_;(try dsimp only[Fr.aF,Fr.put,Fr.clean,Fr.ev,Fr.get,nth,V.look,u1,u2,v1,v2,v3,v4,v5,v6,v7,List.length,u3,u4,Nat.reduceSub,Nat.reduceAdd,List.map]);(try subst hK);(try refine qy ?_);(repeat refine qq ?_);refine qc (fun h1=>?_) (fun h1=>?_)<;>try simp only[cs] at h1
 ·(try refine qy ?_);(repeat refine qq ?_);(try generalize hK:ck _ _ _ _=K);refine af.fx ?_;(repeat(first|refine xT ?_|refine xL ?_|refine xN ?_|refine xo ?_|refine xp ?_));refine ab.nil ?_;(try dsimp only[Fr.aF,Fr.put,Fr.clean,Fr.ev,Fr.get,nth,V.look,u1,u2,v1,v2,v3,v4,v5,v6,v7,List.length,u3,u4,Nat.reduceSub,Nat.reduceAdd,List.map]);(try subst hK);(try refine qy ?_);refine af.ret ⟨rx,_,rfl,bJ (by simp) (by simp[ak]) ?_⟩;rw[show ch c=(0,0,0) by unfold ch;rw[if_pos (by omega)]];rfl
 (try refine qy ?_);(repeat refine qq ?_);(try generalize hK:ck _ _ _ _=K);refine af.fx ?_;(repeat(first|refine xT ?_|refine xL ?_|refine xN ?_|refine xo ?_|refine xp ?_));refine ab.nil ?_;(try dsimp only[Fr.aF,Fr.put,Fr.clean,Fr.ev,Fr.get,nth,V.look,u1,u2,v1,v2,v3,v4,v5,v6,v7,List.length,u3,u4,Nat.reduceSub,Nat.reduceAdd,List.map]);(try subst hK);(try refine qy ?_);(repeat refine qq ?_);refine qc (fun h2=>?_) (fun h2=>?_)<;>try simp only[cs] at h2
 ·(try refine qy ?_);(repeat refine qq ?_);(try generalize hK:ck _ _ _ _=K);refine af.fx ?_;(repeat(first|refine xT ?_|refine xL ?_|refine xN ?_|refine xo ?_|refine xp ?_));refine ab.nil ?_;(try dsimp only[Fr.aF,Fr.put,Fr.clean,Fr.ev,Fr.get,nth,V.look,u1,u2,v1,v2,v3,v4,v5,v6,v7,List.length,u3,u4,Nat.reduceSub,Nat.reduceAdd,List.map]);(try subst hK);(try refine qy ?_);refine af.ret ⟨rx,_,rfl,bJ (by simp) (by simp[ak]) ?_⟩;rw[show ch c=(-1,0,0) by unfold ch;rw[if_neg (by omega),if_pos (by omega)]];rfl
 (try refine qy ?_);(repeat refine qq ?_);(try generalize hK:ck _ _ _ _=K);refine af.fx ?_;(repeat(first|refine xT ?_|refine xL ?_|refine xN ?_|refine xo ?_|refine xp ?_));refine ab.nil ?_;(try dsimp only[Fr.aF,Fr.put,Fr.clean,Fr.ev,Fr.get,nth,V.look,u1,u2,v1,v2,v3,v4,v5,v6,v7,List.length,u3,u4,Nat.reduceSub,Nat.reduceAdd,List.map]);(try subst hK);(try refine qy ?_);(repeat refine qq ?_);refine qc (fun h3=>?_) (fun h3=>?_)<;>try simp only[cs] at h3
 ·(try refine qy ?_);(repeat refine qq ?_);(try generalize hK:ck _ _ _ _=K);refine af.fx ?_;(repeat(first|refine xT ?_|refine xL ?_|refine xN ?_|refine xo ?_|refine xp ?_));refine ab.nil ?_;(try dsimp only[Fr.aF,Fr.put,Fr.clean,Fr.ev,Fr.get,nth,V.look,u1,u2,v1,v2,v3,v4,v5,v6,v7,List.length,u3,u4,Nat.reduceSub,Nat.reduceAdd,List.map]);(try subst hK);(try refine qy ?_);refine af.ret ⟨rx,_,rfl,bJ (by simp) (by simp[ak]) ?_⟩;rw[show ch c=(1,128,191) by unfold ch;rw[if_neg (by omega),if_neg (by omega),if_pos (by omega)]];rfl
 (try refine qy ?_);(repeat refine qq ?_);(try generalize hK:ck _ _ _ _=K);refine af.fx ?_;(repeat(first|refine xT ?_|refine xL ?_|refine xN ?_|refine xo ?_|refine xp ?_));refine ab.nil ?_;(try dsimp only[Fr.aF,Fr.put,Fr.clean,Fr.ev,Fr.get,nth,V.look,u1,u2,v1,v2,v3,v4,v5,v6,v7,List.length,u3,u4,Nat.reduceSub,Nat.reduceAdd,List.map]);(try subst hK);(try refine qy ?_);(repeat refine qq ?_);refine qc (fun h4=>?_) (fun h4=>?_)<;>try simp only[cs] at h4
 ·(try refine qy ?_);(repeat refine qq ?_);(try generalize hK:ck _ _ _ _=K);refine af.fx ?_;(repeat(first|refine xT ?_|refine xL ?_|refine xN ?_|refine xo ?_|refine xp ?_));refine ab.nil ?_;(try dsimp only[Fr.aF,Fr.put,Fr.clean,Fr.ev,Fr.get,nth,V.look,u1,u2,v1,v2,v3,v4,v5,v6,v7,List.length,u3,u4,Nat.reduceSub,Nat.reduceAdd,List.map]);(try subst hK);(try refine qy ?_);refine af.ret ⟨rx,_,rfl,bJ (by simp) (by simp[ak]) ?_⟩;rw[show ch c=(2,160,191) by unfold ch;rw[if_neg (by omega),if_neg (by omega),if_neg (by omega),if_pos (by omega)]];rfl
 (try refine qy ?_);(repeat refine qq ?_);(try generalize hK:ck _ _ _ _=K);refine af.fx ?_;(repeat(first|refine xT ?_|refine xL ?_|refine xN ?_|refine xo ?_|refine xp ?_));refine ab.nil ?_;(try dsimp only[Fr.aF,Fr.put,Fr.clean,Fr.ev,Fr.get,nth,V.look,u1,u2,v1,v2,v3,v4,v5,v6,v7,List.length,u3,u4,Nat.reduceSub,Nat.reduceAdd,List.map]);(try subst hK);(try refine qy ?_);(repeat refine qq ?_);refine qc (fun h5=>?_) (fun h5=>?_)<;>try simp only[cs] at h5
 ·(try refine qy ?_);(repeat refine qq ?_);(try generalize hK:ck _ _ _ _=K);refine af.fx ?_;(repeat(first|refine xT ?_|refine xL ?_|refine xN ?_|refine xo ?_|refine xp ?_));refine ab.nil ?_;(try dsimp only[Fr.aF,Fr.put,Fr.clean,Fr.ev,Fr.get,nth,V.look,u1,u2,v1,v2,v3,v4,v5,v6,v7,List.length,u3,u4,Nat.reduceSub,Nat.reduceAdd,List.map]);(try subst hK);(try refine qy ?_);refine af.ret ⟨rx,_,rfl,bJ (by simp) (by simp[ak]) ?_⟩;rw[show ch c=(2,128,159) by unfold ch;rw[if_neg (by omega),if_neg (by omega),if_neg (by omega),if_neg (by omega),if_pos (by omega)]];rfl
 (try refine qy ?_);(repeat refine qq ?_);(try generalize hK:ck _ _ _ _=K);refine af.fx ?_;(repeat(first|refine xT ?_|refine xL ?_|refine xN ?_|refine xo ?_|refine xp ?_));refine ab.nil ?_;(try dsimp only[Fr.aF,Fr.put,Fr.clean,Fr.ev,Fr.get,nth,V.look,u1,u2,v1,v2,v3,v4,v5,v6,v7,List.length,u3,u4,Nat.reduceSub,Nat.reduceAdd,List.map]);(try subst hK);(try refine qy ?_);(repeat refine qq ?_);refine qc (fun h6=>?_) (fun h6=>?_)<;>try simp only[cs] at h6
 ·(try refine qy ?_);(repeat refine qq ?_);(try generalize hK:ck _ _ _ _=K);refine af.fx ?_;(repeat(first|refine xT ?_|refine xL ?_|refine xN ?_|refine xo ?_|refine xp ?_));refine ab.nil ?_;(try dsimp only[Fr.aF,Fr.put,Fr.clean,Fr.ev,Fr.get,nth,V.look,u1,u2,v1,v2,v3,v4,v5,v6,v7,List.length,u3,u4,Nat.reduceSub,Nat.reduceAdd,List.map]);(try subst hK);(try refine qy ?_);refine af.ret ⟨rx,_,rfl,bJ (by simp) (by simp[ak]) ?_⟩;rw[show ch c=(2,128,191) by unfold ch;rw[if_neg (by omega),if_neg (by omega),if_neg (by omega),if_neg (by omega),if_neg (by omega),if_pos (by omega)]];rfl
 (try refine qy ?_);(repeat refine qq ?_);(try generalize hK:ck _ _ _ _=K);refine af.fx ?_;(repeat(first|refine xT ?_|refine xL ?_|refine xN ?_|refine xo ?_|refine xp ?_));refine ab.nil ?_;(try dsimp only[Fr.aF,Fr.put,Fr.clean,Fr.ev,Fr.get,nth,V.look,u1,u2,v1,v2,v3,v4,v5,v6,v7,List.length,u3,u4,Nat.reduceSub,Nat.reduceAdd,List.map]);(try subst hK);(try refine qy ?_);(repeat refine qq ?_);refine qc (fun h7=>?_) (fun h7=>?_)<;>try simp only[cs] at h7
 ·(try refine qy ?_);(repeat refine qq ?_);(try generalize hK:ck _ _ _ _=K);refine af.fx ?_;(repeat(first|refine xT ?_|refine xL ?_|refine xN ?_|refine xo ?_|refine xp ?_));refine ab.nil ?_;(try dsimp only[Fr.aF,Fr.put,Fr.clean,Fr.ev,Fr.get,nth,V.look,u1,u2,v1,v2,v3,v4,v5,v6,v7,List.length,u3,u4,Nat.reduceSub,Nat.reduceAdd,List.map]);(try subst hK);(try refine qy ?_);refine af.ret ⟨rx,_,rfl,bJ (by simp) (by simp[ak]) ?_⟩;rw[show ch c=(3,144,191) by unfold ch;rw[if_neg (by omega),if_neg (by omega),if_neg (by omega),if_neg (by omega),if_neg (by omega),if_neg (by omega),if_pos (by omega)]];rfl
 (try refine qy ?_);(repeat refine qq ?_);(try generalize hK:ck _ _ _ _=K);refine af.fx ?_;(repeat(first|refine xT ?_|refine xL ?_|refine xN ?_|refine xo ?_|refine xp ?_));refine ab.nil ?_;(try dsimp only[Fr.aF,Fr.put,Fr.clean,Fr.ev,Fr.get,nth,V.look,u1,u2,v1,v2,v3,v4,v5,v6,v7,List.length,u3,u4,Nat.reduceSub,Nat.reduceAdd,List.map]);(try subst hK);(try refine qy ?_);(repeat refine qq ?_);refine qc (fun h8=>?_) (fun h8=>?_)<;>try simp only[cs] at h8
 ·(try refine qy ?_);(repeat refine qq ?_);(try generalize hK:ck _ _ _ _=K);refine af.fx ?_;(repeat(first|refine xT ?_|refine xL ?_|refine xN ?_|refine xo ?_|refine xp ?_));refine ab.nil ?_;(try dsimp only[Fr.aF,Fr.put,Fr.clean,Fr.ev,Fr.get,nth,V.look,u1,u2,v1,v2,v3,v4,v5,v6,v7,List.length,u3,u4,Nat.reduceSub,Nat.reduceAdd,List.map]);(try subst hK);(try refine qy ?_);refine af.ret ⟨rx,_,rfl,bJ (by simp) (by simp[ak]) ?_⟩;rw[show ch c=(3,128,191) by unfold ch;rw[if_neg (by omega),if_neg (by omega),if_neg (by omega),if_neg (by omega),if_neg (by omega),if_neg (by omega),if_neg (by omega),if_pos (by omega)]];rfl
 (try refine qy ?_);(repeat refine qq ?_);(try generalize hK:ck _ _ _ _=K);refine af.fx ?_;(repeat(first|refine xT ?_|refine xL ?_|refine xN ?_|refine xo ?_|refine xp ?_));refine ab.nil ?_;(try dsimp only[Fr.aF,Fr.put,Fr.clean,Fr.ev,Fr.get,nth,V.look,u1,u2,v1,v2,v3,v4,v5,v6,v7,List.length,u3,u4,Nat.reduceSub,Nat.reduceAdd,List.map]);(try subst hK);(try refine qy ?_);(repeat refine qq ?_);refine qc (fun h9=>?_) (fun h9=>?_)<;>try simp only[cs] at h9
 ·(try refine qy ?_);(repeat refine qq ?_);(try generalize hK:ck _ _ _ _=K);refine af.fx ?_;(repeat(first|refine xT ?_|refine xL ?_|refine xN ?_|refine xo ?_|refine xp ?_));refine ab.nil ?_;(try dsimp only[Fr.aF,Fr.put,Fr.clean,Fr.ev,Fr.get,nth,V.look,u1,u2,v1,v2,v3,v4,v5,v6,v7,List.length,u3,u4,Nat.reduceSub,Nat.reduceAdd,List.map]);(try subst hK);(try refine qy ?_);refine af.ret ⟨rx,_,rfl,bJ (by simp) (by simp[ak]) ?_⟩;rw[show ch c=(3,128,143) by unfold ch;rw[if_neg (by omega),if_neg (by omega),if_neg (by omega),if_neg (by omega),if_neg (by omega),if_neg (by omega),if_neg (by omega),if_neg (by omega),if_pos (by omega)]];rfl
 refine af.skip ?_;(try refine qy ?_);(repeat refine qq ?_);(try generalize hK:ck _ _ _ _=K);refine af.fx ?_;(repeat(first|refine xT ?_|refine xL ?_|refine xN ?_|refine xo ?_|refine xp ?_));refine ab.nil ?_;(try dsimp only[Fr.aF,Fr.put,Fr.clean,Fr.ev,Fr.get,nth,V.look,u1,u2,v1,v2,v3,v4,v5,v6,v7,List.length,u3,u4,Nat.reduceSub,Nat.reduceAdd,List.map]);(try subst hK);(try refine qy ?_);refine af.ret ⟨rx,_,rfl,bJ (by simp) (by simp[ak]) ?_⟩;rw[show ch c=(-1,0,0) by unfold ch;rw[if_neg (by omega),if_neg (by omega),if_neg (by omega),if_neg (by omega),if_neg (by omega),if_neg (by omega),if_neg (by omega),if_neg (by omega),if_neg (by omega)]];rfl
def iM:(left n r lo hi:Nat)→List UInt8→Nat×Nat×Bool
 |0,n,r,_,_,_=>(r,n,false)
 |left+1,n,r,lo,hi,[]=>(0,0,true)
 |left+1,n,r,lo,hi,x::xs=>if x.toNat<lo∨hi<x.toNat then(0,0,false) else iM left n (r*64+x.toNat %64) 128 191 xs
def gj:List UInt8→Nat×Nat×Bool
 |[]=>(0,0,false)
 |c::xs=>if(ch c.toNat).1<0 then(0,0,false)
   else iM (ch c.toNat).1.toNat ((ch c.toNat).1.toNat+1) (if(ch c.toNat).1>0 then c.toNat %(64/2^(ch c.toNat).1.toNat) else c.toNat) (ch c.toNat).2.1 (ch c.toNat).2.2 xs
theorem nv (c:Nat):(ch c).1=-1∨(ch c).1=0∨(ch c).1=1∨(ch c).1=2∨(ch c).1=3:=by
 unfold ch
 repeat' split
 all_goals simp
theorem yx {w a j:Nat} (ha:a<2^w) (hj:2^j-1<2^w):(BitVec.ofInt w (a:Int) &&&BitVec.ofInt w ((2^j-1:Nat):Int)).toNat=a %2^j:=by
 rw[bv_and ha hj,Nat.and_two_pow_sub_one_eq_mod]
theorem fV (b:List UInt8):(byteCells b).length=b.length:=by simp[byteCells]
theorem qG {b:List UInt8} {i:Nat} {y:UInt8} (h:b[i]?=some y):(byteCells b)[i]?=some [.int .u8 (y.toNat:Nat)]:=by
 simp[byteCells,h]
theorem Gp (y:UInt8):y.toNat<256:=y.toNat_lt
/-- the loop's number: six bits more -/
theorem OC {r y:Nat} (hr:r<33554432) (hy:y<256):b5 .i32 ((BitVec.ofInt 32 (b5 .i32 ((r:Int)*2^(min (Int.toNat 6) 32)))|||BitVec.ofInt 32 (b5 .i32 (b5 .u8 ((BitVec.ofInt 8 (y:Int) &&&BitVec.ofInt 8 63).toNat:Nat)))).toNat:Nat)=((r*64+y %64:Nat):Int):=by
 have h1:(BitVec.ofInt 8 (y:Int) &&&BitVec.ofInt 8 63).toNat=y %64:=yx (w:=8) (j:=6) hy (by decide);rw[h1]
 have h2:((r:Int)*2^(min (Int.toNat 6) 32))=((r*64:Nat):Int):=by
  have:(2:Int)^(min (Int.toNat 6) 32)=64:=by decide
  rw[this];simp
 rw[h2,dC (k:=.i32) (m:=r*64) (by simp only[jU];omega),dC (k:=.u8) (m:=y %64) (by simp only[jU];omega),dC (k:=.i32) (m:=y %64) (by simp only[jU];omega)];rw[N3 (by omega) (by omega)]
 have h3:(r*64)|||(y %64)=r*64+y %64:=by
  have:=Nat.two_pow_add_eq_or_of_lt (i:=6) (b:=y %64) (by omega) r;have e:(2:Nat)^6=64:=by decide
  rw[e] at this;rw[Nat.mul_comm r 64,this]
 rw[h3,dC (k:=.i32) (m:=r*64+y %64) (by simp only[jU];omega)]
theorem Mq {c j:Nat} (hc:c<256) (hj:j≤8) {m:Int} (hm:m=((2^j-1:Nat):Int)):b5 .i32 ((BitVec.ofInt 32 (b5 .i32 (c:Nat)) &&&BitVec.ofInt 32 m).toNat:Nat)=((c %2^j:Nat):Int):=by
 have h1:2^j≤2^8:=Nat.pow_le_pow_right (by omega) hj;rw[hm,dC (k:=.i32) (m:=c) (by simp only[jU];omega),yx (w:=32) (by omega) (by omega)];have:c %2^j≤c:=Nat.mod_le _ _;rw[dC (k:=.i32) (by simp only[jU];omega)]
theorem mask {c j:Nat} (hc:c<256) (hj:j≤8) {m:Int} (hm:m=((2^j-1:Nat):Int)):b5 .i32 ((BitVec.ofInt IntKind.i32.bits (b5 .i32 (c:Nat)) &&&BitVec.ofInt IntKind.i32.bits m).toNat:Nat)=((c %2^j:Nat):Int):=Mq hc hj hm
theorem T3 {r y:Nat} (hr:r<33554432) (hy:y<256):b5 .i32 ((BitVec.ofInt IntKind.i32.bits (b5 .i32 ((r:Int)*2^(min (Int.toNat 6) IntKind.i32.bits)))|||BitVec.ofInt IntKind.i32.bits (b5 .i32 (b5 .u8 ((BitVec.ofInt IntKind.u8.bits (y:Int) &&&BitVec.ofInt IntKind.u8.bits 63).toNat:Nat)))).toNat:Nat)=((r*64+y %64:Nat):Int):=OC hr hy
theorem BI {st:St} {x:D} {b:List UInt8} (hb:Bytes st x b):Ev pv 28 [x] st (.tup [.int .i32 ((gj b).1:Nat),.int .i64 ((gj b).2.1:Nat),.bool (gj b).2.2]) st:=by
 refine Ev.pW rfl RY rfl rfl rfl ?_;dsimp only[u3,u4,List.length,Nat.reduceSub,Nat.reduceAdd,w1,w2];have dL:=hb.enter .ro;(try refine qy ?_);(repeat refine qq ?_);(try generalize hK:ck _ _ _ _=K);refine af.fx ?_;(repeat(first|refine xT ?_|refine xL ?_|refine xN ?_|refine xo ?_|refine xp ?_));refine ab.nil ?_;(try dsimp only[Fr.aF,Fr.put,Fr.clean,Fr.ev,Fr.get,nth,V.look,u1,u2,v1,v2,v3,v4,v5,v6,v7,List.length,u3,u4,Nat.reduceSub,Nat.reduceAdd,List.map]);(try subst hK);(try refine qy ?_);(repeat refine qq ?_);(try generalize hK:ck _ _ _ _=K);refine af.fx ?_
 (first|refine xT ?_|refine xL ?_|refine xN ?_|refine xo ?_|refine xp ?_)
 refine ab.len rfl rfl rfl dL rfl ?_;(repeat(first|refine xT ?_|refine xL ?_|refine xN ?_|refine xo ?_|refine xp ?_));refine ab.nil ?_;(try dsimp only[Fr.aF,Fr.put,Fr.clean,Fr.ev,Fr.get,nth,V.look,u1,u2,v1,v2,v3,v4,v5,v6,v7,List.length,u3,u4,Nat.reduceSub,Nat.reduceAdd,List.map]);(try subst hK);(try refine qy ?_);(repeat refine qq ?_);refine qc (fun h1=>?_) (fun h1=>?_)<;>try simp only[cs] at h1
 ·(try refine qy ?_);(repeat refine qq ?_);(try generalize hK:ck _ _ _ _=K);refine af.fx ?_;(repeat(first|refine xT ?_|refine xL ?_|refine xN ?_|refine xo ?_|refine xp ?_));refine ab.nil ?_;(try dsimp only[Fr.aF,Fr.put,Fr.clean,Fr.ev,Fr.get,nth,V.look,u1,u2,v1,v2,v3,v4,v5,v6,v7,List.length,u3,u4,Nat.reduceSub,Nat.reduceAdd,List.map]);(try subst hK);(try refine qy ?_);refine af.ret ⟨rx,_,rfl,bJ (by simp) (by simp[ak]) ?_⟩
  obtain rfl:b=[]:=by cases b with|nil=>rfl|cons c b=>simp[byteCells] at h1;omega
  rfl
 refine af.skip ?_
 obtain⟨c,xs,rfl⟩:∃c xs,b=c::xs:=by cases b with|nil=>simp[byteCells] at h1|cons c b=>exact⟨c,b,rfl⟩
 obtain⟨k,lo,hi,hm⟩:∃k lo hi,ch c.toNat=(k,lo,hi):=⟨_,_,_,rfl⟩
 have Qd:=Ft c.toNat (ak .ro st);rw[hm] at Qd;have hk:=nv c.toNat;rw[hm] at hk;have hc:=Gp c;(try refine qy ?_);(repeat refine qq ?_);(try generalize hK:ck _ _ _ _=K);refine af.fx ?_
 (first|refine xT ?_|refine xL ?_|refine xN ?_|refine xo ?_|refine xp ?_)
 refine ab.iq rfl rfl rfl (fun _=>rfl) rfl rfl dL rfl rfl (by omega) rfl rfl (fun p=>?_);refine ab.GU rfl rfl rfl Qd ?_;(repeat(first|refine xT ?_|refine xL ?_|refine xN ?_|refine xo ?_|refine xp ?_));refine ab.nil ?_;(try dsimp only[Fr.aF,Fr.put,Fr.clean,Fr.ev,Fr.get,nth,V.look,u1,u2,v1,v2,v3,v4,v5,v6,v7,List.length,u3,u4,Nat.reduceSub,Nat.reduceAdd,List.map]);(try subst hK);(try refine qy ?_);(repeat refine qq ?_);(try generalize hK:ck _ _ _ _=K);refine af.fx ?_;(repeat(first|refine xT ?_|refine xL ?_|refine xN ?_|refine xo ?_|refine xp ?_));refine ab.nil ?_;(try dsimp only[Fr.aF,Fr.put,Fr.clean,Fr.ev,Fr.get,nth,V.look,u1,u2,v1,v2,v3,v4,v5,v6,v7,List.length,u3,u4,Nat.reduceSub,Nat.reduceAdd,List.map]);(try subst hK);(try refine qy ?_);(repeat refine qq ?_);refine qc (fun h2=>?_) (fun h2=>?_)<;>try simp only[cs] at h2
 ·(try refine qy ?_);(repeat refine qq ?_);(try generalize hK:ck _ _ _ _=K);refine af.fx ?_;(repeat(first|refine xT ?_|refine xL ?_|refine xN ?_|refine xo ?_|refine xp ?_));refine ab.nil ?_;(try dsimp only[Fr.aF,Fr.put,Fr.clean,Fr.ev,Fr.get,nth,V.look,u1,u2,v1,v2,v3,v4,v5,v6,v7,List.length,u3,u4,Nat.reduceSub,Nat.reduceAdd,List.map]);(try subst hK);(try refine qy ?_);refine af.ret ⟨rx,_,rfl,bJ (by simp) (by simp[ak]) ?_⟩;simp only[gj,hm];rw[if_pos h2];rfl
 refine af.skip ?_;(try refine qy ?_);(repeat refine qq ?_);(try generalize hK:ck _ _ _ _=K);refine af.fx ?_
 (first|refine xT ?_|refine xL ?_|refine xN ?_|refine xo ?_|refine xp ?_)
 refine ab.iq rfl rfl rfl (fun _=>rfl) rfl rfl dL rfl rfl (by omega) rfl rfl (fun p=>?_);(repeat(first|refine xT ?_|refine xL ?_|refine xN ?_|refine xo ?_|refine xp ?_));refine ab.nil ?_;(try dsimp only[Fr.aF,Fr.put,Fr.clean,Fr.ev,Fr.get,nth,V.look,u1,u2,v1,v2,v3,v4,v5,v6,v7,List.length,u3,u4,Nat.reduceSub,Nat.reduceAdd,List.map]);(try subst hK);(try refine qy ?_);(repeat refine qq ?_);(try generalize hK:ck _ _ _ _=K);refine af.fx ?_;(repeat(first|refine xT ?_|refine xL ?_|refine xN ?_|refine xo ?_|refine xp ?_));refine ab.nil ?_;(try dsimp only[Fr.aF,Fr.put,Fr.clean,Fr.ev,Fr.get,nth,V.look,u1,u2,v1,v2,v3,v4,v5,v6,v7,List.length,u3,u4,Nat.reduceSub,Nat.reduceAdd,List.map]);(try subst hK);(try refine qy ?_);generalize hK:ck _ _ _ _=K
 have H:∀(r kn:Nat) (m:List (Nat×D)),k=(kn:Int)→r=(if k>0 then c.toNat %(64/2^k.toNat) else c.toNat)→(r+1)*64^kn≤2097152→K .next ⟨9,[x,.tup [],.int .i32 r,.int .i64 0,.bool false,.int .i64 k,.int .u8 lo,.int .u8 hi,.tup []],m⟩ (ak .ro st):=by
  intro r kn m hkn hr mP
  have hR:gj (c::xs)=iM kn (kn+1) r lo hi xs:=by
   simp only[gj,hm];rw[if_neg h2,hr,hkn];rfl
  subst hK;rw[hR];generalize hS:iM kn (kn+1) r lo hi xs=R at hR⊢;subst hkn;(try refine qy ?_);(repeat refine qq ?_);(try generalize hK:ck _ _ _ _=K);refine af.fx ?_;(repeat(first|refine xT ?_|refine xL ?_|refine xN ?_|refine xo ?_|refine xp ?_));refine ab.nil ?_;(try dsimp only[Fr.aF,Fr.put,Fr.clean,Fr.ev,Fr.get,nth,V.look,u1,u2,v1,v2,v3,v4,v5,v6,v7,List.length,u3,u4,Nat.reduceSub,Nat.reduceAdd,List.map]);(try subst hK);(try refine qy ?_);refine af.block<|af.loop (fun j fr ah=>∃(i r lo hi:Nat),fr.clean=⟨9,[x,.tup [],.int .i32 r,.int .i64 0,.bool false,.int .i64 kn,.int .u8 lo,.int .u8 hi,.int .i64 (i:Nat)],[]⟩∧ah=ak .ro st∧1≤i∧i+j=kn+1∧iM j (kn+1) r lo hi (xs.drop (i-1))=R∧(r+1)*64^j≤2097152) kn ⟨1,r,lo,hi,rfl,rfl,by omega,by omega,hS,mP⟩ ?_;clear hr mP hS r hm Qd m;rintro j fr ah ⟨i,r,lo,hi,hfr,rfl,Tm,hij,hS,mP⟩;rw[hfr];(try refine qy ?_);(repeat refine qq ?_);(try generalize hK:ck _ _ _ _=K);refine af.fx ?_;(repeat(first|refine xT ?_|refine xL ?_|refine xN ?_|refine xo ?_|refine xp ?_));refine ab.nil ?_;(try dsimp only[Fr.aF,Fr.put,Fr.clean,Fr.ev,Fr.get,nth,V.look,u1,u2,v1,v2,v3,v4,v5,v6,v7,List.length,u3,u4,Nat.reduceSub,Nat.reduceAdd,List.map]);(try subst hK);(try refine qy ?_);(repeat refine qq ?_);refine qc (fun h4=>?_) (fun h4=>?_)<;>try simp only[cs] at h4
  ·refine af.skip ?_
   obtain⟨j,rfl⟩:∃j',j=j'+1:=⟨j-1,by omega⟩
   refine af.seq (af.block ?_);(try refine qy ?_);(repeat refine qq ?_);(try generalize hK:ck _ _ _ _=K);refine af.fx ?_
   (first|refine xT ?_|refine xL ?_|refine xN ?_|refine xo ?_|refine xp ?_)
   (first|refine xT ?_|refine xL ?_|refine xN ?_|refine xo ?_|refine xp ?_)
   refine ab.len rfl rfl rfl dL rfl ?_;(repeat(first|refine xT ?_|refine xL ?_|refine xN ?_|refine xo ?_|refine xp ?_));refine ab.nil ?_;(try dsimp only[Fr.aF,Fr.put,Fr.clean,Fr.ev,Fr.get,nth,V.look,u1,u2,v1,v2,v3,v4,v5,v6,v7,List.length,u3,u4,Nat.reduceSub,Nat.reduceAdd,List.map]);(try subst hK);(try refine qy ?_)
   have zO:(xs.drop (i-1))=[]∨∃y ys,xs.drop (i-1)=y::ys:=by
    cases xs.drop (i-1) with
    |nil=>exact .inl rfl
    |cons y ys=>exact .inr ⟨y,ys,rfl⟩
   have Oc:(xs.drop (i-1)).length=xs.length-(i-1):=List.length_drop ..;have hbl:(byteCells (c::xs)).length=xs.length+1:=by simp[byteCells]
   (try refine qy ?_);(repeat refine qq ?_);refine qc (fun h5=>?_) (fun h5=>?_)<;>try simp only[cs] at h5
   ·(try refine qy ?_);(repeat refine qq ?_);(try generalize hK:ck _ _ _ _=K);refine af.fx ?_;(repeat(first|refine xT ?_|refine xL ?_|refine xN ?_|refine xo ?_|refine xp ?_));refine ab.nil ?_;(try dsimp only[Fr.aF,Fr.put,Fr.clean,Fr.ev,Fr.get,nth,V.look,u1,u2,v1,v2,v3,v4,v5,v6,v7,List.length,u3,u4,Nat.reduceSub,Nat.reduceAdd,List.map]);(try subst hK);(try refine qy ?_);refine af.ret ⟨rx,_,rfl,bJ (by simp) (by simp[ak]) ?_⟩
    rcases zO with zO|⟨y,ys,zO⟩
    ·rw[zO] at hS;simp only[iM] at hS;subst hS;rfl
    ·rw[zO] at Oc;simp only[List.length_cons] at Oc;omega
   refine af.skip ?_
   rcases zO with zO|⟨y,ys,zO⟩
   ·rw[zO] at Oc;simp only[List.length_nil] at Oc;omega
   have hy:(c::xs)[i]?=some y:=by
    obtain⟨i,rfl⟩:∃i',i=i'+1:=⟨i-1,by omega⟩
    have:=congrArg (fun l=>l[0]?) zO
    simpa using this
   have jJ:xs.drop (i+1-1)=ys:=by
    have:=congrArg (fun l=>l.drop 1) zO;simp only[List.drop_drop,List.drop_succ_cons,List.drop_zero] at this;rw[←this];congr 1;omega
   have O1:=qG hy;have UG:=Gp y;rw[zO] at hS;simp only[iM] at hS;(try refine qy ?_);(repeat refine qq ?_);(try generalize hK:ck _ _ _ _=K);refine af.fx ?_
   (first|refine xT ?_|refine xL ?_|refine xN ?_|refine xo ?_|refine xp ?_)
   (first|refine xT ?_|refine xL ?_|refine xN ?_|refine xo ?_|refine xp ?_)
   refine ab.iq rfl rfl rfl (fun _=>rfl) rfl rfl dL rfl rfl (by omega) O1 rfl (fun p=>?_)
   (first|refine xT ?_|refine xL ?_|refine xN ?_|refine xo ?_|refine xp ?_)
   (first|refine xT ?_|refine xL ?_|refine xN ?_|refine xo ?_|refine xp ?_)
   (first|refine xT ?_|refine xL ?_|refine xN ?_|refine xo ?_|refine xp ?_)
   by_cases wB:(y.toNat:Int)<(lo:Int)
   ·rw[decide_eq_true wB];(repeat(first|refine xT ?_|refine xL ?_|refine xN ?_|refine xo ?_|refine xp ?_));refine ab.nil ?_;(try dsimp only[Fr.aF,Fr.put,Fr.clean,Fr.ev,Fr.get,nth,V.look,u1,u2,v1,v2,v3,v4,v5,v6,v7,List.length,u3,u4,Nat.reduceSub,Nat.reduceAdd,List.map]);(try subst hK);(try refine qy ?_);refine af.cond (v:=true) rfl (fun _=>?_) (fun h=>by cases h);(try refine qy ?_);(repeat refine qq ?_);(try generalize hK:ck _ _ _ _=K);refine af.fx ?_;(repeat(first|refine xT ?_|refine xL ?_|refine xN ?_|refine xo ?_|refine xp ?_));refine ab.nil ?_;(try dsimp only[Fr.aF,Fr.put,Fr.clean,Fr.ev,Fr.get,nth,V.look,u1,u2,v1,v2,v3,v4,v5,v6,v7,List.length,u3,u4,Nat.reduceSub,Nat.reduceAdd,List.map]);(try subst hK);(try refine qy ?_);refine af.ret ⟨rx,_,rfl,bJ (by simp) (by simp[ak]) ?_⟩;rw[if_pos (.inl (by omega))] at hS;subst hS;rfl
   rw[decide_eq_false wB]
   (first|refine xT ?_|refine xL ?_|refine xN ?_|refine xo ?_|refine xp ?_)
   (first|refine xT ?_|refine xL ?_|refine xN ?_|refine xo ?_|refine xp ?_)
   refine ab.iq rfl rfl rfl (fun _=>rfl) rfl rfl dL rfl rfl (by omega) O1 rfl (fun p=>?_);(repeat(first|refine xT ?_|refine xL ?_|refine xN ?_|refine xo ?_|refine xp ?_));refine ab.nil ?_;(try dsimp only[Fr.aF,Fr.put,Fr.clean,Fr.ev,Fr.get,nth,V.look,u1,u2,v1,v2,v3,v4,v5,v6,v7,List.length,u3,u4,Nat.reduceSub,Nat.reduceAdd,List.map]);(try subst hK);(try refine qy ?_);(repeat refine qq ?_);refine qc (fun h6=>?_) (fun h6=>?_)<;>try simp only[cs] at h6
   ·(try refine qy ?_);(repeat refine qq ?_);(try generalize hK:ck _ _ _ _=K);refine af.fx ?_;(repeat(first|refine xT ?_|refine xL ?_|refine xN ?_|refine xo ?_|refine xp ?_));refine ab.nil ?_;(try dsimp only[Fr.aF,Fr.put,Fr.clean,Fr.ev,Fr.get,nth,V.look,u1,u2,v1,v2,v3,v4,v5,v6,v7,List.length,u3,u4,Nat.reduceSub,Nat.reduceAdd,List.map]);(try subst hK);(try refine qy ?_);refine af.ret ⟨rx,_,rfl,bJ (by simp) (by simp[ak]) ?_⟩;rw[if_pos (.inr (by omega))] at hS;subst hS;rfl
   refine af.skip ?_;rw[if_neg (by omega)] at hS;(try refine qy ?_);(repeat refine qq ?_);(try generalize hK:ck _ _ _ _=K);refine af.fx ?_
   (first|refine xT ?_|refine xL ?_|refine xN ?_|refine xo ?_|refine xp ?_)
   (first|refine xT ?_|refine xL ?_|refine xN ?_|refine xo ?_|refine xp ?_)
   (first|refine xT ?_|refine xL ?_|refine xN ?_|refine xo ?_|refine xp ?_)
   (first|refine xT ?_|refine xL ?_|refine xN ?_|refine xo ?_|refine xp ?_)
   refine ab.iq rfl rfl rfl (fun _=>rfl) rfl rfl dL rfl rfl (by omega) O1 rfl (fun p=>?_);(repeat(first|refine xT ?_|refine xL ?_|refine xN ?_|refine xo ?_|refine xp ?_));refine ab.nil ?_;(try dsimp only[Fr.aF,Fr.put,Fr.clean,Fr.ev,Fr.get,nth,V.look,u1,u2,v1,v2,v3,v4,v5,v6,v7,List.length,u3,u4,Nat.reduceSub,Nat.reduceAdd,List.map]);(try subst hK);(try refine qy ?_);have U8:r+1≤(r+1)*64^(j+1):=Nat.le_mul_of_pos_right _ (Nat.pow_pos (by omega));rw[T3 (by omega) UG];(try refine qy ?_);(repeat refine qq ?_);(try generalize hK:ck _ _ _ _=K);refine af.fx ?_;(repeat(first|refine xT ?_|refine xL ?_|refine xN ?_|refine xo ?_|refine xp ?_));refine ab.nil ?_;(try dsimp only[Fr.aF,Fr.put,Fr.clean,Fr.ev,Fr.get,nth,V.look,u1,u2,v1,v2,v3,v4,v5,v6,v7,List.length,u3,u4,Nat.reduceSub,Nat.reduceAdd,List.map]);(try subst hK);(try refine qy ?_);(repeat refine qq ?_);(try generalize hK:ck _ _ _ _=K);refine af.fx ?_;(repeat(first|refine xT ?_|refine xL ?_|refine xN ?_|refine xo ?_|refine xp ?_));refine ab.nil ?_;(try dsimp only[Fr.aF,Fr.put,Fr.clean,Fr.ev,Fr.get,nth,V.look,u1,u2,v1,v2,v3,v4,v5,v6,v7,List.length,u3,u4,Nat.reduceSub,Nat.reduceAdd,List.map]);(try subst hK);(try refine qy ?_);rw[wrap_i64 (by omega) (by omega)];refine⟨j,by omega,i+1,_,_,_,rfl,rfl,by omega,by omega,by rw[jJ];exact hS,?_⟩;have e1:(r*64+y.toNat %64+1)≤(r+1)*64:=by omega
   have e2:=Nat.mul_le_mul_right (64^j) e1;have e3:64*64^j=64^(j+1):=by rw[Nat.pow_succ,Nat.mul_comm]
   rw[Nat.mul_assoc,e3] at e2;omega
  ·refine af.exit ?_;have:j=0:=by omega
   subst this;simp only[iM] at hS;subst hS;(try refine qy ?_);(repeat refine qq ?_);(try generalize hK:ck _ _ _ _=K);refine af.fx ?_;(repeat(first|refine xT ?_|refine xL ?_|refine xN ?_|refine xo ?_|refine xp ?_));refine ab.nil ?_;(try dsimp only[Fr.aF,Fr.put,Fr.clean,Fr.ev,Fr.get,nth,V.look,u1,u2,v1,v2,v3,v4,v5,v6,v7,List.length,u3,u4,Nat.reduceSub,Nat.reduceAdd,List.map]);(try subst hK);(try refine qy ?_);refine af.ret ⟨rx,_,rfl,bJ (by simp) (by simp[ak]) ?_⟩;rw[wrap_i64 (by omega) (by omega)];rfl
 rcases hk with hk|hk|hk|hk|hk
 ·omega
 ·subst hk;refine af.cond (v:=false) rfl (fun h=>by cases h) fun _=>af.skip ?_;rw[dC (by simp only[jU];omega)];exact H _ 0 _ rfl rfl (by omega)
 ·subst hk;refine af.cond (v:=true) rfl (fun _=>?_) (fun h=>by cases h);refine af.fx ?_
  (first|refine xT ?_|refine xL ?_|refine xN ?_|refine xo ?_|refine xp ?_)
  refine ab.iq rfl rfl rfl (fun _=>rfl) rfl rfl dL rfl rfl (by omega) rfl rfl (fun p=>?_);(repeat(first|refine xT ?_|refine xL ?_|refine xN ?_|refine xo ?_|refine xp ?_));refine ab.nil ?_;(try dsimp only[Fr.aF,Fr.put,Fr.clean,Fr.ev,Fr.get,nth,V.look,u1,u2,v1,v2,v3,v4,v5,v6,v7,List.length,u3,u4,Nat.reduceSub,Nat.reduceAdd,List.map]);rw[mask (j:=5) hc (by omega)]
  ·exact H _ 1 _ rfl rfl (by omega)
  ·decide
 ·subst hk;refine af.cond (v:=true) rfl (fun _=>?_) (fun h=>by cases h);refine af.fx ?_
  (first|refine xT ?_|refine xL ?_|refine xN ?_|refine xo ?_|refine xp ?_)
  refine ab.iq rfl rfl rfl (fun _=>rfl) rfl rfl dL rfl rfl (by omega) rfl rfl (fun p=>?_);(repeat(first|refine xT ?_|refine xL ?_|refine xN ?_|refine xo ?_|refine xp ?_));refine ab.nil ?_;(try dsimp only[Fr.aF,Fr.put,Fr.clean,Fr.ev,Fr.get,nth,V.look,u1,u2,v1,v2,v3,v4,v5,v6,v7,List.length,u3,u4,Nat.reduceSub,Nat.reduceAdd,List.map]);rw[mask (j:=4) hc (by omega)]
  ·exact H _ 2 _ rfl rfl (by omega)
  ·decide
 ·subst hk;refine af.cond (v:=true) rfl (fun _=>?_) (fun h=>by cases h);refine af.fx ?_
  (first|refine xT ?_|refine xL ?_|refine xN ?_|refine xo ?_|refine xp ?_)
  refine ab.iq rfl rfl rfl (fun _=>rfl) rfl rfl dL rfl rfl (by omega) rfl rfl (fun p=>?_);(repeat(first|refine xT ?_|refine xL ?_|refine xN ?_|refine xo ?_|refine xp ?_));refine ab.nil ?_;(try dsimp only[Fr.aF,Fr.put,Fr.clean,Fr.ev,Fr.get,nth,V.look,u1,u2,v1,v2,v3,v4,v5,v6,v7,List.length,u3,u4,Nat.reduceSub,Nat.reduceAdd,List.map]);rw[mask (j:=3) hc (by omega)]
  ·exact H _ 3 _ rfl rfl (by omega)
  ·decide
end Go.Proofs.Ytbdnabmmlbiomaa
