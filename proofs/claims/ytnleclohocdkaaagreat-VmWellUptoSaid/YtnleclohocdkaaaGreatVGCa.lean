/-
 Ranges of runes: the canonical form, by plain lists. No program in sight.
-/
import Derived.Test.YtnleclohocdkaaaGreatVGHr
import Derived.Test.YtnleclohocdkaaaGreatVPx
import Derived.Test.YtnleclohocdkaaaGreatVM2
import Derived.KernelRfl
set_option linter.unusedSimpArgs false
set_option linter.unusedVariables false
set_option maxRecDepth 100000
set_option maxHeartbeats 4000000
namespace Go.V
abbrev Rg:=Int×Int
def cP (l:List Rg) (r:Int):Prop:=∃x,x∈l∧x.1≤r∧r≤x.2
theorem dq (r:Int):¬cP [] r:=by rintro⟨x,h,_⟩;cases h
theorem aZ {x:Rg} {l:List Rg} {r:Int}:cP (x::l) r↔(x.1≤r∧r≤x.2)∨cP l r:=by
 constructor
 ·rintro⟨y,hy,h⟩
  rcases List.mem_cons.1 hy with rfl|hy
  ·exact .inl h
  ·exact .inr ⟨y,hy,h⟩
 ·rintro(h|⟨y,hy,h⟩)
  ·exact⟨x,List.mem_cons_self ..,h⟩
  ·exact⟨y,List.mem_cons_of_mem _ hy,h⟩
theorem vW {a b:List Rg} {r:Int}:cP (a++b) r↔cP a r∨cP b r:=by
 constructor
 ·rintro⟨y,hy,h⟩
  rcases List.mem_append.1 hy with hy|hy
  ·exact .inl ⟨y,hy,h⟩
  ·exact .inr ⟨y,hy,h⟩
 ·rintro(⟨y,hy,h⟩|⟨y,hy,h⟩)
  ·exact⟨y,List.mem_append_left _ hy,h⟩
  ·exact⟨y,List.mem_append_right _ hy,h⟩
theorem m_ {a b:List Rg} (h:∀x,x∈a↔x∈b) (r:Int):cP a r↔cP b r:=by
 constructor
 ·rintro⟨y,hy,hh⟩;exact⟨y,(h y).1 hy,hh⟩
 ·rintro⟨y,hy,hh⟩;exact⟨y,(h y).2 hy,hh⟩
def canon (l:List Rg):Prop:=(∀x∈l,x.1≤x.2)∧l.Pairwise fun x y=>x.2+1<y.1
theorem jw {x:Rg} {l:List Rg} (h:canon (x::l)):canon l∧x.1≤x.2∧∀r,cP l r→x.2+1<r:=by
 obtain⟨h1,h2⟩:=h;rw[List.pairwise_cons] at h2;refine⟨⟨fun y hy=>h1 y (List.mem_cons_of_mem _ hy),h2.2⟩,h1 x (List.mem_cons_self ..),?_⟩;rintro r ⟨y,hy,h3,h4⟩;have:=h2.1 y hy;omega
theorem ml:∀{a b:List Rg},canon a→canon b→(∀r,cP a r↔cP b r)→a=b
 |[],[],_,_,_=>rfl
 |[],y::b,_,hb,h=>by
  obtain⟨_,h1,_⟩:=jw hb;exact absurd ((h y.1).2 (aZ.2 (.inl ⟨Int.le_refl _,h1⟩))) (dq _)
 |x::a,[],ha,_,h=>by
  obtain⟨_,h1,_⟩:=jw ha;exact absurd ((h x.1).1 (aZ.2 (.inl ⟨Int.le_refl _,h1⟩))) (dq _)
 |x::a,y::b,ha,hb,h=>by
  obtain⟨ca,xa,fa⟩:=jw ha;obtain⟨cb,yb,fb⟩:=jw hb
  have low:∀{x y:Rg} {a b:List Rg},x.1≤x.2→(∀r,cP b r→y.2+1<r)→y.1≤y.2→(∀r,cP (x::a) r→cP (y::b) r)→y.1≤x.1:=by
   intro x y a b hx hf hy hh
   rcases aZ.1 (hh x.1 (aZ.2 (.inl ⟨Int.le_refl _,hx⟩))) with h|h
   ·exact h.1
   ·have:=hf _ h;omega
  have e1:x.1=y.1:=Int.le_antisymm (low yb fa xa fun r=>(h r).2) (low xa fb yb fun r=>(h r).1)
  have up:∀{x y:Rg} {a b:List Rg},x.1≤x.2→x.1=y.1→(∀r,cP a r→x.2+1<r)→(∀r,cP (y::b) r→cP (x::a) r)→y.2≤x.2:=by
   intro x y a b hx he hf hh
   rcases Int.lt_or_le x.2 y.2 with h'|h'
   ·rcases aZ.1 (hh (x.2+1) (aZ.2 (.inl ⟨by omega,by omega⟩))) with h|h
    ·omega
    ·have:=hf _ h;omega
   ·exact h'
  have e2:x.2=y.2:=Int.le_antisymm (up yb e1.symm fb fun r=>(h r).1) (up xa e1 fa fun r=>(h r).2);have e:x=y:=Prod.ext e1 e2;subst e
  congr 1
  refine ml ca cb fun r=>⟨fun hr=>?_,fun hr=>?_⟩
  ·have:=fa r hr
   rcases aZ.1 ((h r).1 (aZ.2 (.inr hr))) with h|h
   ·omega
   ·exact h
  ·have:=fb r hr
   rcases aZ.1 ((h r).2 (aZ.2 (.inr hr))) with h|h
   ·omega
   ·exact h
def cY (acc:List Rg) (r:Rg):List Rg:=
 match acc with
 |[]=>[r]
 |k::rest=>if r.1≤k.2+1 then(k.1,max k.2 r.2)::rest else r::k::rest
theorem l4:∀(l acc:List Rg),(∀x∈l,x.1≤x.2)→l.Pairwise (fun x y=>x.1≤y.1)→(∀k∈acc.head?,∀x∈l,k.1≤x.1)→(∀x∈acc,x.1≤x.2)→acc.Pairwise (fun x y=>y.2+1<x.1)→
  (∀x∈l.foldl cY acc,x.1≤x.2)∧(l.foldl cY acc).Pairwise (fun x y=>y.2+1<x.1)∧∀r,cP (l.foldl cY acc) r↔cP acc r∨cP l r
 |[],acc,_,_,_,h1,h2=>⟨h1,h2,fun r=>⟨.inl,fun h=>h.resolve_right (dq r)⟩⟩
 |x::l,acc,hl,hp,hk,h1,h2=>by
  rw[List.pairwise_cons] at hp;have hx:=hl x (List.mem_cons_self ..);have hl':∀y∈l,y.1≤y.2:=fun y hy=>hl y (List.mem_cons_of_mem _ hy);rw[List.foldl_cons]
  cases acc with
  |nil=>
   obtain⟨g1,g2,g3⟩:=l4 l [x] hl' hp.2 (fun k jr y hy=>by simp at jr;subst jr;exact hp.1 y hy) (fun y hy=>by simp at hy;subst hy;exact hx) (by simp);refine⟨g1,g2,fun r=>(g3 r).trans ?_⟩;rw[aZ (l:=l),aZ (l:=[])];constructor
   ·rintro((h|h)|h)
    ·exact .inr (.inl h)
    ·exact absurd h (dq r)
    ·exact .inr (.inr h)
   ·rintro(h|h|h)
    ·exact absurd h (dq r)
    ·exact .inl (.inl h)
    ·exact .inr h
  |cons k rest=>
   have Vs:=hk k rfl x (List.mem_cons_self ..);have hkk:=h1 k (List.mem_cons_self ..);rw[List.pairwise_cons] at h2;unfold cY
   by_cases hc:x.1≤k.2+1
   ·simp only[if_pos hc]
    obtain⟨g1,g2,g3⟩:=l4 l ((k.1,max k.2 x.2)::rest) hl' hp.2 (fun q hq y hy=>by simp at hq;subst hq;have:=hp.1 y hy;simp only;omega) (fun y hy=>by
     rcases List.mem_cons.1 hy with rfl|hy
     ·simp only;omega
     ·exact h1 y (List.mem_cons_of_mem _ hy)) (by rw[List.pairwise_cons];exact⟨h2.1,h2.2⟩)
    refine⟨g1,g2,fun r=>(g3 r).trans ?_⟩;rw[aZ (l:=rest),aZ (l:=rest),aZ (l:=l)];constructor
    ·rintro((h|h)|h)
     ·simp only at h
      by_cases hr:r≤k.2
      ·exact .inl (.inl ⟨h.1,hr⟩)
      ·exact .inr (.inl ⟨by omega,by omega⟩)
     ·exact .inl (.inr h)
     ·exact .inr (.inr h)
    ·rintro((h|h)|h|h)
     ·exact .inl (.inl ⟨h.1,by simp only;omega⟩)
     ·exact .inl (.inr h)
     ·exact .inl (.inl ⟨by simp only;omega,by simp only;omega⟩)
     ·exact .inr h
   ·simp only[if_neg hc]
    obtain⟨g1,g2,g3⟩:=l4 l (x::k::rest) hl' hp.2 (fun q hq y hy=>by simp at hq;subst hq;exact hp.1 y hy) (fun y hy=>by
     rcases List.mem_cons.1 hy with rfl|hy
     ·exact hx
     ·exact h1 y hy) (by
     rw[List.pairwise_cons];refine⟨fun y hy=>?_,by rw[List.pairwise_cons];exact h2⟩
     rcases List.mem_cons.1 hy with rfl|hy
     ·omega
     ·have:=h2.1 y hy;omega)
    refine⟨g1,g2,fun r=>(g3 r).trans ?_⟩;rw[aZ (l:=k::rest),aZ (l:=l)];constructor
    ·rintro((h|h)|h)
     ·exact .inr (.inl h)
     ·exact .inl h
     ·exact .inr (.inr h)
    ·rintro(h|h|h)
     ·exact .inl (.inr h)
     ·exact .inl (.inl h)
     ·exact .inr h
theorem ya {l:List Rg} (h1:∀x∈l,x.1≤x.2) (h2:l.Pairwise fun x y=>x.1≤y.1):canon (l.foldl cY []).reverse∧∀r,cP (l.foldl cY []).reverse r↔cP l r:=by
 obtain⟨g1,g2,g3⟩:=l4 l [] h1 h2 (fun k hk=>by simp at hk) (fun x hx=>by simp at hx) List.Pairwise.nil;refine⟨⟨fun x hx=>g1 x (List.mem_reverse.1 hx),by rw[List.pairwise_reverse];exact g2⟩,fun r=>?_⟩;rw[m_ (fun x=>List.mem_reverse) r,g3 r];exact⟨fun h=>h.resolve_left (dq r),.inr⟩
def f' (r:Int):Prop:=0≤r∧r≤1114111∧¬(55296≤r∧r≤57343)
def c9 (x:Rg):List Rg:=
 (if max (max x.1 0) 0≤min (min x.2 1114111) 55295 then[(max (max x.1 0) 0,min (min x.2 1114111) 55295)] else[])++
 (if max (max x.1 0) 57344≤min (min x.2 1114111) 1114111 then[(max (max x.1 0) 57344,min (min x.2 1114111) 1114111)] else[])
theorem o5 (x:Rg) (r:Int):cP (c9 x) r↔f' r∧x.1≤r∧r≤x.2:=by
 unfold c9 f';rw[vW]
 have one:∀(a b:Int),cP (if a≤b then[(a,b)] else[]) r↔a≤r∧r≤b:=by
  intro a b
  split
  ·rw[aZ];exact⟨fun h=>h.elim id fun h=>absurd h (dq r),.inl⟩
  ·exact⟨fun h=>absurd h (dq r),fun h=>by omega⟩
 rw[one,one];omega
theorem mM (x:Rg):∀y∈c9 x,y.1≤y.2∧0≤y.1∧y.2≤1114111:=by
 intro y hy;unfold c9 at hy
 rcases List.mem_append.1 hy with h|h<;>split at h<;>simp at h<;>subst h<;>simp only<;>omega
theorem pE {l all:List Rg} (hp:∀x,x∈all↔x∈l.flatMap c9) (hs:all.Pairwise fun x y=>x.1≤y.1):canon (all.foldl cY []).reverse∧∀r,cP (all.foldl cY []).reverse r↔f' r∧cP l r:=by
 have hle:∀x∈all,x.1≤x.2:=fun x hx=>by
  obtain⟨y,_,hy⟩:=List.mem_flatMap.1 ((hp x).1 hx);exact(mM y x hy).1
 obtain⟨g1,g2⟩:=ya hle hs;refine⟨g1,fun r=>(g2 r).trans ((m_ hp r).trans ?_)⟩;constructor
 ·rintro⟨y,hy,h⟩;obtain⟨x,hx,hy⟩:=List.mem_flatMap.1 hy;have:=(o5 x r).1 ⟨y,hy,h⟩;exact⟨this.1,x,hx,this.2⟩
 ·rintro⟨hr,x,hx,h⟩;obtain⟨y,hy,h'⟩:=(o5 x r).2 ⟨hr,h⟩;exact⟨y,List.mem_flatMap.2 ⟨x,hx,hy⟩,h'⟩
def gd:List Rg→Int→Bool
 |[],_=>false
 |x::l,r=>(decide (x.1≤r) &&decide (r≤x.2))||gd l r
theorem qz:∀(l:List Rg) (r:Int),gd l r=true↔cP l r
 |[],r=>⟨fun h=>(by cases h),fun h=>absurd h (dq r)⟩
 |x::l,r=>by
  rw[aZ,←qz l r];simp[gd]
def gm (x:Rg):List Int:=
 (if x.1≤x.2∧0≤x.1∧x.1≤1114111 then[x.1] else[])++(if x.1≤x.2∧0≤x.2∧x.2<1114111 then[x.2+1] else[])
def dH (acc:List Rg) (lo hi:Int):List Rg:=
 match acc with
 |[]=>[(lo,hi)]
 |k::rest=>if k.2+1=lo then(k.1,hi)::rest else(lo,hi)::k::rest
def IB (l:List Rg) (yes:Bool) (a b:Int):Bool:=decide (a<b) &&(decide (a<55296)||decide (57343<a)) &&(gd l a==yes)
def eB (l:List Rg) (yes:Bool):List Int→List Rg→List Rg
 |a::b::t,acc=>eB l yes (b::t) (if IB l yes a b=true then dH acc a (b-1) else acc)
 |_,acc=>acc
theorem FY {l:List Rg} {m:List Int} {a b:Int} (hm:∀x∈l,∀e∈gm x,e≤a∨b≤e) (h1:55296≤a∨b≤55296) (h2:57344≤a∨b≤57344) (ha:0≤a) (hb:b≤1114112) {r:Int} (hr:a≤r) (Na:r<b):
  (f' r↔¬(55296≤a∧a≤57343))∧(cP l r↔cP l a):=by
 refine⟨by unfold f';omega,?_,?_⟩
 ·rintro⟨x,hx,h3,h4⟩;refine⟨x,hx,?_,by omega⟩
  rcases Int.lt_or_le a x.1 with h|h
  ·have:=hm x hx x.1 (by unfold gm;rw[if_pos (by omega)];simp);omega
  ·exact h
 ·rintro⟨x,hx,h3,h4⟩;refine⟨x,hx,by omega,?_⟩
  rcases Int.lt_or_le x.2 r with h|h
  ·have:=hm x hx (x.2+1) (by unfold gm;rw[if_pos (c:=x.1≤x.2∧0≤x.2∧x.2<1114111) (by omega)];simp);omega
  ·exact h
theorem Cm {acc:List Rg} {lo hi:Int} (h1:∀x∈acc,x.1≤x.2) (h2:acc.Pairwise (fun x y=>y.2+1<x.1)) (h3:∀x∈acc,x.2<lo) (h4:lo≤hi):
  (∀x∈dH acc lo hi,x.1≤x.2)∧(dH acc lo hi).Pairwise (fun x y=>y.2+1<x.1)∧(∀x∈dH acc lo hi,x.2≤hi)∧∀r,cP (dH acc lo hi) r↔cP acc r∨(lo≤r∧r≤hi):=by
 cases acc with
 |nil=>
  refine⟨by simp[dH,h4],by simp[dH],by simp[dH],fun r=>?_⟩;simp only[dH];rw[aZ];exact⟨fun h=>.inr (h.resolve_right (dq r)),fun h=>.inl (h.resolve_left (dq r))⟩
 |cons k rest=>
  have hk:=h1 k (List.mem_cons_self ..);have BD:=h3 k (List.mem_cons_self ..);rw[List.pairwise_cons] at h2;unfold dH
  by_cases hc:k.2+1=lo
  ·simp only[if_pos hc];refine⟨fun x hx=>?_,?_,fun x hx=>?_,fun r=>?_⟩
   ·rcases List.mem_cons.1 hx with rfl|hx
    ·simp only;omega
    ·exact h1 x (List.mem_cons_of_mem _ hx)
   ·rw[List.pairwise_cons];exact⟨h2.1,h2.2⟩
   ·rcases List.mem_cons.1 hx with rfl|hx
    ·simp
    ·have:=h3 x (List.mem_cons_of_mem _ hx);omega
   ·rw[aZ (l:=rest),aZ (l:=rest)];simp only;constructor
    ·rintro(h|h)
     ·by_cases hh:r≤k.2
      ·exact .inl (.inl ⟨h.1,hh⟩)
      ·exact .inr (by omega)
     ·exact .inl (.inr h)
    ·rintro((h|h)|h)
     ·exact .inl (by omega)
     ·exact .inr h
     ·exact .inl (by omega)
  ·simp only[if_neg hc];refine⟨fun x hx=>?_,?_,fun x hx=>?_,fun r=>?_⟩
   ·rcases List.mem_cons.1 hx with rfl|hx
    ·exact h4
    ·exact h1 x hx
   ·rw[List.pairwise_cons];refine⟨fun y hy=>?_,by rw[List.pairwise_cons];exact h2⟩
    rcases List.mem_cons.1 hy with rfl|hy
    ·simp only;omega
    ·have:=h2.1 y hy;simp only;omega
   ·rcases List.mem_cons.1 hx with rfl|hx
    ·exact Int.le_refl _
    ·have:=h3 x hx;omega
   ·rw[aZ];exact⟨fun h=>h.elim .inr .inl,fun h=>h.elim .inr .inl⟩
theorem mV (l:List Rg) (yes:Bool):∀(m:List Int) (acc:List Rg),m.Pairwise (·≤·)→(∀a∈m,0≤a∧a≤1114112)→
  (∀q:Int,(q=55296∨q=57344∨∃x∈l,q∈gm x)→q∈m∨∀a∈m,q≤a)→(∀x∈acc,x.1≤x.2)→acc.Pairwise (fun x y=>y.2+1<x.1)→(∀x∈acc,∀a∈m.head?,x.2<a)→
  (∀x∈eB l yes m acc,x.1≤x.2)∧(eB l yes m acc).Pairwise (fun x y=>y.2+1<x.1)∧
  ∀r,cP (eB l yes m acc) r↔cP acc r∨(f' r∧(cP l r↔yes=true)∧(∃a∈m.head?,a≤r)∧∃b∈m.getLast?,r<b)
 |[],acc,_,_,_,h1,h2,_=>⟨h1,h2,fun r=>⟨.inl,fun h=>h.elim id (by rintro⟨_,_,⟨a,h,_⟩,_⟩;simp at h)⟩⟩
 |[a],acc,_,_,_,h1,h2,_=>⟨h1,h2,fun r=>⟨.inl,fun h=>h.elim id (by rintro⟨_,_,⟨a',h,h'⟩,b,hb,dr⟩;simp at h hb;omega)⟩⟩
 |a::b::t,acc,hs,hr,hm,h1,h2,h3=>by
  have Gg:=hs;rw[List.pairwise_cons] at hs;have hab:a≤b:=hs.1 b (List.mem_cons_self ..);have ha:=hr a (List.mem_cons_self ..);have hb:=hr b (List.mem_cons_of_mem _ (List.mem_cons_self ..))
  have key:∀q:Int,(q=55296∨q=57344∨∃x∈l,q∈gm x)→q≤a∨b≤q:=by
   intro q hq
   rcases hm q hq with h|h
   ·rcases List.mem_cons.1 h with rfl|h
    ·exact .inl (Int.le_refl _)
    ·rcases List.mem_cons.1 h with rfl|h
     ·exact .inr (Int.le_refl _)
     ·have:=(List.pairwise_cons.1 hs.2).1 q h;exact .inr this
   ·exact .inl (h a (List.mem_cons_self ..))
  have QI:∀r,a≤r→r<b→(f' r↔¬(55296≤a∧a≤57343))∧(cP l r↔cP l a):=fun r h h'=>
   FY (m:=[]) (fun x hx e he=>key e (.inr (.inr ⟨x,hx,he⟩))) (by have:=key 55296 (.inl rfl);omega) (by have:=key 57344 (.inr (.inl rfl));omega) ha.1 hb.2 h h'
  have Qu:∀q:Int,(q=55296∨q=57344∨∃x∈l,q∈gm x)→q∈b::t∨∀c∈b::t,q≤c:=by
   intro q hq
   rcases hm q hq with h|h
   ·rcases List.mem_cons.1 h with rfl|h
    ·exact .inr hs.1
    ·exact .inl h
   ·exact .inr fun c hc=>h c (List.mem_cons_of_mem _ hc)
  have zK:∀c∈b::t,0≤c∧c≤1114112:=fun c hc=>hr c (List.mem_cons_of_mem _ hc);have oa:∀r,(∃e∈(a::b::t).getLast?,r<e)↔∃e∈(b::t).getLast?,r<e:=fun r=>by rw[List.getLast?_cons_cons]
  have hbl:∃e∈(b::t).getLast?,b≤e:=by
   refine⟨(b::t).getLast (by simp),by rw[List.getLast?_eq_some_getLast (by simp)];simp,?_⟩;have:=List.getLast_mem (l:=b::t) (by simp)
   rcases List.mem_cons.1 this with h|h
   ·rw[h];exact Int.le_refl _
   ·exact(List.pairwise_cons.1 hs.2).1 _ h
  have hok:IB l yes a b=true↔a<b∧¬(55296≤a∧a≤57343)∧(cP l a↔yes=true):=by
   unfold IB;rw[←qz];cases gd l a<;>cases yes<;>simp<;>omega
  unfold eB
  by_cases hc:IB l yes a b=true
  ·rw[if_pos hc];obtain⟨c1,c2,c3⟩:=hok.1 hc;obtain⟨p1,p2,p3,p4⟩:=Cm h1 h2 (fun x hx=>h3 x hx a rfl) (show a≤b-1 by omega);obtain⟨g1,g2,g3⟩:=mV l yes (b::t) _ hs.2 zK Qu p1 p2 (fun x hx c hc=>by simp at hc;subst hc;have:=p3 x hx;omega);refine⟨g1,g2,fun r=>(g3 r).trans ?_⟩;rw[p4,oa];constructor
   ·rintro((h|h)|⟨h4,h5,⟨c,hc,h6⟩,h7⟩)
    ·exact .inl h
    ·obtain⟨k1,k2⟩:=QI r h.1 (by omega);obtain⟨e,he,VA⟩:=hbl;exact .inr ⟨k1.2 c2,k2.trans c3,⟨a,rfl,h.1⟩,e,he,by omega⟩
    ·simp at hc;subst hc;exact .inr ⟨h4,h5,⟨a,rfl,by omega⟩,h7⟩
   ·rintro(h|⟨h4,h5,⟨c,hc,h6⟩,h7⟩)
    ·exact .inl (.inl h)
    ·simp at hc;subst hc
     by_cases Na:r<b
     ·exact .inl (.inr (by omega))
     ·exact .inr ⟨h4,h5,⟨b,rfl,by omega⟩,h7⟩
  ·rw[if_neg hc];obtain⟨g1,g2,g3⟩:=mV l yes (b::t) acc hs.2 zK Qu h1 h2 (fun x hx c hc=>by simp at hc;subst hc;have:=h3 x hx a rfl;omega);refine⟨g1,g2,fun r=>(g3 r).trans ?_⟩;rw[oa];constructor
   ·rintro(h|⟨h4,h5,⟨c,hc,h6⟩,h7⟩)
    ·exact .inl h
    ·simp at hc;subst hc;exact .inr ⟨h4,h5,⟨a,rfl,by omega⟩,h7⟩
   ·rintro(h|⟨h4,h5,⟨c,yv,h6⟩,h7⟩)
    ·exact .inl h
    ·simp at yv;subst yv
     by_cases Na:r<b
     ·exfalso
      obtain⟨k1,k2⟩:=QI r h6 Na;exact hc (hok.2 ⟨by omega,k1.1 h4,k2.symm.trans h5⟩)
     ·exact .inr ⟨h4,h5,⟨b,rfl,by omega⟩,h7⟩
theorem rK {l:List Rg} {m:List Int} (yes:Bool) (hp:∀q,q∈m↔q=0∨q=55296∨q=57344∨q=1114112∨∃x∈l,q∈gm x) (hs:m.Pairwise (·≤·)):
  canon (eB l yes m []).reverse∧∀r,cP (eB l yes m []).reverse r↔f' r∧(cP l r↔yes=true):=by
 have hr:∀a∈m,0≤a∧a≤1114112:=by
  intro a ha
  rcases(hp a).1 ha with h|h|h|h|⟨x,hx,h⟩
  ·omega
  ·omega
  ·omega
  ·omega
  ·unfold gm at h
   rcases List.mem_append.1 h with h|h<;>split at h<;>simp at h<;>omega
 obtain⟨g1,g2,g3⟩:=mV l yes m [] hs hr (fun q hq=>.inl ((hp q).2 (by rcases hq with h|h|h;exact .inr (.inl h);exact .inr (.inr (.inl h));exact .inr (.inr (.inr (.inr h)))))) (fun x hx=>by simp at hx) List.Pairwise.nil (fun x hx=>by simp at hx);have h0:(0:Int)∈m:=(hp 0).2 (.inl rfl);have h9:(1114112:Int)∈m:=(hp _).2 (.inr (.inr (.inr (.inl rfl))))
 have hh:∃a∈m.head?,a≤0:=by
  cases m with
  |nil=>cases h0
  |cons a t=>
   refine⟨a,rfl,?_⟩
   rcases List.mem_cons.1 h0 with h|h
   ·omega
   ·exact(List.pairwise_cons.1 hs).1 _ h
 have hl:∃b∈m.getLast?,1114112≤b:=by
  have hne:m≠[]:=List.ne_nil_of_mem h0;refine⟨m.getLast hne,by rw[List.getLast?_eq_some_getLast hne];simp,?_⟩;obtain⟨i,hi,he⟩:=List.getElem_of_mem h9;rw[List.getLast_eq_getElem,←he]
  rcases Nat.lt_or_ge i (m.length-1) with h|h
  ·exact(List.pairwise_iff_getElem.1 hs) i (m.length-1) hi (by omega) h
  ·have:i=m.length-1:=by omega
   subst this;exact Int.le_refl _
 refine⟨⟨fun x hx=>g1 x (List.mem_reverse.1 hx),by rw[List.pairwise_reverse];exact g2⟩,fun r=>?_⟩;rw[m_ (fun x=>List.mem_reverse) r,g3 r];constructor
 ·rintro(h|⟨h1,h2,_⟩)
  ·exact absurd h (dq r)
  ·exact⟨h1,h2⟩
 ·rintro⟨h1,h2⟩;obtain⟨a,ha,VC⟩:=hh;obtain⟨b,hb,dr⟩:=hl;have:=h1;unfold f' at this;exact .inr ⟨h1,h2,⟨a,ha,by omega⟩,b,hb,by omega⟩
end Go.V
namespace Go.Proofs.YtnleclohocdkaaaGreat
open Go.V Go
def j0 (fr:Go.V.Fr) (k:Nat):Go.V.D:=Go.V.nth .junk fr.loc k
def ah (x:Rg):List D:=[.int .i32 x.1,.int .i32 x.2]
def aY (l:List Rg):D:=.sl (l.map fun x=>.agg (ah x))
theorem fz (l:List Rg):D.sl ((l.map ah).map (iR 2))=aY l:=by
 unfold aY;rw[List.map_map];rfl
theorem c8 (l:List Rg):∀e∈l.map ah,∀d∈e,bC d=true:=by
 intro e he d hd;obtain⟨x,_,rfl⟩:=List.mem_map.1 he;simp only[ah,List.mem_cons,List.not_mem_nil,or_false] at hd
 rcases hd with rfl|rfl<;>rfl
theorem xI (l:List Rg):refs (l.map ah).flatten=0:=by
 induction l with
 |nil=>rfl
 |cons x l ih=>simp only[List.map_cons,List.flatten_cons,ah,List.cons_append,List.nil_append,refs,D.ref,ih];rfl
theorem kA (l:List Rg):∀e∈l.map ah,e.length=2:=by
 intro e he;obtain⟨x,_,rfl⟩:=List.mem_map.1 he;rfl
theorem dN (st:St) (l:List Rg):V.Rows st 2 (aY l) (l.map ah):=by
 rw[←fz];exact Rows.pr (kA l) (c8 l)
theorem cW {l:List Rg} {i:Nat} {q:Rg} (h:l[i]?=some q):(l.map ah)[i]?=some (ah q):=by rw[List.getElem?_map,h];rfl
theorem sW (l:List Rg) (q:Rg) (r:Int):gd (l++[q]) r=(gd l r||(decide (q.1≤r) &&decide (r≤q.2))):=by
 induction l with
 |nil=>simp[gd]
 |cons x l ih=>simp only[List.cons_append,gd,ih,Bool.or_assoc]
theorem wK {l:List Rg} {i:Nat} {r:Int} (h:gd (l.take i) r=true):gd l r=true:=by
 rw[qz] at h⊢;obtain⟨x,h1,h2⟩:=h;exact⟨x,List.mem_of_mem_take h1,h2⟩
theorem mS {s0:St} {x:D} {l:List Rg} {r:Int} (hx:V.Rows s0 2 x (l.map ah)) (hl:l.length≤1073741824):Ev pv 74 [x,.int .i32 r] s0 (.bool (gd l r)) s0:=by
 refine Ev.mk1 rfl OP rfl rfl rfl ?_;refine zE ?_;obtain⟨hSb,hF,hH⟩:=ri s0;generalize enterSt .ro s0=S at*;have hx:=Arg.of hx hSb;refine zQ 10 ?_;refine EvC.loop (fun mm fr st=>∃(i:Nat),fr.clean=⟨6,[x,.int .i32 r,j0 fr 2,j0 fr 3,.bool false,.int .i64 (i:Nat)],[]⟩∧Has s0.bs.length S st []∧(i+mm=l.length)∧(gd (l.take i) r=false)) (l.length) ?_ ?_
 ·exact⟨0,rfl,hH,by omega,rfl⟩
 rintro mm fr st ⟨i,hfr,hH,hi,hn⟩;rw[hfr];clear hfr;generalize j0 fr=ee;clear fr;refine zQ 5 ?_;refine qn ?_;simp only[List.length_map];refine zQ 2 ?_;refine zP (fun h1=>?_) fun h1=>?_
 ·refine zQ 1 ?_
  obtain⟨q,hq⟩:∃q,l[i]?=some q:=⟨l[i]'(by omega),List.getElem?_eq_getElem _⟩
  have hr:=cW hq;refine zQ 3 ?_;refine EvC.cutT 27 (.bool (decide (r≥q.1) &&decide (r≤q.2))) [] ?_ (fun ff tmp htmp=>?_)
  ·refine zQ 3 ?_;refine qr fun LP Fv=>?_;refine qf (fo:=0) fun PZ JT=>?_;refine zQ 3 ?_;refine EvO.two 19 rfl (fun oO=>?_) (fun oO=>?_)
   ·refine zQ 3 ?_;refine qr (fun LN Ft=>?_) (hg:=wi oO);refine qf (fo:=1) (fun F9 wx=>?_) (hg:=wi oO);refine zQ 3 ?_;refine EvO.nil (leafT ?_ ?_)
    ·dsimp only[setW,List.foldl,nth,u2,u1]
     all_goals(first|rfl|simp)
    ·refine zF ?_
     all_goals(simp[oO];done)
   ·refine zQ 8 ?_;refine EvO.nil (leafT ?_ ?_)
    ·dsimp only[setW,List.foldl,nth,u2,u1]
     all_goals(first|rfl|simp)
    ·refine zF ?_
     all_goals(simp[oO];done)
  refine zG ?_
  have ht:gd (l.take (i+1)) r=(decide (r≥q.1) &&decide (r≤q.2)):=by
   rw[List.take_add_one,hq,Option.toList_some,sW,hn];simp
  refine qc (fun h2=>?_) (fun h2=>?_)<;>try simp only[cs] at h2
  ·refine zQ 4 ?_;rw[wK (i:=i+1) (by rw[ht];simp[h2])];refine EvC.ret ⟨rx,_,rfl,rl hSb hH (rfl)⟩
  ·refine zQ 6 ?_;exact⟨mm-1,by omega,⟨i+1,rfl,hH,by omega,by rw[ht];simp[h2]⟩⟩
 ·refine zQ 5 ?_;have:gd l r=false:=by rw[←hn,List.take_of_length_le (by omega)]
  rw[this];refine EvC.ret ⟨rx,_,rfl,rl hSb hH (rfl)⟩
theorem Dn {s0:St} {x:D} {l:List Rg} {r:Int} (hx:V.Rows s0 2 x (l.map ah)) (hl:l.length≤1073741824):Ev pv 103 [x,.int .i32 r] s0 (.bool (gd l r)) s0:=by
 refine Ev.mk1 rfl Ls rfl rfl rfl ?_;refine zE ?_;obtain⟨hSb,hF,hH⟩:=ri s0;generalize enterSt .ro s0=S at*;have hx:=Arg.of hx hSb;refine zQ 8 ?_;refine qn ?_;simp only[List.length_map];refine zQ 3 ?_;refine EvC.loop (fun mm fr st=>∃(i:Nat),fr.clean=⟨10,[x,.int .i32 r,j0 fr 2,j0 fr 3,.bool false,j0 fr 5,j0 fr 6,x,.int .i64 (l.length:Nat),.int .i64 (i:Nat)],[]⟩∧Has s0.bs.length S st []∧(i+mm=l.length)∧(gd (l.take i) r=false)) (l.length) ?_ ?_
 ·exact⟨0,rfl,hH,by omega,rfl⟩
 rintro mm fr st ⟨i,hfr,hH,hi,hn⟩;rw[hfr];clear hfr;generalize j0 fr=ee;clear fr;refine zQ 5 ?_;refine zP (fun h1=>?_) fun h1=>?_
 ·refine zQ 1 ?_
  obtain⟨q,hq⟩:∃q,l[i]?=some q:=⟨l[i]'(by omega),List.getElem?_eq_getElem _⟩
  have hr:=cW hq;refine zQ 4 ?_;refine qr fun P5 J0=>?_;refine EvO.bF rfl (ev rfl) (by assumption) rfl (put_T rfl _) ?_;refine qa hH fun k6 st Ef hH=>?_;refine qS hH at0 fun st hH=>?_;dsimp only[u2,u1,u3,u4,setMany,u5,u6,D.cells,Nat.reduceAdd,ah] at hH;refine zQ 2 ?_;refine EvC.cutT 22 (.bool (decide (r≥q.1) &&decide (r≤q.2))) [] ?_ (fun ff tmp htmp=>?_)
  ·refine zQ 5 ?_;refine EvO.two 17 rfl (fun hg4=>?_) (fun hg4=>?_)
   ·refine zQ 5 ?_;refine EvO.nil (leafT ?_ ?_)
    ·dsimp only[setW,List.foldl,nth,u2,u1]
     all_goals(first|rfl|simp)
    ·refine zF ?_
     all_goals(simp[hg4];done)
   ·refine zQ 5 ?_;refine EvO.nil (leafT ?_ ?_)
    ·dsimp only[setW,List.foldl,nth,u2,u1]
     all_goals(first|rfl|simp)
    ·refine zF ?_
     all_goals(simp[hg4];done)
  refine zG ?_
  have ht:gd (l.take (i+1)) r=(decide (r≥q.1) &&decide (r≤q.2)):=by
   rw[List.take_add_one,hq,Option.toList_some,sW,hn];simp
  refine qc (fun h2=>?_) (fun h2=>?_)<;>try simp only[cs] at h2
  ·refine zQ 4 ?_;rw[wK (i:=i+1) (by rw[ht];simp[h2])];refine EvC.ret ⟨rx,_,rfl,rl hSb hH (rfl)⟩
  ·refine zQ 5 ?_;exact⟨mm-1,by omega,⟨i+1,rfl,(hH.drop 1),by omega,by rw[ht];simp[h2]⟩⟩
 ·refine zQ 5 ?_;have:gd l r=false:=by rw[←hn,List.take_of_length_le (by omega)]
  rw[this];refine EvC.ret ⟨rx,_,rfl,rl hSb hH (rfl)⟩
def aL (fr:Go.V.Fr) (k:Nat):Go.V.D:=Go.V.nth .junk fr.loc k
def eG:List Rg:=[(0,55295),(57344,1114111)]
def rL (lo hi:Int) (p:Rg):List Rg:=if max lo p.1≤min hi p.2 then[(max lo p.1,min hi p.2)] else[]
theorem tD (q:Rg):c9 q=eG.flatMap (rL (max q.1 0) (min q.2 1114111)):=by
 simp[c9,eG,rL]
theorem B5 {s0:St} (q:Rg):Ev pv 145 [.agg (ah q)] s0 (aY (c9 q)) s0:=by
 refine Ev.mk1 rfl K8 rfl rfl rfl ?_;refine zE ?_;obtain⟨hSb,hF,hH⟩:=ri s0;generalize enterSt .ro s0=S at*;refine zQ 2 ?_;refine qb hH fun k1 st pY hH=>?_;dsimp only[u2,u1,u3,u4,setMany,u5,u6,D.cells,Nat.reduceAdd,ah] at hH;refine zQ 6 ?_;refine EvO.EV (t1:=0) (t2:=0) rfl (ev rfl) (ev rfl) (by dsimp only[Fr.put,u1,u2]<;>rfl) ?_;refine zQ 2 ?_;refine EvO.EU (t1:=0) (t2:=0) rfl (ev rfl) (ev rfl) (by dsimp only[Fr.put,u1,u2]<;>rfl) ?_;refine zQ 1 ?_;refine qT hH at0 fun st hH=>?_;dsimp only[u2,u1,u3,u4,setMany,u5,u6,D.cells,Nat.reduceAdd,ah] at hH;refine zQ 1 ?_;refine qT hH at0 fun st hH=>?_;dsimp only[u2,u1,u3,u4,setMany,u5,u6,D.cells,Nat.reduceAdd,ah] at hH;refine zQ 1 ?_;generalize wC:max q.1 0=lo at*;generalize Bb:min q.2 1114111=hi at*;refine zQ 4 ?_;have hH:=hH.nulE 2;refine zQ 5 ?_;refine qh (s:=2) (vs:=[_,_]) hH fun k17 st NY hH=>?_;dsimp only[u2,u1,u3,u4,setMany,u5,u6,D.cells,Nat.reduceAdd,ah] at hH;refine qn ?_ (hR:=hH.rows at0);simp only[List.length_map,List.length_cons,List.length_nil];refine zQ 3 ?_;refine EvC.loop (fun mm fr st=>∃(i:Nat) (x:D),fr.clean=⟨20,[.agg (ah q),.ptr k1 0 0,.nul,x,aL fr 4,aL fr 5,aL fr 6,aL fr 7,aL fr 8,aL fr 9,aL fr 10,aL fr 11,aL fr 12,aL fr 13,aL fr 14,aL fr 15,aL fr 16,.win k17 0 0 2 2,.int .i64 2,.int .i64 (i:Nat)],[]⟩∧Has s0.bs.length S st [.lst (.win k17 0 0 2 2) 2 (eG.map ah),.lst x 2 (((eG.take i).flatMap (rL lo hi)).map ah),.box k1 (.mem 0 false [.int .i32 lo,.int .i32 hi])]∧(i+mm=2)∧(((eG.take i).flatMap (rL lo hi)).length≤i)) (2) ?_ ?_
 ·exact⟨0,.nul,rfl,hH,by omega,by simp⟩
 rintro mm fr st ⟨i,x,hfr,hH,hij,hb⟩;rw[hfr];clear hfr;generalize aL fr=ee;clear fr;refine zQ 5 ?_;refine zP (fun h1=>?_) fun h1=>?_
 ·refine zQ 1 ?_
  obtain⟨p,hp⟩:∃p,eG[i]?=some p:=⟨eG[i]'(by simp[eG];omega),List.getElem?_eq_getElem _⟩
  have hr:=cW hp;refine zQ 4 ?_;refine qi hH at0 fun Jd C6=>?_;refine EvO.tP hH rfl (ev rfl) (by assumption) (by exact at0) (by assumption) rfl (put_T rfl _) ?_;refine qa hH fun k5 st zO hH=>?_;refine qS hH at0 fun st hH=>?_;dsimp only[u2,u1,u3,u4,setMany,u5,u6,D.cells,Nat.reduceAdd,ah] at hH;refine zQ 7 ?_;refine EvO.EV (t1:=0) (t2:=0) rfl (ev rfl) (ev rfl) (put_T rfl _) ?_;refine zQ 4 ?_;refine EvO.EU (t1:=0) (t2:=0) rfl (ev rfl) (ev rfl) (put_T rfl _) ?_;refine qg ?_;refine qa hH fun k6 st Ef hH=>?_;refine qS hH at0 fun st hH=>?_;dsimp only[u2,u1,u3,u4,setMany,u5,u6,D.cells,Nat.reduceAdd,ah] at hH;refine zQ 9 ?_;refine zP (fun h2=>?_) fun h2=>?_
  ·refine zQ 2 ?_;refine EvO.hloadS (m:=2) hH rfl (ev rfl) (by exact at0) (by dsimp only[List.drop_succ_cons,List.drop_zero,List.take_succ_cons,List.take_zero,ah]<;>rfl) rfl rfl (put_T rfl _) ?_;refine qh (s:=2) (vs:=[_]) hH fun k41 st Kb hH=>?_;refine EvO.happend (s:=2) hH rfl (ev rfl) (ev rfl) (by exact at4) (by exact hH.rows (by exact at0)) rfl rfl rfl rfl rfl rfl rfl ⟨(Nat.le_of_ble_eq_true rfl),(Nat.le_of_ble_eq_true rfl)⟩ (fun _=>(put_T rfl _)) (by simp only[List.length_cons,List.length_nil,List.length_map]<;>omega) (by exact .inl hF) (fun IY st hH=>?_);dsimp only[u2,u1,u3,u4,setMany,u5,u6,D.cells,Nat.reduceAdd,ah] at hH;refine zQ 6 ?_
   have h3:(eG.take (i+1)).flatMap (rL lo hi)=(eG.take i).flatMap (rL lo hi)++[(max lo p.1,min hi p.2)]:=by
    rw[List.take_add_one,hp,List.flatMap_append];simp[rL,h2]
   exact⟨mm-1,by omega,⟨i+1,IY,rfl,(by rw[h3,List.map_append];exact hH.drop 3),by omega,by rw[h3];simp only[List.length_append,List.length_cons,List.length_nil];omega⟩⟩
  ·refine zQ 5 ?_
   have h3:(eG.take (i+1)).flatMap (rL lo hi)=(eG.take i).flatMap (rL lo hi):=by
    rw[List.take_add_one,hp,List.flatMap_append];simp[rL,h2]
   exact⟨mm-1,by omega,⟨i+1,x,rfl,(by rw[h3];exact hH.drop 2),by omega,by rw[h3];omega⟩⟩
 ·refine zQ 6 ?_;rw[←fz];have h3:eG.take i=eG:=List.take_of_length_le (by simp[eG];omega);rw[h3] at hH;refine EvC.ret ⟨rx,_,rfl,rl hSb hH ?_⟩;refine Eq.trans (hH.freeze at1 (c8 _) (n:=15) (by decide)) ?_;rw[tD,wC,Bb]
theorem AA (q x:Rg) (h:x∈c9 q):0≤x.1∧x.1≤1114111:=by
 obtain⟨h1,h2,h3⟩:=mM q x h;omega
theorem o6 (q:Rg):(c9 q).length≤2:=by
 unfold c9;split<;>split<;>simp
theorem h_ (l:List Rg):(l.flatMap c9).length≤2*l.length:=by
 induction l with
 |nil=>simp
 |cons x l ih=>simp only[List.flatMap_cons,List.length_append,List.length_cons];have:=o6 x;omega
theorem rX:∀{l:List Rg},(∀x∈l,0≤x.1∧x.1≤1114111)→∃m:List Rs,eA m=(l.map ah).flatten∧m.map (fun x=>(x.lo,x.hi))=l
 |[],_=>⟨[],rfl,rfl⟩
 |x::l,h=>by
  obtain⟨m,h1,h2⟩:=rX (l:=l) fun y hy=>h y (List.mem_cons_of_mem _ hy);obtain⟨h3,h4⟩:=h x (List.mem_cons_self ..);exact⟨⟨x.1,x.2,h3,h4⟩::m,by simp only[eA,h1,List.map_cons,List.flatten_cons,ah,List.cons_append,List.nil_append],by simp[h2]⟩
theorem yE (m:List Rs):eA m=((m.map fun x=>((x.lo,x.hi):Rg)).map ah).flatten:=by
 induction m with
 |nil=>rfl
 |cons x m ih=>simp only[eA,ih,List.map_cons,List.flatten_cons,ah,List.cons_append,List.nil_append]
theorem Dm {N:Nat} {S st:St} {H:List aP} {j:Nat} {x:D} {l:List Rg} (hH:Has N S st H) (hj:H[j]?=some (.lst x 2 (l.map ah))) (h0:l=[]→x=.nul) (hl:l.length≤1073741824) (hr:∀y∈l,0≤y.1∧y.1≤1114111):
  ∃(ab:St) (l':List Rg),Ev pv 146 [x,.fn 147 []] st (.tup []) ab∧Has N S ab (H.set j (.lst x 2 (l'.map ah)))∧l'.Perm l∧l'.Pairwise fun a b=>a.1≤b.1:=by
 obtain⟨m,h1,h2⟩:=rX hr;obtain⟨h3,h4⟩:=srt_facts m;have A':m.length=l.length:=by rw[←h2];simp
 have hperm:((srt m).map fun x=>((x.lo,x.hi):Rg)).Perm l:=by rw[←h2];exact h3.map _
 have kX:((srt m).map fun x=>((x.lo,x.hi):Rg)).Pairwise fun a b=>a.1≤b.1:=by rw[List.pairwise_map];exact h4
 have hlen:(srt m).length=l.length:=h3.length_eq.trans A';have hown:=hH.own hj;generalize ov:l.map ah=es at*;have mB:es.length=l.length:=by rw[←ov];simp
 cases hown with
 |nul=>
  have II:l=[]:=by cases l with|nil=>rfl|cons _ _=>simp at mB
  refine⟨st,(srt m).map fun x=>(x.lo,x.hi),Ev.prim rfl rfl,?_,hperm,kX⟩
  have:(srt m).map (fun x=>((x.lo,x.hi):Rg))=[]:=by
   cases hs:srt m with
   |nil=>rfl
   |cons a b=>rw[hs,II] at hlen;simp at hlen
  rw[this];exact hH.BO hj (fun _ _ _=>rfl) (Nat.le_refl _) rfl rfl .nul (fun k hk=>.inl hk) fun k hk=>by simp only[aP.lst,D.ref] at hk;omega
 |win k av off es c hm hle hc he=>
  have hne:l≠[]:=fun e=>by have:=h0 e;cases this
  have ux:1≤l.length:=by cases l with|nil=>exact absurd rfl hne|cons _ _=>simp
  have hk:=(hH.ok j _ hj).2 k (by simp only[aP.lst,D.ref]);have yr:(eA (srt m)).length=es.length*2:=by rw[mc,hlen,mB];omega
  have hwr:st.wr k av off (eA (srt m))=some ⟨st.bs.set k (.mem av true (c.take off++eA (srt m)++c.drop (off+(eA (srt m)).length))),st.flr,st.ro⟩:=
   lf hm (by omega) (fS hH hk.1 (.inr (ta _)))
  refine⟨⟨st.bs.set k (.mem av true (c.take off++eA (srt m)++c.drop (off+(eA (srt m)).length))),st.flr,st.ro⟩,(srt m).map fun x=>(x.lo,x.hi),Ev.prim rfl ?_,?_,hperm,kX⟩
  ·show As [.win k av off es.length 2,.fn 147 []] st=_;have hcc:(c.drop off).take (2*es.length)=eA m:=by rw[Nat.mul_comm,hc,h1]
   simp only[As,St.mem_of hm,hcc,zg,GI];rw[decide_eq_true (⟨by rw[A',mB],by omega,by omega⟩:m.length=es.length∧1≤es.length∧es.length<1099511627776)];simp only[hwr]
  ·refine hH.BO hj (fun n hn hne=>?_) (by simp) rfl rfl ?_ (fun n hn=>.inl hn) fun n hn=>?_
   ·simp only;rw[List.getElem?_set_ne (fun e=>hne (by simp only[aP.lst,D.ref];omega))]
   ·have h9:=gf.win (st:=⟨st.bs.set k (.mem av true (c.take off++eA (srt m)++c.drop (off+(eA (srt m)).length))),st.flr,st.ro⟩) (s:=2) k av off (((srt m).map fun x=>((x.lo,x.hi):Rg)).map ah) (c.take off++eA (srt m)++c.drop (off+(eA (srt m)).length))
     (by simp only;rw[List.getElem?_set_self hk.2]) (by simp only[List.length_append,List.length_take,List.length_map,List.length_drop,yr];omega) ?_ (kA _)
    ·simp only[List.length_map,hlen] at h9;rw[mB];exact h9
    ·have NC:(c.take off).length=off:=by simp;omega
     rw[List.append_assoc,List.drop_left' NC,←yE,List.take_left' (by simp only[List.length_map,hlen];omega)]
   ·simp only[aP.lst,D.ref] at hn;simp only[List.length_set];omega
theorem pK (l:List Rg):(l.foldl cY []).length≤l.length:=by
 have key:∀(l acc:List Rg),(l.foldl cY acc).length≤acc.length+l.length:=by
  intro l
  induction l with
  |nil=>intro acc;simp
  |cons x l ih=>
   intro acc;simp only[List.foldl_cons,List.length_cons];have:=ih (cY acc x)
   have h2:(cY acc x).length≤acc.length+1:=by
    unfold cY;split
    ·simp
    ·split<;>simp
   omega
 have:=key l []
 simpa using this
theorem E0 {l:List Rg} (h:∀x∈l,0≤x.2∧x.2≤1114111):∀x∈l.foldl cY [],0≤x.2∧x.2≤1114111:=by
 have key:∀(l acc:List Rg),(∀x∈l,0≤x.2∧x.2≤1114111)→(∀x∈acc,0≤x.2∧x.2≤1114111)→∀x∈l.foldl cY acc,0≤x.2∧x.2≤1114111:=by
  intro l
  induction l with
  |nil=>intro acc _ h x hx;exact h x hx
  |cons y l ih=>
   intro acc h1 h2;refine ih _ (fun x hx=>h1 x (List.mem_cons_of_mem _ hx)) fun x hx=>?_;have hy:=h1 y (List.mem_cons_self ..);unfold cY at hx
   split at hx
   ·simp only[List.mem_cons,List.not_mem_nil,or_false] at hx;rw[hx];exact hy
   ·rename_i k rest;have hk:=h2 k (List.mem_cons_self ..)
    split at hx
    ·rcases List.mem_cons.1 hx with rfl|hx
     ·simp only;omega
     ·exact h2 x (List.mem_cons_of_mem _ hx)
    ·rcases List.mem_cons.1 hx with rfl|hx
     ·exact hy
     ·exact h2 x hx
 exact key l [] h (fun x hx=>by cases hx)
theorem wh (h:Rg) (t:List Rg):((h::t).reverse.map ah)[t.length]?=some (ah h):=by
 rw[List.getElem?_map,List.reverse_cons,List.getElem?_append_right (by simp)];simp
theorem wg (h h':Rg) (t:List Rg):((h::t).reverse.map ah).set t.length (ah h')=(h'::t).reverse.map ah:=by
 rw[List.reverse_cons,List.map_append,List.set_append_right _ _ (by simp)];simp
theorem zr {s0:St} {x:D} {l:List Rg} (hx:V.Rows s0 2 x (l.map ah)) (hl:l.length≤268435456):∃d,Ev pv 133 [x] s0 d s0∧∃all:List Rg,d=aY (all.foldl cY []).reverse∧all.Perm (l.flatMap c9)∧all.Pairwise fun a b=>a.1≤b.1:=by
 refine Ev.Bx rfl La rfl rfl rfl ?_;refine zE ?_;obtain⟨hSb,hF,hH⟩:=ri s0;generalize enterSt .ro s0=S at*;have hx:=Arg.of hx hSb;have lC:=h_ l
 have hfi:∀i,((l.take i).flatMap c9).length≤2*l.length:=fun i=>by
  have:=h_ (l.take i);simp only[List.length_take] at this;omega
 refine zQ 13 ?_;refine qn ?_;simp only[List.length_map];refine zQ 2 ?_;have hH:=hH.nulE 2;refine zQ 1 ?_;refine EvC.loop (fun mm fr st=>∃(i:Nat) (y:D),fr.clean=⟨26,[x,aL fr 1,aL fr 2,y,.nul,aL fr 5,aL fr 6,aL fr 7,aL fr 8,aL fr 9,x,.int .i64 (l.length:Nat),.int .i64 (i:Nat),aL fr 13,aL fr 14,aL fr 15,aL fr 16,aL fr 17,aL fr 18,aL fr 19,aL fr 20,aL fr 21,aL fr 22,aL fr 23,aL fr 24,aL fr 25],[]⟩∧Has s0.bs.length S st [.lst y 2 (((l.take i).flatMap c9).map ah)]∧(i+mm=l.length)∧((l.take i).flatMap c9=[]→y=.nul)) (l.length) ?_ ?_
 ·exact⟨0,.nul,rfl,hH,by omega,fun _=>rfl⟩
 rintro mm fr st ⟨i,y,hfr,hH,hi,Hz⟩;rw[hfr];clear hfr;generalize aL fr=ee;clear fr;refine zQ 4 ?_;have hm:=hfi i;refine qq<|zP (fun h1=>?_) fun h1=>?_
 ·refine zQ 1 ?_
  obtain⟨q,hq⟩:∃q,l[i]?=some q:=⟨l[i]'(by omega),List.getElem?_eq_getElem _⟩
  have hr:=cW hq
  have yl:(l.take (i+1)).flatMap c9=(l.take i).flatMap c9++c9 q:=by
   rw[List.take_add_one,hq];simp
  have Vh:=o6 q;refine zQ 4 ?_;refine qr fun P0 JV=>?_;refine EvO.bF rfl (ev rfl) (by assumption) rfl (by dsimp only[Fr.put,u1,u2]<;>rfl) ?_;refine qa hH fun k6 st Ef hH=>?_;refine qS hH at0 fun st hH=>?_;dsimp only[u2,u1,u3,u4,setMany,u5,u6,D.cells,Nat.reduceAdd,ah] at hH;refine zQ 3 ?_;refine EvO.hloadS (m:=2) hH rfl (ev rfl) (by exact at0) (by dsimp only[List.drop_succ_cons,List.drop_zero,List.take_succ_cons,List.take_zero,ah]<;>rfl) rfl rfl (by dsimp only[Fr.put,u1,u2]<;>rfl) ?_;refine qv (B5 q) ?_;refine EvO.Dp hH rfl rfl rfl (by exact at1) (dN _ _) rfl rfl rfl rfl rfl rfl rfl ⟨(Nat.le_of_ble_eq_true rfl),(Nat.le_of_ble_eq_true rfl)⟩ (fun _=>by dsimp only[Fr.put,u1,u2]<;>rfl) (by simp only[List.length_map];omega) (.inl hF) (fun LH st J2 hH=>?_);dsimp only[u2,u1] at hH;refine zQ 6 ?_;exact⟨mm-1,by omega,⟨i+1,LH,rfl,(by rw[yl,List.map_append];exact hH.drop 1),by omega,by rw[yl];intro h;obtain⟨h3,h4⟩:=List.append_eq_nil_iff.1 h;rw[J2 (by rw[h4];rfl)];exact Hz h3⟩⟩
 ·refine zQ 1 ?_;have hT:l.take i=l:=List.take_of_length_le (by omega);rw[hT] at hH Hz hm
  obtain⟨st2,all,hev,yx,hperm,kX⟩:=Dm hH at0 Hz (by omega) (fun z hz=>by
   obtain⟨w,_,hw⟩:=List.mem_flatMap.1 hz
   exact AA w z hw)
  have hlen:=hperm.length_eq
  have hbd:∀z∈all,0≤z.2∧z.2≤1114111:=fun z hz=>by
   obtain⟨w,_,hw⟩:=List.mem_flatMap.1 (hperm.mem_iff.1 hz);have:=mM w z hw;omega
  refine zQ 3 ?_;refine qv (hev) ?_;refine zQ 1 ?_;have hH:=yx;dsimp only[u2] at hH;clear yx hev;have hR:=hH.rows at0;have hH:=hH.nulE 2;refine zQ 4 ?_;refine qn ?_ (hR:=hH.rows at1);simp only[List.length_map];refine zQ 3 ?_;refine EvC.loop (fun mm fr st=>∃(i:Nat) (z:D),fr.clean=⟨26,[x,aL fr 1,aL fr 2,y,z,aL fr 5,aL fr 6,aL fr 7,aL fr 8,aL fr 9,aL fr 10,aL fr 11,aL fr 12,aL fr 13,aL fr 14,aL fr 15,aL fr 16,aL fr 17,aL fr 18,aL fr 19,aL fr 20,aL fr 21,aL fr 22,y,.int .i64 (all.length:Nat),.int .i64 (i:Nat)],[]⟩∧Has s0.bs.length S st [.lst z 2 (((all.take i).foldl cY []).reverse.map ah),.lst y 2 (all.map ah)]∧(i+mm=all.length)) (all.length) ?_ ?_
  ·exact⟨0,.nul,rfl,hH,by omega⟩
  rintro mm fr st ⟨i,z,hfr,hH,hi⟩;rw[hfr];clear hfr;generalize aL fr=ee;clear fr;refine zQ 4 ?_
  have iV:((all.take i).foldl cY []).length≤all.length:=by
   have:=pK (all.take i);simp only[List.length_take] at this;omega
  refine qq<|zP (fun h1=>?_) fun h1=>?_
  ·refine zQ 1 ?_
   obtain⟨q,hq⟩:∃q,all[i]?=some q:=⟨all[i]'(by omega),List.getElem?_eq_getElem _⟩
   have hr:=cW hq
   have HM:(all.take (i+1)).foldl cY []=cY ((all.take i).foldl cY []) q:=by
    rw[List.take_add_one,hq,List.foldl_append];rfl
   generalize FJ:(all.take i).foldl cY []=acc at*;refine zQ 4 ?_;refine qi hH at1 fun p27 hp27=>?_;refine EvO.tP hH rfl (ev rfl) (by assumption) (by exact at1) (by assumption) rfl (put_T rfl _) ?_;refine qa hH fun k8 st hk8 hH=>?_;refine qS hH at0 fun st hH=>?_;dsimp only[u2,u1,u3,u4,setMany,u5,u6,D.cells,Nat.reduceAdd,ah] at hH;refine zQ 1 ?_
   rcases acc with _|⟨h,t⟩
   ·refine zQ 3 ?_;refine qn ?_ (hR:=hH.rows at1);simp only[List.length_map,List.length_nil,List.length_reverse];refine EvO.gR (z:=(-1)) rfl (ev rfl) (ev rfl) (by(try simp only[List.length_reverse,List.length_cons,List.length_nil,List.length_append,List.length_map,List.length_set]);rw[wrap_i64 (by omega) (by omega)]<;>omega) (put_T rfl _) ?_;refine zQ 2 ?_;have bL:decide ((-1:Int)≥0)=false:=by decide
    refine qq<|EvC.cutT 44 (.bool false) [] ?_ (fun ff tmp htmp=>?_)
    ·refine zQ 13 ?_;refine EvO.nil (leafT ?_ ?_)
     ·dsimp only[setW,List.foldl,nth,u2,u1]
      all_goals(first|rfl|simp)
     ·dsimp only[Fr.putO,Fr.put,Fr.clean,Fr.ev,Fr.get,nth,look,u1,u2,v1,v2,v4]
      all_goals(first|rfl|(simp[bL];done)|(simp_all;done)|(simp[bL];omega)|(simp_all;omega))
    dsimp only[setW,List.foldl,nth,u2,u1];dsimp only[Fr.putO,Fr.put,Fr.clean,Fr.ev,Fr.get,nth,look,u1,u2,v1,v2,v4];refine zQ 3 ?_;refine EvO.hloadS (m:=2) hH rfl (ev rfl) (by exact at0) (by dsimp only[List.drop_succ_cons,List.drop_zero,List.take_succ_cons,List.take_zero,ah]<;>rfl) rfl rfl (put_T rfl _) ?_;refine qh (s:=2) (vs:=[_]) hH fun k59 st NM hH=>?_;refine EvO.happend (s:=2) hH rfl (ev rfl) (ev rfl) (by exact at2) (by exact hH.rows (by exact at0)) rfl rfl rfl rfl rfl rfl rfl ⟨(Nat.le_of_ble_eq_true rfl),(Nat.le_of_ble_eq_true rfl)⟩ (fun _=>(put_T rfl _)) (by simp only[List.length_cons,List.length_nil,List.length_map,List.length_reverse]<;>omega) (by exact .inl hF) (fun Mf st hH=>?_);dsimp only[u2,u1,u3,u4,setMany,u5,u6,D.cells,Nat.reduceAdd,ah] at hH;refine zQ 6 ?_;exact⟨mm-1,by omega,⟨i+1,Mf,rfl,(by rw[HM];exact hH.drop 2),by omega⟩⟩
   ·simp only[List.length_cons] at iV;refine zQ 3 ?_;refine qn ?_ (hR:=hH.rows at1);simp only[List.length_map,List.length_cons,List.length_reverse];refine EvO.gR (z:=((t.length:Nat):Int)) rfl (ev rfl) (ev rfl) (by(try simp only[List.length_reverse,List.length_cons,List.length_nil,List.length_append,List.length_map,List.length_set]);rw[wrap_i64 (by omega) (by omega)]<;>omega) (put_T rfl _) ?_;refine zQ 2 ?_;have oa:=wh h t;have ew:=wg h (h.1,max h.2 q.2) t;have Bb:=E0 (l:=all.take i) (fun x hx=>hbd x (List.mem_of_mem_take hx)) h (by rw[FJ];exact List.mem_cons_self ..);have bL:decide (((t.length:Nat):Int)≥0)=true:=by rw[decide_eq_true];omega
    refine qq<|EvC.cutT 44 (.bool (decide (q.1≤h.2+1))) [] ?_ (fun ff tmp htmp=>?_)
    ·refine zQ 7 ?_;refine qi hH at1 (fun Mw Hu=>?_) (hg:=wi bL);refine EvO.da (fo:=1) (m:=0) (o2:=1) (wantD_is rfl rfl rfl bL) (ev rfl) (by assumption) rfl rfl rfl (fun _=>(put_T rfl _)) (fun RG Nu=>?_);refine zQ 1 ?_;refine EvO.addS32 (wantD_is rfl rfl rfl bL) (ev rfl) (ev rfl) (by omega) (by omega) (put_T rfl _) ?_;refine zQ 2 ?_;refine EvO.nil (leafT ?_ ?_)
     ·dsimp only[setW,List.foldl,nth,u2,u1]
      all_goals(first|rfl|simp)
     ·dsimp only[Fr.putO,Fr.put,Fr.clean,Fr.ev,Fr.get,nth,look,u1,u2,v1,v2,v4]
      all_goals(first|rfl|(simp[bL];done)|(simp_all;done)|(simp[bL];omega)|(simp_all;omega))
    dsimp only[setW,List.foldl,nth,u2,u1];dsimp only[Fr.putO,Fr.put,Fr.clean,Fr.ev,Fr.get,nth,look,u1,u2,v1,v2,v4];refine EvC.cond (by assumption) (fun h2=>?_) (fun h2=>?_)<;>try simp only[decide_eq_true_eq,decide_eq_false_iff_not] at h2
    ·refine zQ 5 ?_;refine qi hH at1 fun Mu Hr=>?_;refine EvO.da (fo:=1) (m:=0) (o2:=1) rfl (ev rfl) (by assumption) rfl rfl rfl (fun _=>(put_T rfl _)) (fun LJ Fp=>?_);refine zQ 3 ?_;refine EvO.EV (t1:=0) (t2:=0) rfl (ev rfl) (ev rfl) (put_T rfl _) ?_;refine qi hH at1 fun PT JN=>?_;refine EvO.da (fo:=1) (m:=0) (o2:=1) rfl (ev rfl) (by assumption) rfl rfl rfl (fun _=>(put_T rfl _)) (fun Mt Hq=>?_);refine EvO.eW hH rfl (ev rfl) (ev rfl) (by assumption) rfl rfl (by exact at1) (by assumption) (Nat.le_of_ble_eq_true rfl) (by exact .inl hF) (fun st hH=>?_);dsimp only[u2,u1,u3,u4,setMany,u5,u6,D.cells,Nat.reduceAdd,ah] at hH;refine zQ 5 ?_;exact⟨mm-1,by omega,⟨i+1,z,rfl,(by rw[HM];simp only[cY,if_pos h2];rw[←ew];exact hH.drop 1),by omega⟩⟩
    ·refine zQ 2 ?_;refine EvO.hloadS (m:=2) hH rfl (ev rfl) (by exact at0) (by dsimp only[List.drop_succ_cons,List.drop_zero,List.take_succ_cons,List.take_zero,ah]<;>rfl) rfl rfl (put_T rfl _) ?_;refine qh (s:=2) (vs:=[_]) hH fun k59 st NM hH=>?_;refine EvO.happend (s:=2) hH rfl (ev rfl) (ev rfl) (by exact at2) (by exact hH.rows (by exact at0)) rfl rfl rfl rfl rfl rfl rfl ⟨(Nat.le_of_ble_eq_true rfl),(Nat.le_of_ble_eq_true rfl)⟩ (fun _=>(put_T rfl _)) (by simp only[List.length_cons,List.length_nil,List.length_map,List.length_reverse]<;>omega) (by exact .inl hF) (fun Mf st hH=>?_);dsimp only[u2,u1,u3,u4,setMany,u5,u6,D.cells,Nat.reduceAdd,ah] at hH;refine zQ 6 ?_;exact⟨mm-1,by omega,⟨i+1,Mf,rfl,(by rw[HM];simp only[cY,if_neg h2];rw[List.reverse_cons (a:=q),List.map_append];exact hH.drop 2),by omega⟩⟩
  ·refine zQ 6 ?_;rw[List.take_of_length_le (by omega)] at hH;refine EvC.ret ⟨rx,_,_,rfl,rl hSb hH ((hH.freeze at0 (c8 _) (n:=15) (by decide))),?_⟩;exact⟨all,by rw[fz],hperm,kX⟩
def cq (fr:Go.V.Fr) (k:Nat):Go.V.D:=Go.V.nth .junk fr.loc k
def cM (r:Int):List D:=[.int .i32 r]
def tC (l:List Int):D:=.sl ((l.map cM).map (iR 1))
theorem o7 (l:List Int):∀e∈l.map cM,∀d∈e,bC d=true:=by
 intro e he d hd;obtain⟨x,_,rfl⟩:=List.mem_map.1 he;simp only[cM,List.mem_cons,List.not_mem_nil,or_false] at hd;subst hd;rfl
theorem B6 (l:List Int):∀e∈l.map cM,e.length=1:=by
 intro e he;obtain⟨x,_,rfl⟩:=List.mem_map.1 he;rfl
theorem vm (st:St) (l:List Int):V.Rows st 1 (tC l) (l.map cM):=Rows.pr (B6 l) (o7 l)
theorem vn {l:List Int} {i:Nat} {q:Int} (h:l[i]?=some q):(l.map cM)[i]?=some (cM q):=by rw[List.getElem?_map,h];rfl
def eH (l:List Rg):List Int:=[0,55296,57344,1114112]++l.flatMap gm
theorem DB (x:Rg):(gm x).length≤2:=by
 unfold gm;split<;>split<;>simp
theorem nA (l:List Rg):(l.flatMap gm).length≤2*l.length:=by
 induction l with
 |nil=>simp
 |cons x l ih=>simp only[List.flatMap_cons,List.length_append,List.length_cons];have:=DB x;omega
def fw (m:List Int) (i k:Nat):Prop:=∀a b,a<b→b≤i→b≠k→m.getD a 0≤m.getD b 0
theorem mb (m:List Int) (k:Nat) (v:Int) (hk:k<m.length) (a:Nat):(m.set k v).getD a 0=if a=k then v else m.getD a 0:=by
 simp only[List.getD_eq_getElem?_getD]
 by_cases h:a=k
 ·subst h;rw[List.getElem?_set_self hk,if_pos rfl];rfl
 ·rw[List.getElem?_set_ne (fun e=>h e.symm),if_neg h]
theorem va {m:List Int} {i k:Nat} (hk:k+1≤i) (hi:i<m.length) (h:fw m i (k+1)) (Ki:m.getD k 0>m.getD (k+1) 0):fw ((m.set k (m.getD (k+1) 0)).set (k+1) (m.getD k 0)) i k:=by
 intro a b hab Kw hbk;have hl:(m.set k (m.getD (k+1) 0)).length=m.length:=List.length_set ..;rw[mb _ _ _ (by rw[hl];omega),mb _ _ _ (by omega),mb _ _ _ (by rw[hl];omega),mb _ _ _ (by omega)]
 by_cases h1:b=k+1
 ·rw[if_pos h1,if_neg (by omega)]
  by_cases h2:a=k
  ·rw[if_pos h2];omega
  ·rw[if_neg h2];exact h a k (by omega) (by omega) (by omega)
 ·rw[if_neg h1,if_neg hbk]
  by_cases h2:a=k+1
  ·rw[if_pos h2];exact h k b (by omega) Kw h1
  ·rw[if_neg h2]
   by_cases h3:a=k
   ·rw[if_pos h3];exact h (k+1) b (by omega) Kw h1
   ·rw[if_neg h3];exact h a b hab Kw h1
theorem nN {m:List Int} {i k:Nat} (h:fw m i k) (hx:k=0∨m.getD (k-1) 0≤m.getD k 0) (j:Nat):fw m i j:=by
 intro a b hab Kw _
 by_cases hb:b=k
 ·subst hb;have hx:=hx.resolve_left (by omega)
  by_cases ha:a=b-1
  ·rw[ha];exact hx
  ·exact Int.le_trans (h a (b-1) (by omega) (by omega) (by omega)) hx
 ·exact h a b hab Kw hb
theorem swap_perm {m:List Int} {k:Nat} (hk:k+1<m.length):((m.set k (m.getD (k+1) 0)).set (k+1) (m.getD k 0)).Perm m:=by
 have h0:m=m.take k++(m.getD k 0::m.getD (k+1) 0::m.drop (k+2)):=by
  have e1:m.drop k=m.getD k 0::m.drop (k+1):=by rw[List.drop_eq_getElem_cons (by omega)];simp[List.getD_eq_getElem?_getD,List.getElem?_eq_getElem (show k<m.length by omega)]
  have e2:m.drop (k+1)=m.getD (k+1) 0::m.drop (k+2):=by rw[List.drop_eq_getElem_cons (by omega)];simp[List.getD_eq_getElem?_getD,List.getElem?_eq_getElem hk]
  rw[←e2,←e1,List.take_append_drop]
 have hlen:(m.take k).length=k:=by simp;omega
 generalize m.getD k 0=x at*;generalize m.getD (k+1) 0=y at*;generalize m.take k=l1 at*;generalize m.drop (k+2)=l2 at*;subst h0;rw[List.set_append_right _ _ (by omega),List.set_append_right _ _ (by omega),hlen,Nat.sub_self,Nat.add_sub_cancel_left];exact(List.Perm.swap x y l2).append_left l1
theorem vb {m : List Int} {i : Nat} (h : fw m i (i + 1)) (hi : i + 1 ≥ m.length) : m.Pairwise (· ≤ ·) := by
 rw [List.pairwise_iff_getElem];intro a b ha hb hab;have := h a b hab (by omega) (by omega)
 simpa [List.getD_eq_getElem?_getD, List.getElem?_eq_getElem ha, List.getElem?_eq_getElem hb] using this
theorem CL {s0 : St} {x : D} {l : List Rg} (hx : V.Rows s0 2 x (l.map ah)) (hl : l.length ≤ 268435456) : ∃ d, Ev pv 148 [x] s0 d s0 ∧ ∃ m : List Int, d = tC m ∧ m.Perm (eH l) ∧ m.Pairwise (· ≤ ·) := by
 refine Ev.Bx rfl K7 rfl rfl rfl ?_;refine zE ?_;obtain ⟨hSb, hF, hH⟩ := ri s0;generalize enterSt .ro s0 = S at *;have hx := Arg.of hx hSb;refine zQ 6 ?_;refine qh (s := 1) (vs := [_, _, _, _]) hH fun k7 st IL hH => ?_;refine zQ 7 ?_;have lC := nA l;have h0 : eH (l.take 0) = [0, 55296, 57344, 1114112] := rfl
 have A' : ∀ i, (eH (l.take i)).length ≤ 4 + 2 * l.length := by
  intro i;have := nA (l.take i);simp only [eH, List.length_append, List.length_cons, List.length_nil, List.length_take] at *;omega
 refine zQ 1 ?_;refine EvC.loop (fun mm fr st => ∃ (i : Nat) (y : D), fr.clean = ⟨7, [x, cq fr 1, cq fr 2, y, .int .i64 (i : Nat), cq fr 5, cq fr 6], []⟩ ∧ Has s0.bs.length S st [.lst y 1 ((eH (l.take i)).map cM)] ∧ (i + mm = l.length)) (l.length) ?_ ?_
 ·exact ⟨0, _, rfl, hH, by omega⟩
 rintro mm fr st ⟨i, y, hfr, hH, hi⟩;rw [hfr];clear hfr;generalize cq fr = ee;clear fr;refine zQ 5 ?_;refine qn ?_;simp only [List.length_map];refine zQ 2 ?_;refine zP (fun h1 => ?_) fun h1 => ?_
 ·refine zQ 1 ?_
  obtain ⟨q, hq⟩ : ∃ q, l[i]? = some q := ⟨l[i]'(by omega), List.getElem?_eq_getElem _⟩
  have hr := cW hq;have hm := A' i
  have yl : eH (l.take (i + 1)) = eH (l.take i) ++ gm q := by
   rw [List.take_add_one, hq]; simp [eH]
  refine zQ 4 ?_;refine EvC.cutT 40 (.bool (decide (q.1 ≤ q.2) && decide (q.1 ≥ 0) && decide (q.1 ≤ 1114111))) [] ?_ (fun ff tmp htmp => ?_)
  ·refine zQ 2 ?_;refine qr fun PZ JT => ?_;refine qf (fo := 0) fun My Hw => ?_;refine zQ 3 ?_;refine qr fun Jd C6 => ?_;refine qf (fo := 1) fun Jc C5 => ?_;refine zQ 3 ?_;refine EvO.two 25 rfl (fun bt => ?_) (fun bt => ?_)
   ·refine zQ 2 ?_;refine qr (fun Mx Hv => ?_) (hg := wi bt);refine qf (fo := 0) (fun PX JR => ?_) (hg := wi bt);refine zQ 4 ?_;refine EvO.two 33 rfl (fun pZ => ?_) (fun pZ => ?_)
    ·refine zQ 2 ?_;refine qr (fun LL Fs => ?_) (hg := wi pZ);refine qf (fo := 0) (fun LK Fq => ?_) (hg := wi pZ);refine zQ 3 ?_;refine EvO.nil (leafT ?_ ?_)
     ·dsimp only [setW, List.foldl, nth, u2, u1]
      all_goals (first | rfl | simp)
     ·refine zF ?_
      all_goals (simp [bt, pZ]; done)
    ·refine zQ 7 ?_;refine EvO.nil (leafT ?_ ?_)
     ·dsimp only [setW, List.foldl, nth, u2, u1]
      all_goals (first | rfl | simp)
     ·refine zF ?_
      all_goals (simp [bt, pZ]; done)
   ·refine zQ 15 ?_;refine EvO.nil (leafT ?_ ?_)
    ·dsimp only [setW, List.foldl, nth, u2, u1]
     all_goals (first | rfl | simp)
    ·refine zF ?_
     all_goals (simp [bt]; done)
  refine zG ?_;have lJ : gm q = (if q.1 ≤ q.2 ∧ 0 ≤ q.1 ∧ q.1 ≤ 1114111 then [q.1] else []) ++ (if q.1 ≤ q.2 ∧ 0 ≤ q.2 ∧ q.2 < 1114111 then [q.2 + 1] else []) := rfl;rw [lJ] at yl;generalize jB : (if q.1 ≤ q.2 ∧ 0 ≤ q.1 ∧ q.1 ≤ 1114111 then [q.1] else []) = e1 at yl;generalize uR : (if q.1 ≤ q.2 ∧ 0 ≤ q.2 ∧ q.2 < 1114111 then [q.2 + 1] else []) = e2 at yl;have TH : e1.length ≤ 1 := by rw [← jB]; split <;> simp
  refine EvC.merge (fun fr st => ∃ (y : D) (tmp : List (Nat × D)), fr = ⟨7, [x, cq fr 1, cq fr 2, y, .int .i64 (i : Nat), cq fr 5, cq fr 6], tmp⟩ ∧ Has s0.bs.length S st [.lst y 1 ((eH (l.take i) ++ e1).map cM)]) ?_ ?_
  ·refine qc (fun h2 => ?_) (fun h2 => ?_) <;> try simp only [cs] at h2
   ·simp only [Bool.and_eq_true, decide_eq_true_eq] at h2;rw [if_pos ⟨h2.1.1, h2.1.2, h2.2⟩] at jB;refine zQ 4 ?_;refine qr fun Iz A9 => ?_;refine qf (fo := 0) fun Mv Ht => ?_;refine qR ?_;refine qh (s := 1) (vs := [_]) hH fun k47 st NN hH => ?_;refine EvO.happend (s := 1) hH rfl (ev rfl) (ev rfl) (by exact at1) (by exact hH.rows (by exact at0)) rfl rfl rfl rfl rfl rfl rfl ⟨(Nat.le_of_ble_eq_true rfl), (Nat.le_of_ble_eq_true rfl)⟩ (fun _ => (put_T rfl _)) (by simp only [List.length_cons, List.length_nil, List.length_map] <;> omega) (by exact .inl hF) (fun IX st hH => ?_);dsimp only [u2, u1, u3, u4, setMany, u5, u6, D.cells, Nat.reduceAdd, ah, cM] at hH;refine zQ 2 ?_;exact ⟨IX, _, rfl, (by rw [← jB, List.map_append]; exact hH.drop 1)⟩
   ·rw [if_neg (by rintro ⟨a, b, c⟩; simp [a, b, c] at h2)] at jB;refine zQ 1 ?_;exact ⟨y, _, rfl, (by rw [← jB, List.append_nil]; exact hH)⟩
  ·rintro fr st ⟨y, tmp, hfr, hH⟩;rw [hfr];clear hfr;generalize cq fr = ee;clear fr;refine qq ?_;refine EvC.cutT 75 (.bool (decide (q.1 ≤ q.2) && decide (q.2 ≥ 0) && decide (q.2 < 1114111))) [] ?_ (fun ff tmp htmp => ?_)
   ·refine zQ 2 ?_;refine qr fun PU JO => ?_;refine qf (fo := 0) fun RE Ns => ?_;refine zQ 3 ?_;refine qr fun Mt Hq => ?_;refine qf (fo := 1) fun U9 SK => ?_;refine zQ 3 ?_;refine EvO.two 60 rfl (fun bt => ?_) (fun bt => ?_)
    ·refine zQ 2 ?_;refine qr (fun U3 SD => ?_) (hg := wi bt);refine qf (fo := 1) (fun Ms Hp => ?_) (hg := wi bt);refine zQ 4 ?_;refine EvO.two 68 rfl (fun pZ => ?_) (fun pZ => ?_)
     ·refine zQ 2 ?_;refine qr (fun RC Nq => ?_) (hg := wi pZ);refine qf (fo := 1) (fun RB Np => ?_) (hg := wi pZ);refine zQ 3 ?_;refine EvO.nil (leafT ?_ ?_)
      ·dsimp only [setW, List.foldl, nth, u2, u1]
       all_goals (first | rfl | simp)
      ·refine zF ?_
       all_goals (simp [bt, pZ]; done)
     ·refine zQ 7 ?_;refine EvO.nil (leafT ?_ ?_)
      ·dsimp only [setW, List.foldl, nth, u2, u1]
       all_goals (first | rfl | simp)
      ·refine zF ?_
       all_goals (simp [bt, pZ]; done)
    ·refine zQ 15 ?_;refine EvO.nil (leafT ?_ ?_)
     ·dsimp only [setW, List.foldl, nth, u2, u1]
      all_goals (first | rfl | simp)
     ·refine zF ?_
      all_goals (simp [bt]; done)
   dsimp only [setW, List.foldl, nth, u2, u1];refine EvC.merge (fun fr st => ∃ (y : D) (tmp : List (Nat × D)), fr = ⟨7, [x, cq fr 1, cq fr 2, y, .int .i64 (i : Nat), cq fr 5, cq fr 6], tmp⟩ ∧ Has s0.bs.length S st [.lst y 1 ((eH (l.take (i + 1))).map cM)]) ?_ ?_
   ·refine qc (fun h2 => ?_) (fun h2 => ?_) <;> try simp only [cs] at h2
    ·simp only [Bool.and_eq_true, decide_eq_true_eq] at h2;rw [if_pos ⟨h2.1.1, h2.1.2, h2.2⟩] at uR;refine zQ 4 ?_;refine qr fun LI Fo => ?_;refine qf (fo := 1) fun RA Nn => ?_;refine qR ?_;refine EvO.addS32 rfl (ev rfl) (ev rfl) (by omega) (by omega) (put_T rfl _) ?_;refine qh (s := 1) (vs := [_]) hH fun k83 st S8 hH => ?_;refine EvO.happend (s := 1) hH rfl (ev rfl) (ev rfl) (by exact at1) (by exact hH.rows (by exact at0)) rfl rfl rfl rfl rfl rfl rfl ⟨(Nat.le_of_ble_eq_true rfl), (Nat.le_of_ble_eq_true rfl)⟩ (fun _ => (put_T rfl _)) (by simp only [List.length_append, List.length_cons, List.length_nil, List.length_map] <;> omega) (by exact .inl hF) (fun Q5 st hH => ?_);dsimp only [u2, u1, u3, u4, setMany, u5, u6, D.cells, Nat.reduceAdd, ah, cM] at hH;refine zQ 2 ?_;exact ⟨Q5, _, rfl, (by rw [yl, ← uR, ← List.append_assoc, List.map_append]; exact hH.drop 1)⟩
    ·rw [if_neg (by rintro ⟨a, b, c⟩; simp [a, b, c] at h2)] at uR;refine zQ 1 ?_;exact ⟨y, _, rfl, (by rw [yl, ← uR, List.append_nil]; exact hH)⟩
   ·rintro fr st ⟨y, tmp, hfr, hH⟩;rw [hfr];clear hfr;generalize cq fr = ee;clear fr;refine zQ 5 ?_;exact ⟨mm - 1, by omega, ⟨i + 1, y, rfl, hH, by omega⟩⟩
 ·refine zQ 1 ?_;have hT : l.take i = l := List.take_of_length_le (by omega);rw [hT] at hH;have hm := A' l.length;rw [List.take_length] at hm;generalize oM : eH l = m0 at *;have Nf : 4 ≤ m0.length := by rw [← oM]; simp [eH]
  refine zQ 6 ?_;refine EvC.loop (fun mm fr st => ∃ (i : Nat) (m : List Int), fr.clean = ⟨7, [x, cq fr 1, cq fr 2, y, cq fr 4, .int .i64 (i : Nat), cq fr 6], []⟩ ∧ Has s0.bs.length S st [.lst y 1 (m.map cM)] ∧ (i + mm = m0.length) ∧ (m.Perm m0) ∧ (fw m (i - 1) i) ∧ (1 ≤ i)) (m0.length - 1) ?_ ?_
  ·exact ⟨1, m0, rfl, hH, by omega, .refl _, by intro a b h1 h2 h3; omega, by omega⟩
  rintro mm fr st ⟨i, m, hfr, hH, hi, hp, hs, Nf⟩;rw [hfr];clear hfr;generalize cq fr = ee;clear fr;have NF : m.length = m0.length := hp.length_eq;refine zQ 5 ?_;refine qn ?_ (hR := hH.rows at0);simp only [List.length_map];refine zQ 2 ?_;refine zP (fun h1 => ?_) fun h1 => ?_
  ·refine zQ 9 ?_;refine EvC.loop (fun mm fr st => ∃ (k : Nat) (m : List Int), fr.clean = ⟨7, [x, cq fr 1, cq fr 2, y, cq fr 4, .int .i64 (i : Nat), .int .i64 (k : Nat)], []⟩ ∧ Has s0.bs.length S st [.lst y 1 (m.map cM)] ∧ (k = mm) ∧ (m.Perm m0) ∧ (fw m i k) ∧ (k ≤ i)) (i) ?_ ?_
   ·exact ⟨i, m, rfl, hH, rfl, hp, by intro a b h1 h2 h3; exact hs a b h1 (by omega) (by omega), by omega⟩
   have gH := hi;rintro mm fr st ⟨k, m, hfr, hH, hk, hp, hs, HH⟩;rw [hfr];clear hfr;generalize cq fr = ee;clear fr;have NF : m.length = m0.length := hp.length_eq
   rcases k with _ | k
   ·have bL : decide (((0 : Nat) : Int) > 0) = false := by decide
    refine zQ 2 ?_;refine EvC.cutT 105 (.bool false) [] ?_ (fun ff tmp htmp => ?_)
    ·refine zQ 14 ?_;refine EvO.nil (leafT ?_ ?_)
     ·dsimp only [setW, List.foldl, nth, u2, u1]
      all_goals (first | rfl | simp)
     ·exact zS
      all_goals (first | rfl | (simp [bL]; done) | (simp_all; done) | (simp [bL]; omega) | (simp_all; omega))
    refine zG ?_;refine zQ 7 ?_;exact ⟨m0.length - (i + 1), by omega, ⟨i + 1, m, rfl, hH, by omega, hp, nN hs (.inl rfl) _, by omega⟩⟩
   ·have bL : decide (((k + 1 : Nat) : Int) > 0) = true := by rw [decide_eq_true]; omega
    have hr1 : (m.map cM)[k]? = some (cM (m.getD k 0)) := by
     rw [List.getElem?_map, List.getElem?_eq_getElem (by omega)]; simp [List.getD_eq_getElem?_getD, List.getElem?_eq_getElem (show k < m.length by omega)]
    have kW : (m.map cM)[k + 1]? = some (cM (m.getD (k + 1) 0)) := by
     rw [List.getElem?_map, List.getElem?_eq_getElem (by omega)]; simp [List.getD_eq_getElem?_getD, List.getElem?_eq_getElem (show k + 1 < m.length by omega)]
    refine zQ 2 ?_;refine EvC.cutT 105 (.bool (decide (m.getD k 0 > m.getD (k + 1) 0))) [] ?_ (fun ff tmp htmp => ?_)
    ·refine zQ 5 ?_;refine EvO.gR (z := ((k : Nat) : Int)) (wantD_is rfl rfl rfl bL) (ev rfl) (ev rfl) (by (try simp only [List.length_reverse, List.length_cons, List.length_nil, List.length_append, List.length_map, List.length_set]); rw [wrap_i64 (by omega) (by omega)] <;> omega) (put_T rfl _) ?_;refine qi hH at0 (fun UR Sr => ?_) (hg := wi bL);refine zQ 3 ?_;refine qi hH at0 (fun RQ Qn => ?_) (hg := wi bL);refine zQ 3 ?_;refine EvO.nil (leafT ?_ ?_)
     ·dsimp only [setW, List.foldl, nth, u2, u1]
      all_goals (first | rfl | simp)
     ·exact zS
      all_goals (first | rfl | (simp [bL]; done) | (simp_all; done) | (simp [bL]; omega) | (simp_all; omega))
    refine zG ?_;have Hc := swap_perm (m := m) (k := k) (by omega);have zH := fun h => va (m := m) (i := i) (k := k) (by omega) (by omega) hs h;have hsd := fun (h : m.getD k 0 ≤ m.getD (k + 1) 0) => nN (j := i + 1) hs (.inr (by rw [Nat.add_sub_cancel]; exact h));have HC : ((m.set k (m.getD (k + 1) 0)).set (k + 1) (m.getD k 0)).map cM = ((m.map cM).set k (cM (m.getD (k + 1) 0))).set (k + 1) (cM (m.getD k 0)) := by rw [List.map_set, List.map_set]
    have LX : ((m.map cM).set k (cM (m.getD (k + 1) 0)))[k + 1]? = some (cM (m.getD (k + 1) 0)) := by rw [List.getElem?_set_ne (by omega)]; exact kW
    generalize m.getD k 0 = a at *;generalize m.getD (k + 1) 0 = b at *;refine EvC.cond (by assumption) (fun h2 => ?_) (fun h2 => ?_) <;> try simp only [decide_eq_true_eq, decide_eq_false_iff_not] at h2
    ·refine zQ 6 ?_;refine EvO.gR (z := ((k : Nat) : Int)) rfl (ev rfl) (ev rfl) (by (try simp only [List.length_reverse, List.length_cons, List.length_nil, List.length_append, List.length_map, List.length_set]); rw [wrap_i64 (by omega) (by omega)] <;> omega) (put_T rfl _) ?_;refine zQ 4 ?_;refine qi hH at0 fun RP Qm => ?_;refine zQ 3 ?_;refine EvO.gR (z := ((k : Nat) : Int)) rfl (ev rfl) (ev rfl) (by (try simp only [List.length_reverse, List.length_cons, List.length_nil, List.length_append, List.length_map, List.length_set]); rw [wrap_i64 (by omega) (by omega)] <;> omega) (put_T rfl _) ?_;refine qi hH at0 fun RO Ql => ?_;refine zQ 1 ?_;refine qi hH at0 fun Jf Gk => ?_;refine EvO.eW hH rfl (ev rfl) (ev rfl) (by assumption) rfl rfl (by exact at0) (by assumption) (Nat.le_of_ble_eq_true rfl) (by exact .inl hF) (fun st hH => ?_);dsimp only [u2, u1, u3, u4, setMany, u5, u6, D.cells, Nat.reduceAdd, ah, cM] at hH;refine qi hH at0 fun Je Gj => ?_;refine EvO.eW hH rfl (ev rfl) (ev rfl) (by assumption) rfl rfl (by exact at0) (by assumption) (Nat.le_of_ble_eq_true rfl) (by exact .inl hF) (fun st hH => ?_);dsimp only [u2, u1, u3, u4, setMany, u5, u6, D.cells, Nat.reduceAdd, ah, cM] at hH;refine zQ 3 ?_;refine EvO.gR (z := ((k : Nat) : Int)) rfl (ev rfl) (ev rfl) (by (try simp only [List.length_reverse, List.length_cons, List.length_nil, List.length_append, List.length_map, List.length_set]); rw [wrap_i64 (by omega) (by omega)] <;> omega) (put_T rfl _) ?_;refine zQ 2 ?_;exact ⟨k, by omega, ⟨k, (m.set k b).set (k + 1) a, rfl, (by rw [HC]; exact hH), rfl, Hc.trans hp, zH h2, by omega⟩⟩
    ·refine zQ 6 ?_;exact ⟨m0.length - (i + 1), by omega, ⟨i + 1, m, rfl, hH, by omega, hp, hsd (by omega), by omega⟩⟩
  ·refine zQ 6 ?_;refine EvC.ret ⟨rx, _, _, rfl, rl hSb hH ((hH.freeze at0 (o7 _) (n := 15) (by decide))), ?_⟩;exact ⟨m, rfl, oM ▸ hp, vb (i := i - 1) (by intro a b h1 h2 h3; exact hs a b h1 h2 (by omega)) (by omega)⟩
def eK (fr:Go.V.Fr) (k:Nat):Go.V.D:=Go.V.nth .junk fr.loc k
def eP (l a:List Rg):Prop:=canon a∧∀r,cP a r↔f' r∧cP l r
theorem eP.unique {l a b:List Rg} (h:eP l a) (g:eP l b):a=b:=ml h.1 g.1 fun r=>(h.2 r).trans (g.2 r).symm
noncomputable def dt (l:List Rg):Bool:=@decide (eP l l) (Classical.propDecidable _)
theorem sc {l a:List Rg} (h:eP l a):dt l=decide (l=a):=by
 unfold dt
 by_cases hl:l=a
 ·rw[decide_eq_true hl];exact@decide_eq_true _ (Classical.propDecidable _) (by rw[hl] at h⊢;exact h)
 ·rw[decide_eq_false hl];exact@decide_eq_false _ (Classical.propDecidable _) (fun g=>hl (g.unique h))
theorem sC (p q:Rg):iT pv .neq 116 (.agg (ah p)) (.agg (ah q))=some (.bool (!decide (p=q))):=by
 have h:∀a b a' b':Int,iT pv .neq 116 (.agg [.int .i32 a,.int .i32 b]) (.agg [.int .i32 a',.int .i32 b'])=Option.map (fun b=>D.bool !b) (match some (a==a') with|some true=>(match some (b==b') with|some true=>some true|some false=>some false|none=>none)|some false=>some false|none=>none):=fun _ _ _ _=>rfl;obtain⟨a,b⟩:=p;obtain⟨a',b'⟩:=q;simp only[ah,h]
 by_cases h1:a=a'
 ·subst h1
  by_cases h2:b=b'
  ·subst h2;simp
  ·have:(b==b')=false:=by simpa using h2
   simp[this,h2]
 ·have:(a==a')=false:=by simpa using h1
  simp[this,h1]
theorem lQ {α:Type} {a b:List α} {i:Nat} {x y:α} (ha:a[i]?=some x) (hb:b[i]?=some y) (h:a.take i=b.take i) (Jz:x=y):a.take (i+1)=b.take (i+1):=by
 rw[List.take_add_one,List.take_add_one,h,ha,hb,Jz]
theorem sD {α:Type} {a b:List α} {i:Nat} {x y:α} (ha:a[i]?=some x) (hb:b[i]?=some y) (Jz:¬x=y):¬a=b:=by
 intro h;subst h;rw[ha] at hb;exact Jz (Option.some.inj hb)
theorem Dx {s0:St} {x y:D} {l m:List Rg} (hx:V.Rows s0 2 x (l.map ah)) (hy:V.Rows s0 2 y (m.map ah)) (hl:l.length≤1073741824) (hm:m.length≤1073741824):Ev pv 132 [x,y] s0 (.bool (decide (l=m))) s0:=by
 refine Ev.mk1 rfl Lb rfl rfl rfl ?_;refine zE ?_;obtain⟨hSb,hF,hH⟩:=ri s0;generalize enterSt .ro s0=S at*;have hx:=Arg.of hx hSb;have hy:=Arg.of hy hSb;refine zQ 8 ?_;refine qn ?_;simp only[List.length_map];refine qm ?_;refine qn ?_;simp only[List.length_map];refine zQ 2 ?_
 by_cases hlen:l.length=m.length
 ·refine EvC.cond (v:=false) ?_ (fun h=>by cases h) (fun _=>?_)
  ·dsimp only[Fr.ev,Fr.get,nth,V.look];rw[hlen];simp
  refine zQ 5 ?_;refine qn ?_;simp only[List.length_map];refine zQ 3 ?_;refine EvC.loop (fun mm fr st=>∃(i:Nat),fr.clean=⟨14,[x,y,eK fr 2,eK fr 3,.bool false,eK fr 5,eK fr 6,eK fr 7,eK fr 8,eK fr 9,eK fr 10,eK fr 11,.int .i64 (l.length:Nat),.int .i64 (i:Nat)],[]⟩∧Has s0.bs.length S st []∧(i+mm=l.length)∧(l.take i=m.take i)) (l.length) ?_ ?_
  ·exact⟨0,rfl,hH,by omega,rfl⟩
  rintro mm fr st ⟨i,hfr,hH,hi,ht⟩;rw[hfr];clear hfr;generalize eK fr=ee;clear fr;refine zQ 5 ?_;refine zP (fun h1=>?_) fun h1=>?_
  ·refine zQ 1 ?_
   obtain⟨p,hp⟩:∃p,l[i]?=some p:=⟨l[i]'(by omega),List.getElem?_eq_getElem _⟩
   obtain⟨q,hq⟩:∃q,m[i]?=some q:=⟨m[i]'(by omega),List.getElem?_eq_getElem _⟩
   have hr1:=cW hp;have kW:=cW hq;refine zQ 11 ?_;refine qr fun PY JS=>?_;refine EvO.bF rfl (ev rfl) (by assumption) rfl (put_T rfl _) ?_;refine zQ 2 ?_;refine qr fun Jc C5=>?_;refine EvO.bF rfl (ev rfl) (by assumption) rfl (put_T rfl _) ?_;refine EvO.Ga rfl (ev rfl) (ev rfl) (sC p q) (put_T rfl _) ?_;refine zQ 1 ?_;refine EvC.cond (by rfl) (fun h2=>?_) (fun h2=>?_)<;>try simp only[decide_eq_true_eq,decide_eq_false_iff_not,Bool.not_eq_true',Bool.not_eq_false'] at h2
   ·refine zQ 4 ?_;rw[decide_eq_false (sD hp hq (by simpa using h2))];refine EvC.ret ⟨rx,_,rfl,rl hSb hH (rfl)⟩
   ·refine zQ 5 ?_;exact⟨mm-1,by omega,⟨i+1,rfl,hH,by omega,lQ hp hq ht (by simpa using h2)⟩⟩
  ·refine zQ 5 ?_;rw[decide_eq_true (by rw[List.take_of_length_le (by omega),List.take_of_length_le (by omega)] at ht;exact ht)];refine EvC.ret ⟨rx,_,rfl,rl hSb hH (rfl)⟩
 ·refine EvC.cond (v:=true) ?_ (fun _=>?_) (fun h=>by cases h)
  ·dsimp only[Fr.ev,Fr.get,nth,V.look];simp;omega
  refine zQ 4 ?_;rw[decide_eq_false (fun h=>hlen (by rw[h]))];refine EvC.ret ⟨rx,_,rfl,rl hSb hH (rfl)⟩
theorem vt {s0:St} {x:D} {l:List Rg} (hx:V.Rows s0 2 x (l.map ah)) (hl:l.length≤1048576):Ev pv 121 [x] s0 (.bool (dt l)) s0:=by
 refine Ev.mk1 rfl Lh rfl rfl rfl ?_;refine zE ?_;obtain⟨hSb,hF,hH⟩:=ri s0;generalize enterSt .ro s0=S at*;have hx:=Arg.of hx hSb;refine zQ 4 ?_;obtain⟨_,hev,all,rfl,hperm,kX⟩:=zr (hx.rows hH) (by omega);have hM:eP l (all.foldl cY []).reverse:=pE (fun x=>hperm.mem_iff) kX;have hlen:=hperm.length_eq;have lC:=h_ l;have iV:=pK all;rw[sc hM];refine zQ 4 ?_;refine qv (hev) ?_;refine qv (Dx (hx.rows hH) (dN _ _) (by omega) (by rw[List.length_reverse];omega)) ?_;refine zQ 2 ?_;refine EvC.ret ⟨rx,_,rfl,rl hSb hH (rfl)⟩
theorem Cn {N:Nat} {S st:St} {H:List aP} {x:D} {acc:List Rg} {lo hi:Int} (hF:S.flr≤N) (hH:Has N S st (.lst x 2 (acc.reverse.map ah)::H)) (hl:acc.length≤536870912) (hb:∀k∈acc,0≤k.2+1∧k.2+1≤2147483647):
  ∃x' ab,Ev pv 149 [x,.int .i32 lo,.int .i32 hi] st x' ab∧Has N S ab (.lst x' 2 ((dH acc lo hi).reverse.map ah)::H):=by
 refine Ev.iI rfl K6 rfl rfl rfl ?_;refine zE ?_;change EvC _ _ _ _ st _;refine zQ 4 ?_
 rcases acc with _|⟨h,t⟩
 ·have hg3:decide (((([]:List Rg).reverse.map ah).length:Int)>0)=false:=by decide
  refine zQ 2 ?_;refine EvC.cutT 21 (.bool false) [] ?_ (fun ff tmp htmp=>?_)
  ·refine qm ?_;refine qn ?_ (hR:=hH.rows at0);simp only[List.length_map,List.length_nil,List.length_reverse];refine zQ 13 ?_;refine EvO.nil (leafT ?_ ?_)
   ·dsimp only[setW,List.foldl,nth,u2,u1]
    all_goals(first|rfl|simp)
   ·dsimp only[Fr.putO,Fr.put,Fr.clean,Fr.ev,Fr.get,nth,look,u1,u2,v1,v2,v4]
    all_goals(first|rfl|(simp[hg3];done)|(simp_all;done)|(simp[hg3];omega)|(simp_all;omega))
  dsimp only[setW,List.foldl,nth,u2,u1];refine zQ 8 ?_;refine qh (s:=2) (vs:=[_]) hH fun k34 st NO hH=>?_;dsimp only[u2,u1,u3,u4,setMany,u5,u6,D.cells,Nat.reduceAdd,ah] at hH;refine EvO.happend (s:=2) hH rfl (ev rfl) (ev rfl) (by exact at1) (by exact hH.rows (by exact at0)) rfl rfl rfl rfl rfl rfl rfl ⟨(Nat.le_of_ble_eq_true rfl),(Nat.le_of_ble_eq_true rfl)⟩ (fun _=>(put_T rfl _)) (by simp only[List.length_cons,List.length_nil,List.length_map,List.length_reverse]<;>omega) (by exact .inl hF) (fun Rc st hH=>?_);dsimp only[u2,u1,u3,u4,setMany,u5,u6,D.cells,Nat.reduceAdd,ah] at hH;refine zQ 2 ?_;refine EvC.ret ⟨rx,_,_,_,rfl,rfl,?_⟩;exact hH.drop 1
 ·have oa:=wh h t;have ew:=wg h (h.1,hi) t;have Vz:=hb h (List.mem_cons_self ..);simp only[List.length_cons] at hl;have hg3:decide (((t.length+1:Nat):Int)>0)=true:=by rw[decide_eq_true];omega
  refine zQ 2 ?_;refine EvC.cutT 21 (.bool (decide (h.2+1=lo))) [] ?_ (fun ff tmp htmp=>?_)
  ·refine qm ?_;refine qn ?_ (hR:=hH.rows at0);simp only[List.length_map,List.length_cons,List.length_reverse];refine zQ 4 ?_;refine qn ?_ (hR:=hH.rows at0) (hg:=wi hg3);simp only[List.length_map,List.length_cons,List.length_reverse];refine EvO.gR (z:=((t.length:Nat):Int)) (wantD_is rfl rfl rfl hg3) (ev rfl) (ev rfl) (by(try simp only[List.length_reverse,List.length_cons,List.length_nil,List.length_append,List.length_map,List.length_set]);rw[wrap_i64 (by omega) (by omega)]<;>omega) (put_T rfl _) ?_;refine qi hH at0 (fun LP Fv=>?_) (hg:=wi hg3);refine EvO.da (fo:=1) (m:=0) (o2:=1) (wantD_is rfl rfl rfl hg3) (ev rfl) (by assumption) rfl rfl rfl (fun _=>(put_T rfl _)) (fun PZ JT=>?_);refine zQ 1 ?_;refine EvO.addS32 (wantD_is rfl rfl rfl hg3) (ev rfl) (ev rfl) (by omega) (by omega) (put_T rfl _) ?_;refine zQ 3 ?_;refine EvO.nil (leafT ?_ ?_)
   ·dsimp only[setW,List.foldl,nth,u2,u1]
    all_goals(first|rfl|simp)
   ·dsimp only[Fr.putO,Fr.put,Fr.clean,Fr.ev,Fr.get,nth,look,u1,u2,v1,v2,v4]
    all_goals(rfl)
  dsimp only[setW,List.foldl,nth,u2,u1];refine EvC.cond (by assumption) (fun h2=>?_) (fun h2=>?_)<;>try simp only[decide_eq_true_eq,decide_eq_false_iff_not] at h2
  ·refine zQ 4 ?_;refine qn ?_ (hR:=hH.rows at0);simp only[List.length_map,List.length_cons,List.length_reverse];refine EvO.gR (z:=((t.length:Nat):Int)) rfl (ev rfl) (ev rfl) (by(try simp only[List.length_reverse,List.length_cons,List.length_nil,List.length_append,List.length_map,List.length_set]);rw[wrap_i64 (by omega) (by omega)]<;>omega) (put_T rfl _) ?_;refine qm ?_;refine qi hH at0 fun p27 hp27=>?_;refine EvO.da (fo:=1) (m:=0) (o2:=1) rfl (ev rfl) (by assumption) rfl rfl rfl (fun _=>(put_T rfl _)) (fun Mx Hv=>?_);refine EvO.eW hH rfl (ev rfl) (ev rfl) (by assumption) rfl rfl (by exact at0) (by assumption) (Nat.le_of_ble_eq_true rfl) (by exact .inl hF) (fun st hH=>?_);dsimp only[u2,u1,u3,u4,setMany,u5,u6,D.cells,Nat.reduceAdd,ah] at hH;refine zQ 6 ?_;refine EvC.ret ⟨rx,_,_,_,rfl,rfl,?_⟩;simp only[dH,if_pos h2];rw[←ew];exact hH
  ·refine zQ 7 ?_;refine qh (s:=2) (vs:=[_]) hH fun k34 st NO hH=>?_;dsimp only[u2,u1,u3,u4,setMany,u5,u6,D.cells,Nat.reduceAdd,ah] at hH;refine EvO.happend (s:=2) hH rfl (ev rfl) (ev rfl) (by exact at1) (by exact hH.rows (by exact at0)) rfl rfl rfl rfl rfl rfl rfl ⟨(Nat.le_of_ble_eq_true rfl),(Nat.le_of_ble_eq_true rfl)⟩ (fun _=>(put_T rfl _)) (by simp only[List.length_cons,List.length_nil,List.length_map,List.length_reverse]<;>omega) (by exact .inl hF) (fun Rc st hH=>?_);dsimp only[u2,u1,u3,u4,setMany,u5,u6,D.cells,Nat.reduceAdd,ah] at hH;refine zQ 2 ?_;refine EvC.ret ⟨rx,_,_,_,rfl,rfl,?_⟩;simp only[dH,if_neg h2];rw[List.reverse_cons (a:=(lo,hi)),List.map_append];exact hH.drop 1
theorem AL (acc:List Rg) (lo hi:Int):(dH acc lo hi).length≤acc.length+1:=by
 unfold dH;split
 ·simp
 ·split<;>simp
theorem GS (l:List Rg) (a b:Int):IB l true a b=((decide (a<b) &&(decide (a<55296)||decide (a>57343))) &&gd l a):=by
 unfold IB;cases gd l a<;>simp
theorem xH {s0:St} {x:D} {l:List Rg} (hx:V.Rows s0 2 x (l.map ah)) (hl:l.length≤134217728):∃d,Ev pv 134 [x] s0 d s0∧∃a:List Rg,d=aY a∧eP l a:=by
 refine Ev.Bx rfl K' rfl rfl rfl ?_;refine zE ?_;obtain⟨hSb,hF,hH⟩:=ri s0;generalize enterSt .ro s0=S at*;have hx:=Arg.of hx hSb;refine zQ 4 ?_;obtain⟨_,hev,m,rfl,hperm,kX⟩:=CL (hx.rows hH) (by omega);have hlen:=hperm.length_eq;have lC:=nA l;have A':m.length=4+(l.flatMap gm).length:=by rw[hlen];simp[eH];omega
 have Qp:∀q∈m,0≤q∧q≤1114112:=by
  intro q hq;have:=hperm.mem_iff.1 hq;simp only[eH,List.mem_append,List.mem_cons,List.not_mem_nil,or_false,List.mem_flatMap] at this
  rcases this with(h|h|h|h)|⟨y,_,hy⟩
  ·omega
  ·omega
  ·omega
  ·omega
  ·unfold gm at hy
   split at hy<;>split at hy<;>simp at hy<;>omega
 have hM:=rK (l:=l) (m:=m) true (fun q=>by
  rw[hperm.mem_iff]
  simp only[eH,List.mem_append,List.mem_cons,List.not_mem_nil,or_false,List.mem_flatMap,or_assoc]) kX
 have T8:eP l (eB l true m []).reverse:=⟨hM.1,fun r=>by rw[hM.2 r];simp⟩
 refine zQ 3 ?_;refine qv (hev) ?_;refine zQ 2 ?_;have oM:=Arg.pure (N:=s0.bs.length) (S:=S) (s:=1) (es:=(m.map cM).map (iR 1)) (fun st=>vm st m);change Arg s0.bs.length S 1 (tC m) _ at oM;refine zQ 9 ?_;have hH:=hH.nulE 2;refine zQ 1 ?_;refine EvC.loop (fun mm fr st=>∃(i:Nat) (y:D) (acc:List Rg),fr.clean=⟨6,[x,eK fr 1,eK fr 2,tC m,y,.int .i64 (i:Nat)],[]⟩∧Has s0.bs.length S st [.lst y 2 (acc.reverse.map ah)]∧(i+mm=m.length)∧(eB l true (m.drop i) acc=eB l true m [])∧(acc.length≤i)∧(∀k∈acc,0≤k.2+1∧k.2+1≤1114112)) (m.length) ?_ ?_
 ·exact⟨0,.nul,[],rfl,hH,by omega,rfl,by simp,by simp⟩
 rintro mm fr st ⟨i,y,acc,hfr,hH,hi,hp,hal,hab⟩;rw[hfr];clear hfr;generalize eK fr=ee;clear fr;refine zQ 6 ?_;refine qn ?_;simp only[List.length_map];refine zQ 2 ?_;refine zP (fun h1=>?_) fun h1=>?_
 ·refine zQ 1 ?_
  obtain⟨a,ha⟩:∃a,m[i]?=some a:=⟨m[i]'(by omega),List.getElem?_eq_getElem _⟩
  obtain⟨b,hb⟩:∃b,m[i+1]?=some b:=⟨m[i+1]'(by omega),List.getElem?_eq_getElem _⟩
  have hr1:=vn ha;have kW:=vn hb;have QJ:=Qp b (List.mem_of_getElem? hb);have VB:=Qp a (List.mem_of_getElem? ha)
  have wG:m.drop i=a::b::m.drop (i+2):=by
   rw[List.drop_eq_getElem_cons (by omega),List.drop_eq_getElem_cons (by omega)];rw[List.getElem?_eq_getElem (by omega)] at ha hb;rw[Option.some.inj ha,Option.some.inj hb]
  have Ob:m.drop (i+1)=b::m.drop (i+2):=by
   rw[List.drop_eq_getElem_cons (by omega)];rw[List.getElem?_eq_getElem (by omega)] at hb;rw[Option.some.inj hb]
  rw[wG,eB,←Ob,GS] at hp;refine zQ 3 ?_;refine EvC.cutT 46 (.bool ((decide (a<b) &&(decide (a<55296)||decide (a>57343))) &&gd l a)) [] ?_ (fun ff tmp htmp=>?_)
  ·refine zQ 2 ?_;refine qr fun My Hw=>?_;refine zQ 4 ?_;refine qr fun Jc C5=>?_;refine zQ 3 ?_;refine EvO.two 25 rfl (fun cv=>?_) (fun cv=>?_)
   ·refine zQ 2 ?_;refine qr (fun Mx Hv=>?_) (hg:=wi cv);refine zQ 3 ?_;refine EvO.two 31 rfl (fun yq=>?_) (fun yq=>?_)
    ·refine zQ 5 ?_;refine EvO.pickT (wantD_is rfl rfl rfl cv) rfl yq (put_T rfl _) ?_;refine zQ 5 ?_;refine qr fun Jb C4=>?_;refine qR ?_;refine qv (mS (hx.rows hH) (by omega)) ?_;refine qg ?_;refine EvO.nil (leafT ?_ ?_)
     ·dsimp only[setW,List.foldl,nth,u2,u1]
      all_goals(first|rfl|simp)
     ·refine zF ?_
      all_goals(simp[cv,yq];done)
    ·refine zQ 2 ?_;refine qr (fun RH Nv=>?_) (hg:=wi yq);refine zQ 2 ?_;refine EvO.pickF (wantD_is rfl rfl rfl cv) rfl yq (put_T rfl _) ?_;refine zQ 2 ?_;refine EvO.two 39 rfl (fun eL=>?_) (fun eL=>?_)
     ·refine zQ 3 ?_;refine qr (fun Jb C4=>?_) (hg:=wi eL);refine zQ 1 ?_;refine qv (mS (hx.rows hH) (by omega)) ?_ (hg:=wi eL);refine zQ 1 ?_;refine EvO.nil (leafT ?_ ?_)
      ·dsimp only[setW,List.foldl,nth,u2,u1]
       all_goals(first|rfl|simp)
      ·refine zF ?_
       all_goals(simp[cv,yq,eL];done)
     ·refine zQ 7 ?_;refine EvO.nil (leafT ?_ ?_)
      ·dsimp only[setW,List.foldl,nth,u2,u1]
       all_goals(first|rfl|simp)
      ·refine zF ?_
       all_goals(simp[cv,yq,eL];done)
   ·refine zQ 21 ?_;refine EvO.nil (leafT ?_ ?_)
    ·dsimp only[setW,List.foldl,nth,u2,u1]
     all_goals(first|rfl|simp)
    ·refine zF ?_
     all_goals(simp[cv];done)
  refine zG ?_;refine qc (fun h2=>?_) (fun h2=>?_)<;>try simp only[cs] at h2
  ·rw[h2,if_pos rfl] at hp;have hpl:=AL acc a (b-1);obtain⟨x',ab,hev2,yx⟩:=Cn (acc:=acc) (lo:=a) (hi:=b-1) hF hH (by omega) (fun k hk=>by have:=hab k hk;omega);refine zQ 4 ?_;refine qr fun LJ Fp=>?_;refine zQ 4 ?_;refine qr fun PT JN=>?_;refine qR ?_;refine EvO.GG rfl (ev rfl) (ev rfl) (by omega) (by omega) (put_T rfl _) ?_;refine qv (hev2) ?_;refine zQ 2 ?_;have hH:=yx;refine zQ 5 ?_;refine⟨mm-1,by omega,⟨i+1,x',dH acc a (b-1),rfl,hH,by omega,hp,by omega,?_⟩⟩;intro k hk;unfold dH at hk
   split at hk
   ·simp only[List.mem_cons,List.not_mem_nil,or_false] at hk;subst hk;simp only;omega
   ·rename_i h t
    split at hk
    ·rcases List.mem_cons.1 hk with rfl|hk
     ·simp only;omega
     ·exact hab k (List.mem_cons_of_mem _ hk)
    ·rcases List.mem_cons.1 hk with rfl|hk
     ·simp only;omega
     ·exact hab k hk
  ·rw[h2] at hp;refine zQ 6 ?_;exact⟨mm-1,by omega,⟨i+1,y,acc,rfl,hH,by omega,hp,by omega,hab⟩⟩
 ·refine zQ 6 ?_
  have eM:acc=eB l true m []:=by
   rw[←hp];have L6:(m.drop i).length≤1:=by rw[List.length_drop];omega
   match hd:m.drop i,L6 with
   |[],_=>rfl
   |[_],_=>rfl
  refine EvC.ret ⟨rx,_,_,rfl,rl hSb hH ((hH.freeze at0 (c8 _) (n:=15) (by decide))),?_⟩;exact⟨acc.reverse,by rw[fz],by rw[eM];exact T8⟩
theorem vz {s0:St} {x:D} {l:List Rg} (hx:V.Rows s0 2 x (l.map ah)) (hl:l.length≤1048576):Ev pv 123 [x] s0 (.bool (dt l)) s0:=by
 refine Ev.mk1 rfl Lf rfl rfl rfl ?_;refine zE ?_;obtain⟨hSb,hF,hH⟩:=ri s0;generalize enterSt .ro s0=S at*;have hx:=Arg.of hx hSb;refine zQ 4 ?_;obtain⟨_,hev,m,rfl,hM⟩:=xH (hx.rows hH) (by omega);rw[sc hM];refine zQ 3 ?_;refine qv (hev) ?_;refine zQ 2 ?_;have oM:Arg s0.bs.length S 2 (aY m) (m.map ah):=Arg.pure (fun st=>dN st m);refine zQ 4 ?_;refine qn ?_;simp only[List.length_map];refine qm ?_;refine qn ?_;simp only[List.length_map];refine zQ 2 ?_
 by_cases hlen:m.length=l.length
 ·refine EvC.cond (v:=false) ?_ (fun h=>by cases h) (fun _=>?_)
  ·dsimp only[Fr.ev,Fr.get,nth,V.look];rw[hlen];simp
  refine zQ 7 ?_;refine EvC.loop (fun mm fr st=>∃(i:Nat),fr.clean=⟨5,[x,eK fr 1,.bool false,aY m,.int .i64 (i:Nat)],[]⟩∧Has s0.bs.length S st []∧(i+mm=l.length)∧(l.take i=m.take i)) (l.length) ?_ ?_
  ·exact⟨0,rfl,hH,by omega,rfl⟩
  rintro mm fr st ⟨i,hfr,hH,hi,ht⟩;rw[hfr];clear hfr;generalize eK fr=ee;clear fr;refine zQ 5 ?_;refine qn ?_;simp only[List.length_map];refine zQ 2 ?_;refine zP (fun h1=>?_) fun h1=>?_
  ·refine zQ 1 ?_
   obtain⟨p,hp⟩:∃p,l[i]?=some p:=⟨l[i]'(by omega),List.getElem?_eq_getElem _⟩
   obtain⟨q,hq⟩:∃q,m[i]?=some q:=⟨m[i]'(by omega),List.getElem?_eq_getElem _⟩
   have hr1:=cW hp;have kW:=cW hq;refine zQ 6 ?_;refine qr fun F_ wy=>?_;refine EvO.bF rfl (ev rfl) (by assumption) rfl (put_T rfl _) ?_;refine zQ 2 ?_;refine qr fun F9 wx=>?_;refine EvO.bF rfl (ev rfl) (by assumption) rfl (put_T rfl _) ?_;refine EvO.Ga rfl (ev rfl) (ev rfl) (sC q p) (put_T rfl _) ?_;refine zQ 1 ?_;refine EvC.cond (by rfl) (fun h2=>?_) (fun h2=>?_)<;>try simp only[decide_eq_true_eq,decide_eq_false_iff_not,Bool.not_eq_true',Bool.not_eq_false'] at h2
   ·refine zQ 4 ?_;rw[decide_eq_false (sD hp hq (by simpa[eq_comm] using h2))];refine EvC.ret ⟨rx,_,rfl,rl hSb hH (rfl)⟩
   ·refine zQ 6 ?_;exact⟨mm-1,by omega,⟨i+1,rfl,hH,by omega,lQ hp hq ht (by simpa[eq_comm] using h2)⟩⟩
  ·refine zQ 5 ?_;rw[decide_eq_true (by rw[List.take_of_length_le (by omega),List.take_of_length_le (by omega)] at ht;exact ht)];refine EvC.ret ⟨rx,_,rfl,rl hSb hH (rfl)⟩
 ·refine EvC.cond (v:=true) ?_ (fun _=>?_) (fun h=>by cases h)
  ·dsimp only[Fr.ev,Fr.get,nth,V.look];simp;omega
  refine zQ 4 ?_;rw[decide_eq_false (fun h=>hlen (by rw[h]))];refine EvC.ret ⟨rx,_,rfl,rl hSb hH (rfl)⟩
structure aC where
 op:Int
 x:Int
 y:Int
 rd:D
 rs:List Rg
def aq (i:aC):List D:=[.int .i64 i.op,.int .i64 i.x,.int .i64 i.y,i.rd]
def aC.ok (i:aC):Prop:=SlD i.rd 2 (i.rs.map ah)∧i.rs.length≤1048576
def ae (n:Int):List D:=[.int .i64 n]
structure Pg where
 cd:D
 code:List aC
 sd:D
 af:List Int
structure Pg.ok (p:Pg):Prop where
 c:SlD p.cd 4 (p.code.map aq)
 s:SlD p.sd 1 (p.af.map ae)
 i:∀x∈p.code,x.ok
 cl:p.code.length≤1048576
 sl:p.af.length≤1048576
def Pg.cs (p:Pg):List D:=[p.cd,p.sd]
def Pg.d (p:Pg):D:=.agg p.cs
theorem de {l:List aC} {i:Nat} {q:aC} (h:l[i]?=some q):(l.map aq)[i]?=some (aq q):=by rw[List.getElem?_map,h];rfl
theorem dc {l:List Int} {i:Nat} {q:Int} (h:l[i]?=some q):(l.map ae)[i]?=some (ae q):=by rw[List.getElem?_map,h];rfl
def iw (v n:Int):Bool:=decide (v≥0) &&decide (v<n)
noncomputable def bI (n ns pc:Nat) (i:aC):Bool:=
 if i.op=1 then i.y==0 &&(decide (((pc+1:Nat):Int)<n) &&i.x==0 &&dt i.rs)
 else i.rs.isEmpty &&
  (if i.op=2 then iw i.x n &&iw i.y n
  else i.y==0 &&
   (if i.op=3 then iw i.x n
   else if i.op=4 then decide (((pc+1:Nat):Int)<n) &&iw i.x 10
   else if i.op=5∨i.op=6 then decide (((pc+1:Nat):Int)<n) &&i.x==0
   else if i.op=7 then iw i.x ns
   else false))
theorem gx {s0:St} (v n:Int):Ev pv 100 [.int .i64 v,.int .i64 n] s0 (.bool (iw v n)) s0:=by
 refine Ev.mk1 rfl Lv rfl rfl rfl ?_;refine zE ?_;obtain⟨hSb,hF,hH⟩:=ri s0;generalize enterSt .ro s0=S at*;refine zQ 5 ?_;refine EvC.j9 4 (.bool (decide (v≥0) &&decide (v<n))) [] ?_ (fun ff tmp=>?_)
 ·refine zQ 3 ?_;refine EvO.two 7 rfl (fun bL=>?_) (fun bL=>?_)
  ·refine zQ 5 ?_;refine EvO.nil (aK ?_);refine zG ?_
   all_goals(simp[bL];done)
  ·refine zQ 5 ?_;refine EvO.nil (aK ?_);refine zG ?_
   all_goals(simp[bL];done)
 dsimp only[setW,List.foldl,nth,u2,u1];refine EvC.ret ⟨rx,_,rfl,rl hSb hH (rfl)⟩
theorem Au {s0:St} {p:Pg} {pc:Nat} {i:aC} (hp:p.ok) (hi:p.code[pc]?=some i):Ev pv 99 [p.d,.int .i64 (pc:Nat)] s0 (.bool (bI p.code.length p.af.length pc i)) s0:=by
 refine Ev.mk1 rfl OG rfl rfl rfl ?_;refine zE ?_;obtain⟨hSb,hF,hH⟩:=ri s0;generalize enterSt .ro s0=S at*;have hc:=hp.c.arg s0.bs.length S;have hs:=hp.s.arg s0.bs.length S;have BE:=hp.i i (List.mem_of_getElem? hi);have hir:=BE.1.arg s0.bs.length S;have hil:=BE.2;have hcl:=hp.cl;have gi:=hp.sl;have hr:=de hi;have hlt:=lt_get hi;unfold Pg.d;refine zQ 2 ?_;refine qb hH fun k2 st hk2 hH=>?_;dsimp only[u2,u1,u3,u4,setMany,u5,u6,D.cells,Nat.reduceAdd,Pg.cs,aq,ae] at hH;refine zQ 7 ?_;refine qr fun P6 J1=>?_;refine EvO.bF rfl (ev rfl) (by assumption) rfl (by dsimp only[Fr.put,u1,u2]<;>rfl) ?_;refine qa hH fun k5 st zO hH=>?_;refine qS hH at0 fun st hH=>?_;dsimp only[u2,u1,u3,u4,setMany,u5,u6,D.cells,Nat.reduceAdd,Pg.cs,aq,ae] at hH;refine zQ 7 ?_;refine qn ?_;simp only[List.length_map];refine zQ 5 ?_;refine EvC.j9 36 (.bool (((i.op !=1) &&decide ((i.rs.length:Int)>0))||((i.op !=2) &&(i.y !=0)))) [18,19,20,21,22,23,24,25,26,27,28,29,30,31,32,33,34,35] ?_ (fun ff tmp=>?_)
 ·refine zQ 4 ?_;refine EvO.two 21 rfl (fun hg3=>?_) (fun hg3=>?_)
  ·refine zQ 2 ?_;refine qn ?_ (hg:=wi hg3);simp only[List.length_map];refine zQ 3 ?_;refine EvO.two 27 rfl (fun dI=>?_) (fun dI=>?_)
   ·refine zQ 9 ?_;refine EvO.nil (aK ?_);refine zG ?_
    all_goals(simp_all;done)
   ·refine zQ 4 ?_;refine EvO.two 31 rfl (fun hg13=>?_) (fun hg13=>?_)
    ·refine zQ 3 ?_;refine EvO.pickT (wantD_is rfl rfl rfl dI) rfl hg13 (by dsimp only[Fr.put,u1,u2]<;>rfl) ?_;refine zQ 1 ?_;refine EvO.nil (aK ?_);refine zG ?_
     all_goals(simp_all;done)
    ·refine zQ 3 ?_;refine EvO.pickF (wantD_is rfl rfl rfl dI) rfl hg13 (by dsimp only[Fr.put,u1,u2]<;>rfl) ?_;refine zQ 1 ?_;refine EvO.nil (aK ?_);refine zG ?_
     all_goals(simp_all;done)
  ·refine zQ 10 ?_;refine EvO.two 31 rfl (fun hg13=>?_) (fun hg13=>?_)
   ·refine zQ 5 ?_;refine EvO.nil (aK ?_);refine zG ?_
    all_goals(simp[hg3,hg13];done)
   ·refine zQ 5 ?_;refine EvO.nil (aK ?_);refine zG ?_
    all_goals(simp[hg3,hg13];done)
 dsimp only[setW,List.foldl,nth,u2,u1];generalize ff 18=Us;generalize ff 19=Ur;generalize ff 20=Uq;generalize ff 21=Up;generalize ff 22=Uo;generalize ff 23=Un;generalize ff 24=Um;generalize ff 25=Ul;generalize ff 26=Uk;generalize ff 27=Uj;generalize ff 28=V0;generalize ff 29=VZ;generalize ff 30=VY;generalize ff 31=VX;generalize ff 32=VW;generalize ff 33=VV;generalize ff 34=VU;generalize ff 35=VT;have J9:(i.rs.isEmpty=!decide ((i.rs.length:Int)>0)):=by cases i.rs<;>simp<;>omega
 have hsh:bI p.code.length p.af.length pc i=if((i.op !=1) &&decide ((i.rs.length:Int)>0))||((i.op !=2) &&(i.y !=0)) then false else
   (if i.op=1 then(decide (((pc+1:Nat):Int)<p.code.length) &&i.x==0) &&dt i.rs
   else if i.op=2 then iw i.x p.code.length &&iw i.y p.code.length
   else if i.op=3 then iw i.x p.code.length
   else if i.op=4 then decide (((pc+1:Nat):Int)<p.code.length) &&iw i.x 10
   else if i.op=5 then decide (((pc+1:Nat):Int)<p.code.length) &&i.x==0
   else if i.op=6 then decide (((pc+1:Nat):Int)<p.code.length) &&i.x==0
   else if i.op=7 then iw i.x p.af.length
   else false):=by
  unfold bI;rw[J9];generalize decide ((i.rs.length:Int)>0)=b
  by_cases h1:i.op=1
  ·have h2:i.op≠2:=by omega
   simp only[h1];cases b<;>by_cases hy:i.y=0<;>simp[hy]
  ·by_cases h2:i.op=2
   ·simp only[h2];cases b<;>simp
   ·by_cases QS:i.op=5
    ·simp only[QS];cases b<;>by_cases hy:i.y=0<;>simp[hy]
    ·cases b<;>by_cases hy:i.y=0<;>simp[h1,h2,QS,hy]
 rw[hsh];refine qc (fun h0=>?_) (fun h0=>?_)<;>try simp only[cs] at h0
 ·refine zQ 4 ?_;rw[if_pos h0];refine EvC.ret ⟨rx,_,rfl,rl hSb hH (rfl)⟩
 ·rw[if_neg (by rw[h0];simp)];refine zQ 13 ?_;refine zI (fun h1=>?_) fun h1=>?_
  ·rw[if_pos h1];refine qq<|EvC.j9 4 (.bool ((decide (((pc+1:Nat):Int)<p.code.length) &&(i.x==0)) &&dt i.rs)) [] ?_ (fun ff tmp=>?_)
   ·refine zQ 2 ?_;refine EvO.two 42 rfl (fun fu=>?_) (fun fu=>?_)
    ·refine zQ 5 ?_;refine EvO.two 47 rfl (fun ft=>?_) (fun ft=>?_)
     ·refine zQ 2 ?_;refine qv (vt (hir.rows hH) hil) ?_ (hg:=wi ft);refine zQ 2 ?_;refine EvO.nil (aK ?_);refine zG ?_
      all_goals(simp[fu,ft];done)
     ·refine zQ 5 ?_;refine EvO.nil (aK ?_);refine zG ?_
      all_goals(simp[fu,ft];done)
    ·refine zQ 10 ?_;refine EvO.nil (aK ?_);refine zG ?_
     all_goals(simp[fu];done)
   dsimp only[setW,List.foldl,nth,u2,u1];refine EvC.ret ⟨rx,_,rfl,rl hSb hH (rfl)⟩
  ·rw[if_neg h1];refine zQ 5 ?_;refine zI (fun h2=>?_) fun h2=>?_
   ·rw[if_pos h2];refine qq<|EvC.j9 4 (.bool (iw i.x p.code.length &&iw i.y p.code.length)) [] ?_ (fun ff tmp=>?_)
    ·refine zQ 4 ?_;refine qn ?_;simp only[List.length_map];refine qv (gx _ _) ?_;refine qm ?_;refine EvO.two 60 rfl (fun ft=>?_) (fun ft=>?_)
     ·refine zQ 4 ?_;refine qn ?_ (hg:=wi ft);simp only[List.length_map];refine qv (gx _ _) ?_ (hg:=wi ft);refine zQ 2 ?_;refine EvO.nil (aK ?_);refine zG ?_
      all_goals(simp[ft];done)
     ·refine zQ 8 ?_;refine EvO.nil (aK ?_);refine zG ?_
      all_goals(simp[ft];done)
    dsimp only[setW,List.foldl,nth,u2,u1];refine EvC.ret ⟨rx,_,rfl,rl hSb hH (rfl)⟩
   ·rw[if_neg h2];refine zQ 5 ?_;refine zI (fun h3=>?_) fun h3=>?_
    ·rw[if_pos h3];refine zQ 6 ?_;refine qn ?_;simp only[List.length_map];refine qv (gx _ _) ?_;refine zQ 2 ?_;refine EvC.ret ⟨rx,_,rfl,rl hSb hH (rfl)⟩
    ·rw[if_neg h3];refine zQ 5 ?_;refine zI (fun h4=>?_) fun h4=>?_
     ·rw[if_pos h4];refine qq<|EvC.j9 4 (.bool (decide (((pc+1:Nat):Int)<p.code.length) &&iw i.x 10)) [] ?_ (fun ff tmp=>?_)
      ·refine zQ 2 ?_;refine EvO.two 79 rfl (fun fu=>?_) (fun fu=>?_)
       ·refine zQ 2 ?_;refine qv (gx _ _) ?_ (hg:=wi fu);refine zQ 2 ?_;refine EvO.nil (aK ?_);refine zG ?_
        all_goals(simp[fu];done)
       ·refine zQ 5 ?_;refine EvO.nil (aK ?_);refine zG ?_
        all_goals(simp[fu];done)
      dsimp only[setW,List.foldl,nth,u2,u1];refine EvC.ret ⟨rx,_,rfl,rl hSb hH (rfl)⟩
     ·rw[if_neg h4];refine zQ 6 ?_
      by_cases h5:i.op=5
      ·rw[if_pos h5];refine qD rfl (by simp[h5]) ?_;refine zQ 1 ?_;refine qD rfl (by simp[h5]) ?_;refine qq<|EvC.j9 4 (.bool (decide (((pc+1:Nat):Int)<p.code.length) &&(i.x==0))) [] ?_ (fun ff tmp=>?_)
       ·refine zQ 2 ?_;refine EvO.two 88 rfl (fun fu=>?_) (fun fu=>?_)
        ·refine zQ 5 ?_;refine EvO.nil (aK ?_);refine zG ?_
         all_goals(simp[fu];done)
        ·refine zQ 5 ?_;refine EvO.nil (aK ?_);refine zG ?_
         all_goals(simp[fu];done)
       dsimp only[setW,List.foldl,nth,u2,u1];refine EvC.ret ⟨rx,_,rfl,rl hSb hH (rfl)⟩
      ·rw[if_neg h5];refine qE rfl (by simp[h5]) ?_;refine zQ 4 ?_;refine zI (fun h6=>?_) fun h6=>?_
       ·rw[if_pos h6];refine qq<|EvC.j9 4 (.bool (decide (((pc+1:Nat):Int)<p.code.length) &&(i.x==0))) [] ?_ (fun ff tmp=>?_)
        ·refine zQ 2 ?_;refine EvO.two 88 rfl (fun fu=>?_) (fun fu=>?_)
         ·refine zQ 5 ?_;refine EvO.nil (aK ?_);refine zG ?_
          all_goals(simp[fu];done)
         ·refine zQ 5 ?_;refine EvO.nil (aK ?_);refine zG ?_
          all_goals(simp[fu];done)
        dsimp only[setW,List.foldl,nth,u2,u1];refine EvC.ret ⟨rx,_,rfl,rl hSb hH (rfl)⟩
       ·rw[if_neg h6];refine zQ 5 ?_;refine zI (fun h7=>?_) fun h7=>?_
        ·rw[if_pos h7];refine zQ 6 ?_;refine qn ?_;simp only[List.length_map];refine qv (gx _ _) ?_;refine zQ 2 ?_;refine EvC.ret ⟨rx,_,rfl,rl hSb hH (rfl)⟩
        ·rw[if_neg h7];refine zQ 5 ?_;refine EvC.ret ⟨rx,_,rfl,rl hSb hH (rfl)⟩
end Go.Proofs.YtnleclohocdkaaaGreat
