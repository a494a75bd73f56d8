/-
 Ranges of runes: the canonical form, by plain lists. No program in sight.
-/
import Derived.Test.YtbdilgkfnacahaaGreatXPx
import Derived.Test.YtbdilgkfnacahaaGreatXM2
import Derived.KernelRfl
set_option linter.unusedSimpArgs false
set_option linter.unusedVariables false
set_option maxRecDepth 100000
set_option maxHeartbeats 4000000
namespace Go.V
abbrev Rg:=Int×Int
def b6 (l:List Rg) (r:Int):Prop:=∃x,x∈l∧x.1≤r∧r≤x.2
theorem ct (r:Int):¬b6 [] r:=by rintro⟨x,h,_⟩;cases h
theorem aQ {x:Rg} {l:List Rg} {r:Int}:b6 (x::l) r↔(x.1≤r∧r≤x.2)∨b6 l r:=by
 constructor
 ·rintro⟨y,hy,h⟩
  rcases List.mem_cons.1 hy with rfl|hy
  ·exact .inl h
  ·exact .inr ⟨y,hy,h⟩
 ·rintro(h|⟨y,hy,h⟩)
  ·exact⟨x,List.mem_cons_self ..,h⟩
  ·exact⟨y,List.mem_cons_of_mem _ hy,h⟩
theorem oS {a b:List Rg} {r:Int}:b6 (a++b) r↔b6 a r∨b6 b r:=by
 constructor
 ·rintro⟨y,hy,h⟩
  rcases List.mem_append.1 hy with hy|hy
  ·exact .inl ⟨y,hy,h⟩
  ·exact .inr ⟨y,hy,h⟩
 ·rintro(⟨y,hy,h⟩|⟨y,hy,h⟩)
  ·exact⟨y,List.mem_append_left _ hy,h⟩
  ·exact⟨y,List.mem_append_right _ hy,h⟩
theorem js {a b:List Rg} (h:∀x,x∈a↔x∈b) (r:Int):b6 a r↔b6 b r:=by
 constructor
 ·rintro⟨y,hy,hh⟩;exact⟨y,(h y).1 hy,hh⟩
 ·rintro⟨y,hy,hh⟩;exact⟨y,(h y).2 hy,hh⟩
def canon (l:List Rg):Prop:=(∀x∈l,x.1≤x.2)∧l.Pairwise fun x y=>x.2+1<y.1
theorem fP {x:Rg} {l:List Rg} (h:canon (x::l)):canon l∧x.1≤x.2∧∀r,b6 l r→x.2+1<r:=by
 obtain⟨h1,h2⟩:=h;rw[List.pairwise_cons] at h2;refine⟨⟨fun y hy=>h1 y (List.mem_cons_of_mem _ hy),h2.2⟩,h1 x (List.mem_cons_self ..),?_⟩;rintro r ⟨y,hy,h3,h4⟩;have:=h2.1 y hy;omega
theorem iV:∀{a b:List Rg},canon a→canon b→(∀r,b6 a r↔b6 b r)→a=b
 |[],[],_,_,_=>rfl
 |[],y::b,_,hb,h=>by
  obtain⟨_,h1,_⟩:=fP hb;exact absurd ((h y.1).2 (aQ.2 (.inl ⟨Int.le_refl _,h1⟩))) (ct _)
 |x::a,[],ha,_,h=>by
  obtain⟨_,h1,_⟩:=fP ha;exact absurd ((h x.1).1 (aQ.2 (.inl ⟨Int.le_refl _,h1⟩))) (ct _)
 |x::a,y::b,ha,hb,h=>by
  obtain⟨ca,xa,fa⟩:=fP ha;obtain⟨cb,yb,fb⟩:=fP hb
  have low:∀{x y:Rg} {a b:List Rg},x.1≤x.2→(∀r,b6 b r→y.2+1<r)→y.1≤y.2→(∀r,b6 (x::a) r→b6 (y::b) r)→y.1≤x.1:=by
   intro x y a b hx hf hy hh
   rcases aQ.1 (hh x.1 (aQ.2 (.inl ⟨Int.le_refl _,hx⟩))) with h|h
   ·exact h.1
   ·have:=hf _ h;omega
  have e1:x.1=y.1:=Int.le_antisymm (low yb fa xa fun r=>(h r).2) (low xa fb yb fun r=>(h r).1)
  have up:∀{x y:Rg} {a b:List Rg},x.1≤x.2→x.1=y.1→(∀r,b6 a r→x.2+1<r)→(∀r,b6 (y::b) r→b6 (x::a) r)→y.2≤x.2:=by
   intro x y a b hx he hf hh
   rcases Int.lt_or_le x.2 y.2 with h'|h'
   ·rcases aQ.1 (hh (x.2+1) (aQ.2 (.inl ⟨by omega,by omega⟩))) with h|h
    ·omega
    ·have:=hf _ h;omega
   ·exact h'
  have e2:x.2=y.2:=Int.le_antisymm (up yb e1.symm fb fun r=>(h r).1) (up xa e1 fa fun r=>(h r).2);have e:x=y:=Prod.ext e1 e2;subst e
  congr 1
  refine iV ca cb fun r=>⟨fun hr=>?_,fun hr=>?_⟩
  ·have:=fa r hr
   rcases aQ.1 ((h r).1 (aQ.2 (.inr hr))) with h|h
   ·omega
   ·exact h
  ·have:=fb r hr
   rcases aQ.1 ((h r).2 (aQ.2 (.inr hr))) with h|h
   ·omega
   ·exact h
def cg (acc:List Rg) (r:Rg):List Rg:=
 match acc with
 |[]=>[r]
 |k::rest=>if r.1≤k.2+1 then(k.1,max k.2 r.2)::rest else r::k::rest
theorem iK:∀(l acc:List Rg),(∀x∈l,x.1≤x.2)→l.Pairwise (fun x y=>x.1≤y.1)→(∀k∈acc.head?,∀x∈l,k.1≤x.1)→(∀x∈acc,x.1≤x.2)→acc.Pairwise (fun x y=>y.2+1<x.1)→
  (∀x∈l.foldl cg acc,x.1≤x.2)∧(l.foldl cg acc).Pairwise (fun x y=>y.2+1<x.1)∧∀r,b6 (l.foldl cg acc) r↔b6 acc r∨b6 l r
 |[],acc,_,_,_,h1,h2=>⟨h1,h2,fun r=>⟨.inl,fun h=>h.resolve_right (ct r)⟩⟩
 |x::l,acc,hl,hp,hk,h1,h2=>by
  rw[List.pairwise_cons] at hp;have hx:=hl x (List.mem_cons_self ..);have q7:∀y∈l,y.1≤y.2:=fun y hy=>hl y (List.mem_cons_of_mem _ hy);rw[List.foldl_cons]
  cases acc with
  |nil=>
   obtain⟨g1,g2,g3⟩:=iK l [x] q7 hp.2 (fun k i_ y hy=>by simp at i_;subst i_;exact hp.1 y hy) (fun y hy=>by simp at hy;subst hy;exact hx) (by simp);refine⟨g1,g2,fun r=>(g3 r).trans ?_⟩;rw[aQ (l:=l),aQ (l:=[])];constructor
   ·rintro((h|h)|h)
    ·exact .inr (.inl h)
    ·exact absurd h (ct r)
    ·exact .inr (.inr h)
   ·rintro(h|h|h)
    ·exact absurd h (ct r)
    ·exact .inl (.inl h)
    ·exact .inr h
  |cons k rest=>
   have Ql:=hk k rfl x (List.mem_cons_self ..);have hkk:=h1 k (List.mem_cons_self ..);rw[List.pairwise_cons] at h2;unfold cg
   by_cases hc:x.1≤k.2+1
   ·simp only[if_pos hc]
    obtain⟨g1,g2,g3⟩:=iK l ((k.1,max k.2 x.2)::rest) q7 hp.2 (fun q hq y hy=>by simp at hq;subst hq;have:=hp.1 y hy;simp only;omega) (fun y hy=>by
     rcases List.mem_cons.1 hy with rfl|hy
     ·simp only;omega
     ·exact h1 y (List.mem_cons_of_mem _ hy)) (by rw[List.pairwise_cons];exact⟨h2.1,h2.2⟩)
    refine⟨g1,g2,fun r=>(g3 r).trans ?_⟩;rw[aQ (l:=rest),aQ (l:=rest),aQ (l:=l)];constructor
    ·rintro((h|h)|h)
     ·simp only at h
      by_cases hr:r≤k.2
      ·exact .inl (.inl ⟨h.1,hr⟩)
      ·exact .inr (.inl ⟨by omega,by omega⟩)
     ·exact .inl (.inr h)
     ·exact .inr (.inr h)
    ·rintro((h|h)|h|h)
     ·exact .inl (.inl ⟨h.1,by simp only;omega⟩)
     ·exact .inl (.inr h)
     ·exact .inl (.inl ⟨by simp only;omega,by simp only;omega⟩)
     ·exact .inr h
   ·simp only[if_neg hc]
    obtain⟨g1,g2,g3⟩:=iK l (x::k::rest) q7 hp.2 (fun q hq y hy=>by simp at hq;subst hq;exact hp.1 y hy) (fun y hy=>by
     rcases List.mem_cons.1 hy with rfl|hy
     ·exact hx
     ·exact h1 y hy) (by
     rw[List.pairwise_cons];refine⟨fun y hy=>?_,by rw[List.pairwise_cons];exact h2⟩
     rcases List.mem_cons.1 hy with rfl|hy
     ·omega
     ·have:=h2.1 y hy;omega)
    refine⟨g1,g2,fun r=>(g3 r).trans ?_⟩;rw[aQ (l:=k::rest),aQ (l:=l)];constructor
    ·rintro((h|h)|h)
     ·exact .inr (.inl h)
     ·exact .inl h
     ·exact .inr (.inr h)
    ·rintro(h|h|h)
     ·exact .inl (.inr h)
     ·exact .inl (.inl h)
     ·exact .inr h
theorem qQ {l:List Rg} (h1:∀x∈l,x.1≤x.2) (h2:l.Pairwise fun x y=>x.1≤y.1):canon (l.foldl cg []).reverse∧∀r,b6 (l.foldl cg []).reverse r↔b6 l r:=by
 obtain⟨g1,g2,g3⟩:=iK l [] h1 h2 (fun k hk=>by simp at hk) (fun x hx=>by simp at hx) List.Pairwise.nil;refine⟨⟨fun x hx=>g1 x (List.mem_reverse.1 hx),by rw[List.pairwise_reverse];exact g2⟩,fun r=>?_⟩;rw[js (fun x=>List.mem_reverse) r,g3 r];exact⟨fun h=>h.resolve_left (ct r),.inr⟩
def eW (r:Int):Prop:=0≤r∧r≤1114111∧¬(55296≤r∧r≤57343)
def ch (x:Rg):List Rg:=
 (if max (max x.1 0) 0≤min (min x.2 1114111) 55295 then[(max (max x.1 0) 0,min (min x.2 1114111) 55295)] else[])++
 (if max (max x.1 0) 57344≤min (min x.2 1114111) 1114111 then[(max (max x.1 0) 57344,min (min x.2 1114111) 1114111)] else[])
theorem kH (x:Rg) (r:Int):b6 (ch x) r↔eW r∧x.1≤r∧r≤x.2:=by
 unfold ch eW;rw[oS]
 have one:∀(a b:Int),b6 (if a≤b then[(a,b)] else[]) r↔a≤r∧r≤b:=by
  intro a b
  split
  ·rw[aQ];exact⟨fun h=>h.elim id fun h=>absurd h (ct r),.inl⟩
  ·exact⟨fun h=>absurd h (ct r),fun h=>by omega⟩
 rw[one,one];omega
theorem jk (x:Rg):∀y∈ch x,y.1≤y.2∧0≤y.1∧y.2≤1114111:=by
 intro y hy;unfold ch at hy
 rcases List.mem_append.1 hy with h|h<;>split at h<;>simp at h<;>subst h<;>simp only<;>omega
theorem qM {l all:List Rg} (hp:∀x,x∈all↔x∈l.flatMap ch) (hs:all.Pairwise fun x y=>x.1≤y.1):canon (all.foldl cg []).reverse∧∀r,b6 (all.foldl cg []).reverse r↔eW r∧b6 l r:=by
 have hle:∀x∈all,x.1≤x.2:=fun x hx=>by
  obtain⟨y,_,hy⟩:=List.mem_flatMap.1 ((hp x).1 hx);exact(jk y x hy).1
 obtain⟨g1,g2⟩:=qQ hle hs;refine⟨g1,fun r=>(g2 r).trans ((js hp r).trans ?_)⟩;constructor
 ·rintro⟨y,hy,h⟩;obtain⟨x,hx,hy⟩:=List.mem_flatMap.1 hy;have:=(kH x r).1 ⟨y,hy,h⟩;exact⟨this.1,x,hx,this.2⟩
 ·rintro⟨hr,x,hx,h⟩;obtain⟨y,hy,h'⟩:=(kH x r).2 ⟨hr,h⟩;exact⟨y,List.mem_flatMap.2 ⟨x,hx,hy⟩,h'⟩
def ec:List Rg→Int→Bool
 |[],_=>false
 |x::l,r=>(decide (x.1≤r) &&decide (r≤x.2))||ec l r
theorem lz:∀(l:List Rg) (r:Int),ec l r=true↔b6 l r
 |[],r=>⟨fun h=>(by cases h),fun h=>absurd h (ct r)⟩
 |x::l,r=>by
  rw[aQ,←lz l r];simp[ec]
def et (x:Rg):List Int:=
 (if x.1≤x.2∧0≤x.1∧x.1≤1114111 then[x.1] else[])++(if x.1≤x.2∧0≤x.2∧x.2<1114111 then[x.2+1] else[])
def cI (acc:List Rg) (lo hi:Int):List Rg:=
 match acc with
 |[]=>[(lo,hi)]
 |k::rest=>if k.2+1=lo then(k.1,hi)::rest else(lo,hi)::k::rest
def Fz (l:List Rg) (yes:Bool) (a b:Int):Bool:=decide (a<b) &&(decide (a<55296)||decide (57343<a)) &&(ec l a==yes)
def c9 (l:List Rg) (yes:Bool):List Int→List Rg→List Rg
 |a::b::t,acc=>c9 l yes (b::t) (if Fz l yes a b=true then cI acc a (b-1) else acc)
 |_,acc=>acc
theorem AE {l:List Rg} {m:List Int} {a b:Int} (hm:∀x∈l,∀e∈et x,e≤a∨b≤e) (h1:55296≤a∨b≤55296) (h2:57344≤a∨b≤57344) (ha:0≤a) (hb:b≤1114112) {r:Int} (hr:a≤r) (IJ:r<b):
  (eW r↔¬(55296≤a∧a≤57343))∧(b6 l r↔b6 l a):=by
 refine⟨by unfold eW;omega,?_,?_⟩
 ·rintro⟨x,hx,h3,h4⟩;refine⟨x,hx,?_,by omega⟩
  rcases Int.lt_or_le a x.1 with h|h
  ·have:=hm x hx x.1 (by unfold et;rw[if_pos (by omega)];simp);omega
  ·exact h
 ·rintro⟨x,hx,h3,h4⟩;refine⟨x,hx,by omega,?_⟩
  rcases Int.lt_or_le x.2 r with h|h
  ·have:=hm x hx (x.2+1) (by unfold et;rw[if_pos (c:=x.1≤x.2∧0≤x.2∧x.2<1114111) (by omega)];simp);omega
  ·exact h
theorem uf {acc:List Rg} {lo hi:Int} (h1:∀x∈acc,x.1≤x.2) (h2:acc.Pairwise (fun x y=>y.2+1<x.1)) (h3:∀x∈acc,x.2<lo) (h4:lo≤hi):
  (∀x∈cI acc lo hi,x.1≤x.2)∧(cI acc lo hi).Pairwise (fun x y=>y.2+1<x.1)∧(∀x∈cI acc lo hi,x.2≤hi)∧∀r,b6 (cI acc lo hi) r↔b6 acc r∨(lo≤r∧r≤hi):=by
 cases acc with
 |nil=>
  refine⟨by simp[cI,h4],by simp[cI],by simp[cI],fun r=>?_⟩;simp only[cI];rw[aQ];exact⟨fun h=>.inr (h.resolve_right (ct r)),fun h=>.inl (h.resolve_left (ct r))⟩
 |cons k rest=>
  have hk:=h1 k (List.mem_cons_self ..);have G8:=h3 k (List.mem_cons_self ..);rw[List.pairwise_cons] at h2;unfold cI
  by_cases hc:k.2+1=lo
  ·simp only[if_pos hc];refine⟨fun x hx=>?_,?_,fun x hx=>?_,fun r=>?_⟩
   ·rcases List.mem_cons.1 hx with rfl|hx
    ·simp only;omega
    ·exact h1 x (List.mem_cons_of_mem _ hx)
   ·rw[List.pairwise_cons];exact⟨h2.1,h2.2⟩
   ·rcases List.mem_cons.1 hx with rfl|hx
    ·simp
    ·have:=h3 x (List.mem_cons_of_mem _ hx);omega
   ·rw[aQ (l:=rest),aQ (l:=rest)];simp only;constructor
    ·rintro(h|h)
     ·by_cases hh:r≤k.2
      ·exact .inl (.inl ⟨h.1,hh⟩)
      ·exact .inr (by omega)
     ·exact .inl (.inr h)
    ·rintro((h|h)|h)
     ·exact .inl (by omega)
     ·exact .inr h
     ·exact .inl (by omega)
  ·simp only[if_neg hc];refine⟨fun x hx=>?_,?_,fun x hx=>?_,fun r=>?_⟩
   ·rcases List.mem_cons.1 hx with rfl|hx
    ·exact h4
    ·exact h1 x hx
   ·rw[List.pairwise_cons];refine⟨fun y hy=>?_,by rw[List.pairwise_cons];exact h2⟩
    rcases List.mem_cons.1 hy with rfl|hy
    ·simp only;omega
    ·have:=h2.1 y hy;simp only;omega
   ·rcases List.mem_cons.1 hx with rfl|hx
    ·exact Int.le_refl _
    ·have:=h3 x hx;omega
   ·rw[aQ];exact⟨fun h=>h.elim .inr .inl,fun h=>h.elim .inr .inl⟩
theorem jq (l:List Rg) (yes:Bool):∀(m:List Int) (acc:List Rg),m.Pairwise (·≤·)→(∀a∈m,0≤a∧a≤1114112)→
  (∀q:Int,(q=55296∨q=57344∨∃x∈l,q∈et x)→q∈m∨∀a∈m,q≤a)→(∀x∈acc,x.1≤x.2)→acc.Pairwise (fun x y=>y.2+1<x.1)→(∀x∈acc,∀a∈m.head?,x.2<a)→
  (∀x∈c9 l yes m acc,x.1≤x.2)∧(c9 l yes m acc).Pairwise (fun x y=>y.2+1<x.1)∧
  ∀r,b6 (c9 l yes m acc) r↔b6 acc r∨(eW r∧(b6 l r↔yes=true)∧(∃a∈m.head?,a≤r)∧∃b∈m.getLast?,r<b)
 |[],acc,_,_,_,h1,h2,_=>⟨h1,h2,fun r=>⟨.inl,fun h=>h.elim id (by rintro⟨_,_,⟨a,h,_⟩,_⟩;simp at h)⟩⟩
 |[a],acc,_,_,_,h1,h2,_=>⟨h1,h2,fun r=>⟨.inl,fun h=>h.elim id (by rintro⟨_,_,⟨a',h,h'⟩,b,hb,dJ⟩;simp at h hb;omega)⟩⟩
 |a::b::t,acc,hs,hr,hm,h1,h2,h3=>by
  have AW:=hs;rw[List.pairwise_cons] at hs;have hab:a≤b:=hs.1 b (List.mem_cons_self ..);have ha:=hr a (List.mem_cons_self ..);have hb:=hr b (List.mem_cons_of_mem _ (List.mem_cons_self ..))
  have key:∀q:Int,(q=55296∨q=57344∨∃x∈l,q∈et x)→q≤a∨b≤q:=by
   intro q hq
   rcases hm q hq with h|h
   ·rcases List.mem_cons.1 h with rfl|h
    ·exact .inl (Int.le_refl _)
    ·rcases List.mem_cons.1 h with rfl|h
     ·exact .inr (Int.le_refl _)
     ·have:=(List.pairwise_cons.1 hs.2).1 q h;exact .inr this
   ·exact .inl (h a (List.mem_cons_self ..))
  have LN:∀r,a≤r→r<b→(eW r↔¬(55296≤a∧a≤57343))∧(b6 l r↔b6 l a):=fun r h h'=>
   AE (m:=[]) (fun x hx e he=>key e (.inr (.inr ⟨x,hx,he⟩))) (by have:=key 55296 (.inl rfl);omega) (by have:=key 57344 (.inr (.inl rfl));omega) ha.1 hb.2 h h'
  have Lz:∀q:Int,(q=55296∨q=57344∨∃x∈l,q∈et x)→q∈b::t∨∀c∈b::t,q≤c:=by
   intro q hq
   rcases hm q hq with h|h
   ·rcases List.mem_cons.1 h with rfl|h
    ·exact .inr hs.1
    ·exact .inl h
   ·exact .inr fun c hc=>h c (List.mem_cons_of_mem _ hc)
  have rX:∀c∈b::t,0≤c∧c≤1114112:=fun c hc=>hr c (List.mem_cons_of_mem _ hc);have r6:∀r,(∃e∈(a::b::t).getLast?,r<e)↔∃e∈(b::t).getLast?,r<e:=fun r=>by rw[List.getLast?_cons_cons]
  have hbl:∃e∈(b::t).getLast?,b≤e:=by
   refine⟨(b::t).getLast (by simp),by rw[List.getLast?_eq_some_getLast (by simp)];simp,?_⟩;have:=List.getLast_mem (l:=b::t) (by simp)
   rcases List.mem_cons.1 this with h|h
   ·rw[h];exact Int.le_refl _
   ·exact(List.pairwise_cons.1 hs.2).1 _ h
  have bC:Fz l yes a b=true↔a<b∧¬(55296≤a∧a≤57343)∧(b6 l a↔yes=true):=by
   unfold Fz;rw[←lz];cases ec l a<;>cases yes<;>simp<;>omega
  unfold c9
  by_cases hc:Fz l yes a b=true
  ·rw[if_pos hc];obtain⟨c1,c2,c3⟩:=bC.1 hc;obtain⟨p1,p2,p3,p4⟩:=uf h1 h2 (fun x hx=>h3 x hx a rfl) (show a≤b-1 by omega);obtain⟨g1,g2,g3⟩:=jq l yes (b::t) _ hs.2 rX Lz p1 p2 (fun x hx c hc=>by simp at hc;subst hc;have:=p3 x hx;omega);refine⟨g1,g2,fun r=>(g3 r).trans ?_⟩;rw[p4,r6];constructor
   ·rintro((h|h)|⟨h4,h5,⟨c,hc,h6⟩,h7⟩)
    ·exact .inl h
    ·obtain⟨k1,k2⟩:=LN r h.1 (by omega);obtain⟨e,he,Qq⟩:=hbl;exact .inr ⟨k1.2 c2,k2.trans c3,⟨a,rfl,h.1⟩,e,he,by omega⟩
    ·simp at hc;subst hc;exact .inr ⟨h4,h5,⟨a,rfl,by omega⟩,h7⟩
   ·rintro(h|⟨h4,h5,⟨c,hc,h6⟩,h7⟩)
    ·exact .inl (.inl h)
    ·simp at hc;subst hc
     by_cases IJ:r<b
     ·exact .inl (.inr (by omega))
     ·exact .inr ⟨h4,h5,⟨b,rfl,by omega⟩,h7⟩
  ·rw[if_neg hc];obtain⟨g1,g2,g3⟩:=jq l yes (b::t) acc hs.2 rX Lz h1 h2 (fun x hx c hc=>by simp at hc;subst hc;have:=h3 x hx a rfl;omega);refine⟨g1,g2,fun r=>(g3 r).trans ?_⟩;rw[r6];constructor
   ·rintro(h|⟨h4,h5,⟨c,hc,h6⟩,h7⟩)
    ·exact .inl h
    ·simp at hc;subst hc;exact .inr ⟨h4,h5,⟨a,rfl,by omega⟩,h7⟩
   ·rintro(h|⟨h4,h5,⟨c,q8,h6⟩,h7⟩)
    ·exact .inl h
    ·simp at q8;subst q8
     by_cases IJ:r<b
     ·exfalso
      obtain⟨k1,k2⟩:=LN r h6 IJ;exact hc (bC.2 ⟨by omega,k1.1 h4,k2.symm.trans h5⟩)
     ·exact .inr ⟨h4,h5,⟨b,rfl,by omega⟩,h7⟩
theorem lU {l:List Rg} {m:List Int} (yes:Bool) (hp:∀q,q∈m↔q=0∨q=55296∨q=57344∨q=1114112∨∃x∈l,q∈et x) (hs:m.Pairwise (·≤·)):
  canon (c9 l yes m []).reverse∧∀r,b6 (c9 l yes m []).reverse r↔eW r∧(b6 l r↔yes=true):=by
 have hr:∀a∈m,0≤a∧a≤1114112:=by
  intro a ha
  rcases(hp a).1 ha with h|h|h|h|⟨x,hx,h⟩
  ·omega
  ·omega
  ·omega
  ·omega
  ·unfold et at h
   rcases List.mem_append.1 h with h|h<;>split at h<;>simp at h<;>omega
 obtain⟨g1,g2,g3⟩:=jq l yes m [] hs hr (fun q hq=>.inl ((hp q).2 (by rcases hq with h|h|h;exact .inr (.inl h);exact .inr (.inr (.inl h));exact .inr (.inr (.inr (.inr h)))))) (fun x hx=>by simp at hx) List.Pairwise.nil (fun x hx=>by simp at hx);have h0:(0:Int)∈m:=(hp 0).2 (.inl rfl);have h9:(1114112:Int)∈m:=(hp _).2 (.inr (.inr (.inr (.inl rfl))))
 have hh:∃a∈m.head?,a≤0:=by
  cases m with
  |nil=>cases h0
  |cons a t=>
   refine⟨a,rfl,?_⟩
   rcases List.mem_cons.1 h0 with h|h
   ·omega
   ·exact(List.pairwise_cons.1 hs).1 _ h
 have hl:∃b∈m.getLast?,1114112≤b:=by
  have hne:m≠[]:=List.ne_nil_of_mem h0;refine⟨m.getLast hne,by rw[List.getLast?_eq_some_getLast hne];simp,?_⟩;obtain⟨i,hi,he⟩:=List.getElem_of_mem h9;rw[List.getLast_eq_getElem,←he]
  rcases Nat.lt_or_ge i (m.length-1) with h|h
  ·exact(List.pairwise_iff_getElem.1 hs) i (m.length-1) hi (by omega) h
  ·have:i=m.length-1:=by omega
   subst this;exact Int.le_refl _
 refine⟨⟨fun x hx=>g1 x (List.mem_reverse.1 hx),by rw[List.pairwise_reverse];exact g2⟩,fun r=>?_⟩;rw[js (fun x=>List.mem_reverse) r,g3 r];constructor
 ·rintro(h|⟨h1,h2,_⟩)
  ·exact absurd h (ct r)
  ·exact⟨h1,h2⟩
 ·rintro⟨h1,h2⟩;obtain⟨a,ha,Qs⟩:=hh;obtain⟨b,hb,dJ⟩:=hl;have:=h1;unfold eW at this;exact .inr ⟨h1,h2,⟨a,ha,by omega⟩,b,hb,by omega⟩
end Go.V
namespace Go.Proofs.YtbdilgkfnacahaaGreat
open Go.V Go
def gl (fr:Go.V.Fr) (k:Nat):Go.V.D:=Go.V.nth .aZ fr.loc k
def av (x:Rg):List D:=[.int .i32 x.1,.int .i32 x.2]
def eQ (l:List Rg):D:=.sl (l.map fun x=>.agg (av x))
theorem fw (l:List Rg):D.sl ((l.map av).map (ir 2))=eQ l:=by
 unfold eQ;rw[List.map_map];rfl
theorem dp (l:List Rg):∀e∈l.map av,∀d∈e,bQ d=true:=by
 intro e he d hd;obtain⟨x,_,rfl⟩:=List.mem_map.1 he;simp only[av,List.mem_cons,List.not_mem_nil,or_false] at hd
 rcases hd with rfl|rfl<;>rfl
theorem jo (l:List Rg):∀e∈l.map av,e.length=2:=by
 intro e he;obtain⟨x,_,rfl⟩:=List.mem_map.1 he;rfl
theorem fv (st:St) (l:List Rg):V.Rows st 2 (eQ l) (l.map av):=by
 rw[←fw];exact Rows.oP (jo l) (dp l)
theorem cv {l:List Rg} {i:Nat} {q:Rg} (h:l[i]?=some q):(l.map av)[i]?=some (av q):=by rw[List.getElem?_map,h];rfl
theorem mD (l:List Rg) (q:Rg) (r:Int):ec (l++[q]) r=(ec l r||(decide (q.1≤r) &&decide (r≤q.2))):=by
 induction l with
 |nil=>simp[ec]
 |cons x l ih=>simp only[List.cons_append,ec,ih,Bool.or_assoc]
theorem po {l:List Rg} {i:Nat} {r:Int} (h:ec (l.take i) r=true):ec l r=true:=by
 rw[lz] at h⊢;obtain⟨x,h1,h2⟩:=h;exact⟨x,List.mem_of_mem_take h1,h2⟩
theorem jn {s0:St} {x:D} {l:List Rg} {r:Int} (hx:V.Rows s0 2 x (l.map av)) (hl:l.length≤1073741824):Ev pv 31 [x,.int .i32 r] s0 (.bool (ec l r)) s0:=by
 refine Ev.km rfl Kr rfl rfl rfl ?_;dsimp only[u3,u4,List.length,Nat.reduceSub,Nat.reduceAdd,w1,w2];obtain⟨bE,hF,hH⟩:=ri s0;generalize aw .ro s0=S at*;have hx:=Arg.of hx bE;refine qq ?_;refine qj fun K hK=>?_;refine qm ?_;refine qe hK ?_;refine qq ?_;refine qq ?_;refine qj fun K hK=>?_;refine qm ?_;refine qe hK ?_;refine af.block ?_;refine af.loop (fun mm fr st=>∃(i:Nat),fr.clean=⟨6,[x,.int .i32 r,gl fr 2,gl fr 3,.bool false,.int .i64 (i:Nat)],[]⟩∧Has s0.bs.length S st []∧(i+mm=l.length)∧(ec (l.take i) r=false)) (l.length) ?_ ?_
 ·exact⟨0,rfl,hH,by omega,rfl⟩
 rintro mm fr st ⟨i,hfr,hH,hi,hn⟩;rw[hfr];clear hfr;generalize gl fr=ee;clear fr;refine qq ?_;refine qq ?_;refine qj fun K hK=>?_;refine qm ?_;refine qm ?_;refine qn ?_;simp only[List.length_map];refine qg ?_;refine qe hK ?_;refine af.cond (by rfl) (fun h1=>?_) (fun h1=>?_)<;>try simp only[decide_eq_true_eq,decide_eq_false_iff_not] at h1
 ·refine af.skip ?_
  obtain⟨q,hq⟩:∃q,l[i]?=some q:=⟨l[i]'(by omega),List.getElem?_eq_getElem _⟩
  have hr:=cv hq;refine qq ?_;refine af.block ?_;refine qq ?_;refine af.dh 27 (.bool (decide (r≥q.1) &&decide (r≤q.2))) [] ?_ (fun ff tmp dg=>?_)
  ·refine qm ?_;refine qm ?_;refine qm ?_;refine qr fun Il EV=>?_;refine qf (fo:=0) fun Lb GS=>?_;refine qR ?_;refine qg ?_;refine qm ?_;refine ab.two 19 rfl (fun eX=>?_) (fun eX=>?_)
   ·refine qm ?_ (hg:=wi eX);refine qm ?_ (hg:=wi eX);refine qm ?_ (hg:=wi eX);refine qr (fun Ms I6=>?_) (hg:=wi eX);refine qf (fo:=1) (fun HH Ai=>?_) (hg:=wi eX);refine qR ?_ (hg:=wi eX);refine qg ?_ (hg:=wi eX);refine qt eX ?_;refine ab.nil (aR ?_ ?_)
    ·dsimp only[aD,List.foldl,nth,u2,u1]
     all_goals(first|rfl|simp)
    ·dsimp only[Fr.aH,Fr.put,Fr.clean,Fr.ev,Fr.get,nth,V.look,u1,u2,v1,v2,v3,v4,v5,v6,v7,List.length,u3,u4,Nat.reduceSub,Nat.reduceAdd,List.map]
     all_goals(simp[eX];done)
   ·refine qs ?_ (hg:=wn eX);refine qs ?_ (hg:=wn eX);refine qs ?_ (hg:=wn eX);refine qs ?_ (hg:=wn eX);refine qs ?_ (hg:=wn eX);refine qs ?_ (hg:=wn eX);refine qs ?_ (hg:=wn eX);refine qu eX ?_;refine ab.nil (aR ?_ ?_)
    ·dsimp only[aD,List.foldl,nth,u2,u1]
     all_goals(first|rfl|simp)
    ·dsimp only[Fr.aH,Fr.put,Fr.clean,Fr.ev,Fr.get,nth,V.look,u1,u2,v1,v2,v3,v4,v5,v6,v7,List.length,u3,u4,Nat.reduceSub,Nat.reduceAdd,List.map]
     all_goals(simp[eX];done)
  dsimp only[aD,List.foldl,nth,u2,u1];dsimp only[Fr.aH,Fr.put,Fr.clean,Fr.ev,Fr.get,nth,V.look,u1,u2,v1,v2,v3,v4,v5,v6,v7,List.length,u3,u4,Nat.reduceSub,Nat.reduceAdd,List.map]
  have ht:ec (l.take (i+1)) r=(decide (r≥q.1) &&decide (r≤q.2)):=by
   rw[List.take_add_one,hq,Option.toList_some,mD,hn];simp
  refine qc (fun h2=>?_) (fun h2=>?_)<;>try simp only[cs] at h2
  ·refine qq ?_;refine qj fun K hK=>?_;refine qm ?_;refine qe hK ?_;rw[po (i:=i+1) (by rw[ht];simp[h2])];refine af.ret ⟨rx,_,rfl,rl bE hH (rfl)⟩
  ·refine af.skip ?_;refine qj fun K hK=>?_;refine qm ?_;refine qA ?_;refine qm ?_;refine qe hK ?_;exact⟨mm-1,by omega,⟨i+1,rfl,hH,by omega,by rw[ht];simp[h2]⟩⟩
 ·refine af.exit ?_;refine qq ?_;refine qj fun K hK=>?_;refine qm ?_;refine qe hK ?_;have:ec l r=false:=by rw[←hn,List.take_of_length_le (by omega)]
  rw[this];refine af.ret ⟨rx,_,rfl,rl bE hH (rfl)⟩
theorem uY {s0:St} {x:D} {l:List Rg} {r:Int} (hx:V.Rows s0 2 x (l.map av)) (hl:l.length≤1073741824):Ev pv 63 [x,.int .i32 r] s0 (.bool (ec l r)) s0:=by
 refine Ev.km rfl J9 rfl rfl rfl ?_;dsimp only[u3,u4,List.length,Nat.reduceSub,Nat.reduceAdd,w1,w2];obtain⟨bE,hF,hH⟩:=ri s0;generalize aw .ro s0=S at*;have hx:=Arg.of hx bE;refine qq ?_;refine qj fun K hK=>?_;refine qm ?_;refine qe hK ?_;refine qq ?_;refine qq ?_;refine qj fun K hK=>?_;refine qm ?_;refine qn ?_;simp only[List.length_map];refine qm ?_;refine qe hK ?_;refine af.block ?_;refine af.loop (fun mm fr st=>∃(i:Nat),fr.clean=⟨10,[x,.int .i32 r,gl fr 2,gl fr 3,.bool false,gl fr 5,gl fr 6,x,.int .i64 (l.length:Nat),.int .i64 (i:Nat)],[]⟩∧Has s0.bs.length S st []∧(i+mm=l.length)∧(ec (l.take i) r=false)) (l.length) ?_ ?_
 ·exact⟨0,rfl,hH,by omega,rfl⟩
 rintro mm fr st ⟨i,hfr,hH,hi,hn⟩;rw[hfr];clear hfr;generalize gl fr=ee;clear fr;refine qq ?_;refine qj fun K hK=>?_;refine qg ?_;refine qe hK ?_;refine qq ?_;refine af.cond (by rfl) (fun h1=>?_) (fun h1=>?_)<;>try simp only[decide_eq_true_eq,decide_eq_false_iff_not] at h1
 ·refine af.skip ?_
  obtain⟨q,hq⟩:∃q,l[i]?=some q:=⟨l[i]'(by omega),List.getElem?_eq_getElem _⟩
  have hr:=cv hq;refine qq ?_;refine af.block ?_;refine qq ?_;refine qj fun K hK=>?_;refine qr fun PR NL=>?_;refine ab.cx rfl (ev rfl) (by assumption) rfl (ag rfl _) ?_;refine qa hH fun k6 st HR hH=>?_;refine qS hH aC fun st hH=>?_;dsimp only[u2,u1,u3,u4,setMany,u5,u6,D.cells,Nat.reduceAdd,av] at hH;refine qe hK ?_;refine qq ?_;refine af.dh 22 (.bool (decide (r≥q.1) &&decide (r≤q.2))) [] ?_ (fun ff tmp dg=>?_)
  ·refine qm ?_;refine qp (o:=0) ?_;refine ql hH aC ?_;refine qg ?_;refine qm ?_;refine ab.two 17 rfl (fun bc=>?_) (fun bc=>?_)
   ·refine qm ?_ (hg:=wi bc);refine qp (o:=1) ?_ (hg:=wi bc);refine ql hH aC ?_ (hg:=wi bc);refine qg ?_ (hg:=wi bc);refine qt bc ?_;refine ab.nil (aR ?_ ?_)
    ·dsimp only[aD,List.foldl,nth,u2,u1]
     all_goals(first|rfl|simp)
    ·dsimp only[Fr.aH,Fr.put,Fr.clean,Fr.ev,Fr.get,nth,V.look,u1,u2,v1,v2,v3,v4,v5,v6,v7,List.length,u3,u4,Nat.reduceSub,Nat.reduceAdd,List.map]
     all_goals(simp[bc];done)
   ·refine qs ?_ (hg:=wn bc);refine qs ?_ (hg:=wn bc);refine qs ?_ (hg:=wn bc);refine qs ?_ (hg:=wn bc);refine qu bc ?_;refine ab.nil (aR ?_ ?_)
    ·dsimp only[aD,List.foldl,nth,u2,u1]
     all_goals(first|rfl|simp)
    ·dsimp only[Fr.aH,Fr.put,Fr.clean,Fr.ev,Fr.get,nth,V.look,u1,u2,v1,v2,v3,v4,v5,v6,v7,List.length,u3,u4,Nat.reduceSub,Nat.reduceAdd,List.map]
     all_goals(simp[bc];done)
  dsimp only[aD,List.foldl,nth,u2,u1];dsimp only[Fr.aH,Fr.put,Fr.clean,Fr.ev,Fr.get,nth,V.look,u1,u2,v1,v2,v3,v4,v5,v6,v7,List.length,u3,u4,Nat.reduceSub,Nat.reduceAdd,List.map]
  have ht:ec (l.take (i+1)) r=(decide (r≥q.1) &&decide (r≤q.2)):=by
   rw[List.take_add_one,hq,Option.toList_some,mD,hn];simp
  refine qc (fun h2=>?_) (fun h2=>?_)<;>try simp only[cs] at h2
  ·refine qq ?_;refine qj fun K hK=>?_;refine qm ?_;refine qe hK ?_;rw[po (i:=i+1) (by rw[ht];simp[h2])];refine af.ret ⟨rx,_,rfl,rl bE hH (rfl)⟩
  ·refine af.skip ?_;refine qj fun K hK=>?_;refine qA ?_;refine qm ?_;refine qe hK ?_;exact⟨mm-1,by omega,⟨i+1,rfl,(hH.drop 1),by omega,by rw[ht];simp[h2]⟩⟩
 ·refine af.exit ?_;refine qq ?_;refine qj fun K hK=>?_;refine qm ?_;refine qe hK ?_;have:ec l r=false:=by rw[←hn,List.take_of_length_le (by omega)]
  rw[this];refine af.ret ⟨rx,_,rfl,rl bE hH (rfl)⟩
def aI (fr:Go.V.Fr) (k:Nat):Go.V.D:=Go.V.nth .aZ fr.loc k
def da:List Rg:=[(0,55295),(57344,1114111)]
def lV (lo hi:Int) (p:Rg):List Rg:=if max lo p.1≤min hi p.2 then[(max lo p.1,min hi p.2)] else[]
theorem mX (q:Rg):ch q=da.flatMap (lV (max q.1 0) (min q.2 1114111)):=by
 simp[ch,da,lV]
theorem tT {s0:St} (q:Rg):Ev pv 93 [.agg (av q)] s0 (eQ (ch q)) s0:=by
 refine Ev.km rfl J0 rfl rfl rfl ?_;dsimp only[u3,u4,List.length,Nat.reduceSub,Nat.reduceAdd,w1,w2];obtain⟨bE,hF,hH⟩:=ri s0;generalize aw .ro s0=S at*;refine qq ?_;refine qj fun K hK=>?_;refine qb hH fun k1 st nG hH=>?_;dsimp only[u2,u1,u3,u4,setMany,u5,u6,D.cells,Nat.reduceAdd,av] at hH;refine qm ?_;refine qe hK ?_;refine qq ?_;refine qj fun K hK=>?_;refine qp (o:=0) ?_;refine ql hH aC ?_;refine ab.zW (t1:=0) (t2:=0) rfl (ev rfl) (ev rfl) (by dsimp only[Fr.put,u1,u2]<;>rfl) ?_;refine qp (o:=1) ?_;refine ql hH aC ?_;refine ab.En (t1:=0) (t2:=0) rfl (ev rfl) (ev rfl) (by dsimp only[Fr.put,u1,u2]<;>rfl) ?_;refine qp (o:=0) ?_;refine qT hH aC fun st hH=>?_;dsimp only[u2,u1,u3,u4,setMany,u5,u6,D.cells,Nat.reduceAdd,av] at hH;refine qp (o:=1) ?_;refine qT hH aC fun st hH=>?_;dsimp only[u2,u1,u3,u4,setMany,u5,u6,D.cells,Nat.reduceAdd,av] at hH;refine qe hK ?_;generalize rZ:max q.1 0=lo at*;generalize tf:min q.2 1114111=hi at*;refine qq ?_;refine qj fun K hK=>?_;refine qm ?_;refine qe hK ?_;have hH:=hH.hQ 2;refine qq ?_;refine qq ?_;refine qj fun K hK=>?_;refine qg ?_;refine qg ?_;refine qh (s:=2) (vs:=[_,_]) hH fun Le st Od hH=>?_;dsimp only[u2,u1,u3,u4,setMany,u5,u6,D.cells,Nat.reduceAdd,av] at hH;refine qn ?_ (hR:=hH.rows aC);simp only[List.length_map,List.length_cons,List.length_nil];refine qm ?_;refine qe hK ?_;refine af.block ?_;refine af.loop (fun mm fr st=>∃(i:Nat) (x:D),fr.clean=⟨20,[.agg (av q),.ptr k1 0 0,.nul,x,aI fr 4,aI fr 5,aI fr 6,aI fr 7,aI fr 8,aI fr 9,aI fr 10,aI fr 11,aI fr 12,aI fr 13,aI fr 14,aI fr 15,aI fr 16,.win Le 0 0 2 2,.int .i64 2,.int .i64 (i:Nat)],[]⟩∧Has s0.bs.length S st [.aO (.win Le 0 0 2 2) 2 (da.map av),.aO x 2 (((da.take i).flatMap (lV lo hi)).map av),.box k1 (.mem 0 false [.int .i32 lo,.int .i32 hi])]∧(i+mm=2)∧(((da.take i).flatMap (lV lo hi)).length≤i)) (2) ?_ ?_
 ·exact⟨0,.nul,rfl,hH,by omega,by simp⟩
 rintro mm fr st ⟨i,x,hfr,hH,hij,hb⟩;rw[hfr];clear hfr;generalize aI fr=ee;clear fr;refine qq ?_;refine qj fun K hK=>?_;refine qg ?_;refine qe hK ?_;refine qq ?_;refine af.cond (by rfl) (fun h1=>?_) (fun h1=>?_)<;>try simp only[decide_eq_true_eq,decide_eq_false_iff_not] at h1
 ·refine af.skip ?_
  obtain⟨p,hp⟩:∃p,da[i]?=some p:=⟨da[i]'(by simp[da];omega),List.getElem?_eq_getElem _⟩
  have hr:=cv hp;refine qq ?_;refine af.block ?_;refine qq ?_;refine qj fun K hK=>?_;refine qi hH aC fun Ik EU=>?_;refine ab.nd hH rfl (ev rfl) (by assumption) (by exact aC) (by assumption) rfl (ag rfl _) ?_;refine qa hH fun k5 st vN hH=>?_;refine qS hH aC fun st hH=>?_;dsimp only[u2,u1,u3,u4,setMany,u5,u6,D.cells,Nat.reduceAdd,av] at hH;refine qe hK ?_;refine qq ?_;refine qj fun K hK=>?_;refine qp (o:=0) ?_;refine ql hH ef ?_;refine qp (o:=0) ?_;refine ql hH aC ?_;refine ab.zW (t1:=0) (t2:=0) rfl (ev rfl) (ev rfl) (ag rfl _) ?_;refine qp (o:=1) ?_;refine ql hH ef ?_;refine qp (o:=1) ?_;refine ql hH aC ?_;refine ab.En (t1:=0) (t2:=0) rfl (ev rfl) (ev rfl) (ag rfl _) ?_;refine qg ?_;refine qa hH fun k6 st HR hH=>?_;refine qS hH aC fun st hH=>?_;dsimp only[u2,u1,u3,u4,setMany,u5,u6,D.cells,Nat.reduceAdd,av] at hH;refine qe hK ?_;refine qq ?_;refine qj fun K hK=>?_;refine qp (o:=0) ?_;refine ql hH aC ?_;refine qp (o:=1) ?_;refine ql hH aC ?_;refine qg ?_;refine qe hK ?_;refine af.cond (by rfl) (fun h2=>?_) (fun h2=>?_)<;>try simp only[decide_eq_true_eq,decide_eq_false_iff_not] at h2
  ·refine qj fun K hK=>?_;refine qm ?_;refine ab.aE (m:=2) hH rfl (ev rfl) (by exact aC) (by dsimp only[List.drop_succ_cons,List.drop_zero,List.take_succ_cons,List.take_zero,av]<;>rfl) rfl rfl (ag rfl _) ?_;refine qh (s:=2) (vs:=[_]) hH fun P5 st N6 hH=>?_;refine ab.bk (s:=2) hH rfl (ev rfl) (ev rfl) (by exact j8) (by exact hH.rows (by exact aC)) rfl rfl rfl rfl rfl rfl rfl ⟨(Nat.le_of_ble_eq_true rfl),(Nat.le_of_ble_eq_true rfl)⟩ (fun _=>(ag rfl _)) (by simp only[List.length_cons,List.length_nil,List.length_map]<;>omega) (by exact .inl hF) (fun Mb st hH=>?_);dsimp only[u2,u1,u3,u4,setMany,u5,u6,D.cells,Nat.reduceAdd,av] at hH;refine qm ?_;refine qe hK ?_;refine qj fun K hK=>?_;refine qA ?_;refine qm ?_;refine qe hK ?_
   have h3:(da.take (i+1)).flatMap (lV lo hi)=(da.take i).flatMap (lV lo hi)++[(max lo p.1,min hi p.2)]:=by
    rw[List.take_add_one,hp,List.flatMap_append];simp[lV,h2]
   exact⟨mm-1,by omega,⟨i+1,Mb,rfl,(by rw[h3,List.map_append];exact hH.drop 3),by omega,by rw[h3];simp only[List.length_append,List.length_cons,List.length_nil];omega⟩⟩
  ·refine af.skip ?_;refine qj fun K hK=>?_;refine qA ?_;refine qm ?_;refine qe hK ?_
   have h3:(da.take (i+1)).flatMap (lV lo hi)=(da.take i).flatMap (lV lo hi):=by
    rw[List.take_add_one,hp,List.flatMap_append];simp[lV,h2]
   exact⟨mm-1,by omega,⟨i+1,x,rfl,(by rw[h3];exact hH.drop 2),by omega,by rw[h3];omega⟩⟩
 ·refine af.exit ?_;refine qq ?_;refine qj fun K hK=>?_;refine qm ?_;refine qm ?_;refine qe hK ?_;rw[←fw];have h3:da.take i=da:=List.take_of_length_le (by simp[da];omega);rw[h3] at hH;refine af.ret ⟨rx,_,rfl,rl bE hH ?_⟩;refine Eq.trans (hH.freeze a6 (dp _) (n:=15) (by decide)) ?_;rw[mX,rZ,tf]
theorem sN (q x:Rg) (h:x∈ch q):0≤x.1∧x.1≤1114111:=by
 obtain⟨h1,h2,h3⟩:=jk q x h;omega
theorem kI (q:Rg):(ch q).length≤2:=by
 unfold ch;split<;>split<;>simp
theorem gq (l:List Rg):(l.flatMap ch).length≤2*l.length:=by
 induction l with
 |nil=>simp
 |cons x l ih=>simp only[List.flatMap_cons,List.length_append,List.length_cons];have:=kI x;omega
theorem l4:∀{l:List Rg},(∀x∈l,0≤x.1∧x.1≤1114111)→∃m:List Rs,c8 m=(l.map av).flatten∧m.map (fun x=>(x.lo,x.hi))=l
 |[],_=>⟨[],rfl,rfl⟩
 |x::l,h=>by
  obtain⟨m,h1,h2⟩:=l4 (l:=l) fun y hy=>h y (List.mem_cons_of_mem _ hy);obtain⟨h3,h4⟩:=h x (List.mem_cons_self ..);exact⟨⟨x.1,x.2,h3,h4⟩::m,by simp only[c8,h1,List.map_cons,List.flatten_cons,av,List.cons_append,List.nil_append],by simp[h2]⟩
theorem rb (m:List Rs):c8 m=((m.map fun x=>((x.lo,x.hi):Rg)).map av).flatten:=by
 induction m with
 |nil=>rfl
 |cons x m ih=>simp only[c8,ih,List.map_cons,List.flatten_cons,av,List.cons_append,List.nil_append]
theorem uX {N:Nat} {S st:St} {H:List bB} {j:Nat} {x:D} {l:List Rg} (hH:Has N S st H) (hj:H[j]?=some (.aO x 2 (l.map av))) (h0:l=[]→x=.nul) (hl:l.length≤1073741824) (hr:∀y∈l,0≤y.1∧y.1≤1114111):
  ∃(ae:St) (l':List Rg),Ev pv 94 [x,.fn 95 []] st (.tup []) ae∧Has N S ae (H.set j (.aO x 2 (l'.map av)))∧l'.Perm l∧l'.Pairwise fun a b=>a.1≤b.1:=by
 obtain⟨m,h1,h2⟩:=l4 hr;obtain⟨h3,h4⟩:=srt_facts m;have FI:m.length=l.length:=by rw[←h2];simp
 have hperm:((srt m).map fun x=>((x.lo,x.hi):Rg)).Perm l:=by rw[←h2];exact h3.map _
 have j3:((srt m).map fun x=>((x.lo,x.hi):Rg)).Pairwise fun a b=>a.1≤b.1:=by rw[List.pairwise_map];exact h4
 have hlen:(srt m).length=l.length:=h3.length_eq.trans FI;have hown:=hH.own hj;generalize tg:l.map av=es at*;have pf:es.length=l.length:=by rw[←tg];simp
 cases hown with
 |nul=>
  have G5:l=[]:=by cases l with|nil=>rfl|cons _ _=>simp at pf
  refine⟨st,(srt m).map fun x=>(x.lo,x.hi),Ev.fx rfl rfl,?_,hperm,j3⟩
  have:(srt m).map (fun x=>((x.lo,x.hi):Rg))=[]:=by
   cases hs:srt m with
   |nil=>rfl
   |cons a b=>rw[hs,G5] at hlen;simp at hlen
  rw[this];exact hH.vF hj (fun _ _ _=>rfl) (Nat.le_refl _) rfl rfl .nul (fun k hk=>.inl hk) fun k hk=>by simp only[bB.aO,D.ref] at hk;omega
 |win k aj off es c hm hle hc he=>
  have hne:l≠[]:=fun e=>by have:=h0 e;cases this
  have pb:1≤l.length:=by cases l with|nil=>exact absurd rfl hne|cons _ _=>simp
  have hk:=(hH.ok j _ hj).2 k (by simp only[bB.aO,D.ref]);have JE:(c8 (srt m)).length=es.length*2:=by rw[iQ,hlen,pf];omega
  have hwr:st.wr k aj off (c8 (srt m))=some ⟨st.bs.set k (.mem aj true (c.take off++c8 (srt m)++c.drop (off+(c8 (srt m)).length))),st.flr,st.ro⟩:=
   jd hm (by omega) (gx hH hk.1 (.inr (mK _)))
  refine⟨⟨st.bs.set k (.mem aj true (c.take off++c8 (srt m)++c.drop (off+(c8 (srt m)).length))),st.flr,st.ro⟩,(srt m).map fun x=>(x.lo,x.hi),Ev.fx rfl ?_,?_,hperm,j3⟩
  ·show sH [.win k aj off es.length 2,.fn 95 []] st=_;have Hl:(c.drop off).take (2*es.length)=c8 m:=by rw[Nat.mul_comm,hc,h1]
   simp only[sH,St.mem_of hm,Hl,rL,Bd];rw[decide_eq_true (⟨by rw[FI,pf],by omega,by omega⟩:m.length=es.length∧1≤es.length∧es.length<1099511627776)];simp only[hwr]
  ·refine hH.vF hj (fun n hn hne=>?_) (by simp) rfl rfl ?_ (fun n hn=>.inl hn) fun n hn=>?_
   ·simp only;rw[List.getElem?_set_ne (fun e=>hne (by simp only[bB.aO,D.ref];omega))]
   ·have h9:=ei.win (st:=⟨st.bs.set k (.mem aj true (c.take off++c8 (srt m)++c.drop (off+(c8 (srt m)).length))),st.flr,st.ro⟩) (s:=2) k aj off (((srt m).map fun x=>((x.lo,x.hi):Rg)).map av) (c.take off++c8 (srt m)++c.drop (off+(c8 (srt m)).length))
     (by simp only;rw[List.getElem?_set_self hk.2]) (by simp only[List.length_append,List.length_take,List.length_map,List.length_drop,JE];omega) ?_ (jo _)
    ·simp only[List.length_map,hlen] at h9;rw[pf];exact h9
    ·have Jc:(c.take off).length=off:=by simp;omega
     rw[List.append_assoc,List.drop_left' Jc,←rb,List.take_left' (by simp only[List.length_map,hlen];omega)]
   ·simp only[bB.aO,D.ref] at hn;simp only[List.length_set];omega
theorem oZ (l:List Rg):(l.foldl cg []).length≤l.length:=by
 have key:∀(l acc:List Rg),(l.foldl cg acc).length≤acc.length+l.length:=by
  intro l
  induction l with
  |nil=>intro acc;simp
  |cons x l ih=>
   intro acc;simp only[List.foldl_cons,List.length_cons];have:=ih (cg acc x)
   have h2:(cg acc x).length≤acc.length+1:=by
    unfold cg;split
    ·simp
    ·split<;>simp
   omega
 have:=key l []
 simpa using this
theorem z7 {l:List Rg} (h:∀x∈l,0≤x.2∧x.2≤1114111):∀x∈l.foldl cg [],0≤x.2∧x.2≤1114111:=by
 have key:∀(l acc:List Rg),(∀x∈l,0≤x.2∧x.2≤1114111)→(∀x∈acc,0≤x.2∧x.2≤1114111)→∀x∈l.foldl cg acc,0≤x.2∧x.2≤1114111:=by
  intro l
  induction l with
  |nil=>intro acc _ h x hx;exact h x hx
  |cons y l ih=>
   intro acc h1 h2;refine ih _ (fun x hx=>h1 x (List.mem_cons_of_mem _ hx)) fun x hx=>?_;have hy:=h1 y (List.mem_cons_self ..);unfold cg at hx
   split at hx
   ·simp only[List.mem_cons,List.not_mem_nil,or_false] at hx;rw[hx];exact hy
   ·rename_i k rest;have hk:=h2 k (List.mem_cons_self ..)
    split at hx
    ·rcases List.mem_cons.1 hx with rfl|hx
     ·simp only;omega
     ·exact h2 x (List.mem_cons_of_mem _ hx)
    ·rcases List.mem_cons.1 hx with rfl|hx
     ·exact hy
     ·exact h2 x hx
 exact key l [] h (fun x hx=>by cases hx)
theorem oY (h:Rg) (t:List Rg):((h::t).reverse.map av)[t.length]?=some (av h):=by
 rw[List.getElem?_map,List.reverse_cons,List.getElem?_append_right (by simp)];simp
theorem oX (h h':Rg) (t:List Rg):((h::t).reverse.map av).set t.length (av h')=(h'::t).reverse.map av:=by
 rw[List.reverse_cons,List.map_append,List.set_append_right _ _ (by simp)];simp
theorem zY {s0:St} {x:D} {l:List Rg} (hx:V.Rows s0 2 x (l.map av)) (hl:l.length≤268435456):∃d,Ev pv 84 [x] s0 d s0∧∃all:List Rg,d=eQ (all.foldl cg []).reverse∧all.Perm (l.flatMap ch)∧all.Pairwise fun a b=>a.1≤b.1:=by
 refine Ev.Gn rfl J3 rfl rfl rfl ?_;dsimp only[u3,u4,List.length,Nat.reduceSub,Nat.reduceAdd,w1,w2];obtain⟨bE,hF,hH⟩:=ri s0;generalize aw .ro s0=S at*;have hx:=Arg.of hx bE;have jb:=gq l
 have hfi:∀i,((l.take i).flatMap ch).length≤2*l.length:=fun i=>by
  have:=gq (l.take i);simp only[List.length_take] at this;omega
 refine qq ?_;refine qj fun K hK=>?_;refine qm ?_;refine qe hK ?_;refine qq ?_;refine qj fun K hK=>?_;refine qm ?_;refine qm ?_;refine qe hK ?_;refine qq ?_;refine qq ?_;refine qj fun K hK=>?_;refine qm ?_;refine qn ?_;simp only[List.length_map];refine qm ?_;refine qe hK ?_;have hH:=hH.hQ 2;refine af.block ?_;refine af.loop (fun mm fr st=>∃(i:Nat) (y:D),fr.clean=⟨26,[x,aI fr 1,aI fr 2,y,.nul,aI fr 5,aI fr 6,aI fr 7,aI fr 8,aI fr 9,x,.int .i64 (l.length:Nat),.int .i64 (i:Nat),aI fr 13,aI fr 14,aI fr 15,aI fr 16,aI fr 17,aI fr 18,aI fr 19,aI fr 20,aI fr 21,aI fr 22,aI fr 23,aI fr 24,aI fr 25],[]⟩∧Has s0.bs.length S st [.aO y 2 (((l.take i).flatMap ch).map av)]∧(i+mm=l.length)∧((l.take i).flatMap ch=[]→y=.nul)) (l.length) ?_ ?_
 ·exact⟨0,.nul,rfl,hH,by omega,fun _=>rfl⟩
 rintro mm fr st ⟨i,y,hfr,hH,hi,EY⟩;rw[hfr];clear hfr;generalize aI fr=ee;clear fr;refine qq ?_;refine qj fun K hK=>?_;refine qg ?_;refine qe hK ?_;have hm:=hfi i;refine qq ?_;refine af.cond (by rfl) (fun h1=>?_) (fun h1=>?_)<;>try simp only[decide_eq_true_eq,decide_eq_false_iff_not] at h1
 ·refine af.skip ?_
  obtain⟨q,hq⟩:∃q,l[i]?=some q:=⟨l[i]'(by omega),List.getElem?_eq_getElem _⟩
  have hr:=cv hq
  have qY:(l.take (i+1)).flatMap ch=(l.take i).flatMap ch++ch q:=by
   rw[List.take_add_one,hq];simp
  have Qe:=kI q;refine qq ?_;refine af.block ?_;refine qq ?_;refine qj fun K hK=>?_;refine qr fun Mv I9=>?_;refine ab.cx rfl (ev rfl) (by assumption) rfl (by dsimp only[Fr.put,u1,u2]<;>rfl) ?_;refine qa hH fun k6 st HR hH=>?_;refine qS hH aC fun st hH=>?_;dsimp only[u2,u1,u3,u4,setMany,u5,u6,D.cells,Nat.reduceAdd,av] at hH;refine qe hK ?_;refine qj fun K hK=>?_;refine qm ?_;refine ab.aE (m:=2) hH rfl (ev rfl) (by exact aC) (by dsimp only[List.drop_succ_cons,List.drop_zero,List.take_succ_cons,List.take_zero,av]<;>rfl) rfl rfl (by dsimp only[Fr.put,u1,u2]<;>rfl) ?_;refine qv (tT q) ?_;refine ab.uZ hH rfl rfl rfl (by exact a6) (fv _ _) rfl rfl rfl rfl rfl rfl rfl ⟨(Nat.le_of_ble_eq_true rfl),(Nat.le_of_ble_eq_true rfl)⟩ (fun _=>by dsimp only[Fr.put,u1,u2]<;>rfl) (by simp only[List.length_map];omega) (.inl hF) (fun HE st GV hH=>?_);dsimp only[u2,u1] at hH;refine qm ?_;refine qe hK ?_;refine qj fun K hK=>?_;refine qA ?_;refine qm ?_;refine qe hK ?_;exact⟨mm-1,by omega,⟨i+1,HE,rfl,(by rw[qY,List.map_append];exact hH.drop 1),by omega,by rw[qY];intro h;obtain⟨h3,h4⟩:=List.append_eq_nil_iff.1 h;rw[GV (by rw[h4];rfl)];exact EY h3⟩⟩
 ·refine af.exit ?_;have hT:l.take i=l:=List.take_of_length_le (by omega);rw[hT] at hH EY hm
  obtain⟨st2,all,b4,HY,hperm,j3⟩:=uX hH aC EY (by omega) (fun z hz=>by
   obtain⟨w,_,hw⟩:=List.mem_flatMap.1 hz
   exact sN w z hw)
  have hlen:=hperm.length_eq
  have hbd:∀z∈all,0≤z.2∧z.2≤1114111:=fun z hz=>by
   obtain⟨w,_,hw⟩:=List.mem_flatMap.1 (hperm.mem_iff.1 hz);have:=jk w z hw;omega
  refine qq ?_;refine qj fun K hK=>?_;refine qm ?_;refine qv (b4) ?_;refine qe hK ?_;have hH:=HY;dsimp only[u2] at hH;clear HY b4;have hR:=hH.rows aC;have hH:=hH.hQ 2;refine qq ?_;refine qq ?_;refine qj fun K hK=>?_;refine qm ?_;refine qn ?_ (hR:=hH.rows a6);simp only[List.length_map];refine qm ?_;refine qe hK ?_;refine af.block ?_;refine af.loop (fun mm fr st=>∃(i:Nat) (z:D),fr.clean=⟨26,[x,aI fr 1,aI fr 2,y,z,aI fr 5,aI fr 6,aI fr 7,aI fr 8,aI fr 9,aI fr 10,aI fr 11,aI fr 12,aI fr 13,aI fr 14,aI fr 15,aI fr 16,aI fr 17,aI fr 18,aI fr 19,aI fr 20,aI fr 21,aI fr 22,y,.int .i64 (all.length:Nat),.int .i64 (i:Nat)],[]⟩∧Has s0.bs.length S st [.aO z 2 (((all.take i).foldl cg []).reverse.map av),.aO y 2 (all.map av)]∧(i+mm=all.length)) (all.length) ?_ ?_
  ·exact⟨0,.nul,rfl,hH,by omega⟩
  rintro mm fr st ⟨i,z,hfr,hH,hi⟩;rw[hfr];clear hfr;generalize aI fr=ee;clear fr;refine qq ?_;refine qj fun K hK=>?_;refine qg ?_;refine qe hK ?_
  have gp:((all.take i).foldl cg []).length≤all.length:=by
   have:=oZ (all.take i);simp only[List.length_take] at this;omega
  refine qq ?_;refine af.cond (by rfl) (fun h1=>?_) (fun h1=>?_)<;>try simp only[decide_eq_true_eq,decide_eq_false_iff_not] at h1
  ·refine af.skip ?_
   obtain⟨q,hq⟩:∃q,all[i]?=some q:=⟨all[i]'(by omega),List.getElem?_eq_getElem _⟩
   have hr:=cv hq
   have Ju:(all.take (i+1)).foldl cg []=cg ((all.take i).foldl cg []) q:=by
    rw[List.take_add_one,hq,List.foldl_append];rfl
   generalize JP:(all.take i).foldl cg []=acc at*;refine qq ?_;refine af.block ?_;refine qq ?_;refine qj fun K hK=>?_;refine qi hH a6 fun K_ GP=>?_;refine ab.nd hH rfl (ev rfl) (by assumption) (by exact a6) (by assumption) rfl (ag rfl _) ?_;refine qa hH fun k8 st G7 hH=>?_;refine qS hH aC fun st hH=>?_;dsimp only[u2,u1,u3,u4,setMany,u5,u6,D.cells,Nat.reduceAdd,av] at hH;refine qe hK ?_
   rcases acc with _|⟨h,t⟩
   ·refine qq ?_;refine qj fun K hK=>?_;refine qm ?_;refine qn ?_ (hR:=hH.rows a6);simp only[List.length_map,List.length_nil,List.length_reverse];refine ab.j9 (z:=(-1)) rfl (ev rfl) (ev rfl) (by(try simp only[List.length_reverse,List.length_cons,List.length_nil,List.length_append,List.length_map,List.length_set]);rw[wrap_i64 (by omega) (by omega)]<;>omega) (ag rfl _) ?_;refine qm ?_;refine qe hK ?_;have ba:decide ((-1:Int)≥0)=false:=by decide
    refine qq ?_;refine af.dh 44 (.bool false) [] ?_ (fun ff tmp dg=>?_)
    ·refine qm ?_;refine qg ?_;refine qm ?_;refine qs ?_ (hg:=wn ba);refine qs ?_ (hg:=wn ba);refine qs ?_ (hg:=wn ba);refine qs ?_ (hg:=wn ba);refine qs ?_ (hg:=wn ba);refine qs ?_ (hg:=wn ba);refine qs ?_ (hg:=wn ba);refine qs ?_ (hg:=wn ba);refine qs ?_ (hg:=wn ba);refine qu ba ?_;refine ab.nil (aR ?_ ?_)
     ·dsimp only[aD,List.foldl,nth,u2,u1]
      all_goals(first|rfl|simp)
     ·dsimp only[Fr.aH,Fr.put,Fr.clean,Fr.ev,Fr.get,nth,look,u1,u2,v1,v2,v4]
      all_goals(first|rfl|(simp[ba];done)|(simp_all;done)|(simp[ba];omega)|(simp_all;omega))
    dsimp only[aD,List.foldl,nth,u2,u1];dsimp only[Fr.aH,Fr.put,Fr.clean,Fr.ev,Fr.get,nth,look,u1,u2,v1,v2,v4];refine qC ?_;refine qj fun K hK=>?_;refine qm ?_;refine ab.aE (m:=2) hH rfl (ev rfl) (by exact aC) (by dsimp only[List.drop_succ_cons,List.drop_zero,List.take_succ_cons,List.take_zero,av]<;>rfl) rfl rfl (ag rfl _) ?_;refine qh (s:=2) (vs:=[_]) hH fun MI st Jn hH=>?_;refine ab.bk (s:=2) hH rfl (ev rfl) (ev rfl) (by exact dI) (by exact hH.rows (by exact aC)) rfl rfl rfl rfl rfl rfl rfl ⟨(Nat.le_of_ble_eq_true rfl),(Nat.le_of_ble_eq_true rfl)⟩ (fun _=>(ag rfl _)) (by simp only[List.length_cons,List.length_nil,List.length_map,List.length_reverse]<;>omega) (by exact .inl hF) (fun H3 st hH=>?_);dsimp only[u2,u1,u3,u4,setMany,u5,u6,D.cells,Nat.reduceAdd,av] at hH;refine qm ?_;refine qe hK ?_;refine qj fun K hK=>?_;refine qA ?_;refine qm ?_;refine qe hK ?_;exact⟨mm-1,by omega,⟨i+1,H3,rfl,(by rw[Ju];exact hH.drop 2),by omega⟩⟩
   ·simp only[List.length_cons] at gp;refine qq ?_;refine qj fun K hK=>?_;refine qm ?_;refine qn ?_ (hR:=hH.rows a6);simp only[List.length_map,List.length_cons,List.length_reverse];refine ab.j9 (z:=((t.length:Nat):Int)) rfl (ev rfl) (ev rfl) (by(try simp only[List.length_reverse,List.length_cons,List.length_nil,List.length_append,List.length_map,List.length_set]);rw[wrap_i64 (by omega) (by omega)]<;>omega) (ag rfl _) ?_;refine qm ?_;refine qe hK ?_;have r6:=oY h t;have ic:=oX h (h.1,max h.2 q.2) t;have tf:=z7 (l:=all.take i) (fun x hx=>hbd x (List.mem_of_mem_take hx)) h (by rw[JP];exact List.mem_cons_self ..);have ba:decide (((t.length:Nat):Int)≥0)=true:=by rw[decide_eq_true];omega
    refine qq ?_;refine af.dh 44 (.bool (decide (q.1≤h.2+1))) [] ?_ (fun ff tmp dg=>?_)
    ·refine qm ?_;refine qg ?_;refine qm ?_;refine qp (o:=0) ?_ (hg:=wi ba);refine ql hH aC ?_ (hg:=wi ba);refine qm ?_ (hg:=wi ba);refine qm ?_ (hg:=wi ba);refine qi hH a6 (fun K7 GM=>?_) (hg:=wi ba);refine ab.fF (fo:=1) (m:=0) (o2:=1) (aM rfl rfl rfl ba) (ev rfl) (by assumption) rfl rfl rfl (fun _=>(ag rfl _)) (fun PH NC=>?_);refine qo hH a6 ?_ (hg:=wi ba);refine ab.rz (aM rfl rfl rfl ba) (ev rfl) (ev rfl) (by omega) (by omega) (ag rfl _) ?_;refine qg ?_ (hg:=wi ba);refine qt ba ?_;refine ab.nil (aR ?_ ?_)
     ·dsimp only[aD,List.foldl,nth,u2,u1]
      all_goals(first|rfl|simp)
     ·dsimp only[Fr.aH,Fr.put,Fr.clean,Fr.ev,Fr.get,nth,look,u1,u2,v1,v2,v4]
      all_goals(first|rfl|(simp[ba];done)|(simp_all;done)|(simp[ba];omega)|(simp_all;omega))
    dsimp only[aD,List.foldl,nth,u2,u1];dsimp only[Fr.aH,Fr.put,Fr.clean,Fr.ev,Fr.get,nth,look,u1,u2,v1,v2,v4];refine af.cond (by assumption) (fun h2=>?_) (fun h2=>?_)<;>try simp only[decide_eq_true_eq,decide_eq_false_iff_not] at h2
    ·refine qj fun K hK=>?_;refine qm ?_;refine qm ?_;refine qm ?_;refine qm ?_;refine qi hH a6 fun Mo I2=>?_;refine ab.fF (fo:=1) (m:=0) (o2:=1) rfl (ev rfl) (by assumption) rfl rfl rfl (fun _=>(ag rfl _)) (fun K5 GK=>?_);refine qo hH a6 ?_;refine qp (o:=1) ?_;refine ql hH aC ?_;refine ab.zW (t1:=0) (t2:=0) rfl (ev rfl) (ev rfl) (ag rfl _) ?_;refine qi hH a6 fun K4 GJ=>?_;refine ab.fF (fo:=1) (m:=0) (o2:=1) rfl (ev rfl) (by assumption) rfl rfl rfl (fun _=>(ag rfl _)) (fun K3 GI=>?_);refine ab.fz hH rfl (ev rfl) (ev rfl) (by assumption) rfl rfl (by exact a6) (by assumption) (Nat.le_of_ble_eq_true rfl) (by exact .inl hF) (fun st hH=>?_);dsimp only[u2,u1,u3,u4,setMany,u5,u6,D.cells,Nat.reduceAdd,av] at hH;refine qe hK ?_;refine qj fun K hK=>?_;refine qA ?_;refine qm ?_;refine qe hK ?_;exact⟨mm-1,by omega,⟨i+1,z,rfl,(by rw[Ju];simp only[cg,if_pos h2];rw[←ic];exact hH.drop 1),by omega⟩⟩
    ·refine qj fun K hK=>?_;refine qm ?_;refine ab.aE (m:=2) hH rfl (ev rfl) (by exact aC) (by dsimp only[List.drop_succ_cons,List.drop_zero,List.take_succ_cons,List.take_zero,av]<;>rfl) rfl rfl (ag rfl _) ?_;refine qh (s:=2) (vs:=[_]) hH fun MI st Jn hH=>?_;refine ab.bk (s:=2) hH rfl (ev rfl) (ev rfl) (by exact dI) (by exact hH.rows (by exact aC)) rfl rfl rfl rfl rfl rfl rfl ⟨(Nat.le_of_ble_eq_true rfl),(Nat.le_of_ble_eq_true rfl)⟩ (fun _=>(ag rfl _)) (by simp only[List.length_cons,List.length_nil,List.length_map,List.length_reverse]<;>omega) (by exact .inl hF) (fun H3 st hH=>?_);dsimp only[u2,u1,u3,u4,setMany,u5,u6,D.cells,Nat.reduceAdd,av] at hH;refine qm ?_;refine qe hK ?_;refine qj fun K hK=>?_;refine qA ?_;refine qm ?_;refine qe hK ?_;exact⟨mm-1,by omega,⟨i+1,H3,rfl,(by rw[Ju];simp only[cg,if_neg h2];rw[List.reverse_cons (a:=q),List.map_append];exact hH.drop 2),by omega⟩⟩
  ·refine af.exit ?_;refine qq ?_;refine qj fun K hK=>?_;refine qm ?_;refine qm ?_;refine qe hK ?_;rw[List.take_of_length_le (by omega)] at hH;refine af.ret ⟨rx,_,_,rfl,rl bE hH ((hH.freeze aC (dp _) (n:=15) (by decide))),?_⟩;exact⟨all,by rw[fw],hperm,j3⟩
def bM (fr:Go.V.Fr) (k:Nat):Go.V.D:=Go.V.nth .aZ fr.loc k
def b3 (r:Int):List D:=[.int .i32 r]
def mW (l:List Int):D:=.sl ((l.map b3).map (ir 1))
theorem kJ (l:List Int):∀e∈l.map b3,∀d∈e,bQ d=true:=by
 intro e he d hd;obtain⟨x,_,rfl⟩:=List.mem_map.1 he;simp only[b3,List.mem_cons,List.not_mem_nil,or_false] at hd;subst hd;rfl
theorem tU (l:List Int):∀e∈l.map b3,e.length=1:=by
 intro e he;obtain⟨x,_,rfl⟩:=List.mem_map.1 he;rfl
theorem ow (st:St) (l:List Int):V.Rows st 1 (mW l) (l.map b3):=Rows.oP (tU l) (kJ l)
theorem ox {l:List Int} {i:Nat} {q:Int} (h:l[i]?=some q):(l.map b3)[i]?=some (b3 q):=by rw[List.getElem?_map,h];rfl
def db (l:List Rg):List Int:=[0,55296,57344,1114112]++l.flatMap et
theorem vc (x:Rg):(et x).length≤2:=by
 unfold et;split<;>split<;>simp
theorem jH (l:List Rg):(l.flatMap et).length≤2*l.length:=by
 induction l with
 |nil=>simp
 |cons x l ih=>simp only[List.flatMap_cons,List.length_append,List.length_cons];have:=vc x;omega
def dB (m:List Int) (i k:Nat):Prop:=∀a b,a<b→b≤i→b≠k→m.getD a 0≤m.getD b 0
theorem iO (m:List Int) (k:Nat) (v:Int) (hk:k<m.length) (a:Nat):(m.set k v).getD a 0=if a=k then v else m.getD a 0:=by
 simp only[List.getD_eq_getElem?_getD]
 by_cases h:a=k
 ·subst h;rw[List.getElem?_set_self hk,if_pos rfl];rfl
 ·rw[List.getElem?_set_ne (fun e=>h e.symm),if_neg h]
theorem oh {m:List Int} {i k:Nat} (hk:k+1≤i) (hi:i<m.length) (h:dB m i (k+1)) (Jy:m.getD k 0>m.getD (k+1) 0):dB ((m.set k (m.getD (k+1) 0)).set (k+1) (m.getD k 0)) i k:=by
 intro a b hab Hn hbk;have hl:(m.set k (m.getD (k+1) 0)).length=m.length:=List.length_set ..;rw[iO _ _ _ (by rw[hl];omega),iO _ _ _ (by omega),iO _ _ _ (by rw[hl];omega),iO _ _ _ (by omega)]
 by_cases h1:b=k+1
 ·rw[if_pos h1,if_neg (by omega)]
  by_cases h2:a=k
  ·rw[if_pos h2];omega
  ·rw[if_neg h2];exact h a k (by omega) (by omega) (by omega)
 ·rw[if_neg h1,if_neg hbk]
  by_cases h2:a=k+1
  ·rw[if_pos h2];exact h k b (by omega) Hn h1
  ·rw[if_neg h2]
   by_cases h3:a=k
   ·rw[if_pos h3];exact h (k+1) b (by omega) Hn h1
   ·rw[if_neg h3];exact h a b hab Hn h1
theorem jS {m:List Int} {i k:Nat} (h:dB m i k) (hx:k=0∨m.getD (k-1) 0≤m.getD k 0) (j:Nat):dB m i j:=by
 intro a b hab Hn _
 by_cases hb:b=k
 ·subst hb;have hx:=hx.resolve_left (by omega)
  by_cases ha:a=b-1
  ·rw[ha];exact hx
  ·exact Int.le_trans (h a (b-1) (by omega) (by omega) (by omega)) hx
 ·exact h a b hab Hn hb
theorem swap_perm {m:List Int} {k:Nat} (hk:k+1<m.length):((m.set k (m.getD (k+1) 0)).set (k+1) (m.getD k 0)).Perm m:=by
 have h0:m=m.take k++(m.getD k 0::m.getD (k+1) 0::m.drop (k+2)):=by
  have e1:m.drop k=m.getD k 0::m.drop (k+1):=by rw[List.drop_eq_getElem_cons (by omega)];simp[List.getD_eq_getElem?_getD,List.getElem?_eq_getElem (show k<m.length by omega)]
  have e2:m.drop (k+1)=m.getD (k+1) 0::m.drop (k+2):=by rw[List.drop_eq_getElem_cons (by omega)];simp[List.getD_eq_getElem?_getD,List.getElem?_eq_getElem hk]
  rw[←e2,←e1,List.take_append_drop]
 have hlen:(m.take k).length=k:=by simp;omega
 generalize m.getD k 0=x at*;generalize m.getD (k+1) 0=y at*;generalize m.take k=l1 at*;generalize m.drop (k+2)=l2 at*;subst h0;rw[List.set_append_right _ _ (by omega),List.set_append_right _ _ (by omega),hlen,Nat.sub_self,Nat.add_sub_cancel_left];exact(List.Perm.swap x y l2).append_left l1
theorem oi {m : List Int} {i : Nat} (h : dB m i (i + 1)) (hi : i + 1 ≥ m.length) : m.Pairwise (· ≤ ·) := by
 rw [List.pairwise_iff_getElem];intro a b ha hb hab;have := h a b hab (by omega) (by omega)
 simpa [List.getD_eq_getElem?_getD, List.getElem?_eq_getElem ha, List.getElem?_eq_getElem hb] using this
theorem uD {s0 : St} {x : D} {l : List Rg} (hx : V.Rows s0 2 x (l.map av)) (hl : l.length ≤ 268435456) : ∃ d, Ev pv 87 [x] s0 d s0 ∧ ∃ m : List Int, d = mW m ∧ m.Perm (db l) ∧ m.Pairwise (· ≤ ·) := by
 refine Ev.Gn rfl J2 rfl rfl rfl ?_;dsimp only [u3, u4, List.length, Nat.reduceSub, Nat.reduceAdd, w1, w2];obtain ⟨bE, hF, hH⟩ := ri s0;generalize aw .ro s0 = S at *;have hx := Arg.of hx bE;refine qq ?_;refine qj fun K hK => ?_;refine qm ?_;refine qe hK ?_;refine qq ?_;refine qj fun K hK => ?_;refine qh (s := 1) (vs := [_, _, _, _]) hH fun k7 st FK hH => ?_;refine qm ?_;refine qe hK ?_;refine qq ?_;refine qq ?_;refine qj fun K hK => ?_;refine qm ?_;refine qe hK ?_;have jb := jH l;have h0 : db (l.take 0) = [0, 55296, 57344, 1114112] := rfl
 have FI : ∀ i, (db (l.take i)).length ≤ 4 + 2 * l.length := by
  intro i;have := jH (l.take i);simp only [db, List.length_append, List.length_cons, List.length_nil, List.length_take] at *;omega
 refine af.block ?_;refine af.loop (fun mm fr st => ∃ (i : Nat) (y : D), fr.clean = ⟨7, [x, bM fr 1, bM fr 2, y, .int .i64 (i : Nat), bM fr 5, bM fr 6], []⟩ ∧ Has s0.bs.length S st [.aO y 1 ((db (l.take i)).map b3)] ∧ (i + mm = l.length)) (l.length) ?_ ?_
 ·exact ⟨0, _, rfl, hH, by omega⟩
 rintro mm fr st ⟨i, y, hfr, hH, hi⟩;rw [hfr];clear hfr;generalize bM fr = ee;clear fr;refine qq ?_;refine qq ?_;refine qj fun K hK => ?_;refine qm ?_;refine qm ?_;refine qn ?_;simp only [List.length_map];refine qg ?_;refine qe hK ?_;refine af.cond (by rfl) (fun h1 => ?_) (fun h1 => ?_) <;> try simp only [decide_eq_true_eq, decide_eq_false_iff_not] at h1
 ·refine af.skip ?_
  obtain ⟨q, hq⟩ : ∃ q, l[i]? = some q := ⟨l[i]'(by omega), List.getElem?_eq_getElem _⟩
  have hr := cv hq;have hm := FI i
  have qY : db (l.take (i + 1)) = db (l.take i) ++ et q := by
   rw [List.take_add_one, hq]; simp [db]
  refine qq ?_;refine af.block ?_;refine qq ?_;refine qq ?_;refine af.dh 40 (.bool (decide (q.1 ≤ q.2) && decide (q.1 ≥ 0) && decide (q.1 ≤ 1114111))) [] ?_ (fun ff tmp dg => ?_)
  ·refine qm ?_;refine qm ?_;refine qr fun Lb GS => ?_;refine qf (fo := 0) fun Mu I8 => ?_;refine qR ?_;refine qm ?_;refine qm ?_;refine qr fun Ik EU => ?_;refine qf (fo := 1) fun Ij ET => ?_;refine qR ?_;refine qg ?_;refine qm ?_;refine ab.two 25 rfl (fun bn => ?_) (fun bn => ?_)
   ·refine qm ?_ (hg := wi bn);refine qm ?_ (hg := wi bn);refine qr (fun K9 GO => ?_) (hg := wi bn);refine qf (fo := 0) (fun PN NI => ?_) (hg := wi bn);refine qR ?_ (hg := wi bn);refine qg ?_ (hg := wi bn);refine qt bn ?_;refine qm ?_;refine ab.two 33 rfl (fun cK => ?_) (fun cK => ?_)
    ·refine qm ?_ (hg := wi cK);refine qm ?_ (hg := wi cK);refine qr (fun Ii ES => ?_) (hg := wi cK);refine qf (fo := 0) (fun Ih ER => ?_) (hg := wi cK);refine qR ?_ (hg := wi cK);refine qg ?_ (hg := wi cK);refine qt cK ?_;refine ab.nil (aR ?_ ?_)
     ·dsimp only [aD, List.foldl, nth, u2, u1]
      all_goals (first | rfl | simp)
     ·dsimp only [Fr.aH, Fr.put, Fr.clean, Fr.ev, Fr.get, nth, V.look, u1, u2, v1, v2, v3, v4, v5, v6, v7, List.length, u3, u4, Nat.reduceSub, Nat.reduceAdd, List.map]
      all_goals (simp [bn, cK]; done)
    ·refine qs ?_ (hg := wn cK);refine qs ?_ (hg := wn cK);refine qs ?_ (hg := wn cK);refine qs ?_ (hg := wn cK);refine qs ?_ (hg := wn cK);refine qs ?_ (hg := wn cK);refine qu cK ?_;refine ab.nil (aR ?_ ?_)
     ·dsimp only [aD, List.foldl, nth, u2, u1]
      all_goals (first | rfl | simp)
     ·dsimp only [Fr.aH, Fr.put, Fr.clean, Fr.ev, Fr.get, nth, V.look, u1, u2, v1, v2, v3, v4, v5, v6, v7, List.length, u3, u4, Nat.reduceSub, Nat.reduceAdd, List.map]
      all_goals (simp [bn, cK]; done)
   ·refine qs ?_ (hg := wn bn);refine qs ?_ (hg := wn bn);refine qs ?_ (hg := wn bn);refine qs ?_ (hg := wn bn);refine qs ?_ (hg := wn bn);refine qs ?_ (hg := wn bn);refine qu bn ?_;refine qm ?_;refine qs ?_;refine qs ?_;refine qs ?_;refine qs ?_;refine qs ?_;refine qs ?_;refine qg ?_;refine ab.nil (aR ?_ ?_)
    ·dsimp only [aD, List.foldl, nth, u2, u1]
     all_goals (first | rfl | simp)
    ·dsimp only [Fr.aH, Fr.put, Fr.clean, Fr.ev, Fr.get, nth, V.look, u1, u2, v1, v2, v3, v4, v5, v6, v7, List.length, u3, u4, Nat.reduceSub, Nat.reduceAdd, List.map]
     all_goals (simp [bn]; done)
  dsimp only [aD, List.foldl, nth, u2, u1];dsimp only [Fr.aH, Fr.put, Fr.clean, Fr.ev, Fr.get, nth, V.look, u1, u2, v1, v2, v3, v4, v5, v6, v7, List.length, u3, u4, Nat.reduceSub, Nat.reduceAdd, List.map];have iy : et q = (if q.1 ≤ q.2 ∧ 0 ≤ q.1 ∧ q.1 ≤ 1114111 then [q.1] else []) ++ (if q.1 ≤ q.2 ∧ 0 ≤ q.2 ∧ q.2 < 1114111 then [q.2 + 1] else []) := rfl;rw [iy] at qY;generalize A6 : (if q.1 ≤ q.2 ∧ 0 ≤ q.1 ∧ q.1 ≤ 1114111 then [q.1] else []) = e1 at qY;generalize E9 : (if q.1 ≤ q.2 ∧ 0 ≤ q.2 ∧ q.2 < 1114111 then [q.2 + 1] else []) = e2 at qY;have Oz : e1.length ≤ 1 := by rw [← A6]; split <;> simp
  refine af.merge (fun fr st => ∃ (y : D) (tmp : List (Nat × D)), fr = ⟨7, [x, bM fr 1, bM fr 2, y, .int .i64 (i : Nat), bM fr 5, bM fr 6], tmp⟩ ∧ Has s0.bs.length S st [.aO y 1 ((db (l.take i) ++ e1).map b3)]) ?_ ?_
  ·refine qc (fun h2 => ?_) (fun h2 => ?_) <;> try simp only [cs] at h2
   ·simp only [Bool.and_eq_true, decide_eq_true_eq] at h2;rw [if_pos ⟨h2.1.1, h2.1.2, h2.2⟩] at A6;refine qj fun K hK => ?_;refine qm ?_;refine qm ?_;refine qm ?_;refine qr fun Ig EP => ?_;refine qf (fo := 0) fun K6 GL => ?_;refine qR ?_;refine qh (s := 1) (vs := [_]) hH fun P2 st N3 hH => ?_;refine ab.bk (s := 1) hH rfl (ev rfl) (ev rfl) (by exact a6) (by exact hH.rows (by exact aC)) rfl rfl rfl rfl rfl rfl rfl ⟨(Nat.le_of_ble_eq_true rfl), (Nat.le_of_ble_eq_true rfl)⟩ (fun _ => (ag rfl _)) (by simp only [List.length_cons, List.length_nil, List.length_map] <;> omega) (by exact .inl hF) (fun L_ st hH => ?_);dsimp only [u2, u1, u3, u4, setMany, u5, u6, D.cells, Nat.reduceAdd, av, b3] at hH;refine qm ?_;refine qe hK ?_;exact ⟨L_, _, rfl, (by rw [← A6, List.map_append]; exact hH.drop 1)⟩
   ·rw [if_neg (by rintro ⟨a, b, c⟩; simp [a, b, c] at h2)] at A6;refine af.skip ?_;exact ⟨y, _, rfl, (by rw [← A6, List.append_nil]; exact hH)⟩
  ·rintro fr st ⟨y, tmp, hfr, hH⟩;rw [hfr];clear hfr;generalize bM fr = ee;clear fr;refine qq ?_;refine af.dh 75 (.bool (decide (q.1 ≤ q.2) && decide (q.2 ≥ 0) && decide (q.2 < 1114111))) [] ?_ (fun ff tmp dg => ?_)
   ·refine qm ?_;refine qm ?_;refine qr fun Mn I1 => ?_;refine qf (fo := 0) fun Mm I0 => ?_;refine qR ?_;refine qm ?_;refine qm ?_;refine qr fun K3 GI => ?_;refine qf (fo := 1) fun PD Ny => ?_;refine qR ?_;refine qg ?_;refine qm ?_;refine ab.two 60 rfl (fun bn => ?_) (fun bn => ?_)
    ·refine qm ?_ (hg := wi bn);refine qm ?_ (hg := wi bn);refine qr (fun PA Nu => ?_) (hg := wi bn);refine qf (fo := 1) (fun Ml IZ => ?_) (hg := wi bn);refine qR ?_ (hg := wi bn);refine qg ?_ (hg := wi bn);refine qt bn ?_;refine qm ?_;refine ab.two 68 rfl (fun cK => ?_) (fun cK => ?_)
     ·refine qm ?_ (hg := wi cK);refine qm ?_ (hg := wi cK);refine qr (fun K2 GH => ?_) (hg := wi cK);refine qf (fo := 1) (fun K1 GG => ?_) (hg := wi cK);refine qR ?_ (hg := wi cK);refine qg ?_ (hg := wi cK);refine qt cK ?_;refine ab.nil (aR ?_ ?_)
      ·dsimp only [aD, List.foldl, nth, u2, u1]
       all_goals (first | rfl | simp)
      ·dsimp only [Fr.aH, Fr.put, Fr.clean, Fr.ev, Fr.get, nth, V.look, u1, u2, v1, v2, v3, v4, v5, v6, v7, List.length, u3, u4, Nat.reduceSub, Nat.reduceAdd, List.map]
       all_goals (simp [bn, cK]; done)
     ·refine qs ?_ (hg := wn cK);refine qs ?_ (hg := wn cK);refine qs ?_ (hg := wn cK);refine qs ?_ (hg := wn cK);refine qs ?_ (hg := wn cK);refine qs ?_ (hg := wn cK);refine qu cK ?_;refine ab.nil (aR ?_ ?_)
      ·dsimp only [aD, List.foldl, nth, u2, u1]
       all_goals (first | rfl | simp)
      ·dsimp only [Fr.aH, Fr.put, Fr.clean, Fr.ev, Fr.get, nth, V.look, u1, u2, v1, v2, v3, v4, v5, v6, v7, List.length, u3, u4, Nat.reduceSub, Nat.reduceAdd, List.map]
       all_goals (simp [bn, cK]; done)
    ·refine qs ?_ (hg := wn bn);refine qs ?_ (hg := wn bn);refine qs ?_ (hg := wn bn);refine qs ?_ (hg := wn bn);refine qs ?_ (hg := wn bn);refine qs ?_ (hg := wn bn);refine qu bn ?_;refine qm ?_;refine qs ?_;refine qs ?_;refine qs ?_;refine qs ?_;refine qs ?_;refine qs ?_;refine qg ?_;refine ab.nil (aR ?_ ?_)
     ·dsimp only [aD, List.foldl, nth, u2, u1]
      all_goals (first | rfl | simp)
     ·dsimp only [Fr.aH, Fr.put, Fr.clean, Fr.ev, Fr.get, nth, V.look, u1, u2, v1, v2, v3, v4, v5, v6, v7, List.length, u3, u4, Nat.reduceSub, Nat.reduceAdd, List.map]
      all_goals (simp [bn]; done)
   dsimp only [aD, List.foldl, nth, u2, u1];refine af.merge (fun fr st => ∃ (y : D) (tmp : List (Nat × D)), fr = ⟨7, [x, bM fr 1, bM fr 2, y, .int .i64 (i : Nat), bM fr 5, bM fr 6], tmp⟩ ∧ Has s0.bs.length S st [.aO y 1 ((db (l.take (i + 1))).map b3)]) ?_ ?_
   ·refine qc (fun h2 => ?_) (fun h2 => ?_) <;> try simp only [cs] at h2
    ·simp only [Bool.and_eq_true, decide_eq_true_eq] at h2;rw [if_pos ⟨h2.1.1, h2.1.2, h2.2⟩] at E9;refine qj fun K hK => ?_;refine qm ?_;refine qm ?_;refine qm ?_;refine qr fun Mk IY => ?_;refine qf (fo := 1) fun Pq Nj => ?_;refine qR ?_;refine ab.rz rfl (ev rfl) (ev rfl) (by omega) (by omega) (ag rfl _) ?_;refine qh (s := 1) (vs := [_]) hH fun PW st NY hH => ?_;refine ab.bk (s := 1) hH rfl (ev rfl) (ev rfl) (by exact a6) (by exact hH.rows (by exact aC)) rfl rfl rfl rfl rfl rfl rfl ⟨(Nat.le_of_ble_eq_true rfl), (Nat.le_of_ble_eq_true rfl)⟩ (fun _ => (ag rfl _)) (by simp only [List.length_append, List.length_cons, List.length_nil, List.length_map] <;> omega) (by exact .inl hF) (fun L7 st hH => ?_);dsimp only [u2, u1, u3, u4, setMany, u5, u6, D.cells, Nat.reduceAdd, av, b3] at hH;refine qm ?_;refine qe hK ?_;exact ⟨L7, _, rfl, (by rw [qY, ← E9, ← List.append_assoc, List.map_append]; exact hH.drop 1)⟩
    ·rw [if_neg (by rintro ⟨a, b, c⟩; simp [a, b, c] at h2)] at E9;refine af.skip ?_;exact ⟨y, _, rfl, (by rw [qY, ← E9, List.append_nil]; exact hH)⟩
   ·rintro fr st ⟨y, tmp, hfr, hH⟩;rw [hfr];clear hfr;generalize bM fr = ee;clear fr;refine qj fun K hK => ?_;refine qm ?_;refine qA ?_;refine qm ?_;refine qe hK ?_;exact ⟨mm - 1, by omega, ⟨i + 1, y, rfl, hH, by omega⟩⟩
 ·refine af.exit ?_;have hT : l.take i = l := List.take_of_length_le (by omega);rw [hT] at hH;have hm := FI l.length;rw [List.take_length] at hm;generalize ku : db l = m0 at *;have IQ : 4 ≤ m0.length := by rw [← ku]; simp [db]
  refine qq ?_;refine qq ?_;refine qj fun K hK => ?_;refine qm ?_;refine qe hK ?_;refine af.block ?_;refine af.loop (fun mm fr st => ∃ (i : Nat) (m : List Int), fr.clean = ⟨7, [x, bM fr 1, bM fr 2, y, bM fr 4, .int .i64 (i : Nat), bM fr 6], []⟩ ∧ Has s0.bs.length S st [.aO y 1 (m.map b3)] ∧ (i + mm = m0.length) ∧ (m.Perm m0) ∧ (dB m (i - 1) i) ∧ (1 ≤ i)) (m0.length - 1) ?_ ?_
  ·exact ⟨1, m0, rfl, hH, by omega, .refl _, by intro a b h1 h2 h3; omega, by omega⟩
  rintro mm fr st ⟨i, m, hfr, hH, hi, hp, hs, IQ⟩;rw [hfr];clear hfr;generalize bM fr = ee;clear fr;have Jh : m.length = m0.length := hp.length_eq;refine qq ?_;refine qq ?_;refine qj fun K hK => ?_;refine qm ?_;refine qm ?_;refine qn ?_ (hR := hH.rows aC);simp only [List.length_map];refine qg ?_;refine qe hK ?_;refine af.cond (by rfl) (fun h1 => ?_) (fun h1 => ?_) <;> try simp only [decide_eq_true_eq, decide_eq_false_iff_not] at h1
  ·refine af.skip ?_;refine qq ?_;refine af.block ?_;refine qq ?_;refine qj fun K hK => ?_;refine qm ?_;refine qm ?_;refine qe hK ?_;refine af.block ?_;refine af.loop (fun mm fr st => ∃ (k : Nat) (m : List Int), fr.clean = ⟨7, [x, bM fr 1, bM fr 2, y, bM fr 4, .int .i64 (i : Nat), .int .i64 (k : Nat)], []⟩ ∧ Has s0.bs.length S st [.aO y 1 (m.map b3)] ∧ (k = mm) ∧ (m.Perm m0) ∧ (dB m i k) ∧ (k ≤ i)) (i) ?_ ?_
   ·exact ⟨i, m, rfl, hH, rfl, hp, by intro a b h1 h2 h3; exact hs a b h1 (by omega) (by omega), by omega⟩
   have nH := hi;rintro mm fr st ⟨k, m, hfr, hH, hk, hp, hs, E3⟩;rw [hfr];clear hfr;generalize bM fr = ee;clear fr;have Jh : m.length = m0.length := hp.length_eq
   rcases k with _ | k
   ·have ba : decide (((0 : Nat) : Int) > 0) = false := by decide
    refine qq ?_;refine qq ?_;refine af.dh 105 (.bool false) [] ?_ (fun ff tmp dg => ?_)
    ·refine qm ?_;refine qg ?_;refine qm ?_;refine qs ?_ (hg := wn ba);refine qs ?_ (hg := wn ba);refine qs ?_ (hg := wn ba);refine qs ?_ (hg := wn ba);refine qs ?_ (hg := wn ba);refine qs ?_ (hg := wn ba);refine qs ?_ (hg := wn ba);refine qs ?_ (hg := wn ba);refine qs ?_ (hg := wn ba);refine qs ?_ (hg := wn ba);refine qu ba ?_;refine ab.nil (aR ?_ ?_)
     ·dsimp only [aD, List.foldl, nth, u2, u1]
      all_goals (first | rfl | simp)
     ·dsimp only [Fr.aH, Fr.put, Fr.clean, Fr.ev, Fr.get, nth, V.look, u1, u2, v1, v2, v3, v4, v5, v6, v7, List.length, u3, u4, Nat.reduceSub, Nat.reduceAdd, List.map]
      all_goals (first | rfl | (simp [ba]; done) | (simp_all; done) | (simp [ba]; omega) | (simp_all; omega))
    dsimp only [aD, List.foldl, nth, u2, u1];dsimp only [Fr.aH, Fr.put, Fr.clean, Fr.ev, Fr.get, nth, V.look, u1, u2, v1, v2, v3, v4, v5, v6, v7, List.length, u3, u4, Nat.reduceSub, Nat.reduceAdd, List.map];refine qC ?_;refine af.exit ?_;refine qj fun K hK => ?_;refine qm ?_;refine qA ?_;refine qm ?_;refine qe hK ?_;exact ⟨m0.length - (i + 1), by omega, ⟨i + 1, m, rfl, hH, by omega, hp, jS hs (.inl rfl) _, by omega⟩⟩
   ·have ba : decide (((k + 1 : Nat) : Int) > 0) = true := by rw [decide_eq_true]; omega
    have ie : (m.map b3)[k]? = some (b3 (m.getD k 0)) := by
     rw [List.getElem?_map, List.getElem?_eq_getElem (by omega)]; simp [List.getD_eq_getElem?_getD, List.getElem?_eq_getElem (show k < m.length by omega)]
    have lp : (m.map b3)[k + 1]? = some (b3 (m.getD (k + 1) 0)) := by
     rw [List.getElem?_map, List.getElem?_eq_getElem (by omega)]; simp [List.getD_eq_getElem?_getD, List.getElem?_eq_getElem (show k + 1 < m.length by omega)]
    refine qq ?_;refine qq ?_;refine af.dh 105 (.bool (decide (m.getD k 0 > m.getD (k + 1) 0))) [] ?_ (fun ff tmp dg => ?_)
    ·refine qm ?_;refine qg ?_;refine qm ?_;refine qm ?_ (hg := wi ba);refine qm ?_ (hg := wi ba);refine ab.j9 (z := ((k : Nat) : Int)) (aM rfl rfl rfl ba) (ev rfl) (ev rfl) (by (try simp only [List.length_reverse, List.length_cons, List.length_nil, List.length_append, List.length_map, List.length_set]); rw [wrap_i64 (by omega) (by omega)] <;> omega) (ag rfl _) ?_;refine qi hH aC (fun Pl Nd => ?_) (hg := wi ba);refine qo hH aC ?_ (hg := wi ba);refine qm ?_ (hg := wi ba);refine qm ?_ (hg := wi ba);refine qi hH aC (fun MB Lv => ?_) (hg := wi ba);refine qo hH aC ?_ (hg := wi ba);refine qg ?_ (hg := wi ba);refine qt ba ?_;refine ab.nil (aR ?_ ?_)
     ·dsimp only [aD, List.foldl, nth, u2, u1]
      all_goals (first | rfl | simp)
     ·dsimp only [Fr.aH, Fr.put, Fr.clean, Fr.ev, Fr.get, nth, V.look, u1, u2, v1, v2, v3, v4, v5, v6, v7, List.length, u3, u4, Nat.reduceSub, Nat.reduceAdd, List.map]
      all_goals (first | rfl | (simp [ba]; done) | (simp_all; done) | (simp [ba]; omega) | (simp_all; omega))
    dsimp only [aD, List.foldl, nth, u2, u1];dsimp only [Fr.aH, Fr.put, Fr.clean, Fr.ev, Fr.get, nth, V.look, u1, u2, v1, v2, v3, v4, v5, v6, v7, List.length, u3, u4, Nat.reduceSub, Nat.reduceAdd, List.map];have M0 := swap_perm (m := m) (k := k) (by omega);have uK := fun h => oh (m := m) (i := i) (k := k) (by omega) (by omega) hs h;have hsd := fun (h : m.getD k 0 ≤ m.getD (k + 1) 0) => jS (j := i + 1) hs (.inr (by rw [Nat.add_sub_cancel]; exact h));have Jj : ((m.set k (m.getD (k + 1) 0)).set (k + 1) (m.getD k 0)).map b3 = ((m.map b3).set k (b3 (m.getD (k + 1) 0))).set (k + 1) (b3 (m.getD k 0)) := by rw [List.map_set, List.map_set]
    have Na : ((m.map b3).set k (b3 (m.getD (k + 1) 0)))[k + 1]? = some (b3 (m.getD (k + 1) 0)) := by rw [List.getElem?_set_ne (by omega)]; exact lp
    generalize m.getD k 0 = a at *;generalize m.getD (k + 1) 0 = b at *;refine af.cond (by assumption) (fun h2 => ?_) (fun h2 => ?_) <;> try simp only [decide_eq_true_eq, decide_eq_false_iff_not] at h2
    ·refine af.skip ?_;refine qq ?_;refine af.block ?_;refine qj fun K hK => ?_;refine qm ?_;refine qm ?_;refine ab.j9 (z := ((k : Nat) : Int)) rfl (ev rfl) (ev rfl) (by (try simp only [List.length_reverse, List.length_cons, List.length_nil, List.length_append, List.length_map, List.length_set]); rw [wrap_i64 (by omega) (by omega)] <;> omega) (ag rfl _) ?_;refine qm ?_;refine qm ?_;refine qm ?_;refine qm ?_;refine qi hH aC fun MA Lu => ?_;refine qo hH aC ?_;refine qm ?_;refine qm ?_;refine ab.j9 (z := ((k : Nat) : Int)) rfl (ev rfl) (ev rfl) (by (try simp only [List.length_reverse, List.length_cons, List.length_nil, List.length_append, List.length_map, List.length_set]); rw [wrap_i64 (by omega) (by omega)] <;> omega) (ag rfl _) ?_;refine qi hH aC fun My Lt => ?_;refine qo hH aC ?_;refine qi hH aC fun Mx Ls => ?_;refine ab.fz hH rfl (ev rfl) (ev rfl) (by assumption) rfl rfl (by exact aC) (by assumption) (Nat.le_of_ble_eq_true rfl) (by exact .inl hF) (fun st hH => ?_);dsimp only [u2, u1, u3, u4, setMany, u5, u6, D.cells, Nat.reduceAdd, av, b3] at hH;refine qi hH aC fun Mw Lr => ?_;refine ab.fz hH rfl (ev rfl) (ev rfl) (by assumption) rfl rfl (by exact aC) (by assumption) (Nat.le_of_ble_eq_true rfl) (by exact .inl hF) (fun st hH => ?_);dsimp only [u2, u1, u3, u4, setMany, u5, u6, D.cells, Nat.reduceAdd, av, b3] at hH;refine qe hK ?_;refine qj fun K hK => ?_;refine qm ?_;refine ab.j9 (z := ((k : Nat) : Int)) rfl (ev rfl) (ev rfl) (by (try simp only [List.length_reverse, List.length_cons, List.length_nil, List.length_append, List.length_map, List.length_set]); rw [wrap_i64 (by omega) (by omega)] <;> omega) (ag rfl _) ?_;refine qm ?_;refine qe hK ?_;exact ⟨k, by omega, ⟨k, (m.set k b).set (k + 1) a, rfl, (by rw [Jj]; exact hH), rfl, M0.trans hp, uK h2, by omega⟩⟩
    ·refine af.exit ?_;refine qj fun K hK => ?_;refine qm ?_;refine qA ?_;refine qm ?_;refine qe hK ?_;exact ⟨m0.length - (i + 1), by omega, ⟨i + 1, m, rfl, hH, by omega, hp, hsd (by omega), by omega⟩⟩
  ·refine af.exit ?_;refine qq ?_;refine qj fun K hK => ?_;refine qm ?_;refine qm ?_;refine qe hK ?_;refine af.ret ⟨rx, _, _, rfl, rl bE hH ((hH.freeze aC (kJ _) (n := 15) (by decide))), ?_⟩;exact ⟨m, rfl, ku ▸ hp, oi (i := i - 1) (by intro a b h1 h2 h3; exact hs a b h1 h2 (by omega)) (by omega)⟩
def df (fr:Go.V.Fr) (k:Nat):Go.V.D:=Go.V.nth .aZ fr.loc k
def gA (l a:List Rg):Prop:=canon a∧∀r,b6 a r↔eW r∧b6 l r
theorem gA.unique {l a b:List Rg} (h:gA l a) (g:gA l b):a=b:=iV h.1 g.1 fun r=>(h.2 r).trans (g.2 r).symm
noncomputable def fu (l:List Rg):Bool:=@decide (gA l l) (Classical.propDecidable _)
theorem l9 {l a:List Rg} (h:gA l a):fu l=decide (l=a):=by
 unfold fu
 by_cases hl:l=a
 ·rw[decide_eq_true hl];exact@decide_eq_true _ (Classical.propDecidable _) (by rw[hl] at h⊢;exact h)
 ·rw[decide_eq_false hl];exact@decide_eq_false _ (Classical.propDecidable _) (fun g=>hl (g.unique h))
theorem me (p q:Rg):iw pv .neq 81 (.agg (av p)) (.agg (av q))=some (.bool (!decide (p=q))):=by
 have h:∀a b a' b':Int,iw pv .neq 81 (.agg [.int .i32 a,.int .i32 b]) (.agg [.int .i32 a',.int .i32 b'])=Option.map (fun b=>D.bool !b) (match some (a==a') with|some true=>(match some (b==b') with|some true=>some true|some false=>some false|none=>none)|some false=>some false|none=>none):=fun _ _ _ _=>rfl;obtain⟨a,b⟩:=p;obtain⟨a',b'⟩:=q;simp only[av,h]
 by_cases h1:a=a'
 ·subst h1
  by_cases h2:b=b'
  ·subst h2;simp
  ·have:(b==b')=false:=by simpa using h2
   simp[this,h2]
 ·have:(a==a')=false:=by simpa using h1
  simp[this,h1]
theorem iC {α:Type} {a b:List α} {i:Nat} {x y:α} (ha:a[i]?=some x) (hb:b[i]?=some y) (h:a.take i=b.take i) (Iw:x=y):a.take (i+1)=b.take (i+1):=by
 rw[List.take_add_one,List.take_add_one,h,ha,hb,Iw]
theorem mf {α:Type} {a b:List α} {i:Nat} {x y:α} (ha:a[i]?=some x) (hb:b[i]?=some y) (Iw:¬x=y):¬a=b:=by
 intro h;subst h;rw[ha] at hb;exact Iw (Option.some.inj hb)
theorem u_ {s0:St} {x y:D} {l m:List Rg} (hx:V.Rows s0 2 x (l.map av)) (hy:V.Rows s0 2 y (m.map av)) (hl:l.length≤1073741824) (hm:m.length≤1073741824):Ev pv 83 [x,y] s0 (.bool (decide (l=m))) s0:=by
 refine Ev.km rfl J4 rfl rfl rfl ?_;dsimp only[u3,u4,List.length,Nat.reduceSub,Nat.reduceAdd,w1,w2];obtain⟨bE,hF,hH⟩:=ri s0;generalize aw .ro s0=S at*;have hx:=Arg.of hx bE;have hy:=Arg.of hy bE;refine qq ?_;refine qj fun K hK=>?_;refine qm ?_;refine qe hK ?_;refine qq ?_;refine qq ?_;refine qj fun K hK=>?_;refine qm ?_;refine qn ?_;simp only[List.length_map];refine qm ?_;refine qn ?_;simp only[List.length_map];refine qg ?_;refine qe hK ?_
 by_cases hlen:l.length=m.length
 ·refine af.cond (v:=false) ?_ (fun h=>by cases h) (fun _=>?_)
  ·dsimp only[Fr.ev,Fr.get,nth,V.look];rw[hlen];simp
  refine af.skip ?_;refine qq ?_;refine qq ?_;refine qj fun K hK=>?_;refine qm ?_;refine qn ?_;simp only[List.length_map];refine qm ?_;refine qe hK ?_;refine af.block ?_;refine af.loop (fun mm fr st=>∃(i:Nat),fr.clean=⟨14,[x,y,df fr 2,df fr 3,.bool false,df fr 5,df fr 6,df fr 7,df fr 8,df fr 9,df fr 10,df fr 11,.int .i64 (l.length:Nat),.int .i64 (i:Nat)],[]⟩∧Has s0.bs.length S st []∧(i+mm=l.length)∧(l.take i=m.take i)) (l.length) ?_ ?_
  ·exact⟨0,rfl,hH,by omega,rfl⟩
  rintro mm fr st ⟨i,hfr,hH,hi,ht⟩;rw[hfr];clear hfr;generalize df fr=ee;clear fr;refine qq ?_;refine qj fun K hK=>?_;refine qg ?_;refine qe hK ?_;refine qq ?_;refine af.cond (by rfl) (fun h1=>?_) (fun h1=>?_)<;>try simp only[decide_eq_true_eq,decide_eq_false_iff_not] at h1
  ·refine af.skip ?_
   obtain⟨p,hp⟩:∃p,l[i]?=some p:=⟨l[i]'(by omega),List.getElem?_eq_getElem _⟩
   obtain⟨q,hq⟩:∃q,m[i]?=some q:=⟨m[i]'(by omega),List.getElem?_eq_getElem _⟩
   have ie:=cv hp;have lp:=cv hq;refine qq ?_;refine af.block ?_;refine qq ?_;refine qj fun K hK=>?_;refine qm ?_;refine qm ?_;refine qe hK ?_;refine qq ?_;refine qj fun K hK=>?_;refine qm ?_;refine qm ?_;refine qr fun La GR=>?_;refine ab.cx rfl (ev rfl) (by assumption) rfl (ag rfl _) ?_;refine qm ?_;refine qm ?_;refine qr fun Ij ET=>?_;refine ab.cx rfl (ev rfl) (by assumption) rfl (ag rfl _) ?_;refine ab.HI rfl (ev rfl) (ev rfl) (me p q) (ag rfl _) ?_;refine qe hK ?_;refine af.cond (by rfl) (fun h2=>?_) (fun h2=>?_)<;>try simp only[decide_eq_true_eq,decide_eq_false_iff_not,Bool.not_eq_true',Bool.not_eq_false'] at h2
   ·refine qq ?_;refine qj fun K hK=>?_;refine qm ?_;refine qe hK ?_;rw[decide_eq_false (mf hp hq (by simpa using h2))];refine af.ret ⟨rx,_,rfl,rl bE hH (rfl)⟩
   ·refine af.skip ?_;refine qj fun K hK=>?_;refine qA ?_;refine qm ?_;refine qe hK ?_;exact⟨mm-1,by omega,⟨i+1,rfl,hH,by omega,iC hp hq ht (by simpa using h2)⟩⟩
  ·refine af.exit ?_;refine qq ?_;refine qj fun K hK=>?_;refine qm ?_;refine qe hK ?_;rw[decide_eq_true (by rw[List.take_of_length_le (by omega),List.take_of_length_le (by omega)] at ht;exact ht)];refine af.ret ⟨rx,_,rfl,rl bE hH (rfl)⟩
 ·refine af.cond (v:=true) ?_ (fun _=>?_) (fun h=>by cases h)
  ·dsimp only[Fr.ev,Fr.get,nth,V.look];simp;omega
  refine qq ?_;refine qj fun K hK=>?_;refine qm ?_;refine qe hK ?_;rw[decide_eq_false (fun h=>hlen (by rw[h]))];refine af.ret ⟨rx,_,rfl,rl bE hH (rfl)⟩
theorem tV {s0:St} {x:D} {l:List Rg} (hx:V.Rows s0 2 x (l.map av)) (hl:l.length≤1048576):Ev pv 73 [x] s0 (.bool (fu l)) s0:=by
 refine Ev.km rfl J7 rfl rfl rfl ?_;dsimp only[u3,u4,List.length,Nat.reduceSub,Nat.reduceAdd,w1,w2];obtain⟨bE,hF,hH⟩:=ri s0;generalize aw .ro s0=S at*;have hx:=Arg.of hx bE;refine qq ?_;refine qj fun K hK=>?_;refine qm ?_;refine qe hK ?_;obtain⟨_,b4,all,rfl,hperm,j3⟩:=zY (hx.rows hH) (by omega);have hM:gA l (all.foldl cg []).reverse:=qM (fun x=>hperm.mem_iff) j3;have hlen:=hperm.length_eq;have jb:=gq l;have gp:=oZ all;rw[l9 hM];refine qq ?_;refine qj fun K hK=>?_;refine qm ?_;refine qm ?_;refine qv (b4) ?_;refine qv (u_ (hx.rows hH) (fv _ _) (by omega) (by rw[List.length_reverse];omega)) ?_;refine qm ?_;refine qe hK ?_;refine af.ret ⟨rx,_,rfl,rl bE hH (rfl)⟩
theorem ug {N:Nat} {S st:St} {H:List bB} {x:D} {acc:List Rg} {lo hi:Int} (hF:S.flr≤N) (hH:Has N S st (.aO x 2 (acc.reverse.map av)::H)) (hl:acc.length≤536870912) (hb:∀k∈acc,0≤k.2+1∧k.2+1≤2147483647):
  ∃x' ae,Ev pv 88 [x,.int .i32 lo,.int .i32 hi] st x' ae∧Has N S ae (.aO x' 2 ((cI acc lo hi).reverse.map av)::H):=by
 refine Ev.ni rfl J1 rfl rfl rfl ?_;dsimp only[u3,u4,List.length,Nat.reduceSub,Nat.reduceAdd,w1,w2];change af _ _ _ _ st _;refine qq ?_;refine qj fun K hK=>?_;refine qm ?_;refine qe hK ?_
 rcases acc with _|⟨h,t⟩
 ·have a_:decide (((([]:List Rg).reverse.map av).length:Int)>0)=false:=by decide
  refine qq ?_;refine qq ?_;refine af.dh 21 (.bool false) [] ?_ (fun ff tmp dg=>?_)
  ·refine qm ?_;refine qn ?_ (hR:=hH.rows aC);simp only[List.length_map,List.length_nil,List.length_reverse];refine qg ?_;refine qm ?_;refine qs ?_ (hg:=wn a_);refine qs ?_ (hg:=wn a_);refine qs ?_ (hg:=wn a_);refine qs ?_ (hg:=wn a_);refine qs ?_ (hg:=wn a_);refine qs ?_ (hg:=wn a_);refine qs ?_ (hg:=wn a_);refine qs ?_ (hg:=wn a_);refine qs ?_ (hg:=wn a_);refine qs ?_ (hg:=wn a_);refine qu a_ ?_;refine ab.nil (aR ?_ ?_)
   ·dsimp only[aD,List.foldl,nth,u2,u1]
    all_goals(first|rfl|simp)
   ·dsimp only[Fr.aH,Fr.put,Fr.clean,Fr.ev,Fr.get,nth,look,u1,u2,v1,v2,v4]
    all_goals(first|rfl|(simp[a_];done)|(simp_all;done)|(simp[a_];omega)|(simp_all;omega))
  dsimp only[aD,List.foldl,nth,u2,u1];refine qC ?_;refine af.skip ?_;refine qq ?_;refine qj fun K hK=>?_;refine qm ?_;refine qm ?_;refine qm ?_;refine qg ?_;refine qh (s:=2) (vs:=[_]) hH fun MJ st Jo hH=>?_;dsimp only[u2,u1,u3,u4,setMany,u5,u6,D.cells,Nat.reduceAdd,av] at hH;refine ab.bk (s:=2) hH rfl (ev rfl) (ev rfl) (by exact a6) (by exact hH.rows (by exact aC)) rfl rfl rfl rfl rfl rfl rfl ⟨(Nat.le_of_ble_eq_true rfl),(Nat.le_of_ble_eq_true rfl)⟩ (fun _=>(ag rfl _)) (by simp only[List.length_cons,List.length_nil,List.length_map,List.length_reverse]<;>omega) (by exact .inl hF) (fun Mc st hH=>?_);dsimp only[u2,u1,u3,u4,setMany,u5,u6,D.cells,Nat.reduceAdd,av] at hH;refine qm ?_;refine qe hK ?_;refine af.ret ⟨rx,_,_,_,rfl,rfl,?_⟩;exact hH.drop 1
 ·have r6:=oY h t;have ic:=oX h (h.1,hi) t;have Qp:=hb h (List.mem_cons_self ..);simp only[List.length_cons] at hl;have a_:decide (((t.length+1:Nat):Int)>0)=true:=by rw[decide_eq_true];omega
  refine qq ?_;refine qq ?_;refine af.dh 21 (.bool (decide (h.2+1=lo))) [] ?_ (fun ff tmp dg=>?_)
  ·refine qm ?_;refine qn ?_ (hR:=hH.rows aC);simp only[List.length_map,List.length_cons,List.length_reverse];refine qg ?_;refine qm ?_;refine qm ?_ (hg:=wi a_);refine qm ?_ (hg:=wi a_);refine qn ?_ (hR:=hH.rows aC) (hg:=wi a_);simp only[List.length_map,List.length_cons,List.length_reverse];refine ab.j9 (z:=((t.length:Nat):Int)) (aM rfl rfl rfl a_) (ev rfl) (ev rfl) (by(try simp only[List.length_reverse,List.length_cons,List.length_nil,List.length_append,List.length_map,List.length_set]);rw[wrap_i64 (by omega) (by omega)]<;>omega) (ag rfl _) ?_;refine qi hH aC (fun Il EV=>?_) (hg:=wi a_);refine ab.fF (fo:=1) (m:=0) (o2:=1) (aM rfl rfl rfl a_) (ev rfl) (by assumption) rfl rfl rfl (fun _=>(ag rfl _)) (fun Lb GS=>?_);refine qo hH aC ?_ (hg:=wi a_);refine ab.rz (aM rfl rfl rfl a_) (ev rfl) (ev rfl) (by omega) (by omega) (ag rfl _) ?_;refine qm ?_ (hg:=wi a_);refine qg ?_ (hg:=wi a_);refine qt a_ ?_;refine ab.nil (aR ?_ ?_)
   ·dsimp only[aD,List.foldl,nth,u2,u1]
    all_goals(first|rfl|simp)
   ·dsimp only[Fr.aH,Fr.put,Fr.clean,Fr.ev,Fr.get,nth,look,u1,u2,v1,v2,v4]
    all_goals(rfl)
  dsimp only[aD,List.foldl,nth,u2,u1];refine af.cond (by assumption) (fun h2=>?_) (fun h2=>?_)<;>try simp only[decide_eq_true_eq,decide_eq_false_iff_not] at h2
  ·refine qq ?_;refine qj fun K hK=>?_;refine qm ?_;refine qm ?_;refine qn ?_ (hR:=hH.rows aC);simp only[List.length_map,List.length_cons,List.length_reverse];refine ab.j9 (z:=((t.length:Nat):Int)) rfl (ev rfl) (ev rfl) (by(try simp only[List.length_reverse,List.length_cons,List.length_nil,List.length_append,List.length_map,List.length_set]);rw[wrap_i64 (by omega) (by omega)]<;>omega) (ag rfl _) ?_;refine qm ?_;refine qi hH aC fun K_ GP=>?_;refine ab.fF (fo:=1) (m:=0) (o2:=1) rfl (ev rfl) (by assumption) rfl rfl rfl (fun _=>(ag rfl _)) (fun K9 GO=>?_);refine ab.fz hH rfl (ev rfl) (ev rfl) (by assumption) rfl rfl (by exact aC) (by assumption) (Nat.le_of_ble_eq_true rfl) (by exact .inl hF) (fun st hH=>?_);dsimp only[u2,u1,u3,u4,setMany,u5,u6,D.cells,Nat.reduceAdd,av] at hH;refine qe hK ?_;refine qq ?_;refine qj fun K hK=>?_;refine qm ?_;refine qm ?_;refine qe hK ?_;refine af.ret ⟨rx,_,_,_,rfl,rfl,?_⟩;simp only[cI,if_pos h2];rw[←ic];exact hH
  ·refine af.skip ?_;refine qq ?_;refine qj fun K hK=>?_;refine qm ?_;refine qm ?_;refine qm ?_;refine qg ?_;refine qh (s:=2) (vs:=[_]) hH fun MJ st Jo hH=>?_;dsimp only[u2,u1,u3,u4,setMany,u5,u6,D.cells,Nat.reduceAdd,av] at hH;refine ab.bk (s:=2) hH rfl (ev rfl) (ev rfl) (by exact a6) (by exact hH.rows (by exact aC)) rfl rfl rfl rfl rfl rfl rfl ⟨(Nat.le_of_ble_eq_true rfl),(Nat.le_of_ble_eq_true rfl)⟩ (fun _=>(ag rfl _)) (by simp only[List.length_cons,List.length_nil,List.length_map,List.length_reverse]<;>omega) (by exact .inl hF) (fun Mc st hH=>?_);dsimp only[u2,u1,u3,u4,setMany,u5,u6,D.cells,Nat.reduceAdd,av] at hH;refine qm ?_;refine qe hK ?_;refine af.ret ⟨rx,_,_,_,rfl,rfl,?_⟩;simp only[cI,if_neg h2];rw[List.reverse_cons (a:=(lo,hi)),List.map_append];exact hH.drop 1
theorem sR (acc:List Rg) (lo hi:Int):(cI acc lo hi).length≤acc.length+1:=by
 unfold cI;split
 ·simp
 ·split<;>simp
theorem Ej (l:List Rg) (a b:Int):Fz l true a b=((decide (a<b) &&(decide (a<55296)||decide (a>57343))) &&ec l a):=by
 unfold Fz;cases ec l a<;>simp
theorem qk {s0:St} {x:D} {l:List Rg} (hx:V.Rows s0 2 x (l.map av)) (hl:l.length≤134217728):∃d,Ev pv 75 [x] s0 d s0∧∃a:List Rg,d=eQ a∧gA l a:=by
 refine Ev.Gn rfl J6 rfl rfl rfl ?_;dsimp only[u3,u4,List.length,Nat.reduceSub,Nat.reduceAdd,w1,w2];obtain⟨bE,hF,hH⟩:=ri s0;generalize aw .ro s0=S at*;have hx:=Arg.of hx bE;refine qq ?_;refine qj fun K hK=>?_;refine qm ?_;refine qe hK ?_;obtain⟨_,b4,m,rfl,hperm,j3⟩:=uD (hx.rows hH) (by omega);have hlen:=hperm.length_eq;have jb:=jH l;have FI:m.length=4+(l.flatMap et).length:=by rw[hlen];simp[db];omega
 have Lx:∀q∈m,0≤q∧q≤1114112:=by
  intro q hq;have:=hperm.mem_iff.1 hq;simp only[db,List.mem_append,List.mem_cons,List.not_mem_nil,or_false,List.mem_flatMap] at this
  rcases this with(h|h|h|h)|⟨y,_,hy⟩
  ·omega
  ·omega
  ·omega
  ·omega
  ·unfold et at hy
   split at hy<;>split at hy<;>simp at hy<;>omega
 have hM:=lU (l:=l) (m:=m) true (fun q=>by
  rw[hperm.mem_iff]
  simp only[db,List.mem_append,List.mem_cons,List.not_mem_nil,or_false,List.mem_flatMap,or_assoc]) j3
 have OW:gA l (c9 l true m []).reverse:=⟨hM.1,fun r=>by rw[hM.2 r];simp⟩
 refine qq ?_;refine qj fun K hK=>?_;refine qm ?_;refine qv (b4) ?_;refine qm ?_;refine qe hK ?_;have ku:=Arg.pure (N:=s0.bs.length) (S:=S) (s:=1) (es:=(m.map b3).map (ir 1)) (fun st=>ow st m);change Arg s0.bs.length S 1 (mW m) _ at ku;refine qq ?_;refine qj fun K hK=>?_;refine qm ?_;refine qe hK ?_;refine qq ?_;refine qq ?_;refine qj fun K hK=>?_;refine qm ?_;refine qe hK ?_;have hH:=hH.hQ 2;refine af.block ?_;refine af.loop (fun mm fr st=>∃(i:Nat) (y:D) (acc:List Rg),fr.clean=⟨6,[x,df fr 1,df fr 2,mW m,y,.int .i64 (i:Nat)],[]⟩∧Has s0.bs.length S st [.aO y 2 (acc.reverse.map av)]∧(i+mm=m.length)∧(c9 l true (m.drop i) acc=c9 l true m [])∧(acc.length≤i)∧(∀k∈acc,0≤k.2+1∧k.2+1≤1114112)) (m.length) ?_ ?_
 ·exact⟨0,.nul,[],rfl,hH,by omega,rfl,by simp,by simp⟩
 rintro mm fr st ⟨i,y,acc,hfr,hH,hi,hp,hal,hab⟩;rw[hfr];clear hfr;generalize df fr=ee;clear fr;refine qq ?_;refine qq ?_;refine qj fun K hK=>?_;refine qm ?_;refine qA ?_;refine qm ?_;refine qn ?_;simp only[List.length_map];refine qg ?_;refine qe hK ?_;refine af.cond (by rfl) (fun h1=>?_) (fun h1=>?_)<;>try simp only[decide_eq_true_eq,decide_eq_false_iff_not] at h1
 ·refine af.skip ?_
  obtain⟨a,ha⟩:∃a,m[i]?=some a:=⟨m[i]'(by omega),List.getElem?_eq_getElem _⟩
  obtain⟨b,hb⟩:∃b,m[i+1]?=some b:=⟨m[i+1]'(by omega),List.getElem?_eq_getElem _⟩
  have ie:=ox ha;have lp:=ox hb;have LO:=Lx b (List.mem_of_getElem? hb);have Qr:=Lx a (List.mem_of_getElem? ha)
  have uU:m.drop i=a::b::m.drop (i+2):=by
   rw[List.drop_eq_getElem_cons (by omega),List.drop_eq_getElem_cons (by omega)];rw[List.getElem?_eq_getElem (by omega)] at ha hb;rw[Option.some.inj ha,Option.some.inj hb]
  have JG:m.drop (i+1)=b::m.drop (i+2):=by
   rw[List.drop_eq_getElem_cons (by omega)];rw[List.getElem?_eq_getElem (by omega)] at hb;rw[Option.some.inj hb]
  rw[uU,c9,←JG,Ej] at hp;refine qq ?_;refine af.block ?_;refine qq ?_;refine af.dh 46 (.bool ((decide (a<b) &&(decide (a<55296)||decide (a>57343))) &&ec l a)) [] ?_ (fun ff tmp dg=>?_)
  ·refine qm ?_;refine qm ?_;refine qr fun Mu I8=>?_;refine qR ?_;refine qm ?_;refine qm ?_;refine qA ?_;refine qr fun Ij ET=>?_;refine qR ?_;refine qg ?_;refine qm ?_;refine ab.two 25 rfl (fun bD=>?_) (fun bD=>?_)
   ·refine qm ?_ (hg:=wi bD);refine qm ?_ (hg:=wi bD);refine qr (fun K9 GO=>?_) (hg:=wi bD);refine qR ?_ (hg:=wi bD);refine qg ?_ (hg:=wi bD);refine qm ?_ (hg:=wi bD);refine ab.two 31 rfl (fun gT=>?_) (fun gT=>?_)
    ·refine qs ?_ (hg:=wn gT);refine qs ?_ (hg:=wn gT);refine qs ?_ (hg:=wn gT);refine qs ?_ (hg:=wn gT);refine qs ?_ (hg:=wn gT);refine ab.oH (aM rfl rfl rfl bD) rfl gT (ag rfl _) ?_;refine qt bD ?_;refine qm ?_;refine qm ?_;refine qm ?_;refine qm ?_;refine qr fun Mp I3=>?_;refine qR ?_;refine qv (jn (hx.rows hH) (by omega)) ?_;refine qg ?_;refine ab.nil (aR ?_ ?_)
     ·dsimp only[aD,List.foldl,nth,u2,u1]
      all_goals(first|rfl|simp)
     ·dsimp only[Fr.aH,Fr.put,Fr.clean,Fr.ev,Fr.get,nth,V.look,u1,u2,v1,v2,v3,v4,v5,v6,v7,List.length,u3,u4,Nat.reduceSub,Nat.reduceAdd,List.map]
      all_goals(simp[bD,gT];done)
    ·refine qm ?_ (hg:=wi gT);refine qm ?_ (hg:=wi gT);refine qr (fun Mq I4=>?_) (hg:=wi gT);refine qR ?_ (hg:=wi gT);refine qg ?_ (hg:=wi gT);refine ab.rO (aM rfl rfl rfl bD) rfl gT (ag rfl _) ?_;refine qt bD ?_;refine qm ?_;refine ab.two 39 rfl (fun bU=>?_) (fun bU=>?_)
     ·refine qm ?_ (hg:=wi bU);refine qm ?_ (hg:=wi bU);refine qm ?_ (hg:=wi bU);refine qr (fun Mp I3=>?_) (hg:=wi bU);refine qR ?_ (hg:=wi bU);refine qv (jn (hx.rows hH) (by omega)) ?_ (hg:=wi bU);refine qt bU ?_;refine ab.nil (aR ?_ ?_)
      ·dsimp only[aD,List.foldl,nth,u2,u1]
       all_goals(first|rfl|simp)
      ·dsimp only[Fr.aH,Fr.put,Fr.clean,Fr.ev,Fr.get,nth,V.look,u1,u2,v1,v2,v3,v4,v5,v6,v7,List.length,u3,u4,Nat.reduceSub,Nat.reduceAdd,List.map]
       all_goals(simp[bD,gT,bU];done)
     ·refine qs ?_ (hg:=wn bU);refine qs ?_ (hg:=wn bU);refine qs ?_ (hg:=wn bU);refine qs ?_ (hg:=wn bU);refine qs ?_ (hg:=wn bU);refine qs ?_ (hg:=wn bU);refine qu bU ?_;refine ab.nil (aR ?_ ?_)
      ·dsimp only[aD,List.foldl,nth,u2,u1]
       all_goals(first|rfl|simp)
      ·dsimp only[Fr.aH,Fr.put,Fr.clean,Fr.ev,Fr.get,nth,V.look,u1,u2,v1,v2,v3,v4,v5,v6,v7,List.length,u3,u4,Nat.reduceSub,Nat.reduceAdd,List.map]
       all_goals(simp[bD,gT,bU];done)
   ·refine qs ?_ (hg:=wn bD);refine qs ?_ (hg:=wn bD);refine qs ?_ (hg:=wn bD);refine qs ?_ (hg:=wn bD);refine qs ?_ (hg:=wn bD);refine qs ?_ (hg:=wn bD);refine qs ?_;refine qs ?_;refine qs ?_;refine qs ?_;refine qs ?_;refine qs ?_ (hg:=wn bD);refine qu bD ?_;refine qm ?_;refine qs ?_;refine qs ?_;refine qs ?_;refine qs ?_;refine qs ?_;refine qs ?_;refine qg ?_;refine ab.nil (aR ?_ ?_)
    ·dsimp only[aD,List.foldl,nth,u2,u1]
     all_goals(first|rfl|simp)
    ·dsimp only[Fr.aH,Fr.put,Fr.clean,Fr.ev,Fr.get,nth,V.look,u1,u2,v1,v2,v3,v4,v5,v6,v7,List.length,u3,u4,Nat.reduceSub,Nat.reduceAdd,List.map]
     all_goals(simp[bD];done)
  dsimp only[aD,List.foldl,nth,u2,u1];dsimp only[Fr.aH,Fr.put,Fr.clean,Fr.ev,Fr.get,nth,V.look,u1,u2,v1,v2,v3,v4,v5,v6,v7,List.length,u3,u4,Nat.reduceSub,Nat.reduceAdd,List.map];refine qc (fun h2=>?_) (fun h2=>?_)<;>try simp only[cs] at h2
  ·rw[h2,if_pos rfl] at hp;have kr:=sR acc a (b-1);obtain⟨x',ae,Am,HY⟩:=ug (acc:=acc) (lo:=a) (hi:=b-1) hF hH (by omega) (fun k hk=>by have:=hab k hk;omega);refine qj fun K hK=>?_;refine qm ?_;refine qm ?_;refine qm ?_;refine qr fun K5 GK=>?_;refine qR ?_;refine qm ?_;refine qm ?_;refine qA ?_;refine qr fun K4 GJ=>?_;refine qR ?_;refine ab.Bb rfl (ev rfl) (ev rfl) (by omega) (by omega) (ag rfl _) ?_;refine qv (Am) ?_;refine qm ?_;refine qe hK ?_;have hH:=HY;refine qj fun K hK=>?_;refine qm ?_;refine qA ?_;refine qm ?_;refine qe hK ?_;refine⟨mm-1,by omega,⟨i+1,x',cI acc a (b-1),rfl,hH,by omega,hp,by omega,?_⟩⟩;intro k hk;unfold cI at hk
   split at hk
   ·simp only[List.mem_cons,List.not_mem_nil,or_false] at hk;subst hk;simp only;omega
   ·rename_i h t
    split at hk
    ·rcases List.mem_cons.1 hk with rfl|hk
     ·simp only;omega
     ·exact hab k (List.mem_cons_of_mem _ hk)
    ·rcases List.mem_cons.1 hk with rfl|hk
     ·simp only;omega
     ·exact hab k hk
  ·rw[h2] at hp;refine af.skip ?_;refine qj fun K hK=>?_;refine qm ?_;refine qA ?_;refine qm ?_;refine qe hK ?_;exact⟨mm-1,by omega,⟨i+1,y,acc,rfl,hH,by omega,hp,by omega,hab⟩⟩
 ·refine af.exit ?_;refine qq ?_;refine qj fun K hK=>?_;refine qm ?_;refine qm ?_;refine qe hK ?_
  have jG:acc=c9 l true m []:=by
   rw[←hp];have HS:(m.drop i).length≤1:=by rw[List.length_drop];omega
   match hd:m.drop i,HS with
   |[],_=>rfl
   |[_],_=>rfl
  refine af.ret ⟨rx,_,_,rfl,rl bE hH ((hH.freeze aC (dp _) (n:=15) (by decide))),?_⟩;exact⟨acc.reverse,by rw[fw],by rw[jG];exact OW⟩
theorem oE {s0:St} {x:D} {l:List Rg} (hx:V.Rows s0 2 x (l.map av)) (hl:l.length≤1048576):Ev pv 58 [x] s0 (.bool (fu l)) s0:=by
 refine Ev.km rfl Kc rfl rfl rfl ?_;dsimp only[u3,u4,List.length,Nat.reduceSub,Nat.reduceAdd,w1,w2];obtain⟨bE,hF,hH⟩:=ri s0;generalize aw .ro s0=S at*;have hx:=Arg.of hx bE;refine qq ?_;refine qj fun K hK=>?_;refine qm ?_;refine qe hK ?_;obtain⟨_,b4,m,rfl,hM⟩:=qk (hx.rows hH) (by omega);rw[l9 hM];refine qq ?_;refine qj fun K hK=>?_;refine qm ?_;refine qv (b4) ?_;refine qm ?_;refine qe hK ?_;have ku:Arg s0.bs.length S 2 (eQ m) (m.map av):=Arg.pure (fun st=>fv st m);refine qq ?_;refine qq ?_;refine qj fun K hK=>?_;refine qm ?_;refine qn ?_;simp only[List.length_map];refine qm ?_;refine qn ?_;simp only[List.length_map];refine qg ?_;refine qe hK ?_
 by_cases hlen:m.length=l.length
 ·refine af.cond (v:=false) ?_ (fun h=>by cases h) (fun _=>?_)
  ·dsimp only[Fr.ev,Fr.get,nth,V.look];rw[hlen];simp
  refine af.skip ?_;refine qq ?_;refine qq ?_;refine qj fun K hK=>?_;refine qm ?_;refine qe hK ?_;refine af.block ?_;refine af.loop (fun mm fr st=>∃(i:Nat),fr.clean=⟨5,[x,df fr 1,.bool false,eQ m,.int .i64 (i:Nat)],[]⟩∧Has s0.bs.length S st []∧(i+mm=l.length)∧(l.take i=m.take i)) (l.length) ?_ ?_
  ·exact⟨0,rfl,hH,by omega,rfl⟩
  rintro mm fr st ⟨i,hfr,hH,hi,ht⟩;rw[hfr];clear hfr;generalize df fr=ee;clear fr;refine qq ?_;refine qq ?_;refine qj fun K hK=>?_;refine qm ?_;refine qm ?_;refine qn ?_;simp only[List.length_map];refine qg ?_;refine qe hK ?_;refine af.cond (by rfl) (fun h1=>?_) (fun h1=>?_)<;>try simp only[decide_eq_true_eq,decide_eq_false_iff_not] at h1
  ·refine af.skip ?_
   obtain⟨p,hp⟩:∃p,l[i]?=some p:=⟨l[i]'(by omega),List.getElem?_eq_getElem _⟩
   obtain⟨q,hq⟩:∃q,m[i]?=some q:=⟨m[i]'(by omega),List.getElem?_eq_getElem _⟩
   have ie:=cv hp;have lp:=cv hq;refine qq ?_;refine af.block ?_;refine qq ?_;refine qj fun K hK=>?_;refine qm ?_;refine qm ?_;refine qr fun K' GQ=>?_;refine ab.cx rfl (ev rfl) (by assumption) rfl (ag rfl _) ?_;refine qm ?_;refine qm ?_;refine qr fun HH Ai=>?_;refine ab.cx rfl (ev rfl) (by assumption) rfl (ag rfl _) ?_;refine ab.HI rfl (ev rfl) (ev rfl) (me q p) (ag rfl _) ?_;refine qe hK ?_;refine af.cond (by rfl) (fun h2=>?_) (fun h2=>?_)<;>try simp only[decide_eq_true_eq,decide_eq_false_iff_not,Bool.not_eq_true',Bool.not_eq_false'] at h2
   ·refine qq ?_;refine qj fun K hK=>?_;refine qm ?_;refine qe hK ?_;rw[decide_eq_false (mf hp hq (by simpa[eq_comm] using h2))];refine af.ret ⟨rx,_,rfl,rl bE hH (rfl)⟩
   ·refine af.skip ?_;refine qj fun K hK=>?_;refine qm ?_;refine qA ?_;refine qm ?_;refine qe hK ?_;exact⟨mm-1,by omega,⟨i+1,rfl,hH,by omega,iC hp hq ht (by simpa[eq_comm] using h2)⟩⟩
  ·refine af.exit ?_;refine qq ?_;refine qj fun K hK=>?_;refine qm ?_;refine qe hK ?_;rw[decide_eq_true (by rw[List.take_of_length_le (by omega),List.take_of_length_le (by omega)] at ht;exact ht)];refine af.ret ⟨rx,_,rfl,rl bE hH (rfl)⟩
 ·refine af.cond (v:=true) ?_ (fun _=>?_) (fun h=>by cases h)
  ·dsimp only[Fr.ev,Fr.get,nth,V.look];simp;omega
  refine qq ?_;refine qj fun K hK=>?_;refine qm ?_;refine qe hK ?_;rw[decide_eq_false (fun h=>hlen (by rw[h]))];refine af.ret ⟨rx,_,rfl,rl bE hH (rfl)⟩
end Go.Proofs.YtbdilgkfnacahaaGreat
