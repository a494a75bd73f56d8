/-
 Ranges of runes: the canonical form, by plain lists. No program in sight.
-/
import Derived.Test.YtajblankjjmonaaGreatWGHr
import Derived.Test.YtajblankjjmonaaGreatWPx
import Derived.Test.YtajblankjjmonaaGreatWM2
import Derived.KernelRfl
set_option linter.unusedSimpArgs false
set_option linter.unusedVariables false
set_option maxRecDepth 100000
set_option maxHeartbeats 4000000
namespace Go.V
abbrev Rg:=Int×Int
def bX (l:List Rg) (r:Int):Prop:=∃x,x∈l∧x.1≤r∧r≤x.2
theorem dj (r:Int):¬bX [] r:=by rintro⟨x,h,_⟩;cases h
theorem aS {x:Rg} {l:List Rg} {r:Int}:bX (x::l) r↔(x.1≤r∧r≤x.2)∨bX l r:=by
 constructor
 ·rintro⟨y,hy,h⟩
  rcases List.mem_cons.1 hy with rfl|hy
  ·exact .inl h
  ·exact .inr ⟨y,hy,h⟩
 ·rintro(h|⟨y,hy,h⟩)
  ·exact⟨x,List.mem_cons_self ..,h⟩
  ·exact⟨y,List.mem_cons_of_mem _ hy,h⟩
theorem ve {a b:List Rg} {r:Int}:bX (a++b) r↔bX a r∨bX b r:=by
 constructor
 ·rintro⟨y,hy,h⟩
  rcases List.mem_append.1 hy with hy|hy
  ·exact .inl ⟨y,hy,h⟩
  ·exact .inr ⟨y,hy,h⟩
 ·rintro(⟨y,hy,h⟩|⟨y,hy,h⟩)
  ·exact⟨y,List.mem_append_left _ hy,h⟩
  ·exact⟨y,List.mem_append_right _ hy,h⟩
theorem mZ {a b:List Rg} (h:∀x,x∈a↔x∈b) (r:Int):bX a r↔bX b r:=by
 constructor
 ·rintro⟨y,hy,hh⟩;exact⟨y,(h y).1 hy,hh⟩
 ·rintro⟨y,hy,hh⟩;exact⟨y,(h y).2 hy,hh⟩
def canon (l:List Rg):Prop:=(∀x∈l,x.1≤x.2)∧l.Pairwise fun x y=>x.2+1<y.1
theorem gF {x:Rg} {l:List Rg} (h:canon (x::l)):canon l∧x.1≤x.2∧∀r,bX l r→x.2+1<r:=by
 obtain⟨h1,h2⟩:=h;rw[List.pairwise_cons] at h2;refine⟨⟨fun y hy=>h1 y (List.mem_cons_of_mem _ hy),h2.2⟩,h1 x (List.mem_cons_self ..),?_⟩;rintro r ⟨y,hy,h3,h4⟩;have:=h2.1 y hy;omega
theorem mB:∀{a b:List Rg},canon a→canon b→(∀r,bX a r↔bX b r)→a=b
 |[],[],_,_,_=>rfl
 |[],y::b,_,hb,h=>by
  obtain⟨_,h1,_⟩:=gF hb;exact absurd ((h y.1).2 (aS.2 (.inl ⟨Int.le_refl _,h1⟩))) (dj _)
 |x::a,[],ha,_,h=>by
  obtain⟨_,h1,_⟩:=gF ha;exact absurd ((h x.1).1 (aS.2 (.inl ⟨Int.le_refl _,h1⟩))) (dj _)
 |x::a,y::b,ha,hb,h=>by
  obtain⟨ca,xa,fa⟩:=gF ha;obtain⟨cb,yb,fb⟩:=gF hb
  have low:∀{x y:Rg} {a b:List Rg},x.1≤x.2→(∀r,bX b r→y.2+1<r)→y.1≤y.2→(∀r,bX (x::a) r→bX (y::b) r)→y.1≤x.1:=by
   intro x y a b hx hf hy hh
   rcases aS.1 (hh x.1 (aS.2 (.inl ⟨Int.le_refl _,hx⟩))) with h|h
   ·exact h.1
   ·have:=hf _ h;omega
  have e1:x.1=y.1:=Int.le_antisymm (low yb fa xa fun r=>(h r).2) (low xa fb yb fun r=>(h r).1)
  have up:∀{x y:Rg} {a b:List Rg},x.1≤x.2→x.1=y.1→(∀r,bX a r→x.2+1<r)→(∀r,bX (y::b) r→bX (x::a) r)→y.2≤x.2:=by
   intro x y a b hx he hf hh
   rcases Int.lt_or_le x.2 y.2 with h'|h'
   ·rcases aS.1 (hh (x.2+1) (aS.2 (.inl ⟨by omega,by omega⟩))) with h|h
    ·omega
    ·have:=hf _ h;omega
   ·exact h'
  have e2:x.2=y.2:=Int.le_antisymm (up yb e1.symm fb fun r=>(h r).1) (up xa e1 fa fun r=>(h r).2);have e:x=y:=Prod.ext e1 e2;subst e
  congr 1
  refine mB ca cb fun r=>⟨fun hr=>?_,fun hr=>?_⟩
  ·have:=fa r hr
   rcases aS.1 ((h r).1 (aS.2 (.inr hr))) with h|h
   ·omega
   ·exact h
  ·have:=fb r hr
   rcases aS.1 ((h r).2 (aS.2 (.inr hr))) with h|h
   ·omega
   ·exact h
def cY (acc:List Rg) (r:Rg):List Rg:=
 match acc with
 |[]=>[r]
 |k::rest=>if r.1≤k.2+1 then(k.1,max k.2 r.2)::rest else r::k::rest
theorem mb:∀(l acc:List Rg),(∀x∈l,x.1≤x.2)→l.Pairwise (fun x y=>x.1≤y.1)→(∀k∈acc.head?,∀x∈l,k.1≤x.1)→(∀x∈acc,x.1≤x.2)→acc.Pairwise (fun x y=>y.2+1<x.1)→
  (∀x∈l.foldl cY acc,x.1≤x.2)∧(l.foldl cY acc).Pairwise (fun x y=>y.2+1<x.1)∧∀r,bX (l.foldl cY acc) r↔bX acc r∨bX l r
 |[],acc,_,_,_,h1,h2=>⟨h1,h2,fun r=>⟨.inl,fun h=>h.resolve_right (dj r)⟩⟩
 |x::l,acc,hl,hp,hk,h1,h2=>by
  rw[List.pairwise_cons] at hp;have hx:=hl x (List.mem_cons_self ..);have hl':∀y∈l,y.1≤y.2:=fun y hy=>hl y (List.mem_cons_of_mem _ hy);rw[List.foldl_cons]
  cases acc with
  |nil=>
   obtain⟨g1,g2,g3⟩:=mb l [x] hl' hp.2 (fun k jv y hy=>by simp at jv;subst jv;exact hp.1 y hy) (fun y hy=>by simp at hy;subst hy;exact hx) (by simp);refine⟨g1,g2,fun r=>(g3 r).trans ?_⟩;rw[aS (l:=l),aS (l:=[])];constructor
   ·rintro((h|h)|h)
    ·exact .inr (.inl h)
    ·exact absurd h (dj r)
    ·exact .inr (.inr h)
   ·rintro(h|h|h)
    ·exact absurd h (dj r)
    ·exact .inl (.inl h)
    ·exact .inr h
  |cons k rest=>
   have S5:=hk k rfl x (List.mem_cons_self ..);have hkk:=h1 k (List.mem_cons_self ..);rw[List.pairwise_cons] at h2;unfold cY
   by_cases hc:x.1≤k.2+1
   ·simp only[if_pos hc]
    obtain⟨g1,g2,g3⟩:=mb l ((k.1,max k.2 x.2)::rest) hl' hp.2 (fun q hq y hy=>by simp at hq;subst hq;have:=hp.1 y hy;simp only;omega) (fun y hy=>by
     rcases List.mem_cons.1 hy with rfl|hy
     ·simp only;omega
     ·exact h1 y (List.mem_cons_of_mem _ hy)) (by rw[List.pairwise_cons];exact⟨h2.1,h2.2⟩)
    refine⟨g1,g2,fun r=>(g3 r).trans ?_⟩;rw[aS (l:=rest),aS (l:=rest),aS (l:=l)];constructor
    ·rintro((h|h)|h)
     ·simp only at h
      by_cases hr:r≤k.2
      ·exact .inl (.inl ⟨h.1,hr⟩)
      ·exact .inr (.inl ⟨by omega,by omega⟩)
     ·exact .inl (.inr h)
     ·exact .inr (.inr h)
    ·rintro((h|h)|h|h)
     ·exact .inl (.inl ⟨h.1,by simp only;omega⟩)
     ·exact .inl (.inr h)
     ·exact .inl (.inl ⟨by simp only;omega,by simp only;omega⟩)
     ·exact .inr h
   ·simp only[if_neg hc]
    obtain⟨g1,g2,g3⟩:=mb l (x::k::rest) hl' hp.2 (fun q hq y hy=>by simp at hq;subst hq;exact hp.1 y hy) (fun y hy=>by
     rcases List.mem_cons.1 hy with rfl|hy
     ·exact hx
     ·exact h1 y hy) (by
     rw[List.pairwise_cons];refine⟨fun y hy=>?_,by rw[List.pairwise_cons];exact h2⟩
     rcases List.mem_cons.1 hy with rfl|hy
     ·omega
     ·have:=h2.1 y hy;omega)
    refine⟨g1,g2,fun r=>(g3 r).trans ?_⟩;rw[aS (l:=k::rest),aS (l:=l)];constructor
    ·rintro((h|h)|h)
     ·exact .inr (.inl h)
     ·exact .inl h
     ·exact .inr (.inr h)
    ·rintro(h|h|h)
     ·exact .inl (.inr h)
     ·exact .inl (.inl h)
     ·exact .inr h
theorem xm {l:List Rg} (h1:∀x∈l,x.1≤x.2) (h2:l.Pairwise fun x y=>x.1≤y.1):canon (l.foldl cY []).reverse∧∀r,bX (l.foldl cY []).reverse r↔bX l r:=by
 obtain⟨g1,g2,g3⟩:=mb l [] h1 h2 (fun k hk=>by simp at hk) (fun x hx=>by simp at hx) List.Pairwise.nil;refine⟨⟨fun x hx=>g1 x (List.mem_reverse.1 hx),by rw[List.pairwise_reverse];exact g2⟩,fun r=>?_⟩;rw[mZ (fun x=>List.mem_reverse) r,g3 r];exact⟨fun h=>h.resolve_left (dj r),.inr⟩
def bT (r:Int):Prop:=0≤r∧r≤1114111∧¬(55296≤r∧r≤57343)
def cw (x:Rg):List Rg:=
 (if max (max x.1 0) 0≤min (min x.2 1114111) 55295 then[(max (max x.1 0) 0,min (min x.2 1114111) 55295)] else[])++
 (if max (max x.1 0) 57344≤min (min x.2 1114111) 1114111 then[(max (max x.1 0) 57344,min (min x.2 1114111) 1114111)] else[])
theorem o6 (x:Rg) (r:Int):bX (cw x) r↔bT r∧x.1≤r∧r≤x.2:=by
 unfold cw bT;rw[ve]
 have one:∀(a b:Int),bX (if a≤b then[(a,b)] else[]) r↔a≤r∧r≤b:=by
  intro a b
  split
  ·rw[aS];exact⟨fun h=>h.elim id fun h=>absurd h (dj r),.inl⟩
  ·exact⟨fun h=>absurd h (dj r),fun h=>by omega⟩
 rw[one,one];omega
theorem mO (x:Rg):∀y∈cw x,y.1≤y.2∧0≤y.1∧y.2≤1114111:=by
 intro y hy;unfold cw at hy
 rcases List.mem_append.1 hy with h|h<;>split at h<;>simp at h<;>subst h<;>simp only<;>omega
theorem lA {l all:List Rg} (hp:∀x,x∈all↔x∈l.flatMap cw) (hs:all.Pairwise fun x y=>x.1≤y.1):canon (all.foldl cY []).reverse∧∀r,bX (all.foldl cY []).reverse r↔bT r∧bX l r:=by
 have hle:∀x∈all,x.1≤x.2:=fun x hx=>by
  obtain⟨y,_,hy⟩:=List.mem_flatMap.1 ((hp x).1 hx);exact(mO y x hy).1
 obtain⟨g1,g2⟩:=xm hle hs;refine⟨g1,fun r=>(g2 r).trans ((mZ hp r).trans ?_)⟩;constructor
 ·rintro⟨y,hy,h⟩;obtain⟨x,hx,hy⟩:=List.mem_flatMap.1 hy;have:=(o6 x r).1 ⟨y,hy,h⟩;exact⟨this.1,x,hx,this.2⟩
 ·rintro⟨hr,x,hx,h⟩;obtain⟨y,hy,h'⟩:=(o6 x r).2 ⟨hr,h⟩;exact⟨y,List.mem_flatMap.2 ⟨x,hx,hy⟩,h'⟩
def ia:List Rg→Int→Bool
 |[],_=>false
 |x::l,r=>(decide (x.1≤r) &&decide (r≤x.2))||ia l r
theorem pS:∀(l:List Rg) (r:Int),ia l r=true↔bX l r
 |[],r=>⟨fun h=>(by cases h),fun h=>absurd h (dj r)⟩
 |x::l,r=>by
  rw[aS,←pS l r];simp[ia]
def fv (x:Rg):List Int:=
 (if x.1≤x.2∧0≤x.1∧x.1≤1114111 then[x.1] else[])++(if x.1≤x.2∧0≤x.2∧x.2<1114111 then[x.2+1] else[])
def de (acc:List Rg) (lo hi:Int):List Rg:=
 match acc with
 |[]=>[(lo,hi)]
 |k::rest=>if k.2+1=lo then(k.1,hi)::rest else(lo,hi)::k::rest
def EH (l:List Rg) (yes:Bool) (a b:Int):Bool:=decide (a<b) &&(decide (a<55296)||decide (57343<a)) &&(ia l a==yes)
def cB (l:List Rg) (yes:Bool):List Int→List Rg→List Rg
 |a::b::t,acc=>cB l yes (b::t) (if EH l yes a b=true then de acc a (b-1) else acc)
 |_,acc=>acc
theorem Ey {l:List Rg} {m:List Int} {a b:Int} (hm:∀x∈l,∀e∈fv x,e≤a∨b≤e) (h1:55296≤a∨b≤55296) (h2:57344≤a∨b≤57344) (ha:0≤a) (hb:b≤1114112) {r:Int} (hr:a≤r) (JN:r<b):
  (bT r↔¬(55296≤a∧a≤57343))∧(bX l r↔bX l a):=by
 refine⟨by unfold bT;omega,?_,?_⟩
 ·rintro⟨x,hx,h3,h4⟩;refine⟨x,hx,?_,by omega⟩
  rcases Int.lt_or_le a x.1 with h|h
  ·have:=hm x hx x.1 (by unfold fv;rw[if_pos (by omega)];simp);omega
  ·exact h
 ·rintro⟨x,hx,h3,h4⟩;refine⟨x,hx,by omega,?_⟩
  rcases Int.lt_or_le x.2 r with h|h
  ·have:=hm x hx (x.2+1) (by unfold fv;rw[if_pos (c:=x.1≤x.2∧0≤x.2∧x.2<1114111) (by omega)];simp);omega
  ·exact h
theorem BC {acc:List Rg} {lo hi:Int} (h1:∀x∈acc,x.1≤x.2) (h2:acc.Pairwise (fun x y=>y.2+1<x.1)) (h3:∀x∈acc,x.2<lo) (h4:lo≤hi):
  (∀x∈de acc lo hi,x.1≤x.2)∧(de acc lo hi).Pairwise (fun x y=>y.2+1<x.1)∧(∀x∈de acc lo hi,x.2≤hi)∧∀r,bX (de acc lo hi) r↔bX acc r∨(lo≤r∧r≤hi):=by
 cases acc with
 |nil=>
  refine⟨by simp[de,h4],by simp[de],by simp[de],fun r=>?_⟩;simp only[de];rw[aS];exact⟨fun h=>.inr (h.resolve_right (dj r)),fun h=>.inl (h.resolve_left (dj r))⟩
 |cons k rest=>
  have hk:=h1 k (List.mem_cons_self ..);have Hb:=h3 k (List.mem_cons_self ..);rw[List.pairwise_cons] at h2;unfold de
  by_cases hc:k.2+1=lo
  ·simp only[if_pos hc];refine⟨fun x hx=>?_,?_,fun x hx=>?_,fun r=>?_⟩
   ·rcases List.mem_cons.1 hx with rfl|hx
    ·simp only;omega
    ·exact h1 x (List.mem_cons_of_mem _ hx)
   ·rw[List.pairwise_cons];exact⟨h2.1,h2.2⟩
   ·rcases List.mem_cons.1 hx with rfl|hx
    ·simp
    ·have:=h3 x (List.mem_cons_of_mem _ hx);omega
   ·rw[aS (l:=rest),aS (l:=rest)];simp only;constructor
    ·rintro(h|h)
     ·by_cases hh:r≤k.2
      ·exact .inl (.inl ⟨h.1,hh⟩)
      ·exact .inr (by omega)
     ·exact .inl (.inr h)
    ·rintro((h|h)|h)
     ·exact .inl (by omega)
     ·exact .inr h
     ·exact .inl (by omega)
  ·simp only[if_neg hc];refine⟨fun x hx=>?_,?_,fun x hx=>?_,fun r=>?_⟩
   ·rcases List.mem_cons.1 hx with rfl|hx
    ·exact h4
    ·exact h1 x hx
   ·rw[List.pairwise_cons];refine⟨fun y hy=>?_,by rw[List.pairwise_cons];exact h2⟩
    rcases List.mem_cons.1 hy with rfl|hy
    ·simp only;omega
    ·have:=h2.1 y hy;simp only;omega
   ·rcases List.mem_cons.1 hx with rfl|hx
    ·exact Int.le_refl _
    ·have:=h3 x hx;omega
   ·rw[aS];exact⟨fun h=>h.elim .inr .inl,fun h=>h.elim .inr .inl⟩
theorem mT (l:List Rg) (yes:Bool):∀(m:List Int) (acc:List Rg),m.Pairwise (·≤·)→(∀a∈m,0≤a∧a≤1114112)→
  (∀q:Int,(q=55296∨q=57344∨∃x∈l,q∈fv x)→q∈m∨∀a∈m,q≤a)→(∀x∈acc,x.1≤x.2)→acc.Pairwise (fun x y=>y.2+1<x.1)→(∀x∈acc,∀a∈m.head?,x.2<a)→
  (∀x∈cB l yes m acc,x.1≤x.2)∧(cB l yes m acc).Pairwise (fun x y=>y.2+1<x.1)∧
  ∀r,bX (cB l yes m acc) r↔bX acc r∨(bT r∧(bX l r↔yes=true)∧(∃a∈m.head?,a≤r)∧∃b∈m.getLast?,r<b)
 |[],acc,_,_,_,h1,h2,_=>⟨h1,h2,fun r=>⟨.inl,fun h=>h.elim id (by rintro⟨_,_,⟨a,h,_⟩,_⟩;simp at h)⟩⟩
 |[a],acc,_,_,_,h1,h2,_=>⟨h1,h2,fun r=>⟨.inl,fun h=>h.elim id (by rintro⟨_,_,⟨a',h,h'⟩,b,hb,ez⟩;simp at h hb;omega)⟩⟩
 |a::b::t,acc,hs,hr,hm,h1,h2,h3=>by
  have H7:=hs;rw[List.pairwise_cons] at hs;have hab:a≤b:=hs.1 b (List.mem_cons_self ..);have ha:=hr a (List.mem_cons_self ..);have hb:=hr b (List.mem_cons_of_mem _ (List.mem_cons_self ..))
  have key:∀q:Int,(q=55296∨q=57344∨∃x∈l,q∈fv x)→q≤a∨b≤q:=by
   intro q hq
   rcases hm q hq with h|h
   ·rcases List.mem_cons.1 h with rfl|h
    ·exact .inl (Int.le_refl _)
    ·rcases List.mem_cons.1 h with rfl|h
     ·exact .inr (Int.le_refl _)
     ·have:=(List.pairwise_cons.1 hs.2).1 q h;exact .inr this
   ·exact .inl (h a (List.mem_cons_self ..))
  have OU:∀r,a≤r→r<b→(bT r↔¬(55296≤a∧a≤57343))∧(bX l r↔bX l a):=fun r h h'=>
   Ey (m:=[]) (fun x hx e he=>key e (.inr (.inr ⟨x,hx,he⟩))) (by have:=key 55296 (.inl rfl);omega) (by have:=key 57344 (.inr (.inl rfl));omega) ha.1 hb.2 h h'
  have OH:∀q:Int,(q=55296∨q=57344∨∃x∈l,q∈fv x)→q∈b::t∨∀c∈b::t,q≤c:=by
   intro q hq
   rcases hm q hq with h|h
   ·rcases List.mem_cons.1 h with rfl|h
    ·exact .inr hs.1
    ·exact .inl h
   ·exact .inr fun c hc=>h c (List.mem_cons_of_mem _ hc)
  have Ib:∀c∈b::t,0≤c∧c≤1114112:=fun c hc=>hr c (List.mem_cons_of_mem _ hc);have mf:∀r,(∃e∈(a::b::t).getLast?,r<e)↔∃e∈(b::t).getLast?,r<e:=fun r=>by rw[List.getLast?_cons_cons]
  have hbl:∃e∈(b::t).getLast?,b≤e:=by
   refine⟨(b::t).getLast (by simp),by rw[List.getLast?_eq_some_getLast (by simp)];simp,?_⟩;have:=List.getLast_mem (l:=b::t) (by simp)
   rcases List.mem_cons.1 this with h|h
   ·rw[h];exact Int.le_refl _
   ·exact(List.pairwise_cons.1 hs.2).1 _ h
  have hok:EH l yes a b=true↔a<b∧¬(55296≤a∧a≤57343)∧(bX l a↔yes=true):=by
   unfold EH;rw[←pS];cases ia l a<;>cases yes<;>simp<;>omega
  unfold cB
  by_cases hc:EH l yes a b=true
  ·rw[if_pos hc];obtain⟨c1,c2,c3⟩:=hok.1 hc;obtain⟨p1,p2,p3,p4⟩:=BC h1 h2 (fun x hx=>h3 x hx a rfl) (show a≤b-1 by omega);obtain⟨g1,g2,g3⟩:=mT l yes (b::t) _ hs.2 Ib OH p1 p2 (fun x hx c hc=>by simp at hc;subst hc;have:=p3 x hx;omega);refine⟨g1,g2,fun r=>(g3 r).trans ?_⟩;rw[p4,mf];constructor
   ·rintro((h|h)|⟨h4,h5,⟨c,hc,h6⟩,h7⟩)
    ·exact .inl h
    ·obtain⟨k1,k2⟩:=OU r h.1 (by omega);obtain⟨e,he,S'⟩:=hbl;exact .inr ⟨k1.2 c2,k2.trans c3,⟨a,rfl,h.1⟩,e,he,by omega⟩
    ·simp at hc;subst hc;exact .inr ⟨h4,h5,⟨a,rfl,by omega⟩,h7⟩
   ·rintro(h|⟨h4,h5,⟨c,hc,h6⟩,h7⟩)
    ·exact .inl (.inl h)
    ·simp at hc;subst hc
     by_cases JN:r<b
     ·exact .inl (.inr (by omega))
     ·exact .inr ⟨h4,h5,⟨b,rfl,by omega⟩,h7⟩
  ·rw[if_neg hc];obtain⟨g1,g2,g3⟩:=mT l yes (b::t) acc hs.2 Ib OH h1 h2 (fun x hx c hc=>by simp at hc;subst hc;have:=h3 x hx a rfl;omega);refine⟨g1,g2,fun r=>(g3 r).trans ?_⟩;rw[mf];constructor
   ·rintro(h|⟨h4,h5,⟨c,hc,h6⟩,h7⟩)
    ·exact .inl h
    ·simp at hc;subst hc;exact .inr ⟨h4,h5,⟨a,rfl,by omega⟩,h7⟩
   ·rintro(h|⟨h4,h5,⟨c,xE,h6⟩,h7⟩)
    ·exact .inl h
    ·simp at xE;subst xE
     by_cases JN:r<b
     ·exfalso
      obtain⟨k1,k2⟩:=OU r h6 JN;exact hc (hok.2 ⟨by omega,k1.1 h4,k2.symm.trans h5⟩)
     ·exact .inr ⟨h4,h5,⟨b,rfl,by omega⟩,h7⟩
theorem kY {l:List Rg} {m:List Int} (yes:Bool) (hp:∀q,q∈m↔q=0∨q=55296∨q=57344∨q=1114112∨∃x∈l,q∈fv x) (hs:m.Pairwise (·≤·)):
  canon (cB l yes m []).reverse∧∀r,bX (cB l yes m []).reverse r↔bT r∧(bX l r↔yes=true):=by
 have hr:∀a∈m,0≤a∧a≤1114112:=by
  intro a ha
  rcases(hp a).1 ha with h|h|h|h|⟨x,hx,h⟩
  ·omega
  ·omega
  ·omega
  ·omega
  ·unfold fv at h
   rcases List.mem_append.1 h with h|h<;>split at h<;>simp at h<;>omega
 obtain⟨g1,g2,g3⟩:=mT l yes m [] hs hr (fun q hq=>.inl ((hp q).2 (by rcases hq with h|h|h;exact .inr (.inl h);exact .inr (.inr (.inl h));exact .inr (.inr (.inr (.inr h)))))) (fun x hx=>by simp at hx) List.Pairwise.nil (fun x hx=>by simp at hx);have h0:(0:Int)∈m:=(hp 0).2 (.inl rfl);have h9:(1114112:Int)∈m:=(hp _).2 (.inr (.inr (.inr (.inl rfl))))
 have hh:∃a∈m.head?,a≤0:=by
  cases m with
  |nil=>cases h0
  |cons a t=>
   refine⟨a,rfl,?_⟩
   rcases List.mem_cons.1 h0 with h|h
   ·omega
   ·exact(List.pairwise_cons.1 hs).1 _ h
 have hl:∃b∈m.getLast?,1114112≤b:=by
  have hne:m≠[]:=List.ne_nil_of_mem h0;refine⟨m.getLast hne,by rw[List.getLast?_eq_some_getLast hne];simp,?_⟩;obtain⟨i,hi,he⟩:=List.getElem_of_mem h9;rw[List.getLast_eq_getElem,←he]
  rcases Nat.lt_or_ge i (m.length-1) with h|h
  ·exact(List.pairwise_iff_getElem.1 hs) i (m.length-1) hi (by omega) h
  ·have:i=m.length-1:=by omega
   subst this;exact Int.le_refl _
 refine⟨⟨fun x hx=>g1 x (List.mem_reverse.1 hx),by rw[List.pairwise_reverse];exact g2⟩,fun r=>?_⟩;rw[mZ (fun x=>List.mem_reverse) r,g3 r];constructor
 ·rintro(h|⟨h1,h2,_⟩)
  ·exact absurd h (dj r)
  ·exact⟨h1,h2⟩
 ·rintro⟨h1,h2⟩;obtain⟨a,ha,Tb⟩:=hh;obtain⟨b,hb,ez⟩:=hl;have:=h1;unfold bT at this;exact .inr ⟨h1,h2,⟨a,ha,by omega⟩,b,hb,by omega⟩
end Go.V
namespace Go.Proofs.YtajblankjjmonaaGreat
open Go.V Go
def xr (fr:Go.V.Fr) (k:Nat):Go.V.D:=Go.V.nth .junk fr.loc k
def ag (x:Rg):List D:=[.int .i32 x.1,.int .i32 x.2]
def aA (l:List Rg):D:=.sl (l.map fun x=>.agg (ag x))
theorem dc (l:List Rg):D.sl ((l.map ag).map (ic 2))=aA l:=by
 unfold aA;rw[List.map_map];rfl
theorem da (l:List Rg):∀e∈l.map ag,∀d∈e,bS d=true:=by
 intro e he d hd;obtain⟨x,_,rfl⟩:=List.mem_map.1 he;simp only[ag,List.mem_cons,List.not_mem_nil,or_false] at hd
 rcases hd with rfl|rfl<;>rfl
theorem lq (l:List Rg):refs (l.map ag).flatten=0:=by
 induction l with
 |nil=>rfl
 |cons x l ih=>simp only[List.map_cons,List.flatten_cons,ag,List.cons_append,List.nil_append,refs,D.ref,ih];rfl
theorem mS (l:List Rg):∀e∈l.map ag,e.length=2:=by
 intro e he;obtain⟨x,_,rfl⟩:=List.mem_map.1 he;rfl
theorem cG (st:St) (l:List Rg):V.Rows st 2 (aA l) (l.map ag):=by
 rw[←dc];exact Rows.l4 (mS l) (da l)
theorem cF {l:List Rg} {i:Nat} {q:Rg} (h:l[i]?=some q):(l.map ag)[i]?=some (ag q):=by rw[List.getElem?_map,h];rfl
theorem Au (l:List Rg) (q:Rg) (r:Int):ia (l++[q]) r=(ia l r||(decide (q.1≤r) &&decide (r≤q.2))):=by
 induction l with
 |nil=>simp[ia]
 |cons x l ih=>simp only[List.cons_append,ia,ih,Bool.or_assoc]
theorem CD {l:List Rg} {i:Nat} {r:Int} (h:ia (l.take i) r=true):ia l r=true:=by
 rw[pS] at h⊢;obtain⟨x,h1,h2⟩:=h;exact⟨x,List.mem_of_mem_take h1,h2⟩
theorem ku {s0:St} {x:D} {l:List Rg} {r:Int} (hx:V.Rows s0 2 x (l.map ag)) (hl:l.length≤1073741824):Ev pv 75 [x,.int .i32 r] s0 (.bool (ia l r)) s0:=by
 refine Ev.mk1 rfl MB rfl rfl rfl ?_;refine zE ?_;obtain⟨hSb,hF,hH⟩:=ri s0;generalize enterSt .ro s0=S at*;have hx:=Arg.of hx hSb;refine zQ 10 ?_;refine EvC.loop (fun mm fr st=>∃(i:Nat),fr.clean=⟨6,[x,.int .i32 r,xr fr 2,xr fr 3,.bool false,.int .i64 (i:Nat)],[]⟩∧Has s0.bs.length S st []∧(i+mm=l.length)∧(ia (l.take i) r=false)) (l.length) ?_ ?_
 ·exact⟨0,rfl,hH,by omega,rfl⟩
 rintro mm fr st ⟨i,hfr,hH,hi,hn⟩;rw[hfr];clear hfr;generalize xr fr=ee;clear fr;refine zQ 5 ?_;refine qn ?_;simp only[List.length_map];refine zQ 2 ?_;refine zP (fun h1=>?_) fun h1=>?_
 ·refine zQ 1 ?_
  obtain⟨q,hq⟩:∃q,l[i]?=some q:=⟨l[i]'(by omega),List.getElem?_eq_getElem _⟩
  have hr:=cF hq;refine zQ 3 ?_;refine EvC.cutT 27 (.bool (decide (r≥q.1) &&decide (r≤q.2))) [] ?_ (fun ff tmp htmp=>?_)
  ·refine zQ 3 ?_;refine qr fun Oa Ip=>?_;refine qf (fo:=0) fun Kg F2=>?_;refine zQ 3 ?_;refine EvO.two 19 rfl (fun oO=>?_) (fun oO=>?_)
   ·refine zQ 3 ?_;refine qr (fun HF Cl=>?_) (hg:=wi oO);refine qf (fo:=1) (fun Fs xx=>?_) (hg:=wi oO);refine zQ 3 ?_;refine EvO.nil (leafT ?_ ?_)
    ·dsimp only[setW,List.foldl,nth,u2,u1]
     all_goals(first|rfl|simp)
    ·refine zF ?_
     all_goals(simp[oO];done)
   ·refine zQ 8 ?_;refine EvO.nil (leafT ?_ ?_)
    ·dsimp only[setW,List.foldl,nth,u2,u1]
     all_goals(first|rfl|simp)
    ·refine zF ?_
     all_goals(simp[oO];done)
  refine zG ?_
  have ht:ia (l.take (i+1)) r=(decide (r≥q.1) &&decide (r≤q.2)):=by
   rw[List.take_add_one,hq,Option.toList_some,Au,hn];simp
  refine qc (fun h2=>?_) (fun h2=>?_)<;>try simp only[cs] at h2
  ·refine zQ 4 ?_;rw[CD (i:=i+1) (by rw[ht];simp[h2])];refine EvC.ret ⟨rx,_,rfl,rl hSb hH (rfl)⟩
  ·refine zQ 6 ?_;exact⟨mm-1,by omega,⟨i+1,rfl,hH,by omega,by rw[ht];simp[h2]⟩⟩
 ·refine zQ 5 ?_;have:ia l r=false:=by rw[←hn,List.take_of_length_le (by omega)]
  rw[this];refine EvC.ret ⟨rx,_,rfl,rl hSb hH (rfl)⟩
def aK (fr:Go.V.Fr) (k:Nat):Go.V.D:=Go.V.nth .junk fr.loc k
def eN:List Rg:=[(0,55295),(57344,1114111)]
def qY (lo hi:Int) (p:Rg):List Rg:=if max lo p.1≤min hi p.2 then[(max lo p.1,min hi p.2)] else[]
theorem sK (q:Rg):cw q=eN.flatMap (qY (max q.1 0) (min q.2 1114111)):=by
 simp[cw,eN,qY]
theorem Bk {s0:St} (q:Rg):Ev pv 78 [.agg (ag q)] s0 (aA (cw q)) s0:=by
 refine Ev.mk1 rfl My rfl rfl rfl ?_;refine zE ?_;obtain⟨hSb,hF,hH⟩:=ri s0;generalize enterSt .ro s0=S at*;refine zQ 2 ?_;refine qb hH fun k1 st nx hH=>?_;dsimp only[u2,u1,u3,u4,setMany,u5,u6,D.cells,Nat.reduceAdd,ag] at hH;refine zQ 6 ?_;refine EvO.FC (t1:=0) (t2:=0) rfl (ev rfl) (ev rfl) (by dsimp only[Fr.put,u1,u2]<;>rfl) ?_;refine zQ 2 ?_;refine EvO.FB (t1:=0) (t2:=0) rfl (ev rfl) (ev rfl) (by dsimp only[Fr.put,u1,u2]<;>rfl) ?_;refine zQ 1 ?_;refine qT hH at0 fun st hH=>?_;dsimp only[u2,u1,u3,u4,setMany,u5,u6,D.cells,Nat.reduceAdd,ag] at hH;refine zQ 1 ?_;refine qT hH at0 fun st hH=>?_;dsimp only[u2,u1,u3,u4,setMany,u5,u6,D.cells,Nat.reduceAdd,ag] at hH;refine zQ 1 ?_;generalize wD:max q.1 0=lo at*;generalize yX:min q.2 1114111=hi at*;refine zQ 4 ?_;have hH:=hH.nulE 2;refine zQ 5 ?_;refine qh (s:=2) (vs:=[_,_]) hH fun k17 st IM hH=>?_;dsimp only[u2,u1,u3,u4,setMany,u5,u6,D.cells,Nat.reduceAdd,ag] at hH;refine qn ?_ (hR:=hH.rows at0);simp only[List.length_cons,List.length_nil];refine zQ 3 ?_;refine EvC.loop (fun mm fr st=>∃(i:Nat) (x:D),fr.clean=⟨20,[.agg (ag q),.ptr k1 0 0,.nul,x,aK fr 4,aK fr 5,aK fr 6,aK fr 7,aK fr 8,aK fr 9,aK fr 10,aK fr 11,aK fr 12,aK fr 13,aK fr 14,aK fr 15,aK fr 16,.win k17 0 0 2 2,.int .i64 2,.int .i64 (i:Nat)],[]⟩∧Has s0.bs.length S st [.lst (.win k17 0 0 2 2) 2 (eN.map ag),.lst x 2 (((eN.take i).flatMap (qY lo hi)).map ag),.box k1 (.mem 0 false [.int .i32 lo,.int .i32 hi])]∧(i+mm=2)∧(((eN.take i).flatMap (qY lo hi)).length≤i)) (2) ?_ ?_
 ·exact⟨0,.nul,rfl,hH,by omega,by simp⟩
 rintro mm fr st ⟨i,x,hfr,hH,hij,hb⟩;rw[hfr];clear hfr;generalize aK fr=ee;clear fr;refine zQ 5 ?_;refine zP (fun h1=>?_) fun h1=>?_
 ·refine zQ 1 ?_
  obtain⟨p,hp⟩:∃p,eN[i]?=some p:=⟨eN[i]'(by simp[eN];omega),List.getElem?_eq_getElem _⟩
  have hr:=cF hp;refine zQ 4 ?_;refine qi hH at0 fun G5 An=>?_;refine EvO.BQ hH rfl (ev rfl) (by assumption) (by exact at0) (by assumption) rfl (put_T rfl _) ?_;refine qa hH fun k5 st IG hH=>?_;refine qS hH at0 fun st hH=>?_;dsimp only[u2,u1,u3,u4,setMany,u5,u6,D.cells,Nat.reduceAdd,ag] at hH;refine zQ 7 ?_;refine EvO.FC (t1:=0) (t2:=0) rfl (ev rfl) (ev rfl) (put_T rfl _) ?_;refine zQ 4 ?_;refine EvO.FB (t1:=0) (t2:=0) rfl (ev rfl) (ev rfl) (put_T rfl _) ?_;refine qg ?_;refine qa hH fun k6 st EX hH=>?_;refine qS hH at0 fun st hH=>?_;dsimp only[u2,u1,u3,u4,setMany,u5,u6,D.cells,Nat.reduceAdd,ag] at hH;refine zQ 9 ?_;refine zP (fun h2=>?_) fun h2=>?_
  ·refine zQ 2 ?_;refine EvO.hloadS (m:=2) hH rfl (ev rfl) (by exact at0) (by dsimp only[List.drop_succ_cons,List.drop_zero,List.take_succ_cons,List.take_zero,ag]<;>rfl) rfl rfl (put_T rfl _) ?_;refine qh (s:=2) (vs:=[_]) hH fun k41 st II hH=>?_;refine EvO.happend (s:=2) hH rfl (ev rfl) (ev rfl) (by exact at4) (by exact hH.rows (by exact at0)) rfl rfl rfl rfl rfl rfl rfl ⟨(Nat.le_of_ble_eq_true rfl),(Nat.le_of_ble_eq_true rfl)⟩ (fun _=>(put_T rfl _)) (by simp only[List.length_cons,List.length_nil,List.length_map]<;>omega) (by exact .inl hF) (fun Hk st hH=>?_);dsimp only[u2,u1,u3,u4,setMany,u5,u6,D.cells,Nat.reduceAdd,ag] at hH;refine zQ 6 ?_
   have h3:(eN.take (i+1)).flatMap (qY lo hi)=(eN.take i).flatMap (qY lo hi)++[(max lo p.1,min hi p.2)]:=by
    rw[List.take_add_one,hp,List.flatMap_append];simp[qY,h2]
   exact⟨mm-1,by omega,⟨i+1,Hk,rfl,(by rw[h3,List.map_append];exact hH.drop 3),by omega,by rw[h3];simp only[List.length_append,List.length_cons,List.length_nil];omega⟩⟩
  ·refine zQ 5 ?_
   have h3:(eN.take (i+1)).flatMap (qY lo hi)=(eN.take i).flatMap (qY lo hi):=by
    rw[List.take_add_one,hp,List.flatMap_append];simp[qY,h2]
   exact⟨mm-1,by omega,⟨i+1,x,rfl,(by rw[h3];exact hH.drop 2),by omega,by rw[h3];omega⟩⟩
 ·refine zQ 6 ?_;rw[←dc];have h3:eN.take i=eN:=List.take_of_length_le (by simp[eN];omega);rw[h3] at hH;refine EvC.ret ⟨rx,_,rfl,rl hSb hH ?_⟩;refine Eq.trans (hH.freeze at1 (da _) (n:=15) (by decide)) ?_;rw[sK,wD,yX]
theorem zB (q x:Rg) (h:x∈cw q):0≤x.1∧x.1≤1114111:=by
 obtain⟨h1,h2,h3⟩:=mO q x h;omega
theorem o7 (q:Rg):(cw q).length≤2:=by
 unfold cw;split<;>split<;>simp
theorem gW (l:List Rg):(l.flatMap cw).length≤2*l.length:=by
 induction l with
 |nil=>simp
 |cons x l ih=>simp only[List.flatMap_cons,List.length_append,List.length_cons];have:=o7 x;omega
theorem rq:∀{l:List Rg},(∀x∈l,0≤x.1∧x.1≤1114111)→∃m:List Rs,eI m=(l.map ag).flatten∧m.map (fun x=>(x.lo,x.hi))=l
 |[],_=>⟨[],rfl,rfl⟩
 |x::l,h=>by
  obtain⟨m,h1,h2⟩:=rq (l:=l) fun y hy=>h y (List.mem_cons_of_mem _ hy);obtain⟨h3,h4⟩:=h x (List.mem_cons_self ..);exact⟨⟨x.1,x.2,h3,h4⟩::m,by simp only[eI,h1,List.map_cons,List.flatten_cons,ag,List.cons_append,List.nil_append],by simp[h2]⟩
theorem xJ (m:List Rs):eI m=((m.map fun x=>((x.lo,x.hi):Rg)).map ag).flatten:=by
 induction m with
 |nil=>rfl
 |cons x m ih=>simp only[eI,ih,List.map_cons,List.flatten_cons,ag,List.cons_append,List.nil_append]
theorem CC {N:Nat} {S st:St} {H:List bG} {j:Nat} {x:D} {l:List Rg} (hH:Has N S st H) (hj:H[j]?=some (.lst x 2 (l.map ag))) (h0:l=[]→x=.nul) (hl:l.length≤1073741824) (hr:∀y∈l,0≤y.1∧y.1≤1114111):
  ∃(ae:St) (l':List Rg),Ev pv 79 [x,.fn 80 []] st (.tup []) ae∧Has N S ae (H.set j (.lst x 2 (l'.map ag)))∧l'.Perm l∧l'.Pairwise fun a b=>a.1≤b.1:=by
 obtain⟨m,h1,h2⟩:=rq hr;obtain⟨h3,h4⟩:=srt_facts m;have pN:m.length=l.length:=by rw[←h2];simp
 have hperm:((srt m).map fun x=>((x.lo,x.hi):Rg)).Perm l:=by rw[←h2];exact h3.map _
 have ji:((srt m).map fun x=>((x.lo,x.hi):Rg)).Pairwise fun a b=>a.1≤b.1:=by rw[List.pairwise_map];exact h4
 have hlen:(srt m).length=l.length:=h3.length_eq.trans pN;have hown:=hH.own hj;generalize oP:l.map ag=es at*;have tB:es.length=l.length:=by rw[←oP];simp
 cases hown with
 |nul=>
  have IC:l=[]:=by cases l with|nil=>rfl|cons _ _=>simp at tB
  refine⟨st,(srt m).map fun x=>(x.lo,x.hi),Ev.prim rfl rfl,?_,hperm,ji⟩
  have:(srt m).map (fun x=>((x.lo,x.hi):Rg))=[]:=by
   cases hs:srt m with
   |nil=>rfl
   |cons a b=>rw[hs,IC] at hlen;simp at hlen
  rw[this];exact hH.Dx hj (fun _ _ _=>rfl) (Nat.le_refl _) rfl rfl .nul (fun k hk=>.inl hk) fun k hk=>by simp only[bG.lst,D.ref] at hk;omega
 |win k aq off es c hm hle hc he=>
  have hne:l≠[]:=fun e=>by have:=h0 e;cases this
  have tw:1≤l.length:=by cases l with|nil=>exact absurd rfl hne|cons _ _=>simp
  have hk:=(hH.ok j _ hj).2 k (by simp only[bG.lst,D.ref]);have xB:(eI (srt m)).length=es.length*2:=by rw[mj,hlen,tB];omega
  have hwr:st.wr k aq off (eI (srt m))=some ⟨st.bs.set k (.mem aq true (c.take off++eI (srt m)++c.drop (off+(eI (srt m)).length))),st.flr,st.ro⟩:=
   lf hm (by omega) (iE hH hk.1 (.inr (sc _)))
  refine⟨⟨st.bs.set k (.mem aq true (c.take off++eI (srt m)++c.drop (off+(eI (srt m)).length))),st.flr,st.ro⟩,(srt m).map fun x=>(x.lo,x.hi),Ev.prim rfl ?_,?_,hperm,ji⟩
  ·show zz [.win k aq off es.length 2,.fn 80 []] st=_;have hcc:(c.drop off).take (2*es.length)=eI m:=by rw[Nat.mul_comm,hc,h1]
   simp only[zz,St.mem_of hm,hcc,yr,Ff];rw[decide_eq_true (⟨by rw[pN,tB],by omega,by omega⟩:m.length=es.length∧1≤es.length∧es.length<1099511627776)];simp only[hwr]
  ·refine hH.Dx hj (fun n hn hne=>?_) (by simp) rfl rfl ?_ (fun n hn=>.inl hn) fun n hn=>?_
   ·simp only;rw[List.getElem?_set_ne (fun e=>hne (by simp only[bG.lst,D.ref];omega))]
   ·have h9:=gq.win (st:=⟨st.bs.set k (.mem aq true (c.take off++eI (srt m)++c.drop (off+(eI (srt m)).length))),st.flr,st.ro⟩) (s:=2) k aq off (((srt m).map fun x=>((x.lo,x.hi):Rg)).map ag) (c.take off++eI (srt m)++c.drop (off+(eI (srt m)).length))
     (by simp only;rw[List.getElem?_set_self hk.2]) (by simp only[List.length_append,List.length_take,List.length_map,List.length_drop,xB];omega) ?_ (mS _)
    ·simp only[List.length_map,hlen] at h9;rw[tB];exact h9
    ·have Lj:(c.take off).length=off:=by simp;omega
     rw[List.append_assoc,List.drop_left' Lj,←xJ,List.take_left' (by simp only[List.length_map,hlen];omega)]
   ·simp only[bG.lst,D.ref] at hn;simp only[List.length_set];omega
theorem pG (l:List Rg):(l.foldl cY []).length≤l.length:=by
 have key:∀(l acc:List Rg),(l.foldl cY acc).length≤acc.length+l.length:=by
  intro l
  induction l with
  |nil=>intro acc;simp
  |cons x l ih=>
   intro acc;simp only[List.foldl_cons,List.length_cons];have:=ih (cY acc x)
   have h2:(cY acc x).length≤acc.length+1:=by
    unfold cY;split
    ·simp
    ·split<;>simp
   omega
 have:=key l []
 simpa using this
theorem D1 {l:List Rg} (h:∀x∈l,0≤x.2∧x.2≤1114111):∀x∈l.foldl cY [],0≤x.2∧x.2≤1114111:=by
 have key:∀(l acc:List Rg),(∀x∈l,0≤x.2∧x.2≤1114111)→(∀x∈acc,0≤x.2∧x.2≤1114111)→∀x∈l.foldl cY acc,0≤x.2∧x.2≤1114111:=by
  intro l
  induction l with
  |nil=>intro acc _ h x hx;exact h x hx
  |cons y l ih=>
   intro acc h1 h2;refine ih _ (fun x hx=>h1 x (List.mem_cons_of_mem _ hx)) fun x hx=>?_;have hy:=h1 y (List.mem_cons_self ..);unfold cY at hx
   split at hx
   ·simp only[List.mem_cons,List.not_mem_nil,or_false] at hx;rw[hx];exact hy
   ·rename_i k rest;have hk:=h2 k (List.mem_cons_self ..)
    split at hx
    ·rcases List.mem_cons.1 hx with rfl|hx
     ·simp only;omega
     ·exact h2 x (List.mem_cons_of_mem _ hx)
    ·rcases List.mem_cons.1 hx with rfl|hx
     ·exact hy
     ·exact h2 x hx
 exact key l [] h (fun x hx=>by cases hx)
theorem vp (h:Rg) (t:List Rg):((h::t).reverse.map ag)[t.length]?=some (ag h):=by
 rw[List.getElem?_map,List.reverse_cons,List.getElem?_append_right (by simp)];simp
theorem vn (h h':Rg) (t:List Rg):((h::t).reverse.map ag).set t.length (ag h')=(h'::t).reverse.map ag:=by
 rw[List.reverse_cons,List.map_append,List.set_append_right _ _ (by simp)];simp
theorem yH {s0:St} {x:D} {l:List Rg} (hx:V.Rows s0 2 x (l.map ag)) (hl:l.length≤268435456):∃d,Ev pv 66 [x] s0 d s0∧∃all:List Rg,d=aA (all.foldl cY []).reverse∧all.Perm (l.flatMap cw)∧all.Pairwise fun a b=>a.1≤b.1:=by
 refine Ev.yE rfl MK rfl rfl rfl ?_;refine zE ?_;obtain⟨hSb,hF,hH⟩:=ri s0;generalize enterSt .ro s0=S at*;have hx:=Arg.of hx hSb;have lD:=gW l
 have hfi:∀i,((l.take i).flatMap cw).length≤2*l.length:=fun i=>by
  have:=gW (l.take i);simp only[List.length_take] at this;omega
 refine zQ 13 ?_;refine qn ?_;simp only[List.length_map];refine zQ 2 ?_;have hH:=hH.nulE 2;refine zQ 1 ?_;refine EvC.loop (fun mm fr st=>∃(i:Nat) (y:D),fr.clean=⟨26,[x,aK fr 1,aK fr 2,y,.nul,aK fr 5,aK fr 6,aK fr 7,aK fr 8,aK fr 9,x,.int .i64 (l.length:Nat),.int .i64 (i:Nat),aK fr 13,aK fr 14,aK fr 15,aK fr 16,aK fr 17,aK fr 18,aK fr 19,aK fr 20,aK fr 21,aK fr 22,aK fr 23,aK fr 24,aK fr 25],[]⟩∧Has s0.bs.length S st [.lst y 2 (((l.take i).flatMap cw).map ag)]∧(i+mm=l.length)∧((l.take i).flatMap cw=[]→y=.nul)) (l.length) ?_ ?_
 ·exact⟨0,.nul,rfl,hH,by omega,fun _=>rfl⟩
 rintro mm fr st ⟨i,y,hfr,hH,hi,F6⟩;rw[hfr];clear hfr;generalize aK fr=ee;clear fr;refine zQ 4 ?_;have hm:=hfi i;refine qq<|zP (fun h1=>?_) fun h1=>?_
 ·refine zQ 1 ?_
  obtain⟨q,hq⟩:∃q,l[i]?=some q:=⟨l[i]'(by omega),List.getElem?_eq_getElem _⟩
  have hr:=cF hq
  have tW:(l.take (i+1)).flatMap cw=(l.take i).flatMap cw++cw q:=by
   rw[List.take_add_one,hq];simp
  have SS:=o7 q;refine zQ 4 ?_;refine qr fun SO QK=>?_;refine EvO.cx rfl (ev rfl) (by assumption) rfl (by dsimp only[Fr.put,u1,u2]<;>rfl) ?_;refine qa hH fun k6 st EX hH=>?_;refine qS hH at0 fun st hH=>?_;dsimp only[u2,u1,u3,u4,setMany,u5,u6,D.cells,Nat.reduceAdd,ag] at hH;refine zQ 3 ?_;refine EvO.hloadS (m:=2) hH rfl (ev rfl) (by exact at0) (by dsimp only[List.drop_succ_cons,List.drop_zero,List.take_succ_cons,List.take_zero,ag]<;>rfl) rfl rfl (by dsimp only[Fr.put,u1,u2]<;>rfl) ?_;refine qv (Bk q) ?_;refine EvO.CE hH rfl rfl rfl (by exact at1) (cG _ _) rfl rfl rfl rfl rfl rfl rfl ⟨(Nat.le_of_ble_eq_true rfl),(Nat.le_of_ble_eq_true rfl)⟩ (fun _=>by dsimp only[Fr.put,u1,u2]<;>rfl) (by simp only[List.length_map];omega) (.inl hF) (fun Ph st It hH=>?_);dsimp only[u2,u1] at hH;refine zQ 6 ?_;exact⟨mm-1,by omega,⟨i+1,Ph,rfl,(by rw[tW,List.map_append];exact hH.drop 1),by omega,by rw[tW];intro h;obtain⟨h3,h4⟩:=List.append_eq_nil_iff.1 h;rw[It (by rw[h4];rfl)];exact F6 h3⟩⟩
 ·refine zQ 1 ?_;have hT:l.take i=l:=List.take_of_length_le (by omega);rw[hT] at hH F6 hm
  obtain⟨st2,all,hev,He,hperm,ji⟩:=CC hH at0 F6 (by omega) (fun z hz=>by
   obtain⟨w,_,hw⟩:=List.mem_flatMap.1 hz
   exact zB w z hw)
  have hlen:=hperm.length_eq
  have hbd:∀z∈all,0≤z.2∧z.2≤1114111:=fun z hz=>by
   obtain⟨w,_,hw⟩:=List.mem_flatMap.1 (hperm.mem_iff.1 hz);have:=mO w z hw;omega
  refine zQ 3 ?_;refine qv (hev) ?_;refine zQ 1 ?_;have hH:=He;dsimp only[u2] at hH;clear He hev;have hR:=hH.rows at0;have hH:=hH.nulE 2;refine zQ 4 ?_;refine qn ?_ (hR:=hH.rows at1);simp only[List.length_map];refine zQ 3 ?_;refine EvC.loop (fun mm fr st=>∃(i:Nat) (z:D),fr.clean=⟨26,[x,aK fr 1,aK fr 2,y,z,aK fr 5,aK fr 6,aK fr 7,aK fr 8,aK fr 9,aK fr 10,aK fr 11,aK fr 12,aK fr 13,aK fr 14,aK fr 15,aK fr 16,aK fr 17,aK fr 18,aK fr 19,aK fr 20,aK fr 21,aK fr 22,y,.int .i64 (all.length:Nat),.int .i64 (i:Nat)],[]⟩∧Has s0.bs.length S st [.lst z 2 (((all.take i).foldl cY []).reverse.map ag),.lst y 2 (all.map ag)]∧(i+mm=all.length)) (all.length) ?_ ?_
  ·exact⟨0,.nul,rfl,hH,by omega⟩
  rintro mm fr st ⟨i,z,hfr,hH,hi⟩;rw[hfr];clear hfr;generalize aK fr=ee;clear fr;refine zQ 4 ?_
  have jB:((all.take i).foldl cY []).length≤all.length:=by
   have:=pG (all.take i);simp only[List.length_take] at this;omega
  refine qq<|zP (fun h1=>?_) fun h1=>?_
  ·refine zQ 1 ?_
   obtain⟨q,hq⟩:∃q,all[i]?=some q:=⟨all[i]'(by omega),List.getElem?_eq_getElem _⟩
   have hr:=cF hq
   have JS:(all.take (i+1)).foldl cY []=cY ((all.take i).foldl cY []) q:=by
    rw[List.take_add_one,hq,List.foldl_append];rfl
   generalize vK:(all.take i).foldl cY []=acc at*;refine zQ 4 ?_;refine qi hH at1 fun p27 hp27=>?_;refine EvO.BQ hH rfl (ev rfl) (by assumption) (by exact at1) (by assumption) rfl (put_T rfl _) ?_;refine qa hH fun k8 st hk8 hH=>?_;refine qS hH at0 fun st hH=>?_;dsimp only[u2,u1,u3,u4,setMany,u5,u6,D.cells,Nat.reduceAdd,ag] at hH;refine zQ 1 ?_
   rcases acc with _|⟨h,t⟩
   ·refine zQ 3 ?_;refine qn ?_ (hR:=hH.rows at1);simp only[List.length_map,List.length_nil,List.length_reverse];refine EvO.jo (z:=(-1)) rfl (ev rfl) (ev rfl) (by rw[wrap_i64 (by omega) (by omega)]<;>omega) (put_T rfl _) ?_;refine zQ 2 ?_;have bZ:decide ((-1:Int)≥0)=false:=by decide
    refine qq<|EvC.cutT 44 (.bool false) [] ?_ (fun ff tmp htmp=>?_)
    ·refine zQ 13 ?_;refine EvO.nil (leafT ?_ ?_)
     ·dsimp only[setW,List.foldl,nth,u2,u1]
      all_goals(first|rfl|simp)
     ·dsimp only[Fr.putO,Fr.put,Fr.clean,Fr.ev,Fr.get,nth,look,u1,u2,v1,v2,v4]
      all_goals(rfl)
    dsimp only[setW,List.foldl,nth,u2,u1];dsimp only[Fr.putO,Fr.put,Fr.clean,Fr.ev,Fr.get,nth,look,u1,u2,v1,v2,v4];refine zQ 3 ?_;refine EvO.hloadS (m:=2) hH rfl (ev rfl) (by exact at0) (by dsimp only[List.drop_succ_cons,List.drop_zero,List.take_succ_cons,List.take_zero,ag]<;>rfl) rfl rfl (put_T rfl _) ?_;refine qh (s:=2) (vs:=[_]) hH fun k59 st Lv hH=>?_;refine EvO.happend (s:=2) hH rfl (ev rfl) (ev rfl) (by exact at2) (by exact hH.rows (by exact at0)) rfl rfl rfl rfl rfl rfl rfl ⟨(Nat.le_of_ble_eq_true rfl),(Nat.le_of_ble_eq_true rfl)⟩ (fun _=>(put_T rfl _)) (by simp only[List.length_cons,List.length_nil,List.length_map,List.length_reverse]<;>omega) (by exact .inl hF) (fun Du st hH=>?_);dsimp only[u2,u1,u3,u4,setMany,u5,u6,D.cells,Nat.reduceAdd,ag] at hH;refine zQ 6 ?_;exact⟨mm-1,by omega,⟨i+1,Du,rfl,(by rw[JS];exact hH.drop 2),by omega⟩⟩
   ·simp only[List.length_cons] at jB;refine zQ 3 ?_;refine qn ?_ (hR:=hH.rows at1);simp only[List.length_map,List.length_cons,List.length_reverse];refine EvO.jo (z:=((t.length:Nat):Int)) rfl (ev rfl) (ev rfl) (by rw[wrap_i64 (by omega) (by omega)]<;>omega) (put_T rfl _) ?_;refine zQ 2 ?_;have mf:=vp h t;have fq:=vn h (h.1,max h.2 q.2) t;have yX:=D1 (l:=all.take i) (fun x hx=>hbd x (List.mem_of_mem_take hx)) h (by rw[vK];exact List.mem_cons_self ..);have bZ:decide (((t.length:Nat):Int)≥0)=true:=by rw[decide_eq_true];omega
    refine qq<|EvC.cutT 44 (.bool (decide (q.1≤h.2+1))) [] ?_ (fun ff tmp htmp=>?_)
    ·refine zQ 7 ?_;refine qi hH at1 (fun N' Im=>?_) (hg:=wi bZ);refine EvO.cI (fo:=1) (m:=0) (o2:=1) (wantD_is rfl rfl rfl bZ) (ev rfl) (by assumption) rfl rfl rfl (fun _=>(put_T rfl _)) (fun Kd FZ=>?_);refine zQ 1 ?_;refine EvO.addS32 (wantD_is rfl rfl rfl bZ) (ev rfl) (ev rfl) (by omega) (by omega) (put_T rfl _) ?_;refine zQ 2 ?_;refine EvO.nil (leafT ?_ ?_)
     ·dsimp only[setW,List.foldl,nth,u2,u1]
      all_goals(first|rfl|simp)
     ·dsimp only[Fr.putO,Fr.put,Fr.clean,Fr.ev,Fr.get,nth,look,u1,u2,v1,v2,v4]
      all_goals(rfl)
    dsimp only[setW,List.foldl,nth,u2,u1];dsimp only[Fr.putO,Fr.put,Fr.clean,Fr.ev,Fr.get,nth,look,u1,u2,v1,v2,v4];refine EvC.cond (by assumption) (fun h2=>?_) (fun h2=>?_)<;>try simp only[decide_eq_true_eq,decide_eq_false_iff_not] at h2
    ·refine zQ 5 ?_;refine qi hH at1 fun Pq K_=>?_;refine EvO.cI (fo:=1) (m:=0) (o2:=1) rfl (ev rfl) (by assumption) rfl rfl rfl (fun _=>(put_T rfl _)) (fun N9 Ik=>?_);refine zQ 3 ?_;refine EvO.FC (t1:=0) (t2:=0) rfl (ev rfl) (ev rfl) (put_T rfl _) ?_;refine qi hH at1 fun N7 Ii=>?_;refine EvO.cI (fo:=1) (m:=0) (o2:=1) rfl (ev rfl) (by assumption) rfl rfl rfl (fun _=>(put_T rfl _)) (fun Kc FY=>?_);refine EvO.mU hH rfl (ev rfl) (ev rfl) (by assumption) rfl rfl (by exact at1) (by assumption) (Nat.le_of_ble_eq_true rfl) (by exact .inl hF) (fun st hH=>?_);dsimp only[u2,u1,u3,u4,setMany,u5,u6,D.cells,Nat.reduceAdd,ag] at hH;refine zQ 5 ?_;exact⟨mm-1,by omega,⟨i+1,z,rfl,(by rw[JS];simp only[cY,if_pos h2];rw[←fq];exact hH.drop 1),by omega⟩⟩
    ·refine zQ 2 ?_;refine EvO.hloadS (m:=2) hH rfl (ev rfl) (by exact at0) (by dsimp only[List.drop_succ_cons,List.drop_zero,List.take_succ_cons,List.take_zero,ag]<;>rfl) rfl rfl (put_T rfl _) ?_;refine qh (s:=2) (vs:=[_]) hH fun k59 st Lv hH=>?_;refine EvO.happend (s:=2) hH rfl (ev rfl) (ev rfl) (by exact at2) (by exact hH.rows (by exact at0)) rfl rfl rfl rfl rfl rfl rfl ⟨(Nat.le_of_ble_eq_true rfl),(Nat.le_of_ble_eq_true rfl)⟩ (fun _=>(put_T rfl _)) (by simp only[List.length_cons,List.length_nil,List.length_map,List.length_reverse]<;>omega) (by exact .inl hF) (fun Du st hH=>?_);dsimp only[u2,u1,u3,u4,setMany,u5,u6,D.cells,Nat.reduceAdd,ag] at hH;refine zQ 6 ?_;exact⟨mm-1,by omega,⟨i+1,Du,rfl,(by rw[JS];simp only[cY,if_neg h2];rw[List.reverse_cons (a:=q),List.map_append];exact hH.drop 2),by omega⟩⟩
  ·refine zQ 6 ?_;rw[List.take_of_length_le (by omega)] at hH;refine EvC.ret ⟨rx,_,_,rfl,rl hSb hH ((hH.freeze at0 (da _) (n:=15) (by decide))),?_⟩;exact⟨all,by rw[dc],hperm,ji⟩
def cq (fr:Go.V.Fr) (k:Nat):Go.V.D:=Go.V.nth .junk fr.loc k
def ai (r:Int):List D:=[.int .i32 r]
def mN (l:List Int):D:=.sl ((l.map ai).map (ic 1))
theorem o8 (l:List Int):∀e∈l.map ai,∀d∈e,bS d=true:=by
 intro e he d hd;obtain⟨x,_,rfl⟩:=List.mem_map.1 he;simp only[ai,List.mem_cons,List.not_mem_nil,or_false] at hd;subst hd;rfl
theorem Bl (l:List Int):∀e∈l.map ai,e.length=1:=by
 intro e he;obtain⟨x,_,rfl⟩:=List.mem_map.1 he;rfl
theorem nM (st:St) (l:List Int):V.Rows st 1 (mN l) (l.map ai):=Rows.l4 (Bl l) (o8 l)
theorem lV {l:List Int} {i:Nat} {q:Int} (h:l[i]?=some q):(l.map ai)[i]?=some (ai q):=by rw[List.getElem?_map,h];rfl
def dx (l:List Rg):List Int:=[0,55296,57344,1114112]++l.flatMap fv
theorem CS (x:Rg):(fv x).length≤2:=by
 unfold fv;split<;>split<;>simp
theorem kM (l:List Rg):(l.flatMap fv).length≤2*l.length:=by
 induction l with
 |nil=>simp
 |cons x l ih=>simp only[List.flatMap_cons,List.length_append,List.length_cons];have:=CS x;omega
def fy (m:List Int) (i k:Nat):Prop:=∀a b,a<b→b≤i→b≠k→m.getD a 0≤m.getD b 0
theorem mi (m:List Int) (k:Nat) (v:Int) (hk:k<m.length) (a:Nat):(m.set k v).getD a 0=if a=k then v else m.getD a 0:=by
 simp only[List.getD_eq_getElem?_getD]
 by_cases h:a=k
 ·subst h;rw[List.getElem?_set_self hk,if_pos rfl];rfl
 ·rw[List.getElem?_set_ne (fun e=>h e.symm),if_neg h]
theorem ug {m:List Int} {i k:Nat} (hk:k+1≤i) (hi:i<m.length) (h:fy m i (k+1)) (IW:m.getD k 0>m.getD (k+1) 0):fy ((m.set k (m.getD (k+1) 0)).set (k+1) (m.getD k 0)) i k:=by
 intro a b hab I8 hbk;have hl:(m.set k (m.getD (k+1) 0)).length=m.length:=List.length_set ..;rw[mi _ _ _ (by rw[hl];omega),mi _ _ _ (by omega),mi _ _ _ (by rw[hl];omega),mi _ _ _ (by omega)]
 by_cases h1:b=k+1
 ·rw[if_pos h1,if_neg (by omega)]
  by_cases h2:a=k
  ·rw[if_pos h2];omega
  ·rw[if_neg h2];exact h a k (by omega) (by omega) (by omega)
 ·rw[if_neg h1,if_neg hbk]
  by_cases h2:a=k+1
  ·rw[if_pos h2];exact h k b (by omega) I8 h1
  ·rw[if_neg h2]
   by_cases h3:a=k
   ·rw[if_pos h3];exact h (k+1) b (by omega) I8 h1
   ·rw[if_neg h3];exact h a b hab I8 h1
theorem nL {m:List Int} {i k:Nat} (h:fy m i k) (hx:k=0∨m.getD (k-1) 0≤m.getD k 0) (j:Nat):fy m i j:=by
 intro a b hab I8 _
 by_cases hb:b=k
 ·subst hb;have hx:=hx.resolve_left (by omega)
  by_cases ha:a=b-1
  ·rw[ha];exact hx
  ·exact Int.le_trans (h a (b-1) (by omega) (by omega) (by omega)) hx
 ·exact h a b hab I8 hb
theorem swap_perm {m:List Int} {k:Nat} (hk:k+1<m.length):((m.set k (m.getD (k+1) 0)).set (k+1) (m.getD k 0)).Perm m:=by
 have h0:m=m.take k++(m.getD k 0::m.getD (k+1) 0::m.drop (k+2)):=by
  have e1:m.drop k=m.getD k 0::m.drop (k+1):=by rw[List.drop_eq_getElem_cons (by omega)];simp[List.getD_eq_getElem?_getD,List.getElem?_eq_getElem (show k<m.length by omega)]
  have e2:m.drop (k+1)=m.getD (k+1) 0::m.drop (k+2):=by rw[List.drop_eq_getElem_cons (by omega)];simp[List.getD_eq_getElem?_getD,List.getElem?_eq_getElem hk]
  rw[←e2,←e1,List.take_append_drop]
 have hlen:(m.take k).length=k:=by simp;omega
 generalize m.getD k 0=x at*;generalize m.getD (k+1) 0=y at*;generalize m.take k=l1 at*;generalize m.drop (k+2)=l2 at*;subst h0;rw[List.set_append_right _ _ (by omega),List.set_append_right _ _ (by omega),hlen,Nat.sub_self,Nat.add_sub_cancel_left];exact(List.Perm.swap x y l2).append_left l1
theorem uh {m : List Int} {i : Nat} (h : fy m i (i + 1)) (hi : i + 1 ≥ m.length) : m.Pairwise (· ≤ ·) := by
 rw [List.pairwise_iff_getElem];intro a b ha hb hab;have := h a b hab (by omega) (by omega)
 simpa [List.getD_eq_getElem?_getD, List.getElem?_eq_getElem ha, List.getElem?_eq_getElem hb] using this
theorem vg {s0 : St} {x : D} {l : List Rg} (hx : V.Rows s0 2 x (l.map ag)) (hl : l.length ≤ 268435456) : ∃ d, Ev pv 74 [x] s0 d s0 ∧ ∃ m : List Int, d = mN m ∧ m.Perm (dx l) ∧ m.Pairwise (· ≤ ·) := by
 refine Ev.yE rfl MC rfl rfl rfl ?_;refine zE ?_;obtain ⟨hSb, hF, hH⟩ := ri s0;generalize enterSt .ro s0 = S at *;have hx := Arg.of hx hSb;refine zQ 6 ?_;refine qh (s := 1) (vs := [_, _, _, _]) hH fun k7 st Lt hH => ?_;refine zQ 7 ?_;have lD := kM l;have h0 : dx (l.take 0) = [0, 55296, 57344, 1114112] := rfl
 have pN : ∀ i, (dx (l.take i)).length ≤ 4 + 2 * l.length := by
  intro i;have := kM (l.take i);simp only [dx, List.length_append, List.length_cons, List.length_nil, List.length_take] at *;omega
 refine zQ 1 ?_;refine EvC.loop (fun mm fr st => ∃ (i : Nat) (y : D), fr.clean = ⟨7, [x, cq fr 1, cq fr 2, y, .int .i64 (i : Nat), cq fr 5, cq fr 6], []⟩ ∧ Has s0.bs.length S st [.lst y 1 ((dx (l.take i)).map ai)] ∧ (i + mm = l.length)) (l.length) ?_ ?_
 ·exact ⟨0, _, rfl, hH, by omega⟩
 rintro mm fr st ⟨i, y, hfr, hH, hi⟩;rw [hfr];clear hfr;generalize cq fr = ee;clear fr;refine zQ 5 ?_;refine qn ?_;simp only [List.length_map];refine zQ 2 ?_;refine zP (fun h1 => ?_) fun h1 => ?_
 ·refine zQ 1 ?_
  obtain ⟨q, hq⟩ : ∃ q, l[i]? = some q := ⟨l[i]'(by omega), List.getElem?_eq_getElem _⟩
  have hr := cF hq;have hm := pN i
  have tW : dx (l.take (i + 1)) = dx (l.take i) ++ fv q := by
   rw [List.take_add_one, hq]; simp [dx]
  refine zQ 4 ?_;refine EvC.cutT 40 (.bool (decide (q.1 ≤ q.2) && decide (q.1 ≥ 0) && decide (q.1 ≤ 1114111))) [] ?_ (fun ff tmp htmp => ?_)
  ·refine zQ 2 ?_;refine qr fun Kg F2 => ?_;refine qf (fo := 0) fun HG Cm => ?_;refine zQ 3 ?_;refine qr fun G5 An => ?_;refine qf (fo := 1) fun G4 Am => ?_;refine zQ 3 ?_;refine EvO.two 25 rfl (fun bA => ?_) (fun bA => ?_)
   ·refine zQ 2 ?_;refine qr (fun HE Ck => ?_) (hg := wi bA);refine qf (fo := 0) (fun JG D_ => ?_) (hg := wi bA);refine zQ 4 ?_;refine EvO.two 33 rfl (fun iZ => ?_) (fun iZ => ?_)
    ·refine zQ 2 ?_;refine qr (fun Pu Lb => ?_) (hg := wi iZ);refine qf (fo := 0) (fun Pt La => ?_) (hg := wi iZ);refine zQ 3 ?_;refine EvO.nil (leafT ?_ ?_)
     ·dsimp only [setW, List.foldl, nth, u2, u1]
      all_goals (first | rfl | simp)
     ·refine zF ?_
      all_goals (simp [bA, iZ]; done)
    ·refine zQ 7 ?_;refine EvO.nil (leafT ?_ ?_)
     ·dsimp only [setW, List.foldl, nth, u2, u1]
      all_goals (first | rfl | simp)
     ·refine zF ?_
      all_goals (simp [bA, iZ]; done)
   ·refine zQ 15 ?_;refine EvO.nil (leafT ?_ ?_)
    ·dsimp only [setW, List.foldl, nth, u2, u1]
     all_goals (first | rfl | simp)
    ·refine zF ?_
     all_goals (simp [bA]; done)
  refine zG ?_;have JM : fv q = (if q.1 ≤ q.2 ∧ 0 ≤ q.1 ∧ q.1 ≤ 1114111 then [q.1] else []) ++ (if q.1 ≤ q.2 ∧ 0 ≤ q.2 ∧ q.2 < 1114111 then [q.2 + 1] else []) := rfl;rw [JM] at tW;generalize he1 : (if q.1 ≤ q.2 ∧ 0 ≤ q.1 ∧ q.1 ≤ 1114111 then [q.1] else []) = e1 at tW;generalize tD : (if q.1 ≤ q.2 ∧ 0 ≤ q.2 ∧ q.2 < 1114111 then [q.2 + 1] else []) = e2 at tW;have RB : e1.length ≤ 1 := by rw [← he1]; split <;> simp
  refine EvC.merge (fun fr st => ∃ (y : D) (tmp : List (Nat × D)), fr = ⟨7, [x, cq fr 1, cq fr 2, y, .int .i64 (i : Nat), cq fr 5, cq fr 6], tmp⟩ ∧ Has s0.bs.length S st [.lst y 1 ((dx (l.take i) ++ e1).map ai)]) ?_ ?_
  ·refine qc (fun h2 => ?_) (fun h2 => ?_) <;> try simp only [cs] at h2
   ·simp only [Bool.and_eq_true, decide_eq_true_eq] at h2;rw [if_pos ⟨h2.1.1, h2.1.2, h2.2⟩] at he1;refine zQ 4 ?_;refine qr fun SL QH => ?_;refine qf (fo := 0) fun SK QG => ?_;refine qR ?_;refine qh (s := 1) (vs := [_]) hH fun k47 st LA hH => ?_;refine EvO.happend (s := 1) hH rfl (ev rfl) (ev rfl) (by exact at1) (by exact hH.rows (by exact at0)) rfl rfl rfl rfl rfl rfl rfl ⟨(Nat.le_of_ble_eq_true rfl), (Nat.le_of_ble_eq_true rfl)⟩ (fun _ => (put_T rfl _)) (by simp only [List.length_cons, List.length_nil, List.length_map] <;> omega) (by exact .inl hF) (fun Hj st hH => ?_);dsimp only [u2, u1, u3, u4, setMany, u5, u6, D.cells, Nat.reduceAdd, ag, ai] at hH;refine zQ 2 ?_;exact ⟨Hj, _, rfl, (by rw [← he1, List.map_append]; exact hH.drop 1)⟩
   ·rw [if_neg (by rintro ⟨a, b, c⟩; simp [a, b, c] at h2)] at he1;refine zQ 1 ?_;exact ⟨y, _, rfl, (by rw [← he1, List.append_nil]; exact hH)⟩
  ·rintro fr st ⟨y, tmp, hfr, hH⟩;rw [hfr];clear hfr;generalize cq fr = ee;clear fr;refine qq ?_;refine EvC.cutT 75 (.bool (decide (q.1 ≤ q.2) && decide (q.2 ≥ 0) && decide (q.2 < 1114111))) [] ?_ (fun ff tmp htmp => ?_)
   ·refine zQ 2 ?_;refine qr fun N8 Ij => ?_;refine qf (fo := 0) fun SJ QF => ?_;refine zQ 3 ?_;refine qr fun Kc FY => ?_;refine qf (fo := 1) fun SG QC => ?_;refine zQ 3 ?_;refine EvO.two 60 rfl (fun bA => ?_) (fun bA => ?_)
    ·refine zQ 2 ?_;refine qr (fun SC Qy => ?_) (hg := wi bA);refine qf (fo := 1) (fun N6 Ih => ?_) (hg := wi bA);refine zQ 4 ?_;refine EvO.two 68 rfl (fun iZ => ?_) (fun iZ => ?_)
     ·refine zQ 2 ?_;refine qr (fun G3 Ig => ?_) (hg := wi iZ);refine qf (fo := 1) (fun Kb K7 => ?_) (hg := wi iZ);refine zQ 3 ?_;refine EvO.nil (leafT ?_ ?_)
      ·dsimp only [setW, List.foldl, nth, u2, u1]
       all_goals (first | rfl | simp)
      ·refine zF ?_
       all_goals (simp [bA, iZ]; done)
     ·refine zQ 7 ?_;refine EvO.nil (leafT ?_ ?_)
      ·dsimp only [setW, List.foldl, nth, u2, u1]
       all_goals (first | rfl | simp)
      ·refine zF ?_
       all_goals (simp [bA, iZ]; done)
    ·refine zQ 15 ?_;refine EvO.nil (leafT ?_ ?_)
     ·dsimp only [setW, List.foldl, nth, u2, u1]
      all_goals (first | rfl | simp)
     ·refine zF ?_
      all_goals (simp [bA]; done)
   dsimp only [setW, List.foldl, nth, u2, u1];refine EvC.merge (fun fr st => ∃ (y : D) (tmp : List (Nat × D)), fr = ⟨7, [x, cq fr 1, cq fr 2, y, .int .i64 (i : Nat), cq fr 5, cq fr 6], tmp⟩ ∧ Has s0.bs.length S st [.lst y 1 ((dx (l.take (i + 1))).map ai)]) ?_ ?_
   ·refine qc (fun h2 => ?_) (fun h2 => ?_) <;> try simp only [cs] at h2
    ·simp only [Bool.and_eq_true, decide_eq_true_eq] at h2;rw [if_pos ⟨h2.1.1, h2.1.2, h2.2⟩] at tD;refine zQ 4 ?_;refine qr fun N5 Ie => ?_;refine qf (fo := 1) fun Pn K6 => ?_;refine qR ?_;refine EvO.addS32 rfl (ev rfl) (ev rfl) (by omega) (by omega) (put_T rfl _) ?_;refine qh (s := 1) (vs := [_]) hH fun k83 st IF hH => ?_;refine EvO.happend (s := 1) hH rfl (ev rfl) (ev rfl) (by exact at1) (by exact hH.rows (by exact at0)) rfl rfl rfl rfl rfl rfl rfl ⟨(Nat.le_of_ble_eq_true rfl), (Nat.le_of_ble_eq_true rfl)⟩ (fun _ => (put_T rfl _)) (by simp only [List.length_append, List.length_cons, List.length_nil, List.length_map] <;> omega) (by exact .inl hF) (fun O9 st hH => ?_);dsimp only [u2, u1, u3, u4, setMany, u5, u6, D.cells, Nat.reduceAdd, ag, ai] at hH;refine zQ 2 ?_;exact ⟨O9, _, rfl, (by rw [tW, ← tD, ← List.append_assoc, List.map_append]; exact hH.drop 1)⟩
    ·rw [if_neg (by rintro ⟨a, b, c⟩; simp [a, b, c] at h2)] at tD;refine zQ 1 ?_;exact ⟨y, _, rfl, (by rw [tW, ← tD, List.append_nil]; exact hH)⟩
   ·rintro fr st ⟨y, tmp, hfr, hH⟩;rw [hfr];clear hfr;generalize cq fr = ee;clear fr;refine zQ 5 ?_;exact ⟨mm - 1, by omega, ⟨i + 1, y, rfl, hH, by omega⟩⟩
 ·refine zQ 1 ?_;have hT : l.take i = l := List.take_of_length_le (by omega);rw [hT] at hH;have hm := pN l.length;rw [List.take_length] at hm;generalize mJ : dx l = m0 at *;have KW : 4 ≤ m0.length := by rw [← mJ]; simp [dx]
  refine zQ 6 ?_;refine EvC.loop (fun mm fr st => ∃ (i : Nat) (m : List Int), fr.clean = ⟨7, [x, cq fr 1, cq fr 2, y, cq fr 4, .int .i64 (i : Nat), cq fr 6], []⟩ ∧ Has s0.bs.length S st [.lst y 1 (m.map ai)] ∧ (i + mm = m0.length) ∧ (m.Perm m0) ∧ (fy m (i - 1) i) ∧ (1 ≤ i)) (m0.length - 1) ?_ ?_
  ·exact ⟨1, m0, rfl, hH, by omega, .refl _, by intro a b h1 h2 h3; omega, by omega⟩
  rintro mm fr st ⟨i, m, hfr, hH, hi, hp, hs, KW⟩;rw [hfr];clear hfr;generalize cq fr = ee;clear fr;have Lm : m.length = m0.length := hp.length_eq;refine zQ 5 ?_;refine qn ?_ (hR := hH.rows at0);simp only [List.length_map];refine zQ 2 ?_;refine zP (fun h1 => ?_) fun h1 => ?_
  ·refine zQ 9 ?_;refine EvC.loop (fun mm fr st => ∃ (k : Nat) (m : List Int), fr.clean = ⟨7, [x, cq fr 1, cq fr 2, y, cq fr 4, .int .i64 (i : Nat), .int .i64 (k : Nat)], []⟩ ∧ Has s0.bs.length S st [.lst y 1 (m.map ai)] ∧ (k = mm) ∧ (m.Perm m0) ∧ (fy m i k) ∧ (k ≤ i)) (i) ?_ ?_
   ·exact ⟨i, m, rfl, hH, rfl, hp, by intro a b h1 h2 h3; exact hs a b h1 (by omega) (by omega), by omega⟩
   have tx := hi;rintro mm fr st ⟨k, m, hfr, hH, hk, hp, hs, Ga⟩;rw [hfr];clear hfr;generalize cq fr = ee;clear fr;have Lm : m.length = m0.length := hp.length_eq
   rcases k with _ | k
   ·have bZ : decide (((0 : Nat) : Int) > 0) = false := by decide
    refine zQ 2 ?_;refine EvC.cutT 105 (.bool false) [] ?_ (fun ff tmp htmp => ?_)
    ·refine zQ 14 ?_;refine EvO.nil (leafT ?_ ?_)
     ·dsimp only [setW, List.foldl, nth, u2, u1]
      all_goals (first | rfl | simp)
     ·exact zS
      all_goals (first | rfl | (simp [bZ]; done) | (simp_all; done) | (simp [bZ]; omega) | (simp_all; omega))
    refine zG ?_;refine zQ 7 ?_;exact ⟨m0.length - (i + 1), by omega, ⟨i + 1, m, rfl, hH, by omega, hp, nL hs (.inl rfl) _, by omega⟩⟩
   ·have bZ : decide (((k + 1 : Nat) : Int) > 0) = true := by rw [decide_eq_true]; omega
    have hr1 : (m.map ai)[k]? = some (ai (m.getD k 0)) := by
     rw [List.getElem?_map, List.getElem?_eq_getElem (by omega)]; simp [List.getD_eq_getElem?_getD, List.getElem?_eq_getElem (show k < m.length by omega)]
    have nY : (m.map ai)[k + 1]? = some (ai (m.getD (k + 1) 0)) := by
     rw [List.getElem?_map, List.getElem?_eq_getElem (by omega)]; simp [List.getD_eq_getElem?_getD, List.getElem?_eq_getElem (show k + 1 < m.length by omega)]
    refine zQ 2 ?_;refine EvC.cutT 105 (.bool (decide (m.getD k 0 > m.getD (k + 1) 0))) [] ?_ (fun ff tmp htmp => ?_)
    ·refine zQ 5 ?_;refine EvO.jo (z := ((k : Nat) : Int)) (wantD_is rfl rfl rfl bZ) (ev rfl) (ev rfl) (by  rw [wrap_i64 (by omega) (by omega)] <;> omega) (put_T rfl _) ?_;refine qi hH at0 (fun Ss Qp => ?_) (hg := wi bZ);refine zQ 3 ?_;refine qi hH at0 (fun Kk Is => ?_) (hg := wi bZ);refine zQ 3 ?_;refine EvO.nil (leafT ?_ ?_)
     ·dsimp only [setW, List.foldl, nth, u2, u1]
      all_goals (first | rfl | simp)
     ·exact zS
      all_goals (first | rfl | (simp [bZ]; done) | (simp_all; done) | (simp [bZ]; omega) | (simp_all; omega))
    refine zG ?_;have P6 := swap_perm (m := m) (k := k) (by omega);have yQ := fun h => ug (m := m) (i := i) (k := k) (by omega) (by omega) hs h;have hsd := fun (h : m.getD k 0 ≤ m.getD (k + 1) 0) => nL (j := i + 1) hs (.inr (by rw [Nat.add_sub_cancel]; exact h));have Lo : ((m.set k (m.getD (k + 1) 0)).set (k + 1) (m.getD k 0)).map ai = ((m.map ai).set k (ai (m.getD (k + 1) 0))).set (k + 1) (ai (m.getD k 0)) := by rw [List.map_set, List.map_set]
    have Qh : ((m.map ai).set k (ai (m.getD (k + 1) 0)))[k + 1]? = some (ai (m.getD (k + 1) 0)) := by rw [List.getElem?_set_ne (by omega)]; exact nY
    generalize m.getD k 0 = a at *;generalize m.getD (k + 1) 0 = b at *;refine EvC.cond (by assumption) (fun h2 => ?_) (fun h2 => ?_) <;> try simp only [decide_eq_true_eq, decide_eq_false_iff_not] at h2
    ·refine zQ 6 ?_;refine EvO.jo (z := ((k : Nat) : Int)) rfl (ev rfl) (ev rfl) (by  rw [wrap_i64 (by omega) (by omega)] <;> omega) (put_T rfl _) ?_;refine zQ 4 ?_;refine qi hH at0 fun Ki Ir => ?_;refine zQ 3 ?_;refine EvO.jo (z := ((k : Nat) : Int)) rfl (ev rfl) (ev rfl) (by  rw [wrap_i64 (by omega) (by omega)] <;> omega) (put_T rfl _) ?_;refine qi hH at0 fun PI Oy => ?_;refine zQ 1 ?_;refine qi hH at0 fun PH Ox => ?_;refine EvO.mU hH rfl (ev rfl) (ev rfl) (by assumption) rfl rfl (by exact at0) (by assumption) (Nat.le_of_ble_eq_true rfl) (by exact .inl hF) (fun st hH => ?_);dsimp only [u2, u1, u3, u4, setMany, u5, u6, D.cells, Nat.reduceAdd, ag, ai] at hH;refine qi hH at0 fun PG Ow => ?_;refine EvO.mU hH rfl (ev rfl) (ev rfl) (by assumption) rfl rfl (by exact at0) (by assumption) (Nat.le_of_ble_eq_true rfl) (by exact .inl hF) (fun st hH => ?_);dsimp only [u2, u1, u3, u4, setMany, u5, u6, D.cells, Nat.reduceAdd, ag, ai] at hH;refine zQ 3 ?_;refine EvO.jo (z := ((k : Nat) : Int)) rfl (ev rfl) (ev rfl) (by  rw [wrap_i64 (by omega) (by omega)] <;> omega) (put_T rfl _) ?_;refine zQ 2 ?_;exact ⟨k, by omega, ⟨k, (m.set k b).set (k + 1) a, rfl, (by rw [Lo]; exact hH), rfl, P6.trans hp, yQ h2, by omega⟩⟩
    ·refine zQ 6 ?_;exact ⟨m0.length - (i + 1), by omega, ⟨i + 1, m, rfl, hH, by omega, hp, hsd (by omega), by omega⟩⟩
  ·refine zQ 6 ?_;refine EvC.ret ⟨rx, _, _, rfl, rl hSb hH ((hH.freeze at0 (o8 _) (n := 15) (by decide))), ?_⟩;exact ⟨m, rfl, mJ ▸ hp, uh (i := i - 1) (by intro a b h1 h2 h3; exact hs a b h1 h2 (by omega)) (by omega)⟩
def eR (fr:Go.V.Fr) (k:Nat):Go.V.D:=Go.V.nth .junk fr.loc k
def di (l a:List Rg):Prop:=canon a∧∀r,bX a r↔bT r∧bX l r
theorem di.unique {l a b:List Rg} (h:di l a) (g:di l b):a=b:=mB h.1 g.1 fun r=>(h.2 r).trans (g.2 r).symm
noncomputable def iQ (l:List Rg):Bool:=@decide (di l l) (Classical.propDecidable _)
theorem rz {l a:List Rg} (h:di l a):iQ l=decide (l=a):=by
 unfold iQ
 by_cases hl:l=a
 ·rw[decide_eq_true hl];exact@decide_eq_true _ (Classical.propDecidable _) (by rw[hl] at h⊢;exact h)
 ·rw[decide_eq_false hl];exact@decide_eq_false _ (Classical.propDecidable _) (fun g=>hl (g.unique h))
theorem mX (p q:Rg):nG pv .neq 75 (.agg (ag p)) (.agg (ag q))=some (.bool (!decide (p=q))):=by
 have h:∀a b a' b':Int,nG pv .neq 75 (.agg [.int .i32 a,.int .i32 b]) (.agg [.int .i32 a',.int .i32 b'])=Option.map (fun b=>D.bool !b) (match some (a==a') with|some true=>(match some (b==b') with|some true=>some true|some false=>some false|none=>none)|some false=>some false|none=>none):=fun _ _ _ _=>rfl;obtain⟨a,b⟩:=p;obtain⟨a',b'⟩:=q;simp only[ag,h]
 by_cases h1:a=a'
 ·subst h1
  by_cases h2:b=b'
  ·subst h2;simp
  ·have:(b==b')=false:=by simpa using h2
   simp[this,h2]
 ·have:(a==a')=false:=by simpa using h1
  simp[this,h1]
theorem gg {α:Type} {a b:List α} {i:Nat} {x y:α} (ha:a[i]?=some x) (hb:b[i]?=some y) (h:a.take i=b.take i) (FH:x=y):a.take (i+1)=b.take (i+1):=by
 rw[List.take_add_one,List.take_add_one,h,ha,hb,FH]
theorem kE {α:Type} {a b:List α} {i:Nat} {x y:α} (ha:a[i]?=some x) (hb:b[i]?=some y) (FH:¬x=y):¬a=b:=by
 intro h;subst h;rw[ha] at hb;exact FH (Option.some.inj hb)
theorem CO {s0:St} {x y:D} {l m:List Rg} (hx:V.Rows s0 2 x (l.map ag)) (hy:V.Rows s0 2 y (m.map ag)) (hl:l.length≤1073741824) (hm:m.length≤1073741824):Ev pv 65 [x,y] s0 (.bool (decide (l=m))) s0:=by
 refine Ev.mk1 rfl ML rfl rfl rfl ?_;refine zE ?_;obtain⟨hSb,hF,hH⟩:=ri s0;generalize enterSt .ro s0=S at*;have hx:=Arg.of hx hSb;have hy:=Arg.of hy hSb;refine zQ 8 ?_;refine qn ?_;simp only[List.length_map];refine qm ?_;refine qn ?_;simp only[List.length_map];refine zQ 2 ?_
 by_cases hlen:l.length=m.length
 ·refine EvC.cond (v:=false) ?_ (fun h=>by cases h) (fun _=>?_)
  ·dsimp only[Fr.ev,Fr.get,nth,V.look];rw[hlen];simp
  refine zQ 5 ?_;refine qn ?_;simp only[List.length_map];refine zQ 3 ?_;refine EvC.loop (fun mm fr st=>∃(i:Nat),fr.clean=⟨14,[x,y,eR fr 2,eR fr 3,.bool false,eR fr 5,eR fr 6,eR fr 7,eR fr 8,eR fr 9,eR fr 10,eR fr 11,.int .i64 (l.length:Nat),.int .i64 (i:Nat)],[]⟩∧Has s0.bs.length S st []∧(i+mm=l.length)∧(l.take i=m.take i)) (l.length) ?_ ?_
  ·exact⟨0,rfl,hH,by omega,rfl⟩
  rintro mm fr st ⟨i,hfr,hH,hi,ht⟩;rw[hfr];clear hfr;generalize eR fr=ee;clear fr;refine zQ 5 ?_;refine zP (fun h1=>?_) fun h1=>?_
  ·refine zQ 1 ?_
   obtain⟨p,hp⟩:∃p,l[i]?=some p:=⟨l[i]'(by omega),List.getElem?_eq_getElem _⟩
   obtain⟨q,hq⟩:∃q,m[i]?=some q:=⟨m[i]'(by omega),List.getElem?_eq_getElem _⟩
   have hr1:=cF hp;have nY:=cF hq;refine zQ 11 ?_;refine qr fun PA Lg=>?_;refine EvO.cx rfl (ev rfl) (by assumption) rfl (put_T rfl _) ?_;refine zQ 2 ?_;refine qr fun G4 Am=>?_;refine EvO.cx rfl (ev rfl) (by assumption) rfl (put_T rfl _) ?_;refine EvO.Kn rfl (ev rfl) (ev rfl) (mX p q) (put_T rfl _) ?_;refine zQ 1 ?_;refine EvC.cond (by rfl) (fun h2=>?_) (fun h2=>?_)<;>try simp only[decide_eq_true_eq,decide_eq_false_iff_not,Bool.not_eq_true',Bool.not_eq_false'] at h2
   ·refine zQ 4 ?_;rw[decide_eq_false (kE hp hq (by simpa using h2))];refine EvC.ret ⟨rx,_,rfl,rl hSb hH (rfl)⟩
   ·refine zQ 5 ?_;exact⟨mm-1,by omega,⟨i+1,rfl,hH,by omega,gg hp hq ht (by simpa using h2)⟩⟩
  ·refine zQ 5 ?_;rw[decide_eq_true (by rw[List.take_of_length_le (by omega),List.take_of_length_le (by omega)] at ht;exact ht)];refine EvC.ret ⟨rx,_,rfl,rl hSb hH (rfl)⟩
 ·refine EvC.cond (v:=true) ?_ (fun _=>?_) (fun h=>by cases h)
  ·dsimp only[Fr.ev,Fr.get,nth,V.look];simp;omega
  refine zQ 4 ?_;rw[decide_eq_false (fun h=>hlen (by rw[h]))];refine EvC.ret ⟨rx,_,rfl,rl hSb hH (rfl)⟩
theorem Bq {s0:St} {x:D} {l:List Rg} (hx:V.Rows s0 2 x (l.map ag)) (hl:l.length≤1048576):Ev pv 51 [x] s0 (.bool (iQ l)) s0:=by
 refine Ev.mk1 rfl MZ rfl rfl rfl ?_;refine zE ?_;obtain⟨hSb,hF,hH⟩:=ri s0;generalize enterSt .ro s0=S at*;have hx:=Arg.of hx hSb;refine zQ 4 ?_;obtain⟨_,hev,all,rfl,hperm,ji⟩:=yH (hx.rows hH) (by omega);have hM:di l (all.foldl cY []).reverse:=lA (fun x=>hperm.mem_iff) ji;have hlen:=hperm.length_eq;have lD:=gW l;have jB:=pG all;rw[rz hM];refine zQ 4 ?_;refine qv (hev) ?_;refine qv (CO (hx.rows hH) (cG _ _) (by omega) (by rw[List.length_reverse];omega)) ?_;refine zQ 2 ?_;refine EvC.ret ⟨rx,_,rfl,rl hSb hH (rfl)⟩
theorem uR {N:Nat} {S st:St} {H:List bG} {x:D} {acc:List Rg} {lo hi:Int} (hF:S.flr≤N) (hH:Has N S st (.lst x 2 (acc.reverse.map ag)::H)) (hl:acc.length≤536870912) (hb:∀k∈acc,0≤k.2+1∧k.2+1≤2147483647):
  ∃x' ae,Ev pv 76 [x,.int .i32 lo,.int .i32 hi] st x' ae∧Has N S ae (.lst x' 2 ((de acc lo hi).reverse.map ag)::H):=by
 refine Ev.gT rfl MA rfl rfl rfl ?_;refine zE ?_;change EvC _ _ _ _ st _;refine zQ 4 ?_
 rcases acc with _|⟨h,t⟩
 ·have hg3:decide (((([]:List Rg).reverse.map ag).length:Int)>0)=false:=by decide
  refine zQ 2 ?_;refine EvC.cutT 21 (.bool false) [] ?_ (fun ff tmp htmp=>?_)
  ·refine qm ?_;refine qn ?_ (hR:=hH.rows at0);simp only[List.length_map,List.length_nil,List.length_reverse];refine zQ 13 ?_;refine EvO.nil (leafT ?_ ?_)
   ·dsimp only[setW,List.foldl,nth,u2,u1]
    all_goals(first|rfl|simp)
   ·dsimp only[Fr.putO,Fr.put,Fr.clean,Fr.ev,Fr.get,nth,look,u1,u2,v1,v2,v4]
    all_goals(rfl)
  dsimp only[setW,List.foldl,nth,u2,u1];refine zQ 8 ?_;refine qh (s:=2) (vs:=[_]) hH fun k34 st LC hH=>?_;dsimp only[u2,u1,u3,u4,setMany,u5,u6,D.cells,Nat.reduceAdd,ag] at hH;refine EvO.happend (s:=2) hH rfl (ev rfl) (ev rfl) (by exact at1) (by exact hH.rows (by exact at0)) rfl rfl rfl rfl rfl rfl rfl ⟨(Nat.le_of_ble_eq_true rfl),(Nat.le_of_ble_eq_true rfl)⟩ (fun _=>(put_T rfl _)) (by simp only[List.length_cons,List.length_nil,List.length_map,List.length_reverse]<;>omega) (by exact .inl hF) (fun Pa st hH=>?_);dsimp only[u2,u1,u3,u4,setMany,u5,u6,D.cells,Nat.reduceAdd,ag] at hH;refine zQ 2 ?_;refine EvC.ret ⟨rx,_,_,_,rfl,rfl,?_⟩;exact hH.drop 1
 ·have mf:=vp h t;have fq:=vn h (h.1,hi) t;have S_:=hb h (List.mem_cons_self ..);simp only[List.length_cons] at hl;have hg3:decide (((t.length+1:Nat):Int)>0)=true:=by rw[decide_eq_true];omega
  refine zQ 2 ?_;refine EvC.cutT 21 (.bool (decide (h.2+1=lo))) [] ?_ (fun ff tmp htmp=>?_)
  ·refine qm ?_;refine qn ?_ (hR:=hH.rows at0);simp only[List.length_map,List.length_cons,List.length_reverse];refine zQ 4 ?_;refine qn ?_ (hR:=hH.rows at0) (hg:=wi hg3);simp only[List.length_map,List.length_cons,List.length_reverse];refine EvO.jo (z:=((t.length:Nat):Int)) (wantD_is rfl rfl rfl hg3) (ev rfl) (ev rfl) (by rw[wrap_i64 (by omega) (by omega)]<;>omega) (put_T rfl _) ?_;refine qi hH at0 (fun Oa Ip=>?_) (hg:=wi hg3);refine EvO.cI (fo:=1) (m:=0) (o2:=1) (wantD_is rfl rfl rfl hg3) (ev rfl) (by assumption) rfl rfl rfl (fun _=>(put_T rfl _)) (fun Kg F2=>?_);refine zQ 1 ?_;refine EvO.addS32 (wantD_is rfl rfl rfl hg3) (ev rfl) (ev rfl) (by omega) (by omega) (put_T rfl _) ?_;refine zQ 3 ?_;refine EvO.nil (leafT ?_ ?_)
   ·dsimp only[setW,List.foldl,nth,u2,u1]
    all_goals(first|rfl|simp)
   ·dsimp only[Fr.putO,Fr.put,Fr.clean,Fr.ev,Fr.get,nth,look,u1,u2,v1,v2,v4]
    all_goals(rfl)
  dsimp only[setW,List.foldl,nth,u2,u1];refine EvC.cond (by assumption) (fun h2=>?_) (fun h2=>?_)<;>try simp only[decide_eq_true_eq,decide_eq_false_iff_not] at h2
  ·refine zQ 4 ?_;refine qn ?_ (hR:=hH.rows at0);simp only[List.length_map,List.length_cons,List.length_reverse];refine EvO.jo (z:=((t.length:Nat):Int)) rfl (ev rfl) (ev rfl) (by rw[wrap_i64 (by omega) (by omega)]<;>omega) (put_T rfl _) ?_;refine qm ?_;refine qi hH at0 fun p27 hp27=>?_;refine EvO.cI (fo:=1) (m:=0) (o2:=1) rfl (ev rfl) (by assumption) rfl rfl rfl (fun _=>(put_T rfl _)) (fun HE Ck=>?_);refine EvO.mU hH rfl (ev rfl) (ev rfl) (by assumption) rfl rfl (by exact at0) (by assumption) (Nat.le_of_ble_eq_true rfl) (by exact .inl hF) (fun st hH=>?_);dsimp only[u2,u1,u3,u4,setMany,u5,u6,D.cells,Nat.reduceAdd,ag] at hH;refine zQ 6 ?_;refine EvC.ret ⟨rx,_,_,_,rfl,rfl,?_⟩;simp only[de,if_pos h2];rw[←fq];exact hH
  ·refine zQ 7 ?_;refine qh (s:=2) (vs:=[_]) hH fun k34 st LC hH=>?_;dsimp only[u2,u1,u3,u4,setMany,u5,u6,D.cells,Nat.reduceAdd,ag] at hH;refine EvO.happend (s:=2) hH rfl (ev rfl) (ev rfl) (by exact at1) (by exact hH.rows (by exact at0)) rfl rfl rfl rfl rfl rfl rfl ⟨(Nat.le_of_ble_eq_true rfl),(Nat.le_of_ble_eq_true rfl)⟩ (fun _=>(put_T rfl _)) (by simp only[List.length_cons,List.length_nil,List.length_map,List.length_reverse]<;>omega) (by exact .inl hF) (fun Pa st hH=>?_);dsimp only[u2,u1,u3,u4,setMany,u5,u6,D.cells,Nat.reduceAdd,ag] at hH;refine zQ 2 ?_;refine EvC.ret ⟨rx,_,_,_,rfl,rfl,?_⟩;simp only[de,if_neg h2];rw[List.reverse_cons (a:=(lo,hi)),List.map_append];exact hH.drop 1
theorem rF (acc:List Rg) (lo hi:Int):(de acc lo hi).length≤acc.length+1:=by
 unfold de;split
 ·simp
 ·split<;>simp
theorem Fx (l:List Rg) (a b:Int):EH l true a b=((decide (a<b) &&(decide (a<55296)||decide (a>57343))) &&ia l a):=by
 unfold EH;cases ia l a<;>simp
theorem pe {s0:St} {x:D} {l:List Rg} (hx:V.Rows s0 2 x (l.map ag)) (hl:l.length≤134217728):∃d,Ev pv 67 [x] s0 d s0∧∃a:List Rg,d=aA a∧di l a:=by
 refine Ev.yE rfl MJ rfl rfl rfl ?_;refine zE ?_;obtain⟨hSb,hF,hH⟩:=ri s0;generalize enterSt .ro s0=S at*;have hx:=Arg.of hx hSb;refine zQ 4 ?_;obtain⟨_,hev,m,rfl,hperm,ji⟩:=vg (hx.rows hH) (by omega);have hlen:=hperm.length_eq;have lD:=kM l;have pN:m.length=4+(l.flatMap fv).length:=by rw[hlen];simp[dx];omega
 have Ix:∀q∈m,0≤q∧q≤1114112:=by
  intro q hq;have:=hperm.mem_iff.1 hq;simp only[dx,List.mem_append,List.mem_cons,List.not_mem_nil,or_false,List.mem_flatMap] at this
  rcases this with(h|h|h|h)|⟨y,_,hy⟩
  ·omega
  ·omega
  ·omega
  ·omega
  ·unfold fv at hy
   split at hy<;>split at hy<;>simp at hy<;>omega
 have hM:=kY (l:=l) (m:=m) true (fun q=>by
  rw[hperm.mem_iff]
  simp only[dx,List.mem_append,List.mem_cons,List.not_mem_nil,or_false,List.mem_flatMap,or_assoc]) ji
 have Md:di l (cB l true m []).reverse:=⟨hM.1,fun r=>by rw[hM.2 r];simp⟩
 refine zQ 3 ?_;refine qv (hev) ?_;refine zQ 2 ?_;have mJ:=Arg.pure (N:=s0.bs.length) (S:=S) (s:=1) (es:=(m.map ai).map (ic 1)) (fun st=>nM st m);change Arg s0.bs.length S 1 (mN m) _ at mJ;refine zQ 9 ?_;have hH:=hH.nulE 2;refine zQ 1 ?_;refine EvC.loop (fun mm fr st=>∃(i:Nat) (y:D) (acc:List Rg),fr.clean=⟨6,[x,eR fr 1,eR fr 2,mN m,y,.int .i64 (i:Nat)],[]⟩∧Has s0.bs.length S st [.lst y 2 (acc.reverse.map ag)]∧(i+mm=m.length)∧(cB l true (m.drop i) acc=cB l true m [])∧(acc.length≤i)∧(∀k∈acc,0≤k.2+1∧k.2+1≤1114112)) (m.length) ?_ ?_
 ·exact⟨0,.nul,[],rfl,hH,by omega,rfl,by simp,by simp⟩
 rintro mm fr st ⟨i,y,acc,hfr,hH,hi,hp,hal,hab⟩;rw[hfr];clear hfr;generalize eR fr=ee;clear fr;refine zQ 6 ?_;refine qn ?_;simp only[List.length_map];refine zQ 2 ?_;refine zP (fun h1=>?_) fun h1=>?_
 ·refine zQ 1 ?_
  obtain⟨a,ha⟩:∃a,m[i]?=some a:=⟨m[i]'(by omega),List.getElem?_eq_getElem _⟩
  obtain⟨b,hb⟩:∃b,m[i+1]?=some b:=⟨m[i+1]'(by omega),List.getElem?_eq_getElem _⟩
  have hr1:=lV ha;have nY:=lV hb;have RI:=Ix b (List.mem_of_getElem? hb);have RL:=Ix a (List.mem_of_getElem? ha)
  have om:m.drop i=a::b::m.drop (i+2):=by
   rw[List.drop_eq_getElem_cons (by omega),List.drop_eq_getElem_cons (by omega)];rw[List.getElem?_eq_getElem (by omega)] at ha hb;rw[Option.some.inj ha,Option.some.inj hb]
  have Gl:m.drop (i+1)=b::m.drop (i+2):=by
   rw[List.drop_eq_getElem_cons (by omega)];rw[List.getElem?_eq_getElem (by omega)] at hb;rw[Option.some.inj hb]
  rw[om,cB,←Gl,Fx] at hp;refine zQ 3 ?_;refine EvC.cutT 46 (.bool ((decide (a<b) &&(decide (a<55296)||decide (a>57343))) &&ia l a)) [] ?_ (fun ff tmp htmp=>?_)
  ·refine zQ 2 ?_;refine qr fun HG Cm=>?_;refine zQ 4 ?_;refine qr fun G4 Am=>?_;refine zQ 3 ?_;refine EvO.two 25 rfl (fun bC=>?_) (fun bC=>?_)
   ·refine zQ 2 ?_;refine qr (fun HE Ck=>?_) (hg:=wi bC);refine zQ 3 ?_;refine EvO.two 31 rfl (fun i_=>?_) (fun i_=>?_)
    ·refine zQ 5 ?_;refine EvO.pickT (wantD_is rfl rfl rfl bC) rfl i_ (put_T rfl _) ?_;refine zQ 5 ?_;refine qr fun JF D9=>?_;refine qR ?_;refine qv (ku (hx.rows hH) (by omega)) ?_;refine qg ?_;refine EvO.nil (leafT ?_ ?_)
     ·dsimp only[setW,List.foldl,nth,u2,u1]
      all_goals(first|rfl|simp)
     ·refine zF ?_
      all_goals(simp[bC,i_];done)
    ·refine zQ 2 ?_;refine qr (fun Ke F0=>?_) (hg:=wi i_);refine zQ 2 ?_;refine EvO.pickF (wantD_is rfl rfl rfl bC) rfl i_ (put_T rfl _) ?_;refine zQ 2 ?_;refine EvO.two 39 rfl (fun pP=>?_) (fun pP=>?_)
     ·refine zQ 3 ?_;refine qr (fun JF D9=>?_) (hg:=wi pP);refine zQ 1 ?_;refine qv (ku (hx.rows hH) (by omega)) ?_ (hg:=wi pP);refine zQ 1 ?_;refine EvO.nil (leafT ?_ ?_)
      ·dsimp only[setW,List.foldl,nth,u2,u1]
       all_goals(first|rfl|simp)
      ·refine zF ?_
       all_goals(simp[bC,i_,pP];done)
     ·refine zQ 7 ?_;refine EvO.nil (leafT ?_ ?_)
      ·dsimp only[setW,List.foldl,nth,u2,u1]
       all_goals(first|rfl|simp)
      ·refine zF ?_
       all_goals(simp[bC,i_,pP];done)
   ·refine zQ 21 ?_;refine EvO.nil (leafT ?_ ?_)
    ·dsimp only[setW,List.foldl,nth,u2,u1]
     all_goals(first|rfl|simp)
    ·refine zF ?_
     all_goals(simp[bC];done)
  refine zG ?_;refine qc (fun h2=>?_) (fun h2=>?_)<;>try simp only[cs] at h2
  ·rw[h2,if_pos rfl] at hp;have hpl:=rF acc a (b-1);obtain⟨x',ae,hev2,He⟩:=uR (acc:=acc) (lo:=a) (hi:=b-1) hF hH (by omega) (fun k hk=>by have:=hab k hk;omega);refine zQ 4 ?_;refine qr fun N9 Ik=>?_;refine zQ 4 ?_;refine qr fun N7 Ii=>?_;refine qR ?_;refine EvO.Bc rfl (ev rfl) (ev rfl) (by omega) (by omega) (put_T rfl _) ?_;refine qv (hev2) ?_;refine zQ 2 ?_;have hH:=He;refine zQ 5 ?_;refine⟨mm-1,by omega,⟨i+1,x',de acc a (b-1),rfl,hH,by omega,hp,by omega,?_⟩⟩;intro k hk;unfold de at hk
   split at hk
   ·simp only[List.mem_cons,List.not_mem_nil,or_false] at hk;subst hk;simp only;omega
   ·rename_i h t
    split at hk
    ·rcases List.mem_cons.1 hk with rfl|hk
     ·simp only;omega
     ·exact hab k (List.mem_cons_of_mem _ hk)
    ·rcases List.mem_cons.1 hk with rfl|hk
     ·simp only;omega
     ·exact hab k hk
  ·rw[h2] at hp;refine zQ 6 ?_;exact⟨mm-1,by omega,⟨i+1,y,acc,rfl,hH,by omega,hp,by omega,hab⟩⟩
 ·refine zQ 6 ?_
  have cC:acc=cB l true m []:=by
   rw[←hp];have Eg:(m.drop i).length≤1:=by rw[List.length_drop];omega
   match hd:m.drop i,Eg with
   |[],_=>rfl
   |[_],_=>rfl
  refine EvC.ret ⟨rx,_,_,rfl,rl hSb hH ((hH.freeze at0 (da _) (n:=15) (by decide))),?_⟩;exact⟨acc.reverse,by rw[dc],by rw[cC];exact Md⟩
theorem uH {s0:St} {x:D} {l:List Rg} (hx:V.Rows s0 2 x (l.map ag)) (hl:l.length≤1048576):Ev pv 52 [x] s0 (.bool (iQ l)) s0:=by
 refine Ev.mk1 rfl MY rfl rfl rfl ?_;refine zE ?_;obtain⟨hSb,hF,hH⟩:=ri s0;generalize enterSt .ro s0=S at*;have hx:=Arg.of hx hSb;refine zQ 4 ?_;obtain⟨_,hev,m,rfl,hM⟩:=pe (hx.rows hH) (by omega);rw[rz hM];refine zQ 3 ?_;refine qv (hev) ?_;refine zQ 2 ?_;have mJ:Arg s0.bs.length S 2 (aA m) (m.map ag):=Arg.pure (fun st=>cG st m);refine zQ 4 ?_;refine qn ?_;simp only[List.length_map];refine qm ?_;refine qn ?_;simp only[List.length_map];refine zQ 2 ?_
 by_cases hlen:m.length=l.length
 ·refine EvC.cond (v:=false) ?_ (fun h=>by cases h) (fun _=>?_)
  ·dsimp only[Fr.ev,Fr.get,nth,V.look];rw[hlen];simp
  refine zQ 7 ?_;refine EvC.loop (fun mm fr st=>∃(i:Nat),fr.clean=⟨5,[x,eR fr 1,.bool false,aA m,.int .i64 (i:Nat)],[]⟩∧Has s0.bs.length S st []∧(i+mm=l.length)∧(l.take i=m.take i)) (l.length) ?_ ?_
  ·exact⟨0,rfl,hH,by omega,rfl⟩
  rintro mm fr st ⟨i,hfr,hH,hi,ht⟩;rw[hfr];clear hfr;generalize eR fr=ee;clear fr;refine zQ 5 ?_;refine qn ?_;simp only[List.length_map];refine zQ 2 ?_;refine zP (fun h1=>?_) fun h1=>?_
  ·refine zQ 1 ?_
   obtain⟨p,hp⟩:∃p,l[i]?=some p:=⟨l[i]'(by omega),List.getElem?_eq_getElem _⟩
   obtain⟨q,hq⟩:∃q,m[i]?=some q:=⟨m[i]'(by omega),List.getElem?_eq_getElem _⟩
   have hr1:=cF hp;have nY:=cF hq;refine zQ 6 ?_;refine qr fun Kf F1=>?_;refine EvO.cx rfl (ev rfl) (by assumption) rfl (put_T rfl _) ?_;refine zQ 2 ?_;refine qr fun Fs xx=>?_;refine EvO.cx rfl (ev rfl) (by assumption) rfl (put_T rfl _) ?_;refine EvO.Kn rfl (ev rfl) (ev rfl) (mX q p) (put_T rfl _) ?_;refine zQ 1 ?_;refine EvC.cond (by rfl) (fun h2=>?_) (fun h2=>?_)<;>try simp only[decide_eq_true_eq,decide_eq_false_iff_not,Bool.not_eq_true',Bool.not_eq_false'] at h2
   ·refine zQ 4 ?_;rw[decide_eq_false (kE hp hq (by simpa[eq_comm] using h2))];refine EvC.ret ⟨rx,_,rfl,rl hSb hH (rfl)⟩
   ·refine zQ 6 ?_;exact⟨mm-1,by omega,⟨i+1,rfl,hH,by omega,gg hp hq ht (by simpa[eq_comm] using h2)⟩⟩
  ·refine zQ 5 ?_;rw[decide_eq_true (by rw[List.take_of_length_le (by omega),List.take_of_length_le (by omega)] at ht;exact ht)];refine EvC.ret ⟨rx,_,rfl,rl hSb hH (rfl)⟩
 ·refine EvC.cond (v:=true) ?_ (fun _=>?_) (fun h=>by cases h)
  ·dsimp only[Fr.ev,Fr.get,nth,V.look];simp;omega
  refine zQ 4 ?_;rw[decide_eq_false (fun h=>hlen (by rw[h]))];refine EvC.ret ⟨rx,_,rfl,rl hSb hH (rfl)⟩
structure aN where
 op:Int
 x:Int
 y:Int
 rd:D
 rs:List Rg
def aT (i:aN):List D:=[.int .i64 i.op,.int .i64 i.x,.int .i64 i.y,i.rd]
def aN.ok (i:aN):Prop:=SlD i.rd 2 (i.rs.map ag)∧i.rs.length≤1048576
def ah (n:Int):List D:=[.int .i64 n]
structure Pg where
 cd:D
 code:List aN
 sd:D
 bf:List Int
structure Pg.ok (p:Pg):Prop where
 c:SlD p.cd 4 (p.code.map aT)
 s:SlD p.sd 1 (p.bf.map ah)
 i:∀x∈p.code,x.ok
 cl:p.code.length≤1048576
 sl:p.bf.length≤1048576
def Pg.cs (p:Pg):List D:=[p.cd,p.sd]
def Pg.d (p:Pg):D:=.agg p.cs
theorem kI {l:List aN} {i:Nat} {q:aN} (h:l[i]?=some q):(l.map aT)[i]?=some (aT q):=by rw[List.getElem?_map,h];rfl
theorem fe {l:List Int} {i:Nat} {q:Int} (h:l[i]?=some q):(l.map ah)[i]?=some (ah q):=by rw[List.getElem?_map,h];rfl
def D4 (v n:Int):Bool:=decide (v≥0) &&decide (v<n)
noncomputable def oD (n ns pc:Nat) (i:aN):Bool:=
 if i.op=1 then i.y==0 &&(decide (((pc+1:Nat):Int)<n) &&i.x==0 &&iQ i.rs)
 else i.rs.isEmpty &&
  (if i.op=2 then D4 i.x n &&D4 i.y n
  else i.y==0 &&
   (if i.op=3 then D4 i.x n
   else if i.op=4 then decide (((pc+1:Nat):Int)<n) &&D4 i.x 10
   else if i.op=5∨i.op=6 then decide (((pc+1:Nat):Int)<n) &&i.x==0
   else if i.op=7 then D4 i.x ns
   else false))
theorem nj (l:List Int):∀e∈l.map ah,∀d∈e,bS d=true:=by
 intro e he d hd;obtain⟨x,_,rfl⟩:=List.mem_map.1 he;simp only[ah,List.mem_cons,List.not_mem_nil,or_false] at hd;subst hd;rfl
theorem D2 (l:List Int):∀e∈l.map ah,e.length=1:=by
 intro e he;obtain⟨x,_,rfl⟩:=List.mem_map.1 he;rfl
def EK (l:List Int):D:=.sl ((l.map ah).map (ic 1))
theorem Ca (l:List Int):SlD (EK l) 1 (l.map ah):=SlD.frozen (D2 l) (nj l)
def jg (pc:Nat) (i:aN):List Int:=
 if i.op=2 then[i.x,i.y] else if i.op=3 then[i.x] else if i.op=7 then[] else[((pc+1:Nat):Int)]
def zh (code:List aN):Prop:=∀pc i,code[pc]?=some i→∀v∈jg pc i,0≤v∧v<code.length
theorem uq {n ns pc:Nat} {i:aN} (h:oD n ns pc i=true):∀v∈jg pc i,0≤v∧v<n:=by
 intro v hv
 have oI:∀a b:Int,D4 a b=true→0≤a∧a<b:=fun a b h=>by
  unfold D4 at h;simp only[Bool.and_eq_true,decide_eq_true_eq] at h;exact⟨h.1,h.2⟩
 unfold oD at h;unfold jg at hv
 split at h
 ·rename_i h1;rw[if_neg (by omega),if_neg (by omega),if_neg (by omega)] at hv;simp only[Bool.and_eq_true,decide_eq_true_eq] at h;simp only[List.mem_cons,List.not_mem_nil,or_false] at hv;subst hv;omega
 ·simp only[Bool.and_eq_true] at h;obtain⟨_,h⟩:=h
  split at h
  ·rename_i h2;rw[if_pos h2] at hv;simp only[Bool.and_eq_true] at h;simp only[List.mem_cons,List.not_mem_nil,or_false] at hv
   rcases hv with rfl|rfl
   ·exact oI _ _ h.1
   ·exact oI _ _ h.2
  ·rename_i h2;rw[if_neg h2] at hv;simp only[Bool.and_eq_true] at h;obtain⟨_,h⟩:=h
   split at h
   ·rename_i h3;rw[if_pos h3] at hv;simp only[List.mem_cons,List.not_mem_nil,or_false] at hv;subst hv;exact oI _ _ h
   ·rename_i h3;rw[if_neg h3] at hv
    split at h
    ·rename_i h4;rw[if_neg (by omega)] at hv;simp only[Bool.and_eq_true,decide_eq_true_eq] at h;simp only[List.mem_cons,List.not_mem_nil,or_false] at hv;subst hv;omega
    ·split at h
     ·rename_i h5;rw[if_neg (by omega)] at hv;simp only[Bool.and_eq_true,decide_eq_true_eq] at h;simp only[List.mem_cons,List.not_mem_nil,or_false] at hv;subst hv;omega
     ·split at h
      ·rename_i h7;rw[if_pos h7] at hv;cases hv
      ·cases h
def NN (code:List aN):Nat→List Bool→List Int→List Bool
 |0,seen,_=>seen
 |_+1,seen,[]=>seen
 |f+1,seen,v::N3=>match seen[v.toNat]? with
  |some false=>match code[v.toNat]? with
   |some i=>NN code f (seen.set v.toNat true) ((jg v.toNat i).reverse++N3)
   |none=>seen
  |_=>NN code f seen N3
def Fp (code:List aN) (start:Int):List Bool:=NN code (3*code.length+1) (List.replicate code.length false) [start]
theorem count_set {seen:List Bool} {k:Nat} (h:seen[k]?=some false):(seen.set k true).count false+1=seen.count false:=by
 induction seen generalizing k with
 |nil=>simp at h
 |cons b l ih=>
  cases k with
  |zero=>simp at h;subst h;simp
  |succ k=>
   have:=ih (k:=k) (by simpa using h);simp only[List.set_cons_succ,List.count_cons];omega
def BH (p:Pg) (r:Nat) (s:Int) (n:Nat):Prop:=∀pc i,pc<n→(Fp p.code s)[pc]?=some true→p.code[pc]?=some i→i.op=7→i.x=(r:Int)
structure Dd (p:Pg):Prop where
 cl:p.code.length≤400
 sl:p.bf.length≤8
 sh:∀pc i,p.code[pc]?=some i→oD p.code.length p.bf.length pc i=true
 st:∀v∈p.bf,0≤v∧v<(p.code.length:Int)
 fo:∀r s,p.bf[r]?=some s→BH p r s p.code.length
theorem AL {p:Pg} (h:∀pc i,p.code[pc]?=some i→oD p.code.length p.bf.length pc i=true):zh p.code:=
 fun pc i hi=>uq (h pc i hi)
theorem Dd.closed {p:Pg} (h:Dd p):zh p.code:=AL h.sh
theorem oI {a b:Int}:D4 a b=true↔0≤a∧a<b:=by
 unfold D4;simp only[Bool.and_eq_true,decide_eq_true_eq,ge_iff_le]
def ng (fr:Go.V.Fr) (k:Nat):Go.V.D:=Go.V.nth .junk fr.loc k
theorem wQ {s0:St} {x y:D} {l m:List Int} (hx:V.Rows s0 1 x (l.map ah)) (hy:V.Rows s0 1 y (m.map ah)) (hl:l.length≤1073741824) (hm:m.length≤1073741824):Ev pv 22 [x,y] s0 (.bool (decide (l=m))) s0:=by
 refine Ev.mk1 rfl Nt rfl rfl rfl ?_;refine zE ?_;obtain⟨hSb,hF,hH⟩:=ri s0;generalize enterSt .ro s0=S at*;have hx:=Arg.of hx hSb;have hy:=Arg.of hy hSb;refine zQ 8 ?_;refine qn ?_;simp only[List.length_map];refine qm ?_;refine qn ?_;simp only[List.length_map];refine zQ 2 ?_
 by_cases hlen:l.length=m.length
 ·refine qE rfl (by rw[hlen];simp) ?_;refine zQ 7 ?_;refine EvC.loop (fun mm fr st=>∃(i:Nat),fr.clean=⟨6,[x,y,ng fr 2,ng fr 3,.bool false,.int .i64 (i:Nat)],[]⟩∧Has s0.bs.length S st []∧(i+mm=l.length)∧(l.take i=m.take i)) (l.length) ?_ ?_
  ·exact⟨0,rfl,hH,by omega,rfl⟩
  rintro mm fr st ⟨i,hfr,hH,hi,ht⟩;rw[hfr];clear hfr;generalize ng fr=ee;clear fr;refine zQ 5 ?_;refine qn ?_;simp only[List.length_map];refine zQ 2 ?_;refine zP (fun h1=>?_) fun h1=>?_
  ·refine zQ 1 ?_
   obtain⟨p,hp⟩:∃p,l[i]?=some p:=⟨l[i]'(by omega),List.getElem?_eq_getElem _⟩
   obtain⟨q,hq⟩:∃q,m[i]?=some q:=⟨m[i]'(by omega),List.getElem?_eq_getElem _⟩
   have hr1:=fe hp;have nY:=fe hq;refine zQ 6 ?_;refine qr fun Pz Lf=>?_;refine zQ 3 ?_;refine qr fun HF Cl=>?_;refine zQ 3 ?_;refine EvC.cond (by rfl) (fun h2=>?_) (fun h2=>?_)<;>try simp only[bne_iff_ne,bne_eq_false_iff_eq,ne_eq] at h2
   ·refine zQ 4 ?_;rw[decide_eq_false (kE hp hq (by simpa using h2))];refine EvC.ret ⟨rx,_,rfl,rl hSb hH (rfl)⟩
   ·refine zQ 6 ?_;exact⟨mm-1,by omega,⟨i+1,rfl,hH,by omega,gg hp hq ht (by simpa using h2)⟩⟩
  ·refine zQ 5 ?_;rw[decide_eq_true (by rw[List.take_of_length_le (by omega),List.take_of_length_le (by omega)] at ht;exact ht)];refine EvC.ret ⟨rx,_,rfl,rl hSb hH (rfl)⟩
 ·refine qD rfl (by simp;omega) ?_;refine zQ 4 ?_;rw[decide_eq_false (fun h=>hlen (by rw[h]))];refine EvC.ret ⟨rx,_,rfl,rl hSb hH (rfl)⟩
theorem sJ {s0:St} {x y:D} {l m:List Rg} (hx:V.Rows s0 2 x (l.map ag)) (hy:V.Rows s0 2 y (m.map ag)) (hl:l.length≤1073741824) (hm:m.length≤1073741824):Ev pv 23 [x,y] s0 (.bool (decide (l=m))) s0:=by
 refine Ev.mk1 rfl Ns rfl rfl rfl ?_;refine zE ?_;obtain⟨hSb,hF,hH⟩:=ri s0;generalize enterSt .ro s0=S at*;have hx:=Arg.of hx hSb;have hy:=Arg.of hy hSb;refine zQ 8 ?_;refine qn ?_;simp only[List.length_map];refine qm ?_;refine qn ?_;simp only[List.length_map];refine zQ 2 ?_
 by_cases hlen:l.length=m.length
 ·refine qE rfl (by rw[hlen];simp) ?_;refine zQ 7 ?_;refine EvC.loop (fun mm fr st=>∃(i:Nat),fr.clean=⟨6,[x,y,ng fr 2,ng fr 3,.bool false,.int .i64 (i:Nat)],[]⟩∧Has s0.bs.length S st []∧(i+mm=l.length)∧(l.take i=m.take i)) (l.length) ?_ ?_
  ·exact⟨0,rfl,hH,by omega,rfl⟩
  rintro mm fr st ⟨i,hfr,hH,hi,ht⟩;rw[hfr];clear hfr;generalize ng fr=ee;clear fr;refine zQ 5 ?_;refine qn ?_;simp only[List.length_map];refine zQ 2 ?_;refine zP (fun h1=>?_) fun h1=>?_
  ·refine zQ 1 ?_
   obtain⟨p,hp⟩:∃p,l[i]?=some p:=⟨l[i]'(by omega),List.getElem?_eq_getElem _⟩
   obtain⟨q,hq⟩:∃q,m[i]?=some q:=⟨m[i]'(by omega),List.getElem?_eq_getElem _⟩
   have hr1:=cF hp;have nY:=cF hq;refine zQ 6 ?_;refine qr fun Pz Lf=>?_;refine EvO.cx rfl (ev rfl) (by assumption) rfl (put_T rfl _) ?_;refine zQ 2 ?_;refine qr fun HF Cl=>?_;refine EvO.cx rfl (ev rfl) (by assumption) rfl (put_T rfl _) ?_;refine EvO.Kn rfl (ev rfl) (ev rfl) (mX p q) (put_T rfl _) ?_;refine zQ 1 ?_;refine EvC.cond (by rfl) (fun h2=>?_) (fun h2=>?_)<;>try simp only[decide_eq_true_eq,decide_eq_false_iff_not,Bool.not_eq_true',Bool.not_eq_false'] at h2
   ·refine zQ 4 ?_;rw[decide_eq_false (kE hp hq (by simpa using h2))];refine EvC.ret ⟨rx,_,rfl,rl hSb hH (rfl)⟩
   ·refine zQ 6 ?_;exact⟨mm-1,by omega,⟨i+1,rfl,hH,by omega,gg hp hq ht (by simpa using h2)⟩⟩
  ·refine zQ 5 ?_;rw[decide_eq_true (by rw[List.take_of_length_le (by omega),List.take_of_length_le (by omega)] at ht;exact ht)];refine EvC.ret ⟨rx,_,rfl,rl hSb hH (rfl)⟩
 ·refine qD rfl (by simp;omega) ?_;refine zQ 4 ?_;rw[decide_eq_false (fun h=>hlen (by rw[h]))];refine EvC.ret ⟨rx,_,rfl,rl hSb hH (rfl)⟩
end Go.Proofs.YtajblankjjmonaaGreat
