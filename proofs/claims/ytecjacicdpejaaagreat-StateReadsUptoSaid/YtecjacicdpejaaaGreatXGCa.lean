/-
 Ranges of runes: the canonical form, by plain lists. No program in sight.
-/
import Derived.Test.YtecjacicdpejaaaGreatXGHr
import Derived.Test.YtecjacicdpejaaaGreatXPx
import Derived.Test.YtecjacicdpejaaaGreatXM2
import Derived.KernelRfl
set_option linter.unusedSimpArgs false
set_option linter.unusedVariables false
set_option maxRecDepth 100000
set_option maxHeartbeats 4000000
namespace Go.V
abbrev Rg:=Int×Int
def dw (l:List Rg) (r:Int):Prop:=∃x,x∈l∧x.1≤r∧r≤x.2
theorem dZ (r:Int):¬dw [] r:=by rintro⟨x,h,_⟩;cases h
theorem bw {x:Rg} {l:List Rg} {r:Int}:dw (x::l) r↔(x.1≤r∧r≤x.2)∨dw l r:=by
 constructor
 ·rintro⟨y,hy,h⟩
  rcases List.mem_cons.1 hy with rfl|hy
  ·exact .inl h
  ·exact .inr ⟨y,hy,h⟩
 ·rintro(h|⟨y,hy,h⟩)
  ·exact⟨x,List.mem_cons_self ..,h⟩
  ·exact⟨y,List.mem_cons_of_mem _ hy,h⟩
theorem x6 {a b:List Rg} {r:Int}:dw (a++b) r↔dw a r∨dw b r:=by
 constructor
 ·rintro⟨y,hy,h⟩
  rcases List.mem_append.1 hy with hy|hy
  ·exact .inl ⟨y,hy,h⟩
  ·exact .inr ⟨y,hy,h⟩
 ·rintro(⟨y,hy,h⟩|⟨y,hy,h⟩)
  ·exact⟨y,List.mem_append_left _ hy,h⟩
  ·exact⟨y,List.mem_append_right _ hy,h⟩
theorem oO {a b:List Rg} (h:∀x,x∈a↔x∈b) (r:Int):dw a r↔dw b r:=by
 constructor
 ·rintro⟨y,hy,hh⟩;exact⟨y,(h y).1 hy,hh⟩
 ·rintro⟨y,hy,hh⟩;exact⟨y,(h y).2 hy,hh⟩
def canon (l:List Rg):Prop:=(∀x∈l,x.1≤x.2)∧l.Pairwise fun x y=>x.2+1<y.1
theorem kK {x:Rg} {l:List Rg} (h:canon (x::l)):canon l∧x.1≤x.2∧∀r,dw l r→x.2+1<r:=by
 obtain⟨h1,h2⟩:=h;rw[List.pairwise_cons] at h2;refine⟨⟨fun y hy=>h1 y (List.mem_cons_of_mem _ hy),h2.2⟩,h1 x (List.mem_cons_self ..),?_⟩;rintro r ⟨y,hy,h3,h4⟩;have:=h2.1 y hy;omega
theorem n_:∀{a b:List Rg},canon a→canon b→(∀r,dw a r↔dw b r)→a=b
 |[],[],_,_,_=>rfl
 |[],y::b,_,hb,h=>by
  obtain⟨_,h1,_⟩:=kK hb;exact absurd ((h y.1).2 (bw.2 (.inl ⟨Int.le_refl _,h1⟩))) (dZ _)
 |x::a,[],ha,_,h=>by
  obtain⟨_,h1,_⟩:=kK ha;exact absurd ((h x.1).1 (bw.2 (.inl ⟨Int.le_refl _,h1⟩))) (dZ _)
 |x::a,y::b,ha,hb,h=>by
  obtain⟨ca,xa,fa⟩:=kK ha;obtain⟨cb,yb,fb⟩:=kK hb
  have low:∀{x y:Rg} {a b:List Rg},x.1≤x.2→(∀r,dw b r→y.2+1<r)→y.1≤y.2→(∀r,dw (x::a) r→dw (y::b) r)→y.1≤x.1:=by
   intro x y a b hx hf hy hh
   rcases bw.1 (hh x.1 (bw.2 (.inl ⟨Int.le_refl _,hx⟩))) with h|h
   ·exact h.1
   ·have:=hf _ h;omega
  have e1:x.1=y.1:=Int.le_antisymm (low yb fa xa fun r=>(h r).2) (low xa fb yb fun r=>(h r).1)
  have up:∀{x y:Rg} {a b:List Rg},x.1≤x.2→x.1=y.1→(∀r,dw a r→x.2+1<r)→(∀r,dw (y::b) r→dw (x::a) r)→y.2≤x.2:=by
   intro x y a b hx he hf hh
   rcases Int.lt_or_le x.2 y.2 with h'|h'
   ·rcases bw.1 (hh (x.2+1) (bw.2 (.inl ⟨by omega,by omega⟩))) with h|h
    ·omega
    ·have:=hf _ h;omega
   ·exact h'
  have e2:x.2=y.2:=Int.le_antisymm (up yb e1.symm fb fun r=>(h r).1) (up xa e1 fa fun r=>(h r).2);have e:x=y:=Prod.ext e1 e2;subst e
  congr 1
  refine n_ ca cb fun r=>⟨fun hr=>?_,fun hr=>?_⟩
  ·have:=fa r hr
   rcases bw.1 ((h r).1 (bw.2 (.inr hr))) with h|h
   ·omega
   ·exact h
  ·have:=fb r hr
   rcases bw.1 ((h r).2 (bw.2 (.inr hr))) with h|h
   ·omega
   ·exact h
def dF (acc:List Rg) (r:Rg):List Rg:=
 match acc with
 |[]=>[r]
 |k::rest=>if r.1≤k.2+1 then(k.1,max k.2 r.2)::rest else r::k::rest
theorem nL:∀(l acc:List Rg),(∀x∈l,x.1≤x.2)→l.Pairwise (fun x y=>x.1≤y.1)→(∀k∈acc.head?,∀x∈l,k.1≤x.1)→(∀x∈acc,x.1≤x.2)→acc.Pairwise (fun x y=>y.2+1<x.1)→
  (∀x∈l.foldl dF acc,x.1≤x.2)∧(l.foldl dF acc).Pairwise (fun x y=>y.2+1<x.1)∧∀r,dw (l.foldl dF acc) r↔dw acc r∨dw l r
 |[],acc,_,_,_,h1,h2=>⟨h1,h2,fun r=>⟨.inl,fun h=>h.resolve_right (dZ r)⟩⟩
 |x::l,acc,hl,hp,hk,h1,h2=>by
  rw[List.pairwise_cons] at hp;have hx:=hl x (List.mem_cons_self ..);have iM:∀y∈l,y.1≤y.2:=fun y hy=>hl y (List.mem_cons_of_mem _ hy);rw[List.foldl_cons]
  cases acc with
  |nil=>
   obtain⟨g1,g2,g3⟩:=nL l [x] iM hp.2 (fun k kG y hy=>by simp at kG;subst kG;exact hp.1 y hy) (fun y hy=>by simp at hy;subst hy;exact hx) (by simp);refine⟨g1,g2,fun r=>(g3 r).trans ?_⟩;rw[bw (l:=l),bw (l:=[])];constructor
   ·rintro((h|h)|h)
    ·exact .inr (.inl h)
    ·exact absurd h (dZ r)
    ·exact .inr (.inr h)
   ·rintro(h|h|h)
    ·exact absurd h (dZ r)
    ·exact .inl (.inl h)
    ·exact .inr h
  |cons k rest=>
   have X5:=hk k rfl x (List.mem_cons_self ..);have hkk:=h1 k (List.mem_cons_self ..);rw[List.pairwise_cons] at h2;unfold dF
   by_cases hc:x.1≤k.2+1
   ·simp only[if_pos hc]
    obtain⟨g1,g2,g3⟩:=nL l ((k.1,max k.2 x.2)::rest) iM hp.2 (fun q hq y hy=>by simp at hq;subst hq;have:=hp.1 y hy;simp only;omega) (fun y hy=>by
     rcases List.mem_cons.1 hy with rfl|hy
     ·simp only;omega
     ·exact h1 y (List.mem_cons_of_mem _ hy)) (by rw[List.pairwise_cons];exact⟨h2.1,h2.2⟩)
    refine⟨g1,g2,fun r=>(g3 r).trans ?_⟩;rw[bw (l:=rest),bw (l:=rest),bw (l:=l)];constructor
    ·rintro((h|h)|h)
     ·simp only at h
      by_cases hr:r≤k.2
      ·exact .inl (.inl ⟨h.1,hr⟩)
      ·exact .inr (.inl ⟨by omega,by omega⟩)
     ·exact .inl (.inr h)
     ·exact .inr (.inr h)
    ·rintro((h|h)|h|h)
     ·exact .inl (.inl ⟨h.1,by simp only;omega⟩)
     ·exact .inl (.inr h)
     ·exact .inl (.inl ⟨by simp only;omega,by simp only;omega⟩)
     ·exact .inr h
   ·simp only[if_neg hc]
    obtain⟨g1,g2,g3⟩:=nL l (x::k::rest) iM hp.2 (fun q hq y hy=>by simp at hq;subst hq;exact hp.1 y hy) (fun y hy=>by
     rcases List.mem_cons.1 hy with rfl|hy
     ·exact hx
     ·exact h1 y hy) (by
     rw[List.pairwise_cons];refine⟨fun y hy=>?_,by rw[List.pairwise_cons];exact h2⟩
     rcases List.mem_cons.1 hy with rfl|hy
     ·omega
     ·have:=h2.1 y hy;omega)
    refine⟨g1,g2,fun r=>(g3 r).trans ?_⟩;rw[bw (l:=k::rest),bw (l:=l)];constructor
    ·rintro((h|h)|h)
     ·exact .inr (.inl h)
     ·exact .inl h
     ·exact .inr (.inr h)
    ·rintro(h|h|h)
     ·exact .inl (.inr h)
     ·exact .inl (.inl h)
     ·exact .inr h
theorem zZ {l:List Rg} (h1:∀x∈l,x.1≤x.2) (h2:l.Pairwise fun x y=>x.1≤y.1):canon (l.foldl dF []).reverse∧∀r,dw (l.foldl dF []).reverse r↔dw l r:=by
 obtain⟨g1,g2,g3⟩:=nL l [] h1 h2 (fun k hk=>by simp at hk) (fun x hx=>by simp at hx) List.Pairwise.nil;refine⟨⟨fun x hx=>g1 x (List.mem_reverse.1 hx),by rw[List.pairwise_reverse];exact g2⟩,fun r=>?_⟩;rw[oO (fun x=>List.mem_reverse) r,g3 r];exact⟨fun h=>h.resolve_left (dZ r),.inr⟩
def gR (r:Int):Prop:=0≤r∧r≤1114111∧¬(55296≤r∧r≤57343)
def dM (x:Rg):List Rg:=
 (if max (max x.1 0) 0≤min (min x.2 1114111) 55295 then[(max (max x.1 0) 0,min (min x.2 1114111) 55295)] else[])++
 (if max (max x.1 0) 57344≤min (min x.2 1114111) 1114111 then[(max (max x.1 0) 57344,min (min x.2 1114111) 1114111)] else[])
theorem rz (x:Rg) (r:Int):dw (dM x) r↔gR r∧x.1≤r∧r≤x.2:=by
 unfold dM gR;rw[x6]
 have one:∀(a b:Int),dw (if a≤b then[(a,b)] else[]) r↔a≤r∧r≤b:=by
  intro a b
  split
  ·rw[bw];exact⟨fun h=>h.elim id fun h=>absurd h (dZ r),.inl⟩
  ·exact⟨fun h=>absurd h (dZ r),fun h=>by omega⟩
 rw[one,one];omega
theorem oy (x:Rg):∀y∈dM x,y.1≤y.2∧0≤y.1∧y.2≤1114111:=by
 intro y hy;unfold dM at hy
 rcases List.mem_append.1 hy with h|h<;>split at h<;>simp at h<;>subst h<;>simp only<;>omega
theorem rZ {l all:List Rg} (hp:∀x,x∈all↔x∈l.flatMap dM) (hs:all.Pairwise fun x y=>x.1≤y.1):canon (all.foldl dF []).reverse∧∀r,dw (all.foldl dF []).reverse r↔gR r∧dw l r:=by
 have hle:∀x∈all,x.1≤x.2:=fun x hx=>by
  obtain⟨y,_,hy⟩:=List.mem_flatMap.1 ((hp x).1 hx);exact(oy y x hy).1
 obtain⟨g1,g2⟩:=zZ hle hs;refine⟨g1,fun r=>(g2 r).trans ((oO hp r).trans ?_)⟩;constructor
 ·rintro⟨y,hy,h⟩;obtain⟨x,hx,hy⟩:=List.mem_flatMap.1 hy;have:=(rz x r).1 ⟨y,hy,h⟩;exact⟨this.1,x,hx,this.2⟩
 ·rintro⟨hr,x,hx,h⟩;obtain⟨y,hy,h'⟩:=(rz x r).2 ⟨hr,h⟩;exact⟨y,List.mem_flatMap.2 ⟨x,hx,hy⟩,h'⟩
def kU:List Rg→Int→Bool
 |[],_=>false
 |x::l,r=>(decide (x.1≤r) &&decide (r≤x.2))||kU l r
theorem sJ:∀(l:List Rg) (r:Int),kU l r=true↔dw l r
 |[],r=>⟨fun h=>(by cases h),fun h=>absurd h (dZ r)⟩
 |x::l,r=>by
  rw[bw,←sJ l r];simp[kU]
def iA (x:Rg):List Int:=
 (if x.1≤x.2∧0≤x.1∧x.1≤1114111 then[x.1] else[])++(if x.1≤x.2∧0≤x.2∧x.2<1114111 then[x.2+1] else[])
def eI (acc:List Rg) (lo hi:Int):List Rg:=
 match acc with
 |[]=>[(lo,hi)]
 |k::rest=>if k.2+1=lo then(k.1,hi)::rest else(lo,hi)::k::rest
def KY (l:List Rg) (yes:Bool) (a b:Int):Bool:=decide (a<b) &&(decide (a<55296)||decide (57343<a)) &&(kU l a==yes)
def fG (l:List Rg) (yes:Bool):List Int→List Rg→List Rg
 |a::b::t,acc=>fG l yes (b::t) (if KY l yes a b=true then eI acc a (b-1) else acc)
 |_,acc=>acc
theorem It {l:List Rg} {m:List Int} {a b:Int} (hm:∀x∈l,∀e∈iA x,e≤a∨b≤e) (h1:55296≤a∨b≤55296) (h2:57344≤a∨b≤57344) (ha:0≤a) (hb:b≤1114112) {r:Int} (hr:a≤r) (Qe:r<b):
  (gR r↔¬(55296≤a∧a≤57343))∧(dw l r↔dw l a):=by
 refine⟨by unfold gR;omega,?_,?_⟩
 ·rintro⟨x,hx,h3,h4⟩;refine⟨x,hx,?_,by omega⟩
  rcases Int.lt_or_le a x.1 with h|h
  ·have:=hm x hx x.1 (by unfold iA;rw[if_pos (by omega)];simp);omega
  ·exact h
 ·rintro⟨x,hx,h3,h4⟩;refine⟨x,hx,by omega,?_⟩
  rcases Int.lt_or_le x.2 r with h|h
  ·have:=hm x hx (x.2+1) (by unfold iA;rw[if_pos (c:=x.1≤x.2∧0≤x.2∧x.2<1114111) (by omega)];simp);omega
  ·exact h
theorem Eg {acc:List Rg} {lo hi:Int} (h1:∀x∈acc,x.1≤x.2) (h2:acc.Pairwise (fun x y=>y.2+1<x.1)) (h3:∀x∈acc,x.2<lo) (h4:lo≤hi):
  (∀x∈eI acc lo hi,x.1≤x.2)∧(eI acc lo hi).Pairwise (fun x y=>y.2+1<x.1)∧(∀x∈eI acc lo hi,x.2≤hi)∧∀r,dw (eI acc lo hi) r↔dw acc r∨(lo≤r∧r≤hi):=by
 cases acc with
 |nil=>
  refine⟨by simp[eI,h4],by simp[eI],by simp[eI],fun r=>?_⟩;simp only[eI];rw[bw];exact⟨fun h=>.inr (h.resolve_right (dZ r)),fun h=>.inl (h.resolve_left (dZ r))⟩
 |cons k rest=>
  have hk:=h1 k (List.mem_cons_self ..);have tG:=h3 k (List.mem_cons_self ..);rw[List.pairwise_cons] at h2;unfold eI
  by_cases hc:k.2+1=lo
  ·simp only[if_pos hc];refine⟨fun x hx=>?_,?_,fun x hx=>?_,fun r=>?_⟩
   ·rcases List.mem_cons.1 hx with rfl|hx
    ·simp only;omega
    ·exact h1 x (List.mem_cons_of_mem _ hx)
   ·rw[List.pairwise_cons];exact⟨h2.1,h2.2⟩
   ·rcases List.mem_cons.1 hx with rfl|hx
    ·simp
    ·have:=h3 x (List.mem_cons_of_mem _ hx);omega
   ·rw[bw (l:=rest),bw (l:=rest)];simp only;constructor
    ·rintro(h|h)
     ·by_cases hh:r≤k.2
      ·exact .inl (.inl ⟨h.1,hh⟩)
      ·exact .inr (by omega)
     ·exact .inl (.inr h)
    ·rintro((h|h)|h)
     ·exact .inl (by omega)
     ·exact .inr h
     ·exact .inl (by omega)
  ·simp only[if_neg hc];refine⟨fun x hx=>?_,?_,fun x hx=>?_,fun r=>?_⟩
   ·rcases List.mem_cons.1 hx with rfl|hx
    ·exact h4
    ·exact h1 x hx
   ·rw[List.pairwise_cons];refine⟨fun y hy=>?_,by rw[List.pairwise_cons];exact h2⟩
    rcases List.mem_cons.1 hy with rfl|hy
    ·simp only;omega
    ·have:=h2.1 y hy;simp only;omega
   ·rcases List.mem_cons.1 hx with rfl|hx
    ·exact Int.le_refl _
    ·have:=h3 x hx;omega
   ·rw[bw];exact⟨fun h=>h.elim .inr .inl,fun h=>h.elim .inr .inl⟩
theorem oI (l:List Rg) (yes:Bool):∀(m:List Int) (acc:List Rg),m.Pairwise (·≤·)→(∀a∈m,0≤a∧a≤1114112)→
  (∀q:Int,(q=55296∨q=57344∨∃x∈l,q∈iA x)→q∈m∨∀a∈m,q≤a)→(∀x∈acc,x.1≤x.2)→acc.Pairwise (fun x y=>y.2+1<x.1)→(∀x∈acc,∀a∈m.head?,x.2<a)→
  (∀x∈fG l yes m acc,x.1≤x.2)∧(fG l yes m acc).Pairwise (fun x y=>y.2+1<x.1)∧
  ∀r,dw (fG l yes m acc) r↔dw acc r∨(gR r∧(dw l r↔yes=true)∧(∃a∈m.head?,a≤r)∧∃b∈m.getLast?,r<b)
 |[],acc,_,_,_,h1,h2,_=>⟨h1,h2,fun r=>⟨.inl,fun h=>h.elim id (by rintro⟨_,_,⟨a,h,_⟩,_⟩;simp at h)⟩⟩
 |[a],acc,_,_,_,h1,h2,_=>⟨h1,h2,fun r=>⟨.inl,fun h=>h.elim id (by rintro⟨_,_,⟨a',h,h'⟩,b,hb,dW⟩;simp at h hb;omega)⟩⟩
 |a::b::t,acc,hs,hr,hm,h1,h2,h3=>by
  have Ma:=hs;rw[List.pairwise_cons] at hs;have hab:a≤b:=hs.1 b (List.mem_cons_self ..);have ha:=hr a (List.mem_cons_self ..);have hb:=hr b (List.mem_cons_of_mem _ (List.mem_cons_self ..))
  have key:∀q:Int,(q=55296∨q=57344∨∃x∈l,q∈iA x)→q≤a∨b≤q:=by
   intro q hq
   rcases hm q hq with h|h
   ·rcases List.mem_cons.1 h with rfl|h
    ·exact .inl (Int.le_refl _)
    ·rcases List.mem_cons.1 h with rfl|h
     ·exact .inr (Int.le_refl _)
     ·have:=(List.pairwise_cons.1 hs.2).1 q h;exact .inr this
   ·exact .inl (h a (List.mem_cons_self ..))
  have Pa:∀r,a≤r→r<b→(gR r↔¬(55296≤a∧a≤57343))∧(dw l r↔dw l a):=fun r h h'=>
   It (m:=[]) (fun x hx e he=>key e (.inr (.inr ⟨x,hx,he⟩))) (by have:=key 55296 (.inl rfl);omega) (by have:=key 57344 (.inr (.inl rfl));omega) ha.1 hb.2 h h'
  have Tw:∀q:Int,(q=55296∨q=57344∨∃x∈l,q∈iA x)→q∈b::t∨∀c∈b::t,q≤c:=by
   intro q hq
   rcases hm q hq with h|h
   ·rcases List.mem_cons.1 h with rfl|h
    ·exact .inr hs.1
    ·exact .inl h
   ·exact .inr fun c hc=>h c (List.mem_cons_of_mem _ hc)
  have BI:∀c∈b::t,0≤c∧c≤1114112:=fun c hc=>hr c (List.mem_cons_of_mem _ hc);have pJ:∀r,(∃e∈(a::b::t).getLast?,r<e)↔∃e∈(b::t).getLast?,r<e:=fun r=>by rw[List.getLast?_cons_cons]
  have hbl:∃e∈(b::t).getLast?,b≤e:=by
   refine⟨(b::t).getLast (by simp),by rw[List.getLast?_eq_some_getLast (by simp)];simp,?_⟩;have:=List.getLast_mem (l:=b::t) (by simp)
   rcases List.mem_cons.1 this with h|h
   ·rw[h];exact Int.le_refl _
   ·exact(List.pairwise_cons.1 hs.2).1 _ h
  have bq:KY l yes a b=true↔a<b∧¬(55296≤a∧a≤57343)∧(dw l a↔yes=true):=by
   unfold KY;rw[←sJ];cases kU l a<;>cases yes<;>simp<;>omega
  unfold fG
  by_cases hc:KY l yes a b=true
  ·rw[if_pos hc];obtain⟨c1,c2,c3⟩:=bq.1 hc;obtain⟨p1,p2,p3,p4⟩:=Eg h1 h2 (fun x hx=>h3 x hx a rfl) (show a≤b-1 by omega);obtain⟨g1,g2,g3⟩:=oI l yes (b::t) _ hs.2 BI Tw p1 p2 (fun x hx c hc=>by simp at hc;subst hc;have:=p3 x hx;omega);refine⟨g1,g2,fun r=>(g3 r).trans ?_⟩;rw[p4,pJ];constructor
   ·rintro((h|h)|⟨h4,h5,⟨c,hc,h6⟩,h7⟩)
    ·exact .inl h
    ·obtain⟨k1,k2⟩:=Pa r h.1 (by omega);obtain⟨e,he,TI⟩:=hbl;exact .inr ⟨k1.2 c2,k2.trans c3,⟨a,rfl,h.1⟩,e,he,by omega⟩
    ·simp at hc;subst hc;exact .inr ⟨h4,h5,⟨a,rfl,by omega⟩,h7⟩
   ·rintro(h|⟨h4,h5,⟨c,hc,h6⟩,h7⟩)
    ·exact .inl (.inl h)
    ·simp at hc;subst hc
     by_cases Qe:r<b
     ·exact .inl (.inr (by omega))
     ·exact .inr ⟨h4,h5,⟨b,rfl,by omega⟩,h7⟩
  ·rw[if_neg hc];obtain⟨g1,g2,g3⟩:=oI l yes (b::t) acc hs.2 BI Tw h1 h2 (fun x hx c hc=>by simp at hc;subst hc;have:=h3 x hx a rfl;omega);refine⟨g1,g2,fun r=>(g3 r).trans ?_⟩;rw[pJ];constructor
   ·rintro(h|⟨h4,h5,⟨c,hc,h6⟩,h7⟩)
    ·exact .inl h
    ·simp at hc;subst hc;exact .inr ⟨h4,h5,⟨a,rfl,by omega⟩,h7⟩
   ·rintro(h|⟨h4,h5,⟨c,Am,h6⟩,h7⟩)
    ·exact .inl h
    ·simp at Am;subst Am
     by_cases Qe:r<b
     ·exfalso
      obtain⟨k1,k2⟩:=Pa r h6 Qe;exact hc (bq.2 ⟨by omega,k1.1 h4,k2.symm.trans h5⟩)
     ·exact .inr ⟨h4,h5,⟨b,rfl,by omega⟩,h7⟩
theorem tC {l:List Rg} {m:List Int} (yes:Bool) (hp:∀q,q∈m↔q=0∨q=55296∨q=57344∨q=1114112∨∃x∈l,q∈iA x) (hs:m.Pairwise (·≤·)):
  canon (fG l yes m []).reverse∧∀r,dw (fG l yes m []).reverse r↔gR r∧(dw l r↔yes=true):=by
 have hr:∀a∈m,0≤a∧a≤1114112:=by
  intro a ha
  rcases(hp a).1 ha with h|h|h|h|⟨x,hx,h⟩
  ·omega
  ·omega
  ·omega
  ·omega
  ·unfold iA at h
   rcases List.mem_append.1 h with h|h<;>split at h<;>simp at h<;>omega
 obtain⟨g1,g2,g3⟩:=oI l yes m [] hs hr (fun q hq=>.inl ((hp q).2 (by rcases hq with h|h|h;exact .inr (.inl h);exact .inr (.inr (.inl h));exact .inr (.inr (.inr (.inr h)))))) (fun x hx=>by simp at hx) List.Pairwise.nil (fun x hx=>by simp at hx);have h0:(0:Int)∈m:=(hp 0).2 (.inl rfl);have h9:(1114112:Int)∈m:=(hp _).2 (.inr (.inr (.inr (.inl rfl))))
 have hh:∃a∈m.head?,a≤0:=by
  cases m with
  |nil=>cases h0
  |cons a t=>
   refine⟨a,rfl,?_⟩
   rcases List.mem_cons.1 h0 with h|h
   ·omega
   ·exact(List.pairwise_cons.1 hs).1 _ h
 have hl:∃b∈m.getLast?,1114112≤b:=by
  have hne:m≠[]:=List.ne_nil_of_mem h0;refine⟨m.getLast hne,by rw[List.getLast?_eq_some_getLast hne];simp,?_⟩;obtain⟨i,hi,he⟩:=List.getElem_of_mem h9;rw[List.getLast_eq_getElem,←he]
  rcases Nat.lt_or_ge i (m.length-1) with h|h
  ·exact(List.pairwise_iff_getElem.1 hs) i (m.length-1) hi (by omega) h
  ·have:i=m.length-1:=by omega
   subst this;exact Int.le_refl _
 refine⟨⟨fun x hx=>g1 x (List.mem_reverse.1 hx),by rw[List.pairwise_reverse];exact g2⟩,fun r=>?_⟩;rw[oO (fun x=>List.mem_reverse) r,g3 r];constructor
 ·rintro(h|⟨h1,h2,_⟩)
  ·exact absurd h (dZ r)
  ·exact⟨h1,h2⟩
 ·rintro⟨h1,h2⟩;obtain⟨a,ha,Ya⟩:=hh;obtain⟨b,hb,dW⟩:=hl;have:=h1;unfold gR at this;exact .inr ⟨h1,h2,⟨a,ha,by omega⟩,b,hb,by omega⟩
end Go.V
namespace Go.Proofs.YtecjacicdpejaaaGreat
open Go.V Go
def z_ (fr:Go.V.Fr) (k:Nat):Go.V.D:=Go.V.nth .bj fr.loc k
def au (x:Rg):List D:=[.int .i32 x.1,.int .i32 x.2]
def bt (l:List Rg):D:=.sl (l.map fun x=>.agg (au x))
theorem gM (l:List Rg):D.sl ((l.map au).map (j7 2))=bt l:=by
 unfold bt;rw[List.map_map];rfl
theorem fY (l:List Rg):∀e∈l.map au,∀d∈e,ck d=true:=by
 intro e he d hd;obtain⟨x,_,rfl⟩:=List.mem_map.1 he;simp only[au,List.mem_cons,List.not_mem_nil,or_false] at hd
 rcases hd with rfl|rfl<;>rfl
theorem zr (l:List Rg):refs (l.map au).flatten=0:=by
 induction l with
 |nil=>rfl
 |cons x l ih=>simp only[List.map_cons,List.flatten_cons,au,List.cons_append,List.nil_append,refs,D.ref,ih];rfl
theorem oE (l:List Rg):∀e∈l.map au,e.length=2:=by
 intro e he;obtain⟨x,_,rfl⟩:=List.mem_map.1 he;rfl
theorem eO (st:St) (l:List Rg):V.Rows st 2 (bt l) (l.map au):=by
 rw[←gM];exact Rows.nC (oE l) (fY l)
theorem dD {l:List Rg} {i:Nat} {q:Rg} (h:l[i]?=some q):(l.map au)[i]?=some (au q):=by rw[List.getElem?_map,h];rfl
theorem CZ (l:List Rg) (q:Rg) (r:Int):kU (l++[q]) r=(kU l r||(decide (q.1≤r) &&decide (r≤q.2))):=by
 induction l with
 |nil=>simp[kU]
 |cons x l ih=>simp only[List.cons_append,kU,ih,Bool.or_assoc]
theorem FA {l:List Rg} {i:Nat} {r:Int} (h:kU (l.take i) r=true):kU l r=true:=by
 rw[sJ] at h⊢;obtain⟨x,h1,h2⟩:=h;exact⟨x,List.mem_of_mem_take h1,h2⟩
theorem ua {s0:St} {x:D} {l:List Rg} {r:Int} (hx:V.Rows s0 2 x (l.map au)) (hl:l.length≤1073741824):Ev pv 254 [x,.int .i32 r] s0 (.bool (kU l r)) s0:=by
 refine Ev.ia rfl NB rfl rfl rfl ?_;refine zE ?_;obtain⟨aP,hF,hH⟩:=ri s0;generalize ae .ro s0=S at*;have hx:=Arg.of hx aP;refine zQ 10 ?_;refine ak.loop (fun mm fr st=>∃(i:Nat),fr.clean=⟨6,[x,.int .i32 r,z_ fr 2,z_ fr 3,.bool false,.int .i64 (i:Nat)],[]⟩∧Has s0.bs.length S st []∧(i+mm=l.length)∧(kU (l.take i) r=false)) (l.length) ?_ ?_
 ·exact⟨0,rfl,hH,by omega,rfl⟩
 rintro mm fr st ⟨i,hfr,hH,hi,hn⟩;rw[hfr];clear hfr;generalize z_ fr=ee;clear fr;refine zQ 5 ?_;refine qn ?_;simp only[List.length_map];refine zQ 2 ?_;refine zP (fun h1=>?_) fun h1=>?_
 ·refine zQ 1 ?_
  obtain⟨q,hq⟩:∃q,l[i]?=some q:=⟨l[i]'(by omega),List.getElem?_eq_getElem _⟩
  have hr:=dD hq;refine zQ 3 ?_;refine ak.cY 27 (.bool (decide (r≥q.1) &&decide (r≤q.2))) [] ?_ (fun ff tmp cx=>?_)
  ·refine zQ 3 ?_;refine qr fun PH J0=>?_;refine qf (fo:=0) fun SX Mr=>?_;refine zQ 3 ?_;refine aa.two 19 rfl (fun I0=>?_) (fun I0=>?_)
   ·refine zQ 3 ?_;refine qr (fun OT HG=>?_) (hg:=wi I0);refine qf (fo:=1) (fun Lv E7=>?_) (hg:=wi I0);refine zQ 3 ?_;refine aa.nil (aJ ?_ ?_)
    ·dsimp only[aF,List.foldl,nth,u2,u1]
     all_goals(first|rfl|simp)
    ·refine zF ?_
     all_goals(simp[I0];done)
   ·refine zQ 8 ?_;refine aa.nil (aJ ?_ ?_)
    ·dsimp only[aF,List.foldl,nth,u2,u1]
     all_goals(first|rfl|simp)
    ·refine zF ?_
     all_goals(simp[I0];done)
  refine zG ?_
  have ht:kU (l.take (i+1)) r=(decide (r≥q.1) &&decide (r≤q.2)):=by
   rw[List.take_add_one,hq,Option.toList_some,CZ,hn];simp
  refine qc (fun h2=>?_) (fun h2=>?_)<;>try simp only[cs] at h2
  ·refine zQ 4 ?_;rw[FA (i:=i+1) (by rw[ht];simp[h2])];refine ak.ret ⟨rx,_,rfl,rl aP hH (rfl)⟩
  ·refine zQ 6 ?_;exact⟨mm-1,by omega,⟨i+1,rfl,hH,by omega,by rw[ht];simp[h2]⟩⟩
 ·refine zQ 5 ?_;have:kU l r=false:=by rw[←hn,List.take_of_length_le (by omega)]
  rw[this];refine ak.ret ⟨rx,_,rfl,rl aP hH (rfl)⟩
def aS (fr:Go.V.Fr) (k:Nat):Go.V.D:=Go.V.nth .bj fr.loc k
def fP:List Rg:=[(0,55295),(57344,1114111)]
def tD (lo hi:Int) (p:Rg):List Rg:=if max lo p.1≤min hi p.2 then[(max lo p.1,min hi p.2)] else[]
theorem vx (q:Rg):dM q=fP.flatMap (tD (max q.1 0) (min q.2 1114111)):=by
 simp[dM,fP,tD]
theorem D0 {s0:St} (q:Rg):Ev pv 250 [.agg (au q)] s0 (bt (dM q)) s0:=by
 refine Ev.ia rfl ND rfl rfl rfl ?_;refine zE ?_;obtain⟨aP,hF,hH⟩:=ri s0;generalize ae .ro s0=S at*;refine zQ 2 ?_;refine qb hH fun k1 st o6 hH=>?_;dsimp only[u2,u1,u3,u4,setMany,u5,u6,D.cells,Nat.reduceAdd,au] at hH;refine zQ 6 ?_;refine aa.Hk (t1:=0) (t2:=0) rfl (ev rfl) (ev rfl) (by dsimp only[Fr.put,u1,u2]<;>rfl) ?_;refine zQ 2 ?_;refine aa.Jx (t1:=0) (t2:=0) rfl (ev rfl) (ev rfl) (by dsimp only[Fr.put,u1,u2]<;>rfl) ?_;refine zQ 1 ?_;refine qT hH aN fun st hH=>?_;dsimp only[u2,u1,u3,u4,setMany,u5,u6,D.cells,Nat.reduceAdd,au] at hH;refine zQ 1 ?_;refine qT hH aN fun st hH=>?_;dsimp only[u2,u1,u3,u4,setMany,u5,u6,D.cells,Nat.reduceAdd,au] at hH;refine zQ 1 ?_;generalize y7:max q.1 0=lo at*;generalize BO:min q.2 1114111=hi at*;refine zQ 4 ?_;have hH:=hH.gf 2;refine zQ 5 ?_;refine qh (s:=2) (vs:=[_,_]) hH fun k17 st QX hH=>?_;dsimp only[u2,u1,u3,u4,setMany,u5,u6,D.cells,Nat.reduceAdd,au] at hH;refine qn ?_ (hR:=hH.rows aN);simp only[List.length_cons,List.length_nil];refine zQ 3 ?_;refine ak.loop (fun mm fr st=>∃(i:Nat) (x:D),fr.clean=⟨20,[.agg (au q),.ptr k1 0 0,.nul,x,aS fr 4,aS fr 5,aS fr 6,aS fr 7,aS fr 8,aS fr 9,aS fr 10,aS fr 11,aS fr 12,aS fr 13,aS fr 14,aS fr 15,aS fr 16,.win k17 0 0 2 2,.int .i64 2,.int .i64 (i:Nat)],[]⟩∧Has s0.bs.length S st [.aC (.win k17 0 0 2 2) 2 (fP.map au),.aC x 2 (((fP.take i).flatMap (tD lo hi)).map au),.box k1 (.mem 0 false [.int .i32 lo,.int .i32 hi])]∧(i+mm=2)∧(((fP.take i).flatMap (tD lo hi)).length≤i)) (2) ?_ ?_
 ·exact⟨0,.nul,rfl,hH,by omega,by simp⟩
 rintro mm fr st ⟨i,x,hfr,hH,hij,hb⟩;rw[hfr];clear hfr;generalize aS fr=ee;clear fr;refine zQ 5 ?_;refine zP (fun h1=>?_) fun h1=>?_
 ·refine zQ 1 ?_
  obtain⟨p,hp⟩:∃p,fP[i]?=some p:=⟨fP[i]'(by simp[fP];omega),List.getElem?_eq_getElem _⟩
  have hr:=dD hp;refine zQ 4 ?_;refine qi hH aN fun OV HI=>?_;refine aa.Eu hH rfl (ev rfl) (by assumption) (by exact aN) (by assumption) rfl (ab rfl _) ?_;refine qa hH fun k5 st K' hH=>?_;refine qS hH aN fun st hH=>?_;dsimp only[u2,u1,u3,u4,setMany,u5,u6,D.cells,Nat.reduceAdd,au] at hH;refine zQ 7 ?_;refine aa.Hk (t1:=0) (t2:=0) rfl (ev rfl) (ev rfl) (ab rfl _) ?_;refine zQ 4 ?_;refine aa.Jx (t1:=0) (t2:=0) rfl (ev rfl) (ev rfl) (ab rfl _) ?_;refine qg ?_;refine qa hH fun k6 st Dx hH=>?_;refine qS hH aN fun st hH=>?_;dsimp only[u2,u1,u3,u4,setMany,u5,u6,D.cells,Nat.reduceAdd,au] at hH;refine zQ 9 ?_;refine zP (fun h2=>?_) fun h2=>?_
  ·refine zQ 2 ?_;refine aa.aL (m:=2) hH rfl (ev rfl) (by exact aN) (by dsimp only[List.drop_succ_cons,List.drop_zero,List.take_succ_cons,List.take_zero,au]<;>rfl) rfl rfl (ab rfl _) ?_;refine qh (s:=2) (vs:=[_]) hH fun k41 st MG hH=>?_;refine aa.cJ (s:=2) hH rfl (ev rfl) (ev rfl) (by exact tw) (by exact hH.rows (by exact aN)) rfl rfl rfl rfl rfl rfl rfl ⟨(Nat.le_of_ble_eq_true rfl),(Nat.le_of_ble_eq_true rfl)⟩ (fun _=>(ab rfl _)) (by simp only[List.length_cons,List.length_nil,List.length_map]<;>omega) (by exact .inl hF) (fun Lf st hH=>?_);dsimp only[u2,u1,u3,u4,setMany,u5,u6,D.cells,Nat.reduceAdd,au] at hH;refine zQ 6 ?_
   have h3:(fP.take (i+1)).flatMap (tD lo hi)=(fP.take i).flatMap (tD lo hi)++[(max lo p.1,min hi p.2)]:=by
    rw[List.take_add_one,hp,List.flatMap_append];simp[tD,h2]
   exact⟨mm-1,by omega,⟨i+1,Lf,rfl,(by rw[h3,List.map_append];exact hH.drop 3),by omega,by rw[h3];simp only[List.length_append,List.length_cons,List.length_nil];omega⟩⟩
  ·refine zQ 5 ?_
   have h3:(fP.take (i+1)).flatMap (tD lo hi)=(fP.take i).flatMap (tD lo hi):=by
    rw[List.take_add_one,hp,List.flatMap_append];simp[tD,h2]
   exact⟨mm-1,by omega,⟨i+1,x,rfl,(by rw[h3];exact hH.drop 2),by omega,by rw[h3];omega⟩⟩
 ·refine zQ 6 ?_;rw[←gM];have h3:fP.take i=fP:=List.take_of_length_le (by simp[fP];omega);rw[h3] at hH;refine ak.ret ⟨rx,_,rfl,rl aP hH ?_⟩;refine Eq.trans (hH.freeze bV (fY _) (n:=15) (by decide)) ?_;rw[vx,y7,BO]
theorem Ct (q x:Rg) (h:x∈dM q):0≤x.1∧x.1≤1114111:=by
 obtain⟨h1,h2,h3⟩:=oy q x h;omega
theorem rA (q:Rg):(dM q).length≤2:=by
 unfold dM;split<;>split<;>simp
theorem jz (l:List Rg):(l.flatMap dM).length≤2*l.length:=by
 induction l with
 |nil=>simp
 |cons x l ih=>simp only[List.flatMap_cons,List.length_append,List.length_cons];have:=rA x;omega
theorem tR:∀{l:List Rg},(∀x∈l,0≤x.1∧x.1≤1114111)→∃m:List Rs,fF m=(l.map au).flatten∧m.map (fun x=>(x.lo,x.hi))=l
 |[],_=>⟨[],rfl,rfl⟩
 |x::l,h=>by
  obtain⟨m,h1,h2⟩:=tR (l:=l) fun y hy=>h y (List.mem_cons_of_mem _ hy);obtain⟨h3,h4⟩:=h x (List.mem_cons_self ..);exact⟨⟨x.1,x.2,h3,h4⟩::m,by simp only[fF,h1,List.map_cons,List.flatten_cons,au,List.cons_append,List.nil_append],by simp[h2]⟩
theorem Ay (m:List Rs):fF m=((m.map fun x=>((x.lo,x.hi):Rg)).map au).flatten:=by
 induction m with
 |nil=>rfl
 |cons x m ih=>simp only[fF,ih,List.map_cons,List.flatten_cons,au,List.cons_append,List.nil_append]
theorem Fy {N:Nat} {S st:St} {H:List a_} {j:Nat} {x:D} {l:List Rg} (hH:Has N S st H) (hj:H[j]?=some (.aC x 2 (l.map au))) (h0:l=[]→x=.nul) (hl:l.length≤1073741824) (hr:∀y∈l,0≤y.1∧y.1≤1114111):
  ∃(ah:St) (l':List Rg),Ev pv 251 [x,.fn 252 []] st (.tup []) ah∧Has N S ah (H.set j (.aC x 2 (l'.map au)))∧l'.Perm l∧l'.Pairwise fun a b=>a.1≤b.1:=by
 obtain⟨m,h1,h2⟩:=tR hr;obtain⟨h3,h4⟩:=srt_facts m;have CU:m.length=l.length:=by rw[←h2];simp
 have hperm:((srt m).map fun x=>((x.lo,x.hi):Rg)).Perm l:=by rw[←h2];exact h3.map _
 have mH:((srt m).map fun x=>((x.lo,x.hi):Rg)).Pairwise fun a b=>a.1≤b.1:=by rw[List.pairwise_map];exact h4
 have hlen:(srt m).length=l.length:=h3.length_eq.trans CU;have hown:=hH.own hj;generalize tH:l.map au=es at*;have sG:es.length=l.length:=by rw[←tH];simp
 cases hown with
 |nul=>
  have CV:l=[]:=by cases l with|nil=>rfl|cons _ _=>simp at sG
  refine⟨st,(srt m).map fun x=>(x.lo,x.hi),Ev.jS rfl rfl,?_,hperm,mH⟩
  have:(srt m).map (fun x=>((x.lo,x.hi):Rg))=[]:=by
   cases hs:srt m with
   |nil=>rfl
   |cons a b=>rw[hs,CV] at hlen;simp at hlen
  rw[this];exact hH.A2 hj (fun _ _ _=>rfl) (Nat.le_refl _) rfl rfl .nul (fun k hk=>.inl hk) fun k hk=>by simp only[a_.aC,D.ref] at hk;omega
 |win k az off es c hm hle hc he=>
  have hne:l≠[]:=fun e=>by have:=h0 e;cases this
  have wm:1≤l.length:=by cases l with|nil=>exact absurd rfl hne|cons _ _=>simp
  have hk:=(hH.ok j _ hj).2 k (by simp only[a_.aC,D.ref]);have Ak:(fF (srt m)).length=es.length*2:=by rw[nV,hlen,sG];omega
  have hwr:st.wr k az off (fF (srt m))=some ⟨st.bs.set k (.mem az true (c.take off++fF (srt m)++c.drop (off+(fF (srt m)).length))),st.flr,st.ro⟩:=
   lg hm (by omega) (gq hH hk.1 (.inr (uS _)))
  refine⟨⟨st.bs.set k (.mem az true (c.take off++fF (srt m)++c.drop (off+(fF (srt m)).length))),st.flr,st.ro⟩,(srt m).map fun x=>(x.lo,x.hi),Ev.jS rfl ?_,?_,hperm,mH⟩
  ·show Cl [.win k az off es.length 2,.fn 252 []] st=_;have iZ:(c.drop off).take (2*es.length)=fF m:=by rw[Nat.mul_comm,hc,h1]
   simp only[Cl,St.mem_of hm,iZ,Bf,Jg];rw[decide_eq_true (⟨by rw[CU,sG],by omega,by omega⟩:m.length=es.length∧1≤es.length∧es.length<1099511627776)];simp only[hwr]
  ·refine hH.A2 hj (fun n hn hne=>?_) (by simp) rfl rfl ?_ (fun n hn=>.inl hn) fun n hn=>?_
   ·simp only;rw[List.getElem?_set_ne (fun e=>hne (by simp only[a_.aC,D.ref];omega))]
   ·have h9:=gT.win (st:=⟨st.bs.set k (.mem az true (c.take off++fF (srt m)++c.drop (off+(fF (srt m)).length))),st.flr,st.ro⟩) (s:=2) k az off (((srt m).map fun x=>((x.lo,x.hi):Rg)).map au) (c.take off++fF (srt m)++c.drop (off+(fF (srt m)).length))
     (by simp only;rw[List.getElem?_set_self hk.2]) (by simp only[List.length_append,List.length_take,List.length_map,List.length_drop,Ak];omega) ?_ (oE _)
    ·simp only[List.length_map,hlen] at h9;rw[sG];exact h9
    ·have QD:(c.take off).length=off:=by simp;omega
     rw[List.append_assoc,List.drop_left' QD,←Ay,List.take_left' (by simp only[List.length_map,hlen];omega)]
   ·simp only[a_.aC,D.ref] at hn;simp only[List.length_set];omega
theorem sk (l:List Rg):(l.foldl dF []).length≤l.length:=by
 have key:∀(l acc:List Rg),(l.foldl dF acc).length≤acc.length+l.length:=by
  intro l
  induction l with
  |nil=>intro acc;simp
  |cons x l ih=>
   intro acc;simp only[List.foldl_cons,List.length_cons];have:=ih (dF acc x)
   have h2:(dF acc x).length≤acc.length+1:=by
    unfold dF;split
    ·simp
    ·split<;>simp
   omega
 have:=key l []
 simpa using this
theorem Hp {l:List Rg} (h:∀x∈l,0≤x.2∧x.2≤1114111):∀x∈l.foldl dF [],0≤x.2∧x.2≤1114111:=by
 have key:∀(l acc:List Rg),(∀x∈l,0≤x.2∧x.2≤1114111)→(∀x∈acc,0≤x.2∧x.2≤1114111)→∀x∈l.foldl dF acc,0≤x.2∧x.2≤1114111:=by
  intro l
  induction l with
  |nil=>intro acc _ h x hx;exact h x hx
  |cons y l ih=>
   intro acc h1 h2;refine ih _ (fun x hx=>h1 x (List.mem_cons_of_mem _ hx)) fun x hx=>?_;have hy:=h1 y (List.mem_cons_self ..);unfold dF at hx
   split at hx
   ·simp only[List.mem_cons,List.not_mem_nil,or_false] at hx;rw[hx];exact hy
   ·rename_i k rest;have hk:=h2 k (List.mem_cons_self ..)
    split at hx
    ·rcases List.mem_cons.1 hx with rfl|hx
     ·simp only;omega
     ·exact h2 x (List.mem_cons_of_mem _ hx)
    ·rcases List.mem_cons.1 hx with rfl|hx
     ·exact hy
     ·exact h2 x hx
 exact key l [] h (fun x hx=>by cases hx)
theorem ye (h:Rg) (t:List Rg):((h::t).reverse.map au)[t.length]?=some (au h):=by
 rw[List.getElem?_map,List.reverse_cons,List.getElem?_append_right (by simp)];simp
theorem yd (h h':Rg) (t:List Rg):((h::t).reverse.map au).set t.length (au h')=(h'::t).reverse.map au:=by
 rw[List.reverse_cons,List.map_append,List.set_append_right _ _ (by simp)];simp
theorem Bt {s0:St} {x:D} {l:List Rg} (hx:V.Rows s0 2 x (l.map au)) (hl:l.length≤268435456):∃d,Ev pv 226 [x] s0 d s0∧∃all:List Rg,d=bt (all.foldl dF []).reverse∧all.Perm (l.flatMap dM)∧all.Pairwise fun a b=>a.1≤b.1:=by
 refine Ev.Dq rfl NJ rfl rfl rfl ?_;refine zE ?_;obtain⟨aP,hF,hH⟩:=ri s0;generalize ae .ro s0=S at*;have hx:=Arg.of hx aP;have mb:=jz l
 have hfi:∀i,((l.take i).flatMap dM).length≤2*l.length:=fun i=>by
  have:=jz (l.take i);simp only[List.length_take] at this;omega
 refine zQ 13 ?_;refine qn ?_;simp only[List.length_map];refine zQ 2 ?_;have hH:=hH.gf 2;refine zQ 1 ?_;refine ak.loop (fun mm fr st=>∃(i:Nat) (y:D),fr.clean=⟨26,[x,aS fr 1,aS fr 2,y,.nul,aS fr 5,aS fr 6,aS fr 7,aS fr 8,aS fr 9,x,.int .i64 (l.length:Nat),.int .i64 (i:Nat),aS fr 13,aS fr 14,aS fr 15,aS fr 16,aS fr 17,aS fr 18,aS fr 19,aS fr 20,aS fr 21,aS fr 22,aS fr 23,aS fr 24,aS fr 25],[]⟩∧Has s0.bs.length S st [.aC y 2 (((l.take i).flatMap dM).map au)]∧(i+mm=l.length)∧((l.take i).flatMap dM=[]→y=.nul)) (l.length) ?_ ?_
 ·exact⟨0,.nul,rfl,hH,by omega,fun _=>rfl⟩
 rintro mm fr st ⟨i,y,hfr,hH,hi,J3⟩;rw[hfr];clear hfr;generalize aS fr=ee;clear fr;refine zQ 4 ?_;have hm:=hfi i;refine qq<|zP (fun h1=>?_) fun h1=>?_
 ·refine zQ 1 ?_
  obtain⟨q,hq⟩:∃q,l[i]?=some q:=⟨l[i]'(by omega),List.getElem?_eq_getElem _⟩
  have hr:=dD hq
  have y6:(l.take (i+1)).flatMap dM=(l.take i).flatMap dM++dM q:=by
   rw[List.take_add_one,hq];simp
  have XU:=rA q;refine zQ 4 ?_;refine qr fun XP VG=>?_;refine aa.cV rfl (ev rfl) (by assumption) rfl (by dsimp only[Fr.put,u1,u2]<;>rfl) ?_;refine qa hH fun k6 st Dx hH=>?_;refine qS hH aN fun st hH=>?_;dsimp only[u2,u1,u3,u4,setMany,u5,u6,D.cells,Nat.reduceAdd,au] at hH;refine zQ 3 ?_;refine aa.aL (m:=2) hH rfl (ev rfl) (by exact aN) (by dsimp only[List.drop_succ_cons,List.drop_zero,List.take_succ_cons,List.take_zero,au]<;>rfl) rfl rfl (by dsimp only[Fr.put,u1,u2]<;>rfl) ?_;refine qv (D0 q) ?_;refine aa.FB hH rfl rfl rfl (by exact bV) (eO _ _) rfl rfl rfl rfl rfl rfl rfl ⟨(Nat.le_of_ble_eq_true rfl),(Nat.le_of_ble_eq_true rfl)⟩ (fun _=>by dsimp only[Fr.put,u1,u2]<;>rfl) (by simp only[List.length_map];omega) (.inl hF) (fun T7 st Mw hH=>?_);dsimp only[u2,u1] at hH;refine zQ 6 ?_;exact⟨mm-1,by omega,⟨i+1,T7,rfl,(by rw[y6,List.map_append];exact hH.drop 1),by omega,by rw[y6];intro h;obtain⟨h3,h4⟩:=List.append_eq_nil_iff.1 h;rw[Mw (by rw[h4];rfl)];exact J3 h3⟩⟩
 ·refine zQ 1 ?_;have hT:l.take i=l:=List.take_of_length_le (by omega);rw[hT] at hH J3 hm
  obtain⟨st2,all,aB,Pj,hperm,mH⟩:=Fy hH aN J3 (by omega) (fun z hz=>by
   obtain⟨w,_,hw⟩:=List.mem_flatMap.1 hz
   exact Ct w z hw)
  have hlen:=hperm.length_eq
  have hbd:∀z∈all,0≤z.2∧z.2≤1114111:=fun z hz=>by
   obtain⟨w,_,hw⟩:=List.mem_flatMap.1 (hperm.mem_iff.1 hz);have:=oy w z hw;omega
  refine zQ 3 ?_;refine qv (aB) ?_;refine zQ 1 ?_;have hH:=Pj;dsimp only[u2] at hH;clear Pj aB;have hR:=hH.rows aN;have hH:=hH.gf 2;refine zQ 4 ?_;refine qn ?_ (hR:=hH.rows bV);simp only[List.length_map];refine zQ 3 ?_;refine ak.loop (fun mm fr st=>∃(i:Nat) (z:D),fr.clean=⟨26,[x,aS fr 1,aS fr 2,y,z,aS fr 5,aS fr 6,aS fr 7,aS fr 8,aS fr 9,aS fr 10,aS fr 11,aS fr 12,aS fr 13,aS fr 14,aS fr 15,aS fr 16,aS fr 17,aS fr 18,aS fr 19,aS fr 20,aS fr 21,aS fr 22,y,.int .i64 (all.length:Nat),.int .i64 (i:Nat)],[]⟩∧Has s0.bs.length S st [.aC z 2 (((all.take i).foldl dF []).reverse.map au),.aC y 2 (all.map au)]∧(i+mm=all.length)) (all.length) ?_ ?_
  ·exact⟨0,.nul,rfl,hH,by omega⟩
  rintro mm fr st ⟨i,z,hfr,hH,hi⟩;rw[hfr];clear hfr;generalize aS fr=ee;clear fr;refine zQ 4 ?_
  have oo:((all.take i).foldl dF []).length≤all.length:=by
   have:=sk (all.take i);simp only[List.length_take] at this;omega
  refine qq<|zP (fun h1=>?_) fun h1=>?_
  ·refine zQ 1 ?_
   obtain⟨q,hq⟩:∃q,all[i]?=some q:=⟨all[i]'(by omega),List.getElem?_eq_getElem _⟩
   have hr:=dD hq
   have Kd:(all.take (i+1)).foldl dF []=dF ((all.take i).foldl dF []) q:=by
    rw[List.take_add_one,hq,List.foldl_append];rfl
   generalize H4:(all.take i).foldl dF []=acc at*;refine zQ 4 ?_;refine qi hH bV fun SU Mp=>?_;refine aa.Eu hH rfl (ev rfl) (by assumption) (by exact bV) (by assumption) rfl (ab rfl _) ?_;refine qa hH fun k8 st J_ hH=>?_;refine qS hH aN fun st hH=>?_;dsimp only[u2,u1,u3,u4,setMany,u5,u6,D.cells,Nat.reduceAdd,au] at hH;refine zQ 1 ?_
   rcases acc with _|⟨h,t⟩
   ·refine zQ 3 ?_;refine qn ?_ (hR:=hH.rows bV);simp only[List.length_map,List.length_nil,List.length_reverse];refine aa.eY (z:=(-1)) rfl (ev rfl) (ev rfl) (by rw[wrap_i64 (by omega) (by omega)]<;>omega) (ab rfl _) ?_;refine zQ 2 ?_;have cu:decide ((-1:Int)≥0)=false:=by decide
    refine qq<|ak.cY 44 (.bool false) [] ?_ (fun ff tmp cx=>?_)
    ·refine zQ 13 ?_;refine aa.nil (aJ ?_ ?_)
     ·dsimp only[aF,List.foldl,nth,u2,u1]
      all_goals(first|rfl|simp)
     ·dsimp only[Fr.e5,Fr.put,Fr.clean,Fr.ev,Fr.get,nth,look,u1,u2,v1,v2,v4]
      all_goals(rfl)
    dsimp only[aF,List.foldl,nth,u2,u1];dsimp only[Fr.e5,Fr.put,Fr.clean,Fr.ev,Fr.get,nth,look,u1,u2,v1,v2,v4];refine zQ 3 ?_;refine aa.aL (m:=2) hH rfl (ev rfl) (by exact aN) (by dsimp only[List.drop_succ_cons,List.drop_zero,List.take_succ_cons,List.take_zero,au]<;>rfl) rfl rfl (ab rfl _) ?_;refine qh (s:=2) (vs:=[_]) hH fun k59 st QO hH=>?_;refine aa.cJ (s:=2) hH rfl (ev rfl) (ev rfl) (by exact fm) (by exact hH.rows (by exact aN)) rfl rfl rfl rfl rfl rfl rfl ⟨(Nat.le_of_ble_eq_true rfl),(Nat.le_of_ble_eq_true rfl)⟩ (fun _=>(ab rfl _)) (by simp only[List.length_cons,List.length_nil,List.length_map,List.length_reverse]<;>omega) (by exact .inl hF) (fun Pq st hH=>?_);dsimp only[u2,u1,u3,u4,setMany,u5,u6,D.cells,Nat.reduceAdd,au] at hH;refine zQ 6 ?_;exact⟨mm-1,by omega,⟨i+1,Pq,rfl,(by rw[Kd];exact hH.drop 2),by omega⟩⟩
   ·simp only[List.length_cons] at oo;refine zQ 3 ?_;refine qn ?_ (hR:=hH.rows bV);simp only[List.length_map,List.length_cons,List.length_reverse];refine aa.eY (z:=((t.length:Nat):Int)) rfl (ev rfl) (ev rfl) (by rw[wrap_i64 (by omega) (by omega)]<;>omega) (ab rfl _) ?_;refine zQ 2 ?_;have pJ:=ye h t;have fy:=yd h (h.1,max h.2 q.2) t;have BO:=Hp (l:=all.take i) (fun x hx=>hbd x (List.mem_of_mem_take hx)) h (by rw[H4];exact List.mem_cons_self ..);have cu:decide (((t.length:Nat):Int)≥0)=true:=by rw[decide_eq_true];omega
    refine qq<|ak.cY 44 (.bool (decide (q.1≤h.2+1))) [] ?_ (fun ff tmp cx=>?_)
    ·refine zQ 7 ?_;refine qi hH bV (fun SO Ml=>?_) (hg:=wi cu);refine aa.gU (fo:=1) (m:=0) (o2:=1) (ai rfl rfl rfl cu) (ev rfl) (by assumption) rfl rfl rfl (fun _=>(ab rfl _)) (fun Ur Qu=>?_);refine zQ 1 ?_;refine aa.AV (ai rfl rfl rfl cu) (ev rfl) (ev rfl) (by omega) (by omega) (ab rfl _) ?_;refine zQ 2 ?_;refine aa.nil (aJ ?_ ?_)
     ·dsimp only[aF,List.foldl,nth,u2,u1]
      all_goals(first|rfl|simp)
     ·dsimp only[Fr.e5,Fr.put,Fr.clean,Fr.ev,Fr.get,nth,look,u1,u2,v1,v2,v4]
      all_goals(rfl)
    dsimp only[aF,List.foldl,nth,u2,u1];dsimp only[Fr.e5,Fr.put,Fr.clean,Fr.ev,Fr.get,nth,look,u1,u2,v1,v2,v4];refine ak.cond (by assumption) (fun h2=>?_) (fun h2=>?_)<;>try simp only[decide_eq_true_eq,decide_eq_false_iff_not] at h2
    ·refine zQ 5 ?_;refine qi hH bV fun SM Mj=>?_;refine aa.gU (fo:=1) (m:=0) (o2:=1) rfl (ev rfl) (by assumption) rfl rfl rfl (fun _=>(ab rfl _)) (fun PC JV=>?_);refine zQ 3 ?_;refine aa.Hk (t1:=0) (t2:=0) rfl (ev rfl) (ev rfl) (ab rfl _) ?_;refine qi hH bV fun Un Qq=>?_;refine aa.gU (fo:=1) (m:=0) (o2:=1) rfl (ev rfl) (by assumption) rfl rfl rfl (fun _=>(ab rfl _)) (fun SK Mh=>?_);refine aa.jE hH rfl (ev rfl) (ev rfl) (by assumption) rfl rfl (by exact bV) (by assumption) (Nat.le_of_ble_eq_true rfl) (by exact .inl hF) (fun st hH=>?_);dsimp only[u2,u1,u3,u4,setMany,u5,u6,D.cells,Nat.reduceAdd,au] at hH;refine zQ 5 ?_;exact⟨mm-1,by omega,⟨i+1,z,rfl,(by rw[Kd];simp only[dF,if_pos h2];rw[←fy];exact hH.drop 1),by omega⟩⟩
    ·refine zQ 2 ?_;refine aa.aL (m:=2) hH rfl (ev rfl) (by exact aN) (by dsimp only[List.drop_succ_cons,List.drop_zero,List.take_succ_cons,List.take_zero,au]<;>rfl) rfl rfl (ab rfl _) ?_;refine qh (s:=2) (vs:=[_]) hH fun k59 st QO hH=>?_;refine aa.cJ (s:=2) hH rfl (ev rfl) (ev rfl) (by exact fm) (by exact hH.rows (by exact aN)) rfl rfl rfl rfl rfl rfl rfl ⟨(Nat.le_of_ble_eq_true rfl),(Nat.le_of_ble_eq_true rfl)⟩ (fun _=>(ab rfl _)) (by simp only[List.length_cons,List.length_nil,List.length_map,List.length_reverse]<;>omega) (by exact .inl hF) (fun Pq st hH=>?_);dsimp only[u2,u1,u3,u4,setMany,u5,u6,D.cells,Nat.reduceAdd,au] at hH;refine zQ 6 ?_;exact⟨mm-1,by omega,⟨i+1,Pq,rfl,(by rw[Kd];simp only[dF,if_neg h2];rw[List.reverse_cons (a:=q),List.map_append];exact hH.drop 2),by omega⟩⟩
  ·refine zQ 6 ?_;rw[List.take_of_length_le (by omega)] at hH;refine ak.ret ⟨rx,_,_,rfl,rl aP hH ((hH.freeze aN (fY _) (n:=15) (by decide))),?_⟩;exact⟨all,by rw[gM],hperm,mH⟩
def cX (fr:Go.V.Fr) (k:Nat):Go.V.D:=Go.V.nth .bj fr.loc k
def dv (r:Int):List D:=[.int .i32 r]
def vw (l:List Int):D:=.sl ((l.map dv).map (j7 1))
theorem rB (l:List Int):∀e∈l.map dv,∀d∈e,ck d=true:=by
 intro e he d hd;obtain⟨x,_,rfl⟩:=List.mem_map.1 he;simp only[dv,List.mem_cons,List.not_mem_nil,or_false] at hd;subst hd;rfl
theorem D1 (l:List Int):∀e∈l.map dv,e.length=1:=by
 intro e he;obtain⟨x,_,rfl⟩:=List.mem_map.1 he;rfl
theorem xq (st:St) (l:List Int):V.Rows st 1 (vw l) (l.map dv):=Rows.nC (D1 l) (rB l)
theorem xt {l:List Int} {i:Nat} {q:Int} (h:l[i]?=some q):(l.map dv)[i]?=some (dv q):=by rw[List.getElem?_map,h];rfl
def fR (l:List Rg):List Int:=[0,55296,57344,1114112]++l.flatMap iA
theorem FY (x:Rg):(iA x).length≤2:=by
 unfold iA;split<;>split<;>simp
theorem o9 (l:List Rg):(l.flatMap iA).length≤2*l.length:=by
 induction l with
 |nil=>simp
 |cons x l ih=>simp only[List.flatMap_cons,List.length_append,List.length_cons];have:=FY x;omega
def gK (m:List Int) (i k:Nat):Prop:=∀a b,a<b→b≤i→b≠k→m.getD a 0≤m.getD b 0
theorem nT (m:List Int) (k:Nat) (v:Int) (hk:k<m.length) (a:Nat):(m.set k v).getD a 0=if a=k then v else m.getD a 0:=by
 simp only[List.getD_eq_getElem?_getD]
 by_cases h:a=k
 ·subst h;rw[List.getElem?_set_self hk,if_pos rfl];rfl
 ·rw[List.getElem?_set_ne (fun e=>h e.symm),if_neg h]
theorem w9 {m:List Int} {i k:Nat} (hk:k+1≤i) (hi:i<m.length) (h:gK m i (k+1)) (MQ:m.getD k 0>m.getD (k+1) 0):gK ((m.set k (m.getD (k+1) 0)).set (k+1) (m.getD k 0)) i k:=by
 intro a b hab M1 hbk;have hl:(m.set k (m.getD (k+1) 0)).length=m.length:=List.length_set ..;rw[nT _ _ _ (by rw[hl];omega),nT _ _ _ (by omega),nT _ _ _ (by rw[hl];omega),nT _ _ _ (by omega)]
 by_cases h1:b=k+1
 ·rw[if_pos h1,if_neg (by omega)]
  by_cases h2:a=k
  ·rw[if_pos h2];omega
  ·rw[if_neg h2];exact h a k (by omega) (by omega) (by omega)
 ·rw[if_neg h1,if_neg hbk]
  by_cases h2:a=k+1
  ·rw[if_pos h2];exact h k b (by omega) M1 h1
  ·rw[if_neg h2]
   by_cases h3:a=k
   ·rw[if_pos h3];exact h (k+1) b (by omega) M1 h1
   ·rw[if_neg h3];exact h a b hab M1 h1
theorem po {m:List Int} {i k:Nat} (h:gK m i k) (hx:k=0∨m.getD (k-1) 0≤m.getD k 0) (j:Nat):gK m i j:=by
 intro a b hab M1 _
 by_cases hb:b=k
 ·subst hb;have hx:=hx.resolve_left (by omega)
  by_cases ha:a=b-1
  ·rw[ha];exact hx
  ·exact Int.le_trans (h a (b-1) (by omega) (by omega) (by omega)) hx
 ·exact h a b hab M1 hb
theorem swap_perm {m:List Int} {k:Nat} (hk:k+1<m.length):((m.set k (m.getD (k+1) 0)).set (k+1) (m.getD k 0)).Perm m:=by
 have h0:m=m.take k++(m.getD k 0::m.getD (k+1) 0::m.drop (k+2)):=by
  have e1:m.drop k=m.getD k 0::m.drop (k+1):=by rw[List.drop_eq_getElem_cons (by omega)];simp[List.getD_eq_getElem?_getD,List.getElem?_eq_getElem (show k<m.length by omega)]
  have e2:m.drop (k+1)=m.getD (k+1) 0::m.drop (k+2):=by rw[List.drop_eq_getElem_cons (by omega)];simp[List.getD_eq_getElem?_getD,List.getElem?_eq_getElem hk]
  rw[←e2,←e1,List.take_append_drop]
 have hlen:(m.take k).length=k:=by simp;omega
 generalize m.getD k 0=x at*;generalize m.getD (k+1) 0=y at*;generalize m.take k=l1 at*;generalize m.drop (k+2)=l2 at*;subst h0;rw[List.set_append_right _ _ (by omega),List.set_append_right _ _ (by omega),hlen,Nat.sub_self,Nat.add_sub_cancel_left];exact(List.Perm.swap x y l2).append_left l1
theorem w_ {m : List Int} {i : Nat} (h : gK m i (i + 1)) (hi : i + 1 ≥ m.length) : m.Pairwise (· ≤ ·) := by
 rw [List.pairwise_iff_getElem];intro a b ha hb hab;have := h a b hab (by omega) (by omega)
 simpa [List.getD_eq_getElem?_getD, List.getElem?_eq_getElem ha, List.getElem?_eq_getElem hb] using this
theorem ES {s0 : St} {x : D} {l : List Rg} (hx : V.Rows s0 2 x (l.map au)) (hl : l.length ≤ 268435456) : ∃ d, Ev pv 253 [x] s0 d s0 ∧ ∃ m : List Int, d = vw m ∧ m.Perm (fR l) ∧ m.Pairwise (· ≤ ·) := by
 refine Ev.Dq rfl NC rfl rfl rfl ?_;refine zE ?_;obtain ⟨aP, hF, hH⟩ := ri s0;generalize ae .ro s0 = S at *;have hx := Arg.of hx aP;refine zQ 6 ?_;refine qh (s := 1) (vs := [_, _, _, _]) hH fun k7 st O6 hH => ?_;refine zQ 7 ?_;have mb := o9 l;have h0 : fR (l.take 0) = [0, 55296, 57344, 1114112] := rfl
 have CU : ∀ i, (fR (l.take i)).length ≤ 4 + 2 * l.length := by
  intro i;have := o9 (l.take i);simp only [fR, List.length_append, List.length_cons, List.length_nil, List.length_take] at *;omega
 refine zQ 1 ?_;refine ak.loop (fun mm fr st => ∃ (i : Nat) (y : D), fr.clean = ⟨7, [x, cX fr 1, cX fr 2, y, .int .i64 (i : Nat), cX fr 5, cX fr 6], []⟩ ∧ Has s0.bs.length S st [.aC y 1 ((fR (l.take i)).map dv)] ∧ (i + mm = l.length)) (l.length) ?_ ?_
 ·exact ⟨0, _, rfl, hH, by omega⟩
 rintro mm fr st ⟨i, y, hfr, hH, hi⟩;rw [hfr];clear hfr;generalize cX fr = ee;clear fr;refine zQ 5 ?_;refine qn ?_;simp only [List.length_map];refine zQ 2 ?_;refine zP (fun h1 => ?_) fun h1 => ?_
 ·refine zQ 1 ?_
  obtain ⟨q, hq⟩ : ∃ q, l[i]? = some q := ⟨l[i]'(by omega), List.getElem?_eq_getElem _⟩
  have hr := dD hq;have hm := CU i
  have y6 : fR (l.take (i + 1)) = fR (l.take i) ++ iA q := by
   rw [List.take_add_one, hq]; simp [fR]
  refine zQ 4 ?_;refine ak.cY 40 (.bool (decide (q.1 ≤ q.2) && decide (q.1 ≥ 0) && decide (q.1 ≤ 1114111))) [] ?_ (fun ff tmp cx => ?_)
  ·refine zQ 2 ?_;refine qr fun SX Mr => ?_;refine qf (fo := 0) fun PG JZ => ?_;refine zQ 3 ?_;refine qr fun OV HI => ?_;refine qf (fo := 1) fun OU HH => ?_;refine zQ 3 ?_;refine aa.two 25 rfl (fun bR => ?_) (fun bR => ?_)
   ·refine zQ 2 ?_;refine qr (fun PF JY => ?_) (hg := wi bR);refine qf (fo := 0) (fun SS Mo => ?_) (hg := wi bR);refine zQ 4 ?_;refine aa.two 33 rfl (fun iX => ?_) (fun iX => ?_)
    ·refine zQ 2 ?_;refine qr (fun Us Qv => ?_) (hg := wi iX);refine qf (fo := 0) (fun SP Mm => ?_) (hg := wi iX);refine zQ 3 ?_;refine aa.nil (aJ ?_ ?_)
     ·dsimp only [aF, List.foldl, nth, u2, u1]
      all_goals (first | rfl | simp)
     ·refine zF ?_
      all_goals (simp [bR, iX]; done)
    ·refine zQ 7 ?_;refine aa.nil (aJ ?_ ?_)
     ·dsimp only [aF, List.foldl, nth, u2, u1]
      all_goals (first | rfl | simp)
     ·refine zF ?_
      all_goals (simp [bR, iX]; done)
   ·refine zQ 15 ?_;refine aa.nil (aJ ?_ ?_)
    ·dsimp only [aF, List.foldl, nth, u2, u1]
     all_goals (first | rfl | simp)
    ·refine zF ?_
     all_goals (simp [bR]; done)
  refine zG ?_;have nb : iA q = (if q.1 ≤ q.2 ∧ 0 ≤ q.1 ∧ q.1 ≤ 1114111 then [q.1] else []) ++ (if q.1 ≤ q.2 ∧ 0 ≤ q.2 ∧ q.2 < 1114111 then [q.2 + 1] else []) := rfl;rw [nb] at y6;generalize gB : (if q.1 ≤ q.2 ∧ 0 ≤ q.1 ∧ q.1 ≤ 1114111 then [q.1] else []) = e1 at y6;generalize tu : (if q.1 ≤ q.2 ∧ 0 ≤ q.2 ∧ q.2 < 1114111 then [q.2 + 1] else []) = e2 at y6;have Wq : e1.length ≤ 1 := by rw [← gB]; split <;> simp
  refine ak.merge (fun fr st => ∃ (y : D) (tmp : List (Nat × D)), fr = ⟨7, [x, cX fr 1, cX fr 2, y, .int .i64 (i : Nat), cX fr 5, cX fr 6], tmp⟩ ∧ Has s0.bs.length S st [.aC y 1 ((fR (l.take i) ++ e1).map dv)]) ?_ ?_
  ·refine qc (fun h2 => ?_) (fun h2 => ?_) <;> try simp only [cs] at h2
   ·simp only [Bool.and_eq_true, decide_eq_true_eq] at h2;rw [if_pos ⟨h2.1.1, h2.1.2, h2.2⟩] at gB;refine zQ 4 ?_;refine qr fun SN Mk => ?_;refine qf (fo := 0) fun Uo Qr => ?_;refine qR ?_;refine qh (s := 1) (vs := [_]) hH fun k47 st QR hH => ?_;refine aa.cJ (s := 1) hH rfl (ev rfl) (ev rfl) (by exact bV) (by exact hH.rows (by exact aN)) rfl rfl rfl rfl rfl rfl rfl ⟨(Nat.le_of_ble_eq_true rfl), (Nat.le_of_ble_eq_true rfl)⟩ (fun _ => (ab rfl _)) (by simp only [List.length_cons, List.length_nil, List.length_map] <;> omega) (by exact .inl hF) (fun Le st hH => ?_);dsimp only [u2, u1, u3, u4, setMany, u5, u6, D.cells, Nat.reduceAdd, au, dv] at hH;refine zQ 2 ?_;exact ⟨Le, _, rfl, (by rw [← gB, List.map_append]; exact hH.drop 1)⟩
   ·rw [if_neg (by rintro ⟨a, b, c⟩; simp [a, b, c] at h2)] at gB;refine zQ 1 ?_;exact ⟨y, _, rfl, (by rw [← gB, List.append_nil]; exact hH)⟩
  ·rintro fr st ⟨y, tmp, hfr, hH⟩;rw [hfr];clear hfr;generalize cX fr = ee;clear fr;refine qq ?_;refine ak.cY 75 (.bool (decide (q.1 ≤ q.2) && decide (q.2 ≥ 0) && decide (q.2 < 1114111))) [] ?_ (fun ff tmp cx => ?_)
   ·refine zQ 2 ?_;refine qr fun SL Mi => ?_;refine qf (fo := 0) fun XK VB => ?_;refine zQ 3 ?_;refine qr fun SK Mh => ?_;refine qf (fo := 1) fun XJ VA => ?_;refine zQ 3 ?_;refine aa.two 60 rfl (fun bR => ?_) (fun bR => ?_)
    ·refine zQ 2 ?_;refine qr (fun XE Vv => ?_) (hg := wi bR);refine qf (fo := 1) (fun SJ Mf => ?_) (hg := wi bR);refine zQ 4 ?_;refine aa.two 68 rfl (fun iX => ?_) (fun iX => ?_)
     ·refine zQ 2 ?_;refine qr (fun XB Vs => ?_) (hg := wi iX);refine qf (fo := 1) (fun Uk Qo => ?_) (hg := wi iX);refine zQ 3 ?_;refine aa.nil (aJ ?_ ?_)
      ·dsimp only [aF, List.foldl, nth, u2, u1]
       all_goals (first | rfl | simp)
      ·refine zF ?_
       all_goals (simp [bR, iX]; done)
     ·refine zQ 7 ?_;refine aa.nil (aJ ?_ ?_)
      ·dsimp only [aF, List.foldl, nth, u2, u1]
       all_goals (first | rfl | simp)
      ·refine zF ?_
       all_goals (simp [bR, iX]; done)
    ·refine zQ 15 ?_;refine aa.nil (aJ ?_ ?_)
     ·dsimp only [aF, List.foldl, nth, u2, u1]
      all_goals (first | rfl | simp)
     ·refine zF ?_
      all_goals (simp [bR]; done)
   dsimp only [aF, List.foldl, nth, u2, u1];refine ak.merge (fun fr st => ∃ (y : D) (tmp : List (Nat × D)), fr = ⟨7, [x, cX fr 1, cX fr 2, y, .int .i64 (i : Nat), cX fr 5, cX fr 6], tmp⟩ ∧ Has s0.bs.length S st [.aC y 1 ((fR (l.take (i + 1))).map dv)]) ?_ ?_
   ·refine qc (fun h2 => ?_) (fun h2 => ?_) <;> try simp only [cs] at h2
    ·simp only [Bool.and_eq_true, decide_eq_true_eq] at h2;rw [if_pos ⟨h2.1.1, h2.1.2, h2.2⟩] at tu;refine zQ 4 ?_;refine qr fun OS HE => ?_;refine qf (fo := 1) fun Uj Qn => ?_;refine qR ?_;refine aa.AV rfl (ev rfl) (ev rfl) (by omega) (by omega) (ab rfl _) ?_;refine qh (s := 1) (vs := [_]) hH fun k83 st VU hH => ?_;refine aa.cJ (s := 1) hH rfl (ev rfl) (ev rfl) (by exact bV) (by exact hH.rows (by exact aN)) rfl rfl rfl rfl rfl rfl rfl ⟨(Nat.le_of_ble_eq_true rfl), (Nat.le_of_ble_eq_true rfl)⟩ (fun _ => (ab rfl _)) (by simp only [List.length_append, List.length_cons, List.length_nil, List.length_map] <;> omega) (by exact .inl hF) (fun TZ st hH => ?_);dsimp only [u2, u1, u3, u4, setMany, u5, u6, D.cells, Nat.reduceAdd, au, dv] at hH;refine zQ 2 ?_;exact ⟨TZ, _, rfl, (by rw [y6, ← tu, ← List.append_assoc, List.map_append]; exact hH.drop 1)⟩
    ·rw [if_neg (by rintro ⟨a, b, c⟩; simp [a, b, c] at h2)] at tu;refine zQ 1 ?_;exact ⟨y, _, rfl, (by rw [y6, ← tu, List.append_nil]; exact hH)⟩
   ·rintro fr st ⟨y, tmp, hfr, hH⟩;rw [hfr];clear hfr;generalize cX fr = ee;clear fr;refine zQ 5 ?_;exact ⟨mm - 1, by omega, ⟨i + 1, y, rfl, hH, by omega⟩⟩
 ·refine zQ 1 ?_;have hT : l.take i = l := List.take_of_length_le (by omega);rw [hT] at hH;have hm := CU l.length;rw [List.take_length] at hm;generalize ma : fR l = m0 at *;have Qj : 4 ≤ m0.length := by rw [← ma]; simp [fR]
  refine zQ 6 ?_;refine ak.loop (fun mm fr st => ∃ (i : Nat) (m : List Int), fr.clean = ⟨7, [x, cX fr 1, cX fr 2, y, cX fr 4, .int .i64 (i : Nat), cX fr 6], []⟩ ∧ Has s0.bs.length S st [.aC y 1 (m.map dv)] ∧ (i + mm = m0.length) ∧ (m.Perm m0) ∧ (gK m (i - 1) i) ∧ (1 ≤ i)) (m0.length - 1) ?_ ?_
  ·exact ⟨1, m0, rfl, hH, by omega, .refl _, by intro a b h1 h2 h3; omega, by omega⟩
  rintro mm fr st ⟨i, m, hfr, hH, hi, hp, hs, Qj⟩;rw [hfr];clear hfr;generalize cX fr = ee;clear fr;have QG : m.length = m0.length := hp.length_eq;refine zQ 5 ?_;refine qn ?_ (hR := hH.rows aN);simp only [List.length_map];refine zQ 2 ?_;refine zP (fun h1 => ?_) fun h1 => ?_
  ·refine zQ 9 ?_;refine ak.loop (fun mm fr st => ∃ (k : Nat) (m : List Int), fr.clean = ⟨7, [x, cX fr 1, cX fr 2, y, cX fr 4, .int .i64 (i : Nat), .int .i64 (k : Nat)], []⟩ ∧ Has s0.bs.length S st [.aC y 1 (m.map dv)] ∧ (k = mm) ∧ (m.Perm m0) ∧ (gK m i k) ∧ (k ≤ i)) (i) ?_ ?_
   ·exact ⟨i, m, rfl, hH, rfl, hp, by intro a b h1 h2 h3; exact hs a b h1 (by omega) (by omega), by omega⟩
   have iW := hi;rintro mm fr st ⟨k, m, hfr, hH, hk, hp, hs, J8⟩;rw [hfr];clear hfr;generalize cX fr = ee;clear fr;have QG : m.length = m0.length := hp.length_eq
   rcases k with _ | k
   ·have cu : decide (((0 : Nat) : Int) > 0) = false := by decide
    refine zQ 2 ?_;refine ak.cY 105 (.bool false) [] ?_ (fun ff tmp cx => ?_)
    ·refine zQ 14 ?_;refine aa.nil (aJ ?_ ?_)
     ·dsimp only [aF, List.foldl, nth, u2, u1]
      all_goals (first | rfl | simp)
     ·exact zS
      all_goals (first | rfl | (simp [cu]; done) | (simp_all; done) | (simp [cu]; omega) | (simp_all; omega))
    refine zG ?_;refine zQ 7 ?_;exact ⟨m0.length - (i + 1), by omega, ⟨i + 1, m, rfl, hH, by omega, hp, po hs (.inl rfl) _, by omega⟩⟩
   ·have cu : decide (((k + 1 : Nat) : Int) > 0) = true := by rw [decide_eq_true]; omega
    have gm : (m.map dv)[k]? = some (dv (m.getD k 0)) := by
     rw [List.getElem?_map, List.getElem?_eq_getElem (by omega)]; simp [List.getD_eq_getElem?_getD, List.getElem?_eq_getElem (show k < m.length by omega)]
    have mA : (m.map dv)[k + 1]? = some (dv (m.getD (k + 1) 0)) := by
     rw [List.getElem?_map, List.getElem?_eq_getElem (by omega)]; simp [List.getD_eq_getElem?_getD, List.getElem?_eq_getElem (show k + 1 < m.length by omega)]
    refine zQ 2 ?_;refine ak.cY 105 (.bool (decide (m.getD k 0 > m.getD (k + 1) 0))) [] ?_ (fun ff tmp cx => ?_)
    ·refine zQ 5 ?_;refine aa.eY (z := ((k : Nat) : Int)) (ai rfl rfl rfl cu) (ev rfl) (ev rfl) (by  rw [wrap_i64 (by omega) (by omega)] <;> omega) (ab rfl _) ?_;refine qi hH aN (fun Xr Vi => ?_) (hg := wi cu);refine zQ 3 ?_;refine qi hH aN (fun UE Tn => ?_) (hg := wi cu);refine zQ 3 ?_;refine aa.nil (aJ ?_ ?_)
     ·dsimp only [aF, List.foldl, nth, u2, u1]
      all_goals (first | rfl | simp)
     ·exact zS
      all_goals (first | rfl | (simp [cu]; done) | (simp_all; done) | (simp [cu]; omega) | (simp_all; omega))
    refine zG ?_;have U6 := swap_perm (m := m) (k := k) (by omega);have BG := fun h => w9 (m := m) (i := i) (k := k) (by omega) (by omega) hs h;have hsd := fun (h : m.getD k 0 ≤ m.getD (k + 1) 0) => po (j := i + 1) hs (.inr (by rw [Nat.add_sub_cancel]; exact h));have J4 : ((m.set k (m.getD (k + 1) 0)).set (k + 1) (m.getD k 0)).map dv = ((m.map dv).set k (dv (m.getD (k + 1) 0))).set (k + 1) (dv (m.getD k 0)) := by rw [List.map_set, List.map_set]
    have Ae : ((m.map dv).set k (dv (m.getD (k + 1) 0)))[k + 1]? = some (dv (m.getD (k + 1) 0)) := by rw [List.getElem?_set_ne (by omega)]; exact mA
    generalize m.getD k 0 = a at *;generalize m.getD (k + 1) 0 = b at *;refine ak.cond (by assumption) (fun h2 => ?_) (fun h2 => ?_) <;> try simp only [decide_eq_true_eq, decide_eq_false_iff_not] at h2
    ·refine zQ 6 ?_;refine aa.eY (z := ((k : Nat) : Int)) rfl (ev rfl) (ev rfl) (by  rw [wrap_i64 (by omega) (by omega)] <;> omega) (ab rfl _) ?_;refine zQ 4 ?_;refine qi hH aN fun UB Tm => ?_;refine zQ 3 ?_;refine aa.eY (z := ((k : Nat) : Int)) rfl (ev rfl) (ev rfl) (by  rw [wrap_i64 (by omega) (by omega)] <;> omega) (ab rfl _) ?_;refine qi hH aN fun UA Tk => ?_;refine zQ 1 ?_;refine qi hH aN fun Uz Tj => ?_;refine aa.jE hH rfl (ev rfl) (ev rfl) (by assumption) rfl rfl (by exact aN) (by assumption) (Nat.le_of_ble_eq_true rfl) (by exact .inl hF) (fun st hH => ?_);dsimp only [u2, u1, u3, u4, setMany, u5, u6, D.cells, Nat.reduceAdd, au, dv] at hH;refine qi hH aN fun Uy Ti => ?_;refine aa.jE hH rfl (ev rfl) (ev rfl) (by assumption) rfl rfl (by exact aN) (by assumption) (Nat.le_of_ble_eq_true rfl) (by exact .inl hF) (fun st hH => ?_);dsimp only [u2, u1, u3, u4, setMany, u5, u6, D.cells, Nat.reduceAdd, au, dv] at hH;refine zQ 3 ?_;refine aa.eY (z := ((k : Nat) : Int)) rfl (ev rfl) (ev rfl) (by  rw [wrap_i64 (by omega) (by omega)] <;> omega) (ab rfl _) ?_;refine zQ 2 ?_;exact ⟨k, by omega, ⟨k, (m.set k b).set (k + 1) a, rfl, (by rw [J4]; exact hH), rfl, U6.trans hp, BG h2, by omega⟩⟩
    ·refine zQ 6 ?_;exact ⟨m0.length - (i + 1), by omega, ⟨i + 1, m, rfl, hH, by omega, hp, hsd (by omega), by omega⟩⟩
  ·refine zQ 6 ?_;refine ak.ret ⟨rx, _, _, rfl, rl aP hH ((hH.freeze aN (rB _) (n := 15) (by decide))), ?_⟩;exact ⟨m, rfl, ma ▸ hp, w_ (i := i - 1) (by intro a b h1 h2 h3; exact hs a b h1 h2 (by omega)) (by omega)⟩
def fV (fr:Go.V.Fr) (k:Nat):Go.V.D:=Go.V.nth .bj fr.loc k
def fq (l a:List Rg):Prop:=canon a∧∀r,dw a r↔gR r∧dw l r
theorem fq.unique {l a b:List Rg} (h:fq l a) (g:fq l b):a=b:=n_ h.1 g.1 fun r=>(h.2 r).trans (g.2 r).symm
noncomputable def dO (l:List Rg):Bool:=@decide (fq l l) (Classical.propDecidable _)
theorem tY {l a:List Rg} (h:fq l a):dO l=decide (l=a):=by
 unfold dO
 by_cases hl:l=a
 ·rw[decide_eq_true hl];exact@decide_eq_true _ (Classical.propDecidable _) (by rw[hl] at h⊢;exact h)
 ·rw[decide_eq_false hl];exact@decide_eq_false _ (Classical.propDecidable _) (fun g=>hl (g.unique h))
theorem uj (p q:Rg):eL pv .neq 129 (.agg (au p)) (.agg (au q))=some (.bool (!decide (p=q))):=by
 have h:∀a b a' b':Int,eL pv .neq 129 (.agg [.int .i32 a,.int .i32 b]) (.agg [.int .i32 a',.int .i32 b'])=Option.map (fun b=>D.bool !b) (match some (a==a') with|some true=>(match some (b==b') with|some true=>some true|some false=>some false|none=>none)|some false=>some false|none=>none):=fun _ _ _ _=>rfl;obtain⟨a,b⟩:=p;obtain⟨a',b'⟩:=q;simp only[au,h]
 by_cases h1:a=a'
 ·subst h1
  by_cases h2:b=b'
  ·subst h2;simp
  ·have:(b==b')=false:=by simpa using h2
   simp[this,h2]
 ·have:(a==a')=false:=by simpa using h1
  simp[this,h1]
theorem nr {α:Type} {a b:List α} {i:Nat} {x y:α} (ha:a[i]?=some x) (hb:b[i]?=some y) (h:a.take i=b.take i) (LW:x=y):a.take (i+1)=b.take (i+1):=by
 rw[List.take_add_one,List.take_add_one,h,ha,hb,LW]
theorem uo {α:Type} {a b:List α} {i:Nat} {x y:α} (ha:a[i]?=some x) (hb:b[i]?=some y) (LW:¬x=y):¬a=b:=by
 intro h;subst h;rw[ha] at hb;exact LW (Option.some.inj hb)
theorem FV {s0:St} {x y:D} {l m:List Rg} (hx:V.Rows s0 2 x (l.map au)) (hy:V.Rows s0 2 y (m.map au)) (hl:l.length≤1073741824) (hm:m.length≤1073741824):Ev pv 225 [x,y] s0 (.bool (decide (l=m))) s0:=by
 refine Ev.ia rfl NK rfl rfl rfl ?_;refine zE ?_;obtain⟨aP,hF,hH⟩:=ri s0;generalize ae .ro s0=S at*;have hx:=Arg.of hx aP;have hy:=Arg.of hy aP;refine zQ 8 ?_;refine qn ?_;simp only[List.length_map];refine qm ?_;refine qn ?_;simp only[List.length_map];refine zQ 2 ?_
 by_cases hlen:l.length=m.length
 ·refine ak.cond (v:=false) ?_ (fun h=>by cases h) (fun _=>?_)
  ·dsimp only[Fr.ev,Fr.get,nth,V.look];rw[hlen];simp
  refine zQ 5 ?_;refine qn ?_;simp only[List.length_map];refine zQ 3 ?_;refine ak.loop (fun mm fr st=>∃(i:Nat),fr.clean=⟨14,[x,y,fV fr 2,fV fr 3,.bool false,fV fr 5,fV fr 6,fV fr 7,fV fr 8,fV fr 9,fV fr 10,fV fr 11,.int .i64 (l.length:Nat),.int .i64 (i:Nat)],[]⟩∧Has s0.bs.length S st []∧(i+mm=l.length)∧(l.take i=m.take i)) (l.length) ?_ ?_
  ·exact⟨0,rfl,hH,by omega,rfl⟩
  rintro mm fr st ⟨i,hfr,hH,hi,ht⟩;rw[hfr];clear hfr;generalize fV fr=ee;clear fr;refine zQ 5 ?_;refine zP (fun h1=>?_) fun h1=>?_
  ·refine zQ 1 ?_
   obtain⟨p,hp⟩:∃p,l[i]?=some p:=⟨l[i]'(by omega),List.getElem?_eq_getElem _⟩
   obtain⟨q,hq⟩:∃q,m[i]?=some q:=⟨m[i]'(by omega),List.getElem?_eq_getElem _⟩
   have gm:=dD hp;have mA:=dD hq;refine zQ 11 ?_;refine qr fun OW HJ=>?_;refine aa.cV rfl (ev rfl) (by assumption) rfl (ab rfl _) ?_;refine zQ 2 ?_;refine qr fun OU HH=>?_;refine aa.cV rfl (ev rfl) (by assumption) rfl (ab rfl _) ?_;refine aa.KZ rfl (ev rfl) (ev rfl) (uj p q) (ab rfl _) ?_;refine zQ 1 ?_;refine ak.cond (by rfl) (fun h2=>?_) (fun h2=>?_)<;>try simp only[decide_eq_true_eq,decide_eq_false_iff_not,Bool.not_eq_true',Bool.not_eq_false'] at h2
   ·refine zQ 4 ?_;rw[decide_eq_false (uo hp hq (by simpa using h2))];refine ak.ret ⟨rx,_,rfl,rl aP hH (rfl)⟩
   ·refine zQ 5 ?_;exact⟨mm-1,by omega,⟨i+1,rfl,hH,by omega,nr hp hq ht (by simpa using h2)⟩⟩
  ·refine zQ 5 ?_;rw[decide_eq_true (by rw[List.take_of_length_le (by omega),List.take_of_length_le (by omega)] at ht;exact ht)];refine ak.ret ⟨rx,_,rfl,rl aP hH (rfl)⟩
 ·refine ak.cond (v:=true) ?_ (fun _=>?_) (fun h=>by cases h)
  ·dsimp only[Fr.ev,Fr.get,nth,V.look];simp;omega
  refine zQ 4 ?_;rw[decide_eq_false (fun h=>hlen (by rw[h]))];refine ak.ret ⟨rx,_,rfl,rl aP hH (rfl)⟩
theorem xw {s0:St} {x:D} {l:List Rg} (hx:V.Rows s0 2 x (l.map au)) (hl:l.length≤1048576):Ev pv 195 [x] s0 (.bool (dO l)) s0:=by
 refine Ev.ia rfl NU rfl rfl rfl ?_;refine zE ?_;obtain⟨aP,hF,hH⟩:=ri s0;generalize ae .ro s0=S at*;have hx:=Arg.of hx aP;refine zQ 4 ?_;obtain⟨_,aB,all,rfl,hperm,mH⟩:=Bt (hx.rows hH) (by omega);have hM:fq l (all.foldl dF []).reverse:=rZ (fun x=>hperm.mem_iff) mH;have hlen:=hperm.length_eq;have mb:=jz l;have oo:=sk all;rw[tY hM];refine zQ 4 ?_;refine qv (aB) ?_;refine qv (FV (hx.rows hH) (eO _ _) (by omega) (by rw[List.length_reverse];omega)) ?_;refine zQ 2 ?_;refine ak.ret ⟨rx,_,rfl,rl aP hH (rfl)⟩
theorem Eh {N:Nat} {S st:St} {H:List a_} {x:D} {acc:List Rg} {lo hi:Int} (hF:S.flr≤N) (hH:Has N S st (.aC x 2 (acc.reverse.map au)::H)) (hl:acc.length≤536870912) (hb:∀k∈acc,0≤k.2+1∧k.2+1≤2147483647):
  ∃x' ah,Ev pv 255 [x,.int .i32 lo,.int .i32 hi] st x' ah∧Has N S ah (.aC x' 2 ((eI acc lo hi).reverse.map au)::H):=by
 refine Ev.gA rfl NA rfl rfl rfl ?_;refine zE ?_;change ak _ _ _ _ st _;refine zQ 4 ?_
 rcases acc with _|⟨h,t⟩
 ·have bk:decide (((([]:List Rg).reverse.map au).length:Int)>0)=false:=by decide
  refine zQ 2 ?_;refine ak.cY 21 (.bool false) [] ?_ (fun ff tmp cx=>?_)
  ·refine qm ?_;refine qn ?_ (hR:=hH.rows aN);simp only[List.length_map,List.length_nil,List.length_reverse];refine zQ 13 ?_;refine aa.nil (aJ ?_ ?_)
   ·dsimp only[aF,List.foldl,nth,u2,u1]
    all_goals(first|rfl|simp)
   ·dsimp only[Fr.e5,Fr.put,Fr.clean,Fr.ev,Fr.get,nth,look,u1,u2,v1,v2,v4]
    all_goals(rfl)
  dsimp only[aF,List.foldl,nth,u2,u1];refine zQ 8 ?_;refine qh (s:=2) (vs:=[_]) hH fun k34 st QT hH=>?_;dsimp only[u2,u1,u3,u4,setMany,u5,u6,D.cells,Nat.reduceAdd,au] at hH;refine aa.cJ (s:=2) hH rfl (ev rfl) (ev rfl) (by exact bV) (by exact hH.rows (by exact aN)) rfl rfl rfl rfl rfl rfl rfl ⟨(Nat.le_of_ble_eq_true rfl),(Nat.le_of_ble_eq_true rfl)⟩ (fun _=>(ab rfl _)) (by simp only[List.length_cons,List.length_nil,List.length_map,List.length_reverse]<;>omega) (by exact .inl hF) (fun T4 st hH=>?_);dsimp only[u2,u1,u3,u4,setMany,u5,u6,D.cells,Nat.reduceAdd,au] at hH;refine zQ 2 ?_;refine ak.ret ⟨rx,_,_,_,rfl,rfl,?_⟩;exact hH.drop 1
 ·have pJ:=ye h t;have fy:=yd h (h.1,hi) t;have X_:=hb h (List.mem_cons_self ..);simp only[List.length_cons] at hl;have bk:decide (((t.length+1:Nat):Int)>0)=true:=by rw[decide_eq_true];omega
  refine zQ 2 ?_;refine ak.cY 21 (.bool (decide (h.2+1=lo))) [] ?_ (fun ff tmp cx=>?_)
  ·refine qm ?_;refine qn ?_ (hR:=hH.rows aN);simp only[List.length_map,List.length_cons,List.length_reverse];refine zQ 4 ?_;refine qn ?_ (hR:=hH.rows aN) (hg:=wi bk);simp only[List.length_map,List.length_cons,List.length_reverse];refine aa.eY (z:=((t.length:Nat):Int)) (ai rfl rfl rfl bk) (ev rfl) (ev rfl) (by rw[wrap_i64 (by omega) (by omega)]<;>omega) (ab rfl _) ?_;refine qi hH aN (fun PH J0=>?_) (hg:=wi bk);refine aa.gU (fo:=1) (m:=0) (o2:=1) (ai rfl rfl rfl bk) (ev rfl) (by assumption) rfl rfl rfl (fun _=>(ab rfl _)) (fun SX Mr=>?_);refine zQ 1 ?_;refine aa.AV (ai rfl rfl rfl bk) (ev rfl) (ev rfl) (by omega) (by omega) (ab rfl _) ?_;refine zQ 3 ?_;refine aa.nil (aJ ?_ ?_)
   ·dsimp only[aF,List.foldl,nth,u2,u1]
    all_goals(first|rfl|simp)
   ·dsimp only[Fr.e5,Fr.put,Fr.clean,Fr.ev,Fr.get,nth,look,u1,u2,v1,v2,v4]
    all_goals(rfl)
  dsimp only[aF,List.foldl,nth,u2,u1];refine ak.cond (by assumption) (fun h2=>?_) (fun h2=>?_)<;>try simp only[decide_eq_true_eq,decide_eq_false_iff_not] at h2
  ·refine zQ 4 ?_;refine qn ?_ (hR:=hH.rows aN);simp only[List.length_map,List.length_cons,List.length_reverse];refine aa.eY (z:=((t.length:Nat):Int)) rfl (ev rfl) (ev rfl) (by rw[wrap_i64 (by omega) (by omega)]<;>omega) (ab rfl _) ?_;refine qm ?_;refine qi hH aN fun SU Mp=>?_;refine aa.gU (fo:=1) (m:=0) (o2:=1) rfl (ev rfl) (by assumption) rfl rfl rfl (fun _=>(ab rfl _)) (fun PF JY=>?_);refine aa.jE hH rfl (ev rfl) (ev rfl) (by assumption) rfl rfl (by exact aN) (by assumption) (Nat.le_of_ble_eq_true rfl) (by exact .inl hF) (fun st hH=>?_);dsimp only[u2,u1,u3,u4,setMany,u5,u6,D.cells,Nat.reduceAdd,au] at hH;refine zQ 6 ?_;refine ak.ret ⟨rx,_,_,_,rfl,rfl,?_⟩;simp only[eI,if_pos h2];rw[←fy];exact hH
  ·refine zQ 7 ?_;refine qh (s:=2) (vs:=[_]) hH fun k34 st QT hH=>?_;dsimp only[u2,u1,u3,u4,setMany,u5,u6,D.cells,Nat.reduceAdd,au] at hH;refine aa.cJ (s:=2) hH rfl (ev rfl) (ev rfl) (by exact bV) (by exact hH.rows (by exact aN)) rfl rfl rfl rfl rfl rfl rfl ⟨(Nat.le_of_ble_eq_true rfl),(Nat.le_of_ble_eq_true rfl)⟩ (fun _=>(ab rfl _)) (by simp only[List.length_cons,List.length_nil,List.length_map,List.length_reverse]<;>omega) (by exact .inl hF) (fun T4 st hH=>?_);dsimp only[u2,u1,u3,u4,setMany,u5,u6,D.cells,Nat.reduceAdd,au] at hH;refine zQ 2 ?_;refine ak.ret ⟨rx,_,_,_,rfl,rfl,?_⟩;simp only[eI,if_neg h2];rw[List.reverse_cons (a:=(lo,hi)),List.map_append];exact hH.drop 1
theorem Cz (acc:List Rg) (lo hi:Int):(eI acc lo hi).length≤acc.length+1:=by
 unfold eI;split
 ·simp
 ·split<;>simp
theorem Jr (l:List Rg) (a b:Int):KY l true a b=((decide (a<b) &&(decide (a<55296)||decide (a>57343))) &&kU l a):=by
 unfold KY;cases kU l a<;>simp
theorem zq {s0:St} {x:D} {l:List Rg} (hx:V.Rows s0 2 x (l.map au)) (hl:l.length≤134217728):∃d,Ev pv 227 [x] s0 d s0∧∃a:List Rg,d=bt a∧fq l a:=by
 refine Ev.Dq rfl NI rfl rfl rfl ?_;refine zE ?_;obtain⟨aP,hF,hH⟩:=ri s0;generalize ae .ro s0=S at*;have hx:=Arg.of hx aP;refine zQ 4 ?_;obtain⟨_,aB,m,rfl,hperm,mH⟩:=ES (hx.rows hH) (by omega);have hlen:=hperm.length_eq;have mb:=o9 l;have CU:m.length=4+(l.flatMap iA).length:=by rw[hlen];simp[fR];omega
 have Tp:∀q∈m,0≤q∧q≤1114112:=by
  intro q hq;have:=hperm.mem_iff.1 hq;simp only[fR,List.mem_append,List.mem_cons,List.not_mem_nil,or_false,List.mem_flatMap] at this
  rcases this with(h|h|h|h)|⟨y,_,hy⟩
  ·omega
  ·omega
  ·omega
  ·omega
  ·unfold iA at hy
   split at hy<;>split at hy<;>simp at hy<;>omega
 have hM:=tC (l:=l) (m:=m) true (fun q=>by
  rw[hperm.mem_iff]
  simp only[fR,List.mem_append,List.mem_cons,List.not_mem_nil,or_false,List.mem_flatMap,or_assoc]) mH
 have WL:fq l (fG l true m []).reverse:=⟨hM.1,fun r=>by rw[hM.2 r];simp⟩
 refine zQ 3 ?_;refine qv (aB) ?_;refine zQ 2 ?_;have ma:=Arg.pure (N:=s0.bs.length) (S:=S) (s:=1) (es:=(m.map dv).map (j7 1)) (fun st=>xq st m);change Arg s0.bs.length S 1 (vw m) _ at ma;refine zQ 9 ?_;have hH:=hH.gf 2;refine zQ 1 ?_;refine ak.loop (fun mm fr st=>∃(i:Nat) (y:D) (acc:List Rg),fr.clean=⟨6,[x,fV fr 1,fV fr 2,vw m,y,.int .i64 (i:Nat)],[]⟩∧Has s0.bs.length S st [.aC y 2 (acc.reverse.map au)]∧(i+mm=m.length)∧(fG l true (m.drop i) acc=fG l true m [])∧(acc.length≤i)∧(∀k∈acc,0≤k.2+1∧k.2+1≤1114112)) (m.length) ?_ ?_
 ·exact⟨0,.nul,[],rfl,hH,by omega,rfl,by simp,by simp⟩
 rintro mm fr st ⟨i,y,acc,hfr,hH,hi,hp,hal,hab⟩;rw[hfr];clear hfr;generalize fV fr=ee;clear fr;refine zQ 6 ?_;refine qn ?_;simp only[List.length_map];refine zQ 2 ?_;refine zP (fun h1=>?_) fun h1=>?_
 ·refine zQ 1 ?_
  obtain⟨a,ha⟩:∃a,m[i]?=some a:=⟨m[i]'(by omega),List.getElem?_eq_getElem _⟩
  obtain⟨b,hb⟩:∃b,m[i+1]?=some b:=⟨m[i+1]'(by omega),List.getElem?_eq_getElem _⟩
  have gm:=xt ha;have mA:=xt hb;have TH:=Tp b (List.mem_of_getElem? hb);have X':=Tp a (List.mem_of_getElem? ha)
  have yu:m.drop i=a::b::m.drop (i+2):=by
   rw[List.drop_eq_getElem_cons (by omega),List.drop_eq_getElem_cons (by omega)];rw[List.getElem?_eq_getElem (by omega)] at ha hb;rw[Option.some.inj ha,Option.some.inj hb]
  have Rc:m.drop (i+1)=b::m.drop (i+2):=by
   rw[List.drop_eq_getElem_cons (by omega)];rw[List.getElem?_eq_getElem (by omega)] at hb;rw[Option.some.inj hb]
  rw[yu,fG,←Rc,Jr] at hp;refine zQ 3 ?_;refine ak.cY 46 (.bool ((decide (a<b) &&(decide (a<55296)||decide (a>57343))) &&kU l a)) [] ?_ (fun ff tmp cx=>?_)
  ·refine zQ 2 ?_;refine qr fun PG JZ=>?_;refine zQ 4 ?_;refine qr fun OU HH=>?_;refine zQ 3 ?_;refine aa.two 25 rfl (fun c7=>?_) (fun c7=>?_)
   ·refine zQ 2 ?_;refine qr (fun PF JY=>?_) (hg:=wi c7);refine zQ 3 ?_;refine aa.two 31 rfl (fun pY=>?_) (fun pY=>?_)
    ·refine zQ 5 ?_;refine aa.cQ (ai rfl rfl rfl c7) rfl pY (ab rfl _) ?_;refine zQ 5 ?_;refine qr fun PD JW=>?_;refine qR ?_;refine qv (ua (hx.rows hH) (by omega)) ?_;refine qg ?_;refine aa.nil (aJ ?_ ?_)
     ·dsimp only[aF,List.foldl,nth,u2,u1]
      all_goals(first|rfl|simp)
     ·refine zF ?_
      all_goals(simp[c7,pY];done)
    ·refine zQ 2 ?_;refine qr (fun Ut Qw=>?_) (hg:=wi pY);refine zQ 2 ?_;refine aa.cH (ai rfl rfl rfl c7) rfl pY (ab rfl _) ?_;refine zQ 2 ?_;refine aa.two 39 rfl (fun il=>?_) (fun il=>?_)
     ·refine zQ 3 ?_;refine qr (fun PD JW=>?_) (hg:=wi il);refine zQ 1 ?_;refine qv (ua (hx.rows hH) (by omega)) ?_ (hg:=wi il);refine zQ 1 ?_;refine aa.nil (aJ ?_ ?_)
      ·dsimp only[aF,List.foldl,nth,u2,u1]
       all_goals(first|rfl|simp)
      ·refine zF ?_
       all_goals(simp[c7,pY,il];done)
     ·refine zQ 7 ?_;refine aa.nil (aJ ?_ ?_)
      ·dsimp only[aF,List.foldl,nth,u2,u1]
       all_goals(first|rfl|simp)
      ·refine zF ?_
       all_goals(simp[c7,pY,il];done)
   ·refine zQ 21 ?_;refine aa.nil (aJ ?_ ?_)
    ·dsimp only[aF,List.foldl,nth,u2,u1]
     all_goals(first|rfl|simp)
    ·refine zF ?_
     all_goals(simp[c7];done)
  refine zG ?_;refine qc (fun h2=>?_) (fun h2=>?_)<;>try simp only[cs] at h2
  ·rw[h2,if_pos rfl] at hp;have jL:=Cz acc a (b-1);obtain⟨x',ah,Q_,Pj⟩:=Eh (acc:=acc) (lo:=a) (hi:=b-1) hF hH (by omega) (fun k hk=>by have:=hab k hk;omega);refine zQ 4 ?_;refine qr fun PC JV=>?_;refine zQ 4 ?_;refine qr fun Un Qq=>?_;refine qR ?_;refine aa.Je rfl (ev rfl) (ev rfl) (by omega) (by omega) (ab rfl _) ?_;refine qv (Q_) ?_;refine zQ 2 ?_;have hH:=Pj;refine zQ 5 ?_;refine⟨mm-1,by omega,⟨i+1,x',eI acc a (b-1),rfl,hH,by omega,hp,by omega,?_⟩⟩;intro k hk;unfold eI at hk
   split at hk
   ·simp only[List.mem_cons,List.not_mem_nil,or_false] at hk;subst hk;simp only;omega
   ·rename_i h t
    split at hk
    ·rcases List.mem_cons.1 hk with rfl|hk
     ·simp only;omega
     ·exact hab k (List.mem_cons_of_mem _ hk)
    ·rcases List.mem_cons.1 hk with rfl|hk
     ·simp only;omega
     ·exact hab k hk
  ·rw[h2] at hp;refine zQ 6 ?_;exact⟨mm-1,by omega,⟨i+1,y,acc,rfl,hH,by omega,hp,by omega,hab⟩⟩
 ·refine zQ 6 ?_
  have gD:acc=fG l true m []:=by
   rw[←hp];have Ft:(m.drop i).length≤1:=by rw[List.length_drop];omega
   match hd:m.drop i,Ft with
   |[],_=>rfl
   |[_],_=>rfl
  refine ak.ret ⟨rx,_,_,rfl,rl aP hH ((hH.freeze aN (fY _) (n:=15) (by decide))),?_⟩;exact⟨acc.reverse,by rw[gM],by rw[gD];exact WL⟩
theorem xB {s0:St} {x:D} {l:List Rg} (hx:V.Rows s0 2 x (l.map au)) (hl:l.length≤1048576):Ev pv 196 [x] s0 (.bool (dO l)) s0:=by
 refine Ev.ia rfl NT rfl rfl rfl ?_;refine zE ?_;obtain⟨aP,hF,hH⟩:=ri s0;generalize ae .ro s0=S at*;have hx:=Arg.of hx aP;refine zQ 4 ?_;obtain⟨_,aB,m,rfl,hM⟩:=zq (hx.rows hH) (by omega);rw[tY hM];refine zQ 3 ?_;refine qv (aB) ?_;refine zQ 2 ?_;have ma:Arg s0.bs.length S 2 (bt m) (m.map au):=Arg.pure (fun st=>eO st m);refine zQ 4 ?_;refine qn ?_;simp only[List.length_map];refine qm ?_;refine qn ?_;simp only[List.length_map];refine zQ 2 ?_
 by_cases hlen:m.length=l.length
 ·refine ak.cond (v:=false) ?_ (fun h=>by cases h) (fun _=>?_)
  ·dsimp only[Fr.ev,Fr.get,nth,V.look];rw[hlen];simp
  refine zQ 7 ?_;refine ak.loop (fun mm fr st=>∃(i:Nat),fr.clean=⟨5,[x,fV fr 1,.bool false,bt m,.int .i64 (i:Nat)],[]⟩∧Has s0.bs.length S st []∧(i+mm=l.length)∧(l.take i=m.take i)) (l.length) ?_ ?_
  ·exact⟨0,rfl,hH,by omega,rfl⟩
  rintro mm fr st ⟨i,hfr,hH,hi,ht⟩;rw[hfr];clear hfr;generalize fV fr=ee;clear fr;refine zQ 5 ?_;refine qn ?_;simp only[List.length_map];refine zQ 2 ?_;refine zP (fun h1=>?_) fun h1=>?_
  ·refine zQ 1 ?_
   obtain⟨p,hp⟩:∃p,l[i]?=some p:=⟨l[i]'(by omega),List.getElem?_eq_getElem _⟩
   obtain⟨q,hq⟩:∃q,m[i]?=some q:=⟨m[i]'(by omega),List.getElem?_eq_getElem _⟩
   have gm:=dD hp;have mA:=dD hq;refine zQ 6 ?_;refine qr fun Lw E8=>?_;refine aa.cV rfl (ev rfl) (by assumption) rfl (ab rfl _) ?_;refine zQ 2 ?_;refine qr fun Lv E7=>?_;refine aa.cV rfl (ev rfl) (by assumption) rfl (ab rfl _) ?_;refine aa.KZ rfl (ev rfl) (ev rfl) (uj q p) (ab rfl _) ?_;refine zQ 1 ?_;refine ak.cond (by rfl) (fun h2=>?_) (fun h2=>?_)<;>try simp only[decide_eq_true_eq,decide_eq_false_iff_not,Bool.not_eq_true',Bool.not_eq_false'] at h2
   ·refine zQ 4 ?_;rw[decide_eq_false (uo hp hq (by simpa[eq_comm] using h2))];refine ak.ret ⟨rx,_,rfl,rl aP hH (rfl)⟩
   ·refine zQ 6 ?_;exact⟨mm-1,by omega,⟨i+1,rfl,hH,by omega,nr hp hq ht (by simpa[eq_comm] using h2)⟩⟩
  ·refine zQ 5 ?_;rw[decide_eq_true (by rw[List.take_of_length_le (by omega),List.take_of_length_le (by omega)] at ht;exact ht)];refine ak.ret ⟨rx,_,rfl,rl aP hH (rfl)⟩
 ·refine ak.cond (v:=true) ?_ (fun _=>?_) (fun h=>by cases h)
  ·dsimp only[Fr.ev,Fr.get,nth,V.look];simp;omega
  refine zQ 4 ?_;rw[decide_eq_false (fun h=>hlen (by rw[h]))];refine ak.ret ⟨rx,_,rfl,rl aP hH (rfl)⟩
structure aK where
 op:Int
 x:Int
 y:Int
 rd:D
 rs:List Rg
def aT (i:aK):List D:=[.int .i64 i.op,.int .i64 i.x,.int .i64 i.y,i.rd]
def aK.ok (i:aK):Prop:=gd i.rd 2 (i.rs.map au)∧i.rs.length≤1048576
def ax (n:Int):List D:=[.int .i64 n]
structure Pg where
 cd:D
 code:List aK
 sd:D
 aq:List Int
structure Pg.ok (p:Pg):Prop where
 c:gd p.cd 4 (p.code.map aT)
 s:gd p.sd 1 (p.aq.map ax)
 i:∀x∈p.code,x.ok
 cl:p.code.length≤1048576
 sl:p.aq.length≤1048576
def Pg.cs (p:Pg):List D:=[p.cd,p.sd]
def Pg.d (p:Pg):D:=.agg p.cs
theorem gk {l:List aK} {i:Nat} {q:aK} (h:l[i]?=some q):(l.map aT)[i]?=some (aT q):=by rw[List.getElem?_map,h];rfl
theorem er {l:List Int} {i:Nat} {q:Int} (h:l[i]?=some q):(l.map ax)[i]?=some (ax q):=by rw[List.getElem?_map,h];rfl
def jq (v n:Int):Bool:=decide (v≥0) &&decide (v<n)
noncomputable def cv (n ns pc:Nat) (i:aK):Bool:=
 if i.op=1 then i.y==0 &&(decide (((pc+1:Nat):Int)<n) &&i.x==0 &&dO i.rs)
 else i.rs.isEmpty &&
  (if i.op=2 then jq i.x n &&jq i.y n
  else i.y==0 &&
   (if i.op=3 then jq i.x n
   else if i.op=4 then decide (((pc+1:Nat):Int)<n) &&jq i.x 10
   else if i.op=5∨i.op=6 then decide (((pc+1:Nat):Int)<n) &&i.x==0
   else if i.op=7 then jq i.x ns
   else false))
theorem iL {s0:St} (v n:Int):Ev pv 144 [.int .i64 v,.int .i64 n] s0 (.bool (jq v n)) s0:=by
 refine Ev.ia rfl Og rfl rfl rfl ?_;refine zE ?_;obtain⟨aP,hF,hH⟩:=ri s0;generalize ae .ro s0=S at*;refine zQ 5 ?_;refine ak.kW 4 (.bool (decide (v≥0) &&decide (v<n))) [] ?_ (fun ff tmp=>?_)
 ·refine zQ 3 ?_;refine aa.two 7 rfl (fun cu=>?_) (fun cu=>?_)
  ·refine zQ 5 ?_;refine aa.nil (aR ?_);refine zG ?_
   all_goals(simp[cu];done)
  ·refine zQ 5 ?_;refine aa.nil (aR ?_);refine zG ?_
   all_goals(simp[cu];done)
 dsimp only[aF,List.foldl,nth,u2,u1];refine ak.ret ⟨rx,_,rfl,rl aP hH (rfl)⟩
theorem Cm {s0:St} {p:Pg} {pc:Nat} {i:aK} (hp:p.ok) (hi:p.code[pc]?=some i):Ev pv 143 [p.d,.int .i64 (pc:Nat)] s0 (.bool (cv p.code.length p.aq.length pc i)) s0:=by
 refine Ev.ia rfl Oh rfl rfl rfl ?_;refine zE ?_;obtain⟨aP,hF,hH⟩:=ri s0;generalize ae .ro s0=S at*;have hc:=hp.c.arg s0.bs.length S;have hs:=hp.s.arg s0.bs.length S;have Lb:=hp.i i (List.mem_of_getElem? hi);have ML:=Lb.1.arg s0.bs.length S;have hil:=Lb.2;have hcl:=hp.cl;have ka:=hp.sl;have hr:=gk hi;have hlt:=bo hi;unfold Pg.d;refine zQ 2 ?_;refine qb hH fun k2 st hk2 hH=>?_;dsimp only[u2,u1,u3,u4,setMany,u5,u6,D.cells,Nat.reduceAdd,Pg.cs,aT,ax] at hH;refine zQ 7 ?_;refine qr fun SZ Mv=>?_;refine aa.cV rfl (ev rfl) (by assumption) rfl (by dsimp only[Fr.put,u1,u2]<;>rfl) ?_;refine qa hH fun k5 st K' hH=>?_;refine qS hH aN fun st hH=>?_;dsimp only[u2,u1,u3,u4,setMany,u5,u6,D.cells,Nat.reduceAdd,Pg.cs,aT,ax] at hH;refine zQ 7 ?_;refine qn ?_;simp only[List.length_map];refine zQ 5 ?_;refine ak.kW 36 (.bool (((i.op !=1) &&decide ((i.rs.length:Int)>0))||((i.op !=2) &&(i.y !=0)))) [18,19,20,21,22,23,24,25,26,27,28,29,30,31,32,33,34,35] ?_ (fun ff tmp=>?_)
 ·refine zQ 4 ?_;refine aa.two 21 rfl (fun bk=>?_) (fun bk=>?_)
  ·refine zQ 2 ?_;refine qn ?_ (hg:=wi bk);simp only[List.length_map];refine zQ 3 ?_;refine aa.two 27 rfl (fun ec=>?_) (fun ec=>?_)
   ·refine zQ 9 ?_;refine aa.nil (aR ?_);refine zG ?_
    all_goals(simp_all;done)
   ·refine zQ 4 ?_;refine aa.two 31 rfl (fun d_=>?_) (fun d_=>?_)
    ·refine zQ 3 ?_;refine aa.cQ (ai rfl rfl rfl ec) rfl d_ (by dsimp only[Fr.put,u1,u2]<;>rfl) ?_;refine zQ 1 ?_;refine aa.nil (aR ?_);refine zG ?_
     all_goals(simp_all;done)
    ·refine zQ 3 ?_;refine aa.cH (ai rfl rfl rfl ec) rfl d_ (by dsimp only[Fr.put,u1,u2]<;>rfl) ?_;refine zQ 1 ?_;refine aa.nil (aR ?_);refine zG ?_
     all_goals(simp_all;done)
  ·refine zQ 10 ?_;refine aa.two 31 rfl (fun d_=>?_) (fun d_=>?_)
   ·refine zQ 5 ?_;refine aa.nil (aR ?_);refine zG ?_
    all_goals(simp[bk,d_];done)
   ·refine zQ 5 ?_;refine aa.nil (aR ?_);refine zG ?_
    all_goals(simp[bk,d_];done)
 dsimp only[aF,List.foldl,nth,u2,u1];generalize ff 18=W6;generalize ff 19=W5;generalize ff 20=W4;generalize ff 21=W3;generalize ff 22=W2;generalize ff 23=W0;generalize ff 24=WZ;generalize ff 25=WY;generalize ff 26=WX;generalize ff 27=WW;generalize ff 28=Yx;generalize ff 29=Yw;generalize ff 30=Yv;generalize ff 31=Yu;generalize ff 32=Yt;generalize ff 33=Ys;generalize ff 34=Yr;generalize ff 35=Yq;have MB:(i.rs.isEmpty=!decide ((i.rs.length:Int)>0)):=by cases i.rs<;>simp<;>omega
 have hsh:cv p.code.length p.aq.length pc i=if((i.op !=1) &&decide ((i.rs.length:Int)>0))||((i.op !=2) &&(i.y !=0)) then false else
   (if i.op=1 then(decide (((pc+1:Nat):Int)<p.code.length) &&i.x==0) &&dO i.rs
   else if i.op=2 then jq i.x p.code.length &&jq i.y p.code.length
   else if i.op=3 then jq i.x p.code.length
   else if i.op=4 then decide (((pc+1:Nat):Int)<p.code.length) &&jq i.x 10
   else if i.op=5 then decide (((pc+1:Nat):Int)<p.code.length) &&i.x==0
   else if i.op=6 then decide (((pc+1:Nat):Int)<p.code.length) &&i.x==0
   else if i.op=7 then jq i.x p.aq.length
   else false):=by
  unfold cv;rw[MB];generalize decide ((i.rs.length:Int)>0)=b
  by_cases h1:i.op=1
  ·have h2:i.op≠2:=by omega
   simp only[h1];cases b<;>by_cases hy:i.y=0<;>simp[hy]
  ·by_cases h2:i.op=2
   ·simp only[h2];cases b<;>simp
   ·by_cases TQ:i.op=5
    ·simp only[TQ];cases b<;>by_cases hy:i.y=0<;>simp[hy]
    ·cases b<;>by_cases hy:i.y=0<;>simp[h1,h2,TQ,hy]
 rw[hsh];refine qc (fun h0=>?_) (fun h0=>?_)<;>try simp only[cs] at h0
 ·refine zQ 4 ?_;rw[if_pos h0];refine ak.ret ⟨rx,_,rfl,rl aP hH (rfl)⟩
 ·rw[if_neg (by rw[h0];simp)];refine zQ 13 ?_;refine zI (fun h1=>?_) fun h1=>?_
  ·rw[if_pos h1];refine qq<|ak.kW 4 (.bool ((decide (((pc+1:Nat):Int)<p.code.length) &&(i.x==0)) &&dO i.rs)) [] ?_ (fun ff tmp=>?_)
   ·refine zQ 2 ?_;refine aa.two 42 rfl (fun lM=>?_) (fun lM=>?_)
    ·refine zQ 5 ?_;refine aa.two 47 rfl (fun ju=>?_) (fun ju=>?_)
     ·refine zQ 2 ?_;refine qv (xw (ML.rows hH) hil) ?_ (hg:=wi ju);refine zQ 2 ?_;refine aa.nil (aR ?_);refine zG ?_
      all_goals(simp[lM,ju];done)
     ·refine zQ 5 ?_;refine aa.nil (aR ?_);refine zG ?_
      all_goals(simp[lM,ju];done)
    ·refine zQ 10 ?_;refine aa.nil (aR ?_);refine zG ?_
     all_goals(simp[lM];done)
   dsimp only[aF,List.foldl,nth,u2,u1];refine ak.ret ⟨rx,_,rfl,rl aP hH (rfl)⟩
  ·rw[if_neg h1];refine zQ 5 ?_;refine zI (fun h2=>?_) fun h2=>?_
   ·rw[if_pos h2];refine qq<|ak.kW 4 (.bool (jq i.x p.code.length &&jq i.y p.code.length)) [] ?_ (fun ff tmp=>?_)
    ·refine zQ 4 ?_;refine qn ?_;simp only[List.length_map];refine qv (iL _ _) ?_;refine qm ?_;refine aa.two 60 rfl (fun ju=>?_) (fun ju=>?_)
     ·refine zQ 4 ?_;refine qn ?_ (hg:=wi ju);simp only[List.length_map];refine qv (iL _ _) ?_ (hg:=wi ju);refine zQ 2 ?_;refine aa.nil (aR ?_);refine zG ?_
      all_goals(simp[ju];done)
     ·refine zQ 8 ?_;refine aa.nil (aR ?_);refine zG ?_
      all_goals(simp[ju];done)
    dsimp only[aF,List.foldl,nth,u2,u1];refine ak.ret ⟨rx,_,rfl,rl aP hH (rfl)⟩
   ·rw[if_neg h2];refine zQ 5 ?_;refine zI (fun h3=>?_) fun h3=>?_
    ·rw[if_pos h3];refine zQ 6 ?_;refine qn ?_;simp only[List.length_map];refine qv (iL _ _) ?_;refine zQ 2 ?_;refine ak.ret ⟨rx,_,rfl,rl aP hH (rfl)⟩
    ·rw[if_neg h3];refine zQ 5 ?_;refine zI (fun h4=>?_) fun h4=>?_
     ·rw[if_pos h4];refine qq<|ak.kW 4 (.bool (decide (((pc+1:Nat):Int)<p.code.length) &&jq i.x 10)) [] ?_ (fun ff tmp=>?_)
      ·refine zQ 2 ?_;refine aa.two 79 rfl (fun lM=>?_) (fun lM=>?_)
       ·refine zQ 2 ?_;refine qv (iL _ _) ?_ (hg:=wi lM);refine zQ 2 ?_;refine aa.nil (aR ?_);refine zG ?_
        all_goals(simp[lM];done)
       ·refine zQ 5 ?_;refine aa.nil (aR ?_);refine zG ?_
        all_goals(simp[lM];done)
      dsimp only[aF,List.foldl,nth,u2,u1];refine ak.ret ⟨rx,_,rfl,rl aP hH (rfl)⟩
     ·rw[if_neg h4];refine zQ 6 ?_
      by_cases h5:i.op=5
      ·rw[if_pos h5];refine qD rfl (by simp[h5]) ?_;refine zQ 1 ?_;refine qD rfl (by simp[h5]) ?_;refine qq<|ak.kW 4 (.bool (decide (((pc+1:Nat):Int)<p.code.length) &&(i.x==0))) [] ?_ (fun ff tmp=>?_)
       ·refine zQ 2 ?_;refine aa.two 88 rfl (fun lM=>?_) (fun lM=>?_)
        ·refine zQ 5 ?_;refine aa.nil (aR ?_);refine zG ?_
         all_goals(simp[lM];done)
        ·refine zQ 5 ?_;refine aa.nil (aR ?_);refine zG ?_
         all_goals(simp[lM];done)
       dsimp only[aF,List.foldl,nth,u2,u1];refine ak.ret ⟨rx,_,rfl,rl aP hH (rfl)⟩
      ·rw[if_neg h5];refine qE rfl (by simp[h5]) ?_;refine zQ 4 ?_;refine zI (fun h6=>?_) fun h6=>?_
       ·rw[if_pos h6];refine qq<|ak.kW 4 (.bool (decide (((pc+1:Nat):Int)<p.code.length) &&(i.x==0))) [] ?_ (fun ff tmp=>?_)
        ·refine zQ 2 ?_;refine aa.two 88 rfl (fun lM=>?_) (fun lM=>?_)
         ·refine zQ 5 ?_;refine aa.nil (aR ?_);refine zG ?_
          all_goals(simp[lM];done)
         ·refine zQ 5 ?_;refine aa.nil (aR ?_);refine zG ?_
          all_goals(simp[lM];done)
        dsimp only[aF,List.foldl,nth,u2,u1];refine ak.ret ⟨rx,_,rfl,rl aP hH (rfl)⟩
       ·rw[if_neg h6];refine zQ 5 ?_;refine zI (fun h7=>?_) fun h7=>?_
        ·rw[if_pos h7];refine zQ 6 ?_;refine qn ?_;simp only[List.length_map];refine qv (iL _ _) ?_;refine zQ 2 ?_;refine ak.ret ⟨rx,_,rfl,rl aP hH (rfl)⟩
        ·rw[if_neg h7];refine zQ 5 ?_;refine ak.ret ⟨rx,_,rfl,rl aP hH (rfl)⟩
end Go.Proofs.YtecjacicdpejaaaGreat
