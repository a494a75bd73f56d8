/-
 Ranges of runes: the canonical form, by plain lists. No program in sight.
-/
import Derived.Test.YtbdilgkfnacahaaXPx
import Derived.Test.YtbdilgkfnacahaaXM2
import Derived.KernelRfl
set_option linter.unusedSimpArgs false
set_option linter.unusedVariables false
set_option maxRecDepth 100000
set_option maxHeartbeats 4000000
namespace Go.V
abbrev Rg:=Int×Int
def c8 (l:List Rg) (r:Int):Prop:=∃x,x∈l∧x.1≤r∧r≤x.2
theorem dC (r:Int):¬c8 [] r:=by rintro⟨x,h,_⟩;cases h
theorem bw {x:Rg} {l:List Rg} {r:Int}:c8 (x::l) r↔(x.1≤r∧r≤x.2)∨c8 l r:=by
 constructor
 ·rintro⟨y,hy,h⟩
  rcases List.mem_cons.1 hy with rfl|hy
  ·exact .inl h
  ·exact .inr ⟨y,hy,h⟩
 ·rintro(h|⟨y,hy,h⟩)
  ·exact⟨x,List.mem_cons_self ..,h⟩
  ·exact⟨y,List.mem_cons_of_mem _ hy,h⟩
theorem tB {a b:List Rg} {r:Int}:c8 (a++b) r↔c8 a r∨c8 b r:=by
 constructor
 ·rintro⟨y,hy,h⟩
  rcases List.mem_append.1 hy with hy|hy
  ·exact .inl ⟨y,hy,h⟩
  ·exact .inr ⟨y,hy,h⟩
 ·rintro(⟨y,hy,h⟩|⟨y,hy,h⟩)
  ·exact⟨y,List.mem_append_left _ hy,h⟩
  ·exact⟨y,List.mem_append_right _ hy,h⟩
theorem mc {a b:List Rg} (h:∀x,x∈a↔x∈b) (r:Int):c8 a r↔c8 b r:=by
 constructor
 ·rintro⟨y,hy,hh⟩;exact⟨y,(h y).1 hy,hh⟩
 ·rintro⟨y,hy,hh⟩;exact⟨y,(h y).2 hy,hh⟩
def canon (l:List Rg):Prop:=(∀x∈l,x.1≤x.2)∧l.Pairwise fun x y=>x.2+1<y.1
theorem iW {x:Rg} {l:List Rg} (h:canon (x::l)):canon l∧x.1≤x.2∧∀r,c8 l r→x.2+1<r:=by
 obtain⟨h1,h2⟩:=h;rw[List.pairwise_cons] at h2;refine⟨⟨fun y hy=>h1 y (List.mem_cons_of_mem _ hy),h2.2⟩,h1 x (List.mem_cons_self ..),?_⟩;rintro r ⟨y,hy,h3,h4⟩;have:=h2.1 y hy;omega
theorem lI:∀{a b:List Rg},canon a→canon b→(∀r,c8 a r↔c8 b r)→a=b
 |[],[],_,_,_=>rfl
 |[],y::b,_,hb,h=>by
  obtain⟨_,h1,_⟩:=iW hb;exact absurd ((h y.1).2 (bw.2 (.inl ⟨Int.le_refl _,h1⟩))) (dC _)
 |x::a,[],ha,_,h=>by
  obtain⟨_,h1,_⟩:=iW ha;exact absurd ((h x.1).1 (bw.2 (.inl ⟨Int.le_refl _,h1⟩))) (dC _)
 |x::a,y::b,ha,hb,h=>by
  obtain⟨ca,xa,fa⟩:=iW ha;obtain⟨cb,yb,fb⟩:=iW hb
  have low:∀{x y:Rg} {a b:List Rg},x.1≤x.2→(∀r,c8 b r→y.2+1<r)→y.1≤y.2→(∀r,c8 (x::a) r→c8 (y::b) r)→y.1≤x.1:=by
   intro x y a b hx hf hy hh
   rcases bw.1 (hh x.1 (bw.2 (.inl ⟨Int.le_refl _,hx⟩))) with h|h
   ·exact h.1
   ·have:=hf _ h;omega
  have e1:x.1=y.1:=Int.le_antisymm (low yb fa xa fun r=>(h r).2) (low xa fb yb fun r=>(h r).1)
  have up:∀{x y:Rg} {a b:List Rg},x.1≤x.2→x.1=y.1→(∀r,c8 a r→x.2+1<r)→(∀r,c8 (y::b) r→c8 (x::a) r)→y.2≤x.2:=by
   intro x y a b hx he hf hh
   rcases Int.lt_or_le x.2 y.2 with h'|h'
   ·rcases bw.1 (hh (x.2+1) (bw.2 (.inl ⟨by omega,by omega⟩))) with h|h
    ·omega
    ·have:=hf _ h;omega
   ·exact h'
  have e2:x.2=y.2:=Int.le_antisymm (up yb e1.symm fb fun r=>(h r).1) (up xa e1 fa fun r=>(h r).2);have e:x=y:=Prod.ext e1 e2;subst e
  congr 1
  refine lI ca cb fun r=>⟨fun hr=>?_,fun hr=>?_⟩
  ·have:=fa r hr
   rcases bw.1 ((h r).1 (bw.2 (.inr hr))) with h|h
   ·omega
   ·exact h
  ·have:=fb r hr
   rcases bw.1 ((h r).2 (bw.2 (.inr hr))) with h|h
   ·omega
   ·exact h
def dh (acc:List Rg) (r:Rg):List Rg:=
 match acc with
 |[]=>[r]
 |k::rest=>if r.1≤k.2+1 then(k.1,max k.2 r.2)::rest else r::k::rest
theorem lh:∀(l acc:List Rg),(∀x∈l,x.1≤x.2)→l.Pairwise (fun x y=>x.1≤y.1)→(∀k∈acc.head?,∀x∈l,k.1≤x.1)→(∀x∈acc,x.1≤x.2)→acc.Pairwise (fun x y=>y.2+1<x.1)→
  (∀x∈l.foldl dh acc,x.1≤x.2)∧(l.foldl dh acc).Pairwise (fun x y=>y.2+1<x.1)∧∀r,c8 (l.foldl dh acc) r↔c8 acc r∨c8 l r
 |[],acc,_,_,_,h1,h2=>⟨h1,h2,fun r=>⟨.inl,fun h=>h.resolve_right (dC r)⟩⟩
 |x::l,acc,hl,hp,hk,h1,h2=>by
  rw[List.pairwise_cons] at hp;have hx:=hl x (List.mem_cons_self ..);have gP:∀y∈l,y.1≤y.2:=fun y hy=>hl y (List.mem_cons_of_mem _ hy);rw[List.foldl_cons]
  cases acc with
  |nil=>
   obtain⟨g1,g2,g3⟩:=lh l [x] gP hp.2 (fun k iU y hy=>by simp at iU;subst iU;exact hp.1 y hy) (fun y hy=>by simp at hy;subst hy;exact hx) (by simp);refine⟨g1,g2,fun r=>(g3 r).trans ?_⟩;rw[bw (l:=l),bw (l:=[])];constructor
   ·rintro((h|h)|h)
    ·exact .inr (.inl h)
    ·exact absurd h (dC r)
    ·exact .inr (.inr h)
   ·rintro(h|h|h)
    ·exact absurd h (dC r)
    ·exact .inl (.inl h)
    ·exact .inr h
  |cons k rest=>
   have WU:=hk k rfl x (List.mem_cons_self ..);have hkk:=h1 k (List.mem_cons_self ..);rw[List.pairwise_cons] at h2;unfold dh
   by_cases hc:x.1≤k.2+1
   ·simp only[if_pos hc]
    obtain⟨g1,g2,g3⟩:=lh l ((k.1,max k.2 x.2)::rest) gP hp.2 (fun q hq y hy=>by simp at hq;subst hq;have:=hp.1 y hy;simp only;omega) (fun y hy=>by
     rcases List.mem_cons.1 hy with rfl|hy
     ·simp only;omega
     ·exact h1 y (List.mem_cons_of_mem _ hy)) (by rw[List.pairwise_cons];exact⟨h2.1,h2.2⟩)
    refine⟨g1,g2,fun r=>(g3 r).trans ?_⟩;rw[bw (l:=rest),bw (l:=rest),bw (l:=l)];constructor
    ·rintro((h|h)|h)
     ·simp only at h
      by_cases hr:r≤k.2
      ·exact .inl (.inl ⟨h.1,hr⟩)
      ·exact .inr (.inl ⟨by omega,by omega⟩)
     ·exact .inl (.inr h)
     ·exact .inr (.inr h)
    ·rintro((h|h)|h|h)
     ·exact .inl (.inl ⟨h.1,by simp only;omega⟩)
     ·exact .inl (.inr h)
     ·exact .inl (.inl ⟨by simp only;omega,by simp only;omega⟩)
     ·exact .inr h
   ·simp only[if_neg hc]
    obtain⟨g1,g2,g3⟩:=lh l (x::k::rest) gP hp.2 (fun q hq y hy=>by simp at hq;subst hq;exact hp.1 y hy) (fun y hy=>by
     rcases List.mem_cons.1 hy with rfl|hy
     ·exact hx
     ·exact h1 y hy) (by
     rw[List.pairwise_cons];refine⟨fun y hy=>?_,by rw[List.pairwise_cons];exact h2⟩
     rcases List.mem_cons.1 hy with rfl|hy
     ·omega
     ·have:=h2.1 y hy;omega)
    refine⟨g1,g2,fun r=>(g3 r).trans ?_⟩;rw[bw (l:=k::rest),bw (l:=l)];constructor
    ·rintro((h|h)|h)
     ·exact .inr (.inl h)
     ·exact .inl h
     ·exact .inr (.inr h)
    ·rintro(h|h|h)
     ·exact .inl (.inr h)
     ·exact .inl (.inl h)
     ·exact .inr h
theorem vg {l:List Rg} (h1:∀x∈l,x.1≤x.2) (h2:l.Pairwise fun x y=>x.1≤y.1):canon (l.foldl dh []).reverse∧∀r,c8 (l.foldl dh []).reverse r↔c8 l r:=by
 obtain⟨g1,g2,g3⟩:=lh l [] h1 h2 (fun k hk=>by simp at hk) (fun x hx=>by simp at hx) List.Pairwise.nil;refine⟨⟨fun x hx=>g1 x (List.mem_reverse.1 hx),by rw[List.pairwise_reverse];exact g2⟩,fun r=>?_⟩;rw[mc (fun x=>List.mem_reverse) r,g3 r];exact⟨fun h=>h.resolve_left (dC r),.inr⟩
def fZ (r:Int):Prop:=0≤r∧r≤1114111∧¬(55296≤r∧r≤57343)
def dq (x:Rg):List Rg:=
 (if max (max x.1 0) 0≤min (min x.2 1114111) 55295 then[(max (max x.1 0) 0,min (min x.2 1114111) 55295)] else[])++
 (if max (max x.1 0) 57344≤min (min x.2 1114111) 1114111 then[(max (max x.1 0) 57344,min (min x.2 1114111) 1114111)] else[])
theorem nQ (x:Rg) (r:Int):c8 (dq x) r↔fZ r∧x.1≤r∧r≤x.2:=by
 unfold dq fZ;rw[tB]
 have one:∀(a b:Int),c8 (if a≤b then[(a,b)] else[]) r↔a≤r∧r≤b:=by
  intro a b
  split
  ·rw[bw];exact⟨fun h=>h.elim id fun h=>absurd h (dC r),.inl⟩
  ·exact⟨fun h=>absurd h (dC r),fun h=>by omega⟩
 rw[one,one];omega
theorem l0 (x:Rg):∀y∈dq x,y.1≤y.2∧0≤y.1∧y.2≤1114111:=by
 intro y hy;unfold dq at hy
 rcases List.mem_append.1 hy with h|h<;>split at h<;>simp at h<;>subst h<;>simp only<;>omega
theorem oc {l all:List Rg} (hp:∀x,x∈all↔x∈l.flatMap dq) (hs:all.Pairwise fun x y=>x.1≤y.1):canon (all.foldl dh []).reverse∧∀r,c8 (all.foldl dh []).reverse r↔fZ r∧c8 l r:=by
 have hle:∀x∈all,x.1≤x.2:=fun x hx=>by
  obtain⟨y,_,hy⟩:=List.mem_flatMap.1 ((hp x).1 hx);exact(l0 y x hy).1
 obtain⟨g1,g2⟩:=vg hle hs;refine⟨g1,fun r=>(g2 r).trans ((mc hp r).trans ?_)⟩;constructor
 ·rintro⟨y,hy,h⟩;obtain⟨x,hx,hy⟩:=List.mem_flatMap.1 hy;have:=(nQ x r).1 ⟨y,hy,h⟩;exact⟨this.1,x,hx,this.2⟩
 ·rintro⟨hr,x,hx,h⟩;obtain⟨y,hy,h'⟩:=(nQ x r).2 ⟨hr,h⟩;exact⟨y,List.mem_flatMap.2 ⟨x,hx,hy⟩,h'⟩
def fJ:List Rg→Int→Bool
 |[],_=>false
 |x::l,r=>(decide (x.1≤r) &&decide (r≤x.2))||fJ l r
theorem oD:∀(l:List Rg) (r:Int),fJ l r=true↔c8 l r
 |[],r=>⟨fun h=>(by cases h),fun h=>absurd h (dC r)⟩
 |x::l,r=>by
  rw[bw,←oD l r];simp[fJ]
def gg (x:Rg):List Int:=
 (if x.1≤x.2∧0≤x.1∧x.1≤1114111 then[x.1] else[])++(if x.1≤x.2∧0≤x.2∧x.2<1114111 then[x.2+1] else[])
def dR (acc:List Rg) (lo hi:Int):List Rg:=
 match acc with
 |[]=>[(lo,hi)]
 |k::rest=>if k.2+1=lo then(k.1,hi)::rest else(lo,hi)::k::rest
def J_ (l:List Rg) (yes:Bool) (a b:Int):Bool:=decide (a<b) &&(decide (a<55296)||decide (57343<a)) &&(fJ l a==yes)
def eF (l:List Rg) (yes:Bool):List Int→List Rg→List Rg
 |a::b::t,acc=>eF l yes (b::t) (if J_ l yes a b=true then dR acc a (b-1) else acc)
 |_,acc=>acc
theorem EP {l:List Rg} {m:List Int} {a b:Int} (hm:∀x∈l,∀e∈gg x,e≤a∨b≤e) (h1:55296≤a∨b≤55296) (h2:57344≤a∨b≤57344) (ha:0≤a) (hb:b≤1114112) {r:Int} (hr:a≤r) (N7:r<b):
  (fZ r↔¬(55296≤a∧a≤57343))∧(c8 l r↔c8 l a):=by
 refine⟨by unfold fZ;omega,?_,?_⟩
 ·rintro⟨x,hx,h3,h4⟩;refine⟨x,hx,?_,by omega⟩
  rcases Int.lt_or_le a x.1 with h|h
  ·have:=hm x hx x.1 (by unfold gg;rw[if_pos (by omega)];simp);omega
  ·exact h
 ·rintro⟨x,hx,h3,h4⟩;refine⟨x,hx,by omega,?_⟩
  rcases Int.lt_or_le x.2 r with h|h
  ·have:=hm x hx (x.2+1) (by unfold gg;rw[if_pos (c:=x.1≤x.2∧0≤x.2∧x.2<1114111) (by omega)];simp);omega
  ·exact h
theorem y7 {acc:List Rg} {lo hi:Int} (h1:∀x∈acc,x.1≤x.2) (h2:acc.Pairwise (fun x y=>y.2+1<x.1)) (h3:∀x∈acc,x.2<lo) (h4:lo≤hi):
  (∀x∈dR acc lo hi,x.1≤x.2)∧(dR acc lo hi).Pairwise (fun x y=>y.2+1<x.1)∧(∀x∈dR acc lo hi,x.2≤hi)∧∀r,c8 (dR acc lo hi) r↔c8 acc r∨(lo≤r∧r≤hi):=by
 cases acc with
 |nil=>
  refine⟨by simp[dR,h4],by simp[dR],by simp[dR],fun r=>?_⟩;simp only[dR];rw[bw];exact⟨fun h=>.inr (h.resolve_right (dC r)),fun h=>.inl (h.resolve_left (dC r))⟩
 |cons k rest=>
  have hk:=h1 k (List.mem_cons_self ..);have Kj:=h3 k (List.mem_cons_self ..);rw[List.pairwise_cons] at h2;unfold dR
  by_cases hc:k.2+1=lo
  ·simp only[if_pos hc];refine⟨fun x hx=>?_,?_,fun x hx=>?_,fun r=>?_⟩
   ·rcases List.mem_cons.1 hx with rfl|hx
    ·simp only;omega
    ·exact h1 x (List.mem_cons_of_mem _ hx)
   ·rw[List.pairwise_cons];exact⟨h2.1,h2.2⟩
   ·rcases List.mem_cons.1 hx with rfl|hx
    ·simp
    ·have:=h3 x (List.mem_cons_of_mem _ hx);omega
   ·rw[bw (l:=rest),bw (l:=rest)];simp only;constructor
    ·rintro(h|h)
     ·by_cases hh:r≤k.2
      ·exact .inl (.inl ⟨h.1,hh⟩)
      ·exact .inr (by omega)
     ·exact .inl (.inr h)
    ·rintro((h|h)|h)
     ·exact .inl (by omega)
     ·exact .inr h
     ·exact .inl (by omega)
  ·simp only[if_neg hc];refine⟨fun x hx=>?_,?_,fun x hx=>?_,fun r=>?_⟩
   ·rcases List.mem_cons.1 hx with rfl|hx
    ·exact h4
    ·exact h1 x hx
   ·rw[List.pairwise_cons];refine⟨fun y hy=>?_,by rw[List.pairwise_cons];exact h2⟩
    rcases List.mem_cons.1 hy with rfl|hy
    ·simp only;omega
    ·have:=h2.1 y hy;simp only;omega
   ·rcases List.mem_cons.1 hx with rfl|hx
    ·exact Int.le_refl _
    ·have:=h3 x hx;omega
   ·rw[bw];exact⟨fun h=>h.elim .inr .inl,fun h=>h.elim .inr .inl⟩
theorem l7 (l:List Rg) (yes:Bool):∀(m:List Int) (acc:List Rg),m.Pairwise (·≤·)→(∀a∈m,0≤a∧a≤1114112)→
  (∀q:Int,(q=55296∨q=57344∨∃x∈l,q∈gg x)→q∈m∨∀a∈m,q≤a)→(∀x∈acc,x.1≤x.2)→acc.Pairwise (fun x y=>y.2+1<x.1)→(∀x∈acc,∀a∈m.head?,x.2<a)→
  (∀x∈eF l yes m acc,x.1≤x.2)∧(eF l yes m acc).Pairwise (fun x y=>y.2+1<x.1)∧
  ∀r,c8 (eF l yes m acc) r↔c8 acc r∨(fZ r∧(c8 l r↔yes=true)∧(∃a∈m.head?,a≤r)∧∃b∈m.getLast?,r<b)
 |[],acc,_,_,_,h1,h2,_=>⟨h1,h2,fun r=>⟨.inl,fun h=>h.elim id (by rintro⟨_,_,⟨a,h,_⟩,_⟩;simp at h)⟩⟩
 |[a],acc,_,_,_,h1,h2,_=>⟨h1,h2,fun r=>⟨.inl,fun h=>h.elim id (by rintro⟨_,_,⟨a',h,h'⟩,b,hb,eu⟩;simp at h hb;omega)⟩⟩
 |a::b::t,acc,hs,hr,hm,h1,h2,h3=>by
  have Lq:=hs;rw[List.pairwise_cons] at hs;have hab:a≤b:=hs.1 b (List.mem_cons_self ..);have ha:=hr a (List.mem_cons_self ..);have hb:=hr b (List.mem_cons_of_mem _ (List.mem_cons_self ..))
  have key:∀q:Int,(q=55296∨q=57344∨∃x∈l,q∈gg x)→q≤a∨b≤q:=by
   intro q hq
   rcases hm q hq with h|h
   ·rcases List.mem_cons.1 h with rfl|h
    ·exact .inl (Int.le_refl _)
    ·rcases List.mem_cons.1 h with rfl|h
     ·exact .inr (Int.le_refl _)
     ·have:=(List.pairwise_cons.1 hs.2).1 q h;exact .inr this
   ·exact .inl (h a (List.mem_cons_self ..))
  have RU:∀r,a≤r→r<b→(fZ r↔¬(55296≤a∧a≤57343))∧(c8 l r↔c8 l a):=fun r h h'=>
   EP (m:=[]) (fun x hx e he=>key e (.inr (.inr ⟨x,hx,he⟩))) (by have:=key 55296 (.inl rfl);omega) (by have:=key 57344 (.inr (.inl rfl));omega) ha.1 hb.2 h h'
  have RD:∀q:Int,(q=55296∨q=57344∨∃x∈l,q∈gg x)→q∈b::t∨∀c∈b::t,q≤c:=by
   intro q hq
   rcases hm q hq with h|h
   ·rcases List.mem_cons.1 h with rfl|h
    ·exact .inr hs.1
    ·exact .inl h
   ·exact .inr fun c hc=>h c (List.mem_cons_of_mem _ hc)
  have wU:∀c∈b::t,0≤c∧c≤1114112:=fun c hc=>hr c (List.mem_cons_of_mem _ hc);have mU:∀r,(∃e∈(a::b::t).getLast?,r<e)↔∃e∈(b::t).getLast?,r<e:=fun r=>by rw[List.getLast?_cons_cons]
  have hbl:∃e∈(b::t).getLast?,b≤e:=by
   refine⟨(b::t).getLast (by simp),by rw[List.getLast?_eq_some_getLast (by simp)];simp,?_⟩;have:=List.getLast_mem (l:=b::t) (by simp)
   rcases List.mem_cons.1 this with h|h
   ·rw[h];exact Int.le_refl _
   ·exact(List.pairwise_cons.1 hs.2).1 _ h
  have dz:J_ l yes a b=true↔a<b∧¬(55296≤a∧a≤57343)∧(c8 l a↔yes=true):=by
   unfold J_;rw[←oD];cases fJ l a<;>cases yes<;>simp<;>omega
  unfold eF
  by_cases hc:J_ l yes a b=true
  ·rw[if_pos hc];obtain⟨c1,c2,c3⟩:=dz.1 hc;obtain⟨p1,p2,p3,p4⟩:=y7 h1 h2 (fun x hx=>h3 x hx a rfl) (show a≤b-1 by omega);obtain⟨g1,g2,g3⟩:=l7 l yes (b::t) _ hs.2 wU RD p1 p2 (fun x hx c hc=>by simp at hc;subst hc;have:=p3 x hx;omega);refine⟨g1,g2,fun r=>(g3 r).trans ?_⟩;rw[p4,mU];constructor
   ·rintro((h|h)|⟨h4,h5,⟨c,hc,h6⟩,h7⟩)
    ·exact .inl h
    ·obtain⟨k1,k2⟩:=RU r h.1 (by omega);obtain⟨e,he,WY⟩:=hbl;exact .inr ⟨k1.2 c2,k2.trans c3,⟨a,rfl,h.1⟩,e,he,by omega⟩
    ·simp at hc;subst hc;exact .inr ⟨h4,h5,⟨a,rfl,by omega⟩,h7⟩
   ·rintro(h|⟨h4,h5,⟨c,hc,h6⟩,h7⟩)
    ·exact .inl (.inl h)
    ·simp at hc;subst hc
     by_cases N7:r<b
     ·exact .inl (.inr (by omega))
     ·exact .inr ⟨h4,h5,⟨b,rfl,by omega⟩,h7⟩
  ·rw[if_neg hc];obtain⟨g1,g2,g3⟩:=l7 l yes (b::t) acc hs.2 wU RD h1 h2 (fun x hx c hc=>by simp at hc;subst hc;have:=h3 x hx a rfl;omega);refine⟨g1,g2,fun r=>(g3 r).trans ?_⟩;rw[mU];constructor
   ·rintro(h|⟨h4,h5,⟨c,hc,h6⟩,h7⟩)
    ·exact .inl h
    ·simp at hc;subst hc;exact .inr ⟨h4,h5,⟨a,rfl,by omega⟩,h7⟩
   ·rintro(h|⟨h4,h5,⟨c,vF,h6⟩,h7⟩)
    ·exact .inl h
    ·simp at vF;subst vF
     by_cases N7:r<b
     ·exfalso
      obtain⟨k1,k2⟩:=RU r h6 N7;exact hc (dz.2 ⟨by omega,k1.1 h4,k2.symm.trans h5⟩)
     ·exact .inr ⟨h4,h5,⟨b,rfl,by omega⟩,h7⟩
theorem o3 {l:List Rg} {m:List Int} (yes:Bool) (hp:∀q,q∈m↔q=0∨q=55296∨q=57344∨q=1114112∨∃x∈l,q∈gg x) (hs:m.Pairwise (·≤·)):
  canon (eF l yes m []).reverse∧∀r,c8 (eF l yes m []).reverse r↔fZ r∧(c8 l r↔yes=true):=by
 have hr:∀a∈m,0≤a∧a≤1114112:=by
  intro a ha
  rcases(hp a).1 ha with h|h|h|h|⟨x,hx,h⟩
  ·omega
  ·omega
  ·omega
  ·omega
  ·unfold gg at h
   rcases List.mem_append.1 h with h|h<;>split at h<;>simp at h<;>omega
 obtain⟨g1,g2,g3⟩:=l7 l yes m [] hs hr (fun q hq=>.inl ((hp q).2 (by rcases hq with h|h|h;exact .inr (.inl h);exact .inr (.inr (.inl h));exact .inr (.inr (.inr (.inr h)))))) (fun x hx=>by simp at hx) List.Pairwise.nil (fun x hx=>by simp at hx);have h0:(0:Int)∈m:=(hp 0).2 (.inl rfl);have h9:(1114112:Int)∈m:=(hp _).2 (.inr (.inr (.inr (.inl rfl))))
 have hh:∃a∈m.head?,a≤0:=by
  cases m with
  |nil=>cases h0
  |cons a t=>
   refine⟨a,rfl,?_⟩
   rcases List.mem_cons.1 h0 with h|h
   ·omega
   ·exact(List.pairwise_cons.1 hs).1 _ h
 have hl:∃b∈m.getLast?,1114112≤b:=by
  have hne:m≠[]:=List.ne_nil_of_mem h0;refine⟨m.getLast hne,by rw[List.getLast?_eq_some_getLast hne];simp,?_⟩;obtain⟨i,hi,he⟩:=List.getElem_of_mem h9;rw[List.getLast_eq_getElem,←he]
  rcases Nat.lt_or_ge i (m.length-1) with h|h
  ·exact(List.pairwise_iff_getElem.1 hs) i (m.length-1) hi (by omega) h
  ·have:i=m.length-1:=by omega
   subst this;exact Int.le_refl _
 refine⟨⟨fun x hx=>g1 x (List.mem_reverse.1 hx),by rw[List.pairwise_reverse];exact g2⟩,fun r=>?_⟩;rw[mc (fun x=>List.mem_reverse) r,g3 r];constructor
 ·rintro(h|⟨h1,h2,_⟩)
  ·exact absurd h (dC r)
  ·exact⟨h1,h2⟩
 ·rintro⟨h1,h2⟩;obtain⟨a,ha,W2⟩:=hh;obtain⟨b,hb,eu⟩:=hl;have:=h1;unfold fZ at this;exact .inr ⟨h1,h2,⟨a,ha,by omega⟩,b,hb,by omega⟩
end Go.V
namespace Go.Proofs.Ytbdilgkfnacahaa
open Go.V Go
def jH (fr:Go.V.Fr) (k:Nat):Go.V.D:=Go.V.nth .bA fr.loc k
def aw (x:Rg):List D:=[.int .i32 x.1,.int .i32 x.2]
def bt (l:List Rg):D:=.sl (l.map fun x=>.agg (aw x))
theorem fw (l:List Rg):D.sl ((l.map aw).map (ke 2))=bt l:=by
 unfold bt;rw[List.map_map];rfl
theorem eT (l:List Rg):∀e∈l.map aw,∀d∈e,ch d=true:=by
 intro e he d hd;obtain⟨x,_,rfl⟩:=List.mem_map.1 he;simp only[aw,List.mem_cons,List.not_mem_nil,or_false] at hd
 rcases hd with rfl|rfl<;>rfl
theorem uV (l:List Rg):refs (l.map aw).flatten=0:=by
 induction l with
 |nil=>rfl
 |cons x l ih=>simp only[List.map_cons,List.flatten_cons,aw,List.cons_append,List.nil_append,refs,D.ref,ih];rfl
theorem l5 (l:List Rg):∀e∈l.map aw,e.length=2:=by
 intro e he;obtain⟨x,_,rfl⟩:=List.mem_map.1 he;rfl
theorem dZ (st:St) (l:List Rg):V.Rows st 2 (bt l) (l.map aw):=by
 rw[←fw];exact Rows.n9 (l5 l) (eT l)
theorem df {l:List Rg} {i:Nat} {q:Rg} (h:l[i]?=some q):(l.map aw)[i]?=some (aw q):=by rw[List.getElem?_map,h];rfl
theorem pO (l:List Rg) (q:Rg) (r:Int):fJ (l++[q]) r=(fJ l r||(decide (q.1≤r) &&decide (r≤q.2))):=by
 induction l with
 |nil=>simp[fJ]
 |cons x l ih=>simp only[List.cons_append,fJ,ih,Bool.or_assoc]
theorem tV {l:List Rg} {i:Nat} {r:Int} (h:fJ (l.take i) r=true):fJ l r=true:=by
 rw[oD] at h⊢;obtain⟨x,h1,h2⟩:=h;exact⟨x,List.mem_of_mem_take h1,h2⟩
theorem l4 {s0:St} {x:D} {l:List Rg} {r:Int} (hx:V.Rows s0 2 x (l.map aw)) (hl:l.length≤1073741824):Ev pv 60 [x,.int .i32 r] s0 (.bool (fJ l r)) s0:=by
 refine Ev.j8 rfl P0 rfl rfl rfl ?_;dsimp only[u3,u4,List.length,Nat.reduceSub,Nat.reduceAdd,w1,w2];obtain⟨bN,hF,hH⟩:=ri s0;generalize aj .ro s0=S at*;have hx:=Arg.of hx bN;refine qq<|qj fun K hK=>qm ?_;refine qe hK<|qq<|qq<|qj fun K hK=>qm ?_;refine qe hK<|af.block<|af.loop (fun mm fr st=>∃(i:Nat),fr.clean=⟨6,[x,.int .i32 r,jH fr 2,jH fr 3,.bool false,.int .i64 (i:Nat)],[]⟩∧Has s0.bs.length S st []∧(i+mm=l.length)∧(fJ (l.take i) r=false)) (l.length) ?_ ?_
 ·exact⟨0,rfl,hH,by omega,rfl⟩
 rintro mm fr st ⟨i,hfr,hH,hi,hn⟩;rw[hfr];clear hfr;generalize jH fr=ee;clear fr;refine qq<|qq<|qj fun K hK=>qm ?_;refine qm ?_;refine qn ?_;simp only[List.length_map];refine qg ?_;refine qe hK ?_;refine af.cond (by rfl) (fun h1=>?_) (fun h1=>?_)<;>try simp only[decide_eq_true_eq,decide_eq_false_iff_not] at h1
 ·refine af.skip ?_
  obtain⟨q,hq⟩:∃q,l[i]?=some q:=⟨l[i]'(by omega),List.getElem?_eq_getElem _⟩
  have hr:=df hq;refine qq<|af.block<|qq<|af.eY 27 (.bool (decide (r≥q.1) &&decide (r≤q.2))) [] ?_ (fun ff tmp d_=>?_)
  ·refine qm ?_;refine qm ?_;refine qm ?_;refine qr fun Ny Je=>?_;refine qf (fo:=0) fun Q2 LG=>?_;refine qR ?_;refine qg ?_;refine qm ?_;refine ae.two 19 rfl (fun et=>?_) (fun et=>?_)
   ·refine qm ?_ (hg:=wi et);refine qm ?_ (hg:=wi et);refine qm ?_ (hg:=wi et);refine qr (fun Q1 LF=>?_) (hg:=wi et);refine qf (fo:=1) (fun MS Em=>?_) (hg:=wi et);refine qR ?_ (hg:=wi et);refine qg ?_ (hg:=wi et);refine qt et ?_;refine ae.nil (bq ?_ ?_)
    ·dsimp only[aD,List.foldl,nth,u2,u1]
     all_goals(first|rfl|simp)
    ·dsimp only[Fr.au,Fr.put,Fr.clean,Fr.ev,Fr.get,nth,V.look,u1,u2,v1,v2,v3,v4,v5,v6,v7,List.length,u3,u4,Nat.reduceSub,Nat.reduceAdd,List.map]
     all_goals(simp[et];done)
   ·refine qs ?_ (hg:=wn et);refine qs ?_ (hg:=wn et);refine qs ?_ (hg:=wn et);refine qs ?_ (hg:=wn et);refine qs ?_ (hg:=wn et);refine qs ?_ (hg:=wn et);refine qs ?_ (hg:=wn et);refine qu et ?_;refine ae.nil (bq ?_ ?_)
    ·dsimp only[aD,List.foldl,nth,u2,u1]
     all_goals(first|rfl|simp)
    ·dsimp only[Fr.au,Fr.put,Fr.clean,Fr.ev,Fr.get,nth,V.look,u1,u2,v1,v2,v3,v4,v5,v6,v7,List.length,u3,u4,Nat.reduceSub,Nat.reduceAdd,List.map]
     all_goals(simp[et];done)
  dsimp only[aD,List.foldl,nth,u2,u1];dsimp only[Fr.au,Fr.put,Fr.clean,Fr.ev,Fr.get,nth,V.look,u1,u2,v1,v2,v3,v4,v5,v6,v7,List.length,u3,u4,Nat.reduceSub,Nat.reduceAdd,List.map]
  have ht:fJ (l.take (i+1)) r=(decide (r≥q.1) &&decide (r≤q.2)):=by
   rw[List.take_add_one,hq,Option.toList_some,pO,hn];simp
  refine qc (fun h2=>?_) (fun h2=>?_)<;>try simp only[cs] at h2
  ·refine qq<|qj fun K hK=>qm ?_;refine qe hK ?_;rw[tV (i:=i+1) (by rw[ht];simp[h2])];refine af.ret ⟨rx,_,rfl,rl bN hH (rfl)⟩
  ·refine af.skip<|qj fun K hK=>qm ?_;refine qA ?_;refine qm ?_;refine qe hK ?_;exact⟨mm-1,by omega,⟨i+1,rfl,hH,by omega,by rw[ht];simp[h2]⟩⟩
 ·refine af.exit<|qq<|qj fun K hK=>qm ?_;refine qe hK ?_;have:fJ l r=false:=by rw[←hn,List.take_of_length_le (by omega)]
  rw[this];refine af.ret ⟨rx,_,rfl,rl bN hH (rfl)⟩
theorem JB {s0:St} {x:D} {l:List Rg} {r:Int} (hx:V.Rows s0 2 x (l.map aw)) (hl:l.length≤1073741824):Ev pv 87 [x,.int .i32 r] s0 (.bool (fJ l r)) s0:=by
 refine Ev.j8 rfl PF rfl rfl rfl ?_;dsimp only[u3,u4,List.length,Nat.reduceSub,Nat.reduceAdd,w1,w2];obtain⟨bN,hF,hH⟩:=ri s0;generalize aj .ro s0=S at*;have hx:=Arg.of hx bN;refine qq<|qj fun K hK=>qm ?_;refine qe hK<|qq<|qq<|qj fun K hK=>qm ?_;refine qn ?_;simp only[List.length_map];refine qm ?_;refine qe hK<|af.block<|af.loop (fun mm fr st=>∃(i:Nat),fr.clean=⟨10,[x,.int .i32 r,jH fr 2,jH fr 3,.bool false,jH fr 5,jH fr 6,x,.int .i64 (l.length:Nat),.int .i64 (i:Nat)],[]⟩∧Has s0.bs.length S st []∧(i+mm=l.length)∧(fJ (l.take i) r=false)) (l.length) ?_ ?_
 ·exact⟨0,rfl,hH,by omega,rfl⟩
 rintro mm fr st ⟨i,hfr,hH,hi,hn⟩;rw[hfr];clear hfr;generalize jH fr=ee;clear fr;refine qq<|qj fun K hK=>qg ?_;refine qe hK<|qq ?_;refine af.cond (by rfl) (fun h1=>?_) (fun h1=>?_)<;>try simp only[decide_eq_true_eq,decide_eq_false_iff_not] at h1
 ·refine af.skip ?_
  obtain⟨q,hq⟩:∃q,l[i]?=some q:=⟨l[i]'(by omega),List.getElem?_eq_getElem _⟩
  have hr:=df hq;refine qq<|af.block<|qq<|qj fun K hK=>qr fun Q4 LJ=>?_;refine ae.dt rfl (ev rfl) (by assumption) rfl (ag rfl _) ?_;refine qa hH fun k6 st Et hH=>?_;refine qS hH aB fun st hH=>?_;dsimp only[u2,u1,u3,u4,setMany,u5,u6,D.cells,Nat.reduceAdd,aw] at hH;refine qe hK<|qq<|af.eY 22 (.bool (decide (r≥q.1) &&decide (r≤q.2))) [] ?_ (fun ff tmp d_=>?_)
  ·refine qm ?_;refine qp (o:=0) ?_;refine ql hH aB ?_;refine qg ?_;refine qm ?_;refine ae.two 17 rfl (fun eV=>?_) (fun eV=>?_)
   ·refine qm ?_ (hg:=wi eV);refine qp (o:=1) ?_ (hg:=wi eV);refine ql hH aB ?_ (hg:=wi eV);refine qg ?_ (hg:=wi eV);refine qt eV ?_;refine ae.nil (bq ?_ ?_)
    ·dsimp only[aD,List.foldl,nth,u2,u1]
     all_goals(first|rfl|simp)
    ·dsimp only[Fr.au,Fr.put,Fr.clean,Fr.ev,Fr.get,nth,V.look,u1,u2,v1,v2,v3,v4,v5,v6,v7,List.length,u3,u4,Nat.reduceSub,Nat.reduceAdd,List.map]
     all_goals(simp[eV];done)
   ·refine qs ?_ (hg:=wn eV);refine qs ?_ (hg:=wn eV);refine qs ?_ (hg:=wn eV);refine qs ?_ (hg:=wn eV);refine qu eV ?_;refine ae.nil (bq ?_ ?_)
    ·dsimp only[aD,List.foldl,nth,u2,u1]
     all_goals(first|rfl|simp)
    ·dsimp only[Fr.au,Fr.put,Fr.clean,Fr.ev,Fr.get,nth,V.look,u1,u2,v1,v2,v3,v4,v5,v6,v7,List.length,u3,u4,Nat.reduceSub,Nat.reduceAdd,List.map]
     all_goals(simp[eV];done)
  dsimp only[aD,List.foldl,nth,u2,u1];dsimp only[Fr.au,Fr.put,Fr.clean,Fr.ev,Fr.get,nth,V.look,u1,u2,v1,v2,v3,v4,v5,v6,v7,List.length,u3,u4,Nat.reduceSub,Nat.reduceAdd,List.map]
  have ht:fJ (l.take (i+1)) r=(decide (r≥q.1) &&decide (r≤q.2)):=by
   rw[List.take_add_one,hq,Option.toList_some,pO,hn];simp
  refine qc (fun h2=>?_) (fun h2=>?_)<;>try simp only[cs] at h2
  ·refine qq<|qj fun K hK=>qm ?_;refine qe hK ?_;rw[tV (i:=i+1) (by rw[ht];simp[h2])];refine af.ret ⟨rx,_,rfl,rl bN hH (rfl)⟩
  ·refine af.skip<|qj fun K hK=>qA ?_;refine qm ?_;refine qe hK ?_;exact⟨mm-1,by omega,⟨i+1,rfl,(hH.drop 1),by omega,by rw[ht];simp[h2]⟩⟩
 ·refine af.exit<|qq<|qj fun K hK=>qm ?_;refine qe hK ?_;have:fJ l r=false:=by rw[←hn,List.take_of_length_le (by omega)]
  rw[this];refine af.ret ⟨rx,_,rfl,rl bN hH (rfl)⟩
def aY (fr:Go.V.Fr) (k:Nat):Go.V.D:=Go.V.nth .bA fr.loc k
def eI:List Rg:=[(0,55295),(57344,1114111)]
def o4 (lo hi:Int) (p:Rg):List Rg:=if max lo p.1≤min hi p.2 then[(max lo p.1,min hi p.2)] else[]
theorem qO (q:Rg):dq q=eI.flatMap (o4 (max q.1 0) (min q.2 1114111)):=by
 simp[dq,eI,o4]
theorem yP {s0:St} (q:Rg):Ev pv 91 [.agg (aw q)] s0 (bt (dq q)) s0:=by
 refine Ev.j8 rfl PB rfl rfl rfl ?_;dsimp only[u3,u4,List.length,Nat.reduceSub,Nat.reduceAdd,w1,w2];obtain⟨bN,hF,hH⟩:=ri s0;generalize aj .ro s0=S at*;refine qq<|qj fun K hK=>qb hH fun k1 st o6 hH=>?_;dsimp only[u2,u1,u3,u4,setMany,u5,u6,D.cells,Nat.reduceAdd,aw] at hH;refine qm ?_;refine qe hK<|qq<|qj fun K hK=>qp (o:=0) ?_;refine ql hH aB ?_;refine ae.IL (t1:=0) (t2:=0) rfl (ev rfl) (ev rfl) (by dsimp only[Fr.put,u1,u2]<;>rfl) ?_;refine qp (o:=1) ?_;refine ql hH aB ?_;refine ae.IK (t1:=0) (t2:=0) rfl (ev rfl) (ev rfl) (by dsimp only[Fr.put,u1,u2]<;>rfl) ?_;refine qp (o:=0) ?_;refine qT hH aB fun st hH=>?_;dsimp only[u2,u1,u3,u4,setMany,u5,u6,D.cells,Nat.reduceAdd,aw] at hH;refine qp (o:=1) ?_;refine qT hH aB fun st hH=>?_;dsimp only[u2,u1,u3,u4,setMany,u5,u6,D.cells,Nat.reduceAdd,aw] at hH;refine qe hK ?_;generalize uE:max q.1 0=lo at*;generalize w5:min q.2 1114111=hi at*;refine qq<|qj fun K hK=>qm ?_;refine qe hK ?_;have hH:=hH.fx 2;refine qq<|qq<|qj fun K hK=>qg ?_;refine qg ?_;refine qh (s:=2) (vs:=[_,_]) hH fun D8 st OW hH=>?_;dsimp only[u2,u1,u3,u4,setMany,u5,u6,D.cells,Nat.reduceAdd,aw] at hH;refine qn ?_ (hR:=hH.rows aB);simp only[List.length_map,List.length_cons,List.length_nil];refine qm ?_;refine qe hK<|af.block<|af.loop (fun mm fr st=>∃(i:Nat) (x:D),fr.clean=⟨20,[.agg (aw q),.ptr k1 0 0,.nul,x,aY fr 4,aY fr 5,aY fr 6,aY fr 7,aY fr 8,aY fr 9,aY fr 10,aY fr 11,aY fr 12,aY fr 13,aY fr 14,aY fr 15,aY fr 16,.win D8 0 0 2 2,.int .i64 2,.int .i64 (i:Nat)],[]⟩∧Has s0.bs.length S st [.aT (.win D8 0 0 2 2) 2 (eI.map aw),.aT x 2 (((eI.take i).flatMap (o4 lo hi)).map aw),.box k1 (.mem 0 false [.int .i32 lo,.int .i32 hi])]∧(i+mm=2)∧(((eI.take i).flatMap (o4 lo hi)).length≤i)) (2) ?_ ?_
 ·exact⟨0,.nul,rfl,hH,by omega,by simp⟩
 rintro mm fr st ⟨i,x,hfr,hH,hij,hb⟩;rw[hfr];clear hfr;generalize aY fr=ee;clear fr;refine qq<|qj fun K hK=>qg ?_;refine qe hK<|qq ?_;refine af.cond (by rfl) (fun h1=>?_) (fun h1=>?_)<;>try simp only[decide_eq_true_eq,decide_eq_false_iff_not] at h1
 ·refine af.skip ?_
  obtain⟨p,hp⟩:∃p,eI[i]?=some p:=⟨eI[i]'(by simp[eI];omega),List.getElem?_eq_getElem _⟩
  have hr:=df hp;refine qq<|af.block<|qq<|qj fun K hK=>qi hH aB fun K3 zK=>?_;refine ae.ra hH rfl (ev rfl) (by assumption) (by exact aB) (by assumption) rfl (ag rfl _) ?_;refine qa hH fun k5 st L2 hH=>?_;refine qS hH aB fun st hH=>?_;dsimp only[u2,u1,u3,u4,setMany,u5,u6,D.cells,Nat.reduceAdd,aw] at hH;refine qe hK<|qq<|qj fun K hK=>qp (o:=0) ?_;refine ql hH gm ?_;refine qp (o:=0) ?_;refine ql hH aB ?_;refine ae.IL (t1:=0) (t2:=0) rfl (ev rfl) (ev rfl) (ag rfl _) ?_;refine qp (o:=1) ?_;refine ql hH gm ?_;refine qp (o:=1) ?_;refine ql hH aB ?_;refine ae.IK (t1:=0) (t2:=0) rfl (ev rfl) (ev rfl) (ag rfl _) ?_;refine qg ?_;refine qa hH fun k6 st Et hH=>?_;refine qS hH aB fun st hH=>?_;dsimp only[u2,u1,u3,u4,setMany,u5,u6,D.cells,Nat.reduceAdd,aw] at hH;refine qe hK<|qq<|qj fun K hK=>qp (o:=0) ?_;refine ql hH aB ?_;refine qp (o:=1) ?_;refine ql hH aB ?_;refine qg ?_;refine qe hK ?_;refine af.cond (by rfl) (fun h2=>?_) (fun h2=>?_)<;>try simp only[decide_eq_true_eq,decide_eq_false_iff_not] at h2
  ·refine qj fun K hK=>qm ?_;refine ae.bF (m:=2) hH rfl (ev rfl) (by exact aB) (by dsimp only[List.drop_succ_cons,List.drop_zero,List.take_succ_cons,List.take_zero,aw]<;>rfl) rfl rfl (ag rfl _) ?_;refine qh (s:=2) (vs:=[_]) hH fun Q_ st L3 hH=>?_;refine ae.bG (s:=2) hH rfl (ev rfl) (ev rfl) (by exact iZ) (by exact hH.rows (by exact aB)) rfl rfl rfl rfl rfl rfl rfl ⟨(Nat.le_of_ble_eq_true rfl),(Nat.le_of_ble_eq_true rfl)⟩ (fun _=>(ag rfl _)) (by simp only[List.length_cons,List.length_nil,List.length_map]<;>omega) (by exact .inl hF) (fun Kr st hH=>?_);dsimp only[u2,u1,u3,u4,setMany,u5,u6,D.cells,Nat.reduceAdd,aw] at hH;refine qm ?_;refine qe hK<|qj fun K hK=>qA ?_;refine qm ?_;refine qe hK ?_
   have h3:(eI.take (i+1)).flatMap (o4 lo hi)=(eI.take i).flatMap (o4 lo hi)++[(max lo p.1,min hi p.2)]:=by
    rw[List.take_add_one,hp,List.flatMap_append];simp[o4,h2]
   exact⟨mm-1,by omega,⟨i+1,Kr,rfl,(by rw[h3,List.map_append];exact hH.drop 3),by omega,by rw[h3];simp only[List.length_append,List.length_cons,List.length_nil];omega⟩⟩
  ·refine af.skip<|qj fun K hK=>qA ?_;refine qm ?_;refine qe hK ?_
   have h3:(eI.take (i+1)).flatMap (o4 lo hi)=(eI.take i).flatMap (o4 lo hi):=by
    rw[List.take_add_one,hp,List.flatMap_append];simp[o4,h2]
   exact⟨mm-1,by omega,⟨i+1,x,rfl,(by rw[h3];exact hH.drop 2),by omega,by rw[h3];omega⟩⟩
 ·refine af.exit<|qq<|qj fun K hK=>qm ?_;refine qm ?_;refine qe hK ?_;rw[←fw];have h3:eI.take i=eI:=List.take_of_length_le (by simp[eI];omega);rw[h3] at hH;refine af.ret ⟨rx,_,rfl,rl bN hH ?_⟩;refine Eq.trans (hH.freeze bu (eT _) (n:=15) (by decide)) ?_;rw[qO,uE,w5]
theorem xA (q x:Rg) (h:x∈dq q):0≤x.1∧x.1≤1114111:=by
 obtain⟨h1,h2,h3⟩:=l0 q x h;omega
theorem nR (q:Rg):(dq q).length≤2:=by
 unfold dq;split<;>split<;>simp
theorem gT (l:List Rg):(l.flatMap dq).length≤2*l.length:=by
 induction l with
 |nil=>simp
 |cons x l ih=>simp only[List.flatMap_cons,List.length_append,List.length_cons];have:=nR x;omega
theorem pe:∀{l:List Rg},(∀x∈l,0≤x.1∧x.1≤1114111)→∃m:List Rs,eE m=(l.map aw).flatten∧m.map (fun x=>(x.lo,x.hi))=l
 |[],_=>⟨[],rfl,rfl⟩
 |x::l,h=>by
  obtain⟨m,h1,h2⟩:=pe (l:=l) fun y hy=>h y (List.mem_cons_of_mem _ hy);obtain⟨h3,h4⟩:=h x (List.mem_cons_self ..);exact⟨⟨x.1,x.2,h3,h4⟩::m,by simp only[eE,h1,List.map_cons,List.flatten_cons,aw,List.cons_append,List.nil_append],by simp[h2]⟩
theorem vL (m:List Rs):eE m=((m.map fun x=>((x.lo,x.hi):Rg)).map aw).flatten:=by
 induction m with
 |nil=>rfl
 |cons x m ih=>simp only[eE,ih,List.map_cons,List.flatten_cons,aw,List.cons_append,List.nil_append]
theorem z8 {N:Nat} {S st:St} {H:List cz} {j:Nat} {x:D} {l:List Rg} (hH:Has N S st H) (hj:H[j]?=some (.aT x 2 (l.map aw))) (h0:l=[]→x=.nul) (hl:l.length≤1073741824) (hr:∀y∈l,0≤y.1∧y.1≤1114111):
  ∃(ai:St) (l':List Rg),Ev pv 92 [x,.fn 93 []] st (.tup []) ai∧Has N S ai (H.set j (.aT x 2 (l'.map aw)))∧l'.Perm l∧l'.Pairwise fun a b=>a.1≤b.1:=by
 obtain⟨m,h1,h2⟩:=pe hr;obtain⟨h3,h4⟩:=srt_facts m;have x6:m.length=l.length:=by rw[←h2];simp
 have hperm:((srt m).map fun x=>((x.lo,x.hi):Rg)).Perm l:=by rw[←h2];exact h3.map _
 have ku:((srt m).map fun x=>((x.lo,x.hi):Rg)).Pairwise fun a b=>a.1≤b.1:=by rw[List.pairwise_map];exact h4
 have hlen:(srt m).length=l.length:=h3.length_eq.trans x6;have hown:=hH.own hj;generalize vB:l.map aw=es at*;have sr:es.length=l.length:=by rw[←vB];simp
 cases hown with
 |nul=>
  have LX:l=[]:=by cases l with|nil=>rfl|cons _ _=>simp at sr
  refine⟨st,(srt m).map fun x=>(x.lo,x.hi),Ev.iL rfl rfl,?_,hperm,ku⟩
  have:(srt m).map (fun x=>((x.lo,x.hi):Rg))=[]:=by
   cases hs:srt m with
   |nil=>rfl
   |cons a b=>rw[hs,LX] at hlen;simp at hlen
  rw[this];exact hH.xr hj (fun _ _ _=>rfl) (Nat.le_refl _) rfl rfl .nul (fun k hk=>.inl hk) fun k hk=>by simp only[cz.aT,D.ref] at hk;omega
 |win k aC off es c hm hle hc he=>
  have hne:l≠[]:=fun e=>by have:=h0 e;cases this
  have rG:1≤l.length:=by cases l with|nil=>exact absurd rfl hne|cons _ _=>simp
  have hk:=(hH.ok j _ hj).2 k (by simp only[cz.aT,D.ref]);have vC:(eE (srt m)).length=es.length*2:=by rw[lA,hlen,sr];omega
  have hwr:st.wr k aC off (eE (srt m))=some ⟨st.bs.set k (.mem aC true (c.take off++eE (srt m)++c.drop (off+(eE (srt m)).length))),st.flr,st.ro⟩:=
   lV hm (by omega) (jR hH hk.1 (.inr (pU _)))
  refine⟨⟨st.bs.set k (.mem aC true (c.take off++eE (srt m)++c.drop (off+(eE (srt m)).length))),st.flr,st.ro⟩,(srt m).map fun x=>(x.lo,x.hi),Ev.iL rfl ?_,?_,hperm,ku⟩
  ·show xx [.win k aC off es.length 2,.fn 93 []] st=_;have gK:(c.drop off).take (2*es.length)=eE m:=by rw[Nat.mul_comm,hc,h1]
   simp only[xx,St.mem_of hm,gK,wF,Ft];rw[decide_eq_true (⟨by rw[x6,sr],by omega,by omega⟩:m.length=es.length∧1≤es.length∧es.length<1099511627776)];simp only[hwr]
  ·refine hH.xr hj (fun n hn hne=>?_) (by simp) rfl rfl ?_ (fun n hn=>.inl hn) fun n hn=>?_
   ·simp only;rw[List.getElem?_set_ne (fun e=>hne (by simp only[cz.aT,D.ref];omega))]
   ·have h9:=gr.win (st:=⟨st.bs.set k (.mem aC true (c.take off++eE (srt m)++c.drop (off+(eE (srt m)).length))),st.flr,st.ro⟩) (s:=2) k aC off (((srt m).map fun x=>((x.lo,x.hi):Rg)).map aw) (c.take off++eE (srt m)++c.drop (off+(eE (srt m)).length))
     (by simp only;rw[List.getElem?_set_self hk.2]) (by simp only[List.length_append,List.length_take,List.length_map,List.length_drop,vC];omega) ?_ (l5 _)
    ·simp only[List.length_map,hlen] at h9;rw[sr];exact h9
    ·have OH:(c.take off).length=off:=by simp;omega
     rw[List.append_assoc,List.drop_left' OH,←vL,List.take_left' (by simp only[List.length_map,hlen];omega)]
   ·simp only[cz.aT,D.ref] at hn;simp only[List.length_set];omega
theorem oj (l:List Rg):(l.foldl dh []).length≤l.length:=by
 have key:∀(l acc:List Rg),(l.foldl dh acc).length≤acc.length+l.length:=by
  intro l
  induction l with
  |nil=>intro acc;simp
  |cons x l ih=>
   intro acc;simp only[List.foldl_cons,List.length_cons];have:=ih (dh acc x)
   have h2:(dh acc x).length≤acc.length+1:=by
    unfold dh;split
    ·simp
    ·split<;>simp
   omega
 have:=key l []
 simpa using this
theorem D9 {l:List Rg} (h:∀x∈l,0≤x.2∧x.2≤1114111):∀x∈l.foldl dh [],0≤x.2∧x.2≤1114111:=by
 have key:∀(l acc:List Rg),(∀x∈l,0≤x.2∧x.2≤1114111)→(∀x∈acc,0≤x.2∧x.2≤1114111)→∀x∈l.foldl dh acc,0≤x.2∧x.2≤1114111:=by
  intro l
  induction l with
  |nil=>intro acc _ h x hx;exact h x hx
  |cons y l ih=>
   intro acc h1 h2;refine ih _ (fun x hx=>h1 x (List.mem_cons_of_mem _ hx)) fun x hx=>?_;have hy:=h1 y (List.mem_cons_self ..);unfold dh at hx
   split at hx
   ·simp only[List.mem_cons,List.not_mem_nil,or_false] at hx;rw[hx];exact hy
   ·rename_i k rest;have hk:=h2 k (List.mem_cons_self ..)
    split at hx
    ·rcases List.mem_cons.1 hx with rfl|hx
     ·simp only;omega
     ·exact h2 x (List.mem_cons_of_mem _ hx)
    ·rcases List.mem_cons.1 hx with rfl|hx
     ·exact hy
     ·exact h2 x hx
 exact key l [] h (fun x hx=>by cases hx)
theorem tJ (h:Rg) (t:List Rg):((h::t).reverse.map aw)[t.length]?=some (aw h):=by
 rw[List.getElem?_map,List.reverse_cons,List.getElem?_append_right (by simp)];simp
theorem tI (h h':Rg) (t:List Rg):((h::t).reverse.map aw).set t.length (aw h')=(h'::t).reverse.map aw:=by
 rw[List.reverse_cons,List.map_append,List.set_append_right _ _ (by simp)];simp
theorem wO {s0:St} {x:D} {l:List Rg} (hx:V.Rows s0 2 x (l.map aw)) (hl:l.length≤268435456):∃d,Ev pv 83 [x] s0 d s0∧∃all:List Rg,d=bt (all.foldl dh []).reverse∧all.Perm (l.flatMap dq)∧all.Pairwise fun a b=>a.1≤b.1:=by
 refine Ev.AS rfl PJ rfl rfl rfl ?_;dsimp only[u3,u4,List.length,Nat.reduceSub,Nat.reduceAdd,w1,w2];obtain⟨bN,hF,hH⟩:=ri s0;generalize aj .ro s0=S at*;have hx:=Arg.of hx bN;have nh:=gT l
 have hfi:∀i,((l.take i).flatMap dq).length≤2*l.length:=fun i=>by
  have:=gT (l.take i);simp only[List.length_take] at this;omega
 refine qq<|qj fun K hK=>qm ?_;refine qe hK<|qq<|qj fun K hK=>qm ?_;refine qm ?_;refine qe hK<|qq<|qq<|qj fun K hK=>qm ?_;refine qn ?_;simp only[List.length_map];refine qm ?_;refine qe hK ?_;have hH:=hH.fx 2;refine af.block<|af.loop (fun mm fr st=>∃(i:Nat) (y:D),fr.clean=⟨26,[x,aY fr 1,aY fr 2,y,.nul,aY fr 5,aY fr 6,aY fr 7,aY fr 8,aY fr 9,x,.int .i64 (l.length:Nat),.int .i64 (i:Nat),aY fr 13,aY fr 14,aY fr 15,aY fr 16,aY fr 17,aY fr 18,aY fr 19,aY fr 20,aY fr 21,aY fr 22,aY fr 23,aY fr 24,aY fr 25],[]⟩∧Has s0.bs.length S st [.aT y 2 (((l.take i).flatMap dq).map aw)]∧(i+mm=l.length)∧((l.take i).flatMap dq=[]→y=.nul)) (l.length) ?_ ?_
 ·exact⟨0,.nul,rfl,hH,by omega,fun _=>rfl⟩
 rintro mm fr st ⟨i,y,hfr,hH,hi,Jg⟩;rw[hfr];clear hfr;generalize aY fr=ee;clear fr;refine qq<|qj fun K hK=>qg ?_;refine qe hK ?_;have hm:=hfi i;refine qq ?_;refine af.cond (by rfl) (fun h1=>?_) (fun h1=>?_)<;>try simp only[decide_eq_true_eq,decide_eq_false_iff_not] at h1
 ·refine af.skip ?_
  obtain⟨q,hq⟩:∃q,l[i]?=some q:=⟨l[i]'(by omega),List.getElem?_eq_getElem _⟩
  have hr:=df hq
  have vy:(l.take (i+1)).flatMap dq=(l.take i).flatMap dq++dq q:=by
   rw[List.take_add_one,hq];simp
  have WJ:=nR q;refine qq<|af.block<|qq<|qj fun K hK=>qr fun Wo Uv=>?_;refine ae.dt rfl (ev rfl) (by assumption) rfl (by dsimp only[Fr.put,u1,u2]<;>rfl) ?_;refine qa hH fun k6 st Et hH=>?_;refine qS hH aB fun st hH=>?_;dsimp only[u2,u1,u3,u4,setMany,u5,u6,D.cells,Nat.reduceAdd,aw] at hH;refine qe hK<|qj fun K hK=>qm ?_;refine ae.bF (m:=2) hH rfl (ev rfl) (by exact aB) (by dsimp only[List.drop_succ_cons,List.drop_zero,List.take_succ_cons,List.take_zero,aw]<;>rfl) rfl rfl (by dsimp only[Fr.put,u1,u2]<;>rfl) ?_;refine qv (yP q) ?_;refine ae.z_ hH rfl rfl rfl (by exact bu) (dZ _ _) rfl rfl rfl rfl rfl rfl rfl ⟨(Nat.le_of_ble_eq_true rfl),(Nat.le_of_ble_eq_true rfl)⟩ (fun _=>by dsimp only[Fr.put,u1,u2]<;>rfl) (by simp only[List.length_map];omega) (.inl hF) (fun Sz st LL hH=>?_);dsimp only[u2,u1] at hH;refine qm ?_;refine qe hK<|qj fun K hK=>qA ?_;refine qm ?_;refine qe hK ?_;exact⟨mm-1,by omega,⟨i+1,Sz,rfl,(by rw[vy,List.map_append];exact hH.drop 1),by omega,by rw[vy];intro h;obtain⟨h3,h4⟩:=List.append_eq_nil_iff.1 h;rw[LL (by rw[h4];rfl)];exact Jg h3⟩⟩
 ·refine af.exit ?_;have hT:l.take i=l:=List.take_of_length_le (by omega);rw[hT] at hH Jg hm
  obtain⟨st2,all,aS,Fh,hperm,ku⟩:=z8 hH aB Jg (by omega) (fun z hz=>by
   obtain⟨w,_,hw⟩:=List.mem_flatMap.1 hz
   exact xA w z hw)
  have hlen:=hperm.length_eq
  have hbd:∀z∈all,0≤z.2∧z.2≤1114111:=fun z hz=>by
   obtain⟨w,_,hw⟩:=List.mem_flatMap.1 (hperm.mem_iff.1 hz);have:=l0 w z hw;omega
  refine qq<|qj fun K hK=>qm ?_;refine qv (aS) ?_;refine qe hK ?_;have hH:=Fh;dsimp only[u2] at hH;clear Fh aS;have hR:=hH.rows aB;have hH:=hH.fx 2;refine qq<|qq<|qj fun K hK=>qm ?_;refine qn ?_ (hR:=hH.rows bu);simp only[List.length_map];refine qm ?_;refine qe hK<|af.block<|af.loop (fun mm fr st=>∃(i:Nat) (z:D),fr.clean=⟨26,[x,aY fr 1,aY fr 2,y,z,aY fr 5,aY fr 6,aY fr 7,aY fr 8,aY fr 9,aY fr 10,aY fr 11,aY fr 12,aY fr 13,aY fr 14,aY fr 15,aY fr 16,aY fr 17,aY fr 18,aY fr 19,aY fr 20,aY fr 21,aY fr 22,y,.int .i64 (all.length:Nat),.int .i64 (i:Nat)],[]⟩∧Has s0.bs.length S st [.aT z 2 (((all.take i).foldl dh []).reverse.map aw),.aT y 2 (all.map aw)]∧(i+mm=all.length)) (all.length) ?_ ?_
  ·exact⟨0,.nul,rfl,hH,by omega⟩
  rintro mm fr st ⟨i,z,hfr,hH,hi⟩;rw[hfr];clear hfr;generalize aY fr=ee;clear fr;refine qq<|qj fun K hK=>qg ?_;refine qe hK ?_
  have ng:((all.take i).foldl dh []).length≤all.length:=by
   have:=oj (all.take i);simp only[List.length_take] at this;omega
  refine qq ?_;refine af.cond (by rfl) (fun h1=>?_) (fun h1=>?_)<;>try simp only[decide_eq_true_eq,decide_eq_false_iff_not] at h1
  ·refine af.skip ?_
   obtain⟨q,hq⟩:∃q,all[i]?=some q:=⟨all[i]'(by omega),List.getElem?_eq_getElem _⟩
   have hr:=df hq
   have O0:(all.take (i+1)).foldl dh []=dh ((all.take i).foldl dh []) q:=by
    rw[List.take_add_one,hq,List.foldl_append];rfl
   generalize tW:(all.take i).foldl dh []=acc at*;refine qq<|af.block<|qq<|qj fun K hK=>qi hH bu fun S0 Oz=>?_;refine ae.ra hH rfl (ev rfl) (by assumption) (by exact bu) (by assumption) rfl (ag rfl _) ?_;refine qa hH fun k8 st OO hH=>?_;refine qS hH aB fun st hH=>?_;dsimp only[u2,u1,u3,u4,setMany,u5,u6,D.cells,Nat.reduceAdd,aw] at hH;refine qe hK ?_
   rcases acc with _|⟨h,t⟩
   ·refine qq<|qj fun K hK=>qm ?_;refine qn ?_ (hR:=hH.rows bu);simp only[List.length_map,List.length_nil,List.length_reverse];refine ae.gj (z:=(-1)) rfl (ev rfl) (ev rfl) (by(try simp only[List.length_reverse,List.length_cons,List.length_nil,List.length_append,List.length_map,List.length_set]);rw[wrap_i64 (by omega) (by omega)]<;>omega) (ag rfl _) ?_;refine qm ?_;refine qe hK ?_;have bm:decide ((-1:Int)≥0)=false:=by decide
    refine qq<|af.eY 44 (.bool false) [] ?_ (fun ff tmp d_=>?_)
    ·refine qm ?_;refine qg ?_;refine qm ?_;refine qs ?_ (hg:=wn bm);refine qs ?_ (hg:=wn bm);refine qs ?_ (hg:=wn bm);refine qs ?_ (hg:=wn bm);refine qs ?_ (hg:=wn bm);refine qs ?_ (hg:=wn bm);refine qs ?_ (hg:=wn bm);refine qs ?_ (hg:=wn bm);refine qs ?_ (hg:=wn bm);refine qu bm ?_;refine ae.nil (bq ?_ ?_)
     ·dsimp only[aD,List.foldl,nth,u2,u1]
      all_goals(first|rfl|simp)
     ·dsimp only[Fr.au,Fr.put,Fr.clean,Fr.ev,Fr.get,nth,look,u1,u2,v1,v2,v4]
      all_goals(first|rfl|(simp[bm];done)|(simp_all;done)|(simp[bm];omega)|(simp_all;omega))
    dsimp only[aD,List.foldl,nth,u2,u1];dsimp only[Fr.au,Fr.put,Fr.clean,Fr.ev,Fr.get,nth,look,u1,u2,v1,v2,v4];refine qC ?_;refine qj fun K hK=>qm ?_;refine ae.bF (m:=2) hH rfl (ev rfl) (by exact aB) (by dsimp only[List.drop_succ_cons,List.drop_zero,List.take_succ_cons,List.take_zero,aw]<;>rfl) rfl rfl (ag rfl _) ?_;refine qh (s:=2) (vs:=[_]) hH fun To st OQ hH=>?_;refine ae.bG (s:=2) hH rfl (ev rfl) (ev rfl) (by exact ez) (by exact hH.rows (by exact aB)) rfl rfl rfl rfl rfl rfl rfl ⟨(Nat.le_of_ble_eq_true rfl),(Nat.le_of_ble_eq_true rfl)⟩ (fun _=>(ag rfl _)) (by simp only[List.length_cons,List.length_nil,List.length_map,List.length_reverse]<;>omega) (by exact .inl hF) (fun Nd st hH=>?_);dsimp only[u2,u1,u3,u4,setMany,u5,u6,D.cells,Nat.reduceAdd,aw] at hH;refine qm ?_;refine qe hK<|qj fun K hK=>qA ?_;refine qm ?_;refine qe hK ?_;exact⟨mm-1,by omega,⟨i+1,Nd,rfl,(by rw[O0];exact hH.drop 2),by omega⟩⟩
   ·simp only[List.length_cons] at ng;refine qq<|qj fun K hK=>qm ?_;refine qn ?_ (hR:=hH.rows bu);simp only[List.length_map,List.length_cons,List.length_reverse];refine ae.gj (z:=((t.length:Nat):Int)) rfl (ev rfl) (ev rfl) (by(try simp only[List.length_reverse,List.length_cons,List.length_nil,List.length_append,List.length_map,List.length_set]);rw[wrap_i64 (by omega) (by omega)]<;>omega) (ag rfl _) ?_;refine qm ?_;refine qe hK ?_;have mU:=tJ h t;have c9:=tI h (h.1,max h.2 q.2) t;have w5:=D9 (l:=all.take i) (fun x hx=>hbd x (List.mem_of_mem_take hx)) h (by rw[tW];exact List.mem_cons_self ..);have bm:decide (((t.length:Nat):Int)≥0)=true:=by rw[decide_eq_true];omega
    refine qq<|af.eY 44 (.bool (decide (q.1≤h.2+1))) [] ?_ (fun ff tmp d_=>?_)
    ·refine qm ?_;refine qg ?_;refine qm ?_;refine qp (o:=0) ?_ (hg:=wi bm);refine ql hH aB ?_ (hg:=wi bm);refine qm ?_ (hg:=wi bm);refine qm ?_ (hg:=wi bm);refine qi hH bu (fun QY LB=>?_) (hg:=wi bm);refine ae.fN (fo:=1) (m:=0) (o2:=1) (aH rfl rfl rfl bm) (ev rfl) (by assumption) rfl rfl rfl (fun _=>(ag rfl _)) (fun SV Ov=>?_);refine qo hH bu ?_ (hg:=wi bm);refine ae.wa (aH rfl rfl rfl bm) (ev rfl) (ev rfl) (by omega) (by omega) (ag rfl _) ?_;refine qg ?_ (hg:=wi bm);refine qt bm ?_;refine ae.nil (bq ?_ ?_)
     ·dsimp only[aD,List.foldl,nth,u2,u1]
      all_goals(first|rfl|simp)
     ·dsimp only[Fr.au,Fr.put,Fr.clean,Fr.ev,Fr.get,nth,look,u1,u2,v1,v2,v4]
      all_goals(first|rfl|(simp[bm];done)|(simp_all;done)|(simp[bm];omega)|(simp_all;omega))
    dsimp only[aD,List.foldl,nth,u2,u1];dsimp only[Fr.au,Fr.put,Fr.clean,Fr.ev,Fr.get,nth,look,u1,u2,v1,v2,v4];refine af.cond (by assumption) (fun h2=>?_) (fun h2=>?_)<;>try simp only[decide_eq_true_eq,decide_eq_false_iff_not] at h2
    ·refine qj fun K hK=>qm ?_;refine qm ?_;refine qm ?_;refine qm ?_;refine qi hH bu fun QW Lz=>?_;refine ae.fN (fo:=1) (m:=0) (o2:=1) rfl (ev rfl) (by assumption) rfl rfl rfl (fun _=>(ag rfl _)) (fun QV Ly=>?_);refine qo hH bu ?_;refine qp (o:=1) ?_;refine ql hH aB ?_;refine ae.IL (t1:=0) (t2:=0) rfl (ev rfl) (ev rfl) (ag rfl _) ?_;refine qi hH bu fun SR Oq=>?_;refine ae.fN (fo:=1) (m:=0) (o2:=1) rfl (ev rfl) (by assumption) rfl rfl rfl (fun _=>(ag rfl _)) (fun SQ Oo=>?_);refine ae.gz hH rfl (ev rfl) (ev rfl) (by assumption) rfl rfl (by exact bu) (by assumption) (Nat.le_of_ble_eq_true rfl) (by exact .inl hF) (fun st hH=>?_);dsimp only[u2,u1,u3,u4,setMany,u5,u6,D.cells,Nat.reduceAdd,aw] at hH;refine qe hK<|qj fun K hK=>qA ?_;refine qm ?_;refine qe hK ?_;exact⟨mm-1,by omega,⟨i+1,z,rfl,(by rw[O0];simp only[dh,if_pos h2];rw[←c9];exact hH.drop 1),by omega⟩⟩
    ·refine qj fun K hK=>qm ?_;refine ae.bF (m:=2) hH rfl (ev rfl) (by exact aB) (by dsimp only[List.drop_succ_cons,List.drop_zero,List.take_succ_cons,List.take_zero,aw]<;>rfl) rfl rfl (ag rfl _) ?_;refine qh (s:=2) (vs:=[_]) hH fun To st OQ hH=>?_;refine ae.bG (s:=2) hH rfl (ev rfl) (ev rfl) (by exact ez) (by exact hH.rows (by exact aB)) rfl rfl rfl rfl rfl rfl rfl ⟨(Nat.le_of_ble_eq_true rfl),(Nat.le_of_ble_eq_true rfl)⟩ (fun _=>(ag rfl _)) (by simp only[List.length_cons,List.length_nil,List.length_map,List.length_reverse]<;>omega) (by exact .inl hF) (fun Nd st hH=>?_);dsimp only[u2,u1,u3,u4,setMany,u5,u6,D.cells,Nat.reduceAdd,aw] at hH;refine qm ?_;refine qe hK<|qj fun K hK=>qA ?_;refine qm ?_;refine qe hK ?_;exact⟨mm-1,by omega,⟨i+1,Nd,rfl,(by rw[O0];simp only[dh,if_neg h2];rw[List.reverse_cons (a:=q),List.map_append];exact hH.drop 2),by omega⟩⟩
  ·refine af.exit<|qq<|qj fun K hK=>qm ?_;refine qm ?_;refine qe hK ?_;rw[List.take_of_length_le (by omega)] at hH;refine af.ret ⟨rx,_,_,rfl,rl bN hH ((hH.freeze aB (eT _) (n:=15) (by decide))),?_⟩;exact⟨all,by rw[fw],hperm,ku⟩
def cG (fr:Go.V.Fr) (k:Nat):Go.V.D:=Go.V.nth .bA fr.loc k
def c7 (r:Int):List D:=[.int .i32 r]
def qN (l:List Int):D:=.sl ((l.map c7).map (ke 1))
theorem nS (l:List Int):∀e∈l.map c7,∀d∈e,ch d=true:=by
 intro e he d hd;obtain⟨x,_,rfl⟩:=List.mem_map.1 he;simp only[c7,List.mem_cons,List.not_mem_nil,or_false] at hd;subst hd;rfl
theorem yQ (l:List Int):∀e∈l.map c7,e.length=1:=by
 intro e he;obtain⟨x,_,rfl⟩:=List.mem_map.1 he;rfl
theorem sU (st:St) (l:List Int):V.Rows st 1 (qN l) (l.map c7):=Rows.n9 (yQ l) (nS l)
theorem sV {l:List Int} {i:Nat} {q:Int} (h:l[i]?=some q):(l.map c7)[i]?=some (c7 q):=by rw[List.getElem?_map,h];rfl
def eJ (l:List Rg):List Int:=[0,55296,57344,1114112]++l.flatMap gg
theorem Al (x:Rg):(gg x).length≤2:=by
 unfold gg;split<;>split<;>simp
theorem my (l:List Rg):(l.flatMap gg).length≤2*l.length:=by
 induction l with
 |nil=>simp
 |cons x l ih=>simp only[List.flatMap_cons,List.length_append,List.length_cons];have:=Al x;omega
def ft (m:List Int) (i k:Nat):Prop:=∀a b,a<b→b≤i→b≠k→m.getD a 0≤m.getD b 0
theorem ly (m:List Int) (k:Nat) (v:Int) (hk:k<m.length) (a:Nat):(m.set k v).getD a 0=if a=k then v else m.getD a 0:=by
 simp only[List.getD_eq_getElem?_getD]
 by_cases h:a=k
 ·subst h;rw[List.getElem?_set_self hk,if_pos rfl];rfl
 ·rw[List.getElem?_set_ne (fun e=>h e.symm),if_neg h]
theorem sF {m:List Int} {i k:Nat} (hk:k+1≤i) (hi:i<m.length) (h:ft m i (k+1)) (Kl:m.getD k 0>m.getD (k+1) 0):ft ((m.set k (m.getD (k+1) 0)).set (k+1) (m.getD k 0)) i k:=by
 intro a b hab Mh hbk;have hl:(m.set k (m.getD (k+1) 0)).length=m.length:=List.length_set ..;rw[ly _ _ _ (by rw[hl];omega),ly _ _ _ (by omega),ly _ _ _ (by rw[hl];omega),ly _ _ _ (by omega)]
 by_cases h1:b=k+1
 ·rw[if_pos h1,if_neg (by omega)]
  by_cases h2:a=k
  ·rw[if_pos h2];omega
  ·rw[if_neg h2];exact h a k (by omega) (by omega) (by omega)
 ·rw[if_neg h1,if_neg hbk]
  by_cases h2:a=k+1
  ·rw[if_pos h2];exact h k b (by omega) Mh h1
  ·rw[if_neg h2]
   by_cases h3:a=k
   ·rw[if_pos h3];exact h (k+1) b (by omega) Mh h1
   ·rw[if_neg h3];exact h a b hab Mh h1
theorem mK {m:List Int} {i k:Nat} (h:ft m i k) (hx:k=0∨m.getD (k-1) 0≤m.getD k 0) (j:Nat):ft m i j:=by
 intro a b hab Mh _
 by_cases hb:b=k
 ·subst hb;have hx:=hx.resolve_left (by omega)
  by_cases ha:a=b-1
  ·rw[ha];exact hx
  ·exact Int.le_trans (h a (b-1) (by omega) (by omega) (by omega)) hx
 ·exact h a b hab Mh hb
theorem swap_perm {m:List Int} {k:Nat} (hk:k+1<m.length):((m.set k (m.getD (k+1) 0)).set (k+1) (m.getD k 0)).Perm m:=by
 have h0:m=m.take k++(m.getD k 0::m.getD (k+1) 0::m.drop (k+2)):=by
  have e1:m.drop k=m.getD k 0::m.drop (k+1):=by rw[List.drop_eq_getElem_cons (by omega)];simp[List.getD_eq_getElem?_getD,List.getElem?_eq_getElem (show k<m.length by omega)]
  have e2:m.drop (k+1)=m.getD (k+1) 0::m.drop (k+2):=by rw[List.drop_eq_getElem_cons (by omega)];simp[List.getD_eq_getElem?_getD,List.getElem?_eq_getElem hk]
  rw[←e2,←e1,List.take_append_drop]
 have hlen:(m.take k).length=k:=by simp;omega
 generalize m.getD k 0=x at*;generalize m.getD (k+1) 0=y at*;generalize m.take k=l1 at*;generalize m.drop (k+2)=l2 at*;subst h0;rw[List.set_append_right _ _ (by omega),List.set_append_right _ _ (by omega),hlen,Nat.sub_self,Nat.add_sub_cancel_left];exact(List.Perm.swap x y l2).append_left l1
theorem sG {m : List Int} {i : Nat} (h : ft m i (i + 1)) (hi : i + 1 ≥ m.length) : m.Pairwise (· ≤ ·) := by
 rw [List.pairwise_iff_getElem];intro a b ha hb hab;have := h a b hab (by omega) (by omega)
 simpa [List.getD_eq_getElem?_getD, List.getElem?_eq_getElem ha, List.getElem?_eq_getElem hb] using this
theorem zu {s0 : St} {x : D} {l : List Rg} (hx : V.Rows s0 2 x (l.map aw)) (hl : l.length ≤ 268435456) : ∃ d, Ev pv 89 [x] s0 d s0 ∧ ∃ m : List Int, d = qN m ∧ m.Perm (eJ l) ∧ m.Pairwise (· ≤ ·) := by
 refine Ev.AS rfl PD rfl rfl rfl ?_;dsimp only [u3, u4, List.length, Nat.reduceSub, Nat.reduceAdd, w1, w2];obtain ⟨bN, hF, hH⟩ := ri s0;generalize aj .ro s0 = S at *;have hx := Arg.of hx bN;refine qq ?_;refine qj fun K hK => ?_;refine qm ?_;refine qe hK ?_;refine qq ?_;refine qj fun K hK => ?_;refine qh (s := 1) (vs := [_, _, _, _]) hH fun k7 st M1 hH => ?_;refine qm ?_;refine qe hK ?_;refine qq ?_;refine qq ?_;refine qj fun K hK => ?_;refine qm ?_;refine qe hK ?_;have nh := my l;have h0 : eJ (l.take 0) = [0, 55296, 57344, 1114112] := rfl
 have x6 : ∀ i, (eJ (l.take i)).length ≤ 4 + 2 * l.length := by
  intro i;have := my (l.take i);simp only [eJ, List.length_append, List.length_cons, List.length_nil, List.length_take] at *;omega
 refine af.block ?_;refine af.loop (fun mm fr st => ∃ (i : Nat) (y : D), fr.clean = ⟨7, [x, cG fr 1, cG fr 2, y, .int .i64 (i : Nat), cG fr 5, cG fr 6], []⟩ ∧ Has s0.bs.length S st [.aT y 1 ((eJ (l.take i)).map c7)] ∧ (i + mm = l.length)) (l.length) ?_ ?_
 ·exact ⟨0, _, rfl, hH, by omega⟩
 rintro mm fr st ⟨i, y, hfr, hH, hi⟩;rw [hfr];clear hfr;generalize cG fr = ee;clear fr;refine qq ?_;refine qq ?_;refine qj fun K hK => ?_;refine qm ?_;refine qm ?_;refine qn ?_;simp only [List.length_map];refine qg ?_;refine qe hK ?_;refine af.cond (by rfl) (fun h1 => ?_) (fun h1 => ?_) <;> try simp only [decide_eq_true_eq, decide_eq_false_iff_not] at h1
 ·refine af.skip ?_
  obtain ⟨q, hq⟩ : ∃ q, l[i]? = some q := ⟨l[i]'(by omega), List.getElem?_eq_getElem _⟩
  have hr := df hq;have hm := x6 i
  have vy : eJ (l.take (i + 1)) = eJ (l.take i) ++ gg q := by
   rw [List.take_add_one, hq]; simp [eJ]
  refine qq ?_;refine af.block ?_;refine qq ?_;refine qq ?_;refine af.eY 40 (.bool (decide (q.1 ≤ q.2) && decide (q.1 ≥ 0) && decide (q.1 ≤ 1114111))) [] ?_ (fun ff tmp d_ => ?_)
  ·refine qm ?_;refine qm ?_;refine qr fun Q2 LG => ?_;refine qf (fo := 0) fun Nw Jd => ?_;refine qR ?_;refine qm ?_;refine qm ?_;refine qr fun K3 zK => ?_;refine qf (fo := 1) fun MT En => ?_;refine qR ?_;refine qg ?_;refine qm ?_;refine ae.two 25 rfl (fun a7 => ?_) (fun a7 => ?_)
   ·refine qm ?_ (hg := wi a7);refine qm ?_ (hg := wi a7);refine qr (fun Nu Ja => ?_) (hg := wi a7);refine qf (fo := 0) (fun Q0 LD => ?_) (hg := wi a7);refine qR ?_ (hg := wi a7);refine qg ?_ (hg := wi a7);refine qt a7 ?_;refine qm ?_;refine ae.two 33 rfl (fun dS => ?_) (fun dS => ?_)
    ·refine qm ?_ (hg := wi dS);refine qm ?_ (hg := wi dS);refine qr (fun Wm Ut => ?_) (hg := wi dS);refine qf (fo := 0) (fun SX Ow => ?_) (hg := wi dS);refine qR ?_ (hg := wi dS);refine qg ?_ (hg := wi dS);refine qt dS ?_;refine ae.nil (bq ?_ ?_)
     ·dsimp only [aD, List.foldl, nth, u2, u1]
      all_goals (first | rfl | simp)
     ·dsimp only [Fr.au, Fr.put, Fr.clean, Fr.ev, Fr.get, nth, V.look, u1, u2, v1, v2, v3, v4, v5, v6, v7, List.length, u3, u4, Nat.reduceSub, Nat.reduceAdd, List.map]
      all_goals (simp [a7, dS]; done)
    ·refine qs ?_ (hg := wn dS);refine qs ?_ (hg := wn dS);refine qs ?_ (hg := wn dS);refine qs ?_ (hg := wn dS);refine qs ?_ (hg := wn dS);refine qs ?_ (hg := wn dS);refine qu dS ?_;refine ae.nil (bq ?_ ?_)
     ·dsimp only [aD, List.foldl, nth, u2, u1]
      all_goals (first | rfl | simp)
     ·dsimp only [Fr.au, Fr.put, Fr.clean, Fr.ev, Fr.get, nth, V.look, u1, u2, v1, v2, v3, v4, v5, v6, v7, List.length, u3, u4, Nat.reduceSub, Nat.reduceAdd, List.map]
      all_goals (simp [a7, dS]; done)
   ·refine qs ?_ (hg := wn a7);refine qs ?_ (hg := wn a7);refine qs ?_ (hg := wn a7);refine qs ?_ (hg := wn a7);refine qs ?_ (hg := wn a7);refine qs ?_ (hg := wn a7);refine qu a7 ?_;refine qm ?_;refine qs ?_;refine qs ?_;refine qs ?_;refine qs ?_;refine qs ?_;refine qs ?_;refine qg ?_;refine ae.nil (bq ?_ ?_)
    ·dsimp only [aD, List.foldl, nth, u2, u1]
     all_goals (first | rfl | simp)
    ·dsimp only [Fr.au, Fr.put, Fr.clean, Fr.ev, Fr.get, nth, V.look, u1, u2, v1, v2, v3, v4, v5, v6, v7, List.length, u3, u4, Nat.reduceSub, Nat.reduceAdd, List.map]
     all_goals (simp [a7]; done)
  dsimp only [aD, List.foldl, nth, u2, u1];dsimp only [Fr.au, Fr.put, Fr.clean, Fr.ev, Fr.get, nth, V.look, u1, u2, v1, v2, v3, v4, v5, v6, v7, List.length, u3, u4, Nat.reduceSub, Nat.reduceAdd, List.map];have kO : gg q = (if q.1 ≤ q.2 ∧ 0 ≤ q.1 ∧ q.1 ≤ 1114111 then [q.1] else []) ++ (if q.1 ≤ q.2 ∧ 0 ≤ q.2 ∧ q.2 < 1114111 then [q.2 + 1] else []) := rfl;rw [kO] at vy;generalize jj : (if q.1 ≤ q.2 ∧ 0 ≤ q.1 ∧ q.1 ≤ 1114111 then [q.1] else []) = e1 at vy;generalize su : (if q.1 ≤ q.2 ∧ 0 ≤ q.2 ∧ q.2 < 1114111 then [q.2 + 1] else []) = e2 at vy;have Vc : e1.length ≤ 1 := by rw [← jj]; split <;> simp
  refine af.merge (fun fr st => ∃ (y : D) (tmp : List (Nat × D)), fr = ⟨7, [x, cG fr 1, cG fr 2, y, .int .i64 (i : Nat), cG fr 5, cG fr 6], tmp⟩ ∧ Has s0.bs.length S st [.aT y 1 ((eJ (l.take i) ++ e1).map c7)]) ?_ ?_
  ·refine qc (fun h2 => ?_) (fun h2 => ?_) <;> try simp only [cs] at h2
   ·simp only [Bool.and_eq_true, decide_eq_true_eq] at h2;rw [if_pos ⟨h2.1.1, h2.1.2, h2.2⟩] at jj;refine qj fun K hK => ?_;refine qm ?_;refine qm ?_;refine qm ?_;refine qr fun SS Ot => ?_;refine qf (fo := 0) fun Wk Ur => ?_;refine qR ?_;refine qh (s := 1) (vs := [_]) hH fun Tp st OR hH => ?_;refine ae.bG (s := 1) hH rfl (ev rfl) (ev rfl) (by exact bu) (by exact hH.rows (by exact aB)) rfl rfl rfl rfl rfl rfl rfl ⟨(Nat.le_of_ble_eq_true rfl), (Nat.le_of_ble_eq_true rfl)⟩ (fun _ => (ag rfl _)) (by simp only [List.length_cons, List.length_nil, List.length_map] <;> omega) (by exact .inl hF) (fun Kq st hH => ?_);dsimp only [u2, u1, u3, u4, setMany, u5, u6, D.cells, Nat.reduceAdd, aw, c7] at hH;refine qm ?_;refine qe hK ?_;exact ⟨Kq, _, rfl, (by rw [← jj, List.map_append]; exact hH.drop 1)⟩
   ·rw [if_neg (by rintro ⟨a, b, c⟩; simp [a, b, c] at h2)] at jj;refine af.skip ?_;exact ⟨y, _, rfl, (by rw [← jj, List.append_nil]; exact hH)⟩
  ·rintro fr st ⟨y, tmp, hfr, hH⟩;rw [hfr];clear hfr;generalize cG fr = ee;clear fr;refine qq ?_;refine af.eY 75 (.bool (decide (q.1 ≤ q.2) && decide (q.2 ≥ 0) && decide (q.2 < 1114111))) [] ?_ (fun ff tmp d_ => ?_)
   ·refine qm ?_;refine qm ?_;refine qr fun QU Lx => ?_;refine qf (fo := 0) fun Wh Uo => ?_;refine qR ?_;refine qm ?_;refine qm ?_;refine qr fun SQ Oo => ?_;refine qf (fo := 1) fun SP On => ?_;refine qR ?_;refine qg ?_;refine qm ?_;refine ae.two 60 rfl (fun a7 => ?_) (fun a7 => ?_)
    ·refine qm ?_ (hg := wi a7);refine qm ?_ (hg := wi a7);refine qr (fun V' Ug => ?_) (hg := wi a7);refine qf (fo := 1) (fun QT Lw => ?_) (hg := wi a7);refine qR ?_ (hg := wi a7);refine qg ?_ (hg := wi a7);refine qt a7 ?_;refine qm ?_;refine ae.two 68 rfl (fun dS => ?_) (fun dS => ?_)
     ·refine qm ?_ (hg := wi dS);refine qm ?_ (hg := wi dS);refine qr (fun V7 Uc => ?_) (hg := wi dS);refine qf (fo := 1) (fun SN Ol => ?_) (hg := wi dS);refine qR ?_ (hg := wi dS);refine qg ?_ (hg := wi dS);refine qt dS ?_;refine ae.nil (bq ?_ ?_)
      ·dsimp only [aD, List.foldl, nth, u2, u1]
       all_goals (first | rfl | simp)
      ·dsimp only [Fr.au, Fr.put, Fr.clean, Fr.ev, Fr.get, nth, V.look, u1, u2, v1, v2, v3, v4, v5, v6, v7, List.length, u3, u4, Nat.reduceSub, Nat.reduceAdd, List.map]
       all_goals (simp [a7, dS]; done)
     ·refine qs ?_ (hg := wn dS);refine qs ?_ (hg := wn dS);refine qs ?_ (hg := wn dS);refine qs ?_ (hg := wn dS);refine qs ?_ (hg := wn dS);refine qs ?_ (hg := wn dS);refine qu dS ?_;refine ae.nil (bq ?_ ?_)
      ·dsimp only [aD, List.foldl, nth, u2, u1]
       all_goals (first | rfl | simp)
      ·dsimp only [Fr.au, Fr.put, Fr.clean, Fr.ev, Fr.get, nth, V.look, u1, u2, v1, v2, v3, v4, v5, v6, v7, List.length, u3, u4, Nat.reduceSub, Nat.reduceAdd, List.map]
       all_goals (simp [a7, dS]; done)
    ·refine qs ?_ (hg := wn a7);refine qs ?_ (hg := wn a7);refine qs ?_ (hg := wn a7);refine qs ?_ (hg := wn a7);refine qs ?_ (hg := wn a7);refine qs ?_ (hg := wn a7);refine qu a7 ?_;refine qm ?_;refine qs ?_;refine qs ?_;refine qs ?_;refine qs ?_;refine qs ?_;refine qs ?_;refine qg ?_;refine ae.nil (bq ?_ ?_)
     ·dsimp only [aD, List.foldl, nth, u2, u1]
      all_goals (first | rfl | simp)
     ·dsimp only [Fr.au, Fr.put, Fr.clean, Fr.ev, Fr.get, nth, V.look, u1, u2, v1, v2, v3, v4, v5, v6, v7, List.length, u3, u4, Nat.reduceSub, Nat.reduceAdd, List.map]
      all_goals (simp [a7]; done)
   dsimp only [aD, List.foldl, nth, u2, u1];refine af.merge (fun fr st => ∃ (y : D) (tmp : List (Nat × D)), fr = ⟨7, [x, cG fr 1, cG fr 2, y, .int .i64 (i : Nat), cG fr 5, cG fr 6], tmp⟩ ∧ Has s0.bs.length S st [.aT y 1 ((eJ (l.take (i + 1))).map c7)]) ?_ ?_
   ·refine qc (fun h2 => ?_) (fun h2 => ?_) <;> try simp only [cs] at h2
    ·simp only [Bool.and_eq_true, decide_eq_true_eq] at h2;rw [if_pos ⟨h2.1.1, h2.1.2, h2.2⟩] at su;refine qj fun K hK => ?_;refine qm ?_;refine qm ?_;refine qm ?_;refine qr fun Nt I' => ?_;refine qf (fo := 1) fun SL Oi => ?_;refine qR ?_;refine ae.wa rfl (ev rfl) (ev rfl) (by omega) (by omega) (ag rfl _) ?_;refine qh (s := 1) (vs := [_]) hH fun Wq st UI hH => ?_;refine ae.bG (s := 1) hH rfl (ev rfl) (ev rfl) (by exact bu) (by exact hH.rows (by exact aB)) rfl rfl rfl rfl rfl rfl rfl ⟨(Nat.le_of_ble_eq_true rfl), (Nat.le_of_ble_eq_true rfl)⟩ (fun _ => (ag rfl _)) (by simp only [List.length_append, List.length_cons, List.length_nil, List.length_map] <;> omega) (by exact .inl hF) (fun Sj st hH => ?_);dsimp only [u2, u1, u3, u4, setMany, u5, u6, D.cells, Nat.reduceAdd, aw, c7] at hH;refine qm ?_;refine qe hK ?_;exact ⟨Sj, _, rfl, (by rw [vy, ← su, ← List.append_assoc, List.map_append]; exact hH.drop 1)⟩
    ·rw [if_neg (by rintro ⟨a, b, c⟩; simp [a, b, c] at h2)] at su;refine af.skip ?_;exact ⟨y, _, rfl, (by rw [vy, ← su, List.append_nil]; exact hH)⟩
   ·rintro fr st ⟨y, tmp, hfr, hH⟩;rw [hfr];clear hfr;generalize cG fr = ee;clear fr;refine qj fun K hK => ?_;refine qm ?_;refine qA ?_;refine qm ?_;refine qe hK ?_;exact ⟨mm - 1, by omega, ⟨i + 1, y, rfl, hH, by omega⟩⟩
 ·refine af.exit ?_;have hT : l.take i = l := List.take_of_length_le (by omega);rw [hT] at hH;have hm := x6 l.length;rw [List.take_length] at hm;generalize ky : eJ l = m0 at *;have Ob : 4 ≤ m0.length := by rw [← ky]; simp [eJ]
  refine qq ?_;refine qq ?_;refine qj fun K hK => ?_;refine qm ?_;refine qe hK ?_;refine af.block ?_;refine af.loop (fun mm fr st => ∃ (i : Nat) (m : List Int), fr.clean = ⟨7, [x, cG fr 1, cG fr 2, y, cG fr 4, .int .i64 (i : Nat), cG fr 6], []⟩ ∧ Has s0.bs.length S st [.aT y 1 (m.map c7)] ∧ (i + mm = m0.length) ∧ (m.Perm m0) ∧ (ft m (i - 1) i) ∧ (1 ≤ i)) (m0.length - 1) ?_ ?_
  ·exact ⟨1, m0, rfl, hH, by omega, .refl _, by intro a b h1 h2 h3; omega, by omega⟩
  rintro mm fr st ⟨i, m, hfr, hH, hi, hp, hs, Ob⟩;rw [hfr];clear hfr;generalize cG fr = ee;clear fr;have OK : m.length = m0.length := hp.length_eq;refine qq ?_;refine qq ?_;refine qj fun K hK => ?_;refine qm ?_;refine qm ?_;refine qn ?_ (hR := hH.rows aB);simp only [List.length_map];refine qg ?_;refine qe hK ?_;refine af.cond (by rfl) (fun h1 => ?_) (fun h1 => ?_) <;> try simp only [decide_eq_true_eq, decide_eq_false_iff_not] at h1
  ·refine af.skip ?_;refine qq ?_;refine af.block ?_;refine qq ?_;refine qj fun K hK => ?_;refine qm ?_;refine qm ?_;refine qe hK ?_;refine af.block ?_;refine af.loop (fun mm fr st => ∃ (k : Nat) (m : List Int), fr.clean = ⟨7, [x, cG fr 1, cG fr 2, y, cG fr 4, .int .i64 (i : Nat), .int .i64 (k : Nat)], []⟩ ∧ Has s0.bs.length S st [.aT y 1 (m.map c7)] ∧ (k = mm) ∧ (m.Perm m0) ∧ (ft m i k) ∧ (k ≤ i)) (i) ?_ ?_
   ·exact ⟨i, m, rfl, hH, rfl, hp, by intro a b h1 h2 h3; exact hs a b h1 (by omega) (by omega), by omega⟩
   have rI := hi;rintro mm fr st ⟨k, m, hfr, hH, hk, hp, hs, Jl⟩;rw [hfr];clear hfr;generalize cG fr = ee;clear fr;have OK : m.length = m0.length := hp.length_eq
   rcases k with _ | k
   ·have bm : decide (((0 : Nat) : Int) > 0) = false := by decide
    refine qq ?_;refine qq ?_;refine af.eY 105 (.bool false) [] ?_ (fun ff tmp d_ => ?_)
    ·refine qm ?_;refine qg ?_;refine qm ?_;refine qs ?_ (hg := wn bm);refine qs ?_ (hg := wn bm);refine qs ?_ (hg := wn bm);refine qs ?_ (hg := wn bm);refine qs ?_ (hg := wn bm);refine qs ?_ (hg := wn bm);refine qs ?_ (hg := wn bm);refine qs ?_ (hg := wn bm);refine qs ?_ (hg := wn bm);refine qs ?_ (hg := wn bm);refine qu bm ?_;refine ae.nil (bq ?_ ?_)
     ·dsimp only [aD, List.foldl, nth, u2, u1]
      all_goals (first | rfl | simp)
     ·dsimp only [Fr.au, Fr.put, Fr.clean, Fr.ev, Fr.get, nth, V.look, u1, u2, v1, v2, v3, v4, v5, v6, v7, List.length, u3, u4, Nat.reduceSub, Nat.reduceAdd, List.map]
      all_goals (first | rfl | (simp [bm]; done) | (simp_all; done) | (simp [bm]; omega) | (simp_all; omega))
    dsimp only [aD, List.foldl, nth, u2, u1];dsimp only [Fr.au, Fr.put, Fr.clean, Fr.ev, Fr.get, nth, V.look, u1, u2, v1, v2, v3, v4, v5, v6, v7, List.length, u3, u4, Nat.reduceSub, Nat.reduceAdd, List.map];refine qC ?_;refine af.exit ?_;refine qj fun K hK => ?_;refine qm ?_;refine qA ?_;refine qm ?_;refine qe hK ?_;exact ⟨m0.length - (i + 1), by omega, ⟨i + 1, m, rfl, hH, by omega, hp, mK hs (.inl rfl) _, by omega⟩⟩
   ·have bm : decide (((k + 1 : Nat) : Int) > 0) = true := by rw [decide_eq_true]; omega
    have gI : (m.map c7)[k]? = some (c7 (m.getD k 0)) := by
     rw [List.getElem?_map, List.getElem?_eq_getElem (by omega)]; simp [List.getD_eq_getElem?_getD, List.getElem?_eq_getElem (show k < m.length by omega)]
    have kP : (m.map c7)[k + 1]? = some (c7 (m.getD (k + 1) 0)) := by
     rw [List.getElem?_map, List.getElem?_eq_getElem (by omega)]; simp [List.getD_eq_getElem?_getD, List.getElem?_eq_getElem (show k + 1 < m.length by omega)]
    refine qq ?_;refine qq ?_;refine af.eY 105 (.bool (decide (m.getD k 0 > m.getD (k + 1) 0))) [] ?_ (fun ff tmp d_ => ?_)
    ·refine qm ?_;refine qg ?_;refine qm ?_;refine qm ?_ (hg := wi bm);refine qm ?_ (hg := wi bm);refine ae.gj (z := ((k : Nat) : Int)) (aH rfl rfl rfl bm) (ev rfl) (ev rfl) (by (try simp only [List.length_reverse, List.length_cons, List.length_nil, List.length_append, List.length_map, List.length_set]); rw [wrap_i64 (by omega) (by omega)] <;> omega) (ag rfl _) ?_;refine qi hH aB (fun V2 T8 => ?_) (hg := wi bm);refine qo hH aB ?_ (hg := wi bm);refine qm ?_ (hg := wi bm);refine qm ?_ (hg := wi bm);refine qi hH aB (fun Td Rw => ?_) (hg := wi bm);refine qo hH aB ?_ (hg := wi bm);refine qg ?_ (hg := wi bm);refine qt bm ?_;refine ae.nil (bq ?_ ?_)
     ·dsimp only [aD, List.foldl, nth, u2, u1]
      all_goals (first | rfl | simp)
     ·dsimp only [Fr.au, Fr.put, Fr.clean, Fr.ev, Fr.get, nth, V.look, u1, u2, v1, v2, v3, v4, v5, v6, v7, List.length, u3, u4, Nat.reduceSub, Nat.reduceAdd, List.map]
      all_goals (first | rfl | (simp [bm]; done) | (simp_all; done) | (simp [bm]; omega) | (simp_all; omega))
    dsimp only [aD, List.foldl, nth, u2, u1];dsimp only [Fr.au, Fr.put, Fr.clean, Fr.ev, Fr.get, nth, V.look, u1, u2, v1, v2, v3, v4, v5, v6, v7, List.length, u3, u4, Nat.reduceSub, Nat.reduceAdd, List.map];have TW := swap_perm (m := m) (k := k) (by omega);have wT := fun h => sF (m := m) (i := i) (k := k) (by omega) (by omega) hs h;have hsd := fun (h : m.getD k 0 ≤ m.getD (k + 1) 0) => mK (j := i + 1) hs (.inr (by rw [Nat.add_sub_cancel]; exact h));have OM : ((m.set k (m.getD (k + 1) 0)).set (k + 1) (m.getD k 0)).map c7 = ((m.map c7).set k (c7 (m.getD (k + 1) 0))).set (k + 1) (c7 (m.getD k 0)) := by rw [List.map_set, List.map_set]
    have N8 : ((m.map c7).set k (c7 (m.getD (k + 1) 0)))[k + 1]? = some (c7 (m.getD (k + 1) 0)) := by rw [List.getElem?_set_ne (by omega)]; exact kP
    generalize m.getD k 0 = a at *;generalize m.getD (k + 1) 0 = b at *;refine af.cond (by assumption) (fun h2 => ?_) (fun h2 => ?_) <;> try simp only [decide_eq_true_eq, decide_eq_false_iff_not] at h2
    ·refine af.skip ?_;refine qq ?_;refine af.block ?_;refine qj fun K hK => ?_;refine qm ?_;refine qm ?_;refine ae.gj (z := ((k : Nat) : Int)) rfl (ev rfl) (ev rfl) (by (try simp only [List.length_reverse, List.length_cons, List.length_nil, List.length_append, List.length_map, List.length_set]); rw [wrap_i64 (by omega) (by omega)] <;> omega) (ag rfl _) ?_;refine qm ?_;refine qm ?_;refine qm ?_;refine qm ?_;refine qi hH aB fun S' Rr => ?_;refine qo hH aB ?_;refine qm ?_;refine qm ?_;refine ae.gj (z := ((k : Nat) : Int)) rfl (ev rfl) (ev rfl) (by (try simp only [List.length_reverse, List.length_cons, List.length_nil, List.length_append, List.length_map, List.length_set]); rw [wrap_i64 (by omega) (by omega)] <;> omega) (ag rfl _) ?_;refine qi hH aB fun S9 Rp => ?_;refine qo hH aB ?_;refine qi hH aB fun Nz LH => ?_;refine ae.gz hH rfl (ev rfl) (ev rfl) (by assumption) rfl rfl (by exact aB) (by assumption) (Nat.le_of_ble_eq_true rfl) (by exact .inl hF) (fun st hH => ?_);dsimp only [u2, u1, u3, u4, setMany, u5, u6, D.cells, Nat.reduceAdd, aw, c7] at hH;refine qi hH aB fun S8 Ro => ?_;refine ae.gz hH rfl (ev rfl) (ev rfl) (by assumption) rfl rfl (by exact aB) (by assumption) (Nat.le_of_ble_eq_true rfl) (by exact .inl hF) (fun st hH => ?_);dsimp only [u2, u1, u3, u4, setMany, u5, u6, D.cells, Nat.reduceAdd, aw, c7] at hH;refine qe hK ?_;refine qj fun K hK => ?_;refine qm ?_;refine ae.gj (z := ((k : Nat) : Int)) rfl (ev rfl) (ev rfl) (by (try simp only [List.length_reverse, List.length_cons, List.length_nil, List.length_append, List.length_map, List.length_set]); rw [wrap_i64 (by omega) (by omega)] <;> omega) (ag rfl _) ?_;refine qm ?_;refine qe hK ?_;exact ⟨k, by omega, ⟨k, (m.set k b).set (k + 1) a, rfl, (by rw [OM]; exact hH), rfl, TW.trans hp, wT h2, by omega⟩⟩
    ·refine af.exit ?_;refine qj fun K hK => ?_;refine qm ?_;refine qA ?_;refine qm ?_;refine qe hK ?_;exact ⟨m0.length - (i + 1), by omega, ⟨i + 1, m, rfl, hH, by omega, hp, hsd (by omega), by omega⟩⟩
  ·refine af.exit ?_;refine qq ?_;refine qj fun K hK => ?_;refine qm ?_;refine qm ?_;refine qe hK ?_;refine af.ret ⟨rx, _, _, rfl, rl bN hH ((hH.freeze aB (nS _) (n := 15) (by decide))), ?_⟩;exact ⟨m, rfl, ky ▸ hp, sG (i := i - 1) (by intro a b h1 h2 h3; exact hs a b h1 h2 (by omega)) (by omega)⟩
def eM (fr:Go.V.Fr) (k:Nat):Go.V.D:=Go.V.nth .bA fr.loc k
def eR (l a:List Rg):Prop:=canon a∧∀r,c8 a r↔fZ r∧c8 l r
theorem eR.unique {l a b:List Rg} (h:eR l a) (g:eR l b):a=b:=lI h.1 g.1 fun r=>(h.2 r).trans (g.2 r).symm
noncomputable def gy (l:List Rg):Bool:=@decide (eR l l) (Classical.propDecidable _)
theorem pq {l a:List Rg} (h:eR l a):gy l=decide (l=a):=by
 unfold gy
 by_cases hl:l=a
 ·rw[decide_eq_true hl];exact@decide_eq_true _ (Classical.propDecidable _) (by rw[hl] at h⊢;exact h)
 ·rw[decide_eq_false hl];exact@decide_eq_false _ (Classical.propDecidable _) (fun g=>hl (g.unique h))
theorem pB (p q:Rg):kM pv .neq 40 (.agg (aw p)) (.agg (aw q))=some (.bool (!decide (p=q))):=by
 have h:∀a b a' b':Int,kM pv .neq 40 (.agg [.int .i32 a,.int .i32 b]) (.agg [.int .i32 a',.int .i32 b'])=Option.map (fun b=>D.bool !b) (match some (a==a') with|some true=>(match some (b==b') with|some true=>some true|some false=>some false|none=>none)|some false=>some false|none=>none):=fun _ _ _ _=>rfl;obtain⟨a,b⟩:=p;obtain⟨a',b'⟩:=q;simp only[aw,h]
 by_cases h1:a=a'
 ·subst h1
  by_cases h2:b=b'
  ·subst h2;simp
  ·have:(b==b')=false:=by simpa using h2
   simp[this,h2]
 ·have:(a==a')=false:=by simpa using h1
  simp[this,h1]
theorem kV {α:Type} {a b:List α} {i:Nat} {x y:α} (ha:a[i]?=some x) (hb:b[i]?=some y) (h:a.take i=b.take i) (Lk:x=y):a.take (i+1)=b.take (i+1):=by
 rw[List.take_add_one,List.take_add_one,h,ha,hb,Lk]
theorem pC {α:Type} {a b:List α} {i:Nat} {x y:α} (ha:a[i]?=some x) (hb:b[i]?=some y) (Lk:¬x=y):¬a=b:=by
 intro h;subst h;rw[ha] at hb;exact Lk (Option.some.inj hb)
theorem Ai {s0:St} {x y:D} {l m:List Rg} (hx:V.Rows s0 2 x (l.map aw)) (hy:V.Rows s0 2 y (m.map aw)) (hl:l.length≤1073741824) (hm:m.length≤1073741824):Ev pv 82 [x,y] s0 (.bool (decide (l=m))) s0:=by
 refine Ev.j8 rfl PK rfl rfl rfl ?_;dsimp only[u3,u4,List.length,Nat.reduceSub,Nat.reduceAdd,w1,w2];obtain⟨bN,hF,hH⟩:=ri s0;generalize aj .ro s0=S at*;have hx:=Arg.of hx bN;have hy:=Arg.of hy bN;refine qq<|qj fun K hK=>qm ?_;refine qe hK<|qq<|qq<|qj fun K hK=>qm ?_;refine qn ?_;simp only[List.length_map];refine qm ?_;refine qn ?_;simp only[List.length_map];refine qg ?_;refine qe hK ?_
 by_cases hlen:l.length=m.length
 ·refine af.cond (v:=false) ?_ (fun h=>by cases h) (fun _=>?_)
  ·dsimp only[Fr.ev,Fr.get,nth,V.look];rw[hlen];simp
  refine af.skip<|qq<|qq<|qj fun K hK=>qm ?_;refine qn ?_;simp only[List.length_map];refine qm ?_;refine qe hK<|af.block<|af.loop (fun mm fr st=>∃(i:Nat),fr.clean=⟨14,[x,y,eM fr 2,eM fr 3,.bool false,eM fr 5,eM fr 6,eM fr 7,eM fr 8,eM fr 9,eM fr 10,eM fr 11,.int .i64 (l.length:Nat),.int .i64 (i:Nat)],[]⟩∧Has s0.bs.length S st []∧(i+mm=l.length)∧(l.take i=m.take i)) (l.length) ?_ ?_
  ·exact⟨0,rfl,hH,by omega,rfl⟩
  rintro mm fr st ⟨i,hfr,hH,hi,ht⟩;rw[hfr];clear hfr;generalize eM fr=ee;clear fr;refine qq<|qj fun K hK=>qg ?_;refine qe hK<|qq ?_;refine af.cond (by rfl) (fun h1=>?_) (fun h1=>?_)<;>try simp only[decide_eq_true_eq,decide_eq_false_iff_not] at h1
  ·refine af.skip ?_
   obtain⟨p,hp⟩:∃p,l[i]?=some p:=⟨l[i]'(by omega),List.getElem?_eq_getElem _⟩
   obtain⟨q,hq⟩:∃q,m[i]?=some q:=⟨m[i]'(by omega),List.getElem?_eq_getElem _⟩
   have gI:=df hp;have kP:=df hq;refine qq<|af.block<|qq<|qj fun K hK=>qm ?_;refine qm ?_;refine qe hK<|qq<|qj fun K hK=>qm ?_;refine qm ?_;refine qr fun S5 OA=>?_;refine ae.dt rfl (ev rfl) (by assumption) rfl (ag rfl _) ?_;refine qm ?_;refine qm ?_;refine qr fun MT En=>?_;refine ae.dt rfl (ev rfl) (by assumption) rfl (ag rfl _) ?_;refine ae.Q5 rfl (ev rfl) (ev rfl) (pB p q) (ag rfl _) ?_;refine qe hK ?_;refine af.cond (by rfl) (fun h2=>?_) (fun h2=>?_)<;>try simp only[decide_eq_true_eq,decide_eq_false_iff_not,Bool.not_eq_true',Bool.not_eq_false'] at h2
   ·refine qq<|qj fun K hK=>qm ?_;refine qe hK ?_;rw[decide_eq_false (pC hp hq (by simpa using h2))];refine af.ret ⟨rx,_,rfl,rl bN hH (rfl)⟩
   ·refine af.skip<|qj fun K hK=>qA ?_;refine qm ?_;refine qe hK ?_;exact⟨mm-1,by omega,⟨i+1,rfl,hH,by omega,kV hp hq ht (by simpa using h2)⟩⟩
  ·refine af.exit<|qq<|qj fun K hK=>qm ?_;refine qe hK ?_;rw[decide_eq_true (by rw[List.take_of_length_le (by omega),List.take_of_length_le (by omega)] at ht;exact ht)];refine af.ret ⟨rx,_,rfl,rl bN hH (rfl)⟩
 ·refine af.cond (v:=true) ?_ (fun _=>?_) (fun h=>by cases h)
  ·dsimp only[Fr.ev,Fr.get,nth,V.look];simp;omega
  refine qq<|qj fun K hK=>qm ?_;refine qe hK ?_;rw[decide_eq_false (fun h=>hlen (by rw[h]))];refine af.ret ⟨rx,_,rfl,rl bN hH (rfl)⟩
theorem sX {s0:St} {x:D} {l:List Rg} (hx:V.Rows s0 2 x (l.map aw)) (hl:l.length≤1048576):Ev pv 68 [x] s0 (.bool (gy l)) s0:=by
 refine Ev.j8 rfl PV rfl rfl rfl ?_;dsimp only[u3,u4,List.length,Nat.reduceSub,Nat.reduceAdd,w1,w2];obtain⟨bN,hF,hH⟩:=ri s0;generalize aj .ro s0=S at*;have hx:=Arg.of hx bN;refine qq<|qj fun K hK=>qm ?_;refine qe hK ?_;obtain⟨_,aS,all,rfl,hperm,ku⟩:=wO (hx.rows hH) (by omega);have hM:eR l (all.foldl dh []).reverse:=oc (fun x=>hperm.mem_iff) ku;have hlen:=hperm.length_eq;have nh:=gT l;have ng:=oj all;rw[pq hM];refine qq<|qj fun K hK=>qm ?_;refine qm ?_;refine qv (aS) ?_;refine qv (Ai (hx.rows hH) (dZ _ _) (by omega) (by rw[List.length_reverse];omega)) ?_;refine qm ?_;refine qe hK<|af.ret ⟨rx,_,rfl,rl bN hH (rfl)⟩
theorem y8 {N:Nat} {S st:St} {H:List cz} {x:D} {acc:List Rg} {lo hi:Int} (hF:S.flr≤N) (hH:Has N S st (.aT x 2 (acc.reverse.map aw)::H)) (hl:acc.length≤536870912) (hb:∀k∈acc,0≤k.2+1∧k.2+1≤2147483647):
  ∃x' ai,Ev pv 90 [x,.int .i32 lo,.int .i32 hi] st x' ai∧Has N S ai (.aT x' 2 ((dR acc lo hi).reverse.map aw)::H):=by
 refine Ev.mP rfl PC rfl rfl rfl ?_;dsimp only[u3,u4,List.length,Nat.reduceSub,Nat.reduceAdd,w1,w2];change af _ _ _ _ st _;refine qq<|qj fun K hK=>qm ?_;refine qe hK ?_
 rcases acc with _|⟨h,t⟩
 ·have aZ:decide (((([]:List Rg).reverse.map aw).length:Int)>0)=false:=by decide
  refine qq<|qq<|af.eY 21 (.bool false) [] ?_ (fun ff tmp d_=>?_)
  ·refine qm ?_;refine qn ?_ (hR:=hH.rows aB);simp only[List.length_map,List.length_nil,List.length_reverse];refine qg ?_;refine qm ?_;refine qs ?_ (hg:=wn aZ);refine qs ?_ (hg:=wn aZ);refine qs ?_ (hg:=wn aZ);refine qs ?_ (hg:=wn aZ);refine qs ?_ (hg:=wn aZ);refine qs ?_ (hg:=wn aZ);refine qs ?_ (hg:=wn aZ);refine qs ?_ (hg:=wn aZ);refine qs ?_ (hg:=wn aZ);refine qs ?_ (hg:=wn aZ);refine qu aZ ?_;refine ae.nil (bq ?_ ?_)
   ·dsimp only[aD,List.foldl,nth,u2,u1]
    all_goals(first|rfl|simp)
   ·dsimp only[Fr.au,Fr.put,Fr.clean,Fr.ev,Fr.get,nth,look,u1,u2,v1,v2,v4]
    all_goals(first|rfl|(simp[aZ];done)|(simp_all;done)|(simp[aZ];omega)|(simp_all;omega))
  dsimp only[aD,List.foldl,nth,u2,u1];refine qC ?_;refine af.skip<|qq<|qj fun K hK=>qm ?_;refine qm ?_;refine qm ?_;refine qg ?_;refine qh (s:=2) (vs:=[_]) hH fun Tt st OS hH=>?_;dsimp only[u2,u1,u3,u4,setMany,u5,u6,D.cells,Nat.reduceAdd,aw] at hH;refine ae.bG (s:=2) hH rfl (ev rfl) (ev rfl) (by exact bu) (by exact hH.rows (by exact aB)) rfl rfl rfl rfl rfl rfl rfl ⟨(Nat.le_of_ble_eq_true rfl),(Nat.le_of_ble_eq_true rfl)⟩ (fun _=>(ag rfl _)) (by simp only[List.length_cons,List.length_nil,List.length_map,List.length_reverse]<;>omega) (by exact .inl hF) (fun Sr st hH=>?_);dsimp only[u2,u1,u3,u4,setMany,u5,u6,D.cells,Nat.reduceAdd,aw] at hH;refine qm ?_;refine qe hK<|af.ret ⟨rx,_,_,_,rfl,rfl,?_⟩;exact hH.drop 1
 ·have mU:=tJ h t;have c9:=tI h (h.1,hi) t;have WX:=hb h (List.mem_cons_self ..);simp only[List.length_cons] at hl;have aZ:decide (((t.length+1:Nat):Int)>0)=true:=by rw[decide_eq_true];omega
  refine qq<|qq<|af.eY 21 (.bool (decide (h.2+1=lo))) [] ?_ (fun ff tmp d_=>?_)
  ·refine qm ?_;refine qn ?_ (hR:=hH.rows aB);simp only[List.length_map,List.length_cons,List.length_reverse];refine qg ?_;refine qm ?_;refine qm ?_ (hg:=wi aZ);refine qm ?_ (hg:=wi aZ);refine qn ?_ (hR:=hH.rows aB) (hg:=wi aZ);simp only[List.length_map,List.length_cons,List.length_reverse];refine ae.gj (z:=((t.length:Nat):Int)) (aH rfl rfl rfl aZ) (ev rfl) (ev rfl) (by(try simp only[List.length_reverse,List.length_cons,List.length_nil,List.length_append,List.length_map,List.length_set]);rw[wrap_i64 (by omega) (by omega)]<;>omega) (ag rfl _) ?_;refine qi hH aB (fun Ny Je=>?_) (hg:=wi aZ);refine ae.fN (fo:=1) (m:=0) (o2:=1) (aH rfl rfl rfl aZ) (ev rfl) (by assumption) rfl rfl rfl (fun _=>(ag rfl _)) (fun Q2 LG=>?_);refine qo hH aB ?_ (hg:=wi aZ);refine ae.wa (aH rfl rfl rfl aZ) (ev rfl) (ev rfl) (by omega) (by omega) (ag rfl _) ?_;refine qm ?_ (hg:=wi aZ);refine qg ?_ (hg:=wi aZ);refine qt aZ ?_;refine ae.nil (bq ?_ ?_)
   ·dsimp only[aD,List.foldl,nth,u2,u1]
    all_goals(first|rfl|simp)
   ·dsimp only[Fr.au,Fr.put,Fr.clean,Fr.ev,Fr.get,nth,look,u1,u2,v1,v2,v4]
    all_goals(rfl)
  dsimp only[aD,List.foldl,nth,u2,u1];refine af.cond (by assumption) (fun h2=>?_) (fun h2=>?_)<;>try simp only[decide_eq_true_eq,decide_eq_false_iff_not] at h2
  ·refine qq<|qj fun K hK=>qm ?_;refine qm ?_;refine qn ?_ (hR:=hH.rows aB);simp only[List.length_map,List.length_cons,List.length_reverse];refine ae.gj (z:=((t.length:Nat):Int)) rfl (ev rfl) (ev rfl) (by(try simp only[List.length_reverse,List.length_cons,List.length_nil,List.length_append,List.length_map,List.length_set]);rw[wrap_i64 (by omega) (by omega)]<;>omega) (ag rfl _) ?_;refine qm ?_;refine qi hH aB fun S0 Oz=>?_;refine ae.fN (fo:=1) (m:=0) (o2:=1) rfl (ev rfl) (by assumption) rfl rfl rfl (fun _=>(ag rfl _)) (fun Nu Ja=>?_);refine ae.gz hH rfl (ev rfl) (ev rfl) (by assumption) rfl rfl (by exact aB) (by assumption) (Nat.le_of_ble_eq_true rfl) (by exact .inl hF) (fun st hH=>?_);dsimp only[u2,u1,u3,u4,setMany,u5,u6,D.cells,Nat.reduceAdd,aw] at hH;refine qe hK<|qq<|qj fun K hK=>qm ?_;refine qm ?_;refine qe hK<|af.ret ⟨rx,_,_,_,rfl,rfl,?_⟩;simp only[dR,if_pos h2];rw[←c9];exact hH
  ·refine af.skip<|qq<|qj fun K hK=>qm ?_;refine qm ?_;refine qm ?_;refine qg ?_;refine qh (s:=2) (vs:=[_]) hH fun Tt st OS hH=>?_;dsimp only[u2,u1,u3,u4,setMany,u5,u6,D.cells,Nat.reduceAdd,aw] at hH;refine ae.bG (s:=2) hH rfl (ev rfl) (ev rfl) (by exact bu) (by exact hH.rows (by exact aB)) rfl rfl rfl rfl rfl rfl rfl ⟨(Nat.le_of_ble_eq_true rfl),(Nat.le_of_ble_eq_true rfl)⟩ (fun _=>(ag rfl _)) (by simp only[List.length_cons,List.length_nil,List.length_map,List.length_reverse]<;>omega) (by exact .inl hF) (fun Sr st hH=>?_);dsimp only[u2,u1,u3,u4,setMany,u5,u6,D.cells,Nat.reduceAdd,aw] at hH;refine qm ?_;refine qe hK<|af.ret ⟨rx,_,_,_,rfl,rfl,?_⟩;simp only[dR,if_neg h2];rw[List.reverse_cons (a:=(lo,hi)),List.map_append];exact hH.drop 1
theorem xG (acc:List Rg) (lo hi:Int):(dR acc lo hi).length≤acc.length+1:=by
 unfold dR;split
 ·simp
 ·split<;>simp
theorem IF (l:List Rg) (a b:Int):J_ l true a b=((decide (a<b) &&(decide (a<55296)||decide (a>57343))) &&fJ l a):=by
 unfold J_;cases fJ l a<;>simp
theorem uU {s0:St} {x:D} {l:List Rg} (hx:V.Rows s0 2 x (l.map aw)) (hl:l.length≤134217728):∃d,Ev pv 81 [x] s0 d s0∧∃a:List Rg,d=bt a∧eR l a:=by
 refine Ev.AS rfl PL rfl rfl rfl ?_;dsimp only[u3,u4,List.length,Nat.reduceSub,Nat.reduceAdd,w1,w2];obtain⟨bN,hF,hH⟩:=ri s0;generalize aj .ro s0=S at*;have hx:=Arg.of hx bN;refine qq<|qj fun K hK=>qm ?_;refine qe hK ?_;obtain⟨_,aS,m,rfl,hperm,ku⟩:=zu (hx.rows hH) (by omega);have hlen:=hperm.length_eq;have nh:=my l;have x6:m.length=4+(l.flatMap gg).length:=by rw[hlen];simp[eJ];omega
 have RA:∀q∈m,0≤q∧q≤1114112:=by
  intro q hq;have:=hperm.mem_iff.1 hq;simp only[eJ,List.mem_append,List.mem_cons,List.not_mem_nil,or_false,List.mem_flatMap] at this
  rcases this with(h|h|h|h)|⟨y,_,hy⟩
  ·omega
  ·omega
  ·omega
  ·omega
  ·unfold gg at hy
   split at hy<;>split at hy<;>simp at hy<;>omega
 have hM:=o3 (l:=l) (m:=m) true (fun q=>by
  rw[hperm.mem_iff]
  simp only[eJ,List.mem_append,List.mem_cons,List.not_mem_nil,or_false,List.mem_flatMap,or_assoc]) ku
 have Vu:eR l (eF l true m []).reverse:=⟨hM.1,fun r=>by rw[hM.2 r];simp⟩
 refine qq<|qj fun K hK=>qm ?_;refine qv (aS) ?_;refine qm ?_;refine qe hK ?_;have ky:=Arg.pure (N:=s0.bs.length) (S:=S) (s:=1) (es:=(m.map c7).map (ke 1)) (fun st=>sU st m);change Arg s0.bs.length S 1 (qN m) _ at ky;refine qq<|qj fun K hK=>qm ?_;refine qe hK<|qq<|qq<|qj fun K hK=>qm ?_;refine qe hK ?_;have hH:=hH.fx 2;refine af.block<|af.loop (fun mm fr st=>∃(i:Nat) (y:D) (acc:List Rg),fr.clean=⟨6,[x,eM fr 1,eM fr 2,qN m,y,.int .i64 (i:Nat)],[]⟩∧Has s0.bs.length S st [.aT y 2 (acc.reverse.map aw)]∧(i+mm=m.length)∧(eF l true (m.drop i) acc=eF l true m [])∧(acc.length≤i)∧(∀k∈acc,0≤k.2+1∧k.2+1≤1114112)) (m.length) ?_ ?_
 ·exact⟨0,.nul,[],rfl,hH,by omega,rfl,by simp,by simp⟩
 rintro mm fr st ⟨i,y,acc,hfr,hH,hi,hp,hal,hab⟩;rw[hfr];clear hfr;generalize eM fr=ee;clear fr;refine qq<|qq<|qj fun K hK=>qm ?_;refine qA ?_;refine qm ?_;refine qn ?_;simp only[List.length_map];refine qg ?_;refine qe hK ?_;refine af.cond (by rfl) (fun h1=>?_) (fun h1=>?_)<;>try simp only[decide_eq_true_eq,decide_eq_false_iff_not] at h1
 ·refine af.skip ?_
  obtain⟨a,ha⟩:∃a,m[i]?=some a:=⟨m[i]'(by omega),List.getElem?_eq_getElem _⟩
  obtain⟨b,hb⟩:∃b,m[i+1]?=some b:=⟨m[i+1]'(by omega),List.getElem?_eq_getElem _⟩
  have gI:=sV ha;have kP:=sV hb;have RV:=RA b (List.mem_of_getElem? hb);have M6:=RA a (List.mem_of_getElem? ha)
  have x8:m.drop i=a::b::m.drop (i+2):=by
   rw[List.drop_eq_getElem_cons (by omega),List.drop_eq_getElem_cons (by omega)];rw[List.getElem?_eq_getElem (by omega)] at ha hb;rw[Option.some.inj ha,Option.some.inj hb]
  have O_:m.drop (i+1)=b::m.drop (i+2):=by
   rw[List.drop_eq_getElem_cons (by omega)];rw[List.getElem?_eq_getElem (by omega)] at hb;rw[Option.some.inj hb]
  rw[x8,eF,←O_,IF] at hp;refine qq<|af.block<|qq<|af.eY 46 (.bool ((decide (a<b) &&(decide (a<55296)||decide (a>57343))) &&fJ l a)) [] ?_ (fun ff tmp d_=>?_)
  ·refine qm ?_;refine qm ?_;refine qr fun Nw Jd=>?_;refine qR ?_;refine qm ?_;refine qm ?_;refine qA ?_;refine qr fun MT En=>?_;refine qR ?_;refine qg ?_;refine qm ?_;refine ae.two 25 rfl (fun aV=>?_) (fun aV=>?_)
   ·refine qm ?_ (hg:=wi aV);refine qm ?_ (hg:=wi aV);refine qr (fun Nu Ja=>?_) (hg:=wi aV);refine qR ?_ (hg:=wi aV);refine qg ?_ (hg:=wi aV);refine qm ?_ (hg:=wi aV);refine ae.two 31 rfl (fun km=>?_) (fun km=>?_)
    ·refine qs ?_ (hg:=wn km);refine qs ?_ (hg:=wn km);refine qs ?_ (hg:=wn km);refine qs ?_ (hg:=wn km);refine qs ?_ (hg:=wn km);refine ae.dA (aH rfl rfl rfl aV) rfl km (ag rfl _) ?_;refine qt aV ?_;refine qm ?_;refine qm ?_;refine qm ?_;refine qm ?_;refine qr fun QX LA=>?_;refine qR ?_;refine qv (l4 (hx.rows hH) (by omega)) ?_;refine qg ?_;refine ae.nil (bq ?_ ?_)
     ·dsimp only[aD,List.foldl,nth,u2,u1]
      all_goals(first|rfl|simp)
     ·dsimp only[Fr.au,Fr.put,Fr.clean,Fr.ev,Fr.get,nth,V.look,u1,u2,v1,v2,v3,v4,v5,v6,v7,List.length,u3,u4,Nat.reduceSub,Nat.reduceAdd,List.map]
      all_goals(simp[aV,km];done)
    ·refine qm ?_ (hg:=wi km);refine qm ?_ (hg:=wi km);refine qr (fun SZ Oy=>?_) (hg:=wi km);refine qR ?_ (hg:=wi km);refine qg ?_ (hg:=wi km);refine ae.cV (aH rfl rfl rfl aV) rfl km (ag rfl _) ?_;refine qt aV ?_;refine qm ?_;refine ae.two 39 rfl (fun eN=>?_) (fun eN=>?_)
     ·refine qm ?_ (hg:=wi eN);refine qm ?_ (hg:=wi eN);refine qm ?_ (hg:=wi eN);refine qr (fun QX LA=>?_) (hg:=wi eN);refine qR ?_ (hg:=wi eN);refine qv (l4 (hx.rows hH) (by omega)) ?_ (hg:=wi eN);refine qt eN ?_;refine ae.nil (bq ?_ ?_)
      ·dsimp only[aD,List.foldl,nth,u2,u1]
       all_goals(first|rfl|simp)
      ·dsimp only[Fr.au,Fr.put,Fr.clean,Fr.ev,Fr.get,nth,V.look,u1,u2,v1,v2,v3,v4,v5,v6,v7,List.length,u3,u4,Nat.reduceSub,Nat.reduceAdd,List.map]
       all_goals(simp[aV,km,eN];done)
     ·refine qs ?_ (hg:=wn eN);refine qs ?_ (hg:=wn eN);refine qs ?_ (hg:=wn eN);refine qs ?_ (hg:=wn eN);refine qs ?_ (hg:=wn eN);refine qs ?_ (hg:=wn eN);refine qu eN ?_;refine ae.nil (bq ?_ ?_)
      ·dsimp only[aD,List.foldl,nth,u2,u1]
       all_goals(first|rfl|simp)
      ·dsimp only[Fr.au,Fr.put,Fr.clean,Fr.ev,Fr.get,nth,V.look,u1,u2,v1,v2,v3,v4,v5,v6,v7,List.length,u3,u4,Nat.reduceSub,Nat.reduceAdd,List.map]
       all_goals(simp[aV,km,eN];done)
   ·refine qs ?_ (hg:=wn aV);refine qs ?_ (hg:=wn aV);refine qs ?_ (hg:=wn aV);refine qs ?_ (hg:=wn aV);refine qs ?_ (hg:=wn aV);refine qs ?_ (hg:=wn aV);refine qs ?_;refine qs ?_;refine qs ?_;refine qs ?_;refine qs ?_;refine qs ?_ (hg:=wn aV);refine qu aV ?_;refine qm ?_;refine qs ?_;refine qs ?_;refine qs ?_;refine qs ?_;refine qs ?_;refine qs ?_;refine qg ?_;refine ae.nil (bq ?_ ?_)
    ·dsimp only[aD,List.foldl,nth,u2,u1]
     all_goals(first|rfl|simp)
    ·dsimp only[Fr.au,Fr.put,Fr.clean,Fr.ev,Fr.get,nth,V.look,u1,u2,v1,v2,v3,v4,v5,v6,v7,List.length,u3,u4,Nat.reduceSub,Nat.reduceAdd,List.map]
     all_goals(simp[aV];done)
  dsimp only[aD,List.foldl,nth,u2,u1];dsimp only[Fr.au,Fr.put,Fr.clean,Fr.ev,Fr.get,nth,V.look,u1,u2,v1,v2,v3,v4,v5,v6,v7,List.length,u3,u4,Nat.reduceSub,Nat.reduceAdd,List.map];refine qc (fun h2=>?_) (fun h2=>?_)<;>try simp only[cs] at h2
  ·rw[h2,if_pos rfl] at hp;have ji:=xG acc a (b-1);obtain⟨x',ai,O7,Fh⟩:=y8 (acc:=acc) (lo:=a) (hi:=b-1) hF hH (by omega) (fun k hk=>by have:=hab k hk;omega);refine qj fun K hK=>qm ?_;refine qm ?_;refine qm ?_;refine qr fun QV Ly=>?_;refine qR ?_;refine qm ?_;refine qm ?_;refine qA ?_;refine qr fun SR Oq=>?_;refine qR ?_;refine ae.Fq rfl (ev rfl) (ev rfl) (by omega) (by omega) (ag rfl _) ?_;refine qv (O7) ?_;refine qm ?_;refine qe hK ?_;have hH:=Fh;refine qj fun K hK=>qm ?_;refine qA ?_;refine qm ?_;refine qe hK ?_;refine⟨mm-1,by omega,⟨i+1,x',dR acc a (b-1),rfl,hH,by omega,hp,by omega,?_⟩⟩;intro k hk;unfold dR at hk
   split at hk
   ·simp only[List.mem_cons,List.not_mem_nil,or_false] at hk;subst hk;simp only;omega
   ·rename_i h t
    split at hk
    ·rcases List.mem_cons.1 hk with rfl|hk
     ·simp only;omega
     ·exact hab k (List.mem_cons_of_mem _ hk)
    ·rcases List.mem_cons.1 hk with rfl|hk
     ·simp only;omega
     ·exact hab k hk
  ·rw[h2] at hp;refine af.skip<|qj fun K hK=>qm ?_;refine qA ?_;refine qm ?_;refine qe hK ?_;exact⟨mm-1,by omega,⟨i+1,y,acc,rfl,hH,by omega,hp,by omega,hab⟩⟩
 ·refine af.exit<|qq<|qj fun K hK=>qm ?_;refine qm ?_;refine qe hK ?_
  have dD:acc=eF l true m []:=by
   rw[←hp];have Kn:(m.drop i).length≤1:=by rw[List.length_drop];omega
   match hd:m.drop i,Kn with
   |[],_=>rfl
   |[_],_=>rfl
  refine af.ret ⟨rx,_,_,rfl,rl bN hH ((hH.freeze aB (eT _) (n:=15) (by decide))),?_⟩;exact⟨acc.reverse,by rw[fw],by rw[dD];exact Vu⟩
theorem s_ {s0:St} {x:D} {l:List Rg} (hx:V.Rows s0 2 x (l.map aw)) (hl:l.length≤1048576):Ev pv 67 [x] s0 (.bool (gy l)) s0:=by
 refine Ev.j8 rfl PW rfl rfl rfl ?_;dsimp only[u3,u4,List.length,Nat.reduceSub,Nat.reduceAdd,w1,w2];obtain⟨bN,hF,hH⟩:=ri s0;generalize aj .ro s0=S at*;have hx:=Arg.of hx bN;refine qq<|qj fun K hK=>qm ?_;refine qe hK ?_;obtain⟨_,aS,m,rfl,hM⟩:=uU (hx.rows hH) (by omega);rw[pq hM];refine qq<|qj fun K hK=>qm ?_;refine qv (aS) ?_;refine qm ?_;refine qe hK ?_;have ky:Arg s0.bs.length S 2 (bt m) (m.map aw):=Arg.pure (fun st=>dZ st m);refine qq<|qq<|qj fun K hK=>qm ?_;refine qn ?_;simp only[List.length_map];refine qm ?_;refine qn ?_;simp only[List.length_map];refine qg ?_;refine qe hK ?_
 by_cases hlen:m.length=l.length
 ·refine af.cond (v:=false) ?_ (fun h=>by cases h) (fun _=>?_)
  ·dsimp only[Fr.ev,Fr.get,nth,V.look];rw[hlen];simp
  refine af.skip<|qq<|qq<|qj fun K hK=>qm ?_;refine qe hK<|af.block<|af.loop (fun mm fr st=>∃(i:Nat),fr.clean=⟨5,[x,eM fr 1,.bool false,bt m,.int .i64 (i:Nat)],[]⟩∧Has s0.bs.length S st []∧(i+mm=l.length)∧(l.take i=m.take i)) (l.length) ?_ ?_
  ·exact⟨0,rfl,hH,by omega,rfl⟩
  rintro mm fr st ⟨i,hfr,hH,hi,ht⟩;rw[hfr];clear hfr;generalize eM fr=ee;clear fr;refine qq<|qq<|qj fun K hK=>qm ?_;refine qm ?_;refine qn ?_;simp only[List.length_map];refine qg ?_;refine qe hK ?_;refine af.cond (by rfl) (fun h1=>?_) (fun h1=>?_)<;>try simp only[decide_eq_true_eq,decide_eq_false_iff_not] at h1
  ·refine af.skip ?_
   obtain⟨p,hp⟩:∃p,l[i]?=some p:=⟨l[i]'(by omega),List.getElem?_eq_getElem _⟩
   obtain⟨q,hq⟩:∃q,m[i]?=some q:=⟨m[i]'(by omega),List.getElem?_eq_getElem _⟩
   have gI:=df hp;have kP:=df hq;refine qq<|af.block<|qq<|qj fun K hK=>qm ?_;refine qm ?_;refine qr fun Nv Jb=>?_;refine ae.dt rfl (ev rfl) (by assumption) rfl (ag rfl _) ?_;refine qm ?_;refine qm ?_;refine qr fun MS Em=>?_;refine ae.dt rfl (ev rfl) (by assumption) rfl (ag rfl _) ?_;refine ae.Q5 rfl (ev rfl) (ev rfl) (pB q p) (ag rfl _) ?_;refine qe hK ?_;refine af.cond (by rfl) (fun h2=>?_) (fun h2=>?_)<;>try simp only[decide_eq_true_eq,decide_eq_false_iff_not,Bool.not_eq_true',Bool.not_eq_false'] at h2
   ·refine qq<|qj fun K hK=>qm ?_;refine qe hK ?_;rw[decide_eq_false (pC hp hq (by simpa[eq_comm] using h2))];refine af.ret ⟨rx,_,rfl,rl bN hH (rfl)⟩
   ·refine af.skip<|qj fun K hK=>qm ?_;refine qA ?_;refine qm ?_;refine qe hK ?_;exact⟨mm-1,by omega,⟨i+1,rfl,hH,by omega,kV hp hq ht (by simpa[eq_comm] using h2)⟩⟩
  ·refine af.exit<|qq<|qj fun K hK=>qm ?_;refine qe hK ?_;rw[decide_eq_true (by rw[List.take_of_length_le (by omega),List.take_of_length_le (by omega)] at ht;exact ht)];refine af.ret ⟨rx,_,rfl,rl bN hH (rfl)⟩
 ·refine af.cond (v:=true) ?_ (fun _=>?_) (fun h=>by cases h)
  ·dsimp only[Fr.ev,Fr.get,nth,V.look];simp;omega
  refine qq<|qj fun K hK=>qm ?_;refine qe hK ?_;rw[decide_eq_false (fun h=>hlen (by rw[h]))];refine af.ret ⟨rx,_,rfl,rl bN hH (rfl)⟩
end Go.Proofs.Ytbdilgkfnacahaa
