/-
 Ranges of runes: the canonical form, by plain lists. No program in sight.
-/
import Derived.Test.YtecjacicdpejaaaGreatWGHr
import Derived.Test.YtecjacicdpejaaaGreatWPx
import Derived.Test.YtecjacicdpejaaaGreatWM2
import Derived.KernelRfl
set_option linter.unusedSimpArgs false
set_option linter.unusedVariables false
set_option maxRecDepth 100000
set_option maxHeartbeats 4000000
open List renaming length_map→γ,getElem?_eq_getElem→δ,length_cons→ε,length_reverse→η,mem_cons→θ,foldl→κ,length_nil→μ,mem_cons_self→ν,mem_cons_of_mem→ξ,length_append→ο,pairwise_cons→π,take_of_length_le→ρ,getD_eq_getElem?_getD→τ,take_add_one→υ,length_set→φ,drop_eq_getElem_cons→ψ,getElem?_map→ω,mem_flatMap→Γ,map_append→Δ,not_mem_nil→Ξ,mem_append→Ψ,drop_succ_cons→Ω,take_succ_cons→Q5,reverse_cons→ZD,cons_append→Zn,length_take→Zt,mem_reverse→YQ,set_append_right→Y',drop_zero→JS,getElem?_set_ne→wt,mem_of_getElem?→xw,take_zero→v8,flatten_cons→VQ,mem_map→VM,getLast?_eq_some_getLast→Bv,nil_append→BY,pairwise_iff_getElem→Cr,map_cons→IN,getElem?_set_self→IS,pairwise_reverse→LL,mem_of_mem_take→P8,flatMap_append→Pd,append_assoc→AT,flatMap_cons→AI,length_drop→cg,append_nil→lx,foldl_cons→tn,Pairwise→Qa1,map_set→Qa2
open Nat renaming le_of_ble_eq_true→ζ,reduceAdd→ι
open Go.V.ab renaming nil→ς,two→Θ,gd→OF,cL→R2,c_→R3,iU→Qa3,av→Qa6,jb→Qa7,Ct→Qa9,Je→Qaa
open Go.V.D renaming cells→χ,ref→Qa4
open Int renaming le_refl→Φ,lt_or_le→IT,le_antisymm→Qa0
open Go.V.Fr renaming put→Wh,get→ki,clean→GB,ev→Cf,eH→hD
open Classical renaming propDecidable→Z5
open Go.V renaming Rows→YH,look→Qa5
open Go.V.Arg renaming of→Ut,pure→Qa8
open Option renaming some→VT,toList_some→PR
open Bool renaming not_eq_false'→Pe,not_eq_true'→AN,and_eq_true→bU
namespace Go.V
abbrev Rg:=Int×Int
def fG (l:List Rg) (r:Int):Prop:=∃x,x∈l∧x.1≤r∧r≤x.2
theorem gz (r:Int):¬fG [] r:=by rintro⟨x,h,_⟩;cases h
variable{x:Rg}{l:List Rg}{r:Int}
theorem cD:fG (x::l) r↔(x.1≤r∧r≤x.2)∨fG l r:=by
 constructor
 ·rintro⟨y,hy,h⟩
  rcases θ.1 hy with rfl|hy
  ·exact .inl h
  ·exact .inr ⟨y,hy,h⟩
 ·rintro(h|⟨y,hy,h⟩)
  ·exact⟨x,ν ..,h⟩
  ·exact⟨y,ξ _ hy,h⟩
variable{a b:List Rg}
theorem DJ:fG (a++b) r↔fG a r∨fG b r:=by
 constructor
 ·rintro⟨y,hy,h⟩
  rcases Ψ.1 hy with hy|hy
  ·exact .inl ⟨y,hy,h⟩
  ·exact .inr ⟨y,hy,h⟩
 ·rintro(⟨y,hy,h⟩|⟨y,hy,h⟩)
  ·exact⟨y,List.mem_append_left _ hy,h⟩
  ·exact⟨y,List.mem_append_right _ hy,h⟩
theorem ur (h:∀x,x∈a↔x∈b) (r:Int):fG a r↔fG b r:=by
 constructor
 ·rintro⟨y,hy,hh⟩;exact⟨y,(h y).1 hy,hh⟩
 ·rintro⟨y,hy,hh⟩;exact⟨y,(h y).2 hy,hh⟩
def canon (l:List Rg):Prop:=(∀x∈l,x.1≤x.2)∧l.Pairwise fun x y=>x.2+1<y.1
theorem ox (h:canon (x::l)):canon l∧x.1≤x.2∧∀r,fG l r→x.2+1<r:=by
 obtain⟨h1,h2⟩:=h;rw[π] at h2;refine⟨⟨fun y hy=>h1 y (ξ _ hy),h2.2⟩,h1 x (ν ..),?_⟩;rintro r ⟨y,hy,h3,h4⟩;have:=h2.1 y hy;omega
theorem tw:∀{a b:List Rg},canon a→canon b→(∀r,fG a r↔fG b r)→a=b
 |[],[],_,_,_=>rfl
 |[],y::b,_,hb,h=>by
  obtain⟨_,h1,_⟩:=ox hb;exact absurd ((h y.1).2 (cD.2 (.inl ⟨Φ _,h1⟩))) (gz _)
 |x::a,[],ha,_,h=>by
  obtain⟨_,h1,_⟩:=ox ha;exact absurd ((h x.1).1 (cD.2 (.inl ⟨Φ _,h1⟩))) (gz _)
 |x::a,y::b,ha,hb,h=>by
  obtain⟨ca,xa,fa⟩:=ox ha;obtain⟨cb,yb,fb⟩:=ox hb
  have low:∀{x y:Rg} {a b:List Rg},x.1≤x.2→(∀r,fG b r→y.2+1<r)→y.1≤y.2→(∀r,fG (x::a) r→fG (y::b) r)→y.1≤x.1:=by
   intro x y a b hx hf hy hh
   rcases cD.1 (hh x.1 (cD.2 (.inl ⟨Φ _,hx⟩))) with h|h
   ·exact h.1
   ·have:=hf _ h;omega
  have e1:x.1=y.1:=Qa0 (low yb fa xa fun r=>(h r).2) (low xa fb yb fun r=>(h r).1)
  have up:∀{x y:Rg} {a b:List Rg},x.1≤x.2→x.1=y.1→(∀r,fG a r→x.2+1<r)→(∀r,fG (y::b) r→fG (x::a) r)→y.2≤x.2:=by
   intro x y a b hx he hf hh
   rcases IT x.2 y.2 with h'|h'
   ·rcases cD.1 (hh (x.2+1) (cD.2 (.inl ⟨by omega,by omega⟩))) with h|h
    ·omega
    ·have:=hf _ h;omega
   ·exact h'
  have e2:x.2=y.2:=Qa0 (up yb e1.symm fb fun r=>(h r).1) (up xa e1 fa fun r=>(h r).2);have e:x=y:=Prod.ext e1 e2;subst e
  congr 1
  refine tw ca cb fun r=>⟨fun hr=>?_,fun hr=>?_⟩
  ·have:=fa r hr
   rcases cD.1 ((h r).1 (cD.2 (.inr hr))) with h|h
   ·omega
   ·exact h
  ·have:=fb r hr
   rcases cD.1 ((h r).2 (cD.2 (.inr hr))) with h|h
   ·omega
   ·exact h
def fQ (acc:List Rg) (r:Rg):List Rg:=
 match acc with
 |[]=>[r]
 |k::rest=>if r.1≤k.2+1 then(k.1,max k.2 r.2)::rest else r::k::rest
theorem sL:∀(l acc:List Rg),(∀x∈l,x.1≤x.2)→l.Pairwise (fun x y=>x.1≤y.1)→(∀k∈acc.head?,∀x∈l,k.1≤x.1)→(∀x∈acc,x.1≤x.2)→acc.Pairwise (fun x y=>y.2+1<x.1)→
  (∀x∈l.foldl fQ acc,x.1≤x.2)∧(l.foldl fQ acc).Pairwise (fun x y=>y.2+1<x.1)∧∀r,fG (l.foldl fQ acc) r↔fG acc r∨fG l r
 |[],acc,_,_,_,h1,h2=>⟨h1,h2,fun r=>⟨.inl,fun h=>h.resolve_right (gz r)⟩⟩
 |x::l,acc,hl,hp,hk,h1,h2=>by
  rw[π] at hp;have hx:=hl x (ν ..);have j7:∀y∈l,y.1≤y.2:=fun y hy=>hl y (ξ _ hy);rw[tn]
  cases acc with
  |nil=>
   obtain⟨g1,g2,g3⟩:=sL l [x] j7 hp.2 (fun k og y hy=>by simp at og;subst og;exact hp.1 y hy) (fun y hy=>by simp at hy;subst hy;exact hx) (by simp);refine⟨g1,g2,fun r=>(g3 r).trans ?_⟩;rw[cD (l:=l),cD (l:=[])];constructor
   ·rintro((h|h)|h)
    ·exact .inr (.inl h)
    ·exact absurd h (gz r)
    ·exact .inr (.inr h)
   ·rintro(h|h|h)
    ·exact absurd h (gz r)
    ·exact .inl (.inl h)
    ·exact .inr h
  |cons k rest=>
   have hkx:=hk k rfl x (ν ..);have hkk:=h1 k (ν ..);rw[π] at h2;unfold fQ
   by_cases hc:x.1≤k.2+1
   ·simp only[if_pos hc]
    obtain⟨g1,g2,g3⟩:=sL l ((k.1,max k.2 x.2)::rest) j7 hp.2 (fun q hq y hy=>by simp at hq;subst hq;have:=hp.1 y hy;simp only;omega) (fun y hy=>by
     rcases θ.1 hy with rfl|hy
     ·simp only;omega
     ·exact h1 y (ξ _ hy)) (by rw[π];exact⟨h2.1,h2.2⟩)
    refine⟨g1,g2,fun r=>(g3 r).trans ?_⟩;rw[cD (l:=rest),cD (l:=rest),cD (l:=l)];constructor
    ·rintro((h|h)|h)
     ·simp only at h
      by_cases hr:r≤k.2
      ·exact .inl (.inl ⟨h.1,hr⟩)
      ·exact .inr (.inl ⟨by omega,by omega⟩)
     ·exact .inl (.inr h)
     ·exact .inr (.inr h)
    ·rintro((h|h)|h|h)
     ·exact .inl (.inl ⟨h.1,by simp only;omega⟩)
     ·exact .inl (.inr h)
     ·exact .inl (.inl ⟨by simp only;omega,by simp only;omega⟩)
     ·exact .inr h
   ·simp only[if_neg hc]
    obtain⟨g1,g2,g3⟩:=sL l (x::k::rest) j7 hp.2 (fun q hq y hy=>by simp at hq;subst hq;exact hp.1 y hy) (fun y hy=>by
     rcases θ.1 hy with rfl|hy
     ·exact hx
     ·exact h1 y hy) (by
     rw[π];refine⟨fun y hy=>?_,by rw[π];exact h2⟩
     rcases θ.1 hy with rfl|hy
     ·omega
     ·have:=h2.1 y hy;omega)
    refine⟨g1,g2,fun r=>(g3 r).trans ?_⟩;rw[cD (l:=k::rest),cD (l:=l)];constructor
    ·rintro((h|h)|h)
     ·exact .inr (.inl h)
     ·exact .inl h
     ·exact .inr (.inr h)
    ·rintro(h|h|h)
     ·exact .inl (.inr h)
     ·exact .inl (.inl h)
     ·exact .inr h
theorem F4 (h1:∀x∈l,x.1≤x.2) (h2:l.Pairwise fun x y=>x.1≤y.1):canon (l.foldl fQ []).reverse∧∀r,fG (l.foldl fQ []).reverse r↔fG l r:=by
 obtain⟨g1,g2,g3⟩:=sL l [] h1 h2 (fun k hk=>by simp at hk) (fun x hx=>by simp at hx) Qa1.nil;refine⟨⟨fun x hx=>g1 x (YQ.1 hx),by rw[LL];exact g2⟩,fun r=>?_⟩;rw[ur (fun x=>YQ) r,g3 r];exact⟨fun h=>h.resolve_left (gz r),.inr⟩
def kj (r:Int):Prop:=0≤r∧r≤1114111∧¬(55296≤r∧r≤57343)
def gf (x:Rg):List Rg:=
 (if max (max x.1 0) 0≤min (min x.2 1114111) 55295 then[(max (max x.1 0) 0,min (min x.2 1114111) 55295)] else[])++
 (if max (max x.1 0) 57344≤min (min x.2 1114111) 1114111 then[(max (max x.1 0) 57344,min (min x.2 1114111) 1114111)] else[])
theorem wZ (x:Rg) (r:Int):fG (gf x) r↔kj r∧x.1≤r∧r≤x.2:=by
 unfold gf kj;rw[DJ]
 have one:∀(a b:Int),fG (if a≤b then[(a,b)] else[]) r↔a≤r∧r≤b:=by
  intro a b
  split
  ·rw[cD];exact⟨fun h=>h.elim id fun h=>absurd h (gz r),.inl⟩
  ·exact⟨fun h=>absurd h (gz r),fun h=>by omega⟩
 rw[one,one];omega
theorem tX (x:Rg):∀y∈gf x,y.1≤y.2∧0≤y.1∧y.2≤1114111:=by
 intro y hy;unfold gf at hy
 rcases Ψ.1 hy with h|h<;>split at h<;>simp at h<;>subst h<;>simp only<;>omega
theorem xJ {all:List Rg} (hp:∀x,x∈all↔x∈l.flatMap gf) (hs:all.Pairwise fun x y=>x.1≤y.1):canon (all.foldl fQ []).reverse∧∀r,fG (all.foldl fQ []).reverse r↔kj r∧fG l r:=by
 have hle:∀x∈all,x.1≤x.2:=fun x hx=>by
  obtain⟨y,_,hy⟩:=Γ.1 ((hp x).1 hx);exact(tX y x hy).1
 obtain⟨g1,g2⟩:=F4 hle hs;refine⟨g1,fun r=>(g2 r).trans ((ur hp r).trans ?_)⟩;constructor
 ·rintro⟨y,hy,h⟩;obtain⟨x,hx,hy⟩:=Γ.1 hy;have:=(wZ x r).1 ⟨y,hy,h⟩;exact⟨this.1,x,hx,this.2⟩
 ·rintro⟨hr,x,hx,h⟩;obtain⟨y,hy,h'⟩:=(wZ x r).2 ⟨hr,h⟩;exact⟨y,Γ.2 ⟨x,hx,hy⟩,h'⟩
def lE:List Rg→Int→Bool
 |[],_=>false
 |x::l,r=>(decide (x.1≤r) &&decide (r≤x.2))||lE l r
theorem yl:∀(l:List Rg) (r:Int),lE l r=true↔fG l r
 |[],r=>⟨fun h=>(by cases h),fun h=>absurd h (gz r)⟩
 |x::l,r=>by
  rw[cD,←yl l r];simp[lE]
def lp (x:Rg):List Int:=
 (if x.1≤x.2∧0≤x.1∧x.1≤1114111 then[x.1] else[])++(if x.1≤x.2∧0≤x.2∧x.2<1114111 then[x.2+1] else[])
def gV (acc:List Rg) (lo hi:Int):List Rg:=
 match acc with
 |[]=>[(lo,hi)]
 |k::rest=>if k.2+1=lo then(k.1,hi)::rest else(lo,hi)::k::rest
def TF (l:List Rg) (yes:Bool) (a b:Int):Bool:=decide (a<b) &&(decide (a<55296)||decide (57343<a)) &&(lE l a==yes)
def iT (l:List Rg) (yes:Bool):List Int→List Rg→List Rg
 |a::b::t,acc=>iT l yes (b::t) (if TF l yes a b=true then gV acc a (b-1) else acc)
 |_,acc=>acc
theorem Ql {m:List Int} {a b:Int} (hm:∀x∈l,∀e∈lp x,e≤a∨b≤e) (h1:55296≤a∨b≤55296) (h2:57344≤a∨b≤57344) (ha:0≤a) (hb:b≤1114112) (hr:a≤r) (U_:r<b):
  (kj r↔¬(55296≤a∧a≤57343))∧(fG l r↔fG l a):=by
 refine⟨by unfold kj;omega,?_,?_⟩
 ·rintro⟨x,hx,h3,h4⟩;refine⟨x,hx,?_,by omega⟩
  rcases IT a x.1 with h|h
  ·have:=hm x hx x.1 (by unfold lp;rw[if_pos (by omega)];simp);omega
  ·exact h
 ·rintro⟨x,hx,h3,h4⟩;refine⟨x,hx,by omega,?_⟩
  rcases IT x.2 r with h|h
  ·have:=hm x hx (x.2+1) (by unfold lp;rw[if_pos (c:=x.1≤x.2∧0≤x.2∧x.2<1114111) (by omega)];simp);omega
  ·exact h
theorem Lc {acc:List Rg} {lo hi:Int} (h1:∀x∈acc,x.1≤x.2) (h2:acc.Pairwise (fun x y=>y.2+1<x.1)) (h3:∀x∈acc,x.2<lo) (h4:lo≤hi):
  (∀x∈gV acc lo hi,x.1≤x.2)∧(gV acc lo hi).Pairwise (fun x y=>y.2+1<x.1)∧(∀x∈gV acc lo hi,x.2≤hi)∧∀r,fG (gV acc lo hi) r↔fG acc r∨(lo≤r∧r≤hi):=by
 cases acc with
 |nil=>
  refine⟨by simp[gV,h4],by simp[gV],by simp[gV],fun r=>?_⟩;simp only[gV];rw[cD];exact⟨fun h=>.inr (h.resolve_right (gz r)),fun h=>.inl (h.resolve_left (gz r))⟩
 |cons k rest=>
  have hk:=h1 k (ν ..);have oC:=h3 k (ν ..);rw[π] at h2;unfold gV
  by_cases hc:k.2+1=lo
  ·simp only[if_pos hc];refine⟨fun x hx=>?_,?_,fun x hx=>?_,fun r=>?_⟩
   ·rcases θ.1 hx with rfl|hx
    ·simp only;omega
    ·exact h1 x (ξ _ hx)
   ·rw[π];exact⟨h2.1,h2.2⟩
   ·rcases θ.1 hx with rfl|hx
    ·simp
    ·have:=h3 x (ξ _ hx);omega
   ·rw[cD (l:=rest),cD (l:=rest)];simp only;constructor
    ·rintro(h|h)
     ·by_cases hh:r≤k.2
      ·exact .inl (.inl ⟨h.1,hh⟩)
      ·exact .inr (by omega)
     ·exact .inl (.inr h)
    ·rintro((h|h)|h)
     ·exact .inl (by omega)
     ·exact .inr h
     ·exact .inl (by omega)
  ·simp only[if_neg hc];refine⟨fun x hx=>?_,?_,fun x hx=>?_,fun r=>?_⟩
   ·rcases θ.1 hx with rfl|hx
    ·exact h4
    ·exact h1 x hx
   ·rw[π];refine⟨fun y hy=>?_,by rw[π];exact h2⟩
    rcases θ.1 hy with rfl|hy
    ·simp only;omega
    ·have:=h2.1 y hy;simp only;omega
   ·rcases θ.1 hx with rfl|hx
    ·exact Φ _
    ·have:=h3 x hx;omega
   ·rw[cD];exact⟨fun h=>h.elim .inr .inl,fun h=>h.elim .inr .inl⟩
theorem uh (l:List Rg) (yes:Bool):∀(m:List Int) (acc:List Rg),m.Pairwise (·≤·)→(∀a∈m,0≤a∧a≤1114112)→
  (∀q:Int,(q=55296∨q=57344∨∃x∈l,q∈lp x)→q∈m∨∀a∈m,q≤a)→(∀x∈acc,x.1≤x.2)→acc.Pairwise (fun x y=>y.2+1<x.1)→(∀x∈acc,∀a∈m.head?,x.2<a)→
  (∀x∈iT l yes m acc,x.1≤x.2)∧(iT l yes m acc).Pairwise (fun x y=>y.2+1<x.1)∧
  ∀r,fG (iT l yes m acc) r↔fG acc r∨(kj r∧(fG l r↔yes=true)∧(∃a∈m.head?,a≤r)∧∃b∈m.getLast?,r<b)
 |[],acc,_,_,_,h1,h2,_=>⟨h1,h2,fun r=>⟨.inl,fun h=>h.elim id (by rintro⟨_,_,⟨a,h,_⟩,_⟩;simp at h)⟩⟩
 |[a],acc,_,_,_,h1,h2,_=>⟨h1,h2,fun r=>⟨.inl,fun h=>h.elim id (by rintro⟨_,_,⟨a',h,h'⟩,b,hb,gx⟩;simp at h hb;omega)⟩⟩
 |a::b::t,acc,hs,hr,hm,h1,h2,h3=>by
  have QJ:=hs;rw[π] at hs;have hab:a≤b:=hs.1 b (ν ..);have ha:=hr a (ν ..);have hb:=hr b (ξ _ (ν ..))
  have key:∀q:Int,(q=55296∨q=57344∨∃x∈l,q∈lp x)→q≤a∨b≤q:=by
   intro q hq
   rcases hm q hq with h|h
   ·rcases θ.1 h with rfl|h
    ·exact .inl (Φ _)
    ·rcases θ.1 h with rfl|h
     ·exact .inr (Φ _)
     ·have:=(π.1 hs.2).1 q h;exact .inr this
   ·exact .inl (h a (ν ..))
  have YP:∀r,a≤r→r<b→(kj r↔¬(55296≤a∧a≤57343))∧(fG l r↔fG l a):=fun r h h'=>
   Ql (m:=[]) (fun x hx e he=>key e (.inr (.inr ⟨x,hx,he⟩))) (by have:=key 55296 (.inl rfl);omega) (by have:=key 57344 (.inr (.inl rfl));omega) ha.1 hb.2 h h'
  have hm':∀q:Int,(q=55296∨q=57344∨∃x∈l,q∈lp x)→q∈b::t∨∀c∈b::t,q≤c:=by
   intro q hq
   rcases hm q hq with h|h
   ·rcases θ.1 h with rfl|h
    ·exact .inr hs.1
    ·exact .inl h
   ·exact .inr fun c hc=>h c (ξ _ hc)
  have HV:∀c∈b::t,0≤c∧c≤1114112:=fun c hc=>hr c (ξ _ hc);have vA:∀r,(∃e∈(a::b::t).getLast?,r<e)↔∃e∈(b::t).getLast?,r<e:=fun r=>by rw[List.getLast?_cons_cons]
  have hbl:∃e∈(b::t).getLast?,b≤e:=by
   refine⟨(b::t).getLast (by simp),by rw[Bv (by simp)];simp,?_⟩;have:=List.getLast_mem (l:=b::t) (by simp)
   rcases θ.1 this with h|h
   ·rw[h];exact Φ _
   ·exact(π.1 hs.2).1 _ h
  have ba:TF l yes a b=true↔a<b∧¬(55296≤a∧a≤57343)∧(fG l a↔yes=true):=by
   unfold TF;rw[←yl];cases lE l a<;>cases yes<;>simp<;>omega
  unfold iT
  by_cases hc:TF l yes a b=true
  ·rw[if_pos hc];obtain⟨c1,c2,c3⟩:=ba.1 hc;obtain⟨p1,p2,p3,p4⟩:=Lc h1 h2 (fun x hx=>h3 x hx a rfl) (show a≤b-1 by omega);obtain⟨g1,g2,g3⟩:=uh l yes (b::t) _ hs.2 HV hm' p1 p2 (fun x hx c hc=>by simp at hc;subst hc;have:=p3 x hx;omega);refine⟨g1,g2,fun r=>(g3 r).trans ?_⟩;rw[p4,vA];constructor
   ·rintro((h|h)|⟨h4,h5,⟨c,hc,h6⟩,h7⟩)
    ·exact .inl h
    ·obtain⟨k1,k2⟩:=YP r h.1 (by omega);obtain⟨e,he,tK⟩:=hbl;exact .inr ⟨k1.2 c2,k2.trans c3,⟨a,rfl,h.1⟩,e,he,by omega⟩
    ·simp at hc;subst hc;exact .inr ⟨h4,h5,⟨a,rfl,by omega⟩,h7⟩
   ·rintro(h|⟨h4,h5,⟨c,hc,h6⟩,h7⟩)
    ·exact .inl (.inl h)
    ·simp at hc;subst hc
     by_cases U_:r<b
     ·exact .inl (.inr (by omega))
     ·exact .inr ⟨h4,h5,⟨b,rfl,by omega⟩,h7⟩
  ·rw[if_neg hc];obtain⟨g1,g2,g3⟩:=uh l yes (b::t) acc hs.2 HV hm' h1 h2 (fun x hx c hc=>by simp at hc;subst hc;have:=h3 x hx a rfl;omega);refine⟨g1,g2,fun r=>(g3 r).trans ?_⟩;rw[vA];constructor
   ·rintro(h|⟨h4,h5,⟨c,hc,h6⟩,h7⟩)
    ·exact .inl h
    ·simp at hc;subst hc;exact .inr ⟨h4,h5,⟨a,rfl,by omega⟩,h7⟩
   ·rintro(h|⟨h4,h5,⟨c,Gr,h6⟩,h7⟩)
    ·exact .inl h
    ·simp at Gr;subst Gr
     by_cases U_:r<b
     ·exfalso
      obtain⟨k1,k2⟩:=YP r h6 U_;exact hc (ba.2 ⟨by omega,k1.1 h4,k2.symm.trans h5⟩)
     ·exact .inr ⟨h4,h5,⟨b,rfl,by omega⟩,h7⟩
variable{m:List Int}
theorem zg (yes:Bool) (hp:∀q,q∈m↔q=0∨q=55296∨q=57344∨q=1114112∨∃x∈l,q∈lp x) (hs:m.Pairwise (·≤·)):
  canon (iT l yes m []).reverse∧∀r,fG (iT l yes m []).reverse r↔kj r∧(fG l r↔yes=true):=by
 have hr:∀a∈m,0≤a∧a≤1114112:=by
  intro a ha
  rcases(hp a).1 ha with h|h|h|h|⟨x,hx,h⟩
  ·omega
  ·omega
  ·omega
  ·omega
  ·unfold lp at h
   rcases Ψ.1 h with h|h<;>split at h<;>simp at h<;>omega
 obtain⟨g1,g2,g3⟩:=uh l yes m [] hs hr (fun q hq=>.inl ((hp q).2 (by rcases hq with h|h|h;exact .inr (.inl h);exact .inr (.inr (.inl h));exact .inr (.inr (.inr (.inr h)))))) (fun x hx=>by simp at hx) Qa1.nil (fun x hx=>by simp at hx);have h0:(0:Int)∈m:=(hp 0).2 (.inl rfl);have h9:(1114112:Int)∈m:=(hp _).2 (.inr (.inr (.inr (.inl rfl))))
 have hh:∃a∈m.head?,a≤0:=by
  cases m with
  |nil=>cases h0
  |cons a t=>
   refine⟨a,rfl,?_⟩
   rcases θ.1 h0 with h|h
   ·omega
   ·exact(π.1 hs).1 _ h
 have hl:∃b∈m.getLast?,1114112≤b:=by
  have hne:m≠[]:=List.ne_nil_of_mem h0;refine⟨m.getLast hne,by rw[Bv hne];simp,?_⟩;obtain⟨i,hi,he⟩:=List.getElem_of_mem h9;rw[List.getLast_eq_getElem,←he]
  rcases Nat.lt_or_ge i (m.length-1) with h|h
  ·exact(Cr.1 hs) i (m.length-1) hi (by omega) h
  ·have:i=m.length-1:=by omega
   subst this;exact Φ _
 refine⟨⟨fun x hx=>g1 x (YQ.1 hx),by rw[LL];exact g2⟩,fun r=>?_⟩;rw[ur (fun x=>YQ) r,g3 r];constructor
 ·rintro(h|⟨h1,h2,_⟩)
  ·exact absurd h (gz r)
  ·exact⟨h1,h2⟩
 ·rintro⟨h1,h2⟩;obtain⟨a,ha,ha'⟩:=hh;obtain⟨b,hb,gx⟩:=hl;have:=h1;unfold kj at this;exact .inr ⟨h1,h2,⟨a,ha,by omega⟩,b,hb,by omega⟩
end Go.V
namespace Go.Proofs.YtecjacicdpejaaaGreat
open Go.V Go
def pq (fr:Go.V.Fr) (k:Nat):Go.V.D:=Go.V.nth .bI fr.loc k
def aw (x:Rg):List D:=[.int .i32 x.1,.int .i32 x.2]
def cC (l:List Rg):D:=.sl (l.map fun x=>.agg (aw x))
theorem kc (l:List Rg):D.sl ((l.map aw).map (ml 2))=cC l:=by
 unfold cC;rw[List.map_map];rfl
theorem fZ (l:List Rg):∀e∈l.map aw,∀d∈e,dh d=true:=by
 intro e he d hd;obtain⟨x,_,rfl⟩:=VM.1 he;simp only[aw,θ,Ξ,or_false] at hd
 rcases hd with rfl|rfl<;>rfl
theorem FD (l:List Rg):refs (l.map aw).flatten=0:=by
 induction l with
 |nil=>rfl
 |cons x l ih=>simp only[IN,VQ,aw,Zn,BY,refs,Qa4,ih];rfl
theorem pY (l:List Rg):∀e∈l.map aw,e.length=2:=by
 intro e he;obtain⟨x,_,rfl⟩:=VM.1 he;rfl
theorem h_ (st:St) (l:List Rg):YH st 2 (cC l) (l.map aw):=by
 rw[←kc];exact Rows.sC (pY l) (fZ l)
variable{l:List Rg}{i:Nat}
theorem fc {q:Rg} (h:l[i]?=some q):(l.map aw)[i]?=some (aw q):=by rw[ω,h];rfl
theorem AE (l:List Rg) (q:Rg) (r:Int):lE (l++[q]) r=(lE l r||(decide (q.1≤r) &&decide (r≤q.2))):=by
 induction l with
 |nil=>simp[lE]
 |cons x l ih=>simp only[Zn,lE,ih,Bool.or_assoc]
variable{r:Int}
theorem Ee (h:lE (l.take i) r=true):lE l r=true:=by
 rw[yl] at h⊢;obtain⟨x,h1,h2⟩:=h;exact⟨x,P8 h1,h2⟩
variable{s0:St}{x:D}
theorem zZ (hx:YH s0 2 x (l.map aw)) (hl:l.length≤1073741824):Ev pv 254 [x,.int .i32 r] s0 (.bool (lE l r)) s0:=by
 refine Ev.gP rfl WI rfl rfl rfl ?_;refine zE ?_;obtain⟨aN,hF,hH⟩:=ri s0;generalize ae .ro s0=S at*;have hx:=Ut hx aN;refine zQ 10 ?_;refine ag.loop (fun mm fr st=>∃(i:Nat),fr.clean=⟨6,[x,.int .i32 r,pq fr 2,pq fr 3,.bool false,.int .i64 (i:Nat)],[]⟩∧Has s0.bs.length S st []∧(i+mm=l.length)∧(lE (l.take i) r=false)) (l.length) ?_ ?_
 ·exact⟨0,rfl,hH,by omega,rfl⟩
 rintro mm fr st ⟨i,hfr,hH,hi,hn⟩;rw[hfr];clear hfr;generalize pq fr=ee;clear fr;refine zQ 5 ?_;refine qn ?_;simp only[γ];refine zQ 2 ?_;refine zP (fun h1=>?_) fun h1=>?_
 ·refine zQ 1 ?_
  obtain⟨q,hq⟩:∃q,l[i]?=some q:=⟨l[i]'(by omega),δ _⟩
  have hr:=fc hq;refine zQ 3 ?_;refine ag.dM 27 (.bool (decide (r≥q.1) &&decide (r≤q.2))) [] ?_ (fun ff tmp dj=>?_)
  ·refine zQ 3 ?_;refine qr fun Ys Ps=>?_;refine qf (fo:=0) fun p16 Vn=>?_;refine zQ 3 ?_;refine Θ 19 rfl (fun sY=>?_) (fun sY=>?_)
   ·refine zQ 3 ?_;refine qr (fun Uh Mg=>?_) (hg:=wi sY);refine qf (fo:=1) (fun Qw D3=>?_) (hg:=wi sY);refine zQ 3 ?_;refine ς (aR ?_ ?_)
    ·dsimp only[aK,κ,nth,u2,u1]
     all_goals(first|rfl|simp)
    ·refine zF ?_
     all_goals(simp[sY];done)
   ·refine zQ 8 ?_;refine ς (aR ?_ ?_)
    ·dsimp only[aK,κ,nth,u2,u1]
     all_goals(first|rfl|simp)
    ·refine zF ?_
     all_goals(simp[sY];done)
  refine zG ?_
  have ht:lE (l.take (i+1)) r=(decide (r≥q.1) &&decide (r≤q.2)):=by
   rw[υ,hq,PR,AE,hn];simp
  refine qc (fun h2=>?_) (fun h2=>?_)<;>try simp only[cs] at h2
  ·refine zQ 4 ?_;rw[Ee (i:=i+1) (by rw[ht];simp[h2])];refine ag.ret ⟨rx,_,rfl,rl aN hH (rfl)⟩
  ·refine zQ 6 ?_;exact⟨mm-1,by omega,⟨i+1,rfl,hH,by omega,by rw[ht];simp[h2]⟩⟩
 ·refine zQ 5 ?_;have:lE l r=false:=by rw[←hn,ρ (by omega)]
  rw[this];refine ag.ret ⟨rx,_,rfl,rl aN hH (rfl)⟩
theorem MJ (hx:YH s0 2 x (l.map aw)) (hl:l.length≤1073741824):Ev pv 228 [x,.int .i32 r] s0 (.bool (lE l r)) s0:=by
 refine Ev.gP rfl WR rfl rfl rfl ?_;refine zE ?_;obtain⟨aN,hF,hH⟩:=ri s0;generalize ae .ro s0=S at*;have hx:=Ut hx aN;refine zQ 8 ?_;refine qn ?_;simp only[γ];refine zQ 3 ?_;refine ag.loop (fun mm fr st=>∃(i:Nat),fr.clean=⟨10,[x,.int .i32 r,pq fr 2,pq fr 3,.bool false,pq fr 5,pq fr 6,x,.int .i64 (l.length:Nat),.int .i64 (i:Nat)],[]⟩∧Has s0.bs.length S st []∧(i+mm=l.length)∧(lE (l.take i) r=false)) (l.length) ?_ ?_
 ·exact⟨0,rfl,hH,by omega,rfl⟩
 rintro mm fr st ⟨i,hfr,hH,hi,hn⟩;rw[hfr];clear hfr;generalize pq fr=ee;clear fr;refine zQ 5 ?_;refine zP (fun h1=>?_) fun h1=>?_
 ·refine zQ 1 ?_
  obtain⟨q,hq⟩:∃q,l[i]?=some q:=⟨l[i]'(by omega),δ _⟩
  have hr:=fc hq;refine zQ 4 ?_;refine qr fun p11 Vq=>?_;refine R3 rfl (ev rfl) (by assumption) rfl (aa rfl _) ?_;refine qa hH fun k6 st Gj hH=>?_;refine qS hH aB fun st hH=>?_;dsimp only[u2,u1,u3,u4,setMany,u5,u6,χ,ι,aw] at hH;refine zQ 2 ?_;refine ag.dM 22 (.bool (decide (r≥q.1) &&decide (r≤q.2))) [] ?_ (fun ff tmp dj=>?_)
  ·refine zQ 5 ?_;refine Θ 17 rfl (fun iN=>?_) (fun iN=>?_)
   ·refine zQ 5 ?_;refine ς (aR ?_ ?_)
    ·dsimp only[aK,κ,nth,u2,u1]
     all_goals(first|rfl|simp)
    ·refine zF ?_
     all_goals(simp[iN];done)
   ·refine zQ 5 ?_;refine ς (aR ?_ ?_)
    ·dsimp only[aK,κ,nth,u2,u1]
     all_goals(first|rfl|simp)
    ·refine zF ?_
     all_goals(simp[iN];done)
  refine zG ?_
  have ht:lE (l.take (i+1)) r=(decide (r≥q.1) &&decide (r≤q.2)):=by
   rw[υ,hq,PR,AE,hn];simp
  refine qc (fun h2=>?_) (fun h2=>?_)<;>try simp only[cs] at h2
  ·refine zQ 4 ?_;rw[Ee (i:=i+1) (by rw[ht];simp[h2])];refine ag.ret ⟨rx,_,rfl,rl aN hH (rfl)⟩
  ·refine zQ 5 ?_;exact⟨mm-1,by omega,⟨i+1,rfl,(hH.drop 1),by omega,by rw[ht];simp[h2]⟩⟩
 ·refine zQ 5 ?_;have:lE l r=false:=by rw[←hn,ρ (by omega)]
  rw[this];refine ag.ret ⟨rx,_,rfl,rl aN hH (rfl)⟩
def bC (fr:Go.V.Fr) (k:Nat):Go.V.D:=Go.V.nth .bI fr.loc k
def ja:List Rg:=[(0,55295),(57344,1114111)]
def zh (lo hi:Int) (p:Rg):List Rg:=if max lo p.1≤min hi p.2 then[(max lo p.1,min hi p.2)] else[]
theorem Bm (q:Rg):gf q=ja.flatMap (zh (max q.1 0) (min q.2 1114111)):=by
 simp[gf,ja,zh]
theorem KS (q:Rg):Ev pv 250 [.agg (aw q)] s0 (cC (gf q)) s0:=by
 refine Ev.gP rfl WK rfl rfl rfl ?_;refine zE ?_;obtain⟨aN,hF,hH⟩:=ri s0;generalize ae .ro s0=S at*;refine zQ 2 ?_;refine qb hH fun k1 st rj hH=>?_;dsimp only[u2,u1,u3,u4,setMany,u5,u6,χ,ι,aw] at hH;refine zQ 6 ?_;refine Qaa (t1:=0) (t2:=0) rfl (ev rfl) (ev rfl) (by dsimp only[Wh,u1,u2]<;>rfl) ?_;refine zQ 2 ?_;refine ab.LG (t1:=0) (t2:=0) rfl (ev rfl) (ev rfl) (by dsimp only[Wh,u1,u2]<;>rfl) ?_;refine zQ 1 ?_;refine qT hH aB fun st hH=>?_;dsimp only[u2,u1,u3,u4,setMany,u5,u6,χ,ι,aw] at hH;refine zQ 1 ?_;refine qT hH aB fun st hH=>?_;dsimp only[u2,u1,u3,u4,setMany,u5,u6,χ,ι,aw] at hH;refine zQ 1 ?_;generalize E_:max q.1 0=lo at*;generalize H0:min q.2 1114111=hi at*;refine zQ 4 ?_;have hH:=hH.fW 2;refine zQ 5 ?_;refine qh (s:=2) (vs:=[_,_]) hH fun k17 st SF hH=>?_;dsimp only[u2,u1,u3,u4,setMany,u5,u6,χ,ι,aw] at hH;refine qn ?_ (hR:=hH.rows aB);simp only[γ,ε,μ];refine zQ 3 ?_;refine ag.loop (fun mm fr st=>∃(i:Nat) (x:D),fr.clean=⟨20,[.agg (aw q),.ptr k1 0 0,.nul,x,bC fr 4,bC fr 5,bC fr 6,bC fr 7,bC fr 8,bC fr 9,bC fr 10,bC fr 11,bC fr 12,bC fr 13,bC fr 14,bC fr 15,bC fr 16,.win k17 0 0 2 2,.int .i64 2,.int .i64 (i:Nat)],[]⟩∧Has s0.bs.length S st [.aF (.win k17 0 0 2 2) 2 (ja.map aw),.aF x 2 (((ja.take i).flatMap (zh lo hi)).map aw),.box k1 (.mem 0 false [.int .i32 lo,.int .i32 hi])]∧(i+mm=2)∧(((ja.take i).flatMap (zh lo hi)).length≤i)) (2) ?_ ?_
 ·exact⟨0,.nul,rfl,hH,by omega,by simp⟩
 rintro mm fr st ⟨i,x,hfr,hH,hij,hb⟩;rw[hfr];clear hfr;generalize bC fr=ee;clear fr;refine zQ 5 ?_;refine zP (fun h1=>?_) fun h1=>?_
 ·refine zQ 1 ?_
  obtain⟨p,hp⟩:∃p,ja[i]?=some p:=⟨ja[i]'(by simp[ja];omega),δ _⟩
  have hr:=fc hp;refine zQ 4 ?_;refine qi hH aB fun Uj Mi=>?_;refine ab.Bz hH rfl (ev rfl) (by assumption) (by exact aB) (by assumption) rfl (aa rfl _) ?_;refine qa hH fun k5 st Kf hH=>?_;refine qS hH aB fun st hH=>?_;dsimp only[u2,u1,u3,u4,setMany,u5,u6,χ,ι,aw] at hH;refine zQ 7 ?_;refine Qaa (t1:=0) (t2:=0) rfl (ev rfl) (ev rfl) (aa rfl _) ?_;refine zQ 4 ?_;refine ab.LG (t1:=0) (t2:=0) rfl (ev rfl) (ev rfl) (aa rfl _) ?_;refine qg ?_;refine qa hH fun k6 st Gj hH=>?_;refine qS hH aB fun st hH=>?_;dsimp only[u2,u1,u3,u4,setMany,u5,u6,χ,ι,aw] at hH;refine zQ 9 ?_;refine zP (fun h2=>?_) fun h2=>?_
  ·refine zQ 2 ?_;refine Qa6 (m:=2) hH rfl (ev rfl) (by exact aB) (by dsimp only[Ω,JS,Q5,v8,aw]<;>rfl) rfl rfl (aa rfl _) ?_;refine qh (s:=2) (vs:=[_]) hH fun k41 st VC hH=>?_;refine R2 (s:=2) hH rfl (ev rfl) (ev rfl) (by exact bL) (by exact hH.rows (by exact aB)) rfl rfl rfl rfl rfl rfl rfl ⟨(ζ rfl),(ζ rfl)⟩ (fun _=>(aa rfl _)) (by simp only[ε,μ,γ]<;>omega) (by exact .inl hF) (fun TY st hH=>?_);dsimp only[u2,u1,u3,u4,setMany,u5,u6,χ,ι,aw] at hH;refine zQ 6 ?_
   have h3:(ja.take (i+1)).flatMap (zh lo hi)=(ja.take i).flatMap (zh lo hi)++[(max lo p.1,min hi p.2)]:=by
    rw[υ,hp,Pd];simp[zh,h2]
   exact⟨mm-1,by omega,⟨i+1,TY,rfl,(by rw[h3,Δ];exact hH.drop 3),by omega,by rw[h3];simp only[ο,ε,μ];omega⟩⟩
  ·refine zQ 5 ?_
   have h3:(ja.take (i+1)).flatMap (zh lo hi)=(ja.take i).flatMap (zh lo hi):=by
    rw[υ,hp,Pd];simp[zh,h2]
   exact⟨mm-1,by omega,⟨i+1,x,rfl,(by rw[h3];exact hH.drop 2),by omega,by rw[h3];omega⟩⟩
 ·refine zQ 6 ?_;rw[←kc];have h3:ja.take i=ja:=ρ (by simp[ja];omega);rw[h3] at hH;refine ag.ret ⟨rx,_,rfl,rl aN hH ?_⟩;refine Eq.trans (hH.freeze aO (fZ _) (n:=15) (by decide)) ?_;rw[Bm,E_,H0]
theorem I0 (q x:Rg) (h:x∈gf q):0≤x.1∧x.1≤1114111:=by
 obtain⟨h1,h2,h3⟩:=tX q x h;omega
theorem w5 (q:Rg):(gf q).length≤2:=by
 unfold gf;split<;>split<;>simp
theorem mG (l:List Rg):(l.flatMap gf).length≤2*l.length:=by
 induction l with
 |nil=>simp
 |cons x l ih=>simp only[AI,ο,ε];have:=w5 x;omega
theorem zB:∀{l:List Rg},(∀x∈l,0≤x.1∧x.1≤1114111)→∃m:List Rs,iP m=(l.map aw).flatten∧m.map (fun x=>(x.lo,x.hi))=l
 |[],_=>⟨[],rfl,rfl⟩
 |x::l,h=>by
  obtain⟨m,h1,h2⟩:=zB (l:=l) fun y hy=>h y (ξ _ hy);obtain⟨h3,h4⟩:=h x (ν ..);exact⟨⟨x.1,x.2,h3,h4⟩::m,by simp only[iP,h1,IN,VQ,aw,Zn,BY],by simp[h2]⟩
theorem GG (m:List Rs):iP m=((m.map fun x=>((x.lo,x.hi):Rg)).map aw).flatten:=by
 induction m with
 |nil=>rfl
 |cons x m ih=>simp only[iP,ih,IN,VQ,aw,Zn,BY]
variable{N:Nat}{S st:St}{H:List bo}
theorem MI {j:Nat} (hH:Has N S st H) (hj:H[j]?=some (.aF x 2 (l.map aw))) (h0:l=[]→x=.nul) (hl:l.length≤1073741824) (hr:∀y∈l,0≤y.1∧y.1≤1114111):
  ∃(ai:St) (l':List Rg),Ev pv 251 [x,.fn 252 []] st (.tup []) ai∧Has N S ai (H.set j (.aF x 2 (l'.map aw)))∧l'.Perm l∧l'.Pairwise fun a b=>a.1≤b.1:=by
 obtain⟨m,h1,h2⟩:=zB hr;obtain⟨h3,h4⟩:=srt_facts m;have D7:m.length=l.length:=by rw[←h2];simp
 have hperm:((srt m).map fun x=>((x.lo,x.hi):Rg)).Perm l:=by rw[←h2];exact h3.map _
 have rv:((srt m).map fun x=>((x.lo,x.hi):Rg)).Pairwise fun a b=>a.1≤b.1:=by rw[List.pairwise_map];exact h4
 have hlen:(srt m).length=l.length:=h3.length_eq.trans D7;have hown:=hH.own hj;generalize vN:l.map aw=es at*;have tJ:es.length=l.length:=by rw[←vN];simp
 cases hown with
 |nul=>
  have Fa:l=[]:=by cases l with|nil=>rfl|cons _ _=>simp at tJ
  refine⟨st,(srt m).map fun x=>(x.lo,x.hi),Ev.fz rfl rfl,?_,hperm,rv⟩
  have:(srt m).map (fun x=>((x.lo,x.hi):Rg))=[]:=by
   cases hs:srt m with
   |nil=>rfl
   |cons a b=>rw[hs,Fa] at hlen;simp at hlen
  rw[this];exact hH.Fc hj (fun _ _ _=>rfl) (Nat.le_refl _) rfl rfl .nul (fun k hk=>.inl hk) fun k hk=>by simp only[bo.aF,Qa4] at hk;omega
 |win k aE off es c hm hle hc he=>
  have hne:l≠[]:=fun e=>by have:=h0 e;cases this
  have B4:1≤l.length:=by cases l with|nil=>exact absurd rfl hne|cons _ _=>simp
  have hk:=(hH.ok j _ hj).2 k (by simp only[bo.aF,Qa4]);have Gn:(iP (srt m)).length=es.length*2:=by rw[ti,hlen,tJ];omega
  have hwr:st.wr k aE off (iP (srt m))=some ⟨st.bs.set k (.mem aE true (c.take off++iP (srt m)++c.drop (off+(iP (srt m)).length))),st.flr,st.ro⟩:=
   nO hm (by omega) (jT hH hk.1 (.inr (AU _)))
  refine⟨⟨st.bs.set k (.mem aE true (c.take off++iP (srt m)++c.drop (off+(iP (srt m)).length))),st.flr,st.ro⟩,(srt m).map fun x=>(x.lo,x.hi),Ev.fz rfl ?_,?_,hperm,rv⟩
  ·show IM [.win k aE off es.length 2,.fn 252 []] st=_;have lh:(c.drop off).take (2*es.length)=iP m:=by rw[Nat.mul_comm,hc,h1]
   simp only[IM,St.mem_of hm,lh,Hv,Rb];rw[decide_eq_true (⟨by rw[D7,tJ],by omega,by omega⟩:m.length=es.length∧1≤es.length∧es.length<1099511627776)];simp only[hwr]
  ·refine hH.Fc hj (fun n hn hne=>?_) (by simp) rfl rfl ?_ (fun n hn=>.inl hn) fun n hn=>?_
   ·simp only;rw[wt (fun e=>hne (by simp only[bo.aF,Qa4];omega))]
   ·have h9:=kA.win (st:=⟨st.bs.set k (.mem aE true (c.take off++iP (srt m)++c.drop (off+(iP (srt m)).length))),st.flr,st.ro⟩) (s:=2) k aE off (((srt m).map fun x=>((x.lo,x.hi):Rg)).map aw) (c.take off++iP (srt m)++c.drop (off+(iP (srt m)).length))
     (by simp only;rw[IS hk.2]) (by simp only[ο,Zt,γ,cg,Gn];omega) ?_ (pY _)
    ·simp only[γ,hlen] at h9;rw[tJ];exact h9
    ·have aap:(c.take off).length=off:=by simp;omega
     rw[AT,List.drop_left' aap,←GG,List.take_left' (by simp only[γ,hlen];omega)]
   ·simp only[bo.aF,Qa4] at hn;simp only[φ];omega
theorem xW (l:List Rg):(l.foldl fQ []).length≤l.length:=by
 have key:∀(l acc:List Rg),(l.foldl fQ acc).length≤acc.length+l.length:=by
  intro l
  induction l with
  |nil=>intro acc;simp
  |cons x l ih=>
   intro acc;simp only[tn,ε];have:=ih (fQ acc x)
   have h2:(fQ acc x).length≤acc.length+1:=by
    unfold fQ;split
    ·simp
    ·split<;>simp
   omega
 have:=key l []
 simpa using this
theorem O6 (h:∀x∈l,0≤x.2∧x.2≤1114111):∀x∈l.foldl fQ [],0≤x.2∧x.2≤1114111:=by
 have key:∀(l acc:List Rg),(∀x∈l,0≤x.2∧x.2≤1114111)→(∀x∈acc,0≤x.2∧x.2≤1114111)→∀x∈l.foldl fQ acc,0≤x.2∧x.2≤1114111:=by
  intro l
  induction l with
  |nil=>intro acc _ h x hx;exact h x hx
  |cons y l ih=>
   intro acc h1 h2;refine ih _ (fun x hx=>h1 x (ξ _ hx)) fun x hx=>?_;have hy:=h1 y (ν ..);unfold fQ at hx
   split at hx
   ·simp only[θ,Ξ,or_false] at hx;rw[hx];exact hy
   ·rename_i k rest;have hk:=h2 k (ν ..)
    split at hx
    ·rcases θ.1 hx with rfl|hx
     ·simp only;omega
     ·exact h2 x (ξ _ hx)
    ·rcases θ.1 hx with rfl|hx
     ·exact hy
     ·exact h2 x hx
 exact key l [] h (fun x hx=>by cases hx)
theorem DT (h:Rg) (t:List Rg):((h::t).reverse.map aw)[t.length]?=some (aw h):=by
 rw[ω,ZD,List.getElem?_append_right (by simp)];simp
theorem DS (h h':Rg) (t:List Rg):((h::t).reverse.map aw).set t.length (aw h')=(h'::t).reverse.map aw:=by
 rw[ZD,Δ,Y' _ _ (by simp)];simp
theorem HL (hx:YH s0 2 x (l.map aw)) (hl:l.length≤268435456):∃d,Ev pv 226 [x] s0 d s0∧∃all:List Rg,d=cC (all.foldl fQ []).reverse∧all.Perm (l.flatMap gf)∧all.Pairwise fun a b=>a.1≤b.1:=by
 refine Ev.FP rfl WT rfl rfl rfl ?_;refine zE ?_;obtain⟨aN,hF,hH⟩:=ri s0;generalize ae .ro s0=S at*;have hx:=Ut hx aN;have mZ:=mG l
 have hfi:∀i,((l.take i).flatMap gf).length≤2*l.length:=fun i=>by
  have:=mG (l.take i);simp only[Zt] at this;omega
 refine zQ 13 ?_;refine qn ?_;simp only[γ];refine zQ 2 ?_;have hH:=hH.fW 2;refine zQ 1 ?_;refine ag.loop (fun mm fr st=>∃(i:Nat) (y:D),fr.clean=⟨26,[x,bC fr 1,bC fr 2,y,.nul,bC fr 5,bC fr 6,bC fr 7,bC fr 8,bC fr 9,x,.int .i64 (l.length:Nat),.int .i64 (i:Nat),bC fr 13,bC fr 14,bC fr 15,bC fr 16,bC fr 17,bC fr 18,bC fr 19,bC fr 20,bC fr 21,bC fr 22,bC fr 23,bC fr 24,bC fr 25],[]⟩∧Has s0.bs.length S st [.aF y 2 (((l.take i).flatMap gf).map aw)]∧(i+mm=l.length)∧((l.take i).flatMap gf=[]→y=.nul)) (l.length) ?_ ?_
 ·exact⟨0,.nul,rfl,hH,by omega,fun _=>rfl⟩
 rintro mm fr st ⟨i,y,hfr,hH,hi,Sq⟩;rw[hfr];clear hfr;generalize bC fr=ee;clear fr;refine zQ 4 ?_;have hm:=hfi i;refine qq<|zP (fun h1=>?_) fun h1=>?_
 ·refine zQ 1 ?_
  obtain⟨q,hq⟩:∃q,l[i]?=some q:=⟨l[i]'(by omega),δ _⟩
  have hr:=fc hq
  have yf:(l.take (i+1)).flatMap gf=(l.take i).flatMap gf++gf q:=by
   rw[υ,hq];simp
  have hrq:=w5 q;refine zQ 4 ?_;refine qr fun p14 adg=>?_;refine R3 rfl (ev rfl) (by assumption) rfl (by dsimp only[Wh,u1,u2]<;>rfl) ?_;refine qa hH fun k6 st Gj hH=>?_;refine qS hH aB fun st hH=>?_;dsimp only[u2,u1,u3,u4,setMany,u5,u6,χ,ι,aw] at hH;refine zQ 3 ?_;refine Qa6 (m:=2) hH rfl (ev rfl) (by exact aB) (by dsimp only[Ω,JS,Q5,v8,aw]<;>rfl) rfl rfl (by dsimp only[Wh,u1,u2]<;>rfl) ?_;refine qv (KS q) ?_;refine ab.MN hH rfl rfl rfl (by exact aO) (h_ _ _) rfl rfl rfl rfl rfl rfl rfl ⟨(ζ rfl),(ζ rfl)⟩ (fun _=>by dsimp only[Wh,u1,u2]<;>rfl) (by simp only[γ];omega) (.inl hF) (fun Tz st Vu hH=>?_);dsimp only[u2,u1] at hH;refine zQ 6 ?_;exact⟨mm-1,by omega,⟨i+1,Tz,rfl,(by rw[yf,Δ];exact hH.drop 1),by omega,by rw[yf];intro h;obtain⟨h3,h4⟩:=List.append_eq_nil_iff.1 h;rw[Vu (by rw[h4];rfl)];exact Sq h3⟩⟩
 ·refine zQ 1 ?_;have hT:l.take i=l:=ρ (by omega);rw[hT] at hH Sq hm
  obtain⟨st2,all,ax,QW,hperm,rv⟩:=MI hH aB Sq (by omega) (fun z hz=>by
   obtain⟨w,_,hw⟩:=Γ.1 hz
   exact I0 w z hw)
  have hlen:=hperm.length_eq
  have hbd:∀z∈all,0≤z.2∧z.2≤1114111:=fun z hz=>by
   obtain⟨w,_,hw⟩:=Γ.1 (hperm.mem_iff.1 hz);have:=tX w z hw;omega
  refine zQ 3 ?_;refine qv (ax) ?_;refine zQ 1 ?_;have hH:=QW;dsimp only[u2] at hH;clear QW ax;have hR:=hH.rows aB;have hH:=hH.fW 2;refine zQ 4 ?_;refine qn ?_ (hR:=hH.rows aO);simp only[γ];refine zQ 3 ?_;refine ag.loop (fun mm fr st=>∃(i:Nat) (z:D),fr.clean=⟨26,[x,bC fr 1,bC fr 2,y,z,bC fr 5,bC fr 6,bC fr 7,bC fr 8,bC fr 9,bC fr 10,bC fr 11,bC fr 12,bC fr 13,bC fr 14,bC fr 15,bC fr 16,bC fr 17,bC fr 18,bC fr 19,bC fr 20,bC fr 21,bC fr 22,y,.int .i64 (all.length:Nat),.int .i64 (i:Nat)],[]⟩∧Has s0.bs.length S st [.aF z 2 (((all.take i).foldl fQ []).reverse.map aw),.aF y 2 (all.map aw)]∧(i+mm=all.length)) (all.length) ?_ ?_
  ·exact⟨0,.nul,rfl,hH,by omega⟩
  rintro mm fr st ⟨i,z,hfr,hH,hi⟩;rw[hfr];clear hfr;generalize bC fr=ee;clear fr;refine zQ 4 ?_
  have oH:((all.take i).foldl fQ []).length≤all.length:=by
   have:=xW (all.take i);simp only[Zt] at this;omega
  refine qq<|zP (fun h1=>?_) fun h1=>?_
  ·refine zQ 1 ?_
   obtain⟨q,hq⟩:∃q,all[i]?=some q:=⟨all[i]'(by omega),δ _⟩
   have hr:=fc hq
   have SI:(all.take (i+1)).foldl fQ []=fQ ((all.take i).foldl fQ []) q:=by
    rw[υ,hq,List.foldl_append];rfl
   generalize rk:(all.take i).foldl fQ []=acc at*;refine zQ 4 ?_;refine qi hH aO fun Zi Sk=>?_;refine ab.Bz hH rfl (ev rfl) (by assumption) (by exact aO) (by assumption) rfl (aa rfl _) ?_;refine qa hH fun k8 st N' hH=>?_;refine qS hH aB fun st hH=>?_;dsimp only[u2,u1,u3,u4,setMany,u5,u6,χ,ι,aw] at hH;refine zQ 1 ?_
   rcases acc with _|⟨h,t⟩
   ·refine zQ 3 ?_;refine qn ?_ (hR:=hH.rows aO);simp only[γ,μ,η];refine OF (z:=(-1)) rfl (ev rfl) (ev rfl) (by(try simp only[η,ε,μ,ο,γ,φ]);rw[wrap_i64 (by omega) (by omega)]<;>omega) (aa rfl _) ?_;refine zQ 2 ?_;have br:decide ((-1:Int)≥0)=false:=by decide
    refine qq<|ag.dM 44 (.bool false) [] ?_ (fun ff tmp dj=>?_)
    ·refine zQ 13 ?_;refine ς (aR ?_ ?_)
     ·dsimp only[aK,κ,nth,u2,u1]
      all_goals(first|rfl|simp)
     ·dsimp only[hD,Wh,GB,Cf,ki,nth,look,u1,u2,v1,v2,v4]
      all_goals(first|rfl|(simp[br];done)|(simp_all;done)|(simp[br];omega)|(simp_all;omega))
    dsimp only[aK,κ,nth,u2,u1];dsimp only[hD,Wh,GB,Cf,ki,nth,look,u1,u2,v1,v2,v4];refine zQ 3 ?_;refine Qa6 (m:=2) hH rfl (ev rfl) (by exact aB) (by dsimp only[Ω,JS,Q5,v8,aw]<;>rfl) rfl rfl (aa rfl _) ?_;refine qh (s:=2) (vs:=[_]) hH fun k59 st aax hH=>?_;refine R2 (s:=2) hH rfl (ev rfl) (ev rfl) (by exact a_) (by exact hH.rows (by exact aB)) rfl rfl rfl rfl rfl rfl rfl ⟨(ζ rfl),(ζ rfl)⟩ (fun _=>(aa rfl _)) (by simp only[ε,μ,γ,η]<;>omega) (by exact .inl hF) (fun YY st hH=>?_);dsimp only[u2,u1,u3,u4,setMany,u5,u6,χ,ι,aw] at hH;refine zQ 6 ?_;exact⟨mm-1,by omega,⟨i+1,YY,rfl,(by rw[SI];exact hH.drop 2),by omega⟩⟩
   ·simp only[ε] at oH;refine zQ 3 ?_;refine qn ?_ (hR:=hH.rows aO);simp only[γ,ε,η];refine OF (z:=((t.length:Nat):Int)) rfl (ev rfl) (ev rfl) (by(try simp only[η,ε,μ,ο,γ,φ]);rw[wrap_i64 (by omega) (by omega)]<;>omega) (aa rfl _) ?_;refine zQ 2 ?_;have vA:=DT h t;have iM:=DS h (h.1,max h.2 q.2) t;have H0:=O6 (l:=all.take i) (fun x hx=>hbd x (P8 hx)) h (by rw[rk];exact ν ..);have br:decide (((t.length:Nat):Int)≥0)=true:=by rw[decide_eq_true];omega
    refine qq<|ag.dM 44 (.bool (decide (q.1≤h.2+1))) [] ?_ (fun ff tmp dj=>?_)
    ·refine zQ 7 ?_;refine qi hH aO (fun p39 Vi=>?_) (hg:=wi br);refine Qa3 (fo:=1) (m:=0) (o2:=1) (af rfl rfl rfl br) (ev rfl) (by assumption) rfl rfl rfl (fun _=>(aa rfl _)) (fun Zf Si=>?_);refine zQ 1 ?_;refine Qa9 (af rfl rfl rfl br) (ev rfl) (ev rfl) (by omega) (by omega) (aa rfl _) ?_;refine zQ 2 ?_;refine ς (aR ?_ ?_)
     ·dsimp only[aK,κ,nth,u2,u1]
      all_goals(first|rfl|simp)
     ·dsimp only[hD,Wh,GB,Cf,ki,nth,look,u1,u2,v1,v2,v4]
      all_goals(first|rfl|(simp[br];done)|(simp_all;done)|(simp[br];omega)|(simp_all;omega))
    dsimp only[aK,κ,nth,u2,u1];dsimp only[hD,Wh,GB,Cf,ki,nth,look,u1,u2,v1,v2,v4];refine ag.cond (by assumption) (fun h2=>?_) (fun h2=>?_)<;>try simp only[decide_eq_true_eq,decide_eq_false_iff_not] at h2
    ·refine zQ 5 ?_;refine qi hH aO fun Zc Sf=>?_;refine Qa3 (fo:=1) (m:=0) (o2:=1) rfl (ev rfl) (by assumption) rfl rfl rfl (fun _=>(aa rfl _)) (fun Yn Pn=>?_);refine zQ 3 ?_;refine Qaa (t1:=0) (t2:=0) rfl (ev rfl) (ev rfl) (aa rfl _) ?_;refine qi hH aO fun p55 Vf=>?_;refine Qa3 (fo:=1) (m:=0) (o2:=1) rfl (ev rfl) (by assumption) rfl rfl rfl (fun _=>(aa rfl _)) (fun Za Sd=>?_);refine Qa7 hH rfl (ev rfl) (ev rfl) (by assumption) rfl rfl (by exact aO) (by assumption) (ζ rfl) (by exact .inl hF) (fun st hH=>?_);dsimp only[u2,u1,u3,u4,setMany,u5,u6,χ,ι,aw] at hH;refine zQ 5 ?_;exact⟨mm-1,by omega,⟨i+1,z,rfl,(by rw[SI];simp only[fQ,if_pos h2];rw[←iM];exact hH.drop 1),by omega⟩⟩
    ·refine zQ 2 ?_;refine Qa6 (m:=2) hH rfl (ev rfl) (by exact aB) (by dsimp only[Ω,JS,Q5,v8,aw]<;>rfl) rfl rfl (aa rfl _) ?_;refine qh (s:=2) (vs:=[_]) hH fun k59 st aax hH=>?_;refine R2 (s:=2) hH rfl (ev rfl) (ev rfl) (by exact a_) (by exact hH.rows (by exact aB)) rfl rfl rfl rfl rfl rfl rfl ⟨(ζ rfl),(ζ rfl)⟩ (fun _=>(aa rfl _)) (by simp only[ε,μ,γ,η]<;>omega) (by exact .inl hF) (fun YY st hH=>?_);dsimp only[u2,u1,u3,u4,setMany,u5,u6,χ,ι,aw] at hH;refine zQ 6 ?_;exact⟨mm-1,by omega,⟨i+1,YY,rfl,(by rw[SI];simp only[fQ,if_neg h2];rw[ZD (a:=q),Δ];exact hH.drop 2),by omega⟩⟩
  ·refine zQ 6 ?_;rw[ρ (by omega)] at hH;refine ag.ret ⟨rx,_,_,rfl,rl aN hH ((hH.freeze aB (fZ _) (n:=15) (by decide))),?_⟩;exact⟨all,by rw[kc],hperm,rv⟩
def eJ (fr:Go.V.Fr) (k:Nat):Go.V.D:=Go.V.nth .bI fr.loc k
def fy (r:Int):List D:=[.int .i32 r]
def Bl (l:List Int):D:=.sl ((l.map fy).map (ml 1))
theorem w6 (l:List Int):∀e∈l.map fy,∀d∈e,dh d=true:=by
 intro e he d hd;obtain⟨x,_,rfl⟩:=VM.1 he;simp only[fy,θ,Ξ,or_false] at hd;subst hd;rfl
theorem KU (l:List Int):∀e∈l.map fy,e.length=1:=by
 intro e he;obtain⟨x,_,rfl⟩:=VM.1 he;rfl
theorem C_ (st:St) (l:List Int):YH st 1 (Bl l) (l.map fy):=Rows.sC (KU l) (w6 l)
variable{q:Int}
theorem Da {l:List Int} (h:l[i]?=some q):(l.map fy)[i]?=some (fy q):=by rw[ω,h];rfl
def je (l:List Rg):List Int:=[0,55296,57344,1114112]++l.flatMap lp
theorem Nc (x:Rg):(lp x).length≤2:=by
 unfold lp;split<;>split<;>simp
theorem uO (l:List Rg):(l.flatMap lp).length≤2*l.length:=by
 induction l with
 |nil=>simp
 |cons x l ih=>simp only[AI,ο,ε];have:=Nc x;omega
def j_ (m:List Int) (i k:Nat):Prop:=∀a b,a<b→b≤i→b≠k→m.getD a 0≤m.getD b 0
theorem tb (m:List Int) (k:Nat) (v:Int) (hk:k<m.length) (a:Nat):(m.set k v).getD a 0=if a=k then v else m.getD a 0:=by
 simp only[τ]
 by_cases h:a=k
 ·subst h;rw[IS hk,if_pos rfl];rfl
 ·rw[wt (fun e=>h e.symm),if_neg h]
variable{m:List Int}{k:Nat}
theorem CT (hk:k+1≤i) (hi:i<m.length) (h:j_ m i (k+1)) (VN:m.getD k 0>m.getD (k+1) 0):j_ ((m.set k (m.getD (k+1) 0)).set (k+1) (m.getD k 0)) i k:=by
 intro a b hab V6 hbk;have hl:(m.set k (m.getD (k+1) 0)).length=m.length:=φ ..;rw[tb _ _ _ (by rw[hl];omega),tb _ _ _ (by omega),tb _ _ _ (by rw[hl];omega),tb _ _ _ (by omega)]
 by_cases h1:b=k+1
 ·rw[if_pos h1,if_neg (by omega)]
  by_cases h2:a=k
  ·rw[if_pos h2];omega
  ·rw[if_neg h2];exact h a k (by omega) (by omega) (by omega)
 ·rw[if_neg h1,if_neg hbk]
  by_cases h2:a=k+1
  ·rw[if_pos h2];exact h k b (by omega) V6 h1
  ·rw[if_neg h2]
   by_cases h3:a=k
   ·rw[if_pos h3];exact h (k+1) b (by omega) V6 h1
   ·rw[if_neg h3];exact h a b hab V6 h1
theorem vb (h:j_ m i k) (hx:k=0∨m.getD (k-1) 0≤m.getD k 0) (j:Nat):j_ m i j:=by
 intro a b hab V6 _
 by_cases hb:b=k
 ·subst hb;have hx:=hx.resolve_left (by omega)
  by_cases ha:a=b-1
  ·rw[ha];exact hx
  ·exact Int.le_trans (h a (b-1) (by omega) (by omega) (by omega)) hx
 ·exact h a b hab V6 hb
theorem swap_perm (hk:k+1<m.length):((m.set k (m.getD (k+1) 0)).set (k+1) (m.getD k 0)).Perm m:=by
 have h0:m=m.take k++(m.getD k 0::m.getD (k+1) 0::m.drop (k+2)):=by
  have e1:m.drop k=m.getD k 0::m.drop (k+1):=by rw[ψ (by omega)];simp[τ,δ (show k<m.length by omega)]
  have e2:m.drop (k+1)=m.getD (k+1) 0::m.drop (k+2):=by rw[ψ (by omega)];simp[τ,δ hk]
  rw[←e2,←e1,List.take_append_drop]
 have hlen:(m.take k).length=k:=by simp;omega
 generalize m.getD k 0=x at*;generalize m.getD (k+1) 0=y at*;generalize m.take k=l1 at*;generalize m.drop (k+2)=l2 at*;subst h0;rw[Y' _ _ (by omega),Y' _ _ (by omega),hlen,Nat.sub_self,Nat.add_sub_cancel_left];exact(List.Perm.swap x y l2).append_left l1
theorem CU (h : j_ m i (i + 1)) (hi : i + 1 ≥ m.length): m.Pairwise (· ≤ ·) := by
 rw [Cr];intro a b ha hb hab;have := h a b hab (by omega) (by omega)
 simpa [τ, δ ha, δ hb] using this
theorem LJ (hx : YH s0 2 x (l.map aw)) (hl : l.length ≤ 268435456): ∃ d, Ev pv 253 [x] s0 d s0 ∧ ∃ m : List Int, d = Bl m ∧ m.Perm (je l) ∧ m.Pairwise (· ≤ ·) := by
 refine Ev.FP rfl WJ rfl rfl rfl ?_;refine zE ?_;obtain ⟨aN, hF, hH⟩ := ri s0;generalize ae .ro s0 = S at *;have hx := Ut hx aN;refine zQ 6 ?_;refine qh (s := 1) (vs := [_, _, _, _]) hH fun k7 st SB hH => ?_;refine zQ 7 ?_;have mZ := uO l;have h0 : je (l.take 0) = [0, 55296, 57344, 1114112] := rfl
 have D7 : ∀ i, (je (l.take i)).length ≤ 4 + 2 * l.length := by
  intro i;have := uO (l.take i);simp only [je, ο, ε, μ, Zt] at *;omega
 refine zQ 1 ?_;refine ag.loop (fun mm fr st => ∃ (i : Nat) (y : D), fr.clean = ⟨7, [x, eJ fr 1, eJ fr 2, y, .int .i64 (i : Nat), eJ fr 5, eJ fr 6], []⟩ ∧ Has s0.bs.length S st [.aF y 1 ((je (l.take i)).map fy)] ∧ (i + mm = l.length)) (l.length) ?_ ?_
 ·exact ⟨0, _, rfl, hH, by omega⟩
 rintro mm fr st ⟨i, y, hfr, hH, hi⟩;rw [hfr];clear hfr;generalize eJ fr = ee;clear fr;refine zQ 5 ?_;refine qn ?_;simp only [γ];refine zQ 2 ?_;refine zP (fun h1 => ?_) fun h1 => ?_
 ·refine zQ 1 ?_
  obtain ⟨q, hq⟩ : ∃ q, l[i]? = some q := ⟨l[i]'(by omega), δ _⟩
  have hr := fc hq;have hm := D7 i
  have yf : je (l.take (i + 1)) = je (l.take i) ++ lp q := by
   rw [υ, hq]; simp [je]
  refine zQ 4 ?_;refine ag.dM 40 (.bool (decide (q.1 ≤ q.2) && decide (q.1 ≥ 0) && decide (q.1 ≤ 1114111))) [] ?_ (fun ff tmp dj => ?_)
  ·refine zQ 2 ?_;refine qr fun p16 Vn => ?_;refine qf (fo := 0) fun Zj Sl => ?_;refine zQ 3 ?_;refine qr fun Uj Mi => ?_;refine qf (fo := 1) fun Ui Mh => ?_;refine zQ 3 ?_;refine Θ 25 rfl (fun ck => ?_) (fun ck => ?_)
   ·refine zQ 2 ?_;refine qr (fun Zh Sj => ?_) (hg := wi ck);refine qf (fo := 0) (fun p29 Vl => ?_) (hg := wi ck);refine zQ 4 ?_;refine Θ 33 rfl (fun l5 => ?_) (fun l5 => ?_)
    ·refine zQ 2 ?_;refine qr (fun Yq Pq => ?_) (hg := wi l5);refine qf (fo := 0) (fun Yp Pp => ?_) (hg := wi l5);refine zQ 3 ?_;refine ς (aR ?_ ?_)
     ·dsimp only [aK, κ, nth, u2, u1]
      all_goals (first | rfl | simp)
     ·refine zF ?_
      all_goals (simp [ck, l5]; done)
    ·refine zQ 7 ?_;refine ς (aR ?_ ?_)
     ·dsimp only [aK, κ, nth, u2, u1]
      all_goals (first | rfl | simp)
     ·refine zF ?_
      all_goals (simp [ck, l5]; done)
   ·refine zQ 15 ?_;refine ς (aR ?_ ?_)
    ·dsimp only [aK, κ, nth, u2, u1]
     all_goals (first | rfl | simp)
    ·refine zF ?_
     all_goals (simp [ck]; done)
  refine zG ?_;have rW : lp q = (if q.1 ≤ q.2 ∧ 0 ≤ q.1 ∧ q.1 ≤ 1114111 then [q.1] else []) ++ (if q.1 ≤ q.2 ∧ 0 ≤ q.2 ∧ q.2 < 1114111 then [q.2 + 1] else []) := rfl;rw [rW] at yf;generalize jY : (if q.1 ≤ q.2 ∧ 0 ≤ q.1 ∧ q.1 ≤ 1114111 then [q.1] else []) = e1 at yf;generalize y_ : (if q.1 ≤ q.2 ∧ 0 ≤ q.2 ∧ q.2 < 1114111 then [q.2 + 1] else []) = e2 at yf;have adE : e1.length ≤ 1 := by rw [← jY]; split <;> simp
  refine ag.merge (fun fr st => ∃ (y : D) (tmp : List (Nat × D)), fr = ⟨7, [x, eJ fr 1, eJ fr 2, y, .int .i64 (i : Nat), eJ fr 5, eJ fr 6], tmp⟩ ∧ Has s0.bs.length S st [.aF y 1 ((je (l.take i) ++ e1).map fy)]) ?_ ?_
  ·refine qc (fun h2 => ?_) (fun h2 => ?_) <;> try simp only [cs] at h2
   ·simp only [bU, decide_eq_true_eq] at h2;rw [if_pos ⟨h2.1.1, h2.1.2, h2.2⟩] at jY;refine zQ 4 ?_;refine qr fun Zd Sg => ?_;refine qf (fo := 0) fun p45 Vg => ?_;refine qR ?_;refine qh (s := 1) (vs := [_]) hH fun k47 st aaA hH => ?_;refine R2 (s := 1) hH rfl (ev rfl) (ev rfl) (by exact aO) (by exact hH.rows (by exact aB)) rfl rfl rfl rfl rfl rfl rfl ⟨(ζ rfl), (ζ rfl)⟩ (fun _ => (aa rfl _)) (by simp only [ε, μ, γ] <;> omega) (by exact .inl hF) (fun NV st hH => ?_);dsimp only [u2, u1, u3, u4, setMany, u5, u6, χ, ι, aw, fy] at hH;refine zQ 2 ?_;exact ⟨NV, _, rfl, (by rw [← jY, Δ]; exact hH.drop 1)⟩
   ·rw [if_neg (by rintro ⟨a, b, c⟩; simp [a, b, c] at h2)] at jY;refine zQ 1 ?_;exact ⟨y, _, rfl, (by rw [← jY, lx]; exact hH)⟩
  ·rintro fr st ⟨y, tmp, hfr, hH⟩;rw [hfr];clear hfr;generalize eJ fr = ee;clear fr;refine qq ?_;refine ag.dM 75 (.bool (decide (q.1 ≤ q.2) && decide (q.2 ≥ 0) && decide (q.2 < 1114111))) [] ?_ (fun ff tmp dj => ?_)
   ·refine zQ 2 ?_;refine qr fun Zb Se => ?_;refine qf (fo := 0) fun p52 aai => ?_;refine zQ 3 ?_;refine qr fun Za Sd => ?_;refine qf (fo := 1) fun p57 adb => ?_;refine zQ 3 ?_;refine Θ 60 rfl (fun ck => ?_) (fun ck => ?_)
    ·refine zQ 2 ?_;refine qr (fun p63 ac8 => ?_) (hg := wi ck);refine qf (fo := 1) (fun p64 Vd => ?_) (hg := wi ck);refine zQ 4 ?_;refine Θ 68 rfl (fun l5 => ?_) (fun l5 => ?_)
     ·refine zQ 2 ?_;refine qr (fun p71 ac5 => ?_) (hg := wi l5);refine qf (fo := 1) (fun p72 aad => ?_) (hg := wi l5);refine zQ 3 ?_;refine ς (aR ?_ ?_)
      ·dsimp only [aK, κ, nth, u2, u1]
       all_goals (first | rfl | simp)
      ·refine zF ?_
       all_goals (simp [ck, l5]; done)
     ·refine zQ 7 ?_;refine ς (aR ?_ ?_)
      ·dsimp only [aK, κ, nth, u2, u1]
       all_goals (first | rfl | simp)
      ·refine zF ?_
       all_goals (simp [ck, l5]; done)
    ·refine zQ 15 ?_;refine ς (aR ?_ ?_)
     ·dsimp only [aK, κ, nth, u2, u1]
      all_goals (first | rfl | simp)
     ·refine zF ?_
      all_goals (simp [ck]; done)
   dsimp only [aK, κ, nth, u2, u1];refine ag.merge (fun fr st => ∃ (y : D) (tmp : List (Nat × D)), fr = ⟨7, [x, eJ fr 1, eJ fr 2, y, .int .i64 (i : Nat), eJ fr 5, eJ fr 6], tmp⟩ ∧ Has s0.bs.length S st [.aF y 1 ((je (l.take (i + 1))).map fy)]) ?_ ?_
   ·refine qc (fun h2 => ?_) (fun h2 => ?_) <;> try simp only [cs] at h2
    ·simp only [bU, decide_eq_true_eq] at h2;rw [if_pos ⟨h2.1.1, h2.1.2, h2.2⟩] at y_;refine zQ 4 ?_;refine qr fun Ym Pm => ?_;refine qf (fo := 1) fun p80 aac => ?_;refine qR ?_;refine Qa9 rfl (ev rfl) (ev rfl) (by omega) (by omega) (aa rfl _) ?_;refine qh (s := 1) (vs := [_]) hH fun k83 st adl hH => ?_;refine R2 (s := 1) hH rfl (ev rfl) (ev rfl) (by exact aO) (by exact hH.rows (by exact aB)) rfl rfl rfl rfl rfl rfl rfl ⟨(ζ rfl), (ζ rfl)⟩ (fun _ => (aa rfl _)) (by simp only [ο, ε, μ, γ] <;> omega) (by exact .inl hF) (fun x84 st hH => ?_);dsimp only [u2, u1, u3, u4, setMany, u5, u6, χ, ι, aw, fy] at hH;refine zQ 2 ?_;exact ⟨x84, _, rfl, (by rw [yf, ← y_, ← AT, Δ]; exact hH.drop 1)⟩
    ·rw [if_neg (by rintro ⟨a, b, c⟩; simp [a, b, c] at h2)] at y_;refine zQ 1 ?_;exact ⟨y, _, rfl, (by rw [yf, ← y_, lx]; exact hH)⟩
   ·rintro fr st ⟨y, tmp, hfr, hH⟩;rw [hfr];clear hfr;generalize eJ fr = ee;clear fr;refine zQ 5 ?_;exact ⟨mm - 1, by omega, ⟨i + 1, y, rfl, hH, by omega⟩⟩
 ·refine zQ 1 ?_;have hT : l.take i = l := ρ (by omega);rw [hT] at hH;have hm := D7 l.length;rw [List.take_length] at hm;generalize lC : je l = m0 at *;have Z8 : 4 ≤ m0.length := by rw [← lC]; simp [je]
  refine zQ 6 ?_;refine ag.loop (fun mm fr st => ∃ (i : Nat) (m : List Int), fr.clean = ⟨7, [x, eJ fr 1, eJ fr 2, y, eJ fr 4, .int .i64 (i : Nat), eJ fr 6], []⟩ ∧ Has s0.bs.length S st [.aF y 1 (m.map fy)] ∧ (i + mm = m0.length) ∧ (m.Perm m0) ∧ (j_ m (i - 1) i) ∧ (1 ≤ i)) (m0.length - 1) ?_ ?_
  ·exact ⟨1, m0, rfl, hH, by omega, .refl _, by intro a b h1 h2 h3; omega, by omega⟩
  rintro mm fr st ⟨i, m, hfr, hH, hi, hp, hs, Z8⟩;rw [hfr];clear hfr;generalize eJ fr = ee;clear fr;have aar : m.length = m0.length := hp.length_eq;refine zQ 5 ?_;refine qn ?_ (hR := hH.rows aB);simp only [γ];refine zQ 2 ?_;refine zP (fun h1 => ?_) fun h1 => ?_
  ·refine zQ 9 ?_;refine ag.loop (fun mm fr st => ∃ (k : Nat) (m : List Int), fr.clean = ⟨7, [x, eJ fr 1, eJ fr 2, y, eJ fr 4, .int .i64 (i : Nat), .int .i64 (k : Nat)], []⟩ ∧ Has s0.bs.length S st [.aF y 1 (m.map fy)] ∧ (k = mm) ∧ (m.Perm m0) ∧ (j_ m i k) ∧ (k ≤ i)) (i) ?_ ?_
   ·exact ⟨i, m, rfl, hH, rfl, hp, by intro a b h1 h2 h3; exact hs a b h1 (by omega) (by omega), by omega⟩
   have l4 := hi;rintro mm fr st ⟨k, m, hfr, hH, hk, hp, hs, Sx⟩;rw [hfr];clear hfr;generalize eJ fr = ee;clear fr;have aar : m.length = m0.length := hp.length_eq
   rcases k with _ | k
   ·have br : decide (((0 : Nat) : Int) > 0) = false := by decide
    refine zQ 2 ?_;refine ag.dM 105 (.bool false) [] ?_ (fun ff tmp dj => ?_)
    ·refine zQ 14 ?_;refine ς (aR ?_ ?_)
     ·dsimp only [aK, κ, nth, u2, u1]
      all_goals (first | rfl | simp)
     ·exact zS
      all_goals (first | rfl | (simp [br]; done) | (simp_all; done) | (simp [br]; omega) | (simp_all; omega))
    refine zG ?_;refine zQ 7 ?_;exact ⟨m0.length - (i + 1), by omega, ⟨i + 1, m, rfl, hH, by omega, hp, vb hs (.inl rfl) _, by omega⟩⟩
   ·have br : decide (((k + 1 : Nat) : Int) > 0) = true := by rw [decide_eq_true]; omega
    have gw : (m.map fy)[k]? = some (fy (m.getD k 0)) := by
     rw [ω, δ (by omega)]; simp [τ, δ (show k < m.length by omega)]
    have nB : (m.map fy)[k + 1]? = some (fy (m.getD (k + 1) 0)) := by
     rw [ω, δ (by omega)]; simp [τ, δ (show k + 1 < m.length by omega)]
    refine zQ 2 ?_;refine ag.dM 105 (.bool (decide (m.getD k 0 > m.getD (k + 1) 0))) [] ?_ (fun ff tmp dj => ?_)
    ·refine zQ 5 ?_;refine OF (z := ((k : Nat) : Int)) (af rfl rfl rfl br) (ev rfl) (ev rfl) (by (try simp only [η, ε, μ, ο, γ, φ]); rw [wrap_i64 (by omega) (by omega)] <;> omega) (aa rfl _) ?_;refine qi hH aB (fun p98 acV => ?_) (hg := wi br);refine zQ 3 ?_;refine qi hH aB (fun acH acr => ?_) (hg := wi br);refine zQ 3 ?_;refine ς (aR ?_ ?_)
     ·dsimp only [aK, κ, nth, u2, u1]
      all_goals (first | rfl | simp)
     ·exact zS
      all_goals (first | rfl | (simp [br]; done) | (simp_all; done) | (simp [br]; omega) | (simp_all; omega))
    refine zG ?_;have hsw := swap_perm (m := m) (k := k) (by omega);have hss := fun h => CT (m := m) (i := i) (k := k) (by omega) (by omega) hs h;have hsd := fun (h : m.getD k 0 ≤ m.getD (k + 1) 0) => vb (j := i + 1) hs (.inr (by rw [Nat.add_sub_cancel]; exact h));have nC : ((m.set k (m.getD (k + 1) 0)).set (k + 1) (m.getD k 0)).map fy = ((m.map fy).set k (fy (m.getD (k + 1) 0))).set (k + 1) (fy (m.getD k 0)) := by rw [Qa2, Qa2]
    have Gc : ((m.map fy).set k (fy (m.getD (k + 1) 0)))[k + 1]? = some (fy (m.getD (k + 1) 0)) := by rw [wt (by omega)]; exact nB
    generalize m.getD k 0 = a at *;generalize m.getD (k + 1) 0 = b at *;refine ag.cond (by assumption) (fun h2 => ?_) (fun h2 => ?_) <;> try simp only [decide_eq_true_eq, decide_eq_false_iff_not] at h2
    ·refine zQ 6 ?_;refine OF (z := ((k : Nat) : Int)) rfl (ev rfl) (ev rfl) (by (try simp only [η, ε, μ, ο, γ, φ]); rw [wrap_i64 (by omega) (by omega)] <;> omega) (aa rfl _) ?_;refine zQ 4 ?_;refine qi hH aB fun acF acq => ?_;refine zQ 3 ?_;refine OF (z := ((k : Nat) : Int)) rfl (ev rfl) (ev rfl) (by (try simp only [η, ε, μ, ο, γ, φ]); rw [wrap_i64 (by omega) (by omega)] <;> omega) (aa rfl _) ?_;refine qi hH aB fun acE acp => ?_;refine zQ 1 ?_;refine qi hH aB fun acD aco => ?_;refine Qa7 hH rfl (ev rfl) (ev rfl) (by assumption) rfl rfl (by exact aB) (by assumption) (ζ rfl) (by exact .inl hF) (fun st hH => ?_);dsimp only [u2, u1, u3, u4, setMany, u5, u6, χ, ι, aw, fy] at hH;refine qi hH aB fun acC acn => ?_;refine Qa7 hH rfl (ev rfl) (ev rfl) (by assumption) rfl rfl (by exact aB) (by assumption) (ζ rfl) (by exact .inl hF) (fun st hH => ?_);dsimp only [u2, u1, u3, u4, setMany, u5, u6, χ, ι, aw, fy] at hH;refine zQ 3 ?_;refine OF (z := ((k : Nat) : Int)) rfl (ev rfl) (ev rfl) (by (try simp only [η, ε, μ, ο, γ, φ]); rw [wrap_i64 (by omega) (by omega)] <;> omega) (aa rfl _) ?_;refine zQ 2 ?_;exact ⟨k, by omega, ⟨k, (m.set k b).set (k + 1) a, rfl, (by rw [nC]; exact hH), rfl, hsw.trans hp, hss h2, by omega⟩⟩
    ·refine zQ 6 ?_;exact ⟨m0.length - (i + 1), by omega, ⟨i + 1, m, rfl, hH, by omega, hp, hsd (by omega), by omega⟩⟩
  ·refine zQ 6 ?_;refine ag.ret ⟨rx, _, _, rfl, rl aN hH ((hH.freeze aB (w6 _) (n := 15) (by decide))), ?_⟩;exact ⟨m, rfl, lC ▸ hp, CU (i := i - 1) (by intro a b h1 h2 h3; exact hs a b h1 h2 (by omega)) (by omega)⟩
def ji (fr:Go.V.Fr) (k:Nat):Go.V.D:=Go.V.nth .bI fr.loc k
def iF (l a:List Rg):Prop:=canon a∧∀r,fG a r↔kj r∧fG l r
variable{a:List Rg}
theorem iF.unique {b:List Rg} (h:iF l a) (g:iF l b):a=b:=tw h.1 g.1 fun r=>(h.2 r).trans (g.2 r).symm
noncomputable def gh (l:List Rg):Bool:=@decide (iF l l) (Z5 _)
theorem zM (h:iF l a):gh l=decide (l=a):=by
 unfold gh
 by_cases hl:l=a
 ·rw[decide_eq_true hl];exact@decide_eq_true _ (Z5 _) (by rw[hl] at h⊢;exact h)
 ·rw[decide_eq_false hl];exact@decide_eq_false _ (Z5 _) (fun g=>hl (g.unique h))
theorem Ae (p q:Rg):fw pv .neq 129 (.agg (aw p)) (.agg (aw q))=some (.bool (!decide (p=q))):=by
 have h:∀a b a' b':Int,fw pv .neq 129 (.agg [.int .i32 a,.int .i32 b]) (.agg [.int .i32 a',.int .i32 b'])=Option.map (fun b=>D.bool !b) (match some (a==a') with|some true=>(match some (b==b') with|some true=>some true|some false=>some false|none=>none)|some false=>some false|none=>none):=fun _ _ _ _=>rfl;obtain⟨a,b⟩:=p;obtain⟨a',b'⟩:=q;simp only[aw,h]
 by_cases h1:a=a'
 ·subst h1
  by_cases h2:b=b'
  ·subst h2;simp
  ·have:(b==b')=false:=by simpa using h2
   simp[this,h2]
 ·have:(a==a')=false:=by simpa using h1
  simp[this,h1]
theorem sf {α:Type} {a b:List α} {x y:α} (ha:a[i]?=some x) (hb:b[i]?=some y) (h:a.take i=b.take i) (UL:x=y):a.take (i+1)=b.take (i+1):=by
 rw[υ,υ,h,ha,hb,UL]
theorem Af {α:Type} {a b:List α} {x y:α} (ha:a[i]?=some x) (hb:b[i]?=some y) (UL:¬x=y):¬a=b:=by
 intro h;subst h;rw[ha] at hb;exact UL (VT.inj hb)
theorem M_ {y:D} {m:List Rg} (hx:YH s0 2 x (l.map aw)) (hy:YH s0 2 y (m.map aw)) (hl:l.length≤1073741824) (hm:m.length≤1073741824):Ev pv 225 [x,y] s0 (.bool (decide (l=m))) s0:=by
 refine Ev.gP rfl WU rfl rfl rfl ?_;refine zE ?_;obtain⟨aN,hF,hH⟩:=ri s0;generalize ae .ro s0=S at*;have hx:=Ut hx aN;have hy:=Ut hy aN;refine zQ 8 ?_;refine qn ?_;simp only[γ];refine qm ?_;refine qn ?_;simp only[γ];refine zQ 2 ?_
 by_cases hlen:l.length=m.length
 ·refine ag.cond (v:=false) ?_ (fun h=>by cases h) (fun _=>?_)
  ·dsimp only[Cf,ki,nth,Qa5];rw[hlen];simp
  refine zQ 5 ?_;refine qn ?_;simp only[γ];refine zQ 3 ?_;refine ag.loop (fun mm fr st=>∃(i:Nat),fr.clean=⟨14,[x,y,ji fr 2,ji fr 3,.bool false,ji fr 5,ji fr 6,ji fr 7,ji fr 8,ji fr 9,ji fr 10,ji fr 11,.int .i64 (l.length:Nat),.int .i64 (i:Nat)],[]⟩∧Has s0.bs.length S st []∧(i+mm=l.length)∧(l.take i=m.take i)) (l.length) ?_ ?_
  ·exact⟨0,rfl,hH,by omega,rfl⟩
  rintro mm fr st ⟨i,hfr,hH,hi,ht⟩;rw[hfr];clear hfr;generalize ji fr=ee;clear fr;refine zQ 5 ?_;refine zP (fun h1=>?_) fun h1=>?_
  ·refine zQ 1 ?_
   obtain⟨p,hp⟩:∃p,l[i]?=some p:=⟨l[i]'(by omega),δ _⟩
   obtain⟨q,hq⟩:∃q,m[i]?=some q:=⟨m[i]'(by omega),δ _⟩
   have gw:=fc hp;have nB:=fc hq;refine zQ 11 ?_;refine qr fun Rq Gf=>?_;refine R3 rfl (ev rfl) (by assumption) rfl (aa rfl _) ?_;refine zQ 2 ?_;refine qr fun Ui Mh=>?_;refine R3 rfl (ev rfl) (by assumption) rfl (aa rfl _) ?_;refine ab.QA rfl (ev rfl) (ev rfl) (Ae p q) (aa rfl _) ?_;refine zQ 1 ?_;refine ag.cond (by rfl) (fun h2=>?_) (fun h2=>?_)<;>try simp only[decide_eq_true_eq,decide_eq_false_iff_not,AN,Pe] at h2
   ·refine zQ 4 ?_;rw[decide_eq_false (Af hp hq (by simpa using h2))];refine ag.ret ⟨rx,_,rfl,rl aN hH (rfl)⟩
   ·refine zQ 5 ?_;exact⟨mm-1,by omega,⟨i+1,rfl,hH,by omega,sf hp hq ht (by simpa using h2)⟩⟩
  ·refine zQ 5 ?_;rw[decide_eq_true (by rw[ρ (by omega),ρ (by omega)] at ht;exact ht)];refine ag.ret ⟨rx,_,rfl,rl aN hH (rfl)⟩
 ·refine ag.cond (v:=true) ?_ (fun _=>?_) (fun h=>by cases h)
  ·dsimp only[Cf,ki,nth,Qa5];simp;omega
  refine zQ 4 ?_;rw[decide_eq_false (fun h=>hlen (by rw[h]))];refine ag.ret ⟨rx,_,rfl,rl aN hH (rfl)⟩
theorem Dc (hx:YH s0 2 x (l.map aw)) (hl:l.length≤1048576):Ev pv 195 [x] s0 (.bool (gh l)) s0:=by
 refine Ev.gP rfl Xb rfl rfl rfl ?_;refine zE ?_;obtain⟨aN,hF,hH⟩:=ri s0;generalize ae .ro s0=S at*;have hx:=Ut hx aN;refine zQ 4 ?_;obtain⟨_,ax,all,rfl,hperm,rv⟩:=HL (hx.rows hH) (by omega);have hM:iF l (all.foldl fQ []).reverse:=xJ (fun x=>hperm.mem_iff) rv;have hlen:=hperm.length_eq;have mZ:=mG l;have oH:=xW all;rw[zM hM];refine zQ 4 ?_;refine qv (ax) ?_;refine qv (M_ (hx.rows hH) (h_ _ _) (by omega) (by rw[η];omega)) ?_;refine zQ 2 ?_;refine ag.ret ⟨rx,_,rfl,rl aN hH (rfl)⟩
theorem Ld {acc:List Rg} {lo hi:Int} (hF:S.flr≤N) (hH:Has N S st (.aF x 2 (acc.reverse.map aw)::H)) (hl:acc.length≤536870912) (hb:∀k∈acc,0≤k.2+1∧k.2+1≤2147483647):
  ∃x' ai,Ev pv 255 [x,.int .i32 lo,.int .i32 hi] st x' ai∧Has N S ai (.aF x' 2 ((gV acc lo hi).reverse.map aw)::H):=by
 refine Ev.eN rfl WH rfl rfl rfl ?_;refine zE ?_;change ag _ _ _ _ st _;refine zQ 4 ?_
 rcases acc with _|⟨h,t⟩
 ·have bZ:decide (((([]:List Rg).reverse.map aw).length:Int)>0)=false:=by decide
  refine zQ 2 ?_;refine ag.dM 21 (.bool false) [] ?_ (fun ff tmp dj=>?_)
  ·refine qm ?_;refine qn ?_ (hR:=hH.rows aB);simp only[γ,μ,η];refine zQ 13 ?_;refine ς (aR ?_ ?_)
   ·dsimp only[aK,κ,nth,u2,u1]
    all_goals(first|rfl|simp)
   ·dsimp only[hD,Wh,GB,Cf,ki,nth,look,u1,u2,v1,v2,v4]
    all_goals(first|rfl|(simp[bZ];done)|(simp_all;done)|(simp[bZ];omega)|(simp_all;omega))
  dsimp only[aK,κ,nth,u2,u1];refine zQ 8 ?_;refine qh (s:=2) (vs:=[_]) hH fun k34 st aaC hH=>?_;dsimp only[u2,u1,u3,u4,setMany,u5,u6,χ,ι,aw] at hH;refine R2 (s:=2) hH rfl (ev rfl) (ev rfl) (by exact aO) (by exact hH.rows (by exact aB)) rfl rfl rfl rfl rfl rfl rfl ⟨(ζ rfl),(ζ rfl)⟩ (fun _=>(aa rfl _)) (by simp only[ε,μ,γ,η]<;>omega) (by exact .inl hF) (fun x35 st hH=>?_);dsimp only[u2,u1,u3,u4,setMany,u5,u6,χ,ι,aw] at hH;refine zQ 2 ?_;refine ag.ret ⟨rx,_,_,_,rfl,rfl,?_⟩;exact hH.drop 1
 ·have vA:=DT h t;have iM:=DS h (h.1,hi) t;have hbh:=hb h (ν ..);simp only[ε] at hl;have bZ:decide (((t.length+1:Nat):Int)>0)=true:=by rw[decide_eq_true];omega
  refine zQ 2 ?_;refine ag.dM 21 (.bool (decide (h.2+1=lo))) [] ?_ (fun ff tmp dj=>?_)
  ·refine qm ?_;refine qn ?_ (hR:=hH.rows aB);simp only[γ,ε,η];refine zQ 4 ?_;refine qn ?_ (hR:=hH.rows aB) (hg:=wi bZ);simp only[γ,ε,η];refine OF (z:=((t.length:Nat):Int)) (af rfl rfl rfl bZ) (ev rfl) (ev rfl) (by(try simp only[η,ε,μ,ο,γ,φ]);rw[wrap_i64 (by omega) (by omega)]<;>omega) (aa rfl _) ?_;refine qi hH aB (fun Ys Ps=>?_) (hg:=wi bZ);refine Qa3 (fo:=1) (m:=0) (o2:=1) (af rfl rfl rfl bZ) (ev rfl) (by assumption) rfl rfl rfl (fun _=>(aa rfl _)) (fun p16 Vn=>?_);refine zQ 1 ?_;refine Qa9 (af rfl rfl rfl bZ) (ev rfl) (ev rfl) (by omega) (by omega) (aa rfl _) ?_;refine zQ 3 ?_;refine ς (aR ?_ ?_)
   ·dsimp only[aK,κ,nth,u2,u1]
    all_goals(first|rfl|simp)
   ·dsimp only[hD,Wh,GB,Cf,ki,nth,look,u1,u2,v1,v2,v4]
    all_goals(rfl)
  dsimp only[aK,κ,nth,u2,u1];refine ag.cond (by assumption) (fun h2=>?_) (fun h2=>?_)<;>try simp only[decide_eq_true_eq,decide_eq_false_iff_not] at h2
  ·refine zQ 4 ?_;refine qn ?_ (hR:=hH.rows aB);simp only[γ,ε,η];refine OF (z:=((t.length:Nat):Int)) rfl (ev rfl) (ev rfl) (by(try simp only[η,ε,μ,ο,γ,φ]);rw[wrap_i64 (by omega) (by omega)]<;>omega) (aa rfl _) ?_;refine qm ?_;refine qi hH aB fun Zi Sk=>?_;refine Qa3 (fo:=1) (m:=0) (o2:=1) rfl (ev rfl) (by assumption) rfl rfl rfl (fun _=>(aa rfl _)) (fun Zh Sj=>?_);refine Qa7 hH rfl (ev rfl) (ev rfl) (by assumption) rfl rfl (by exact aB) (by assumption) (ζ rfl) (by exact .inl hF) (fun st hH=>?_);dsimp only[u2,u1,u3,u4,setMany,u5,u6,χ,ι,aw] at hH;refine zQ 6 ?_;refine ag.ret ⟨rx,_,_,_,rfl,rfl,?_⟩;simp only[gV,if_pos h2];rw[←iM];exact hH
  ·refine zQ 7 ?_;refine qh (s:=2) (vs:=[_]) hH fun k34 st aaC hH=>?_;dsimp only[u2,u1,u3,u4,setMany,u5,u6,χ,ι,aw] at hH;refine R2 (s:=2) hH rfl (ev rfl) (ev rfl) (by exact aO) (by exact hH.rows (by exact aB)) rfl rfl rfl rfl rfl rfl rfl ⟨(ζ rfl),(ζ rfl)⟩ (fun _=>(aa rfl _)) (by simp only[ε,μ,γ,η]<;>omega) (by exact .inl hF) (fun x35 st hH=>?_);dsimp only[u2,u1,u3,u4,setMany,u5,u6,χ,ι,aw] at hH;refine zQ 2 ?_;refine ag.ret ⟨rx,_,_,_,rfl,rfl,?_⟩;simp only[gV,if_neg h2];rw[ZD (a:=(lo,hi)),Δ];exact hH.drop 1
theorem I8 (acc:List Rg) (lo hi:Int):(gV acc lo hi).length≤acc.length+1:=by
 unfold gV;split
 ·simp
 ·split<;>simp
theorem Rw (l:List Rg) (a b:Int):TF l true a b=((decide (a<b) &&(decide (a<55296)||decide (a>57343))) &&lE l a):=by
 unfold TF;cases lE l a<;>simp
theorem FC (hx:YH s0 2 x (l.map aw)) (hl:l.length≤134217728):∃d,Ev pv 227 [x] s0 d s0∧∃a:List Rg,d=cC a∧iF l a:=by
 refine Ev.FP rfl WS rfl rfl rfl ?_;refine zE ?_;obtain⟨aN,hF,hH⟩:=ri s0;generalize ae .ro s0=S at*;have hx:=Ut hx aN;refine zQ 4 ?_;obtain⟨_,ax,m,rfl,hperm,rv⟩:=LJ (hx.rows hH) (by omega);have hlen:=hperm.length_eq;have mZ:=uO l;have D7:m.length=4+(l.flatMap lp).length:=by rw[hlen];simp[je];omega
 have hmr:∀q∈m,0≤q∧q≤1114112:=by
  intro q hq;have:=hperm.mem_iff.1 hq;simp only[je,Ψ,θ,Ξ,or_false,Γ] at this
  rcases this with(h|h|h|h)|⟨y,_,hy⟩
  ·omega
  ·omega
  ·omega
  ·omega
  ·unfold lp at hy
   split at hy<;>split at hy<;>simp at hy<;>omega
 have hM:=zg (l:=l) (m:=m) true (fun q=>by
  rw[hperm.mem_iff]
  simp only[je,Ψ,θ,Ξ,or_false,Γ,or_assoc]) rv
 have hMI:iF l (iT l true m []).reverse:=⟨hM.1,fun r=>by rw[hM.2 r];simp⟩
 refine zQ 3 ?_;refine qv (ax) ?_;refine zQ 2 ?_;have lC:=Qa8 (N:=s0.bs.length) (S:=S) (s:=1) (es:=(m.map fy).map (ml 1)) (fun st=>C_ st m);change Arg s0.bs.length S 1 (Bl m) _ at lC;refine zQ 9 ?_;have hH:=hH.fW 2;refine zQ 1 ?_;refine ag.loop (fun mm fr st=>∃(i:Nat) (y:D) (acc:List Rg),fr.clean=⟨6,[x,ji fr 1,ji fr 2,Bl m,y,.int .i64 (i:Nat)],[]⟩∧Has s0.bs.length S st [.aF y 2 (acc.reverse.map aw)]∧(i+mm=m.length)∧(iT l true (m.drop i) acc=iT l true m [])∧(acc.length≤i)∧(∀k∈acc,0≤k.2+1∧k.2+1≤1114112)) (m.length) ?_ ?_
 ·exact⟨0,.nul,[],rfl,hH,by omega,rfl,by simp,by simp⟩
 rintro mm fr st ⟨i,y,acc,hfr,hH,hi,hp,hal,hab⟩;rw[hfr];clear hfr;generalize ji fr=ee;clear fr;refine zQ 6 ?_;refine qn ?_;simp only[γ];refine zQ 2 ?_;refine zP (fun h1=>?_) fun h1=>?_
 ·refine zQ 1 ?_
  obtain⟨a,ha⟩:∃a,m[i]?=some a:=⟨m[i]'(by omega),δ _⟩
  obtain⟨b,hb⟩:∃b,m[i+1]?=some b:=⟨m[i+1]'(by omega),δ _⟩
  have gw:=Da ha;have nB:=Da hb;have hbr:=hmr b (xw hb);have har:=hmr a (xw ha)
  have vP:m.drop i=a::b::m.drop (i+2):=by
   rw[ψ (by omega),ψ (by omega)];rw[δ (by omega)] at ha hb;rw[VT.inj ha,VT.inj hb]
  have aaV:m.drop (i+1)=b::m.drop (i+2):=by
   rw[ψ (by omega)];rw[δ (by omega)] at hb;rw[VT.inj hb]
  rw[vP,iT,←aaV,Rw] at hp;refine zQ 3 ?_;refine ag.dM 46 (.bool ((decide (a<b) &&(decide (a<55296)||decide (a>57343))) &&lE l a)) [] ?_ (fun ff tmp dj=>?_)
  ·refine zQ 2 ?_;refine qr fun Zj Sl=>?_;refine zQ 4 ?_;refine qr fun Ui Mh=>?_;refine zQ 3 ?_;refine Θ 25 rfl (fun ek=>?_) (fun ek=>?_)
   ·refine zQ 2 ?_;refine qr (fun Zh Sj=>?_) (hg:=wi ek);refine zQ 3 ?_;refine Θ 31 rfl (fun jP=>?_) (fun jP=>?_)
    ·refine zQ 5 ?_;refine ab.bN (af rfl rfl rfl ek) rfl jP (aa rfl _) ?_;refine zQ 5 ?_;refine qr fun Ze Sh=>?_;refine qR ?_;refine qv (zZ (hx.rows hH) (by omega)) ?_;refine qg ?_;refine ς (aR ?_ ?_)
     ·dsimp only[aK,κ,nth,u2,u1]
      all_goals(first|rfl|simp)
     ·refine zF ?_
      all_goals(simp[ek,jP];done)
    ·refine zQ 2 ?_;refine qr (fun p34 Vj=>?_) (hg:=wi jP);refine zQ 2 ?_;refine ab.cA (af rfl rfl rfl ek) rfl jP (aa rfl _) ?_;refine zQ 2 ?_;refine Θ 39 rfl (fun jk=>?_) (fun jk=>?_)
     ·refine zQ 3 ?_;refine qr (fun Ze Sh=>?_) (hg:=wi jk);refine zQ 1 ?_;refine qv (zZ (hx.rows hH) (by omega)) ?_ (hg:=wi jk);refine zQ 1 ?_;refine ς (aR ?_ ?_)
      ·dsimp only[aK,κ,nth,u2,u1]
       all_goals(first|rfl|simp)
      ·refine zF ?_
       all_goals(simp[ek,jP,jk];done)
     ·refine zQ 7 ?_;refine ς (aR ?_ ?_)
      ·dsimp only[aK,κ,nth,u2,u1]
       all_goals(first|rfl|simp)
      ·refine zF ?_
       all_goals(simp[ek,jP,jk];done)
   ·refine zQ 21 ?_;refine ς (aR ?_ ?_)
    ·dsimp only[aK,κ,nth,u2,u1]
     all_goals(first|rfl|simp)
    ·refine zF ?_
     all_goals(simp[ek];done)
  refine zG ?_;refine qc (fun h2=>?_) (fun h2=>?_)<;>try simp only[cs] at h2
  ·rw[h2,if_pos rfl] at hp;have fT:=I8 acc a (b-1);obtain⟨x',ai,SM,QW⟩:=Ld (acc:=acc) (lo:=a) (hi:=b-1) hF hH (by omega) (fun k hk=>by have:=hab k hk;omega);refine zQ 4 ?_;refine qr fun Yn Pn=>?_;refine zQ 4 ?_;refine qr fun p55 Vf=>?_;refine qR ?_;refine ab.Q_ rfl (ev rfl) (ev rfl) (by omega) (by omega) (aa rfl _) ?_;refine qv (SM) ?_;refine zQ 2 ?_;have hH:=QW;refine zQ 5 ?_;refine⟨mm-1,by omega,⟨i+1,x',gV acc a (b-1),rfl,hH,by omega,hp,by omega,?_⟩⟩;intro k hk;unfold gV at hk
   split at hk
   ·simp only[θ,Ξ,or_false] at hk;subst hk;simp only;omega
   ·rename_i h t
    split at hk
    ·rcases θ.1 hk with rfl|hk
     ·simp only;omega
     ·exact hab k (ξ _ hk)
    ·rcases θ.1 hk with rfl|hk
     ·simp only;omega
     ·exact hab k hk
  ·rw[h2] at hp;refine zQ 6 ?_;exact⟨mm-1,by omega,⟨i+1,y,acc,rfl,hH,by omega,hp,by omega,hab⟩⟩
 ·refine zQ 6 ?_
  have jl:acc=iT l true m []:=by
   rw[←hp];have Kg:(m.drop i).length≤1:=by rw[cg];omega
   match hd:m.drop i,Kg with
   |[],_=>rfl
   |[_],_=>rfl
  refine ag.ret ⟨rx,_,_,rfl,rl aN hH ((hH.freeze aB (fZ _) (n:=15) (by decide))),?_⟩;exact⟨acc.reverse,by rw[kc],by rw[jl];exact hMI⟩
theorem Di (hx:YH s0 2 x (l.map aw)) (hl:l.length≤1048576):Ev pv 196 [x] s0 (.bool (gh l)) s0:=by
 refine Ev.gP rfl Xa rfl rfl rfl ?_;refine zE ?_;obtain⟨aN,hF,hH⟩:=ri s0;generalize ae .ro s0=S at*;have hx:=Ut hx aN;refine zQ 4 ?_;obtain⟨_,ax,m,rfl,hM⟩:=FC (hx.rows hH) (by omega);rw[zM hM];refine zQ 3 ?_;refine qv (ax) ?_;refine zQ 2 ?_;have lC:Arg s0.bs.length S 2 (cC m) (m.map aw):=Qa8 (fun st=>h_ st m);refine zQ 4 ?_;refine qn ?_;simp only[γ];refine qm ?_;refine qn ?_;simp only[γ];refine zQ 2 ?_
 by_cases hlen:m.length=l.length
 ·refine ag.cond (v:=false) ?_ (fun h=>by cases h) (fun _=>?_)
  ·dsimp only[Cf,ki,nth,Qa5];rw[hlen];simp
  refine zQ 7 ?_;refine ag.loop (fun mm fr st=>∃(i:Nat),fr.clean=⟨5,[x,ji fr 1,.bool false,cC m,.int .i64 (i:Nat)],[]⟩∧Has s0.bs.length S st []∧(i+mm=l.length)∧(l.take i=m.take i)) (l.length) ?_ ?_
  ·exact⟨0,rfl,hH,by omega,rfl⟩
  rintro mm fr st ⟨i,hfr,hH,hi,ht⟩;rw[hfr];clear hfr;generalize ji fr=ee;clear fr;refine zQ 5 ?_;refine qn ?_;simp only[γ];refine zQ 2 ?_;refine zP (fun h1=>?_) fun h1=>?_
  ·refine zQ 1 ?_
   obtain⟨p,hp⟩:∃p,l[i]?=some p:=⟨l[i]'(by omega),δ _⟩
   obtain⟨q,hq⟩:∃q,m[i]?=some q:=⟨m[i]'(by omega),δ _⟩
   have gw:=fc hp;have nB:=fc hq;refine zQ 6 ?_;refine qr fun Rp Ge=>?_;refine R3 rfl (ev rfl) (by assumption) rfl (aa rfl _) ?_;refine zQ 2 ?_;refine qr fun Qw D3=>?_;refine R3 rfl (ev rfl) (by assumption) rfl (aa rfl _) ?_;refine ab.QA rfl (ev rfl) (ev rfl) (Ae q p) (aa rfl _) ?_;refine zQ 1 ?_;refine ag.cond (by rfl) (fun h2=>?_) (fun h2=>?_)<;>try simp only[decide_eq_true_eq,decide_eq_false_iff_not,AN,Pe] at h2
   ·refine zQ 4 ?_;rw[decide_eq_false (Af hp hq (by simpa[eq_comm] using h2))];refine ag.ret ⟨rx,_,rfl,rl aN hH (rfl)⟩
   ·refine zQ 6 ?_;exact⟨mm-1,by omega,⟨i+1,rfl,hH,by omega,sf hp hq ht (by simpa[eq_comm] using h2)⟩⟩
  ·refine zQ 5 ?_;rw[decide_eq_true (by rw[ρ (by omega),ρ (by omega)] at ht;exact ht)];refine ag.ret ⟨rx,_,rfl,rl aN hH (rfl)⟩
 ·refine ag.cond (v:=true) ?_ (fun _=>?_) (fun h=>by cases h)
  ·dsimp only[Cf,ki,nth,Qa5];simp;omega
  refine zQ 4 ?_;rw[decide_eq_false (fun h=>hlen (by rw[h]))];refine ag.ret ⟨rx,_,rfl,rl aN hH (rfl)⟩
structure aP where
 op:Int
 x:Int
 y:Int
 rd:D
 rs:List Rg
def aJ (i:aP):List D:=[.int .i64 i.op,.int .i64 i.x,.int .i64 i.y,i.rd]
def aP.ok (i:aP):Prop:=dg i.rd 2 (i.rs.map aw)∧i.rs.length≤1048576
def az (n:Int):List D:=[.int .i64 n]
structure Pg where
 cd:D
 code:List aP
 sd:D
 ak:List Int
structure Pg.ok (p:Pg):Prop where
 c:dg p.cd 4 (p.code.map aJ)
 s:dg p.sd 1 (p.ak.map az)
 i:∀x∈p.code,x.ok
 cl:p.code.length≤1048576
 sl:p.ak.length≤1048576
def Pg.cs (p:Pg):List D:=[p.cd,p.sd]
def Pg.d (p:Pg):D:=.agg p.cs
theorem gM {l:List aP} {q:aP} (h:l[i]?=some q):(l.map aJ)[i]?=some (aJ q):=by rw[ω,h];rfl
theorem fJ {l:List Int} (h:l[i]?=some q):(l.map az)[i]?=some (az q):=by rw[ω,h];rfl
def my (v n:Int):Bool:=decide (v≥0) &&decide (v<n)
noncomputable def dv (n ns pc:Nat) (i:aP):Bool:=
 if i.op=1 then i.y==0 &&(decide (((pc+1:Nat):Int)<n) &&i.x==0 &&gh i.rs)
 else i.rs.isEmpty &&
  (if i.op=2 then my i.x n &&my i.y n
  else i.y==0 &&
   (if i.op=3 then my i.x n
   else if i.op=4 then decide (((pc+1:Nat):Int)<n) &&my i.x 10
   else if i.op=5∨i.op=6 then decide (((pc+1:Nat):Int)<n) &&i.x==0
   else if i.op=7 then my i.x ns
   else false))
theorem lK (v n:Int):Ev pv 144 [.int .i64 v,.int .i64 n] s0 (.bool (my v n)) s0:=by
 refine Ev.gP rfl XG rfl rfl rfl ?_;refine zE ?_;obtain⟨aN,hF,hH⟩:=ri s0;generalize ae .ro s0=S at*;refine zQ 5 ?_;refine ag.oM 4 (.bool (decide (v≥0) &&decide (v<n))) [] ?_ (fun ff tmp=>?_)
 ·refine zQ 3 ?_;refine Θ 7 rfl (fun br=>?_) (fun br=>?_)
  ·refine zQ 5 ?_;refine ς (bu ?_);refine zG ?_
   all_goals(simp[br];done)
  ·refine zQ 5 ?_;refine ς (bu ?_);refine zG ?_
   all_goals(simp[br];done)
 dsimp only[aK,κ,nth,u2,u1];refine ag.ret ⟨rx,_,rfl,rl aN hH (rfl)⟩
theorem IP {p:Pg} {pc:Nat} {i:aP} (hp:p.ok) (hi:p.code[pc]?=some i):Ev pv 143 [p.d,.int .i64 (pc:Nat)] s0 (.bool (dv p.code.length p.ak.length pc i)) s0:=by
 refine Ev.gP rfl XH rfl rfl rfl ?_;refine zE ?_;obtain⟨aN,hF,hH⟩:=ri s0;generalize ae .ro s0=S at*;have hc:=hp.c.arg s0.bs.length S;have hs:=hp.s.arg s0.bs.length S;have PD:=hp.i i (xw hi);have Gl:=PD.1.arg s0.bs.length S;have hil:=PD.2;have hcl:=hp.cl;have kX:=hp.sl;have hr:=gM hi;have hlt:=bp hi;unfold Pg.d;refine zQ 2 ?_;refine qb hH fun k2 st hk2 hH=>?_;dsimp only[u2,u1,u3,u4,setMany,u5,u6,χ,ι,Pg.cs,aJ,az] at hH;refine zQ 7 ?_;refine qr fun TE Jt=>?_;refine R3 rfl (ev rfl) (by assumption) rfl (by dsimp only[Wh,u1,u2]<;>rfl) ?_;refine qa hH fun k5 st Kf hH=>?_;refine qS hH aB fun st hH=>?_;dsimp only[u2,u1,u3,u4,setMany,u5,u6,χ,ι,Pg.cs,aJ,az] at hH;refine zQ 7 ?_;refine qn ?_;simp only[γ];refine zQ 5 ?_;refine ag.oM 36 (.bool (((i.op !=1) &&decide ((i.rs.length:Int)>0))||((i.op !=2) &&(i.y !=0)))) [18,19,20,21,22,23,24,25,26,27,28,29,30,31,32,33,34,35] ?_ (fun ff tmp=>?_)
 ·refine zQ 4 ?_;refine Θ 21 rfl (fun bZ=>?_) (fun bZ=>?_)
  ·refine zQ 2 ?_;refine qn ?_ (hg:=wi bZ);simp only[γ];refine zQ 3 ?_;refine Θ 27 rfl (fun gk=>?_) (fun gk=>?_)
   ·refine zQ 9 ?_;refine ς (bu ?_);refine zG ?_
    all_goals(simp_all;done)
   ·refine zQ 4 ?_;refine Θ 31 rfl (fun gA=>?_) (fun gA=>?_)
    ·refine zQ 3 ?_;refine ab.bN (af rfl rfl rfl gk) rfl gA (by dsimp only[Wh,u1,u2]<;>rfl) ?_;refine zQ 1 ?_;refine ς (bu ?_);refine zG ?_
     all_goals(simp_all;done)
    ·refine zQ 3 ?_;refine ab.cA (af rfl rfl rfl gk) rfl gA (by dsimp only[Wh,u1,u2]<;>rfl) ?_;refine zQ 1 ?_;refine ς (bu ?_);refine zG ?_
     all_goals(simp_all;done)
  ·refine zQ 10 ?_;refine Θ 31 rfl (fun gA=>?_) (fun gA=>?_)
   ·refine zQ 5 ?_;refine ς (bu ?_);refine zG ?_
    all_goals(simp[bZ,gA];done)
   ·refine zQ 5 ?_;refine ς (bu ?_);refine zG ?_
    all_goals(simp[bZ,gA];done)
 dsimp only[aK,κ,nth,u2,u1];generalize ff 18=e18;generalize ff 19=e19;generalize ff 20=e20;generalize ff 21=e21;generalize ff 22=e22;generalize ff 23=e23;generalize ff 24=e24;generalize ff 25=e25;generalize ff 26=e26;generalize ff 27=e27;generalize ff 28=e28;generalize ff 29=e29;generalize ff 30=e30;generalize ff 31=e31;generalize ff 32=e32;generalize ff 33=e33;generalize ff 34=e34;generalize ff 35=e35;have Vx:(i.rs.isEmpty=!decide ((i.rs.length:Int)>0)):=by cases i.rs<;>simp<;>omega
 have hsh:dv p.code.length p.ak.length pc i=if((i.op !=1) &&decide ((i.rs.length:Int)>0))||((i.op !=2) &&(i.y !=0)) then false else
   (if i.op=1 then(decide (((pc+1:Nat):Int)<p.code.length) &&i.x==0) &&gh i.rs
   else if i.op=2 then my i.x p.code.length &&my i.y p.code.length
   else if i.op=3 then my i.x p.code.length
   else if i.op=4 then decide (((pc+1:Nat):Int)<p.code.length) &&my i.x 10
   else if i.op=5 then decide (((pc+1:Nat):Int)<p.code.length) &&i.x==0
   else if i.op=6 then decide (((pc+1:Nat):Int)<p.code.length) &&i.x==0
   else if i.op=7 then my i.x p.ak.length
   else false):=by
  unfold dv;rw[Vx];generalize decide ((i.rs.length:Int)>0)=b
  by_cases h1:i.op=1
  ·have h2:i.op≠2:=by omega
   simp only[h1];cases b<;>by_cases hy:i.y=0<;>simp[hy]
  ·by_cases h2:i.op=2
   ·simp only[h2];cases b<;>simp
   ·by_cases h56:i.op=5
    ·simp only[h56];cases b<;>by_cases hy:i.y=0<;>simp[hy]
    ·cases b<;>by_cases hy:i.y=0<;>simp[h1,h2,h56,hy]
 rw[hsh];refine qc (fun h0=>?_) (fun h0=>?_)<;>try simp only[cs] at h0
 ·refine zQ 4 ?_;rw[if_pos h0];refine ag.ret ⟨rx,_,rfl,rl aN hH (rfl)⟩
 ·rw[if_neg (by rw[h0];simp)];refine zQ 13 ?_;refine zI (fun h1=>?_) fun h1=>?_
  ·rw[if_pos h1];refine qq<|ag.oM 4 (.bool ((decide (((pc+1:Nat):Int)<p.code.length) &&(i.x==0)) &&gh i.rs)) [] ?_ (fun ff tmp=>?_)
   ·refine zQ 2 ?_;refine Θ 42 rfl (fun mY=>?_) (fun mY=>?_)
    ·refine zQ 5 ?_;refine Θ 47 rfl (fun gR=>?_) (fun gR=>?_)
     ·refine zQ 2 ?_;refine qv (Dc (Gl.rows hH) hil) ?_ (hg:=wi gR);refine zQ 2 ?_;refine ς (bu ?_);refine zG ?_
      all_goals(simp[mY,gR];done)
     ·refine zQ 5 ?_;refine ς (bu ?_);refine zG ?_
      all_goals(simp[mY,gR];done)
    ·refine zQ 10 ?_;refine ς (bu ?_);refine zG ?_
     all_goals(simp[mY];done)
   dsimp only[aK,κ,nth,u2,u1];refine ag.ret ⟨rx,_,rfl,rl aN hH (rfl)⟩
  ·rw[if_neg h1];refine zQ 5 ?_;refine zI (fun h2=>?_) fun h2=>?_
   ·rw[if_pos h2];refine qq<|ag.oM 4 (.bool (my i.x p.code.length &&my i.y p.code.length)) [] ?_ (fun ff tmp=>?_)
    ·refine zQ 4 ?_;refine qn ?_;simp only[γ];refine qv (lK _ _) ?_;refine qm ?_;refine Θ 60 rfl (fun gR=>?_) (fun gR=>?_)
     ·refine zQ 4 ?_;refine qn ?_ (hg:=wi gR);simp only[γ];refine qv (lK _ _) ?_ (hg:=wi gR);refine zQ 2 ?_;refine ς (bu ?_);refine zG ?_
      all_goals(simp[gR];done)
     ·refine zQ 8 ?_;refine ς (bu ?_);refine zG ?_
      all_goals(simp[gR];done)
    dsimp only[aK,κ,nth,u2,u1];refine ag.ret ⟨rx,_,rfl,rl aN hH (rfl)⟩
   ·rw[if_neg h2];refine zQ 5 ?_;refine zI (fun h3=>?_) fun h3=>?_
    ·rw[if_pos h3];refine zQ 6 ?_;refine qn ?_;simp only[γ];refine qv (lK _ _) ?_;refine zQ 2 ?_;refine ag.ret ⟨rx,_,rfl,rl aN hH (rfl)⟩
    ·rw[if_neg h3];refine zQ 5 ?_;refine zI (fun h4=>?_) fun h4=>?_
     ·rw[if_pos h4];refine qq<|ag.oM 4 (.bool (decide (((pc+1:Nat):Int)<p.code.length) &&my i.x 10)) [] ?_ (fun ff tmp=>?_)
      ·refine zQ 2 ?_;refine Θ 79 rfl (fun mY=>?_) (fun mY=>?_)
       ·refine zQ 2 ?_;refine qv (lK _ _) ?_ (hg:=wi mY);refine zQ 2 ?_;refine ς (bu ?_);refine zG ?_
        all_goals(simp[mY];done)
       ·refine zQ 5 ?_;refine ς (bu ?_);refine zG ?_
        all_goals(simp[mY];done)
      dsimp only[aK,κ,nth,u2,u1];refine ag.ret ⟨rx,_,rfl,rl aN hH (rfl)⟩
     ·rw[if_neg h4];refine zQ 6 ?_
      by_cases h5:i.op=5
      ·rw[if_pos h5];refine qD rfl (by simp[h5]) ?_;refine zQ 1 ?_;refine qD rfl (by simp[h5]) ?_;refine qq<|ag.oM 4 (.bool (decide (((pc+1:Nat):Int)<p.code.length) &&(i.x==0))) [] ?_ (fun ff tmp=>?_)
       ·refine zQ 2 ?_;refine Θ 88 rfl (fun mY=>?_) (fun mY=>?_)
        ·refine zQ 5 ?_;refine ς (bu ?_);refine zG ?_
         all_goals(simp[mY];done)
        ·refine zQ 5 ?_;refine ς (bu ?_);refine zG ?_
         all_goals(simp[mY];done)
       dsimp only[aK,κ,nth,u2,u1];refine ag.ret ⟨rx,_,rfl,rl aN hH (rfl)⟩
      ·rw[if_neg h5];refine qE rfl (by simp[h5]) ?_;refine zQ 4 ?_;refine zI (fun h6=>?_) fun h6=>?_
       ·rw[if_pos h6];refine qq<|ag.oM 4 (.bool (decide (((pc+1:Nat):Int)<p.code.length) &&(i.x==0))) [] ?_ (fun ff tmp=>?_)
        ·refine zQ 2 ?_;refine Θ 88 rfl (fun mY=>?_) (fun mY=>?_)
         ·refine zQ 5 ?_;refine ς (bu ?_);refine zG ?_
          all_goals(simp[mY];done)
         ·refine zQ 5 ?_;refine ς (bu ?_);refine zG ?_
          all_goals(simp[mY];done)
        dsimp only[aK,κ,nth,u2,u1];refine ag.ret ⟨rx,_,rfl,rl aN hH (rfl)⟩
       ·rw[if_neg h6];refine zQ 5 ?_;refine zI (fun h7=>?_) fun h7=>?_
        ·rw[if_pos h7];refine zQ 6 ?_;refine qn ?_;simp only[γ];refine qv (lK _ _) ?_;refine zQ 2 ?_;refine ag.ret ⟨rx,_,rfl,rl aN hH (rfl)⟩
        ·rw[if_neg h7];refine zQ 5 ?_;refine ag.ret ⟨rx,_,rfl,rl aN hH (rfl)⟩
end Go.Proofs.YtecjacicdpejaaaGreat
