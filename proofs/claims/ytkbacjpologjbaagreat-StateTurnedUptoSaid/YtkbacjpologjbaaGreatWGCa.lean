/-
 Ranges of runes: the canonical form, by plain lists. No program in sight.
-/
import Derived.Test.YtkbacjpologjbaaGreatWGHr
import Derived.Test.YtkbacjpologjbaaGreatWPx
import Derived.Test.YtkbacjpologjbaaGreatWM2
import Derived.KernelRfl
set_option linter.unusedSimpArgs false
set_option linter.unusedVariables false
set_option maxRecDepth 100000
set_option maxHeartbeats 4000000
open List renaming getElem?_eq_getElem→γ,length_map→δ,mem_cons→ζ,length_cons→η,foldl→ι,mem_cons_self→κ,mem_cons_of_mem→μ,pairwise_cons→ν,take_of_length_le→ξ,length_reverse→ο,length_nil→ρ,getD_eq_getElem?_getD→ς,take_add_one→τ,drop_eq_getElem_cons→φ,getElem?_map→χ,mem_flatMap→ψ,length_append→ω,map_append→Γ,not_mem_nil→Θ,mem_append→Φ,drop_succ_cons→Ψ,take_succ_cons→Ω,reverse_cons→GB,cons_append→BY,length_take→IN,mem_reverse→IS,set_append_right→IT,drop_zero→Pd,getElem?_set_ne→Pe,mem_of_getElem?→AN,take_zero→AT,flatten_cons→Qa1,mem_map→Qa2,getLast?_eq_some_getLast→Qa5,nil_append→Qa6,pairwise_iff_getElem→Qa8,map_cons→Qa9,getElem?_set_self→Qaa,pairwise_reverse→Qac,mem_of_mem_take→Qae,flatMap_append→Qag,append_assoc→Qal,flatMap_cons→Qam,length_drop→Qao,append_nil→Qaq,foldl_cons→Qar,length_set→Qas,Pairwise→Qau,map_set→Qav
open Nat renaming le_of_ble_eq_true→ε,reduceAdd→θ
open Go.V.ab renaming nil→π,two→Δ,eK→Qad,cM→Qai,ck→Qaj,iq→Qaw,aH→Qaz,il→Qb0,DT→Qb2,Ie→Qb3
open Go.V.D renaming cells→υ,ref→Qax
open Int renaming le_refl→Ξ,lt_or_le→Qab,le_antisymm→Qat
open Go.V.Fr renaming put→wt,get→AI,clean→Qa4,ev→Qa7,fN→Qap
open Classical renaming propDecidable→v8
open Go.V renaming Rows→OF,look→Qay
open Go.V.Arg renaming of→Qa0,pure→Qb1
open Option renaming some→Qa3,toList_some→Qaf
open Bool renaming not_eq_false'→Qah,not_eq_true'→Qak,and_eq_true→Qan
namespace Go.V
abbrev Rg:=Int×Int
def ec (l:List Rg) (r:Int):Prop:=∃x,x∈l∧x.1≤r∧r≤x.2
theorem e5 (r:Int):¬ec [] r:=by rintro⟨x,h,_⟩;cases h
variable{x:Rg}{l:List Rg}{r:Int}
theorem bO:ec (x::l) r↔(x.1≤r∧r≤x.2)∨ec l r:=by
 constructor
 ·rintro⟨y,hy,h⟩
  rcases ζ.1 hy with rfl|hy
  ·exact .inl h
  ·exact .inr ⟨y,hy,h⟩
 ·rintro(h|⟨y,hy,h⟩)
  ·exact⟨x,κ ..,h⟩
  ·exact⟨y,μ _ hy,h⟩
variable{a b:List Rg}
theorem A_:ec (a++b) r↔ec a r∨ec b r:=by
 constructor
 ·rintro⟨y,hy,h⟩
  rcases Φ.1 hy with hy|hy
  ·exact .inl ⟨y,hy,h⟩
  ·exact .inr ⟨y,hy,h⟩
 ·rintro(⟨y,hy,h⟩|⟨y,hy,h⟩)
  ·exact⟨y,List.mem_append_left _ hy,h⟩
  ·exact⟨y,List.mem_append_right _ hy,h⟩
theorem rI (h:∀x,x∈a↔x∈b) (r:Int):ec a r↔ec b r:=by
 constructor
 ·rintro⟨y,hy,hh⟩;exact⟨y,(h y).1 hy,hh⟩
 ·rintro⟨y,hy,hh⟩;exact⟨y,(h y).2 hy,hh⟩
def canon (l:List Rg):Prop:=(∀x∈l,x.1≤x.2)∧l.Pairwise fun x y=>x.2+1<y.1
theorem mq (h:canon (x::l)):canon l∧x.1≤x.2∧∀r,ec l r→x.2+1<r:=by
 obtain⟨h1,h2⟩:=h;rw[ν] at h2;refine⟨⟨fun y hy=>h1 y (μ _ hy),h2.2⟩,h1 x (κ ..),?_⟩;rintro r ⟨y,hy,h3,h4⟩;have:=h2.1 y hy;omega
theorem qH:∀{a b:List Rg},canon a→canon b→(∀r,ec a r↔ec b r)→a=b
 |[],[],_,_,_=>rfl
 |[],y::b,_,hb,h=>by
  obtain⟨_,h1,_⟩:=mq hb;exact absurd ((h y.1).2 (bO.2 (.inl ⟨Ξ _,h1⟩))) (e5 _)
 |x::a,[],ha,_,h=>by
  obtain⟨_,h1,_⟩:=mq ha;exact absurd ((h x.1).1 (bO.2 (.inl ⟨Ξ _,h1⟩))) (e5 _)
 |x::a,y::b,ha,hb,h=>by
  obtain⟨ca,xa,fa⟩:=mq ha;obtain⟨cb,yb,fb⟩:=mq hb
  have low:∀{x y:Rg} {a b:List Rg},x.1≤x.2→(∀r,ec b r→y.2+1<r)→y.1≤y.2→(∀r,ec (x::a) r→ec (y::b) r)→y.1≤x.1:=by
   intro x y a b hx hf hy hh
   rcases bO.1 (hh x.1 (bO.2 (.inl ⟨Ξ _,hx⟩))) with h|h
   ·exact h.1
   ·have:=hf _ h;omega
  have e1:x.1=y.1:=Qat (low yb fa xa fun r=>(h r).2) (low xa fb yb fun r=>(h r).1)
  have up:∀{x y:Rg} {a b:List Rg},x.1≤x.2→x.1=y.1→(∀r,ec a r→x.2+1<r)→(∀r,ec (y::b) r→ec (x::a) r)→y.2≤x.2:=by
   intro x y a b hx he hf hh
   rcases Qab x.2 y.2 with h'|h'
   ·rcases bO.1 (hh (x.2+1) (bO.2 (.inl ⟨by omega,by omega⟩))) with h|h
    ·omega
    ·have:=hf _ h;omega
   ·exact h'
  have e2:x.2=y.2:=Qat (up yb e1.symm fb fun r=>(h r).1) (up xa e1 fa fun r=>(h r).2);have e:x=y:=Prod.ext e1 e2;subst e
  congr 1
  refine qH ca cb fun r=>⟨fun hr=>?_,fun hr=>?_⟩
  ·have:=fa r hr
   rcases bO.1 ((h r).1 (bO.2 (.inr hr))) with h|h
   ·omega
   ·exact h
  ·have:=fb r hr
   rcases bO.1 ((h r).2 (bO.2 (.inr hr))) with h|h
   ·omega
   ·exact h
def eA (acc:List Rg) (r:Rg):List Rg:=
 match acc with
 |[]=>[r]
 |k::rest=>if r.1≤k.2+1 then(k.1,max k.2 r.2)::rest else r::k::rest
theorem pG:∀(l acc:List Rg),(∀x∈l,x.1≤x.2)→l.Pairwise (fun x y=>x.1≤y.1)→(∀k∈acc.head?,∀x∈l,k.1≤x.1)→(∀x∈acc,x.1≤x.2)→acc.Pairwise (fun x y=>y.2+1<x.1)→
  (∀x∈l.foldl eA acc,x.1≤x.2)∧(l.foldl eA acc).Pairwise (fun x y=>y.2+1<x.1)∧∀r,ec (l.foldl eA acc) r↔ec acc r∨ec l r
 |[],acc,_,_,_,h1,h2=>⟨h1,h2,fun r=>⟨.inl,fun h=>h.resolve_right (e5 r)⟩⟩
 |x::l,acc,hl,hp,hk,h1,h2=>by
  rw[ν] at hp;have hx:=hl x (κ ..);have ji:∀y∈l,y.1≤y.2:=fun y hy=>hl y (μ _ hy);rw[Qar]
  cases acc with
  |nil=>
   obtain⟨g1,g2,g3⟩:=pG l [x] ji hp.2 (fun k mg y hy=>by simp at mg;subst mg;exact hp.1 y hy) (fun y hy=>by simp at hy;subst hy;exact hx) (by simp);refine⟨g1,g2,fun r=>(g3 r).trans ?_⟩;rw[bO (l:=l),bO (l:=[])];constructor
   ·rintro((h|h)|h)
    ·exact .inr (.inl h)
    ·exact absurd h (e5 r)
    ·exact .inr (.inr h)
   ·rintro(h|h|h)
    ·exact absurd h (e5 r)
    ·exact .inl (.inl h)
    ·exact .inr h
  |cons k rest=>
   have hkx:=hk k rfl x (κ ..);have hkk:=h1 k (κ ..);rw[ν] at h2;unfold eA
   by_cases hc:x.1≤k.2+1
   ·simp only[if_pos hc]
    obtain⟨g1,g2,g3⟩:=pG l ((k.1,max k.2 x.2)::rest) ji hp.2 (fun q hq y hy=>by simp at hq;subst hq;have:=hp.1 y hy;simp only;omega) (fun y hy=>by
     rcases ζ.1 hy with rfl|hy
     ·simp only;omega
     ·exact h1 y (μ _ hy)) (by rw[ν];exact⟨h2.1,h2.2⟩)
    refine⟨g1,g2,fun r=>(g3 r).trans ?_⟩;rw[bO (l:=rest),bO (l:=rest),bO (l:=l)];constructor
    ·rintro((h|h)|h)
     ·simp only at h
      by_cases hr:r≤k.2
      ·exact .inl (.inl ⟨h.1,hr⟩)
      ·exact .inr (.inl ⟨by omega,by omega⟩)
     ·exact .inl (.inr h)
     ·exact .inr (.inr h)
    ·rintro((h|h)|h|h)
     ·exact .inl (.inl ⟨h.1,by simp only;omega⟩)
     ·exact .inl (.inr h)
     ·exact .inl (.inl ⟨by simp only;omega,by simp only;omega⟩)
     ·exact .inr h
   ·simp only[if_neg hc]
    obtain⟨g1,g2,g3⟩:=pG l (x::k::rest) ji hp.2 (fun q hq y hy=>by simp at hq;subst hq;exact hp.1 y hy) (fun y hy=>by
     rcases ζ.1 hy with rfl|hy
     ·exact hx
     ·exact h1 y hy) (by
     rw[ν];refine⟨fun y hy=>?_,by rw[ν];exact h2⟩
     rcases ζ.1 hy with rfl|hy
     ·omega
     ·have:=h2.1 y hy;omega)
    refine⟨g1,g2,fun r=>(g3 r).trans ?_⟩;rw[bO (l:=k::rest),bO (l:=l)];constructor
    ·rintro((h|h)|h)
     ·exact .inr (.inl h)
     ·exact .inl h
     ·exact .inr (.inr h)
    ·rintro(h|h|h)
     ·exact .inl (.inr h)
     ·exact .inl (.inl h)
     ·exact .inr h
theorem CX (h1:∀x∈l,x.1≤x.2) (h2:l.Pairwise fun x y=>x.1≤y.1):canon (l.foldl eA []).reverse∧∀r,ec (l.foldl eA []).reverse r↔ec l r:=by
 obtain⟨g1,g2,g3⟩:=pG l [] h1 h2 (fun k hk=>by simp at hk) (fun x hx=>by simp at hx) Qau.nil;refine⟨⟨fun x hx=>g1 x (IS.1 hx),by rw[Qac];exact g2⟩,fun r=>?_⟩;rw[rI (fun x=>IS) r,g3 r];exact⟨fun h=>h.resolve_left (e5 r),.inr⟩
def iY (r:Int):Prop:=0≤r∧r≤1114111∧¬(55296≤r∧r≤57343)
def eL (x:Rg):List Rg:=
 (if max (max x.1 0) 0≤min (min x.2 1114111) 55295 then[(max (max x.1 0) 0,min (min x.2 1114111) 55295)] else[])++
 (if max (max x.1 0) 57344≤min (min x.2 1114111) 1114111 then[(max (max x.1 0) 57344,min (min x.2 1114111) 1114111)] else[])
theorem uu (x:Rg) (r:Int):ec (eL x) r↔iY r∧x.1≤r∧r≤x.2:=by
 unfold eL iY;rw[A_]
 have one:∀(a b:Int),ec (if a≤b then[(a,b)] else[]) r↔a≤r∧r≤b:=by
  intro a b
  split
  ·rw[bO];exact⟨fun h=>h.elim id fun h=>absurd h (e5 r),.inl⟩
  ·exact⟨fun h=>absurd h (e5 r),fun h=>by omega⟩
 rw[one,one];omega
theorem rn (x:Rg):∀y∈eL x,y.1≤y.2∧0≤y.1∧y.2≤1114111:=by
 intro y hy;unfold eL at hy
 rcases Φ.1 hy with h|h<;>split at h<;>simp at h<;>subst h<;>simp only<;>omega
theorem u7 {all:List Rg} (hp:∀x,x∈all↔x∈l.flatMap eL) (hs:all.Pairwise fun x y=>x.1≤y.1):canon (all.foldl eA []).reverse∧∀r,ec (all.foldl eA []).reverse r↔iY r∧ec l r:=by
 have hle:∀x∈all,x.1≤x.2:=fun x hx=>by
  obtain⟨y,_,hy⟩:=ψ.1 ((hp x).1 hx);exact(rn y x hy).1
 obtain⟨g1,g2⟩:=CX hle hs;refine⟨g1,fun r=>(g2 r).trans ((rI hp r).trans ?_)⟩;constructor
 ·rintro⟨y,hy,h⟩;obtain⟨x,hx,hy⟩:=ψ.1 hy;have:=(uu x r).1 ⟨y,hy,h⟩;exact⟨this.1,x,hx,this.2⟩
 ·rintro⟨hr,x,hx,h⟩;obtain⟨y,hy,h'⟩:=(uu x r).2 ⟨hr,h⟩;exact⟨y,ψ.2 ⟨x,hx,hy⟩,h'⟩
def jJ:List Rg→Int→Bool
 |[],_=>false
 |x::l,r=>(decide (x.1≤r) &&decide (r≤x.2))||jJ l r
theorem vB:∀(l:List Rg) (r:Int),jJ l r=true↔ec l r
 |[],r=>⟨fun h=>(by cases h),fun h=>absurd h (e5 r)⟩
 |x::l,r=>by
  rw[bO,←vB l r];simp[jJ]
def jA (x:Rg):List Int:=
 (if x.1≤x.2∧0≤x.1∧x.1≤1114111 then[x.1] else[])++(if x.1≤x.2∧0≤x.2∧x.2<1114111 then[x.2+1] else[])
def fO (acc:List Rg) (lo hi:Int):List Rg:=
 match acc with
 |[]=>[(lo,hi)]
 |k::rest=>if k.2+1=lo then(k.1,hi)::rest else(lo,hi)::k::rest
def PD (l:List Rg) (yes:Bool) (a b:Int):Bool:=decide (a<b) &&(decide (a<55296)||decide (57343<a)) &&(jJ l a==yes)
def gI (l:List Rg) (yes:Bool):List Int→List Rg→List Rg
 |a::b::t,acc=>gI l yes (b::t) (if PD l yes a b=true then fO acc a (b-1) else acc)
 |_,acc=>acc
theorem MA {m:List Int} {a b:Int} (hm:∀x∈l,∀e∈jA x,e≤a∨b≤e) (h1:55296≤a∨b≤55296) (h2:57344≤a∨b≤57344) (ha:0≤a) (hb:b≤1114112) (hr:a≤r) (U7:r<b):
  (iY r↔¬(55296≤a∧a≤57343))∧(ec l r↔ec l a):=by
 refine⟨by unfold iY;omega,?_,?_⟩
 ·rintro⟨x,hx,h3,h4⟩;refine⟨x,hx,?_,by omega⟩
  rcases Qab a x.1 with h|h
  ·have:=hm x hx x.1 (by unfold jA;rw[if_pos z0];simp);omega
  ·exact h
 ·rintro⟨x,hx,h3,h4⟩;refine⟨x,hx,by omega,?_⟩
  rcases Qab x.2 r with h|h
  ·have:=hm x hx (x.2+1) (by unfold jA;rw[if_pos (c:=x.1≤x.2∧0≤x.2∧x.2<1114111) z0];simp);omega
  ·exact h
theorem HM {acc:List Rg} {lo hi:Int} (h1:∀x∈acc,x.1≤x.2) (h2:acc.Pairwise (fun x y=>y.2+1<x.1)) (h3:∀x∈acc,x.2<lo) (h4:lo≤hi):
  (∀x∈fO acc lo hi,x.1≤x.2)∧(fO acc lo hi).Pairwise (fun x y=>y.2+1<x.1)∧(∀x∈fO acc lo hi,x.2≤hi)∧∀r,ec (fO acc lo hi) r↔ec acc r∨(lo≤r∧r≤hi):=by
 cases acc with
 |nil=>
  refine⟨by simp[fO,h4],by simp[fO],by simp[fO],fun r=>?_⟩;simp only[fO];rw[bO];exact⟨fun h=>.inr (h.resolve_right (e5 r)),fun h=>.inl (h.resolve_left (e5 r))⟩
 |cons k rest=>
  have hk:=h1 k (κ ..);have tt:=h3 k (κ ..);rw[ν] at h2;unfold fO
  by_cases hc:k.2+1=lo
  ·simp only[if_pos hc];refine⟨fun x hx=>?_,?_,fun x hx=>?_,fun r=>?_⟩
   ·rcases ζ.1 hx with rfl|hx
    ·simp only;omega
    ·exact h1 x (μ _ hx)
   ·rw[ν];exact⟨h2.1,h2.2⟩
   ·rcases ζ.1 hx with rfl|hx
    ·simp
    ·have:=h3 x (μ _ hx);omega
   ·rw[bO (l:=rest),bO (l:=rest)];simp only;constructor
    ·rintro(h|h)
     ·by_cases hh:r≤k.2
      ·exact .inl (.inl ⟨h.1,hh⟩)
      ·exact .inr z0
     ·exact .inl (.inr h)
    ·rintro((h|h)|h)
     ·exact .inl z0
     ·exact .inr h
     ·exact .inl z0
  ·simp only[if_neg hc];refine⟨fun x hx=>?_,?_,fun x hx=>?_,fun r=>?_⟩
   ·rcases ζ.1 hx with rfl|hx
    ·exact h4
    ·exact h1 x hx
   ·rw[ν];refine⟨fun y hy=>?_,by rw[ν];exact h2⟩
    rcases ζ.1 hy with rfl|hy
    ·simp only;omega
    ·have:=h2.1 y hy;simp only;omega
   ·rcases ζ.1 hx with rfl|hx
    ·exact Ξ _
    ·have:=h3 x hx;omega
   ·rw[bO];exact⟨fun h=>h.elim .inr .inl,fun h=>h.elim .inr .inl⟩
theorem rE (l:List Rg) (yes:Bool):∀(m:List Int) (acc:List Rg),m.Pairwise (·≤·)→(∀a∈m,0≤a∧a≤1114112)→
  (∀q:Int,(q=55296∨q=57344∨∃x∈l,q∈jA x)→q∈m∨∀a∈m,q≤a)→(∀x∈acc,x.1≤x.2)→acc.Pairwise (fun x y=>y.2+1<x.1)→(∀x∈acc,∀a∈m.head?,x.2<a)→
  (∀x∈gI l yes m acc,x.1≤x.2)∧(gI l yes m acc).Pairwise (fun x y=>y.2+1<x.1)∧
  ∀r,ec (gI l yes m acc) r↔ec acc r∨(iY r∧(ec l r↔yes=true)∧(∃a∈m.head?,a≤r)∧∃b∈m.getLast?,r<b)
 |[],acc,_,_,_,h1,h2,_=>⟨h1,h2,fun r=>⟨.inl,fun h=>h.elim id (by rintro⟨_,_,⟨a,h,_⟩,_⟩;simp at h)⟩⟩
 |[a],acc,_,_,_,h1,h2,_=>⟨h1,h2,fun r=>⟨.inl,fun h=>h.elim id (by rintro⟨_,_,⟨a',h,h'⟩,b,hb,eW⟩;simp at h hb;omega)⟩⟩
 |a::b::t,acc,hs,hr,hm,h1,h2,h3=>by
  have M0:=hs;rw[ν] at hs;have hab:a≤b:=hs.1 b (κ ..);have ha:=hr a (κ ..);have hb:=hr b (μ _ (κ ..))
  have key:∀q:Int,(q=55296∨q=57344∨∃x∈l,q∈jA x)→q≤a∨b≤q:=by
   intro q hq
   rcases hm q hq with h|h
   ·rcases ζ.1 h with rfl|h
    ·exact .inl (Ξ _)
    ·rcases ζ.1 h with rfl|h
     ·exact .inr (Ξ _)
     ·have:=(ν.1 hs.2).1 q h;exact .inr this
   ·exact .inl (h a (κ ..))
  have T0:∀r,a≤r→r<b→(iY r↔¬(55296≤a∧a≤57343))∧(ec l r↔ec l a):=fun r h h'=>
   MA (m:=[]) (fun x hx e he=>key e (.inr (.inr ⟨x,hx,he⟩))) (by have:=key 55296 (.inl rfl);omega) (by have:=key 57344 (.inr (.inl rfl));omega) ha.1 hb.2 h h'
  have Za:∀q:Int,(q=55296∨q=57344∨∃x∈l,q∈jA x)→q∈b::t∨∀c∈b::t,q≤c:=by
   intro q hq
   rcases hm q hq with h|h
   ·rcases ζ.1 h with rfl|h
    ·exact .inr hs.1
    ·exact .inl h
   ·exact .inr fun c hc=>h c (μ _ hc)
  have EN:∀c∈b::t,0≤c∧c≤1114112:=fun c hc=>hr c (μ _ hc);have s9:∀r,(∃e∈(a::b::t).getLast?,r<e)↔∃e∈(b::t).getLast?,r<e:=fun r=>by rw[List.getLast?_cons_cons]
  have hbl:∃e∈(b::t).getLast?,b≤e:=by
   refine⟨(b::t).getLast (by simp),by rw[Qa5 (by simp)];simp,?_⟩;have:=List.getLast_mem (l:=b::t) (by simp)
   rcases ζ.1 this with h|h
   ·rw[h];exact Ξ _
   ·exact(ν.1 hs.2).1 _ h
  have aT:PD l yes a b=true↔a<b∧¬(55296≤a∧a≤57343)∧(ec l a↔yes=true):=by
   unfold PD;rw[←vB];cases jJ l a<;>cases yes<;>simp<;>omega
  unfold gI
  by_cases hc:PD l yes a b=true
  ·rw[if_pos hc];obtain⟨c1,c2,c3⟩:=aT.1 hc;obtain⟨p1,p2,p3,p4⟩:=HM h1 h2 (fun x hx=>h3 x hx a rfl) (show a≤b-1 by omega);obtain⟨g1,g2,g3⟩:=rE l yes (b::t) _ hs.2 EN Za p1 p2 (fun x hx c hc=>by simp at hc;subst hc;have:=p3 x hx;omega);refine⟨g1,g2,fun r=>(g3 r).trans ?_⟩;rw[p4,s9];constructor
   ·rintro((h|h)|⟨h4,h5,⟨c,hc,h6⟩,h7⟩)
    ·exact .inl h
    ·obtain⟨k1,k2⟩:=T0 r h.1 z0;obtain⟨e,he,PW⟩:=hbl;exact .inr ⟨k1.2 c2,k2.trans c3,⟨a,rfl,h.1⟩,e,he,by omega⟩
    ·simp at hc;subst hc;exact .inr ⟨h4,h5,⟨a,rfl,by omega⟩,h7⟩
   ·rintro(h|⟨h4,h5,⟨c,hc,h6⟩,h7⟩)
    ·exact .inl (.inl h)
    ·simp at hc;subst hc
     by_cases U7:r<b
     ·exact .inl (.inr z0)
     ·exact .inr ⟨h4,h5,⟨b,rfl,by omega⟩,h7⟩
  ·rw[if_neg hc];obtain⟨g1,g2,g3⟩:=rE l yes (b::t) acc hs.2 EN Za h1 h2 (fun x hx c hc=>by simp at hc;subst hc;have:=h3 x hx a rfl;omega);refine⟨g1,g2,fun r=>(g3 r).trans ?_⟩;rw[s9];constructor
   ·rintro(h|⟨h4,h5,⟨c,hc,h6⟩,h7⟩)
    ·exact .inl h
    ·simp at hc;subst hc;exact .inr ⟨h4,h5,⟨a,rfl,by omega⟩,h7⟩
   ·rintro(h|⟨h4,h5,⟨c,Dk,h6⟩,h7⟩)
    ·exact .inl h
    ·simp at Dk;subst Dk
     by_cases U7:r<b
     ·exfalso
      obtain⟨k1,k2⟩:=T0 r h6 U7;exact hc (aT.2 ⟨by omega,k1.1 h4,k2.symm.trans h5⟩)
     ·exact .inr ⟨h4,h5,⟨b,rfl,by omega⟩,h7⟩
variable{m:List Int}
theorem wD (yes:Bool) (hp:∀q,q∈m↔q=0∨q=55296∨q=57344∨q=1114112∨∃x∈l,q∈jA x) (hs:m.Pairwise (·≤·)):
  canon (gI l yes m []).reverse∧∀r,ec (gI l yes m []).reverse r↔iY r∧(ec l r↔yes=true):=by
 have hr:∀a∈m,0≤a∧a≤1114112:=by
  intro a ha
  rcases(hp a).1 ha with h|h|h|h|⟨x,hx,h⟩
  ·omega
  ·omega
  ·omega
  ·omega
  ·unfold jA at h
   rcases Φ.1 h with h|h<;>split at h<;>simp at h<;>omega
 obtain⟨g1,g2,g3⟩:=rE l yes m [] hs hr (fun q hq=>.inl ((hp q).2 (by rcases hq with h|h|h;exact .inr (.inl h);exact .inr (.inr (.inl h));exact .inr (.inr (.inr (.inr h)))))) (fun x hx=>by simp at hx) Qau.nil (fun x hx=>by simp at hx);have h0:(0:Int)∈m:=(hp 0).2 (.inl rfl);have h9:(1114112:Int)∈m:=(hp _).2 (.inr (.inr (.inr (.inl rfl))))
 have hh:∃a∈m.head?,a≤0:=by
  cases m with
  |nil=>cases h0
  |cons a t=>
   refine⟨a,rfl,?_⟩
   rcases ζ.1 h0 with h|h
   ·omega
   ·exact(ν.1 hs).1 _ h
 have hl:∃b∈m.getLast?,1114112≤b:=by
  have hne:m≠[]:=List.ne_nil_of_mem h0;refine⟨m.getLast hne,by rw[Qa5 hne];simp,?_⟩;obtain⟨i,hi,he⟩:=List.getElem_of_mem h9;rw[List.getLast_eq_getElem,←he]
  rcases Nat.lt_or_ge i (m.length-1) with h|h
  ·exact(Qa8.1 hs) i (m.length-1) hi z0 h
  ·have:i=m.length-1:=by omega
   subst this;exact Ξ _
 refine⟨⟨fun x hx=>g1 x (IS.1 hx),by rw[Qac];exact g2⟩,fun r=>?_⟩;rw[rI (fun x=>IS) r,g3 r];constructor
 ·rintro(h|⟨h1,h2,_⟩)
  ·exact absurd h (e5 r)
  ·exact⟨h1,h2⟩
 ·rintro⟨h1,h2⟩;obtain⟨a,ha,ha'⟩:=hh;obtain⟨b,hb,eW⟩:=hl;have:=h1;unfold iY at this;exact .inr ⟨h1,h2,⟨a,ha,by omega⟩,b,hb,by omega⟩
end Go.V
namespace Go.Proofs.YtkbacjpologjbaaGreat
open Go.V Go
theorem zjla {A B:Prop} (h:A) (e:A→B:=by intro h;dsimp only[u2,u1,u3,u4,setMany,u5,u6,υ,θ,au] at h;exact h):B:=e h
def ng (fr:Go.V.Fr) (k:Nat):Go.V.D:=Go.V.nth .bo fr.loc k
def au (x:Rg):List D:=[.int .i32 x.1,.int .i32 x.2]
def bK (l:List Rg):D:=.sl (l.map fun x=>.agg (au x))
theorem iS (l:List Rg):D.sl ((l.map au).map (kO 2))=bK l:=by
 unfold bK;rw[List.map_map];rfl
theorem eG (l:List Rg):∀e∈l.map au,∀d∈e,cD d=true:=by
 intro e he d hd;obtain⟨x,_,rfl⟩:=Qa2.1 he;simp only[au,ζ,Θ,or_false] at hd
 rcases hd with rfl|rfl<;>rfl
theorem Cz (l:List Rg):refs (l.map au).flatten=0:=by
 induction l with
 |nil=>rfl
 |cons x l ih=>simp only[Qa9,Qa1,au,BY,Qa6,refs,Qax,ih];rfl
theorem nP (l:List Rg):∀e∈l.map au,e.length=2:=by
 intro e he;obtain⟨x,_,rfl⟩:=Qa2.1 he;rfl
theorem fW (st:St) (l:List Rg):OF st 2 (bK l) (l.map au):=by
 rw[←iS];exact Rows.px (nP l) (eG l)
variable{l:List Rg}{i:Nat}
theorem dP {q:Rg} (h:l[i]?=some q):(l.map au)[i]?=some (au q):=by rw[χ,h];rfl
theorem xF (l:List Rg) (q:Rg) (r:Int):jJ (l++[q]) r=(jJ l r||(decide (q.1≤r) &&decide (r≤q.2))):=by
 induction l with
 |nil=>simp[jJ]
 |cons x l ih=>simp only[BY,jJ,ih,Bool.or_assoc]
variable{r:Int}
theorem Bz (h:jJ (l.take i) r=true):jJ l r=true:=by
 rw[vB] at h⊢;obtain⟨x,h1,h2⟩:=h;exact⟨x,Qae h1,h2⟩
variable{s0:St}{x:D}
theorem w8 (hx:OF s0 2 x (l.map au)) (hl:l.length≤1073741824):Ev pv 145 [x,.int .i32 r] s0 (.bool (jJ l r)) s0:=by
 refine Ev.iu rfl SD rfl rfl rfl ?_;refine zE ?_;obtain⟨aR,hF,hH⟩:=ri s0;generalize ae .ro s0=S at*;have hx:=Qa0 hx aR;refine zQ 10 ?_;refine ag.loop (fun mm fr st=>∃(i:Nat),fr.clean=⟨6,[x,.int .i32 r,ng fr 2,ng fr 3,.bool false,.int .i64 (i:Nat)],[]⟩∧Has s0.bs.length S st []∧(i+mm=l.length)∧(jJ (l.take i) r=false)) (l.length) ?_ ?_
 ·exact⟨0,rfl,hH,by omega,rfl⟩
 rintro mm fr st ⟨i,hfr,hH,hi,hn⟩;rw[hfr];clear hfr;generalize ng fr=ee;clear fr;refine zQ 5 ?_;refine qn ?_;simp only[δ];refine zQ 2 ?_;refine zP (fun h1=>?_) fun h1=>?_
 ·refine zQ 1 ?_
  obtain⟨q,hq⟩:∃q,l[i]?=some q:=⟨l[i]' z0,γ _⟩
  have hr:=dP hq;refine zQ 3 ?_;refine ag.da 27 (.bool (decide (r≥q.1) &&decide (r≤q.2))) [] ?_ (fun ff tmp cI=>?_)
  ·refine zQ 3 ?_;refine qr fun TH LI=>?_;refine qf (fo:=0) fun YK Rk=>?_;refine zQ 3 ?_;refine Δ 19 rfl (fun GQ=>?_) (fun GQ=>?_)
   ·refine zQ 3 ?_;refine qr (fun TG LH=>?_) (hg:=wi GQ);refine qf (fo:=1) (fun NA C9=>?_) (hg:=wi GQ);refine zQ 3 ?_;refine π (aO ?_ ?_)
    ·dsimp only[aI,ι,nth,u2,u1]
     all_goals(first|rfl|simp)
    ·refine zF ?_
     all_goals(simp[GQ];done)
   ·refine zQ 8 ?_;refine π (aO ?_ ?_)
    ·dsimp only[aI,ι,nth,u2,u1]
     all_goals(first|rfl|simp)
    ·refine zF ?_
     all_goals(simp[GQ];done)
  refine zG ?_
  have ht:jJ (l.take (i+1)) r=(decide (r≥q.1) &&decide (r≤q.2)):=by
   rw[τ,hq,Qaf,xF,hn];simp
  refine qc (fun h2=>?_) (fun h2=>?_)<;>try simp only[cs] at h2
  ·refine zQ 4 ?_;rw[Bz (i:=i+1) (by rw[ht];simp[h2])];refine ag.ret ⟨rx,_,rfl,rl aR hH (rfl)⟩
  ·refine zQ 6 ?_;exact⟨mm-1,by omega,⟨i+1,rfl,hH,by omega,by rw[ht];simp[h2]⟩⟩
 ·refine zQ 5 ?_;have:jJ l r=false:=by rw[←hn,ξ z0]
  rw[this];refine ag.ret ⟨rx,_,rfl,rl aR hH (rfl)⟩
theorem Jf (hx:OF s0 2 x (l.map au)) (hl:l.length≤1073741824):Ev pv 158 [x,.int .i32 r] s0 (.bool (jJ l r)) s0:=by
 refine Ev.iu rfl Sq rfl rfl rfl ?_;refine zE ?_;obtain⟨aR,hF,hH⟩:=ri s0;generalize ae .ro s0=S at*;have hx:=Qa0 hx aR;refine zQ 8 ?_;refine qn ?_;simp only[δ];refine zQ 3 ?_;refine ag.loop (fun mm fr st=>∃(i:Nat),fr.clean=⟨10,[x,.int .i32 r,ng fr 2,ng fr 3,.bool false,ng fr 5,ng fr 6,x,.int .i64 (l.length:Nat),.int .i64 (i:Nat)],[]⟩∧Has s0.bs.length S st []∧(i+mm=l.length)∧(jJ (l.take i) r=false)) (l.length) ?_ ?_
 ·exact⟨0,rfl,hH,by omega,rfl⟩
 rintro mm fr st ⟨i,hfr,hH,hi,hn⟩;rw[hfr];clear hfr;generalize ng fr=ee;clear fr;refine zQ 5 ?_;refine zP (fun h1=>?_) fun h1=>?_
 ·refine zQ 1 ?_
  obtain⟨q,hq⟩:∃q,l[i]?=some q:=⟨l[i]' z0,γ _⟩
  have hr:=dP hq;refine zQ 4 ?_;refine qr fun YL Ro=>?_;refine Qai rfl z3 z5 rfl (aa rfl _) ?_;refine qa hH fun k6 st De hH=>?_;refine qS hH aJ fun st hH=>?_;have hH:=zjla hH;refine zQ 2 ?_;refine ag.da 22 (.bool (decide (r≥q.1) &&decide (r≤q.2))) [] ?_ (fun ff tmp cI=>?_)
  ·refine zQ 5 ?_;refine Δ 17 rfl (fun lR=>?_) (fun lR=>?_)
   ·refine zQ 5 ?_;refine π (aO ?_ ?_)
    ·dsimp only[aI,ι,nth,u2,u1]
     all_goals(first|rfl|simp)
    ·refine zF ?_
     all_goals(simp[lR];done)
   ·refine zQ 5 ?_;refine π (aO ?_ ?_)
    ·dsimp only[aI,ι,nth,u2,u1]
     all_goals(first|rfl|simp)
    ·refine zF ?_
     all_goals(simp[lR];done)
  refine zG ?_
  have ht:jJ (l.take (i+1)) r=(decide (r≥q.1) &&decide (r≤q.2)):=by
   rw[τ,hq,Qaf,xF,hn];simp
  refine qc (fun h2=>?_) (fun h2=>?_)<;>try simp only[cs] at h2
  ·refine zQ 4 ?_;rw[Bz (i:=i+1) (by rw[ht];simp[h2])];refine ag.ret ⟨rx,_,rfl,rl aR hH (rfl)⟩
  ·refine zQ 5 ?_;exact⟨mm-1,by omega,⟨i+1,rfl,(hH.drop 1),by omega,by rw[ht];simp[h2]⟩⟩
 ·refine zQ 5 ?_;have:jJ l r=false:=by rw[←hn,ξ z0]
  rw[this];refine ag.ret ⟨rx,_,rfl,rl aR hH (rfl)⟩
def a_ (fr:Go.V.Fr) (k:Nat):Go.V.D:=Go.V.nth .bo fr.loc k
def gP:List Rg:=[(0,55295),(57344,1114111)]
def wE (lo hi:Int) (p:Rg):List Rg:=if max lo p.1≤min hi p.2 then[(max lo p.1,min hi p.2)] else[]
theorem yt (q:Rg):eL q=gP.flatMap (wE (max q.1 0) (min q.2 1114111)):=by
 simp[eL,gP,wE]
theorem Hv (q:Rg):Ev pv 141 [.agg (au q)] s0 (bK (eL q)) s0:=by
 refine Ev.iu rfl SF rfl rfl rfl ?_;refine zE ?_;obtain⟨aR,hF,hH⟩:=ri s0;generalize ae .ro s0=S at*;refine zQ 2 ?_;refine qb hH fun k1 st oO hH=>?_;have hH:=zjla hH;refine zQ 6 ?_;refine Qb3 (t1:=0) (t2:=0) rfl z3 z3 (by dsimp only[wt,u1,u2]<;>rfl) ?_;refine zQ 2 ?_;refine ab.Lg (t1:=0) (t2:=0) rfl z3 z3 (by dsimp only[wt,u1,u2]<;>rfl) ?_;refine zQ 1 ?_;refine qT hH aJ fun st hH=>?_;have hH:=zjla hH;refine zQ 1 ?_;refine qT hH aJ fun st hH=>?_;have hH:=zjla hH;refine zQ 1 ?_;generalize Cb:max q.1 0=lo at*;generalize EX:min q.2 1114111=hi at*;refine zQ 4 ?_;have hH:=hH.fG 2;refine zQ 5 ?_;refine qh (s:=2) (vs:=[_,_]) hH fun k17 st OK hH=>?_;have hH:=zjla hH;refine qn ?_ (hR:=hH.rows aJ);simp only[η,ρ];refine zQ 3 ?_;refine ag.loop (fun mm fr st=>∃(i:Nat) (x:D),fr.clean=⟨20,[.agg (au q),.ptr k1 0 0,.nul,x,a_ fr 4,a_ fr 5,a_ fr 6,a_ fr 7,a_ fr 8,a_ fr 9,a_ fr 10,a_ fr 11,a_ fr 12,a_ fr 13,a_ fr 14,a_ fr 15,a_ fr 16,.win k17 0 0 2 2,.int .i64 2,.int .i64 (i:Nat)],[]⟩∧Has s0.bs.length S st [.aC (.win k17 0 0 2 2) 2 (gP.map au),.aC x 2 (((gP.take i).flatMap (wE lo hi)).map au),.box k1 (.mem 0 false [.int .i32 lo,.int .i32 hi])]∧(i+mm=2)∧(((gP.take i).flatMap (wE lo hi)).length≤i)) (2) ?_ ?_
 ·exact⟨0,.nul,rfl,hH,by omega,by simp⟩
 rintro mm fr st ⟨i,x,hfr,hH,hij,hb⟩;rw[hfr];clear hfr;generalize a_ fr=ee;clear fr;refine zQ 5 ?_;refine zP (fun h1=>?_) fun h1=>?_
 ·refine zQ 1 ?_
  obtain⟨p,hp⟩:∃p,gP[i]?=some p:=⟨gP[i]'(by simp[gP];omega),γ _⟩
  have hr:=dP hp;refine zQ 4 ?_;refine qi hH aJ fun Qi IH=>?_;refine ab.yE hH rfl z3 z5 (by exact aJ) z5 rfl (aa rfl _) ?_;refine qa hH fun k5 st LS hH=>?_;refine qS hH aJ fun st hH=>?_;have hH:=zjla hH;refine zQ 7 ?_;refine Qb3 (t1:=0) (t2:=0) rfl z3 z3 (aa rfl _) ?_;refine zQ 4 ?_;refine ab.Lg (t1:=0) (t2:=0) rfl z3 z3 (aa rfl _) ?_;refine qg ?_;refine qa hH fun k6 st De hH=>?_;refine qS hH aJ fun st hH=>?_;have hH:=zjla hH;refine zQ 9 ?_;refine zP (fun h2=>?_) fun h2=>?_
  ·refine zQ 2 ?_;refine Qaz (m:=2) hH rfl z3 (by exact aJ) (by dsimp only[Ψ,Pd,Ω,AT,au]<;>rfl) rfl rfl (aa rfl _) ?_;refine qh (s:=2) (vs:=[_]) hH fun k41 st RA hH=>?_;refine Qaj (s:=2) hH rfl z3 z3 (by exact ie) (by exact hH.rows (by exact aJ)) rfl rfl rfl rfl rfl rfl rfl ⟨(ε rfl),(ε rfl)⟩ (fun _=>(aa rfl _)) (by simp only[η,ρ,δ]<;>omega) (by exact .inl hF) (fun P4 st hH=>?_);have hH:=zjla hH;refine zQ 6 ?_
   have h3:(gP.take (i+1)).flatMap (wE lo hi)=(gP.take i).flatMap (wE lo hi)++[(max lo p.1,min hi p.2)]:=by
    rw[τ,hp,Qag];simp[wE,h2]
   exact⟨mm-1,by omega,⟨i+1,P4,rfl,(by rw[h3,Γ];exact hH.drop 3),by omega,by rw[h3];simp only[ω,η,ρ];omega⟩⟩
  ·refine zQ 5 ?_
   have h3:(gP.take (i+1)).flatMap (wE lo hi)=(gP.take i).flatMap (wE lo hi):=by
    rw[τ,hp,Qag];simp[wE,h2]
   exact⟨mm-1,by omega,⟨i+1,x,rfl,(by rw[h3];exact hH.drop 2),by omega,by rw[h3];omega⟩⟩
 ·refine zQ 6 ?_;rw[←iS];have h3:gP.take i=gP:=ξ (by simp[gP];omega);rw[h3] at hH;refine ag.ret ⟨rx,_,rfl,rl aR hH ?_⟩;refine Eq.trans (hH.freeze bt (eG _) (n:=15) (by decide)) ?_;rw[yt,Cb,EX]
theorem FK (q x:Rg) (h:x∈eL q):0≤x.1∧x.1≤1114111:=by
 obtain⟨h1,h2,h3⟩:=rn q x h;omega
theorem uw (q:Rg):(eL q).length≤2:=by
 unfold eL;split<;>split<;>simp
theorem kM (l:List Rg):(l.flatMap eL).length≤2*l.length:=by
 induction l with
 |nil=>simp
 |cons x l ih=>simp only[Qam,ω,η];have:=uw x;omega
theorem wU:∀{l:List Rg},(∀x∈l,0≤x.1∧x.1≤1114111)→∃m:List Rs,gG m=(l.map au).flatten∧m.map (fun x=>(x.lo,x.hi))=l
 |[],_=>⟨[],rfl,rfl⟩
 |x::l,h=>by
  obtain⟨m,h1,h2⟩:=wU (l:=l) fun y hy=>h y (μ _ hy);obtain⟨h3,h4⟩:=h x (κ ..);exact⟨⟨x.1,x.2,h3,h4⟩::m,by simp only[gG,h1,Qa9,Qa1,au,BY,Qa6],by simp[h2]⟩
theorem Dx (m:List Rs):gG m=((m.map fun x=>((x.lo,x.hi):Rg)).map au).flatten:=by
 induction m with
 |nil=>rfl
 |cons x m ih=>simp only[gG,ih,Qa9,Qa1,au,BY,Qa6]
variable{N:Nat}{S st:St}{H:List a8}
theorem Je {j:Nat} (hH:Has N S st H) (hj:H[j]?=some (.aC x 2 (l.map au))) (h0:l=[]→x=.nul) (hl:l.length≤1073741824) (hr:∀y∈l,0≤y.1∧y.1≤1114111):
  ∃(ah:St) (l':List Rg),Ev pv 142 [x,.fn 143 []] st (.tup []) ah∧Has N S ah (H.set j (.aC x 2 (l'.map au)))∧l'.Perm l∧l'.Pairwise fun a b=>a.1≤b.1:=by
 obtain⟨m,h1,h2⟩:=wU hr;obtain⟨h3,h4⟩:=srt_facts m;have Db:m.length=l.length:=by rw[←h2];simp
 have hperm:((srt m).map fun x=>((x.lo,x.hi):Rg)).Perm l:=by rw[←h2];exact h3.map _
 have oA:((srt m).map fun x=>((x.lo,x.hi):Rg)).Pairwise fun a b=>a.1≤b.1:=by rw[List.pairwise_map];exact h4
 have hlen:(srt m).length=l.length:=h3.length_eq.trans Db;have hown:=hH.own hj;generalize wJ:l.map au=es at*;have tQ:es.length=l.length:=by rw[←wJ];simp
 cases hown with
 |nul=>
  have Cc:l=[]:=by cases l with|nil=>rfl|cons _ _=>simp at tQ
  refine⟨st,(srt m).map fun x=>(x.lo,x.hi),Ev.l7 rfl rfl,?_,hperm,oA⟩
  have:(srt m).map (fun x=>((x.lo,x.hi):Rg))=[]:=by
   cases hs:srt m with
   |nil=>rfl
   |cons a b=>rw[hs,Cc] at hlen;simp at hlen
  rw[this];exact hH.D2 hj (fun _ _ _=>rfl) (Nat.le_refl _) rfl rfl .nul (fun k hk=>.inl hk) fun k hk=>by simp only[a8.aC,Qax] at hk;omega
 |win k aB off es c hm hle hc he=>
  have hne:l≠[]:=fun e=>by have:=h0 e;cases this
  have za:1≤l.length:=by cases l with|nil=>exact absurd rfl hne|cons _ _=>simp
  have hk:=(hH.ok j _ hj).2 k (by simp only[a8.aC,Qax]);have Dh:(gG (srt m)).length=es.length*2:=by rw[pX,hlen,tQ];omega
  have hwr:st.wr k aB off (gG (srt m))=some ⟨st.bs.set k (.mem aB true (c.take off++gG (srt m)++c.drop (off+(gG (srt m)).length))),st.flr,st.ro⟩:=
   mL hm z0 (iE hH hk.1 (.inr (xP _)))
  refine⟨⟨st.bs.set k (.mem aB true (c.take off++gG (srt m)++c.drop (off+(gG (srt m)).length))),st.flr,st.ro⟩,(srt m).map fun x=>(x.lo,x.hi),Ev.l7 rfl ?_,?_,hperm,oA⟩
  ·show Fy [.win k aB off es.length 2,.fn 143 []] st=_;have jy:(c.drop off).take (2*es.length)=gG m:=by rw[Nat.mul_comm,hc,h1]
   simp only[Fy,St.mem_of hm,jy,Ej,Nq];rw[decide_eq_true (⟨by rw[Db,tQ],by omega,by omega⟩:m.length=es.length∧1≤es.length∧es.length<1099511627776)];simp only[hwr]
  ·refine hH.D2 hj (fun n hn hne=>?_) (by simp) rfl rfl ?_ (fun n hn=>.inl hn) fun n hn=>?_
   ·simp only;rw[Pe (fun e=>hne (by simp only[a8.aC,Qax];omega))]
   ·have h9:=i7.win (st:=⟨st.bs.set k (.mem aB true (c.take off++gG (srt m)++c.drop (off+(gG (srt m)).length))),st.flr,st.ro⟩) (s:=2) k aB off (((srt m).map fun x=>((x.lo,x.hi):Rg)).map au) (c.take off++gG (srt m)++c.drop (off+(gG (srt m)).length))
     (by simp only;rw[Qaa hk.2]) (by simp only[ω,IN,δ,Qao,Dh];omega) ?_ (nP _)
    ·simp only[δ,hlen] at h9;rw[tQ];exact h9
    ·have Vv:(c.take off).length=off:=by simp;omega
     rw[Qal,List.drop_left' Vv,←Dx,List.take_left' (by simp only[δ,hlen];omega)]
   ·simp only[a8.aC,Qax] at hn;simp only[Qas];omega
theorem ve (l:List Rg):(l.foldl eA []).length≤l.length:=by
 have key:∀(l acc:List Rg),(l.foldl eA acc).length≤acc.length+l.length:=by
  intro l
  induction l with
  |nil=>intro acc;simp
  |cons x l ih=>
   intro acc;simp only[Qar,η];have:=ih (eA acc x)
   have h2:(eA acc x).length≤acc.length+1:=by
    unfold eA;split
    ·simp
    ·split<;>simp
   omega
 have:=key l []
 simpa using this
theorem Ll (h:∀x∈l,0≤x.2∧x.2≤1114111):∀x∈l.foldl eA [],0≤x.2∧x.2≤1114111:=by
 have key:∀(l acc:List Rg),(∀x∈l,0≤x.2∧x.2≤1114111)→(∀x∈acc,0≤x.2∧x.2≤1114111)→∀x∈l.foldl eA acc,0≤x.2∧x.2≤1114111:=by
  intro l
  induction l with
  |nil=>intro acc _ h x hx;exact h x hx
  |cons y l ih=>
   intro acc h1 h2;refine ih _ (fun x hx=>h1 x (μ _ hx)) fun x hx=>?_;have hy:=h1 y (κ ..);unfold eA at hx
   split at hx
   ·simp only[ζ,Θ,or_false] at hx;rw[hx];exact hy
   ·rename_i k rest;have hk:=h2 k (κ ..)
    split at hx
    ·rcases ζ.1 hx with rfl|hx
     ·simp only;omega
     ·exact h2 x (μ _ hx)
    ·rcases ζ.1 hx with rfl|hx
     ·exact hy
     ·exact h2 x hx
 exact key l [] h (fun x hx=>by cases hx)
theorem Bi (h:Rg) (t:List Rg):((h::t).reverse.map au)[t.length]?=some (au h):=by
 rw[χ,GB,List.getElem?_append_right (by simp)];simp
theorem Bh (h h':Rg) (t:List Rg):((h::t).reverse.map au).set t.length (au h')=(h'::t).reverse.map au:=by
 rw[GB,Γ,IT _ _ (by simp)];simp
theorem EA (hx:OF s0 2 x (l.map au)) (hl:l.length≤268435456):∃d,Ev pv 135 [x] s0 d s0∧∃all:List Rg,d=bK (all.foldl eA []).reverse∧all.Perm (l.flatMap eL)∧all.Pairwise fun a b=>a.1≤b.1:=by
 refine Ev.CL rfl SM rfl rfl rfl ?_;refine zE ?_;obtain⟨aR,hF,hH⟩:=ri s0;generalize ae .ro s0=S at*;have hx:=Qa0 hx aR;have mi:=kM l
 have hfi:∀i,((l.take i).flatMap eL).length≤2*l.length:=fun i=>by
  have:=kM (l.take i);simp only[IN] at this;omega
 refine zQ 13 ?_;refine qn ?_;simp only[δ];refine zQ 2 ?_;have hH:=hH.fG 2;refine zQ 1 ?_;refine ag.loop (fun mm fr st=>∃(i:Nat) (y:D),fr.clean=⟨26,[x,a_ fr 1,a_ fr 2,y,.nul,a_ fr 5,a_ fr 6,a_ fr 7,a_ fr 8,a_ fr 9,x,.int .i64 (l.length:Nat),.int .i64 (i:Nat),a_ fr 13,a_ fr 14,a_ fr 15,a_ fr 16,a_ fr 17,a_ fr 18,a_ fr 19,a_ fr 20,a_ fr 21,a_ fr 22,a_ fr 23,a_ fr 24,a_ fr 25],[]⟩∧Has s0.bs.length S st [.aC y 2 (((l.take i).flatMap eL).map au)]∧(i+mm=l.length)∧((l.take i).flatMap eL=[]→y=.nul)) (l.length) ?_ ?_
 ·exact⟨0,.nul,rfl,hH,by omega,fun _=>rfl⟩
 rintro mm fr st ⟨i,y,hfr,hH,hi,Oy⟩;rw[hfr];clear hfr;generalize a_ fr=ee;clear fr;refine zQ 4 ?_;have hm:=hfi i;refine qq<|zP (fun h1=>?_) fun h1=>?_
 ·refine zQ 1 ?_
  obtain⟨q,hq⟩:∃q,l[i]?=some q:=⟨l[i]' z0,γ _⟩
  have hr:=dP hq
  have vt:(l.take (i+1)).flatMap eL=(l.take i).flatMap eL++eL q:=by
   rw[τ,hq];simp
  have hrq:=uw q;refine zQ 4 ?_;refine qr fun p14 aaP=>?_;refine Qai rfl z3 z5 rfl (by dsimp only[wt,u1,u2]<;>rfl) ?_;refine qa hH fun k6 st De hH=>?_;refine qS hH aJ fun st hH=>?_;have hH:=zjla hH;refine zQ 3 ?_;refine Qaz (m:=2) hH rfl z3 (by exact aJ) (by dsimp only[Ψ,Pd,Ω,AT,au]<;>rfl) rfl rfl (by dsimp only[wt,u1,u2]<;>rfl) ?_;refine qv (Hv q) ?_;refine ab.Jj hH rfl rfl rfl (by exact bt) (fW _ _) rfl rfl rfl rfl rfl rfl rfl ⟨(ε rfl),(ε rfl)⟩ (fun _=>by dsimp only[wt,u1,u2]<;>rfl) (by simp only[δ];omega) (.inl hF) (fun TC st Rp hH=>?_);dsimp only[u2,u1] at hH;refine zQ 6 ?_;exact⟨mm-1,by omega,⟨i+1,TC,rfl,(by rw[vt,Γ];exact hH.drop 1),by omega,by rw[vt];intro h;obtain⟨h3,h4⟩:=List.append_eq_nil_iff.1 h;rw[Rp (by rw[h4];rfl)];exact Oy h3⟩⟩
 ·refine zQ 1 ?_;have hT:l.take i=l:=ξ z0;rw[hT] at hH Oy hm
  obtain⟨st2,all,aA,T5,hperm,oA⟩:=Je hH aJ Oy z0 (fun z hz=>by
   obtain⟨w,_,hw⟩:=ψ.1 hz
   exact FK w z hw)
  have hlen:=hperm.length_eq
  have hbd:∀z∈all,0≤z.2∧z.2≤1114111:=fun z hz=>by
   obtain⟨w,_,hw⟩:=ψ.1 (hperm.mem_iff.1 hz);have:=rn w z hw;omega
  refine zQ 3 ?_;refine qv (aA) ?_;refine zQ 1 ?_;have hH:=T5;dsimp only[u2] at hH;clear T5 aA;have hR:=hH.rows aJ;have hH:=hH.fG 2;refine zQ 4 ?_;refine qn ?_ (hR:=hH.rows bt);simp only[δ];refine zQ 3 ?_;refine ag.loop (fun mm fr st=>∃(i:Nat) (z:D),fr.clean=⟨26,[x,a_ fr 1,a_ fr 2,y,z,a_ fr 5,a_ fr 6,a_ fr 7,a_ fr 8,a_ fr 9,a_ fr 10,a_ fr 11,a_ fr 12,a_ fr 13,a_ fr 14,a_ fr 15,a_ fr 16,a_ fr 17,a_ fr 18,a_ fr 19,a_ fr 20,a_ fr 21,a_ fr 22,y,.int .i64 (all.length:Nat),.int .i64 (i:Nat)],[]⟩∧Has s0.bs.length S st [.aC z 2 (((all.take i).foldl eA []).reverse.map au),.aC y 2 (all.map au)]∧(i+mm=all.length)) (all.length) ?_ ?_
  ·exact⟨0,.nul,rfl,hH,by omega⟩
  rintro mm fr st ⟨i,z,hfr,hH,hi⟩;rw[hfr];clear hfr;generalize a_ fr=ee;clear fr;refine zQ 4 ?_
  have nX:((all.take i).foldl eA []).length≤all.length:=by
   have:=ve (all.take i);simp only[IN] at this;omega
  refine qq<|zP (fun h1=>?_) fun h1=>?_
  ·refine zQ 1 ?_
   obtain⟨q,hq⟩:∃q,all[i]?=some q:=⟨all[i]' z0,γ _⟩
   have hr:=dP hq
   have OO:(all.take (i+1)).foldl eA []=eA ((all.take i).foldl eA []) q:=by
    rw[τ,hq,List.foldl_append];rfl
   generalize sa:(all.take i).foldl eA []=acc at*;refine zQ 4 ?_;refine qi hH bt fun Ut Ot=>?_;refine ab.yE hH rfl z3 z5 (by exact bt) z5 rfl (aa rfl _) ?_;refine qa hH fun k8 st LQ hH=>?_;refine qS hH aJ fun st hH=>?_;have hH:=zjla hH;refine zQ 1 ?_
   rcases acc with _|⟨h,t⟩
   ·refine zQ 3 ?_;refine qn ?_ (hR:=hH.rows bt);simp only[δ,ρ,ο];refine Qad (z:=(-1)) rfl z3 z3 (by rw[wrap_i64 z0 z0]<;>omega) (aa rfl _) ?_;refine zQ 2 ?_;have cj:decide ((-1:Int)≥0)=false:=by decide
    refine qq<|ag.da 44 (.bool false) [] ?_ (fun ff tmp cI=>?_)
    ·refine zQ 13 ?_;refine π (aO ?_ ?_)
     ·dsimp only[aI,ι,nth,u2,u1]
      all_goals(first|rfl|simp)
     ·dsimp only[Qap,wt,Qa4,Qa7,AI,nth,look,u1,u2,v1,v2,v4]
      all_goals(rfl)
    dsimp only[aI,ι,nth,u2,u1];dsimp only[Qap,wt,Qa4,Qa7,AI,nth,look,u1,u2,v1,v2,v4];refine zQ 3 ?_;refine Qaz (m:=2) hH rfl z3 (by exact aJ) (by dsimp only[Ψ,Pd,Ω,AT,au]<;>rfl) rfl rfl (aa rfl _) ?_;refine qh (s:=2) (vs:=[_]) hH fun k59 st VJ hH=>?_;refine Qaj (s:=2) hH rfl z3 z3 (by exact cU) (by exact hH.rows (by exact aJ)) rfl rfl rfl rfl rfl rfl rfl ⟨(ε rfl),(ε rfl)⟩ (fun _=>(aa rfl _)) (by simp only[η,ρ,δ,ο]<;>omega) (by exact .inl hF) (fun Ua st hH=>?_);have hH:=zjla hH;refine zQ 6 ?_;exact⟨mm-1,by omega,⟨i+1,Ua,rfl,(by rw[OO];exact hH.drop 2),by omega⟩⟩
   ·simp only[η] at nX;refine zQ 3 ?_;refine qn ?_ (hR:=hH.rows bt);simp only[δ,η,ο];refine Qad (z:=((t.length:Nat):Int)) rfl z3 z3 (by rw[wrap_i64 z0 z0]<;>omega) (aa rfl _) ?_;refine zQ 2 ?_;have s9:=Bi h t;have gD:=Bh h (h.1,max h.2 q.2) t;have EX:=Ll (l:=all.take i) (fun x hx=>hbd x (Qae hx)) h (by rw[sa];exact κ ..);have cj:decide (((t.length:Nat):Int)≥0)=true:=by rw[decide_eq_true];omega
    refine qq<|ag.da 44 (.bool (decide (q.1≤h.2+1))) [] ?_ (fun ff tmp cI=>?_)
    ·refine zQ 7 ?_;refine qi hH bt (fun YD Rc=>?_) (hg:=wi cj);refine Qaw (fo:=1) (m:=0) (o2:=1) (aj rfl rfl rfl cj) z3 z5 rfl rfl rfl (fun _=>(aa rfl _)) (fun p40 Vn=>?_);refine zQ 1 ?_;refine Qb2 (aj rfl rfl rfl cj) z3 z3 z0 z0 (aa rfl _) ?_;refine zQ 2 ?_;refine π (aO ?_ ?_)
     ·dsimp only[aI,ι,nth,u2,u1]
      all_goals(first|rfl|simp)
     ·dsimp only[Qap,wt,Qa4,Qa7,AI,nth,look,u1,u2,v1,v2,v4]
      all_goals(rfl)
    dsimp only[aI,ι,nth,u2,u1];dsimp only[Qap,wt,Qa4,Qa7,AI,nth,look,u1,u2,v1,v2,v4];refine ag.cond z5 (fun h2=>?_) (fun h2=>?_)<;>try simp only[decide_eq_true_eq,decide_eq_false_iff_not] at h2
    ·refine zQ 5 ?_;refine qi hH bt fun Yz Q9=>?_;refine Qaw (fo:=1) (m:=0) (o2:=1) rfl z3 z5 rfl rfl rfl (fun _=>(aa rfl _)) (fun Uo Ol=>?_);refine zQ 3 ?_;refine Qb3 (t1:=0) (t2:=0) rfl z3 z3 (aa rfl _) ?_;refine qi hH bt fun Yy Q8=>?_;refine Qaw (fo:=1) (m:=0) (o2:=1) rfl z3 z5 rfl rfl rfl (fun _=>(aa rfl _)) (fun Um Oi=>?_);refine Qb0 hH rfl z3 z3 z5 rfl rfl (by exact bt) z5 (ε rfl) (by exact .inl hF) (fun st hH=>?_);have hH:=zjla hH;refine zQ 5 ?_;exact⟨mm-1,by omega,⟨i+1,z,rfl,(by rw[OO];simp only[eA,if_pos h2];rw[←gD];exact hH.drop 1),by omega⟩⟩
    ·refine zQ 2 ?_;refine Qaz (m:=2) hH rfl z3 (by exact aJ) (by dsimp only[Ψ,Pd,Ω,AT,au]<;>rfl) rfl rfl (aa rfl _) ?_;refine qh (s:=2) (vs:=[_]) hH fun k59 st VJ hH=>?_;refine Qaj (s:=2) hH rfl z3 z3 (by exact cU) (by exact hH.rows (by exact aJ)) rfl rfl rfl rfl rfl rfl rfl ⟨(ε rfl),(ε rfl)⟩ (fun _=>(aa rfl _)) (by simp only[η,ρ,δ,ο]<;>omega) (by exact .inl hF) (fun Ua st hH=>?_);have hH:=zjla hH;refine zQ 6 ?_;exact⟨mm-1,by omega,⟨i+1,Ua,rfl,(by rw[OO];simp only[eA,if_neg h2];rw[GB (a:=q),Γ];exact hH.drop 2),by omega⟩⟩
  ·refine zQ 6 ?_;rw[ξ z0] at hH;refine ag.ret ⟨rx,_,_,rfl,rl aR hH ((hH.freeze aJ (eG _) (n:=15) (by decide))),?_⟩;exact⟨all,by rw[iS],hperm,oA⟩
def dw (fr:Go.V.Fr) (k:Nat):Go.V.D:=Go.V.nth .bo fr.loc k
def dZ (r:Int):List D:=[.int .i32 r]
def yr (l:List Int):D:=.sl ((l.map dZ).map (kO 1))
theorem ux (l:List Int):∀e∈l.map dZ,∀d∈e,cD d=true:=by
 intro e he d hd;obtain⟨x,_,rfl⟩:=Qa2.1 he;simp only[dZ,ζ,Θ,or_false] at hd;subst hd;rfl
theorem Hw (l:List Int):∀e∈l.map dZ,e.length=1:=by
 intro e he;obtain⟨x,_,rfl⟩:=Qa2.1 he;rfl
theorem As (st:St) (l:List Int):OF st 1 (yr l) (l.map dZ):=Rows.px (Hw l) (ux l)
variable{q:Int}
theorem Au {l:List Int} (h:l[i]?=some q):(l.map dZ)[i]?=some (dZ q):=by rw[χ,h];rfl
def gQ (l:List Rg):List Int:=[0,55296,57344,1114112]++l.flatMap jA
theorem JH (x:Rg):(jA x).length≤2:=by
 unfold jA;split<;>split<;>simp
theorem sf (l:List Rg):(l.flatMap jA).length≤2*l.length:=by
 induction l with
 |nil=>simp
 |cons x l ih=>simp only[Qam,ω,η];have:=JH x;omega
def iQ (m:List Int) (i k:Nat):Prop:=∀a b,a<b→b≤i→b≠k→m.getD a 0≤m.getD b 0
theorem pT (m:List Int) (k:Nat) (v:Int) (hk:k<m.length) (a:Nat):(m.set k v).getD a 0=if a=k then v else m.getD a 0:=by
 simp only[ς]
 by_cases h:a=k
 ·subst h;rw[Qaa hk,if_pos rfl];rfl
 ·rw[Pe (fun e=>h e.symm),if_neg h]
variable{m:List Int}{k:Nat}
theorem Ae (hk:k+1≤i) (hi:i<m.length) (h:iQ m i (k+1)) (RJ:m.getD k 0>m.getD (k+1) 0):iQ ((m.set k (m.getD (k+1) 0)).set (k+1) (m.getD k 0)) i k:=by
 intro a b hab RW hbk;have hl:(m.set k (m.getD (k+1) 0)).length=m.length:=Qas ..;rw[pT _ _ _ (by rw[hl];omega),pT _ _ _ z0,pT _ _ _ (by rw[hl];omega),pT _ _ _ z0]
 by_cases h1:b=k+1
 ·rw[if_pos h1,if_neg z0]
  by_cases h2:a=k
  ·rw[if_pos h2];omega
  ·rw[if_neg h2];exact h a k z0 z0 z0
 ·rw[if_neg h1,if_neg hbk]
  by_cases h2:a=k+1
  ·rw[if_pos h2];exact h k b z0 RW h1
  ·rw[if_neg h2]
   by_cases h3:a=k
   ·rw[if_pos h3];exact h (k+1) b z0 RW h1
   ·rw[if_neg h3];exact h a b hab RW h1
theorem sI (h:iQ m i k) (hx:k=0∨m.getD (k-1) 0≤m.getD k 0) (j:Nat):iQ m i j:=by
 intro a b hab RW _
 by_cases hb:b=k
 ·subst hb;have hx:=hx.resolve_left z0
  by_cases ha:a=b-1
  ·rw[ha];exact hx
  ·exact Int.le_trans (h a (b-1) z0 z0 z0) hx
 ·exact h a b hab RW hb
theorem swap_perm (hk:k+1<m.length):((m.set k (m.getD (k+1) 0)).set (k+1) (m.getD k 0)).Perm m:=by
 have h0:m=m.take k++(m.getD k 0::m.getD (k+1) 0::m.drop (k+2)):=by
  have e1:m.drop k=m.getD k 0::m.drop (k+1):=by rw[φ z0];simp[ς,γ (show k<m.length by omega)]
  have e2:m.drop (k+1)=m.getD (k+1) 0::m.drop (k+2):=by rw[φ z0];simp[ς,γ hk]
  rw[←e2,←e1,List.take_append_drop]
 have hlen:(m.take k).length=k:=by simp;omega
 generalize m.getD k 0=x at*;generalize m.getD (k+1) 0=y at*;generalize m.take k=l1 at*;generalize m.drop (k+2)=l2 at*;subst h0;rw[IT _ _ z0,IT _ _ z0,hlen,Nat.sub_self,Nat.add_sub_cancel_left];exact(List.Perm.swap x y l2).append_left l1
theorem Af (h : iQ m i (i + 1)) (hi : i + 1 ≥ m.length): m.Pairwise (· ≤ ·) := by
 rw [Qa8];intro a b ha hb hab;have := h a b hab z0 z0
 simpa [ς, γ ha, γ hb] using this
theorem Ii (hx : OF s0 2 x (l.map au)) (hl : l.length ≤ 268435456): ∃ d, Ev pv 144 [x] s0 d s0 ∧ ∃ m : List Int, d = yr m ∧ m.Perm (gQ l) ∧ m.Pairwise (· ≤ ·) := by
 refine Ev.CL rfl SE rfl rfl rfl ?_;refine zE ?_;obtain ⟨aR, hF, hH⟩ := ri s0;generalize ae .ro s0 = S at *;have hx := Qa0 hx aR;refine zQ 6 ?_;refine qh (s := 1) (vs := [_, _, _, _]) hH fun k7 st Rz hH => ?_;refine zQ 7 ?_;have mi := sf l;have h0 : gQ (l.take 0) = [0, 55296, 57344, 1114112] := rfl
 have Db : ∀ i, (gQ (l.take i)).length ≤ 4 + 2 * l.length := by
  intro i;have := sf (l.take i);simp only [gQ, ω, η, ρ, IN] at *;omega
 refine zQ 1 ?_;refine ag.loop (fun mm fr st => ∃ (i : Nat) (y : D), fr.clean = ⟨7, [x, dw fr 1, dw fr 2, y, .int .i64 (i : Nat), dw fr 5, dw fr 6], []⟩ ∧ Has s0.bs.length S st [.aC y 1 ((gQ (l.take i)).map dZ)] ∧ (i + mm = l.length)) (l.length) ?_ ?_
 ·exact ⟨0, _, rfl, hH, by omega⟩
 rintro mm fr st ⟨i, y, hfr, hH, hi⟩;rw [hfr];clear hfr;generalize dw fr = ee;clear fr;refine zQ 5 ?_;refine qn ?_;simp only [δ];refine zQ 2 ?_;refine zP (fun h1 => ?_) fun h1 => ?_
 ·refine zQ 1 ?_
  obtain ⟨q, hq⟩ : ∃ q, l[i]? = some q := ⟨l[i]' z0, γ _⟩
  have hr := dP hq;have hm := Db i
  have vt : gQ (l.take (i + 1)) = gQ (l.take i) ++ jA q := by
   rw [τ, hq]; simp [gQ]
  refine zQ 4 ?_;refine ag.da 40 (.bool (decide (q.1 ≤ q.2) && decide (q.1 ≥ 0) && decide (q.1 ≤ 1114111))) [] ?_ (fun ff tmp cI => ?_)
  ·refine zQ 2 ?_;refine qr fun YK Rk => ?_;refine qf (fo := 0) fun Uu Ou => ?_;refine zQ 3 ?_;refine qr fun Qi IH => ?_;refine qf (fo := 1) fun Qh IG => ?_;refine zQ 3 ?_;refine Δ 25 rfl (fun cG => ?_) (fun cG => ?_)
   ·refine zQ 2 ?_;refine qr (fun Us Oq => ?_) (hg := wi cG);refine qf (fo := 0) (fun YH Rh => ?_) (hg := wi cG);refine zQ 4 ?_;refine Δ 33 rfl (fun j8 => ?_) (fun j8 => ?_)
    ·refine zQ 2 ?_;refine qr (fun Ur Oo => ?_) (hg := wi j8);refine qf (fo := 0) (fun Uq On => ?_) (hg := wi j8);refine zQ 3 ?_;refine π (aO ?_ ?_)
     ·dsimp only [aI, ι, nth, u2, u1]
      all_goals (first | rfl | simp)
     ·refine zF ?_
      all_goals (simp [cG, j8]; done)
    ·refine zQ 7 ?_;refine π (aO ?_ ?_)
     ·dsimp only [aI, ι, nth, u2, u1]
      all_goals (first | rfl | simp)
     ·refine zF ?_
      all_goals (simp [cG, j8]; done)
   ·refine zQ 15 ?_;refine π (aO ?_ ?_)
    ·dsimp only [aI, ι, nth, u2, u1]
     all_goals (first | rfl | simp)
    ·refine zF ?_
     all_goals (simp [cG]; done)
  refine zG ?_;have oY : jA q = (if q.1 ≤ q.2 ∧ 0 ≤ q.1 ∧ q.1 ≤ 1114111 then [q.1] else []) ++ (if q.1 ≤ q.2 ∧ 0 ≤ q.2 ∧ q.2 < 1114111 then [q.2 + 1] else []) := rfl;rw [oY] at vt;generalize iI : (if q.1 ≤ q.2 ∧ 0 ≤ q.1 ∧ q.1 ≤ 1114111 then [q.1] else []) = e1 at vt;generalize wy : (if q.1 ≤ q.2 ∧ 0 ≤ q.2 ∧ q.2 < 1114111 then [q.2 + 1] else []) = e2 at vt;have aba : e1.length ≤ 1 := by rw [← iI]; split <;> simp
  refine ag.merge (fun fr st => ∃ (y : D) (tmp : List (Nat × D)), fr = ⟨7, [x, dw fr 1, dw fr 2, y, .int .i64 (i : Nat), dw fr 5, dw fr 6], tmp⟩ ∧ Has s0.bs.length S st [.aC y 1 ((gQ (l.take i) ++ e1).map dZ)]) ?_ ?_
  ·refine qc (fun h2 => ?_) (fun h2 => ?_) <;> try simp only [cs] at h2
   ·simp only [Qan, decide_eq_true_eq] at h2;rw [if_pos ⟨h2.1.1, h2.1.2, h2.2⟩] at iI;refine zQ 4 ?_;refine qr fun YA Q_ => ?_;refine qf (fo := 0) fun p45 Vm => ?_;refine qR ?_;refine qh (s := 1) (vs := [_]) hH fun k47 st VN hH => ?_;refine Qaj (s := 1) hH rfl z3 z3 (by exact bt) (by exact hH.rows (by exact aJ)) rfl rfl rfl rfl rfl rfl rfl ⟨(ε rfl), (ε rfl)⟩ (fun _ => (aa rfl _)) (by simp only [η, ρ, δ] <;> omega) (by exact .inl hF) (fun P3 st hH => ?_);dsimp only [u2, u1, u3, u4, setMany, u5, u6, υ, θ, au, dZ] at hH;refine zQ 2 ?_;exact ⟨P3, _, rfl, (by rw [← iI, Γ]; exact hH.drop 1)⟩
   ·rw [if_neg (by rintro ⟨a, b, c⟩; simp [a, b, c] at h2)] at iI;refine zQ 1 ?_;exact ⟨y, _, rfl, (by rw [← iI, Qaq]; exact hH)⟩
  ·rintro fr st ⟨y, tmp, hfr, hH⟩;rw [hfr];clear hfr;generalize dw fr = ee;clear fr;refine qq ?_;refine ag.da 75 (.bool (decide (q.1 ≤ q.2) && decide (q.2 ≥ 0) && decide (q.2 < 1114111))) [] ?_ (fun ff tmp cI => ?_)
   ·refine zQ 2 ?_;refine qr fun Un Oj => ?_;refine qf (fo := 0) fun p52 Vl => ?_;refine zQ 3 ?_;refine qr fun Um Oi => ?_;refine qf (fo := 1) fun p57 aaL => ?_;refine zQ 3 ?_;refine Δ 60 rfl (fun cG => ?_) (fun cG => ?_)
    ·refine zQ 2 ?_;refine qr (fun p63 aaI => ?_) (hg := wi cG);refine qf (fo := 1) (fun Yw Q6 => ?_) (hg := wi cG);refine zQ 4 ?_;refine Δ 68 rfl (fun j8 => ?_) (fun j8 => ?_)
     ·refine zQ 2 ?_;refine qr (fun p71 aaF => ?_) (hg := wi j8);refine qf (fo := 1) (fun p72 Vh => ?_) (hg := wi j8);refine zQ 3 ?_;refine π (aO ?_ ?_)
      ·dsimp only [aI, ι, nth, u2, u1]
       all_goals (first | rfl | simp)
      ·refine zF ?_
       all_goals (simp [cG, j8]; done)
     ·refine zQ 7 ?_;refine π (aO ?_ ?_)
      ·dsimp only [aI, ι, nth, u2, u1]
       all_goals (first | rfl | simp)
      ·refine zF ?_
       all_goals (simp [cG, j8]; done)
    ·refine zQ 15 ?_;refine π (aO ?_ ?_)
     ·dsimp only [aI, ι, nth, u2, u1]
      all_goals (first | rfl | simp)
     ·refine zF ?_
      all_goals (simp [cG]; done)
   dsimp only [aI, ι, nth, u2, u1];refine ag.merge (fun fr st => ∃ (y : D) (tmp : List (Nat × D)), fr = ⟨7, [x, dw fr 1, dw fr 2, y, .int .i64 (i : Nat), dw fr 5, dw fr 6], tmp⟩ ∧ Has s0.bs.length S st [.aC y 1 ((gQ (l.take (i + 1))).map dZ)]) ?_ ?_
   ·refine qc (fun h2 => ?_) (fun h2 => ?_) <;> try simp only [cs] at h2
    ·simp only [Qan, decide_eq_true_eq] at h2;rw [if_pos ⟨h2.1.1, h2.1.2, h2.2⟩] at wy;refine zQ 4 ?_;refine qr fun TF LF => ?_;refine qf (fo := 1) fun p80 Vg => ?_;refine qR ?_;refine Qb2 rfl z3 z3 z0 z0 (aa rfl _) ?_;refine qh (s := 1) (vs := [_]) hH fun k83 st aaU hH => ?_;refine Qaj (s := 1) hH rfl z3 z3 (by exact bt) (by exact hH.rows (by exact aJ)) rfl rfl rfl rfl rfl rfl rfl ⟨(ε rfl), (ε rfl)⟩ (fun _ => (aa rfl _)) (by simp only [ω, η, ρ, δ] <;> omega) (by exact .inl hF) (fun ZJ st hH => ?_);dsimp only [u2, u1, u3, u4, setMany, u5, u6, υ, θ, au, dZ] at hH;refine zQ 2 ?_;exact ⟨ZJ, _, rfl, (by rw [vt, ← wy, ← Qal, Γ]; exact hH.drop 1)⟩
    ·rw [if_neg (by rintro ⟨a, b, c⟩; simp [a, b, c] at h2)] at wy;refine zQ 1 ?_;exact ⟨y, _, rfl, (by rw [vt, ← wy, Qaq]; exact hH)⟩
   ·rintro fr st ⟨y, tmp, hfr, hH⟩;rw [hfr];clear hfr;generalize dw fr = ee;clear fr;refine zQ 5 ?_;exact ⟨mm - 1, by omega, ⟨i + 1, y, rfl, hH, by omega⟩⟩
 ·refine zQ 1 ?_;have hT : l.take i = l := ξ z0;rw [hT] at hH;have hm := Db l.length;rw [List.take_length] at hm;generalize j6 : gQ l = m0 at *;have Va : 4 ≤ m0.length := by rw [← j6]; simp [gQ]
  refine zQ 6 ?_;refine ag.loop (fun mm fr st => ∃ (i : Nat) (m : List Int), fr.clean = ⟨7, [x, dw fr 1, dw fr 2, y, dw fr 4, .int .i64 (i : Nat), dw fr 6], []⟩ ∧ Has s0.bs.length S st [.aC y 1 (m.map dZ)] ∧ (i + mm = m0.length) ∧ (m.Perm m0) ∧ (iQ m (i - 1) i) ∧ (1 ≤ i)) (m0.length - 1) ?_ ?_
  ·exact ⟨1, m0, rfl, hH, by omega, .refl _, by intro a b h1 h2 h3; omega, by omega⟩
  rintro mm fr st ⟨i, m, hfr, hH, hi, hp, hs, Va⟩;rw [hfr];clear hfr;generalize dw fr = ee;clear fr;have Vz : m.length = m0.length := hp.length_eq;refine zQ 5 ?_;refine qn ?_ (hR := hH.rows aJ);simp only [δ];refine zQ 2 ?_;refine zP (fun h1 => ?_) fun h1 => ?_
  ·refine zQ 9 ?_;refine ag.loop (fun mm fr st => ∃ (k : Nat) (m : List Int), fr.clean = ⟨7, [x, dw fr 1, dw fr 2, y, dw fr 4, .int .i64 (i : Nat), .int .i64 (k : Nat)], []⟩ ∧ Has s0.bs.length S st [.aC y 1 (m.map dZ)] ∧ (k = mm) ∧ (m.Perm m0) ∧ (iQ m i k) ∧ (k ≤ i)) (i) ?_ ?_
   ·exact ⟨i, m, rfl, hH, rfl, hp, by intro a b h1 h2 h3; exact hs a b h1 z0 z0, by omega⟩
   have j7 := hi;rintro mm fr st ⟨k, m, hfr, hH, hk, hp, hs, OD⟩;rw [hfr];clear hfr;generalize dw fr = ee;clear fr;have Vz : m.length = m0.length := hp.length_eq
   rcases k with _ | k
   ·have cj : decide (((0 : Nat) : Int) > 0) = false := by decide
    refine zQ 2 ?_;refine ag.da 105 (.bool false) [] ?_ (fun ff tmp cI => ?_)
    ·refine zQ 14 ?_;refine π (aO ?_ ?_)
     ·dsimp only [aI, ι, nth, u2, u1]
      all_goals (first | rfl | simp)
     ·exact zS
      all_goals (first | rfl | (simp [cj]; done) | (simp_all; done) | (simp [cj]; omega) | (simp_all; omega))
    refine zG ?_;refine zQ 7 ?_;exact ⟨m0.length - (i + 1), by omega, ⟨i + 1, m, rfl, hH, by omega, hp, sI hs (.inl rfl) _, by omega⟩⟩
   ·have cj : decide (((k + 1 : Nat) : Int) > 0) = true := by rw [decide_eq_true]; omega
    have fU : (m.map dZ)[k]? = some (dZ (m.getD k 0)) := by
     rw [χ, γ z0]; simp [ς, γ (show k < m.length by omega)]
    have mB : (m.map dZ)[k + 1]? = some (dZ (m.getD (k + 1) 0)) := by
     rw [χ, γ z0]; simp [ς, γ (show k + 1 < m.length by omega)]
    refine zQ 2 ?_;refine ag.da 105 (.bool (decide (m.getD k 0 > m.getD (k + 1) 0))) [] ?_ (fun ff tmp cI => ?_)
    ·refine zQ 5 ?_;refine Qad (z := ((k : Nat) : Int)) (aj rfl rfl rfl cj) z3 z3 (by  rw [wrap_i64 z0 z0] <;> omega) (aa rfl _) ?_;refine qi hH aJ (fun p98 aav => ?_) (hg := wi cj);refine zQ 3 ?_;refine qi hH aJ (fun aai Y6 => ?_) (hg := wi cj);refine zQ 3 ?_;refine π (aO ?_ ?_)
     ·dsimp only [aI, ι, nth, u2, u1]
      all_goals (first | rfl | simp)
     ·exact zS
      all_goals (first | rfl | (simp [cj]; done) | (simp_all; done) | (simp [cj]; omega) | (simp_all; omega))
    refine zG ?_;have hsw := swap_perm (m := m) (k := k) z0;have hss := fun h => Ae (m := m) (i := i) (k := k) z0 z0 hs h;have hsd := fun (h : m.getD k 0 ≤ m.getD (k + 1) 0) => sI (j := i + 1) hs (.inr (by rw [Nat.add_sub_cancel]; exact h));have pN : ((m.set k (m.getD (k + 1) 0)).set (k + 1) (m.getD k 0)).map dZ = ((m.map dZ).set k (dZ (m.getD (k + 1) 0))).set (k + 1) (dZ (m.getD k 0)) := by rw [Qav, Qav]
    have C8 : ((m.map dZ).set k (dZ (m.getD (k + 1) 0)))[k + 1]? = some (dZ (m.getD (k + 1) 0)) := by rw [Pe z0]; exact mB
    generalize m.getD k 0 = a at *;generalize m.getD (k + 1) 0 = b at *;refine ag.cond z5 (fun h2 => ?_) (fun h2 => ?_) <;> try simp only [decide_eq_true_eq, decide_eq_false_iff_not] at h2
    ·refine zQ 6 ?_;refine Qad (z := ((k : Nat) : Int)) rfl z3 z3 (by  rw [wrap_i64 z0 z0] <;> omega) (aa rfl _) ?_;refine zQ 4 ?_;refine qi hH aJ fun aag Y5 => ?_;refine zQ 3 ?_;refine Qad (z := ((k : Nat) : Int)) rfl z3 z3 (by  rw [wrap_i64 z0 z0] <;> omega) (aa rfl _) ?_;refine qi hH aJ fun aaf Y4 => ?_;refine zQ 1 ?_;refine qi hH aJ fun aae Y3 => ?_;refine Qb0 hH rfl z3 z3 z5 rfl rfl (by exact aJ) z5 (ε rfl) (by exact .inl hF) (fun st hH => ?_);dsimp only [u2, u1, u3, u4, setMany, u5, u6, υ, θ, au, dZ] at hH;refine qi hH aJ fun aad Y2 => ?_;refine Qb0 hH rfl z3 z3 z5 rfl rfl (by exact aJ) z5 (ε rfl) (by exact .inl hF) (fun st hH => ?_);dsimp only [u2, u1, u3, u4, setMany, u5, u6, υ, θ, au, dZ] at hH;refine zQ 3 ?_;refine Qad (z := ((k : Nat) : Int)) rfl z3 z3 (by  rw [wrap_i64 z0 z0] <;> omega) (aa rfl _) ?_;refine zQ 2 ?_;exact ⟨k, by omega, ⟨k, (m.set k b).set (k + 1) a, rfl, (by rw [pN]; exact hH), rfl, hsw.trans hp, hss h2, by omega⟩⟩
    ·refine zQ 6 ?_;exact ⟨m0.length - (i + 1), by omega, ⟨i + 1, m, rfl, hH, by omega, hp, hsd z0, by omega⟩⟩
  ·refine zQ 6 ?_;refine ag.ret ⟨rx, _, _, rfl, rl aR hH ((hH.freeze aJ (ux _) (n := 15) (by decide))), ?_⟩;exact ⟨m, rfl, j6 ▸ hp, Af (i := i - 1) (by intro a b h1 h2 h3; exact hs a b h1 h2 z0) z0⟩
def gU (fr:Go.V.Fr) (k:Nat):Go.V.D:=Go.V.nth .bo fr.loc k
def gu (l a:List Rg):Prop:=canon a∧∀r,ec a r↔iY r∧ec l r
variable{a:List Rg}
theorem gu.unique {b:List Rg} (h:gu l a) (g:gu l b):a=b:=qH h.1 g.1 fun r=>(h.2 r).trans (g.2 r).symm
noncomputable def eN (l:List Rg):Bool:=@decide (gu l l) (v8 _)
theorem w5 (h:gu l a):eN l=decide (l=a):=by
 unfold eN
 by_cases hl:l=a
 ·rw[decide_eq_true hl];exact@decide_eq_true _ (v8 _) (by rw[hl] at h⊢;exact h)
 ·rw[decide_eq_false hl];exact@decide_eq_false _ (v8 _) (fun g=>hl (g.unique h))
theorem xj (p q:Rg):fp pv .neq 112 (.agg (au p)) (.agg (au q))=some (.bool (!decide (p=q))):=by
 have h:∀a b a' b':Int,fp pv .neq 112 (.agg [.int .i32 a,.int .i32 b]) (.agg [.int .i32 a',.int .i32 b'])=Option.map (fun b=>D.bool !b) (match some (a==a') with|some true=>(match some (b==b') with|some true=>some true|some false=>some false|none=>none)|some false=>some false|none=>none):=fun _ _ _ _=>rfl;obtain⟨a,b⟩:=p;obtain⟨a',b'⟩:=q;simp only[au,h]
 by_cases h1:a=a'
 ·subst h1
  by_cases h2:b=b'
  ·subst h2;simp
  ·have:(b==b')=false:=by simpa using h2
   simp[this,h2]
 ·have:(a==a')=false:=by simpa using h1
  simp[this,h1]
theorem pe {α:Type} {a b:List α} {x y:α} (ha:a[i]?=some x) (hb:b[i]?=some y) (h:a.take i=b.take i) (QE:x=y):a.take (i+1)=b.take (i+1):=by
 rw[τ,τ,h,ha,hb,QE]
theorem xk {α:Type} {a b:List α} {x y:α} (ha:a[i]?=some x) (hb:b[i]?=some y) (QE:¬x=y):¬a=b:=by
 intro h;subst h;rw[ha] at hb;exact QE (Qa3.inj hb)
theorem JE {y:D} {m:List Rg} (hx:OF s0 2 x (l.map au)) (hy:OF s0 2 y (m.map au)) (hl:l.length≤1073741824) (hm:m.length≤1073741824):Ev pv 134 [x,y] s0 (.bool (decide (l=m))) s0:=by
 refine Ev.iu rfl SN rfl rfl rfl ?_;refine zE ?_;obtain⟨aR,hF,hH⟩:=ri s0;generalize ae .ro s0=S at*;have hx:=Qa0 hx aR;have hy:=Qa0 hy aR;refine zQ 8 ?_;refine qn ?_;simp only[δ];refine qm ?_;refine qn ?_;simp only[δ];refine zQ 2 ?_
 by_cases hlen:l.length=m.length
 ·refine ag.cond (v:=false) ?_ (fun h=>by cases h) (fun _=>?_)
  ·dsimp only[Qa7,AI,nth,Qay];rw[hlen];simp
  refine zQ 5 ?_;refine qn ?_;simp only[δ];refine zQ 3 ?_;refine ag.loop (fun mm fr st=>∃(i:Nat),fr.clean=⟨14,[x,y,gU fr 2,gU fr 3,.bool false,gU fr 5,gU fr 6,gU fr 7,gU fr 8,gU fr 9,gU fr 10,gU fr 11,.int .i64 (l.length:Nat),.int .i64 (i:Nat)],[]⟩∧Has s0.bs.length S st []∧(i+mm=l.length)∧(l.take i=m.take i)) (l.length) ?_ ?_
  ·exact⟨0,rfl,hH,by omega,rfl⟩
  rintro mm fr st ⟨i,hfr,hH,hi,ht⟩;rw[hfr];clear hfr;generalize gU fr=ee;clear fr;refine zQ 5 ?_;refine zP (fun h1=>?_) fun h1=>?_
  ·refine zQ 1 ?_
   obtain⟨p,hp⟩:∃p,l[i]?=some p:=⟨l[i]' z0,γ _⟩
   obtain⟨q,hq⟩:∃q,m[i]?=some q:=⟨m[i]' z0,γ _⟩
   have fU:=dP hp;have mB:=dP hq;refine zQ 11 ?_;refine qr fun Qj II=>?_;refine Qai rfl z3 z5 rfl (aa rfl _) ?_;refine zQ 2 ?_;refine qr fun Qh IG=>?_;refine Qai rfl z3 z5 rfl (aa rfl _) ?_;refine ab.PE rfl z3 z3 (xj p q) (aa rfl _) ?_;refine zQ 1 ?_;refine ag.cond (by rfl) (fun h2=>?_) (fun h2=>?_)<;>try simp only[decide_eq_true_eq,decide_eq_false_iff_not,Qak,Qah] at h2
   ·refine zQ 4 ?_;rw[decide_eq_false (xk hp hq (by simpa using h2))];refine ag.ret ⟨rx,_,rfl,rl aR hH (rfl)⟩
   ·refine zQ 5 ?_;exact⟨mm-1,by omega,⟨i+1,rfl,hH,by omega,pe hp hq ht (by simpa using h2)⟩⟩
  ·refine zQ 5 ?_;rw[decide_eq_true (by rw[ξ z0,ξ z0] at ht;exact ht)];refine ag.ret ⟨rx,_,rfl,rl aR hH (rfl)⟩
 ·refine ag.cond (v:=true) ?_ (fun _=>?_) (fun h=>by cases h)
  ·dsimp only[Qa7,AI,nth,Qay];simp;omega
  refine zQ 4 ?_;rw[decide_eq_false (fun h=>hlen (by rw[h]))];refine ag.ret ⟨rx,_,rfl,rl aR hH (rfl)⟩
theorem Ax (hx:OF s0 2 x (l.map au)) (hl:l.length≤1048576):Ev pv 99 [x] s0 (.bool (eN l)) s0:=by
 refine Ev.iu rfl WG rfl rfl rfl ?_;refine zE ?_;obtain⟨aR,hF,hH⟩:=ri s0;generalize ae .ro s0=S at*;have hx:=Qa0 hx aR;refine zQ 4 ?_;obtain⟨_,aA,all,rfl,hperm,oA⟩:=EA (hx.rows hH) z0;have hM:gu l (all.foldl eA []).reverse:=u7 (fun x=>hperm.mem_iff) oA;have hlen:=hperm.length_eq;have mi:=kM l;have nX:=ve all;rw[w5 hM];refine zQ 4 ?_;refine qv (aA) ?_;refine qv (JE (hx.rows hH) (fW _ _) z0 (by rw[ο];omega)) ?_;refine zQ 2 ?_;refine ag.ret ⟨rx,_,rfl,rl aR hH (rfl)⟩
theorem HN {acc:List Rg} {lo hi:Int} (hF:S.flr≤N) (hH:Has N S st (.aC x 2 (acc.reverse.map au)::H)) (hl:acc.length≤536870912) (hb:∀k∈acc,0≤k.2+1∧k.2+1≤2147483647):
  ∃x' ah,Ev pv 146 [x,.int .i32 lo,.int .i32 hi] st x' ah∧Has N S ah (.aC x' 2 ((fO acc lo hi).reverse.map au)::H):=by
 refine Ev.eH rfl SC rfl rfl rfl ?_;refine zE ?_;change ag _ _ _ _ st _;refine zQ 4 ?_
 rcases acc with _|⟨h,t⟩
 ·have bB:decide (((([]:List Rg).reverse.map au).length:Int)>0)=false:=by decide
  refine zQ 2 ?_;refine ag.da 21 (.bool false) [] ?_ (fun ff tmp cI=>?_)
  ·refine qm ?_;refine qn ?_ (hR:=hH.rows aJ);simp only[δ,ρ,ο];refine zQ 13 ?_;refine π (aO ?_ ?_)
   ·dsimp only[aI,ι,nth,u2,u1]
    all_goals(first|rfl|simp)
   ·dsimp only[Qap,wt,Qa4,Qa7,AI,nth,look,u1,u2,v1,v2,v4]
    all_goals(rfl)
  dsimp only[aI,ι,nth,u2,u1];refine zQ 8 ?_;refine qh (s:=2) (vs:=[_]) hH fun k34 st VP hH=>?_;have hH:=zjla hH;refine Qaj (s:=2) hH rfl z3 z3 (by exact bt) (by exact hH.rows (by exact aJ)) rfl rfl rfl rfl rfl rfl rfl ⟨(ε rfl),(ε rfl)⟩ (fun _=>(aa rfl _)) (by simp only[η,ρ,δ,ο]<;>omega) (by exact .inl hF) (fun ZQ st hH=>?_);have hH:=zjla hH;refine zQ 2 ?_;refine ag.ret ⟨rx,_,_,_,rfl,rfl,?_⟩;exact hH.drop 1
 ·have s9:=Bi h t;have gD:=Bh h (h.1,hi) t;have hbh:=hb h (κ ..);simp only[η] at hl;have bB:decide (((t.length+1:Nat):Int)>0)=true:=by rw[decide_eq_true];omega
  refine zQ 2 ?_;refine ag.da 21 (.bool (decide (h.2+1=lo))) [] ?_ (fun ff tmp cI=>?_)
  ·refine qm ?_;refine qn ?_ (hR:=hH.rows aJ);simp only[δ,η,ο];refine zQ 4 ?_;refine qn ?_ (hR:=hH.rows aJ) (hg:=wi bB);simp only[δ,η,ο];refine Qad (z:=((t.length:Nat):Int)) (aj rfl rfl rfl bB) z3 z3 (by rw[wrap_i64 z0 z0]<;>omega) (aa rfl _) ?_;refine qi hH aJ (fun TH LI=>?_) (hg:=wi bB);refine Qaw (fo:=1) (m:=0) (o2:=1) (aj rfl rfl rfl bB) z3 z5 rfl rfl rfl (fun _=>(aa rfl _)) (fun YK Rk=>?_);refine zQ 1 ?_;refine Qb2 (aj rfl rfl rfl bB) z3 z3 z0 z0 (aa rfl _) ?_;refine zQ 3 ?_;refine π (aO ?_ ?_)
   ·dsimp only[aI,ι,nth,u2,u1]
    all_goals(first|rfl|simp)
   ·dsimp only[Qap,wt,Qa4,Qa7,AI,nth,look,u1,u2,v1,v2,v4]
    all_goals(rfl)
  dsimp only[aI,ι,nth,u2,u1];refine ag.cond z5 (fun h2=>?_) (fun h2=>?_)<;>try simp only[decide_eq_true_eq,decide_eq_false_iff_not] at h2
  ·refine zQ 4 ?_;refine qn ?_ (hR:=hH.rows aJ);simp only[δ,η,ο];refine Qad (z:=((t.length:Nat):Int)) rfl z3 z3 (by rw[wrap_i64 z0 z0]<;>omega) (aa rfl _) ?_;refine qm ?_;refine qi hH aJ fun Ut Ot=>?_;refine Qaw (fo:=1) (m:=0) (o2:=1) rfl z3 z5 rfl rfl rfl (fun _=>(aa rfl _)) (fun Us Oq=>?_);refine Qb0 hH rfl z3 z3 z5 rfl rfl (by exact aJ) z5 (ε rfl) (by exact .inl hF) (fun st hH=>?_);have hH:=zjla hH;refine zQ 6 ?_;refine ag.ret ⟨rx,_,_,_,rfl,rfl,?_⟩;simp only[fO,if_pos h2];rw[←gD];exact hH
  ·refine zQ 7 ?_;refine qh (s:=2) (vs:=[_]) hH fun k34 st VP hH=>?_;have hH:=zjla hH;refine Qaj (s:=2) hH rfl z3 z3 (by exact bt) (by exact hH.rows (by exact aJ)) rfl rfl rfl rfl rfl rfl rfl ⟨(ε rfl),(ε rfl)⟩ (fun _=>(aa rfl _)) (by simp only[η,ρ,δ,ο]<;>omega) (by exact .inl hF) (fun ZQ st hH=>?_);have hH:=zjla hH;refine zQ 2 ?_;refine ag.ret ⟨rx,_,_,_,rfl,rfl,?_⟩;simp only[fO,if_neg h2];rw[GB (a:=(lo,hi)),Γ];exact hH.drop 1
theorem FT (acc:List Rg) (lo hi:Int):(fO acc lo hi).length≤acc.length+1:=by
 unfold fO;split
 ·simp
 ·split<;>simp
theorem NH (l:List Rg) (a b:Int):PD l true a b=((decide (a<b) &&(decide (a<55296)||decide (a>57343))) &&jJ l a):=by
 unfold PD;cases jJ l a<;>simp
theorem Cy (hx:OF s0 2 x (l.map au)) (hl:l.length≤134217728):∃d,Ev pv 136 [x] s0 d s0∧∃a:List Rg,d=bK a∧gu l a:=by
 refine Ev.CL rfl SL rfl rfl rfl ?_;refine zE ?_;obtain⟨aR,hF,hH⟩:=ri s0;generalize ae .ro s0=S at*;have hx:=Qa0 hx aR;refine zQ 4 ?_;obtain⟨_,aA,m,rfl,hperm,oA⟩:=Ii (hx.rows hH) z0;have hlen:=hperm.length_eq;have mi:=sf l;have Db:m.length=4+(l.flatMap jA).length:=by rw[hlen];simp[gQ];omega
 have Y9:∀q∈m,0≤q∧q≤1114112:=by
  intro q hq;have:=hperm.mem_iff.1 hq;simp only[gQ,Φ,ζ,Θ,or_false,ψ] at this
  rcases this with(h|h|h|h)|⟨y,_,hy⟩
  ·omega
  ·omega
  ·omega
  ·omega
  ·unfold jA at hy
   split at hy<;>split at hy<;>simp at hy<;>omega
 have hM:=wD (l:=l) (m:=m) true (fun q=>by
  rw[hperm.mem_iff]
  simp only[gQ,Φ,ζ,Θ,or_false,ψ,or_assoc]) oA
 have hMI:gu l (gI l true m []).reverse:=⟨hM.1,fun r=>by rw[hM.2 r];simp⟩
 refine zQ 3 ?_;refine qv (aA) ?_;refine zQ 2 ?_;have j6:=Qb1 (N:=s0.bs.length) (S:=S) (s:=1) (es:=(m.map dZ).map (kO 1)) (fun st=>As st m);change Arg s0.bs.length S 1 (yr m) _ at j6;refine zQ 9 ?_;have hH:=hH.fG 2;refine zQ 1 ?_;refine ag.loop (fun mm fr st=>∃(i:Nat) (y:D) (acc:List Rg),fr.clean=⟨6,[x,gU fr 1,gU fr 2,yr m,y,.int .i64 (i:Nat)],[]⟩∧Has s0.bs.length S st [.aC y 2 (acc.reverse.map au)]∧(i+mm=m.length)∧(gI l true (m.drop i) acc=gI l true m [])∧(acc.length≤i)∧(∀k∈acc,0≤k.2+1∧k.2+1≤1114112)) (m.length) ?_ ?_
 ·exact⟨0,.nul,[],rfl,hH,by omega,rfl,by simp,by simp⟩
 rintro mm fr st ⟨i,y,acc,hfr,hH,hi,hp,hal,hab⟩;rw[hfr];clear hfr;generalize gU fr=ee;clear fr;refine zQ 6 ?_;refine qn ?_;simp only[δ];refine zQ 2 ?_;refine zP (fun h1=>?_) fun h1=>?_
 ·refine zQ 1 ?_
  obtain⟨a,ha⟩:∃a,m[i]?=some a:=⟨m[i]' z0,γ _⟩
  obtain⟨b,hb⟩:∃b,m[i+1]?=some b:=⟨m[i+1]' z0,γ _⟩
  have fU:=Au ha;have mB:=Au hb;have Zp:=Y9 b (AN hb);have har:=Y9 a (AN ha)
  have tw:m.drop i=a::b::m.drop (i+2):=by
   rw[φ z0,φ z0];rw[γ z0] at ha hb;rw[Qa3.inj ha,Qa3.inj hb]
  have Wb:m.drop (i+1)=b::m.drop (i+2):=by
   rw[φ z0];rw[γ z0] at hb;rw[Qa3.inj hb]
  rw[tw,gI,←Wb,NH] at hp;refine zQ 3 ?_;refine ag.da 46 (.bool ((decide (a<b) &&(decide (a<55296)||decide (a>57343))) &&jJ l a)) [] ?_ (fun ff tmp cI=>?_)
  ·refine zQ 2 ?_;refine qr fun Uu Ou=>?_;refine zQ 4 ?_;refine qr fun Qh IG=>?_;refine zQ 3 ?_;refine Δ 25 rfl (fun dA=>?_) (fun dA=>?_)
   ·refine zQ 2 ?_;refine qr (fun Us Oq=>?_) (hg:=wi dA);refine zQ 3 ?_;refine Δ 31 rfl (fun tu=>?_) (fun tu=>?_)
    ·refine zQ 5 ?_;refine ab.c9 (aj rfl rfl rfl dA) rfl tu (aa rfl _) ?_;refine zQ 5 ?_;refine qr fun Up Om=>?_;refine qR ?_;refine qv (w8 (hx.rows hH) z0) ?_;refine qg ?_;refine π (aO ?_ ?_)
     ·dsimp only[aI,ι,nth,u2,u1]
      all_goals(first|rfl|simp)
     ·refine zF ?_
      all_goals(simp[dA,tu];done)
    ·refine zQ 2 ?_;refine qr (fun YE Re=>?_) (hg:=wi tu);refine zQ 2 ?_;refine ab.c_ (aj rfl rfl rfl dA) rfl tu (aa rfl _) ?_;refine zQ 2 ?_;refine Δ 39 rfl (fun jo=>?_) (fun jo=>?_)
     ·refine zQ 3 ?_;refine qr (fun Up Om=>?_) (hg:=wi jo);refine zQ 1 ?_;refine qv (w8 (hx.rows hH) z0) ?_ (hg:=wi jo);refine zQ 1 ?_;refine π (aO ?_ ?_)
      ·dsimp only[aI,ι,nth,u2,u1]
       all_goals(first|rfl|simp)
      ·refine zF ?_
       all_goals(simp[dA,tu,jo];done)
     ·refine zQ 7 ?_;refine π (aO ?_ ?_)
      ·dsimp only[aI,ι,nth,u2,u1]
       all_goals(first|rfl|simp)
      ·refine zF ?_
       all_goals(simp[dA,tu,jo];done)
   ·refine zQ 21 ?_;refine π (aO ?_ ?_)
    ·dsimp only[aI,ι,nth,u2,u1]
     all_goals(first|rfl|simp)
    ·refine zF ?_
     all_goals(simp[dA];done)
  refine zG ?_;refine qc (fun h2=>?_) (fun h2=>?_)<;>try simp only[cs] at h2
  ·rw[h2,if_pos rfl] at hp;have ia:=FT acc a (b-1);obtain⟨x',ah,V_,T5⟩:=HN (acc:=acc) (lo:=a) (hi:=b-1) hF hH z0 (fun k hk=>by have:=hab k hk;omega);refine zQ 4 ?_;refine qr fun Uo Ol=>?_;refine zQ 4 ?_;refine qr fun Yy Q8=>?_;refine qR ?_;refine ab.Nn rfl z3 z3 z0 z0 (aa rfl _) ?_;refine qv (V_) ?_;refine zQ 2 ?_;have hH:=T5;refine zQ 5 ?_;refine⟨mm-1,by omega,⟨i+1,x',fO acc a (b-1),rfl,hH,by omega,hp,by omega,?_⟩⟩;intro k hk;unfold fO at hk
   split at hk
   ·simp only[ζ,Θ,or_false] at hk;subst hk;simp only;omega
   ·rename_i h t
    split at hk
    ·rcases ζ.1 hk with rfl|hk
     ·simp only;omega
     ·exact hab k (μ _ hk)
    ·rcases ζ.1 hk with rfl|hk
     ·simp only;omega
     ·exact hab k hk
  ·rw[h2] at hp;refine zQ 6 ?_;exact⟨mm-1,by omega,⟨i+1,y,acc,rfl,hH,by omega,hp,by omega,hab⟩⟩
 ·refine zQ 6 ?_
  have gV:acc=gI l true m []:=by
   rw[←hp];have GR:(m.drop i).length≤1:=by rw[Qao];omega
   match hd:m.drop i,GR with
   |[],_=>rfl
   |[_],_=>rfl
  refine ag.ret ⟨rx,_,_,rfl,rl aR hH ((hH.freeze aJ (eG _) (n:=15) (by decide))),?_⟩;exact⟨acc.reverse,by rw[iS],by rw[gV];exact hMI⟩
theorem AD (hx:OF s0 2 x (l.map au)) (hl:l.length≤1048576):Ev pv 110 [x] s0 (.bool (eN l)) s0:=by
 refine Ev.iu rfl S9 rfl rfl rfl ?_;refine zE ?_;obtain⟨aR,hF,hH⟩:=ri s0;generalize ae .ro s0=S at*;have hx:=Qa0 hx aR;refine zQ 4 ?_;obtain⟨_,aA,m,rfl,hM⟩:=Cy (hx.rows hH) z0;rw[w5 hM];refine zQ 3 ?_;refine qv (aA) ?_;refine zQ 2 ?_;have j6:Arg s0.bs.length S 2 (bK m) (m.map au):=Qb1 (fun st=>fW st m);refine zQ 4 ?_;refine qn ?_;simp only[δ];refine qm ?_;refine qn ?_;simp only[δ];refine zQ 2 ?_
 by_cases hlen:m.length=l.length
 ·refine ag.cond (v:=false) ?_ (fun h=>by cases h) (fun _=>?_)
  ·dsimp only[Qa7,AI,nth,Qay];rw[hlen];simp
  refine zQ 7 ?_;refine ag.loop (fun mm fr st=>∃(i:Nat),fr.clean=⟨5,[x,gU fr 1,.bool false,bK m,.int .i64 (i:Nat)],[]⟩∧Has s0.bs.length S st []∧(i+mm=l.length)∧(l.take i=m.take i)) (l.length) ?_ ?_
  ·exact⟨0,rfl,hH,by omega,rfl⟩
  rintro mm fr st ⟨i,hfr,hH,hi,ht⟩;rw[hfr];clear hfr;generalize gU fr=ee;clear fr;refine zQ 5 ?_;refine qn ?_;simp only[δ];refine zQ 2 ?_;refine zP (fun h1=>?_) fun h1=>?_
  ·refine zQ 1 ?_
   obtain⟨p,hp⟩:∃p,l[i]?=some p:=⟨l[i]' z0,γ _⟩
   obtain⟨q,hq⟩:∃q,m[i]?=some q:=⟨m[i]' z0,γ _⟩
   have fU:=dP hp;have mB:=dP hq;refine zQ 6 ?_;refine qr fun PC Gb=>?_;refine Qai rfl z3 z5 rfl (aa rfl _) ?_;refine zQ 2 ?_;refine qr fun NA C9=>?_;refine Qai rfl z3 z5 rfl (aa rfl _) ?_;refine ab.PE rfl z3 z3 (xj q p) (aa rfl _) ?_;refine zQ 1 ?_;refine ag.cond (by rfl) (fun h2=>?_) (fun h2=>?_)<;>try simp only[decide_eq_true_eq,decide_eq_false_iff_not,Qak,Qah] at h2
   ·refine zQ 4 ?_;rw[decide_eq_false (xk hp hq (by simpa[eq_comm] using h2))];refine ag.ret ⟨rx,_,rfl,rl aR hH (rfl)⟩
   ·refine zQ 6 ?_;exact⟨mm-1,by omega,⟨i+1,rfl,hH,by omega,pe hp hq ht (by simpa[eq_comm] using h2)⟩⟩
  ·refine zQ 5 ?_;rw[decide_eq_true (by rw[ξ z0,ξ z0] at ht;exact ht)];refine ag.ret ⟨rx,_,rfl,rl aR hH (rfl)⟩
 ·refine ag.cond (v:=true) ?_ (fun _=>?_) (fun h=>by cases h)
  ·dsimp only[Qa7,AI,nth,Qay];simp;omega
  refine zQ 4 ?_;rw[decide_eq_false (fun h=>hlen (by rw[h]))];refine ag.ret ⟨rx,_,rfl,rl aR hH (rfl)⟩
structure aL where
 op:Int
 x:Int
 y:Int
 rd:D
 rs:List Rg
def aK (i:aL):List D:=[.int .i64 i.op,.int .i64 i.x,.int .i64 i.y,i.rd]
def aL.ok (i:aL):Prop:=fg i.rd 2 (i.rs.map au)∧i.rs.length≤1048576
def ax (n:Int):List D:=[.int .i64 n]
structure Pg where
 cd:D
 code:List aL
 sd:D
 ak:List Int
structure Pg.ok (p:Pg):Prop where
 c:fg p.cd 4 (p.code.map aK)
 s:fg p.sd 1 (p.ak.map ax)
 i:∀x∈p.code,x.ok
 cl:p.code.length≤1048576
 sl:p.ak.length≤1048576
def Pg.cs (p:Pg):List D:=[p.cd,p.sd]
def Pg.d (p:Pg):D:=.agg p.cs
theorem fy {l:List aL} {q:aL} (h:l[i]?=some q):(l.map aK)[i]?=some (aK q):=by rw[χ,h];rfl
theorem ej {l:List Int} (h:l[i]?=some q):(l.map ax)[i]?=some (ax q):=by rw[χ,h];rfl
def kC (v n:Int):Bool:=decide (v≥0) &&decide (v<n)
noncomputable def cE (n ns pc:Nat) (i:aL):Bool:=
 if i.op=1 then i.y==0 &&(decide (((pc+1:Nat):Int)<n) &&i.x==0 &&eN i.rs)
 else i.rs.isEmpty &&
  (if i.op=2 then kC i.x n &&kC i.y n
  else i.y==0 &&
   (if i.op=3 then kC i.x n
   else if i.op=4 then decide (((pc+1:Nat):Int)<n) &&kC i.x 10
   else if i.op=5∨i.op=6 then decide (((pc+1:Nat):Int)<n) &&i.x==0
   else if i.op=7 then kC i.x ns
   else false))
theorem jQ (v n:Int):Ev pv 67 [.int .i64 v,.int .i64 n] s0 (.bool (kC v n)) s0:=by
 refine Ev.iu rfl W9 rfl rfl rfl ?_;refine zE ?_;obtain⟨aR,hF,hH⟩:=ri s0;generalize ae .ro s0=S at*;refine zQ 5 ?_;refine ag.mH 4 (.bool (decide (v≥0) &&decide (v<n))) [] ?_ (fun ff tmp=>?_)
 ·refine zQ 3 ?_;refine Δ 7 rfl (fun cj=>?_) (fun cj=>?_)
  ·refine zQ 5 ?_;refine π (aX ?_);refine zG ?_
   all_goals(simp[cj];done)
  ·refine zQ 5 ?_;refine π (aX ?_);refine zG ?_
   all_goals(simp[cj];done)
 dsimp only[aI,ι,nth,u2,u1];refine ag.ret ⟨rx,_,rfl,rl aR hH (rfl)⟩
theorem Fz {p:Pg} {pc:Nat} {i:aL} (hp:p.ok) (hi:p.code[pc]?=some i):Ev pv 66 [p.d,.int .i64 (pc:Nat)] s0 (.bool (cE p.code.length p.ak.length pc i)) s0:=by
 refine Ev.iu rfl W_ rfl rfl rfl ?_;refine zE ?_;obtain⟨aR,hF,hH⟩:=ri s0;generalize ae .ro s0=S at*;have hc:=hp.c.arg s0.bs.length S;have hs:=hp.s.arg s0.bs.length S;have LV:=hp.i i (AN hi);have RG:=LV.1.arg s0.bs.length S;have hil:=LV.2;have hcl:=hp.cl;have jS:=hp.sl;have hr:=fy hi;have hlt:=bc hi;unfold Pg.d;refine zQ 2 ?_;refine qb hH fun k2 st hk2 hH=>?_;dsimp only[u2,u1,u3,u4,setMany,u5,u6,υ,θ,Pg.cs,aK,ax] at hH;refine zQ 7 ?_;refine qr fun Ql IJ=>?_;refine Qai rfl z3 z5 rfl (by dsimp only[wt,u1,u2]<;>rfl) ?_;refine qa hH fun k5 st LS hH=>?_;refine qS hH aJ fun st hH=>?_;dsimp only[u2,u1,u3,u4,setMany,u5,u6,υ,θ,Pg.cs,aK,ax] at hH;refine zQ 7 ?_;refine qn ?_;simp only[δ];refine zQ 5 ?_;refine ag.mH 36 (.bool (((i.op !=1) &&decide ((i.rs.length:Int)>0))||((i.op !=2) &&(i.y !=0)))) [18,19,20,21,22,23,24,25,26,27,28,29,30,31,32,33,34,35] ?_ (fun ff tmp=>?_)
 ·refine zQ 4 ?_;refine Δ 21 rfl (fun bB=>?_) (fun bB=>?_)
  ·refine zQ 2 ?_;refine qn ?_ (hg:=wi bB);simp only[δ];refine zQ 3 ?_;refine Δ 27 rfl (fun fc=>?_) (fun fc=>?_)
   ·refine zQ 9 ?_;refine π (aX ?_);refine zG ?_
    all_goals(simp_all;done)
   ·refine zQ 4 ?_;refine Δ 31 rfl (fun e6=>?_) (fun e6=>?_)
    ·refine zQ 3 ?_;refine ab.c9 (aj rfl rfl rfl fc) rfl e6 (by dsimp only[wt,u1,u2]<;>rfl) ?_;refine zQ 1 ?_;refine π (aX ?_);refine zG ?_
     all_goals(simp_all;done)
    ·refine zQ 3 ?_;refine ab.c_ (aj rfl rfl rfl fc) rfl e6 (by dsimp only[wt,u1,u2]<;>rfl) ?_;refine zQ 1 ?_;refine π (aX ?_);refine zG ?_
     all_goals(simp_all;done)
  ·refine zQ 10 ?_;refine Δ 31 rfl (fun e6=>?_) (fun e6=>?_)
   ·refine zQ 5 ?_;refine π (aX ?_);refine zG ?_
    all_goals(simp[bB,e6];done)
   ·refine zQ 5 ?_;refine π (aX ?_);refine zG ?_
    all_goals(simp[bB,e6];done)
 dsimp only[aI,ι,nth,u2,u1];generalize ff 18=e18;generalize ff 19=e19;generalize ff 20=e20;generalize ff 21=e21;generalize ff 22=e22;generalize ff 23=e23;generalize ff 24=e24;generalize ff 25=e25;generalize ff 26=e26;generalize ff 27=e27;generalize ff 28=e28;generalize ff 29=e29;generalize ff 30=e30;generalize ff 31=e31;generalize ff 32=e32;generalize ff 33=e33;generalize ff 34=e34;generalize ff 35=e35;have Rt:(i.rs.isEmpty=!decide ((i.rs.length:Int)>0)):=by cases i.rs<;>simp<;>omega
 have hsh:cE p.code.length p.ak.length pc i=if((i.op !=1) &&decide ((i.rs.length:Int)>0))||((i.op !=2) &&(i.y !=0)) then false else
   (if i.op=1 then(decide (((pc+1:Nat):Int)<p.code.length) &&i.x==0) &&eN i.rs
   else if i.op=2 then kC i.x p.code.length &&kC i.y p.code.length
   else if i.op=3 then kC i.x p.code.length
   else if i.op=4 then decide (((pc+1:Nat):Int)<p.code.length) &&kC i.x 10
   else if i.op=5 then decide (((pc+1:Nat):Int)<p.code.length) &&i.x==0
   else if i.op=6 then decide (((pc+1:Nat):Int)<p.code.length) &&i.x==0
   else if i.op=7 then kC i.x p.ak.length
   else false):=by
  unfold cE;rw[Rt];generalize decide ((i.rs.length:Int)>0)=b
  by_cases h1:i.op=1
  ·have h2:i.op≠2:=by omega
   simp only[h1];cases b<;>by_cases hy:i.y=0<;>simp[hy]
  ·by_cases h2:i.op=2
   ·simp only[h2];cases b<;>simp
   ·by_cases Zz:i.op=5
    ·simp only[Zz];cases b<;>by_cases hy:i.y=0<;>simp[hy]
    ·cases b<;>by_cases hy:i.y=0<;>simp[h1,h2,Zz,hy]
 rw[hsh];refine qc (fun h0=>?_) (fun h0=>?_)<;>try simp only[cs] at h0
 ·refine zQ 4 ?_;rw[if_pos h0];refine ag.ret ⟨rx,_,rfl,rl aR hH (rfl)⟩
 ·rw[if_neg (by rw[h0];simp)];refine zQ 13 ?_;refine zI (fun h1=>?_) fun h1=>?_
  ·rw[if_pos h1];refine qq<|ag.mH 4 (.bool ((decide (((pc+1:Nat):Int)<p.code.length) &&(i.x==0)) &&eN i.rs)) [] ?_ (fun ff tmp=>?_)
   ·refine zQ 2 ?_;refine Δ 42 rfl (fun lS=>?_) (fun lS=>?_)
    ·refine zQ 5 ?_;refine Δ 47 rfl (fun kG=>?_) (fun kG=>?_)
     ·refine zQ 2 ?_;refine qv (Ax (RG.rows hH) hil) ?_ (hg:=wi kG);refine zQ 2 ?_;refine π (aX ?_);refine zG ?_
      all_goals(simp[lS,kG];done)
     ·refine zQ 5 ?_;refine π (aX ?_);refine zG ?_
      all_goals(simp[lS,kG];done)
    ·refine zQ 10 ?_;refine π (aX ?_);refine zG ?_
     all_goals(simp[lS];done)
   dsimp only[aI,ι,nth,u2,u1];refine ag.ret ⟨rx,_,rfl,rl aR hH (rfl)⟩
  ·rw[if_neg h1];refine zQ 5 ?_;refine zI (fun h2=>?_) fun h2=>?_
   ·rw[if_pos h2];refine qq<|ag.mH 4 (.bool (kC i.x p.code.length &&kC i.y p.code.length)) [] ?_ (fun ff tmp=>?_)
    ·refine zQ 4 ?_;refine qn ?_;simp only[δ];refine qv (jQ _ _) ?_;refine qm ?_;refine Δ 60 rfl (fun kG=>?_) (fun kG=>?_)
     ·refine zQ 4 ?_;refine qn ?_ (hg:=wi kG);simp only[δ];refine qv (jQ _ _) ?_ (hg:=wi kG);refine zQ 2 ?_;refine π (aX ?_);refine zG ?_
      all_goals(simp[kG];done)
     ·refine zQ 8 ?_;refine π (aX ?_);refine zG ?_
      all_goals(simp[kG];done)
    dsimp only[aI,ι,nth,u2,u1];refine ag.ret ⟨rx,_,rfl,rl aR hH (rfl)⟩
   ·rw[if_neg h2];refine zQ 5 ?_;refine zI (fun h3=>?_) fun h3=>?_
    ·rw[if_pos h3];refine zQ 6 ?_;refine qn ?_;simp only[δ];refine qv (jQ _ _) ?_;refine zQ 2 ?_;refine ag.ret ⟨rx,_,rfl,rl aR hH (rfl)⟩
    ·rw[if_neg h3];refine zQ 5 ?_;refine zI (fun h4=>?_) fun h4=>?_
     ·rw[if_pos h4];refine qq<|ag.mH 4 (.bool (decide (((pc+1:Nat):Int)<p.code.length) &&kC i.x 10)) [] ?_ (fun ff tmp=>?_)
      ·refine zQ 2 ?_;refine Δ 79 rfl (fun lS=>?_) (fun lS=>?_)
       ·refine zQ 2 ?_;refine qv (jQ _ _) ?_ (hg:=wi lS);refine zQ 2 ?_;refine π (aX ?_);refine zG ?_
        all_goals(simp[lS];done)
       ·refine zQ 5 ?_;refine π (aX ?_);refine zG ?_
        all_goals(simp[lS];done)
      dsimp only[aI,ι,nth,u2,u1];refine ag.ret ⟨rx,_,rfl,rl aR hH (rfl)⟩
     ·rw[if_neg h4];refine zQ 6 ?_
      by_cases h5:i.op=5
      ·rw[if_pos h5];refine qD rfl (by simp[h5]) ?_;refine zQ 1 ?_;refine qD rfl (by simp[h5]) ?_;refine qq<|ag.mH 4 (.bool (decide (((pc+1:Nat):Int)<p.code.length) &&(i.x==0))) [] ?_ (fun ff tmp=>?_)
       ·refine zQ 2 ?_;refine Δ 88 rfl (fun lS=>?_) (fun lS=>?_)
        ·refine zQ 5 ?_;refine π (aX ?_);refine zG ?_
         all_goals(simp[lS];done)
        ·refine zQ 5 ?_;refine π (aX ?_);refine zG ?_
         all_goals(simp[lS];done)
       dsimp only[aI,ι,nth,u2,u1];refine ag.ret ⟨rx,_,rfl,rl aR hH (rfl)⟩
      ·rw[if_neg h5];refine qE rfl (by simp[h5]) ?_;refine zQ 4 ?_;refine zI (fun h6=>?_) fun h6=>?_
       ·rw[if_pos h6];refine qq<|ag.mH 4 (.bool (decide (((pc+1:Nat):Int)<p.code.length) &&(i.x==0))) [] ?_ (fun ff tmp=>?_)
        ·refine zQ 2 ?_;refine Δ 88 rfl (fun lS=>?_) (fun lS=>?_)
         ·refine zQ 5 ?_;refine π (aX ?_);refine zG ?_
          all_goals(simp[lS];done)
         ·refine zQ 5 ?_;refine π (aX ?_);refine zG ?_
          all_goals(simp[lS];done)
        dsimp only[aI,ι,nth,u2,u1];refine ag.ret ⟨rx,_,rfl,rl aR hH (rfl)⟩
       ·rw[if_neg h6];refine zQ 5 ?_;refine zI (fun h7=>?_) fun h7=>?_
        ·rw[if_pos h7];refine zQ 6 ?_;refine qn ?_;simp only[δ];refine qv (jQ _ _) ?_;refine zQ 2 ?_;refine ag.ret ⟨rx,_,rfl,rl aR hH (rfl)⟩
        ·rw[if_neg h7];refine zQ 5 ?_;refine ag.ret ⟨rx,_,rfl,rl aR hH (rfl)⟩
end Go.Proofs.YtkbacjpologjbaaGreat
