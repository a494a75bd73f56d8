/-
 Ranges of runes: the canonical form, by plain lists. No program in sight.
-/
import Derived.Test.YtbdnabmmlbiomaaGreatXPx
import Derived.Test.YtbdnabmmlbiomaaGreatXM2
import Derived.KernelRfl
set_option linter.unusedSimpArgs false
set_option linter.unusedVariables false
set_option maxRecDepth 100000
set_option maxHeartbeats 4000000
open Nat renaming reduceAdd→γ,le_of_ble_eq_true→ζ,reduceSub→η
open List renaming getElem?_eq_getElem→δ,length_map→ε,length→θ,mem_cons→ι,length_cons→κ,foldl→μ,mem_cons_self→ν,mem_cons_of_mem→ξ,pairwise_cons→ο,take_of_length_le→π,length_reverse→ρ,length_nil→τ,map→φ,getD_eq_getElem?_getD→ω,take_add_one→Γ,drop_eq_getElem_cons→Ψ,mem_flatMap→QQ,length_append→QX,map_append→QJ,not_mem_nil→Qx,getElem?_map→Qv,mem_append→Qy,drop_succ_cons→Qw,take_succ_cons→QW,reverse_cons→QV,cons_append→QU,length_take→QG,mem_reverse→QH,set_append_right→QB,drop_zero→QD,getElem?_set_ne→QC,take_zero→QP,flatten_cons→QM,mem_map→QN,getLast?_eq_some_getLast→QA,nil_append→QE,pairwise_iff_getElem→QI,map_cons→QO,getElem?_set_self→Qa,pairwise_reverse→Qc,mem_of_getElem?→Qe,mem_of_mem_take→Qf,flatMap_append→Qh,append_assoc→Qn,flatMap_cons→Qo,length_drop→Qr,append_nil→Qs,foldl_cons→Qt,length_set→Qu,Pairwise→J2,map_set→J3
open Go.V.Fr renaming clean→ς,put→υ,get→ψ,ev→Ω,aj→QZ
open Go.V.ab renaming block→χ,skip→Δ,cond→Φ,ret→Qz,exit→Qk,loop→QY,dz→QT,merge→JX
open Go.V.D renaming cells→Θ,ref→J5
open Go.V renaming look→Ξ,Rows→QF
open Go.V.aa renaming nil→Qq,two→QR,ji→Qd,bL→Ql,cA→J0,fS→J4,aF→J6,gX→J7,AB→J9,L7→JQ
open Int renaming le_refl→Qj,lt_or_le→Qb,le_antisymm→J1
open Classical renaming propDecidable→QK
open Go.V.Arg renaming of→QL,pure→J8
open Option renaming some→QS,toList_some→Qg
open Bool renaming not_eq_false'→Qi,not_eq_true'→Qm,and_eq_true→Qp
namespace Go.V
abbrev Rg:=Int×Int
def dR (l:List Rg) (r:Int):Prop:=∃x,x∈l∧x.1≤r∧r≤x.2
theorem eG (r:Int):¬dR [] r:=by rintro⟨x,h,_⟩;cases h
variable{x:Rg}{l a b:List Rg}{r:Int}{m:List Int}
theorem bT:dR (x::l) r↔(x.1≤r∧r≤x.2)∨dR l r:=by
 constructor
 ·rintro⟨y,hy,h⟩
  rcases ι.1 hy with rfl|hy
  ·exact .inl h
  ·exact .inr ⟨y,hy,h⟩
 ·rintro(h|⟨y,hy,h⟩)
  ·exact⟨x,ν ..,h⟩
  ·exact⟨y,ξ _ hy,h⟩
theorem xJ:dR (a++b) r↔dR a r∨dR b r:=by
 constructor
 ·rintro⟨y,hy,h⟩
  rcases Qy.1 hy with hy|hy
  ·exact .inl ⟨y,hy,h⟩
  ·exact .inr ⟨y,hy,h⟩
 ·rintro(⟨y,hy,h⟩|⟨y,hy,h⟩)
  ·exact⟨y,List.mem_append_left _ hy,h⟩
  ·exact⟨y,List.mem_append_right _ hy,h⟩
theorem oT (h:∀x,x∈a↔x∈b) (r:Int):dR a r↔dR b r:=by
 constructor
 ·rintro⟨y,hy,hh⟩;exact⟨y,(h y).1 hy,hh⟩
 ·rintro⟨y,hy,hh⟩;exact⟨y,(h y).2 hy,hh⟩
def canon (l:List Rg):Prop:=(∀x∈l,x.1≤x.2)∧l.Pairwise fun x y=>x.2+1<y.1
theorem kP (h:canon (x::l)):canon l∧x.1≤x.2∧∀r,dR l r→x.2+1<r:=by
 obtain⟨h1,h2⟩:=h;rw[ο] at h2;refine⟨⟨fun y hy=>h1 y (ξ _ hy),h2.2⟩,h1 x (ν ..),?_⟩;rintro r ⟨y,hy,h3,h4⟩;have:=h2.1 y hy;omega
theorem og:∀{a b:List Rg},canon a→canon b→(∀r,dR a r↔dR b r)→a=b
 |[],[],_,_,_=>rfl
 |[],y::b,_,hb,h=>by
  obtain⟨_,h1,_⟩:=kP hb;exact absurd ((h y.1).2 (bT.2 (.inl ⟨Qj _,h1⟩))) (eG _)
 |x::a,[],ha,_,h=>by
  obtain⟨_,h1,_⟩:=kP ha;exact absurd ((h x.1).1 (bT.2 (.inl ⟨Qj _,h1⟩))) (eG _)
 |x::a,y::b,ha,hb,h=>by
  obtain⟨ca,xa,fa⟩:=kP ha;obtain⟨cb,yb,fb⟩:=kP hb
  have low:∀{x y:Rg} {a b:List Rg},x.1≤x.2→(∀r,dR b r→y.2+1<r)→y.1≤y.2→(∀r,dR (x::a) r→dR (y::b) r)→y.1≤x.1:=by
   intro x y a b hx hf hy hh
   rcases bT.1 (hh x.1 (bT.2 (.inl ⟨Qj _,hx⟩))) with h|h
   ·exact h.1
   ·have:=hf _ h;omega
  have e1:x.1=y.1:=J1 (low yb fa xa fun r=>(h r).2) (low xa fb yb fun r=>(h r).1)
  have up:∀{x y:Rg} {a b:List Rg},x.1≤x.2→x.1=y.1→(∀r,dR a r→x.2+1<r)→(∀r,dR (y::b) r→dR (x::a) r)→y.2≤x.2:=by
   intro x y a b hx he hf hh
   rcases Qb x.2 y.2 with h'|h'
   ·rcases bT.1 (hh (x.2+1) (bT.2 (.inl ⟨by omega,by omega⟩))) with h|h
    ·omega
    ·have:=hf _ h;omega
   ·exact h'
  have e2:x.2=y.2:=J1 (up yb e1.symm fb fun r=>(h r).1) (up xa e1 fa fun r=>(h r).2);have e:x=y:=Prod.ext e1 e2;subst e
  congr 1
  refine og ca cb fun r=>⟨fun hr=>?_,fun hr=>?_⟩
  ·have:=fa r hr
   rcases bT.1 ((h r).1 (bT.2 (.inr hr))) with h|h
   ·omega
   ·exact h
  ·have:=fb r hr
   rcases bT.1 ((h r).2 (bT.2 (.inr hr))) with h|h
   ·omega
   ·exact h
def ec (acc:List Rg) (r:Rg):List Rg:=
 match acc with
 |[]=>[r]
 |k::rest=>if r.1≤k.2+1 then(k.1,max k.2 r.2)::rest else r::k::rest
theorem nP:∀(l acc:List Rg),(∀x∈l,x.1≤x.2)→l.Pairwise (fun x y=>x.1≤y.1)→(∀k∈acc.head?,∀x∈l,k.1≤x.1)→(∀x∈acc,x.1≤x.2)→acc.Pairwise (fun x y=>y.2+1<x.1)→
  (∀x∈l.foldl ec acc,x.1≤x.2)∧(l.foldl ec acc).Pairwise (fun x y=>y.2+1<x.1)∧∀r,dR (l.foldl ec acc) r↔dR acc r∨dR l r
 |[],acc,_,_,_,h1,h2=>⟨h1,h2,fun r=>⟨.inl,fun h=>h.resolve_right (eG r)⟩⟩
 |x::l,acc,hl,hp,hk,h1,h2=>by
  rw[ο] at hp;have hx:=hl x (ν ..);have gP:∀y∈l,y.1≤y.2:=fun y hy=>hl y (ξ _ hy);rw[Qt]
  cases acc with
  |nil=>
   obtain⟨g1,g2,g3⟩:=nP l [x] gP hp.2 (fun k kM y hy=>by simp at kM;subst kM;exact hp.1 y hy) (fun y hy=>by simp at hy;subst hy;exact hx) (by simp);refine⟨g1,g2,fun r=>(g3 r).trans ?_⟩;rw[bT (l:=l),bT (l:=[])];constructor
   ·rintro((h|h)|h)
    ·exact .inr (.inl h)
    ·exact absurd h (eG r)
    ·exact .inr (.inr h)
   ·rintro(h|h|h)
    ·exact absurd h (eG r)
    ·exact .inl (.inl h)
    ·exact .inr h
  |cons k rest=>
   have hkx:=hk k rfl x (ν ..);have hkk:=h1 k (ν ..);rw[ο] at h2;unfold ec
   by_cases hc:x.1≤k.2+1
   ·simp only[if_pos hc]
    obtain⟨g1,g2,g3⟩:=nP l ((k.1,max k.2 x.2)::rest) gP hp.2 (fun q hq y hy=>by simp at hq;subst hq;have:=hp.1 y hy;simp only;omega) (fun y hy=>by
     rcases ι.1 hy with rfl|hy
     ·simp only;omega
     ·exact h1 y (ξ _ hy)) (by rw[ο];exact⟨h2.1,h2.2⟩)
    refine⟨g1,g2,fun r=>(g3 r).trans ?_⟩;rw[bT (l:=rest),bT (l:=rest),bT (l:=l)];constructor
    ·rintro((h|h)|h)
     ·simp only at h
      by_cases hr:r≤k.2
      ·exact .inl (.inl ⟨h.1,hr⟩)
      ·exact .inr (.inl ⟨by omega,by omega⟩)
     ·exact .inl (.inr h)
     ·exact .inr (.inr h)
    ·rintro((h|h)|h|h)
     ·exact .inl (.inl ⟨h.1,by simp only;omega⟩)
     ·exact .inl (.inr h)
     ·exact .inl (.inl ⟨by simp only;omega,by simp only;omega⟩)
     ·exact .inr h
   ·simp only[if_neg hc]
    obtain⟨g1,g2,g3⟩:=nP l (x::k::rest) gP hp.2 (fun q hq y hy=>by simp at hq;subst hq;exact hp.1 y hy) (fun y hy=>by
     rcases ι.1 hy with rfl|hy
     ·exact hx
     ·exact h1 y hy) (by
     rw[ο];refine⟨fun y hy=>?_,by rw[ο];exact h2⟩
     rcases ι.1 hy with rfl|hy
     ·omega
     ·have:=h2.1 y hy;omega)
    refine⟨g1,g2,fun r=>(g3 r).trans ?_⟩;rw[bT (l:=k::rest),bT (l:=l)];constructor
    ·rintro((h|h)|h)
     ·exact .inr (.inl h)
     ·exact .inl h
     ·exact .inr (.inr h)
    ·rintro(h|h|h)
     ·exact .inl (.inr h)
     ·exact .inl (.inl h)
     ·exact .inr h
theorem zK (h1:∀x∈l,x.1≤x.2) (h2:l.Pairwise fun x y=>x.1≤y.1):canon (l.foldl ec []).reverse∧∀r,dR (l.foldl ec []).reverse r↔dR l r:=by
 obtain⟨g1,g2,g3⟩:=nP l [] h1 h2 (fun k hk=>by simp at hk) (fun x hx=>by simp at hx) J2.nil;refine⟨⟨fun x hx=>g1 x (QH.1 hx),by rw[Qc];exact g2⟩,fun r=>?_⟩;rw[oT (fun x=>QH) r,g3 r];exact⟨fun h=>h.resolve_left (eG r),.inr⟩
def iw (r:Int):Prop:=0≤r∧r≤1114111∧¬(55296≤r∧r≤57343)
def er (x:Rg):List Rg:=
 (if max (max x.1 0) 0≤min (min x.2 1114111) 55295 then[(max (max x.1 0) 0,min (min x.2 1114111) 55295)] else[])++
 (if max (max x.1 0) 57344≤min (min x.2 1114111) 1114111 then[(max (max x.1 0) 57344,min (min x.2 1114111) 1114111)] else[])
theorem rz (x:Rg) (r:Int):dR (er x) r↔iw r∧x.1≤r∧r≤x.2:=by
 unfold er iw;rw[xJ]
 have one:∀(a b:Int),dR (if a≤b then[(a,b)] else[]) r↔a≤r∧r≤b:=by
  intro a b
  split
  ·rw[bT];exact⟨fun h=>h.elim id fun h=>absurd h (eG r),.inl⟩
  ·exact⟨fun h=>absurd h (eG r),fun h=>by omega⟩
 rw[one,one];omega
theorem oE (x:Rg):∀y∈er x,y.1≤y.2∧0≤y.1∧y.2≤1114111:=by
 intro y hy;unfold er at hy
 rcases Qy.1 hy with h|h<;>split at h<;>simp at h<;>subst h<;>simp only<;>omega
theorem rW {all:List Rg} (hp:∀x,x∈all↔x∈l.flatMap er) (hs:all.Pairwise fun x y=>x.1≤y.1):canon (all.foldl ec []).reverse∧∀r,dR (all.foldl ec []).reverse r↔iw r∧dR l r:=by
 have hle:∀x∈all,x.1≤x.2:=fun x hx=>by
  obtain⟨y,_,hy⟩:=QQ.1 ((hp x).1 hx);exact(oE y x hy).1
 obtain⟨g1,g2⟩:=zK hle hs;refine⟨g1,fun r=>(g2 r).trans ((oT hp r).trans ?_)⟩;constructor
 ·rintro⟨y,hy,h⟩;obtain⟨x,hx,hy⟩:=QQ.1 hy;have:=(rz x r).1 ⟨y,hy,h⟩;exact⟨this.1,x,hx,this.2⟩
 ·rintro⟨hr,x,hx,h⟩;obtain⟨y,hy,h'⟩:=(rz x r).2 ⟨hr,h⟩;exact⟨y,QQ.2 ⟨x,hx,hy⟩,h'⟩
def iA:List Rg→Int→Bool
 |[],_=>false
 |x::l,r=>(decide (x.1≤r) &&decide (r≤x.2))||iA l r
theorem sG:∀(l:List Rg) (r:Int),iA l r=true↔dR l r
 |[],r=>⟨fun h=>(by cases h),fun h=>absurd h (eG r)⟩
 |x::l,r=>by
  rw[bT,←sG l r];simp[iA]
def iG (x:Rg):List Int:=
 (if x.1≤x.2∧0≤x.1∧x.1≤1114111 then[x.1] else[])++(if x.1≤x.2∧0≤x.2∧x.2<1114111 then[x.2+1] else[])
def e5 (acc:List Rg) (lo hi:Int):List Rg:=
 match acc with
 |[]=>[(lo,hi)]
 |k::rest=>if k.2+1=lo then(k.1,hi)::rest else(lo,hi)::k::rest
def S4 (l:List Rg) (yes:Bool) (a b:Int):Bool:=decide (a<b) &&(decide (a<55296)||decide (57343<a)) &&(iA l a==yes)
def fR (l:List Rg) (yes:Bool):List Int→List Rg→List Rg
 |a::b::t,acc=>fR l yes (b::t) (if S4 l yes a b=true then e5 acc a (b-1) else acc)
 |_,acc=>acc
theorem Na {m:List Int} {a b:Int} (hm:∀x∈l,∀e∈iG x,e≤a∨b≤e) (h1:55296≤a∨b≤55296) (h2:57344≤a∨b≤57344) (ha:0≤a) (hb:b≤1114112) (hr:a≤r) (X8:r<b):
  (iw r↔¬(55296≤a∧a≤57343))∧(dR l r↔dR l a):=by
 refine⟨by unfold iw;omega,?_,?_⟩
 ·rintro⟨x,hx,h3,h4⟩;refine⟨x,hx,?_,by omega⟩
  rcases Qb a x.1 with h|h
  ·have:=hm x hx x.1 (by unfold iG;rw[if_pos (by omega)];simp);omega
  ·exact h
 ·rintro⟨x,hx,h3,h4⟩;refine⟨x,hx,by omega,?_⟩
  rcases Qb x.2 r with h|h
  ·have:=hm x hx (x.2+1) (by unfold iG;rw[if_pos (c:=x.1≤x.2∧0≤x.2∧x.2<1114111) (by omega)];simp);omega
  ·exact h
theorem D3 {acc:List Rg} {lo hi:Int} (h1:∀x∈acc,x.1≤x.2) (h2:acc.Pairwise (fun x y=>y.2+1<x.1)) (h3:∀x∈acc,x.2<lo) (h4:lo≤hi):
  (∀x∈e5 acc lo hi,x.1≤x.2)∧(e5 acc lo hi).Pairwise (fun x y=>y.2+1<x.1)∧(∀x∈e5 acc lo hi,x.2≤hi)∧∀r,dR (e5 acc lo hi) r↔dR acc r∨(lo≤r∧r≤hi):=by
 cases acc with
 |nil=>
  refine⟨by simp[e5,h4],by simp[e5],by simp[e5],fun r=>?_⟩;simp only[e5];rw[bT];exact⟨fun h=>.inr (h.resolve_right (eG r)),fun h=>.inl (h.resolve_left (eG r))⟩
 |cons k rest=>
  have hk:=h1 k (ν ..);have qX:=h3 k (ν ..);rw[ο] at h2;unfold e5
  by_cases hc:k.2+1=lo
  ·simp only[if_pos hc];refine⟨fun x hx=>?_,?_,fun x hx=>?_,fun r=>?_⟩
   ·rcases ι.1 hx with rfl|hx
    ·simp only;omega
    ·exact h1 x (ξ _ hx)
   ·rw[ο];exact⟨h2.1,h2.2⟩
   ·rcases ι.1 hx with rfl|hx
    ·simp
    ·have:=h3 x (ξ _ hx);omega
   ·rw[bT (l:=rest),bT (l:=rest)];simp only;constructor
    ·rintro(h|h)
     ·by_cases hh:r≤k.2
      ·exact .inl (.inl ⟨h.1,hh⟩)
      ·exact .inr (by omega)
     ·exact .inl (.inr h)
    ·rintro((h|h)|h)
     ·exact .inl (by omega)
     ·exact .inr h
     ·exact .inl (by omega)
  ·simp only[if_neg hc];refine⟨fun x hx=>?_,?_,fun x hx=>?_,fun r=>?_⟩
   ·rcases ι.1 hx with rfl|hx
    ·exact h4
    ·exact h1 x hx
   ·rw[ο];refine⟨fun y hy=>?_,by rw[ο];exact h2⟩
    rcases ι.1 hy with rfl|hy
    ·simp only;omega
    ·have:=h2.1 y hy;simp only;omega
   ·rcases ι.1 hx with rfl|hx
    ·exact Qj _
    ·have:=h3 x hx;omega
   ·rw[bT];exact⟨fun h=>h.elim .inr .inl,fun h=>h.elim .inr .inl⟩
theorem oP (l:List Rg) (yes:Bool):∀(m:List Int) (acc:List Rg),m.Pairwise (·≤·)→(∀a∈m,0≤a∧a≤1114112)→
  (∀q:Int,(q=55296∨q=57344∨∃x∈l,q∈iG x)→q∈m∨∀a∈m,q≤a)→(∀x∈acc,x.1≤x.2)→acc.Pairwise (fun x y=>y.2+1<x.1)→(∀x∈acc,∀a∈m.head?,x.2<a)→
  (∀x∈fR l yes m acc,x.1≤x.2)∧(fR l yes m acc).Pairwise (fun x y=>y.2+1<x.1)∧
  ∀r,dR (fR l yes m acc) r↔dR acc r∨(iw r∧(dR l r↔yes=true)∧(∃a∈m.head?,a≤r)∧∃b∈m.getLast?,r<b)
 |[],acc,_,_,_,h1,h2,_=>⟨h1,h2,fun r=>⟨.inl,fun h=>h.elim id (by rintro⟨_,_,⟨a,h,_⟩,_⟩;simp at h)⟩⟩
 |[a],acc,_,_,_,h1,h2,_=>⟨h1,h2,fun r=>⟨.inl,fun h=>h.elim id (by rintro⟨_,_,⟨a',h,h'⟩,b,hb,eF⟩;simp at h hb;omega)⟩⟩
 |a::b::t,acc,hs,hr,hm,h1,h2,h3=>by
  have NB:=hs;rw[ο] at hs;have hab:a≤b:=hs.1 b (ν ..);have ha:=hr a (ν ..);have hb:=hr b (ξ _ (ν ..))
  have key:∀q:Int,(q=55296∨q=57344∨∃x∈l,q∈iG x)→q≤a∨b≤q:=by
   intro q hq
   rcases hm q hq with h|h
   ·rcases ι.1 h with rfl|h
    ·exact .inl (Qj _)
    ·rcases ι.1 h with rfl|h
     ·exact .inr (Qj _)
     ·have:=(ο.1 hs.2).1 q h;exact .inr this
   ·exact .inl (h a (ν ..))
  have hbt:∀r,a≤r→r<b→(iw r↔¬(55296≤a∧a≤57343))∧(dR l r↔dR l a):=fun r h h'=>
   Na (m:=[]) (fun x hx e he=>key e (.inr (.inr ⟨x,hx,he⟩))) (by have:=key 55296 (.inl rfl);omega) (by have:=key 57344 (.inr (.inl rfl));omega) ha.1 hb.2 h h'
  have hm':∀q:Int,(q=55296∨q=57344∨∃x∈l,q∈iG x)→q∈b::t∨∀c∈b::t,q≤c:=by
   intro q hq
   rcases hm q hq with h|h
   ·rcases ι.1 h with rfl|h
    ·exact .inr hs.1
    ·exact .inl h
   ·exact .inr fun c hc=>h c (ξ _ hc)
  have Bn:∀c∈b::t,0≤c∧c≤1114112:=fun c hc=>hr c (ξ _ hc);have pO:∀r,(∃e∈(a::b::t).getLast?,r<e)↔∃e∈(b::t).getLast?,r<e:=fun r=>by rw[List.getLast?_cons_cons]
  have hbl:∃e∈(b::t).getLast?,b≤e:=by
   refine⟨(b::t).getLast (by simp),by rw[QA (by simp)];simp,?_⟩;have:=List.getLast_mem (l:=b::t) (by simp)
   rcases ι.1 this with h|h
   ·rw[h];exact Qj _
   ·exact(ο.1 hs.2).1 _ h
  have bA:S4 l yes a b=true↔a<b∧¬(55296≤a∧a≤57343)∧(dR l a↔yes=true):=by
   unfold S4;rw[←sG];cases iA l a<;>cases yes<;>simp<;>omega
  unfold fR
  by_cases hc:S4 l yes a b=true
  ·rw[if_pos hc];obtain⟨c1,c2,c3⟩:=bA.1 hc;obtain⟨p1,p2,p3,p4⟩:=D3 h1 h2 (fun x hx=>h3 x hx a rfl) (show a≤b-1 by omega);obtain⟨g1,g2,g3⟩:=oP l yes (b::t) _ hs.2 Bn hm' p1 p2 (fun x hx c hc=>by simp at hc;subst hc;have:=p3 x hx;omega);refine⟨g1,g2,fun r=>(g3 r).trans ?_⟩;rw[p4,pO];constructor
   ·rintro((h|h)|⟨h4,h5,⟨c,hc,h6⟩,h7⟩)
    ·exact .inl h
    ·obtain⟨k1,k2⟩:=hbt r h.1 (by omega);obtain⟨e,he,hbe⟩:=hbl;exact .inr ⟨k1.2 c2,k2.trans c3,⟨a,rfl,h.1⟩,e,he,by omega⟩
    ·simp at hc;subst hc;exact .inr ⟨h4,h5,⟨a,rfl,by omega⟩,h7⟩
   ·rintro(h|⟨h4,h5,⟨c,hc,h6⟩,h7⟩)
    ·exact .inl (.inl h)
    ·simp at hc;subst hc
     by_cases X8:r<b
     ·exact .inl (.inr (by omega))
     ·exact .inr ⟨h4,h5,⟨b,rfl,by omega⟩,h7⟩
  ·rw[if_neg hc];obtain⟨g1,g2,g3⟩:=oP l yes (b::t) acc hs.2 Bn hm' h1 h2 (fun x hx c hc=>by simp at hc;subst hc;have:=h3 x hx a rfl;omega);refine⟨g1,g2,fun r=>(g3 r).trans ?_⟩;rw[pO];constructor
   ·rintro(h|⟨h4,h5,⟨c,hc,h6⟩,h7⟩)
    ·exact .inl h
    ·simp at hc;subst hc;exact .inr ⟨h4,h5,⟨a,rfl,by omega⟩,h7⟩
   ·rintro(h|⟨h4,h5,⟨c,Aa,h6⟩,h7⟩)
    ·exact .inl h
    ·simp at Aa;subst Aa
     by_cases X8:r<b
     ·exfalso
      obtain⟨k1,k2⟩:=hbt r h6 X8;exact hc (bA.2 ⟨by omega,k1.1 h4,k2.symm.trans h5⟩)
     ·exact .inr ⟨h4,h5,⟨b,rfl,by omega⟩,h7⟩
theorem tE (yes:Bool) (hp:∀q,q∈m↔q=0∨q=55296∨q=57344∨q=1114112∨∃x∈l,q∈iG x) (hs:m.Pairwise (·≤·)):
  canon (fR l yes m []).reverse∧∀r,dR (fR l yes m []).reverse r↔iw r∧(dR l r↔yes=true):=by
 have hr:∀a∈m,0≤a∧a≤1114112:=by
  intro a ha
  rcases(hp a).1 ha with h|h|h|h|⟨x,hx,h⟩
  ·omega
  ·omega
  ·omega
  ·omega
  ·unfold iG at h
   rcases Qy.1 h with h|h<;>split at h<;>simp at h<;>omega
 obtain⟨g1,g2,g3⟩:=oP l yes m [] hs hr (fun q hq=>.inl ((hp q).2 (by rcases hq with h|h|h;exact .inr (.inl h);exact .inr (.inr (.inl h));exact .inr (.inr (.inr (.inr h)))))) (fun x hx=>by simp at hx) J2.nil (fun x hx=>by simp at hx);have h0:(0:Int)∈m:=(hp 0).2 (.inl rfl);have h9:(1114112:Int)∈m:=(hp _).2 (.inr (.inr (.inr (.inl rfl))))
 have hh:∃a∈m.head?,a≤0:=by
  cases m with
  |nil=>cases h0
  |cons a t=>
   refine⟨a,rfl,?_⟩
   rcases ι.1 h0 with h|h
   ·omega
   ·exact(ο.1 hs).1 _ h
 have hl:∃b∈m.getLast?,1114112≤b:=by
  have hne:m≠[]:=List.ne_nil_of_mem h0;refine⟨m.getLast hne,by rw[QA hne];simp,?_⟩;obtain⟨i,hi,he⟩:=List.getElem_of_mem h9;rw[List.getLast_eq_getElem,←he]
  rcases Nat.lt_or_ge i (m.length-1) with h|h
  ·exact(QI.1 hs) i (m.length-1) hi (by omega) h
  ·have:i=m.length-1:=by omega
   subst this;exact Qj _
 refine⟨⟨fun x hx=>g1 x (QH.1 hx),by rw[Qc];exact g2⟩,fun r=>?_⟩;rw[oT (fun x=>QH) r,g3 r];constructor
 ·rintro(h|⟨h1,h2,_⟩)
  ·exact absurd h (eG r)
  ·exact⟨h1,h2⟩
 ·rintro⟨h1,h2⟩;obtain⟨a,ha,ha'⟩:=hh;obtain⟨b,hb,eF⟩:=hl;have:=h1;unfold iw at this;exact .inr ⟨h1,h2,⟨a,ha,by omega⟩,b,hb,by omega⟩
end Go.V
namespace Go.Proofs.YtbdnabmmlbiomaaGreat
open Go.V Go
def lO (fr:Go.V.Fr) (k:Nat):Go.V.D:=Go.V.nth .bD fr.loc k
def ax (x:Rg):List D:=[.int .i32 x.1,.int .i32 x.2]
def bS (l:List Rg):D:=.sl (l.map fun x=>.agg (ax x))
theorem gW (l:List Rg):D.sl ((l.map ax).map (jR 2))=bS l:=by
 unfold bS;rw[List.map_map];rfl
theorem eo (l:List Rg):∀e∈l.map ax,∀d∈e,cv d=true:=by
 intro e he d hd;obtain⟨x,_,rfl⟩:=QN.1 he;simp only[ax,ι,Qx,or_false] at hd
 rcases hd with rfl|rfl<;>rfl
theorem zn (l:List Rg):refs (l.map ax).flatten=0:=by
 induction l with
 |nil=>rfl
 |cons x l ih=>simp only[QO,QM,ax,QU,QE,refs,J5,ih];rfl
theorem ma (l:List Rg):∀e∈l.map ax,e.length=2:=by
 intro e he;obtain⟨x,_,rfl⟩:=QN.1 he;rfl
theorem fh (st:St) (l:List Rg):QF st 2 (bS l) (l.map ax):=by
 rw[←gW];exact Rows.nF (ma l) (eo l)
variable{l a:List Rg}{i N k:Nat}{r:Int}{s0 S st:St}{x:D}{H:List bJ}{m:List Int}
theorem dZ {q:Rg} (h:l[i]?=some q):(l.map ax)[i]?=some (ax q):=by rw[Qv,h];rfl
theorem uJ (l:List Rg) (q:Rg) (r:Int):iA (l++[q]) r=(iA l r||(decide (q.1≤r) &&decide (r≤q.2))):=by
 induction l with
 |nil=>simp[iA]
 |cons x l ih=>simp only[QU,iA,ih,Bool.or_assoc]
theorem ym (h:iA (l.take i) r=true):iA l r=true:=by
 rw[sG] at h⊢;obtain⟨x,h1,h2⟩:=h;exact⟨x,Qf h1,h2⟩
theorem oL (hx:QF s0 2 x (l.map ax)) (hl:l.length≤1073741824):Ev pv 70 [x,.int .i32 r] s0 (.bool (iA l r)) s0:=by
 refine Ev.h_ rfl ZK rfl rfl rfl ?_;dsimp only[u3,u4,θ,η,γ,w1,w2];obtain⟨bt,hF,hH⟩:=ri s0;generalize ah .ro s0=S at*;have hx:=QL hx bt;refine qq<|qj fun K hK=>qm ?_;refine qe hK<|qq<|qq<|qj fun K hK=>qm ?_;refine qe hK<|χ<|QY (fun mm fr st=>∃(i:Nat),fr.clean=⟨6,[x,.int .i32 r,lO fr 2,lO fr 3,.bool false,.int .i64 (i:Nat)],[]⟩∧Has s0.bs.length S st []∧(i+mm=l.length)∧(iA (l.take i) r=false)) (l.length) ?_ ?_
 ·exact⟨0,rfl,hH,by omega,rfl⟩
 rintro mm fr st ⟨i,hfr,hH,hi,hn⟩;rw[hfr];clear hfr;generalize lO fr=ee;clear fr;refine qq<|qq<|qj fun K hK=>qm ?_;refine qm ?_;refine qn ?_;simp only[ε];refine qg ?_;refine qe hK ?_;refine Φ (by rfl) (fun h1=>?_) (fun h1=>?_)<;>try simp only[decide_eq_true_eq,decide_eq_false_iff_not] at h1
 ·refine Δ ?_
  obtain⟨q,hq⟩:∃q,l[i]?=some q:=⟨l[i]'(by omega),δ _⟩
  have hr:=dZ hq;refine qq<|χ<|qq<|QT 27 (.bool (decide (r≥q.1) &&decide (r≤q.2))) [] ?_ (fun ff tmp cY=>?_)
  ·refine qm ?_;refine qm ?_;refine qm ?_;refine qr fun WJ Mz=>?_;refine qf (fo:=0) fun p16 UK=>?_;refine qR ?_;refine qg ?_;refine qm ?_;refine QR 19 rfl (fun gC=>?_) (fun gC=>?_)
   ·refine qm ?_ (hg:=wi gC);refine qm ?_ (hg:=wi gC);refine qm ?_ (hg:=wi gC);refine qr (fun Xz RW=>?_) (hg:=wi gC);refine qf (fo:=1) (fun Q9 zS=>?_) (hg:=wi gC);refine qR ?_ (hg:=wi gC);refine qg ?_ (hg:=wi gC);refine qt gC ?_;refine Qq (aY ?_ ?_)
    ·dsimp only[aB,μ,nth,u2,u1]
     all_goals(first|rfl|simp)
    ·dsimp only[QZ,υ,ς,Ω,ψ,nth,Ξ,u1,u2,v1,v2,v3,v4,v5,v6,v7,θ,u3,u4,η,γ,φ]
     all_goals(simp[gC];done)
   ·refine qs ?_ (hg:=wn gC);refine qs ?_ (hg:=wn gC);refine qs ?_ (hg:=wn gC);refine qs ?_ (hg:=wn gC);refine qs ?_ (hg:=wn gC);refine qs ?_ (hg:=wn gC);refine qs ?_ (hg:=wn gC);refine qu gC ?_;refine Qq (aY ?_ ?_)
    ·dsimp only[aB,μ,nth,u2,u1]
     all_goals(first|rfl|simp)
    ·dsimp only[QZ,υ,ς,Ω,ψ,nth,Ξ,u1,u2,v1,v2,v3,v4,v5,v6,v7,θ,u3,u4,η,γ,φ]
     all_goals(simp[gC];done)
  dsimp only[aB,μ,nth,u2,u1];dsimp only[QZ,υ,ς,Ω,ψ,nth,Ξ,u1,u2,v1,v2,v3,v4,v5,v6,v7,θ,u3,u4,η,γ,φ]
  have ht:iA (l.take (i+1)) r=(decide (r≥q.1) &&decide (r≤q.2)):=by
   rw[Γ,hq,Qg,uJ,hn];simp
  refine qc (fun h2=>?_) (fun h2=>?_)<;>try simp only[cs] at h2
  ·refine qq<|qj fun K hK=>qm ?_;refine qe hK ?_;rw[ym (i:=i+1) (by rw[ht];simp[h2])];refine Qz ⟨rx,_,rfl,rl bt hH (rfl)⟩
  ·refine Δ<|qj fun K hK=>qm ?_;refine qA ?_;refine qm ?_;refine qe hK ?_;exact⟨mm-1,by omega,⟨i+1,rfl,hH,by omega,by rw[ht];simp[h2]⟩⟩
 ·refine Qk<|qq<|qj fun K hK=>qm ?_;refine qe hK ?_;have:iA l r=false:=by rw[←hn,π (by omega)]
  rw[this];refine Qz ⟨rx,_,rfl,rl bt hH (rfl)⟩
theorem E_ (hx:QF s0 2 x (l.map ax)) (hl:l.length≤1073741824):Ev pv 108 [x,.int .i32 r] s0 (.bool (iA l r)) s0:=by
 refine Ev.h_ rfl Wj rfl rfl rfl ?_;dsimp only[u3,u4,θ,η,γ,w1,w2];obtain⟨bt,hF,hH⟩:=ri s0;generalize ah .ro s0=S at*;have hx:=QL hx bt;refine qq<|qj fun K hK=>qm ?_;refine qe hK<|qq<|qq<|qj fun K hK=>qm ?_;refine qn ?_;simp only[ε];refine qm ?_;refine qe hK<|χ<|QY (fun mm fr st=>∃(i:Nat),fr.clean=⟨10,[x,.int .i32 r,lO fr 2,lO fr 3,.bool false,lO fr 5,lO fr 6,x,.int .i64 (l.length:Nat),.int .i64 (i:Nat)],[]⟩∧Has s0.bs.length S st []∧(i+mm=l.length)∧(iA (l.take i) r=false)) (l.length) ?_ ?_
 ·exact⟨0,rfl,hH,by omega,rfl⟩
 rintro mm fr st ⟨i,hfr,hH,hi,hn⟩;rw[hfr];clear hfr;generalize lO fr=ee;clear fr;refine qq<|qj fun K hK=>qg ?_;refine qe hK<|qq ?_;refine Φ (by rfl) (fun h1=>?_) (fun h1=>?_)<;>try simp only[decide_eq_true_eq,decide_eq_false_iff_not] at h1
 ·refine Δ ?_
  obtain⟨q,hq⟩:∃q,l[i]?=some q:=⟨l[i]'(by omega),δ _⟩
  have hr:=dZ hq;refine qq<|χ<|qq<|qj fun K hK=>qr fun p11 UP=>?_;refine J0 rfl (ev rfl) (by assumption) rfl (ae rfl _) ?_;refine qa hH fun k6 st F9 hH=>?_;refine qS hH av fun st hH=>?_;dsimp only[u2,u1,u3,u4,setMany,u5,u6,Θ,γ,ax] at hH;refine qe hK<|qq<|QT 22 (.bool (decide (r≥q.1) &&decide (r≤q.2))) [] ?_ (fun ff tmp cY=>?_)
  ·refine qm ?_;refine qp (o:=0) ?_;refine ql hH av ?_;refine qg ?_;refine qm ?_;refine QR 17 rfl (fun cx=>?_) (fun cx=>?_)
   ·refine qm ?_ (hg:=wi cx);refine qp (o:=1) ?_ (hg:=wi cx);refine ql hH av ?_ (hg:=wi cx);refine qg ?_ (hg:=wi cx);refine qt cx ?_;refine Qq (aY ?_ ?_)
    ·dsimp only[aB,μ,nth,u2,u1]
     all_goals(first|rfl|simp)
    ·dsimp only[QZ,υ,ς,Ω,ψ,nth,Ξ,u1,u2,v1,v2,v3,v4,v5,v6,v7,θ,u3,u4,η,γ,φ]
     all_goals(simp[cx];done)
   ·refine qs ?_ (hg:=wn cx);refine qs ?_ (hg:=wn cx);refine qs ?_ (hg:=wn cx);refine qs ?_ (hg:=wn cx);refine qu cx ?_;refine Qq (aY ?_ ?_)
    ·dsimp only[aB,μ,nth,u2,u1]
     all_goals(first|rfl|simp)
    ·dsimp only[QZ,υ,ς,Ω,ψ,nth,Ξ,u1,u2,v1,v2,v3,v4,v5,v6,v7,θ,u3,u4,η,γ,φ]
     all_goals(simp[cx];done)
  dsimp only[aB,μ,nth,u2,u1];dsimp only[QZ,υ,ς,Ω,ψ,nth,Ξ,u1,u2,v1,v2,v3,v4,v5,v6,v7,θ,u3,u4,η,γ,φ]
  have ht:iA (l.take (i+1)) r=(decide (r≥q.1) &&decide (r≤q.2)):=by
   rw[Γ,hq,Qg,uJ,hn];simp
  refine qc (fun h2=>?_) (fun h2=>?_)<;>try simp only[cs] at h2
  ·refine qq<|qj fun K hK=>qm ?_;refine qe hK ?_;rw[ym (i:=i+1) (by rw[ht];simp[h2])];refine Qz ⟨rx,_,rfl,rl bt hH (rfl)⟩
  ·refine Δ<|qj fun K hK=>qA ?_;refine qm ?_;refine qe hK ?_;exact⟨mm-1,by omega,⟨i+1,rfl,(hH.drop 1),by omega,by rw[ht];simp[h2]⟩⟩
 ·refine Qk<|qq<|qj fun K hK=>qm ?_;refine qe hK ?_;have:iA l r=false:=by rw[←hn,π (by omega)]
  rw[this];refine Qz ⟨rx,_,rfl,rl bt hH (rfl)⟩
def br (fr:Go.V.Fr) (k:Nat):Go.V.D:=Go.V.nth .bD fr.loc k
def fY:List Rg:=[(0,55295),(57344,1114111)]
def tG (lo hi:Int) (p:Rg):List Rg:=if max lo p.1≤min hi p.2 then[(max lo p.1,min hi p.2)] else[]
theorem vh (q:Rg):er q=fY.flatMap (tG (max q.1 0) (min q.2 1114111)):=by
 simp[er,fY,tG]
theorem DN (q:Rg):Ev pv 153 [.agg (ax q)] s0 (bS (er q)) s0:=by
 refine Ev.h_ rfl VS rfl rfl rfl ?_;dsimp only[u3,u4,θ,η,γ,w1,w2];obtain⟨bt,hF,hH⟩:=ri s0;generalize ah .ro s0=S at*;refine qq<|qj fun K hK=>qb hH fun k1 st qY hH=>?_;dsimp only[u2,u1,u3,u4,setMany,u5,u6,Θ,γ,ax] at hH;refine qm ?_;refine qe hK<|qq<|qj fun K hK=>qp (o:=0) ?_;refine ql hH av ?_;refine JQ (t1:=0) (t2:=0) rfl (ev rfl) (ev rfl) (by dsimp only[υ,u1,u2]<;>rfl) ?_;refine qp (o:=1) ?_;refine ql hH av ?_;refine aa.L6 (t1:=0) (t2:=0) rfl (ev rfl) (ev rfl) (by dsimp only[υ,u1,u2]<;>rfl) ?_;refine qp (o:=0) ?_;refine qT hH av fun st hH=>?_;dsimp only[u2,u1,u3,u4,setMany,u5,u6,Θ,γ,ax] at hH;refine qp (o:=1) ?_;refine qT hH av fun st hH=>?_;dsimp only[u2,u1,u3,u4,setMany,u5,u6,Θ,γ,ax] at hH;refine qe hK ?_;generalize wF:max q.1 0=lo at*;generalize Bs:min q.2 1114111=hi at*;refine qq<|qj fun K hK=>qm ?_;refine qe hK ?_;have hH:=hH.ew 2;refine qq<|qq<|qj fun K hK=>qg ?_;refine qg ?_;refine qh (s:=2) (vs:=[_,_]) hH fun k17 st YN hH=>?_;dsimp only[u2,u1,u3,u4,setMany,u5,u6,Θ,γ,ax] at hH;refine qn ?_ (hR:=hH.rows av);simp only[κ,τ];refine qm ?_;refine qe hK<|χ<|QY (fun mm fr st=>∃(i:Nat) (x:D),fr.clean=⟨20,[.agg (ax q),.ptr k1 0 0,.nul,x,br fr 4,br fr 5,br fr 6,br fr 7,br fr 8,br fr 9,br fr 10,br fr 11,br fr 12,br fr 13,br fr 14,br fr 15,br fr 16,.win k17 0 0 2 2,.int .i64 2,.int .i64 (i:Nat)],[]⟩∧Has s0.bs.length S st [.aO (.win k17 0 0 2 2) 2 (fY.map ax),.aO x 2 (((fY.take i).flatMap (tG lo hi)).map ax),.box k1 (.mem 0 false [.int .i32 lo,.int .i32 hi])]∧(i+mm=2)∧(((fY.take i).flatMap (tG lo hi)).length≤i)) (2) ?_ ?_
 ·exact⟨0,.nul,rfl,hH,by omega,by simp⟩
 rintro mm fr st ⟨i,x,hfr,hH,hij,hb⟩;rw[hfr];clear hfr;generalize br fr=ee;clear fr;refine qq<|qj fun K hK=>qg ?_;refine qe hK<|qq ?_;refine Φ (by rfl) (fun h1=>?_) (fun h1=>?_)<;>try simp only[decide_eq_true_eq,decide_eq_false_iff_not] at h1
 ·refine Δ ?_
  obtain⟨p,hp⟩:∃p,fY[i]?=some p:=⟨fY[i]'(by simp[fY];omega),δ _⟩
  have hr:=dZ hp;refine qq<|χ<|qq<|qj fun K hK=>qi hH av fun T0 ES=>?_;refine aa.vy hH rfl (ev rfl) (by assumption) (by exact av) (by assumption) rfl (ae rfl _) ?_;refine qa hH fun k5 st yh hH=>?_;refine qS hH av fun st hH=>?_;dsimp only[u2,u1,u3,u4,setMany,u5,u6,Θ,γ,ax] at hH;refine qe hK<|qq<|qj fun K hK=>qp (o:=0) ?_;refine ql hH fm ?_;refine qp (o:=0) ?_;refine ql hH av ?_;refine JQ (t1:=0) (t2:=0) rfl (ev rfl) (ev rfl) (ae rfl _) ?_;refine qp (o:=1) ?_;refine ql hH fm ?_;refine qp (o:=1) ?_;refine ql hH av ?_;refine aa.L6 (t1:=0) (t2:=0) rfl (ev rfl) (ev rfl) (ae rfl _) ?_;refine qg ?_;refine qa hH fun k6 st F9 hH=>?_;refine qS hH av fun st hH=>?_;dsimp only[u2,u1,u3,u4,setMany,u5,u6,Θ,γ,ax] at hH;refine qe hK<|qq<|qj fun K hK=>qp (o:=0) ?_;refine ql hH av ?_;refine qp (o:=1) ?_;refine ql hH av ?_;refine qg ?_;refine qe hK ?_;refine Φ (by rfl) (fun h2=>?_) (fun h2=>?_)<;>try simp only[decide_eq_true_eq,decide_eq_false_iff_not] at h2
  ·refine qj fun K hK=>qm ?_;refine J6 (m:=2) hH rfl (ev rfl) (by exact av) (by dsimp only[Qw,QD,QW,QP,ax]<;>rfl) rfl rfl (ae rfl _) ?_;refine qh (s:=2) (vs:=[_]) hH fun k41 st U0 hH=>?_;refine Ql (s:=2) hH rfl (ev rfl) (ev rfl) (by exact gH) (by exact hH.rows (by exact av)) rfl rfl rfl rfl rfl rfl rfl ⟨(ζ rfl),(ζ rfl)⟩ (fun _=>(ae rfl _)) (by simp only[κ,τ,ε]<;>omega) (by exact .inl hF) (fun Tt st hH=>?_);dsimp only[u2,u1,u3,u4,setMany,u5,u6,Θ,γ,ax] at hH;refine qm ?_;refine qe hK<|qj fun K hK=>qA ?_;refine qm ?_;refine qe hK ?_
   have h3:(fY.take (i+1)).flatMap (tG lo hi)=(fY.take i).flatMap (tG lo hi)++[(max lo p.1,min hi p.2)]:=by
    rw[Γ,hp,Qh];simp[tG,h2]
   exact⟨mm-1,by omega,⟨i+1,Tt,rfl,(by rw[h3,QJ];exact hH.drop 3),by omega,by rw[h3];simp only[QX,κ,τ];omega⟩⟩
  ·refine Δ<|qj fun K hK=>qA ?_;refine qm ?_;refine qe hK ?_
   have h3:(fY.take (i+1)).flatMap (tG lo hi)=(fY.take i).flatMap (tG lo hi):=by
    rw[Γ,hp,Qh];simp[tG,h2]
   exact⟨mm-1,by omega,⟨i+1,x,rfl,(by rw[h3];exact hH.drop 2),by omega,by rw[h3];omega⟩⟩
 ·refine Qk<|qq<|qj fun K hK=>qm ?_;refine qm ?_;refine qe hK ?_;rw[←gW];have h3:fY.take i=fY:=π (by simp[fY];omega);rw[h3] at hH;refine Qz ⟨rx,_,rfl,rl bt hH ?_⟩;refine Eq.trans (hH.freeze bh (eo _) (n:=15) (by decide)) ?_;rw[vh,wF,Bs]
theorem B4 (q x:Rg) (h:x∈er q):0≤x.1∧x.1≤1114111:=by
 obtain⟨h1,h2,h3⟩:=oE q x h;omega
theorem rA (q:Rg):(er q).length≤2:=by
 unfold er;split<;>split<;>simp
theorem jz (l:List Rg):(l.flatMap er).length≤2*l.length:=by
 induction l with
 |nil=>simp
 |cons x l ih=>simp only[Qo,QX,κ];have:=rA x;omega
theorem tT:∀{l:List Rg},(∀x∈l,0≤x.1∧x.1≤1114111)→∃m:List Rs,fQ m=(l.map ax).flatten∧m.map (fun x=>(x.lo,x.hi))=l
 |[],_=>⟨[],rfl,rfl⟩
 |x::l,h=>by
  obtain⟨m,h1,h2⟩:=tT (l:=l) fun y hy=>h y (ξ _ hy);obtain⟨h3,h4⟩:=h x (ν ..);exact⟨⟨x.1,x.2,h3,h4⟩::m,by simp only[fQ,h1,QO,QM,ax,QU,QE],by simp[h2]⟩
theorem Ai (m:List Rs):fQ m=((m.map fun x=>((x.lo,x.hi):Rg)).map ax).flatten:=by
 induction m with
 |nil=>rfl
 |cons x m ih=>simp only[fQ,ih,QO,QM,ax,QU,QE]
theorem E9 {j:Nat} (hH:Has N S st H) (hj:H[j]?=some (.aO x 2 (l.map ax))) (h0:l=[]→x=.nul) (hl:l.length≤1073741824) (hr:∀y∈l,0≤y.1∧y.1≤1114111):
  ∃(ai:St) (l':List Rg),Ev pv 154 [x,.fn 155 []] st (.tup []) ai∧Has N S ai (H.set j (.aO x 2 (l'.map ax)))∧l'.Perm l∧l'.Pairwise fun a b=>a.1≤b.1:=by
 obtain⟨m,h1,h2⟩:=tT hr;obtain⟨h3,h4⟩:=srt_facts m;have zX:m.length=l.length:=by rw[←h2];simp
 have hperm:((srt m).map fun x=>((x.lo,x.hi):Rg)).Perm l:=by rw[←h2];exact h3.map _
 have mF:((srt m).map fun x=>((x.lo,x.hi):Rg)).Pairwise fun a b=>a.1≤b.1:=by rw[List.pairwise_map];exact h4
 have hlen:(srt m).length=l.length:=h3.length_eq.trans zX;have hown:=hH.own hj;generalize o9:l.map ax=es at*;have tz:es.length=l.length:=by rw[←o9];simp
 cases hown with
 |nul=>
  have MK:l=[]:=by cases l with|nil=>rfl|cons _ _=>simp at tz
  refine⟨st,(srt m).map fun x=>(x.lo,x.hi),Ev.jj rfl rfl,?_,hperm,mF⟩
  have:(srt m).map (fun x=>((x.lo,x.hi):Rg))=[]:=by
   cases hs:srt m with
   |nil=>rfl
   |cons a b=>rw[hs,MK] at hlen;simp at hlen
  rw[this];exact hH.C_ hj (fun _ _ _=>rfl) (Nat.le_refl _) rfl rfl .nul (fun k hk=>.inl hk) fun k hk=>by simp only[bJ.aO,J5] at hk;omega
 |win k aG off es c hm hle hc he=>
  have hne:l≠[]:=fun e=>by have:=h0 e;cases this
  have wb:1≤l.length:=by cases l with|nil=>exact absurd rfl hne|cons _ _=>simp
  have hk:=(hH.ok j _ hj).2 k (by simp only[bJ.aO,J5]);have z7:(fQ (srt m)).length=es.length*2:=by rw[nY,hlen,tz];omega
  have hwr:st.wr k aG off (fQ (srt m))=some ⟨st.bs.set k (.mem aG true (c.take off++fQ (srt m)++c.drop (off+(fQ (srt m)).length))),st.flr,st.ro⟩:=
   mK hm (by omega) (ig hH hk.1 (.inr (uQ _)))
  refine⟨⟨st.bs.set k (.mem aG true (c.take off++fQ (srt m)++c.drop (off+(fQ (srt m)).length))),st.flr,st.ro⟩,(srt m).map fun x=>(x.lo,x.hi),Ev.jj rfl ?_,?_,hperm,mF⟩
  ·show BV [.win k aG off es.length 2,.fn 155 []] st=_;have jm:(c.drop off).take (2*es.length)=fQ m:=by rw[Nat.mul_comm,hc,h1]
   simp only[BV,St.mem_of hm,jm,A5,NT];rw[decide_eq_true (⟨by rw[zX,tz],by omega,by omega⟩:m.length=es.length∧1≤es.length∧es.length<1099511627776)];simp only[hwr]
  ·refine hH.C_ hj (fun n hn hne=>?_) (by simp) rfl rfl ?_ (fun n hn=>.inl hn) fun n hn=>?_
   ·simp only;rw[QC (fun e=>hne (by simp only[bJ.aO,J5];omega))]
   ·have h9:=iB.win (st:=⟨st.bs.set k (.mem aG true (c.take off++fQ (srt m)++c.drop (off+(fQ (srt m)).length))),st.flr,st.ro⟩) (s:=2) k aG off (((srt m).map fun x=>((x.lo,x.hi):Rg)).map ax) (c.take off++fQ (srt m)++c.drop (off+(fQ (srt m)).length))
     (by simp only;rw[Qa hk.2]) (by simp only[QX,QG,ε,Qr,z7];omega) ?_ (ma _)
    ·simp only[ε,hlen] at h9;rw[tz];exact h9
    ·have Ys:(c.take off).length=off:=by simp;omega
     rw[Qn,List.drop_left' Ys,←Ai,List.take_left' (by simp only[ε,hlen];omega)]
   ·simp only[bJ.aO,J5] at hn;simp only[Qu];omega
theorem sc (l:List Rg):(l.foldl ec []).length≤l.length:=by
 have key:∀(l acc:List Rg),(l.foldl ec acc).length≤acc.length+l.length:=by
  intro l
  induction l with
  |nil=>intro acc;simp
  |cons x l ih=>
   intro acc;simp only[Qt,κ];have:=ih (ec acc x)
   have h2:(ec acc x).length≤acc.length+1:=by
    unfold ec;split
    ·simp
    ·split<;>simp
   omega
 have:=key l []
 simpa using this
theorem Md (h:∀x∈l,0≤x.2∧x.2≤1114111):∀x∈l.foldl ec [],0≤x.2∧x.2≤1114111:=by
 have key:∀(l acc:List Rg),(∀x∈l,0≤x.2∧x.2≤1114111)→(∀x∈acc,0≤x.2∧x.2≤1114111)→∀x∈l.foldl ec acc,0≤x.2∧x.2≤1114111:=by
  intro l
  induction l with
  |nil=>intro acc _ h x hx;exact h x hx
  |cons y l ih=>
   intro acc h1 h2;refine ih _ (fun x hx=>h1 x (ξ _ hx)) fun x hx=>?_;have hy:=h1 y (ν ..);unfold ec at hx
   split at hx
   ·simp only[ι,Qx,or_false] at hx;rw[hx];exact hy
   ·rename_i k rest;have hk:=h2 k (ν ..)
    split at hx
    ·rcases ι.1 hx with rfl|hx
     ·simp only;omega
     ·exact h2 x (ξ _ hx)
    ·rcases ι.1 hx with rfl|hx
     ·exact hy
     ·exact h2 x hx
 exact key l [] h (fun x hx=>by cases hx)
theorem xV (h:Rg) (t:List Rg):((h::t).reverse.map ax)[t.length]?=some (ax h):=by
 rw[Qv,QV,List.getElem?_append_right (by simp)];simp
theorem xU (h h':Rg) (t:List Rg):((h::t).reverse.map ax).set t.length (ax h')=(h'::t).reverse.map ax:=by
 rw[QV,QJ,QB _ _ (by simp)];simp
theorem Bf (hx:QF s0 2 x (l.map ax)) (hl:l.length≤268435456):∃d,Ev pv 146 [x] s0 d s0∧∃all:List Rg,d=bS (all.foldl ec []).reverse∧all.Perm (l.flatMap er)∧all.Pairwise fun a b=>a.1≤b.1:=by
 refine Ev.Db rfl VX rfl rfl rfl ?_;dsimp only[u3,u4,θ,η,γ,w1,w2];obtain⟨bt,hF,hH⟩:=ri s0;generalize ah .ro s0=S at*;have hx:=QL hx bt;have nT:=jz l
 have hfi:∀i,((l.take i).flatMap er).length≤2*l.length:=fun i=>by
  have:=jz (l.take i);simp only[QG] at this;omega
 refine qq<|qj fun K hK=>qm ?_;refine qe hK<|qq<|qj fun K hK=>qm ?_;refine qm ?_;refine qe hK<|qq<|qq<|qj fun K hK=>qm ?_;refine qn ?_;simp only[ε];refine qm ?_;refine qe hK ?_;have hH:=hH.ew 2;refine χ<|QY (fun mm fr st=>∃(i:Nat) (y:D),fr.clean=⟨26,[x,br fr 1,br fr 2,y,.nul,br fr 5,br fr 6,br fr 7,br fr 8,br fr 9,x,.int .i64 (l.length:Nat),.int .i64 (i:Nat),br fr 13,br fr 14,br fr 15,br fr 16,br fr 17,br fr 18,br fr 19,br fr 20,br fr 21,br fr 22,br fr 23,br fr 24,br fr 25],[]⟩∧Has s0.bs.length S st [.aO y 2 (((l.take i).flatMap er).map ax)]∧(i+mm=l.length)∧((l.take i).flatMap er=[]→y=.nul)) (l.length) ?_ ?_
 ·exact⟨0,.nul,rfl,hH,by omega,fun _=>rfl⟩
 rintro mm fr st ⟨i,y,hfr,hH,hi,R0⟩;rw[hfr];clear hfr;generalize br fr=ee;clear fr;refine qq<|qj fun K hK=>qg ?_;refine qe hK ?_;have hm:=hfi i;refine qq ?_;refine Φ (by rfl) (fun h1=>?_) (fun h1=>?_)<;>try simp only[decide_eq_true_eq,decide_eq_false_iff_not] at h1
 ·refine Δ ?_
  obtain⟨q,hq⟩:∃q,l[i]?=some q:=⟨l[i]'(by omega),δ _⟩
  have hr:=dZ hq
  have zY:(l.take (i+1)).flatMap er=(l.take i).flatMap er++er q:=by
   rw[Γ,hq];simp
  have hrq:=rA q;refine qq<|χ<|qq<|qj fun K hK=>qr fun p14 UM=>?_;refine J0 rfl (ev rfl) (by assumption) rfl (by dsimp only[υ,u1,u2]<;>rfl) ?_;refine qa hH fun k6 st F9 hH=>?_;refine qS hH av fun st hH=>?_;dsimp only[u2,u1,u3,u4,setMany,u5,u6,Θ,γ,ax] at hH;refine qe hK<|qj fun K hK=>qm ?_;refine J6 (m:=2) hH rfl (ev rfl) (by exact av) (by dsimp only[Qw,QD,QW,QP,ax]<;>rfl) rfl rfl (by dsimp only[υ,u1,u2]<;>rfl) ?_;refine qv (DN q) ?_;refine aa.Fa hH rfl rfl rfl (by exact bh) (fh _ _) rfl rfl rfl rfl rfl rfl rfl ⟨(ζ rfl),(ζ rfl)⟩ (fun _=>by dsimp only[υ,u1,u2]<;>rfl) (by simp only[ε];omega) (.inl hF) (fun SV st UQ hH=>?_);dsimp only[u2,u1] at hH;refine qm ?_;refine qe hK<|qj fun K hK=>qA ?_;refine qm ?_;refine qe hK ?_;exact⟨mm-1,by omega,⟨i+1,SV,rfl,(by rw[zY,QJ];exact hH.drop 1),by omega,by rw[zY];intro h;obtain⟨h3,h4⟩:=List.append_eq_nil_iff.1 h;rw[UQ (by rw[h4];rfl)];exact R0 h3⟩⟩
 ·refine Qk ?_;have hT:l.take i=l:=π (by omega);rw[hT] at hH R0 hm
  obtain⟨st2,all,aL,NO,hperm,mF⟩:=E9 hH av R0 (by omega) (fun z hz=>by
   obtain⟨w,_,hw⟩:=QQ.1 hz
   exact B4 w z hw)
  have hlen:=hperm.length_eq
  have hbd:∀z∈all,0≤z.2∧z.2≤1114111:=fun z hz=>by
   obtain⟨w,_,hw⟩:=QQ.1 (hperm.mem_iff.1 hz);have:=oE w z hw;omega
  refine qq<|qj fun K hK=>qm ?_;refine qv (aL) ?_;refine qe hK ?_;have hH:=NO;dsimp only[u2] at hH;clear NO aL;have hR:=hH.rows av;have hH:=hH.ew 2;refine qq<|qq<|qj fun K hK=>qm ?_;refine qn ?_ (hR:=hH.rows bh);simp only[ε];refine qm ?_;refine qe hK<|χ<|QY (fun mm fr st=>∃(i:Nat) (z:D),fr.clean=⟨26,[x,br fr 1,br fr 2,y,z,br fr 5,br fr 6,br fr 7,br fr 8,br fr 9,br fr 10,br fr 11,br fr 12,br fr 13,br fr 14,br fr 15,br fr 16,br fr 17,br fr 18,br fr 19,br fr 20,br fr 21,br fr 22,y,.int .i64 (all.length:Nat),.int .i64 (i:Nat)],[]⟩∧Has s0.bs.length S st [.aO z 2 (((all.take i).foldl ec []).reverse.map ax),.aO y 2 (all.map ax)]∧(i+mm=all.length)) (all.length) ?_ ?_
  ·exact⟨0,.nul,rfl,hH,by omega⟩
  rintro mm fr st ⟨i,z,hfr,hH,hi⟩;rw[hfr];clear hfr;generalize br fr=ee;clear fr;refine qq<|qj fun K hK=>qg ?_;refine qe hK ?_
  have jI:((all.take i).foldl ec []).length≤all.length:=by
   have:=sc (all.take i);simp only[QG] at this;omega
  refine qq ?_;refine Φ (by rfl) (fun h1=>?_) (fun h1=>?_)<;>try simp only[decide_eq_true_eq,decide_eq_false_iff_not] at h1
  ·refine Δ ?_
   obtain⟨q,hq⟩:∃q,all[i]?=some q:=⟨all[i]'(by omega),δ _⟩
   have hr:=dZ hq
   have Sb:(all.take (i+1)).foldl ec []=ec ((all.take i).foldl ec []) q:=by
    rw[Γ,hq,List.foldl_append];rfl
   generalize tJ:(all.take i).foldl ec []=acc at*;refine qq<|χ<|qq<|qj fun K hK=>qi hH bh fun Xy RV=>?_;refine aa.vy hH rfl (ev rfl) (by assumption) (by exact bh) (by assumption) rfl (ae rfl _) ?_;refine qa hH fun k8 st Td hH=>?_;refine qS hH av fun st hH=>?_;dsimp only[u2,u1,u3,u4,setMany,u5,u6,Θ,γ,ax] at hH;refine qe hK ?_
   rcases acc with _|⟨h,t⟩
   ·refine qq<|qj fun K hK=>qm ?_;refine qn ?_ (hR:=hH.rows bh);simp only[ε,τ,ρ];refine Qd (z:=(-1)) rfl (ev rfl) (ev rfl) (by rw[wrap_i64 (by omega) (by omega)]<;>omega) (ae rfl _) ?_;refine qm ?_;refine qe hK ?_;have aZ:decide ((-1:Int)≥0)=false:=by decide
    refine qq<|QT 44 (.bool false) [] ?_ (fun ff tmp cY=>?_)
    ·refine qm ?_;refine qg ?_;refine qm ?_;refine qs ?_ (hg:=wn aZ);refine qs ?_ (hg:=wn aZ);refine qs ?_ (hg:=wn aZ);refine qs ?_ (hg:=wn aZ);refine qs ?_ (hg:=wn aZ);refine qs ?_ (hg:=wn aZ);refine qs ?_ (hg:=wn aZ);refine qs ?_ (hg:=wn aZ);refine qs ?_ (hg:=wn aZ);refine qu aZ ?_;refine Qq (aY ?_ ?_)
     ·dsimp only[aB,μ,nth,u2,u1]
      all_goals(first|rfl|simp)
     ·dsimp only[QZ,υ,ς,Ω,ψ,nth,look,u1,u2,v1,v2,v4]
      all_goals(rfl)
    dsimp only[aB,μ,nth,u2,u1];dsimp only[QZ,υ,ς,Ω,ψ,nth,look,u1,u2,v1,v2,v4];refine qC ?_;refine qj fun K hK=>qm ?_;refine J6 (m:=2) hH rfl (ev rfl) (by exact av) (by dsimp only[Qw,QD,QW,QP,ax]<;>rfl) rfl rfl (ae rfl _) ?_;refine qh (s:=2) (vs:=[_]) hH fun k59 st YC hH=>?_;refine Ql (s:=2) hH rfl (ev rfl) (ev rfl) (by exact dF) (by exact hH.rows (by exact av)) rfl rfl rfl rfl rfl rfl rfl ⟨(ζ rfl),(ζ rfl)⟩ (fun _=>(ae rfl _)) (by simp only[κ,τ,ε,ρ]<;>omega) (by exact .inl hF) (fun W_ st hH=>?_);dsimp only[u2,u1,u3,u4,setMany,u5,u6,Θ,γ,ax] at hH;refine qm ?_;refine qe hK<|qj fun K hK=>qA ?_;refine qm ?_;refine qe hK ?_;exact⟨mm-1,by omega,⟨i+1,W_,rfl,(by rw[Sb];exact hH.drop 2),by omega⟩⟩
   ·simp only[κ] at jI;refine qq<|qj fun K hK=>qm ?_;refine qn ?_ (hR:=hH.rows bh);simp only[ε,κ,ρ];refine Qd (z:=((t.length:Nat):Int)) rfl (ev rfl) (ev rfl) (by rw[wrap_i64 (by omega) (by omega)]<;>omega) (ae rfl _) ?_;refine qm ?_;refine qe hK ?_;have pO:=xV h t;have fO:=xU h (h.1,max h.2 q.2) t;have Bs:=Md (l:=all.take i) (fun x hx=>hbd x (Qf hx)) h (by rw[tJ];exact ν ..);have aZ:decide (((t.length:Nat):Int)≥0)=true:=by rw[decide_eq_true];omega
    refine qq<|QT 44 (.bool (decide (q.1≤h.2+1))) [] ?_ (fun ff tmp cY=>?_)
    ·refine qm ?_;refine qg ?_;refine qm ?_;refine qp (o:=0) ?_ (hg:=wi aZ);refine ql hH av ?_ (hg:=wi aZ);refine qm ?_ (hg:=wi aZ);refine qm ?_ (hg:=wi aZ);refine qi hH bh (fun Xu RR=>?_) (hg:=wi aZ);refine J4 (fo:=1) (m:=0) (o2:=1) (aq rfl rfl rfl aZ) (ev rfl) (by assumption) rfl rfl rfl (fun _=>(ae rfl _)) (fun p40 Yn=>?_);refine qo hH bh ?_ (hg:=wi aZ);refine J9 (aq rfl rfl rfl aZ) (ev rfl) (ev rfl) (by omega) (by omega) (ae rfl _) ?_;refine qg ?_ (hg:=wi aZ);refine qt aZ ?_;refine Qq (aY ?_ ?_)
     ·dsimp only[aB,μ,nth,u2,u1]
      all_goals(first|rfl|simp)
     ·dsimp only[QZ,υ,ς,Ω,ψ,nth,look,u1,u2,v1,v2,v4]
      all_goals(rfl)
    dsimp only[aB,μ,nth,u2,u1];dsimp only[QZ,υ,ς,Ω,ψ,nth,look,u1,u2,v1,v2,v4];refine Φ (by assumption) (fun h2=>?_) (fun h2=>?_)<;>try simp only[decide_eq_true_eq,decide_eq_false_iff_not] at h2
    ·refine qj fun K hK=>qm ?_;refine qm ?_;refine qm ?_;refine qm ?_;refine qi hH bh fun p49 UE=>?_;refine J4 (fo:=1) (m:=0) (o2:=1) rfl (ev rfl) (by assumption) rfl rfl rfl (fun _=>(ae rfl _)) (fun Xr RO=>?_);refine qo hH bh ?_;refine qp (o:=1) ?_;refine ql hH av ?_;refine JQ (t1:=0) (t2:=0) rfl (ev rfl) (ev rfl) (ae rfl _) ?_;refine qi hH bh fun p55 UC=>?_;refine J4 (fo:=1) (m:=0) (o2:=1) rfl (ev rfl) (by assumption) rfl rfl rfl (fun _=>(ae rfl _)) (fun Xq RN=>?_);refine J7 hH rfl (ev rfl) (ev rfl) (by assumption) rfl rfl (by exact bh) (by assumption) (ζ rfl) (by exact .inl hF) (fun st hH=>?_);dsimp only[u2,u1,u3,u4,setMany,u5,u6,Θ,γ,ax] at hH;refine qe hK<|qj fun K hK=>qA ?_;refine qm ?_;refine qe hK ?_;exact⟨mm-1,by omega,⟨i+1,z,rfl,(by rw[Sb];simp only[ec,if_pos h2];rw[←fO];exact hH.drop 1),by omega⟩⟩
    ·refine qj fun K hK=>qm ?_;refine J6 (m:=2) hH rfl (ev rfl) (by exact av) (by dsimp only[Qw,QD,QW,QP,ax]<;>rfl) rfl rfl (ae rfl _) ?_;refine qh (s:=2) (vs:=[_]) hH fun k59 st YC hH=>?_;refine Ql (s:=2) hH rfl (ev rfl) (ev rfl) (by exact dF) (by exact hH.rows (by exact av)) rfl rfl rfl rfl rfl rfl rfl ⟨(ζ rfl),(ζ rfl)⟩ (fun _=>(ae rfl _)) (by simp only[κ,τ,ε,ρ]<;>omega) (by exact .inl hF) (fun W_ st hH=>?_);dsimp only[u2,u1,u3,u4,setMany,u5,u6,Θ,γ,ax] at hH;refine qm ?_;refine qe hK<|qj fun K hK=>qA ?_;refine qm ?_;refine qe hK ?_;exact⟨mm-1,by omega,⟨i+1,W_,rfl,(by rw[Sb];simp only[ec,if_neg h2];rw[QV (a:=q),QJ];exact hH.drop 2),by omega⟩⟩
  ·refine Qk<|qq<|qj fun K hK=>qm ?_;refine qm ?_;refine qe hK ?_;rw[π (by omega)] at hH;refine Qz ⟨rx,_,_,rfl,rl bt hH ((hH.freeze av (eo _) (n:=15) (by decide))),?_⟩;exact⟨all,by rw[gW],hperm,mF⟩
def dq (fr:Go.V.Fr) (k:Nat):Go.V.D:=Go.V.nth .bD fr.loc k
def dQ (r:Int):List D:=[.int .i32 r]
def vg (l:List Int):D:=.sl ((l.map dQ).map (jR 1))
theorem rB (l:List Int):∀e∈l.map dQ,∀d∈e,cv d=true:=by
 intro e he d hd;obtain⟨x,_,rfl⟩:=QN.1 he;simp only[dQ,ι,Qx,or_false] at hd;subst hd;rfl
theorem DO (l:List Int):∀e∈l.map dQ,e.length=1:=by
 intro e he;obtain⟨x,_,rfl⟩:=QN.1 he;rfl
theorem w_ (st:St) (l:List Int):QF st 1 (vg l) (l.map dQ):=Rows.nF (DO l) (rB l)
theorem xb {l:List Int} {q:Int} (h:l[i]?=some q):(l.map dQ)[i]?=some (dQ q):=by rw[Qv,h];rfl
def fZ (l:List Rg):List Int:=[0,55296,57344,1114112]++l.flatMap iG
theorem Fm (x:Rg):(iG x).length≤2:=by
 unfold iG;split<;>split<;>simp
theorem pa (l:List Rg):(l.flatMap iG).length≤2*l.length:=by
 induction l with
 |nil=>simp
 |cons x l ih=>simp only[Qo,QX,κ];have:=Fm x;omega
def gS (m:List Int) (i k:Nat):Prop:=∀a b,a<b→b≤i→b≠k→m.getD a 0≤m.getD b 0
theorem nX (m:List Int) (k:Nat) (v:Int) (hk:k<m.length) (a:Nat):(m.set k v).getD a 0=if a=k then v else m.getD a 0:=by
 simp only[ω]
 by_cases h:a=k
 ·subst h;rw[Qa hk,if_pos rfl];rfl
 ·rw[QC (fun e=>h e.symm),if_neg h]
theorem wT (hk:k+1≤i) (hi:i<m.length) (h:gS m i (k+1)) (Ti:m.getD k 0>m.getD (k+1) 0):gS ((m.set k (m.getD (k+1) 0)).set (k+1) (m.getD k 0)) i k:=by
 intro a b hab Vj hbk;have hl:(m.set k (m.getD (k+1) 0)).length=m.length:=Qu ..;rw[nX _ _ _ (by rw[hl];omega),nX _ _ _ (by omega),nX _ _ _ (by rw[hl];omega),nX _ _ _ (by omega)]
 by_cases h1:b=k+1
 ·rw[if_pos h1,if_neg (by omega)]
  by_cases h2:a=k
  ·rw[if_pos h2];omega
  ·rw[if_neg h2];exact h a k (by omega) (by omega) (by omega)
 ·rw[if_neg h1,if_neg hbk]
  by_cases h2:a=k+1
  ·rw[if_pos h2];exact h k b (by omega) Vj h1
  ·rw[if_neg h2]
   by_cases h3:a=k
   ·rw[if_pos h3];exact h (k+1) b (by omega) Vj h1
   ·rw[if_neg h3];exact h a b hab Vj h1
theorem pA (h:gS m i k) (hx:k=0∨m.getD (k-1) 0≤m.getD k 0) (j:Nat):gS m i j:=by
 intro a b hab Vj _
 by_cases hb:b=k
 ·subst hb;have hx:=hx.resolve_left (by omega)
  by_cases ha:a=b-1
  ·rw[ha];exact hx
  ·exact Int.le_trans (h a (b-1) (by omega) (by omega) (by omega)) hx
 ·exact h a b hab Vj hb
theorem swap_perm (hk:k+1<m.length):((m.set k (m.getD (k+1) 0)).set (k+1) (m.getD k 0)).Perm m:=by
 have h0:m=m.take k++(m.getD k 0::m.getD (k+1) 0::m.drop (k+2)):=by
  have e1:m.drop k=m.getD k 0::m.drop (k+1):=by rw[Ψ (by omega)];simp[ω,δ (show k<m.length by omega)]
  have e2:m.drop (k+1)=m.getD (k+1) 0::m.drop (k+2):=by rw[Ψ (by omega)];simp[ω,δ hk]
  rw[←e2,←e1,List.take_append_drop]
 have hlen:(m.take k).length=k:=by simp;omega
 generalize m.getD k 0=x at*;generalize m.getD (k+1) 0=y at*;generalize m.take k=l1 at*;generalize m.drop (k+2)=l2 at*;subst h0;rw[QB _ _ (by omega),QB _ _ (by omega),hlen,Nat.sub_self,Nat.add_sub_cancel_left];exact(List.Perm.swap x y l2).append_left l1
theorem wU (h : gS m i (i + 1)) (hi : i + 1 ≥ m.length): m.Pairwise (· ≤ ·) := by
 rw [QI];intro a b ha hb hab;have := h a b hab (by omega) (by omega)
 simpa [ω, δ ha, δ hb] using this
theorem Ew (hx : QF s0 2 x (l.map ax)) (hl : l.length ≤ 268435456): ∃ d, Ev pv 156 [x] s0 d s0 ∧ ∃ m : List Int, d = vg m ∧ m.Perm (fZ l) ∧ m.Pairwise (· ≤ ·) := by
 refine Ev.Db rfl VQ rfl rfl rfl ?_;dsimp only [u3, u4, θ, η, γ, w1, w2];obtain ⟨bt, hF, hH⟩ := ri s0;generalize ah .ro s0 = S at *;have hx := QL hx bt;refine qq ?_;refine qj fun K hK => ?_;refine qm ?_;refine qe hK ?_;refine qq ?_;refine qj fun K hK => ?_;refine qh (s := 1) (vs := [_, _, _, _]) hH fun k7 st Te hH => ?_;refine qm ?_;refine qe hK ?_;refine qq ?_;refine qq ?_;refine qj fun K hK => ?_;refine qm ?_;refine qe hK ?_;have nT := pa l;have h0 : fZ (l.take 0) = [0, 55296, 57344, 1114112] := rfl
 have zX : ∀ i, (fZ (l.take i)).length ≤ 4 + 2 * l.length := by
  intro i;have := pa (l.take i);simp only [fZ, QX, κ, τ, QG] at *;omega
 refine χ ?_;refine QY (fun mm fr st => ∃ (i : Nat) (y : D), fr.clean = ⟨7, [x, dq fr 1, dq fr 2, y, .int .i64 (i : Nat), dq fr 5, dq fr 6], []⟩ ∧ Has s0.bs.length S st [.aO y 1 ((fZ (l.take i)).map dQ)] ∧ (i + mm = l.length)) (l.length) ?_ ?_
 ·exact ⟨0, _, rfl, hH, by omega⟩
 rintro mm fr st ⟨i, y, hfr, hH, hi⟩;rw [hfr];clear hfr;generalize dq fr = ee;clear fr;refine qq ?_;refine qq ?_;refine qj fun K hK => ?_;refine qm ?_;refine qm ?_;refine qn ?_;simp only [ε];refine qg ?_;refine qe hK ?_;refine Φ (by rfl) (fun h1 => ?_) (fun h1 => ?_) <;> try simp only [decide_eq_true_eq, decide_eq_false_iff_not] at h1
 ·refine Δ ?_
  obtain ⟨q, hq⟩ : ∃ q, l[i]? = some q := ⟨l[i]'(by omega), δ _⟩
  have hr := dZ hq;have hm := zX i
  have zY : fZ (l.take (i + 1)) = fZ (l.take i) ++ iG q := by
   rw [Γ, hq]; simp [fZ]
  refine qq ?_;refine χ ?_;refine qq ?_;refine qq ?_;refine QT 40 (.bool (decide (q.1 ≤ q.2) && decide (q.1 ≥ 0) && decide (q.1 ≤ 1114111))) [] ?_ (fun ff tmp cY => ?_)
  ·refine qm ?_;refine qm ?_;refine qr fun p16 UK => ?_;refine qf (fo := 0) fun XA RX => ?_;refine qR ?_;refine qm ?_;refine qm ?_;refine qr fun T0 ES => ?_;refine qf (fo := 1) fun TZ ER => ?_;refine qR ?_;refine qg ?_;refine qm ?_;refine QR 25 rfl (fun aT => ?_) (fun aT => ?_)
   ·refine qm ?_ (hg := wi aT);refine qm ?_ (hg := wi aT);refine qr (fun Xx RU => ?_) (hg := wi aT);refine qf (fo := 0) (fun p29 UH => ?_) (hg := wi aT);refine qR ?_ (hg := wi aT);refine qg ?_ (hg := wi aT);refine qt aT ?_;refine qm ?_;refine QR 33 rfl (fun e6 => ?_) (fun e6 => ?_)
    ·refine qm ?_ (hg := wi e6);refine qm ?_ (hg := wi e6);refine qr (fun Xw RT => ?_) (hg := wi e6);refine qf (fo := 0) (fun Xv RS => ?_) (hg := wi e6);refine qR ?_ (hg := wi e6);refine qg ?_ (hg := wi e6);refine qt e6 ?_;refine Qq (aY ?_ ?_)
     ·dsimp only [aB, μ, nth, u2, u1]
      all_goals (first | rfl | simp)
     ·dsimp only [QZ, υ, ς, Ω, ψ, nth, Ξ, u1, u2, v1, v2, v3, v4, v5, v6, v7, θ, u3, u4, η, γ, φ]
      all_goals (simp [aT, e6]; done)
    ·refine qs ?_ (hg := wn e6);refine qs ?_ (hg := wn e6);refine qs ?_ (hg := wn e6);refine qs ?_ (hg := wn e6);refine qs ?_ (hg := wn e6);refine qs ?_ (hg := wn e6);refine qu e6 ?_;refine Qq (aY ?_ ?_)
     ·dsimp only [aB, μ, nth, u2, u1]
      all_goals (first | rfl | simp)
     ·dsimp only [QZ, υ, ς, Ω, ψ, nth, Ξ, u1, u2, v1, v2, v3, v4, v5, v6, v7, θ, u3, u4, η, γ, φ]
      all_goals (simp [aT, e6]; done)
   ·refine qs ?_ (hg := wn aT);refine qs ?_ (hg := wn aT);refine qs ?_ (hg := wn aT);refine qs ?_ (hg := wn aT);refine qs ?_ (hg := wn aT);refine qs ?_ (hg := wn aT);refine qu aT ?_;refine qm ?_;refine qs ?_;refine qs ?_;refine qs ?_;refine qs ?_;refine qs ?_;refine qs ?_;refine qg ?_;refine Qq (aY ?_ ?_)
    ·dsimp only [aB, μ, nth, u2, u1]
     all_goals (first | rfl | simp)
    ·dsimp only [QZ, υ, ς, Ω, ψ, nth, Ξ, u1, u2, v1, v2, v3, v4, v5, v6, v7, θ, u3, u4, η, γ, φ]
     all_goals (simp [aT]; done)
  dsimp only [aB, μ, nth, u2, u1];dsimp only [QZ, υ, ς, Ω, ψ, nth, Ξ, u1, u2, v1, v2, v3, v4, v5, v6, v7, θ, u3, u4, η, γ, φ];have nh : iG q = (if q.1 ≤ q.2 ∧ 0 ≤ q.1 ∧ q.1 ≤ 1114111 then [q.1] else []) ++ (if q.1 ≤ q.2 ∧ 0 ≤ q.2 ∧ q.2 < 1114111 then [q.2 + 1] else []) := rfl;rw [nh] at zY;generalize kZ : (if q.1 ≤ q.2 ∧ 0 ≤ q.1 ∧ q.1 ≤ 1114111 then [q.1] else []) = e1 at zY;generalize wI : (if q.1 ≤ q.2 ∧ 0 ≤ q.2 ∧ q.2 < 1114111 then [q.2 + 1] else []) = e2 at zY;have abQ : e1.length ≤ 1 := by rw [← kZ]; split <;> simp
  refine JX (fun fr st => ∃ (y : D) (tmp : List (Nat × D)), fr = ⟨7, [x, dq fr 1, dq fr 2, y, .int .i64 (i : Nat), dq fr 5, dq fr 6], tmp⟩ ∧ Has s0.bs.length S st [.aO y 1 ((fZ (l.take i) ++ e1).map dQ)]) ?_ ?_
  ·refine qc (fun h2 => ?_) (fun h2 => ?_) <;> try simp only [cs] at h2
   ·simp only [Qp, decide_eq_true_eq] at h2;rw [if_pos ⟨h2.1.1, h2.1.2, h2.2⟩] at kZ;refine qj fun K hK => ?_;refine qm ?_;refine qm ?_;refine qm ?_;refine qr fun WI My => ?_;refine qf (fo := 0) fun Xs RP => ?_;refine qR ?_;refine qh (s := 1) (vs := [_]) hH fun k47 st YD hH => ?_;refine Ql (s := 1) hH rfl (ev rfl) (ev rfl) (by exact bh) (by exact hH.rows (by exact av)) rfl rfl rfl rfl rfl rfl rfl ⟨(ζ rfl), (ζ rfl)⟩ (fun _ => (ae rfl _)) (by simp only [κ, τ, ε] <;> omega) (by exact .inl hF) (fun Tq st hH => ?_);dsimp only [u2, u1, u3, u4, setMany, u5, u6, Θ, γ, ax, dQ] at hH;refine qm ?_;refine qe hK ?_;exact ⟨Tq, _, rfl, (by rw [← kZ, QJ]; exact hH.drop 1)⟩
   ·rw [if_neg (by rintro ⟨a, b, c⟩; simp [a, b, c] at h2)] at kZ;refine Δ ?_;exact ⟨y, _, rfl, (by rw [← kZ, Qs]; exact hH)⟩
  ·rintro fr st ⟨y, tmp, hfr, hH⟩;rw [hfr];clear hfr;generalize dq fr = ee;clear fr;refine qq ?_;refine QT 75 (.bool (decide (q.1 ≤ q.2) && decide (q.2 ≥ 0) && decide (q.2 < 1114111))) [] ?_ (fun ff tmp cY => ?_)
   ·refine qm ?_;refine qm ?_;refine qr fun p51 UD => ?_;refine qf (fo := 0) fun p52 Yl => ?_;refine qR ?_;refine qm ?_;refine qm ?_;refine qr fun Xq RN => ?_;refine qf (fo := 1) fun p57 abg => ?_;refine qR ?_;refine qg ?_;refine qm ?_;refine QR 60 rfl (fun aT => ?_) (fun aT => ?_)
    ·refine qm ?_ (hg := wi aT);refine qm ?_ (hg := wi aT);refine qr (fun p63 aba => ?_) (hg := wi aT);refine qf (fo := 1) (fun Xp RM => ?_) (hg := wi aT);refine qR ?_ (hg := wi aT);refine qg ?_ (hg := wi aT);refine qt aT ?_;refine qm ?_;refine QR 68 rfl (fun e6 => ?_) (fun e6 => ?_)
     ·refine qm ?_ (hg := wi e6);refine qm ?_ (hg := wi e6);refine qr (fun p71 Yj => ?_) (hg := wi e6);refine qf (fo := 1) (fun p72 Yi => ?_) (hg := wi e6);refine qR ?_ (hg := wi e6);refine qg ?_ (hg := wi e6);refine qt e6 ?_;refine Qq (aY ?_ ?_)
      ·dsimp only [aB, μ, nth, u2, u1]
       all_goals (first | rfl | simp)
      ·dsimp only [QZ, υ, ς, Ω, ψ, nth, Ξ, u1, u2, v1, v2, v3, v4, v5, v6, v7, θ, u3, u4, η, γ, φ]
       all_goals (simp [aT, e6]; done)
     ·refine qs ?_ (hg := wn e6);refine qs ?_ (hg := wn e6);refine qs ?_ (hg := wn e6);refine qs ?_ (hg := wn e6);refine qs ?_ (hg := wn e6);refine qs ?_ (hg := wn e6);refine qu e6 ?_;refine Qq (aY ?_ ?_)
      ·dsimp only [aB, μ, nth, u2, u1]
       all_goals (first | rfl | simp)
      ·dsimp only [QZ, υ, ς, Ω, ψ, nth, Ξ, u1, u2, v1, v2, v3, v4, v5, v6, v7, θ, u3, u4, η, γ, φ]
       all_goals (simp [aT, e6]; done)
    ·refine qs ?_ (hg := wn aT);refine qs ?_ (hg := wn aT);refine qs ?_ (hg := wn aT);refine qs ?_ (hg := wn aT);refine qs ?_ (hg := wn aT);refine qs ?_ (hg := wn aT);refine qu aT ?_;refine qm ?_;refine qs ?_;refine qs ?_;refine qs ?_;refine qs ?_;refine qs ?_;refine qs ?_;refine qg ?_;refine Qq (aY ?_ ?_)
     ·dsimp only [aB, μ, nth, u2, u1]
      all_goals (first | rfl | simp)
     ·dsimp only [QZ, υ, ς, Ω, ψ, nth, Ξ, u1, u2, v1, v2, v3, v4, v5, v6, v7, θ, u3, u4, η, γ, φ]
      all_goals (simp [aT]; done)
   dsimp only [aB, μ, nth, u2, u1];refine JX (fun fr st => ∃ (y : D) (tmp : List (Nat × D)), fr = ⟨7, [x, dq fr 1, dq fr 2, y, .int .i64 (i : Nat), dq fr 5, dq fr 6], tmp⟩ ∧ Has s0.bs.length S st [.aO y 1 ((fZ (l.take (i + 1))).map dQ)]) ?_ ?_
   ·refine qc (fun h2 => ?_) (fun h2 => ?_) <;> try simp only [cs] at h2
    ·simp only [Qp, decide_eq_true_eq] at h2;rw [if_pos ⟨h2.1.1, h2.1.2, h2.2⟩] at wI;refine qj fun K hK => ?_;refine qm ?_;refine qm ?_;refine qm ?_;refine qr fun WH Mx => ?_;refine qf (fo := 1) fun p80 Yh => ?_;refine qR ?_;refine J9 rfl (ev rfl) (ev rfl) (by omega) (by omega) (ae rfl _) ?_;refine qh (s := 1) (vs := [_]) hH fun k83 st abv hH => ?_;refine Ql (s := 1) hH rfl (ev rfl) (ev rfl) (by exact bh) (by exact hH.rows (by exact av)) rfl rfl rfl rfl rfl rfl rfl ⟨(ζ rfl), (ζ rfl)⟩ (fun _ => (ae rfl _)) (by simp only [QX, κ, τ, ε] <;> omega) (by exact .inl hF) (fun x84 st hH => ?_);dsimp only [u2, u1, u3, u4, setMany, u5, u6, Θ, γ, ax, dQ] at hH;refine qm ?_;refine qe hK ?_;exact ⟨x84, _, rfl, (by rw [zY, ← wI, ← Qn, QJ]; exact hH.drop 1)⟩
    ·rw [if_neg (by rintro ⟨a, b, c⟩; simp [a, b, c] at h2)] at wI;refine Δ ?_;exact ⟨y, _, rfl, (by rw [zY, ← wI, Qs]; exact hH)⟩
   ·rintro fr st ⟨y, tmp, hfr, hH⟩;rw [hfr];clear hfr;generalize dq fr = ee;clear fr;refine qj fun K hK => ?_;refine qm ?_;refine qA ?_;refine qm ?_;refine qe hK ?_;exact ⟨mm - 1, by omega, ⟨i + 1, y, rfl, hH, by omega⟩⟩
 ·refine Qk ?_;have hT : l.take i = l := π (by omega);rw [hT] at hH;have hm := zX l.length;rw [List.take_length] at hm;generalize kW : fZ l = m0 at *;have Ya : 4 ≤ m0.length := by rw [← kW]; simp [fZ]
  refine qq ?_;refine qq ?_;refine qj fun K hK => ?_;refine qm ?_;refine qe hK ?_;refine χ ?_;refine QY (fun mm fr st => ∃ (i : Nat) (m : List Int), fr.clean = ⟨7, [x, dq fr 1, dq fr 2, y, dq fr 4, .int .i64 (i : Nat), dq fr 6], []⟩ ∧ Has s0.bs.length S st [.aO y 1 (m.map dQ)] ∧ (i + mm = m0.length) ∧ (m.Perm m0) ∧ (gS m (i - 1) i) ∧ (1 ≤ i)) (m0.length - 1) ?_ ?_
  ·exact ⟨1, m0, rfl, hH, by omega, .refl _, by intro a b h1 h2 h3; omega, by omega⟩
  rintro mm fr st ⟨i, m, hfr, hH, hi, hp, hs, Ya⟩;rw [hfr];clear hfr;generalize dq fr = ee;clear fr;have Yu : m.length = m0.length := hp.length_eq;refine qq ?_;refine qq ?_;refine qj fun K hK => ?_;refine qm ?_;refine qm ?_;refine qn ?_ (hR := hH.rows av);simp only [ε];refine qg ?_;refine qe hK ?_;refine Φ (by rfl) (fun h1 => ?_) (fun h1 => ?_) <;> try simp only [decide_eq_true_eq, decide_eq_false_iff_not] at h1
  ·refine Δ ?_;refine qq ?_;refine χ ?_;refine qq ?_;refine qj fun K hK => ?_;refine qm ?_;refine qm ?_;refine qe hK ?_;refine χ ?_;refine QY (fun mm fr st => ∃ (k : Nat) (m : List Int), fr.clean = ⟨7, [x, dq fr 1, dq fr 2, y, dq fr 4, .int .i64 (i : Nat), .int .i64 (k : Nat)], []⟩ ∧ Has s0.bs.length S st [.aO y 1 (m.map dQ)] ∧ (k = mm) ∧ (m.Perm m0) ∧ (gS m i k) ∧ (k ≤ i)) (i) ?_ ?_
   ·exact ⟨i, m, rfl, hH, rfl, hp, by intro a b h1 h2 h3; exact hs a b h1 (by omega) (by omega), by omega⟩
   have i_ := hi;rintro mm fr st ⟨k, m, hfr, hH, hk, hp, hs, R7⟩;rw [hfr];clear hfr;generalize dq fr = ee;clear fr;have Yu : m.length = m0.length := hp.length_eq
   rcases k with _ | k
   ·have aZ : decide (((0 : Nat) : Int) > 0) = false := by decide
    refine qq ?_;refine qq ?_;refine QT 105 (.bool false) [] ?_ (fun ff tmp cY => ?_)
    ·refine qm ?_;refine qg ?_;refine qm ?_;refine qs ?_ (hg := wn aZ);refine qs ?_ (hg := wn aZ);refine qs ?_ (hg := wn aZ);refine qs ?_ (hg := wn aZ);refine qs ?_ (hg := wn aZ);refine qs ?_ (hg := wn aZ);refine qs ?_ (hg := wn aZ);refine qs ?_ (hg := wn aZ);refine qs ?_ (hg := wn aZ);refine qs ?_ (hg := wn aZ);refine qu aZ ?_;refine Qq (aY ?_ ?_)
     ·dsimp only [aB, μ, nth, u2, u1]
      all_goals (first | rfl | simp)
     ·dsimp only [QZ, υ, ς, Ω, ψ, nth, Ξ, u1, u2, v1, v2, v3, v4, v5, v6, v7, θ, u3, u4, η, γ, φ]
      all_goals (first | rfl | (simp [aZ]; done) | (simp_all; done) | (simp [aZ]; omega) | (simp_all; omega))
    dsimp only [aB, μ, nth, u2, u1];dsimp only [QZ, υ, ς, Ω, ψ, nth, Ξ, u1, u2, v1, v2, v3, v4, v5, v6, v7, θ, u3, u4, η, γ, φ];refine qC ?_;refine Qk ?_;refine qj fun K hK => ?_;refine qm ?_;refine qA ?_;refine qm ?_;refine qe hK ?_;exact ⟨m0.length - (i + 1), by omega, ⟨i + 1, m, rfl, hH, by omega, hp, pA hs (.inl rfl) _, by omega⟩⟩
   ·have aZ : decide (((k + 1 : Nat) : Int) > 0) = true := by rw [decide_eq_true]; omega
    have gB : (m.map dQ)[k]? = some (dQ (m.getD k 0)) := by
     rw [Qv, δ (by omega)]; simp [ω, δ (show k < m.length by omega)]
    have mV : (m.map dQ)[k + 1]? = some (dQ (m.getD (k + 1) 0)) := by
     rw [Qv, δ (by omega)]; simp [ω, δ (show k + 1 < m.length by omega)]
    refine qq ?_;refine qq ?_;refine QT 105 (.bool (decide (m.getD k 0 > m.getD (k + 1) 0))) [] ?_ (fun ff tmp cY => ?_)
    ·refine qm ?_;refine qg ?_;refine qm ?_;refine qm ?_ (hg := wi aZ);refine qm ?_ (hg := wi aZ);refine Qd (z := ((k : Nat) : Int)) (aq rfl rfl rfl aZ) (ev rfl) (ev rfl) (by  rw [wrap_i64 (by omega) (by omega)] <;> omega) (ae rfl _) ?_;refine qi hH av (fun p98 aaZ => ?_) (hg := wi aZ);refine qo hH av ?_ (hg := wi aZ);refine qm ?_ (hg := wi aZ);refine qm ?_ (hg := wi aZ);refine qi hH av (fun aaM aax => ?_) (hg := wi aZ);refine qo hH av ?_ (hg := wi aZ);refine qg ?_ (hg := wi aZ);refine qt aZ ?_;refine Qq (aY ?_ ?_)
     ·dsimp only [aB, μ, nth, u2, u1]
      all_goals (first | rfl | simp)
     ·dsimp only [QZ, υ, ς, Ω, ψ, nth, Ξ, u1, u2, v1, v2, v3, v4, v5, v6, v7, θ, u3, u4, η, γ, φ]
      all_goals (first | rfl | (simp [aZ]; done) | (simp_all; done) | (simp [aZ]; omega) | (simp_all; omega))
    dsimp only [aB, μ, nth, u2, u1];dsimp only [QZ, υ, ς, Ω, ψ, nth, Ξ, u1, u2, v1, v2, v3, v4, v5, v6, v7, θ, u3, u4, η, γ, φ];have Ry := swap_perm (m := m) (k := k) (by omega);have Bm := fun h => wT (m := m) (i := i) (k := k) (by omega) (by omega) hs h;have hsd := fun (h : m.getD k 0 ≤ m.getD (k + 1) 0) => pA (j := i + 1) hs (.inr (by rw [Nat.add_sub_cancel]; exact h));have v_ : ((m.set k (m.getD (k + 1) 0)).set (k + 1) (m.getD k 0)).map dQ = ((m.map dQ).set k (dQ (m.getD (k + 1) 0))).set (k + 1) (dQ (m.getD k 0)) := by rw [J3, J3]
    have WQ : ((m.map dQ).set k (dQ (m.getD (k + 1) 0)))[k + 1]? = some (dQ (m.getD (k + 1) 0)) := by rw [QC (by omega)]; exact mV
    generalize m.getD k 0 = a at *;generalize m.getD (k + 1) 0 = b at *;refine Φ (by assumption) (fun h2 => ?_) (fun h2 => ?_) <;> try simp only [decide_eq_true_eq, decide_eq_false_iff_not] at h2
    ·refine Δ ?_;refine qq ?_;refine χ ?_;refine qj fun K hK => ?_;refine qm ?_;refine qm ?_;refine Qd (z := ((k : Nat) : Int)) rfl (ev rfl) (ev rfl) (by  rw [wrap_i64 (by omega) (by omega)] <;> omega) (ae rfl _) ?_;refine qm ?_;refine qm ?_;refine qm ?_;refine qm ?_;refine qi hH av fun aaL aaw => ?_;refine qo hH av ?_;refine qm ?_;refine qm ?_;refine Qd (z := ((k : Nat) : Int)) rfl (ev rfl) (ev rfl) (by  rw [wrap_i64 (by omega) (by omega)] <;> omega) (ae rfl _) ?_;refine qi hH av fun aaK aav => ?_;refine qo hH av ?_;refine qi hH av fun aaJ aau => ?_;refine J7 hH rfl (ev rfl) (ev rfl) (by assumption) rfl rfl (by exact av) (by assumption) (ζ rfl) (by exact .inl hF) (fun st hH => ?_);dsimp only [u2, u1, u3, u4, setMany, u5, u6, Θ, γ, ax, dQ] at hH;refine qi hH av fun aaI aat => ?_;refine J7 hH rfl (ev rfl) (ev rfl) (by assumption) rfl rfl (by exact av) (by assumption) (ζ rfl) (by exact .inl hF) (fun st hH => ?_);dsimp only [u2, u1, u3, u4, setMany, u5, u6, Θ, γ, ax, dQ] at hH;refine qe hK ?_;refine qj fun K hK => ?_;refine qm ?_;refine Qd (z := ((k : Nat) : Int)) rfl (ev rfl) (ev rfl) (by  rw [wrap_i64 (by omega) (by omega)] <;> omega) (ae rfl _) ?_;refine qm ?_;refine qe hK ?_;exact ⟨k, by omega, ⟨k, (m.set k b).set (k + 1) a, rfl, (by rw [v_]; exact hH), rfl, Ry.trans hp, Bm h2, by omega⟩⟩
    ·refine Qk ?_;refine qj fun K hK => ?_;refine qm ?_;refine qA ?_;refine qm ?_;refine qe hK ?_;exact ⟨m0.length - (i + 1), by omega, ⟨i + 1, m, rfl, hH, by omega, hp, hsd (by omega), by omega⟩⟩
  ·refine Qk ?_;refine qq ?_;refine qj fun K hK => ?_;refine qm ?_;refine qm ?_;refine qe hK ?_;refine Qz ⟨rx, _, _, rfl, rl bt hH ((hH.freeze av (rB _) (n := 15) (by decide))), ?_⟩;exact ⟨m, rfl, kW ▸ hp, wU (i := i - 1) (by intro a b h1 h2 h3; exact hs a b h1 h2 (by omega)) (by omega)⟩
def ga (fr:Go.V.Fr) (k:Nat):Go.V.D:=Go.V.nth .bD fr.loc k
def gg (l a:List Rg):Prop:=canon a∧∀r,dR a r↔iw r∧dR l r
theorem gg.unique {b:List Rg} (h:gg l a) (g:gg l b):a=b:=og h.1 g.1 fun r=>(h.2 r).trans (g.2 r).symm
noncomputable def eI (l:List Rg):Bool:=@decide (gg l l) (QK _)
theorem t_ (h:gg l a):eI l=decide (l=a):=by
 unfold eI
 by_cases hl:l=a
 ·rw[decide_eq_true hl];exact@decide_eq_true _ (QK _) (by rw[hl] at h⊢;exact h)
 ·rw[decide_eq_false hl];exact@decide_eq_false _ (QK _) (fun g=>hl (g.unique h))
theorem uj (p q:Rg):lb pv .neq 170 (.agg (ax p)) (.agg (ax q))=some (.bool (!decide (p=q))):=by
 have h:∀a b a' b':Int,lb pv .neq 170 (.agg [.int .i32 a,.int .i32 b]) (.agg [.int .i32 a',.int .i32 b'])=Option.map (fun b=>D.bool !b) (match some (a==a') with|some true=>(match some (b==b') with|some true=>some true|some false=>some false|none=>none)|some false=>some false|none=>none):=fun _ _ _ _=>rfl;obtain⟨a,b⟩:=p;obtain⟨a',b'⟩:=q;simp only[ax,h]
 by_cases h1:a=a'
 ·subst h1
  by_cases h2:b=b'
  ·subst h2;simp
  ·have:(b==b')=false:=by simpa using h2
   simp[this,h2]
 ·have:(a==a')=false:=by simpa using h1
  simp[this,h1]
theorem nA {α:Type} {a b:List α} {x y:α} (ha:a[i]?=some x) (hb:b[i]?=some y) (h:a.take i=b.take i) (Uk:x=y):a.take (i+1)=b.take (i+1):=by
 rw[Γ,Γ,h,ha,hb,Uk]
theorem uo {α:Type} {a b:List α} {x y:α} (ha:a[i]?=some x) (hb:b[i]?=some y) (Uk:¬x=y):¬a=b:=by
 intro h;subst h;rw[ha] at hb;exact Uk (QS.inj hb)
theorem Fj {y:D} {m:List Rg} (hx:QF s0 2 x (l.map ax)) (hy:QF s0 2 y (m.map ax)) (hl:l.length≤1073741824) (hm:m.length≤1073741824):Ev pv 145 [x,y] s0 (.bool (decide (l=m))) s0:=by
 refine Ev.h_ rfl VY rfl rfl rfl ?_;dsimp only[u3,u4,θ,η,γ,w1,w2];obtain⟨bt,hF,hH⟩:=ri s0;generalize ah .ro s0=S at*;have hx:=QL hx bt;have hy:=QL hy bt;refine qq<|qj fun K hK=>qm ?_;refine qe hK<|qq<|qq<|qj fun K hK=>qm ?_;refine qn ?_;simp only[ε];refine qm ?_;refine qn ?_;simp only[ε];refine qg ?_;refine qe hK ?_
 by_cases hlen:l.length=m.length
 ·refine Φ (v:=false) ?_ (fun h=>by cases h) (fun _=>?_)
  ·dsimp only[Ω,ψ,nth,Ξ];rw[hlen];simp
  refine Δ<|qq<|qq<|qj fun K hK=>qm ?_;refine qn ?_;simp only[ε];refine qm ?_;refine qe hK<|χ<|QY (fun mm fr st=>∃(i:Nat),fr.clean=⟨14,[x,y,ga fr 2,ga fr 3,.bool false,ga fr 5,ga fr 6,ga fr 7,ga fr 8,ga fr 9,ga fr 10,ga fr 11,.int .i64 (l.length:Nat),.int .i64 (i:Nat)],[]⟩∧Has s0.bs.length S st []∧(i+mm=l.length)∧(l.take i=m.take i)) (l.length) ?_ ?_
  ·exact⟨0,rfl,hH,by omega,rfl⟩
  rintro mm fr st ⟨i,hfr,hH,hi,ht⟩;rw[hfr];clear hfr;generalize ga fr=ee;clear fr;refine qq<|qj fun K hK=>qg ?_;refine qe hK<|qq ?_;refine Φ (by rfl) (fun h1=>?_) (fun h1=>?_)<;>try simp only[decide_eq_true_eq,decide_eq_false_iff_not] at h1
  ·refine Δ ?_
   obtain⟨p,hp⟩:∃p,l[i]?=some p:=⟨l[i]'(by omega),δ _⟩
   obtain⟨q,hq⟩:∃q,m[i]?=some q:=⟨m[i]'(by omega),δ _⟩
   have gB:=dZ hp;have mV:=dZ hq;refine qq<|χ<|qq<|qj fun K hK=>qm ?_;refine qm ?_;refine qe hK<|qq<|qj fun K hK=>qm ?_;refine qm ?_;refine qr fun p18 UJ=>?_;refine J0 rfl (ev rfl) (by assumption) rfl (ae rfl _) ?_;refine qm ?_;refine qm ?_;refine qr fun TZ ER=>?_;refine J0 rfl (ev rfl) (by assumption) rfl (ae rfl _) ?_;refine aa.S6 rfl (ev rfl) (ev rfl) (uj p q) (ae rfl _) ?_;refine qe hK ?_;refine Φ (by rfl) (fun h2=>?_) (fun h2=>?_)<;>try simp only[decide_eq_true_eq,decide_eq_false_iff_not,Qm,Qi] at h2
   ·refine qq<|qj fun K hK=>qm ?_;refine qe hK ?_;rw[decide_eq_false (uo hp hq (by simpa using h2))];refine Qz ⟨rx,_,rfl,rl bt hH (rfl)⟩
   ·refine Δ<|qj fun K hK=>qA ?_;refine qm ?_;refine qe hK ?_;exact⟨mm-1,by omega,⟨i+1,rfl,hH,by omega,nA hp hq ht (by simpa using h2)⟩⟩
  ·refine Qk<|qq<|qj fun K hK=>qm ?_;refine qe hK ?_;rw[decide_eq_true (by rw[π (by omega),π (by omega)] at ht;exact ht)];refine Qz ⟨rx,_,rfl,rl bt hH (rfl)⟩
 ·refine Φ (v:=true) ?_ (fun _=>?_) (fun h=>by cases h)
  ·dsimp only[Ω,ψ,nth,Ξ];simp;omega
  refine qq<|qj fun K hK=>qm ?_;refine qe hK ?_;rw[decide_eq_false (fun h=>hlen (by rw[h]))];refine Qz ⟨rx,_,rfl,rl bt hH (rfl)⟩
theorem xf (hx:QF s0 2 x (l.map ax)) (hl:l.length≤1048576):Ev pv 132 [x] s0 (.bool (eI l)) s0:=by
 refine Ev.h_ rfl V7 rfl rfl rfl ?_;dsimp only[u3,u4,θ,η,γ,w1,w2];obtain⟨bt,hF,hH⟩:=ri s0;generalize ah .ro s0=S at*;have hx:=QL hx bt;refine qq<|qj fun K hK=>qm ?_;refine qe hK ?_;obtain⟨_,aL,all,rfl,hperm,mF⟩:=Bf (hx.rows hH) (by omega);have hM:gg l (all.foldl ec []).reverse:=rW (fun x=>hperm.mem_iff) mF;have hlen:=hperm.length_eq;have nT:=jz l;have jI:=sc all;rw[t_ hM];refine qq<|qj fun K hK=>qm ?_;refine qm ?_;refine qv (aL) ?_;refine qv (Fj (hx.rows hH) (fh _ _) (by omega) (by rw[ρ];omega)) ?_;refine qm ?_;refine qe hK<|Qz ⟨rx,_,rfl,rl bt hH (rfl)⟩
theorem D4 {acc:List Rg} {lo hi:Int} (hF:S.flr≤N) (hH:Has N S st (.aO x 2 (acc.reverse.map ax)::H)) (hl:acc.length≤536870912) (hb:∀k∈acc,0≤k.2+1∧k.2+1≤2147483647):
  ∃x' ai,Ev pv 157 [x,.int .i32 lo,.int .i32 hi] st x' ai∧Has N S ai (.aO x' 2 ((e5 acc lo hi).reverse.map ax)::H):=by
 refine Ev.iD rfl VP rfl rfl rfl ?_;dsimp only[u3,u4,θ,η,γ,w1,w2];change ab _ _ _ _ st _;refine qq<|qj fun K hK=>qm ?_;refine qe hK ?_
 rcases acc with _|⟨h,t⟩
 ·have aR:decide (((([]:List Rg).reverse.map ax).length:Int)>0)=false:=by decide
  refine qq<|qq<|QT 21 (.bool false) [] ?_ (fun ff tmp cY=>?_)
  ·refine qm ?_;refine qn ?_ (hR:=hH.rows av);simp only[ε,τ,ρ];refine qg ?_;refine qm ?_;refine qs ?_ (hg:=wn aR);refine qs ?_ (hg:=wn aR);refine qs ?_ (hg:=wn aR);refine qs ?_ (hg:=wn aR);refine qs ?_ (hg:=wn aR);refine qs ?_ (hg:=wn aR);refine qs ?_ (hg:=wn aR);refine qs ?_ (hg:=wn aR);refine qs ?_ (hg:=wn aR);refine qs ?_ (hg:=wn aR);refine qu aR ?_;refine Qq (aY ?_ ?_)
   ·dsimp only[aB,μ,nth,u2,u1]
    all_goals(first|rfl|simp)
   ·dsimp only[QZ,υ,ς,Ω,ψ,nth,look,u1,u2,v1,v2,v4]
    all_goals(rfl)
  dsimp only[aB,μ,nth,u2,u1];refine qC ?_;refine Δ<|qq<|qj fun K hK=>qm ?_;refine qm ?_;refine qm ?_;refine qg ?_;refine qh (s:=2) (vs:=[_]) hH fun k34 st YE hH=>?_;dsimp only[u2,u1,u3,u4,setMany,u5,u6,Θ,γ,ax] at hH;refine Ql (s:=2) hH rfl (ev rfl) (ev rfl) (by exact bh) (by exact hH.rows (by exact av)) rfl rfl rfl rfl rfl rfl rfl ⟨(ζ rfl),(ζ rfl)⟩ (fun _=>(ae rfl _)) (by simp only[κ,τ,ε,ρ]<;>omega) (by exact .inl hF) (fun x35 st hH=>?_);dsimp only[u2,u1,u3,u4,setMany,u5,u6,Θ,γ,ax] at hH;refine qm ?_;refine qe hK<|Qz ⟨rx,_,_,_,rfl,rfl,?_⟩;exact hH.drop 1
 ·have pO:=xV h t;have fO:=xU h (h.1,hi) t;have hbh:=hb h (ν ..);simp only[κ] at hl;have aR:decide (((t.length+1:Nat):Int)>0)=true:=by rw[decide_eq_true];omega
  refine qq<|qq<|QT 21 (.bool (decide (h.2+1=lo))) [] ?_ (fun ff tmp cY=>?_)
  ·refine qm ?_;refine qn ?_ (hR:=hH.rows av);simp only[ε,κ,ρ];refine qg ?_;refine qm ?_;refine qm ?_ (hg:=wi aR);refine qm ?_ (hg:=wi aR);refine qn ?_ (hR:=hH.rows av) (hg:=wi aR);simp only[ε,κ,ρ];refine Qd (z:=((t.length:Nat):Int)) (aq rfl rfl rfl aR) (ev rfl) (ev rfl) (by rw[wrap_i64 (by omega) (by omega)]<;>omega) (ae rfl _) ?_;refine qi hH av (fun WJ Mz=>?_) (hg:=wi aR);refine J4 (fo:=1) (m:=0) (o2:=1) (aq rfl rfl rfl aR) (ev rfl) (by assumption) rfl rfl rfl (fun _=>(ae rfl _)) (fun p16 UK=>?_);refine qo hH av ?_ (hg:=wi aR);refine J9 (aq rfl rfl rfl aR) (ev rfl) (ev rfl) (by omega) (by omega) (ae rfl _) ?_;refine qm ?_ (hg:=wi aR);refine qg ?_ (hg:=wi aR);refine qt aR ?_;refine Qq (aY ?_ ?_)
   ·dsimp only[aB,μ,nth,u2,u1]
    all_goals(first|rfl|simp)
   ·dsimp only[QZ,υ,ς,Ω,ψ,nth,look,u1,u2,v1,v2,v4]
    all_goals(rfl)
  dsimp only[aB,μ,nth,u2,u1];refine Φ (by assumption) (fun h2=>?_) (fun h2=>?_)<;>try simp only[decide_eq_true_eq,decide_eq_false_iff_not] at h2
  ·refine qq<|qj fun K hK=>qm ?_;refine qm ?_;refine qn ?_ (hR:=hH.rows av);simp only[ε,κ,ρ];refine Qd (z:=((t.length:Nat):Int)) rfl (ev rfl) (ev rfl) (by rw[wrap_i64 (by omega) (by omega)]<;>omega) (ae rfl _) ?_;refine qm ?_;refine qi hH av fun Xy RV=>?_;refine J4 (fo:=1) (m:=0) (o2:=1) rfl (ev rfl) (by assumption) rfl rfl rfl (fun _=>(ae rfl _)) (fun Xx RU=>?_);refine J7 hH rfl (ev rfl) (ev rfl) (by assumption) rfl rfl (by exact av) (by assumption) (ζ rfl) (by exact .inl hF) (fun st hH=>?_);dsimp only[u2,u1,u3,u4,setMany,u5,u6,Θ,γ,ax] at hH;refine qe hK<|qq<|qj fun K hK=>qm ?_;refine qm ?_;refine qe hK<|Qz ⟨rx,_,_,_,rfl,rfl,?_⟩;simp only[e5,if_pos h2];rw[←fO];exact hH
  ·refine Δ<|qq<|qj fun K hK=>qm ?_;refine qm ?_;refine qm ?_;refine qg ?_;refine qh (s:=2) (vs:=[_]) hH fun k34 st YE hH=>?_;dsimp only[u2,u1,u3,u4,setMany,u5,u6,Θ,γ,ax] at hH;refine Ql (s:=2) hH rfl (ev rfl) (ev rfl) (by exact bh) (by exact hH.rows (by exact av)) rfl rfl rfl rfl rfl rfl rfl ⟨(ζ rfl),(ζ rfl)⟩ (fun _=>(ae rfl _)) (by simp only[κ,τ,ε,ρ]<;>omega) (by exact .inl hF) (fun x35 st hH=>?_);dsimp only[u2,u1,u3,u4,setMany,u5,u6,Θ,γ,ax] at hH;refine qm ?_;refine qe hK<|Qz ⟨rx,_,_,_,rfl,rfl,?_⟩;simp only[e5,if_neg h2];rw[QV (a:=(lo,hi)),QJ];exact hH.drop 1
theorem Cc (acc:List Rg) (lo hi:Int):(e5 acc lo hi).length≤acc.length+1:=by
 unfold e5;split
 ·simp
 ·split<;>simp
theorem Re (l:List Rg) (a b:Int):S4 l true a b=((decide (a<b) &&(decide (a<55296)||decide (a>57343))) &&iA l a):=by
 unfold S4;cases iA l a<;>simp
theorem zm (hx:QF s0 2 x (l.map ax)) (hl:l.length≤134217728):∃d,Ev pv 147 [x] s0 d s0∧∃a:List Rg,d=bS a∧gg l a:=by
 refine Ev.Db rfl VW rfl rfl rfl ?_;dsimp only[u3,u4,θ,η,γ,w1,w2];obtain⟨bt,hF,hH⟩:=ri s0;generalize ah .ro s0=S at*;have hx:=QL hx bt;refine qq<|qj fun K hK=>qm ?_;refine qe hK ?_;obtain⟨_,aL,m,rfl,hperm,mF⟩:=Ew (hx.rows hH) (by omega);have hlen:=hperm.length_eq;have nT:=pa l;have zX:m.length=4+(l.flatMap iG).length:=by rw[hlen];simp[fZ];omega
 have hmr:∀q∈m,0≤q∧q≤1114112:=by
  intro q hq;have:=hperm.mem_iff.1 hq;simp only[fZ,Qy,ι,Qx,or_false,QQ] at this
  rcases this with(h|h|h|h)|⟨y,_,hy⟩
  ·omega
  ·omega
  ·omega
  ·omega
  ·unfold iG at hy
   split at hy<;>split at hy<;>simp at hy<;>omega
 have hM:=tE (l:=l) (m:=m) true (fun q=>by
  rw[hperm.mem_iff]
  simp only[fZ,Qy,ι,Qx,or_false,QQ,or_assoc]) mF
 have hMI:gg l (fR l true m []).reverse:=⟨hM.1,fun r=>by rw[hM.2 r];simp⟩
 refine qq<|qj fun K hK=>qm ?_;refine qv (aL) ?_;refine qm ?_;refine qe hK ?_;have kW:=J8 (N:=s0.bs.length) (S:=S) (s:=1) (es:=(m.map dQ).map (jR 1)) (fun st=>w_ st m);change Arg s0.bs.length S 1 (vg m) _ at kW;refine qq<|qj fun K hK=>qm ?_;refine qe hK<|qq<|qq<|qj fun K hK=>qm ?_;refine qe hK ?_;have hH:=hH.ew 2;refine χ<|QY (fun mm fr st=>∃(i:Nat) (y:D) (acc:List Rg),fr.clean=⟨6,[x,ga fr 1,ga fr 2,vg m,y,.int .i64 (i:Nat)],[]⟩∧Has s0.bs.length S st [.aO y 2 (acc.reverse.map ax)]∧(i+mm=m.length)∧(fR l true (m.drop i) acc=fR l true m [])∧(acc.length≤i)∧(∀k∈acc,0≤k.2+1∧k.2+1≤1114112)) (m.length) ?_ ?_
 ·exact⟨0,.nul,[],rfl,hH,by omega,rfl,by simp,by simp⟩
 rintro mm fr st ⟨i,y,acc,hfr,hH,hi,hp,hal,hab⟩;rw[hfr];clear hfr;generalize ga fr=ee;clear fr;refine qq<|qq<|qj fun K hK=>qm ?_;refine qA ?_;refine qm ?_;refine qn ?_;simp only[ε];refine qg ?_;refine qe hK ?_;refine Φ (by rfl) (fun h1=>?_) (fun h1=>?_)<;>try simp only[decide_eq_true_eq,decide_eq_false_iff_not] at h1
 ·refine Δ ?_
  obtain⟨a,ha⟩:∃a,m[i]?=some a:=⟨m[i]'(by omega),δ _⟩
  obtain⟨b,hb⟩:∃b,m[i+1]?=some b:=⟨m[i+1]'(by omega),δ _⟩
  have gB:=xb ha;have mV:=xb hb;have hbr:=hmr b (Qe hb);have har:=hmr a (Qe ha)
  have tI:m.drop i=a::b::m.drop (i+2):=by
   rw[Ψ (by omega),Ψ (by omega)];rw[δ (by omega)] at ha hb;rw[QS.inj ha,QS.inj hb]
  have Y1:m.drop (i+1)=b::m.drop (i+2):=by
   rw[Ψ (by omega)];rw[δ (by omega)] at hb;rw[QS.inj hb]
  rw[tI,fR,←Y1,Re] at hp;refine qq<|χ<|qq<|QT 46 (.bool ((decide (a<b) &&(decide (a<55296)||decide (a>57343))) &&iA l a)) [] ?_ (fun ff tmp cY=>?_)
  ·refine qm ?_;refine qm ?_;refine qr fun XA RX=>?_;refine qR ?_;refine qm ?_;refine qm ?_;refine qA ?_;refine qr fun TZ ER=>?_;refine qR ?_;refine qg ?_;refine qm ?_;refine QR 25 rfl (fun aX=>?_) (fun aX=>?_)
   ·refine qm ?_ (hg:=wi aX);refine qm ?_ (hg:=wi aX);refine qr (fun Xx RU=>?_) (hg:=wi aX);refine qR ?_ (hg:=wi aX);refine qg ?_ (hg:=wi aX);refine qm ?_ (hg:=wi aX);refine QR 31 rfl (fun mA=>?_) (fun mA=>?_)
    ·refine qs ?_ (hg:=wn mA);refine qs ?_ (hg:=wn mA);refine qs ?_ (hg:=wn mA);refine qs ?_ (hg:=wn mA);refine qs ?_ (hg:=wn mA);refine aa.dI (aq rfl rfl rfl aX) rfl mA (ae rfl _) ?_;refine qt aX ?_;refine qm ?_;refine qm ?_;refine qm ?_;refine qm ?_;refine qr fun Xt RQ=>?_;refine qR ?_;refine qv (oL (hx.rows hH) (by omega)) ?_;refine qg ?_;refine Qq (aY ?_ ?_)
     ·dsimp only[aB,μ,nth,u2,u1]
      all_goals(first|rfl|simp)
     ·dsimp only[QZ,υ,ς,Ω,ψ,nth,Ξ,u1,u2,v1,v2,v3,v4,v5,v6,v7,θ,u3,u4,η,γ,φ]
      all_goals(simp[aX,mA];done)
    ·refine qm ?_ (hg:=wi mA);refine qm ?_ (hg:=wi mA);refine qr (fun p34 Yo=>?_) (hg:=wi mA);refine qR ?_ (hg:=wi mA);refine qg ?_ (hg:=wi mA);refine aa.de (aq rfl rfl rfl aX) rfl mA (ae rfl _) ?_;refine qt aX ?_;refine qm ?_;refine QR 39 rfl (fun dE=>?_) (fun dE=>?_)
     ·refine qm ?_ (hg:=wi dE);refine qm ?_ (hg:=wi dE);refine qm ?_ (hg:=wi dE);refine qr (fun Xt RQ=>?_) (hg:=wi dE);refine qR ?_ (hg:=wi dE);refine qv (oL (hx.rows hH) (by omega)) ?_ (hg:=wi dE);refine qt dE ?_;refine Qq (aY ?_ ?_)
      ·dsimp only[aB,μ,nth,u2,u1]
       all_goals(first|rfl|simp)
      ·dsimp only[QZ,υ,ς,Ω,ψ,nth,Ξ,u1,u2,v1,v2,v3,v4,v5,v6,v7,θ,u3,u4,η,γ,φ]
       all_goals(simp[aX,mA,dE];done)
     ·refine qs ?_ (hg:=wn dE);refine qs ?_ (hg:=wn dE);refine qs ?_ (hg:=wn dE);refine qs ?_ (hg:=wn dE);refine qs ?_ (hg:=wn dE);refine qs ?_ (hg:=wn dE);refine qu dE ?_;refine Qq (aY ?_ ?_)
      ·dsimp only[aB,μ,nth,u2,u1]
       all_goals(first|rfl|simp)
      ·dsimp only[QZ,υ,ς,Ω,ψ,nth,Ξ,u1,u2,v1,v2,v3,v4,v5,v6,v7,θ,u3,u4,η,γ,φ]
       all_goals(simp[aX,mA,dE];done)
   ·refine qs ?_ (hg:=wn aX);refine qs ?_ (hg:=wn aX);refine qs ?_ (hg:=wn aX);refine qs ?_ (hg:=wn aX);refine qs ?_ (hg:=wn aX);refine qs ?_ (hg:=wn aX);refine qs ?_;refine qs ?_;refine qs ?_;refine qs ?_;refine qs ?_;refine qs ?_ (hg:=wn aX);refine qu aX ?_;refine qm ?_;refine qs ?_;refine qs ?_;refine qs ?_;refine qs ?_;refine qs ?_;refine qs ?_;refine qg ?_;refine Qq (aY ?_ ?_)
    ·dsimp only[aB,μ,nth,u2,u1]
     all_goals(first|rfl|simp)
    ·dsimp only[QZ,υ,ς,Ω,ψ,nth,Ξ,u1,u2,v1,v2,v3,v4,v5,v6,v7,θ,u3,u4,η,γ,φ]
     all_goals(simp[aX];done)
  dsimp only[aB,μ,nth,u2,u1];dsimp only[QZ,υ,ς,Ω,ψ,nth,Ξ,u1,u2,v1,v2,v3,v4,v5,v6,v7,θ,u3,u4,η,γ,φ];refine qc (fun h2=>?_) (fun h2=>?_)<;>try simp only[cs] at h2
  ·rw[h2,if_pos rfl] at hp;have ib:=Cc acc a (b-1);obtain⟨x',ai,YY,NO⟩:=D4 (acc:=acc) (lo:=a) (hi:=b-1) hF hH (by omega) (fun k hk=>by have:=hab k hk;omega);refine qj fun K hK=>qm ?_;refine qm ?_;refine qm ?_;refine qr fun Xr RO=>?_;refine qR ?_;refine qm ?_;refine qm ?_;refine qA ?_;refine qr fun p55 UC=>?_;refine qR ?_;refine aa.NR rfl (ev rfl) (ev rfl) (by omega) (by omega) (ae rfl _) ?_;refine qv (YY) ?_;refine qm ?_;refine qe hK ?_;have hH:=NO;refine qj fun K hK=>qm ?_;refine qA ?_;refine qm ?_;refine qe hK ?_;refine⟨mm-1,by omega,⟨i+1,x',e5 acc a (b-1),rfl,hH,by omega,hp,by omega,?_⟩⟩;intro k hk;unfold e5 at hk
   split at hk
   ·simp only[ι,Qx,or_false] at hk;subst hk;simp only;omega
   ·rename_i h t
    split at hk
    ·rcases ι.1 hk with rfl|hk
     ·simp only;omega
     ·exact hab k (ξ _ hk)
    ·rcases ι.1 hk with rfl|hk
     ·simp only;omega
     ·exact hab k hk
  ·rw[h2] at hp;refine Δ<|qj fun K hK=>qm ?_;refine qA ?_;refine qm ?_;refine qe hK ?_;exact⟨mm-1,by omega,⟨i+1,y,acc,rfl,hH,by omega,hp,by omega,hab⟩⟩
 ·refine Qk<|qq<|qj fun K hK=>qm ?_;refine qm ?_;refine qe hK ?_
  have gb:acc=fR l true m []:=by
   rw[←hp];have WX:(m.drop i).length≤1:=by rw[Qr];omega
   match hd:m.drop i,WX with
   |[],_=>rfl
   |[_],_=>rfl
  refine Qz ⟨rx,_,_,rfl,rl bt hH ((hH.freeze av (eo _) (n:=15) (by decide))),?_⟩;exact⟨acc.reverse,by rw[gW],by rw[gb];exact hMI⟩
theorem xk (hx:QF s0 2 x (l.map ax)) (hl:l.length≤1048576):Ev pv 134 [x] s0 (.bool (eI l)) s0:=by
 refine Ev.h_ rfl V5 rfl rfl rfl ?_;dsimp only[u3,u4,θ,η,γ,w1,w2];obtain⟨bt,hF,hH⟩:=ri s0;generalize ah .ro s0=S at*;have hx:=QL hx bt;refine qq<|qj fun K hK=>qm ?_;refine qe hK ?_;obtain⟨_,aL,m,rfl,hM⟩:=zm (hx.rows hH) (by omega);rw[t_ hM];refine qq<|qj fun K hK=>qm ?_;refine qv (aL) ?_;refine qm ?_;refine qe hK ?_;have kW:Arg s0.bs.length S 2 (bS m) (m.map ax):=J8 (fun st=>fh st m);refine qq<|qq<|qj fun K hK=>qm ?_;refine qn ?_;simp only[ε];refine qm ?_;refine qn ?_;simp only[ε];refine qg ?_;refine qe hK ?_
 by_cases hlen:m.length=l.length
 ·refine Φ (v:=false) ?_ (fun h=>by cases h) (fun _=>?_)
  ·dsimp only[Ω,ψ,nth,Ξ];rw[hlen];simp
  refine Δ<|qq<|qq<|qj fun K hK=>qm ?_;refine qe hK<|χ<|QY (fun mm fr st=>∃(i:Nat),fr.clean=⟨5,[x,ga fr 1,.bool false,bS m,.int .i64 (i:Nat)],[]⟩∧Has s0.bs.length S st []∧(i+mm=l.length)∧(l.take i=m.take i)) (l.length) ?_ ?_
  ·exact⟨0,rfl,hH,by omega,rfl⟩
  rintro mm fr st ⟨i,hfr,hH,hi,ht⟩;rw[hfr];clear hfr;generalize ga fr=ee;clear fr;refine qq<|qq<|qj fun K hK=>qm ?_;refine qm ?_;refine qn ?_;simp only[ε];refine qg ?_;refine qe hK ?_;refine Φ (by rfl) (fun h1=>?_) (fun h1=>?_)<;>try simp only[decide_eq_true_eq,decide_eq_false_iff_not] at h1
  ·refine Δ ?_
   obtain⟨p,hp⟩:∃p,l[i]?=some p:=⟨l[i]'(by omega),δ _⟩
   obtain⟨q,hq⟩:∃q,m[i]?=some q:=⟨m[i]'(by omega),δ _⟩
   have gB:=dZ hp;have mV:=dZ hq;refine qq<|χ<|qq<|qj fun K hK=>qm ?_;refine qm ?_;refine qr fun Q_ zT=>?_;refine J0 rfl (ev rfl) (by assumption) rfl (ae rfl _) ?_;refine qm ?_;refine qm ?_;refine qr fun Q9 zS=>?_;refine J0 rfl (ev rfl) (by assumption) rfl (ae rfl _) ?_;refine aa.S6 rfl (ev rfl) (ev rfl) (uj q p) (ae rfl _) ?_;refine qe hK ?_;refine Φ (by rfl) (fun h2=>?_) (fun h2=>?_)<;>try simp only[decide_eq_true_eq,decide_eq_false_iff_not,Qm,Qi] at h2
   ·refine qq<|qj fun K hK=>qm ?_;refine qe hK ?_;rw[decide_eq_false (uo hp hq (by simpa[eq_comm] using h2))];refine Qz ⟨rx,_,rfl,rl bt hH (rfl)⟩
   ·refine Δ<|qj fun K hK=>qm ?_;refine qA ?_;refine qm ?_;refine qe hK ?_;exact⟨mm-1,by omega,⟨i+1,rfl,hH,by omega,nA hp hq ht (by simpa[eq_comm] using h2)⟩⟩
  ·refine Qk<|qq<|qj fun K hK=>qm ?_;refine qe hK ?_;rw[decide_eq_true (by rw[π (by omega),π (by omega)] at ht;exact ht)];refine Qz ⟨rx,_,rfl,rl bt hH (rfl)⟩
 ·refine Φ (v:=true) ?_ (fun _=>?_) (fun h=>by cases h)
  ·dsimp only[Ω,ψ,nth,Ξ];simp;omega
  refine qq<|qj fun K hK=>qm ?_;refine qe hK ?_;rw[decide_eq_false (fun h=>hlen (by rw[h]))];refine Qz ⟨rx,_,rfl,rl bt hH (rfl)⟩
end Go.Proofs.YtbdnabmmlbiomaaGreat
