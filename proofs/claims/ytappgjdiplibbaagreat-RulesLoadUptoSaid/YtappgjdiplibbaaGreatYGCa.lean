/-
 Ranges of runes: the canonical form, by plain lists. No program in sight.
-/
import Derived.Test.YtappgjdiplibbaaGreatYGHs
import Derived.Test.YtappgjdiplibbaaGreatYPx
import Derived.Test.YtappgjdiplibbaaGreatYM2
import Derived.KernelRfl
import Derived.Test.YtappgjdiplibbaaGreatYKa
set_option linter.all false
set_option maxRecDepth 100000
set_option maxHeartbeats 4000000
open List renaming getElem?_eq_getElem->γ,mem_cons_self->δ,mem_cons_of_mem->ε,pairwise_cons->ζ,mem_cons->η,length_cons->θ,take_of_length_le->ι,getD_eq_getElem?_getD->μ,getElem?_map->ν,length_map->ξ,length_append->ο,take_add_one->π,drop_eq_getElem_cons->ς,map_append->τ,length_drop->φ,mem_flatMap->ψ,length_nil->ω,length_reverse->Δ,mem_map->Θ,reverse_cons->Φ,mem_reverse->Ω,foldl->Q4,mem_append->Q7,set_append_right->Q9,getElem?_set_ne->QX,append_assoc->QY,length_take->QV,getLast?_eq_some_getLast->QC,append_nil->QT,length_set->Qe,pairwise_iff_getElem->Qu,getElem?_set_self->W4,pairwise_reverse->Wv,mem_of_getElem?->WM,mem_of_mem_take->WN,flatMap_append->X7,flatMap_cons->X9,take_length->Z9,Pairwise->ZD,map_set->ZC
open BitVec renaming ofInt->κ
open Go.V renaming byteCells->ρ,Rows->QQ,look->Za
open Nat renaming reduceAdd->υ,mul_comm->Wk,le_of_ble_eq_true->WA,le_refl->X8,lt_or_ge->ZE
open Go.V.u renaming nil->χ,cJ->W',len->Zb,F_->Zf
open Int renaming le_refl->Γ,toNat->W0,lt_or_le->Wz,le_antisymm->ZK
open Classical renaming propDecidable->Ξ
open Go.V.Fr renaming get->Ψ,clean->Q2,ev->QW,put->QS,eS->W5
open Go.IntKind renaming i32->Q6,u8->ZF
open Option renaming some->QK
open Go.V.Arg renaming of->QG,pure->Wg
open Go.V.D renaming cells->QH,ref->ZT
open Go.IntKind renaming i32->vJ,i64->W
open Go.V.D renaming agg->y4,bool->wt,int->J,nul->j5
open Or renaming inl->xR,inr->j4
namespace Go.V
abbrev Rg:=Int×Int
def cS (l:List Rg) (r:Int):Prop:=∃x,x∈l/\x.1<=r/\r<=x.2
def eU (r:Int):¬cS [] r:=by rintro⟨x,h,_⟩;cases h
variable{x:Rg}{l:List Rg}{r:Int}
def bh:cS (x::l) r↔(x.1<=r/\r<=x.2)\/cS l r:=by
 constructor
 .rintro⟨y,hy,h⟩
  rcases η.1 hy with rfl|hy
  .exact xR h
  exact j4 ⟨y,hy,h⟩
 rintro(h|⟨y,hy,h⟩);·exact⟨x,δ ..,h⟩
 exact⟨y,ε _ hy,h⟩
variable{a b:List Rg}
def CN:cS (a++b) r↔cS a r\/cS b r:=by
 constructor
 .rintro⟨y,hy,h⟩
  rcases Q7.1 hy with hy|hy
  .exact xR ⟨y,hy,h⟩
  exact j4 ⟨y,hy,h⟩
 rintro(⟨y,hy,h⟩|⟨y,hy,h⟩);·exact⟨y,List.mem_append_left _ hy,h⟩
 exact⟨y,List.mem_append_right _ hy,h⟩
def sV (h:∀x,x∈a↔x∈b) (r:Int):cS a r↔cS b r:=by
 constructor;·rintro⟨y,hy,hh⟩;exact⟨y,(h y).1 hy,hh⟩
 rintro⟨y,hy,hh⟩;exact⟨y,(h y).2 hy,hh⟩
def canon (l:List Rg):Prop:=(∀x∈l,x.1<=x.2)/\l.Pairwise λx y=>x.2+1<y.1
def kc (h:canon (x::l)):canon l/\x.1<=x.2/\∀r,cS l r->x.2+1<r:=by
 obtain⟨h1,X⟩:=h;rw[ζ] at X;refine⟨⟨λy hy=>h1 y (ε _ hy),X.2⟩,h1 x (δ ..),?_⟩;rintro r ⟨y,hy,h3,h4⟩;have:=X.1 y hy;omega
def se:∀{a b:List Rg},canon a->canon b->(∀r,cS a r↔cS b r)->a=b
 |[],[],_,_,_=>rfl
 |[],y::b,_,F,h=>by
  obtain⟨_,h1,_⟩:=kc F;exact absurd ((h y.1).2 (bh.2 (xR ⟨Γ _,h1⟩))) (eU _)
 |x::a,[],ha,_,h=>by
  obtain⟨_,h1,_⟩:=kc ha;exact absurd ((h x.1).1 (bh.2 (xR ⟨Γ _,h1⟩))) (eU _)
 |x::a,y::b,ha,F,h=>by
  obtain⟨ca,xa,fa⟩:=kc ha;obtain⟨cb,yb,fb⟩:=kc F
  have low:∀{x y:Rg} {a b:List Rg},x.1<=x.2->(∀r,cS b r->y.2+1<r)->y.1<=y.2->(∀r,cS (x::a) r->cS (y::b) r)->y.1<=x.1:=by
   intro x y a b hx hf hy hh
   rcases bh.1 (hh x.1 (bh.2 (xR ⟨Γ _,hx⟩))) with h|h
   .exact h.1
   have:=hf _ h;omega
  have e1:x.1=y.1:=ZK (low yb fa xa λr=>(h r).2) (low xa fb yb λr=>(h r).1)
  have up:∀{x y:Rg} {a b:List Rg},x.1<=x.2->x.1=y.1->(∀r,cS a r->x.2+1<r)->(∀r,cS (y::b) r->cS (x::a) r)->y.2<=x.2:=by
   intro x y a b hx he hf hh
   rcases Wz x.2 y.2 with h'|h'
   .rcases bh.1 (hh (x.2+1) (bh.2 (xR ⟨by omega,by omega⟩))) with h|h
    .omega
    have:=hf _ h;omega
   exact h'
  have e2:x.2=y.2:=ZK (up yb e1.symm fb λr=>(h r).1) (up xa e1 fa λr=>(h r).2);have e:x=y:=Prod.ext e1 e2;subst e
  congr 1
  refine se ca cb λr=>⟨λhr=>?_,λhr=>?_⟩
  .have:=fa r hr
   rcases bh.1 ((h r).1 (bh.2 (j4 hr))) with h|h
   .omega
   exact h
  have:=fb r hr
  rcases bh.1 ((h r).2 (bh.2 (j4 hr))) with h|h
  .omega
  exact h
def ek (acc:List Rg) (r:Rg):List Rg:=
 match acc with
 |[]=>[r]
 |k::rest=>if r.1<=k.2+1 then(k.1,max k.2 r.2)::rest else r::k::rest
def rJ:∀(l acc:List Rg),(∀x∈l,x.1<=x.2)->l.Pairwise (λx y=>x.1<=y.1)->(∀k∈acc.head?,∀x∈l,k.1<=x.1)->(∀x∈acc,x.1<=x.2)->acc.Pairwise (λx y=>y.2+1<x.1)->
  (∀x∈l.foldl ek acc,x.1<=x.2)/\(l.foldl ek acc).Pairwise (λx y=>y.2+1<x.1)/\∀r,cS (l.foldl ek acc) r↔cS acc r\/cS l r
 |[],acc,_,_,_,h1,X=>⟨h1,X,λr=>⟨xR,λh=>h.resolve_right (eU r)⟩⟩
 |x::l,acc,hl,B,A,h1,X=>by
  rw[ζ] at B;have hx:=hl x (δ ..);have iv:∀y∈l,y.1<=y.2:=λy hy=>hl y (ε _ hy);rw[List.foldl_cons]
  cases acc with
  |nil=>
   obtain⟨g1,g2,g3⟩:=rJ l [x] iv B.2 (λk lx y hy=>by simp at lx;subst lx;exact B.1 y hy) (λy hy=>by simp at hy;subst hy;exact hx) (by simp);refine⟨g1,g2,λr=>(g3 r).trans ?_⟩;rw[bh (l:=l),bh (l:=[])];constructor
   .rintro((h|h)|h);·exact j4 (xR h)
    .exact absurd h (eU r)
    exact j4 (j4 h)
   rintro(h|h|h);·exact absurd h (eU r)
   .exact xR (xR h)
   exact j4 h
  |cons k rest=>
   have hkx:=A k rfl x (δ ..);have hkk:=h1 k (δ ..);rw[ζ] at X;unfold ek
   by_cases hc:x.1<=k.2+1
   .simp only[if_pos hc]
    obtain⟨g1,g2,g3⟩:=rJ l ((k.1,max k.2 x.2)::rest) iv B.2 (λq hq y hy=>by simp at hq;subst hq;have:=B.1 y hy;simp only;omega) (λy hy=>by
     rcases η.1 hy with rfl|hy
     .simp only;omega
     exact h1 y (ε _ hy)) (by rw[ζ];exact⟨X.1,X.2⟩)
    refine⟨g1,g2,λr=>(g3 r).trans ?_⟩;rw[bh (l:=rest),bh (l:=rest),bh (l:=l)];constructor
    .rintro((h|h)|h)
     .simp only at h
      by_cases hr:r<=k.2;·exact xR (xR ⟨h.1,hr⟩)
      exact j4 (xR ⟨by omega,by omega⟩)
     .exact xR (j4 h)
     exact j4 (j4 h)
    rintro((h|h)|h|h);·exact xR (xR ⟨h.1,by simp only;omega⟩)
    .exact xR (j4 h)
    .exact xR (xR ⟨by simp only;omega,by simp only;omega⟩)
    exact j4 h
   simp only[if_neg hc]
   obtain⟨g1,g2,g3⟩:=rJ l (x::k::rest) iv B.2 (λq hq y hy=>by simp at hq;subst hq;exact B.1 y hy) (λy hy=>by
    rcases η.1 hy with rfl|hy
    .exact hx
    .exact h1 y hy) (by
    rw[ζ];refine⟨λy hy=>?_,by rw[ζ];exact X⟩
    rcases η.1 hy with rfl|hy
    .omega
    have:=X.1 y hy;omega)
   refine⟨g1,g2,λr=>(g3 r).trans ?_⟩;rw[bh (l:=k::rest),bh (l:=l)];constructor
   .rintro((h|h)|h);·exact j4 (xR h)
    .exact xR h
    exact j4 (j4 h)
   rintro(h|h|h);·exact xR (j4 h)
   .exact xR (xR h)
   exact j4 h
def Fs (h1:∀x∈l,x.1<=x.2) (X:l.Pairwise λx y=>x.1<=y.1):canon (l.foldl ek []).reverse/\∀r,cS (l.foldl ek []).reverse r↔cS l r:=by
 obtain⟨g1,g2,g3⟩:=rJ l [] h1 X (λk A=>by simp at A) (λx hx=>by simp at hx) ZD.nil;refine⟨⟨λx hx=>g1 x (Ω.1 hx),by rw[Wv];exact g2⟩,λr=>?_⟩;rw[sV (λx=>Ω) r,g3 r];exact⟨λh=>h.resolve_left (eU r),j4⟩
def cN (r:Int):Prop:=0<=r/\r<=1114111/\¬(55296<=r/\r<=57343)
def dG (x:Rg):List Rg:=
 (if max (max x.1 0) 0<=min (min x.2 1114111) 55295 then[(max (max x.1 0) 0,min (min x.2 1114111) 55295)] else[])++
 (if max (max x.1 0) 57344<=min (min x.2 1114111) 1114111 then[(max (max x.1 0) 57344,min (min x.2 1114111) 1114111)] else[])
def vw (x:Rg) (r:Int):cS (dG x) r↔cN r/\x.1<=r/\r<=x.2:=by
 unfold dG cN;rw[CN]
 have one:∀(a b:Int),cS (if a<=b then[(a,b)] else[]) r↔a<=r/\r<=b:=by
  intro a b
  split;·rw[bh];exact⟨λh=>h.elim id λh=>absurd h (eU r),xR⟩
  exact⟨λh=>absurd h (eU r),λh=>by omega⟩
 rw[one,one];omega
def sM (x:Rg):∀y∈dG x,y.1<=y.2/\0<=y.1/\y.2<=1114111:=by
 intro y hy;unfold dG at hy
 rcases Q7.1 hy with h|h<;>split at h<;>simp at h<;>subst h<;>simp only<;>omega
def mD {all:List Rg} (B:∀x,x∈all↔x∈l.flatMap dG) (hs:all.Pairwise λx y=>x.1<=y.1):canon (all.foldl ek []).reverse/\∀r,cS (all.foldl ek []).reverse r↔cN r/\cS l r:=by
 have hle:∀x∈all,x.1<=x.2:=λx hx=>by
  obtain⟨y,_,hy⟩:=ψ.1 ((B x).1 hx);exact(sM y x hy).1
 obtain⟨g1,g2⟩:=Fs hle hs;refine⟨g1,λr=>(g2 r).trans ((sV B r).trans ?_)⟩;constructor;·rintro⟨y,hy,h⟩;obtain⟨x,hx,hy⟩:=ψ.1 hy;have:=(vw x r).1 ⟨y,hy,h⟩;exact⟨this.1,x,hx,this.2⟩
 rintro⟨hr,x,hx,h⟩;obtain⟨y,hy,h'⟩:=(vw x r).2 ⟨hr,h⟩;exact⟨y,ψ.2 ⟨x,hx,hy⟩,h'⟩
def lh:List Rg->Int->Bool
 |[],_=>false
 |x::l,r=>(decide (x.1<=r) &&decide (r<=x.2))||lh l r
def wP:∀(l:List Rg) (r:Int),lh l r=true↔cS l r
 |[],r=>⟨λh=>(by cases h),λh=>absurd h (eU r)⟩
 |x::l,r=>by
  rw[bh,<-wP l r];simp[lh]
def iL (x:Rg):List Int:=
 (if x.1<=x.2/\0<=x.1/\x.1<=1114111 then[x.1] else[])++(if x.1<=x.2/\0<=x.2/\x.2<1114111 then[x.2+1] else[])
def eN (acc:List Rg) (lo hi:Int):List Rg:=
 match acc with
 |[]=>[(lo,hi)]
 |k::rest=>if k.2+1=lo then(k.1,hi)::rest else(lo,hi)::k::rest
def Qj (l:List Rg) (yes:Bool) (a b:Int):Bool:=decide (a<b) &&(decide (a<55296)||decide (57343<a)) &&(lh l a==yes)
def dI (l:List Rg) (yes:Bool):List Int->List Rg->List Rg
 |a::b::t,acc=>dI l yes (b::t) (if Qj l yes a b=true then eN acc a (b-1) else acc)
 |_,acc=>acc
def PL {m:List Int} {a b:Int} (hm:∀x∈l,∀e∈iL x,e<=a\/b<=e) (h1:55296<=a\/b<=55296) (X:57344<=a\/b<=57344) (ha:0<=a) (F:b<=1114112) (hr:a<=r) (RV:r<b):
  (cN r↔¬(55296<=a/\a<=57343))/\(cS l r↔cS l a):=by
 refine⟨by unfold cN;omega,?_,?_⟩
 .rintro⟨x,hx,h3,h4⟩;refine⟨x,hx,?_,by omega⟩
  rcases Wz a x.1 with h|h
  .have:=hm x hx x.1 (by unfold iL;rw[if_pos GB];simp);omega
  exact h
 rintro⟨x,hx,h3,h4⟩;refine⟨x,hx,by omega,?_⟩
 rcases Wz x.2 r with h|h
 .have:=hm x hx (x.2+1) (by unfold iL;rw[if_pos (c:=x.1<=x.2/\0<=x.2/\x.2<1114111) GB];simp);omega
 exact h
def KP {acc:List Rg} {lo hi:Int} (h1:∀x∈acc,x.1<=x.2) (X:acc.Pairwise (λx y=>y.2+1<x.1)) (h3:∀x∈acc,x.2<lo) (h4:lo<=hi):
  (∀x∈eN acc lo hi,x.1<=x.2)/\(eN acc lo hi).Pairwise (λx y=>y.2+1<x.1)/\(∀x∈eN acc lo hi,x.2<=hi)/\∀r,cS (eN acc lo hi) r↔cS acc r\/(lo<=r/\r<=hi):=by
 cases acc with
 |nil=>
  refine⟨by simp[eN,h4],by simp[eN],by simp[eN],λr=>?_⟩;simp[eN];rw[bh];exact⟨λh=>j4 (h.resolve_right (eU r)),λh=>xR (h.resolve_left (eU r))⟩
 |cons k rest=>
  have A:=h1 k (δ ..);have A7:=h3 k (δ ..);rw[ζ] at X;unfold eN
  by_cases hc:k.2+1=lo
  .simp only[if_pos hc];refine⟨λx hx=>?_,?_,λx hx=>?_,λr=>?_⟩
   .rcases η.1 hx with rfl|hx
    .simp only;omega
    exact h1 x (ε _ hx)
   .rw[ζ];exact⟨X.1,X.2⟩
   .rcases η.1 hx with rfl|hx
    .simp
    have:=h3 x (ε _ hx);omega
   rw[bh (l:=rest),bh (l:=rest)];simp only;constructor
   .rintro(h|h)
    .by_cases hh:r<=k.2;·exact xR (xR ⟨h.1,hh⟩)
     exact j4 (by omega)
    exact xR (j4 h)
   rintro((h|h)|h);·exact xR (by omega)
   .exact j4 h
   exact xR (by omega)
  simp only[if_neg hc];refine⟨λx hx=>?_,?_,λx hx=>?_,λr=>?_⟩
  .rcases η.1 hx with rfl|hx
   .exact h4
   exact h1 x hx
  .rw[ζ];refine⟨λy hy=>?_,by rw[ζ];exact X⟩
   rcases η.1 hy with rfl|hy
   .simp only;omega
   have:=X.1 y hy;simp only;omega
  .rcases η.1 hx with rfl|hx
   .exact Γ _
   have:=h3 x hx;omega
  rw[bh];exact⟨λh=>h.elim j4 xR,λh=>h.elim j4 xR⟩
def sQ (l:List Rg) (yes:Bool):∀(m:List Int) (acc:List Rg),m.Pairwise (·<=·)->(∀a∈m,0<=a/\a<=1114112)->
  (∀q:Int,(q=55296\/q=57344\/∃x∈l,q∈iL x)->q∈m\/∀a∈m,q<=a)->(∀x∈acc,x.1<=x.2)->acc.Pairwise (λx y=>y.2+1<x.1)->(∀x∈acc,∀a∈m.head?,x.2<a)->
  (∀x∈dI l yes m acc,x.1<=x.2)/\(dI l yes m acc).Pairwise (λx y=>y.2+1<x.1)/\
  ∀r,cS (dI l yes m acc) r↔cS acc r\/(cN r/\(cS l r↔yes=true)/\(∃a∈m.head?,a<=r)/\∃b∈m.getLast?,r<b)
 |[],acc,_,_,_,h1,X,_=>⟨h1,X,λr=>⟨xR,λh=>h.elim id (by rintro⟨_,_,⟨a,h,_⟩,_⟩;simp at h)⟩⟩
 |[a],acc,_,_,_,h1,X,_=>⟨h1,X,λr=>⟨xR,λh=>h.elim id (by rintro⟨_,_,⟨a',h,h'⟩,b,F,gB⟩;simp at h F;omega)⟩⟩
 |a::b::t,acc,hs,hr,hm,h1,X,h3=>by
  have Vw:=hs;rw[ζ] at hs;have hab:a<=b:=hs.1 b (δ ..);have ha:=hr a (δ ..);have F:=hr b (ε _ (δ ..))
  have key:∀q:Int,(q=55296\/q=57344\/∃x∈l,q∈iL x)->q<=a\/b<=q:=by
   intro q hq
   rcases hm q hq with h|h
   .rcases η.1 h with rfl|h
    .exact xR (Γ _)
    rcases η.1 h with rfl|h
    .exact j4 (Γ _)
    have:=(ζ.1 hs.2).1 q h;exact j4 this
   exact xR (h a (δ ..))
  have hbt:∀r,a<=r->r<b->(cN r↔¬(55296<=a/\a<=57343))/\(cS l r↔cS l a):=λr h h'=>
   PL (m:=[]) (λx hx e he=>key e (j4 (j4 ⟨x,hx,he⟩))) (by have:=key 55296 (xR rfl);omega) (by have:=key 57344 (j4 (xR rfl));omega) ha.1 F.2 h h'
  have YL:∀q:Int,(q=55296\/q=57344\/∃x∈l,q∈iL x)->q∈b::t\/∀c∈b::t,q<=c:=by
   intro q hq
   rcases hm q hq with h|h
   .rcases η.1 h with rfl|h
    .exact j4 hs.1
    exact xR h
   exact j4 λc hc=>h c (ε _ hc)
  have VB:∀c∈b::t,0<=c/\c<=1114112:=λc hc=>hr c (ε _ hc);have rP:∀r,(∃e∈(a::b::t).getLast?,r<e)↔∃e∈(b::t).getLast?,r<e:=λr=>by rw[List.getLast?_cons_cons]
  have hbl:∃e∈(b::t).getLast?,b<=e:=by
   refine⟨(b::t).getLast (by simp),by rw[QC (by simp)];simp,?_⟩;have:=List.getLast_mem (l:=b::t) (by simp)
   rcases η.1 this with h|h
   .rw[h];exact Γ _
   exact(ζ.1 hs.2).1 _ h
  have bK:Qj l yes a b=true↔a<b/\¬(55296<=a/\a<=57343)/\(cS l a↔yes=true):=by
   unfold Qj;rw[<-wP];cases lh l a<;>cases yes<;>simp<;>omega
  unfold dI
  by_cases hc:Qj l yes a b=true
  .rw[if_pos hc];obtain⟨c1,c2,c3⟩:=bK.1 hc;obtain⟨p1,p2,p3,p4⟩:=KP h1 X (λx hx=>h3 x hx a rfl) (show a<=b-1 by omega);obtain⟨g1,g2,g3⟩:=sQ l yes (b::t) _ hs.2 VB YL p1 p2 (λx hx c hc=>by simp at hc;subst hc;have:=p3 x hx;omega);refine⟨g1,g2,λr=>(g3 r).trans ?_⟩;rw[p4,rP];constructor
   .rintro((h|h)|⟨h4,h5,⟨c,hc,h6⟩,h7⟩);·exact xR h
    .obtain⟨k1,k2⟩:=hbt r h.1 (by omega);obtain⟨e,he,hbe⟩:=hbl;exact j4 ⟨k1.2 c2,k2.trans c3,⟨a,rfl,h.1⟩,e,he,by omega⟩
    simp at hc;subst hc;exact j4 ⟨h4,h5,⟨a,rfl,by omega⟩,h7⟩
   rintro(h|⟨h4,h5,⟨c,hc,h6⟩,h7⟩);·exact xR (xR h)
   simp at hc;subst hc
   by_cases RV:r<b;·exact xR (j4 (by omega))
   exact j4 ⟨h4,h5,⟨b,rfl,by omega⟩,h7⟩
  rw[if_neg hc];obtain⟨g1,g2,g3⟩:=sQ l yes (b::t) acc hs.2 VB YL h1 X (λx hx c hc=>by simp at hc;subst hc;have:=h3 x hx a rfl;omega);refine⟨g1,g2,λr=>(g3 r).trans ?_⟩;rw[rP];constructor
  .rintro(h|⟨h4,h5,⟨c,hc,h6⟩,h7⟩);·exact xR h
   simp at hc;subst hc;exact j4 ⟨h4,h5,⟨a,rfl,by omega⟩,h7⟩
  rintro(h|⟨h4,h5,⟨c,FH,h6⟩,h7⟩);·exact xR h
  simp at FH;subst FH
  by_cases RV:r<b
  .exfalso
   obtain⟨k1,k2⟩:=hbt r h6 RV;exact hc (bK.2 ⟨by omega,k1.1 h4,k2.symm.trans h5⟩)
  exact j4 ⟨h4,h5,⟨b,rfl,by omega⟩,h7⟩
variable{m:List Int}
def o0 (yes:Bool) (B:∀q,q∈m↔q=0\/q=55296\/q=57344\/q=1114112\/∃x∈l,q∈iL x) (hs:m.Pairwise (·<=·)):
  canon (dI l yes m []).reverse/\∀r,cS (dI l yes m []).reverse r↔cN r/\(cS l r↔yes=true):=by
 have hr:∀a∈m,0<=a/\a<=1114112:=by
  intro a ha
  rcases(B a).1 ha with h|h|h|h|⟨x,hx,h⟩
  .omega
  .omega
  .omega
  .omega
  unfold iL at h
  rcases Q7.1 h with h|h<;>split at h<;>simp at h<;>omega
 obtain⟨g1,g2,g3⟩:=sQ l yes m [] hs hr (λq hq=>xR ((B q).2 (by rcases hq with h|h|h;exact j4 (xR h);exact j4 (j4 (xR h));exact j4 (j4 (j4 (j4 h)))))) (λx hx=>by simp at hx) ZD.nil (λx hx=>by simp at hx);have h0:(0:Int)∈m:=(B 0).2 (xR rfl);have h9:(1114112:Int)∈m:=(B _).2 (j4 (j4 (j4 (xR rfl))))
 have hh:∃a∈m.head?,a<=0:=by
  cases m with
  |nil=>cases h0
  |cons a t=>
   refine⟨a,rfl,?_⟩
   rcases η.1 h0 with h|h
   .omega
   exact(ζ.1 hs).1 _ h
 have hl:∃b∈m.getLast?,1114112<=b:=by
  have hne:m≠[]:=List.ne_nil_of_mem h0;refine⟨m.getLast hne,by rw[QC hne];simp,?_⟩;obtain⟨i,hi,he⟩:=List.getElem_of_mem h9;rw[List.getLast_eq_getElem,<-he]
  rcases ZE i (m.length-1) with h|h
  .exact(Qu.1 hs) i (m.length-1) hi GB h
  have:i=m.length-1:=by omega
  subst this;exact Γ _
 refine⟨⟨λx hx=>g1 x (Ω.1 hx),by rw[Wv];exact g2⟩,λr=>?_⟩;rw[sV (λx=>Ω) r,g3 r];constructor
 .rintro(h|⟨h1,X,_⟩);·exact absurd h (eU r)
  exact⟨h1,X⟩
 rintro⟨h1,X⟩;obtain⟨a,ha,ha'⟩:=hh;obtain⟨b,F,gB⟩:=hl;have:=h1;unfold cN at this;exact j4 ⟨h1,X,⟨a,ha,by omega⟩,b,F,by omega⟩
end Go.V
namespace Go.Proofs.YtappgjdiplibbaaGreat
open Go.V Go
def ak (x:Rg):List D:=[J vJ x.1,J vJ x.2]
def az (l:List Rg):D:=.sl (l.map λx=>y4 (ak x))
def ef (l:List Rg):D.sl ((l.map ak).map (jK 2))=az l:=by
 unfold az;rw[List.map_map];rfl
def cX (l:List Rg):∀e∈l.map ak,∀d∈e,cv d=true:=by
 intro e he d hd;obtain⟨x,_,rfl⟩:=Θ.1 he;simp[ak] at hd
 rcases hd with rfl|rfl<;>rfl
def pJ (l:List Rg):refs (l.map ak).flatten=0:=by
 induction l with
 |nil=>rfl
 |cons x l ih=>simp only[List.map_cons,List.flatten_cons,ak,List.cons_append,List.nil_append,refs,ZT,ih];rfl
def oy (l:List Rg):∀e∈l.map ak,e.length=2:=by
 intro e he;obtain⟨x,_,rfl⟩:=Θ.1 he;rfl
def bC (U:St) (l:List Rg):QQ U 2 (az l) (l.map ak):=by
 rw[<-ef];exact Rows.nM (oy l) (cX l)
variable{l:List Rg}{i:Nat}
def db {q:Rg} (h:l[i]?=some q):(l.map ak)[i]?=some (ak q):=by rw[ν,h];rfl
def Jc (l:List Rg) (q:Rg) (r:Int):lh (l++[q]) r=(lh l r||(decide (q.1<=r) &&decide (r<=q.2))):=by
 induction l with
 |nil=>simp[lh]
 |cons x l ih=>simp[lh,ih,Bool.or_assoc]
variable{r:Int}
def Mn (h:lh (l.take i) r=true):lh l r=true:=by
 rw[wP] at h|-;obtain⟨x,h1,X⟩:=h;exact⟨x,WN h1,X⟩
variable{Y:St}{x:D}
def ow (hx:QQ Y 2 x (l.map ak)) (hl:l.length<=1073741824):Ev pv 156 [x,J vJ r] Y (wt (lh l r)) Y:=by
 refine zM Xh λS aP hF O=>?_;have hx:=QG hx aP;refine G 10 ?_;refine ah.loop (λmm I U=>∃(i:Nat),I.clean=⟨6,[x,J vJ r,ay I 2,ay I 3,wt false,J W (i:Nat)],[]⟩/\Has Y.bs.length S U []/\(i+mm=l.length)/\(lh (l.take i) r=false)) (l.length) ?_ ?_;·exact⟨0,rfl,O,by omega,rfl⟩
 rintro mm I U ⟨i,hfr,O,hi,hn⟩;refine zK λee=>?_;refine M 8 ?_;refine zP (λh1=>?_) λh1=>?_
 .refine G 1 ?_
  obtain⟨q,hq⟩:=gx (l:=l) (i:=i)
  have hr:=db hq;refine G 3 ?_;refine ah.dM 27 (wt (decide (r>=q.1) &&decide (r<=q.2))) [] ?_ (λff tmp bp=>?_)
  .refine M 8 λTN I5 U1 LV=>?_;refine y2 19 (λMb=>?_) λMb=>?_;·refine M 8 λQb Dg KY wD=>?_;exact vV
   refine G 8 ?_;exact vV
  refine zG ?_
  have ht:lh (l.take (i+1)) r=(decide (r>=q.1) &&decide (r<=q.2)):=by
   rw[π,hq,Option.toList_some,Jc,hn];simp
  refine qc (λX=>?_) (λX=>?_)<;>try simp only[cs] at X
  .refine G 4 ?_;rw[Mn (i:=i+1) (by rw[ht];simp[X])];exact M 0 trivial
  refine G 6 ?_;exact⟨mm-1,by omega,i+1,rfl,O,by omega,by rw[ht];simp[X]⟩
 refine G 5 ?_;have:lh l r=false:=by rw[<-hn,ι GB]
 rw[this];exact M 0 trivial
def gM:List Rg:=[(0,55295),(57344,1114111)]
def xA (lo hi:Int) (p:Rg):List Rg:=if max lo p.1<=min hi p.2 then[(max lo p.1,min hi p.2)] else[]
def Ai (q:Rg):dG q=gM.flatMap (xA (max q.1 0) (min q.2 1114111)):=by
 simp[dG,gM,xA]
variable{hk hp:Prop}
def PY.zD (e:hk->hp:=by intro h;dsimp only[u2,u1,u3,u4,setMany,u5,u6,D.cells,Nat.reduceAdd,ak] at h;exact h):hk->hp:=e
def Kn (q:Rg):Ev pv 143 [y4 (ak q)] Y (az (dG q)) Y:=by
 open PY in
 refine zM Xt λS aP hF O=>?_;refine M 18 λk1 U jo O U O U O=>?_;generalize Eh:max q.1 0=lo at*;generalize Hp:min q.2 1114111=hi at*;refine G 4 ?_;have O:=O.cY 2;refine M 10 λk17 U Sm O=>?_;refine ah.loop (λmm I U=>∃(i:Nat) (x:D),I.clean=fL I 20 [(0,y4 (ak q)),(0,.ptr k1 0 0),(0,j5),(0,x),(13,.win k17 0 0 2 2),(0,J W 2),(0,J W (i:Nat))]/\Has Y.bs.length S U [.ai (.win k17 0 0 2 2) 2 (gM.map ak),.ai x 2 (((gM.take i).flatMap (xA lo hi)).map ak),.box k1 (.mem 0 false [J vJ lo,J vJ hi])]/\(i+mm=2)/\(((gM.take i).flatMap (xA lo hi)).length<=i)) (2) ?_ ?_;·exact⟨0,j5,rfl,O,by omega,by simp⟩
 rintro mm I U ⟨i,x,hfr,O,hij,F⟩;refine zK λee=>?_;refine G 5 ?_;refine zP (λh1=>?_) λh1=>?_
 .refine G 1 ?_
  obtain⟨p,B⟩:∃p,gM[i]?=some p:=⟨gM[i]'(by simp[gM];omega),γ _⟩
  have hr:=db B;refine M 33 λQc Dh k5 U FA O U O k6 U L' O U O=>?_;refine zP (λX=>?_) λX=>?_
  .refine M 11 λk41 U Wj O Ux U O=>?_
   have h3:(gM.take (i+1)).flatMap (xA lo hi)=(gM.take i).flatMap (xA lo hi)++[(max lo p.1,min hi p.2)]:=by
    rw[π,B,X7];simp[xA,X]
   exact⟨mm-1,by omega,i+1,Ux,rfl,(by rw[h3,τ];exact O.drop 3),by omega,by rw[h3];simp only[ο,θ,ω];omega⟩
  refine G 5 ?_
  have h3:(gM.take (i+1)).flatMap (xA lo hi)=(gM.take i).flatMap (xA lo hi):=by
   rw[π,B,X7];simp[xA,X]
  exact⟨mm-1,by omega,i+1,x,rfl,(by rw[h3];exact O.drop 2),by omega,by rw[h3];omega⟩
 refine G 6 ?_;rw[<-ef];have h3:gM.take i=gM:=ι (by simp[gM];omega);rw[h3] at O;refine ah.ret ⟨rx,_,rfl,rl aP O ?_⟩;refine Eq.trans (O.freeze bf (cX _) (n:=15) AN) ?_;rw[Ai,Eh,Hp]
def H8 (q x:Rg) (h:x∈dG q):0<=x.1/\x.1<=1114111:=by
 obtain⟨h1,X,h3⟩:=sM q x h;omega
def vy (q:Rg):(dG q).length<=2:=by
 unfold dG;split<;>split<;>simp
def kP (l:List Rg):(l.flatMap dG).length<=2*l.length:=by
 induction l with
 |nil=>simp
 |cons x l ih=>simp only[X9,ο,θ];have:=vy x;omega
def x9:∀{l:List Rg},(∀x∈l,0<=x.1/\x.1<=1114111)->∃m:List Rs,gD m=(l.map ak).flatten/\m.map (λx=>(x.lo,x.hi))=l
 |[],_=>⟨[],rfl,rfl⟩
 |x::l,h=>by
  obtain⟨m,h1,X⟩:=x9 (l:=l) λy hy=>h y (ε _ hy);obtain⟨h3,h4⟩:=h x (δ ..);exact⟨⟨x.1,x.2,h3,h4⟩::m,by simp[gD,h1,ak],by simp[X]⟩
def FN (m:List Rs):gD m=((m.map λx=>((x.lo,x.hi):Rg)).map ak).flatten:=by
 induction m with
 |nil=>rfl
 |cons x m ih=>simp[gD,ih,ak]
variable{N j:Nat}{S U:St}{H:List aX}
def Mm (O:Has N S U H) (hj:H[j]?=some (.ai x 2 (l.map ak))) (h0:l=[]->x=.nul) (hl:l.length<=1073741824) (hr:∀y∈l,0<=y.1/\y.1<=1114111):
  ∃(R:St) (l':List Rg),Ev pv 144 [x,.fn 145 []] U (.tup []) R/\Has N S R (H.set j (.ai x 2 (l'.map ak)))/\l'.Perm l/\l'.Pairwise λa b=>a.1<=b.1:=by
 obtain⟨m,h1,X⟩:=x9 hr;obtain⟨h3,h4⟩:=srt_facts m;have mG:m.length=l.length:=by rw[<-X];simp
 have hperm:((srt m).map λx=>((x.lo,x.hi):Rg)).Perm l:=by rw[<-X];exact h3.map _
 have kL:((srt m).map λx=>((x.lo,x.hi):Rg)).Pairwise λa b=>a.1<=b.1:=by rw[List.pairwise_map];exact h4
 have hlen:(srt m).length=l.length:=h3.length_eq.trans mG;have hown:=O.own hj;generalize sE:l.map ak=es at*;have sF:es.length=l.length:=by rw[<-sE];simp
 cases hown with
 |nul=>
  have O_:l=[]:=by cases l with|nil=>rfl|cons _ _=>simp at sF
  refine⟨U,(srt m).map λx=>(x.lo,x.hi),Ev.jG rfl rfl,?_,hperm,kL⟩
  have:(srt m).map (λx=>((x.lo,x.hi):Rg))=[]:=by
   cases hs:srt m with
   |nil=>rfl
   |cons a b=>rw[hs,O_] at hlen;simp at hlen
  rw[this];exact O.pt hj (λ_ _ _=>rfl) (X8 _) rfl rfl .nul (λk A=>.inl A) λk A=>by simp only[aX.ai,ZT] at A;omega
 |win k aj off es c hm hle hc he=>
  have hne:l≠[]:=λe=>by have:=h0 e;cases this
  have A6:1<=l.length:=by cases l with|nil=>exact absurd rfl hne|cons _ _=>simp
  have A:=(O.ok j _ hj).2 k (by simp[aX.ai,ZT]);have FC:(gD (srt m)).length=es.length*2:=by rw[rV,hlen,sF];omega
  have hwr:U.wr k aj off (gD (srt m))=some ⟨U.bs.set k (.mem aj true (c.take off++gD (srt m)++c.drop (off+(gD (srt m)).length))),U.flr,U.ro⟩:=
   nx hm GB (iB O A.1 (.inr (zi _)))
  refine⟨⟨U.bs.set k (.mem aj true (c.take off++gD (srt m)++c.drop (off+(gD (srt m)).length))),U.flr,U.ro⟩,(srt m).map λx=>(x.lo,x.hi),Ev.jG rfl ?_,?_,hperm,kL⟩
  .show xw [.win k aj off es.length 2,.fn 145 []] U=_;have c_:(c.drop off).take (2*es.length)=gD m:=by rw[Wk,hc,h1]
   simp only[xw,St.mem_of hm,c_,Gv,Q3];rw[decide_eq_true (⟨by rw[mG,sF],by omega,by omega⟩:m.length=es.length/\1<=es.length/\es.length<1099511627776)];simp[hwr]
  refine O.pt hj (λn hn hne=>?_) (by simp) rfl rfl ?_ (λn hn=>.inl hn) λn hn=>?_;·simp only;rw[QX (λe=>hne (by simp only[aX.ai,ZT];omega))]
  .have h9:=iX.win (U:=⟨U.bs.set k (.mem aj true (c.take off++gD (srt m)++c.drop (off+(gD (srt m)).length))),U.flr,U.ro⟩) (s:=2) k aj off (((srt m).map λx=>((x.lo,x.hi):Rg)).map ak) (c.take off++gD (srt m)++c.drop (off+(gD (srt m)).length))
    (by simp only;rw[W4 A.2]) (by simp only[ο,QV,ξ,φ,FC];omega) ?_ (oy _)
   .simp only[ξ,hlen] at h9;rw[sF];exact h9
   have aax:(c.take off).length=off:=by simp;omega
   rw[QY,List.drop_left' aax,<-FN,List.take_left' (by simp[hlen];omega)]
  simp only[aX.ai,ZT] at hn;simp;omega
def wk (l:List Rg):(l.foldl ek []).length<=l.length:=by
 have key:∀(l acc:List Rg),(l.foldl ek acc).length<=acc.length+l.length:=by
  intro l
  induction l with
  |nil=>intro acc;simp
  |cons x l ih=>
   intro acc;simp;have:=ih (ek acc x)
   have X:(ek acc x).length<=acc.length+1:=by
    unfold ek;split;·simp
    split<;>simp
   omega
 have:=key l []
 simpa using this
def OM (h:∀x∈l,0<=x.2/\x.2<=1114111):∀x∈l.foldl ek [],0<=x.2/\x.2<=1114111:=by
 have key:∀(l acc:List Rg),(∀x∈l,0<=x.2/\x.2<=1114111)->(∀x∈acc,0<=x.2/\x.2<=1114111)->∀x∈l.foldl ek acc,0<=x.2/\x.2<=1114111:=by
  intro l
  induction l with
  |nil=>intro acc _ h x hx;exact h x hx
  |cons y l ih=>
   intro acc h1 X;refine ih _ (λx hx=>h1 x (ε _ hx)) λx hx=>?_;have hy:=h1 y (δ ..);unfold ek at hx
   split at hx;·simp at hx;rw[hx];exact hy
   rename_i k rest;have A:=X k (δ ..)
   split at hx
   .rcases η.1 hx with rfl|hx
    .simp only;omega
    exact X x (ε _ hx)
   rcases η.1 hx with rfl|hx
   .exact hy
   exact X x hx
 exact key l [] h (λx hx=>by cases hx)
def C6 (h:Rg) (t:List Rg):((h::t).reverse.map ak)[t.length]?=some (ak h):=by
 rw[ν,Φ,List.getElem?_append_right (by simp)];simp
def C5 (h h':Rg) (t:List Rg):((h::t).reverse.map ak).set t.length (ak h')=(h'::t).reverse.map ak:=by
 rw[Φ,τ,Q9 _ _ (by simp)];simp
def AM (hx:QQ Y 2 x (l.map ak)) (hl:l.length<=268435456):∃d,Ev pv 121 [x] Y d Y/\∃all:List Rg,d=az (all.foldl ek []).reverse/\all.Perm (l.flatMap dG)/\all.Pairwise λa b=>a.1<=b.1:=by
 open PY in
 refine zM XN λS aP hF O=>?_;have hx:=QG hx aP;have iS:=kP l
 have hfi:∀i,((l.take i).flatMap dG).length<=2*l.length:=λi=>by
  have:=kP (l.take i);simp only[QV] at this;omega
 refine M 16 ?_;have O:=O.cY 2;refine G 1 ?_;refine ah.loop (λmm I U=>∃(i:Nat) (y:D),I.clean=fL I 26 [(0,x),(2,y),(0,j5),(5,x),(0,J W (l.length:Nat)),(0,J W (i:Nat))]/\Has Y.bs.length S U [.ai y 2 (((l.take i).flatMap dG).map ak)]/\(i+mm=l.length)/\((l.take i).flatMap dG=[]->y=j5)) (l.length) ?_ ?_;·exact⟨0,j5,rfl,O,by omega,λ_=>rfl⟩
 rintro mm I U ⟨i,y,hfr,O,hi,Sd⟩;refine zK λee=>?_;refine G 4 ?_;have hm:=hfi i;refine qq<|zP (λh1=>?_) λh1=>?_
 .refine G 1 ?_
  obtain⟨q,hq⟩:=gx (l:=l) (i:=i)
  have hr:=db hq
  have wF:(l.take (i+1)).flatMap dG=(l.take i).flatMap dG++dG q:=by
   rw[π,hq];simp
  have TU:=vy q;refine M 5 λp14 VO=>?_;refine u.mr rfl Pd so rfl (by dsimp<;>rfl) ?_;refine M 5 λk6 U L' O U O=>?_;refine u.gp (m:=2) O rfl Pd (by exact aV) (by dsimp<;>rfl) rfl rfl (by dsimp<;>rfl) ?_;refine qv (Kn q) ?_;refine u.Mo O rfl rfl rfl (by exact bf) (bC _ _) rfl rfl rfl rfl rfl rfl rfl ⟨(WA rfl),(WA rfl)⟩ (λ_=>by dsimp<;>rfl) (by simp only[ξ];omega) (xR hF) (λYp U V0 O=>?_);dsimp at O;refine G 6 ?_;exact⟨mm-1,by omega,i+1,Yp,rfl,(by rw[wF,τ];exact O.drop 1),by omega,by rw[wF];intro h;obtain⟨h3,h4⟩:=List.append_eq_nil_iff.1 h;rw[V0 (by rw[h4];rfl)];exact Sd h3⟩
 refine G 1 ?_;have hT:l.take i=l:=ι GB;rw[hT] at O Sd hm
 obtain⟨st2,all,aK,ub,hperm,kL⟩:=Mm O aV Sd GB (λz hz=>by
  obtain⟨w,_,hw⟩:=ψ.1 hz
  exact H8 w z hw)
 have hlen:=hperm.length_eq
 have hbd:∀z∈all,0<=z.2/\z.2<=1114111:=λz hz=>by
  obtain⟨w,_,hw⟩:=ψ.1 (hperm.mem_iff.1 hz);have:=sM w z hw;omega
 refine M (t:=(aK)) 5 ?_;have O:=ub;dsimp at O;clear ub aK;have hR:=O.rows aV;have O:=O.cY 2;refine M 8 ?_;refine ah.loop (λmm I U=>∃(i:Nat) (z:D),I.clean=fL I 26 [(0,x),(2,y),(0,z),(18,y),(0,J W (all.length:Nat)),(0,J W (i:Nat))]/\Has Y.bs.length S U [.ai z 2 (((all.take i).foldl ek []).reverse.map ak),.ai y 2 (all.map ak)]/\(i+mm=all.length)) (all.length) ?_ ?_;·exact⟨0,j5,rfl,O,by omega⟩
 rintro mm I U ⟨i,z,hfr,O,hi⟩;refine zK λee=>?_;refine G 4 ?_
 have hjl:((all.take i).foldl ek []).length<=all.length:=by
  have:=wk (all.take i);simp at this;omega
 refine qq<|zP (λh1=>?_) λh1=>?_
 .refine G 1 ?_
  obtain⟨q,hq⟩:=gx (l:=all) (i:=i)
  have hr:=db hq
  have YQ:(all.take (i+1)).foldl ek []=ek ((all.take i).foldl ek []) q:=by
   rw[π,hq,List.foldl_append];rfl
  generalize Dz:(all.take i).foldl ek []=acc at*;refine M 9 λTL I3 k8 U O' O U O=>?_
  rcases acc with _|⟨h,t⟩
  .refine M 4 ?_;refine yB (z:=(-1)) ?_;refine G 2 ?_;have ba:decide ((-1:Int)>=0)=false:=by decide
   refine qq<|ah.dM 44 (wt false) [] ?_ (λff tmp bp=>?_)
   .refine G 13 ?_;refine χ (ax ?_ ?_)
    .dsimp[aC,Q4,nth,u2,u1]
     all_goals(first|rfl|simp)
    dsimp[W5,QS,Q2,QW,Ψ,nth,look,u1,u2,v1,v2,v4]
    all_goals(first|rfl|(simp[ba];done)|(simp_all;done)|(simp[ba];omega)|(simp_all;omega))
   refine zd ?_;dsimp only[W5,QS,Q2,QW,Ψ,nth,look,u1,u2,v1,v2,v4];refine M 12 λk59 U aaP O NJ U O=>?_;exact⟨mm-1,by omega,i+1,NJ,rfl,(by rw[YQ];exact O.drop 2),by omega⟩
  simp at hjl;refine M 4 ?_;refine yB (z:=(t.length:Int)) ?_;refine G 2 ?_;have rP:=C6 h t;have eW:=C5 h (h.1,max h.2 q.2) t;have Hp:=OM (l:=all.take i) (λx hx=>hbd x (WN hx)) h (by rw[Dz];exact δ ..);have ba:decide ((t.length:Int)>=0)=true:=by rw[decide_eq_true];omega
  refine qq<|ah.dM 44 (wt (decide (q.1<=h.2+1))) [] ?_ (λff tmp bp=>?_)
  .refine G 7 ?_;refine qi O bf (λZx R5=>?_) (hg:=wi ba);refine u.dJ (fo:=1) (m:=0) (o2:=1) (wi ba) Pd so rfl rfl rfl (λ_=>(ae rfl _)) (λZw R4=>?_);refine G 1 ?_;refine Zf (wi ba) Pd Pd GB GB (ae rfl _) ?_;refine G 2 ?_;refine χ (ax ?_ ?_)
   .dsimp[aC,Q4,nth,u2,u1]
    all_goals(first|rfl|simp)
   dsimp[W5,QS,Q2,QW,Ψ,nth,look,u1,u2,v1,v2,v4]
   all_goals(first|rfl|(simp[ba];done)|(simp_all;done)|(simp[ba];omega)|(simp_all;omega))
  refine zd ?_;dsimp only[W5,QS,Q2,QW,Ψ,nth,look,u1,u2,v1,v2,v4];refine ah.cond so (λX=>?_) (λX=>?_)<;>try simp only[decide_eq_true_eq,decide_eq_false_iff_not] at X
  .refine G 5 ?_;refine qi O bf λUZ LS=>?_;refine yF (o2:=1) λYt O1=>?_;refine M 4 ?_;refine qi O bf λZu R2=>?_;refine yF (o2:=1) λUX LQ=>?_;refine yG O bf λU O=>?_;dsimp only[u2,u1,u3,u4,setMany,u5,u6,QH,υ,ak] at O;refine G 5 ?_;exact⟨mm-1,by omega,i+1,z,rfl,(by rw[YQ];simp only[ek,if_pos X];rw[<-eW];exact O.drop 1),by omega⟩
  refine M 11 λk59 U aaP O NJ U O=>?_;exact⟨mm-1,by omega,i+1,NJ,rfl,(by rw[YQ];simp only[ek,if_neg X];rw[Φ (a:=q),τ];exact O.drop 2),by omega⟩
 refine G 6 ?_;rw[ι GB] at O;refine ah.ret ⟨rx,_,_,rfl,rl aP O ((O.freeze aV (cX _) (n:=15) AN)),?_⟩;exact⟨all,by rw[ef],hperm,kL⟩
def aI (r:Int):List D:=[J vJ r]
def sL (l:List Int):D:=.sl ((l.map aI).map (jK 1))
def vz (l:List Int):∀e∈l.map aI,∀d∈e,cv d=true:=by
 intro e he d hd;obtain⟨x,_,rfl⟩:=Θ.1 he;simp[aI] at hd;subst hd;rfl
def Ko (l:List Int):∀e∈l.map aI,e.length=1:=by
 intro e he;obtain⟨x,_,rfl⟩:=Θ.1 he;rfl
def tE (U:St) (l:List Int):QQ U 1 (sL l) (l.map aI):=Rows.nM (Ko l) (vz l)
variable{q:Int}
def qZ {l:List Int} (h:l[i]?=some q):(l.map aI)[i]?=some (aI q):=by rw[ν,h];rfl
def fm (l:List Rg):List Int:=[0,55296,57344,1114112]++l.flatMap iL
def MF (x:Rg):(iL x).length<=2:=by
 unfold iL;split<;>split<;>simp
def oO (l:List Rg):(l.flatMap iL).length<=2*l.length:=by
 induction l with
 |nil=>simp
 |cons x l ih=>simp only[X9,ο,θ];have:=MF x;omega
def iN (m:List Int) (i k:Nat):Prop:=∀a b,a<b->b<=i->b≠k->m.getD a 0<=m.getD b 0
def rT (m:List Int) (k:Nat) (v:Int) (A:k<m.length) (a:Nat):(m.set k v).getD a 0=if a=k then v else m.getD a 0:=by
 simp
 by_cases h:a=k;·subst h;rw[W4 A,if_pos rfl];rfl
 rw[QX (λe=>h e.symm),if_neg h]
variable{m:List Int}{k:Nat}
def B0 (A:k+1<=i) (hi:i<m.length) (h:iN m i (k+1)) (Wu:m.getD k 0>m.getD (k+1) 0):iN ((m.set k (m.getD (k+1) 0)).set (k+1) (m.getD k 0)) i k:=by
 intro a b hab WK hbk;have hl:(m.set k (m.getD (k+1) 0)).length=m.length:=Qe ..;rw[rT _ _ _ (by rw[hl];omega),rT _ _ _ GB,rT _ _ _ (by rw[hl];omega),rT _ _ _ GB]
 by_cases h1:b=k+1
 .rw[if_pos h1,if_neg GB]
  by_cases X:a=k;·rw[if_pos X];omega
  rw[if_neg X];exact h a k GB GB GB
 rw[if_neg h1,if_neg hbk]
 by_cases X:a=k+1;·rw[if_pos X];exact h k b GB WK h1
 rw[if_neg X]
 by_cases h3:a=k;·rw[if_pos h3];exact h (k+1) b GB WK h1
 rw[if_neg h3];exact h a b hab WK h1
def tD (h:iN m i k) (hx:k=0\/m.getD (k-1) 0<=m.getD k 0) (j:Nat):iN m i j:=by
 intro a b hab WK _
 by_cases F:b=k
 .subst F;have hx:=hx.resolve_left GB
  by_cases ha:a=b-1;·rw[ha];exact hx
  exact Int.le_trans (h a (b-1) GB GB GB) hx
 exact h a b hab WK F
def swap_perm (A:k+1<m.length):((m.set k (m.getD (k+1) 0)).set (k+1) (m.getD k 0)).Perm m:=by
 have h0:m=m.take k++(m.getD k 0::m.getD (k+1) 0::m.drop (k+2)):=by
  have e1:m.drop k=m.getD k 0::m.drop (k+1):=by rw[ς GB];simp[μ,γ (show k<m.length by omega)]
  have e2:m.drop (k+1)=m.getD (k+1) 0::m.drop (k+2):=by rw[ς GB];simp[μ,γ A]
  rw[<-e2,<-e1,List.take_append_drop]
 have hlen:(m.take k).length=k:=by simp;omega
 generalize m.getD k 0=x at*;generalize m.getD (k+1) 0=y at*;generalize m.take k=l1 at*;generalize m.drop (k+2)=l2 at*;subst h0;rw[Q9 _ _ GB,Q9 _ _ GB,hlen,Nat.sub_self,Nat.add_sub_cancel_left];exact(List.Perm.swap x y l2).append_left l1
def B1 (h : iN m i (i + 1)) (hi : i + 1 >= m.length): m.Pairwise (· <= ·) := by
 rw [Qu];intro a b ha F hab;have := h a b hab GB GB
 simpa [μ, γ ha, γ F] using this
def Ud.zD (e:hk->hp:=by intro h;dsimp only[u2,u1,u3,u4,setMany,u5,u6,D.cells,Nat.reduceAdd,ak,aI] at h;exact h):hk->hp:=e
def CP (hx : QQ Y 2 x (l.map ak)) (hl : l.length <= 268435456): ∃ d, Ev pv 155 [x] Y d Y /\ ∃ m : List Int, d = sL m /\ m.Perm (fm l) /\ m.Pairwise (· <= ·) := by
 open Ud in
 refine zM Xi λS aP hF O => ?_;have hx := QG hx aP;refine M 14 λk7 U Wf O => ?_;have iS := oO l;have h0 : fm (l.take 0) = [0, 55296, 57344, 1114112] := rfl
 have mG : ∀ i, (fm (l.take i)).length <= 4 + 2 * l.length := by
  intro i;have := oO (l.take i);simp only [fm, ο, θ, ω, QV] at *;omega
 refine G 1 ?_;refine ah.loop (λmm I U => ∃ (i : Nat) (y : D), I.clean = fL I 7 [(0, x), (2, y), (0, J W (i : Nat))] /\ Has Y.bs.length S U [.ai y 1 ((fm (l.take i)).map aI)] /\ (i + mm = l.length)) (l.length) ?_ ?_;·exact ⟨0, _, rfl, O, by omega⟩
 rintro mm I U ⟨i, y, hfr, O, hi⟩;refine zK λee => ?_;refine M 8 ?_;refine zP (λh1 => ?_) λh1 => ?_
 .refine G 1 ?_
  obtain ⟨q, hq⟩ := gx (l := l) (i := i)
  have hr := db hq;have hm := mG i
  have wF : fm (l.take (i + 1)) = fm (l.take i) ++ iL q := by
   rw [π, hq]; simp [fm]
  refine G 4 ?_;refine ah.dM 40 (wt (decide (q.1 <= q.2) && decide (q.1 >= 0) && decide (q.1 <= 1114111))) [] ?_ (λff tmp bp => ?_)
  .refine M 12 λU1 LV Qd Di Qc Dh Nu xF => ?_;refine y2 25 (λdS => ?_) λdS => ?_
   .refine M 8 λTK I2 Rm Fx => ?_;refine y2 33 (λlg => ?_) λlg => ?_;·refine M 7 λZz R6 p37 VM => ?_;exact vV
    refine G 7 ?_;exact vV
   refine G 15 ?_;exact vV
  refine zG ?_;have hsp : iL q = (if q.1 <= q.2 /\ 0 <= q.1 /\ q.1 <= 1114111 then [q.1] else []) ++ (if q.1 <= q.2 /\ 0 <= q.2 /\ q.2 < 1114111 then [q.2 + 1] else []) := rfl;rw [hsp] at wF;generalize he1 : (if q.1 <= q.2 /\ 0 <= q.1 /\ q.1 <= 1114111 then [q.1] else []) = e1 at wF;generalize Bc : (if q.1 <= q.2 /\ 0 <= q.2 /\ q.2 < 1114111 then [q.2 + 1] else []) = e2 at wF;have aeo : e1.length <= 1 := by rw [<- he1]; split <;> simp
  refine ah.merge (λI U => ∃ (y : D) (tmp : List (Nat × D)), I = ⟨7, [x, ay I 1, ay I 2, y, J W (i : Nat), ay I 5, ay I 6], tmp⟩ /\ Has Y.bs.length S U [.ai y 1 ((fm (l.take i) ++ e1).map aI)]) ?_ ?_
  .refine qc (λX => ?_) (λX => ?_) <;> try simp only [cs] at X
   .simp only [Bool.and_eq_true, decide_eq_true_eq] at X;rw [if_pos ⟨X.1.1, X.1.2, X.2⟩] at he1;refine M 11 λp44 VL p45 adS k47 U aaT O Uw U O => ?_;exact ⟨Uw, _, rfl, (by rw [<- he1, τ]; exact O.drop 1)⟩
   rw [if_neg (by rintro ⟨a, b, c⟩; simp [a, b, c] at X)] at he1;refine G 1 ?_;exact ⟨y, _, rfl, (by rw [<- he1, QT]; exact O)⟩
  rintro I U ⟨y, tmp, hfr, O⟩;refine zK λee => ?_;refine qq ?_;refine ah.dM 75 (wt (decide (q.1 <= q.2) && decide (q.2 >= 0) && decide (q.2 < 1114111))) [] ?_ (λff tmp bp => ?_)
  .refine M 12 λUY I0 p52 aas UX LQ Zt R1 => ?_;refine y2 60 (λdS => ?_) λdS => ?_
   .refine M 8 λp63 adP Ys O0 => ?_;refine y2 68 (λlg => ?_) λlg => ?_;·refine M 7 λTI VF Zr aap => ?_;exact vV
    refine G 7 ?_;exact vV
   refine G 15 ?_;exact vV
  refine zd ?_;refine ah.merge (λI U => ∃ (y : D) (tmp : List (Nat × D)), I = ⟨7, [x, ay I 1, ay I 2, y, J W (i : Nat), ay I 5, ay I 6], tmp⟩ /\ Has Y.bs.length S U [.ai y 1 ((fm (l.take (i + 1))).map aI)]) ?_ ?_
  .refine qc (λX => ?_) (λX => ?_) <;> try simp only [cs] at X
   .simp only [Bool.and_eq_true, decide_eq_true_eq] at X;rw [if_pos ⟨X.1.1, X.1.2, X.2⟩] at Bc;refine M 7 λp79 VE p80 aao => ?_;refine Zf rfl Pd Pd GB GB (ae rfl _) ?_;refine M 4 λk83 U We O x84 U O => ?_;exact ⟨x84, _, rfl, (by rw [wF, <- Bc, <- QY, τ]; exact O.drop 1)⟩
   rw [if_neg (by rintro ⟨a, b, c⟩; simp [a, b, c] at X)] at Bc;refine G 1 ?_;exact ⟨y, _, rfl, (by rw [wF, <- Bc, QT]; exact O)⟩
  rintro I U ⟨y, tmp, hfr, O⟩;refine zK λee => ?_;refine G 5 ?_;exact ⟨mm - 1, by omega, i + 1, y, rfl, O, by omega⟩
 refine G 1 ?_;have hT : l.take i = l := ι GB;rw [hT] at O;have hm := mG l.length;rw [Z9] at hm;generalize pf : fm l = m0 at *;have RW : 4 <= m0.length := by rw [<- pf]; simp [fm]
 refine G 6 ?_;refine ah.loop (λmm I U => ∃ (i : Nat) (m : List Int), I.clean = fL I 7 [(0, x), (2, y), (1, J W (i : Nat))] /\ Has Y.bs.length S U [.ai y 1 (m.map aI)] /\ (i + mm = m0.length) /\ (m.Perm m0) /\ (iN m (i - 1) i) /\ (1 <= i)) (m0.length - 1) ?_ ?_;·exact ⟨1, m0, rfl, O, by omega, .refl _, by intro a b h1 X h3; omega, by omega⟩
 rintro mm I U ⟨i, m, hfr, O, hi, B, hs, RW⟩;refine zK λee => ?_;have aaE : m.length = m0.length := B.length_eq;refine M 8 ?_;refine zP (λh1 => ?_) λh1 => ?_
 .refine G 9 ?_;refine ah.loop (λmm I U => ∃ (k : Nat) (m : List Int), I.clean = fL I 7 [(0, x), (2, y), (1, J W (i : Nat)), (0, J W (k : Nat))] /\ Has Y.bs.length S U [.ai y 1 (m.map aI)] /\ (k = mm) /\ (m.Perm m0) /\ (iN m i k) /\ (k <= i)) (i) ?_ ?_;·exact ⟨i, m, rfl, O, rfl, B, by intro a b h1 X h3; exact hs a b h1 GB GB, by omega⟩
  have uw := hi;rintro mm I U ⟨k, m, hfr, O, A, B, hs, L8⟩;rw [hfr];(try dsimp only [fL, fG, υ]);clear hfr;generalize ay I = ee;clear I;have aaE : m.length = m0.length := B.length_eq
  rcases k with _ | k
  .have ba : decide (((0 : Nat) : Int) > 0) = false := by decide
   refine G 2 ?_;refine ah.dM 105 (wt false) [] ?_ (λff tmp bp => ?_)
   .refine G 14 ?_;refine χ (ax ?_ ?_)
    .dsimp [aC, Q4, nth, u2, u1]
     all_goals (first | rfl | simp)
    exact zS
    all_goals (first | rfl | (simp [ba]; done) | (simp_all; done) | (simp [ba]; omega) | (simp_all; omega))
   refine zG ?_;refine G 7 ?_;exact ⟨m0.length - (i + 1), by omega, ⟨i + 1, m, rfl, O, by omega, B, tD hs (xR rfl) _, by omega⟩⟩
  have ba : decide (((k + 1 : Nat) : Int) > 0) = true := by rw [decide_eq_true]; omega
  have dO : (m.map aI)[k]? = some (aI (m.getD k 0)) := by
   rw [ν, γ GB]; simp [μ, γ (show k < m.length by omega)]
  have pe : (m.map aI)[k + 1]? = some (aI (m.getD (k + 1) 0)) := by
   rw [ν, γ GB]; simp [μ, γ (show k + 1 < m.length by omega)]
  refine G 2 ?_;refine ah.dM 105 (wt (decide (m.getD k 0 > m.getD (k + 1) 0))) [] ?_ (λff tmp bp => ?_)
  .refine G 5 ?_;refine u.Aa (z := ((k : Nat) : Int)) (wi ba) Pd Pd (by (try simp only [Δ, θ, ω, ο, ξ, Qe]); rw [wrap_i64 GB GB] <;> omega) (ae rfl _) ?_;refine M 8 λp98 adE ZH VW => ?_;refine χ (ax ?_ ?_)
   .dsimp [aC, Q4, nth, u2, u1]
    all_goals (first | rfl | simp)
   exact zS
   all_goals (first | rfl | (simp [ba]; done) | (simp_all; done) | (simp [ba]; omega) | (simp_all; omega))
  refine zG ?_;have hsw := swap_perm (m := m) (k := k) GB;have Hg := λh => B0 (m := m) (i := i) (k := k) GB GB hs h;have hsd := λ(h : m.getD k 0 <= m.getD (k + 1) 0) => tD (j := i + 1) hs (j4 (by rw [Nat.add_sub_cancel]; exact h));have aaF : ((m.set k (m.getD (k + 1) 0)).set (k + 1) (m.getD k 0)).map aI = ((m.map aI).set k (aI (m.getD (k + 1) 0))).set (k + 1) (aI (m.getD k 0)) := by rw [ZC, ZC]
  have hr3 : ((m.map aI).set k (aI (m.getD (k + 1) 0)))[k + 1]? = some (aI (m.getD (k + 1) 0)) := by rw [QX GB]; exact pe
  generalize m.getD k 0 = a at *;generalize m.getD (k + 1) 0 = b at *;refine ah.cond so (λX => ?_) (λX => ?_) <;> try simp only [decide_eq_true_eq, decide_eq_false_iff_not] at X
  .refine G 6 ?_;refine yB (z := ((k : Nat) : Int)) ?_;refine G 4 ?_;refine qi O aV λZG VV => ?_;refine G 3 ?_;refine yB (z := ((k : Nat) : Int)) ?_;refine qi O aV λado ac3 => ?_;refine G 1 ?_;refine qi O aV λadn ac2 => ?_;refine yG O aV λU O => ?_;dsimp [u2, u1, u3, u4, setMany, u5, u6, QH, υ, ak, aI] at O;refine qi O aV λadm ac1 => ?_;refine yG O aV λU O => ?_;dsimp [u2, u1, u3, u4, setMany, u5, u6, QH, υ, ak, aI] at O;refine G 3 ?_;refine yB (z := ((k : Nat) : Int)) ?_;refine G 2 ?_;exact ⟨k, by omega, ⟨k, (m.set k b).set (k + 1) a, rfl, (by rw [aaF]; exact O), rfl, hsw.trans B, Hg X, by omega⟩⟩
  refine G 6 ?_;exact ⟨m0.length - (i + 1), by omega, ⟨i + 1, m, rfl, O, by omega, B, hsd GB, by omega⟩⟩
 refine G 6 ?_;refine ah.ret ⟨rx, _, _, rfl, rl aP O ((O.freeze aV (vz _) (n := 15) AN)), ?_⟩;exact ⟨m, rfl, pf ▸ B, B1 (i := i - 1) (by intro a b h1 X h3; exact hs a b h1 X GB) GB⟩
def eD (l a:List Rg):Prop:=canon a/\∀r,cS a r↔cN r/\cS l r
variable{a:List Rg}
def eD.unique {b:List Rg} (h:eD l a) (g:eD l b):a=b:=se h.1 g.1 λr=>(h.2 r).trans (g.2 r).symm
noncomputable def nG (l:List Rg):Bool:=@decide (eD l l) (Ξ _)
def yn (h:eD l a):nG l=decide (l=a):=by
 unfold nG
 by_cases hl:l=a;·rw[decide_eq_true hl];exact@decide_eq_true _ (Ξ _) (by rw[hl] at h|-;exact h)
 rw[decide_eq_false hl];exact@decide_eq_false _ (Ξ _) (λg=>hl (g.unique h))
def oG (p q:Rg):iC pv .neq 81 (y4 (ak p)) (y4 (ak q))=some (wt (!decide (p=q))):=by
 have h:∀a b a' b':Int,iC pv .neq 81 (y4 [J vJ a,J vJ b]) (y4 [J vJ a',J vJ b'])=Option.map (λb=>D.bool !b) (match some (a==a') with|some true=>(match some (b==b') with|some true=>some true|some false=>some false|none=>none)|some false=>some false|none=>none):=λ_ _ _ _=>rfl;obtain⟨a,b⟩:=p;obtain⟨a',b'⟩:=q;simp only[ak,h]
 by_cases h1:a=a'
 .subst h1
  by_cases X:b=b';·subst X;simp
  have:(b==b')=false:=by simpa using X
  simp[this,X]
 have:(a==a')=false:=by simpa using h1
 simp[this,h1]
def ia {α:Type} {a b:List α} {x y:α} (ha:a[i]?=some x) (F:b[i]?=some y) (h:a.take i=b.take i) (Fw:x=y):a.take (i+1)=b.take (i+1):=by
 rw[π,π,h,ha,F,Fw]
def lP {α:Type} {a b:List α} {x y:α} (ha:a[i]?=some x) (F:b[i]?=some y) (Fw:¬x=y):¬a=b:=by
 intro h;subst h;rw[ha] at F;exact Fw (QK.inj F)
def DL {y:D} {m:List Rg} (hx:QQ Y 2 x (l.map ak)) (hy:QQ Y 2 y (m.map ak)) (hl:l.length<=1073741824) (hm:m.length<=1073741824):Ev pv 142 [x,y] Y (wt (decide (l=m))) Y:=by
 refine zM Xu λS aP hF O=>?_;have hx:=QG hx aP;have hy:=QG hy aP;refine M 13 ?_
 by_cases hlen:l.length=m.length
 .refine ah.cond (v:=false) ?_ (λh=>by cases h) (λ_=>?_);·dsimp[QW,Ψ,nth,Za];rw[hlen];simp
  refine M 9 ?_;refine ah.loop (λmm I U=>∃(i:Nat),I.clean=fL I 14 [(0,x),(0,y),(2,wt false),(7,J W (l.length:Nat)),(0,J W (i:Nat))]/\Has Y.bs.length S U []/\(i+mm=l.length)/\(l.take i=m.take i)) (l.length) ?_ ?_;·exact⟨0,rfl,O,by omega,rfl⟩
  rintro mm I U ⟨i,hfr,O,hi,ht⟩;refine zK λee=>?_;refine G 5 ?_;refine zP (λh1=>?_) λh1=>?_
  .refine G 1 ?_
   obtain⟨p,B⟩:=gx (l:=l) (i:=i)
   obtain⟨q,hq⟩:=gx (l:=m) (i:=i)
   have dO:=db B;have pe:=db hq;refine M 17 λYw O5 Nu xF=>?_;refine u.U' rfl Pd Pd (oG p q) (ae rfl _) ?_;refine G 1 ?_;refine ah.cond (by rfl) (λX=>?_) (λX=>?_)<;>try simp at X
   .refine G 4 ?_;rw[decide_eq_false (lP B hq (by simpa using X))];exact M 0 trivial
   refine G 5 ?_;exact⟨mm-1,by omega,i+1,rfl,O,by omega,ia B hq ht (by simpa using X)⟩
  refine G 5 ?_;rw[decide_eq_true (by rw[ι GB,ι GB] at ht;exact ht)];exact M 0 trivial
 refine ah.cond (v:=true) ?_ (λ_=>?_) (λh=>by cases h);·dsimp[QW,Ψ,nth,Za];simp;omega
 refine G 4 ?_;rw[decide_eq_false (λh=>hlen (by rw[h]))];exact M 0 trivial
def Ky (hx:QQ Y 2 x (l.map ak)) (hl:l.length<=1048576):Ev pv 119 [x] Y (wt (nG l)) Y:=by
 refine Ev.sU rfl XP rfl rfl rfl ?_;refine zE ?_;obtain⟨aP,hF,O⟩:=ri Y;generalize aw .ro Y=S at*;have hx:=QG hx aP;refine G 4 ?_;obtain⟨_,aK,all,rfl,hperm,kL⟩:=AM (hx.rows O) GB;have hM:eD l (all.foldl ek []).reverse:=mD (λx=>hperm.mem_iff) kL;have hlen:=hperm.length_eq;have iS:=kP l;have hjl:=wk all;rw[yn hM];refine G 4 ?_;refine qv (aK) ?_;refine qv (DL (hx.rows O) (bC _ _) GB (by rw[Δ];omega)) ?_;exact M 2 trivial
def Cx {acc:List Rg} {lo hi:Int} (hF:S.flr<=N) (O:Has N S U (.ai x 2 (acc.reverse.map ak)::H)) (hl:acc.length<=536870912) (F:∀k∈acc,0<=k.2+1/\k.2+1<=2147483647):
  ∃x' R,Ev pv 157 [x,J vJ lo,J vJ hi] U x' R/\Has N S R (.ai x' 2 ((eN acc lo hi).reverse.map ak)::H):=by
 refine Ev.sv rfl Xg rfl rfl rfl ?_;refine zE ?_;change ah _ _ _ _ U _;refine G 4 ?_
 rcases acc with _|⟨h,t⟩
 .have c8:decide (((([]:List Rg).reverse.map ak).length:Int)>0)=false:=by decide
  refine G 2 ?_;refine ah.dM 21 (wt false) [] ?_ (λff tmp bp=>?_)
  .refine M 15 ?_;refine χ (ax ?_ ?_)
   .dsimp[aC,Q4,nth,u2,u1]
    all_goals(first|rfl|simp)
   dsimp only[W5,QS,Q2,QW,Ψ,nth,look,u1,u2,v1,v2,v4]
   all_goals(first|rfl|(simp[c8];done)|(simp_all;done)|(simp[c8];omega)|(simp_all;omega))
  refine zd ?_;refine M 13 λk34 U aaW O x35 U O=>?_;exact O.drop 1
 have rP:=C6 h t;have eW:=C5 h (h.1,hi) t;have hbh:=F h (δ ..);simp only[θ] at hl;have c8:decide (((t.length+1:Nat):Int)>0)=true:=by rw[decide_eq_true];omega
 refine G 2 ?_;refine ah.dM 21 (wt (decide (h.2+1=lo))) [] ?_ (λff tmp bp=>?_)
 .refine M 7 ?_;refine u.Aa (z:=(t.length:Int)) (wi c8) Pd Pd (by(try simp only[Δ,θ,ω,ο,ξ,Qe]);rw[wrap_i64 GB GB]<;>omega) (ae rfl _) ?_;refine qi O aV (λTN I5=>?_) (hg:=wi c8);refine u.dJ (fo:=1) (m:=0) (o2:=1) (wi c8) Pd so rfl rfl rfl (λ_=>(ae rfl _)) (λU1 LV=>?_);refine G 1 ?_;refine Zf (wi c8) Pd Pd GB GB (ae rfl _) ?_;refine G 3 ?_;refine χ (ax ?_ ?_)
  .dsimp[aC,Q4,nth,u2,u1]
   all_goals(first|rfl|simp)
  dsimp only[W5,QS,Q2,QW,Ψ,nth,look,u1,u2,v1,v2,v4]
  all_goals(rfl)
 refine zd ?_;refine ah.cond so (λX=>?_) (λX=>?_)<;>try simp at X
 .refine G 4 ?_;refine qn ?_ (hR:=O.rows aV);simp only[ξ,θ,Δ];refine yB (z:=(t.length:Int)) ?_;refine qm ?_;refine qi O aV λTL I3=>?_;refine yF (o2:=1) λTK I2=>?_;refine yG O aV λU O=>?_;dsimp[u2,u1,u3,u4,setMany,u5,u6,QH,υ,ak] at O;refine M 7 ?_;simp only[eN,if_pos X];rw[<-eW];exact O
 refine M 12 λk34 U aaW O x35 U O=>?_;simp only[eN,if_neg X];rw[Φ (a:=(lo,hi)),τ];exact O.drop 1
def yy (acc:List Rg) (lo hi:Int):(eN acc lo hi).length<=acc.length+1:=by
 unfold eN;split;·simp
 split<;>simp
def Rt (l:List Rg) (a b:Int):Qj l true a b=((decide (a<b) &&(decide (a<55296)||decide (a>57343))) &&lh l a):=by
 unfold Qj;cases lh l a<;>simp
def vG (hx:QQ Y 2 x (l.map ak)) (hl:l.length<=134217728):∃d,Ev pv 130 [x] Y d Y/\∃a:List Rg,d=az a/\eD l a:=by
 refine zM XE λS aP hF O=>?_;have hx:=QG hx aP;refine G 4 ?_;obtain⟨_,aK,m,rfl,hperm,kL⟩:=CP (hx.rows O) GB;have hlen:=hperm.length_eq;have iS:=oO l;have mG:m.length=4+(l.flatMap iL).length:=by rw[hlen];simp[fm];omega
 have V5:∀q∈m,0<=q/\q<=1114112:=by
  intro q hq;have:=hperm.mem_iff.1 hq;simp only[fm,Q7,η,List.not_mem_nil,or_false,ψ] at this
  rcases this with(h|h|h|h)|⟨y,_,hy⟩
  .omega
  .omega
  .omega
  .omega
  unfold iL at hy
  split at hy<;>split at hy<;>simp at hy<;>omega
 have hM:=o0 (l:=l) (m:=m) true (λq=>by
  rw[hperm.mem_iff]
  simp[fm,or_assoc]) kL
 have hMI:eD l (dI l true m []).reverse:=⟨hM.1,λr=>by rw[hM.2 r];simp⟩
 refine M (t:=(aK)) 6 ?_;have pf:=Wg (N:=Y.bs.length) (S:=S) (s:=1) (es:=(m.map aI).map (jK 1)) (λU=>tE U m);change Arg Y.bs.length S 1 (sL m) _ at pf;refine G 9 ?_;have O:=O.cY 2;refine G 1 ?_;refine ah.loop (λmm I U=>∃(i:Nat) (y:D) (acc:List Rg),I.clean=⟨6,[x,ay I 1,ay I 2,sL m,y,J W (i:Nat)],[]⟩/\Has Y.bs.length S U [.ai y 2 (acc.reverse.map ak)]/\(i+mm=m.length)/\(dI l true (m.drop i) acc=dI l true m [])/\(acc.length<=i)/\(∀k∈acc,0<=k.2+1/\k.2+1<=1114112)) (m.length) ?_ ?_;·exact⟨0,j5,[],rfl,O,by omega,rfl,by simp,by simp⟩
 rintro mm I U ⟨i,y,acc,hfr,O,hi,B,hal,hab⟩;rw[hfr];(try dsimp only[fL,fG,υ]);clear hfr;generalize ay I=ee;clear I;refine G 6 ?_;refine qn ?_;simp only[ξ];refine G 2 ?_;refine zP (λh1=>?_) λh1=>?_
 .refine G 1 ?_
  obtain⟨a,ha⟩:=gx (l:=m) (i:=i)
  obtain⟨b,F⟩:∃b,m[i+1]?=some b:=⟨m[i+1]' GB,γ _⟩
  have dO:=qZ ha;have pe:=qZ F;have hbr:=V5 b (WM F);have har:=V5 a (WM ha)
  have qd:m.drop i=a::b::m.drop (i+2):=by
   rw[ς GB,ς GB];rw[γ GB] at ha F;rw[QK.inj ha,QK.inj F]
  have SB:m.drop (i+1)=b::m.drop (i+2):=by
   rw[ς GB];rw[γ GB] at F;rw[QK.inj F]
  rw[qd,dI,<-SB,Rt] at B;refine G 3 ?_;refine ah.dM 46 (wt ((decide (a<b) &&(decide (a<55296)||decide (a>57343))) &&lh l a)) [] ?_ (λff tmp bp=>?_)
  .refine M 11 λQd Di Nu xF=>?_;refine y2 25 (λdw=>?_) λdw=>?_
   .refine M 6 λTK I2=>?_;refine y2 31 (λwJ=>?_) λwJ=>?_;·refine M (t:=(ow (hx.rows O) GB)) 15 λTJ I1=>?_;exact vV
    refine M 8 λYu O3=>?_;refine y2 39 (λnT=>?_) λnT=>?_;·refine G 3 ?_;refine qr (λTJ I1=>?_) (hg:=wi nT);refine G 1 ?_;refine qv (ow (hx.rows O) GB) ?_ (hg:=wi nT);refine G 1 ?_;exact vV
    refine G 7 ?_;exact vV
   refine G 21 ?_;exact vV
  refine zG ?_;refine qc (λX=>?_) (λX=>?_)<;>try simp only[cs] at X
  .rw[X,if_pos rfl] at B;have eY:=yy acc a (b-1);obtain⟨x',R,Bb,ub⟩:=Cx (acc:=acc) (lo:=a) (hi:=b-1) hF O GB (λk A=>by have:=hab k A;omega);refine G 4 ?_;refine qr λYt O1=>?_;refine G 4 ?_;refine qr λZu R2=>?_;refine qR ?_;refine u.J_ rfl Pd Pd GB GB (ae rfl _) ?_;refine qv (Bb) ?_;refine G 2 ?_;have O:=ub;refine G 5 ?_;refine⟨mm-1,by omega,⟨i+1,x',eN acc a (b-1),rfl,O,by omega,B,by omega,?_⟩⟩;intro k A;unfold eN at A
   split at A;·simp at A;subst A;simp only;omega
   rename_i h t
   split at A
   .rcases η.1 A with rfl|A
    .simp only;omega
    exact hab k (ε _ A)
   rcases η.1 A with rfl|A
   .simp only;omega
   exact hab k A
  rw[X] at B;refine G 6 ?_;exact⟨mm-1,by omega,i+1,y,acc,rfl,O,by omega,B,by omega,hab⟩
 refine G 6 ?_
 have dC:acc=dI l true m []:=by
  rw[<-B];have hdl:(m.drop i).length<=1:=by rw[φ];omega
  match hd:m.drop i,hdl with
  |[],_=>rfl
  |[_],_=>rfl
 refine ah.ret ⟨rx,_,_,rfl,rl aP O ((O.freeze aV (cX _) (n:=15) AN)),?_⟩;exact⟨acc.reverse,by rw[ef],by rw[dC];exact hMI⟩
def Ck (hx:QQ Y 2 x (l.map ak)) (hl:l.length<=1048576):Ev pv 129 [x] Y (wt (nG l)) Y:=by
 refine zM XF λS aP hF O=>?_;have hx:=QG hx aP;refine G 4 ?_;obtain⟨_,aK,m,rfl,hM⟩:=vG (hx.rows O) GB;rw[yn hM];refine M (t:=(aK)) 6 ?_;have pf:Arg Y.bs.length S 2 (az m) (m.map ak):=Wg (λU=>bC U m);refine M 9 ?_
 by_cases hlen:m.length=l.length
 .refine ah.cond (v:=false) ?_ (λh=>by cases h) (λ_=>?_);·dsimp only[QW,Ψ,nth,Za];rw[hlen];simp
  refine G 7 ?_;refine ah.loop (λmm I U=>∃(i:Nat),I.clean=⟨5,[x,ay I 1,wt false,az m,J W (i:Nat)],[]⟩/\Has Y.bs.length S U []/\(i+mm=l.length)/\(l.take i=m.take i)) (l.length) ?_ ?_;·exact⟨0,rfl,O,by omega,rfl⟩
  rintro mm I U ⟨i,hfr,O,hi,ht⟩;refine zK λee=>?_;refine M 8 ?_;refine zP (λh1=>?_) λh1=>?_
  .refine G 1 ?_
   obtain⟨p,B⟩:=gx (l:=l) (i:=i)
   obtain⟨q,hq⟩:=gx (l:=m) (i:=i)
   have dO:=db B;have pe:=db hq;refine M 12 λOc AX KY wD=>?_;refine u.U' rfl Pd Pd (oG q p) (ae rfl _) ?_;refine G 1 ?_;refine ah.cond (by rfl) (λX=>?_) (λX=>?_)<;>try simp at X
   .refine G 4 ?_;rw[decide_eq_false (lP B hq (by simpa[eq_comm] using X))];exact M 0 trivial
   refine G 6 ?_;exact⟨mm-1,by omega,i+1,rfl,O,by omega,ia B hq ht (by simpa[eq_comm] using X)⟩
  refine G 5 ?_;rw[decide_eq_true (by rw[ι GB,ι GB] at ht;exact ht)];exact M 0 trivial
 refine ah.cond (v:=true) ?_ (λ_=>?_) (λh=>by cases h);·dsimp only[QW,Ψ,nth,Za];simp;omega
 refine G 4 ?_;rw[decide_eq_false (λh=>hlen (by rw[h]))];exact M 0 trivial
structure bn where
 op:Int
 x:Int
 y:Int
 rd:D
 rs:List Rg
def bN (i:bn):List D:=[J W i.op,J W i.x,J W i.y,i.rd]
def bn.ok (i:bn):Prop:=fJ i.rd 2 (i.rs.map ak)/\i.rs.length<=1048576
def av (n:Int):List D:=[J W n]
structure Pg where
 cd:D
 code:List bn
 sd:D
 aN:List Int
structure Pg.ok (p:Pg):Prop where
 c:fJ p.cd 4 (p.code.map bN)
 s:fJ p.sd 1 (p.aN.map av)
 i:∀x∈p.code,x.ok
 cl:p.code.length<=1048576
 sl:p.aN.length<=1048576
def Pg.cs (p:Pg):List D:=[p.cd,p.sd]
def Pg.d (p:Pg):D:=y4 p.cs
def kK {l:List bn} {q:bn} (h:l[i]?=some q):(l.map bN)[i]?=some (bN q):=by rw[ν,h];rfl
def iu {l:List Int} (h:l[i]?=some q):(l.map av)[i]?=some (av q):=by rw[ν,h];rfl
def aU (c:Nat):Int×Nat×Nat:=
 if c<128 then(0,0,0) else if c<194 then(-1,0,0) else if c<224 then(1,128,191) else if c=224 then(2,160,191) else if c=237 then(2,128,159)
 else if c<240 then(2,128,191) else if c=240 then(3,144,191) else if c<244 then(3,128,191) else if c=244 then(3,128,143) else(-1,0,0)
def OC (c:Nat) (U:St):Ev pv 94 [J .u8 c] U (.tup [J W (aU c).1,J .u8 (aU c).2.1,J .u8 (aU c).2.2]) U:=by
 refine Ev.sU rfl aby rfl rfl rfl ?_;refine zE ?_;refine zR ?_;refine ah.seq (ah.block ?_);refine zR ?_;(repeat refine qq ?_);refine qc (λh1=>?_) (λh1=>?_)<;>try simp at h1
 .refine zR ?_;refine zs ?_;rw[show aU c=(0,0,0) by unfold aU;rw[if_pos GB]];rfl
 refine zR ?_;(repeat refine qq ?_);refine qc (λX=>?_) (λX=>?_)<;>try simp at X
 .refine zR ?_;refine zs ?_;rw[show aU c=(-1,0,0) by unfold aU;rw[if_neg GB,if_pos GB]];rfl
 refine zR ?_;(repeat refine qq ?_);refine qc (λh3=>?_) (λh3=>?_)<;>try simp at h3
 .refine zR ?_;refine zs ?_;rw[show aU c=(1,128,191) by unfold aU;rw[if_neg GB,if_neg GB,if_pos GB]];rfl
 refine zR ?_;(repeat refine qq ?_);refine qc (λh4=>?_) (λh4=>?_)<;>try simp at h4
 .refine zR ?_;refine zs ?_;rw[show aU c=(2,160,191) by unfold aU;rw[if_neg GB,if_neg GB,if_neg GB,if_pos GB]];rfl
 refine zR ?_;(repeat refine qq ?_);refine qc (λh5=>?_) (λh5=>?_)<;>try simp at h5
 .refine zR ?_;refine zs ?_;rw[show aU c=(2,128,159) by unfold aU;rw[if_neg GB,if_neg GB,if_neg GB,if_neg GB,if_pos GB]];rfl
 refine zR ?_;(repeat refine qq ?_);refine qc (λh6=>?_) (λh6=>?_)<;>try simp at h6
 .refine zR ?_;refine zs ?_;rw[show aU c=(2,128,191) by unfold aU;rw[if_neg GB,if_neg GB,if_neg GB,if_neg GB,if_neg GB,if_pos GB]];rfl
 refine zR ?_;(repeat refine qq ?_);refine qc (λh7=>?_) (λh7=>?_)<;>try simp at h7
 .refine zR ?_;refine zs ?_;rw[show aU c=(3,144,191) by unfold aU;rw[if_neg GB,if_neg GB,if_neg GB,if_neg GB,if_neg GB,if_neg GB,if_pos GB]];rfl
 refine zR ?_;(repeat refine qq ?_);refine qc (λh8=>?_) (λh8=>?_)<;>try simp at h8
 .refine zR ?_;refine zs ?_;rw[show aU c=(3,128,191) by unfold aU;rw[if_neg GB,if_neg GB,if_neg GB,if_neg GB,if_neg GB,if_neg GB,if_neg GB,if_pos GB]];rfl
 refine zR ?_;(repeat refine qq ?_);refine qc (λh9=>?_) (λh9=>?_)<;>try simp at h9
 .refine zR ?_;refine zs ?_;rw[show aU c=(3,128,143) by unfold aU;rw[if_neg GB,if_neg GB,if_neg GB,if_neg GB,if_neg GB,if_neg GB,if_neg GB,if_neg GB,if_pos GB]];rfl
 refine ah.skip<|zR ?_;refine zs ?_;rw[show aU c=(-1,0,0) by unfold aU;rw[if_neg GB,if_neg GB,if_neg GB,if_neg GB,if_neg GB,if_neg GB,if_neg GB,if_neg GB,if_neg GB]];rfl
def eF:(left n r lo hi:Nat)->List UInt8->Nat×Nat×Bool
 |0,n,r,_,_,_=>(r,n,false)
 |left+1,n,r,lo,hi,[]=>(0,0,true)
 |left+1,n,r,lo,hi,x::xs=>if x.toNat<lo\/hi<x.toNat then(0,0,false) else eF left n (r*64+x.toNat %64) 128 191 xs
def fW:List UInt8->Nat×Nat×Bool
 |[]=>(0,0,false)
 |c::xs=>if(aU c.toNat).1<0 then(0,0,false)
   else eF (aU c.toNat).1.toNat ((aU c.toNat).1.toNat+1) (if(aU c.toNat).1>0 then c.toNat %(64/2^(aU c.toNat).1.toNat) else c.toNat) (aU c.toNat).2.1 (aU c.toNat).2.2 xs
def CM (c:Nat):(aU c).1=-1\/(aU c).1=0\/(aU c).1=1\/(aU c).1=2\/(aU c).1=3:=by
 unfold aU
 repeat' split
 all_goals simp
def Bu {w a:Nat} (ha:a<2^w) (hj:2^j-1<2^w):(κ w (a:Int) &&&κ w ((2^j-1:Nat):Int)).toNat=a %2^j:=by
 rw[bv_and ha hj,Nat.and_two_pow_sub_one_eq_mod]
def aY (b:List UInt8):(ρ b).length=b.length:=by simp[ρ]
variable{b:List UInt8}
def pq {y:UInt8} (h:b[i]?=some y):(ρ b)[i]?=some [J .u8 (y.toNat:Nat)]:=by
 simp[ρ,h]
def mQ (y:UInt8):y.toNat<256:=y.toNat_lt
def Zh {r y:Nat} (hr:r<33554432) (hy:y<256):aR vJ ((κ 32 (aR vJ ((r:Int)*2^(min (W0 6) 32)))|||κ 32 (aR vJ (aR .u8 ((κ 8 (y:Int) &&&κ 8 63).toNat:Nat)))).toNat:Nat)=((r*64+y %64:Nat):Int):=by
 have h1:(κ 8 (y:Int) &&&κ 8 63).toNat=y %64:=Bu (w:=8) (j:=6) hy AN;rw[h1]
 have X:((r:Int)*2^(min (W0 6) 32))=((r*64:Nat):Int):=by
  have:(2:Int)^(min (W0 6) 32)=64:=by decide
  rw[this];simp
 rw[X,b7 (k:=vJ) (m:=r*64) (by simp[iQ];omega),b7 (k:=.u8) (m:=y %64) (by simp[iQ];omega),b7 (k:=vJ) (m:=y %64) (by simp[iQ];omega)];rw[QN GB GB]
 have h3:(r*64)|||(y %64)=r*64+y %64:=by
  have:=Nat.two_pow_add_eq_or_of_lt (i:=6) (b:=y %64) GB r;have e:(2:Nat)^6=64:=by decide
  rw[e] at this;rw[Wk r 64,this]
 rw[h3,b7 (k:=vJ) (m:=r*64+y %64) (by simp[iQ];omega)]
variable{c:Nat}
def Ve (hc:c<256) (hj:j<=8) {m:Int} (hm:m=((2^j-1:Nat):Int)):aR vJ ((κ 32 (aR vJ (c:Nat)) &&&κ 32 m).toNat:Nat)=((c %2^j:Nat):Int):=by
 have h1:2^j<=2^8:=Nat.pow_le_pow_right GB hj;rw[hm,b7 (k:=vJ) (m:=c) (by simp[iQ];omega),Bu (w:=32) GB GB];have:c %2^j<=c:=Nat.mod_le _ _;rw[b7 (k:=vJ) (by simp[iQ];omega)]
def mask (hc:c<256) (hj:j<=8) {m:Int} (hm:m=((2^j-1:Nat):Int)):aR vJ ((κ Q6.bits (aR vJ (c:Nat)) &&&κ Q6.bits m).toNat:Nat)=((c %2^j:Nat):Int):=Ve hc hj hm
def six {r y:Nat} (hr:r<33554432) (hy:y<256):aR vJ ((κ Q6.bits (aR vJ ((r:Int)*2^(min (W0 6) Q6.bits)))|||κ Q6.bits (aR vJ (aR .u8 ((κ ZF.bits (y:Int) &&&κ ZF.bits 63).toNat:Nat)))).toNat:Nat)=((r*64+y %64:Nat):Int):=Zh hr hy
def Mx (F:Bytes U x b):Ev pv 70 [x] U (.tup [J vJ ((fW b).1:Nat),J W ((fW b).2.1:Nat),wt (fW b).2.2]) U:=by
 refine Ev.sU rfl abT rfl rfl rfl ?_;refine zE ?_;have gB:=F.enter .ro;refine zR ?_;refine zU ?_
 refine zW ?_
 refine Zb rfl rfl rfl gB rfl ?_;refine zX ?_;refine zN ?_;(repeat refine qq ?_);refine qc (λh1=>?_) (λh1=>?_)<;>try simp only[cs] at h1
 .refine zR ?_;refine zs ?_
  obtain rfl:b=[]:=by cases b with|nil=>rfl|cons c b=>simp[ρ] at h1;omega
  rfl
 refine ah.skip ?_
 obtain⟨c,xs,rfl⟩:∃c xs,b=c::xs:=by cases b with|nil=>simp[ρ] at h1|cons c b=>exact⟨c,b,rfl⟩
 obtain⟨k,lo,hi,hm⟩:∃k lo hi,aU c.toNat=(k,lo,hi):=⟨_,_,_,rfl⟩
 have hme:=OC c.toNat (aw .ro U);rw[hm] at hme;have A:=CM c.toNat;rw[hm] at A;have hc:=mQ c;refine zU ?_
 refine zW ?_
 refine W' rfl rfl rfl (λ_=>rfl) rfl rfl gB rfl rfl GB rfl rfl (λp=>?_);refine u.zr rfl rfl rfl hme ?_;refine zX ?_;refine zN ?_;refine zR ?_;(repeat refine qq ?_);refine qc (λX=>?_) (λX=>?_)<;>try simp only[cs] at X
 .refine zR ?_;refine zs ?_;simp only[fW,hm];rw[if_pos X];rfl
 refine ah.skip<|zU ?_
 refine zW ?_
 refine W' rfl rfl rfl (λ_=>rfl) rfl rfl gB rfl rfl GB rfl rfl (λp=>?_);(repeat(first|refine xT ?_|refine xL ?_|refine xN ?_|refine xo ?_|refine xp ?_));refine χ ?_;(try refine zF ?_);(try subst hK);(try refine qy ?_);(repeat refine qq ?_);(try generalize hK:dN _ _ _ _=K);refine ah.jy ?_;(repeat(first|refine xT ?_|refine xL ?_|refine xN ?_|refine xo ?_|refine xp ?_));refine χ ?_;(try refine zF ?_);(try subst hK);(try refine qy ?_);generalize hK:dN _ _ _ _=K
 have H:∀(r kn:Nat) (m:List (Nat×D)),k=(kn:Int)->r=(if k>0 then c.toNat %(64/2^k.toNat) else c.toNat)->(r+1)*64^kn<=2097152->K .next ⟨9,[x,.tup [],J vJ r,J W 0,wt false,J W k,J .u8 lo,J .u8 hi,.tup []],m⟩ (aw .ro U):=by
  intro r kn m hkn hr pe
  have hR:fW (c::xs)=eF kn (kn+1) r lo hi xs:=by
   simp only[fW,hm];rw[if_neg X,hr,hkn];rfl
  subst hK;rw[hR];generalize hS:eF kn (kn+1) r lo hi xs=af at hR|-;subst hkn;(try refine qy ?_);(repeat refine qq ?_);(try generalize hK:dN _ _ _ _=K);refine ah.jy ?_;(repeat(first|refine xT ?_|refine xL ?_|refine xN ?_|refine xo ?_|refine xp ?_));refine χ ?_;(try refine zF ?_);(try subst hK);(try refine qy ?_);refine ah.block<|ah.loop (λj I R=>∃(i r lo hi:Nat),I.clean=⟨9,[x,.tup [],J vJ r,J W 0,wt false,J W kn,J .u8 lo,J .u8 hi,J W (i:Nat)],[]⟩/\R=aw .ro U/\1<=i/\i+j=kn+1/\eF j (kn+1) r lo hi (xs.drop (i-1))=af/\(r+1)*64^j<=2097152) kn ⟨1,r,lo,hi,rfl,rfl,by omega,by omega,hS,pe⟩ ?_;clear hr pe hS r hm hme m;rintro j I R ⟨i,r,lo,hi,hfr,rfl,YT,hij,hS,pe⟩;rw[hfr];(try refine qy ?_);(repeat refine qq ?_);(try generalize hK:dN _ _ _ _=K);refine ah.jy ?_;(repeat(first|refine xT ?_|refine xL ?_|refine xN ?_|refine xo ?_|refine xp ?_));refine χ ?_;(try refine zF ?_);(try subst hK);(try refine qy ?_);(repeat refine qq ?_);refine qc (λh4=>?_) (λh4=>?_)<;>try simp only[cs] at h4
  .refine ah.skip ?_
   obtain⟨j,rfl⟩:∃j',j=j'+1:=⟨j-1,by omega⟩
   refine ah.seq (ah.block ?_);refine zU ?_
   refine zW ?_
   refine zW ?_
   refine Zb rfl rfl rfl gB rfl ?_;refine zX ?_;refine zN ?_
   have Dd:(xs.drop (i-1))=[]\/∃y ys,xs.drop (i-1)=y::ys:=by
    cases xs.drop (i-1) with
    |nil=>exact xR rfl
    |cons y ys=>exact j4 ⟨y,ys,rfl⟩
   have Qo:(xs.drop (i-1)).length=xs.length-(i-1):=φ ..;have hbl:(ρ (c::xs)).length=xs.length+1:=by simp[ρ]
   (try refine qy ?_);(repeat refine qq ?_);refine qc (λh5=>?_) (λh5=>?_)<;>try simp only[cs] at h5
   .refine zR ?_;refine zs ?_
    rcases Dd with Dd|⟨y,ys,Dd⟩
    .rw[Dd] at hS;simp[eF] at hS;subst hS;rfl
    rw[Dd] at Qo;simp at Qo;omega
   refine ah.skip ?_
   rcases Dd with Dd|⟨y,ys,Dd⟩
   .rw[Dd] at Qo;simp at Qo;omega
   have hy:(c::xs)[i]?=some y:=by
    obtain⟨i,rfl⟩:∃i',i=i'+1:=⟨i-1,by omega⟩
    have:=congrArg (λl=>l[0]?) Dd
    simpa using this
   have j8:xs.drop (i+1-1)=ys:=by
    have:=congrArg (λl=>l.drop 1) Dd;simp at this;rw[<-this];congr 1;omega
   have TR:=pq hy;have hyb:=mQ y;rw[Dd] at hS;simp[eF] at hS;refine zU ?_
   refine zW ?_
   refine zW ?_
   refine W' rfl rfl rfl (λ_=>rfl) rfl rfl gB rfl rfl GB TR rfl (λp=>?_)
   refine zW ?_
   refine zW ?_
   refine zW ?_
   by_cases Eh:(y.toNat:Int)<(lo:Int);·rw[decide_eq_true Eh];refine zX ?_;refine zN ?_;refine ah.cond (v:=true) rfl (λ_=>?_) (λh=>by cases h);refine zR ?_;refine zs ?_;rw[if_pos (xR GB)] at hS;subst hS;rfl
   rw[decide_eq_false Eh]
   refine zW ?_
   refine zW ?_
   refine W' rfl rfl rfl (λ_=>rfl) rfl rfl gB rfl rfl GB TR rfl (λp=>?_);refine zX ?_;refine zN ?_;(repeat refine qq ?_);refine qc (λh6=>?_) (λh6=>?_)<;>try simp only[cs] at h6
   .refine zR ?_;refine zs ?_;rw[if_pos (j4 GB)] at hS;subst hS;rfl
   refine ah.skip ?_;rw[if_neg GB] at hS;refine zU ?_
   refine zW ?_
   refine zW ?_
   refine zW ?_
   refine zW ?_
   refine W' rfl rfl rfl (λ_=>rfl) rfl rfl gB rfl rfl GB TR rfl (λp=>?_);refine zX ?_;refine zN ?_;have hr3:r+1<=(r+1)*64^(j+1):=Nat.le_mul_of_pos_right _ (Nat.pow_pos GB);rw[six GB hyb];refine zR ?_;refine zR ?_;rw[wrap_i64 GB GB];refine⟨j,by omega,i+1,_,_,_,rfl,rfl,by omega,by omega,by rw[j8];exact hS,?_⟩;have e1:(r*64+y.toNat %64+1)<=(r+1)*64:=by omega
   have e2:=Nat.mul_le_mul_right (64^j) e1;have e3:64*64^j=64^(j+1):=by rw[Nat.pow_succ,Wk]
   rw[Nat.mul_assoc,e3] at e2;omega
  refine ah.exit ?_;have:j=0:=by omega
  subst this;simp[eF] at hS;subst hS;(try refine qy ?_);(repeat refine qq ?_);(try generalize hK:dN _ _ _ _=K);refine ah.jy ?_;(repeat(first|refine xT ?_|refine xL ?_|refine xN ?_|refine xo ?_|refine xp ?_));refine χ ?_;(try refine zF ?_);(try subst hK);(try refine qy ?_);refine zs ?_;rw[wrap_i64 GB GB];rfl
 rcases A with A|A|A|A|A
 .omega
 .subst A;refine ah.cond (v:=false) rfl (λh=>by cases h) λ_=>ah.skip ?_;rw[b7 (by simp[iQ];omega)];exact H _ 0 _ rfl rfl GB
 .subst A;refine ah.cond (v:=true) rfl (λ_=>?_) (λh=>by cases h);refine ah.jy ?_
  (first|refine xT ?_|refine xL ?_|refine xN ?_|refine xo ?_|refine xp ?_)
  refine W' rfl rfl rfl (λ_=>rfl) rfl rfl gB rfl rfl GB rfl rfl (λp=>?_);(repeat(first|refine xT ?_|refine xL ?_|refine xN ?_|refine xo ?_|refine xp ?_));refine χ ?_;(try refine zF ?_);rw[mask (j:=5) hc GB];·exact H _ 1 _ rfl rfl GB
  decide
 .subst A;refine ah.cond (v:=true) rfl (λ_=>?_) (λh=>by cases h);refine ah.jy ?_
  (first|refine xT ?_|refine xL ?_|refine xN ?_|refine xo ?_|refine xp ?_)
  refine W' rfl rfl rfl (λ_=>rfl) rfl rfl gB rfl rfl GB rfl rfl (λp=>?_);(repeat(first|refine xT ?_|refine xL ?_|refine xN ?_|refine xo ?_|refine xp ?_));refine χ ?_;(try refine zF ?_);rw[mask (j:=4) hc GB];·exact H _ 2 _ rfl rfl GB
  decide
 subst A;refine ah.cond (v:=true) rfl (λ_=>?_) (λh=>by cases h);refine ah.jy ?_
 (first|refine xT ?_|refine xL ?_|refine xN ?_|refine xo ?_|refine xp ?_)
 refine W' rfl rfl rfl (λ_=>rfl) rfl rfl gB rfl rfl GB rfl rfl (λp=>?_);(repeat(first|refine xT ?_|refine xL ?_|refine xN ?_|refine xo ?_|refine xp ?_));refine χ ?_;(try refine zF ?_);rw[mask (j:=3) hc GB];·exact H _ 3 _ rfl rfl GB
 decide
def hD (b:List UInt8):Nat×Nat:=if(fW b).2.1=0 then(65533,1) else((fW b).1,(fW b).2.1)
def xU:Nat->List UInt8->List (Nat×Nat)
 |0,_=>[]
 |_+1,[]=>[]
 |n+1,b=>hD b::xU n (b.drop (hD b).2)
def mP (b:List UInt8):List (Nat×Nat):=xU b.length b
def nK (b:List UInt8):1<=(hD b).2:=by
 unfold hD;split;·simp
 simp only;omega
def tw : ∀ (n : Nat) (b : List UInt8), b.length <= n -> xU n b = mP b
 | 0, [], _ => rfl
 | 0, _ :: _, h => by simp at h
 | n + 1, [], _ => rfl
 | n + 1, c :: b, h => by
  have B := nK (c :: b);have h1 : ((c :: b).drop (hD (c :: b)).2).length <= b.length := by rw [φ]; simp only [θ]; omega
  simp only [θ] at h;show hD (c :: b) :: xU n ((c :: b).drop _) = hD (c :: b) :: xU b.length ((c :: b).drop _);rw [tw n _ GB]
  rcases ZE n b.length with X | X
  .omega
  rw [tw b.length _ h1]
termination_by n b => b.length
decreasing_by all_goals (simp_wf; omega)
def sm:mP []=[]:=rfl
def tv (h:b≠[]):mP b=hD b::mP (b.drop (hD b).2):=by
 match b,h with
 |c::b,_=>
  show hD (c::b)::xU b.length ((c::b).drop _)=_;rw[tw];have B:=nK (c::b);rw[φ];simp only[θ];omega
def bz (g:Nat×Nat):List D:=[J vJ (g.1:Nat),J W (g.2:Nat)]
def gC (l:List (Nat×Nat)):D:=.sl ((l.map bz).map (jK 2))
def Mv {l:List (Nat×Nat)}:∀e∈l.map bz,e.length=2:=by
 intro e he;obtain⟨g,_,rfl⟩:=Θ.1 he;rfl
def qw {l:List (Nat×Nat)}:∀e∈l.map bz,∀d∈e,cv d=true:=by
 intro e he d hd;obtain⟨g,_,rfl⟩:=Θ.1 he;simp[bz] at hd
 rcases hd with rfl|rfl<;>rfl
def eZ (U:St) (l:List (Nat×Nat)):QQ U 2 (gC l) (l.map bz):=Rows.nM Mv qw
def Cd:∀(left n r lo hi:Nat) (b:List UInt8),(eF left n r lo hi b).2.1≠0->(eF left n r lo hi b).2.1=n/\left<=b.length
 |0,n,r,lo,hi,b,h=>by simp[eF]
 |left+1,n,r,lo,hi,[],h=>by simp[eF] at h
 |left+1,n,r,lo,hi,x::xs,h=>by
  simp only[eF] at h|-
  split at h;·simp at h
  rename_i hc;rw[if_neg hc];have:=Cd left n _ _ _ xs h;exact⟨this.1,by simp;omega⟩
def Ay (h:b≠[]):(hD b).2<=b.length:=by
 match b,h with
 |c::xs,_=>
  unfold hD
  split;·simp
  rename_i hz;simp only[fW] at hz|-
  split at hz;·simp at hz
  rename_i A;rw[if_neg A];have:=Cd _ _ _ _ _ _ hz;rw[this.1];simp;omega
def Tp (F:Bytes U x b) (hlen:b.length<=1048576):Ev pv 41 [x] U (gC (mP b)) U:=by
 refine Ev.sU rfl acj rfl rfl rfl ?_;refine zE ?_;have hx:=F.ref;refine zR ?_;refine zR ?_;refine ah.seq (ah.block ?_)
 refine ah.loop (λj I R=>∃(y out r n:D) (b':List UInt8) (done:List (Nat×Nat)),I.clean=⟨6,[y,.tup [],.nul,out,r,n],[]⟩/\Ex U.bs.length (aw .ro U) R/\Bytes R y b'/\y.ref<=U.bs.length/\
  Acc U.bs.length R 2 out (done.map bz)/\j=b'.length/\done++mP b'=mP b/\done.length+b'.length<=b.length) b.length
  ⟨x,.nul,_,_,b,[],rfl,Ex.refl _ _,F.enter .ro,hx,.nul,rfl,rfl,by simp⟩ ?_
 rintro j I R ⟨y,out,r,n,b',done,hfr,hex,hy,Vp,Dz,rfl,hall,hl⟩;rw[hfr];refine zU ?_
 refine zW ?_
 refine Zb rfl rfl rfl hy rfl ?_;refine zX ?_;refine zN ?_;rw[aY];(try refine qy ?_);(repeat refine qq ?_);refine qc (λh1=>?_) (λh1=>?_)<;>try simp only[cs] at h1
 .refine ah.skip ?_;have qM:b'≠[]:=by rintro rfl;simp at h1
  (try refine qy ?_);(repeat refine qq ?_);refine ah.block<|zU ?_
  refine zW ?_
  refine u.zr rfl rfl rfl (Mx hy) ?_;(repeat(first|refine xT ?_|refine xL ?_|refine xN ?_|refine xo ?_|refine xp ?_));refine χ ?_;(try refine zF ?_);(try subst hK);(try refine qy ?_);generalize hf:fW b'=hb at*;obtain⟨r0,n0,bg⟩:=hb;(try refine qy ?_);(repeat refine qq ?_);(try generalize hK:dN _ _ _ _=K);refine ah.jy ?_;(repeat(first|refine xT ?_|refine xL ?_|refine xN ?_|refine xo ?_|refine xp ?_));refine χ ?_;(try refine zF ?_);(try subst hK);(try refine qy ?_);generalize hK:dN _ _ _ _=K
  have H:∀m,K .next ⟨6,[y,.tup [],.nul,out,.int .i32 ((hD b').1:Nat),.int .i64 ((hD b').2:Nat)],m⟩ R:=by
   intro m;subst hK;generalize hg:hD b'=g;have B:=nK b';have hle:=Ay qM;rw[hg] at B hle;(try refine qy ?_);(repeat refine qq ?_);(try generalize hK:dN _ _ _ _=K);refine ah.jy ?_
   (first|refine xT ?_|refine xL ?_|refine xN ?_|refine xo ?_|refine xp ?_)
   (first|refine xT ?_|refine xL ?_|refine xN ?_|refine xo ?_|refine xp ?_)
   (first|refine xT ?_|refine xL ?_|refine xN ?_|refine xo ?_|refine xp ?_)
   refine u.T rfl rfl rfl (d:=.agg (bz g)) (st1:=R) rfl ?_;refine u.T rfl rfl rfl (d:=.win R.bs.length 0 0 1 2) (st1:=R.push (.mem 0 true (bz g))) rfl ?_;have hN:U.bs.length<=R.bs.length:=hex.len;have Ba:=hex.trans (Ex.push hN (.mem 0 true (bz g)));refine u.append rfl rfl rfl rfl (Dz.push _) (Rows.one rfl) rfl rfl rfl rfl rfl rfl rfl AN Ba.len (by rw[Ba.flr];exact X8 _) (by rw[Ba.ro];exact X8 _) (by simp only[ξ,θ,ω];show(done.length+1)*16<=_;omega) λOe st2 Mq FB _ _ _=>?_;(repeat(first|refine xT ?_|refine xL ?_|refine xN ?_|refine xo ?_|refine xp ?_));refine χ ?_;(try refine zF ?_);(try subst hK);(try refine qy ?_);have Pb:=Ba.trans FB;have wv:Bytes st2 y b':=Rows.ex ((Ex.push hN _).trans FB) hy Vp;(try refine qy ?_);(repeat refine qq ?_);(try generalize hK:dN _ _ _ _=K);refine ah.jy ?_
   refine zW ?_
   refine zW ?_
   refine u.slice rfl rfl rfl wv rfl rfl (l:=g.2) (r:=b'.length) ?_ ⟨by omega,by rw[aY];omega⟩ λy2 IQ RE=>?_;·show cL (ρ b').length (some (.int .i64 (g.2:Nat))) none=_;rw[aY];simp only[cL,ik,ke,Option.bind_some];rw[if_pos ⟨by omega,by omega⟩];rfl
   (repeat(first|refine xT ?_|refine xL ?_|refine xN ?_|refine xo ?_|refine xp ?_));refine χ ?_;(try refine zF ?_);(try subst hK);(try refine qy ?_);refine⟨(b'.drop g.2).length,by rw[φ];omega,y2,Oe,_,_,b'.drop g.2,done++[g],rfl,Pb,?_,Nat.le_trans RE Vp,?_,rfl,?_,?_⟩
   .have:((ρ b').take b'.length).drop g.2=ρ (b'.drop g.2):=by
     rw[<-aY,Z9];simp[ρ]
    unfold Bytes;rw[<-this];exact IQ
   .rw[τ];exact Mq
   .rw[QY,List.singleton_append,<-hall,tv qM,hg]
   rw[ο,φ];simp only[θ,ω];omega
  (try refine qy ?_);(repeat refine qq ?_);refine qc (λX=>?_) (λX=>?_)<;>try simp only[cs] at X
  .refine ah.jy ?_;refine zX ?_;refine zN ?_;have:hD b'=(65533,1):=by unfold hD;rw[hf,if_pos (by simpa using X)]
   rw[this] at H;exact H _
  refine ah.skip ?_;have:hD b'=(r0,n0):=by unfold hD;rw[hf,if_neg (by simpa using X)]
  rw[this] at H;exact H _
 refine ah.exit ?_
 have qM:b'=[]:=by cases b' with|nil=>rfl|cons _ _=>simp at h1<;>omega
 subst qM;rw[sm,QT] at hall;refine zR ?_;refine ah.ret ⟨rx,_,rfl,dg (by simp) (hex.take rfl) ?_⟩;rw[<-hall];exact Dz.freeze qw (n:=15) AN
structure fw where
 i:Nat
 o:Nat
 g:Nat
 e:Int
 w:Int
def bH (gs:List (Nat×Nat)) (bP:D) (s:fw):List D:=[gC gs,bP,J W (s.i:Nat),J W (s.o:Nat),J W (s.g:Nat),J W s.e,J W s.w]
def cy (gs:List (Nat×Nat)) (i:Nat) (r:Int):Bool:=match gs[i]? with
 |some g=>(g.1:Int)==r
 |none=>false
variable{gs:List (Nat×Nat)}
def dR (h:cy gs i r=true):i<gs.length:=by
 unfold cy at h
 split at h;·exact cI so
 cases h
def cu (gs:List (Nat×Nat)) (s:fw) (r:Int):fw:=if cy gs s.i r=true then{s with i:=s.i+1} else s
def Bs (gs:List (Nat×Nat)) (i:Nat):Bool:=match gs[i]? with
 |some g=>(g.1:Int)==65533 &&(g.2:Int)==1
 |none=>false
def kV (a_:List Int) (s:fw) (i:Nat) (e:Int):fw:=if s.e=0 then{s with e:=e,w:=a_.getD i 0} else s
variable{bP:D}{s:fw}
def tU (nS:gs.length<=1048576) (r:Int) (O:Has N S Y (.box k (.mem 0 false (bH gs bP s))::H)):
  ∃d R,Ev pv 95 [.ptr k 0 0,J vJ r] Y d R/\d=wt (cy gs s.i r)/\Has N S R (.box k (.mem 0 false (bH gs bP s))::H):=by
 have br:=O;refine zO abx λS2 bj O=>?_;have xq:Arg N S2 2 (gC gs) (gs.map bz):=Wg (λU=>eZ U gs);refine G 4 ?_
 by_cases ha:s.i<gs.length
 .obtain⟨g,hg⟩:∃g,gs[s.i]?=some g:=⟨gs[s.i]'ha,γ _⟩
  have dO:(gs.map bz)[s.i]?=some (bz g):=by rw[ν,hg];rfl
  have dw:decide ((s.i:Int)<(gs.length:Nat))=true:=by rw[decide_eq_true];simp;omega
  have hv:cy gs s.i r=((g.1:Int)==r):=by unfold cy;rw[hg]
  refine qq<|ah.ni 4 (wt ((g.1:Int)==r)) [] ?_ (λff tmp=>?_)
  .refine G 8 ?_;refine qn ?_;simp only[ξ];refine G 10 ?_;refine qr (λKY wD=>?_) (hg:=wi dw);refine qf (fo:=0) (λU0 LU=>?_) (hg:=wi dw);refine G 5 ?_;refine χ (we ?_);refine zd ?_;dsimp[W5,QS,Q2,QW,Ψ,nth,look,u1,u2,v1,v2,v4]
   all_goals(first|rfl|(simp[dw];done)|(simp_all;done)|(simp[dw];omega)|(simp_all;omega))
  refine zd ?_;refine ah.ret ⟨rx,_,_,_,rfl,aH (rfl),?_⟩;exact⟨by rw[hv];rfl,br.ag bj O⟩
 have dw:decide ((s.i:Int)<(gs.length:Nat))=false:=by rw[decide_eq_false];simp;omega
 have hv:cy gs s.i r=false:=by
  cases h:cy gs s.i r with
  |true=>exact absurd (dR h) ha
  |false=>rfl
 refine qq<|ah.ni 4 (wt false) [] ?_ (λff tmp=>?_)
 .refine G 8 ?_;refine qn ?_;simp only[ξ];refine G 17 ?_;refine χ (we ?_);refine zd ?_;dsimp[W5,QS,Q2,QW,Ψ,nth,look,u1,u2,v1,v2,v4]
  all_goals(first|rfl|(simp[dw];done)|(simp_all;done)|(simp[dw];omega)|(simp_all;omega))
 refine zd ?_;refine ah.ret ⟨rx,_,_,_,rfl,aH (rfl),?_⟩;exact⟨by rw[hv];rfl,br.ag bj O⟩
def fq (nS:gs.length<=1048576) (r:Int) (O:Has N S Y (.box k (.mem 0 false (bH gs bP s))::H)):
  ∃d R,Ev pv 72 [.ptr k 0 0,J vJ r] Y d R/\d=wt (cy gs s.i r)/\Has N S R (.box k (.mem 0 false (bH gs bP (cu gs s r)))::H):=by
 have br:=O;refine zO abR λS2 bj O=>?_;refine G 9 ?_;obtain⟨_,U,aK,rfl,O⟩:=tU nS r O;refine M 2 ?_;unfold cu
 cases F:cy gs s.i r with
 |true=>
  have hlt:=dR F;dsimp[bH] at O;rw[if_pos rfl];refine M 11 λU O=>?_;dsimp[u2,u1,u3,u4,setMany,u5,u6,QH,υ,bH,bz,av] at O;refine M 6 ?_;exact⟨rfl,br.ag bj O⟩
 |false=>
  rw[if_neg (by simp)];refine M 7 ?_;exact⟨rfl,br.ag bj O⟩
def F7 (i:Nat) (hi:i<gs.length) (O:Has N S Y (.box k (.mem 0 false (bH gs bP s))::H)):
  ∃d R,Ev pv 133 [.ptr k 0 0,J W (i:Nat)] Y d R/\d=wt (Bs gs i)/\Has N S R (.box k (.mem 0 false (bH gs bP s))::H):=by
 have br:=O;refine zO XC λS2 bj O=>?_;have xq:Arg N S2 2 (gC gs) (gs.map bz):=Wg (λU=>eZ U gs);refine G 4 ?_
 obtain⟨g,hg⟩:∃g,gs[i]?=some g:=⟨gs[i]'hi,γ _⟩
 have dO:(gs.map bz)[i]?=some (bz g):=by rw[ν,hg];rfl
 have hv:Bs gs i=((g.1:Int)==65533 &&(g.2:Int)==1):=by unfold Bs;rw[hg]
 refine qq<|ah.ni 4 (wt ((g.1:Int)==65533 &&(g.2:Int)==1)) [] ?_ (λff tmp=>?_)
 .refine M 10 λYy VX Yx LW=>?_;refine y2 14 (λb6=>?_) λb6=>?_
  .refine M 13 λOc AX Qc Dh=>?_
   all_goals(simp[b6];done)
  refine M 13 ?_
  all_goals(simp[b6];done)
 refine zd ?_;refine ah.ret ⟨rx,_,_,_,rfl,aH (rfl),?_⟩;exact⟨by rw[hv];rfl,br.ag bj O⟩
def fK {a_:List Int} (i:Nat) (e:Int) (hi:i<a_.length) (O:Has N S Y (.box k (.mem 0 false (bH gs bP s))::.ai bP 1 (a_.map av)::H)):
  ∃d R,Ev pv 43 [.ptr k 0 0,J W (i:Nat),J W e] Y d R/\d=.sl []/\Has N S R (.box k (.mem 0 false (bH gs bP (kV a_ s i e)))::.ai bP 1 (a_.map av)::H):=by
 have br:=O;refine zO ach λS2 bj O=>?_;refine G 4 ?_
 obtain⟨v,hv⟩:∃v,a_[i]?=some v:=⟨a_[i]'hi,γ _⟩
 have dO:=iu hv;unfold kV;refine G 9 ?_;refine zI (λh0=>?_) λh0=>?_
 .rw[if_pos h0];have hgd:a_.getD i 0=v:=by rw[μ,hv];rfl
  refine M 23 λOc AX U O U O=>?_;exact⟨rfl,by rw[hgd];exact br.ag bj O⟩
 rw[if_neg h0];refine M 6 ?_;exact⟨rfl,br.ag bj O⟩
end Go.Proofs.YtappgjdiplibbaaGreat
