/-
 Ranges of runes: the canonical form, by plain lists. No program in sight.
-/
import Derived.Test.YtbdilgkfnacahaaGreatXPx
import Derived.Test.YtbdilgkfnacahaaGreatXM2
import Derived.KernelRfl
set_option linter.unusedSimpArgs false
set_option linter.unusedVariables false
set_option maxRecDepth 100000
set_option maxHeartbeats 4000000
namespace Go.V
abbrev Rg:=Int×Int
def eQ (l:List Rg) (r:Int):Prop:=∃x,x∈l∧x.1≤r∧r≤x.2
theorem eW (r:Int):¬eQ [] r:=by rintro⟨x,h,_⟩;cases h
theorem bP {x:Rg} {l:List Rg} {r:Int}:eQ (x::l) r↔(x.1≤r∧r≤x.2)∨eQ l r:=by
 constructor
 ·rintro⟨y,hy,h⟩
  rcases List.mem_cons.1 hy with rfl|hy
  ·exact .inl h
  ·exact .inr ⟨y,hy,h⟩
 ·rintro(h|⟨y,hy,h⟩)
  ·exact⟨x,List.mem_cons_self ..,h⟩
  ·exact⟨y,List.mem_cons_of_mem _ hy,h⟩
theorem uh {a b:List Rg} {r:Int}:eQ (a++b) r↔eQ a r∨eQ b r:=by
 constructor
 ·rintro⟨y,hy,h⟩
  rcases List.mem_append.1 hy with hy|hy
  ·exact .inl ⟨y,hy,h⟩
  ·exact .inr ⟨y,hy,h⟩
 ·rintro(⟨y,hy,h⟩|⟨y,hy,h⟩)
  ·exact⟨y,List.mem_append_left _ hy,h⟩
  ·exact⟨y,List.mem_append_right _ hy,h⟩
theorem qN {a b:List Rg} (h:∀x,x∈a↔x∈b) (r:Int):eQ a r↔eQ b r:=by
 constructor
 ·rintro⟨y,hy,hh⟩;exact⟨y,(h y).1 hy,hh⟩
 ·rintro⟨y,hy,hh⟩;exact⟨y,(h y).2 hy,hh⟩
def canon (l:List Rg):Prop:=(∀x∈l,x.1≤x.2)∧l.Pairwise fun x y=>x.2+1<y.1
theorem jl {x:Rg} {l:List Rg} (h:canon (x::l)):canon l∧x.1≤x.2∧∀r,eQ l r→x.2+1<r:=by
 obtain⟨h1,h2⟩:=h;rw[List.pairwise_cons] at h2;refine⟨⟨fun y hy=>h1 y (List.mem_cons_of_mem _ hy),h2.2⟩,h1 x (List.mem_cons_self ..),?_⟩;rintro r ⟨y,hy,h3,h4⟩;have:=h2.1 y hy;omega
theorem lN:∀{a b:List Rg},canon a→canon b→(∀r,eQ a r↔eQ b r)→a=b
 |[],[],_,_,_=>rfl
 |[],y::b,_,hb,h=>by
  obtain⟨_,h1,_⟩:=jl hb;exact absurd ((h y.1).2 (bP.2 (.inl ⟨Int.le_refl _,h1⟩))) (eW _)
 |x::a,[],ha,_,h=>by
  obtain⟨_,h1,_⟩:=jl ha;exact absurd ((h x.1).1 (bP.2 (.inl ⟨Int.le_refl _,h1⟩))) (eW _)
 |x::a,y::b,ha,hb,h=>by
  obtain⟨ca,xa,fa⟩:=jl ha;obtain⟨cb,yb,fb⟩:=jl hb
  have low:∀{x y:Rg} {a b:List Rg},x.1≤x.2→(∀r,eQ b r→y.2+1<r)→y.1≤y.2→(∀r,eQ (x::a) r→eQ (y::b) r)→y.1≤x.1:=by
   intro x y a b hx hf hy hh
   rcases bP.1 (hh x.1 (bP.2 (.inl ⟨Int.le_refl _,hx⟩))) with h|h
   ·exact h.1
   ·have:=hf _ h;omega
  have e1:x.1=y.1:=Int.le_antisymm (low yb fa xa fun r=>(h r).2) (low xa fb yb fun r=>(h r).1)
  have up:∀{x y:Rg} {a b:List Rg},x.1≤x.2→x.1=y.1→(∀r,eQ a r→x.2+1<r)→(∀r,eQ (y::b) r→eQ (x::a) r)→y.2≤x.2:=by
   intro x y a b hx he hf hh
   rcases Int.lt_or_le x.2 y.2 with h'|h'
   ·rcases bP.1 (hh (x.2+1) (bP.2 (.inl ⟨by omega,by omega⟩))) with h|h
    ·omega
    ·have:=hf _ h;omega
   ·exact h'
  have e2:x.2=y.2:=Int.le_antisymm (up yb e1.symm fb fun r=>(h r).1) (up xa e1 fa fun r=>(h r).2);have e:x=y:=Prod.ext e1 e2;subst e
  congr 1
  refine lN ca cb fun r=>⟨fun hr=>?_,fun hr=>?_⟩
  ·have:=fa r hr
   rcases bP.1 ((h r).1 (bP.2 (.inr hr))) with h|h
   ·omega
   ·exact h
  ·have:=fb r hr
   rcases bP.1 ((h r).2 (bP.2 (.inr hr))) with h|h
   ·omega
   ·exact h
def c8 (acc:List Rg) (r:Rg):List Rg:=
 match acc with
 |[]=>[r]
 |k::rest=>if r.1≤k.2+1 then(k.1,max k.2 r.2)::rest else r::k::rest
theorem lA:∀(l acc:List Rg),(∀x∈l,x.1≤x.2)→l.Pairwise (fun x y=>x.1≤y.1)→(∀k∈acc.head?,∀x∈l,k.1≤x.1)→(∀x∈acc,x.1≤x.2)→acc.Pairwise (fun x y=>y.2+1<x.1)→
  (∀x∈l.foldl c8 acc,x.1≤x.2)∧(l.foldl c8 acc).Pairwise (fun x y=>y.2+1<x.1)∧∀r,eQ (l.foldl c8 acc) r↔eQ acc r∨eQ l r
 |[],acc,_,_,_,h1,h2=>⟨h1,h2,fun r=>⟨.inl,fun h=>h.resolve_right (eW r)⟩⟩
 |x::l,acc,hl,hp,hk,h1,h2=>by
  rw[List.pairwise_cons] at hp;have hx:=hl x (List.mem_cons_self ..);have gu:∀y∈l,y.1≤y.2:=fun y hy=>hl y (List.mem_cons_of_mem _ hy);rw[List.foldl_cons]
  cases acc with
  |nil=>
   obtain⟨g1,g2,g3⟩:=lA l [x] gu hp.2 (fun k jg y hy=>by simp at jg;subst jg;exact hp.1 y hy) (fun y hy=>by simp at hy;subst hy;exact hx) (by simp);refine⟨g1,g2,fun r=>(g3 r).trans ?_⟩;rw[bP (l:=l),bP (l:=[])];constructor
   ·rintro((h|h)|h)
    ·exact .inr (.inl h)
    ·exact absurd h (eW r)
    ·exact .inr (.inr h)
   ·rintro(h|h|h)
    ·exact absurd h (eW r)
    ·exact .inl (.inl h)
    ·exact .inr h
  |cons k rest=>
   have Xz:=hk k rfl x (List.mem_cons_self ..);have hkk:=h1 k (List.mem_cons_self ..);rw[List.pairwise_cons] at h2;unfold c8
   by_cases hc:x.1≤k.2+1
   ·simp only[if_pos hc]
    obtain⟨g1,g2,g3⟩:=lA l ((k.1,max k.2 x.2)::rest) gu hp.2 (fun q hq y hy=>by simp at hq;subst hq;have:=hp.1 y hy;simp only;omega) (fun y hy=>by
     rcases List.mem_cons.1 hy with rfl|hy
     ·simp only;omega
     ·exact h1 y (List.mem_cons_of_mem _ hy)) (by rw[List.pairwise_cons];exact⟨h2.1,h2.2⟩)
    refine⟨g1,g2,fun r=>(g3 r).trans ?_⟩;rw[bP (l:=rest),bP (l:=rest),bP (l:=l)];constructor
    ·rintro((h|h)|h)
     ·simp only at h
      by_cases hr:r≤k.2
      ·exact .inl (.inl ⟨h.1,hr⟩)
      ·exact .inr (.inl ⟨by omega,by omega⟩)
     ·exact .inl (.inr h)
     ·exact .inr (.inr h)
    ·rintro((h|h)|h|h)
     ·exact .inl (.inl ⟨h.1,by simp only;omega⟩)
     ·exact .inl (.inr h)
     ·exact .inl (.inl ⟨by simp only;omega,by simp only;omega⟩)
     ·exact .inr h
   ·simp only[if_neg hc]
    obtain⟨g1,g2,g3⟩:=lA l (x::k::rest) gu hp.2 (fun q hq y hy=>by simp at hq;subst hq;exact hp.1 y hy) (fun y hy=>by
     rcases List.mem_cons.1 hy with rfl|hy
     ·exact hx
     ·exact h1 y hy) (by
     rw[List.pairwise_cons];refine⟨fun y hy=>?_,by rw[List.pairwise_cons];exact h2⟩
     rcases List.mem_cons.1 hy with rfl|hy
     ·omega
     ·have:=h2.1 y hy;omega)
    refine⟨g1,g2,fun r=>(g3 r).trans ?_⟩;rw[bP (l:=k::rest),bP (l:=l)];constructor
    ·rintro((h|h)|h)
     ·exact .inr (.inl h)
     ·exact .inl h
     ·exact .inr (.inr h)
    ·rintro(h|h|h)
     ·exact .inl (.inr h)
     ·exact .inl (.inl h)
     ·exact .inr h
theorem wc {l:List Rg} (h1:∀x∈l,x.1≤x.2) (h2:l.Pairwise fun x y=>x.1≤y.1):canon (l.foldl c8 []).reverse∧∀r,eQ (l.foldl c8 []).reverse r↔eQ l r:=by
 obtain⟨g1,g2,g3⟩:=lA l [] h1 h2 (fun k hk=>by simp at hk) (fun x hx=>by simp at hx) List.Pairwise.nil;refine⟨⟨fun x hx=>g1 x (List.mem_reverse.1 hx),by rw[List.pairwise_reverse];exact g2⟩,fun r=>?_⟩;rw[qN (fun x=>List.mem_reverse) r,g3 r];exact⟨fun h=>h.resolve_left (eW r),.inr⟩
def mq (r:Int):Prop:=0≤r∧r≤1114111∧¬(55296≤r∧r≤57343)
def dc (x:Rg):List Rg:=
 (if max (max x.1 0) 0≤min (min x.2 1114111) 55295 then[(max (max x.1 0) 0,min (min x.2 1114111) 55295)] else[])++
 (if max (max x.1 0) 57344≤min (min x.2 1114111) 1114111 then[(max (max x.1 0) 57344,min (min x.2 1114111) 1114111)] else[])
theorem oa (x:Rg) (r:Int):eQ (dc x) r↔mq r∧x.1≤r∧r≤x.2:=by
 unfold dc mq;rw[uh]
 have one:∀(a b:Int),eQ (if a≤b then[(a,b)] else[]) r↔a≤r∧r≤b:=by
  intro a b
  split
  ·rw[bP];exact⟨fun h=>h.elim id fun h=>absurd h (eW r),.inl⟩
  ·exact⟨fun h=>absurd h (eW r),fun h=>by omega⟩
 rw[one,one];omega
theorem l5 (x:Rg):∀y∈dc x,y.1≤y.2∧0≤y.1∧y.2≤1114111:=by
 intro y hy;unfold dc at hy
 rcases List.mem_append.1 hy with h|h<;>split at h<;>simp at h<;>subst h<;>simp only<;>omega
theorem oE {l all:List Rg} (hp:∀x,x∈all↔x∈l.flatMap dc) (hs:all.Pairwise fun x y=>x.1≤y.1):canon (all.foldl c8 []).reverse∧∀r,eQ (all.foldl c8 []).reverse r↔mq r∧eQ l r:=by
 have hle:∀x∈all,x.1≤x.2:=fun x hx=>by
  obtain⟨y,_,hy⟩:=List.mem_flatMap.1 ((hp x).1 hx);exact(l5 y x hy).1
 obtain⟨g1,g2⟩:=wc hle hs;refine⟨g1,fun r=>(g2 r).trans ((qN hp r).trans ?_)⟩;constructor
 ·rintro⟨y,hy,h⟩;obtain⟨x,hx,hy⟩:=List.mem_flatMap.1 hy;have:=(oa x r).1 ⟨y,hy,h⟩;exact⟨this.1,x,hx,this.2⟩
 ·rintro⟨hr,x,hx,h⟩;obtain⟨y,hy,h'⟩:=(oa x r).2 ⟨hr,h⟩;exact⟨y,List.mem_flatMap.2 ⟨x,hx,hy⟩,h'⟩
def iK:List Rg→Int→Bool
 |[],_=>false
 |x::l,r=>(decide (x.1≤r) &&decide (r≤x.2))||iK l r
theorem uQ:∀(l:List Rg) (r:Int),iK l r=true↔eQ l r
 |[],r=>⟨fun h=>(by cases h),fun h=>absurd h (eW r)⟩
 |x::l,r=>by
  rw[bP,←uQ l r];simp[iK]
end Go.V
namespace Go.Proofs.YtbdilgkfnacahaaGreat
open Go.V Go
def jO (fr:Go.V.Fr) (k:Nat):Go.V.D:=Go.V.nth .bu fr.loc k
def au (x:Rg):List D:=[.int .i32 x.1,.int .i32 x.2]
def bB (l:List Rg):D:=.sl (l.map fun x=>.agg (au x))
theorem gy (l:List Rg):D.sl ((l.map au).map (jr 2))=bB l:=by
 unfold bB;rw[List.map_map];rfl
theorem dN (l:List Rg):∀e∈l.map au,∀d∈e,b5 d=true:=by
 intro e he d hd;obtain⟨x,_,rfl⟩:=List.mem_map.1 he;simp only[au,List.mem_cons,List.not_mem_nil,or_false] at hd
 rcases hd with rfl|rfl<;>rfl
theorem vP (l:List Rg):refs (l.map au).flatten=0:=by
 induction l with
 |nil=>rfl
 |cons x l ih=>simp only[List.map_cons,List.flatten_cons,au,List.cons_append,List.nil_append,refs,D.ref,ih];rfl
theorem j9 (l:List Rg):∀e∈l.map au,e.length=2:=by
 intro e he;obtain⟨x,_,rfl⟩:=List.mem_map.1 he;rfl
theorem eU (st:St) (l:List Rg):V.Rows st 2 (bB l) (l.map au):=by
 rw[←gy];exact Rows.ua (j9 l) (dN l)
theorem eN {l:List Rg} {i:Nat} {q:Rg} (h:l[i]?=some q):(l.map au)[i]?=some (au q):=by rw[List.getElem?_map,h];rfl
theorem re (l:List Rg) (q:Rg) (r:Int):iK (l++[q]) r=(iK l r||(decide (q.1≤r) &&decide (r≤q.2))):=by
 induction l with
 |nil=>simp[iK]
 |cons x l ih=>simp only[List.cons_append,iK,ih,Bool.or_assoc]
theorem uP {l:List Rg} {i:Nat} {r:Int} (h:iK (l.take i) r=true):iK l r=true:=by
 rw[uQ] at h⊢;obtain⟨x,h1,h2⟩:=h;exact⟨x,List.mem_of_mem_take h1,h2⟩
theorem yF {s0:St} {x:D} {l:List Rg} {r:Int} (hx:V.Rows s0 2 x (l.map au)) (hl:l.length≤1073741824):Ev pv 31 [x,.int .i32 r] s0 (.bool (iK l r)) s0:=by
 refine Ev.me rfl RY rfl rfl rfl ?_;dsimp only[u3,u4,List.length,Nat.reduceSub,Nat.reduceAdd,w1,w2];obtain⟨bZ,hF,hH⟩:=ri s0;generalize ai .ro s0=S at*;have hx:=Arg.of hx bZ;refine qq<|qj fun K hK=>qm ?_;refine qe hK<|qq<|qq<|qj fun K hK=>qm ?_;refine qe hK<|af.block<|af.loop (fun mm fr st=>∃(i:Nat),fr.clean=⟨6,[x,.int .i32 r,jO fr 2,jO fr 3,.bool false,.int .i64 (i:Nat)],[]⟩∧Has s0.bs.length S st []∧(i+mm=l.length)∧(iK (l.take i) r=false)) (l.length) ?_ ?_
 ·exact⟨0,rfl,hH,by omega,rfl⟩
 rintro mm fr st ⟨i,hfr,hH,hi,hn⟩;rw[hfr];clear hfr;generalize jO fr=ee;clear fr;refine qq<|qq<|qj fun K hK=>qm ?_;refine qm ?_;refine qn ?_;simp only[List.length_map];refine qg ?_;refine qe hK ?_;refine af.cond (by rfl) (fun h1=>?_) (fun h1=>?_)<;>try simp only[decide_eq_true_eq,decide_eq_false_iff_not] at h1
 ·refine af.skip ?_
  obtain⟨q,hq⟩:∃q,l[i]?=some q:=⟨l[i]'(by omega),List.getElem?_eq_getElem _⟩
  have hr:=eN hq;refine qq<|af.block<|qq<|af.jV 27 (.bool (decide (r≥q.1) &&decide (r≤q.2))) [] ?_ (fun ff tmp gE=>?_)
  ·refine qm ?_;refine qm ?_;refine qm ?_;refine qr fun Pk K0=>?_;refine qf (fo:=0) fun Xo Vm=>?_;refine qR ?_;refine qg ?_;refine qm ?_;refine ab.two 19 rfl (fun eX=>?_) (fun eX=>?_)
   ·refine qm ?_ (hg:=wi eX);refine qm ?_ (hg:=wi eX);refine qm ?_ (hg:=wi eX);refine qr (fun Pf KW=>?_) (hg:=wi eX);refine qf (fo:=1) (fun LS y3=>?_) (hg:=wi eX);refine qR ?_ (hg:=wi eX);refine qg ?_ (hg:=wi eX);refine qt eX ?_;refine ab.nil (cS ?_ ?_)
    ·dsimp only[aO,List.foldl,nth,u2,u1]
     all_goals(first|rfl|simp)
    ·dsimp only[Fr.aE,Fr.put,Fr.clean,Fr.ev,Fr.get,nth,V.look,u1,u2,v1,v2,v3,v4,v5,v6,v7,List.length,u3,u4,Nat.reduceSub,Nat.reduceAdd,List.map]
     all_goals(simp[eX];done)
   ·refine qs ?_ (hg:=wn eX);refine qs ?_ (hg:=wn eX);refine qs ?_ (hg:=wn eX);refine qs ?_ (hg:=wn eX);refine qs ?_ (hg:=wn eX);refine qs ?_ (hg:=wn eX);refine qs ?_ (hg:=wn eX);refine qu eX ?_;refine ab.nil (cS ?_ ?_)
    ·dsimp only[aO,List.foldl,nth,u2,u1]
     all_goals(first|rfl|simp)
    ·dsimp only[Fr.aE,Fr.put,Fr.clean,Fr.ev,Fr.get,nth,V.look,u1,u2,v1,v2,v3,v4,v5,v6,v7,List.length,u3,u4,Nat.reduceSub,Nat.reduceAdd,List.map]
     all_goals(simp[eX];done)
  dsimp only[aO,List.foldl,nth,u2,u1];dsimp only[Fr.aE,Fr.put,Fr.clean,Fr.ev,Fr.get,nth,V.look,u1,u2,v1,v2,v3,v4,v5,v6,v7,List.length,u3,u4,Nat.reduceSub,Nat.reduceAdd,List.map]
  have ht:iK (l.take (i+1)) r=(decide (r≥q.1) &&decide (r≤q.2)):=by
   rw[List.take_add_one,hq,Option.toList_some,re,hn];simp
  refine qc (fun h2=>?_) (fun h2=>?_)<;>try simp only[cs] at h2
  ·refine qq<|qj fun K hK=>qm ?_;refine qe hK ?_;rw[uP (i:=i+1) (by rw[ht];simp[h2])];refine af.ret ⟨rx,_,rfl,rl bZ hH (rfl)⟩
  ·refine af.skip<|qj fun K hK=>qm ?_;refine qA ?_;refine qm ?_;refine qe hK ?_;exact⟨mm-1,by omega,⟨i+1,rfl,hH,by omega,by rw[ht];simp[h2]⟩⟩
 ·refine af.exit<|qq<|qj fun K hK=>qm ?_;refine qe hK ?_;have:iK l r=false:=by rw[←hn,List.take_of_length_le (by omega)]
  rw[this];refine af.ret ⟨rx,_,rfl,rl bZ hH (rfl)⟩
theorem Bs {s0:St} {x:D} {l:List Rg} {r:Int} (hx:V.Rows s0 2 x (l.map au)) (hl:l.length≤1073741824):Ev pv 63 [x,.int .i32 r] s0 (.bool (iK l r)) s0:=by
 refine Ev.me rfl RE rfl rfl rfl ?_;dsimp only[u3,u4,List.length,Nat.reduceSub,Nat.reduceAdd,w1,w2];obtain⟨bZ,hF,hH⟩:=ri s0;generalize ai .ro s0=S at*;have hx:=Arg.of hx bZ;refine qq<|qj fun K hK=>qm ?_;refine qe hK<|qq<|qq<|qj fun K hK=>qm ?_;refine qn ?_;simp only[List.length_map];refine qm ?_;refine qe hK<|af.block<|af.loop (fun mm fr st=>∃(i:Nat),fr.clean=⟨10,[x,.int .i32 r,jO fr 2,jO fr 3,.bool false,jO fr 5,jO fr 6,x,.int .i64 (l.length:Nat),.int .i64 (i:Nat)],[]⟩∧Has s0.bs.length S st []∧(i+mm=l.length)∧(iK (l.take i) r=false)) (l.length) ?_ ?_
 ·exact⟨0,rfl,hH,by omega,rfl⟩
 rintro mm fr st ⟨i,hfr,hH,hi,hn⟩;rw[hfr];clear hfr;generalize jO fr=ee;clear fr;refine qq<|qj fun K hK=>qg ?_;refine qe hK<|qq ?_;refine af.cond (by rfl) (fun h1=>?_) (fun h1=>?_)<;>try simp only[decide_eq_true_eq,decide_eq_false_iff_not] at h1
 ·refine af.skip ?_
  obtain⟨q,hq⟩:∃q,l[i]?=some q:=⟨l[i]'(by omega),List.getElem?_eq_getElem _⟩
  have hr:=eN hq;refine qq<|af.block<|qq<|qj fun K hK=>qr fun S3 Nu=>?_;refine ab.cY rfl (ev rfl) (by assumption) rfl (ag rfl _) ?_;refine qa hH fun k6 st K' hH=>?_;refine qS hH ax fun st hH=>?_;dsimp only[u2,u1,u3,u4,setMany,u5,u6,D.cells,Nat.reduceAdd,au] at hH;refine qe hK<|qq<|af.jV 22 (.bool (decide (r≥q.1) &&decide (r≤q.2))) [] ?_ (fun ff tmp gE=>?_)
  ·refine qm ?_;refine qp (o:=0) ?_;refine ql hH ax ?_;refine qg ?_;refine qm ?_;refine ab.two 17 rfl (fun fg=>?_) (fun fg=>?_)
   ·refine qm ?_ (hg:=wi fg);refine qp (o:=1) ?_ (hg:=wi fg);refine ql hH ax ?_ (hg:=wi fg);refine qg ?_ (hg:=wi fg);refine qt fg ?_;refine ab.nil (cS ?_ ?_)
    ·dsimp only[aO,List.foldl,nth,u2,u1]
     all_goals(first|rfl|simp)
    ·dsimp only[Fr.aE,Fr.put,Fr.clean,Fr.ev,Fr.get,nth,V.look,u1,u2,v1,v2,v3,v4,v5,v6,v7,List.length,u3,u4,Nat.reduceSub,Nat.reduceAdd,List.map]
     all_goals(simp[fg];done)
   ·refine qs ?_ (hg:=wn fg);refine qs ?_ (hg:=wn fg);refine qs ?_ (hg:=wn fg);refine qs ?_ (hg:=wn fg);refine qu fg ?_;refine ab.nil (cS ?_ ?_)
    ·dsimp only[aO,List.foldl,nth,u2,u1]
     all_goals(first|rfl|simp)
    ·dsimp only[Fr.aE,Fr.put,Fr.clean,Fr.ev,Fr.get,nth,V.look,u1,u2,v1,v2,v3,v4,v5,v6,v7,List.length,u3,u4,Nat.reduceSub,Nat.reduceAdd,List.map]
     all_goals(simp[fg];done)
  dsimp only[aO,List.foldl,nth,u2,u1];dsimp only[Fr.aE,Fr.put,Fr.clean,Fr.ev,Fr.get,nth,V.look,u1,u2,v1,v2,v3,v4,v5,v6,v7,List.length,u3,u4,Nat.reduceSub,Nat.reduceAdd,List.map]
  have ht:iK (l.take (i+1)) r=(decide (r≥q.1) &&decide (r≤q.2)):=by
   rw[List.take_add_one,hq,Option.toList_some,re,hn];simp
  refine qc (fun h2=>?_) (fun h2=>?_)<;>try simp only[cs] at h2
  ·refine qq<|qj fun K hK=>qm ?_;refine qe hK ?_;rw[uP (i:=i+1) (by rw[ht];simp[h2])];refine af.ret ⟨rx,_,rfl,rl bZ hH (rfl)⟩
  ·refine af.skip<|qj fun K hK=>qA ?_;refine qm ?_;refine qe hK ?_;exact⟨mm-1,by omega,⟨i+1,rfl,(hH.drop 1),by omega,by rw[ht];simp[h2]⟩⟩
 ·refine af.exit<|qq<|qj fun K hK=>qm ?_;refine qe hK ?_;have:iK l r=false:=by rw[←hn,List.take_of_length_le (by omega)]
  rw[this];refine af.ret ⟨rx,_,rfl,rl bZ hH (rfl)⟩
def aU (fr:Go.V.Fr) (k:Nat):Go.V.D:=Go.V.nth .bu fr.loc k
def eH:List Rg:=[(0,55295),(57344,1114111)]
def pG (lo hi:Int) (p:Rg):List Rg:=if max lo p.1≤min hi p.2 then[(max lo p.1,min hi p.2)] else[]
theorem rL (q:Rg):dc q=eH.flatMap (pG (max q.1 0) (min q.2 1114111)):=by
 simp[dc,eH,pG]
theorem z_ {s0:St} (q:Rg):Ev pv 93 [.agg (au q)] s0 (bB (dc q)) s0:=by
 refine Ev.me rfl Rf rfl rfl rfl ?_;dsimp only[u3,u4,List.length,Nat.reduceSub,Nat.reduceAdd,w1,w2];obtain⟨bZ,hF,hH⟩:=ri s0;generalize ai .ro s0=S at*;refine qq<|qj fun K hK=>qb hH fun k1 st nQ hH=>?_;dsimp only[u2,u1,u3,u4,setMany,u5,u6,D.cells,Nat.reduceAdd,au] at hH;refine qm ?_;refine qe hK<|qq<|qj fun K hK=>qp (o:=0) ?_;refine ql hH ax ?_;refine ab.FU (t1:=0) (t2:=0) rfl (ev rfl) (ev rfl) (by dsimp only[Fr.put,u1,u2]<;>rfl) ?_;refine qp (o:=1) ?_;refine ql hH ax ?_;refine ab.FT (t1:=0) (t2:=0) rfl (ev rfl) (ev rfl) (by dsimp only[Fr.put,u1,u2]<;>rfl) ?_;refine qp (o:=0) ?_;refine qT hH ax fun st hH=>?_;dsimp only[u2,u1,u3,u4,setMany,u5,u6,D.cells,Nat.reduceAdd,au] at hH;refine qp (o:=1) ?_;refine qT hH ax fun st hH=>?_;dsimp only[u2,u1,u3,u4,setMany,u5,u6,D.cells,Nat.reduceAdd,au] at hH;refine qe hK ?_;generalize uI:max q.1 0=lo at*;generalize y6:min q.2 1114111=hi at*;refine qq<|qj fun K hK=>qm ?_;refine qe hK ?_;have hH:=hH.dP 2;refine qq<|qq<|qj fun K hK=>qg ?_;refine qg ?_;refine qh (s:=2) (vs:=[_,_]) hH fun k17 st Qz hH=>?_;dsimp only[u2,u1,u3,u4,setMany,u5,u6,D.cells,Nat.reduceAdd,au] at hH;refine qn ?_ (hR:=hH.rows ax);simp only[List.length_map,List.length_cons,List.length_nil];refine qm ?_;refine qe hK<|af.block<|af.loop (fun mm fr st=>∃(i:Nat) (x:D),fr.clean=⟨20,[.agg (au q),.ptr k1 0 0,.nul,x,aU fr 4,aU fr 5,aU fr 6,aU fr 7,aU fr 8,aU fr 9,aU fr 10,aU fr 11,aU fr 12,aU fr 13,aU fr 14,aU fr 15,aU fr 16,.win k17 0 0 2 2,.int .i64 2,.int .i64 (i:Nat)],[]⟩∧Has s0.bs.length S st [.aM (.win k17 0 0 2 2) 2 (eH.map au),.aM x 2 (((eH.take i).flatMap (pG lo hi)).map au),.box k1 (.mem 0 false [.int .i32 lo,.int .i32 hi])]∧(i+mm=2)∧(((eH.take i).flatMap (pG lo hi)).length≤i)) (2) ?_ ?_
 ·exact⟨0,.nul,rfl,hH,by omega,by simp⟩
 rintro mm fr st ⟨i,x,hfr,hH,hij,hb⟩;rw[hfr];clear hfr;generalize aU fr=ee;clear fr;refine qq<|qj fun K hK=>qg ?_;refine qe hK<|qq ?_;refine af.cond (by rfl) (fun h1=>?_) (fun h1=>?_)<;>try simp only[decide_eq_true_eq,decide_eq_false_iff_not] at h1
 ·refine af.skip ?_
  obtain⟨p,hp⟩:∃p,eH[i]?=some p:=⟨eH[i]'(by simp[eH];omega),List.getElem?_eq_getElem _⟩
  have hr:=eN hp;refine qq<|af.block<|qq<|qj fun K hK=>qi hH ax fun OD Ge=>?_;refine ab.rW hH rfl (ev rfl) (by assumption) (by exact ax) (by assumption) rfl (ag rfl _) ?_;refine qa hH fun k5 st Bg hH=>?_;refine qS hH ax fun st hH=>?_;dsimp only[u2,u1,u3,u4,setMany,u5,u6,D.cells,Nat.reduceAdd,au] at hH;refine qe hK<|qq<|qj fun K hK=>qp (o:=0) ?_;refine ql hH ef ?_;refine qp (o:=0) ?_;refine ql hH ax ?_;refine ab.FU (t1:=0) (t2:=0) rfl (ev rfl) (ev rfl) (ag rfl _) ?_;refine qp (o:=1) ?_;refine ql hH ef ?_;refine qp (o:=1) ?_;refine ql hH ax ?_;refine ab.FT (t1:=0) (t2:=0) rfl (ev rfl) (ev rfl) (ag rfl _) ?_;refine qg ?_;refine qa hH fun k6 st K' hH=>?_;refine qS hH ax fun st hH=>?_;dsimp only[u2,u1,u3,u4,setMany,u5,u6,D.cells,Nat.reduceAdd,au] at hH;refine qe hK<|qq<|qj fun K hK=>qp (o:=0) ?_;refine ql hH ax ?_;refine qp (o:=1) ?_;refine ql hH ax ?_;refine qg ?_;refine qe hK ?_;refine af.cond (by rfl) (fun h2=>?_) (fun h2=>?_)<;>try simp only[decide_eq_true_eq,decide_eq_false_iff_not] at h2
  ·refine qj fun K hK=>qm ?_;refine ab.aT (m:=2) hH rfl (ev rfl) (by exact ax) (by dsimp only[List.drop_succ_cons,List.drop_zero,List.take_succ_cons,List.take_zero,au]<;>rfl) rfl rfl (ag rfl _) ?_;refine qh (s:=2) (vs:=[_]) hH fun k41 st NL hH=>?_;refine ab.bQ (s:=2) hH rfl (ev rfl) (ev rfl) (by exact fT) (by exact hH.rows (by exact ax)) rfl rfl rfl rfl rfl rfl rfl ⟨(Nat.le_of_ble_eq_true rfl),(Nat.le_of_ble_eq_true rfl)⟩ (fun _=>(ag rfl _)) (by simp only[List.length_cons,List.length_nil,List.length_map]<;>omega) (by exact .inl hF) (fun Ma st hH=>?_);dsimp only[u2,u1,u3,u4,setMany,u5,u6,D.cells,Nat.reduceAdd,au] at hH;refine qm ?_;refine qe hK<|qj fun K hK=>qA ?_;refine qm ?_;refine qe hK ?_
   have h3:(eH.take (i+1)).flatMap (pG lo hi)=(eH.take i).flatMap (pG lo hi)++[(max lo p.1,min hi p.2)]:=by
    rw[List.take_add_one,hp,List.flatMap_append];simp[pG,h2]
   exact⟨mm-1,by omega,⟨i+1,Ma,rfl,(by rw[h3,List.map_append];exact hH.drop 3),by omega,by rw[h3];simp only[List.length_append,List.length_cons,List.length_nil];omega⟩⟩
  ·refine af.skip<|qj fun K hK=>qA ?_;refine qm ?_;refine qe hK ?_
   have h3:(eH.take (i+1)).flatMap (pG lo hi)=(eH.take i).flatMap (pG lo hi):=by
    rw[List.take_add_one,hp,List.flatMap_append];simp[pG,h2]
   exact⟨mm-1,by omega,⟨i+1,x,rfl,(by rw[h3];exact hH.drop 2),by omega,by rw[h3];omega⟩⟩
 ·refine af.exit<|qq<|qj fun K hK=>qm ?_;refine qm ?_;refine qe hK ?_;rw[←gy];have h3:eH.take i=eH:=List.take_of_length_le (by simp[eH];omega);rw[h3] at hH;refine af.ret ⟨rx,_,rfl,rl bZ hH ?_⟩;refine Eq.trans (hH.freeze bC (dN _) (n:=15) (by decide)) ?_;rw[rL,uI,y6]
theorem yy (q x:Rg) (h:x∈dc q):0≤x.1∧x.1≤1114111:=by
 obtain⟨h1,h2,h3⟩:=l5 q x h;omega
theorem oc (q:Rg):(dc q).length≤2:=by
 unfold dc;split<;>split<;>simp
theorem hO (l:List Rg):(l.flatMap dc).length≤2*l.length:=by
 induction l with
 |nil=>simp
 |cons x l ih=>simp only[List.flatMap_cons,List.length_append,List.length_cons];have:=oc x;omega
theorem pS:∀{l:List Rg},(∀x∈l,0≤x.1∧x.1≤1114111)→∃m:List Rs,eB m=(l.map au).flatten∧m.map (fun x=>(x.lo,x.hi))=l
 |[],_=>⟨[],rfl,rfl⟩
 |x::l,h=>by
  obtain⟨m,h1,h2⟩:=pS (l:=l) fun y hy=>h y (List.mem_cons_of_mem _ hy);obtain⟨h3,h4⟩:=h x (List.mem_cons_self ..);exact⟨⟨x.1,x.2,h3,h4⟩::m,by simp only[eB,h1,List.map_cons,List.flatten_cons,au,List.cons_append,List.nil_append],by simp[h2]⟩
theorem wG (m:List Rs):eB m=((m.map fun x=>((x.lo,x.hi):Rg)).map au).flatten:=by
 induction m with
 |nil=>rfl
 |cons x m ih=>simp only[eB,ih,List.map_cons,List.flatten_cons,au,List.cons_append,List.nil_append]
theorem Br {N:Nat} {S st:St} {H:List bF} {j:Nat} {x:D} {l:List Rg} (hH:Has N S st H) (hj:H[j]?=some (.aM x 2 (l.map au))) (h0:l=[]→x=.nul) (hl:l.length≤1073741824) (hr:∀y∈l,0≤y.1∧y.1≤1114111):
  ∃(ah:St) (l':List Rg),Ev pv 94 [x,.fn 95 []] st (.tup []) ah∧Has N S ah (H.set j (.aM x 2 (l'.map au)))∧l'.Perm l∧l'.Pairwise fun a b=>a.1≤b.1:=by
 obtain⟨m,h1,h2⟩:=pS hr;obtain⟨h3,h4⟩:=srt_facts m;have Gi:m.length=l.length:=by rw[←h2];simp
 have hperm:((srt m).map fun x=>((x.lo,x.hi):Rg)).Perm l:=by rw[←h2];exact h3.map _
 have nf:((srt m).map fun x=>((x.lo,x.hi):Rg)).Pairwise fun a b=>a.1≤b.1:=by rw[List.pairwise_map];exact h4
 have hlen:(srt m).length=l.length:=h3.length_eq.trans Gi;have hown:=hH.own hj;generalize uL:l.map au=es at*;have pB:es.length=l.length:=by rw[←uL];simp
 cases hown with
 |nul=>
  have L0:l=[]:=by cases l with|nil=>rfl|cons _ _=>simp at pB
  refine⟨st,(srt m).map fun x=>(x.lo,x.hi),Ev.iY rfl rfl,?_,hperm,nf⟩
  have:(srt m).map (fun x=>((x.lo,x.hi):Rg))=[]:=by
   cases hs:srt m with
   |nil=>rfl
   |cons a b=>rw[hs,L0] at hlen;simp at hlen
  rw[this];exact hH.zN hj (fun _ _ _=>rfl) (Nat.le_refl _) rfl rfl .nul (fun k hk=>.inl hk) fun k hk=>by simp only[bF.aM,D.ref] at hk;omega
 |win k ay off es c hm hle hc he=>
  have hne:l≠[]:=fun e=>by have:=h0 e;cases this
  have sO:1≤l.length:=by cases l with|nil=>exact absurd rfl hne|cons _ _=>simp
  have hk:=(hH.ok j _ hj).2 k (by simp only[bF.aM,D.ref]);have wz:(eB (srt m)).length=es.length*2:=by rw[lG,hlen,pB];omega
  have hwr:st.wr k ay off (eB (srt m))=some ⟨st.bs.set k (.mem ay true (c.take off++eB (srt m)++c.drop (off+(eB (srt m)).length))),st.flr,st.ro⟩:=
   kE hm (by omega) (iL hH hk.1 (.inr (rp _)))
  refine⟨⟨st.bs.set k (.mem ay true (c.take off++eB (srt m)++c.drop (off+(eB (srt m)).length))),st.flr,st.ro⟩,(srt m).map fun x=>(x.lo,x.hi),Ev.iY rfl ?_,?_,hperm,nf⟩
  ·show yr [.win k ay off es.length 2,.fn 95 []] st=_;have gS:(c.drop off).take (2*es.length)=eB m:=by rw[Nat.mul_comm,hc,h1]
   simp only[yr,St.mem_of hm,gS,xt,Hj];rw[decide_eq_true (⟨by rw[Gi,pB],by omega,by omega⟩:m.length=es.length∧1≤es.length∧es.length<1099511627776)];simp only[hwr]
  ·refine hH.zN hj (fun n hn hne=>?_) (by simp) rfl rfl ?_ (fun n hn=>.inl hn) fun n hn=>?_
   ·simp only;rw[List.getElem?_set_ne (fun e=>hne (by simp only[bF.aM,D.ref];omega))]
   ·have h9:=ga.win (st:=⟨st.bs.set k (.mem ay true (c.take off++eB (srt m)++c.drop (off+(eB (srt m)).length))),st.flr,st.ro⟩) (s:=2) k ay off (((srt m).map fun x=>((x.lo,x.hi):Rg)).map au) (c.take off++eB (srt m)++c.drop (off+(eB (srt m)).length))
     (by simp only;rw[List.getElem?_set_self hk.2]) (by simp only[List.length_append,List.length_take,List.length_map,List.length_drop,wz];omega) ?_ (j9 _)
    ·simp only[List.length_map,hlen] at h9;rw[pB];exact h9
    ·have Qn:(c.take off).length=off:=by simp;omega
     rw[List.append_assoc,List.drop_left' Qn,←wG,List.take_left' (by simp only[List.length_map,hlen];omega)]
   ·simp only[bF.aM,D.ref] at hn;simp only[List.length_set];omega
theorem oJ (l:List Rg):(l.foldl c8 []).length≤l.length:=by
 have key:∀(l acc:List Rg),(l.foldl c8 acc).length≤acc.length+l.length:=by
  intro l
  induction l with
  |nil=>intro acc;simp
  |cons x l ih=>
   intro acc;simp only[List.foldl_cons,List.length_cons];have:=ih (c8 acc x)
   have h2:(c8 acc x).length≤acc.length+1:=by
    unfold c8;split
    ·simp
    ·split<;>simp
   omega
 have:=key l []
 simpa using this
theorem FZ {l:List Rg} (h:∀x∈l,0≤x.2∧x.2≤1114111):∀x∈l.foldl c8 [],0≤x.2∧x.2≤1114111:=by
 have key:∀(l acc:List Rg),(∀x∈l,0≤x.2∧x.2≤1114111)→(∀x∈acc,0≤x.2∧x.2≤1114111)→∀x∈l.foldl c8 acc,0≤x.2∧x.2≤1114111:=by
  intro l
  induction l with
  |nil=>intro acc _ h x hx;exact h x hx
  |cons y l ih=>
   intro acc h1 h2;refine ih _ (fun x hx=>h1 x (List.mem_cons_of_mem _ hx)) fun x hx=>?_;have hy:=h1 y (List.mem_cons_self ..);unfold c8 at hx
   split at hx
   ·simp only[List.mem_cons,List.not_mem_nil,or_false] at hx;rw[hx];exact hy
   ·rename_i k rest;have hk:=h2 k (List.mem_cons_self ..)
    split at hx
    ·rcases List.mem_cons.1 hx with rfl|hx
     ·simp only;omega
     ·exact h2 x (List.mem_cons_of_mem _ hx)
    ·rcases List.mem_cons.1 hx with rfl|hx
     ·exact hy
     ·exact h2 x hx
 exact key l [] h (fun x hx=>by cases hx)
theorem AY (h:Rg) (t:List Rg):((h::t).reverse.map au)[t.length]?=some (au h):=by
 rw[List.getElem?_map,List.reverse_cons,List.getElem?_append_right (by simp)];simp
theorem AX (h h':Rg) (t:List Rg):((h::t).reverse.map au).set t.length (au h')=(h'::t).reverse.map au:=by
 rw[List.reverse_cons,List.map_append,List.set_append_right _ _ (by simp)];simp
theorem xD {s0:St} {x:D} {l:List Rg} (hx:V.Rows s0 2 x (l.map au)) (hl:l.length≤268435456):∃d,Ev pv 84 [x] s0 d s0∧∃all:List Rg,d=bB (all.foldl c8 []).reverse∧all.Perm (l.flatMap dc)∧all.Pairwise fun a b=>a.1≤b.1:=by
 refine Ev.B_ rfl Rl rfl rfl rfl ?_;dsimp only[u3,u4,List.length,Nat.reduceSub,Nat.reduceAdd,w1,w2];obtain⟨bZ,hF,hH⟩:=ri s0;generalize ai .ro s0=S at*;have hx:=Arg.of hx bZ;have lC:=hO l
 have hfi:∀i,((l.take i).flatMap dc).length≤2*l.length:=fun i=>by
  have:=hO (l.take i);simp only[List.length_take] at this;omega
 refine qq<|qj fun K hK=>qm ?_;refine qe hK<|qq<|qj fun K hK=>qm ?_;refine qm ?_;refine qe hK<|qq<|qq<|qj fun K hK=>qm ?_;refine qn ?_;simp only[List.length_map];refine qm ?_;refine qe hK ?_;have hH:=hH.dP 2;refine af.block<|af.loop (fun mm fr st=>∃(i:Nat) (y:D),fr.clean=⟨26,[x,aU fr 1,aU fr 2,y,.nul,aU fr 5,aU fr 6,aU fr 7,aU fr 8,aU fr 9,x,.int .i64 (l.length:Nat),.int .i64 (i:Nat),aU fr 13,aU fr 14,aU fr 15,aU fr 16,aU fr 17,aU fr 18,aU fr 19,aU fr 20,aU fr 21,aU fr 22,aU fr 23,aU fr 24,aU fr 25],[]⟩∧Has s0.bs.length S st [.aM y 2 (((l.take i).flatMap dc).map au)]∧(i+mm=l.length)∧((l.take i).flatMap dc=[]→y=.nul)) (l.length) ?_ ?_
 ·exact⟨0,.nul,rfl,hH,by omega,fun _=>rfl⟩
 rintro mm fr st ⟨i,y,hfr,hH,hi,K2⟩;rw[hfr];clear hfr;generalize aU fr=ee;clear fr;refine qq<|qj fun K hK=>qg ?_;refine qe hK ?_;have hm:=hfi i;refine qq ?_;refine af.cond (by rfl) (fun h1=>?_) (fun h1=>?_)<;>try simp only[decide_eq_true_eq,decide_eq_false_iff_not] at h1
 ·refine af.skip ?_
  obtain⟨q,hq⟩:∃q,l[i]?=some q:=⟨l[i]'(by omega),List.getElem?_eq_getElem _⟩
  have hr:=eN hq
  have Gk:(l.take (i+1)).flatMap dc=(l.take i).flatMap dc++dc q:=by
   rw[List.take_add_one,hq];simp
  have Xt:=oc q;refine qq<|af.block<|qq<|qj fun K hK=>qr fun Ur Qk=>?_;refine ab.cY rfl (ev rfl) (by assumption) rfl (by dsimp only[Fr.put,u1,u2]<;>rfl) ?_;refine qa hH fun k6 st K' hH=>?_;refine qS hH ax fun st hH=>?_;dsimp only[u2,u1,u3,u4,setMany,u5,u6,D.cells,Nat.reduceAdd,au] at hH;refine qe hK<|qj fun K hK=>qm ?_;refine ab.aT (m:=2) hH rfl (ev rfl) (by exact ax) (by dsimp only[List.drop_succ_cons,List.drop_zero,List.take_succ_cons,List.take_zero,au]<;>rfl) rfl rfl (by dsimp only[Fr.put,u1,u2]<;>rfl) ?_;refine qv (z_ q) ?_;refine ab.Bt hH rfl rfl rfl (by exact bC) (eU _ _) rfl rfl rfl rfl rfl rfl rfl ⟨(Nat.le_of_ble_eq_true rfl),(Nat.le_of_ble_eq_true rfl)⟩ (fun _=>by dsimp only[Fr.put,u1,u2]<;>rfl) (by simp only[List.length_map];omega) (.inl hF) (fun OC st Ny hH=>?_);dsimp only[u2,u1] at hH;refine qm ?_;refine qe hK<|qj fun K hK=>qA ?_;refine qm ?_;refine qe hK ?_;exact⟨mm-1,by omega,⟨i+1,OC,rfl,(by rw[Gk,List.map_append];exact hH.drop 1),by omega,by rw[Gk];intro h;obtain⟨h3,h4⟩:=List.append_eq_nil_iff.1 h;rw[Ny (by rw[h4];rfl)];exact K2 h3⟩⟩
 ·refine af.exit ?_;have hT:l.take i=l:=List.take_of_length_le (by omega);rw[hT] at hH K2 hm
  obtain⟨st2,all,aI,TH,hperm,nf⟩:=Br hH ax K2 (by omega) (fun z hz=>by
   obtain⟨w,_,hw⟩:=List.mem_flatMap.1 hz
   exact yy w z hw)
  have hlen:=hperm.length_eq
  have hbd:∀z∈all,0≤z.2∧z.2≤1114111:=fun z hz=>by
   obtain⟨w,_,hw⟩:=List.mem_flatMap.1 (hperm.mem_iff.1 hz);have:=l5 w z hw;omega
  refine qq<|qj fun K hK=>qm ?_;refine qv (aI) ?_;refine qe hK ?_;have hH:=TH;dsimp only[u2] at hH;clear TH aI;have hR:=hH.rows ax;have hH:=hH.dP 2;refine qq<|qq<|qj fun K hK=>qm ?_;refine qn ?_ (hR:=hH.rows bC);simp only[List.length_map];refine qm ?_;refine qe hK<|af.block<|af.loop (fun mm fr st=>∃(i:Nat) (z:D),fr.clean=⟨26,[x,aU fr 1,aU fr 2,y,z,aU fr 5,aU fr 6,aU fr 7,aU fr 8,aU fr 9,aU fr 10,aU fr 11,aU fr 12,aU fr 13,aU fr 14,aU fr 15,aU fr 16,aU fr 17,aU fr 18,aU fr 19,aU fr 20,aU fr 21,aU fr 22,y,.int .i64 (all.length:Nat),.int .i64 (i:Nat)],[]⟩∧Has s0.bs.length S st [.aM z 2 (((all.take i).foldl c8 []).reverse.map au),.aM y 2 (all.map au)]∧(i+mm=all.length)) (all.length) ?_ ?_
  ·exact⟨0,.nul,rfl,hH,by omega⟩
  rintro mm fr st ⟨i,z,hfr,hH,hi⟩;rw[hfr];clear hfr;generalize aU fr=ee;clear fr;refine qq<|qj fun K hK=>qg ?_;refine qe hK ?_
  have iR:((all.take i).foldl c8 []).length≤all.length:=by
   have:=oJ (all.take i);simp only[List.length_take] at this;omega
  refine qq ?_;refine af.cond (by rfl) (fun h1=>?_) (fun h1=>?_)<;>try simp only[decide_eq_true_eq,decide_eq_false_iff_not] at h1
  ·refine af.skip ?_
   obtain⟨q,hq⟩:∃q,all[i]?=some q:=⟨all[i]'(by omega),List.getElem?_eq_getElem _⟩
   have hr:=eN hq
   have Le:(all.take (i+1)).foldl c8 []=c8 ((all.take i).foldl c8 []) q:=by
    rw[List.take_add_one,hq,List.foldl_append];rfl
   generalize Gu:(all.take i).foldl c8 []=acc at*;refine qq<|af.block<|qq<|qj fun K hK=>qi hH bC fun Un Qg=>?_;refine ab.rW hH rfl (ev rfl) (by assumption) (by exact bC) (by assumption) rfl (ag rfl _) ?_;refine qa hH fun k8 st L6 hH=>?_;refine qS hH ax fun st hH=>?_;dsimp only[u2,u1,u3,u4,setMany,u5,u6,D.cells,Nat.reduceAdd,au] at hH;refine qe hK ?_
   rcases acc with _|⟨h,t⟩
   ·refine qq<|qj fun K hK=>qm ?_;refine qn ?_ (hR:=hH.rows bC);simp only[List.length_map,List.length_nil,List.length_reverse];refine ab.nv (z:=(-1)) rfl (ev rfl) (ev rfl) (by(try simp only[List.length_reverse,List.length_cons,List.length_nil,List.length_append,List.length_map,List.length_set]);rw[wrap_i64 (by omega) (by omega)]<;>omega) (ag rfl _) ?_;refine qm ?_;refine qe hK ?_;have bk:decide ((-1:Int)≥0)=false:=by decide
    refine qq<|af.jV 44 (.bool false) [] ?_ (fun ff tmp gE=>?_)
    ·refine qm ?_;refine qg ?_;refine qm ?_;refine qs ?_ (hg:=wn bk);refine qs ?_ (hg:=wn bk);refine qs ?_ (hg:=wn bk);refine qs ?_ (hg:=wn bk);refine qs ?_ (hg:=wn bk);refine qs ?_ (hg:=wn bk);refine qs ?_ (hg:=wn bk);refine qs ?_ (hg:=wn bk);refine qs ?_ (hg:=wn bk);refine qu bk ?_;refine ab.nil (cS ?_ ?_)
     ·dsimp only[aO,List.foldl,nth,u2,u1]
      all_goals(first|rfl|simp)
     ·dsimp only[Fr.aE,Fr.put,Fr.clean,Fr.ev,Fr.get,nth,look,u1,u2,v1,v2,v4]
      all_goals(first|rfl|(simp[bk];done)|(simp_all;done)|(simp[bk];omega)|(simp_all;omega))
    dsimp only[aO,List.foldl,nth,u2,u1];dsimp only[Fr.aE,Fr.put,Fr.clean,Fr.ev,Fr.get,nth,look,u1,u2,v1,v2,v4];refine qC ?_;refine qj fun K hK=>qm ?_;refine ab.aT (m:=2) hH rfl (ev rfl) (by exact ax) (by dsimp only[List.drop_succ_cons,List.drop_zero,List.take_succ_cons,List.take_zero,au]<;>rfl) rfl rfl (ag rfl _) ?_;refine qh (s:=2) (vs:=[_]) hH fun k59 st Qu hH=>?_;refine ab.bQ (s:=2) hH rfl (ev rfl) (ev rfl) (by exact dp) (by exact hH.rows (by exact ax)) rfl rfl rfl rfl rfl rfl rfl ⟨(Nat.le_of_ble_eq_true rfl),(Nat.le_of_ble_eq_true rfl)⟩ (fun _=>(ag rfl _)) (by simp only[List.length_cons,List.length_nil,List.length_map,List.length_reverse]<;>omega) (by exact .inl hF) (fun OZ st hH=>?_);dsimp only[u2,u1,u3,u4,setMany,u5,u6,D.cells,Nat.reduceAdd,au] at hH;refine qm ?_;refine qe hK<|qj fun K hK=>qA ?_;refine qm ?_;refine qe hK ?_;exact⟨mm-1,by omega,⟨i+1,OZ,rfl,(by rw[Le];exact hH.drop 2),by omega⟩⟩
   ·simp only[List.length_cons] at iR;refine qq<|qj fun K hK=>qm ?_;refine qn ?_ (hR:=hH.rows bC);simp only[List.length_map,List.length_cons,List.length_reverse];refine ab.nv (z:=((t.length:Nat):Int)) rfl (ev rfl) (ev rfl) (by(try simp only[List.length_reverse,List.length_cons,List.length_nil,List.length_append,List.length_map,List.length_set]);rw[wrap_i64 (by omega) (by omega)]<;>omega) (ag rfl _) ?_;refine qm ?_;refine qe hK ?_;have xM:=AY h t;have f_:=AX h (h.1,max h.2 q.2) t;have y6:=FZ (l:=all.take i) (fun x hx=>hbd x (List.mem_of_mem_take hx)) h (by rw[Gu];exact List.mem_cons_self ..);have bk:decide (((t.length:Nat):Int)≥0)=true:=by rw[decide_eq_true];omega
    refine qq<|af.jV 44 (.bool (decide (q.1≤h.2+1))) [] ?_ (fun ff tmp gE=>?_)
    ·refine qm ?_;refine qg ?_;refine qm ?_;refine qp (o:=0) ?_ (hg:=wi bk);refine ql hH ax ?_ (hg:=wi bk);refine qm ?_ (hg:=wi bk);refine qm ?_ (hg:=wi bk);refine qi hH bC (fun SU Nk=>?_) (hg:=wi bk);refine ab.fL (fo:=1) (m:=0) (o2:=1) (aC rfl rfl rfl bk) (ev rfl) (by assumption) rfl rfl rfl (fun _=>(ag rfl _)) (fun Ul Qe=>?_);refine qo hH bC ?_ (hg:=wi bk);refine ab.LK (aC rfl rfl rfl bk) (ev rfl) (ev rfl) (by omega) (by omega) (ag rfl _) ?_;refine qg ?_ (hg:=wi bk);refine qt bk ?_;refine ab.nil (cS ?_ ?_)
     ·dsimp only[aO,List.foldl,nth,u2,u1]
      all_goals(first|rfl|simp)
     ·dsimp only[Fr.aE,Fr.put,Fr.clean,Fr.ev,Fr.get,nth,look,u1,u2,v1,v2,v4]
      all_goals(first|rfl|(simp[bk];done)|(simp_all;done)|(simp[bk];omega)|(simp_all;omega))
    dsimp only[aO,List.foldl,nth,u2,u1];dsimp only[Fr.aE,Fr.put,Fr.clean,Fr.ev,Fr.get,nth,look,u1,u2,v1,v2,v4];refine af.cond (by assumption) (fun h2=>?_) (fun h2=>?_)<;>try simp only[decide_eq_true_eq,decide_eq_false_iff_not] at h2
    ·refine qj fun K hK=>qm ?_;refine qm ?_;refine qm ?_;refine qm ?_;refine qi hH bC fun SS Nj=>?_;refine ab.fL (fo:=1) (m:=0) (o2:=1) rfl (ev rfl) (by assumption) rfl rfl rfl (fun _=>(ag rfl _)) (fun SR Ni=>?_);refine qo hH bC ?_;refine qp (o:=1) ?_;refine ql hH ax ?_;refine ab.FU (t1:=0) (t2:=0) rfl (ev rfl) (ev rfl) (ag rfl _) ?_;refine qi hH bC fun Uh Qa=>?_;refine ab.fL (fo:=1) (m:=0) (o2:=1) rfl (ev rfl) (by assumption) rfl rfl rfl (fun _=>(ag rfl _)) (fun SQ Nh=>?_);refine ab.kI hH rfl (ev rfl) (ev rfl) (by assumption) rfl rfl (by exact bC) (by assumption) (Nat.le_of_ble_eq_true rfl) (by exact .inl hF) (fun st hH=>?_);dsimp only[u2,u1,u3,u4,setMany,u5,u6,D.cells,Nat.reduceAdd,au] at hH;refine qe hK<|qj fun K hK=>qA ?_;refine qm ?_;refine qe hK ?_;exact⟨mm-1,by omega,⟨i+1,z,rfl,(by rw[Le];simp only[c8,if_pos h2];rw[←f_];exact hH.drop 1),by omega⟩⟩
    ·refine qj fun K hK=>qm ?_;refine ab.aT (m:=2) hH rfl (ev rfl) (by exact ax) (by dsimp only[List.drop_succ_cons,List.drop_zero,List.take_succ_cons,List.take_zero,au]<;>rfl) rfl rfl (ag rfl _) ?_;refine qh (s:=2) (vs:=[_]) hH fun k59 st Qu hH=>?_;refine ab.bQ (s:=2) hH rfl (ev rfl) (ev rfl) (by exact dp) (by exact hH.rows (by exact ax)) rfl rfl rfl rfl rfl rfl rfl ⟨(Nat.le_of_ble_eq_true rfl),(Nat.le_of_ble_eq_true rfl)⟩ (fun _=>(ag rfl _)) (by simp only[List.length_cons,List.length_nil,List.length_map,List.length_reverse]<;>omega) (by exact .inl hF) (fun OZ st hH=>?_);dsimp only[u2,u1,u3,u4,setMany,u5,u6,D.cells,Nat.reduceAdd,au] at hH;refine qm ?_;refine qe hK<|qj fun K hK=>qA ?_;refine qm ?_;refine qe hK ?_;exact⟨mm-1,by omega,⟨i+1,OZ,rfl,(by rw[Le];simp only[c8,if_neg h2];rw[List.reverse_cons (a:=q),List.map_append];exact hH.drop 2),by omega⟩⟩
  ·refine af.exit<|qq<|qj fun K hK=>qm ?_;refine qm ?_;refine qe hK ?_;rw[List.take_of_length_le (by omega)] at hH;refine af.ret ⟨rx,_,_,rfl,rl bZ hH ((hH.freeze ax (dN _) (n:=15) (by decide))),?_⟩;exact⟨all,by rw[gy],hperm,nf⟩
def ie (fr:Go.V.Fr) (k:Nat):Go.V.D:=Go.V.nth .bu fr.loc k
def fJ (l a:List Rg):Prop:=canon a∧∀r,eQ a r↔mq r∧eQ l r
theorem fJ.unique {l a b:List Rg} (h:fJ l a) (g:fJ l b):a=b:=lN h.1 g.1 fun r=>(h.2 r).trans (g.2 r).symm
noncomputable def eF (l:List Rg):Bool:=@decide (fJ l l) (Classical.propDecidable _)
theorem yB {l a:List Rg} (h:fJ l a):eF l=decide (l=a):=by
 unfold eF
 by_cases hl:l=a
 ·rw[decide_eq_true hl];exact@decide_eq_true _ (Classical.propDecidable _) (by rw[hl] at h⊢;exact h)
 ·rw[decide_eq_false hl];exact@decide_eq_false _ (Classical.propDecidable _) (fun g=>hl (g.unique h))
theorem yP (p q:Rg):kW pv .neq 81 (.agg (au p)) (.agg (au q))=some (.bool (!decide (p=q))):=by
 have h:∀a b a' b':Int,kW pv .neq 81 (.agg [.int .i32 a,.int .i32 b]) (.agg [.int .i32 a',.int .i32 b'])=Option.map (fun b=>D.bool !b) (match some (a==a') with|some true=>(match some (b==b') with|some true=>some true|some false=>some false|none=>none)|some false=>some false|none=>none):=fun _ _ _ _=>rfl;obtain⟨a,b⟩:=p;obtain⟨a',b'⟩:=q;simp only[au,h]
 by_cases h1:a=a'
 ·subst h1
  by_cases h2:b=b'
  ·subst h2;simp
  ·have:(b==b')=false:=by simpa using h2
   simp[this,h2]
 ·have:(a==a')=false:=by simpa using h1
  simp[this,h1]
theorem rK {α:Type} {a b:List α} {i:Nat} {x y:α} (ha:a[i]?=some x) (hb:b[i]?=some y) (h:a.take i=b.take i) (M3:x=y):a.take (i+1)=b.take (i+1):=by
 rw[List.take_add_one,List.take_add_one,h,ha,hb,M3]
theorem yQ {α:Type} {a b:List α} {i:Nat} {x y:α} (ha:a[i]?=some x) (hb:b[i]?=some y) (M3:¬x=y):¬a=b:=by
 intro h;subst h;rw[ha] at hb;exact M3 (Option.some.inj hb)
theorem BA {s0:St} {x y:D} {l m:List Rg} (hx:V.Rows s0 2 x (l.map au)) (hy:V.Rows s0 2 y (m.map au)) (hl:l.length≤1073741824) (hm:m.length≤1073741824):Ev pv 83 [x,y] s0 (.bool (decide (l=m))) s0:=by
 refine Ev.me rfl Rm rfl rfl rfl ?_;dsimp only[u3,u4,List.length,Nat.reduceSub,Nat.reduceAdd,w1,w2];obtain⟨bZ,hF,hH⟩:=ri s0;generalize ai .ro s0=S at*;have hx:=Arg.of hx bZ;have hy:=Arg.of hy bZ;refine qq<|qj fun K hK=>qm ?_;refine qe hK<|qq<|qq<|qj fun K hK=>qm ?_;refine qn ?_;simp only[List.length_map];refine qm ?_;refine qn ?_;simp only[List.length_map];refine qg ?_;refine qe hK ?_
 by_cases hlen:l.length=m.length
 ·refine af.cond (v:=false) ?_ (fun h=>by cases h) (fun _=>?_)
  ·dsimp only[Fr.ev,Fr.get,nth,V.look];rw[hlen];simp
  refine af.skip<|qq<|qq<|qj fun K hK=>qm ?_;refine qn ?_;simp only[List.length_map];refine qm ?_;refine qe hK<|af.block<|af.loop (fun mm fr st=>∃(i:Nat),fr.clean=⟨14,[x,y,ie fr 2,ie fr 3,.bool false,ie fr 5,ie fr 6,ie fr 7,ie fr 8,ie fr 9,ie fr 10,ie fr 11,.int .i64 (l.length:Nat),.int .i64 (i:Nat)],[]⟩∧Has s0.bs.length S st []∧(i+mm=l.length)∧(l.take i=m.take i)) (l.length) ?_ ?_
  ·exact⟨0,rfl,hH,by omega,rfl⟩
  rintro mm fr st ⟨i,hfr,hH,hi,ht⟩;rw[hfr];clear hfr;generalize ie fr=ee;clear fr;refine qq<|qj fun K hK=>qg ?_;refine qe hK<|qq ?_;refine af.cond (by rfl) (fun h1=>?_) (fun h1=>?_)<;>try simp only[decide_eq_true_eq,decide_eq_false_iff_not] at h1
  ·refine af.skip ?_
   obtain⟨p,hp⟩:∃p,l[i]?=some p:=⟨l[i]'(by omega),List.getElem?_eq_getElem _⟩
   obtain⟨q,hq⟩:∃q,m[i]?=some q:=⟨m[i]'(by omega),List.getElem?_eq_getElem _⟩
   have gk:=eN hp;have oQ:=eN hq;refine qq<|af.block<|qq<|qj fun K hK=>qm ?_;refine qm ?_;refine qe hK<|qq<|qj fun K hK=>qm ?_;refine qm ?_;refine qr fun Pj KZ=>?_;refine ab.cY rfl (ev rfl) (by assumption) rfl (ag rfl _) ?_;refine qm ?_;refine qm ?_;refine qr fun Ph KY=>?_;refine ab.cY rfl (ev rfl) (by assumption) rfl (ag rfl _) ?_;refine ab.Pq rfl (ev rfl) (ev rfl) (yP p q) (ag rfl _) ?_;refine qe hK ?_;refine af.cond (by rfl) (fun h2=>?_) (fun h2=>?_)<;>try simp only[decide_eq_true_eq,decide_eq_false_iff_not,Bool.not_eq_true',Bool.not_eq_false'] at h2
   ·refine qq<|qj fun K hK=>qm ?_;refine qe hK ?_;rw[decide_eq_false (yQ hp hq (by simpa using h2))];refine af.ret ⟨rx,_,rfl,rl bZ hH (rfl)⟩
   ·refine af.skip<|qj fun K hK=>qA ?_;refine qm ?_;refine qe hK ?_;exact⟨mm-1,by omega,⟨i+1,rfl,hH,by omega,rK hp hq ht (by simpa using h2)⟩⟩
  ·refine af.exit<|qq<|qj fun K hK=>qm ?_;refine qe hK ?_;rw[decide_eq_true (by rw[List.take_of_length_le (by omega),List.take_of_length_le (by omega)] at ht;exact ht)];refine af.ret ⟨rx,_,rfl,rl bZ hH (rfl)⟩
 ·refine af.cond (v:=true) ?_ (fun _=>?_) (fun h=>by cases h)
  ·dsimp only[Fr.ev,Fr.get,nth,V.look];simp;omega
  refine qq<|qj fun K hK=>qm ?_;refine qe hK ?_;rw[decide_eq_false (fun h=>hlen (by rw[h]))];refine af.ret ⟨rx,_,rfl,rl bZ hH (rfl)⟩
theorem tJ {s0:St} {x:D} {l:List Rg} (hx:V.Rows s0 2 x (l.map au)) (hl:l.length≤1048576):Ev pv 73 [x] s0 (.bool (eF l)) s0:=by
 refine Ev.me rfl Ru rfl rfl rfl ?_;dsimp only[u3,u4,List.length,Nat.reduceSub,Nat.reduceAdd,w1,w2];obtain⟨bZ,hF,hH⟩:=ri s0;generalize ai .ro s0=S at*;have hx:=Arg.of hx bZ;refine qq<|qj fun K hK=>qm ?_;refine qe hK ?_;obtain⟨_,aI,all,rfl,hperm,nf⟩:=xD (hx.rows hH) (by omega);have hM:fJ l (all.foldl c8 []).reverse:=oE (fun x=>hperm.mem_iff) nf;have hlen:=hperm.length_eq;have lC:=hO l;have iR:=oJ all;rw[yB hM];refine qq<|qj fun K hK=>qm ?_;refine qm ?_;refine qv (aI) ?_;refine qv (BA (hx.rows hH) (eU _ _) (by omega) (by rw[List.length_reverse];omega)) ?_;refine qm ?_;refine qe hK<|af.ret ⟨rx,_,rfl,rl bZ hH (rfl)⟩
structure aL where
 op:Int
 x:Int
 y:Int
 rd:D
 rs:List Rg
def aB (i:aL):List D:=[.int .i64 i.op,.int .i64 i.x,.int .i64 i.y,i.rd]
def aL.ok (i:aL):Prop:=e_ i.rd 2 (i.rs.map au)∧i.rs.length≤1048576
def av (n:Int):List D:=[.int .i64 n]
structure Pg where
 cd:D
 code:List aL
 sd:D
 az:List Int
structure Pg.ok (p:Pg):Prop where
 c:e_ p.cd 4 (p.code.map aB)
 s:e_ p.sd 1 (p.az.map av)
 i:∀x∈p.code,x.ok
 cl:p.code.length≤1048576
 sl:p.az.length≤1048576
def Pg.cs (p:Pg):List D:=[p.cd,p.sd]
def Pg.d (p:Pg):D:=.agg p.cs
theorem fM {l:List aL} {i:Nat} {q:aL} (h:l[i]?=some q):(l.map aB)[i]?=some (aB q):=by rw[List.getElem?_map,h];rfl
theorem dW {l:List Int} {i:Nat} {q:Int} (h:l[i]?=some q):(l.map av)[i]?=some (av q):=by rw[List.getElem?_map,h];rfl
def oN (v n:Int):Bool:=decide (v≥0) &&decide (v<n)
noncomputable def db (n ns pc:Nat) (i:aL):Bool:=
 if i.op=1 then i.y==0 &&(decide (((pc+1:Nat):Int)<n) &&i.x==0 &&eF i.rs)
 else i.rs.isEmpty &&
  (if i.op=2 then oN i.x n &&oN i.y n
  else i.y==0 &&
   (if i.op=3 then oN i.x n
   else if i.op=4 then decide (((pc+1:Nat):Int)<n) &&oN i.x 10
   else if i.op=5∨i.op=6 then decide (((pc+1:Nat):Int)<n) &&i.x==0
   else if i.op=7 then oN i.x ns
   else false))
theorem gq {s0:St} (v n:Int):Ev pv 50 [.int .i64 v,.int .i64 n] s0 (.bool (oN v n)) s0:=by
 refine Ev.me rfl RL rfl rfl rfl ?_;dsimp only[u3,u4,List.length,Nat.reduceSub,Nat.reduceAdd,w1,w2];obtain⟨bZ,hF,hH⟩:=ri s0;generalize ai .ro s0=S at*;refine qq<|qj fun K hK=>qm ?_;refine qe hK<|qq<|af.lH 4 (.bool (decide (v≥0) &&decide (v<n))) [] ?_ (fun ff tmp=>?_)
 ·refine qm ?_;refine qg ?_;refine qm ?_;refine ab.two 7 rfl (fun bk=>?_) (fun bk=>?_)
  ·refine qm ?_ (hg:=wi bk);refine qm ?_ (hg:=wi bk);refine qg ?_ (hg:=wi bk);refine qt bk ?_;refine qm ?_;refine ab.nil (aZ ?_);dsimp only[aO,List.foldl,nth,u2,u1];dsimp only[Fr.aE,Fr.put,Fr.clean,Fr.ev,Fr.get,nth,V.look,u1,u2,v1,v2,v3,v4,v5,v6,v7,List.length,u3,u4,Nat.reduceSub,Nat.reduceAdd,List.map]
   all_goals(simp[bk];done)
  ·refine qs ?_ (hg:=wn bk);refine qs ?_ (hg:=wn bk);refine qs ?_ (hg:=wn bk);refine qu bk ?_;refine qm ?_;refine ab.nil (aZ ?_);dsimp only[aO,List.foldl,nth,u2,u1];dsimp only[Fr.aE,Fr.put,Fr.clean,Fr.ev,Fr.get,nth,V.look,u1,u2,v1,v2,v3,v4,v5,v6,v7,List.length,u3,u4,Nat.reduceSub,Nat.reduceAdd,List.map]
   all_goals(simp[bk];done)
 dsimp only[aO,List.foldl,nth,u2,u1];refine af.ret ⟨rx,_,rfl,rl bZ hH (rfl)⟩
theorem yt {s0:St} {p:Pg} {pc:Nat} {i:aL} (hp:p.ok) (hi:p.code[pc]?=some i):Ev pv 49 [p.d,.int .i64 (pc:Nat)] s0 (.bool (db p.code.length p.az.length pc i)) s0:=by
 refine Ev.me rfl RM rfl rfl rfl ?_;dsimp only[u3,u4,List.length,Nat.reduceSub,Nat.reduceAdd,w1,w2];obtain⟨bZ,hF,hH⟩:=ri s0;generalize ai .ro s0=S at*;have hc:=hp.c.arg s0.bs.length S;have hs:=hp.s.arg s0.bs.length S;have G':=hp.i i (List.mem_of_getElem? hi);have QD:=G'.1.arg s0.bs.length S;have hil:=G'.2;have hcl:=hp.cl;have gQ:=hp.sl;have hr:=fM hi;have hlt:=bz hi;unfold Pg.d;refine qq<|qj fun K hK=>qb hH fun k2 st hk2 hH=>?_;dsimp only[u2,u1,u3,u4,setMany,u5,u6,D.cells,Nat.reduceAdd,Pg.cs,aB,av] at hH;refine qm ?_;refine qe hK<|qq<|qj fun K hK=>qp (o:=0) ?_;refine ql hH ax ?_;refine qm ?_;refine qr fun S4 Nv=>?_;refine ab.cY rfl (ev rfl) (by assumption) rfl (by dsimp only[Fr.put,u1,u2]<;>rfl) ?_;refine qa hH fun k5 st Bg hH=>?_;refine qS hH ax fun st hH=>?_;dsimp only[u2,u1,u3,u4,setMany,u5,u6,D.cells,Nat.reduceAdd,Pg.cs,aB,av] at hH;refine qe hK<|qq<|qj fun K hK=>qm ?_;refine qA ?_;refine qp (o:=0) ?_;refine ql hH bC ?_;refine qn ?_;simp only[List.length_map];refine qg ?_;refine qm ?_;refine qe hK<|qq<|qq<|af.lH 36 (.bool (((i.op !=1) &&decide ((i.rs.length:Int)>0))||((i.op !=2) &&(i.y !=0)))) [18,19,20,21,22,23,24,25,26,27,28,29,30,31,32,33,34,35] ?_ (fun ff tmp=>?_)
 ·refine qp (o:=0) ?_;refine ql hH ax ?_;refine qg ?_;refine qm ?_;refine ab.two 21 rfl (fun bG=>?_) (fun bG=>?_)
  ·refine qp (o:=3) ?_ (hg:=wi bG);refine ql hH ax ?_ (hg:=wi bG);refine qn ?_ (hg:=wi bG);simp only[List.length_map];refine qg ?_ (hg:=wi bG);refine qt bG ?_;refine qm ?_;refine ab.two 27 rfl (fun cz=>?_) (fun cz=>?_)
   ·refine qs ?_ (hg:=wn cz);refine qs ?_ (hg:=wn cz);refine qs ?_ (hg:=wn cz);refine qs ?_ (hg:=wn cz);refine qs ?_;refine qs ?_;refine qs ?_;refine qs ?_ (hg:=wn cz);refine qt cz ?_;refine ab.nil (aZ ?_);dsimp only[aO,List.foldl,nth,u2,u1];dsimp only[Fr.aE,Fr.put,Fr.clean,Fr.ev,Fr.get,nth,V.look,u1,u2,v1,v2,v3,v4,v5,v6,v7,List.length,u3,u4,Nat.reduceSub,Nat.reduceAdd,List.map]
    all_goals(simp_all;done)
   ·refine qp (o:=0) ?_ (hg:=wi cz);refine ql hH ax ?_ (hg:=wi cz);refine qg ?_ (hg:=wi cz);refine qm ?_ (hg:=wi cz);refine ab.two 31 rfl (fun cH=>?_) (fun cH=>?_)
    ·refine qp (o:=2) ?_ (hg:=wi cH);refine ql hH ax ?_ (hg:=wi cH);refine qg ?_ (hg:=wi cH);refine ab.dO (aC rfl rfl rfl cz) rfl cH (by dsimp only[Fr.put,u1,u2]<;>rfl) ?_;refine qu cz ?_;refine ab.nil (aZ ?_);dsimp only[aO,List.foldl,nth,u2,u1];dsimp only[Fr.aE,Fr.put,Fr.clean,Fr.ev,Fr.get,nth,V.look,u1,u2,v1,v2,v3,v4,v5,v6,v7,List.length,u3,u4,Nat.reduceSub,Nat.reduceAdd,List.map]
     all_goals(simp_all;done)
    ·refine qs ?_ (hg:=wn cH);refine qs ?_ (hg:=wn cH);refine qs ?_ (hg:=wn cH);refine ab.cZ (aC rfl rfl rfl cz) rfl cH (by dsimp only[Fr.put,u1,u2]<;>rfl) ?_;refine qu cz ?_;refine ab.nil (aZ ?_);dsimp only[aO,List.foldl,nth,u2,u1];dsimp only[Fr.aE,Fr.put,Fr.clean,Fr.ev,Fr.get,nth,V.look,u1,u2,v1,v2,v3,v4,v5,v6,v7,List.length,u3,u4,Nat.reduceSub,Nat.reduceAdd,List.map]
     all_goals(simp_all;done)
  ·refine qs ?_ (hg:=wn bG);refine qs ?_ (hg:=wn bG);refine qs ?_ (hg:=wn bG);refine qs ?_ (hg:=wn bG);refine qu bG ?_;refine qm ?_;refine qp (o:=0) ?_;refine ql hH ax ?_;refine qg ?_;refine qm ?_;refine ab.two 31 rfl (fun cH=>?_) (fun cH=>?_)
   ·refine qp (o:=2) ?_ (hg:=wi cH);refine ql hH ax ?_ (hg:=wi cH);refine qg ?_ (hg:=wi cH);refine qt cH ?_;refine qg ?_;refine ab.nil (aZ ?_);dsimp only[aO,List.foldl,nth,u2,u1];dsimp only[Fr.aE,Fr.put,Fr.clean,Fr.ev,Fr.get,nth,V.look,u1,u2,v1,v2,v3,v4,v5,v6,v7,List.length,u3,u4,Nat.reduceSub,Nat.reduceAdd,List.map]
    all_goals(simp[bG,cH];done)
   ·refine qs ?_ (hg:=wn cH);refine qs ?_ (hg:=wn cH);refine qs ?_ (hg:=wn cH);refine qu cH ?_;refine qg ?_;refine ab.nil (aZ ?_);dsimp only[aO,List.foldl,nth,u2,u1];dsimp only[Fr.aE,Fr.put,Fr.clean,Fr.ev,Fr.get,nth,V.look,u1,u2,v1,v2,v3,v4,v5,v6,v7,List.length,u3,u4,Nat.reduceSub,Nat.reduceAdd,List.map]
    all_goals(simp[bG,cH];done)
 dsimp only[aO,List.foldl,nth,u2,u1];generalize ff 18=X0;generalize ff 19=XZ;generalize ff 20=XY;generalize ff 21=XX;generalize ff 22=XW;generalize ff 23=XV;generalize ff 24=XU;generalize ff 25=XT;generalize ff 26=XS;generalize ff 27=XR;generalize ff 28=XQ;generalize ff 29=XP;generalize ff 30=XO;generalize ff 31=XN;generalize ff 32=XM;generalize ff 33=XL;generalize ff 34=XK;generalize ff 35=XJ;have NH:(i.rs.isEmpty=!decide ((i.rs.length:Int)>0)):=by cases i.rs<;>simp<;>omega
 have hsh:db p.code.length p.az.length pc i=if((i.op !=1) &&decide ((i.rs.length:Int)>0))||((i.op !=2) &&(i.y !=0)) then false else
   (if i.op=1 then(decide (((pc+1:Nat):Int)<p.code.length) &&i.x==0) &&eF i.rs
   else if i.op=2 then oN i.x p.code.length &&oN i.y p.code.length
   else if i.op=3 then oN i.x p.code.length
   else if i.op=4 then decide (((pc+1:Nat):Int)<p.code.length) &&oN i.x 10
   else if i.op=5 then decide (((pc+1:Nat):Int)<p.code.length) &&i.x==0
   else if i.op=6 then decide (((pc+1:Nat):Int)<p.code.length) &&i.x==0
   else if i.op=7 then oN i.x p.az.length
   else false):=by
  unfold db;rw[NH];generalize decide ((i.rs.length:Int)>0)=b
  by_cases h1:i.op=1
  ·have h2:i.op≠2:=by omega
   simp only[h1];cases b<;>by_cases hy:i.y=0<;>simp[hy]
  ·by_cases h2:i.op=2
   ·simp only[h2];cases b<;>simp
   ·by_cases TJ:i.op=5
    ·simp only[TJ];cases b<;>by_cases hy:i.y=0<;>simp[hy]
    ·cases b<;>by_cases hy:i.y=0<;>simp[h1,h2,TJ,hy]
 rw[hsh];refine qc (fun h0=>?_) (fun h0=>?_)<;>try simp only[cs] at h0
 ·refine qq<|qj fun K hK=>qm ?_;refine qe hK ?_;rw[if_pos h0];refine af.ret ⟨rx,_,rfl,rl bZ hH (rfl)⟩
 ·rw[if_neg (by rw[h0];simp)];refine af.skip<|qq<|qq<|qj fun K hK=>qp (o:=0) ?_;refine ql hH ax ?_;refine qe hK<|af.block<|qq<|qj fun K hK=>qg ?_;refine qm ?_;refine qe hK ?_;refine af.cond (by rfl) (fun h1=>?_) (fun h1=>?_)<;>try simp only[beq_iff_eq,beq_eq_false_iff_ne,ne_eq] at h1
  ·rw[if_pos h1];refine qq<|af.lH 4 (.bool ((decide (((pc+1:Nat):Int)<p.code.length) &&(i.x==0)) &&eF i.rs)) [] ?_ (fun ff tmp=>?_)
   ·refine qm ?_;refine qm ?_;refine ab.two 42 rfl (fun cM=>?_) (fun cM=>?_)
    ·refine qp (o:=1) ?_ (hg:=wi cM);refine ql hH ax ?_ (hg:=wi cM);refine qg ?_ (hg:=wi cM);refine qt cM ?_;refine qm ?_;refine ab.two 47 rfl (fun dJ=>?_) (fun dJ=>?_)
     ·refine qp (o:=3) ?_ (hg:=wi dJ);refine ql hH ax ?_ (hg:=wi dJ);refine qv (tJ (QD.rows hH) hil) ?_ (hg:=wi dJ);refine qt dJ ?_;refine qm ?_;refine ab.nil (aZ ?_);dsimp only[aO,List.foldl,nth,u2,u1];dsimp only[Fr.aE,Fr.put,Fr.clean,Fr.ev,Fr.get,nth,V.look,u1,u2,v1,v2,v3,v4,v5,v6,v7,List.length,u3,u4,Nat.reduceSub,Nat.reduceAdd,List.map]
      all_goals(simp[cM,dJ];done)
     ·refine qs ?_ (hg:=wn dJ);refine qs ?_ (hg:=wn dJ);refine qs ?_ (hg:=wn dJ);refine qu dJ ?_;refine qm ?_;refine ab.nil (aZ ?_);dsimp only[aO,List.foldl,nth,u2,u1];dsimp only[Fr.aE,Fr.put,Fr.clean,Fr.ev,Fr.get,nth,V.look,u1,u2,v1,v2,v3,v4,v5,v6,v7,List.length,u3,u4,Nat.reduceSub,Nat.reduceAdd,List.map]
      all_goals(simp[cM,dJ];done)
    ·refine qs ?_ (hg:=wn cM);refine qs ?_ (hg:=wn cM);refine qs ?_ (hg:=wn cM);refine qu cM ?_;refine qm ?_;refine qs ?_;refine qs ?_;refine qs ?_;refine qg ?_;refine qm ?_;refine ab.nil (aZ ?_);dsimp only[aO,List.foldl,nth,u2,u1];dsimp only[Fr.aE,Fr.put,Fr.clean,Fr.ev,Fr.get,nth,V.look,u1,u2,v1,v2,v3,v4,v5,v6,v7,List.length,u3,u4,Nat.reduceSub,Nat.reduceAdd,List.map]
     all_goals(simp[cM];done)
   dsimp only[aO,List.foldl,nth,u2,u1];refine af.ret ⟨rx,_,rfl,rl bZ hH (rfl)⟩
  ·rw[if_neg h1];refine qq<|qj fun K hK=>qg ?_;refine qm ?_;refine qe hK ?_;refine af.cond (by rfl) (fun h2=>?_) (fun h2=>?_)<;>try simp only[beq_iff_eq,beq_eq_false_iff_ne,ne_eq] at h2
   ·rw[if_pos h2];refine qq<|af.lH 4 (.bool (oN i.x p.code.length &&oN i.y p.code.length)) [] ?_ (fun ff tmp=>?_)
    ·refine qp (o:=1) ?_;refine ql hH ax ?_;refine qp (o:=0) ?_;refine ql hH bC ?_;refine qn ?_;simp only[List.length_map];refine qv (gq _ _) ?_;refine qm ?_;refine ab.two 60 rfl (fun dJ=>?_) (fun dJ=>?_)
     ·refine qp (o:=2) ?_ (hg:=wi dJ);refine ql hH ax ?_ (hg:=wi dJ);refine qp (o:=0) ?_ (hg:=wi dJ);refine ql hH bC ?_ (hg:=wi dJ);refine qn ?_ (hg:=wi dJ);simp only[List.length_map];refine qv (gq _ _) ?_ (hg:=wi dJ);refine qt dJ ?_;refine qm ?_;refine ab.nil (aZ ?_);dsimp only[aO,List.foldl,nth,u2,u1];dsimp only[Fr.aE,Fr.put,Fr.clean,Fr.ev,Fr.get,nth,V.look,u1,u2,v1,v2,v3,v4,v5,v6,v7,List.length,u3,u4,Nat.reduceSub,Nat.reduceAdd,List.map]
      all_goals(simp[dJ];done)
     ·refine qs ?_ (hg:=wn dJ);refine qs ?_ (hg:=wn dJ);refine qs ?_ (hg:=wn dJ);refine qs ?_ (hg:=wn dJ);refine qs ?_ (hg:=wn dJ);refine qs ?_ (hg:=wn dJ);refine qu dJ ?_;refine qm ?_;refine ab.nil (aZ ?_);dsimp only[aO,List.foldl,nth,u2,u1];dsimp only[Fr.aE,Fr.put,Fr.clean,Fr.ev,Fr.get,nth,V.look,u1,u2,v1,v2,v3,v4,v5,v6,v7,List.length,u3,u4,Nat.reduceSub,Nat.reduceAdd,List.map]
      all_goals(simp[dJ];done)
    dsimp only[aO,List.foldl,nth,u2,u1];refine af.ret ⟨rx,_,rfl,rl bZ hH (rfl)⟩
   ·rw[if_neg h2];refine qq<|qj fun K hK=>qg ?_;refine qm ?_;refine qe hK ?_;refine af.cond (by rfl) (fun h3=>?_) (fun h3=>?_)<;>try simp only[beq_iff_eq,beq_eq_false_iff_ne,ne_eq] at h3
    ·rw[if_pos h3];refine qq<|qj fun K hK=>qp (o:=1) ?_;refine ql hH ax ?_;refine qp (o:=0) ?_;refine ql hH bC ?_;refine qn ?_;simp only[List.length_map];refine qv (gq _ _) ?_;refine qm ?_;refine qe hK<|af.ret ⟨rx,_,rfl,rl bZ hH (rfl)⟩
    ·rw[if_neg h3];refine qq<|qj fun K hK=>qg ?_;refine qm ?_;refine qe hK ?_;refine af.cond (by rfl) (fun h4=>?_) (fun h4=>?_)<;>try simp only[beq_iff_eq,beq_eq_false_iff_ne,ne_eq] at h4
     ·rw[if_pos h4];refine qq<|af.lH 4 (.bool (decide (((pc+1:Nat):Int)<p.code.length) &&oN i.x 10)) [] ?_ (fun ff tmp=>?_)
      ·refine qm ?_;refine qm ?_;refine ab.two 79 rfl (fun cM=>?_) (fun cM=>?_)
       ·refine qp (o:=1) ?_ (hg:=wi cM);refine ql hH ax ?_ (hg:=wi cM);refine qv (gq _ _) ?_ (hg:=wi cM);refine qt cM ?_;refine qm ?_;refine ab.nil (aZ ?_);dsimp only[aO,List.foldl,nth,u2,u1];dsimp only[Fr.aE,Fr.put,Fr.clean,Fr.ev,Fr.get,nth,V.look,u1,u2,v1,v2,v3,v4,v5,v6,v7,List.length,u3,u4,Nat.reduceSub,Nat.reduceAdd,List.map]
        all_goals(simp[cM];done)
       ·refine qs ?_ (hg:=wn cM);refine qs ?_ (hg:=wn cM);refine qs ?_ (hg:=wn cM);refine qu cM ?_;refine qm ?_;refine ab.nil (aZ ?_);dsimp only[aO,List.foldl,nth,u2,u1];dsimp only[Fr.aE,Fr.put,Fr.clean,Fr.ev,Fr.get,nth,V.look,u1,u2,v1,v2,v3,v4,v5,v6,v7,List.length,u3,u4,Nat.reduceSub,Nat.reduceAdd,List.map]
        all_goals(simp[cM];done)
      dsimp only[aO,List.foldl,nth,u2,u1];refine af.ret ⟨rx,_,rfl,rl bZ hH (rfl)⟩
     ·rw[if_neg h4];refine qq<|qq<|qj fun K hK=>qg ?_;refine qm ?_;refine qe hK ?_
      by_cases h5:i.op=5
      ·rw[if_pos h5];refine qD rfl (by simp[h5]) ?_;refine af.skip<|qD rfl (by simp[h5]) ?_;refine qq<|af.lH 4 (.bool (decide (((pc+1:Nat):Int)<p.code.length) &&(i.x==0))) [] ?_ (fun ff tmp=>?_)
       ·refine qm ?_;refine qm ?_;refine ab.two 88 rfl (fun cM=>?_) (fun cM=>?_)
        ·refine qp (o:=1) ?_ (hg:=wi cM);refine ql hH ax ?_ (hg:=wi cM);refine qg ?_ (hg:=wi cM);refine qt cM ?_;refine qm ?_;refine ab.nil (aZ ?_);dsimp only[aO,List.foldl,nth,u2,u1];dsimp only[Fr.aE,Fr.put,Fr.clean,Fr.ev,Fr.get,nth,V.look,u1,u2,v1,v2,v3,v4,v5,v6,v7,List.length,u3,u4,Nat.reduceSub,Nat.reduceAdd,List.map]
         all_goals(simp[cM];done)
        ·refine qs ?_ (hg:=wn cM);refine qs ?_ (hg:=wn cM);refine qs ?_ (hg:=wn cM);refine qu cM ?_;refine qm ?_;refine ab.nil (aZ ?_);dsimp only[aO,List.foldl,nth,u2,u1];dsimp only[Fr.aE,Fr.put,Fr.clean,Fr.ev,Fr.get,nth,V.look,u1,u2,v1,v2,v3,v4,v5,v6,v7,List.length,u3,u4,Nat.reduceSub,Nat.reduceAdd,List.map]
         all_goals(simp[cM];done)
       dsimp only[aO,List.foldl,nth,u2,u1];refine af.ret ⟨rx,_,rfl,rl bZ hH (rfl)⟩
      ·rw[if_neg h5];refine qE rfl (by simp[h5]) ?_;refine qj fun K hK=>qg ?_;refine qm ?_;refine qe hK ?_;refine af.cond (by rfl) (fun h6=>?_) (fun h6=>?_)<;>try simp only[beq_iff_eq,beq_eq_false_iff_ne,ne_eq] at h6
       ·rw[if_pos h6];refine qq<|af.lH 4 (.bool (decide (((pc+1:Nat):Int)<p.code.length) &&(i.x==0))) [] ?_ (fun ff tmp=>?_)
        ·refine qm ?_;refine qm ?_;refine ab.two 88 rfl (fun cM=>?_) (fun cM=>?_)
         ·refine qp (o:=1) ?_ (hg:=wi cM);refine ql hH ax ?_ (hg:=wi cM);refine qg ?_ (hg:=wi cM);refine qt cM ?_;refine qm ?_;refine ab.nil (aZ ?_);dsimp only[aO,List.foldl,nth,u2,u1];dsimp only[Fr.aE,Fr.put,Fr.clean,Fr.ev,Fr.get,nth,V.look,u1,u2,v1,v2,v3,v4,v5,v6,v7,List.length,u3,u4,Nat.reduceSub,Nat.reduceAdd,List.map]
          all_goals(simp[cM];done)
         ·refine qs ?_ (hg:=wn cM);refine qs ?_ (hg:=wn cM);refine qs ?_ (hg:=wn cM);refine qu cM ?_;refine qm ?_;refine ab.nil (aZ ?_);dsimp only[aO,List.foldl,nth,u2,u1];dsimp only[Fr.aE,Fr.put,Fr.clean,Fr.ev,Fr.get,nth,V.look,u1,u2,v1,v2,v3,v4,v5,v6,v7,List.length,u3,u4,Nat.reduceSub,Nat.reduceAdd,List.map]
          all_goals(simp[cM];done)
        dsimp only[aO,List.foldl,nth,u2,u1];refine af.ret ⟨rx,_,rfl,rl bZ hH (rfl)⟩
       ·rw[if_neg h6];refine qq<|qj fun K hK=>qg ?_;refine qm ?_;refine qe hK ?_;refine af.cond (by rfl) (fun h7=>?_) (fun h7=>?_)<;>try simp only[beq_iff_eq,beq_eq_false_iff_ne,ne_eq] at h7
        ·rw[if_pos h7];refine qq<|qj fun K hK=>qp (o:=1) ?_;refine ql hH ax ?_;refine qp (o:=1) ?_;refine ql hH bC ?_;refine qn ?_;simp only[List.length_map];refine qv (gq _ _) ?_;refine qm ?_;refine qe hK<|af.ret ⟨rx,_,rfl,rl bZ hH (rfl)⟩
        ·rw[if_neg h7];refine af.skip<|qq<|qj fun K hK=>qm ?_;refine qe hK<|af.ret ⟨rx,_,rfl,rl bZ hH (rfl)⟩
def b9 (c:Nat):Int×Nat×Nat:=
 if c<128 then(0,0,0) else if c<194 then(-1,0,0) else if c<224 then(1,128,191) else if c=224 then(2,160,191) else if c=237 then(2,128,159)
 else if c<240 then(2,128,191) else if c=240 then(3,144,191) else if c<244 then(3,128,191) else if c=244 then(3,128,143) else(-1,0,0)
theorem FR (c:Nat) (st:St):Ev pv 72 [.int .u8 c] st (.tup [.int .i64 (b9 c).1,.int .u8 (b9 c).2.1,.int .u8 (b9 c).2.2]) st:=by
 refine Ev.me rfl Rv rfl rfl rfl ?_;dsimp only[u3,u4,List.length,Nat.reduceSub,Nat.reduceAdd,w1,w2];(try refine qy ?_);(repeat refine qq ?_);(try generalize hK:bX _ _ _ _=K);refine af.fh ?_;(repeat(first|refine xT ?_|refine xL ?_|refine xN ?_|refine xo ?_|refine xp ?_));refine ab.nil ?_;(try dsimp only[Fr.aE,Fr.put,Fr.clean,Fr.ev,Fr.get,nth,V.look,u1,u2,v1,v2,v3,v4,v5,v6,v7,List.length,u3,u4,Nat.reduceSub,Nat.reduceAdd,List.map]);(try subst hK);(try refine qy ?_);refine af.seq (af.block ?_);(try refine qy ?_);(repeat refine qq ?_);(try generalize hK:bX _ _ _ _=K);refine af.fh ?_;(repeat(first|refine xT ?_|refine xL ?_|refine xN ?_|refine xo ?_|refine xp ?_));refine ab.nil ?_;(try dsimp only[Fr.aE,Fr.put,Fr.clean,Fr.ev,Fr.get,nth,V.look,u1,u2,v1,v2,v3,v4,v5,v6,v7,List.length,u3,u4,Nat.reduceSub,Nat.reduceAdd,List.map]);(try subst hK);(try refine qy ?_);(repeat refine qq ?_);refine qc (fun h1=>?_) (fun h1=>?_)<;>try simp only[cs] at h1
 ·(try refine qy ?_);(repeat refine qq ?_);(try generalize hK:bX _ _ _ _=K);refine af.fh ?_;(repeat(first|refine xT ?_|refine xL ?_|refine xN ?_|refine xo ?_|refine xp ?_));refine ab.nil ?_;(try dsimp only[Fr.aE,Fr.put,Fr.clean,Fr.ev,Fr.get,nth,V.look,u1,u2,v1,v2,v3,v4,v5,v6,v7,List.length,u3,u4,Nat.reduceSub,Nat.reduceAdd,List.map]);(try subst hK);(try refine qy ?_);refine af.ret ⟨rx,_,rfl,bE (by simp) (by simp[ai]) ?_⟩;rw[show b9 c=(0,0,0) by unfold b9;rw[if_pos (by omega)]];rfl
 (try refine qy ?_);(repeat refine qq ?_);(try generalize hK:bX _ _ _ _=K);refine af.fh ?_;(repeat(first|refine xT ?_|refine xL ?_|refine xN ?_|refine xo ?_|refine xp ?_));refine ab.nil ?_;(try dsimp only[Fr.aE,Fr.put,Fr.clean,Fr.ev,Fr.get,nth,V.look,u1,u2,v1,v2,v3,v4,v5,v6,v7,List.length,u3,u4,Nat.reduceSub,Nat.reduceAdd,List.map]);(try subst hK);(try refine qy ?_);(repeat refine qq ?_);refine qc (fun h2=>?_) (fun h2=>?_)<;>try simp only[cs] at h2
 ·(try refine qy ?_);(repeat refine qq ?_);(try generalize hK:bX _ _ _ _=K);refine af.fh ?_;(repeat(first|refine xT ?_|refine xL ?_|refine xN ?_|refine xo ?_|refine xp ?_));refine ab.nil ?_;(try dsimp only[Fr.aE,Fr.put,Fr.clean,Fr.ev,Fr.get,nth,V.look,u1,u2,v1,v2,v3,v4,v5,v6,v7,List.length,u3,u4,Nat.reduceSub,Nat.reduceAdd,List.map]);(try subst hK);(try refine qy ?_);refine af.ret ⟨rx,_,rfl,bE (by simp) (by simp[ai]) ?_⟩;rw[show b9 c=(-1,0,0) by unfold b9;rw[if_neg (by omega),if_pos (by omega)]];rfl
 (try refine qy ?_);(repeat refine qq ?_);(try generalize hK:bX _ _ _ _=K);refine af.fh ?_;(repeat(first|refine xT ?_|refine xL ?_|refine xN ?_|refine xo ?_|refine xp ?_));refine ab.nil ?_;(try dsimp only[Fr.aE,Fr.put,Fr.clean,Fr.ev,Fr.get,nth,V.look,u1,u2,v1,v2,v3,v4,v5,v6,v7,List.length,u3,u4,Nat.reduceSub,Nat.reduceAdd,List.map]);(try subst hK);(try refine qy ?_);(repeat refine qq ?_);refine qc (fun h3=>?_) (fun h3=>?_)<;>try simp only[cs] at h3
 ·(try refine qy ?_);(repeat refine qq ?_);(try generalize hK:bX _ _ _ _=K);refine af.fh ?_;(repeat(first|refine xT ?_|refine xL ?_|refine xN ?_|refine xo ?_|refine xp ?_));refine ab.nil ?_;(try dsimp only[Fr.aE,Fr.put,Fr.clean,Fr.ev,Fr.get,nth,V.look,u1,u2,v1,v2,v3,v4,v5,v6,v7,List.length,u3,u4,Nat.reduceSub,Nat.reduceAdd,List.map]);(try subst hK);(try refine qy ?_);refine af.ret ⟨rx,_,rfl,bE (by simp) (by simp[ai]) ?_⟩;rw[show b9 c=(1,128,191) by unfold b9;rw[if_neg (by omega),if_neg (by omega),if_pos (by omega)]];rfl
 (try refine qy ?_);(repeat refine qq ?_);(try generalize hK:bX _ _ _ _=K);refine af.fh ?_;(repeat(first|refine xT ?_|refine xL ?_|refine xN ?_|refine xo ?_|refine xp ?_));refine ab.nil ?_;(try dsimp only[Fr.aE,Fr.put,Fr.clean,Fr.ev,Fr.get,nth,V.look,u1,u2,v1,v2,v3,v4,v5,v6,v7,List.length,u3,u4,Nat.reduceSub,Nat.reduceAdd,List.map]);(try subst hK);(try refine qy ?_);(repeat refine qq ?_);refine qc (fun h4=>?_) (fun h4=>?_)<;>try simp only[cs] at h4
 ·(try refine qy ?_);(repeat refine qq ?_);(try generalize hK:bX _ _ _ _=K);refine af.fh ?_;(repeat(first|refine xT ?_|refine xL ?_|refine xN ?_|refine xo ?_|refine xp ?_));refine ab.nil ?_;(try dsimp only[Fr.aE,Fr.put,Fr.clean,Fr.ev,Fr.get,nth,V.look,u1,u2,v1,v2,v3,v4,v5,v6,v7,List.length,u3,u4,Nat.reduceSub,Nat.reduceAdd,List.map]);(try subst hK);(try refine qy ?_);refine af.ret ⟨rx,_,rfl,bE (by simp) (by simp[ai]) ?_⟩;rw[show b9 c=(2,160,191) by unfold b9;rw[if_neg (by omega),if_neg (by omega),if_neg (by omega),if_pos (by omega)]];rfl
 (try refine qy ?_);(repeat refine qq ?_);(try generalize hK:bX _ _ _ _=K);refine af.fh ?_;(repeat(first|refine xT ?_|refine xL ?_|refine xN ?_|refine xo ?_|refine xp ?_));refine ab.nil ?_;(try dsimp only[Fr.aE,Fr.put,Fr.clean,Fr.ev,Fr.get,nth,V.look,u1,u2,v1,v2,v3,v4,v5,v6,v7,List.length,u3,u4,Nat.reduceSub,Nat.reduceAdd,List.map]);(try subst hK);(try refine qy ?_);(repeat refine qq ?_);refine qc (fun h5=>?_) (fun h5=>?_)<;>try simp only[cs] at h5
 ·(try refine qy ?_);(repeat refine qq ?_);(try generalize hK:bX _ _ _ _=K);refine af.fh ?_;(repeat(first|refine xT ?_|refine xL ?_|refine xN ?_|refine xo ?_|refine xp ?_));refine ab.nil ?_;(try dsimp only[Fr.aE,Fr.put,Fr.clean,Fr.ev,Fr.get,nth,V.look,u1,u2,v1,v2,v3,v4,v5,v6,v7,List.length,u3,u4,Nat.reduceSub,Nat.reduceAdd,List.map]);(try subst hK);(try refine qy ?_);refine af.ret ⟨rx,_,rfl,bE (by simp) (by simp[ai]) ?_⟩;rw[show b9 c=(2,128,159) by unfold b9;rw[if_neg (by omega),if_neg (by omega),if_neg (by omega),if_neg (by omega),if_pos (by omega)]];rfl
 (try refine qy ?_);(repeat refine qq ?_);(try generalize hK:bX _ _ _ _=K);refine af.fh ?_;(repeat(first|refine xT ?_|refine xL ?_|refine xN ?_|refine xo ?_|refine xp ?_));refine ab.nil ?_;(try dsimp only[Fr.aE,Fr.put,Fr.clean,Fr.ev,Fr.get,nth,V.look,u1,u2,v1,v2,v3,v4,v5,v6,v7,List.length,u3,u4,Nat.reduceSub,Nat.reduceAdd,List.map]);(try subst hK);(try refine qy ?_);(repeat refine qq ?_);refine qc (fun h6=>?_) (fun h6=>?_)<;>try simp only[cs] at h6
 ·(try refine qy ?_);(repeat refine qq ?_);(try generalize hK:bX _ _ _ _=K);refine af.fh ?_;(repeat(first|refine xT ?_|refine xL ?_|refine xN ?_|refine xo ?_|refine xp ?_));refine ab.nil ?_;(try dsimp only[Fr.aE,Fr.put,Fr.clean,Fr.ev,Fr.get,nth,V.look,u1,u2,v1,v2,v3,v4,v5,v6,v7,List.length,u3,u4,Nat.reduceSub,Nat.reduceAdd,List.map]);(try subst hK);(try refine qy ?_);refine af.ret ⟨rx,_,rfl,bE (by simp) (by simp[ai]) ?_⟩;rw[show b9 c=(2,128,191) by unfold b9;rw[if_neg (by omega),if_neg (by omega),if_neg (by omega),if_neg (by omega),if_neg (by omega),if_pos (by omega)]];rfl
 (try refine qy ?_);(repeat refine qq ?_);(try generalize hK:bX _ _ _ _=K);refine af.fh ?_;(repeat(first|refine xT ?_|refine xL ?_|refine xN ?_|refine xo ?_|refine xp ?_));refine ab.nil ?_;(try dsimp only[Fr.aE,Fr.put,Fr.clean,Fr.ev,Fr.get,nth,V.look,u1,u2,v1,v2,v3,v4,v5,v6,v7,List.length,u3,u4,Nat.reduceSub,Nat.reduceAdd,List.map]);(try subst hK);(try refine qy ?_);(repeat refine qq ?_);refine qc (fun h7=>?_) (fun h7=>?_)<;>try simp only[cs] at h7
 ·(try refine qy ?_);(repeat refine qq ?_);(try generalize hK:bX _ _ _ _=K);refine af.fh ?_;(repeat(first|refine xT ?_|refine xL ?_|refine xN ?_|refine xo ?_|refine xp ?_));refine ab.nil ?_;(try dsimp only[Fr.aE,Fr.put,Fr.clean,Fr.ev,Fr.get,nth,V.look,u1,u2,v1,v2,v3,v4,v5,v6,v7,List.length,u3,u4,Nat.reduceSub,Nat.reduceAdd,List.map]);(try subst hK);(try refine qy ?_);refine af.ret ⟨rx,_,rfl,bE (by simp) (by simp[ai]) ?_⟩;rw[show b9 c=(3,144,191) by unfold b9;rw[if_neg (by omega),if_neg (by omega),if_neg (by omega),if_neg (by omega),if_neg (by omega),if_neg (by omega),if_pos (by omega)]];rfl
 (try refine qy ?_);(repeat refine qq ?_);(try generalize hK:bX _ _ _ _=K);refine af.fh ?_;(repeat(first|refine xT ?_|refine xL ?_|refine xN ?_|refine xo ?_|refine xp ?_));refine ab.nil ?_;(try dsimp only[Fr.aE,Fr.put,Fr.clean,Fr.ev,Fr.get,nth,V.look,u1,u2,v1,v2,v3,v4,v5,v6,v7,List.length,u3,u4,Nat.reduceSub,Nat.reduceAdd,List.map]);(try subst hK);(try refine qy ?_);(repeat refine qq ?_);refine qc (fun h8=>?_) (fun h8=>?_)<;>try simp only[cs] at h8
 ·(try refine qy ?_);(repeat refine qq ?_);(try generalize hK:bX _ _ _ _=K);refine af.fh ?_;(repeat(first|refine xT ?_|refine xL ?_|refine xN ?_|refine xo ?_|refine xp ?_));refine ab.nil ?_;(try dsimp only[Fr.aE,Fr.put,Fr.clean,Fr.ev,Fr.get,nth,V.look,u1,u2,v1,v2,v3,v4,v5,v6,v7,List.length,u3,u4,Nat.reduceSub,Nat.reduceAdd,List.map]);(try subst hK);(try refine qy ?_);refine af.ret ⟨rx,_,rfl,bE (by simp) (by simp[ai]) ?_⟩;rw[show b9 c=(3,128,191) by unfold b9;rw[if_neg (by omega),if_neg (by omega),if_neg (by omega),if_neg (by omega),if_neg (by omega),if_neg (by omega),if_neg (by omega),if_pos (by omega)]];rfl
 (try refine qy ?_);(repeat refine qq ?_);(try generalize hK:bX _ _ _ _=K);refine af.fh ?_;(repeat(first|refine xT ?_|refine xL ?_|refine xN ?_|refine xo ?_|refine xp ?_));refine ab.nil ?_;(try dsimp only[Fr.aE,Fr.put,Fr.clean,Fr.ev,Fr.get,nth,V.look,u1,u2,v1,v2,v3,v4,v5,v6,v7,List.length,u3,u4,Nat.reduceSub,Nat.reduceAdd,List.map]);(try subst hK);(try refine qy ?_);(repeat refine qq ?_);refine qc (fun h9=>?_) (fun h9=>?_)<;>try simp only[cs] at h9
 ·(try refine qy ?_);(repeat refine qq ?_);(try generalize hK:bX _ _ _ _=K);refine af.fh ?_;(repeat(first|refine xT ?_|refine xL ?_|refine xN ?_|refine xo ?_|refine xp ?_));refine ab.nil ?_;(try dsimp only[Fr.aE,Fr.put,Fr.clean,Fr.ev,Fr.get,nth,V.look,u1,u2,v1,v2,v3,v4,v5,v6,v7,List.length,u3,u4,Nat.reduceSub,Nat.reduceAdd,List.map]);(try subst hK);(try refine qy ?_);refine af.ret ⟨rx,_,rfl,bE (by simp) (by simp[ai]) ?_⟩;rw[show b9 c=(3,128,143) by unfold b9;rw[if_neg (by omega),if_neg (by omega),if_neg (by omega),if_neg (by omega),if_neg (by omega),if_neg (by omega),if_neg (by omega),if_neg (by omega),if_pos (by omega)]];rfl
 refine af.skip ?_;(try refine qy ?_);(repeat refine qq ?_);(try generalize hK:bX _ _ _ _=K);refine af.fh ?_;(repeat(first|refine xT ?_|refine xL ?_|refine xN ?_|refine xo ?_|refine xp ?_));refine ab.nil ?_;(try dsimp only[Fr.aE,Fr.put,Fr.clean,Fr.ev,Fr.get,nth,V.look,u1,u2,v1,v2,v3,v4,v5,v6,v7,List.length,u3,u4,Nat.reduceSub,Nat.reduceAdd,List.map]);(try subst hK);(try refine qy ?_);refine af.ret ⟨rx,_,rfl,bE (by simp) (by simp[ai]) ?_⟩;rw[show b9 c=(-1,0,0) by unfold b9;rw[if_neg (by omega),if_neg (by omega),if_neg (by omega),if_neg (by omega),if_neg (by omega),if_neg (by omega),if_neg (by omega),if_neg (by omega),if_neg (by omega)]];rfl
def iz:(left n r lo hi:Nat)→List UInt8→Nat×Nat×Bool
 |0,n,r,_,_,_=>(r,n,false)
 |left+1,n,r,lo,hi,[]=>(0,0,true)
 |left+1,n,r,lo,hi,x::xs=>if x.toNat<lo∨hi<x.toNat then(0,0,false) else iz left n (r*64+x.toNat %64) 128 191 xs
def gI:List UInt8→Nat×Nat×Bool
 |[]=>(0,0,false)
 |c::xs=>if(b9 c.toNat).1<0 then(0,0,false)
   else iz (b9 c.toNat).1.toNat ((b9 c.toNat).1.toNat+1) (if(b9 c.toNat).1>0 then c.toNat %(64/2^(b9 c.toNat).1.toNat) else c.toNat) (b9 c.toNat).2.1 (b9 c.toNat).2.2 xs
theorem ug (c:Nat):(b9 c).1=-1∨(b9 c).1=0∨(b9 c).1=1∨(b9 c).1=2∨(b9 c).1=3:=by
 unfold b9
 repeat' split
 all_goals simp
theorem ye {w a j:Nat} (ha:a<2^w) (hj:2^j-1<2^w):(BitVec.ofInt w (a:Int) &&&BitVec.ofInt w ((2^j-1:Nat):Int)).toNat=a %2^j:=by
 rw[bv_and ha hj,Nat.and_two_pow_sub_one_eq_mod]
theorem fN (b:List UInt8):(byteCells b).length=b.length:=by simp[byteCells]
theorem pQ {b:List UInt8} {i:Nat} {y:UInt8} (h:b[i]?=some y):(byteCells b)[i]?=some [.int .u8 (y.toNat:Nat)]:=by
 simp[byteCells,h]
theorem GP (y:UInt8):y.toNat<256:=y.toNat_lt
/-- the loop's number: six bits more -/
theorem O6 {r y:Nat} (hr:r<33554432) (hy:y<256):bV .i32 ((BitVec.ofInt 32 (bV .i32 ((r:Int)*2^(min (Int.toNat 6) 32)))|||BitVec.ofInt 32 (bV .i32 (bV .u8 ((BitVec.ofInt 8 (y:Int) &&&BitVec.ofInt 8 63).toNat:Nat)))).toNat:Nat)=((r*64+y %64:Nat):Int):=by
 have h1:(BitVec.ofInt 8 (y:Int) &&&BitVec.ofInt 8 63).toNat=y %64:=ye (w:=8) (j:=6) hy (by decide);rw[h1]
 have h2:((r:Int)*2^(min (Int.toNat 6) 32))=((r*64:Nat):Int):=by
  have:(2:Int)^(min (Int.toNat 6) 32)=64:=by decide
  rw[this];simp
 rw[h2,dK (k:=.i32) (m:=r*64) (by simp only[ku];omega),dK (k:=.u8) (m:=y %64) (by simp only[ku];omega),dK (k:=.i32) (m:=y %64) (by simp only[ku];omega)];rw[Ox (by omega) (by omega)]
 have h3:(r*64)|||(y %64)=r*64+y %64:=by
  have:=Nat.two_pow_add_eq_or_of_lt (i:=6) (b:=y %64) (by omega) r;have e:(2:Nat)^6=64:=by decide
  rw[e] at this;rw[Nat.mul_comm r 64,this]
 rw[h3,dK (k:=.i32) (m:=r*64+y %64) (by simp only[ku];omega)]
theorem MR {c j:Nat} (hc:c<256) (hj:j≤8) {m:Int} (hm:m=((2^j-1:Nat):Int)):bV .i32 ((BitVec.ofInt 32 (bV .i32 (c:Nat)) &&&BitVec.ofInt 32 m).toNat:Nat)=((c %2^j:Nat):Int):=by
 have h1:2^j≤2^8:=Nat.pow_le_pow_right (by omega) hj;rw[hm,dK (k:=.i32) (m:=c) (by simp only[ku];omega),ye (w:=32) (by omega) (by omega)];have:c %2^j≤c:=Nat.mod_le _ _;rw[dK (k:=.i32) (by simp only[ku];omega)]
theorem mask {c j:Nat} (hc:c<256) (hj:j≤8) {m:Int} (hm:m=((2^j-1:Nat):Int)):bV .i32 ((BitVec.ofInt IntKind.i32.bits (bV .i32 (c:Nat)) &&&BitVec.ofInt IntKind.i32.bits m).toNat:Nat)=((c %2^j:Nat):Int):=MR hc hj hm
theorem T6 {r y:Nat} (hr:r<33554432) (hy:y<256):bV .i32 ((BitVec.ofInt IntKind.i32.bits (bV .i32 ((r:Int)*2^(min (Int.toNat 6) IntKind.i32.bits)))|||BitVec.ofInt IntKind.i32.bits (bV .i32 (bV .u8 ((BitVec.ofInt IntKind.u8.bits (y:Int) &&&BitVec.ofInt IntKind.u8.bits 63).toNat:Nat)))).toNat:Nat)=((r*64+y %64:Nat):Int):=O6 hr hy
theorem Bw {st:St} {x:D} {b:List UInt8} (hb:Bytes st x b):Ev pv 48 [x] st (.tup [.int .i32 ((gI b).1:Nat),.int .i64 ((gI b).2.1:Nat),.bool (gI b).2.2]) st:=by
 refine Ev.me rfl RN rfl rfl rfl ?_;dsimp only[u3,u4,List.length,Nat.reduceSub,Nat.reduceAdd,w1,w2];have dD:=hb.enter .ro;(try refine qy ?_);(repeat refine qq ?_);(try generalize hK:bX _ _ _ _=K);refine af.fh ?_;(repeat(first|refine xT ?_|refine xL ?_|refine xN ?_|refine xo ?_|refine xp ?_));refine ab.nil ?_;(try dsimp only[Fr.aE,Fr.put,Fr.clean,Fr.ev,Fr.get,nth,V.look,u1,u2,v1,v2,v3,v4,v5,v6,v7,List.length,u3,u4,Nat.reduceSub,Nat.reduceAdd,List.map]);(try subst hK);(try refine qy ?_);(repeat refine qq ?_);(try generalize hK:bX _ _ _ _=K);refine af.fh ?_
 (first|refine xT ?_|refine xL ?_|refine xN ?_|refine xo ?_|refine xp ?_)
 refine ab.len rfl rfl rfl dD rfl ?_;(repeat(first|refine xT ?_|refine xL ?_|refine xN ?_|refine xo ?_|refine xp ?_));refine ab.nil ?_;(try dsimp only[Fr.aE,Fr.put,Fr.clean,Fr.ev,Fr.get,nth,V.look,u1,u2,v1,v2,v3,v4,v5,v6,v7,List.length,u3,u4,Nat.reduceSub,Nat.reduceAdd,List.map]);(try subst hK);(try refine qy ?_);(repeat refine qq ?_);refine qc (fun h1=>?_) (fun h1=>?_)<;>try simp only[cs] at h1
 ·(try refine qy ?_);(repeat refine qq ?_);(try generalize hK:bX _ _ _ _=K);refine af.fh ?_;(repeat(first|refine xT ?_|refine xL ?_|refine xN ?_|refine xo ?_|refine xp ?_));refine ab.nil ?_;(try dsimp only[Fr.aE,Fr.put,Fr.clean,Fr.ev,Fr.get,nth,V.look,u1,u2,v1,v2,v3,v4,v5,v6,v7,List.length,u3,u4,Nat.reduceSub,Nat.reduceAdd,List.map]);(try subst hK);(try refine qy ?_);refine af.ret ⟨rx,_,rfl,bE (by simp) (by simp[ai]) ?_⟩
  obtain rfl:b=[]:=by cases b with|nil=>rfl|cons c b=>simp[byteCells] at h1;omega
  rfl
 refine af.skip ?_
 obtain⟨c,xs,rfl⟩:∃c xs,b=c::xs:=by cases b with|nil=>simp[byteCells] at h1|cons c b=>exact⟨c,b,rfl⟩
 obtain⟨k,lo,hi,hm⟩:∃k lo hi,b9 c.toNat=(k,lo,hi):=⟨_,_,_,rfl⟩
 have Qp:=FR c.toNat (ai .ro st);rw[hm] at Qp;have hk:=ug c.toNat;rw[hm] at hk;have hc:=GP c;(try refine qy ?_);(repeat refine qq ?_);(try generalize hK:bX _ _ _ _=K);refine af.fh ?_
 (first|refine xT ?_|refine xL ?_|refine xN ?_|refine xo ?_|refine xp ?_)
 refine ab.gX rfl rfl rfl (fun _=>rfl) rfl rfl dD rfl rfl (by omega) rfl rfl (fun p=>?_);refine ab.Hf rfl rfl rfl Qp ?_;(repeat(first|refine xT ?_|refine xL ?_|refine xN ?_|refine xo ?_|refine xp ?_));refine ab.nil ?_;(try dsimp only[Fr.aE,Fr.put,Fr.clean,Fr.ev,Fr.get,nth,V.look,u1,u2,v1,v2,v3,v4,v5,v6,v7,List.length,u3,u4,Nat.reduceSub,Nat.reduceAdd,List.map]);(try subst hK);(try refine qy ?_);(repeat refine qq ?_);(try generalize hK:bX _ _ _ _=K);refine af.fh ?_;(repeat(first|refine xT ?_|refine xL ?_|refine xN ?_|refine xo ?_|refine xp ?_));refine ab.nil ?_;(try dsimp only[Fr.aE,Fr.put,Fr.clean,Fr.ev,Fr.get,nth,V.look,u1,u2,v1,v2,v3,v4,v5,v6,v7,List.length,u3,u4,Nat.reduceSub,Nat.reduceAdd,List.map]);(try subst hK);(try refine qy ?_);(repeat refine qq ?_);refine qc (fun h2=>?_) (fun h2=>?_)<;>try simp only[cs] at h2
 ·(try refine qy ?_);(repeat refine qq ?_);(try generalize hK:bX _ _ _ _=K);refine af.fh ?_;(repeat(first|refine xT ?_|refine xL ?_|refine xN ?_|refine xo ?_|refine xp ?_));refine ab.nil ?_;(try dsimp only[Fr.aE,Fr.put,Fr.clean,Fr.ev,Fr.get,nth,V.look,u1,u2,v1,v2,v3,v4,v5,v6,v7,List.length,u3,u4,Nat.reduceSub,Nat.reduceAdd,List.map]);(try subst hK);(try refine qy ?_);refine af.ret ⟨rx,_,rfl,bE (by simp) (by simp[ai]) ?_⟩;simp only[gI,hm];rw[if_pos h2];rfl
 refine af.skip ?_;(try refine qy ?_);(repeat refine qq ?_);(try generalize hK:bX _ _ _ _=K);refine af.fh ?_
 (first|refine xT ?_|refine xL ?_|refine xN ?_|refine xo ?_|refine xp ?_)
 refine ab.gX rfl rfl rfl (fun _=>rfl) rfl rfl dD rfl rfl (by omega) rfl rfl (fun p=>?_);(repeat(first|refine xT ?_|refine xL ?_|refine xN ?_|refine xo ?_|refine xp ?_));refine ab.nil ?_;(try dsimp only[Fr.aE,Fr.put,Fr.clean,Fr.ev,Fr.get,nth,V.look,u1,u2,v1,v2,v3,v4,v5,v6,v7,List.length,u3,u4,Nat.reduceSub,Nat.reduceAdd,List.map]);(try subst hK);(try refine qy ?_);(repeat refine qq ?_);(try generalize hK:bX _ _ _ _=K);refine af.fh ?_;(repeat(first|refine xT ?_|refine xL ?_|refine xN ?_|refine xo ?_|refine xp ?_));refine ab.nil ?_;(try dsimp only[Fr.aE,Fr.put,Fr.clean,Fr.ev,Fr.get,nth,V.look,u1,u2,v1,v2,v3,v4,v5,v6,v7,List.length,u3,u4,Nat.reduceSub,Nat.reduceAdd,List.map]);(try subst hK);(try refine qy ?_);generalize hK:bX _ _ _ _=K
 have H:∀(r kn:Nat) (m:List (Nat×D)),k=(kn:Int)→r=(if k>0 then c.toNat %(64/2^k.toNat) else c.toNat)→(r+1)*64^kn≤2097152→K .next ⟨9,[x,.tup [],.int .i32 r,.int .i64 0,.bool false,.int .i64 k,.int .u8 lo,.int .u8 hi,.tup []],m⟩ (ai .ro st):=by
  intro r kn m hkn hr oQ
  have hR:gI (c::xs)=iz kn (kn+1) r lo hi xs:=by
   simp only[gI,hm];rw[if_neg h2,hr,hkn];rfl
  subst hK;rw[hR];generalize hS:iz kn (kn+1) r lo hi xs=R at hR⊢;subst hkn;(try refine qy ?_);(repeat refine qq ?_);(try generalize hK:bX _ _ _ _=K);refine af.fh ?_;(repeat(first|refine xT ?_|refine xL ?_|refine xN ?_|refine xo ?_|refine xp ?_));refine ab.nil ?_;(try dsimp only[Fr.aE,Fr.put,Fr.clean,Fr.ev,Fr.get,nth,V.look,u1,u2,v1,v2,v3,v4,v5,v6,v7,List.length,u3,u4,Nat.reduceSub,Nat.reduceAdd,List.map]);(try subst hK);(try refine qy ?_);refine af.block<|af.loop (fun j fr ah=>∃(i r lo hi:Nat),fr.clean=⟨9,[x,.tup [],.int .i32 r,.int .i64 0,.bool false,.int .i64 kn,.int .u8 lo,.int .u8 hi,.int .i64 (i:Nat)],[]⟩∧ah=ai .ro st∧1≤i∧i+j=kn+1∧iz j (kn+1) r lo hi (xs.drop (i-1))=R∧(r+1)*64^j≤2097152) kn ⟨1,r,lo,hi,rfl,rfl,by omega,by omega,hS,oQ⟩ ?_;clear hr oQ hS r hm Qp m;rintro j fr ah ⟨i,r,lo,hi,hfr,rfl,OQ,hij,hS,oQ⟩;rw[hfr];(try refine qy ?_);(repeat refine qq ?_);(try generalize hK:bX _ _ _ _=K);refine af.fh ?_;(repeat(first|refine xT ?_|refine xL ?_|refine xN ?_|refine xo ?_|refine xp ?_));refine ab.nil ?_;(try dsimp only[Fr.aE,Fr.put,Fr.clean,Fr.ev,Fr.get,nth,V.look,u1,u2,v1,v2,v3,v4,v5,v6,v7,List.length,u3,u4,Nat.reduceSub,Nat.reduceAdd,List.map]);(try subst hK);(try refine qy ?_);(repeat refine qq ?_);refine qc (fun h4=>?_) (fun h4=>?_)<;>try simp only[cs] at h4
  ·refine af.skip ?_
   obtain⟨j,rfl⟩:∃j',j=j'+1:=⟨j-1,by omega⟩
   refine af.seq (af.block ?_);(try refine qy ?_);(repeat refine qq ?_);(try generalize hK:bX _ _ _ _=K);refine af.fh ?_
   (first|refine xT ?_|refine xL ?_|refine xN ?_|refine xo ?_|refine xp ?_)
   (first|refine xT ?_|refine xL ?_|refine xN ?_|refine xo ?_|refine xp ?_)
   refine ab.len rfl rfl rfl dD rfl ?_;(repeat(first|refine xT ?_|refine xL ?_|refine xN ?_|refine xo ?_|refine xp ?_));refine ab.nil ?_;(try dsimp only[Fr.aE,Fr.put,Fr.clean,Fr.ev,Fr.get,nth,V.look,u1,u2,v1,v2,v3,v4,v5,v6,v7,List.length,u3,u4,Nat.reduceSub,Nat.reduceAdd,List.map]);(try subst hK);(try refine qy ?_)
   have zy:(xs.drop (i-1))=[]∨∃y ys,xs.drop (i-1)=y::ys:=by
    cases xs.drop (i-1) with
    |nil=>exact .inl rfl
    |cons y ys=>exact .inr ⟨y,ys,rfl⟩
   have OH:(xs.drop (i-1)).length=xs.length-(i-1):=List.length_drop ..;have hbl:(byteCells (c::xs)).length=xs.length+1:=by simp[byteCells]
   (try refine qy ?_);(repeat refine qq ?_);refine qc (fun h5=>?_) (fun h5=>?_)<;>try simp only[cs] at h5
   ·(try refine qy ?_);(repeat refine qq ?_);(try generalize hK:bX _ _ _ _=K);refine af.fh ?_;(repeat(first|refine xT ?_|refine xL ?_|refine xN ?_|refine xo ?_|refine xp ?_));refine ab.nil ?_;(try dsimp only[Fr.aE,Fr.put,Fr.clean,Fr.ev,Fr.get,nth,V.look,u1,u2,v1,v2,v3,v4,v5,v6,v7,List.length,u3,u4,Nat.reduceSub,Nat.reduceAdd,List.map]);(try subst hK);(try refine qy ?_);refine af.ret ⟨rx,_,rfl,bE (by simp) (by simp[ai]) ?_⟩
    rcases zy with zy|⟨y,ys,zy⟩
    ·rw[zy] at hS;simp only[iz] at hS;subst hS;rfl
    ·rw[zy] at OH;simp only[List.length_cons] at OH;omega
   refine af.skip ?_
   rcases zy with zy|⟨y,ys,zy⟩
   ·rw[zy] at OH;simp only[List.length_nil] at OH;omega
   have hy:(c::xs)[i]?=some y:=by
    obtain⟨i,rfl⟩:∃i',i=i'+1:=⟨i-1,by omega⟩
    have:=congrArg (fun l=>l[0]?) zy
    simpa using this
   have jv:xs.drop (i+1-1)=ys:=by
    have:=congrArg (fun l=>l.drop 1) zy;simp only[List.drop_drop,List.drop_succ_cons,List.drop_zero] at this;rw[←this];congr 1;omega
   have Pz:=pQ hy;have Uy:=GP y;rw[zy] at hS;simp only[iz] at hS;(try refine qy ?_);(repeat refine qq ?_);(try generalize hK:bX _ _ _ _=K);refine af.fh ?_
   (first|refine xT ?_|refine xL ?_|refine xN ?_|refine xo ?_|refine xp ?_)
   (first|refine xT ?_|refine xL ?_|refine xN ?_|refine xo ?_|refine xp ?_)
   refine ab.gX rfl rfl rfl (fun _=>rfl) rfl rfl dD rfl rfl (by omega) Pz rfl (fun p=>?_)
   (first|refine xT ?_|refine xL ?_|refine xN ?_|refine xo ?_|refine xp ?_)
   (first|refine xT ?_|refine xL ?_|refine xN ?_|refine xo ?_|refine xp ?_)
   (first|refine xT ?_|refine xL ?_|refine xN ?_|refine xo ?_|refine xp ?_)
   by_cases uI:(y.toNat:Int)<(lo:Int)
   ·rw[decide_eq_true uI];(repeat(first|refine xT ?_|refine xL ?_|refine xN ?_|refine xo ?_|refine xp ?_));refine ab.nil ?_;(try dsimp only[Fr.aE,Fr.put,Fr.clean,Fr.ev,Fr.get,nth,V.look,u1,u2,v1,v2,v3,v4,v5,v6,v7,List.length,u3,u4,Nat.reduceSub,Nat.reduceAdd,List.map]);(try subst hK);(try refine qy ?_);refine af.cond (v:=true) rfl (fun _=>?_) (fun h=>by cases h);(try refine qy ?_);(repeat refine qq ?_);(try generalize hK:bX _ _ _ _=K);refine af.fh ?_;(repeat(first|refine xT ?_|refine xL ?_|refine xN ?_|refine xo ?_|refine xp ?_));refine ab.nil ?_;(try dsimp only[Fr.aE,Fr.put,Fr.clean,Fr.ev,Fr.get,nth,V.look,u1,u2,v1,v2,v3,v4,v5,v6,v7,List.length,u3,u4,Nat.reduceSub,Nat.reduceAdd,List.map]);(try subst hK);(try refine qy ?_);refine af.ret ⟨rx,_,rfl,bE (by simp) (by simp[ai]) ?_⟩;rw[if_pos (.inl (by omega))] at hS;subst hS;rfl
   rw[decide_eq_false uI]
   (first|refine xT ?_|refine xL ?_|refine xN ?_|refine xo ?_|refine xp ?_)
   (first|refine xT ?_|refine xL ?_|refine xN ?_|refine xo ?_|refine xp ?_)
   refine ab.gX rfl rfl rfl (fun _=>rfl) rfl rfl dD rfl rfl (by omega) Pz rfl (fun p=>?_);(repeat(first|refine xT ?_|refine xL ?_|refine xN ?_|refine xo ?_|refine xp ?_));refine ab.nil ?_;(try dsimp only[Fr.aE,Fr.put,Fr.clean,Fr.ev,Fr.get,nth,V.look,u1,u2,v1,v2,v3,v4,v5,v6,v7,List.length,u3,u4,Nat.reduceSub,Nat.reduceAdd,List.map]);(try subst hK);(try refine qy ?_);(repeat refine qq ?_);refine qc (fun h6=>?_) (fun h6=>?_)<;>try simp only[cs] at h6
   ·(try refine qy ?_);(repeat refine qq ?_);(try generalize hK:bX _ _ _ _=K);refine af.fh ?_;(repeat(first|refine xT ?_|refine xL ?_|refine xN ?_|refine xo ?_|refine xp ?_));refine ab.nil ?_;(try dsimp only[Fr.aE,Fr.put,Fr.clean,Fr.ev,Fr.get,nth,V.look,u1,u2,v1,v2,v3,v4,v5,v6,v7,List.length,u3,u4,Nat.reduceSub,Nat.reduceAdd,List.map]);(try subst hK);(try refine qy ?_);refine af.ret ⟨rx,_,rfl,bE (by simp) (by simp[ai]) ?_⟩;rw[if_pos (.inr (by omega))] at hS;subst hS;rfl
   refine af.skip ?_;rw[if_neg (by omega)] at hS;(try refine qy ?_);(repeat refine qq ?_);(try generalize hK:bX _ _ _ _=K);refine af.fh ?_
   (first|refine xT ?_|refine xL ?_|refine xN ?_|refine xo ?_|refine xp ?_)
   (first|refine xT ?_|refine xL ?_|refine xN ?_|refine xo ?_|refine xp ?_)
   (first|refine xT ?_|refine xL ?_|refine xN ?_|refine xo ?_|refine xp ?_)
   (first|refine xT ?_|refine xL ?_|refine xN ?_|refine xo ?_|refine xp ?_)
   refine ab.gX rfl rfl rfl (fun _=>rfl) rfl rfl dD rfl rfl (by omega) Pz rfl (fun p=>?_);(repeat(first|refine xT ?_|refine xL ?_|refine xN ?_|refine xo ?_|refine xp ?_));refine ab.nil ?_;(try dsimp only[Fr.aE,Fr.put,Fr.clean,Fr.ev,Fr.get,nth,V.look,u1,u2,v1,v2,v3,v4,v5,v6,v7,List.length,u3,u4,Nat.reduceSub,Nat.reduceAdd,List.map]);(try subst hK);(try refine qy ?_);have UZ:r+1≤(r+1)*64^(j+1):=Nat.le_mul_of_pos_right _ (Nat.pow_pos (by omega));rw[T6 (by omega) Uy];(try refine qy ?_);(repeat refine qq ?_);(try generalize hK:bX _ _ _ _=K);refine af.fh ?_;(repeat(first|refine xT ?_|refine xL ?_|refine xN ?_|refine xo ?_|refine xp ?_));refine ab.nil ?_;(try dsimp only[Fr.aE,Fr.put,Fr.clean,Fr.ev,Fr.get,nth,V.look,u1,u2,v1,v2,v3,v4,v5,v6,v7,List.length,u3,u4,Nat.reduceSub,Nat.reduceAdd,List.map]);(try subst hK);(try refine qy ?_);(repeat refine qq ?_);(try generalize hK:bX _ _ _ _=K);refine af.fh ?_;(repeat(first|refine xT ?_|refine xL ?_|refine xN ?_|refine xo ?_|refine xp ?_));refine ab.nil ?_;(try dsimp only[Fr.aE,Fr.put,Fr.clean,Fr.ev,Fr.get,nth,V.look,u1,u2,v1,v2,v3,v4,v5,v6,v7,List.length,u3,u4,Nat.reduceSub,Nat.reduceAdd,List.map]);(try subst hK);(try refine qy ?_);rw[wrap_i64 (by omega) (by omega)];refine⟨j,by omega,i+1,_,_,_,rfl,rfl,by omega,by omega,by rw[jv];exact hS,?_⟩;have e1:(r*64+y.toNat %64+1)≤(r+1)*64:=by omega
   have e2:=Nat.mul_le_mul_right (64^j) e1;have e3:64*64^j=64^(j+1):=by rw[Nat.pow_succ,Nat.mul_comm]
   rw[Nat.mul_assoc,e3] at e2;omega
  ·refine af.exit ?_;have:j=0:=by omega
   subst this;simp only[iz] at hS;subst hS;(try refine qy ?_);(repeat refine qq ?_);(try generalize hK:bX _ _ _ _=K);refine af.fh ?_;(repeat(first|refine xT ?_|refine xL ?_|refine xN ?_|refine xo ?_|refine xp ?_));refine ab.nil ?_;(try dsimp only[Fr.aE,Fr.put,Fr.clean,Fr.ev,Fr.get,nth,V.look,u1,u2,v1,v2,v3,v4,v5,v6,v7,List.length,u3,u4,Nat.reduceSub,Nat.reduceAdd,List.map]);(try subst hK);(try refine qy ?_);refine af.ret ⟨rx,_,rfl,bE (by simp) (by simp[ai]) ?_⟩;rw[wrap_i64 (by omega) (by omega)];rfl
 rcases hk with hk|hk|hk|hk|hk
 ·omega
 ·subst hk;refine af.cond (v:=false) rfl (fun h=>by cases h) fun _=>af.skip ?_;rw[dK (by simp only[ku];omega)];exact H _ 0 _ rfl rfl (by omega)
 ·subst hk;refine af.cond (v:=true) rfl (fun _=>?_) (fun h=>by cases h);refine af.fh ?_
  (first|refine xT ?_|refine xL ?_|refine xN ?_|refine xo ?_|refine xp ?_)
  refine ab.gX rfl rfl rfl (fun _=>rfl) rfl rfl dD rfl rfl (by omega) rfl rfl (fun p=>?_);(repeat(first|refine xT ?_|refine xL ?_|refine xN ?_|refine xo ?_|refine xp ?_));refine ab.nil ?_;(try dsimp only[Fr.aE,Fr.put,Fr.clean,Fr.ev,Fr.get,nth,V.look,u1,u2,v1,v2,v3,v4,v5,v6,v7,List.length,u3,u4,Nat.reduceSub,Nat.reduceAdd,List.map]);rw[mask (j:=5) hc (by omega)]
  ·exact H _ 1 _ rfl rfl (by omega)
  ·decide
 ·subst hk;refine af.cond (v:=true) rfl (fun _=>?_) (fun h=>by cases h);refine af.fh ?_
  (first|refine xT ?_|refine xL ?_|refine xN ?_|refine xo ?_|refine xp ?_)
  refine ab.gX rfl rfl rfl (fun _=>rfl) rfl rfl dD rfl rfl (by omega) rfl rfl (fun p=>?_);(repeat(first|refine xT ?_|refine xL ?_|refine xN ?_|refine xo ?_|refine xp ?_));refine ab.nil ?_;(try dsimp only[Fr.aE,Fr.put,Fr.clean,Fr.ev,Fr.get,nth,V.look,u1,u2,v1,v2,v3,v4,v5,v6,v7,List.length,u3,u4,Nat.reduceSub,Nat.reduceAdd,List.map]);rw[mask (j:=4) hc (by omega)]
  ·exact H _ 2 _ rfl rfl (by omega)
  ·decide
 ·subst hk;refine af.cond (v:=true) rfl (fun _=>?_) (fun h=>by cases h);refine af.fh ?_
  (first|refine xT ?_|refine xL ?_|refine xN ?_|refine xo ?_|refine xp ?_)
  refine ab.gX rfl rfl rfl (fun _=>rfl) rfl rfl dD rfl rfl (by omega) rfl rfl (fun p=>?_);(repeat(first|refine xT ?_|refine xL ?_|refine xN ?_|refine xo ?_|refine xp ?_));refine ab.nil ?_;(try dsimp only[Fr.aE,Fr.put,Fr.clean,Fr.ev,Fr.get,nth,V.look,u1,u2,v1,v2,v3,v4,v5,v6,v7,List.length,u3,u4,Nat.reduceSub,Nat.reduceAdd,List.map]);rw[mask (j:=3) hc (by omega)]
  ·exact H _ 3 _ rfl rfl (by omega)
  ·decide
end Go.Proofs.YtbdilgkfnacahaaGreat
