/-
 Ranges of runes: the canonical form, by plain lists. No program in sight.
-/
import Derived.Test.YthahmilhpmfkfaaGreatVPx
import Derived.Test.YthahmilhpmfkfaaGreatVM2
import Derived.KernelRfl
import Derived.Test.YthahmilhpmfkfaaGreatVHr
import Derived.Test.YthahmilhpmfkfaaGreatVKa
import Derived.Test.YthahmilhpmfkfaaGreatVDgp
set_option linter.unusedSimpArgs false
set_option linter.unusedVariables false
set_option maxRecDepth 100000
set_option maxHeartbeats 4000000
namespace Go.V
abbrev Rg:=Int×Int
def gj (l:List Rg) (r:Int):Prop:=∃x,x∈l∧x.1≤r∧r≤x.2
theorem ia (r:Int):¬gj [] r:=by rintro⟨x,h,_⟩;cases h
theorem bT {x:Rg} {l:List Rg} {r:Int}:gj (x::l) r↔(x.1≤r∧r≤x.2)∨gj l r:=by
 constructor
 ·rintro⟨y,hy,h⟩
  rcases List.mem_cons.1 hy with rfl|hy
  ·exact .inl h
  ·exact .inr ⟨y,hy,h⟩
 ·rintro(h|⟨y,hy,h⟩)
  ·exact⟨x,List.mem_cons_self ..,h⟩
  ·exact⟨y,List.mem_cons_of_mem _ hy,h⟩
theorem yr {a b:List Rg} {r:Int}:gj (a++b) r↔gj a r∨gj b r:=by
 constructor
 ·rintro⟨y,hy,h⟩
  rcases List.mem_append.1 hy with hy|hy
  ·exact .inl ⟨y,hy,h⟩
  ·exact .inr ⟨y,hy,h⟩
 ·rintro(⟨y,hy,h⟩|⟨y,hy,h⟩)
  ·exact⟨y,List.mem_append_left _ hy,h⟩
  ·exact⟨y,List.mem_append_right _ hy,h⟩
theorem uL {a b:List Rg} (h:∀x,x∈a↔x∈b) (r:Int):gj a r↔gj b r:=by
 constructor
 ·rintro⟨y,hy,hh⟩;exact⟨y,(h y).1 hy,hh⟩
 ·rintro⟨y,hy,hh⟩;exact⟨y,(h y).2 hy,hh⟩
def canon (l:List Rg):Prop:=(∀x∈l,x.1≤x.2)∧l.Pairwise fun x y=>x.2+1<y.1
theorem jh {x:Rg} {l:List Rg} (h:canon (x::l)):canon l∧x.1≤x.2∧∀r,gj l r→x.2+1<r:=by
 obtain⟨h1,h2⟩:=h;rw[List.pairwise_cons] at h2;refine⟨⟨fun y hy=>h1 y (List.mem_cons_of_mem _ hy),h2.2⟩,h1 x (List.mem_cons_self ..),?_⟩;rintro r ⟨y,hy,h3,h4⟩;have:=h2.1 y hy;omega
theorem oo:∀{a b:List Rg},canon a→canon b→(∀r,gj a r↔gj b r)→a=b
 |[],[],_,_,_=>rfl
 |[],y::b,_,hb,h=>by
  obtain⟨_,h1,_⟩:=jh hb;exact absurd ((h y.1).2 (bT.2 (.inl ⟨Int.le_refl _,h1⟩))) (ia _)
 |x::a,[],ha,_,h=>by
  obtain⟨_,h1,_⟩:=jh ha;exact absurd ((h x.1).1 (bT.2 (.inl ⟨Int.le_refl _,h1⟩))) (ia _)
 |x::a,y::b,ha,hb,h=>by
  obtain⟨ca,xa,fa⟩:=jh ha;obtain⟨cb,yb,fb⟩:=jh hb
  have low:∀{x y:Rg} {a b:List Rg},x.1≤x.2→(∀r,gj b r→y.2+1<r)→y.1≤y.2→(∀r,gj (x::a) r→gj (y::b) r)→y.1≤x.1:=by
   intro x y a b hx hf hy hh
   rcases bT.1 (hh x.1 (bT.2 (.inl ⟨Int.le_refl _,hx⟩))) with h|h
   ·exact h.1
   ·have:=hf _ h;omega
  have e1:x.1=y.1:=Int.le_antisymm (low yb fa xa fun r=>(h r).2) (low xa fb yb fun r=>(h r).1)
  have up:∀{x y:Rg} {a b:List Rg},x.1≤x.2→x.1=y.1→(∀r,gj a r→x.2+1<r)→(∀r,gj (y::b) r→gj (x::a) r)→y.2≤x.2:=by
   intro x y a b hx he hf hh
   rcases Int.lt_or_le x.2 y.2 with h'|h'
   ·rcases bT.1 (hh (x.2+1) (bT.2 (.inl ⟨by omega,by omega⟩))) with h|h
    ·omega
    ·have:=hf _ h;omega
   ·exact h'
  have e2:x.2=y.2:=Int.le_antisymm (up yb e1.symm fb fun r=>(h r).1) (up xa e1 fa fun r=>(h r).2);have e:x=y:=Prod.ext e1 e2;subst e
  congr 1
  refine oo ca cb fun r=>⟨fun hr=>?_,fun hr=>?_⟩
  ·have:=fa r hr
   rcases bT.1 ((h r).1 (bT.2 (.inr hr))) with h|h
   ·omega
   ·exact h
  ·have:=fb r hr
   rcases bT.1 ((h r).2 (bT.2 (.inr hr))) with h|h
   ·omega
   ·exact h
def dD (acc:List Rg) (r:Rg):List Rg:=
 match acc with
 |[]=>[r]
 |k::rest=>if r.1≤k.2+1 then(k.1,max k.2 r.2)::rest else r::k::rest
theorem nZ:∀(l acc:List Rg),(∀x∈l,x.1≤x.2)→l.Pairwise (fun x y=>x.1≤y.1)→(∀k∈acc.head?,∀x∈l,k.1≤x.1)→(∀x∈acc,x.1≤x.2)→acc.Pairwise (fun x y=>y.2+1<x.1)→
  (∀x∈l.foldl dD acc,x.1≤x.2)∧(l.foldl dD acc).Pairwise (fun x y=>y.2+1<x.1)∧∀r,gj (l.foldl dD acc) r↔gj acc r∨gj l r
 |[],acc,_,_,_,h1,h2=>⟨h1,h2,fun r=>⟨.inl,fun h=>h.resolve_right (ia r)⟩⟩
 |x::l,acc,hl,hp,hk,h1,h2=>by
  rw[List.pairwise_cons] at hp;have hx:=hl x (List.mem_cons_self ..);have jV:∀y∈l,y.1≤y.2:=fun y hy=>hl y (List.mem_cons_of_mem _ hy);rw[List.foldl_cons]
  cases acc with
  |nil=>
   obtain⟨g1,g2,g3⟩:=nZ l [x] jV hp.2 (fun k jy y hy=>by simp at jy;subst jy;exact hp.1 y hy) (fun y hy=>by simp at hy;subst hy;exact hx) (by simp);refine⟨g1,g2,fun r=>(g3 r).trans ?_⟩;rw[bT (l:=l),bT (l:=[])];constructor
   ·rintro((h|h)|h)
    ·exact .inr (.inl h)
    ·exact absurd h (ia r)
    ·exact .inr (.inr h)
   ·rintro(h|h|h)
    ·exact absurd h (ia r)
    ·exact .inl (.inl h)
    ·exact .inr h
  |cons k rest=>
   have Yx:=hk k rfl x (List.mem_cons_self ..);have hkk:=h1 k (List.mem_cons_self ..);rw[List.pairwise_cons] at h2;unfold dD
   by_cases hc:x.1≤k.2+1
   ·simp only[if_pos hc]
    obtain⟨g1,g2,g3⟩:=nZ l ((k.1,max k.2 x.2)::rest) jV hp.2 (fun q hq y hy=>by simp at hq;subst hq;have:=hp.1 y hy;simp only;omega) (fun y hy=>by
     rcases List.mem_cons.1 hy with rfl|hy
     ·simp only;omega
     ·exact h1 y (List.mem_cons_of_mem _ hy)) (by rw[List.pairwise_cons];exact⟨h2.1,h2.2⟩)
    refine⟨g1,g2,fun r=>(g3 r).trans ?_⟩;rw[bT (l:=rest),bT (l:=rest),bT (l:=l)];constructor
    ·rintro((h|h)|h)
     ·simp only at h
      by_cases hr:r≤k.2
      ·exact .inl (.inl ⟨h.1,hr⟩)
      ·exact .inr (.inl ⟨by omega,by omega⟩)
     ·exact .inl (.inr h)
     ·exact .inr (.inr h)
    ·rintro((h|h)|h|h)
     ·exact .inl (.inl ⟨h.1,by simp only;omega⟩)
     ·exact .inl (.inr h)
     ·exact .inl (.inl ⟨by simp only;omega,by simp only;omega⟩)
     ·exact .inr h
   ·simp only[if_neg hc]
    obtain⟨g1,g2,g3⟩:=nZ l (x::k::rest) jV hp.2 (fun q hq y hy=>by simp at hq;subst hq;exact hp.1 y hy) (fun y hy=>by
     rcases List.mem_cons.1 hy with rfl|hy
     ·exact hx
     ·exact h1 y hy) (by
     rw[List.pairwise_cons];refine⟨fun y hy=>?_,by rw[List.pairwise_cons];exact h2⟩
     rcases List.mem_cons.1 hy with rfl|hy
     ·omega
     ·have:=h2.1 y hy;omega)
    refine⟨g1,g2,fun r=>(g3 r).trans ?_⟩;rw[bT (l:=k::rest),bT (l:=l)];constructor
    ·rintro((h|h)|h)
     ·exact .inr (.inl h)
     ·exact .inl h
     ·exact .inr (.inr h)
    ·rintro(h|h|h)
     ·exact .inl (.inr h)
     ·exact .inl (.inl h)
     ·exact .inr h
theorem AD {l:List Rg} (h1:∀x∈l,x.1≤x.2) (h2:l.Pairwise fun x y=>x.1≤y.1):canon (l.foldl dD []).reverse∧∀r,gj (l.foldl dD []).reverse r↔gj l r:=by
 obtain⟨g1,g2,g3⟩:=nZ l [] h1 h2 (fun k hk=>by simp at hk) (fun x hx=>by simp at hx) List.Pairwise.nil;refine⟨⟨fun x hx=>g1 x (List.mem_reverse.1 hx),by rw[List.pairwise_reverse];exact g2⟩,fun r=>?_⟩;rw[uL (fun x=>List.mem_reverse) r,g3 r];exact⟨fun h=>h.resolve_left (ia r),.inr⟩
def na (r:Int):Prop:=0≤r∧r≤1114111∧¬(55296≤r∧r≤57343)
def dU (x:Rg):List Rg:=
 (if max (max x.1 0) 0≤min (min x.2 1114111) 55295 then[(max (max x.1 0) 0,min (min x.2 1114111) 55295)] else[])++
 (if max (max x.1 0) 57344≤min (min x.2 1114111) 1114111 then[(max (max x.1 0) 57344,min (min x.2 1114111) 1114111)] else[])
theorem rN (x:Rg) (r:Int):gj (dU x) r↔na r∧x.1≤r∧r≤x.2:=by
 unfold dU na;rw[yr]
 have one:∀(a b:Int),gj (if a≤b then[(a,b)] else[]) r↔a≤r∧r≤b:=by
  intro a b
  split
  ·rw[bT];exact⟨fun h=>h.elim id fun h=>absurd h (ia r),.inl⟩
  ·exact⟨fun h=>absurd h (ia r),fun h=>by omega⟩
 rw[one,one];omega
theorem oI (x:Rg):∀y∈dU x,y.1≤y.2∧0≤y.1∧y.2≤1114111:=by
 intro y hy;unfold dU at hy
 rcases List.mem_append.1 hy with h|h<;>split at h<;>simp at h<;>subst h<;>simp only<;>omega
theorem mY {l all:List Rg} (hp:∀x,x∈all↔x∈l.flatMap dU) (hs:all.Pairwise fun x y=>x.1≤y.1):canon (all.foldl dD []).reverse∧∀r,gj (all.foldl dD []).reverse r↔na r∧gj l r:=by
 have hle:∀x∈all,x.1≤x.2:=fun x hx=>by
  obtain⟨y,_,hy⟩:=List.mem_flatMap.1 ((hp x).1 hx);exact(oI y x hy).1
 obtain⟨g1,g2⟩:=AD hle hs;refine⟨g1,fun r=>(g2 r).trans ((uL hp r).trans ?_)⟩;constructor
 ·rintro⟨y,hy,h⟩;obtain⟨x,hx,hy⟩:=List.mem_flatMap.1 hy;have:=(rN x r).1 ⟨y,hy,h⟩;exact⟨this.1,x,hx,this.2⟩
 ·rintro⟨hr,x,hx,h⟩;obtain⟨y,hy,h'⟩:=(rN x r).2 ⟨hr,h⟩;exact⟨y,List.mem_flatMap.2 ⟨x,hx,hy⟩,h'⟩
end Go.V
namespace Go.Proofs.YthahmilhpmfkfaaGreat
open Go.V Go
def av (x:Rg):List D:=[.int .i32 x.1,.int .i32 x.2]
def aQ (l:List Rg):D:=.sl (l.map fun x=>.agg (av x))
theorem gK (l:List Rg):D.sl ((l.map av).map (kY 2))=aQ l:=by
 unfold aQ;rw[List.map_map];rfl
theorem fX (l:List Rg):∀e∈l.map av,∀d∈e,b_ d=true:=by
 intro e he d hd;obtain⟨x,_,rfl⟩:=List.mem_map.1 he;simp only[av,List.mem_cons,List.not_mem_nil,or_false] at hd
 rcases hd with rfl|rfl<;>rfl
theorem Ad (l:List Rg):refs (l.map av).flatten=0:=by
 induction l with
 |nil=>rfl
 |cons x l ih=>simp only[List.map_cons,List.flatten_cons,av,List.cons_append,List.nil_append,refs,D.ref,ih];rfl
theorem oO (l:List Rg):∀e∈l.map av,e.length=2:=by
 intro e he;obtain⟨x,_,rfl⟩:=List.mem_map.1 he;rfl
theorem cE (st:St) (l:List Rg):V.Rows st 2 (aQ l) (l.map av):=by
 rw[←gK];exact Rows.sm (oO l) (fX l)
theorem fY {l:List Rg} {i:Nat} {q:Rg} (h:l[i]?=some q):(l.map av)[i]?=some (av q):=by rw[List.getElem?_map,h];rfl
def aR (fr:Go.V.Fr) (k:Nat):Go.V.D:=Go.V.nth .bf fr.loc k
def fK:List Rg:=[(0,55295),(57344,1114111)]
def tM (lo hi:Int) (p:Rg):List Rg:=if max lo p.1≤min hi p.2 then[(max lo p.1,min hi p.2)] else[]
theorem vQ (q:Rg):dU q=fK.flatMap (tM (max q.1 0) (min q.2 1114111)):=by
 simp[dU,fK,tM]
theorem E5 {s0:St} (q:Rg):Ev pv 106 [.agg (av q)] s0 (aQ (dU q)) s0:=by
 refine Ev.iZ rfl OB rfl rfl rfl ?_;refine zE ?_;obtain⟨aU,hF,hH⟩:=ri s0;generalize ag .ro s0=S at*;refine zQ 2 ?_;refine qb hH fun k1 st lG hH=>?_;dsimp only[u2,u1,u3,u4,setMany,u5,u6,D.cells,Nat.reduceAdd,av] at hH;refine zQ 6 ?_;refine ae.Iz (t1:=0) (t2:=0) rfl (ev rfl) (ev rfl) (by dsimp only[Fr.put,u1,u2]<;>rfl) ?_;refine zQ 2 ?_;refine ae.KO (t1:=0) (t2:=0) rfl (ev rfl) (ev rfl) (by dsimp only[Fr.put,u1,u2]<;>rfl) ?_;refine zQ 1 ?_;refine qT hH aG fun st hH=>?_;dsimp only[u2,u1,u3,u4,setMany,u5,u6,D.cells,Nat.reduceAdd,av] at hH;refine zQ 1 ?_;refine qT hH aG fun st hH=>?_;dsimp only[u2,u1,u3,u4,setMany,u5,u6,D.cells,Nat.reduceAdd,av] at hH;refine zQ 1 ?_;generalize AU:max q.1 0=lo at*;generalize DR:min q.2 1114111=hi at*;refine zQ 4 ?_;have hH:=hH.eC 2;refine zQ 5 ?_;refine qh (s:=2) (vs:=[_,_]) hH fun k17 st Rq hH=>?_;dsimp only[u2,u1,u3,u4,setMany,u5,u6,D.cells,Nat.reduceAdd,av] at hH;refine qn ?_ (hR:=hH.rows aG);simp only[List.length_map,List.length_cons,List.length_nil];refine zQ 3 ?_;refine ai.loop (fun mm fr st=>∃(i:Nat) (x:D),fr.clean=⟨20,[.agg (av q),.ptr k1 0 0,.nul,x,aR fr 4,aR fr 5,aR fr 6,aR fr 7,aR fr 8,aR fr 9,aR fr 10,aR fr 11,aR fr 12,aR fr 13,aR fr 14,aR fr 15,aR fr 16,.win k17 0 0 2 2,.int .i64 2,.int .i64 (i:Nat)],[]⟩∧Has s0.bs.length S st [.aB (.win k17 0 0 2 2) 2 (fK.map av),.aB x 2 (((fK.take i).flatMap (tM lo hi)).map av),.box k1 (.mem 0 false [.int .i32 lo,.int .i32 hi])]∧(i+mm=2)∧(((fK.take i).flatMap (tM lo hi)).length≤i)) (2) ?_ ?_
 ·exact⟨0,.nul,rfl,hH,by omega,by simp⟩
 rintro mm fr st ⟨i,x,hfr,hH,hij,hb⟩;rw[hfr];clear hfr;generalize aR fr=ee;clear fr;refine zQ 5 ?_;refine zP (fun h1=>?_) fun h1=>?_
 ·refine zQ 1 ?_
  obtain⟨p,hp⟩:∃p,fK[i]?=some p:=⟨fK[i]'(by simp[fK];omega),List.getElem?_eq_getElem _⟩
  have hr:=fY hp;refine zQ 4 ?_;refine qi hH aG fun TU Ny=>?_;refine ae.r_ hH rfl (ev rfl) (by assumption) (by exact aG) (by assumption) rfl (aa rfl _) ?_;refine qa hH fun k5 st HG hH=>?_;refine qS hH aG fun st hH=>?_;dsimp only[u2,u1,u3,u4,setMany,u5,u6,D.cells,Nat.reduceAdd,av] at hH;refine zQ 7 ?_;refine ae.Iz (t1:=0) (t2:=0) rfl (ev rfl) (ev rfl) (aa rfl _) ?_;refine zQ 4 ?_;refine ae.KO (t1:=0) (t2:=0) rfl (ev rfl) (ev rfl) (aa rfl _) ?_;refine qg ?_;refine qa hH fun k6 st J' hH=>?_;refine qS hH aG fun st hH=>?_;dsimp only[u2,u1,u3,u4,setMany,u5,u6,D.cells,Nat.reduceAdd,av] at hH;refine zQ 9 ?_;refine zP (fun h2=>?_) fun h2=>?_
  ·refine zQ 2 ?_;refine ae.aN (m:=2) hH rfl (ev rfl) (by exact aG) (by dsimp only[List.drop_succ_cons,List.drop_zero,List.take_succ_cons,List.take_zero,av]<;>rfl) rfl rfl (aa rfl _) ?_;refine qh (s:=2) (vs:=[_]) hH fun k41 st NY hH=>?_;refine ae.ew (s:=2) hH rfl (ev rfl) (ev rfl) (by exact cW) (by exact hH.rows (by exact aG)) rfl rfl rfl rfl rfl rfl rfl ⟨(Nat.le_of_ble_eq_true rfl),(Nat.le_of_ble_eq_true rfl)⟩ (fun _=>(aa rfl _)) (by simp only[List.length_cons,List.length_nil,List.length_map]<;>omega) (by exact .inl hF) (fun Ms st hH=>?_);dsimp only[u2,u1,u3,u4,setMany,u5,u6,D.cells,Nat.reduceAdd,av] at hH;refine zQ 6 ?_
   have h3:(fK.take (i+1)).flatMap (tM lo hi)=(fK.take i).flatMap (tM lo hi)++[(max lo p.1,min hi p.2)]:=by
    rw[List.take_add_one,hp,List.flatMap_append];simp[tM,h2]
   exact⟨mm-1,by omega,⟨i+1,Ms,rfl,(by rw[h3,List.map_append];exact hH.drop 3),by omega,by rw[h3];simp only[List.length_append,List.length_cons,List.length_nil];omega⟩⟩
  ·refine zQ 5 ?_
   have h3:(fK.take (i+1)).flatMap (tM lo hi)=(fK.take i).flatMap (tM lo hi):=by
    rw[List.take_add_one,hp,List.flatMap_append];simp[tM,h2]
   exact⟨mm-1,by omega,⟨i+1,x,rfl,(by rw[h3];exact hH.drop 2),by omega,by rw[h3];omega⟩⟩
 ·refine zQ 6 ?_;rw[←gK];have h3:fK.take i=fK:=List.take_of_length_le (by simp[fK];omega);rw[h3] at hH;refine ai.ret ⟨rx,_,rfl,rl aU hH ?_⟩;refine Eq.trans (hH.freeze aV (fX _) (n:=15) (by decide)) ?_;rw[vQ,AU,DR]
theorem C7 (q x:Rg) (h:x∈dU q):0≤x.1∧x.1≤1114111:=by
 obtain⟨h1,h2,h3⟩:=oI q x h;omega
theorem rO (q:Rg):(dU q).length≤2:=by
 unfold dU;split<;>split<;>simp
theorem jE (l:List Rg):(l.flatMap dU).length≤2*l.length:=by
 induction l with
 |nil=>simp
 |cons x l ih=>simp only[List.flatMap_cons,List.length_append,List.length_cons];have:=rO x;omega
theorem ui:∀{l:List Rg},(∀x∈l,0≤x.1∧x.1≤1114111)→∃m:List Rs,fx m=(l.map av).flatten∧m.map (fun x=>(x.lo,x.hi))=l
 |[],_=>⟨[],rfl,rfl⟩
 |x::l,h=>by
  obtain⟨m,h1,h2⟩:=ui (l:=l) fun y hy=>h y (List.mem_cons_of_mem _ hy);obtain⟨h3,h4⟩:=h x (List.mem_cons_self ..);exact⟨⟨x.1,x.2,h3,h4⟩::m,by simp only[fx,h1,List.map_cons,List.flatten_cons,av,List.cons_append,List.nil_append],by simp[h2]⟩
theorem A3 (m:List Rs):fx m=((m.map fun x=>((x.lo,x.hi):Rg)).map av).flatten:=by
 induction m with
 |nil=>rfl
 |cons x m ih=>simp only[fx,ih,List.map_cons,List.flatten_cons,av,List.cons_append,List.nil_append]
theorem GG {N:Nat} {S st:St} {H:List aZ} {j:Nat} {x:D} {l:List Rg} (hH:Has N S st H) (hj:H[j]?=some (.aB x 2 (l.map av))) (h0:l=[]→x=.nul) (hl:l.length≤1073741824) (hr:∀y∈l,0≤y.1∧y.1≤1114111):
  ∃(ah:St) (l':List Rg),Ev pv 107 [x,.fn 108 []] st (.tup []) ah∧Has N S ah (H.set j (.aB x 2 (l'.map av)))∧l'.Perm l∧l'.Pairwise fun a b=>a.1≤b.1:=by
 obtain⟨m,h1,h2⟩:=ui hr;obtain⟨h3,h4⟩:=srt_facts m;have oB:m.length=l.length:=by rw[←h2];simp
 have hperm:((srt m).map fun x=>((x.lo,x.hi):Rg)).Perm l:=by rw[←h2];exact h3.map _
 have mL:((srt m).map fun x=>((x.lo,x.hi):Rg)).Pairwise fun a b=>a.1≤b.1:=by rw[List.pairwise_map];exact h4
 have hlen:(srt m).length=l.length:=h3.length_eq.trans oB;have hown:=hH.own hj;generalize u9:l.map av=es at*;have tW:es.length=l.length:=by rw[←u9];simp
 cases hown with
 |nul=>
  have J_:l=[]:=by cases l with|nil=>rfl|cons _ _=>simp at tW
  refine⟨st,(srt m).map fun x=>(x.lo,x.hi),Ev.kU rfl rfl,?_,hperm,mL⟩
  have:(srt m).map (fun x=>((x.lo,x.hi):Rg))=[]:=by
   cases hs:srt m with
   |nil=>rfl
   |cons a b=>rw[hs,J_] at hlen;simp at hlen
  rw[this];exact hH.vJ hj (fun _ _ _=>rfl) (Nat.le_refl _) rfl rfl .nul (fun k hk=>.inl hk) fun k hk=>by simp only[aZ.aB,D.ref] at hk;omega
 |win k au off es c hm hle hc he=>
  have hne:l≠[]:=fun e=>by have:=h0 e;cases this
  have u7:1≤l.length:=by cases l with|nil=>exact absurd rfl hne|cons _ _=>simp
  have hk:=(hH.ok j _ hj).2 k (by simp only[aZ.aB,D.ref]);have AW:(fx (srt m)).length=es.length*2:=by rw[oc,hlen,tW];omega
  have hwr:st.wr k au off (fx (srt m))=some ⟨st.bs.set k (.mem au true (c.take off++fx (srt m)++c.drop (off+(fx (srt m)).length))),st.flr,st.ro⟩:=
   jK hm (by omega) (eL hH hk.1 (.inr (vm _)))
  refine⟨⟨st.bs.set k (.mem au true (c.take off++fx (srt m)++c.drop (off+(fx (srt m)).length))),st.flr,st.ro⟩,(srt m).map fun x=>(x.lo,x.hi),Ev.kU rfl ?_,?_,hperm,mL⟩
  ·show C3 [.win k au off es.length 2,.fn 108 []] st=_;have gu:(c.drop off).take (2*es.length)=fx m:=by rw[Nat.mul_comm,hc,h1]
   simp only[C3,St.mem_of hm,gu,BL,Ku];rw[decide_eq_true (⟨by rw[oB,tW],by omega,by omega⟩:m.length=es.length∧1≤es.length∧es.length<1099511627776)];simp only[hwr]
  ·refine hH.vJ hj (fun n hn hne=>?_) (by simp) rfl rfl ?_ (fun n hn=>.inl hn) fun n hn=>?_
   ·simp only;rw[List.getElem?_set_ne (fun e=>hne (by simp only[aZ.aB,D.ref];omega))]
   ·have h9:=eU.win (st:=⟨st.bs.set k (.mem au true (c.take off++fx (srt m)++c.drop (off+(fx (srt m)).length))),st.flr,st.ro⟩) (s:=2) k au off (((srt m).map fun x=>((x.lo,x.hi):Rg)).map av) (c.take off++fx (srt m)++c.drop (off+(fx (srt m)).length))
     (by simp only;rw[List.getElem?_set_self hk.2]) (by simp only[List.length_append,List.length_take,List.length_map,List.length_drop,AW];omega) ?_ (oO _)
    ·simp only[List.length_map,hlen] at h9;rw[tW];exact h9
    ·have Q0:(c.take off).length=off:=by simp;omega
     rw[List.append_assoc,List.drop_left' Q0,←A3,List.take_left' (by simp only[List.length_map,hlen];omega)]
   ·simp only[aZ.aB,D.ref] at hn;simp only[List.length_set];omega
theorem sH (l:List Rg):(l.foldl dD []).length≤l.length:=by
 have key:∀(l acc:List Rg),(l.foldl dD acc).length≤acc.length+l.length:=by
  intro l
  induction l with
  |nil=>intro acc;simp
  |cons x l ih=>
   intro acc;simp only[List.foldl_cons,List.length_cons];have:=ih (dD acc x)
   have h2:(dD acc x).length≤acc.length+1:=by
    unfold dD;split
    ·simp
    ·split<;>simp
   omega
 have:=key l []
 simpa using this
theorem ID {l:List Rg} (h:∀x∈l,0≤x.2∧x.2≤1114111):∀x∈l.foldl dD [],0≤x.2∧x.2≤1114111:=by
 have key:∀(l acc:List Rg),(∀x∈l,0≤x.2∧x.2≤1114111)→(∀x∈acc,0≤x.2∧x.2≤1114111)→∀x∈l.foldl dD acc,0≤x.2∧x.2≤1114111:=by
  intro l
  induction l with
  |nil=>intro acc _ h x hx;exact h x hx
  |cons y l ih=>
   intro acc h1 h2;refine ih _ (fun x hx=>h1 x (List.mem_cons_of_mem _ hx)) fun x hx=>?_;have hy:=h1 y (List.mem_cons_self ..);unfold dD at hx
   split at hx
   ·simp only[List.mem_cons,List.not_mem_nil,or_false] at hx;rw[hx];exact hy
   ·rename_i k rest;have hk:=h2 k (List.mem_cons_self ..)
    split at hx
    ·rcases List.mem_cons.1 hx with rfl|hx
     ·simp only;omega
     ·exact h2 x (List.mem_cons_of_mem _ hx)
    ·rcases List.mem_cons.1 hx with rfl|hx
     ·exact hy
     ·exact h2 x hx
 exact key l [] h (fun x hx=>by cases hx)
theorem FZ (h:Rg) (t:List Rg):((h::t).reverse.map av)[t.length]?=some (av h):=by
 rw[List.getElem?_map,List.reverse_cons,List.getElem?_append_right (by simp)];simp
theorem FY (h h':Rg) (t:List Rg):((h::t).reverse.map av).set t.length (av h')=(h'::t).reverse.map av:=by
 rw[List.reverse_cons,List.map_append,List.set_append_right _ _ (by simp)];simp
theorem wx {s0:St} {x:D} {l:List Rg} (hx:V.Rows s0 2 x (l.map av)) (hl:l.length≤268435456):∃d,Ev pv 91 [x] s0 d s0∧∃all:List Rg,d=aQ (all.foldl dD []).reverse∧all.Perm (l.flatMap dU)∧all.Pairwise fun a b=>a.1≤b.1:=by
 refine Ev.JW rfl R9 rfl rfl rfl ?_;refine zE ?_;obtain⟨aU,hF,hH⟩:=ri s0;generalize ag .ro s0=S at*;have hx:=Arg.of hx aU;have jc:=jE l
 have hfi:∀i,((l.take i).flatMap dU).length≤2*l.length:=fun i=>by
  have:=jE (l.take i);simp only[List.length_take] at this;omega
 refine zQ 13 ?_;refine qn ?_;simp only[List.length_map];refine zQ 2 ?_;have hH:=hH.eC 2;refine zQ 1 ?_;refine ai.loop (fun mm fr st=>∃(i:Nat) (y:D),fr.clean=⟨26,[x,aR fr 1,aR fr 2,y,.nul,aR fr 5,aR fr 6,aR fr 7,aR fr 8,aR fr 9,x,.int .i64 (l.length:Nat),.int .i64 (i:Nat),aR fr 13,aR fr 14,aR fr 15,aR fr 16,aR fr 17,aR fr 18,aR fr 19,aR fr 20,aR fr 21,aR fr 22,aR fr 23,aR fr 24,aR fr 25],[]⟩∧Has s0.bs.length S st [.aB y 2 (((l.take i).flatMap dU).map av)]∧(i+mm=l.length)∧((l.take i).flatMap dU=[]→y=.nul)) (l.length) ?_ ?_
 ·exact⟨0,.nul,rfl,hH,by omega,fun _=>rfl⟩
 rintro mm fr st ⟨i,y,hfr,hH,hi,Lf⟩;rw[hfr];clear hfr;generalize aR fr=ee;clear fr;refine zQ 4 ?_;have hm:=hfi i;refine qq<|zP (fun h1=>?_) fun h1=>?_
 ·refine zQ 1 ?_
  obtain⟨q,hq⟩:∃q,l[i]?=some q:=⟨l[i]'(by omega),List.getElem?_eq_getElem _⟩
  have hr:=fY hq
  have Ci:(l.take (i+1)).flatMap dU=(l.take i).flatMap dU++dU q:=by
   rw[List.take_add_one,hq];simp
  have Ni:=rO q;refine zQ 4 ?_;refine qr fun TW NA=>?_;refine ae.cA rfl (ev rfl) (by assumption) rfl (by dsimp only[Fr.put,u1,u2]<;>rfl) ?_;refine qa hH fun k6 st J' hH=>?_;refine qS hH aG fun st hH=>?_;dsimp only[u2,u1,u3,u4,setMany,u5,u6,D.cells,Nat.reduceAdd,av] at hH;refine zQ 3 ?_;refine ae.aN (m:=2) hH rfl (ev rfl) (by exact aG) (by dsimp only[List.drop_succ_cons,List.drop_zero,List.take_succ_cons,List.take_zero,av]<;>rfl) rfl rfl (by dsimp only[Fr.put,u1,u2]<;>rfl) ?_;refine qv (E5 q) ?_;refine ae.GJ hH rfl rfl rfl (by exact aV) (cE _ _) rfl rfl rfl rfl rfl rfl rfl ⟨(Nat.le_of_ble_eq_true rfl),(Nat.le_of_ble_eq_true rfl)⟩ (fun _=>by dsimp only[Fr.put,u1,u2]<;>rfl) (by simp only[List.length_map];omega) (.inl hF) (fun Mt st NI hH=>?_);dsimp only[u2,u1] at hH;refine zQ 6 ?_;exact⟨mm-1,by omega,⟨i+1,Mt,rfl,(by rw[Ci,List.map_append];exact hH.drop 1),by omega,by rw[Ci];intro h;obtain⟨h3,h4⟩:=List.append_eq_nil_iff.1 h;rw[NI (by rw[h4];rfl)];exact Lf h3⟩⟩
 ·refine zQ 1 ?_;have hT:l.take i=l:=List.take_of_length_le (by omega);rw[hT] at hH Lf hm
  obtain⟨st2,all,aC,wW,hperm,mL⟩:=GG hH aG Lf (by omega) (fun z hz=>by
   obtain⟨w,_,hw⟩:=List.mem_flatMap.1 hz
   exact C7 w z hw)
  have hlen:=hperm.length_eq
  have hbd:∀z∈all,0≤z.2∧z.2≤1114111:=fun z hz=>by
   obtain⟨w,_,hw⟩:=List.mem_flatMap.1 (hperm.mem_iff.1 hz);have:=oI w z hw;omega
  refine zQ 3 ?_;refine qv (aC) ?_;refine zQ 1 ?_;have hH:=wW;dsimp only[u2] at hH;clear wW aC;have hR:=hH.rows aG;have hH:=hH.eC 2;refine zQ 4 ?_;refine qn ?_ (hR:=hH.rows aV);simp only[List.length_map];refine zQ 3 ?_;refine ai.loop (fun mm fr st=>∃(i:Nat) (z:D),fr.clean=⟨26,[x,aR fr 1,aR fr 2,y,z,aR fr 5,aR fr 6,aR fr 7,aR fr 8,aR fr 9,aR fr 10,aR fr 11,aR fr 12,aR fr 13,aR fr 14,aR fr 15,aR fr 16,aR fr 17,aR fr 18,aR fr 19,aR fr 20,aR fr 21,aR fr 22,y,.int .i64 (all.length:Nat),.int .i64 (i:Nat)],[]⟩∧Has s0.bs.length S st [.aB z 2 (((all.take i).foldl dD []).reverse.map av),.aB y 2 (all.map av)]∧(i+mm=all.length)) (all.length) ?_ ?_
  ·exact⟨0,.nul,rfl,hH,by omega⟩
  rintro mm fr st ⟨i,z,hfr,hH,hi⟩;rw[hfr];clear hfr;generalize aR fr=ee;clear fr;refine zQ 4 ?_
  have hjl:((all.take i).foldl dD []).length≤all.length:=by
   have:=sH (all.take i);simp only[List.length_take] at this;omega
  refine qq<|zP (fun h1=>?_) fun h1=>?_
  ·refine zQ 1 ?_
   obtain⟨q,hq⟩:∃q,all[i]?=some q:=⟨all[i]'(by omega),List.getElem?_eq_getElem _⟩
   have hr:=fY hq
   have Lo:(all.take (i+1)).foldl dD []=dD ((all.take i).foldl dD []) q:=by
    rw[List.take_add_one,hq,List.foldl_append];rfl
   generalize Ja:(all.take i).foldl dD []=acc at*;refine zQ 4 ?_;refine qi hH aV fun TR Nu=>?_;refine ae.r_ hH rfl (ev rfl) (by assumption) (by exact aV) (by assumption) rfl (aa rfl _) ?_;refine qa hH fun k8 st Rf hH=>?_;refine qS hH aG fun st hH=>?_;dsimp only[u2,u1,u3,u4,setMany,u5,u6,D.cells,Nat.reduceAdd,av] at hH;refine zQ 1 ?_
   rcases acc with _|⟨h,t⟩
   ·refine zQ 3 ?_;refine qn ?_ (hR:=hH.rows aV);simp only[List.length_map,List.length_nil,List.length_reverse];refine ae.mQ (z:=(-1)) rfl (ev rfl) (ev rfl) (by(try simp only[List.length_reverse,List.length_cons,List.length_nil,List.length_append,List.length_map,List.length_set]);rw[wrap_i64 (by omega) (by omega)]<;>omega) (aa rfl _) ?_;refine zQ 2 ?_;have bN:decide ((-1:Int)≥0)=false:=by decide
    refine qq<|ai.mC 44 (.bool false) [] ?_ (fun ff tmp fv=>?_)
    ·refine zQ 13 ?_;refine ae.nil (c_ ?_ ?_)
     ·dsimp only[bk,List.foldl,nth,u2,u1]
      all_goals(first|rfl|simp)
     ·dsimp only[Fr.gL,Fr.put,Fr.clean,Fr.ev,Fr.get,nth,look,u1,u2,v1,v2,v4]
      all_goals(first|rfl|(simp[bN];done)|(simp_all;done)|(simp[bN];omega)|(simp_all;omega))
    dsimp only[bk,List.foldl,nth,u2,u1];dsimp only[Fr.gL,Fr.put,Fr.clean,Fr.ev,Fr.get,nth,look,u1,u2,v1,v2,v4];refine zQ 3 ?_;refine ae.aN (m:=2) hH rfl (ev rfl) (by exact aG) (by dsimp only[List.drop_succ_cons,List.drop_zero,List.take_succ_cons,List.take_zero,av]<;>rfl) rfl rfl (aa rfl _) ?_;refine qh (s:=2) (vs:=[_]) hH fun k59 st Rj hH=>?_;refine ae.ew (s:=2) hH rfl (ev rfl) (ev rfl) (by exact bE) (by exact hH.rows (by exact aG)) rfl rfl rfl rfl rfl rfl rfl ⟨(Nat.le_of_ble_eq_true rfl),(Nat.le_of_ble_eq_true rfl)⟩ (fun _=>(aa rfl _)) (by simp only[List.length_cons,List.length_nil,List.length_map,List.length_reverse]<;>omega) (by exact .inl hF) (fun PC st hH=>?_);dsimp only[u2,u1,u3,u4,setMany,u5,u6,D.cells,Nat.reduceAdd,av] at hH;refine zQ 6 ?_;exact⟨mm-1,by omega,⟨i+1,PC,rfl,(by rw[Lo];exact hH.drop 2),by omega⟩⟩
   ·simp only[List.length_cons] at hjl;refine zQ 3 ?_;refine qn ?_ (hR:=hH.rows aV);simp only[List.length_map,List.length_cons,List.length_reverse];refine ae.mQ (z:=((t.length:Nat):Int)) rfl (ev rfl) (ev rfl) (by(try simp only[List.length_reverse,List.length_cons,List.length_nil,List.length_append,List.length_map,List.length_set]);rw[wrap_i64 (by omega) (by omega)]<;>omega) (aa rfl _) ?_;refine zQ 2 ?_;have Ck:=FZ h t;have gw:=FY h (h.1,max h.2 q.2) t;have DR:=ID (l:=all.take i) (fun x hx=>hbd x (List.mem_of_mem_take hx)) h (by rw[Ja];exact List.mem_cons_self ..);have bN:decide (((t.length:Nat):Int)≥0)=true:=by rw[decide_eq_true];omega
    refine qq<|ai.mC 44 (.bool (decide (q.1≤h.2+1))) [] ?_ (fun ff tmp fv=>?_)
    ·refine zQ 7 ?_;refine qi hH aV (fun U_ QS=>?_) (hg:=wi bN);refine ae.eu (fo:=1) (m:=0) (o2:=1) (aj rfl rfl rfl bN) (ev rfl) (by assumption) rfl rfl rfl (fun _=>(aa rfl _)) (fun U9 QR=>?_);refine zQ 1 ?_;refine ae.Hv (aj rfl rfl rfl bN) (ev rfl) (ev rfl) (by omega) (by omega) (aa rfl _) ?_;refine zQ 2 ?_;refine ae.nil (c_ ?_ ?_)
     ·dsimp only[bk,List.foldl,nth,u2,u1]
      all_goals(first|rfl|simp)
     ·dsimp only[Fr.gL,Fr.put,Fr.clean,Fr.ev,Fr.get,nth,look,u1,u2,v1,v2,v4]
      all_goals(first|rfl|(simp[bN];done)|(simp_all;done)|(simp[bN];omega)|(simp_all;omega))
    dsimp only[bk,List.foldl,nth,u2,u1];dsimp only[Fr.gL,Fr.put,Fr.clean,Fr.ev,Fr.get,nth,look,u1,u2,v1,v2,v4];refine ai.cond (by assumption) (fun h2=>?_) (fun h2=>?_)<;>try simp only[decide_eq_true_eq,decide_eq_false_iff_not] at h2
    ·refine zQ 5 ?_;refine qi hH aV fun PW K9=>?_;refine ae.eu (fo:=1) (m:=0) (o2:=1) rfl (ev rfl) (by assumption) rfl rfl rfl (fun _=>(aa rfl _)) (fun U7 QP=>?_);refine zQ 3 ?_;refine ae.Iz (t1:=0) (t2:=0) rfl (ev rfl) (ev rfl) (aa rfl _) ?_;refine qi hH aV fun X_ V_=>?_;refine ae.eu (fo:=1) (m:=0) (o2:=1) rfl (ev rfl) (by assumption) rfl rfl rfl (fun _=>(aa rfl _)) (fun X9 V9=>?_);refine ae.mV hH rfl (ev rfl) (ev rfl) (by assumption) rfl rfl (by exact aV) (by assumption) (Nat.le_of_ble_eq_true rfl) (by exact .inl hF) (fun st hH=>?_);dsimp only[u2,u1,u3,u4,setMany,u5,u6,D.cells,Nat.reduceAdd,av] at hH;refine zQ 5 ?_;exact⟨mm-1,by omega,⟨i+1,z,rfl,(by rw[Lo];simp only[dD,if_pos h2];rw[←gw];exact hH.drop 1),by omega⟩⟩
    ·refine zQ 2 ?_;refine ae.aN (m:=2) hH rfl (ev rfl) (by exact aG) (by dsimp only[List.drop_succ_cons,List.drop_zero,List.take_succ_cons,List.take_zero,av]<;>rfl) rfl rfl (aa rfl _) ?_;refine qh (s:=2) (vs:=[_]) hH fun k59 st Rj hH=>?_;refine ae.ew (s:=2) hH rfl (ev rfl) (ev rfl) (by exact bE) (by exact hH.rows (by exact aG)) rfl rfl rfl rfl rfl rfl rfl ⟨(Nat.le_of_ble_eq_true rfl),(Nat.le_of_ble_eq_true rfl)⟩ (fun _=>(aa rfl _)) (by simp only[List.length_cons,List.length_nil,List.length_map,List.length_reverse]<;>omega) (by exact .inl hF) (fun PC st hH=>?_);dsimp only[u2,u1,u3,u4,setMany,u5,u6,D.cells,Nat.reduceAdd,av] at hH;refine zQ 6 ?_;exact⟨mm-1,by omega,⟨i+1,PC,rfl,(by rw[Lo];simp only[dD,if_neg h2];rw[List.reverse_cons (a:=q),List.map_append];exact hH.drop 2),by omega⟩⟩
  ·refine zQ 6 ?_;rw[List.take_of_length_le (by omega)] at hH;refine ai.ret ⟨rx,_,_,rfl,rl aU hH ((hH.freeze aG (fX _) (n:=15) (by decide))),?_⟩;exact⟨all,by rw[gK],hperm,mL⟩
def jO (fr:Go.V.Fr) (k:Nat):Go.V.D:=Go.V.nth .bf fr.loc k
def fW (l a:List Rg):Prop:=canon a∧∀r,gj a r↔na r∧gj l r
theorem fW.unique {l a b:List Rg} (h:fW l a) (g:fW l b):a=b:=oo h.1 g.1 fun r=>(h.2 r).trans (g.2 r).symm
noncomputable def gH (l:List Rg):Bool:=@decide (fW l l) (Classical.propDecidable _)
theorem C_ {l a:List Rg} (h:fW l a):gH l=decide (l=a):=by
 unfold gH
 by_cases hl:l=a
 ·rw[decide_eq_true hl];exact@decide_eq_true _ (Classical.propDecidable _) (by rw[hl] at h⊢;exact h)
 ·rw[decide_eq_false hl];exact@decide_eq_false _ (Classical.propDecidable _) (fun g=>hl (g.unique h))
theorem uJ (p q:Rg):gW pv .neq 84 (.agg (av p)) (.agg (av q))=some (.bool (!decide (p=q))):=by
 have h:∀a b a' b':Int,gW pv .neq 84 (.agg [.int .i32 a,.int .i32 b]) (.agg [.int .i32 a',.int .i32 b'])=Option.map (fun b=>D.bool !b) (match some (a==a') with|some true=>(match some (b==b') with|some true=>some true|some false=>some false|none=>none)|some false=>some false|none=>none):=fun _ _ _ _=>rfl;obtain⟨a,b⟩:=p;obtain⟨a',b'⟩:=q;simp only[av,h]
 by_cases h1:a=a'
 ·subst h1
  by_cases h2:b=b'
  ·subst h2;simp
  ·have:(b==b')=false:=by simpa using h2
   simp[this,h2]
 ·have:(a==a')=false:=by simpa using h1
  simp[this,h1]
theorem kh {α:Type} {a b:List α} {i:Nat} {x y:α} (ha:a[i]?=some x) (hb:b[i]?=some y) (h:a.take i=b.take i) (IK:x=y):a.take (i+1)=b.take (i+1):=by
 rw[List.take_add_one,List.take_add_one,h,ha,hb,IK]
theorem oS {α:Type} {a b:List α} {i:Nat} {x y:α} (ha:a[i]?=some x) (hb:b[i]?=some y) (IK:¬x=y):¬a=b:=by
 intro h;subst h;rw[ha] at hb;exact IK (Option.some.inj hb)
theorem y_ {s0:St} {x y:D} {l m:List Rg} (hx:V.Rows s0 2 x (l.map av)) (hy:V.Rows s0 2 y (m.map av)) (hl:l.length≤1073741824) (hm:m.length≤1073741824):Ev pv 105 [x,y] s0 (.bool (decide (l=m))) s0:=by
 refine Ev.iZ rfl OC rfl rfl rfl ?_;refine zE ?_;obtain⟨aU,hF,hH⟩:=ri s0;generalize ag .ro s0=S at*;have hx:=Arg.of hx aU;have hy:=Arg.of hy aU;refine zQ 8 ?_;refine qn ?_;simp only[List.length_map];refine qm ?_;refine qn ?_;simp only[List.length_map];refine zQ 2 ?_
 by_cases hlen:l.length=m.length
 ·refine ai.cond (v:=false) ?_ (fun h=>by cases h) (fun _=>?_)
  ·dsimp only[Fr.ev,Fr.get,nth,V.look];rw[hlen];simp
  refine zQ 5 ?_;refine qn ?_;simp only[List.length_map];refine zQ 3 ?_;refine ai.loop (fun mm fr st=>∃(i:Nat),fr.clean=⟨14,[x,y,jO fr 2,jO fr 3,.bool false,jO fr 5,jO fr 6,jO fr 7,jO fr 8,jO fr 9,jO fr 10,jO fr 11,.int .i64 (l.length:Nat),.int .i64 (i:Nat)],[]⟩∧Has s0.bs.length S st []∧(i+mm=l.length)∧(l.take i=m.take i)) (l.length) ?_ ?_
  ·exact⟨0,rfl,hH,by omega,rfl⟩
  rintro mm fr st ⟨i,hfr,hH,hi,ht⟩;rw[hfr];clear hfr;generalize jO fr=ee;clear fr;refine zQ 5 ?_;refine zP (fun h1=>?_) fun h1=>?_
  ·refine zQ 1 ?_
   obtain⟨p,hp⟩:∃p,l[i]?=some p:=⟨l[i]'(by omega),List.getElem?_eq_getElem _⟩
   obtain⟨q,hq⟩:∃q,m[i]?=some q:=⟨m[i]'(by omega),List.getElem?_eq_getElem _⟩
   have gr:=fY hp;have qK:=fY hq;refine zQ 11 ?_;refine qr fun TV Nz=>?_;refine ae.cA rfl (ev rfl) (by assumption) rfl (aa rfl _) ?_;refine zQ 2 ?_;refine qr fun TT Nw=>?_;refine ae.cA rfl (ev rfl) (by assumption) rfl (aa rfl _) ?_;refine ae.P9 rfl (ev rfl) (ev rfl) (uJ p q) (aa rfl _) ?_;refine zQ 1 ?_;refine ai.cond (by rfl) (fun h2=>?_) (fun h2=>?_)<;>try simp only[decide_eq_true_eq,decide_eq_false_iff_not,Bool.not_eq_true',Bool.not_eq_false'] at h2
   ·refine zQ 4 ?_;rw[decide_eq_false (oS hp hq (by simpa using h2))];refine ai.ret ⟨rx,_,rfl,rl aU hH (rfl)⟩
   ·refine zQ 5 ?_;exact⟨mm-1,by omega,⟨i+1,rfl,hH,by omega,kh hp hq ht (by simpa using h2)⟩⟩
  ·refine zQ 5 ?_;rw[decide_eq_true (by rw[List.take_of_length_le (by omega),List.take_of_length_le (by omega)] at ht;exact ht)];refine ai.ret ⟨rx,_,rfl,rl aU hH (rfl)⟩
 ·refine ai.cond (v:=true) ?_ (fun _=>?_) (fun h=>by cases h)
  ·dsimp only[Fr.ev,Fr.get,nth,V.look];simp;omega
  refine zQ 4 ?_;rw[decide_eq_false (fun h=>hlen (by rw[h]))];refine ai.ret ⟨rx,_,rfl,rl aU hH (rfl)⟩
theorem Fb {s0:St} {x:D} {l:List Rg} (hx:V.Rows s0 2 x (l.map av)) (hl:l.length≤1048576):Ev pv 89 [x] s0 (.bool (gH l)) s0:=by
 refine Ev.iZ rfl Sa rfl rfl rfl ?_;refine zE ?_;obtain⟨aU,hF,hH⟩:=ri s0;generalize ag .ro s0=S at*;have hx:=Arg.of hx aU;refine zQ 4 ?_;obtain⟨_,aC,all,rfl,hperm,mL⟩:=wx (hx.rows hH) (by omega);have hM:fW l (all.foldl dD []).reverse:=mY (fun x=>hperm.mem_iff) mL;have hlen:=hperm.length_eq;have jc:=jE l;have hjl:=sH all;rw[C_ hM];refine zQ 4 ?_;refine qv (aC) ?_;refine qv (y_ (hx.rows hH) (cE _ _) (by omega) (by rw[List.length_reverse];omega)) ?_;refine zQ 2 ?_;refine ai.ret ⟨rx,_,rfl,rl aU hH (rfl)⟩
structure aK where
 op:Int
 x:Int
 y:Int
 rd:D
 rs:List Rg
def aX (i:aK):List D:=[.int .i64 i.op,.int .i64 i.x,.int .i64 i.y,i.rd]
def aK.ok (i:aK):Prop:=gY i.rd 2 (i.rs.map av)∧i.rs.length≤1048576
def ay (n:Int):List D:=[.int .i64 n]
structure Pg where
 cd:D
 code:List aK
 sd:D
 aF:List Int
structure Pg.ok (p:Pg):Prop where
 c:gY p.cd 4 (p.code.map aX)
 s:gY p.sd 1 (p.aF.map ay)
 i:∀x∈p.code,x.ok
 cl:p.code.length≤1048576
 sl:p.aF.length≤1048576
def Pg.cs (p:Pg):List D:=[p.cd,p.sd]
def Pg.d (p:Pg):D:=.agg p.cs
theorem mo {l:List aK} {i:Nat} {q:aK} (h:l[i]?=some q):(l.map aX)[i]?=some (aX q):=by rw[List.getElem?_map,h];rfl
theorem hD {l:List Int} {i:Nat} {q:Int} (h:l[i]?=some q):(l.map ay)[i]?=some (ay q):=by rw[List.getElem?_map,h];rfl
def DF (v n:Int):Bool:=decide (v≥0) &&decide (v<n)
noncomputable def jr (n ns pc:Nat) (i:aK):Bool:=
 if i.op=1 then i.y==0 &&(decide (((pc+1:Nat):Int)<n) &&i.x==0 &&gH i.rs)
 else i.rs.isEmpty &&
  (if i.op=2 then DF i.x n &&DF i.y n
  else i.y==0 &&
   (if i.op=3 then DF i.x n
   else if i.op=4 then decide (((pc+1:Nat):Int)<n) &&DF i.x 10
   else if i.op=5∨i.op=6 then decide (((pc+1:Nat):Int)<n) &&i.x==0
   else if i.op=7 then DF i.x ns
   else false))
def cy (c:Nat):Int×Nat×Nat:=
 if c<128 then(0,0,0) else if c<194 then(-1,0,0) else if c<224 then(1,128,191) else if c=224 then(2,160,191) else if c=237 then(2,128,159)
 else if c<240 then(2,128,191) else if c=240 then(3,144,191) else if c<244 then(3,128,191) else if c=244 then(3,128,143) else(-1,0,0)
theorem Iy (c:Nat) (st:St):Ev pv 72 [.int .u8 c] st (.tup [.int .i64 (cy c).1,.int .u8 (cy c).2.1,.int .u8 (cy c).2.2]) st:=by
 refine Ev.iZ rfl Sr rfl rfl rfl ?_;refine zE ?_;refine zR ?_;refine ai.seq (ai.block ?_);refine zR ?_;(repeat refine qq ?_);refine qc (fun h1=>?_) (fun h1=>?_)<;>try simp only[cs] at h1
 ·refine zR ?_;refine ai.ret ⟨rx,_,rfl,bz (by simp) (by simp[ag]) ?_⟩;rw[show cy c=(0,0,0) by unfold cy;rw[if_pos (by omega)]];rfl
 refine zR ?_;(repeat refine qq ?_);refine qc (fun h2=>?_) (fun h2=>?_)<;>try simp only[cs] at h2
 ·refine zR ?_;refine ai.ret ⟨rx,_,rfl,bz (by simp) (by simp[ag]) ?_⟩;rw[show cy c=(-1,0,0) by unfold cy;rw[if_neg (by omega),if_pos (by omega)]];rfl
 refine zR ?_;(repeat refine qq ?_);refine qc (fun h3=>?_) (fun h3=>?_)<;>try simp only[cs] at h3
 ·refine zR ?_;refine ai.ret ⟨rx,_,rfl,bz (by simp) (by simp[ag]) ?_⟩;rw[show cy c=(1,128,191) by unfold cy;rw[if_neg (by omega),if_neg (by omega),if_pos (by omega)]];rfl
 refine zR ?_;(repeat refine qq ?_);refine qc (fun h4=>?_) (fun h4=>?_)<;>try simp only[cs] at h4
 ·refine zR ?_;refine ai.ret ⟨rx,_,rfl,bz (by simp) (by simp[ag]) ?_⟩;rw[show cy c=(2,160,191) by unfold cy;rw[if_neg (by omega),if_neg (by omega),if_neg (by omega),if_pos (by omega)]];rfl
 refine zR ?_;(repeat refine qq ?_);refine qc (fun h5=>?_) (fun h5=>?_)<;>try simp only[cs] at h5
 ·refine zR ?_;refine ai.ret ⟨rx,_,rfl,bz (by simp) (by simp[ag]) ?_⟩;rw[show cy c=(2,128,159) by unfold cy;rw[if_neg (by omega),if_neg (by omega),if_neg (by omega),if_neg (by omega),if_pos (by omega)]];rfl
 refine zR ?_;(repeat refine qq ?_);refine qc (fun h6=>?_) (fun h6=>?_)<;>try simp only[cs] at h6
 ·refine zR ?_;refine ai.ret ⟨rx,_,rfl,bz (by simp) (by simp[ag]) ?_⟩;rw[show cy c=(2,128,191) by unfold cy;rw[if_neg (by omega),if_neg (by omega),if_neg (by omega),if_neg (by omega),if_neg (by omega),if_pos (by omega)]];rfl
 refine zR ?_;(repeat refine qq ?_);refine qc (fun h7=>?_) (fun h7=>?_)<;>try simp only[cs] at h7
 ·refine zR ?_;refine ai.ret ⟨rx,_,rfl,bz (by simp) (by simp[ag]) ?_⟩;rw[show cy c=(3,144,191) by unfold cy;rw[if_neg (by omega),if_neg (by omega),if_neg (by omega),if_neg (by omega),if_neg (by omega),if_neg (by omega),if_pos (by omega)]];rfl
 refine zR ?_;(repeat refine qq ?_);refine qc (fun h8=>?_) (fun h8=>?_)<;>try simp only[cs] at h8
 ·refine zR ?_;refine ai.ret ⟨rx,_,rfl,bz (by simp) (by simp[ag]) ?_⟩;rw[show cy c=(3,128,191) by unfold cy;rw[if_neg (by omega),if_neg (by omega),if_neg (by omega),if_neg (by omega),if_neg (by omega),if_neg (by omega),if_neg (by omega),if_pos (by omega)]];rfl
 refine zR ?_;(repeat refine qq ?_);refine qc (fun h9=>?_) (fun h9=>?_)<;>try simp only[cs] at h9
 ·refine zR ?_;refine ai.ret ⟨rx,_,rfl,bz (by simp) (by simp[ag]) ?_⟩;rw[show cy c=(3,128,143) by unfold cy;rw[if_neg (by omega),if_neg (by omega),if_neg (by omega),if_neg (by omega),if_neg (by omega),if_neg (by omega),if_neg (by omega),if_neg (by omega),if_pos (by omega)]];rfl
 refine ai.skip<|zR ?_;refine ai.ret ⟨rx,_,rfl,bz (by simp) (by simp[ag]) ?_⟩;rw[show cy c=(-1,0,0) by unfold cy;rw[if_neg (by omega),if_neg (by omega),if_neg (by omega),if_neg (by omega),if_neg (by omega),if_neg (by omega),if_neg (by omega),if_neg (by omega),if_neg (by omega)]];rfl
def j4:(left n r lo hi:Nat)→List UInt8→Nat×Nat×Bool
 |0,n,r,_,_,_=>(r,n,false)
 |left+1,n,r,lo,hi,[]=>(0,0,true)
 |left+1,n,r,lo,hi,x::xs=>if x.toNat<lo∨hi<x.toNat then(0,0,false) else j4 left n (r*64+x.toNat %64) 128 191 xs
def jg:List UInt8→Nat×Nat×Bool
 |[]=>(0,0,false)
 |c::xs=>if(cy c.toNat).1<0 then(0,0,false)
   else j4 (cy c.toNat).1.toNat ((cy c.toNat).1.toNat+1) (if(cy c.toNat).1>0 then c.toNat %(64/2^(cy c.toNat).1.toNat) else c.toNat) (cy c.toNat).2.1 (cy c.toNat).2.2 xs
theorem yp (c:Nat):(cy c).1=-1∨(cy c).1=0∨(cy c).1=1∨(cy c).1=2∨(cy c).1=3:=by
 unfold cy
 repeat' split
 all_goals simp
theorem CL {w a j:Nat} (ha:a<2^w) (hj:2^j-1<2^w):(BitVec.ofInt w (a:Int) &&&BitVec.ofInt w ((2^j-1:Nat):Int)).toNat=a %2^j:=by
 rw[bv_and ha hj,Nat.and_two_pow_sub_one_eq_mod]
theorem aI (b:List UInt8):(V.byteCells b).length=b.length:=by simp[V.byteCells]
theorem ub {b:List UInt8} {i:Nat} {y:UInt8} (h:b[i]?=some y):(V.byteCells b)[i]?=some [.int .u8 (y.toNat:Nat)]:=by
 simp[V.byteCells,h]
theorem JO (y:UInt8):y.toNat<256:=y.toNat_lt
theorem PH {r y:Nat} (hr:r<33554432) (hy:y<256):aW .i32 ((BitVec.ofInt 32 (aW .i32 ((r:Int)*2^(min (Int.toNat 6) 32)))|||BitVec.ofInt 32 (aW .i32 (aW .u8 ((BitVec.ofInt 8 (y:Int) &&&BitVec.ofInt 8 63).toNat:Nat)))).toNat:Nat)=((r*64+y %64:Nat):Int):=by
 have h1:(BitVec.ofInt 8 (y:Int) &&&BitVec.ofInt 8 63).toNat=y %64:=CL (w:=8) (j:=6) hy (by decide);rw[h1]
 have h2:((r:Int)*2^(min (Int.toNat 6) 32))=((r*64:Nat):Int):=by
  have:(2:Int)^(min (Int.toNat 6) 32)=64:=by decide
  rw[this];simp
 rw[h2,bH (k:=.i32) (m:=r*64) (by simp only[gv];omega),bH (k:=.u8) (m:=y %64) (by simp only[gv];omega),bH (k:=.i32) (m:=y %64) (by simp only[gv];omega)];rw[OT (by omega) (by omega)]
 have h3:(r*64)|||(y %64)=r*64+y %64:=by
  have:=Nat.two_pow_add_eq_or_of_lt (i:=6) (b:=y %64) (by omega) r;have e:(2:Nat)^6=64:=by decide
  rw[e] at this;rw[Nat.mul_comm r 64,this]
 rw[h3,bH (k:=.i32) (m:=r*64+y %64) (by simp only[gv];omega)]
theorem M3 {c j:Nat} (hc:c<256) (hj:j≤8) {m:Int} (hm:m=((2^j-1:Nat):Int)):aW .i32 ((BitVec.ofInt 32 (aW .i32 (c:Nat)) &&&BitVec.ofInt 32 m).toNat:Nat)=((c %2^j:Nat):Int):=by
 have h1:2^j≤2^8:=Nat.pow_le_pow_right (by omega) hj;rw[hm,bH (k:=.i32) (m:=c) (by simp only[gv];omega),CL (w:=32) (by omega) (by omega)];have:c %2^j≤c:=Nat.mod_le _ _;rw[bH (k:=.i32) (by simp only[gv];omega)]
theorem mask {c j:Nat} (hc:c<256) (hj:j≤8) {m:Int} (hm:m=((2^j-1:Nat):Int)):aW .i32 ((BitVec.ofInt IntKind.i32.bits (aW .i32 (c:Nat)) &&&BitVec.ofInt IntKind.i32.bits m).toNat:Nat)=((c %2^j:Nat):Int):=M3 hc hj hm
theorem UX {r y:Nat} (hr:r<33554432) (hy:y<256):aW .i32 ((BitVec.ofInt IntKind.i32.bits (aW .i32 ((r:Int)*2^(min (Int.toNat 6) IntKind.i32.bits)))|||BitVec.ofInt IntKind.i32.bits (aW .i32 (aW .u8 ((BitVec.ofInt IntKind.u8.bits (y:Int) &&&BitVec.ofInt IntKind.u8.bits 63).toNat:Nat)))).toNat:Nat)=((r*64+y %64:Nat):Int):=PH hr hy
theorem GQ {st:St} {x:D} {b:List UInt8} (hb:Bytes st x b):Ev pv 59 [x] st (.tup [.int .i32 ((jg b).1:Nat),.int .i64 ((jg b).2.1:Nat),.bool (jg b).2.2]) st:=by
 refine Ev.iZ rfl SC rfl rfl rfl ?_;refine zE ?_;have eH:=hb.enter .ro;(try refine qy ?_);(repeat refine qq ?_);(try generalize hK:bn _ _ _ _=K);refine ai.dP ?_;(repeat(first|refine xT ?_|refine xL ?_|refine xN ?_|refine xo ?_|refine xp ?_));refine ae.nil ?_;(try refine zF ?_);(try subst hK);(try refine qy ?_);(repeat refine qq ?_);(try generalize hK:bn _ _ _ _=K);refine ai.dP ?_
 (first|refine xT ?_|refine xL ?_|refine xN ?_|refine xo ?_|refine xp ?_)
 refine ae.len rfl rfl rfl eH rfl ?_;(repeat(first|refine xT ?_|refine xL ?_|refine xN ?_|refine xo ?_|refine xp ?_));refine ae.nil ?_;(try refine zF ?_);(try subst hK);(try refine qy ?_);(repeat refine qq ?_);refine qc (fun h1=>?_) (fun h1=>?_)<;>try simp only[cs] at h1
 ·(try refine qy ?_);(repeat refine qq ?_);(try generalize hK:bn _ _ _ _=K);refine ai.dP ?_;(repeat(first|refine xT ?_|refine xL ?_|refine xN ?_|refine xo ?_|refine xp ?_));refine ae.nil ?_;(try refine zF ?_);(try subst hK);(try refine qy ?_);refine ai.ret ⟨rx,_,rfl,bz (by simp) (by simp[ag]) ?_⟩
  obtain rfl:b=[]:=by cases b with|nil=>rfl|cons c b=>simp[V.byteCells] at h1;omega
  rfl
 refine ai.skip ?_
 obtain⟨c,xs,rfl⟩:∃c xs,b=c::xs:=by cases b with|nil=>simp[V.byteCells] at h1|cons c b=>exact⟨c,b,rfl⟩
 obtain⟨k,lo,hi,hm⟩:∃k lo hi,cy c.toNat=(k,lo,hi):=⟨_,_,_,rfl⟩
 have Q4:=Iy c.toNat (ag .ro st);rw[hm] at Q4;have hk:=yp c.toNat;rw[hm] at hk;have hc:=JO c;(try refine qy ?_);(repeat refine qq ?_);(try generalize hK:bn _ _ _ _=K);refine ai.dP ?_
 (first|refine xT ?_|refine xL ?_|refine xN ?_|refine xo ?_|refine xp ?_)
 refine ae.jx rfl rfl rfl (fun _=>rfl) rfl rfl eH rfl rfl (by omega) rfl rfl (fun p=>?_);refine ae.Kg rfl rfl rfl Q4 ?_;(repeat(first|refine xT ?_|refine xL ?_|refine xN ?_|refine xo ?_|refine xp ?_));refine ae.nil ?_;(try refine zF ?_);(try subst hK);(try refine qy ?_);(repeat refine qq ?_);(try generalize hK:bn _ _ _ _=K);refine ai.dP ?_;(repeat(first|refine xT ?_|refine xL ?_|refine xN ?_|refine xo ?_|refine xp ?_));refine ae.nil ?_;(try refine zF ?_);(try subst hK);(try refine qy ?_);(repeat refine qq ?_);refine qc (fun h2=>?_) (fun h2=>?_)<;>try simp only[cs] at h2
 ·(try refine qy ?_);(repeat refine qq ?_);(try generalize hK:bn _ _ _ _=K);refine ai.dP ?_;(repeat(first|refine xT ?_|refine xL ?_|refine xN ?_|refine xo ?_|refine xp ?_));refine ae.nil ?_;(try refine zF ?_);(try subst hK);(try refine qy ?_);refine ai.ret ⟨rx,_,rfl,bz (by simp) (by simp[ag]) ?_⟩;simp only[jg,hm];rw[if_pos h2];rfl
 refine ai.skip ?_;(try refine qy ?_);(repeat refine qq ?_);(try generalize hK:bn _ _ _ _=K);refine ai.dP ?_
 (first|refine xT ?_|refine xL ?_|refine xN ?_|refine xo ?_|refine xp ?_)
 refine ae.jx rfl rfl rfl (fun _=>rfl) rfl rfl eH rfl rfl (by omega) rfl rfl (fun p=>?_);(repeat(first|refine xT ?_|refine xL ?_|refine xN ?_|refine xo ?_|refine xp ?_));refine ae.nil ?_;(try refine zF ?_);(try subst hK);(try refine qy ?_);(repeat refine qq ?_);(try generalize hK:bn _ _ _ _=K);refine ai.dP ?_;(repeat(first|refine xT ?_|refine xL ?_|refine xN ?_|refine xo ?_|refine xp ?_));refine ae.nil ?_;(try refine zF ?_);(try subst hK);(try refine qy ?_);generalize hK:bn _ _ _ _=K
 have H:∀(r kn:Nat) (m:List (Nat×D)),k=(kn:Int)→r=(if k>0 then c.toNat %(64/2^k.toNat) else c.toNat)→(r+1)*64^kn≤2097152→K .next ⟨9,[x,.tup [],.int .i32 r,.int .i64 0,.bool false,.int .i64 k,.int .u8 lo,.int .u8 hi,.tup []],m⟩ (ag .ro st):=by
  intro r kn m hkn hr qK
  have hR:jg (c::xs)=j4 kn (kn+1) r lo hi xs:=by
   simp only[jg,hm];rw[if_neg h2,hr,hkn];rfl
  subst hK;rw[hR];generalize hS:j4 kn (kn+1) r lo hi xs=R at hR⊢;subst hkn;(try refine qy ?_);(repeat refine qq ?_);(try generalize hK:bn _ _ _ _=K);refine ai.dP ?_;(repeat(first|refine xT ?_|refine xL ?_|refine xN ?_|refine xo ?_|refine xp ?_));refine ae.nil ?_;(try refine zF ?_);(try subst hK);(try refine qy ?_);refine ai.block<|ai.loop (fun j fr ah=>∃(i r lo hi:Nat),fr.clean=⟨9,[x,.tup [],.int .i32 r,.int .i64 0,.bool false,.int .i64 kn,.int .u8 lo,.int .u8 hi,.int .i64 (i:Nat)],[]⟩∧ah=ag .ro st∧1≤i∧i+j=kn+1∧j4 j (kn+1) r lo hi (xs.drop (i-1))=R∧(r+1)*64^j≤2097152) kn ⟨1,r,lo,hi,rfl,rfl,by omega,by omega,hS,qK⟩ ?_;clear hr qK hS r hm Q4 m;rintro j fr ah ⟨i,r,lo,hi,hfr,rfl,Yz,hij,hS,qK⟩;rw[hfr];(try refine qy ?_);(repeat refine qq ?_);(try generalize hK:bn _ _ _ _=K);refine ai.dP ?_;(repeat(first|refine xT ?_|refine xL ?_|refine xN ?_|refine xo ?_|refine xp ?_));refine ae.nil ?_;(try refine zF ?_);(try subst hK);(try refine qy ?_);(repeat refine qq ?_);refine qc (fun h4=>?_) (fun h4=>?_)<;>try simp only[cs] at h4
  ·refine ai.skip ?_
   obtain⟨j,rfl⟩:∃j',j=j'+1:=⟨j-1,by omega⟩
   refine ai.seq (ai.block ?_);(try refine qy ?_);(repeat refine qq ?_);(try generalize hK:bn _ _ _ _=K);refine ai.dP ?_
   (first|refine xT ?_|refine xL ?_|refine xN ?_|refine xo ?_|refine xp ?_)
   (first|refine xT ?_|refine xL ?_|refine xN ?_|refine xo ?_|refine xp ?_)
   refine ae.len rfl rfl rfl eH rfl ?_;(repeat(first|refine xT ?_|refine xL ?_|refine xN ?_|refine xo ?_|refine xp ?_));refine ae.nil ?_;(try refine zF ?_);(try subst hK);(try refine qy ?_)
   have Er:(xs.drop (i-1))=[]∨∃y ys,xs.drop (i-1)=y::ys:=by
    cases xs.drop (i-1) with
    |nil=>exact .inl rfl
    |cons y ys=>exact .inr ⟨y,ys,rfl⟩
   have O6:(xs.drop (i-1)).length=xs.length-(i-1):=List.length_drop ..;have hbl:(V.byteCells (c::xs)).length=xs.length+1:=by simp[V.byteCells]
   (try refine qy ?_);(repeat refine qq ?_);refine qc (fun h5=>?_) (fun h5=>?_)<;>try simp only[cs] at h5
   ·(try refine qy ?_);(repeat refine qq ?_);(try generalize hK:bn _ _ _ _=K);refine ai.dP ?_;(repeat(first|refine xT ?_|refine xL ?_|refine xN ?_|refine xo ?_|refine xp ?_));refine ae.nil ?_;(try refine zF ?_);(try subst hK);(try refine qy ?_);refine ai.ret ⟨rx,_,rfl,bz (by simp) (by simp[ag]) ?_⟩
    rcases Er with Er|⟨y,ys,Er⟩
    ·rw[Er] at hS;simp only[j4] at hS;subst hS;rfl
    ·rw[Er] at O6;simp only[List.length_cons] at O6;omega
   refine ai.skip ?_
   rcases Er with Er|⟨y,ys,Er⟩
   ·rw[Er] at O6;simp only[List.length_nil] at O6;omega
   have hy:(c::xs)[i]?=some y:=by
    obtain⟨i,rfl⟩:∃i',i=i'+1:=⟨i-1,by omega⟩
    have:=congrArg (fun l=>l[0]?) Er
    simpa using this
   have j_:xs.drop (i+1-1)=ys:=by
    have:=congrArg (fun l=>l.drop 1) Er;simp only[List.drop_drop,List.drop_succ_cons,List.drop_zero] at this;rw[←this];congr 1;omega
   have Qf:=ub hy;have Vk:=JO y;rw[Er] at hS;simp only[j4] at hS;(try refine qy ?_);(repeat refine qq ?_);(try generalize hK:bn _ _ _ _=K);refine ai.dP ?_
   (first|refine xT ?_|refine xL ?_|refine xN ?_|refine xo ?_|refine xp ?_)
   (first|refine xT ?_|refine xL ?_|refine xN ?_|refine xo ?_|refine xp ?_)
   refine ae.jx rfl rfl rfl (fun _=>rfl) rfl rfl eH rfl rfl (by omega) Qf rfl (fun p=>?_)
   (first|refine xT ?_|refine xL ?_|refine xN ?_|refine xo ?_|refine xp ?_)
   (first|refine xT ?_|refine xL ?_|refine xN ?_|refine xo ?_|refine xp ?_)
   (first|refine xT ?_|refine xL ?_|refine xN ?_|refine xo ?_|refine xp ?_)
   by_cases AU:(y.toNat:Int)<(lo:Int)
   ·rw[decide_eq_true AU];(repeat(first|refine xT ?_|refine xL ?_|refine xN ?_|refine xo ?_|refine xp ?_));refine ae.nil ?_;(try refine zF ?_);(try subst hK);(try refine qy ?_);refine ai.cond (v:=true) rfl (fun _=>?_) (fun h=>by cases h);(try refine qy ?_);(repeat refine qq ?_);(try generalize hK:bn _ _ _ _=K);refine ai.dP ?_;(repeat(first|refine xT ?_|refine xL ?_|refine xN ?_|refine xo ?_|refine xp ?_));refine ae.nil ?_;(try refine zF ?_);(try subst hK);(try refine qy ?_);refine ai.ret ⟨rx,_,rfl,bz (by simp) (by simp[ag]) ?_⟩;rw[if_pos (.inl (by omega))] at hS;subst hS;rfl
   rw[decide_eq_false AU]
   (first|refine xT ?_|refine xL ?_|refine xN ?_|refine xo ?_|refine xp ?_)
   (first|refine xT ?_|refine xL ?_|refine xN ?_|refine xo ?_|refine xp ?_)
   refine ae.jx rfl rfl rfl (fun _=>rfl) rfl rfl eH rfl rfl (by omega) Qf rfl (fun p=>?_);(repeat(first|refine xT ?_|refine xL ?_|refine xN ?_|refine xo ?_|refine xp ?_));refine ae.nil ?_;(try refine zF ?_);(try subst hK);(try refine qy ?_);(repeat refine qq ?_);refine qc (fun h6=>?_) (fun h6=>?_)<;>try simp only[cs] at h6
   ·(try refine qy ?_);(repeat refine qq ?_);(try generalize hK:bn _ _ _ _=K);refine ai.dP ?_;(repeat(first|refine xT ?_|refine xL ?_|refine xN ?_|refine xo ?_|refine xp ?_));refine ae.nil ?_;(try refine zF ?_);(try subst hK);(try refine qy ?_);refine ai.ret ⟨rx,_,rfl,bz (by simp) (by simp[ag]) ?_⟩;rw[if_pos (.inr (by omega))] at hS;subst hS;rfl
   refine ai.skip ?_;rw[if_neg (by omega)] at hS;(try refine qy ?_);(repeat refine qq ?_);(try generalize hK:bn _ _ _ _=K);refine ai.dP ?_
   (first|refine xT ?_|refine xL ?_|refine xN ?_|refine xo ?_|refine xp ?_)
   (first|refine xT ?_|refine xL ?_|refine xN ?_|refine xo ?_|refine xp ?_)
   (first|refine xT ?_|refine xL ?_|refine xN ?_|refine xo ?_|refine xp ?_)
   (first|refine xT ?_|refine xL ?_|refine xN ?_|refine xo ?_|refine xp ?_)
   refine ae.jx rfl rfl rfl (fun _=>rfl) rfl rfl eH rfl rfl (by omega) Qf rfl (fun p=>?_);(repeat(first|refine xT ?_|refine xL ?_|refine xN ?_|refine xo ?_|refine xp ?_));refine ae.nil ?_;(try refine zF ?_);(try subst hK);(try refine qy ?_);have Pa:r+1≤(r+1)*64^(j+1):=Nat.le_mul_of_pos_right _ (Nat.pow_pos (by omega));rw[UX (by omega) Vk];(try refine qy ?_);(repeat refine qq ?_);(try generalize hK:bn _ _ _ _=K);refine ai.dP ?_;(repeat(first|refine xT ?_|refine xL ?_|refine xN ?_|refine xo ?_|refine xp ?_));refine ae.nil ?_;(try refine zF ?_);(try subst hK);(try refine qy ?_);(repeat refine qq ?_);(try generalize hK:bn _ _ _ _=K);refine ai.dP ?_;(repeat(first|refine xT ?_|refine xL ?_|refine xN ?_|refine xo ?_|refine xp ?_));refine ae.nil ?_;(try refine zF ?_);(try subst hK);(try refine qy ?_);rw[wrap_i64 (by omega) (by omega)];refine⟨j,by omega,i+1,_,_,_,rfl,rfl,by omega,by omega,by rw[j_];exact hS,?_⟩;have e1:(r*64+y.toNat %64+1)≤(r+1)*64:=by omega
   have e2:=Nat.mul_le_mul_right (64^j) e1;have e3:64*64^j=64^(j+1):=by rw[Nat.pow_succ,Nat.mul_comm]
   rw[Nat.mul_assoc,e3] at e2;omega
  ·refine ai.exit ?_;have:j=0:=by omega
   subst this;simp only[j4] at hS;subst hS;(try refine qy ?_);(repeat refine qq ?_);(try generalize hK:bn _ _ _ _=K);refine ai.dP ?_;(repeat(first|refine xT ?_|refine xL ?_|refine xN ?_|refine xo ?_|refine xp ?_));refine ae.nil ?_;(try refine zF ?_);(try subst hK);(try refine qy ?_);refine ai.ret ⟨rx,_,rfl,bz (by simp) (by simp[ag]) ?_⟩;rw[wrap_i64 (by omega) (by omega)];rfl
 rcases hk with hk|hk|hk|hk|hk
 ·omega
 ·subst hk;refine ai.cond (v:=false) rfl (fun h=>by cases h) fun _=>ai.skip ?_;rw[bH (by simp only[gv];omega)];exact H _ 0 _ rfl rfl (by omega)
 ·subst hk;refine ai.cond (v:=true) rfl (fun _=>?_) (fun h=>by cases h);refine ai.dP ?_
  (first|refine xT ?_|refine xL ?_|refine xN ?_|refine xo ?_|refine xp ?_)
  refine ae.jx rfl rfl rfl (fun _=>rfl) rfl rfl eH rfl rfl (by omega) rfl rfl (fun p=>?_);(repeat(first|refine xT ?_|refine xL ?_|refine xN ?_|refine xo ?_|refine xp ?_));refine ae.nil ?_;(try refine zF ?_);rw[mask (j:=5) hc (by omega)]
  ·exact H _ 1 _ rfl rfl (by omega)
  ·decide
 ·subst hk;refine ai.cond (v:=true) rfl (fun _=>?_) (fun h=>by cases h);refine ai.dP ?_
  (first|refine xT ?_|refine xL ?_|refine xN ?_|refine xo ?_|refine xp ?_)
  refine ae.jx rfl rfl rfl (fun _=>rfl) rfl rfl eH rfl rfl (by omega) rfl rfl (fun p=>?_);(repeat(first|refine xT ?_|refine xL ?_|refine xN ?_|refine xo ?_|refine xp ?_));refine ae.nil ?_;(try refine zF ?_);rw[mask (j:=4) hc (by omega)]
  ·exact H _ 2 _ rfl rfl (by omega)
  ·decide
 ·subst hk;refine ai.cond (v:=true) rfl (fun _=>?_) (fun h=>by cases h);refine ai.dP ?_
  (first|refine xT ?_|refine xL ?_|refine xN ?_|refine xo ?_|refine xp ?_)
  refine ae.jx rfl rfl rfl (fun _=>rfl) rfl rfl eH rfl rfl (by omega) rfl rfl (fun p=>?_);(repeat(first|refine xT ?_|refine xL ?_|refine xN ?_|refine xo ?_|refine xp ?_));refine ae.nil ?_;(try refine zF ?_);rw[mask (j:=3) hc (by omega)]
  ·exact H _ 3 _ rfl rfl (by omega)
  ·decide
def j5 (b:List UInt8):Nat×Nat:=if(jg b).2.1=0 then(65533,1) else((jg b).1,(jg b).2.1)
def El:Nat→List UInt8→List (Nat×Nat)
 |0,_=>[]
 |_+1,[]=>[]
 |n+1,b=>j5 b::El n (b.drop (j5 b).2)
def pz (b:List UInt8):List (Nat×Nat):=El b.length b
theorem nM (b:List UInt8):1≤(j5 b).2:=by
 unfold j5;split
 ·simp
 ·simp only;omega
theorem pA : ∀ (n : Nat) (b : List UInt8), b.length ≤ n → El n b = pz b
 | 0, [], _ => rfl
 | 0, _ :: _, h => by simp at h
 | n + 1, [], _ => rfl
 | n + 1, c :: b, h => by
  have hp := nM (c :: b);have h1 : ((c :: b).drop (j5 (c :: b)).2).length ≤ b.length := by rw [List.length_drop]; simp only [List.length_cons]; omega
  simp only [List.length_cons] at h;show j5 (c :: b) :: El n ((c :: b).drop _) = j5 (c :: b) :: El b.length ((c :: b).drop _);rw [pA n _ (by omega)]
  rcases Nat.lt_or_ge n b.length with h2 | h2
  ·omega
  ·rw [pA b.length _ h1]
termination_by n b => b.length
decreasing_by all_goals (simp_wf; omega)
theorem tu:pz []=[]:=rfl
theorem vF {b:List UInt8} (h:b≠[]):pz b=j5 b::pz (b.drop (j5 b).2):=by
 match b,h with
 |c::b,_=>
  show j5 (c::b)::El b.length ((c::b).drop _)=_;rw[pA];have hp:=nM (c::b);rw[List.length_drop];simp only[List.length_cons];omega
def bq (g:Nat×Nat):List D:=[.int .i32 (g.1:Nat),.int .i64 (g.2:Nat)]
def iq (l:List (Nat×Nat)):D:=.sl ((l.map bq).map (kY 2))
theorem GK {l:List (Nat×Nat)}:∀e∈l.map bq,e.length=2:=by
 intro e he;obtain⟨g,_,rfl⟩:=List.mem_map.1 he;rfl
theorem sS {l:List (Nat×Nat)}:∀e∈l.map bq,∀d∈e,b_ d=true:=by
 intro e he d hd;obtain⟨g,_,rfl⟩:=List.mem_map.1 he;simp only[bq,List.mem_cons,List.not_mem_nil,or_false] at hd
 rcases hd with rfl|rfl<;>rfl
theorem eT (st:St) (l:List (Nat×Nat)):V.Rows st 2 (iq l) (l.map bq):=Rows.sm GK sS
theorem xK:∀(left n r lo hi:Nat) (b:List UInt8),(j4 left n r lo hi b).2.1≠0→(j4 left n r lo hi b).2.1=n∧left≤b.length
 |0,n,r,lo,hi,b,h=>by simp[j4]
 |left+1,n,r,lo,hi,[],h=>by simp[j4] at h
 |left+1,n,r,lo,hi,x::xs,h=>by
  simp only[j4] at h⊢
  split at h
  ·simp at h
  ·rename_i hc;rw[if_neg hc];have:=xK left n _ _ _ xs h;exact⟨this.1,by simp;omega⟩
theorem BS {b:List UInt8} (h:b≠[]):(j5 b).2≤b.length:=by
 match b,h with
 |c::xs,_=>
  unfold j5
  split
  ·simp
  ·rename_i hz;simp only[jg] at hz⊢
   split at hz
   ·simp at hz
   ·rename_i hk;rw[if_neg hk];have:=xK _ _ _ _ _ _ hz;rw[this.1];simp;omega
theorem L7 {st:St} {x:D} {b:List UInt8} (hb:Bytes st x b) (hlen:b.length≤1048576):Ev pv 41 [x] st (iq (pz b)) st:=by
 refine Ev.iZ rfl SR rfl rfl rfl ?_;refine zE ?_;have hx:=hb.ref;(try refine qy ?_);(repeat refine qq ?_);(try generalize hK:bn _ _ _ _=K);refine ai.dP ?_;(repeat(first|refine xT ?_|refine xL ?_|refine xN ?_|refine xo ?_|refine xp ?_));refine ae.nil ?_;(try refine zF ?_);(try subst hK);(try refine qy ?_);(repeat refine qq ?_);(try generalize hK:bn _ _ _ _=K);refine ai.dP ?_;(repeat(first|refine xT ?_|refine xL ?_|refine xN ?_|refine xo ?_|refine xp ?_));refine ae.nil ?_;(try refine zF ?_);(try subst hK);(try refine qy ?_);refine ai.seq (ai.block ?_)
 refine ai.loop (fun j fr ah=>∃(y out r n:D) (b':List UInt8) (done:List (Nat×Nat)),fr.clean=⟨6,[y,.tup [],.nul,out,r,n],[]⟩∧Ex st.bs.length (ag .ro st) ah∧Bytes ah y b'∧y.ref≤st.bs.length∧
  Acc st.bs.length ah 2 out (done.map bq)∧j=b'.length∧done++pz b'=pz b∧done.length+b'.length≤b.length) b.length
  ⟨x,.nul,_,_,b,[],rfl,Ex.refl _ _,hb.enter .ro,hx,.nul,rfl,rfl,by simp⟩ ?_
 rintro j fr ah ⟨y,out,r,n,b',done,hfr,hex,hy,T1,Ja,rfl,hall,hl⟩;rw[hfr];(try refine qy ?_);(repeat refine qq ?_);(try generalize hK:bn _ _ _ _=K);refine ai.dP ?_
 (first|refine xT ?_|refine xL ?_|refine xN ?_|refine xo ?_|refine xp ?_)
 refine ae.len rfl rfl rfl hy rfl ?_;(repeat(first|refine xT ?_|refine xL ?_|refine xN ?_|refine xo ?_|refine xp ?_));refine ae.nil ?_;(try refine zF ?_);(try subst hK);(try refine qy ?_);rw[aI];(try refine qy ?_);(repeat refine qq ?_);refine qc (fun h1=>?_) (fun h1=>?_)<;>try simp only[cs] at h1
 ·refine ai.skip ?_;have pg:b'≠[]:=by rintro rfl;simp at h1
  (try refine qy ?_);(repeat refine qq ?_);refine ai.block ?_;(try refine qy ?_);(repeat refine qq ?_);(try generalize hK:bn _ _ _ _=K);refine ai.dP ?_
  (first|refine xT ?_|refine xL ?_|refine xN ?_|refine xo ?_|refine xp ?_)
  refine ae.Kg rfl rfl rfl (GQ hy) ?_;(repeat(first|refine xT ?_|refine xL ?_|refine xN ?_|refine xo ?_|refine xp ?_));refine ae.nil ?_;(try refine zF ?_);(try subst hK);(try refine qy ?_);generalize hf:jg b'=F at*;obtain⟨r0,n0,bg⟩:=F;(try refine qy ?_);(repeat refine qq ?_);(try generalize hK:bn _ _ _ _=K);refine ai.dP ?_;(repeat(first|refine xT ?_|refine xL ?_|refine xN ?_|refine xo ?_|refine xp ?_));refine ae.nil ?_;(try refine zF ?_);(try subst hK);(try refine qy ?_);generalize hK:bn _ _ _ _=K
  have H:∀m,K .next ⟨6,[y,.tup [],.nul,out,.int .i32 ((j5 b').1:Nat),.int .i64 ((j5 b').2:Nat)],m⟩ ah:=by
   intro m;subst hK;generalize hg:j5 b'=g;have hp:=nM b';have hle:=BS pg;rw[hg] at hp hle;(try refine qy ?_);(repeat refine qq ?_);(try generalize hK:bn _ _ _ _=K);refine ai.dP ?_
   (first|refine xT ?_|refine xL ?_|refine xN ?_|refine xo ?_|refine xp ?_)
   (first|refine xT ?_|refine xL ?_|refine xN ?_|refine xo ?_|refine xp ?_)
   (first|refine xT ?_|refine xL ?_|refine xN ?_|refine xo ?_|refine xp ?_)
   refine ae.T rfl rfl rfl (d:=.agg (bq g)) (st1:=ah) rfl ?_;refine ae.T rfl rfl rfl (d:=.win ah.bs.length 0 0 1 2) (st1:=ah.push (.mem 0 true (bq g))) rfl ?_;have hN:st.bs.length≤ah.bs.length:=hex.len;have I8:=hex.trans (Ex.push hN (.mem 0 true (bq g)));refine ae.append rfl rfl rfl rfl (Ja.push _) (Rows.one rfl) rfl rfl rfl rfl rfl rfl rfl (by decide) I8.len (by rw[I8.flr];exact Nat.le_refl _) (by rw[I8.ro];exact Nat.le_refl _) (by simp only[List.length_map,List.length_cons,List.length_nil];show(done.length+1)*16≤_;omega) fun P2 st2 Oh N5 _ _ _=>?_;(repeat(first|refine xT ?_|refine xL ?_|refine xN ?_|refine xo ?_|refine xp ?_));refine ae.nil ?_;(try refine zF ?_);(try subst hK);(try refine qy ?_);have RD:=I8.trans N5;have uW:Bytes st2 y b':=Rows.ex ((Ex.push hN _).trans N5) hy T1;(try refine qy ?_);(repeat refine qq ?_);(try generalize hK:bn _ _ _ _=K);refine ai.dP ?_
   (first|refine xT ?_|refine xL ?_|refine xN ?_|refine xo ?_|refine xp ?_)
   (first|refine xT ?_|refine xL ?_|refine xN ?_|refine xo ?_|refine xp ?_)
   refine ae.slice rfl rfl rfl uW rfl rfl (l:=g.2) (r:=b'.length) ?_ ⟨by omega,by rw[aI];omega⟩ fun y2 IJ Qe=>?_
   ·show bD (V.byteCells b').length (some (.int .i64 (g.2:Nat))) none=_;rw[aI];simp only[bD,fu,iG,Option.bind_some];rw[if_pos ⟨by omega,by omega⟩];rfl
   (repeat(first|refine xT ?_|refine xL ?_|refine xN ?_|refine xo ?_|refine xp ?_));refine ae.nil ?_;(try refine zF ?_);(try subst hK);(try refine qy ?_);refine⟨(b'.drop g.2).length,by rw[List.length_drop];omega,y2,P2,_,_,b'.drop g.2,done++[g],rfl,RD,?_,Nat.le_trans Qe T1,?_,rfl,?_,?_⟩
   ·have:((V.byteCells b').take b'.length).drop g.2=V.byteCells (b'.drop g.2):=by
     rw[←aI,List.take_length];simp[V.byteCells]
    unfold Bytes;rw[←this];exact IJ
   ·rw[List.map_append];exact Oh
   ·rw[List.append_assoc,List.singleton_append,←hall,vF pg,hg]
   ·rw[List.length_append,List.length_drop];simp only[List.length_cons,List.length_nil];omega
  (try refine qy ?_);(repeat refine qq ?_);refine qc (fun h2=>?_) (fun h2=>?_)<;>try simp only[cs] at h2
  ·refine ai.dP ?_;(repeat(first|refine xT ?_|refine xL ?_|refine xN ?_|refine xo ?_|refine xp ?_));refine ae.nil ?_;(try refine zF ?_);have:j5 b'=(65533,1):=by unfold j5;rw[hf,if_pos (by simpa using h2)]
   rw[this] at H;exact H _
  ·refine ai.skip ?_;have:j5 b'=(r0,n0):=by unfold j5;rw[hf,if_neg (by simpa using h2)]
   rw[this] at H;exact H _
 ·refine ai.exit ?_
  have pg:b'=[]:=by cases b' with|nil=>rfl|cons _ _=>simp at h1<;>omega
  subst pg;rw[tu,List.append_nil] at hall;(try refine qy ?_);(repeat refine qq ?_);(try generalize hK:bn _ _ _ _=K);refine ai.dP ?_;(repeat(first|refine xT ?_|refine xL ?_|refine xN ?_|refine xo ?_|refine xp ?_));refine ae.nil ?_;(try refine zF ?_);(try subst hK);(try refine qy ?_);refine ai.ret ⟨rx,_,rfl,bz (by simp) (hex.take rfl) ?_⟩;rw[←hall];exact Ja.freeze sS (n:=15) (by decide)
structure eA where
 i:Nat
 o:Nat
 g:Nat
 e:Int
 w:Int
def aP (gs:List (Nat×Nat)) (bB:D) (s:eA):List D:=[iq gs,bB,.int .i64 (s.i:Nat),.int .i64 (s.o:Nat),.int .i64 (s.g:Nat),.int .i64 s.e,.int .i64 s.w]
def eR (gs:List (Nat×Nat)) (i:Nat) (r:Int):Bool:=match gs[i]? with
 |some g=>((g.1:Nat):Int)==r
 |none=>false
theorem sJ {gs:List (Nat×Nat)} {i:Nat} {r:Int} (h:eR gs i r=true):i<gs.length:=by
 unfold eR at h
 split at h
 ·exact bX (by assumption)
 ·cases h
def bV (gs:List (Nat×Nat)) (s:eA) (r:Int):eA:=if eR gs s.i r=true then{s with i:=s.i+1} else s
def Ei (gs:List (Nat×Nat)) (i:Nat):Bool:=match gs[i]? with
 |some g=>((g.1:Nat):Int)==65533 &&((g.2:Nat):Int)==1
 |none=>false
def jJ (a_:List Int) (s:eA) (i:Nat) (e:Int):eA:=if s.e=0 then{s with e:=e,w:=a_.getD i 0} else s
theorem pT {N k:Nat} {S s0:St} {H:List aZ} {gs:List (Nat×Nat)} {bB:D} {s:eA} (tU:gs.length≤1048576) (r:Int) (hH:Has N S s0 (.box k (.mem 0 false (aP gs bB s))::H)):
  ∃d ah,Ev pv 73 [.ptr k 0 0,.int .i32 r] s0 d ah∧d=.bool (eR gs s.i r)∧Has N S ah (.box k (.mem 0 false (aP gs bB s))::H):=by
 refine Ev.jN rfl Sq rfl rfl rfl ?_;refine zE ?_;have bS:=hH;have hH:=hH.bG;have bO:(ag .rw s0).bs=s0.bs:=rfl;generalize ag .rw s0=S2 at*;have zy:Arg N S2 2 (iq gs) (gs.map bq):=Arg.pure (fun st=>eT st gs);refine zQ 4 ?_
 by_cases ha:s.i<gs.length
 ·obtain⟨g,hg⟩:∃g,gs[s.i]?=some g:=⟨gs[s.i]'ha,List.getElem?_eq_getElem _⟩
  have gr:(gs.map bq)[s.i]?=some (bq g):=by rw[List.getElem?_map,hg];rfl
  have iO:decide ((s.i:Int)<(gs.length:Nat))=true:=by rw[decide_eq_true];simp;omega
  have hv:eR gs s.i r=(((g.1:Nat):Int)==r):=by unfold eR;rw[hg]
  refine qq<|ai.qX 4 (.bool (((g.1:Nat):Int)==r)) [] ?_ (fun ff tmp=>?_)
  ·refine zQ 8 ?_;refine qn ?_;simp only[List.length_map];refine zQ 10 ?_;refine qr (fun MP Gg=>?_) (hg:=wi iO);refine qf (fo:=0) (fun PX K_=>?_) (hg:=wi iO);refine zQ 5 ?_;refine ae.nil (aO ?_);dsimp only[bk,List.foldl,nth,u2,u1];dsimp only[Fr.gL,Fr.put,Fr.clean,Fr.ev,Fr.get,nth,look,u1,u2,v1,v2,v4]
   all_goals(first|rfl|(simp[iO];done)|(simp_all;done)|(simp[iO];omega)|(simp_all;omega))
  dsimp only[bk,List.foldl,nth,u2,u1];refine ai.ret ⟨rx,_,_,_,rfl,ak (rfl),?_⟩;exact⟨by rw[hv];rfl,bS.aq bO hH⟩
 ·have iO:decide ((s.i:Int)<(gs.length:Nat))=false:=by rw[decide_eq_false];simp;omega
  have hv:eR gs s.i r=false:=by
   cases h:eR gs s.i r with
   |true=>exact absurd (sJ h) ha
   |false=>rfl
  refine qq<|ai.qX 4 (.bool false) [] ?_ (fun ff tmp=>?_)
  ·refine zQ 8 ?_;refine qn ?_;simp only[List.length_map];refine zQ 17 ?_;refine ae.nil (aO ?_);dsimp only[bk,List.foldl,nth,u2,u1];dsimp only[Fr.gL,Fr.put,Fr.clean,Fr.ev,Fr.get,nth,look,u1,u2,v1,v2,v4]
   all_goals(first|rfl|(simp[iO];done)|(simp_all;done)|(simp[iO];omega)|(simp_all;omega))
  dsimp only[bk,List.foldl,nth,u2,u1];refine ai.ret ⟨rx,_,_,_,rfl,ak (rfl),?_⟩;exact⟨by rw[hv];rfl,bS.aq bO hH⟩
theorem et {N k:Nat} {S s0:St} {H:List aZ} {gs:List (Nat×Nat)} {bB:D} {s:eA} (tU:gs.length≤1048576) (r:Int) (hH:Has N S s0 (.box k (.mem 0 false (aP gs bB s))::H)):
  ∃d ah,Ev pv 61 [.ptr k 0 0,.int .i32 r] s0 d ah∧d=.bool (eR gs s.i r)∧Has N S ah (.box k (.mem 0 false (aP gs bB (bV gs s r)))::H):=by
 refine Ev.jN rfl SA rfl rfl rfl ?_;refine zE ?_;have bS:=hH;have hH:=hH.bG;have bO:(ag .rw s0).bs=s0.bs:=rfl;generalize ag .rw s0=S2 at*;refine zQ 9 ?_;obtain⟨_,st,aC,rfl,hH⟩:=pT tU r hH;refine qv aC ?_;refine zQ 1 ?_;unfold bV
 cases hb:eR gs s.i r with
 |true=>
  have hlt:=sJ hb;dsimp only[aP] at hH;rw[if_pos rfl];refine zQ 10 ?_;refine qT hH aG fun st hH=>?_;dsimp only[u2,u1,u3,u4,setMany,u5,u6,D.cells,Nat.reduceAdd,aP,bq,ay] at hH;refine zQ 5 ?_;refine ai.ret ⟨rx,_,_,_,rfl,ak (rfl),?_⟩;exact⟨rfl,bS.aq bO hH⟩
 |false=>
  rw[if_neg (by simp)];refine zQ 6 ?_;refine ai.ret ⟨rx,_,_,_,rfl,ak (rfl),?_⟩;exact⟨rfl,bS.aq bO hH⟩
theorem Bh {N k:Nat} {S s0:St} {H:List aZ} {gs:List (Nat×Nat)} {bB:D} {s:eA} (i:Nat) (hi:i<gs.length) (hH:Has N S s0 (.box k (.mem 0 false (aP gs bB s))::H)):
  ∃d ah,Ev pv 96 [.ptr k 0 0,.int .i64 (i:Nat)] s0 d ah∧d=.bool (Ei gs i)∧Has N S ah (.box k (.mem 0 false (aP gs bB s))::H):=by
 refine Ev.jN rfl R5 rfl rfl rfl ?_;refine zE ?_;have bS:=hH;have hH:=hH.bG;have bO:(ag .rw s0).bs=s0.bs:=rfl;generalize ag .rw s0=S2 at*;have zy:Arg N S2 2 (iq gs) (gs.map bq):=Arg.pure (fun st=>eT st gs);refine zQ 4 ?_
 obtain⟨g,hg⟩:∃g,gs[i]?=some g:=⟨gs[i]'hi,List.getElem?_eq_getElem _⟩
 have gr:(gs.map bq)[i]?=some (bq g):=by rw[List.getElem?_map,hg];rfl
 have hv:Ei gs i=(((g.1:Nat):Int)==65533 &&((g.2:Nat):Int)==1):=by unfold Ei;rw[hg]
 refine qq<|ai.qX 4 (.bool (((g.1:Nat):Int)==65533 &&((g.2:Nat):Int)==1)) [] ?_ (fun ff tmp=>?_)
 ·refine zQ 5 ?_;refine qr fun TX NC=>?_;refine qf (fo:=0) fun Vd QY=>?_;refine zQ 3 ?_;refine ae.two 14 rfl (fun dw=>?_) (fun dw=>?_)
  ·refine zQ 5 ?_;refine qr (fun MR Gi=>?_) (hg:=wi dw);refine qf (fo:=1) (fun TU Ny=>?_) (hg:=wi dw);refine zQ 4 ?_;refine ae.nil (aO ?_);refine zG ?_
   all_goals(simp[dw];done)
  ·refine zQ 11 ?_;refine ae.nil (aO ?_);refine zG ?_
   all_goals(simp[dw];done)
 dsimp only[bk,List.foldl,nth,u2,u1];refine ai.ret ⟨rx,_,_,_,rfl,ak (rfl),?_⟩;exact⟨by rw[hv];rfl,bS.aq bO hH⟩
theorem eI {N k:Nat} {S s0:St} {H:List aZ} {gs:List (Nat×Nat)} {bB:D} {a_:List Int} {s:eA} (i:Nat) (e:Int) (hi:i<a_.length) (hH:Has N S s0 (.box k (.mem 0 false (aP gs bB s))::.aB bB 1 (a_.map ay)::H)):
  ∃d ah,Ev pv 43 [.ptr k 0 0,.int .i64 (i:Nat),.int .i64 e] s0 d ah∧d=.sl []∧Has N S ah (.box k (.mem 0 false (aP gs bB (jJ a_ s i e)))::.aB bB 1 (a_.map ay)::H):=by
 refine Ev.jN rfl SP rfl rfl rfl ?_;refine zE ?_;have bS:=hH;have hH:=hH.bG;have bO:(ag .rw s0).bs=s0.bs:=rfl;generalize ag .rw s0=S2 at*;refine zQ 4 ?_
 obtain⟨v,hv⟩:∃v,a_[i]?=some v:=⟨a_[i]'hi,List.getElem?_eq_getElem _⟩
 have gr:=hD hv;unfold jJ;refine zQ 9 ?_;refine zI (fun h0=>?_) fun h0=>?_
 ·rw[if_pos h0];have hgd:a_.getD i 0=v:=by rw[List.getD_eq_getElem?_getD,hv];rfl
  refine zQ 9 ?_;refine qi hH aV fun MR Gi=>?_;refine zQ 3 ?_;refine qT hH aG fun st hH=>?_;dsimp only[u2,u1,u3,u4,setMany,u5,u6,D.cells,Nat.reduceAdd,aP,bq,ay] at hH;refine zQ 2 ?_;refine qT hH aG fun st hH=>?_;dsimp only[u2,u1,u3,u4,setMany,u5,u6,D.cells,Nat.reduceAdd,aP,bq,ay] at hH;refine zQ 5 ?_;refine ai.ret ⟨rx,_,_,_,rfl,ak (rfl),?_⟩;exact⟨rfl,by rw[hgd];exact bS.aq bO hH⟩
 ·rw[if_neg h0];refine zQ 5 ?_;refine ai.ret ⟨rx,_,_,_,rfl,ak (rfl),?_⟩;exact⟨rfl,bS.aq bO hH⟩
noncomputable def cm (l:List Rg):List Rg:=@dite _ (∃a,fW l a) (Classical.propDecidable _) (fun h=>Classical.choose h) (fun _=>[])
theorem yx {l a:List Rg} (h:fW l a):cm l=a:=by
 have hx:∃a,fW l a:=⟨a,h⟩
 unfold cm;rw[dif_pos hx];exact(Classical.choose_spec hx).unique h
theorem nT {s0:St} {x:D} {l:List Rg} (hx:V.Rows s0 2 x (l.map av)) (hl:l.length≤1048576):Ev pv 91 [x] s0 (aQ (cm l)) s0∧(cm l).length≤2*l.length∧fW l (cm l):=by
 obtain⟨_,aC,all,rfl,hperm,mL⟩:=wx hx (by omega);have hM:fW l (all.foldl dD []).reverse:=mY (fun x=>hperm.mem_iff) mL;have hlen:=hperm.length_eq;have jc:=jE l;have hjl:=sH all;rw[yx hM];exact⟨aC,by rw[List.length_reverse];omega,hM⟩
theorem gJ (l:List Rg):gY (aQ l) 2 (l.map av):=by
 rw[←gK];refine gY.frozen ?_ ?_
 ·intro e he;obtain⟨x,_,rfl⟩:=List.mem_map.1 he;rfl
 ·intro e he d hd;obtain⟨x,_,rfl⟩:=List.mem_map.1 he;simp only[av,List.mem_cons,List.not_mem_nil,or_false] at hd
  rcases hd with rfl|rfl<;>rfl
theorem wv {r:Int} {l a:List Rg} (h0:0≤r) (h1:r<55296) (hr:gj l r) (h:fW l a):a≠[]:=by
 rintro rfl;have:=(h.2 r).2 ⟨by unfold na;omega,hr⟩;obtain⟨x,hx,_⟩:=this;cases hx
theorem yv {r:Int} (h0:0≤r) (h1:r<55296) {a:List Rg} (h:fW [(r,r)] a):a≠[]:=by
 rintro rfl;have:=(h.2 r).2 ⟨?_,?_⟩
 ·obtain⟨x,hx,_⟩:=this;cases hx
 ·unfold na;omega
 ·exact⟨(r,r),List.mem_cons_self ..,by simp⟩
theorem jZ {s0:St} (r:Int):Ev pv 101 [.int .i32 r] s0 (aQ (cm [(r,r)])) s0:=by
 refine Ev.iZ rfl OG rfl rfl rfl ?_;refine zE ?_;obtain⟨aU,hF,hH⟩:=ri s0;generalize ag .ro s0=S at*;refine zQ 8 ?_;refine ae.iC (qs:=[(0,_),(1,_)]) rfl rfl rfl rfl ⟨rfl,(ev rfl),(by rfl),rfl,(ev rfl),(by rfl),trivial⟩ (by intro q hq;simp only[List.mem_cons,List.not_mem_nil,or_false] at hq;rcases hq with rfl|rfl<;>exact⟨rfl,by exact Nat.le_of_ble_eq_true rfl⟩) (by show List.foldl _ [_,_] _=_;dsimp only[List.foldl_cons,List.foldl_nil,u2,u1]<;>rfl) (aa rfl _) ?_;refine qh (s:=2) (vs:=[_]) hH fun k6 st J' hH=>?_;obtain⟨aC,hl,_⟩:=nT (l:=[(r,r)]) (hH.rows aG) (by simp);refine qv aC ?_;refine zQ 2 ?_;refine ai.ret ⟨rx,_,rfl,rl aU hH (rfl)⟩
theorem IB {s0:St} (r:Int):Ev pv 112 [.int .i32 r] s0 (.bool (decide (33≤r∧r≤47∨58≤r∧r≤64∨91≤r∧r≤96∨123≤r∧r≤126))) s0:=by
 refine Ev.iZ rfl Ox rfl rfl rfl ?_;refine zE ?_;obtain⟨aU,hF,hH⟩:=ri s0;generalize ag .ro s0=S at*;refine zQ 5 ?_;refine ai.qX 2 (.bool (decide (33≤r∧r≤47∨58≤r∧r≤64∨91≤r∧r≤96∨123≤r∧r≤126))) [] ?_ (fun ff tmp=>?_)
 ·refine zQ 3 ?_;refine ae.two 5 rfl (fun bN=>?_) (fun bN=>?_)
  ·refine zQ 4 ?_;refine ae.two 9 rfl (fun jQ=>?_) (fun jQ=>?_)
   ·refine zQ 24 ?_;refine ae.nil (aO ?_);refine zG ?_
    all_goals(simp[bN,jQ];done)
   ·refine zQ 3 ?_;refine ae.two 12 rfl (fun dw=>?_) (fun dw=>?_)
    ·refine zQ 2 ?_;refine ae.cQ (aj rfl rfl rfl jQ) rfl dw (aa rfl _) ?_;refine zQ 2 ?_;refine ae.two 17 rfl (fun dz=>?_) (fun dz=>?_)
     ·refine zQ 16 ?_;refine ae.nil (aO ?_);refine zG ?_
      all_goals(simp[bN,jQ,dw,dz];done)
     ·refine zQ 3 ?_;refine ae.two 20 rfl (fun ba=>?_) (fun ba=>?_)
      ·refine zQ 2 ?_;refine ae.cQ (aj rfl rfl rfl dz) rfl ba (aa rfl _) ?_;refine zQ 2 ?_;refine ae.two 25 rfl (fun ch=>?_) (fun ch=>?_)
       ·refine zQ 8 ?_;refine ae.nil (aO ?_);refine zG ?_
        all_goals(simp[bN,jQ,dw,dz,ba,ch];done)
       ·refine zQ 3 ?_;refine ae.two 28 rfl (fun dp=>?_) (fun dp=>?_)
        ·refine zQ 2 ?_;refine ae.cQ (aj rfl rfl rfl ch) rfl dp (aa rfl _) ?_;refine zQ 2 ?_;refine ae.nil (aO ?_);refine zG ?_
         all_goals(simp[bN,jQ,dw,dz,ba,ch,dp];done)
        ·refine zQ 2 ?_;refine ae.cC (aj rfl rfl rfl ch) rfl dp (aa rfl _) ?_;refine zQ 2 ?_;refine ae.nil (aO ?_);refine zG ?_
         all_goals(simp[bN,jQ,dw,dz,ba,ch,dp];done)
      ·refine zQ 2 ?_;refine ae.cC (aj rfl rfl rfl dz) rfl ba (aa rfl _) ?_;refine zQ 5 ?_;refine ae.two 28 rfl (fun dp=>?_) (fun dp=>?_)
       ·refine zQ 5 ?_;refine ae.nil (aO ?_);refine zG ?_
        all_goals(simp[bN,jQ,dw,dz,ba,dp];done)
       ·refine zQ 5 ?_;refine ae.nil (aO ?_);refine zG ?_
        all_goals(simp[bN,jQ,dw,dz,ba,dp];done)
    ·refine zQ 2 ?_;refine ae.cC (aj rfl rfl rfl jQ) rfl dw (aa rfl _) ?_;refine zQ 5 ?_;refine ae.two 20 rfl (fun ba=>?_) (fun ba=>?_)
     ·refine zQ 5 ?_;refine ae.two 25 rfl (fun ch=>?_) (fun ch=>?_)
      ·refine zQ 8 ?_;refine ae.nil (aO ?_);refine zG ?_
       all_goals(simp[bN,jQ,dw,ba,ch];done)
      ·refine zQ 3 ?_;refine ae.two 28 rfl (fun dp=>?_) (fun dp=>?_)
       ·refine zQ 2 ?_;refine ae.cQ (aj rfl rfl rfl ch) rfl dp (aa rfl _) ?_;refine zQ 2 ?_;refine ae.nil (aO ?_);refine zG ?_
        all_goals(simp[bN,jQ,dw,ba,ch,dp];done)
       ·refine zQ 2 ?_;refine ae.cC (aj rfl rfl rfl ch) rfl dp (aa rfl _) ?_;refine zQ 2 ?_;refine ae.nil (aO ?_);refine zG ?_
        all_goals(simp[bN,jQ,dw,ba,ch,dp];done)
     ·refine zQ 8 ?_;refine ae.two 28 rfl (fun dp=>?_) (fun dp=>?_)
      ·refine zQ 5 ?_;refine ae.nil (aO ?_);refine zG ?_
       all_goals(simp[bN,jQ,dw,ba,dp];done)
      ·refine zQ 5 ?_;refine ae.nil (aO ?_);refine zG ?_
       all_goals(simp[bN,jQ,dw,ba,dp];done)
  ·refine zQ 7 ?_;refine ae.two 12 rfl (fun dw=>?_) (fun dw=>?_)
   ·refine zQ 5 ?_;refine ae.two 17 rfl (fun dz=>?_) (fun dz=>?_)
    ·refine zQ 16 ?_;refine ae.nil (aO ?_);refine zG ?_
     all_goals(simp[bN,dw,dz];done)
    ·refine zQ 3 ?_;refine ae.two 20 rfl (fun ba=>?_) (fun ba=>?_)
     ·refine zQ 2 ?_;refine ae.cQ (aj rfl rfl rfl dz) rfl ba (aa rfl _) ?_;refine zQ 2 ?_;refine ae.two 25 rfl (fun ch=>?_) (fun ch=>?_)
      ·refine zQ 8 ?_;refine ae.nil (aO ?_);refine zG ?_
       all_goals(simp[bN,dw,dz,ba,ch];done)
      ·refine zQ 3 ?_;refine ae.two 28 rfl (fun dp=>?_) (fun dp=>?_)
       ·refine zQ 2 ?_;refine ae.cQ (aj rfl rfl rfl ch) rfl dp (aa rfl _) ?_;refine zQ 2 ?_;refine ae.nil (aO ?_);refine zG ?_
        all_goals(simp[bN,dw,dz,ba,ch,dp];done)
       ·refine zQ 2 ?_;refine ae.cC (aj rfl rfl rfl ch) rfl dp (aa rfl _) ?_;refine zQ 2 ?_;refine ae.nil (aO ?_);refine zG ?_
        all_goals(simp[bN,dw,dz,ba,ch,dp];done)
     ·refine zQ 2 ?_;refine ae.cC (aj rfl rfl rfl dz) rfl ba (aa rfl _) ?_;refine zQ 5 ?_;refine ae.two 28 rfl (fun dp=>?_) (fun dp=>?_)
      ·refine zQ 5 ?_;refine ae.nil (aO ?_);refine zG ?_
       all_goals(simp[bN,dw,dz,ba,dp];done)
      ·refine zQ 5 ?_;refine ae.nil (aO ?_);refine zG ?_
       all_goals(simp[bN,dw,dz,ba,dp];done)
   ·refine zQ 8 ?_;refine ae.two 20 rfl (fun ba=>?_) (fun ba=>?_)
    ·refine zQ 5 ?_;refine ae.two 25 rfl (fun ch=>?_) (fun ch=>?_)
     ·refine zQ 8 ?_;refine ae.nil (aO ?_);refine zG ?_
      all_goals(simp[bN,dw,ba,ch];done)
     ·refine zQ 3 ?_;refine ae.two 28 rfl (fun dp=>?_) (fun dp=>?_)
      ·refine zQ 2 ?_;refine ae.cQ (aj rfl rfl rfl ch) rfl dp (aa rfl _) ?_;refine zQ 2 ?_;refine ae.nil (aO ?_);refine zG ?_
       all_goals(simp[bN,dw,ba,ch,dp];done)
      ·refine zQ 2 ?_;refine ae.cC (aj rfl rfl rfl ch) rfl dp (aa rfl _) ?_;refine zQ 2 ?_;refine ae.nil (aO ?_);refine zG ?_
       all_goals(simp[bN,dw,ba,ch,dp];done)
    ·refine zQ 8 ?_;refine ae.two 28 rfl (fun dp=>?_) (fun dp=>?_)
     ·refine zQ 5 ?_;refine ae.nil (aO ?_);refine zG ?_
      all_goals(simp[bN,dw,ba,dp];done)
     ·refine zQ 5 ?_;refine ae.nil (aO ?_);refine zG ?_
      all_goals(simp[bN,dw,ba,dp];done)
 dsimp only[bk,List.foldl,nth,u2,u1];refine ai.ret ⟨rx,_,rfl,rl aU hH (rfl)⟩
theorem pF:∀gs:List (Nat×Nat),km ((gs.map bq).map (kY 2))=some (gs.map fun g=>((g.1:Nat):Int))
 |[]=>rfl
 |g::gs=>by
  have ih:=pF gs;simp only[List.map_cons];show(match km ((gs.map bq).map (kY 2)) with|some rs=>some (((g.1:Nat):Int)::rs)|none=>none)=_;rw[ih]
theorem zc:∀(rs:List Int) (acc:List UInt8),(digS rs acc).2≤rs.length∧(digS rs acc).1.length≤acc.length+(digS rs acc).2
 |[],acc=>by simp[digS]
 |r::rs,acc=>by
  unfold digS
  split
  ·have h:=zc rs (if 48<r∨acc≠[] then acc++[UInt8.ofNat r.toNat] else acc);simp only[List.length_cons]
   have hl:(if 48<r∨acc≠[] then acc++[UInt8.ofNat r.toNat] else acc).length≤acc.length+1:=by
    split<;>simp
   omega
  ·simp
structure lS (gs:List (Nat×Nat)) (a_:List Int):Prop where
 gl:gs.length≤120
 pl:a_.length=gs.length
theorem uV (l:List Int):∀e∈l.map ay,∀d∈e,b_ d=true:=by
 intro e he d hd;obtain⟨x,_,rfl⟩:=List.mem_map.1 he;simp only[ay,List.mem_cons,List.not_mem_nil,or_false] at hd;subst hd;rfl
theorem IF (l:List Int):∀e∈l.map ay,e.length=1:=by
 intro e he;obtain⟨x,_,rfl⟩:=List.mem_map.1 he;rfl
def J0 (l:List Int):D:=.sl ((l.map ay).map (kY 1))
theorem F8 (l:List Int):gY (J0 l) 1 (l.map ay):=gY.frozen (IF l) (uV l)
def dC (pc:Nat) (i:aK):List Int:=
 if i.op=2 then[i.x,i.y] else if i.op=3 then[i.x] else if i.op=7 then[] else[((pc+1:Nat):Int)]
def kM (code:List aK):Prop:=∀pc i,code[pc]?=some i→∀v∈dC pc i,0≤v∧v<code.length
theorem xD {n ns pc:Nat} {i:aK} (h:jr n ns pc i=true):∀v∈dC pc i,0≤v∧v<n:=by
 intro v hv
 have jw:∀a b:Int,DF a b=true→0≤a∧a<b:=fun a b h=>by
  unfold DF at h;simp only[Bool.and_eq_true,decide_eq_true_eq] at h;exact⟨h.1,h.2⟩
 unfold jr at h;unfold dC at hv
 split at h
 ·rename_i h1;rw[if_neg (by omega),if_neg (by omega),if_neg (by omega)] at hv;simp only[Bool.and_eq_true,decide_eq_true_eq] at h;simp only[List.mem_cons,List.not_mem_nil,or_false] at hv;subst hv;omega
 ·simp only[Bool.and_eq_true] at h;obtain⟨_,h⟩:=h
  split at h
  ·rename_i h2;rw[if_pos h2] at hv;simp only[Bool.and_eq_true] at h;simp only[List.mem_cons,List.not_mem_nil,or_false] at hv
   rcases hv with rfl|rfl
   ·exact jw _ _ h.1
   ·exact jw _ _ h.2
  ·rename_i h2;rw[if_neg h2] at hv;simp only[Bool.and_eq_true] at h;obtain⟨_,h⟩:=h
   split at h
   ·rename_i h3;rw[if_pos h3] at hv;simp only[List.mem_cons,List.not_mem_nil,or_false] at hv;subst hv;exact jw _ _ h
   ·rename_i h3;rw[if_neg h3] at hv
    split at h
    ·rename_i h4;rw[if_neg (by omega)] at hv;simp only[Bool.and_eq_true,decide_eq_true_eq] at h;simp only[List.mem_cons,List.not_mem_nil,or_false] at hv;subst hv;omega
    ·split at h
     ·rename_i h5;rw[if_neg (by omega)] at hv;simp only[Bool.and_eq_true,decide_eq_true_eq] at h;simp only[List.mem_cons,List.not_mem_nil,or_false] at hv;subst hv;omega
     ·split at h
      ·rename_i h7;rw[if_pos h7] at hv;cases hv
      ·cases h
def LQ (code:List aK):Nat→List Bool→List Int→List Bool
 |0,seen,_=>seen
 |_+1,seen,[]=>seen
 |f+1,seen,v::qw=>match seen[v.toNat]? with
  |some false=>match code[v.toNat]? with
   |some i=>LQ code f (seen.set v.toNat true) ((dC v.toNat i).reverse++qw)
   |none=>seen
  |_=>LQ code f seen qw
def gI (code:List aK) (start:Int):List Bool:=LQ code (3*code.length+1) (List.replicate code.length false) [start]
theorem count_set {seen:List Bool} {k:Nat} (h:seen[k]?=some false):(seen.set k true).count false+1=seen.count false:=by
 induction seen generalizing k with
 |nil=>simp at h
 |cons b l ih=>
  cases k with
  |zero=>simp at h;subst h;simp
  |succ k=>
   have:=ih (k:=k) (by simpa using h);simp only[List.set_cons_succ,List.count_cons];omega
theorem FL (pc:Nat) (i:aK):(dC pc i).length≤2:=by
 unfold dC;split
 ·simp
 ·split
  ·simp
  ·split<;>simp
noncomputable def dec (q:Prop):Bool:=@decide q (Classical.propDecidable q)
theorem Jr {q:Prop} (h:q):dec q=true:=@decide_eq_true q (Classical.propDecidable q) h
def Fw (p:Pg) (r:Nat) (s:Int) (n:Nat):Prop:=∀pc i,pc<n→(gI p.code s)[pc]?=some true→p.code[pc]?=some i→i.op=7→i.x=(r:Int)
structure tv (p:Pg):Prop where
 cl:p.code.length≤400
 sl:p.aF.length≤8
 sh:∀pc i,p.code[pc]?=some i→jr p.code.length p.aF.length pc i=true
 st:∀v∈p.aF,0≤v∧v<(p.code.length:Int)
 fo:∀r s,p.aF[r]?=some s→Fw p r s p.code.length
theorem vw {p:Pg} (h:∀pc i,p.code[pc]?=some i→jr p.code.length p.aF.length pc i=true):kM p.code:=
 fun pc i hi=>xD (h pc i hi)
theorem tv.closed {p:Pg} (h:tv p):kM p.code:=vw h.sh
theorem jw {a b:Int}:DF a b=true↔0≤a∧a<b:=by
 unfold DF;simp only[Bool.and_eq_true,decide_eq_true_eq,ge_iff_le]
def sq:Nat→List Bool→List Int
 |_,[]=>[]
 |i,b::l=>(if b then[(i:Int)] else[])++sq (i+1) l
noncomputable def rT (p:Pg) (MH:Int):List Int:=if dec (tv p) &&DF MH p.aF.length then sq 0 (gI p.code (p.aF.getD MH.toNat 0)) else[]
def o7 (fr:Go.V.Fr) (k:Nat):Go.V.D:=Go.V.nth .bf fr.loc k
theorem z7 {s0:St} {x y:D} {l m:List Int} (hx:V.Rows s0 1 x (l.map ay)) (hy:V.Rows s0 1 y (m.map ay)) (hl:l.length≤1073741824) (hm:m.length≤1073741824):Ev pv 36 [x,y] s0 (.bool (decide (l=m))) s0:=by
 refine Ev.iZ rfl SX rfl rfl rfl ?_;refine zE ?_;obtain⟨aU,hF,hH⟩:=ri s0;generalize ag .ro s0=S at*;have hx:=Arg.of hx aU;have hy:=Arg.of hy aU;refine zQ 8 ?_;refine qn ?_;simp only[List.length_map];refine qm ?_;refine qn ?_;simp only[List.length_map];refine zQ 2 ?_
 by_cases hlen:l.length=m.length
 ·refine qE rfl (by rw[hlen];simp) ?_;refine zQ 7 ?_;refine ai.loop (fun mm fr st=>∃(i:Nat),fr.clean=⟨6,[x,y,o7 fr 2,o7 fr 3,.bool false,.int .i64 (i:Nat)],[]⟩∧Has s0.bs.length S st []∧(i+mm=l.length)∧(l.take i=m.take i)) (l.length) ?_ ?_
  ·exact⟨0,rfl,hH,by omega,rfl⟩
  rintro mm fr st ⟨i,hfr,hH,hi,ht⟩;rw[hfr];clear hfr;generalize o7 fr=ee;clear fr;refine zQ 5 ?_;refine qn ?_;simp only[List.length_map];refine zQ 2 ?_;refine zP (fun h1=>?_) fun h1=>?_
  ·refine zQ 1 ?_
   obtain⟨p,hp⟩:∃p,l[i]?=some p:=⟨l[i]'(by omega),List.getElem?_eq_getElem _⟩
   obtain⟨q,hq⟩:∃q,m[i]?=some q:=⟨m[i]'(by omega),List.getElem?_eq_getElem _⟩
   have gr:=hD hp;have qK:=hD hq;refine zQ 6 ?_;refine qr fun PY K'=>?_;refine zQ 3 ?_;refine qr fun MQ Gh=>?_;refine zQ 3 ?_;refine ai.cond (by rfl) (fun h2=>?_) (fun h2=>?_)<;>try simp only[bne_iff_ne,bne_eq_false_iff_eq,ne_eq] at h2
   ·refine zQ 4 ?_;rw[decide_eq_false (oS hp hq (by simpa using h2))];refine ai.ret ⟨rx,_,rfl,rl aU hH (rfl)⟩
   ·refine zQ 6 ?_;exact⟨mm-1,by omega,⟨i+1,rfl,hH,by omega,kh hp hq ht (by simpa using h2)⟩⟩
  ·refine zQ 5 ?_;rw[decide_eq_true (by rw[List.take_of_length_le (by omega),List.take_of_length_le (by omega)] at ht;exact ht)];refine ai.ret ⟨rx,_,rfl,rl aU hH (rfl)⟩
 ·refine qD rfl (by simp;omega) ?_;refine zQ 4 ?_;rw[decide_eq_false (fun h=>hlen (by rw[h]))];refine ai.ret ⟨rx,_,rfl,rl aU hH (rfl)⟩
theorem vP {s0:St} {x y:D} {l m:List Rg} (hx:V.Rows s0 2 x (l.map av)) (hy:V.Rows s0 2 y (m.map av)) (hl:l.length≤1073741824) (hm:m.length≤1073741824):Ev pv 37 [x,y] s0 (.bool (decide (l=m))) s0:=by
 refine Ev.iZ rfl SV rfl rfl rfl ?_;refine zE ?_;obtain⟨aU,hF,hH⟩:=ri s0;generalize ag .ro s0=S at*;have hx:=Arg.of hx aU;have hy:=Arg.of hy aU;refine zQ 8 ?_;refine qn ?_;simp only[List.length_map];refine qm ?_;refine qn ?_;simp only[List.length_map];refine zQ 2 ?_
 by_cases hlen:l.length=m.length
 ·refine qE rfl (by rw[hlen];simp) ?_;refine zQ 7 ?_;refine ai.loop (fun mm fr st=>∃(i:Nat),fr.clean=⟨6,[x,y,o7 fr 2,o7 fr 3,.bool false,.int .i64 (i:Nat)],[]⟩∧Has s0.bs.length S st []∧(i+mm=l.length)∧(l.take i=m.take i)) (l.length) ?_ ?_
  ·exact⟨0,rfl,hH,by omega,rfl⟩
  rintro mm fr st ⟨i,hfr,hH,hi,ht⟩;rw[hfr];clear hfr;generalize o7 fr=ee;clear fr;refine zQ 5 ?_;refine qn ?_;simp only[List.length_map];refine zQ 2 ?_;refine zP (fun h1=>?_) fun h1=>?_
  ·refine zQ 1 ?_
   obtain⟨p,hp⟩:∃p,l[i]?=some p:=⟨l[i]'(by omega),List.getElem?_eq_getElem _⟩
   obtain⟨q,hq⟩:∃q,m[i]?=some q:=⟨m[i]'(by omega),List.getElem?_eq_getElem _⟩
   have gr:=fY hp;have qK:=fY hq;refine zQ 6 ?_;refine qr fun PY K'=>?_;refine ae.cA rfl (ev rfl) (by assumption) rfl (aa rfl _) ?_;refine zQ 2 ?_;refine qr fun MQ Gh=>?_;refine ae.cA rfl (ev rfl) (by assumption) rfl (aa rfl _) ?_;refine ae.P9 rfl (ev rfl) (ev rfl) (uJ p q) (aa rfl _) ?_;refine zQ 1 ?_;refine ai.cond (by rfl) (fun h2=>?_) (fun h2=>?_)<;>try simp only[decide_eq_true_eq,decide_eq_false_iff_not,Bool.not_eq_true',Bool.not_eq_false'] at h2
   ·refine zQ 4 ?_;rw[decide_eq_false (oS hp hq (by simpa using h2))];refine ai.ret ⟨rx,_,rfl,rl aU hH (rfl)⟩
   ·refine zQ 6 ?_;exact⟨mm-1,by omega,⟨i+1,rfl,hH,by omega,kh hp hq ht (by simpa using h2)⟩⟩
  ·refine zQ 5 ?_;rw[decide_eq_true (by rw[List.take_of_length_le (by omega),List.take_of_length_le (by omega)] at ht;exact ht)];refine ai.ret ⟨rx,_,rfl,rl aU hH (rfl)⟩
 ·refine qD rfl (by simp;omega) ?_;refine zQ 4 ?_;rw[decide_eq_false (fun h=>hlen (by rw[h]))];refine ai.ret ⟨rx,_,rfl,rl aU hH (rfl)⟩
end Go.Proofs.YthahmilhpmfkfaaGreat
