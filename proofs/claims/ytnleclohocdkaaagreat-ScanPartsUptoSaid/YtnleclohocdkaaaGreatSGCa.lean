/-
 Ranges of runes: the canonical form, by plain lists. No program in sight.
-/
import Derived.Test.YtnleclohocdkaaaGreatSGHr
import Derived.Test.YtnleclohocdkaaaGreatSPx
import Derived.Test.YtnleclohocdkaaaGreatSM2
import Derived.KernelRfl
set_option linter.unusedSimpArgs false
set_option linter.unusedVariables false
set_option maxRecDepth 100000
set_option maxHeartbeats 4000000
namespace Go.V
abbrev Rg:=Int×Int
def ez (l:List Rg) (r:Int):Prop:=∃x,x∈l∧x.1≤r∧r≤x.2
theorem eI (r:Int):¬ez [] r:=by rintro⟨x,h,_⟩;cases h
theorem bo {x:Rg} {l:List Rg} {r:Int}:ez (x::l) r↔(x.1≤r∧r≤x.2)∨ez l r:=by
 constructor
 ·rintro⟨y,hy,h⟩
  rcases List.mem_cons.1 hy with rfl|hy
  ·exact .inl h
  ·exact .inr ⟨y,hy,h⟩
 ·rintro(h|⟨y,hy,h⟩)
  ·exact⟨x,List.mem_cons_self ..,h⟩
  ·exact⟨y,List.mem_cons_of_mem _ hy,h⟩
theorem vw {a b:List Rg} {r:Int}:ez (a++b) r↔ez a r∨ez b r:=by
 constructor
 ·rintro⟨y,hy,h⟩
  rcases List.mem_append.1 hy with hy|hy
  ·exact .inl ⟨y,hy,h⟩
  ·exact .inr ⟨y,hy,h⟩
 ·rintro(⟨y,hy,h⟩|⟨y,hy,h⟩)
  ·exact⟨y,List.mem_append_left _ hy,h⟩
  ·exact⟨y,List.mem_append_right _ hy,h⟩
theorem sq {a b:List Rg} (h:∀x,x∈a↔x∈b) (r:Int):ez a r↔ez b r:=by
 constructor
 ·rintro⟨y,hy,hh⟩;exact⟨y,(h y).1 hy,hh⟩
 ·rintro⟨y,hy,hh⟩;exact⟨y,(h y).2 hy,hh⟩
def canon (l:List Rg):Prop:=(∀x∈l,x.1≤x.2)∧l.Pairwise fun x y=>x.2+1<y.1
theorem iY {x:Rg} {l:List Rg} (h:canon (x::l)):canon l∧x.1≤x.2∧∀r,ez l r→x.2+1<r:=by
 obtain⟨h1,h2⟩:=h;rw[List.pairwise_cons] at h2;refine⟨⟨fun y hy=>h1 y (List.mem_cons_of_mem _ hy),h2.2⟩,h1 x (List.mem_cons_self ..),?_⟩;rintro r ⟨y,hy,h3,h4⟩;have:=h2.1 y hy;omega
theorem lX:∀{a b:List Rg},canon a→canon b→(∀r,ez a r↔ez b r)→a=b
 |[],[],_,_,_=>rfl
 |[],y::b,_,hb,h=>by
  obtain⟨_,h1,_⟩:=iY hb;exact absurd ((h y.1).2 (bo.2 (.inl ⟨Int.le_refl _,h1⟩))) (eI _)
 |x::a,[],ha,_,h=>by
  obtain⟨_,h1,_⟩:=iY ha;exact absurd ((h x.1).1 (bo.2 (.inl ⟨Int.le_refl _,h1⟩))) (eI _)
 |x::a,y::b,ha,hb,h=>by
  obtain⟨ca,xa,fa⟩:=iY ha;obtain⟨cb,yb,fb⟩:=iY hb
  have low:∀{x y:Rg} {a b:List Rg},x.1≤x.2→(∀r,ez b r→y.2+1<r)→y.1≤y.2→(∀r,ez (x::a) r→ez (y::b) r)→y.1≤x.1:=by
   intro x y a b hx hf hy hh
   rcases bo.1 (hh x.1 (bo.2 (.inl ⟨Int.le_refl _,hx⟩))) with h|h
   ·exact h.1
   ·have:=hf _ h;omega
  have e1:x.1=y.1:=Int.le_antisymm (low yb fa xa fun r=>(h r).2) (low xa fb yb fun r=>(h r).1)
  have up:∀{x y:Rg} {a b:List Rg},x.1≤x.2→x.1=y.1→(∀r,ez a r→x.2+1<r)→(∀r,ez (y::b) r→ez (x::a) r)→y.2≤x.2:=by
   intro x y a b hx he hf hh
   rcases Int.lt_or_le x.2 y.2 with h'|h'
   ·rcases bo.1 (hh (x.2+1) (bo.2 (.inl ⟨by omega,by omega⟩))) with h|h
    ·omega
    ·have:=hf _ h;omega
   ·exact h'
  have e2:x.2=y.2:=Int.le_antisymm (up yb e1.symm fb fun r=>(h r).1) (up xa e1 fa fun r=>(h r).2);have e:x=y:=Prod.ext e1 e2;subst e
  congr 1
  refine lX ca cb fun r=>⟨fun hr=>?_,fun hr=>?_⟩
  ·have:=fa r hr
   rcases bo.1 ((h r).1 (bo.2 (.inr hr))) with h|h
   ·omega
   ·exact h
  ·have:=fb r hr
   rcases bo.1 ((h r).2 (bo.2 (.inr hr))) with h|h
   ·omega
   ·exact h
def cM (acc:List Rg) (r:Rg):List Rg:=
 match acc with
 |[]=>[r]
 |k::rest=>if r.1≤k.2+1 then(k.1,max k.2 r.2)::rest else r::k::rest
theorem lF:∀(l acc:List Rg),(∀x∈l,x.1≤x.2)→l.Pairwise (fun x y=>x.1≤y.1)→(∀k∈acc.head?,∀x∈l,k.1≤x.1)→(∀x∈acc,x.1≤x.2)→acc.Pairwise (fun x y=>y.2+1<x.1)→
  (∀x∈l.foldl cM acc,x.1≤x.2)∧(l.foldl cM acc).Pairwise (fun x y=>y.2+1<x.1)∧∀r,ez (l.foldl cM acc) r↔ez acc r∨ez l r
 |[],acc,_,_,_,h1,h2=>⟨h1,h2,fun r=>⟨.inl,fun h=>h.resolve_right (eI r)⟩⟩
 |x::l,acc,hl,hp,hk,h1,h2=>by
  rw[List.pairwise_cons] at hp;have hx:=hl x (List.mem_cons_self ..);have hl':∀y∈l,y.1≤y.2:=fun y hy=>hl y (List.mem_cons_of_mem _ hy);rw[List.foldl_cons]
  cases acc with
  |nil=>
   obtain⟨g1,g2,g3⟩:=lF l [x] hl' hp.2 (fun k iR y hy=>by simp at iR;subst iR;exact hp.1 y hy) (fun y hy=>by simp at hy;subst hy;exact hx) (by simp);refine⟨g1,g2,fun r=>(g3 r).trans ?_⟩;rw[bo (l:=l),bo (l:=[])];constructor
   ·rintro((h|h)|h)
    ·exact .inr (.inl h)
    ·exact absurd h (eI r)
    ·exact .inr (.inr h)
   ·rintro(h|h|h)
    ·exact absurd h (eI r)
    ·exact .inl (.inl h)
    ·exact .inr h
  |cons k rest=>
   have VX:=hk k rfl x (List.mem_cons_self ..);have hkk:=h1 k (List.mem_cons_self ..);rw[List.pairwise_cons] at h2;unfold cM
   by_cases hc:x.1≤k.2+1
   ·simp only[if_pos hc]
    obtain⟨g1,g2,g3⟩:=lF l ((k.1,max k.2 x.2)::rest) hl' hp.2 (fun q hq y hy=>by simp at hq;subst hq;have:=hp.1 y hy;simp only;omega) (fun y hy=>by
     rcases List.mem_cons.1 hy with rfl|hy
     ·simp only;omega
     ·exact h1 y (List.mem_cons_of_mem _ hy)) (by rw[List.pairwise_cons];exact⟨h2.1,h2.2⟩)
    refine⟨g1,g2,fun r=>(g3 r).trans ?_⟩;rw[bo (l:=rest),bo (l:=rest),bo (l:=l)];constructor
    ·rintro((h|h)|h)
     ·simp only at h
      by_cases hr:r≤k.2
      ·exact .inl (.inl ⟨h.1,hr⟩)
      ·exact .inr (.inl ⟨by omega,by omega⟩)
     ·exact .inl (.inr h)
     ·exact .inr (.inr h)
    ·rintro((h|h)|h|h)
     ·exact .inl (.inl ⟨h.1,by simp only;omega⟩)
     ·exact .inl (.inr h)
     ·exact .inl (.inl ⟨by simp only;omega,by simp only;omega⟩)
     ·exact .inr h
   ·simp only[if_neg hc]
    obtain⟨g1,g2,g3⟩:=lF l (x::k::rest) hl' hp.2 (fun q hq y hy=>by simp at hq;subst hq;exact hp.1 y hy) (fun y hy=>by
     rcases List.mem_cons.1 hy with rfl|hy
     ·exact hx
     ·exact h1 y hy) (by
     rw[List.pairwise_cons];refine⟨fun y hy=>?_,by rw[List.pairwise_cons];exact h2⟩
     rcases List.mem_cons.1 hy with rfl|hy
     ·omega
     ·have:=h2.1 y hy;omega)
    refine⟨g1,g2,fun r=>(g3 r).trans ?_⟩;rw[bo (l:=k::rest),bo (l:=l)];constructor
    ·rintro((h|h)|h)
     ·exact .inr (.inl h)
     ·exact .inl h
     ·exact .inr (.inr h)
    ·rintro(h|h|h)
     ·exact .inl (.inr h)
     ·exact .inl (.inl h)
     ·exact .inr h
theorem xJ {l:List Rg} (h1:∀x∈l,x.1≤x.2) (h2:l.Pairwise fun x y=>x.1≤y.1):canon (l.foldl cM []).reverse∧∀r,ez (l.foldl cM []).reverse r↔ez l r:=by
 obtain⟨g1,g2,g3⟩:=lF l [] h1 h2 (fun k hk=>by simp at hk) (fun x hx=>by simp at hx) List.Pairwise.nil;refine⟨⟨fun x hx=>g1 x (List.mem_reverse.1 hx),by rw[List.pairwise_reverse];exact g2⟩,fun r=>?_⟩;rw[sq (fun x=>List.mem_reverse) r,g3 r];exact⟨fun h=>h.resolve_left (eI r),.inr⟩
def mP (r:Int):Prop:=0≤r∧r≤1114111∧¬(55296≤r∧r≤57343)
def cS (x:Rg):List Rg:=
 (if max (max x.1 0) 0≤min (min x.2 1114111) 55295 then[(max (max x.1 0) 0,min (min x.2 1114111) 55295)] else[])++
 (if max (max x.1 0) 57344≤min (min x.2 1114111) 1114111 then[(max (max x.1 0) 57344,min (min x.2 1114111) 1114111)] else[])
theorem oT (x:Rg) (r:Int):ez (cS x) r↔mP r∧x.1≤r∧r≤x.2:=by
 unfold cS mP;rw[vw]
 have one:∀(a b:Int),ez (if a≤b then[(a,b)] else[]) r↔a≤r∧r≤b:=by
  intro a b
  split
  ·rw[bo];exact⟨fun h=>h.elim id fun h=>absurd h (eI r),.inl⟩
  ·exact⟨fun h=>absurd h (eI r),fun h=>by omega⟩
 rw[one,one];omega
theorem mj (x:Rg):∀y∈cS x,y.1≤y.2∧0≤y.1∧y.2≤1114111:=by
 intro y hy;unfold cS at hy
 rcases List.mem_append.1 hy with h|h<;>split at h<;>simp at h<;>subst h<;>simp only<;>omega
theorem po {l all:List Rg} (hp:∀x,x∈all↔x∈l.flatMap cS) (hs:all.Pairwise fun x y=>x.1≤y.1):canon (all.foldl cM []).reverse∧∀r,ez (all.foldl cM []).reverse r↔mP r∧ez l r:=by
 have hle:∀x∈all,x.1≤x.2:=fun x hx=>by
  obtain⟨y,_,hy⟩:=List.mem_flatMap.1 ((hp x).1 hx);exact(mj y x hy).1
 obtain⟨g1,g2⟩:=xJ hle hs;refine⟨g1,fun r=>(g2 r).trans ((sq hp r).trans ?_)⟩;constructor
 ·rintro⟨y,hy,h⟩;obtain⟨x,hx,hy⟩:=List.mem_flatMap.1 hy;have:=(oT x r).1 ⟨y,hy,h⟩;exact⟨this.1,x,hx,this.2⟩
 ·rintro⟨hr,x,hx,h⟩;obtain⟨y,hy,h'⟩:=(oT x r).2 ⟨hr,h⟩;exact⟨y,List.mem_flatMap.2 ⟨x,hx,hy⟩,h'⟩
def kL:List Rg→Int→Bool
 |[],_=>false
 |x::l,r=>(decide (x.1≤r) &&decide (r≤x.2))||kL l r
theorem vW:∀(l:List Rg) (r:Int),kL l r=true↔ez l r
 |[],r=>⟨fun h=>(by cases h),fun h=>absurd h (eI r)⟩
 |x::l,r=>by
  rw[bo,←vW l r];simp[kL]
end Go.V
namespace Go.Proofs.YtnleclohocdkaaaGreat
open Go.V Go
def pB (fr:Go.V.Fr) (k:Nat):Go.V.D:=Go.V.nth .junk fr.loc k
def aj (x:Rg):List D:=[.int .i32 x.1,.int .i32 x.2]
def a8 (l:List Rg):D:=.sl (l.map fun x=>.agg (aj x))
theorem gm (l:List Rg):D.sl ((l.map aj).map (iV 2))=a8 l:=by
 unfold a8;rw[List.map_map];rfl
theorem dr (l:List Rg):∀e∈l.map aj,∀d∈e,bC d=true:=by
 intro e he d hd;obtain⟨x,_,rfl⟩:=List.mem_map.1 he;simp only[aj,List.mem_cons,List.not_mem_nil,or_false] at hd
 rcases hd with rfl|rfl<;>rfl
theorem xi (l:List Rg):refs (l.map aj).flatten=0:=by
 induction l with
 |nil=>rfl
 |cons x l ih=>simp only[List.map_cons,List.flatten_cons,aj,List.cons_append,List.nil_append,refs,D.ref,ih];rfl
theorem jW (l:List Rg):∀e∈l.map aj,e.length=2:=by
 intro e he;obtain⟨x,_,rfl⟩:=List.mem_map.1 he;rfl
theorem eD (st:St) (l:List Rg):V.Rows st 2 (a8 l) (l.map aj):=by
 rw[←gm];exact Rows.vh (jW l) (dr l)
theorem e_ {l:List Rg} {i:Nat} {q:Rg} (h:l[i]?=some q):(l.map aj)[i]?=some (aj q):=by rw[List.getElem?_map,h];rfl
theorem A8 (l:List Rg) (q:Rg) (r:Int):kL (l++[q]) r=(kL l r||(decide (q.1≤r) &&decide (r≤q.2))):=by
 induction l with
 |nil=>simp[kL]
 |cons x l ih=>simp only[List.cons_append,kL,ih,Bool.or_assoc]
theorem Du {l:List Rg} {i:Nat} {r:Int} (h:kL (l.take i) r=true):kL l r=true:=by
 rw[vW] at h⊢;obtain⟨x,h1,h2⟩:=h;exact⟨x,List.mem_of_mem_take h1,h2⟩
theorem Dt {s0:St} {x:D} {l:List Rg} {r:Int} (hx:V.Rows s0 2 x (l.map aj)) (hl:l.length≤1073741824):Ev pv 103 [x,.int .i32 r] s0 (.bool (kL l r)) s0:=by
 refine Ev.mk1 rfl Ln rfl rfl rfl ?_;refine zE ?_;obtain⟨hSb,hF,hH⟩:=ri s0;generalize enterSt .ro s0=S at*;have hx:=Arg.of hx hSb;refine zQ 8 ?_;refine qn ?_;simp only[List.length_map];refine zQ 3 ?_;refine EvC.loop (fun mm fr st=>∃(i:Nat),fr.clean=⟨10,[x,.int .i32 r,pB fr 2,pB fr 3,.bool false,pB fr 5,pB fr 6,x,.int .i64 (l.length:Nat),.int .i64 (i:Nat)],[]⟩∧Has s0.bs.length S st []∧(i+mm=l.length)∧(kL (l.take i) r=false)) (l.length) ?_ ?_
 ·exact⟨0,rfl,hH,by omega,rfl⟩
 rintro mm fr st ⟨i,hfr,hH,hi,hn⟩;rw[hfr];clear hfr;generalize pB fr=ee;clear fr;refine zQ 5 ?_;refine zP (fun h1=>?_) fun h1=>?_
 ·refine zQ 1 ?_
  obtain⟨q,hq⟩:∃q,l[i]?=some q:=⟨l[i]'(by omega),List.getElem?_eq_getElem _⟩
  have hr:=e_ hq;refine zQ 4 ?_;refine qr fun Qd J1=>?_;refine EvO.cu rfl (ev rfl) (by assumption) rfl (put_T rfl _) ?_;refine qa hH fun k6 st A0 hH=>?_;refine qS hH at0 fun st hH=>?_;dsimp only[u2,u1,u3,u4,setMany,u5,u6,D.cells,Nat.reduceAdd,aj] at hH;refine zQ 2 ?_;refine EvC.cutT 22 (.bool (decide (r≥q.1) &&decide (r≤q.2))) [] ?_ (fun ff tmp htmp=>?_)
  ·refine zQ 5 ?_;refine EvO.two 17 rfl (fun hg4=>?_) (fun hg4=>?_)
   ·refine zQ 5 ?_;refine EvO.nil (leafT ?_ ?_)
    ·dsimp only[setW,List.foldl,nth,u2,u1]
     all_goals(first|rfl|simp)
    ·refine zF ?_
     all_goals(simp[hg4];done)
   ·refine zQ 5 ?_;refine EvO.nil (leafT ?_ ?_)
    ·dsimp only[setW,List.foldl,nth,u2,u1]
     all_goals(first|rfl|simp)
    ·refine zF ?_
     all_goals(simp[hg4];done)
  refine zG ?_
  have ht:kL (l.take (i+1)) r=(decide (r≥q.1) &&decide (r≤q.2)):=by
   rw[List.take_add_one,hq,Option.toList_some,A8,hn];simp
  refine qc (fun h2=>?_) (fun h2=>?_)<;>try simp only[cs] at h2
  ·refine zQ 4 ?_;rw[Du (i:=i+1) (by rw[ht];simp[h2])];refine EvC.ret ⟨rx,_,rfl,rl hSb hH (rfl)⟩
  ·refine zQ 5 ?_;exact⟨mm-1,by omega,⟨i+1,rfl,(hH.drop 1),by omega,by rw[ht];simp[h2]⟩⟩
 ·refine zQ 5 ?_;have:kL l r=false:=by rw[←hn,List.take_of_length_le (by omega)]
  rw[this];refine EvC.ret ⟨rx,_,rfl,rl hSb hH (rfl)⟩
def aH (fr:Go.V.Fr) (k:Nat):Go.V.D:=Go.V.nth .junk fr.loc k
def ei:List Rg:=[(0,55295),(57344,1114111)]
def rA (lo hi:Int) (p:Rg):List Rg:=if max lo p.1≤min hi p.2 then[(max lo p.1,min hi p.2)] else[]
theorem tg (q:Rg):cS q=ei.flatMap (rA (max q.1 0) (min q.2 1114111)):=by
 simp[cS,ei,rA]
theorem B4 {s0:St} (q:Rg):Ev pv 145 [.agg (aj q)] s0 (a8 (cS q)) s0:=by
 refine Ev.mk1 rfl K5 rfl rfl rfl ?_;refine zE ?_;obtain⟨hSb,hF,hH⟩:=ri s0;generalize enterSt .ro s0=S at*;refine zQ 2 ?_;refine qb hH fun k1 st kV hH=>?_;dsimp only[u2,u1,u3,u4,setMany,u5,u6,D.cells,Nat.reduceAdd,aj] at hH;refine zQ 6 ?_;refine EvO.Ff (t1:=0) (t2:=0) rfl (ev rfl) (ev rfl) (by dsimp only[Fr.put,u1,u2]<;>rfl) ?_;refine zQ 2 ?_;refine EvO.Fe (t1:=0) (t2:=0) rfl (ev rfl) (ev rfl) (by dsimp only[Fr.put,u1,u2]<;>rfl) ?_;refine zQ 1 ?_;refine qT hH at0 fun st hH=>?_;dsimp only[u2,u1,u3,u4,setMany,u5,u6,D.cells,Nat.reduceAdd,aj] at hH;refine zQ 1 ?_;refine qT hH at0 fun st hH=>?_;dsimp only[u2,u1,u3,u4,setMany,u5,u6,D.cells,Nat.reduceAdd,aj] at hH;refine zQ 1 ?_;generalize wM:max q.1 0=lo at*;generalize A2:min q.2 1114111=hi at*;refine zQ 4 ?_;have hH:=hH.nulE 2;refine zQ 5 ?_;refine qh (s:=2) (vs:=[_,_]) hH fun k17 st Ke hH=>?_;dsimp only[u2,u1,u3,u4,setMany,u5,u6,D.cells,Nat.reduceAdd,aj] at hH;refine qn ?_ (hR:=hH.rows at0);simp only[List.length_map,List.length_cons,List.length_nil];refine zQ 3 ?_;refine EvC.loop (fun mm fr st=>∃(i:Nat) (x:D),fr.clean=⟨20,[.agg (aj q),.ptr k1 0 0,.nul,x,aH fr 4,aH fr 5,aH fr 6,aH fr 7,aH fr 8,aH fr 9,aH fr 10,aH fr 11,aH fr 12,aH fr 13,aH fr 14,aH fr 15,aH fr 16,.win k17 0 0 2 2,.int .i64 2,.int .i64 (i:Nat)],[]⟩∧Has s0.bs.length S st [.lst (.win k17 0 0 2 2) 2 (ei.map aj),.lst x 2 (((ei.take i).flatMap (rA lo hi)).map aj),.box k1 (.mem 0 false [.int .i32 lo,.int .i32 hi])]∧(i+mm=2)∧(((ei.take i).flatMap (rA lo hi)).length≤i)) (2) ?_ ?_
 ·exact⟨0,.nul,rfl,hH,by omega,by simp⟩
 rintro mm fr st ⟨i,x,hfr,hH,hij,hb⟩;rw[hfr];clear hfr;generalize aH fr=ee;clear fr;refine zQ 5 ?_;refine zP (fun h1=>?_) fun h1=>?_
 ·refine zQ 1 ?_
  obtain⟨p,hp⟩:∃p,ei[i]?=some p:=⟨ei[i]'(by simp[ei];omega),List.getElem?_eq_getElem _⟩
  have hr:=e_ hp;refine zQ 4 ?_;refine qi hH at0 fun Mp Hy=>?_;refine EvO.tw hH rfl (ev rfl) (by assumption) (by exact at0) (by assumption) rfl (put_T rfl _) ?_;refine qa hH fun k5 st Ep hH=>?_;refine qS hH at0 fun st hH=>?_;dsimp only[u2,u1,u3,u4,setMany,u5,u6,D.cells,Nat.reduceAdd,aj] at hH;refine zQ 7 ?_;refine EvO.Ff (t1:=0) (t2:=0) rfl (ev rfl) (ev rfl) (put_T rfl _) ?_;refine zQ 4 ?_;refine EvO.Fe (t1:=0) (t2:=0) rfl (ev rfl) (ev rfl) (put_T rfl _) ?_;refine qg ?_;refine qa hH fun k6 st A0 hH=>?_;refine qS hH at0 fun st hH=>?_;dsimp only[u2,u1,u3,u4,setMany,u5,u6,D.cells,Nat.reduceAdd,aj] at hH;refine zQ 9 ?_;refine zP (fun h2=>?_) fun h2=>?_
  ·refine zQ 2 ?_;refine EvO.hloadS (m:=2) hH rfl (ev rfl) (by exact at0) (by dsimp only[List.drop_succ_cons,List.drop_zero,List.take_succ_cons,List.take_zero,aj]<;>rfl) rfl rfl (put_T rfl _) ?_;refine qh (s:=2) (vs:=[_]) hH fun k41 st Ka hH=>?_;refine EvO.happend (s:=2) hH rfl (ev rfl) (ev rfl) (by exact at4) (by exact hH.rows (by exact at0)) rfl rfl rfl rfl rfl rfl rfl ⟨(Nat.le_of_ble_eq_true rfl),(Nat.le_of_ble_eq_true rfl)⟩ (fun _=>(put_T rfl _)) (by simp only[List.length_cons,List.length_nil,List.length_map]<;>omega) (by exact .inl hF) (fun I5 st hH=>?_);dsimp only[u2,u1,u3,u4,setMany,u5,u6,D.cells,Nat.reduceAdd,aj] at hH;refine zQ 6 ?_
   have h3:(ei.take (i+1)).flatMap (rA lo hi)=(ei.take i).flatMap (rA lo hi)++[(max lo p.1,min hi p.2)]:=by
    rw[List.take_add_one,hp,List.flatMap_append];simp[rA,h2]
   exact⟨mm-1,by omega,⟨i+1,I5,rfl,(by rw[h3,List.map_append];exact hH.drop 3),by omega,by rw[h3];simp only[List.length_append,List.length_cons,List.length_nil];omega⟩⟩
  ·refine zQ 5 ?_
   have h3:(ei.take (i+1)).flatMap (rA lo hi)=(ei.take i).flatMap (rA lo hi):=by
    rw[List.take_add_one,hp,List.flatMap_append];simp[rA,h2]
   exact⟨mm-1,by omega,⟨i+1,x,rfl,(by rw[h3];exact hH.drop 2),by omega,by rw[h3];omega⟩⟩
 ·refine zQ 6 ?_;rw[←gm];have h3:ei.take i=ei:=List.take_of_length_le (by simp[ei];omega);rw[h3] at hH;refine EvC.ret ⟨rx,_,rfl,rl hSb hH ?_⟩;refine Eq.trans (hH.freeze at1 (dr _) (n:=15) (by decide)) ?_;rw[tg,wM,A2]
theorem Ai (q x:Rg) (h:x∈cS q):0≤x.1∧x.1≤1114111:=by
 obtain⟨h1,h2,h3⟩:=mj q x h;omega
theorem oU (q:Rg):(cS q).length≤2:=by
 unfold cS;split<;>split<;>simp
theorem gR (l:List Rg):(l.flatMap cS).length≤2*l.length:=by
 induction l with
 |nil=>simp
 |cons x l ih=>simp only[List.flatMap_cons,List.length_append,List.length_cons];have:=oU x;omega
theorem rN:∀{l:List Rg},(∀x∈l,0≤x.1∧x.1≤1114111)→∃m:List Rs,dV m=(l.map aj).flatten∧m.map (fun x=>(x.lo,x.hi))=l
 |[],_=>⟨[],rfl,rfl⟩
 |x::l,h=>by
  obtain⟨m,h1,h2⟩:=rN (l:=l) fun y hy=>h y (List.mem_cons_of_mem _ hy);obtain⟨h3,h4⟩:=h x (List.mem_cons_self ..);exact⟨⟨x.1,x.2,h3,h4⟩::m,by simp only[dV,h1,List.map_cons,List.flatten_cons,aj,List.cons_append,List.nil_append],by simp[h2]⟩
theorem yi (m:List Rs):dV m=((m.map fun x=>((x.lo,x.hi):Rg)).map aj).flatten:=by
 induction m with
 |nil=>rfl
 |cons x m ih=>simp only[dV,ih,List.map_cons,List.flatten_cons,aj,List.cons_append,List.nil_append]
theorem Ds {N:Nat} {S st:St} {H:List aN} {j:Nat} {x:D} {l:List Rg} (hH:Has N S st H) (hj:H[j]?=some (.lst x 2 (l.map aj))) (h0:l=[]→x=.nul) (hl:l.length≤1073741824) (hr:∀y∈l,0≤y.1∧y.1≤1114111):
  ∃(ab:St) (l':List Rg),Ev pv 146 [x,.fn 147 []] st (.tup []) ab∧Has N S ab (H.set j (.lst x 2 (l'.map aj)))∧l'.Perm l∧l'.Pairwise fun a b=>a.1≤b.1:=by
 obtain⟨m,h1,h2⟩:=rN hr;obtain⟨h3,h4⟩:=srt_facts m;have AZ:m.length=l.length:=by rw[←h2];simp
 have hperm:((srt m).map fun x=>((x.lo,x.hi):Rg)).Perm l:=by rw[←h2];exact h3.map _
 have nM:((srt m).map fun x=>((x.lo,x.hi):Rg)).Pairwise fun a b=>a.1≤b.1:=by rw[List.pairwise_map];exact h4
 have hlen:(srt m).length=l.length:=h3.length_eq.trans AZ;have hown:=hH.own hj;generalize kW:l.map aj=es at*;have oz:es.length=l.length:=by rw[←kW];simp
 cases hown with
 |nul=>
  have Eo:l=[]:=by cases l with|nil=>rfl|cons _ _=>simp at oz
  refine⟨st,(srt m).map fun x=>(x.lo,x.hi),Ev.prim rfl rfl,?_,hperm,nM⟩
  have:(srt m).map (fun x=>((x.lo,x.hi):Rg))=[]:=by
   cases hs:srt m with
   |nil=>rfl
   |cons a b=>rw[hs,Eo] at hlen;simp at hlen
  rw[this];exact hH.Bs hj (fun _ _ _=>rfl) (Nat.le_refl _) rfl rfl .nul (fun k hk=>.inl hk) fun k hk=>by simp only[aN.lst,D.ref] at hk;omega
 |win k aq off es c hm hle hc he=>
  have hne:l≠[]:=fun e=>by have:=h0 e;cases this
  have tS:1≤l.length:=by cases l with|nil=>exact absurd rfl hne|cons _ _=>simp
  have hk:=(hH.ok j _ hj).2 k (by simp only[aN.lst,D.ref]);have xZ:(dV (srt m)).length=es.length*2:=by rw[lP,hlen,oz];omega
  have hwr:st.wr k aq off (dV (srt m))=some ⟨st.bs.set k (.mem aq true (c.take off++dV (srt m)++c.drop (off+(dV (srt m)).length))),st.flr,st.ro⟩:=
   kr hm (by omega) (fH hH hk.1 (.inr (sM _)))
  refine⟨⟨st.bs.set k (.mem aq true (c.take off++dV (srt m)++c.drop (off+(dV (srt m)).length))),st.flr,st.ro⟩,(srt m).map fun x=>(x.lo,x.hi),Ev.prim rfl ?_,?_,hperm,nM⟩
  ·show z8 [.win k aq off es.length 2,.fn 147 []] st=_;have hcc:(c.drop off).take (2*es.length)=dV m:=by rw[Nat.mul_comm,hc,h1]
   simp only[z8,St.mem_of hm,hcc,yX,GN];rw[decide_eq_true (⟨by rw[AZ,oz],by omega,by omega⟩:m.length=es.length∧1≤es.length∧es.length<1099511627776)];simp only[hwr]
  ·refine hH.Bs hj (fun n hn hne=>?_) (by simp) rfl rfl ?_ (fun n hn=>.inl hn) fun n hn=>?_
   ·simp only;rw[List.getElem?_set_ne (fun e=>hne (by simp only[aN.lst,D.ref];omega))]
   ·have h9:=fJ.win (st:=⟨st.bs.set k (.mem aq true (c.take off++dV (srt m)++c.drop (off+(dV (srt m)).length))),st.flr,st.ro⟩) (s:=2) k aq off (((srt m).map fun x=>((x.lo,x.hi):Rg)).map aj) (c.take off++dV (srt m)++c.drop (off+(dV (srt m)).length))
     (by simp only;rw[List.getElem?_set_self hk.2]) (by simp only[List.length_append,List.length_take,List.length_map,List.length_drop,xZ];omega) ?_ (jW _)
    ·simp only[List.length_map,hlen] at h9;rw[oz];exact h9
    ·have NF:(c.take off).length=off:=by simp;omega
     rw[List.append_assoc,List.drop_left' NF,←yi,List.take_left' (by simp only[List.length_map,hlen];omega)]
   ·simp only[aN.lst,D.ref] at hn;simp only[List.length_set];omega
theorem pA (l:List Rg):(l.foldl cM []).length≤l.length:=by
 have key:∀(l acc:List Rg),(l.foldl cM acc).length≤acc.length+l.length:=by
  intro l
  induction l with
  |nil=>intro acc;simp
  |cons x l ih=>
   intro acc;simp only[List.foldl_cons,List.length_cons];have:=ih (cM acc x)
   have h2:(cM acc x).length≤acc.length+1:=by
    unfold cM;split
    ·simp
    ·split<;>simp
   omega
 have:=key l []
 simpa using this
theorem Fl {l:List Rg} (h:∀x∈l,0≤x.2∧x.2≤1114111):∀x∈l.foldl cM [],0≤x.2∧x.2≤1114111:=by
 have key:∀(l acc:List Rg),(∀x∈l,0≤x.2∧x.2≤1114111)→(∀x∈acc,0≤x.2∧x.2≤1114111)→∀x∈l.foldl cM acc,0≤x.2∧x.2≤1114111:=by
  intro l
  induction l with
  |nil=>intro acc _ h x hx;exact h x hx
  |cons y l ih=>
   intro acc h1 h2;refine ih _ (fun x hx=>h1 x (List.mem_cons_of_mem _ hx)) fun x hx=>?_;have hy:=h1 y (List.mem_cons_self ..);unfold cM at hx
   split at hx
   ·simp only[List.mem_cons,List.not_mem_nil,or_false] at hx;rw[hx];exact hy
   ·rename_i k rest;have hk:=h2 k (List.mem_cons_self ..)
    split at hx
    ·rcases List.mem_cons.1 hx with rfl|hx
     ·simp only;omega
     ·exact h2 x (List.mem_cons_of_mem _ hx)
    ·rcases List.mem_cons.1 hx with rfl|hx
     ·exact hy
     ·exact h2 x hx
 exact key l [] h (fun x hx=>by cases hx)
theorem CK (h:Rg) (t:List Rg):((h::t).reverse.map aj)[t.length]?=some (aj h):=by
 rw[List.getElem?_map,List.reverse_cons,List.getElem?_append_right (by simp)];simp
theorem CJ (h h':Rg) (t:List Rg):((h::t).reverse.map aj).set t.length (aj h')=(h'::t).reverse.map aj:=by
 rw[List.reverse_cons,List.map_append,List.set_append_right _ _ (by simp)];simp
theorem za {s0:St} {x:D} {l:List Rg} (hx:V.Rows s0 2 x (l.map aj)) (hl:l.length≤268435456):∃d,Ev pv 133 [x] s0 d s0∧∃all:List Rg,d=a8 (all.foldl cM []).reverse∧all.Perm (l.flatMap cS)∧all.Pairwise fun a b=>a.1≤b.1:=by
 refine Ev.CD rfl K8 rfl rfl rfl ?_;refine zE ?_;obtain⟨hSb,hF,hH⟩:=ri s0;generalize enterSt .ro s0=S at*;have hx:=Arg.of hx hSb;have kJ:=gR l
 have hfi:∀i,((l.take i).flatMap cS).length≤2*l.length:=fun i=>by
  have:=gR (l.take i);simp only[List.length_take] at this;omega
 refine zQ 13 ?_;refine qn ?_;simp only[List.length_map];refine zQ 2 ?_;have hH:=hH.nulE 2;refine zQ 1 ?_;refine EvC.loop (fun mm fr st=>∃(i:Nat) (y:D),fr.clean=⟨26,[x,aH fr 1,aH fr 2,y,.nul,aH fr 5,aH fr 6,aH fr 7,aH fr 8,aH fr 9,x,.int .i64 (l.length:Nat),.int .i64 (i:Nat),aH fr 13,aH fr 14,aH fr 15,aH fr 16,aH fr 17,aH fr 18,aH fr 19,aH fr 20,aH fr 21,aH fr 22,aH fr 23,aH fr 24,aH fr 25],[]⟩∧Has s0.bs.length S st [.lst y 2 (((l.take i).flatMap cS).map aj)]∧(i+mm=l.length)∧((l.take i).flatMap cS=[]→y=.nul)) (l.length) ?_ ?_
 ·exact⟨0,.nul,rfl,hH,by omega,fun _=>rfl⟩
 rintro mm fr st ⟨i,y,hfr,hH,hi,HA⟩;rw[hfr];clear hfr;generalize aH fr=ee;clear fr;refine zQ 4 ?_;have hm:=hfi i;refine qq<|zP (fun h1=>?_) fun h1=>?_
 ·refine zQ 1 ?_
  obtain⟨q,hq⟩:∃q,l[i]?=some q:=⟨l[i]'(by omega),List.getElem?_eq_getElem _⟩
  have hr:=e_ hq
  have xU:(l.take (i+1)).flatMap cS=(l.take i).flatMap cS++cS q:=by
   rw[List.take_add_one,hq];simp
  have VQ:=oU q;refine zQ 4 ?_;refine qr fun VF S0=>?_;refine EvO.cu rfl (ev rfl) (by assumption) rfl (by dsimp only[Fr.put,u1,u2]<;>rfl) ?_;refine qa hH fun k6 st A0 hH=>?_;refine qS hH at0 fun st hH=>?_;dsimp only[u2,u1,u3,u4,setMany,u5,u6,D.cells,Nat.reduceAdd,aj] at hH;refine zQ 3 ?_;refine EvO.hloadS (m:=2) hH rfl (ev rfl) (by exact at0) (by dsimp only[List.drop_succ_cons,List.drop_zero,List.take_succ_cons,List.take_zero,aj]<;>rfl) rfl rfl (by dsimp only[Fr.put,u1,u2]<;>rfl) ?_;refine qv (B4 q) ?_;refine EvO.Dv hH rfl rfl rfl (by exact at1) (eD _ _) rfl rfl rfl rfl rfl rfl rfl ⟨(Nat.le_of_ble_eq_true rfl),(Nat.le_of_ble_eq_true rfl)⟩ (fun _=>by dsimp only[Fr.put,u1,u2]<;>rfl) (by simp only[List.length_map];omega) (.inl hF) (fun LA st J3 hH=>?_);dsimp only[u2,u1] at hH;refine zQ 6 ?_;exact⟨mm-1,by omega,⟨i+1,LA,rfl,(by rw[xU,List.map_append];exact hH.drop 1),by omega,by rw[xU];intro h;obtain⟨h3,h4⟩:=List.append_eq_nil_iff.1 h;rw[J3 (by rw[h4];rfl)];exact HA h3⟩⟩
 ·refine zQ 1 ?_;have hT:l.take i=l:=List.take_of_length_le (by omega);rw[hT] at hH HA hm
  obtain⟨st2,all,hev,uq,hperm,nM⟩:=Ds hH at0 HA (by omega) (fun z hz=>by
   obtain⟨w,_,hw⟩:=List.mem_flatMap.1 hz
   exact Ai w z hw)
  have hlen:=hperm.length_eq
  have hbd:∀z∈all,0≤z.2∧z.2≤1114111:=fun z hz=>by
   obtain⟨w,_,hw⟩:=List.mem_flatMap.1 (hperm.mem_iff.1 hz);have:=mj w z hw;omega
  refine zQ 3 ?_;refine qv (hev) ?_;refine zQ 1 ?_;have hH:=uq;dsimp only[u2] at hH;clear uq hev;have hR:=hH.rows at0;have hH:=hH.nulE 2;refine zQ 4 ?_;refine qn ?_ (hR:=hH.rows at1);simp only[List.length_map];refine zQ 3 ?_;refine EvC.loop (fun mm fr st=>∃(i:Nat) (z:D),fr.clean=⟨26,[x,aH fr 1,aH fr 2,y,z,aH fr 5,aH fr 6,aH fr 7,aH fr 8,aH fr 9,aH fr 10,aH fr 11,aH fr 12,aH fr 13,aH fr 14,aH fr 15,aH fr 16,aH fr 17,aH fr 18,aH fr 19,aH fr 20,aH fr 21,aH fr 22,y,.int .i64 (all.length:Nat),.int .i64 (i:Nat)],[]⟩∧Has s0.bs.length S st [.lst z 2 (((all.take i).foldl cM []).reverse.map aj),.lst y 2 (all.map aj)]∧(i+mm=all.length)) (all.length) ?_ ?_
  ·exact⟨0,.nul,rfl,hH,by omega⟩
  rintro mm fr st ⟨i,z,hfr,hH,hi⟩;rw[hfr];clear hfr;generalize aH fr=ee;clear fr;refine zQ 4 ?_
  have iS:((all.take i).foldl cM []).length≤all.length:=by
   have:=pA (all.take i);simp only[List.length_take] at this;omega
  refine qq<|zP (fun h1=>?_) fun h1=>?_
  ·refine zQ 1 ?_
   obtain⟨q,hq⟩:∃q,all[i]?=some q:=⟨all[i]'(by omega),List.getElem?_eq_getElem _⟩
   have hr:=e_ hq
   have HL:(all.take (i+1)).foldl cM []=cM ((all.take i).foldl cM []) q:=by
    rw[List.take_add_one,hq,List.foldl_append];rfl
   generalize mW:(all.take i).foldl cM []=acc at*;refine zQ 4 ?_;refine qi hH at1 fun p27 hp27=>?_;refine EvO.tw hH rfl (ev rfl) (by assumption) (by exact at1) (by assumption) rfl (put_T rfl _) ?_;refine qa hH fun k8 st hk8 hH=>?_;refine qS hH at0 fun st hH=>?_;dsimp only[u2,u1,u3,u4,setMany,u5,u6,D.cells,Nat.reduceAdd,aj] at hH;refine zQ 1 ?_
   rcases acc with _|⟨h,t⟩
   ·refine zQ 3 ?_;refine qn ?_ (hR:=hH.rows at1);simp only[List.length_map,List.length_nil,List.length_reverse];refine EvO.ky (z:=(-1)) rfl (ev rfl) (ev rfl) (by(try simp only[List.length_reverse,List.length_cons,List.length_nil,List.length_append,List.length_map,List.length_set]);rw[wrap_i64 (by omega) (by omega)]<;>omega) (put_T rfl _) ?_;refine zQ 2 ?_;have bS:decide ((-1:Int)≥0)=false:=by decide
    refine qq<|EvC.cutT 44 (.bool false) [] ?_ (fun ff tmp htmp=>?_)
    ·refine zQ 13 ?_;refine EvO.nil (leafT ?_ ?_)
     ·dsimp only[setW,List.foldl,nth,u2,u1]
      all_goals(first|rfl|simp)
     ·dsimp only[Fr.putO,Fr.put,Fr.clean,Fr.ev,Fr.get,nth,look,u1,u2,v1,v2,v4]
      all_goals(first|rfl|(simp[bS];done)|(simp_all;done)|(simp[bS];omega)|(simp_all;omega))
    dsimp only[setW,List.foldl,nth,u2,u1];dsimp only[Fr.putO,Fr.put,Fr.clean,Fr.ev,Fr.get,nth,look,u1,u2,v1,v2,v4];refine zQ 3 ?_;refine EvO.hloadS (m:=2) hH rfl (ev rfl) (by exact at0) (by dsimp only[List.drop_succ_cons,List.drop_zero,List.take_succ_cons,List.take_zero,aj]<;>rfl) rfl rfl (put_T rfl _) ?_;refine qh (s:=2) (vs:=[_]) hH fun k59 st NP hH=>?_;refine EvO.happend (s:=2) hH rfl (ev rfl) (ev rfl) (by exact at2) (by exact hH.rows (by exact at0)) rfl rfl rfl rfl rfl rfl rfl ⟨(Nat.le_of_ble_eq_true rfl),(Nat.le_of_ble_eq_true rfl)⟩ (fun _=>(put_T rfl _)) (by simp only[List.length_cons,List.length_nil,List.length_map,List.length_reverse]<;>omega) (by exact .inl hF) (fun L_ st hH=>?_);dsimp only[u2,u1,u3,u4,setMany,u5,u6,D.cells,Nat.reduceAdd,aj] at hH;refine zQ 6 ?_;exact⟨mm-1,by omega,⟨i+1,L_,rfl,(by rw[HL];exact hH.drop 2),by omega⟩⟩
   ·simp only[List.length_cons] at iS;refine zQ 3 ?_;refine qn ?_ (hR:=hH.rows at1);simp only[List.length_map,List.length_cons,List.length_reverse];refine EvO.ky (z:=((t.length:Nat):Int)) rfl (ev rfl) (ev rfl) (by(try simp only[List.length_reverse,List.length_cons,List.length_nil,List.length_append,List.length_map,List.length_set]);rw[wrap_i64 (by omega) (by omega)]<;>omega) (put_T rfl _) ?_;refine zQ 2 ?_;have zm:=CK h t;have gG:=CJ h (h.1,max h.2 q.2) t;have A2:=Fl (l:=all.take i) (fun x hx=>hbd x (List.mem_of_mem_take hx)) h (by rw[mW];exact List.mem_cons_self ..);have bS:decide (((t.length:Nat):Int)≥0)=true:=by rw[decide_eq_true];omega
    refine qq<|EvC.cutT 44 (.bool (decide (q.1≤h.2+1))) [] ?_ (fun ff tmp htmp=>?_)
    ·refine zQ 7 ?_;refine qi hH at1 (fun RE Ns=>?_) (hg:=wi bS);refine EvO.fx (fo:=1) (m:=0) (o2:=1) (wantD_is rfl rfl rfl bS) (ev rfl) (by assumption) rfl rfl rfl (fun _=>(put_T rfl _)) (fun RD Nr=>?_);refine zQ 1 ?_;refine EvO.addS32 (wantD_is rfl rfl rfl bS) (ev rfl) (ev rfl) (by omega) (by omega) (put_T rfl _) ?_;refine zQ 2 ?_;refine EvO.nil (leafT ?_ ?_)
     ·dsimp only[setW,List.foldl,nth,u2,u1]
      all_goals(first|rfl|simp)
     ·dsimp only[Fr.putO,Fr.put,Fr.clean,Fr.ev,Fr.get,nth,look,u1,u2,v1,v2,v4]
      all_goals(first|rfl|(simp[bS];done)|(simp_all;done)|(simp[bS];omega)|(simp_all;omega))
    dsimp only[setW,List.foldl,nth,u2,u1];dsimp only[Fr.putO,Fr.put,Fr.clean,Fr.ev,Fr.get,nth,look,u1,u2,v1,v2,v4];refine EvC.cond (by assumption) (fun h2=>?_) (fun h2=>?_)<;>try simp only[decide_eq_true_eq,decide_eq_false_iff_not] at h2
    ·refine zQ 5 ?_;refine qi hH at1 fun Mm Hv=>?_;refine EvO.fx (fo:=1) (m:=0) (o2:=1) rfl (ev rfl) (by assumption) rfl rfl rfl (fun _=>(put_T rfl _)) (fun Ml Hu=>?_);refine zQ 3 ?_;refine EvO.Ff (t1:=0) (t2:=0) rfl (ev rfl) (ev rfl) (put_T rfl _) ?_;refine qi hH at1 fun Vx SP=>?_;refine EvO.fx (fo:=1) (m:=0) (o2:=1) rfl (ev rfl) (by assumption) rfl rfl rfl (fun _=>(put_T rfl _)) (fun Ry Nj=>?_);refine EvO.iK hH rfl (ev rfl) (ev rfl) (by assumption) rfl rfl (by exact at1) (by assumption) (Nat.le_of_ble_eq_true rfl) (by exact .inl hF) (fun st hH=>?_);dsimp only[u2,u1,u3,u4,setMany,u5,u6,D.cells,Nat.reduceAdd,aj] at hH;refine zQ 5 ?_;exact⟨mm-1,by omega,⟨i+1,z,rfl,(by rw[HL];simp only[cM,if_pos h2];rw[←gG];exact hH.drop 1),by omega⟩⟩
    ·refine zQ 2 ?_;refine EvO.hloadS (m:=2) hH rfl (ev rfl) (by exact at0) (by dsimp only[List.drop_succ_cons,List.drop_zero,List.take_succ_cons,List.take_zero,aj]<;>rfl) rfl rfl (put_T rfl _) ?_;refine qh (s:=2) (vs:=[_]) hH fun k59 st NP hH=>?_;refine EvO.happend (s:=2) hH rfl (ev rfl) (ev rfl) (by exact at2) (by exact hH.rows (by exact at0)) rfl rfl rfl rfl rfl rfl rfl ⟨(Nat.le_of_ble_eq_true rfl),(Nat.le_of_ble_eq_true rfl)⟩ (fun _=>(put_T rfl _)) (by simp only[List.length_cons,List.length_nil,List.length_map,List.length_reverse]<;>omega) (by exact .inl hF) (fun L_ st hH=>?_);dsimp only[u2,u1,u3,u4,setMany,u5,u6,D.cells,Nat.reduceAdd,aj] at hH;refine zQ 6 ?_;exact⟨mm-1,by omega,⟨i+1,L_,rfl,(by rw[HL];simp only[cM,if_neg h2];rw[List.reverse_cons (a:=q),List.map_append];exact hH.drop 2),by omega⟩⟩
  ·refine zQ 6 ?_;rw[List.take_of_length_le (by omega)] at hH;refine EvC.ret ⟨rx,_,_,rfl,rl hSb hH ((hH.freeze at0 (dr _) (n:=15) (by decide))),?_⟩;exact⟨all,by rw[gm],hperm,nM⟩
def gX (fr:Go.V.Fr) (k:Nat):Go.V.D:=Go.V.nth .junk fr.loc k
def fw (l a:List Rg):Prop:=canon a∧∀r,ez a r↔mP r∧ez l r
theorem fw.unique {l a b:List Rg} (h:fw l a) (g:fw l b):a=b:=lX h.1 g.1 fun r=>(h.2 r).trans (g.2 r).symm
noncomputable def ec (l:List Rg):Bool:=@decide (fw l l) (Classical.propDecidable _)
theorem Am {l a:List Rg} (h:fw l a):ec l=decide (l=a):=by
 unfold ec
 by_cases hl:l=a
 ·rw[decide_eq_true hl];exact@decide_eq_true _ (Classical.propDecidable _) (by rw[hl] at h⊢;exact h)
 ·rw[decide_eq_false hl];exact@decide_eq_false _ (Classical.propDecidable _) (fun g=>hl (g.unique h))
theorem AE (p q:Rg):iB pv .neq 116 (.agg (aj p)) (.agg (aj q))=some (.bool (!decide (p=q))):=by
 have h:∀a b a' b':Int,iB pv .neq 116 (.agg [.int .i32 a,.int .i32 b]) (.agg [.int .i32 a',.int .i32 b'])=Option.map (fun b=>D.bool !b) (match some (a==a') with|some true=>(match some (b==b') with|some true=>some true|some false=>some false|none=>none)|some false=>some false|none=>none):=fun _ _ _ _=>rfl;obtain⟨a,b⟩:=p;obtain⟨a',b'⟩:=q;simp only[aj,h]
 by_cases h1:a=a'
 ·subst h1
  by_cases h2:b=b'
  ·subst h2;simp
  ·have:(b==b')=false:=by simpa using h2
   simp[this,h2]
 ·have:(a==a')=false:=by simpa using h1
  simp[this,h1]
theorem tf {α:Type} {a b:List α} {i:Nat} {x y:α} (ha:a[i]?=some x) (hb:b[i]?=some y) (h:a.take i=b.take i) (JD:x=y):a.take (i+1)=b.take (i+1):=by
 rw[List.take_add_one,List.take_add_one,h,ha,hb,JD]
theorem AF {α:Type} {a b:List α} {i:Nat} {x y:α} (ha:a[i]?=some x) (hb:b[i]?=some y) (JD:¬x=y):¬a=b:=by
 intro h;subst h;rw[ha] at hb;exact JD (Option.some.inj hb)
theorem DG {s0:St} {x y:D} {l m:List Rg} (hx:V.Rows s0 2 x (l.map aj)) (hy:V.Rows s0 2 y (m.map aj)) (hl:l.length≤1073741824) (hm:m.length≤1073741824):Ev pv 132 [x,y] s0 (.bool (decide (l=m))) s0:=by
 refine Ev.mk1 rfl K9 rfl rfl rfl ?_;refine zE ?_;obtain⟨hSb,hF,hH⟩:=ri s0;generalize enterSt .ro s0=S at*;have hx:=Arg.of hx hSb;have hy:=Arg.of hy hSb;refine zQ 8 ?_;refine qn ?_;simp only[List.length_map];refine qm ?_;refine qn ?_;simp only[List.length_map];refine zQ 2 ?_
 by_cases hlen:l.length=m.length
 ·refine EvC.cond (v:=false) ?_ (fun h=>by cases h) (fun _=>?_)
  ·dsimp only[Fr.ev,Fr.get,nth,V.look];rw[hlen];simp
  refine zQ 5 ?_;refine qn ?_;simp only[List.length_map];refine zQ 3 ?_;refine EvC.loop (fun mm fr st=>∃(i:Nat),fr.clean=⟨14,[x,y,gX fr 2,gX fr 3,.bool false,gX fr 5,gX fr 6,gX fr 7,gX fr 8,gX fr 9,gX fr 10,gX fr 11,.int .i64 (l.length:Nat),.int .i64 (i:Nat)],[]⟩∧Has s0.bs.length S st []∧(i+mm=l.length)∧(l.take i=m.take i)) (l.length) ?_ ?_
  ·exact⟨0,rfl,hH,by omega,rfl⟩
  rintro mm fr st ⟨i,hfr,hH,hi,ht⟩;rw[hfr];clear hfr;generalize gX fr=ee;clear fr;refine zQ 5 ?_;refine zP (fun h1=>?_) fun h1=>?_
  ·refine zQ 1 ?_
   obtain⟨p,hp⟩:∃p,l[i]?=some p:=⟨l[i]'(by omega),List.getElem?_eq_getElem _⟩
   obtain⟨q,hq⟩:∃q,m[i]?=some q:=⟨m[i]'(by omega),List.getElem?_eq_getElem _⟩
   have hr1:=e_ hp;have n5:=e_ hq;refine zQ 11 ?_;refine qr fun Qb JZ=>?_;refine EvO.cu rfl (ev rfl) (by assumption) rfl (put_T rfl _) ?_;refine zQ 2 ?_;refine qr fun LF FD=>?_;refine EvO.cu rfl (ev rfl) (by assumption) rfl (put_T rfl _) ?_;refine EvO.IG rfl (ev rfl) (ev rfl) (AE p q) (put_T rfl _) ?_;refine zQ 1 ?_;refine EvC.cond (by rfl) (fun h2=>?_) (fun h2=>?_)<;>try simp only[decide_eq_true_eq,decide_eq_false_iff_not,Bool.not_eq_true',Bool.not_eq_false'] at h2
   ·refine zQ 4 ?_;rw[decide_eq_false (AF hp hq (by simpa using h2))];refine EvC.ret ⟨rx,_,rfl,rl hSb hH (rfl)⟩
   ·refine zQ 5 ?_;exact⟨mm-1,by omega,⟨i+1,rfl,hH,by omega,tf hp hq ht (by simpa using h2)⟩⟩
  ·refine zQ 5 ?_;rw[decide_eq_true (by rw[List.take_of_length_le (by omega),List.take_of_length_le (by omega)] at ht;exact ht)];refine EvC.ret ⟨rx,_,rfl,rl hSb hH (rfl)⟩
 ·refine EvC.cond (v:=true) ?_ (fun _=>?_) (fun h=>by cases h)
  ·dsimp only[Fr.ev,Fr.get,nth,V.look];simp;omega
  refine zQ 4 ?_;rw[decide_eq_false (fun h=>hlen (by rw[h]))];refine EvC.ret ⟨rx,_,rfl,rl hSb hH (rfl)⟩
theorem uQ {s0:St} {x:D} {l:List Rg} (hx:V.Rows s0 2 x (l.map aj)) (hl:l.length≤1048576):Ev pv 121 [x] s0 (.bool (ec l)) s0:=by
 refine Ev.mk1 rfl Ld rfl rfl rfl ?_;refine zE ?_;obtain⟨hSb,hF,hH⟩:=ri s0;generalize enterSt .ro s0=S at*;have hx:=Arg.of hx hSb;refine zQ 4 ?_;obtain⟨_,hev,all,rfl,hperm,nM⟩:=za (hx.rows hH) (by omega);have hM:fw l (all.foldl cM []).reverse:=po (fun x=>hperm.mem_iff) nM;have hlen:=hperm.length_eq;have kJ:=gR l;have iS:=pA all;rw[Am hM];refine zQ 4 ?_;refine qv (hev) ?_;refine qv (DG (hx.rows hH) (eD _ _) (by omega) (by rw[List.length_reverse];omega)) ?_;refine zQ 2 ?_;refine EvC.ret ⟨rx,_,rfl,rl hSb hH (rfl)⟩
structure aA where
 op:Int
 x:Int
 y:Int
 rd:D
 rs:List Rg
def aB (i:aA):List D:=[.int .i64 i.op,.int .i64 i.x,.int .i64 i.y,i.rd]
def aA.ok (i:aA):Prop:=SlD i.rd 2 (i.rs.map aj)∧i.rs.length≤1048576
def ai (n:Int):List D:=[.int .i64 n]
structure Pg where
 cd:D
 code:List aA
 sd:D
 ah:List Int
structure Pg.ok (p:Pg):Prop where
 c:SlD p.cd 4 (p.code.map aB)
 s:SlD p.sd 1 (p.ah.map ai)
 i:∀x∈p.code,x.ok
 cl:p.code.length≤1048576
 sl:p.ah.length≤1048576
def Pg.cs (p:Pg):List D:=[p.cd,p.sd]
def Pg.d (p:Pg):D:=.agg p.cs
theorem fY {l:List aA} {i:Nat} {q:aA} (h:l[i]?=some q):(l.map aB)[i]?=some (aB q):=by rw[List.getElem?_map,h];rfl
theorem dX {l:List Int} {i:Nat} {q:Int} (h:l[i]?=some q):(l.map ai)[i]?=some (ai q):=by rw[List.getElem?_map,h];rfl
def pG (v n:Int):Bool:=decide (v≥0) &&decide (v<n)
noncomputable def cF (n ns pc:Nat) (i:aA):Bool:=
 if i.op=1 then i.y==0 &&(decide (((pc+1:Nat):Int)<n) &&i.x==0 &&ec i.rs)
 else i.rs.isEmpty &&
  (if i.op=2 then pG i.x n &&pG i.y n
  else i.y==0 &&
   (if i.op=3 then pG i.x n
   else if i.op=4 then decide (((pc+1:Nat):Int)<n) &&pG i.x 10
   else if i.op=5∨i.op=6 then decide (((pc+1:Nat):Int)<n) &&i.x==0
   else if i.op=7 then pG i.x ns
   else false))
theorem gg {s0:St} (v n:Int):Ev pv 100 [.int .i64 v,.int .i64 n] s0 (.bool (pG v n)) s0:=by
 refine Ev.mk1 rfl Lq rfl rfl rfl ?_;refine zE ?_;obtain⟨hSb,hF,hH⟩:=ri s0;generalize enterSt .ro s0=S at*;refine zQ 5 ?_;refine EvC.kh 4 (.bool (decide (v≥0) &&decide (v<n))) [] ?_ (fun ff tmp=>?_)
 ·refine zQ 3 ?_;refine EvO.two 7 rfl (fun bS=>?_) (fun bS=>?_)
  ·refine zQ 5 ?_;refine EvO.nil (aK ?_);refine zG ?_
   all_goals(simp[bS];done)
  ·refine zQ 5 ?_;refine EvO.nil (aK ?_);refine zG ?_
   all_goals(simp[bS];done)
 dsimp only[setW,List.foldl,nth,u2,u1];refine EvC.ret ⟨rx,_,rfl,rl hSb hH (rfl)⟩
theorem z_ {s0:St} {p:Pg} {pc:Nat} {i:aA} (hp:p.ok) (hi:p.code[pc]?=some i):Ev pv 99 [p.d,.int .i64 (pc:Nat)] s0 (.bool (cF p.code.length p.ah.length pc i)) s0:=by
 refine Ev.mk1 rfl OO rfl rfl rfl ?_;refine zE ?_;obtain⟨hSb,hF,hH⟩:=ri s0;generalize enterSt .ro s0=S at*;have hc:=hp.c.arg s0.bs.length S;have hs:=hp.s.arg s0.bs.length S;have Kg:=hp.i i (List.mem_of_getElem? hi);have hir:=Kg.1.arg s0.bs.length S;have hil:=Kg.2;have hcl:=hp.cl;have iN:=hp.sl;have hr:=fY hi;have hlt:=lt_get hi;unfold Pg.d;refine zQ 2 ?_;refine qb hH fun k2 st hk2 hH=>?_;dsimp only[u2,u1,u3,u4,setMany,u5,u6,D.cells,Nat.reduceAdd,Pg.cs,aB,ai] at hH;refine zQ 7 ?_;refine qr fun LH FF=>?_;refine EvO.cu rfl (ev rfl) (by assumption) rfl (by dsimp only[Fr.put,u1,u2]<;>rfl) ?_;refine qa hH fun k5 st Ep hH=>?_;refine qS hH at0 fun st hH=>?_;dsimp only[u2,u1,u3,u4,setMany,u5,u6,D.cells,Nat.reduceAdd,Pg.cs,aB,ai] at hH;refine zQ 7 ?_;refine qn ?_;simp only[List.length_map];refine zQ 5 ?_;refine EvC.kh 36 (.bool (((i.op !=1) &&decide ((i.rs.length:Int)>0))||((i.op !=2) &&(i.y !=0)))) [18,19,20,21,22,23,24,25,26,27,28,29,30,31,32,33,34,35] ?_ (fun ff tmp=>?_)
 ·refine zQ 4 ?_;refine EvO.two 21 rfl (fun hg3=>?_) (fun hg3=>?_)
  ·refine zQ 2 ?_;refine qn ?_ (hg:=wi hg3);simp only[List.length_map];refine zQ 3 ?_;refine EvO.two 27 rfl (fun eS=>?_) (fun eS=>?_)
   ·refine zQ 9 ?_;refine EvO.nil (aK ?_);refine zG ?_
    all_goals(simp_all;done)
   ·refine zQ 4 ?_;refine EvO.two 31 rfl (fun hg13=>?_) (fun hg13=>?_)
    ·refine zQ 3 ?_;refine EvO.pickT (wantD_is rfl rfl rfl eS) rfl hg13 (by dsimp only[Fr.put,u1,u2]<;>rfl) ?_;refine zQ 1 ?_;refine EvO.nil (aK ?_);refine zG ?_
     all_goals(simp_all;done)
    ·refine zQ 3 ?_;refine EvO.pickF (wantD_is rfl rfl rfl eS) rfl hg13 (by dsimp only[Fr.put,u1,u2]<;>rfl) ?_;refine zQ 1 ?_;refine EvO.nil (aK ?_);refine zG ?_
     all_goals(simp_all;done)
  ·refine zQ 10 ?_;refine EvO.two 31 rfl (fun hg13=>?_) (fun hg13=>?_)
   ·refine zQ 5 ?_;refine EvO.nil (aK ?_);refine zG ?_
    all_goals(simp[hg3,hg13];done)
   ·refine zQ 5 ?_;refine EvO.nil (aK ?_);refine zG ?_
    all_goals(simp[hg3,hg13];done)
 dsimp only[setW,List.foldl,nth,u2,u1];generalize ff 18=UU;generalize ff 19=UT;generalize ff 20=US;generalize ff 21=UR;generalize ff 22=UQ;generalize ff 23=UP;generalize ff 24=UO;generalize ff 25=UN;generalize ff 26=UM;generalize ff 27=UL;generalize ff 28=Wt;generalize ff 29=Ws;generalize ff 30=Wr;generalize ff 31=Wq;generalize ff 32=Wp;generalize ff 33=Wo;generalize ff 34=Wn;generalize ff 35=Wm;have J8:(i.rs.isEmpty=!decide ((i.rs.length:Int)>0)):=by cases i.rs<;>simp<;>omega
 have hsh:cF p.code.length p.ah.length pc i=if((i.op !=1) &&decide ((i.rs.length:Int)>0))||((i.op !=2) &&(i.y !=0)) then false else
   (if i.op=1 then(decide (((pc+1:Nat):Int)<p.code.length) &&i.x==0) &&ec i.rs
   else if i.op=2 then pG i.x p.code.length &&pG i.y p.code.length
   else if i.op=3 then pG i.x p.code.length
   else if i.op=4 then decide (((pc+1:Nat):Int)<p.code.length) &&pG i.x 10
   else if i.op=5 then decide (((pc+1:Nat):Int)<p.code.length) &&i.x==0
   else if i.op=6 then decide (((pc+1:Nat):Int)<p.code.length) &&i.x==0
   else if i.op=7 then pG i.x p.ah.length
   else false):=by
  unfold cF;rw[J8];generalize decide ((i.rs.length:Int)>0)=b
  by_cases h1:i.op=1
  ·have h2:i.op≠2:=by omega
   simp only[h1];cases b<;>by_cases hy:i.y=0<;>simp[hy]
  ·by_cases h2:i.op=2
   ·simp only[h2];cases b<;>simp
   ·by_cases QQ:i.op=5
    ·simp only[QQ];cases b<;>by_cases hy:i.y=0<;>simp[hy]
    ·cases b<;>by_cases hy:i.y=0<;>simp[h1,h2,QQ,hy]
 rw[hsh];refine qc (fun h0=>?_) (fun h0=>?_)<;>try simp only[cs] at h0
 ·refine zQ 4 ?_;rw[if_pos h0];refine EvC.ret ⟨rx,_,rfl,rl hSb hH (rfl)⟩
 ·rw[if_neg (by rw[h0];simp)];refine zQ 13 ?_;refine zI (fun h1=>?_) fun h1=>?_
  ·rw[if_pos h1];refine qq<|EvC.kh 4 (.bool ((decide (((pc+1:Nat):Int)<p.code.length) &&(i.x==0)) &&ec i.rs)) [] ?_ (fun ff tmp=>?_)
   ·refine zQ 2 ?_;refine EvO.two 42 rfl (fun iD=>?_) (fun iD=>?_)
    ·refine zQ 5 ?_;refine EvO.two 47 rfl (fun gw=>?_) (fun gw=>?_)
     ·refine zQ 2 ?_;refine qv (uQ (hir.rows hH) hil) ?_ (hg:=wi gw);refine zQ 2 ?_;refine EvO.nil (aK ?_);refine zG ?_
      all_goals(simp[iD,gw];done)
     ·refine zQ 5 ?_;refine EvO.nil (aK ?_);refine zG ?_
      all_goals(simp[iD,gw];done)
    ·refine zQ 10 ?_;refine EvO.nil (aK ?_);refine zG ?_
     all_goals(simp[iD];done)
   dsimp only[setW,List.foldl,nth,u2,u1];refine EvC.ret ⟨rx,_,rfl,rl hSb hH (rfl)⟩
  ·rw[if_neg h1];refine zQ 5 ?_;refine zI (fun h2=>?_) fun h2=>?_
   ·rw[if_pos h2];refine qq<|EvC.kh 4 (.bool (pG i.x p.code.length &&pG i.y p.code.length)) [] ?_ (fun ff tmp=>?_)
    ·refine zQ 4 ?_;refine qn ?_;simp only[List.length_map];refine qv (gg _ _) ?_;refine qm ?_;refine EvO.two 60 rfl (fun gw=>?_) (fun gw=>?_)
     ·refine zQ 4 ?_;refine qn ?_ (hg:=wi gw);simp only[List.length_map];refine qv (gg _ _) ?_ (hg:=wi gw);refine zQ 2 ?_;refine EvO.nil (aK ?_);refine zG ?_
      all_goals(simp[gw];done)
     ·refine zQ 8 ?_;refine EvO.nil (aK ?_);refine zG ?_
      all_goals(simp[gw];done)
    dsimp only[setW,List.foldl,nth,u2,u1];refine EvC.ret ⟨rx,_,rfl,rl hSb hH (rfl)⟩
   ·rw[if_neg h2];refine zQ 5 ?_;refine zI (fun h3=>?_) fun h3=>?_
    ·rw[if_pos h3];refine zQ 6 ?_;refine qn ?_;simp only[List.length_map];refine qv (gg _ _) ?_;refine zQ 2 ?_;refine EvC.ret ⟨rx,_,rfl,rl hSb hH (rfl)⟩
    ·rw[if_neg h3];refine zQ 5 ?_;refine zI (fun h4=>?_) fun h4=>?_
     ·rw[if_pos h4];refine qq<|EvC.kh 4 (.bool (decide (((pc+1:Nat):Int)<p.code.length) &&pG i.x 10)) [] ?_ (fun ff tmp=>?_)
      ·refine zQ 2 ?_;refine EvO.two 79 rfl (fun iD=>?_) (fun iD=>?_)
       ·refine zQ 2 ?_;refine qv (gg _ _) ?_ (hg:=wi iD);refine zQ 2 ?_;refine EvO.nil (aK ?_);refine zG ?_
        all_goals(simp[iD];done)
       ·refine zQ 5 ?_;refine EvO.nil (aK ?_);refine zG ?_
        all_goals(simp[iD];done)
      dsimp only[setW,List.foldl,nth,u2,u1];refine EvC.ret ⟨rx,_,rfl,rl hSb hH (rfl)⟩
     ·rw[if_neg h4];refine zQ 6 ?_
      by_cases h5:i.op=5
      ·rw[if_pos h5];refine qD rfl (by simp[h5]) ?_;refine zQ 1 ?_;refine qD rfl (by simp[h5]) ?_;refine qq<|EvC.kh 4 (.bool (decide (((pc+1:Nat):Int)<p.code.length) &&(i.x==0))) [] ?_ (fun ff tmp=>?_)
       ·refine zQ 2 ?_;refine EvO.two 88 rfl (fun iD=>?_) (fun iD=>?_)
        ·refine zQ 5 ?_;refine EvO.nil (aK ?_);refine zG ?_
         all_goals(simp[iD];done)
        ·refine zQ 5 ?_;refine EvO.nil (aK ?_);refine zG ?_
         all_goals(simp[iD];done)
       dsimp only[setW,List.foldl,nth,u2,u1];refine EvC.ret ⟨rx,_,rfl,rl hSb hH (rfl)⟩
      ·rw[if_neg h5];refine qE rfl (by simp[h5]) ?_;refine zQ 4 ?_;refine zI (fun h6=>?_) fun h6=>?_
       ·rw[if_pos h6];refine qq<|EvC.kh 4 (.bool (decide (((pc+1:Nat):Int)<p.code.length) &&(i.x==0))) [] ?_ (fun ff tmp=>?_)
        ·refine zQ 2 ?_;refine EvO.two 88 rfl (fun iD=>?_) (fun iD=>?_)
         ·refine zQ 5 ?_;refine EvO.nil (aK ?_);refine zG ?_
          all_goals(simp[iD];done)
         ·refine zQ 5 ?_;refine EvO.nil (aK ?_);refine zG ?_
          all_goals(simp[iD];done)
        dsimp only[setW,List.foldl,nth,u2,u1];refine EvC.ret ⟨rx,_,rfl,rl hSb hH (rfl)⟩
       ·rw[if_neg h6];refine zQ 5 ?_;refine zI (fun h7=>?_) fun h7=>?_
        ·rw[if_pos h7];refine zQ 6 ?_;refine qn ?_;simp only[List.length_map];refine qv (gg _ _) ?_;refine zQ 2 ?_;refine EvC.ret ⟨rx,_,rfl,rl hSb hH (rfl)⟩
        ·rw[if_neg h7];refine zQ 5 ?_;refine EvC.ret ⟨rx,_,rfl,rl hSb hH (rfl)⟩
def aC (fr:Go.V.Fr) (k:Nat):Go.V.D:=Go.V.nth .junk fr.loc k
def dz (b:Bool):List D:=[.bool b]
theorem qX {l:List Bool} {i:Nat} {q:Bool} (h:l[i]?=some q):(l.map dz)[i]?=some (dz q):=by rw[List.getElem?_map,h];rfl
theorem qQ (l:List Bool):∀e∈l.map dz,∀d∈e,bC d=true:=by
 intro e he d hd;obtain⟨x,_,rfl⟩:=List.mem_map.1 he;simp only[dz,List.mem_cons,List.not_mem_nil,or_false] at hd;subst hd;rfl
theorem D1 (l:List Bool):∀e∈l.map dz,e.length=1:=by
 intro e he;obtain⟨x,_,rfl⟩:=List.mem_map.1 he;rfl
def ue (l:List Bool):D:=.sl ((l.map dz).map (iV 1))
theorem sX (l:List Bool):SlD (ue l) 1 (l.map dz):=SlD.frozen (D1 l) (qQ l)
theorem mR (l:List Int):∀e∈l.map ai,∀d∈e,bC d=true:=by
 intro e he d hd;obtain⟨x,_,rfl⟩:=List.mem_map.1 he;simp only[ai,List.mem_cons,List.not_mem_nil,or_false] at hd;subst hd;rfl
theorem Fp (l:List Int):∀e∈l.map ai,e.length=1:=by
 intro e he;obtain⟨x,_,rfl⟩:=List.mem_map.1 he;rfl
def CM (l:List Int):D:=.sl ((l.map ai).map (iV 1))
theorem vF (l:List Int):SlD (CM l) 1 (l.map ai):=SlD.frozen (Fp l) (mR l)
def bG (pc:Nat) (i:aA):List Int:=
 if i.op=2 then[i.x,i.y] else if i.op=3 then[i.x] else if i.op=7 then[] else[((pc+1:Nat):Int)]
def gT (code:List aA):Prop:=∀pc i,code[pc]?=some i→∀v∈bG pc i,0≤v∧v<code.length
theorem uG {n ns pc:Nat} {i:aA} (h:cF n ns pc i=true):∀v∈bG pc i,0≤v∧v<n:=by
 intro v hv
 have da:∀a b:Int,pG a b=true→0≤a∧a<b:=fun a b h=>by
  unfold pG at h;simp only[Bool.and_eq_true,decide_eq_true_eq] at h;exact⟨h.1,h.2⟩
 unfold cF at h;unfold bG at hv
 split at h
 ·rename_i h1;rw[if_neg (by omega),if_neg (by omega),if_neg (by omega)] at hv;simp only[Bool.and_eq_true,decide_eq_true_eq] at h;simp only[List.mem_cons,List.not_mem_nil,or_false] at hv;subst hv;omega
 ·simp only[Bool.and_eq_true] at h;obtain⟨_,h⟩:=h
  split at h
  ·rename_i h2;rw[if_pos h2] at hv;simp only[Bool.and_eq_true] at h;simp only[List.mem_cons,List.not_mem_nil,or_false] at hv
   rcases hv with rfl|rfl
   ·exact da _ _ h.1
   ·exact da _ _ h.2
  ·rename_i h2;rw[if_neg h2] at hv;simp only[Bool.and_eq_true] at h;obtain⟨_,h⟩:=h
   split at h
   ·rename_i h3;rw[if_pos h3] at hv;simp only[List.mem_cons,List.not_mem_nil,or_false] at hv;subst hv;exact da _ _ h
   ·rename_i h3;rw[if_neg h3] at hv
    split at h
    ·rename_i h4;rw[if_neg (by omega)] at hv;simp only[Bool.and_eq_true,decide_eq_true_eq] at h;simp only[List.mem_cons,List.not_mem_nil,or_false] at hv;subst hv;omega
    ·split at h
     ·rename_i h5;rw[if_neg (by omega)] at hv;simp only[Bool.and_eq_true,decide_eq_true_eq] at h;simp only[List.mem_cons,List.not_mem_nil,or_false] at hv;subst hv;omega
     ·split at h
      ·rename_i h7;rw[if_pos h7] at hv;cases hv
      ·cases h
def yl (code:List aA):Nat→List Bool→List Int→List Bool
 |0,seen,_=>seen
 |_+1,seen,[]=>seen
 |f+1,seen,v::fN=>match seen[v.toNat]? with
  |some false=>match code[v.toNat]? with
   |some i=>yl code f (seen.set v.toNat true) ((bG v.toNat i).reverse++fN)
   |none=>seen
  |_=>yl code f seen fN
def a_ (code:List aA) (start:Int):List Bool:=yl code (3*code.length+1) (List.replicate code.length false) [start]
theorem ua (code:List aA):∀(f:Nat) (seen:List Bool) (fN:List Int),(yl code f seen fN).length=seen.length
 |0,_,_=>rfl
 |_+1,_,[]=>rfl
 |f+1,seen,v::fN=>by
  unfold yl
  split
  ·split
   ·rw[ua code f];simp
   ·rfl
  ·exact ua code f seen fN
theorem o4 (code:List aA) (s:Int):(a_ code s).length=code.length:=by
 unfold a_;rw[ua];simp
theorem count_set {seen:List Bool} {k:Nat} (h:seen[k]?=some false):(seen.set k true).count false+1=seen.count false:=by
 induction seen generalizing k with
 |nil=>simp at h
 |cons b l ih=>
  cases k with
  |zero=>simp at h;subst h;simp
  |succ k=>
   have:=ih (k:=k) (by simpa using h);simp only[List.set_cons_succ,List.count_cons];omega
theorem vm (pc:Nat) (i:aA):(bG pc i).length≤2:=by
 unfold bG;split
 ·simp
 ·split
  ·simp
  ·split<;>simp
theorem BO (v:Int) (r:List Int):((v::r).reverse.map ai)[r.length]?=some (ai v):=by
 rw[List.getElem?_map,List.reverse_cons,List.getElem?_append_right (by simp)];simp
theorem EG (v:Int) (r:List Int):(((v::r).reverse.map ai).take r.length).drop 0=r.reverse.map ai:=by
 rw[List.reverse_cons,List.map_append,List.drop_zero,List.take_left' (by simp)]
theorem zu {s0:St} {cd:D} {code:List aA} {start:Int} (n_:SlD cd 4 (code.map aB)) (hlen:code.length≤1048576) (hcl:gT code) (f_:0≤start∧start<code.length):Ev pv 101 [cd,.int .i64 start] s0 (ue (a_ code start)) s0:=by
 refine Ev.mk1 rfl Lp rfl rfl rfl ?_;refine zE ?_;obtain⟨hSb,hF,hH⟩:=ri s0;generalize enterSt .ro s0=S at*;have hc:=n_.arg s0.bs.length S;refine zQ 7 ?_;refine qn ?_;simp only[List.length_map];refine EvO.zj (s:=1) hH rfl rfl rfl rfl rfl rfl rfl rfl (Nat.le_of_ble_eq_true rfl) (by omega) (fun _=>by dsimp only[Fr.put,u1,u2]<;>rfl) (fun k11 st hk11 hH=>?_);refine zQ 5 ?_;refine qh (s:=1) (vs:=[_]) hH fun k13 st Kf hH=>?_;refine zQ 4 ?_;refine EvC.loop (fun mm fr st=>∃(y z:D) (seen:List Bool) (fN:List Int),fr.clean=⟨41,[cd,aC fr 1,aC fr 2,aC fr 3,.nul,y,z,aC fr 7,aC fr 8,aC fr 9,aC fr 10,aC fr 11,aC fr 12,aC fr 13,aC fr 14,aC fr 15,aC fr 16,aC fr 17,aC fr 18,aC fr 19,aC fr 20,aC fr 21,aC fr 22,aC fr 23,aC fr 24,aC fr 25,aC fr 26,aC fr 27,aC fr 28,aC fr 29,aC fr 30,aC fr 31,aC fr 32,aC fr 33,aC fr 34,aC fr 35,aC fr 36,aC fr 37,aC fr 38,aC fr 39,aC fr 40],[]⟩∧Has s0.bs.length S st [.lst z 1 (fN.reverse.map ai),.lst y 1 (seen.map dz)]∧(yl code mm seen fN=a_ code start)∧(3*seen.count false+fN.length≤mm)∧(seen.length=code.length)∧(∀v∈fN,0≤v∧v<(code.length:Int))∧(mm≤3*code.length+1)) (3*code.length+1) ?_ ?_
 ·exact⟨_,_,List.replicate code.length false,[start],rfl,(by rw[List.map_replicate];exact hH),rfl,by simp,by simp,by simpa using f_,by omega⟩
 rintro mm fr st ⟨y,z,seen,fN,hfr,hH,hd,hm,iN,hsk,xS⟩;rw[hfr];clear hfr;generalize aC fr=ee;clear fr
 rcases fN with _|⟨v,fN⟩
 ·refine zQ 4 ?_;refine qn ?_ (hR:=hH.rows at0);simp only[List.length_map,List.length_nil,List.length_reverse];refine zQ 2 ?_;refine EvC.cond (v:=false) (by dsimp only[Fr.ev,Fr.get,nth,V.look];rfl) (fun h=>by cases h) (fun _=>?_);refine zQ 6 ?_;have fp:seen=a_ code start:=by rw[←hd];cases mm<;>rfl
  rw[←fp];refine EvC.ret ⟨rx,_,rfl,rl hSb hH ?_⟩;exact hH.freeze at1 (qQ _) (n:=15) (by decide)
 ·have hv:=hsk v (List.mem_cons_self ..);obtain⟨k,rfl⟩:=Int.eq_ofNat_of_zero_le hv.1;have hk:k<code.length:=by omega
  simp only[List.length_cons] at hm
  obtain⟨mm,rfl⟩:∃m',mm=m'+1:=⟨mm-1,by omega⟩
  obtain⟨b,hb⟩:∃b,seen[k]?=some b:=⟨seen[k]'(by omega),List.getElem?_eq_getElem _⟩
  obtain⟨i,hi⟩:∃i,code[k]?=some i:=⟨code[k]'(by omega),List.getElem?_eq_getElem _⟩
  have hr1:=BO (k:Int) fN;have n5:=qX hb;have M9:=fY hi;refine zQ 4 ?_;refine qn ?_ (hR:=hH.rows at0);simp only[List.length_map,List.length_cons,List.length_reverse];refine zQ 2 ?_;refine qD rfl (by simp) ?_;refine zQ 6 ?_;refine qn ?_ (hR:=hH.rows at0);simp only[List.length_map,List.length_cons,List.length_reverse];refine EvO.ky (z:=((fN.length:Nat):Int)) rfl (ev rfl) (ev rfl) (by(try simp only[List.length_reverse,List.length_cons,List.length_nil,List.length_append,List.length_map,List.length_set]);rw[wrap_i64 (by omega) (by omega)]<;>omega) (by dsimp only[Fr.put,u1,u2]<;>rfl) ?_;refine qi hH at0 fun Mp Hy=>?_;refine zQ 7 ?_;refine qn ?_ (hR:=hH.rows at0);simp only[List.length_map,List.length_cons,List.length_reverse];refine EvO.ky (z:=((fN.length:Nat):Int)) rfl (ev rfl) (ev rfl) (by(try simp only[List.length_reverse,List.length_cons,List.length_nil,List.length_append,List.length_map,List.length_set]);rw[wrap_i64 (by omega) (by omega)]<;>omega) (by dsimp only[Fr.put,u1,u2]<;>rfl) ?_;refine EvO.tv hH rfl (ev rfl) (by exact at0) rfl rfl (nc (by simp only[List.length_map,List.length_reverse,List.length_cons,List.length_append,List.length_nil,List.length_take,List.length_drop,List.length_set,List.length_replicate];omega)) ⟨(by omega),(by simp only[List.length_map,List.length_reverse,List.length_cons,List.length_append,List.length_nil,List.length_take,List.length_drop,List.length_set,List.length_replicate];omega)⟩ (fun _=>by dsimp only[Fr.put,u1,u2]<;>rfl) (fun U6 hH=>?_);refine zQ 2 ?_;dsimp only[u2] at hH;rw[EG] at hH;have f_:∀w∈fN,0≤w∧w<(code.length:Int):=fun w hw=>hsk w (List.mem_cons_of_mem _ hw);refine zQ 5 ?_;refine qi hH at1 fun Qa JY=>?_;refine zQ 2 ?_
  cases b with
  |true=>
   refine zQ 2 ?_;simp only[yl,Int.toNat_natCast,hb] at hd;exact⟨mm,by omega,⟨_,_,seen,fN,rfl,hH,hd,by omega,iN,f_,by omega⟩⟩
  |false=>
   have Dn:=count_set hb;have gG:(seen.set k true).map dz=(seen.map dz).set k [.bool true]:=by rw[List.map_set];rfl
   simp only[yl,Int.toNat_natCast,hb,hi] at hd;have S6:=hcl k i hi;have NG:=vm k i
   have MV:∀w∈(bG k i).reverse++fN,0≤w∧w<(code.length:Int):=fun w hw=>by
    rcases List.mem_append.1 hw with hw|hw
    ·exact S6 w (List.mem_reverse.1 hw)
    ·exact f_ w hw
   have M8:(((bG k i).reverse++fN).reverse).map ai=fN.reverse.map ai++(bG k i).map ai:=by
    rw[List.reverse_append,List.reverse_reverse,List.map_append]
   refine zQ 6 ?_;refine qi hH at1 fun VC SV=>?_;refine EvO.iK hH rfl (ev rfl) (ev rfl) (by assumption) rfl rfl (by exact at1) (by assumption) (Nat.le_of_ble_eq_true rfl) (by exact .inl hF) (fun st hH=>?_);dsimp only[u2,u1,u3,u4,setMany,u5,u6,D.cells,Nat.reduceAdd,aB,ai,dz] at hH;refine zQ 5 ?_;refine qr fun Mn Hw=>?_;refine EvO.cu rfl (ev rfl) (by assumption) rfl (by dsimp only[Fr.put,u1,u2]<;>rfl) ?_;refine qa hH fun k8 st hk8 hH=>?_;refine qS hH at0 fun st hH=>?_;dsimp only[u2,u1,u3,u4,setMany,u5,u6,D.cells,Nat.reduceAdd,aB,ai,dz] at hH;refine zQ 6 ?_;refine EvC.merge (fun fr st=>∃(z:D) (tmp:List (Nat×D)),fr=⟨41,[cd,aC fr 1,aC fr 2,aC fr 3,.nul,y,z,aC fr 7,aC fr 8,aC fr 9,aC fr 10,aC fr 11,aC fr 12,aC fr 13,aC fr 14,aC fr 15,aC fr 16,aC fr 17,aC fr 18,aC fr 19,aC fr 20,aC fr 21,aC fr 22,aC fr 23,aC fr 24,aC fr 25,aC fr 26,aC fr 27,aC fr 28,aC fr 29,aC fr 30,aC fr 31,aC fr 32,aC fr 33,aC fr 34,aC fr 35,aC fr 36,aC fr 37,aC fr 38,aC fr 39,aC fr 40],tmp⟩∧Has s0.bs.length S st [.lst z 1 (fN.reverse.map ai++(bG k i).map ai),.lst y 1 ((seen.map dz).set k [.bool true])]) ?_ ?_
   ·refine zQ 6 ?_;refine zI (fun h2=>?_) fun h2=>?_
    ·have:bG k i=[i.x,i.y]:=by unfold bG;rw[if_pos h2]
     rw[this];refine zQ 6 ?_;refine qh (s:=1) (vs:=[_,_]) hH fun k53 st Tu hH=>?_;refine EvO.happend (s:=1) hH rfl (ev rfl) (ev rfl) (by exact at2) (by exact hH.rows (by exact at0)) rfl rfl rfl rfl rfl rfl rfl ⟨(Nat.le_of_ble_eq_true rfl),(Nat.le_of_ble_eq_true rfl)⟩ (fun _=>(put_T rfl _)) (by simp only[List.length_cons,List.length_nil,List.length_map,List.length_reverse]<;>omega) (by exact .inl hF) (fun U8 st hH=>?_);dsimp only[u2,u1,u3,u4,setMany,u5,u6,D.cells,Nat.reduceAdd,aB,ai,dz] at hH;refine zQ 2 ?_;exact⟨_,_,rfl,(by have:=hH.drop 2;exact this)⟩
    ·refine zQ 5 ?_;refine zI (fun h3=>?_) fun h3=>?_
     ·have:bG k i=[i.x]:=by unfold bG;rw[if_neg h2,if_pos h3]
      rw[this];refine zQ 4 ?_;refine qh (s:=1) (vs:=[_]) hH fun k60 st Tq hH=>?_;refine EvO.happend (s:=1) hH rfl (ev rfl) (ev rfl) (by exact at2) (by exact hH.rows (by exact at0)) rfl rfl rfl rfl rfl rfl rfl ⟨(Nat.le_of_ble_eq_true rfl),(Nat.le_of_ble_eq_true rfl)⟩ (fun _=>(put_T rfl _)) (by simp only[List.length_cons,List.length_nil,List.length_map,List.length_reverse]<;>omega) (by exact .inl hF) (fun U7 st hH=>?_);dsimp only[u2,u1,u3,u4,setMany,u5,u6,D.cells,Nat.reduceAdd,aB,ai,dz] at hH;refine zQ 2 ?_;exact⟨_,_,rfl,(by have:=hH.drop 2;exact this)⟩
     ·refine zQ 5 ?_;refine zI (fun h7=>?_) fun h7=>?_
      ·have:bG k i=[]:=by unfold bG;rw[if_neg h2,if_neg h3,if_pos h7]
       rw[this,List.map_nil,List.append_nil];refine zQ 1 ?_;exact⟨_,_,rfl,(by have:=hH.drop 1;exact this)⟩
      ·have:bG k i=[((k+1:Nat):Int)]:=by unfold bG;rw[if_neg h2,if_neg h3,if_neg h7]
       rw[this];refine zQ 4 ?_;refine qh (s:=1) (vs:=[_]) hH fun k44 st Ty hH=>?_;refine EvO.happend (s:=1) hH rfl (ev rfl) (ev rfl) (by exact at2) (by exact hH.rows (by exact at0)) rfl rfl rfl rfl rfl rfl rfl ⟨(Nat.le_of_ble_eq_true rfl),(Nat.le_of_ble_eq_true rfl)⟩ (fun _=>(put_T rfl _)) (by simp only[List.length_cons,List.length_nil,List.length_map,List.length_reverse]<;>omega) (by exact .inl hF) (fun U9 st hH=>?_);dsimp only[u2,u1,u3,u4,setMany,u5,u6,D.cells,Nat.reduceAdd,aB,ai,dz] at hH;refine zQ 2 ?_;exact⟨_,_,rfl,(by have:=hH.drop 2;exact this)⟩
   ·rintro fr st ⟨z,tmp,hfr,hH⟩;rw[hfr];clear hfr;generalize aC fr=ee;clear fr;exact⟨mm,by omega,⟨y,z,seen.set k true,(bG k i).reverse++fN,rfl,(by rw[M8,gG];exact hH),hd,by simp only[List.length_append,List.length_reverse];omega,by simp only[List.length_set];exact iN,MV,by omega⟩⟩
def af (fr:Go.V.Fr) (k:Nat):Go.V.D:=Go.V.nth .junk fr.loc k
noncomputable def dec (q:Prop):Bool:=@decide q (Classical.propDecidable q)
theorem dc {q:Prop} (h:q):dec q=true:=@decide_eq_true q (Classical.propDecidable q) h
theorem iW {q:Prop} (h:¬q):dec q=false:=@decide_eq_false q (Classical.propDecidable q) h
def o6 (p:Pg) (r:Nat) (s:Int) (n:Nat):Prop:=∀pc i,pc<n→(a_ p.code s)[pc]?=some true→p.code[pc]?=some i→i.op=7→i.x=(r:Int)
structure aO (p:Pg):Prop where
 cl:p.code.length≤400
 sl:p.ah.length≤8
 sh:∀pc i,p.code[pc]?=some i→cF p.code.length p.ah.length pc i=true
 st:∀v∈p.ah,0≤v∧v<(p.code.length:Int)
 fo:∀r s,p.ah[r]?=some s→o6 p r s p.code.length
theorem mZ {p:Pg} (h:∀pc i,p.code[pc]?=some i→cF p.code.length p.ah.length pc i=true):gT p.code:=
 fun pc i hi=>uG (h pc i hi)
theorem aO.closed {p:Pg} (h:aO p):gT p.code:=mZ h.sh
theorem da {a b:Int}:pG a b=true↔0≤a∧a<b:=by
 unfold pG;simp only[Bool.and_eq_true,decide_eq_true_eq,ge_iff_le]
theorem kq {s0:St} {p:Pg} (hp:p.ok):Ev pv 62 [p.d] s0 (.bool (dec (aO p))) s0:=by
 refine Ev.mk1 rfl O8 rfl rfl rfl ?_;refine zE ?_;obtain⟨hSb,hF,hH⟩:=ri s0;generalize enterSt .ro s0=S at*;have hc:=hp.c.arg s0.bs.length S;have hs:=hp.s.arg s0.bs.length S;have n_:=hp.c;have hlen:=hp.cl;have JM:=hp.sl;unfold Pg.d;refine zQ 2 ?_;refine qb hH fun k1 st kV hH=>?_;dsimp only[u2,u1,u3,u4,setMany,u5,u6,D.cells,Nat.reduceAdd,Pg.cs,aB,ai,dz] at hH;refine zQ 4 ?_;refine EvC.kh 17 (.bool (decide ((p.code.length:Int)>400)||decide ((p.ah.length:Int)>8))) [8,9,10,11,12,13,14,15,16] ?_ (fun ff tmp=>?_)
 ·refine zQ 2 ?_;refine qn ?_;simp only[List.length_map];refine zQ 2 ?_;refine EvO.two 12 rfl (fun hg4=>?_) (fun hg4=>?_)
  ·refine zQ 5 ?_;refine EvO.nil (aK ?_);refine zG ?_
   all_goals(simp[hg4];done)
  ·refine zQ 2 ?_;refine qn ?_ (hg:=wi hg4);simp only[List.length_map];refine zQ 2 ?_;refine EvO.nil (aK ?_);refine zG ?_
   all_goals(simp[hg4];done)
 dsimp only[setW,List.foldl,nth,u2,u1];generalize ff 8=e8;generalize ff 9=e9;generalize ff 10=U2;generalize ff 11=U1;generalize ff 12=U0;generalize ff 13=UZ;generalize ff 14=UY;generalize ff 15=UX;generalize ff 16=UW;refine qc (fun h0=>?_) (fun h0=>?_)<;>try simp only[cs] at h0
 ·rw[iW (fun h=>by have:=h.cl;have:=h.sl;simp at h0;omega)];refine zQ 4 ?_;refine EvC.ret ⟨rx,_,rfl,rl hSb hH (rfl)⟩
 ·have h0:p.code.length≤400∧p.ah.length≤8:=by simp at h0;omega
  refine zQ 6 ?_;refine qn ?_;simp only[List.length_map];refine zQ 3 ?_;refine EvC.loop (fun mm fr st=>∃(i:Nat),fr.clean=⟨49,[af fr 0,.ptr k1 0 0,.bool false,af fr 3,af fr 4,af fr 5,af fr 6,af fr 7,af fr 8,af fr 9,af fr 10,af fr 11,af fr 12,af fr 13,af fr 14,af fr 15,af fr 16,af fr 17,af fr 18,af fr 19,.int .i64 (p.code.length:Nat),.int .i64 (i:Nat),af fr 22,af fr 23,af fr 24,af fr 25,af fr 26,af fr 27,af fr 28,af fr 29,af fr 30,af fr 31,af fr 32,af fr 33,af fr 34,af fr 35,af fr 36,af fr 37,af fr 38,af fr 39,af fr 40,af fr 41,af fr 42,af fr 43,af fr 44,af fr 45,af fr 46,af fr 47,af fr 48],[]⟩∧Has s0.bs.length S st [.box k1 (.mem 0 false [p.cd,p.sd])]∧(i+mm=p.code.length)∧(∀pc q,pc<i→p.code[pc]?=some q→cF p.code.length p.ah.length pc q=true)) (p.code.length) ?_ ?_
  ·exact⟨0,rfl,hH,by omega,by intro pc q h;omega⟩
  rintro mm fr st ⟨i,hfr,hH,hi,hsh⟩;rw[hfr];clear hfr;generalize af fr=ee;clear fr;refine zQ 5 ?_;refine zP (fun h1=>?_) fun h1=>?_
  ·refine zQ 1 ?_
   obtain⟨q,hq⟩:∃q,p.code[i]?=some q:=⟨p.code[i]'(by omega),List.getElem?_eq_getElem _⟩
   refine zQ 9 ?_;refine EvO.hloadS (m:=2) hH rfl (ev rfl) (by exact at0) (by dsimp only[List.drop_succ_cons,List.drop_zero,List.take_succ_cons,List.take_zero,Pg.cs,aB,ai,dz]<;>rfl) rfl rfl (by dsimp only[Fr.put,u1,u2]<;>rfl) ?_;refine qm ?_;refine qv (z_ (p:=p) hp hq) ?_;refine zQ 2 ?_;refine EvC.cond (by rfl) (fun h2=>?_) (fun h2=>?_)<;>try simp only[Bool.not_eq_true',Bool.not_eq_false'] at h2
   ·rw[iW (fun h=>by have:=h.sh i q hq;rw[this] at h2;cases h2)];refine zQ 4 ?_;refine EvC.ret ⟨rx,_,rfl,rl hSb hH (rfl)⟩
   ·refine zQ 5 ?_;refine⟨mm-1,by omega,⟨i+1,rfl,hH,by omega,?_⟩⟩;intro pc q' C4 rD
    by_cases he:pc=i
    ·subst he;rw[hq] at rD;cases rD;simpa using h2
    ·exact hsh pc q' (by omega) rD
  ·refine zQ 1 ?_;have hsh:∀pc q,p.code[pc]?=some q→cF p.code.length p.ah.length pc q=true:=fun pc q hq=>hsh pc q (by have:=lt_get hq;omega) hq;have hcl:=mZ hsh;refine zQ 5 ?_;refine qn ?_;simp only[List.length_map];refine zQ 3 ?_;refine EvC.loop (fun mm fr st=>∃(r:Nat),fr.clean=⟨49,[af fr 0,.ptr k1 0 0,.bool false,af fr 3,af fr 4,af fr 5,af fr 6,af fr 7,af fr 8,af fr 9,af fr 10,af fr 11,af fr 12,af fr 13,af fr 14,af fr 15,af fr 16,af fr 17,af fr 18,af fr 19,af fr 20,af fr 21,af fr 22,af fr 23,af fr 24,af fr 25,af fr 26,af fr 27,af fr 28,af fr 29,p.sd,.int .i64 (p.ah.length:Nat),.int .i64 (r:Nat),af fr 33,af fr 34,af fr 35,af fr 36,af fr 37,af fr 38,af fr 39,af fr 40,af fr 41,af fr 42,af fr 43,af fr 44,af fr 45,af fr 46,af fr 47,af fr 48],[]⟩∧Has s0.bs.length S st [.box k1 (.mem 0 false [p.cd,p.sd])]∧(r+mm=p.ah.length)∧(∀r' s,r'<r→p.ah[r']?=some s→(0≤s∧s<(p.code.length:Int))∧o6 p r' s p.code.length)) (p.ah.length) ?_ ?_
   ·exact⟨0,rfl,hH,by omega,by intro pc q h;omega⟩
   rintro mm fr st ⟨r,hfr,hH,hi,hok⟩;rw[hfr];clear hfr;generalize af fr=ee;clear fr;refine zQ 5 ?_;refine zP (fun h3=>?_) fun h3=>?_
   ·refine zQ 1 ?_
    obtain⟨s,rp⟩:∃s,p.ah[r]?=some s:=⟨p.ah[r]'(by omega),List.getElem?_eq_getElem _⟩
    have LO:=dX rp;refine zQ 5 ?_;refine qr fun Jg C6=>?_;refine zQ 10 ?_;refine qn ?_;simp only[List.length_map];refine qv (gg _ _) ?_;refine zQ 2 ?_;refine EvC.cond (by rfl) (fun h4=>?_) (fun h4=>?_)<;>try simp only[Bool.not_eq_true',Bool.not_eq_false'] at h4
    ·rw[iW (fun h=>by have:=da.2 (h.st s (List.mem_of_getElem? rp));rw[this] at h4;cases h4)];refine zQ 4 ?_;refine EvC.ret ⟨rx,_,rfl,rl hSb hH (rfl)⟩
    ·have JN:=da.1 (show pG s p.code.length=true by simpa using h4);refine zQ 1 ?_;have pL:=o4 p.code s;have LN:=(sX (a_ p.code s)).arg s0.bs.length S;refine zQ 5 ?_;refine qv (zu n_ hlen hcl JN) ?_;refine qn ?_;simp only[List.length_map];refine zQ 3 ?_;refine EvC.loop (fun mm fr st=>∃(i:Nat),fr.clean=⟨49,[af fr 0,.ptr k1 0 0,.bool false,af fr 3,.int .i64 (r:Nat),af fr 5,af fr 6,af fr 7,af fr 8,af fr 9,af fr 10,af fr 11,af fr 12,af fr 13,af fr 14,af fr 15,af fr 16,af fr 17,af fr 18,af fr 19,af fr 20,af fr 21,af fr 22,af fr 23,af fr 24,af fr 25,af fr 26,af fr 27,af fr 28,af fr 29,p.sd,.int .i64 (p.ah.length:Nat),.int .i64 (r:Nat),af fr 33,af fr 34,af fr 35,af fr 36,af fr 37,af fr 38,af fr 39,af fr 40,af fr 41,af fr 42,af fr 43,af fr 44,af fr 45,ue (a_ p.code s),.int .i64 ((a_ p.code s).length:Nat),.int .i64 (i:Nat)],[]⟩∧Has s0.bs.length S st [.box k1 (.mem 0 false [p.cd,p.sd])]∧(i+mm=p.code.length)∧(o6 p r s i)) (p.code.length) ?_ ?_
     ·exact⟨0,rfl,hH,by omega,by intro pc q h;omega⟩
     rintro mm fr st ⟨i,hfr,hH,hj,hom⟩;rw[hfr];clear hfr;generalize af fr=ee;clear fr;refine zQ 5 ?_;refine zP (fun h5=>?_) fun h5=>?_
     ·refine zQ 1 ?_
      obtain⟨b,hb⟩:∃b,(a_ p.code s)[i]?=some b:=⟨(a_ p.code s)[i]'(by omega),List.getElem?_eq_getElem _⟩
      obtain⟨q,hq⟩:∃q,p.code[i]?=some q:=⟨p.code[i]'(by omega),List.getElem?_eq_getElem _⟩
      have hr1:=qX hb;have n5:=fY hq;refine zQ 5 ?_;refine qr fun Rz Nk=>?_;refine zQ 5 ?_;refine EvC.cutT 72 (.bool ((b &&(q.op==7)) &&(q.x !=(r:Int)))) [] ?_ (fun ff tmp htmp=>?_)
      ·refine zQ 2 ?_;refine EvO.two 54 rfl (fun iD=>?_) (fun iD=>?_)
       ·refine zQ 3 ?_;refine qr (fun Vw SO=>?_) (hg:=wi iD);refine qf (fo:=0) (fun Vv SN=>?_) (hg:=wi iD);refine zQ 4 ?_;refine EvO.two 63 rfl (fun cw=>?_) (fun cw=>?_)
        ·refine zQ 3 ?_;refine qr (fun Vq SI=>?_) (hg:=wi cw);refine qf (fo:=1) (fun Vp SG=>?_) (hg:=wi cw);refine zQ 4 ?_;refine EvO.nil (leafT ?_ ?_)
         ·dsimp only[setW,List.foldl,nth,u2,u1]
          all_goals(first|rfl|simp)
         ·refine zF ?_
          all_goals(simp[iD,cw];done)
        ·refine zQ 9 ?_;refine EvO.nil (leafT ?_ ?_)
         ·dsimp only[setW,List.foldl,nth,u2,u1]
          all_goals(first|rfl|simp)
         ·refine zF ?_
          all_goals(simp[iD,cw];done)
       ·refine zQ 18 ?_;refine EvO.nil (leafT ?_ ?_)
        ·dsimp only[setW,List.foldl,nth,u2,u1]
         all_goals(first|rfl|simp)
        ·refine zF ?_
         all_goals(simp[iD];done)
      refine zG ?_;refine qc (fun h6=>?_) (fun h6=>?_)<;>try simp only[cs] at h6
      ·rw[iW (fun h=>by
        have h7:=h.fo r s rp i q (by omega);simp only[Bool.and_eq_true,beq_iff_eq,bne_iff_ne,ne_eq] at h6;obtain⟨⟨rfl,h8⟩,h9⟩:=h6
        exact h9 (h7 hb hq h8))]
       refine zQ 4 ?_;refine EvC.ret ⟨rx,_,rfl,rl hSb hH (rfl)⟩
      ·refine zQ 5 ?_;refine⟨mm-1,by omega,⟨i+1,rfl,hH,by omega,?_⟩⟩;intro pc q' C4 Fz rD eT
       by_cases he:pc=i
       ·subst he;rw[hq] at rD;cases rD;rw[hb] at Fz;cases Fz;simp[eT] at h6;exact h6
       ·exact hom pc q' (by omega) Fz rD eT
     ·refine zQ 5 ?_;refine⟨p.ah.length-(r+1),by omega,⟨r+1,rfl,hH,by omega,?_⟩⟩;intro r' s' IK pK
      by_cases he:r'=r
      ·subst he;rw[rp] at pK;cases pK;exact⟨JN,fun pc q C4=>hom pc q (by omega)⟩
      ·exact hok r' s' (by omega) pK
   ·refine zQ 1 ?_
    rw[dc ⟨h0.1,h0.2,hsh,fun v hv=>by
     obtain⟨r',IK⟩:=List.getElem?_of_mem hv
     exact(hok r' v (by have:=lt_get IK;omega) IK).1,fun r' s' pK=>(hok r' s' (by have:=lt_get pK;omega) pK).2⟩]
    refine zQ 4 ?_;refine EvC.ret ⟨rx,_,rfl,rl hSb hH (rfl)⟩
def eG (n:Nat):List D:=[.int .i64 (n:Nat)]
def lG (n:Nat):List D:=[.int .i64 (n:Nat),.bool true]
theorem vi {l:List Nat} {i q:Nat} (h:l[i]?=some q):(l.map eG)[i]?=some (eG q):=by rw[List.getElem?_map,h];rfl
theorem Fo {l:List Nat} {i q:Nat} (h:l[i]?=some q):(l.map lG)[i]?=some (lG q):=by rw[List.getElem?_map,h];rfl
structure cp (P Q:List Nat) (seen:List Bool):Prop where
 len:P.length=seen.length
 mem:∀(i p:Nat),P[i]?=some p→seen[i]?=some (decide (Q[p]?=some i))
 cnt:Q.length=seen.count true
 small:seen.length≤4096
def D8 (N:Nat) (S st:St) (ks:Nat) (seen:List Bool) (H:List aN):Prop:=
 ∃pd qd P Q,Has N S st (.box ks (.mem 0 false [pd,qd])::.lst pd 1 (P.map eG)::.lst qd 2 (Q.map lG)::H)∧cp P Q seen
theorem cp.get {P Q:List Nat} {seen:List Bool} (h:cp P Q seen) {i:Nat} {b:Bool} (hi:seen[i]?=some b):∃p,P[i]?=some p∧b=decide (Q[p]?=some i):=by
 have hl:=lt_get hi;have jC:=h.len;refine⟨P[i]'(by omega),List.getElem?_eq_getElem _,?_⟩;have:=h.mem i _ (List.getElem?_eq_getElem (by omega));rw[hi] at this;exact Option.some.inj this
theorem cp.add {P Q:List Nat} {seen:List Bool} (h:cp P Q seen) {i:Nat} (hi:seen[i]?=some false):cp (P.set i Q.length) (Q++[i]) (seen.set i true):=by
 have hl:=lt_get hi;have jC:=h.len;refine⟨by simp[jC],fun j p hj=>?_,?_,by rw[List.length_set];exact h.small⟩
 ·by_cases hij:j=i
  ·subst hij;rw[List.getElem?_set_self (by omega)] at hj⊢;cases hj;simp
  ·rw[List.getElem?_set_ne (fun e=>hij e.symm)] at hj⊢;rw[h.mem j p hj]
   congr 2
   rcases Nat.lt_trichotomy p Q.length with hp|hp|hp
   ·rw[List.getElem?_append_left hp]
   ·subst hp;have hne:¬i=j:=fun e=>hij e.symm;simp[hne]
   ·rw[List.getElem?_eq_none (by omega),List.getElem?_eq_none (by simp;omega)]
 ·have h1:=List.length_eq_countP_add_countP (fun b=>b==true) (l:=seen);have h2:=List.length_eq_countP_add_countP (fun b=>b==true) (l:=seen.set i true);have h3:=count_set hi
  have e1:∀l:List Bool,l.countP (fun a=>decide (¬(a==true)=true))=l.count false:=by
   intro l;unfold List.count;congr 1;funext b;cases b<;>rfl
  have e2:∀l:List Bool,l.countP (fun a=>a==true)=l.count true:=fun l=>rfl;rw[e1,e2] at h1 h2;rw[List.length_append,h.cnt];simp only[List.length_set,List.length_cons,List.length_nil] at h2⊢;omega
theorem cp.clear {P Q:List Nat} {seen:List Bool} (h:cp P Q seen):cp P [] (List.replicate seen.length false):=by
 refine⟨by rw[List.length_replicate];exact h.len,fun i p hi=>?_,?_,by rw[List.length_replicate];exact h.small⟩
 ·have:=lt_get hi;have:=h.len;rw[List.getElem?_replicate,if_pos (by omega)];simp
 ·rw[List.count_replicate];simp
theorem cp.jx {P Q:List Nat} {seen:List Bool} (h:cp P Q seen):Q.length≤4096:=by
 have:=h.cnt;have:=h.small;have:=List.count_le_length (a:=true) (l:=seen);omega
theorem Aa {N ks:Nat} {S s0:St} {H:List aN} {seen:List Bool} {i:Nat} {b:Bool} (hi:seen[i]?=some b) {pd qd:D} {P Q:List Nat} (hok:cp P Q seen) (hH:Has N S s0 (.box ks (.mem 0 false [pd,qd])::.lst pd 1 (P.map eG)::.lst qd 2 (Q.map lG)::H)):
  ∃r ab,Ev pv 122 [.ptr ks 0 0,.int .i64 (i:Nat)] s0 r ab∧r=.bool b∧ab=s0:=by
 obtain⟨p,hp,rfl⟩:=hok.get hi;have hl:=lt_get hp;have jC:=hok.len;have Si:=hok.small;have hr1:=vi hp
 have fp:(⟨(enterSt .rw s0).bs.take s0.bs.length,s0.flr,s0.ro⟩:St)=s0:=by
  show(⟨s0.bs.take s0.bs.length,s0.flr,s0.ro⟩:St)=s0;rw[List.take_length]
 refine Ev.fX rfl Lc rfl rfl rfl ?_;refine zE ?_;have bP:=hH;have hH:=hH.bT;have bO:(enterSt .rw s0).bs=s0.bs:=rfl;generalize enterSt .rw s0=S2 at*;refine zQ 4 ?_;have bS:decide (((i:Nat):Int)<0)=false:=by rw[decide_eq_false];omega
 refine zQ 2 ?_;refine EvC.cutT 16 (.bool false) [] ?_ (fun ff tmp htmp=>?_)
 ·refine zQ 8 ?_;refine qn ?_ (hR:=hH.rows at1) (hg:=wi bS);simp only[List.length_map];refine zQ 2 ?_;refine EvO.nil (leafT ?_ ?_)
  ·dsimp only[setW,List.foldl,nth,u2,u1]
   all_goals(first|rfl|simp)
  ·refine zF ?_
   all_goals(simp_all;done)
 dsimp only[setW,List.foldl,nth,u2,u1];refine zQ 9 ?_;refine qi hH at1 fun LF FD=>?_;refine zQ 3 ?_
 by_cases hq:p<Q.length
 ·obtain⟨q,JW⟩:∃q,Q[p]?=some q:=⟨Q[p]'hq,List.getElem?_eq_getElem _⟩
  have n5:=Fo JW;have IX:decide (((p:Nat):Int)<((Q.length:Nat):Int))=true:=by rw[decide_eq_true_eq];omega
  refine zQ 7 ?_;refine qn ?_ (hR:=hH.rows at2);simp only[List.length_map];refine zQ 7 ?_;refine qi hH at2 (fun Mn Hw=>?_) (hg:=wi IX);refine EvO.fx (fo:=0) (m:=0) (o2:=0) (wantD_is rfl rfl rfl IX) (ev rfl) (by assumption) rfl rfl rfl (fun _=>(put_T rfl _)) (fun RF Nt=>?_);refine zQ 6 ?_;refine EvC.ret ⟨rx,_,_,_,rfl,ae (rfl),?_⟩;refine⟨?_,fp⟩
  have hd:(((q:Nat):Int)==((i:Nat):Int))=decide (Q[p]?=some i):=by
   rw[JW]
   by_cases h:q=i
   ·simp[h]
   ·simp[h];omega
  exact congrArg D.bool hd
 ·have IX:decide (((p:Nat):Int)<((Q.length:Nat):Int))=false:=by rw[decide_eq_false];omega
  refine zQ 7 ?_;refine qn ?_ (hR:=hH.rows at2);simp only[List.length_map];refine zQ 15 ?_;refine EvC.ret ⟨rx,_,_,_,rfl,ae (rfl),?_⟩;refine⟨?_,fp⟩;rw[List.getElem?_eq_none (by omega)];rfl
theorem Ab {N ks:Nat} {S s0:St} {H:List aN} {seen:List Bool} {i:Nat} {b:Bool} (hF:S.flr≤N) (hi:seen[i]?=some b) (hH:D8 N S s0 ks seen H):
  ∃r ab,Ev pv 104 [.ptr ks 0 0,.int .i64 (i:Nat),.bool true] s0 r ab∧r=.bool (!b)∧D8 N S ab ks (seen.set i true) H:=by
 obtain⟨pd,qd,P,Q,hH,hok⟩:=hH;have hl:=lt_get hi;have jC:=hok.len;have Si:=hok.small;have FA:=hok.jx;obtain⟨p0,IL,_⟩:=hok.get hi;have hr1:=vi IL;refine Ev.fX rfl Lm rfl rfl rfl ?_;refine zE ?_;change EvC _ _ _ _ s0 _;refine zQ 4 ?_;have bS:decide (((i:Nat):Int)<0)=false:=by rw[decide_eq_false];omega
 have ch:decide (((i:Nat):Int)≥((P.length:Nat):Int))=false:=by rw[decide_eq_false];omega
 obtain⟨_,st,hev,rfl,rfl⟩:=Aa hi hok hH;refine zQ 2 ?_;refine EvC.cutT 22 (.bool b) [] ?_ (fun ff tmp htmp=>?_)
 ·refine zQ 8 ?_;refine qn ?_ (hR:=hH.rows at1) (hg:=wi bS);simp only[List.length_map];refine zQ 5 ?_;refine qv hev ?_ (hg:=wi ch);refine zQ 1 ?_;refine EvO.nil (leafT ?_ ?_)
  ·dsimp only[setW,List.foldl,nth,u2,u1]
   all_goals(first|rfl|simp)
  ·dsimp only[Fr.putO,Fr.put,Fr.clean,Fr.ev,Fr.get,nth,look,u1,u2,v1,v2,v4]
   all_goals(first|rfl|(simp[bS,ch];done)|(simp_all;done)|(simp[bS,ch];omega)|(simp_all;omega))
 dsimp only[setW,List.foldl,nth,u2,u1]
 cases b with
 |true=>
  refine zQ 5 ?_;refine EvC.ret ⟨rx,_,_,_,rfl,rfl,?_⟩;refine⟨rfl,pd,qd,P,Q,hH,?_⟩
  have:seen.set i true=seen:=by
   refine List.ext_getElem? fun j=>?_
   by_cases hj:j=i
   ·subst hj;rw[List.getElem?_set_self hl,hi]
   ·rw[List.getElem?_set_ne (fun e=>hj e.symm)]
  rw[this];exact hok
 |false=>
  refine zQ 13 ?_;refine qn ?_ (hR:=hH.rows at2);simp only[List.length_map];refine qi hH at1 fun VD SX=>?_;refine EvO.iK hH rfl (ev rfl) (ev rfl) (by assumption) rfl rfl (by exact at1) (by assumption) (Nat.le_of_ble_eq_true rfl) (by exact .inl hF) (fun st hH=>?_);dsimp only[u2,u1,u3,u4,setMany,u5,u6,D.cells,Nat.reduceAdd,eG,lG] at hH;refine zQ 11 ?_;refine qh (s:=2) (vs:=[_]) hH fun k42 st Tz hH=>?_;dsimp only[u2,u1,u3,u4,setMany,u5,u6,D.cells,Nat.reduceAdd,eG,lG] at hH;refine EvO.happend (s:=2) hH rfl (ev rfl) (ev rfl) (by exact at3) (by exact hH.rows (by exact at0)) rfl rfl rfl rfl rfl rfl rfl ⟨(Nat.le_of_ble_eq_true rfl),(Nat.le_of_ble_eq_true rfl)⟩ (fun _=>(put_T rfl _)) (by simp only[List.length_cons,List.length_nil,List.length_map]<;>omega) (by exact .inl hF) (fun Q8 st hH=>?_);dsimp only[u2,u1,u3,u4,setMany,u5,u6,D.cells,Nat.reduceAdd,eG,lG] at hH;refine zQ 2 ?_;refine qT hH at1 (fun st hH=>?_) (gM:=hH.ocells at3);dsimp only[u2,u1,u3,u4,setMany,u5,u6,D.cells,Nat.reduceAdd,eG,lG] at hH;refine zQ 5 ?_;refine EvC.ret ⟨rx,_,_,_,rfl,rfl,?_⟩;refine⟨rfl,pd,Q8,P.set i Q.length,Q++[i],?_,hok.add hi⟩;rw[List.map_set,List.map_append];exact hH.drop 1
theorem uJ {N ks:Nat} {S s0:St} {H:List aN} {seen:List Bool} (hF:S.flr≤N) (hH:D8 N S s0 ks seen H):
  ∃r ab,Ev pv 102 [.ptr ks 0 0] s0 r ab∧r=.tup []∧D8 N S ab ks (List.replicate seen.length false) H:=by
 obtain⟨pd,qd,P,Q,hH,hok⟩:=hH;have FA:=hok.jx;refine Ev.fX rfl Lo rfl rfl rfl ?_;refine zE ?_;change EvC _ _ _ _ s0 _;refine zQ 6 ?_;refine EvO.G3 hH rfl (ev rfl) at2 rfl rfl rfl rfl (fun st hH=>?_);dsimp only[u1,u2] at hH;refine zQ 7 ?_;refine EvO.tv hH rfl (ev rfl) (by exact at2) rfl rfl (nc (by simp only[List.length_map,List.length_reverse,List.length_cons,List.length_append,List.length_nil,List.length_take,List.length_drop,List.length_set,List.length_replicate];omega)) ⟨(by omega),(by simp only[List.length_map,List.length_reverse,List.length_cons,List.length_append,List.length_nil,List.length_take,List.length_drop,List.length_set,List.length_replicate];omega)⟩ (fun _=>(put_T rfl _)) (fun QY hH=>?_);refine zQ 2 ?_;refine qT hH at0 (fun st hH=>?_) (gM:=hH.ocells at2);dsimp only[u2,u1,u3,u4,setMany,u5,u6,D.cells,Nat.reduceAdd,eG,lG] at hH;refine zQ 1 ?_;refine⟨fun i h=>(by cases h),_,_,_,rfl,rfl,?_⟩;exact⟨rfl,pd,_,P,[],hH,hok.clear⟩
theorem rR {N n:Nat} {S s0:St} {H:List aN} (hF:S.flr≤N) (hn:n≤4096) (hH:Has N S s0 H):
  ∃r ab,Ev pv 96 [.int .i64 (n:Nat)] s0 r ab∧∃ks,r=.tup [.ptr ks 0 0,.int .i64 0]∧D8 N S ab ks (List.replicate n false) H:=by
 refine Ev.fX rfl OR rfl rfl rfl ?_;refine zE ?_;change EvC _ _ _ _ s0 _;refine zQ 5 ?_;have bS:decide (((n:Nat):Int)<0)=false:=by rw[decide_eq_false];omega
 refine zQ 2 ?_;refine EvC.cutT 9 (.bool false) [] ?_ (fun ff tmp htmp=>?_)
 ·refine zQ 6 ?_;refine EvO.nil (leafT ?_ ?_)
  ·dsimp only[setW,List.foldl,nth,u2,u1]
   all_goals(first|rfl|simp)
  ·refine zF ?_
   all_goals(simp[bS];omega)
 dsimp only[setW,List.foldl,nth,u2,u1];refine zQ 5 ?_;refine EvO.zj (s:=1) hH rfl rfl rfl rfl rfl rfl rfl rfl (Nat.le_of_ble_eq_true rfl) (by omega) (fun _=>(put_T rfl _)) (fun k11 st hk11 hH=>?_);refine EvO.eE (qs:=[(0,_)]) rfl rfl rfl rfl ⟨rfl,(ev rfl),(by rfl),trivial⟩ (by intro q hq;simp only[List.mem_cons,List.not_mem_nil,or_false] at hq;rcases hq with rfl<;>exact⟨rfl,by exact Nat.le_of_ble_eq_true rfl⟩) (by show List.foldl _ [_,_] _=_;dsimp only[List.foldl_cons,List.foldl_nil,u2,u1]<;>rfl) (put_T rfl _) ?_;refine qb hH fun k13 st Kf hH=>?_;refine zQ 3 ?_;refine EvC.ret ⟨rx,_,_,_,rfl,rfl,?_⟩;refine⟨k13,rfl,.win k11 0 0 n 1,.nul,List.replicate n 0,[],?_,?_⟩
 ·rw[List.map_replicate];exact Has.e5 [_] [_,_] (hH.nulE 2)
 ·refine⟨by simp,fun i p hi=>?_,by rw[List.count_replicate];simp,by simpa using hn⟩;have:=lt_get hi;rw[List.length_replicate] at this;rw[List.getElem?_replicate,if_pos this];simp
def pb:Nat→List Bool→List Int
 |_,[]=>[]
 |i,b::l=>(if b then[(i:Int)] else[])++pb (i+1) l
noncomputable def o5 (p:Pg) (Jb:Int):List Int:=if dec (aO p) &&pG Jb p.ah.length then pb 0 (a_ p.code (p.ah.getD Jb.toNat 0)) else[]
def cQ (i:aA):aA:=⟨i.op,i.x,i.y,.sl ((i.rs.map aj).map (iV 2)),i.rs⟩
theorem DN {i:aA} (h:i.ok):(cQ i).ok:=⟨SlD.frozen (jW _) (dr _),h.2⟩
def qF (q:aA):List D:=aB (cQ q)
theorem wj {code:List aA} {pc:Nat} {i:aA} (h:(code.map cQ)[pc]?=some i):∃q,code[pc]?=some q∧i=cQ q:=by
 rw[List.getElem?_map] at h;obtain⟨q,hq,rfl⟩:=Option.map_eq_some_iff.1 h;exact⟨q,hq,rfl⟩
theorem get_copy {code:List aA} {pc:Nat} {i:aA} (h:code[pc]?=some i):(code.map cQ)[pc]?=some (cQ i):=by
 rw[List.getElem?_map,h];rfl
theorem wh (code:List aA):∀(f:Nat) (seen:List Bool) (fN:List Int),yl (code.map cQ) f seen fN=yl code f seen fN
 |0,_,_=>rfl
 |_+1,_,[]=>rfl
 |f+1,seen,v::fN=>by
  have ih:=wh code f;unfold yl;rw[List.getElem?_map]
  cases h1:seen[v.toNat]? with
  |none=>exact ih _ _
  |some b=>
   cases b with
   |true=>exact ih _ _
   |false=>
    cases h2:code[v.toNat]? with
    |none=>rfl
    |some i=>exact ih _ _
theorem o3 (code:List aA) (s:Int):a_ (code.map cQ) s=a_ code s:=by
 unfold a_;rw[List.length_map,wh]
theorem xc {p q:Pg} (h1:q.code=p.code.map cQ) (h2:q.ah=p.ah):aO q↔aO p:=by
 have hl:q.code.length=p.code.length:=by rw[h1];simp
 constructor
 ·intro h;refine⟨by rw[←hl];exact h.cl,by rw[←h2];exact h.sl,fun pc i hi=>?_,fun v hv=>?_,fun r s hs pc i C4 Fz hi eT=>?_⟩
  ·have:=h.sh pc (cQ i) (by rw[h1];exact get_copy hi);rw[hl,h2] at this;exact this
  ·have:=h.st v (by rw[h2];exact hv);rw[hl] at this;exact this
  ·exact h.fo r s (by rw[h2];exact hs) pc (cQ i) (by rw[hl];exact C4) (by rw[h1,o3];exact Fz) (by rw[h1];exact get_copy hi) eT
 ·intro h;refine⟨by rw[hl];exact h.cl,by rw[h2];exact h.sl,fun pc i hi=>?_,fun v hv=>?_,fun r s hs pc i C4 Fz hi eT=>?_⟩
  ·rw[h1] at hi;obtain⟨j,hj,rfl⟩:=wj hi;rw[hl,h2];exact h.sh pc j hj
  ·rw[hl];exact h.st v (by rw[←h2];exact hv)
  ·rw[h1] at hi Fz;rw[o3] at Fz;obtain⟨j,hj,rfl⟩:=wj hi;exact h.fo r s (by rw[←h2];exact hs) pc j (by rw[←hl];exact C4) Fz hj eT
end Go.Proofs.YtnleclohocdkaaaGreat
