/-
 Ranges of runes: the canonical form, by plain lists. No program in sight.
-/
import Derived.Test.YtnleclohocdkaaaGreatTGHr
import Derived.Test.YtnleclohocdkaaaGreatTPx
import Derived.Test.YtnleclohocdkaaaGreatTM2
import Derived.KernelRfl
set_option linter.unusedSimpArgs false
set_option linter.unusedVariables false
set_option maxRecDepth 100000
set_option maxHeartbeats 4000000
namespace Go.V
abbrev Rg:=Int×Int
def dZ (l:List Rg) (r:Int):Prop:=∃x,x∈l∧x.1≤r∧r≤x.2
theorem ek (r:Int):¬dZ [] r:=by rintro⟨x,h,_⟩;cases h
theorem bk {x:Rg} {l:List Rg} {r:Int}:dZ (x::l) r↔(x.1≤r∧r≤x.2)∨dZ l r:=by
 constructor
 ·rintro⟨y,hy,h⟩
  rcases List.mem_cons.1 hy with rfl|hy
  ·exact .inl h
  ·exact .inr ⟨y,hy,h⟩
 ·rintro(h|⟨y,hy,h⟩)
  ·exact⟨x,List.mem_cons_self ..,h⟩
  ·exact⟨y,List.mem_cons_of_mem _ hy,h⟩
theorem uj {a b:List Rg} {r:Int}:dZ (a++b) r↔dZ a r∨dZ b r:=by
 constructor
 ·rintro⟨y,hy,h⟩
  rcases List.mem_append.1 hy with hy|hy
  ·exact .inl ⟨y,hy,h⟩
  ·exact .inr ⟨y,hy,h⟩
 ·rintro(⟨y,hy,h⟩|⟨y,hy,h⟩)
  ·exact⟨y,List.mem_append_left _ hy,h⟩
  ·exact⟨y,List.mem_append_right _ hy,h⟩
theorem qo {a b:List Rg} (h:∀x,x∈a↔x∈b) (r:Int):dZ a r↔dZ b r:=by
 constructor
 ·rintro⟨y,hy,hh⟩;exact⟨y,(h y).1 hy,hh⟩
 ·rintro⟨y,hy,hh⟩;exact⟨y,(h y).2 hy,hh⟩
def canon (l:List Rg):Prop:=(∀x∈l,x.1≤x.2)∧l.Pairwise fun x y=>x.2+1<y.1
theorem iA {x:Rg} {l:List Rg} (h:canon (x::l)):canon l∧x.1≤x.2∧∀r,dZ l r→x.2+1<r:=by
 obtain⟨h1,h2⟩:=h;rw[List.pairwise_cons] at h2;refine⟨⟨fun y hy=>h1 y (List.mem_cons_of_mem _ hy),h2.2⟩,h1 x (List.mem_cons_self ..),?_⟩;rintro r ⟨y,hy,h3,h4⟩;have:=h2.1 y hy;omega
theorem kO:∀{a b:List Rg},canon a→canon b→(∀r,dZ a r↔dZ b r)→a=b
 |[],[],_,_,_=>rfl
 |[],y::b,_,hb,h=>by
  obtain⟨_,h1,_⟩:=iA hb;exact absurd ((h y.1).2 (bk.2 (.inl ⟨Int.le_refl _,h1⟩))) (ek _)
 |x::a,[],ha,_,h=>by
  obtain⟨_,h1,_⟩:=iA ha;exact absurd ((h x.1).1 (bk.2 (.inl ⟨Int.le_refl _,h1⟩))) (ek _)
 |x::a,y::b,ha,hb,h=>by
  obtain⟨ca,xa,fa⟩:=iA ha;obtain⟨cb,yb,fb⟩:=iA hb
  have low:∀{x y:Rg} {a b:List Rg},x.1≤x.2→(∀r,dZ b r→y.2+1<r)→y.1≤y.2→(∀r,dZ (x::a) r→dZ (y::b) r)→y.1≤x.1:=by
   intro x y a b hx hf hy hh
   rcases bk.1 (hh x.1 (bk.2 (.inl ⟨Int.le_refl _,hx⟩))) with h|h
   ·exact h.1
   ·have:=hf _ h;omega
  have e1:x.1=y.1:=Int.le_antisymm (low yb fa xa fun r=>(h r).2) (low xa fb yb fun r=>(h r).1)
  have up:∀{x y:Rg} {a b:List Rg},x.1≤x.2→x.1=y.1→(∀r,dZ a r→x.2+1<r)→(∀r,dZ (y::b) r→dZ (x::a) r)→y.2≤x.2:=by
   intro x y a b hx he hf hh
   rcases Int.lt_or_le x.2 y.2 with h'|h'
   ·rcases bk.1 (hh (x.2+1) (bk.2 (.inl ⟨by omega,by omega⟩))) with h|h
    ·omega
    ·have:=hf _ h;omega
   ·exact h'
  have e2:x.2=y.2:=Int.le_antisymm (up yb e1.symm fb fun r=>(h r).1) (up xa e1 fa fun r=>(h r).2);have e:x=y:=Prod.ext e1 e2;subst e
  congr 1
  refine kO ca cb fun r=>⟨fun hr=>?_,fun hr=>?_⟩
  ·have:=fa r hr
   rcases bk.1 ((h r).1 (bk.2 (.inr hr))) with h|h
   ·omega
   ·exact h
  ·have:=fb r hr
   rcases bk.1 ((h r).2 (bk.2 (.inr hr))) with h|h
   ·omega
   ·exact h
def cD (acc:List Rg) (r:Rg):List Rg:=
 match acc with
 |[]=>[r]
 |k::rest=>if r.1≤k.2+1 then(k.1,max k.2 r.2)::rest else r::k::rest
theorem kA:∀(l acc:List Rg),(∀x∈l,x.1≤x.2)→l.Pairwise (fun x y=>x.1≤y.1)→(∀k∈acc.head?,∀x∈l,k.1≤x.1)→(∀x∈acc,x.1≤x.2)→acc.Pairwise (fun x y=>y.2+1<x.1)→
  (∀x∈l.foldl cD acc,x.1≤x.2)∧(l.foldl cD acc).Pairwise (fun x y=>y.2+1<x.1)∧∀r,dZ (l.foldl cD acc) r↔dZ acc r∨dZ l r
 |[],acc,_,_,_,h1,h2=>⟨h1,h2,fun r=>⟨.inl,fun h=>h.resolve_right (ek r)⟩⟩
 |x::l,acc,hl,hp,hk,h1,h2=>by
  rw[List.pairwise_cons] at hp;have hx:=hl x (List.mem_cons_self ..);have hl':∀y∈l,y.1≤y.2:=fun y hy=>hl y (List.mem_cons_of_mem _ hy);rw[List.foldl_cons]
  cases acc with
  |nil=>
   obtain⟨g1,g2,g3⟩:=kA l [x] hl' hp.2 (fun k iv y hy=>by simp at iv;subst iv;exact hp.1 y hy) (fun y hy=>by simp at hy;subst hy;exact hx) (by simp);refine⟨g1,g2,fun r=>(g3 r).trans ?_⟩;rw[bk (l:=l),bk (l:=[])];constructor
   ·rintro((h|h)|h)
    ·exact .inr (.inl h)
    ·exact absurd h (ek r)
    ·exact .inr (.inr h)
   ·rintro(h|h|h)
    ·exact absurd h (ek r)
    ·exact .inl (.inl h)
    ·exact .inr h
  |cons k rest=>
   have SL:=hk k rfl x (List.mem_cons_self ..);have hkk:=h1 k (List.mem_cons_self ..);rw[List.pairwise_cons] at h2;unfold cD
   by_cases hc:x.1≤k.2+1
   ·simp only[if_pos hc]
    obtain⟨g1,g2,g3⟩:=kA l ((k.1,max k.2 x.2)::rest) hl' hp.2 (fun q hq y hy=>by simp at hq;subst hq;have:=hp.1 y hy;simp only;omega) (fun y hy=>by
     rcases List.mem_cons.1 hy with rfl|hy
     ·simp only;omega
     ·exact h1 y (List.mem_cons_of_mem _ hy)) (by rw[List.pairwise_cons];exact⟨h2.1,h2.2⟩)
    refine⟨g1,g2,fun r=>(g3 r).trans ?_⟩;rw[bk (l:=rest),bk (l:=rest),bk (l:=l)];constructor
    ·rintro((h|h)|h)
     ·simp only at h
      by_cases hr:r≤k.2
      ·exact .inl (.inl ⟨h.1,hr⟩)
      ·exact .inr (.inl ⟨by omega,by omega⟩)
     ·exact .inl (.inr h)
     ·exact .inr (.inr h)
    ·rintro((h|h)|h|h)
     ·exact .inl (.inl ⟨h.1,by simp only;omega⟩)
     ·exact .inl (.inr h)
     ·exact .inl (.inl ⟨by simp only;omega,by simp only;omega⟩)
     ·exact .inr h
   ·simp only[if_neg hc]
    obtain⟨g1,g2,g3⟩:=kA l (x::k::rest) hl' hp.2 (fun q hq y hy=>by simp at hq;subst hq;exact hp.1 y hy) (fun y hy=>by
     rcases List.mem_cons.1 hy with rfl|hy
     ·exact hx
     ·exact h1 y hy) (by
     rw[List.pairwise_cons];refine⟨fun y hy=>?_,by rw[List.pairwise_cons];exact h2⟩
     rcases List.mem_cons.1 hy with rfl|hy
     ·omega
     ·have:=h2.1 y hy;omega)
    refine⟨g1,g2,fun r=>(g3 r).trans ?_⟩;rw[bk (l:=k::rest),bk (l:=l)];constructor
    ·rintro((h|h)|h)
     ·exact .inr (.inl h)
     ·exact .inl h
     ·exact .inr (.inr h)
    ·rintro(h|h|h)
     ·exact .inl (.inr h)
     ·exact .inl (.inl h)
     ·exact .inr h
theorem wm {l:List Rg} (h1:∀x∈l,x.1≤x.2) (h2:l.Pairwise fun x y=>x.1≤y.1):canon (l.foldl cD []).reverse∧∀r,dZ (l.foldl cD []).reverse r↔dZ l r:=by
 obtain⟨g1,g2,g3⟩:=kA l [] h1 h2 (fun k hk=>by simp at hk) (fun x hx=>by simp at hx) List.Pairwise.nil;refine⟨⟨fun x hx=>g1 x (List.mem_reverse.1 hx),by rw[List.pairwise_reverse];exact g2⟩,fun r=>?_⟩;rw[qo (fun x=>List.mem_reverse) r,g3 r];exact⟨fun h=>h.resolve_left (ek r),.inr⟩
def lO (r:Int):Prop:=0≤r∧r≤1114111∧¬(55296≤r∧r≤57343)
def cG (x:Rg):List Rg:=
 (if max (max x.1 0) 0≤min (min x.2 1114111) 55295 then[(max (max x.1 0) 0,min (min x.2 1114111) 55295)] else[])++
 (if max (max x.1 0) 57344≤min (min x.2 1114111) 1114111 then[(max (max x.1 0) 57344,min (min x.2 1114111) 1114111)] else[])
theorem nF (x:Rg) (r:Int):dZ (cG x) r↔lO r∧x.1≤r∧r≤x.2:=by
 unfold cG lO;rw[uj]
 have one:∀(a b:Int),dZ (if a≤b then[(a,b)] else[]) r↔a≤r∧r≤b:=by
  intro a b
  split
  ·rw[bk];exact⟨fun h=>h.elim id fun h=>absurd h (ek r),.inl⟩
  ·exact⟨fun h=>absurd h (ek r),fun h=>by omega⟩
 rw[one,one];omega
theorem lq (x:Rg):∀y∈cG x,y.1≤y.2∧0≤y.1∧y.2≤1114111:=by
 intro y hy;unfold cG at hy
 rcases List.mem_append.1 hy with h|h<;>split at h<;>simp at h<;>subst h<;>simp only<;>omega
theorem og {l all:List Rg} (hp:∀x,x∈all↔x∈l.flatMap cG) (hs:all.Pairwise fun x y=>x.1≤y.1):canon (all.foldl cD []).reverse∧∀r,dZ (all.foldl cD []).reverse r↔lO r∧dZ l r:=by
 have hle:∀x∈all,x.1≤x.2:=fun x hx=>by
  obtain⟨y,_,hy⟩:=List.mem_flatMap.1 ((hp x).1 hx);exact(lq y x hy).1
 obtain⟨g1,g2⟩:=wm hle hs;refine⟨g1,fun r=>(g2 r).trans ((qo hp r).trans ?_)⟩;constructor
 ·rintro⟨y,hy,h⟩;obtain⟨x,hx,hy⟩:=List.mem_flatMap.1 hy;have:=(nF x r).1 ⟨y,hy,h⟩;exact⟨this.1,x,hx,this.2⟩
 ·rintro⟨hr,x,hx,h⟩;obtain⟨y,hy,h'⟩:=(nF x r).2 ⟨hr,h⟩;exact⟨y,List.mem_flatMap.2 ⟨x,hx,hy⟩,h'⟩
def j0:List Rg→Int→Bool
 |[],_=>false
 |x::l,r=>(decide (x.1≤r) &&decide (r≤x.2))||j0 l r
theorem uL:∀(l:List Rg) (r:Int),j0 l r=true↔dZ l r
 |[],r=>⟨fun h=>(by cases h),fun h=>absurd h (ek r)⟩
 |x::l,r=>by
  rw[bk,←uL l r];simp[j0]
end Go.V
namespace Go.Proofs.YtnleclohocdkaaaGreat
open Go.V Go
def oq (fr:Go.V.Fr) (k:Nat):Go.V.D:=Go.V.nth .junk fr.loc k
def ai (x:Rg):List D:=[.int .i32 x.1,.int .i32 x.2]
def aX (l:List Rg):D:=.sl (l.map fun x=>.agg (ai x))
theorem fG (l:List Rg):D.sl ((l.map ai).map (iC 2))=aX l:=by
 unfold aX;rw[List.map_map];rfl
theorem c9 (l:List Rg):∀e∈l.map ai,∀d∈e,bD d=true:=by
 intro e he d hd;obtain⟨x,_,rfl⟩:=List.mem_map.1 he;simp only[ai,List.mem_cons,List.not_mem_nil,or_false] at hd
 rcases hd with rfl|rfl<;>rfl
theorem vS (l:List Rg):refs (l.map ai).flatten=0:=by
 induction l with
 |nil=>rfl
 |cons x l ih=>simp only[List.map_cons,List.flatten_cons,ai,List.cons_append,List.nil_append,refs,D.ref,ih];rfl
theorem jt (l:List Rg):∀e∈l.map ai,e.length=2:=by
 intro e he;obtain⟨x,_,rfl⟩:=List.mem_map.1 he;rfl
theorem ef (st:St) (l:List Rg):V.Rows st 2 (aX l) (l.map ai):=by
 rw[←fG];exact Rows.t_ (jt l) (c9 l)
theorem eH {l:List Rg} {i:Nat} {q:Rg} (h:l[i]?=some q):(l.map ai)[i]?=some (ai q):=by rw[List.getElem?_map,h];rfl
theorem zt (l:List Rg) (q:Rg) (r:Int):j0 (l++[q]) r=(j0 l r||(decide (q.1≤r) &&decide (r≤q.2))):=by
 induction l with
 |nil=>simp[j0]
 |cons x l ih=>simp only[List.cons_append,j0,ih,Bool.or_assoc]
theorem BP {l:List Rg} {i:Nat} {r:Int} (h:j0 (l.take i) r=true):j0 l r=true:=by
 rw[uL] at h⊢;obtain⟨x,h1,h2⟩:=h;exact⟨x,List.mem_of_mem_take h1,h2⟩
theorem BO {s0:St} {x:D} {l:List Rg} {r:Int} (hx:V.Rows s0 2 x (l.map ai)) (hl:l.length≤1073741824):Ev pv 103 [x,.int .i32 r] s0 (.bool (j0 l r)) s0:=by
 refine Ev.mk1 rfl Jf rfl rfl rfl ?_;refine zE ?_;obtain⟨hSb,hF,hH⟩:=ri s0;generalize enterSt .ro s0=S at*;have hx:=Arg.of hx hSb;refine zQ 8 ?_;refine qn ?_;simp only[List.length_map];refine zQ 3 ?_;refine EvC.loop (fun mm fr st=>∃(i:Nat),fr.clean=⟨10,[x,.int .i32 r,oq fr 2,oq fr 3,.bool false,oq fr 5,oq fr 6,x,.int .i64 (l.length:Nat),.int .i64 (i:Nat)],[]⟩∧Has s0.bs.length S st []∧(i+mm=l.length)∧(j0 (l.take i) r=false)) (l.length) ?_ ?_
 ·exact⟨0,rfl,hH,by omega,rfl⟩
 rintro mm fr st ⟨i,hfr,hH,hi,hn⟩;rw[hfr];clear hfr;generalize oq fr=ee;clear fr;refine zQ 5 ?_;refine zP (fun h1=>?_) fun h1=>?_
 ·refine zQ 1 ?_
  obtain⟨q,hq⟩:∃q,l[i]?=some q:=⟨l[i]'(by omega),List.getElem?_eq_getElem _⟩
  have hr:=eH hq;refine zQ 4 ?_;refine qr fun Nr HT=>?_;refine EvO.cq rfl (ev rfl) (by assumption) rfl (put_T rfl _) ?_;refine qa hH fun k6 st DP hH=>?_;refine qS hH at0 fun st hH=>?_;dsimp only[u2,u1,u3,u4,setMany,u5,u6,D.cells,Nat.reduceAdd,ai] at hH;refine zQ 2 ?_;refine EvC.cutT 22 (.bool (decide (r≥q.1) &&decide (r≤q.2))) [] ?_ (fun ff tmp htmp=>?_)
  ·refine zQ 5 ?_;refine EvO.two 17 rfl (fun hg4=>?_) (fun hg4=>?_)
   ·refine zQ 5 ?_;refine EvO.nil (leafT ?_ ?_)
    ·dsimp only[setW,List.foldl,nth,u2,u1]
     all_goals(first|rfl|simp)
    ·refine zF ?_
     all_goals(simp[hg4];done)
   ·refine zQ 5 ?_;refine EvO.nil (leafT ?_ ?_)
    ·dsimp only[setW,List.foldl,nth,u2,u1]
     all_goals(first|rfl|simp)
    ·refine zF ?_
     all_goals(simp[hg4];done)
  refine zG ?_
  have ht:j0 (l.take (i+1)) r=(decide (r≥q.1) &&decide (r≤q.2)):=by
   rw[List.take_add_one,hq,Option.toList_some,zt,hn];simp
  refine qc (fun h2=>?_) (fun h2=>?_)<;>try simp only[cs] at h2
  ·refine zQ 4 ?_;rw[BP (i:=i+1) (by rw[ht];simp[h2])];refine EvC.ret ⟨rx,_,rfl,rl hSb hH (rfl)⟩
  ·refine zQ 5 ?_;exact⟨mm-1,by omega,⟨i+1,rfl,(hH.drop 1),by omega,by rw[ht];simp[h2]⟩⟩
 ·refine zQ 5 ?_;have:j0 l r=false:=by rw[←hn,List.take_of_length_le (by omega)]
  rw[this];refine EvC.ret ⟨rx,_,rfl,rl hSb hH (rfl)⟩
def aG (fr:Go.V.Fr) (k:Nat):Go.V.D:=Go.V.nth .junk fr.loc k
def dO:List Rg:=[(0,55295),(57344,1114111)]
def pt (lo hi:Int) (p:Rg):List Rg:=if max lo p.1≤min hi p.2 then[(max lo p.1,min hi p.2)] else[]
theorem rN (q:Rg):cG q=dO.flatMap (pt (max q.1 0) (min q.2 1114111)):=by
 simp[cG,dO,pt]
theorem Aw {s0:St} (q:Rg):Ev pv 145 [.agg (ai q)] s0 (aX (cG q)) s0:=by
 refine Ev.mk1 rfl I0 rfl rfl rfl ?_;refine zE ?_;obtain⟨hSb,hF,hH⟩:=ri s0;generalize enterSt .ro s0=S at*;refine zQ 2 ?_;refine qb hH fun k1 st oE hH=>?_;dsimp only[u2,u1,u3,u4,setMany,u5,u6,D.cells,Nat.reduceAdd,ai] at hH;refine zQ 6 ?_;refine EvO.Dh (t1:=0) (t2:=0) rfl (ev rfl) (ev rfl) (by dsimp only[Fr.put,u1,u2]<;>rfl) ?_;refine zQ 2 ?_;refine EvO.Dg (t1:=0) (t2:=0) rfl (ev rfl) (ev rfl) (by dsimp only[Fr.put,u1,u2]<;>rfl) ?_;refine zQ 1 ?_;refine qT hH at0 fun st hH=>?_;dsimp only[u2,u1,u3,u4,setMany,u5,u6,D.cells,Nat.reduceAdd,ai] at hH;refine zQ 1 ?_;refine qT hH at0 fun st hH=>?_;dsimp only[u2,u1,u3,u4,setMany,u5,u6,D.cells,Nat.reduceAdd,ai] at hH;refine zQ 1 ?_;generalize wC:max q.1 0=lo at*;generalize zn:min q.2 1114111=hi at*;refine zQ 4 ?_;have hH:=hH.nulE 2;refine zQ 5 ?_;refine qh (s:=2) (vs:=[_,_]) hH fun k17 st Ls hH=>?_;dsimp only[u2,u1,u3,u4,setMany,u5,u6,D.cells,Nat.reduceAdd,ai] at hH;refine qn ?_ (hR:=hH.rows at0);simp only[List.length_map,List.length_cons,List.length_nil];refine zQ 3 ?_;refine EvC.loop (fun mm fr st=>∃(i:Nat) (x:D),fr.clean=⟨20,[.agg (ai q),.ptr k1 0 0,.nul,x,aG fr 4,aG fr 5,aG fr 6,aG fr 7,aG fr 8,aG fr 9,aG fr 10,aG fr 11,aG fr 12,aG fr 13,aG fr 14,aG fr 15,aG fr 16,.win k17 0 0 2 2,.int .i64 2,.int .i64 (i:Nat)],[]⟩∧Has s0.bs.length S st [.lst (.win k17 0 0 2 2) 2 (dO.map ai),.lst x 2 (((dO.take i).flatMap (pt lo hi)).map ai),.box k1 (.mem 0 false [.int .i32 lo,.int .i32 hi])]∧(i+mm=2)∧(((dO.take i).flatMap (pt lo hi)).length≤i)) (2) ?_ ?_
 ·exact⟨0,.nul,rfl,hH,by omega,by simp⟩
 rintro mm fr st ⟨i,x,hfr,hH,hij,hb⟩;rw[hfr];clear hfr;generalize aG fr=ee;clear fr;refine zQ 5 ?_;refine zP (fun h1=>?_) fun h1=>?_
 ·refine zQ 1 ?_
  obtain⟨p,hp⟩:∃p,dO[i]?=some p:=⟨dO[i]'(by simp[dO];omega),List.getElem?_eq_getElem _⟩
  have hr:=eH hp;refine zQ 4 ?_;refine qi hH at0 fun J4 Fx=>?_;refine EvO.r_ hH rfl (ev rfl) (by assumption) (by exact at0) (by assumption) rfl (put_T rfl _) ?_;refine qa hH fun k5 st FJ hH=>?_;refine qS hH at0 fun st hH=>?_;dsimp only[u2,u1,u3,u4,setMany,u5,u6,D.cells,Nat.reduceAdd,ai] at hH;refine zQ 7 ?_;refine EvO.Dh (t1:=0) (t2:=0) rfl (ev rfl) (ev rfl) (put_T rfl _) ?_;refine zQ 4 ?_;refine EvO.Dg (t1:=0) (t2:=0) rfl (ev rfl) (ev rfl) (put_T rfl _) ?_;refine qg ?_;refine qa hH fun k6 st DP hH=>?_;refine qS hH at0 fun st hH=>?_;dsimp only[u2,u1,u3,u4,setMany,u5,u6,D.cells,Nat.reduceAdd,ai] at hH;refine zQ 9 ?_;refine zP (fun h2=>?_) fun h2=>?_
  ·refine zQ 2 ?_;refine EvO.hloadS (m:=2) hH rfl (ev rfl) (by exact at0) (by dsimp only[List.drop_succ_cons,List.drop_zero,List.take_succ_cons,List.take_zero,ai]<;>rfl) rfl rfl (put_T rfl _) ?_;refine qh (s:=2) (vs:=[_]) hH fun k41 st H8 hH=>?_;refine EvO.happend (s:=2) hH rfl (ev rfl) (ev rfl) (by exact at4) (by exact hH.rows (by exact at0)) rfl rfl rfl rfl rfl rfl rfl ⟨(Nat.le_of_ble_eq_true rfl),(Nat.le_of_ble_eq_true rfl)⟩ (fun _=>(put_T rfl _)) (by simp only[List.length_cons,List.length_nil,List.length_map]<;>omega) (by exact .inl hF) (fun GN st hH=>?_);dsimp only[u2,u1,u3,u4,setMany,u5,u6,D.cells,Nat.reduceAdd,ai] at hH;refine zQ 6 ?_
   have h3:(dO.take (i+1)).flatMap (pt lo hi)=(dO.take i).flatMap (pt lo hi)++[(max lo p.1,min hi p.2)]:=by
    rw[List.take_add_one,hp,List.flatMap_append];simp[pt,h2]
   exact⟨mm-1,by omega,⟨i+1,GN,rfl,(by rw[h3,List.map_append];exact hH.drop 3),by omega,by rw[h3];simp only[List.length_append,List.length_cons,List.length_nil];omega⟩⟩
  ·refine zQ 5 ?_
   have h3:(dO.take (i+1)).flatMap (pt lo hi)=(dO.take i).flatMap (pt lo hi):=by
    rw[List.take_add_one,hp,List.flatMap_append];simp[pt,h2]
   exact⟨mm-1,by omega,⟨i+1,x,rfl,(by rw[h3];exact hH.drop 2),by omega,by rw[h3];omega⟩⟩
 ·refine zQ 6 ?_;rw[←fG];have h3:dO.take i=dO:=List.take_of_length_le (by simp[dO];omega);rw[h3] at hH;refine EvC.ret ⟨rx,_,rfl,rl hSb hH ?_⟩;refine Eq.trans (hH.freeze at1 (c9 _) (n:=15) (by decide)) ?_;rw[rN,wC,zn]
theorem yN (q x:Rg) (h:x∈cG q):0≤x.1∧x.1≤1114111:=by
 obtain⟨h1,h2,h3⟩:=lq q x h;omega
theorem nG (q:Rg):(cG q).length≤2:=by
 unfold cG;split<;>split<;>simp
theorem gk (l:List Rg):(l.flatMap cG).length≤2*l.length:=by
 induction l with
 |nil=>simp
 |cons x l ih=>simp only[List.flatMap_cons,List.length_append,List.length_cons];have:=nG x;omega
theorem pH:∀{l:List Rg},(∀x∈l,0≤x.1∧x.1≤1114111)→∃m:List Rs,dH m=(l.map ai).flatten∧m.map (fun x=>(x.lo,x.hi))=l
 |[],_=>⟨[],rfl,rfl⟩
 |x::l,h=>by
  obtain⟨m,h1,h2⟩:=pH (l:=l) fun y hy=>h y (List.mem_cons_of_mem _ hy);obtain⟨h3,h4⟩:=h x (List.mem_cons_self ..);exact⟨⟨x.1,x.2,h3,h4⟩::m,by simp only[dH,h1,List.map_cons,List.flatten_cons,ai,List.cons_append,List.nil_append],by simp[h2]⟩
theorem wU (m:List Rs):dH m=((m.map fun x=>((x.lo,x.hi):Rg)).map ai).flatten:=by
 induction m with
 |nil=>rfl
 |cons x m ih=>simp only[dH,ih,List.map_cons,List.flatten_cons,ai,List.cons_append,List.nil_append]
theorem BN {N:Nat} {S st:St} {H:List aN} {j:Nat} {x:D} {l:List Rg} (hH:Has N S st H) (hj:H[j]?=some (.lst x 2 (l.map ai))) (h0:l=[]→x=.nul) (hl:l.length≤1073741824) (hr:∀y∈l,0≤y.1∧y.1≤1114111):
  ∃(ae:St) (l':List Rg),Ev pv 146 [x,.fn 147 []] st (.tup []) ae∧Has N S ae (H.set j (.lst x 2 (l'.map ai)))∧l'.Perm l∧l'.Pairwise fun a b=>a.1≤b.1:=by
 obtain⟨m,h1,h2⟩:=pH hr;obtain⟨h3,h4⟩:=srt_facts m;have DJ:m.length=l.length:=by rw[←h2];simp
 have hperm:((srt m).map fun x=>((x.lo,x.hi):Rg)).Perm l:=by rw[←h2];exact h3.map _
 have mA:((srt m).map fun x=>((x.lo,x.hi):Rg)).Pairwise fun a b=>a.1≤b.1:=by rw[List.pairwise_map];exact h4
 have hlen:(srt m).length=l.length:=h3.length_eq.trans DJ;have hown:=hH.own hj;generalize mO:l.map ai=es at*;have ng:es.length=l.length:=by rw[←mO];simp
 cases hown with
 |nul=>
  have DO:l=[]:=by cases l with|nil=>rfl|cons _ _=>simp at ng
  refine⟨st,(srt m).map fun x=>(x.lo,x.hi),Ev.prim rfl rfl,?_,hperm,mA⟩
  have:(srt m).map (fun x=>((x.lo,x.hi):Rg))=[]:=by
   cases hs:srt m with
   |nil=>rfl
   |cons a b=>rw[hs,DO] at hlen;simp at hlen
  rw[this];exact hH.yC hj (fun _ _ _=>rfl) (Nat.le_refl _) rfl rfl .nul (fun k hk=>.inl hk) fun k hk=>by simp only[aN.lst,D.ref] at hk;omega
 |win k au off es c hm hle hc he=>
  have hne:l≠[]:=fun e=>by have:=h0 e;cases this
  have sN:1≤l.length:=by cases l with|nil=>exact absurd rfl hne|cons _ _=>simp
  have hk:=(hH.ok j _ hj).2 k (by simp only[aN.lst,D.ref]);have wF:(dH (srt m)).length=es.length*2:=by rw[kH,hlen,ng];omega
  have hwr:st.wr k au off (dH (srt m))=some ⟨st.bs.set k (.mem au true (c.take off++dH (srt m)++c.drop (off+(dH (srt m)).length))),st.flr,st.ro⟩:=
   jN hm (by omega) (eU hH hk.1 (.inr (rj _)))
  refine⟨⟨st.bs.set k (.mem au true (c.take off++dH (srt m)++c.drop (off+(dH (srt m)).length))),st.flr,st.ro⟩,(srt m).map fun x=>(x.lo,x.hi),Ev.prim rfl ?_,?_,hperm,mA⟩
  ·show yG [.win k au off es.length 2,.fn 147 []] st=_;have hcc:(c.drop off).take (2*es.length)=dH m:=by rw[Nat.mul_comm,hc,h1]
   simp only[yG,St.mem_of hm,hcc,xD,EM];rw[decide_eq_true (⟨by rw[DJ,ng],by omega,by omega⟩:m.length=es.length∧1≤es.length∧es.length<1099511627776)];simp only[hwr]
  ·refine hH.yC hj (fun n hn hne=>?_) (by simp) rfl rfl ?_ (fun n hn=>.inl hn) fun n hn=>?_
   ·simp only;rw[List.getElem?_set_ne (fun e=>hne (by simp only[aN.lst,D.ref];omega))]
   ·have h9:=e6.win (st:=⟨st.bs.set k (.mem au true (c.take off++dH (srt m)++c.drop (off+(dH (srt m)).length))),st.flr,st.ro⟩) (s:=2) k au off (((srt m).map fun x=>((x.lo,x.hi):Rg)).map ai) (c.take off++dH (srt m)++c.drop (off+(dH (srt m)).length))
     (by simp only;rw[List.getElem?_set_self hk.2]) (by simp only[List.length_append,List.length_take,List.length_map,List.length_drop,wF];omega) ?_ (jt _)
    ·simp only[List.length_map,hlen] at h9;rw[ng];exact h9
    ·have Lg:(c.take off).length=off:=by simp;omega
     rw[List.append_assoc,List.drop_left' Lg,←wU,List.take_left' (by simp only[List.length_map,hlen];omega)]
   ·simp only[aN.lst,D.ref] at hn;simp only[List.length_set];omega
theorem oo (l:List Rg):(l.foldl cD []).length≤l.length:=by
 have key:∀(l acc:List Rg),(l.foldl cD acc).length≤acc.length+l.length:=by
  intro l
  induction l with
  |nil=>intro acc;simp
  |cons x l ih=>
   intro acc;simp only[List.foldl_cons,List.length_cons];have:=ih (cD acc x)
   have h2:(cD acc x).length≤acc.length+1:=by
    unfold cD;split
    ·simp
    ·split<;>simp
   omega
 have:=key l []
 simpa using this
theorem Dm {l:List Rg} (h:∀x∈l,0≤x.2∧x.2≤1114111):∀x∈l.foldl cD [],0≤x.2∧x.2≤1114111:=by
 have key:∀(l acc:List Rg),(∀x∈l,0≤x.2∧x.2≤1114111)→(∀x∈acc,0≤x.2∧x.2≤1114111)→∀x∈l.foldl cD acc,0≤x.2∧x.2≤1114111:=by
  intro l
  induction l with
  |nil=>intro acc _ h x hx;exact h x hx
  |cons y l ih=>
   intro acc h1 h2;refine ih _ (fun x hx=>h1 x (List.mem_cons_of_mem _ hx)) fun x hx=>?_;have hy:=h1 y (List.mem_cons_self ..);unfold cD at hx
   split at hx
   ·simp only[List.mem_cons,List.not_mem_nil,or_false] at hx;rw[hx];exact hy
   ·rename_i k rest;have hk:=h2 k (List.mem_cons_self ..)
    split at hx
    ·rcases List.mem_cons.1 hx with rfl|hx
     ·simp only;omega
     ·exact h2 x (List.mem_cons_of_mem _ hx)
    ·rcases List.mem_cons.1 hx with rfl|hx
     ·exact hy
     ·exact h2 x hx
 exact key l [] h (fun x hx=>by cases hx)
theorem Bf (h:Rg) (t:List Rg):((h::t).reverse.map ai)[t.length]?=some (ai h):=by
 rw[List.getElem?_map,List.reverse_cons,List.getElem?_append_right (by simp)];simp
theorem Be (h h':Rg) (t:List Rg):((h::t).reverse.map ai).set t.length (ai h')=(h'::t).reverse.map ai:=by
 rw[List.reverse_cons,List.map_append,List.set_append_right _ _ (by simp)];simp
theorem xR {s0:St} {x:D} {l:List Rg} (hx:V.Rows s0 2 x (l.map ai)) (hl:l.length≤268435456):∃d,Ev pv 133 [x] s0 d s0∧∃all:List Rg,d=aX (all.foldl cD []).reverse∧all.Perm (l.flatMap cG)∧all.Pairwise fun a b=>a.1≤b.1:=by
 refine Ev.CC rfl I3 rfl rfl rfl ?_;refine zE ?_;obtain⟨hSb,hF,hH⟩:=ri s0;generalize enterSt .ro s0=S at*;have hx:=Arg.of hx hSb;have lU:=gk l
 have hfi:∀i,((l.take i).flatMap cG).length≤2*l.length:=fun i=>by
  have:=gk (l.take i);simp only[List.length_take] at this;omega
 refine zQ 13 ?_;refine qn ?_;simp only[List.length_map];refine zQ 2 ?_;have hH:=hH.nulE 2;refine zQ 1 ?_;refine EvC.loop (fun mm fr st=>∃(i:Nat) (y:D),fr.clean=⟨26,[x,aG fr 1,aG fr 2,y,.nul,aG fr 5,aG fr 6,aG fr 7,aG fr 8,aG fr 9,x,.int .i64 (l.length:Nat),.int .i64 (i:Nat),aG fr 13,aG fr 14,aG fr 15,aG fr 16,aG fr 17,aG fr 18,aG fr 19,aG fr 20,aG fr 21,aG fr 22,aG fr 23,aG fr 24,aG fr 25],[]⟩∧Has s0.bs.length S st [.lst y 2 (((l.take i).flatMap cG).map ai)]∧(i+mm=l.length)∧((l.take i).flatMap cG=[]→y=.nul)) (l.length) ?_ ?_
 ·exact⟨0,.nul,rfl,hH,by omega,fun _=>rfl⟩
 rintro mm fr st ⟨i,y,hfr,hH,hi,FA⟩;rw[hfr];clear hfr;generalize aG fr=ee;clear fr;refine zQ 4 ?_;have hm:=hfi i;refine qq<|zP (fun h1=>?_) fun h1=>?_
 ·refine zQ 1 ?_
  obtain⟨q,hq⟩:∃q,l[i]?=some q:=⟨l[i]'(by omega),List.getElem?_eq_getElem _⟩
  have hr:=eH hq
  have DN:(l.take (i+1)).flatMap cG=(l.take i).flatMap cG++cG q:=by
   rw[List.take_add_one,hq];simp
  have SE:=nG q;refine zQ 4 ?_;refine qr fun Sz P7=>?_;refine EvO.cq rfl (ev rfl) (by assumption) rfl (by dsimp only[Fr.put,u1,u2]<;>rfl) ?_;refine qa hH fun k6 st DP hH=>?_;refine qS hH at0 fun st hH=>?_;dsimp only[u2,u1,u3,u4,setMany,u5,u6,D.cells,Nat.reduceAdd,ai] at hH;refine zQ 3 ?_;refine EvO.hloadS (m:=2) hH rfl (ev rfl) (by exact at0) (by dsimp only[List.drop_succ_cons,List.drop_zero,List.take_succ_cons,List.take_zero,ai]<;>rfl) rfl rfl (by dsimp only[Fr.put,u1,u2]<;>rfl) ?_;refine qv (Aw q) ?_;refine EvO.BQ hH rfl rfl rfl (by exact at1) (ef _ _) rfl rfl rfl rfl rfl rfl rfl ⟨(Nat.le_of_ble_eq_true rfl),(Nat.le_of_ble_eq_true rfl)⟩ (fun _=>by dsimp only[Fr.put,u1,u2]<;>rfl) (by simp only[List.length_map];omega) (.inl hF) (fun Ju st HW hH=>?_);dsimp only[u2,u1] at hH;refine zQ 6 ?_;exact⟨mm-1,by omega,⟨i+1,Ju,rfl,(by rw[DN,List.map_append];exact hH.drop 1),by omega,by rw[DN];intro h;obtain⟨h3,h4⟩:=List.append_eq_nil_iff.1 h;rw[HW (by rw[h4];rfl)];exact FA h3⟩⟩
 ·refine zQ 1 ?_;have hT:l.take i=l:=List.take_of_length_le (by omega);rw[hT] at hH FA hm
  obtain⟨st2,all,hev,DY,hperm,mA⟩:=BN hH at0 FA (by omega) (fun z hz=>by
   obtain⟨w,_,hw⟩:=List.mem_flatMap.1 hz
   exact yN w z hw)
  have hlen:=hperm.length_eq
  have hbd:∀z∈all,0≤z.2∧z.2≤1114111:=fun z hz=>by
   obtain⟨w,_,hw⟩:=List.mem_flatMap.1 (hperm.mem_iff.1 hz);have:=lq w z hw;omega
  refine zQ 3 ?_;refine qv (hev) ?_;refine zQ 1 ?_;have hH:=DY;dsimp only[u2] at hH;clear DY hev;have hR:=hH.rows at0;have hH:=hH.nulE 2;refine zQ 4 ?_;refine qn ?_ (hR:=hH.rows at1);simp only[List.length_map];refine zQ 3 ?_;refine EvC.loop (fun mm fr st=>∃(i:Nat) (z:D),fr.clean=⟨26,[x,aG fr 1,aG fr 2,y,z,aG fr 5,aG fr 6,aG fr 7,aG fr 8,aG fr 9,aG fr 10,aG fr 11,aG fr 12,aG fr 13,aG fr 14,aG fr 15,aG fr 16,aG fr 17,aG fr 18,aG fr 19,aG fr 20,aG fr 21,aG fr 22,y,.int .i64 (all.length:Nat),.int .i64 (i:Nat)],[]⟩∧Has s0.bs.length S st [.lst z 2 (((all.take i).foldl cD []).reverse.map ai),.lst y 2 (all.map ai)]∧(i+mm=all.length)) (all.length) ?_ ?_
  ·exact⟨0,.nul,rfl,hH,by omega⟩
  rintro mm fr st ⟨i,z,hfr,hH,hi⟩;rw[hfr];clear hfr;generalize aG fr=ee;clear fr;refine zQ 4 ?_
  have iK:((all.take i).foldl cD []).length≤all.length:=by
   have:=oo (all.take i);simp only[List.length_take] at this;omega
  refine qq<|zP (fun h1=>?_) fun h1=>?_
  ·refine zQ 1 ?_
   obtain⟨q,hq⟩:∃q,all[i]?=some q:=⟨all[i]'(by omega),List.getElem?_eq_getElem _⟩
   have hr:=eH hq
   have FM:(all.take (i+1)).foldl cD []=cD ((all.take i).foldl cD []) q:=by
    rw[List.take_add_one,hq,List.foldl_append];rfl
   generalize DV:(all.take i).foldl cD []=acc at*;refine zQ 4 ?_;refine qi hH at1 fun p27 hp27=>?_;refine EvO.r_ hH rfl (ev rfl) (by assumption) (by exact at1) (by assumption) rfl (put_T rfl _) ?_;refine qa hH fun k8 st hk8 hH=>?_;refine qS hH at0 fun st hH=>?_;dsimp only[u2,u1,u3,u4,setMany,u5,u6,D.cells,Nat.reduceAdd,ai] at hH;refine zQ 1 ?_
   rcases acc with _|⟨h,t⟩
   ·refine zQ 3 ?_;refine qn ?_ (hR:=hH.rows at1);simp only[List.length_map,List.length_nil,List.length_reverse];refine EvO.kb (z:=(-1)) rfl (ev rfl) (ev rfl) (by(try simp only[List.length_reverse,List.length_cons,List.length_nil,List.length_append,List.length_map,List.length_set]);rw[wrap_i64 (by omega) (by omega)]<;>omega) (put_T rfl _) ?_;refine zQ 2 ?_;have bU:decide ((-1:Int)≥0)=false:=by decide
    refine qq<|EvC.cutT 44 (.bool false) [] ?_ (fun ff tmp htmp=>?_)
    ·refine zQ 13 ?_;refine EvO.nil (leafT ?_ ?_)
     ·dsimp only[setW,List.foldl,nth,u2,u1]
      all_goals(first|rfl|simp)
     ·dsimp only[Fr.putO,Fr.put,Fr.clean,Fr.ev,Fr.get,nth,look,u1,u2,v1,v2,v4]
      all_goals(first|rfl|(simp[bU];done)|(simp_all;done)|(simp[bU];omega)|(simp_all;omega))
    dsimp only[setW,List.foldl,nth,u2,u1];dsimp only[Fr.putO,Fr.put,Fr.clean,Fr.ev,Fr.get,nth,look,u1,u2,v1,v2,v4];refine zQ 3 ?_;refine EvO.hloadS (m:=2) hH rfl (ev rfl) (by exact at0) (by dsimp only[List.drop_succ_cons,List.drop_zero,List.take_succ_cons,List.take_zero,ai]<;>rfl) rfl rfl (put_T rfl _) ?_;refine qh (s:=2) (vs:=[_]) hH fun k59 st Lp hH=>?_;refine EvO.happend (s:=2) hH rfl (ev rfl) (ev rfl) (by exact at2) (by exact hH.rows (by exact at0)) rfl rfl rfl rfl rfl rfl rfl ⟨(Nat.le_of_ble_eq_true rfl),(Nat.le_of_ble_eq_true rfl)⟩ (fun _=>(put_T rfl _)) (by simp only[List.length_cons,List.length_nil,List.length_map,List.length_reverse]<;>omega) (by exact .inl hF) (fun JP st hH=>?_);dsimp only[u2,u1,u3,u4,setMany,u5,u6,D.cells,Nat.reduceAdd,ai] at hH;refine zQ 6 ?_;exact⟨mm-1,by omega,⟨i+1,JP,rfl,(by rw[FM];exact hH.drop 2),by omega⟩⟩
   ·simp only[List.length_cons] at iK;refine zQ 3 ?_;refine qn ?_ (hR:=hH.rows at1);simp only[List.length_map,List.length_cons,List.length_reverse];refine EvO.kb (z:=((t.length:Nat):Int)) rfl (ev rfl) (ev rfl) (by(try simp only[List.length_reverse,List.length_cons,List.length_nil,List.length_append,List.length_map,List.length_set]);rw[wrap_i64 (by omega) (by omega)]<;>omega) (put_T rfl _) ?_;refine zQ 2 ?_;have x7:=Bf h t;have fW:=Be h (h.1,max h.2 q.2) t;have zn:=Dm (l:=all.take i) (fun x hx=>hbd x (List.mem_of_mem_take hx)) h (by rw[DV];exact List.mem_cons_self ..);have bU:decide (((t.length:Nat):Int)≥0)=true:=by rw[decide_eq_true];omega
    refine qq<|EvC.cutT 44 (.bool (decide (q.1≤h.2+1))) [] ?_ (fun ff tmp htmp=>?_)
    ·refine zQ 7 ?_;refine qi hH at1 (fun OX K7=>?_) (hg:=wi bU);refine EvO.cS (fo:=1) (m:=0) (o2:=1) (wantD_is rfl rfl rfl bU) (ev rfl) (by assumption) rfl rfl rfl (fun _=>(put_T rfl _)) (fun OW K6=>?_);refine zQ 1 ?_;refine EvO.addS32 (wantD_is rfl rfl rfl bU) (ev rfl) (ev rfl) (by omega) (by omega) (put_T rfl _) ?_;refine zQ 2 ?_;refine EvO.nil (leafT ?_ ?_)
     ·dsimp only[setW,List.foldl,nth,u2,u1]
      all_goals(first|rfl|simp)
     ·dsimp only[Fr.putO,Fr.put,Fr.clean,Fr.ev,Fr.get,nth,look,u1,u2,v1,v2,v4]
      all_goals(first|rfl|(simp[bU];done)|(simp_all;done)|(simp[bU];omega)|(simp_all;omega))
    dsimp only[setW,List.foldl,nth,u2,u1];dsimp only[Fr.putO,Fr.put,Fr.clean,Fr.ev,Fr.get,nth,look,u1,u2,v1,v2,v4];refine EvC.cond (by assumption) (fun h2=>?_) (fun h2=>?_)<;>try simp only[decide_eq_true_eq,decide_eq_false_iff_not] at h2
    ·refine zQ 5 ?_;refine qi hH at1 fun JZ Fs=>?_;refine EvO.cS (fo:=1) (m:=0) (o2:=1) rfl (ev rfl) (by assumption) rfl rfl rfl (fun _=>(put_T rfl _)) (fun JY Fq=>?_);refine zQ 3 ?_;refine EvO.Dh (t1:=0) (t2:=0) rfl (ev rfl) (ev rfl) (put_T rfl _) ?_;refine qi hH at1 fun Ss PZ=>?_;refine EvO.cS (fo:=1) (m:=0) (o2:=1) rfl (ev rfl) (by assumption) rfl rfl rfl (fun _=>(put_T rfl _)) (fun OR K1=>?_);refine EvO.jR hH rfl (ev rfl) (ev rfl) (by assumption) rfl rfl (by exact at1) (by assumption) (Nat.le_of_ble_eq_true rfl) (by exact .inl hF) (fun st hH=>?_);dsimp only[u2,u1,u3,u4,setMany,u5,u6,D.cells,Nat.reduceAdd,ai] at hH;refine zQ 5 ?_;exact⟨mm-1,by omega,⟨i+1,z,rfl,(by rw[FM];simp only[cD,if_pos h2];rw[←fW];exact hH.drop 1),by omega⟩⟩
    ·refine zQ 2 ?_;refine EvO.hloadS (m:=2) hH rfl (ev rfl) (by exact at0) (by dsimp only[List.drop_succ_cons,List.drop_zero,List.take_succ_cons,List.take_zero,ai]<;>rfl) rfl rfl (put_T rfl _) ?_;refine qh (s:=2) (vs:=[_]) hH fun k59 st Lp hH=>?_;refine EvO.happend (s:=2) hH rfl (ev rfl) (ev rfl) (by exact at2) (by exact hH.rows (by exact at0)) rfl rfl rfl rfl rfl rfl rfl ⟨(Nat.le_of_ble_eq_true rfl),(Nat.le_of_ble_eq_true rfl)⟩ (fun _=>(put_T rfl _)) (by simp only[List.length_cons,List.length_nil,List.length_map,List.length_reverse]<;>omega) (by exact .inl hF) (fun JP st hH=>?_);dsimp only[u2,u1,u3,u4,setMany,u5,u6,D.cells,Nat.reduceAdd,ai] at hH;refine zQ 6 ?_;exact⟨mm-1,by omega,⟨i+1,JP,rfl,(by rw[FM];simp only[cD,if_neg h2];rw[List.reverse_cons (a:=q),List.map_append];exact hH.drop 2),by omega⟩⟩
  ·refine zQ 6 ?_;rw[List.take_of_length_le (by omega)] at hH;refine EvC.ret ⟨rx,_,_,rfl,rl hSb hH ((hH.freeze at0 (c9 _) (n:=15) (by decide))),?_⟩;exact⟨all,by rw[fG],hperm,mA⟩
def gu (fr:Go.V.Fr) (k:Nat):Go.V.D:=Go.V.nth .junk fr.loc k
def eR (l a:List Rg):Prop:=canon a∧∀r,dZ a r↔lO r∧dZ l r
theorem eR.unique {l a b:List Rg} (h:eR l a) (g:eR l b):a=b:=kO h.1 g.1 fun r=>(h.2 r).trans (g.2 r).symm
noncomputable def dM (l:List Rg):Bool:=@decide (eR l l) (Classical.propDecidable _)
theorem yR {l a:List Rg} (h:eR l a):dM l=decide (l=a):=by
 unfold dM
 by_cases hl:l=a
 ·rw[decide_eq_true hl];exact@decide_eq_true _ (Classical.propDecidable _) (by rw[hl] at h⊢;exact h)
 ·rw[decide_eq_false hl];exact@decide_eq_false _ (Classical.propDecidable _) (fun g=>hl (g.unique h))
theorem y8 (p q:Rg):gX pv .neq 116 (.agg (ai p)) (.agg (ai q))=some (.bool (!decide (p=q))):=by
 have h:∀a b a' b':Int,gX pv .neq 116 (.agg [.int .i32 a,.int .i32 b]) (.agg [.int .i32 a',.int .i32 b'])=Option.map (fun b=>D.bool !b) (match some (a==a') with|some true=>(match some (b==b') with|some true=>some true|some false=>some false|none=>none)|some false=>some false|none=>none):=fun _ _ _ _=>rfl;obtain⟨a,b⟩:=p;obtain⟨a',b'⟩:=q;simp only[ai,h]
 by_cases h1:a=a'
 ·subst h1
  by_cases h2:b=b'
  ·subst h2;simp
  ·have:(b==b')=false:=by simpa using h2
   simp[this,h2]
 ·have:(a==a')=false:=by simpa using h1
  simp[this,h1]
theorem rL {α:Type} {a b:List α} {i:Nat} {x y:α} (ha:a[i]?=some x) (hb:b[i]?=some y) (h:a.take i=b.take i) (Hn:x=y):a.take (i+1)=b.take (i+1):=by
 rw[List.take_add_one,List.take_add_one,h,ha,hb,Hn]
theorem y9 {α:Type} {a b:List α} {i:Nat} {x y:α} (ha:a[i]?=some x) (hb:b[i]?=some y) (Hn:¬x=y):¬a=b:=by
 intro h;subst h;rw[ha] at hb;exact Hn (Option.some.inj hb)
theorem B3 {s0:St} {x y:D} {l m:List Rg} (hx:V.Rows s0 2 x (l.map ai)) (hy:V.Rows s0 2 y (m.map ai)) (hl:l.length≤1073741824) (hm:m.length≤1073741824):Ev pv 132 [x,y] s0 (.bool (decide (l=m))) s0:=by
 refine Ev.mk1 rfl I4 rfl rfl rfl ?_;refine zE ?_;obtain⟨hSb,hF,hH⟩:=ri s0;generalize enterSt .ro s0=S at*;have hx:=Arg.of hx hSb;have hy:=Arg.of hy hSb;refine zQ 8 ?_;refine qn ?_;simp only[List.length_map];refine qm ?_;refine qn ?_;simp only[List.length_map];refine zQ 2 ?_
 by_cases hlen:l.length=m.length
 ·refine EvC.cond (v:=false) ?_ (fun h=>by cases h) (fun _=>?_)
  ·dsimp only[Fr.ev,Fr.get,nth,V.look];rw[hlen];simp
  refine zQ 5 ?_;refine qn ?_;simp only[List.length_map];refine zQ 3 ?_;refine EvC.loop (fun mm fr st=>∃(i:Nat),fr.clean=⟨14,[x,y,gu fr 2,gu fr 3,.bool false,gu fr 5,gu fr 6,gu fr 7,gu fr 8,gu fr 9,gu fr 10,gu fr 11,.int .i64 (l.length:Nat),.int .i64 (i:Nat)],[]⟩∧Has s0.bs.length S st []∧(i+mm=l.length)∧(l.take i=m.take i)) (l.length) ?_ ?_
  ·exact⟨0,rfl,hH,by omega,rfl⟩
  rintro mm fr st ⟨i,hfr,hH,hi,ht⟩;rw[hfr];clear hfr;generalize gu fr=ee;clear fr;refine zQ 5 ?_;refine zP (fun h1=>?_) fun h1=>?_
  ·refine zQ 1 ?_
   obtain⟨p,hp⟩:∃p,l[i]?=some p:=⟨l[i]'(by omega),List.getElem?_eq_getElem _⟩
   obtain⟨q,hq⟩:∃q,m[i]?=some q:=⟨m[i]'(by omega),List.getElem?_eq_getElem _⟩
   have hr1:=eH hp;have mN:=eH hq;refine zQ 11 ?_;refine qr fun Np HG=>?_;refine EvO.cq rfl (ev rfl) (by assumption) rfl (put_T rfl _) ?_;refine zQ 2 ?_;refine qr fun J3 Fw=>?_;refine EvO.cq rfl (ev rfl) (by assumption) rfl (put_T rfl _) ?_;refine EvO.Gw rfl (ev rfl) (ev rfl) (y8 p q) (put_T rfl _) ?_;refine zQ 1 ?_;refine EvC.cond (by rfl) (fun h2=>?_) (fun h2=>?_)<;>try simp only[decide_eq_true_eq,decide_eq_false_iff_not,Bool.not_eq_true',Bool.not_eq_false'] at h2
   ·refine zQ 4 ?_;rw[decide_eq_false (y9 hp hq (by simpa using h2))];refine EvC.ret ⟨rx,_,rfl,rl hSb hH (rfl)⟩
   ·refine zQ 5 ?_;exact⟨mm-1,by omega,⟨i+1,rfl,hH,by omega,rL hp hq ht (by simpa using h2)⟩⟩
  ·refine zQ 5 ?_;rw[decide_eq_true (by rw[List.take_of_length_le (by omega),List.take_of_length_le (by omega)] at ht;exact ht)];refine EvC.ret ⟨rx,_,rfl,rl hSb hH (rfl)⟩
 ·refine EvC.cond (v:=true) ?_ (fun _=>?_) (fun h=>by cases h)
  ·dsimp only[Fr.ev,Fr.get,nth,V.look];simp;omega
  refine zQ 4 ?_;rw[decide_eq_false (fun h=>hlen (by rw[h]))];refine EvC.ret ⟨rx,_,rfl,rl hSb hH (rfl)⟩
theorem tI {s0:St} {x:D} {l:List Rg} (hx:V.Rows s0 2 x (l.map ai)) (hl:l.length≤1048576):Ev pv 121 [x] s0 (.bool (dM l)) s0:=by
 refine Ev.mk1 rfl I9 rfl rfl rfl ?_;refine zE ?_;obtain⟨hSb,hF,hH⟩:=ri s0;generalize enterSt .ro s0=S at*;have hx:=Arg.of hx hSb;refine zQ 4 ?_;obtain⟨_,hev,all,rfl,hperm,mA⟩:=xR (hx.rows hH) (by omega);have hM:eR l (all.foldl cD []).reverse:=og (fun x=>hperm.mem_iff) mA;have hlen:=hperm.length_eq;have lU:=gk l;have iK:=oo all;rw[yR hM];refine zQ 4 ?_;refine qv (hev) ?_;refine qv (B3 (hx.rows hH) (ef _ _) (by omega) (by rw[List.length_reverse];omega)) ?_;refine zQ 2 ?_;refine EvC.ret ⟨rx,_,rfl,rl hSb hH (rfl)⟩
structure az where
 op:Int
 x:Int
 y:Int
 rd:D
 rs:List Rg
def aA (i:az):List D:=[.int .i64 i.op,.int .i64 i.x,.int .i64 i.y,i.rd]
def az.ok (i:az):Prop:=SlD i.rd 2 (i.rs.map ai)∧i.rs.length≤1048576
def aj (n:Int):List D:=[.int .i64 n]
structure Pg where
 cd:D
 code:List az
 sd:D
 aq:List Int
structure Pg.ok (p:Pg):Prop where
 c:SlD p.cd 4 (p.code.map aA)
 s:SlD p.sd 1 (p.aq.map aj)
 i:∀x∈p.code,x.ok
 cl:p.code.length≤1048576
 sl:p.aq.length≤1048576
def Pg.cs (p:Pg):List D:=[p.cd,p.sd]
def Pg.d (p:Pg):D:=.agg p.cs
theorem ft {l:List az} {i:Nat} {q:az} (h:l[i]?=some q):(l.map aA)[i]?=some (aA q):=by rw[List.getElem?_map,h];rfl
theorem dI {l:List Int} {i:Nat} {q:Int} (h:l[i]?=some q):(l.map aj)[i]?=some (aj q):=by rw[List.getElem?_map,h];rfl
def oy (v n:Int):Bool:=decide (v≥0) &&decide (v<n)
noncomputable def cw (n ns pc:Nat) (i:az):Bool:=
 if i.op=1 then i.y==0 &&(decide (((pc+1:Nat):Int)<n) &&i.x==0 &&dM i.rs)
 else i.rs.isEmpty &&
  (if i.op=2 then oy i.x n &&oy i.y n
  else i.y==0 &&
   (if i.op=3 then oy i.x n
   else if i.op=4 then decide (((pc+1:Nat):Int)<n) &&oy i.x 10
   else if i.op=5∨i.op=6 then decide (((pc+1:Nat):Int)<n) &&i.x==0
   else if i.op=7 then oy i.x ns
   else false))
theorem fy {s0:St} (v n:Int):Ev pv 100 [.int .i64 v,.int .i64 n] s0 (.bool (oy v n)) s0:=by
 refine Ev.mk1 rfl Ji rfl rfl rfl ?_;refine zE ?_;obtain⟨hSb,hF,hH⟩:=ri s0;generalize enterSt .ro s0=S at*;refine zQ 5 ?_;refine EvC.jI 4 (.bool (decide (v≥0) &&decide (v<n))) [] ?_ (fun ff tmp=>?_)
 ·refine zQ 3 ?_;refine EvO.two 7 rfl (fun bU=>?_) (fun bU=>?_)
  ·refine zQ 5 ?_;refine EvO.nil (aI ?_);refine zG ?_
   all_goals(simp[bU];done)
  ·refine zQ 5 ?_;refine EvO.nil (aI ?_);refine zG ?_
   all_goals(simp[bU];done)
 dsimp only[setW,List.foldl,nth,u2,u1];refine EvC.ret ⟨rx,_,rfl,rl hSb hH (rfl)⟩
theorem yH {s0:St} {p:Pg} {pc:Nat} {i:az} (hp:p.ok) (hi:p.code[pc]?=some i):Ev pv 99 [p.d,.int .i64 (pc:Nat)] s0 (.bool (cw p.code.length p.aq.length pc i)) s0:=by
 refine Ev.mk1 rfl Me rfl rfl rfl ?_;refine zE ?_;obtain⟨hSb,hF,hH⟩:=ri s0;generalize enterSt .ro s0=S at*;have hc:=hp.c.arg s0.bs.length S;have hs:=hp.s.arg s0.bs.length S;have Ib:=hp.i i (List.mem_of_getElem? hi);have hir:=Ib.1.arg s0.bs.length S;have hil:=Ib.2;have hcl:=hp.cl;have il:=hp.sl;have hr:=ft hi;have hlt:=lt_get hi;unfold Pg.d;refine zQ 2 ?_;refine qb hH fun k2 st hk2 hH=>?_;dsimp only[u2,u1,u3,u4,setMany,u5,u6,D.cells,Nat.reduceAdd,Pg.cs,aA,aj] at hH;refine zQ 7 ?_;refine qr fun Ns HU=>?_;refine EvO.cq rfl (ev rfl) (by assumption) rfl (by dsimp only[Fr.put,u1,u2]<;>rfl) ?_;refine qa hH fun k5 st FJ hH=>?_;refine qS hH at0 fun st hH=>?_;dsimp only[u2,u1,u3,u4,setMany,u5,u6,D.cells,Nat.reduceAdd,Pg.cs,aA,aj] at hH;refine zQ 7 ?_;refine qn ?_;simp only[List.length_map];refine zQ 5 ?_;refine EvC.jI 36 (.bool (((i.op !=1) &&decide ((i.rs.length:Int)>0))||((i.op !=2) &&(i.y !=0)))) [18,19,20,21,22,23,24,25,26,27,28,29,30,31,32,33,34,35] ?_ (fun ff tmp=>?_)
 ·refine zQ 4 ?_;refine EvO.two 21 rfl (fun hg3=>?_) (fun hg3=>?_)
  ·refine zQ 2 ?_;refine qn ?_ (hg:=wi hg3);simp only[List.length_map];refine zQ 3 ?_;refine EvO.two 27 rfl (fun ez=>?_) (fun ez=>?_)
   ·refine zQ 9 ?_;refine EvO.nil (aI ?_);refine zG ?_
    all_goals(simp_all;done)
   ·refine zQ 4 ?_;refine EvO.two 31 rfl (fun hg13=>?_) (fun hg13=>?_)
    ·refine zQ 3 ?_;refine EvO.pickT (wantD_is rfl rfl rfl ez) rfl hg13 (by dsimp only[Fr.put,u1,u2]<;>rfl) ?_;refine zQ 1 ?_;refine EvO.nil (aI ?_);refine zG ?_
     all_goals(simp_all;done)
    ·refine zQ 3 ?_;refine EvO.pickF (wantD_is rfl rfl rfl ez) rfl hg13 (by dsimp only[Fr.put,u1,u2]<;>rfl) ?_;refine zQ 1 ?_;refine EvO.nil (aI ?_);refine zG ?_
     all_goals(simp_all;done)
  ·refine zQ 10 ?_;refine EvO.two 31 rfl (fun hg13=>?_) (fun hg13=>?_)
   ·refine zQ 5 ?_;refine EvO.nil (aI ?_);refine zG ?_
    all_goals(simp[hg3,hg13];done)
   ·refine zQ 5 ?_;refine EvO.nil (aI ?_);refine zG ?_
    all_goals(simp[hg3,hg13];done)
 dsimp only[setW,List.foldl,nth,u2,u1];generalize ff 18=RO;generalize ff 19=RN;generalize ff 20=RM;generalize ff 21=RL;generalize ff 22=RK;generalize ff 23=RJ;generalize ff 24=RI;generalize ff 25=RH;generalize ff 26=RG;generalize ff 27=RF;generalize ff 28=Te;generalize ff 29=Td;generalize ff 30=Tc;generalize ff 31=Tb;generalize ff 32=Ta;generalize ff 33=S';generalize ff 34=S_;generalize ff 35=S9;have H4:(i.rs.isEmpty=!decide ((i.rs.length:Int)>0)):=by cases i.rs<;>simp<;>omega
 have hsh:cw p.code.length p.aq.length pc i=if((i.op !=1) &&decide ((i.rs.length:Int)>0))||((i.op !=2) &&(i.y !=0)) then false else
   (if i.op=1 then(decide (((pc+1:Nat):Int)<p.code.length) &&i.x==0) &&dM i.rs
   else if i.op=2 then oy i.x p.code.length &&oy i.y p.code.length
   else if i.op=3 then oy i.x p.code.length
   else if i.op=4 then decide (((pc+1:Nat):Int)<p.code.length) &&oy i.x 10
   else if i.op=5 then decide (((pc+1:Nat):Int)<p.code.length) &&i.x==0
   else if i.op=6 then decide (((pc+1:Nat):Int)<p.code.length) &&i.x==0
   else if i.op=7 then oy i.x p.aq.length
   else false):=by
  unfold cw;rw[H4];generalize decide ((i.rs.length:Int)>0)=b
  by_cases h1:i.op=1
  ·have h2:i.op≠2:=by omega
   simp only[h1];cases b<;>by_cases hy:i.y=0<;>simp[hy]
  ·by_cases h2:i.op=2
   ·simp only[h2];cases b<;>simp
   ·by_cases Od:i.op=5
    ·simp only[Od];cases b<;>by_cases hy:i.y=0<;>simp[hy]
    ·cases b<;>by_cases hy:i.y=0<;>simp[h1,h2,Od,hy]
 rw[hsh];refine qc (fun h0=>?_) (fun h0=>?_)<;>try simp only[cs] at h0
 ·refine zQ 4 ?_;rw[if_pos h0];refine EvC.ret ⟨rx,_,rfl,rl hSb hH (rfl)⟩
 ·rw[if_neg (by rw[h0];simp)];refine zQ 13 ?_;refine zI (fun h1=>?_) fun h1=>?_
  ·rw[if_pos h1];refine qq<|EvC.jI 4 (.bool ((decide (((pc+1:Nat):Int)<p.code.length) &&(i.x==0)) &&dM i.rs)) [] ?_ (fun ff tmp=>?_)
   ·refine zQ 2 ?_;refine EvO.two 42 rfl (fun hD=>?_) (fun hD=>?_)
    ·refine zQ 5 ?_;refine EvO.two 47 rfl (fun fL=>?_) (fun fL=>?_)
     ·refine zQ 2 ?_;refine qv (tI (hir.rows hH) hil) ?_ (hg:=wi fL);refine zQ 2 ?_;refine EvO.nil (aI ?_);refine zG ?_
      all_goals(simp[hD,fL];done)
     ·refine zQ 5 ?_;refine EvO.nil (aI ?_);refine zG ?_
      all_goals(simp[hD,fL];done)
    ·refine zQ 10 ?_;refine EvO.nil (aI ?_);refine zG ?_
     all_goals(simp[hD];done)
   dsimp only[setW,List.foldl,nth,u2,u1];refine EvC.ret ⟨rx,_,rfl,rl hSb hH (rfl)⟩
  ·rw[if_neg h1];refine zQ 5 ?_;refine zI (fun h2=>?_) fun h2=>?_
   ·rw[if_pos h2];refine qq<|EvC.jI 4 (.bool (oy i.x p.code.length &&oy i.y p.code.length)) [] ?_ (fun ff tmp=>?_)
    ·refine zQ 4 ?_;refine qn ?_;simp only[List.length_map];refine qv (fy _ _) ?_;refine qm ?_;refine EvO.two 60 rfl (fun fL=>?_) (fun fL=>?_)
     ·refine zQ 4 ?_;refine qn ?_ (hg:=wi fL);simp only[List.length_map];refine qv (fy _ _) ?_ (hg:=wi fL);refine zQ 2 ?_;refine EvO.nil (aI ?_);refine zG ?_
      all_goals(simp[fL];done)
     ·refine zQ 8 ?_;refine EvO.nil (aI ?_);refine zG ?_
      all_goals(simp[fL];done)
    dsimp only[setW,List.foldl,nth,u2,u1];refine EvC.ret ⟨rx,_,rfl,rl hSb hH (rfl)⟩
   ·rw[if_neg h2];refine zQ 5 ?_;refine zI (fun h3=>?_) fun h3=>?_
    ·rw[if_pos h3];refine zQ 6 ?_;refine qn ?_;simp only[List.length_map];refine qv (fy _ _) ?_;refine zQ 2 ?_;refine EvC.ret ⟨rx,_,rfl,rl hSb hH (rfl)⟩
    ·rw[if_neg h3];refine zQ 5 ?_;refine zI (fun h4=>?_) fun h4=>?_
     ·rw[if_pos h4];refine qq<|EvC.jI 4 (.bool (decide (((pc+1:Nat):Int)<p.code.length) &&oy i.x 10)) [] ?_ (fun ff tmp=>?_)
      ·refine zQ 2 ?_;refine EvO.two 79 rfl (fun hD=>?_) (fun hD=>?_)
       ·refine zQ 2 ?_;refine qv (fy _ _) ?_ (hg:=wi hD);refine zQ 2 ?_;refine EvO.nil (aI ?_);refine zG ?_
        all_goals(simp[hD];done)
       ·refine zQ 5 ?_;refine EvO.nil (aI ?_);refine zG ?_
        all_goals(simp[hD];done)
      dsimp only[setW,List.foldl,nth,u2,u1];refine EvC.ret ⟨rx,_,rfl,rl hSb hH (rfl)⟩
     ·rw[if_neg h4];refine zQ 6 ?_
      by_cases h5:i.op=5
      ·rw[if_pos h5];refine qD rfl (by simp[h5]) ?_;refine zQ 1 ?_;refine qD rfl (by simp[h5]) ?_;refine qq<|EvC.jI 4 (.bool (decide (((pc+1:Nat):Int)<p.code.length) &&(i.x==0))) [] ?_ (fun ff tmp=>?_)
       ·refine zQ 2 ?_;refine EvO.two 88 rfl (fun hD=>?_) (fun hD=>?_)
        ·refine zQ 5 ?_;refine EvO.nil (aI ?_);refine zG ?_
         all_goals(simp[hD];done)
        ·refine zQ 5 ?_;refine EvO.nil (aI ?_);refine zG ?_
         all_goals(simp[hD];done)
       dsimp only[setW,List.foldl,nth,u2,u1];refine EvC.ret ⟨rx,_,rfl,rl hSb hH (rfl)⟩
      ·rw[if_neg h5];refine qE rfl (by simp[h5]) ?_;refine zQ 4 ?_;refine zI (fun h6=>?_) fun h6=>?_
       ·rw[if_pos h6];refine qq<|EvC.jI 4 (.bool (decide (((pc+1:Nat):Int)<p.code.length) &&(i.x==0))) [] ?_ (fun ff tmp=>?_)
        ·refine zQ 2 ?_;refine EvO.two 88 rfl (fun hD=>?_) (fun hD=>?_)
         ·refine zQ 5 ?_;refine EvO.nil (aI ?_);refine zG ?_
          all_goals(simp[hD];done)
         ·refine zQ 5 ?_;refine EvO.nil (aI ?_);refine zG ?_
          all_goals(simp[hD];done)
        dsimp only[setW,List.foldl,nth,u2,u1];refine EvC.ret ⟨rx,_,rfl,rl hSb hH (rfl)⟩
       ·rw[if_neg h6];refine zQ 5 ?_;refine zI (fun h7=>?_) fun h7=>?_
        ·rw[if_pos h7];refine zQ 6 ?_;refine qn ?_;simp only[List.length_map];refine qv (fy _ _) ?_;refine zQ 2 ?_;refine EvC.ret ⟨rx,_,rfl,rl hSb hH (rfl)⟩
        ·rw[if_neg h7];refine zQ 5 ?_;refine EvC.ret ⟨rx,_,rfl,rl hSb hH (rfl)⟩
def bH (c:Nat):Int×Nat×Nat:=
 if c<128 then(0,0,0) else if c<194 then(-1,0,0) else if c<224 then(1,128,191) else if c=224 then(2,160,191) else if c=237 then(2,128,159)
 else if c<240 then(2,128,191) else if c=240 then(3,144,191) else if c<244 then(3,128,191) else if c=244 then(3,128,143) else(-1,0,0)
theorem Df (c:Nat) (st:St):Ev pv 98 [.int .u8 c] st (.tup [.int .i64 (bH c).1,.int .u8 (bH c).2.1,.int .u8 (bH c).2.2]) st:=by
 refine Ev.mk1 rfl Mf rfl rfl rfl ?_;refine zE ?_;refine zR ?_;refine EvC.seq (EvC.block ?_);refine zR ?_;(repeat refine qq ?_);refine qc (fun h1=>?_) (fun h1=>?_)<;>try simp only[cs] at h1
 ·refine zR ?_;refine EvC.ret ⟨rx,_,rfl,a7 (by simp) (by simp[enterSt]) ?_⟩;rw[show bH c=(0,0,0) by unfold bH;rw[if_pos (by omega)]];rfl
 refine zR ?_;(repeat refine qq ?_);refine qc (fun h2=>?_) (fun h2=>?_)<;>try simp only[cs] at h2
 ·refine zR ?_;refine EvC.ret ⟨rx,_,rfl,a7 (by simp) (by simp[enterSt]) ?_⟩;rw[show bH c=(-1,0,0) by unfold bH;rw[if_neg (by omega),if_pos (by omega)]];rfl
 refine zR ?_;(repeat refine qq ?_);refine qc (fun h3=>?_) (fun h3=>?_)<;>try simp only[cs] at h3
 ·refine zR ?_;refine EvC.ret ⟨rx,_,rfl,a7 (by simp) (by simp[enterSt]) ?_⟩;rw[show bH c=(1,128,191) by unfold bH;rw[if_neg (by omega),if_neg (by omega),if_pos (by omega)]];rfl
 refine zR ?_;(repeat refine qq ?_);refine qc (fun h4=>?_) (fun h4=>?_)<;>try simp only[cs] at h4
 ·refine zR ?_;refine EvC.ret ⟨rx,_,rfl,a7 (by simp) (by simp[enterSt]) ?_⟩;rw[show bH c=(2,160,191) by unfold bH;rw[if_neg (by omega),if_neg (by omega),if_neg (by omega),if_pos (by omega)]];rfl
 refine zR ?_;(repeat refine qq ?_);refine qc (fun h5=>?_) (fun h5=>?_)<;>try simp only[cs] at h5
 ·refine zR ?_;refine EvC.ret ⟨rx,_,rfl,a7 (by simp) (by simp[enterSt]) ?_⟩;rw[show bH c=(2,128,159) by unfold bH;rw[if_neg (by omega),if_neg (by omega),if_neg (by omega),if_neg (by omega),if_pos (by omega)]];rfl
 refine zR ?_;(repeat refine qq ?_);refine qc (fun h6=>?_) (fun h6=>?_)<;>try simp only[cs] at h6
 ·refine zR ?_;refine EvC.ret ⟨rx,_,rfl,a7 (by simp) (by simp[enterSt]) ?_⟩;rw[show bH c=(2,128,191) by unfold bH;rw[if_neg (by omega),if_neg (by omega),if_neg (by omega),if_neg (by omega),if_neg (by omega),if_pos (by omega)]];rfl
 refine zR ?_;(repeat refine qq ?_);refine qc (fun h7=>?_) (fun h7=>?_)<;>try simp only[cs] at h7
 ·refine zR ?_;refine EvC.ret ⟨rx,_,rfl,a7 (by simp) (by simp[enterSt]) ?_⟩;rw[show bH c=(3,144,191) by unfold bH;rw[if_neg (by omega),if_neg (by omega),if_neg (by omega),if_neg (by omega),if_neg (by omega),if_neg (by omega),if_pos (by omega)]];rfl
 refine zR ?_;(repeat refine qq ?_);refine qc (fun h8=>?_) (fun h8=>?_)<;>try simp only[cs] at h8
 ·refine zR ?_;refine EvC.ret ⟨rx,_,rfl,a7 (by simp) (by simp[enterSt]) ?_⟩;rw[show bH c=(3,128,191) by unfold bH;rw[if_neg (by omega),if_neg (by omega),if_neg (by omega),if_neg (by omega),if_neg (by omega),if_neg (by omega),if_neg (by omega),if_pos (by omega)]];rfl
 refine zR ?_;(repeat refine qq ?_);refine qc (fun h9=>?_) (fun h9=>?_)<;>try simp only[cs] at h9
 ·refine zR ?_;refine EvC.ret ⟨rx,_,rfl,a7 (by simp) (by simp[enterSt]) ?_⟩;rw[show bH c=(3,128,143) by unfold bH;rw[if_neg (by omega),if_neg (by omega),if_neg (by omega),if_neg (by omega),if_neg (by omega),if_neg (by omega),if_neg (by omega),if_neg (by omega),if_pos (by omega)]];rfl
 refine EvC.skip<|zR ?_;refine EvC.ret ⟨rx,_,rfl,a7 (by simp) (by simp[enterSt]) ?_⟩;rw[show bH c=(-1,0,0) by unfold bH;rw[if_neg (by omega),if_neg (by omega),if_neg (by omega),if_neg (by omega),if_neg (by omega),if_neg (by omega),if_neg (by omega),if_neg (by omega),if_neg (by omega)]];rfl
def gJ:(left n r lo hi:Nat)→List UInt8→Nat×Nat×Bool
 |0,n,r,_,_,_=>(r,n,false)
 |left+1,n,r,lo,hi,[]=>(0,0,true)
 |left+1,n,r,lo,hi,x::xs=>if x.toNat<lo∨hi<x.toNat then(0,0,false) else gJ left n (r*64+x.toNat %64) 128 191 xs
def fO:List UInt8→Nat×Nat×Bool
 |[]=>(0,0,false)
 |c::xs=>if(bH c.toNat).1<0 then(0,0,false)
   else gJ (bH c.toNat).1.toNat ((bH c.toNat).1.toNat+1) (if(bH c.toNat).1>0 then c.toNat %(64/2^(bH c.toNat).1.toNat) else c.toNat) (bH c.toNat).2.1 (bH c.toNat).2.2 xs
theorem ug (c:Nat):(bH c).1=-1∨(bH c).1=0∨(bH c).1=1∨(bH c).1=2∨(bH c).1=3:=by
 unfold bH
 repeat' split
 all_goals simp
theorem yv {w a j:Nat} (ha:a<2^w) (hj:2^j-1<2^w):(BitVec.ofInt w (a:Int) &&&BitVec.ofInt w ((2^j-1:Nat):Int)).toNat=a %2^j:=by
 rw[bv_and ha hj,Nat.and_two_pow_sub_one_eq_mod]
theorem eS (b:List UInt8):(V.byteCells b).length=b.length:=by simp[V.byteCells]
theorem pD {b:List UInt8} {i:Nat} {y:UInt8} (h:b[i]?=some y):(V.byteCells b)[i]?=some [.int .u8 (y.toNat:Nat)]:=by
 simp[V.byteCells,h]
theorem Eg (y:UInt8):y.toNat<256:=y.toNat_lt
theorem JS {r y:Nat} (hr:r<33554432) (hy:y<256):br .i32 ((BitVec.ofInt 32 (br .i32 ((r:Int)*2^(min (Int.toNat 6) 32)))|||BitVec.ofInt 32 (br .i32 (br .u8 ((BitVec.ofInt 8 (y:Int) &&&BitVec.ofInt 8 63).toNat:Nat)))).toNat:Nat)=((r*64+y %64:Nat):Int):=by
 have h1:(BitVec.ofInt 8 (y:Int) &&&BitVec.ofInt 8 63).toNat=y %64:=yv (w:=8) (j:=6) hy (by decide);rw[h1]
 have h2:((r:Int)*2^(min (Int.toNat 6) 32))=((r*64:Nat):Int):=by
  have:(2:Int)^(min (Int.toNat 6) 32)=64:=by decide
  rw[this];simp
 rw[h2,dz (k:=.i32) (m:=r*64) (by simp only[jV];omega),dz (k:=.u8) (m:=y %64) (by simp only[jV];omega),dz (k:=.i32) (m:=y %64) (by simp only[jV];omega)];rw[Jn (by omega) (by omega)]
 have h3:(r*64)|||(y %64)=r*64+y %64:=by
  have:=Nat.two_pow_add_eq_or_of_lt (i:=6) (b:=y %64) (by omega) r;have e:(2:Nat)^6=64:=by decide
  rw[e] at this;rw[Nat.mul_comm r 64,this]
 rw[h3,dz (k:=.i32) (m:=r*64+y %64) (by simp only[jV];omega)]
theorem Hc {c j:Nat} (hc:c<256) (hj:j≤8) {m:Int} (hm:m=((2^j-1:Nat):Int)):br .i32 ((BitVec.ofInt 32 (br .i32 (c:Nat)) &&&BitVec.ofInt 32 m).toNat:Nat)=((c %2^j:Nat):Int):=by
 have h1:2^j≤2^8:=Nat.pow_le_pow_right (by omega) hj;rw[hm,dz (k:=.i32) (m:=c) (by simp only[jV];omega),yv (w:=32) (by omega) (by omega)];have:c %2^j≤c:=Nat.mod_le _ _;rw[dz (k:=.i32) (by simp only[jV];omega)]
theorem mask {c j:Nat} (hc:c<256) (hj:j≤8) {m:Int} (hm:m=((2^j-1:Nat):Int)):br .i32 ((BitVec.ofInt IntKind.i32.bits (br .i32 (c:Nat)) &&&BitVec.ofInt IntKind.i32.bits m).toNat:Nat)=((c %2^j:Nat):Int):=Hc hc hj hm
theorem OE {r y:Nat} (hr:r<33554432) (hy:y<256):br .i32 ((BitVec.ofInt IntKind.i32.bits (br .i32 ((r:Int)*2^(min (Int.toNat 6) IntKind.i32.bits)))|||BitVec.ofInt IntKind.i32.bits (br .i32 (br .u8 ((BitVec.ofInt IntKind.u8.bits (y:Int) &&&BitVec.ofInt IntKind.u8.bits 63).toNat:Nat)))).toNat:Nat)=((r*64+y %64:Nat):Int):=JS hr hy
theorem BZ {st:St} {x:D} {b:List UInt8} (hb:Bytes st x b):Ev pv 60 [x] st (.tup [.int .i32 ((fO b).1:Nat),.int .i64 ((fO b).2.1:Nat),.bool (fO b).2.2]) st:=by
 refine Ev.mk1 rfl Mt rfl rfl rfl ?_;refine zE ?_;have cU:=hb.enter .ro;(try refine qy ?_);(repeat refine qq ?_);(try generalize hK:SeqQ _ _ _ _=K);refine EvC.reg ?_;(repeat(first|refine xT ?_|refine xL ?_|refine xN ?_|refine xo ?_|refine xp ?_));refine EvO.nil ?_;(try refine zF ?_);(try subst hK);(try refine qy ?_);(repeat refine qq ?_);(try generalize hK:SeqQ _ _ _ _=K);refine EvC.reg ?_
 (first|refine xT ?_|refine xL ?_|refine xN ?_|refine xo ?_|refine xp ?_)
 refine EvO.len rfl rfl rfl cU rfl ?_;(repeat(first|refine xT ?_|refine xL ?_|refine xN ?_|refine xo ?_|refine xp ?_));refine EvO.nil ?_;(try refine zF ?_);(try subst hK);(try refine qy ?_);(repeat refine qq ?_);refine qc (fun h1=>?_) (fun h1=>?_)<;>try simp only[cs] at h1
 ·(try refine qy ?_);(repeat refine qq ?_);(try generalize hK:SeqQ _ _ _ _=K);refine EvC.reg ?_;(repeat(first|refine xT ?_|refine xL ?_|refine xN ?_|refine xo ?_|refine xp ?_));refine EvO.nil ?_;(try refine zF ?_);(try subst hK);(try refine qy ?_);refine EvC.ret ⟨rx,_,rfl,a7 (by simp) (by simp[enterSt]) ?_⟩
  obtain rfl:b=[]:=by cases b with|nil=>rfl|cons c b=>simp[V.byteCells] at h1;omega
  rfl
 refine EvC.skip ?_
 obtain⟨c,xs,rfl⟩:∃c xs,b=c::xs:=by cases b with|nil=>simp[V.byteCells] at h1|cons c b=>exact⟨c,b,rfl⟩
 obtain⟨k,lo,hi,hm⟩:∃k lo hi,bH c.toNat=(k,lo,hi):=⟨_,_,_,rfl⟩
 have Lj:=Df c.toNat (enterSt .ro st);rw[hm] at Lj;have hk:=ug c.toNat;rw[hm] at hk;have hc:=Eg c;(try refine qy ?_);(repeat refine qq ?_);(try generalize hK:SeqQ _ _ _ _=K);refine EvC.reg ?_
 (first|refine xT ?_|refine xL ?_|refine xN ?_|refine xo ?_|refine xp ?_)
 refine EvO.ga rfl rfl rfl (fun _=>rfl) rfl rfl cU rfl rfl (by omega) rfl rfl (fun p=>?_);refine EvO.EF rfl rfl rfl Lj ?_;(repeat(first|refine xT ?_|refine xL ?_|refine xN ?_|refine xo ?_|refine xp ?_));refine EvO.nil ?_;(try refine zF ?_);(try subst hK);(try refine qy ?_);(repeat refine qq ?_);(try generalize hK:SeqQ _ _ _ _=K);refine EvC.reg ?_;(repeat(first|refine xT ?_|refine xL ?_|refine xN ?_|refine xo ?_|refine xp ?_));refine EvO.nil ?_;(try refine zF ?_);(try subst hK);(try refine qy ?_);(repeat refine qq ?_);refine qc (fun h2=>?_) (fun h2=>?_)<;>try simp only[cs] at h2
 ·(try refine qy ?_);(repeat refine qq ?_);(try generalize hK:SeqQ _ _ _ _=K);refine EvC.reg ?_;(repeat(first|refine xT ?_|refine xL ?_|refine xN ?_|refine xo ?_|refine xp ?_));refine EvO.nil ?_;(try refine zF ?_);(try subst hK);(try refine qy ?_);refine EvC.ret ⟨rx,_,rfl,a7 (by simp) (by simp[enterSt]) ?_⟩;simp only[fO,hm];rw[if_pos h2];rfl
 refine EvC.skip ?_;(try refine qy ?_);(repeat refine qq ?_);(try generalize hK:SeqQ _ _ _ _=K);refine EvC.reg ?_
 (first|refine xT ?_|refine xL ?_|refine xN ?_|refine xo ?_|refine xp ?_)
 refine EvO.ga rfl rfl rfl (fun _=>rfl) rfl rfl cU rfl rfl (by omega) rfl rfl (fun p=>?_);(repeat(first|refine xT ?_|refine xL ?_|refine xN ?_|refine xo ?_|refine xp ?_));refine EvO.nil ?_;(try refine zF ?_);(try subst hK);(try refine qy ?_);(repeat refine qq ?_);(try generalize hK:SeqQ _ _ _ _=K);refine EvC.reg ?_;(repeat(first|refine xT ?_|refine xL ?_|refine xN ?_|refine xo ?_|refine xp ?_));refine EvO.nil ?_;(try refine zF ?_);(try subst hK);(try refine qy ?_);generalize hK:SeqQ _ _ _ _=K
 have H:∀(r kn:Nat) (m:List (Nat×D)),k=(kn:Int)→r=(if k>0 then c.toNat %(64/2^k.toNat) else c.toNat)→(r+1)*64^kn≤2097152→K .next ⟨9,[x,.tup [],.int .i32 r,.int .i64 0,.bool false,.int .i64 k,.int .u8 lo,.int .u8 hi,.tup []],m⟩ (enterSt .ro st):=by
  intro r kn m hkn hr mN
  have hR:fO (c::xs)=gJ kn (kn+1) r lo hi xs:=by
   simp only[fO,hm];rw[if_neg h2,hr,hkn];rfl
  subst hK;rw[hR];generalize hS:gJ kn (kn+1) r lo hi xs=R at hR⊢;subst hkn;(try refine qy ?_);(repeat refine qq ?_);(try generalize hK:SeqQ _ _ _ _=K);refine EvC.reg ?_;(repeat(first|refine xT ?_|refine xL ?_|refine xN ?_|refine xo ?_|refine xp ?_));refine EvO.nil ?_;(try refine zF ?_);(try subst hK);(try refine qy ?_);refine EvC.block<|EvC.loop (fun j fr ae=>∃(i r lo hi:Nat),fr.clean=⟨9,[x,.tup [],.int .i32 r,.int .i64 0,.bool false,.int .i64 kn,.int .u8 lo,.int .u8 hi,.int .i64 (i:Nat)],[]⟩∧ae=enterSt .ro st∧1≤i∧i+j=kn+1∧gJ j (kn+1) r lo hi (xs.drop (i-1))=R∧(r+1)*64^j≤2097152) kn ⟨1,r,lo,hi,rfl,rfl,by omega,by omega,hS,mN⟩ ?_;clear hr mN hS r hm Lj m;rintro j fr ae ⟨i,r,lo,hi,hfr,rfl,NU,hij,hS,mN⟩;rw[hfr];(try refine qy ?_);(repeat refine qq ?_);(try generalize hK:SeqQ _ _ _ _=K);refine EvC.reg ?_;(repeat(first|refine xT ?_|refine xL ?_|refine xN ?_|refine xo ?_|refine xp ?_));refine EvO.nil ?_;(try refine zF ?_);(try subst hK);(try refine qy ?_);(repeat refine qq ?_);refine qc (fun h4=>?_) (fun h4=>?_)<;>try simp only[cs] at h4
  ·refine EvC.skip ?_
   obtain⟨j,rfl⟩:∃j',j=j'+1:=⟨j-1,by omega⟩
   refine EvC.seq (EvC.block ?_);(try refine qy ?_);(repeat refine qq ?_);(try generalize hK:SeqQ _ _ _ _=K);refine EvC.reg ?_
   (first|refine xT ?_|refine xL ?_|refine xN ?_|refine xo ?_|refine xp ?_)
   (first|refine xT ?_|refine xL ?_|refine xN ?_|refine xo ?_|refine xp ?_)
   refine EvO.len rfl rfl rfl cU rfl ?_;(repeat(first|refine xT ?_|refine xL ?_|refine xN ?_|refine xo ?_|refine xp ?_));refine EvO.nil ?_;(try refine zF ?_);(try subst hK);(try refine qy ?_)
   have zV:(xs.drop (i-1))=[]∨∃y ys,xs.drop (i-1)=y::ys:=by
    cases xs.drop (i-1) with
    |nil=>exact .inl rfl
    |cons y ys=>exact .inr ⟨y,ys,rfl⟩
   have Jx:(xs.drop (i-1)).length=xs.length-(i-1):=List.length_drop ..;have hbl:(V.byteCells (c::xs)).length=xs.length+1:=by simp[V.byteCells]
   (try refine qy ?_);(repeat refine qq ?_);refine qc (fun h5=>?_) (fun h5=>?_)<;>try simp only[cs] at h5
   ·(try refine qy ?_);(repeat refine qq ?_);(try generalize hK:SeqQ _ _ _ _=K);refine EvC.reg ?_;(repeat(first|refine xT ?_|refine xL ?_|refine xN ?_|refine xo ?_|refine xp ?_));refine EvO.nil ?_;(try refine zF ?_);(try subst hK);(try refine qy ?_);refine EvC.ret ⟨rx,_,rfl,a7 (by simp) (by simp[enterSt]) ?_⟩
    rcases zV with zV|⟨y,ys,zV⟩
    ·rw[zV] at hS;simp only[gJ] at hS;subst hS;rfl
    ·rw[zV] at Jx;simp only[List.length_cons] at Jx;omega
   refine EvC.skip ?_
   rcases zV with zV|⟨y,ys,zV⟩
   ·rw[zV] at Jx;simp only[List.length_nil] at Jx;omega
   have hy:(c::xs)[i]?=some y:=by
    obtain⟨i,rfl⟩:∃i',i=i'+1:=⟨i-1,by omega⟩
    have:=congrArg (fun l=>l[0]?) zV
    simpa using this
   have iI:xs.drop (i+1-1)=ys:=by
    have:=congrArg (fun l=>l.drop 1) zV;simp only[List.drop_drop,List.drop_succ_cons,List.drop_zero] at this;rw[←this];congr 1;omega
   have Ks:=pD hy;have O':=Eg y;rw[zV] at hS;simp only[gJ] at hS;(try refine qy ?_);(repeat refine qq ?_);(try generalize hK:SeqQ _ _ _ _=K);refine EvC.reg ?_
   (first|refine xT ?_|refine xL ?_|refine xN ?_|refine xo ?_|refine xp ?_)
   (first|refine xT ?_|refine xL ?_|refine xN ?_|refine xo ?_|refine xp ?_)
   refine EvO.ga rfl rfl rfl (fun _=>rfl) rfl rfl cU rfl rfl (by omega) Ks rfl (fun p=>?_)
   (first|refine xT ?_|refine xL ?_|refine xN ?_|refine xo ?_|refine xp ?_)
   (first|refine xT ?_|refine xL ?_|refine xN ?_|refine xo ?_|refine xp ?_)
   (first|refine xT ?_|refine xL ?_|refine xN ?_|refine xo ?_|refine xp ?_)
   by_cases wC:(y.toNat:Int)<(lo:Int)
   ·rw[decide_eq_true wC];(repeat(first|refine xT ?_|refine xL ?_|refine xN ?_|refine xo ?_|refine xp ?_));refine EvO.nil ?_;(try refine zF ?_);(try subst hK);(try refine qy ?_);refine EvC.cond (v:=true) rfl (fun _=>?_) (fun h=>by cases h);(try refine qy ?_);(repeat refine qq ?_);(try generalize hK:SeqQ _ _ _ _=K);refine EvC.reg ?_;(repeat(first|refine xT ?_|refine xL ?_|refine xN ?_|refine xo ?_|refine xp ?_));refine EvO.nil ?_;(try refine zF ?_);(try subst hK);(try refine qy ?_);refine EvC.ret ⟨rx,_,rfl,a7 (by simp) (by simp[enterSt]) ?_⟩;rw[if_pos (.inl (by omega))] at hS;subst hS;rfl
   rw[decide_eq_false wC]
   (first|refine xT ?_|refine xL ?_|refine xN ?_|refine xo ?_|refine xp ?_)
   (first|refine xT ?_|refine xL ?_|refine xN ?_|refine xo ?_|refine xp ?_)
   refine EvO.ga rfl rfl rfl (fun _=>rfl) rfl rfl cU rfl rfl (by omega) Ks rfl (fun p=>?_);(repeat(first|refine xT ?_|refine xL ?_|refine xN ?_|refine xo ?_|refine xp ?_));refine EvO.nil ?_;(try refine zF ?_);(try subst hK);(try refine qy ?_);(repeat refine qq ?_);refine qc (fun h6=>?_) (fun h6=>?_)<;>try simp only[cs] at h6
   ·(try refine qy ?_);(repeat refine qq ?_);(try generalize hK:SeqQ _ _ _ _=K);refine EvC.reg ?_;(repeat(first|refine xT ?_|refine xL ?_|refine xN ?_|refine xo ?_|refine xp ?_));refine EvO.nil ?_;(try refine zF ?_);(try subst hK);(try refine qy ?_);refine EvC.ret ⟨rx,_,rfl,a7 (by simp) (by simp[enterSt]) ?_⟩;rw[if_pos (.inr (by omega))] at hS;subst hS;rfl
   refine EvC.skip ?_;rw[if_neg (by omega)] at hS;(try refine qy ?_);(repeat refine qq ?_);(try generalize hK:SeqQ _ _ _ _=K);refine EvC.reg ?_
   (first|refine xT ?_|refine xL ?_|refine xN ?_|refine xo ?_|refine xp ?_)
   (first|refine xT ?_|refine xL ?_|refine xN ?_|refine xo ?_|refine xp ?_)
   (first|refine xT ?_|refine xL ?_|refine xN ?_|refine xo ?_|refine xp ?_)
   (first|refine xT ?_|refine xL ?_|refine xN ?_|refine xo ?_|refine xp ?_)
   refine EvO.ga rfl rfl rfl (fun _=>rfl) rfl rfl cU rfl rfl (by omega) Ks rfl (fun p=>?_);(repeat(first|refine xT ?_|refine xL ?_|refine xN ?_|refine xo ?_|refine xp ?_));refine EvO.nil ?_;(try refine zF ?_);(try subst hK);(try refine qy ?_);have KP:r+1≤(r+1)*64^(j+1):=Nat.le_mul_of_pos_right _ (Nat.pow_pos (by omega));rw[OE (by omega) O'];(try refine qy ?_);(repeat refine qq ?_);(try generalize hK:SeqQ _ _ _ _=K);refine EvC.reg ?_;(repeat(first|refine xT ?_|refine xL ?_|refine xN ?_|refine xo ?_|refine xp ?_));refine EvO.nil ?_;(try refine zF ?_);(try subst hK);(try refine qy ?_);(repeat refine qq ?_);(try generalize hK:SeqQ _ _ _ _=K);refine EvC.reg ?_;(repeat(first|refine xT ?_|refine xL ?_|refine xN ?_|refine xo ?_|refine xp ?_));refine EvO.nil ?_;(try refine zF ?_);(try subst hK);(try refine qy ?_);rw[wrap_i64 (by omega) (by omega)];refine⟨j,by omega,i+1,_,_,_,rfl,rfl,by omega,by omega,by rw[iI];exact hS,?_⟩;have e1:(r*64+y.toNat %64+1)≤(r+1)*64:=by omega
   have e2:=Nat.mul_le_mul_right (64^j) e1;have e3:64*64^j=64^(j+1):=by rw[Nat.pow_succ,Nat.mul_comm]
   rw[Nat.mul_assoc,e3] at e2;omega
  ·refine EvC.exit ?_;have:j=0:=by omega
   subst this;simp only[gJ] at hS;subst hS;(try refine qy ?_);(repeat refine qq ?_);(try generalize hK:SeqQ _ _ _ _=K);refine EvC.reg ?_;(repeat(first|refine xT ?_|refine xL ?_|refine xN ?_|refine xo ?_|refine xp ?_));refine EvO.nil ?_;(try refine zF ?_);(try subst hK);(try refine qy ?_);refine EvC.ret ⟨rx,_,rfl,a7 (by simp) (by simp[enterSt]) ?_⟩;rw[wrap_i64 (by omega) (by omega)];rfl
 rcases hk with hk|hk|hk|hk|hk
 ·omega
 ·subst hk;refine EvC.cond (v:=false) rfl (fun h=>by cases h) fun _=>EvC.skip ?_;rw[dz (by simp only[jV];omega)];exact H _ 0 _ rfl rfl (by omega)
 ·subst hk;refine EvC.cond (v:=true) rfl (fun _=>?_) (fun h=>by cases h);refine EvC.reg ?_
  (first|refine xT ?_|refine xL ?_|refine xN ?_|refine xo ?_|refine xp ?_)
  refine EvO.ga rfl rfl rfl (fun _=>rfl) rfl rfl cU rfl rfl (by omega) rfl rfl (fun p=>?_);(repeat(first|refine xT ?_|refine xL ?_|refine xN ?_|refine xo ?_|refine xp ?_));refine EvO.nil ?_;(try refine zF ?_);rw[mask (j:=5) hc (by omega)]
  ·exact H _ 1 _ rfl rfl (by omega)
  ·decide
 ·subst hk;refine EvC.cond (v:=true) rfl (fun _=>?_) (fun h=>by cases h);refine EvC.reg ?_
  (first|refine xT ?_|refine xL ?_|refine xN ?_|refine xo ?_|refine xp ?_)
  refine EvO.ga rfl rfl rfl (fun _=>rfl) rfl rfl cU rfl rfl (by omega) rfl rfl (fun p=>?_);(repeat(first|refine xT ?_|refine xL ?_|refine xN ?_|refine xo ?_|refine xp ?_));refine EvO.nil ?_;(try refine zF ?_);rw[mask (j:=4) hc (by omega)]
  ·exact H _ 2 _ rfl rfl (by omega)
  ·decide
 ·subst hk;refine EvC.cond (v:=true) rfl (fun _=>?_) (fun h=>by cases h);refine EvC.reg ?_
  (first|refine xT ?_|refine xL ?_|refine xN ?_|refine xo ?_|refine xp ?_)
  refine EvO.ga rfl rfl rfl (fun _=>rfl) rfl rfl cU rfl rfl (by omega) rfl rfl (fun p=>?_);(repeat(first|refine xT ?_|refine xL ?_|refine xN ?_|refine xo ?_|refine xp ?_));refine EvO.nil ?_;(try refine zF ?_);rw[mask (j:=3) hc (by omega)]
  ·exact H _ 3 _ rfl rfl (by omega)
  ·decide
def gM (b:List UInt8):Nat×Nat:=if(fO b).2.1=0 then(65533,1) else((fO b).1,(fO b).2.1)
def zS:Nat→List UInt8→List (Nat×Nat)
 |0,_=>[]
 |_+1,[]=>[]
 |n+1,b=>gM b::zS n (b.drop (gM b).2)
def gY (b:List UInt8):List (Nat×Nat):=zS b.length b
theorem kh (b:List UInt8):1≤(gM b).2:=by
 unfold gM;split
 ·simp
 ·simp only;omega
theorem l6 : ∀ (n : Nat) (b : List UInt8), b.length ≤ n → zS n b = gY b
 | 0, [], _ => rfl
 | 0, _ :: _, h => by simp at h
 | n + 1, [], _ => rfl
 | n + 1, c :: b, h => by
  have hp := kh (c :: b);have h1 : ((c :: b).drop (gM (c :: b)).2).length ≤ b.length := by rw [List.length_drop]; simp only [List.length_cons]; omega
  simp only [List.length_cons] at h;show gM (c :: b) :: zS n ((c :: b).drop _) = gM (c :: b) :: zS b.length ((c :: b).drop _);rw [l6 n _ (by omega)]
  rcases Nat.lt_or_ge n b.length with h2 | h2
  ·omega
  ·rw [l6 b.length _ h1]
termination_by n b => b.length
decreasing_by all_goals (simp_wf; omega)
theorem o8:gY []=[]:=rfl
theorem rD {b:List UInt8} (h:b≠[]):gY b=gM b::gY (b.drop (gM b).2):=by
 match b,h with
 |c::b,_=>
  show gM (c::b)::zS b.length ((c::b).drop _)=_;rw[l6];have hp:=kh (c::b);rw[List.length_drop];simp only[List.length_cons];omega
def aP (g:Nat×Nat):List D:=[.int .i32 (g.1:Nat),.int .i64 (g.2:Nat)]
def db (l:List (Nat×Nat)):D:=.sl ((l.map aP).map (iC 2))
theorem BW {l:List (Nat×Nat)}:∀e∈l.map aP,e.length=2:=by
 intro e he;obtain⟨g,_,rfl⟩:=List.mem_map.1 he;rfl
theorem oL {l:List (Nat×Nat)}:∀e∈l.map aP,∀d∈e,bD d=true:=by
 intro e he d hd;obtain⟨g,_,rfl⟩:=List.mem_map.1 he;simp only[aP,List.mem_cons,List.not_mem_nil,or_false] at hd
 rcases hd with rfl|rfl<;>rfl
theorem cN (st:St) (l:List (Nat×Nat)):V.Rows st 2 (db l) (l.map aP):=Rows.t_ BW oL
theorem tG:∀(left n r lo hi:Nat) (b:List UInt8),(gJ left n r lo hi b).2.1≠0→(gJ left n r lo hi b).2.1=n∧left≤b.length
 |0,n,r,lo,hi,b,h=>by simp[gJ]
 |left+1,n,r,lo,hi,[],h=>by simp[gJ] at h
 |left+1,n,r,lo,hi,x::xs,h=>by
  simp only[gJ] at h⊢
  split at h
  ·simp at h
  ·rename_i hc;rw[if_neg hc];have:=tG left n _ _ _ xs h;exact⟨this.1,by simp;omega⟩
theorem xK {b:List UInt8} (h:b≠[]):(gM b).2≤b.length:=by
 match b,h with
 |c::xs,_=>
  unfold gM
  split
  ·simp
  ·rename_i hz;simp only[fO] at hz⊢
   split at hz
   ·simp at hz
   ·rename_i hk;rw[if_neg hk];have:=tG _ _ _ _ _ _ hz;rw[this.1];simp;omega
theorem Co {st:St} {x:D} {b:List UInt8} (hb:Bytes st x b) (hlen:b.length≤1048576):Ev pv 15 [x] st (db (gY b)) st:=by
 refine Ev.mk1 rfl MK rfl rfl rfl ?_;refine zE ?_;have hx:=hb.ref;(try refine qy ?_);(repeat refine qq ?_);(try generalize hK:SeqQ _ _ _ _=K);refine EvC.reg ?_;(repeat(first|refine xT ?_|refine xL ?_|refine xN ?_|refine xo ?_|refine xp ?_));refine EvO.nil ?_;(try refine zF ?_);(try subst hK);(try refine qy ?_);(repeat refine qq ?_);(try generalize hK:SeqQ _ _ _ _=K);refine EvC.reg ?_;(repeat(first|refine xT ?_|refine xL ?_|refine xN ?_|refine xo ?_|refine xp ?_));refine EvO.nil ?_;(try refine zF ?_);(try subst hK);(try refine qy ?_);refine EvC.seq (EvC.block ?_)
 refine EvC.loop (fun j fr ae=>∃(y out r n:D) (b':List UInt8) (done:List (Nat×Nat)),fr.clean=⟨6,[y,.tup [],.nul,out,r,n],[]⟩∧Ex st.bs.length (enterSt .ro st) ae∧Bytes ae y b'∧y.ref≤st.bs.length∧
  Acc st.bs.length ae 2 out (done.map aP)∧j=b'.length∧done++gY b'=gY b∧done.length+b'.length≤b.length) b.length
  ⟨x,.nul,_,_,b,[],rfl,Ex.refl _ _,hb.enter .ro,hx,.nul,rfl,rfl,by simp⟩ ?_
 rintro j fr ae ⟨y,out,r,n,b',done,hfr,hex,hy,NA,DV,rfl,kE,hl⟩;rw[hfr];(try refine qy ?_);(repeat refine qq ?_);(try generalize hK:SeqQ _ _ _ _=K);refine EvC.reg ?_
 (first|refine xT ?_|refine xL ?_|refine xN ?_|refine xo ?_|refine xp ?_)
 refine EvO.len rfl rfl rfl hy rfl ?_;(repeat(first|refine xT ?_|refine xL ?_|refine xN ?_|refine xo ?_|refine xp ?_));refine EvO.nil ?_;(try refine zF ?_);(try subst hK);(try refine qy ?_);rw[eS];(try refine qy ?_);(repeat refine qq ?_);refine qc (fun h1=>?_) (fun h1=>?_)<;>try simp only[cs] at h1
 ·refine EvC.skip ?_;have hb0:b'≠[]:=by rintro rfl;simp at h1
  (try refine qy ?_);(repeat refine qq ?_);refine EvC.block ?_;(try refine qy ?_);(repeat refine qq ?_);(try generalize hK:SeqQ _ _ _ _=K);refine EvC.reg ?_
  (first|refine xT ?_|refine xL ?_|refine xN ?_|refine xo ?_|refine xp ?_)
  refine EvO.EF rfl rfl rfl (BZ hy) ?_;(repeat(first|refine xT ?_|refine xL ?_|refine xN ?_|refine xo ?_|refine xp ?_));refine EvO.nil ?_;(try refine zF ?_);(try subst hK);(try refine qy ?_);generalize hf:fO b'=F at*;obtain⟨r0,n0,bg⟩:=F;(try refine qy ?_);(repeat refine qq ?_);(try generalize hK:SeqQ _ _ _ _=K);refine EvC.reg ?_;(repeat(first|refine xT ?_|refine xL ?_|refine xN ?_|refine xo ?_|refine xp ?_));refine EvO.nil ?_;(try refine zF ?_);(try subst hK);(try refine qy ?_);generalize hK:SeqQ _ _ _ _=K
  have H:∀m,K .next ⟨6,[y,.tup [],.nul,out,.int .i32 ((gM b').1:Nat),.int .i64 ((gM b').2:Nat)],m⟩ ae:=by
   intro m;subst hK;generalize hg:gM b'=g;have hp:=kh b';have hle:=xK hb0;rw[hg] at hp hle;(try refine qy ?_);(repeat refine qq ?_);(try generalize hK:SeqQ _ _ _ _=K);refine EvC.reg ?_
   (first|refine xT ?_|refine xL ?_|refine xN ?_|refine xo ?_|refine xp ?_)
   (first|refine xT ?_|refine xL ?_|refine xN ?_|refine xo ?_|refine xp ?_)
   (first|refine xT ?_|refine xL ?_|refine xN ?_|refine xo ?_|refine xp ?_)
   refine EvO.T rfl rfl rfl (d:=.agg (aP g)) (st1:=ae) rfl ?_;refine EvO.T rfl rfl rfl (d:=.win ae.bs.length 0 0 1 2) (st1:=ae.push (.mem 0 true (aP g))) rfl ?_;have hN:st.bs.length≤ae.bs.length:=hex.len;have DS:=hex.trans (Ex.push hN (.mem 0 true (aP g)));refine EvO.append rfl rfl rfl rfl (DV.push _) (Rows.one rfl) rfl rfl rfl rfl rfl rfl rfl (by decide) DS.len (by rw[DS.flr];exact Nat.le_refl _) (by rw[DS.ro];exact Nat.le_refl _) (by simp only[List.length_map,List.length_cons,List.length_nil];show(done.length+1)*16≤_;omega) fun Kf st2 Iy Il _ _ _=>?_;(repeat(first|refine xT ?_|refine xL ?_|refine xN ?_|refine xo ?_|refine xp ?_));refine EvO.nil ?_;(try refine zF ?_);(try subst hK);(try refine qy ?_);have LB:=DS.trans Il;have Dt:Bytes st2 y b':=Rows.ex ((Ex.push hN _).trans Il) hy NA;(try refine qy ?_);(repeat refine qq ?_);(try generalize hK:SeqQ _ _ _ _=K);refine EvC.reg ?_
   (first|refine xT ?_|refine xL ?_|refine xN ?_|refine xo ?_|refine xp ?_)
   (first|refine xT ?_|refine xL ?_|refine xN ?_|refine xo ?_|refine xp ?_)
   refine EvO.slice rfl rfl rfl Dt rfl rfl (l:=g.2) (r:=b'.length) ?_ ⟨by omega,by rw[eS];omega⟩ fun y2 Ds Kr=>?_
   ·show cx (V.byteCells b').length (some (.int .i64 (g.2:Nat))) none=_;rw[eS];simp only[cx,iS,j5,Option.bind_some];rw[if_pos ⟨by omega,by omega⟩];rfl
   (repeat(first|refine xT ?_|refine xL ?_|refine xN ?_|refine xo ?_|refine xp ?_));refine EvO.nil ?_;(try refine zF ?_);(try subst hK);(try refine qy ?_);refine⟨(b'.drop g.2).length,by rw[List.length_drop];omega,y2,Kf,_,_,b'.drop g.2,done++[g],rfl,LB,?_,Nat.le_trans Kr NA,?_,rfl,?_,?_⟩
   ·have:((V.byteCells b').take b'.length).drop g.2=V.byteCells (b'.drop g.2):=by
     rw[←eS,List.take_length];simp[V.byteCells]
    unfold Bytes;rw[←this];exact Ds
   ·rw[List.map_append];exact Iy
   ·rw[List.append_assoc,List.singleton_append,←kE,rD hb0,hg]
   ·rw[List.length_append,List.length_drop];simp only[List.length_cons,List.length_nil];omega
  (try refine qy ?_);(repeat refine qq ?_);refine qc (fun h2=>?_) (fun h2=>?_)<;>try simp only[cs] at h2
  ·refine EvC.reg ?_;(repeat(first|refine xT ?_|refine xL ?_|refine xN ?_|refine xo ?_|refine xp ?_));refine EvO.nil ?_;(try refine zF ?_);have:gM b'=(65533,1):=by unfold gM;rw[hf,if_pos (by simpa using h2)]
   rw[this] at H;exact H _
  ·refine EvC.skip ?_;have:gM b'=(r0,n0):=by unfold gM;rw[hf,if_neg (by simpa using h2)]
   rw[this] at H;exact H _
 ·refine EvC.exit ?_
  have hb0:b'=[]:=by cases b' with|nil=>rfl|cons _ _=>simp at h1<;>omega
  subst hb0;rw[o8,List.append_nil] at kE;(try refine qy ?_);(repeat refine qq ?_);(try generalize hK:SeqQ _ _ _ _=K);refine EvC.reg ?_;(repeat(first|refine xT ?_|refine xL ?_|refine xN ?_|refine xo ?_|refine xp ?_));refine EvO.nil ?_;(try refine zF ?_);(try subst hK);(try refine qy ?_);refine EvC.ret ⟨rx,_,rfl,a7 (by simp) (hex.take rfl) ?_⟩;rw[←kE];exact DV.freeze oL (n:=15) (by decide)
structure dJ where
 i:Nat
 o:Nat
 g:Nat
 e:Int
 w:Int
def aF (gs:List (Nat×Nat)) (ba:D) (s:dJ):List D:=[db gs,ba,.int .i64 (s.i:Nat),.int .i64 (s.o:Nat),.int .i64 (s.g:Nat),.int .i64 s.e,.int .i64 s.w]
def gG (gs:List (Nat×Nat)) (i:Nat) (r:Int):Bool:=match gs[i]? with
 |some g=>((g.1:Nat):Int)==r
 |none=>false
theorem ot {gs:List (Nat×Nat)} {i:Nat} {r:Int} (h:gG gs i r=true):i<gs.length:=by
 unfold gG at h
 split at h
 ·exact lt_get (by assumption)
 ·cases h
def ch (gs:List (Nat×Nat)) (s:dJ) (r:Int):dJ:=if gG gs s.i r=true then{s with i:=s.i+1} else s
def Gi (gs:List (Nat×Nat)) (i:Nat):Bool:=match gs[i]? with
 |some g=>((g.1:Nat):Int)==65533 &&((g.2:Nat):Int)==1
 |none=>false
def gq (bo:List Int) (s:dJ) (i:Nat) (e:Int):dJ:=if s.e=0 then{s with e:=e,w:=bo.getD i 0} else s
theorem my {N k:Nat} {S s0:St} {H:List aN} {gs:List (Nat×Nat)} {ba:D} {s:dJ} (sO:gs.length≤1048576) (r:Int) (hH:Has N S s0 (.box k (.mem 0 false (aF gs ba s))::H)):
  ∃d ae,Ev pv 130 [.ptr k 0 0,.int .i32 r] s0 d ae∧d=.bool (gG gs s.i r)∧Has N S ae (.box k (.mem 0 false (aF gs ba s))::H):=by
 refine Ev.iB rfl I6 rfl rfl rfl ?_;refine zE ?_;have bM:=hH;have hH:=hH.bO;have bL:(enterSt .rw s0).bs=s0.bs:=rfl;generalize enterSt .rw s0=S2 at*;have DQ:Arg N S2 2 (db gs) (gs.map aP):=Arg.pure (fun st=>cN st gs);refine zQ 4 ?_
 by_cases ha:s.i<gs.length
 ·obtain⟨g,hg⟩:∃g,gs[s.i]?=some g:=⟨gs[s.i]'ha,List.getElem?_eq_getElem _⟩
  have hr1:(gs.map aP)[s.i]?=some (aP g):=by rw[List.getElem?_map,hg];rfl
  have cm:decide ((s.i:Int)<(gs.length:Nat))=true:=by rw[decide_eq_true];simp;omega
  have hv:gG gs s.i r=(((g.1:Nat):Int)==r):=by unfold gG;rw[hg]
  refine qq<|EvC.jI 4 (.bool (((g.1:Nat):Int)==r)) [] ?_ (fun ff tmp=>?_)
  ·refine zQ 8 ?_;refine qn ?_;simp only[List.length_map];refine zQ 10 ?_;refine qr (fun Gv zk=>?_) (hg:=wi cm);refine qf (fo:=0) (fun Gu zj=>?_) (hg:=wi cm);refine zQ 5 ?_;refine EvO.nil (aI ?_);dsimp only[setW,List.foldl,nth,u2,u1];dsimp only[Fr.putO,Fr.put,Fr.clean,Fr.ev,Fr.get,nth,look,u1,u2,v1,v2,v4]
   all_goals(first|rfl|(simp[cm];done)|(simp_all;done)|(simp[cm];omega)|(simp_all;omega))
  dsimp only[setW,List.foldl,nth,u2,u1];refine EvC.ret ⟨rx,_,_,_,rfl,af (rfl),?_⟩;exact⟨by rw[hv];rfl,bM.ak bL hH⟩
 ·have cm:decide ((s.i:Int)<(gs.length:Nat))=false:=by rw[decide_eq_false];simp;omega
  have hv:gG gs s.i r=false:=by
   cases h:gG gs s.i r with
   |true=>exact absurd (ot h) ha
   |false=>rfl
  refine qq<|EvC.jI 4 (.bool false) [] ?_ (fun ff tmp=>?_)
  ·refine zQ 8 ?_;refine qn ?_;simp only[List.length_map];refine zQ 17 ?_;refine EvO.nil (aI ?_);dsimp only[setW,List.foldl,nth,u2,u1];dsimp only[Fr.putO,Fr.put,Fr.clean,Fr.ev,Fr.get,nth,look,u1,u2,v1,v2,v4]
   all_goals(first|rfl|(simp[cm];done)|(simp_all;done)|(simp[cm];omega)|(simp_all;omega))
  dsimp only[setW,List.foldl,nth,u2,u1];refine EvC.ret ⟨rx,_,_,_,rfl,af (rfl),?_⟩;exact⟨by rw[hv];rfl,bM.ak bL hH⟩
theorem cP {N k:Nat} {S s0:St} {H:List aN} {gs:List (Nat×Nat)} {ba:D} {s:dJ} (sO:gs.length≤1048576) (r:Int) (hH:Has N S s0 (.box k (.mem 0 false (aF gs ba s))::H)):
  ∃d ae,Ev pv 119 [.ptr k 0 0,.int .i32 r] s0 d ae∧d=.bool (gG gs s.i r)∧Has N S ae (.box k (.mem 0 false (aF gs ba (ch gs s r)))::H):=by
 refine Ev.iB rfl I' rfl rfl rfl ?_;refine zE ?_;have bM:=hH;have hH:=hH.bO;have bL:(enterSt .rw s0).bs=s0.bs:=rfl;generalize enterSt .rw s0=S2 at*;refine zQ 9 ?_;obtain⟨_,st,hev,rfl,hH⟩:=my sO r hH;refine qv hev ?_;refine zQ 1 ?_;unfold ch
 cases hb:gG gs s.i r with
 |true=>
  have hlt:=ot hb;dsimp only[aF] at hH;rw[if_pos rfl];refine zQ 10 ?_;refine qT hH at0 fun st hH=>?_;dsimp only[u2,u1,u3,u4,setMany,u5,u6,D.cells,Nat.reduceAdd,aF,aP,aj] at hH;refine zQ 5 ?_;refine EvC.ret ⟨rx,_,_,_,rfl,af (rfl),?_⟩;exact⟨rfl,bM.ak bL hH⟩
 |false=>
  rw[if_neg (by simp)];refine zQ 6 ?_;refine EvC.ret ⟨rx,_,_,_,rfl,af (rfl),?_⟩;exact⟨rfl,bM.ak bL hH⟩
theorem xc {N k:Nat} {S s0:St} {H:List aN} {gs:List (Nat×Nat)} {ba:D} {s:dJ} (i:Nat) (hi:i<gs.length) (hH:Has N S s0 (.box k (.mem 0 false (aF gs ba s))::H)):
  ∃d ae,Ev pv 154 [.ptr k 0 0,.int .i64 (i:Nat)] s0 d ae∧d=.bool (Gi gs i)∧Has N S ae (.box k (.mem 0 false (aF gs ba s))::H):=by
 refine Ev.iB rfl IZ rfl rfl rfl ?_;refine zE ?_;have bM:=hH;have hH:=hH.bO;have bL:(enterSt .rw s0).bs=s0.bs:=rfl;generalize enterSt .rw s0=S2 at*;have DQ:Arg N S2 2 (db gs) (gs.map aP):=Arg.pure (fun st=>cN st gs);refine zQ 4 ?_
 obtain⟨g,hg⟩:∃g,gs[i]?=some g:=⟨gs[i]'hi,List.getElem?_eq_getElem _⟩
 have hr1:(gs.map aP)[i]?=some (aP g):=by rw[List.getElem?_map,hg];rfl
 have hv:Gi gs i=(((g.1:Nat):Int)==65533 &&((g.2:Nat):Int)==1):=by unfold Gi;rw[hg]
 refine qq<|EvC.jI 4 (.bool (((g.1:Nat):Int)==65533 &&((g.2:Nat):Int)==1)) [] ?_ (fun ff tmp=>?_)
 ·refine zQ 5 ?_;refine qr fun Ns HU=>?_;refine qf (fo:=0) fun Nr HT=>?_;refine zQ 3 ?_;refine EvO.two 14 rfl (fun ez=>?_) (fun ez=>?_)
  ·refine zQ 5 ?_;refine qr (fun G6 Bv=>?_) (hg:=wi ez);refine qf (fo:=1) (fun J4 Fx=>?_) (hg:=wi ez);refine zQ 4 ?_;refine EvO.nil (aI ?_);refine zG ?_
   all_goals(simp[ez];done)
  ·refine zQ 11 ?_;refine EvO.nil (aI ?_);refine zG ?_
   all_goals(simp[ez];done)
 dsimp only[setW,List.foldl,nth,u2,u1];refine EvC.ret ⟨rx,_,_,_,rfl,af (rfl),?_⟩;exact⟨by rw[hv];rfl,bM.ak bL hH⟩
theorem ck {N k:Nat} {S s0:St} {H:List aN} {gs:List (Nat×Nat)} {ba:D} {bo:List Int} {s:dJ} (i:Nat) (e:Int) (hi:i<bo.length) (hH:Has N S s0 (.box k (.mem 0 false (aF gs ba s))::.lst ba 1 (bo.map aj)::H)):
  ∃d ae,Ev pv 95 [.ptr k 0 0,.int .i64 (i:Nat),.int .i64 e] s0 d ae∧d=.sl []∧Has N S ae (.box k (.mem 0 false (aF gs ba (gq bo s i e)))::.lst ba 1 (bo.map aj)::H):=by
 refine Ev.iB rfl Mj rfl rfl rfl ?_;refine zE ?_;have bM:=hH;have hH:=hH.bO;have bL:(enterSt .rw s0).bs=s0.bs:=rfl;generalize enterSt .rw s0=S2 at*;refine zQ 4 ?_
 obtain⟨v,hv⟩:∃v,bo[i]?=some v:=⟨bo[i]'hi,List.getElem?_eq_getElem _⟩
 have hr1:=dI hv;unfold gq;refine zQ 9 ?_;refine zI (fun h0=>?_) fun h0=>?_
 ·rw[if_pos h0];have GG:bo.getD i 0=v:=by rw[List.getD_eq_getElem?_getD,hv];rfl
  refine zQ 9 ?_;refine qi hH at1 fun G6 Bv=>?_;refine zQ 3 ?_;refine qT hH at0 fun st hH=>?_;dsimp only[u2,u1,u3,u4,setMany,u5,u6,D.cells,Nat.reduceAdd,aF,aP,aj] at hH;refine zQ 2 ?_;refine qT hH at0 fun st hH=>?_;dsimp only[u2,u1,u3,u4,setMany,u5,u6,D.cells,Nat.reduceAdd,aF,aP,aj] at hH;refine zQ 5 ?_;refine EvC.ret ⟨rx,_,_,_,rfl,af (rfl),?_⟩;exact⟨rfl,by rw[GG];exact bM.ak bL hH⟩
 ·rw[if_neg h0];refine zQ 5 ?_;refine EvC.ret ⟨rx,_,_,_,rfl,af (rfl),?_⟩;exact⟨rfl,bM.ak bL hH⟩
end Go.Proofs.YtnleclohocdkaaaGreat
