import Derived.Test.YtbdnabmmlbiomaaGreatXPx
import Derived.Test.YtbdnabmmlbiomaaGreatXM2
import Derived.KernelRfl
set_option linter.unusedSimpArgs false
set_option linter.unusedVariables false
set_option maxRecDepth 100000
set_option maxHeartbeats 4000000
namespace Go.V
abbrev Rg:=Int×Int
def fL (l:List Rg) (r:Int):Prop:=∃x,x∈l∧x.1≤r∧r≤x.2
theorem fV (r:Int):¬fL [] r:=by rintro⟨x,h,_⟩;cases h
theorem b5 {x:Rg} {l:List Rg} {r:Int}:fL (x::l) r↔(x.1≤r∧r≤x.2)∨fL l r:=by
 constructor
 ·rintro⟨y,hy,h⟩
  rcases List.mem_cons.1 hy with rfl|hy
  ·exact .inl h
  ·exact .inr ⟨y,hy,h⟩
 ·rintro(h|⟨y,hy,h⟩)
  ·exact⟨x,List.mem_cons_self ..,h⟩
  ·exact⟨y,List.mem_cons_of_mem _ hy,h⟩
theorem we {a b:List Rg} {r:Int}:fL (a++b) r↔fL a r∨fL b r:=by
 constructor
 ·rintro⟨y,hy,h⟩
  rcases List.mem_append.1 hy with hy|hy
  ·exact .inl ⟨y,hy,h⟩
  ·exact .inr ⟨y,hy,h⟩
 ·rintro(⟨y,hy,h⟩|⟨y,hy,h⟩)
  ·exact⟨y,List.mem_append_left _ hy,h⟩
  ·exact⟨y,List.mem_append_right _ hy,h⟩
theorem sQ {a b:List Rg} (h:∀x,x∈a↔x∈b) (r:Int):fL a r↔fL b r:=by
 constructor
 ·rintro⟨y,hy,hh⟩;exact⟨y,(h y).1 hy,hh⟩
 ·rintro⟨y,hy,hh⟩;exact⟨y,(h y).2 hy,hh⟩
def canon (l:List Rg):Prop:=(∀x∈l,x.1≤x.2)∧l.Pairwise fun x y=>x.2+1<y.1
theorem ko {x:Rg} {l:List Rg} (h:canon (x::l)):canon l∧x.1≤x.2∧∀r,fL l r→x.2+1<r:=by
 obtain⟨h1,h2⟩:=h;rw[List.pairwise_cons] at h2;refine⟨⟨fun y hy=>h1 y (List.mem_cons_of_mem _ hy),h2.2⟩,h1 x (List.mem_cons_self ..),?_⟩;rintro r ⟨y,hy,h3,h4⟩;have:=h2.1 y hy;omega
theorem nc:∀{a b:List Rg},canon a→canon b→(∀r,fL a r↔fL b r)→a=b
 |[],[],_,_,_=>rfl
 |[],y::b,_,hb,h=>by
  obtain⟨_,h1,_⟩:=ko hb;exact absurd ((h y.1).2 (b5.2 (.inl ⟨Int.le_refl _,h1⟩))) (fV _)
 |x::a,[],ha,_,h=>by
  obtain⟨_,h1,_⟩:=ko ha;exact absurd ((h x.1).1 (b5.2 (.inl ⟨Int.le_refl _,h1⟩))) (fV _)
 |x::a,y::b,ha,hb,h=>by
  obtain⟨ca,xa,fa⟩:=ko ha;obtain⟨cb,yb,fb⟩:=ko hb
  have low:∀{x y:Rg} {a b:List Rg},x.1≤x.2→(∀r,fL b r→y.2+1<r)→y.1≤y.2→(∀r,fL (x::a) r→fL (y::b) r)→y.1≤x.1:=by
   intro x y a b hx hf hy hh
   rcases b5.1 (hh x.1 (b5.2 (.inl ⟨Int.le_refl _,hx⟩))) with h|h
   ·exact h.1
   ·have:=hf _ h;omega
  have e1:x.1=y.1:=Int.le_antisymm (low yb fa xa fun r=>(h r).2) (low xa fb yb fun r=>(h r).1)
  have up:∀{x y:Rg} {a b:List Rg},x.1≤x.2→x.1=y.1→(∀r,fL a r→x.2+1<r)→(∀r,fL (y::b) r→fL (x::a) r)→y.2≤x.2:=by
   intro x y a b hx he hf hh
   rcases Int.lt_or_le x.2 y.2 with h'|h'
   ·rcases b5.1 (hh (x.2+1) (b5.2 (.inl ⟨by omega,by omega⟩))) with h|h
    ·omega
    ·have:=hf _ h;omega
   ·exact h'
  have e2:x.2=y.2:=Int.le_antisymm (up yb e1.symm fb fun r=>(h r).1) (up xa e1 fa fun r=>(h r).2);have e:x=y:=Prod.ext e1 e2;subst e
  congr 1
  refine nc ca cb fun r=>⟨fun hr=>?_,fun hr=>?_⟩
  ·have:=fa r hr
   rcases b5.1 ((h r).1 (b5.2 (.inr hr))) with h|h
   ·omega
   ·exact h
  ·have:=fb r hr
   rcases b5.1 ((h r).2 (b5.2 (.inr hr))) with h|h
   ·omega
   ·exact h
def dD (acc:List Rg) (r:Rg):List Rg:=
 match acc with
 |[]=>[r]
 |k::rest=>if r.1≤k.2+1 then(k.1,max k.2 r.2)::rest else r::k::rest
theorem mL:∀(l acc:List Rg),(∀x∈l,x.1≤x.2)→l.Pairwise (fun x y=>x.1≤y.1)→(∀k∈acc.head?,∀x∈l,k.1≤x.1)→(∀x∈acc,x.1≤x.2)→acc.Pairwise (fun x y=>y.2+1<x.1)→
  (∀x∈l.foldl dD acc,x.1≤x.2)∧(l.foldl dD acc).Pairwise (fun x y=>y.2+1<x.1)∧∀r,fL (l.foldl dD acc) r↔fL acc r∨fL l r
 |[],acc,_,_,_,h1,h2=>⟨h1,h2,fun r=>⟨.inl,fun h=>h.resolve_right (fV r)⟩⟩
 |x::l,acc,hl,hp,hk,h1,h2=>by
  rw[List.pairwise_cons] at hp;have hx:=hl x (List.mem_cons_self ..);have ir:∀y∈l,y.1≤y.2:=fun y hy=>hl y (List.mem_cons_of_mem _ hy);rw[List.foldl_cons]
  cases acc with
  |nil=>
   obtain⟨g1,g2,g3⟩:=mL l [x] ir hp.2 (fun k kg y hy=>by simp at kg;subst kg;exact hp.1 y hy) (fun y hy=>by simp at hy;subst hy;exact hx) (by simp);refine⟨g1,g2,fun r=>(g3 r).trans ?_⟩;rw[b5 (l:=l),b5 (l:=[])];constructor
   ·rintro((h|h)|h)
    ·exact .inr (.inl h)
    ·exact absurd h (fV r)
    ·exact .inr (.inr h)
   ·rintro(h|h|h)
    ·exact absurd h (fV r)
    ·exact .inl (.inl h)
    ·exact .inr h
  |cons k rest=>
   have hkx:=hk k rfl x (List.mem_cons_self ..);have hkk:=h1 k (List.mem_cons_self ..);rw[List.pairwise_cons] at h2;unfold dD
   by_cases hc:x.1≤k.2+1
   ·simp only[if_pos hc]
    obtain⟨g1,g2,g3⟩:=mL l ((k.1,max k.2 x.2)::rest) ir hp.2 (fun q hq y hy=>by simp at hq;subst hq;have:=hp.1 y hy;simp only;omega) (fun y hy=>by
     rcases List.mem_cons.1 hy with rfl|hy
     ·simp only;omega
     ·exact h1 y (List.mem_cons_of_mem _ hy)) (by rw[List.pairwise_cons];exact⟨h2.1,h2.2⟩)
    refine⟨g1,g2,fun r=>(g3 r).trans ?_⟩;rw[b5 (l:=rest),b5 (l:=rest),b5 (l:=l)];constructor
    ·rintro((h|h)|h)
     ·simp only at h
      by_cases hr:r≤k.2
      ·exact .inl (.inl ⟨h.1,hr⟩)
      ·exact .inr (.inl ⟨by omega,by omega⟩)
     ·exact .inl (.inr h)
     ·exact .inr (.inr h)
    ·rintro((h|h)|h|h)
     ·exact .inl (.inl ⟨h.1,by simp only;omega⟩)
     ·exact .inl (.inr h)
     ·exact .inl (.inl ⟨by simp only;omega,by simp only;omega⟩)
     ·exact .inr h
   ·simp only[if_neg hc]
    obtain⟨g1,g2,g3⟩:=mL l (x::k::rest) ir hp.2 (fun q hq y hy=>by simp at hq;subst hq;exact hp.1 y hy) (fun y hy=>by
     rcases List.mem_cons.1 hy with rfl|hy
     ·exact hx
     ·exact h1 y hy) (by
     rw[List.pairwise_cons];refine⟨fun y hy=>?_,by rw[List.pairwise_cons];exact h2⟩
     rcases List.mem_cons.1 hy with rfl|hy
     ·omega
     ·have:=h2.1 y hy;omega)
    refine⟨g1,g2,fun r=>(g3 r).trans ?_⟩;rw[b5 (l:=k::rest),b5 (l:=l)];constructor
    ·rintro((h|h)|h)
     ·exact .inr (.inl h)
     ·exact .inl h
     ·exact .inr (.inr h)
    ·rintro(h|h|h)
     ·exact .inl (.inr h)
     ·exact .inl (.inl h)
     ·exact .inr h
theorem yA {l:List Rg} (h1:∀x∈l,x.1≤x.2) (h2:l.Pairwise fun x y=>x.1≤y.1):canon (l.foldl dD []).reverse∧∀r,fL (l.foldl dD []).reverse r↔fL l r:=by
 obtain⟨g1,g2,g3⟩:=mL l [] h1 h2 (fun k hk=>by simp at hk) (fun x hx=>by simp at hx) List.Pairwise.nil;refine⟨⟨fun x hx=>g1 x (List.mem_reverse.1 hx),by rw[List.pairwise_reverse];exact g2⟩,fun r=>?_⟩;rw[sQ (fun x=>List.mem_reverse) r,g3 r];exact⟨fun h=>h.resolve_left (fV r),.inr⟩
def nZ (r:Int):Prop:=0≤r∧r≤1114111∧¬(55296≤r∧r≤57343)
def dP (x:Rg):List Rg:=
 (if max (max x.1 0) 0≤min (min x.2 1114111) 55295 then[(max (max x.1 0) 0,min (min x.2 1114111) 55295)] else[])++
 (if max (max x.1 0) 57344≤min (min x.2 1114111) 1114111 then[(max (max x.1 0) 57344,min (min x.2 1114111) 1114111)] else[])
theorem pM (x:Rg) (r:Int):fL (dP x) r↔nZ r∧x.1≤r∧r≤x.2:=by
 unfold dP nZ;rw[we]
 have one:∀(a b:Int),fL (if a≤b then[(a,b)] else[]) r↔a≤r∧r≤b:=by
  intro a b
  split
  ·rw[b5];exact⟨fun h=>h.elim id fun h=>absurd h (fV r),.inl⟩
  ·exact⟨fun h=>absurd h (fV r),fun h=>by omega⟩
 rw[one,one];omega
theorem nG (x:Rg):∀y∈dP x,y.1≤y.2∧0≤y.1∧y.2≤1114111:=by
 intro y hy;unfold dP at hy
 rcases List.mem_append.1 hy with h|h<;>split at h<;>simp at h<;>subst h<;>simp only<;>omega
theorem qI {l all:List Rg} (hp:∀x,x∈all↔x∈l.flatMap dP) (hs:all.Pairwise fun x y=>x.1≤y.1):canon (all.foldl dD []).reverse∧∀r,fL (all.foldl dD []).reverse r↔nZ r∧fL l r:=by
 have hle:∀x∈all,x.1≤x.2:=fun x hx=>by
  obtain⟨y,_,hy⟩:=List.mem_flatMap.1 ((hp x).1 hx);exact(nG y x hy).1
 obtain⟨g1,g2⟩:=yA hle hs;refine⟨g1,fun r=>(g2 r).trans ((sQ hp r).trans ?_)⟩;constructor
 ·rintro⟨y,hy,h⟩;obtain⟨x,hx,hy⟩:=List.mem_flatMap.1 hy;have:=(pM x r).1 ⟨y,hy,h⟩;exact⟨this.1,x,hx,this.2⟩
 ·rintro⟨hr,x,hx,h⟩;obtain⟨y,hy,h'⟩:=(pM x r).2 ⟨hr,h⟩;exact⟨y,List.mem_flatMap.2 ⟨x,hx,hy⟩,h'⟩
def jN:List Rg→Int→Bool
 |[],_=>false
 |x::l,r=>(decide (x.1≤r) &&decide (r≤x.2))||jN l r
theorem wV:∀(l:List Rg) (r:Int),jN l r=true↔fL l r
 |[],r=>⟨fun h=>(by cases h),fun h=>absurd h (fV r)⟩
 |x::l,r=>by
  rw[b5,←wV l r];simp[jN]
end Go.V
namespace Go.Proofs.YtbdnabmmlbiomaaGreat
open Go.V Go
def kY (fr:Go.V.Fr) (k:Nat):Go.V.D:=Go.V.nth .bp fr.loc k
def ax (x:Rg):List D:=[.int .i32 x.1,.int .i32 x.2]
def bJ (l:List Rg):D:=.sl (l.map fun x=>.agg (ax x))
theorem iz (l:List Rg):D.sl ((l.map ax).map (ki 2))=bJ l:=by
 unfold bJ;rw[List.map_map];rfl
theorem eH (l:List Rg):∀e∈l.map ax,∀d∈e,cj d=true:=by
 intro e he d hd;obtain⟨x,_,rfl⟩:=List.mem_map.1 he;simp only[ax,List.mem_cons,List.not_mem_nil,or_false] at hd
 rcases hd with rfl|rfl<;>rfl
theorem x_ (l:List Rg):refs (l.map ax).flatten=0:=by
 induction l with
 |nil=>rfl
 |cons x l ih=>simp only[List.map_cons,List.flatten_cons,ax,List.cons_append,List.nil_append,refs,D.ref,ih];rfl
theorem lD (l:List Rg):∀e∈l.map ax,e.length=2:=by
 intro e he;obtain⟨x,_,rfl⟩:=List.mem_map.1 he;rfl
theorem fR (st:St) (l:List Rg):V.Rows st 2 (bJ l) (l.map ax):=by
 rw[←iz];exact Rows.p_ (lD l) (eH l)
theorem fH {l:List Rg} {i:Nat} {q:Rg} (h:l[i]?=some q):(l.map ax)[i]?=some (ax q):=by rw[List.getElem?_map,h];rfl
theorem s_ (l:List Rg) (q:Rg) (r:Int):jN (l++[q]) r=(jN l r||(decide (q.1≤r) &&decide (r≤q.2))):=by
 induction l with
 |nil=>simp[jN]
 |cons x l ih=>simp only[List.cons_append,jN,ih,Bool.or_assoc]
theorem wU {l:List Rg} {i:Nat} {r:Int} (h:jN (l.take i) r=true):jN l r=true:=by
 rw[wV] at h⊢;obtain⟨x,h1,h2⟩:=h;exact⟨x,List.mem_of_mem_take h1,h2⟩
theorem AW {s0:St} {x:D} {l:List Rg} {r:Int} (hx:V.Rows s0 2 x (l.map ax)) (hl:l.length≤1073741824):Ev pv 70 [x,.int .i32 r] s0 (.bool (jN l r)) s0:=by
 refine Ev.iS rfl XV rfl rfl rfl ?_;dsimp only[u3,u4,List.length,Nat.reduceSub,Nat.reduceAdd,w1,w2];obtain⟨bT,hF,hH⟩:=ri s0;generalize ag .ro s0=S at*;have hx:=Arg.of hx bT;refine qq<|qj fun K hK=>qm ?_;refine qe hK<|qq<|qq<|qj fun K hK=>qm ?_;refine qe hK<|ab.block<|ab.loop (fun mm fr st=>∃(i:Nat),fr.clean=⟨6,[x,.int .i32 r,kY fr 2,kY fr 3,.bool false,.int .i64 (i:Nat)],[]⟩∧Has s0.bs.length S st []∧(i+mm=l.length)∧(jN (l.take i) r=false)) (l.length) ?_ ?_
 ·exact⟨0,rfl,hH,by omega,rfl⟩
 rintro mm fr st ⟨i,hfr,hH,hi,hn⟩;rw[hfr];clear hfr;generalize kY fr=ee;clear fr;refine qq<|qq<|qj fun K hK=>qm ?_;refine qm ?_;refine qn ?_;simp only[List.length_map];refine qg ?_;refine qe hK ?_;refine ab.cond (by rfl) (fun h1=>?_) (fun h1=>?_)<;>try simp only[decide_eq_true_eq,decide_eq_false_iff_not] at h1
 ·refine ab.skip ?_
  obtain⟨q,hq⟩:∃q,l[i]?=some q:=⟨l[i]'(by omega),List.getElem?_eq_getElem _⟩
  have hr:=fH hq;refine qq<|ab.block<|qq<|ab.kB 27 (.bool (decide (r≥q.1) &&decide (r≤q.2))) [] ?_ (fun ff tmp hU=>?_)
  ·refine qm ?_;refine qm ?_;refine qm ?_;refine qr fun Vx Qj=>?_;refine qf (fo:=0) fun p16 aaG=>?_;refine qR ?_;refine qg ?_;refine qm ?_;refine aa.two 19 rfl (fun fX=>?_) (fun fX=>?_)
   ·refine qm ?_ (hg:=wi fX);refine qm ?_ (hg:=wi fX);refine qm ?_ (hg:=wi fX);refine qr (fun Vu Qg=>?_) (hg:=wi fX);refine qf (fo:=1) (fun Rl Bn=>?_) (hg:=wi fX);refine qR ?_ (hg:=wi fX);refine qg ?_ (hg:=wi fX);refine qt fX ?_;refine aa.nil (c_ ?_ ?_)
    ·dsimp only[aR,List.foldl,nth,u2,u1]
     all_goals(first|rfl|simp)
    ·dsimp only[Fr.aj,Fr.put,Fr.clean,Fr.ev,Fr.get,nth,V.look,u1,u2,v1,v2,v3,v4,v5,v6,v7,List.length,u3,u4,Nat.reduceSub,Nat.reduceAdd,List.map]
     all_goals(simp[fX];done)
   ·refine qs ?_ (hg:=wn fX);refine qs ?_ (hg:=wn fX);refine qs ?_ (hg:=wn fX);refine qs ?_ (hg:=wn fX);refine qs ?_ (hg:=wn fX);refine qs ?_ (hg:=wn fX);refine qs ?_ (hg:=wn fX);refine qu fX ?_;refine aa.nil (c_ ?_ ?_)
    ·dsimp only[aR,List.foldl,nth,u2,u1]
     all_goals(first|rfl|simp)
    ·dsimp only[Fr.aj,Fr.put,Fr.clean,Fr.ev,Fr.get,nth,V.look,u1,u2,v1,v2,v3,v4,v5,v6,v7,List.length,u3,u4,Nat.reduceSub,Nat.reduceAdd,List.map]
     all_goals(simp[fX];done)
  dsimp only[aR,List.foldl,nth,u2,u1];dsimp only[Fr.aj,Fr.put,Fr.clean,Fr.ev,Fr.get,nth,V.look,u1,u2,v1,v2,v3,v4,v5,v6,v7,List.length,u3,u4,Nat.reduceSub,Nat.reduceAdd,List.map]
  have ht:jN (l.take (i+1)) r=(decide (r≥q.1) &&decide (r≤q.2)):=by
   rw[List.take_add_one,hq,Option.toList_some,s_,hn];simp
  refine qc (fun h2=>?_) (fun h2=>?_)<;>try simp only[cs] at h2
  ·refine qq<|qj fun K hK=>qm ?_;refine qe hK ?_;rw[wU (i:=i+1) (by rw[ht];simp[h2])];refine ab.ret ⟨rx,_,rfl,rl bT hH (rfl)⟩
  ·refine ab.skip<|qj fun K hK=>qm ?_;refine qA ?_;refine qm ?_;refine qe hK ?_;exact⟨mm-1,by omega,⟨i+1,rfl,hH,by omega,by rw[ht];simp[h2]⟩⟩
 ·refine ab.exit<|qq<|qj fun K hK=>qm ?_;refine qe hK ?_;have:jN l r=false:=by rw[←hn,List.take_of_length_le (by omega)]
  rw[this];refine ab.ret ⟨rx,_,rfl,rl bT hH (rfl)⟩
theorem DZ {s0:St} {x:D} {l:List Rg} {r:Int} (hx:V.Rows s0 2 x (l.map ax)) (hl:l.length≤1073741824):Ev pv 108 [x,.int .i32 r] s0 (.bool (jN l r)) s0:=by
 refine Ev.iS rfl Uz rfl rfl rfl ?_;dsimp only[u3,u4,List.length,Nat.reduceSub,Nat.reduceAdd,w1,w2];obtain⟨bT,hF,hH⟩:=ri s0;generalize ag .ro s0=S at*;have hx:=Arg.of hx bT;refine qq<|qj fun K hK=>qm ?_;refine qe hK<|qq<|qq<|qj fun K hK=>qm ?_;refine qn ?_;simp only[List.length_map];refine qm ?_;refine qe hK<|ab.block<|ab.loop (fun mm fr st=>∃(i:Nat),fr.clean=⟨10,[x,.int .i32 r,kY fr 2,kY fr 3,.bool false,kY fr 5,kY fr 6,x,.int .i64 (l.length:Nat),.int .i64 (i:Nat)],[]⟩∧Has s0.bs.length S st []∧(i+mm=l.length)∧(jN (l.take i) r=false)) (l.length) ?_ ?_
 ·exact⟨0,rfl,hH,by omega,rfl⟩
 rintro mm fr st ⟨i,hfr,hH,hi,hn⟩;rw[hfr];clear hfr;generalize kY fr=ee;clear fr;refine qq<|qj fun K hK=>qg ?_;refine qe hK<|qq ?_;refine ab.cond (by rfl) (fun h1=>?_) (fun h1=>?_)<;>try simp only[decide_eq_true_eq,decide_eq_false_iff_not] at h1
 ·refine ab.skip ?_
  obtain⟨q,hq⟩:∃q,l[i]?=some q:=⟨l[i]'(by omega),List.getElem?_eq_getElem _⟩
  have hr:=fH hq;refine qq<|ab.block<|qq<|qj fun K hK=>qr fun Y9 S6=>?_;refine aa.db rfl (ev rfl) (by assumption) rfl (ah rfl _) ?_;refine qa hH fun k6 st Me hH=>?_;refine qS hH aB fun st hH=>?_;dsimp only[u2,u1,u3,u4,setMany,u5,u6,D.cells,Nat.reduceAdd,ax] at hH;refine qe hK<|qq<|ab.kB 22 (.bool (decide (r≥q.1) &&decide (r≤q.2))) [] ?_ (fun ff tmp hU=>?_)
  ·refine qm ?_;refine qp (o:=0) ?_;refine ql hH aB ?_;refine qg ?_;refine qm ?_;refine aa.two 17 rfl (fun fg=>?_) (fun fg=>?_)
   ·refine qm ?_ (hg:=wi fg);refine qp (o:=1) ?_ (hg:=wi fg);refine ql hH aB ?_ (hg:=wi fg);refine qg ?_ (hg:=wi fg);refine qt fg ?_;refine aa.nil (c_ ?_ ?_)
    ·dsimp only[aR,List.foldl,nth,u2,u1]
     all_goals(first|rfl|simp)
    ·dsimp only[Fr.aj,Fr.put,Fr.clean,Fr.ev,Fr.get,nth,V.look,u1,u2,v1,v2,v3,v4,v5,v6,v7,List.length,u3,u4,Nat.reduceSub,Nat.reduceAdd,List.map]
     all_goals(simp[fg];done)
   ·refine qs ?_ (hg:=wn fg);refine qs ?_ (hg:=wn fg);refine qs ?_ (hg:=wn fg);refine qs ?_ (hg:=wn fg);refine qu fg ?_;refine aa.nil (c_ ?_ ?_)
    ·dsimp only[aR,List.foldl,nth,u2,u1]
     all_goals(first|rfl|simp)
    ·dsimp only[Fr.aj,Fr.put,Fr.clean,Fr.ev,Fr.get,nth,V.look,u1,u2,v1,v2,v3,v4,v5,v6,v7,List.length,u3,u4,Nat.reduceSub,Nat.reduceAdd,List.map]
     all_goals(simp[fg];done)
  dsimp only[aR,List.foldl,nth,u2,u1];dsimp only[Fr.aj,Fr.put,Fr.clean,Fr.ev,Fr.get,nth,V.look,u1,u2,v1,v2,v3,v4,v5,v6,v7,List.length,u3,u4,Nat.reduceSub,Nat.reduceAdd,List.map]
  have ht:jN (l.take (i+1)) r=(decide (r≥q.1) &&decide (r≤q.2)):=by
   rw[List.take_add_one,hq,Option.toList_some,s_,hn];simp
  refine qc (fun h2=>?_) (fun h2=>?_)<;>try simp only[cs] at h2
  ·refine qq<|qj fun K hK=>qm ?_;refine qe hK ?_;rw[wU (i:=i+1) (by rw[ht];simp[h2])];refine ab.ret ⟨rx,_,rfl,rl bT hH (rfl)⟩
  ·refine ab.skip<|qj fun K hK=>qA ?_;refine qm ?_;refine qe hK ?_;exact⟨mm-1,by omega,⟨i+1,rfl,(hH.drop 1),by omega,by rw[ht];simp[h2]⟩⟩
 ·refine ab.exit<|qq<|qj fun K hK=>qm ?_;refine qe hK ?_;have:jN l r=false:=by rw[←hn,List.take_of_length_le (by omega)]
  rw[this];refine ab.ret ⟨rx,_,rfl,rl bT hH (rfl)⟩
def a_ (fr:Go.V.Fr) (k:Nat):Go.V.D:=Go.V.nth .bp fr.loc k
def fw:List Rg:=[(0,55295),(57344,1114111)]
def rY (lo hi:Int) (p:Rg):List Rg:=if max lo p.1≤min hi p.2 then[(max lo p.1,min hi p.2)] else[]
theorem tH (q:Rg):dP q=fw.flatMap (rY (max q.1 0) (min q.2 1114111)):=by
 simp[dP,fw,rY]
theorem Cr {s0:St} (q:Rg):Ev pv 153 [.agg (ax q)] s0 (bJ (dP q)) s0:=by
 refine Ev.iS rfl T_ rfl rfl rfl ?_;dsimp only[u3,u4,List.length,Nat.reduceSub,Nat.reduceAdd,w1,w2];obtain⟨bT,hF,hH⟩:=ri s0;generalize ag .ro s0=S at*;refine qq<|qj fun K hK=>qb hH fun k1 st o5 hH=>?_;dsimp only[u2,u1,u3,u4,setMany,u5,u6,D.cells,Nat.reduceAdd,ax] at hH;refine qm ?_;refine qe hK<|qq<|qj fun K hK=>qp (o:=0) ?_;refine ql hH aB ?_;refine aa.KR (t1:=0) (t2:=0) rfl (ev rfl) (ev rfl) (by dsimp only[Fr.put,u1,u2]<;>rfl) ?_;refine qp (o:=1) ?_;refine ql hH aB ?_;refine aa.KQ (t1:=0) (t2:=0) rfl (ev rfl) (ev rfl) (by dsimp only[Fr.put,u1,u2]<;>rfl) ?_;refine qp (o:=0) ?_;refine qT hH aB fun st hH=>?_;dsimp only[u2,u1,u3,u4,setMany,u5,u6,D.cells,Nat.reduceAdd,ax] at hH;refine qp (o:=1) ?_;refine qT hH aB fun st hH=>?_;dsimp only[u2,u1,u3,u4,setMany,u5,u6,D.cells,Nat.reduceAdd,ax] at hH;refine qe hK ?_;generalize u9:max q.1 0=lo at*;generalize Ac:min q.2 1114111=hi at*;refine qq<|qj fun K hK=>qm ?_;refine qe hK ?_;have hH:=hH.d_ 2;refine qq<|qq<|qj fun K hK=>qg ?_;refine qg ?_;refine qh (s:=2) (vs:=[_,_]) hH fun k17 st Tm hH=>?_;dsimp only[u2,u1,u3,u4,setMany,u5,u6,D.cells,Nat.reduceAdd,ax] at hH;refine qn ?_ (hR:=hH.rows aB);simp only[List.length_cons,List.length_nil];refine qm ?_;refine qe hK<|ab.block<|ab.loop (fun mm fr st=>∃(i:Nat) (x:D),fr.clean=⟨20,[.agg (ax q),.ptr k1 0 0,.nul,x,a_ fr 4,a_ fr 5,a_ fr 6,a_ fr 7,a_ fr 8,a_ fr 9,a_ fr 10,a_ fr 11,a_ fr 12,a_ fr 13,a_ fr 14,a_ fr 15,a_ fr 16,.win k17 0 0 2 2,.int .i64 2,.int .i64 (i:Nat)],[]⟩∧Has s0.bs.length S st [.aP (.win k17 0 0 2 2) 2 (fw.map ax),.aP x 2 (((fw.take i).flatMap (rY lo hi)).map ax),.box k1 (.mem 0 false [.int .i32 lo,.int .i32 hi])]∧(i+mm=2)∧(((fw.take i).flatMap (rY lo hi)).length≤i)) (2) ?_ ?_
 ·exact⟨0,.nul,rfl,hH,by omega,by simp⟩
 rintro mm fr st ⟨i,x,hfr,hH,hij,hb⟩;rw[hfr];clear hfr;generalize a_ fr=ee;clear fr;refine qq<|qj fun K hK=>qg ?_;refine qe hK<|qq ?_;refine ab.cond (by rfl) (fun h1=>?_) (fun h1=>?_)<;>try simp only[decide_eq_true_eq,decide_eq_false_iff_not] at h1
 ·refine ab.skip ?_
  obtain⟨p,hp⟩:∃p,fw[i]?=some p:=⟨fw[i]'(by simp[fw];omega),List.getElem?_eq_getElem _⟩
  have hr:=fH hp;refine qq<|ab.block<|qq<|qj fun K hK=>qi hH aB fun UR Le=>?_;refine aa.tS hH rfl (ev rfl) (by assumption) (by exact aB) (by assumption) rfl (ah rfl _) ?_;refine qa hH fun k5 st Aa hH=>?_;refine qS hH aB fun st hH=>?_;dsimp only[u2,u1,u3,u4,setMany,u5,u6,D.cells,Nat.reduceAdd,ax] at hH;refine qe hK<|qq<|qj fun K hK=>qp (o:=0) ?_;refine ql hH eQ ?_;refine qp (o:=0) ?_;refine ql hH aB ?_;refine aa.KR (t1:=0) (t2:=0) rfl (ev rfl) (ev rfl) (ah rfl _) ?_;refine qp (o:=1) ?_;refine ql hH eQ ?_;refine qp (o:=1) ?_;refine ql hH aB ?_;refine aa.KQ (t1:=0) (t2:=0) rfl (ev rfl) (ev rfl) (ah rfl _) ?_;refine qg ?_;refine qa hH fun k6 st Me hH=>?_;refine qS hH aB fun st hH=>?_;dsimp only[u2,u1,u3,u4,setMany,u5,u6,D.cells,Nat.reduceAdd,ax] at hH;refine qe hK<|qq<|qj fun K hK=>qp (o:=0) ?_;refine ql hH aB ?_;refine qp (o:=1) ?_;refine ql hH aB ?_;refine qg ?_;refine qe hK ?_;refine ab.cond (by rfl) (fun h2=>?_) (fun h2=>?_)<;>try simp only[decide_eq_true_eq,decide_eq_false_iff_not] at h2
  ·refine qj fun K hK=>qm ?_;refine aa.aT (m:=2) hH rfl (ev rfl) (by exact aB) (by dsimp only[List.drop_succ_cons,List.drop_zero,List.take_succ_cons,List.take_zero,ax]<;>rfl) rfl rfl (ah rfl _) ?_;refine qh (s:=2) (vs:=[_]) hH fun k41 st Tj hH=>?_;refine aa.bO (s:=2) hH rfl (ev rfl) (ev rfl) (by exact gO) (by exact hH.rows (by exact aB)) rfl rfl rfl rfl rfl rfl rfl ⟨(Nat.le_of_ble_eq_true rfl),(Nat.le_of_ble_eq_true rfl)⟩ (fun _=>(ah rfl _)) (by simp only[List.length_cons,List.length_nil,List.length_map]<;>omega) (by exact .inl hF) (fun RG st hH=>?_);dsimp only[u2,u1,u3,u4,setMany,u5,u6,D.cells,Nat.reduceAdd,ax] at hH;refine qm ?_;refine qe hK<|qj fun K hK=>qA ?_;refine qm ?_;refine qe hK ?_
   have h3:(fw.take (i+1)).flatMap (rY lo hi)=(fw.take i).flatMap (rY lo hi)++[(max lo p.1,min hi p.2)]:=by
    rw[List.take_add_one,hp,List.flatMap_append];simp[rY,h2]
   exact⟨mm-1,by omega,⟨i+1,RG,rfl,(by rw[h3,List.map_append];exact hH.drop 3),by omega,by rw[h3];simp only[List.length_append,List.length_cons,List.length_nil];omega⟩⟩
  ·refine ab.skip<|qj fun K hK=>qA ?_;refine qm ?_;refine qe hK ?_
   have h3:(fw.take (i+1)).flatMap (rY lo hi)=(fw.take i).flatMap (rY lo hi):=by
    rw[List.take_add_one,hp,List.flatMap_append];simp[rY,h2]
   exact⟨mm-1,by omega,⟨i+1,x,rfl,(by rw[h3];exact hH.drop 2),by omega,by rw[h3];omega⟩⟩
 ·refine ab.exit<|qq<|qj fun K hK=>qm ?_;refine qm ?_;refine qe hK ?_;rw[←iz];have h3:fw.take i=fw:=List.take_of_length_le (by simp[fw];omega);rw[h3] at hH;refine ab.ret ⟨rx,_,rfl,rl bT hH ?_⟩;refine Eq.trans (hH.freeze bF (eH _) (n:=15) (by decide)) ?_;rw[tH,u9,Ac]
theorem AK (q x:Rg) (h:x∈dP q):0≤x.1∧x.1≤1114111:=by
 obtain⟨h1,h2,h3⟩:=nG q x h;omega
theorem pN (q:Rg):(dP q).length≤2:=by
 unfold dP;split<;>split<;>simp
theorem jb (l:List Rg):(l.flatMap dP).length≤2*l.length:=by
 induction l with
 |nil=>simp
 |cons x l ih=>simp only[List.flatMap_cons,List.length_append,List.length_cons];have:=pN x;omega
theorem sv:∀{l:List Rg},(∀x∈l,0≤x.1∧x.1≤1114111)→∃m:List Rs,fh m=(l.map ax).flatten∧m.map (fun x=>(x.lo,x.hi))=l
 |[],_=>⟨[],rfl,rfl⟩
 |x::l,h=>by
  obtain⟨m,h1,h2⟩:=sv (l:=l) fun y hy=>h y (List.mem_cons_of_mem _ hy);obtain⟨h3,h4⟩:=h x (List.mem_cons_self ..);exact⟨⟨x.1,x.2,h3,h4⟩::m,by simp only[fh,h1,List.map_cons,List.flatten_cons,ax,List.cons_append,List.nil_append],by simp[h2]⟩
theorem yV (m:List Rs):fh m=((m.map fun x=>((x.lo,x.hi):Rg)).map ax).flatten:=by
 induction m with
 |nil=>rfl
 |cons x m ih=>simp only[fh,ih,List.map_cons,List.flatten_cons,ax,List.cons_append,List.nil_append]
theorem DY {N:Nat} {S st:St} {H:List bt} {j:Nat} {x:D} {l:List Rg} (hH:Has N S st H) (hj:H[j]?=some (.aP x 2 (l.map ax))) (h0:l=[]→x=.nul) (hl:l.length≤1073741824) (hr:∀y∈l,0≤y.1∧y.1≤1114111):
  ∃(ai:St) (l':List Rg),Ev pv 154 [x,.fn 155 []] st (.tup []) ai∧Has N S ai (H.set j (.aP x 2 (l'.map ax)))∧l'.Perm l∧l'.Pairwise fun a b=>a.1≤b.1:=by
 obtain⟨m,h1,h2⟩:=sv hr;obtain⟨h3,h4⟩:=srt_facts m;have Bo:m.length=l.length:=by rw[←h2];simp
 have hperm:((srt m).map fun x=>((x.lo,x.hi):Rg)).Perm l:=by rw[←h2];exact h3.map _
 have oJ:((srt m).map fun x=>((x.lo,x.hi):Rg)).Pairwise fun a b=>a.1≤b.1:=by rw[List.pairwise_map];exact h4
 have hlen:(srt m).length=l.length:=h3.length_eq.trans Bo;have hown:=hH.own hj;generalize uC:l.map ax=es at*;have rV:es.length=l.length:=by rw[←uC];simp
 cases hown with
 |nul=>
  have B4:l=[]:=by cases l with|nil=>rfl|cons _ _=>simp at rV
  refine⟨st,(srt m).map fun x=>(x.lo,x.hi),Ev.j6 rfl rfl,?_,hperm,oJ⟩
  have:(srt m).map (fun x=>((x.lo,x.hi):Rg))=[]:=by
   cases hs:srt m with
   |nil=>rfl
   |cons a b=>rw[hs,B4] at hlen;simp at hlen
  rw[this];exact hH.BV hj (fun _ _ _=>rfl) (Nat.le_refl _) rfl rfl .nul (fun k hk=>.inl hk) fun k hk=>by simp only[bt.aP,D.ref] at hk;omega
 |win k az off es c hm hle hc he=>
  have hne:l≠[]:=fun e=>by have:=h0 e;cases this
  have rS:1≤l.length:=by cases l with|nil=>exact absurd rfl hne|cons _ _=>simp
  have hk:=(hH.ok j _ hj).2 k (by simp only[bt.aP,D.ref]);have yN:(fh (srt m)).length=es.length*2:=by rw[mV,hlen,rV];omega
  have hwr:st.wr k az off (fh (srt m))=some ⟨st.bs.set k (.mem az true (c.take off++fh (srt m)++c.drop (off+(fh (srt m)).length))),st.flr,st.ro⟩:=
   kI hm (by omega) (jQ hH hk.1 (.inr (th _)))
  refine⟨⟨st.bs.set k (.mem az true (c.take off++fh (srt m)++c.drop (off+(fh (srt m)).length))),st.flr,st.ro⟩,(srt m).map fun x=>(x.lo,x.hi),Ev.j6 rfl ?_,?_,hperm,oJ⟩
  ·show AD [.win k az off es.length 2,.fn 155 []] st=_;have gL:(c.drop off).take (2*es.length)=fh m:=by rw[Nat.mul_comm,hc,h1]
   simp only[AD,St.mem_of hm,gL,zH,Mp];rw[decide_eq_true (⟨by rw[Bo,rV],by omega,by omega⟩:m.length=es.length∧1≤es.length∧es.length<1099511627776)];simp only[hwr]
  ·refine hH.BV hj (fun n hn hne=>?_) (by simp) rfl rfl ?_ (fun n hn=>.inl hn) fun n hn=>?_
   ·simp only;rw[List.getElem?_set_ne (fun e=>hne (by simp only[bt.aP,D.ref];omega))]
   ·have h9:=gV.win (st:=⟨st.bs.set k (.mem az true (c.take off++fh (srt m)++c.drop (off+(fh (srt m)).length))),st.flr,st.ro⟩) (s:=2) k az off (((srt m).map fun x=>((x.lo,x.hi):Rg)).map ax) (c.take off++fh (srt m)++c.drop (off+(fh (srt m)).length))
     (by simp only;rw[List.getElem?_set_self hk.2]) (by simp only[List.length_append,List.length_take,List.length_map,List.length_drop,yN];omega) ?_ (lD _)
    ·simp only[List.length_map,hlen] at h9;rw[rV];exact h9
    ·have WD:(c.take off).length=off:=by simp;omega
     rw[List.append_assoc,List.drop_left' WD,←yV,List.take_left' (by simp only[List.length_map,hlen];omega)]
   ·simp only[bt.aP,D.ref] at hn;simp only[List.length_set];omega
theorem qN (l:List Rg):(l.foldl dD []).length≤l.length:=by
 have key:∀(l acc:List Rg),(l.foldl dD acc).length≤acc.length+l.length:=by
  intro l
  induction l with
  |nil=>intro acc;simp
  |cons x l ih=>
   intro acc;simp only[List.foldl_cons,List.length_cons];have:=ih (dD acc x)
   have h2:(dD acc x).length≤acc.length+1:=by
    unfold dD;split
    ·simp
    ·split<;>simp
   omega
 have:=key l []
 simpa using this
theorem KY {l:List Rg} (h:∀x∈l,0≤x.2∧x.2≤1114111):∀x∈l.foldl dD [],0≤x.2∧x.2≤1114111:=by
 have key:∀(l acc:List Rg),(∀x∈l,0≤x.2∧x.2≤1114111)→(∀x∈acc,0≤x.2∧x.2≤1114111)→∀x∈l.foldl dD acc,0≤x.2∧x.2≤1114111:=by
  intro l
  induction l with
  |nil=>intro acc _ h x hx;exact h x hx
  |cons y l ih=>
   intro acc h1 h2;refine ih _ (fun x hx=>h1 x (List.mem_cons_of_mem _ hx)) fun x hx=>?_;have hy:=h1 y (List.mem_cons_self ..);unfold dD at hx
   split at hx
   ·simp only[List.mem_cons,List.not_mem_nil,or_false] at hx;rw[hx];exact hy
   ·rename_i k rest;have hk:=h2 k (List.mem_cons_self ..)
    split at hx
    ·rcases List.mem_cons.1 hx with rfl|hx
     ·simp only;omega
     ·exact h2 x (List.mem_cons_of_mem _ hx)
    ·rcases List.mem_cons.1 hx with rfl|hx
     ·exact hy
     ·exact h2 x hx
 exact key l [] h (fun x hx=>by cases hx)
theorem Dj (h:Rg) (t:List Rg):((h::t).reverse.map ax)[t.length]?=some (ax h):=by
 rw[List.getElem?_map,List.reverse_cons,List.getElem?_append_right (by simp)];simp
theorem Di (h h':Rg) (t:List Rg):((h::t).reverse.map ax).set t.length (ax h')=(h'::t).reverse.map ax:=by
 rw[List.reverse_cons,List.map_append,List.set_append_right _ _ (by simp)];simp
theorem zT {s0:St} {x:D} {l:List Rg} (hx:V.Rows s0 2 x (l.map ax)) (hl:l.length≤268435456):∃d,Ev pv 146 [x] s0 d s0∧∃all:List Rg,d=bJ (all.foldl dD []).reverse∧all.Perm (l.flatMap dP)∧all.Pairwise fun a b=>a.1≤b.1:=by
 refine Ev.Dc rfl Ud rfl rfl rfl ?_;dsimp only[u3,u4,List.length,Nat.reduceSub,Nat.reduceAdd,w1,w2];obtain⟨bT,hF,hH⟩:=ri s0;generalize ag .ro s0=S at*;have hx:=Arg.of hx bT;have ml:=jb l
 have hfi:∀i,((l.take i).flatMap dP).length≤2*l.length:=fun i=>by
  have:=jb (l.take i);simp only[List.length_take] at this;omega
 refine qq<|qj fun K hK=>qm ?_;refine qe hK<|qq<|qj fun K hK=>qm ?_;refine qm ?_;refine qe hK<|qq<|qq<|qj fun K hK=>qm ?_;refine qn ?_;simp only[List.length_map];refine qm ?_;refine qe hK ?_;have hH:=hH.d_ 2;refine ab.block<|ab.loop (fun mm fr st=>∃(i:Nat) (y:D),fr.clean=⟨26,[x,a_ fr 1,a_ fr 2,y,.nul,a_ fr 5,a_ fr 6,a_ fr 7,a_ fr 8,a_ fr 9,x,.int .i64 (l.length:Nat),.int .i64 (i:Nat),a_ fr 13,a_ fr 14,a_ fr 15,a_ fr 16,a_ fr 17,a_ fr 18,a_ fr 19,a_ fr 20,a_ fr 21,a_ fr 22,a_ fr 23,a_ fr 24,a_ fr 25],[]⟩∧Has s0.bs.length S st [.aP y 2 (((l.take i).flatMap dP).map ax)]∧(i+mm=l.length)∧((l.take i).flatMap dP=[]→y=.nul)) (l.length) ?_ ?_
 ·exact⟨0,.nul,rfl,hH,by omega,fun _=>rfl⟩
 rintro mm fr st ⟨i,y,hfr,hH,hi,Ql⟩;rw[hfr];clear hfr;generalize a_ fr=ee;clear fr;refine qq<|qj fun K hK=>qg ?_;refine qe hK ?_;have hm:=hfi i;refine qq ?_;refine ab.cond (by rfl) (fun h1=>?_) (fun h1=>?_)<;>try simp only[decide_eq_true_eq,decide_eq_false_iff_not] at h1
 ·refine ab.skip ?_
  obtain⟨q,hq⟩:∃q,l[i]?=some q:=⟨l[i]'(by omega),List.getElem?_eq_getElem _⟩
  have hr:=fH hq
  have yK:(l.take (i+1)).flatMap dP=(l.take i).flatMap dP++dP q:=by
   rw[List.take_add_one,hq];simp
  have hrq:=pN q;refine qq<|ab.block<|qq<|qj fun K hK=>qr fun p14 WB=>?_;refine aa.db rfl (ev rfl) (by assumption) rfl (by dsimp only[Fr.put,u1,u2]<;>rfl) ?_;refine qa hH fun k6 st Me hH=>?_;refine qS hH aB fun st hH=>?_;dsimp only[u2,u1,u3,u4,setMany,u5,u6,D.cells,Nat.reduceAdd,ax] at hH;refine qe hK<|qj fun K hK=>qm ?_;refine aa.aT (m:=2) hH rfl (ev rfl) (by exact aB) (by dsimp only[List.drop_succ_cons,List.drop_zero,List.take_succ_cons,List.take_zero,ax]<;>rfl) rfl rfl (by dsimp only[Fr.put,u1,u2]<;>rfl) ?_;refine qv (Cr q) ?_;refine aa.D0 hH rfl rfl rfl (by exact bF) (fR _ _) rfl rfl rfl rfl rfl rfl rfl ⟨(Nat.le_of_ble_eq_true rfl),(Nat.le_of_ble_eq_true rfl)⟩ (fun _=>by dsimp only[Fr.put,u1,u2]<;>rfl) (by simp only[List.length_map];omega) (.inl hF) (fun Rf st S8 hH=>?_);dsimp only[u2,u1] at hH;refine qm ?_;refine qe hK<|qj fun K hK=>qA ?_;refine qm ?_;refine qe hK ?_;exact⟨mm-1,by omega,⟨i+1,Rf,rfl,(by rw[yK,List.map_append];exact hH.drop 1),by omega,by rw[yK];intro h;obtain⟨h3,h4⟩:=List.append_eq_nil_iff.1 h;rw[S8 (by rw[h4];rfl)];exact Ql h3⟩⟩
 ·refine ab.exit ?_;have hT:l.take i=l:=List.take_of_length_le (by omega);rw[hT] at hH Ql hm
  obtain⟨st2,all,aK,U9,hperm,oJ⟩:=DY hH aB Ql (by omega) (fun z hz=>by
   obtain⟨w,_,hw⟩:=List.mem_flatMap.1 hz
   exact AK w z hw)
  have hlen:=hperm.length_eq
  have hbd:∀z∈all,0≤z.2∧z.2≤1114111:=fun z hz=>by
   obtain⟨w,_,hw⟩:=List.mem_flatMap.1 (hperm.mem_iff.1 hz);have:=nG w z hw;omega
  refine qq<|qj fun K hK=>qm ?_;refine qv (aK) ?_;refine qe hK ?_;have hH:=U9;dsimp only[u2] at hH;clear U9 aK;have hR:=hH.rows aB;have hH:=hH.d_ 2;refine qq<|qq<|qj fun K hK=>qm ?_;refine qn ?_ (hR:=hH.rows bF);simp only[List.length_map];refine qm ?_;refine qe hK<|ab.block<|ab.loop (fun mm fr st=>∃(i:Nat) (z:D),fr.clean=⟨26,[x,a_ fr 1,a_ fr 2,y,z,a_ fr 5,a_ fr 6,a_ fr 7,a_ fr 8,a_ fr 9,a_ fr 10,a_ fr 11,a_ fr 12,a_ fr 13,a_ fr 14,a_ fr 15,a_ fr 16,a_ fr 17,a_ fr 18,a_ fr 19,a_ fr 20,a_ fr 21,a_ fr 22,y,.int .i64 (all.length:Nat),.int .i64 (i:Nat)],[]⟩∧Has s0.bs.length S st [.aP z 2 (((all.take i).foldl dD []).reverse.map ax),.aP y 2 (all.map ax)]∧(i+mm=all.length)) (all.length) ?_ ?_
  ·exact⟨0,.nul,rfl,hH,by omega⟩
  rintro mm fr st ⟨i,z,hfr,hH,hi⟩;rw[hfr];clear hfr;generalize a_ fr=ee;clear fr;refine qq<|qj fun K hK=>qg ?_;refine qe hK ?_
  have jq:((all.take i).foldl dD []).length≤all.length:=by
   have:=qN (all.take i);simp only[List.length_take] at this;omega
  refine qq ?_;refine ab.cond (by rfl) (fun h1=>?_) (fun h1=>?_)<;>try simp only[decide_eq_true_eq,decide_eq_false_iff_not] at h1
  ·refine ab.skip ?_
   obtain⟨q,hq⟩:∃q,all[i]?=some q:=⟨all[i]'(by omega),List.getElem?_eq_getElem _⟩
   have hr:=fH hq
   have Qw:(all.take (i+1)).foldl dD []=dD ((all.take i).foldl dD []) q:=by
    rw[List.take_add_one,hq,List.foldl_append];rfl
   generalize iI:(all.take i).foldl dD []=acc at*;refine qq<|ab.block<|qq<|qj fun K hK=>qi hH bF fun p27 Wx=>?_;refine aa.tS hH rfl (ev rfl) (by assumption) (by exact bF) (by assumption) rfl (ah rfl _) ?_;refine qa hH fun k8 st Rx hH=>?_;refine qS hH aB fun st hH=>?_;dsimp only[u2,u1,u3,u4,setMany,u5,u6,D.cells,Nat.reduceAdd,ax] at hH;refine qe hK ?_
   rcases acc with _|⟨h,t⟩
   ·refine qq<|qj fun K hK=>qm ?_;refine qn ?_ (hR:=hH.rows bF);simp only[List.length_map,List.length_nil,List.length_reverse];refine aa.oS (z:=(-1)) rfl (ev rfl) (ev rfl) (by rw[wrap_i64 (by omega) (by omega)]<;>omega) (ah rfl _) ?_;refine qm ?_;refine qe hK ?_;have bj:decide ((-1:Int)≥0)=false:=by decide
    refine qq<|ab.kB 44 (.bool false) [] ?_ (fun ff tmp hU=>?_)
    ·refine qm ?_;refine qg ?_;refine qm ?_;refine qs ?_ (hg:=wn bj);refine qs ?_ (hg:=wn bj);refine qs ?_ (hg:=wn bj);refine qs ?_ (hg:=wn bj);refine qs ?_ (hg:=wn bj);refine qs ?_ (hg:=wn bj);refine qs ?_ (hg:=wn bj);refine qs ?_ (hg:=wn bj);refine qs ?_ (hg:=wn bj);refine qu bj ?_;refine aa.nil (c_ ?_ ?_)
     ·dsimp only[aR,List.foldl,nth,u2,u1]
      all_goals(first|rfl|simp)
     ·dsimp only[Fr.aj,Fr.put,Fr.clean,Fr.ev,Fr.get,nth,look,u1,u2,v1,v2,v4]
      all_goals(rfl)
    dsimp only[aR,List.foldl,nth,u2,u1];dsimp only[Fr.aj,Fr.put,Fr.clean,Fr.ev,Fr.get,nth,look,u1,u2,v1,v2,v4];refine qC ?_;refine qj fun K hK=>qm ?_;refine aa.aT (m:=2) hH rfl (ev rfl) (by exact aB) (by dsimp only[List.drop_succ_cons,List.drop_zero,List.take_succ_cons,List.take_zero,ax]<;>rfl) rfl rfl (ah rfl _) ?_;refine qh (s:=2) (vs:=[_]) hH fun k59 st WO hH=>?_;refine aa.bO (s:=2) hH rfl (ev rfl) (ev rfl) (by exact dL) (by exact hH.rows (by exact aB)) rfl rfl rfl rfl rfl rfl rfl ⟨(Nat.le_of_ble_eq_true rfl),(Nat.le_of_ble_eq_true rfl)⟩ (fun _=>(ah rfl _)) (by simp only[List.length_cons,List.length_nil,List.length_map,List.length_reverse]<;>omega) (by exact .inl hF) (fun Vc st hH=>?_);dsimp only[u2,u1,u3,u4,setMany,u5,u6,D.cells,Nat.reduceAdd,ax] at hH;refine qm ?_;refine qe hK<|qj fun K hK=>qA ?_;refine qm ?_;refine qe hK ?_;exact⟨mm-1,by omega,⟨i+1,Vc,rfl,(by rw[Qw];exact hH.drop 2),by omega⟩⟩
   ·simp only[List.length_cons] at jq;refine qq<|qj fun K hK=>qm ?_;refine qn ?_ (hR:=hH.rows bF);simp only[List.length_map,List.length_cons,List.length_reverse];refine aa.oS (z:=((t.length:Nat):Int)) rfl (ev rfl) (ev rfl) (by rw[wrap_i64 (by omega) (by omega)]<;>omega) (ah rfl _) ?_;refine qm ?_;refine qe hK ?_;have z_:=Dj h t;have gT:=Di h (h.1,max h.2 q.2) t;have Ac:=KY (l:=all.take i) (fun x hx=>hbd x (List.mem_of_mem_take hx)) h (by rw[iI];exact List.mem_cons_self ..);have bj:decide (((t.length:Nat):Int)≥0)=true:=by rw[decide_eq_true];omega
    refine qq<|ab.kB 44 (.bool (decide (q.1≤h.2+1))) [] ?_ (fun ff tmp hU=>?_)
    ·refine qm ?_;refine qg ?_;refine qm ?_;refine qp (o:=0) ?_ (hg:=wi bj);refine ql hH aB ?_ (hg:=wi bj);refine qm ?_ (hg:=wi bj);refine qm ?_ (hg:=wi bj);refine qi hH bF (fun Y4 SZ=>?_) (hg:=wi bj);refine aa.gC (fo:=1) (m:=0) (o2:=1) (aD rfl rfl rfl bj) (ev rfl) (by assumption) rfl rfl rfl (fun _=>(ah rfl _)) (fun p40 Wu=>?_);refine qo hH bF ?_ (hg:=wi bj);refine aa.Rb (aD rfl rfl rfl bj) (ev rfl) (ev rfl) (by omega) (by omega) (ah rfl _) ?_;refine qg ?_ (hg:=wi bj);refine qt bj ?_;refine aa.nil (c_ ?_ ?_)
     ·dsimp only[aR,List.foldl,nth,u2,u1]
      all_goals(first|rfl|simp)
     ·dsimp only[Fr.aj,Fr.put,Fr.clean,Fr.ev,Fr.get,nth,look,u1,u2,v1,v2,v4]
      all_goals(rfl)
    dsimp only[aR,List.foldl,nth,u2,u1];dsimp only[Fr.aj,Fr.put,Fr.clean,Fr.ev,Fr.get,nth,look,u1,u2,v1,v2,v4];refine ab.cond (by assumption) (fun h2=>?_) (fun h2=>?_)<;>try simp only[decide_eq_true_eq,decide_eq_false_iff_not] at h2
    ·refine qj fun K hK=>qm ?_;refine qm ?_;refine qm ?_;refine qm ?_;refine qi hH bF fun Y3 SY=>?_;refine aa.gC (fo:=1) (m:=0) (o2:=1) rfl (ev rfl) (by assumption) rfl rfl rfl (fun _=>(ah rfl _)) (fun Y2 SX=>?_);refine qo hH bF ?_;refine qp (o:=1) ?_;refine ql hH aB ?_;refine aa.KR (t1:=0) (t2:=0) rfl (ev rfl) (ev rfl) (ah rfl _) ?_;refine qi hH bF fun p55 Wp=>?_;refine aa.gC (fo:=1) (m:=0) (o2:=1) rfl (ev rfl) (by assumption) rfl rfl rfl (fun _=>(ah rfl _)) (fun p56 Wo=>?_);refine aa.l4 hH rfl (ev rfl) (ev rfl) (by assumption) rfl rfl (by exact bF) (by assumption) (Nat.le_of_ble_eq_true rfl) (by exact .inl hF) (fun st hH=>?_);dsimp only[u2,u1,u3,u4,setMany,u5,u6,D.cells,Nat.reduceAdd,ax] at hH;refine qe hK<|qj fun K hK=>qA ?_;refine qm ?_;refine qe hK ?_;exact⟨mm-1,by omega,⟨i+1,z,rfl,(by rw[Qw];simp only[dD,if_pos h2];rw[←gT];exact hH.drop 1),by omega⟩⟩
    ·refine qj fun K hK=>qm ?_;refine aa.aT (m:=2) hH rfl (ev rfl) (by exact aB) (by dsimp only[List.drop_succ_cons,List.drop_zero,List.take_succ_cons,List.take_zero,ax]<;>rfl) rfl rfl (ah rfl _) ?_;refine qh (s:=2) (vs:=[_]) hH fun k59 st WO hH=>?_;refine aa.bO (s:=2) hH rfl (ev rfl) (ev rfl) (by exact dL) (by exact hH.rows (by exact aB)) rfl rfl rfl rfl rfl rfl rfl ⟨(Nat.le_of_ble_eq_true rfl),(Nat.le_of_ble_eq_true rfl)⟩ (fun _=>(ah rfl _)) (by simp only[List.length_cons,List.length_nil,List.length_map,List.length_reverse]<;>omega) (by exact .inl hF) (fun Vc st hH=>?_);dsimp only[u2,u1,u3,u4,setMany,u5,u6,D.cells,Nat.reduceAdd,ax] at hH;refine qm ?_;refine qe hK<|qj fun K hK=>qA ?_;refine qm ?_;refine qe hK ?_;exact⟨mm-1,by omega,⟨i+1,Vc,rfl,(by rw[Qw];simp only[dD,if_neg h2];rw[List.reverse_cons (a:=q),List.map_append];exact hH.drop 2),by omega⟩⟩
  ·refine ab.exit<|qq<|qj fun K hK=>qm ?_;refine qm ?_;refine qe hK ?_;rw[List.take_of_length_le (by omega)] at hH;refine ab.ret ⟨rx,_,_,rfl,rl bT hH ((hH.freeze aB (eH _) (n:=15) (by decide))),?_⟩;exact⟨all,by rw[iz],hperm,oJ⟩
def jk (fr:Go.V.Fr) (k:Nat):Go.V.D:=Go.V.nth .bp fr.loc k
def gB (l a:List Rg):Prop:=canon a∧∀r,fL a r↔nZ r∧fL l r
theorem gB.unique {l a b:List Rg} (h:gB l a) (g:gB l b):a=b:=nc h.1 g.1 fun r=>(h.2 r).trans (g.2 r).symm
noncomputable def fu (l:List Rg):Bool:=@decide (gB l l) (Classical.propDecidable _)
theorem AP {l a:List Rg} (h:gB l a):fu l=decide (l=a):=by
 unfold fu
 by_cases hl:l=a
 ·rw[decide_eq_true hl];exact@decide_eq_true _ (Classical.propDecidable _) (by rw[hl] at h⊢;exact h)
 ·rw[decide_eq_false hl];exact@decide_eq_false _ (Classical.propDecidable _) (fun g=>hl (g.unique h))
theorem A8 (p q:Rg):mi pv .neq 170 (.agg (ax p)) (.agg (ax q))=some (.bool (!decide (p=q))):=by
 have h:∀a b a' b':Int,mi pv .neq 170 (.agg [.int .i32 a,.int .i32 b]) (.agg [.int .i32 a',.int .i32 b'])=Option.map (fun b=>D.bool !b) (match some (a==a') with|some true=>(match some (b==b') with|some true=>some true|some false=>some false|none=>none)|some false=>some false|none=>none):=fun _ _ _ _=>rfl;obtain⟨a,b⟩:=p;obtain⟨a',b'⟩:=q;simp only[ax,h]
 by_cases h1:a=a'
 ·subst h1
  by_cases h2:b=b'
  ·subst h2;simp
  ·have:(b==b')=false:=by simpa using h2
   simp[this,h2]
 ·have:(a==a')=false:=by simpa using h1
  simp[this,h1]
theorem tF {α:Type} {a b:List α} {i:Nat} {x y:α} (ha:a[i]?=some x) (hb:b[i]?=some y) (h:a.take i=b.take i) (Sz:x=y):a.take (i+1)=b.take (i+1):=by
 rw[List.take_add_one,List.take_add_one,h,ha,hb,Sz]
theorem A9 {α:Type} {a b:List α} {i:Nat} {x y:α} (ha:a[i]?=some x) (hb:b[i]?=some y) (Sz:¬x=y):¬a=b:=by
 intro h;subst h;rw[ha] at hb;exact Sz (Option.some.inj hb)
theorem D7 {s0:St} {x y:D} {l m:List Rg} (hx:V.Rows s0 2 x (l.map ax)) (hy:V.Rows s0 2 y (m.map ax)) (hl:l.length≤1073741824) (hm:m.length≤1073741824):Ev pv 145 [x,y] s0 (.bool (decide (l=m))) s0:=by
 refine Ev.iS rfl Ue rfl rfl rfl ?_;dsimp only[u3,u4,List.length,Nat.reduceSub,Nat.reduceAdd,w1,w2];obtain⟨bT,hF,hH⟩:=ri s0;generalize ag .ro s0=S at*;have hx:=Arg.of hx bT;have hy:=Arg.of hy bT;refine qq<|qj fun K hK=>qm ?_;refine qe hK<|qq<|qq<|qj fun K hK=>qm ?_;refine qn ?_;simp only[List.length_map];refine qm ?_;refine qn ?_;simp only[List.length_map];refine qg ?_;refine qe hK ?_
 by_cases hlen:l.length=m.length
 ·refine ab.cond (v:=false) ?_ (fun h=>by cases h) (fun _=>?_)
  ·dsimp only[Fr.ev,Fr.get,nth,V.look];rw[hlen];simp
  refine ab.skip<|qq<|qq<|qj fun K hK=>qm ?_;refine qn ?_;simp only[List.length_map];refine qm ?_;refine qe hK<|ab.block<|ab.loop (fun mm fr st=>∃(i:Nat),fr.clean=⟨14,[x,y,jk fr 2,jk fr 3,.bool false,jk fr 5,jk fr 6,jk fr 7,jk fr 8,jk fr 9,jk fr 10,jk fr 11,.int .i64 (l.length:Nat),.int .i64 (i:Nat)],[]⟩∧Has s0.bs.length S st []∧(i+mm=l.length)∧(l.take i=m.take i)) (l.length) ?_ ?_
  ·exact⟨0,rfl,hH,by omega,rfl⟩
  rintro mm fr st ⟨i,hfr,hH,hi,ht⟩;rw[hfr];clear hfr;generalize jk fr=ee;clear fr;refine qq<|qj fun K hK=>qg ?_;refine qe hK<|qq ?_;refine ab.cond (by rfl) (fun h1=>?_) (fun h1=>?_)<;>try simp only[decide_eq_true_eq,decide_eq_false_iff_not] at h1
  ·refine ab.skip ?_
   obtain⟨p,hp⟩:∃p,l[i]?=some p:=⟨l[i]'(by omega),List.getElem?_eq_getElem _⟩
   obtain⟨q,hq⟩:∃q,m[i]?=some q:=⟨m[i]'(by omega),List.getElem?_eq_getElem _⟩
   have gJ:=fH hp;have o3:=fH hq;refine qq<|ab.block<|qq<|qj fun K hK=>qm ?_;refine qm ?_;refine qe hK<|qq<|qj fun K hK=>qm ?_;refine qm ?_;refine qr fun Vw Qi=>?_;refine aa.db rfl (ev rfl) (by assumption) rfl (ah rfl _) ?_;refine qm ?_;refine qm ?_;refine qr fun Vv Qh=>?_;refine aa.db rfl (ev rfl) (by assumption) rfl (ah rfl _) ?_;refine aa.VC rfl (ev rfl) (ev rfl) (A8 p q) (ah rfl _) ?_;refine qe hK ?_;refine ab.cond (by rfl) (fun h2=>?_) (fun h2=>?_)<;>try simp only[decide_eq_true_eq,decide_eq_false_iff_not,Bool.not_eq_true',Bool.not_eq_false'] at h2
   ·refine qq<|qj fun K hK=>qm ?_;refine qe hK ?_;rw[decide_eq_false (A9 hp hq (by simpa using h2))];refine ab.ret ⟨rx,_,rfl,rl bT hH (rfl)⟩
   ·refine ab.skip<|qj fun K hK=>qA ?_;refine qm ?_;refine qe hK ?_;exact⟨mm-1,by omega,⟨i+1,rfl,hH,by omega,tF hp hq ht (by simpa using h2)⟩⟩
  ·refine ab.exit<|qq<|qj fun K hK=>qm ?_;refine qe hK ?_;rw[decide_eq_true (by rw[List.take_of_length_le (by omega),List.take_of_length_le (by omega)] at ht;exact ht)];refine ab.ret ⟨rx,_,rfl,rl bT hH (rfl)⟩
 ·refine ab.cond (v:=true) ?_ (fun _=>?_) (fun h=>by cases h)
  ·dsimp only[Fr.ev,Fr.get,nth,V.look];simp;omega
  refine qq<|qj fun K hK=>qm ?_;refine qe hK ?_;rw[decide_eq_false (fun h=>hlen (by rw[h]))];refine ab.ret ⟨rx,_,rfl,rl bT hH (rfl)⟩
theorem vE {s0:St} {x:D} {l:List Rg} (hx:V.Rows s0 2 x (l.map ax)) (hl:l.length≤1048576):Ev pv 132 [x] s0 (.bool (fu l)) s0:=by
 refine Ev.iS rfl Um rfl rfl rfl ?_;dsimp only[u3,u4,List.length,Nat.reduceSub,Nat.reduceAdd,w1,w2];obtain⟨bT,hF,hH⟩:=ri s0;generalize ag .ro s0=S at*;have hx:=Arg.of hx bT;refine qq<|qj fun K hK=>qm ?_;refine qe hK ?_;obtain⟨_,aK,all,rfl,hperm,oJ⟩:=zT (hx.rows hH) (by omega);have hM:gB l (all.foldl dD []).reverse:=qI (fun x=>hperm.mem_iff) oJ;have hlen:=hperm.length_eq;have ml:=jb l;have jq:=qN all;rw[AP hM];refine qq<|qj fun K hK=>qm ?_;refine qm ?_;refine qv (aK) ?_;refine qv (D7 (hx.rows hH) (fR _ _) (by omega) (by rw[List.length_reverse];omega)) ?_;refine qm ?_;refine qe hK<|ab.ret ⟨rx,_,rfl,rl bT hH (rfl)⟩
structure aO where
 op:Int
 x:Int
 y:Int
 rd:D
 rs:List Rg
def aH (i:aO):List D:=[.int .i64 i.op,.int .i64 i.x,.int .i64 i.y,i.rd]
def aO.ok (i:aO):Prop:=eE i.rd 2 (i.rs.map ax)∧i.rs.length≤1048576
def ay (n:Int):List D:=[.int .i64 n]
structure Pg where
 cd:D
 code:List aO
 sd:D
 aw:List Int
structure Pg.ok (p:Pg):Prop where
 c:eE p.cd 4 (p.code.map aH)
 s:eE p.sd 1 (p.aw.map ay)
 i:∀x∈p.code,x.ok
 cl:p.code.length≤1048576
 sl:p.aw.length≤1048576
def Pg.cs (p:Pg):List D:=[p.cd,p.sd]
def Pg.d (p:Pg):D:=.agg p.cs
theorem gD {l:List aO} {i:Nat} {q:aO} (h:l[i]?=some q):(l.map aH)[i]?=some (aH q):=by rw[List.getElem?_map,h];rfl
theorem eO {l:List Int} {i:Nat} {q:Int} (h:l[i]?=some q):(l.map ay)[i]?=some (ay q):=by rw[List.getElem?_map,h];rfl
def qU (v n:Int):Bool:=decide (v≥0) &&decide (v<n)
noncomputable def dO (n ns pc:Nat) (i:aO):Bool:=
 if i.op=1 then i.y==0 &&(decide (((pc+1:Nat):Int)<n) &&i.x==0 &&fu i.rs)
 else i.rs.isEmpty &&
  (if i.op=2 then qU i.x n &&qU i.y n
  else i.y==0 &&
   (if i.op=3 then qU i.x n
   else if i.op=4 then decide (((pc+1:Nat):Int)<n) &&qU i.x 10
   else if i.op=5∨i.op=6 then decide (((pc+1:Nat):Int)<n) &&i.x==0
   else if i.op=7 then qU i.x ns
   else false))
theorem ig {s0:St} (v n:Int):Ev pv 105 [.int .i64 v,.int .i64 n] s0 (.bool (qU v n)) s0:=by
 refine Ev.iS rfl UC rfl rfl rfl ?_;dsimp only[u3,u4,List.length,Nat.reduceSub,Nat.reduceAdd,w1,w2];obtain⟨bT,hF,hH⟩:=ri s0;generalize ag .ro s0=S at*;refine qq<|qj fun K hK=>qm ?_;refine qe hK<|qq<|ab.mX 4 (.bool (decide (v≥0) &&decide (v<n))) [] ?_ (fun ff tmp=>?_)
 ·refine qm ?_;refine qg ?_;refine qm ?_;refine aa.two 7 rfl (fun bj=>?_) (fun bj=>?_)
  ·refine qm ?_ (hg:=wi bj);refine qm ?_ (hg:=wi bj);refine qg ?_ (hg:=wi bj);refine qt bj ?_;refine qm ?_;refine aa.nil (bf ?_);dsimp only[aR,List.foldl,nth,u2,u1];dsimp only[Fr.aj,Fr.put,Fr.clean,Fr.ev,Fr.get,nth,V.look,u1,u2,v1,v2,v3,v4,v5,v6,v7,List.length,u3,u4,Nat.reduceSub,Nat.reduceAdd,List.map]
   all_goals(simp[bj];done)
  ·refine qs ?_ (hg:=wn bj);refine qs ?_ (hg:=wn bj);refine qs ?_ (hg:=wn bj);refine qu bj ?_;refine qm ?_;refine aa.nil (bf ?_);dsimp only[aR,List.foldl,nth,u2,u1];dsimp only[Fr.aj,Fr.put,Fr.clean,Fr.ev,Fr.get,nth,V.look,u1,u2,v1,v2,v3,v4,v5,v6,v7,List.length,u3,u4,Nat.reduceSub,Nat.reduceAdd,List.map]
   all_goals(simp[bj];done)
 dsimp only[aR,List.foldl,nth,u2,u1];refine ab.ret ⟨rx,_,rfl,rl bT hH (rfl)⟩
theorem AE {s0:St} {p:Pg} {pc:Nat} {i:aO} (hp:p.ok) (hi:p.code[pc]?=some i):Ev pv 104 [p.d,.int .i64 (pc:Nat)] s0 (.bool (dO p.code.length p.aw.length pc i)) s0:=by
 refine Ev.iS rfl UD rfl rfl rfl ?_;dsimp only[u3,u4,List.length,Nat.reduceSub,Nat.reduceAdd,w1,w2];obtain⟨bT,hF,hH⟩:=ri s0;generalize ag .ro s0=S at*;have hc:=hp.c.arg s0.bs.length S;have hs:=hp.s.arg s0.bs.length S;have Mf:=hp.i i (List.mem_of_getElem? hi);have WY:=Mf.1.arg s0.bs.length S;have hil:=Mf.2;have hcl:=hp.cl;have iT:=hp.sl;have hr:=gD hi;have hlt:=bH hi;unfold Pg.d;refine qq<|qj fun K hK=>qb hH fun k2 st hk2 hH=>?_;dsimp only[u2,u1,u3,u4,setMany,u5,u6,D.cells,Nat.reduceAdd,Pg.cs,aH,ay] at hH;refine qm ?_;refine qe hK<|qq<|qj fun K hK=>qp (o:=0) ?_;refine ql hH aB ?_;refine qm ?_;refine qr fun Sc DH=>?_;refine aa.db rfl (ev rfl) (by assumption) rfl (by dsimp only[Fr.put,u1,u2]<;>rfl) ?_;refine qa hH fun k5 st Aa hH=>?_;refine qS hH aB fun st hH=>?_;dsimp only[u2,u1,u3,u4,setMany,u5,u6,D.cells,Nat.reduceAdd,Pg.cs,aH,ay] at hH;refine qe hK<|qq<|qj fun K hK=>qm ?_;refine qA ?_;refine qp (o:=0) ?_;refine ql hH bF ?_;refine qn ?_;simp only[List.length_map];refine qg ?_;refine qm ?_;refine qe hK<|qq<|qq<|ab.mX 36 (.bool (((i.op !=1) &&decide ((i.rs.length:Int)>0))||((i.op !=2) &&(i.y !=0)))) [18,19,20,21,22,23,24,25,26,27,28,29,30,31,32,33,34,35] ?_ (fun ff tmp=>?_)
 ·refine qp (o:=0) ?_;refine ql hH aB ?_;refine qg ?_;refine qm ?_;refine aa.two 21 rfl (fun bP=>?_) (fun bP=>?_)
  ·refine qp (o:=3) ?_ (hg:=wi bP);refine ql hH aB ?_ (hg:=wi bP);refine qn ?_ (hg:=wi bP);simp only[List.length_map];refine qg ?_ (hg:=wi bP);refine qt bP ?_;refine qm ?_;refine aa.two 27 rfl (fun cH=>?_) (fun cH=>?_)
   ·refine qs ?_ (hg:=wn cH);refine qs ?_ (hg:=wn cH);refine qs ?_ (hg:=wn cH);refine qs ?_ (hg:=wn cH);refine qs ?_;refine qs ?_;refine qs ?_;refine qs ?_ (hg:=wn cH);refine qt cH ?_;refine aa.nil (bf ?_);dsimp only[aR,List.foldl,nth,u2,u1];dsimp only[Fr.aj,Fr.put,Fr.clean,Fr.ev,Fr.get,nth,V.look,u1,u2,v1,v2,v3,v4,v5,v6,v7,List.length,u3,u4,Nat.reduceSub,Nat.reduceAdd,List.map]
    all_goals(simp_all;done)
   ·refine qp (o:=0) ?_ (hg:=wi cH);refine ql hH aB ?_ (hg:=wi cH);refine qg ?_ (hg:=wi cH);refine qm ?_ (hg:=wi cH);refine aa.two 31 rfl (fun cZ=>?_) (fun cZ=>?_)
    ·refine qp (o:=2) ?_ (hg:=wi cZ);refine ql hH aB ?_ (hg:=wi cZ);refine qg ?_ (hg:=wi cZ);refine aa.eJ (aD rfl rfl rfl cH) rfl cZ (by dsimp only[Fr.put,u1,u2]<;>rfl) ?_;refine qu cH ?_;refine aa.nil (bf ?_);dsimp only[aR,List.foldl,nth,u2,u1];dsimp only[Fr.aj,Fr.put,Fr.clean,Fr.ev,Fr.get,nth,V.look,u1,u2,v1,v2,v3,v4,v5,v6,v7,List.length,u3,u4,Nat.reduceSub,Nat.reduceAdd,List.map]
     all_goals(simp_all;done)
    ·refine qs ?_ (hg:=wn cZ);refine qs ?_ (hg:=wn cZ);refine qs ?_ (hg:=wn cZ);refine aa.dA (aD rfl rfl rfl cH) rfl cZ (by dsimp only[Fr.put,u1,u2]<;>rfl) ?_;refine qu cH ?_;refine aa.nil (bf ?_);dsimp only[aR,List.foldl,nth,u2,u1];dsimp only[Fr.aj,Fr.put,Fr.clean,Fr.ev,Fr.get,nth,V.look,u1,u2,v1,v2,v3,v4,v5,v6,v7,List.length,u3,u4,Nat.reduceSub,Nat.reduceAdd,List.map]
     all_goals(simp_all;done)
  ·refine qs ?_ (hg:=wn bP);refine qs ?_ (hg:=wn bP);refine qs ?_ (hg:=wn bP);refine qs ?_ (hg:=wn bP);refine qu bP ?_;refine qm ?_;refine qp (o:=0) ?_;refine ql hH aB ?_;refine qg ?_;refine qm ?_;refine aa.two 31 rfl (fun cZ=>?_) (fun cZ=>?_)
   ·refine qp (o:=2) ?_ (hg:=wi cZ);refine ql hH aB ?_ (hg:=wi cZ);refine qg ?_ (hg:=wi cZ);refine qt cZ ?_;refine qg ?_;refine aa.nil (bf ?_);dsimp only[aR,List.foldl,nth,u2,u1];dsimp only[Fr.aj,Fr.put,Fr.clean,Fr.ev,Fr.get,nth,V.look,u1,u2,v1,v2,v3,v4,v5,v6,v7,List.length,u3,u4,Nat.reduceSub,Nat.reduceAdd,List.map]
    all_goals(simp[bP,cZ];done)
   ·refine qs ?_ (hg:=wn cZ);refine qs ?_ (hg:=wn cZ);refine qs ?_ (hg:=wn cZ);refine qu cZ ?_;refine qg ?_;refine aa.nil (bf ?_);dsimp only[aR,List.foldl,nth,u2,u1];dsimp only[Fr.aj,Fr.put,Fr.clean,Fr.ev,Fr.get,nth,V.look,u1,u2,v1,v2,v3,v4,v5,v6,v7,List.length,u3,u4,Nat.reduceSub,Nat.reduceAdd,List.map]
    all_goals(simp[bP,cZ];done)
 dsimp only[aR,List.foldl,nth,u2,u1];generalize ff 18=e18;generalize ff 19=e19;generalize ff 20=e20;generalize ff 21=e21;generalize ff 22=e22;generalize ff 23=e23;generalize ff 24=e24;generalize ff 25=e25;generalize ff 26=e26;generalize ff 27=e27;generalize ff 28=e28;generalize ff 29=e29;generalize ff 30=e30;generalize ff 31=e31;generalize ff 32=e32;generalize ff 33=e33;generalize ff 34=e34;generalize ff 35=e35;have Td:(i.rs.isEmpty=!decide ((i.rs.length:Int)>0)):=by cases i.rs<;>simp<;>omega
 have hsh:dO p.code.length p.aw.length pc i=if((i.op !=1) &&decide ((i.rs.length:Int)>0))||((i.op !=2) &&(i.y !=0)) then false else
   (if i.op=1 then(decide (((pc+1:Nat):Int)<p.code.length) &&i.x==0) &&fu i.rs
   else if i.op=2 then qU i.x p.code.length &&qU i.y p.code.length
   else if i.op=3 then qU i.x p.code.length
   else if i.op=4 then decide (((pc+1:Nat):Int)<p.code.length) &&qU i.x 10
   else if i.op=5 then decide (((pc+1:Nat):Int)<p.code.length) &&i.x==0
   else if i.op=6 then decide (((pc+1:Nat):Int)<p.code.length) &&i.x==0
   else if i.op=7 then qU i.x p.aw.length
   else false):=by
  unfold dO;rw[Td];generalize decide ((i.rs.length:Int)>0)=b
  by_cases h1:i.op=1
  ·have h2:i.op≠2:=by omega
   simp only[h1];cases b<;>by_cases hy:i.y=0<;>simp[hy]
  ·by_cases h2:i.op=2
   ·simp only[h2];cases b<;>simp
   ·by_cases ZU:i.op=5
    ·simp only[ZU];cases b<;>by_cases hy:i.y=0<;>simp[hy]
    ·cases b<;>by_cases hy:i.y=0<;>simp[h1,h2,ZU,hy]
 rw[hsh];refine qc (fun h0=>?_) (fun h0=>?_)<;>try simp only[cs] at h0
 ·refine qq<|qj fun K hK=>qm ?_;refine qe hK ?_;rw[if_pos h0];refine ab.ret ⟨rx,_,rfl,rl bT hH (rfl)⟩
 ·rw[if_neg (by rw[h0];simp)];refine ab.skip<|qq<|qq<|qj fun K hK=>qp (o:=0) ?_;refine ql hH aB ?_;refine qe hK<|ab.block<|qq<|qj fun K hK=>qg ?_;refine qm ?_;refine qe hK ?_;refine ab.cond (by rfl) (fun h1=>?_) (fun h1=>?_)<;>try simp only[beq_iff_eq,beq_eq_false_iff_ne,ne_eq] at h1
  ·rw[if_pos h1];refine qq<|ab.mX 4 (.bool ((decide (((pc+1:Nat):Int)<p.code.length) &&(i.x==0)) &&fu i.rs)) [] ?_ (fun ff tmp=>?_)
   ·refine qm ?_;refine qm ?_;refine aa.two 42 rfl (fun cW=>?_) (fun cW=>?_)
    ·refine qp (o:=1) ?_ (hg:=wi cW);refine ql hH aB ?_ (hg:=wi cW);refine qg ?_ (hg:=wi cW);refine qt cW ?_;refine qm ?_;refine aa.two 47 rfl (fun eP=>?_) (fun eP=>?_)
     ·refine qp (o:=3) ?_ (hg:=wi eP);refine ql hH aB ?_ (hg:=wi eP);refine qv (vE (WY.rows hH) hil) ?_ (hg:=wi eP);refine qt eP ?_;refine qm ?_;refine aa.nil (bf ?_);dsimp only[aR,List.foldl,nth,u2,u1];dsimp only[Fr.aj,Fr.put,Fr.clean,Fr.ev,Fr.get,nth,V.look,u1,u2,v1,v2,v3,v4,v5,v6,v7,List.length,u3,u4,Nat.reduceSub,Nat.reduceAdd,List.map]
      all_goals(simp[cW,eP];done)
     ·refine qs ?_ (hg:=wn eP);refine qs ?_ (hg:=wn eP);refine qs ?_ (hg:=wn eP);refine qu eP ?_;refine qm ?_;refine aa.nil (bf ?_);dsimp only[aR,List.foldl,nth,u2,u1];dsimp only[Fr.aj,Fr.put,Fr.clean,Fr.ev,Fr.get,nth,V.look,u1,u2,v1,v2,v3,v4,v5,v6,v7,List.length,u3,u4,Nat.reduceSub,Nat.reduceAdd,List.map]
      all_goals(simp[cW,eP];done)
    ·refine qs ?_ (hg:=wn cW);refine qs ?_ (hg:=wn cW);refine qs ?_ (hg:=wn cW);refine qu cW ?_;refine qm ?_;refine qs ?_;refine qs ?_;refine qs ?_;refine qg ?_;refine qm ?_;refine aa.nil (bf ?_);dsimp only[aR,List.foldl,nth,u2,u1];dsimp only[Fr.aj,Fr.put,Fr.clean,Fr.ev,Fr.get,nth,V.look,u1,u2,v1,v2,v3,v4,v5,v6,v7,List.length,u3,u4,Nat.reduceSub,Nat.reduceAdd,List.map]
     all_goals(simp[cW];done)
   dsimp only[aR,List.foldl,nth,u2,u1];refine ab.ret ⟨rx,_,rfl,rl bT hH (rfl)⟩
  ·rw[if_neg h1];refine qq<|qj fun K hK=>qg ?_;refine qm ?_;refine qe hK ?_;refine ab.cond (by rfl) (fun h2=>?_) (fun h2=>?_)<;>try simp only[beq_iff_eq,beq_eq_false_iff_ne,ne_eq] at h2
   ·rw[if_pos h2];refine qq<|ab.mX 4 (.bool (qU i.x p.code.length &&qU i.y p.code.length)) [] ?_ (fun ff tmp=>?_)
    ·refine qp (o:=1) ?_;refine ql hH aB ?_;refine qp (o:=0) ?_;refine ql hH bF ?_;refine qn ?_;simp only[List.length_map];refine qv (ig _ _) ?_;refine qm ?_;refine aa.two 60 rfl (fun eP=>?_) (fun eP=>?_)
     ·refine qp (o:=2) ?_ (hg:=wi eP);refine ql hH aB ?_ (hg:=wi eP);refine qp (o:=0) ?_ (hg:=wi eP);refine ql hH bF ?_ (hg:=wi eP);refine qn ?_ (hg:=wi eP);simp only[List.length_map];refine qv (ig _ _) ?_ (hg:=wi eP);refine qt eP ?_;refine qm ?_;refine aa.nil (bf ?_);dsimp only[aR,List.foldl,nth,u2,u1];dsimp only[Fr.aj,Fr.put,Fr.clean,Fr.ev,Fr.get,nth,V.look,u1,u2,v1,v2,v3,v4,v5,v6,v7,List.length,u3,u4,Nat.reduceSub,Nat.reduceAdd,List.map]
      all_goals(simp[eP];done)
     ·refine qs ?_ (hg:=wn eP);refine qs ?_ (hg:=wn eP);refine qs ?_ (hg:=wn eP);refine qs ?_ (hg:=wn eP);refine qs ?_ (hg:=wn eP);refine qs ?_ (hg:=wn eP);refine qu eP ?_;refine qm ?_;refine aa.nil (bf ?_);dsimp only[aR,List.foldl,nth,u2,u1];dsimp only[Fr.aj,Fr.put,Fr.clean,Fr.ev,Fr.get,nth,V.look,u1,u2,v1,v2,v3,v4,v5,v6,v7,List.length,u3,u4,Nat.reduceSub,Nat.reduceAdd,List.map]
      all_goals(simp[eP];done)
    dsimp only[aR,List.foldl,nth,u2,u1];refine ab.ret ⟨rx,_,rfl,rl bT hH (rfl)⟩
   ·rw[if_neg h2];refine qq<|qj fun K hK=>qg ?_;refine qm ?_;refine qe hK ?_;refine ab.cond (by rfl) (fun h3=>?_) (fun h3=>?_)<;>try simp only[beq_iff_eq,beq_eq_false_iff_ne,ne_eq] at h3
    ·rw[if_pos h3];refine qq<|qj fun K hK=>qp (o:=1) ?_;refine ql hH aB ?_;refine qp (o:=0) ?_;refine ql hH bF ?_;refine qn ?_;simp only[List.length_map];refine qv (ig _ _) ?_;refine qm ?_;refine qe hK<|ab.ret ⟨rx,_,rfl,rl bT hH (rfl)⟩
    ·rw[if_neg h3];refine qq<|qj fun K hK=>qg ?_;refine qm ?_;refine qe hK ?_;refine ab.cond (by rfl) (fun h4=>?_) (fun h4=>?_)<;>try simp only[beq_iff_eq,beq_eq_false_iff_ne,ne_eq] at h4
     ·rw[if_pos h4];refine qq<|ab.mX 4 (.bool (decide (((pc+1:Nat):Int)<p.code.length) &&qU i.x 10)) [] ?_ (fun ff tmp=>?_)
      ·refine qm ?_;refine qm ?_;refine aa.two 79 rfl (fun cW=>?_) (fun cW=>?_)
       ·refine qp (o:=1) ?_ (hg:=wi cW);refine ql hH aB ?_ (hg:=wi cW);refine qv (ig _ _) ?_ (hg:=wi cW);refine qt cW ?_;refine qm ?_;refine aa.nil (bf ?_);dsimp only[aR,List.foldl,nth,u2,u1];dsimp only[Fr.aj,Fr.put,Fr.clean,Fr.ev,Fr.get,nth,V.look,u1,u2,v1,v2,v3,v4,v5,v6,v7,List.length,u3,u4,Nat.reduceSub,Nat.reduceAdd,List.map]
        all_goals(simp[cW];done)
       ·refine qs ?_ (hg:=wn cW);refine qs ?_ (hg:=wn cW);refine qs ?_ (hg:=wn cW);refine qu cW ?_;refine qm ?_;refine aa.nil (bf ?_);dsimp only[aR,List.foldl,nth,u2,u1];dsimp only[Fr.aj,Fr.put,Fr.clean,Fr.ev,Fr.get,nth,V.look,u1,u2,v1,v2,v3,v4,v5,v6,v7,List.length,u3,u4,Nat.reduceSub,Nat.reduceAdd,List.map]
        all_goals(simp[cW];done)
      dsimp only[aR,List.foldl,nth,u2,u1];refine ab.ret ⟨rx,_,rfl,rl bT hH (rfl)⟩
     ·rw[if_neg h4];refine qq<|qq<|qj fun K hK=>qg ?_;refine qm ?_;refine qe hK ?_
      by_cases h5:i.op=5
      ·rw[if_pos h5];refine qD rfl (by simp[h5]) ?_;refine ab.skip<|qD rfl (by simp[h5]) ?_;refine qq<|ab.mX 4 (.bool (decide (((pc+1:Nat):Int)<p.code.length) &&(i.x==0))) [] ?_ (fun ff tmp=>?_)
       ·refine qm ?_;refine qm ?_;refine aa.two 88 rfl (fun cW=>?_) (fun cW=>?_)
        ·refine qp (o:=1) ?_ (hg:=wi cW);refine ql hH aB ?_ (hg:=wi cW);refine qg ?_ (hg:=wi cW);refine qt cW ?_;refine qm ?_;refine aa.nil (bf ?_);dsimp only[aR,List.foldl,nth,u2,u1];dsimp only[Fr.aj,Fr.put,Fr.clean,Fr.ev,Fr.get,nth,V.look,u1,u2,v1,v2,v3,v4,v5,v6,v7,List.length,u3,u4,Nat.reduceSub,Nat.reduceAdd,List.map]
         all_goals(simp[cW];done)
        ·refine qs ?_ (hg:=wn cW);refine qs ?_ (hg:=wn cW);refine qs ?_ (hg:=wn cW);refine qu cW ?_;refine qm ?_;refine aa.nil (bf ?_);dsimp only[aR,List.foldl,nth,u2,u1];dsimp only[Fr.aj,Fr.put,Fr.clean,Fr.ev,Fr.get,nth,V.look,u1,u2,v1,v2,v3,v4,v5,v6,v7,List.length,u3,u4,Nat.reduceSub,Nat.reduceAdd,List.map]
         all_goals(simp[cW];done)
       dsimp only[aR,List.foldl,nth,u2,u1];refine ab.ret ⟨rx,_,rfl,rl bT hH (rfl)⟩
      ·rw[if_neg h5];refine qE rfl (by simp[h5]) ?_;refine qj fun K hK=>qg ?_;refine qm ?_;refine qe hK ?_;refine ab.cond (by rfl) (fun h6=>?_) (fun h6=>?_)<;>try simp only[beq_iff_eq,beq_eq_false_iff_ne,ne_eq] at h6
       ·rw[if_pos h6];refine qq<|ab.mX 4 (.bool (decide (((pc+1:Nat):Int)<p.code.length) &&(i.x==0))) [] ?_ (fun ff tmp=>?_)
        ·refine qm ?_;refine qm ?_;refine aa.two 88 rfl (fun cW=>?_) (fun cW=>?_)
         ·refine qp (o:=1) ?_ (hg:=wi cW);refine ql hH aB ?_ (hg:=wi cW);refine qg ?_ (hg:=wi cW);refine qt cW ?_;refine qm ?_;refine aa.nil (bf ?_);dsimp only[aR,List.foldl,nth,u2,u1];dsimp only[Fr.aj,Fr.put,Fr.clean,Fr.ev,Fr.get,nth,V.look,u1,u2,v1,v2,v3,v4,v5,v6,v7,List.length,u3,u4,Nat.reduceSub,Nat.reduceAdd,List.map]
          all_goals(simp[cW];done)
         ·refine qs ?_ (hg:=wn cW);refine qs ?_ (hg:=wn cW);refine qs ?_ (hg:=wn cW);refine qu cW ?_;refine qm ?_;refine aa.nil (bf ?_);dsimp only[aR,List.foldl,nth,u2,u1];dsimp only[Fr.aj,Fr.put,Fr.clean,Fr.ev,Fr.get,nth,V.look,u1,u2,v1,v2,v3,v4,v5,v6,v7,List.length,u3,u4,Nat.reduceSub,Nat.reduceAdd,List.map]
          all_goals(simp[cW];done)
        dsimp only[aR,List.foldl,nth,u2,u1];refine ab.ret ⟨rx,_,rfl,rl bT hH (rfl)⟩
       ·rw[if_neg h6];refine qq<|qj fun K hK=>qg ?_;refine qm ?_;refine qe hK ?_;refine ab.cond (by rfl) (fun h7=>?_) (fun h7=>?_)<;>try simp only[beq_iff_eq,beq_eq_false_iff_ne,ne_eq] at h7
        ·rw[if_pos h7];refine qq<|qj fun K hK=>qp (o:=1) ?_;refine ql hH aB ?_;refine qp (o:=1) ?_;refine ql hH bF ?_;refine qn ?_;simp only[List.length_map];refine qv (ig _ _) ?_;refine qm ?_;refine qe hK<|ab.ret ⟨rx,_,rfl,rl bT hH (rfl)⟩
        ·rw[if_neg h7];refine ab.skip<|qq<|qj fun K hK=>qm ?_;refine qe hK<|ab.ret ⟨rx,_,rfl,rl bT hH (rfl)⟩
def bY (c:Nat):Int×Nat×Nat:=
 if c<128 then(0,0,0) else if c<194 then(-1,0,0) else if c<224 then(1,128,191) else if c=224 then(2,160,191) else if c=237 then(2,128,159)
 else if c<240 then(2,128,191) else if c=240 then(3,144,191) else if c<244 then(3,128,191) else if c=244 then(3,128,143) else(-1,0,0)
theorem KP (c:Nat) (st:St):Ev pv 103 [.int .u8 c] st (.tup [.int .i64 (bY c).1,.int .u8 (bY c).2.1,.int .u8 (bY c).2.2]) st:=by
 refine Ev.iS rfl UE rfl rfl rfl ?_;dsimp only[u3,u4,List.length,Nat.reduceSub,Nat.reduceAdd,w1,w2];refine qy ?_;(repeat refine qq ?_);(generalize hK:aI _ _ _ _=K);refine ab.br ?_;(repeat(refine xL ?_));refine aa.nil ?_;dsimp only[Fr.aj,Fr.put,Fr.clean,Fr.ev,Fr.get,nth,V.look,u1,u2,v1,v2,v3,v4,v5,v6,v7,List.length,u3,u4,Nat.reduceSub,Nat.reduceAdd,List.map];subst hK;refine qy ?_;refine ab.seq (ab.block ?_);refine qy ?_;(repeat refine qq ?_);(generalize hK:aI _ _ _ _=K);refine ab.br ?_;(repeat(refine xT ?_));refine aa.nil ?_;dsimp only[Fr.aj,Fr.put,Fr.clean,Fr.ev,Fr.get,nth,V.look,u1,u2,v1,v2,v3,v4,v5,v6,v7,List.length,u3,u4,Nat.reduceSub,Nat.reduceAdd,List.map];subst hK;refine qy ?_;(repeat refine qq ?_);refine qc (fun h1=>?_) (fun h1=>?_)<;>try simp only[cs] at h1
 ·(refine qy ?_);(repeat refine qq ?_);(generalize hK:aI _ _ _ _=K);refine ab.br ?_;(repeat(refine xL ?_));refine aa.nil ?_;dsimp only[Fr.aj,Fr.put,Fr.clean,Fr.ev,Fr.get,nth,V.look,u1,u2,v1,v2,v3,v4,v5,v6,v7,List.length,u3,u4,Nat.reduceSub,Nat.reduceAdd,List.map];subst hK;refine qy ?_;refine ab.ret ⟨rx,_,rfl,aJ (by simp) (by simp[ag]) ?_⟩;rw[show bY c=(0,0,0) by unfold bY;rw[if_pos (by omega)]];rfl
 (refine qy ?_);(repeat refine qq ?_);(generalize hK:aI _ _ _ _=K);refine ab.br ?_;(repeat(refine xT ?_));refine aa.nil ?_;dsimp only[Fr.aj,Fr.put,Fr.clean,Fr.ev,Fr.get,nth,V.look,u1,u2,v1,v2,v3,v4,v5,v6,v7,List.length,u3,u4,Nat.reduceSub,Nat.reduceAdd,List.map];subst hK;refine qy ?_;(repeat refine qq ?_);refine qc (fun h2=>?_) (fun h2=>?_)<;>try simp only[cs] at h2
 ·(refine qy ?_);(repeat refine qq ?_);(generalize hK:aI _ _ _ _=K);refine ab.br ?_;(repeat(refine xL ?_));refine aa.nil ?_;dsimp only[Fr.aj,Fr.put,Fr.clean,Fr.ev,Fr.get,nth,V.look,u1,u2,v1,v2,v3,v4,v5,v6,v7,List.length,u3,u4,Nat.reduceSub,Nat.reduceAdd,List.map];subst hK;refine qy ?_;refine ab.ret ⟨rx,_,rfl,aJ (by simp) (by simp[ag]) ?_⟩;rw[show bY c=(-1,0,0) by unfold bY;rw[if_neg (by omega),if_pos (by omega)]];rfl
 (refine qy ?_);(repeat refine qq ?_);(generalize hK:aI _ _ _ _=K);refine ab.br ?_;(repeat(refine xT ?_));refine aa.nil ?_;dsimp only[Fr.aj,Fr.put,Fr.clean,Fr.ev,Fr.get,nth,V.look,u1,u2,v1,v2,v3,v4,v5,v6,v7,List.length,u3,u4,Nat.reduceSub,Nat.reduceAdd,List.map];subst hK;refine qy ?_;(repeat refine qq ?_);refine qc (fun h3=>?_) (fun h3=>?_)<;>try simp only[cs] at h3
 ·(refine qy ?_);(repeat refine qq ?_);(generalize hK:aI _ _ _ _=K);refine ab.br ?_;(repeat(refine xL ?_));refine aa.nil ?_;dsimp only[Fr.aj,Fr.put,Fr.clean,Fr.ev,Fr.get,nth,V.look,u1,u2,v1,v2,v3,v4,v5,v6,v7,List.length,u3,u4,Nat.reduceSub,Nat.reduceAdd,List.map];subst hK;refine qy ?_;refine ab.ret ⟨rx,_,rfl,aJ (by simp) (by simp[ag]) ?_⟩;rw[show bY c=(1,128,191) by unfold bY;rw[if_neg (by omega),if_neg (by omega),if_pos (by omega)]];rfl
 (refine qy ?_);(repeat refine qq ?_);(generalize hK:aI _ _ _ _=K);refine ab.br ?_;(repeat(refine xT ?_));refine aa.nil ?_;dsimp only[Fr.aj,Fr.put,Fr.clean,Fr.ev,Fr.get,nth,V.look,u1,u2,v1,v2,v3,v4,v5,v6,v7,List.length,u3,u4,Nat.reduceSub,Nat.reduceAdd,List.map];subst hK;refine qy ?_;(repeat refine qq ?_);refine qc (fun h4=>?_) (fun h4=>?_)<;>try simp only[cs] at h4
 ·(refine qy ?_);(repeat refine qq ?_);(generalize hK:aI _ _ _ _=K);refine ab.br ?_;(repeat(refine xL ?_));refine aa.nil ?_;dsimp only[Fr.aj,Fr.put,Fr.clean,Fr.ev,Fr.get,nth,V.look,u1,u2,v1,v2,v3,v4,v5,v6,v7,List.length,u3,u4,Nat.reduceSub,Nat.reduceAdd,List.map];subst hK;refine qy ?_;refine ab.ret ⟨rx,_,rfl,aJ (by simp) (by simp[ag]) ?_⟩;rw[show bY c=(2,160,191) by unfold bY;rw[if_neg (by omega),if_neg (by omega),if_neg (by omega),if_pos (by omega)]];rfl
 (refine qy ?_);(repeat refine qq ?_);(generalize hK:aI _ _ _ _=K);refine ab.br ?_;(repeat(refine xT ?_));refine aa.nil ?_;dsimp only[Fr.aj,Fr.put,Fr.clean,Fr.ev,Fr.get,nth,V.look,u1,u2,v1,v2,v3,v4,v5,v6,v7,List.length,u3,u4,Nat.reduceSub,Nat.reduceAdd,List.map];subst hK;refine qy ?_;(repeat refine qq ?_);refine qc (fun h5=>?_) (fun h5=>?_)<;>try simp only[cs] at h5
 ·(refine qy ?_);(repeat refine qq ?_);(generalize hK:aI _ _ _ _=K);refine ab.br ?_;(repeat(refine xL ?_));refine aa.nil ?_;dsimp only[Fr.aj,Fr.put,Fr.clean,Fr.ev,Fr.get,nth,V.look,u1,u2,v1,v2,v3,v4,v5,v6,v7,List.length,u3,u4,Nat.reduceSub,Nat.reduceAdd,List.map];subst hK;refine qy ?_;refine ab.ret ⟨rx,_,rfl,aJ (by simp) (by simp[ag]) ?_⟩;rw[show bY c=(2,128,159) by unfold bY;rw[if_neg (by omega),if_neg (by omega),if_neg (by omega),if_neg (by omega),if_pos (by omega)]];rfl
 (refine qy ?_);(repeat refine qq ?_);(generalize hK:aI _ _ _ _=K);refine ab.br ?_;(repeat(refine xT ?_));refine aa.nil ?_;dsimp only[Fr.aj,Fr.put,Fr.clean,Fr.ev,Fr.get,nth,V.look,u1,u2,v1,v2,v3,v4,v5,v6,v7,List.length,u3,u4,Nat.reduceSub,Nat.reduceAdd,List.map];subst hK;refine qy ?_;(repeat refine qq ?_);refine qc (fun h6=>?_) (fun h6=>?_)<;>try simp only[cs] at h6
 ·(refine qy ?_);(repeat refine qq ?_);(generalize hK:aI _ _ _ _=K);refine ab.br ?_;(repeat(refine xL ?_));refine aa.nil ?_;dsimp only[Fr.aj,Fr.put,Fr.clean,Fr.ev,Fr.get,nth,V.look,u1,u2,v1,v2,v3,v4,v5,v6,v7,List.length,u3,u4,Nat.reduceSub,Nat.reduceAdd,List.map];subst hK;refine qy ?_;refine ab.ret ⟨rx,_,rfl,aJ (by simp) (by simp[ag]) ?_⟩;rw[show bY c=(2,128,191) by unfold bY;rw[if_neg (by omega),if_neg (by omega),if_neg (by omega),if_neg (by omega),if_neg (by omega),if_pos (by omega)]];rfl
 (refine qy ?_);(repeat refine qq ?_);(generalize hK:aI _ _ _ _=K);refine ab.br ?_;(repeat(refine xT ?_));refine aa.nil ?_;dsimp only[Fr.aj,Fr.put,Fr.clean,Fr.ev,Fr.get,nth,V.look,u1,u2,v1,v2,v3,v4,v5,v6,v7,List.length,u3,u4,Nat.reduceSub,Nat.reduceAdd,List.map];subst hK;refine qy ?_;(repeat refine qq ?_);refine qc (fun h7=>?_) (fun h7=>?_)<;>try simp only[cs] at h7
 ·(refine qy ?_);(repeat refine qq ?_);(generalize hK:aI _ _ _ _=K);refine ab.br ?_;(repeat(refine xL ?_));refine aa.nil ?_;dsimp only[Fr.aj,Fr.put,Fr.clean,Fr.ev,Fr.get,nth,V.look,u1,u2,v1,v2,v3,v4,v5,v6,v7,List.length,u3,u4,Nat.reduceSub,Nat.reduceAdd,List.map];subst hK;refine qy ?_;refine ab.ret ⟨rx,_,rfl,aJ (by simp) (by simp[ag]) ?_⟩;rw[show bY c=(3,144,191) by unfold bY;rw[if_neg (by omega),if_neg (by omega),if_neg (by omega),if_neg (by omega),if_neg (by omega),if_neg (by omega),if_pos (by omega)]];rfl
 (refine qy ?_);(repeat refine qq ?_);(generalize hK:aI _ _ _ _=K);refine ab.br ?_;(repeat(refine xT ?_));refine aa.nil ?_;dsimp only[Fr.aj,Fr.put,Fr.clean,Fr.ev,Fr.get,nth,V.look,u1,u2,v1,v2,v3,v4,v5,v6,v7,List.length,u3,u4,Nat.reduceSub,Nat.reduceAdd,List.map];subst hK;refine qy ?_;(repeat refine qq ?_);refine qc (fun h8=>?_) (fun h8=>?_)<;>try simp only[cs] at h8
 ·(refine qy ?_);(repeat refine qq ?_);(generalize hK:aI _ _ _ _=K);refine ab.br ?_;(repeat(refine xL ?_));refine aa.nil ?_;dsimp only[Fr.aj,Fr.put,Fr.clean,Fr.ev,Fr.get,nth,V.look,u1,u2,v1,v2,v3,v4,v5,v6,v7,List.length,u3,u4,Nat.reduceSub,Nat.reduceAdd,List.map];subst hK;refine qy ?_;refine ab.ret ⟨rx,_,rfl,aJ (by simp) (by simp[ag]) ?_⟩;rw[show bY c=(3,128,191) by unfold bY;rw[if_neg (by omega),if_neg (by omega),if_neg (by omega),if_neg (by omega),if_neg (by omega),if_neg (by omega),if_neg (by omega),if_pos (by omega)]];rfl
 (refine qy ?_);(repeat refine qq ?_);(generalize hK:aI _ _ _ _=K);refine ab.br ?_;(repeat(refine xT ?_));refine aa.nil ?_;dsimp only[Fr.aj,Fr.put,Fr.clean,Fr.ev,Fr.get,nth,V.look,u1,u2,v1,v2,v3,v4,v5,v6,v7,List.length,u3,u4,Nat.reduceSub,Nat.reduceAdd,List.map];subst hK;refine qy ?_;(repeat refine qq ?_);refine qc (fun h9=>?_) (fun h9=>?_)<;>try simp only[cs] at h9
 ·(refine qy ?_);(repeat refine qq ?_);(generalize hK:aI _ _ _ _=K);refine ab.br ?_;(repeat(refine xL ?_));refine aa.nil ?_;dsimp only[Fr.aj,Fr.put,Fr.clean,Fr.ev,Fr.get,nth,V.look,u1,u2,v1,v2,v3,v4,v5,v6,v7,List.length,u3,u4,Nat.reduceSub,Nat.reduceAdd,List.map];subst hK;refine qy ?_;refine ab.ret ⟨rx,_,rfl,aJ (by simp) (by simp[ag]) ?_⟩;rw[show bY c=(3,128,143) by unfold bY;rw[if_neg (by omega),if_neg (by omega),if_neg (by omega),if_neg (by omega),if_neg (by omega),if_neg (by omega),if_neg (by omega),if_neg (by omega),if_pos (by omega)]];rfl
 refine ab.skip ?_;refine qy ?_;(repeat refine qq ?_);(generalize hK:aI _ _ _ _=K);refine ab.br ?_;(repeat(refine xL ?_));refine aa.nil ?_;dsimp only[Fr.aj,Fr.put,Fr.clean,Fr.ev,Fr.get,nth,V.look,u1,u2,v1,v2,v3,v4,v5,v6,v7,List.length,u3,u4,Nat.reduceSub,Nat.reduceAdd,List.map];subst hK;refine qy ?_;refine ab.ret ⟨rx,_,rfl,aJ (by simp) (by simp[ag]) ?_⟩;rw[show bY c=(-1,0,0) by unfold bY;rw[if_neg (by omega),if_neg (by omega),if_neg (by omega),if_neg (by omega),if_neg (by omega),if_neg (by omega),if_neg (by omega),if_neg (by omega),if_neg (by omega)]];rfl
def gh:(left n r lo hi:Nat)→List UInt8→Nat×Nat×Bool
 |0,n,r,_,_,_=>(r,n,false)
 |left+1,n,r,lo,hi,[]=>(0,0,true)
 |left+1,n,r,lo,hi,x::xs=>if x.toNat<lo∨hi<x.toNat then(0,0,false) else gh left n (r*64+x.toNat %64) 128 191 xs
def c7:List UInt8→Nat×Nat×Bool
 |[]=>(0,0,false)
 |c::xs=>if(bY c.toNat).1<0 then(0,0,false)
   else gh (bY c.toNat).1.toNat ((bY c.toNat).1.toNat+1) (if(bY c.toNat).1>0 then c.toNat %(64/2^(bY c.toNat).1.toNat) else c.toNat) (bY c.toNat).2.1 (bY c.toNat).2.2 xs
theorem wc (c:Nat):(bY c).1=-1∨(bY c).1=0∨(bY c).1=1∨(bY c).1=2∨(bY c).1=3:=by
 unfold bY
 repeat' split
 all_goals simp
theorem uT {w a j:Nat} (ha:a<2^w) (hj:2^j-1<2^w):(BitVec.ofInt w (a:Int) &&&BitVec.ofInt w ((2^j-1:Nat):Int)).toNat=a %2^j:=by
 rw[bv_and ha hj,Nat.and_two_pow_sub_one_eq_mod]
theorem aG (b:List UInt8):(byteCells b).length=b.length:=by simp[byteCells]
theorem gF {b:List UInt8} {i:Nat} {y:UInt8} (h:b[i]?=some y):(byteCells b)[i]?=some [.int .u8 (y.toNat:Nat)]:=by
 simp[byteCells,h]
theorem kK (y:UInt8):y.toNat<256:=y.toNat_lt
theorem Vm {r y:Nat} (hr:r<33554432) (hy:y<256):bM .i32 ((BitVec.ofInt 32 (bM .i32 ((r:Int)*2^(min (Int.toNat 6) 32)))|||BitVec.ofInt 32 (bM .i32 (bM .u8 ((BitVec.ofInt 8 (y:Int) &&&BitVec.ofInt 8 63).toNat:Nat)))).toNat:Nat)=((r*64+y %64:Nat):Int):=by
 have h1:(BitVec.ofInt 8 (y:Int) &&&BitVec.ofInt 8 63).toNat=y %64:=uT (w:=8) (j:=6) hy (by decide);rw[h1]
 have h2:((r:Int)*2^(min (Int.toNat 6) 32))=((r*64:Nat):Int):=by
  have:(2:Int)^(min (Int.toNat 6) 32)=64:=by decide
  rw[this];simp
 rw[h2,du (k:=.i32) (m:=r*64) (by simp only[kA];omega),du (k:=.u8) (m:=y %64) (by simp only[kA];omega),du (k:=.i32) (m:=y %64) (by simp only[kA];omega)];rw[Mm (by omega) (by omega)]
 have h3:(r*64)|||(y %64)=r*64+y %64:=by
  have:=Nat.two_pow_add_eq_or_of_lt (i:=6) (b:=y %64) (by omega) r;have e:(2:Nat)^6=64:=by decide
  rw[e] at this;rw[Nat.mul_comm r 64,this]
 rw[h3,du (k:=.i32) (m:=r*64+y %64) (by simp only[kA];omega)]
theorem Sk {c j:Nat} (hc:c<256) (hj:j≤8) {m:Int} (hm:m=((2^j-1:Nat):Int)):bM .i32 ((BitVec.ofInt 32 (bM .i32 (c:Nat)) &&&BitVec.ofInt 32 m).toNat:Nat)=((c %2^j:Nat):Int):=by
 have h1:2^j≤2^8:=Nat.pow_le_pow_right (by omega) hj;rw[hm,du (k:=.i32) (m:=c) (by simp only[kA];omega),uT (w:=32) (by omega) (by omega)];have:c %2^j≤c:=Nat.mod_le _ _;rw[du (k:=.i32) (by simp only[kA];omega)]
theorem mask {c j:Nat} (hc:c<256) (hj:j≤8) {m:Int} (hm:m=((2^j-1:Nat):Int)):bM .i32 ((BitVec.ofInt IntKind.i32.bits (bM .i32 (c:Nat)) &&&BitVec.ofInt IntKind.i32.bits m).toNat:Nat)=((c %2^j:Nat):Int):=Sk hc hj hm
theorem six {r y:Nat} (hr:r<33554432) (hy:y<256):bM .i32 ((BitVec.ofInt IntKind.i32.bits (bM .i32 ((r:Int)*2^(min (Int.toNat 6) IntKind.i32.bits)))|||BitVec.ofInt IntKind.i32.bits (bM .i32 (bM .u8 ((BitVec.ofInt IntKind.u8.bits (y:Int) &&&BitVec.ofInt IntKind.u8.bits 63).toNat:Nat)))).toNat:Nat)=((r*64+y %64:Nat):Int):=Vm hr hy
theorem rk {st:St} {x:D} {b:List UInt8} (hb:Bytes st x b):Ev pv 56 [x] st (.tup [.int .i32 ((c7 b).1:Nat),.int .i64 ((c7 b).2.1:Nat),.bool (c7 b).2.2]) st:=by
 refine Ev.iS rfl X1 rfl rfl rfl ?_;dsimp only[u3,u4,List.length,Nat.reduceSub,Nat.reduceAdd,w1,w2];have ez:=hb.enter .ro;refine qy ?_;(repeat refine qq ?_);(generalize hK:aI _ _ _ _=K);refine ab.br ?_;(repeat(refine xL ?_));refine aa.nil ?_;dsimp only[Fr.aj,Fr.put,Fr.clean,Fr.ev,Fr.get,nth,V.look,u1,u2,v1,v2,v3,v4,v5,v6,v7,List.length,u3,u4,Nat.reduceSub,Nat.reduceAdd,List.map];subst hK;refine qy ?_;(repeat refine qq ?_);(generalize hK:aI _ _ _ _=K);refine ab.br ?_
 (refine xT ?_)
 refine aa.len rfl rfl rfl ez rfl ?_;(repeat(refine xT ?_));refine aa.nil ?_;dsimp only[Fr.aj,Fr.put,Fr.clean,Fr.ev,Fr.get,nth,V.look,u1,u2,v1,v2,v3,v4,v5,v6,v7,List.length,u3,u4,Nat.reduceSub,Nat.reduceAdd,List.map];subst hK;refine qy ?_;(repeat refine qq ?_);refine qc (fun h1=>?_) (fun h1=>?_)<;>try simp only[cs] at h1
 ·(refine qy ?_);(repeat refine qq ?_);(generalize hK:aI _ _ _ _=K);refine ab.br ?_;(repeat(refine xL ?_));refine aa.nil ?_;dsimp only[Fr.aj,Fr.put,Fr.clean,Fr.ev,Fr.get,nth,V.look,u1,u2,v1,v2,v3,v4,v5,v6,v7,List.length,u3,u4,Nat.reduceSub,Nat.reduceAdd,List.map];subst hK;refine qy ?_;refine ab.ret ⟨rx,_,rfl,aJ (by simp) (by simp[ag]) ?_⟩
  obtain rfl:b=[]:=by cases b with|nil=>rfl|cons c b=>simp[byteCells] at h1;omega
  rfl
 refine ab.skip ?_
 obtain⟨c,xs,rfl⟩:∃c xs,b=c::xs:=by cases b with|nil=>simp[byteCells] at h1|cons c b=>exact⟨c,b,rfl⟩
 obtain⟨k,lo,hi,hm⟩:∃k lo hi,bY c.toNat=(k,lo,hi):=⟨_,_,_,rfl⟩
 have WE:=KP c.toNat (ag .ro st);rw[hm] at WE;have hk:=wc c.toNat;rw[hm] at hk;have hc:=kK c;refine qy ?_;(repeat refine qq ?_);(generalize hK:aI _ _ _ _=K);refine ab.br ?_
 (refine xT ?_)
 refine aa.b9 rfl rfl rfl (fun _=>rfl) rfl rfl ez rfl rfl (by omega) rfl rfl (fun p=>?_);refine aa.iL rfl rfl rfl WE ?_;(repeat(first|refine xT ?_|refine xL ?_));refine aa.nil ?_;dsimp only[Fr.aj,Fr.put,Fr.clean,Fr.ev,Fr.get,nth,V.look,u1,u2,v1,v2,v3,v4,v5,v6,v7,List.length,u3,u4,Nat.reduceSub,Nat.reduceAdd,List.map];subst hK;refine qy ?_;(repeat refine qq ?_);(generalize hK:aI _ _ _ _=K);refine ab.br ?_;(repeat(refine xT ?_));refine aa.nil ?_;dsimp only[Fr.aj,Fr.put,Fr.clean,Fr.ev,Fr.get,nth,V.look,u1,u2,v1,v2,v3,v4,v5,v6,v7,List.length,u3,u4,Nat.reduceSub,Nat.reduceAdd,List.map];subst hK;refine qy ?_;(repeat refine qq ?_);refine qc (fun h2=>?_) (fun h2=>?_)<;>try simp only[cs] at h2
 ·(refine qy ?_);(repeat refine qq ?_);(generalize hK:aI _ _ _ _=K);refine ab.br ?_;(repeat(refine xL ?_));refine aa.nil ?_;dsimp only[Fr.aj,Fr.put,Fr.clean,Fr.ev,Fr.get,nth,V.look,u1,u2,v1,v2,v3,v4,v5,v6,v7,List.length,u3,u4,Nat.reduceSub,Nat.reduceAdd,List.map];subst hK;refine qy ?_;refine ab.ret ⟨rx,_,rfl,aJ (by simp) (by simp[ag]) ?_⟩;simp only[c7,hm];rw[if_pos h2];rfl
 refine ab.skip ?_;refine qy ?_;(repeat refine qq ?_);(generalize hK:aI _ _ _ _=K);refine ab.br ?_
 (refine xT ?_)
 refine aa.b9 rfl rfl rfl (fun _=>rfl) rfl rfl ez rfl rfl (by omega) rfl rfl (fun p=>?_);(repeat(first|refine xT ?_|refine xL ?_));refine aa.nil ?_;dsimp only[Fr.aj,Fr.put,Fr.clean,Fr.ev,Fr.get,nth,V.look,u1,u2,v1,v2,v3,v4,v5,v6,v7,List.length,u3,u4,Nat.reduceSub,Nat.reduceAdd,List.map];subst hK;refine qy ?_;(repeat refine qq ?_);(generalize hK:aI _ _ _ _=K);refine ab.br ?_;(repeat(refine xT ?_));refine aa.nil ?_;dsimp only[Fr.aj,Fr.put,Fr.clean,Fr.ev,Fr.get,nth,V.look,u1,u2,v1,v2,v3,v4,v5,v6,v7,List.length,u3,u4,Nat.reduceSub,Nat.reduceAdd,List.map];subst hK;refine qy ?_;generalize hK:aI _ _ _ _=K
 have H:∀(r kn:Nat) (m:List (Nat×D)),k=(kn:Int)→r=(if k>0 then c.toNat %(64/2^k.toNat) else c.toNat)→(r+1)*64^kn≤2097152→K .next ⟨9,[x,.tup [],.int .i32 r,.int .i64 0,.bool false,.int .i64 k,.int .u8 lo,.int .u8 hi,.tup []],m⟩ (ag .ro st):=by
  intro r kn m hkn hr o3
  have hR:c7 (c::xs)=gh kn (kn+1) r lo hi xs:=by
   simp only[c7,hm];rw[if_neg h2,hr,hkn];rfl
  subst hK;rw[hR];generalize hS:gh kn (kn+1) r lo hi xs=R at hR⊢;subst hkn;refine qy ?_;(repeat refine qq ?_);(generalize hK:aI _ _ _ _=K);refine ab.br ?_;(repeat(refine xL ?_));refine aa.nil ?_;dsimp only[Fr.aj,Fr.put,Fr.clean,Fr.ev,Fr.get,nth,V.look,u1,u2,v1,v2,v3,v4,v5,v6,v7,List.length,u3,u4,Nat.reduceSub,Nat.reduceAdd,List.map];subst hK;refine qy ?_;refine ab.block<|ab.loop (fun j fr ai=>∃(i r lo hi:Nat),fr.clean=⟨9,[x,.tup [],.int .i32 r,.int .i64 0,.bool false,.int .i64 kn,.int .u8 lo,.int .u8 hi,.int .i64 (i:Nat)],[]⟩∧ai=ag .ro st∧1≤i∧i+j=kn+1∧gh j (kn+1) r lo hi (xs.drop (i-1))=R∧(r+1)*64^j≤2097152) kn ⟨1,r,lo,hi,rfl,rfl,by omega,by omega,hS,o3⟩ ?_;clear hr o3 hS r hm WE m;rintro j fr ai ⟨i,r,lo,hi,hfr,rfl,Rz,hij,hS,o3⟩;rw[hfr];refine qy ?_;(repeat refine qq ?_);(generalize hK:aI _ _ _ _=K);refine ab.br ?_;(repeat(refine xT ?_));refine aa.nil ?_;dsimp only[Fr.aj,Fr.put,Fr.clean,Fr.ev,Fr.get,nth,V.look,u1,u2,v1,v2,v3,v4,v5,v6,v7,List.length,u3,u4,Nat.reduceSub,Nat.reduceAdd,List.map];subst hK;refine qy ?_;(repeat refine qq ?_);refine qc (fun h4=>?_) (fun h4=>?_)<;>try simp only[cs] at h4
  ·refine ab.skip ?_
   obtain⟨j,rfl⟩:∃j',j=j'+1:=⟨j-1,by omega⟩
   refine ab.seq (ab.block ?_);refine qy ?_;(repeat refine qq ?_);(generalize hK:aI _ _ _ _=K);refine ab.br ?_
   (refine xT ?_)
   (refine xT ?_)
   refine aa.len rfl rfl rfl ez rfl ?_;(repeat(refine xT ?_));refine aa.nil ?_;dsimp only[Fr.aj,Fr.put,Fr.clean,Fr.ev,Fr.get,nth,V.look,u1,u2,v1,v2,v3,v4,v5,v6,v7,List.length,u3,u4,Nat.reduceSub,Nat.reduceAdd,List.map];subst hK;refine qy ?_
   have wz:(xs.drop (i-1))=[]∨∃y ys,xs.drop (i-1)=y::ys:=by
    cases xs.drop (i-1) with
    |nil=>exact .inl rfl
    |cons y ys=>exact .inr ⟨y,ys,rfl⟩
   have BX:(xs.drop (i-1)).length=xs.length-(i-1):=List.length_drop ..;have hbl:(byteCells (c::xs)).length=xs.length+1:=by simp[byteCells]
   (refine qy ?_);(repeat refine qq ?_);refine qc (fun h5=>?_) (fun h5=>?_)<;>try simp only[cs] at h5
   ·(refine qy ?_);(repeat refine qq ?_);(generalize hK:aI _ _ _ _=K);refine ab.br ?_;(repeat(refine xL ?_));refine aa.nil ?_;dsimp only[Fr.aj,Fr.put,Fr.clean,Fr.ev,Fr.get,nth,V.look,u1,u2,v1,v2,v3,v4,v5,v6,v7,List.length,u3,u4,Nat.reduceSub,Nat.reduceAdd,List.map];subst hK;refine qy ?_;refine ab.ret ⟨rx,_,rfl,aJ (by simp) (by simp[ag]) ?_⟩
    rcases wz with wz|⟨y,ys,wz⟩
    ·rw[wz] at hS;simp only[gh] at hS;subst hS;rfl
    ·rw[wz] at BX;simp only[List.length_cons] at BX;omega
   refine ab.skip ?_
   rcases wz with wz|⟨y,ys,wz⟩
   ·rw[wz] at BX;simp only[List.length_nil] at BX;omega
   have hy:(c::xs)[i]?=some y:=by
    obtain⟨i,rfl⟩:∃i',i=i'+1:=⟨i-1,by omega⟩
    have:=congrArg (fun l=>l[0]?) wz
    simpa using this
   have kr:xs.drop (i+1-1)=ys:=by
    have:=congrArg (fun l=>l.drop 1) wz;simp only[List.drop_drop,List.drop_succ_cons,List.drop_zero] at this;rw[←this];congr 1;omega
   have Ro:=gF hy;have Zd:=kK y;rw[wz] at hS;simp only[gh] at hS;refine qy ?_;(repeat refine qq ?_);(generalize hK:aI _ _ _ _=K);refine ab.br ?_
   (refine xT ?_)
   (refine xT ?_)
   refine aa.b9 rfl rfl rfl (fun _=>rfl) rfl rfl ez rfl rfl (by omega) Ro rfl (fun p=>?_)
   (refine xT ?_)
   (refine xT ?_)
   (refine xT ?_)
   by_cases u9:(y.toNat:Int)<(lo:Int)
   ·rw[decide_eq_true u9];(repeat(first|refine xT ?_|refine xo ?_));refine aa.nil ?_;dsimp only[Fr.aj,Fr.put,Fr.clean,Fr.ev,Fr.get,nth,V.look,u1,u2,v1,v2,v3,v4,v5,v6,v7,List.length,u3,u4,Nat.reduceSub,Nat.reduceAdd,List.map];subst hK;refine qy ?_;refine ab.cond (v:=true) rfl (fun _=>?_) (fun h=>by cases h);refine qy ?_;(repeat refine qq ?_);(generalize hK:aI _ _ _ _=K);refine ab.br ?_;(repeat(refine xL ?_));refine aa.nil ?_;dsimp only[Fr.aj,Fr.put,Fr.clean,Fr.ev,Fr.get,nth,V.look,u1,u2,v1,v2,v3,v4,v5,v6,v7,List.length,u3,u4,Nat.reduceSub,Nat.reduceAdd,List.map];subst hK;refine qy ?_;refine ab.ret ⟨rx,_,rfl,aJ (by simp) (by simp[ag]) ?_⟩;rw[if_pos (.inl (by omega))] at hS;subst hS;rfl
   rw[decide_eq_false u9]
   (refine xT ?_)
   (refine xT ?_)
   refine aa.b9 rfl rfl rfl (fun _=>rfl) rfl rfl ez rfl rfl (by omega) Ro rfl (fun p=>?_);(repeat(refine xT ?_));refine aa.nil ?_;dsimp only[Fr.aj,Fr.put,Fr.clean,Fr.ev,Fr.get,nth,V.look,u1,u2,v1,v2,v3,v4,v5,v6,v7,List.length,u3,u4,Nat.reduceSub,Nat.reduceAdd,List.map];subst hK;refine qy ?_;(repeat refine qq ?_);refine qc (fun h6=>?_) (fun h6=>?_)<;>try simp only[cs] at h6
   ·(refine qy ?_);(repeat refine qq ?_);(generalize hK:aI _ _ _ _=K);refine ab.br ?_;(repeat(refine xL ?_));refine aa.nil ?_;dsimp only[Fr.aj,Fr.put,Fr.clean,Fr.ev,Fr.get,nth,V.look,u1,u2,v1,v2,v3,v4,v5,v6,v7,List.length,u3,u4,Nat.reduceSub,Nat.reduceAdd,List.map];subst hK;refine qy ?_;refine ab.ret ⟨rx,_,rfl,aJ (by simp) (by simp[ag]) ?_⟩;rw[if_pos (.inr (by omega))] at hS;subst hS;rfl
   refine ab.skip ?_;rw[if_neg (by omega)] at hS;refine qy ?_;(repeat refine qq ?_);(generalize hK:aI _ _ _ _=K);refine ab.br ?_
   (refine xT ?_)
   (refine xT ?_)
   (refine xT ?_)
   (refine xT ?_)
   refine aa.b9 rfl rfl rfl (fun _=>rfl) rfl rfl ez rfl rfl (by omega) Ro rfl (fun p=>?_);(repeat(first|refine xT ?_|refine xL ?_));refine aa.nil ?_;dsimp only[Fr.aj,Fr.put,Fr.clean,Fr.ev,Fr.get,nth,V.look,u1,u2,v1,v2,v3,v4,v5,v6,v7,List.length,u3,u4,Nat.reduceSub,Nat.reduceAdd,List.map];subst hK;refine qy ?_;have hr3:r+1≤(r+1)*64^(j+1):=Nat.le_mul_of_pos_right _ (Nat.pow_pos (by omega));rw[six (by omega) Zd];refine qy ?_;(repeat refine qq ?_);(generalize hK:aI _ _ _ _=K);refine ab.br ?_;(repeat(refine xL ?_));refine aa.nil ?_;dsimp only[Fr.aj,Fr.put,Fr.clean,Fr.ev,Fr.get,nth,V.look,u1,u2,v1,v2,v3,v4,v5,v6,v7,List.length,u3,u4,Nat.reduceSub,Nat.reduceAdd,List.map];subst hK;refine qy ?_;(repeat refine qq ?_);(generalize hK:aI _ _ _ _=K);refine ab.br ?_;(repeat(first|refine xT ?_|refine xL ?_));refine aa.nil ?_;dsimp only[Fr.aj,Fr.put,Fr.clean,Fr.ev,Fr.get,nth,V.look,u1,u2,v1,v2,v3,v4,v5,v6,v7,List.length,u3,u4,Nat.reduceSub,Nat.reduceAdd,List.map];subst hK;rw[wrap_i64 (by omega) (by omega)];refine⟨j,by omega,i+1,_,_,_,rfl,rfl,by omega,by omega,by rw[kr];exact hS,?_⟩;have e1:(r*64+y.toNat %64+1)≤(r+1)*64:=by omega
   have e2:=Nat.mul_le_mul_right (64^j) e1;have e3:64*64^j=64^(j+1):=by rw[Nat.pow_succ,Nat.mul_comm]
   rw[Nat.mul_assoc,e3] at e2;omega
  ·refine ab.exit ?_;have:j=0:=by omega
   subst this;simp only[gh] at hS;subst hS;refine qy ?_;(repeat refine qq ?_);(generalize hK:aI _ _ _ _=K);refine ab.br ?_;(repeat(first|refine xT ?_|refine xL ?_));refine aa.nil ?_;dsimp only[Fr.aj,Fr.put,Fr.clean,Fr.ev,Fr.get,nth,V.look,u1,u2,v1,v2,v3,v4,v5,v6,v7,List.length,u3,u4,Nat.reduceSub,Nat.reduceAdd,List.map];subst hK;refine qy ?_;refine ab.ret ⟨rx,_,rfl,aJ (by simp) (by simp[ag]) ?_⟩;rw[wrap_i64 (by omega) (by omega)];rfl
 rcases hk with hk|hk|hk|hk|hk
 ·omega
 ·subst hk;refine ab.cond (v:=false) rfl (fun h=>by cases h) fun _=>ab.skip ?_;rw[du (by simp only[kA];omega)];exact H _ 0 _ rfl rfl (by omega)
 ·subst hk;refine ab.cond (v:=true) rfl (fun _=>?_) (fun h=>by cases h);refine ab.br ?_
  (refine xT ?_)
  refine aa.b9 rfl rfl rfl (fun _=>rfl) rfl rfl ez rfl rfl (by omega) rfl rfl (fun p=>?_);(repeat(first|refine xT ?_|refine xL ?_));refine aa.nil ?_;dsimp only[Fr.aj,Fr.put,Fr.clean,Fr.ev,Fr.get,nth,V.look,u1,u2,v1,v2,v3,v4,v5,v6,v7,List.length,u3,u4,Nat.reduceSub,Nat.reduceAdd,List.map];rw[mask (j:=5) hc (by omega)]
  ·exact H _ 1 _ rfl rfl (by omega)
  ·decide
 ·subst hk;refine ab.cond (v:=true) rfl (fun _=>?_) (fun h=>by cases h);refine ab.br ?_
  (refine xT ?_)
  refine aa.b9 rfl rfl rfl (fun _=>rfl) rfl rfl ez rfl rfl (by omega) rfl rfl (fun p=>?_);(repeat(first|refine xT ?_|refine xL ?_));refine aa.nil ?_;dsimp only[Fr.aj,Fr.put,Fr.clean,Fr.ev,Fr.get,nth,V.look,u1,u2,v1,v2,v3,v4,v5,v6,v7,List.length,u3,u4,Nat.reduceSub,Nat.reduceAdd,List.map];rw[mask (j:=4) hc (by omega)]
  ·exact H _ 2 _ rfl rfl (by omega)
  ·decide
 ·subst hk;refine ab.cond (v:=true) rfl (fun _=>?_) (fun h=>by cases h);refine ab.br ?_
  (refine xT ?_)
  refine aa.b9 rfl rfl rfl (fun _=>rfl) rfl rfl ez rfl rfl (by omega) rfl rfl (fun p=>?_);(repeat(first|refine xT ?_|refine xL ?_));refine aa.nil ?_;dsimp only[Fr.aj,Fr.put,Fr.clean,Fr.ev,Fr.get,nth,V.look,u1,u2,v1,v2,v3,v4,v5,v6,v7,List.length,u3,u4,Nat.reduceSub,Nat.reduceAdd,List.map];rw[mask (j:=3) hc (by omega)]
  ·exact H _ 3 _ rfl rfl (by omega)
  ·decide
end Go.Proofs.YtbdnabmmlbiomaaGreat
