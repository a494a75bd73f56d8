/-
 Ranges of runes: the canonical form, by plain lists. No program in sight.
-/
import Derived.Test.YtbdnabmmlbiomaaXPx
import Derived.Test.YtbdnabmmlbiomaaXM2
import Derived.KernelRfl
set_option linter.unusedSimpArgs false
set_option linter.unusedVariables false
set_option maxRecDepth 100000
set_option maxHeartbeats 4000000
namespace Go.V
abbrev Rg:=Int×Int
def eJ (l:List Rg) (r:Int):Prop:=∃x,x∈l∧x.1≤r∧r≤x.2
theorem eN (r:Int):¬eJ [] r:=by rintro⟨x,h,_⟩;cases h
theorem bK {x:Rg} {l:List Rg} {r:Int}:eJ (x::l) r↔(x.1≤r∧r≤x.2)∨eJ l r:=by
 constructor
 ·rintro⟨y,hy,h⟩
  rcases List.mem_cons.1 hy with rfl|hy
  ·exact .inl h
  ·exact .inr ⟨y,hy,h⟩
 ·rintro(h|⟨y,hy,h⟩)
  ·exact⟨x,List.mem_cons_self ..,h⟩
  ·exact⟨y,List.mem_cons_of_mem _ hy,h⟩
theorem tW {a b:List Rg} {r:Int}:eJ (a++b) r↔eJ a r∨eJ b r:=by
 constructor
 ·rintro⟨y,hy,h⟩
  rcases List.mem_append.1 hy with hy|hy
  ·exact .inl ⟨y,hy,h⟩
  ·exact .inr ⟨y,hy,h⟩
 ·rintro(⟨y,hy,h⟩|⟨y,hy,h⟩)
  ·exact⟨y,List.mem_append_left _ hy,h⟩
  ·exact⟨y,List.mem_append_right _ hy,h⟩
theorem pU {a b:List Rg} (h:∀x,x∈a↔x∈b) (r:Int):eJ a r↔eJ b r:=by
 constructor
 ·rintro⟨y,hy,hh⟩;exact⟨y,(h y).1 hy,hh⟩
 ·rintro⟨y,hy,hh⟩;exact⟨y,(h y).2 hy,hh⟩
def canon (l:List Rg):Prop:=(∀x∈l,x.1≤x.2)∧l.Pairwise fun x y=>x.2+1<y.1
theorem iR {x:Rg} {l:List Rg} (h:canon (x::l)):canon l∧x.1≤x.2∧∀r,eJ l r→x.2+1<r:=by
 obtain⟨h1,h2⟩:=h;rw[List.pairwise_cons] at h2;refine⟨⟨fun y hy=>h1 y (List.mem_cons_of_mem _ hy),h2.2⟩,h1 x (List.mem_cons_self ..),?_⟩;rintro r ⟨y,hy,h3,h4⟩;have:=h2.1 y hy;omega
theorem ln:∀{a b:List Rg},canon a→canon b→(∀r,eJ a r↔eJ b r)→a=b
 |[],[],_,_,_=>rfl
 |[],y::b,_,hb,h=>by
  obtain⟨_,h1,_⟩:=iR hb;exact absurd ((h y.1).2 (bK.2 (.inl ⟨Int.le_refl _,h1⟩))) (eN _)
 |x::a,[],ha,_,h=>by
  obtain⟨_,h1,_⟩:=iR ha;exact absurd ((h x.1).1 (bK.2 (.inl ⟨Int.le_refl _,h1⟩))) (eN _)
 |x::a,y::b,ha,hb,h=>by
  obtain⟨ca,xa,fa⟩:=iR ha;obtain⟨cb,yb,fb⟩:=iR hb
  have low:∀{x y:Rg} {a b:List Rg},x.1≤x.2→(∀r,eJ b r→y.2+1<r)→y.1≤y.2→(∀r,eJ (x::a) r→eJ (y::b) r)→y.1≤x.1:=by
   intro x y a b hx hf hy hh
   rcases bK.1 (hh x.1 (bK.2 (.inl ⟨Int.le_refl _,hx⟩))) with h|h
   ·exact h.1
   ·have:=hf _ h;omega
  have e1:x.1=y.1:=Int.le_antisymm (low yb fa xa fun r=>(h r).2) (low xa fb yb fun r=>(h r).1)
  have up:∀{x y:Rg} {a b:List Rg},x.1≤x.2→x.1=y.1→(∀r,eJ a r→x.2+1<r)→(∀r,eJ (y::b) r→eJ (x::a) r)→y.2≤x.2:=by
   intro x y a b hx he hf hh
   rcases Int.lt_or_le x.2 y.2 with h'|h'
   ·rcases bK.1 (hh (x.2+1) (bK.2 (.inl ⟨by omega,by omega⟩))) with h|h
    ·omega
    ·have:=hf _ h;omega
   ·exact h'
  have e2:x.2=y.2:=Int.le_antisymm (up yb e1.symm fb fun r=>(h r).1) (up xa e1 fa fun r=>(h r).2);have e:x=y:=Prod.ext e1 e2;subst e
  congr 1
  refine ln ca cb fun r=>⟨fun hr=>?_,fun hr=>?_⟩
  ·have:=fa r hr
   rcases bK.1 ((h r).1 (bK.2 (.inr hr))) with h|h
   ·omega
   ·exact h
  ·have:=fb r hr
   rcases bK.1 ((h r).2 (bK.2 (.inr hr))) with h|h
   ·omega
   ·exact h
def cZ (acc:List Rg) (r:Rg):List Rg:=
 match acc with
 |[]=>[r]
 |k::rest=>if r.1≤k.2+1 then(k.1,max k.2 r.2)::rest else r::k::rest
theorem kS:∀(l acc:List Rg),(∀x∈l,x.1≤x.2)→l.Pairwise (fun x y=>x.1≤y.1)→(∀k∈acc.head?,∀x∈l,k.1≤x.1)→(∀x∈acc,x.1≤x.2)→acc.Pairwise (fun x y=>y.2+1<x.1)→
  (∀x∈l.foldl cZ acc,x.1≤x.2)∧(l.foldl cZ acc).Pairwise (fun x y=>y.2+1<x.1)∧∀r,eJ (l.foldl cZ acc) r↔eJ acc r∨eJ l r
 |[],acc,_,_,_,h1,h2=>⟨h1,h2,fun r=>⟨.inl,fun h=>h.resolve_right (eN r)⟩⟩
 |x::l,acc,hl,hp,hk,h1,h2=>by
  rw[List.pairwise_cons] at hp;have hx:=hl x (List.mem_cons_self ..);have gb:∀y∈l,y.1≤y.2:=fun y hy=>hl y (List.mem_cons_of_mem _ hy);rw[List.foldl_cons]
  cases acc with
  |nil=>
   obtain⟨g1,g2,g3⟩:=kS l [x] gb hp.2 (fun k iN y hy=>by simp at iN;subst iN;exact hp.1 y hy) (fun y hy=>by simp at hy;subst hy;exact hx) (by simp);refine⟨g1,g2,fun r=>(g3 r).trans ?_⟩;rw[bK (l:=l),bK (l:=[])];constructor
   ·rintro((h|h)|h)
    ·exact .inr (.inl h)
    ·exact absurd h (eN r)
    ·exact .inr (.inr h)
   ·rintro(h|h|h)
    ·exact absurd h (eN r)
    ·exact .inl (.inl h)
    ·exact .inr h
  |cons k rest=>
   have WW:=hk k rfl x (List.mem_cons_self ..);have hkk:=h1 k (List.mem_cons_self ..);rw[List.pairwise_cons] at h2;unfold cZ
   by_cases hc:x.1≤k.2+1
   ·simp only[if_pos hc]
    obtain⟨g1,g2,g3⟩:=kS l ((k.1,max k.2 x.2)::rest) gb hp.2 (fun q hq y hy=>by simp at hq;subst hq;have:=hp.1 y hy;simp only;omega) (fun y hy=>by
     rcases List.mem_cons.1 hy with rfl|hy
     ·simp only;omega
     ·exact h1 y (List.mem_cons_of_mem _ hy)) (by rw[List.pairwise_cons];exact⟨h2.1,h2.2⟩)
    refine⟨g1,g2,fun r=>(g3 r).trans ?_⟩;rw[bK (l:=rest),bK (l:=rest),bK (l:=l)];constructor
    ·rintro((h|h)|h)
     ·simp only at h
      by_cases hr:r≤k.2
      ·exact .inl (.inl ⟨h.1,hr⟩)
      ·exact .inr (.inl ⟨by omega,by omega⟩)
     ·exact .inl (.inr h)
     ·exact .inr (.inr h)
    ·rintro((h|h)|h|h)
     ·exact .inl (.inl ⟨h.1,by simp only;omega⟩)
     ·exact .inl (.inr h)
     ·exact .inl (.inl ⟨by simp only;omega,by simp only;omega⟩)
     ·exact .inr h
   ·simp only[if_neg hc]
    obtain⟨g1,g2,g3⟩:=kS l (x::k::rest) gb hp.2 (fun q hq y hy=>by simp at hq;subst hq;exact hp.1 y hy) (fun y hy=>by
     rcases List.mem_cons.1 hy with rfl|hy
     ·exact hx
     ·exact h1 y hy) (by
     rw[List.pairwise_cons];refine⟨fun y hy=>?_,by rw[List.pairwise_cons];exact h2⟩
     rcases List.mem_cons.1 hy with rfl|hy
     ·omega
     ·have:=h2.1 y hy;omega)
    refine⟨g1,g2,fun r=>(g3 r).trans ?_⟩;rw[bK (l:=k::rest),bK (l:=l)];constructor
    ·rintro((h|h)|h)
     ·exact .inr (.inl h)
     ·exact .inl h
     ·exact .inr (.inr h)
    ·rintro(h|h|h)
     ·exact .inl (.inr h)
     ·exact .inl (.inl h)
     ·exact .inr h
theorem vP {l:List Rg} (h1:∀x∈l,x.1≤x.2) (h2:l.Pairwise fun x y=>x.1≤y.1):canon (l.foldl cZ []).reverse∧∀r,eJ (l.foldl cZ []).reverse r↔eJ l r:=by
 obtain⟨g1,g2,g3⟩:=kS l [] h1 h2 (fun k hk=>by simp at hk) (fun x hx=>by simp at hx) List.Pairwise.nil;refine⟨⟨fun x hx=>g1 x (List.mem_reverse.1 hx),by rw[List.pairwise_reverse];exact g2⟩,fun r=>?_⟩;rw[pU (fun x=>List.mem_reverse) r,g3 r];exact⟨fun h=>h.resolve_left (eN r),.inr⟩
def lZ (r:Int):Prop:=0≤r∧r≤1114111∧¬(55296≤r∧r≤57343)
def db (x:Rg):List Rg:=
 (if max (max x.1 0) 0≤min (min x.2 1114111) 55295 then[(max (max x.1 0) 0,min (min x.2 1114111) 55295)] else[])++
 (if max (max x.1 0) 57344≤min (min x.2 1114111) 1114111 then[(max (max x.1 0) 57344,min (min x.2 1114111) 1114111)] else[])
theorem nG (x:Rg) (r:Int):eJ (db x) r↔lZ r∧x.1≤r∧r≤x.2:=by
 unfold db lZ;rw[tW]
 have one:∀(a b:Int),eJ (if a≤b then[(a,b)] else[]) r↔a≤r∧r≤b:=by
  intro a b
  split
  ·rw[bK];exact⟨fun h=>h.elim id fun h=>absurd h (eN r),.inl⟩
  ·exact⟨fun h=>absurd h (eN r),fun h=>by omega⟩
 rw[one,one];omega
theorem lI (x:Rg):∀y∈db x,y.1≤y.2∧0≤y.1∧y.2≤1114111:=by
 intro y hy;unfold db at hy
 rcases List.mem_append.1 hy with h|h<;>split at h<;>simp at h<;>subst h<;>simp only<;>omega
theorem n9 {l all:List Rg} (hp:∀x,x∈all↔x∈l.flatMap db) (hs:all.Pairwise fun x y=>x.1≤y.1):canon (all.foldl cZ []).reverse∧∀r,eJ (all.foldl cZ []).reverse r↔lZ r∧eJ l r:=by
 have hle:∀x∈all,x.1≤x.2:=fun x hx=>by
  obtain⟨y,_,hy⟩:=List.mem_flatMap.1 ((hp x).1 hx);exact(lI y x hy).1
 obtain⟨g1,g2⟩:=vP hle hs;refine⟨g1,fun r=>(g2 r).trans ((pU hp r).trans ?_)⟩;constructor
 ·rintro⟨y,hy,h⟩;obtain⟨x,hx,hy⟩:=List.mem_flatMap.1 hy;have:=(nG x r).1 ⟨y,hy,h⟩;exact⟨this.1,x,hx,this.2⟩
 ·rintro⟨hr,x,hx,h⟩;obtain⟨y,hy,h'⟩:=(nG x r).2 ⟨hr,h⟩;exact⟨y,List.mem_flatMap.2 ⟨x,hx,hy⟩,h'⟩
def ku:List Rg→Int→Bool
 |[],_=>false
 |x::l,r=>(decide (x.1≤r) &&decide (r≤x.2))||ku l r
theorem uA:∀(l:List Rg) (r:Int),ku l r=true↔eJ l r
 |[],r=>⟨fun h=>(by cases h),fun h=>absurd h (eN r)⟩
 |x::l,r=>by
  rw[bK,←uA l r];simp[ku]
end Go.V
namespace Go.Proofs.Ytbdnabmmlbiomaa
open Go.V Go
def oj (fr:Go.V.Fr) (k:Nat):Go.V.D:=Go.V.nth .bp fr.loc k
def au (x:Rg):List D:=[.int .i32 x.1,.int .i32 x.2]
def bw (l:List Rg):D:=.sl (l.map fun x=>.agg (au x))
theorem gh (l:List Rg):D.sl ((l.map au).map (ja 2))=bw l:=by
 unfold bw;rw[List.map_map];rfl
theorem dF (l:List Rg):∀e∈l.map au,∀d∈e,bX d=true:=by
 intro e he d hd;obtain⟨x,_,rfl⟩:=List.mem_map.1 he;simp only[au,List.mem_cons,List.not_mem_nil,or_false] at hd
 rcases hd with rfl|rfl<;>rfl
theorem vC (l:List Rg):refs (l.map au).flatten=0:=by
 induction l with
 |nil=>rfl
 |cons x l ih=>simp only[List.map_cons,List.flatten_cons,au,List.cons_append,List.nil_append,refs,D.ref,ih];rfl
theorem jM (l:List Rg):∀e∈l.map au,e.length=2:=by
 intro e he;obtain⟨x,_,rfl⟩:=List.mem_map.1 he;rfl
theorem eM (st:St) (l:List Rg):V.Rows st 2 (bw l) (l.map au):=by
 rw[←gh];exact Rows.tP (jM l) (dF l)
theorem fc {l:List Rg} {i:Nat} {q:Rg} (h:l[i]?=some q):(l.map au)[i]?=some (au q):=by rw[List.getElem?_map,h];rfl
theorem yU (l:List Rg) (q:Rg) (r:Int):ku (l++[q]) r=(ku l r||(decide (q.1≤r) &&decide (r≤q.2))):=by
 induction l with
 |nil=>simp[ku]
 |cons x l ih=>simp only[List.cons_append,ku,ih,Bool.or_assoc]
theorem Ba {l:List Rg} {i:Nat} {r:Int} (h:ku (l.take i) r=true):ku l r=true:=by
 rw[uA] at h⊢;obtain⟨x,h1,h2⟩:=h;exact⟨x,List.mem_of_mem_take h1,h2⟩
theorem A' {s0:St} {x:D} {l:List Rg} {r:Int} (hx:V.Rows s0 2 x (l.map au)) (hl:l.length≤1073741824):Ev pv 50 [x,.int .i32 r] s0 (.bool (ku l r)) s0:=by
 refine Ev.nZ rfl QP rfl rfl rfl ?_;dsimp only[u3,u4,List.length,Nat.reduceSub,Nat.reduceAdd,w1,w2];obtain⟨b_,hF,hH⟩:=ri s0;generalize ai .ro s0=S at*;have hx:=Arg.of hx b_;refine qq<|qj fun K hK=>qm ?_;refine qe hK<|qq<|qq<|qj fun K hK=>qm ?_;refine qn ?_;simp only[List.length_map];refine qm ?_;refine qe hK<|af.block<|af.loop (fun mm fr st=>∃(i:Nat),fr.clean=⟨10,[x,.int .i32 r,oj fr 2,oj fr 3,.bool false,oj fr 5,oj fr 6,x,.int .i64 (l.length:Nat),.int .i64 (i:Nat)],[]⟩∧Has s0.bs.length S st []∧(i+mm=l.length)∧(ku (l.take i) r=false)) (l.length) ?_ ?_
 ·exact⟨0,rfl,hH,by omega,rfl⟩
 rintro mm fr st ⟨i,hfr,hH,hi,hn⟩;rw[hfr];clear hfr;generalize oj fr=ee;clear fr;refine qq<|qj fun K hK=>qg ?_;refine qe hK<|qq ?_;refine af.cond (by rfl) (fun h1=>?_) (fun h1=>?_)<;>try simp only[decide_eq_true_eq,decide_eq_false_iff_not] at h1
 ·refine af.skip ?_
  obtain⟨q,hq⟩:∃q,l[i]?=some q:=⟨l[i]'(by omega),List.getElem?_eq_getElem _⟩
  have hr:=fc hq;refine qq<|af.block<|qq<|qj fun K hK=>qr fun R6 MJ=>?_;refine ab.dE rfl (ev rfl) (by assumption) rfl (ag rfl _) ?_;refine qa hH fun k6 st Ke hH=>?_;refine qS hH ay fun st hH=>?_;dsimp only[u2,u1,u3,u4,setMany,u5,u6,D.cells,Nat.reduceAdd,au] at hH;refine qe hK<|qq<|af.j8 22 (.bool (decide (r≥q.1) &&decide (r≤q.2))) [] ?_ (fun ff tmp gB=>?_)
  ·refine qm ?_;refine qp (o:=0) ?_;refine ql hH ay ?_;refine qg ?_;refine qm ?_;refine ab.two 17 rfl (fun iP=>?_) (fun iP=>?_)
   ·refine qm ?_ (hg:=wi iP);refine qp (o:=1) ?_ (hg:=wi iP);refine ql hH ay ?_ (hg:=wi iP);refine qg ?_ (hg:=wi iP);refine qt iP ?_;refine ab.nil (cP ?_ ?_)
    ·dsimp only[aI,List.foldl,nth,u2,u1]
     all_goals(first|rfl|simp)
    ·dsimp only[Fr.aC,Fr.put,Fr.clean,Fr.ev,Fr.get,nth,V.look,u1,u2,v1,v2,v3,v4,v5,v6,v7,List.length,u3,u4,Nat.reduceSub,Nat.reduceAdd,List.map]
     all_goals(simp[iP];done)
   ·refine qs ?_ (hg:=wn iP);refine qs ?_ (hg:=wn iP);refine qs ?_ (hg:=wn iP);refine qs ?_ (hg:=wn iP);refine qu iP ?_;refine ab.nil (cP ?_ ?_)
    ·dsimp only[aI,List.foldl,nth,u2,u1]
     all_goals(first|rfl|simp)
    ·dsimp only[Fr.aC,Fr.put,Fr.clean,Fr.ev,Fr.get,nth,V.look,u1,u2,v1,v2,v3,v4,v5,v6,v7,List.length,u3,u4,Nat.reduceSub,Nat.reduceAdd,List.map]
     all_goals(simp[iP];done)
  dsimp only[aI,List.foldl,nth,u2,u1];dsimp only[Fr.aC,Fr.put,Fr.clean,Fr.ev,Fr.get,nth,V.look,u1,u2,v1,v2,v3,v4,v5,v6,v7,List.length,u3,u4,Nat.reduceSub,Nat.reduceAdd,List.map]
  have ht:ku (l.take (i+1)) r=(decide (r≥q.1) &&decide (r≤q.2)):=by
   rw[List.take_add_one,hq,Option.toList_some,yU,hn];simp
  refine qc (fun h2=>?_) (fun h2=>?_)<;>try simp only[cs] at h2
  ·refine qq<|qj fun K hK=>qm ?_;refine qe hK ?_;rw[Ba (i:=i+1) (by rw[ht];simp[h2])];refine af.ret ⟨rx,_,rfl,rl b_ hH (rfl)⟩
  ·refine af.skip<|qj fun K hK=>qA ?_;refine qm ?_;refine qe hK ?_;exact⟨mm-1,by omega,⟨i+1,rfl,(hH.drop 1),by omega,by rw[ht];simp[h2]⟩⟩
 ·refine af.exit<|qq<|qj fun K hK=>qm ?_;refine qe hK ?_;have:ku l r=false:=by rw[←hn,List.take_of_length_le (by omega)]
  rw[this];refine af.ret ⟨rx,_,rfl,rl b_ hH (rfl)⟩
def aQ (fr:Go.V.Fr) (k:Nat):Go.V.D:=Go.V.nth .bp fr.loc k
def eC:List Rg:=[(0,55295),(57344,1114111)]
def pe (lo hi:Int) (p:Rg):List Rg:=if max lo p.1≤min hi p.2 then[(max lo p.1,min hi p.2)] else[]
theorem rr (q:Rg):db q=eC.flatMap (pe (max q.1 0) (min q.2 1114111)):=by
 simp[db,eC,pe]
theorem zM {s0:St} (q:Rg):Ev pv 80 [.agg (au q)] s0 (bw (db q)) s0:=by
 refine Ev.nZ rfl Qu rfl rfl rfl ?_;dsimp only[u3,u4,List.length,Nat.reduceSub,Nat.reduceAdd,w1,w2];obtain⟨b_,hF,hH⟩:=ri s0;generalize ai .ro s0=S at*;refine qq<|qj fun K hK=>qb hH fun k1 st ox hH=>?_;dsimp only[u2,u1,u3,u4,setMany,u5,u6,D.cells,Nat.reduceAdd,au] at hH;refine qm ?_;refine qe hK<|qq<|qj fun K hK=>qp (o:=0) ?_;refine ql hH ay ?_;refine ab.EV (t1:=0) (t2:=0) rfl (ev rfl) (ev rfl) (by dsimp only[Fr.put,u1,u2]<;>rfl) ?_;refine qp (o:=1) ?_;refine ql hH ay ?_;refine ab.EU (t1:=0) (t2:=0) rfl (ev rfl) (ev rfl) (by dsimp only[Fr.put,u1,u2]<;>rfl) ?_;refine qp (o:=0) ?_;refine qT hH ay fun st hH=>?_;dsimp only[u2,u1,u3,u4,setMany,u5,u6,D.cells,Nat.reduceAdd,au] at hH;refine qp (o:=1) ?_;refine qT hH ay fun st hH=>?_;dsimp only[u2,u1,u3,u4,setMany,u5,u6,D.cells,Nat.reduceAdd,au] at hH;refine qe hK ?_;generalize vZ:max q.1 0=lo at*;generalize yN:min q.2 1114111=hi at*;refine qq<|qj fun K hK=>qm ?_;refine qe hK ?_;have hH:=hH.eo 2;refine qq<|qq<|qj fun K hK=>qg ?_;refine qg ?_;refine qh (s:=2) (vs:=[_,_]) hH fun k17 st PA hH=>?_;dsimp only[u2,u1,u3,u4,setMany,u5,u6,D.cells,Nat.reduceAdd,au] at hH;refine qn ?_ (hR:=hH.rows ay);simp only[List.length_map,List.length_cons,List.length_nil];refine qm ?_;refine qe hK<|af.block<|af.loop (fun mm fr st=>∃(i:Nat) (x:D),fr.clean=⟨20,[.agg (au q),.ptr k1 0 0,.nul,x,aQ fr 4,aQ fr 5,aQ fr 6,aQ fr 7,aQ fr 8,aQ fr 9,aQ fr 10,aQ fr 11,aQ fr 12,aQ fr 13,aQ fr 14,aQ fr 15,aQ fr 16,.win k17 0 0 2 2,.int .i64 2,.int .i64 (i:Nat)],[]⟩∧Has s0.bs.length S st [.aJ (.win k17 0 0 2 2) 2 (eC.map au),.aJ x 2 (((eC.take i).flatMap (pe lo hi)).map au),.box k1 (.mem 0 false [.int .i32 lo,.int .i32 hi])]∧(i+mm=2)∧(((eC.take i).flatMap (pe lo hi)).length≤i)) (2) ?_ ?_
 ·exact⟨0,.nul,rfl,hH,by omega,by simp⟩
 rintro mm fr st ⟨i,x,hfr,hH,hij,hb⟩;rw[hfr];clear hfr;generalize aQ fr=ee;clear fr;refine qq<|qj fun K hK=>qg ?_;refine qe hK<|qq ?_;refine af.cond (by rfl) (fun h1=>?_) (fun h1=>?_)<;>try simp only[decide_eq_true_eq,decide_eq_false_iff_not] at h1
 ·refine af.skip ?_
  obtain⟨p,hp⟩:∃p,eC[i]?=some p:=⟨eC[i]'(by simp[eC];omega),List.getElem?_eq_getElem _⟩
  have hr:=fc hp;refine qq<|af.block<|qq<|qj fun K hK=>qi hH ay fun Oj J5=>?_;refine ab.rH hH rfl (ev rfl) (by assumption) (by exact ay) (by assumption) rfl (ag rfl _) ?_;refine qa hH fun k5 st Ga hH=>?_;refine qS hH ay fun st hH=>?_;dsimp only[u2,u1,u3,u4,setMany,u5,u6,D.cells,Nat.reduceAdd,au] at hH;refine qe hK<|qq<|qj fun K hK=>qp (o:=0) ?_;refine ql hH gG ?_;refine qp (o:=0) ?_;refine ql hH ay ?_;refine ab.EV (t1:=0) (t2:=0) rfl (ev rfl) (ev rfl) (ag rfl _) ?_;refine qp (o:=1) ?_;refine ql hH gG ?_;refine qp (o:=1) ?_;refine ql hH ay ?_;refine ab.EU (t1:=0) (t2:=0) rfl (ev rfl) (ev rfl) (ag rfl _) ?_;refine qg ?_;refine qa hH fun k6 st Ke hH=>?_;refine qS hH ay fun st hH=>?_;dsimp only[u2,u1,u3,u4,setMany,u5,u6,D.cells,Nat.reduceAdd,au] at hH;refine qe hK<|qq<|qj fun K hK=>qp (o:=0) ?_;refine ql hH ay ?_;refine qp (o:=1) ?_;refine ql hH ay ?_;refine qg ?_;refine qe hK ?_;refine af.cond (by rfl) (fun h2=>?_) (fun h2=>?_)<;>try simp only[decide_eq_true_eq,decide_eq_false_iff_not] at h2
  ·refine qj fun K hK=>qm ?_;refine ab.bN (m:=2) hH rfl (ev rfl) (by exact ay) (by dsimp only[List.drop_succ_cons,List.drop_zero,List.take_succ_cons,List.take_zero,au]<;>rfl) rfl rfl (ag rfl _) ?_;refine qh (s:=2) (vs:=[_]) hH fun k41 st MY hH=>?_;refine ab.bR (s:=2) hH rfl (ev rfl) (ev rfl) (by exact gw) (by exact hH.rows (by exact ay)) rfl rfl rfl rfl rfl rfl rfl ⟨(Nat.le_of_ble_eq_true rfl),(Nat.le_of_ble_eq_true rfl)⟩ (fun _=>(ag rfl _)) (by simp only[List.length_cons,List.length_nil,List.length_map]<;>omega) (by exact .inl hF) (fun Lh st hH=>?_);dsimp only[u2,u1,u3,u4,setMany,u5,u6,D.cells,Nat.reduceAdd,au] at hH;refine qm ?_;refine qe hK<|qj fun K hK=>qA ?_;refine qm ?_;refine qe hK ?_
   have h3:(eC.take (i+1)).flatMap (pe lo hi)=(eC.take i).flatMap (pe lo hi)++[(max lo p.1,min hi p.2)]:=by
    rw[List.take_add_one,hp,List.flatMap_append];simp[pe,h2]
   exact⟨mm-1,by omega,⟨i+1,Lh,rfl,(by rw[h3,List.map_append];exact hH.drop 3),by omega,by rw[h3];simp only[List.length_append,List.length_cons,List.length_nil];omega⟩⟩
  ·refine af.skip<|qj fun K hK=>qA ?_;refine qm ?_;refine qe hK ?_
   have h3:(eC.take (i+1)).flatMap (pe lo hi)=(eC.take i).flatMap (pe lo hi):=by
    rw[List.take_add_one,hp,List.flatMap_append];simp[pe,h2]
   exact⟨mm-1,by omega,⟨i+1,x,rfl,(by rw[h3];exact hH.drop 2),by omega,by rw[h3];omega⟩⟩
 ·refine af.exit<|qq<|qj fun K hK=>qm ?_;refine qm ?_;refine qe hK ?_;rw[←gh];have h3:eC.take i=eC:=List.take_of_length_le (by simp[eC];omega);rw[h3] at hH;refine af.ret ⟨rx,_,rfl,rl b_ hH ?_⟩;refine Eq.trans (hH.freeze b5 (dF _) (n:=15) (by decide)) ?_;rw[rr,vZ,yN]
theorem yi (q x:Rg) (h:x∈db q):0≤x.1∧x.1≤1114111:=by
 obtain⟨h1,h2,h3⟩:=lI q x h;omega
theorem nH (q:Rg):(db q).length≤2:=by
 unfold db;split<;>split<;>simp
theorem gR (l:List Rg):(l.flatMap db).length≤2*l.length:=by
 induction l with
 |nil=>simp
 |cons x l ih=>simp only[List.flatMap_cons,List.length_append,List.length_cons];have:=nH x;omega
theorem pz:∀{l:List Rg},(∀x∈l,0≤x.1∧x.1≤1114111)→∃m:List Rs,er m=(l.map au).flatten∧m.map (fun x=>(x.lo,x.hi))=l
 |[],_=>⟨[],rfl,rfl⟩
 |x::l,h=>by
  obtain⟨m,h1,h2⟩:=pz (l:=l) fun y hy=>h y (List.mem_cons_of_mem _ hy);obtain⟨h3,h4⟩:=h x (List.mem_cons_self ..);exact⟨⟨x.1,x.2,h3,h4⟩::m,by simp only[er,h1,List.map_cons,List.flatten_cons,au,List.cons_append,List.nil_append],by simp[h2]⟩
theorem wm (m:List Rs):er m=((m.map fun x=>((x.lo,x.hi):Rg)).map au).flatten:=by
 induction m with
 |nil=>rfl
 |cons x m ih=>simp only[er,ih,List.map_cons,List.flatten_cons,au,List.cons_append,List.nil_append]
theorem A_ {N:Nat} {S st:St} {H:List bC} {j:Nat} {x:D} {l:List Rg} (hH:Has N S st H) (hj:H[j]?=some (.aJ x 2 (l.map au))) (h0:l=[]→x=.nul) (hl:l.length≤1073741824) (hr:∀y∈l,0≤y.1∧y.1≤1114111):
  ∃(ah:St) (l':List Rg),Ev pv 81 [x,.fn 82 []] st (.tup []) ah∧Has N S ah (H.set j (.aJ x 2 (l'.map au)))∧l'.Perm l∧l'.Pairwise fun a b=>a.1≤b.1:=by
 obtain⟨m,h1,h2⟩:=pz hr;obtain⟨h3,h4⟩:=srt_facts m;have Fo:m.length=l.length:=by rw[←h2];simp
 have hperm:((srt m).map fun x=>((x.lo,x.hi):Rg)).Perm l:=by rw[←h2];exact h3.map _
 have mE:((srt m).map fun x=>((x.lo,x.hi):Rg)).Pairwise fun a b=>a.1≤b.1:=by rw[List.pairwise_map];exact h4
 have hlen:(srt m).length=l.length:=h3.length_eq.trans Fo;have hown:=hH.own hj;generalize uy:l.map au=es at*;have oz:es.length=l.length:=by rw[←uy];simp
 cases hown with
 |nul=>
  have K':l=[]:=by cases l with|nil=>rfl|cons _ _=>simp at oz
  refine⟨st,(srt m).map fun x=>(x.lo,x.hi),Ev.iX rfl rfl,?_,hperm,mE⟩
  have:(srt m).map (fun x=>((x.lo,x.hi):Rg))=[]:=by
   cases hs:srt m with
   |nil=>rfl
   |cons a b=>rw[hs,K'] at hlen;simp at hlen
  rw[this];exact hH.zx hj (fun _ _ _=>rfl) (Nat.le_refl _) rfl rfl .nul (fun k hk=>.inl hk) fun k hk=>by simp only[bC.aJ,D.ref] at hk;omega
 |win k ax off es c hm hle hc he=>
  have hne:l≠[]:=fun e=>by have:=h0 e;cases this
  have sA:1≤l.length:=by cases l with|nil=>exact absurd rfl hne|cons _ _=>simp
  have hk:=(hH.ok j _ hj).2 k (by simp only[bC.aJ,D.ref]);have wa:(er (srt m)).length=es.length*2:=by rw[kY,hlen,oz];omega
  have hwr:st.wr k ax off (er (srt m))=some ⟨st.bs.set k (.mem ax true (c.take off++er (srt m)++c.drop (off+(er (srt m)).length))),st.flr,st.ro⟩:=
   ke hm (by omega) (iw hH hk.1 (.inr (qO _)))
  refine⟨⟨st.bs.set k (.mem ax true (c.take off++er (srt m)++c.drop (off+(er (srt m)).length))),st.flr,st.ro⟩,(srt m).map fun x=>(x.lo,x.hi),Ev.iX rfl ?_,?_,hperm,mE⟩
  ·show ya [.win k ax off es.length 2,.fn 82 []] st=_;have gE:(c.drop off).take (2*es.length)=er m:=by rw[Nat.mul_comm,hc,h1]
   simp only[ya,St.mem_of hm,gE,xb,Gm];rw[decide_eq_true (⟨by rw[Fo,oz],by omega,by omega⟩:m.length=es.length∧1≤es.length∧es.length<1099511627776)];simp only[hwr]
  ·refine hH.zx hj (fun n hn hne=>?_) (by simp) rfl rfl ?_ (fun n hn=>.inl hn) fun n hn=>?_
   ·simp only;rw[List.getElem?_set_ne (fun e=>hne (by simp only[bC.aJ,D.ref];omega))]
   ·have h9:=fQ.win (st:=⟨st.bs.set k (.mem ax true (c.take off++er (srt m)++c.drop (off+(er (srt m)).length))),st.flr,st.ro⟩) (s:=2) k ax off (((srt m).map fun x=>((x.lo,x.hi):Rg)).map au) (c.take off++er (srt m)++c.drop (off+(er (srt m)).length))
     (by simp only;rw[List.getElem?_set_self hk.2]) (by simp only[List.length_append,List.length_take,List.length_map,List.length_drop,wa];omega) ?_ (jM _)
    ·simp only[List.length_map,hlen] at h9;rw[oz];exact h9
    ·have Pp:(c.take off).length=off:=by simp;omega
     rw[List.append_assoc,List.drop_left' Pp,←wm,List.take_left' (by simp only[List.length_map,hlen];omega)]
   ·simp only[bC.aJ,D.ref] at hn;simp only[List.length_set];omega
theorem oi (l:List Rg):(l.foldl cZ []).length≤l.length:=by
 have key:∀(l acc:List Rg),(l.foldl cZ acc).length≤acc.length+l.length:=by
  intro l
  induction l with
  |nil=>intro acc;simp
  |cons x l ih=>
   intro acc;simp only[List.foldl_cons,List.length_cons];have:=ih (cZ acc x)
   have h2:(cZ acc x).length≤acc.length+1:=by
    unfold cZ;split
    ·simp
    ·split<;>simp
   omega
 have:=key l []
 simpa using this
theorem E0 {l:List Rg} (h:∀x∈l,0≤x.2∧x.2≤1114111):∀x∈l.foldl cZ [],0≤x.2∧x.2≤1114111:=by
 have key:∀(l acc:List Rg),(∀x∈l,0≤x.2∧x.2≤1114111)→(∀x∈acc,0≤x.2∧x.2≤1114111)→∀x∈l.foldl cZ acc,0≤x.2∧x.2≤1114111:=by
  intro l
  induction l with
  |nil=>intro acc _ h x hx;exact h x hx
  |cons y l ih=>
   intro acc h1 h2;refine ih _ (fun x hx=>h1 x (List.mem_cons_of_mem _ hx)) fun x hx=>?_;have hy:=h1 y (List.mem_cons_self ..);unfold cZ at hx
   split at hx
   ·simp only[List.mem_cons,List.not_mem_nil,or_false] at hx;rw[hx];exact hy
   ·rename_i k rest;have hk:=h2 k (List.mem_cons_self ..)
    split at hx
    ·rcases List.mem_cons.1 hx with rfl|hx
     ·simp only;omega
     ·exact h2 x (List.mem_cons_of_mem _ hx)
    ·rcases List.mem_cons.1 hx with rfl|hx
     ·exact hy
     ·exact h2 x hx
 exact key l [] h (fun x hx=>by cases hx)
theorem AB (h:Rg) (t:List Rg):((h::t).reverse.map au)[t.length]?=some (au h):=by
 rw[List.getElem?_map,List.reverse_cons,List.getElem?_append_right (by simp)];simp
theorem AA (h h':Rg) (t:List Rg):((h::t).reverse.map au).set t.length (au h')=(h'::t).reverse.map au:=by
 rw[List.reverse_cons,List.map_append,List.set_append_right _ _ (by simp)];simp
theorem xm {s0:St} {x:D} {l:List Rg} (hx:V.Rows s0 2 x (l.map au)) (hl:l.length≤268435456):∃d,Ev pv 76 [x] s0 d s0∧∃all:List Rg,d=bw (all.foldl cZ []).reverse∧all.Perm (l.flatMap db)∧all.Pairwise fun a b=>a.1≤b.1:=by
 refine Ev.ET rfl Qy rfl rfl rfl ?_;dsimp only[u3,u4,List.length,Nat.reduceSub,Nat.reduceAdd,w1,w2];obtain⟨b_,hF,hH⟩:=ri s0;generalize ai .ro s0=S at*;have hx:=Arg.of hx b_;have mT:=gR l
 have hfi:∀i,((l.take i).flatMap db).length≤2*l.length:=fun i=>by
  have:=gR (l.take i);simp only[List.length_take] at this;omega
 refine qq<|qj fun K hK=>qm ?_;refine qe hK<|qq<|qj fun K hK=>qm ?_;refine qm ?_;refine qe hK<|qq<|qq<|qj fun K hK=>qm ?_;refine qn ?_;simp only[List.length_map];refine qm ?_;refine qe hK ?_;have hH:=hH.eo 2;refine af.block<|af.loop (fun mm fr st=>∃(i:Nat) (y:D),fr.clean=⟨26,[x,aQ fr 1,aQ fr 2,y,.nul,aQ fr 5,aQ fr 6,aQ fr 7,aQ fr 8,aQ fr 9,x,.int .i64 (l.length:Nat),.int .i64 (i:Nat),aQ fr 13,aQ fr 14,aQ fr 15,aQ fr 16,aQ fr 17,aQ fr 18,aQ fr 19,aQ fr 20,aQ fr 21,aQ fr 22,aQ fr 23,aQ fr 24,aQ fr 25],[]⟩∧Has s0.bs.length S st [.aJ y 2 (((l.take i).flatMap db).map au)]∧(i+mm=l.length)∧((l.take i).flatMap db=[]→y=.nul)) (l.length) ?_ ?_
 ·exact⟨0,.nul,rfl,hH,by omega,fun _=>rfl⟩
 rintro mm fr st ⟨i,y,hfr,hH,hi,J8⟩;rw[hfr];clear hfr;generalize aQ fr=ee;clear fr;refine qq<|qj fun K hK=>qg ?_;refine qe hK ?_;have hm:=hfi i;refine qq ?_;refine af.cond (by rfl) (fun h1=>?_) (fun h1=>?_)<;>try simp only[decide_eq_true_eq,decide_eq_false_iff_not] at h1
 ·refine af.skip ?_
  obtain⟨q,hq⟩:∃q,l[i]?=some q:=⟨l[i]'(by omega),List.getElem?_eq_getElem _⟩
  have hr:=fc hq
  have Fq:(l.take (i+1)).flatMap db=(l.take i).flatMap db++db q:=by
   rw[List.take_add_one,hq];simp
  have WQ:=nH q;refine qq<|af.block<|qq<|qj fun K hK=>qr fun WK Ux=>?_;refine ab.dE rfl (ev rfl) (by assumption) rfl (by dsimp only[Fr.put,u1,u2]<;>rfl) ?_;refine qa hH fun k6 st Ke hH=>?_;refine qS hH ay fun st hH=>?_;dsimp only[u2,u1,u3,u4,setMany,u5,u6,D.cells,Nat.reduceAdd,au] at hH;refine qe hK<|qj fun K hK=>qm ?_;refine ab.bN (m:=2) hH rfl (ev rfl) (by exact ay) (by dsimp only[List.drop_succ_cons,List.drop_zero,List.take_succ_cons,List.take_zero,au]<;>rfl) rfl rfl (by dsimp only[Fr.put,u1,u2]<;>rfl) ?_;refine qv (zM q) ?_;refine ab.Bb hH rfl rfl rfl (by exact b5) (eM _ _) rfl rfl rfl rfl rfl rfl rfl ⟨(Nat.le_of_ble_eq_true rfl),(Nat.le_of_ble_eq_true rfl)⟩ (fun _=>by dsimp only[Fr.put,u1,u2]<;>rfl) (by simp only[List.length_map];omega) (.inl hF) (fun NN st MN hH=>?_);dsimp only[u2,u1] at hH;refine qm ?_;refine qe hK<|qj fun K hK=>qA ?_;refine qm ?_;refine qe hK ?_;exact⟨mm-1,by omega,⟨i+1,NN,rfl,(by rw[Fq,List.map_append];exact hH.drop 1),by omega,by rw[Fq];intro h;obtain⟨h3,h4⟩:=List.append_eq_nil_iff.1 h;rw[MN (by rw[h4];rfl)];exact J8 h3⟩⟩
 ·refine af.exit ?_;have hT:l.take i=l:=List.take_of_length_le (by omega);rw[hT] at hH J8 hm
  obtain⟨st2,all,aH,N5,hperm,mE⟩:=A_ hH ay J8 (by omega) (fun z hz=>by
   obtain⟨w,_,hw⟩:=List.mem_flatMap.1 hz
   exact yi w z hw)
  have hlen:=hperm.length_eq
  have hbd:∀z∈all,0≤z.2∧z.2≤1114111:=fun z hz=>by
   obtain⟨w,_,hw⟩:=List.mem_flatMap.1 (hperm.mem_iff.1 hz);have:=lI w z hw;omega
  refine qq<|qj fun K hK=>qm ?_;refine qv (aH) ?_;refine qe hK ?_;have hH:=N5;dsimp only[u2] at hH;clear N5 aH;have hR:=hH.rows ay;have hH:=hH.eo 2;refine qq<|qq<|qj fun K hK=>qm ?_;refine qn ?_ (hR:=hH.rows b5);simp only[List.length_map];refine qm ?_;refine qe hK<|af.block<|af.loop (fun mm fr st=>∃(i:Nat) (z:D),fr.clean=⟨26,[x,aQ fr 1,aQ fr 2,y,z,aQ fr 5,aQ fr 6,aQ fr 7,aQ fr 8,aQ fr 9,aQ fr 10,aQ fr 11,aQ fr 12,aQ fr 13,aQ fr 14,aQ fr 15,aQ fr 16,aQ fr 17,aQ fr 18,aQ fr 19,aQ fr 20,aQ fr 21,aQ fr 22,y,.int .i64 (all.length:Nat),.int .i64 (i:Nat)],[]⟩∧Has s0.bs.length S st [.aJ z 2 (((all.take i).foldl cZ []).reverse.map au),.aJ y 2 (all.map au)]∧(i+mm=all.length)) (all.length) ?_ ?_
  ·exact⟨0,.nul,rfl,hH,by omega⟩
  rintro mm fr st ⟨i,z,hfr,hH,hi⟩;rw[hfr];clear hfr;generalize aQ fr=ee;clear fr;refine qq<|qj fun K hK=>qg ?_;refine qe hK ?_
  have jW:((all.take i).foldl cZ []).length≤all.length:=by
   have:=oi (all.take i);simp only[List.length_take] at this;omega
  refine qq ?_;refine af.cond (by rfl) (fun h1=>?_) (fun h1=>?_)<;>try simp only[decide_eq_true_eq,decide_eq_false_iff_not] at h1
  ·refine af.skip ?_
   obtain⟨q,hq⟩:∃q,all[i]?=some q:=⟨all[i]'(by omega),List.getElem?_eq_getElem _⟩
   have hr:=fc hq
   have Kg:(all.take (i+1)).foldl cZ []=cZ ((all.take i).foldl cZ []) q:=by
    rw[List.take_add_one,hq,List.foldl_append];rfl
   generalize Fy:(all.take i).foldl cZ []=acc at*;refine qq<|af.block<|qq<|qj fun K hK=>qi hH b5 fun WJ Uw=>?_;refine ab.rH hH rfl (ev rfl) (by assumption) (by exact b5) (by assumption) rfl (ag rfl _) ?_;refine qa hH fun k8 st NY hH=>?_;refine qS hH ay fun st hH=>?_;dsimp only[u2,u1,u3,u4,setMany,u5,u6,D.cells,Nat.reduceAdd,au] at hH;refine qe hK ?_
   rcases acc with _|⟨h,t⟩
   ·refine qq<|qj fun K hK=>qm ?_;refine qn ?_ (hR:=hH.rows b5);simp only[List.length_map,List.length_nil,List.length_reverse];refine ab.mN (z:=(-1)) rfl (ev rfl) (ev rfl) (by(try simp only[List.length_reverse,List.length_cons,List.length_nil,List.length_append,List.length_map,List.length_set]);rw[wrap_i64 (by omega) (by omega)]<;>omega) (ag rfl _) ?_;refine qm ?_;refine qe hK ?_;have bf:decide ((-1:Int)≥0)=false:=by decide
    refine qq<|af.j8 44 (.bool false) [] ?_ (fun ff tmp gB=>?_)
    ·refine qm ?_;refine qg ?_;refine qm ?_;refine qs ?_ (hg:=wn bf);refine qs ?_ (hg:=wn bf);refine qs ?_ (hg:=wn bf);refine qs ?_ (hg:=wn bf);refine qs ?_ (hg:=wn bf);refine qs ?_ (hg:=wn bf);refine qs ?_ (hg:=wn bf);refine qs ?_ (hg:=wn bf);refine qs ?_ (hg:=wn bf);refine qu bf ?_;refine ab.nil (cP ?_ ?_)
     ·dsimp only[aI,List.foldl,nth,u2,u1]
      all_goals(first|rfl|simp)
     ·dsimp only[Fr.aC,Fr.put,Fr.clean,Fr.ev,Fr.get,nth,look,u1,u2,v1,v2,v4]
      all_goals(first|rfl|(simp[bf];done)|(simp_all;done)|(simp[bf];omega)|(simp_all;omega))
    dsimp only[aI,List.foldl,nth,u2,u1];dsimp only[Fr.aC,Fr.put,Fr.clean,Fr.ev,Fr.get,nth,look,u1,u2,v1,v2,v4];refine qC ?_;refine qj fun K hK=>qm ?_;refine ab.bN (m:=2) hH rfl (ev rfl) (by exact ay) (by dsimp only[List.drop_succ_cons,List.drop_zero,List.take_succ_cons,List.take_zero,au]<;>rfl) rfl rfl (ag rfl _) ?_;refine qh (s:=2) (vs:=[_]) hH fun k59 st Pw hH=>?_;refine ab.bR (s:=2) hH rfl (ev rfl) (ev rfl) (by exact eV) (by exact hH.rows (by exact ay)) rfl rfl rfl rfl rfl rfl rfl ⟨(Nat.le_of_ble_eq_true rfl),(Nat.le_of_ble_eq_true rfl)⟩ (fun _=>(ag rfl _)) (by simp only[List.length_cons,List.length_nil,List.length_map,List.length_reverse]<;>omega) (by exact .inl hF) (fun N9 st hH=>?_);dsimp only[u2,u1,u3,u4,setMany,u5,u6,D.cells,Nat.reduceAdd,au] at hH;refine qm ?_;refine qe hK<|qj fun K hK=>qA ?_;refine qm ?_;refine qe hK ?_;exact⟨mm-1,by omega,⟨i+1,N9,rfl,(by rw[Kg];exact hH.drop 2),by omega⟩⟩
   ·simp only[List.length_cons] at jW;refine qq<|qj fun K hK=>qm ?_;refine qn ?_ (hR:=hH.rows b5);simp only[List.length_map,List.length_cons,List.length_reverse];refine ab.mN (z:=((t.length:Nat):Int)) rfl (ev rfl) (ev rfl) (by(try simp only[List.length_reverse,List.length_cons,List.length_nil,List.length_append,List.length_map,List.length_set]);rw[wrap_i64 (by omega) (by omega)]<;>omega) (ag rfl _) ?_;refine qm ?_;refine qe hK ?_;have xz:=AB h t;have gC:=AA h (h.1,max h.2 q.2) t;have yN:=E0 (l:=all.take i) (fun x hx=>hbd x (List.mem_of_mem_take hx)) h (by rw[Fy];exact List.mem_cons_self ..);have bf:decide (((t.length:Nat):Int)≥0)=true:=by rw[decide_eq_true];omega
    refine qq<|af.j8 44 (.bool (decide (q.1≤h.2+1))) [] ?_ (fun ff tmp gB=>?_)
    ·refine qm ?_;refine qg ?_;refine qm ?_;refine qp (o:=0) ?_ (hg:=wi bf);refine ql hH ay ?_ (hg:=wi bf);refine qm ?_ (hg:=wi bf);refine qm ?_ (hg:=wi bf);refine qi hH b5 (fun Tj Pb=>?_) (hg:=wi bf);refine ab.fY (fo:=1) (m:=0) (o2:=1) (aB rfl rfl rfl bf) (ev rfl) (by assumption) rfl rfl rfl (fun _=>(ag rfl _)) (fun Ti Pa=>?_);refine qo hH b5 ?_ (hg:=wi bf);refine ab.K0 (aB rfl rfl rfl bf) (ev rfl) (ev rfl) (by omega) (by omega) (ag rfl _) ?_;refine qg ?_ (hg:=wi bf);refine qt bf ?_;refine ab.nil (cP ?_ ?_)
     ·dsimp only[aI,List.foldl,nth,u2,u1]
      all_goals(first|rfl|simp)
     ·dsimp only[Fr.aC,Fr.put,Fr.clean,Fr.ev,Fr.get,nth,look,u1,u2,v1,v2,v4]
      all_goals(first|rfl|(simp[bf];done)|(simp_all;done)|(simp[bf];omega)|(simp_all;omega))
    dsimp only[aI,List.foldl,nth,u2,u1];dsimp only[Fr.aC,Fr.put,Fr.clean,Fr.ev,Fr.get,nth,look,u1,u2,v1,v2,v4];refine af.cond (by assumption) (fun h2=>?_) (fun h2=>?_)<;>try simp only[decide_eq_true_eq,decide_eq_false_iff_not] at h2
    ·refine qj fun K hK=>qm ?_;refine qm ?_;refine qm ?_;refine qm ?_;refine qi hH b5 fun RX MA=>?_;refine ab.fY (fo:=1) (m:=0) (o2:=1) rfl (ev rfl) (by assumption) rfl rfl rfl (fun _=>(ag rfl _)) (fun RW Mz=>?_);refine qo hH b5 ?_;refine qp (o:=1) ?_;refine ql hH ay ?_;refine ab.EV (t1:=0) (t2:=0) rfl (ev rfl) (ev rfl) (ag rfl _) ?_;refine qi hH b5 fun Wy Um=>?_;refine ab.fY (fo:=1) (m:=0) (o2:=1) rfl (ev rfl) (by assumption) rfl rfl rfl (fun _=>(ag rfl _)) (fun Wx Ul=>?_);refine ab.lO hH rfl (ev rfl) (ev rfl) (by assumption) rfl rfl (by exact b5) (by assumption) (Nat.le_of_ble_eq_true rfl) (by exact .inl hF) (fun st hH=>?_);dsimp only[u2,u1,u3,u4,setMany,u5,u6,D.cells,Nat.reduceAdd,au] at hH;refine qe hK<|qj fun K hK=>qA ?_;refine qm ?_;refine qe hK ?_;exact⟨mm-1,by omega,⟨i+1,z,rfl,(by rw[Kg];simp only[cZ,if_pos h2];rw[←gC];exact hH.drop 1),by omega⟩⟩
    ·refine qj fun K hK=>qm ?_;refine ab.bN (m:=2) hH rfl (ev rfl) (by exact ay) (by dsimp only[List.drop_succ_cons,List.drop_zero,List.take_succ_cons,List.take_zero,au]<;>rfl) rfl rfl (ag rfl _) ?_;refine qh (s:=2) (vs:=[_]) hH fun k59 st Pw hH=>?_;refine ab.bR (s:=2) hH rfl (ev rfl) (ev rfl) (by exact eV) (by exact hH.rows (by exact ay)) rfl rfl rfl rfl rfl rfl rfl ⟨(Nat.le_of_ble_eq_true rfl),(Nat.le_of_ble_eq_true rfl)⟩ (fun _=>(ag rfl _)) (by simp only[List.length_cons,List.length_nil,List.length_map,List.length_reverse]<;>omega) (by exact .inl hF) (fun N9 st hH=>?_);dsimp only[u2,u1,u3,u4,setMany,u5,u6,D.cells,Nat.reduceAdd,au] at hH;refine qm ?_;refine qe hK<|qj fun K hK=>qA ?_;refine qm ?_;refine qe hK ?_;exact⟨mm-1,by omega,⟨i+1,N9,rfl,(by rw[Kg];simp only[cZ,if_neg h2];rw[List.reverse_cons (a:=q),List.map_append];exact hH.drop 2),by omega⟩⟩
  ·refine af.exit<|qq<|qj fun K hK=>qm ?_;refine qm ?_;refine qe hK ?_;rw[List.take_of_length_le (by omega)] at hH;refine af.ret ⟨rx,_,_,rfl,rl b_ hH ((hH.freeze ay (dF _) (n:=15) (by decide))),?_⟩;exact⟨all,by rw[gh],hperm,mE⟩
def gW (fr:Go.V.Fr) (k:Nat):Go.V.D:=Go.V.nth .bp fr.loc k
def fx (l a:List Rg):Prop:=canon a∧∀r,eJ a r↔lZ r∧eJ l r
theorem fx.unique {l a b:List Rg} (h:fx l a) (g:fx l b):a=b:=ln h.1 g.1 fun r=>(h.2 r).trans (g.2 r).symm
noncomputable def eA (l:List Rg):Bool:=@decide (fx l l) (Classical.propDecidable _)
theorem ym {l a:List Rg} (h:fx l a):eA l=decide (l=a):=by
 unfold eA
 by_cases hl:l=a
 ·rw[decide_eq_true hl];exact@decide_eq_true _ (Classical.propDecidable _) (by rw[hl] at h⊢;exact h)
 ·rw[decide_eq_false hl];exact@decide_eq_false _ (Classical.propDecidable _) (fun g=>hl (g.unique h))
theorem yC (p q:Rg):kC pv .neq 137 (.agg (au p)) (.agg (au q))=some (.bool (!decide (p=q))):=by
 have h:∀a b a' b':Int,kC pv .neq 137 (.agg [.int .i32 a,.int .i32 b]) (.agg [.int .i32 a',.int .i32 b'])=Option.map (fun b=>D.bool !b) (match some (a==a') with|some true=>(match some (b==b') with|some true=>some true|some false=>some false|none=>none)|some false=>some false|none=>none):=fun _ _ _ _=>rfl;obtain⟨a,b⟩:=p;obtain⟨a',b'⟩:=q;simp only[au,h]
 by_cases h1:a=a'
 ·subst h1
  by_cases h2:b=b'
  ·subst h2;simp
  ·have:(b==b')=false:=by simpa using h2
   simp[this,h2]
 ·have:(a==a')=false:=by simpa using h1
  simp[this,h1]
theorem rq {α:Type} {a b:List α} {i:Nat} {x y:α} (ha:a[i]?=some x) (hb:b[i]?=some y) (h:a.take i=b.take i) (Mi:x=y):a.take (i+1)=b.take (i+1):=by
 rw[List.take_add_one,List.take_add_one,h,ha,hb,Mi]
theorem yD {α:Type} {a b:List α} {i:Nat} {x y:α} (ha:a[i]?=some x) (hb:b[i]?=some y) (Mi:¬x=y):¬a=b:=by
 intro h;subst h;rw[ha] at hb;exact Mi (Option.some.inj hb)
theorem Bi {s0:St} {x y:D} {l m:List Rg} (hx:V.Rows s0 2 x (l.map au)) (hy:V.Rows s0 2 y (m.map au)) (hl:l.length≤1073741824) (hm:m.length≤1073741824):Ev pv 75 [x,y] s0 (.bool (decide (l=m))) s0:=by
 refine Ev.nZ rfl Qz rfl rfl rfl ?_;dsimp only[u3,u4,List.length,Nat.reduceSub,Nat.reduceAdd,w1,w2];obtain⟨b_,hF,hH⟩:=ri s0;generalize ai .ro s0=S at*;have hx:=Arg.of hx b_;have hy:=Arg.of hy b_;refine qq<|qj fun K hK=>qm ?_;refine qe hK<|qq<|qq<|qj fun K hK=>qm ?_;refine qn ?_;simp only[List.length_map];refine qm ?_;refine qn ?_;simp only[List.length_map];refine qg ?_;refine qe hK ?_
 by_cases hlen:l.length=m.length
 ·refine af.cond (v:=false) ?_ (fun h=>by cases h) (fun _=>?_)
  ·dsimp only[Fr.ev,Fr.get,nth,V.look];rw[hlen];simp
  refine af.skip<|qq<|qq<|qj fun K hK=>qm ?_;refine qn ?_;simp only[List.length_map];refine qm ?_;refine qe hK<|af.block<|af.loop (fun mm fr st=>∃(i:Nat),fr.clean=⟨14,[x,y,gW fr 2,gW fr 3,.bool false,gW fr 5,gW fr 6,gW fr 7,gW fr 8,gW fr 9,gW fr 10,gW fr 11,.int .i64 (l.length:Nat),.int .i64 (i:Nat)],[]⟩∧Has s0.bs.length S st []∧(i+mm=l.length)∧(l.take i=m.take i)) (l.length) ?_ ?_
  ·exact⟨0,rfl,hH,by omega,rfl⟩
  rintro mm fr st ⟨i,hfr,hH,hi,ht⟩;rw[hfr];clear hfr;generalize gW fr=ee;clear fr;refine qq<|qj fun K hK=>qg ?_;refine qe hK<|qq ?_;refine af.cond (by rfl) (fun h1=>?_) (fun h1=>?_)<;>try simp only[decide_eq_true_eq,decide_eq_false_iff_not] at h1
  ·refine af.skip ?_
   obtain⟨p,hp⟩:∃p,l[i]?=some p:=⟨l[i]'(by omega),List.getElem?_eq_getElem _⟩
   obtain⟨q,hq⟩:∃q,m[i]?=some q:=⟨m[i]'(by omega),List.getElem?_eq_getElem _⟩
   have gD:=fc hp;have o6:=fc hq;refine qq<|af.block<|qq<|qj fun K hK=>qm ?_;refine qm ?_;refine qe hK<|qq<|qj fun K hK=>qm ?_;refine qm ?_;refine qr fun R4 MG=>?_;refine ab.dE rfl (ev rfl) (by assumption) rfl (ag rfl _) ?_;refine qm ?_;refine qm ?_;refine qr fun Oi J4=>?_;refine ab.dE rfl (ev rfl) (by assumption) rfl (ag rfl _) ?_;refine ab.Ou rfl (ev rfl) (ev rfl) (yC p q) (ag rfl _) ?_;refine qe hK ?_;refine af.cond (by rfl) (fun h2=>?_) (fun h2=>?_)<;>try simp only[decide_eq_true_eq,decide_eq_false_iff_not,Bool.not_eq_true',Bool.not_eq_false'] at h2
   ·refine qq<|qj fun K hK=>qm ?_;refine qe hK ?_;rw[decide_eq_false (yD hp hq (by simpa using h2))];refine af.ret ⟨rx,_,rfl,rl b_ hH (rfl)⟩
   ·refine af.skip<|qj fun K hK=>qA ?_;refine qm ?_;refine qe hK ?_;exact⟨mm-1,by omega,⟨i+1,rfl,hH,by omega,rq hp hq ht (by simpa using h2)⟩⟩
  ·refine af.exit<|qq<|qj fun K hK=>qm ?_;refine qe hK ?_;rw[decide_eq_true (by rw[List.take_of_length_le (by omega),List.take_of_length_le (by omega)] at ht;exact ht)];refine af.ret ⟨rx,_,rfl,rl b_ hH (rfl)⟩
 ·refine af.cond (v:=true) ?_ (fun _=>?_) (fun h=>by cases h)
  ·dsimp only[Fr.ev,Fr.get,nth,V.look];simp;omega
  refine qq<|qj fun K hK=>qm ?_;refine qe hK ?_;rw[decide_eq_false (fun h=>hlen (by rw[h]))];refine af.ret ⟨rx,_,rfl,rl b_ hH (rfl)⟩
theorem tq {s0:St} {x:D} {l:List Rg} (hx:V.Rows s0 2 x (l.map au)) (hl:l.length≤1048576):Ev pv 68 [x] s0 (.bool (eA l)) s0:=by
 refine Ev.nZ rfl QE rfl rfl rfl ?_;dsimp only[u3,u4,List.length,Nat.reduceSub,Nat.reduceAdd,w1,w2];obtain⟨b_,hF,hH⟩:=ri s0;generalize ai .ro s0=S at*;have hx:=Arg.of hx b_;refine qq<|qj fun K hK=>qm ?_;refine qe hK ?_;obtain⟨_,aH,all,rfl,hperm,mE⟩:=xm (hx.rows hH) (by omega);have hM:fx l (all.foldl cZ []).reverse:=n9 (fun x=>hperm.mem_iff) mE;have hlen:=hperm.length_eq;have mT:=gR l;have jW:=oi all;rw[ym hM];refine qq<|qj fun K hK=>qm ?_;refine qm ?_;refine qv (aH) ?_;refine qv (Bi (hx.rows hH) (eM _ _) (by omega) (by rw[List.length_reverse];omega)) ?_;refine qm ?_;refine qe hK<|af.ret ⟨rx,_,rfl,rl b_ hH (rfl)⟩
structure aG where
 op:Int
 x:Int
 y:Int
 rd:D
 rs:List Rg
def aM (i:aG):List D:=[.int .i64 i.op,.int .i64 i.x,.int .i64 i.y,i.rd]
def aG.ok (i:aG):Prop:=fK i.rd 2 (i.rs.map au)∧i.rs.length≤1048576
def aw (n:Int):List D:=[.int .i64 n]
structure Pg where
 cd:D
 code:List aG
 sd:D
 az:List Int
structure Pg.ok (p:Pg):Prop where
 c:fK p.cd 4 (p.code.map aM)
 s:fK p.sd 1 (p.az.map aw)
 i:∀x∈p.code,x.ok
 cl:p.code.length≤1048576
 sl:p.az.length≤1048576
def Pg.cs (p:Pg):List D:=[p.cd,p.sd]
def Pg.d (p:Pg):D:=.agg p.cs
theorem gK {l:List aG} {i:Nat} {q:aG} (h:l[i]?=some q):(l.map aM)[i]?=some (aM q):=by rw[List.getElem?_map,h];rfl
theorem eO {l:List Int} {i:Nat} {q:Int} (h:l[i]?=some q):(l.map aw)[i]?=some (aw q):=by rw[List.getElem?_map,h];rfl
def ot (v n:Int):Bool:=decide (v≥0) &&decide (v<n)
noncomputable def da (n ns pc:Nat) (i:aG):Bool:=
 if i.op=1 then i.y==0 &&(decide (((pc+1:Nat):Int)<n) &&i.x==0 &&eA i.rs)
 else i.rs.isEmpty &&
  (if i.op=2 then ot i.x n &&ot i.y n
  else i.y==0 &&
   (if i.op=3 then ot i.x n
   else if i.op=4 then decide (((pc+1:Nat):Int)<n) &&ot i.x 10
   else if i.op=5∨i.op=6 then decide (((pc+1:Nat):Int)<n) &&i.x==0
   else if i.op=7 then ot i.x ns
   else false))
theorem ga {s0:St} (v n:Int):Ev pv 53 [.int .i64 v,.int .i64 n] s0 (.bool (ot v n)) s0:=by
 refine Ev.nZ rfl QM rfl rfl rfl ?_;dsimp only[u3,u4,List.length,Nat.reduceSub,Nat.reduceAdd,w1,w2];obtain⟨b_,hF,hH⟩:=ri s0;generalize ai .ro s0=S at*;refine qq<|qj fun K hK=>qm ?_;refine qe hK<|qq<|af.k_ 4 (.bool (decide (v≥0) &&decide (v<n))) [] ?_ (fun ff tmp=>?_)
 ·refine qm ?_;refine qg ?_;refine qm ?_;refine ab.two 7 rfl (fun bf=>?_) (fun bf=>?_)
  ·refine qm ?_ (hg:=wi bf);refine qm ?_ (hg:=wi bf);refine qg ?_ (hg:=wi bf);refine qt bf ?_;refine qm ?_;refine ab.nil (aU ?_);dsimp only[aI,List.foldl,nth,u2,u1];dsimp only[Fr.aC,Fr.put,Fr.clean,Fr.ev,Fr.get,nth,V.look,u1,u2,v1,v2,v3,v4,v5,v6,v7,List.length,u3,u4,Nat.reduceSub,Nat.reduceAdd,List.map]
   all_goals(simp[bf];done)
  ·refine qs ?_ (hg:=wn bf);refine qs ?_ (hg:=wn bf);refine qs ?_ (hg:=wn bf);refine qu bf ?_;refine qm ?_;refine ab.nil (aU ?_);dsimp only[aI,List.foldl,nth,u2,u1];dsimp only[Fr.aC,Fr.put,Fr.clean,Fr.ev,Fr.get,nth,V.look,u1,u2,v1,v2,v3,v4,v5,v6,v7,List.length,u3,u4,Nat.reduceSub,Nat.reduceAdd,List.map]
   all_goals(simp[bf];done)
 dsimp only[aI,List.foldl,nth,u2,u1];refine af.ret ⟨rx,_,rfl,rl b_ hH (rfl)⟩
theorem yc {s0:St} {p:Pg} {pc:Nat} {i:aG} (hp:p.ok) (hi:p.code[pc]?=some i):Ev pv 52 [p.d,.int .i64 (pc:Nat)] s0 (.bool (da p.code.length p.az.length pc i)) s0:=by
 refine Ev.nZ rfl QN rfl rfl rfl ?_;dsimp only[u3,u4,List.length,Nat.reduceSub,Nat.reduceAdd,w1,w2];obtain⟨b_,hF,hH⟩:=ri s0;generalize ai .ro s0=S at*;have hc:=hp.c.arg s0.bs.length S;have hs:=hp.s.arg s0.bs.length S;have M5:=hp.i i (List.mem_of_getElem? hi);have PD:=M5.1.arg s0.bs.length S;have hil:=M5.2;have hcl:=hp.cl;have iV:=hp.sl;have hr:=gK hi;have hlt:=bt hi;unfold Pg.d;refine qq<|qj fun K hK=>qb hH fun k2 st hk2 hH=>?_;dsimp only[u2,u1,u3,u4,setMany,u5,u6,D.cells,Nat.reduceAdd,Pg.cs,aM,aw] at hH;refine qm ?_;refine qe hK<|qq<|qj fun K hK=>qp (o:=0) ?_;refine ql hH ay ?_;refine qm ?_;refine qr fun R7 MK=>?_;refine ab.dE rfl (ev rfl) (by assumption) rfl (by dsimp only[Fr.put,u1,u2]<;>rfl) ?_;refine qa hH fun k5 st Ga hH=>?_;refine qS hH ay fun st hH=>?_;dsimp only[u2,u1,u3,u4,setMany,u5,u6,D.cells,Nat.reduceAdd,Pg.cs,aM,aw] at hH;refine qe hK<|qq<|qj fun K hK=>qm ?_;refine qA ?_;refine qp (o:=0) ?_;refine ql hH b5 ?_;refine qn ?_;simp only[List.length_map];refine qg ?_;refine qm ?_;refine qe hK<|qq<|qq<|af.k_ 36 (.bool (((i.op !=1) &&decide ((i.rs.length:Int)>0))||((i.op !=2) &&(i.y !=0)))) [18,19,20,21,22,23,24,25,26,27,28,29,30,31,32,33,34,35] ?_ (fun ff tmp=>?_)
 ·refine qp (o:=0) ?_;refine ql hH ay ?_;refine qg ?_;refine qm ?_;refine ab.two 21 rfl (fun bF=>?_) (fun bF=>?_)
  ·refine qp (o:=3) ?_ (hg:=wi bF);refine ql hH ay ?_ (hg:=wi bF);refine qn ?_ (hg:=wi bF);simp only[List.length_map];refine qg ?_ (hg:=wi bF);refine qt bF ?_;refine qm ?_;refine ab.two 27 rfl (fun cw=>?_) (fun cw=>?_)
   ·refine qs ?_ (hg:=wn cw);refine qs ?_ (hg:=wn cw);refine qs ?_ (hg:=wn cw);refine qs ?_ (hg:=wn cw);refine qs ?_;refine qs ?_;refine qs ?_;refine qs ?_ (hg:=wn cw);refine qt cw ?_;refine ab.nil (aU ?_);dsimp only[aI,List.foldl,nth,u2,u1];dsimp only[Fr.aC,Fr.put,Fr.clean,Fr.ev,Fr.get,nth,V.look,u1,u2,v1,v2,v3,v4,v5,v6,v7,List.length,u3,u4,Nat.reduceSub,Nat.reduceAdd,List.map]
    all_goals(simp_all;done)
   ·refine qp (o:=0) ?_ (hg:=wi cw);refine ql hH ay ?_ (hg:=wi cw);refine qg ?_ (hg:=wi cw);refine qm ?_ (hg:=wi cw);refine ab.two 31 rfl (fun cG=>?_) (fun cG=>?_)
    ·refine qp (o:=2) ?_ (hg:=wi cG);refine ql hH ay ?_ (hg:=wi cG);refine qg ?_ (hg:=wi cG);refine ab.dG (aB rfl rfl rfl cw) rfl cG (by dsimp only[Fr.put,u1,u2]<;>rfl) ?_;refine qu cw ?_;refine ab.nil (aU ?_);dsimp only[aI,List.foldl,nth,u2,u1];dsimp only[Fr.aC,Fr.put,Fr.clean,Fr.ev,Fr.get,nth,V.look,u1,u2,v1,v2,v3,v4,v5,v6,v7,List.length,u3,u4,Nat.reduceSub,Nat.reduceAdd,List.map]
     all_goals(simp_all;done)
    ·refine qs ?_ (hg:=wn cG);refine qs ?_ (hg:=wn cG);refine qs ?_ (hg:=wn cG);refine ab.cX (aB rfl rfl rfl cw) rfl cG (by dsimp only[Fr.put,u1,u2]<;>rfl) ?_;refine qu cw ?_;refine ab.nil (aU ?_);dsimp only[aI,List.foldl,nth,u2,u1];dsimp only[Fr.aC,Fr.put,Fr.clean,Fr.ev,Fr.get,nth,V.look,u1,u2,v1,v2,v3,v4,v5,v6,v7,List.length,u3,u4,Nat.reduceSub,Nat.reduceAdd,List.map]
     all_goals(simp_all;done)
  ·refine qs ?_ (hg:=wn bF);refine qs ?_ (hg:=wn bF);refine qs ?_ (hg:=wn bF);refine qs ?_ (hg:=wn bF);refine qu bF ?_;refine qm ?_;refine qp (o:=0) ?_;refine ql hH ay ?_;refine qg ?_;refine qm ?_;refine ab.two 31 rfl (fun cG=>?_) (fun cG=>?_)
   ·refine qp (o:=2) ?_ (hg:=wi cG);refine ql hH ay ?_ (hg:=wi cG);refine qg ?_ (hg:=wi cG);refine qt cG ?_;refine qg ?_;refine ab.nil (aU ?_);dsimp only[aI,List.foldl,nth,u2,u1];dsimp only[Fr.aC,Fr.put,Fr.clean,Fr.ev,Fr.get,nth,V.look,u1,u2,v1,v2,v3,v4,v5,v6,v7,List.length,u3,u4,Nat.reduceSub,Nat.reduceAdd,List.map]
    all_goals(simp[bF,cG];done)
   ·refine qs ?_ (hg:=wn cG);refine qs ?_ (hg:=wn cG);refine qs ?_ (hg:=wn cG);refine qu cG ?_;refine qg ?_;refine ab.nil (aU ?_);dsimp only[aI,List.foldl,nth,u2,u1];dsimp only[Fr.aC,Fr.put,Fr.clean,Fr.ev,Fr.get,nth,V.look,u1,u2,v1,v2,v3,v4,v5,v6,v7,List.length,u3,u4,Nat.reduceSub,Nat.reduceAdd,List.map]
    all_goals(simp[bF,cG];done)
 dsimp only[aI,List.foldl,nth,u2,u1];generalize ff 18=Xn;generalize ff 19=Xl;generalize ff 20=Xk;generalize ff 21=Xj;generalize ff 22=Xi;generalize ff 23=Xh;generalize ff 24=Xg;generalize ff 25=Xf;generalize ff 26=Xe;generalize ff 27=Xd;generalize ff 28=Xc;generalize ff 29=Xb;generalize ff 30=Xa;generalize ff 31=W_;generalize ff 32=W9;generalize ff 33=W8;generalize ff 34=W7;generalize ff 35=W6;have MU:(i.rs.isEmpty=!decide ((i.rs.length:Int)>0)):=by cases i.rs<;>simp<;>omega
 have hsh:da p.code.length p.az.length pc i=if((i.op !=1) &&decide ((i.rs.length:Int)>0))||((i.op !=2) &&(i.y !=0)) then false else
   (if i.op=1 then(decide (((pc+1:Nat):Int)<p.code.length) &&i.x==0) &&eA i.rs
   else if i.op=2 then ot i.x p.code.length &&ot i.y p.code.length
   else if i.op=3 then ot i.x p.code.length
   else if i.op=4 then decide (((pc+1:Nat):Int)<p.code.length) &&ot i.x 10
   else if i.op=5 then decide (((pc+1:Nat):Int)<p.code.length) &&i.x==0
   else if i.op=6 then decide (((pc+1:Nat):Int)<p.code.length) &&i.x==0
   else if i.op=7 then ot i.x p.az.length
   else false):=by
  unfold da;rw[MU];generalize decide ((i.rs.length:Int)>0)=b
  by_cases h1:i.op=1
  ·have h2:i.op≠2:=by omega
   simp only[h1];cases b<;>by_cases hy:i.y=0<;>simp[hy]
  ·by_cases h2:i.op=2
   ·simp only[h2];cases b<;>simp
   ·by_cases SK:i.op=5
    ·simp only[SK];cases b<;>by_cases hy:i.y=0<;>simp[hy]
    ·cases b<;>by_cases hy:i.y=0<;>simp[h1,h2,SK,hy]
 rw[hsh];refine qc (fun h0=>?_) (fun h0=>?_)<;>try simp only[cs] at h0
 ·refine qq<|qj fun K hK=>qm ?_;refine qe hK ?_;rw[if_pos h0];refine af.ret ⟨rx,_,rfl,rl b_ hH (rfl)⟩
 ·rw[if_neg (by rw[h0];simp)];refine af.skip<|qq<|qq<|qj fun K hK=>qp (o:=0) ?_;refine ql hH ay ?_;refine qe hK<|af.block<|qq<|qj fun K hK=>qg ?_;refine qm ?_;refine qe hK ?_;refine af.cond (by rfl) (fun h1=>?_) (fun h1=>?_)<;>try simp only[beq_iff_eq,beq_eq_false_iff_ne,ne_eq] at h1
  ·rw[if_pos h1];refine qq<|af.k_ 4 (.bool ((decide (((pc+1:Nat):Int)<p.code.length) &&(i.x==0)) &&eA i.rs)) [] ?_ (fun ff tmp=>?_)
   ·refine qm ?_;refine qm ?_;refine ab.two 42 rfl (fun cS=>?_) (fun cS=>?_)
    ·refine qp (o:=1) ?_ (hg:=wi cS);refine ql hH ay ?_ (hg:=wi cS);refine qg ?_ (hg:=wi cS);refine qt cS ?_;refine qm ?_;refine ab.two 47 rfl (fun dM=>?_) (fun dM=>?_)
     ·refine qp (o:=3) ?_ (hg:=wi dM);refine ql hH ay ?_ (hg:=wi dM);refine qv (tq (PD.rows hH) hil) ?_ (hg:=wi dM);refine qt dM ?_;refine qm ?_;refine ab.nil (aU ?_);dsimp only[aI,List.foldl,nth,u2,u1];dsimp only[Fr.aC,Fr.put,Fr.clean,Fr.ev,Fr.get,nth,V.look,u1,u2,v1,v2,v3,v4,v5,v6,v7,List.length,u3,u4,Nat.reduceSub,Nat.reduceAdd,List.map]
      all_goals(simp[cS,dM];done)
     ·refine qs ?_ (hg:=wn dM);refine qs ?_ (hg:=wn dM);refine qs ?_ (hg:=wn dM);refine qu dM ?_;refine qm ?_;refine ab.nil (aU ?_);dsimp only[aI,List.foldl,nth,u2,u1];dsimp only[Fr.aC,Fr.put,Fr.clean,Fr.ev,Fr.get,nth,V.look,u1,u2,v1,v2,v3,v4,v5,v6,v7,List.length,u3,u4,Nat.reduceSub,Nat.reduceAdd,List.map]
      all_goals(simp[cS,dM];done)
    ·refine qs ?_ (hg:=wn cS);refine qs ?_ (hg:=wn cS);refine qs ?_ (hg:=wn cS);refine qu cS ?_;refine qm ?_;refine qs ?_;refine qs ?_;refine qs ?_;refine qg ?_;refine qm ?_;refine ab.nil (aU ?_);dsimp only[aI,List.foldl,nth,u2,u1];dsimp only[Fr.aC,Fr.put,Fr.clean,Fr.ev,Fr.get,nth,V.look,u1,u2,v1,v2,v3,v4,v5,v6,v7,List.length,u3,u4,Nat.reduceSub,Nat.reduceAdd,List.map]
     all_goals(simp[cS];done)
   dsimp only[aI,List.foldl,nth,u2,u1];refine af.ret ⟨rx,_,rfl,rl b_ hH (rfl)⟩
  ·rw[if_neg h1];refine qq<|qj fun K hK=>qg ?_;refine qm ?_;refine qe hK ?_;refine af.cond (by rfl) (fun h2=>?_) (fun h2=>?_)<;>try simp only[beq_iff_eq,beq_eq_false_iff_ne,ne_eq] at h2
   ·rw[if_pos h2];refine qq<|af.k_ 4 (.bool (ot i.x p.code.length &&ot i.y p.code.length)) [] ?_ (fun ff tmp=>?_)
    ·refine qp (o:=1) ?_;refine ql hH ay ?_;refine qp (o:=0) ?_;refine ql hH b5 ?_;refine qn ?_;simp only[List.length_map];refine qv (ga _ _) ?_;refine qm ?_;refine ab.two 60 rfl (fun dM=>?_) (fun dM=>?_)
     ·refine qp (o:=2) ?_ (hg:=wi dM);refine ql hH ay ?_ (hg:=wi dM);refine qp (o:=0) ?_ (hg:=wi dM);refine ql hH b5 ?_ (hg:=wi dM);refine qn ?_ (hg:=wi dM);simp only[List.length_map];refine qv (ga _ _) ?_ (hg:=wi dM);refine qt dM ?_;refine qm ?_;refine ab.nil (aU ?_);dsimp only[aI,List.foldl,nth,u2,u1];dsimp only[Fr.aC,Fr.put,Fr.clean,Fr.ev,Fr.get,nth,V.look,u1,u2,v1,v2,v3,v4,v5,v6,v7,List.length,u3,u4,Nat.reduceSub,Nat.reduceAdd,List.map]
      all_goals(simp[dM];done)
     ·refine qs ?_ (hg:=wn dM);refine qs ?_ (hg:=wn dM);refine qs ?_ (hg:=wn dM);refine qs ?_ (hg:=wn dM);refine qs ?_ (hg:=wn dM);refine qs ?_ (hg:=wn dM);refine qu dM ?_;refine qm ?_;refine ab.nil (aU ?_);dsimp only[aI,List.foldl,nth,u2,u1];dsimp only[Fr.aC,Fr.put,Fr.clean,Fr.ev,Fr.get,nth,V.look,u1,u2,v1,v2,v3,v4,v5,v6,v7,List.length,u3,u4,Nat.reduceSub,Nat.reduceAdd,List.map]
      all_goals(simp[dM];done)
    dsimp only[aI,List.foldl,nth,u2,u1];refine af.ret ⟨rx,_,rfl,rl b_ hH (rfl)⟩
   ·rw[if_neg h2];refine qq<|qj fun K hK=>qg ?_;refine qm ?_;refine qe hK ?_;refine af.cond (by rfl) (fun h3=>?_) (fun h3=>?_)<;>try simp only[beq_iff_eq,beq_eq_false_iff_ne,ne_eq] at h3
    ·rw[if_pos h3];refine qq<|qj fun K hK=>qp (o:=1) ?_;refine ql hH ay ?_;refine qp (o:=0) ?_;refine ql hH b5 ?_;refine qn ?_;simp only[List.length_map];refine qv (ga _ _) ?_;refine qm ?_;refine qe hK<|af.ret ⟨rx,_,rfl,rl b_ hH (rfl)⟩
    ·rw[if_neg h3];refine qq<|qj fun K hK=>qg ?_;refine qm ?_;refine qe hK ?_;refine af.cond (by rfl) (fun h4=>?_) (fun h4=>?_)<;>try simp only[beq_iff_eq,beq_eq_false_iff_ne,ne_eq] at h4
     ·rw[if_pos h4];refine qq<|af.k_ 4 (.bool (decide (((pc+1:Nat):Int)<p.code.length) &&ot i.x 10)) [] ?_ (fun ff tmp=>?_)
      ·refine qm ?_;refine qm ?_;refine ab.two 79 rfl (fun cS=>?_) (fun cS=>?_)
       ·refine qp (o:=1) ?_ (hg:=wi cS);refine ql hH ay ?_ (hg:=wi cS);refine qv (ga _ _) ?_ (hg:=wi cS);refine qt cS ?_;refine qm ?_;refine ab.nil (aU ?_);dsimp only[aI,List.foldl,nth,u2,u1];dsimp only[Fr.aC,Fr.put,Fr.clean,Fr.ev,Fr.get,nth,V.look,u1,u2,v1,v2,v3,v4,v5,v6,v7,List.length,u3,u4,Nat.reduceSub,Nat.reduceAdd,List.map]
        all_goals(simp[cS];done)
       ·refine qs ?_ (hg:=wn cS);refine qs ?_ (hg:=wn cS);refine qs ?_ (hg:=wn cS);refine qu cS ?_;refine qm ?_;refine ab.nil (aU ?_);dsimp only[aI,List.foldl,nth,u2,u1];dsimp only[Fr.aC,Fr.put,Fr.clean,Fr.ev,Fr.get,nth,V.look,u1,u2,v1,v2,v3,v4,v5,v6,v7,List.length,u3,u4,Nat.reduceSub,Nat.reduceAdd,List.map]
        all_goals(simp[cS];done)
      dsimp only[aI,List.foldl,nth,u2,u1];refine af.ret ⟨rx,_,rfl,rl b_ hH (rfl)⟩
     ·rw[if_neg h4];refine qq<|qq<|qj fun K hK=>qg ?_;refine qm ?_;refine qe hK ?_
      by_cases h5:i.op=5
      ·rw[if_pos h5];refine qD rfl (by simp[h5]) ?_;refine af.skip<|qD rfl (by simp[h5]) ?_;refine qq<|af.k_ 4 (.bool (decide (((pc+1:Nat):Int)<p.code.length) &&(i.x==0))) [] ?_ (fun ff tmp=>?_)
       ·refine qm ?_;refine qm ?_;refine ab.two 88 rfl (fun cS=>?_) (fun cS=>?_)
        ·refine qp (o:=1) ?_ (hg:=wi cS);refine ql hH ay ?_ (hg:=wi cS);refine qg ?_ (hg:=wi cS);refine qt cS ?_;refine qm ?_;refine ab.nil (aU ?_);dsimp only[aI,List.foldl,nth,u2,u1];dsimp only[Fr.aC,Fr.put,Fr.clean,Fr.ev,Fr.get,nth,V.look,u1,u2,v1,v2,v3,v4,v5,v6,v7,List.length,u3,u4,Nat.reduceSub,Nat.reduceAdd,List.map]
         all_goals(simp[cS];done)
        ·refine qs ?_ (hg:=wn cS);refine qs ?_ (hg:=wn cS);refine qs ?_ (hg:=wn cS);refine qu cS ?_;refine qm ?_;refine ab.nil (aU ?_);dsimp only[aI,List.foldl,nth,u2,u1];dsimp only[Fr.aC,Fr.put,Fr.clean,Fr.ev,Fr.get,nth,V.look,u1,u2,v1,v2,v3,v4,v5,v6,v7,List.length,u3,u4,Nat.reduceSub,Nat.reduceAdd,List.map]
         all_goals(simp[cS];done)
       dsimp only[aI,List.foldl,nth,u2,u1];refine af.ret ⟨rx,_,rfl,rl b_ hH (rfl)⟩
      ·rw[if_neg h5];refine qE rfl (by simp[h5]) ?_;refine qj fun K hK=>qg ?_;refine qm ?_;refine qe hK ?_;refine af.cond (by rfl) (fun h6=>?_) (fun h6=>?_)<;>try simp only[beq_iff_eq,beq_eq_false_iff_ne,ne_eq] at h6
       ·rw[if_pos h6];refine qq<|af.k_ 4 (.bool (decide (((pc+1:Nat):Int)<p.code.length) &&(i.x==0))) [] ?_ (fun ff tmp=>?_)
        ·refine qm ?_;refine qm ?_;refine ab.two 88 rfl (fun cS=>?_) (fun cS=>?_)
         ·refine qp (o:=1) ?_ (hg:=wi cS);refine ql hH ay ?_ (hg:=wi cS);refine qg ?_ (hg:=wi cS);refine qt cS ?_;refine qm ?_;refine ab.nil (aU ?_);dsimp only[aI,List.foldl,nth,u2,u1];dsimp only[Fr.aC,Fr.put,Fr.clean,Fr.ev,Fr.get,nth,V.look,u1,u2,v1,v2,v3,v4,v5,v6,v7,List.length,u3,u4,Nat.reduceSub,Nat.reduceAdd,List.map]
          all_goals(simp[cS];done)
         ·refine qs ?_ (hg:=wn cS);refine qs ?_ (hg:=wn cS);refine qs ?_ (hg:=wn cS);refine qu cS ?_;refine qm ?_;refine ab.nil (aU ?_);dsimp only[aI,List.foldl,nth,u2,u1];dsimp only[Fr.aC,Fr.put,Fr.clean,Fr.ev,Fr.get,nth,V.look,u1,u2,v1,v2,v3,v4,v5,v6,v7,List.length,u3,u4,Nat.reduceSub,Nat.reduceAdd,List.map]
          all_goals(simp[cS];done)
        dsimp only[aI,List.foldl,nth,u2,u1];refine af.ret ⟨rx,_,rfl,rl b_ hH (rfl)⟩
       ·rw[if_neg h6];refine qq<|qj fun K hK=>qg ?_;refine qm ?_;refine qe hK ?_;refine af.cond (by rfl) (fun h7=>?_) (fun h7=>?_)<;>try simp only[beq_iff_eq,beq_eq_false_iff_ne,ne_eq] at h7
        ·rw[if_pos h7];refine qq<|qj fun K hK=>qp (o:=1) ?_;refine ql hH ay ?_;refine qp (o:=1) ?_;refine ql hH b5 ?_;refine qn ?_;simp only[List.length_map];refine qv (ga _ _) ?_;refine qm ?_;refine qe hK<|af.ret ⟨rx,_,rfl,rl b_ hH (rfl)⟩
        ·rw[if_neg h7];refine af.skip<|qq<|qj fun K hK=>qm ?_;refine qe hK<|af.ret ⟨rx,_,rfl,rl b_ hH (rfl)⟩
def b6 (c:Nat):Int×Nat×Nat:=
 if c<128 then(0,0,0) else if c<194 then(-1,0,0) else if c<224 then(1,128,191) else if c=224 then(2,160,191) else if c=237 then(2,128,159)
 else if c<240 then(2,128,191) else if c=240 then(3,144,191) else if c<244 then(3,128,191) else if c=244 then(3,128,143) else(-1,0,0)
theorem ES (c:Nat) (st:St):Ev pv 47 [.int .u8 c] st (.tup [.int .i64 (b6 c).1,.int .u8 (b6 c).2.1,.int .u8 (b6 c).2.2]) st:=by
 refine Ev.nZ rfl QS rfl rfl rfl ?_;dsimp only[u3,u4,List.length,Nat.reduceSub,Nat.reduceAdd,w1,w2];(try refine qy ?_);(repeat refine qq ?_);(try generalize hK:bW _ _ _ _=K);refine af.eX ?_;(repeat(first|refine xT ?_|refine xL ?_|refine xN ?_|refine xo ?_|refine xp ?_));refine ab.nil ?_;(try dsimp only[Fr.aC,Fr.put,Fr.clean,Fr.ev,Fr.get,nth,V.look,u1,u2,v1,v2,v3,v4,v5,v6,v7,List.length,u3,u4,Nat.reduceSub,Nat.reduceAdd,List.map]);(try subst hK);(try refine qy ?_);refine af.seq (af.block ?_);(try refine qy ?_);(repeat refine qq ?_);(try generalize hK:bW _ _ _ _=K);refine af.eX ?_;(repeat(first|refine xT ?_|refine xL ?_|refine xN ?_|refine xo ?_|refine xp ?_));refine ab.nil ?_;(try dsimp only[Fr.aC,Fr.put,Fr.clean,Fr.ev,Fr.get,nth,V.look,u1,u2,v1,v2,v3,v4,v5,v6,v7,List.length,u3,u4,Nat.reduceSub,Nat.reduceAdd,List.map]);(try subst hK);(try refine qy ?_);(repeat refine qq ?_);refine qc (fun h1=>?_) (fun h1=>?_)<;>try simp only[cs] at h1
 ·(try refine qy ?_);(repeat refine qq ?_);(try generalize hK:bW _ _ _ _=K);refine af.eX ?_;(repeat(first|refine xT ?_|refine xL ?_|refine xN ?_|refine xo ?_|refine xp ?_));refine ab.nil ?_;(try dsimp only[Fr.aC,Fr.put,Fr.clean,Fr.ev,Fr.get,nth,V.look,u1,u2,v1,v2,v3,v4,v5,v6,v7,List.length,u3,u4,Nat.reduceSub,Nat.reduceAdd,List.map]);(try subst hK);(try refine qy ?_);refine af.ret ⟨rx,_,rfl,bA (by simp) (by simp[ai]) ?_⟩;rw[show b6 c=(0,0,0) by unfold b6;rw[if_pos (by omega)]];rfl
 (try refine qy ?_);(repeat refine qq ?_);(try generalize hK:bW _ _ _ _=K);refine af.eX ?_;(repeat(first|refine xT ?_|refine xL ?_|refine xN ?_|refine xo ?_|refine xp ?_));refine ab.nil ?_;(try dsimp only[Fr.aC,Fr.put,Fr.clean,Fr.ev,Fr.get,nth,V.look,u1,u2,v1,v2,v3,v4,v5,v6,v7,List.length,u3,u4,Nat.reduceSub,Nat.reduceAdd,List.map]);(try subst hK);(try refine qy ?_);(repeat refine qq ?_);refine qc (fun h2=>?_) (fun h2=>?_)<;>try simp only[cs] at h2
 ·(try refine qy ?_);(repeat refine qq ?_);(try generalize hK:bW _ _ _ _=K);refine af.eX ?_;(repeat(first|refine xT ?_|refine xL ?_|refine xN ?_|refine xo ?_|refine xp ?_));refine ab.nil ?_;(try dsimp only[Fr.aC,Fr.put,Fr.clean,Fr.ev,Fr.get,nth,V.look,u1,u2,v1,v2,v3,v4,v5,v6,v7,List.length,u3,u4,Nat.reduceSub,Nat.reduceAdd,List.map]);(try subst hK);(try refine qy ?_);refine af.ret ⟨rx,_,rfl,bA (by simp) (by simp[ai]) ?_⟩;rw[show b6 c=(-1,0,0) by unfold b6;rw[if_neg (by omega),if_pos (by omega)]];rfl
 (try refine qy ?_);(repeat refine qq ?_);(try generalize hK:bW _ _ _ _=K);refine af.eX ?_;(repeat(first|refine xT ?_|refine xL ?_|refine xN ?_|refine xo ?_|refine xp ?_));refine ab.nil ?_;(try dsimp only[Fr.aC,Fr.put,Fr.clean,Fr.ev,Fr.get,nth,V.look,u1,u2,v1,v2,v3,v4,v5,v6,v7,List.length,u3,u4,Nat.reduceSub,Nat.reduceAdd,List.map]);(try subst hK);(try refine qy ?_);(repeat refine qq ?_);refine qc (fun h3=>?_) (fun h3=>?_)<;>try simp only[cs] at h3
 ·(try refine qy ?_);(repeat refine qq ?_);(try generalize hK:bW _ _ _ _=K);refine af.eX ?_;(repeat(first|refine xT ?_|refine xL ?_|refine xN ?_|refine xo ?_|refine xp ?_));refine ab.nil ?_;(try dsimp only[Fr.aC,Fr.put,Fr.clean,Fr.ev,Fr.get,nth,V.look,u1,u2,v1,v2,v3,v4,v5,v6,v7,List.length,u3,u4,Nat.reduceSub,Nat.reduceAdd,List.map]);(try subst hK);(try refine qy ?_);refine af.ret ⟨rx,_,rfl,bA (by simp) (by simp[ai]) ?_⟩;rw[show b6 c=(1,128,191) by unfold b6;rw[if_neg (by omega),if_neg (by omega),if_pos (by omega)]];rfl
 (try refine qy ?_);(repeat refine qq ?_);(try generalize hK:bW _ _ _ _=K);refine af.eX ?_;(repeat(first|refine xT ?_|refine xL ?_|refine xN ?_|refine xo ?_|refine xp ?_));refine ab.nil ?_;(try dsimp only[Fr.aC,Fr.put,Fr.clean,Fr.ev,Fr.get,nth,V.look,u1,u2,v1,v2,v3,v4,v5,v6,v7,List.length,u3,u4,Nat.reduceSub,Nat.reduceAdd,List.map]);(try subst hK);(try refine qy ?_);(repeat refine qq ?_);refine qc (fun h4=>?_) (fun h4=>?_)<;>try simp only[cs] at h4
 ·(try refine qy ?_);(repeat refine qq ?_);(try generalize hK:bW _ _ _ _=K);refine af.eX ?_;(repeat(first|refine xT ?_|refine xL ?_|refine xN ?_|refine xo ?_|refine xp ?_));refine ab.nil ?_;(try dsimp only[Fr.aC,Fr.put,Fr.clean,Fr.ev,Fr.get,nth,V.look,u1,u2,v1,v2,v3,v4,v5,v6,v7,List.length,u3,u4,Nat.reduceSub,Nat.reduceAdd,List.map]);(try subst hK);(try refine qy ?_);refine af.ret ⟨rx,_,rfl,bA (by simp) (by simp[ai]) ?_⟩;rw[show b6 c=(2,160,191) by unfold b6;rw[if_neg (by omega),if_neg (by omega),if_neg (by omega),if_pos (by omega)]];rfl
 (try refine qy ?_);(repeat refine qq ?_);(try generalize hK:bW _ _ _ _=K);refine af.eX ?_;(repeat(first|refine xT ?_|refine xL ?_|refine xN ?_|refine xo ?_|refine xp ?_));refine ab.nil ?_;(try dsimp only[Fr.aC,Fr.put,Fr.clean,Fr.ev,Fr.get,nth,V.look,u1,u2,v1,v2,v3,v4,v5,v6,v7,List.length,u3,u4,Nat.reduceSub,Nat.reduceAdd,List.map]);(try subst hK);(try refine qy ?_);(repeat refine qq ?_);refine qc (fun h5=>?_) (fun h5=>?_)<;>try simp only[cs] at h5
 ·(try refine qy ?_);(repeat refine qq ?_);(try generalize hK:bW _ _ _ _=K);refine af.eX ?_;(repeat(first|refine xT ?_|refine xL ?_|refine xN ?_|refine xo ?_|refine xp ?_));refine ab.nil ?_;(try dsimp only[Fr.aC,Fr.put,Fr.clean,Fr.ev,Fr.get,nth,V.look,u1,u2,v1,v2,v3,v4,v5,v6,v7,List.length,u3,u4,Nat.reduceSub,Nat.reduceAdd,List.map]);(try subst hK);(try refine qy ?_);refine af.ret ⟨rx,_,rfl,bA (by simp) (by simp[ai]) ?_⟩;rw[show b6 c=(2,128,159) by unfold b6;rw[if_neg (by omega),if_neg (by omega),if_neg (by omega),if_neg (by omega),if_pos (by omega)]];rfl
 (try refine qy ?_);(repeat refine qq ?_);(try generalize hK:bW _ _ _ _=K);refine af.eX ?_;(repeat(first|refine xT ?_|refine xL ?_|refine xN ?_|refine xo ?_|refine xp ?_));refine ab.nil ?_;(try dsimp only[Fr.aC,Fr.put,Fr.clean,Fr.ev,Fr.get,nth,V.look,u1,u2,v1,v2,v3,v4,v5,v6,v7,List.length,u3,u4,Nat.reduceSub,Nat.reduceAdd,List.map]);(try subst hK);(try refine qy ?_);(repeat refine qq ?_);refine qc (fun h6=>?_) (fun h6=>?_)<;>try simp only[cs] at h6
 ·(try refine qy ?_);(repeat refine qq ?_);(try generalize hK:bW _ _ _ _=K);refine af.eX ?_;(repeat(first|refine xT ?_|refine xL ?_|refine xN ?_|refine xo ?_|refine xp ?_));refine ab.nil ?_;(try dsimp only[Fr.aC,Fr.put,Fr.clean,Fr.ev,Fr.get,nth,V.look,u1,u2,v1,v2,v3,v4,v5,v6,v7,List.length,u3,u4,Nat.reduceSub,Nat.reduceAdd,List.map]);(try subst hK);(try refine qy ?_);refine af.ret ⟨rx,_,rfl,bA (by simp) (by simp[ai]) ?_⟩;rw[show b6 c=(2,128,191) by unfold b6;rw[if_neg (by omega),if_neg (by omega),if_neg (by omega),if_neg (by omega),if_neg (by omega),if_pos (by omega)]];rfl
 (try refine qy ?_);(repeat refine qq ?_);(try generalize hK:bW _ _ _ _=K);refine af.eX ?_;(repeat(first|refine xT ?_|refine xL ?_|refine xN ?_|refine xo ?_|refine xp ?_));refine ab.nil ?_;(try dsimp only[Fr.aC,Fr.put,Fr.clean,Fr.ev,Fr.get,nth,V.look,u1,u2,v1,v2,v3,v4,v5,v6,v7,List.length,u3,u4,Nat.reduceSub,Nat.reduceAdd,List.map]);(try subst hK);(try refine qy ?_);(repeat refine qq ?_);refine qc (fun h7=>?_) (fun h7=>?_)<;>try simp only[cs] at h7
 ·(try refine qy ?_);(repeat refine qq ?_);(try generalize hK:bW _ _ _ _=K);refine af.eX ?_;(repeat(first|refine xT ?_|refine xL ?_|refine xN ?_|refine xo ?_|refine xp ?_));refine ab.nil ?_;(try dsimp only[Fr.aC,Fr.put,Fr.clean,Fr.ev,Fr.get,nth,V.look,u1,u2,v1,v2,v3,v4,v5,v6,v7,List.length,u3,u4,Nat.reduceSub,Nat.reduceAdd,List.map]);(try subst hK);(try refine qy ?_);refine af.ret ⟨rx,_,rfl,bA (by simp) (by simp[ai]) ?_⟩;rw[show b6 c=(3,144,191) by unfold b6;rw[if_neg (by omega),if_neg (by omega),if_neg (by omega),if_neg (by omega),if_neg (by omega),if_neg (by omega),if_pos (by omega)]];rfl
 (try refine qy ?_);(repeat refine qq ?_);(try generalize hK:bW _ _ _ _=K);refine af.eX ?_;(repeat(first|refine xT ?_|refine xL ?_|refine xN ?_|refine xo ?_|refine xp ?_));refine ab.nil ?_;(try dsimp only[Fr.aC,Fr.put,Fr.clean,Fr.ev,Fr.get,nth,V.look,u1,u2,v1,v2,v3,v4,v5,v6,v7,List.length,u3,u4,Nat.reduceSub,Nat.reduceAdd,List.map]);(try subst hK);(try refine qy ?_);(repeat refine qq ?_);refine qc (fun h8=>?_) (fun h8=>?_)<;>try simp only[cs] at h8
 ·(try refine qy ?_);(repeat refine qq ?_);(try generalize hK:bW _ _ _ _=K);refine af.eX ?_;(repeat(first|refine xT ?_|refine xL ?_|refine xN ?_|refine xo ?_|refine xp ?_));refine ab.nil ?_;(try dsimp only[Fr.aC,Fr.put,Fr.clean,Fr.ev,Fr.get,nth,V.look,u1,u2,v1,v2,v3,v4,v5,v6,v7,List.length,u3,u4,Nat.reduceSub,Nat.reduceAdd,List.map]);(try subst hK);(try refine qy ?_);refine af.ret ⟨rx,_,rfl,bA (by simp) (by simp[ai]) ?_⟩;rw[show b6 c=(3,128,191) by unfold b6;rw[if_neg (by omega),if_neg (by omega),if_neg (by omega),if_neg (by omega),if_neg (by omega),if_neg (by omega),if_neg (by omega),if_pos (by omega)]];rfl
 (try refine qy ?_);(repeat refine qq ?_);(try generalize hK:bW _ _ _ _=K);refine af.eX ?_;(repeat(first|refine xT ?_|refine xL ?_|refine xN ?_|refine xo ?_|refine xp ?_));refine ab.nil ?_;(try dsimp only[Fr.aC,Fr.put,Fr.clean,Fr.ev,Fr.get,nth,V.look,u1,u2,v1,v2,v3,v4,v5,v6,v7,List.length,u3,u4,Nat.reduceSub,Nat.reduceAdd,List.map]);(try subst hK);(try refine qy ?_);(repeat refine qq ?_);refine qc (fun h9=>?_) (fun h9=>?_)<;>try simp only[cs] at h9
 ·(try refine qy ?_);(repeat refine qq ?_);(try generalize hK:bW _ _ _ _=K);refine af.eX ?_;(repeat(first|refine xT ?_|refine xL ?_|refine xN ?_|refine xo ?_|refine xp ?_));refine ab.nil ?_;(try dsimp only[Fr.aC,Fr.put,Fr.clean,Fr.ev,Fr.get,nth,V.look,u1,u2,v1,v2,v3,v4,v5,v6,v7,List.length,u3,u4,Nat.reduceSub,Nat.reduceAdd,List.map]);(try subst hK);(try refine qy ?_);refine af.ret ⟨rx,_,rfl,bA (by simp) (by simp[ai]) ?_⟩;rw[show b6 c=(3,128,143) by unfold b6;rw[if_neg (by omega),if_neg (by omega),if_neg (by omega),if_neg (by omega),if_neg (by omega),if_neg (by omega),if_neg (by omega),if_neg (by omega),if_pos (by omega)]];rfl
 refine af.skip ?_;(try refine qy ?_);(repeat refine qq ?_);(try generalize hK:bW _ _ _ _=K);refine af.eX ?_;(repeat(first|refine xT ?_|refine xL ?_|refine xN ?_|refine xo ?_|refine xp ?_));refine ab.nil ?_;(try dsimp only[Fr.aC,Fr.put,Fr.clean,Fr.ev,Fr.get,nth,V.look,u1,u2,v1,v2,v3,v4,v5,v6,v7,List.length,u3,u4,Nat.reduceSub,Nat.reduceAdd,List.map]);(try subst hK);(try refine qy ?_);refine af.ret ⟨rx,_,rfl,bA (by simp) (by simp[ai]) ?_⟩;rw[show b6 c=(-1,0,0) by unfold b6;rw[if_neg (by omega),if_neg (by omega),if_neg (by omega),if_neg (by omega),if_neg (by omega),if_neg (by omega),if_neg (by omega),if_neg (by omega),if_neg (by omega)]];rfl
def ib:(left n r lo hi:Nat)→List UInt8→Nat×Nat×Bool
 |0,n,r,_,_,_=>(r,n,false)
 |left+1,n,r,lo,hi,[]=>(0,0,true)
 |left+1,n,r,lo,hi,x::xs=>if x.toNat<lo∨hi<x.toNat then(0,0,false) else ib left n (r*64+x.toNat %64) 128 191 xs
def gu:List UInt8→Nat×Nat×Bool
 |[]=>(0,0,false)
 |c::xs=>if(b6 c.toNat).1<0 then(0,0,false)
   else ib (b6 c.toNat).1.toNat ((b6 c.toNat).1.toNat+1) (if(b6 c.toNat).1>0 then c.toNat %(64/2^(b6 c.toNat).1.toNat) else c.toNat) (b6 c.toNat).2.1 (b6 c.toNat).2.2 xs
theorem tV (c:Nat):(b6 c).1=-1∨(b6 c).1=0∨(b6 c).1=1∨(b6 c).1=2∨(b6 c).1=3:=by
 unfold b6
 repeat' split
 all_goals simp
theorem xV {w a j:Nat} (ha:a<2^w) (hj:2^j-1<2^w):(BitVec.ofInt w (a:Int) &&&BitVec.ofInt w ((2^j-1:Nat):Int)).toNat=a %2^j:=by
 rw[bv_and ha hj,Nat.and_two_pow_sub_one_eq_mod]
theorem fz (b:List UInt8):(byteCells b).length=b.length:=by simp[byteCells]
theorem pt {b:List UInt8} {i:Nat} {y:UInt8} (h:b[i]?=some y):(byteCells b)[i]?=some [.int .u8 (y.toNat:Nat)]:=by
 simp[byteCells,h]
theorem FQ (y:UInt8):y.toNat<256:=y.toNat_lt
theorem Oc {r y:Nat} (hr:r<33554432) (hy:y<256):bP .i32 ((BitVec.ofInt 32 (bP .i32 ((r:Int)*2^(min (Int.toNat 6) 32)))|||BitVec.ofInt 32 (bP .i32 (bP .u8 ((BitVec.ofInt 8 (y:Int) &&&BitVec.ofInt 8 63).toNat:Nat)))).toNat:Nat)=((r*64+y %64:Nat):Int):=by
 have h1:(BitVec.ofInt 8 (y:Int) &&&BitVec.ofInt 8 63).toNat=y %64:=xV (w:=8) (j:=6) hy (by decide);rw[h1]
 have h2:((r:Int)*2^(min (Int.toNat 6) 32))=((r*64:Nat):Int):=by
  have:(2:Int)^(min (Int.toNat 6) 32)=64:=by decide
  rw[this];simp
 rw[h2,d_ (k:=.i32) (m:=r*64) (by simp only[ko];omega),d_ (k:=.u8) (m:=y %64) (by simp only[ko];omega),d_ (k:=.i32) (m:=y %64) (by simp only[ko];omega)];rw[NI (by omega) (by omega)]
 have h3:(r*64)|||(y %64)=r*64+y %64:=by
  have:=Nat.two_pow_add_eq_or_of_lt (i:=6) (b:=y %64) (by omega) r;have e:(2:Nat)^6=64:=by decide
  rw[e] at this;rw[Nat.mul_comm r 64,this]
 rw[h3,d_ (k:=.i32) (m:=r*64+y %64) (by simp only[ko];omega)]
theorem L7 {c j:Nat} (hc:c<256) (hj:j≤8) {m:Int} (hm:m=((2^j-1:Nat):Int)):bP .i32 ((BitVec.ofInt 32 (bP .i32 (c:Nat)) &&&BitVec.ofInt 32 m).toNat:Nat)=((c %2^j:Nat):Int):=by
 have h1:2^j≤2^8:=Nat.pow_le_pow_right (by omega) hj;rw[hm,d_ (k:=.i32) (m:=c) (by simp only[ko];omega),xV (w:=32) (by omega) (by omega)];have:c %2^j≤c:=Nat.mod_le _ _;rw[d_ (k:=.i32) (by simp only[ko];omega)]
theorem mask {c j:Nat} (hc:c<256) (hj:j≤8) {m:Int} (hm:m=((2^j-1:Nat):Int)):bP .i32 ((BitVec.ofInt IntKind.i32.bits (bP .i32 (c:Nat)) &&&BitVec.ofInt IntKind.i32.bits m).toNat:Nat)=((c %2^j:Nat):Int):=L7 hc hj hm
theorem S_ {r y:Nat} (hr:r<33554432) (hy:y<256):bP .i32 ((BitVec.ofInt IntKind.i32.bits (bP .i32 ((r:Int)*2^(min (Int.toNat 6) IntKind.i32.bits)))|||BitVec.ofInt IntKind.i32.bits (bP .i32 (bP .u8 ((BitVec.ofInt IntKind.u8.bits (y:Int) &&&BitVec.ofInt IntKind.u8.bits 63).toNat:Nat)))).toNat:Nat)=((r*64+y %64:Nat):Int):=Oc hr hy
theorem Bf {st:St} {x:D} {b:List UInt8} (hb:Bytes st x b):Ev pv 28 [x] st (.tup [.int .i32 ((gu b).1:Nat),.int .i64 ((gu b).2.1:Nat),.bool (gu b).2.2]) st:=by
 refine Ev.nZ rfl Q9 rfl rfl rfl ?_;dsimp only[u3,u4,List.length,Nat.reduceSub,Nat.reduceAdd,w1,w2];have dw:=hb.enter .ro;(try refine qy ?_);(repeat refine qq ?_);(try generalize hK:bW _ _ _ _=K);refine af.eX ?_;(repeat(first|refine xT ?_|refine xL ?_|refine xN ?_|refine xo ?_|refine xp ?_));refine ab.nil ?_;(try dsimp only[Fr.aC,Fr.put,Fr.clean,Fr.ev,Fr.get,nth,V.look,u1,u2,v1,v2,v3,v4,v5,v6,v7,List.length,u3,u4,Nat.reduceSub,Nat.reduceAdd,List.map]);(try subst hK);(try refine qy ?_);(repeat refine qq ?_);(try generalize hK:bW _ _ _ _=K);refine af.eX ?_
 (first|refine xT ?_|refine xL ?_|refine xN ?_|refine xo ?_|refine xp ?_)
 refine ab.len rfl rfl rfl dw rfl ?_;(repeat(first|refine xT ?_|refine xL ?_|refine xN ?_|refine xo ?_|refine xp ?_));refine ab.nil ?_;(try dsimp only[Fr.aC,Fr.put,Fr.clean,Fr.ev,Fr.get,nth,V.look,u1,u2,v1,v2,v3,v4,v5,v6,v7,List.length,u3,u4,Nat.reduceSub,Nat.reduceAdd,List.map]);(try subst hK);(try refine qy ?_);(repeat refine qq ?_);refine qc (fun h1=>?_) (fun h1=>?_)<;>try simp only[cs] at h1
 ·(try refine qy ?_);(repeat refine qq ?_);(try generalize hK:bW _ _ _ _=K);refine af.eX ?_;(repeat(first|refine xT ?_|refine xL ?_|refine xN ?_|refine xo ?_|refine xp ?_));refine ab.nil ?_;(try dsimp only[Fr.aC,Fr.put,Fr.clean,Fr.ev,Fr.get,nth,V.look,u1,u2,v1,v2,v3,v4,v5,v6,v7,List.length,u3,u4,Nat.reduceSub,Nat.reduceAdd,List.map]);(try subst hK);(try refine qy ?_);refine af.ret ⟨rx,_,rfl,bA (by simp) (by simp[ai]) ?_⟩
  obtain rfl:b=[]:=by cases b with|nil=>rfl|cons c b=>simp[byteCells] at h1;omega
  rfl
 refine af.skip ?_
 obtain⟨c,xs,rfl⟩:∃c xs,b=c::xs:=by cases b with|nil=>simp[byteCells] at h1|cons c b=>exact⟨c,b,rfl⟩
 obtain⟨k,lo,hi,hm⟩:∃k lo hi,b6 c.toNat=(k,lo,hi):=⟨_,_,_,rfl⟩
 have Ps:=ES c.toNat (ai .ro st);rw[hm] at Ps;have hk:=tV c.toNat;rw[hm] at hk;have hc:=FQ c;(try refine qy ?_);(repeat refine qq ?_);(try generalize hK:bW _ _ _ _=K);refine af.eX ?_
 (first|refine xT ?_|refine xL ?_|refine xN ?_|refine xo ?_|refine xp ?_)
 refine ab.gL rfl rfl rfl (fun _=>rfl) rfl rfl dw rfl rfl (by omega) rfl rfl (fun p=>?_);refine ab.Gh rfl rfl rfl Ps ?_;(repeat(first|refine xT ?_|refine xL ?_|refine xN ?_|refine xo ?_|refine xp ?_));refine ab.nil ?_;(try dsimp only[Fr.aC,Fr.put,Fr.clean,Fr.ev,Fr.get,nth,V.look,u1,u2,v1,v2,v3,v4,v5,v6,v7,List.length,u3,u4,Nat.reduceSub,Nat.reduceAdd,List.map]);(try subst hK);(try refine qy ?_);(repeat refine qq ?_);(try generalize hK:bW _ _ _ _=K);refine af.eX ?_;(repeat(first|refine xT ?_|refine xL ?_|refine xN ?_|refine xo ?_|refine xp ?_));refine ab.nil ?_;(try dsimp only[Fr.aC,Fr.put,Fr.clean,Fr.ev,Fr.get,nth,V.look,u1,u2,v1,v2,v3,v4,v5,v6,v7,List.length,u3,u4,Nat.reduceSub,Nat.reduceAdd,List.map]);(try subst hK);(try refine qy ?_);(repeat refine qq ?_);refine qc (fun h2=>?_) (fun h2=>?_)<;>try simp only[cs] at h2
 ·(try refine qy ?_);(repeat refine qq ?_);(try generalize hK:bW _ _ _ _=K);refine af.eX ?_;(repeat(first|refine xT ?_|refine xL ?_|refine xN ?_|refine xo ?_|refine xp ?_));refine ab.nil ?_;(try dsimp only[Fr.aC,Fr.put,Fr.clean,Fr.ev,Fr.get,nth,V.look,u1,u2,v1,v2,v3,v4,v5,v6,v7,List.length,u3,u4,Nat.reduceSub,Nat.reduceAdd,List.map]);(try subst hK);(try refine qy ?_);refine af.ret ⟨rx,_,rfl,bA (by simp) (by simp[ai]) ?_⟩;simp only[gu,hm];rw[if_pos h2];rfl
 refine af.skip ?_;(try refine qy ?_);(repeat refine qq ?_);(try generalize hK:bW _ _ _ _=K);refine af.eX ?_
 (first|refine xT ?_|refine xL ?_|refine xN ?_|refine xo ?_|refine xp ?_)
 refine ab.gL rfl rfl rfl (fun _=>rfl) rfl rfl dw rfl rfl (by omega) rfl rfl (fun p=>?_);(repeat(first|refine xT ?_|refine xL ?_|refine xN ?_|refine xo ?_|refine xp ?_));refine ab.nil ?_;(try dsimp only[Fr.aC,Fr.put,Fr.clean,Fr.ev,Fr.get,nth,V.look,u1,u2,v1,v2,v3,v4,v5,v6,v7,List.length,u3,u4,Nat.reduceSub,Nat.reduceAdd,List.map]);(try subst hK);(try refine qy ?_);(repeat refine qq ?_);(try generalize hK:bW _ _ _ _=K);refine af.eX ?_;(repeat(first|refine xT ?_|refine xL ?_|refine xN ?_|refine xo ?_|refine xp ?_));refine ab.nil ?_;(try dsimp only[Fr.aC,Fr.put,Fr.clean,Fr.ev,Fr.get,nth,V.look,u1,u2,v1,v2,v3,v4,v5,v6,v7,List.length,u3,u4,Nat.reduceSub,Nat.reduceAdd,List.map]);(try subst hK);(try refine qy ?_);generalize hK:bW _ _ _ _=K
 have H:∀(r kn:Nat) (m:List (Nat×D)),k=(kn:Int)→r=(if k>0 then c.toNat %(64/2^k.toNat) else c.toNat)→(r+1)*64^kn≤2097152→K .next ⟨9,[x,.tup [],.int .i32 r,.int .i64 0,.bool false,.int .i64 k,.int .u8 lo,.int .u8 hi,.tup []],m⟩ (ai .ro st):=by
  intro r kn m hkn hr o6
  have hR:gu (c::xs)=ib kn (kn+1) r lo hi xs:=by
   simp only[gu,hm];rw[if_neg h2,hr,hkn];rfl
  subst hK;rw[hR];generalize hS:ib kn (kn+1) r lo hi xs=R at hR⊢;subst hkn;(try refine qy ?_);(repeat refine qq ?_);(try generalize hK:bW _ _ _ _=K);refine af.eX ?_;(repeat(first|refine xT ?_|refine xL ?_|refine xN ?_|refine xo ?_|refine xp ?_));refine ab.nil ?_;(try dsimp only[Fr.aC,Fr.put,Fr.clean,Fr.ev,Fr.get,nth,V.look,u1,u2,v1,v2,v3,v4,v5,v6,v7,List.length,u3,u4,Nat.reduceSub,Nat.reduceAdd,List.map]);(try subst hK);(try refine qy ?_);refine af.block<|af.loop (fun j fr ah=>∃(i r lo hi:Nat),fr.clean=⟨9,[x,.tup [],.int .i32 r,.int .i64 0,.bool false,.int .i64 kn,.int .u8 lo,.int .u8 hi,.int .i64 (i:Nat)],[]⟩∧ah=ai .ro st∧1≤i∧i+j=kn+1∧ib j (kn+1) r lo hi (xs.drop (i-1))=R∧(r+1)*64^j≤2097152) kn ⟨1,r,lo,hi,rfl,rfl,by omega,by omega,hS,o6⟩ ?_;clear hr o6 hS r hm Ps m;rintro j fr ah ⟨i,r,lo,hi,hfr,rfl,Su,hij,hS,o6⟩;rw[hfr];(try refine qy ?_);(repeat refine qq ?_);(try generalize hK:bW _ _ _ _=K);refine af.eX ?_;(repeat(first|refine xT ?_|refine xL ?_|refine xN ?_|refine xo ?_|refine xp ?_));refine ab.nil ?_;(try dsimp only[Fr.aC,Fr.put,Fr.clean,Fr.ev,Fr.get,nth,V.look,u1,u2,v1,v2,v3,v4,v5,v6,v7,List.length,u3,u4,Nat.reduceSub,Nat.reduceAdd,List.map]);(try subst hK);(try refine qy ?_);(repeat refine qq ?_);refine qc (fun h4=>?_) (fun h4=>?_)<;>try simp only[cs] at h4
  ·refine af.skip ?_
   obtain⟨j,rfl⟩:∃j',j=j'+1:=⟨j-1,by omega⟩
   refine af.seq (af.block ?_);(try refine qy ?_);(repeat refine qq ?_);(try generalize hK:bW _ _ _ _=K);refine af.eX ?_
   (first|refine xT ?_|refine xL ?_|refine xN ?_|refine xo ?_|refine xp ?_)
   (first|refine xT ?_|refine xL ?_|refine xN ?_|refine xo ?_|refine xp ?_)
   refine ab.len rfl rfl rfl dw rfl ?_;(repeat(first|refine xT ?_|refine xL ?_|refine xN ?_|refine xo ?_|refine xp ?_));refine ab.nil ?_;(try dsimp only[Fr.aC,Fr.put,Fr.clean,Fr.ev,Fr.get,nth,V.look,u1,u2,v1,v2,v3,v4,v5,v6,v7,List.length,u3,u4,Nat.reduceSub,Nat.reduceAdd,List.map]);(try subst hK);(try refine qy ?_)
   have zg:(xs.drop (i-1))=[]∨∃y ys,xs.drop (i-1)=y::ys:=by
    cases xs.drop (i-1) with
    |nil=>exact .inl rfl
    |cons y ys=>exact .inr ⟨y,ys,rfl⟩
   have NP:(xs.drop (i-1)).length=xs.length-(i-1):=List.length_drop ..;have hbl:(byteCells (c::xs)).length=xs.length+1:=by simp[byteCells]
   (try refine qy ?_);(repeat refine qq ?_);refine qc (fun h5=>?_) (fun h5=>?_)<;>try simp only[cs] at h5
   ·(try refine qy ?_);(repeat refine qq ?_);(try generalize hK:bW _ _ _ _=K);refine af.eX ?_;(repeat(first|refine xT ?_|refine xL ?_|refine xN ?_|refine xo ?_|refine xp ?_));refine ab.nil ?_;(try dsimp only[Fr.aC,Fr.put,Fr.clean,Fr.ev,Fr.get,nth,V.look,u1,u2,v1,v2,v3,v4,v5,v6,v7,List.length,u3,u4,Nat.reduceSub,Nat.reduceAdd,List.map]);(try subst hK);(try refine qy ?_);refine af.ret ⟨rx,_,rfl,bA (by simp) (by simp[ai]) ?_⟩
    rcases zg with zg|⟨y,ys,zg⟩
    ·rw[zg] at hS;simp only[ib] at hS;subst hS;rfl
    ·rw[zg] at NP;simp only[List.length_cons] at NP;omega
   refine af.skip ?_
   rcases zg with zg|⟨y,ys,zg⟩
   ·rw[zg] at NP;simp only[List.length_nil] at NP;omega
   have hy:(c::xs)[i]?=some y:=by
    obtain⟨i,rfl⟩:∃i',i=i'+1:=⟨i-1,by omega⟩
    have:=congrArg (fun l=>l[0]?) zg
    simpa using this
   have jc:xs.drop (i+1-1)=ys:=by
    have:=congrArg (fun l=>l.drop 1) zg;simp only[List.drop_drop,List.drop_succ_cons,List.drop_zero] at this;rw[←this];congr 1;omega
   have OC:=pt hy;have TB:=FQ y;rw[zg] at hS;simp only[ib] at hS;(try refine qy ?_);(repeat refine qq ?_);(try generalize hK:bW _ _ _ _=K);refine af.eX ?_
   (first|refine xT ?_|refine xL ?_|refine xN ?_|refine xo ?_|refine xp ?_)
   (first|refine xT ?_|refine xL ?_|refine xN ?_|refine xo ?_|refine xp ?_)
   refine ab.gL rfl rfl rfl (fun _=>rfl) rfl rfl dw rfl rfl (by omega) OC rfl (fun p=>?_)
   (first|refine xT ?_|refine xL ?_|refine xN ?_|refine xo ?_|refine xp ?_)
   (first|refine xT ?_|refine xL ?_|refine xN ?_|refine xo ?_|refine xp ?_)
   (first|refine xT ?_|refine xL ?_|refine xN ?_|refine xo ?_|refine xp ?_)
   by_cases vZ:(y.toNat:Int)<(lo:Int)
   ·rw[decide_eq_true vZ];(repeat(first|refine xT ?_|refine xL ?_|refine xN ?_|refine xo ?_|refine xp ?_));refine ab.nil ?_;(try dsimp only[Fr.aC,Fr.put,Fr.clean,Fr.ev,Fr.get,nth,V.look,u1,u2,v1,v2,v3,v4,v5,v6,v7,List.length,u3,u4,Nat.reduceSub,Nat.reduceAdd,List.map]);(try subst hK);(try refine qy ?_);refine af.cond (v:=true) rfl (fun _=>?_) (fun h=>by cases h);(try refine qy ?_);(repeat refine qq ?_);(try generalize hK:bW _ _ _ _=K);refine af.eX ?_;(repeat(first|refine xT ?_|refine xL ?_|refine xN ?_|refine xo ?_|refine xp ?_));refine ab.nil ?_;(try dsimp only[Fr.aC,Fr.put,Fr.clean,Fr.ev,Fr.get,nth,V.look,u1,u2,v1,v2,v3,v4,v5,v6,v7,List.length,u3,u4,Nat.reduceSub,Nat.reduceAdd,List.map]);(try subst hK);(try refine qy ?_);refine af.ret ⟨rx,_,rfl,bA (by simp) (by simp[ai]) ?_⟩;rw[if_pos (.inl (by omega))] at hS;subst hS;rfl
   rw[decide_eq_false vZ]
   (first|refine xT ?_|refine xL ?_|refine xN ?_|refine xo ?_|refine xp ?_)
   (first|refine xT ?_|refine xL ?_|refine xN ?_|refine xo ?_|refine xp ?_)
   refine ab.gL rfl rfl rfl (fun _=>rfl) rfl rfl dw rfl rfl (by omega) OC rfl (fun p=>?_);(repeat(first|refine xT ?_|refine xL ?_|refine xN ?_|refine xo ?_|refine xp ?_));refine ab.nil ?_;(try dsimp only[Fr.aC,Fr.put,Fr.clean,Fr.ev,Fr.get,nth,V.look,u1,u2,v1,v2,v3,v4,v5,v6,v7,List.length,u3,u4,Nat.reduceSub,Nat.reduceAdd,List.map]);(try subst hK);(try refine qy ?_);(repeat refine qq ?_);refine qc (fun h6=>?_) (fun h6=>?_)<;>try simp only[cs] at h6
   ·(try refine qy ?_);(repeat refine qq ?_);(try generalize hK:bW _ _ _ _=K);refine af.eX ?_;(repeat(first|refine xT ?_|refine xL ?_|refine xN ?_|refine xo ?_|refine xp ?_));refine ab.nil ?_;(try dsimp only[Fr.aC,Fr.put,Fr.clean,Fr.ev,Fr.get,nth,V.look,u1,u2,v1,v2,v3,v4,v5,v6,v7,List.length,u3,u4,Nat.reduceSub,Nat.reduceAdd,List.map]);(try subst hK);(try refine qy ?_);refine af.ret ⟨rx,_,rfl,bA (by simp) (by simp[ai]) ?_⟩;rw[if_pos (.inr (by omega))] at hS;subst hS;rfl
   refine af.skip ?_;rw[if_neg (by omega)] at hS;(try refine qy ?_);(repeat refine qq ?_);(try generalize hK:bW _ _ _ _=K);refine af.eX ?_
   (first|refine xT ?_|refine xL ?_|refine xN ?_|refine xo ?_|refine xp ?_)
   (first|refine xT ?_|refine xL ?_|refine xN ?_|refine xo ?_|refine xp ?_)
   (first|refine xT ?_|refine xL ?_|refine xN ?_|refine xo ?_|refine xp ?_)
   (first|refine xT ?_|refine xL ?_|refine xN ?_|refine xo ?_|refine xp ?_)
   refine ab.gL rfl rfl rfl (fun _=>rfl) rfl rfl dw rfl rfl (by omega) OC rfl (fun p=>?_);(repeat(first|refine xT ?_|refine xL ?_|refine xN ?_|refine xo ?_|refine xp ?_));refine ab.nil ?_;(try dsimp only[Fr.aC,Fr.put,Fr.clean,Fr.ev,Fr.get,nth,V.look,u1,u2,v1,v2,v3,v4,v5,v6,v7,List.length,u3,u4,Nat.reduceSub,Nat.reduceAdd,List.map]);(try subst hK);(try refine qy ?_);have T0:r+1≤(r+1)*64^(j+1):=Nat.le_mul_of_pos_right _ (Nat.pow_pos (by omega));rw[S_ (by omega) TB];(try refine qy ?_);(repeat refine qq ?_);(try generalize hK:bW _ _ _ _=K);refine af.eX ?_;(repeat(first|refine xT ?_|refine xL ?_|refine xN ?_|refine xo ?_|refine xp ?_));refine ab.nil ?_;(try dsimp only[Fr.aC,Fr.put,Fr.clean,Fr.ev,Fr.get,nth,V.look,u1,u2,v1,v2,v3,v4,v5,v6,v7,List.length,u3,u4,Nat.reduceSub,Nat.reduceAdd,List.map]);(try subst hK);(try refine qy ?_);(repeat refine qq ?_);(try generalize hK:bW _ _ _ _=K);refine af.eX ?_;(repeat(first|refine xT ?_|refine xL ?_|refine xN ?_|refine xo ?_|refine xp ?_));refine ab.nil ?_;(try dsimp only[Fr.aC,Fr.put,Fr.clean,Fr.ev,Fr.get,nth,V.look,u1,u2,v1,v2,v3,v4,v5,v6,v7,List.length,u3,u4,Nat.reduceSub,Nat.reduceAdd,List.map]);(try subst hK);(try refine qy ?_);rw[wrap_i64 (by omega) (by omega)];refine⟨j,by omega,i+1,_,_,_,rfl,rfl,by omega,by omega,by rw[jc];exact hS,?_⟩;have e1:(r*64+y.toNat %64+1)≤(r+1)*64:=by omega
   have e2:=Nat.mul_le_mul_right (64^j) e1;have e3:64*64^j=64^(j+1):=by rw[Nat.pow_succ,Nat.mul_comm]
   rw[Nat.mul_assoc,e3] at e2;omega
  ·refine af.exit ?_;have:j=0:=by omega
   subst this;simp only[ib] at hS;subst hS;(try refine qy ?_);(repeat refine qq ?_);(try generalize hK:bW _ _ _ _=K);refine af.eX ?_;(repeat(first|refine xT ?_|refine xL ?_|refine xN ?_|refine xo ?_|refine xp ?_));refine ab.nil ?_;(try dsimp only[Fr.aC,Fr.put,Fr.clean,Fr.ev,Fr.get,nth,V.look,u1,u2,v1,v2,v3,v4,v5,v6,v7,List.length,u3,u4,Nat.reduceSub,Nat.reduceAdd,List.map]);(try subst hK);(try refine qy ?_);refine af.ret ⟨rx,_,rfl,bA (by simp) (by simp[ai]) ?_⟩;rw[wrap_i64 (by omega) (by omega)];rfl
 rcases hk with hk|hk|hk|hk|hk
 ·omega
 ·subst hk;refine af.cond (v:=false) rfl (fun h=>by cases h) fun _=>af.skip ?_;rw[d_ (by simp only[ko];omega)];exact H _ 0 _ rfl rfl (by omega)
 ·subst hk;refine af.cond (v:=true) rfl (fun _=>?_) (fun h=>by cases h);refine af.eX ?_
  (first|refine xT ?_|refine xL ?_|refine xN ?_|refine xo ?_|refine xp ?_)
  refine ab.gL rfl rfl rfl (fun _=>rfl) rfl rfl dw rfl rfl (by omega) rfl rfl (fun p=>?_);(repeat(first|refine xT ?_|refine xL ?_|refine xN ?_|refine xo ?_|refine xp ?_));refine ab.nil ?_;(try dsimp only[Fr.aC,Fr.put,Fr.clean,Fr.ev,Fr.get,nth,V.look,u1,u2,v1,v2,v3,v4,v5,v6,v7,List.length,u3,u4,Nat.reduceSub,Nat.reduceAdd,List.map]);rw[mask (j:=5) hc (by omega)]
  ·exact H _ 1 _ rfl rfl (by omega)
  ·decide
 ·subst hk;refine af.cond (v:=true) rfl (fun _=>?_) (fun h=>by cases h);refine af.eX ?_
  (first|refine xT ?_|refine xL ?_|refine xN ?_|refine xo ?_|refine xp ?_)
  refine ab.gL rfl rfl rfl (fun _=>rfl) rfl rfl dw rfl rfl (by omega) rfl rfl (fun p=>?_);(repeat(first|refine xT ?_|refine xL ?_|refine xN ?_|refine xo ?_|refine xp ?_));refine ab.nil ?_;(try dsimp only[Fr.aC,Fr.put,Fr.clean,Fr.ev,Fr.get,nth,V.look,u1,u2,v1,v2,v3,v4,v5,v6,v7,List.length,u3,u4,Nat.reduceSub,Nat.reduceAdd,List.map]);rw[mask (j:=4) hc (by omega)]
  ·exact H _ 2 _ rfl rfl (by omega)
  ·decide
 ·subst hk;refine af.cond (v:=true) rfl (fun _=>?_) (fun h=>by cases h);refine af.eX ?_
  (first|refine xT ?_|refine xL ?_|refine xN ?_|refine xo ?_|refine xp ?_)
  refine ab.gL rfl rfl rfl (fun _=>rfl) rfl rfl dw rfl rfl (by omega) rfl rfl (fun p=>?_);(repeat(first|refine xT ?_|refine xL ?_|refine xN ?_|refine xo ?_|refine xp ?_));refine ab.nil ?_;(try dsimp only[Fr.aC,Fr.put,Fr.clean,Fr.ev,Fr.get,nth,V.look,u1,u2,v1,v2,v3,v4,v5,v6,v7,List.length,u3,u4,Nat.reduceSub,Nat.reduceAdd,List.map]);rw[mask (j:=3) hc (by omega)]
  ·exact H _ 3 _ rfl rfl (by omega)
  ·decide
end Go.Proofs.Ytbdnabmmlbiomaa
