import Derived.Test.YtbdnabmmlbiomaaGreatWPx
import Derived.Test.YtbdnabmmlbiomaaGreatWM2
import Derived.KernelRfl
set_option linter.unusedSimpArgs false
set_option linter.unusedVariables false
set_option maxRecDepth 100000
set_option maxHeartbeats 4000000
namespace Go.V
abbrev Rg:=Int×Int
def fW (l:List Rg) (r:Int):Prop:=∃x,x∈l∧x.1≤r∧r≤x.2
theorem gd (r:Int):¬fW [] r:=by rintro⟨x,h,_⟩;cases h
theorem b9 {x:Rg} {l:List Rg} {r:Int}:fW (x::l) r↔(x.1≤r∧r≤x.2)∨fW l r:=by
 constructor
 ·rintro⟨y,hy,h⟩
  rcases List.mem_cons.1 hy with rfl|hy
  ·exact .inl h
  ·exact .inr ⟨y,hy,h⟩
 ·rintro(h|⟨y,hy,h⟩)
  ·exact⟨x,List.mem_cons_self ..,h⟩
  ·exact⟨y,List.mem_cons_of_mem _ hy,h⟩
theorem wK {a b:List Rg} {r:Int}:fW (a++b) r↔fW a r∨fW b r:=by
 constructor
 ·rintro⟨y,hy,h⟩
  rcases List.mem_append.1 hy with hy|hy
  ·exact .inl ⟨y,hy,h⟩
  ·exact .inr ⟨y,hy,h⟩
 ·rintro(⟨y,hy,h⟩|⟨y,hy,h⟩)
  ·exact⟨y,List.mem_append_left _ hy,h⟩
  ·exact⟨y,List.mem_append_right _ hy,h⟩
theorem tu {a b:List Rg} (h:∀x,x∈a↔x∈b) (r:Int):fW a r↔fW b r:=by
 constructor
 ·rintro⟨y,hy,hh⟩;exact⟨y,(h y).1 hy,hh⟩
 ·rintro⟨y,hy,hh⟩;exact⟨y,(h y).2 hy,hh⟩
def canon (l:List Rg):Prop:=(∀x∈l,x.1≤x.2)∧l.Pairwise fun x y=>x.2+1<y.1
theorem kF {x:Rg} {l:List Rg} (h:canon (x::l)):canon l∧x.1≤x.2∧∀r,fW l r→x.2+1<r:=by
 obtain⟨h1,h2⟩:=h;rw[List.pairwise_cons] at h2;refine⟨⟨fun y hy=>h1 y (List.mem_cons_of_mem _ hy),h2.2⟩,h1 x (List.mem_cons_self ..),?_⟩;rintro r ⟨y,hy,h3,h4⟩;have:=h2.1 y hy;omega
theorem nE:∀{a b:List Rg},canon a→canon b→(∀r,fW a r↔fW b r)→a=b
 |[],[],_,_,_=>rfl
 |[],y::b,_,hb,h=>by
  obtain⟨_,h1,_⟩:=kF hb;exact absurd ((h y.1).2 (b9.2 (.inl ⟨Int.le_refl _,h1⟩))) (gd _)
 |x::a,[],ha,_,h=>by
  obtain⟨_,h1,_⟩:=kF ha;exact absurd ((h x.1).1 (b9.2 (.inl ⟨Int.le_refl _,h1⟩))) (gd _)
 |x::a,y::b,ha,hb,h=>by
  obtain⟨ca,xa,fa⟩:=kF ha;obtain⟨cb,yb,fb⟩:=kF hb
  have low:∀{x y:Rg} {a b:List Rg},x.1≤x.2→(∀r,fW b r→y.2+1<r)→y.1≤y.2→(∀r,fW (x::a) r→fW (y::b) r)→y.1≤x.1:=by
   intro x y a b hx hf hy hh
   rcases b9.1 (hh x.1 (b9.2 (.inl ⟨Int.le_refl _,hx⟩))) with h|h
   ·exact h.1
   ·have:=hf _ h;omega
  have e1:x.1=y.1:=Int.le_antisymm (low yb fa xa fun r=>(h r).2) (low xa fb yb fun r=>(h r).1)
  have up:∀{x y:Rg} {a b:List Rg},x.1≤x.2→x.1=y.1→(∀r,fW a r→x.2+1<r)→(∀r,fW (y::b) r→fW (x::a) r)→y.2≤x.2:=by
   intro x y a b hx he hf hh
   rcases Int.lt_or_le x.2 y.2 with h'|h'
   ·rcases b9.1 (hh (x.2+1) (b9.2 (.inl ⟨by omega,by omega⟩))) with h|h
    ·omega
    ·have:=hf _ h;omega
   ·exact h'
  have e2:x.2=y.2:=Int.le_antisymm (up yb e1.symm fb fun r=>(h r).1) (up xa e1 fa fun r=>(h r).2);have e:x=y:=Prod.ext e1 e2;subst e
  congr 1
  refine nE ca cb fun r=>⟨fun hr=>?_,fun hr=>?_⟩
  ·have:=fa r hr
   rcases b9.1 ((h r).1 (b9.2 (.inr hr))) with h|h
   ·omega
   ·exact h
  ·have:=fb r hr
   rcases b9.1 ((h r).2 (b9.2 (.inr hr))) with h|h
   ·omega
   ·exact h
def dL (acc:List Rg) (r:Rg):List Rg:=
 match acc with
 |[]=>[r]
 |k::rest=>if r.1≤k.2+1 then(k.1,max k.2 r.2)::rest else r::k::rest
theorem m_:∀(l acc:List Rg),(∀x∈l,x.1≤x.2)→l.Pairwise (fun x y=>x.1≤y.1)→(∀k∈acc.head?,∀x∈l,k.1≤x.1)→(∀x∈acc,x.1≤x.2)→acc.Pairwise (fun x y=>y.2+1<x.1)→
  (∀x∈l.foldl dL acc,x.1≤x.2)∧(l.foldl dL acc).Pairwise (fun x y=>y.2+1<x.1)∧∀r,fW (l.foldl dL acc) r↔fW acc r∨fW l r
 |[],acc,_,_,_,h1,h2=>⟨h1,h2,fun r=>⟨.inl,fun h=>h.resolve_right (gd r)⟩⟩
 |x::l,acc,hl,hp,hk,h1,h2=>by
  rw[List.pairwise_cons] at hp;have hx:=hl x (List.mem_cons_self ..);have iD:∀y∈l,y.1≤y.2:=fun y hy=>hl y (List.mem_cons_of_mem _ hy);rw[List.foldl_cons]
  cases acc with
  |nil=>
   obtain⟨g1,g2,g3⟩:=m_ l [x] iD hp.2 (fun k ky y hy=>by simp at ky;subst ky;exact hp.1 y hy) (fun y hy=>by simp at hy;subst hy;exact hx) (by simp);refine⟨g1,g2,fun r=>(g3 r).trans ?_⟩;rw[b9 (l:=l),b9 (l:=[])];constructor
   ·rintro((h|h)|h)
    ·exact .inr (.inl h)
    ·exact absurd h (gd r)
    ·exact .inr (.inr h)
   ·rintro(h|h|h)
    ·exact absurd h (gd r)
    ·exact .inl (.inl h)
    ·exact .inr h
  |cons k rest=>
   have hkx:=hk k rfl x (List.mem_cons_self ..);have hkk:=h1 k (List.mem_cons_self ..);rw[List.pairwise_cons] at h2;unfold dL
   by_cases hc:x.1≤k.2+1
   ·simp only[if_pos hc]
    obtain⟨g1,g2,g3⟩:=m_ l ((k.1,max k.2 x.2)::rest) iD hp.2 (fun q hq y hy=>by simp at hq;subst hq;have:=hp.1 y hy;simp only;omega) (fun y hy=>by
     rcases List.mem_cons.1 hy with rfl|hy
     ·simp only;omega
     ·exact h1 y (List.mem_cons_of_mem _ hy)) (by rw[List.pairwise_cons];exact⟨h2.1,h2.2⟩)
    refine⟨g1,g2,fun r=>(g3 r).trans ?_⟩;rw[b9 (l:=rest),b9 (l:=rest),b9 (l:=l)];constructor
    ·rintro((h|h)|h)
     ·simp only at h
      by_cases hr:r≤k.2
      ·exact .inl (.inl ⟨h.1,hr⟩)
      ·exact .inr (.inl ⟨by omega,by omega⟩)
     ·exact .inl (.inr h)
     ·exact .inr (.inr h)
    ·rintro((h|h)|h|h)
     ·exact .inl (.inl ⟨h.1,by simp only;omega⟩)
     ·exact .inl (.inr h)
     ·exact .inl (.inl ⟨by simp only;omega,by simp only;omega⟩)
     ·exact .inr h
   ·simp only[if_neg hc]
    obtain⟨g1,g2,g3⟩:=m_ l (x::k::rest) iD hp.2 (fun q hq y hy=>by simp at hq;subst hq;exact hp.1 y hy) (fun y hy=>by
     rcases List.mem_cons.1 hy with rfl|hy
     ·exact hx
     ·exact h1 y hy) (by
     rw[List.pairwise_cons];refine⟨fun y hy=>?_,by rw[List.pairwise_cons];exact h2⟩
     rcases List.mem_cons.1 hy with rfl|hy
     ·omega
     ·have:=h2.1 y hy;omega)
    refine⟨g1,g2,fun r=>(g3 r).trans ?_⟩;rw[b9 (l:=k::rest),b9 (l:=l)];constructor
    ·rintro((h|h)|h)
     ·exact .inr (.inl h)
     ·exact .inl h
     ·exact .inr (.inr h)
    ·rintro(h|h|h)
     ·exact .inl (.inr h)
     ·exact .inl (.inl h)
     ·exact .inr h
theorem yA {l:List Rg} (h1:∀x∈l,x.1≤x.2) (h2:l.Pairwise fun x y=>x.1≤y.1):canon (l.foldl dL []).reverse∧∀r,fW (l.foldl dL []).reverse r↔fW l r:=by
 obtain⟨g1,g2,g3⟩:=m_ l [] h1 h2 (fun k hk=>by simp at hk) (fun x hx=>by simp at hx) List.Pairwise.nil;refine⟨⟨fun x hx=>g1 x (List.mem_reverse.1 hx),by rw[List.pairwise_reverse];exact g2⟩,fun r=>?_⟩;rw[tu (fun x=>List.mem_reverse) r,g3 r];exact⟨fun h=>h.resolve_left (gd r),.inr⟩
def oA (r:Int):Prop:=0≤r∧r≤1114111∧¬(55296≤r∧r≤57343)
def dX (x:Rg):List Rg:=
 (if max (max x.1 0) 0≤min (min x.2 1114111) 55295 then[(max (max x.1 0) 0,min (min x.2 1114111) 55295)] else[])++
 (if max (max x.1 0) 57344≤min (min x.2 1114111) 1114111 then[(max (max x.1 0) 57344,min (min x.2 1114111) 1114111)] else[])
theorem qK (x:Rg) (r:Int):fW (dX x) r↔oA r∧x.1≤r∧r≤x.2:=by
 unfold dX oA;rw[wK]
 have one:∀(a b:Int),fW (if a≤b then[(a,b)] else[]) r↔a≤r∧r≤b:=by
  intro a b
  split
  ·rw[b9];exact⟨fun h=>h.elim id fun h=>absurd h (gd r),.inl⟩
  ·exact⟨fun h=>absurd h (gd r),fun h=>by omega⟩
 rw[one,one];omega
theorem nZ (x:Rg):∀y∈dX x,y.1≤y.2∧0≤y.1∧y.2≤1114111:=by
 intro y hy;unfold dX at hy
 rcases List.mem_append.1 hy with h|h<;>split at h<;>simp at h<;>subst h<;>simp only<;>omega
theorem rn {l all:List Rg} (hp:∀x,x∈all↔x∈l.flatMap dX) (hs:all.Pairwise fun x y=>x.1≤y.1):canon (all.foldl dL []).reverse∧∀r,fW (all.foldl dL []).reverse r↔oA r∧fW l r:=by
 have hle:∀x∈all,x.1≤x.2:=fun x hx=>by
  obtain⟨y,_,hy⟩:=List.mem_flatMap.1 ((hp x).1 hx);exact(nZ y x hy).1
 obtain⟨g1,g2⟩:=yA hle hs;refine⟨g1,fun r=>(g2 r).trans ((tu hp r).trans ?_)⟩;constructor
 ·rintro⟨y,hy,h⟩;obtain⟨x,hx,hy⟩:=List.mem_flatMap.1 hy;have:=(qK x r).1 ⟨y,hy,h⟩;exact⟨this.1,x,hx,this.2⟩
 ·rintro⟨hr,x,hx,h⟩;obtain⟨y,hy,h'⟩:=(qK x r).2 ⟨hr,h⟩;exact⟨y,List.mem_flatMap.2 ⟨x,hx,hy⟩,h'⟩
def iw:List Rg→Int→Bool
 |[],_=>false
 |x::l,r=>(decide (x.1≤r) &&decide (r≤x.2))||iw l r
theorem xe:∀(l:List Rg) (r:Int),iw l r=true↔fW l r
 |[],r=>⟨fun h=>(by cases h),fun h=>absurd h (gd r)⟩
 |x::l,r=>by
  rw[b9,←xe l r];simp[iw]
end Go.V
namespace Go.Proofs.YtbdnabmmlbiomaaGreat
open Go.V Go
def rB (fr:Go.V.Fr) (k:Nat):Go.V.D:=Go.V.nth .bD fr.loc k
def ay (x:Rg):List D:=[.int .i32 x.1,.int .i32 x.2]
def bT (l:List Rg):D:=.sl (l.map fun x=>.agg (ay x))
theorem iM (l:List Rg):D.sl ((l.map ay).map (kH 2))=bT l:=by
 unfold bT;rw[List.map_map];rfl
theorem eO (l:List Rg):∀e∈l.map ay,∀d∈e,cy d=true:=by
 intro e he d hd;obtain⟨x,_,rfl⟩:=List.mem_map.1 he;simp only[ay,List.mem_cons,List.not_mem_nil,or_false] at hd
 rcases hd with rfl|rfl<;>rfl
theorem yf (l:List Rg):refs (l.map ay).flatten=0:=by
 induction l with
 |nil=>rfl
 |cons x l ih=>simp only[List.map_cons,List.flatten_cons,ay,List.cons_append,List.nil_append,refs,D.ref,ih];rfl
theorem lM (l:List Rg):∀e∈l.map ay,e.length=2:=by
 intro e he;obtain⟨x,_,rfl⟩:=List.mem_map.1 he;rfl
theorem f_ (st:St) (l:List Rg):V.Rows st 2 (bT l) (l.map ay):=by
 rw[←iM];exact Rows.re (lM l) (eO l)
theorem gE {l:List Rg} {i:Nat} {q:Rg} (h:l[i]?=some q):(l.map ay)[i]?=some (ay q):=by rw[List.getElem?_map,h];rfl
theorem BH (l:List Rg) (q:Rg) (r:Int):iw (l++[q]) r=(iw l r||(decide (q.1≤r) &&decide (r≤q.2))):=by
 induction l with
 |nil=>simp[iw]
 |cons x l ih=>simp only[List.cons_append,iw,ih,Bool.or_assoc]
theorem D6 {l:List Rg} {i:Nat} {r:Int} (h:iw (l.take i) r=true):iw l r=true:=by
 rw[xe] at h⊢;obtain⟨x,h1,h2⟩:=h;exact⟨x,List.mem_of_mem_take h1,h2⟩
theorem yV {s0:St} {x:D} {l:List Rg} {r:Int} (hx:V.Rows s0 2 x (l.map ay)) (hl:l.length≤1073741824):Ev pv 108 [x,.int .i32 r] s0 (.bool (iw l r)) s0:=by
 refine Ev.oj rfl UL rfl rfl rfl ?_;dsimp only[u3,u4,List.length,Nat.reduceSub,Nat.reduceAdd,w1,w2];obtain⟨cA,hF,hH⟩:=ri s0;generalize ai .ro s0=S at*;have hx:=Arg.of hx cA;refine qq<|qj fun K hK=>qm ?_;refine qe hK<|qq<|qq<|qj fun K hK=>qm ?_;refine qn ?_;simp only[List.length_map];refine qm ?_;refine qe hK<|ag.block<|ag.loop (fun mm fr st=>∃(i:Nat),fr.clean=⟨10,[x,.int .i32 r,rB fr 2,rB fr 3,.bool false,rB fr 5,rB fr 6,x,.int .i64 (l.length:Nat),.int .i64 (i:Nat)],[]⟩∧Has s0.bs.length S st []∧(i+mm=l.length)∧(iw (l.take i) r=false)) (l.length) ?_ ?_
 ·exact⟨0,rfl,hH,by omega,rfl⟩
 rintro mm fr st ⟨i,hfr,hH,hi,hn⟩;rw[hfr];clear hfr;generalize rB fr=ee;clear fr;refine qq<|qj fun K hK=>qg ?_;refine qe hK<|qq ?_;refine ag.cond (by rfl) (fun h1=>?_) (fun h1=>?_)<;>try simp only[decide_eq_true_eq,decide_eq_false_iff_not] at h1
 ·refine ag.skip ?_
  obtain⟨q,hq⟩:∃q,l[i]?=some q:=⟨l[i]'(by omega),List.getElem?_eq_getElem _⟩
  have hr:=gE hq;refine qq<|ag.block<|qq<|qj fun K hK=>qr fun Zh Tb=>?_;refine aa.dJ rfl (ev rfl) (by assumption) rfl (ab rfl _) ?_;refine qa hH fun k6 st E5 hH=>?_;refine qS hH au fun st hH=>?_;dsimp only[u2,u1,u3,u4,setMany,u5,u6,D.cells,Nat.reduceAdd,ay] at hH;refine qe hK<|qq<|ag.kD 22 (.bool (decide (r≥q.1) &&decide (r≤q.2))) [] ?_ (fun ff tmp hO=>?_)
  ·refine qm ?_;refine qp (o:=0) ?_;refine ql hH au ?_;refine qg ?_;refine qm ?_;refine aa.two 17 rfl (fun jT=>?_) (fun jT=>?_)
   ·refine qm ?_ (hg:=wi jT);refine qp (o:=1) ?_ (hg:=wi jT);refine ql hH au ?_ (hg:=wi jT);refine qg ?_ (hg:=wi jT);refine qt jT ?_;refine aa.nil (dv ?_ ?_)
    ·dsimp only[aO,List.foldl,nth,u2,u1]
     all_goals(first|rfl|simp)
    ·dsimp only[Fr.aE,Fr.put,Fr.clean,Fr.ev,Fr.get,nth,V.look,u1,u2,v1,v2,v3,v4,v5,v6,v7,List.length,u3,u4,Nat.reduceSub,Nat.reduceAdd,List.map]
     all_goals(simp[jT];done)
   ·refine qs ?_ (hg:=wn jT);refine qs ?_ (hg:=wn jT);refine qs ?_ (hg:=wn jT);refine qs ?_ (hg:=wn jT);refine qu jT ?_;refine aa.nil (dv ?_ ?_)
    ·dsimp only[aO,List.foldl,nth,u2,u1]
     all_goals(first|rfl|simp)
    ·dsimp only[Fr.aE,Fr.put,Fr.clean,Fr.ev,Fr.get,nth,V.look,u1,u2,v1,v2,v3,v4,v5,v6,v7,List.length,u3,u4,Nat.reduceSub,Nat.reduceAdd,List.map]
     all_goals(simp[jT];done)
  dsimp only[aO,List.foldl,nth,u2,u1];dsimp only[Fr.aE,Fr.put,Fr.clean,Fr.ev,Fr.get,nth,V.look,u1,u2,v1,v2,v3,v4,v5,v6,v7,List.length,u3,u4,Nat.reduceSub,Nat.reduceAdd,List.map]
  have ht:iw (l.take (i+1)) r=(decide (r≥q.1) &&decide (r≤q.2)):=by
   rw[List.take_add_one,hq,Option.toList_some,BH,hn];simp
  refine qc (fun h2=>?_) (fun h2=>?_)<;>try simp only[cs] at h2
  ·refine qq<|qj fun K hK=>qm ?_;refine qe hK ?_;rw[D6 (i:=i+1) (by rw[ht];simp[h2])];refine ag.ret ⟨rx,_,rfl,rl cA hH (rfl)⟩
  ·refine ag.skip<|qj fun K hK=>qA ?_;refine qm ?_;refine qe hK ?_;exact⟨mm-1,by omega,⟨i+1,rfl,(hH.drop 1),by omega,by rw[ht];simp[h2]⟩⟩
 ·refine ag.exit<|qq<|qj fun K hK=>qm ?_;refine qe hK ?_;have:iw l r=false:=by rw[←hn,List.take_of_length_le (by omega)]
  rw[this];refine ag.ret ⟨rx,_,rfl,rl cA hH (rfl)⟩
def aY (fr:Go.V.Fr) (k:Nat):Go.V.D:=Go.V.nth .bD fr.loc k
def fK:List Rg:=[(0,55295),(57344,1114111)]
def sK (lo hi:Int) (p:Rg):List Rg:=if max lo p.1≤min hi p.2 then[(max lo p.1,min hi p.2)] else[]
theorem uj (q:Rg):dX q=fK.flatMap (sK (max q.1 0) (min q.2 1114111)):=by
 simp[dX,fK,sK]
theorem CJ {s0:St} (q:Rg):Ev pv 153 [.agg (ay q)] s0 (bT (dX q)) s0:=by
 refine Ev.oj rfl Up rfl rfl rfl ?_;dsimp only[u3,u4,List.length,Nat.reduceSub,Nat.reduceAdd,w1,w2];obtain⟨cA,hF,hH⟩:=ri s0;generalize ai .ro s0=S at*;refine qq<|qj fun K hK=>qb hH fun k1 st pQ hH=>?_;dsimp only[u2,u1,u3,u4,setMany,u5,u6,D.cells,Nat.reduceAdd,ay] at hH;refine qm ?_;refine qe hK<|qq<|qj fun K hK=>qp (o:=0) ?_;refine ql hH au ?_;refine aa.K7 (t1:=0) (t2:=0) rfl (ev rfl) (ev rfl) (by dsimp only[Fr.put,u1,u2]<;>rfl) ?_;refine qp (o:=1) ?_;refine ql hH au ?_;refine aa.K6 (t1:=0) (t2:=0) rfl (ev rfl) (ev rfl) (by dsimp only[Fr.put,u1,u2]<;>rfl) ?_;refine qp (o:=0) ?_;refine qT hH au fun st hH=>?_;dsimp only[u2,u1,u3,u4,setMany,u5,u6,D.cells,Nat.reduceAdd,ay] at hH;refine qp (o:=1) ?_;refine qT hH au fun st hH=>?_;dsimp only[u2,u1,u3,u4,setMany,u5,u6,D.cells,Nat.reduceAdd,ay] at hH;refine qe hK ?_;generalize yL:max q.1 0=lo at*;generalize BB:min q.2 1114111=hi at*;refine qq<|qj fun K hK=>qm ?_;refine qe hK ?_;have hH:=hH.er 2;refine qq<|qq<|qj fun K hK=>qg ?_;refine qg ?_;refine qh (s:=2) (vs:=[_,_]) hH fun k17 st Tx hH=>?_;dsimp only[u2,u1,u3,u4,setMany,u5,u6,D.cells,Nat.reduceAdd,ay] at hH;refine qn ?_ (hR:=hH.rows au);simp only[List.length_cons,List.length_nil];refine qm ?_;refine qe hK<|ag.block<|ag.loop (fun mm fr st=>∃(i:Nat) (x:D),fr.clean=⟨20,[.agg (ay q),.ptr k1 0 0,.nul,x,aY fr 4,aY fr 5,aY fr 6,aY fr 7,aY fr 8,aY fr 9,aY fr 10,aY fr 11,aY fr 12,aY fr 13,aY fr 14,aY fr 15,aY fr 16,.win k17 0 0 2 2,.int .i64 2,.int .i64 (i:Nat)],[]⟩∧Has s0.bs.length S st [.aM (.win k17 0 0 2 2) 2 (fK.map ay),.aM x 2 (((fK.take i).flatMap (sK lo hi)).map ay),.box k1 (.mem 0 false [.int .i32 lo,.int .i32 hi])]∧(i+mm=2)∧(((fK.take i).flatMap (sK lo hi)).length≤i)) (2) ?_ ?_
 ·exact⟨0,.nul,rfl,hH,by omega,by simp⟩
 rintro mm fr st ⟨i,x,hfr,hH,hij,hb⟩;rw[hfr];clear hfr;generalize aY fr=ee;clear fr;refine qq<|qj fun K hK=>qg ?_;refine qe hK<|qq ?_;refine ag.cond (by rfl) (fun h1=>?_) (fun h1=>?_)<;>try simp only[decide_eq_true_eq,decide_eq_false_iff_not] at h1
 ·refine ag.skip ?_
  obtain⟨p,hp⟩:∃p,fK[i]?=some p:=⟨fK[i]'(by simp[fK];omega),List.getElem?_eq_getElem _⟩
  have hr:=gE hp;refine qq<|ag.block<|qq<|qj fun K hK=>qi hH au fun VI Qx=>?_;refine aa.og hH rfl (ev rfl) (by assumption) (by exact au) (by assumption) rfl (ab rfl _) ?_;refine qa hH fun k5 st E6 hH=>?_;refine qS hH au fun st hH=>?_;dsimp only[u2,u1,u3,u4,setMany,u5,u6,D.cells,Nat.reduceAdd,ay] at hH;refine qe hK<|qq<|qj fun K hK=>qp (o:=0) ?_;refine ql hH bf ?_;refine qp (o:=0) ?_;refine ql hH au ?_;refine aa.K7 (t1:=0) (t2:=0) rfl (ev rfl) (ev rfl) (ab rfl _) ?_;refine qp (o:=1) ?_;refine ql hH bf ?_;refine qp (o:=1) ?_;refine ql hH au ?_;refine aa.K6 (t1:=0) (t2:=0) rfl (ev rfl) (ev rfl) (ab rfl _) ?_;refine qg ?_;refine qa hH fun k6 st E5 hH=>?_;refine qS hH au fun st hH=>?_;dsimp only[u2,u1,u3,u4,setMany,u5,u6,D.cells,Nat.reduceAdd,ay] at hH;refine qe hK<|qq<|qj fun K hK=>qp (o:=0) ?_;refine ql hH au ?_;refine qp (o:=1) ?_;refine ql hH au ?_;refine qg ?_;refine qe hK ?_;refine ag.cond (by rfl) (fun h2=>?_) (fun h2=>?_)<;>try simp only[decide_eq_true_eq,decide_eq_false_iff_not] at h2
  ·refine qj fun K hK=>qm ?_;refine aa.bk (m:=2) hH rfl (ev rfl) (by exact au) (by dsimp only[List.drop_succ_cons,List.drop_zero,List.take_succ_cons,List.take_zero,ay]<;>rfl) rfl rfl (ab rfl _) ?_;refine qh (s:=2) (vs:=[_]) hH fun k41 st Tq hH=>?_;refine aa.bP (s:=2) hH rfl (ev rfl) (ev rfl) (by exact bm) (by exact hH.rows (by exact au)) rfl rfl rfl rfl rfl rfl rfl ⟨(Nat.le_of_ble_eq_true rfl),(Nat.le_of_ble_eq_true rfl)⟩ (fun _=>(ab rfl _)) (by simp only[List.length_cons,List.length_nil,List.length_map]<;>omega) (by exact .inl hF) (fun RI st hH=>?_);dsimp only[u2,u1,u3,u4,setMany,u5,u6,D.cells,Nat.reduceAdd,ay] at hH;refine qm ?_;refine qe hK<|qj fun K hK=>qA ?_;refine qm ?_;refine qe hK ?_
   have h3:(fK.take (i+1)).flatMap (sK lo hi)=(fK.take i).flatMap (sK lo hi)++[(max lo p.1,min hi p.2)]:=by
    rw[List.take_add_one,hp,List.flatMap_append];simp[sK,h2]
   exact⟨mm-1,by omega,⟨i+1,RI,rfl,(by rw[h3,List.map_append];exact hH.drop 3),by omega,by rw[h3];simp only[List.length_append,List.length_cons,List.length_nil];omega⟩⟩
  ·refine ag.skip<|qj fun K hK=>qA ?_;refine qm ?_;refine qe hK ?_
   have h3:(fK.take (i+1)).flatMap (sK lo hi)=(fK.take i).flatMap (sK lo hi):=by
    rw[List.take_add_one,hp,List.flatMap_append];simp[sK,h2]
   exact⟨mm-1,by omega,⟨i+1,x,rfl,(by rw[h3];exact hH.drop 2),by omega,by rw[h3];omega⟩⟩
 ·refine ag.exit<|qq<|qj fun K hK=>qm ?_;refine qm ?_;refine qe hK ?_;rw[←iM];have h3:fK.take i=fK:=List.take_of_length_le (by simp[fK];omega);rw[h3] at hH;refine ag.ret ⟨rx,_,rfl,rl cA hH ?_⟩;refine Eq.trans (hH.freeze aS (eO _) (n:=15) (by decide)) ?_;rw[uj,yL,BB]
theorem A4 (q x:Rg) (h:x∈dX q):0≤x.1∧x.1≤1114111:=by
 obtain⟨h1,h2,h3⟩:=nZ q x h;omega
theorem qL (q:Rg):(dX q).length≤2:=by
 unfold dX;split<;>split<;>simp
theorem jm (l:List Rg):(l.flatMap dX).length≤2*l.length:=by
 induction l with
 |nil=>simp
 |cons x l ih=>simp only[List.flatMap_cons,List.length_append,List.length_cons];have:=qL x;omega
theorem sZ:∀{l:List Rg},(∀x∈l,0≤x.1∧x.1≤1114111)→∃m:List Rs,fy m=(l.map ay).flatten∧m.map (fun x=>(x.lo,x.hi))=l
 |[],_=>⟨[],rfl,rfl⟩
 |x::l,h=>by
  obtain⟨m,h1,h2⟩:=sZ (l:=l) fun y hy=>h y (List.mem_cons_of_mem _ hy);obtain⟨h3,h4⟩:=h x (List.mem_cons_self ..);exact⟨⟨x.1,x.2,h3,h4⟩::m,by simp only[fy,h1,List.map_cons,List.flatten_cons,ay,List.cons_append,List.nil_append],by simp[h2]⟩
theorem y5 (m:List Rs):fy m=((m.map fun x=>((x.lo,x.hi):Rg)).map ay).flatten:=by
 induction m with
 |nil=>rfl
 |cons x m ih=>simp only[fy,ih,List.map_cons,List.flatten_cons,ay,List.cons_append,List.nil_append]
theorem D5 {N:Nat} {S st:St} {H:List bC} {j:Nat} {x:D} {l:List Rg} (hH:Has N S st H) (hj:H[j]?=some (.aM x 2 (l.map ay))) (h0:l=[]→x=.nul) (hl:l.length≤1073741824) (hr:∀y∈l,0≤y.1∧y.1≤1114111):
  ∃(ah:St) (l':List Rg),Ev pv 154 [x,.fn 155 []] st (.tup []) ah∧Has N S ah (H.set j (.aM x 2 (l'.map ay)))∧l'.Perm l∧l'.Pairwise fun a b=>a.1≤b.1:=by
 obtain⟨m,h1,h2⟩:=sZ hr;obtain⟨h3,h4⟩:=srt_facts m;have Bx:m.length=l.length:=by rw[←h2];simp
 have hperm:((srt m).map fun x=>((x.lo,x.hi):Rg)).Perm l:=by rw[←h2];exact h3.map _
 have o9:((srt m).map fun x=>((x.lo,x.hi):Rg)).Pairwise fun a b=>a.1≤b.1:=by rw[List.pairwise_map];exact h4
 have hlen:(srt m).length=l.length:=h3.length_eq.trans Bx;have hown:=hH.own hj;generalize yQ:l.map ay=es at*;have vw:es.length=l.length:=by rw[←yQ];simp
 cases hown with
 |nul=>
  have QD:l=[]:=by cases l with|nil=>rfl|cons _ _=>simp at vw
  refine⟨st,(srt m).map fun x=>(x.lo,x.hi),Ev.kf rfl rfl,?_,hperm,o9⟩
  have:(srt m).map (fun x=>((x.lo,x.hi):Rg))=[]:=by
   cases hs:srt m with
   |nil=>rfl
   |cons a b=>rw[hs,QD] at hlen;simp at hlen
  rw[this];exact hH.sH hj (fun _ _ _=>rfl) (Nat.le_refl _) rfl rfl .nul (fun k hk=>.inl hk) fun k hk=>by simp only[bC.aM,D.ref] at hk;omega
 |win k aD off es c hm hle hc he=>
  have hne:l≠[]:=fun e=>by have:=h0 e;cases this
  have sO:1≤l.length:=by cases l with|nil=>exact absurd rfl hne|cons _ _=>simp
  have hk:=(hH.ok j _ hj).2 k (by simp only[bC.aM,D.ref]);have yR:(fy (srt m)).length=es.length*2:=by rw[nj,hlen,vw];omega
  have hwr:st.wr k aD off (fy (srt m))=some ⟨st.bs.set k (.mem aD true (c.take off++fy (srt m)++c.drop (off+(fy (srt m)).length))),st.flr,st.ro⟩:=
   ml hm (by omega) (jW hH hk.1 (.inr (tP _)))
  refine⟨⟨st.bs.set k (.mem aD true (c.take off++fy (srt m)++c.drop (off+(fy (srt m)).length))),st.flr,st.ro⟩,(srt m).map fun x=>(x.lo,x.hi),Ev.kf rfl ?_,?_,hperm,o9⟩
  ·show AZ [.win k aD off es.length 2,.fn 155 []] st=_;have iE:(c.drop off).take (2*es.length)=fy m:=by rw[Nat.mul_comm,hc,h1]
   simp only[AZ,St.mem_of hm,iE,zT,MD];rw[decide_eq_true (⟨by rw[Bx,vw],by omega,by omega⟩:m.length=es.length∧1≤es.length∧es.length<1099511627776)];simp only[hwr]
  ·refine hH.sH hj (fun n hn hne=>?_) (by simp) rfl rfl ?_ (fun n hn=>.inl hn) fun n hn=>?_
   ·simp only;rw[List.getElem?_set_ne (fun e=>hne (by simp only[bC.aM,D.ref];omega))]
   ·have h9:=ia.win (st:=⟨st.bs.set k (.mem aD true (c.take off++fy (srt m)++c.drop (off+(fy (srt m)).length))),st.flr,st.ro⟩) (s:=2) k aD off (((srt m).map fun x=>((x.lo,x.hi):Rg)).map ay) (c.take off++fy (srt m)++c.drop (off+(fy (srt m)).length))
     (by simp only;rw[List.getElem?_set_self hk.2]) (by simp only[List.length_append,List.length_take,List.length_map,List.length_drop,yR];omega) ?_ (lM _)
    ·simp only[List.length_map,hlen] at h9;rw[vw];exact h9
    ·have WU:(c.take off).length=off:=by simp;omega
     rw[List.append_assoc,List.drop_left' WU,←y5,List.take_left' (by simp only[List.length_map,hlen];omega)]
   ·simp only[bC.aM,D.ref] at hn;simp only[List.length_set];omega
theorem rA (l:List Rg):(l.foldl dL []).length≤l.length:=by
 have key:∀(l acc:List Rg),(l.foldl dL acc).length≤acc.length+l.length:=by
  intro l
  induction l with
  |nil=>intro acc;simp
  |cons x l ih=>
   intro acc;simp only[List.foldl_cons,List.length_cons];have:=ih (dL acc x)
   have h2:(dL acc x).length≤acc.length+1:=by
    unfold dL;split
    ·simp
    ·split<;>simp
   omega
 have:=key l []
 simpa using this
theorem La {l:List Rg} (h:∀x∈l,0≤x.2∧x.2≤1114111):∀x∈l.foldl dL [],0≤x.2∧x.2≤1114111:=by
 have key:∀(l acc:List Rg),(∀x∈l,0≤x.2∧x.2≤1114111)→(∀x∈acc,0≤x.2∧x.2≤1114111)→∀x∈l.foldl dL acc,0≤x.2∧x.2≤1114111:=by
  intro l
  induction l with
  |nil=>intro acc _ h x hx;exact h x hx
  |cons y l ih=>
   intro acc h1 h2;refine ih _ (fun x hx=>h1 x (List.mem_cons_of_mem _ hx)) fun x hx=>?_;have hy:=h1 y (List.mem_cons_self ..);unfold dL at hx
   split at hx
   ·simp only[List.mem_cons,List.not_mem_nil,or_false] at hx;rw[hx];exact hy
   ·rename_i k rest;have hk:=h2 k (List.mem_cons_self ..)
    split at hx
    ·rcases List.mem_cons.1 hx with rfl|hx
     ·simp only;omega
     ·exact h2 x (List.mem_cons_of_mem _ hx)
    ·rcases List.mem_cons.1 hx with rfl|hx
     ·exact hy
     ·exact h2 x hx
 exact key l [] h (fun x hx=>by cases hx)
theorem Dv (h:Rg) (t:List Rg):((h::t).reverse.map ay)[t.length]?=some (ay h):=by
 rw[List.getElem?_map,List.reverse_cons,List.getElem?_append_right (by simp)];simp
theorem Du (h h':Rg) (t:List Rg):((h::t).reverse.map ay).set t.length (ay h')=(h'::t).reverse.map ay:=by
 rw[List.reverse_cons,List.map_append,List.set_append_right _ _ (by simp)];simp
theorem Ad {s0:St} {x:D} {l:List Rg} (hx:V.Rows s0 2 x (l.map ay)) (hl:l.length≤268435456):∃d,Ev pv 146 [x] s0 d s0∧∃all:List Rg,d=bT (all.foldl dL []).reverse∧all.Perm (l.flatMap dX)∧all.Pairwise fun a b=>a.1≤b.1:=by
 refine Ev.E0 rfl Ut rfl rfl rfl ?_;dsimp only[u3,u4,List.length,Nat.reduceSub,Nat.reduceAdd,w1,w2];obtain⟨cA,hF,hH⟩:=ri s0;generalize ai .ro s0=S at*;have hx:=Arg.of hx cA;have px:=jm l
 have hfi:∀i,((l.take i).flatMap dX).length≤2*l.length:=fun i=>by
  have:=jm (l.take i);simp only[List.length_take] at this;omega
 refine qq<|qj fun K hK=>qm ?_;refine qe hK<|qq<|qj fun K hK=>qm ?_;refine qm ?_;refine qe hK<|qq<|qq<|qj fun K hK=>qm ?_;refine qn ?_;simp only[List.length_map];refine qm ?_;refine qe hK ?_;have hH:=hH.er 2;refine ag.block<|ag.loop (fun mm fr st=>∃(i:Nat) (y:D),fr.clean=⟨26,[x,aY fr 1,aY fr 2,y,.nul,aY fr 5,aY fr 6,aY fr 7,aY fr 8,aY fr 9,x,.int .i64 (l.length:Nat),.int .i64 (i:Nat),aY fr 13,aY fr 14,aY fr 15,aY fr 16,aY fr 17,aY fr 18,aY fr 19,aY fr 20,aY fr 21,aY fr 22,aY fr 23,aY fr 24,aY fr 25],[]⟩∧Has s0.bs.length S st [.aM y 2 (((l.take i).flatMap dX).map ay)]∧(i+mm=l.length)∧((l.take i).flatMap dX=[]→y=.nul)) (l.length) ?_ ?_
 ·exact⟨0,.nul,rfl,hH,by omega,fun _=>rfl⟩
 rintro mm fr st ⟨i,y,hfr,hH,hi,Qz⟩;rw[hfr];clear hfr;generalize aY fr=ee;clear fr;refine qq<|qj fun K hK=>qg ?_;refine qe hK ?_;have hm:=hfi i;refine qq ?_;refine ag.cond (by rfl) (fun h1=>?_) (fun h1=>?_)<;>try simp only[decide_eq_true_eq,decide_eq_false_iff_not] at h1
 ·refine ag.skip ?_
  obtain⟨q,hq⟩:∃q,l[i]?=some q:=⟨l[i]'(by omega),List.getElem?_eq_getElem _⟩
  have hr:=gE hq
  have yJ:(l.take (i+1)).flatMap dX=(l.take i).flatMap dX++dX q:=by
   rw[List.take_add_one,hq];simp
  have hrq:=qL q;refine qq<|ag.block<|qq<|qj fun K hK=>qr fun p14 aaE=>?_;refine aa.dJ rfl (ev rfl) (by assumption) rfl (by dsimp only[Fr.put,u1,u2]<;>rfl) ?_;refine qa hH fun k6 st E5 hH=>?_;refine qS hH au fun st hH=>?_;dsimp only[u2,u1,u3,u4,setMany,u5,u6,D.cells,Nat.reduceAdd,ay] at hH;refine qe hK<|qj fun K hK=>qm ?_;refine aa.bk (m:=2) hH rfl (ev rfl) (by exact au) (by dsimp only[List.drop_succ_cons,List.drop_zero,List.take_succ_cons,List.take_zero,ay]<;>rfl) rfl rfl (by dsimp only[Fr.put,u1,u2]<;>rfl) ?_;refine qv (CJ q) ?_;refine aa.D7 hH rfl rfl rfl (by exact aS) (f_ _ _) rfl rfl rfl rfl rfl rfl rfl ⟨(Nat.le_of_ble_eq_true rfl),(Nat.le_of_ble_eq_true rfl)⟩ (fun _=>by dsimp only[Fr.put,u1,u2]<;>rfl) (by simp only[List.length_map];omega) (.inl hF) (fun Rr st Td hH=>?_);dsimp only[u2,u1] at hH;refine qm ?_;refine qe hK<|qj fun K hK=>qA ?_;refine qm ?_;refine qe hK ?_;exact⟨mm-1,by omega,⟨i+1,Rr,rfl,(by rw[yJ,List.map_append];exact hH.drop 1),by omega,by rw[yJ];intro h;obtain⟨h3,h4⟩:=List.append_eq_nil_iff.1 h;rw[Td (by rw[h4];rfl)];exact Qz h3⟩⟩
 ·refine ag.exit ?_;have hT:l.take i=l:=List.take_of_length_le (by omega);rw[hT] at hH Qz hm
  obtain⟨st2,all,aN,Mx,hperm,o9⟩:=D5 hH au Qz (by omega) (fun z hz=>by
   obtain⟨w,_,hw⟩:=List.mem_flatMap.1 hz
   exact A4 w z hw)
  have hlen:=hperm.length_eq
  have hbd:∀z∈all,0≤z.2∧z.2≤1114111:=fun z hz=>by
   obtain⟨w,_,hw⟩:=List.mem_flatMap.1 (hperm.mem_iff.1 hz);have:=nZ w z hw;omega
  refine qq<|qj fun K hK=>qm ?_;refine qv (aN) ?_;refine qe hK ?_;have hH:=Mx;dsimp only[u2] at hH;clear Mx aN;have hR:=hH.rows au;have hH:=hH.er 2;refine qq<|qq<|qj fun K hK=>qm ?_;refine qn ?_ (hR:=hH.rows aS);simp only[List.length_map];refine qm ?_;refine qe hK<|ag.block<|ag.loop (fun mm fr st=>∃(i:Nat) (z:D),fr.clean=⟨26,[x,aY fr 1,aY fr 2,y,z,aY fr 5,aY fr 6,aY fr 7,aY fr 8,aY fr 9,aY fr 10,aY fr 11,aY fr 12,aY fr 13,aY fr 14,aY fr 15,aY fr 16,aY fr 17,aY fr 18,aY fr 19,aY fr 20,aY fr 21,aY fr 22,y,.int .i64 (all.length:Nat),.int .i64 (i:Nat)],[]⟩∧Has s0.bs.length S st [.aM z 2 (((all.take i).foldl dL []).reverse.map ay),.aM y 2 (all.map ay)]∧(i+mm=all.length)) (all.length) ?_ ?_
  ·exact⟨0,.nul,rfl,hH,by omega⟩
  rintro mm fr st ⟨i,z,hfr,hH,hi⟩;rw[hfr];clear hfr;generalize aY fr=ee;clear fr;refine qq<|qj fun K hK=>qg ?_;refine qe hK ?_
  have kL:((all.take i).foldl dL []).length≤all.length:=by
   have:=rA (all.take i);simp only[List.length_take] at this;omega
  refine qq ?_;refine ag.cond (by rfl) (fun h1=>?_) (fun h1=>?_)<;>try simp only[decide_eq_true_eq,decide_eq_false_iff_not] at h1
  ·refine ag.skip ?_
   obtain⟨q,hq⟩:∃q,all[i]?=some q:=⟨all[i]'(by omega),List.getElem?_eq_getElem _⟩
   have hr:=gE hq
   have QK:(all.take (i+1)).foldl dL []=dL ((all.take i).foldl dL []) q:=by
    rw[List.take_add_one,hq,List.foldl_append];rfl
   generalize ma:(all.take i).foldl dL []=acc at*;refine qq<|ag.block<|qq<|qj fun K hK=>qi hH aS fun p27 aaD=>?_;refine aa.og hH rfl (ev rfl) (by assumption) (by exact aS) (by assumption) rfl (ab rfl _) ?_;refine qa hH fun k8 st Tn hH=>?_;refine qS hH au fun st hH=>?_;dsimp only[u2,u1,u3,u4,setMany,u5,u6,D.cells,Nat.reduceAdd,ay] at hH;refine qe hK ?_
   rcases acc with _|⟨h,t⟩
   ·refine qq<|qj fun K hK=>qm ?_;refine qn ?_ (hR:=hH.rows aS);simp only[List.length_map,List.length_nil,List.length_reverse];refine aa.mO (z:=(-1)) rfl (ev rfl) (ev rfl) (by rw[wrap_i64 (by omega) (by omega)]<;>omega) (ab rfl _) ?_;refine qm ?_;refine qe hK ?_;have bz:decide ((-1:Int)≥0)=false:=by decide
    refine qq<|ag.kD 44 (.bool false) [] ?_ (fun ff tmp hO=>?_)
    ·refine qm ?_;refine qg ?_;refine qm ?_;refine qs ?_ (hg:=wn bz);refine qs ?_ (hg:=wn bz);refine qs ?_ (hg:=wn bz);refine qs ?_ (hg:=wn bz);refine qs ?_ (hg:=wn bz);refine qs ?_ (hg:=wn bz);refine qs ?_ (hg:=wn bz);refine qs ?_ (hg:=wn bz);refine qs ?_ (hg:=wn bz);refine qu bz ?_;refine aa.nil (dv ?_ ?_)
     ·dsimp only[aO,List.foldl,nth,u2,u1]
      all_goals(first|rfl|simp)
     ·dsimp only[Fr.aE,Fr.put,Fr.clean,Fr.ev,Fr.get,nth,look,u1,u2,v1,v2,v4]
      all_goals(rfl)
    dsimp only[aO,List.foldl,nth,u2,u1];dsimp only[Fr.aE,Fr.put,Fr.clean,Fr.ev,Fr.get,nth,look,u1,u2,v1,v2,v4];refine qC ?_;refine qj fun K hK=>qm ?_;refine aa.bk (m:=2) hH rfl (ev rfl) (by exact au) (by dsimp only[List.drop_succ_cons,List.drop_zero,List.take_succ_cons,List.take_zero,ay]<;>rfl) rfl rfl (ab rfl _) ?_;refine qh (s:=2) (vs:=[_]) hH fun k59 st W9 hH=>?_;refine aa.bP (s:=2) hH rfl (ev rfl) (ev rfl) (by exact ba) (by exact hH.rows (by exact au)) rfl rfl rfl rfl rfl rfl rfl ⟨(Nat.le_of_ble_eq_true rfl),(Nat.le_of_ble_eq_true rfl)⟩ (fun _=>(ab rfl _)) (by simp only[List.length_cons,List.length_nil,List.length_map,List.length_reverse]<;>omega) (by exact .inl hF) (fun Vs st hH=>?_);dsimp only[u2,u1,u3,u4,setMany,u5,u6,D.cells,Nat.reduceAdd,ay] at hH;refine qm ?_;refine qe hK<|qj fun K hK=>qA ?_;refine qm ?_;refine qe hK ?_;exact⟨mm-1,by omega,⟨i+1,Vs,rfl,(by rw[QK];exact hH.drop 2),by omega⟩⟩
   ·simp only[List.length_cons] at kL;refine qq<|qj fun K hK=>qm ?_;refine qn ?_ (hR:=hH.rows aS);simp only[List.length_map,List.length_cons,List.length_reverse];refine aa.mO (z:=((t.length:Nat):Int)) rfl (ev rfl) (ev rfl) (by rw[wrap_i64 (by omega) (by omega)]<;>omega) (ab rfl _) ?_;refine qm ?_;refine qe hK ?_;have Ap:=Dv h t;have hU:=Du h (h.1,max h.2 q.2) t;have BB:=La (l:=all.take i) (fun x hx=>hbd x (List.mem_of_mem_take hx)) h (by rw[ma];exact List.mem_cons_self ..);have bz:decide (((t.length:Nat):Int)≥0)=true:=by rw[decide_eq_true];omega
    refine qq<|ag.kD 44 (.bool (decide (q.1≤h.2+1))) [] ?_ (fun ff tmp hO=>?_)
    ·refine qm ?_;refine qg ?_;refine qm ?_;refine qp (o:=0) ?_ (hg:=wi bz);refine ql hH au ?_ (hg:=wi bz);refine qm ?_ (hg:=wi bz);refine qm ?_ (hg:=wi bz);refine qi hH aS (fun p39 WH=>?_) (hg:=wi bz);refine aa.iq (fo:=1) (m:=0) (o2:=1) (aC rfl rfl rfl bz) (ev rfl) (by assumption) rfl rfl rfl (fun _=>(ab rfl _)) (fun p40 WG=>?_);refine qo hH aS ?_ (hg:=wi bz);refine aa.sx (aC rfl rfl rfl bz) (ev rfl) (ev rfl) (by omega) (by omega) (ab rfl _) ?_;refine qg ?_ (hg:=wi bz);refine qt bz ?_;refine aa.nil (dv ?_ ?_)
     ·dsimp only[aO,List.foldl,nth,u2,u1]
      all_goals(first|rfl|simp)
     ·dsimp only[Fr.aE,Fr.put,Fr.clean,Fr.ev,Fr.get,nth,look,u1,u2,v1,v2,v4]
      all_goals(rfl)
    dsimp only[aO,List.foldl,nth,u2,u1];dsimp only[Fr.aE,Fr.put,Fr.clean,Fr.ev,Fr.get,nth,look,u1,u2,v1,v2,v4];refine ag.cond (by assumption) (fun h2=>?_) (fun h2=>?_)<;>try simp only[decide_eq_true_eq,decide_eq_false_iff_not] at h2
    ·refine qj fun K hK=>qm ?_;refine qm ?_;refine qm ?_;refine qm ?_;refine qi hH aS fun p49 WD=>?_;refine aa.iq (fo:=1) (m:=0) (o2:=1) rfl (ev rfl) (by assumption) rfl rfl rfl (fun _=>(ab rfl _)) (fun p50 WC=>?_);refine qo hH aS ?_;refine qp (o:=1) ?_;refine ql hH au ?_;refine aa.K7 (t1:=0) (t2:=0) rfl (ev rfl) (ev rfl) (ab rfl _) ?_;refine qi hH aS fun p55 aay=>?_;refine aa.iq (fo:=1) (m:=0) (o2:=1) rfl (ev rfl) (by assumption) rfl rfl rfl (fun _=>(ab rfl _)) (fun p56 aax=>?_);refine aa.iO hH rfl (ev rfl) (ev rfl) (by assumption) rfl rfl (by exact aS) (by assumption) (Nat.le_of_ble_eq_true rfl) (by exact .inl hF) (fun st hH=>?_);dsimp only[u2,u1,u3,u4,setMany,u5,u6,D.cells,Nat.reduceAdd,ay] at hH;refine qe hK<|qj fun K hK=>qA ?_;refine qm ?_;refine qe hK ?_;exact⟨mm-1,by omega,⟨i+1,z,rfl,(by rw[QK];simp only[dL,if_pos h2];rw[←hU];exact hH.drop 1),by omega⟩⟩
    ·refine qj fun K hK=>qm ?_;refine aa.bk (m:=2) hH rfl (ev rfl) (by exact au) (by dsimp only[List.drop_succ_cons,List.drop_zero,List.take_succ_cons,List.take_zero,ay]<;>rfl) rfl rfl (ab rfl _) ?_;refine qh (s:=2) (vs:=[_]) hH fun k59 st W9 hH=>?_;refine aa.bP (s:=2) hH rfl (ev rfl) (ev rfl) (by exact ba) (by exact hH.rows (by exact au)) rfl rfl rfl rfl rfl rfl rfl ⟨(Nat.le_of_ble_eq_true rfl),(Nat.le_of_ble_eq_true rfl)⟩ (fun _=>(ab rfl _)) (by simp only[List.length_cons,List.length_nil,List.length_map,List.length_reverse]<;>omega) (by exact .inl hF) (fun Vs st hH=>?_);dsimp only[u2,u1,u3,u4,setMany,u5,u6,D.cells,Nat.reduceAdd,ay] at hH;refine qm ?_;refine qe hK<|qj fun K hK=>qA ?_;refine qm ?_;refine qe hK ?_;exact⟨mm-1,by omega,⟨i+1,Vs,rfl,(by rw[QK];simp only[dL,if_neg h2];rw[List.reverse_cons (a:=q),List.map_append];exact hH.drop 2),by omega⟩⟩
  ·refine ag.exit<|qq<|qj fun K hK=>qm ?_;refine qm ?_;refine qe hK ?_;rw[List.take_of_length_le (by omega)] at hH;refine ag.ret ⟨rx,_,_,rfl,rl cA hH ((hH.freeze au (eO _) (n:=15) (by decide))),?_⟩;exact⟨all,by rw[iM],hperm,o9⟩
def ju (fr:Go.V.Fr) (k:Nat):Go.V.D:=Go.V.nth .bD fr.loc k
def gO (l a:List Rg):Prop:=canon a∧∀r,fW a r↔oA r∧fW l r
theorem gO.unique {l a b:List Rg} (h:gO l a) (g:gO l b):a=b:=nE h.1 g.1 fun r=>(h.2 r).trans (g.2 r).symm
noncomputable def fI (l:List Rg):Bool:=@decide (gO l l) (Classical.propDecidable _)
theorem A7 {l a:List Rg} (h:gO l a):fI l=decide (l=a):=by
 unfold fI
 by_cases hl:l=a
 ·rw[decide_eq_true hl];exact@decide_eq_true _ (Classical.propDecidable _) (by rw[hl] at h⊢;exact h)
 ·rw[decide_eq_false hl];exact@decide_eq_false _ (Classical.propDecidable _) (fun g=>hl (g.unique h))
theorem Bh (p q:Rg):oO pv .neq 170 (.agg (ay p)) (.agg (ay q))=some (.bool (!decide (p=q))):=by
 have h:∀a b a' b':Int,oO pv .neq 170 (.agg [.int .i32 a,.int .i32 b]) (.agg [.int .i32 a',.int .i32 b'])=Option.map (fun b=>D.bool !b) (match some (a==a') with|some true=>(match some (b==b') with|some true=>some true|some false=>some false|none=>none)|some false=>some false|none=>none):=fun _ _ _ _=>rfl;obtain⟨a,b⟩:=p;obtain⟨a',b'⟩:=q;simp only[ay,h]
 by_cases h1:a=a'
 ·subst h1
  by_cases h2:b=b'
  ·subst h2;simp
  ·have:(b==b')=false:=by simpa using h2
   simp[this,h2]
 ·have:(a==a')=false:=by simpa using h1
  simp[this,h1]
theorem uh {α:Type} {a b:List α} {i:Nat} {x y:α} (ha:a[i]?=some x) (hb:b[i]?=some y) (h:a.take i=b.take i) (SA:x=y):a.take (i+1)=b.take (i+1):=by
 rw[List.take_add_one,List.take_add_one,h,ha,hb,SA]
theorem Bi {α:Type} {a b:List α} {i:Nat} {x y:α} (ha:a[i]?=some x) (hb:b[i]?=some y) (SA:¬x=y):¬a=b:=by
 intro h;subst h;rw[ha] at hb;exact SA (Option.some.inj hb)
theorem Ec {s0:St} {x y:D} {l m:List Rg} (hx:V.Rows s0 2 x (l.map ay)) (hy:V.Rows s0 2 y (m.map ay)) (hl:l.length≤1073741824) (hm:m.length≤1073741824):Ev pv 145 [x,y] s0 (.bool (decide (l=m))) s0:=by
 refine Ev.oj rfl Uu rfl rfl rfl ?_;dsimp only[u3,u4,List.length,Nat.reduceSub,Nat.reduceAdd,w1,w2];obtain⟨cA,hF,hH⟩:=ri s0;generalize ai .ro s0=S at*;have hx:=Arg.of hx cA;have hy:=Arg.of hy cA;refine qq<|qj fun K hK=>qm ?_;refine qe hK<|qq<|qq<|qj fun K hK=>qm ?_;refine qn ?_;simp only[List.length_map];refine qm ?_;refine qn ?_;simp only[List.length_map];refine qg ?_;refine qe hK ?_
 by_cases hlen:l.length=m.length
 ·refine ag.cond (v:=false) ?_ (fun h=>by cases h) (fun _=>?_)
  ·dsimp only[Fr.ev,Fr.get,nth,V.look];rw[hlen];simp
  refine ag.skip<|qq<|qq<|qj fun K hK=>qm ?_;refine qn ?_;simp only[List.length_map];refine qm ?_;refine qe hK<|ag.block<|ag.loop (fun mm fr st=>∃(i:Nat),fr.clean=⟨14,[x,y,ju fr 2,ju fr 3,.bool false,ju fr 5,ju fr 6,ju fr 7,ju fr 8,ju fr 9,ju fr 10,ju fr 11,.int .i64 (l.length:Nat),.int .i64 (i:Nat)],[]⟩∧Has s0.bs.length S st []∧(i+mm=l.length)∧(l.take i=m.take i)) (l.length) ?_ ?_
  ·exact⟨0,rfl,hH,by omega,rfl⟩
  rintro mm fr st ⟨i,hfr,hH,hi,ht⟩;rw[hfr];clear hfr;generalize ju fr=ee;clear fr;refine qq<|qj fun K hK=>qg ?_;refine qe hK<|qq ?_;refine ag.cond (by rfl) (fun h1=>?_) (fun h1=>?_)<;>try simp only[decide_eq_true_eq,decide_eq_false_iff_not] at h1
  ·refine ag.skip ?_
   obtain⟨p,hp⟩:∃p,l[i]?=some p:=⟨l[i]'(by omega),List.getElem?_eq_getElem _⟩
   obtain⟨q,hq⟩:∃q,m[i]?=some q:=⟨m[i]'(by omega),List.getElem?_eq_getElem _⟩
   have iv:=gE hp;have oE:=gE hq;refine qq<|ag.block<|qq<|qj fun K hK=>qm ?_;refine qm ?_;refine qe hK<|qq<|qj fun K hK=>qm ?_;refine qm ?_;refine qr fun Ze S_=>?_;refine aa.dJ rfl (ev rfl) (by assumption) rfl (ab rfl _) ?_;refine qm ?_;refine qm ?_;refine qr fun VH Qw=>?_;refine aa.dJ rfl (ev rfl) (by assumption) rfl (ab rfl _) ?_;refine aa.Zi rfl (ev rfl) (ev rfl) (Bh p q) (ab rfl _) ?_;refine qe hK ?_;refine ag.cond (by rfl) (fun h2=>?_) (fun h2=>?_)<;>try simp only[decide_eq_true_eq,decide_eq_false_iff_not,Bool.not_eq_true',Bool.not_eq_false'] at h2
   ·refine qq<|qj fun K hK=>qm ?_;refine qe hK ?_;rw[decide_eq_false (Bi hp hq (by simpa using h2))];refine ag.ret ⟨rx,_,rfl,rl cA hH (rfl)⟩
   ·refine ag.skip<|qj fun K hK=>qA ?_;refine qm ?_;refine qe hK ?_;exact⟨mm-1,by omega,⟨i+1,rfl,hH,by omega,uh hp hq ht (by simpa using h2)⟩⟩
  ·refine ag.exit<|qq<|qj fun K hK=>qm ?_;refine qe hK ?_;rw[decide_eq_true (by rw[List.take_of_length_le (by omega),List.take_of_length_le (by omega)] at ht;exact ht)];refine ag.ret ⟨rx,_,rfl,rl cA hH (rfl)⟩
 ·refine ag.cond (v:=true) ?_ (fun _=>?_) (fun h=>by cases h)
  ·dsimp only[Fr.ev,Fr.get,nth,V.look];simp;omega
  refine qq<|qj fun K hK=>qm ?_;refine qe hK ?_;rw[decide_eq_false (fun h=>hlen (by rw[h]))];refine ag.ret ⟨rx,_,rfl,rl cA hH (rfl)⟩
theorem vY {s0:St} {x:D} {l:List Rg} (hx:V.Rows s0 2 x (l.map ay)) (hl:l.length≤1048576):Ev pv 132 [x] s0 (.bool (fI l)) s0:=by
 refine Ev.oj rfl UA rfl rfl rfl ?_;dsimp only[u3,u4,List.length,Nat.reduceSub,Nat.reduceAdd,w1,w2];obtain⟨cA,hF,hH⟩:=ri s0;generalize ai .ro s0=S at*;have hx:=Arg.of hx cA;refine qq<|qj fun K hK=>qm ?_;refine qe hK ?_;obtain⟨_,aN,all,rfl,hperm,o9⟩:=Ad (hx.rows hH) (by omega);have hM:gO l (all.foldl dL []).reverse:=rn (fun x=>hperm.mem_iff) o9;have hlen:=hperm.length_eq;have px:=jm l;have kL:=rA all;rw[A7 hM];refine qq<|qj fun K hK=>qm ?_;refine qm ?_;refine qv (aN) ?_;refine qv (Ec (hx.rows hH) (f_ _ _) (by omega) (by rw[List.length_reverse];omega)) ?_;refine qm ?_;refine qe hK<|ag.ret ⟨rx,_,rfl,rl cA hH (rfl)⟩
structure aJ where
 op:Int
 x:Int
 y:Int
 rd:D
 rs:List Rg
def aG (i:aJ):List D:=[.int .i64 i.op,.int .i64 i.x,.int .i64 i.y,i.rd]
def aJ.ok (i:aJ):Prop:=eH i.rd 2 (i.rs.map ay)∧i.rs.length≤1048576
def aq (n:Int):List D:=[.int .i64 n]
structure Pg where
 cd:D
 code:List aJ
 sd:D
 az:List Int
structure Pg.ok (p:Pg):Prop where
 c:eH p.cd 4 (p.code.map aG)
 s:eH p.sd 1 (p.az.map aq)
 i:∀x∈p.code,x.ok
 cl:p.code.length≤1048576
 sl:p.az.length≤1048576
def Pg.cs (p:Pg):List D:=[p.cd,p.sd]
def Pg.d (p:Pg):D:=.agg p.cs
theorem iu {l:List aJ} {i:Nat} {q:aJ} (h:l[i]?=some q):(l.map aG)[i]?=some (aG q):=by rw[List.getElem?_map,h];rfl
theorem eX {l:List Int} {i:Nat} {q:Int} (h:l[i]?=some q):(l.map aq)[i]?=some (aq q):=by rw[List.getElem?_map,h];rfl
def rE (v n:Int):Bool:=decide (v≥0) &&decide (v<n)
noncomputable def db (n ns pc:Nat) (i:aJ):Bool:=
 if i.op=1 then i.y==0 &&(decide (((pc+1:Nat):Int)<n) &&i.x==0 &&fI i.rs)
 else i.rs.isEmpty &&
  (if i.op=2 then rE i.x n &&rE i.y n
  else i.y==0 &&
   (if i.op=3 then rE i.x n
   else if i.op=4 then decide (((pc+1:Nat):Int)<n) &&rE i.x 10
   else if i.op=5∨i.op=6 then decide (((pc+1:Nat):Int)<n) &&i.x==0
   else if i.op=7 then rE i.x ns
   else false))
theorem iB {s0:St} (v n:Int):Ev pv 105 [.int .i64 v,.int .i64 n] s0 (.bool (rE v n)) s0:=by
 refine Ev.oj rfl UO rfl rfl rfl ?_;dsimp only[u3,u4,List.length,Nat.reduceSub,Nat.reduceAdd,w1,w2];obtain⟨cA,hF,hH⟩:=ri s0;generalize ai .ro s0=S at*;refine qq<|qj fun K hK=>qm ?_;refine qe hK<|qq<|ag.mH 4 (.bool (decide (v≥0) &&decide (v<n))) [] ?_ (fun ff tmp=>?_)
 ·refine qm ?_;refine qg ?_;refine qm ?_;refine aa.two 7 rfl (fun bz=>?_) (fun bz=>?_)
  ·refine qm ?_ (hg:=wi bz);refine qm ?_ (hg:=wi bz);refine qg ?_ (hg:=wi bz);refine qt bz ?_;refine qm ?_;refine aa.nil (bc ?_);dsimp only[aO,List.foldl,nth,u2,u1];dsimp only[Fr.aE,Fr.put,Fr.clean,Fr.ev,Fr.get,nth,V.look,u1,u2,v1,v2,v3,v4,v5,v6,v7,List.length,u3,u4,Nat.reduceSub,Nat.reduceAdd,List.map]
   all_goals(simp[bz];done)
  ·refine qs ?_ (hg:=wn bz);refine qs ?_ (hg:=wn bz);refine qs ?_ (hg:=wn bz);refine qu bz ?_;refine qm ?_;refine aa.nil (bc ?_);dsimp only[aO,List.foldl,nth,u2,u1];dsimp only[Fr.aE,Fr.put,Fr.clean,Fr.ev,Fr.get,nth,V.look,u1,u2,v1,v2,v3,v4,v5,v6,v7,List.length,u3,u4,Nat.reduceSub,Nat.reduceAdd,List.map]
   all_goals(simp[bz];done)
 dsimp only[aO,List.foldl,nth,u2,u1];refine ag.ret ⟨rx,_,rfl,rl cA hH (rfl)⟩
theorem A0 {s0:St} {p:Pg} {pc:Nat} {i:aJ} (hp:p.ok) (hi:p.code[pc]?=some i):Ev pv 104 [p.d,.int .i64 (pc:Nat)] s0 (.bool (db p.code.length p.az.length pc i)) s0:=by
 refine Ev.oj rfl UP rfl rfl rfl ?_;dsimp only[u3,u4,List.length,Nat.reduceSub,Nat.reduceAdd,w1,w2];obtain⟨cA,hF,hH⟩:=ri s0;generalize ai .ro s0=S at*;have hc:=hp.c.arg s0.bs.length S;have hs:=hp.s.arg s0.bs.length S;have TA:=hp.i i (List.mem_of_getElem? hi);have Xf:=TA.1.arg s0.bs.length S;have hil:=TA.2;have hcl:=hp.cl;have j6:=hp.sl;have hr:=iu hi;have hlt:=bj hi;unfold Pg.d;refine qq<|qj fun K hK=>qb hH fun k2 st hk2 hH=>?_;dsimp only[u2,u1,u3,u4,setMany,u5,u6,D.cells,Nat.reduceAdd,Pg.cs,aG,aq] at hH;refine qm ?_;refine qe hK<|qq<|qj fun K hK=>qp (o:=0) ?_;refine ql hH au ?_;refine qm ?_;refine qr fun Sd DK=>?_;refine aa.dJ rfl (ev rfl) (by assumption) rfl (by dsimp only[Fr.put,u1,u2]<;>rfl) ?_;refine qa hH fun k5 st E6 hH=>?_;refine qS hH au fun st hH=>?_;dsimp only[u2,u1,u3,u4,setMany,u5,u6,D.cells,Nat.reduceAdd,Pg.cs,aG,aq] at hH;refine qe hK<|qq<|qj fun K hK=>qm ?_;refine qA ?_;refine qp (o:=0) ?_;refine ql hH aS ?_;refine qn ?_;simp only[List.length_map];refine qg ?_;refine qm ?_;refine qe hK<|qq<|qq<|ag.mH 36 (.bool (((i.op !=1) &&decide ((i.rs.length:Int)>0))||((i.op !=2) &&(i.y !=0)))) [18,19,20,21,22,23,24,25,26,27,28,29,30,31,32,33,34,35] ?_ (fun ff tmp=>?_)
 ·refine qp (o:=0) ?_;refine ql hH au ?_;refine qg ?_;refine qm ?_;refine aa.two 21 rfl (fun bQ=>?_) (fun bQ=>?_)
  ·refine qp (o:=3) ?_ (hg:=wi bQ);refine ql hH au ?_ (hg:=wi bQ);refine qn ?_ (hg:=wi bQ);simp only[List.length_map];refine qg ?_ (hg:=wi bQ);refine qt bQ ?_;refine qm ?_;refine aa.two 27 rfl (fun cx=>?_) (fun cx=>?_)
   ·refine qs ?_ (hg:=wn cx);refine qs ?_ (hg:=wn cx);refine qs ?_ (hg:=wn cx);refine qs ?_ (hg:=wn cx);refine qs ?_;refine qs ?_;refine qs ?_;refine qs ?_ (hg:=wn cx);refine qt cx ?_;refine aa.nil (bc ?_);dsimp only[aO,List.foldl,nth,u2,u1];dsimp only[Fr.aE,Fr.put,Fr.clean,Fr.ev,Fr.get,nth,V.look,u1,u2,v1,v2,v3,v4,v5,v6,v7,List.length,u3,u4,Nat.reduceSub,Nat.reduceAdd,List.map]
    all_goals(simp_all;done)
   ·refine qp (o:=0) ?_ (hg:=wi cx);refine ql hH au ?_ (hg:=wi cx);refine qg ?_ (hg:=wi cx);refine qm ?_ (hg:=wi cx);refine aa.two 31 rfl (fun di=>?_) (fun di=>?_)
    ·refine qp (o:=2) ?_ (hg:=wi di);refine ql hH au ?_ (hg:=wi di);refine qg ?_ (hg:=wi di);refine aa.dU (aC rfl rfl rfl cx) rfl di (by dsimp only[Fr.put,u1,u2]<;>rfl) ?_;refine qu cx ?_;refine aa.nil (bc ?_);dsimp only[aO,List.foldl,nth,u2,u1];dsimp only[Fr.aE,Fr.put,Fr.clean,Fr.ev,Fr.get,nth,V.look,u1,u2,v1,v2,v3,v4,v5,v6,v7,List.length,u3,u4,Nat.reduceSub,Nat.reduceAdd,List.map]
     all_goals(simp_all;done)
    ·refine qs ?_ (hg:=wn di);refine qs ?_ (hg:=wn di);refine qs ?_ (hg:=wn di);refine aa.dr (aC rfl rfl rfl cx) rfl di (by dsimp only[Fr.put,u1,u2]<;>rfl) ?_;refine qu cx ?_;refine aa.nil (bc ?_);dsimp only[aO,List.foldl,nth,u2,u1];dsimp only[Fr.aE,Fr.put,Fr.clean,Fr.ev,Fr.get,nth,V.look,u1,u2,v1,v2,v3,v4,v5,v6,v7,List.length,u3,u4,Nat.reduceSub,Nat.reduceAdd,List.map]
     all_goals(simp_all;done)
  ·refine qs ?_ (hg:=wn bQ);refine qs ?_ (hg:=wn bQ);refine qs ?_ (hg:=wn bQ);refine qs ?_ (hg:=wn bQ);refine qu bQ ?_;refine qm ?_;refine qp (o:=0) ?_;refine ql hH au ?_;refine qg ?_;refine qm ?_;refine aa.two 31 rfl (fun di=>?_) (fun di=>?_)
   ·refine qp (o:=2) ?_ (hg:=wi di);refine ql hH au ?_ (hg:=wi di);refine qg ?_ (hg:=wi di);refine qt di ?_;refine qg ?_;refine aa.nil (bc ?_);dsimp only[aO,List.foldl,nth,u2,u1];dsimp only[Fr.aE,Fr.put,Fr.clean,Fr.ev,Fr.get,nth,V.look,u1,u2,v1,v2,v3,v4,v5,v6,v7,List.length,u3,u4,Nat.reduceSub,Nat.reduceAdd,List.map]
    all_goals(simp[bQ,di];done)
   ·refine qs ?_ (hg:=wn di);refine qs ?_ (hg:=wn di);refine qs ?_ (hg:=wn di);refine qu di ?_;refine qg ?_;refine aa.nil (bc ?_);dsimp only[aO,List.foldl,nth,u2,u1];dsimp only[Fr.aE,Fr.put,Fr.clean,Fr.ev,Fr.get,nth,V.look,u1,u2,v1,v2,v3,v4,v5,v6,v7,List.length,u3,u4,Nat.reduceSub,Nat.reduceAdd,List.map]
    all_goals(simp[bQ,di];done)
 dsimp only[aO,List.foldl,nth,u2,u1];generalize ff 18=e18;generalize ff 19=e19;generalize ff 20=e20;generalize ff 21=e21;generalize ff 22=e22;generalize ff 23=e23;generalize ff 24=e24;generalize ff 25=e25;generalize ff 26=e26;generalize ff 27=e27;generalize ff 28=e28;generalize ff 29=e29;generalize ff 30=e30;generalize ff 31=e31;generalize ff 32=e32;generalize ff 33=e33;generalize ff 34=e34;generalize ff 35=e35;have Tj:(i.rs.isEmpty=!decide ((i.rs.length:Int)>0)):=by cases i.rs<;>simp<;>omega
 have hsh:db p.code.length p.az.length pc i=if((i.op !=1) &&decide ((i.rs.length:Int)>0))||((i.op !=2) &&(i.y !=0)) then false else
   (if i.op=1 then(decide (((pc+1:Nat):Int)<p.code.length) &&i.x==0) &&fI i.rs
   else if i.op=2 then rE i.x p.code.length &&rE i.y p.code.length
   else if i.op=3 then rE i.x p.code.length
   else if i.op=4 then decide (((pc+1:Nat):Int)<p.code.length) &&rE i.x 10
   else if i.op=5 then decide (((pc+1:Nat):Int)<p.code.length) &&i.x==0
   else if i.op=6 then decide (((pc+1:Nat):Int)<p.code.length) &&i.x==0
   else if i.op=7 then rE i.x p.az.length
   else false):=by
  unfold db;rw[Tj];generalize decide ((i.rs.length:Int)>0)=b
  by_cases h1:i.op=1
  ·have h2:i.op≠2:=by omega
   simp only[h1];cases b<;>by_cases hy:i.y=0<;>simp[hy]
  ·by_cases h2:i.op=2
   ·simp only[h2];cases b<;>simp
   ·by_cases Z4:i.op=5
    ·simp only[Z4];cases b<;>by_cases hy:i.y=0<;>simp[hy]
    ·cases b<;>by_cases hy:i.y=0<;>simp[h1,h2,Z4,hy]
 rw[hsh];refine qc (fun h0=>?_) (fun h0=>?_)<;>try simp only[cs] at h0
 ·refine qq<|qj fun K hK=>qm ?_;refine qe hK ?_;rw[if_pos h0];refine ag.ret ⟨rx,_,rfl,rl cA hH (rfl)⟩
 ·rw[if_neg (by rw[h0];simp)];refine ag.skip<|qq<|qq<|qj fun K hK=>qp (o:=0) ?_;refine ql hH au ?_;refine qe hK<|ag.block<|qq<|qj fun K hK=>qg ?_;refine qm ?_;refine qe hK ?_;refine ag.cond (by rfl) (fun h1=>?_) (fun h1=>?_)<;>try simp only[beq_iff_eq,beq_eq_false_iff_ne,ne_eq] at h1
  ·rw[if_pos h1];refine qq<|ag.mH 4 (.bool ((decide (((pc+1:Nat):Int)<p.code.length) &&(i.x==0)) &&fI i.rs)) [] ?_ (fun ff tmp=>?_)
   ·refine qm ?_;refine qm ?_;refine aa.two 42 rfl (fun dz=>?_) (fun dz=>?_)
    ·refine qp (o:=1) ?_ (hg:=wi dz);refine ql hH au ?_ (hg:=wi dz);refine qg ?_ (hg:=wi dz);refine qt dz ?_;refine qm ?_;refine aa.two 47 rfl (fun eY=>?_) (fun eY=>?_)
     ·refine qp (o:=3) ?_ (hg:=wi eY);refine ql hH au ?_ (hg:=wi eY);refine qv (vY (Xf.rows hH) hil) ?_ (hg:=wi eY);refine qt eY ?_;refine qm ?_;refine aa.nil (bc ?_);dsimp only[aO,List.foldl,nth,u2,u1];dsimp only[Fr.aE,Fr.put,Fr.clean,Fr.ev,Fr.get,nth,V.look,u1,u2,v1,v2,v3,v4,v5,v6,v7,List.length,u3,u4,Nat.reduceSub,Nat.reduceAdd,List.map]
      all_goals(simp[dz,eY];done)
     ·refine qs ?_ (hg:=wn eY);refine qs ?_ (hg:=wn eY);refine qs ?_ (hg:=wn eY);refine qu eY ?_;refine qm ?_;refine aa.nil (bc ?_);dsimp only[aO,List.foldl,nth,u2,u1];dsimp only[Fr.aE,Fr.put,Fr.clean,Fr.ev,Fr.get,nth,V.look,u1,u2,v1,v2,v3,v4,v5,v6,v7,List.length,u3,u4,Nat.reduceSub,Nat.reduceAdd,List.map]
      all_goals(simp[dz,eY];done)
    ·refine qs ?_ (hg:=wn dz);refine qs ?_ (hg:=wn dz);refine qs ?_ (hg:=wn dz);refine qu dz ?_;refine qm ?_;refine qs ?_;refine qs ?_;refine qs ?_;refine qg ?_;refine qm ?_;refine aa.nil (bc ?_);dsimp only[aO,List.foldl,nth,u2,u1];dsimp only[Fr.aE,Fr.put,Fr.clean,Fr.ev,Fr.get,nth,V.look,u1,u2,v1,v2,v3,v4,v5,v6,v7,List.length,u3,u4,Nat.reduceSub,Nat.reduceAdd,List.map]
     all_goals(simp[dz];done)
   dsimp only[aO,List.foldl,nth,u2,u1];refine ag.ret ⟨rx,_,rfl,rl cA hH (rfl)⟩
  ·rw[if_neg h1];refine qq<|qj fun K hK=>qg ?_;refine qm ?_;refine qe hK ?_;refine ag.cond (by rfl) (fun h2=>?_) (fun h2=>?_)<;>try simp only[beq_iff_eq,beq_eq_false_iff_ne,ne_eq] at h2
   ·rw[if_pos h2];refine qq<|ag.mH 4 (.bool (rE i.x p.code.length &&rE i.y p.code.length)) [] ?_ (fun ff tmp=>?_)
    ·refine qp (o:=1) ?_;refine ql hH au ?_;refine qp (o:=0) ?_;refine ql hH aS ?_;refine qn ?_;simp only[List.length_map];refine qv (iB _ _) ?_;refine qm ?_;refine aa.two 60 rfl (fun eY=>?_) (fun eY=>?_)
     ·refine qp (o:=2) ?_ (hg:=wi eY);refine ql hH au ?_ (hg:=wi eY);refine qp (o:=0) ?_ (hg:=wi eY);refine ql hH aS ?_ (hg:=wi eY);refine qn ?_ (hg:=wi eY);simp only[List.length_map];refine qv (iB _ _) ?_ (hg:=wi eY);refine qt eY ?_;refine qm ?_;refine aa.nil (bc ?_);dsimp only[aO,List.foldl,nth,u2,u1];dsimp only[Fr.aE,Fr.put,Fr.clean,Fr.ev,Fr.get,nth,V.look,u1,u2,v1,v2,v3,v4,v5,v6,v7,List.length,u3,u4,Nat.reduceSub,Nat.reduceAdd,List.map]
      all_goals(simp[eY];done)
     ·refine qs ?_ (hg:=wn eY);refine qs ?_ (hg:=wn eY);refine qs ?_ (hg:=wn eY);refine qs ?_ (hg:=wn eY);refine qs ?_ (hg:=wn eY);refine qs ?_ (hg:=wn eY);refine qu eY ?_;refine qm ?_;refine aa.nil (bc ?_);dsimp only[aO,List.foldl,nth,u2,u1];dsimp only[Fr.aE,Fr.put,Fr.clean,Fr.ev,Fr.get,nth,V.look,u1,u2,v1,v2,v3,v4,v5,v6,v7,List.length,u3,u4,Nat.reduceSub,Nat.reduceAdd,List.map]
      all_goals(simp[eY];done)
    dsimp only[aO,List.foldl,nth,u2,u1];refine ag.ret ⟨rx,_,rfl,rl cA hH (rfl)⟩
   ·rw[if_neg h2];refine qq<|qj fun K hK=>qg ?_;refine qm ?_;refine qe hK ?_;refine ag.cond (by rfl) (fun h3=>?_) (fun h3=>?_)<;>try simp only[beq_iff_eq,beq_eq_false_iff_ne,ne_eq] at h3
    ·rw[if_pos h3];refine qq<|qj fun K hK=>qp (o:=1) ?_;refine ql hH au ?_;refine qp (o:=0) ?_;refine ql hH aS ?_;refine qn ?_;simp only[List.length_map];refine qv (iB _ _) ?_;refine qm ?_;refine qe hK<|ag.ret ⟨rx,_,rfl,rl cA hH (rfl)⟩
    ·rw[if_neg h3];refine qq<|qj fun K hK=>qg ?_;refine qm ?_;refine qe hK ?_;refine ag.cond (by rfl) (fun h4=>?_) (fun h4=>?_)<;>try simp only[beq_iff_eq,beq_eq_false_iff_ne,ne_eq] at h4
     ·rw[if_pos h4];refine qq<|ag.mH 4 (.bool (decide (((pc+1:Nat):Int)<p.code.length) &&rE i.x 10)) [] ?_ (fun ff tmp=>?_)
      ·refine qm ?_;refine qm ?_;refine aa.two 79 rfl (fun dz=>?_) (fun dz=>?_)
       ·refine qp (o:=1) ?_ (hg:=wi dz);refine ql hH au ?_ (hg:=wi dz);refine qv (iB _ _) ?_ (hg:=wi dz);refine qt dz ?_;refine qm ?_;refine aa.nil (bc ?_);dsimp only[aO,List.foldl,nth,u2,u1];dsimp only[Fr.aE,Fr.put,Fr.clean,Fr.ev,Fr.get,nth,V.look,u1,u2,v1,v2,v3,v4,v5,v6,v7,List.length,u3,u4,Nat.reduceSub,Nat.reduceAdd,List.map]
        all_goals(simp[dz];done)
       ·refine qs ?_ (hg:=wn dz);refine qs ?_ (hg:=wn dz);refine qs ?_ (hg:=wn dz);refine qu dz ?_;refine qm ?_;refine aa.nil (bc ?_);dsimp only[aO,List.foldl,nth,u2,u1];dsimp only[Fr.aE,Fr.put,Fr.clean,Fr.ev,Fr.get,nth,V.look,u1,u2,v1,v2,v3,v4,v5,v6,v7,List.length,u3,u4,Nat.reduceSub,Nat.reduceAdd,List.map]
        all_goals(simp[dz];done)
      dsimp only[aO,List.foldl,nth,u2,u1];refine ag.ret ⟨rx,_,rfl,rl cA hH (rfl)⟩
     ·rw[if_neg h4];refine qq<|qq<|qj fun K hK=>qg ?_;refine qm ?_;refine qe hK ?_
      by_cases h5:i.op=5
      ·rw[if_pos h5];refine qD rfl (by simp[h5]) ?_;refine ag.skip<|qD rfl (by simp[h5]) ?_;refine qq<|ag.mH 4 (.bool (decide (((pc+1:Nat):Int)<p.code.length) &&(i.x==0))) [] ?_ (fun ff tmp=>?_)
       ·refine qm ?_;refine qm ?_;refine aa.two 88 rfl (fun dz=>?_) (fun dz=>?_)
        ·refine qp (o:=1) ?_ (hg:=wi dz);refine ql hH au ?_ (hg:=wi dz);refine qg ?_ (hg:=wi dz);refine qt dz ?_;refine qm ?_;refine aa.nil (bc ?_);dsimp only[aO,List.foldl,nth,u2,u1];dsimp only[Fr.aE,Fr.put,Fr.clean,Fr.ev,Fr.get,nth,V.look,u1,u2,v1,v2,v3,v4,v5,v6,v7,List.length,u3,u4,Nat.reduceSub,Nat.reduceAdd,List.map]
         all_goals(simp[dz];done)
        ·refine qs ?_ (hg:=wn dz);refine qs ?_ (hg:=wn dz);refine qs ?_ (hg:=wn dz);refine qu dz ?_;refine qm ?_;refine aa.nil (bc ?_);dsimp only[aO,List.foldl,nth,u2,u1];dsimp only[Fr.aE,Fr.put,Fr.clean,Fr.ev,Fr.get,nth,V.look,u1,u2,v1,v2,v3,v4,v5,v6,v7,List.length,u3,u4,Nat.reduceSub,Nat.reduceAdd,List.map]
         all_goals(simp[dz];done)
       dsimp only[aO,List.foldl,nth,u2,u1];refine ag.ret ⟨rx,_,rfl,rl cA hH (rfl)⟩
      ·rw[if_neg h5];refine qE rfl (by simp[h5]) ?_;refine qj fun K hK=>qg ?_;refine qm ?_;refine qe hK ?_;refine ag.cond (by rfl) (fun h6=>?_) (fun h6=>?_)<;>try simp only[beq_iff_eq,beq_eq_false_iff_ne,ne_eq] at h6
       ·rw[if_pos h6];refine qq<|ag.mH 4 (.bool (decide (((pc+1:Nat):Int)<p.code.length) &&(i.x==0))) [] ?_ (fun ff tmp=>?_)
        ·refine qm ?_;refine qm ?_;refine aa.two 88 rfl (fun dz=>?_) (fun dz=>?_)
         ·refine qp (o:=1) ?_ (hg:=wi dz);refine ql hH au ?_ (hg:=wi dz);refine qg ?_ (hg:=wi dz);refine qt dz ?_;refine qm ?_;refine aa.nil (bc ?_);dsimp only[aO,List.foldl,nth,u2,u1];dsimp only[Fr.aE,Fr.put,Fr.clean,Fr.ev,Fr.get,nth,V.look,u1,u2,v1,v2,v3,v4,v5,v6,v7,List.length,u3,u4,Nat.reduceSub,Nat.reduceAdd,List.map]
          all_goals(simp[dz];done)
         ·refine qs ?_ (hg:=wn dz);refine qs ?_ (hg:=wn dz);refine qs ?_ (hg:=wn dz);refine qu dz ?_;refine qm ?_;refine aa.nil (bc ?_);dsimp only[aO,List.foldl,nth,u2,u1];dsimp only[Fr.aE,Fr.put,Fr.clean,Fr.ev,Fr.get,nth,V.look,u1,u2,v1,v2,v3,v4,v5,v6,v7,List.length,u3,u4,Nat.reduceSub,Nat.reduceAdd,List.map]
          all_goals(simp[dz];done)
        dsimp only[aO,List.foldl,nth,u2,u1];refine ag.ret ⟨rx,_,rfl,rl cA hH (rfl)⟩
       ·rw[if_neg h6];refine qq<|qj fun K hK=>qg ?_;refine qm ?_;refine qe hK ?_;refine ag.cond (by rfl) (fun h7=>?_) (fun h7=>?_)<;>try simp only[beq_iff_eq,beq_eq_false_iff_ne,ne_eq] at h7
        ·rw[if_pos h7];refine qq<|qj fun K hK=>qp (o:=1) ?_;refine ql hH au ?_;refine qp (o:=1) ?_;refine ql hH aS ?_;refine qn ?_;simp only[List.length_map];refine qv (iB _ _) ?_;refine qm ?_;refine qe hK<|ag.ret ⟨rx,_,rfl,rl cA hH (rfl)⟩
        ·rw[if_neg h7];refine ag.skip<|qq<|qj fun K hK=>qm ?_;refine qe hK<|ag.ret ⟨rx,_,rfl,rl cA hH (rfl)⟩
def b4 (c:Nat):Int×Nat×Nat:=
 if c<128 then(0,0,0) else if c<194 then(-1,0,0) else if c<224 then(1,128,191) else if c=224 then(2,160,191) else if c=237 then(2,128,159)
 else if c<240 then(2,128,191) else if c=240 then(3,144,191) else if c<244 then(3,128,191) else if c=244 then(3,128,143) else(-1,0,0)
theorem K5 (c:Nat) (st:St):Ev pv 103 [.int .u8 c] st (.tup [.int .i64 (b4 c).1,.int .u8 (b4 c).2.1,.int .u8 (b4 c).2.2]) st:=by
 refine Ev.oj rfl UQ rfl rfl rfl ?_;dsimp only[u3,u4,List.length,Nat.reduceSub,Nat.reduceAdd,w1,w2];refine qy ?_;(repeat refine qq ?_);(generalize hK:aT _ _ _ _=K);refine ag.ct ?_;(repeat(refine xL ?_));refine aa.nil ?_;dsimp only[Fr.aE,Fr.put,Fr.clean,Fr.ev,Fr.get,nth,V.look,u1,u2,v1,v2,v3,v4,v5,v6,v7,List.length,u3,u4,Nat.reduceSub,Nat.reduceAdd,List.map];subst hK;refine qy ?_;refine ag.seq (ag.block ?_);refine qy ?_;(repeat refine qq ?_);(generalize hK:aT _ _ _ _=K);refine ag.ct ?_;(repeat(refine xT ?_));refine aa.nil ?_;dsimp only[Fr.aE,Fr.put,Fr.clean,Fr.ev,Fr.get,nth,V.look,u1,u2,v1,v2,v3,v4,v5,v6,v7,List.length,u3,u4,Nat.reduceSub,Nat.reduceAdd,List.map];subst hK;refine qy ?_;(repeat refine qq ?_);refine qc (fun h1=>?_) (fun h1=>?_)<;>try simp only[cs] at h1
 ·(refine qy ?_);(repeat refine qq ?_);(generalize hK:aT _ _ _ _=K);refine ag.ct ?_;(repeat(refine xL ?_));refine aa.nil ?_;dsimp only[Fr.aE,Fr.put,Fr.clean,Fr.ev,Fr.get,nth,V.look,u1,u2,v1,v2,v3,v4,v5,v6,v7,List.length,u3,u4,Nat.reduceSub,Nat.reduceAdd,List.map];subst hK;refine qy ?_;refine ag.ret ⟨rx,_,rfl,bO (by simp) (by simp[ai]) ?_⟩;rw[show b4 c=(0,0,0) by unfold b4;rw[if_pos (by omega)]];rfl
 (refine qy ?_);(repeat refine qq ?_);(generalize hK:aT _ _ _ _=K);refine ag.ct ?_;(repeat(refine xT ?_));refine aa.nil ?_;dsimp only[Fr.aE,Fr.put,Fr.clean,Fr.ev,Fr.get,nth,V.look,u1,u2,v1,v2,v3,v4,v5,v6,v7,List.length,u3,u4,Nat.reduceSub,Nat.reduceAdd,List.map];subst hK;refine qy ?_;(repeat refine qq ?_);refine qc (fun h2=>?_) (fun h2=>?_)<;>try simp only[cs] at h2
 ·(refine qy ?_);(repeat refine qq ?_);(generalize hK:aT _ _ _ _=K);refine ag.ct ?_;(repeat(refine xL ?_));refine aa.nil ?_;dsimp only[Fr.aE,Fr.put,Fr.clean,Fr.ev,Fr.get,nth,V.look,u1,u2,v1,v2,v3,v4,v5,v6,v7,List.length,u3,u4,Nat.reduceSub,Nat.reduceAdd,List.map];subst hK;refine qy ?_;refine ag.ret ⟨rx,_,rfl,bO (by simp) (by simp[ai]) ?_⟩;rw[show b4 c=(-1,0,0) by unfold b4;rw[if_neg (by omega),if_pos (by omega)]];rfl
 (refine qy ?_);(repeat refine qq ?_);(generalize hK:aT _ _ _ _=K);refine ag.ct ?_;(repeat(refine xT ?_));refine aa.nil ?_;dsimp only[Fr.aE,Fr.put,Fr.clean,Fr.ev,Fr.get,nth,V.look,u1,u2,v1,v2,v3,v4,v5,v6,v7,List.length,u3,u4,Nat.reduceSub,Nat.reduceAdd,List.map];subst hK;refine qy ?_;(repeat refine qq ?_);refine qc (fun h3=>?_) (fun h3=>?_)<;>try simp only[cs] at h3
 ·(refine qy ?_);(repeat refine qq ?_);(generalize hK:aT _ _ _ _=K);refine ag.ct ?_;(repeat(refine xL ?_));refine aa.nil ?_;dsimp only[Fr.aE,Fr.put,Fr.clean,Fr.ev,Fr.get,nth,V.look,u1,u2,v1,v2,v3,v4,v5,v6,v7,List.length,u3,u4,Nat.reduceSub,Nat.reduceAdd,List.map];subst hK;refine qy ?_;refine ag.ret ⟨rx,_,rfl,bO (by simp) (by simp[ai]) ?_⟩;rw[show b4 c=(1,128,191) by unfold b4;rw[if_neg (by omega),if_neg (by omega),if_pos (by omega)]];rfl
 (refine qy ?_);(repeat refine qq ?_);(generalize hK:aT _ _ _ _=K);refine ag.ct ?_;(repeat(refine xT ?_));refine aa.nil ?_;dsimp only[Fr.aE,Fr.put,Fr.clean,Fr.ev,Fr.get,nth,V.look,u1,u2,v1,v2,v3,v4,v5,v6,v7,List.length,u3,u4,Nat.reduceSub,Nat.reduceAdd,List.map];subst hK;refine qy ?_;(repeat refine qq ?_);refine qc (fun h4=>?_) (fun h4=>?_)<;>try simp only[cs] at h4
 ·(refine qy ?_);(repeat refine qq ?_);(generalize hK:aT _ _ _ _=K);refine ag.ct ?_;(repeat(refine xL ?_));refine aa.nil ?_;dsimp only[Fr.aE,Fr.put,Fr.clean,Fr.ev,Fr.get,nth,V.look,u1,u2,v1,v2,v3,v4,v5,v6,v7,List.length,u3,u4,Nat.reduceSub,Nat.reduceAdd,List.map];subst hK;refine qy ?_;refine ag.ret ⟨rx,_,rfl,bO (by simp) (by simp[ai]) ?_⟩;rw[show b4 c=(2,160,191) by unfold b4;rw[if_neg (by omega),if_neg (by omega),if_neg (by omega),if_pos (by omega)]];rfl
 (refine qy ?_);(repeat refine qq ?_);(generalize hK:aT _ _ _ _=K);refine ag.ct ?_;(repeat(refine xT ?_));refine aa.nil ?_;dsimp only[Fr.aE,Fr.put,Fr.clean,Fr.ev,Fr.get,nth,V.look,u1,u2,v1,v2,v3,v4,v5,v6,v7,List.length,u3,u4,Nat.reduceSub,Nat.reduceAdd,List.map];subst hK;refine qy ?_;(repeat refine qq ?_);refine qc (fun h5=>?_) (fun h5=>?_)<;>try simp only[cs] at h5
 ·(refine qy ?_);(repeat refine qq ?_);(generalize hK:aT _ _ _ _=K);refine ag.ct ?_;(repeat(refine xL ?_));refine aa.nil ?_;dsimp only[Fr.aE,Fr.put,Fr.clean,Fr.ev,Fr.get,nth,V.look,u1,u2,v1,v2,v3,v4,v5,v6,v7,List.length,u3,u4,Nat.reduceSub,Nat.reduceAdd,List.map];subst hK;refine qy ?_;refine ag.ret ⟨rx,_,rfl,bO (by simp) (by simp[ai]) ?_⟩;rw[show b4 c=(2,128,159) by unfold b4;rw[if_neg (by omega),if_neg (by omega),if_neg (by omega),if_neg (by omega),if_pos (by omega)]];rfl
 (refine qy ?_);(repeat refine qq ?_);(generalize hK:aT _ _ _ _=K);refine ag.ct ?_;(repeat(refine xT ?_));refine aa.nil ?_;dsimp only[Fr.aE,Fr.put,Fr.clean,Fr.ev,Fr.get,nth,V.look,u1,u2,v1,v2,v3,v4,v5,v6,v7,List.length,u3,u4,Nat.reduceSub,Nat.reduceAdd,List.map];subst hK;refine qy ?_;(repeat refine qq ?_);refine qc (fun h6=>?_) (fun h6=>?_)<;>try simp only[cs] at h6
 ·(refine qy ?_);(repeat refine qq ?_);(generalize hK:aT _ _ _ _=K);refine ag.ct ?_;(repeat(refine xL ?_));refine aa.nil ?_;dsimp only[Fr.aE,Fr.put,Fr.clean,Fr.ev,Fr.get,nth,V.look,u1,u2,v1,v2,v3,v4,v5,v6,v7,List.length,u3,u4,Nat.reduceSub,Nat.reduceAdd,List.map];subst hK;refine qy ?_;refine ag.ret ⟨rx,_,rfl,bO (by simp) (by simp[ai]) ?_⟩;rw[show b4 c=(2,128,191) by unfold b4;rw[if_neg (by omega),if_neg (by omega),if_neg (by omega),if_neg (by omega),if_neg (by omega),if_pos (by omega)]];rfl
 (refine qy ?_);(repeat refine qq ?_);(generalize hK:aT _ _ _ _=K);refine ag.ct ?_;(repeat(refine xT ?_));refine aa.nil ?_;dsimp only[Fr.aE,Fr.put,Fr.clean,Fr.ev,Fr.get,nth,V.look,u1,u2,v1,v2,v3,v4,v5,v6,v7,List.length,u3,u4,Nat.reduceSub,Nat.reduceAdd,List.map];subst hK;refine qy ?_;(repeat refine qq ?_);refine qc (fun h7=>?_) (fun h7=>?_)<;>try simp only[cs] at h7
 ·(refine qy ?_);(repeat refine qq ?_);(generalize hK:aT _ _ _ _=K);refine ag.ct ?_;(repeat(refine xL ?_));refine aa.nil ?_;dsimp only[Fr.aE,Fr.put,Fr.clean,Fr.ev,Fr.get,nth,V.look,u1,u2,v1,v2,v3,v4,v5,v6,v7,List.length,u3,u4,Nat.reduceSub,Nat.reduceAdd,List.map];subst hK;refine qy ?_;refine ag.ret ⟨rx,_,rfl,bO (by simp) (by simp[ai]) ?_⟩;rw[show b4 c=(3,144,191) by unfold b4;rw[if_neg (by omega),if_neg (by omega),if_neg (by omega),if_neg (by omega),if_neg (by omega),if_neg (by omega),if_pos (by omega)]];rfl
 (refine qy ?_);(repeat refine qq ?_);(generalize hK:aT _ _ _ _=K);refine ag.ct ?_;(repeat(refine xT ?_));refine aa.nil ?_;dsimp only[Fr.aE,Fr.put,Fr.clean,Fr.ev,Fr.get,nth,V.look,u1,u2,v1,v2,v3,v4,v5,v6,v7,List.length,u3,u4,Nat.reduceSub,Nat.reduceAdd,List.map];subst hK;refine qy ?_;(repeat refine qq ?_);refine qc (fun h8=>?_) (fun h8=>?_)<;>try simp only[cs] at h8
 ·(refine qy ?_);(repeat refine qq ?_);(generalize hK:aT _ _ _ _=K);refine ag.ct ?_;(repeat(refine xL ?_));refine aa.nil ?_;dsimp only[Fr.aE,Fr.put,Fr.clean,Fr.ev,Fr.get,nth,V.look,u1,u2,v1,v2,v3,v4,v5,v6,v7,List.length,u3,u4,Nat.reduceSub,Nat.reduceAdd,List.map];subst hK;refine qy ?_;refine ag.ret ⟨rx,_,rfl,bO (by simp) (by simp[ai]) ?_⟩;rw[show b4 c=(3,128,191) by unfold b4;rw[if_neg (by omega),if_neg (by omega),if_neg (by omega),if_neg (by omega),if_neg (by omega),if_neg (by omega),if_neg (by omega),if_pos (by omega)]];rfl
 (refine qy ?_);(repeat refine qq ?_);(generalize hK:aT _ _ _ _=K);refine ag.ct ?_;(repeat(refine xT ?_));refine aa.nil ?_;dsimp only[Fr.aE,Fr.put,Fr.clean,Fr.ev,Fr.get,nth,V.look,u1,u2,v1,v2,v3,v4,v5,v6,v7,List.length,u3,u4,Nat.reduceSub,Nat.reduceAdd,List.map];subst hK;refine qy ?_;(repeat refine qq ?_);refine qc (fun h9=>?_) (fun h9=>?_)<;>try simp only[cs] at h9
 ·(refine qy ?_);(repeat refine qq ?_);(generalize hK:aT _ _ _ _=K);refine ag.ct ?_;(repeat(refine xL ?_));refine aa.nil ?_;dsimp only[Fr.aE,Fr.put,Fr.clean,Fr.ev,Fr.get,nth,V.look,u1,u2,v1,v2,v3,v4,v5,v6,v7,List.length,u3,u4,Nat.reduceSub,Nat.reduceAdd,List.map];subst hK;refine qy ?_;refine ag.ret ⟨rx,_,rfl,bO (by simp) (by simp[ai]) ?_⟩;rw[show b4 c=(3,128,143) by unfold b4;rw[if_neg (by omega),if_neg (by omega),if_neg (by omega),if_neg (by omega),if_neg (by omega),if_neg (by omega),if_neg (by omega),if_neg (by omega),if_pos (by omega)]];rfl
 refine ag.skip ?_;refine qy ?_;(repeat refine qq ?_);(generalize hK:aT _ _ _ _=K);refine ag.ct ?_;(repeat(refine xL ?_));refine aa.nil ?_;dsimp only[Fr.aE,Fr.put,Fr.clean,Fr.ev,Fr.get,nth,V.look,u1,u2,v1,v2,v3,v4,v5,v6,v7,List.length,u3,u4,Nat.reduceSub,Nat.reduceAdd,List.map];subst hK;refine qy ?_;refine ag.ret ⟨rx,_,rfl,bO (by simp) (by simp[ai]) ?_⟩;rw[show b4 c=(-1,0,0) by unfold b4;rw[if_neg (by omega),if_neg (by omega),if_neg (by omega),if_neg (by omega),if_neg (by omega),if_neg (by omega),if_neg (by omega),if_neg (by omega),if_neg (by omega)]];rfl
def eC:(left n r lo hi:Nat)→List UInt8→Nat×Nat×Bool
 |0,n,r,_,_,_=>(r,n,false)
 |left+1,n,r,lo,hi,[]=>(0,0,true)
 |left+1,n,r,lo,hi,x::xs=>if x.toNat<lo∨hi<x.toNat then(0,0,false) else eC left n (r*64+x.toNat %64) 128 191 xs
def cC:List UInt8→Nat×Nat×Bool
 |[]=>(0,0,false)
 |c::xs=>if(b4 c.toNat).1<0 then(0,0,false)
   else eC (b4 c.toNat).1.toNat ((b4 c.toNat).1.toNat+1) (if(b4 c.toNat).1>0 then c.toNat %(64/2^(b4 c.toNat).1.toNat) else c.toNat) (b4 c.toNat).2.1 (b4 c.toNat).2.2 xs
theorem o4 (c:Nat):(b4 c).1=-1∨(b4 c).1=0∨(b4 c).1=1∨(b4 c).1=2∨(b4 c).1=3:=by
 unfold b4
 repeat' split
 all_goals simp
theorem AL {w a j:Nat} (ha:a<2^w) (hj:2^j-1<2^w):(BitVec.ofInt w (a:Int) &&&BitVec.ofInt w ((2^j-1:Nat):Int)).toNat=a %2^j:=by
 rw[bv_and ha hj,Nat.and_two_pow_sub_one_eq_mod]
theorem bM (b:List UInt8):(byteCells b).length=b.length:=by simp[byteCells]
theorem sW {b:List UInt8} {i:Nat} {y:UInt8} (h:b[i]?=some y):(byteCells b)[i]?=some [.int .u8 (y.toNat:Nat)]:=by
 simp[byteCells,h]
theorem Ma (y:UInt8):y.toNat<256:=y.toNat_lt
theorem Vz {r y:Nat} (hr:r<33554432) (hy:y<256):cp .i32 ((BitVec.ofInt 32 (cp .i32 ((r:Int)*2^(min (Int.toNat 6) 32)))|||BitVec.ofInt 32 (cp .i32 (cp .u8 ((BitVec.ofInt 8 (y:Int) &&&BitVec.ofInt 8 63).toNat:Nat)))).toNat:Nat)=((r*64+y %64:Nat):Int):=by
 have h1:(BitVec.ofInt 8 (y:Int) &&&BitVec.ofInt 8 63).toNat=y %64:=AL (w:=8) (j:=6) hy (by decide);rw[h1]
 have h2:((r:Int)*2^(min (Int.toNat 6) 32))=((r*64:Nat):Int):=by
  have:(2:Int)^(min (Int.toNat 6) 32)=64:=by decide
  rw[this];simp
 rw[h2,ek (k:=.i32) (m:=r*64) (by simp only[kY];omega),ek (k:=.u8) (m:=y %64) (by simp only[kY];omega),ek (k:=.i32) (m:=y %64) (by simp only[kY];omega)];rw[UY (by omega) (by omega)]
 have h3:(r*64)|||(y %64)=r*64+y %64:=by
  have:=Nat.two_pow_add_eq_or_of_lt (i:=6) (b:=y %64) (by omega) r;have e:(2:Nat)^6=64:=by decide
  rw[e] at this;rw[Nat.mul_comm r 64,this]
 rw[h3,ek (k:=.i32) (m:=r*64+y %64) (by simp only[kY];omega)]
theorem Sl {c j:Nat} (hc:c<256) (hj:j≤8) {m:Int} (hm:m=((2^j-1:Nat):Int)):cp .i32 ((BitVec.ofInt 32 (cp .i32 (c:Nat)) &&&BitVec.ofInt 32 m).toNat:Nat)=((c %2^j:Nat):Int):=by
 have h1:2^j≤2^8:=Nat.pow_le_pow_right (by omega) hj;rw[hm,ek (k:=.i32) (m:=c) (by simp only[kY];omega),AL (w:=32) (by omega) (by omega)];have:c %2^j≤c:=Nat.mod_le _ _;rw[ek (k:=.i32) (by simp only[kY];omega)]
theorem mask {c j:Nat} (hc:c<256) (hj:j≤8) {m:Int} (hm:m=((2^j-1:Nat):Int)):cp .i32 ((BitVec.ofInt IntKind.i32.bits (cp .i32 (c:Nat)) &&&BitVec.ofInt IntKind.i32.bits m).toNat:Nat)=((c %2^j:Nat):Int):=Sl hc hj hm
theorem six {r y:Nat} (hr:r<33554432) (hy:y<256):cp .i32 ((BitVec.ofInt IntKind.i32.bits (cp .i32 ((r:Int)*2^(min (Int.toNat 6) IntKind.i32.bits)))|||BitVec.ofInt IntKind.i32.bits (cp .i32 (cp .u8 ((BitVec.ofInt IntKind.u8.bits (y:Int) &&&BitVec.ofInt IntKind.u8.bits 63).toNat:Nat)))).toNat:Nat)=((r*64+y %64:Nat):Int):=Vz hr hy
theorem rN {st:St} {x:D} {b:List UInt8} (hb:Bytes st x b):Ev pv 56 [x] st (.tup [.int .i32 ((cC b).1:Nat),.int .i64 ((cC b).2.1:Nat),.bool (cC b).2.2]) st:=by
 refine Ev.oj rfl Yj rfl rfl rfl ?_;dsimp only[u3,u4,List.length,Nat.reduceSub,Nat.reduceAdd,w1,w2];have eF:=hb.enter .ro;refine qy ?_;(repeat refine qq ?_);(generalize hK:aT _ _ _ _=K);refine ag.ct ?_;(repeat(refine xL ?_));refine aa.nil ?_;dsimp only[Fr.aE,Fr.put,Fr.clean,Fr.ev,Fr.get,nth,V.look,u1,u2,v1,v2,v3,v4,v5,v6,v7,List.length,u3,u4,Nat.reduceSub,Nat.reduceAdd,List.map];subst hK;refine qy ?_;(repeat refine qq ?_);(generalize hK:aT _ _ _ _=K);refine ag.ct ?_
 (refine xT ?_)
 refine aa.len rfl rfl rfl eF rfl ?_;(repeat(refine xT ?_));refine aa.nil ?_;dsimp only[Fr.aE,Fr.put,Fr.clean,Fr.ev,Fr.get,nth,V.look,u1,u2,v1,v2,v3,v4,v5,v6,v7,List.length,u3,u4,Nat.reduceSub,Nat.reduceAdd,List.map];subst hK;refine qy ?_;(repeat refine qq ?_);refine qc (fun h1=>?_) (fun h1=>?_)<;>try simp only[cs] at h1
 ·(refine qy ?_);(repeat refine qq ?_);(generalize hK:aT _ _ _ _=K);refine ag.ct ?_;(repeat(refine xL ?_));refine aa.nil ?_;dsimp only[Fr.aE,Fr.put,Fr.clean,Fr.ev,Fr.get,nth,V.look,u1,u2,v1,v2,v3,v4,v5,v6,v7,List.length,u3,u4,Nat.reduceSub,Nat.reduceAdd,List.map];subst hK;refine qy ?_;refine ag.ret ⟨rx,_,rfl,bO (by simp) (by simp[ai]) ?_⟩
  obtain rfl:b=[]:=by cases b with|nil=>rfl|cons c b=>simp[byteCells] at h1;omega
  rfl
 refine ag.skip ?_
 obtain⟨c,xs,rfl⟩:∃c xs,b=c::xs:=by cases b with|nil=>simp[byteCells] at h1|cons c b=>exact⟨c,b,rfl⟩
 obtain⟨k,lo,hi,hm⟩:∃k lo hi,b4 c.toNat=(k,lo,hi):=⟨_,_,_,rfl⟩
 have W2:=K5 c.toNat (ai .ro st);rw[hm] at W2;have hk:=o4 c.toNat;rw[hm] at hk;have hc:=Ma c;refine qy ?_;(repeat refine qq ?_);(generalize hK:aT _ _ _ _=K);refine ag.ct ?_
 (refine xT ?_)
 refine aa.ji rfl rfl rfl (fun _=>rfl) rfl rfl eF rfl rfl (by omega) rfl rfl (fun p=>?_);refine aa.sa rfl rfl rfl W2 ?_;(repeat(first|refine xT ?_|refine xL ?_));refine aa.nil ?_;dsimp only[Fr.aE,Fr.put,Fr.clean,Fr.ev,Fr.get,nth,V.look,u1,u2,v1,v2,v3,v4,v5,v6,v7,List.length,u3,u4,Nat.reduceSub,Nat.reduceAdd,List.map];subst hK;refine qy ?_;(repeat refine qq ?_);(generalize hK:aT _ _ _ _=K);refine ag.ct ?_;(repeat(refine xT ?_));refine aa.nil ?_;dsimp only[Fr.aE,Fr.put,Fr.clean,Fr.ev,Fr.get,nth,V.look,u1,u2,v1,v2,v3,v4,v5,v6,v7,List.length,u3,u4,Nat.reduceSub,Nat.reduceAdd,List.map];subst hK;refine qy ?_;(repeat refine qq ?_);refine qc (fun h2=>?_) (fun h2=>?_)<;>try simp only[cs] at h2
 ·(refine qy ?_);(repeat refine qq ?_);(generalize hK:aT _ _ _ _=K);refine ag.ct ?_;(repeat(refine xL ?_));refine aa.nil ?_;dsimp only[Fr.aE,Fr.put,Fr.clean,Fr.ev,Fr.get,nth,V.look,u1,u2,v1,v2,v3,v4,v5,v6,v7,List.length,u3,u4,Nat.reduceSub,Nat.reduceAdd,List.map];subst hK;refine qy ?_;refine ag.ret ⟨rx,_,rfl,bO (by simp) (by simp[ai]) ?_⟩;simp only[cC,hm];rw[if_pos h2];rfl
 refine ag.skip ?_;refine qy ?_;(repeat refine qq ?_);(generalize hK:aT _ _ _ _=K);refine ag.ct ?_
 (refine xT ?_)
 refine aa.ji rfl rfl rfl (fun _=>rfl) rfl rfl eF rfl rfl (by omega) rfl rfl (fun p=>?_);(repeat(first|refine xT ?_|refine xL ?_));refine aa.nil ?_;dsimp only[Fr.aE,Fr.put,Fr.clean,Fr.ev,Fr.get,nth,V.look,u1,u2,v1,v2,v3,v4,v5,v6,v7,List.length,u3,u4,Nat.reduceSub,Nat.reduceAdd,List.map];subst hK;refine qy ?_;(repeat refine qq ?_);(generalize hK:aT _ _ _ _=K);refine ag.ct ?_;(repeat(refine xT ?_));refine aa.nil ?_;dsimp only[Fr.aE,Fr.put,Fr.clean,Fr.ev,Fr.get,nth,V.look,u1,u2,v1,v2,v3,v4,v5,v6,v7,List.length,u3,u4,Nat.reduceSub,Nat.reduceAdd,List.map];subst hK;refine qy ?_;generalize hK:aT _ _ _ _=K
 have H:∀(r kn:Nat) (m:List (Nat×D)),k=(kn:Int)→r=(if k>0 then c.toNat %(64/2^k.toNat) else c.toNat)→(r+1)*64^kn≤2097152→K .next ⟨9,[x,.tup [],.int .i32 r,.int .i64 0,.bool false,.int .i64 k,.int .u8 lo,.int .u8 hi,.tup []],m⟩ (ai .ro st):=by
  intro r kn m hkn hr oE
  have hR:cC (c::xs)=eC kn (kn+1) r lo hi xs:=by
   simp only[cC,hm];rw[if_neg h2,hr,hkn];rfl
  subst hK;rw[hR];generalize hS:eC kn (kn+1) r lo hi xs=R at hR⊢;subst hkn;refine qy ?_;(repeat refine qq ?_);(generalize hK:aT _ _ _ _=K);refine ag.ct ?_;(repeat(refine xL ?_));refine aa.nil ?_;dsimp only[Fr.aE,Fr.put,Fr.clean,Fr.ev,Fr.get,nth,V.look,u1,u2,v1,v2,v3,v4,v5,v6,v7,List.length,u3,u4,Nat.reduceSub,Nat.reduceAdd,List.map];subst hK;refine qy ?_;refine ag.block<|ag.loop (fun j fr ah=>∃(i r lo hi:Nat),fr.clean=⟨9,[x,.tup [],.int .i32 r,.int .i64 0,.bool false,.int .i64 kn,.int .u8 lo,.int .u8 hi,.int .i64 (i:Nat)],[]⟩∧ah=ai .ro st∧1≤i∧i+j=kn+1∧eC j (kn+1) r lo hi (xs.drop (i-1))=R∧(r+1)*64^j≤2097152) kn ⟨1,r,lo,hi,rfl,rfl,by omega,by omega,hS,oE⟩ ?_;clear hr oE hS r hm W2 m;rintro j fr ah ⟨i,r,lo,hi,hfr,rfl,Xj,hij,hS,oE⟩;rw[hfr];refine qy ?_;(repeat refine qq ?_);(generalize hK:aT _ _ _ _=K);refine ag.ct ?_;(repeat(refine xT ?_));refine aa.nil ?_;dsimp only[Fr.aE,Fr.put,Fr.clean,Fr.ev,Fr.get,nth,V.look,u1,u2,v1,v2,v3,v4,v5,v6,v7,List.length,u3,u4,Nat.reduceSub,Nat.reduceAdd,List.map];subst hK;refine qy ?_;(repeat refine qq ?_);refine qc (fun h4=>?_) (fun h4=>?_)<;>try simp only[cs] at h4
  ·refine ag.skip ?_
   obtain⟨j,rfl⟩:∃j',j=j'+1:=⟨j-1,by omega⟩
   refine ag.seq (ag.block ?_);refine qy ?_;(repeat refine qq ?_);(generalize hK:aT _ _ _ _=K);refine ag.ct ?_
   (refine xT ?_)
   (refine xT ?_)
   refine aa.len rfl rfl rfl eF rfl ?_;(repeat(refine xT ?_));refine aa.nil ?_;dsimp only[Fr.aE,Fr.put,Fr.clean,Fr.ev,Fr.get,nth,V.look,u1,u2,v1,v2,v3,v4,v5,v6,v7,List.length,u3,u4,Nat.reduceSub,Nat.reduceAdd,List.map];subst hK;refine qy ?_
   have B_:(xs.drop (i-1))=[]∨∃y ys,xs.drop (i-1)=y::ys:=by
    cases xs.drop (i-1) with
    |nil=>exact .inl rfl
    |cons y ys=>exact .inr ⟨y,ys,rfl⟩
   have U_:(xs.drop (i-1)).length=xs.length-(i-1):=List.length_drop ..;have hbl:(byteCells (c::xs)).length=xs.length+1:=by simp[byteCells]
   (refine qy ?_);(repeat refine qq ?_);refine qc (fun h5=>?_) (fun h5=>?_)<;>try simp only[cs] at h5
   ·(refine qy ?_);(repeat refine qq ?_);(generalize hK:aT _ _ _ _=K);refine ag.ct ?_;(repeat(refine xL ?_));refine aa.nil ?_;dsimp only[Fr.aE,Fr.put,Fr.clean,Fr.ev,Fr.get,nth,V.look,u1,u2,v1,v2,v3,v4,v5,v6,v7,List.length,u3,u4,Nat.reduceSub,Nat.reduceAdd,List.map];subst hK;refine qy ?_;refine ag.ret ⟨rx,_,rfl,bO (by simp) (by simp[ai]) ?_⟩
    rcases B_ with B_|⟨y,ys,B_⟩
    ·rw[B_] at hS;simp only[eC] at hS;subst hS;rfl
    ·rw[B_] at U_;simp only[List.length_cons] at U_;omega
   refine ag.skip ?_
   rcases B_ with B_|⟨y,ys,B_⟩
   ·rw[B_] at U_;simp only[List.length_nil] at U_;omega
   have hy:(c::xs)[i]?=some y:=by
    obtain⟨i,rfl⟩:∃i',i=i'+1:=⟨i-1,by omega⟩
    have:=congrArg (fun l=>l[0]?) B_
    simpa using this
   have kN:xs.drop (i+1-1)=ys:=by
    have:=congrArg (fun l=>l.drop 1) B_;simp only[List.drop_drop,List.drop_succ_cons,List.drop_zero] at this;rw[←this];congr 1;omega
   have VW:=sW hy;have hyb:=Ma y;rw[B_] at hS;simp only[eC] at hS;refine qy ?_;(repeat refine qq ?_);(generalize hK:aT _ _ _ _=K);refine ag.ct ?_
   (refine xT ?_)
   (refine xT ?_)
   refine aa.ji rfl rfl rfl (fun _=>rfl) rfl rfl eF rfl rfl (by omega) VW rfl (fun p=>?_)
   (refine xT ?_)
   (refine xT ?_)
   (refine xT ?_)
   by_cases yL:(y.toNat:Int)<(lo:Int)
   ·rw[decide_eq_true yL];(repeat(first|refine xT ?_|refine xo ?_));refine aa.nil ?_;dsimp only[Fr.aE,Fr.put,Fr.clean,Fr.ev,Fr.get,nth,V.look,u1,u2,v1,v2,v3,v4,v5,v6,v7,List.length,u3,u4,Nat.reduceSub,Nat.reduceAdd,List.map];subst hK;refine qy ?_;refine ag.cond (v:=true) rfl (fun _=>?_) (fun h=>by cases h);refine qy ?_;(repeat refine qq ?_);(generalize hK:aT _ _ _ _=K);refine ag.ct ?_;(repeat(refine xL ?_));refine aa.nil ?_;dsimp only[Fr.aE,Fr.put,Fr.clean,Fr.ev,Fr.get,nth,V.look,u1,u2,v1,v2,v3,v4,v5,v6,v7,List.length,u3,u4,Nat.reduceSub,Nat.reduceAdd,List.map];subst hK;refine qy ?_;refine ag.ret ⟨rx,_,rfl,bO (by simp) (by simp[ai]) ?_⟩;rw[if_pos (.inl (by omega))] at hS;subst hS;rfl
   rw[decide_eq_false yL]
   (refine xT ?_)
   (refine xT ?_)
   refine aa.ji rfl rfl rfl (fun _=>rfl) rfl rfl eF rfl rfl (by omega) VW rfl (fun p=>?_);(repeat(refine xT ?_));refine aa.nil ?_;dsimp only[Fr.aE,Fr.put,Fr.clean,Fr.ev,Fr.get,nth,V.look,u1,u2,v1,v2,v3,v4,v5,v6,v7,List.length,u3,u4,Nat.reduceSub,Nat.reduceAdd,List.map];subst hK;refine qy ?_;(repeat refine qq ?_);refine qc (fun h6=>?_) (fun h6=>?_)<;>try simp only[cs] at h6
   ·(refine qy ?_);(repeat refine qq ?_);(generalize hK:aT _ _ _ _=K);refine ag.ct ?_;(repeat(refine xL ?_));refine aa.nil ?_;dsimp only[Fr.aE,Fr.put,Fr.clean,Fr.ev,Fr.get,nth,V.look,u1,u2,v1,v2,v3,v4,v5,v6,v7,List.length,u3,u4,Nat.reduceSub,Nat.reduceAdd,List.map];subst hK;refine qy ?_;refine ag.ret ⟨rx,_,rfl,bO (by simp) (by simp[ai]) ?_⟩;rw[if_pos (.inr (by omega))] at hS;subst hS;rfl
   refine ag.skip ?_;rw[if_neg (by omega)] at hS;refine qy ?_;(repeat refine qq ?_);(generalize hK:aT _ _ _ _=K);refine ag.ct ?_
   (refine xT ?_)
   (refine xT ?_)
   (refine xT ?_)
   (refine xT ?_)
   refine aa.ji rfl rfl rfl (fun _=>rfl) rfl rfl eF rfl rfl (by omega) VW rfl (fun p=>?_);(repeat(first|refine xT ?_|refine xL ?_));refine aa.nil ?_;dsimp only[Fr.aE,Fr.put,Fr.clean,Fr.ev,Fr.get,nth,V.look,u1,u2,v1,v2,v3,v4,v5,v6,v7,List.length,u3,u4,Nat.reduceSub,Nat.reduceAdd,List.map];subst hK;refine qy ?_;have hr3:r+1≤(r+1)*64^(j+1):=Nat.le_mul_of_pos_right _ (Nat.pow_pos (by omega));rw[six (by omega) hyb];refine qy ?_;(repeat refine qq ?_);(generalize hK:aT _ _ _ _=K);refine ag.ct ?_;(repeat(refine xL ?_));refine aa.nil ?_;dsimp only[Fr.aE,Fr.put,Fr.clean,Fr.ev,Fr.get,nth,V.look,u1,u2,v1,v2,v3,v4,v5,v6,v7,List.length,u3,u4,Nat.reduceSub,Nat.reduceAdd,List.map];subst hK;refine qy ?_;(repeat refine qq ?_);(generalize hK:aT _ _ _ _=K);refine ag.ct ?_;(repeat(first|refine xT ?_|refine xL ?_));refine aa.nil ?_;dsimp only[Fr.aE,Fr.put,Fr.clean,Fr.ev,Fr.get,nth,V.look,u1,u2,v1,v2,v3,v4,v5,v6,v7,List.length,u3,u4,Nat.reduceSub,Nat.reduceAdd,List.map];subst hK;rw[wrap_i64 (by omega) (by omega)];refine⟨j,by omega,i+1,_,_,_,rfl,rfl,by omega,by omega,by rw[kN];exact hS,?_⟩;have e1:(r*64+y.toNat %64+1)≤(r+1)*64:=by omega
   have e2:=Nat.mul_le_mul_right (64^j) e1;have e3:64*64^j=64^(j+1):=by rw[Nat.pow_succ,Nat.mul_comm]
   rw[Nat.mul_assoc,e3] at e2;omega
  ·refine ag.exit ?_;have:j=0:=by omega
   subst this;simp only[eC] at hS;subst hS;refine qy ?_;(repeat refine qq ?_);(generalize hK:aT _ _ _ _=K);refine ag.ct ?_;(repeat(first|refine xT ?_|refine xL ?_));refine aa.nil ?_;dsimp only[Fr.aE,Fr.put,Fr.clean,Fr.ev,Fr.get,nth,V.look,u1,u2,v1,v2,v3,v4,v5,v6,v7,List.length,u3,u4,Nat.reduceSub,Nat.reduceAdd,List.map];subst hK;refine qy ?_;refine ag.ret ⟨rx,_,rfl,bO (by simp) (by simp[ai]) ?_⟩;rw[wrap_i64 (by omega) (by omega)];rfl
 rcases hk with hk|hk|hk|hk|hk
 ·omega
 ·subst hk;refine ag.cond (v:=false) rfl (fun h=>by cases h) fun _=>ag.skip ?_;rw[ek (by simp only[kY];omega)];exact H _ 0 _ rfl rfl (by omega)
 ·subst hk;refine ag.cond (v:=true) rfl (fun _=>?_) (fun h=>by cases h);refine ag.ct ?_
  (refine xT ?_)
  refine aa.ji rfl rfl rfl (fun _=>rfl) rfl rfl eF rfl rfl (by omega) rfl rfl (fun p=>?_);(repeat(first|refine xT ?_|refine xL ?_));refine aa.nil ?_;dsimp only[Fr.aE,Fr.put,Fr.clean,Fr.ev,Fr.get,nth,V.look,u1,u2,v1,v2,v3,v4,v5,v6,v7,List.length,u3,u4,Nat.reduceSub,Nat.reduceAdd,List.map];rw[mask (j:=5) hc (by omega)]
  ·exact H _ 1 _ rfl rfl (by omega)
  ·decide
 ·subst hk;refine ag.cond (v:=true) rfl (fun _=>?_) (fun h=>by cases h);refine ag.ct ?_
  (refine xT ?_)
  refine aa.ji rfl rfl rfl (fun _=>rfl) rfl rfl eF rfl rfl (by omega) rfl rfl (fun p=>?_);(repeat(first|refine xT ?_|refine xL ?_));refine aa.nil ?_;dsimp only[Fr.aE,Fr.put,Fr.clean,Fr.ev,Fr.get,nth,V.look,u1,u2,v1,v2,v3,v4,v5,v6,v7,List.length,u3,u4,Nat.reduceSub,Nat.reduceAdd,List.map];rw[mask (j:=4) hc (by omega)]
  ·exact H _ 2 _ rfl rfl (by omega)
  ·decide
 ·subst hk;refine ag.cond (v:=true) rfl (fun _=>?_) (fun h=>by cases h);refine ag.ct ?_
  (refine xT ?_)
  refine aa.ji rfl rfl rfl (fun _=>rfl) rfl rfl eF rfl rfl (by omega) rfl rfl (fun p=>?_);(repeat(first|refine xT ?_|refine xL ?_));refine aa.nil ?_;dsimp only[Fr.aE,Fr.put,Fr.clean,Fr.ev,Fr.get,nth,V.look,u1,u2,v1,v2,v3,v4,v5,v6,v7,List.length,u3,u4,Nat.reduceSub,Nat.reduceAdd,List.map];rw[mask (j:=3) hc (by omega)]
  ·exact H _ 3 _ rfl rfl (by omega)
  ·decide
end Go.Proofs.YtbdnabmmlbiomaaGreat
