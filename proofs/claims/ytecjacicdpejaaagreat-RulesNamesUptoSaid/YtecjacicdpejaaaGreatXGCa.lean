/-
 Ranges of runes: the canonical form, by plain lists. No program in sight.
-/
import Derived.Test.YtecjacicdpejaaaGreatXPx
import Derived.Test.YtecjacicdpejaaaGreatXM2
import Derived.KernelRfl
import Derived.Test.YtecjacicdpejaaaGreatXKa
set_option linter.unusedSimpArgs false
set_option linter.unusedVariables false
set_option maxRecDepth 100000
set_option maxHeartbeats 4000000
namespace Go.V
abbrev Rg:=Int×Int
def fH (l:List Rg) (r:Int):Prop:=∃x,x∈l∧x.1≤r∧r≤x.2
theorem gG (r:Int):¬fH [] r:=by rintro⟨x,h,_⟩;cases h
theorem bT {x:Rg} {l:List Rg} {r:Int}:fH (x::l) r↔(x.1≤r∧r≤x.2)∨fH l r:=by
 constructor
 ·rintro⟨y,hy,h⟩
  rcases List.mem_cons.1 hy with rfl|hy
  ·exact .inl h
  ·exact .inr ⟨y,hy,h⟩
 ·rintro(h|⟨y,hy,h⟩)
  ·exact⟨x,List.mem_cons_self ..,h⟩
  ·exact⟨y,List.mem_cons_of_mem _ hy,h⟩
theorem wu {a b:List Rg} {r:Int}:fH (a++b) r↔fH a r∨fH b r:=by
 constructor
 ·rintro⟨y,hy,h⟩
  rcases List.mem_append.1 hy with hy|hy
  ·exact .inl ⟨y,hy,h⟩
  ·exact .inr ⟨y,hy,h⟩
 ·rintro(⟨y,hy,h⟩|⟨y,hy,h⟩)
  ·exact⟨y,List.mem_append_left _ hy,h⟩
  ·exact⟨y,List.mem_append_right _ hy,h⟩
theorem sX {a b:List Rg} (h:∀x,x∈a↔x∈b) (r:Int):fH a r↔fH b r:=by
 constructor
 ·rintro⟨y,hy,hh⟩;exact⟨y,(h y).1 hy,hh⟩
 ·rintro⟨y,hy,hh⟩;exact⟨y,(h y).2 hy,hh⟩
def canon (l:List Rg):Prop:=(∀x∈l,x.1≤x.2)∧l.Pairwise fun x y=>x.2+1<y.1
theorem iu {x:Rg} {l:List Rg} (h:canon (x::l)):canon l∧x.1≤x.2∧∀r,fH l r→x.2+1<r:=by
 obtain⟨h1,h2⟩:=h;rw[List.pairwise_cons] at h2;refine⟨⟨fun y hy=>h1 y (List.mem_cons_of_mem _ hy),h2.2⟩,h1 x (List.mem_cons_self ..),?_⟩;rintro r ⟨y,hy,h3,h4⟩;have:=h2.1 y hy;omega
theorem mX:∀{a b:List Rg},canon a→canon b→(∀r,fH a r↔fH b r)→a=b
 |[],[],_,_,_=>rfl
 |[],y::b,_,hb,h=>by
  obtain⟨_,h1,_⟩:=iu hb;exact absurd ((h y.1).2 (bT.2 (.inl ⟨Int.le_refl _,h1⟩))) (gG _)
 |x::a,[],ha,_,h=>by
  obtain⟨_,h1,_⟩:=iu ha;exact absurd ((h x.1).1 (bT.2 (.inl ⟨Int.le_refl _,h1⟩))) (gG _)
 |x::a,y::b,ha,hb,h=>by
  obtain⟨ca,xa,fa⟩:=iu ha;obtain⟨cb,yb,fb⟩:=iu hb
  have low:∀{x y:Rg} {a b:List Rg},x.1≤x.2→(∀r,fH b r→y.2+1<r)→y.1≤y.2→(∀r,fH (x::a) r→fH (y::b) r)→y.1≤x.1:=by
   intro x y a b hx hf hy hh
   rcases bT.1 (hh x.1 (bT.2 (.inl ⟨Int.le_refl _,hx⟩))) with h|h
   ·exact h.1
   ·have:=hf _ h;omega
  have e1:x.1=y.1:=Int.le_antisymm (low yb fa xa fun r=>(h r).2) (low xa fb yb fun r=>(h r).1)
  have up:∀{x y:Rg} {a b:List Rg},x.1≤x.2→x.1=y.1→(∀r,fH a r→x.2+1<r)→(∀r,fH (y::b) r→fH (x::a) r)→y.2≤x.2:=by
   intro x y a b hx he hf hh
   rcases Int.lt_or_le x.2 y.2 with h'|h'
   ·rcases bT.1 (hh (x.2+1) (bT.2 (.inl ⟨by omega,by omega⟩))) with h|h
    ·omega
    ·have:=hf _ h;omega
   ·exact h'
  have e2:x.2=y.2:=Int.le_antisymm (up yb e1.symm fb fun r=>(h r).1) (up xa e1 fa fun r=>(h r).2);have e:x=y:=Prod.ext e1 e2;subst e
  congr 1
  refine mX ca cb fun r=>⟨fun hr=>?_,fun hr=>?_⟩
  ·have:=fa r hr
   rcases bT.1 ((h r).1 (bT.2 (.inr hr))) with h|h
   ·omega
   ·exact h
  ·have:=fb r hr
   rcases bT.1 ((h r).2 (bT.2 (.inr hr))) with h|h
   ·omega
   ·exact h
def dv (acc:List Rg) (r:Rg):List Rg:=
 match acc with
 |[]=>[r]
 |k::rest=>if r.1≤k.2+1 then(k.1,max k.2 r.2)::rest else r::k::rest
theorem mG:∀(l acc:List Rg),(∀x∈l,x.1≤x.2)→l.Pairwise (fun x y=>x.1≤y.1)→(∀k∈acc.head?,∀x∈l,k.1≤x.1)→(∀x∈acc,x.1≤x.2)→acc.Pairwise (fun x y=>y.2+1<x.1)→
  (∀x∈l.foldl dv acc,x.1≤x.2)∧(l.foldl dv acc).Pairwise (fun x y=>y.2+1<x.1)∧∀r,fH (l.foldl dv acc) r↔fH acc r∨fH l r
 |[],acc,_,_,_,h1,h2=>⟨h1,h2,fun r=>⟨.inl,fun h=>h.resolve_right (gG r)⟩⟩
 |x::l,acc,hl,hp,hk,h1,h2=>by
  rw[List.pairwise_cons] at hp;have hx:=hl x (List.mem_cons_self ..);have iH:∀y∈l,y.1≤y.2:=fun y hy=>hl y (List.mem_cons_of_mem _ hy);rw[List.foldl_cons]
  cases acc with
  |nil=>
   obtain⟨g1,g2,g3⟩:=mG l [x] iH hp.2 (fun k iI y hy=>by simp at iI;subst iI;exact hp.1 y hy) (fun y hy=>by simp at hy;subst hy;exact hx) (by simp);refine⟨g1,g2,fun r=>(g3 r).trans ?_⟩;rw[bT (l:=l),bT (l:=[])];constructor
   ·rintro((h|h)|h)
    ·exact .inr (.inl h)
    ·exact absurd h (gG r)
    ·exact .inr (.inr h)
   ·rintro(h|h|h)
    ·exact absurd h (gG r)
    ·exact .inl (.inl h)
    ·exact .inr h
  |cons k rest=>
   have UR:=hk k rfl x (List.mem_cons_self ..);have hkk:=h1 k (List.mem_cons_self ..);rw[List.pairwise_cons] at h2;unfold dv
   by_cases hc:x.1≤k.2+1
   ·simp only[if_pos hc]
    obtain⟨g1,g2,g3⟩:=mG l ((k.1,max k.2 x.2)::rest) iH hp.2 (fun q hq y hy=>by simp at hq;subst hq;have:=hp.1 y hy;simp only;omega) (fun y hy=>by
     rcases List.mem_cons.1 hy with rfl|hy
     ·simp only;omega
     ·exact h1 y (List.mem_cons_of_mem _ hy)) (by rw[List.pairwise_cons];exact⟨h2.1,h2.2⟩)
    refine⟨g1,g2,fun r=>(g3 r).trans ?_⟩;rw[bT (l:=rest),bT (l:=rest),bT (l:=l)];constructor
    ·rintro((h|h)|h)
     ·simp only at h
      by_cases hr:r≤k.2
      ·exact .inl (.inl ⟨h.1,hr⟩)
      ·exact .inr (.inl ⟨by omega,by omega⟩)
     ·exact .inl (.inr h)
     ·exact .inr (.inr h)
    ·rintro((h|h)|h|h)
     ·exact .inl (.inl ⟨h.1,by simp only;omega⟩)
     ·exact .inl (.inr h)
     ·exact .inl (.inl ⟨by simp only;omega,by simp only;omega⟩)
     ·exact .inr h
   ·simp only[if_neg hc]
    obtain⟨g1,g2,g3⟩:=mG l (x::k::rest) iH hp.2 (fun q hq y hy=>by simp at hq;subst hq;exact hp.1 y hy) (fun y hy=>by
     rcases List.mem_cons.1 hy with rfl|hy
     ·exact hx
     ·exact h1 y hy) (by
     rw[List.pairwise_cons];refine⟨fun y hy=>?_,by rw[List.pairwise_cons];exact h2⟩
     rcases List.mem_cons.1 hy with rfl|hy
     ·omega
     ·have:=h2.1 y hy;omega)
    refine⟨g1,g2,fun r=>(g3 r).trans ?_⟩;rw[bT (l:=k::rest),bT (l:=l)];constructor
    ·rintro((h|h)|h)
     ·exact .inr (.inl h)
     ·exact .inl h
     ·exact .inr (.inr h)
    ·rintro(h|h|h)
     ·exact .inl (.inr h)
     ·exact .inl (.inl h)
     ·exact .inr h
theorem yD {l:List Rg} (h1:∀x∈l,x.1≤x.2) (h2:l.Pairwise fun x y=>x.1≤y.1):canon (l.foldl dv []).reverse∧∀r,fH (l.foldl dv []).reverse r↔fH l r:=by
 obtain⟨g1,g2,g3⟩:=mG l [] h1 h2 (fun k hk=>by simp at hk) (fun x hx=>by simp at hx) List.Pairwise.nil;refine⟨⟨fun x hx=>g1 x (List.mem_reverse.1 hx),by rw[List.pairwise_reverse];exact g2⟩,fun r=>?_⟩;rw[sX (fun x=>List.mem_reverse) r,g3 r];exact⟨fun h=>h.resolve_left (gG r),.inr⟩
def lQ (r:Int):Prop:=0≤r∧r≤1114111∧¬(55296≤r∧r≤57343)
def dN (x:Rg):List Rg:=
 (if max (max x.1 0) 0≤min (min x.2 1114111) 55295 then[(max (max x.1 0) 0,min (min x.2 1114111) 55295)] else[])++
 (if max (max x.1 0) 57344≤min (min x.2 1114111) 1114111 then[(max (max x.1 0) 57344,min (min x.2 1114111) 1114111)] else[])
theorem pH (x:Rg) (r:Int):fH (dN x) r↔lQ r∧x.1≤r∧r≤x.2:=by
 unfold dN lQ;rw[wu]
 have one:∀(a b:Int),fH (if a≤b then[(a,b)] else[]) r↔a≤r∧r≤b:=by
  intro a b
  split
  ·rw[bT];exact⟨fun h=>h.elim id fun h=>absurd h (gG r),.inl⟩
  ·exact⟨fun h=>absurd h (gG r),fun h=>by omega⟩
 rw[one,one];omega
theorem nz (x:Rg):∀y∈dN x,y.1≤y.2∧0≤y.1∧y.2≤1114111:=by
 intro y hy;unfold dN at hy
 rcases List.mem_append.1 hy with h|h<;>split at h<;>simp at h<;>subst h<;>simp only<;>omega
theorem lM {l all:List Rg} (hp:∀x,x∈all↔x∈l.flatMap dN) (hs:all.Pairwise fun x y=>x.1≤y.1):canon (all.foldl dv []).reverse∧∀r,fH (all.foldl dv []).reverse r↔lQ r∧fH l r:=by
 have hle:∀x∈all,x.1≤x.2:=fun x hx=>by
  obtain⟨y,_,hy⟩:=List.mem_flatMap.1 ((hp x).1 hx);exact(nz y x hy).1
 obtain⟨g1,g2⟩:=yD hle hs;refine⟨g1,fun r=>(g2 r).trans ((sX hp r).trans ?_)⟩;constructor
 ·rintro⟨y,hy,h⟩;obtain⟨x,hx,hy⟩:=List.mem_flatMap.1 hy;have:=(pH x r).1 ⟨y,hy,h⟩;exact⟨this.1,x,hx,this.2⟩
 ·rintro⟨hr,x,hx,h⟩;obtain⟨y,hy,h'⟩:=(pH x r).2 ⟨hr,h⟩;exact⟨y,List.mem_flatMap.2 ⟨x,hx,hy⟩,h'⟩
end Go.V
namespace Go.Proofs.YtecjacicdpejaaaGreat
open Go.V Go
def au (x:Rg):List D:=[.int .i32 x.1,.int .i32 x.2]
def aQ (l:List Rg):D:=.sl (l.map fun x=>.agg (au x))
theorem gj (l:List Rg):D.sl ((l.map au).map (jr 2))=aQ l:=by
 unfold aQ;rw[List.map_map];rfl
theorem gE (l:List Rg):∀e∈l.map au,∀d∈e,cj d=true:=by
 intro e he d hd;obtain⟨x,_,rfl⟩:=List.mem_map.1 he;simp only[au,List.mem_cons,List.not_mem_nil,or_false] at hd
 rcases hd with rfl|rfl<;>rfl
theorem yd (l:List Rg):refs (l.map au).flatten=0:=by
 induction l with
 |nil=>rfl
 |cons x l ih=>simp only[List.map_cons,List.flatten_cons,au,List.cons_append,List.nil_append,refs,D.ref,ih];rfl
theorem sO (l:List Rg):∀e∈l.map au,e.length=2:=by
 intro e he;obtain⟨x,_,rfl⟩:=List.mem_map.1 he;rfl
theorem cz (st:St) (l:List Rg):V.Rows st 2 (aQ l) (l.map au):=by
 rw[←gj];exact Rows.my (sO l) (gE l)
theorem hO {l:List Rg} {i:Nat} {q:Rg} (h:l[i]?=some q):(l.map au)[i]?=some (au q):=by rw[List.getElem?_map,h];rfl
def aR (fr:Go.V.Fr) (k:Nat):Go.V.D:=Go.V.nth .bp fr.loc k
def e_:List Rg:=[(0,55295),(57344,1114111)]
def rS (lo hi:Int) (p:Rg):List Rg:=if max lo p.1≤min hi p.2 then[(max lo p.1,min hi p.2)] else[]
theorem tX (q:Rg):dN q=e_.flatMap (rS (max q.1 0) (min q.2 1114111)):=by
 simp[dN,e_,rS]
theorem CG {s0:St} (q:Rg):Ev pv 250 [.agg (au q)] s0 (aQ (dN q)) s0:=by
 refine Ev.jq rfl LJ rfl rfl rfl ?_;dsimp only[u3,u4,List.length,Nat.reduceSub,Nat.reduceAdd,w1,w2];obtain⟨bf,hF,hH⟩:=ri s0;generalize ai .ro s0=S at*;refine qq<|qj fun K hK=>qb hH fun k1 st lR hH=>?_;dsimp only[u2,u1,u3,u4,setMany,u5,u6,D.cells,Nat.reduceAdd,au] at hH;refine qm ?_;refine qe hK<|qq<|qj fun K hK=>qp (o:=0) ?_;refine ql hH ax ?_;refine ae.HJ (t1:=0) (t2:=0) rfl (ev rfl) (ev rfl) (by dsimp only[Fr.put,u1,u2]<;>rfl) ?_;refine qp (o:=1) ?_;refine ql hH ax ?_;refine ae.HI (t1:=0) (t2:=0) rfl (ev rfl) (ev rfl) (by dsimp only[Fr.put,u1,u2]<;>rfl) ?_;refine qp (o:=0) ?_;refine qT hH ax fun st hH=>?_;dsimp only[u2,u1,u3,u4,setMany,u5,u6,D.cells,Nat.reduceAdd,au] at hH;refine qp (o:=1) ?_;refine qT hH ax fun st hH=>?_;dsimp only[u2,u1,u3,u4,setMany,u5,u6,D.cells,Nat.reduceAdd,au] at hH;refine qe hK ?_;generalize yP:max q.1 0=lo at*;generalize BC:min q.2 1114111=hi at*;refine qq<|qj fun K hK=>qm ?_;refine qe hK ?_;have hH:=hH.eP 2;refine qq<|qq<|qj fun K hK=>qg ?_;refine qg ?_;refine qh (s:=2) (vs:=[_,_]) hH fun k17 st O8 hH=>?_;dsimp only[u2,u1,u3,u4,setMany,u5,u6,D.cells,Nat.reduceAdd,au] at hH;refine qn ?_ (hR:=hH.rows ax);simp only[List.length_map,List.length_cons,List.length_nil];refine qm ?_;refine qe hK<|ag.block<|ag.loop (fun mm fr st=>∃(i:Nat) (x:D),fr.clean=⟨20,[.agg (au q),.ptr k1 0 0,.nul,x,aR fr 4,aR fr 5,aR fr 6,aR fr 7,aR fr 8,aR fr 9,aR fr 10,aR fr 11,aR fr 12,aR fr 13,aR fr 14,aR fr 15,aR fr 16,.win k17 0 0 2 2,.int .i64 2,.int .i64 (i:Nat)],[]⟩∧Has s0.bs.length S st [.aE (.win k17 0 0 2 2) 2 (e_.map au),.aE x 2 (((e_.take i).flatMap (rS lo hi)).map au),.box k1 (.mem 0 false [.int .i32 lo,.int .i32 hi])]∧(i+mm=2)∧(((e_.take i).flatMap (rS lo hi)).length≤i)) (2) ?_ ?_
 ·exact⟨0,.nul,rfl,hH,by omega,by simp⟩
 rintro mm fr st ⟨i,x,hfr,hH,hij,hb⟩;rw[hfr];clear hfr;generalize aR fr=ee;clear fr;refine qq<|qj fun K hK=>qg ?_;refine qe hK<|qq ?_;refine ag.cond (by rfl) (fun h1=>?_) (fun h1=>?_)<;>try simp only[decide_eq_true_eq,decide_eq_false_iff_not] at h1
 ·refine ag.skip ?_
  obtain⟨p,hp⟩:∃p,e_[i]?=some p:=⟨e_[i]'(by simp[e_];omega),List.getElem?_eq_getElem _⟩
  have hr:=hO hp;refine qq<|ag.block<|qq<|qj fun K hK=>qi hH ax fun Qr Kx=>?_;refine ae.ym hH rfl (ev rfl) (by assumption) (by exact ax) (by assumption) rfl (aa rfl _) ?_;refine qa hH fun k5 st Gb hH=>?_;refine qS hH ax fun st hH=>?_;dsimp only[u2,u1,u3,u4,setMany,u5,u6,D.cells,Nat.reduceAdd,au] at hH;refine qe hK<|qq<|qj fun K hK=>qp (o:=0) ?_;refine ql hH da ?_;refine qp (o:=0) ?_;refine ql hH ax ?_;refine ae.HJ (t1:=0) (t2:=0) rfl (ev rfl) (ev rfl) (aa rfl _) ?_;refine qp (o:=1) ?_;refine ql hH da ?_;refine qp (o:=1) ?_;refine ql hH ax ?_;refine ae.HI (t1:=0) (t2:=0) rfl (ev rfl) (ev rfl) (aa rfl _) ?_;refine qg ?_;refine qa hH fun k6 st Jr hH=>?_;refine qS hH ax fun st hH=>?_;dsimp only[u2,u1,u3,u4,setMany,u5,u6,D.cells,Nat.reduceAdd,au] at hH;refine qe hK<|qq<|qj fun K hK=>qp (o:=0) ?_;refine ql hH ax ?_;refine qp (o:=1) ?_;refine ql hH ax ?_;refine qg ?_;refine qe hK ?_;refine ag.cond (by rfl) (fun h2=>?_) (fun h2=>?_)<;>try simp only[decide_eq_true_eq,decide_eq_false_iff_not] at h2
  ·refine qj fun K hK=>qm ?_;refine ae.aV (m:=2) hH rfl (ev rfl) (by exact ax) (by dsimp only[List.drop_succ_cons,List.drop_zero,List.take_succ_cons,List.take_zero,au]<;>rfl) rfl rfl (aa rfl _) ?_;refine qh (s:=2) (vs:=[_]) hH fun k41 st KU hH=>?_;refine ae.eY (s:=2) hH rfl (ev rfl) (ev rfl) (by exact cM) (by exact hH.rows (by exact ax)) rfl rfl rfl rfl rfl rfl rfl ⟨(Nat.le_of_ble_eq_true rfl),(Nat.le_of_ble_eq_true rfl)⟩ (fun _=>(aa rfl _)) (by simp only[List.length_cons,List.length_nil,List.length_map]<;>omega) (by exact .inl hF) (fun JC st hH=>?_);dsimp only[u2,u1,u3,u4,setMany,u5,u6,D.cells,Nat.reduceAdd,au] at hH;refine qm ?_;refine qe hK<|qj fun K hK=>qA ?_;refine qm ?_;refine qe hK ?_
   have h3:(e_.take (i+1)).flatMap (rS lo hi)=(e_.take i).flatMap (rS lo hi)++[(max lo p.1,min hi p.2)]:=by
    rw[List.take_add_one,hp,List.flatMap_append];simp[rS,h2]
   exact⟨mm-1,by omega,⟨i+1,JC,rfl,(by rw[h3,List.map_append];exact hH.drop 3),by omega,by rw[h3];simp only[List.length_append,List.length_cons,List.length_nil];omega⟩⟩
  ·refine ag.skip<|qj fun K hK=>qA ?_;refine qm ?_;refine qe hK ?_
   have h3:(e_.take (i+1)).flatMap (rS lo hi)=(e_.take i).flatMap (rS lo hi):=by
    rw[List.take_add_one,hp,List.flatMap_append];simp[rS,h2]
   exact⟨mm-1,by omega,⟨i+1,x,rfl,(by rw[h3];exact hH.drop 2),by omega,by rw[h3];omega⟩⟩
 ·refine ag.exit<|qq<|qj fun K hK=>qm ?_;refine qm ?_;refine qe hK ?_;rw[←gj];have h3:e_.take i=e_:=List.take_of_length_le (by simp[e_];omega);rw[h3] at hH;refine ag.ret ⟨rx,_,rfl,rl bf hH ?_⟩;refine Eq.trans (hH.freeze aX (gE _) (n:=15) (by decide)) ?_;rw[tX,yP,BC]
theorem AX (q x:Rg) (h:x∈dN q):0≤x.1∧x.1≤1114111:=by
 obtain⟨h1,h2,h3⟩:=nz q x h;omega
theorem pI (q:Rg):(dN q).length≤2:=by
 unfold dN;split<;>split<;>simp
theorem iM (l:List Rg):(l.flatMap dN).length≤2*l.length:=by
 induction l with
 |nil=>simp
 |cons x l ih=>simp only[List.flatMap_cons,List.length_append,List.length_cons];have:=pI x;omega
theorem sC:∀{l:List Rg},(∀x∈l,0≤x.1∧x.1≤1114111)→∃m:List Rs,eS m=(l.map au).flatten∧m.map (fun x=>(x.lo,x.hi))=l
 |[],_=>⟨[],rfl,rfl⟩
 |x::l,h=>by
  obtain⟨m,h1,h2⟩:=sC (l:=l) fun y hy=>h y (List.mem_cons_of_mem _ hy);obtain⟨h3,h4⟩:=h x (List.mem_cons_self ..);exact⟨⟨x.1,x.2,h3,h4⟩::m,by simp only[eS,h1,List.map_cons,List.flatten_cons,au,List.cons_append,List.nil_append],by simp[h2]⟩
theorem yW (m:List Rs):eS m=((m.map fun x=>((x.lo,x.hi):Rg)).map au).flatten:=by
 induction m with
 |nil=>rfl
 |cons x m ih=>simp only[eS,ih,List.map_cons,List.flatten_cons,au,List.cons_append,List.nil_append]
theorem D7 {N:Nat} {S st:St} {H:List bj} {j:Nat} {x:D} {l:List Rg} (hH:Has N S st H) (hj:H[j]?=some (.aE x 2 (l.map au))) (h0:l=[]→x=.nul) (hl:l.length≤1073741824) (hr:∀y∈l,0≤y.1∧y.1≤1114111):
  ∃(ah:St) (l':List Rg),Ev pv 251 [x,.fn 252 []] st (.tup []) ah∧Has N S ah (H.set j (.aE x 2 (l'.map au)))∧l'.Perm l∧l'.Pairwise fun a b=>a.1≤b.1:=by
 obtain⟨m,h1,h2⟩:=sC hr;obtain⟨h3,h4⟩:=srt_facts m;have np:m.length=l.length:=by rw[←h2];simp
 have hperm:((srt m).map fun x=>((x.lo,x.hi):Rg)).Perm l:=by rw[←h2];exact h3.map _
 have lC:((srt m).map fun x=>((x.lo,x.hi):Rg)).Pairwise fun a b=>a.1≤b.1:=by rw[List.pairwise_map];exact h4
 have hlen:(srt m).length=l.length:=h3.length_eq.trans np;have hown:=hH.own hj;generalize tg:l.map au=es at*;have vh:es.length=l.length:=by rw[←tg];simp
 cases hown with
 |nul=>
  have KK:l=[]:=by cases l with|nil=>rfl|cons _ _=>simp at vh
  refine⟨st,(srt m).map fun x=>(x.lo,x.hi),Ev.jN rfl rfl,?_,hperm,lC⟩
  have:(srt m).map (fun x=>((x.lo,x.hi):Rg))=[]:=by
   cases hs:srt m with
   |nil=>rfl
   |cons a b=>rw[hs,KK] at hlen;simp at hlen
  rw[this];exact hH.zm hj (fun _ _ _=>rfl) (Nat.le_refl _) rfl rfl .nul (fun k hk=>.inl hk) fun k hk=>by simp only[bj.aE,D.ref] at hk;omega
 |win k aq off es c hm hle hc he=>
  have hne:l≠[]:=fun e=>by have:=h0 e;cases this
  have wU:1≤l.length:=by cases l with|nil=>exact absurd rfl hne|cons _ _=>simp
  have hk:=(hH.ok j _ hj).2 k (by simp only[bj.aE,D.ref]);have yQ:(eS (srt m)).length=es.length*2:=by rw[mO,hlen,vh];omega
  have hwr:st.wr k aq off (eS (srt m))=some ⟨st.bs.set k (.mem aq true (c.take off++eS (srt m)++c.drop (off+(eS (srt m)).length))),st.flr,st.ro⟩:=
   iQ hm (by omega) (fM hH hk.1 (.inr (tu _)))
  refine⟨⟨st.bs.set k (.mem aq true (c.take off++eS (srt m)++c.drop (off+(eS (srt m)).length))),st.flr,st.ro⟩,(srt m).map fun x=>(x.lo,x.hi),Ev.jN rfl ?_,?_,hperm,lC⟩
  ·show AU [.win k aq off es.length 2,.fn 252 []] st=_;have gy:(c.drop off).take (2*es.length)=eS m:=by rw[Nat.mul_comm,hc,h1]
   simp only[AU,St.mem_of hm,gy,zB,Hm];rw[decide_eq_true (⟨by rw[np,vh],by omega,by omega⟩:m.length=es.length∧1≤es.length∧es.length<1099511627776)];simp only[hwr]
  ·refine hH.zm hj (fun n hn hne=>?_) (by simp) rfl rfl ?_ (fun n hn=>.inl hn) fun n hn=>?_
   ·simp only;rw[List.getElem?_set_ne (fun e=>hne (by simp only[bj.aE,D.ref];omega))]
   ·have h9:=fT.win (st:=⟨st.bs.set k (.mem aq true (c.take off++eS (srt m)++c.drop (off+(eS (srt m)).length))),st.flr,st.ro⟩) (s:=2) k aq off (((srt m).map fun x=>((x.lo,x.hi):Rg)).map au) (c.take off++eS (srt m)++c.drop (off+(eS (srt m)).length))
     (by simp only;rw[List.getElem?_set_self hk.2]) (by simp only[List.length_append,List.length_take,List.length_map,List.length_drop,yQ];omega) ?_ (sO _)
    ·simp only[List.length_map,hlen] at h9;rw[vh];exact h9
    ·have OM:(c.take off).length=off:=by simp;omega
     rw[List.append_assoc,List.drop_left' OM,←yW,List.take_left' (by simp only[List.length_map,hlen];omega)]
   ·simp only[bj.aE,D.ref] at hn;simp only[List.length_set];omega
theorem qL (l:List Rg):(l.foldl dv []).length≤l.length:=by
 have key:∀(l acc:List Rg),(l.foldl dv acc).length≤acc.length+l.length:=by
  intro l
  induction l with
  |nil=>intro acc;simp
  |cons x l ih=>
   intro acc;simp only[List.foldl_cons,List.length_cons];have:=ih (dv acc x)
   have h2:(dv acc x).length≤acc.length+1:=by
    unfold dv;split
    ·simp
    ·split<;>simp
   omega
 have:=key l []
 simpa using this
theorem FO {l:List Rg} (h:∀x∈l,0≤x.2∧x.2≤1114111):∀x∈l.foldl dv [],0≤x.2∧x.2≤1114111:=by
 have key:∀(l acc:List Rg),(∀x∈l,0≤x.2∧x.2≤1114111)→(∀x∈acc,0≤x.2∧x.2≤1114111)→∀x∈l.foldl dv acc,0≤x.2∧x.2≤1114111:=by
  intro l
  induction l with
  |nil=>intro acc _ h x hx;exact h x hx
  |cons y l ih=>
   intro acc h1 h2;refine ih _ (fun x hx=>h1 x (List.mem_cons_of_mem _ hx)) fun x hx=>?_;have hy:=h1 y (List.mem_cons_self ..);unfold dv at hx
   split at hx
   ·simp only[List.mem_cons,List.not_mem_nil,or_false] at hx;rw[hx];exact hy
   ·rename_i k rest;have hk:=h2 k (List.mem_cons_self ..)
    split at hx
    ·rcases List.mem_cons.1 hx with rfl|hx
     ·simp only;omega
     ·exact h2 x (List.mem_cons_of_mem _ hx)
    ·rcases List.mem_cons.1 hx with rfl|hx
     ·exact hy
     ·exact h2 x hx
 exact key l [] h (fun x hx=>by cases hx)
theorem Du (h:Rg) (t:List Rg):((h::t).reverse.map au)[t.length]?=some (au h):=by
 rw[List.getElem?_map,List.reverse_cons,List.getElem?_append_right (by simp)];simp
theorem Dt (h h':Rg) (t:List Rg):((h::t).reverse.map au).set t.length (au h')=(h'::t).reverse.map au:=by
 rw[List.reverse_cons,List.map_append,List.set_append_right _ _ (by simp)];simp
theorem uC {s0:St} {x:D} {l:List Rg} (hx:V.Rows s0 2 x (l.map au)) (hl:l.length≤268435456):∃d,Ev pv 226 [x] s0 d s0∧∃all:List Rg,d=aQ (all.foldl dv []).reverse∧all.Perm (l.flatMap dN)∧all.Pairwise fun a b=>a.1≤b.1:=by
 refine Ev.GW rfl LX rfl rfl rfl ?_;dsimp only[u3,u4,List.length,Nat.reduceSub,Nat.reduceAdd,w1,w2];obtain⟨bf,hF,hH⟩:=ri s0;generalize ai .ro s0=S at*;have hx:=Arg.of hx bf;have jU:=iM l
 have hfi:∀i,((l.take i).flatMap dN).length≤2*l.length:=fun i=>by
  have:=iM (l.take i);simp only[List.length_take] at this;omega
 refine qq<|qj fun K hK=>qm ?_;refine qe hK<|qq<|qj fun K hK=>qm ?_;refine qm ?_;refine qe hK<|qq<|qq<|qj fun K hK=>qm ?_;refine qn ?_;simp only[List.length_map];refine qm ?_;refine qe hK ?_;have hH:=hH.eP 2;refine ag.block<|ag.loop (fun mm fr st=>∃(i:Nat) (y:D),fr.clean=⟨26,[x,aR fr 1,aR fr 2,y,.nul,aR fr 5,aR fr 6,aR fr 7,aR fr 8,aR fr 9,x,.int .i64 (l.length:Nat),.int .i64 (i:Nat),aR fr 13,aR fr 14,aR fr 15,aR fr 16,aR fr 17,aR fr 18,aR fr 19,aR fr 20,aR fr 21,aR fr 22,aR fr 23,aR fr 24,aR fr 25],[]⟩∧Has s0.bs.length S st [.aE y 2 (((l.take i).flatMap dN).map au)]∧(i+mm=l.length)∧((l.take i).flatMap dN=[]→y=.nul)) (l.length) ?_ ?_
 ·exact⟨0,.nul,rfl,hH,by omega,fun _=>rfl⟩
 rintro mm fr st ⟨i,y,hfr,hH,hi,Ih⟩;rw[hfr];clear hfr;generalize aR fr=ee;clear fr;refine qq<|qj fun K hK=>qg ?_;refine qe hK ?_;have hm:=hfi i;refine qq ?_;refine ag.cond (by rfl) (fun h1=>?_) (fun h1=>?_)<;>try simp only[decide_eq_true_eq,decide_eq_false_iff_not] at h1
 ·refine ag.skip ?_
  obtain⟨q,hq⟩:∃q,l[i]?=some q:=⟨l[i]'(by omega),List.getElem?_eq_getElem _⟩
  have hr:=hO hq
  have Ab:(l.take (i+1)).flatMap dN=(l.take i).flatMap dN++dN q:=by
   rw[List.take_add_one,hq];simp
  have QG:=pI q;refine qq<|ag.block<|qq<|qj fun K hK=>qr fun Qt Ky=>?_;refine ae.dj rfl (ev rfl) (by assumption) rfl (by dsimp only[Fr.put,u1,u2]<;>rfl) ?_;refine qa hH fun k6 st Jr hH=>?_;refine qS hH ax fun st hH=>?_;dsimp only[u2,u1,u3,u4,setMany,u5,u6,D.cells,Nat.reduceAdd,au] at hH;refine qe hK<|qj fun K hK=>qm ?_;refine ae.aV (m:=2) hH rfl (ev rfl) (by exact ax) (by dsimp only[List.drop_succ_cons,List.drop_zero,List.take_succ_cons,List.take_zero,au]<;>rfl) rfl rfl (by dsimp only[Fr.put,u1,u2]<;>rfl) ?_;refine qv (CG q) ?_;refine ae.D8 hH rfl rfl rfl (by exact aX) (cz _ _) rfl rfl rfl rfl rfl rfl rfl ⟨(Nat.le_of_ble_eq_true rfl),(Nat.le_of_ble_eq_true rfl)⟩ (fun _=>by dsimp only[Fr.put,u1,u2]<;>rfl) (by simp only[List.length_map];omega) (.inl hF) (fun Nw st KC hH=>?_);dsimp only[u2,u1] at hH;refine qm ?_;refine qe hK<|qj fun K hK=>qA ?_;refine qm ?_;refine qe hK ?_;exact⟨mm-1,by omega,⟨i+1,Nw,rfl,(by rw[Ab,List.map_append];exact hH.drop 1),by omega,by rw[Ab];intro h;obtain⟨h3,h4⟩:=List.append_eq_nil_iff.1 h;rw[KC (by rw[h4];rfl)];exact Ih h3⟩⟩
 ·refine ag.exit ?_;have hT:l.take i=l:=List.take_of_length_le (by omega);rw[hT] at hH Ih hm
  obtain⟨st2,all,aI,xI,hperm,lC⟩:=D7 hH ax Ih (by omega) (fun z hz=>by
   obtain⟨w,_,hw⟩:=List.mem_flatMap.1 hz
   exact AX w z hw)
  have hlen:=hperm.length_eq
  have hbd:∀z∈all,0≤z.2∧z.2≤1114111:=fun z hz=>by
   obtain⟨w,_,hw⟩:=List.mem_flatMap.1 (hperm.mem_iff.1 hz);have:=nz w z hw;omega
  refine qq<|qj fun K hK=>qm ?_;refine qv (aI) ?_;refine qe hK ?_;have hH:=xI;dsimp only[u2] at hH;clear xI aI;have hR:=hH.rows ax;have hH:=hH.eP 2;refine qq<|qq<|qj fun K hK=>qm ?_;refine qn ?_ (hR:=hH.rows aX);simp only[List.length_map];refine qm ?_;refine qe hK<|ag.block<|ag.loop (fun mm fr st=>∃(i:Nat) (z:D),fr.clean=⟨26,[x,aR fr 1,aR fr 2,y,z,aR fr 5,aR fr 6,aR fr 7,aR fr 8,aR fr 9,aR fr 10,aR fr 11,aR fr 12,aR fr 13,aR fr 14,aR fr 15,aR fr 16,aR fr 17,aR fr 18,aR fr 19,aR fr 20,aR fr 21,aR fr 22,y,.int .i64 (all.length:Nat),.int .i64 (i:Nat)],[]⟩∧Has s0.bs.length S st [.aE z 2 (((all.take i).foldl dv []).reverse.map au),.aE y 2 (all.map au)]∧(i+mm=all.length)) (all.length) ?_ ?_
  ·exact⟨0,.nul,rfl,hH,by omega⟩
  rintro mm fr st ⟨i,z,hfr,hH,hi⟩;rw[hfr];clear hfr;generalize aR fr=ee;clear fr;refine qq<|qj fun K hK=>qg ?_;refine qe hK ?_
  have hjl:((all.take i).foldl dv []).length≤all.length:=by
   have:=qL (all.take i);simp only[List.length_take] at this;omega
  refine qq ?_;refine ag.cond (by rfl) (fun h1=>?_) (fun h1=>?_)<;>try simp only[decide_eq_true_eq,decide_eq_false_iff_not] at h1
  ·refine ag.skip ?_
   obtain⟨q,hq⟩:∃q,all[i]?=some q:=⟨all[i]'(by omega),List.getElem?_eq_getElem _⟩
   have hr:=hO hq
   have O_:(all.take (i+1)).foldl dv []=dv ((all.take i).foldl dv []) q:=by
    rw[List.take_add_one,hq,List.foldl_append];rfl
   generalize Gg:(all.take i).foldl dv []=acc at*;refine qq<|ag.block<|qq<|qj fun K hK=>qi hH aX fun NK H6=>?_;refine ae.ym hH rfl (ev rfl) (by assumption) (by exact aX) (by assumption) rfl (aa rfl _) ?_;refine qa hH fun k8 st QO hH=>?_;refine qS hH ax fun st hH=>?_;dsimp only[u2,u1,u3,u4,setMany,u5,u6,D.cells,Nat.reduceAdd,au] at hH;refine qe hK ?_
   rcases acc with _|⟨h,t⟩
   ·refine qq<|qj fun K hK=>qm ?_;refine qn ?_ (hR:=hH.rows aX);simp only[List.length_map,List.length_nil,List.length_reverse];refine ae.oS (z:=(-1)) rfl (ev rfl) (ev rfl) (by(try simp only[List.length_reverse,List.length_cons,List.length_nil,List.length_append,List.length_map,List.length_set]);rw[wrap_i64 (by omega) (by omega)]<;>omega) (aa rfl _) ?_;refine qm ?_;refine qe hK ?_;have aN:decide ((-1:Int)≥0)=false:=by decide
    refine qq<|ag.mP 44 (.bool false) [] ?_ (fun ff tmp fv=>?_)
    ·refine qm ?_;refine qg ?_;refine qm ?_;refine qs ?_ (hg:=wn aN);refine qs ?_ (hg:=wn aN);refine qs ?_ (hg:=wn aN);refine qs ?_ (hg:=wn aN);refine qs ?_ (hg:=wn aN);refine qs ?_ (hg:=wn aN);refine qs ?_ (hg:=wn aN);refine qs ?_ (hg:=wn aN);refine qs ?_ (hg:=wn aN);refine qu aN ?_;refine ae.nil (dB ?_ ?_)
     ·dsimp only[aD,List.foldl,nth,u2,u1]
      all_goals(first|rfl|simp)
     ·dsimp only[Fr.ay,Fr.put,Fr.clean,Fr.ev,Fr.get,nth,look,u1,u2,v1,v2,v4]
      all_goals(first|rfl|(simp[aN];done)|(simp_all;done)|(simp[aN];omega)|(simp_all;omega))
    dsimp only[aD,List.foldl,nth,u2,u1];dsimp only[Fr.ay,Fr.put,Fr.clean,Fr.ev,Fr.get,nth,look,u1,u2,v1,v2,v4];refine qC ?_;refine qj fun K hK=>qm ?_;refine ae.aV (m:=2) hH rfl (ev rfl) (by exact ax) (by dsimp only[List.drop_succ_cons,List.drop_zero,List.take_succ_cons,List.take_zero,au]<;>rfl) rfl rfl (aa rfl _) ?_;refine qh (s:=2) (vs:=[_]) hH fun k59 st O3 hH=>?_;refine ae.eY (s:=2) hH rfl (ev rfl) (ev rfl) (by exact bV) (by exact hH.rows (by exact ax)) rfl rfl rfl rfl rfl rfl rfl ⟨(Nat.le_of_ble_eq_true rfl),(Nat.le_of_ble_eq_true rfl)⟩ (fun _=>(aa rfl _)) (by simp only[List.length_cons,List.length_nil,List.length_map,List.length_reverse]<;>omega) (by exact .inl hF) (fun Nt st hH=>?_);dsimp only[u2,u1,u3,u4,setMany,u5,u6,D.cells,Nat.reduceAdd,au] at hH;refine qm ?_;refine qe hK<|qj fun K hK=>qA ?_;refine qm ?_;refine qe hK ?_;exact⟨mm-1,by omega,⟨i+1,Nt,rfl,(by rw[O_];exact hH.drop 2),by omega⟩⟩
   ·simp only[List.length_cons] at hjl;refine qq<|qj fun K hK=>qm ?_;refine qn ?_ (hR:=hH.rows aX);simp only[List.length_map,List.length_cons,List.length_reverse];refine ae.oS (z:=((t.length:Nat):Int)) rfl (ev rfl) (ev rfl) (by(try simp only[List.length_reverse,List.length_cons,List.length_nil,List.length_append,List.length_map,List.length_set]);rw[wrap_i64 (by omega) (by omega)]<;>omega) (aa rfl _) ?_;refine qm ?_;refine qe hK ?_;have Ad:=Du h t;have gT:=Dt h (h.1,max h.2 q.2) t;have BC:=FO (l:=all.take i) (fun x hx=>hbd x (List.mem_of_mem_take hx)) h (by rw[Gg];exact List.mem_cons_self ..);have aN:decide (((t.length:Nat):Int)≥0)=true:=by rw[decide_eq_true];omega
    refine qq<|ag.mP 44 (.bool (decide (q.1≤h.2+1))) [] ?_ (fun ff tmp fv=>?_)
    ·refine qm ?_;refine qg ?_;refine qm ?_;refine qp (o:=0) ?_ (hg:=wi aN);refine ql hH ax ?_ (hg:=wi aN);refine qm ?_ (hg:=wi aN);refine qm ?_ (hg:=wi aN);refine qi hH aX (fun RH OE=>?_) (hg:=wi aN);refine ae.de (fo:=1) (m:=0) (o2:=1) (aj rfl rfl rfl aN) (ev rfl) (by assumption) rfl rfl rfl (fun _=>(aa rfl _)) (fun RG OD=>?_);refine qo hH aX ?_ (hg:=wi aN);refine ae.I_ (aj rfl rfl rfl aN) (ev rfl) (ev rfl) (by omega) (by omega) (aa rfl _) ?_;refine qg ?_ (hg:=wi aN);refine qt aN ?_;refine ae.nil (dB ?_ ?_)
     ·dsimp only[aD,List.foldl,nth,u2,u1]
      all_goals(first|rfl|simp)
     ·dsimp only[Fr.ay,Fr.put,Fr.clean,Fr.ev,Fr.get,nth,look,u1,u2,v1,v2,v4]
      all_goals(first|rfl|(simp[aN];done)|(simp_all;done)|(simp[aN];omega)|(simp_all;omega))
    dsimp only[aD,List.foldl,nth,u2,u1];dsimp only[Fr.ay,Fr.put,Fr.clean,Fr.ev,Fr.get,nth,look,u1,u2,v1,v2,v4];refine ag.cond (by assumption) (fun h2=>?_) (fun h2=>?_)<;>try simp only[decide_eq_true_eq,decide_eq_false_iff_not] at h2
    ·refine qj fun K hK=>qm ?_;refine qm ?_;refine qm ?_;refine qm ?_;refine qi hH aX fun MT F3=>?_;refine ae.de (fo:=1) (m:=0) (o2:=1) rfl (ev rfl) (by assumption) rfl rfl rfl (fun _=>(aa rfl _)) (fun RD OA=>?_);refine qo hH aX ?_;refine qp (o:=1) ?_;refine ql hH ax ?_;refine ae.HJ (t1:=0) (t2:=0) rfl (ev rfl) (ev rfl) (aa rfl _) ?_;refine qi hH aX fun Uv SI=>?_;refine ae.de (fo:=1) (m:=0) (o2:=1) rfl (ev rfl) (by assumption) rfl rfl rfl (fun _=>(aa rfl _)) (fun Qm Ks=>?_);refine ae.pR hH rfl (ev rfl) (ev rfl) (by assumption) rfl rfl (by exact aX) (by assumption) (Nat.le_of_ble_eq_true rfl) (by exact .inl hF) (fun st hH=>?_);dsimp only[u2,u1,u3,u4,setMany,u5,u6,D.cells,Nat.reduceAdd,au] at hH;refine qe hK<|qj fun K hK=>qA ?_;refine qm ?_;refine qe hK ?_;exact⟨mm-1,by omega,⟨i+1,z,rfl,(by rw[O_];simp only[dv,if_pos h2];rw[←gT];exact hH.drop 1),by omega⟩⟩
    ·refine qj fun K hK=>qm ?_;refine ae.aV (m:=2) hH rfl (ev rfl) (by exact ax) (by dsimp only[List.drop_succ_cons,List.drop_zero,List.take_succ_cons,List.take_zero,au]<;>rfl) rfl rfl (aa rfl _) ?_;refine qh (s:=2) (vs:=[_]) hH fun k59 st O3 hH=>?_;refine ae.eY (s:=2) hH rfl (ev rfl) (ev rfl) (by exact bV) (by exact hH.rows (by exact ax)) rfl rfl rfl rfl rfl rfl rfl ⟨(Nat.le_of_ble_eq_true rfl),(Nat.le_of_ble_eq_true rfl)⟩ (fun _=>(aa rfl _)) (by simp only[List.length_cons,List.length_nil,List.length_map,List.length_reverse]<;>omega) (by exact .inl hF) (fun Nt st hH=>?_);dsimp only[u2,u1,u3,u4,setMany,u5,u6,D.cells,Nat.reduceAdd,au] at hH;refine qm ?_;refine qe hK<|qj fun K hK=>qA ?_;refine qm ?_;refine qe hK ?_;exact⟨mm-1,by omega,⟨i+1,Nt,rfl,(by rw[O_];simp only[dv,if_neg h2];rw[List.reverse_cons (a:=q),List.map_append];exact hH.drop 2),by omega⟩⟩
  ·refine ag.exit<|qq<|qj fun K hK=>qm ?_;refine qm ?_;refine qe hK ?_;rw[List.take_of_length_le (by omega)] at hH;refine ag.ret ⟨rx,_,_,rfl,rl bf hH ((hH.freeze ax (gE _) (n:=15) (by decide))),?_⟩;exact⟨all,by rw[gj],hperm,lC⟩
def iT (fr:Go.V.Fr) (k:Nat):Go.V.D:=Go.V.nth .bp fr.loc k
def ft (l a:List Rg):Prop:=canon a∧∀r,fH a r↔lQ r∧fH l r
theorem ft.unique {l a b:List Rg} (h:ft l a) (g:ft l b):a=b:=mX h.1 g.1 fun r=>(h.2 r).trans (g.2 r).symm
noncomputable def nB (l:List Rg):Bool:=@decide (ft l l) (Classical.propDecidable _)
theorem A0 {l a:List Rg} (h:ft l a):nB l=decide (l=a):=by
 unfold nB
 by_cases hl:l=a
 ·rw[decide_eq_true hl];exact@decide_eq_true _ (Classical.propDecidable _) (by rw[hl] at h⊢;exact h)
 ·rw[decide_eq_false hl];exact@decide_eq_false _ (Classical.propDecidable _) (fun g=>hl (g.unique h))
theorem Bf (p q:Rg):m_ pv .neq 129 (.agg (au p)) (.agg (au q))=some (.bool (!decide (p=q))):=by
 have h:∀a b a' b':Int,m_ pv .neq 129 (.agg [.int .i32 a,.int .i32 b]) (.agg [.int .i32 a',.int .i32 b'])=Option.map (fun b=>D.bool !b) (match some (a==a') with|some true=>(match some (b==b') with|some true=>some true|some false=>some false|none=>none)|some false=>some false|none=>none):=fun _ _ _ _=>rfl;obtain⟨a,b⟩:=p;obtain⟨a',b'⟩:=q;simp only[au,h]
 by_cases h1:a=a'
 ·subst h1
  by_cases h2:b=b'
  ·subst h2;simp
  ·have:(b==b')=false:=by simpa using h2
   simp[this,h2]
 ·have:(a==a')=false:=by simpa using h1
  simp[this,h1]
theorem tT {α:Type} {a b:List α} {i:Nat} {x y:α} (ha:a[i]?=some x) (hb:b[i]?=some y) (h:a.take i=b.take i) (FU:x=y):a.take (i+1)=b.take (i+1):=by
 rw[List.take_add_one,List.take_add_one,h,ha,hb,FU]
theorem Bg {α:Type} {a b:List α} {i:Nat} {x y:α} (ha:a[i]?=some x) (hb:b[i]?=some y) (FU:¬x=y):¬a=b:=by
 intro h;subst h;rw[ha] at hb;exact FU (Option.some.inj hb)
theorem xb {s0:St} {x y:D} {l m:List Rg} (hx:V.Rows s0 2 x (l.map au)) (hy:V.Rows s0 2 y (m.map au)) (hl:l.length≤1073741824) (hm:m.length≤1073741824):Ev pv 225 [x,y] s0 (.bool (decide (l=m))) s0:=by
 refine Ev.jq rfl LY rfl rfl rfl ?_;dsimp only[u3,u4,List.length,Nat.reduceSub,Nat.reduceAdd,w1,w2];obtain⟨bf,hF,hH⟩:=ri s0;generalize ai .ro s0=S at*;have hx:=Arg.of hx bf;have hy:=Arg.of hy bf;refine qq<|qj fun K hK=>qm ?_;refine qe hK<|qq<|qq<|qj fun K hK=>qm ?_;refine qn ?_;simp only[List.length_map];refine qm ?_;refine qn ?_;simp only[List.length_map];refine qg ?_;refine qe hK ?_
 by_cases hlen:l.length=m.length
 ·refine ag.cond (v:=false) ?_ (fun h=>by cases h) (fun _=>?_)
  ·dsimp only[Fr.ev,Fr.get,nth,V.look];rw[hlen];simp
  refine ag.skip<|qq<|qq<|qj fun K hK=>qm ?_;refine qn ?_;simp only[List.length_map];refine qm ?_;refine qe hK<|ag.block<|ag.loop (fun mm fr st=>∃(i:Nat),fr.clean=⟨14,[x,y,iT fr 2,iT fr 3,.bool false,iT fr 5,iT fr 6,iT fr 7,iT fr 8,iT fr 9,iT fr 10,iT fr 11,.int .i64 (l.length:Nat),.int .i64 (i:Nat)],[]⟩∧Has s0.bs.length S st []∧(i+mm=l.length)∧(l.take i=m.take i)) (l.length) ?_ ?_
  ·exact⟨0,rfl,hH,by omega,rfl⟩
  rintro mm fr st ⟨i,hfr,hH,hi,ht⟩;rw[hfr];clear hfr;generalize iT fr=ee;clear fr;refine qq<|qj fun K hK=>qg ?_;refine qe hK<|qq ?_;refine ag.cond (by rfl) (fun h1=>?_) (fun h1=>?_)<;>try simp only[decide_eq_true_eq,decide_eq_false_iff_not] at h1
  ·refine ag.skip ?_
   obtain⟨p,hp⟩:∃p,l[i]?=some p:=⟨l[i]'(by omega),List.getElem?_eq_getElem _⟩
   obtain⟨q,hq⟩:∃q,m[i]?=some q:=⟨m[i]'(by omega),List.getElem?_eq_getElem _⟩
   have gN:=hO hp;have rV:=hO hq;refine qq<|ag.block<|qq<|qj fun K hK=>qm ?_;refine qm ?_;refine qe hK<|qq<|qj fun K hK=>qm ?_;refine qm ?_;refine qr fun Qs H_=>?_;refine ae.dj rfl (ev rfl) (by assumption) rfl (aa rfl _) ?_;refine qm ?_;refine qm ?_;refine qr fun Qq Kw=>?_;refine ae.dj rfl (ev rfl) (by assumption) rfl (aa rfl _) ?_;refine ae.RO rfl (ev rfl) (ev rfl) (Bf p q) (aa rfl _) ?_;refine qe hK ?_;refine ag.cond (by rfl) (fun h2=>?_) (fun h2=>?_)<;>try simp only[decide_eq_true_eq,decide_eq_false_iff_not,Bool.not_eq_true',Bool.not_eq_false'] at h2
   ·refine qq<|qj fun K hK=>qm ?_;refine qe hK ?_;rw[decide_eq_false (Bg hp hq (by simpa using h2))];refine ag.ret ⟨rx,_,rfl,rl bf hH (rfl)⟩
   ·refine ag.skip<|qj fun K hK=>qA ?_;refine qm ?_;refine qe hK ?_;exact⟨mm-1,by omega,⟨i+1,rfl,hH,by omega,tT hp hq ht (by simpa using h2)⟩⟩
  ·refine ag.exit<|qq<|qj fun K hK=>qm ?_;refine qe hK ?_;rw[decide_eq_true (by rw[List.take_of_length_le (by omega),List.take_of_length_le (by omega)] at ht;exact ht)];refine ag.ret ⟨rx,_,rfl,rl bf hH (rfl)⟩
 ·refine ag.cond (v:=true) ?_ (fun _=>?_) (fun h=>by cases h)
  ·dsimp only[Fr.ev,Fr.get,nth,V.look];simp;omega
  refine qq<|qj fun K hK=>qm ?_;refine qe hK ?_;rw[decide_eq_false (fun h=>hlen (by rw[h]))];refine ag.ret ⟨rx,_,rfl,rl bf hH (rfl)⟩
theorem CM {s0:St} {x:D} {l:List Rg} (hx:V.Rows s0 2 x (l.map au)) (hl:l.length≤1048576):Ev pv 195 [x] s0 (.bool (nB l)) s0:=by
 refine Ev.jq rfl L8 rfl rfl rfl ?_;dsimp only[u3,u4,List.length,Nat.reduceSub,Nat.reduceAdd,w1,w2];obtain⟨bf,hF,hH⟩:=ri s0;generalize ai .ro s0=S at*;have hx:=Arg.of hx bf;refine qq<|qj fun K hK=>qm ?_;refine qe hK ?_;obtain⟨_,aI,all,rfl,hperm,lC⟩:=uC (hx.rows hH) (by omega);have hM:ft l (all.foldl dv []).reverse:=lM (fun x=>hperm.mem_iff) lC;have hlen:=hperm.length_eq;have jU:=iM l;have hjl:=qL all;rw[A0 hM];refine qq<|qj fun K hK=>qm ?_;refine qm ?_;refine qv (aI) ?_;refine qv (xb (hx.rows hH) (cz _ _) (by omega) (by rw[List.length_reverse];omega)) ?_;refine qm ?_;refine qe hK<|ag.ret ⟨rx,_,rfl,rl bf hH (rfl)⟩
structure aZ where
 op:Int
 x:Int
 y:Int
 rd:D
 rs:List Rg
def c_ (i:aZ):List D:=[.int .i64 i.op,.int .i64 i.x,.int .i64 i.y,i.rd]
def aZ.ok (i:aZ):Prop:=gv i.rd 2 (i.rs.map au)∧i.rs.length≤1048576
def aB (n:Int):List D:=[.int .i64 n]
structure Pg where
 cd:D
 code:List aZ
 sd:D
 bD:List Int
structure Pg.ok (p:Pg):Prop where
 c:gv p.cd 4 (p.code.map c_)
 s:gv p.sd 1 (p.bD.map aB)
 i:∀x∈p.code,x.ok
 cl:p.code.length≤1048576
 sl:p.bD.length≤1048576
def Pg.cs (p:Pg):List D:=[p.cd,p.sd]
def Pg.d (p:Pg):D:=.agg p.cs
theorem zY {l:List aZ} {i:Nat} {q:aZ} (h:l[i]?=some q):(l.map c_)[i]?=some (c_ q):=by rw[List.getElem?_map,h];rfl
theorem iF {l:List Int} {i:Nat} {q:Int} (h:l[i]?=some q):(l.map aB)[i]?=some (aB q):=by rw[List.getElem?_map,h];rfl
def FQ (v n:Int):Bool:=decide (v≥0) &&decide (v<n)
noncomputable def mi (n ns pc:Nat) (i:aZ):Bool:=
 if i.op=1 then i.y==0 &&(decide (((pc+1:Nat):Int)<n) &&i.x==0 &&nB i.rs)
 else i.rs.isEmpty &&
  (if i.op=2 then FQ i.x n &&FQ i.y n
  else i.y==0 &&
   (if i.op=3 then FQ i.x n
   else if i.op=4 then decide (((pc+1:Nat):Int)<n) &&FQ i.x 10
   else if i.op=5∨i.op=6 then decide (((pc+1:Nat):Int)<n) &&i.x==0
   else if i.op=7 then FQ i.x ns
   else false))
def cv (c:Nat):Int×Nat×Nat:=
 if c<128 then(0,0,0) else if c<194 then(-1,0,0) else if c<224 then(1,128,191) else if c=224 then(2,160,191) else if c=237 then(2,128,159)
 else if c<240 then(2,128,191) else if c=240 then(3,144,191) else if c<244 then(3,128,191) else if c=244 then(3,128,143) else(-1,0,0)
theorem FJ (c:Nat) (st:St):Ev pv 198 [.int .u8 c] st (.tup [.int .i64 (cv c).1,.int .u8 (cv c).2.1,.int .u8 (cv c).2.2]) st:=by
 refine Ev.jq rfl L7 rfl rfl rfl ?_;dsimp only[u3,u4,List.length,Nat.reduceSub,Nat.reduceAdd,w1,w2];(try refine qy ?_);(repeat refine qq ?_);(try generalize hK:bk _ _ _ _=K);refine ag.dt ?_;(repeat(first|refine xT ?_|refine xL ?_|refine xN ?_|refine xo ?_|refine xp ?_));refine ae.nil ?_;(try dsimp only[Fr.ay,Fr.put,Fr.clean,Fr.ev,Fr.get,nth,V.look,u1,u2,v1,v2,v3,v4,v5,v6,v7,List.length,u3,u4,Nat.reduceSub,Nat.reduceAdd,List.map]);(try subst hK);(try refine qy ?_);refine ag.seq (ag.block ?_);(try refine qy ?_);(repeat refine qq ?_);(try generalize hK:bk _ _ _ _=K);refine ag.dt ?_;(repeat(first|refine xT ?_|refine xL ?_|refine xN ?_|refine xo ?_|refine xp ?_));refine ae.nil ?_;(try dsimp only[Fr.ay,Fr.put,Fr.clean,Fr.ev,Fr.get,nth,V.look,u1,u2,v1,v2,v3,v4,v5,v6,v7,List.length,u3,u4,Nat.reduceSub,Nat.reduceAdd,List.map]);(try subst hK);(try refine qy ?_);(repeat refine qq ?_);refine qc (fun h1=>?_) (fun h1=>?_)<;>try simp only[cs] at h1
 ·(try refine qy ?_);(repeat refine qq ?_);(try generalize hK:bk _ _ _ _=K);refine ag.dt ?_;(repeat(first|refine xT ?_|refine xL ?_|refine xN ?_|refine xo ?_|refine xp ?_));refine ae.nil ?_;(try dsimp only[Fr.ay,Fr.put,Fr.clean,Fr.ev,Fr.get,nth,V.look,u1,u2,v1,v2,v3,v4,v5,v6,v7,List.length,u3,u4,Nat.reduceSub,Nat.reduceAdd,List.map]);(try subst hK);(try refine qy ?_);refine ag.ret ⟨rx,_,rfl,bz (by simp) (by simp[ai]) ?_⟩;rw[show cv c=(0,0,0) by unfold cv;rw[if_pos (by omega)]];rfl
 (try refine qy ?_);(repeat refine qq ?_);(try generalize hK:bk _ _ _ _=K);refine ag.dt ?_;(repeat(first|refine xT ?_|refine xL ?_|refine xN ?_|refine xo ?_|refine xp ?_));refine ae.nil ?_;(try dsimp only[Fr.ay,Fr.put,Fr.clean,Fr.ev,Fr.get,nth,V.look,u1,u2,v1,v2,v3,v4,v5,v6,v7,List.length,u3,u4,Nat.reduceSub,Nat.reduceAdd,List.map]);(try subst hK);(try refine qy ?_);(repeat refine qq ?_);refine qc (fun h2=>?_) (fun h2=>?_)<;>try simp only[cs] at h2
 ·(try refine qy ?_);(repeat refine qq ?_);(try generalize hK:bk _ _ _ _=K);refine ag.dt ?_;(repeat(first|refine xT ?_|refine xL ?_|refine xN ?_|refine xo ?_|refine xp ?_));refine ae.nil ?_;(try dsimp only[Fr.ay,Fr.put,Fr.clean,Fr.ev,Fr.get,nth,V.look,u1,u2,v1,v2,v3,v4,v5,v6,v7,List.length,u3,u4,Nat.reduceSub,Nat.reduceAdd,List.map]);(try subst hK);(try refine qy ?_);refine ag.ret ⟨rx,_,rfl,bz (by simp) (by simp[ai]) ?_⟩;rw[show cv c=(-1,0,0) by unfold cv;rw[if_neg (by omega),if_pos (by omega)]];rfl
 (try refine qy ?_);(repeat refine qq ?_);(try generalize hK:bk _ _ _ _=K);refine ag.dt ?_;(repeat(first|refine xT ?_|refine xL ?_|refine xN ?_|refine xo ?_|refine xp ?_));refine ae.nil ?_;(try dsimp only[Fr.ay,Fr.put,Fr.clean,Fr.ev,Fr.get,nth,V.look,u1,u2,v1,v2,v3,v4,v5,v6,v7,List.length,u3,u4,Nat.reduceSub,Nat.reduceAdd,List.map]);(try subst hK);(try refine qy ?_);(repeat refine qq ?_);refine qc (fun h3=>?_) (fun h3=>?_)<;>try simp only[cs] at h3
 ·(try refine qy ?_);(repeat refine qq ?_);(try generalize hK:bk _ _ _ _=K);refine ag.dt ?_;(repeat(first|refine xT ?_|refine xL ?_|refine xN ?_|refine xo ?_|refine xp ?_));refine ae.nil ?_;(try dsimp only[Fr.ay,Fr.put,Fr.clean,Fr.ev,Fr.get,nth,V.look,u1,u2,v1,v2,v3,v4,v5,v6,v7,List.length,u3,u4,Nat.reduceSub,Nat.reduceAdd,List.map]);(try subst hK);(try refine qy ?_);refine ag.ret ⟨rx,_,rfl,bz (by simp) (by simp[ai]) ?_⟩;rw[show cv c=(1,128,191) by unfold cv;rw[if_neg (by omega),if_neg (by omega),if_pos (by omega)]];rfl
 (try refine qy ?_);(repeat refine qq ?_);(try generalize hK:bk _ _ _ _=K);refine ag.dt ?_;(repeat(first|refine xT ?_|refine xL ?_|refine xN ?_|refine xo ?_|refine xp ?_));refine ae.nil ?_;(try dsimp only[Fr.ay,Fr.put,Fr.clean,Fr.ev,Fr.get,nth,V.look,u1,u2,v1,v2,v3,v4,v5,v6,v7,List.length,u3,u4,Nat.reduceSub,Nat.reduceAdd,List.map]);(try subst hK);(try refine qy ?_);(repeat refine qq ?_);refine qc (fun h4=>?_) (fun h4=>?_)<;>try simp only[cs] at h4
 ·(try refine qy ?_);(repeat refine qq ?_);(try generalize hK:bk _ _ _ _=K);refine ag.dt ?_;(repeat(first|refine xT ?_|refine xL ?_|refine xN ?_|refine xo ?_|refine xp ?_));refine ae.nil ?_;(try dsimp only[Fr.ay,Fr.put,Fr.clean,Fr.ev,Fr.get,nth,V.look,u1,u2,v1,v2,v3,v4,v5,v6,v7,List.length,u3,u4,Nat.reduceSub,Nat.reduceAdd,List.map]);(try subst hK);(try refine qy ?_);refine ag.ret ⟨rx,_,rfl,bz (by simp) (by simp[ai]) ?_⟩;rw[show cv c=(2,160,191) by unfold cv;rw[if_neg (by omega),if_neg (by omega),if_neg (by omega),if_pos (by omega)]];rfl
 (try refine qy ?_);(repeat refine qq ?_);(try generalize hK:bk _ _ _ _=K);refine ag.dt ?_;(repeat(first|refine xT ?_|refine xL ?_|refine xN ?_|refine xo ?_|refine xp ?_));refine ae.nil ?_;(try dsimp only[Fr.ay,Fr.put,Fr.clean,Fr.ev,Fr.get,nth,V.look,u1,u2,v1,v2,v3,v4,v5,v6,v7,List.length,u3,u4,Nat.reduceSub,Nat.reduceAdd,List.map]);(try subst hK);(try refine qy ?_);(repeat refine qq ?_);refine qc (fun h5=>?_) (fun h5=>?_)<;>try simp only[cs] at h5
 ·(try refine qy ?_);(repeat refine qq ?_);(try generalize hK:bk _ _ _ _=K);refine ag.dt ?_;(repeat(first|refine xT ?_|refine xL ?_|refine xN ?_|refine xo ?_|refine xp ?_));refine ae.nil ?_;(try dsimp only[Fr.ay,Fr.put,Fr.clean,Fr.ev,Fr.get,nth,V.look,u1,u2,v1,v2,v3,v4,v5,v6,v7,List.length,u3,u4,Nat.reduceSub,Nat.reduceAdd,List.map]);(try subst hK);(try refine qy ?_);refine ag.ret ⟨rx,_,rfl,bz (by simp) (by simp[ai]) ?_⟩;rw[show cv c=(2,128,159) by unfold cv;rw[if_neg (by omega),if_neg (by omega),if_neg (by omega),if_neg (by omega),if_pos (by omega)]];rfl
 (try refine qy ?_);(repeat refine qq ?_);(try generalize hK:bk _ _ _ _=K);refine ag.dt ?_;(repeat(first|refine xT ?_|refine xL ?_|refine xN ?_|refine xo ?_|refine xp ?_));refine ae.nil ?_;(try dsimp only[Fr.ay,Fr.put,Fr.clean,Fr.ev,Fr.get,nth,V.look,u1,u2,v1,v2,v3,v4,v5,v6,v7,List.length,u3,u4,Nat.reduceSub,Nat.reduceAdd,List.map]);(try subst hK);(try refine qy ?_);(repeat refine qq ?_);refine qc (fun h6=>?_) (fun h6=>?_)<;>try simp only[cs] at h6
 ·(try refine qy ?_);(repeat refine qq ?_);(try generalize hK:bk _ _ _ _=K);refine ag.dt ?_;(repeat(first|refine xT ?_|refine xL ?_|refine xN ?_|refine xo ?_|refine xp ?_));refine ae.nil ?_;(try dsimp only[Fr.ay,Fr.put,Fr.clean,Fr.ev,Fr.get,nth,V.look,u1,u2,v1,v2,v3,v4,v5,v6,v7,List.length,u3,u4,Nat.reduceSub,Nat.reduceAdd,List.map]);(try subst hK);(try refine qy ?_);refine ag.ret ⟨rx,_,rfl,bz (by simp) (by simp[ai]) ?_⟩;rw[show cv c=(2,128,191) by unfold cv;rw[if_neg (by omega),if_neg (by omega),if_neg (by omega),if_neg (by omega),if_neg (by omega),if_pos (by omega)]];rfl
 (try refine qy ?_);(repeat refine qq ?_);(try generalize hK:bk _ _ _ _=K);refine ag.dt ?_;(repeat(first|refine xT ?_|refine xL ?_|refine xN ?_|refine xo ?_|refine xp ?_));refine ae.nil ?_;(try dsimp only[Fr.ay,Fr.put,Fr.clean,Fr.ev,Fr.get,nth,V.look,u1,u2,v1,v2,v3,v4,v5,v6,v7,List.length,u3,u4,Nat.reduceSub,Nat.reduceAdd,List.map]);(try subst hK);(try refine qy ?_);(repeat refine qq ?_);refine qc (fun h7=>?_) (fun h7=>?_)<;>try simp only[cs] at h7
 ·(try refine qy ?_);(repeat refine qq ?_);(try generalize hK:bk _ _ _ _=K);refine ag.dt ?_;(repeat(first|refine xT ?_|refine xL ?_|refine xN ?_|refine xo ?_|refine xp ?_));refine ae.nil ?_;(try dsimp only[Fr.ay,Fr.put,Fr.clean,Fr.ev,Fr.get,nth,V.look,u1,u2,v1,v2,v3,v4,v5,v6,v7,List.length,u3,u4,Nat.reduceSub,Nat.reduceAdd,List.map]);(try subst hK);(try refine qy ?_);refine ag.ret ⟨rx,_,rfl,bz (by simp) (by simp[ai]) ?_⟩;rw[show cv c=(3,144,191) by unfold cv;rw[if_neg (by omega),if_neg (by omega),if_neg (by omega),if_neg (by omega),if_neg (by omega),if_neg (by omega),if_pos (by omega)]];rfl
 (try refine qy ?_);(repeat refine qq ?_);(try generalize hK:bk _ _ _ _=K);refine ag.dt ?_;(repeat(first|refine xT ?_|refine xL ?_|refine xN ?_|refine xo ?_|refine xp ?_));refine ae.nil ?_;(try dsimp only[Fr.ay,Fr.put,Fr.clean,Fr.ev,Fr.get,nth,V.look,u1,u2,v1,v2,v3,v4,v5,v6,v7,List.length,u3,u4,Nat.reduceSub,Nat.reduceAdd,List.map]);(try subst hK);(try refine qy ?_);(repeat refine qq ?_);refine qc (fun h8=>?_) (fun h8=>?_)<;>try simp only[cs] at h8
 ·(try refine qy ?_);(repeat refine qq ?_);(try generalize hK:bk _ _ _ _=K);refine ag.dt ?_;(repeat(first|refine xT ?_|refine xL ?_|refine xN ?_|refine xo ?_|refine xp ?_));refine ae.nil ?_;(try dsimp only[Fr.ay,Fr.put,Fr.clean,Fr.ev,Fr.get,nth,V.look,u1,u2,v1,v2,v3,v4,v5,v6,v7,List.length,u3,u4,Nat.reduceSub,Nat.reduceAdd,List.map]);(try subst hK);(try refine qy ?_);refine ag.ret ⟨rx,_,rfl,bz (by simp) (by simp[ai]) ?_⟩;rw[show cv c=(3,128,191) by unfold cv;rw[if_neg (by omega),if_neg (by omega),if_neg (by omega),if_neg (by omega),if_neg (by omega),if_neg (by omega),if_neg (by omega),if_pos (by omega)]];rfl
 (try refine qy ?_);(repeat refine qq ?_);(try generalize hK:bk _ _ _ _=K);refine ag.dt ?_;(repeat(first|refine xT ?_|refine xL ?_|refine xN ?_|refine xo ?_|refine xp ?_));refine ae.nil ?_;(try dsimp only[Fr.ay,Fr.put,Fr.clean,Fr.ev,Fr.get,nth,V.look,u1,u2,v1,v2,v3,v4,v5,v6,v7,List.length,u3,u4,Nat.reduceSub,Nat.reduceAdd,List.map]);(try subst hK);(try refine qy ?_);(repeat refine qq ?_);refine qc (fun h9=>?_) (fun h9=>?_)<;>try simp only[cs] at h9
 ·(try refine qy ?_);(repeat refine qq ?_);(try generalize hK:bk _ _ _ _=K);refine ag.dt ?_;(repeat(first|refine xT ?_|refine xL ?_|refine xN ?_|refine xo ?_|refine xp ?_));refine ae.nil ?_;(try dsimp only[Fr.ay,Fr.put,Fr.clean,Fr.ev,Fr.get,nth,V.look,u1,u2,v1,v2,v3,v4,v5,v6,v7,List.length,u3,u4,Nat.reduceSub,Nat.reduceAdd,List.map]);(try subst hK);(try refine qy ?_);refine ag.ret ⟨rx,_,rfl,bz (by simp) (by simp[ai]) ?_⟩;rw[show cv c=(3,128,143) by unfold cv;rw[if_neg (by omega),if_neg (by omega),if_neg (by omega),if_neg (by omega),if_neg (by omega),if_neg (by omega),if_neg (by omega),if_neg (by omega),if_pos (by omega)]];rfl
 refine ag.skip ?_;(try refine qy ?_);(repeat refine qq ?_);(try generalize hK:bk _ _ _ _=K);refine ag.dt ?_;(repeat(first|refine xT ?_|refine xL ?_|refine xN ?_|refine xo ?_|refine xp ?_));refine ae.nil ?_;(try dsimp only[Fr.ay,Fr.put,Fr.clean,Fr.ev,Fr.get,nth,V.look,u1,u2,v1,v2,v3,v4,v5,v6,v7,List.length,u3,u4,Nat.reduceSub,Nat.reduceAdd,List.map]);(try subst hK);(try refine qy ?_);refine ag.ret ⟨rx,_,rfl,bz (by simp) (by simp[ai]) ?_⟩;rw[show cv c=(-1,0,0) by unfold cv;rw[if_neg (by omega),if_neg (by omega),if_neg (by omega),if_neg (by omega),if_neg (by omega),if_neg (by omega),if_neg (by omega),if_neg (by omega),if_neg (by omega)]];rfl
def je:(left n r lo hi:Nat)→List UInt8→Nat×Nat×Bool
 |0,n,r,_,_,_=>(r,n,false)
 |left+1,n,r,lo,hi,[]=>(0,0,true)
 |left+1,n,r,lo,hi,x::xs=>if x.toNat<lo∨hi<x.toNat then(0,0,false) else je left n (r*64+x.toNat %64) 128 191 xs
def ir:List UInt8→Nat×Nat×Bool
 |[]=>(0,0,false)
 |c::xs=>if(cv c.toNat).1<0 then(0,0,false)
   else je (cv c.toNat).1.toNat ((cv c.toNat).1.toNat+1) (if(cv c.toNat).1>0 then c.toNat %(64/2^(cv c.toNat).1.toNat) else c.toNat) (cv c.toNat).2.1 (cv c.toNat).2.2 xs
theorem wo (c:Nat):(cv c).1=-1∨(cv c).1=0∨(cv c).1=1∨(cv c).1=2∨(cv c).1=3:=by
 unfold cv
 repeat' split
 all_goals simp
theorem AB {w a j:Nat} (ha:a<2^w) (hj:2^j-1<2^w):(BitVec.ofInt w (a:Int) &&&BitVec.ofInt w ((2^j-1:Nat):Int)).toNat=a %2^j:=by
 rw[bv_and ha hj,Nat.and_two_pow_sub_one_eq_mod]
theorem gA (b:List UInt8):(V.byteCells b).length=b.length:=by simp[V.byteCells]
theorem sr {b:List UInt8} {i:Nat} {y:UInt8} (h:b[i]?=some y):(V.byteCells b)[i]?=some [.int .u8 (y.toNat:Nat)]:=by
 simp[V.byteCells,h]
theorem GP (y:UInt8):y.toNat<256:=y.toNat_lt
theorem NA {r y:Nat} (hr:r<33554432) (hy:y<256):bu .i32 ((BitVec.ofInt 32 (bu .i32 ((r:Int)*2^(min (Int.toNat 6) 32)))|||BitVec.ofInt 32 (bu .i32 (bu .u8 ((BitVec.ofInt 8 (y:Int) &&&BitVec.ofInt 8 63).toNat:Nat)))).toNat:Nat)=((r*64+y %64:Nat):Int):=by
 have h1:(BitVec.ofInt 8 (y:Int) &&&BitVec.ofInt 8 63).toNat=y %64:=AB (w:=8) (j:=6) hy (by decide);rw[h1]
 have h2:((r:Int)*2^(min (Int.toNat 6) 32))=((r*64:Nat):Int):=by
  have:(2:Int)^(min (Int.toNat 6) 32)=64:=by decide
  rw[this];simp
 rw[h2,eu (k:=.i32) (m:=r*64) (by simp only[k_];omega),eu (k:=.u8) (m:=y %64) (by simp only[k_];omega),eu (k:=.i32) (m:=y %64) (by simp only[k_];omega)];rw[MF (by omega) (by omega)]
 have h3:(r*64)|||(y %64)=r*64+y %64:=by
  have:=Nat.two_pow_add_eq_or_of_lt (i:=6) (b:=y %64) (by omega) r;have e:(2:Nat)^6=64:=by decide
  rw[e] at this;rw[Nat.mul_comm r 64,this]
 rw[h3,eu (k:=.i32) (m:=r*64+y %64) (by simp only[k_];omega)]
theorem J9 {c j:Nat} (hc:c<256) (hj:j≤8) {m:Int} (hm:m=((2^j-1:Nat):Int)):bu .i32 ((BitVec.ofInt 32 (bu .i32 (c:Nat)) &&&BitVec.ofInt 32 m).toNat:Nat)=((c %2^j:Nat):Int):=by
 have h1:2^j≤2^8:=Nat.pow_le_pow_right (by omega) hj;rw[hm,eu (k:=.i32) (m:=c) (by simp only[k_];omega),AB (w:=32) (by omega) (by omega)];have:c %2^j≤c:=Nat.mod_le _ _;rw[eu (k:=.i32) (by simp only[k_];omega)]
theorem mask {c j:Nat} (hc:c<256) (hj:j≤8) {m:Int} (hm:m=((2^j-1:Nat):Int)):bu .i32 ((BitVec.ofInt IntKind.i32.bits (bu .i32 (c:Nat)) &&&BitVec.ofInt IntKind.i32.bits m).toNat:Nat)=((c %2^j:Nat):Int):=J9 hc hj hm
theorem Rr {r y:Nat} (hr:r<33554432) (hy:y<256):bu .i32 ((BitVec.ofInt IntKind.i32.bits (bu .i32 ((r:Int)*2^(min (Int.toNat 6) IntKind.i32.bits)))|||BitVec.ofInt IntKind.i32.bits (bu .i32 (bu .u8 ((BitVec.ofInt IntKind.u8.bits (y:Int) &&&BitVec.ofInt IntKind.u8.bits 63).toNat:Nat)))).toNat:Nat)=((r*64+y %64:Nat):Int):=NA hr hy
theorem Ed {st:St} {x:D} {b:List UInt8} (hb:Bytes st x b):Ev pv 148 [x] st (.tup [.int .i32 ((ir b).1:Nat),.int .i64 ((ir b).2.1:Nat),.bool (ir b).2.2]) st:=by
 refine Ev.jq rfl Mj rfl rfl rfl ?_;dsimp only[u3,u4,List.length,Nat.reduceSub,Nat.reduceAdd,w1,w2];have fm:=hb.enter .ro;(try refine qy ?_);(repeat refine qq ?_);(try generalize hK:bk _ _ _ _=K);refine ag.dt ?_;(repeat(first|refine xT ?_|refine xL ?_|refine xN ?_|refine xo ?_|refine xp ?_));refine ae.nil ?_;(try dsimp only[Fr.ay,Fr.put,Fr.clean,Fr.ev,Fr.get,nth,V.look,u1,u2,v1,v2,v3,v4,v5,v6,v7,List.length,u3,u4,Nat.reduceSub,Nat.reduceAdd,List.map]);(try subst hK);(try refine qy ?_);(repeat refine qq ?_);(try generalize hK:bk _ _ _ _=K);refine ag.dt ?_
 (first|refine xT ?_|refine xL ?_|refine xN ?_|refine xo ?_|refine xp ?_)
 refine ae.len rfl rfl rfl fm rfl ?_;(repeat(first|refine xT ?_|refine xL ?_|refine xN ?_|refine xo ?_|refine xp ?_));refine ae.nil ?_;(try dsimp only[Fr.ay,Fr.put,Fr.clean,Fr.ev,Fr.get,nth,V.look,u1,u2,v1,v2,v3,v4,v5,v6,v7,List.length,u3,u4,Nat.reduceSub,Nat.reduceAdd,List.map]);(try subst hK);(try refine qy ?_);(repeat refine qq ?_);refine qc (fun h1=>?_) (fun h1=>?_)<;>try simp only[cs] at h1
 ·(try refine qy ?_);(repeat refine qq ?_);(try generalize hK:bk _ _ _ _=K);refine ag.dt ?_;(repeat(first|refine xT ?_|refine xL ?_|refine xN ?_|refine xo ?_|refine xp ?_));refine ae.nil ?_;(try dsimp only[Fr.ay,Fr.put,Fr.clean,Fr.ev,Fr.get,nth,V.look,u1,u2,v1,v2,v3,v4,v5,v6,v7,List.length,u3,u4,Nat.reduceSub,Nat.reduceAdd,List.map]);(try subst hK);(try refine qy ?_);refine ag.ret ⟨rx,_,rfl,bz (by simp) (by simp[ai]) ?_⟩
  obtain rfl:b=[]:=by cases b with|nil=>rfl|cons c b=>simp[V.byteCells] at h1;omega
  rfl
 refine ag.skip ?_
 obtain⟨c,xs,rfl⟩:∃c xs,b=c::xs:=by cases b with|nil=>simp[V.byteCells] at h1|cons c b=>exact⟨c,b,rfl⟩
 obtain⟨k,lo,hi,hm⟩:∃k lo hi,cv c.toNat=(k,lo,hi):=⟨_,_,_,rfl⟩
 have OR:=FJ c.toNat (ai .ro st);rw[hm] at OR;have hk:=wo c.toNat;rw[hm] at hk;have hc:=GP c;(try refine qy ?_);(repeat refine qq ?_);(try generalize hK:bk _ _ _ _=K);refine ag.dt ?_
 (first|refine xT ?_|refine xL ?_|refine xN ?_|refine xo ?_|refine xp ?_)
 refine ae.iG rfl rfl rfl (fun _=>rfl) rfl rfl fm rfl rfl (by omega) rfl rfl (fun p=>?_);refine ae.Ha rfl rfl rfl OR ?_;(repeat(first|refine xT ?_|refine xL ?_|refine xN ?_|refine xo ?_|refine xp ?_));refine ae.nil ?_;(try dsimp only[Fr.ay,Fr.put,Fr.clean,Fr.ev,Fr.get,nth,V.look,u1,u2,v1,v2,v3,v4,v5,v6,v7,List.length,u3,u4,Nat.reduceSub,Nat.reduceAdd,List.map]);(try subst hK);(try refine qy ?_);(repeat refine qq ?_);(try generalize hK:bk _ _ _ _=K);refine ag.dt ?_;(repeat(first|refine xT ?_|refine xL ?_|refine xN ?_|refine xo ?_|refine xp ?_));refine ae.nil ?_;(try dsimp only[Fr.ay,Fr.put,Fr.clean,Fr.ev,Fr.get,nth,V.look,u1,u2,v1,v2,v3,v4,v5,v6,v7,List.length,u3,u4,Nat.reduceSub,Nat.reduceAdd,List.map]);(try subst hK);(try refine qy ?_);(repeat refine qq ?_);refine qc (fun h2=>?_) (fun h2=>?_)<;>try simp only[cs] at h2
 ·(try refine qy ?_);(repeat refine qq ?_);(try generalize hK:bk _ _ _ _=K);refine ag.dt ?_;(repeat(first|refine xT ?_|refine xL ?_|refine xN ?_|refine xo ?_|refine xp ?_));refine ae.nil ?_;(try dsimp only[Fr.ay,Fr.put,Fr.clean,Fr.ev,Fr.get,nth,V.look,u1,u2,v1,v2,v3,v4,v5,v6,v7,List.length,u3,u4,Nat.reduceSub,Nat.reduceAdd,List.map]);(try subst hK);(try refine qy ?_);refine ag.ret ⟨rx,_,rfl,bz (by simp) (by simp[ai]) ?_⟩;simp only[ir,hm];rw[if_pos h2];rfl
 refine ag.skip ?_;(try refine qy ?_);(repeat refine qq ?_);(try generalize hK:bk _ _ _ _=K);refine ag.dt ?_
 (first|refine xT ?_|refine xL ?_|refine xN ?_|refine xo ?_|refine xp ?_)
 refine ae.iG rfl rfl rfl (fun _=>rfl) rfl rfl fm rfl rfl (by omega) rfl rfl (fun p=>?_);(repeat(first|refine xT ?_|refine xL ?_|refine xN ?_|refine xo ?_|refine xp ?_));refine ae.nil ?_;(try dsimp only[Fr.ay,Fr.put,Fr.clean,Fr.ev,Fr.get,nth,V.look,u1,u2,v1,v2,v3,v4,v5,v6,v7,List.length,u3,u4,Nat.reduceSub,Nat.reduceAdd,List.map]);(try subst hK);(try refine qy ?_);(repeat refine qq ?_);(try generalize hK:bk _ _ _ _=K);refine ag.dt ?_;(repeat(first|refine xT ?_|refine xL ?_|refine xN ?_|refine xo ?_|refine xp ?_));refine ae.nil ?_;(try dsimp only[Fr.ay,Fr.put,Fr.clean,Fr.ev,Fr.get,nth,V.look,u1,u2,v1,v2,v3,v4,v5,v6,v7,List.length,u3,u4,Nat.reduceSub,Nat.reduceAdd,List.map]);(try subst hK);(try refine qy ?_);generalize hK:bk _ _ _ _=K
 have H:∀(r kn:Nat) (m:List (Nat×D)),k=(kn:Int)→r=(if k>0 then c.toNat %(64/2^k.toNat) else c.toNat)→(r+1)*64^kn≤2097152→K .next ⟨9,[x,.tup [],.int .i32 r,.int .i64 0,.bool false,.int .i64 k,.int .u8 lo,.int .u8 hi,.tup []],m⟩ (ai .ro st):=by
  intro r kn m hkn hr rV
  have hR:ir (c::xs)=je kn (kn+1) r lo hi xs:=by
   simp only[ir,hm];rw[if_neg h2,hr,hkn];rfl
  subst hK;rw[hR];generalize hS:je kn (kn+1) r lo hi xs=R at hR⊢;subst hkn;(try refine qy ?_);(repeat refine qq ?_);(try generalize hK:bk _ _ _ _=K);refine ag.dt ?_;(repeat(first|refine xT ?_|refine xL ?_|refine xN ?_|refine xo ?_|refine xp ?_));refine ae.nil ?_;(try dsimp only[Fr.ay,Fr.put,Fr.clean,Fr.ev,Fr.get,nth,V.look,u1,u2,v1,v2,v3,v4,v5,v6,v7,List.length,u3,u4,Nat.reduceSub,Nat.reduceAdd,List.map]);(try subst hK);(try refine qy ?_);refine ag.block<|ag.loop (fun j fr ah=>∃(i r lo hi:Nat),fr.clean=⟨9,[x,.tup [],.int .i32 r,.int .i64 0,.bool false,.int .i64 kn,.int .u8 lo,.int .u8 hi,.int .i64 (i:Nat)],[]⟩∧ah=ai .ro st∧1≤i∧i+j=kn+1∧je j (kn+1) r lo hi (xs.drop (i-1))=R∧(r+1)*64^j≤2097152) kn ⟨1,r,lo,hi,rfl,rfl,by omega,by omega,hS,rV⟩ ?_;clear hr rV hS r hm OR m;rintro j fr ah ⟨i,r,lo,hi,hfr,rfl,Ph,hij,hS,rV⟩;rw[hfr];(try refine qy ?_);(repeat refine qq ?_);(try generalize hK:bk _ _ _ _=K);refine ag.dt ?_;(repeat(first|refine xT ?_|refine xL ?_|refine xN ?_|refine xo ?_|refine xp ?_));refine ae.nil ?_;(try dsimp only[Fr.ay,Fr.put,Fr.clean,Fr.ev,Fr.get,nth,V.look,u1,u2,v1,v2,v3,v4,v5,v6,v7,List.length,u3,u4,Nat.reduceSub,Nat.reduceAdd,List.map]);(try subst hK);(try refine qy ?_);(repeat refine qq ?_);refine qc (fun h4=>?_) (fun h4=>?_)<;>try simp only[cs] at h4
  ·refine ag.skip ?_
   obtain⟨j,rfl⟩:∃j',j=j'+1:=⟨j-1,by omega⟩
   refine ag.seq (ag.block ?_);(try refine qy ?_);(repeat refine qq ?_);(try generalize hK:bk _ _ _ _=K);refine ag.dt ?_
   (first|refine xT ?_|refine xL ?_|refine xN ?_|refine xo ?_|refine xp ?_)
   (first|refine xT ?_|refine xL ?_|refine xN ?_|refine xo ?_|refine xp ?_)
   refine ae.len rfl rfl rfl fm rfl ?_;(repeat(first|refine xT ?_|refine xL ?_|refine xN ?_|refine xo ?_|refine xp ?_));refine ae.nil ?_;(try dsimp only[Fr.ay,Fr.put,Fr.clean,Fr.ev,Fr.get,nth,V.look,u1,u2,v1,v2,v3,v4,v5,v6,v7,List.length,u3,u4,Nat.reduceSub,Nat.reduceAdd,List.map]);(try subst hK);(try refine qy ?_)
   have B':(xs.drop (i-1))=[]∨∃y ys,xs.drop (i-1)=y::ys:=by
    cases xs.drop (i-1) with
    |nil=>exact .inl rfl
    |cons y ys=>exact .inr ⟨y,ys,rfl⟩
   have MZ:(xs.drop (i-1)).length=xs.length-(i-1):=List.length_drop ..;have hbl:(V.byteCells (c::xs)).length=xs.length+1:=by simp[V.byteCells]
   (try refine qy ?_);(repeat refine qq ?_);refine qc (fun h5=>?_) (fun h5=>?_)<;>try simp only[cs] at h5
   ·(try refine qy ?_);(repeat refine qq ?_);(try generalize hK:bk _ _ _ _=K);refine ag.dt ?_;(repeat(first|refine xT ?_|refine xL ?_|refine xN ?_|refine xo ?_|refine xp ?_));refine ae.nil ?_;(try dsimp only[Fr.ay,Fr.put,Fr.clean,Fr.ev,Fr.get,nth,V.look,u1,u2,v1,v2,v3,v4,v5,v6,v7,List.length,u3,u4,Nat.reduceSub,Nat.reduceAdd,List.map]);(try subst hK);(try refine qy ?_);refine ag.ret ⟨rx,_,rfl,bz (by simp) (by simp[ai]) ?_⟩
    rcases B' with B'|⟨y,ys,B'⟩
    ·rw[B'] at hS;simp only[je] at hS;subst hS;rfl
    ·rw[B'] at MZ;simp only[List.length_cons] at MZ;omega
   refine ag.skip ?_
   rcases B' with B'|⟨y,ys,B'⟩
   ·rw[B'] at MZ;simp only[List.length_nil] at MZ;omega
   have hy:(c::xs)[i]?=some y:=by
    obtain⟨i,rfl⟩:∃i',i=i'+1:=⟨i-1,by omega⟩
    have:=congrArg (fun l=>l[0]?) B'
    simpa using this
   have jS:xs.drop (i+1-1)=ys:=by
    have:=congrArg (fun l=>l.drop 1) B';simp only[List.drop_drop,List.drop_succ_cons,List.drop_zero] at this;rw[←this];congr 1;omega
   have N0:=sr hy;have RV:=GP y;rw[B'] at hS;simp only[je] at hS;(try refine qy ?_);(repeat refine qq ?_);(try generalize hK:bk _ _ _ _=K);refine ag.dt ?_
   (first|refine xT ?_|refine xL ?_|refine xN ?_|refine xo ?_|refine xp ?_)
   (first|refine xT ?_|refine xL ?_|refine xN ?_|refine xo ?_|refine xp ?_)
   refine ae.iG rfl rfl rfl (fun _=>rfl) rfl rfl fm rfl rfl (by omega) N0 rfl (fun p=>?_)
   (first|refine xT ?_|refine xL ?_|refine xN ?_|refine xo ?_|refine xp ?_)
   (first|refine xT ?_|refine xL ?_|refine xN ?_|refine xo ?_|refine xp ?_)
   (first|refine xT ?_|refine xL ?_|refine xN ?_|refine xo ?_|refine xp ?_)
   by_cases yP:(y.toNat:Int)<(lo:Int)
   ·rw[decide_eq_true yP];(repeat(first|refine xT ?_|refine xL ?_|refine xN ?_|refine xo ?_|refine xp ?_));refine ae.nil ?_;(try dsimp only[Fr.ay,Fr.put,Fr.clean,Fr.ev,Fr.get,nth,V.look,u1,u2,v1,v2,v3,v4,v5,v6,v7,List.length,u3,u4,Nat.reduceSub,Nat.reduceAdd,List.map]);(try subst hK);(try refine qy ?_);refine ag.cond (v:=true) rfl (fun _=>?_) (fun h=>by cases h);(try refine qy ?_);(repeat refine qq ?_);(try generalize hK:bk _ _ _ _=K);refine ag.dt ?_;(repeat(first|refine xT ?_|refine xL ?_|refine xN ?_|refine xo ?_|refine xp ?_));refine ae.nil ?_;(try dsimp only[Fr.ay,Fr.put,Fr.clean,Fr.ev,Fr.get,nth,V.look,u1,u2,v1,v2,v3,v4,v5,v6,v7,List.length,u3,u4,Nat.reduceSub,Nat.reduceAdd,List.map]);(try subst hK);(try refine qy ?_);refine ag.ret ⟨rx,_,rfl,bz (by simp) (by simp[ai]) ?_⟩;rw[if_pos (.inl (by omega))] at hS;subst hS;rfl
   rw[decide_eq_false yP]
   (first|refine xT ?_|refine xL ?_|refine xN ?_|refine xo ?_|refine xp ?_)
   (first|refine xT ?_|refine xL ?_|refine xN ?_|refine xo ?_|refine xp ?_)
   refine ae.iG rfl rfl rfl (fun _=>rfl) rfl rfl fm rfl rfl (by omega) N0 rfl (fun p=>?_);(repeat(first|refine xT ?_|refine xL ?_|refine xN ?_|refine xo ?_|refine xp ?_));refine ae.nil ?_;(try dsimp only[Fr.ay,Fr.put,Fr.clean,Fr.ev,Fr.get,nth,V.look,u1,u2,v1,v2,v3,v4,v5,v6,v7,List.length,u3,u4,Nat.reduceSub,Nat.reduceAdd,List.map]);(try subst hK);(try refine qy ?_);(repeat refine qq ?_);refine qc (fun h6=>?_) (fun h6=>?_)<;>try simp only[cs] at h6
   ·(try refine qy ?_);(repeat refine qq ?_);(try generalize hK:bk _ _ _ _=K);refine ag.dt ?_;(repeat(first|refine xT ?_|refine xL ?_|refine xN ?_|refine xo ?_|refine xp ?_));refine ae.nil ?_;(try dsimp only[Fr.ay,Fr.put,Fr.clean,Fr.ev,Fr.get,nth,V.look,u1,u2,v1,v2,v3,v4,v5,v6,v7,List.length,u3,u4,Nat.reduceSub,Nat.reduceAdd,List.map]);(try subst hK);(try refine qy ?_);refine ag.ret ⟨rx,_,rfl,bz (by simp) (by simp[ai]) ?_⟩;rw[if_pos (.inr (by omega))] at hS;subst hS;rfl
   refine ag.skip ?_;rw[if_neg (by omega)] at hS;(try refine qy ?_);(repeat refine qq ?_);(try generalize hK:bk _ _ _ _=K);refine ag.dt ?_
   (first|refine xT ?_|refine xL ?_|refine xN ?_|refine xo ?_|refine xp ?_)
   (first|refine xT ?_|refine xL ?_|refine xN ?_|refine xo ?_|refine xp ?_)
   (first|refine xT ?_|refine xL ?_|refine xN ?_|refine xo ?_|refine xp ?_)
   (first|refine xT ?_|refine xL ?_|refine xN ?_|refine xo ?_|refine xp ?_)
   refine ae.iG rfl rfl rfl (fun _=>rfl) rfl rfl fm rfl rfl (by omega) N0 rfl (fun p=>?_);(repeat(first|refine xT ?_|refine xL ?_|refine xN ?_|refine xo ?_|refine xp ?_));refine ae.nil ?_;(try dsimp only[Fr.ay,Fr.put,Fr.clean,Fr.ev,Fr.get,nth,V.look,u1,u2,v1,v2,v3,v4,v5,v6,v7,List.length,u3,u4,Nat.reduceSub,Nat.reduceAdd,List.map]);(try subst hK);(try refine qy ?_);have UI:r+1≤(r+1)*64^(j+1):=Nat.le_mul_of_pos_right _ (Nat.pow_pos (by omega));rw[Rr (by omega) RV];(try refine qy ?_);(repeat refine qq ?_);(try generalize hK:bk _ _ _ _=K);refine ag.dt ?_;(repeat(first|refine xT ?_|refine xL ?_|refine xN ?_|refine xo ?_|refine xp ?_));refine ae.nil ?_;(try dsimp only[Fr.ay,Fr.put,Fr.clean,Fr.ev,Fr.get,nth,V.look,u1,u2,v1,v2,v3,v4,v5,v6,v7,List.length,u3,u4,Nat.reduceSub,Nat.reduceAdd,List.map]);(try subst hK);(try refine qy ?_);(repeat refine qq ?_);(try generalize hK:bk _ _ _ _=K);refine ag.dt ?_;(repeat(first|refine xT ?_|refine xL ?_|refine xN ?_|refine xo ?_|refine xp ?_));refine ae.nil ?_;(try dsimp only[Fr.ay,Fr.put,Fr.clean,Fr.ev,Fr.get,nth,V.look,u1,u2,v1,v2,v3,v4,v5,v6,v7,List.length,u3,u4,Nat.reduceSub,Nat.reduceAdd,List.map]);(try subst hK);(try refine qy ?_);rw[wrap_i64 (by omega) (by omega)];refine⟨j,by omega,i+1,_,_,_,rfl,rfl,by omega,by omega,by rw[jS];exact hS,?_⟩;have e1:(r*64+y.toNat %64+1)≤(r+1)*64:=by omega
   have e2:=Nat.mul_le_mul_right (64^j) e1;have e3:64*64^j=64^(j+1):=by rw[Nat.pow_succ,Nat.mul_comm]
   rw[Nat.mul_assoc,e3] at e2;omega
  ·refine ag.exit ?_;have:j=0:=by omega
   subst this;simp only[je] at hS;subst hS;(try refine qy ?_);(repeat refine qq ?_);(try generalize hK:bk _ _ _ _=K);refine ag.dt ?_;(repeat(first|refine xT ?_|refine xL ?_|refine xN ?_|refine xo ?_|refine xp ?_));refine ae.nil ?_;(try dsimp only[Fr.ay,Fr.put,Fr.clean,Fr.ev,Fr.get,nth,V.look,u1,u2,v1,v2,v3,v4,v5,v6,v7,List.length,u3,u4,Nat.reduceSub,Nat.reduceAdd,List.map]);(try subst hK);(try refine qy ?_);refine ag.ret ⟨rx,_,rfl,bz (by simp) (by simp[ai]) ?_⟩;rw[wrap_i64 (by omega) (by omega)];rfl
 rcases hk with hk|hk|hk|hk|hk
 ·omega
 ·subst hk;refine ag.cond (v:=false) rfl (fun h=>by cases h) fun _=>ag.skip ?_;rw[eu (by simp only[k_];omega)];exact H _ 0 _ rfl rfl (by omega)
 ·subst hk;refine ag.cond (v:=true) rfl (fun _=>?_) (fun h=>by cases h);refine ag.dt ?_
  (first|refine xT ?_|refine xL ?_|refine xN ?_|refine xo ?_|refine xp ?_)
  refine ae.iG rfl rfl rfl (fun _=>rfl) rfl rfl fm rfl rfl (by omega) rfl rfl (fun p=>?_);(repeat(first|refine xT ?_|refine xL ?_|refine xN ?_|refine xo ?_|refine xp ?_));refine ae.nil ?_;(try dsimp only[Fr.ay,Fr.put,Fr.clean,Fr.ev,Fr.get,nth,V.look,u1,u2,v1,v2,v3,v4,v5,v6,v7,List.length,u3,u4,Nat.reduceSub,Nat.reduceAdd,List.map]);rw[mask (j:=5) hc (by omega)]
  ·exact H _ 1 _ rfl rfl (by omega)
  ·decide
 ·subst hk;refine ag.cond (v:=true) rfl (fun _=>?_) (fun h=>by cases h);refine ag.dt ?_
  (first|refine xT ?_|refine xL ?_|refine xN ?_|refine xo ?_|refine xp ?_)
  refine ae.iG rfl rfl rfl (fun _=>rfl) rfl rfl fm rfl rfl (by omega) rfl rfl (fun p=>?_);(repeat(first|refine xT ?_|refine xL ?_|refine xN ?_|refine xo ?_|refine xp ?_));refine ae.nil ?_;(try dsimp only[Fr.ay,Fr.put,Fr.clean,Fr.ev,Fr.get,nth,V.look,u1,u2,v1,v2,v3,v4,v5,v6,v7,List.length,u3,u4,Nat.reduceSub,Nat.reduceAdd,List.map]);rw[mask (j:=4) hc (by omega)]
  ·exact H _ 2 _ rfl rfl (by omega)
  ·decide
 ·subst hk;refine ag.cond (v:=true) rfl (fun _=>?_) (fun h=>by cases h);refine ag.dt ?_
  (first|refine xT ?_|refine xL ?_|refine xN ?_|refine xo ?_|refine xp ?_)
  refine ae.iG rfl rfl rfl (fun _=>rfl) rfl rfl fm rfl rfl (by omega) rfl rfl (fun p=>?_);(repeat(first|refine xT ?_|refine xL ?_|refine xN ?_|refine xo ?_|refine xp ?_));refine ae.nil ?_;(try dsimp only[Fr.ay,Fr.put,Fr.clean,Fr.ev,Fr.get,nth,V.look,u1,u2,v1,v2,v3,v4,v5,v6,v7,List.length,u3,u4,Nat.reduceSub,Nat.reduceAdd,List.map]);rw[mask (j:=3) hc (by omega)]
  ·exact H _ 3 _ rfl rfl (by omega)
  ·decide
def jg (b:List UInt8):Nat×Nat:=if(ir b).2.1=0 then(65533,1) else((ir b).1,(ir b).2.1)
def B6:Nat→List UInt8→List (Nat×Nat)
 |0,_=>[]
 |_+1,[]=>[]
 |n+1,b=>jg b::B6 n (b.drop (jg b).2)
def oe (b:List UInt8):List (Nat×Nat):=B6 b.length b
theorem mr (b:List UInt8):1≤(jg b).2:=by
 unfold jg;split
 ·simp
 ·simp only;omega
theorem og : ∀ (n : Nat) (b : List UInt8), b.length ≤ n → B6 n b = oe b
 | 0, [], _ => rfl
 | 0, _ :: _, h => by simp at h
 | n + 1, [], _ => rfl
 | n + 1, c :: b, h => by
  have hp := mr (c :: b);have h1 : ((c :: b).drop (jg (c :: b)).2).length ≤ b.length := by rw [List.length_drop]; simp only [List.length_cons]; omega
  simp only [List.length_cons] at h;show jg (c :: b) :: B6 n ((c :: b).drop _) = jg (c :: b) :: B6 b.length ((c :: b).drop _);rw [og n _ (by omega)]
  rcases Nat.lt_or_ge n b.length with h2 | h2
  ·omega
  ·rw [og b.length _ h1]
termination_by n b => b.length
decreasing_by all_goals (simp_wf; omega)
theorem rE:oe []=[]:=rfl
theorem tL {b:List UInt8} (h:b≠[]):oe b=jg b::oe (b.drop (jg b).2):=by
 match b,h with
 |c::b,_=>
  show jg (c::b)::B6 b.length ((c::b).drop _)=_;rw[og];have hp:=mr (c::b);rw[List.length_drop];simp only[List.length_cons];omega
def br (g:Nat×Nat):List D:=[.int .i32 (g.1:Nat),.int .i64 (g.2:Nat)]
def gK (l:List (Nat×Nat)):D:=.sl ((l.map br).map (jr 2))
theorem D' {l:List (Nat×Nat)}:∀e∈l.map br,e.length=2:=by
 intro e he;obtain⟨g,_,rfl⟩:=List.mem_map.1 he;rfl
theorem ra {l:List (Nat×Nat)}:∀e∈l.map br,∀d∈e,cj d=true:=by
 intro e he d hd;obtain⟨g,_,rfl⟩:=List.mem_map.1 he;simp only[br,List.mem_cons,List.not_mem_nil,or_false] at hd
 rcases hd with rfl|rfl<;>rfl
theorem eE (st:St) (l:List (Nat×Nat)):V.Rows st 2 (gK l) (l.map br):=Rows.my D' ra
theorem vJ:∀(left n r lo hi:Nat) (b:List UInt8),(je left n r lo hi b).2.1≠0→(je left n r lo hi b).2.1=n∧left≤b.length
 |0,n,r,lo,hi,b,h=>by simp[je]
 |left+1,n,r,lo,hi,[],h=>by simp[je] at h
 |left+1,n,r,lo,hi,x::xs,h=>by
  simp only[je] at h⊢
  split at h
  ·simp at h
  ·rename_i hc;rw[if_neg hc];have:=vJ left n _ _ _ xs h;exact⟨this.1,by simp;omega⟩
theorem zG {b:List UInt8} (h:b≠[]):(jg b).2≤b.length:=by
 match b,h with
 |c::xs,_=>
  unfold jg
  split
  ·simp
  ·rename_i hz;simp only[ir] at hz⊢
   split at hz
   ·simp at hz
   ·rename_i hk;rw[if_neg hk];have:=vJ _ _ _ _ _ _ hz;rw[this.1];simp;omega
theorem I7 {st:St} {x:D} {b:List UInt8} (hb:Bytes st x b) (hlen:b.length≤1048576):Ev pv 132 [x] st (gK (oe b)) st:=by
 refine Ev.jq rfl Mr rfl rfl rfl ?_;dsimp only[u3,u4,List.length,Nat.reduceSub,Nat.reduceAdd,w1,w2];have hx:=hb.ref;(try refine qy ?_);(repeat refine qq ?_);(try generalize hK:bk _ _ _ _=K);refine ag.dt ?_;(repeat(first|refine xT ?_|refine xL ?_|refine xN ?_|refine xo ?_|refine xp ?_));refine ae.nil ?_;(try dsimp only[Fr.ay,Fr.put,Fr.clean,Fr.ev,Fr.get,nth,V.look,u1,u2,v1,v2,v3,v4,v5,v6,v7,List.length,u3,u4,Nat.reduceSub,Nat.reduceAdd,List.map]);(try subst hK);(try refine qy ?_);(repeat refine qq ?_);(try generalize hK:bk _ _ _ _=K);refine ag.dt ?_;(repeat(first|refine xT ?_|refine xL ?_|refine xN ?_|refine xo ?_|refine xp ?_));refine ae.nil ?_;(try dsimp only[Fr.ay,Fr.put,Fr.clean,Fr.ev,Fr.get,nth,V.look,u1,u2,v1,v2,v3,v4,v5,v6,v7,List.length,u3,u4,Nat.reduceSub,Nat.reduceAdd,List.map]);(try subst hK);(try refine qy ?_);refine ag.seq (ag.block ?_)
 refine ag.loop (fun j fr ah=>∃(y out r n:D) (b':List UInt8) (done:List (Nat×Nat)),fr.clean=⟨6,[y,.tup [],.nul,out,r,n],[]⟩∧Ex st.bs.length (ai .ro st) ah∧Bytes ah y b'∧y.ref≤st.bs.length∧
  Acc st.bs.length ah 2 out (done.map br)∧j=b'.length∧done++oe b'=oe b∧done.length+b'.length≤b.length) b.length
  ⟨x,.nul,_,_,b,[],rfl,Ex.refl _ _,hb.enter .ro,hx,.nul,rfl,rfl,by simp⟩ ?_
 rintro j fr ah ⟨y,out,r,n,b',done,hfr,hex,hy,Qy,Gg,rfl,hall,hl⟩;rw[hfr];(try refine qy ?_);(repeat refine qq ?_);(try generalize hK:bk _ _ _ _=K);refine ag.dt ?_
 (first|refine xT ?_|refine xL ?_|refine xN ?_|refine xo ?_|refine xp ?_)
 refine ae.len rfl rfl rfl hy rfl ?_;(repeat(first|refine xT ?_|refine xL ?_|refine xN ?_|refine xo ?_|refine xp ?_));refine ae.nil ?_;(try dsimp only[Fr.ay,Fr.put,Fr.clean,Fr.ev,Fr.get,nth,V.look,u1,u2,v1,v2,v3,v4,v5,v6,v7,List.length,u3,u4,Nat.reduceSub,Nat.reduceAdd,List.map]);(try subst hK);(try refine qy ?_);rw[gA];(try refine qy ?_);(repeat refine qq ?_);refine qc (fun h1=>?_) (fun h1=>?_)<;>try simp only[cs] at h1
 ·refine ag.skip ?_;have q_:b'≠[]:=by rintro rfl;simp at h1
  (try refine qy ?_);(repeat refine qq ?_);refine ag.block ?_;(try refine qy ?_);(repeat refine qq ?_);(try generalize hK:bk _ _ _ _=K);refine ag.dt ?_
  (first|refine xT ?_|refine xL ?_|refine xN ?_|refine xo ?_|refine xp ?_)
  refine ae.Ha rfl rfl rfl (Ed hy) ?_;(repeat(first|refine xT ?_|refine xL ?_|refine xN ?_|refine xo ?_|refine xp ?_));refine ae.nil ?_;(try dsimp only[Fr.ay,Fr.put,Fr.clean,Fr.ev,Fr.get,nth,V.look,u1,u2,v1,v2,v3,v4,v5,v6,v7,List.length,u3,u4,Nat.reduceSub,Nat.reduceAdd,List.map]);(try subst hK);(try refine qy ?_);generalize hf:ir b'=F at*;obtain⟨r0,n0,bg⟩:=F;(try refine qy ?_);(repeat refine qq ?_);(try generalize hK:bk _ _ _ _=K);refine ag.dt ?_;(repeat(first|refine xT ?_|refine xL ?_|refine xN ?_|refine xo ?_|refine xp ?_));refine ae.nil ?_;(try dsimp only[Fr.ay,Fr.put,Fr.clean,Fr.ev,Fr.get,nth,V.look,u1,u2,v1,v2,v3,v4,v5,v6,v7,List.length,u3,u4,Nat.reduceSub,Nat.reduceAdd,List.map]);(try subst hK);(try refine qy ?_);generalize hK:bk _ _ _ _=K
  have H:∀m,K .next ⟨6,[y,.tup [],.nul,out,.int .i32 ((jg b').1:Nat),.int .i64 ((jg b').2:Nat)],m⟩ ah:=by
   intro m;subst hK;generalize hg:jg b'=g;have hp:=mr b';have hle:=zG q_;rw[hg] at hp hle;(try refine qy ?_);(repeat refine qq ?_);(try generalize hK:bk _ _ _ _=K);refine ag.dt ?_
   (first|refine xT ?_|refine xL ?_|refine xN ?_|refine xo ?_|refine xp ?_)
   (first|refine xT ?_|refine xL ?_|refine xN ?_|refine xo ?_|refine xp ?_)
   (first|refine xT ?_|refine xL ?_|refine xN ?_|refine xo ?_|refine xp ?_)
   refine ae.T rfl rfl rfl (d:=.agg (br g)) (st1:=ah) rfl ?_;refine ae.T rfl rfl rfl (d:=.win ah.bs.length 0 0 1 2) (st1:=ah.push (.mem 0 true (br g))) rfl ?_;have hN:st.bs.length≤ah.bs.length:=hex.len;have Ge:=hex.trans (Ex.push hN (.mem 0 true (br g)));refine ae.append rfl rfl rfl rfl (Gg.push _) (Rows.one rfl) rfl rfl rfl rfl rfl rfl rfl (by decide) Ge.len (by rw[Ge.flr];exact Nat.le_refl _) (by rw[Ge.ro];exact Nat.le_refl _) (by simp only[List.length_map,List.length_cons,List.length_nil];show(done.length+1)*16≤_;omega) fun NO st2 Le K5 _ _ _=>?_;(repeat(first|refine xT ?_|refine xL ?_|refine xN ?_|refine xo ?_|refine xp ?_));refine ae.nil ?_;(try dsimp only[Fr.ay,Fr.put,Fr.clean,Fr.ev,Fr.get,nth,V.look,u1,u2,v1,v2,v3,v4,v5,v6,v7,List.length,u3,u4,Nat.reduceSub,Nat.reduceAdd,List.map]);(try subst hK);(try refine qy ?_);have Pm:=Ge.trans K5;have wM:Bytes st2 y b':=Rows.ex ((Ex.push hN _).trans K5) hy Qy;(try refine qy ?_);(repeat refine qq ?_);(try generalize hK:bk _ _ _ _=K);refine ag.dt ?_
   (first|refine xT ?_|refine xL ?_|refine xN ?_|refine xo ?_|refine xp ?_)
   (first|refine xT ?_|refine xL ?_|refine xN ?_|refine xo ?_|refine xp ?_)
   refine ae.slice rfl rfl rfl wM rfl rfl (l:=g.2) (r:=b'.length) ?_ ⟨by omega,by rw[gA];omega⟩ fun y2 FT NZ=>?_
   ·show cn (V.byteCells b').length (some (.int .i64 (g.2:Nat))) none=_;rw[gA];simp only[cn,gF,iX,Option.bind_some];rw[if_pos ⟨by omega,by omega⟩];rfl
   (repeat(first|refine xT ?_|refine xL ?_|refine xN ?_|refine xo ?_|refine xp ?_));refine ae.nil ?_;(try dsimp only[Fr.ay,Fr.put,Fr.clean,Fr.ev,Fr.get,nth,V.look,u1,u2,v1,v2,v3,v4,v5,v6,v7,List.length,u3,u4,Nat.reduceSub,Nat.reduceAdd,List.map]);(try subst hK);(try refine qy ?_);refine⟨(b'.drop g.2).length,by rw[List.length_drop];omega,y2,NO,_,_,b'.drop g.2,done++[g],rfl,Pm,?_,Nat.le_trans NZ Qy,?_,rfl,?_,?_⟩
   ·have:((V.byteCells b').take b'.length).drop g.2=V.byteCells (b'.drop g.2):=by
     rw[←gA,List.take_length];simp[V.byteCells]
    unfold Bytes;rw[←this];exact FT
   ·rw[List.map_append];exact Le
   ·rw[List.append_assoc,List.singleton_append,←hall,tL q_,hg]
   ·rw[List.length_append,List.length_drop];simp only[List.length_cons,List.length_nil];omega
  (try refine qy ?_);(repeat refine qq ?_);refine qc (fun h2=>?_) (fun h2=>?_)<;>try simp only[cs] at h2
  ·refine ag.dt ?_;(repeat(first|refine xT ?_|refine xL ?_|refine xN ?_|refine xo ?_|refine xp ?_));refine ae.nil ?_;(try dsimp only[Fr.ay,Fr.put,Fr.clean,Fr.ev,Fr.get,nth,V.look,u1,u2,v1,v2,v3,v4,v5,v6,v7,List.length,u3,u4,Nat.reduceSub,Nat.reduceAdd,List.map]);have:jg b'=(65533,1):=by unfold jg;rw[hf,if_pos (by simpa using h2)]
   rw[this] at H;exact H _
  ·refine ag.skip ?_;have:jg b'=(r0,n0):=by unfold jg;rw[hf,if_neg (by simpa using h2)]
   rw[this] at H;exact H _
 ·refine ag.exit ?_
  have q_:b'=[]:=by cases b' with|nil=>rfl|cons _ _=>simp at h1<;>omega
  subst q_;rw[rE,List.append_nil] at hall;(try refine qy ?_);(repeat refine qq ?_);(try generalize hK:bk _ _ _ _=K);refine ag.dt ?_;(repeat(first|refine xT ?_|refine xL ?_|refine xN ?_|refine xo ?_|refine xp ?_));refine ae.nil ?_;(try dsimp only[Fr.ay,Fr.put,Fr.clean,Fr.ev,Fr.get,nth,V.look,u1,u2,v1,v2,v3,v4,v5,v6,v7,List.length,u3,u4,Nat.reduceSub,Nat.reduceAdd,List.map]);(try subst hK);(try refine qy ?_);refine ag.ret ⟨rx,_,rfl,bz (by simp) (hex.take rfl) ?_⟩;rw[←hall];exact Gg.freeze ra (n:=15) (by decide)
structure ec where
 i:Nat
 o:Nat
 g:Nat
 e:Int
 w:Int
def aP (gs:List (Nat×Nat)) (bA:D) (s:ec):List D:=[gK gs,bA,.int .i64 (s.i:Nat),.int .i64 (s.o:Nat),.int .i64 (s.g:Nat),.int .i64 s.e,.int .i64 s.w]
def ek (gs:List (Nat×Nat)) (i:Nat) (r:Int):Bool:=match gs[i]? with
 |some g=>((g.1:Nat):Int)==r
 |none=>false
theorem qN {gs:List (Nat×Nat)} {i:Nat} {r:Int} (h:ek gs i r=true):i<gs.length:=by
 unfold ek at h
 split at h
 ·exact cA (by assumption)
 ·cases h
def bW (gs:List (Nat×Nat)) (s:ec) (r:Int):ec:=if ek gs s.i r=true then{s with i:=s.i+1} else s
def B3 (gs:List (Nat×Nat)) (i:Nat):Bool:=match gs[i]? with
 |some g=>((g.1:Nat):Int)==65533 &&((g.2:Nat):Int)==1
 |none=>false
def iP (aY:List Int) (s:ec) (i:Nat) (e:Int):ec:=if s.e=0 then{s with e:=e,w:=aY.getD i 0} else s
theorem oH {N k:Nat} {S s0:St} {H:List bj} {gs:List (Nat×Nat)} {bA:D} {s:ec} (r_:gs.length≤1048576) (r:Int) (hH:Has N S s0 (.box k (.mem 0 false (aP gs bA s))::H)):
  ∃d ah,Ev pv 219 [.ptr k 0 0,.int .i32 r] s0 d ah∧d=.bool (ek gs s.i r)∧Has N S ah (.box k (.mem 0 false (aP gs bA s))::H):=by
 refine Ev.nj rfl L3 rfl rfl rfl ?_;dsimp only[u3,u4,List.length,Nat.reduceSub,Nat.reduceAdd,w1,w2];have cD:=hH;have hH:=hH.cE;have cy:(ai .rw s0).bs=s0.bs:=rfl;generalize ai .rw s0=S2 at*;have xG:Arg N S2 2 (gK gs) (gs.map br):=Arg.pure (fun st=>eE st gs);refine qq<|qj fun K hK=>qm ?_;refine qe hK ?_
 by_cases ha:s.i<gs.length
 ·obtain⟨g,hg⟩:∃g,gs[s.i]?=some g:=⟨gs[s.i]'ha,List.getElem?_eq_getElem _⟩
  have gN:(gs.map br)[s.i]?=some (br g):=by rw[List.getElem?_map,hg];rfl
  have bd:decide ((s.i:Int)<(gs.length:Nat))=true:=by rw[decide_eq_true];simp;omega
  have hv:ek gs s.i r=(((g.1:Nat):Int)==r):=by unfold ek;rw[hg]
  refine qq<|ag.sm 4 (.bool (((g.1:Nat):Int)==r)) [] ?_ (fun ff tmp=>?_)
  ·refine qm ?_;refine qg ?_;refine qp (o:=2) ?_;refine ql hH ax ?_;refine qm ?_;refine qg ?_;refine qp (o:=0) ?_;refine ql hH ax ?_;refine qn ?_;simp only[List.length_map];refine qg ?_;refine qm ?_;refine qm ?_ (hg:=wi bd);refine qg ?_ (hg:=wi bd);refine qp (o:=0) ?_ (hg:=wi bd);refine ql hH ax ?_ (hg:=wi bd);refine qm ?_ (hg:=wi bd);refine qg ?_ (hg:=wi bd);refine qp (o:=2) ?_ (hg:=wi bd);refine ql hH ax ?_ (hg:=wi bd);refine qr (fun Hy yN=>?_) (hg:=wi bd);refine qf (fo:=0) (fun NM H8=>?_) (hg:=wi bd);refine qR ?_ (hg:=wi bd);refine qm ?_ (hg:=wi bd);refine qg ?_ (hg:=wi bd);refine qt bd ?_;refine qm ?_;refine ae.nil (aM ?_);dsimp only[aD,List.foldl,nth,u2,u1];dsimp only[Fr.ay,Fr.put,Fr.clean,Fr.ev,Fr.get,nth,look,u1,u2,v1,v2,v4]
   all_goals(first|rfl|(simp[bd];done)|(simp_all;done)|(simp[bd];omega)|(simp_all;omega))
  dsimp only[aD,List.foldl,nth,u2,u1];refine ag.ret ⟨rx,_,_,_,rfl,ak (rfl),?_⟩;exact⟨by rw[hv];rfl,cD.aw cy hH⟩
 ·have bd:decide ((s.i:Int)<(gs.length:Nat))=false:=by rw[decide_eq_false];simp;omega
  have hv:ek gs s.i r=false:=by
   cases h:ek gs s.i r with
   |true=>exact absurd (qN h) ha
   |false=>rfl
  refine qq<|ag.sm 4 (.bool false) [] ?_ (fun ff tmp=>?_)
  ·refine qm ?_;refine qg ?_;refine qp (o:=2) ?_;refine ql hH ax ?_;refine qm ?_;refine qg ?_;refine qp (o:=0) ?_;refine ql hH ax ?_;refine qn ?_;simp only[List.length_map];refine qg ?_;refine qm ?_;refine qs ?_ (hg:=wn bd);refine qs ?_ (hg:=wn bd);refine qs ?_ (hg:=wn bd);refine qs ?_ (hg:=wn bd);refine qs ?_ (hg:=wn bd);refine qs ?_ (hg:=wn bd);refine qs ?_ (hg:=wn bd);refine qs ?_ (hg:=wn bd);refine qs ?_ (hg:=wn bd);refine qs ?_ (hg:=wn bd);refine qs ?_ (hg:=wn bd);refine qs ?_ (hg:=wn bd);refine qs ?_ (hg:=wn bd);refine qu bd ?_;refine qm ?_;refine ae.nil (aM ?_);dsimp only[aD,List.foldl,nth,u2,u1];dsimp only[Fr.ay,Fr.put,Fr.clean,Fr.ev,Fr.get,nth,look,u1,u2,v1,v2,v4]
   all_goals(first|rfl|(simp[bd];done)|(simp_all;done)|(simp[bd];omega)|(simp_all;omega))
  dsimp only[aD,List.foldl,nth,u2,u1];refine ag.ret ⟨rx,_,_,_,rfl,ak (rfl),?_⟩;exact⟨by rw[hv];rfl,cD.aw cy hH⟩
theorem dX {N k:Nat} {S s0:St} {H:List bj} {gs:List (Nat×Nat)} {bA:D} {s:ec} (r_:gs.length≤1048576) (r:Int) (hH:Has N S s0 (.box k (.mem 0 false (aP gs bA s))::H)):
  ∃d ah,Ev pv 187 [.ptr k 0 0,.int .i32 r] s0 d ah∧d=.bool (ek gs s.i r)∧Has N S ah (.box k (.mem 0 false (aP gs bA (bW gs s r)))::H):=by
 refine Ev.nj rfl Mb rfl rfl rfl ?_;dsimp only[u3,u4,List.length,Nat.reduceSub,Nat.reduceAdd,w1,w2];have cD:=hH;have hH:=hH.cE;have cy:(ai .rw s0).bs=s0.bs:=rfl;generalize ai .rw s0=S2 at*;refine qq<|qj fun K hK=>qm ?_;refine qe hK<|qq<|qq<|qj fun K hK=>qm ?_;refine qm ?_;obtain⟨_,st,aI,rfl,hH⟩:=oH r_ r hH;refine qv aI ?_;refine qe hK ?_;unfold bW
 cases hb:ek gs s.i r with
 |true=>
  have hlt:=qN hb;dsimp only[aP] at hH;rw[if_pos rfl];refine qB ?_;refine qq<|qj fun K hK=>qm ?_;refine qg ?_;refine qp (o:=2) ?_;refine ql hH ax ?_;refine qA ?_;refine qg ?_;refine qp (o:=2) ?_;refine qT hH ax fun st hH=>?_;dsimp only[u2,u1,u3,u4,setMany,u5,u6,D.cells,Nat.reduceAdd,aP,br,aB] at hH;refine qe hK<|qq<|qj fun K hK=>qm ?_;refine qe hK<|ag.ret ⟨rx,_,_,_,rfl,ak (rfl),?_⟩;exact⟨rfl,cD.aw cy hH⟩
 |false=>
  rw[if_neg (by simp)];refine qC ?_;refine ag.skip<|qq<|qj fun K hK=>qm ?_;refine qe hK<|ag.ret ⟨rx,_,_,_,rfl,ak (rfl),?_⟩;exact⟨rfl,cD.aw cy hH⟩
theorem za {N k:Nat} {S s0:St} {H:List bj} {gs:List (Nat×Nat)} {bA:D} {s:ec} (i:Nat) (hi:i<gs.length) (hH:Has N S s0 (.box k (.mem 0 false (aP gs bA s))::H)):
  ∃d ah,Ev pv 265 [.ptr k 0 0,.int .i64 (i:Nat)] s0 d ah∧d=.bool (B3 gs i)∧Has N S ah (.box k (.mem 0 false (aP gs bA s))::H):=by
 refine Ev.nj rfl LD rfl rfl rfl ?_;dsimp only[u3,u4,List.length,Nat.reduceSub,Nat.reduceAdd,w1,w2];have cD:=hH;have hH:=hH.cE;have cy:(ai .rw s0).bs=s0.bs:=rfl;generalize ai .rw s0=S2 at*;have xG:Arg N S2 2 (gK gs) (gs.map br):=Arg.pure (fun st=>eE st gs);refine qq<|qj fun K hK=>qm ?_;refine qe hK ?_
 obtain⟨g,hg⟩:∃g,gs[i]?=some g:=⟨gs[i]'hi,List.getElem?_eq_getElem _⟩
 have gN:(gs.map br)[i]?=some (br g):=by rw[List.getElem?_map,hg];rfl
 have hv:B3 gs i=(((g.1:Nat):Int)==65533 &&((g.2:Nat):Int)==1):=by unfold B3;rw[hg]
 refine qq<|ag.sm 4 (.bool (((g.1:Nat):Int)==65533 &&((g.2:Nat):Int)==1)) [] ?_ (fun ff tmp=>?_)
 ·refine qm ?_;refine qg ?_;refine qp (o:=0) ?_;refine ql hH ax ?_;refine qm ?_;refine qr fun Qv Ib=>?_;refine qf (fo:=0) fun Qu Ia=>?_;refine qR ?_;refine qg ?_;refine qm ?_;refine ae.two 14 rfl (fun bX=>?_) (fun bX=>?_)
  ·refine qm ?_ (hg:=wi bX);refine qg ?_ (hg:=wi bX);refine qp (o:=0) ?_ (hg:=wi bX);refine ql hH ax ?_ (hg:=wi bX);refine qm ?_ (hg:=wi bX);refine qr (fun J0 DN=>?_) (hg:=wi bX);refine qf (fo:=1) (fun Qr Kx=>?_) (hg:=wi bX);refine qR ?_ (hg:=wi bX);refine qg ?_ (hg:=wi bX);refine qt bX ?_;refine qm ?_;refine ae.nil (aM ?_);dsimp only[aD,List.foldl,nth,u2,u1];dsimp only[Fr.ay,Fr.put,Fr.clean,Fr.ev,Fr.get,nth,V.look,u1,u2,v1,v2,v3,v4,v5,v6,v7,List.length,u3,u4,Nat.reduceSub,Nat.reduceAdd,List.map]
   all_goals(simp[bX];done)
  ·refine qs ?_ (hg:=wn bX);refine qs ?_ (hg:=wn bX);refine qs ?_ (hg:=wn bX);refine qs ?_ (hg:=wn bX);refine qs ?_ (hg:=wn bX);refine qs ?_ (hg:=wn bX);refine qs ?_ (hg:=wn bX);refine qs ?_ (hg:=wn bX);refine qs ?_ (hg:=wn bX);refine qu bX ?_;refine qm ?_;refine ae.nil (aM ?_);dsimp only[aD,List.foldl,nth,u2,u1];dsimp only[Fr.ay,Fr.put,Fr.clean,Fr.ev,Fr.get,nth,V.look,u1,u2,v1,v2,v3,v4,v5,v6,v7,List.length,u3,u4,Nat.reduceSub,Nat.reduceAdd,List.map]
   all_goals(simp[bX];done)
 dsimp only[aD,List.foldl,nth,u2,u1];refine ag.ret ⟨rx,_,_,_,rfl,ak (rfl),?_⟩;exact⟨by rw[hv];rfl,cD.aw cy hH⟩
theorem et {N k:Nat} {S s0:St} {H:List bj} {gs:List (Nat×Nat)} {bA:D} {aY:List Int} {s:ec} (i:Nat) (e:Int) (hi:i<aY.length) (hH:Has N S s0 (.box k (.mem 0 false (aP gs bA s))::.aE bA 1 (aY.map aB)::H)):
  ∃d ah,Ev pv 134 [.ptr k 0 0,.int .i64 (i:Nat),.int .i64 e] s0 d ah∧d=.sl []∧Has N S ah (.box k (.mem 0 false (aP gs bA (iP aY s i e)))::.aE bA 1 (aY.map aB)::H):=by
 refine Ev.nj rfl Mp rfl rfl rfl ?_;dsimp only[u3,u4,List.length,Nat.reduceSub,Nat.reduceAdd,w1,w2];have cD:=hH;have hH:=hH.cE;have cy:(ai .rw s0).bs=s0.bs:=rfl;generalize ai .rw s0=S2 at*;refine qq<|qj fun K hK=>qm ?_;refine qe hK ?_
 obtain⟨v,hv⟩:∃v,aY[i]?=some v:=⟨aY[i]'hi,List.getElem?_eq_getElem _⟩
 have gN:=iF hv;unfold iP;refine qq<|qq<|qj fun K hK=>qm ?_;refine qg ?_;refine qp (o:=5) ?_;refine ql hH ax ?_;refine qg ?_;refine qe hK ?_;refine ag.cond (by rfl) (fun h0=>?_) (fun h0=>?_)<;>try simp only[beq_iff_eq,beq_eq_false_iff_ne,ne_eq] at h0
 ·rw[if_pos h0];have hgd:aY.getD i 0=v:=by rw[List.getD_eq_getElem?_getD,hv];rfl
  refine qj fun K hK=>qm ?_;refine qm ?_;refine qm ?_;refine qm ?_;refine qg ?_;refine qp (o:=1) ?_;refine ql hH ax ?_;refine qm ?_;refine qi hH aX fun J0 DN=>?_;refine qo hH aX ?_;refine qg ?_;refine qp (o:=5) ?_;refine qT hH ax fun st hH=>?_;dsimp only[u2,u1,u3,u4,setMany,u5,u6,D.cells,Nat.reduceAdd,aP,br,aB] at hH;refine qg ?_;refine qp (o:=6) ?_;refine qT hH ax fun st hH=>?_;dsimp only[u2,u1,u3,u4,setMany,u5,u6,D.cells,Nat.reduceAdd,aP,br,aB] at hH;refine qe hK<|qq<|qj fun K hK=>qm ?_;refine qe hK<|ag.ret ⟨rx,_,_,_,rfl,ak (rfl),?_⟩;exact⟨rfl,by rw[hgd];exact cD.aw cy hH⟩
 ·rw[if_neg h0];refine ag.skip<|qq<|qj fun K hK=>qm ?_;refine qe hK<|ag.ret ⟨rx,_,_,_,rfl,ak (rfl),?_⟩;exact⟨rfl,cD.aw cy hH⟩
end Go.Proofs.YtecjacicdpejaaaGreat
