/-
 Ranges of runes: the canonical form, by plain lists. No program in sight.
-/
import Derived.Test.YtnleclohocdkaaaVGHr
import Derived.Test.YtnleclohocdkaaaVPx
import Derived.Test.YtnleclohocdkaaaVM2
import Derived.KernelRfl
import Derived.Test.YtnleclohocdkaaaVDgp
set_option linter.unusedSimpArgs false
set_option linter.unusedVariables false
set_option maxRecDepth 100000
set_option maxHeartbeats 4000000
namespace Go.V
abbrev Rg:=Int×Int
def fu (l:List Rg) (r:Int):Prop:=∃x,x∈l∧x.1≤r∧r≤x.2
theorem fJ (r:Int):¬fu [] r:=by rintro⟨x,h,_⟩;cases h
theorem bI {x:Rg} {l:List Rg} {r:Int}:fu (x::l) r↔(x.1≤r∧r≤x.2)∨fu l r:=by
 constructor
 ·rintro⟨y,hy,h⟩
  rcases List.mem_cons.1 hy with rfl|hy
  ·exact .inl h
  ·exact .inr ⟨y,hy,h⟩
 ·rintro(h|⟨y,hy,h⟩)
  ·exact⟨x,List.mem_cons_self ..,h⟩
  ·exact⟨y,List.mem_cons_of_mem _ hy,h⟩
theorem wz {a b:List Rg} {r:Int}:fu (a++b) r↔fu a r∨fu b r:=by
 constructor
 ·rintro⟨y,hy,h⟩
  rcases List.mem_append.1 hy with hy|hy
  ·exact .inl ⟨y,hy,h⟩
  ·exact .inr ⟨y,hy,h⟩
 ·rintro(⟨y,hy,h⟩|⟨y,hy,h⟩)
  ·exact⟨y,List.mem_append_left _ hy,h⟩
  ·exact⟨y,List.mem_append_right _ hy,h⟩
theorem sW {a b:List Rg} (h:∀x,x∈a↔x∈b) (r:Int):fu a r↔fu b r:=by
 constructor
 ·rintro⟨y,hy,hh⟩;exact⟨y,(h y).1 hy,hh⟩
 ·rintro⟨y,hy,hh⟩;exact⟨y,(h y).2 hy,hh⟩
def canon (l:List Rg):Prop:=(∀x∈l,x.1≤x.2)∧l.Pairwise fun x y=>x.2+1<y.1
theorem jR {x:Rg} {l:List Rg} (h:canon (x::l)):canon l∧x.1≤x.2∧∀r,fu l r→x.2+1<r:=by
 obtain⟨h1,h2⟩:=h;rw[List.pairwise_cons] at h2;refine⟨⟨fun y hy=>h1 y (List.mem_cons_of_mem _ hy),h2.2⟩,h1 x (List.mem_cons_self ..),?_⟩;rintro r ⟨y,hy,h3,h4⟩;have:=h2.1 y hy;omega
theorem mO:∀{a b:List Rg},canon a→canon b→(∀r,fu a r↔fu b r)→a=b
 |[],[],_,_,_=>rfl
 |[],y::b,_,hb,h=>by
  obtain⟨_,h1,_⟩:=jR hb;exact absurd ((h y.1).2 (bI.2 (.inl ⟨Int.le_refl _,h1⟩))) (fJ _)
 |x::a,[],ha,_,h=>by
  obtain⟨_,h1,_⟩:=jR ha;exact absurd ((h x.1).1 (bI.2 (.inl ⟨Int.le_refl _,h1⟩))) (fJ _)
 |x::a,y::b,ha,hb,h=>by
  obtain⟨ca,xa,fa⟩:=jR ha;obtain⟨cb,yb,fb⟩:=jR hb
  have low:∀{x y:Rg} {a b:List Rg},x.1≤x.2→(∀r,fu b r→y.2+1<r)→y.1≤y.2→(∀r,fu (x::a) r→fu (y::b) r)→y.1≤x.1:=by
   intro x y a b hx hf hy hh
   rcases bI.1 (hh x.1 (bI.2 (.inl ⟨Int.le_refl _,hx⟩))) with h|h
   ·exact h.1
   ·have:=hf _ h;omega
  have e1:x.1=y.1:=Int.le_antisymm (low yb fa xa fun r=>(h r).2) (low xa fb yb fun r=>(h r).1)
  have up:∀{x y:Rg} {a b:List Rg},x.1≤x.2→x.1=y.1→(∀r,fu a r→x.2+1<r)→(∀r,fu (y::b) r→fu (x::a) r)→y.2≤x.2:=by
   intro x y a b hx he hf hh
   rcases Int.lt_or_le x.2 y.2 with h'|h'
   ·rcases bI.1 (hh (x.2+1) (bI.2 (.inl ⟨by omega,by omega⟩))) with h|h
    ·omega
    ·have:=hf _ h;omega
   ·exact h'
  have e2:x.2=y.2:=Int.le_antisymm (up yb e1.symm fb fun r=>(h r).1) (up xa e1 fa fun r=>(h r).2);have e:x=y:=Prod.ext e1 e2;subst e
  congr 1
  refine mO ca cb fun r=>⟨fun hr=>?_,fun hr=>?_⟩
  ·have:=fa r hr
   rcases bI.1 ((h r).1 (bI.2 (.inr hr))) with h|h
   ·omega
   ·exact h
  ·have:=fb r hr
   rcases bI.1 ((h r).2 (bI.2 (.inr hr))) with h|h
   ·omega
   ·exact h
def dt (acc:List Rg) (r:Rg):List Rg:=
 match acc with
 |[]=>[r]
 |k::rest=>if r.1≤k.2+1 then(k.1,max k.2 r.2)::rest else r::k::rest
theorem mq:∀(l acc:List Rg),(∀x∈l,x.1≤x.2)→l.Pairwise (fun x y=>x.1≤y.1)→(∀k∈acc.head?,∀x∈l,k.1≤x.1)→(∀x∈acc,x.1≤x.2)→acc.Pairwise (fun x y=>y.2+1<x.1)→
  (∀x∈l.foldl dt acc,x.1≤x.2)∧(l.foldl dt acc).Pairwise (fun x y=>y.2+1<x.1)∧∀r,fu (l.foldl dt acc) r↔fu acc r∨fu l r
 |[],acc,_,_,_,h1,h2=>⟨h1,h2,fun r=>⟨.inl,fun h=>h.resolve_right (fJ r)⟩⟩
 |x::l,acc,hl,hp,hk,h1,h2=>by
  rw[List.pairwise_cons] at hp;have hx:=hl x (List.mem_cons_self ..);have gS:∀y∈l,y.1≤y.2:=fun y hy=>hl y (List.mem_cons_of_mem _ hy);rw[List.foldl_cons]
  cases acc with
  |nil=>
   obtain⟨g1,g2,g3⟩:=mq l [x] gS hp.2 (fun k jN y hy=>by simp at jN;subst jN;exact hp.1 y hy) (fun y hy=>by simp at hy;subst hy;exact hx) (by simp);refine⟨g1,g2,fun r=>(g3 r).trans ?_⟩;rw[bI (l:=l),bI (l:=[])];constructor
   ·rintro((h|h)|h)
    ·exact .inr (.inl h)
    ·exact absurd h (fJ r)
    ·exact .inr (.inr h)
   ·rintro(h|h|h)
    ·exact absurd h (fJ r)
    ·exact .inl (.inl h)
    ·exact .inr h
  |cons k rest=>
   have U1:=hk k rfl x (List.mem_cons_self ..);have hkk:=h1 k (List.mem_cons_self ..);rw[List.pairwise_cons] at h2;unfold dt
   by_cases hc:x.1≤k.2+1
   ·simp only[if_pos hc]
    obtain⟨g1,g2,g3⟩:=mq l ((k.1,max k.2 x.2)::rest) gS hp.2 (fun q hq y hy=>by simp at hq;subst hq;have:=hp.1 y hy;simp only;omega) (fun y hy=>by
     rcases List.mem_cons.1 hy with rfl|hy
     ·simp only;omega
     ·exact h1 y (List.mem_cons_of_mem _ hy)) (by rw[List.pairwise_cons];exact⟨h2.1,h2.2⟩)
    refine⟨g1,g2,fun r=>(g3 r).trans ?_⟩;rw[bI (l:=rest),bI (l:=rest),bI (l:=l)];constructor
    ·rintro((h|h)|h)
     ·simp only at h
      by_cases hr:r≤k.2
      ·exact .inl (.inl ⟨h.1,hr⟩)
      ·exact .inr (.inl ⟨by omega,by omega⟩)
     ·exact .inl (.inr h)
     ·exact .inr (.inr h)
    ·rintro((h|h)|h|h)
     ·exact .inl (.inl ⟨h.1,by simp only;omega⟩)
     ·exact .inl (.inr h)
     ·exact .inl (.inl ⟨by simp only;omega,by simp only;omega⟩)
     ·exact .inr h
   ·simp only[if_neg hc]
    obtain⟨g1,g2,g3⟩:=mq l (x::k::rest) gS hp.2 (fun q hq y hy=>by simp at hq;subst hq;exact hp.1 y hy) (fun y hy=>by
     rcases List.mem_cons.1 hy with rfl|hy
     ·exact hx
     ·exact h1 y hy) (by
     rw[List.pairwise_cons];refine⟨fun y hy=>?_,by rw[List.pairwise_cons];exact h2⟩
     rcases List.mem_cons.1 hy with rfl|hy
     ·omega
     ·have:=h2.1 y hy;omega)
    refine⟨g1,g2,fun r=>(g3 r).trans ?_⟩;rw[bI (l:=k::rest),bI (l:=l)];constructor
    ·rintro((h|h)|h)
     ·exact .inr (.inl h)
     ·exact .inl h
     ·exact .inr (.inr h)
    ·rintro(h|h|h)
     ·exact .inl (.inr h)
     ·exact .inl (.inl h)
     ·exact .inr h
theorem yx {l:List Rg} (h1:∀x∈l,x.1≤x.2) (h2:l.Pairwise fun x y=>x.1≤y.1):canon (l.foldl dt []).reverse∧∀r,fu (l.foldl dt []).reverse r↔fu l r:=by
 obtain⟨g1,g2,g3⟩:=mq l [] h1 h2 (fun k hk=>by simp at hk) (fun x hx=>by simp at hx) List.Pairwise.nil;refine⟨⟨fun x hx=>g1 x (List.mem_reverse.1 hx),by rw[List.pairwise_reverse];exact g2⟩,fun r=>?_⟩;rw[sW (fun x=>List.mem_reverse) r,g3 r];exact⟨fun h=>h.resolve_left (fJ r),.inr⟩
def nK (r:Int):Prop:=0≤r∧r≤1114111∧¬(55296≤r∧r≤57343)
def dw (x:Rg):List Rg:=
 (if max (max x.1 0) 0≤min (min x.2 1114111) 55295 then[(max (max x.1 0) 0,min (min x.2 1114111) 55295)] else[])++
 (if max (max x.1 0) 57344≤min (min x.2 1114111) 1114111 then[(max (max x.1 0) 57344,min (min x.2 1114111) 1114111)] else[])
theorem pE (x:Rg) (r:Int):fu (dw x) r↔nK r∧x.1≤r∧r≤x.2:=by
 unfold dw nK;rw[wz]
 have one:∀(a b:Int),fu (if a≤b then[(a,b)] else[]) r↔a≤r∧r≤b:=by
  intro a b
  split
  ·rw[bI];exact⟨fun h=>h.elim id fun h=>absurd h (fJ r),.inl⟩
  ·exact⟨fun h=>absurd h (fJ r),fun h=>by omega⟩
 rw[one,one];omega
theorem ni (x:Rg):∀y∈dw x,y.1≤y.2∧0≤y.1∧y.2≤1114111:=by
 intro y hy;unfold dw at hy
 rcases List.mem_append.1 hy with h|h<;>split at h<;>simp at h<;>subst h<;>simp only<;>omega
theorem qw {l all:List Rg} (hp:∀x,x∈all↔x∈l.flatMap dw) (hs:all.Pairwise fun x y=>x.1≤y.1):canon (all.foldl dt []).reverse∧∀r,fu (all.foldl dt []).reverse r↔nK r∧fu l r:=by
 have hle:∀x∈all,x.1≤x.2:=fun x hx=>by
  obtain⟨y,_,hy⟩:=List.mem_flatMap.1 ((hp x).1 hx);exact(ni y x hy).1
 obtain⟨g1,g2⟩:=yx hle hs;refine⟨g1,fun r=>(g2 r).trans ((sW hp r).trans ?_)⟩;constructor
 ·rintro⟨y,hy,h⟩;obtain⟨x,hx,hy⟩:=List.mem_flatMap.1 hy;have:=(pE x r).1 ⟨y,hy,h⟩;exact⟨this.1,x,hx,this.2⟩
 ·rintro⟨hr,x,hx,h⟩;obtain⟨y,hy,h'⟩:=(pE x r).2 ⟨hr,h⟩;exact⟨y,List.mem_flatMap.2 ⟨x,hx,hy⟩,h'⟩
def iA:List Rg→Int→Bool
 |[],_=>false
 |x::l,r=>(decide (x.1≤r) &&decide (r≤x.2))||iA l r
theorem wY:∀(l:List Rg) (r:Int),iA l r=true↔fu l r
 |[],r=>⟨fun h=>(by cases h),fun h=>absurd h (fJ r)⟩
 |x::l,r=>by
  rw[bI,←wY l r];simp[iA]
end Go.V
namespace Go.Proofs.Ytnleclohocdkaaa
open Go.V Go
def qK (fr:Go.V.Fr) (k:Nat):Go.V.D:=Go.V.nth .bh fr.loc k
def au (x:Rg):List D:=[.int .i32 x.1,.int .i32 x.2]
def bf (l:List Rg):D:=.sl (l.map fun x=>.agg (au x))
theorem hD (l:List Rg):D.sl ((l.map au).map (j7 2))=bf l:=by
 unfold bf;rw[List.map_map];rfl
theorem ec (l:List Rg):∀e∈l.map au,∀d∈e,cv d=true:=by
 intro e he d hd;obtain⟨x,_,rfl⟩:=List.mem_map.1 he;simp only[au,List.mem_cons,List.not_mem_nil,or_false] at hd
 rcases hd with rfl|rfl<;>rfl
theorem ye (l:List Rg):refs (l.map au).flatten=0:=by
 induction l with
 |nil=>rfl
 |cons x l ih=>simp only[List.map_cons,List.flatten_cons,au,List.cons_append,List.nil_append,refs,D.ref,ih];rfl
theorem kX (l:List Rg):∀e∈l.map au,e.length=2:=by
 intro e he;obtain⟨x,_,rfl⟩:=List.mem_map.1 he;rfl
theorem fG (st:St) (l:List Rg):V.Rows st 2 (bf l) (l.map au):=by
 rw[←hD];exact Rows.wh (kX l) (ec l)
theorem fX {l:List Rg} {i:Nat} {q:Rg} (h:l[i]?=some q):(l.map au)[i]?=some (au q):=by rw[List.getElem?_map,h];rfl
theorem BK (l:List Rg) (q:Rg) (r:Int):iA (l++[q]) r=(iA l r||(decide (q.1≤r) &&decide (r≤q.2))):=by
 induction l with
 |nil=>simp[iA]
 |cons x l ih=>simp only[List.cons_append,iA,ih,Bool.or_assoc]
theorem D8 {l:List Rg} {i:Nat} {r:Int} (h:iA (l.take i) r=true):iA l r=true:=by
 rw[wY] at h⊢;obtain⟨x,h1,h2⟩:=h;exact⟨x,List.mem_of_mem_take h1,h2⟩
theorem D7 {s0:St} {x:D} {l:List Rg} {r:Int} (hx:V.Rows s0 2 x (l.map au)) (hl:l.length≤1073741824):Ev pv 95 [x,.int .i32 r] s0 (.bool (iA l r)) s0:=by
 refine Ev.o9 rfl OC rfl rfl rfl ?_;refine zE ?_;obtain⟨cD,hF,hH⟩:=ri s0;generalize ag .ro s0=S at*;have hx:=Arg.of hx cD;refine zQ 8 ?_;refine qn ?_;simp only[List.length_map];refine zQ 3 ?_;refine ah.loop (fun mm fr st=>∃(i:Nat),fr.clean=⟨10,[x,.int .i32 r,qK fr 2,qK fr 3,.bool false,qK fr 5,qK fr 6,x,.int .i64 (l.length:Nat),.int .i64 (i:Nat)],[]⟩∧Has s0.bs.length S st []∧(i+mm=l.length)∧(iA (l.take i) r=false)) (l.length) ?_ ?_
 ·exact⟨0,rfl,hH,by omega,rfl⟩
 rintro mm fr st ⟨i,hfr,hH,hi,hn⟩;rw[hfr];clear hfr;generalize qK fr=ee;clear fr;refine zQ 5 ?_;refine zP (fun h1=>?_) fun h1=>?_
 ·refine zQ 1 ?_
  obtain⟨q,hq⟩:∃q,l[i]?=some q:=⟨l[i]'(by omega),List.getElem?_eq_getElem _⟩
  have hr:=fX hq;refine zQ 4 ?_;refine qr fun PZ J9=>?_;refine ab.eB rfl (ev rfl) (by assumption) rfl (aa rfl _) ?_;refine qa hH fun k6 st HM hH=>?_;refine qS hH aS fun st hH=>?_;dsimp only[u2,u1,u3,u4,setMany,u5,u6,D.cells,Nat.reduceAdd,au] at hH;refine zQ 2 ?_;refine ah.lB 22 (.bool (decide (r≥q.1) &&decide (r≤q.2))) [] ?_ (fun ff tmp gL=>?_)
  ·refine zQ 5 ?_;refine ab.two 17 rfl (fun An=>?_) (fun An=>?_)
   ·refine zQ 5 ?_;refine ab.nil (cA ?_ ?_)
    ·dsimp only[aX,List.foldl,nth,u2,u1]
     all_goals(first|rfl|simp)
    ·refine zF ?_
     all_goals(simp[An];done)
   ·refine zQ 5 ?_;refine ab.nil (cA ?_ ?_)
    ·dsimp only[aX,List.foldl,nth,u2,u1]
     all_goals(first|rfl|simp)
    ·refine zF ?_
     all_goals(simp[An];done)
  refine zG ?_
  have ht:iA (l.take (i+1)) r=(decide (r≥q.1) &&decide (r≤q.2)):=by
   rw[List.take_add_one,hq,Option.toList_some,BK,hn];simp
  refine qc (fun h2=>?_) (fun h2=>?_)<;>try simp only[cs] at h2
  ·refine zQ 4 ?_;rw[D8 (i:=i+1) (by rw[ht];simp[h2])];refine ah.ret ⟨rx,_,rfl,rl cD hH (rfl)⟩
  ·refine zQ 5 ?_;exact⟨mm-1,by omega,⟨i+1,rfl,(hH.drop 1),by omega,by rw[ht];simp[h2]⟩⟩
 ·refine zQ 5 ?_;have:iA l r=false:=by rw[←hn,List.take_of_length_le (by omega)]
  rw[this];refine ah.ret ⟨rx,_,rfl,rl cD hH (rfl)⟩
def aO (fr:Go.V.Fr) (k:Nat):Go.V.D:=Go.V.nth .bh fr.loc k
def eZ:List Rg:=[(0,55295),(57344,1114111)]
def rX (lo hi:Int) (p:Rg):List Rg:=if max lo p.1≤min hi p.2 then[(max lo p.1,min hi p.2)] else[]
theorem tT (q:Rg):dw q=eZ.flatMap (rX (max q.1 0) (min q.2 1114111)):=by
 simp[dw,eZ,rX]
theorem CN {s0:St} (q:Rg):Ev pv 114 [.agg (au q)] s0 (bf (dw q)) s0:=by
 refine Ev.o9 rfl K7 rfl rfl rfl ?_;refine zE ?_;obtain⟨cD,hF,hH⟩:=ri s0;generalize ag .ro s0=S at*;refine zQ 2 ?_;refine qb hH fun k1 st re hH=>?_;dsimp only[u2,u1,u3,u4,setMany,u5,u6,D.cells,Nat.reduceAdd,au] at hH;refine zQ 6 ?_;refine ab.FC (t1:=0) (t2:=0) rfl (ev rfl) (ev rfl) (by dsimp only[Fr.put,u1,u2]<;>rfl) ?_;refine zQ 2 ?_;refine ab.FB (t1:=0) (t2:=0) rfl (ev rfl) (ev rfl) (by dsimp only[Fr.put,u1,u2]<;>rfl) ?_;refine zQ 1 ?_;refine qT hH aS fun st hH=>?_;dsimp only[u2,u1,u3,u4,setMany,u5,u6,D.cells,Nat.reduceAdd,au] at hH;refine zQ 1 ?_;refine qT hH aS fun st hH=>?_;dsimp only[u2,u1,u3,u4,setMany,u5,u6,D.cells,Nat.reduceAdd,au] at hH;refine zQ 1 ?_;generalize yJ:max q.1 0=lo at*;generalize BC:min q.2 1114111=hi at*;refine zQ 4 ?_;have hH:=hH.e_ 2;refine zQ 5 ?_;refine qh (s:=2) (vs:=[_,_]) hH fun k17 st Kp hH=>?_;dsimp only[u2,u1,u3,u4,setMany,u5,u6,D.cells,Nat.reduceAdd,au] at hH;refine qn ?_ (hR:=hH.rows aS);simp only[List.length_map,List.length_cons,List.length_nil];refine zQ 3 ?_;refine ah.loop (fun mm fr st=>∃(i:Nat) (x:D),fr.clean=⟨20,[.agg (au q),.ptr k1 0 0,.nul,x,aO fr 4,aO fr 5,aO fr 6,aO fr 7,aO fr 8,aO fr 9,aO fr 10,aO fr 11,aO fr 12,aO fr 13,aO fr 14,aO fr 15,aO fr 16,.win k17 0 0 2 2,.int .i64 2,.int .i64 (i:Nat)],[]⟩∧Has s0.bs.length S st [.aI (.win k17 0 0 2 2) 2 (eZ.map au),.aI x 2 (((eZ.take i).flatMap (rX lo hi)).map au),.box k1 (.mem 0 false [.int .i32 lo,.int .i32 hi])]∧(i+mm=2)∧(((eZ.take i).flatMap (rX lo hi)).length≤i)) (2) ?_ ?_
 ·exact⟨0,.nul,rfl,hH,by omega,by simp⟩
 rintro mm fr st ⟨i,x,hfr,hH,hij,hb⟩;rw[hfr];clear hfr;generalize aO fr=ee;clear fr;refine zQ 5 ?_;refine zP (fun h1=>?_) fun h1=>?_
 ·refine zQ 1 ?_
  obtain⟨p,hp⟩:∃p,eZ[i]?=some p:=⟨eZ[i]'(by simp[eZ];omega),List.getElem?_eq_getElem _⟩
  have hr:=fX hp;refine zQ 4 ?_;refine qi hH aS fun Mb HB=>?_;refine ab.ue hH rfl (ev rfl) (by assumption) (by exact aS) (by assumption) rfl (aa rfl _) ?_;refine qa hH fun k5 st II hH=>?_;refine qS hH aS fun st hH=>?_;dsimp only[u2,u1,u3,u4,setMany,u5,u6,D.cells,Nat.reduceAdd,au] at hH;refine zQ 7 ?_;refine ab.FC (t1:=0) (t2:=0) rfl (ev rfl) (ev rfl) (aa rfl _) ?_;refine zQ 4 ?_;refine ab.FB (t1:=0) (t2:=0) rfl (ev rfl) (ev rfl) (aa rfl _) ?_;refine qg ?_;refine qa hH fun k6 st HM hH=>?_;refine qS hH aS fun st hH=>?_;dsimp only[u2,u1,u3,u4,setMany,u5,u6,D.cells,Nat.reduceAdd,au] at hH;refine zQ 9 ?_;refine zP (fun h2=>?_) fun h2=>?_
  ·refine zQ 2 ?_;refine ab.bN (m:=2) hH rfl (ev rfl) (by exact aS) (by dsimp only[List.drop_succ_cons,List.drop_zero,List.take_succ_cons,List.take_zero,au]<;>rfl) rfl rfl (aa rfl _) ?_;refine qh (s:=2) (vs:=[_]) hH fun k41 st Km hH=>?_;refine ab.bT (s:=2) hH rfl (ev rfl) (ev rfl) (by exact eJ) (by exact hH.rows (by exact aS)) rfl rfl rfl rfl rfl rfl rfl ⟨(Nat.le_of_ble_eq_true rfl),(Nat.le_of_ble_eq_true rfl)⟩ (fun _=>(aa rfl _)) (by simp only[List.length_cons,List.length_nil,List.length_map]<;>omega) (by exact .inl hF) (fun IW st hH=>?_);dsimp only[u2,u1,u3,u4,setMany,u5,u6,D.cells,Nat.reduceAdd,au] at hH;refine zQ 6 ?_
   have h3:(eZ.take (i+1)).flatMap (rX lo hi)=(eZ.take i).flatMap (rX lo hi)++[(max lo p.1,min hi p.2)]:=by
    rw[List.take_add_one,hp,List.flatMap_append];simp[rX,h2]
   exact⟨mm-1,by omega,⟨i+1,IW,rfl,(by rw[h3,List.map_append];exact hH.drop 3),by omega,by rw[h3];simp only[List.length_append,List.length_cons,List.length_nil];omega⟩⟩
  ·refine zQ 5 ?_
   have h3:(eZ.take (i+1)).flatMap (rX lo hi)=(eZ.take i).flatMap (rX lo hi):=by
    rw[List.take_add_one,hp,List.flatMap_append];simp[rX,h2]
   exact⟨mm-1,by omega,⟨i+1,x,rfl,(by rw[h3];exact hH.drop 2),by omega,by rw[h3];omega⟩⟩
 ·refine zQ 6 ?_;rw[←hD];have h3:eZ.take i=eZ:=List.take_of_length_le (by simp[eZ];omega);rw[h3] at hH;refine ah.ret ⟨rx,_,rfl,rl cD hH ?_⟩;refine Eq.trans (hH.freeze bZ (ec _) (n:=15) (by decide)) ?_;rw[tT,yJ,BC]
theorem A4 (q x:Rg) (h:x∈dw q):0≤x.1∧x.1≤1114111:=by
 obtain⟨h1,h2,h3⟩:=ni q x h;omega
theorem pF (q:Rg):(dw q).length≤2:=by
 unfold dw;split<;>split<;>simp
theorem iM (l:List Rg):(l.flatMap dw).length≤2*l.length:=by
 induction l with
 |nil=>simp
 |cons x l ih=>simp only[List.flatMap_cons,List.length_append,List.length_cons];have:=pF x;omega
theorem sA:∀{l:List Rg},(∀x∈l,0≤x.1∧x.1≤1114111)→∃m:List Rs,eT m=(l.map au).flatten∧m.map (fun x=>(x.lo,x.hi))=l
 |[],_=>⟨[],rfl,rfl⟩
 |x::l,h=>by
  obtain⟨m,h1,h2⟩:=sA (l:=l) fun y hy=>h y (List.mem_cons_of_mem _ hy);obtain⟨h3,h4⟩:=h x (List.mem_cons_self ..);exact⟨⟨x.1,x.2,h3,h4⟩::m,by simp only[eT,h1,List.map_cons,List.flatten_cons,au,List.cons_append,List.nil_append],by simp[h2]⟩
theorem yX (m:List Rs):eT m=((m.map fun x=>((x.lo,x.hi):Rg)).map au).flatten:=by
 induction m with
 |nil=>rfl
 |cons x m ih=>simp only[eT,ih,List.map_cons,List.flatten_cons,au,List.cons_append,List.nil_append]
theorem D6 {N:Nat} {S st:St} {H:List bm} {j:Nat} {x:D} {l:List Rg} (hH:Has N S st H) (hj:H[j]?=some (.aI x 2 (l.map au))) (h0:l=[]→x=.nul) (hl:l.length≤1073741824) (hr:∀y∈l,0≤y.1∧y.1≤1114111):
  ∃(af:St) (l':List Rg),Ev pv 115 [x,.fn 116 []] st (.tup []) af∧Has N S af (H.set j (.aI x 2 (l'.map au)))∧l'.Perm l∧l'.Pairwise fun a b=>a.1≤b.1:=by
 obtain⟨m,h1,h2⟩:=sA hr;obtain⟨h3,h4⟩:=srt_facts m;have Cm:m.length=l.length:=by rw[←h2];simp
 have hperm:((srt m).map fun x=>((x.lo,x.hi):Rg)).Perm l:=by rw[←h2];exact h3.map _
 have oD:((srt m).map fun x=>((x.lo,x.hi):Rg)).Pairwise fun a b=>a.1≤b.1:=by rw[List.pairwise_map];exact h4
 have hlen:(srt m).length=l.length:=h3.length_eq.trans Cm;have hown:=hH.own hj;generalize ti:l.map au=es at*;have tj:es.length=l.length:=by rw[←ti];simp
 cases hown with
 |nul=>
  have IE:l=[]:=by cases l with|nil=>rfl|cons _ _=>simp at tj
  refine⟨st,(srt m).map fun x=>(x.lo,x.hi),Ev.jW rfl rfl,?_,hperm,oD⟩
  have:(srt m).map (fun x=>((x.lo,x.hi):Rg))=[]:=by
   cases hs:srt m with
   |nil=>rfl
   |cons a b=>rw[hs,IE] at hlen;simp at hlen
  rw[this];exact hH.sy hj (fun _ _ _=>rfl) (Nat.le_refl _) rfl rfl .nul (fun k hk=>.inl hk) fun k hk=>by simp only[bm.aI,D.ref] at hk;omega
 |win k aA off es c hm hle hc he=>
  have hne:l≠[]:=fun e=>by have:=h0 e;cases this
  have rQ:1≤l.length:=by cases l with|nil=>exact absurd rfl hne|cons _ _=>simp
  have hk:=(hH.ok j _ hj).2 k (by simp only[bm.aI,D.ref]);have yM:(eT (srt m)).length=es.length*2:=by rw[mF,hlen,tj];omega
  have hwr:st.wr k aA off (eT (srt m))=some ⟨st.bs.set k (.mem aA true (c.take off++eT (srt m)++c.drop (off+(eT (srt m)).length))),st.flr,st.ro⟩:=
   lH hm (by omega) (jt hH hk.1 (.inr (tu _)))
  refine⟨⟨st.bs.set k (.mem aA true (c.take off++eT (srt m)++c.drop (off+(eT (srt m)).length))),st.flr,st.ro⟩,(srt m).map fun x=>(x.lo,x.hi),Ev.jW rfl ?_,?_,hperm,oD⟩
  ·show AY [.win k aA off es.length 2,.fn 116 []] st=_;have iz:(c.drop off).take (2*es.length)=eT m:=by rw[Nat.mul_comm,hc,h1]
   simp only[AY,St.mem_of hm,iz,zK,GZ];rw[decide_eq_true (⟨by rw[Cm,tj],by omega,by omega⟩:m.length=es.length∧1≤es.length∧es.length<1099511627776)];simp only[hwr]
  ·refine hH.sy hj (fun n hn hne=>?_) (by simp) rfl rfl ?_ (fun n hn=>.inl hn) fun n hn=>?_
   ·simp only;rw[List.getElem?_set_ne (fun e=>hne (by simp only[bm.aI,D.ref];omega))]
   ·have h9:=gD.win (st:=⟨st.bs.set k (.mem aA true (c.take off++eT (srt m)++c.drop (off+(eT (srt m)).length))),st.flr,st.ro⟩) (s:=2) k aA off (((srt m).map fun x=>((x.lo,x.hi):Rg)).map au) (c.take off++eT (srt m)++c.drop (off+(eT (srt m)).length))
     (by simp only;rw[List.getElem?_set_self hk.2]) (by simp only[List.length_append,List.length_take,List.length_map,List.length_drop,yM];omega) ?_ (kX _)
    ·simp only[List.length_map,hlen] at h9;rw[tj];exact h9
    ·have NF:(c.take off).length=off:=by simp;omega
     rw[List.append_assoc,List.drop_left' NF,←yX,List.take_left' (by simp only[List.length_map,hlen];omega)]
   ·simp only[bm.aI,D.ref] at hn;simp only[List.length_set];omega
theorem qJ (l:List Rg):(l.foldl dt []).length≤l.length:=by
 have key:∀(l acc:List Rg),(l.foldl dt acc).length≤acc.length+l.length:=by
  intro l
  induction l with
  |nil=>intro acc;simp
  |cons x l ih=>
   intro acc;simp only[List.foldl_cons,List.length_cons];have:=ih (dt acc x)
   have h2:(dt acc x).length≤acc.length+1:=by
    unfold dt;split
    ·simp
    ·split<;>simp
   omega
 have:=key l []
 simpa using this
theorem FG {l:List Rg} (h:∀x∈l,0≤x.2∧x.2≤1114111):∀x∈l.foldl dt [],0≤x.2∧x.2≤1114111:=by
 have key:∀(l acc:List Rg),(∀x∈l,0≤x.2∧x.2≤1114111)→(∀x∈acc,0≤x.2∧x.2≤1114111)→∀x∈l.foldl dt acc,0≤x.2∧x.2≤1114111:=by
  intro l
  induction l with
  |nil=>intro acc _ h x hx;exact h x hx
  |cons y l ih=>
   intro acc h1 h2;refine ih _ (fun x hx=>h1 x (List.mem_cons_of_mem _ hx)) fun x hx=>?_;have hy:=h1 y (List.mem_cons_self ..);unfold dt at hx
   split at hx
   ·simp only[List.mem_cons,List.not_mem_nil,or_false] at hx;rw[hx];exact hy
   ·rename_i k rest;have hk:=h2 k (List.mem_cons_self ..)
    split at hx
    ·rcases List.mem_cons.1 hx with rfl|hx
     ·simp only;omega
     ·exact h2 x (List.mem_cons_of_mem _ hx)
    ·rcases List.mem_cons.1 hx with rfl|hx
     ·exact hy
     ·exact h2 x hx
 exact key l [] h (fun x hx=>by cases hx)
theorem Dw (h:Rg) (t:List Rg):((h::t).reverse.map au)[t.length]?=some (au h):=by
 rw[List.getElem?_map,List.reverse_cons,List.getElem?_append_right (by simp)];simp
theorem Dv (h h':Rg) (t:List Rg):((h::t).reverse.map au).set t.length (au h')=(h'::t).reverse.map au:=by
 rw[List.reverse_cons,List.map_append,List.set_append_right _ _ (by simp)];simp
theorem Aa {s0:St} {x:D} {l:List Rg} (hx:V.Rows s0 2 x (l.map au)) (hl:l.length≤268435456):∃d,Ev pv 103 [x] s0 d s0∧∃all:List Rg,d=bf (all.foldl dt []).reverse∧all.Perm (l.flatMap dw)∧all.Pairwise fun a b=>a.1≤b.1:=by
 refine Ev.He rfl La rfl rfl rfl ?_;refine zE ?_;obtain⟨cD,hF,hH⟩:=ri s0;generalize ag .ro s0=S at*;have hx:=Arg.of hx cD;have oT:=iM l
 have hfi:∀i,((l.take i).flatMap dw).length≤2*l.length:=fun i=>by
  have:=iM (l.take i);simp only[List.length_take] at this;omega
 refine zQ 13 ?_;refine qn ?_;simp only[List.length_map];refine zQ 2 ?_;have hH:=hH.e_ 2;refine zQ 1 ?_;refine ah.loop (fun mm fr st=>∃(i:Nat) (y:D),fr.clean=⟨26,[x,aO fr 1,aO fr 2,y,.nul,aO fr 5,aO fr 6,aO fr 7,aO fr 8,aO fr 9,x,.int .i64 (l.length:Nat),.int .i64 (i:Nat),aO fr 13,aO fr 14,aO fr 15,aO fr 16,aO fr 17,aO fr 18,aO fr 19,aO fr 20,aO fr 21,aO fr 22,aO fr 23,aO fr 24,aO fr 25],[]⟩∧Has s0.bs.length S st [.aI y 2 (((l.take i).flatMap dw).map au)]∧(i+mm=l.length)∧((l.take i).flatMap dw=[]→y=.nul)) (l.length) ?_ ?_
 ·exact⟨0,.nul,rfl,hH,by omega,fun _=>rfl⟩
 rintro mm fr st ⟨i,y,hfr,hH,hi,HE⟩;rw[hfr];clear hfr;generalize aO fr=ee;clear fr;refine zQ 4 ?_;have hm:=hfi i;refine qq<|zP (fun h1=>?_) fun h1=>?_
 ·refine zQ 1 ?_
  obtain⟨q,hq⟩:∃q,l[i]?=some q:=⟨l[i]'(by omega),List.getElem?_eq_getElem _⟩
  have hr:=fX hq
  have FX:(l.take (i+1)).flatMap dw=(l.take i).flatMap dw++dw q:=by
   rw[List.take_add_one,hq];simp
  have UT:=pF q;refine zQ 4 ?_;refine qr fun UQ Sz=>?_;refine ab.eB rfl (ev rfl) (by assumption) rfl (by dsimp only[Fr.put,u1,u2]<;>rfl) ?_;refine qa hH fun k6 st HM hH=>?_;refine qS hH aS fun st hH=>?_;dsimp only[u2,u1,u3,u4,setMany,u5,u6,D.cells,Nat.reduceAdd,au] at hH;refine zQ 3 ?_;refine ab.bN (m:=2) hH rfl (ev rfl) (by exact aS) (by dsimp only[List.drop_succ_cons,List.drop_zero,List.take_succ_cons,List.take_zero,au]<;>rfl) rfl rfl (by dsimp only[Fr.put,u1,u2]<;>rfl) ?_;refine qv (CN q) ?_;refine ab.D9 hH rfl rfl rfl (by exact bZ) (fG _ _) rfl rfl rfl rfl rfl rfl rfl ⟨(Nat.le_of_ble_eq_true rfl),(Nat.le_of_ble_eq_true rfl)⟩ (fun _=>by dsimp only[Fr.put,u1,u2]<;>rfl) (by simp only[List.length_map];omega) (.inl hF) (fun PA st J' hH=>?_);dsimp only[u2,u1] at hH;refine zQ 6 ?_;exact⟨mm-1,by omega,⟨i+1,PA,rfl,(by rw[FX,List.map_append];exact hH.drop 1),by omega,by rw[FX];intro h;obtain⟨h3,h4⟩:=List.append_eq_nil_iff.1 h;rw[J' (by rw[h4];rfl)];exact HE h3⟩⟩
 ·refine zQ 1 ?_;have hT:l.take i=l:=List.take_of_length_le (by omega);rw[hT] at hH HE hm
  obtain⟨st2,all,aG,LM,hperm,oD⟩:=D6 hH aS HE (by omega) (fun z hz=>by
   obtain⟨w,_,hw⟩:=List.mem_flatMap.1 hz
   exact A4 w z hw)
  have hlen:=hperm.length_eq
  have hbd:∀z∈all,0≤z.2∧z.2≤1114111:=fun z hz=>by
   obtain⟨w,_,hw⟩:=List.mem_flatMap.1 (hperm.mem_iff.1 hz);have:=ni w z hw;omega
  refine zQ 3 ?_;refine qv (aG) ?_;refine zQ 1 ?_;have hH:=LM;dsimp only[u2] at hH;clear LM aG;have hR:=hH.rows aS;have hH:=hH.e_ 2;refine zQ 4 ?_;refine qn ?_ (hR:=hH.rows bZ);simp only[List.length_map];refine zQ 3 ?_;refine ah.loop (fun mm fr st=>∃(i:Nat) (z:D),fr.clean=⟨26,[x,aO fr 1,aO fr 2,y,z,aO fr 5,aO fr 6,aO fr 7,aO fr 8,aO fr 9,aO fr 10,aO fr 11,aO fr 12,aO fr 13,aO fr 14,aO fr 15,aO fr 16,aO fr 17,aO fr 18,aO fr 19,aO fr 20,aO fr 21,aO fr 22,y,.int .i64 (all.length:Nat),.int .i64 (i:Nat)],[]⟩∧Has s0.bs.length S st [.aI z 2 (((all.take i).foldl dt []).reverse.map au),.aI y 2 (all.map au)]∧(i+mm=all.length)) (all.length) ?_ ?_
  ·exact⟨0,.nul,rfl,hH,by omega⟩
  rintro mm fr st ⟨i,z,hfr,hH,hi⟩;rw[hfr];clear hfr;generalize aO fr=ee;clear fr;refine zQ 4 ?_
  have jU:((all.take i).foldl dt []).length≤all.length:=by
   have:=qJ (all.take i);simp only[List.length_take] at this;omega
  refine qq<|zP (fun h1=>?_) fun h1=>?_
  ·refine zQ 1 ?_
   obtain⟨q,hq⟩:∃q,all[i]?=some q:=⟨all[i]'(by omega),List.getElem?_eq_getElem _⟩
   have hr:=fX hq
   have HP:(all.take (i+1)).foldl dt []=dt ((all.take i).foldl dt []) q:=by
    rw[List.take_add_one,hq,List.foldl_append];rfl
   generalize F3:(all.take i).foldl dt []=acc at*;refine zQ 4 ?_;refine qi hH bZ fun UP Sy=>?_;refine ab.ue hH rfl (ev rfl) (by assumption) (by exact bZ) (by assumption) rfl (aa rfl _) ?_;refine qa hH fun k8 st LD hH=>?_;refine qS hH aS fun st hH=>?_;dsimp only[u2,u1,u3,u4,setMany,u5,u6,D.cells,Nat.reduceAdd,au] at hH;refine zQ 1 ?_
   rcases acc with _|⟨h,t⟩
   ·refine zQ 3 ?_;refine qn ?_ (hR:=hH.rows bZ);simp only[List.length_map,List.length_nil,List.length_reverse];refine ab.oM (z:=(-1)) rfl (ev rfl) (ev rfl) (by(try simp only[List.length_reverse,List.length_cons,List.length_nil,List.length_append,List.length_map,List.length_set]);rw[wrap_i64 (by omega) (by omega)]<;>omega) (aa rfl _) ?_;refine zQ 2 ?_;have ch:decide ((-1:Int)≥0)=false:=by decide
    refine qq<|ah.lB 44 (.bool false) [] ?_ (fun ff tmp gL=>?_)
    ·refine zQ 13 ?_;refine ab.nil (cA ?_ ?_)
     ·dsimp only[aX,List.foldl,nth,u2,u1]
      all_goals(first|rfl|simp)
     ·dsimp only[Fr.dg,Fr.put,Fr.clean,Fr.ev,Fr.get,nth,look,u1,u2,v1,v2,v4]
      all_goals(first|rfl|(simp[ch];done)|(simp_all;done)|(simp[ch];omega)|(simp_all;omega))
    dsimp only[aX,List.foldl,nth,u2,u1];dsimp only[Fr.dg,Fr.put,Fr.clean,Fr.ev,Fr.get,nth,look,u1,u2,v1,v2,v4];refine zQ 3 ?_;refine ab.bN (m:=2) hH rfl (ev rfl) (by exact aS) (by dsimp only[List.drop_succ_cons,List.drop_zero,List.take_succ_cons,List.take_zero,au]<;>rfl) rfl rfl (aa rfl _) ?_;refine qh (s:=2) (vs:=[_]) hH fun k59 st Kl hH=>?_;refine ab.bT (s:=2) hH rfl (ev rfl) (ev rfl) (by exact cU) (by exact hH.rows (by exact aS)) rfl rfl rfl rfl rfl rfl rfl ⟨(Nat.le_of_ble_eq_true rfl),(Nat.le_of_ble_eq_true rfl)⟩ (fun _=>(aa rfl _)) (by simp only[List.length_cons,List.length_nil,List.length_map,List.length_reverse]<;>omega) (by exact .inl hF) (fun LS st hH=>?_);dsimp only[u2,u1,u3,u4,setMany,u5,u6,D.cells,Nat.reduceAdd,au] at hH;refine zQ 6 ?_;exact⟨mm-1,by omega,⟨i+1,LS,rfl,(by rw[HP];exact hH.drop 2),by omega⟩⟩
   ·simp only[List.length_cons] at jU;refine zQ 3 ?_;refine qn ?_ (hR:=hH.rows bZ);simp only[List.length_map,List.length_cons,List.length_reverse];refine ab.oM (z:=((t.length:Nat):Int)) rfl (ev rfl) (ev rfl) (by(try simp only[List.length_reverse,List.length_cons,List.length_nil,List.length_append,List.length_map,List.length_set]);rw[wrap_i64 (by omega) (by omega)]<;>omega) (aa rfl _) ?_;refine zQ 2 ?_;have Am:=Dw h t;have iy:=Dv h (h.1,max h.2 q.2) t;have BC:=FG (l:=all.take i) (fun x hx=>hbd x (List.mem_of_mem_take hx)) h (by rw[F3];exact List.mem_cons_self ..);have ch:decide (((t.length:Nat):Int)≥0)=true:=by rw[decide_eq_true];omega
    refine qq<|ah.lB 44 (.bool (decide (q.1≤h.2+1))) [] ?_ (fun ff tmp gL=>?_)
    ·refine zQ 7 ?_;refine qi hH bZ (fun Ra Nr=>?_) (hg:=wi ch);refine ab.dz (fo:=1) (m:=0) (o2:=1) (ax rfl rfl rfl ch) (ev rfl) (by assumption) rfl rfl rfl (fun _=>(aa rfl _)) (fun Q_ Nq=>?_);refine zQ 1 ?_;refine ab.EE (ax rfl rfl rfl ch) (ev rfl) (ev rfl) (by omega) (by omega) (aa rfl _) ?_;refine zQ 2 ?_;refine ab.nil (cA ?_ ?_)
     ·dsimp only[aX,List.foldl,nth,u2,u1]
      all_goals(first|rfl|simp)
     ·dsimp only[Fr.dg,Fr.put,Fr.clean,Fr.ev,Fr.get,nth,look,u1,u2,v1,v2,v4]
      all_goals(first|rfl|(simp[ch];done)|(simp_all;done)|(simp[ch];omega)|(simp_all;omega))
    dsimp only[aX,List.foldl,nth,u2,u1];dsimp only[Fr.dg,Fr.put,Fr.clean,Fr.ev,Fr.get,nth,look,u1,u2,v1,v2,v4];refine ah.cond (by assumption) (fun h2=>?_) (fun h2=>?_)<;>try simp only[decide_eq_true_eq,decide_eq_false_iff_not] at h2
    ·refine zQ 5 ?_;refine qi hH bZ fun PQ JP=>?_;refine ab.dz (fo:=1) (m:=0) (o2:=1) rfl (ev rfl) (by assumption) rfl rfl rfl (fun _=>(aa rfl _)) (fun PO JO=>?_);refine zQ 3 ?_;refine ab.FC (t1:=0) (t2:=0) rfl (ev rfl) (ev rfl) (aa rfl _) ?_;refine qi hH bZ fun UF Sl=>?_;refine ab.dz (fo:=1) (m:=0) (o2:=1) rfl (ev rfl) (by assumption) rfl rfl rfl (fun _=>(aa rfl _)) (fun UE Sk=>?_);refine ab.nz hH rfl (ev rfl) (ev rfl) (by assumption) rfl rfl (by exact bZ) (by assumption) (Nat.le_of_ble_eq_true rfl) (by exact .inl hF) (fun st hH=>?_);dsimp only[u2,u1,u3,u4,setMany,u5,u6,D.cells,Nat.reduceAdd,au] at hH;refine zQ 5 ?_;exact⟨mm-1,by omega,⟨i+1,z,rfl,(by rw[HP];simp only[dt,if_pos h2];rw[←iy];exact hH.drop 1),by omega⟩⟩
    ·refine zQ 2 ?_;refine ab.bN (m:=2) hH rfl (ev rfl) (by exact aS) (by dsimp only[List.drop_succ_cons,List.drop_zero,List.take_succ_cons,List.take_zero,au]<;>rfl) rfl rfl (aa rfl _) ?_;refine qh (s:=2) (vs:=[_]) hH fun k59 st Kl hH=>?_;refine ab.bT (s:=2) hH rfl (ev rfl) (ev rfl) (by exact cU) (by exact hH.rows (by exact aS)) rfl rfl rfl rfl rfl rfl rfl ⟨(Nat.le_of_ble_eq_true rfl),(Nat.le_of_ble_eq_true rfl)⟩ (fun _=>(aa rfl _)) (by simp only[List.length_cons,List.length_nil,List.length_map,List.length_reverse]<;>omega) (by exact .inl hF) (fun LS st hH=>?_);dsimp only[u2,u1,u3,u4,setMany,u5,u6,D.cells,Nat.reduceAdd,au] at hH;refine zQ 6 ?_;exact⟨mm-1,by omega,⟨i+1,LS,rfl,(by rw[HP];simp only[dt,if_neg h2];rw[List.reverse_cons (a:=q),List.map_append];exact hH.drop 2),by omega⟩⟩
  ·refine zQ 6 ?_;rw[List.take_of_length_le (by omega)] at hH;refine ah.ret ⟨rx,_,_,rfl,rl cD hH ((hH.freeze aS (ec _) (n:=15) (by decide))),?_⟩;exact⟨all,by rw[hD],hperm,oD⟩
def iS (fr:Go.V.Fr) (k:Nat):Go.V.D:=Go.V.nth .bh fr.loc k
def gh (l a:List Rg):Prop:=canon a∧∀r,fu a r↔nK r∧fu l r
theorem gh.unique {l a b:List Rg} (h:gh l a) (g:gh l b):a=b:=mO h.1 g.1 fun r=>(h.2 r).trans (g.2 r).symm
noncomputable def eY (l:List Rg):Bool:=@decide (gh l l) (Classical.propDecidable _)
theorem A9 {l a:List Rg} (h:gh l a):eY l=decide (l=a):=by
 unfold eY
 by_cases hl:l=a
 ·rw[decide_eq_true hl];exact@decide_eq_true _ (Classical.propDecidable _) (by rw[hl] at h⊢;exact h)
 ·rw[decide_eq_false hl];exact@decide_eq_false _ (Classical.propDecidable _) (fun g=>hl (g.unique h))
theorem Bn (p q:Rg):lZ pv .neq 42 (.agg (au p)) (.agg (au q))=some (.bool (!decide (p=q))):=by
 have h:∀a b a' b':Int,lZ pv .neq 42 (.agg [.int .i32 a,.int .i32 b]) (.agg [.int .i32 a',.int .i32 b'])=Option.map (fun b=>D.bool !b) (match some (a==a') with|some true=>(match some (b==b') with|some true=>some true|some false=>some false|none=>none)|some false=>some false|none=>none):=fun _ _ _ _=>rfl;obtain⟨a,b⟩:=p;obtain⟨a',b'⟩:=q;simp only[au,h]
 by_cases h1:a=a'
 ·subst h1
  by_cases h2:b=b'
  ·subst h2;simp
  ·have:(b==b')=false:=by simpa using h2
   simp[this,h2]
 ·have:(a==a')=false:=by simpa using h1
  simp[this,h1]
theorem tR {α:Type} {a b:List α} {i:Nat} {x y:α} (ha:a[i]?=some x) (hb:b[i]?=some y) (h:a.take i=b.take i) (Jy:x=y):a.take (i+1)=b.take (i+1):=by
 rw[List.take_add_one,List.take_add_one,h,ha,hb,Jy]
theorem Bo {α:Type} {a b:List α} {i:Nat} {x y:α} (ha:a[i]?=some x) (hb:b[i]?=some y) (Jy:¬x=y):¬a=b:=by
 intro h;subst h;rw[ha] at hb;exact Jy (Option.some.inj hb)
theorem Ed {s0:St} {x y:D} {l m:List Rg} (hx:V.Rows s0 2 x (l.map au)) (hy:V.Rows s0 2 y (m.map au)) (hl:l.length≤1073741824) (hm:m.length≤1073741824):Ev pv 102 [x,y] s0 (.bool (decide (l=m))) s0:=by
 refine Ev.o9 rfl Lb rfl rfl rfl ?_;refine zE ?_;obtain⟨cD,hF,hH⟩:=ri s0;generalize ag .ro s0=S at*;have hx:=Arg.of hx cD;have hy:=Arg.of hy cD;refine zQ 8 ?_;refine qn ?_;simp only[List.length_map];refine qm ?_;refine qn ?_;simp only[List.length_map];refine zQ 2 ?_
 by_cases hlen:l.length=m.length
 ·refine ah.cond (v:=false) ?_ (fun h=>by cases h) (fun _=>?_)
  ·dsimp only[Fr.ev,Fr.get,nth,V.look];rw[hlen];simp
  refine zQ 5 ?_;refine qn ?_;simp only[List.length_map];refine zQ 3 ?_;refine ah.loop (fun mm fr st=>∃(i:Nat),fr.clean=⟨14,[x,y,iS fr 2,iS fr 3,.bool false,iS fr 5,iS fr 6,iS fr 7,iS fr 8,iS fr 9,iS fr 10,iS fr 11,.int .i64 (l.length:Nat),.int .i64 (i:Nat)],[]⟩∧Has s0.bs.length S st []∧(i+mm=l.length)∧(l.take i=m.take i)) (l.length) ?_ ?_
  ·exact⟨0,rfl,hH,by omega,rfl⟩
  rintro mm fr st ⟨i,hfr,hH,hi,ht⟩;rw[hfr];clear hfr;generalize iS fr=ee;clear fr;refine zQ 5 ?_;refine zP (fun h1=>?_) fun h1=>?_
  ·refine zQ 1 ?_
   obtain⟨p,hp⟩:∃p,l[i]?=some p:=⟨l[i]'(by omega),List.getElem?_eq_getElem _⟩
   obtain⟨q,hq⟩:∃q,m[i]?=some q:=⟨m[i]'(by omega),List.getElem?_eq_getElem _⟩
   have iH:=fX hp;have oS:=fX hq;refine zQ 11 ?_;refine qr fun PX JV=>?_;refine ab.eB rfl (ev rfl) (by assumption) rfl (aa rfl _) ?_;refine zQ 2 ?_;refine qr fun Ma HA=>?_;refine ab.eB rfl (ev rfl) (by assumption) rfl (aa rfl _) ?_;refine ab.Mx rfl (ev rfl) (ev rfl) (Bn p q) (aa rfl _) ?_;refine zQ 1 ?_;refine ah.cond (by rfl) (fun h2=>?_) (fun h2=>?_)<;>try simp only[decide_eq_true_eq,decide_eq_false_iff_not,Bool.not_eq_true',Bool.not_eq_false'] at h2
   ·refine zQ 4 ?_;rw[decide_eq_false (Bo hp hq (by simpa using h2))];refine ah.ret ⟨rx,_,rfl,rl cD hH (rfl)⟩
   ·refine zQ 5 ?_;exact⟨mm-1,by omega,⟨i+1,rfl,hH,by omega,tR hp hq ht (by simpa using h2)⟩⟩
  ·refine zQ 5 ?_;rw[decide_eq_true (by rw[List.take_of_length_le (by omega),List.take_of_length_le (by omega)] at ht;exact ht)];refine ah.ret ⟨rx,_,rfl,rl cD hH (rfl)⟩
 ·refine ah.cond (v:=true) ?_ (fun _=>?_) (fun h=>by cases h)
  ·dsimp only[Fr.ev,Fr.get,nth,V.look];simp;omega
  refine zQ 4 ?_;rw[decide_eq_false (fun h=>hlen (by rw[h]))];refine ah.ret ⟨rx,_,rfl,rl cD hH (rfl)⟩
theorem vG {s0:St} {x:D} {l:List Rg} (hx:V.Rows s0 2 x (l.map au)) (hl:l.length≤1048576):Ev pv 77 [x] s0 (.bool (eY l)) s0:=by
 refine Ev.o9 rfl OI rfl rfl rfl ?_;refine zE ?_;obtain⟨cD,hF,hH⟩:=ri s0;generalize ag .ro s0=S at*;have hx:=Arg.of hx cD;refine zQ 4 ?_;obtain⟨_,aG,all,rfl,hperm,oD⟩:=Aa (hx.rows hH) (by omega);have hM:gh l (all.foldl dt []).reverse:=qw (fun x=>hperm.mem_iff) oD;have hlen:=hperm.length_eq;have oT:=iM l;have jU:=qJ all;rw[A9 hM];refine zQ 4 ?_;refine qv (aG) ?_;refine qv (Ed (hx.rows hH) (fG _ _) (by omega) (by rw[List.length_reverse];omega)) ?_;refine zQ 2 ?_;refine ah.ret ⟨rx,_,rfl,rl cD hH (rfl)⟩
structure aC where
 op:Int
 x:Int
 y:Int
 rd:D
 rs:List Rg
def aK (i:aC):List D:=[.int .i64 i.op,.int .i64 i.x,.int .i64 i.y,i.rd]
def aC.ok (i:aC):Prop:=gU i.rd 2 (i.rs.map au)∧i.rs.length≤1048576
def az (n:Int):List D:=[.int .i64 n]
structure Pg where
 cd:D
 code:List aC
 sd:D
 av:List Int
structure Pg.ok (p:Pg):Prop where
 c:gU p.cd 4 (p.code.map aK)
 s:gU p.sd 1 (p.av.map az)
 i:∀x∈p.code,x.ok
 cl:p.code.length≤1048576
 sl:p.av.length≤1048576
def Pg.cs (p:Pg):List D:=[p.cd,p.sd]
def Pg.d (p:Pg):D:=.agg p.cs
theorem iF {l:List aC} {i:Nat} {q:aC} (h:l[i]?=some q):(l.map aK)[i]?=some (aK q):=by rw[List.getElem?_map,h];rfl
theorem fL {l:List Int} {i:Nat} {q:Int} (h:l[i]?=some q):(l.map az)[i]?=some (az q):=by rw[List.getElem?_map,h];rfl
def qY (v n:Int):Bool:=decide (v≥0) &&decide (v<n)
noncomputable def cT (n ns pc:Nat) (i:aC):Bool:=
 if i.op=1 then i.y==0 &&(decide (((pc+1:Nat):Int)<n) &&i.x==0 &&eY i.rs)
 else i.rs.isEmpty &&
  (if i.op=2 then qY i.x n &&qY i.y n
  else i.y==0 &&
   (if i.op=3 then qY i.x n
   else if i.op=4 then decide (((pc+1:Nat):Int)<n) &&qY i.x 10
   else if i.op=5∨i.op=6 then decide (((pc+1:Nat):Int)<n) &&i.x==0
   else if i.op=7 then qY i.x ns
   else false))
theorem gO {s0:St} (v n:Int):Ev pv 49 [.int .i64 v,.int .i64 n] s0 (.bool (qY v n)) s0:=by
 refine Ev.o9 rfl OV rfl rfl rfl ?_;refine zE ?_;obtain⟨cD,hF,hH⟩:=ri s0;generalize ag .ro s0=S at*;refine zQ 5 ?_;refine ah.mH 4 (.bool (decide (v≥0) &&decide (v<n))) [] ?_ (fun ff tmp=>?_)
 ·refine zQ 3 ?_;refine ab.two 7 rfl (fun ch=>?_) (fun ch=>?_)
  ·refine zQ 5 ?_;refine ab.nil (aT ?_);refine zG ?_
   all_goals(simp[ch];done)
  ·refine zQ 5 ?_;refine ab.nil (aT ?_);refine zG ?_
   all_goals(simp[ch];done)
 dsimp only[aX,List.foldl,nth,u2,u1];refine ah.ret ⟨rx,_,rfl,rl cD hH (rfl)⟩
theorem AZ {s0:St} {p:Pg} {pc:Nat} {i:aC} (hp:p.ok) (hi:p.code[pc]?=some i):Ev pv 48 [p.d,.int .i64 (pc:Nat)] s0 (.bool (cT p.code.length p.av.length pc i)) s0:=by
 refine Ev.o9 rfl OW rfl rfl rfl ?_;refine zE ?_;obtain⟨cD,hF,hH⟩:=ri s0;generalize ag .ro s0=S at*;have hc:=hp.c.arg s0.bs.length S;have hs:=hp.s.arg s0.bs.length S;have Ks:=hp.i i (List.mem_of_getElem? hi);have NT:=Ks.1.arg s0.bs.length S;have hil:=Ks.2;have hcl:=hp.cl;have jT:=hp.sl;have hr:=iF hi;have hlt:=aR hi;unfold Pg.d;refine zQ 2 ?_;refine qb hH fun k2 st hk2 hH=>?_;dsimp only[u2,u1,u3,u4,setMany,u5,u6,D.cells,Nat.reduceAdd,Pg.cs,aK,az] at hH;refine zQ 7 ?_;refine qr fun Rk NB=>?_;refine ab.eB rfl (ev rfl) (by assumption) rfl (by dsimp only[Fr.put,u1,u2]<;>rfl) ?_;refine qa hH fun k5 st II hH=>?_;refine qS hH aS fun st hH=>?_;dsimp only[u2,u1,u3,u4,setMany,u5,u6,D.cells,Nat.reduceAdd,Pg.cs,aK,az] at hH;refine zQ 7 ?_;refine qn ?_;simp only[List.length_map];refine zQ 5 ?_;refine ah.mH 36 (.bool (((i.op !=1) &&decide ((i.rs.length:Int)>0))||((i.op !=2) &&(i.y !=0)))) [18,19,20,21,22,23,24,25,26,27,28,29,30,31,32,33,34,35] ?_ (fun ff tmp=>?_)
 ·refine zQ 4 ?_;refine ab.two 21 rfl (fun eI=>?_) (fun eI=>?_)
  ·refine zQ 2 ?_;refine qn ?_ (hg:=wi eI);simp only[List.length_map];refine zQ 3 ?_;refine ab.two 27 rfl (fun gA=>?_) (fun gA=>?_)
   ·refine zQ 9 ?_;refine ab.nil (aT ?_);refine zG ?_
    all_goals(simp_all;done)
   ·refine zQ 4 ?_;refine ab.two 31 rfl (fun jo=>?_) (fun jo=>?_)
    ·refine zQ 3 ?_;refine ab.cz (ax rfl rfl rfl gA) rfl jo (by dsimp only[Fr.put,u1,u2]<;>rfl) ?_;refine zQ 1 ?_;refine ab.nil (aT ?_);refine zG ?_
     all_goals(simp_all;done)
    ·refine zQ 3 ?_;refine ab.b_ (ax rfl rfl rfl gA) rfl jo (by dsimp only[Fr.put,u1,u2]<;>rfl) ?_;refine zQ 1 ?_;refine ab.nil (aT ?_);refine zG ?_
     all_goals(simp_all;done)
  ·refine zQ 10 ?_;refine ab.two 31 rfl (fun jo=>?_) (fun jo=>?_)
   ·refine zQ 5 ?_;refine ab.nil (aT ?_);refine zG ?_
    all_goals(simp[eI,jo];done)
   ·refine zQ 5 ?_;refine ab.nil (aT ?_);refine zG ?_
    all_goals(simp[eI,jo];done)
 dsimp only[aX,List.foldl,nth,u2,u1];generalize ff 18=Vq;generalize ff 19=Vp;generalize ff 20=Vo;generalize ff 21=Vn;generalize ff 22=Vm;generalize ff 23=Vl;generalize ff 24=Vk;generalize ff 25=Vj;generalize ff 26=Vi;generalize ff 27=Vh;generalize ff 28=Vg;generalize ff 29=Vf;generalize ff 30=Ve;generalize ff 31=Vd;generalize ff 32=Vc;generalize ff 33=Vb;generalize ff 34=Va;generalize ff 35=U';have Kh:(i.rs.isEmpty=!decide ((i.rs.length:Int)>0)):=by cases i.rs<;>simp<;>omega
 have hsh:cT p.code.length p.av.length pc i=if((i.op !=1) &&decide ((i.rs.length:Int)>0))||((i.op !=2) &&(i.y !=0)) then false else
   (if i.op=1 then(decide (((pc+1:Nat):Int)<p.code.length) &&i.x==0) &&eY i.rs
   else if i.op=2 then qY i.x p.code.length &&qY i.y p.code.length
   else if i.op=3 then qY i.x p.code.length
   else if i.op=4 then decide (((pc+1:Nat):Int)<p.code.length) &&qY i.x 10
   else if i.op=5 then decide (((pc+1:Nat):Int)<p.code.length) &&i.x==0
   else if i.op=6 then decide (((pc+1:Nat):Int)<p.code.length) &&i.x==0
   else if i.op=7 then qY i.x p.av.length
   else false):=by
  unfold cT;rw[Kh];generalize decide ((i.rs.length:Int)>0)=b
  by_cases h1:i.op=1
  ·have h2:i.op≠2:=by omega
   simp only[h1];cases b<;>by_cases hy:i.y=0<;>simp[hy]
  ·by_cases h2:i.op=2
   ·simp only[h2];cases b<;>simp
   ·by_cases QD:i.op=5
    ·simp only[QD];cases b<;>by_cases hy:i.y=0<;>simp[hy]
    ·cases b<;>by_cases hy:i.y=0<;>simp[h1,h2,QD,hy]
 rw[hsh];refine qc (fun h0=>?_) (fun h0=>?_)<;>try simp only[cs] at h0
 ·refine zQ 4 ?_;rw[if_pos h0];refine ah.ret ⟨rx,_,rfl,rl cD hH (rfl)⟩
 ·rw[if_neg (by rw[h0];simp)];refine zQ 13 ?_;refine zI (fun h1=>?_) fun h1=>?_
  ·rw[if_pos h1];refine qq<|ah.mH 4 (.bool ((decide (((pc+1:Nat):Int)<p.code.length) &&(i.x==0)) &&eY i.rs)) [] ?_ (fun ff tmp=>?_)
   ·refine zQ 2 ?_;refine ab.two 42 rfl (fun jV=>?_) (fun jV=>?_)
    ·refine zQ 5 ?_;refine ab.two 47 rfl (fun eQ=>?_) (fun eQ=>?_)
     ·refine zQ 2 ?_;refine qv (vG (NT.rows hH) hil) ?_ (hg:=wi eQ);refine zQ 2 ?_;refine ab.nil (aT ?_);refine zG ?_
      all_goals(simp[jV,eQ];done)
     ·refine zQ 5 ?_;refine ab.nil (aT ?_);refine zG ?_
      all_goals(simp[jV,eQ];done)
    ·refine zQ 10 ?_;refine ab.nil (aT ?_);refine zG ?_
     all_goals(simp[jV];done)
   dsimp only[aX,List.foldl,nth,u2,u1];refine ah.ret ⟨rx,_,rfl,rl cD hH (rfl)⟩
  ·rw[if_neg h1];refine zQ 5 ?_;refine zI (fun h2=>?_) fun h2=>?_
   ·rw[if_pos h2];refine qq<|ah.mH 4 (.bool (qY i.x p.code.length &&qY i.y p.code.length)) [] ?_ (fun ff tmp=>?_)
    ·refine zQ 4 ?_;refine qn ?_;simp only[List.length_map];refine qv (gO _ _) ?_;refine qm ?_;refine ab.two 60 rfl (fun eQ=>?_) (fun eQ=>?_)
     ·refine zQ 4 ?_;refine qn ?_ (hg:=wi eQ);simp only[List.length_map];refine qv (gO _ _) ?_ (hg:=wi eQ);refine zQ 2 ?_;refine ab.nil (aT ?_);refine zG ?_
      all_goals(simp[eQ];done)
     ·refine zQ 8 ?_;refine ab.nil (aT ?_);refine zG ?_
      all_goals(simp[eQ];done)
    dsimp only[aX,List.foldl,nth,u2,u1];refine ah.ret ⟨rx,_,rfl,rl cD hH (rfl)⟩
   ·rw[if_neg h2];refine zQ 5 ?_;refine zI (fun h3=>?_) fun h3=>?_
    ·rw[if_pos h3];refine zQ 6 ?_;refine qn ?_;simp only[List.length_map];refine qv (gO _ _) ?_;refine zQ 2 ?_;refine ah.ret ⟨rx,_,rfl,rl cD hH (rfl)⟩
    ·rw[if_neg h3];refine zQ 5 ?_;refine zI (fun h4=>?_) fun h4=>?_
     ·rw[if_pos h4];refine qq<|ah.mH 4 (.bool (decide (((pc+1:Nat):Int)<p.code.length) &&qY i.x 10)) [] ?_ (fun ff tmp=>?_)
      ·refine zQ 2 ?_;refine ab.two 79 rfl (fun jV=>?_) (fun jV=>?_)
       ·refine zQ 2 ?_;refine qv (gO _ _) ?_ (hg:=wi jV);refine zQ 2 ?_;refine ab.nil (aT ?_);refine zG ?_
        all_goals(simp[jV];done)
       ·refine zQ 5 ?_;refine ab.nil (aT ?_);refine zG ?_
        all_goals(simp[jV];done)
      dsimp only[aX,List.foldl,nth,u2,u1];refine ah.ret ⟨rx,_,rfl,rl cD hH (rfl)⟩
     ·rw[if_neg h4];refine zQ 6 ?_
      by_cases h5:i.op=5
      ·rw[if_pos h5];refine qD rfl (by simp[h5]) ?_;refine zQ 1 ?_;refine qD rfl (by simp[h5]) ?_;refine qq<|ah.mH 4 (.bool (decide (((pc+1:Nat):Int)<p.code.length) &&(i.x==0))) [] ?_ (fun ff tmp=>?_)
       ·refine zQ 2 ?_;refine ab.two 88 rfl (fun jV=>?_) (fun jV=>?_)
        ·refine zQ 5 ?_;refine ab.nil (aT ?_);refine zG ?_
         all_goals(simp[jV];done)
        ·refine zQ 5 ?_;refine ab.nil (aT ?_);refine zG ?_
         all_goals(simp[jV];done)
       dsimp only[aX,List.foldl,nth,u2,u1];refine ah.ret ⟨rx,_,rfl,rl cD hH (rfl)⟩
      ·rw[if_neg h5];refine qE rfl (by simp[h5]) ?_;refine zQ 4 ?_;refine zI (fun h6=>?_) fun h6=>?_
       ·rw[if_pos h6];refine qq<|ah.mH 4 (.bool (decide (((pc+1:Nat):Int)<p.code.length) &&(i.x==0))) [] ?_ (fun ff tmp=>?_)
        ·refine zQ 2 ?_;refine ab.two 88 rfl (fun jV=>?_) (fun jV=>?_)
         ·refine zQ 5 ?_;refine ab.nil (aT ?_);refine zG ?_
          all_goals(simp[jV];done)
         ·refine zQ 5 ?_;refine ab.nil (aT ?_);refine zG ?_
          all_goals(simp[jV];done)
        dsimp only[aX,List.foldl,nth,u2,u1];refine ah.ret ⟨rx,_,rfl,rl cD hH (rfl)⟩
       ·rw[if_neg h6];refine zQ 5 ?_;refine zI (fun h7=>?_) fun h7=>?_
        ·rw[if_pos h7];refine zQ 6 ?_;refine qn ?_;simp only[List.length_map];refine qv (gO _ _) ?_;refine zQ 2 ?_;refine ah.ret ⟨rx,_,rfl,rl cD hH (rfl)⟩
        ·rw[if_neg h7];refine zQ 5 ?_;refine ah.ret ⟨rx,_,rfl,rl cD hH (rfl)⟩
def b7 (c:Nat):Int×Nat×Nat:=
 if c<128 then(0,0,0) else if c<194 then(-1,0,0) else if c<224 then(1,128,191) else if c=224 then(2,160,191) else if c=237 then(2,128,159)
 else if c<240 then(2,128,191) else if c=240 then(3,144,191) else if c<244 then(3,128,191) else if c=244 then(3,128,143) else(-1,0,0)
theorem FA (c:Nat) (st:St):Ev pv 85 [.int .u8 c] st (.tup [.int .i64 (b7 c).1,.int .u8 (b7 c).2.1,.int .u8 (b7 c).2.2]) st:=by
 refine Ev.o9 rfl OH rfl rfl rfl ?_;refine zE ?_;refine zR ?_;refine ah.seq (ah.block ?_);refine zR ?_;(repeat refine qq ?_);refine qc (fun h1=>?_) (fun h1=>?_)<;>try simp only[cs] at h1
 ·refine zR ?_;refine ah.ret ⟨rx,_,rfl,bu (by simp) (by simp[ag]) ?_⟩;rw[show b7 c=(0,0,0) by unfold b7;rw[if_pos (by omega)]];rfl
 refine zR ?_;(repeat refine qq ?_);refine qc (fun h2=>?_) (fun h2=>?_)<;>try simp only[cs] at h2
 ·refine zR ?_;refine ah.ret ⟨rx,_,rfl,bu (by simp) (by simp[ag]) ?_⟩;rw[show b7 c=(-1,0,0) by unfold b7;rw[if_neg (by omega),if_pos (by omega)]];rfl
 refine zR ?_;(repeat refine qq ?_);refine qc (fun h3=>?_) (fun h3=>?_)<;>try simp only[cs] at h3
 ·refine zR ?_;refine ah.ret ⟨rx,_,rfl,bu (by simp) (by simp[ag]) ?_⟩;rw[show b7 c=(1,128,191) by unfold b7;rw[if_neg (by omega),if_neg (by omega),if_pos (by omega)]];rfl
 refine zR ?_;(repeat refine qq ?_);refine qc (fun h4=>?_) (fun h4=>?_)<;>try simp only[cs] at h4
 ·refine zR ?_;refine ah.ret ⟨rx,_,rfl,bu (by simp) (by simp[ag]) ?_⟩;rw[show b7 c=(2,160,191) by unfold b7;rw[if_neg (by omega),if_neg (by omega),if_neg (by omega),if_pos (by omega)]];rfl
 refine zR ?_;(repeat refine qq ?_);refine qc (fun h5=>?_) (fun h5=>?_)<;>try simp only[cs] at h5
 ·refine zR ?_;refine ah.ret ⟨rx,_,rfl,bu (by simp) (by simp[ag]) ?_⟩;rw[show b7 c=(2,128,159) by unfold b7;rw[if_neg (by omega),if_neg (by omega),if_neg (by omega),if_neg (by omega),if_pos (by omega)]];rfl
 refine zR ?_;(repeat refine qq ?_);refine qc (fun h6=>?_) (fun h6=>?_)<;>try simp only[cs] at h6
 ·refine zR ?_;refine ah.ret ⟨rx,_,rfl,bu (by simp) (by simp[ag]) ?_⟩;rw[show b7 c=(2,128,191) by unfold b7;rw[if_neg (by omega),if_neg (by omega),if_neg (by omega),if_neg (by omega),if_neg (by omega),if_pos (by omega)]];rfl
 refine zR ?_;(repeat refine qq ?_);refine qc (fun h7=>?_) (fun h7=>?_)<;>try simp only[cs] at h7
 ·refine zR ?_;refine ah.ret ⟨rx,_,rfl,bu (by simp) (by simp[ag]) ?_⟩;rw[show b7 c=(3,144,191) by unfold b7;rw[if_neg (by omega),if_neg (by omega),if_neg (by omega),if_neg (by omega),if_neg (by omega),if_neg (by omega),if_pos (by omega)]];rfl
 refine zR ?_;(repeat refine qq ?_);refine qc (fun h8=>?_) (fun h8=>?_)<;>try simp only[cs] at h8
 ·refine zR ?_;refine ah.ret ⟨rx,_,rfl,bu (by simp) (by simp[ag]) ?_⟩;rw[show b7 c=(3,128,191) by unfold b7;rw[if_neg (by omega),if_neg (by omega),if_neg (by omega),if_neg (by omega),if_neg (by omega),if_neg (by omega),if_neg (by omega),if_pos (by omega)]];rfl
 refine zR ?_;(repeat refine qq ?_);refine qc (fun h9=>?_) (fun h9=>?_)<;>try simp only[cs] at h9
 ·refine zR ?_;refine ah.ret ⟨rx,_,rfl,bu (by simp) (by simp[ag]) ?_⟩;rw[show b7 c=(3,128,143) by unfold b7;rw[if_neg (by omega),if_neg (by omega),if_neg (by omega),if_neg (by omega),if_neg (by omega),if_neg (by omega),if_neg (by omega),if_neg (by omega),if_pos (by omega)]];rfl
 refine ah.skip<|zR ?_;refine ah.ret ⟨rx,_,rfl,bu (by simp) (by simp[ag]) ?_⟩;rw[show b7 c=(-1,0,0) by unfold b7;rw[if_neg (by omega),if_neg (by omega),if_neg (by omega),if_neg (by omega),if_neg (by omega),if_neg (by omega),if_neg (by omega),if_neg (by omega),if_neg (by omega)]];rfl
def je:(left n r lo hi:Nat)→List UInt8→Nat×Nat×Bool
 |0,n,r,_,_,_=>(r,n,false)
 |left+1,n,r,lo,hi,[]=>(0,0,true)
 |left+1,n,r,lo,hi,x::xs=>if x.toNat<lo∨hi<x.toNat then(0,0,false) else je left n (r*64+x.toNat %64) 128 191 xs
def gB:List UInt8→Nat×Nat×Bool
 |[]=>(0,0,false)
 |c::xs=>if(b7 c.toNat).1<0 then(0,0,false)
   else je (b7 c.toNat).1.toNat ((b7 c.toNat).1.toNat+1) (if(b7 c.toNat).1>0 then c.toNat %(64/2^(b7 c.toNat).1.toNat) else c.toNat) (b7 c.toNat).2.1 (b7 c.toNat).2.2 xs
theorem ow (c:Nat):(b7 c).1=-1∨(b7 c).1=0∨(b7 c).1=1∨(b7 c).1=2∨(b7 c).1=3:=by
 unfold b7
 repeat' split
 all_goals simp
theorem AK {w a j:Nat} (ha:a<2^w) (hj:2^j-1<2^w):(BitVec.ofInt w (a:Int) &&&BitVec.ofInt w ((2^j-1:Nat):Int)).toNat=a %2^j:=by
 rw[bv_and ha hj,Nat.and_two_pow_sub_one_eq_mod]
theorem gj (b:List UInt8):(V.byteCells b).length=b.length:=by simp[V.byteCells]
theorem sr {b:List UInt8} {i:Nat} {y:UInt8} (h:b[i]?=some y):(V.byteCells b)[i]?=some [.int .u8 (y.toNat:Nat)]:=by
 simp[V.byteCells,h]
theorem Gl (y:UInt8):y.toNat<256:=y.toNat_lt
theorem LX {r y:Nat} (hr:r<33554432) (hy:y<256):bz .i32 ((BitVec.ofInt 32 (bz .i32 ((r:Int)*2^(min (Int.toNat 6) 32)))|||BitVec.ofInt 32 (bz .i32 (bz .u8 ((BitVec.ofInt 8 (y:Int) &&&BitVec.ofInt 8 63).toNat:Nat)))).toNat:Nat)=((r*64+y %64:Nat):Int):=by
 have h1:(BitVec.ofInt 8 (y:Int) &&&BitVec.ofInt 8 63).toNat=y %64:=AK (w:=8) (j:=6) hy (by decide);rw[h1]
 have h2:((r:Int)*2^(min (Int.toNat 6) 32))=((r*64:Nat):Int):=by
  have:(2:Int)^(min (Int.toNat 6) 32)=64:=by decide
  rw[this];simp
 rw[h2,eK (k:=.i32) (m:=r*64) (by simp only[lQ];omega),eK (k:=.u8) (m:=y %64) (by simp only[lQ];omega),eK (k:=.i32) (m:=y %64) (by simp only[lQ];omega)];rw[Ll (by omega) (by omega)]
 have h3:(r*64)|||(y %64)=r*64+y %64:=by
  have:=Nat.two_pow_add_eq_or_of_lt (i:=6) (b:=y %64) (by omega) r;have e:(2:Nat)^6=64:=by decide
  rw[e] at this;rw[Nat.mul_comm r 64,this]
 rw[h3,eK (k:=.i32) (m:=r*64+y %64) (by simp only[lQ];omega)]
theorem Jl {c j:Nat} (hc:c<256) (hj:j≤8) {m:Int} (hm:m=((2^j-1:Nat):Int)):bz .i32 ((BitVec.ofInt 32 (bz .i32 (c:Nat)) &&&BitVec.ofInt 32 m).toNat:Nat)=((c %2^j:Nat):Int):=by
 have h1:2^j≤2^8:=Nat.pow_le_pow_right (by omega) hj;rw[hm,eK (k:=.i32) (m:=c) (by simp only[lQ];omega),AK (w:=32) (by omega) (by omega)];have:c %2^j≤c:=Nat.mod_le _ _;rw[eK (k:=.i32) (by simp only[lQ];omega)]
theorem mask {c j:Nat} (hc:c<256) (hj:j≤8) {m:Int} (hm:m=((2^j-1:Nat):Int)):bz .i32 ((BitVec.ofInt IntKind.i32.bits (bz .i32 (c:Nat)) &&&BitVec.ofInt IntKind.i32.bits m).toNat:Nat)=((c %2^j:Nat):Int):=Jl hc hj hm
theorem QY {r y:Nat} (hr:r<33554432) (hy:y<256):bz .i32 ((BitVec.ofInt IntKind.i32.bits (bz .i32 ((r:Int)*2^(min (Int.toNat 6) IntKind.i32.bits)))|||BitVec.ofInt IntKind.i32.bits (bz .i32 (bz .u8 ((BitVec.ofInt IntKind.u8.bits (y:Int) &&&BitVec.ofInt IntKind.u8.bits 63).toNat:Nat)))).toNat:Nat)=((r*64+y %64:Nat):Int):=LX hr hy
theorem Ea {st:St} {x:D} {b:List UInt8} (hb:Bytes st x b):Ev pv 61 [x] st (.tup [.int .i32 ((gB b).1:Nat),.int .i64 ((gB b).2.1:Nat),.bool (gB b).2.2]) st:=by
 refine Ev.o9 rfl OT rfl rfl rfl ?_;refine zE ?_;have dW:=hb.enter .ro;(try refine qy ?_);(repeat refine qq ?_);(try generalize hK:b6 _ _ _ _=K);refine ah.fF ?_;(repeat(first|refine xT ?_|refine xL ?_|refine xN ?_|refine xo ?_|refine xp ?_));refine ab.nil ?_;(try refine zF ?_);(try subst hK);(try refine qy ?_);(repeat refine qq ?_);(try generalize hK:b6 _ _ _ _=K);refine ah.fF ?_
 (first|refine xT ?_|refine xL ?_|refine xN ?_|refine xo ?_|refine xp ?_)
 refine ab.len rfl rfl rfl dW rfl ?_;(repeat(first|refine xT ?_|refine xL ?_|refine xN ?_|refine xo ?_|refine xp ?_));refine ab.nil ?_;(try refine zF ?_);(try subst hK);(try refine qy ?_);(repeat refine qq ?_);refine qc (fun h1=>?_) (fun h1=>?_)<;>try simp only[cs] at h1
 ·(try refine qy ?_);(repeat refine qq ?_);(try generalize hK:b6 _ _ _ _=K);refine ah.fF ?_;(repeat(first|refine xT ?_|refine xL ?_|refine xN ?_|refine xo ?_|refine xp ?_));refine ab.nil ?_;(try refine zF ?_);(try subst hK);(try refine qy ?_);refine ah.ret ⟨rx,_,rfl,bu (by simp) (by simp[ag]) ?_⟩
  obtain rfl:b=[]:=by cases b with|nil=>rfl|cons c b=>simp[V.byteCells] at h1;omega
  rfl
 refine ah.skip ?_
 obtain⟨c,xs,rfl⟩:∃c xs,b=c::xs:=by cases b with|nil=>simp[V.byteCells] at h1|cons c b=>exact⟨c,b,rfl⟩
 obtain⟨k,lo,hi,hm⟩:∃k lo hi,b7 c.toNat=(k,lo,hi):=⟨_,_,_,rfl⟩
 have NI:=FA c.toNat (ag .ro st);rw[hm] at NI;have hk:=ow c.toNat;rw[hm] at hk;have hc:=Gl c;(try refine qy ?_);(repeat refine qq ?_);(try generalize hK:b6 _ _ _ _=K);refine ah.fF ?_
 (first|refine xT ?_|refine xL ?_|refine xN ?_|refine xo ?_|refine xp ?_)
 refine ab.iG rfl rfl rfl (fun _=>rfl) rfl rfl dW rfl rfl (by omega) rfl rfl (fun p=>?_);refine ab.GO rfl rfl rfl NI ?_;(repeat(first|refine xT ?_|refine xL ?_|refine xN ?_|refine xo ?_|refine xp ?_));refine ab.nil ?_;(try refine zF ?_);(try subst hK);(try refine qy ?_);(repeat refine qq ?_);(try generalize hK:b6 _ _ _ _=K);refine ah.fF ?_;(repeat(first|refine xT ?_|refine xL ?_|refine xN ?_|refine xo ?_|refine xp ?_));refine ab.nil ?_;(try refine zF ?_);(try subst hK);(try refine qy ?_);(repeat refine qq ?_);refine qc (fun h2=>?_) (fun h2=>?_)<;>try simp only[cs] at h2
 ·(try refine qy ?_);(repeat refine qq ?_);(try generalize hK:b6 _ _ _ _=K);refine ah.fF ?_;(repeat(first|refine xT ?_|refine xL ?_|refine xN ?_|refine xo ?_|refine xp ?_));refine ab.nil ?_;(try refine zF ?_);(try subst hK);(try refine qy ?_);refine ah.ret ⟨rx,_,rfl,bu (by simp) (by simp[ag]) ?_⟩;simp only[gB,hm];rw[if_pos h2];rfl
 refine ah.skip ?_;(try refine qy ?_);(repeat refine qq ?_);(try generalize hK:b6 _ _ _ _=K);refine ah.fF ?_
 (first|refine xT ?_|refine xL ?_|refine xN ?_|refine xo ?_|refine xp ?_)
 refine ab.iG rfl rfl rfl (fun _=>rfl) rfl rfl dW rfl rfl (by omega) rfl rfl (fun p=>?_);(repeat(first|refine xT ?_|refine xL ?_|refine xN ?_|refine xo ?_|refine xp ?_));refine ab.nil ?_;(try refine zF ?_);(try subst hK);(try refine qy ?_);(repeat refine qq ?_);(try generalize hK:b6 _ _ _ _=K);refine ah.fF ?_;(repeat(first|refine xT ?_|refine xL ?_|refine xN ?_|refine xo ?_|refine xp ?_));refine ab.nil ?_;(try refine zF ?_);(try subst hK);(try refine qy ?_);generalize hK:b6 _ _ _ _=K
 have H:∀(r kn:Nat) (m:List (Nat×D)),k=(kn:Int)→r=(if k>0 then c.toNat %(64/2^k.toNat) else c.toNat)→(r+1)*64^kn≤2097152→K .next ⟨9,[x,.tup [],.int .i32 r,.int .i64 0,.bool false,.int .i64 k,.int .u8 lo,.int .u8 hi,.tup []],m⟩ (ag .ro st):=by
  intro r kn m hkn hr oS
  have hR:gB (c::xs)=je kn (kn+1) r lo hi xs:=by
   simp only[gB,hm];rw[if_neg h2,hr,hkn];rfl
  subst hK;rw[hR];generalize hS:je kn (kn+1) r lo hi xs=R at hR⊢;subst hkn;(try refine qy ?_);(repeat refine qq ?_);(try generalize hK:b6 _ _ _ _=K);refine ah.fF ?_;(repeat(first|refine xT ?_|refine xL ?_|refine xN ?_|refine xo ?_|refine xp ?_));refine ab.nil ?_;(try refine zF ?_);(try subst hK);(try refine qy ?_);refine ah.block<|ah.loop (fun j fr af=>∃(i r lo hi:Nat),fr.clean=⟨9,[x,.tup [],.int .i32 r,.int .i64 0,.bool false,.int .i64 kn,.int .u8 lo,.int .u8 hi,.int .i64 (i:Nat)],[]⟩∧af=ag .ro st∧1≤i∧i+j=kn+1∧je j (kn+1) r lo hi (xs.drop (i-1))=R∧(r+1)*64^j≤2097152) kn ⟨1,r,lo,hi,rfl,rfl,by omega,by omega,hS,oS⟩ ?_;clear hr oS hS r hm NI m;rintro j fr af ⟨i,r,lo,hi,hfr,rfl,Qk,hij,hS,oS⟩;rw[hfr];(try refine qy ?_);(repeat refine qq ?_);(try generalize hK:b6 _ _ _ _=K);refine ah.fF ?_;(repeat(first|refine xT ?_|refine xL ?_|refine xN ?_|refine xo ?_|refine xp ?_));refine ab.nil ?_;(try refine zF ?_);(try subst hK);(try refine qy ?_);(repeat refine qq ?_);refine qc (fun h4=>?_) (fun h4=>?_)<;>try simp only[cs] at h4
  ·refine ah.skip ?_
   obtain⟨j,rfl⟩:∃j',j=j'+1:=⟨j-1,by omega⟩
   refine ah.seq (ah.block ?_);(try refine qy ?_);(repeat refine qq ?_);(try generalize hK:b6 _ _ _ _=K);refine ah.fF ?_
   (first|refine xT ?_|refine xL ?_|refine xN ?_|refine xo ?_|refine xp ?_)
   (first|refine xT ?_|refine xL ?_|refine xN ?_|refine xo ?_|refine xp ?_)
   refine ab.len rfl rfl rfl dW rfl ?_;(repeat(first|refine xT ?_|refine xL ?_|refine xN ?_|refine xo ?_|refine xp ?_));refine ab.nil ?_;(try refine zF ?_);(try subst hK);(try refine qy ?_)
   have Cg:(xs.drop (i-1))=[]∨∃y ys,xs.drop (i-1)=y::ys:=by
    cases xs.drop (i-1) with
    |nil=>exact .inl rfl
    |cons y ys=>exact .inr ⟨y,ys,rfl⟩
   have Lt:(xs.drop (i-1)).length=xs.length-(i-1):=List.length_drop ..;have hbl:(V.byteCells (c::xs)).length=xs.length+1:=by simp[V.byteCells]
   (try refine qy ?_);(repeat refine qq ?_);refine qc (fun h5=>?_) (fun h5=>?_)<;>try simp only[cs] at h5
   ·(try refine qy ?_);(repeat refine qq ?_);(try generalize hK:b6 _ _ _ _=K);refine ah.fF ?_;(repeat(first|refine xT ?_|refine xL ?_|refine xN ?_|refine xo ?_|refine xp ?_));refine ab.nil ?_;(try refine zF ?_);(try subst hK);(try refine qy ?_);refine ah.ret ⟨rx,_,rfl,bu (by simp) (by simp[ag]) ?_⟩
    rcases Cg with Cg|⟨y,ys,Cg⟩
    ·rw[Cg] at hS;simp only[je] at hS;subst hS;rfl
    ·rw[Cg] at Lt;simp only[List.length_cons] at Lt;omega
   refine ah.skip ?_
   rcases Cg with Cg|⟨y,ys,Cg⟩
   ·rw[Cg] at Lt;simp only[List.length_nil] at Lt;omega
   have hy:(c::xs)[i]?=some y:=by
    obtain⟨i,rfl⟩:∃i',i=i'+1:=⟨i-1,by omega⟩
    have:=congrArg (fun l=>l[0]?) Cg
    simpa using this
   have j6:xs.drop (i+1-1)=ys:=by
    have:=congrArg (fun l=>l.drop 1) Cg;simp only[List.drop_drop,List.drop_succ_cons,List.drop_zero] at this;rw[←this];congr 1;omega
   have MJ:=sr hy;have Rz:=Gl y;rw[Cg] at hS;simp only[je] at hS;(try refine qy ?_);(repeat refine qq ?_);(try generalize hK:b6 _ _ _ _=K);refine ah.fF ?_
   (first|refine xT ?_|refine xL ?_|refine xN ?_|refine xo ?_|refine xp ?_)
   (first|refine xT ?_|refine xL ?_|refine xN ?_|refine xo ?_|refine xp ?_)
   refine ab.iG rfl rfl rfl (fun _=>rfl) rfl rfl dW rfl rfl (by omega) MJ rfl (fun p=>?_)
   (first|refine xT ?_|refine xL ?_|refine xN ?_|refine xo ?_|refine xp ?_)
   (first|refine xT ?_|refine xL ?_|refine xN ?_|refine xo ?_|refine xp ?_)
   (first|refine xT ?_|refine xL ?_|refine xN ?_|refine xo ?_|refine xp ?_)
   by_cases yJ:(y.toNat:Int)<(lo:Int)
   ·rw[decide_eq_true yJ];(repeat(first|refine xT ?_|refine xL ?_|refine xN ?_|refine xo ?_|refine xp ?_));refine ab.nil ?_;(try refine zF ?_);(try subst hK);(try refine qy ?_);refine ah.cond (v:=true) rfl (fun _=>?_) (fun h=>by cases h);(try refine qy ?_);(repeat refine qq ?_);(try generalize hK:b6 _ _ _ _=K);refine ah.fF ?_;(repeat(first|refine xT ?_|refine xL ?_|refine xN ?_|refine xo ?_|refine xp ?_));refine ab.nil ?_;(try refine zF ?_);(try subst hK);(try refine qy ?_);refine ah.ret ⟨rx,_,rfl,bu (by simp) (by simp[ag]) ?_⟩;rw[if_pos (.inl (by omega))] at hS;subst hS;rfl
   rw[decide_eq_false yJ]
   (first|refine xT ?_|refine xL ?_|refine xN ?_|refine xo ?_|refine xp ?_)
   (first|refine xT ?_|refine xL ?_|refine xN ?_|refine xo ?_|refine xp ?_)
   refine ab.iG rfl rfl rfl (fun _=>rfl) rfl rfl dW rfl rfl (by omega) MJ rfl (fun p=>?_);(repeat(first|refine xT ?_|refine xL ?_|refine xN ?_|refine xo ?_|refine xp ?_));refine ab.nil ?_;(try refine zF ?_);(try subst hK);(try refine qy ?_);(repeat refine qq ?_);refine qc (fun h6=>?_) (fun h6=>?_)<;>try simp only[cs] at h6
   ·(try refine qy ?_);(repeat refine qq ?_);(try generalize hK:b6 _ _ _ _=K);refine ah.fF ?_;(repeat(first|refine xT ?_|refine xL ?_|refine xN ?_|refine xo ?_|refine xp ?_));refine ab.nil ?_;(try refine zF ?_);(try subst hK);(try refine qy ?_);refine ah.ret ⟨rx,_,rfl,bu (by simp) (by simp[ag]) ?_⟩;rw[if_pos (.inr (by omega))] at hS;subst hS;rfl
   refine ah.skip ?_;rw[if_neg (by omega)] at hS;(try refine qy ?_);(repeat refine qq ?_);(try generalize hK:b6 _ _ _ _=K);refine ah.fF ?_
   (first|refine xT ?_|refine xL ?_|refine xN ?_|refine xo ?_|refine xp ?_)
   (first|refine xT ?_|refine xL ?_|refine xN ?_|refine xo ?_|refine xp ?_)
   (first|refine xT ?_|refine xL ?_|refine xN ?_|refine xo ?_|refine xp ?_)
   (first|refine xT ?_|refine xL ?_|refine xN ?_|refine xo ?_|refine xp ?_)
   refine ab.iG rfl rfl rfl (fun _=>rfl) rfl rfl dW rfl rfl (by omega) MJ rfl (fun p=>?_);(repeat(first|refine xT ?_|refine xL ?_|refine xN ?_|refine xo ?_|refine xp ?_));refine ab.nil ?_;(try refine zF ?_);(try subst hK);(try refine qy ?_);have RZ:r+1≤(r+1)*64^(j+1):=Nat.le_mul_of_pos_right _ (Nat.pow_pos (by omega));rw[QY (by omega) Rz];(try refine qy ?_);(repeat refine qq ?_);(try generalize hK:b6 _ _ _ _=K);refine ah.fF ?_;(repeat(first|refine xT ?_|refine xL ?_|refine xN ?_|refine xo ?_|refine xp ?_));refine ab.nil ?_;(try refine zF ?_);(try subst hK);(try refine qy ?_);(repeat refine qq ?_);(try generalize hK:b6 _ _ _ _=K);refine ah.fF ?_;(repeat(first|refine xT ?_|refine xL ?_|refine xN ?_|refine xo ?_|refine xp ?_));refine ab.nil ?_;(try refine zF ?_);(try subst hK);(try refine qy ?_);rw[wrap_i64 (by omega) (by omega)];refine⟨j,by omega,i+1,_,_,_,rfl,rfl,by omega,by omega,by rw[j6];exact hS,?_⟩;have e1:(r*64+y.toNat %64+1)≤(r+1)*64:=by omega
   have e2:=Nat.mul_le_mul_right (64^j) e1;have e3:64*64^j=64^(j+1):=by rw[Nat.pow_succ,Nat.mul_comm]
   rw[Nat.mul_assoc,e3] at e2;omega
  ·refine ah.exit ?_;have:j=0:=by omega
   subst this;simp only[je] at hS;subst hS;(try refine qy ?_);(repeat refine qq ?_);(try generalize hK:b6 _ _ _ _=K);refine ah.fF ?_;(repeat(first|refine xT ?_|refine xL ?_|refine xN ?_|refine xo ?_|refine xp ?_));refine ab.nil ?_;(try refine zF ?_);(try subst hK);(try refine qy ?_);refine ah.ret ⟨rx,_,rfl,bu (by simp) (by simp[ag]) ?_⟩;rw[wrap_i64 (by omega) (by omega)];rfl
 rcases hk with hk|hk|hk|hk|hk
 ·omega
 ·subst hk;refine ah.cond (v:=false) rfl (fun h=>by cases h) fun _=>ah.skip ?_;rw[eK (by simp only[lQ];omega)];exact H _ 0 _ rfl rfl (by omega)
 ·subst hk;refine ah.cond (v:=true) rfl (fun _=>?_) (fun h=>by cases h);refine ah.fF ?_
  (first|refine xT ?_|refine xL ?_|refine xN ?_|refine xo ?_|refine xp ?_)
  refine ab.iG rfl rfl rfl (fun _=>rfl) rfl rfl dW rfl rfl (by omega) rfl rfl (fun p=>?_);(repeat(first|refine xT ?_|refine xL ?_|refine xN ?_|refine xo ?_|refine xp ?_));refine ab.nil ?_;(try refine zF ?_);rw[mask (j:=5) hc (by omega)]
  ·exact H _ 1 _ rfl rfl (by omega)
  ·decide
 ·subst hk;refine ah.cond (v:=true) rfl (fun _=>?_) (fun h=>by cases h);refine ah.fF ?_
  (first|refine xT ?_|refine xL ?_|refine xN ?_|refine xo ?_|refine xp ?_)
  refine ab.iG rfl rfl rfl (fun _=>rfl) rfl rfl dW rfl rfl (by omega) rfl rfl (fun p=>?_);(repeat(first|refine xT ?_|refine xL ?_|refine xN ?_|refine xo ?_|refine xp ?_));refine ab.nil ?_;(try refine zF ?_);rw[mask (j:=4) hc (by omega)]
  ·exact H _ 2 _ rfl rfl (by omega)
  ·decide
 ·subst hk;refine ah.cond (v:=true) rfl (fun _=>?_) (fun h=>by cases h);refine ah.fF ?_
  (first|refine xT ?_|refine xL ?_|refine xN ?_|refine xo ?_|refine xp ?_)
  refine ab.iG rfl rfl rfl (fun _=>rfl) rfl rfl dW rfl rfl (by omega) rfl rfl (fun p=>?_);(repeat(first|refine xT ?_|refine xL ?_|refine xN ?_|refine xo ?_|refine xp ?_));refine ab.nil ?_;(try refine zF ?_);rw[mask (j:=3) hc (by omega)]
  ·exact H _ 3 _ rfl rfl (by omega)
  ·decide
def hU (b:List UInt8):Nat×Nat:=if(gB b).2.1=0 then(65533,1) else((gB b).1,(gB b).2.1)
def B':Nat→List UInt8→List (Nat×Nat)
 |0,_=>[]
 |_+1,[]=>[]
 |n+1,b=>hU b::B' n (b.drop (hU b).2)
def cK (b:List UInt8):List (Nat×Nat):=B' b.length b
theorem jf (b:List UInt8):1≤(hU b).2:=by
 unfold hU;split
 ·simp
 ·simp only;omega
theorem oa : ∀ (n : Nat) (b : List UInt8), b.length ≤ n → B' n b = cK b
 | 0, [], _ => rfl
 | 0, _ :: _, h => by simp at h
 | n + 1, [], _ => rfl
 | n + 1, c :: b, h => by
  have hp := jf (c :: b);have h1 : ((c :: b).drop (hU (c :: b)).2).length ≤ b.length := by rw [List.length_drop]; simp only [List.length_cons]; omega
  simp only [List.length_cons] at h;show hU (c :: b) :: B' n ((c :: b).drop _) = hU (c :: b) :: B' b.length ((c :: b).drop _);rw [oa n _ (by omega)]
  rcases Nat.lt_or_ge n b.length with h2 | h2
  ·omega
  ·rw [oa b.length _ h1]
termination_by n b => b.length
decreasing_by all_goals (simp_wf; omega)
theorem kL:cK []=[]:=rfl
theorem n_ {b:List UInt8} (h:b≠[]):cK b=hU b::cK (b.drop (hU b).2):=by
 match b,h with
 |c::b,_=>
  show hU (c::b)::B' b.length ((c::b).drop _)=_;rw[oa];have hp:=jf (c::b);rw[List.length_drop];simp only[List.length_cons];omega
def aU (g:Nat×Nat):List D:=[.int .i32 (g.1:Nat),.int .i64 (g.2:Nat)]
def fq (l:List (Nat×Nat)):D:=.sl ((l.map aU).map (j7 2))
theorem D' {l:List (Nat×Nat)}:∀e∈l.map aU,e.length=2:=by
 intro e he;obtain⟨g,_,rfl⟩:=List.mem_map.1 he;rfl
theorem rq {l:List (Nat×Nat)}:∀e∈l.map aU,∀d∈e,cv d=true:=by
 intro e he d hd;obtain⟨g,_,rfl⟩:=List.mem_map.1 he;simp only[aU,List.mem_cons,List.not_mem_nil,or_false] at hd
 rcases hd with rfl|rfl<;>rfl
theorem dH (st:St) (l:List (Nat×Nat)):V.Rows st 2 (fq l) (l.map aU):=Rows.wh D' rq
theorem pD:∀(left n r lo hi:Nat) (b:List UInt8),(je left n r lo hi b).2.1≠0→(je left n r lo hi b).2.1=n∧left≤b.length
 |0,n,r,lo,hi,b,h=>by simp[je]
 |left+1,n,r,lo,hi,[],h=>by simp[je] at h
 |left+1,n,r,lo,hi,x::xs,h=>by
  simp only[je] at h⊢
  split at h
  ·simp at h
  ·rename_i hc;rw[if_neg hc];have:=pD left n _ _ _ xs h;exact⟨this.1,by simp;omega⟩
theorem zX {b:List UInt8} (h:b≠[]):(hU b).2≤b.length:=by
 match b,h with
 |c::xs,_=>
  unfold hU
  split
  ·simp
  ·rename_i hz;simp only[gB] at hz⊢
   split at hz
   ·simp at hz
   ·rename_i hk;rw[if_neg hk];have:=pD _ _ _ _ _ _ hz;rw[this.1];simp;omega
theorem EC {st:St} {x:D} {b:List UInt8} (hb:Bytes st x b) (hlen:b.length≤1048576):Ev pv 28 [x] st (fq (cK b)) st:=by
 refine Ev.o9 rfl O9 rfl rfl rfl ?_;refine zE ?_;have hx:=hb.ref;(try refine qy ?_);(repeat refine qq ?_);(try generalize hK:b6 _ _ _ _=K);refine ah.fF ?_;(repeat(first|refine xT ?_|refine xL ?_|refine xN ?_|refine xo ?_|refine xp ?_));refine ab.nil ?_;(try refine zF ?_);(try subst hK);(try refine qy ?_);(repeat refine qq ?_);(try generalize hK:b6 _ _ _ _=K);refine ah.fF ?_;(repeat(first|refine xT ?_|refine xL ?_|refine xN ?_|refine xo ?_|refine xp ?_));refine ab.nil ?_;(try refine zF ?_);(try subst hK);(try refine qy ?_);refine ah.seq (ah.block ?_)
 refine ah.loop (fun j fr af=>∃(y out r n:D) (b':List UInt8) (done:List (Nat×Nat)),fr.clean=⟨6,[y,.tup [],.nul,out,r,n],[]⟩∧Ex st.bs.length (ag .ro st) af∧Bytes af y b'∧y.ref≤st.bs.length∧
  Acc st.bs.length af 2 out (done.map aU)∧j=b'.length∧done++cK b'=cK b∧done.length+b'.length≤b.length) b.length
  ⟨x,.nul,_,_,b,[],rfl,Ex.refl _ _,hb.enter .ro,hx,.nul,rfl,rfl,by simp⟩ ?_
 rintro j fr af ⟨y,out,r,n,b',done,hfr,hex,hy,P5,F3,rfl,eS,hl⟩;rw[hfr];(try refine qy ?_);(repeat refine qq ?_);(try generalize hK:b6 _ _ _ _=K);refine ah.fF ?_
 (first|refine xT ?_|refine xL ?_|refine xN ?_|refine xo ?_|refine xp ?_)
 refine ab.len rfl rfl rfl hy rfl ?_;(repeat(first|refine xT ?_|refine xL ?_|refine xN ?_|refine xo ?_|refine xp ?_));refine ab.nil ?_;(try refine zF ?_);(try subst hK);(try refine qy ?_);rw[gj];(try refine qy ?_);(repeat refine qq ?_);refine qc (fun h1=>?_) (fun h1=>?_)<;>try simp only[cs] at h1
 ·refine ah.skip ?_;have rn:b'≠[]:=by rintro rfl;simp at h1
  (try refine qy ?_);(repeat refine qq ?_);refine ah.block ?_;(try refine qy ?_);(repeat refine qq ?_);(try generalize hK:b6 _ _ _ _=K);refine ah.fF ?_
  (first|refine xT ?_|refine xL ?_|refine xN ?_|refine xo ?_|refine xp ?_)
  refine ab.GO rfl rfl rfl (Ea hy) ?_;(repeat(first|refine xT ?_|refine xL ?_|refine xN ?_|refine xo ?_|refine xp ?_));refine ab.nil ?_;(try refine zF ?_);(try subst hK);(try refine qy ?_);generalize hf:gB b'=F at*;obtain⟨r0,n0,bg⟩:=F;(try refine qy ?_);(repeat refine qq ?_);(try generalize hK:b6 _ _ _ _=K);refine ah.fF ?_;(repeat(first|refine xT ?_|refine xL ?_|refine xN ?_|refine xo ?_|refine xp ?_));refine ab.nil ?_;(try refine zF ?_);(try subst hK);(try refine qy ?_);generalize hK:b6 _ _ _ _=K
  have H:∀m,K .next ⟨6,[y,.tup [],.nul,out,.int .i32 ((hU b').1:Nat),.int .i64 ((hU b').2:Nat)],m⟩ af:=by
   intro m;subst hK;generalize hg:hU b'=g;have hp:=jf b';have hle:=zX rn;rw[hg] at hp hle;(try refine qy ?_);(repeat refine qq ?_);(try generalize hK:b6 _ _ _ _=K);refine ah.fF ?_
   (first|refine xT ?_|refine xL ?_|refine xN ?_|refine xo ?_|refine xp ?_)
   (first|refine xT ?_|refine xL ?_|refine xN ?_|refine xo ?_|refine xp ?_)
   (first|refine xT ?_|refine xL ?_|refine xN ?_|refine xo ?_|refine xp ?_)
   refine ab.T rfl rfl rfl (d:=.agg (aU g)) (st1:=af) rfl ?_;refine ab.T rfl rfl rfl (d:=.win af.bs.length 0 0 1 2) (st1:=af.push (.mem 0 true (aU g))) rfl ?_;have hN:st.bs.length≤af.bs.length:=hex.len;have F0:=hex.trans (Ex.push hN (.mem 0 true (aU g)));refine ab.append rfl rfl rfl rfl (F3.push _) (Rows.one rfl) rfl rfl rfl rfl rfl rfl rfl (by decide) F0.len (by rw[F0.flr];exact Nat.le_refl _) (by rw[F0.ro];exact Nat.le_refl _) (by simp only[List.length_map,List.length_cons,List.length_nil];show(done.length+1)*16≤_;omega) fun Mr st2 KJ Kz _ _ _=>?_;(repeat(first|refine xT ?_|refine xL ?_|refine xN ?_|refine xo ?_|refine xp ?_));refine ab.nil ?_;(try refine zF ?_);(try subst hK);(try refine qy ?_);have N1:=F0.trans Kz;have yC:Bytes st2 y b':=Rows.ex ((Ex.push hN _).trans Kz) hy P5;(try refine qy ?_);(repeat refine qq ?_);(try generalize hK:b6 _ _ _ _=K);refine ah.fF ?_
   (first|refine xT ?_|refine xL ?_|refine xN ?_|refine xo ?_|refine xp ?_)
   (first|refine xT ?_|refine xL ?_|refine xN ?_|refine xo ?_|refine xp ?_)
   refine ab.slice rfl rfl rfl yC rfl rfl (l:=g.2) (r:=b'.length) ?_ ⟨by omega,by rw[gj];omega⟩ fun y2 FK MI=>?_
   ·show dh (V.byteCells b').length (some (.int .i64 (g.2:Nat))) none=_;rw[gj];simp only[dh,kh,lY,Option.bind_some];rw[if_pos ⟨by omega,by omega⟩];rfl
   (repeat(first|refine xT ?_|refine xL ?_|refine xN ?_|refine xo ?_|refine xp ?_));refine ab.nil ?_;(try refine zF ?_);(try subst hK);(try refine qy ?_);refine⟨(b'.drop g.2).length,by rw[List.length_drop];omega,y2,Mr,_,_,b'.drop g.2,done++[g],rfl,N1,?_,Nat.le_trans MI P5,?_,rfl,?_,?_⟩
   ·have:((V.byteCells b').take b'.length).drop g.2=V.byteCells (b'.drop g.2):=by
     rw[←gj,List.take_length];simp[V.byteCells]
    unfold Bytes;rw[←this];exact FK
   ·rw[List.map_append];exact KJ
   ·rw[List.append_assoc,List.singleton_append,←eS,n_ rn,hg]
   ·rw[List.length_append,List.length_drop];simp only[List.length_cons,List.length_nil];omega
  (try refine qy ?_);(repeat refine qq ?_);refine qc (fun h2=>?_) (fun h2=>?_)<;>try simp only[cs] at h2
  ·refine ah.fF ?_;(repeat(first|refine xT ?_|refine xL ?_|refine xN ?_|refine xo ?_|refine xp ?_));refine ab.nil ?_;(try refine zF ?_);have:hU b'=(65533,1):=by unfold hU;rw[hf,if_pos (by simpa using h2)]
   rw[this] at H;exact H _
  ·refine ah.skip ?_;have:hU b'=(r0,n0):=by unfold hU;rw[hf,if_neg (by simpa using h2)]
   rw[this] at H;exact H _
 ·refine ah.exit ?_
  have rn:b'=[]:=by cases b' with|nil=>rfl|cons _ _=>simp at h1<;>omega
  subst rn;rw[kL,List.append_nil] at eS;(try refine qy ?_);(repeat refine qq ?_);(try generalize hK:b6 _ _ _ _=K);refine ah.fF ?_;(repeat(first|refine xT ?_|refine xL ?_|refine xN ?_|refine xo ?_|refine xp ?_));refine ab.nil ?_;(try refine zF ?_);(try subst hK);(try refine qy ?_);refine ah.ret ⟨rx,_,rfl,bu (by simp) (hex.take rfl) ?_⟩;rw[←eS];exact F3.freeze rq (n:=15) (by decide)
structure dP where
 i:Nat
 o:Nat
 g:Nat
 e:Int
 w:Int
def aL (gs:List (Nat×Nat)) (bw:D) (s:dP):List D:=[fq gs,bw,.int .i64 (s.i:Nat),.int .i64 (s.o:Nat),.int .i64 (s.g:Nat),.int .i64 s.e,.int .i64 s.w]
def dB (gs:List (Nat×Nat)) (i:Nat) (r:Int):Bool:=match gs[i]? with
 |some g=>((g.1:Nat):Int)==r
 |none=>false
theorem qM {gs:List (Nat×Nat)} {i:Nat} {r:Int} (h:dB gs i r=true):i<gs.length:=by
 unfold dB at h
 split at h
 ·exact aR (by assumption)
 ·cases h
def bP (gs:List (Nat×Nat)) (s:dP) (r:Int):dP:=if dB gs s.i r=true then{s with i:=s.i+1} else s
def B7 (gs:List (Nat×Nat)) (i:Nat):Bool:=match gs[i]? with
 |some g=>((g.1:Nat):Int)==65533 &&((g.2:Nat):Int)==1
 |none=>false
def iP (aN:List Int) (s:dP) (i:Nat) (e:Int):dP:=if s.e=0 then{s with e:=e,w:=aN.getD i 0} else s
theorem oB {N k:Nat} {S s0:St} {H:List bm} {gs:List (Nat×Nat)} {bw:D} {s:dP} (uM:gs.length≤1048576) (r:Int) (hH:Has N S s0 (.box k (.mem 0 false (aL gs bw s))::H)):
  ∃d af,Ev pv 98 [.ptr k 0 0,.int .i32 r] s0 d af∧d=.bool (dB gs s.i r)∧Has N S af (.box k (.mem 0 false (aL gs bw s))::H):=by
 refine Ev.ko rfl Oz rfl rfl rfl ?_;refine zE ?_;have cx:=hH;have hH:=hH.cB;have cw:(ag .rw s0).bs=s0.bs:=rfl;generalize ag .rw s0=S2 at*;have FY:Arg N S2 2 (fq gs) (gs.map aU):=Arg.pure (fun st=>dH st gs);refine zQ 4 ?_
 by_cases ha:s.i<gs.length
 ·obtain⟨g,hg⟩:∃g,gs[s.i]?=some g:=⟨gs[s.i]'ha,List.getElem?_eq_getElem _⟩
  have iH:(gs.map aU)[s.i]?=some (aU g):=by rw[List.getElem?_map,hg];rfl
  have bW:decide ((s.i:Int)<(gs.length:Nat))=true:=by rw[decide_eq_true];simp;omega
  have hv:dB gs s.i r=(((g.1:Nat):Int)==r):=by unfold dB;rw[hg]
  refine qq<|ah.mH 4 (.bool (((g.1:Nat):Int)==r)) [] ?_ (fun ff tmp=>?_)
  ·refine zQ 8 ?_;refine qn ?_;simp only[List.length_map];refine zQ 10 ?_;refine qr (fun Je DN=>?_) (hg:=wi bW);refine qf (fo:=0) (fun Jd DM=>?_) (hg:=wi bW);refine zQ 5 ?_;refine ab.nil (aT ?_);dsimp only[aX,List.foldl,nth,u2,u1];dsimp only[Fr.dg,Fr.put,Fr.clean,Fr.ev,Fr.get,nth,look,u1,u2,v1,v2,v4]
   all_goals(first|rfl|(simp[bW];done)|(simp_all;done)|(simp[bW];omega)|(simp_all;omega))
  dsimp only[aX,List.foldl,nth,u2,u1];refine ah.ret ⟨rx,_,_,_,rfl,ai (rfl),?_⟩;exact⟨by rw[hv];rfl,cx.ay cw hH⟩
 ·have bW:decide ((s.i:Int)<(gs.length:Nat))=false:=by rw[decide_eq_false];simp;omega
  have hv:dB gs s.i r=false:=by
   cases h:dB gs s.i r with
   |true=>exact absurd (qM h) ha
   |false=>rfl
  refine qq<|ah.mH 4 (.bool false) [] ?_ (fun ff tmp=>?_)
  ·refine zQ 8 ?_;refine qn ?_;simp only[List.length_map];refine zQ 17 ?_;refine ab.nil (aT ?_);dsimp only[aX,List.foldl,nth,u2,u1];dsimp only[Fr.dg,Fr.put,Fr.clean,Fr.ev,Fr.get,nth,look,u1,u2,v1,v2,v4]
   all_goals(first|rfl|(simp[bW];done)|(simp_all;done)|(simp[bW];omega)|(simp_all;omega))
  dsimp only[aX,List.foldl,nth,u2,u1];refine ah.ret ⟨rx,_,_,_,rfl,ai (rfl),?_⟩;exact⟨by rw[hv];rfl,cx.ay cw hH⟩
theorem dK {N k:Nat} {S s0:St} {H:List bm} {gs:List (Nat×Nat)} {bw:D} {s:dP} (uM:gs.length≤1048576) (r:Int) (hH:Has N S s0 (.box k (.mem 0 false (aL gs bw s))::H)):
  ∃d af,Ev pv 72 [.ptr k 0 0,.int .i32 r] s0 d af∧d=.bool (dB gs s.i r)∧Has N S af (.box k (.mem 0 false (aL gs bw (bP gs s r)))::H):=by
 refine Ev.ko rfl OM rfl rfl rfl ?_;refine zE ?_;have cx:=hH;have hH:=hH.cB;have cw:(ag .rw s0).bs=s0.bs:=rfl;generalize ag .rw s0=S2 at*;refine zQ 9 ?_;obtain⟨_,st,aG,rfl,hH⟩:=oB uM r hH;refine qv aG ?_;refine zQ 1 ?_;unfold bP
 cases hb:dB gs s.i r with
 |true=>
  have hlt:=qM hb;dsimp only[aL] at hH;rw[if_pos rfl];refine zQ 10 ?_;refine qT hH aS fun st hH=>?_;dsimp only[u2,u1,u3,u4,setMany,u5,u6,D.cells,Nat.reduceAdd,aL,aU,az] at hH;refine zQ 5 ?_;refine ah.ret ⟨rx,_,_,_,rfl,ai (rfl),?_⟩;exact⟨rfl,cx.ay cw hH⟩
 |false=>
  rw[if_neg (by simp)];refine zQ 6 ?_;refine ah.ret ⟨rx,_,_,_,rfl,ai (rfl),?_⟩;exact⟨rfl,cx.ay cw hH⟩
theorem zg {N k:Nat} {S s0:St} {H:List bm} {gs:List (Nat×Nat)} {bw:D} {s:dP} (i:Nat) (hi:i<gs.length) (hH:Has N S s0 (.box k (.mem 0 false (aL gs bw s))::H)):
  ∃d af,Ev pv 120 [.ptr k 0 0,.int .i64 (i:Nat)] s0 d af∧d=.bool (B7 gs i)∧Has N S af (.box k (.mem 0 false (aL gs bw s))::H):=by
 refine Ev.ko rfl K6 rfl rfl rfl ?_;refine zE ?_;have cx:=hH;have hH:=hH.cB;have cw:(ag .rw s0).bs=s0.bs:=rfl;generalize ag .rw s0=S2 at*;have FY:Arg N S2 2 (fq gs) (gs.map aU):=Arg.pure (fun st=>dH st gs);refine zQ 4 ?_
 obtain⟨g,hg⟩:∃g,gs[i]?=some g:=⟨gs[i]'hi,List.getElem?_eq_getElem _⟩
 have iH:(gs.map aU)[i]?=some (aU g):=by rw[List.getElem?_map,hg];rfl
 have hv:B7 gs i=(((g.1:Nat):Int)==65533 &&((g.2:Nat):Int)==1):=by unfold B7;rw[hg]
 refine qq<|ah.mH 4 (.bool (((g.1:Nat):Int)==65533 &&((g.2:Nat):Int)==1)) [] ?_ (fun ff tmp=>?_)
 ·refine zQ 5 ?_;refine qr fun Rk NB=>?_;refine qf (fo:=0) fun PZ J9=>?_;refine zQ 3 ?_;refine ab.two 14 rfl (fun gA=>?_) (fun gA=>?_)
  ·refine zQ 5 ?_;refine qr (fun Mc HC=>?_) (hg:=wi gA);refine qf (fo:=1) (fun Mb HB=>?_) (hg:=wi gA);refine zQ 4 ?_;refine ab.nil (aT ?_);refine zG ?_
   all_goals(simp[gA];done)
  ·refine zQ 11 ?_;refine ab.nil (aT ?_);refine zG ?_
   all_goals(simp[gA];done)
 dsimp only[aX,List.foldl,nth,u2,u1];refine ah.ret ⟨rx,_,_,_,rfl,ai (rfl),?_⟩;exact⟨by rw[hv];rfl,cx.ay cw hH⟩
theorem dX {N k:Nat} {S s0:St} {H:List bm} {gs:List (Nat×Nat)} {bw:D} {aN:List Int} {s:dP} (i:Nat) (e:Int) (hi:i<aN.length) (hH:Has N S s0 (.box k (.mem 0 false (aL gs bw s))::.aI bw 1 (aN.map az)::H)):
  ∃d af,Ev pv 39 [.ptr k 0 0,.int .i64 (i:Nat),.int .i64 e] s0 d af∧d=.sl []∧Has N S af (.box k (.mem 0 false (aL gs bw (iP aN s i e)))::.aI bw 1 (aN.map az)::H):=by
 refine Ev.ko rfl O2 rfl rfl rfl ?_;refine zE ?_;have cx:=hH;have hH:=hH.cB;have cw:(ag .rw s0).bs=s0.bs:=rfl;generalize ag .rw s0=S2 at*;refine zQ 4 ?_
 obtain⟨v,hv⟩:∃v,aN[i]?=some v:=⟨aN[i]'hi,List.getElem?_eq_getElem _⟩
 have iH:=fL hv;unfold iP;refine zQ 9 ?_;refine zI (fun h0=>?_) fun h0=>?_
 ·rw[if_pos h0];have BD:aN.getD i 0=v:=by rw[List.getD_eq_getElem?_getD,hv];rfl
  refine zQ 9 ?_;refine qi hH bZ fun Mc HC=>?_;refine zQ 3 ?_;refine qT hH aS fun st hH=>?_;dsimp only[u2,u1,u3,u4,setMany,u5,u6,D.cells,Nat.reduceAdd,aL,aU,az] at hH;refine zQ 2 ?_;refine qT hH aS fun st hH=>?_;dsimp only[u2,u1,u3,u4,setMany,u5,u6,D.cells,Nat.reduceAdd,aL,aU,az] at hH;refine zQ 5 ?_;refine ah.ret ⟨rx,_,_,_,rfl,ai (rfl),?_⟩;exact⟨rfl,by rw[BD];exact cx.ay cw hH⟩
 ·rw[if_neg h0];refine zQ 5 ?_;refine ah.ret ⟨rx,_,_,_,rfl,ai (rfl),?_⟩;exact⟨rfl,cx.ay cw hH⟩
noncomputable def cV (l:List Rg):List Rg:=@dite _ (∃a,gh l a) (Classical.propDecidable _) (fun h=>Classical.choose h) (fun _=>[])
theorem Dr {l a:List Rg} (h:gh l a):cV l=a:=by
 have hx:∃a,gh l a:=⟨a,h⟩
 unfold cV;rw[dif_pos hx];exact(Classical.choose_spec hx).unique h
theorem mg {s0:St} {x:D} {l:List Rg} (hx:V.Rows s0 2 x (l.map au)) (hl:l.length≤1048576):Ev pv 103 [x] s0 (bf (cV l)) s0∧(cV l).length≤2*l.length∧gh l (cV l):=by
 obtain⟨_,aG,all,rfl,hperm,oD⟩:=Aa hx (by omega);have hM:gh l (all.foldl dt []).reverse:=qw (fun x=>hperm.mem_iff) oD;have hlen:=hperm.length_eq;have oT:=iM l;have jU:=qJ all;rw[Dr hM];exact⟨aG,by rw[List.length_reverse];omega,hM⟩
theorem gQ (l:List Rg):gU (bf l) 2 (l.map au):=by
 rw[←hD];refine gU.frozen ?_ ?_
 ·intro e he;obtain⟨x,_,rfl⟩:=List.mem_map.1 he;rfl
 ·intro e he d hd;obtain⟨x,_,rfl⟩:=List.mem_map.1 he;simp only[au,List.mem_cons,List.not_mem_nil,or_false] at hd
  rcases hd with rfl|rfl<;>rfl
theorem uB {r:Int} {l a:List Rg} (h0:0≤r) (h1:r<55296) (hr:fu l r) (h:gh l a):a≠[]:=by
 rintro rfl;have:=(h.2 r).2 ⟨by unfold nK;omega,hr⟩;obtain⟨x,hx,_⟩:=this;cases hx
theorem wB {r:Int} (h0:0≤r) (h1:r<55296) {a:List Rg} (h:gh [(r,r)] a):a≠[]:=by
 rintro rfl;have:=(h.2 r).2 ⟨?_,?_⟩
 ·obtain⟨x,hx,_⟩:=this;cases hx
 ·unfold nK;omega
 ·exact⟨(r,r),List.mem_cons_self ..,by simp⟩
theorem jc {s0:St} (r:Int):Ev pv 125 [.int .i32 r] s0 (bf (cV [(r,r)])) s0:=by
 refine Ev.o9 rfl K1 rfl rfl rfl ?_;refine zE ?_;obtain⟨cD,hF,hH⟩:=ri s0;generalize ag .ro s0=S at*;refine zQ 8 ?_;refine ab.gm (qs:=[(0,_),(1,_)]) rfl rfl rfl rfl ⟨rfl,(ev rfl),(by rfl),rfl,(ev rfl),(by rfl),trivial⟩ (by intro q hq;simp only[List.mem_cons,List.not_mem_nil,or_false] at hq;rcases hq with rfl|rfl<;>exact⟨rfl,by exact Nat.le_of_ble_eq_true rfl⟩) (by show List.foldl _ [_,_] _=_;dsimp only[List.foldl_cons,List.foldl_nil,u2,u1]<;>rfl) (aa rfl _) ?_;refine qh (s:=2) (vs:=[_]) hH fun k6 st HM hH=>?_;obtain⟨aG,hl,_⟩:=mg (l:=[(r,r)]) (hH.rows aS) (by simp);refine qv aG ?_;refine zQ 2 ?_;refine ah.ret ⟨rx,_,rfl,rl cD hH (rfl)⟩
theorem FE {s0:St} (r:Int):Ev pv 133 [.int .i32 r] s0 (.bool (decide (33≤r∧r≤47∨58≤r∧r≤64∨91≤r∧r≤96∨123≤r∧r≤126))) s0:=by
 refine Ev.o9 rfl KV rfl rfl rfl ?_;refine zE ?_;obtain⟨cD,hF,hH⟩:=ri s0;generalize ag .ro s0=S at*;refine zQ 5 ?_;refine ah.mH 2 (.bool (decide (33≤r∧r≤47∨58≤r∧r≤64∨91≤r∧r≤96∨123≤r∧r≤126))) [] ?_ (fun ff tmp=>?_)
 ·refine zQ 3 ?_;refine ab.two 5 rfl (fun ch=>?_) (fun ch=>?_)
  ·refine zQ 4 ?_;refine ab.two 9 rfl (fun eQ=>?_) (fun eQ=>?_)
   ·refine zQ 24 ?_;refine ab.nil (aT ?_);refine zG ?_
    all_goals(simp[ch,eQ];done)
   ·refine zQ 3 ?_;refine ab.two 12 rfl (fun gA=>?_) (fun gA=>?_)
    ·refine zQ 2 ?_;refine ab.cz (ax rfl rfl rfl eQ) rfl gA (aa rfl _) ?_;refine zQ 2 ?_;refine ab.two 17 rfl (fun cX=>?_) (fun cX=>?_)
     ·refine zQ 16 ?_;refine ab.nil (aT ?_);refine zG ?_
      all_goals(simp[ch,eQ,gA,cX];done)
     ·refine zQ 3 ?_;refine ab.two 20 rfl (fun cJ=>?_) (fun cJ=>?_)
      ·refine zQ 2 ?_;refine ab.cz (ax rfl rfl rfl cX) rfl cJ (aa rfl _) ?_;refine zQ 2 ?_;refine ab.two 25 rfl (fun dR=>?_) (fun dR=>?_)
       ·refine zQ 8 ?_;refine ab.nil (aT ?_);refine zG ?_
        all_goals(simp[ch,eQ,gA,cX,cJ,dR];done)
       ·refine zQ 3 ?_;refine ab.two 28 rfl (fun cZ=>?_) (fun cZ=>?_)
        ·refine zQ 2 ?_;refine ab.cz (ax rfl rfl rfl dR) rfl cZ (aa rfl _) ?_;refine zQ 2 ?_;refine ab.nil (aT ?_);refine zG ?_
         all_goals(simp[ch,eQ,gA,cX,cJ,dR,cZ];done)
        ·refine zQ 2 ?_;refine ab.b_ (ax rfl rfl rfl dR) rfl cZ (aa rfl _) ?_;refine zQ 2 ?_;refine ab.nil (aT ?_);refine zG ?_
         all_goals(simp[ch,eQ,gA,cX,cJ,dR,cZ];done)
      ·refine zQ 2 ?_;refine ab.b_ (ax rfl rfl rfl cX) rfl cJ (aa rfl _) ?_;refine zQ 5 ?_;refine ab.two 28 rfl (fun cZ=>?_) (fun cZ=>?_)
       ·refine zQ 5 ?_;refine ab.nil (aT ?_);refine zG ?_
        all_goals(simp[ch,eQ,gA,cX,cJ,cZ];done)
       ·refine zQ 5 ?_;refine ab.nil (aT ?_);refine zG ?_
        all_goals(simp[ch,eQ,gA,cX,cJ,cZ];done)
    ·refine zQ 2 ?_;refine ab.b_ (ax rfl rfl rfl eQ) rfl gA (aa rfl _) ?_;refine zQ 5 ?_;refine ab.two 20 rfl (fun cJ=>?_) (fun cJ=>?_)
     ·refine zQ 5 ?_;refine ab.two 25 rfl (fun dR=>?_) (fun dR=>?_)
      ·refine zQ 8 ?_;refine ab.nil (aT ?_);refine zG ?_
       all_goals(simp[ch,eQ,gA,cJ,dR];done)
      ·refine zQ 3 ?_;refine ab.two 28 rfl (fun cZ=>?_) (fun cZ=>?_)
       ·refine zQ 2 ?_;refine ab.cz (ax rfl rfl rfl dR) rfl cZ (aa rfl _) ?_;refine zQ 2 ?_;refine ab.nil (aT ?_);refine zG ?_
        all_goals(simp[ch,eQ,gA,cJ,dR,cZ];done)
       ·refine zQ 2 ?_;refine ab.b_ (ax rfl rfl rfl dR) rfl cZ (aa rfl _) ?_;refine zQ 2 ?_;refine ab.nil (aT ?_);refine zG ?_
        all_goals(simp[ch,eQ,gA,cJ,dR,cZ];done)
     ·refine zQ 8 ?_;refine ab.two 28 rfl (fun cZ=>?_) (fun cZ=>?_)
      ·refine zQ 5 ?_;refine ab.nil (aT ?_);refine zG ?_
       all_goals(simp[ch,eQ,gA,cJ,cZ];done)
      ·refine zQ 5 ?_;refine ab.nil (aT ?_);refine zG ?_
       all_goals(simp[ch,eQ,gA,cJ,cZ];done)
  ·refine zQ 7 ?_;refine ab.two 12 rfl (fun gA=>?_) (fun gA=>?_)
   ·refine zQ 5 ?_;refine ab.two 17 rfl (fun cX=>?_) (fun cX=>?_)
    ·refine zQ 16 ?_;refine ab.nil (aT ?_);refine zG ?_
     all_goals(simp[ch,gA,cX];done)
    ·refine zQ 3 ?_;refine ab.two 20 rfl (fun cJ=>?_) (fun cJ=>?_)
     ·refine zQ 2 ?_;refine ab.cz (ax rfl rfl rfl cX) rfl cJ (aa rfl _) ?_;refine zQ 2 ?_;refine ab.two 25 rfl (fun dR=>?_) (fun dR=>?_)
      ·refine zQ 8 ?_;refine ab.nil (aT ?_);refine zG ?_
       all_goals(simp[ch,gA,cX,cJ,dR];done)
      ·refine zQ 3 ?_;refine ab.two 28 rfl (fun cZ=>?_) (fun cZ=>?_)
       ·refine zQ 2 ?_;refine ab.cz (ax rfl rfl rfl dR) rfl cZ (aa rfl _) ?_;refine zQ 2 ?_;refine ab.nil (aT ?_);refine zG ?_
        all_goals(simp[ch,gA,cX,cJ,dR,cZ];done)
       ·refine zQ 2 ?_;refine ab.b_ (ax rfl rfl rfl dR) rfl cZ (aa rfl _) ?_;refine zQ 2 ?_;refine ab.nil (aT ?_);refine zG ?_
        all_goals(simp[ch,gA,cX,cJ,dR,cZ];done)
     ·refine zQ 2 ?_;refine ab.b_ (ax rfl rfl rfl cX) rfl cJ (aa rfl _) ?_;refine zQ 5 ?_;refine ab.two 28 rfl (fun cZ=>?_) (fun cZ=>?_)
      ·refine zQ 5 ?_;refine ab.nil (aT ?_);refine zG ?_
       all_goals(simp[ch,gA,cX,cJ,cZ];done)
      ·refine zQ 5 ?_;refine ab.nil (aT ?_);refine zG ?_
       all_goals(simp[ch,gA,cX,cJ,cZ];done)
   ·refine zQ 8 ?_;refine ab.two 20 rfl (fun cJ=>?_) (fun cJ=>?_)
    ·refine zQ 5 ?_;refine ab.two 25 rfl (fun dR=>?_) (fun dR=>?_)
     ·refine zQ 8 ?_;refine ab.nil (aT ?_);refine zG ?_
      all_goals(simp[ch,gA,cJ,dR];done)
     ·refine zQ 3 ?_;refine ab.two 28 rfl (fun cZ=>?_) (fun cZ=>?_)
      ·refine zQ 2 ?_;refine ab.cz (ax rfl rfl rfl dR) rfl cZ (aa rfl _) ?_;refine zQ 2 ?_;refine ab.nil (aT ?_);refine zG ?_
       all_goals(simp[ch,gA,cJ,dR,cZ];done)
      ·refine zQ 2 ?_;refine ab.b_ (ax rfl rfl rfl dR) rfl cZ (aa rfl _) ?_;refine zQ 2 ?_;refine ab.nil (aT ?_);refine zG ?_
       all_goals(simp[ch,gA,cJ,dR,cZ];done)
    ·refine zQ 8 ?_;refine ab.two 28 rfl (fun cZ=>?_) (fun cZ=>?_)
     ·refine zQ 5 ?_;refine ab.nil (aT ?_);refine zG ?_
      all_goals(simp[ch,gA,cJ,cZ];done)
     ·refine zQ 5 ?_;refine ab.nil (aT ?_);refine zG ?_
      all_goals(simp[ch,gA,cJ,cZ];done)
 dsimp only[aX,List.foldl,nth,u2,u1];refine ah.ret ⟨rx,_,rfl,rl cD hH (rfl)⟩
theorem oq:∀gs:List (Nat×Nat),jA ((gs.map aU).map (j7 2))=some (gs.map fun g=>((g.1:Nat):Int))
 |[]=>rfl
 |g::gs=>by
  have ih:=oq gs;simp only[List.map_cons];show(match jA ((gs.map aU).map (j7 2)) with|some rs=>some (((g.1:Nat):Int)::rs)|none=>none)=_;rw[ih]
theorem xe:∀(rs:List Int) (acc:List UInt8),(digS rs acc).2≤rs.length∧(digS rs acc).1.length≤acc.length+(digS rs acc).2
 |[],acc=>by simp[digS]
 |r::rs,acc=>by
  unfold digS
  split
  ·have h:=xe rs (if 48<r∨acc≠[] then acc++[UInt8.ofNat r.toNat] else acc);simp only[List.length_cons]
   have hl:(if 48<r∨acc≠[] then acc++[UInt8.ofNat r.toNat] else acc).length≤acc.length+1:=by
    split<;>simp
   omega
  ·simp
structure kN (gs:List (Nat×Nat)) (aN:List Int):Prop where
 gl:gs.length≤120
 pl:aN.length=gs.length
end Go.Proofs.Ytnleclohocdkaaa
