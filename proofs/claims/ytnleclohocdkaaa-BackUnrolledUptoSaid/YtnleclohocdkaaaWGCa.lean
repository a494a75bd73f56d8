/-
 Ranges of runes: the canonical form, by plain lists. No program in sight.
-/
import Derived.Test.YtnleclohocdkaaaWPx
import Derived.Test.YtnleclohocdkaaaWM2
import Derived.KernelRfl
set_option linter.unusedSimpArgs false
set_option linter.unusedVariables false
set_option maxRecDepth 100000
set_option maxHeartbeats 4000000
namespace Go.V
abbrev Rg:=Int×Int
def fz (l:List Rg) (r:Int):Prop:=∃x,x∈l∧x.1≤r∧r≤x.2
theorem fO (r:Int):¬fz [] r:=by rintro⟨x,h,_⟩;cases h
theorem bW {x:Rg} {l:List Rg} {r:Int}:fz (x::l) r↔(x.1≤r∧r≤x.2)∨fz l r:=by
 constructor
 ·rintro⟨y,hy,h⟩
  rcases List.mem_cons.1 hy with rfl|hy
  ·exact .inl h
  ·exact .inr ⟨y,hy,h⟩
 ·rintro(h|⟨y,hy,h⟩)
  ·exact⟨x,List.mem_cons_self ..,h⟩
  ·exact⟨y,List.mem_cons_of_mem _ hy,h⟩
theorem vR {a b:List Rg} {r:Int}:fz (a++b) r↔fz a r∨fz b r:=by
 constructor
 ·rintro⟨y,hy,h⟩
  rcases List.mem_append.1 hy with hy|hy
  ·exact .inl ⟨y,hy,h⟩
  ·exact .inr ⟨y,hy,h⟩
 ·rintro(⟨y,hy,h⟩|⟨y,hy,h⟩)
  ·exact⟨y,List.mem_append_left _ hy,h⟩
  ·exact⟨y,List.mem_append_right _ hy,h⟩
theorem sy {a b:List Rg} (h:∀x,x∈a↔x∈b) (r:Int):fz a r↔fz b r:=by
 constructor
 ·rintro⟨y,hy,hh⟩;exact⟨y,(h y).1 hy,hh⟩
 ·rintro⟨y,hy,hh⟩;exact⟨y,(h y).2 hy,hh⟩
def canon (l:List Rg):Prop:=(∀x∈l,x.1≤x.2)∧l.Pairwise fun x y=>x.2+1<y.1
theorem jZ {x:Rg} {l:List Rg} (h:canon (x::l)):canon l∧x.1≤x.2∧∀r,fz l r→x.2+1<r:=by
 obtain⟨h1,h2⟩:=h;rw[List.pairwise_cons] at h2;refine⟨⟨fun y hy=>h1 y (List.mem_cons_of_mem _ hy),h2.2⟩,h1 x (List.mem_cons_self ..),?_⟩;rintro r ⟨y,hy,h3,h4⟩;have:=h2.1 y hy;omega
theorem mM:∀{a b:List Rg},canon a→canon b→(∀r,fz a r↔fz b r)→a=b
 |[],[],_,_,_=>rfl
 |[],y::b,_,hb,h=>by
  obtain⟨_,h1,_⟩:=jZ hb;exact absurd ((h y.1).2 (bW.2 (.inl ⟨Int.le_refl _,h1⟩))) (fO _)
 |x::a,[],ha,_,h=>by
  obtain⟨_,h1,_⟩:=jZ ha;exact absurd ((h x.1).1 (bW.2 (.inl ⟨Int.le_refl _,h1⟩))) (fO _)
 |x::a,y::b,ha,hb,h=>by
  obtain⟨ca,xa,fa⟩:=jZ ha;obtain⟨cb,yb,fb⟩:=jZ hb
  have low:∀{x y:Rg} {a b:List Rg},x.1≤x.2→(∀r,fz b r→y.2+1<r)→y.1≤y.2→(∀r,fz (x::a) r→fz (y::b) r)→y.1≤x.1:=by
   intro x y a b hx hf hy hh
   rcases bW.1 (hh x.1 (bW.2 (.inl ⟨Int.le_refl _,hx⟩))) with h|h
   ·exact h.1
   ·have:=hf _ h;omega
  have e1:x.1=y.1:=Int.le_antisymm (low yb fa xa fun r=>(h r).2) (low xa fb yb fun r=>(h r).1)
  have up:∀{x y:Rg} {a b:List Rg},x.1≤x.2→x.1=y.1→(∀r,fz a r→x.2+1<r)→(∀r,fz (y::b) r→fz (x::a) r)→y.2≤x.2:=by
   intro x y a b hx he hf hh
   rcases Int.lt_or_le x.2 y.2 with h'|h'
   ·rcases bW.1 (hh (x.2+1) (bW.2 (.inl ⟨by omega,by omega⟩))) with h|h
    ·omega
    ·have:=hf _ h;omega
   ·exact h'
  have e2:x.2=y.2:=Int.le_antisymm (up yb e1.symm fb fun r=>(h r).1) (up xa e1 fa fun r=>(h r).2);have e:x=y:=Prod.ext e1 e2;subst e
  congr 1
  refine mM ca cb fun r=>⟨fun hr=>?_,fun hr=>?_⟩
  ·have:=fa r hr
   rcases bW.1 ((h r).1 (bW.2 (.inr hr))) with h|h
   ·omega
   ·exact h
  ·have:=fb r hr
   rcases bW.1 ((h r).2 (bW.2 (.inr hr))) with h|h
   ·omega
   ·exact h
def dv (acc:List Rg) (r:Rg):List Rg:=
 match acc with
 |[]=>[r]
 |k::rest=>if r.1≤k.2+1 then(k.1,max k.2 r.2)::rest else r::k::rest
theorem mw:∀(l acc:List Rg),(∀x∈l,x.1≤x.2)→l.Pairwise (fun x y=>x.1≤y.1)→(∀k∈acc.head?,∀x∈l,k.1≤x.1)→(∀x∈acc,x.1≤x.2)→acc.Pairwise (fun x y=>y.2+1<x.1)→
  (∀x∈l.foldl dv acc,x.1≤x.2)∧(l.foldl dv acc).Pairwise (fun x y=>y.2+1<x.1)∧∀r,fz (l.foldl dv acc) r↔fz acc r∨fz l r
 |[],acc,_,_,_,h1,h2=>⟨h1,h2,fun r=>⟨.inl,fun h=>h.resolve_right (fO r)⟩⟩
 |x::l,acc,hl,hp,hk,h1,h2=>by
  rw[List.pairwise_cons] at hp;have hx:=hl x (List.mem_cons_self ..);have iR:∀y∈l,y.1≤y.2:=fun y hy=>hl y (List.mem_cons_of_mem _ hy);rw[List.foldl_cons]
  cases acc with
  |nil=>
   obtain⟨g1,g2,g3⟩:=mw l [x] iR hp.2 (fun k jW y hy=>by simp at jW;subst jW;exact hp.1 y hy) (fun y hy=>by simp at hy;subst hy;exact hx) (by simp);refine⟨g1,g2,fun r=>(g3 r).trans ?_⟩;rw[bW (l:=l),bW (l:=[])];constructor
   ·rintro((h|h)|h)
    ·exact .inr (.inl h)
    ·exact absurd h (fO r)
    ·exact .inr (.inr h)
   ·rintro(h|h|h)
    ·exact absurd h (fO r)
    ·exact .inl (.inl h)
    ·exact .inr h
  |cons k rest=>
   have RQ:=hk k rfl x (List.mem_cons_self ..);have hkk:=h1 k (List.mem_cons_self ..);rw[List.pairwise_cons] at h2;unfold dv
   by_cases hc:x.1≤k.2+1
   ·simp only[if_pos hc]
    obtain⟨g1,g2,g3⟩:=mw l ((k.1,max k.2 x.2)::rest) iR hp.2 (fun q hq y hy=>by simp at hq;subst hq;have:=hp.1 y hy;simp only;omega) (fun y hy=>by
     rcases List.mem_cons.1 hy with rfl|hy
     ·simp only;omega
     ·exact h1 y (List.mem_cons_of_mem _ hy)) (by rw[List.pairwise_cons];exact⟨h2.1,h2.2⟩)
    refine⟨g1,g2,fun r=>(g3 r).trans ?_⟩;rw[bW (l:=rest),bW (l:=rest),bW (l:=l)];constructor
    ·rintro((h|h)|h)
     ·simp only at h
      by_cases hr:r≤k.2
      ·exact .inl (.inl ⟨h.1,hr⟩)
      ·exact .inr (.inl ⟨by omega,by omega⟩)
     ·exact .inl (.inr h)
     ·exact .inr (.inr h)
    ·rintro((h|h)|h|h)
     ·exact .inl (.inl ⟨h.1,by simp only;omega⟩)
     ·exact .inl (.inr h)
     ·exact .inl (.inl ⟨by simp only;omega,by simp only;omega⟩)
     ·exact .inr h
   ·simp only[if_neg hc]
    obtain⟨g1,g2,g3⟩:=mw l (x::k::rest) iR hp.2 (fun q hq y hy=>by simp at hq;subst hq;exact hp.1 y hy) (fun y hy=>by
     rcases List.mem_cons.1 hy with rfl|hy
     ·exact hx
     ·exact h1 y hy) (by
     rw[List.pairwise_cons];refine⟨fun y hy=>?_,by rw[List.pairwise_cons];exact h2⟩
     rcases List.mem_cons.1 hy with rfl|hy
     ·omega
     ·have:=h2.1 y hy;omega)
    refine⟨g1,g2,fun r=>(g3 r).trans ?_⟩;rw[bW (l:=k::rest),bW (l:=l)];constructor
    ·rintro((h|h)|h)
     ·exact .inr (.inl h)
     ·exact .inl h
     ·exact .inr (.inr h)
    ·rintro(h|h|h)
     ·exact .inl (.inr h)
     ·exact .inl (.inl h)
     ·exact .inr h
theorem xV {l:List Rg} (h1:∀x∈l,x.1≤x.2) (h2:l.Pairwise fun x y=>x.1≤y.1):canon (l.foldl dv []).reverse∧∀r,fz (l.foldl dv []).reverse r↔fz l r:=by
 obtain⟨g1,g2,g3⟩:=mw l [] h1 h2 (fun k hk=>by simp at hk) (fun x hx=>by simp at hx) List.Pairwise.nil;refine⟨⟨fun x hx=>g1 x (List.mem_reverse.1 hx),by rw[List.pairwise_reverse];exact g2⟩,fun r=>?_⟩;rw[sy (fun x=>List.mem_reverse) r,g3 r];exact⟨fun h=>h.resolve_left (fO r),.inr⟩
def nE (r:Int):Prop:=0≤r∧r≤1114111∧¬(55296≤r∧r≤57343)
def dC (x:Rg):List Rg:=
 (if max (max x.1 0) 0≤min (min x.2 1114111) 55295 then[(max (max x.1 0) 0,min (min x.2 1114111) 55295)] else[])++
 (if max (max x.1 0) 57344≤min (min x.2 1114111) 1114111 then[(max (max x.1 0) 57344,min (min x.2 1114111) 1114111)] else[])
theorem pb (x:Rg) (r:Int):fz (dC x) r↔nE r∧x.1≤r∧r≤x.2:=by
 unfold dC nE;rw[vR]
 have one:∀(a b:Int),fz (if a≤b then[(a,b)] else[]) r↔a≤r∧r≤b:=by
  intro a b
  split
  ·rw[bW];exact⟨fun h=>h.elim id fun h=>absurd h (fO r),.inl⟩
  ·exact⟨fun h=>absurd h (fO r),fun h=>by omega⟩
 rw[one,one];omega
theorem nf (x:Rg):∀y∈dC x,y.1≤y.2∧0≤y.1∧y.2≤1114111:=by
 intro y hy;unfold dC at hy
 rcases List.mem_append.1 hy with h|h<;>split at h<;>simp at h<;>subst h<;>simp only<;>omega
theorem pL {l all:List Rg} (hp:∀x,x∈all↔x∈l.flatMap dC) (hs:all.Pairwise fun x y=>x.1≤y.1):canon (all.foldl dv []).reverse∧∀r,fz (all.foldl dv []).reverse r↔nE r∧fz l r:=by
 have hle:∀x∈all,x.1≤x.2:=fun x hx=>by
  obtain⟨y,_,hy⟩:=List.mem_flatMap.1 ((hp x).1 hx);exact(nf y x hy).1
 obtain⟨g1,g2⟩:=xV hle hs;refine⟨g1,fun r=>(g2 r).trans ((sy hp r).trans ?_)⟩;constructor
 ·rintro⟨y,hy,h⟩;obtain⟨x,hx,hy⟩:=List.mem_flatMap.1 hy;have:=(pb x r).1 ⟨y,hy,h⟩;exact⟨this.1,x,hx,this.2⟩
 ·rintro⟨hr,x,hx,h⟩;obtain⟨y,hy,h'⟩:=(pb x r).2 ⟨hr,h⟩;exact⟨y,List.mem_flatMap.2 ⟨x,hx,hy⟩,h'⟩
def lD:List Rg→Int→Bool
 |[],_=>false
 |x::l,r=>(decide (x.1≤r) &&decide (r≤x.2))||lD l r
theorem wB:∀(l:List Rg) (r:Int),lD l r=true↔fz l r
 |[],r=>⟨fun h=>(by cases h),fun h=>absurd h (fO r)⟩
 |x::l,r=>by
  rw[bW,←wB l r];simp[lD]
end Go.V
namespace Go.Proofs.Ytnleclohocdkaaa
open Go.V Go
def pT (fr:Go.V.Fr) (k:Nat):Go.V.D:=Go.V.nth .bG fr.loc k
def aw (x:Rg):List D:=[.int .i32 x.1,.int .i32 x.2]
def bB (l:List Rg):D:=.sl (l.map fun x=>.agg (aw x))
theorem ig (l:List Rg):D.sl ((l.map aw).map (lL 2))=bB l:=by
 unfold bB;rw[List.map_map];rfl
theorem gF (l:List Rg):∀e∈l.map aw,∀d∈e,cC d=true:=by
 intro e he d hd;obtain⟨x,_,rfl⟩:=List.mem_map.1 he;simp only[aw,List.mem_cons,List.not_mem_nil,or_false] at hd
 rcases hd with rfl|rfl<;>rfl
theorem xy (l:List Rg):refs (l.map aw).flatten=0:=by
 induction l with
 |nil=>rfl
 |cons x l ih=>simp only[List.map_cons,List.flatten_cons,aw,List.cons_append,List.nil_append,refs,D.ref,ih];rfl
theorem np (l:List Rg):∀e∈l.map aw,e.length=2:=by
 intro e he;obtain⟨x,_,rfl⟩:=List.mem_map.1 he;rfl
theorem fL (st:St) (l:List Rg):V.Rows st 2 (bB l) (l.map aw):=by
 rw[←ig];exact Rows.vJ (np l) (gF l)
theorem gi {l:List Rg} {i:Nat} {q:Rg} (h:l[i]?=some q):(l.map aw)[i]?=some (aw q):=by rw[List.getElem?_map,h];rfl
theorem A0 (l:List Rg) (q:Rg) (r:Int):lD (l++[q]) r=(lD l r||(decide (q.1≤r) &&decide (r≤q.2))):=by
 induction l with
 |nil=>simp[lD]
 |cons x l ih=>simp only[List.cons_append,lD,ih,Bool.or_assoc]
theorem CV {l:List Rg} {i:Nat} {r:Int} (h:lD (l.take i) r=true):lD l r=true:=by
 rw[wB] at h⊢;obtain⟨x,h1,h2⟩:=h;exact⟨x,List.mem_of_mem_take h1,h2⟩
theorem Gx {s0:St} {x:D} {l:List Rg} {r:Int} (hx:V.Rows s0 2 x (l.map aw)) (hl:l.length≤1073741824):Ev pv 95 [x,.int .i32 r] s0 (.bool (lD l r)) s0:=by
 refine Ev.pJ rfl L' rfl rfl rfl ?_;dsimp only[u3,u4,List.length,Nat.reduceSub,Nat.reduceAdd,w1,w2];obtain⟨cE,hF,hH⟩:=ri s0;generalize aj .ro s0=S at*;have hx:=Arg.of hx cE;refine qq<|qj fun K hK=>qm ?_;refine qe hK<|qq<|qq<|qj fun K hK=>qm ?_;refine qn ?_;simp only[List.length_map];refine qm ?_;refine qe hK<|af.block<|af.loop (fun mm fr st=>∃(i:Nat),fr.clean=⟨10,[x,.int .i32 r,pT fr 2,pT fr 3,.bool false,pT fr 5,pT fr 6,x,.int .i64 (l.length:Nat),.int .i64 (i:Nat)],[]⟩∧Has s0.bs.length S st []∧(i+mm=l.length)∧(lD (l.take i) r=false)) (l.length) ?_ ?_
 ·exact⟨0,rfl,hH,by omega,rfl⟩
 rintro mm fr st ⟨i,hfr,hH,hi,hn⟩;rw[hfr];clear hfr;generalize pT fr=ee;clear fr;refine qq<|qj fun K hK=>qg ?_;refine qe hK<|qq ?_;refine af.cond (by rfl) (fun h1=>?_) (fun h1=>?_)<;>try simp only[decide_eq_true_eq,decide_eq_false_iff_not] at h1
 ·refine af.skip ?_
  obtain⟨q,hq⟩:∃q,l[i]?=some q:=⟨l[i]'(by omega),List.getElem?_eq_getElem _⟩
  have hr:=gi hq;refine qq<|af.block<|qq<|qj fun K hK=>qr fun Nf Ii=>?_;refine ab.fk rfl (ev rfl) (by assumption) rfl (aa rfl _) ?_;refine qa hH fun k6 st Fl hH=>?_;refine qS hH aC fun st hH=>?_;dsimp only[u2,u1,u3,u4,setMany,u5,u6,D.cells,Nat.reduceAdd,aw] at hH;refine qe hK<|qq<|af.qV 22 (.bool (decide (r≥q.1) &&decide (r≤q.2))) [] ?_ (fun ff tmp lU=>?_)
  ·refine qm ?_;refine qp (o:=0) ?_;refine ql hH aC ?_;refine qg ?_;refine qm ?_;refine ab.two 17 rfl (fun nH=>?_) (fun nH=>?_)
   ·refine qm ?_ (hg:=wi nH);refine qp (o:=1) ?_ (hg:=wi nH);refine ql hH aC ?_ (hg:=wi nH);refine qg ?_ (hg:=wi nH);refine qt nH ?_;refine ab.nil (fP ?_ ?_)
    ·dsimp only[aI,List.foldl,nth,u2,u1]
     all_goals(first|rfl|simp)
    ·dsimp only[Fr.az,Fr.put,Fr.clean,Fr.ev,Fr.get,nth,V.look,u1,u2,v1,v2,v3,v4,v5,v6,v7,List.length,u3,u4,Nat.reduceSub,Nat.reduceAdd,List.map]
     all_goals(simp[nH];done)
   ·refine qs ?_ (hg:=wn nH);refine qs ?_ (hg:=wn nH);refine qs ?_ (hg:=wn nH);refine qs ?_ (hg:=wn nH);refine qu nH ?_;refine ab.nil (fP ?_ ?_)
    ·dsimp only[aI,List.foldl,nth,u2,u1]
     all_goals(first|rfl|simp)
    ·dsimp only[Fr.az,Fr.put,Fr.clean,Fr.ev,Fr.get,nth,V.look,u1,u2,v1,v2,v3,v4,v5,v6,v7,List.length,u3,u4,Nat.reduceSub,Nat.reduceAdd,List.map]
     all_goals(simp[nH];done)
  dsimp only[aI,List.foldl,nth,u2,u1];dsimp only[Fr.az,Fr.put,Fr.clean,Fr.ev,Fr.get,nth,V.look,u1,u2,v1,v2,v3,v4,v5,v6,v7,List.length,u3,u4,Nat.reduceSub,Nat.reduceAdd,List.map]
  have ht:lD (l.take (i+1)) r=(decide (r≥q.1) &&decide (r≤q.2)):=by
   rw[List.take_add_one,hq,Option.toList_some,A0,hn];simp
  refine qc (fun h2=>?_) (fun h2=>?_)<;>try simp only[cs] at h2
  ·refine qq<|qj fun K hK=>qm ?_;refine qe hK ?_;rw[CV (i:=i+1) (by rw[ht];simp[h2])];refine af.ret ⟨rx,_,rfl,rl cE hH (rfl)⟩
  ·refine af.skip<|qj fun K hK=>qA ?_;refine qm ?_;refine qe hK ?_;exact⟨mm-1,by omega,⟨i+1,rfl,(hH.drop 1),by omega,by rw[ht];simp[h2]⟩⟩
 ·refine af.exit<|qq<|qj fun K hK=>qm ?_;refine qe hK ?_;have:lD l r=false:=by rw[←hn,List.take_of_length_le (by omega)]
  rw[this];refine af.ret ⟨rx,_,rfl,rl cE hH (rfl)⟩
def aW (fr:Go.V.Fr) (k:Nat):Go.V.D:=Go.V.nth .bG fr.loc k
def fm:List Rg:=[(0,55295),(57344,1114111)]
def rG (lo hi:Int) (p:Rg):List Rg:=if max lo p.1≤min hi p.2 then[(max lo p.1,min hi p.2)] else[]
theorem tk (q:Rg):dC q=fm.flatMap (rG (max q.1 0) (min q.2 1114111)):=by
 simp[dC,fm,rG]
theorem BU {s0:St} (q:Rg):Ev pv 114 [.agg (aw q)] s0 (bB (dC q)) s0:=by
 refine Ev.pJ rfl Jh rfl rfl rfl ?_;dsimp only[u3,u4,List.length,Nat.reduceSub,Nat.reduceAdd,w1,w2];obtain⟨cE,hF,hH⟩:=ri s0;generalize aj .ro s0=S at*;refine qq<|qj fun K hK=>qb hH fun k1 st sK hH=>?_;dsimp only[u2,u1,u3,u4,setMany,u5,u6,D.cells,Nat.reduceAdd,aw] at hH;refine qm ?_;refine qe hK<|qq<|qj fun K hK=>qp (o:=0) ?_;refine ql hH aC ?_;refine ab.FU (t1:=0) (t2:=0) rfl (ev rfl) (ev rfl) (by dsimp only[Fr.put,u1,u2]<;>rfl) ?_;refine qp (o:=1) ?_;refine ql hH aC ?_;refine ab.FT (t1:=0) (t2:=0) rfl (ev rfl) (ev rfl) (by dsimp only[Fr.put,u1,u2]<;>rfl) ?_;refine qp (o:=0) ?_;refine qT hH aC fun st hH=>?_;dsimp only[u2,u1,u3,u4,setMany,u5,u6,D.cells,Nat.reduceAdd,aw] at hH;refine qp (o:=1) ?_;refine qT hH aC fun st hH=>?_;dsimp only[u2,u1,u3,u4,setMany,u5,u6,D.cells,Nat.reduceAdd,aw] at hH;refine qe hK ?_;generalize wm:max q.1 0=lo at*;generalize AW:min q.2 1114111=hi at*;refine qq<|qj fun K hK=>qm ?_;refine qe hK ?_;have hH:=hH.gH 2;refine qq<|qq<|qj fun K hK=>qg ?_;refine qg ?_;refine qh (s:=2) (vs:=[_,_]) hH fun k17 st Lx hH=>?_;dsimp only[u2,u1,u3,u4,setMany,u5,u6,D.cells,Nat.reduceAdd,aw] at hH;refine qn ?_ (hR:=hH.rows aC);simp only[List.length_map,List.length_cons,List.length_nil];refine qm ?_;refine qe hK<|af.block<|af.loop (fun mm fr st=>∃(i:Nat) (x:D),fr.clean=⟨20,[.agg (aw q),.ptr k1 0 0,.nul,x,aW fr 4,aW fr 5,aW fr 6,aW fr 7,aW fr 8,aW fr 9,aW fr 10,aW fr 11,aW fr 12,aW fr 13,aW fr 14,aW fr 15,aW fr 16,.win k17 0 0 2 2,.int .i64 2,.int .i64 (i:Nat)],[]⟩∧Has s0.bs.length S st [.aR (.win k17 0 0 2 2) 2 (fm.map aw),.aR x 2 (((fm.take i).flatMap (rG lo hi)).map aw),.box k1 (.mem 0 false [.int .i32 lo,.int .i32 hi])]∧(i+mm=2)∧(((fm.take i).flatMap (rG lo hi)).length≤i)) (2) ?_ ?_
 ·exact⟨0,.nul,rfl,hH,by omega,by simp⟩
 rintro mm fr st ⟨i,x,hfr,hH,hij,hb⟩;rw[hfr];clear hfr;generalize aW fr=ee;clear fr;refine qq<|qj fun K hK=>qg ?_;refine qe hK<|qq ?_;refine af.cond (by rfl) (fun h1=>?_) (fun h1=>?_)<;>try simp only[decide_eq_true_eq,decide_eq_false_iff_not] at h1
 ·refine af.skip ?_
  obtain⟨p,hp⟩:∃p,fm[i]?=some p:=⟨fm[i]'(by simp[fm];omega),List.getElem?_eq_getElem _⟩
  have hr:=gi hp;refine qq<|af.block<|qq<|qj fun K hK=>qi hH aC fun JI Ep=>?_;refine ab.tB hH rfl (ev rfl) (by assumption) (by exact aC) (by assumption) rfl (aa rfl _) ?_;refine qa hH fun k5 st JV hH=>?_;refine qS hH aC fun st hH=>?_;dsimp only[u2,u1,u3,u4,setMany,u5,u6,D.cells,Nat.reduceAdd,aw] at hH;refine qe hK<|qq<|qj fun K hK=>qp (o:=0) ?_;refine ql hH fc ?_;refine qp (o:=0) ?_;refine ql hH aC ?_;refine ab.FU (t1:=0) (t2:=0) rfl (ev rfl) (ev rfl) (aa rfl _) ?_;refine qp (o:=1) ?_;refine ql hH fc ?_;refine qp (o:=1) ?_;refine ql hH aC ?_;refine ab.FT (t1:=0) (t2:=0) rfl (ev rfl) (ev rfl) (aa rfl _) ?_;refine qg ?_;refine qa hH fun k6 st Fl hH=>?_;refine qS hH aC fun st hH=>?_;dsimp only[u2,u1,u3,u4,setMany,u5,u6,D.cells,Nat.reduceAdd,aw] at hH;refine qe hK<|qq<|qj fun K hK=>qp (o:=0) ?_;refine ql hH aC ?_;refine qp (o:=1) ?_;refine ql hH aC ?_;refine qg ?_;refine qe hK ?_;refine af.cond (by rfl) (fun h2=>?_) (fun h2=>?_)<;>try simp only[decide_eq_true_eq,decide_eq_false_iff_not] at h2
  ·refine qj fun K hK=>qm ?_;refine ab.cI (m:=2) hH rfl (ev rfl) (by exact aC) (by dsimp only[List.drop_succ_cons,List.drop_zero,List.take_succ_cons,List.take_zero,aw]<;>rfl) rfl rfl (aa rfl _) ?_;refine qh (s:=2) (vs:=[_]) hH fun k41 st Ix hH=>?_;refine ab.cT (s:=2) hH rfl (ev rfl) (ev rfl) (by exact fH) (by exact hH.rows (by exact aC)) rfl rfl rfl rfl rfl rfl rfl ⟨(Nat.le_of_ble_eq_true rfl),(Nat.le_of_ble_eq_true rfl)⟩ (fun _=>(aa rfl _)) (by simp only[List.length_cons,List.length_nil,List.length_map]<;>omega) (by exact .inl hF) (fun Hr st hH=>?_);dsimp only[u2,u1,u3,u4,setMany,u5,u6,D.cells,Nat.reduceAdd,aw] at hH;refine qm ?_;refine qe hK<|qj fun K hK=>qA ?_;refine qm ?_;refine qe hK ?_
   have h3:(fm.take (i+1)).flatMap (rG lo hi)=(fm.take i).flatMap (rG lo hi)++[(max lo p.1,min hi p.2)]:=by
    rw[List.take_add_one,hp,List.flatMap_append];simp[rG,h2]
   exact⟨mm-1,by omega,⟨i+1,Hr,rfl,(by rw[h3,List.map_append];exact hH.drop 3),by omega,by rw[h3];simp only[List.length_append,List.length_cons,List.length_nil];omega⟩⟩
  ·refine af.skip<|qj fun K hK=>qA ?_;refine qm ?_;refine qe hK ?_
   have h3:(fm.take (i+1)).flatMap (rG lo hi)=(fm.take i).flatMap (rG lo hi):=by
    rw[List.take_add_one,hp,List.flatMap_append];simp[rG,h2]
   exact⟨mm-1,by omega,⟨i+1,x,rfl,(by rw[h3];exact hH.drop 2),by omega,by rw[h3];omega⟩⟩
 ·refine af.exit<|qq<|qj fun K hK=>qm ?_;refine qm ?_;refine qe hK ?_;rw[←ig];have h3:fm.take i=fm:=List.take_of_length_le (by simp[fm];omega);rw[h3] at hH;refine af.ret ⟨rx,_,rfl,rl cE hH ?_⟩;refine Eq.trans (hH.freeze cp (gF _) (n:=15) (by decide)) ?_;rw[tk,wm,AW]
theorem Ak (q x:Rg) (h:x∈dC q):0≤x.1∧x.1≤1114111:=by
 obtain⟨h1,h2,h3⟩:=nf q x h;omega
theorem pe (q:Rg):(dC q).length≤2:=by
 unfold dC;split<;>split<;>simp
theorem iV (l:List Rg):(l.flatMap dC).length≤2*l.length:=by
 induction l with
 |nil=>simp
 |cons x l ih=>simp only[List.flatMap_cons,List.length_append,List.length_cons];have:=pe x;omega
theorem rR:∀{l:List Rg},(∀x∈l,0≤x.1∧x.1≤1114111)→∃m:List Rs,e_ m=(l.map aw).flatten∧m.map (fun x=>(x.lo,x.hi))=l
 |[],_=>⟨[],rfl,rfl⟩
 |x::l,h=>by
  obtain⟨m,h1,h2⟩:=rR (l:=l) fun y hy=>h y (List.mem_cons_of_mem _ hy);obtain⟨h3,h4⟩:=h x (List.mem_cons_self ..);exact⟨⟨x.1,x.2,h3,h4⟩::m,by simp only[e_,h1,List.map_cons,List.flatten_cons,aw,List.cons_append,List.nil_append],by simp[h2]⟩
theorem yi (m:List Rs):e_ m=((m.map fun x=>((x.lo,x.hi):Rg)).map aw).flatten:=by
 induction m with
 |nil=>rfl
 |cons x m ih=>simp only[e_,ih,List.map_cons,List.flatten_cons,aw,List.cons_append,List.nil_append]
theorem CU {N:Nat} {S st:St} {H:List cx} {j:Nat} {x:D} {l:List Rg} (hH:Has N S st H) (hj:H[j]?=some (.aR x 2 (l.map aw))) (h0:l=[]→x=.nul) (hl:l.length≤1073741824) (hr:∀y∈l,0≤y.1∧y.1≤1114111):
  ∃(ag:St) (l':List Rg),Ev pv 115 [x,.fn 116 []] st (.tup []) ag∧Has N S ag (H.set j (.aR x 2 (l'.map aw)))∧l'.Perm l∧l'.Pairwise fun a b=>a.1≤b.1:=by
 obtain⟨m,h1,h2⟩:=rR hr;obtain⟨h3,h4⟩:=srt_facts m;have Bu:m.length=l.length:=by rw[←h2];simp
 have hperm:((srt m).map fun x=>((x.lo,x.hi):Rg)).Perm l:=by rw[←h2];exact h3.map _
 have oh:((srt m).map fun x=>((x.lo,x.hi):Rg)).Pairwise fun a b=>a.1≤b.1:=by rw[List.pairwise_map];exact h4
 have hlen:(srt m).length=l.length:=h3.length_eq.trans Bu;have hown:=hH.own hj;generalize xb:l.map aw=es at*;have uG:es.length=l.length:=by rw[←xb];simp
 cases hown with
 |nul=>
  have Hg:l=[]:=by cases l with|nil=>rfl|cons _ _=>simp at uG
  refine⟨st,(srt m).map fun x=>(x.lo,x.hi),Ev.gj rfl rfl,?_,hperm,oh⟩
  have:(srt m).map (fun x=>((x.lo,x.hi):Rg))=[]:=by
   cases hs:srt m with
   |nil=>rfl
   |cons a b=>rw[hs,Hg] at hlen;simp at hlen
  rw[this];exact hH.Ae hj (fun _ _ _=>rfl) (Nat.le_refl _) rfl rfl .nul (fun k hk=>.inl hk) fun k hk=>by simp only[cx.aR,D.ref] at hk;omega
 |win k ay off es c hm hle hc he=>
  have hne:l≠[]:=fun e=>by have:=h0 e;cases this
  have uc:1≤l.length:=by cases l with|nil=>exact absurd rfl hne|cons _ _=>simp
  have hk:=(hH.ok j _ hj).2 k (by simp only[cx.aR,D.ref]);have x_:(e_ (srt m)).length=es.length*2:=by rw[mB,hlen,uG];omega
  have hwr:st.wr k ay off (e_ (srt m))=some ⟨st.bs.set k (.mem ay true (c.take off++e_ (srt m)++c.drop (off+(e_ (srt m)).length))),st.flr,st.ro⟩:=
   lN hm (by omega) (jA hH hk.1 (.inr (sR _)))
  refine⟨⟨st.bs.set k (.mem ay true (c.take off++e_ (srt m)++c.drop (off+(e_ (srt m)).length))),st.flr,st.ro⟩,(srt m).map fun x=>(x.lo,x.hi),Ev.gj rfl ?_,?_,hperm,oh⟩
  ·show Ai [.win k ay off es.length 2,.fn 116 []] st=_;have gW:(c.drop off).take (2*es.length)=e_ m:=by rw[Nat.mul_comm,hc,h1]
   simp only[Ai,St.mem_of hm,gW,y4,FD];rw[decide_eq_true (⟨by rw[Bu,uG],by omega,by omega⟩:m.length=es.length∧1≤es.length∧es.length<1099511627776)];simp only[hwr]
  ·refine hH.Ae hj (fun n hn hne=>?_) (by simp) rfl rfl ?_ (fun n hn=>.inl hn) fun n hn=>?_
   ·simp only;rw[List.getElem?_set_ne (fun e=>hne (by simp only[cx.aR,D.ref];omega))]
   ·have h9:=gS.win (st:=⟨st.bs.set k (.mem ay true (c.take off++e_ (srt m)++c.drop (off+(e_ (srt m)).length))),st.flr,st.ro⟩) (s:=2) k ay off (((srt m).map fun x=>((x.lo,x.hi):Rg)).map aw) (c.take off++e_ (srt m)++c.drop (off+(e_ (srt m)).length))
     (by simp only;rw[List.getElem?_set_self hk.2]) (by simp only[List.length_append,List.length_take,List.length_map,List.length_drop,x_];omega) ?_ (np _)
    ·simp only[List.length_map,hlen] at h9;rw[uG];exact h9
    ·have Ln:(c.take off).length=off:=by simp;omega
     rw[List.append_assoc,List.drop_left' Ln,←yi,List.take_left' (by simp only[List.length_map,hlen];omega)]
   ·simp only[cx.aR,D.ref] at hn;simp only[List.length_set];omega
theorem pS (l:List Rg):(l.foldl dv []).length≤l.length:=by
 have key:∀(l acc:List Rg),(l.foldl dv acc).length≤acc.length+l.length:=by
  intro l
  induction l with
  |nil=>intro acc;simp
  |cons x l ih=>
   intro acc;simp only[List.foldl_cons,List.length_cons];have:=ih (dv acc x)
   have h2:(dv acc x).length≤acc.length+1:=by
    unfold dv;split
    ·simp
    ·split<;>simp
   omega
 have:=key l []
 simpa using this
theorem Eg {l:List Rg} (h:∀x∈l,0≤x.2∧x.2≤1114111):∀x∈l.foldl dv [],0≤x.2∧x.2≤1114111:=by
 have key:∀(l acc:List Rg),(∀x∈l,0≤x.2∧x.2≤1114111)→(∀x∈acc,0≤x.2∧x.2≤1114111)→∀x∈l.foldl dv acc,0≤x.2∧x.2≤1114111:=by
  intro l
  induction l with
  |nil=>intro acc _ h x hx;exact h x hx
  |cons y l ih=>
   intro acc h1 h2;refine ih _ (fun x hx=>h1 x (List.mem_cons_of_mem _ hx)) fun x hx=>?_;have hy:=h1 y (List.mem_cons_self ..);unfold dv at hx
   split at hx
   ·simp only[List.mem_cons,List.not_mem_nil,or_false] at hx;rw[hx];exact hy
   ·rename_i k rest;have hk:=h2 k (List.mem_cons_self ..)
    split at hx
    ·rcases List.mem_cons.1 hx with rfl|hx
     ·simp only;omega
     ·exact h2 x (List.mem_cons_of_mem _ hx)
    ·rcases List.mem_cons.1 hx with rfl|hx
     ·exact hy
     ·exact h2 x hx
 exact key l [] h (fun x hx=>by cases hx)
theorem Cs (h:Rg) (t:List Rg):((h::t).reverse.map aw)[t.length]?=some (aw h):=by
 rw[List.getElem?_map,List.reverse_cons,List.getElem?_append_right (by simp)];simp
theorem Cr (h h':Rg) (t:List Rg):((h::t).reverse.map aw).set t.length (aw h')=(h'::t).reverse.map aw:=by
 rw[List.reverse_cons,List.map_append,List.set_append_right _ _ (by simp)];simp
theorem zj {s0:St} {x:D} {l:List Rg} (hx:V.Rows s0 2 x (l.map aw)) (hl:l.length≤268435456):∃d,Ev pv 103 [x] s0 d s0∧∃all:List Rg,d=bB (all.foldl dv []).reverse∧all.Perm (l.flatMap dC)∧all.Pairwise fun a b=>a.1≤b.1:=by
 refine Ev.Ec rfl Jl rfl rfl rfl ?_;dsimp only[u3,u4,List.length,Nat.reduceSub,Nat.reduceAdd,w1,w2];obtain⟨cE,hF,hH⟩:=ri s0;generalize aj .ro s0=S at*;have hx:=Arg.of hx cE;have qw:=iV l
 have hfi:∀i,((l.take i).flatMap dC).length≤2*l.length:=fun i=>by
  have:=iV (l.take i);simp only[List.length_take] at this;omega
 refine qq<|qj fun K hK=>qm ?_;refine qe hK<|qq<|qj fun K hK=>qm ?_;refine qm ?_;refine qe hK<|qq<|qq<|qj fun K hK=>qm ?_;refine qn ?_;simp only[List.length_map];refine qm ?_;refine qe hK ?_;have hH:=hH.gH 2;refine af.block<|af.loop (fun mm fr st=>∃(i:Nat) (y:D),fr.clean=⟨26,[x,aW fr 1,aW fr 2,y,.nul,aW fr 5,aW fr 6,aW fr 7,aW fr 8,aW fr 9,x,.int .i64 (l.length:Nat),.int .i64 (i:Nat),aW fr 13,aW fr 14,aW fr 15,aW fr 16,aW fr 17,aW fr 18,aW fr 19,aW fr 20,aW fr 21,aW fr 22,aW fr 23,aW fr 24,aW fr 25],[]⟩∧Has s0.bs.length S st [.aR y 2 (((l.take i).flatMap dC).map aw)]∧(i+mm=l.length)∧((l.take i).flatMap dC=[]→y=.nul)) (l.length) ?_ ?_
 ·exact⟨0,.nul,rfl,hH,by omega,fun _=>rfl⟩
 rintro mm fr st ⟨i,y,hfr,hH,hi,Gc⟩;rw[hfr];clear hfr;generalize aW fr=ee;clear fr;refine qq<|qj fun K hK=>qg ?_;refine qe hK ?_;have hm:=hfi i;refine qq ?_;refine af.cond (by rfl) (fun h1=>?_) (fun h1=>?_)<;>try simp only[decide_eq_true_eq,decide_eq_false_iff_not] at h1
 ·refine af.skip ?_
  obtain⟨q,hq⟩:∃q,l[i]?=some q:=⟨l[i]'(by omega),List.getElem?_eq_getElem _⟩
  have hr:=gi hq
  have Ey:(l.take (i+1)).flatMap dC=(l.take i).flatMap dC++dC q:=by
   rw[List.take_add_one,hq];simp
  have RK:=pe q;refine qq<|af.block<|qq<|qj fun K hK=>qr fun RF PD=>?_;refine ab.fk rfl (ev rfl) (by assumption) rfl (by dsimp only[Fr.put,u1,u2]<;>rfl) ?_;refine qa hH fun k6 st Fl hH=>?_;refine qS hH aC fun st hH=>?_;dsimp only[u2,u1,u3,u4,setMany,u5,u6,D.cells,Nat.reduceAdd,aw] at hH;refine qe hK<|qj fun K hK=>qm ?_;refine ab.cI (m:=2) hH rfl (ev rfl) (by exact aC) (by dsimp only[List.drop_succ_cons,List.drop_zero,List.take_succ_cons,List.take_zero,aw]<;>rfl) rfl rfl (by dsimp only[Fr.put,u1,u2]<;>rfl) ?_;refine qv (BU q) ?_;refine ab.CW hH rfl rfl rfl (by exact cp) (fL _ _) rfl rfl rfl rfl rfl rfl rfl ⟨(Nat.le_of_ble_eq_true rfl),(Nat.le_of_ble_eq_true rfl)⟩ (fun _=>by dsimp only[Fr.put,u1,u2]<;>rfl) (by simp only[List.length_map];omega) (.inl hF) (fun N8 st Ij hH=>?_);dsimp only[u2,u1] at hH;refine qm ?_;refine qe hK<|qj fun K hK=>qA ?_;refine qm ?_;refine qe hK ?_;exact⟨mm-1,by omega,⟨i+1,N8,rfl,(by rw[Ey,List.map_append];exact hH.drop 1),by omega,by rw[Ey];intro h;obtain⟨h3,h4⟩:=List.append_eq_nil_iff.1 h;rw[Ij (by rw[h4];rfl)];exact Gc h3⟩⟩
 ·refine af.exit ?_;have hT:l.take i=l:=List.take_of_length_le (by omega);rw[hT] at hH Gc hm
  obtain⟨st2,all,aM,Hl,hperm,oh⟩:=CU hH aC Gc (by omega) (fun z hz=>by
   obtain⟨w,_,hw⟩:=List.mem_flatMap.1 hz
   exact Ak w z hw)
  have hlen:=hperm.length_eq
  have hbd:∀z∈all,0≤z.2∧z.2≤1114111:=fun z hz=>by
   obtain⟨w,_,hw⟩:=List.mem_flatMap.1 (hperm.mem_iff.1 hz);have:=nf w z hw;omega
  refine qq<|qj fun K hK=>qm ?_;refine qv (aM) ?_;refine qe hK ?_;have hH:=Hl;dsimp only[u2] at hH;clear Hl aM;have hR:=hH.rows aC;have hH:=hH.gH 2;refine qq<|qq<|qj fun K hK=>qm ?_;refine qn ?_ (hR:=hH.rows cp);simp only[List.length_map];refine qm ?_;refine qe hK<|af.block<|af.loop (fun mm fr st=>∃(i:Nat) (z:D),fr.clean=⟨26,[x,aW fr 1,aW fr 2,y,z,aW fr 5,aW fr 6,aW fr 7,aW fr 8,aW fr 9,aW fr 10,aW fr 11,aW fr 12,aW fr 13,aW fr 14,aW fr 15,aW fr 16,aW fr 17,aW fr 18,aW fr 19,aW fr 20,aW fr 21,aW fr 22,y,.int .i64 (all.length:Nat),.int .i64 (i:Nat)],[]⟩∧Has s0.bs.length S st [.aR z 2 (((all.take i).foldl dv []).reverse.map aw),.aR y 2 (all.map aw)]∧(i+mm=all.length)) (all.length) ?_ ?_
  ·exact⟨0,.nul,rfl,hH,by omega⟩
  rintro mm fr st ⟨i,z,hfr,hH,hi⟩;rw[hfr];clear hfr;generalize aW fr=ee;clear fr;refine qq<|qj fun K hK=>qg ?_;refine qe hK ?_
  have lK:((all.take i).foldl dv []).length≤all.length:=by
   have:=pS (all.take i);simp only[List.length_take] at this;omega
  refine qq ?_;refine af.cond (by rfl) (fun h1=>?_) (fun h1=>?_)<;>try simp only[decide_eq_true_eq,decide_eq_false_iff_not] at h1
  ·refine af.skip ?_
   obtain⟨q,hq⟩:∃q,all[i]?=some q:=⟨all[i]'(by omega),List.getElem?_eq_getElem _⟩
   have hr:=gi hq
   have Gl:(all.take (i+1)).foldl dv []=dv ((all.take i).foldl dv []) q:=by
    rw[List.take_add_one,hq,List.foldl_append];rfl
   generalize EF:(all.take i).foldl dv []=acc at*;refine qq<|af.block<|qq<|qj fun K hK=>qi hH cp fun RD PB=>?_;refine ab.tB hH rfl (ev rfl) (by assumption) (by exact cp) (by assumption) rfl (aa rfl _) ?_;refine qa hH fun k8 st Ls hH=>?_;refine qS hH aC fun st hH=>?_;dsimp only[u2,u1,u3,u4,setMany,u5,u6,D.cells,Nat.reduceAdd,aw] at hH;refine qe hK ?_
   rcases acc with _|⟨h,t⟩
   ·refine qq<|qj fun K hK=>qm ?_;refine qn ?_ (hR:=hH.rows cp);simp only[List.length_map,List.length_nil,List.length_reverse];refine ab.mb (z:=(-1)) rfl (ev rfl) (ev rfl) (by(try simp only[List.length_reverse,List.length_cons,List.length_nil,List.length_append,List.length_map,List.length_set]);rw[wrap_i64 (by omega) (by omega)]<;>omega) (aa rfl _) ?_;refine qm ?_;refine qe hK ?_;have bd:decide ((-1:Int)≥0)=false:=by decide
    refine qq<|af.qV 44 (.bool false) [] ?_ (fun ff tmp lU=>?_)
    ·refine qm ?_;refine qg ?_;refine qm ?_;refine qs ?_ (hg:=wn bd);refine qs ?_ (hg:=wn bd);refine qs ?_ (hg:=wn bd);refine qs ?_ (hg:=wn bd);refine qs ?_ (hg:=wn bd);refine qs ?_ (hg:=wn bd);refine qs ?_ (hg:=wn bd);refine qs ?_ (hg:=wn bd);refine qs ?_ (hg:=wn bd);refine qu bd ?_;refine ab.nil (fP ?_ ?_)
     ·dsimp only[aI,List.foldl,nth,u2,u1]
      all_goals(first|rfl|simp)
     ·dsimp only[Fr.az,Fr.put,Fr.clean,Fr.ev,Fr.get,nth,look,u1,u2,v1,v2,v4]
      all_goals(first|rfl|(simp[bd];done)|(simp_all;done)|(simp[bd];omega)|(simp_all;omega))
    dsimp only[aI,List.foldl,nth,u2,u1];dsimp only[Fr.az,Fr.put,Fr.clean,Fr.ev,Fr.get,nth,look,u1,u2,v1,v2,v4];refine qC ?_;refine qj fun K hK=>qm ?_;refine ab.cI (m:=2) hH rfl (ev rfl) (by exact aC) (by dsimp only[List.drop_succ_cons,List.drop_zero,List.take_succ_cons,List.take_zero,aw]<;>rfl) rfl rfl (aa rfl _) ?_;refine qh (s:=2) (vs:=[_]) hH fun k59 st Lu hH=>?_;refine ab.cT (s:=2) hH rfl (ev rfl) (ev rfl) (by exact dx) (by exact hH.rows (by exact aC)) rfl rfl rfl rfl rfl rfl rfl ⟨(Nat.le_of_ble_eq_true rfl),(Nat.le_of_ble_eq_true rfl)⟩ (fun _=>(aa rfl _)) (by simp only[List.length_cons,List.length_nil,List.length_map,List.length_reverse]<;>omega) (by exact .inl hF) (fun J' st hH=>?_);dsimp only[u2,u1,u3,u4,setMany,u5,u6,D.cells,Nat.reduceAdd,aw] at hH;refine qm ?_;refine qe hK<|qj fun K hK=>qA ?_;refine qm ?_;refine qe hK ?_;exact⟨mm-1,by omega,⟨i+1,J',rfl,(by rw[Gl];exact hH.drop 2),by omega⟩⟩
   ·simp only[List.length_cons] at lK;refine qq<|qj fun K hK=>qm ?_;refine qn ?_ (hR:=hH.rows cp);simp only[List.length_map,List.length_cons,List.length_reverse];refine ab.mb (z:=((t.length:Nat):Int)) rfl (ev rfl) (ev rfl) (by(try simp only[List.length_reverse,List.length_cons,List.length_nil,List.length_append,List.length_map,List.length_set]);rw[wrap_i64 (by omega) (by omega)]<;>omega) (aa rfl _) ?_;refine qm ?_;refine qe hK ?_;have zx:=Cs h t;have gR:=Cr h (h.1,max h.2 q.2) t;have AW:=Eg (l:=all.take i) (fun x hx=>hbd x (List.mem_of_mem_take hx)) h (by rw[EF];exact List.mem_cons_self ..);have bd:decide (((t.length:Nat):Int)≥0)=true:=by rw[decide_eq_true];omega
    refine qq<|af.qV 44 (.bool (decide (q.1≤h.2+1))) [] ?_ (fun ff tmp lU=>?_)
    ·refine qm ?_;refine qg ?_;refine qm ?_;refine qp (o:=0) ?_ (hg:=wi bd);refine ql hH aC ?_ (hg:=wi bd);refine qm ?_ (hg:=wi bd);refine qm ?_ (hg:=wi bd);refine qi hH cp (fun Oq Ld=>?_) (hg:=wi bd);refine ab.iP (fo:=1) (m:=0) (o2:=1) (ah rfl rfl rfl bd) (ev rfl) (by assumption) rfl rfl rfl (fun _=>(aa rfl _)) (fun Oo Lc=>?_);refine qo hH cp ?_ (hg:=wi bd);refine ab.yI (ah rfl rfl rfl bd) (ev rfl) (ev rfl) (by omega) (by omega) (aa rfl _) ?_;refine qg ?_ (hg:=wi bd);refine qt bd ?_;refine ab.nil (fP ?_ ?_)
     ·dsimp only[aI,List.foldl,nth,u2,u1]
      all_goals(first|rfl|simp)
     ·dsimp only[Fr.az,Fr.put,Fr.clean,Fr.ev,Fr.get,nth,look,u1,u2,v1,v2,v4]
      all_goals(first|rfl|(simp[bd];done)|(simp_all;done)|(simp[bd];omega)|(simp_all;omega))
    dsimp only[aI,List.foldl,nth,u2,u1];dsimp only[Fr.az,Fr.put,Fr.clean,Fr.ev,Fr.get,nth,look,u1,u2,v1,v2,v4];refine af.cond (by assumption) (fun h2=>?_) (fun h2=>?_)<;>try simp only[decide_eq_true_eq,decide_eq_false_iff_not] at h2
    ·refine qj fun K hK=>qm ?_;refine qm ?_;refine qm ?_;refine qm ?_;refine qi hH cp fun Om La=>?_;refine ab.iP (fo:=1) (m:=0) (o2:=1) rfl (ev rfl) (by assumption) rfl rfl rfl (fun _=>(aa rfl _)) (fun Ol K'=>?_);refine qo hH cp ?_;refine qp (o:=1) ?_;refine ql hH aC ?_;refine ab.FU (t1:=0) (t2:=0) rfl (ev rfl) (ev rfl) (aa rfl _) ?_;refine qi hH cp fun Rw Pt=>?_;refine ab.iP (fo:=1) (m:=0) (o2:=1) rfl (ev rfl) (by assumption) rfl rfl rfl (fun _=>(aa rfl _)) (fun Rv Ps=>?_);refine ab.pA hH rfl (ev rfl) (ev rfl) (by assumption) rfl rfl (by exact cp) (by assumption) (Nat.le_of_ble_eq_true rfl) (by exact .inl hF) (fun st hH=>?_);dsimp only[u2,u1,u3,u4,setMany,u5,u6,D.cells,Nat.reduceAdd,aw] at hH;refine qe hK<|qj fun K hK=>qA ?_;refine qm ?_;refine qe hK ?_;exact⟨mm-1,by omega,⟨i+1,z,rfl,(by rw[Gl];simp only[dv,if_pos h2];rw[←gR];exact hH.drop 1),by omega⟩⟩
    ·refine qj fun K hK=>qm ?_;refine ab.cI (m:=2) hH rfl (ev rfl) (by exact aC) (by dsimp only[List.drop_succ_cons,List.drop_zero,List.take_succ_cons,List.take_zero,aw]<;>rfl) rfl rfl (aa rfl _) ?_;refine qh (s:=2) (vs:=[_]) hH fun k59 st Lu hH=>?_;refine ab.cT (s:=2) hH rfl (ev rfl) (ev rfl) (by exact dx) (by exact hH.rows (by exact aC)) rfl rfl rfl rfl rfl rfl rfl ⟨(Nat.le_of_ble_eq_true rfl),(Nat.le_of_ble_eq_true rfl)⟩ (fun _=>(aa rfl _)) (by simp only[List.length_cons,List.length_nil,List.length_map,List.length_reverse]<;>omega) (by exact .inl hF) (fun J' st hH=>?_);dsimp only[u2,u1,u3,u4,setMany,u5,u6,D.cells,Nat.reduceAdd,aw] at hH;refine qm ?_;refine qe hK<|qj fun K hK=>qA ?_;refine qm ?_;refine qe hK ?_;exact⟨mm-1,by omega,⟨i+1,J',rfl,(by rw[Gl];simp only[dv,if_neg h2];rw[List.reverse_cons (a:=q),List.map_append];exact hH.drop 2),by omega⟩⟩
  ·refine af.exit<|qq<|qj fun K hK=>qm ?_;refine qm ?_;refine qe hK ?_;rw[List.take_of_length_le (by omega)] at hH;refine af.ret ⟨rx,_,_,rfl,rl cE hH ((hH.freeze aC (gF _) (n:=15) (by decide))),?_⟩;exact⟨all,by rw[ig],hperm,oh⟩
def ja (fr:Go.V.Fr) (k:Nat):Go.V.D:=Go.V.nth .bG fr.loc k
def gB (l a:List Rg):Prop:=canon a∧∀r,fz a r↔nE r∧fz l r
theorem gB.unique {l a b:List Rg} (h:gB l a) (g:gB l b):a=b:=mM h.1 g.1 fun r=>(h.2 r).trans (g.2 r).symm
noncomputable def eO (l:List Rg):Bool:=@decide (gB l l) (Classical.propDecidable _)
theorem An {l a:List Rg} (h:gB l a):eO l=decide (l=a):=by
 unfold eO
 by_cases hl:l=a
 ·rw[decide_eq_true hl];exact@decide_eq_true _ (Classical.propDecidable _) (by rw[hl] at h⊢;exact h)
 ·rw[decide_eq_false hl];exact@decide_eq_false _ (Classical.propDecidable _) (fun g=>hl (g.unique h))
theorem AH (p q:Rg):oF pv .neq 42 (.agg (aw p)) (.agg (aw q))=some (.bool (!decide (p=q))):=by
 have h:∀a b a' b':Int,oF pv .neq 42 (.agg [.int .i32 a,.int .i32 b]) (.agg [.int .i32 a',.int .i32 b'])=Option.map (fun b=>D.bool !b) (match some (a==a') with|some true=>(match some (b==b') with|some true=>some true|some false=>some false|none=>none)|some false=>some false|none=>none):=fun _ _ _ _=>rfl;obtain⟨a,b⟩:=p;obtain⟨a',b'⟩:=q;simp only[aw,h]
 by_cases h1:a=a'
 ·subst h1
  by_cases h2:b=b'
  ·subst h2;simp
  ·have:(b==b')=false:=by simpa using h2
   simp[this,h2]
 ·have:(a==a')=false:=by simpa using h1
  simp[this,h1]
theorem th {α:Type} {a b:List α} {i:Nat} {x y:α} (ha:a[i]?=some x) (hb:b[i]?=some y) (h:a.take i=b.take i) (H0:x=y):a.take (i+1)=b.take (i+1):=by
 rw[List.take_add_one,List.take_add_one,h,ha,hb,H0]
theorem AJ {α:Type} {a b:List α} {i:Nat} {x y:α} (ha:a[i]?=some x) (hb:b[i]?=some y) (H0:¬x=y):¬a=b:=by
 intro h;subst h;rw[ha] at hb;exact H0 (Option.some.inj hb)
theorem C7 {s0:St} {x y:D} {l m:List Rg} (hx:V.Rows s0 2 x (l.map aw)) (hy:V.Rows s0 2 y (m.map aw)) (hl:l.length≤1073741824) (hm:m.length≤1073741824):Ev pv 102 [x,y] s0 (.bool (decide (l=m))) s0:=by
 refine Ev.pJ rfl Jm rfl rfl rfl ?_;dsimp only[u3,u4,List.length,Nat.reduceSub,Nat.reduceAdd,w1,w2];obtain⟨cE,hF,hH⟩:=ri s0;generalize aj .ro s0=S at*;have hx:=Arg.of hx cE;have hy:=Arg.of hy cE;refine qq<|qj fun K hK=>qm ?_;refine qe hK<|qq<|qq<|qj fun K hK=>qm ?_;refine qn ?_;simp only[List.length_map];refine qm ?_;refine qn ?_;simp only[List.length_map];refine qg ?_;refine qe hK ?_
 by_cases hlen:l.length=m.length
 ·refine af.cond (v:=false) ?_ (fun h=>by cases h) (fun _=>?_)
  ·dsimp only[Fr.ev,Fr.get,nth,V.look];rw[hlen];simp
  refine af.skip<|qq<|qq<|qj fun K hK=>qm ?_;refine qn ?_;simp only[List.length_map];refine qm ?_;refine qe hK<|af.block<|af.loop (fun mm fr st=>∃(i:Nat),fr.clean=⟨14,[x,y,ja fr 2,ja fr 3,.bool false,ja fr 5,ja fr 6,ja fr 7,ja fr 8,ja fr 9,ja fr 10,ja fr 11,.int .i64 (l.length:Nat),.int .i64 (i:Nat)],[]⟩∧Has s0.bs.length S st []∧(i+mm=l.length)∧(l.take i=m.take i)) (l.length) ?_ ?_
  ·exact⟨0,rfl,hH,by omega,rfl⟩
  rintro mm fr st ⟨i,hfr,hH,hi,ht⟩;rw[hfr];clear hfr;generalize ja fr=ee;clear fr;refine qq<|qj fun K hK=>qg ?_;refine qe hK<|qq ?_;refine af.cond (by rfl) (fun h1=>?_) (fun h1=>?_)<;>try simp only[decide_eq_true_eq,decide_eq_false_iff_not] at h1
  ·refine af.skip ?_
   obtain⟨p,hp⟩:∃p,l[i]?=some p:=⟨l[i]'(by omega),List.getElem?_eq_getElem _⟩
   obtain⟨q,hq⟩:∃q,m[i]?=some q:=⟨m[i]'(by omega),List.getElem?_eq_getElem _⟩
   have jx:=gi hp;have m_:=gi hq;refine qq<|af.block<|qq<|qj fun K hK=>qm ?_;refine qm ?_;refine qe hK<|qq<|qj fun K hK=>qm ?_;refine qm ?_;refine qr fun Ov Lg=>?_;refine ab.fk rfl (ev rfl) (by assumption) rfl (aa rfl _) ?_;refine qm ?_;refine qm ?_;refine qr fun Nc Ig=>?_;refine ab.fk rfl (ev rfl) (by assumption) rfl (aa rfl _) ?_;refine ab.OC rfl (ev rfl) (ev rfl) (AH p q) (aa rfl _) ?_;refine qe hK ?_;refine af.cond (by rfl) (fun h2=>?_) (fun h2=>?_)<;>try simp only[decide_eq_true_eq,decide_eq_false_iff_not,Bool.not_eq_true',Bool.not_eq_false'] at h2
   ·refine qq<|qj fun K hK=>qm ?_;refine qe hK ?_;rw[decide_eq_false (AJ hp hq (by simpa using h2))];refine af.ret ⟨rx,_,rfl,rl cE hH (rfl)⟩
   ·refine af.skip<|qj fun K hK=>qA ?_;refine qm ?_;refine qe hK ?_;exact⟨mm-1,by omega,⟨i+1,rfl,hH,by omega,th hp hq ht (by simpa using h2)⟩⟩
  ·refine af.exit<|qq<|qj fun K hK=>qm ?_;refine qe hK ?_;rw[decide_eq_true (by rw[List.take_of_length_le (by omega),List.take_of_length_le (by omega)] at ht;exact ht)];refine af.ret ⟨rx,_,rfl,rl cE hH (rfl)⟩
 ·refine af.cond (v:=true) ?_ (fun _=>?_) (fun h=>by cases h)
  ·dsimp only[Fr.ev,Fr.get,nth,V.look];simp;omega
  refine qq<|qj fun K hK=>qm ?_;refine qe hK ?_;rw[decide_eq_false (fun h=>hlen (by rw[h]))];refine af.ret ⟨rx,_,rfl,rl cE hH (rfl)⟩
theorem ve {s0:St} {x:D} {l:List Rg} (hx:V.Rows s0 2 x (l.map aw)) (hl:l.length≤1048576):Ev pv 77 [x] s0 (.bool (eO l)) s0:=by
 refine Ev.pJ rfl Mc rfl rfl rfl ?_;dsimp only[u3,u4,List.length,Nat.reduceSub,Nat.reduceAdd,w1,w2];obtain⟨cE,hF,hH⟩:=ri s0;generalize aj .ro s0=S at*;have hx:=Arg.of hx cE;refine qq<|qj fun K hK=>qm ?_;refine qe hK ?_;obtain⟨_,aM,all,rfl,hperm,oh⟩:=zj (hx.rows hH) (by omega);have hM:gB l (all.foldl dv []).reverse:=pL (fun x=>hperm.mem_iff) oh;have hlen:=hperm.length_eq;have qw:=iV l;have lK:=pS all;rw[An hM];refine qq<|qj fun K hK=>qm ?_;refine qm ?_;refine qv (aM) ?_;refine qv (C7 (hx.rows hH) (fL _ _) (by omega) (by rw[List.length_reverse];omega)) ?_;refine qm ?_;refine qe hK<|af.ret ⟨rx,_,rfl,rl cE hH (rfl)⟩
structure aN where
 op:Int
 x:Int
 y:Int
 rd:D
 rs:List Rg
def aX (i:aN):List D:=[.int .i64 i.op,.int .i64 i.x,.int .i64 i.y,i.rd]
def aN.ok (i:aN):Prop:=iK i.rd 2 (i.rs.map aw)∧i.rs.length≤1048576
def au (n:Int):List D:=[.int .i64 n]
structure Pg where
 cd:D
 code:List aN
 sd:D
 aK:List Int
structure Pg.ok (p:Pg):Prop where
 c:iK p.cd 4 (p.code.map aX)
 s:iK p.sd 1 (p.aK.map au)
 i:∀x∈p.code,x.ok
 cl:p.code.length≤1048576
 sl:p.aK.length≤1048576
def Pg.cs (p:Pg):List D:=[p.cd,p.sd]
def Pg.d (p:Pg):D:=.agg p.cs
theorem lh {l:List aN} {i:Nat} {q:aN} (h:l[i]?=some q):(l.map aX)[i]?=some (aX q):=by rw[List.getElem?_map,h];rfl
theorem fR {l:List Int} {i:Nat} {q:Int} (h:l[i]?=some q):(l.map au)[i]?=some (au q):=by rw[List.getElem?_map,h];rfl
def pY (v n:Int):Bool:=decide (v≥0) &&decide (v<n)
noncomputable def dh (n ns pc:Nat) (i:aN):Bool:=
 if i.op=1 then i.y==0 &&(decide (((pc+1:Nat):Int)<n) &&i.x==0 &&eO i.rs)
 else i.rs.isEmpty &&
  (if i.op=2 then pY i.x n &&pY i.y n
  else i.y==0 &&
   (if i.op=3 then pY i.x n
   else if i.op=4 then decide (((pc+1:Nat):Int)<n) &&pY i.x 10
   else if i.op=5∨i.op=6 then decide (((pc+1:Nat):Int)<n) &&i.x==0
   else if i.op=7 then pY i.x ns
   else false))
theorem hO {s0:St} (v n:Int):Ev pv 49 [.int .i64 v,.int .i64 n] s0 (.bool (pY v n)) s0:=by
 refine Ev.pJ rfl Ml rfl rfl rfl ?_;dsimp only[u3,u4,List.length,Nat.reduceSub,Nat.reduceAdd,w1,w2];obtain⟨cE,hF,hH⟩:=ri s0;generalize aj .ro s0=S at*;refine qq<|qj fun K hK=>qm ?_;refine qe hK<|qq<|af.lE 4 (.bool (decide (v≥0) &&decide (v<n))) [] ?_ (fun ff tmp=>?_)
 ·refine qm ?_;refine qg ?_;refine qm ?_;refine ab.two 7 rfl (fun bd=>?_) (fun bd=>?_)
  ·refine qm ?_ (hg:=wi bd);refine qm ?_ (hg:=wi bd);refine qg ?_ (hg:=wi bd);refine qt bd ?_;refine qm ?_;refine ab.nil (aQ ?_);dsimp only[aI,List.foldl,nth,u2,u1];dsimp only[Fr.az,Fr.put,Fr.clean,Fr.ev,Fr.get,nth,V.look,u1,u2,v1,v2,v3,v4,v5,v6,v7,List.length,u3,u4,Nat.reduceSub,Nat.reduceAdd,List.map]
   all_goals(simp[bd];done)
  ·refine qs ?_ (hg:=wn bd);refine qs ?_ (hg:=wn bd);refine qs ?_ (hg:=wn bd);refine qu bd ?_;refine qm ?_;refine ab.nil (aQ ?_);dsimp only[aI,List.foldl,nth,u2,u1];dsimp only[Fr.az,Fr.put,Fr.clean,Fr.ev,Fr.get,nth,V.look,u1,u2,v1,v2,v3,v4,v5,v6,v7,List.length,u3,u4,Nat.reduceSub,Nat.reduceAdd,List.map]
   all_goals(simp[bd];done)
 dsimp only[aI,List.foldl,nth,u2,u1];refine af.ret ⟨rx,_,rfl,rl cE hH (rfl)⟩
theorem Aj {s0:St} {p:Pg} {pc:Nat} {i:aN} (hp:p.ok) (hi:p.code[pc]?=some i):Ev pv 48 [p.d,.int .i64 (pc:Nat)] s0 (.bool (dh p.code.length p.aK.length pc i)) s0:=by
 refine Ev.pJ rfl Mm rfl rfl rfl ?_;dsimp only[u3,u4,List.length,Nat.reduceSub,Nat.reduceAdd,w1,w2];obtain⟨cE,hF,hH⟩:=ri s0;generalize aj .ro s0=S at*;have hc:=hp.c.arg s0.bs.length S;have hs:=hp.s.arg s0.bs.length S;have NF:=hp.i i (List.mem_of_getElem? hi);have LB:=NF.1.arg s0.bs.length S;have hil:=NF.2;have hcl:=hp.cl;have lB:=hp.sl;have hr:=lh hi;have hlt:=bn hi;unfold Pg.d;refine qq<|qj fun K hK=>qb hH fun k2 st hk2 hH=>?_;dsimp only[u2,u1,u3,u4,setMany,u5,u6,D.cells,Nat.reduceAdd,Pg.cs,aX,au] at hH;refine qm ?_;refine qe hK<|qq<|qj fun K hK=>qp (o:=0) ?_;refine ql hH aC ?_;refine qm ?_;refine qr fun OB Lk=>?_;refine ab.fk rfl (ev rfl) (by assumption) rfl (by dsimp only[Fr.put,u1,u2]<;>rfl) ?_;refine qa hH fun k5 st JV hH=>?_;refine qS hH aC fun st hH=>?_;dsimp only[u2,u1,u3,u4,setMany,u5,u6,D.cells,Nat.reduceAdd,Pg.cs,aX,au] at hH;refine qe hK<|qq<|qj fun K hK=>qm ?_;refine qA ?_;refine qp (o:=0) ?_;refine ql hH cp ?_;refine qn ?_;simp only[List.length_map];refine qg ?_;refine qm ?_;refine qe hK<|qq<|qq<|af.lE 36 (.bool (((i.op !=1) &&decide ((i.rs.length:Int)>0))||((i.op !=2) &&(i.y !=0)))) [18,19,20,21,22,23,24,25,26,27,28,29,30,31,32,33,34,35] ?_ (fun ff tmp=>?_)
 ·refine qp (o:=0) ?_;refine ql hH aC ?_;refine qg ?_;refine qm ?_;refine ab.two 21 rfl (fun cm=>?_) (fun cm=>?_)
  ·refine qp (o:=3) ?_ (hg:=wi cm);refine ql hH aC ?_ (hg:=wi cm);refine qn ?_ (hg:=wi cm);simp only[List.length_map];refine qg ?_ (hg:=wi cm);refine qt cm ?_;refine qm ?_;refine ab.two 27 rfl (fun cN=>?_) (fun cN=>?_)
   ·refine qs ?_ (hg:=wn cN);refine qs ?_ (hg:=wn cN);refine qs ?_ (hg:=wn cN);refine qs ?_ (hg:=wn cN);refine qs ?_;refine qs ?_;refine qs ?_;refine qs ?_ (hg:=wn cN);refine qt cN ?_;refine ab.nil (aQ ?_);dsimp only[aI,List.foldl,nth,u2,u1];dsimp only[Fr.az,Fr.put,Fr.clean,Fr.ev,Fr.get,nth,V.look,u1,u2,v1,v2,v3,v4,v5,v6,v7,List.length,u3,u4,Nat.reduceSub,Nat.reduceAdd,List.map]
    all_goals(simp_all;done)
   ·refine qp (o:=0) ?_ (hg:=wi cN);refine ql hH aC ?_ (hg:=wi cN);refine qg ?_ (hg:=wi cN);refine qm ?_ (hg:=wi cN);refine ab.two 31 rfl (fun c8=>?_) (fun c8=>?_)
    ·refine qp (o:=2) ?_ (hg:=wi c8);refine ql hH aC ?_ (hg:=wi c8);refine qg ?_ (hg:=wi c8);refine ab.b_ (ah rfl rfl rfl cN) rfl c8 (by dsimp only[Fr.put,u1,u2]<;>rfl) ?_;refine qu cN ?_;refine ab.nil (aQ ?_);dsimp only[aI,List.foldl,nth,u2,u1];dsimp only[Fr.az,Fr.put,Fr.clean,Fr.ev,Fr.get,nth,V.look,u1,u2,v1,v2,v3,v4,v5,v6,v7,List.length,u3,u4,Nat.reduceSub,Nat.reduceAdd,List.map]
     all_goals(simp_all;done)
    ·refine qs ?_ (hg:=wn c8);refine qs ?_ (hg:=wn c8);refine qs ?_ (hg:=wn c8);refine ab.bM (ah rfl rfl rfl cN) rfl c8 (by dsimp only[Fr.put,u1,u2]<;>rfl) ?_;refine qu cN ?_;refine ab.nil (aQ ?_);dsimp only[aI,List.foldl,nth,u2,u1];dsimp only[Fr.az,Fr.put,Fr.clean,Fr.ev,Fr.get,nth,V.look,u1,u2,v1,v2,v3,v4,v5,v6,v7,List.length,u3,u4,Nat.reduceSub,Nat.reduceAdd,List.map]
     all_goals(simp_all;done)
  ·refine qs ?_ (hg:=wn cm);refine qs ?_ (hg:=wn cm);refine qs ?_ (hg:=wn cm);refine qs ?_ (hg:=wn cm);refine qu cm ?_;refine qm ?_;refine qp (o:=0) ?_;refine ql hH aC ?_;refine qg ?_;refine qm ?_;refine ab.two 31 rfl (fun c8=>?_) (fun c8=>?_)
   ·refine qp (o:=2) ?_ (hg:=wi c8);refine ql hH aC ?_ (hg:=wi c8);refine qg ?_ (hg:=wi c8);refine qt c8 ?_;refine qg ?_;refine ab.nil (aQ ?_);dsimp only[aI,List.foldl,nth,u2,u1];dsimp only[Fr.az,Fr.put,Fr.clean,Fr.ev,Fr.get,nth,V.look,u1,u2,v1,v2,v3,v4,v5,v6,v7,List.length,u3,u4,Nat.reduceSub,Nat.reduceAdd,List.map]
    all_goals(simp[cm,c8];done)
   ·refine qs ?_ (hg:=wn c8);refine qs ?_ (hg:=wn c8);refine qs ?_ (hg:=wn c8);refine qu c8 ?_;refine qg ?_;refine ab.nil (aQ ?_);dsimp only[aI,List.foldl,nth,u2,u1];dsimp only[Fr.az,Fr.put,Fr.clean,Fr.ev,Fr.get,nth,V.look,u1,u2,v1,v2,v3,v4,v5,v6,v7,List.length,u3,u4,Nat.reduceSub,Nat.reduceAdd,List.map]
    all_goals(simp[cm,c8];done)
 dsimp only[aI,List.foldl,nth,u2,u1];generalize ff 18=QZ;generalize ff 19=QY;generalize ff 20=QX;generalize ff 21=QW;generalize ff 22=QV;generalize ff 23=QU;generalize ff 24=QT;generalize ff 25=QS;generalize ff 26=QR;generalize ff 27=QQ;generalize ff 28=R8;generalize ff 29=R7;generalize ff 30=R6;generalize ff 31=R5;generalize ff 32=R4;generalize ff 33=R3;generalize ff 34=R2;generalize ff 35=R1;have It:(i.rs.isEmpty=!decide ((i.rs.length:Int)>0)):=by cases i.rs<;>simp<;>omega
 have hsh:dh p.code.length p.aK.length pc i=if((i.op !=1) &&decide ((i.rs.length:Int)>0))||((i.op !=2) &&(i.y !=0)) then false else
   (if i.op=1 then(decide (((pc+1:Nat):Int)<p.code.length) &&i.x==0) &&eO i.rs
   else if i.op=2 then pY i.x p.code.length &&pY i.y p.code.length
   else if i.op=3 then pY i.x p.code.length
   else if i.op=4 then decide (((pc+1:Nat):Int)<p.code.length) &&pY i.x 10
   else if i.op=5 then decide (((pc+1:Nat):Int)<p.code.length) &&i.x==0
   else if i.op=6 then decide (((pc+1:Nat):Int)<p.code.length) &&i.x==0
   else if i.op=7 then pY i.x p.aK.length
   else false):=by
  unfold dh;rw[It];generalize decide ((i.rs.length:Int)>0)=b
  by_cases h1:i.op=1
  ·have h2:i.op≠2:=by omega
   simp only[h1];cases b<;>by_cases hy:i.y=0<;>simp[hy]
  ·by_cases h2:i.op=2
   ·simp only[h2];cases b<;>simp
   ·by_cases NT:i.op=5
    ·simp only[NT];cases b<;>by_cases hy:i.y=0<;>simp[hy]
    ·cases b<;>by_cases hy:i.y=0<;>simp[h1,h2,NT,hy]
 rw[hsh];refine qc (fun h0=>?_) (fun h0=>?_)<;>try simp only[cs] at h0
 ·refine qq<|qj fun K hK=>qm ?_;refine qe hK ?_;rw[if_pos h0];refine af.ret ⟨rx,_,rfl,rl cE hH (rfl)⟩
 ·rw[if_neg (by rw[h0];simp)];refine af.skip<|qq<|qq<|qj fun K hK=>qp (o:=0) ?_;refine ql hH aC ?_;refine qe hK<|af.block<|qq<|qj fun K hK=>qg ?_;refine qm ?_;refine qe hK ?_;refine af.cond (by rfl) (fun h1=>?_) (fun h1=>?_)<;>try simp only[beq_iff_eq,beq_eq_false_iff_ne,ne_eq] at h1
  ·rw[if_pos h1];refine qq<|af.lE 4 (.bool ((decide (((pc+1:Nat):Int)<p.code.length) &&(i.x==0)) &&eO i.rs)) [] ?_ (fun ff tmp=>?_)
   ·refine qm ?_;refine qm ?_;refine ab.two 42 rfl (fun dH=>?_) (fun dH=>?_)
    ·refine qp (o:=1) ?_ (hg:=wi dH);refine ql hH aC ?_ (hg:=wi dH);refine qg ?_ (hg:=wi dH);refine qt dH ?_;refine qm ?_;refine ab.two 47 rfl (fun cQ=>?_) (fun cQ=>?_)
     ·refine qp (o:=3) ?_ (hg:=wi cQ);refine ql hH aC ?_ (hg:=wi cQ);refine qv (ve (LB.rows hH) hil) ?_ (hg:=wi cQ);refine qt cQ ?_;refine qm ?_;refine ab.nil (aQ ?_);dsimp only[aI,List.foldl,nth,u2,u1];dsimp only[Fr.az,Fr.put,Fr.clean,Fr.ev,Fr.get,nth,V.look,u1,u2,v1,v2,v3,v4,v5,v6,v7,List.length,u3,u4,Nat.reduceSub,Nat.reduceAdd,List.map]
      all_goals(simp[dH,cQ];done)
     ·refine qs ?_ (hg:=wn cQ);refine qs ?_ (hg:=wn cQ);refine qs ?_ (hg:=wn cQ);refine qu cQ ?_;refine qm ?_;refine ab.nil (aQ ?_);dsimp only[aI,List.foldl,nth,u2,u1];dsimp only[Fr.az,Fr.put,Fr.clean,Fr.ev,Fr.get,nth,V.look,u1,u2,v1,v2,v3,v4,v5,v6,v7,List.length,u3,u4,Nat.reduceSub,Nat.reduceAdd,List.map]
      all_goals(simp[dH,cQ];done)
    ·refine qs ?_ (hg:=wn dH);refine qs ?_ (hg:=wn dH);refine qs ?_ (hg:=wn dH);refine qu dH ?_;refine qm ?_;refine qs ?_;refine qs ?_;refine qs ?_;refine qg ?_;refine qm ?_;refine ab.nil (aQ ?_);dsimp only[aI,List.foldl,nth,u2,u1];dsimp only[Fr.az,Fr.put,Fr.clean,Fr.ev,Fr.get,nth,V.look,u1,u2,v1,v2,v3,v4,v5,v6,v7,List.length,u3,u4,Nat.reduceSub,Nat.reduceAdd,List.map]
     all_goals(simp[dH];done)
   dsimp only[aI,List.foldl,nth,u2,u1];refine af.ret ⟨rx,_,rfl,rl cE hH (rfl)⟩
  ·rw[if_neg h1];refine qq<|qj fun K hK=>qg ?_;refine qm ?_;refine qe hK ?_;refine af.cond (by rfl) (fun h2=>?_) (fun h2=>?_)<;>try simp only[beq_iff_eq,beq_eq_false_iff_ne,ne_eq] at h2
   ·rw[if_pos h2];refine qq<|af.lE 4 (.bool (pY i.x p.code.length &&pY i.y p.code.length)) [] ?_ (fun ff tmp=>?_)
    ·refine qp (o:=1) ?_;refine ql hH aC ?_;refine qp (o:=0) ?_;refine ql hH cp ?_;refine qn ?_;simp only[List.length_map];refine qv (hO _ _) ?_;refine qm ?_;refine ab.two 60 rfl (fun cQ=>?_) (fun cQ=>?_)
     ·refine qp (o:=2) ?_ (hg:=wi cQ);refine ql hH aC ?_ (hg:=wi cQ);refine qp (o:=0) ?_ (hg:=wi cQ);refine ql hH cp ?_ (hg:=wi cQ);refine qn ?_ (hg:=wi cQ);simp only[List.length_map];refine qv (hO _ _) ?_ (hg:=wi cQ);refine qt cQ ?_;refine qm ?_;refine ab.nil (aQ ?_);dsimp only[aI,List.foldl,nth,u2,u1];dsimp only[Fr.az,Fr.put,Fr.clean,Fr.ev,Fr.get,nth,V.look,u1,u2,v1,v2,v3,v4,v5,v6,v7,List.length,u3,u4,Nat.reduceSub,Nat.reduceAdd,List.map]
      all_goals(simp[cQ];done)
     ·refine qs ?_ (hg:=wn cQ);refine qs ?_ (hg:=wn cQ);refine qs ?_ (hg:=wn cQ);refine qs ?_ (hg:=wn cQ);refine qs ?_ (hg:=wn cQ);refine qs ?_ (hg:=wn cQ);refine qu cQ ?_;refine qm ?_;refine ab.nil (aQ ?_);dsimp only[aI,List.foldl,nth,u2,u1];dsimp only[Fr.az,Fr.put,Fr.clean,Fr.ev,Fr.get,nth,V.look,u1,u2,v1,v2,v3,v4,v5,v6,v7,List.length,u3,u4,Nat.reduceSub,Nat.reduceAdd,List.map]
      all_goals(simp[cQ];done)
    dsimp only[aI,List.foldl,nth,u2,u1];refine af.ret ⟨rx,_,rfl,rl cE hH (rfl)⟩
   ·rw[if_neg h2];refine qq<|qj fun K hK=>qg ?_;refine qm ?_;refine qe hK ?_;refine af.cond (by rfl) (fun h3=>?_) (fun h3=>?_)<;>try simp only[beq_iff_eq,beq_eq_false_iff_ne,ne_eq] at h3
    ·rw[if_pos h3];refine qq<|qj fun K hK=>qp (o:=1) ?_;refine ql hH aC ?_;refine qp (o:=0) ?_;refine ql hH cp ?_;refine qn ?_;simp only[List.length_map];refine qv (hO _ _) ?_;refine qm ?_;refine qe hK<|af.ret ⟨rx,_,rfl,rl cE hH (rfl)⟩
    ·rw[if_neg h3];refine qq<|qj fun K hK=>qg ?_;refine qm ?_;refine qe hK ?_;refine af.cond (by rfl) (fun h4=>?_) (fun h4=>?_)<;>try simp only[beq_iff_eq,beq_eq_false_iff_ne,ne_eq] at h4
     ·rw[if_pos h4];refine qq<|af.lE 4 (.bool (decide (((pc+1:Nat):Int)<p.code.length) &&pY i.x 10)) [] ?_ (fun ff tmp=>?_)
      ·refine qm ?_;refine qm ?_;refine ab.two 79 rfl (fun dH=>?_) (fun dH=>?_)
       ·refine qp (o:=1) ?_ (hg:=wi dH);refine ql hH aC ?_ (hg:=wi dH);refine qv (hO _ _) ?_ (hg:=wi dH);refine qt dH ?_;refine qm ?_;refine ab.nil (aQ ?_);dsimp only[aI,List.foldl,nth,u2,u1];dsimp only[Fr.az,Fr.put,Fr.clean,Fr.ev,Fr.get,nth,V.look,u1,u2,v1,v2,v3,v4,v5,v6,v7,List.length,u3,u4,Nat.reduceSub,Nat.reduceAdd,List.map]
        all_goals(simp[dH];done)
       ·refine qs ?_ (hg:=wn dH);refine qs ?_ (hg:=wn dH);refine qs ?_ (hg:=wn dH);refine qu dH ?_;refine qm ?_;refine ab.nil (aQ ?_);dsimp only[aI,List.foldl,nth,u2,u1];dsimp only[Fr.az,Fr.put,Fr.clean,Fr.ev,Fr.get,nth,V.look,u1,u2,v1,v2,v3,v4,v5,v6,v7,List.length,u3,u4,Nat.reduceSub,Nat.reduceAdd,List.map]
        all_goals(simp[dH];done)
      dsimp only[aI,List.foldl,nth,u2,u1];refine af.ret ⟨rx,_,rfl,rl cE hH (rfl)⟩
     ·rw[if_neg h4];refine qq<|qq<|qj fun K hK=>qg ?_;refine qm ?_;refine qe hK ?_
      by_cases h5:i.op=5
      ·rw[if_pos h5];refine qD rfl (by simp[h5]) ?_;refine af.skip<|qD rfl (by simp[h5]) ?_;refine qq<|af.lE 4 (.bool (decide (((pc+1:Nat):Int)<p.code.length) &&(i.x==0))) [] ?_ (fun ff tmp=>?_)
       ·refine qm ?_;refine qm ?_;refine ab.two 88 rfl (fun dH=>?_) (fun dH=>?_)
        ·refine qp (o:=1) ?_ (hg:=wi dH);refine ql hH aC ?_ (hg:=wi dH);refine qg ?_ (hg:=wi dH);refine qt dH ?_;refine qm ?_;refine ab.nil (aQ ?_);dsimp only[aI,List.foldl,nth,u2,u1];dsimp only[Fr.az,Fr.put,Fr.clean,Fr.ev,Fr.get,nth,V.look,u1,u2,v1,v2,v3,v4,v5,v6,v7,List.length,u3,u4,Nat.reduceSub,Nat.reduceAdd,List.map]
         all_goals(simp[dH];done)
        ·refine qs ?_ (hg:=wn dH);refine qs ?_ (hg:=wn dH);refine qs ?_ (hg:=wn dH);refine qu dH ?_;refine qm ?_;refine ab.nil (aQ ?_);dsimp only[aI,List.foldl,nth,u2,u1];dsimp only[Fr.az,Fr.put,Fr.clean,Fr.ev,Fr.get,nth,V.look,u1,u2,v1,v2,v3,v4,v5,v6,v7,List.length,u3,u4,Nat.reduceSub,Nat.reduceAdd,List.map]
         all_goals(simp[dH];done)
       dsimp only[aI,List.foldl,nth,u2,u1];refine af.ret ⟨rx,_,rfl,rl cE hH (rfl)⟩
      ·rw[if_neg h5];refine qE rfl (by simp[h5]) ?_;refine qj fun K hK=>qg ?_;refine qm ?_;refine qe hK ?_;refine af.cond (by rfl) (fun h6=>?_) (fun h6=>?_)<;>try simp only[beq_iff_eq,beq_eq_false_iff_ne,ne_eq] at h6
       ·rw[if_pos h6];refine qq<|af.lE 4 (.bool (decide (((pc+1:Nat):Int)<p.code.length) &&(i.x==0))) [] ?_ (fun ff tmp=>?_)
        ·refine qm ?_;refine qm ?_;refine ab.two 88 rfl (fun dH=>?_) (fun dH=>?_)
         ·refine qp (o:=1) ?_ (hg:=wi dH);refine ql hH aC ?_ (hg:=wi dH);refine qg ?_ (hg:=wi dH);refine qt dH ?_;refine qm ?_;refine ab.nil (aQ ?_);dsimp only[aI,List.foldl,nth,u2,u1];dsimp only[Fr.az,Fr.put,Fr.clean,Fr.ev,Fr.get,nth,V.look,u1,u2,v1,v2,v3,v4,v5,v6,v7,List.length,u3,u4,Nat.reduceSub,Nat.reduceAdd,List.map]
          all_goals(simp[dH];done)
         ·refine qs ?_ (hg:=wn dH);refine qs ?_ (hg:=wn dH);refine qs ?_ (hg:=wn dH);refine qu dH ?_;refine qm ?_;refine ab.nil (aQ ?_);dsimp only[aI,List.foldl,nth,u2,u1];dsimp only[Fr.az,Fr.put,Fr.clean,Fr.ev,Fr.get,nth,V.look,u1,u2,v1,v2,v3,v4,v5,v6,v7,List.length,u3,u4,Nat.reduceSub,Nat.reduceAdd,List.map]
          all_goals(simp[dH];done)
        dsimp only[aI,List.foldl,nth,u2,u1];refine af.ret ⟨rx,_,rfl,rl cE hH (rfl)⟩
       ·rw[if_neg h6];refine qq<|qj fun K hK=>qg ?_;refine qm ?_;refine qe hK ?_;refine af.cond (by rfl) (fun h7=>?_) (fun h7=>?_)<;>try simp only[beq_iff_eq,beq_eq_false_iff_ne,ne_eq] at h7
        ·rw[if_pos h7];refine qq<|qj fun K hK=>qp (o:=1) ?_;refine ql hH aC ?_;refine qp (o:=1) ?_;refine ql hH cp ?_;refine qn ?_;simp only[List.length_map];refine qv (hO _ _) ?_;refine qm ?_;refine qe hK<|af.ret ⟨rx,_,rfl,rl cE hH (rfl)⟩
        ·rw[if_neg h7];refine af.skip<|qq<|qj fun K hK=>qm ?_;refine qe hK<|af.ret ⟨rx,_,rfl,rl cE hH (rfl)⟩
def aJ (fr:Go.V.Fr) (k:Nat):Go.V.D:=Go.V.nth .bG fr.loc k
def bw (b:Bool):List D:=[.bool b]
theorem rh {l:List Bool} {i:Nat} {q:Bool} (h:l[i]?=some q):(l.map bw)[i]?=some (bw q):=by rw[List.getElem?_map,h];rfl
theorem rf (l:List Bool):∀e∈l.map bw,∀d∈e,cC d=true:=by
 intro e he d hd;obtain⟨x,_,rfl⟩:=List.mem_map.1 he;simp only[bw,List.mem_cons,List.not_mem_nil,or_false] at hd;subst hd;rfl
theorem Dm (l:List Bool):∀e∈l.map bw,e.length=1:=by
 intro e he;obtain⟨x,_,rfl⟩:=List.mem_map.1 he;rfl
def yB (l:List Bool):D:=.sl ((l.map bw).map (lL 1))
theorem Bi (l:List Bool):iK (yB l) 1 (l.map bw):=iK.frozen (Dm l) (rf l)
theorem sI (l:List Int):∀e∈l.map au,∀d∈e,cC d=true:=by
 intro e he d hd;obtain⟨x,_,rfl⟩:=List.mem_map.1 he;simp only[au,List.mem_cons,List.not_mem_nil,or_false] at hd;subst hd;rfl
theorem Ei (l:List Int):∀e∈l.map au,e.length=1:=by
 intro e he;obtain⟨x,_,rfl⟩:=List.mem_map.1 he;rfl
def Fa (l:List Int):D:=.sl ((l.map au).map (lL 1))
theorem Cw (l:List Int):iK (Fa l) 1 (l.map au):=iK.frozen (Ei l) (sI l)
def bP (pc:Nat) (i:aN):List Int:=
 if i.op=2 then[i.x,i.y] else if i.op=3 then[i.x] else if i.op=7 then[] else[((pc+1:Nat):Int)]
def iW (code:List aN):Prop:=∀pc i,code[pc]?=some i→∀v∈bP pc i,0≤v∧v<code.length
theorem uW {n ns pc:Nat} {i:aN} (h:dh n ns pc i=true):∀v∈bP pc i,0≤v∧v<n:=by
 intro v hv
 have dU:∀a b:Int,pY a b=true→0≤a∧a<b:=fun a b h=>by
  unfold pY at h;simp only[Bool.and_eq_true,decide_eq_true_eq] at h;exact⟨h.1,h.2⟩
 unfold dh at h;unfold bP at hv
 split at h
 ·rename_i h1;rw[if_neg (by omega),if_neg (by omega),if_neg (by omega)] at hv;simp only[Bool.and_eq_true,decide_eq_true_eq] at h;simp only[List.mem_cons,List.not_mem_nil,or_false] at hv;subst hv;omega
 ·simp only[Bool.and_eq_true] at h;obtain⟨_,h⟩:=h
  split at h
  ·rename_i h2;rw[if_pos h2] at hv;simp only[Bool.and_eq_true] at h;simp only[List.mem_cons,List.not_mem_nil,or_false] at hv
   rcases hv with rfl|rfl
   ·exact dU _ _ h.1
   ·exact dU _ _ h.2
  ·rename_i h2;rw[if_neg h2] at hv;simp only[Bool.and_eq_true] at h;obtain⟨_,h⟩:=h
   split at h
   ·rename_i h3;rw[if_pos h3] at hv;simp only[List.mem_cons,List.not_mem_nil,or_false] at hv;subst hv;exact dU _ _ h
   ·rename_i h3;rw[if_neg h3] at hv
    split at h
    ·rename_i h4;rw[if_neg (by omega)] at hv;simp only[Bool.and_eq_true,decide_eq_true_eq] at h;simp only[List.mem_cons,List.not_mem_nil,or_false] at hv;subst hv;omega
    ·split at h
     ·rename_i h5;rw[if_neg (by omega)] at hv;simp only[Bool.and_eq_true,decide_eq_true_eq] at h;simp only[List.mem_cons,List.not_mem_nil,or_false] at hv;subst hv;omega
     ·split at h
      ·rename_i h7;rw[if_pos h7] at hv;cases hv
      ·cases h
def Bx (code:List aN):Nat→List Bool→List Int→List Bool
 |0,seen,_=>seen
 |_+1,seen,[]=>seen
 |f+1,seen,v::c9=>match seen[v.toNat]? with
  |some false=>match code[v.toNat]? with
   |some i=>Bx code f (seen.set v.toNat true) ((bP v.toNat i).reverse++c9)
   |none=>seen
  |_=>Bx code f seen c9
def cX (code:List aN) (start:Int):List Bool:=Bx code (3*code.length+1) (List.replicate code.length false) [start]
theorem ur (code:List aN):∀(f:Nat) (seen:List Bool) (c9:List Int),(Bx code f seen c9).length=seen.length
 |0,_,_=>rfl
 |_+1,_,[]=>rfl
 |f+1,seen,v::c9=>by
  unfold Bx
  split
  ·split
   ·rw[ur code f];simp
   ·rfl
  ·exact ur code f seen c9
theorem xx (code:List aN) (s:Int):(cX code s).length=code.length:=by
 unfold cX;rw[ur];simp
theorem count_set {seen:List Bool} {k:Nat} (h:seen[k]?=some false):(seen.set k true).count false+1=seen.count false:=by
 induction seen generalizing k with
 |nil=>simp at h
 |cons b l ih=>
  cases k with
  |zero=>simp at h;subst h;simp
  |succ k=>
   have:=ih (k:=k) (by simpa using h);simp only[List.set_cons_succ,List.count_cons];omega
theorem vO (pc:Nat) (i:aN):(bP pc i).length≤2:=by
 unfold bP;split
 ·simp
 ·split
  ·simp
  ·split<;>simp
theorem BJ (v:Int) (r:List Int):((v::r).reverse.map au)[r.length]?=some (au v):=by
 rw[List.getElem?_map,List.reverse_cons,List.getElem?_append_right (by simp)];simp
theorem DR (v:Int) (r:List Int):(((v::r).reverse.map au).take r.length).drop 0=r.reverse.map au:=by
 rw[List.reverse_cons,List.map_append,List.drop_zero,List.take_left' (by simp)]
theorem EH {s0:St} {cd:D} {code:List aN} {start:Int} (uI:iK cd 4 (code.map aX)) (hlen:code.length≤1048576) (hcl:iW code) (gv:0≤start∧start<code.length):Ev pv 50 [cd,.int .i64 start] s0 (yB (cX code start)) s0:=by
 refine Ev.pJ rfl Mk rfl rfl rfl ?_;dsimp only[u3,u4,List.length,Nat.reduceSub,Nat.reduceAdd,w1,w2];obtain⟨cE,hF,hH⟩:=ri s0;generalize aj .ro s0=S at*;have hc:=uI.arg s0.bs.length S;refine qq<|qj fun K hK=>qm ?_;refine qe hK<|qq<|qj fun K hK=>qm ?_;refine qn ?_;simp only[List.length_map];refine ab.zt (s:=1) hH rfl rfl rfl rfl rfl rfl rfl rfl (Nat.le_of_ble_eq_true rfl) (by omega) (fun _=>by dsimp only[Fr.put,u1,u2]<;>rfl) (fun k11 st IA hH=>?_);refine qm ?_;refine qe hK<|qq<|qj fun K hK=>qm ?_;refine qh (s:=1) (vs:=[_]) hH fun k13 st Ez hH=>?_;refine qm ?_;refine qe hK<|qq<|af.block<|af.loop (fun mm fr st=>∃(y z:D) (seen:List Bool) (c9:List Int),fr.clean=⟨41,[cd,aJ fr 1,aJ fr 2,aJ fr 3,.nul,y,z,aJ fr 7,aJ fr 8,aJ fr 9,aJ fr 10,aJ fr 11,aJ fr 12,aJ fr 13,aJ fr 14,aJ fr 15,aJ fr 16,aJ fr 17,aJ fr 18,aJ fr 19,aJ fr 20,aJ fr 21,aJ fr 22,aJ fr 23,aJ fr 24,aJ fr 25,aJ fr 26,aJ fr 27,aJ fr 28,aJ fr 29,aJ fr 30,aJ fr 31,aJ fr 32,aJ fr 33,aJ fr 34,aJ fr 35,aJ fr 36,aJ fr 37,aJ fr 38,aJ fr 39,aJ fr 40],[]⟩∧Has s0.bs.length S st [.aR z 1 (c9.reverse.map au),.aR y 1 (seen.map bw)]∧(Bx code mm seen c9=cX code start)∧(3*seen.count false+c9.length≤mm)∧(seen.length=code.length)∧(∀v∈c9,0≤v∧v<(code.length:Int))∧(mm≤3*code.length+1)) (3*code.length+1) ?_ ?_
 ·exact⟨_,_,List.replicate code.length false,[start],rfl,(by rw[List.map_replicate];exact hH),rfl,by simp,by simp,by simpa using gv,by omega⟩
 rintro mm fr st ⟨y,z,seen,c9,hfr,hH,hd,hm,lB,hsk,w9⟩;rw[hfr];clear hfr;generalize aJ fr=ee;clear fr
 rcases c9 with _|⟨v,c9⟩
 ·refine qq<|qq<|qj fun K hK=>qm ?_;refine qn ?_ (hR:=hH.rows aC);simp only[List.length_map,List.length_nil,List.length_reverse];refine qg ?_;refine qe hK<|af.cond (v:=false) (by dsimp only[Fr.ev,Fr.get,nth,V.look];rfl) (fun h=>by cases h) (fun _=>?_);refine af.exit<|qq<|qj fun K hK=>qm ?_;refine qm ?_;refine qe hK ?_;have fZ:seen=cX code start:=by rw[←hd];cases mm<;>rfl
  rw[←fZ];refine af.ret ⟨rx,_,rfl,rl cE hH ?_⟩;exact hH.freeze cp (rf _) (n:=15) (by decide)
 ·have hv:=hsk v (List.mem_cons_self ..);obtain⟨k,rfl⟩:=Int.eq_ofNat_of_zero_le hv.1;have hk:k<code.length:=by omega
  simp only[List.length_cons] at hm
  obtain⟨mm,rfl⟩:∃m',mm=m'+1:=⟨mm-1,by omega⟩
  obtain⟨b,hb⟩:∃b,seen[k]?=some b:=⟨seen[k]'(by omega),List.getElem?_eq_getElem _⟩
  obtain⟨i,hi⟩:∃i,code[k]?=some i:=⟨code[k]'(by omega),List.getElem?_eq_getElem _⟩
  have jx:=BJ (k:Int) c9;have m_:=rh hb;have O8:=lh hi;refine qq<|qq<|qj fun K hK=>qm ?_;refine qn ?_ (hR:=hH.rows aC);simp only[List.length_map,List.length_cons,List.length_reverse];refine qg ?_;refine qe hK<|qD rfl (by simp) ?_;refine af.skip<|af.block<|qq<|qj fun K hK=>qm ?_;refine qm ?_;refine qn ?_ (hR:=hH.rows aC);simp only[List.length_map,List.length_cons,List.length_reverse];refine ab.mb (z:=((c9.length:Nat):Int)) rfl (ev rfl) (ev rfl) (by(try simp only[List.length_reverse,List.length_cons,List.length_nil,List.length_append,List.length_map,List.length_set]);rw[wrap_i64 (by omega) (by omega)]<;>omega) (by dsimp only[Fr.put,u1,u2]<;>rfl) ?_;refine qi hH aC fun JI Ep=>?_;refine qo hH aC ?_;refine qm ?_;refine qe hK<|qq<|qj fun K hK=>qm ?_;refine qm ?_;refine qn ?_ (hR:=hH.rows aC);simp only[List.length_map,List.length_cons,List.length_reverse];refine ab.mb (z:=((c9.length:Nat):Int)) rfl (ev rfl) (ev rfl) (by(try simp only[List.length_reverse,List.length_cons,List.length_nil,List.length_append,List.length_map,List.length_set]);rw[wrap_i64 (by omega) (by omega)]<;>omega) (by dsimp only[Fr.put,u1,u2]<;>rfl) ?_;refine ab.xI hH rfl (ev rfl) (by exact aC) rfl rfl (lu (by simp only[List.length_map,List.length_reverse,List.length_cons,List.length_append,List.length_nil,List.length_take,List.length_drop,List.length_set,List.length_replicate];omega)) ⟨(by omega),(by simp only[List.length_map,List.length_reverse,List.length_cons,List.length_append,List.length_nil,List.length_take,List.length_drop,List.length_set,List.length_replicate];omega)⟩ (fun _=>by dsimp only[Fr.put,u1,u2]<;>rfl) (fun Q4 hH=>?_);refine qm ?_;refine qe hK ?_;dsimp only[u2] at hH;rw[DR] at hH;have gv:∀w∈c9,0≤w∧w<(code.length:Int):=fun w hw=>hsk w (List.mem_cons_of_mem _ hw);refine qq<|qq<|qj fun K hK=>qm ?_;refine qm ?_;refine qi hH cp fun Na Ic=>?_;refine qo hH cp ?_;refine qe hK ?_
  cases b with
  |true=>
   refine qB ?_;refine af.exit ?_;simp only[Bx,Int.toNat_natCast,hb] at hd;exact⟨mm,by omega,⟨_,_,seen,c9,rfl,hH,hd,by omega,lB,gv,by omega⟩⟩
  |false=>
   have Gr:=count_set hb;have gR:(seen.set k true).map bw=(seen.map bw).set k [.bool true]:=by rw[List.map_set];rfl
   simp only[Bx,Int.toNat_natCast,hb,hi] at hd;have CE:=hcl k i hi;have Il:=vO k i
   have KP:∀w∈(bP k i).reverse++c9,0≤w∧w<(code.length:Int):=fun w hw=>by
    rcases List.mem_append.1 hw with hw|hw
    ·exact CE w (List.mem_reverse.1 hw)
    ·exact gv w hw
   have KW:(((bP k i).reverse++c9).reverse).map au=c9.reverse.map au++(bP k i).map au:=by
    rw[List.reverse_append,List.reverse_reverse,List.map_append]
   refine qC ?_;refine af.skip<|qq<|qj fun K hK=>qm ?_;refine qm ?_;refine qi hH cp fun RB Pz=>?_;refine ab.pA hH rfl (ev rfl) (ev rfl) (by assumption) rfl rfl (by exact cp) (by assumption) (Nat.le_of_ble_eq_true rfl) (by exact .inl hF) (fun st hH=>?_);dsimp only[u2,u1,u3,u4,setMany,u5,u6,D.cells,Nat.reduceAdd,aX,au,bw] at hH;refine qe hK<|qq<|qj fun K hK=>qm ?_;refine qm ?_;refine qr fun Rz Px=>?_;refine ab.fk rfl (ev rfl) (by assumption) rfl (by dsimp only[Fr.put,u1,u2]<;>rfl) ?_;refine qa hH fun k8 st Ls hH=>?_;refine qS hH aC fun st hH=>?_;dsimp only[u2,u1,u3,u4,setMany,u5,u6,D.cells,Nat.reduceAdd,aX,au,bw] at hH;refine qe hK<|qq<|qj fun K hK=>qp (o:=0) ?_;refine ql hH aC ?_;refine qe hK<|af.merge (fun fr st=>∃(z:D) (tmp:List (Nat×D)),fr=⟨41,[cd,aJ fr 1,aJ fr 2,aJ fr 3,.nul,y,z,aJ fr 7,aJ fr 8,aJ fr 9,aJ fr 10,aJ fr 11,aJ fr 12,aJ fr 13,aJ fr 14,aJ fr 15,aJ fr 16,aJ fr 17,aJ fr 18,aJ fr 19,aJ fr 20,aJ fr 21,aJ fr 22,aJ fr 23,aJ fr 24,aJ fr 25,aJ fr 26,aJ fr 27,aJ fr 28,aJ fr 29,aJ fr 30,aJ fr 31,aJ fr 32,aJ fr 33,aJ fr 34,aJ fr 35,aJ fr 36,aJ fr 37,aJ fr 38,aJ fr 39,aJ fr 40],tmp⟩∧Has s0.bs.length S st [.aR z 1 (c9.reverse.map au++(bP k i).map au),.aR y 1 ((seen.map bw).set k [.bool true])]) ?_ ?_
   ·refine af.block<|qq<|qj fun K hK=>qg ?_;refine qm ?_;refine qe hK ?_;refine af.cond (by rfl) (fun h2=>?_) (fun h2=>?_)<;>try simp only[beq_iff_eq,beq_eq_false_iff_ne,ne_eq] at h2
    ·have:bP k i=[i.x,i.y]:=by unfold bP;rw[if_pos h2]
     rw[this];refine qj fun K hK=>qm ?_;refine qp (o:=1) ?_;refine ql hH aC ?_;refine qp (o:=2) ?_;refine ql hH aC ?_;refine qh (s:=1) (vs:=[_,_]) hH fun k53 st PZ hH=>?_;refine ab.cT (s:=1) hH rfl (ev rfl) (ev rfl) (by exact dx) (by exact hH.rows (by exact aC)) rfl rfl rfl rfl rfl rfl rfl ⟨(Nat.le_of_ble_eq_true rfl),(Nat.le_of_ble_eq_true rfl)⟩ (fun _=>(aa rfl _)) (by simp only[List.length_cons,List.length_nil,List.length_map,List.length_reverse]<;>omega) (by exact .inl hF) (fun Q7 st hH=>?_);dsimp only[u2,u1,u3,u4,setMany,u5,u6,D.cells,Nat.reduceAdd,aX,au,bw] at hH;refine qm ?_;refine qe hK ?_;exact⟨_,_,rfl,(by have:=hH.drop 2;exact this)⟩
    ·refine qq<|qj fun K hK=>qg ?_;refine qm ?_;refine qe hK ?_;refine af.cond (by rfl) (fun h3=>?_) (fun h3=>?_)<;>try simp only[beq_iff_eq,beq_eq_false_iff_ne,ne_eq] at h3
     ·have:bP k i=[i.x]:=by unfold bP;rw[if_neg h2,if_pos h3]
      rw[this];refine qj fun K hK=>qm ?_;refine qp (o:=1) ?_;refine ql hH aC ?_;refine qh (s:=1) (vs:=[_]) hH fun k60 st PY hH=>?_;refine ab.cT (s:=1) hH rfl (ev rfl) (ev rfl) (by exact dx) (by exact hH.rows (by exact aC)) rfl rfl rfl rfl rfl rfl rfl ⟨(Nat.le_of_ble_eq_true rfl),(Nat.le_of_ble_eq_true rfl)⟩ (fun _=>(aa rfl _)) (by simp only[List.length_cons,List.length_nil,List.length_map,List.length_reverse]<;>omega) (by exact .inl hF) (fun Q6 st hH=>?_);dsimp only[u2,u1,u3,u4,setMany,u5,u6,D.cells,Nat.reduceAdd,aX,au,bw] at hH;refine qm ?_;refine qe hK ?_;exact⟨_,_,rfl,(by have:=hH.drop 2;exact this)⟩
     ·refine qq<|qj fun K hK=>qg ?_;refine qm ?_;refine qe hK ?_;refine af.cond (by rfl) (fun h7=>?_) (fun h7=>?_)<;>try simp only[beq_iff_eq,beq_eq_false_iff_ne,ne_eq] at h7
      ·have:bP k i=[]:=by unfold bP;rw[if_neg h2,if_neg h3,if_pos h7]
       rw[this,List.map_nil,List.append_nil];refine af.skip ?_;exact⟨_,_,rfl,(by have:=hH.drop 1;exact this)⟩
      ·have:bP k i=[((k+1:Nat):Int)]:=by unfold bP;rw[if_neg h2,if_neg h3,if_neg h7]
       rw[this];refine qj fun K hK=>qm ?_;refine qm ?_;refine qA ?_;refine qh (s:=1) (vs:=[_]) hH fun k44 st P4 hH=>?_;refine ab.cT (s:=1) hH rfl (ev rfl) (ev rfl) (by exact dx) (by exact hH.rows (by exact aC)) rfl rfl rfl rfl rfl rfl rfl ⟨(Nat.le_of_ble_eq_true rfl),(Nat.le_of_ble_eq_true rfl)⟩ (fun _=>(aa rfl _)) (by simp only[List.length_cons,List.length_nil,List.length_map,List.length_reverse]<;>omega) (by exact .inl hF) (fun Q8 st hH=>?_);dsimp only[u2,u1,u3,u4,setMany,u5,u6,D.cells,Nat.reduceAdd,aX,au,bw] at hH;refine qm ?_;refine qe hK ?_;exact⟨_,_,rfl,(by have:=hH.drop 2;exact this)⟩
   ·rintro fr st ⟨z,tmp,hfr,hH⟩;rw[hfr];clear hfr;generalize aJ fr=ee;clear fr;exact⟨mm,by omega,⟨y,z,seen.set k true,(bP k i).reverse++c9,rfl,(by rw[KW,gR];exact hH),hd,by simp only[List.length_append,List.length_reverse];omega,by simp only[List.length_set];exact lB,KP,by omega⟩⟩
def aq (fr:Go.V.Fr) (k:Nat):Go.V.D:=Go.V.nth .bG fr.loc k
noncomputable def dec (q:Prop):Bool:=@decide q (Classical.propDecidable q)
theorem uu {q:Prop} (h:q):dec q=true:=@decide_eq_true q (Classical.propDecidable q) h
theorem qU {q:Prop} (h:¬q):dec q=false:=@decide_eq_false q (Classical.propDecidable q) h
def pz (p:Pg) (r:Nat) (s:Int) (n:Nat):Prop:=∀pc i,pc<n→(cX p.code s)[pc]?=some true→p.code[pc]?=some i→i.op=7→i.x=(r:Int)
structure fu (p:Pg):Prop where
 cl:p.code.length≤400
 sl:p.aK.length≤8
 sh:∀pc i,p.code[pc]?=some i→dh p.code.length p.aK.length pc i=true
 st:∀v∈p.aK,0≤v∧v<(p.code.length:Int)
 fo:∀r s,p.aK[r]?=some s→pz p r s p.code.length
theorem nO {p:Pg} (h:∀pc i,p.code[pc]?=some i→dh p.code.length p.aK.length pc i=true):iW p.code:=
 fun pc i hi=>uW (h pc i hi)
theorem fu.closed {p:Pg} (h:fu p):iW p.code:=nO h.sh
theorem dU {a b:Int}:pY a b=true↔0≤a∧a<b:=by
 unfold pY;simp only[Bool.and_eq_true,decide_eq_true_eq,ge_iff_le]
theorem rM {s0:St} {p:Pg} (hp:p.ok):Ev pv 16 [p.d] s0 (.bool (dec (fu p))) s0:=by
 refine Ev.pJ rfl MA rfl rfl rfl ?_;dsimp only[u3,u4,List.length,Nat.reduceSub,Nat.reduceAdd,w1,w2];obtain⟨cE,hF,hH⟩:=ri s0;generalize aj .ro s0=S at*;have hc:=hp.c.arg s0.bs.length S;have hs:=hp.s.arg s0.bs.length S;have uI:=hp.c;have hlen:=hp.cl;have O0:=hp.sl;unfold Pg.d;refine qq<|qj fun K hK=>qb hH fun k1 st sK hH=>?_;dsimp only[u2,u1,u3,u4,setMany,u5,u6,D.cells,Nat.reduceAdd,Pg.cs,aX,au,bw] at hH;refine qm ?_;refine qe hK<|qq<|qq<|af.lE 17 (.bool (decide ((p.code.length:Int)>400)||decide ((p.aK.length:Int)>8))) [8,9,10,11,12,13,14,15,16] ?_ (fun ff tmp=>?_)
 ·refine qp (o:=0) ?_;refine ql hH aC ?_;refine qn ?_;simp only[List.length_map];refine qg ?_;refine qm ?_;refine ab.two 12 rfl (fun nH=>?_) (fun nH=>?_)
  ·refine qs ?_ (hg:=wn nH);refine qs ?_ (hg:=wn nH);refine qs ?_ (hg:=wn nH);refine qs ?_ (hg:=wn nH);refine qt nH ?_;refine ab.nil (aQ ?_);dsimp only[aI,List.foldl,nth,u2,u1];dsimp only[Fr.az,Fr.put,Fr.clean,Fr.ev,Fr.get,nth,V.look,u1,u2,v1,v2,v3,v4,v5,v6,v7,List.length,u3,u4,Nat.reduceSub,Nat.reduceAdd,List.map]
   all_goals(simp[nH];done)
  ·refine qp (o:=1) ?_ (hg:=wi nH);refine ql hH aC ?_ (hg:=wi nH);refine qn ?_ (hg:=wi nH);simp only[List.length_map];refine qg ?_ (hg:=wi nH);refine qu nH ?_;refine ab.nil (aQ ?_);dsimp only[aI,List.foldl,nth,u2,u1];dsimp only[Fr.az,Fr.put,Fr.clean,Fr.ev,Fr.get,nth,V.look,u1,u2,v1,v2,v3,v4,v5,v6,v7,List.length,u3,u4,Nat.reduceSub,Nat.reduceAdd,List.map]
   all_goals(simp[nH];done)
 dsimp only[aI,List.foldl,nth,u2,u1];generalize ff 8=e8;generalize ff 9=e9;generalize ff 10=Sd;generalize ff 11=Sc;generalize ff 12=Sb;generalize ff 13=Sa;generalize ff 14=R_;generalize ff 15=Q1;generalize ff 16=Q0;refine qc (fun h0=>?_) (fun h0=>?_)<;>try simp only[cs] at h0
 ·rw[qU (fun h=>by have:=h.cl;have:=h.sl;simp at h0;omega)];refine qq<|qj fun K hK=>qm ?_;refine qe hK<|af.ret ⟨rx,_,rfl,rl cE hH (rfl)⟩
 ·have h0:p.code.length≤400∧p.aK.length≤8:=by simp at h0;omega
  refine af.skip<|qq<|qq<|qj fun K hK=>qp (o:=0) ?_;refine ql hH aC ?_;refine qn ?_;simp only[List.length_map];refine qm ?_;refine qe hK<|af.block<|af.loop (fun mm fr st=>∃(i:Nat),fr.clean=⟨49,[aq fr 0,.ptr k1 0 0,.bool false,aq fr 3,aq fr 4,aq fr 5,aq fr 6,aq fr 7,aq fr 8,aq fr 9,aq fr 10,aq fr 11,aq fr 12,aq fr 13,aq fr 14,aq fr 15,aq fr 16,aq fr 17,aq fr 18,aq fr 19,.int .i64 (p.code.length:Nat),.int .i64 (i:Nat),aq fr 22,aq fr 23,aq fr 24,aq fr 25,aq fr 26,aq fr 27,aq fr 28,aq fr 29,aq fr 30,aq fr 31,aq fr 32,aq fr 33,aq fr 34,aq fr 35,aq fr 36,aq fr 37,aq fr 38,aq fr 39,aq fr 40,aq fr 41,aq fr 42,aq fr 43,aq fr 44,aq fr 45,aq fr 46,aq fr 47,aq fr 48],[]⟩∧Has s0.bs.length S st [.box k1 (.mem 0 false [p.cd,p.sd])]∧(i+mm=p.code.length)∧(∀pc q,pc<i→p.code[pc]?=some q→dh p.code.length p.aK.length pc q=true)) (p.code.length) ?_ ?_
  ·exact⟨0,rfl,hH,by omega,by intro pc q h;omega⟩
  rintro mm fr st ⟨i,hfr,hH,hi,hsh⟩;rw[hfr];clear hfr;generalize aq fr=ee;clear fr;refine qq<|qj fun K hK=>qg ?_;refine qe hK<|qq ?_;refine af.cond (by rfl) (fun h1=>?_) (fun h1=>?_)<;>try simp only[decide_eq_true_eq,decide_eq_false_iff_not] at h1
  ·refine af.skip ?_
   obtain⟨q,hq⟩:∃q,p.code[i]?=some q:=⟨p.code[i]'(by omega),List.getElem?_eq_getElem _⟩
   refine qq<|af.block<|qq<|qj fun K hK=>qm ?_;refine qm ?_;refine qe hK<|qq<|qj fun K hK=>?_;refine ab.cI (m:=2) hH rfl (ev rfl) (by exact aC) (by dsimp only[List.drop_succ_cons,List.drop_zero,List.take_succ_cons,List.take_zero,Pg.cs,aX,au,bw]<;>rfl) rfl rfl (by dsimp only[Fr.put,u1,u2]<;>rfl) ?_;refine qm ?_;refine qv (Aj (p:=p) hp hq) ?_;refine qg ?_;refine qe hK ?_;refine af.cond (by rfl) (fun h2=>?_) (fun h2=>?_)<;>try simp only[Bool.not_eq_true',Bool.not_eq_false'] at h2
   ·rw[qU (fun h=>by have:=h.sh i q hq;rw[this] at h2;cases h2)];refine qq<|qj fun K hK=>qm ?_;refine qe hK<|af.ret ⟨rx,_,rfl,rl cE hH (rfl)⟩
   ·refine af.skip<|qj fun K hK=>qA ?_;refine qm ?_;refine qe hK ?_;refine⟨mm-1,by omega,⟨i+1,rfl,hH,by omega,?_⟩⟩;intro pc q' Ia rI
    by_cases he:pc=i
    ·subst he;rw[hq] at rI;cases rI;simpa using h2
    ·exact hsh pc q' (by omega) rI
  ·refine af.exit ?_;have hsh:∀pc q,p.code[pc]?=some q→dh p.code.length p.aK.length pc q=true:=fun pc q hq=>hsh pc q (by have:=bn hq;omega) hq;have hcl:=nO hsh;refine qq<|qq<|qj fun K hK=>qp (o:=1) ?_;refine ql hH aC ?_;refine qn ?_;simp only[List.length_map];refine qm ?_;refine qe hK<|af.block<|af.loop (fun mm fr st=>∃(r:Nat),fr.clean=⟨49,[aq fr 0,.ptr k1 0 0,.bool false,aq fr 3,aq fr 4,aq fr 5,aq fr 6,aq fr 7,aq fr 8,aq fr 9,aq fr 10,aq fr 11,aq fr 12,aq fr 13,aq fr 14,aq fr 15,aq fr 16,aq fr 17,aq fr 18,aq fr 19,aq fr 20,aq fr 21,aq fr 22,aq fr 23,aq fr 24,aq fr 25,aq fr 26,aq fr 27,aq fr 28,aq fr 29,p.sd,.int .i64 (p.aK.length:Nat),.int .i64 (r:Nat),aq fr 33,aq fr 34,aq fr 35,aq fr 36,aq fr 37,aq fr 38,aq fr 39,aq fr 40,aq fr 41,aq fr 42,aq fr 43,aq fr 44,aq fr 45,aq fr 46,aq fr 47,aq fr 48],[]⟩∧Has s0.bs.length S st [.box k1 (.mem 0 false [p.cd,p.sd])]∧(r+mm=p.aK.length)∧(∀r' s,r'<r→p.aK[r']?=some s→(0≤s∧s<(p.code.length:Int))∧pz p r' s p.code.length)) (p.aK.length) ?_ ?_
   ·exact⟨0,rfl,hH,by omega,by intro pc q h;omega⟩
   rintro mm fr st ⟨r,hfr,hH,hi,cH⟩;rw[hfr];clear hfr;generalize aq fr=ee;clear fr;refine qq<|qj fun K hK=>qg ?_;refine qe hK<|qq ?_;refine af.cond (by rfl) (fun h3=>?_) (fun h3=>?_)<;>try simp only[decide_eq_true_eq,decide_eq_false_iff_not] at h3
   ·refine af.skip ?_
    obtain⟨s,sJ⟩:∃s,p.aK[r]?=some s:=⟨p.aK[r]'(by omega),List.getElem?_eq_getElem _⟩
    have JP:=fR sJ;refine qq<|af.block<|qq<|qj fun K hK=>qm ?_;refine qr fun RA Py=>?_;refine qR ?_;refine qm ?_;refine qm ?_;refine qe hK<|qq<|qq<|qj fun K hK=>qm ?_;refine qp (o:=0) ?_;refine ql hH aC ?_;refine qn ?_;simp only[List.length_map];refine qv (hO _ _) ?_;refine qg ?_;refine qe hK ?_;refine af.cond (by rfl) (fun h4=>?_) (fun h4=>?_)<;>try simp only[Bool.not_eq_true',Bool.not_eq_false'] at h4
    ·rw[qU (fun h=>by have:=dU.2 (h.st s (List.mem_of_getElem? sJ));rw[this] at h4;cases h4)];refine qq<|qj fun K hK=>qm ?_;refine qe hK<|af.ret ⟨rx,_,rfl,rl cE hH (rfl)⟩
    ·have H7:=dU.1 (show pY s p.code.length=true by simpa using h4);refine af.skip ?_;have zq:=xx p.code s;have JO:=(Bi (cX p.code s)).arg s0.bs.length S;refine qq<|qj fun K hK=>qp (o:=0) ?_;refine ql hH aC ?_;refine qm ?_;refine qv (EH uI hlen hcl H7) ?_;refine qn ?_;simp only[List.length_map];refine qm ?_;refine qe hK<|af.block<|af.loop (fun mm fr st=>∃(i:Nat),fr.clean=⟨49,[aq fr 0,.ptr k1 0 0,.bool false,aq fr 3,.int .i64 (r:Nat),aq fr 5,aq fr 6,aq fr 7,aq fr 8,aq fr 9,aq fr 10,aq fr 11,aq fr 12,aq fr 13,aq fr 14,aq fr 15,aq fr 16,aq fr 17,aq fr 18,aq fr 19,aq fr 20,aq fr 21,aq fr 22,aq fr 23,aq fr 24,aq fr 25,aq fr 26,aq fr 27,aq fr 28,aq fr 29,p.sd,.int .i64 (p.aK.length:Nat),.int .i64 (r:Nat),aq fr 33,aq fr 34,aq fr 35,aq fr 36,aq fr 37,aq fr 38,aq fr 39,aq fr 40,aq fr 41,aq fr 42,aq fr 43,aq fr 44,aq fr 45,yB (cX p.code s),.int .i64 ((cX p.code s).length:Nat),.int .i64 (i:Nat)],[]⟩∧Has s0.bs.length S st [.box k1 (.mem 0 false [p.cd,p.sd])]∧(i+mm=p.code.length)∧(pz p r s i)) (p.code.length) ?_ ?_
     ·exact⟨0,rfl,hH,by omega,by intro pc q h;omega⟩
     rintro mm fr st ⟨i,hfr,hH,hj,hom⟩;rw[hfr];clear hfr;generalize aq fr=ee;clear fr;refine qq<|qj fun K hK=>qg ?_;refine qe hK<|qq ?_;refine af.cond (by rfl) (fun h5=>?_) (fun h5=>?_)<;>try simp only[decide_eq_true_eq,decide_eq_false_iff_not] at h5
     ·refine af.skip ?_
      obtain⟨b,hb⟩:∃b,(cX p.code s)[i]?=some b:=⟨(cX p.code s)[i]'(by omega),List.getElem?_eq_getElem _⟩
      obtain⟨q,hq⟩:∃q,p.code[i]?=some q:=⟨p.code[i]'(by omega),List.getElem?_eq_getElem _⟩
      have jx:=rh hb;have m_:=lh hq;refine qq<|af.block<|qq<|qj fun K hK=>qm ?_;refine qr fun Oj K_=>?_;refine qR ?_;refine qm ?_;refine qm ?_;refine qe hK<|qq<|af.qV 72 (.bool ((b &&(q.op==7)) &&(q.x !=(r:Int)))) [] ?_ (fun ff tmp lU=>?_)
      ·refine qm ?_;refine qm ?_;refine ab.two 54 rfl (fun dH=>?_) (fun dH=>?_)
       ·refine qp (o:=0) ?_ (hg:=wi dH);refine ql hH aC ?_ (hg:=wi dH);refine qm ?_ (hg:=wi dH);refine qr (fun Ru Pr=>?_) (hg:=wi dH);refine qf (fo:=0) (fun Rt Pq=>?_) (hg:=wi dH);refine qR ?_ (hg:=wi dH);refine qg ?_ (hg:=wi dH);refine qt dH ?_;refine qm ?_;refine ab.two 63 rfl (fun aT=>?_) (fun aT=>?_)
        ·refine qp (o:=0) ?_ (hg:=wi aT);refine ql hH aC ?_ (hg:=wi aT);refine qm ?_ (hg:=wi aT);refine qr (fun Rn Pl=>?_) (hg:=wi aT);refine qf (fo:=1) (fun Rm Pk=>?_) (hg:=wi aT);refine qR ?_ (hg:=wi aT);refine qm ?_ (hg:=wi aT);refine qg ?_ (hg:=wi aT);refine qt aT ?_;refine ab.nil (fP ?_ ?_)
         ·dsimp only[aI,List.foldl,nth,u2,u1]
          all_goals(first|rfl|simp)
         ·dsimp only[Fr.az,Fr.put,Fr.clean,Fr.ev,Fr.get,nth,V.look,u1,u2,v1,v2,v3,v4,v5,v6,v7,List.length,u3,u4,Nat.reduceSub,Nat.reduceAdd,List.map]
          all_goals(simp[dH,aT];done)
        ·refine qs ?_ (hg:=wn aT);refine qs ?_ (hg:=wn aT);refine qs ?_ (hg:=wn aT);refine qs ?_ (hg:=wn aT);refine qs ?_ (hg:=wn aT);refine qs ?_ (hg:=wn aT);refine qs ?_ (hg:=wn aT);refine qs ?_ (hg:=wn aT);refine qu aT ?_;refine ab.nil (fP ?_ ?_)
         ·dsimp only[aI,List.foldl,nth,u2,u1]
          all_goals(first|rfl|simp)
         ·dsimp only[Fr.az,Fr.put,Fr.clean,Fr.ev,Fr.get,nth,V.look,u1,u2,v1,v2,v3,v4,v5,v6,v7,List.length,u3,u4,Nat.reduceSub,Nat.reduceAdd,List.map]
          all_goals(simp[dH,aT];done)
       ·refine qs ?_ (hg:=wn dH);refine qs ?_ (hg:=wn dH);refine qs ?_ (hg:=wn dH);refine qs ?_ (hg:=wn dH);refine qs ?_ (hg:=wn dH);refine qs ?_ (hg:=wn dH);refine qs ?_ (hg:=wn dH);refine qu dH ?_;refine qm ?_;refine qs ?_;refine qs ?_;refine qs ?_;refine qs ?_;refine qs ?_;refine qs ?_;refine qs ?_;refine qs ?_;refine qg ?_;refine ab.nil (fP ?_ ?_)
        ·dsimp only[aI,List.foldl,nth,u2,u1]
         all_goals(first|rfl|simp)
        ·dsimp only[Fr.az,Fr.put,Fr.clean,Fr.ev,Fr.get,nth,V.look,u1,u2,v1,v2,v3,v4,v5,v6,v7,List.length,u3,u4,Nat.reduceSub,Nat.reduceAdd,List.map]
         all_goals(simp[dH];done)
      dsimp only[aI,List.foldl,nth,u2,u1];dsimp only[Fr.az,Fr.put,Fr.clean,Fr.ev,Fr.get,nth,V.look,u1,u2,v1,v2,v3,v4,v5,v6,v7,List.length,u3,u4,Nat.reduceSub,Nat.reduceAdd,List.map];refine qc (fun h6=>?_) (fun h6=>?_)<;>try simp only[cs] at h6
      ·rw[qU (fun h=>by
        have h7:=h.fo r s sJ i q (by omega);simp only[Bool.and_eq_true,beq_iff_eq,bne_iff_ne,ne_eq] at h6;obtain⟨⟨rfl,h8⟩,h9⟩:=h6
        exact h9 (h7 hb hq h8))]
       refine qq<|qj fun K hK=>qm ?_;refine qe hK<|af.ret ⟨rx,_,rfl,rl cE hH (rfl)⟩
      ·refine af.skip<|qj fun K hK=>qA ?_;refine qm ?_;refine qe hK ?_;refine⟨mm-1,by omega,⟨i+1,rfl,hH,by omega,?_⟩⟩;intro pc q' Ia KY rI gw
       by_cases he:pc=i
       ·subst he;rw[hq] at rI;cases rI;rw[hb] at KY;cases KY;simp[gw] at h6;exact h6
       ·exact hom pc q' (by omega) KY rI gw
     ·refine af.exit<|qj fun K hK=>qA ?_;refine qm ?_;refine qe hK ?_;refine⟨p.aK.length-(r+1),by omega,⟨r+1,rfl,hH,by omega,?_⟩⟩;intro r' s' Hb x0
      by_cases he:r'=r
      ·subst he;rw[sJ] at x0;cases x0;exact⟨H7,fun pc q Ia=>hom pc q (by omega)⟩
      ·exact cH r' s' (by omega) x0
   ·refine af.exit ?_
    rw[uu ⟨h0.1,h0.2,hsh,fun v hv=>by
     obtain⟨r',Hb⟩:=List.getElem?_of_mem hv
     exact(cH r' v (by have:=bn Hb;omega) Hb).1,fun r' s' x0=>(cH r' s' (by have:=bn x0;omega) x0).2⟩]
    refine qq<|qj fun K hK=>qm ?_;refine qe hK<|af.ret ⟨rx,_,rfl,rl cE hH (rfl)⟩
def pG:Nat→List Bool→List Int
 |_,[]=>[]
 |i,b::l=>(if b then[(i:Int)] else[])++pG (i+1) l
noncomputable def pw (p:Pg) (lO:Int):List Int:=if dec (fu p) &&pY lO p.aK.length then pG 0 (cX p.code (p.aK.getD lO.toNat 0)) else[]
end Go.Proofs.Ytnleclohocdkaaa
