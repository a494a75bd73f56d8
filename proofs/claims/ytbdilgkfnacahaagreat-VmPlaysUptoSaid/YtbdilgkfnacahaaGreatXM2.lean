/-
 Functions given to V; a logic over V; heaps of one's own; no program in sight, no conditions.
-/
import Derived.Test.YtbdilgkfnacahaaGreatXM4
import Derived.Test.YtbdilgkfnacahaaGreatXM1
set_option linter.unusedSimpArgs false
set_option linter.unusedVariables false
set_option linter.unusedSectionVars false
set_option linter.unnecessarySimpa false
namespace Go.V
open Go.RowKit
structure dj (P:Program) (pv:Pv) (f:Nat) (p:List D→St→Option (D×St)):Prop where
 fn:∀ds st r,p ds st=some r→∃fn b,P.funcs[f]?=some fn∧fn.body=some b∧fn.name≠ "runtime.NumGoroutine"
 calls:∀ds st d ae,p ds st=some (d,ae)→∀w β Z (us:List Value),dz w st β Z→ds.length=us.length→(∀(i:Nat) c v,ds[i]?=some c→us[i]?=some v→VR w (st.x β Z) c v)→
  Calls P f us.toArray w fun e w'=>∃v β' Z',e=.returned v∧Nx w st β Z w' ae β' Z'∧VR w' (ae.x β' Z') d v∧(fc pv f=true→Quiet w w')
 ro:∀ds st d ae,p ds st=some (d,ae)→fc pv f=true→i7 st ae
 len:∀ds st d ae,p ds st=some (d,ae)→cq st ae
theorem rj {pv nb:Pv} (h:∀f,fc pv f=fc nb f) (hm:∀s t,iI pv s t=iI nb s t) (ops:Array Oper) (b:Bool) (x y:Oper):fV pv ops b x y=fV nb ops b x y:=by
 have he:∀o,cW pv o=cW nb o:=by
  intro o;unfold cW
  split<;>first|rfl|exact hm _ _|skip
  rw[h]
 simp only[fV,he]
theorem oO {pv nb:Pv} (h:∀f,fc pv f=fc nb f) (hm:∀s t,iI pv s t=iI nb s t) (ops:Array Oper) (dy:List (Nat×Nat)):gh pv ops dy=gh nb ops dy:=by
 unfold gh
 congr 1
 funext j;unfold zN
 split
 ·simp only[rj h hm]
 ·rfl
theorem cn {pv nb:Pv} (h:∀f,fc pv f=fc nb f) (hm:∀s t,iI pv s t=iI nb s t) (dyn:List (Nat×List (Nat×Nat))) (n:Nat):∀c:Code,codeOk pv dyn n c=codeOk nb dyn n c
 | .region _ ops d=>by simp only[codeOk,oO h hm]
 | .seq a b=>by simp only[codeOk,cn h hm dyn n a,cn h hm dyn n b]
 | .cond _ a b=>by simp only[codeOk,cn h hm dyn n a,cn h hm dyn n b]
 | .block _ c=>by simp only[codeOk,cn h hm dyn n c]
 | .loop c=>by simp only[codeOk,cn h hm dyn n c]
 | .skip| .rangeFunc ..| .exit _| .scope _| .label _| .goto _| .ret| .refuse _=>by simp only[codeOk]
def Pv.over (pv:Pv) (l:List (Nat×(List D→St→Option (D×St)))):Pv:=⟨pv.ty,pv.nty,pv.fs,pv.nfs,pv.eqb,l⟩
theorem s8 (pv:Pv) (l) (f:Nat):fc (pv.over l) f=fc pv f:=rfl
theorem mz {f:Nat} {p}:∀{l:List (Nat×(List D→St→Option (D×St)))},gk f l=some p→(f,p)∈l
 |(g,q)::l,h=>by
  simp only[gk] at h
  split at h
  ·rename_i hb;cases h;rw[Nat.eq_of_beq_eq_true hb];exact List.mem_cons_self ..
  ·exact List.mem_cons_of_mem _ (mz h)
theorem jf {pv:Pv} {P:Program} (h:pv.Ok P∧pv.eI∧ej P pv (cA pv)) (IP:pv.prm=[]) {l:List (Nat×(List D→St→Option (D×St)))} (hl:∀q∈l,dj P pv q.1 q.2):
  (pv.over l).Ok P∧(pv.over l).eI∧ej P (pv.over l) (cA (pv.over l)):=by
 obtain⟨h1,h2,h3⟩:=h;refine⟨⟨h1.ty,h1.fs,h1.eqb,h1.mixed⟩,fun f x b hx hp hb=>?_,?_⟩
 ·rw[cn (s8 pv l) (fun _ _=>rfl)];exact h2 f x b hx hp hb
 ·have key:∀f ds st r,cA (pv.over l) f ds st=some r→(∃p,dj P pv f p∧p ds st=some r)∨cA pv f ds st=some r:=by
   intro f ds st r h;unfold cA at h
   split at h
   ·rename_i p hp;exact .inl ⟨p,hl _ (mz hp),h⟩
   ·right;unfold cA;rw[IP];exact h
  refine⟨fun f ds st r h=>?_,fun f ds st d ae h=>?_,fun f ds st d ae h=>?_,fun f ds st d ae h=>?_⟩
  ·rcases key f ds st r h with⟨p,hp,h⟩|h
   ·exact hp.fn ds st r h
   ·exact h3.fn f ds st r h
  ·rcases key f ds st _ h with⟨p,hp,h⟩|h
   ·exact hp.calls ds st d ae h
   ·exact h3.calls f ds st d ae h
  ·rcases key f ds st _ h with⟨p,hp,h⟩|h
   ·exact hp.ro ds st d ae h
   ·exact h3.ro f ds st d ae h
  ·rcases key f ds st _ h with⟨p,hp,h⟩|h
   ·exact hp.len ds st d ae h
   ·exact h3.len f ds st d ae h
theorem dz.nil {w:World} {Z:Nat→Prop} (hZ:∀b,Z b→b<w.heap.size):dz w ⟨[],0,0⟩ (fun _=>none) Z:=
 ⟨fun _ _ _ h=>(by cases h),fun _ _ _ h=>(by cases h),fun _ _ _ _ _ h=>(by cases h),fun _ _ _ h=>(by cases h),hZ,fun _ _ _ _ h=>(by cases h),Nat.le_refl _,Nat.le_refl _⟩
theorem hU {pv:Pv} {P:Program} (h:pv.Ok P∧pv.eI∧ej P pv (cA pv)) {n f:Nat} {ds:List D} {d:D} {og:St} (hs:aV pv n f ds ⟨[],0,0⟩=some (d,og)) (h0:og.bs=[]) (hr:refs ds=0)
  (st:St) (w:World) (β:Nat→Option (Nat×Nat)) (Z:Nat→Prop) (us:List Value) (dr:dz w st β Z) (hl:ds.length=us.length) (ha:∀(i:Nat) c v,ds[i]?=some c→us[i]?=some v→VR w (st.x β Z) c v):
  Calls P f us.toArray w fun e w'=>∃v β' Z',e=.returned v∧Nx w st β Z w' st β' Z'∧VR w' (st.x β' Z') d v∧Quiet w w':=by
 have hrefs:∀(l:List D),refs l=0→∀c∈l,c.ref≤0:=by
  intro l
  induction l with
  |nil=>intro _ c hc;simp at hc
  |cons x l ih=>
   intro h c hc;simp only[refs] at h
   rcases List.mem_cons.1 hc with rfl|hc
   ·omega
   ·exact ih (by omega) c hc
 refine((ez h.1 h.2.1 h.2.2 n).calls f ds _ d og hs w (fun _=>none) Z us (dz.nil dr.zl) hl fun i c v hc hv=>?_).mono fun e w'=>?_
 ·exact VR.cut (x:=st.x β Z) (x':=(⟨[],0,0⟩:St).x (fun _=>none) Z) (N:=0) (fun k hk=>absurd hk (Nat.not_lt_zero _)) (fun k hk=>absurd hk (Nat.not_lt_zero _)) (fun b hb=>hb) (ha i c v hc hv) (hrefs ds hr c (List.mem_of_getElem? hc))
 ·rintro⟨v,β',Z',rfl,hn,hv,_⟩
  have hno:∀k p,β' k=some p→False:=fun k p hk=>by
   have:=hn.sim.dom k p.1 p.2 hk;rw[h0] at this;simp at this
  have hq:Quiet w w':=by
   intro c hc;refine hn.evo.block c hc ?_;rintro⟨k,base,h5,_⟩;cases h5
  have Iu:∀b,Z b→Z' b∧w'.heap[b]?=w.heap[b]?:=fun b hb=>⟨(hn.keeps.z b hb).1,hq b (dr.zl b hb)⟩
  have hk:bW w (st.x β Z) w' (st.x β Z'):=⟨fun k p hp=>⟨p,hp⟩,Iu,fun k c p _ hc=>⟨c,hc,Nat.le_refl _⟩,fun k c _ _ b base hb=>⟨hb,cj (hq b (dr.lt k b base hb))⟩⟩
  refine⟨v,β,Z',rfl,⟨⟨dr.dom,fun k b base hb=>Nat.lt_of_lt_of_le (dr.lt k b base hb) hn.evo.size,dr.inj,fun k b base hb hz=>?_,hn.sim.zl,fun k b base bx hb dU=>(dr.box k b base bx hb dU).aP hk (hq b (dr.lt k b base hb)),dr.flr,dr.ro⟩,hk,
   ⟨hn.evo.os,hn.evo.tape,hn.evo.output,hn.evo.size,fun b hb _=>hq b hb⟩,fun k b base hb=>.inl ⟨base,hb⟩,hn.zfresh,Nat.le_refl _,rfl,rfl,fun k _=>⟨rfl,rfl⟩,fun k _ hk=>⟨hk,rfl⟩⟩,?_,hq⟩
  ·rcases hn.zfresh b hz with hz|hz
   ·exact dr.zd k b base hb hz
   ·have:=dr.lt k b base hb;omega
  ·exact VR.cut (x:=og.x β' Z') (x':=st.x β Z') (N:=0) (fun k hk=>absurd hk (Nat.not_lt_zero _)) (fun k hk=>absurd hk (Nat.not_lt_zero _)) (fun b hb=>hb) hv (VR.ref (fun k p hk=>(hno k p hk).elim) hv)
def jY (d:D):List D→St→Option (D×St)
 |[],st=>some (d,st)
 |_::_,_=>none
theorem kW {pv:Pv} {P:Program} (h:pv.Ok P∧pv.eI∧ej P pv (cA pv)) {n f:Nat} {d:D} {og:St} (hs:aV pv n f [] ⟨[],0,0⟩=some (d,og)) (h0:og.bs=[]):dj P pv f (jY d):=by
 have hc:=ez h.1 h.2.1 h.2.2 n;refine⟨fun ds st r _=>hc.fn f [] _ _ hs,fun ds st d' ae hp w β Z us dr hl ha=>?_,fun ds st d' ae hp _=>?_,fun ds st d' ae hp=>?_⟩<;>cases ds<;>simp only[jY,Option.some.injEq,Prod.mk.injEq,reduceCtorEq] at hp
 ·obtain⟨rfl,rfl⟩:=hp;refine(hU h hs h0 rfl st w β Z us dr hl ha).mono fun e w'=>?_;rintro⟨v,β',Z',h1,h2,h3,h4⟩;exact⟨v,β',Z',h1,h2,h3,fun _=>h4⟩
 ·rw[←hp.2];exact .rfl _
 ·rw[←hp.2];exact cq.refl _
def ek:List (List D×D)→List D→St→Option (D×St)
 |[],_,_=>none
 |(as,d)::l,ds,st=>match eJ as ds with
  |true=>some (d,st)
  |false=>ek l ds st
theorem e7:∀{l:List (List D×D)} {ds:List D} {st ae:St} {d:D},ek l ds st=some (d,ae)→(ds,d)∈l∧ae=st
 |(as,e)::l,ds,st,ae,d,h=>by
  simp only[ek] at h
  split at h
  ·rename_i hb;cases h;rw[dx _ _ hb];exact⟨List.mem_cons_self ..,rfl⟩
  ·obtain⟨h1,h2⟩:=e7 h;exact⟨List.mem_cons_of_mem _ h1,h2⟩
theorem iH {pv:Pv} {P:Program} (h:pv.Ok P∧pv.eI∧ej P pv (cA pv)) {f:Nat} {l:List (List D×D)} (hl:∀q∈l,refs q.1=0∧∃n og,aV pv n f q.1 ⟨[],0,0⟩=some (q.2,og)∧og.bs=[]):dj P pv f (ek l):=by
 refine⟨fun ds st r hp=>?_,fun ds st d ae hp w β Z us dr hle ha=>?_,fun ds st d ae hp _=>by rw[(e7 hp).2];exact .rfl _,fun ds st d ae hp=>?_⟩
 ·obtain⟨hm,_⟩:=e7 (d:=r.1) (ae:=r.2) hp;obtain⟨_,n,og,hs,_⟩:=hl _ hm;exact(ez h.1 h.2.1 h.2.2 n).fn f _ _ _ hs
 ·obtain⟨hm,rfl⟩:=e7 hp;obtain⟨hr,n,og,hs,h0⟩:=hl _ hm;refine(hU h hs h0 hr ae w β Z us dr hle ha).mono fun e w'=>?_;rintro⟨v,β',Z',h1,h2,h3,h4⟩;exact⟨v,β',Z',h1,h2,h3,fun _=>h4⟩
 ·rw[(e7 hp).2];exact cq.refl _
def iY:List eZ→List eZ→Bool
 |[],[]=>true
 |a::l,b::m=>lL a b &&iY l m
 |_,_=>false
def sv (a b:St):Bool:=Nat.beq a.flr b.flr &&Nat.beq a.ro b.ro &&iY a.bs b.bs
theorem j7:∀{a b:List eZ},iY a b=true→a=b
 |[],[],_=>rfl
 |a::l,b::m,h=>by
  simp only[iY,Bool.and_eq_true] at h;rw[mT h.1,j7 h.2]
 |[],_::_,h=>by cases h
 |_::_,[],h=>by cases h
theorem pH {a b:St} (h:sv a b=true):a=b:=by
 obtain⟨x,y,z⟩:=a;obtain⟨x',y',z'⟩:=b;simp only[sv,Bool.and_eq_true] at h;have h1:=Nat.eq_of_beq_eq_true h.1.1;have h2:=Nat.eq_of_beq_eq_true h.1.2;have h3:=j7 h.2;rw[h1,h2,h3]
def tx (d:D) (st:St):Option (D×St)→Bool
 |some (e,ae)=>cX e d &&sv ae st
 |none=>false
theorem eG {d:D} {st:St} {r:Option (D×St)} (h:tx d st r=true):r=some (d,st):=by
 match r,h with
 |some (e,ae),h=>
  simp only[tx,Bool.and_eq_true] at h;rw[kB e d h.1,pH h.2]
def mh:List ((List D×St)×(D×St))→List D→St→Option (D×St)
 |[],_,_=>none
 |(k,r)::l,ds,st=>match eJ k.1 ds &&sv k.2 st with
  |true=>some r
  |false=>mh l ds st
theorem e6:∀{l:List ((List D×St)×(D×St))} {ds:List D} {st:St} {r:D×St},mh l ds st=some r→((ds,st),r)∈l
 |(k,r')::l,ds,st,r,h=>by
  simp only[mh] at h
  split at h
  ·rename_i hb;simp only[Bool.and_eq_true] at hb;cases h;obtain⟨k1,k2⟩:=k;rw[←dx _ _ hb.1,←pH hb.2];exact List.mem_cons_self ..
  ·exact List.mem_cons_of_mem _ (e6 h)
theorem uA {pv nb:Pv} {P:Program} (h:nb.Ok P∧nb.eI∧ej P nb (cA nb)) (dF:∀f,fc nb f=fc pv f) {f:Nat} {l:List ((List D×St)×(D×St))} (hl:∀q∈l,∃n,aV nb n f q.1.1 q.1.2=some q.2):dj P pv f (mh l):=by
 refine⟨fun ds st r hp=>?_,fun ds st d ae hp w β Z us dr hle ha=>?_,fun ds st d ae hp hr=>?_,fun ds st d ae hp=>?_⟩
 ·obtain⟨n,hn⟩:=hl _ (e6 hp);exact(ez h.1 h.2.1 h.2.2 n).fn f _ _ _ hn
 ·obtain⟨n,hn⟩:=hl _ (e6 hp);have:=(ez h.1 h.2.1 h.2.2 n).calls f _ _ _ _ hn w β Z us dr hle ha;rw[dF] at this;exact this
 ·obtain⟨n,hn⟩:=hl _ (e6 hp);exact(ez h.1 h.2.1 h.2.2 n).ro f _ _ _ _ hn (by rw[dF];exact hr)
 ·obtain⟨n,hn⟩:=hl _ (e6 hp);exact(ez h.1 h.2.1 h.2.2 n).len f _ _ _ _ hn
end Go.V
namespace Go.V
section
variable(P:Pv)
def Ev (f:Nat) (args:List D) (st:St) (d:D) (ae:St):Prop:=
 ∃N,∀n,N≤n→aV P n f args st=some (d,ae)
abbrev Dy:=List (Nat×List (Nat×Nat))
def af (dy:Dy) (c:Code) (fr:Fr) (st:St) (Q:Out→Fr→St→Prop):Prop:=
 ∃o az ae,(∃N,∀n,N≤n→a7 P (aV P n) dy n c fr st=some (o,az,ae))∧Q o az ae
def ab (ops:Array Oper) (l:List Oper) (fr:Fr) (st:St) (Q:Fr→St→Prop):Prop:=
 ∃az ae,(∃N,∀n,N≤n→eO P (aV P n) ops l fr st=some (az,ae))∧Q az ae
def iZ (dy:Dy) (b:Code) (Q:Out→Fr→St→Prop):Out→Fr→St→Prop
 | .next,fr,st=>af P dy b fr st Q
 | .exit i,fr,st=>Q (.exit i) fr st
 | .ret,fr,st=>Q .ret fr st
def vD (id:Nat) (Q:Out→Fr→St→Prop):Out→Fr→St→Prop
 | .next,fr,st=>Q .next fr st
 | .exit i,fr,st=>if i=id then Q .next fr st else Q (.exit i) fr st
 | .ret,fr,st=>Q .ret fr st
def HD (I:Nat→Fr→St→Prop) (k:Nat) (Q:Out→Fr→St→Prop):Out→Fr→St→Prop
 | .next,fr,st=>∃j,j<k∧I j fr st
 | .exit i,fr,st=>Q (.exit i) fr st
 | .ret,fr,st=>Q .ret fr st
def bh (ops:Array Oper) (dy:List (Nat×Nat)) (j:Nat) (log:Log) (l:List Oper) (fr:Fr) (st:St) (Q:Fr→St→Prop):Prop:=
 ∃az ae,(∃N,∀n,N≤n→j_ P (aV P n) ops dy j log l fr st=some (az,ae))∧Q az ae
variable{P} {dy:Dy}
theorem af.mono {c:Code} {fr st} {Q Q':Out→Fr→St→Prop} (h:af P dy c fr st Q) (hq:∀o az ae,Q o az ae→Q' o az ae):af P dy c fr st Q':=by
 obtain⟨o,az,ae,h1,h2⟩:=h;exact⟨o,az,ae,h1,hq _ _ _ h2⟩
theorem af.skip {fr st} {Q:Out→Fr→St→Prop} (h:Q .next fr st):af P dy .skip fr st Q:=⟨_,_,_,⟨0,fun n _=>by simp only[a7]⟩,h⟩
theorem af.exit {fr st i} {Q:Out→Fr→St→Prop} (h:Q (.exit i) fr st):af P dy (.exit i) fr st Q:=⟨_,_,_,⟨0,fun n _=>by simp only[a7]⟩,h⟩
theorem af.ret {fr st} {Q:Out→Fr→St→Prop} (h:Q .ret fr st):af P dy .ret fr st Q:=⟨_,_,_,⟨0,fun n _=>by simp only[a7]⟩,h⟩
theorem af.region {i ops d fr st} {Q:Out→Fr→St→Prop} (h:ab P ops ops.toList fr.clean st (Q .next)) (h0:dZ i dy=[]:=by rfl):af P dy (.region i ops d) fr st Q:=by
 obtain⟨az,ae,⟨N,hN⟩,hq⟩:=h;exact⟨_,az,ae,⟨N,fun n hn=>by simp only[a7,h0,oD,hN n hn]⟩,hq⟩
theorem af.zH {i ops d fr st} {Q:Out→Fr→St→Prop} {p:Nat×Nat} {ps:List (Nat×Nat)} (h0:dZ i dy=p::ps) (h:bh P ops (p::ps) 0 [] ops.toList fr.clean st (Q .next)):af P dy (.region i ops d) fr st Q:=by
 obtain⟨az,ae,⟨N,hN⟩,hq⟩:=h;exact⟨_,az,ae,⟨N,fun n hn=>by simp only[a7,h0,oD,hN n hn]⟩,hq⟩
theorem af.seq {a b fr st} {Q:Out→Fr→St→Prop} (h:af P dy a fr st (iZ P dy b Q)):af P dy (.seq a b) fr st Q:=by
 obtain⟨o,az,ae,⟨N,hN⟩,hq⟩:=h
 cases o with
 |next=>
  obtain⟨o,Fm,st2,⟨M,hM⟩,hq⟩:=hq;exact⟨o,Fm,st2,⟨max N M,fun n hn=>by simp only[a7,hN n (by omega),hM n (by omega)]⟩,hq⟩
 |exit i=>exact⟨_,az,ae,⟨N,fun n hn=>by simp only[a7,hN n hn]⟩,hq⟩
 |ret=>exact⟨_,az,ae,⟨N,fun n hn=>by simp only[a7,hN n hn]⟩,hq⟩
theorem af.cond {c a b fr st v} {Q:Out→Fr→St→Prop} (hv:fr.ev c=.bool v) (h1:v=true→af P dy a fr st Q) (h2:v=false→af P dy b fr st Q):af P dy (.cond c a b) fr st Q:=by
 cases v with
 |true=>
  obtain⟨o,az,ae,⟨N,hN⟩,hq⟩:=h1 rfl;exact⟨o,az,ae,⟨N,fun n hn=>by simp only[a7,hv,hN n hn]⟩,hq⟩
 |false=>
  obtain⟨o,az,ae,⟨N,hN⟩,hq⟩:=h2 rfl;exact⟨o,az,ae,⟨N,fun n hn=>by simp only[a7,hv,hN n hn]⟩,hq⟩
theorem af.block {id c fr st} {Q:Out→Fr→St→Prop} (h:af P dy c fr st (vD id Q)):af P dy (.block id c) fr st Q:=by
 obtain⟨o,az,ae,⟨N,hN⟩,hq⟩:=h
 cases o with
 |next=>exact⟨_,az,ae,⟨N,fun n hn=>by simp only[a7,hN n hn]⟩,hq⟩
 |exit i=>
  simp only[vD] at hq
  split at hq
  ·rename_i hi;exact⟨_,az,ae,⟨N,fun n hn=>by simp only[a7,hN n hn,if_pos hi]⟩,hq⟩
  ·rename_i hi;exact⟨_,az,ae,⟨N,fun n hn=>by simp only[a7,hN n hn,if_neg hi]⟩,hq⟩
 |ret=>exact⟨_,az,ae,⟨N,fun n hn=>by simp only[a7,hN n hn]⟩,hq⟩
theorem af.loop {c:Code} {fr st} {Q:Out→Fr→St→Prop} (I:Nat→Fr→St→Prop) (k:Nat) (h0:I k fr st) (h:∀k fr st,I k fr st→af P dy c fr.clean st (HD I k Q)):af P dy (.loop c) fr st Q:=by
 have key:∀k fr st,I k fr st→∃o az ae,(∃N,∀n,N≤n→∀m,N≤m→iter (a7 P (aV P n) dy n c) m fr st=some (o,az,ae))∧(Q o az ae):=by
  intro k
  induction k using Nat.strongRecOn with
  |ind k ih=>
   intro fr st hi;obtain⟨o,az,ae,⟨N,hN⟩,hq⟩:=h k fr st hi
   cases o with
   |next=>
    obtain⟨j,hj,nH⟩:=hq;obtain⟨o,Fm,st2,⟨M,hM⟩,hq⟩:=ih j hj az ae nH;refine⟨o,Fm,st2,⟨max N M+1,fun n hn m hm=>?_⟩,hq⟩
    obtain⟨m,rfl⟩:∃m',m=m'+1:=⟨m-1,by omega⟩
    simp only[iter,hN n (by omega),hM n (by omega) m (by omega)]
   |exit i=>
    refine⟨_,az,ae,⟨N+1,fun n hn m hm=>?_⟩,hq⟩
    obtain⟨m,rfl⟩:∃m',m=m'+1:=⟨m-1,by omega⟩
    simp only[iter,hN n (by omega)]
   |ret=>
    refine⟨_,az,ae,⟨N+1,fun n hn m hm=>?_⟩,hq⟩
    obtain⟨m,rfl⟩:∃m',m=m'+1:=⟨m-1,by omega⟩
    simp only[iter,hN n (by omega)]
 obtain⟨o,az,ae,⟨N,hN⟩,hq⟩:=key k fr st h0;exact⟨o,az,ae,⟨N,fun n hn=>by simp only[a7,hN n hn n hn]⟩,hq⟩
theorem Ev.of {f x body args st d ae} (hq:gk f P.prm=none) (hf:P.fi f=some x) (hp:x.fx=none) (hb:x.fn.body=some body)
  (h:af P x.dyn body (pad x.nloc args) (aw x.mode st) fun o fr st1=>(∀i,o≠.exit i)∧∃ds,ga P fr st1 x.fn.results.toList=some ds∧b7 x.mode x.knul st st1 (pU ds)=some (d,ae)):Ev P f args st d ae:=by
 obtain⟨o,az,st1,⟨N,hN⟩,ho,ds,hr,hl⟩:=h;refine⟨N+1,fun n hn=>?_⟩
 obtain⟨m,rfl⟩:∃m',n=m'+1:=⟨n-1,by omega⟩
 simp only[aV,hq,hf,hp,hb,pG];rw[hN m (by omega)]
 cases o with
 |next=>simp only[hr,hl]
 |exit i=>exact absurd rfl (ho i)
 |ret=>simp only[hr,hl]
theorem ab.nil {ops fr st} {Q:Fr→St→Prop} (h:Q fr st):ab P ops [] fr st Q:=⟨fr,st,⟨0,fun n _=>rfl⟩,h⟩
def fI:Op→Bool
 | .call ⟨.value _,_,_⟩=>true
 |_=>false
theorem uj {cf fr st} {o:Oper} (h:fI o.op=false):cS P cf fr st o=cU P fr st o.op o.type:=by
 unfold cS
 split
 ·rename_i heq;rw[heq] at h;simp[fI] at h
 ·rfl
theorem ab.op {ops o rest fr st d st1} {Q:Fr→St→Prop} (hg:ax ops fr o=some true) (hc:fI o.op=false) (h1:cU P fr st o.op o.type=some (d,st1))
  (h:ab P ops rest (fr.aH o.dst d) st1 Q):ab P ops (o::rest) fr st Q:=by
 obtain⟨az,ae,⟨N,hN⟩,hq⟩:=h;exact⟨az,ae,⟨N,fun n hn=>by simp only[eO,hg,uj hc,h1,hN n hn]⟩,hq⟩
theorem ab.off {ops o rest fr st} {Q:Fr→St→Prop} (hg:ax ops fr o=some false)
  (h:ab P ops rest (fr.aH o.dst (.tup [])) st Q):ab P ops (o::rest) fr st Q:=by
 obtain⟨az,ae,⟨N,hN⟩,hq⟩:=h;exact⟨az,ae,⟨N,fun n hn=>by simp only[eO,hg,hN n hn]⟩,hq⟩
theorem ab.call {ops rest fr st d st1 f g fW args rG dst type pos} {after guard} {Q:Fr→St→Prop} (hg:ax ops fr ⟨dst,.call ⟨.value f,args,rG⟩,type,pos,after,guard⟩=some true) (hf:fr.ev f=.fn g fW)
  (h1:Ev P g (args.toList.map fr.ev++fW) st d st1)
  (h:ab P ops rest (fr.aH dst d) st1 Q):ab P ops (⟨dst,.call ⟨.value f,args,rG⟩,type,pos,after,guard⟩::rest) fr st Q:=by
 obtain⟨az,ae,⟨N,hN⟩,hq⟩:=h;obtain⟨M,hM⟩:=h1;exact⟨az,ae,⟨max N M,fun n hn=>by simp only[eO,hg,cS,hf,hM n (by omega),hN n (by omega)]⟩,hq⟩
theorem bh.nil {ops ys j log fr st} {Q:Fr→St→Prop} (h:Q fr st):bh P ops ys j log [] fr st Q:=⟨fr,st,⟨0,fun n _=>rfl⟩,h⟩
theorem bh.cons {ops ys j log o rest fr st} {Q:Fr→St→Prop} (h:ab P ops [o] fr st fun az ae=>vi ys j log o fr st ae=true∧bh P ops ys (j+1) ((o,fr,st,ae)::log) rest az ae Q):bh P ops ys j log (o::rest) fr st Q:=by
 obtain⟨Fo,st1,⟨N,hN⟩,hc,Fm,st2,⟨M,hM⟩,hq⟩:=h;refine⟨Fm,st2,⟨max N M,fun n hn=>?_⟩,hq⟩;have h1:=hN n (by omega);have h2:=hM n (by omega);simp only[eO] at h1;simp only[j_]
 split at h1
 ·rename_i hw
  split at h1
  ·rename_i d ae dG;cases h1;simp only[dG,hc,h2]
  ·cases h1
 ·rename_i hw;cases h1;exact h2
 ·cases h1
theorem Ev.out {f args st d ae} (h:Ev P f args st d ae):∃N,∀n,N≤n→aV P n f args st=some (d,ae):=h
theorem Ev.fx {f args st d ae p} (hq:gk f P.prm=some p) (h:p args st=some (d,ae)):Ev P f args st d ae:=
 ⟨1,fun n hn=>by
  obtain⟨m,rfl⟩:∃m',n=m'+1:=⟨n-1,by omega⟩
  simp only[aV,hq,h]⟩
end
attribute [irreducible] Ev af ab bh
end Go.V
namespace Go.V
theorem af.HF {P:Pv} {dy:Dy} {i:Nat} {l:List Oper} {d n loc tmp st} {Q:Out→Fr→St→Prop} (h:ab P l.toArray l ⟨n,loc,[]⟩ st (Q .next)) (h0:dZ i dy=[]:=by rfl):af P dy (.region i l.toArray d) ⟨n,loc,tmp⟩ st Q:=af.region h h0
theorem af.lT {P:Pv} {dy:Dy} {i:Nat} {l:List Oper} {d n loc tmp st} {Q:Out→Fr→St→Prop} {p:Nat×Nat} {ps:List (Nat×Nat)} (h0:dZ i dy=p::ps) (h:bh P l.toArray (p::ps) 0 [] l ⟨n,loc,[]⟩ st (Q .next)):af P dy (.region i l.toArray d) ⟨n,loc,tmp⟩ st Q:=af.zH h0 h
theorem Ev.km {P:Pv} {f x body args st d ae n loc} (hq:gk f P.prm=none) (hf:P.fi f=some x) (hp:x.fx=none) (hb:x.fn.body=some body) (uO:pad x.nloc args=⟨n,loc,[]⟩)
  (h:af P x.dyn body ⟨n,loc,[]⟩ (aw x.mode st) fun o fr st1=>(∀i,o≠.exit i)∧∃ds,ga P fr st1 x.fn.results.toList=some ds∧b7 x.mode x.knul st st1 (pU ds)=some (d,ae)):Ev P f args st d ae:=
 Ev.of hq hf hp hb (by rw[uO];exact h)
section
variable{P:Pv} {ops:Array Oper} {rest:List Oper} {n:Nat} {loc:List D} {tmp:List (Nat×D)} {st st1:St} {Q:Fr→St→Prop} {op:Op} {ty:TypeId} {p:String} {a:Array Edge} {g:Option (Nat×Bool)} {t:Nat} {d:D}
theorem ag (hb:Nat.ble n t=true) (d:D):Fr.put ⟨n,loc,tmp⟩ t d=⟨n,loc,(t,d)::tmp⟩:=by
 simp only[Fr.put,hb]
theorem Gj (hb:Nat.ble n t=false) (d:D):Fr.put ⟨n,loc,tmp⟩ t d=⟨n,loc.set t d,tmp⟩:=by
 simp only[Fr.put,hb]
theorem ab.T (hb:Nat.ble n t=true) (hg:ax ops ⟨n,loc,tmp⟩ ⟨some t,op,ty,p,a,g⟩=some true) (hc:fI op=false) (h1:cU P ⟨n,loc,tmp⟩ st op ty=some (d,st1))
  (h:ab P ops rest ⟨n,loc,(t,d)::tmp⟩ st1 Q):ab P ops (⟨some t,op,ty,p,a,g⟩::rest) ⟨n,loc,tmp⟩ st Q:=
 ab.op hg hc h1 (by show ab P ops rest (Fr.put _ t d) st1 Q;rw[ag hb];exact h)
theorem ab.L (hb:Nat.ble n t=false) (hg:ax ops ⟨n,loc,tmp⟩ ⟨some t,op,ty,p,a,g⟩=some true) (hc:fI op=false) (h1:cU P ⟨n,loc,tmp⟩ st op ty=some (d,st1))
  (h:ab P ops rest ⟨n,loc.set t d,tmp⟩ st1 Q):ab P ops (⟨some t,op,ty,p,a,g⟩::rest) ⟨n,loc,tmp⟩ st Q:=
 ab.op hg hc h1 (by show ab P ops rest (Fr.put _ t d) st1 Q;rw[Gj hb];exact h)
theorem ab.N {fr:Fr} (hg:ax ops fr ⟨none,op,ty,p,a,g⟩=some true) (hc:fI op=false) (h1:cU P fr st op ty=some (d,st1))
  (h:ab P ops rest fr st1 Q):ab P ops (⟨none,op,ty,p,a,g⟩::rest) fr st Q:=ab.op hg hc h1 h
theorem ab.Io (hb:Nat.ble n t=true) (hg:ax ops ⟨n,loc,tmp⟩ ⟨some t,op,ty,p,a,g⟩=some false)
  (h:ab P ops rest ⟨n,loc,(t,.tup [])::tmp⟩ st Q):ab P ops (⟨some t,op,ty,p,a,g⟩::rest) ⟨n,loc,tmp⟩ st Q:=
 ab.off hg (by show ab P ops rest (Fr.put _ t _) st Q;rw[ag hb];exact h)
end
inductive Rows (st:St) (s:Nat):D→List (List D)→Prop where
 |nul:Rows st s .nul []
 |sl (es:List D) (h:∀e∈es,e.cells?=some e.cells∧e.cells.length=s):Rows st s (.sl es) (es.map D.cells)
 |win (k aj off:Nat) (es:List (List D)) (ar:Bool) (c:List D) (hm:st.cP k aj=some (ar,c)) (hl:off+es.length*s≤c.length)
   (he:∀(i:Nat) e,es[i]?=some e→(c.drop (off+i*s)).take s=e):Rows st s (.win k aj off es.length s) es
theorem Rows.py {st:St} {s:Nat} {x:D} {es:List (List D)} (h:Rows st s x es):∀(i:Nat) e,es[i]?=some e→e.length=s:=by
 cases h with
 |nul=>intro i e h;simp at h
 |sl es h=>
  intro i e hi;rw[List.getElem?_map] at hi;obtain⟨d,hd,rfl⟩:=Option.map_eq_some_iff.1 hi;exact(h d (List.mem_of_getElem? hd)).2
 |win k aj off es ar c hm hl he=>
  intro i e hi
  have hlt:i<es.length:=by
   rcases Nat.lt_or_ge i es.length with h'|h'
   ·exact h'
   ·rw[List.getElem?_eq_none h'] at hi;cases hi
  rw[←he i e hi];have:(i+1)*s≤es.length*s:=Nat.mul_le_mul_right s hlt;rw[Nat.add_mul] at this
  simp;omega
theorem Rows.len {st:St} {s:Nat} {x:D} {es:List (List D)} (h:Rows st s x es):oW x=some es.length∧∀b,x≠.str b:=by
 cases h with
 |nul=>exact⟨rfl,fun b h=>by cases h⟩
 |sl es h=>exact⟨by simp[oW],fun b h=>by cases h⟩
 |win k aj off es ar c hm hl he=>exact⟨rfl,fun b h=>by cases h⟩
theorem Rows.AP {P:Pv} {st:St} {s:Nat} {x:D} {es:List (List D)} (h:Rows st s x es) {t e:TypeId} (ht:P.bX t=some (.slice e)):
  aU P .len [t] [x] st=some (.int .i64 (es.length:Nat),st):=by
 obtain⟨h1,h2⟩:=h.len;simp only[aU,ht]
 cases x with
 |str b=>exact absurd rfl (h2 b)
 |_=>simp only[h1];rfl
def byteCells (b:List UInt8):List (List D):=b.map fun y=>[.int .u8 (y.toNat:Nat)]
theorem qO {m:Mode} {kn:Bool} {st st1:St} {d d':D} (hm:m≠.aP∧m≠.nw) (h1:st1.bs.take st.bs.length=st.bs) (hd:aT st1 st.bs.length kn 16 d=some d'):b7 m kn st st1 d=some (d',st):=by
 cases m with
 |aP=>exact absurd rfl hm.1
 |nw=>exact absurd rfl hm.2
 |_=>simp only[b7,hd,h1]
end Go.V
namespace Go.V
structure Ex (N:Nat) (st ae:St):Prop where
 low:∀k,k<N→ae.bs[k]?=st.bs[k]?
 len:st.bs.length≤ae.bs.length
 flr:ae.flr=st.flr
 ro:ae.ro=st.ro
theorem Ex.refl (N:Nat) (st:St):Ex N st st:=⟨fun _ _=>rfl,Nat.le_refl _,rfl,rfl⟩
theorem Ex.trans {N:Nat} {a b c:St} (h:Ex N a b) (g:Ex N b c):Ex N a c:=
 ⟨fun k hk=>(g.low k hk).trans (h.low k hk),Nat.le_trans h.len g.len,g.flr.trans h.flr,g.ro.trans h.ro⟩
theorem Ex.push {N:Nat} {st:St} (h:N≤st.bs.length) (b:eZ):Ex N st (st.push b):=
 ⟨fun k hk=>by simp only[St.push];rw[List.getElem?_append_left (by omega)],by simp[St.push],rfl,rfl⟩
theorem Ex.set {N:Nat} {st:St} {k:Nat} (h:N≤k) (b:eZ):Ex N st {st with bs:=st.bs.set k b}:=
 ⟨fun j hj=>by simp only;rw[List.getElem?_set_ne (by omega)],by simp,rfl,rfl⟩
theorem Ex.take {N:Nat} {st ae:St} (h:Ex N st ae) (hN:N=st.bs.length):ae.bs.take N=st.bs:=by
 apply List.ext_getElem?;intro k;rw[List.getElem?_take]
 split
 ·exact h.low k (by assumption)
 ·rw[List.getElem?_eq_none (by omega)]
theorem Ex.mem {N:Nat} {st ae:St} (h:Ex N st ae) {k v:Nat} (hk:k<N):ae.cP k v=st.cP k v:=by
 simp only[St.cP,h.low k hk]
theorem Rows.ex {N:Nat} {st ae:St} (h:Ex N st ae) {s:Nat} {x:D} {es:List (List D)} (hr:Rows st s x es) (hx:x.ref≤N):Rows ae s x es:=by
 cases hr with
 |nul=>exact .nul
 |sl es h=>exact .sl es h
 |win k aj off es ar c hm hl he=>exact .win k aj off es ar c (by rw[h.mem (by simp only[D.ref] at hx;omega)];exact hm) hl he
theorem Rows.slice {P:Pv} {st:St} {s:Nat} {x:D} {es:List (List D)} (h:Rows st s x es) {t e:TypeId} (ht:P.bX t=some (.slice e)) (hs:bu P e=some s) {lo hi:Option D} {l r:Nat} (hb:cQ es.length lo hi=some (l,r)) (pO:l≤r∧r≤es.length):
  ∃y,dX P t x lo hi st=some y∧Rows st s y ((es.take r).drop l)∧y.ref≤x.ref:=by
 cases h with
 |nul=>
  refine⟨.nul,?_,?_,Nat.le_refl _⟩
  ·simp only[dX,ht,hs,Option.bind_some];simp only[List.length_nil] at hb;rw[hb];rfl
  ·simp;exact .nul
 |sl es h=>
  refine⟨.sl ((es.take r).drop l),?_,?_,by simp[D.ref]⟩
  ·simp only[dX,ht,hs,Option.bind_some]
   have:lu s es=true:=by
    cases es with
    |nil=>rfl
    |cons e es=>obtain⟨h1,h2⟩:=h e (List.mem_cons_self ..);simp[lu,h1,h2]
   rw[if_pos this];simp only[List.length_map] at hb;rw[hb];rfl
  ·have:=Rows.sl (st:=st) (s:=s) ((es.take r).drop l) fun e he=>h e (List.mem_of_mem_take (List.mem_of_mem_drop he))
   simpa[List.map_drop,List.map_take] using this
 |win k aj off es ar c hm hl he=>
  have hlen:((es.take r).drop l).length=r-l:=by simp;omega
  refine⟨.win k aj (off+l*s) (r-l) s,?_,?_,by simp[D.ref]⟩
  ·simp only[dX,ht,hs,Option.bind_some,if_true,hb];rfl
  ·have h1:l*s+(r-l)*s≤es.length*s:=by rw[←Nat.add_mul];exact Nat.mul_le_mul_right s (by omega)
   have:=Rows.win (st:=st) (s:=s) k aj (off+l*s) ((es.take r).drop l) ar c hm (by rw[hlen];omega) (fun i e hi=>by
    rw[List.getElem?_drop,List.getElem?_take] at hi
    split at hi
    ·have:=he _ _ hi;rw[←this,Nat.add_mul];congr 2;omega
    ·cases hi)
   rwa [hlen] at this
inductive Acc (N:Nat) (st:St) (s:Nat):D→List (List D)→Prop where
 |nul:Acc N st s .nul []
 |win (k aj:Nat) (es:List (List D)) (hN:N≤k) (hm:st.bs[k]?=some (.mem aj true es.flatten)) (he:∀e∈es,e.length=s):Acc N st s (.win k aj 0 es.length s) es
theorem bJ {s:Nat}:∀{es:List (List D)},(∀e∈es,e.length=s)→es.flatten.length=es.length*s
 |[],_=>by simp
 |e::es,h=>by
  have:=bJ (s:=s) (es:=es) fun x hx=>h x (List.mem_cons_of_mem _ hx);simp only[List.flatten_cons,List.length_append,List.length_cons,this,h e (List.mem_cons_self ..)];rw[Nat.add_mul];omega
theorem gM {s:Nat}:∀{es:List (List D)},(∀e∈es,e.length=s)→∀(i:Nat) e,es[i]?=some e→(es.flatten.drop (i*s)).take s=e
 |[],_,i,e,h=>by simp at h
 |x::es,h,0,e,hi=>by
  simp at hi;subst hi;have:=h x (List.mem_cons_self ..);simp[List.take_left' this]
 |x::es,h,i+1,e,hi=>by
  simp only[List.getElem?_cons_succ] at hi;have hx:=h x (List.mem_cons_self ..);have:=gM (s:=s) (es:=es) (fun y hy=>h y (List.mem_cons_of_mem _ hy)) i e hi;rw[←this,List.flatten_cons,Nat.add_mul,Nat.one_mul,Nat.add_comm,←hx,←List.drop_drop,List.drop_left]
theorem St.mem_of {st:St} {k aj:Nat} {ar:Bool} {c:List D} (h:st.bs[k]?=some (.mem aj ar c)):st.cP k aj=some (ar,c):=by
 simp only[St.cP,h,if_true]
theorem Acc.rows {N:Nat} {st:St} {s:Nat} {x:D} {es:List (List D)} (h:Acc N st s x es):Rows st s x es:=by
 cases h with
 |nul=>exact .nul
 |win k aj es hN hm he=>
  exact .win k aj 0 es true es.flatten (St.mem_of hm) (by rw[bJ he];omega) fun i e hi=>by rw[Nat.zero_add];exact gM he i e hi
theorem Acc.ex {N M:Nat} {st ae:St} (h:Ex M st ae) {s:Nat} {x:D} {es:List (List D)} (hr:Acc N st s x es) (hx:x.ref≤M):Acc N ae s x es:=by
 cases hr with
 |nul=>exact .nul
 |win k aj es hN hm he=>exact .win k aj es hN (by rw[h.low k (by simp only[D.ref] at hx;omega)];exact hm) he
theorem Acc.push {N:Nat} {st:St} {s:Nat} {x:D} {es:List (List D)} (hr:Acc N st s x es) (b:eZ):Acc N (st.push b) s x es:=by
 cases hr with
 |nul=>exact .nul
 |win k aj es hN hm he=>
  refine .win k aj es hN ?_ he;simp only[St.push];rw[List.getElem?_append_left];exact hm
  rcases Nat.lt_or_ge k st.bs.length with h'|h'
  ·exact h'
  ·rw[List.getElem?_eq_none h'] at hm;cases hm
theorem Rows.row {st:St} {s:Nat} {x:D} {es:List (List D)} (h:Rows st s x es):kL st x=some (es.length,es.flatten):=by
 have hl:=h.py
 cases h with
 |nul=>rfl
 |sl es h=>
  simp only[kL,List.length_map];rw[List.flatMap_def]
 |win k aj off es ar c hm q7 he=>
  simp only[kL,hm,Option.bind_some,if_pos q7]
  congr 2
  have key:∀(es:List (List D)) (c:List D),es.length*s≤c.length→(∀(i:Nat) e,es[i]?=some e→(c.drop (i*s)).take s=e)→c.take (es.length*s)=es.flatten:=by
   intro es
   induction es with
   |nil=>intro c _ _;simp
   |cons e es ih=>
    intro c hc hx;have h0:=hx 0 e rfl;simp only[Nat.zero_mul,List.drop_zero] at h0;rw[List.flatten_cons,List.length_cons,Nat.add_mul,Nat.one_mul,Nat.add_comm,List.take_add,h0]
    congr 1
    simp only[List.length_cons,Nat.add_mul,Nat.one_mul] at hc;refine ih (c.drop s) (by simp;omega) fun i e hi=>?_;rw[List.drop_drop,←hx (i+1) e (by simpa using hi),Nat.add_mul,Nat.one_mul,Nat.add_comm]
  refine key es (c.drop off) (by simp;omega) fun i e hi=>?_;rw[List.drop_drop];exact he i e hi
theorem Acc.append {P:Pv} {N:Nat} {st:St} {s:Nat} {x y:D} {es ys:List (List D)} (hr:Acc N st s x es) (hy:Rows st s y ys) {t1 t2 e:TypeId} {td:TypeDesc} {inf:TypeInfo} {z:List D}
  (h1:P.bX t1=some (.slice e)) (h2:P.bX t2=some td) (h3:eH td=false) (h4:P.info e=some inf) (h5:b_ P e=some z) (h6:inf.size=s) (h7:z.length=s) (h8:inf.bytes≠0)
  (hN:N≤st.bs.length) (hf:st.flr≤N) (dF:st.ro≤N) (hb:(es.length+ys.length)*inf.bytes≤1099511627776):
  ∃x' ae,aU P .append [t1,t2] [x,y] st=some (x',ae)∧Acc N ae s x' (es++ys)∧Ex N st ae∧x'.ref≤ae.bs.length∧(∀k,k<st.bs.length→k+1≠x.ref→ae.bs[k]?=st.bs[k]?)∧(x'.ref=x.ref∨st.bs.length<x'.ref):=by
 have gR:=hy.row
 have vJ:∀e∈ys,e.length=s:=fun e he=>by
  obtain⟨i,hi⟩:=List.getElem?_of_mem he;exact hy.py i e hi
 have jb:=bJ vJ;subst h6;simp only[aU,eT,h1,h2,h3,Bool.false_eq_true,if_false,h4,h5,gR,Option.bind_some];rw[if_neg (by rintro(h|h|h);exact h jb;exact h8 h;exact h h7)]
 cases hr with
 |nul=>
  simp only[List.nil_append]
  by_cases h0:ys.length=0
  ·rw[if_pos h0]
   have:ys=[]:=by cases ys with|nil=>rfl|cons _ _=>simp at h0
   subst this;exact⟨.nul,st,rfl,.nul,Ex.refl _ _,by simp[D.ref],fun _ _ _=>rfl,.inl rfl⟩
  ·rw[if_neg h0,if_pos (by simpa using hb)];refine⟨_,_,rfl,?_,Ex.push hN _,by simp[D.ref,St.push],fun k hk _=>by simp only[St.push];rw[List.getElem?_append_left hk],.inr (by simp[D.ref])⟩;exact .win _ _ ys hN (by simp[St.push]) vJ
 |win k aj es hk hm he=>
  have jE:k<st.bs.length:=by
   rcases Nat.lt_or_ge k st.bs.length with h'|h'
   ·exact h'
   ·rw[List.getElem?_eq_none h'] at hm;cases hm
  simp only[St.mem_of hm];rw[if_neg (by rintro(h|h);exact h rfl;rw[bJ he] at h;omega)]
  by_cases h0:ys.length=0
  ·rw[if_pos h0]
   have:ys=[]:=by cases ys with|nil=>rfl|cons _ _=>simp at h0
   subst this;simp only[List.append_nil];exact⟨_,st,rfl,.win k aj es hk hm he,Ex.refl _ _,by simp only[D.ref];omega,fun _ _ _=>rfl,.inl rfl⟩
  ·rw[if_neg h0,if_pos ⟨hb,by simp only[St.gV,Bool.and_eq_true,Bool.or_eq_true,decide_eq_true_eq];exact⟨by omega,.inl (by omega)⟩⟩];refine⟨_,_,rfl,?_,Ex.set hk _,by simp only[D.ref,List.length_set];omega,fun j hj hne=>by simp only;rw[List.getElem?_set_ne (by simp only[D.ref] at hne;omega)],.inl rfl⟩
   have:(es.flatten.take (0+es.length*inf.size)).drop 0++ys.flatten=(es++ys).flatten:=by
    rw[Nat.zero_add,←bJ he,List.take_length,List.drop_zero,List.flatten_append]
   rw[this];have vM:es.length+ys.length=(es++ys).length:=by simp
   rw[vM]
   exact .win k (aj+1) (es++ys) hk (by simp[jE]) fun e h=>by
    rcases List.mem_append.1 h with h|h
    ·exact he e h
    ·exact vJ e h
def bQ:D→Bool
 | .bool _| .int _ _| .str _| .sl _=>true
 |_=>false
theorem fG {st:St} {N n:Nat}:∀{l:List D},(∀d∈l,bQ d=true)→dM (cR st N (n+1)) l=some l
 |[],_=>rfl
 |d::l,h=>by
  have h1:=h d (List.mem_cons_self ..);have h2:=fG (st:=st) (N:=N) (n:=n) fun x hx=>h x (List.mem_cons_of_mem _ hx);have h3:cR st N (n+1) d=some d:=by cases d<;>simp[bQ] at h1<;>rfl
  simp only[dM,h3,h2]
def ir (s:Nat) (e:List D):D:=match s with|1=>e.headD .aZ|_=>.agg e
theorem dH {s:Nat}:∀{es:List (List D)},(∀e∈es,e.length=s)→chunk s es.length es.flatten=es.map (ir s)
 |[],_=>rfl
 |e::es,h=>by
  have he:=h e (List.mem_cons_self ..);have ih:=dH (s:=s) (es:=es) fun x hx=>h x (List.mem_cons_of_mem _ hx);simp only[List.length_cons,chunk,List.flatten_cons,List.map_cons]
  congr 1
  ·by_cases hs:s=1
   ·subst hs
    cases e with
    |nil=>simp at he
    |cons x xs=>simp[ir]
   ·have h1:ir s e=.agg e:=by unfold ir;split;exact absurd rfl hs;rfl
    have h2:(match s with|1=>(e++es.flatten).headD .aZ|_=>D.agg ((e++es.flatten).take s))=.agg e:=by
     split
     ·exact absurd rfl hs
     ·rw[List.take_left' he]
    rw[h1];exact h2
  ·rw[List.drop_left' he];exact ih
theorem Acc.freeze {N:Nat} {st:St} {s:Nat} {x:D} {es:List (List D)} (h:Acc N st s x es) (hp:∀e∈es,∀d∈e,bQ d=true) {n:Nat} (hn:2≤n):aT st N false (n+1) x=some (.sl (es.map (ir s))):=by
 obtain⟨n,rfl⟩:∃m,n=m+2:=⟨n-2,by omega⟩
 cases h with
 |nul=>rfl
 |win k aj es hN hm he=>
  show(if k<N then some (D.win k aj 0 es.length s) else cR st N (n+2) (.win k aj 0 es.length s))=_;rw[if_neg (show¬k<N by omega),cR];simp only[if_neg (show¬k<N by omega),St.mem_of hm,Option.bind_some];rw[if_pos (by rw[bJ he];omega)];have:(es.flatten.drop 0).take (es.length*s)=es.flatten:=by rw[List.drop_zero,←bJ he,List.take_length]
  rw[this,fG (fun d hd=>by
   obtain⟨e,lQ,tC⟩:=List.mem_flatten.1 hd
   exact hp e lQ d tC)]
  simp only[Option.map_some,dH he]
theorem gO {s:Nat} {e:List D} (h:e.length=s) (hp:∀d∈e,bQ d=true):(ir s e).cells?=some (ir s e).cells∧(ir s e).cells=e:=by
 by_cases hs:s=1
 ·subst hs
  match e,h with
  |[x],_=>
   have:=hp x (List.mem_cons_self ..);cases x<;>simp[bQ] at this<;>exact⟨rfl,rfl⟩
 ·have:ir s e=.agg e:=by unfold ir;split;exact absurd rfl hs;rfl
  rw[this];exact⟨rfl,rfl⟩
theorem Rows.oP {st:St} {s:Nat} {es:List (List D)} (h:∀e∈es,e.length=s) (hp:∀e∈es,∀d∈e,bQ d=true):Rows st s (.sl (es.map (ir s))) es:=by
 have:=Rows.sl (st:=st) (s:=s) (es.map (ir s)) fun d hd=>by
  obtain⟨e,he,rfl⟩:=List.mem_map.1 hd;obtain⟨h1,h2⟩:=gO (h e he) (hp e he);exact⟨h1,by rw[h2];exact h e he⟩
 have h2:(es.map (ir s)).map D.cells=es:=by
  rw[List.map_map]
  conv=>rhs;rw[←List.map_id es]
  refine List.map_congr_left fun e he=>?_;exact(gO (h e he) (hp e he)).2
 rwa [h2] at this
theorem Rows.bs {st ae:St} (h:ae.bs=st.bs) {s:Nat} {x:D} {es:List (List D)} (hr:Rows st s x es):Rows ae s x es:=by
 cases hr with
 |nul=>exact .nul
 |sl es h=>exact .sl es h
 |win k aj off es ar c hm hl he=>exact .win k aj off es ar c (by simp only[St.cP,h] at hm⊢;exact hm) hl he
theorem vb (m:Mode) (st:St):(aw m st).bs=st.bs:=by cases m<;>rfl
theorem Rows.enter {st:St} {s:Nat} {x:D} {es:List (List D)} (m:Mode) (hr:Rows st s x es):Rows (aw m st) s x es:=hr.bs (vb m st)
theorem dK {k:IntKind} {m:Nat} (h:m≤jt k):b2 k (m:Int)=m:=by
 show b2 k (.ofNat m)=_;unfold b2;simp only[Nat.ble_eq_true_of_le h];rfl
theorem wrap_i64 {n : Int} (h1 : -9223372036854775808 ≤ n) (h2 : n ≤ 9223372036854775807) : b2 .i64 n = n := by
  cases n with
  | ofNat m => exact dK (k := .i64) (m := m) (by simp only [jt]; have : (Int.ofNat m) = (m : Int) := rfl; omega)
  | negSucc m =>
    unfold b2
    have : Nat.ble (nj .i64) m = false := by
      cases hb : Nat.ble (nj .i64) m with
      | false => rfl
      | true => have := Nat.le_of_ble_eq_true hb; simp only [nj] at this; have : Int.negSucc m = -(m : Int) - 1 := by omega
                omega
    simp only [this]
theorem bv_and {w a b:Nat} (ha:a<2^w) (hb:b<2^w):(BitVec.ofInt w (a:Int) &&&BitVec.ofInt w (b:Int)).toNat=a &&&b:=by
 rw[BitVec.ofInt_natCast,BitVec.ofInt_natCast,BitVec.toNat_and,BitVec.toNat_ofNat,BitVec.toNat_ofNat,Nat.mod_eq_of_lt ha,Nat.mod_eq_of_lt hb]
theorem HB {w a b:Nat} (ha:a<2^w) (hb:b<2^w):(BitVec.ofInt w (a:Int)|||BitVec.ofInt w (b:Int)).toNat=a|||b:=by
 rw[BitVec.ofInt_natCast,BitVec.ofInt_natCast,BitVec.toNat_or,BitVec.toNat_ofNat,BitVec.toNat_ofNat,Nat.mod_eq_of_lt ha,Nat.mod_eq_of_lt hb]
end Go.V
namespace Go.V
variable{P:Pv} {ops:Array Oper} {rest:List Oper} {n:Nat} {loc:List D} {tmp:List (Nat×D)} {st:St} {Q:Fr→St→Prop} {ty:TypeId} {p:String} {a:Array Edge} {g:Option (Nat×Bool)} {dst:Nat}
theorem ab.len {t e:TypeId} {xo:Operand} {x:D} {s:Nat} {es:List (List D)} (nZ:Nat.ble n dst=true) (hg:ax ops ⟨n,loc,tmp⟩ ⟨some dst,.call ⟨.builtin .len,#[xo],#[t]⟩,ty,p,a,g⟩=some true) (hx:Fr.ev ⟨n,loc,tmp⟩ xo=x) (hR:Rows st s x es) (ht:P.bX t=some (.slice e))
  (h:ab P ops rest ⟨n,loc,(dst,(.int .i64 (es.length:Nat)))::tmp⟩ st Q):ab P ops (⟨some dst,.call ⟨.builtin .len,#[xo],#[t]⟩,ty,p,a,g⟩::rest) ⟨n,loc,tmp⟩ st Q:=by
 refine ab.T nZ hg rfl (d:=.int .i64 (es.length:Nat)) (st1:=st) ?_ h;simp only[cU,List.map_cons,List.map_nil,hx];exact hR.AP ht
theorem ab.slice {t e:TypeId} {xo:Operand} {lo hi:Option Operand} {x:D} {s:Nat} {es:List (List D)} {l r:Nat} (nZ:Nat.ble n dst=true) (hg:ax ops ⟨n,loc,tmp⟩ ⟨some dst,.slice t xo lo hi none,ty,p,a,g⟩=some true) (hx:Fr.ev ⟨n,loc,tmp⟩ xo=x) (hR:Rows st s x es) (ht:P.bX t=some (.slice e)) (hs:bu P e=some s)
  (hb:cQ es.length (lo.map (Fr.ev ⟨n,loc,tmp⟩)) (hi.map (Fr.ev ⟨n,loc,tmp⟩))=some (l,r)) (pO:l≤r∧r≤es.length)
  (h:∀y,Rows st s y ((es.take r).drop l)→y.ref≤x.ref→ab P ops rest ⟨n,loc,(dst,y)::tmp⟩ st Q):ab P ops (⟨some dst,.slice t xo lo hi none,ty,p,a,g⟩::rest) ⟨n,loc,tmp⟩ st Q:=by
 obtain⟨y,h1,h2,h3⟩:=hR.slice ht hs hb pO;refine ab.T nZ hg rfl (d:=y) (st1:=st) ?_ (h y h2 h3);simp only[cU,hx,h1,Option.map_some]
theorem ab.append {N:Nat} {t1 t2 e:TypeId} {td:TypeDesc} {inf:TypeInfo} {z:List D} {xo yo:Operand} {x y:D} {s:Nat} {es ys:List (List D)} (nZ:Nat.ble n dst=true) (hg:ax ops ⟨n,loc,tmp⟩ ⟨some dst,.call ⟨.builtin .append,#[xo,yo],#[t1,t2]⟩,ty,p,a,g⟩=some true)
  (hx:Fr.ev ⟨n,loc,tmp⟩ xo=x) (hy:Fr.ev ⟨n,loc,tmp⟩ yo=y) (hr:Acc N st s x es) (ia:Rows st s y ys)
  (h1:P.bX t1=some (.slice e)) (h2:P.bX t2=some td) (h3:eH td=false) (h4:P.info e=some inf) (h5:b_ P e=some z) (h6:inf.size=s) (h7:z.length=s) (h8:inf.bytes≠0)
  (hN:N≤st.bs.length) (hf:st.flr≤N) (dF:st.ro≤N) (hb:(es.length+ys.length)*inf.bytes≤1099511627776)
  (h:∀x' ae,Acc N ae s x' (es++ys)→Ex N st ae→x'.ref≤ae.bs.length→(∀k,k<st.bs.length→k+1≠x.ref→ae.bs[k]?=st.bs[k]?)→(x'.ref=x.ref∨st.bs.length<x'.ref)→ab P ops rest ⟨n,loc,(dst,x')::tmp⟩ ae Q):
  ab P ops (⟨some dst,.call ⟨.builtin .append,#[xo,yo],#[t1,t2]⟩,ty,p,a,g⟩::rest) ⟨n,loc,tmp⟩ st Q:=by
 obtain⟨x',ae,q1,q2,q3,q4,q5,q6⟩:=hr.append ia h1 h2 h3 h4 h5 h6 h7 h8 hN hf dF hb;refine ab.T nZ hg rfl (d:=x') (st1:=ae) ?_ (h x' ae q2 q3 q4 q5 q6);simp only[cU,List.map_cons,List.map_nil,hx,hy];exact q1
theorem Rows.one {st:St} {s:Nat} {c:List D} (hc:c.length=s):Rows (st.push (.mem 0 true c)) s (.win st.bs.length 0 0 1 s) [c]:=by
 have:=Rows.win (st:=st.push (.mem 0 true c)) (s:=s) st.bs.length 0 0 [c] true c (St.mem_of (by simp[St.push])) (by simp[hc]) fun i e hi=>by
  cases i with
  |zero=>simp at hi;subst hi;simp[←hc]
  |succ i=>simp at hi
 exact this
theorem Rows.ref {st:St} {s:Nat} {x:D} {es:List (List D)} (h:Rows st s x es):x.ref≤st.bs.length:=by
 cases h with
 |nul=>simp[D.ref]
 |sl es h=>simp[D.ref]
 |win k aj off es ar c hm hl he=>
  simp only[D.ref]
  rcases Nat.lt_or_ge k st.bs.length with h'|h'
  ·exact h'
  ·simp only[St.cP,List.getElem?_eq_none h'] at hm;cases hm
theorem Acc.ref {N:Nat} {st:St} {s:Nat} {x:D} {es:List (List D)} (h:Acc N st s x es):x.ref≤st.bs.length:=h.rows.ref
end Go.V
namespace Go.V
theorem dC:∀(xs c:List D) (off:Nat),off+xs.length≤c.length→setMany c off xs=c.take off++xs++c.drop (off+xs.length)
 |[],c,off,h=>by simp[setMany]
 |x::xs,c,off,h=>by
  simp only[setMany];simp only[List.length_cons] at h;rw[dC xs (c.set off x) (off+1) (by simp;omega)]
  have h1:(c.set off x).take (off+1)=c.take off++[x]:=by
   rw[List.take_set,List.take_add_one,List.getElem?_eq_getElem (by omega:off<c.length)];simp only[Option.toList_some];rw[List.set_append_right _ _ (by simp;omega)];have:off-(c.take off).length=0:=by simp;omega
   rw[this];rfl
  have h2:(c.set off x).drop (off+1+xs.length)=c.drop (off+(xs.length+1)):=by
   rw[List.drop_set_of_lt (by omega)];congr 1;omega
  rw[h1,h2];simp[List.length_cons]
theorem nc (st:St) (b:eZ):(st.push b).bs[st.bs.length]?=some b:=by simp[St.push]
variable{P:Pv} {ops:Array Oper} {rest:List Oper} {n:Nat} {loc:List D} {tmp:List (Nat×D)} {st:St} {Q:Fr→St→Prop} {ty:TypeId} {p:String} {a:Array Edge} {g:Option (Nat×Bool)} {dst:Nat}
theorem ab.makeSlice {t e:TypeId} {lo co:Operand} {k1 k2:IntKind} {m:Nat} {inf:TypeInfo} {z:List D} (nZ:Nat.ble n dst=true) (hg:ax ops ⟨n,loc,tmp⟩ ⟨some dst,.makeSlice t lo co,ty,p,a,g⟩=some true)
  (hl:Fr.ev ⟨n,loc,tmp⟩ lo=.int k1 (m:Nat)) (hc:Fr.ev ⟨n,loc,tmp⟩ co=.int k2 (m:Nat)) (ht:P.bX t=some (.slice e)) (hi:P.info e=some inf) (hz:b_ P e=some z) (gL:z.length=inf.size) (hm:m*inf.bytes≤140737488355328) (HQ:m≤9223372036854775807)
  (h:ab P ops rest ⟨n,loc,(dst,.win st.bs.length 0 0 m inf.size)::tmp⟩ (st.push (.mem 0 true (cO m z))) Q):ab P ops (⟨some dst,.makeSlice t lo co,ty,p,a,g⟩::rest) ⟨n,loc,tmp⟩ st Q:=by
 refine ab.T nZ hg rfl (d:=.win st.bs.length 0 0 m inf.size) (st1:=st.push (.mem 0 true (cO m z))) ?_ h;simp only[cU,hl,hc,dE,ht,hi,hz,Option.bind_some];rw[if_pos ⟨gL,by omega,by omega,by omega,by rw[←Int.natCast_mul];omega⟩]
 rfl
theorem jd {k aj off:Nat} {ar:Bool} {c cs:List D} (hm:st.bs[k]?=some (.mem aj ar c)) (hl:off+cs.length≤c.length) (hw:st.gV k (refs cs)=true):st.wr k aj off cs=some {st with bs:=st.bs.set k (.mem aj ar (c.take off++cs++c.drop (off+cs.length)))}:=by
 simp only[St.wr,St.mem_of hm];rw[if_pos ⟨hl,hw⟩,dC _ _ _ hl]
theorem ab.copy {t1 t2 e:TypeId} {KE so:Operand} {k aj off len s:Nat} {y:D} {ys:List (List D)} {ar:Bool} {c:List D} (nZ:Nat.ble n dst=true) (hg:ax ops ⟨n,loc,tmp⟩ ⟨some dst,.call ⟨.builtin .copy,#[KE,so],#[t1,t2]⟩,ty,p,a,g⟩=some true)
  (hd:Fr.ev ⟨n,loc,tmp⟩ KE=.win k aj off len s) (hy:Fr.ev ⟨n,loc,tmp⟩ so=y) (hR:Rows st s y ys) (ht:P.bX t1=some (.slice e)) (hs:bu P e=some s) (hm:st.bs[k]?=some (.mem aj ar c)) (hl:off+len*s≤c.length)
  (hw:st.gV k (refs (ys.flatten.take (min ys.length len*s)))=true)
  (h:ab P ops rest ⟨n,loc,(dst,.int .i64 (min ys.length len:Nat))::tmp⟩ {st with bs:=st.bs.set k (.mem aj ar (c.take off++ys.flatten.take (min ys.length len*s)++c.drop (off+min ys.length len*s)))} Q):
  ab P ops (⟨some dst,.call ⟨.builtin .copy,#[KE,so],#[t1,t2]⟩,ty,p,a,g⟩::rest) ⟨n,loc,tmp⟩ st Q:=by
 have vJ:∀e∈ys,e.length=s:=fun e he=>by
  obtain⟨i,hi⟩:=List.getElem?_of_mem he;exact hR.py i e hi
 have jb:=bJ vJ;have Ak:min ys.length len*s≤ys.length*s:=Nat.mul_le_mul_right s (Nat.min_le_left _ _);have Ly:min ys.length len*s≤len*s:=Nat.mul_le_mul_right s (Nat.min_le_right _ _);have ko:(ys.flatten.take (min ys.length len*s)).length=min ys.length len*s:=by rw[List.length_take,jb];omega
 refine ab.T nZ hg rfl (d:=.int .i64 (min ys.length len:Nat)) (st1:={st with bs:=st.bs.set k (.mem aj ar (c.take off++ys.flatten.take (min ys.length len*s)++c.drop (off+min ys.length len*s)))}) ?_ h;simp only[cU,List.map_cons,List.map_nil,hd,hy,aU,mN,ht,hs,Option.bind_some,hR.row];rw[if_neg (by simp[jb])];simp only[ne_eq,not_true_eq_false,if_false];have:=jd (st:=st) hm (cs:=ys.flatten.take (min ys.length len*s)) (off:=off) (by rw[ko];omega) hw;rw[this,ko];rfl
theorem ab.store {fr:Fr} {t:TypeId} {ao vo:Operand} {k aj off:Nat} {v:D} {cs:List D} {ar:Bool} {c:List D} (hg:ax ops fr ⟨none,.store t ao vo,ty,p,a,g⟩=some true) (ha:fr.ev ao=.ptr k aj off) (hv:fr.ev vo=v)
  (fM:v.cells?=some cs) (hs:bu P t=some cs.length) (hm:st.bs[k]?=some (.mem aj ar c)) (hl:off+cs.length≤c.length) (hw:st.gV k (refs cs)=true)
  (h:ab P ops rest fr {st with bs:=st.bs.set k (.mem aj ar (c.take off++cs++c.drop (off+cs.length)))} Q):ab P ops (⟨none,.store t ao vo,ty,p,a,g⟩::rest) fr st Q:=by
 refine ab.N hg rfl (d:=.tup []) (st1:=_) ?_ h;simp only[cU,ha,hv,gZ,fM,hs];rw[if_pos trivial,jd hm hl hw];rfl
theorem ab.load {t:TypeId} {ao:Operand} {k aj off:Nat} {d:D} {ar:Bool} {c:List D} (nZ:Nat.ble n dst=true) (hg:ax ops ⟨n,loc,tmp⟩ ⟨some dst,.load t ao,ty,p,a,g⟩=some true) (ha:Fr.ev ⟨n,loc,tmp⟩ ao=.ptr k aj off)
  (hm:st.bs[k]?=some (.mem aj ar c)) (hd:dk P t (c.drop off)=some d)
  (h:ab P ops rest ⟨n,loc,(dst,d)::tmp⟩ st Q):ab P ops (⟨some dst,.load t ao,ty,p,a,g⟩::rest) ⟨n,loc,tmp⟩ st Q:=by
 refine ab.T nZ hg rfl (d:=d) (st1:=st) ?_ h;simp only[cU,ha,eF,St.mem_of hm,Option.bind_some,hd,Option.map_some]
theorem ab.next {io:Operand} {k pos:Nat} {b:List UInt8} (nZ:Nat.ble n dst=true) (hg:ax ops ⟨n,loc,tmp⟩ ⟨some dst,.next io true,ty,p,a,g⟩=some true) (hx:Fr.ev ⟨n,loc,tmp⟩ io=.ptr k 0 0) (hm:st.bs[k]?=some (.iter b pos)) (hp:pos<b.length) (hw:st.gV k 0=true)
  (h:ab P ops rest ⟨n,loc,(dst,.tup [.bool true,.int .i64 (pos:Nat),.int .i32 ((Utf8.decode ⟨b.toArray⟩ pos).1:Nat)])::tmp⟩ {st with bs:=st.bs.set k (.iter b (pos+(Utf8.decode ⟨b.toArray⟩ pos).2))} Q):ab P ops (⟨some dst,.next io true,ty,p,a,g⟩::rest) ⟨n,loc,tmp⟩ st Q:=by
 refine ab.T nZ hg rfl (d:=.tup [.bool true,.int .i64 (pos:Nat),.int .i32 ((Utf8.decode ⟨b.toArray⟩ pos).1:Nat)]) (st1:={st with bs:=st.bs.set k (.iter b (pos+(Utf8.decode ⟨b.toArray⟩ pos).2))}) ?_ h;simp only[cU,hx,mc,hm,if_pos hp,hw,if_true]
structure Ba (N k:Nat) (st ae:St):Prop where
 low:∀i,i<N→i≠k→ae.bs[i]?=st.bs[i]?
 len:st.bs.length≤ae.bs.length
 flr:ae.flr=st.flr
 ro:ae.ro=st.ro
theorem Ba.of {N k:Nat} {a b c:St} (h:Ba N k a b) (g:Ex N b c):Ba N k a c:=
 ⟨fun i hi hk=>(g.low i hi).trans (h.low i hi hk),Nat.le_trans h.len g.len,g.flr.trans h.flr,g.ro.trans h.ro⟩
theorem Ba.put {N k:Nat} {a b:St} (h:Ba N k a b) (bx:eZ):Ba N k a ⟨b.bs.set k bx,b.flr,b.ro⟩:=
 ⟨fun i hi hk=>by simp only;rw[List.getElem?_set_ne (fun e=>hk e.symm)];exact h.low i hi hk,by simp only[List.length_set];exact h.len,h.flr,h.ro⟩
theorem Ba.take {k:Nat} {a b:St} (h:Ba a.bs.length k a b) (hk:k<a.bs.length) {bx:eZ} (hb:b.bs[k]?=some bx):b.bs.take a.bs.length=a.bs.set k bx:=by
 apply List.ext_getElem?;intro i;rw[List.getElem?_take]
 by_cases hi:i<a.bs.length
 ·rw[if_pos hi]
  by_cases he:i=k
  ·subst he;rw[hb,List.getElem?_set_self hk]
  ·rw[h.low i hi he,List.getElem?_set_ne (fun e=>he e.symm)]
 ·rw[if_neg hi,List.getElem?_eq_none (by simp;omega)]
end Go.V
namespace Go.V
variable{P:Pv} {ops:Array Oper} {rest:List Oper} {n:Nat} {loc:List D} {tmp:List (Nat×D)} {st:St} {Q:Fr→St→Prop} {ty:TypeId} {p:String} {a:Array Edge} {g:Option (Nat×Bool)} {dst:Nat}
end Go.V
namespace Go.V
structure bB where
 K:Nat→Prop
 P:St→Prop
 loc:∀{st ae:St},(∀k,K k→ae.bs[k]?=st.bs[k]?)→P st→P ae
def bB.box (k:Nat) (b:eZ):bB:=⟨fun j=>j=k,fun st=>st.bs[k]?=some b,fun h p=>(h k rfl).trans p⟩
inductive ei (st:St) (s:Nat):D→List (List D)→Prop where
 |nul:ei st s .nul []
 |win (k aj off:Nat) (es:List (List D)) (c:List D) (hm:st.bs[k]?=some (.mem aj true c)) (hl:off+es.length*s≤c.length) (hc:(c.drop off).take (es.length*s)=es.flatten) (he:∀e∈es,e.length=s):ei st s (.win k aj off es.length s) es
theorem ei.move {st ae:St} {s:Nat} {x:D} {es:List (List D)} (h:∀k,x.ref=k+1→ae.bs[k]?=st.bs[k]?) (p:ei st s x es):ei ae s x es:=by
 cases p with
 |nul=>exact .nul
 |win k aj off es c hm hl hc he=>exact .win k aj off es c ((h k (by simp only[D.ref])).trans hm) hl hc he
def bB.aO (x:D) (s:Nat) (es:List (List D)):bB:=⟨fun j=>x.ref=j+1,fun st=>ei st s x es,fun h p=>ei.move h p⟩
theorem ei.py {st:St} {s:Nat} {x:D} {es:List (List D)} (p:ei st s x es):∀e∈es,e.length=s:=by
 cases p with
 |nul=>intro e he;cases he
 |win k aj off es c hm hl hc he=>exact he
theorem ei.rows {st:St} {s:Nat} {x:D} {es:List (List D)} (p:ei st s x es):Rows st s x es:=by
 cases p with
 |nul=>exact .nul
 |win k aj off es c hm hl hc he=>
  refine .win k aj off es true c (St.mem_of hm) hl fun i e hi=>?_
  have hil:i<es.length:=by
   rcases Nat.lt_or_ge i es.length with h'|h'
   ·exact h'
   ·rw[List.getElem?_eq_none h'] at hi;cases hi
  have h1:=gM he i e hi;rw[←hc,List.drop_take,List.take_take,List.drop_drop] at h1;have h2:(i+1)*s≤es.length*s:=Nat.mul_le_mul_right s hil;rw[Nat.add_mul,Nat.one_mul] at h2
  rwa [Nat.min_eq_left (by omega)] at h1
structure Has (N:Nat) (S st:St) (H:List bB):Prop where
 ex:Ex N S st
 hN:N≤S.bs.length
 dF:S.ro≤N
 ok:∀(i:Nat) e,H[i]?=some e→e.P st∧∀k,e.K k→N≤k∧k<st.bs.length
 dis:∀(i j:Nat) a b,i≠j→H[i]?=some a→H[j]?=some b→∀k,a.K k→b.K k→False
theorem Has.start {N:Nat} {S:St} (hN:N≤S.bs.length) (dF:S.ro≤N):Has N S S []:=
 ⟨Ex.refl _ _,hN,dF,fun i e h=>by simp at h,fun i j a b _ h=>by simp at h⟩
theorem Has.len {N:Nat} {S st:St} {H:List bB} (h:Has N S st H):S.bs.length≤st.bs.length:=h.ex.len
theorem Has.vF {N:Nat} {S st ae:St} {H:List bB} {j:Nat} {e e':bB} (h:Has N S st H) (hj:H[j]?=some e)
  (qZ:∀k,k<st.bs.length→¬e.K k→ae.bs[k]?=st.bs[k]?) (hlen:st.bs.length≤ae.bs.length) (hf:ae.flr=st.flr) (hr:ae.ro=st.ro)
  (hP:e'.P ae) (hK:∀k,e'.K k→e.K k∨st.bs.length≤k) (IC:∀k,e'.K k→k<ae.bs.length):Has N S ae (H.set j e'):=by
 have gp:j<H.length:=by
  rcases Nat.lt_or_ge j H.length with h'|h'
  ·exact h'
  ·rw[List.getElem?_eq_none h'] at hj;cases hj
 have hl:=h.ex.len;have hN:=h.hN;refine⟨⟨fun k hk=>?_,Nat.le_trans hl hlen,hf.trans h.ex.flr,hr.trans h.ex.ro⟩,h.hN,h.dF,fun i e0 hi=>?_,fun i i' a b hii ha hb k pP fL=>?_⟩
 ·rw[qZ k (by omega) fun i_=>by have:=((h.ok j e hj).2 k i_).1;omega];exact h.ex.low k hk
 ·by_cases hij:i=j
  ·subst hij;rw[List.getElem?_set_self gp] at hi;cases hi;refine⟨hP,fun k hk=>⟨?_,IC k hk⟩⟩
   rcases hK k hk with h1|h1
   ·exact((h.ok i e hj).2 k h1).1
   ·omega
  ·rw[List.getElem?_set_ne (fun e=>hij e.symm)] at hi;obtain⟨h1,h2⟩:=h.ok i e0 hi;refine⟨e0.loc (fun k hk=>qZ k (h2 k hk).2 fun i_=>h.dis i j e0 e hij hi hj k hk i_) h1,fun k hk=>⟨(h2 k hk).1,Nat.lt_of_lt_of_le (h2 k hk).2 hlen⟩⟩
 ·have key:∀i a,i≠j→(H.set j e')[i]?=some a→a.K k→e'.K k→False:=by
   intro i a hij ha pP NU;rw[List.getElem?_set_ne (fun e=>hij e.symm)] at ha
   rcases hK k NU with h1|h1
   ·exact h.dis i j a e hij ha hj k pP h1
   ·have:=((h.ok i a ha).2 k pP).2;omega
  by_cases hij:i=j
  ·subst hij;have dJ:=hb;rw[List.getElem?_set_self gp] at ha;cases ha;exact key i' b (fun e=>hii e.symm) hb fL pP
  ·by_cases Hb:i'=j
   ·subst Hb;rw[List.getElem?_set_self gp] at hb;cases hb;exact key i a hij ha pP fL
   ·rw[List.getElem?_set_ne (fun e=>hij e.symm)] at ha;rw[List.getElem?_set_ne (fun e=>Hb e.symm)] at hb;exact h.dis i i' a b hii ha hb k pP fL
theorem Has.add {N:Nat} {S st ae:St} {H:List bB} {e':bB} (h:Has N S st H)
  (qZ:∀k,k<st.bs.length→ae.bs[k]?=st.bs[k]?) (hlen:st.bs.length≤ae.bs.length) (hf:ae.flr=st.flr) (hr:ae.ro=st.ro)
  (hP:e'.P ae) (hK:∀k,e'.K k→st.bs.length≤k∧k<ae.bs.length):Has N S ae (e'::H):=by
 have hl:=h.ex.len;have hN:=h.hN;refine⟨⟨fun k hk=>?_,Nat.le_trans hl hlen,hf.trans h.ex.flr,hr.trans h.ex.ro⟩,h.hN,h.dF,fun i e0 hi=>?_,fun i i' a b hii ha hb k pP fL=>?_⟩
 ·rw[qZ k (by omega)];exact h.ex.low k hk
 ·cases i with
  |zero=>
   simp only[List.getElem?_cons_zero,Option.some.injEq] at hi;subst hi;exact⟨hP,fun k hk=>⟨by have:=(hK k hk).1;omega,(hK k hk).2⟩⟩
  |succ i=>
   rw[List.getElem?_cons_succ] at hi;obtain⟨h1,h2⟩:=h.ok i e0 hi;exact⟨e0.loc (fun k hk=>qZ k (h2 k hk).2) h1,fun k hk=>⟨(h2 k hk).1,Nat.lt_of_lt_of_le (h2 k hk).2 hlen⟩⟩
 ·cases i with
  |zero=>
   simp only[List.getElem?_cons_zero,Option.some.injEq] at ha;subst ha
   cases i' with
   |zero=>exact hii rfl
   |succ i'=>
    rw[List.getElem?_cons_succ] at hb;have:=((h.ok i' b hb).2 k fL).2;have:=(hK k pP).1;omega
  |succ i=>
   rw[List.getElem?_cons_succ] at ha
   cases i' with
   |zero=>
    simp only[List.getElem?_cons_zero,Option.some.injEq] at hb;subst hb;have:=((h.ok i a ha).2 k pP).2;have:=(hK k fL).1;omega
   |succ i'=>
    rw[List.getElem?_cons_succ] at hb;exact h.dis i i' a b (fun e=>hii (by rw[e])) ha hb k pP fL
theorem Has.sub {N:Nat} {S st:St} {H H':List bB} (h:Has N S st H) (f:Nat→Nat) (hf:∀i j,f i=f j→i=j) (hs:∀i e,H'[i]?=some e→H[f i]?=some e):Has N S st H':=
 ⟨h.ex,h.hN,h.dF,fun i e hi=>h.ok _ e (hs i e hi),fun i j a b hij ha hb=>h.dis (f i) (f j) a b (fun e=>hij (hf i j e)) (hs i a ha) (hs j b hb)⟩
theorem Has.erase {N:Nat} {S st:St} {H:List bB} (h:Has N S st H) (j:Nat):Has N S st (H.eraseIdx j):=by
 refine h.sub (fun i=>if i<j then i else i+1) (fun a b e=>?_) fun i e hi=>?_
 ·show a=b;have e':(if a<j then a else a+1)=(if b<j then b else b+1):=e
  split at e'<;>split at e'<;>omega
 ·show H[if i<j then i else i+1]?=some e;rw[List.getElem?_eraseIdx] at hi
  split at hi<;>rename_i h'<;>simp[h',hi]
theorem Has.take {N:Nat} {S st:St} {H:List bB} (h:Has N S st H) (n:Nat):Has N S st (H.take n):=by
 refine h.sub id (fun a b e=>e) fun i e hi=>?_;rw[List.getElem?_take] at hi;split at hi;exact hi;cases hi
theorem Has.drop {N:Nat} {S st:St} {H:List bB} (h:Has N S st H) (n:Nat):Has N S st (H.drop n):=by
 refine h.sub (fun i=>n+i) (fun a b e=>by omega) fun i e hi=>?_;rw[List.getElem?_drop] at hi;exact hi
theorem Has.back {N:Nat} {S st:St} {H:List bB} {j:Nat} {e:bB} (h:Has N S st (e::H.eraseIdx j)) (hj:j<H.length):Has N S st (H.set j e):=by
 refine h.sub (fun i=>if i=j then 0 else if i<j then i+1 else i) (fun a b e=>?_) fun i e' hi=>?_
 ·have e':(if a=j then 0 else if a<j then a+1 else a)=(if b=j then 0 else if b<j then b+1 else b):=e
  repeat' split at e'
  all_goals omega
 ·show(e::H.eraseIdx j)[if i=j then 0 else if i<j then i+1 else i]?=some e'
  by_cases hij:i=j
  ·subst hij;rw[List.getElem?_set_self hj] at hi;rw[if_pos rfl];simpa using hi
  ·rw[List.getElem?_set_ne (fun e=>hij e.symm)] at hi;rw[if_neg hij]
   by_cases hlt:i<j
   ·rw[if_pos hlt,List.getElem?_cons_succ,List.getElem?_eraseIdx,if_pos hlt];exact hi
   ·rw[if_neg hlt]
    obtain⟨i',rfl⟩:∃i',i=i'+1:=⟨i-1,by omega⟩
    rw[List.getElem?_cons_succ,List.getElem?_eraseIdx,if_neg (by omega)];exact hi
theorem Has.hQ {N:Nat} {S st:St} {H:List bB} (h:Has N S st H) (s:Nat):Has N S st (.aO .nul s []::H):=
 h.add (fun _ _=>rfl) (Nat.le_refl _) rfl rfl .nul fun k hk=>by simp only[bB.aO,D.ref] at hk;omega
theorem Has.own {N:Nat} {S st:St} {H:List bB} (h:Has N S st H) {j:Nat} {x:D} {s:Nat} {es:List (List D)} (hj:H[j]?=some (.aO x s es)):ei st s x es:=(h.ok j _ hj).1
theorem Has.rows {N:Nat} {S st:St} {H:List bB} (h:Has N S st H) {j:Nat} {x:D} {s:Nat} {es:List (List D)} (hj:H[j]?=some (.aO x s es)):Rows st s x es:=(h.own hj).rows
theorem Has.at {N:Nat} {S st:St} {H:List bB} (h:Has N S st H) {j k:Nat} {b:eZ} (hj:H[j]?=some (.box k b)):st.bs[k]?=some b:=(h.ok j _ hj).1
theorem Has.ge {N:Nat} {S st:St} {H:List bB} (h:Has N S st H) {j k:Nat} {b:eZ} (hj:H[j]?=some (.box k b)):N≤k∧k<st.bs.length:=(h.ok j _ hj).2 k rfl
def Arg (N:Nat) (S:St) (s:Nat) (x:D) (es:List (List D)):Prop:=Rows S s x es∧x.ref≤N
theorem Arg.rows {N:Nat} {S st:St} {H:List bB} {s:Nat} {x:D} {es:List (List D)} (hx:Arg N S s x es) (h:Has N S st H):Rows st s x es:=hx.1.ex h.ex hx.2
theorem Arg.of {st S:St} {s:Nat} {x:D} {es:List (List D)} (hx:Rows st s x es) (hS:S.bs=st.bs):Arg st.bs.length S s x es:=⟨hx.bs hS,hx.ref⟩
theorem Arg.pure {N:Nat} {S:St} {s:Nat} {es:List D} {rs:List (List D)} (hx:∀st,Rows st s (.sl es) rs):Arg N S s (.sl es) rs:=⟨hx S,by simp[D.ref]⟩
theorem gx {N:Nat} {S st:St} {H:List bB} (h:Has N S st H) {k:Nat} {cs:List D} (hk:N≤k) (hw:S.flr≤N∨refs cs=0):st.gV k (refs cs)=true:=by
 have h1:=h.ex.ro;have h2:=h.ex.flr;have h3:=h.dF;simp only[St.gV,Bool.and_eq_true,Bool.or_eq_true,decide_eq_true_eq];refine⟨by omega,?_⟩
 rcases hw with hw|hw
 ·exact .inl (by omega)
 ·exact .inr (.inl (by omega))
theorem Has.Bf {N:Nat} {S st:St} {H:List bB} (h:Has N S st H) {j k aj:Nat} {b b':eZ} (hj:H[j]?=some (.box k b)):Has N S ⟨st.bs.set k b',st.flr,st.ro⟩ (H.set j (.box k b')):=by
 have hk:=(h.ge hj).2;refine h.vF hj (fun i hi hne=>?_) (by simp) rfl rfl ?_ (fun i hi=>.inl hi) fun i hi=>?_
 ·simp only;rw[List.getElem?_set_ne (fun e=>hne e.symm)]
 ·show(st.bs.set k b')[k]?=_;rw[List.getElem?_set_self hk]
 ·cases hi;simpa using hk
theorem Has.rN {N:Nat} {S st:St} {H:List bB} (h:Has N S st H) (b:eZ):Has N S (st.push b) (.box st.bs.length b::H):=by
 refine h.add (fun i hi=>?_) (by simp[St.push]) rfl rfl ?_ fun i hi=>?_
 ·simp only[St.push];rw[List.getElem?_append_left hi]
 ·exact nc st b
 ·cases hi;simp[St.push]
theorem Has.rM {N:Nat} {S st:St} {H:List bB} (h:Has N S st H) {s:Nat} {es:List (List D)} {cs:List D} {m:Nat} (hm:es.length=m) (hc:es.flatten=cs) (he:∀e∈es,e.length=s):Has N S (st.push (.mem 0 true cs)) (.aO (.win st.bs.length 0 0 m s) s es::H):=by
 subst hm hc;refine h.add (fun i hi=>?_) (by simp[St.push]) rfl rfl ?_ fun i hi=>?_
 ·simp only[St.push];rw[List.getElem?_append_left hi]
 ·have jb:=bJ he;exact ei.win _ 0 0 es es.flatten (nc st _) (by rw[jb];omega) (by rw[List.drop_zero,←jb,List.take_length]) he
 ·simp only[bB.aO,D.ref] at hi;simp only[St.push,List.length_append,List.length_cons,List.length_nil];omega
theorem f':∀(xs c:List D) (off:Nat),(setMany c off xs).length=c.length
 |[],c,off=>rfl
 |x::xs,c,off=>by simp only[setMany];rw[f' xs];simp
theorem j6 {s:Nat}:∀{es:List (List D)} {i:Nat} {e e':List D},(∀e∈es,e.length=s)→es[i]?=some e→e'.length=s→(es.set i e').flatten=es.flatten.take (i*s)++e'++es.flatten.drop (i*s+s)
 |[],i,e,e',_,hi,_=>by simp at hi
 |x::es,0,e,e',h,hi,he=>by
  simp at hi;subst hi;have:=h x (List.mem_cons_self ..);simp[List.set_cons_zero,List.drop_left' this]
 |x::es,i+1,e,e',h,hi,he=>by
  have hx:=h x (List.mem_cons_self ..);have ih:=j6 (s:=s) (es:=es) (i:=i) (e:=e) (e':=e') (fun y hy=>h y (List.mem_cons_of_mem _ hy)) (by simpa using hi) he;rw[List.set_cons_succ,List.flatten_cons,ih,List.flatten_cons,Nat.add_mul,Nat.one_mul,Nat.add_comm (i*s) s,←hx,List.take_length_add_append,Nat.add_assoc,List.drop_length_add_append];simp only[List.append_assoc];rw[Nat.add_comm (i*x.length) x.length]
theorem Has.wa {N:Nat} {S st:St} {H:List bB} (h:Has N S st H) {j k aj off len s:Nat} {es:List (List D)} {i o:Nat} {e cs:List D} (hj:H[j]?=some (.aO (.win k aj off len s) s es)) (hi:es[i]?=some e) (hl:o+cs.length≤s) (hw:S.flr≤N∨refs cs=0):
  ∃ae,st.wr k aj (off+i*s+o) cs=some ae∧Has N S ae (H.set j (.aO (.win k aj off len s) s (es.set i (setMany e o cs)))):=by
 have hk:=(h.ok j _ hj).2 k (by simp only[bB.aO,D.ref]);have hown:=h.own hj
 cases hown with
 |win k aj off es c hm hle hc he=>
  have hil:i<es.length:=by
   rcases Nat.lt_or_ge i es.length with h'|h'
   ·exact h'
   ·rw[List.getElem?_eq_none h'] at hi;cases hi
  have pf:=he e (List.mem_of_getElem? hi);have h2:(i+1)*s≤es.length*s:=Nat.mul_le_mul_right s hil;rw[Nat.add_mul,Nat.one_mul] at h2;refine⟨_,jd hm (by omega) (gx h hk.1 hw),?_⟩;refine h.vF hj (fun n hn hne=>?_) (by simp) rfl rfl ?_ (fun n hn=>.inl hn) fun n hn=>?_
  ·simp only;rw[List.getElem?_set_ne (fun e=>hne (by simp only[bB.aO,D.ref];omega))]
  ·have uQ:∀e'∈es.set i (setMany e o cs),e'.length=s:=by
    intro e' lQ
    rcases List.mem_or_eq_of_mem_set lQ with h'|h'
    ·exact he e' h'
    ·rw[h',f'];exact pf
   have jb:es.flatten.length=es.length*s:=bJ he;have:=ei.win (st:=⟨st.bs.set k (.mem aj true (c.take (off+i*s+o)++cs++c.drop (off+i*s+o+cs.length))),st.flr,st.ro⟩) (s:=s) k aj off (es.set i (setMany e o cs)) (c.take (off+i*s+o)++cs++c.drop (off+i*s+o+cs.length))
    (by simp only;rw[List.getElem?_set_self hk.2]) (by simp;omega) ?_ uQ
   ·rw[List.length_set] at this;exact this
   ·rw[List.length_set,j6 he hi (by rw[f'];exact pf),dC cs e o (by omega)]
    have e1:(c.take (off+i*s+o)++cs++c.drop (off+i*s+o+cs.length)).drop off=(c.drop off).take (i*s+o)++cs++(c.drop off).drop (i*s+o+cs.length):=by
     rw[List.append_assoc,List.drop_append_of_le_length (by simp;omega),List.drop_take,List.append_assoc,List.drop_drop]
     congr 3<;>omega
    rw[e1]
    have e2:(c.drop off).take (i*s+o)=es.flatten.take (i*s)++e.take o:=by
     have:(c.drop off).take (i*s+o)=es.flatten.take (i*s+o):=by
      rw[←hc,List.take_take,Nat.min_eq_left (by omega)]
     rw[this,List.take_add]
     congr 1
     have:=gM he i e hi;rw[←this,List.take_take,Nat.min_eq_left (by omega)]
    have e3:(List.drop (i*s+o+cs.length) (c.drop off)).take (es.length*s-(i*s+o+cs.length))=e.drop (o+cs.length)++es.flatten.drop (i*s+s):=by
     have:(List.drop (i*s+o+cs.length) (c.drop off)).take (es.length*s-(i*s+o+cs.length))=es.flatten.drop (i*s+o+cs.length):=by
      rw[←hc,List.drop_take]
     rw[this];have h4:=gM he i e hi;rw[←h4,List.drop_take];have:es.flatten.drop (i*s+o+cs.length)=(es.flatten.drop (i*s+o+cs.length)).take (s-(o+cs.length))++(es.flatten.drop (i*s+o+cs.length)).drop (s-(o+cs.length)):=(List.take_append_drop ..).symm;rw[this,List.drop_drop,List.drop_drop]
     congr 2
     ·congr 1;omega
     ·omega
    rw[e2]
    have A5:(es.flatten.take (i*s)++e.take o++cs).length=i*s+o+cs.length:=by
     simp only[List.length_append,List.length_take,jb,pf];omega
    rw[List.take_append,A5,e3,List.take_of_length_le (by rw[A5];omega)];simp[List.append_assoc]
  ·simp only[bB.aO,D.ref] at hn;simp only[List.length_set];omega
end Go.V
namespace Go.V
theorem aC {α:Type} {a:α} {l:List α}:(a::l)[0]?=some a:=rfl
theorem a6 {α:Type} {a b:α} {l:List α}:(a::b::l)[1]?=some b:=rfl
theorem dI {α:Type} {a b c:α} {l:List α}:(a::b::c::l)[2]?=some c:=rfl
theorem ef {α:Type} {a b c d:α} {l:List α}:(a::b::c::d::l)[3]?=some d:=rfl
theorem j8 {α:Type} {a b c d e:α} {l:List α}:(a::b::c::d::e::l)[4]?=some e:=rfl
theorem rq {α:Type} {a b c d e f:α} {l:List α}:(a::b::c::d::e::f::l)[5]?=some f:=rfl
theorem FN {α:Type} {a b c d e f g:α} {l:List α}:(a::b::c::d::e::f::g::l)[6]?=some g:=rfl
theorem KL {α:Type} {a b c d e f g h:α} {l:List α}:(a::b::c::d::e::f::g::h::l)[7]?=some h:=rfl
def rT (t:Nat):List (Nat×D)→Option D
 |[]=>none
 |(u,d)::l=>match Nat.beq t u with
  |true=>some d
  |false=>rT t l
def ur:Value→Option D
 | .int k n=>some (.int k n)
 | .bool b=>some (.bool b)
 | .string s=>some (.str s.data.toList)
 | .slice none 0 0=>some .nul
 | .pointer none=>some .pnil
 | .nilFunc=>some .nilfn
 | .nilIface=>some .nilif
 |_=>none
def Fr.LZ (f:Fr):Operand→Option D
 | .tmp t=>match Nat.ble f.n t with
  |false=>f.loc[t]?
  |true=>rT t f.tmp
 | .const v=>ur v
 | .func g=>some (.fn g [])
 | .global _=>none
theorem kX {t:Nat} {d:D}:∀{l:List (Nat×D)},rT t l=some d→look t l=d
 |(u,e)::l,h=>by
  unfold rT at h;unfold look
  split at h
  ·rename_i hb;cases h;simp only[hb]
  ·rename_i hb;simp only[hb];exact kX h
theorem rQ {d e:D}:∀{l:List D} {i:Nat},l[i]?=some d→nth e l i=d
 |x::l,0,h=>by simpa[nth] using h
 |x::l,i+1,h=>by rw[List.getElem?_cons_succ] at h;exact rQ (l:=l) h
 |[],i,h=>by simp at h
theorem ev {fr:Fr} {o:Operand} {d:D} (h:fr.LZ o=some d):fr.ev o=d:=by
 unfold Fr.LZ at h;unfold Fr.ev
 split at h
 ·unfold Fr.get
  split at h
  ·rename_i hb;simp only[hb];exact rQ h
  ·rename_i hb;simp only[hb];exact kX h
 ·unfold ur at h
  split at h<;>cases h<;>rfl
 ·cases h;rfl
 ·cases h
def fR (st:St) (p:D) (r:List D):Prop:=
 (∃k aj off ar c,p=.ptr k aj off∧st.cP k aj=some (ar,c)∧(c.drop off).take r.length=r)∨∃c,p=.ep c∧c.take r.length=r
def l0 (x:D) (s:Nat) (i o:Nat) (p:D):Prop:=∃k aj off len,x=.win k aj off len s∧p=.ptr k aj (off+i*s+o)
theorem gD {P:Pv} {t:TypeId} {r c:List D} {d:D} (hc:c.take r.length=r) (h:dk P t r=some d):dk P t c=some d:=by
 have hlen:r.length≤c.length:=by have:=congrArg List.length hc;simp at this;omega
 unfold dk at h⊢
 cases hu:P.bX t with
 |none=>rw[hu] at h;cases h
 |some u=>
  rw[hu] at h;have key:∀n,n≤r.length→c.take n=r.take n:=fun n hn=>by rw[←hc,List.take_take,Nat.min_eq_left hn]
  cases u with
  |struct f=>
   simp only at h⊢
   cases hs:bu P t with
   |none=>rw[hs] at h;cases h
   |some n=>
    rw[hs] at h;simp only[Option.bind_some] at h⊢
    split at h
    ·rename_i hn;rw[if_pos (by omega),key n hn];exact h
    ·cases h
  |array m f=>
   simp only at h⊢
   cases hs:bu P t with
   |none=>rw[hs] at h;cases h
   |some n=>
    rw[hs] at h;simp only[Option.bind_some] at h⊢
    split at h
    ·rename_i hn;rw[if_pos (by omega),key n hn];exact h
    ·cases h
  |_=>
   simp only at h⊢
   cases r with
   |nil=>cases h
   |cons y r=>
    cases c with
    |nil=>simp at hlen
    |cons z c=>
     simp only[List.length_cons,List.take_succ_cons,List.cons.injEq] at hc;rw[←h];simp[hc.1]
theorem fR.load {P:Pv} {st:St} {p:D} {r:List D} (h:fR st p r) {t:TypeId} {d:D} (hd:dk P t r=some d):eF P t p st=some d:=by
 rcases h with⟨k,aj,off,ar,c,rfl,hm,hc⟩|⟨c,rfl,hc⟩
 ·simp only[eF,hm,Option.bind_some];exact gD hc hd
 ·simp only[eF];exact gD hc hd
theorem fR.field {P:Pv} {st:St} {p:D} {r:List D} (h:fR st p r) {t:TypeId} {fields:Array Field} {f:Nat} {fd:Field} {m:Nat} (ht:P.bX t=some (.struct fields)) (hf:fields[f]?=some fd) (hm:bu P fd.type=some m) (ku:m≠0):
  ∃p',cL P t p f=some p'∧fR st p' (r.drop fd.offset):=by
 have key:∀c:List D,c.take r.length=r→(c.drop fd.offset).take (r.drop fd.offset).length=r.drop fd.offset:=by
  intro c hc;rw[List.length_drop,←List.drop_take,hc]
 rcases h with⟨k,aj,off,ar,c,rfl,Jg,hc⟩|⟨c,rfl,hc⟩
 ·refine⟨.ptr k aj (off+fd.offset),?_,.inl ⟨k,aj,off+fd.offset,ar,c,rfl,Jg,?_⟩⟩
  ·simp only[cL,ht,hf,Option.bind_some,hm];rw[if_neg (by simp only[Option.some.injEq];exact ku)]
  ·rw[←List.drop_drop];exact key _ hc
 ·refine⟨.ep (c.drop fd.offset),?_,.inr ⟨_,rfl,key _ hc⟩⟩;simp only[cL,ht,hf,Option.bind_some,hm];rw[if_neg (by simp only[Option.some.injEq];exact ku)]
theorem Rows.Ic {P:Pv} {st:St} {s:Nat} {x:D} {es:List (List D)} (h:Rows st s x es) {t e:TypeId} (ht:P.bX t=some (.slice e)) (hs:bu P e=some s) {k:IntKind} {i:Nat} {r:List D} (hi:es[i]?=some r):
  ∃p,bF P t x (.int k (i:Nat)) st=some p∧fR st p r:=by
 have pN:=h.py _ _ hi
 cases h with
 |nul=>simp at hi
 |sl es h=>
  rw[List.getElem?_map] at hi;obtain⟨d,hd,rfl⟩:=Option.map_eq_some_iff.1 hi;obtain⟨h1,h2⟩:=h d (List.mem_of_getElem? hd);refine⟨.ep d.cells,?_,.inr ⟨_,rfl,List.take_length ..⟩⟩;simp only[bF,ht,hs,Option.bind_some,if_pos (show(0:Int)≤(i:Nat) by omega),Int.toNat_natCast,hd,h1,if_pos h2]
 |win k aj off es ar c hm hl he=>
  have hlt:i<es.length:=by
   rcases Nat.lt_or_ge i es.length with h'|h'
   ·exact h'
   ·rw[List.getElem?_eq_none h'] at hi;cases hi
  refine⟨.ptr k aj (off+i*s),?_,.inl ⟨k,aj,_,ar,c,rfl,hm,by rw[pN];exact he _ _ hi⟩⟩;simp only[bF,ht,hs,Option.bind_some,hm,Option.isSome_some];rw[if_pos ⟨trivial,by omega,by omega,trivial⟩];rfl
variable{P:Pv} {ops:Array Oper} {rest:List Oper} {fr az:Fr} {st:St} {Q:Fr→St→Prop} {ty:TypeId} {pp:String} {a:Array Edge} {g:Option (Nat×Bool)} {dst:Nat} {N:Nat} {S:St} {H:List bB}
theorem ab.go {op:Op} {d:D} {st1:St} (hg:ax ops fr ⟨some dst,op,ty,pp,a,g⟩=some true) (hc:fI op=false) (h1:cU P fr st op ty=some (d,st1)) (hp:fr.put dst d=az)
  (h:ab P ops rest az st1 Q):ab P ops (⟨some dst,op,ty,pp,a,g⟩::rest) fr st Q:=
 ab.op hg hc h1 (by show ab P ops rest (fr.put dst d) st1 Q;rw[hp];exact h)
theorem ab.A4 {j k aj off:Nat} {ar:Bool} {c:List D} {d:D} {t:TypeId} {ao:Operand} (hH:Has N S st H) (hg:ax ops fr ⟨some dst,.load t ao,ty,pp,a,g⟩=some true) (ha:fr.ev ao=.ptr k aj off) (hj:H[j]?=some (.box k (.mem aj ar c))) (hd:dk P t (c.drop off)=some d) (hp:fr.put dst d=az)
  (h:ab P ops rest az st Q):ab P ops (⟨some dst,.load t ao,ty,pp,a,g⟩::rest) fr st Q:=by
 refine ab.go hg rfl (d:=d) (st1:=st) ?_ hp h;simp only[cU,ha,eF,St.mem_of (hH.at hj),Option.bind_some,hd,Option.map_some]
theorem ab.ib {j k aj off:Nat} {ar:Bool} {c cs:List D} {v:D} {t:TypeId} {ao vo:Operand} (hH:Has N S st H) (hg:ax ops fr ⟨none,.store t ao vo,ty,pp,a,g⟩=some true) (ha:fr.ev ao=.ptr k aj off) (hv:fr.ev vo=v) (fM:v.cells?=some cs) (hs:bu P t=some cs.length) (hj:H[j]?=some (.box k (.mem aj ar c))) (hl:off+cs.length≤c.length) (hw:S.flr≤N∨refs cs=0)
  (h:∀ae,Has N S ae (H.set j (.box k (.mem aj ar (setMany c off cs))))→ab P ops rest fr ae Q):ab P ops (⟨none,.store t ao vo,ty,pp,a,g⟩::rest) fr st Q:=by
 refine ab.N hg rfl (d:=.tup []) (st1:=⟨st.bs.set k (.mem aj ar (setMany c off cs)),st.flr,st.ro⟩) ?_ (h _ (hH.Bf (aj:=aj) hj));simp only[cU,ha,hv,gZ,fM,hs,if_pos trivial];rw[jd (hH.at hj) hl (gx hH (hH.ge hj).1 hw),dC _ _ _ hl];rfl
theorem ab.Fc {e:TypeId} {cs:List D} {az:Nat→Fr} (hH:Has N S st H) (hg:ax ops fr ⟨some dst,.alloc e,ty,pp,a,g⟩=some true) (hz:b_ P e=some cs) (hp:∀k,fr.put dst (.ptr k 0 0)=az k)
  (h:∀k ae,S.bs.length≤k→Has N S ae (.box k (.mem 0 false cs)::H)→ab P ops rest (az k) ae Q):ab P ops (⟨some dst,.alloc e,ty,pp,a,g⟩::rest) fr st Q:=by
 refine ab.go hg rfl (d:=.ptr st.bs.length 0 0) (st1:=st.push (.mem 0 false cs)) ?_ (hp _) (h _ _ hH.len (hH.rN _));simp only[cU,hz,Option.map_some]
theorem ab.tj {e:TypeId} {xo:Operand} {cs:List D} {az:Nat→Fr} (hH:Has N S st H) (hg:ax ops fr ⟨some dst,.box e xo,ty,pp,a,g⟩=some true) (hz:(fr.ev xo).cells?=some cs) (hp:∀k,fr.put dst (.ptr k 0 0)=az k)
  (h:∀k ae,S.bs.length≤k→Has N S ae (.box k (.mem 0 false cs)::H)→ab P ops rest (az k) ae Q):ab P ops (⟨some dst,.box e xo,ty,pp,a,g⟩::rest) fr st Q:=by
 refine ab.go hg rfl (d:=.ptr st.bs.length 0 0) (st1:=st.push (.mem 0 false cs)) ?_ (hp _) (h _ _ hH.len (hH.rN _));simp only[cU,hz,Option.map_some]
theorem ab.rY {t e:TypeId} {lo co:Operand} {k1 k2:IntKind} {m:Nat} {inf:TypeInfo} {z:List D} {s:Nat} {az:Nat→Fr} (hH:Has N S st H) (hg:ax ops fr ⟨some dst,.makeSlice t lo co,ty,pp,a,g⟩=some true)
  (hl:fr.ev lo=.int k1 (m:Nat)) (hc:fr.ev co=.int k2 (m:Nat)) (ht:P.bX t=some (.slice e)) (hi:P.info e=some inf) (hz:b_ P e=some z) (hsz:inf.size=s) (gL:z.length=s) (NP:inf.bytes≤1024) (ku:m≤1073741824) (hp:∀k,fr.put dst (.win k 0 0 m s)=az k)
  (h:∀k ae,S.bs.length≤k→Has N S ae (.aO (.win k 0 0 m s) s (List.replicate m z)::H)→ab P ops rest (az k) ae Q):ab P ops (⟨some dst,.makeSlice t lo co,ty,pp,a,g⟩::rest) fr st Q:=by
 have hm:m*inf.bytes≤140737488355328:=Nat.le_trans (Nat.mul_le_mul ku NP) (by decide);subst hsz;refine ab.go hg rfl (d:=.win st.bs.length 0 0 m inf.size) (st1:=st.push (.mem 0 true (cO m z))) ?_ (hp _) (h _ _ hH.len (hH.rM (by simp) rfl (fun e he=>by rw[List.eq_of_mem_replicate he];exact gL)));simp only[cU,hl,hc,dE,ht,hi,hz,Option.bind_some];rw[if_pos ⟨gL,by omega,by omega,by omega,by rw[←Int.natCast_mul];omega⟩]
 rfl
theorem Has.append {j:Nat} {x y:D} {s:Nat} {es ys:List (List D)} (hH:Has N S st H) (hj:H[j]?=some (.aO x s es)) (hy:Rows st s y ys) {t1 t2 e:TypeId} {td:TypeDesc} {inf:TypeInfo} {z:List D}
  (h1:P.bX t1=some (.slice e)) (h2:P.bX t2=some td) (h3:eH td=false) (h4:P.info e=some inf) (h5:b_ P e=some z) (h6:inf.size=s) (h7:z.length=s) (h8:0<inf.bytes∧inf.bytes≤1024)
  (nZ:es.length+ys.length≤1073741824) (hw:S.flr≤N∨refs ys.flatten=0):
  ∃x' ae,aU P .append [t1,t2] [x,y] st=some (x',ae)∧Has N S ae (H.set j (.aO x' s (es++ys)))∧(ys=[]→x'=x):=by
 have hb:(es.length+ys.length)*inf.bytes≤1099511627776:=Nat.le_trans (Nat.mul_le_mul nZ h8.2) (by decide);have gR:=hy.row
 have vJ:∀e∈ys,e.length=s:=fun e he=>by
  obtain⟨i,hi⟩:=List.getElem?_of_mem he;exact hy.py i e hi
 have jb:=bJ vJ;have hown:=hH.own hj;have hkk:=(hH.ok j _ hj).2;have hS:=hH.len;have Qu:=hH.hN;subst h6;simp only[aU,eT,h1,h2,h3,Bool.false_eq_true,if_false,h4,h5,gR,Option.bind_some];rw[if_neg (by rintro(h|h|h);exact h jb;exact absurd h (by omega);exact h h7)]
 have ic:∀e,H[j]?=some e→H.set j e=H:=fun e he=>by
  apply List.ext_getElem?;intro i
  by_cases hij:i=j
  ·subst hij
   have:i<H.length:=by
    rcases Nat.lt_or_ge i H.length with h'|h'
    ·exact h'
    ·rw[List.getElem?_eq_none h'] at he;cases he
   rw[List.getElem?_set_self this,he]
  ·rw[List.getElem?_set_ne (fun e=>hij e.symm)]
 cases hown with
 |nul=>
  simp only[List.nil_append]
  by_cases h0:ys.length=0
  ·rw[if_pos h0]
   have:ys=[]:=by cases ys with|nil=>rfl|cons _ _=>simp at h0
   subst this;exact⟨.nul,st,rfl,by rw[ic _ hj];exact hH,fun _=>rfl⟩
  ·rw[if_neg h0,if_pos (by simpa using hb)];refine⟨_,_,rfl,?_,fun e=>absurd (by rw[e];rfl) h0⟩;refine hH.vF hj (fun k hk _=>by simp only[St.push];rw[List.getElem?_append_left hk]) (by simp[St.push]) rfl rfl ?_ (fun k hk=>?_) fun k hk=>?_
   ·exact ei.win _ 0 0 ys ys.flatten (nc st _) (by rw[jb];omega) (by rw[List.drop_zero,←jb,List.take_length]) vJ
   ·simp only[bB.aO,D.ref] at hk;right;omega
   ·simp only[bB.aO,D.ref] at hk;simp only[St.push,List.length_append,List.length_cons,List.length_nil];omega
 |win k aj off es c hm hl hc he=>
  have hk:=hkk k (by simp only[bB.aO,D.ref]);simp only[St.mem_of hm];rw[if_neg (by rintro(h|h);exact h rfl;omega)]
  by_cases h0:ys.length=0
  ·rw[if_pos h0]
   have:ys=[]:=by cases ys with|nil=>rfl|cons _ _=>simp at h0
   subst this;simp only[List.append_nil];exact⟨_,st,rfl,by rw[ic _ hj];exact hH,fun _=>rfl⟩
  ·rw[if_neg h0,if_pos ⟨hb,gx hH hk.1 hw⟩];refine⟨_,_,rfl,?_,fun e=>absurd (by rw[e];rfl) h0⟩;have vM:es.length+ys.length=(es++ys).length:=by simp
   have Hl:(c.take (off+es.length*inf.size)).drop off=es.flatten:=by rw[List.drop_take,←hc];congr 1;omega
   rw[vM,Hl];refine hH.vF hj (fun n hn hne=>by simp only;rw[List.getElem?_set_ne (fun e=>hne (by simp only[bB.aO,D.ref];omega))]) (by simp) rfl rfl ?_ (fun n hn=>?_) fun n hn=>?_
   ·have pf:∀e∈es++ys,e.length=inf.size:=fun e h=>by
     rcases List.mem_append.1 h with h|h
     ·exact he e h
     ·exact vJ e h
    have Hd:=bJ pf;refine ei.win k (aj+1) 0 (es++ys) (es++ys).flatten ?_ (by rw[Hd];omega) (by rw[List.drop_zero,←Hd,List.take_length]) pf;simp only;rw[List.getElem?_set_self hk.2,List.flatten_append]
   ·simp only[bB.aO,D.ref] at hn⊢;left;omega
   ·simp only[bB.aO,D.ref] at hn;simp only[List.length_set];omega
theorem ab.bk {j:Nat} {x y:D} {s:Nat} {es ys:List (List D)} {t1 t2 e:TypeId} {td:TypeDesc} {inf:TypeInfo} {z:List D} {xo yo:Operand} {az:D→Fr} (hH:Has N S st H) (hg:ax ops fr ⟨some dst,.call ⟨.builtin .append,#[xo,yo],#[t1,t2]⟩,ty,pp,a,g⟩=some true)
  (hx:fr.ev xo=x) (hy:fr.ev yo=y) (hj:H[j]?=some (.aO x s es)) (ia:Rows st s y ys)
  (h1:P.bX t1=some (.slice e)) (h2:P.bX t2=some td) (h3:eH td=false) (h4:P.info e=some inf) (h5:b_ P e=some z) (h6:inf.size=s) (h7:z.length=s) (h8:0<inf.bytes∧inf.bytes≤1024)
  (hp:∀x',fr.put dst x'=az x') (hb:es.length+ys.length≤1073741824) (hw:S.flr≤N∨refs ys.flatten=0)
  (h:∀x' ae,Has N S ae (H.set j (.aO x' s (es++ys)))→ab P ops rest (az x') ae Q):
  ab P ops (⟨some dst,.call ⟨.builtin .append,#[xo,yo],#[t1,t2]⟩,ty,pp,a,g⟩::rest) fr st Q:=by
 obtain⟨x',ae,q1,q2,q3⟩:=hH.append hj ia h1 h2 h3 h4 h5 h6 h7 h8 hb hw;refine ab.go hg rfl (d:=x') (st1:=ae) ?_ (hp _) (h x' ae q2);simp only[cU,List.map_cons,List.map_nil,hx,hy];exact q1
theorem ab.uZ {j:Nat} {x y:D} {s:Nat} {es ys:List (List D)} {t1 t2 e:TypeId} {td:TypeDesc} {inf:TypeInfo} {z:List D} {xo yo:Operand} {az:D→Fr} (hH:Has N S st H) (hg:ax ops fr ⟨some dst,.call ⟨.builtin .append,#[xo,yo],#[t1,t2]⟩,ty,pp,a,g⟩=some true)
  (hx:fr.ev xo=x) (hy:fr.ev yo=y) (hj:H[j]?=some (.aO x s es)) (ia:Rows st s y ys)
  (h1:P.bX t1=some (.slice e)) (h2:P.bX t2=some td) (h3:eH td=false) (h4:P.info e=some inf) (h5:b_ P e=some z) (h6:inf.size=s) (h7:z.length=s) (h8:0<inf.bytes∧inf.bytes≤1024)
  (hp:∀x',fr.put dst x'=az x') (hb:es.length+ys.length≤1073741824) (hw:S.flr≤N∨refs ys.flatten=0)
  (h:∀x' ae,(ys=[]→x'=x)→Has N S ae (H.set j (.aO x' s (es++ys)))→ab P ops rest (az x') ae Q):
  ab P ops (⟨some dst,.call ⟨.builtin .append,#[xo,yo],#[t1,t2]⟩,ty,pp,a,g⟩::rest) fr st Q:=by
 obtain⟨x',ae,q1,q2,q3⟩:=hH.append hj ia h1 h2 h3 h4 h5 h6 h7 h8 hb hw;refine ab.go hg rfl (d:=x') (st1:=ae) ?_ (hp _) (h x' ae q3 q2);simp only[cU,List.map_cons,List.map_nil,hx,hy];exact q1
theorem ab.Gh {t e:TypeId} {xo:Operand} {x:D} {s:Nat} {es:List (List D)} (hg:ax ops fr ⟨some dst,.call ⟨.builtin .len,#[xo],#[t]⟩,ty,pp,a,g⟩=some true) (hx:fr.ev xo=x) (hR:Rows st s x es) (ht:P.bX t=some (.slice e)) (hp:fr.put dst (.int .i64 (es.length:Nat))=az)
  (h:ab P ops rest az st Q):ab P ops (⟨some dst,.call ⟨.builtin .len,#[xo],#[t]⟩,ty,pp,a,g⟩::rest) fr st Q:=by
 refine ab.go hg rfl (d:=.int .i64 (es.length:Nat)) (st1:=st) ?_ hp h;simp only[cU,List.map_cons,List.map_nil,hx];exact hR.AP ht
theorem ab.Gi {t e:TypeId} {xo io:Operand} {x:D} {s i:Nat} {kk:IntKind} {es:List (List D)} {r:List D} {az:D→Fr} (hg:ax ops fr ⟨some dst,.indexAddr t xo io,ty,pp,a,g⟩=some true) (hx:fr.ev xo=x) (hi:fr.ev io=.int kk (i:Nat)) (hR:Rows st s x es) (ht:P.bX t=some (.slice e)) (hs:bu P e=some s) (hr:es[i]?=some r) (hp:∀p,fr.put dst p=az p)
  (h:∀p,fR st p r→ab P ops rest (az p) st Q):ab P ops (⟨some dst,.indexAddr t xo io,ty,pp,a,g⟩::rest) fr st Q:=by
 obtain⟨p,h1,h2⟩:=hR.Ic ht hs (k:=kk) hr;refine ab.go hg rfl (d:=p) (st1:=st) ?_ (hp p) (h p h2);simp only[cU,hx,hi,h1,Option.map_some]
theorem ab.Ed {t:TypeId} {xo:Operand} {x:D} {r:List D} {f m:Nat} {fields:Array Field} {fd:Field} {az:D→Fr} (hg:ax ops fr ⟨some dst,.fieldAddr t xo f,ty,pp,a,g⟩=some true) (hx:fr.ev xo=x) (hR:fR st x r) (ht:P.bX t=some (.struct fields)) (hf:fields[f]?=some fd) (hm:bu P fd.type=some m) (ku:m≠0) (hp:∀p,fr.put dst p=az p)
  (h:∀p,fR st p (r.drop fd.offset)→ab P ops rest (az p) st Q):ab P ops (⟨some dst,.fieldAddr t xo f,ty,pp,a,g⟩::rest) fr st Q:=by
 obtain⟨p,h1,h2⟩:=hR.field ht hf hm ku;refine ab.go hg rfl (d:=p) (st1:=st) ?_ (hp p) (h p h2);simp only[cU,hx,h1,Option.map_some]
theorem ab.AO {t:TypeId} {ao:Operand} {x d:D} {r:List D} (hg:ax ops fr ⟨some dst,.load t ao,ty,pp,a,g⟩=some true) (ha:fr.ev ao=x) (hR:fR st x r) (hd:dk P t r=some d) (hp:fr.put dst d=az)
  (h:ab P ops rest az st Q):ab P ops (⟨some dst,.load t ao,ty,pp,a,g⟩::rest) fr st Q:=by
 refine ab.go hg rfl (d:=d) (st1:=st) ?_ hp h;simp only[cU,ha,hR.load hd,Option.map_some]
theorem ab.Im {t e:TypeId} {xo io:Operand} {x:D} {s i j:Nat} {kk:IntKind} {es:List (List D)} {az:D→Fr} (hH:Has N S st H) (hg:ax ops fr ⟨some dst,.indexAddr t xo io,ty,pp,a,g⟩=some true) (hx:fr.ev xo=x) (hi:fr.ev io=.int kk (i:Nat)) (hj:H[j]?=some (.aO x s es)) (ht:P.bX t=some (.slice e)) (hs:bu P e=some s) (hr:i<es.length) (hp:∀p,fr.put dst p=az p)
  (h:∀p,l0 x s i 0 p→ab P ops rest (az p) st Q):ab P ops (⟨some dst,.indexAddr t xo io,ty,pp,a,g⟩::rest) fr st Q:=by
 have hown:=hH.own hj
 cases hown with
 |nul=>simp at hr
 |win k aj off es c hm hl hc he=>
  refine ab.go hg rfl (d:=.ptr k aj (off+i*s)) (st1:=st) ?_ (hp _) (h _ ⟨k,aj,off,_,rfl,rfl⟩);simp only[cU,hx,hi,bF,ht,hs,Option.bind_some,St.mem_of hm,Option.isSome_some];rw[if_pos ⟨trivial,by omega,by omega,trivial⟩];rfl
theorem ab.Ek {t:TypeId} {xo:Operand} {x y:D} {s i o:Nat} {f m:Nat} {fields:Array Field} {fd:Field} {az:D→Fr} (hg:ax ops fr ⟨some dst,.fieldAddr t xo f,ty,pp,a,g⟩=some true) (hx:fr.ev xo=y) (hR:l0 x s i o y) (ht:P.bX t=some (.struct fields)) (hf:fields[f]?=some fd) (hm:bu P fd.type=some m) (ku:m≠0) (hp:∀p,fr.put dst p=az p)
  (h:∀p,l0 x s i (o+fd.offset) p→ab P ops rest (az p) st Q):ab P ops (⟨some dst,.fieldAddr t xo f,ty,pp,a,g⟩::rest) fr st Q:=by
 obtain⟨k,aj,off,len,h1,h2⟩:=hR;refine ab.go hg rfl (d:=.ptr k aj (off+i*s+(o+fd.offset))) (st1:=st) ?_ (hp _) (h _ ⟨k,aj,off,len,h1,rfl⟩);simp only[cU,hx,h2,cL,ht,hf,Option.bind_some,hm];rw[if_neg (by simp only[Option.some.injEq];exact ku),←Nat.add_assoc];rfl
theorem ab.AQ {t:TypeId} {ao:Operand} {x y d:D} {s i o j:Nat} {es:List (List D)} {r:List D} (hH:Has N S st H) (hg:ax ops fr ⟨some dst,.load t ao,ty,pp,a,g⟩=some true) (ha:fr.ev ao=y) (hR:l0 x s i o y) (hj:H[j]?=some (.aO x s es)) (hr:es[i]?=some r) (hd:dk P t (r.drop o)=some d) (hp:fr.put dst d=az)
  (h:ab P ops rest az st Q):ab P ops (⟨some dst,.load t ao,ty,pp,a,g⟩::rest) fr st Q:=by
 obtain⟨k,aj,off,len,rfl,rfl⟩:=hR;have hown:=hH.own hj
 cases hown with
 |win k aj off es c hm hl hc he=>
  refine ab.go hg rfl (d:=d) (st1:=st) ?_ hp h;have h1:=gM he i r hr
  have hil:i<es.length:=by
   rcases Nat.lt_or_ge i es.length with h'|h'
   ·exact h'
   ·rw[List.getElem?_eq_none h'] at hr;cases hr
  have h2:(i+1)*s≤es.length*s:=Nat.mul_le_mul_right s hil;rw[Nat.add_mul,Nat.one_mul] at h2;rw[←hc,List.drop_take,List.take_take,List.drop_drop,Nat.min_eq_left (by omega)] at h1;have pN:=he r (List.mem_of_getElem? hr);simp only[cU,ha,eF,St.mem_of hm,Option.bind_some];rw[gD (r:=r.drop o) ?_ hd];rfl;rw[List.length_drop,pN,←h1,List.drop_take,List.drop_drop]
theorem ab.fz {t:TypeId} {ao vo:Operand} {x y v:D} {s i o j:Nat} {es:List (List D)} {r cs:List D} (hH:Has N S st H) (hg:ax ops fr ⟨none,.store t ao vo,ty,pp,a,g⟩=some true) (ha:fr.ev ao=y) (hv:fr.ev vo=v) (hR:l0 x s i o y) (fM:v.cells?=some cs) (hs:bu P t=some cs.length) (hj:H[j]?=some (.aO x s es)) (hr:es[i]?=some r) (hl:o+cs.length≤s) (hw:S.flr≤N∨refs cs=0)
  (h:∀ae,Has N S ae (H.set j (.aO x s (es.set i (setMany r o cs))))→ab P ops rest fr ae Q):ab P ops (⟨none,.store t ao vo,ty,pp,a,g⟩::rest) fr st Q:=by
 obtain⟨k,aj,off,len,rfl,rfl⟩:=hR;obtain⟨ae,h1,h2⟩:=hH.wa hj hr hl hw;refine ab.N hg rfl (d:=.tup []) (st1:=ae) ?_ (h _ h2);simp only[cU,ha,hv,gZ,fM,hs,if_pos trivial,h1];rfl
theorem ab.qG {t e:TypeId} {xo:Operand} {lo hi:Option Operand} {x:D} {s j:Nat} {es:List (List D)} {l r:Nat} {az:D→Fr} (hH:Has N S st H) (hg:ax ops fr ⟨some dst,.slice t xo lo hi none,ty,pp,a,g⟩=some true) (hx:fr.ev xo=x) (hj:H[j]?=some (.aO x s es)) (ht:P.bX t=some (.slice e)) (hs:bu P e=some s)
  (hb:cQ es.length (lo.map fr.ev) (hi.map fr.ev)=some (l,r)) (pO:l≤r∧r≤es.length) (hp:∀y,fr.put dst y=az y)
  (h:∀y,Has N S st (H.set j (.aO y s ((es.take r).drop l)))→ab P ops rest (az y) st Q):ab P ops (⟨some dst,.slice t xo lo hi none,ty,pp,a,g⟩::rest) fr st Q:=by
 have hown:=hH.own hj
 cases hown with
 |nul=>
  simp only[List.length_nil] at hb pO
  have hy:Has N S st (H.set j (.aO .nul s (([].take r).drop l))):=by
   refine hH.vF hj (fun _ _ _=>rfl) (Nat.le_refl _) rfl rfl (by simp;exact .nul) (fun k hk=>.inl hk) fun k hk=>by simp only[bB.aO,D.ref] at hk;omega
  refine ab.go hg rfl (d:=.nul) (st1:=st) ?_ (hp _) (h _ hy);simp only[cU,hx,dX,ht,hs,Option.bind_some,hb,Option.map_some]
 |win k aj off es c hm hl hc he=>
  have hlen:((es.take r).drop l).length=r-l:=by simp;omega
  have h1:l*s+(r-l)*s≤es.length*s:=by rw[←Nat.add_mul];exact Nat.mul_le_mul_right s (by omega)
  have hk:=(hH.ok j _ hj).2 k (by simp only[bB.aO,D.ref])
  have hy:Has N S st (H.set j (.aO (.win k aj (off+l*s) (r-l) s) s ((es.take r).drop l))):=by
   refine hH.vF hj (fun _ _ _=>rfl) (Nat.le_refl _) rfl rfl ?_ (fun k' i_=>.inl ?_) fun k' i_=>?_
   ·have:=ei.win (st:=st) (s:=s) k aj (off+l*s) ((es.take r).drop l) c hm (by rw[hlen];omega) ?_ (fun e lQ=>he e (List.mem_of_mem_take (List.mem_of_mem_drop lQ)))
    ·rw[hlen] at this;exact this
    ·rw[hlen];have jb:=bJ he
     have e1:∀n,n≤es.length→(es.take n).flatten=es.flatten.take (n*s):=by
      intro n hn;have:es.flatten=(es.take n).flatten++(es.drop n).flatten:=by rw[←List.flatten_append,List.take_append_drop]
      rw[this,List.take_left'];rw[bJ (s:=s) (fun e lQ=>he e (List.mem_of_mem_take lQ)),List.length_take,Nat.min_eq_left hn]
     have e2:((es.take r).drop l).flatten=(es.take r).flatten.drop (l*s):=by
      have h2:(es.take r).flatten=((es.take r).take l).flatten++((es.take r).drop l).flatten:=by rw[←List.flatten_append,List.take_append_drop]
      rw[h2,List.drop_left'];rw[bJ (s:=s) (fun e lQ=>he e (List.mem_of_mem_take (List.mem_of_mem_take lQ))),List.length_take,List.length_take,Nat.min_eq_left (by omega)]
     rw[e2,e1 r pO.2,←hc,List.take_take,List.drop_take,List.drop_drop,Nat.sub_mul]
     congr 1
     have:r*s≤es.length*s:=Nat.mul_le_mul_right s pO.2;rw[Nat.min_eq_left this]
   ·simp only[bB.aO,D.ref] at i_⊢;exact i_
   ·simp only[bB.aO,D.ref] at i_;omega
  refine ab.go hg rfl (d:=.win k aj (off+l*s) (r-l) s) (st1:=st) ?_ (hp _) (h _ hy);simp only[cU,hx,dX,ht,hs,Option.bind_some,hb,if_true,Option.map_some]
theorem ab.lv {f:Operand} {gn:Nat} {fW:List D} {args:Array Operand} {rG:Array TypeId} {d:D} {st1:St} (hg:ax ops fr ⟨some dst,.call ⟨.value f,args,rG⟩,ty,pp,a,g⟩=some true) (hf:fr.ev f=.fn gn fW)
  (h1:Ev P gn (args.toList.map fr.ev++fW) st d st1) (hp:fr.put dst d=az)
  (h:ab P ops rest az st1 Q):ab P ops (⟨some dst,.call ⟨.value f,args,rG⟩,ty,pp,a,g⟩::rest) fr st Q:=
 ab.call hg hf h1 (by show ab P ops rest (fr.put dst d) st1 Q;rw[hp];exact h)
theorem uF {m:Mode} {kn:Bool} {st st1:St} {d d':D} (hm:m≠.aP∧m≠.nw) (hS:S.bs=st.bs) (hH:Has st.bs.length S st1 H) (hd:aT st1 st.bs.length kn 16 d=some d'):b7 m kn st st1 d=some (d',st):=
 qO hm ((hH.ex.take (by rw[hS])).trans hS) hd
theorem Has.freeze {j:Nat} {x:D} {s:Nat} {es:List (List D)} (hH:Has N S st H) (hj:H[j]?=some (.aO x s es)) (hp:∀e∈es,∀d∈e,bQ d=true) {n:Nat} (hn:2≤n):aT st N false (n+1) x=some (.sl (es.map (ir s))):=by
 obtain⟨n,rfl⟩:∃m,n=m+2:=⟨n-2,by omega⟩
 have hown:=hH.own hj;have hkk:=(hH.ok j _ hj).2
 cases hown with
 |nul=>rfl
 |win k aj off es c hm hl hc he=>
  have hk:=hkk k (by simp only[bB.aO,D.ref]);show(if k<N then some (D.win k aj off es.length s) else cR st N (n+2) (.win k aj off es.length s))=_;rw[if_neg (show¬k<N by omega),cR];simp only[if_neg (show¬k<N by omega),St.mem_of hm,Option.bind_some]
  rw[if_pos hl,hc,fG (fun d hd=>by
   obtain⟨e,lQ,tC⟩:=List.mem_flatten.1 hd
   exact hp e lQ d tC)]
  simp only[Option.map_some,dH he]
end Go.V
namespace Go.V
variable{P:Pv} {ops:Array Oper} {rest:List Oper} {fr az:Fr} {st:St} {Q:Fr→St→Prop} {ty:TypeId} {pp:String} {a:Array Edge} {g:Option (Nat×Bool)} {dst:Nat}
theorem aM {o:Oper} {j t:Nat} {w v:Bool} (h1:o.guard=some (j,w)) (h2:(ops[j]?).bind (·.dst)=some t) (h3:fr.get t=.bool v) (h4:v=w):ax ops fr o=some true:=by
 unfold ax;simp only[h1,h2,h3,h4,beq_self_eq_true]
theorem sC {o:Oper} {j t:Nat} {w v:Bool} (h1:o.guard=some (j,w)) (h2:(ops[j]?).bind (·.dst)=some t) (h3:fr.get t=.bool v) (h4:v=!w):ax ops fr o=some false:=by
 unfold ax;simp only[h1,h2,h3,h4];cases w<;>rfl
theorem ab.skip {op:Op} (hg:ax ops fr ⟨some dst,op,ty,pp,a,g⟩=some false) (hp:fr.put dst (.tup [])=az)
  (h:ab P ops rest az st Q):ab P ops (⟨some dst,op,ty,pp,a,g⟩::rest) fr st Q:=
 ab.off hg (by show ab P ops rest (fr.put dst _) st Q;rw[hp];exact h)
theorem ab.two {l:List Oper} (t:Nat) {v:Bool} (hv:fr.get t=.bool v) (h1:v=true→ab P ops l fr st Q) (h2:v=false→ab P ops l fr st Q):ab P ops l fr st Q:=by
 cases v
 ·exact h2 rfl
 ·exact h1 rfl
theorem ab.oH {c x y:Operand} {v:Bool} (hg:ax ops fr ⟨some dst,.pick c x y,ty,pp,a,g⟩=some true) (hc:fr.ev c=.bool v) (hv:v=true) (hp:fr.put dst (fr.ev x)=az)
  (h:ab P ops rest az st Q):ab P ops (⟨some dst,.pick c x y,ty,pp,a,g⟩::rest) fr st Q:=
 ab.go hg rfl (by simp only[cU,hc,hv]) hp h
theorem ab.rO {c x y:Operand} {v:Bool} (hg:ax ops fr ⟨some dst,.pick c x y,ty,pp,a,g⟩=some true) (hc:fr.ev c=.bool v) (hv:v=false) (hp:fr.put dst (fr.ev y)=az)
  (h:ab P ops rest az st Q):ab P ops (⟨some dst,.pick c x y,ty,pp,a,g⟩::rest) fr st Q:=
 ab.go hg rfl (by simp only[cU,hc,hv]) hp h
theorem af.cut {dy:Dy} {i:Nat} {l:List Oper} {d n loc Gq tmp st} {Q:Out→Fr→St→Prop} (t:Nat) (v:D)
  (h1:ab P l.toArray l ⟨n,loc,[]⟩ st fun az ae=>∃tmp,az=⟨n,Gq,tmp⟩∧ae=st∧look t tmp=v) (h2:∀tmp,look t tmp=v→Q .next ⟨n,Gq,tmp⟩ st) (h0:dZ i dy=[]:=by rfl):af P dy (.region i l.toArray d) ⟨n,loc,tmp⟩ st Q:=by
 refine af.HF ?_ h0;unfold ab at h1⊢;obtain⟨az,ae,h3,FV,rfl,rfl,h4⟩:=h1;exact⟨_,_,h3,h2 _ h4⟩
theorem jO {len n:Nat} {k:IntKind} (h:n≤len):cQ len none (some (.int k (n:Nat)))=some (0,n):=by
 simp only[cQ,iG,jP,Option.bind_some];rw[if_pos ⟨by omega,by omega⟩];rfl
theorem wrap_i32 {n : Int} (h1 : -2147483648 ≤ n) (h2 : n ≤ 2147483647) : b2 .i32 n = n := by
  cases n with
  | ofNat m => exact dK (k := .i32) (m := m) (by simp only [jt]; have : (Int.ofNat m) = (m : Int) := rfl; omega)
  | negSucc m =>
    unfold b2
    have : Nat.ble (nj .i32) m = false := by
      cases hb : Nat.ble (nj .i32) m with
      | false => rfl
      | true => have := Nat.le_of_ble_eq_true hb; simp only [nj] at this; have : Int.negSucc m = -(m : Int) - 1 := by omega
                omega
    simp only [this]
theorem Iq (x y:Int):(if y>x then y else x)=max x y:=by split<;>omega
theorem Ip (x y:Int):(if y<x then y else x)=min x y:=by split<;>omega
theorem ab.zW {t1 t2:TypeId} {xo yo:Operand} {k k':IntKind} {x y:Int} {rG:Array TypeId} (hg:ax ops fr ⟨some dst,.call ⟨.builtin .max,#[xo,yo],rG⟩,ty,pp,a,g⟩=some true) (hx:fr.ev xo=.int k x) (hy:fr.ev yo=.int k' y) (hp:fr.put dst (.int k (max x y))=az)
  (h:ab P ops rest az st Q):ab P ops (⟨some dst,.call ⟨.builtin .max,#[xo,yo],rG⟩,ty,pp,a,g⟩::rest) fr st Q:=by
 refine ab.go hg rfl (d:=.int k (max x y)) (st1:=st) ?_ hp h;simp only[cU,List.map_cons,List.map_nil,hx,hy,aU,j5,mg,Option.bind_some,Option.map_some,←Iq];rfl
theorem ab.En {t1 t2:TypeId} {xo yo:Operand} {k k':IntKind} {x y:Int} {rG:Array TypeId} (hg:ax ops fr ⟨some dst,.call ⟨.builtin .min,#[xo,yo],rG⟩,ty,pp,a,g⟩=some true) (hx:fr.ev xo=.int k x) (hy:fr.ev yo=.int k' y) (hp:fr.put dst (.int k (min x y))=az)
  (h:ab P ops rest az st Q):ab P ops (⟨some dst,.call ⟨.builtin .min,#[xo,yo],rG⟩,ty,pp,a,g⟩::rest) fr st Q:=by
 refine ab.go hg rfl (d:=.int k (min x y)) (st1:=st) ?_ hp h;simp only[cU,List.map_cons,List.map_nil,hx,hy,aU,j5,mg,Option.bind_some,Option.map_some,←Ip];rfl
theorem ab.Fv {t l3:TypeId} {xo yo:Operand} {x y:Int} (hg:ax ops fr ⟨some dst,.binOp .add t xo yo l3,ty,pp,a,g⟩=some true) (hx:fr.ev xo=.int .i64 x) (hy:fr.ev yo=.int .i64 y) (h1:-9223372036854775808≤x+y) (h2:x+y≤9223372036854775807) (hp:fr.put dst (.int .i64 (x+y))=az)
  (h:ab P ops rest az st Q):ab P ops (⟨some dst,.binOp .add t xo yo l3,ty,pp,a,g⟩::rest) fr st Q:=by
 refine ab.go hg rfl (d:=.int .i64 (x+y)) (st1:=st) ?_ hp h;simp only[cU,hx,hy,iw,o3,if_pos trivial,Option.map_some,wrap_i64 h1 h2,reduceIte]
theorem ab.rz {t l3:TypeId} {xo yo:Operand} {x y:Int} (hg:ax ops fr ⟨some dst,.binOp .add t xo yo l3,ty,pp,a,g⟩=some true) (hx:fr.ev xo=.int .i32 x) (hy:fr.ev yo=.int .i32 y) (h1:-2147483648≤x+y) (h2:x+y≤2147483647) (hp:fr.put dst (.int .i32 (x+y))=az)
  (h:ab P ops rest az st Q):ab P ops (⟨some dst,.binOp .add t xo yo l3,ty,pp,a,g⟩::rest) fr st Q:=by
 refine ab.go hg rfl (d:=.int .i32 (x+y)) (st1:=st) ?_ hp h;simp only[cU,hx,hy,iw,o3,if_pos trivial,Option.map_some,wrap_i32 h1 h2,reduceIte]
theorem ab.Bb {t l3:TypeId} {xo yo:Operand} {x y:Int} (hg:ax ops fr ⟨some dst,.binOp .sub t xo yo l3,ty,pp,a,g⟩=some true) (hx:fr.ev xo=.int .i32 x) (hy:fr.ev yo=.int .i32 y) (h1:-2147483648≤x-y) (h2:x-y≤2147483647) (hp:fr.put dst (.int .i32 (x-y))=az)
  (h:ab P ops rest az st Q):ab P ops (⟨some dst,.binOp .sub t xo yo l3,ty,pp,a,g⟩::rest) fr st Q:=by
 refine ab.go hg rfl (d:=.int .i32 (x-y)) (st1:=st) ?_ hp h;simp only[cU,hx,hy,iw,o3,if_pos trivial,Option.map_some,wrap_i32 h1 h2,reduceIte]
theorem ab.mv {op:Op} {x:Operand} {d:D} (dG:op=.move x∨op=.assign x) (hg:ax ops fr ⟨some dst,op,ty,pp,a,g⟩=some true) (hx:fr.ev x=d) (hp:fr.put dst d=az)
  (h:ab P ops rest az st Q):ab P ops (⟨some dst,op,ty,pp,a,g⟩::rest) fr st Q:=by
 refine ab.go hg ?_ (d:=d) (st1:=st) ?_ hp h<;>rcases dG with rfl|rfl<;>first|rfl|simp only[cU,hx]
def iq (P:Pv) (fields:Array Field) (f:Nat):Option (Nat×Option Nat):=(fields[f]?).map fun fd=>(fd.offset,bu P fd.type)
theorem gu {P:Pv} {fields:Array Field} {f fo m:Nat} (h:iq P fields f=some (fo,some m)):∃fd,fields[f]?=some fd∧fd.offset=fo∧bu P fd.type=some m:=by
 unfold iq at h;obtain⟨fd,h1,h2⟩:=Option.map_eq_some_iff.1 h;simp only[Prod.mk.injEq] at h2;exact⟨fd,h1,h2.1,h2.2⟩
theorem ab.Ef {t:TypeId} {xo:Operand} {k aj off o f fo m:Nat} {fields:Array Field} (hg:ax ops fr ⟨some dst,.fieldAddr t xo f,ty,pp,a,g⟩=some true) (hx:fr.ev xo=.ptr k aj off) (ht:P.bX t=some (.struct fields)) (hf:iq P fields f=some (fo,some (m+1))) (ho:off+fo=o) (hp:fr.put dst (.ptr k aj o)=az)
  (h:ab P ops rest az st Q):ab P ops (⟨some dst,.fieldAddr t xo f,ty,pp,a,g⟩::rest) fr st Q:=by
 obtain⟨fd,h1,h2,h3⟩:=gu hf;subst ho;refine ab.go hg rfl (d:=.ptr k aj (off+fo)) (st1:=st) ?_ hp h;simp only[cU,hx,cL,ht,h1,Option.bind_some,h3,h2];rw[if_neg (by simp)];rfl
theorem ab.zG {t:TypeId} {xo:Operand} {x:D} {r:List D} {f fo m:Nat} {fields:Array Field} {az:D→Fr} (hg:ax ops fr ⟨some dst,.fieldAddr t xo f,ty,pp,a,g⟩=some true) (hx:fr.ev xo=x) (hR:fR st x r) (ht:P.bX t=some (.struct fields)) (hf:iq P fields f=some (fo,some (m+1))) (hp:∀p,fr.put dst p=az p)
  (h:∀p,fR st p (r.drop fo)→ab P ops rest (az p) st Q):ab P ops (⟨some dst,.fieldAddr t xo f,ty,pp,a,g⟩::rest) fr st Q:=by
 obtain⟨fd,h1,h2,h3⟩:=gu hf;exact ab.Ed hg hx hR ht h1 h3 (by omega) hp (by rw[h2];exact h)
theorem ab.fF {t:TypeId} {xo:Operand} {x y:D} {s i o o2:Nat} {f fo m:Nat} {fields:Array Field} {az:D→Fr} (hg:ax ops fr ⟨some dst,.fieldAddr t xo f,ty,pp,a,g⟩=some true) (hx:fr.ev xo=y) (hR:l0 x s i o y) (ht:P.bX t=some (.struct fields)) (hf:iq P fields f=some (fo,some (m+1))) (ho:o+fo=o2) (hp:∀p,fr.put dst p=az p)
  (h:∀p,l0 x s i o2 p→ab P ops rest (az p) st Q):ab P ops (⟨some dst,.fieldAddr t xo f,ty,pp,a,g⟩::rest) fr st Q:=by
 obtain⟨fd,h1,h2,h3⟩:=gu hf;subst ho;exact ab.Ek hg hx hR ht h1 h3 (by omega) hp (by rw[h2];exact h)
theorem oo {c cs:List D} (h:cs.length=c.length):setMany c 0 cs=cs:=by
 rw[dC cs c 0 (by omega),List.take_zero,List.nil_append,Nat.zero_add,h,List.drop_length,List.append_nil]
variable{N:Nat} {S:St} {H:List bB}
theorem ab.Ab {j k aj:Nat} {ar:Bool} {c cs:List D} {v:D} {t:TypeId} {ao vo:Operand} (hH:Has N S st H) (hg:ax ops fr ⟨none,.store t ao vo,ty,pp,a,g⟩=some true) (ha:fr.ev ao=.ptr k aj 0) (hv:fr.ev vo=v) (fM:v.cells?=some cs) (hs:bu P t=some cs.length) (hj:H[j]?=some (.box k (.mem aj ar c))) (hl:cs.length=c.length) (hw:S.flr≤N∨refs cs=0)
  (h:∀ae,Has N S ae (H.set j (.box k (.mem aj ar cs)))→ab P ops rest fr ae Q):ab P ops (⟨none,.store t ao vo,ty,pp,a,g⟩::rest) fr st Q:=
 ab.ib hH hg ha hv fM hs hj (by omega) hw (by rw[oo hl];exact h)
theorem mH {place:Nat→Option (Nat×Nat)} {s:Nat} (kr:∀i,place i=some (i*s,s)):∀(vs:List D) (n:Nat) (done rem:List D),done.length=n*s→rem.length=vs.length*s→(∀v∈vs,v.cells?=some v.cells∧v.cells.length=s)→
  er place (done++rem) (vs.mapIdx fun i v=>(n+i,v))=some (done++(vs.map D.cells).flatten)
 |[],n,done,rem,hd,hr,_=>by
  have:rem=[]:=by cases rem with|nil=>rfl|cons _ _=>simp at hr
  subst this;simp[er]
 |v::vs,n,done,rem,hd,hr,hv=>by
  obtain⟨h1,h2⟩:=hv v (List.mem_cons_self ..);simp only[List.length_cons,Nat.add_mul,Nat.one_mul] at hr;simp only[List.mapIdx_cons,er,kr,h1,Nat.add_zero];rw[if_neg (by simp only[h2,ne_eq,not_true_eq_false,List.length_append,false_or];rw[hd,hr];omega)]
  have e1:setMany (done++rem) (n*s) v.cells=(done++v.cells)++rem.drop s:=by
   rw[dC _ _ _ (by simp only[List.length_append];omega),h2,←hd,List.take_left,List.drop_length_add_append]
  have ih:=mH kr vs (n+1) (done++v.cells) (rem.drop s) (by rw[List.length_append,hd,h2,Nat.add_mul,Nat.one_mul]) (by rw[List.length_drop];omega) fun w hw=>hv w (List.mem_cons_of_mem _ hw);rw[e1];have e2:(vs.mapIdx fun i v=>(n+(i+1),v))=vs.mapIdx fun i v=>(n+1+i,v):=by congr 1;funext i v;rw[show n+(i+1)=n+1+i by omega]
  rw[e2,ih];simp[List.append_assoc]
def sf (fr:Fr):Nat→List (Nat×Operand)→List D→Prop
 |_,[],[]=>True
 |n,(i,o)::ps,v::vs=>i=n∧fr.ev o=v∧sf fr (n+1) ps vs
 |_,_,_=>False
theorem px {fr:Fr}:∀{ps:List (Nat×Operand)} {vs:List D} {n:Nat},sf fr n ps vs→(ps.map fun p=>(p.1,fr.ev p.2))=vs.mapIdx fun i v=>(n+i,v)
 |[],[],_,_=>rfl
 |(i,o)::ps,v::vs,n,h=>by
  obtain⟨h1,h2,h3⟩:=h;have ih:=px h3;simp only[List.map_cons,List.mapIdx_cons,Nat.add_zero];rw[ih,h1,h2]
  congr 1
  congr 1;funext i v;rw[show n+(i+1)=n+1+i by omega]
 |[],_::_,_,h=>h.elim
 |_::_,[],_,h=>h.elim
theorem ab.G3 {t e:TypeId} {m s:Nat} {parts:Array (Nat×Operand)} {z:List D} {vs:List D} {az:Nat→Fr} (hH:Has N S st H) (hg:ax ops fr ⟨some dst,.buildSlice t m parts,ty,pp,a,g⟩=some true) (ht:P.bX t=some (.slice e)) (hs:bu P e=some s) (hz:b_ P e=some z) (gL:z.length=s) (hm:m*s≤16777216)
  (HM:sf fr 0 parts.toList vs) (Gw:vs.length=m) (hc:∀v∈vs,v.cells?=some v.cells∧v.cells.length=s) (hp:∀k,fr.put dst (.win k 0 0 m s)=az k)
  (h:∀k ae,S.bs.length≤k→Has N S ae (.aO (.win k 0 0 m s) s (vs.map D.cells)::H)→ab P ops rest (az k) ae Q):ab P ops (⟨some dst,.buildSlice t m parts,ty,pp,a,g⟩::rest) fr st Q:=by
 have tz:=px HM;have hf:=mH (place:=fun i=>some (i*s,s)) (fun _=>rfl) vs 0 [] (cO m z) (by simp) (by simp[cO,Gw,gL]) hc
 refine ab.go hg rfl (d:=.win st.bs.length 0 0 m s) (st1:=st.push (.mem 0 true (vs.map D.cells).flatten)) ?_ (hp _) (h _ _ hH.len (hH.rM (by simpa using Gw) rfl (fun e he=>by
  obtain⟨v,hv,rfl⟩:=List.mem_map.1 he
  exact(hc v hv).2)))
 simp only[cU,dR,ht,hs,hz,Option.bind_some];rw[if_pos ⟨gL,hm⟩,tz];simp only[List.nil_append] at hf;rw[hf];rfl
theorem ab.aE {j k aj off m:Nat} {ar:Bool} {c r:List D} {t:TypeId} {ao:Operand} (hH:Has N S st H) (hg:ax ops fr ⟨some dst,.load t ao,ty,pp,a,g⟩=some true) (ha:fr.ev ao=.ptr k aj off) (hj:H[j]?=some (.box k (.mem aj ar c))) (hr:(c.drop off).take m=r) (hd:dk P t r=some (.agg r)) (hm:r.length=m) (hp:fr.put dst (.agg r)=az)
  (h:ab P ops rest az st Q):ab P ops (⟨some dst,.load t ao,ty,pp,a,g⟩::rest) fr st Q:=
 ab.A4 hH hg ha hj (gD (r:=r) (by rw[hm];exact hr) hd) hp h
theorem bR {α:Type} {l:List α} {i:Nat} {a:α} (h:l[i]?=some a):i<l.length:=by
 rcases Nat.lt_or_ge i l.length with h'|h'
 ·exact h'
 ·rw[List.getElem?_eq_none h'] at h;cases h
theorem ab.cx {t:TypeId} {ao:Operand} {x:D} {r:List D} (hg:ax ops fr ⟨some dst,.load t ao,ty,pp,a,g⟩=some true) (ha:fr.ev ao=x) (hR:fR st x r) (hd:dk P t r=some (.agg r)) (hp:fr.put dst (.agg r)=az)
  (h:ab P ops rest az st Q):ab P ops (⟨some dst,.load t ao,ty,pp,a,g⟩::rest) fr st Q:=ab.AO hg ha hR hd hp h
theorem ab.nd {t:TypeId} {ao:Operand} {x y:D} {s i j:Nat} {es:List (List D)} {r:List D} (hH:Has N S st H) (hg:ax ops fr ⟨some dst,.load t ao,ty,pp,a,g⟩=some true) (ha:fr.ev ao=y) (hR:l0 x s i 0 y) (hj:H[j]?=some (.aO x s es)) (hr:es[i]?=some r) (hd:dk P t r=some (.agg r)) (hp:fr.put dst (.agg r)=az)
  (h:ab P ops rest az st Q):ab P ops (⟨some dst,.load t ao,ty,pp,a,g⟩::rest) fr st Q:=ab.AQ hH hg ha hR hj hr (by rw[List.drop_zero];exact hd) hp h
theorem ab.HC {t l3:TypeId} {xo yo:Operand} {x y z:Int} {k:IntKind} (hg:ax ops fr ⟨some dst,.binOp .add t xo yo l3,ty,pp,a,g⟩=some true) (hx:fr.ev xo=.int k x) (hy:fr.ev yo=.int k y) (hz:b2 k (x+y)=z) (hp:fr.put dst (.int k z)=az)
  (h:ab P ops rest az st Q):ab P ops (⟨some dst,.binOp .add t xo yo l3,ty,pp,a,g⟩::rest) fr st Q:=by
 refine ab.go hg rfl (d:=.int k z) (st1:=st) ?_ hp h;simp only[cU,hx,hy,iw,o3,if_pos trivial,Option.map_some,hz,reduceIte]
theorem ab.j9 {t l3:TypeId} {xo yo:Operand} {x y z:Int} {k:IntKind} (hg:ax ops fr ⟨some dst,.binOp .sub t xo yo l3,ty,pp,a,g⟩=some true) (hx:fr.ev xo=.int k x) (hy:fr.ev yo=.int k y) (hz:b2 k (x-y)=z) (hp:fr.put dst (.int k z)=az)
  (h:ab P ops rest az st Q):ab P ops (⟨some dst,.binOp .sub t xo yo l3,ty,pp,a,g⟩::rest) fr st Q:=by
 refine ab.go hg rfl (d:=.int k z) (st1:=st) ?_ hp h;simp only[cU,hx,hy,iw,o3,if_pos trivial,Option.map_some,hz,reduceIte]
theorem ab.HI {t l3:TypeId} {xo yo:Operand} {x y:D} {b:Bool} (hg:ax ops fr ⟨some dst,.binOp .neq t xo yo l3,ty,pp,a,g⟩=some true) (hx:fr.ev xo=x) (hy:fr.ev yo=y) (hb:iw P .neq t x y=some (.bool b)) (hp:fr.put dst (.bool b)=az)
  (h:ab P ops rest az st Q):ab P ops (⟨some dst,.binOp .neq t xo yo l3,ty,pp,a,g⟩::rest) fr st Q:=by
 refine ab.go hg rfl (d:=.bool b) (st1:=st) ?_ hp h;simp only[cU,hx,hy,hb,Option.map_some]
theorem Ev.ni {f:Nat} {x:Fi} {body:Code} {args:List D} {st:St} {n:Nat} {loc:List D} {vB:D→St→Prop} (hq:gk f P.prm=none) (hf:P.fi f=some x) (hp:x.fx=none) (hb:x.fn.body=some body) (uO:pad x.nloc args=⟨n,loc,[]⟩)
  (h:af P x.dyn body ⟨n,loc,[]⟩ (aw x.mode st) fun o fr st1=>(∀i,o≠.exit i)∧∃ds d ae,ga P fr st1 x.fn.results.toList=some ds∧b7 x.mode x.knul st st1 (pU ds)=some (d,ae)∧vB d ae):∃d ae,Ev P f args st d ae∧vB d ae:=by
 unfold af at h;obtain⟨o,az,st1,hN,ho,ds,d,ae,hr,hl,uN⟩:=h;refine⟨d,ae,Ev.km hq hf hp hb uO ?_,uN⟩;unfold af;exact⟨o,az,st1,hN,ho,ds,hr,hl⟩
def vC (M:Fr→St→Prop) (Q:Out→Fr→St→Prop):Out→Fr→St→Prop
 | .next,fr,st=>M fr st
 | .exit i,fr,st=>Q (.exit i) fr st
 | .ret,fr,st=>Q .ret fr st
theorem af.merge {P:Pv} {dy:Dy} {c:Code} {fr:Fr} {st:St} {Q:Out→Fr→St→Prop} (M:Fr→St→Prop) (h1:af P dy c fr st (vC M Q)) (h2:∀az ae,M az ae→Q .next az ae):af P dy c fr st Q:=
 h1.mono fun o az ae h=>by
  cases o with
  |next=>exact h2 _ _ h
  |exit i=>exact h
  |ret=>exact h
theorem Ev.Gn {f:Nat} {x:Fi} {body:Code} {args:List D} {st:St} {n:Nat} {loc:List D} {vB:D→Prop} (hq:gk f P.prm=none) (hf:P.fi f=some x) (hp:x.fx=none) (hb:x.fn.body=some body) (uO:pad x.nloc args=⟨n,loc,[]⟩)
  (h:af P x.dyn body ⟨n,loc,[]⟩ (aw x.mode st) fun o fr st1=>(∀i,o≠.exit i)∧∃ds d,ga P fr st1 x.fn.results.toList=some ds∧b7 x.mode x.knul st st1 (pU ds)=some (d,st)∧vB d):∃d,Ev P f args st d st∧vB d:=by
 unfold af at h;obtain⟨o,az,st1,hN,ho,ds,d,hr,hl,uN⟩:=h;refine⟨d,Ev.km hq hf hp hb uO ?_,uN⟩;unfold af;exact⟨o,az,st1,hN,ho,ds,hr,hl⟩
def aD (loc:List D) (ws:List Nat) (f:Nat→D):List D:=ws.foldl (fun l w=>l.set w (f w)) loc
theorem af.lH {P:Pv} {dy:Dy} {i:Nat} {l:List Oper} {d n loc tmp st} {Q:Out→Fr→St→Prop} (t:Nat) (v:D) (ws:List Nat)
  (h1:ab P l.toArray l ⟨n,loc,[]⟩ st fun az ae=>∃f tmp,az=⟨n,(aD loc ws f).set t v,tmp⟩∧ae=st) (h2:∀f tmp,Q .next ⟨n,(aD loc ws f).set t v,tmp⟩ st) (h0:dZ i dy=[]:=by rfl):af P dy (.region i l.toArray d) ⟨n,loc,tmp⟩ st Q:=by
 refine af.HF ?_ h0;unfold ab at h1⊢;obtain⟨az,ae,h3,f,FV,rfl,rfl⟩:=h1;exact⟨_,_,h3,h2 _ _⟩
theorem af.dh {P:Pv} {dy:Dy} {i:Nat} {l:List Oper} {d n loc tmp st} {Q:Out→Fr→St→Prop} (t:Nat) (v:D) (ws:List Nat)
  (h1:ab P l.toArray l ⟨n,loc,[]⟩ st fun az ae=>∃f tmp,az=⟨n,aD loc ws f,tmp⟩∧ae=st∧look t tmp=v) (h2:∀f tmp,look t tmp=v→Q .next ⟨n,aD loc ws f,tmp⟩ st) (h0:dZ i dy=[]:=by rfl):af P dy (.region i l.toArray d) ⟨n,loc,tmp⟩ st Q:=by
 refine af.HF ?_ h0;unfold ab at h1⊢;obtain⟨az,ae,h3,f,FV,rfl,rfl,h4⟩:=h1;exact⟨_,_,h3,h2 _ _ h4⟩
theorem b8 {n:Nat} {L loc:List D} {sE:List (Nat×D)} {ws:List Nat} {t:Nat} {v:D} {st:St} (h:L=(aD loc ws (fun k=>nth .aZ L k)).set t v):∃(f:Nat→D) (tmp:List (Nat×D)),(⟨n,L,sE⟩:Fr)=⟨n,(aD loc ws f).set t v,tmp⟩∧st=st:=⟨_,sE,by rw[←h],rfl⟩
theorem aR {n:Nat} {L loc:List D} {sE:List (Nat×D)} {ws:List Nat} {t:Nat} {v:D} {st:St} (h:L=aD loc ws (fun k=>nth .aZ L k)) (h2:look t sE=v):∃(f:Nat→D) (tmp:List (Nat×D)),(⟨n,L,sE⟩:Fr)=⟨n,aD loc ws f,tmp⟩∧st=st∧look t tmp=v:=⟨_,sE,by rw[←h],rfl,h2⟩
theorem mQ {x y:Oper} {fi fj:Fr} {si kg sj vG:St} {a:Operand} {k aj off v:Nat} {ar:Bool} {c:List D} (hy:dL y.op=none) (hx:dL x.op=some a) (ha:fi.ev a=.ptr k aj off) (h1:sj.bs[k]?=some (.mem v ar c)) (h2:vG.bs[k]?=some (.mem v ar c)) (h3:si.bs[k]?=some (.mem v ar c)) (hr:refs c=0):eE x fi si kg y fj sj vG=true:=by
 unfold eE;simp only[hy,hx,ha,D.iv,Bool.and_eq_true];refine⟨jh h1 h2,?_⟩;unfold hC;simp only[h3,hr]
 split
 ·rfl
 ·simp
def dV (x:D) (s:Nat) (es:List (List D)):Prop:=(x=.nul∧es=[])∨∃ds,x=.sl ds∧ds.map D.cells=es∧∀d∈ds,d.cells?=some d.cells∧d.cells.length=s
theorem dV.rows {x:D} {s:Nat} {es:List (List D)} (h:dV x s es) (st:St):Rows st s x es:=by
 rcases h with⟨rfl,rfl⟩|⟨ds,rfl,rfl,h⟩
 ·exact .nul
 ·exact .sl ds h
theorem dV.ref {x:D} {s:Nat} {es:List (List D)} (h:dV x s es):x.ref=0:=by
 rcases h with⟨rfl,rfl⟩|⟨ds,rfl,rfl,h⟩<;>rfl
theorem dV.arg {x:D} {s:Nat} {es:List (List D)} (h:dV x s es) (N:Nat) (S:St):Arg N S s x es:=⟨h.rows S,by rw[h.ref];omega⟩
theorem dV.cells {x:D} {s:Nat} {es:List (List D)} (h:dV x s es):x.cells?=some [x]∧x.cells=[x]:=by
 rcases h with⟨rfl,rfl⟩|⟨ds,rfl,rfl,h⟩<;>exact⟨rfl,rfl⟩
theorem dV.freeze {x:D} {s:Nat} {es:List (List D)} (h:dV x s es) (st:St) (N n:Nat):∃y,aT st N false (n+1) x=some y∧dV y s es:=by
 rcases h with⟨rfl,rfl⟩|⟨ds,rfl,rfl,h⟩
 ·exact⟨.sl [],rfl,.inr ⟨[],rfl,rfl,fun d hd=>by cases hd⟩⟩
 ·exact⟨.sl ds,rfl,.inr ⟨ds,rfl,rfl,h⟩⟩
theorem dV.frozen {s:Nat} {es:List (List D)} (h:∀e∈es,e.length=s) (hp:∀e∈es,∀d∈e,bQ d=true):dV (.sl (es.map (ir s))) s es:=by
 refine .inr ⟨_,rfl,?_,fun d hd=>?_⟩
 ·rw[List.map_map]
  conv=>rhs;rw[←List.map_id es]
  refine List.map_congr_left fun e he=>?_;exact(gO (h e he) (hp e he)).2
 ·obtain⟨e,he,rfl⟩:=List.mem_map.1 hd;obtain⟨h1,h2⟩:=gO (h e he) (hp e he);exact⟨h1,by rw[h2];exact h e he⟩
theorem dV.part {P:Pv} {st:St} {t e:TypeId} {x:D} {s l r:Nat} {es:List (List D)} {lo hi:Option D} (h:dV x s es) (ht:P.bX t=some (.slice e)) (hs:bu P e=some s) (hb:cQ es.length lo hi=some (l,r)):∃y,dX P t x lo hi st=some y∧dV y s ((es.take r).drop l):=by
 rcases h with⟨rfl,rfl⟩|⟨ds,rfl,rfl,h⟩
 ·simp only[List.length_nil] at hb;refine⟨.nul,?_,.inl ⟨rfl,by simp⟩⟩;simp only[dX,ht,hs,Option.bind_some,hb,Option.map_some]
 ·rw[List.length_map] at hb;refine⟨.sl ((ds.take r).drop l),?_,.inr ⟨_,rfl,by rw[List.map_drop,List.map_take],fun d hd=>h d (List.mem_of_mem_take (List.mem_of_mem_drop hd))⟩⟩;simp only[dX,ht,hs,Option.bind_some]
  rw[if_pos (by
   cases ds with
   |nil=>rfl
   |cons d ds=>obtain⟨h1,h2⟩:=h d (List.mem_cons_self ..);simp[lu,h1,h2])]
  simp only[hb,Option.map_some]
end Go.V
namespace Go.V
inductive bN {α β:Type} (R:α→β→Prop):List α→List β→Prop where
 |nil:bN R [] []
 |cons {a:α} {b:β} {l:List α} {m:List β} (h:R a b) (t:bN R l m):bN R (a::l) (b::m)
theorem bN.mono {α β:Type} {R R':α→β→Prop} (h:∀a b,R a b→R' a b):∀{l:List α} {m:List β},bN R l m→bN R' l m
 |_,_,.nil=>.nil
 |_,_,.cons a t=>.cons (h _ _ a) (t.mono h)
theorem bN.append {α β:Type} {R:α→β→Prop}:∀{l l':List α} {m m':List β},bN R l m→bN R l' m'→bN R (l++l') (m++m')
 |_,_,_,_,.nil,h=>h
 |_,_,_,_,.cons a t,h=>.cons a (t.append h)
theorem bN.len {α β:Type} {R:α→β→Prop}:∀{l:List α} {m:List β},bN R l m→l.length=m.length
 |_,_,.nil=>rfl
 |_,_,.cons a t=>by simp[t.len]
inductive dq (st:St) (ks:Nat→Prop):D→D→Prop where
 |plain (d:D) (h:bQ d=true):dq st ks d d
 |aO (w:D) (s:Nat) (rs:List (List D)) (h:ei st s w rs) (hp:∀e∈rs,∀d∈e,bQ d=true) (hk:∀k,w.ref=k+1→ks k):dq st ks w (.sl (rs.map (ir s)))
theorem dq.mono {st:St} {ks Lc:Nat→Prop} (h:∀k,ks k→Lc k) {d v:D} (p:dq st ks d v):dq st Lc d v:=by
 cases p with
 |plain h=>exact .plain d h
 |aO s rs h1 h2 h3=>exact .aO d s rs h1 h2 fun k hk=>h k (h3 k hk)
theorem dq.move {st ae:St} {ks:Nat→Prop} (h:∀k,ks k→ae.bs[k]?=st.bs[k]?) {d v:D} (p:dq st ks d v):dq ae ks d v:=by
 cases p with
 |plain h=>exact .plain d h
 |aO s rs h1 h2 h3=>exact .aO d s rs (h1.move fun k hk=>h k (h3 k hk)) h2 h3
theorem ei.Gk {st:St} {s N:Nat} {x:D} {es:List (List D)} (h:ei st s x es) (hN:∀k,x.ref=k+1→N≤k) (hp:∀e∈es,∀d∈e,bQ d=true) (n:Nat):cR st N (n+2) x=some (.sl (es.map (ir s))):=by
 cases h with
 |nul=>rfl
 |win k aj off es c hm hl hc he=>
  have:=hN k (by simp only[D.ref]);rw[cR];simp only[if_neg (show¬k<N by omega),St.mem_of hm,Option.bind_some]
  rw[if_pos hl,hc,fG (fun d hd=>by
   obtain⟨e,lQ,tC⟩:=List.mem_flatten.1 hd
   exact hp e lQ d tC)]
  simp only[Option.map_some,dH he]
theorem dq.pure {st:St} {ks:Nat→Prop} {N:Nat} (hN:∀k,ks k→N≤k) {d v:D} (p:dq st ks d v) (n:Nat):cR st N (n+2) d=some v:=by
 cases p with
 |plain h=>cases d<;>simp[bQ] at h<;>rfl
 |aO s rs h1 h2 h3=>exact h1.Gk (fun k hk=>hN k (h3 k hk)) h2 n
theorem mw {f:D→Option D} {R:D→D→Prop} (h:∀a b,R a b→f a=some b):∀{l m:List D},bN R l m→dM f l=some m
 |_,_,.nil=>rfl
 |_,_,.cons a t=>by simp only[dM,h _ _ a,mw h t]
theorem bN.flat {R:D→D→Prop}:∀{l m:List (List D)},bN (bN R) l m→bN R l.flatten m.flatten
 |_,_,.nil=>.nil
 |_,_,.cons a t=>by simp only[List.flatten_cons];exact a.append t.flat
theorem bN.each {s:Nat} {R:D→D→Prop}:∀{l m:List (List D)},bN (bN R) l m→(∀e∈l,e.length=s)→∀e∈m,e.length=s
 |_,_,.nil,_,e,he=>by cases he
 |_,_,.cons a t,h,e,he=>by
  rcases List.mem_cons.1 he with rfl|he
  ·rw[←a.len];exact h _ (List.mem_cons_self ..)
  ·exact t.each (fun x hx=>h x (List.mem_cons_of_mem _ hx)) e he
def bB.emp:bB:=⟨fun _=>False,fun _=>True,fun _ p=>p⟩
def bB.deep (ks:Nat→Prop) (x:D) (s:Nat) (vs:List (List D)):bB:=
 ⟨fun j=>x.ref=j+1∨ks j,fun st=>(∃es,ei st s x es∧bN (bN (dq st ks)) es vs)∧∀k,x.ref=k+1→¬ks k,fun h p=>by
  obtain⟨⟨es,h1,h2⟩,h3⟩:=p
  exact⟨⟨es,h1.move fun k hk=>h k (.inl hk),h2.mono fun a b=>bN.mono fun c d=>dq.move fun k hk=>h k (.inr hk)⟩,h3⟩⟩
variable{N:Nat} {S st:St} {H:List bB}
theorem Has.zP (h:Has N S st H) (s:Nat):Has N S st (.deep (fun _=>False) .nul s []::H):=
 h.add (fun _ _=>rfl) (Nat.le_refl _) rfl rfl ⟨⟨[],.nul,.nil⟩,fun k hk=>by simp only[D.ref] at hk;omega⟩ fun k hk=>by
  rcases hk with hk|hk
  ·simp only[D.ref] at hk;omega
  ·exact hk.elim
theorem Has.nU {i j:Nat} {w x:D} {sw s:Nat} {rs vs:List (List D)} {ks:Nat→Prop} (h:Has N S st H) (hij:i≠j) (hi:H[i]?=some (.aO w sw rs)) (hj:H[j]?=some (.deep ks x s vs)) (hp:∀e∈rs,∀d∈e,bQ d=true):
  Has N S st ((H.set i .emp).set j (.deep (fun k=>ks k∨w.ref=k+1) x s vs))∧dq st (fun k=>ks k∨w.ref=k+1) w (.sl (rs.map (ir sw))):=by
 have MQ:=h.own hi;obtain⟨⟨es,h1,h2⟩,h3⟩:=(h.ok j _ hj).1;have OZ:=(h.ok i _ hi).2;have LU:=(h.ok j _ hj).2;have JH:=h.dis i j _ _ hij hi hj;refine⟨⟨h.ex,h.hN,h.dF,fun n e hn=>?_,fun a b ea eb hab ha hb k pP fL=>?_⟩,.aO w sw rs MQ hp fun k hk=>.inr hk⟩
 ·by_cases hnj:n=j
  ·subst hnj;rw[List.getElem?_set_self (by rw[List.length_set];exact bR hj)] at hn;cases hn;refine⟨⟨⟨es,h1,h2.mono fun a b=>bN.mono fun c d=>dq.mono fun k hk=>.inl hk⟩,fun k hk=>?_⟩,fun k hk=>?_⟩
   ·rintro(hk2|hk2)
    ·exact h3 k hk hk2
    ·exact JH k hk2 (.inl hk)
   ·rcases hk with hk|hk|hk
    ·exact LU k (.inl hk)
    ·exact LU k (.inr hk)
    ·exact OZ k hk
  ·rw[List.getElem?_set_ne (fun e=>hnj e.symm)] at hn
   by_cases hni:n=i
   ·subst hni;rw[List.getElem?_set_self (bR hi)] at hn;cases hn;exact⟨trivial,fun k hk=>hk.elim⟩
   ·rw[List.getElem?_set_ne (fun e=>hni e.symm)] at hn;exact h.ok n e hn
 ·have key:∀n e,((H.set i .emp).set j (.deep (fun k=>ks k∨w.ref=k+1) x s vs))[n]?=some e→∀k,e.K k→(n=j∧((bB.deep ks x s vs).K k∨(bB.aO w sw rs).K k))∨(n≠j∧n≠i∧H[n]?=some e):=by
   intro n e hn k hk
   by_cases hnj:n=j
   ·subst hnj;rw[List.getElem?_set_self (by rw[List.length_set];exact bR hj)] at hn;cases hn;refine .inl ⟨rfl,?_⟩
    rcases hk with hk|hk|hk
    ·exact .inl (.inl hk)
    ·exact .inl (.inr hk)
    ·exact .inr hk
   ·rw[List.getElem?_set_ne (fun e=>hnj e.symm)] at hn
    by_cases hni:n=i
    ·subst hni;rw[List.getElem?_set_self (bR hi)] at hn;cases hn;exact hk.elim
    ·rw[List.getElem?_set_ne (fun e=>hni e.symm)] at hn;exact .inr ⟨hnj,hni,hn⟩
  rcases key a ea ha k pP with⟨h4,h5⟩|⟨h4,h5,h6⟩<;>rcases key b eb hb k fL with⟨g4,g5⟩|⟨g4,g5,g6⟩
  ·exact hab (h4.trans g4.symm)
  ·rcases h5 with h5|h5
   ·exact h.dis j b _ _ (fun e=>g4 e.symm) hj g6 k h5 fL
   ·exact h.dis i b _ _ (fun e=>g5 e.symm) hi g6 k h5 fL
  ·rcases g5 with g5|g5
   ·exact h.dis a j _ _ h4 h6 hj k pP g5
   ·exact h.dis a i _ _ h5 h6 hi k pP g5
  ·exact h.dis a b _ _ hab h6 g6 k pP fL
theorem Has.gP {P:Pv} {j:Nat} {x y:D} {s:Nat} {ks:Nat→Prop} {vs ys FP:List (List D)} (hH:Has N S st H) (hj:H[j]?=some (.deep ks x s vs)) (hy:Rows st s y ys) (hd:bN (bN (dq st ks)) ys FP) {t1 t2 e:TypeId} {td:TypeDesc} {inf:TypeInfo} {z:List D}
  (h1:P.bX t1=some (.slice e)) (h2:P.bX t2=some td) (h3:eH td=false) (h4:P.info e=some inf) (h5:b_ P e=some z) (h6:inf.size=s) (h7:z.length=s) (h8:0<inf.bytes∧inf.bytes≤1024)
  (nZ:vs.length+ys.length≤1073741824) (hw:S.flr≤N∨refs ys.flatten=0):
  ∃x' ae,aU P .append [t1,t2] [x,y] st=some (x',ae)∧Has N S ae (H.set j (.deep ks x' s (vs++FP))):=by
 obtain⟨⟨es,A6,E9⟩,he3⟩:=(hH.ok j _ hj).1;have hK:=(hH.ok j _ hj).2;have hlen:=E9.len
 have pR:Has N S st [.aO x s es]:=by
  refine⟨hH.ex,hH.hN,hH.dF,fun i e hi=>?_,fun i i' a b hii ha hb k pP fL=>?_⟩
  ·cases i with
   |zero=>simp only[List.getElem?_cons_zero,Option.some.injEq] at hi;subst hi;exact⟨A6,fun k hk=>hK k (.inl hk)⟩
   |succ i=>simp at hi
  ·cases i with
   |zero=>cases i' with
    |zero=>exact hii rfl
    |succ i'=>simp at hb
   |succ i=>simp at ha
 obtain⟨x',ae,q1,q2,q3⟩:=pR.append (j:=0) aC hy h1 h2 h3 h4 h5 h6 h7 h8 (by omega) hw;refine⟨x',ae,q1,?_⟩;have hown:=q2.own (j:=0) aC
 have OD:(∀k,k<st.bs.length→x.ref≠k+1→ae.bs[k]?=st.bs[k]?)∧st.bs.length≤ae.bs.length∧ae.flr=st.flr∧ae.ro=st.ro∧(∀k,x'.ref=k+1→x.ref=k+1∨st.bs.length≤k):=by
  have gR:=hy.row
  have vJ:∀e∈ys,e.length=s:=fun e he=>by
   obtain⟨i,hi⟩:=List.getElem?_of_mem he;exact hy.py i e hi
  simp only[aU,eT,h1,h2,h3,Bool.false_eq_true,if_false,h4,h5,gR,Option.bind_some] at q1
  split at q1
  ·cases q1
  ·cases A6 with
   |nul=>
    simp only at q1
    split at q1
    ·cases q1;exact⟨fun _ _ _=>rfl,Nat.le_refl _,rfl,rfl,fun k hk=>.inl hk⟩
    ·split at q1
     ·cases q1;exact⟨fun k hk _=>by simp only[St.push];rw[List.getElem?_append_left hk],by simp[St.push],rfl,rfl,fun k hk=>.inr (by simp only[D.ref] at hk;omega)⟩
     ·cases q1
   |win k aj off es c hm hl hc he=>
    simp only[St.mem_of hm] at q1
    split at q1
    ·cases q1
    ·split at q1
     ·cases q1;exact⟨fun _ _ _=>rfl,Nat.le_refl _,rfl,rfl,fun k hk=>.inl hk⟩
     ·split at q1
      ·cases q1;exact⟨fun n hn hne=>by simp only;rw[List.getElem?_set_ne (fun e=>hne (by simp only[D.ref];omega))],by simp,rfl,rfl,fun n hn=>.inl (by simp only[D.ref] at hn⊢;exact hn)⟩
      ·cases q1
 obtain⟨c1,c2,c3,c4,c5⟩:=OD;have IC:=(q2.ok 0 _ aC).2;have A2:∀k,ks k→ae.bs[k]?=st.bs[k]?:=fun k hk=>c1 k (hK k (.inr hk)).2 fun e=>he3 k e hk;refine hH.vF hj (fun k hk hne=>c1 k hk fun e=>hne (.inl e)) c2 c3 c4 ⟨⟨es++ys,hown,?_⟩,fun k hk LB=>?_⟩ (fun k hk=>?_) fun k hk=>?_
 ·exact(E9.mono fun a b=>bN.mono fun c d=>dq.move A2).append (hd.mono fun a b=>bN.mono fun c d=>dq.move A2)
 ·rcases c5 k hk with h|h
  ·exact he3 k h LB
  ·have:=(hK k (.inr LB)).2;omega
 ·rcases hk with hk|hk
  ·rcases c5 k hk with h|h
   ·exact .inl (.inl h)
   ·exact .inr h
  ·exact .inl (.inr hk)
 ·rcases hk with hk|hk
  ·exact(IC k hk).2
  ·exact Nat.lt_of_lt_of_le (hK k (.inr hk)).2 c2
theorem ab.gP {P:Pv} {ops:Array Oper} {rest:List Oper} {fr:Fr} {Q:Fr→St→Prop} {ty:TypeId} {pp:String} {a:Array Edge} {g:Option (Nat×Bool)} {dst:Nat} {j:Nat} {x y:D} {s:Nat} {ks:Nat→Prop} {vs ys FP:List (List D)} {t1 t2 e:TypeId} {td:TypeDesc} {inf:TypeInfo} {z:List D} {xo yo:Operand} {az:D→Fr} (hH:Has N S st H) (hg:ax ops fr ⟨some dst,.call ⟨.builtin .append,#[xo,yo],#[t1,t2]⟩,ty,pp,a,g⟩=some true)
  (hx:fr.ev xo=x) (hy:fr.ev yo=y) (hj:H[j]?=some (.deep ks x s vs)) (ia:Rows st s y ys) (hd:bN (bN (dq st ks)) ys FP)
  (h1:P.bX t1=some (.slice e)) (h2:P.bX t2=some td) (h3:eH td=false) (h4:P.info e=some inf) (h5:b_ P e=some z) (h6:inf.size=s) (h7:z.length=s) (h8:0<inf.bytes∧inf.bytes≤1024)
  (hp:∀x',fr.put dst x'=az x') (hb:vs.length+ys.length≤1073741824) (hw:S.flr≤N∨refs ys.flatten=0)
  (h:∀x' ae,Has N S ae (H.set j (.deep ks x' s (vs++FP)))→ab P ops rest (az x') ae Q):
  ab P ops (⟨some dst,.call ⟨.builtin .append,#[xo,yo],#[t1,t2]⟩,ty,pp,a,g⟩::rest) fr st Q:=by
 obtain⟨x',ae,q1,q2⟩:=hH.gP hj ia hd h1 h2 h3 h4 h5 h6 h7 h8 hb hw;refine ab.go hg rfl (d:=x') (st1:=ae) ?_ (hp _) (h x' ae q2);simp only[cU,List.map_cons,List.map_nil,hx,hy];exact q1
theorem Has.iP {j:Nat} {x:D} {s:Nat} {ks:Nat→Prop} {vs:List (List D)} (hH:Has N S st H) (hj:H[j]?=some (.deep ks x s vs)) {n:Nat} (hn:4≤n):aT st N false (n+1) x=some (.sl (vs.map (ir s))):=by
 obtain⟨n,rfl⟩:∃m,n=m+4:=⟨n-4,by omega⟩
 obtain⟨⟨es,h1,h2⟩,h3⟩:=(hH.ok j _ hj).1;have hK:=(hH.ok j _ hj).2
 cases h1 with
 |nul=>cases h2;rfl
 |win k aj off es c hm hl hc he=>
  have hk:=hK k (.inl (by simp only[D.ref]));show(if k<N then some (D.win k aj off es.length s) else cR st N (n+4) (.win k aj off es.length s))=_;rw[if_neg (show¬k<N by omega),cR];simp only[if_neg (show¬k<N by omega),St.mem_of hm,Option.bind_some];rw[if_pos hl,hc,mw (fun a b hab=>hab.pure (fun k hk=>(hK k (.inr hk)).1) (n+1)) h2.flat];simp only[Option.map_some];rw[h2.len,dH (h2.each he)]
theorem Has.se {j:Nat} {x:D} {s:Nat} {es:List (List D)} (hH:Has N S st H) (hj:H[j]?=some (.aO x s es)) (hp:∀e∈es,∀d∈e,bQ d=true) {n:Nat} (hn:3≤n):aT st N false n x=some (.sl (es.map (ir s))):=by
 obtain⟨n,rfl⟩:∃m,n=m+1:=⟨n-1,by omega⟩
 exact hH.freeze hj hp (by omega)
theorem Has.iF {P:Pv} {fr:Fr} {a k aj off j:Nat} {t:TypeId} {ar:Bool} {c:List D} {d:D} (hH:Has N S st H) (ha:fr.get a=.ptr k aj off) (hj:H[j]?=some (.box k (.mem aj ar c))) (hd:dk P t (c.drop off)=some d):ga P fr st [.cell a t]=some [d]:=by
 simp only[ga,eF,ha,St.mem_of (hH.at hj),Option.bind_some,hd,Option.map_some]
theorem ei.cells {s:Nat} {x:D} {es:List (List D)} (h:ei st s x es):x.cells?=some [x]:=by cases h<;>rfl
theorem Has.nR {j:Nat} {x:D} {s:Nat} {ks:Nat→Prop} {vs:List (List D)} (hH:Has N S st H) (hj:H[j]?=some (.deep ks x s vs)):x.cells?=some [x]:=by
 obtain⟨⟨es,h1,_⟩,_⟩:=(hH.ok j _ hj).1;exact h1.cells
theorem Has.dY {j:Nat} {x:D} {s:Nat} {es:List (List D)} (hH:Has N S st H) (hj:H[j]?=some (.aO x s es)):x.cells?=some [x]:=(hH.own hj).cells
def ra (fr:Fr):List (Nat×Operand)→List (Nat×D)→Prop
 |[],[]=>True
 |(i,o)::ps,(j,d)::qs=>i=j∧fr.ev o=d∧d.cells?=some [d]∧ra fr ps qs
 |_,_=>False
theorem mG {fr:Fr} {pl:Nat→Option (Nat×Nat)}:∀{ps:List (Nat×Operand)} {qs:List (Nat×D)} {z:List D},ra fr ps qs→(∀q∈qs,pl q.1=some (q.1,1)∧q.1<z.length)→er pl z (ps.map fun p=>(p.1,fr.ev p.2))=some (qs.foldl (fun l q=>l.set q.1 q.2) z)
 |[],[],z,_,_=>rfl
 |(i,o)::ps,(j,d)::qs,z,h,hp=>by
  obtain⟨rfl,h2,h3,h4⟩:=h;obtain⟨h5,h6⟩:=hp (i,d) (List.mem_cons_self ..);simp only[List.map_cons,er,h2,h3,h5,List.foldl_cons];rw[if_neg (by simp only[List.length_cons,List.length_nil];simp only at h6;omega)];simp only[setMany]
  exact mG h4 fun q hq=>by
   have:=hp q (List.mem_cons_of_mem _ hq)
   simpa using this
 |[],_::_,_,h,_=>h.elim
 |_::_,[],_,h,_=>h.elim
theorem ab.zK {P:Pv} {ops:Array Oper} {rest:List Oper} {fr az:Fr} {Q:Fr→St→Prop} {ty:TypeId} {pp:String} {a:Array Edge} {g:Option (Nat×Bool)} {dst:Nat} {t:TypeId} {parts:Array (Nat×Operand)} {z cs:List D} {fields:Array Field} {ps:List (Nat×Nat)} {qs:List (Nat×D)} (hg:ax ops fr ⟨some dst,.build t parts,ty,pp,a,g⟩=some true) (hz:b_ P t=some z) (hu:P.bX t=some (.struct fields)) (AX:gF P fields.toList=some ps) (he:ra fr parts.toList qs) (kr:∀q∈qs,ps[q.1]?=some (q.1,1)∧q.1<z.length) (fM:qs.foldl (fun l q=>l.set q.1 q.2) z=cs) (hp:fr.put dst (.agg cs)=az)
  (h:ab P ops rest az st Q):ab P ops (⟨some dst,.build t parts,ty,pp,a,g⟩::rest) fr st Q:=by
 refine ab.go hg rfl (d:=.agg cs) (st1:=st) ?_ hp h;simp only[cU,nT,hz,hu,AX];rw[mG (pl:=fun i=>ps[i]?) he kr,fM];rfl
theorem Has.iE {P:Pv} {fr:Fr} {a k aj off j u:Nat} {t:TypeId} {ar:Bool} {c:List D} {d e:D} (hH:Has N S st H) (ha:fr.get a=.ptr k aj off) (hj:H[j]?=some (.box k (.mem aj ar c))) (hd:dk P t (c.drop off)=some d) (he:fr.get u=e):ga P fr st [.cell a t,.tmp u]=some [d,e]:=by
 simp only[ga,eF,ha,St.mem_of (hH.at hj),Option.bind_some,hd,Option.map_some,he]
theorem ab.An {P:Pv} {ops:Array Oper} {rest:List Oper} {fr az:Fr} {Q:Fr→St→Prop} {ty:TypeId} {pp:String} {a:Array Edge} {g:Option (Nat×Bool)} {dst:Nat} {t e:TypeId} {xo io:Operand} {k v off m s o:Nat} {kk:IntKind} {i:Nat} (hg:ax ops fr ⟨some dst,.indexAddr t xo io,ty,pp,a,g⟩=some true) (hx:fr.ev xo=.ptr k v off) (hi:fr.ev io=.int kk (i:Nat)) (ht:P.bX t=some (.array m e)) (hs:bu P e=some s) (hlt:i<m) (ho:off+i*s=o) (hp:fr.put dst (.ptr k v o)=az)
  (h:ab P ops rest az st Q):ab P ops (⟨some dst,.indexAddr t xo io,ty,pp,a,g⟩::rest) fr st Q:=by
 subst ho;refine ab.go hg rfl (d:=.ptr k v (off+i*s)) (st1:=st) ?_ hp h;simp only[cU,hx,hi,bF,ht,hs,Option.bind_some];rw[if_pos ⟨by omega,by omega⟩];rfl
end Go.V
namespace Go.V
variable{P:Pv} {ops:Array Oper} {rest:List Oper} {fr az:Fr} {st st1:St} {Q:Fr→St→Prop} {ty:TypeId} {pp:String} {a:Array Edge} {g:Option (Nat×Bool)} {dst:Nat} {N:Nat} {S:St} {H:List bB} {d:D} {op:Op}
theorem qm {op:Op} {x:Operand} {d:D} (h:ab P ops rest az st Q) (dG:op=.move x∨op=.assign x:=by first|exact .inl rfl|exact .inr rfl) (hg:ax ops fr ⟨some dst,op,ty,pp,a,g⟩=some true:=by exact rfl) (hx:fr.ev x=d:=by exact ev rfl) (hp:fr.put dst d=az:=by first|exact ag rfl _|(dsimp only[Fr.put,List.set_cons_succ,List.set_cons_zero]<;>rfl)):ab P ops (⟨some dst,op,ty,pp,a,g⟩::rest) fr st Q:=
 ab.mv (dG:=dG) (hg:=hg) (hx:=hx) (hp:=hp) (h:=h)
theorem qs {op:Op} (h:ab P ops rest az st Q) (hg:ax ops fr ⟨some dst,op,ty,pp,a,g⟩=some false:=by exact rfl) (hp:fr.put dst (.tup [])=az:=by first|exact ag rfl _|(dsimp only[Fr.put,List.set_cons_succ,List.set_cons_zero]<;>rfl)):ab P ops (⟨some dst,op,ty,pp,a,g⟩::rest) fr st Q:=
 ab.skip (hg:=hg) (hp:=hp) (h:=h)
theorem qp {t:TypeId} {xo:Operand} {k aj off o f fo m:Nat} {fields:Array Field} (h:ab P ops rest az st Q) (hg:ax ops fr ⟨some dst,.fieldAddr t xo f,ty,pp,a,g⟩=some true:=by exact rfl) (hx:fr.ev xo=.ptr k aj off:=by exact ev rfl) (ht:P.bX t=some (.struct fields):=by exact rfl) (hf:iq P fields f=some (fo,some (m+1)):=by exact rfl) (ho:off+fo=o:=by exact rfl) (hp:fr.put dst (.ptr k aj o)=az:=by first|exact ag rfl _|(dsimp only[Fr.put,List.set_cons_succ,List.set_cons_zero]<;>rfl)):ab P ops (⟨some dst,.fieldAddr t xo f,ty,pp,a,g⟩::rest) fr st Q:=
 ab.Ef (hg:=hg) (hx:=hx) (ht:=ht) (hf:=hf) (ho:=ho) (hp:=hp) (h:=h)
theorem ql {j k aj off:Nat} {ar:Bool} {c:List D} {d:D} {t:TypeId} {ao:Operand} (hH:Has N S st H) (hj:H[j]?=some (.box k (.mem aj ar c))) (h:ab P ops rest az st Q) (hg:ax ops fr ⟨some dst,.load t ao,ty,pp,a,g⟩=some true:=by exact rfl) (ha:fr.ev ao=.ptr k aj off:=by exact ev rfl) (hd:dk P t (c.drop off)=some d:=by exact rfl) (hp:fr.put dst d=az:=by first|exact ag rfl _|(dsimp only[Fr.put,List.set_cons_succ,List.set_cons_zero]<;>rfl)):ab P ops (⟨some dst,.load t ao,ty,pp,a,g⟩::rest) fr st Q:=
 ab.A4 (hH:=hH) (hg:=hg) (ha:=ha) (hj:=hj) (hd:=hd) (hp:=hp) (h:=h)
theorem qg {op:Op} {d:D} {st1:St} (h:ab P ops rest az st1 Q) (hg:ax ops fr ⟨some dst,op,ty,pp,a,g⟩=some true:=by exact rfl) (hc:fI op=false:=by exact rfl) (h1:cU P fr st op ty=some (d,st1):=by exact rfl) (hp:fr.put dst d=az:=by first|exact ag rfl _|(dsimp only[Fr.put,List.set_cons_succ,List.set_cons_zero]<;>rfl)):ab P ops (⟨some dst,op,ty,pp,a,g⟩::rest) fr st Q:=
 ab.go (hg:=hg) (hc:=hc) (h1:=h1) (hp:=hp) (h:=h)
theorem qn {t e:TypeId} {xo:Operand} {x:D} {s:Nat} {es:List (List D)} (h:ab P ops rest az st Q) (hg:ax ops fr ⟨some dst,.call ⟨.builtin .len,#[xo],#[t]⟩,ty,pp,a,g⟩=some true:=by exact rfl) (hx:fr.ev xo=x:=by exact ev rfl) (hR:Rows st s x es:=by exact Arg.rows (by assumption) (by assumption)) (ht:P.bX t=some (.slice e):=by exact rfl) (hp:fr.put dst (.int .i64 (es.length:Nat))=az:=by first|exact ag rfl _|(dsimp only[Fr.put,List.set_cons_succ,List.set_cons_zero]<;>rfl)):ab P ops (⟨some dst,.call ⟨.builtin .len,#[xo],#[t]⟩,ty,pp,a,g⟩::rest) fr st Q:=
 ab.Gh (hg:=hg) (hx:=hx) (hR:=hR) (ht:=ht) (hp:=hp) (h:=h)
theorem qr {t e:TypeId} {xo io:Operand} {x:D} {s i:Nat} {kk:IntKind} {es:List (List D)} {r:List D} {az:D→Fr} (h:∀p,fR st p r→ab P ops rest (az p) st Q) (hg:ax ops fr ⟨some dst,.indexAddr t xo io,ty,pp,a,g⟩=some true:=by exact rfl) (hx:fr.ev xo=x:=by exact ev rfl) (hi:fr.ev io=.int kk (i:Nat):=by exact ev rfl) (hR:Rows st s x es:=by exact Arg.rows (by assumption) (by assumption)) (ht:P.bX t=some (.slice e):=by exact rfl) (hs:bu P e=some s:=by exact rfl) (hr:es[i]?=some r:=by assumption) (hp:∀p,fr.put dst p=az p:=by first|exact fun _=>ag rfl _|exact fun _=>by dsimp only[Fr.put,List.set_cons_succ,List.set_cons_zero]<;>rfl):ab P ops (⟨some dst,.indexAddr t xo io,ty,pp,a,g⟩::rest) fr st Q:=
 ab.Gi (hg:=hg) (hx:=hx) (hi:=hi) (hR:=hR) (ht:=ht) (hs:=hs) (hr:=hr) (hp:=hp) (h:=h)
theorem qR {t:TypeId} {ao:Operand} {x d:D} {r:List D} (h:ab P ops rest az st Q) (hg:ax ops fr ⟨some dst,.load t ao,ty,pp,a,g⟩=some true:=by exact rfl) (ha:fr.ev ao=x:=by exact ev rfl) (hR:fR st x r:=by assumption) (hd:dk P t r=some d:=by exact rfl) (hp:fr.put dst d=az:=by first|exact ag rfl _|(dsimp only[Fr.put,List.set_cons_succ,List.set_cons_zero]<;>rfl)):ab P ops (⟨some dst,.load t ao,ty,pp,a,g⟩::rest) fr st Q:=
 ab.AO (hg:=hg) (ha:=ha) (hR:=hR) (hd:=hd) (hp:=hp) (h:=h)
theorem qf {t:TypeId} {xo:Operand} {x:D} {r:List D} {f fo m:Nat} {fields:Array Field} {az:D→Fr} (h:∀p,fR st p (r.drop fo)→ab P ops rest (az p) st Q) (hg:ax ops fr ⟨some dst,.fieldAddr t xo f,ty,pp,a,g⟩=some true:=by exact rfl) (hx:fr.ev xo=x:=by exact ev rfl) (hR:fR st x r:=by assumption) (ht:P.bX t=some (.struct fields):=by exact rfl) (hf:iq P fields f=some (fo,some (m+1)):=by exact rfl) (hp:∀p,fr.put dst p=az p:=by first|exact fun _=>ag rfl _|exact fun _=>by dsimp only[Fr.put,List.set_cons_succ,List.set_cons_zero]<;>rfl):ab P ops (⟨some dst,.fieldAddr t xo f,ty,pp,a,g⟩::rest) fr st Q:=
 ab.zG (hg:=hg) (hx:=hx) (hR:=hR) (ht:=ht) (hf:=hf) (hp:=hp) (h:=h)
theorem qi {t e:TypeId} {xo io:Operand} {x:D} {s i j:Nat} {kk:IntKind} {es:List (List D)} {az:D→Fr} (hH:Has N S st H) (hj:H[j]?=some (.aO x s es)) (h:∀p,l0 x s i 0 p→ab P ops rest (az p) st Q) (hg:ax ops fr ⟨some dst,.indexAddr t xo io,ty,pp,a,g⟩=some true:=by exact rfl) (hx:fr.ev xo=x:=by exact ev rfl) (hi:fr.ev io=.int kk (i:Nat):=by exact ev rfl) (ht:P.bX t=some (.slice e):=by exact rfl) (hs:bu P e=some s:=by exact rfl) (hr:i<es.length:=by exact bR (by assumption)) (hp:∀p,fr.put dst p=az p:=by first|exact fun _=>ag rfl _|exact fun _=>by dsimp only[Fr.put,List.set_cons_succ,List.set_cons_zero]<;>rfl):ab P ops (⟨some dst,.indexAddr t xo io,ty,pp,a,g⟩::rest) fr st Q:=
 ab.Im (hH:=hH) (hg:=hg) (hx:=hx) (hi:=hi) (hj:=hj) (ht:=ht) (hs:=hs) (hr:=hr) (hp:=hp) (h:=h)
theorem qo {t:TypeId} {ao:Operand} {x y d:D} {s i o j:Nat} {es:List (List D)} {r:List D} (hH:Has N S st H) (hj:H[j]?=some (.aO x s es)) (h:ab P ops rest az st Q) (hg:ax ops fr ⟨some dst,.load t ao,ty,pp,a,g⟩=some true:=by exact rfl) (ha:fr.ev ao=y:=by exact ev rfl) (hR:l0 x s i o y:=by assumption) (hr:es[i]?=some r:=by assumption) (hd:dk P t (r.drop o)=some d:=by exact rfl) (hp:fr.put dst d=az:=by first|exact ag rfl _|(dsimp only[Fr.put,List.set_cons_succ,List.set_cons_zero]<;>rfl)):ab P ops (⟨some dst,.load t ao,ty,pp,a,g⟩::rest) fr st Q:=
 ab.AQ (hH:=hH) (hg:=hg) (ha:=ha) (hR:=hR) (hj:=hj) (hr:=hr) (hd:=hd) (hp:=hp) (h:=h)
theorem qS {j k aj:Nat} {ar:Bool} {c cs:List D} {v:D} {t:TypeId} {ao vo:Operand} (hH:Has N S st H) (hj:H[j]?=some (.box k (.mem aj ar c))) (h:∀ae,Has N S ae (H.set j (.box k (.mem aj ar cs)))→ab P ops rest fr ae Q) (hg:ax ops fr ⟨none,.store t ao vo,ty,pp,a,g⟩=some true:=by exact rfl) (ha:fr.ev ao=.ptr k aj 0:=by exact ev rfl) (hv:fr.ev vo=v:=by exact ev rfl) (fM:v.cells?=some cs:=by first|rfl|exact(dV.cells (by assumption)).1) (hs:bu P t=some cs.length:=by exact rfl) (hl:cs.length=c.length:=by exact rfl) (hw:S.flr≤N∨refs cs=0:=by first|exact .inl (by assumption)|exact .inr rfl):ab P ops (⟨none,.store t ao vo,ty,pp,a,g⟩::rest) fr st Q:=
 ab.Ab (hH:=hH) (hg:=hg) (ha:=ha) (hv:=hv) (fM:=fM) (hs:=hs) (hj:=hj) (hl:=hl) (hw:=hw) (h:=h)
theorem qT {j k aj off:Nat} {ar:Bool} {c cs:List D} {v:D} {t:TypeId} {ao vo:Operand} (hH:Has N S st H) (hj:H[j]?=some (.box k (.mem aj ar c))) (h:∀ae,Has N S ae (H.set j (.box k (.mem aj ar (setMany c off cs))))→ab P ops rest fr ae Q) (hg:ax ops fr ⟨none,.store t ao vo,ty,pp,a,g⟩=some true:=by exact rfl) (ha:fr.ev ao=.ptr k aj off:=by exact ev rfl) (hv:fr.ev vo=v:=by exact ev rfl) (fM:v.cells?=some cs:=by first|rfl|exact(dV.cells (by assumption)).1) (hs:bu P t=some cs.length:=by exact rfl) (hl:off+cs.length≤c.length:=by exact Nat.le_of_ble_eq_true rfl) (hw:S.flr≤N∨refs cs=0:=by first|exact .inl (by assumption)|exact .inr rfl):ab P ops (⟨none,.store t ao vo,ty,pp,a,g⟩::rest) fr st Q:=
 ab.ib (hH:=hH) (hg:=hg) (ha:=ha) (hv:=hv) (fM:=fM) (hs:=hs) (hj:=hj) (hl:=hl) (hw:=hw) (h:=h)
theorem qa {e:TypeId} {cs:List D} {az:Nat→Fr} (hH:Has N S st H) (h:∀k ae,S.bs.length≤k→Has N S ae (.box k (.mem 0 false cs)::H)→ab P ops rest (az k) ae Q) (hg:ax ops fr ⟨some dst,.alloc e,ty,pp,a,g⟩=some true:=by exact rfl) (hz:b_ P e=some cs:=by exact rfl) (hp:∀k,fr.put dst (.ptr k 0 0)=az k:=by first|exact fun _=>ag rfl _|exact fun _=>by dsimp only[Fr.put,List.set_cons_succ,List.set_cons_zero]<;>rfl):ab P ops (⟨some dst,.alloc e,ty,pp,a,g⟩::rest) fr st Q:=
 ab.Fc (hH:=hH) (hg:=hg) (hz:=hz) (hp:=hp) (h:=h)
theorem qb {e:TypeId} {xo:Operand} {cs:List D} {az:Nat→Fr} (hH:Has N S st H) (h:∀k ae,S.bs.length≤k→Has N S ae (.box k (.mem 0 false cs)::H)→ab P ops rest (az k) ae Q) (hg:ax ops fr ⟨some dst,.box e xo,ty,pp,a,g⟩=some true:=by exact rfl) (hz:(fr.ev xo).cells?=some cs:=by exact rfl) (hp:∀k,fr.put dst (.ptr k 0 0)=az k:=by first|exact fun _=>ag rfl _|exact fun _=>by dsimp only[Fr.put,List.set_cons_succ,List.set_cons_zero]<;>rfl):ab P ops (⟨some dst,.box e xo,ty,pp,a,g⟩::rest) fr st Q:=
 ab.tj (hH:=hH) (hg:=hg) (hz:=hz) (hp:=hp) (h:=h)
theorem qA {t l3:TypeId} {xo yo:Operand} {x y:Int} (h:ab P ops rest az st Q) (hg:ax ops fr ⟨some dst,.binOp .add t xo yo l3,ty,pp,a,g⟩=some true:=by exact rfl) (hx:fr.ev xo=.int .i64 x:=by exact ev rfl) (hy:fr.ev yo=.int .i64 y:=by exact ev rfl) (h1:-9223372036854775808≤x+y:=by omega) (h2:x+y≤9223372036854775807:=by omega) (hp:fr.put dst (.int .i64 (x+y))=az:=by first|exact ag rfl _|(dsimp only[Fr.put,List.set_cons_succ,List.set_cons_zero]<;>rfl)):ab P ops (⟨some dst,.binOp .add t xo yo l3,ty,pp,a,g⟩::rest) fr st Q:=
 ab.Fv (hg:=hg) (hx:=hx) (hy:=hy) (h1:=h1) (h2:=h2) (hp:=hp) (h:=h)
theorem qP {j:Nat} {x y:D} {s:Nat} {es ys:List (List D)} {t1 t2 e:TypeId} {td:TypeDesc} {inf:TypeInfo} {z:List D} {xo yo:Operand} {az:D→Fr} (hH:Has N S st H) (hj:H[j]?=some (.aO x s es)) (ia:Rows st s y ys) (h:∀x' ae,Has N S ae (H.set j (.aO x' s (es++ys)))→ab P ops rest (az x') ae Q) (hg:ax ops fr ⟨some dst,.call ⟨.builtin .append,#[xo,yo],#[t1,t2]⟩,ty,pp,a,g⟩=some true:=by exact rfl) (hx:fr.ev xo=x:=by exact ev rfl) (hy:fr.ev yo=y:=by exact ev rfl) (h1:P.bX t1=some (.slice e):=by exact rfl) (h2:P.bX t2=some td:=by exact rfl) (h3:eH td=false:=by exact rfl) (h4:P.info e=some inf:=by exact rfl) (h5:b_ P e=some z:=by exact rfl) (h6:inf.size=s:=by exact rfl) (h7:z.length=s:=by exact rfl) (h8:0<inf.bytes∧inf.bytes≤1024:=by exact⟨Nat.le_of_ble_eq_true rfl,Nat.le_of_ble_eq_true rfl⟩) (hp:∀x',fr.put dst x'=az x':=by first|exact fun _=>ag rfl _|exact fun _=>by dsimp only[Fr.put,List.set_cons_succ,List.set_cons_zero]<;>rfl) (hb:es.length+ys.length≤1073741824:=by first|omega|(simp only[List.length_append,List.length_cons,List.length_nil,List.length_map,List.length_replicate,List.length_set,List.length_reverse]<;>omega)) (hw:S.flr≤N∨refs ys.flatten=0:=by first|exact .inl (by assumption)|exact .inr rfl):ab P ops (⟨some dst,.call ⟨.builtin .append,#[xo,yo],#[t1,t2]⟩,ty,pp,a,g⟩::rest) fr st Q:=
 ab.bk (hH:=hH) (hg:=hg) (hx:=hx) (hy:=hy) (hj:=hj) (ia:=ia) (h1:=h1) (h2:=h2) (h3:=h3) (h4:=h4) (h5:=h5) (h6:=h6) (h7:=h7) (h8:=h8) (hp:=hp) (hb:=hb) (hw:=hw) (h:=h)
theorem qh {t e:TypeId} {m s:Nat} {parts:Array (Nat×Operand)} {z:List D} {vs:List D} {az:Nat→Fr} (hH:Has N S st H) (h:∀k ae,S.bs.length≤k→Has N S ae (.aO (.win k 0 0 m s) s (vs.map D.cells)::H)→ab P ops rest (az k) ae Q) (hg:ax ops fr ⟨some dst,.buildSlice t m parts,ty,pp,a,g⟩=some true:=by exact rfl) (ht:P.bX t=some (.slice e):=by exact rfl) (hs:bu P e=some s:=by exact rfl) (hz:b_ P e=some z:=by exact rfl) (gL:z.length=s:=by exact rfl) (hm:m*s≤16777216:=by exact Nat.le_of_ble_eq_true rfl) (HM:sf fr 0 parts.toList vs:=by first|exact⟨rfl,ev rfl,trivial⟩|exact⟨rfl,ev rfl,rfl,ev rfl,trivial⟩|exact⟨rfl,ev rfl,rfl,ev rfl,rfl,ev rfl,trivial⟩|exact⟨rfl,ev rfl,rfl,ev rfl,rfl,ev rfl,rfl,ev rfl,trivial⟩|exact⟨rfl,ev rfl,rfl,ev rfl,rfl,ev rfl,rfl,ev rfl,rfl,ev rfl,trivial⟩) (Gw:vs.length=m:=by exact rfl) (hc:∀v∈vs,v.cells?=some v.cells∧v.cells.length=s:=by intro v hv;simp only[List.mem_cons,List.not_mem_nil,or_false] at hv;first|(subst hv;exact⟨rfl,rfl⟩)|(rcases hv with rfl|rfl<;>exact⟨rfl,rfl⟩)|(rcases hv with rfl|rfl|rfl<;>exact⟨rfl,rfl⟩)|(rcases hv with rfl|rfl|rfl|rfl<;>exact⟨rfl,rfl⟩)|(rcases hv with rfl|rfl|rfl|rfl|rfl<;>exact⟨rfl,rfl⟩)) (hp:∀k,fr.put dst (.win k 0 0 m s)=az k:=by first|exact fun _=>ag rfl _|exact fun _=>by dsimp only[Fr.put,List.set_cons_succ,List.set_cons_zero]<;>rfl):ab P ops (⟨some dst,.buildSlice t m parts,ty,pp,a,g⟩::rest) fr st Q:=
 ab.G3 (hH:=hH) (hg:=hg) (ht:=ht) (hs:=hs) (hz:=hz) (gL:=gL) (hm:=hm) (HM:=HM) (Gw:=Gw) (hc:=hc) (hp:=hp) (h:=h)
theorem qv {f:Operand} {gn:Nat} {fW:List D} {args:Array Operand} {rG:Array TypeId} {d:D} {st1:St} (h1:Ev P gn (args.toList.map fr.ev++fW) st d st1) (h:ab P ops rest az st1 Q) (hg:ax ops fr ⟨some dst,.call ⟨.value f,args,rG⟩,ty,pp,a,g⟩=some true:=by exact rfl) (hf:fr.ev f=.fn gn fW:=by exact rfl) (hp:fr.put dst d=az:=by first|exact ag rfl _|(dsimp only[Fr.put,List.set_cons_succ,List.set_cons_zero]<;>rfl)):ab P ops (⟨some dst,.call ⟨.value f,args,rG⟩,ty,pp,a,g⟩::rest) fr st Q:=
 ab.lv (hg:=hg) (hf:=hf) (h1:=h1) (hp:=hp) (h:=h)
theorem qt {c x y:Operand} {v:Bool} (hv:v=true) (h:ab P ops rest az st Q) (hg:ax ops fr ⟨some dst,.pick c x y,ty,pp,a,g⟩=some true:=by exact rfl) (hc:fr.ev c=.bool v:=by exact rfl) (hp:fr.put dst (fr.ev x)=az:=by first|exact ag rfl _|(dsimp only[Fr.put,List.set_cons_succ,List.set_cons_zero]<;>rfl)):ab P ops (⟨some dst,.pick c x y,ty,pp,a,g⟩::rest) fr st Q:=
 ab.oH (hg:=hg) (hc:=hc) (hv:=hv) (hp:=hp) (h:=h)
theorem qu {c x y:Operand} {v:Bool} (hv:v=false) (h:ab P ops rest az st Q) (hg:ax ops fr ⟨some dst,.pick c x y,ty,pp,a,g⟩=some true:=by exact rfl) (hc:fr.ev c=.bool v:=by exact rfl) (hp:fr.put dst (fr.ev y)=az:=by first|exact ag rfl _|(dsimp only[Fr.put,List.set_cons_succ,List.set_cons_zero]<;>rfl)):ab P ops (⟨some dst,.pick c x y,ty,pp,a,g⟩::rest) fr st Q:=
 ab.rO (hg:=hg) (hc:=hc) (hv:=hv) (hp:=hp) (h:=h)
theorem wi {ops:Array Oper} {fr:Fr} {o:Oper} {j t:Nat} {w v:Bool} (h4:v=w) (h1:o.guard=some (j,w):=by exact rfl) (h2:(ops[j]?).bind (·.dst)=some t:=by exact rfl) (h3:fr.get t=.bool v:=by exact rfl):ax ops fr o=some true:=aM h1 h2 h3 h4
theorem wn {ops:Array Oper} {fr:Fr} {o:Oper} {j t:Nat} {w v:Bool} (h4:v=!w) (h1:o.guard=some (j,w):=by exact rfl) (h2:(ops[j]?).bind (·.dst)=some t:=by exact rfl) (h3:fr.get t=.bool v:=by exact rfl):ax ops fr o=some false:=sC h1 h2 h3 h4
theorem qc {dy:Dy} {c:Operand} {a b:Code} {v:Bool} {Q:Out→Fr→St→Prop} (h1:v=true→af P dy a fr st Q) (h2:v=false→af P dy b fr st Q) (hv:fr.ev c=.bool v:=by first|rfl|assumption):af P dy (.cond c a b) fr st Q:=af.cond hv h1 h2
theorem qq {dy:Dy} {a b:Code} {Q:Out→Fr→St→Prop} (h:af P dy a fr st (iZ P dy b Q)):af P dy (.seq a b) fr st Q:=af.seq h
theorem qj {dy:Dy} {i:Nat} {l:List Oper} {d:Bool} {n:Nat} {loc:List D} {tmp:List (Nat×D)} {Q:Out→Fr→St→Prop} (h:∀K:Out→Fr→St→Prop,Q=K→ab P l.toArray l ⟨n,loc,[]⟩ st (K .next)) (h0:dZ i dy=[]:=by rfl):af P dy (.region i l.toArray d) ⟨n,loc,tmp⟩ st Q:=af.HF (h Q rfl) h0
theorem qe {Q K:Out→Fr→St→Prop} (hK:Q=K) (h:Q .next fr st):ab P ops [] fr st (K .next):=ab.nil (hK▸h)
theorem qB {dy:Dy} {c:Operand} {a b:Code} {Q:Out→Fr→St→Prop} (h1:af P dy a fr st Q) (hv:fr.ev c=.bool true:=by first|rfl|assumption):af P dy (.cond c a b) fr st Q:=af.cond hv (fun _=>h1) (fun h=>by cases h)
theorem qC {dy:Dy} {c:Operand} {a b:Code} {Q:Out→Fr→St→Prop} (h1:af P dy b fr st Q) (hv:fr.ev c=.bool false:=by first|rfl|assumption):af P dy (.cond c a b) fr st Q:=af.cond hv (fun h=>by cases h) (fun _=>h1)
theorem qD {dy:Dy} {c:Operand} {a b:Code} {v:Bool} {Q:Out→Fr→St→Prop} (hv:fr.ev c=.bool v) (hb:v=true) (h1:af P dy a fr st Q):af P dy (.cond c a b) fr st Q:=af.cond hv (fun _=>h1) (fun h=>by rw[hb] at h;cases h)
theorem qE {dy:Dy} {c:Operand} {a b:Code} {v:Bool} {Q:Out→Fr→St→Prop} (hv:fr.ev c=.bool v) (hb:v=false) (h1:af P dy b fr st Q):af P dy (.cond c a b) fr st Q:=af.cond hv (fun h=>by rw[hb] at h;cases h) (fun _=>h1)
theorem rx:∀i:Nat,Out.ret≠Out.exit i:=fun i h=>by cases h
theorem rl {S:St} {H:List bB} {kn:Bool} {st1:St} {d d':D} (hS:S.bs=st.bs) (hH:Has st.bs.length S st1 H) (hd:aT st1 st.bs.length kn 16 d=some d'):b7 .ro kn st st1 d=some (d',st):=uF (by simp) hS hH hd
theorem ri (s0:St):(aw .ro s0).bs=s0.bs∧(aw .ro s0).flr≤s0.bs.length∧Has s0.bs.length (aw .ro s0) (aw .ro s0) []:=⟨rfl,Nat.le_refl _,Has.start (Nat.le_refl _) (Nat.le_refl _)⟩
theorem w1 {α:Type} {n:Nat} {a:α}:List.replicate (n+1) a=a::List.replicate n a:=rfl
theorem w2 {α:Type} {a:α}:List.replicate 0 a=[]:=rfl
theorem u1 {α:Type} {x:α} {l:List α} {n:Nat} {a:α}:(x::l).set (n+1) a=x::l.set n a:=rfl
theorem u2 {α:Type} {x:α} {l:List α} {a:α}:(x::l).set 0 a=a::l:=rfl
theorem u3 {α:Type} {x:α} {l m:List α}:(x::l)++m=x::(l++m):=rfl
theorem u4 {α:Type} {m:List α}:([]:List α)++m=m:=rfl
theorem u5 {α β:Type} {f:α→β} {x:α} {l:List α}:(x::l).map f=f x::l.map f:=rfl
theorem u6 {α β:Type} {f:α→β}:([]:List α).map f=[]:=rfl
theorem v1 (k:IntKind) (n:Int):fS (.int k n)=.int k n:=rfl
theorem v2 (b:Bool):fS (.bool b)=.bool b:=rfl
theorem v3 (s:ByteArray):fS (.string s)=.str s.data.toList:=rfl
theorem v4:fS (.slice none 0 0)=.nul:=rfl
theorem v5:fS (.pointer none)=.pnil:=rfl
theorem v6:fS .nilFunc=.nilfn:=rfl
theorem v7:fS .nilIface=.nilif:=rfl
theorem cs:(∀(p:Prop) [Decidable p],(decide p=true)=p)∧(∀(p:Prop) [Decidable p],(decide p=false)=¬p)∧(∀(α:Type) [BEq α] [LawfulBEq α] (a b:α),((a==b)=true)=(a=b))∧(∀(α:Type) [BEq α] [LawfulBEq α] (a b:α),((a==b)=false)=¬a=b)∧(∀(α:Type) [BEq α] [LawfulBEq α] (a b:α),((a !=b)=true)=¬a=b)∧(∀(α:Type) [BEq α] [LawfulBEq α] (a b:α),((a !=b)=false)=(a=b))∧(∀b:Bool,((!b)=true)=(b=false))∧(∀b:Bool,((!b)=false)=(b=true))∧(∀b:Bool,(¬b=true)=(b=false))∧(∀b:Bool,(¬b=false)=(b=true)):=by
 refine⟨fun p _=>by simp,fun p _=>by simp,fun α _ _ a b=>by simp,fun α _ _ a b=>by simp,fun α _ _ a b=>by simp,fun α _ _ a b=>by simp,fun b=>by simp,fun b=>by simp,fun b=>by simp,fun b=>by simp⟩
theorem xT {n t:Nat} {loc:List D} {tmp:List (Nat×D)} (h:ab P ops rest ⟨n,loc,(t,d)::tmp⟩ st1 Q) (hb:Nat.ble n t=true:=by exact rfl) (hg:ax ops ⟨n,loc,tmp⟩ ⟨some t,op,ty,pp,a,g⟩=some true:=by exact rfl) (hc:fI op=false:=by exact rfl) (h1:cU P ⟨n,loc,tmp⟩ st op ty=some (d,st1):=by exact rfl):ab P ops (⟨some t,op,ty,pp,a,g⟩::rest) ⟨n,loc,tmp⟩ st Q:=ab.T hb hg hc h1 h
theorem xo {n t:Nat} {loc:List D} {tmp:List (Nat×D)} (h:ab P ops rest ⟨n,loc,(t,.tup [])::tmp⟩ st Q) (hb:Nat.ble n t=true:=by exact rfl) (hg:ax ops ⟨n,loc,tmp⟩ ⟨some t,op,ty,pp,a,g⟩=some false:=by exact rfl):ab P ops (⟨some t,op,ty,pp,a,g⟩::rest) ⟨n,loc,tmp⟩ st Q:=ab.Io hb hg h
end Go.V
