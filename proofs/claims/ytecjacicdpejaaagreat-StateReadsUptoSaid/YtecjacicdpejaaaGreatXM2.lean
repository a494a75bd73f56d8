/-
 Functions given to V; a logic over V; heaps of one's own; no program in sight, no conditions.
-/
import Derived.Test.YtecjacicdpejaaaGreatXM4
import Derived.Test.YtecjacicdpejaaaGreatXM1
set_option linter.unusedSimpArgs false
set_option linter.unusedVariables false
set_option linter.unusedSectionVars false
set_option linter.unnecessarySimpa false
namespace Go.V
open Go.RowKit
structure fp (P:Program) (pv:Pv) (f:Nat) (p:List D→St→Option (D×St)):Prop where
 fn:∀ds st r,p ds st=some r→∃fn b,P.funcs[f]?=some fn∧fn.body=some b∧fn.name≠ "runtime.NumGoroutine"
 calls:∀ds st d ah,p ds st=some (d,ah)→∀w β Z (us:List Value),gz w st β Z→ds.length=us.length→(∀(i:Nat) c v,ds[i]?=some c→us[i]?=some v→VR w (st.x β Z) c v)→
  Calls P f us.toArray w fun e w'=>∃v β' Z',e=.returned v∧Nx w st β Z w' ah β' Z'∧VR w' (ah.x β' Z') d v∧(jY pv f=true→Quiet w w')
 ro:∀ds st d ah,p ds st=some (d,ah)→jY pv f=true→oj st ah
 len:∀ds st d ah,p ds st=some (d,ah)→dV st ah
theorem AF {pv vE:Pv} (h:∀f,jY pv f=jY vE f) (hm:∀s t,nG pv s t=nG vE s t) (ops:Array Oper) (b:Bool) (x y:Oper):kX pv ops b x y=kX vE ops b x y:=by
 have he:∀o,fh pv o=fh vE o:=by
  intro o;unfold fh
  split<;>first|rfl|exact hm _ _|skip
  rw[h]
 simp only[kX,he]
theorem xR {pv vE:Pv} (h:∀f,jY pv f=jY vE f) (hm:∀s t,nG pv s t=nG vE s t) (ops:Array Oper) (dy:List (Nat×Nat)):lB pv ops dy=lB vE ops dy:=by
 unfold lB
 congr 1
 funext j;unfold Hb
 split
 ·simp only[AF h hm]
 ·rfl
theorem dS {pv vE:Pv} (h:∀f,jY pv f=jY vE f) (hm:∀s t,nG pv s t=nG vE s t) (dyn:List (Nat×List (Nat×Nat))) (n:Nat):∀c:Code,codeOk pv dyn n c=codeOk vE dyn n c
 | .region _ ops d=>by simp only[codeOk,xR h hm]
 | .seq a b=>by simp only[codeOk,dS h hm dyn n a,dS h hm dyn n b]
 | .cond _ a b=>by simp only[codeOk,dS h hm dyn n a,dS h hm dyn n b]
 | .block _ c=>by simp only[codeOk,dS h hm dyn n c]
 | .loop c=>by simp only[codeOk,dS h hm dyn n c]
 | .skip| .rangeFunc ..| .exit _| .scope _| .label _| .goto _| .ret| .refuse _=>by simp only[codeOk]
def Pv.over (pv:Pv) (l:List (Nat×(List D→St→Option (D×St)))):Pv:=⟨pv.ty,pv.nty,pv.fs,pv.nfs,pv.eqb,l⟩
theorem CM (pv:Pv) (l) (f:Nat):jY (pv.over l) f=jY pv f:=rfl
theorem uA {f:Nat} {p}:∀{l:List (Nat×(List D→St→Option (D×St)))},lF f l=some p→(f,p)∈l
 |(g,q)::l,h=>by
  simp only[lF] at h
  split at h
  ·rename_i hb;cases h;rw[Nat.eq_of_beq_eq_true hb];exact List.mem_cons_self ..
  ·exact List.mem_cons_of_mem _ (uA h)
theorem ou {pv:Pv} {P:Program} (h:pv.Ok P∧pv.i_∧iu P pv (ek pv)) (Qi:pv.prm=[]) {l:List (Nat×(List D→St→Option (D×St)))} (hl:∀q∈l,fp P pv q.1 q.2):
  (pv.over l).Ok P∧(pv.over l).i_∧iu P (pv.over l) (ek (pv.over l)):=by
 obtain⟨h1,h2,h3⟩:=h;refine⟨⟨h1.ty,h1.fs,h1.eqb,h1.mixed⟩,fun f x b hx hp hb=>?_,?_⟩
 ·rw[dS (CM pv l) (fun _ _=>rfl)];exact h2 f x b hx hp hb
 ·have key:∀f ds st r,ek (pv.over l) f ds st=some r→(∃p,fp P pv f p∧p ds st=some r)∨ek pv f ds st=some r:=by
   intro f ds st r h;unfold ek at h
   split at h
   ·rename_i p hp;exact .inl ⟨p,hl _ (uA hp),h⟩
   ·right;unfold ek;rw[Qi];exact h
  refine⟨fun f ds st r h=>?_,fun f ds st d ah h=>?_,fun f ds st d ah h=>?_,fun f ds st d ah h=>?_⟩
  ·rcases key f ds st r h with⟨p,hp,h⟩|h
   ·exact hp.fn ds st r h
   ·exact h3.fn f ds st r h
  ·rcases key f ds st _ h with⟨p,hp,h⟩|h
   ·exact hp.calls ds st d ah h
   ·exact h3.calls f ds st d ah h
  ·rcases key f ds st _ h with⟨p,hp,h⟩|h
   ·exact hp.ro ds st d ah h
   ·exact h3.ro f ds st d ah h
  ·rcases key f ds st _ h with⟨p,hp,h⟩|h
   ·exact hp.len ds st d ah h
   ·exact h3.len f ds st d ah h
theorem gz.nil {w:World} {Z:Nat→Prop} (hZ:∀b,Z b→b<w.heap.size):gz w ⟨[],0,0⟩ (fun _=>none) Z:=
 ⟨fun _ _ _ h=>(by cases h),fun _ _ _ h=>(by cases h),fun _ _ _ _ _ h=>(by cases h),fun _ _ _ h=>(by cases h),hZ,fun _ _ _ _ h=>(by cases h),Nat.le_refl _,Nat.le_refl _⟩
theorem mQ {pv:Pv} {P:Program} (h:pv.Ok P∧pv.i_∧iu P pv (ek pv)) {n f:Nat} {ds:List D} {d:D} {qI:St} (hs:cz pv n f ds ⟨[],0,0⟩=some (d,qI)) (h0:qI.bs=[]) (hr:refs ds=0)
  (st:St) (w:World) (β:Nat→Option (Nat×Nat)) (Z:Nat→Prop) (us:List Value) (f_:gz w st β Z) (hl:ds.length=us.length) (ha:∀(i:Nat) c v,ds[i]?=some c→us[i]?=some v→VR w (st.x β Z) c v):
  Calls P f us.toArray w fun e w'=>∃v β' Z',e=.returned v∧Nx w st β Z w' st β' Z'∧VR w' (st.x β' Z') d v∧Quiet w w':=by
 have hrefs:∀(l:List D),refs l=0→∀c∈l,c.ref≤0:=by
  intro l
  induction l with
  |nil=>intro _ c hc;simp at hc
  |cons x l ih=>
   intro h c hc;simp only[refs] at h
   rcases List.mem_cons.1 hc with rfl|hc
   ·omega
   ·exact ih (by omega) c hc
 refine((iK h.1 h.2.1 h.2.2 n).calls f ds _ d qI hs w (fun _=>none) Z us (gz.nil f_.zl) hl fun i c v hc hv=>?_).mono fun e w'=>?_
 ·exact VR.cut (x:=st.x β Z) (x':=(⟨[],0,0⟩:St).x (fun _=>none) Z) (N:=0) (fun k hk=>absurd hk (Nat.not_lt_zero _)) (fun k hk=>absurd hk (Nat.not_lt_zero _)) (fun b hb=>hb) (ha i c v hc hv) (hrefs ds hr c (List.mem_of_getElem? hc))
 ·rintro⟨v,β',Z',rfl,hn,hv,_⟩
  have lb:∀k p,β' k=some p→False:=fun k p hk=>by
   have:=hn.sim.dom k p.1 p.2 hk;rw[h0] at this;simp at this
  have hq:Quiet w w':=by
   intro c hc;refine hn.evo.block c hc ?_;rintro⟨k,base,h5,_⟩;cases h5
  have JC:∀b,Z b→Z' b∧w'.heap[b]?=w.heap[b]?:=fun b hb=>⟨(hn.keeps.z b hb).1,hq b (f_.zl b hb)⟩
  have hk:dj w (st.x β Z) w' (st.x β Z'):=⟨fun k p hp=>⟨p,hp⟩,JC,fun k c p _ hc=>⟨c,hc,Nat.le_refl _⟩,fun k c _ _ b base hb=>⟨hb,dN (hq b (f_.lt k b base hb))⟩⟩
  refine⟨v,β,Z',rfl,⟨⟨f_.dom,fun k b base hb=>Nat.lt_of_lt_of_le (f_.lt k b base hb) hn.evo.size,f_.inj,fun k b base hb hz=>?_,hn.sim.zl,fun k b base bx hb ic=>(f_.box k b base bx hb ic).bW hk (hq b (f_.lt k b base hb)),f_.flr,f_.ro⟩,hk,
   ⟨hn.evo.os,hn.evo.tape,hn.evo.output,hn.evo.size,fun b hb _=>hq b hb⟩,fun k b base hb=>.inl ⟨base,hb⟩,hn.zfresh,Nat.le_refl _,rfl,rfl,fun k _=>⟨rfl,rfl⟩,fun k _ hk=>⟨hk,rfl⟩⟩,?_,hq⟩
  ·rcases hn.zfresh b hz with hz|hz
   ·exact f_.zd k b base hb hz
   ·have:=f_.lt k b base hb;omega
  ·exact VR.cut (x:=qI.x β' Z') (x':=st.x β Z') (N:=0) (fun k hk=>absurd hk (Nat.not_lt_zero _)) (fun k hk=>absurd hk (Nat.not_lt_zero _)) (fun b hb=>hb) hv (VR.ref (fun k p hk=>(lb k p hk).elim) hv)
def pB (d:D):List D→St→Option (D×St)
 |[],st=>some (d,st)
 |_::_,_=>none
theorem rX {pv:Pv} {P:Program} (h:pv.Ok P∧pv.i_∧iu P pv (ek pv)) {n f:Nat} {d:D} {qI:St} (hs:cz pv n f [] ⟨[],0,0⟩=some (d,qI)) (h0:qI.bs=[]):fp P pv f (pB d):=by
 have hc:=iK h.1 h.2.1 h.2.2 n;refine⟨fun ds st r _=>hc.fn f [] _ _ hs,fun ds st d' ah hp w β Z us f_ hl ha=>?_,fun ds st d' ah hp _=>?_,fun ds st d' ah hp=>?_⟩<;>cases ds<;>simp only[pB,Option.some.injEq,Prod.mk.injEq,reduceCtorEq] at hp
 ·obtain⟨rfl,rfl⟩:=hp;refine(mQ h hs h0 rfl st w β Z us f_ hl ha).mono fun e w'=>?_;rintro⟨v,β',Z',h1,h2,h3,h4⟩;exact⟨v,β',Z',h1,h2,h3,fun _=>h4⟩
 ·rw[←hp.2];exact .rfl _
 ·rw[←hp.2];exact dV.refl _
def iy:List (List D×D)→List D→St→Option (D×St)
 |[],_,_=>none
 |(as,d)::l,ds,st=>match jc as ds with
  |true=>some (d,st)
  |false=>iy l ds st
theorem jV:∀{l:List (List D×D)} {ds:List D} {st ah:St} {d:D},iy l ds st=some (d,ah)→(ds,d)∈l∧ah=st
 |(as,e)::l,ds,st,ah,d,h=>by
  simp only[iy] at h
  split at h
  ·rename_i hb;cases h;rw[gx _ _ hb];exact⟨List.mem_cons_self ..,rfl⟩
  ·obtain⟨h1,h2⟩:=jV h;exact⟨List.mem_cons_of_mem _ h1,h2⟩
theorem nF {pv:Pv} {P:Program} (h:pv.Ok P∧pv.i_∧iu P pv (ek pv)) {f:Nat} {l:List (List D×D)} (hl:∀q∈l,refs q.1=0∧∃n qI,cz pv n f q.1 ⟨[],0,0⟩=some (q.2,qI)∧qI.bs=[]):fp P pv f (iy l):=by
 refine⟨fun ds st r hp=>?_,fun ds st d ah hp w β Z us f_ hle ha=>?_,fun ds st d ah hp _=>by rw[(jV hp).2];exact .rfl _,fun ds st d ah hp=>?_⟩
 ·obtain⟨hm,_⟩:=jV (d:=r.1) (ah:=r.2) hp;obtain⟨_,n,qI,hs,_⟩:=hl _ hm;exact(iK h.1 h.2.1 h.2.2 n).fn f _ _ _ hs
 ·obtain⟨hm,rfl⟩:=jV hp;obtain⟨hr,n,qI,hs,h0⟩:=hl _ hm;refine(mQ h hs h0 hr ah w β Z us f_ hle ha).mono fun e w'=>?_;rintro⟨v,β',Z',h1,h2,h3,h4⟩;exact⟨v,β',Z',h1,h2,h3,fun _=>h4⟩
 ·rw[(jV hp).2];exact dV.refl _
def og:List iN→List iN→Bool
 |[],[]=>true
 |a::l,b::m=>ta a b &&og l m
 |_,_=>false
def B9 (a b:St):Bool:=Nat.beq a.flr b.flr &&Nat.beq a.ro b.ro &&og a.bs b.bs
theorem pT:∀{a b:List iN},og a b=true→a=b
 |[],[],_=>rfl
 |a::l,b::m,h=>by
  simp only[og,Bool.and_eq_true] at h;rw[ve h.1,pT h.2]
 |[],_::_,h=>by cases h
 |_::_,[],h=>by cases h
theorem yV {a b:St} (h:B9 a b=true):a=b:=by
 obtain⟨x,y,z⟩:=a;obtain⟨x',y',z'⟩:=b;simp only[B9,Bool.and_eq_true] at h;have h1:=Nat.eq_of_beq_eq_true h.1.1;have h2:=Nat.eq_of_beq_eq_true h.1.2;have h3:=pT h.2;rw[h1,h2,h3]
def j_ (d:D) (st:St):Option (D×St)→Bool
 |some (e,ah)=>fk e d &&B9 ah st
 |none=>false
theorem lI {d:D} {st:St} {r:Option (D×St)} (h:j_ d st r=true):r=some (d,st):=by
 match r,h with
 |some (e,ah),h=>
  simp only[j_,Bool.and_eq_true] at h;rw[re e d h.1,yV h.2]
def pA:List ((List D×St)×(D×St))→List D→St→Option (D×St)
 |[],_,_=>none
 |(k,r)::l,ds,st=>match jc k.1 ds &&B9 k.2 st with
  |true=>some r
  |false=>pA l ds st
theorem jU:∀{l:List ((List D×St)×(D×St))} {ds:List D} {st:St} {r:D×St},pA l ds st=some r→((ds,st),r)∈l
 |(k,r')::l,ds,st,r,h=>by
  simp only[pA] at h
  split at h
  ·rename_i hb;simp only[Bool.and_eq_true] at hb;cases h;obtain⟨k1,k2⟩:=k;rw[←gx _ _ hb.1,←yV hb.2];exact List.mem_cons_self ..
  ·exact List.mem_cons_of_mem _ (jU h)
theorem x0 {pv vE:Pv} {P:Program} (h:vE.Ok P∧vE.i_∧iu P vE (ek vE)) (di:∀f,jY vE f=jY pv f) {f:Nat} {l:List ((List D×St)×(D×St))} (hl:∀q∈l,∃n,cz vE n f q.1.1 q.1.2=some q.2):fp P pv f (pA l):=by
 refine⟨fun ds st r hp=>?_,fun ds st d ah hp w β Z us f_ hle ha=>?_,fun ds st d ah hp hr=>?_,fun ds st d ah hp=>?_⟩
 ·obtain⟨n,hn⟩:=hl _ (jU hp);exact(iK h.1 h.2.1 h.2.2 n).fn f _ _ _ hn
 ·obtain⟨n,hn⟩:=hl _ (jU hp);have:=(iK h.1 h.2.1 h.2.2 n).calls f _ _ _ _ hn w β Z us f_ hle ha;rw[di] at this;exact this
 ·obtain⟨n,hn⟩:=hl _ (jU hp);exact(iK h.1 h.2.1 h.2.2 n).ro f _ _ _ _ hn (by rw[di];exact hr)
 ·obtain⟨n,hn⟩:=hl _ (jU hp);exact(iK h.1 h.2.1 h.2.2 n).len f _ _ _ _ hn
end Go.V
namespace Go.V
section
variable(P:Pv)
def Ev (f:Nat) (args:List D) (st:St) (d:D) (ah:St):Prop:=
 ∃N,∀n,N≤n→cz P n f args st=some (d,ah)
abbrev Dy:=List (Nat×List (Nat×Nat))
def ak (dy:Dy) (c:Code) (fr:Fr) (st:St) (Q:Out→Fr→St→Prop):Prop:=
 ∃o aE ah,(∃N,∀n,N≤n→bT P (cz P n) dy n c fr st=some (o,aE,ah))∧Q o aE ah
def aa (ops:Array Oper) (l:List Oper) (fr:Fr) (st:St) (Q:Fr→St→Prop):Prop:=
 ∃aE ah,(∃N,∀n,N≤n→ji P (cz P n) ops l fr st=some (aE,ah))∧Q aE ah
def eD (dy:Dy) (b:Code) (Q:Out→Fr→St→Prop):Out→Fr→St→Prop
 | .next,fr,st=>ak P dy b fr st Q
 | .exit i,fr,st=>Q (.exit i) fr st
 | .ret,fr,st=>Q .ret fr st
def Gw (id:Nat) (Q:Out→Fr→St→Prop):Out→Fr→St→Prop
 | .next,fr,st=>Q .next fr st
 | .exit i,fr,st=>if i=id then Q .next fr st else Q (.exit i) fr st
 | .ret,fr,st=>Q .ret fr st
def OO (I:Nat→Fr→St→Prop) (k:Nat) (Q:Out→Fr→St→Prop):Out→Fr→St→Prop
 | .next,fr,st=>∃j,j<k∧I j fr st
 | .exit i,fr,st=>Q (.exit i) fr st
 | .ret,fr,st=>Q .ret fr st
def qw (ops:Array Oper) (dy:List (Nat×Nat)) (j:Nat) (log:Log) (l:List Oper) (fr:Fr) (st:St) (Q:Fr→St→Prop):Prop:=
 ∃aE ah,(∃N,∀n,N≤n→pU P (cz P n) ops dy j log l fr st=some (aE,ah))∧Q aE ah
variable{P} {dy:Dy}
theorem ak.mono {c:Code} {fr st} {Q Q':Out→Fr→St→Prop} (h:ak P dy c fr st Q) (hq:∀o aE ah,Q o aE ah→Q' o aE ah):ak P dy c fr st Q':=by
 obtain⟨o,aE,ah,h1,h2⟩:=h;exact⟨o,aE,ah,h1,hq _ _ _ h2⟩
theorem ak.skip {fr st} {Q:Out→Fr→St→Prop} (h:Q .next fr st):ak P dy .skip fr st Q:=⟨_,_,_,⟨0,fun n _=>by simp only[bT]⟩,h⟩
theorem ak.exit {fr st i} {Q:Out→Fr→St→Prop} (h:Q (.exit i) fr st):ak P dy (.exit i) fr st Q:=⟨_,_,_,⟨0,fun n _=>by simp only[bT]⟩,h⟩
theorem ak.ret {fr st} {Q:Out→Fr→St→Prop} (h:Q .ret fr st):ak P dy .ret fr st Q:=⟨_,_,_,⟨0,fun n _=>by simp only[bT]⟩,h⟩
theorem ak.region {i ops d fr st} {Q:Out→Fr→St→Prop} (h:aa P ops ops.toList fr.clean st (Q .next)) (h0:gO i dy=[]:=by rfl):ak P dy (.region i ops d) fr st Q:=by
 obtain⟨aE,ah,⟨N,hN⟩,hq⟩:=h;exact⟨_,aE,ah,⟨N,fun n hn=>by simp only[bT,h0,xA,hN n hn]⟩,hq⟩
theorem ak.G7 {i ops d fr st} {Q:Out→Fr→St→Prop} {p:Nat×Nat} {ps:List (Nat×Nat)} (h0:gO i dy=p::ps) (h:qw P ops (p::ps) 0 [] ops.toList fr.clean st (Q .next)):ak P dy (.region i ops d) fr st Q:=by
 obtain⟨aE,ah,⟨N,hN⟩,hq⟩:=h;exact⟨_,aE,ah,⟨N,fun n hn=>by simp only[bT,h0,xA,hN n hn]⟩,hq⟩
theorem ak.seq {a b fr st} {Q:Out→Fr→St→Prop} (h:ak P dy a fr st (eD P dy b Q)):ak P dy (.seq a b) fr st Q:=by
 obtain⟨o,aE,ah,⟨N,hN⟩,hq⟩:=h
 cases o with
 |next=>
  obtain⟨o,Ku,st2,⟨M,hM⟩,hq⟩:=hq;exact⟨o,Ku,st2,⟨max N M,fun n hn=>by simp only[bT,hN n (by omega),hM n (by omega)]⟩,hq⟩
 |exit i=>exact⟨_,aE,ah,⟨N,fun n hn=>by simp only[bT,hN n hn]⟩,hq⟩
 |ret=>exact⟨_,aE,ah,⟨N,fun n hn=>by simp only[bT,hN n hn]⟩,hq⟩
theorem ak.cond {c a b fr st v} {Q:Out→Fr→St→Prop} (hv:fr.ev c=.bool v) (h1:v=true→ak P dy a fr st Q) (h2:v=false→ak P dy b fr st Q):ak P dy (.cond c a b) fr st Q:=by
 cases v with
 |true=>
  obtain⟨o,aE,ah,⟨N,hN⟩,hq⟩:=h1 rfl;exact⟨o,aE,ah,⟨N,fun n hn=>by simp only[bT,hv,hN n hn]⟩,hq⟩
 |false=>
  obtain⟨o,aE,ah,⟨N,hN⟩,hq⟩:=h2 rfl;exact⟨o,aE,ah,⟨N,fun n hn=>by simp only[bT,hv,hN n hn]⟩,hq⟩
theorem ak.block {id c fr st} {Q:Out→Fr→St→Prop} (h:ak P dy c fr st (Gw id Q)):ak P dy (.block id c) fr st Q:=by
 obtain⟨o,aE,ah,⟨N,hN⟩,hq⟩:=h
 cases o with
 |next=>exact⟨_,aE,ah,⟨N,fun n hn=>by simp only[bT,hN n hn]⟩,hq⟩
 |exit i=>
  simp only[Gw] at hq
  split at hq
  ·rename_i hi;exact⟨_,aE,ah,⟨N,fun n hn=>by simp only[bT,hN n hn,if_pos hi]⟩,hq⟩
  ·rename_i hi;exact⟨_,aE,ah,⟨N,fun n hn=>by simp only[bT,hN n hn,if_neg hi]⟩,hq⟩
 |ret=>exact⟨_,aE,ah,⟨N,fun n hn=>by simp only[bT,hN n hn]⟩,hq⟩
theorem ak.loop {c:Code} {fr st} {Q:Out→Fr→St→Prop} (I:Nat→Fr→St→Prop) (k:Nat) (h0:I k fr st) (h:∀k fr st,I k fr st→ak P dy c fr.clean st (OO I k Q)):ak P dy (.loop c) fr st Q:=by
 have key:∀k fr st,I k fr st→∃o aE ah,(∃N,∀n,N≤n→∀m,N≤m→iter (bT P (cz P n) dy n c) m fr st=some (o,aE,ah))∧(Q o aE ah):=by
  intro k
  induction k using Nat.strongRecOn with
  |ind k ih=>
   intro fr st hi;obtain⟨o,aE,ah,⟨N,hN⟩,hq⟩:=h k fr st hi
   cases o with
   |next=>
    obtain⟨j,hj,iW⟩:=hq;obtain⟨o,Ku,st2,⟨M,hM⟩,hq⟩:=ih j hj aE ah iW;refine⟨o,Ku,st2,⟨max N M+1,fun n hn m hm=>?_⟩,hq⟩
    obtain⟨m,rfl⟩:∃m',m=m'+1:=⟨m-1,by omega⟩
    simp only[iter,hN n (by omega),hM n (by omega) m (by omega)]
   |exit i=>
    refine⟨_,aE,ah,⟨N+1,fun n hn m hm=>?_⟩,hq⟩
    obtain⟨m,rfl⟩:∃m',m=m'+1:=⟨m-1,by omega⟩
    simp only[iter,hN n (by omega)]
   |ret=>
    refine⟨_,aE,ah,⟨N+1,fun n hn m hm=>?_⟩,hq⟩
    obtain⟨m,rfl⟩:∃m',m=m'+1:=⟨m-1,by omega⟩
    simp only[iter,hN n (by omega)]
 obtain⟨o,aE,ah,⟨N,hN⟩,hq⟩:=key k fr st h0;exact⟨o,aE,ah,⟨N,fun n hn=>by simp only[bT,hN n hn n hn]⟩,hq⟩
theorem Ev.of {f x body args st d ah} (hq:lF f P.prm=none) (hf:P.fi f=some x) (hp:x.jS=none) (hb:x.fn.body=some body)
  (h:ak P x.dyn body (pad x.nloc args) (ae x.mode st) fun o fr st1=>(∀i,o≠.exit i)∧∃ds,ki P fr st1 x.fn.results.toList=some ds∧da x.mode x.knul st st1 (tz ds)=some (d,ah)):Ev P f args st d ah:=by
 obtain⟨o,aE,st1,⟨N,hN⟩,ho,ds,hr,hl⟩:=h;refine⟨N+1,fun n hn=>?_⟩
 obtain⟨m,rfl⟩:∃m',n=m'+1:=⟨n-1,by omega⟩
 simp only[cz,hq,hf,hp,hb,yU];rw[hN m (by omega)]
 cases o with
 |next=>simp only[hr,hl]
 |exit i=>exact absurd rfl (ho i)
 |ret=>simp only[hr,hl]
theorem aa.nil {ops fr st} {Q:Fr→St→Prop} (h:Q fr st):aa P ops [] fr st Q:=⟨fr,st,⟨0,fun n _=>rfl⟩,h⟩
def iV:Op→Bool
 | .call ⟨.value _,_,_⟩=>true
 |_=>false
theorem Eo {cf fr st} {o:Oper} (h:iV o.op=false):eW P cf fr st o=dq P fr st o.op o.type:=by
 unfold eW
 split
 ·rename_i heq;rw[heq] at h;simp[iV] at h
 ·rfl
theorem aa.op {ops o rest fr st d st1} {Q:Fr→St→Prop} (hg:aA ops fr o=some true) (hc:iV o.op=false) (h1:dq P fr st o.op o.type=some (d,st1))
  (h:aa P ops rest (fr.e5 o.dst d) st1 Q):aa P ops (o::rest) fr st Q:=by
 obtain⟨aE,ah,⟨N,hN⟩,hq⟩:=h;exact⟨aE,ah,⟨N,fun n hn=>by simp only[ji,hg,Eo hc,h1,hN n hn]⟩,hq⟩
theorem aa.off {ops o rest fr st} {Q:Fr→St→Prop} (hg:aA ops fr o=some false)
  (h:aa P ops rest (fr.e5 o.dst (.tup [])) st Q):aa P ops (o::rest) fr st Q:=by
 obtain⟨aE,ah,⟨N,hN⟩,hq⟩:=h;exact⟨aE,ah,⟨N,fun n hn=>by simp only[ji,hg,hN n hn]⟩,hq⟩
theorem aa.call {ops rest fr st d st1 f g jH args w6 dst type pos} {after guard} {Q:Fr→St→Prop} (hg:aA ops fr ⟨dst,.call ⟨.value f,args,w6⟩,type,pos,after,guard⟩=some true) (hf:fr.ev f=.fn g jH)
  (h1:Ev P g (args.toList.map fr.ev++jH) st d st1)
  (h:aa P ops rest (fr.e5 dst d) st1 Q):aa P ops (⟨dst,.call ⟨.value f,args,w6⟩,type,pos,after,guard⟩::rest) fr st Q:=by
 obtain⟨aE,ah,⟨N,hN⟩,hq⟩:=h;obtain⟨M,hM⟩:=h1;exact⟨aE,ah,⟨max N M,fun n hn=>by simp only[ji,hg,eW,hf,hM n (by omega),hN n (by omega)]⟩,hq⟩
theorem qw.nil {ops ys j log fr st} {Q:Fr→St→Prop} (h:Q fr st):qw P ops ys j log [] fr st Q:=⟨fr,st,⟨0,fun n _=>rfl⟩,h⟩
theorem qw.cons {ops ys j log o rest fr st} {Q:Fr→St→Prop} (h:aa P ops [o] fr st fun aE ah=>F_ ys j log o fr st ah=true∧qw P ops ys (j+1) ((o,fr,st,ah)::log) rest aE ah Q):qw P ops ys j log (o::rest) fr st Q:=by
 obtain⟨Kv,st1,⟨N,hN⟩,hc,Ku,st2,⟨M,hM⟩,hq⟩:=h;refine⟨Ku,st2,⟨max N M,fun n hn=>?_⟩,hq⟩;have h1:=hN n (by omega);have h2:=hM n (by omega);simp only[ji] at h1;simp only[pU]
 split at h1
 ·rename_i hw
  split at h1
  ·rename_i d ah gb;cases h1;simp only[hc,h2]
  ·cases h1
 ·rename_i hw;cases h1;exact h2
 ·cases h1
theorem Ev.out {f args st d ah} (h:Ev P f args st d ah):∃N,∀n,N≤n→cz P n f args st=some (d,ah):=h
theorem Ev.jS {f args st d ah p} (hq:lF f P.prm=some p) (h:p args st=some (d,ah)):Ev P f args st d ah:=
 ⟨1,fun n hn=>by
  obtain⟨m,rfl⟩:∃m',n=m'+1:=⟨n-1,by omega⟩
  simp only[cz,hq,h]⟩
end
attribute [irreducible] Ev ak aa qw
end Go.V
namespace Go.V
theorem ak.jg {P:Pv} {dy:Dy} {i:Nat} {l:List Oper} {d n loc tmp st} {Q:Out→Fr→St→Prop} (h:aa P l.toArray l ⟨n,loc,[]⟩ st (Q .next)) (h0:gO i dy=[]:=by rfl):ak P dy (.region i l.toArray d) ⟨n,loc,tmp⟩ st Q:=ak.region h h0
theorem ak.Lp {P:Pv} {dy:Dy} {i:Nat} {l:List Oper} {d n loc tmp st} {Q:Out→Fr→St→Prop} {p:Nat×Nat} {ps:List (Nat×Nat)} (h0:gO i dy=p::ps) (h:qw P l.toArray (p::ps) 0 [] l ⟨n,loc,[]⟩ st (Q .next)):ak P dy (.region i l.toArray d) ⟨n,loc,tmp⟩ st Q:=ak.G7 h0 h
theorem Ev.ia {P:Pv} {f x body args st d ah n loc} (hq:lF f P.prm=none) (hf:P.fi f=some x) (hp:x.jS=none) (hb:x.fn.body=some body) (E5:pad x.nloc args=⟨n,loc,[]⟩)
  (h:ak P x.dyn body ⟨n,loc,[]⟩ (ae x.mode st) fun o fr st1=>(∀i,o≠.exit i)∧∃ds,ki P fr st1 x.fn.results.toList=some ds∧da x.mode x.knul st st1 (tz ds)=some (d,ah)):Ev P f args st d ah:=
 Ev.of hq hf hp hb (by rw[E5];exact h)
section
variable{P:Pv} {ops:Array Oper} {rest:List Oper} {n:Nat} {loc:List D} {tmp:List (Nat×D)} {st st1:St} {Q:Fr→St→Prop} {op:Op} {ty:TypeId} {p:String} {a:Array Edge} {g:Option (Nat×Bool)} {t:Nat} {d:D}
theorem ab (hb:Nat.ble n t=true) (d:D):Fr.put ⟨n,loc,tmp⟩ t d=⟨n,loc,(t,d)::tmp⟩:=by
 simp only[Fr.put,hb]
theorem IE (hb:Nat.ble n t=false) (d:D):Fr.put ⟨n,loc,tmp⟩ t d=⟨n,loc.set t d,tmp⟩:=by
 simp only[Fr.put,hb]
theorem aa.T (hb:Nat.ble n t=true) (hg:aA ops ⟨n,loc,tmp⟩ ⟨some t,op,ty,p,a,g⟩=some true) (hc:iV op=false) (h1:dq P ⟨n,loc,tmp⟩ st op ty=some (d,st1))
  (h:aa P ops rest ⟨n,loc,(t,d)::tmp⟩ st1 Q):aa P ops (⟨some t,op,ty,p,a,g⟩::rest) ⟨n,loc,tmp⟩ st Q:=
 aa.op hg hc h1 (by show aa P ops rest (Fr.put _ t d) st1 Q;rw[ab hb];exact h)
theorem aa.L (hb:Nat.ble n t=false) (hg:aA ops ⟨n,loc,tmp⟩ ⟨some t,op,ty,p,a,g⟩=some true) (hc:iV op=false) (h1:dq P ⟨n,loc,tmp⟩ st op ty=some (d,st1))
  (h:aa P ops rest ⟨n,loc.set t d,tmp⟩ st1 Q):aa P ops (⟨some t,op,ty,p,a,g⟩::rest) ⟨n,loc,tmp⟩ st Q:=
 aa.op hg hc h1 (by show aa P ops rest (Fr.put _ t d) st1 Q;rw[IE hb];exact h)
theorem aa.N {fr:Fr} (hg:aA ops fr ⟨none,op,ty,p,a,g⟩=some true) (hc:iV op=false) (h1:dq P fr st op ty=some (d,st1))
  (h:aa P ops rest fr st1 Q):aa P ops (⟨none,op,ty,p,a,g⟩::rest) fr st Q:=aa.op hg hc h1 h
theorem aa.PM (hb:Nat.ble n t=true) (hg:aA ops ⟨n,loc,tmp⟩ ⟨some t,op,ty,p,a,g⟩=some false)
  (h:aa P ops rest ⟨n,loc,(t,.tup [])::tmp⟩ st Q):aa P ops (⟨some t,op,ty,p,a,g⟩::rest) ⟨n,loc,tmp⟩ st Q:=
 aa.off hg (by show aa P ops rest (Fr.put _ t _) st Q;rw[ab hb];exact h)
theorem aa.PN (hb:Nat.ble n t=false) (hg:aA ops ⟨n,loc,tmp⟩ ⟨some t,op,ty,p,a,g⟩=some false)
  (h:aa P ops rest ⟨n,loc.set t (.tup []),tmp⟩ st Q):aa P ops (⟨some t,op,ty,p,a,g⟩::rest) ⟨n,loc,tmp⟩ st Q:=
 aa.off hg (by show aa P ops rest (Fr.put _ t _) st Q;rw[IE hb];exact h)
theorem aa.oa {f gn:_} {jH:List D} {args:Array Operand} {w6:Array TypeId} (hb:Nat.ble n t=true) (hg:aA ops ⟨n,loc,tmp⟩ ⟨some t,.call ⟨.value f,args,w6⟩,ty,p,a,g⟩=some true) (hf:Fr.ev ⟨n,loc,tmp⟩ f=.fn gn jH)
  (h1:Ev P gn (args.toList.map (Fr.ev ⟨n,loc,tmp⟩)++jH) st d st1)
  (h:aa P ops rest ⟨n,loc,(t,d)::tmp⟩ st1 Q):aa P ops (⟨some t,.call ⟨.value f,args,w6⟩,ty,p,a,g⟩::rest) ⟨n,loc,tmp⟩ st Q:=
 aa.call hg hf h1 (by show aa P ops rest (Fr.put _ t d) st1 Q;rw[ab hb];exact h)
end
inductive Rows (st:St) (s:Nat):D→List (List D)→Prop where
 |nul:Rows st s .nul []
 |sl (es:List D) (h:∀e∈es,e.cells?=some e.cells∧e.cells.length=s):Rows st s (.sl es) (es.map D.cells)
 |win (k az off:Nat) (es:List (List D)) (ar:Bool) (c:List D) (hm:st.eP k az=some (ar,c)) (hl:off+es.length*s≤c.length)
   (he:∀(i:Nat) e,es[i]?=some e→(c.drop (off+i*s)).take s=e):Rows st s (.win k az off es.length s) es
theorem Rows.sW {st:St} {s:Nat} {x:D} {es:List (List D)} (h:Rows st s x es):∀(i:Nat) e,es[i]?=some e→e.length=s:=by
 cases h with
 |nul=>intro i e h;simp at h
 |sl es h=>
  intro i e hi;rw[List.getElem?_map] at hi;obtain⟨d,hd,rfl⟩:=Option.map_eq_some_iff.1 hi;exact(h d (List.mem_of_getElem? hd)).2
 |win k az off es ar c hm hl he=>
  intro i e hi
  have hlt:i<es.length:=by
   rcases Nat.lt_or_ge i es.length with h'|h'
   ·exact h'
   ·rw[List.getElem?_eq_none h'] at hi;cases hi
  rw[←he i e hi];have:(i+1)*s≤es.length*s:=Nat.mul_le_mul_right s hlt;rw[Nat.add_mul] at this
  simp;omega
theorem Rows.len {st:St} {s:Nat} {x:D} {es:List (List D)} (h:Rows st s x es):x_ x=some es.length∧∀b,x≠.str b:=by
 cases h with
 |nul=>exact⟨rfl,fun b h=>by cases h⟩
 |sl es h=>exact⟨by simp[x_],fun b h=>by cases h⟩
 |win k az off es ar c hm hl he=>exact⟨rfl,fun b h=>by cases h⟩
theorem Rows.IF {P:Pv} {st:St} {s:Nat} {x:D} {es:List (List D)} (h:Rows st s x es) {t e:TypeId} (ht:P.ch t=some (.slice e)):
  bc P .len [t] [x] st=some (.int .i64 (es.length:Nat),st):=by
 obtain⟨h1,h2⟩:=h.len;simp only[bc,ht]
 cases x with
 |str b=>exact absurd rfl (h2 b)
 |_=>simp only[h1];rfl
theorem za {P:Pv} {e:TypeId} {c c':List D} {s:Nat} {d:D} (hs:cg P e=some s) (hc:c.take s=c') (hl:c'.length=s) (h:du P e c'=some d):du P e c=some d:=by
 have hlen:s≤c.length:=by rw[←hc] at hl;simp at hl;omega
 unfold du at h⊢
 cases hu:P.ch e with
 |none=>rw[hu] at h;cases h
 |some u=>
  rw[hu] at h
  cases u with
  |struct f=>
   simp only[hs,Option.bind_some] at h⊢;rw[if_pos (by omega)] at h;rw[if_pos hlen,hc];rw[←h,List.take_of_length_le (by omega)]
  |array n f=>
   simp only[hs,Option.bind_some] at h⊢;rw[if_pos (by omega)] at h;rw[if_pos hlen,hc];rw[←h,List.take_of_length_le (by omega)]
  |_=>
   simp only at h⊢;rw[←h,←hc]
   cases c with
   |nil=>simp
   |cons x xs=>
    cases s with
    |zero=>simp at hc;subst hc;simp at h
    |succ s=>simp
theorem Rows.idx {P:Pv} {st:St} {s:Nat} {x:D} {es:List (List D)} (h:Rows st s x es) {t e:TypeId} (ht:P.ch t=some (.slice e)) (hs:cg P e=some s) {k:IntKind} {i:Int} {r:List D} (h0:0≤i) (hi:es[i.toNat]?=some r):
  ∃p,bQ P t x (.int k i) st=some p∧∀d,du P e r=some d→gH P e p st=some d:=by
 cases h with
 |nul=>simp at hi
 |sl es h=>
  rw[List.getElem?_map] at hi;obtain⟨d,hd,rfl⟩:=Option.map_eq_some_iff.1 hi;obtain⟨h1,h2⟩:=h d (List.mem_of_getElem? hd);refine⟨.ep d.cells,?_,fun d' h=>h⟩;simp only[bQ,ht,hs,Option.bind_some,if_pos h0,hd,h1,if_pos h2]
 |win k az off es ar c hm hl he=>
  have hlt:i.toNat<es.length:=by
   rcases Nat.lt_or_ge i.toNat es.length with h'|h'
   ·exact h'
   ·rw[List.getElem?_eq_none h'] at hi;cases hi
  refine⟨.ptr k az (off+i.toNat*s),?_,fun d' h=>?_⟩
  ·simp only[bQ,ht,hs,Option.bind_some,hm,Option.isSome_some];rw[if_pos ⟨trivial,h0,by omega,trivial⟩]
  ·simp only[gH,hm,Option.bind_some];exact za hs (he _ _ hi) (Rows.sW (.win k az off es ar c hm hl he) _ _ hi) h
theorem aa.dz {P:Pv} {ops:Array Oper} {rest:List Oper} {n:Nat} {loc:List D} {tmp:List (Nat×D)} {st:St} {Q:Fr→St→Prop} {t e:TypeId} {xo io:Operand} {d1 d2:Nat} {SE mE:TypeId} {p1 p2:String} {a1 a2:Array Edge} {g1 g2:Option (Nat×Bool)} {x:D} {k:IntKind} {i:Int} {s:Nat} {es:List (List D)} {r:List D} {d:D}
  (hb1:Nat.ble n d1=true) (hb2:Nat.ble n d2=true) (lM:aA ops ⟨n,loc,tmp⟩ ⟨some d1,.indexAddr t xo io,SE,p1,a1,g1⟩=some true) (cu:∀p,aA ops ⟨n,loc,(d1,p)::tmp⟩ ⟨some d2,.load e (.tmp d1),mE,p2,a2,g2⟩=some true)
  (hx:Fr.ev ⟨n,loc,tmp⟩ xo=x) (hi:Fr.ev ⟨n,loc,tmp⟩ io=.int k i) (hR:Rows st s x es) (ht:P.ch t=some (.slice e)) (hs:cg P e=some s) (h0:0≤i) (hr:es[i.toNat]?=some r) (hd:du P e r=some d)
  (h:∀p,aa P ops rest ⟨n,loc,(d2,d)::(d1,p)::tmp⟩ st Q):aa P ops (⟨some d1,.indexAddr t xo io,SE,p1,a1,g1⟩::⟨some d2,.load e (.tmp d1),mE,p2,a2,g2⟩::rest) ⟨n,loc,tmp⟩ st Q:=by
 obtain⟨p,h1,h2⟩:=hR.idx ht hs (k:=k) h0 hr;refine aa.T hb1 lM rfl (d:=p) (st1:=st) (by simp only[dq,hx,hi,h1,Option.map_some])<|aa.T hb2 (cu p) rfl (d:=d) (st1:=st) ?_ (h p)
 have:Fr.ev ⟨n,loc,(d1,p)::tmp⟩ (.tmp d1)=p:=by
  simp only[Fr.ev,Fr.get,hb1,look];have:Nat.beq d1 d1=true:=Nat.beq_refl d1;rw[this]
 simp only[dq,this,h2 d hd,Option.map_some]
def byteCells (b:List UInt8):List (List D):=b.map fun y=>[.int .u8 (y.toNat:Nat)]
def Bytes (st:St) (x:D) (b:List UInt8):Prop:=Rows st 1 x (byteCells b)
theorem aH {m:Mode} {kn:Bool} {st st1:St} {d d':D} (hm:m≠.bW∧m≠.nw) (h1:st1.bs.take st.bs.length=st.bs) (hd:bd st1 st.bs.length kn 16 d=some d'):da m kn st st1 d=some (d',st):=by
 cases m with
 |bW=>exact absurd rfl hm.1
 |nw=>exact absurd rfl hm.2
 |_=>simp only[da,hd,h1]
end Go.V
namespace Go.V
structure Ex (N:Nat) (st ah:St):Prop where
 low:∀k,k<N→ah.bs[k]?=st.bs[k]?
 len:st.bs.length≤ah.bs.length
 flr:ah.flr=st.flr
 ro:ah.ro=st.ro
theorem Ex.refl (N:Nat) (st:St):Ex N st st:=⟨fun _ _=>rfl,Nat.le_refl _,rfl,rfl⟩
theorem Ex.trans {N:Nat} {a b c:St} (h:Ex N a b) (g:Ex N b c):Ex N a c:=
 ⟨fun k hk=>(g.low k hk).trans (h.low k hk),Nat.le_trans h.len g.len,g.flr.trans h.flr,g.ro.trans h.ro⟩
theorem Ex.push {N:Nat} {st:St} (h:N≤st.bs.length) (b:iN):Ex N st (st.push b):=
 ⟨fun k hk=>by simp only[St.push];rw[List.getElem?_append_left (by omega)],by simp[St.push],rfl,rfl⟩
theorem Ex.set {N:Nat} {st:St} {k:Nat} (h:N≤k) (b:iN):Ex N st {st with bs:=st.bs.set k b}:=
 ⟨fun j hj=>by simp only;rw[List.getElem?_set_ne (by omega)],by simp,rfl,rfl⟩
theorem Ex.take {N:Nat} {st ah:St} (h:Ex N st ah) (hN:N=st.bs.length):ah.bs.take N=st.bs:=by
 apply List.ext_getElem?;intro k;rw[List.getElem?_take]
 split
 ·exact h.low k (by assumption)
 ·rw[List.getElem?_eq_none (by omega)]
theorem Ex.mem {N:Nat} {st ah:St} (h:Ex N st ah) {k v:Nat} (hk:k<N):ah.eP k v=st.eP k v:=by
 simp only[St.eP,h.low k hk]
theorem Rows.ex {N:Nat} {st ah:St} (h:Ex N st ah) {s:Nat} {x:D} {es:List (List D)} (hr:Rows st s x es) (hx:x.ref≤N):Rows ah s x es:=by
 cases hr with
 |nul=>exact .nul
 |sl es h=>exact .sl es h
 |win k az off es ar c hm hl he=>exact .win k az off es ar c (by rw[h.mem (by simp only[D.ref] at hx;omega)];exact hm) hl he
theorem Rows.slice {P:Pv} {st:St} {s:Nat} {x:D} {es:List (List D)} (h:Rows st s x es) {t e:TypeId} (ht:P.ch t=some (.slice e)) (hs:cg P e=some s) {lo hi:Option D} {l r:Nat} (hb:cC es.length lo hi=some (l,r)) (pI:l≤r∧r≤es.length):
  ∃y,eG P t x lo hi st=some y∧Rows st s y ((es.take r).drop l)∧y.ref≤x.ref:=by
 cases h with
 |nul=>
  refine⟨.nul,?_,?_,Nat.le_refl _⟩
  ·simp only[eG,ht,hs,Option.bind_some];simp only[List.length_nil] at hb;rw[hb];rfl
  ·simp;exact .nul
 |sl es h=>
  refine⟨.sl ((es.take r).drop l),?_,?_,by simp[D.ref]⟩
  ·simp only[eG,ht,hs,Option.bind_some]
   have:mV s es=true:=by
    cases es with
    |nil=>rfl
    |cons e es=>obtain⟨h1,h2⟩:=h e (List.mem_cons_self ..);simp[mV,h1,h2]
   rw[if_pos this];simp only[List.length_map] at hb;rw[hb];rfl
  ·have:=Rows.sl (st:=st) (s:=s) ((es.take r).drop l) fun e he=>h e (List.mem_of_mem_take (List.mem_of_mem_drop he))
   simpa[List.map_drop,List.map_take] using this
 |win k az off es ar c hm hl he=>
  have hlen:((es.take r).drop l).length=r-l:=by simp;omega
  refine⟨.win k az (off+l*s) (r-l) s,?_,?_,by simp[D.ref]⟩
  ·simp only[eG,ht,hs,Option.bind_some,if_true,hb];rfl
  ·have h1:l*s+(r-l)*s≤es.length*s:=by rw[←Nat.add_mul];exact Nat.mul_le_mul_right s (by omega)
   have:=Rows.win (st:=st) (s:=s) k az (off+l*s) ((es.take r).drop l) ar c hm (by rw[hlen];omega) (fun i e hi=>by
    rw[List.getElem?_drop,List.getElem?_take] at hi
    split at hi
    ·have:=he _ _ hi;rw[←this,Nat.add_mul];congr 2;omega
    ·cases hi)
   rwa [hlen] at this
inductive Acc (N:Nat) (st:St) (s:Nat):D→List (List D)→Prop where
 |nul:Acc N st s .nul []
 |win (k az:Nat) (es:List (List D)) (hN:N≤k) (hm:st.bs[k]?=some (.mem az true es.flatten)) (he:∀e∈es,e.length=s):Acc N st s (.win k az 0 es.length s) es
theorem cE {s:Nat}:∀{es:List (List D)},(∀e∈es,e.length=s)→es.flatten.length=es.length*s
 |[],_=>by simp
 |e::es,h=>by
  have:=cE (s:=s) (es:=es) fun x hx=>h x (List.mem_cons_of_mem _ hx);simp only[List.flatten_cons,List.length_append,List.length_cons,this,h e (List.mem_cons_self ..)];rw[Nat.add_mul];omega
theorem mg {s:Nat}:∀{es:List (List D)},(∀e∈es,e.length=s)→∀(i:Nat) e,es[i]?=some e→(es.flatten.drop (i*s)).take s=e
 |[],_,i,e,h=>by simp at h
 |x::es,h,0,e,hi=>by
  simp at hi;subst hi;have:=h x (List.mem_cons_self ..);simp[List.take_left' this]
 |x::es,h,i+1,e,hi=>by
  simp only[List.getElem?_cons_succ] at hi;have hx:=h x (List.mem_cons_self ..);have:=mg (s:=s) (es:=es) (fun y hy=>h y (List.mem_cons_of_mem _ hy)) i e hi;rw[←this,List.flatten_cons,Nat.add_mul,Nat.one_mul,Nat.add_comm,←hx,←List.drop_drop,List.drop_left]
theorem St.mem_of {st:St} {k az:Nat} {ar:Bool} {c:List D} (h:st.bs[k]?=some (.mem az ar c)):st.eP k az=some (ar,c):=by
 simp only[St.eP,h,if_true]
theorem Acc.rows {N:Nat} {st:St} {s:Nat} {x:D} {es:List (List D)} (h:Acc N st s x es):Rows st s x es:=by
 cases h with
 |nul=>exact .nul
 |win k az es hN hm he=>
  exact .win k az 0 es true es.flatten (St.mem_of hm) (by rw[cE he];omega) fun i e hi=>by rw[Nat.zero_add];exact mg he i e hi
theorem Acc.ex {N M:Nat} {st ah:St} (h:Ex M st ah) {s:Nat} {x:D} {es:List (List D)} (hr:Acc N st s x es) (hx:x.ref≤M):Acc N ah s x es:=by
 cases hr with
 |nul=>exact .nul
 |win k az es hN hm he=>exact .win k az es hN (by rw[h.low k (by simp only[D.ref] at hx;omega)];exact hm) he
theorem Acc.push {N:Nat} {st:St} {s:Nat} {x:D} {es:List (List D)} (hr:Acc N st s x es) (b:iN):Acc N (st.push b) s x es:=by
 cases hr with
 |nul=>exact .nul
 |win k az es hN hm he=>
  refine .win k az es hN ?_ he;simp only[St.push];rw[List.getElem?_append_left];exact hm
  rcases Nat.lt_or_ge k st.bs.length with h'|h'
  ·exact h'
  ·rw[List.getElem?_eq_none h'] at hm;cases hm
theorem Rows.row {st:St} {s:Nat} {x:D} {es:List (List D)} (h:Rows st s x es):ny st x=some (es.length,es.flatten):=by
 have hl:=h.sW
 cases h with
 |nul=>rfl
 |sl es h=>
  simp only[ny,List.length_map];rw[List.flatMap_def]
 |win k az off es ar c hm iM he=>
  simp only[ny,hm,Option.bind_some,if_pos iM]
  congr 2
  have key:∀(es:List (List D)) (c:List D),es.length*s≤c.length→(∀(i:Nat) e,es[i]?=some e→(c.drop (i*s)).take s=e)→c.take (es.length*s)=es.flatten:=by
   intro es
   induction es with
   |nil=>intro c _ _;simp
   |cons e es ih=>
    intro c hc hx;have h0:=hx 0 e rfl;simp only[Nat.zero_mul,List.drop_zero] at h0;rw[List.flatten_cons,List.length_cons,Nat.add_mul,Nat.one_mul,Nat.add_comm,List.take_add,h0]
    congr 1
    simp only[List.length_cons,Nat.add_mul,Nat.one_mul] at hc;refine ih (c.drop s) (by simp;omega) fun i e hi=>?_;rw[List.drop_drop,←hx (i+1) e (by simpa using hi),Nat.add_mul,Nat.one_mul,Nat.add_comm]
  refine key es (c.drop off) (by simp;omega) fun i e hi=>?_;rw[List.drop_drop];exact he i e hi
theorem Acc.append {P:Pv} {N:Nat} {st:St} {s:Nat} {x y:D} {es ys:List (List D)} (hr:Acc N st s x es) (hy:Rows st s y ys) {t1 t2 e:TypeId} {td:TypeDesc} {inf:TypeInfo} {z:List D}
  (h1:P.ch t1=some (.slice e)) (h2:P.ch t2=some td) (h3:eJ td=false) (h4:P.info e=some inf) (h5:cO P e=some z) (h6:inf.size=s) (h7:z.length=s) (h8:inf.bytes≠0)
  (hN:N≤st.bs.length) (hf:st.flr≤N) (di:st.ro≤N) (hb:(es.length+ys.length)*inf.bytes≤1099511627776):
  ∃x' ah,bc P .append [t1,t2] [x,y] st=some (x',ah)∧Acc N ah s x' (es++ys)∧Ex N st ah∧x'.ref≤ah.bs.length∧(∀k,k<st.bs.length→k+1≠x.ref→ah.bs[k]?=st.bs[k]?)∧(x'.ref=x.ref∨st.bs.length<x'.ref):=by
 have jj:=hy.row
 have y3:∀e∈ys,e.length=s:=fun e he=>by
  obtain⟨i,hi⟩:=List.getElem?_of_mem he;exact hy.sW i e hi
 have mb:=cE y3;subst h6;simp only[bc,gy,h1,h2,h3,Bool.false_eq_true,if_false,h4,h5,jj,Option.bind_some];rw[if_neg (by rintro(h|h|h);exact h mb;exact h8 h;exact h h7)]
 cases hr with
 |nul=>
  simp only[List.nil_append]
  by_cases h0:ys.length=0
  ·rw[if_pos h0]
   have:ys=[]:=by cases ys with|nil=>rfl|cons _ _=>simp at h0
   subst this;exact⟨.nul,st,rfl,.nul,Ex.refl _ _,by simp[D.ref],fun _ _ _=>rfl,.inl rfl⟩
  ·rw[if_neg h0,if_pos (by simpa using hb)];refine⟨_,_,rfl,?_,Ex.push hN _,by simp[D.ref,St.push],fun k hk _=>by simp only[St.push];rw[List.getElem?_append_left hk],.inr (by simp[D.ref])⟩;exact .win _ _ ys hN (by simp[St.push]) y3
 |win k az es hk hm he=>
  have j4:k<st.bs.length:=by
   rcases Nat.lt_or_ge k st.bs.length with h'|h'
   ·exact h'
   ·rw[List.getElem?_eq_none h'] at hm;cases hm
  simp only[St.mem_of hm];rw[if_neg (by rintro(h|h);exact h rfl;rw[cE he] at h;omega)]
  by_cases h0:ys.length=0
  ·rw[if_pos h0]
   have:ys=[]:=by cases ys with|nil=>rfl|cons _ _=>simp at h0
   subst this;simp only[List.append_nil];exact⟨_,st,rfl,.win k az es hk hm he,Ex.refl _ _,by simp only[D.ref];omega,fun _ _ _=>rfl,.inl rfl⟩
  ·rw[if_neg h0,if_pos ⟨hb,by simp only[St.ja,Bool.and_eq_true,Bool.or_eq_true,decide_eq_true_eq];exact⟨by omega,.inl (by omega)⟩⟩];refine⟨_,_,rfl,?_,Ex.set hk _,by simp only[D.ref,List.length_set];omega,fun j hj hne=>by simp only;rw[List.getElem?_set_ne (by simp only[D.ref] at hne;omega)],.inl rfl⟩
   have:(es.flatten.take (0+es.length*inf.size)).drop 0++ys.flatten=(es++ys).flatten:=by
    rw[Nat.zero_add,←cE he,List.take_length,List.drop_zero,List.flatten_append]
   rw[this];have tp:es.length+ys.length=(es++ys).length:=by simp
   rw[tp]
   exact .win k (az+1) (es++ys) hk (by simp[j4]) fun e h=>by
    rcases List.mem_append.1 h with h|h
    ·exact he e h
    ·exact y3 e h
def ck:D→Bool
 | .bool _| .int _ _| .str _| .sl _=>true
 |_=>false
theorem kz {st:St} {N n:Nat}:∀{l:List D},(∀d∈l,ck d=true)→iH (ej st N (n+1)) l=some l
 |[],_=>rfl
 |d::l,h=>by
  have h1:=h d (List.mem_cons_self ..);have h2:=kz (st:=st) (N:=N) (n:=n) fun x hx=>h x (List.mem_cons_of_mem _ hx);have h3:ej st N (n+1) d=some d:=by cases d<;>simp[ck] at h1<;>rfl
  simp only[iH,h3,h2]
def j7 (s:Nat) (e:List D):D:=match s with|1=>e.headD .bj|_=>.agg e
theorem fW {s:Nat}:∀{es:List (List D)},(∀e∈es,e.length=s)→chunk s es.length es.flatten=es.map (j7 s)
 |[],_=>rfl
 |e::es,h=>by
  have he:=h e (List.mem_cons_self ..);have ih:=fW (s:=s) (es:=es) fun x hx=>h x (List.mem_cons_of_mem _ hx);simp only[List.length_cons,chunk,List.flatten_cons,List.map_cons]
  congr 1
  ·by_cases hs:s=1
   ·subst hs
    cases e with
    |nil=>simp at he
    |cons x xs=>simp[j7]
   ·have h1:j7 s e=.agg e:=by unfold j7;split;exact absurd rfl hs;rfl
    have h2:(match s with|1=>(e++es.flatten).headD .bj|_=>D.agg ((e++es.flatten).take s))=.agg e:=by
     split
     ·exact absurd rfl hs
     ·rw[List.take_left' he]
    rw[h1];exact h2
  ·rw[List.drop_left' he];exact ih
theorem Acc.freeze {N:Nat} {st:St} {s:Nat} {x:D} {es:List (List D)} (h:Acc N st s x es) (hp:∀e∈es,∀d∈e,ck d=true) {n:Nat} (hn:2≤n):bd st N false (n+1) x=some (.sl (es.map (j7 s))):=by
 obtain⟨n,rfl⟩:∃m,n=m+2:=⟨n-2,by omega⟩
 cases h with
 |nul=>rfl
 |win k az es hN hm he=>
  show(if k<N then some (D.win k az 0 es.length s) else ej st N (n+2) (.win k az 0 es.length s))=_;rw[if_neg (show¬k<N by omega),ej];simp only[if_neg (show¬k<N by omega),St.mem_of hm,Option.bind_some];rw[if_pos (by rw[cE he];omega)];have:(es.flatten.drop 0).take (es.length*s)=es.flatten:=by rw[List.drop_zero,←cE he,List.take_length]
  rw[this,kz (fun d hd=>by
   obtain⟨e,qZ,BP⟩:=List.mem_flatten.1 hd
   exact hp e qZ d BP)]
  simp only[Option.map_some,fW he]
theorem mj {s:Nat} {e:List D} (h:e.length=s) (hp:∀d∈e,ck d=true):(j7 s e).cells?=some (j7 s e).cells∧(j7 s e).cells=e:=by
 by_cases hs:s=1
 ·subst hs
  match e,h with
  |[x],_=>
   have:=hp x (List.mem_cons_self ..);cases x<;>simp[ck] at this<;>exact⟨rfl,rfl⟩
 ·have:j7 s e=.agg e:=by unfold j7;split;exact absurd rfl hs;rfl
  rw[this];exact⟨rfl,rfl⟩
theorem Rows.nC {st:St} {s:Nat} {es:List (List D)} (h:∀e∈es,e.length=s) (hp:∀e∈es,∀d∈e,ck d=true):Rows st s (.sl (es.map (j7 s))) es:=by
 have:=Rows.sl (st:=st) (s:=s) (es.map (j7 s)) fun d hd=>by
  obtain⟨e,he,rfl⟩:=List.mem_map.1 hd;obtain⟨h1,h2⟩:=mj (h e he) (hp e he);exact⟨h1,by rw[h2];exact h e he⟩
 have h2:(es.map (j7 s)).map D.cells=es:=by
  rw[List.map_map]
  conv=>rhs;rw[←List.map_id es]
  refine List.map_congr_left fun e he=>?_;exact(mj (h e he) (hp e he)).2
 rwa [h2] at this
theorem Rows.bs {st ah:St} (h:ah.bs=st.bs) {s:Nat} {x:D} {es:List (List D)} (hr:Rows st s x es):Rows ah s x es:=by
 cases hr with
 |nul=>exact .nul
 |sl es h=>exact .sl es h
 |win k az off es ar c hm hl he=>exact .win k az off es ar c (by simp only[St.eP,h] at hm⊢;exact hm) hl he
theorem FX (m:Mode) (st:St):(ae m st).bs=st.bs:=by cases m<;>rfl
theorem Rows.enter {st:St} {s:Nat} {x:D} {es:List (List D)} (m:Mode) (hr:Rows st s x es):Rows (ae m st) s x es:=hr.bs (FX m st)
theorem bA {k:IntKind} {m:Nat} (h:m≤fQ k):a7 k (m:Int)=m:=by
 show a7 k (.ofNat m)=_;unfold a7;simp only[Nat.ble_eq_true_of_le h];rfl
theorem wrap_i64 {n : Int} (h1 : -9223372036854775808 ≤ n) (h2 : n ≤ 9223372036854775807) : a7 .i64 n = n := by
  cases n with
  | ofNat m => exact bA (k := .i64) (m := m) (by simp only [fQ]; have : (Int.ofNat m) = (m : Int) := rfl; omega)
  | negSucc m =>
    unfold a7
    have : Nat.ble (vM .i64) m = false := by
      cases hb : Nat.ble (vM .i64) m with
      | false => rfl
      | true => have := Nat.le_of_ble_eq_true hb; simp only [vM] at this; have : Int.negSucc m = -(m : Int) - 1 := by omega
                omega
    simp only [this]
theorem bv_and {w a b:Nat} (ha:a<2^w) (hb:b<2^w):(BitVec.ofInt w (a:Int) &&&BitVec.ofInt w (b:Int)).toNat=a &&&b:=by
 rw[BitVec.ofInt_natCast,BitVec.ofInt_natCast,BitVec.toNat_and,BitVec.toNat_ofNat,BitVec.toNat_ofNat,Nat.mod_eq_of_lt ha,Nat.mod_eq_of_lt hb]
theorem OK {w a b:Nat} (ha:a<2^w) (hb:b<2^w):(BitVec.ofInt w (a:Int)|||BitVec.ofInt w (b:Int)).toNat=a|||b:=by
 rw[BitVec.ofInt_natCast,BitVec.ofInt_natCast,BitVec.toNat_or,BitVec.toNat_ofNat,BitVec.toNat_ofNat,Nat.mod_eq_of_lt ha,Nat.mod_eq_of_lt hb]
end Go.V
namespace Go.V
theorem ew {a b:Int} (h:a=b):(a==b)=true:=by simp[h]
theorem gw {a b:Int} (h:a≠b):(a==b)=false:=by simp[h]
theorem eu {a b:Int} (h:a≠b):(a !=b)=true:=by simp[h]
theorem gv {a b:Int} (h:a=b):(a !=b)=false:=by simp[h]
variable{P:Pv} {ops:Array Oper} {rest:List Oper} {n:Nat} {loc:List D} {tmp:List (Nat×D)} {st:St} {Q:Fr→St→Prop} {ty:TypeId} {p:String} {a:Array Edge} {g:Option (Nat×Bool)} {dst:Nat}
theorem aa.len {t e:TypeId} {xo:Operand} {x:D} {s:Nat} {es:List (List D)} (oq:Nat.ble n dst=true) (hg:aA ops ⟨n,loc,tmp⟩ ⟨some dst,.call ⟨.builtin .len,#[xo],#[t]⟩,ty,p,a,g⟩=some true) (hx:Fr.ev ⟨n,loc,tmp⟩ xo=x) (hR:Rows st s x es) (ht:P.ch t=some (.slice e))
  (h:aa P ops rest ⟨n,loc,(dst,(.int .i64 (es.length:Nat)))::tmp⟩ st Q):aa P ops (⟨some dst,.call ⟨.builtin .len,#[xo],#[t]⟩,ty,p,a,g⟩::rest) ⟨n,loc,tmp⟩ st Q:=by
 refine aa.T oq hg rfl (d:=.int .i64 (es.length:Nat)) (st1:=st) ?_ h;simp only[dq,List.map_cons,List.map_nil,hx];exact hR.IF ht
theorem aa.slice {t e:TypeId} {xo:Operand} {lo hi:Option Operand} {x:D} {s:Nat} {es:List (List D)} {l r:Nat} (oq:Nat.ble n dst=true) (hg:aA ops ⟨n,loc,tmp⟩ ⟨some dst,.slice t xo lo hi none,ty,p,a,g⟩=some true) (hx:Fr.ev ⟨n,loc,tmp⟩ xo=x) (hR:Rows st s x es) (ht:P.ch t=some (.slice e)) (hs:cg P e=some s)
  (hb:cC es.length (lo.map (Fr.ev ⟨n,loc,tmp⟩)) (hi.map (Fr.ev ⟨n,loc,tmp⟩))=some (l,r)) (pI:l≤r∧r≤es.length)
  (h:∀y,Rows st s y ((es.take r).drop l)→y.ref≤x.ref→aa P ops rest ⟨n,loc,(dst,y)::tmp⟩ st Q):aa P ops (⟨some dst,.slice t xo lo hi none,ty,p,a,g⟩::rest) ⟨n,loc,tmp⟩ st Q:=by
 obtain⟨y,h1,h2,h3⟩:=hR.slice ht hs hb pI;refine aa.T oq hg rfl (d:=y) (st1:=st) ?_ (h y h2 h3);simp only[dq,hx,h1,Option.map_some]
theorem aa.append {N:Nat} {t1 t2 e:TypeId} {td:TypeDesc} {inf:TypeInfo} {z:List D} {xo yo:Operand} {x y:D} {s:Nat} {es ys:List (List D)} (oq:Nat.ble n dst=true) (hg:aA ops ⟨n,loc,tmp⟩ ⟨some dst,.call ⟨.builtin .append,#[xo,yo],#[t1,t2]⟩,ty,p,a,g⟩=some true)
  (hx:Fr.ev ⟨n,loc,tmp⟩ xo=x) (hy:Fr.ev ⟨n,loc,tmp⟩ yo=y) (hr:Acc N st s x es) (jr:Rows st s y ys)
  (h1:P.ch t1=some (.slice e)) (h2:P.ch t2=some td) (h3:eJ td=false) (h4:P.info e=some inf) (h5:cO P e=some z) (h6:inf.size=s) (h7:z.length=s) (h8:inf.bytes≠0)
  (hN:N≤st.bs.length) (hf:st.flr≤N) (di:st.ro≤N) (hb:(es.length+ys.length)*inf.bytes≤1099511627776)
  (h:∀x' ah,Acc N ah s x' (es++ys)→Ex N st ah→x'.ref≤ah.bs.length→(∀k,k<st.bs.length→k+1≠x.ref→ah.bs[k]?=st.bs[k]?)→(x'.ref=x.ref∨st.bs.length<x'.ref)→aa P ops rest ⟨n,loc,(dst,x')::tmp⟩ ah Q):
  aa P ops (⟨some dst,.call ⟨.builtin .append,#[xo,yo],#[t1,t2]⟩,ty,p,a,g⟩::rest) ⟨n,loc,tmp⟩ st Q:=by
 obtain⟨x',ah,q1,q2,q3,q4,q5,q6⟩:=hr.append jr h1 h2 h3 h4 h5 h6 h7 h8 hN hf di hb;refine aa.T oq hg rfl (d:=x') (st1:=ah) ?_ (h x' ah q2 q3 q4 q5 q6);simp only[dq,List.map_cons,List.map_nil,hx,hy];exact q1
theorem Rows.one {st:St} {s:Nat} {c:List D} (hc:c.length=s):Rows (st.push (.mem 0 true c)) s (.win st.bs.length 0 0 1 s) [c]:=by
 have:=Rows.win (st:=st.push (.mem 0 true c)) (s:=s) st.bs.length 0 0 [c] true c (St.mem_of (by simp[St.push])) (by simp[hc]) fun i e hi=>by
  cases i with
  |zero=>simp at hi;subst hi;simp[←hc]
  |succ i=>simp at hi
 exact this
theorem Rows.ref {st:St} {s:Nat} {x:D} {es:List (List D)} (h:Rows st s x es):x.ref≤st.bs.length:=by
 cases h with
 |nul=>simp[D.ref]
 |sl es h=>simp[D.ref]
 |win k az off es ar c hm hl he=>
  simp only[D.ref]
  rcases Nat.lt_or_ge k st.bs.length with h'|h'
  ·exact h'
  ·simp only[St.eP,List.getElem?_eq_none h'] at hm;cases hm
theorem Acc.ref {N:Nat} {st:St} {s:Nat} {x:D} {es:List (List D)} (h:Acc N st s x es):x.ref≤st.bs.length:=h.rows.ref
end Go.V
namespace Go.V
theorem fN:∀(xs c:List D) (off:Nat),off+xs.length≤c.length→setMany c off xs=c.take off++xs++c.drop (off+xs.length)
 |[],c,off,h=>by simp[setMany]
 |x::xs,c,off,h=>by
  simp only[setMany];simp only[List.length_cons] at h;rw[fN xs (c.set off x) (off+1) (by simp;omega)]
  have h1:(c.set off x).take (off+1)=c.take off++[x]:=by
   rw[List.take_set,List.take_add_one,List.getElem?_eq_getElem (by omega:off<c.length)];simp only[Option.toList_some];rw[List.set_append_right _ _ (by simp;omega)];have:off-(c.take off).length=0:=by simp;omega
   rw[this];rfl
  have h2:(c.set off x).drop (off+1+xs.length)=c.drop (off+(xs.length+1)):=by
   rw[List.drop_set_of_lt (by omega)];congr 1;omega
  rw[h1,h2];simp[List.length_cons]
theorem xF {st:St} {b b':iN} {k:Nat} (hk:k=st.bs.length):(⟨(st.push b).bs.set k b',(st.push b).flr,(st.push b).ro⟩:St)=st.push b':=by
 subst hk;simp[St.push,List.set_append_right]
theorem jm (st:St) (b:iN):(st.push b).bs[st.bs.length]?=some b:=by simp[St.push]
variable{P:Pv} {ops:Array Oper} {rest:List Oper} {n:Nat} {loc:List D} {tmp:List (Nat×D)} {st:St} {Q:Fr→St→Prop} {ty:TypeId} {p:String} {a:Array Edge} {g:Option (Nat×Bool)} {dst:Nat}
theorem aa.makeSlice {t e:TypeId} {lo co:Operand} {k1 k2:IntKind} {m:Nat} {inf:TypeInfo} {z:List D} (oq:Nat.ble n dst=true) (hg:aA ops ⟨n,loc,tmp⟩ ⟨some dst,.makeSlice t lo co,ty,p,a,g⟩=some true)
  (hl:Fr.ev ⟨n,loc,tmp⟩ lo=.int k1 (m:Nat)) (hc:Fr.ev ⟨n,loc,tmp⟩ co=.int k2 (m:Nat)) (ht:P.ch t=some (.slice e)) (hi:P.info e=some inf) (hz:cO P e=some z) (kZ:z.length=inf.size) (hm:m*inf.bytes≤140737488355328) (HQ:m≤9223372036854775807)
  (h:aa P ops rest ⟨n,loc,(dst,.win st.bs.length 0 0 m inf.size)::tmp⟩ (st.push (.mem 0 true (eZ m z))) Q):aa P ops (⟨some dst,.makeSlice t lo co,ty,p,a,g⟩::rest) ⟨n,loc,tmp⟩ st Q:=by
 refine aa.T oq hg rfl (d:=.win st.bs.length 0 0 m inf.size) (st1:=st.push (.mem 0 true (eZ m z))) ?_ h;simp only[dq,hl,hc,fS,ht,hi,hz,Option.bind_some];rw[if_pos ⟨kZ,by omega,by omega,by omega,by rw[←Int.natCast_mul];omega⟩]
 rfl
theorem lg {k az off:Nat} {ar:Bool} {c cs:List D} (hm:st.bs[k]?=some (.mem az ar c)) (hl:off+cs.length≤c.length) (hw:st.ja k (refs cs)=true):st.wr k az off cs=some {st with bs:=st.bs.set k (.mem az ar (c.take off++cs++c.drop (off+cs.length)))}:=by
 simp only[St.wr,St.mem_of hm];rw[if_pos ⟨hl,hw⟩,fN _ _ _ hl]
theorem Gf {N k r:Nat} (hk:N≤k) (hf:st.flr≤N) (di:st.ro≤N):st.ja k r=true:=by
 simp only[St.ja,Bool.and_eq_true,Bool.or_eq_true,decide_eq_true_eq];exact⟨by omega,.inl (by omega)⟩
theorem va {k:Nat} (di:st.ro≤k):st.ja k 0=true:=by
 simp only[St.ja,Bool.and_eq_true,Bool.or_eq_true,decide_eq_true_eq];exact⟨di,.inr (.inl (by omega))⟩
theorem aa.copy {t1 t2 e:TypeId} {Sg so:Operand} {k az off len s:Nat} {y:D} {ys:List (List D)} {ar:Bool} {c:List D} (oq:Nat.ble n dst=true) (hg:aA ops ⟨n,loc,tmp⟩ ⟨some dst,.call ⟨.builtin .copy,#[Sg,so],#[t1,t2]⟩,ty,p,a,g⟩=some true)
  (hd:Fr.ev ⟨n,loc,tmp⟩ Sg=.win k az off len s) (hy:Fr.ev ⟨n,loc,tmp⟩ so=y) (hR:Rows st s y ys) (ht:P.ch t1=some (.slice e)) (hs:cg P e=some s) (hm:st.bs[k]?=some (.mem az ar c)) (hl:off+len*s≤c.length)
  (hw:st.ja k (refs (ys.flatten.take (min ys.length len*s)))=true)
  (h:aa P ops rest ⟨n,loc,(dst,.int .i64 (min ys.length len:Nat))::tmp⟩ {st with bs:=st.bs.set k (.mem az ar (c.take off++ys.flatten.take (min ys.length len*s)++c.drop (off+min ys.length len*s)))} Q):
  aa P ops (⟨some dst,.call ⟨.builtin .copy,#[Sg,so],#[t1,t2]⟩,ty,p,a,g⟩::rest) ⟨n,loc,tmp⟩ st Q:=by
 have y3:∀e∈ys,e.length=s:=fun e he=>by
  obtain⟨i,hi⟩:=List.getElem?_of_mem he;exact hR.sW i e hi
 have mb:=cE y3;have yn:min ys.length len*s≤ys.length*s:=Nat.mul_le_mul_right s (Nat.min_le_left _ _);have Tq:min ys.length len*s≤len*s:=Nat.mul_le_mul_right s (Nat.min_le_right _ _);have nM:(ys.flatten.take (min ys.length len*s)).length=min ys.length len*s:=by rw[List.length_take,mb];omega
 refine aa.T oq hg rfl (d:=.int .i64 (min ys.length len:Nat)) (st1:={st with bs:=st.bs.set k (.mem az ar (c.take off++ys.flatten.take (min ys.length len*s)++c.drop (off+min ys.length len*s)))}) ?_ h;simp only[dq,List.map_cons,List.map_nil,hd,hy,bc,uW,ht,hs,Option.bind_some,hR.row];rw[if_neg (by simp[mb])];simp only[ne_eq,not_true_eq_false,if_false];have:=lg (st:=st) hm (cs:=ys.flatten.take (min ys.length len*s)) (off:=off) (by rw[nM];omega) hw;rw[this,nM];rfl
theorem aa.store {fr:Fr} {t:TypeId} {ao vo:Operand} {k az off:Nat} {v:D} {cs:List D} {ar:Bool} {c:List D} (hg:aA ops fr ⟨none,.store t ao vo,ty,p,a,g⟩=some true) (ha:fr.ev ao=.ptr k az off) (hv:fr.ev vo=v)
  (lf:v.cells?=some cs) (hs:cg P t=some cs.length) (hm:st.bs[k]?=some (.mem az ar c)) (hl:off+cs.length≤c.length) (hw:st.ja k (refs cs)=true)
  (h:aa P ops rest fr {st with bs:=st.bs.set k (.mem az ar (c.take off++cs++c.drop (off+cs.length)))} Q):aa P ops (⟨none,.store t ao vo,ty,p,a,g⟩::rest) fr st Q:=by
 refine aa.N hg rfl (d:=.tup []) (st1:=_) ?_ h;simp only[dq,ha,hv,kc,lf,hs];rw[if_pos trivial,lg hm hl hw];rfl
theorem aa.load {t:TypeId} {ao:Operand} {k az off:Nat} {d:D} {ar:Bool} {c:List D} (oq:Nat.ble n dst=true) (hg:aA ops ⟨n,loc,tmp⟩ ⟨some dst,.load t ao,ty,p,a,g⟩=some true) (ha:Fr.ev ⟨n,loc,tmp⟩ ao=.ptr k az off)
  (hm:st.bs[k]?=some (.mem az ar c)) (hd:du P t (c.drop off)=some d)
  (h:aa P ops rest ⟨n,loc,(dst,d)::tmp⟩ st Q):aa P ops (⟨some dst,.load t ao,ty,p,a,g⟩::rest) ⟨n,loc,tmp⟩ st Q:=by
 refine aa.T oq hg rfl (d:=d) (st1:=st) ?_ h;simp only[dq,ha,gH,St.mem_of hm,Option.bind_some,hd,Option.map_some]
theorem aa.next {io:Operand} {k pos:Nat} {b:List UInt8} (oq:Nat.ble n dst=true) (hg:aA ops ⟨n,loc,tmp⟩ ⟨some dst,.next io true,ty,p,a,g⟩=some true) (hx:Fr.ev ⟨n,loc,tmp⟩ io=.ptr k 0 0) (hm:st.bs[k]?=some (.iter b pos)) (hp:pos<b.length) (hw:st.ja k 0=true)
  (h:aa P ops rest ⟨n,loc,(dst,.tup [.bool true,.int .i64 (pos:Nat),.int .i32 ((Utf8.decode ⟨b.toArray⟩ pos).1:Nat)])::tmp⟩ {st with bs:=st.bs.set k (.iter b (pos+(Utf8.decode ⟨b.toArray⟩ pos).2))} Q):aa P ops (⟨some dst,.next io true,ty,p,a,g⟩::rest) ⟨n,loc,tmp⟩ st Q:=by
 refine aa.T oq hg rfl (d:=.tup [.bool true,.int .i64 (pos:Nat),.int .i32 ((Utf8.decode ⟨b.toArray⟩ pos).1:Nat)]) (st1:={st with bs:=st.bs.set k (.iter b (pos+(Utf8.decode ⟨b.toArray⟩ pos).2))}) ?_ h;simp only[dq,hx,ui,hm,if_pos hp,hw,if_true]
theorem aa.xb {t e:TypeId} {xo:Operand} {lo hi:Option Operand} {k v off m s l r:Nat} {ar:Bool} {c:List D} (oq:Nat.ble n dst=true) (hg:aA ops ⟨n,loc,tmp⟩ ⟨some dst,.slice t xo lo hi none,ty,p,a,g⟩=some true) (hx:Fr.ev ⟨n,loc,tmp⟩ xo=.ptr k v off) (ht:P.ch t=some (.array m e)) (hs:cg P e=some s)
  (hm:st.bs[k]?=some (.mem v ar c)) (hl:off+m*s≤c.length) (hb:cC m (lo.map (Fr.ev ⟨n,loc,tmp⟩)) (hi.map (Fr.ev ⟨n,loc,tmp⟩))=some (l,r))
  (h:aa P ops rest ⟨n,loc,(dst,.win k v (off+l*s) (r-l) s)::tmp⟩ st Q):aa P ops (⟨some dst,.slice t xo lo hi none,ty,p,a,g⟩::rest) ⟨n,loc,tmp⟩ st Q:=by
 refine aa.T oq hg rfl (d:=.win k v (off+l*s) (r-l) s) (st1:=st) ?_ h;simp only[dq,hx,eG,ht,hs,Option.bind_some,St.mem_of hm,if_pos hl,hb,Option.map_some]
structure I_ (N k:Nat) (st ah:St):Prop where
 low:∀i,i<N→i≠k→ah.bs[i]?=st.bs[i]?
 len:st.bs.length≤ah.bs.length
 flr:ah.flr=st.flr
 ro:ah.ro=st.ro
theorem I_.of {N k:Nat} {a b c:St} (h:I_ N k a b) (g:Ex N b c):I_ N k a c:=
 ⟨fun i hi hk=>(g.low i hi).trans (h.low i hi hk),Nat.le_trans h.len g.len,g.flr.trans h.flr,g.ro.trans h.ro⟩
theorem I_.put {N k:Nat} {a b:St} (h:I_ N k a b) (bx:iN):I_ N k a ⟨b.bs.set k bx,b.flr,b.ro⟩:=
 ⟨fun i hi hk=>by simp only;rw[List.getElem?_set_ne (fun e=>hk e.symm)];exact h.low i hi hk,by simp only[List.length_set];exact h.len,h.flr,h.ro⟩
theorem I_.take {k:Nat} {a b:St} (h:I_ a.bs.length k a b) (hk:k<a.bs.length) {bx:iN} (hb:b.bs[k]?=some bx):b.bs.take a.bs.length=a.bs.set k bx:=by
 apply List.ext_getElem?;intro i;rw[List.getElem?_take]
 by_cases hi:i<a.bs.length
 ·rw[if_pos hi]
  by_cases he:i=k
  ·subst he;rw[hb,List.getElem?_set_self hk]
  ·rw[h.low i hi he,List.getElem?_set_ne (fun e=>he e.symm)]
 ·rw[if_neg hi,List.getElem?_eq_none (by simp;omega)]
end Go.V
namespace Go.V
variable{P:Pv} {ops:Array Oper} {rest:List Oper} {n:Nat} {loc:List D} {tmp:List (Nat×D)} {st:St} {Q:Fr→St→Prop} {ty:TypeId} {p:String} {a:Array Edge} {g:Option (Nat×Bool)} {dst:Nat}
end Go.V
namespace Go.V
structure a_ where
 K:Nat→Prop
 P:St→Prop
 loc:∀{st ah:St},(∀k,K k→ah.bs[k]?=st.bs[k]?)→P st→P ah
def a_.box (k:Nat) (b:iN):a_:=⟨fun j=>j=k,fun st=>st.bs[k]?=some b,fun h p=>(h k rfl).trans p⟩
inductive gT (st:St) (s:Nat):D→List (List D)→Prop where
 |nul:gT st s .nul []
 |win (k az off:Nat) (es:List (List D)) (c:List D) (hm:st.bs[k]?=some (.mem az true c)) (hl:off+es.length*s≤c.length) (hc:(c.drop off).take (es.length*s)=es.flatten) (he:∀e∈es,e.length=s):gT st s (.win k az off es.length s) es
theorem gT.move {st ah:St} {s:Nat} {x:D} {es:List (List D)} (h:∀k,x.ref=k+1→ah.bs[k]?=st.bs[k]?) (p:gT st s x es):gT ah s x es:=by
 cases p with
 |nul=>exact .nul
 |win k az off es c hm hl hc he=>exact .win k az off es c ((h k (by simp only[D.ref])).trans hm) hl hc he
def a_.aC (x:D) (s:Nat) (es:List (List D)):a_:=⟨fun j=>x.ref=j+1,fun st=>gT st s x es,fun h p=>gT.move h p⟩
theorem gT.sW {st:St} {s:Nat} {x:D} {es:List (List D)} (p:gT st s x es):∀e∈es,e.length=s:=by
 cases p with
 |nul=>intro e he;cases he
 |win k az off es c hm hl hc he=>exact he
theorem gT.rows {st:St} {s:Nat} {x:D} {es:List (List D)} (p:gT st s x es):Rows st s x es:=by
 cases p with
 |nul=>exact .nul
 |win k az off es c hm hl hc he=>
  refine .win k az off es true c (St.mem_of hm) hl fun i e hi=>?_
  have hil:i<es.length:=by
   rcases Nat.lt_or_ge i es.length with h'|h'
   ·exact h'
   ·rw[List.getElem?_eq_none h'] at hi;cases hi
  have h1:=mg he i e hi;rw[←hc,List.drop_take,List.take_take,List.drop_drop] at h1;have h2:(i+1)*s≤es.length*s:=Nat.mul_le_mul_right s hil;rw[Nat.add_mul,Nat.one_mul] at h2
  rwa [Nat.min_eq_left (by omega)] at h1
structure Has (N:Nat) (S st:St) (H:List a_):Prop where
 ex:Ex N S st
 hN:N≤S.bs.length
 di:S.ro≤N
 ok:∀(i:Nat) e,H[i]?=some e→e.P st∧∀k,e.K k→N≤k∧k<st.bs.length
 dis:∀(i j:Nat) a b,i≠j→H[i]?=some a→H[j]?=some b→∀k,a.K k→b.K k→False
theorem Has.start {N:Nat} {S:St} (hN:N≤S.bs.length) (di:S.ro≤N):Has N S S []:=
 ⟨Ex.refl _ _,hN,di,fun i e h=>by simp at h,fun i j a b _ h=>by simp at h⟩
theorem Has.len {N:Nat} {S st:St} {H:List a_} (h:Has N S st H):S.bs.length≤st.bs.length:=h.ex.len
theorem Has.A2 {N:Nat} {S st ah:St} {H:List a_} {j:Nat} {e e':a_} (h:Has N S st H) (hj:H[j]?=some e)
  (Ah:∀k,k<st.bs.length→¬e.K k→ah.bs[k]?=st.bs[k]?) (hlen:st.bs.length≤ah.bs.length) (hf:ah.flr=st.flr) (hr:ah.ro=st.ro)
  (hP:e'.P ah) (hK:∀k,e'.K k→e.K k∨st.bs.length≤k) (L1:∀k,e'.K k→k<ah.bs.length):Has N S ah (H.set j e'):=by
 have oo:j<H.length:=by
  rcases Nat.lt_or_ge j H.length with h'|h'
  ·exact h'
  ·rw[List.getElem?_eq_none h'] at hj;cases hj
 have hl:=h.ex.len;have hN:=h.hN;refine⟨⟨fun k hk=>?_,Nat.le_trans hl hlen,hf.trans h.ex.flr,hr.trans h.ex.ro⟩,h.hN,h.di,fun i e0 hi=>?_,fun i i' a b hii ha hb k nP ib=>?_⟩
 ·rw[Ah k (by omega) fun kG=>by have:=((h.ok j e hj).2 k kG).1;omega];exact h.ex.low k hk
 ·by_cases hij:i=j
  ·subst hij;rw[List.getElem?_set_self oo] at hi;cases hi;refine⟨hP,fun k hk=>⟨?_,L1 k hk⟩⟩
   rcases hK k hk with h1|h1
   ·exact((h.ok i e hj).2 k h1).1
   ·omega
  ·rw[List.getElem?_set_ne (fun e=>hij e.symm)] at hi;obtain⟨h1,h2⟩:=h.ok i e0 hi;refine⟨e0.loc (fun k hk=>Ah k (h2 k hk).2 fun kG=>h.dis i j e0 e hij hi hj k hk kG) h1,fun k hk=>⟨(h2 k hk).1,Nat.lt_of_lt_of_le (h2 k hk).2 hlen⟩⟩
 ·have key:∀i a,i≠j→(H.set j e')[i]?=some a→a.K k→e'.K k→False:=by
   intro i a hij ha nP MD;rw[List.getElem?_set_ne (fun e=>hij e.symm)] at ha
   rcases hK k MD with h1|h1
   ·exact h.dis i j a e hij ha hj k nP h1
   ·have:=((h.ok i a ha).2 k nP).2;omega
  by_cases hij:i=j
  ·subst hij;have dW:=hb;rw[List.getElem?_set_self oo] at ha;cases ha;exact key i' b (fun e=>hii e.symm) hb ib nP
  ·by_cases MO:i'=j
   ·subst MO;rw[List.getElem?_set_self oo] at hb;cases hb;exact key i a hij ha nP ib
   ·rw[List.getElem?_set_ne (fun e=>hij e.symm)] at ha;rw[List.getElem?_set_ne (fun e=>MO e.symm)] at hb;exact h.dis i i' a b hii ha hb k nP ib
theorem Has.add {N:Nat} {S st ah:St} {H:List a_} {e':a_} (h:Has N S st H)
  (Ah:∀k,k<st.bs.length→ah.bs[k]?=st.bs[k]?) (hlen:st.bs.length≤ah.bs.length) (hf:ah.flr=st.flr) (hr:ah.ro=st.ro)
  (hP:e'.P ah) (hK:∀k,e'.K k→st.bs.length≤k∧k<ah.bs.length):Has N S ah (e'::H):=by
 have hl:=h.ex.len;have hN:=h.hN;refine⟨⟨fun k hk=>?_,Nat.le_trans hl hlen,hf.trans h.ex.flr,hr.trans h.ex.ro⟩,h.hN,h.di,fun i e0 hi=>?_,fun i i' a b hii ha hb k nP ib=>?_⟩
 ·rw[Ah k (by omega)];exact h.ex.low k hk
 ·cases i with
  |zero=>
   simp only[List.getElem?_cons_zero,Option.some.injEq] at hi;subst hi;exact⟨hP,fun k hk=>⟨by have:=(hK k hk).1;omega,(hK k hk).2⟩⟩
  |succ i=>
   rw[List.getElem?_cons_succ] at hi;obtain⟨h1,h2⟩:=h.ok i e0 hi;exact⟨e0.loc (fun k hk=>Ah k (h2 k hk).2) h1,fun k hk=>⟨(h2 k hk).1,Nat.lt_of_lt_of_le (h2 k hk).2 hlen⟩⟩
 ·cases i with
  |zero=>
   simp only[List.getElem?_cons_zero,Option.some.injEq] at ha;subst ha
   cases i' with
   |zero=>exact hii rfl
   |succ i'=>
    rw[List.getElem?_cons_succ] at hb;have:=((h.ok i' b hb).2 k ib).2;have:=(hK k nP).1;omega
  |succ i=>
   rw[List.getElem?_cons_succ] at ha
   cases i' with
   |zero=>
    simp only[List.getElem?_cons_zero,Option.some.injEq] at hb;subst hb;have:=((h.ok i a ha).2 k nP).2;have:=(hK k ib).1;omega
   |succ i'=>
    rw[List.getElem?_cons_succ] at hb;exact h.dis i i' a b (fun e=>hii (by rw[e])) ha hb k nP ib
theorem Has.sub {N:Nat} {S st:St} {H H':List a_} (h:Has N S st H) (f:Nat→Nat) (hf:∀i j,f i=f j→i=j) (hs:∀i e,H'[i]?=some e→H[f i]?=some e):Has N S st H':=
 ⟨h.ex,h.hN,h.di,fun i e hi=>h.ok _ e (hs i e hi),fun i j a b hij ha hb=>h.dis (f i) (f j) a b (fun e=>hij (hf i j e)) (hs i a ha) (hs j b hb)⟩
theorem Has.erase {N:Nat} {S st:St} {H:List a_} (h:Has N S st H) (j:Nat):Has N S st (H.eraseIdx j):=by
 refine h.sub (fun i=>if i<j then i else i+1) (fun a b e=>?_) fun i e hi=>?_
 ·show a=b;have e':(if a<j then a else a+1)=(if b<j then b else b+1):=e
  split at e'<;>split at e'<;>omega
 ·show H[if i<j then i else i+1]?=some e;rw[List.getElem?_eraseIdx] at hi
  split at hi<;>rename_i h'<;>simp[h',hi]
theorem Has.take {N:Nat} {S st:St} {H:List a_} (h:Has N S st H) (n:Nat):Has N S st (H.take n):=by
 refine h.sub id (fun a b e=>e) fun i e hi=>?_;rw[List.getElem?_take] at hi;split at hi;exact hi;cases hi
theorem Has.drop {N:Nat} {S st:St} {H:List a_} (h:Has N S st H) (n:Nat):Has N S st (H.drop n):=by
 refine h.sub (fun i=>n+i) (fun a b e=>by omega) fun i e hi=>?_;rw[List.getElem?_drop] at hi;exact hi
theorem Has.front {N:Nat} {S st:St} {H:List a_} (h:Has N S st H) {j:Nat} {e:a_} (hj:H[j]?=some e):Has N S st (e::H.eraseIdx j):=by
 refine h.sub (fun i=>if i=0 then j else if i-1<j then i-1 else i) (fun a b e=>?_) fun i e' hi=>?_
 ·have e':(if a=0 then j else if a-1<j then a-1 else a)=(if b=0 then j else if b-1<j then b-1 else b):=e
  repeat' split at e'
  all_goals omega
 ·show H[if i=0 then j else if i-1<j then i-1 else i]?=some e'
  cases i with
  |zero=>rw[if_pos rfl];simp only[List.getElem?_cons_zero,Option.some.injEq] at hi;subst hi;exact hj
  |succ i=>
   rw[if_neg (by omega),Nat.add_sub_cancel];rw[List.getElem?_cons_succ,List.getElem?_eraseIdx] at hi
   split at hi<;>rename_i h'<;>simp[h',hi]
theorem Has.back {N:Nat} {S st:St} {H:List a_} {j:Nat} {e:a_} (h:Has N S st (e::H.eraseIdx j)) (hj:j<H.length):Has N S st (H.set j e):=by
 refine h.sub (fun i=>if i=j then 0 else if i<j then i+1 else i) (fun a b e=>?_) fun i e' hi=>?_
 ·have e':(if a=j then 0 else if a<j then a+1 else a)=(if b=j then 0 else if b<j then b+1 else b):=e
  repeat' split at e'
  all_goals omega
 ·show(e::H.eraseIdx j)[if i=j then 0 else if i<j then i+1 else i]?=some e'
  by_cases hij:i=j
  ·subst hij;rw[List.getElem?_set_self hj] at hi;rw[if_pos rfl];simpa using hi
  ·rw[List.getElem?_set_ne (fun e=>hij e.symm)] at hi;rw[if_neg hij]
   by_cases hlt:i<j
   ·rw[if_pos hlt,List.getElem?_cons_succ,List.getElem?_eraseIdx,if_pos hlt];exact hi
   ·rw[if_neg hlt]
    obtain⟨i',rfl⟩:∃i',i=i'+1:=⟨i-1,by omega⟩
    rw[List.getElem?_cons_succ,List.getElem?_eraseIdx,if_neg (by omega)];exact hi
theorem Has.gf {N:Nat} {S st:St} {H:List a_} (h:Has N S st H) (s:Nat):Has N S st (.aC .nul s []::H):=
 h.add (fun _ _=>rfl) (Nat.le_refl _) rfl rfl .nul fun k hk=>by simp only[a_.aC,D.ref] at hk;omega
theorem Has.own {N:Nat} {S st:St} {H:List a_} (h:Has N S st H) {j:Nat} {x:D} {s:Nat} {es:List (List D)} (hj:H[j]?=some (.aC x s es)):gT st s x es:=(h.ok j _ hj).1
theorem Has.rows {N:Nat} {S st:St} {H:List a_} (h:Has N S st H) {j:Nat} {x:D} {s:Nat} {es:List (List D)} (hj:H[j]?=some (.aC x s es)):Rows st s x es:=(h.own hj).rows
theorem Has.at {N:Nat} {S st:St} {H:List a_} (h:Has N S st H) {j k:Nat} {b:iN} (hj:H[j]?=some (.box k b)):st.bs[k]?=some b:=(h.ok j _ hj).1
theorem Has.ge {N:Nat} {S st:St} {H:List a_} (h:Has N S st H) {j k:Nat} {b:iN} (hj:H[j]?=some (.box k b)):N≤k∧k<st.bs.length:=(h.ok j _ hj).2 k rfl
def Arg (N:Nat) (S:St) (s:Nat) (x:D) (es:List (List D)):Prop:=Rows S s x es∧x.ref≤N
theorem Arg.rows {N:Nat} {S st:St} {H:List a_} {s:Nat} {x:D} {es:List (List D)} (hx:Arg N S s x es) (h:Has N S st H):Rows st s x es:=hx.1.ex h.ex hx.2
theorem Arg.of {st S:St} {s:Nat} {x:D} {es:List (List D)} (hx:Rows st s x es) (hS:S.bs=st.bs):Arg st.bs.length S s x es:=⟨hx.bs hS,hx.ref⟩
theorem Arg.pure {N:Nat} {S:St} {s:Nat} {es:List D} {rs:List (List D)} (hx:∀st,Rows st s (.sl es) rs):Arg N S s (.sl es) rs:=⟨hx S,by simp[D.ref]⟩
theorem gq {N:Nat} {S st:St} {H:List a_} (h:Has N S st H) {k:Nat} {cs:List D} (hk:N≤k) (hw:S.flr≤N∨refs cs=0):st.ja k (refs cs)=true:=by
 have h1:=h.ex.ro;have h2:=h.ex.flr;have h3:=h.di;simp only[St.ja,Bool.and_eq_true,Bool.or_eq_true,decide_eq_true_eq];refine⟨by omega,?_⟩
 rcases hw with hw|hw
 ·exact .inl (by omega)
 ·exact .inr (.inl (by omega))
theorem Has.ry {N:Nat} {S st:St} {H:List a_} (h:Has N S st H) {j k az:Nat} {b b':iN} (hj:H[j]?=some (.box k b)):Has N S ⟨st.bs.set k b',st.flr,st.ro⟩ (H.set j (.box k b')):=by
 have hk:=(h.ge hj).2;refine h.A2 hj (fun i hi hne=>?_) (by simp) rfl rfl ?_ (fun i hi=>.inl hi) fun i hi=>?_
 ·simp only;rw[List.getElem?_set_ne (fun e=>hne e.symm)]
 ·show(st.bs.set k b')[k]?=_;rw[List.getElem?_set_self hk]
 ·cases hi;simpa using hk
theorem Has.qX {N:Nat} {S st:St} {H:List a_} (h:Has N S st H) (b:iN):Has N S (st.push b) (.box st.bs.length b::H):=by
 refine h.add (fun i hi=>?_) (by simp[St.push]) rfl rfl ?_ fun i hi=>?_
 ·simp only[St.push];rw[List.getElem?_append_left hi]
 ·exact jm st b
 ·cases hi;simp[St.push]
theorem Has.qQ {N:Nat} {S st:St} {H:List a_} (h:Has N S st H) {s:Nat} {es:List (List D)} {cs:List D} {m:Nat} (hm:es.length=m) (hc:es.flatten=cs) (he:∀e∈es,e.length=s):Has N S (st.push (.mem 0 true cs)) (.aC (.win st.bs.length 0 0 m s) s es::H):=by
 subst hm hc;refine h.add (fun i hi=>?_) (by simp[St.push]) rfl rfl ?_ fun i hi=>?_
 ·simp only[St.push];rw[List.getElem?_append_left hi]
 ·have mb:=cE he;exact gT.win _ 0 0 es es.flatten (jm st _) (by rw[mb];omega) (by rw[List.drop_zero,←mb,List.take_length]) he
 ·simp only[a_.aC,D.ref] at hi;simp only[St.push,List.length_append,List.length_cons,List.length_nil];omega
theorem lu:∀(xs c:List D) (off:Nat),(setMany c off xs).length=c.length
 |[],c,off=>rfl
 |x::xs,c,off=>by simp only[setMany];rw[lu xs];simp
theorem pO {s:Nat}:∀{es:List (List D)} {i:Nat} {e e':List D},(∀e∈es,e.length=s)→es[i]?=some e→e'.length=s→(es.set i e').flatten=es.flatten.take (i*s)++e'++es.flatten.drop (i*s+s)
 |[],i,e,e',_,hi,_=>by simp at hi
 |x::es,0,e,e',h,hi,he=>by
  simp at hi;subst hi;have:=h x (List.mem_cons_self ..);simp[List.set_cons_zero,List.drop_left' this]
 |x::es,i+1,e,e',h,hi,he=>by
  have hx:=h x (List.mem_cons_self ..);have ih:=pO (s:=s) (es:=es) (i:=i) (e:=e) (e':=e') (fun y hy=>h y (List.mem_cons_of_mem _ hy)) (by simpa using hi) he;rw[List.set_cons_succ,List.flatten_cons,ih,List.flatten_cons,Nat.add_mul,Nat.one_mul,Nat.add_comm (i*s) s,←hx,List.take_length_add_append,Nat.add_assoc,List.drop_length_add_append];simp only[List.append_assoc];rw[Nat.add_comm (i*x.length) x.length]
theorem Has.Bc {N:Nat} {S st:St} {H:List a_} (h:Has N S st H) {j k az off len s:Nat} {es:List (List D)} {i o:Nat} {e cs:List D} (hj:H[j]?=some (.aC (.win k az off len s) s es)) (hi:es[i]?=some e) (hl:o+cs.length≤s) (hw:S.flr≤N∨refs cs=0):
  ∃ah,st.wr k az (off+i*s+o) cs=some ah∧Has N S ah (H.set j (.aC (.win k az off len s) s (es.set i (setMany e o cs)))):=by
 have hk:=(h.ok j _ hj).2 k (by simp only[a_.aC,D.ref]);have hown:=h.own hj
 cases hown with
 |win k az off es c hm hle hc he=>
  have hil:i<es.length:=by
   rcases Nat.lt_or_ge i es.length with h'|h'
   ·exact h'
   ·rw[List.getElem?_eq_none h'] at hi;cases hi
  have sG:=he e (List.mem_of_getElem? hi);have h2:(i+1)*s≤es.length*s:=Nat.mul_le_mul_right s hil;rw[Nat.add_mul,Nat.one_mul] at h2;refine⟨_,lg hm (by omega) (gq h hk.1 hw),?_⟩;refine h.A2 hj (fun n hn hne=>?_) (by simp) rfl rfl ?_ (fun n hn=>.inl hn) fun n hn=>?_
  ·simp only;rw[List.getElem?_set_ne (fun e=>hne (by simp only[a_.aC,D.ref];omega))]
  ·have Ff:∀e'∈es.set i (setMany e o cs),e'.length=s:=by
    intro e' qZ
    rcases List.mem_or_eq_of_mem_set qZ with h'|h'
    ·exact he e' h'
    ·rw[h',lu];exact sG
   have mb:es.flatten.length=es.length*s:=cE he;have:=gT.win (st:=⟨st.bs.set k (.mem az true (c.take (off+i*s+o)++cs++c.drop (off+i*s+o+cs.length))),st.flr,st.ro⟩) (s:=s) k az off (es.set i (setMany e o cs)) (c.take (off+i*s+o)++cs++c.drop (off+i*s+o+cs.length))
    (by simp only;rw[List.getElem?_set_self hk.2]) (by simp;omega) ?_ Ff
   ·rw[List.length_set] at this;exact this
   ·rw[List.length_set,pO he hi (by rw[lu];exact sG),fN cs e o (by omega)]
    have e1:(c.take (off+i*s+o)++cs++c.drop (off+i*s+o+cs.length)).drop off=(c.drop off).take (i*s+o)++cs++(c.drop off).drop (i*s+o+cs.length):=by
     rw[List.append_assoc,List.drop_append_of_le_length (by simp;omega),List.drop_take,List.append_assoc,List.drop_drop]
     congr 3<;>omega
    rw[e1]
    have e2:(c.drop off).take (i*s+o)=es.flatten.take (i*s)++e.take o:=by
     have:(c.drop off).take (i*s+o)=es.flatten.take (i*s+o):=by
      rw[←hc,List.take_take,Nat.min_eq_left (by omega)]
     rw[this,List.take_add]
     congr 1
     have:=mg he i e hi;rw[←this,List.take_take,Nat.min_eq_left (by omega)]
    have e3:(List.drop (i*s+o+cs.length) (c.drop off)).take (es.length*s-(i*s+o+cs.length))=e.drop (o+cs.length)++es.flatten.drop (i*s+s):=by
     have:(List.drop (i*s+o+cs.length) (c.drop off)).take (es.length*s-(i*s+o+cs.length))=es.flatten.drop (i*s+o+cs.length):=by
      rw[←hc,List.drop_take]
     rw[this];have h4:=mg he i e hi;rw[←h4,List.drop_take];have:es.flatten.drop (i*s+o+cs.length)=(es.flatten.drop (i*s+o+cs.length)).take (s-(o+cs.length))++(es.flatten.drop (i*s+o+cs.length)).drop (s-(o+cs.length)):=(List.take_append_drop ..).symm;rw[this,List.drop_drop,List.drop_drop]
     congr 2
     ·congr 1;omega
     ·omega
    rw[e2]
    have IY:(es.flatten.take (i*s)++e.take o++cs).length=i*s+o+cs.length:=by
     simp only[List.length_append,List.length_take,mb,sG];omega
    rw[List.take_append,IY,e3,List.take_of_length_le (by rw[IY];omega)];simp[List.append_assoc]
  ·simp only[a_.aC,D.ref] at hn;simp only[List.length_set];omega
end Go.V
namespace Go.V
theorem aN {α:Type} {a:α} {l:List α}:(a::l)[0]?=some a:=rfl
theorem bV {α:Type} {a b:α} {l:List α}:(a::b::l)[1]?=some b:=rfl
theorem fm {α:Type} {a b c:α} {l:List α}:(a::b::c::l)[2]?=some c:=rfl
theorem gX {α:Type} {a b c d:α} {l:List α}:(a::b::c::d::l)[3]?=some d:=rfl
theorem tw {α:Type} {a b c d e:α} {l:List α}:(a::b::c::d::e::l)[4]?=some e:=rfl
theorem Dz {α:Type} {a b c d e f:α} {l:List α}:(a::b::c::d::e::f::l)[5]?=some f:=rfl
theorem TV {α:Type} {a b c d e f g:α} {l:List α}:(a::b::c::d::e::f::g::l)[6]?=some g:=rfl
theorem TU {α:Type} {a b c d e f g h:α} {l:List α}:(a::b::c::d::e::f::g::h::l)[7]?=some h:=rfl
def Bu (t:Nat):List (Nat×D)→Option D
 |[]=>none
 |(u,d)::l=>match Nat.beq t u with
  |true=>some d
  |false=>Bu t l
def Ey:Value→Option D
 | .int k n=>some (.int k n)
 | .bool b=>some (.bool b)
 | .string s=>some (.str s.data.toList)
 | .slice none 0 0=>some .nul
 | .pointer none=>some .pnil
 | .nilFunc=>some .nilfn
 | .nilIface=>some .nilif
 |_=>none
def Fr.TS (f:Fr):Operand→Option D
 | .tmp t=>match Nat.ble f.n t with
  |false=>f.loc[t]?
  |true=>Bu t f.tmp
 | .const v=>Ey v
 | .func g=>some (.fn g [])
 | .global _=>none
theorem r_ {t:Nat} {d:D}:∀{l:List (Nat×D)},Bu t l=some d→look t l=d
 |(u,e)::l,h=>by
  unfold Bu at h;unfold look
  split at h
  ·rename_i hb;cases h;simp only[hb]
  ·rename_i hb;simp only[hb];exact r_ h
theorem Bo {d e:D}:∀{l:List D} {i:Nat},l[i]?=some d→nth e l i=d
 |x::l,0,h=>by simpa[nth] using h
 |x::l,i+1,h=>by rw[List.getElem?_cons_succ] at h;exact Bo (l:=l) h
 |[],i,h=>by simp at h
theorem ev {fr:Fr} {o:Operand} {d:D} (h:fr.TS o=some d):fr.ev o=d:=by
 unfold Fr.TS at h;unfold Fr.ev
 split at h
 ·unfold Fr.get
  split at h
  ·rename_i hb;simp only[hb];exact Bo h
  ·rename_i hb;simp only[hb];exact r_ h
 ·unfold Ey at h
  split at h<;>cases h<;>rfl
 ·cases h;rfl
 ·cases h
def kY (st:St) (p:D) (r:List D):Prop:=
 (∃k az off ar c,p=.ptr k az off∧st.eP k az=some (ar,c)∧(c.drop off).take r.length=r)∨∃c,p=.ep c∧c.take r.length=r
def qz (x:D) (s:Nat) (i o:Nat) (p:D):Prop:=∃k az off len,x=.win k az off len s∧p=.ptr k az (off+i*s+o)
theorem lX {P:Pv} {t:TypeId} {r c:List D} {d:D} (hc:c.take r.length=r) (h:du P t r=some d):du P t c=some d:=by
 have hlen:r.length≤c.length:=by have:=congrArg List.length hc;simp at this;omega
 unfold du at h⊢
 cases hu:P.ch t with
 |none=>rw[hu] at h;cases h
 |some u=>
  rw[hu] at h;have key:∀n,n≤r.length→c.take n=r.take n:=fun n hn=>by rw[←hc,List.take_take,Nat.min_eq_left hn]
  cases u with
  |struct f=>
   simp only at h⊢
   cases hs:cg P t with
   |none=>rw[hs] at h;cases h
   |some n=>
    rw[hs] at h;simp only[Option.bind_some] at h⊢
    split at h
    ·rename_i hn;rw[if_pos (by omega),key n hn];exact h
    ·cases h
  |array m f=>
   simp only at h⊢
   cases hs:cg P t with
   |none=>rw[hs] at h;cases h
   |some n=>
    rw[hs] at h;simp only[Option.bind_some] at h⊢
    split at h
    ·rename_i hn;rw[if_pos (by omega),key n hn];exact h
    ·cases h
  |_=>
   simp only at h⊢
   cases r with
   |nil=>cases h
   |cons y r=>
    cases c with
    |nil=>simp at hlen
    |cons z c=>
     simp only[List.length_cons,List.take_succ_cons,List.cons.injEq] at hc;rw[←h];simp[hc.1]
theorem kY.load {P:Pv} {st:St} {p:D} {r:List D} (h:kY st p r) {t:TypeId} {d:D} (hd:du P t r=some d):gH P t p st=some d:=by
 rcases h with⟨k,az,off,ar,c,rfl,hm,hc⟩|⟨c,rfl,hc⟩
 ·simp only[gH,hm,Option.bind_some];exact lX hc hd
 ·simp only[gH];exact lX hc hd
theorem kY.field {P:Pv} {st:St} {p:D} {r:List D} (h:kY st p r) {t:TypeId} {fields:Array Field} {f:Nat} {fd:Field} {m:Nat} (ht:P.ch t=some (.struct fields)) (hf:fields[f]?=some fd) (hm:cg P fd.type=some m) (ma:m≠0):
  ∃p',eK P t p f=some p'∧kY st p' (r.drop fd.offset):=by
 have key:∀c:List D,c.take r.length=r→(c.drop fd.offset).take (r.drop fd.offset).length=r.drop fd.offset:=by
  intro c hc;rw[List.length_drop,←List.drop_take,hc]
 rcases h with⟨k,az,off,ar,c,rfl,y5,hc⟩|⟨c,rfl,hc⟩
 ·refine⟨.ptr k az (off+fd.offset),?_,.inl ⟨k,az,off+fd.offset,ar,c,rfl,y5,?_⟩⟩
  ·simp only[eK,ht,hf,Option.bind_some,hm];rw[if_neg (by simp only[Option.some.injEq];exact ma)]
  ·rw[←List.drop_drop];exact key _ hc
 ·refine⟨.ep (c.drop fd.offset),?_,.inr ⟨_,rfl,key _ hc⟩⟩;simp only[eK,ht,hf,Option.bind_some,hm];rw[if_neg (by simp only[Option.some.injEq];exact ma)]
theorem Rows.PB {P:Pv} {st:St} {s:Nat} {x:D} {es:List (List D)} (h:Rows st s x es) {t e:TypeId} (ht:P.ch t=some (.slice e)) (hs:cg P e=some s) {k:IntKind} {i:Nat} {r:List D} (hi:es[i]?=some r):
  ∃p,bQ P t x (.int k (i:Nat)) st=some p∧kY st p r:=by
 have Ac:=h.sW _ _ hi
 cases h with
 |nul=>simp at hi
 |sl es h=>
  rw[List.getElem?_map] at hi;obtain⟨d,hd,rfl⟩:=Option.map_eq_some_iff.1 hi;obtain⟨h1,h2⟩:=h d (List.mem_of_getElem? hd);refine⟨.ep d.cells,?_,.inr ⟨_,rfl,List.take_length ..⟩⟩;simp only[bQ,ht,hs,Option.bind_some,if_pos (show(0:Int)≤(i:Nat) by omega),Int.toNat_natCast,hd,h1,if_pos h2]
 |win k az off es ar c hm hl he=>
  have hlt:i<es.length:=by
   rcases Nat.lt_or_ge i es.length with h'|h'
   ·exact h'
   ·rw[List.getElem?_eq_none h'] at hi;cases hi
  refine⟨.ptr k az (off+i*s),?_,.inl ⟨k,az,_,ar,c,rfl,hm,by rw[Ac];exact he _ _ hi⟩⟩;simp only[bQ,ht,hs,Option.bind_some,hm,Option.isSome_some];rw[if_pos ⟨trivial,by omega,by omega,trivial⟩];rfl
variable{P:Pv} {ops:Array Oper} {rest:List Oper} {fr aE:Fr} {st:St} {Q:Fr→St→Prop} {ty:TypeId} {pp:String} {a:Array Edge} {g:Option (Nat×Bool)} {dst:Nat} {N:Nat} {S:St} {H:List a_}
theorem aa.go {op:Op} {d:D} {st1:St} (hg:aA ops fr ⟨some dst,op,ty,pp,a,g⟩=some true) (hc:iV op=false) (h1:dq P fr st op ty=some (d,st1)) (hp:fr.put dst d=aE)
  (h:aa P ops rest aE st1 Q):aa P ops (⟨some dst,op,ty,pp,a,g⟩::rest) fr st Q:=
 aa.op hg hc h1 (by show aa P ops rest (fr.put dst d) st1 Q;rw[hp];exact h)
theorem aa.uH {j k az off:Nat} {ar:Bool} {c:List D} {d:D} {t:TypeId} {ao:Operand} (hH:Has N S st H) (hg:aA ops fr ⟨some dst,.load t ao,ty,pp,a,g⟩=some true) (ha:fr.ev ao=.ptr k az off) (hj:H[j]?=some (.box k (.mem az ar c))) (hd:du P t (c.drop off)=some d) (hp:fr.put dst d=aE)
  (h:aa P ops rest aE st Q):aa P ops (⟨some dst,.load t ao,ty,pp,a,g⟩::rest) fr st Q:=by
 refine aa.go hg rfl (d:=d) (st1:=st) ?_ hp h;simp only[dq,ha,gH,St.mem_of (hH.at hj),Option.bind_some,hd,Option.map_some]
theorem aa.fe {j k az off:Nat} {ar:Bool} {c cs:List D} {v:D} {t:TypeId} {ao vo:Operand} (hH:Has N S st H) (hg:aA ops fr ⟨none,.store t ao vo,ty,pp,a,g⟩=some true) (ha:fr.ev ao=.ptr k az off) (hv:fr.ev vo=v) (lf:v.cells?=some cs) (hs:cg P t=some cs.length) (hj:H[j]?=some (.box k (.mem az ar c))) (hl:off+cs.length≤c.length) (hw:S.flr≤N∨refs cs=0)
  (h:∀ah,Has N S ah (H.set j (.box k (.mem az ar (setMany c off cs))))→aa P ops rest fr ah Q):aa P ops (⟨none,.store t ao vo,ty,pp,a,g⟩::rest) fr st Q:=by
 refine aa.N hg rfl (d:=.tup []) (st1:=⟨st.bs.set k (.mem az ar (setMany c off cs)),st.flr,st.ro⟩) ?_ (h _ (hH.ry (az:=az) hj));simp only[dq,ha,hv,kc,lf,hs,if_pos trivial];rw[lg (hH.at hj) hl (gq hH (hH.ge hj).1 hw),fN _ _ _ hl];rfl
theorem aa.Km {e:TypeId} {cs:List D} {aE:Nat→Fr} (hH:Has N S st H) (hg:aA ops fr ⟨some dst,.alloc e,ty,pp,a,g⟩=some true) (hz:cO P e=some cs) (hp:∀k,fr.put dst (.ptr k 0 0)=aE k)
  (h:∀k ah,S.bs.length≤k→Has N S ah (.box k (.mem 0 false cs)::H)→aa P ops rest (aE k) ah Q):aa P ops (⟨some dst,.alloc e,ty,pp,a,g⟩::rest) fr st Q:=by
 refine aa.go hg rfl (d:=.ptr st.bs.length 0 0) (st1:=st.push (.mem 0 false cs)) ?_ (hp _) (h _ _ hH.len (hH.qX _));simp only[dq,hz,Option.map_some]
theorem aa.CY {e:TypeId} {xo:Operand} {cs:List D} {aE:Nat→Fr} (hH:Has N S st H) (hg:aA ops fr ⟨some dst,.box e xo,ty,pp,a,g⟩=some true) (hz:(fr.ev xo).cells?=some cs) (hp:∀k,fr.put dst (.ptr k 0 0)=aE k)
  (h:∀k ah,S.bs.length≤k→Has N S ah (.box k (.mem 0 false cs)::H)→aa P ops rest (aE k) ah Q):aa P ops (⟨some dst,.box e xo,ty,pp,a,g⟩::rest) fr st Q:=by
 refine aa.go hg rfl (d:=.ptr st.bs.length 0 0) (st1:=st.push (.mem 0 false cs)) ?_ (hp _) (h _ _ hH.len (hH.qX _));simp only[dq,hz,Option.map_some]
theorem aa.yp {t e:TypeId} {lo co:Operand} {k1 k2:IntKind} {m:Nat} {inf:TypeInfo} {z:List D} {s:Nat} {aE:Nat→Fr} (hH:Has N S st H) (hg:aA ops fr ⟨some dst,.makeSlice t lo co,ty,pp,a,g⟩=some true)
  (hl:fr.ev lo=.int k1 (m:Nat)) (hc:fr.ev co=.int k2 (m:Nat)) (ht:P.ch t=some (.slice e)) (hi:P.info e=some inf) (hz:cO P e=some z) (hsz:inf.size=s) (kZ:z.length=s) (O5:inf.bytes≤1024) (ma:m≤1073741824) (hp:∀k,fr.put dst (.win k 0 0 m s)=aE k)
  (h:∀k ah,S.bs.length≤k→Has N S ah (.aC (.win k 0 0 m s) s (List.replicate m z)::H)→aa P ops rest (aE k) ah Q):aa P ops (⟨some dst,.makeSlice t lo co,ty,pp,a,g⟩::rest) fr st Q:=by
 have hm:m*inf.bytes≤140737488355328:=Nat.le_trans (Nat.mul_le_mul ma O5) (by decide);subst hsz;refine aa.go hg rfl (d:=.win st.bs.length 0 0 m inf.size) (st1:=st.push (.mem 0 true (eZ m z))) ?_ (hp _) (h _ _ hH.len (hH.qQ (by simp) rfl (fun e he=>by rw[List.eq_of_mem_replicate he];exact kZ)));simp only[dq,hl,hc,fS,ht,hi,hz,Option.bind_some];rw[if_pos ⟨kZ,by omega,by omega,by omega,by rw[←Int.natCast_mul];omega⟩]
 rfl
theorem Has.append {j:Nat} {x y:D} {s:Nat} {es ys:List (List D)} (hH:Has N S st H) (hj:H[j]?=some (.aC x s es)) (hy:Rows st s y ys) {t1 t2 e:TypeId} {td:TypeDesc} {inf:TypeInfo} {z:List D}
  (h1:P.ch t1=some (.slice e)) (h2:P.ch t2=some td) (h3:eJ td=false) (h4:P.info e=some inf) (h5:cO P e=some z) (h6:inf.size=s) (h7:z.length=s) (h8:0<inf.bytes∧inf.bytes≤1024)
  (oq:es.length+ys.length≤1073741824) (hw:S.flr≤N∨refs ys.flatten=0):
  ∃x' ah,bc P .append [t1,t2] [x,y] st=some (x',ah)∧Has N S ah (H.set j (.aC x' s (es++ys)))∧(ys=[]→x'=x):=by
 have hb:(es.length+ys.length)*inf.bytes≤1099511627776:=Nat.le_trans (Nat.mul_le_mul oq h8.2) (by decide);have jj:=hy.row
 have y3:∀e∈ys,e.length=s:=fun e he=>by
  obtain⟨i,hi⟩:=List.getElem?_of_mem he;exact hy.sW i e hi
 have mb:=cE y3;have hown:=hH.own hj;have hkk:=(hH.ok j _ hj).2;have hS:=hH.len;have WK:=hH.hN;subst h6;simp only[bc,gy,h1,h2,h3,Bool.false_eq_true,if_false,h4,h5,jj,Option.bind_some];rw[if_neg (by rintro(h|h|h);exact h mb;exact absurd h (by omega);exact h h7)]
 have fy:∀e,H[j]?=some e→H.set j e=H:=fun e he=>by
  apply List.ext_getElem?;intro i
  by_cases hij:i=j
  ·subst hij
   have:i<H.length:=by
    rcases Nat.lt_or_ge i H.length with h'|h'
    ·exact h'
    ·rw[List.getElem?_eq_none h'] at he;cases he
   rw[List.getElem?_set_self this,he]
  ·rw[List.getElem?_set_ne (fun e=>hij e.symm)]
 cases hown with
 |nul=>
  simp only[List.nil_append]
  by_cases h0:ys.length=0
  ·rw[if_pos h0]
   have:ys=[]:=by cases ys with|nil=>rfl|cons _ _=>simp at h0
   subst this;exact⟨.nul,st,rfl,by rw[fy _ hj];exact hH,fun _=>rfl⟩
  ·rw[if_neg h0,if_pos (by simpa using hb)];refine⟨_,_,rfl,?_,fun e=>absurd (by rw[e];rfl) h0⟩;refine hH.A2 hj (fun k hk _=>by simp only[St.push];rw[List.getElem?_append_left hk]) (by simp[St.push]) rfl rfl ?_ (fun k hk=>?_) fun k hk=>?_
   ·exact gT.win _ 0 0 ys ys.flatten (jm st _) (by rw[mb];omega) (by rw[List.drop_zero,←mb,List.take_length]) y3
   ·simp only[a_.aC,D.ref] at hk;right;omega
   ·simp only[a_.aC,D.ref] at hk;simp only[St.push,List.length_append,List.length_cons,List.length_nil];omega
 |win k az off es c hm hl hc he=>
  have hk:=hkk k (by simp only[a_.aC,D.ref]);simp only[St.mem_of hm];rw[if_neg (by rintro(h|h);exact h rfl;omega)]
  by_cases h0:ys.length=0
  ·rw[if_pos h0]
   have:ys=[]:=by cases ys with|nil=>rfl|cons _ _=>simp at h0
   subst this;simp only[List.append_nil];exact⟨_,st,rfl,by rw[fy _ hj];exact hH,fun _=>rfl⟩
  ·rw[if_neg h0,if_pos ⟨hb,gq hH hk.1 hw⟩];refine⟨_,_,rfl,?_,fun e=>absurd (by rw[e];rfl) h0⟩;have tp:es.length+ys.length=(es++ys).length:=by simp
   have iZ:(c.take (off+es.length*inf.size)).drop off=es.flatten:=by rw[List.drop_take,←hc];congr 1;omega
   rw[tp,iZ];refine hH.A2 hj (fun n hn hne=>by simp only;rw[List.getElem?_set_ne (fun e=>hne (by simp only[a_.aC,D.ref];omega))]) (by simp) rfl rfl ?_ (fun n hn=>?_) fun n hn=>?_
   ·have sG:∀e∈es++ys,e.length=inf.size:=fun e h=>by
     rcases List.mem_append.1 h with h|h
     ·exact he e h
     ·exact y3 e h
    have Fm:=cE sG;refine gT.win k (az+1) 0 (es++ys) (es++ys).flatten ?_ (by rw[Fm];omega) (by rw[List.drop_zero,←Fm,List.take_length]) sG;simp only;rw[List.getElem?_set_self hk.2,List.flatten_append]
   ·simp only[a_.aC,D.ref] at hn⊢;left;omega
   ·simp only[a_.aC,D.ref] at hn;simp only[List.length_set];omega
theorem aa.cJ {j:Nat} {x y:D} {s:Nat} {es ys:List (List D)} {t1 t2 e:TypeId} {td:TypeDesc} {inf:TypeInfo} {z:List D} {xo yo:Operand} {aE:D→Fr} (hH:Has N S st H) (hg:aA ops fr ⟨some dst,.call ⟨.builtin .append,#[xo,yo],#[t1,t2]⟩,ty,pp,a,g⟩=some true)
  (hx:fr.ev xo=x) (hy:fr.ev yo=y) (hj:H[j]?=some (.aC x s es)) (jr:Rows st s y ys)
  (h1:P.ch t1=some (.slice e)) (h2:P.ch t2=some td) (h3:eJ td=false) (h4:P.info e=some inf) (h5:cO P e=some z) (h6:inf.size=s) (h7:z.length=s) (h8:0<inf.bytes∧inf.bytes≤1024)
  (hp:∀x',fr.put dst x'=aE x') (hb:es.length+ys.length≤1073741824) (hw:S.flr≤N∨refs ys.flatten=0)
  (h:∀x' ah,Has N S ah (H.set j (.aC x' s (es++ys)))→aa P ops rest (aE x') ah Q):
  aa P ops (⟨some dst,.call ⟨.builtin .append,#[xo,yo],#[t1,t2]⟩,ty,pp,a,g⟩::rest) fr st Q:=by
 obtain⟨x',ah,q1,q2,q3⟩:=hH.append hj jr h1 h2 h3 h4 h5 h6 h7 h8 hb hw;refine aa.go hg rfl (d:=x') (st1:=ah) ?_ (hp _) (h x' ah q2);simp only[dq,List.map_cons,List.map_nil,hx,hy];exact q1
theorem aa.FB {j:Nat} {x y:D} {s:Nat} {es ys:List (List D)} {t1 t2 e:TypeId} {td:TypeDesc} {inf:TypeInfo} {z:List D} {xo yo:Operand} {aE:D→Fr} (hH:Has N S st H) (hg:aA ops fr ⟨some dst,.call ⟨.builtin .append,#[xo,yo],#[t1,t2]⟩,ty,pp,a,g⟩=some true)
  (hx:fr.ev xo=x) (hy:fr.ev yo=y) (hj:H[j]?=some (.aC x s es)) (jr:Rows st s y ys)
  (h1:P.ch t1=some (.slice e)) (h2:P.ch t2=some td) (h3:eJ td=false) (h4:P.info e=some inf) (h5:cO P e=some z) (h6:inf.size=s) (h7:z.length=s) (h8:0<inf.bytes∧inf.bytes≤1024)
  (hp:∀x',fr.put dst x'=aE x') (hb:es.length+ys.length≤1073741824) (hw:S.flr≤N∨refs ys.flatten=0)
  (h:∀x' ah,(ys=[]→x'=x)→Has N S ah (H.set j (.aC x' s (es++ys)))→aa P ops rest (aE x') ah Q):
  aa P ops (⟨some dst,.call ⟨.builtin .append,#[xo,yo],#[t1,t2]⟩,ty,pp,a,g⟩::rest) fr st Q:=by
 obtain⟨x',ah,q1,q2,q3⟩:=hH.append hj jr h1 h2 h3 h4 h5 h6 h7 h8 hb hw;refine aa.go hg rfl (d:=x') (st1:=ah) ?_ (hp _) (h x' ah q3 q2);simp only[dq,List.map_cons,List.map_nil,hx,hy];exact q1
theorem aa.D3 {t e:TypeId} {xo:Operand} {x:D} {s:Nat} {es:List (List D)} (hg:aA ops fr ⟨some dst,.call ⟨.builtin .len,#[xo],#[t]⟩,ty,pp,a,g⟩=some true) (hx:fr.ev xo=x) (hR:Rows st s x es) (ht:P.ch t=some (.slice e)) (hp:fr.put dst (.int .i64 (es.length:Nat))=aE)
  (h:aa P ops rest aE st Q):aa P ops (⟨some dst,.call ⟨.builtin .len,#[xo],#[t]⟩,ty,pp,a,g⟩::rest) fr st Q:=by
 refine aa.go hg rfl (d:=.int .i64 (es.length:Nat)) (st1:=st) ?_ hp h;simp only[dq,List.map_cons,List.map_nil,hx];exact hR.IF ht
theorem aa.ze {t:TypeId} {xo:Operand} {b:List UInt8} (hg:aA ops fr ⟨some dst,.call ⟨.builtin .len,#[xo],#[t]⟩,ty,pp,a,g⟩=some true) (hx:fr.ev xo=.str b) (ht:P.ch t=some .string) (hp:fr.put dst (.int .i64 (b.length:Nat))=aE)
  (h:aa P ops rest aE st Q):aa P ops (⟨some dst,.call ⟨.builtin .len,#[xo],#[t]⟩,ty,pp,a,g⟩::rest) fr st Q:=by
 refine aa.go hg rfl (d:=.int .i64 (b.length:Nat)) (st1:=st) ?_ hp h;simp only[dq,List.map_cons,List.map_nil,hx,bc,ht]
theorem aa.nz {t e:TypeId} {xo io:Operand} {x:D} {s i:Nat} {kk:IntKind} {es:List (List D)} {r:List D} {aE:D→Fr} (hg:aA ops fr ⟨some dst,.indexAddr t xo io,ty,pp,a,g⟩=some true) (hx:fr.ev xo=x) (hi:fr.ev io=.int kk (i:Nat)) (hR:Rows st s x es) (ht:P.ch t=some (.slice e)) (hs:cg P e=some s) (hr:es[i]?=some r) (hp:∀p,fr.put dst p=aE p)
  (h:∀p,kY st p r→aa P ops rest (aE p) st Q):aa P ops (⟨some dst,.indexAddr t xo io,ty,pp,a,g⟩::rest) fr st Q:=by
 obtain⟨p,h1,h2⟩:=hR.PB ht hs (k:=kk) hr;refine aa.go hg rfl (d:=p) (st1:=st) ?_ (hp p) (h p h2);simp only[dq,hx,hi,h1,Option.map_some]
theorem aa.Jl {t:TypeId} {xo:Operand} {x:D} {r:List D} {f m:Nat} {fields:Array Field} {fd:Field} {aE:D→Fr} (hg:aA ops fr ⟨some dst,.fieldAddr t xo f,ty,pp,a,g⟩=some true) (hx:fr.ev xo=x) (hR:kY st x r) (ht:P.ch t=some (.struct fields)) (hf:fields[f]?=some fd) (hm:cg P fd.type=some m) (ma:m≠0) (hp:∀p,fr.put dst p=aE p)
  (h:∀p,kY st p (r.drop fd.offset)→aa P ops rest (aE p) st Q):aa P ops (⟨some dst,.fieldAddr t xo f,ty,pp,a,g⟩::rest) fr st Q:=by
 obtain⟨p,h1,h2⟩:=hR.field ht hf hm ma;refine aa.go hg rfl (d:=p) (st1:=st) ?_ (hp p) (h p h2);simp only[dq,hx,h1,Option.map_some]
theorem aa.iP {t:TypeId} {ao:Operand} {x d:D} {r:List D} (hg:aA ops fr ⟨some dst,.load t ao,ty,pp,a,g⟩=some true) (ha:fr.ev ao=x) (hR:kY st x r) (hd:du P t r=some d) (hp:fr.put dst d=aE)
  (h:aa P ops rest aE st Q):aa P ops (⟨some dst,.load t ao,ty,pp,a,g⟩::rest) fr st Q:=by
 refine aa.go hg rfl (d:=d) (st1:=st) ?_ hp h;simp only[dq,ha,hR.load hd,Option.map_some]
theorem aa.PK {t e:TypeId} {xo io:Operand} {x:D} {s i j:Nat} {kk:IntKind} {es:List (List D)} {aE:D→Fr} (hH:Has N S st H) (hg:aA ops fr ⟨some dst,.indexAddr t xo io,ty,pp,a,g⟩=some true) (hx:fr.ev xo=x) (hi:fr.ev io=.int kk (i:Nat)) (hj:H[j]?=some (.aC x s es)) (ht:P.ch t=some (.slice e)) (hs:cg P e=some s) (hr:i<es.length) (hp:∀p,fr.put dst p=aE p)
  (h:∀p,qz x s i 0 p→aa P ops rest (aE p) st Q):aa P ops (⟨some dst,.indexAddr t xo io,ty,pp,a,g⟩::rest) fr st Q:=by
 have hown:=hH.own hj
 cases hown with
 |nul=>simp at hr
 |win k az off es c hm hl hc he=>
  refine aa.go hg rfl (d:=.ptr k az (off+i*s)) (st1:=st) ?_ (hp _) (h _ ⟨k,az,off,_,rfl,rfl⟩);simp only[dq,hx,hi,bQ,ht,hs,Option.bind_some,St.mem_of hm,Option.isSome_some];rw[if_pos ⟨trivial,by omega,by omega,trivial⟩];rfl
theorem aa.Js {t:TypeId} {xo:Operand} {x y:D} {s i o:Nat} {f m:Nat} {fields:Array Field} {fd:Field} {aE:D→Fr} (hg:aA ops fr ⟨some dst,.fieldAddr t xo f,ty,pp,a,g⟩=some true) (hx:fr.ev xo=y) (hR:qz x s i o y) (ht:P.ch t=some (.struct fields)) (hf:fields[f]?=some fd) (hm:cg P fd.type=some m) (ma:m≠0) (hp:∀p,fr.put dst p=aE p)
  (h:∀p,qz x s i (o+fd.offset) p→aa P ops rest (aE p) st Q):aa P ops (⟨some dst,.fieldAddr t xo f,ty,pp,a,g⟩::rest) fr st Q:=by
 obtain⟨k,az,off,len,h1,h2⟩:=hR;refine aa.go hg rfl (d:=.ptr k az (off+i*s+(o+fd.offset))) (st1:=st) ?_ (hp _) (h _ ⟨k,az,off,len,h1,rfl⟩);simp only[dq,hx,h2,eK,ht,hf,Option.bind_some,hm];rw[if_neg (by simp only[Option.some.injEq];exact ma),←Nat.add_assoc];rfl
theorem aa.IH {t:TypeId} {ao:Operand} {x y d:D} {s i o j:Nat} {es:List (List D)} {r:List D} (hH:Has N S st H) (hg:aA ops fr ⟨some dst,.load t ao,ty,pp,a,g⟩=some true) (ha:fr.ev ao=y) (hR:qz x s i o y) (hj:H[j]?=some (.aC x s es)) (hr:es[i]?=some r) (hd:du P t (r.drop o)=some d) (hp:fr.put dst d=aE)
  (h:aa P ops rest aE st Q):aa P ops (⟨some dst,.load t ao,ty,pp,a,g⟩::rest) fr st Q:=by
 obtain⟨k,az,off,len,rfl,rfl⟩:=hR;have hown:=hH.own hj
 cases hown with
 |win k az off es c hm hl hc he=>
  refine aa.go hg rfl (d:=d) (st1:=st) ?_ hp h;have h1:=mg he i r hr
  have hil:i<es.length:=by
   rcases Nat.lt_or_ge i es.length with h'|h'
   ·exact h'
   ·rw[List.getElem?_eq_none h'] at hr;cases hr
  have h2:(i+1)*s≤es.length*s:=Nat.mul_le_mul_right s hil;rw[Nat.add_mul,Nat.one_mul] at h2;rw[←hc,List.drop_take,List.take_take,List.drop_drop,Nat.min_eq_left (by omega)] at h1;have Ac:=he r (List.mem_of_getElem? hr);simp only[dq,ha,gH,St.mem_of hm,Option.bind_some];rw[lX (r:=r.drop o) ?_ hd];rfl;rw[List.length_drop,Ac,←h1,List.drop_take,List.drop_drop]
theorem aa.jE {t:TypeId} {ao vo:Operand} {x y v:D} {s i o j:Nat} {es:List (List D)} {r cs:List D} (hH:Has N S st H) (hg:aA ops fr ⟨none,.store t ao vo,ty,pp,a,g⟩=some true) (ha:fr.ev ao=y) (hv:fr.ev vo=v) (hR:qz x s i o y) (lf:v.cells?=some cs) (hs:cg P t=some cs.length) (hj:H[j]?=some (.aC x s es)) (hr:es[i]?=some r) (hl:o+cs.length≤s) (hw:S.flr≤N∨refs cs=0)
  (h:∀ah,Has N S ah (H.set j (.aC x s (es.set i (setMany r o cs))))→aa P ops rest fr ah Q):aa P ops (⟨none,.store t ao vo,ty,pp,a,g⟩::rest) fr st Q:=by
 obtain⟨k,az,off,len,rfl,rfl⟩:=hR;obtain⟨ah,h1,h2⟩:=hH.Bc hj hr hl hw;refine aa.N hg rfl (d:=.tup []) (st1:=ah) ?_ (h _ h2);simp only[dq,ha,hv,kc,lf,hs,if_pos trivial,h1];rfl
theorem aa.Em {t e:TypeId} {xo:Operand} {lo hi:Option Operand} {x:D} {s j:Nat} {es:List (List D)} {l r:Nat} {aE:D→Fr} (hH:Has N S st H) (hg:aA ops fr ⟨some dst,.slice t xo lo hi none,ty,pp,a,g⟩=some true) (hx:fr.ev xo=x) (hj:H[j]?=some (.aC x s es)) (ht:P.ch t=some (.slice e)) (hs:cg P e=some s)
  (hb:cC es.length (lo.map fr.ev) (hi.map fr.ev)=some (l,r)) (pI:l≤r∧r≤es.length) (hp:∀y,fr.put dst y=aE y)
  (h:∀y,Has N S st (H.set j (.aC y s ((es.take r).drop l)))→aa P ops rest (aE y) st Q):aa P ops (⟨some dst,.slice t xo lo hi none,ty,pp,a,g⟩::rest) fr st Q:=by
 have hown:=hH.own hj
 cases hown with
 |nul=>
  simp only[List.length_nil] at hb pI
  have hy:Has N S st (H.set j (.aC .nul s (([].take r).drop l))):=by
   refine hH.A2 hj (fun _ _ _=>rfl) (Nat.le_refl _) rfl rfl (by simp;exact .nul) (fun k hk=>.inl hk) fun k hk=>by simp only[a_.aC,D.ref] at hk;omega
  refine aa.go hg rfl (d:=.nul) (st1:=st) ?_ (hp _) (h _ hy);simp only[dq,hx,eG,ht,hs,Option.bind_some,hb,Option.map_some]
 |win k az off es c hm hl hc he=>
  have hlen:((es.take r).drop l).length=r-l:=by simp;omega
  have h1:l*s+(r-l)*s≤es.length*s:=by rw[←Nat.add_mul];exact Nat.mul_le_mul_right s (by omega)
  have hk:=(hH.ok j _ hj).2 k (by simp only[a_.aC,D.ref])
  have hy:Has N S st (H.set j (.aC (.win k az (off+l*s) (r-l) s) s ((es.take r).drop l))):=by
   refine hH.A2 hj (fun _ _ _=>rfl) (Nat.le_refl _) rfl rfl ?_ (fun k' kG=>.inl ?_) fun k' kG=>?_
   ·have:=gT.win (st:=st) (s:=s) k az (off+l*s) ((es.take r).drop l) c hm (by rw[hlen];omega) ?_ (fun e qZ=>he e (List.mem_of_mem_take (List.mem_of_mem_drop qZ)))
    ·rw[hlen] at this;exact this
    ·rw[hlen];have mb:=cE he
     have e1:∀n,n≤es.length→(es.take n).flatten=es.flatten.take (n*s):=by
      intro n hn;have:es.flatten=(es.take n).flatten++(es.drop n).flatten:=by rw[←List.flatten_append,List.take_append_drop]
      rw[this,List.take_left'];rw[cE (s:=s) (fun e qZ=>he e (List.mem_of_mem_take qZ)),List.length_take,Nat.min_eq_left hn]
     have e2:((es.take r).drop l).flatten=(es.take r).flatten.drop (l*s):=by
      have h2:(es.take r).flatten=((es.take r).take l).flatten++((es.take r).drop l).flatten:=by rw[←List.flatten_append,List.take_append_drop]
      rw[h2,List.drop_left'];rw[cE (s:=s) (fun e qZ=>he e (List.mem_of_mem_take (List.mem_of_mem_take qZ))),List.length_take,List.length_take,Nat.min_eq_left (by omega)]
     rw[e2,e1 r pI.2,←hc,List.take_take,List.drop_take,List.drop_drop,Nat.sub_mul]
     congr 1
     have:r*s≤es.length*s:=Nat.mul_le_mul_right s pI.2;rw[Nat.min_eq_left this]
   ·simp only[a_.aC,D.ref] at kG⊢;exact kG
   ·simp only[a_.aC,D.ref] at kG;omega
  refine aa.go hg rfl (d:=.win k az (off+l*s) (r-l) s) (st1:=st) ?_ (hp _) (h _ hy);simp only[dq,hx,eG,ht,hs,Option.bind_some,hb,if_true,Option.map_some]
theorem aa.An {s t e:TypeId} {xo:Operand} {b:List UInt8} {aE:Nat→Fr} (hH:Has N S st H) (hg:aA ops fr ⟨some dst,.convert s t xo,ty,pp,a,g⟩=some true) (hx:fr.ev xo=.str b) (h1:P.ch s=some .string) (h2:P.ch t=some (.slice e)) (h3:P.ch e=some (.int .u8)) (hl:b.length<1099511627776) (hp:∀k,fr.put dst (.win k 0 0 b.length 1)=aE k)
  (h:∀k ah,S.bs.length≤k→Has N S ah (.aC (.win k 0 0 b.length 1) 1 (byteCells b)::H)→aa P ops rest (aE k) ah Q):aa P ops (⟨some dst,.convert s t xo,ty,pp,a,g⟩::rest) fr st Q:=by
 have hc:∀b:List UInt8,(byteCells b).flatten=b.map fun y=>.int .u8 (y.toNat:Nat):=by
  intro b
  induction b with
  |nil=>rfl
  |cons y b ih=>simp only[byteCells,List.map_cons,List.flatten_cons] at ih⊢;rw[ih];rfl
 refine aa.go hg rfl (d:=.win st.bs.length 0 0 b.length 1) (st1:=st.push (.mem 0 true (b.map fun y=>.int .u8 (y.toNat:Nat)))) ?_ (hp _) (h _ _ hH.len (hH.qQ (by simp[byteCells]) (hc b) (fun e he=>by obtain⟨y,_,rfl⟩:=List.mem_map.1 he;rfl)));simp only[dq,hx,iB,h1,h2,h3,if_pos hl]
theorem aa.BQ {f:Operand} {gn:Nat} {jH:List D} {args:Array Operand} {w6:Array TypeId} {d:D} {st1:St} (hg:aA ops fr ⟨some dst,.call ⟨.value f,args,w6⟩,ty,pp,a,g⟩=some true) (hf:fr.ev f=.fn gn jH)
  (h1:Ev P gn (args.toList.map fr.ev++jH) st d st1) (hp:fr.put dst d=aE)
  (h:aa P ops rest aE st1 Q):aa P ops (⟨some dst,.call ⟨.value f,args,w6⟩,ty,pp,a,g⟩::rest) fr st Q:=
 aa.call hg hf h1 (by show aa P ops rest (fr.put dst d) st1 Q;rw[hp];exact h)
theorem EV {m:Mode} {kn:Bool} {st st1:St} {d d':D} (hm:m≠.bW∧m≠.nw) (hS:S.bs=st.bs) (hH:Has st.bs.length S st1 H) (hd:bd st1 st.bs.length kn 16 d=some d'):da m kn st st1 d=some (d',st):=
 aH hm ((hH.ex.take (by rw[hS])).trans hS) hd
theorem Has.freeze {j:Nat} {x:D} {s:Nat} {es:List (List D)} (hH:Has N S st H) (hj:H[j]?=some (.aC x s es)) (hp:∀e∈es,∀d∈e,ck d=true) {n:Nat} (hn:2≤n):bd st N false (n+1) x=some (.sl (es.map (j7 s))):=by
 obtain⟨n,rfl⟩:∃m,n=m+2:=⟨n-2,by omega⟩
 have hown:=hH.own hj;have hkk:=(hH.ok j _ hj).2
 cases hown with
 |nul=>rfl
 |win k az off es c hm hl hc he=>
  have hk:=hkk k (by simp only[a_.aC,D.ref]);show(if k<N then some (D.win k az off es.length s) else ej st N (n+2) (.win k az off es.length s))=_;rw[if_neg (show¬k<N by omega),ej];simp only[if_neg (show¬k<N by omega),St.mem_of hm,Option.bind_some]
  rw[if_pos hl,hc,kz (fun d hd=>by
   obtain⟨e,qZ,BP⟩:=List.mem_flatten.1 hd
   exact hp e qZ d BP)]
  simp only[Option.map_some,fW he]
end Go.V
namespace Go.V
variable{P:Pv} {ops:Array Oper} {rest:List Oper} {fr aE:Fr} {st:St} {Q:Fr→St→Prop} {ty:TypeId} {pp:String} {a:Array Edge} {g:Option (Nat×Bool)} {dst:Nat}
theorem ai {o:Oper} {j t:Nat} {w v:Bool} (h1:o.guard=some (j,w)) (h2:(ops[j]?).bind (·.dst)=some t) (h3:fr.get t=.bool v) (h4:v=w):aA ops fr o=some true:=by
 unfold aA;simp only[h1,h2,h3,h4,beq_self_eq_true]
theorem tP {o:Oper} {j t:Nat} {w v:Bool} (h1:o.guard=some (j,w)) (h2:(ops[j]?).bind (·.dst)=some t) (h3:fr.get t=.bool v) (h4:v=!w):aA ops fr o=some false:=by
 unfold aA;simp only[h1,h2,h3,h4];cases w<;>rfl
theorem aa.skip {op:Op} (hg:aA ops fr ⟨some dst,op,ty,pp,a,g⟩=some false) (hp:fr.put dst (.tup [])=aE)
  (h:aa P ops rest aE st Q):aa P ops (⟨some dst,op,ty,pp,a,g⟩::rest) fr st Q:=
 aa.off hg (by show aa P ops rest (fr.put dst _) st Q;rw[hp];exact h)
theorem aa.two {l:List Oper} (t:Nat) {v:Bool} (hv:fr.get t=.bool v) (h1:v=true→aa P ops l fr st Q) (h2:v=false→aa P ops l fr st Q):aa P ops l fr st Q:=by
 cases v
 ·exact h2 rfl
 ·exact h1 rfl
theorem aa.cQ {c x y:Operand} {v:Bool} (hg:aA ops fr ⟨some dst,.pick c x y,ty,pp,a,g⟩=some true) (hc:fr.ev c=.bool v) (hv:v=true) (hp:fr.put dst (fr.ev x)=aE)
  (h:aa P ops rest aE st Q):aa P ops (⟨some dst,.pick c x y,ty,pp,a,g⟩::rest) fr st Q:=
 aa.go hg rfl (by simp only[dq,hc,hv]) hp h
theorem aa.cH {c x y:Operand} {v:Bool} (hg:aA ops fr ⟨some dst,.pick c x y,ty,pp,a,g⟩=some true) (hc:fr.ev c=.bool v) (hv:v=false) (hp:fr.put dst (fr.ev y)=aE)
  (h:aa P ops rest aE st Q):aa P ops (⟨some dst,.pick c x y,ty,pp,a,g⟩::rest) fr st Q:=
 aa.go hg rfl (by simp only[dq,hc,hv]) hp h
theorem ak.cut {dy:Dy} {i:Nat} {l:List Oper} {d n loc LK tmp st} {Q:Out→Fr→St→Prop} (t:Nat) (v:D)
  (h1:aa P l.toArray l ⟨n,loc,[]⟩ st fun aE ah=>∃tmp,aE=⟨n,LK,tmp⟩∧ah=st∧look t tmp=v) (h2:∀tmp,look t tmp=v→Q .next ⟨n,LK,tmp⟩ st) (h0:gO i dy=[]:=by rfl):ak P dy (.region i l.toArray d) ⟨n,loc,tmp⟩ st Q:=by
 refine ak.jg ?_ h0;unfold aa at h1⊢;obtain⟨aE,ah,h3,Jc,rfl,rfl,h4⟩:=h1;exact⟨_,_,h3,h2 _ h4⟩
theorem vd {len n:Nat} {k:IntKind} (h:n≤len):cC len none (some (.int k (n:Nat)))=some (0,n):=by
 simp only[cC,iQ,kN];rw[if_pos ⟨by omega,by omega⟩];rfl
theorem yT {len n:Nat} {k:IntKind} (h:n≤len):cC len (some (.int k (n:Nat))) none=some (n,len):=by
 simp only[cC,iQ,kN,Option.bind_some];rw[if_pos ⟨by omega,by omega⟩];rfl
theorem lT {len m n:Nat} {k k':IntKind} (h:m≤n∧n≤len):cC len (some (.int k (m:Nat))) (some (.int k' (n:Nat)))=some (m,n):=by
 simp only[cC,iQ,kN];rw[if_pos ⟨by omega,by omega⟩];simp only[Option.bind_some];rw[if_pos ⟨by omega,by omega⟩];rfl
theorem wrap_i32 {n : Int} (h1 : -2147483648 ≤ n) (h2 : n ≤ 2147483647) : a7 .i32 n = n := by
  cases n with
  | ofNat m => exact bA (k := .i32) (m := m) (by simp only [fQ]; have : (Int.ofNat m) = (m : Int) := rfl; omega)
  | negSucc m =>
    unfold a7
    have : Nat.ble (vM .i32) m = false := by
      cases hb : Nat.ble (vM .i32) m with
      | false => rfl
      | true => have := Nat.le_of_ble_eq_true hb; simp only [vM] at this; have : Int.negSucc m = -(m : Int) - 1 := by omega
                omega
    simp only [this]
theorem PR (x y:Int):(if y>x then y else x)=max x y:=by split<;>omega
theorem PQ (x y:Int):(if y<x then y else x)=min x y:=by split<;>omega
theorem aa.Hk {t1 t2:TypeId} {xo yo:Operand} {k k':IntKind} {x y:Int} {w6:Array TypeId} (hg:aA ops fr ⟨some dst,.call ⟨.builtin .max,#[xo,yo],w6⟩,ty,pp,a,g⟩=some true) (hx:fr.ev xo=.int k x) (hy:fr.ev yo=.int k' y) (hp:fr.put dst (.int k (max x y))=aE)
  (h:aa P ops rest aE st Q):aa P ops (⟨some dst,.call ⟨.builtin .max,#[xo,yo],w6⟩,ty,pp,a,g⟩::rest) fr st Q:=by
 refine aa.go hg rfl (d:=.int k (max x y)) (st1:=st) ?_ hp h;simp only[dq,List.map_cons,List.map_nil,hx,hy,bc,pN,uq,Option.bind_some,Option.map_some,←PR];rfl
theorem aa.Jx {t1 t2:TypeId} {xo yo:Operand} {k k':IntKind} {x y:Int} {w6:Array TypeId} (hg:aA ops fr ⟨some dst,.call ⟨.builtin .min,#[xo,yo],w6⟩,ty,pp,a,g⟩=some true) (hx:fr.ev xo=.int k x) (hy:fr.ev yo=.int k' y) (hp:fr.put dst (.int k (min x y))=aE)
  (h:aa P ops rest aE st Q):aa P ops (⟨some dst,.call ⟨.builtin .min,#[xo,yo],w6⟩,ty,pp,a,g⟩::rest) fr st Q:=by
 refine aa.go hg rfl (d:=.int k (min x y)) (st1:=st) ?_ hp h;simp only[dq,List.map_cons,List.map_nil,hx,hy,bc,pN,uq,Option.bind_some,Option.map_some,←PQ];rfl
theorem aa.KL {t mE:TypeId} {xo yo:Operand} {x y:Int} (hg:aA ops fr ⟨some dst,.binOp .add t xo yo mE,ty,pp,a,g⟩=some true) (hx:fr.ev xo=.int .i64 x) (hy:fr.ev yo=.int .i64 y) (h1:-9223372036854775808≤x+y) (h2:x+y≤9223372036854775807) (hp:fr.put dst (.int .i64 (x+y))=aE)
  (h:aa P ops rest aE st Q):aa P ops (⟨some dst,.binOp .add t xo yo mE,ty,pp,a,g⟩::rest) fr st Q:=by
 refine aa.go hg rfl (d:=.int .i64 (x+y)) (st1:=st) ?_ hp h;simp only[dq,hx,hy,eL,tE,if_pos trivial,Option.map_some,wrap_i64 h1 h2]
theorem aa.DO {t mE:TypeId} {xo yo:Operand} {x y:Int} (hg:aA ops fr ⟨some dst,.binOp .sub t xo yo mE,ty,pp,a,g⟩=some true) (hx:fr.ev xo=.int .i64 x) (hy:fr.ev yo=.int .i64 y) (h1:-9223372036854775808≤x-y) (h2:x-y≤9223372036854775807) (hp:fr.put dst (.int .i64 (x-y))=aE)
  (h:aa P ops rest aE st Q):aa P ops (⟨some dst,.binOp .sub t xo yo mE,ty,pp,a,g⟩::rest) fr st Q:=by
 refine aa.go hg rfl (d:=.int .i64 (x-y)) (st1:=st) ?_ hp h;simp only[dq,hx,hy,eL,tE,if_pos trivial,Option.map_some,wrap_i64 h1 h2]
theorem aa.AV {t mE:TypeId} {xo yo:Operand} {x y:Int} (hg:aA ops fr ⟨some dst,.binOp .add t xo yo mE,ty,pp,a,g⟩=some true) (hx:fr.ev xo=.int .i32 x) (hy:fr.ev yo=.int .i32 y) (h1:-2147483648≤x+y) (h2:x+y≤2147483647) (hp:fr.put dst (.int .i32 (x+y))=aE)
  (h:aa P ops rest aE st Q):aa P ops (⟨some dst,.binOp .add t xo yo mE,ty,pp,a,g⟩::rest) fr st Q:=by
 refine aa.go hg rfl (d:=.int .i32 (x+y)) (st1:=st) ?_ hp h;simp only[dq,hx,hy,eL,tE,if_pos trivial,Option.map_some,wrap_i32 h1 h2]
theorem aa.Je {t mE:TypeId} {xo yo:Operand} {x y:Int} (hg:aA ops fr ⟨some dst,.binOp .sub t xo yo mE,ty,pp,a,g⟩=some true) (hx:fr.ev xo=.int .i32 x) (hy:fr.ev yo=.int .i32 y) (h1:-2147483648≤x-y) (h2:x-y≤2147483647) (hp:fr.put dst (.int .i32 (x-y))=aE)
  (h:aa P ops rest aE st Q):aa P ops (⟨some dst,.binOp .sub t xo yo mE,ty,pp,a,g⟩::rest) fr st Q:=by
 refine aa.go hg rfl (d:=.int .i32 (x-y)) (st1:=st) ?_ hp h;simp only[dq,hx,hy,eL,tE,if_pos trivial,Option.map_some,wrap_i32 h1 h2]
theorem aa.mv {op:Op} {x:Operand} {d:D} (gb:op=.move x∨op=.assign x) (hg:aA ops fr ⟨some dst,op,ty,pp,a,g⟩=some true) (hx:fr.ev x=d) (hp:fr.put dst d=aE)
  (h:aa P ops rest aE st Q):aa P ops (⟨some dst,op,ty,pp,a,g⟩::rest) fr st Q:=by
 refine aa.go hg ?_ (d:=d) (st1:=st) ?_ hp h<;>rcases gb with rfl|rfl<;>first|rfl|simp only[dq,hx]
def lP (P:Pv) (fields:Array Field) (f:Nat):Option (Nat×Option Nat):=(fields[f]?).map fun fd=>(fd.offset,cg P fd.type)
theorem lO {P:Pv} {fields:Array Field} {f fo m:Nat} (h:lP P fields f=some (fo,some m)):∃fd,fields[f]?=some fd∧fd.offset=fo∧cg P fd.type=some m:=by
 unfold lP at h;obtain⟨fd,h1,h2⟩:=Option.map_eq_some_iff.1 h;simp only[Prod.mk.injEq] at h2;exact⟨fd,h1,h2.1,h2.2⟩
theorem aa.Ej {t:TypeId} {xo:Operand} {k az off o f fo m:Nat} {fields:Array Field} (hg:aA ops fr ⟨some dst,.fieldAddr t xo f,ty,pp,a,g⟩=some true) (hx:fr.ev xo=.ptr k az off) (ht:P.ch t=some (.struct fields)) (hf:lP P fields f=some (fo,some (m+1))) (ho:off+fo=o) (hp:fr.put dst (.ptr k az o)=aE)
  (h:aa P ops rest aE st Q):aa P ops (⟨some dst,.fieldAddr t xo f,ty,pp,a,g⟩::rest) fr st Q:=by
 obtain⟨fd,h1,h2,h3⟩:=lO hf;subst ho;refine aa.go hg rfl (d:=.ptr k az (off+fo)) (st1:=st) ?_ hp h;simp only[dq,hx,eK,ht,h1,Option.bind_some,h3,h2];rw[if_neg (by simp)];rfl
theorem aa.G6 {t:TypeId} {xo:Operand} {x:D} {r:List D} {f fo m:Nat} {fields:Array Field} {aE:D→Fr} (hg:aA ops fr ⟨some dst,.fieldAddr t xo f,ty,pp,a,g⟩=some true) (hx:fr.ev xo=x) (hR:kY st x r) (ht:P.ch t=some (.struct fields)) (hf:lP P fields f=some (fo,some (m+1))) (hp:∀p,fr.put dst p=aE p)
  (h:∀p,kY st p (r.drop fo)→aa P ops rest (aE p) st Q):aa P ops (⟨some dst,.fieldAddr t xo f,ty,pp,a,g⟩::rest) fr st Q:=by
 obtain⟨fd,h1,h2,h3⟩:=lO hf;exact aa.Jl hg hx hR ht h1 h3 (by omega) hp (by rw[h2];exact h)
theorem aa.gU {t:TypeId} {xo:Operand} {x y:D} {s i o o2:Nat} {f fo m:Nat} {fields:Array Field} {aE:D→Fr} (hg:aA ops fr ⟨some dst,.fieldAddr t xo f,ty,pp,a,g⟩=some true) (hx:fr.ev xo=y) (hR:qz x s i o y) (ht:P.ch t=some (.struct fields)) (hf:lP P fields f=some (fo,some (m+1))) (ho:o+fo=o2) (hp:∀p,fr.put dst p=aE p)
  (h:∀p,qz x s i o2 p→aa P ops rest (aE p) st Q):aa P ops (⟨some dst,.fieldAddr t xo f,ty,pp,a,g⟩::rest) fr st Q:=by
 obtain⟨fd,h1,h2,h3⟩:=lO hf;subst ho;exact aa.Js hg hx hR ht h1 h3 (by omega) hp (by rw[h2];exact h)
theorem xh {c cs:List D} (h:cs.length=c.length):setMany c 0 cs=cs:=by
 rw[fN cs c 0 (by omega),List.take_zero,List.nil_append,Nat.zero_add,h,List.drop_length,List.append_nil]
variable{N:Nat} {S:St} {H:List a_}
theorem aa.cM {j k az:Nat} {ar:Bool} {c cs:List D} {v:D} {t:TypeId} {ao vo:Operand} (hH:Has N S st H) (hg:aA ops fr ⟨none,.store t ao vo,ty,pp,a,g⟩=some true) (ha:fr.ev ao=.ptr k az 0) (hv:fr.ev vo=v) (lf:v.cells?=some cs) (hs:cg P t=some cs.length) (hj:H[j]?=some (.box k (.mem az ar c))) (hl:cs.length=c.length) (hw:S.flr≤N∨refs cs=0)
  (h:∀ah,Has N S ah (H.set j (.box k (.mem az ar cs)))→aa P ops rest fr ah Q):aa P ops (⟨none,.store t ao vo,ty,pp,a,g⟩::rest) fr st Q:=
 aa.fe hH hg ha hv lf hs hj (by omega) hw (by rw[xh hl];exact h)
theorem uQ {place:Nat→Option (Nat×Nat)} {s:Nat} (jL:∀i,place i=some (i*s,s)):∀(vs:List D) (n:Nat) (done rem:List D),done.length=n*s→rem.length=vs.length*s→(∀v∈vs,v.cells?=some v.cells∧v.cells.length=s)→
  iz place (done++rem) (vs.mapIdx fun i v=>(n+i,v))=some (done++(vs.map D.cells).flatten)
 |[],n,done,rem,hd,hr,_=>by
  have:rem=[]:=by cases rem with|nil=>rfl|cons _ _=>simp at hr
  subst this;simp[iz]
 |v::vs,n,done,rem,hd,hr,hv=>by
  obtain⟨h1,h2⟩:=hv v (List.mem_cons_self ..);simp only[List.length_cons,Nat.add_mul,Nat.one_mul] at hr;simp only[List.mapIdx_cons,iz,jL,h1,Nat.add_zero];rw[if_neg (by simp only[h2,ne_eq,not_true_eq_false,List.length_append,false_or];rw[hd,hr];omega)]
  have e1:setMany (done++rem) (n*s) v.cells=(done++v.cells)++rem.drop s:=by
   rw[fN _ _ _ (by simp only[List.length_append];omega),h2,←hd,List.take_left,List.drop_length_add_append]
  have ih:=uQ jL vs (n+1) (done++v.cells) (rem.drop s) (by rw[List.length_append,hd,h2,Nat.add_mul,Nat.one_mul]) (by rw[List.length_drop];omega) fun w hw=>hv w (List.mem_cons_of_mem _ hw);rw[e1];have e2:(vs.mapIdx fun i v=>(n+(i+1),v))=vs.mapIdx fun i v=>(n+1+i,v):=by congr 1;funext i v;rw[show n+(i+1)=n+1+i by omega]
  rw[e2,ih];simp[List.append_assoc]
def B1 (fr:Fr):Nat→List (Nat×Operand)→List D→Prop
 |_,[],[]=>True
 |n,(i,o)::ps,v::vs=>i=n∧fr.ev o=v∧B1 fr (n+1) ps vs
 |_,_,_=>False
theorem yD {fr:Fr}:∀{ps:List (Nat×Operand)} {vs:List D} {n:Nat},B1 fr n ps vs→(ps.map fun p=>(p.1,fr.ev p.2))=vs.mapIdx fun i v=>(n+i,v)
 |[],[],_,_=>rfl
 |(i,o)::ps,v::vs,n,h=>by
  obtain⟨h1,h2,h3⟩:=h;have ih:=yD h3;simp only[List.map_cons,List.mapIdx_cons,Nat.add_zero];rw[ih,h1,h2]
  congr 1
  congr 1;funext i v;rw[show n+(i+1)=n+1+i by omega]
 |[],_::_,_,h=>h.elim
 |_::_,[],_,h=>h.elim
theorem aa.Fe {t e:TypeId} {m s:Nat} {parts:Array (Nat×Operand)} {z:List D} {vs:List D} {aE:Nat→Fr} (hH:Has N S st H) (hg:aA ops fr ⟨some dst,.buildSlice t m parts,ty,pp,a,g⟩=some true) (ht:P.ch t=some (.slice e)) (hs:cg P e=some s) (hz:cO P e=some z) (kZ:z.length=s) (hm:m*s≤16777216)
  (O1:B1 fr 0 parts.toList vs) (LZ:vs.length=m) (hc:∀v∈vs,v.cells?=some v.cells∧v.cells.length=s) (hp:∀k,fr.put dst (.win k 0 0 m s)=aE k)
  (h:∀k ah,S.bs.length≤k→Has N S ah (.aC (.win k 0 0 m s) s (vs.map D.cells)::H)→aa P ops rest (aE k) ah Q):aa P ops (⟨some dst,.buildSlice t m parts,ty,pp,a,g⟩::rest) fr st Q:=by
 have Ds:=yD O1;have hf:=uQ (place:=fun i=>some (i*s,s)) (fun _=>rfl) vs 0 [] (eZ m z) (by simp) (by simp[eZ,LZ,kZ]) hc
 refine aa.go hg rfl (d:=.win st.bs.length 0 0 m s) (st1:=st.push (.mem 0 true (vs.map D.cells).flatten)) ?_ (hp _) (h _ _ hH.len (hH.qQ (by simpa using LZ) rfl (fun e he=>by
  obtain⟨v,hv,rfl⟩:=List.mem_map.1 he
  exact(hc v hv).2)))
 simp only[dq,hY,ht,hs,hz,Option.bind_some];rw[if_pos ⟨kZ,hm⟩,Ds];simp only[List.nil_append] at hf;rw[hf];rfl
theorem aa.aL {j k az off m:Nat} {ar:Bool} {c r:List D} {t:TypeId} {ao:Operand} (hH:Has N S st H) (hg:aA ops fr ⟨some dst,.load t ao,ty,pp,a,g⟩=some true) (ha:fr.ev ao=.ptr k az off) (hj:H[j]?=some (.box k (.mem az ar c))) (hr:(c.drop off).take m=r) (hd:du P t r=some (.agg r)) (hm:r.length=m) (hp:fr.put dst (.agg r)=aE)
  (h:aa P ops rest aE st Q):aa P ops (⟨some dst,.load t ao,ty,pp,a,g⟩::rest) fr st Q:=
 aa.uH hH hg ha hj (lX (r:=r) (by rw[hm];exact hr) hd) hp h
theorem bo {α:Type} {l:List α} {i:Nat} {a:α} (h:l[i]?=some a):i<l.length:=by
 rcases Nat.lt_or_ge i l.length with h'|h'
 ·exact h'
 ·rw[List.getElem?_eq_none h'] at h;cases h
theorem aa.cV {t:TypeId} {ao:Operand} {x:D} {r:List D} (hg:aA ops fr ⟨some dst,.load t ao,ty,pp,a,g⟩=some true) (ha:fr.ev ao=x) (hR:kY st x r) (hd:du P t r=some (.agg r)) (hp:fr.put dst (.agg r)=aE)
  (h:aa P ops rest aE st Q):aa P ops (⟨some dst,.load t ao,ty,pp,a,g⟩::rest) fr st Q:=aa.iP hg ha hR hd hp h
theorem aa.Eu {t:TypeId} {ao:Operand} {x y:D} {s i j:Nat} {es:List (List D)} {r:List D} (hH:Has N S st H) (hg:aA ops fr ⟨some dst,.load t ao,ty,pp,a,g⟩=some true) (ha:fr.ev ao=y) (hR:qz x s i 0 y) (hj:H[j]?=some (.aC x s es)) (hr:es[i]?=some r) (hd:du P t r=some (.agg r)) (hp:fr.put dst (.agg r)=aE)
  (h:aa P ops rest aE st Q):aa P ops (⟨some dst,.load t ao,ty,pp,a,g⟩::rest) fr st Q:=aa.IH hH hg ha hR hj hr (by rw[List.drop_zero];exact hd) hp h
theorem aa.eC {t mE:TypeId} {xo yo:Operand} {x y z:Int} {k:IntKind} (hg:aA ops fr ⟨some dst,.binOp .add t xo yo mE,ty,pp,a,g⟩=some true) (hx:fr.ev xo=.int k x) (hy:fr.ev yo=.int k y) (hz:a7 k (x+y)=z) (hp:fr.put dst (.int k z)=aE)
  (h:aa P ops rest aE st Q):aa P ops (⟨some dst,.binOp .add t xo yo mE,ty,pp,a,g⟩::rest) fr st Q:=by
 refine aa.go hg rfl (d:=.int k z) (st1:=st) ?_ hp h;simp only[dq,hx,hy,eL,tE,if_pos trivial,Option.map_some,hz]
theorem aa.eY {t mE:TypeId} {xo yo:Operand} {x y z:Int} {k:IntKind} (hg:aA ops fr ⟨some dst,.binOp .sub t xo yo mE,ty,pp,a,g⟩=some true) (hx:fr.ev xo=.int k x) (hy:fr.ev yo=.int k y) (hz:a7 k (x-y)=z) (hp:fr.put dst (.int k z)=aE)
  (h:aa P ops rest aE st Q):aa P ops (⟨some dst,.binOp .sub t xo yo mE,ty,pp,a,g⟩::rest) fr st Q:=by
 refine aa.go hg rfl (d:=.int k z) (st1:=st) ?_ hp h;simp only[dq,hx,hy,eL,tE,if_pos trivial,Option.map_some,hz]
theorem aa.xY {t mE:TypeId} {xo yo:Operand} {x y z:Int} {k:IntKind} (hg:aA ops fr ⟨some dst,.binOp .mul t xo yo mE,ty,pp,a,g⟩=some true) (hx:fr.ev xo=.int k x) (hy:fr.ev yo=.int k y) (hz:a7 k (x*y)=z) (hp:fr.put dst (.int k z)=aE)
  (h:aa P ops rest aE st Q):aa P ops (⟨some dst,.binOp .mul t xo yo mE,ty,pp,a,g⟩::rest) fr st Q:=by
 refine aa.go hg rfl (d:=.int k z) (st1:=st) ?_ hp h;simp only[dq,hx,hy,eL,tE,if_pos trivial,Option.map_some,hz]
theorem aa.KZ {t mE:TypeId} {xo yo:Operand} {x y:D} {b:Bool} (hg:aA ops fr ⟨some dst,.binOp .neq t xo yo mE,ty,pp,a,g⟩=some true) (hx:fr.ev xo=x) (hy:fr.ev yo=y) (hb:eL P .neq t x y=some (.bool b)) (hp:fr.put dst (.bool b)=aE)
  (h:aa P ops rest aE st Q):aa P ops (⟨some dst,.binOp .neq t xo yo mE,ty,pp,a,g⟩::rest) fr st Q:=by
 refine aa.go hg rfl (d:=.bool b) (st1:=st) ?_ hp h;simp only[dq,hx,hy,hb,Option.map_some]
theorem Ev.gA {f:Nat} {x:Fi} {body:Code} {args:List D} {st:St} {n:Nat} {loc:List D} {Gt:D→St→Prop} (hq:lF f P.prm=none) (hf:P.fi f=some x) (hp:x.jS=none) (hb:x.fn.body=some body) (E5:pad x.nloc args=⟨n,loc,[]⟩)
  (h:ak P x.dyn body ⟨n,loc,[]⟩ (ae x.mode st) fun o fr st1=>(∀i,o≠.exit i)∧∃ds d ah,ki P fr st1 x.fn.results.toList=some ds∧da x.mode x.knul st st1 (tz ds)=some (d,ah)∧Gt d ah):∃d ah,Ev P f args st d ah∧Gt d ah:=by
 unfold ak at h;obtain⟨o,aE,st1,hN,ho,ds,d,ah,hr,hl,E4⟩:=h;refine⟨d,ah,Ev.ia hq hf hp hb E5 ?_,E4⟩;unfold ak;exact⟨o,aE,st1,hN,ho,ds,hr,hl⟩
def Gv (M:Fr→St→Prop) (Q:Out→Fr→St→Prop):Out→Fr→St→Prop
 | .next,fr,st=>M fr st
 | .exit i,fr,st=>Q (.exit i) fr st
 | .ret,fr,st=>Q .ret fr st
theorem ak.merge {P:Pv} {dy:Dy} {c:Code} {fr:Fr} {st:St} {Q:Out→Fr→St→Prop} (M:Fr→St→Prop) (h1:ak P dy c fr st (Gv M Q)) (h2:∀aE ah,M aE ah→Q .next aE ah):ak P dy c fr st Q:=
 h1.mono fun o aE ah h=>by
  cases o with
  |next=>exact h2 _ _ h
  |exit i=>exact h
  |ret=>exact h
theorem aa.Su {t mE:TypeId} {xo yo:Operand} {x y:Nat} (hg:aA ops fr ⟨some dst,.binOp .add t xo yo mE,ty,pp,a,g⟩=some true) (hx:fr.ev xo=.int .i64 (x:Nat)) (hy:fr.ev yo=.int .i64 (y:Nat)) (h2:x+y≤9223372036854775807) (hp:fr.put dst (.int .i64 ((x+y:Nat):Int))=aE)
  (h:aa P ops rest aE st Q):aa P ops (⟨some dst,.binOp .add t xo yo mE,ty,pp,a,g⟩::rest) fr st Q:=
 aa.eC hg hx hy (by rw[wrap_i64 (by omega) (by omega)];rfl) hp h
theorem Ev.Dq {f:Nat} {x:Fi} {body:Code} {args:List D} {st:St} {n:Nat} {loc:List D} {Gt:D→Prop} (hq:lF f P.prm=none) (hf:P.fi f=some x) (hp:x.jS=none) (hb:x.fn.body=some body) (E5:pad x.nloc args=⟨n,loc,[]⟩)
  (h:ak P x.dyn body ⟨n,loc,[]⟩ (ae x.mode st) fun o fr st1=>(∀i,o≠.exit i)∧∃ds d,ki P fr st1 x.fn.results.toList=some ds∧da x.mode x.knul st st1 (tz ds)=some (d,st)∧Gt d):∃d,Ev P f args st d st∧Gt d:=by
 unfold ak at h;obtain⟨o,aE,st1,hN,ho,ds,d,hr,hl,E4⟩:=h;refine⟨d,Ev.ia hq hf hp hb E5 ?_,E4⟩;unfold ak;exact⟨o,aE,st1,hN,ho,ds,hr,hl⟩
def aF (loc:List D) (ws:List Nat) (f:Nat→D):List D:=ws.foldl (fun l w=>l.set w (f w)) loc
theorem ak.kW {P:Pv} {dy:Dy} {i:Nat} {l:List Oper} {d n loc tmp st} {Q:Out→Fr→St→Prop} (t:Nat) (v:D) (ws:List Nat)
  (h1:aa P l.toArray l ⟨n,loc,[]⟩ st fun aE ah=>∃f tmp,aE=⟨n,(aF loc ws f).set t v,tmp⟩∧ah=st) (h2:∀f tmp,Q .next ⟨n,(aF loc ws f).set t v,tmp⟩ st) (h0:gO i dy=[]:=by rfl):ak P dy (.region i l.toArray d) ⟨n,loc,tmp⟩ st Q:=by
 refine ak.jg ?_ h0;unfold aa at h1⊢;obtain⟨aE,ah,h3,f,Jc,rfl,rfl⟩:=h1;exact⟨_,_,h3,h2 _ _⟩
theorem ak.cY {P:Pv} {dy:Dy} {i:Nat} {l:List Oper} {d n loc tmp st} {Q:Out→Fr→St→Prop} (t:Nat) (v:D) (ws:List Nat)
  (h1:aa P l.toArray l ⟨n,loc,[]⟩ st fun aE ah=>∃f tmp,aE=⟨n,aF loc ws f,tmp⟩∧ah=st∧look t tmp=v) (h2:∀f tmp,look t tmp=v→Q .next ⟨n,aF loc ws f,tmp⟩ st) (h0:gO i dy=[]:=by rfl):ak P dy (.region i l.toArray d) ⟨n,loc,tmp⟩ st Q:=by
 refine ak.jg ?_ h0;unfold aa at h1⊢;obtain⟨aE,ah,h3,f,Jc,rfl,rfl,h4⟩:=h1;exact⟨_,_,h3,h2 _ _ h4⟩
theorem aR {n:Nat} {L loc:List D} {vq:List (Nat×D)} {ws:List Nat} {t:Nat} {v:D} {st:St} (h:L=(aF loc ws (fun k=>nth .bj L k)).set t v):∃(f:Nat→D) (tmp:List (Nat×D)),(⟨n,L,vq⟩:Fr)=⟨n,(aF loc ws f).set t v,tmp⟩∧st=st:=⟨_,vq,by rw[←h],rfl⟩
theorem aJ {n:Nat} {L loc:List D} {vq:List (Nat×D)} {ws:List Nat} {t:Nat} {v:D} {st:St} (h:L=aF loc ws (fun k=>nth .bj L k)) (h2:look t vq=v):∃(f:Nat→D) (tmp:List (Nat×D)),(⟨n,L,vq⟩:Fr)=⟨n,aF loc ws f,tmp⟩∧st=st∧look t tmp=v:=⟨_,vq,by rw[←h],rfl,h2⟩
theorem Dh {x y:Oper} {fi fj:Fr} {si tA sj ID:St} {a:Operand} {k az off v:Nat} {ar:Bool} {c:List D} (hy:iw y.op=none) (hx:iw x.op=some a) (ha:fi.ev a=.ptr k az off) (h1:sj.bs[k]?=some (.mem v ar c)) (h2:ID.bs[k]?=some (.mem v ar c)) (h3:si.bs[k]?=some (.mem v ar c)) (hr:refs c=0):ku x fi si tA y fj sj ID=true:=by
 unfold ku;simp only[hy,hx,ha,D.oc,Bool.and_eq_true];refine⟨tS h1 h2,?_⟩;unfold mN;simp only[h3,hr]
 split
 ·rfl
 ·simp
def gd (x:D) (s:Nat) (es:List (List D)):Prop:=(x=.nul∧es=[])∨∃ds,x=.sl ds∧ds.map D.cells=es∧∀d∈ds,d.cells?=some d.cells∧d.cells.length=s
theorem gd.rows {x:D} {s:Nat} {es:List (List D)} (h:gd x s es) (st:St):Rows st s x es:=by
 rcases h with⟨rfl,rfl⟩|⟨ds,rfl,rfl,h⟩
 ·exact .nul
 ·exact .sl ds h
theorem gd.ref {x:D} {s:Nat} {es:List (List D)} (h:gd x s es):x.ref=0:=by
 rcases h with⟨rfl,rfl⟩|⟨ds,rfl,rfl,h⟩<;>rfl
theorem gd.arg {x:D} {s:Nat} {es:List (List D)} (h:gd x s es) (N:Nat) (S:St):Arg N S s x es:=⟨h.rows S,by rw[h.ref];omega⟩
theorem gd.cells {x:D} {s:Nat} {es:List (List D)} (h:gd x s es):x.cells?=some [x]∧x.cells=[x]:=by
 rcases h with⟨rfl,rfl⟩|⟨ds,rfl,rfl,h⟩<;>exact⟨rfl,rfl⟩
theorem gd.freeze {x:D} {s:Nat} {es:List (List D)} (h:gd x s es) (st:St) (N n:Nat):∃y,bd st N false (n+1) x=some y∧gd y s es:=by
 rcases h with⟨rfl,rfl⟩|⟨ds,rfl,rfl,h⟩
 ·exact⟨.sl [],rfl,.inr ⟨[],rfl,rfl,fun d hd=>by cases hd⟩⟩
 ·exact⟨.sl ds,rfl,.inr ⟨ds,rfl,rfl,h⟩⟩
theorem gd.frozen {s:Nat} {es:List (List D)} (h:∀e∈es,e.length=s) (hp:∀e∈es,∀d∈e,ck d=true):gd (.sl (es.map (j7 s))) s es:=by
 refine .inr ⟨_,rfl,?_,fun d hd=>?_⟩
 ·rw[List.map_map]
  conv=>rhs;rw[←List.map_id es]
  refine List.map_congr_left fun e he=>?_;exact(mj (h e he) (hp e he)).2
 ·obtain⟨e,he,rfl⟩:=List.mem_map.1 hd;obtain⟨h1,h2⟩:=mj (h e he) (hp e he);exact⟨h1,by rw[h2];exact h e he⟩
theorem gd.part {P:Pv} {st:St} {t e:TypeId} {x:D} {s l r:Nat} {es:List (List D)} {lo hi:Option D} (h:gd x s es) (ht:P.ch t=some (.slice e)) (hs:cg P e=some s) (hb:cC es.length lo hi=some (l,r)):∃y,eG P t x lo hi st=some y∧gd y s ((es.take r).drop l):=by
 rcases h with⟨rfl,rfl⟩|⟨ds,rfl,rfl,h⟩
 ·simp only[List.length_nil] at hb;refine⟨.nul,?_,.inl ⟨rfl,by simp⟩⟩;simp only[eG,ht,hs,Option.bind_some,hb,Option.map_some]
 ·rw[List.length_map] at hb;refine⟨.sl ((ds.take r).drop l),?_,.inr ⟨_,rfl,by rw[List.map_drop,List.map_take],fun d hd=>h d (List.mem_of_mem_take (List.mem_of_mem_drop hd))⟩⟩;simp only[eG,ht,hs,Option.bind_some]
  rw[if_pos (by
   cases ds with
   |nil=>rfl
   |cons d ds=>obtain⟨h1,h2⟩:=h d (List.mem_cons_self ..);simp[mV,h1,h2])]
  simp only[hb,Option.map_some]
end Go.V
namespace Go.V
inductive cy {α β:Type} (R:α→β→Prop):List α→List β→Prop where
 |nil:cy R [] []
 |cons {a:α} {b:β} {l:List α} {m:List β} (h:R a b) (t:cy R l m):cy R (a::l) (b::m)
theorem cy.mono {α β:Type} {R R':α→β→Prop} (h:∀a b,R a b→R' a b):∀{l:List α} {m:List β},cy R l m→cy R' l m
 |_,_,.nil=>.nil
 |_,_,.cons a t=>.cons (h _ _ a) (t.mono h)
theorem cy.append {α β:Type} {R:α→β→Prop}:∀{l l':List α} {m m':List β},cy R l m→cy R l' m'→cy R (l++l') (m++m')
 |_,_,_,_,.nil,h=>h
 |_,_,_,_,.cons a t,h=>.cons a (t.append h)
theorem cy.len {α β:Type} {R:α→β→Prop}:∀{l:List α} {m:List β},cy R l m→l.length=m.length
 |_,_,.nil=>rfl
 |_,_,.cons a t=>by simp[t.len]
inductive dL (st:St) (ks:Nat→Prop):D→D→Prop where
 |plain (d:D) (h:ck d=true):dL st ks d d
 |aC (w:D) (s:Nat) (rs:List (List D)) (h:gT st s w rs) (hp:∀e∈rs,∀d∈e,ck d=true) (hk:∀k,w.ref=k+1→ks k):dL st ks w (.sl (rs.map (j7 s)))
theorem dL.mono {st:St} {ks LO:Nat→Prop} (h:∀k,ks k→LO k) {d v:D} (p:dL st ks d v):dL st LO d v:=by
 cases p with
 |plain h=>exact .plain d h
 |aC s rs h1 h2 h3=>exact .aC d s rs h1 h2 fun k hk=>h k (h3 k hk)
theorem dL.move {st ah:St} {ks:Nat→Prop} (h:∀k,ks k→ah.bs[k]?=st.bs[k]?) {d v:D} (p:dL st ks d v):dL ah ks d v:=by
 cases p with
 |plain h=>exact .plain d h
 |aC s rs h1 h2 h3=>exact .aC d s rs (h1.move fun k hk=>h k (h3 k hk)) h2 h3
theorem gT.Lr {st:St} {s N:Nat} {x:D} {es:List (List D)} (h:gT st s x es) (hN:∀k,x.ref=k+1→N≤k) (hp:∀e∈es,∀d∈e,ck d=true) (n:Nat):ej st N (n+2) x=some (.sl (es.map (j7 s))):=by
 cases h with
 |nul=>rfl
 |win k az off es c hm hl hc he=>
  have:=hN k (by simp only[D.ref]);rw[ej];simp only[if_neg (show¬k<N by omega),St.mem_of hm,Option.bind_some]
  rw[if_pos hl,hc,kz (fun d hd=>by
   obtain⟨e,qZ,BP⟩:=List.mem_flatten.1 hd
   exact hp e qZ d BP)]
  simp only[Option.map_some,fW he]
theorem dL.pure {st:St} {ks:Nat→Prop} {N:Nat} (hN:∀k,ks k→N≤k) {d v:D} (p:dL st ks d v) (n:Nat):ej st N (n+2) d=some v:=by
 cases p with
 |plain h=>cases d<;>simp[ck] at h<;>rfl
 |aC s rs h1 h2 h3=>exact h1.Lr (fun k hk=>hN k (h3 k hk)) h2 n
theorem oQ {f:D→Option D} {R:D→D→Prop} (h:∀a b,R a b→f a=some b):∀{l m:List D},cy R l m→iH f l=some m
 |_,_,.nil=>rfl
 |_,_,.cons a t=>by simp only[iH,h _ _ a,oQ h t]
theorem cy.flat {R:D→D→Prop}:∀{l m:List (List D)},cy (cy R) l m→cy R l.flatten m.flatten
 |_,_,.nil=>.nil
 |_,_,.cons a t=>by simp only[List.flatten_cons];exact a.append t.flat
theorem cy.each {s:Nat} {R:D→D→Prop}:∀{l m:List (List D)},cy (cy R) l m→(∀e∈l,e.length=s)→∀e∈m,e.length=s
 |_,_,.nil,_,e,he=>by cases he
 |_,_,.cons a t,h,e,he=>by
  rcases List.mem_cons.1 he with rfl|he
  ·rw[←a.len];exact h _ (List.mem_cons_self ..)
  ·exact t.each (fun x hx=>h x (List.mem_cons_of_mem _ hx)) e he
def a_.emp:a_:=⟨fun _=>False,fun _=>True,fun _ p=>p⟩
def a_.deep (ks:Nat→Prop) (x:D) (s:Nat) (vs:List (List D)):a_:=
 ⟨fun j=>x.ref=j+1∨ks j,fun st=>(∃es,gT st s x es∧cy (cy (dL st ks)) es vs)∧∀k,x.ref=k+1→¬ks k,fun h p=>by
  obtain⟨⟨es,h1,h2⟩,h3⟩:=p
  exact⟨⟨es,h1.move fun k hk=>h k (.inl hk),h2.mono fun a b=>cy.mono fun c d=>dL.move fun k hk=>h k (.inr hk)⟩,h3⟩⟩
variable{N:Nat} {S st:St} {H:List a_}
theorem Has.LB (h:Has N S st H) (s:Nat):Has N S st (.deep (fun _=>False) .nul s []::H):=
 h.add (fun _ _=>rfl) (Nat.le_refl _) rfl rfl ⟨⟨[],.nul,.nil⟩,fun k hk=>by simp only[D.ref] at hk;omega⟩ fun k hk=>by
  rcases hk with hk|hk
  ·simp only[D.ref] at hk;omega
  ·exact hk.elim
theorem Has.Gr {i j:Nat} {w x:D} {sw s:Nat} {rs vs:List (List D)} {ks:Nat→Prop} (h:Has N S st H) (hij:i≠j) (hi:H[i]?=some (.aC w sw rs)) (hj:H[j]?=some (.deep ks x s vs)) (hp:∀e∈rs,∀d∈e,ck d=true):
  Has N S st ((H.set i .emp).set j (.deep (fun k=>ks k∨w.ref=k+1) x s vs))∧dL st (fun k=>ks k∨w.ref=k+1) w (.sl (rs.map (j7 sw))):=by
 have UO:=h.own hi;obtain⟨⟨es,h1,h2⟩,h3⟩:=(h.ok j _ hj).1;have WO:=(h.ok i _ hi).2;have TO:=(h.ok j _ hj).2;have Rf:=h.dis i j _ _ hij hi hj;refine⟨⟨h.ex,h.hN,h.di,fun n e hn=>?_,fun a b ea eb hab ha hb k nP ib=>?_⟩,.aC w sw rs UO hp fun k hk=>.inr hk⟩
 ·by_cases hnj:n=j
  ·subst hnj;rw[List.getElem?_set_self (by rw[List.length_set];exact bo hj)] at hn;cases hn;refine⟨⟨⟨es,h1,h2.mono fun a b=>cy.mono fun c d=>dL.mono fun k hk=>.inl hk⟩,fun k hk=>?_⟩,fun k hk=>?_⟩
   ·rintro(hk2|hk2)
    ·exact h3 k hk hk2
    ·exact Rf k hk2 (.inl hk)
   ·rcases hk with hk|hk|hk
    ·exact TO k (.inl hk)
    ·exact TO k (.inr hk)
    ·exact WO k hk
  ·rw[List.getElem?_set_ne (fun e=>hnj e.symm)] at hn
   by_cases hni:n=i
   ·subst hni;rw[List.getElem?_set_self (bo hi)] at hn;cases hn;exact⟨trivial,fun k hk=>hk.elim⟩
   ·rw[List.getElem?_set_ne (fun e=>hni e.symm)] at hn;exact h.ok n e hn
 ·have key:∀n e,((H.set i .emp).set j (.deep (fun k=>ks k∨w.ref=k+1) x s vs))[n]?=some e→∀k,e.K k→(n=j∧((a_.deep ks x s vs).K k∨(a_.aC w sw rs).K k))∨(n≠j∧n≠i∧H[n]?=some e):=by
   intro n e hn k hk
   by_cases hnj:n=j
   ·subst hnj;rw[List.getElem?_set_self (by rw[List.length_set];exact bo hj)] at hn;cases hn;refine .inl ⟨rfl,?_⟩
    rcases hk with hk|hk|hk
    ·exact .inl (.inl hk)
    ·exact .inl (.inr hk)
    ·exact .inr hk
   ·rw[List.getElem?_set_ne (fun e=>hnj e.symm)] at hn
    by_cases hni:n=i
    ·subst hni;rw[List.getElem?_set_self (bo hi)] at hn;cases hn;exact hk.elim
    ·rw[List.getElem?_set_ne (fun e=>hni e.symm)] at hn;exact .inr ⟨hnj,hni,hn⟩
  rcases key a ea ha k nP with⟨h4,h5⟩|⟨h4,h5,h6⟩<;>rcases key b eb hb k ib with⟨g4,g5⟩|⟨g4,g5,g6⟩
  ·exact hab (h4.trans g4.symm)
  ·rcases h5 with h5|h5
   ·exact h.dis j b _ _ (fun e=>g4 e.symm) hj g6 k h5 ib
   ·exact h.dis i b _ _ (fun e=>g5 e.symm) hi g6 k h5 ib
  ·rcases g5 with g5|g5
   ·exact h.dis a j _ _ h4 h6 hj k nP g5
   ·exact h.dis a i _ _ h5 h6 hi k nP g5
  ·exact h.dis a b _ _ hab h6 g6 k nP ib
theorem Has.wH {P:Pv} {j:Nat} {x y:D} {s:Nat} {ks:Nat→Prop} {vs ys DF:List (List D)} (hH:Has N S st H) (hj:H[j]?=some (.deep ks x s vs)) (hy:Rows st s y ys) (hd:cy (cy (dL st ks)) ys DF) {t1 t2 e:TypeId} {td:TypeDesc} {inf:TypeInfo} {z:List D}
  (h1:P.ch t1=some (.slice e)) (h2:P.ch t2=some td) (h3:eJ td=false) (h4:P.info e=some inf) (h5:cO P e=some z) (h6:inf.size=s) (h7:z.length=s) (h8:0<inf.bytes∧inf.bytes≤1024)
  (oq:vs.length+ys.length≤1073741824) (hw:S.flr≤N∨refs ys.flatten=0):
  ∃x' ah,bc P .append [t1,t2] [x,y] st=some (x',ah)∧Has N S ah (H.set j (.deep ks x' s (vs++DF))):=by
 obtain⟨⟨es,gB,tu⟩,he3⟩:=(hH.ok j _ hj).1;have hK:=(hH.ok j _ hj).2;have hlen:=tu.len
 have Kr:Has N S st [.aC x s es]:=by
  refine⟨hH.ex,hH.hN,hH.di,fun i e hi=>?_,fun i i' a b hii ha hb k nP ib=>?_⟩
  ·cases i with
   |zero=>simp only[List.getElem?_cons_zero,Option.some.injEq] at hi;subst hi;exact⟨gB,fun k hk=>hK k (.inl hk)⟩
   |succ i=>simp at hi
  ·cases i with
   |zero=>cases i' with
    |zero=>exact hii rfl
    |succ i'=>simp at hb
   |succ i=>simp at ha
 obtain⟨x',ah,q1,q2,q3⟩:=Kr.append (j:=0) aN hy h1 h2 h3 h4 h5 h6 h7 h8 (by omega) hw;refine⟨x',ah,q1,?_⟩;have hown:=q2.own (j:=0) aN
 have MW:(∀k,k<st.bs.length→x.ref≠k+1→ah.bs[k]?=st.bs[k]?)∧st.bs.length≤ah.bs.length∧ah.flr=st.flr∧ah.ro=st.ro∧(∀k,x'.ref=k+1→x.ref=k+1∨st.bs.length≤k):=by
  have jj:=hy.row
  have y3:∀e∈ys,e.length=s:=fun e he=>by
   obtain⟨i,hi⟩:=List.getElem?_of_mem he;exact hy.sW i e hi
  simp only[bc,gy,h1,h2,h3,Bool.false_eq_true,if_false,h4,h5,jj,Option.bind_some] at q1
  split at q1
  ·cases q1
  ·cases gB with
   |nul=>
    simp only at q1
    split at q1
    ·cases q1;exact⟨fun _ _ _=>rfl,Nat.le_refl _,rfl,rfl,fun k hk=>.inl hk⟩
    ·split at q1
     ·cases q1;exact⟨fun k hk _=>by simp only[St.push];rw[List.getElem?_append_left hk],by simp[St.push],rfl,rfl,fun k hk=>.inr (by simp only[D.ref] at hk;omega)⟩
     ·cases q1
   |win k az off es c hm hl hc he=>
    simp only[St.mem_of hm] at q1
    split at q1
    ·cases q1
    ·split at q1
     ·cases q1;exact⟨fun _ _ _=>rfl,Nat.le_refl _,rfl,rfl,fun k hk=>.inl hk⟩
     ·split at q1
      ·cases q1;exact⟨fun n hn hne=>by simp only;rw[List.getElem?_set_ne (fun e=>hne (by simp only[D.ref];omega))],by simp,rfl,rfl,fun n hn=>.inl (by simp only[D.ref] at hn⊢;exact hn)⟩
      ·cases q1
 obtain⟨c1,c2,c3,c4,c5⟩:=MW;have L1:=(q2.ok 0 _ aN).2;have pH:∀k,ks k→ah.bs[k]?=st.bs[k]?:=fun k hk=>c1 k (hK k (.inr hk)).2 fun e=>he3 k e hk;refine hH.A2 hj (fun k hk hne=>c1 k hk fun e=>hne (.inl e)) c2 c3 c4 ⟨⟨es++ys,hown,?_⟩,fun k hk jt=>?_⟩ (fun k hk=>?_) fun k hk=>?_
 ·exact(tu.mono fun a b=>cy.mono fun c d=>dL.move pH).append (hd.mono fun a b=>cy.mono fun c d=>dL.move pH)
 ·rcases c5 k hk with h|h
  ·exact he3 k h jt
  ·have:=(hK k (.inr jt)).2;omega
 ·rcases hk with hk|hk
  ·rcases c5 k hk with h|h
   ·exact .inl (.inl h)
   ·exact .inr h
  ·exact .inl (.inr hk)
 ·rcases hk with hk|hk
  ·exact(L1 k hk).2
  ·exact Nat.lt_of_lt_of_le (hK k (.inr hk)).2 c2
theorem aa.wH {P:Pv} {ops:Array Oper} {rest:List Oper} {fr:Fr} {Q:Fr→St→Prop} {ty:TypeId} {pp:String} {a:Array Edge} {g:Option (Nat×Bool)} {dst:Nat} {j:Nat} {x y:D} {s:Nat} {ks:Nat→Prop} {vs ys DF:List (List D)} {t1 t2 e:TypeId} {td:TypeDesc} {inf:TypeInfo} {z:List D} {xo yo:Operand} {aE:D→Fr} (hH:Has N S st H) (hg:aA ops fr ⟨some dst,.call ⟨.builtin .append,#[xo,yo],#[t1,t2]⟩,ty,pp,a,g⟩=some true)
  (hx:fr.ev xo=x) (hy:fr.ev yo=y) (hj:H[j]?=some (.deep ks x s vs)) (jr:Rows st s y ys) (hd:cy (cy (dL st ks)) ys DF)
  (h1:P.ch t1=some (.slice e)) (h2:P.ch t2=some td) (h3:eJ td=false) (h4:P.info e=some inf) (h5:cO P e=some z) (h6:inf.size=s) (h7:z.length=s) (h8:0<inf.bytes∧inf.bytes≤1024)
  (hp:∀x',fr.put dst x'=aE x') (hb:vs.length+ys.length≤1073741824) (hw:S.flr≤N∨refs ys.flatten=0)
  (h:∀x' ah,Has N S ah (H.set j (.deep ks x' s (vs++DF)))→aa P ops rest (aE x') ah Q):
  aa P ops (⟨some dst,.call ⟨.builtin .append,#[xo,yo],#[t1,t2]⟩,ty,pp,a,g⟩::rest) fr st Q:=by
 obtain⟨x',ah,q1,q2⟩:=hH.wH hj jr hd h1 h2 h3 h4 h5 h6 h7 h8 hb hw;refine aa.go hg rfl (d:=x') (st1:=ah) ?_ (hp _) (h x' ah q2);simp only[dq,List.map_cons,List.map_nil,hx,hy];exact q1
theorem Has.FQ {j:Nat} {x:D} {s:Nat} {ks:Nat→Prop} {vs:List (List D)} (hH:Has N S st H) (hj:H[j]?=some (.deep ks x s vs)) {n:Nat} (hn:4≤n):bd st N false (n+1) x=some (.sl (vs.map (j7 s))):=by
 obtain⟨n,rfl⟩:∃m,n=m+4:=⟨n-4,by omega⟩
 obtain⟨⟨es,h1,h2⟩,h3⟩:=(hH.ok j _ hj).1;have hK:=(hH.ok j _ hj).2
 cases h1 with
 |nul=>cases h2;rfl
 |win k az off es c hm hl hc he=>
  have hk:=hK k (.inl (by simp only[D.ref]));show(if k<N then some (D.win k az off es.length s) else ej st N (n+4) (.win k az off es.length s))=_;rw[if_neg (show¬k<N by omega),ej];simp only[if_neg (show¬k<N by omega),St.mem_of hm,Option.bind_some];rw[if_pos hl,hc,oQ (fun a b hab=>hab.pure (fun k hk=>(hK k (.inr hk)).1) (n+1)) h2.flat];simp only[Option.map_some];rw[h2.len,fW (h2.each he)]
theorem Has.B0 {j:Nat} {x:D} {s:Nat} {es:List (List D)} (hH:Has N S st H) (hj:H[j]?=some (.aC x s es)) (hp:∀e∈es,∀d∈e,ck d=true) {n:Nat} (hn:3≤n):bd st N false n x=some (.sl (es.map (j7 s))):=by
 obtain⟨n,rfl⟩:∃m,n=m+1:=⟨n-1,by omega⟩
 exact hH.freeze hj hp (by omega)
theorem Has.l4 {P:Pv} {fr:Fr} {a k az off j:Nat} {t:TypeId} {ar:Bool} {c:List D} {d:D} (hH:Has N S st H) (ha:fr.get a=.ptr k az off) (hj:H[j]?=some (.box k (.mem az ar c))) (hd:du P t (c.drop off)=some d):ki P fr st [.cell a t]=some [d]:=by
 simp only[ki,gH,ha,St.mem_of (hH.at hj),Option.bind_some,hd,Option.map_some]
theorem gT.cells {s:Nat} {x:D} {es:List (List D)} (h:gT st s x es):x.cells?=some [x]:=by cases h<;>rfl
theorem Has.F3 {j:Nat} {x:D} {s:Nat} {ks:Nat→Prop} {vs:List (List D)} (hH:Has N S st H) (hj:H[j]?=some (.deep ks x s vs)):x.cells?=some [x]:=by
 obtain⟨⟨es,h1,_⟩,_⟩:=(hH.ok j _ hj).1;exact h1.cells
theorem Has.oM {j:Nat} {x:D} {s:Nat} {es:List (List D)} (hH:Has N S st H) (hj:H[j]?=some (.aC x s es)):x.cells?=some [x]:=(hH.own hj).cells
def Ax (fr:Fr):List (Nat×Operand)→List (Nat×D)→Prop
 |[],[]=>True
 |(i,o)::ps,(j,d)::qs=>i=j∧fr.ev o=d∧d.cells?=some [d]∧Ax fr ps qs
 |_,_=>False
theorem uP {fr:Fr} {pl:Nat→Option (Nat×Nat)}:∀{ps:List (Nat×Operand)} {qs:List (Nat×D)} {z:List D},Ax fr ps qs→(∀q∈qs,pl q.1=some (q.1,1)∧q.1<z.length)→iz pl z (ps.map fun p=>(p.1,fr.ev p.2))=some (qs.foldl (fun l q=>l.set q.1 q.2) z)
 |[],[],z,_,_=>rfl
 |(i,o)::ps,(j,d)::qs,z,h,hp=>by
  obtain⟨rfl,h2,h3,h4⟩:=h;obtain⟨h5,h6⟩:=hp (i,d) (List.mem_cons_self ..);simp only[List.map_cons,iz,h2,h3,h5,List.foldl_cons];rw[if_neg (by simp only[List.length_cons,List.length_nil];simp only at h6;omega)];simp only[setMany]
  exact uP h4 fun q hq=>by
   have:=hp q (List.mem_cons_of_mem _ hq)
   simpa using this
 |[],_::_,_,h,_=>h.elim
 |_::_,[],_,h,_=>h.elim
theorem aa.ij {P:Pv} {ops:Array Oper} {rest:List Oper} {fr aE:Fr} {Q:Fr→St→Prop} {ty:TypeId} {pp:String} {a:Array Edge} {g:Option (Nat×Bool)} {dst:Nat} {t:TypeId} {parts:Array (Nat×Operand)} {z cs:List D} {fields:Array Field} {ps:List (Nat×Nat)} {qs:List (Nat×D)} (hg:aA ops fr ⟨some dst,.build t parts,ty,pp,a,g⟩=some true) (hz:cO P t=some z) (hu:P.ch t=some (.struct fields)) (HD:l6 P fields.toList=some ps) (he:Ax fr parts.toList qs) (jL:∀q∈qs,ps[q.1]?=some (q.1,1)∧q.1<z.length) (lf:qs.foldl (fun l q=>l.set q.1 q.2) z=cs) (hp:fr.put dst (.agg cs)=aE)
  (h:aa P ops rest aE st Q):aa P ops (⟨some dst,.build t parts,ty,pp,a,g⟩::rest) fr st Q:=by
 refine aa.go hg rfl (d:=.agg cs) (st1:=st) ?_ hp h;simp only[dq,wL,hz,hu,HD];rw[uP (pl:=fun i=>ps[i]?) he jL,lf];rfl
theorem aa.Fc {P:Pv} {ops:Array Oper} {rest:List Oper} {fr:Fr} {Q:Fr→St→Prop} {ty:TypeId} {pp:String} {a:Array Edge} {g:Option (Nat×Bool)} {dst:Nat} {t e:TypeId} {s:Nat} {z:List D} {aE:Nat→Fr} (hH:Has N S st H) (hg:aA ops fr ⟨some dst,.buildSlice t 0 #[],ty,pp,a,g⟩=some true) (ht:P.ch t=some (.slice e)) (hs:cg P e=some s) (hz:cO P e=some z) (kZ:z.length=s)
  (hp:∀k,fr.put dst (.win k 0 0 0 s)=aE k)
  (h:∀k ah,S.bs.length≤k→Has N S ah (.aC (.win k 0 0 0 s) s []::H)→aa P ops rest (aE k) ah Q):aa P ops (⟨some dst,.buildSlice t 0 #[],ty,pp,a,g⟩::rest) fr st Q:=
 aa.Fe (vs:=[]) hH hg ht hs hz kZ (by omega) trivial rfl (fun v hv=>by cases hv) hp h
theorem Has.eH {P:Pv} {fr:Fr} {a k az off j u:Nat} {t:TypeId} {ar:Bool} {c:List D} {d e:D} (hH:Has N S st H) (ha:fr.get a=.ptr k az off) (hj:H[j]?=some (.box k (.mem az ar c))) (hd:du P t (c.drop off)=some d) (he:fr.get u=e):ki P fr st [.cell a t,.tmp u]=some [d,e]:=by
 simp only[ki,gH,ha,St.mem_of (hH.at hj),Option.bind_some,hd,Option.map_some,he]
theorem aa.H0 {P:Pv} {ops:Array Oper} {rest:List Oper} {fr aE:Fr} {Q:Fr→St→Prop} {ty:TypeId} {pp:String} {a:Array Edge} {g:Option (Nat×Bool)} {dst:Nat} {t e:TypeId} {xo io:Operand} {k v off m s o:Nat} {kk:IntKind} {i:Nat} (hg:aA ops fr ⟨some dst,.indexAddr t xo io,ty,pp,a,g⟩=some true) (hx:fr.ev xo=.ptr k v off) (hi:fr.ev io=.int kk (i:Nat)) (ht:P.ch t=some (.array m e)) (hs:cg P e=some s) (hlt:i<m) (ho:off+i*s=o) (hp:fr.put dst (.ptr k v o)=aE)
  (h:aa P ops rest aE st Q):aa P ops (⟨some dst,.indexAddr t xo io,ty,pp,a,g⟩::rest) fr st Q:=by
 subst ho;refine aa.go hg rfl (d:=.ptr k v (off+i*s)) (st1:=st) ?_ hp h;simp only[dq,hx,hi,bQ,ht,hs,Option.bind_some];rw[if_pos ⟨by omega,by omega⟩];rfl
end Go.V
namespace Go.V
variable{P:Pv} {ops:Array Oper} {rest:List Oper} {fr aE:Fr} {st st1:St} {Q:Fr→St→Prop} {ty:TypeId} {pp:String} {a:Array Edge} {g:Option (Nat×Bool)} {dst:Nat} {N:Nat} {S:St} {H:List a_} {d:D} {op:Op}
theorem qm {op:Op} {x:Operand} {d:D} (h:aa P ops rest aE st Q) (gb:op=.move x∨op=.assign x:=by first|exact .inl rfl|exact .inr rfl) (hg:aA ops fr ⟨some dst,op,ty,pp,a,g⟩=some true:=by exact rfl) (hx:fr.ev x=d:=by exact ev rfl) (hp:fr.put dst d=aE:=by first|exact ab rfl _|(dsimp only[Fr.put,List.set_cons_succ,List.set_cons_zero]<;>rfl)):aa P ops (⟨some dst,op,ty,pp,a,g⟩::rest) fr st Q:=
 aa.mv (gb:=gb) (hg:=hg) (hx:=hx) (hp:=hp) (h:=h)
theorem qs {op:Op} (h:aa P ops rest aE st Q) (hg:aA ops fr ⟨some dst,op,ty,pp,a,g⟩=some false:=by exact rfl) (hp:fr.put dst (.tup [])=aE:=by first|exact ab rfl _|(dsimp only[Fr.put,List.set_cons_succ,List.set_cons_zero]<;>rfl)):aa P ops (⟨some dst,op,ty,pp,a,g⟩::rest) fr st Q:=
 aa.skip (hg:=hg) (hp:=hp) (h:=h)
theorem qp {t:TypeId} {xo:Operand} {k az off o f fo m:Nat} {fields:Array Field} (h:aa P ops rest aE st Q) (hg:aA ops fr ⟨some dst,.fieldAddr t xo f,ty,pp,a,g⟩=some true:=by exact rfl) (hx:fr.ev xo=.ptr k az off:=by exact ev rfl) (ht:P.ch t=some (.struct fields):=by exact rfl) (hf:lP P fields f=some (fo,some (m+1)):=by exact rfl) (ho:off+fo=o:=by exact rfl) (hp:fr.put dst (.ptr k az o)=aE:=by first|exact ab rfl _|(dsimp only[Fr.put,List.set_cons_succ,List.set_cons_zero]<;>rfl)):aa P ops (⟨some dst,.fieldAddr t xo f,ty,pp,a,g⟩::rest) fr st Q:=
 aa.Ej (hg:=hg) (hx:=hx) (ht:=ht) (hf:=hf) (ho:=ho) (hp:=hp) (h:=h)
theorem ql {j k az off:Nat} {ar:Bool} {c:List D} {d:D} {t:TypeId} {ao:Operand} (hH:Has N S st H) (hj:H[j]?=some (.box k (.mem az ar c))) (h:aa P ops rest aE st Q) (hg:aA ops fr ⟨some dst,.load t ao,ty,pp,a,g⟩=some true:=by exact rfl) (ha:fr.ev ao=.ptr k az off:=by exact ev rfl) (hd:du P t (c.drop off)=some d:=by exact rfl) (hp:fr.put dst d=aE:=by first|exact ab rfl _|(dsimp only[Fr.put,List.set_cons_succ,List.set_cons_zero]<;>rfl)):aa P ops (⟨some dst,.load t ao,ty,pp,a,g⟩::rest) fr st Q:=
 aa.uH (hH:=hH) (hg:=hg) (ha:=ha) (hj:=hj) (hd:=hd) (hp:=hp) (h:=h)
theorem qg {op:Op} {d:D} {st1:St} (h:aa P ops rest aE st1 Q) (hg:aA ops fr ⟨some dst,op,ty,pp,a,g⟩=some true:=by exact rfl) (hc:iV op=false:=by exact rfl) (h1:dq P fr st op ty=some (d,st1):=by exact rfl) (hp:fr.put dst d=aE:=by first|exact ab rfl _|(dsimp only[Fr.put,List.set_cons_succ,List.set_cons_zero]<;>rfl)):aa P ops (⟨some dst,op,ty,pp,a,g⟩::rest) fr st Q:=
 aa.go (hg:=hg) (hc:=hc) (h1:=h1) (hp:=hp) (h:=h)
theorem qn {t e:TypeId} {xo:Operand} {x:D} {s:Nat} {es:List (List D)} (h:aa P ops rest aE st Q) (hg:aA ops fr ⟨some dst,.call ⟨.builtin .len,#[xo],#[t]⟩,ty,pp,a,g⟩=some true:=by exact rfl) (hx:fr.ev xo=x:=by exact ev rfl) (hR:Rows st s x es:=by exact Arg.rows (by assumption) (by assumption)) (ht:P.ch t=some (.slice e):=by exact rfl) (hp:fr.put dst (.int .i64 (es.length:Nat))=aE:=by first|exact ab rfl _|(dsimp only[Fr.put,List.set_cons_succ,List.set_cons_zero]<;>rfl)):aa P ops (⟨some dst,.call ⟨.builtin .len,#[xo],#[t]⟩,ty,pp,a,g⟩::rest) fr st Q:=
 aa.D3 (hg:=hg) (hx:=hx) (hR:=hR) (ht:=ht) (hp:=hp) (h:=h)
theorem qr {t e:TypeId} {xo io:Operand} {x:D} {s i:Nat} {kk:IntKind} {es:List (List D)} {r:List D} {aE:D→Fr} (h:∀p,kY st p r→aa P ops rest (aE p) st Q) (hg:aA ops fr ⟨some dst,.indexAddr t xo io,ty,pp,a,g⟩=some true:=by exact rfl) (hx:fr.ev xo=x:=by exact ev rfl) (hi:fr.ev io=.int kk (i:Nat):=by exact ev rfl) (hR:Rows st s x es:=by exact Arg.rows (by assumption) (by assumption)) (ht:P.ch t=some (.slice e):=by exact rfl) (hs:cg P e=some s:=by exact rfl) (hr:es[i]?=some r:=by assumption) (hp:∀p,fr.put dst p=aE p:=by first|exact fun _=>ab rfl _|exact fun _=>by dsimp only[Fr.put,List.set_cons_succ,List.set_cons_zero]<;>rfl):aa P ops (⟨some dst,.indexAddr t xo io,ty,pp,a,g⟩::rest) fr st Q:=
 aa.nz (hg:=hg) (hx:=hx) (hi:=hi) (hR:=hR) (ht:=ht) (hs:=hs) (hr:=hr) (hp:=hp) (h:=h)
theorem qR {t:TypeId} {ao:Operand} {x d:D} {r:List D} (h:aa P ops rest aE st Q) (hg:aA ops fr ⟨some dst,.load t ao,ty,pp,a,g⟩=some true:=by exact rfl) (ha:fr.ev ao=x:=by exact ev rfl) (hR:kY st x r:=by assumption) (hd:du P t r=some d:=by exact rfl) (hp:fr.put dst d=aE:=by first|exact ab rfl _|(dsimp only[Fr.put,List.set_cons_succ,List.set_cons_zero]<;>rfl)):aa P ops (⟨some dst,.load t ao,ty,pp,a,g⟩::rest) fr st Q:=
 aa.iP (hg:=hg) (ha:=ha) (hR:=hR) (hd:=hd) (hp:=hp) (h:=h)
theorem qf {t:TypeId} {xo:Operand} {x:D} {r:List D} {f fo m:Nat} {fields:Array Field} {aE:D→Fr} (h:∀p,kY st p (r.drop fo)→aa P ops rest (aE p) st Q) (hg:aA ops fr ⟨some dst,.fieldAddr t xo f,ty,pp,a,g⟩=some true:=by exact rfl) (hx:fr.ev xo=x:=by exact ev rfl) (hR:kY st x r:=by assumption) (ht:P.ch t=some (.struct fields):=by exact rfl) (hf:lP P fields f=some (fo,some (m+1)):=by exact rfl) (hp:∀p,fr.put dst p=aE p:=by first|exact fun _=>ab rfl _|exact fun _=>by dsimp only[Fr.put,List.set_cons_succ,List.set_cons_zero]<;>rfl):aa P ops (⟨some dst,.fieldAddr t xo f,ty,pp,a,g⟩::rest) fr st Q:=
 aa.G6 (hg:=hg) (hx:=hx) (hR:=hR) (ht:=ht) (hf:=hf) (hp:=hp) (h:=h)
theorem qi {t e:TypeId} {xo io:Operand} {x:D} {s i j:Nat} {kk:IntKind} {es:List (List D)} {aE:D→Fr} (hH:Has N S st H) (hj:H[j]?=some (.aC x s es)) (h:∀p,qz x s i 0 p→aa P ops rest (aE p) st Q) (hg:aA ops fr ⟨some dst,.indexAddr t xo io,ty,pp,a,g⟩=some true:=by exact rfl) (hx:fr.ev xo=x:=by exact ev rfl) (hi:fr.ev io=.int kk (i:Nat):=by exact ev rfl) (ht:P.ch t=some (.slice e):=by exact rfl) (hs:cg P e=some s:=by exact rfl) (hr:i<es.length:=by exact bo (by assumption)) (hp:∀p,fr.put dst p=aE p:=by first|exact fun _=>ab rfl _|exact fun _=>by dsimp only[Fr.put,List.set_cons_succ,List.set_cons_zero]<;>rfl):aa P ops (⟨some dst,.indexAddr t xo io,ty,pp,a,g⟩::rest) fr st Q:=
 aa.PK (hH:=hH) (hg:=hg) (hx:=hx) (hi:=hi) (hj:=hj) (ht:=ht) (hs:=hs) (hr:=hr) (hp:=hp) (h:=h)
theorem qS {j k az:Nat} {ar:Bool} {c cs:List D} {v:D} {t:TypeId} {ao vo:Operand} (hH:Has N S st H) (hj:H[j]?=some (.box k (.mem az ar c))) (h:∀ah,Has N S ah (H.set j (.box k (.mem az ar cs)))→aa P ops rest fr ah Q) (hg:aA ops fr ⟨none,.store t ao vo,ty,pp,a,g⟩=some true:=by exact rfl) (ha:fr.ev ao=.ptr k az 0:=by exact ev rfl) (hv:fr.ev vo=v:=by exact ev rfl) (lf:v.cells?=some cs:=by first|rfl|exact(gd.cells (by assumption)).1) (hs:cg P t=some cs.length:=by exact rfl) (hl:cs.length=c.length:=by exact rfl) (hw:S.flr≤N∨refs cs=0:=by first|exact .inl (by assumption)|exact .inr rfl):aa P ops (⟨none,.store t ao vo,ty,pp,a,g⟩::rest) fr st Q:=
 aa.cM (hH:=hH) (hg:=hg) (ha:=ha) (hv:=hv) (lf:=lf) (hs:=hs) (hj:=hj) (hl:=hl) (hw:=hw) (h:=h)
theorem qT {j k az off:Nat} {ar:Bool} {c cs:List D} {v:D} {t:TypeId} {ao vo:Operand} (hH:Has N S st H) (hj:H[j]?=some (.box k (.mem az ar c))) (h:∀ah,Has N S ah (H.set j (.box k (.mem az ar (setMany c off cs))))→aa P ops rest fr ah Q) (hg:aA ops fr ⟨none,.store t ao vo,ty,pp,a,g⟩=some true:=by exact rfl) (ha:fr.ev ao=.ptr k az off:=by exact ev rfl) (hv:fr.ev vo=v:=by exact ev rfl) (lf:v.cells?=some cs:=by first|rfl|exact(gd.cells (by assumption)).1) (hs:cg P t=some cs.length:=by exact rfl) (hl:off+cs.length≤c.length:=by exact Nat.le_of_ble_eq_true rfl) (hw:S.flr≤N∨refs cs=0:=by first|exact .inl (by assumption)|exact .inr rfl):aa P ops (⟨none,.store t ao vo,ty,pp,a,g⟩::rest) fr st Q:=
 aa.fe (hH:=hH) (hg:=hg) (ha:=ha) (hv:=hv) (lf:=lf) (hs:=hs) (hj:=hj) (hl:=hl) (hw:=hw) (h:=h)
theorem qa {e:TypeId} {cs:List D} {aE:Nat→Fr} (hH:Has N S st H) (h:∀k ah,S.bs.length≤k→Has N S ah (.box k (.mem 0 false cs)::H)→aa P ops rest (aE k) ah Q) (hg:aA ops fr ⟨some dst,.alloc e,ty,pp,a,g⟩=some true:=by exact rfl) (hz:cO P e=some cs:=by exact rfl) (hp:∀k,fr.put dst (.ptr k 0 0)=aE k:=by first|exact fun _=>ab rfl _|exact fun _=>by dsimp only[Fr.put,List.set_cons_succ,List.set_cons_zero]<;>rfl):aa P ops (⟨some dst,.alloc e,ty,pp,a,g⟩::rest) fr st Q:=
 aa.Km (hH:=hH) (hg:=hg) (hz:=hz) (hp:=hp) (h:=h)
theorem qb {e:TypeId} {xo:Operand} {cs:List D} {aE:Nat→Fr} (hH:Has N S st H) (h:∀k ah,S.bs.length≤k→Has N S ah (.box k (.mem 0 false cs)::H)→aa P ops rest (aE k) ah Q) (hg:aA ops fr ⟨some dst,.box e xo,ty,pp,a,g⟩=some true:=by exact rfl) (hz:(fr.ev xo).cells?=some cs:=by exact rfl) (hp:∀k,fr.put dst (.ptr k 0 0)=aE k:=by first|exact fun _=>ab rfl _|exact fun _=>by dsimp only[Fr.put,List.set_cons_succ,List.set_cons_zero]<;>rfl):aa P ops (⟨some dst,.box e xo,ty,pp,a,g⟩::rest) fr st Q:=
 aa.CY (hH:=hH) (hg:=hg) (hz:=hz) (hp:=hp) (h:=h)
theorem qA {t mE:TypeId} {xo yo:Operand} {x y:Int} (h:aa P ops rest aE st Q) (hg:aA ops fr ⟨some dst,.binOp .add t xo yo mE,ty,pp,a,g⟩=some true:=by exact rfl) (hx:fr.ev xo=.int .i64 x:=by exact ev rfl) (hy:fr.ev yo=.int .i64 y:=by exact ev rfl) (h1:-9223372036854775808≤x+y:=by omega) (h2:x+y≤9223372036854775807:=by omega) (hp:fr.put dst (.int .i64 (x+y))=aE:=by first|exact ab rfl _|(dsimp only[Fr.put,List.set_cons_succ,List.set_cons_zero]<;>rfl)):aa P ops (⟨some dst,.binOp .add t xo yo mE,ty,pp,a,g⟩::rest) fr st Q:=
 aa.KL (hg:=hg) (hx:=hx) (hy:=hy) (h1:=h1) (h2:=h2) (hp:=hp) (h:=h)
theorem qP {j:Nat} {x y:D} {s:Nat} {es ys:List (List D)} {t1 t2 e:TypeId} {td:TypeDesc} {inf:TypeInfo} {z:List D} {xo yo:Operand} {aE:D→Fr} (hH:Has N S st H) (hj:H[j]?=some (.aC x s es)) (jr:Rows st s y ys) (h:∀x' ah,Has N S ah (H.set j (.aC x' s (es++ys)))→aa P ops rest (aE x') ah Q) (hg:aA ops fr ⟨some dst,.call ⟨.builtin .append,#[xo,yo],#[t1,t2]⟩,ty,pp,a,g⟩=some true:=by exact rfl) (hx:fr.ev xo=x:=by exact ev rfl) (hy:fr.ev yo=y:=by exact ev rfl) (h1:P.ch t1=some (.slice e):=by exact rfl) (h2:P.ch t2=some td:=by exact rfl) (h3:eJ td=false:=by exact rfl) (h4:P.info e=some inf:=by exact rfl) (h5:cO P e=some z:=by exact rfl) (h6:inf.size=s:=by exact rfl) (h7:z.length=s:=by exact rfl) (h8:0<inf.bytes∧inf.bytes≤1024:=by exact⟨Nat.le_of_ble_eq_true rfl,Nat.le_of_ble_eq_true rfl⟩) (hp:∀x',fr.put dst x'=aE x':=by first|exact fun _=>ab rfl _|exact fun _=>by dsimp only[Fr.put,List.set_cons_succ,List.set_cons_zero]<;>rfl) (hb:es.length+ys.length≤1073741824:=by first|omega|(simp only[List.length_append,List.length_cons,List.length_nil,List.length_map,List.length_replicate,List.length_set,List.length_reverse]<;>omega)) (hw:S.flr≤N∨refs ys.flatten=0:=by first|exact .inl (by assumption)|exact .inr rfl):aa P ops (⟨some dst,.call ⟨.builtin .append,#[xo,yo],#[t1,t2]⟩,ty,pp,a,g⟩::rest) fr st Q:=
 aa.cJ (hH:=hH) (hg:=hg) (hx:=hx) (hy:=hy) (hj:=hj) (jr:=jr) (h1:=h1) (h2:=h2) (h3:=h3) (h4:=h4) (h5:=h5) (h6:=h6) (h7:=h7) (h8:=h8) (hp:=hp) (hb:=hb) (hw:=hw) (h:=h)
theorem qh {t e:TypeId} {m s:Nat} {parts:Array (Nat×Operand)} {z:List D} {vs:List D} {aE:Nat→Fr} (hH:Has N S st H) (h:∀k ah,S.bs.length≤k→Has N S ah (.aC (.win k 0 0 m s) s (vs.map D.cells)::H)→aa P ops rest (aE k) ah Q) (hg:aA ops fr ⟨some dst,.buildSlice t m parts,ty,pp,a,g⟩=some true:=by exact rfl) (ht:P.ch t=some (.slice e):=by exact rfl) (hs:cg P e=some s:=by exact rfl) (hz:cO P e=some z:=by exact rfl) (kZ:z.length=s:=by exact rfl) (hm:m*s≤16777216:=by exact Nat.le_of_ble_eq_true rfl) (O1:B1 fr 0 parts.toList vs:=by first|exact⟨rfl,ev rfl,trivial⟩|exact⟨rfl,ev rfl,rfl,ev rfl,trivial⟩|exact⟨rfl,ev rfl,rfl,ev rfl,rfl,ev rfl,trivial⟩|exact⟨rfl,ev rfl,rfl,ev rfl,rfl,ev rfl,rfl,ev rfl,trivial⟩|exact⟨rfl,ev rfl,rfl,ev rfl,rfl,ev rfl,rfl,ev rfl,rfl,ev rfl,trivial⟩) (LZ:vs.length=m:=by exact rfl) (hc:∀v∈vs,v.cells?=some v.cells∧v.cells.length=s:=by intro v hv;simp only[List.mem_cons,List.not_mem_nil,or_false] at hv;first|(subst hv;exact⟨rfl,rfl⟩)|(rcases hv with rfl|rfl<;>exact⟨rfl,rfl⟩)|(rcases hv with rfl|rfl|rfl<;>exact⟨rfl,rfl⟩)|(rcases hv with rfl|rfl|rfl|rfl<;>exact⟨rfl,rfl⟩)|(rcases hv with rfl|rfl|rfl|rfl|rfl<;>exact⟨rfl,rfl⟩)) (hp:∀k,fr.put dst (.win k 0 0 m s)=aE k:=by first|exact fun _=>ab rfl _|exact fun _=>by dsimp only[Fr.put,List.set_cons_succ,List.set_cons_zero]<;>rfl):aa P ops (⟨some dst,.buildSlice t m parts,ty,pp,a,g⟩::rest) fr st Q:=
 aa.Fe (hH:=hH) (hg:=hg) (ht:=ht) (hs:=hs) (hz:=hz) (kZ:=kZ) (hm:=hm) (O1:=O1) (LZ:=LZ) (hc:=hc) (hp:=hp) (h:=h)
theorem qv {f:Operand} {gn:Nat} {jH:List D} {args:Array Operand} {w6:Array TypeId} {d:D} {st1:St} (h1:Ev P gn (args.toList.map fr.ev++jH) st d st1) (h:aa P ops rest aE st1 Q) (hg:aA ops fr ⟨some dst,.call ⟨.value f,args,w6⟩,ty,pp,a,g⟩=some true:=by exact rfl) (hf:fr.ev f=.fn gn jH:=by exact rfl) (hp:fr.put dst d=aE:=by first|exact ab rfl _|(dsimp only[Fr.put,List.set_cons_succ,List.set_cons_zero]<;>rfl)):aa P ops (⟨some dst,.call ⟨.value f,args,w6⟩,ty,pp,a,g⟩::rest) fr st Q:=
 aa.BQ (hg:=hg) (hf:=hf) (h1:=h1) (hp:=hp) (h:=h)
theorem qt {c x y:Operand} {v:Bool} (hv:v=true) (h:aa P ops rest aE st Q) (hg:aA ops fr ⟨some dst,.pick c x y,ty,pp,a,g⟩=some true:=by exact rfl) (hc:fr.ev c=.bool v:=by exact rfl) (hp:fr.put dst (fr.ev x)=aE:=by first|exact ab rfl _|(dsimp only[Fr.put,List.set_cons_succ,List.set_cons_zero]<;>rfl)):aa P ops (⟨some dst,.pick c x y,ty,pp,a,g⟩::rest) fr st Q:=
 aa.cQ (hg:=hg) (hc:=hc) (hv:=hv) (hp:=hp) (h:=h)
theorem qu {c x y:Operand} {v:Bool} (hv:v=false) (h:aa P ops rest aE st Q) (hg:aA ops fr ⟨some dst,.pick c x y,ty,pp,a,g⟩=some true:=by exact rfl) (hc:fr.ev c=.bool v:=by exact rfl) (hp:fr.put dst (fr.ev y)=aE:=by first|exact ab rfl _|(dsimp only[Fr.put,List.set_cons_succ,List.set_cons_zero]<;>rfl)):aa P ops (⟨some dst,.pick c x y,ty,pp,a,g⟩::rest) fr st Q:=
 aa.cH (hg:=hg) (hc:=hc) (hv:=hv) (hp:=hp) (h:=h)
theorem wi {ops:Array Oper} {fr:Fr} {o:Oper} {j t:Nat} {w v:Bool} (h4:v=w) (h1:o.guard=some (j,w):=by exact rfl) (h2:(ops[j]?).bind (·.dst)=some t:=by exact rfl) (h3:fr.get t=.bool v:=by exact rfl):aA ops fr o=some true:=ai h1 h2 h3 h4
theorem wn {ops:Array Oper} {fr:Fr} {o:Oper} {j t:Nat} {w v:Bool} (h4:v=!w) (h1:o.guard=some (j,w):=by exact rfl) (h2:(ops[j]?).bind (·.dst)=some t:=by exact rfl) (h3:fr.get t=.bool v:=by exact rfl):aA ops fr o=some false:=tP h1 h2 h3 h4
theorem qc {dy:Dy} {c:Operand} {a b:Code} {v:Bool} {Q:Out→Fr→St→Prop} (h1:v=true→ak P dy a fr st Q) (h2:v=false→ak P dy b fr st Q) (hv:fr.ev c=.bool v:=by first|rfl|assumption):ak P dy (.cond c a b) fr st Q:=ak.cond hv h1 h2
theorem qq {dy:Dy} {a b:Code} {Q:Out→Fr→St→Prop} (h:ak P dy a fr st (eD P dy b Q)):ak P dy (.seq a b) fr st Q:=ak.seq h
theorem qj {dy:Dy} {i:Nat} {l:List Oper} {d:Bool} {n:Nat} {loc:List D} {tmp:List (Nat×D)} {Q:Out→Fr→St→Prop} (h:∀K:Out→Fr→St→Prop,Q=K→aa P l.toArray l ⟨n,loc,[]⟩ st (K .next)) (h0:gO i dy=[]:=by rfl):ak P dy (.region i l.toArray d) ⟨n,loc,tmp⟩ st Q:=ak.jg (h Q rfl) h0
theorem qe {Q K:Out→Fr→St→Prop} (hK:Q=K) (h:Q .next fr st):aa P ops [] fr st (K .next):=aa.nil (hK▸h)
theorem qB {dy:Dy} {c:Operand} {a b:Code} {Q:Out→Fr→St→Prop} (h1:ak P dy a fr st Q) (hv:fr.ev c=.bool true:=by first|rfl|assumption):ak P dy (.cond c a b) fr st Q:=ak.cond hv (fun _=>h1) (fun h=>by cases h)
theorem qC {dy:Dy} {c:Operand} {a b:Code} {Q:Out→Fr→St→Prop} (h1:ak P dy b fr st Q) (hv:fr.ev c=.bool false:=by first|rfl|assumption):ak P dy (.cond c a b) fr st Q:=ak.cond hv (fun h=>by cases h) (fun _=>h1)
theorem qD {dy:Dy} {c:Operand} {a b:Code} {v:Bool} {Q:Out→Fr→St→Prop} (hv:fr.ev c=.bool v) (hb:v=true) (h1:ak P dy a fr st Q):ak P dy (.cond c a b) fr st Q:=ak.cond hv (fun _=>h1) (fun h=>by rw[hb] at h;cases h)
theorem qE {dy:Dy} {c:Operand} {a b:Code} {v:Bool} {Q:Out→Fr→St→Prop} (hv:fr.ev c=.bool v) (hb:v=false) (h1:ak P dy b fr st Q):ak P dy (.cond c a b) fr st Q:=ak.cond hv (fun h=>by rw[hb] at h;cases h) (fun _=>h1)
theorem rx:∀i:Nat,Out.ret≠Out.exit i:=fun i h=>by cases h
theorem rl {S:St} {H:List a_} {kn:Bool} {st1:St} {d d':D} (hS:S.bs=st.bs) (hH:Has st.bs.length S st1 H) (hd:bd st1 st.bs.length kn 16 d=some d'):da .ro kn st st1 d=some (d',st):=EV (by simp) hS hH hd
theorem ri (s0:St):(ae .ro s0).bs=s0.bs∧(ae .ro s0).flr≤s0.bs.length∧Has s0.bs.length (ae .ro s0) (ae .ro s0) []:=⟨rfl,Nat.le_refl _,Has.start (Nat.le_refl _) (Nat.le_refl _)⟩
theorem w1 {α:Type} {n:Nat} {a:α}:List.replicate (n+1) a=a::List.replicate n a:=rfl
theorem w2 {α:Type} {a:α}:List.replicate 0 a=[]:=rfl
theorem qy {dy:Dy} {a:Code} {Q:Out→Fr→St→Prop} (h:ak P dy a fr st Q):ak P dy a fr st Q:=h
theorem u1 {α:Type} {x:α} {l:List α} {n:Nat} {a:α}:(x::l).set (n+1) a=x::l.set n a:=rfl
theorem u2 {α:Type} {x:α} {l:List α} {a:α}:(x::l).set 0 a=a::l:=rfl
theorem u3 {α:Type} {x:α} {l m:List α}:(x::l)++m=x::(l++m):=rfl
theorem u4 {α:Type} {m:List α}:([]:List α)++m=m:=rfl
theorem u5 {α β:Type} {f:α→β} {x:α} {l:List α}:(x::l).map f=f x::l.map f:=rfl
theorem u6 {α β:Type} {f:α→β}:([]:List α).map f=[]:=rfl
theorem v1 (k:IntKind) (n:Int):kP (.int k n)=.int k n:=rfl
theorem v2 (b:Bool):kP (.bool b)=.bool b:=rfl
theorem v3 (s:ByteArray):kP (.string s)=.str s.data.toList:=rfl
theorem v4:kP (.slice none 0 0)=.nul:=rfl
theorem v5:kP (.pointer none)=.pnil:=rfl
theorem v6:kP .nilFunc=.nilfn:=rfl
theorem v7:kP .nilIface=.nilif:=rfl
theorem cs:(∀(p:Prop) [Decidable p],(decide p=true)=p)∧(∀(p:Prop) [Decidable p],(decide p=false)=¬p)∧(∀(α:Type) [BEq α] [LawfulBEq α] (a b:α),((a==b)=true)=(a=b))∧(∀(α:Type) [BEq α] [LawfulBEq α] (a b:α),((a==b)=false)=¬a=b)∧(∀(α:Type) [BEq α] [LawfulBEq α] (a b:α),((a !=b)=true)=¬a=b)∧(∀(α:Type) [BEq α] [LawfulBEq α] (a b:α),((a !=b)=false)=(a=b))∧(∀b:Bool,((!b)=true)=(b=false))∧(∀b:Bool,((!b)=false)=(b=true))∧(∀b:Bool,(¬b=true)=(b=false))∧(∀b:Bool,(¬b=false)=(b=true)):=by
 refine⟨fun p _=>by simp,fun p _=>by simp,fun α _ _ a b=>by simp,fun α _ _ a b=>by simp,fun α _ _ a b=>by simp,fun α _ _ a b=>by simp,fun b=>by simp,fun b=>by simp,fun b=>by simp,fun b=>by simp⟩
theorem xT {n t:Nat} {loc:List D} {tmp:List (Nat×D)} (h:aa P ops rest ⟨n,loc,(t,d)::tmp⟩ st1 Q) (hb:Nat.ble n t=true:=by exact rfl) (hg:aA ops ⟨n,loc,tmp⟩ ⟨some t,op,ty,pp,a,g⟩=some true:=by exact rfl) (hc:iV op=false:=by exact rfl) (h1:dq P ⟨n,loc,tmp⟩ st op ty=some (d,st1):=by exact rfl):aa P ops (⟨some t,op,ty,pp,a,g⟩::rest) ⟨n,loc,tmp⟩ st Q:=aa.T hb hg hc h1 h
theorem xL {n t:Nat} {loc:List D} {tmp:List (Nat×D)} (h:aa P ops rest ⟨n,loc.set t d,tmp⟩ st1 Q) (hb:Nat.ble n t=false:=by exact rfl) (hg:aA ops ⟨n,loc,tmp⟩ ⟨some t,op,ty,pp,a,g⟩=some true:=by exact rfl) (hc:iV op=false:=by exact rfl) (h1:dq P ⟨n,loc,tmp⟩ st op ty=some (d,st1):=by exact rfl):aa P ops (⟨some t,op,ty,pp,a,g⟩::rest) ⟨n,loc,tmp⟩ st Q:=aa.L hb hg hc h1 h
theorem xN (h:aa P ops rest fr st1 Q) (hg:aA ops fr ⟨none,op,ty,pp,a,g⟩=some true:=by exact rfl) (hc:iV op=false:=by exact rfl) (h1:dq P fr st op ty=some (d,st1):=by exact rfl):aa P ops (⟨none,op,ty,pp,a,g⟩::rest) fr st Q:=aa.N hg hc h1 h
theorem xo {n t:Nat} {loc:List D} {tmp:List (Nat×D)} (h:aa P ops rest ⟨n,loc,(t,.tup [])::tmp⟩ st Q) (hb:Nat.ble n t=true:=by exact rfl) (hg:aA ops ⟨n,loc,tmp⟩ ⟨some t,op,ty,pp,a,g⟩=some false:=by exact rfl):aa P ops (⟨some t,op,ty,pp,a,g⟩::rest) ⟨n,loc,tmp⟩ st Q:=aa.PM hb hg h
theorem xp {n t:Nat} {loc:List D} {tmp:List (Nat×D)} (h:aa P ops rest ⟨n,loc.set t (.tup []),tmp⟩ st Q) (hb:Nat.ble n t=false:=by exact rfl) (hg:aA ops ⟨n,loc,tmp⟩ ⟨some t,op,ty,pp,a,g⟩=some false:=by exact rfl):aa P ops (⟨some t,op,ty,pp,a,g⟩::rest) ⟨n,loc,tmp⟩ st Q:=aa.PN hb hg h
end Go.V
