/-
 Functions given to V; a logic over V; heaps of one's own; no program in sight, no conditions.
-/
import Derived.Test.YtbdilgkfnacahaaXM4
import Derived.Test.YtbdilgkfnacahaaXM1
set_option linter.unusedSimpArgs false
set_option linter.unusedVariables false
set_option linter.unusedSectionVars false
set_option linter.unnecessarySimpa false
namespace Go.V
open Go.RowKit
structure e_ (P:Program) (pv:Pv) (f:Nat) (p:List D→St→Option (D×St)):Prop where
 fn:∀ds st r,p ds st=some r→∃fn b,P.funcs[f]?=some fn∧fn.body=some b∧fn.name≠ "runtime.NumGoroutine"
 calls:∀ds st d ai,p ds st=some (d,ai)→∀w β Z (us:List Value),e7 w st β Z→ds.length=us.length→(∀(i:Nat) c v,ds[i]?=some c→us[i]?=some v→VR w (st.x β Z) c v)→
  Calls P f us.toArray w fun e w'=>∃v β' Z',e=.returned v∧Nx w st β Z w' ai β' Z'∧VR w' (ai.x β' Z') d v∧(iu pv f=true→Quiet w w')
 ro:∀ds st d ai,p ds st=some (d,ai)→iu pv f=true→lR st ai
 len:∀ds st d ai,p ds st=some (d,ai)→dx st ai
theorem vP {pv uW:Pv} (h:∀f,iu pv f=iu uW f) (hm:∀s t,lf pv s t=lf uW s t) (ops:Array Oper) (b:Bool) (x y:Oper):jl pv ops b x y=jl uW ops b x y:=by
 have he:∀o,ew pv o=ew uW o:=by
  intro o;unfold ew
  split<;>first|rfl|exact hm _ _|skip
  rw[h]
 simp only[jl,he]
theorem tt {pv uW:Pv} (h:∀f,iu pv f=iu uW f) (hm:∀s t,lf pv s t=lf uW s t) (ops:Array Oper) (dy:List (Nat×Nat)):jz pv ops dy=jz uW ops dy:=by
 unfold jz
 congr 1
 funext j;unfold DT
 split
 ·simp only[vP h hm]
 ·rfl
theorem dv {pv uW:Pv} (h:∀f,iu pv f=iu uW f) (hm:∀s t,lf pv s t=lf uW s t) (dyn:List (Nat×List (Nat×Nat))) (n:Nat):∀c:Code,codeOk pv dyn n c=codeOk uW dyn n c
 | .region _ ops d=>by simp only[codeOk,tt h hm]
 | .seq a b=>by simp only[codeOk,dv h hm dyn n a,dv h hm dyn n b]
 | .cond _ a b=>by simp only[codeOk,dv h hm dyn n a,dv h hm dyn n b]
 | .block _ c=>by simp only[codeOk,dv h hm dyn n c]
 | .loop c=>by simp only[codeOk,dv h hm dyn n c]
 | .skip| .rangeFunc ..| .exit _| .scope _| .label _| .goto _| .ret| .refuse _=>by simp only[codeOk]
def Pv.over (pv:Pv) (l:List (Nat×(List D→St→Option (D×St)))):Pv:=⟨pv.ty,pv.nty,pv.fs,pv.nfs,pv.eqb,l⟩
theorem xW (pv:Pv) (l) (f:Nat):iu (pv.over l) f=iu pv f:=rfl
theorem pI {f:Nat} {p}:∀{l:List (Nat×(List D→St→Option (D×St)))},jF f l=some p→(f,p)∈l
 |(g,q)::l,h=>by
  simp only[jF] at h
  split at h
  ·rename_i hb;cases h;rw[Nat.eq_of_beq_eq_true hb];exact List.mem_cons_self ..
  ·exact List.mem_cons_of_mem _ (pI h)
theorem lW {pv:Pv} {P:Program} (h:pv.Ok P∧pv.gE∧f' P pv (dK pv)) (Oa:pv.prm=[]) {l:List (Nat×(List D→St→Option (D×St)))} (hl:∀q∈l,e_ P pv q.1 q.2):
  (pv.over l).Ok P∧(pv.over l).gE∧f' P (pv.over l) (dK (pv.over l)):=by
 obtain⟨h1,h2,h3⟩:=h;refine⟨⟨h1.ty,h1.fs,h1.eqb,h1.mixed⟩,fun f x b hx hp hb=>?_,?_⟩
 ·rw[dv (xW pv l) (fun _ _=>rfl)];exact h2 f x b hx hp hb
 ·have key:∀f ds st r,dK (pv.over l) f ds st=some r→(∃p,e_ P pv f p∧p ds st=some r)∨dK pv f ds st=some r:=by
   intro f ds st r h;unfold dK at h
   split at h
   ·rename_i p hp;exact .inl ⟨p,hl _ (pI hp),h⟩
   ·right;unfold dK;rw[Oa];exact h
  refine⟨fun f ds st r h=>?_,fun f ds st d ai h=>?_,fun f ds st d ai h=>?_,fun f ds st d ai h=>?_⟩
  ·rcases key f ds st r h with⟨p,hp,h⟩|h
   ·exact hp.fn ds st r h
   ·exact h3.fn f ds st r h
  ·rcases key f ds st _ h with⟨p,hp,h⟩|h
   ·exact hp.calls ds st d ai h
   ·exact h3.calls f ds st d ai h
  ·rcases key f ds st _ h with⟨p,hp,h⟩|h
   ·exact hp.ro ds st d ai h
   ·exact h3.ro f ds st d ai h
  ·rcases key f ds st _ h with⟨p,hp,h⟩|h
   ·exact hp.len ds st d ai h
   ·exact h3.len f ds st d ai h
theorem e7.nil {w:World} {Z:Nat→Prop} (hZ:∀b,Z b→b<w.heap.size):e7 w ⟨[],0,0⟩ (fun _=>none) Z:=
 ⟨fun _ _ _ h=>(by cases h),fun _ _ _ h=>(by cases h),fun _ _ _ _ _ h=>(by cases h),fun _ _ _ h=>(by cases h),hZ,fun _ _ _ _ h=>(by cases h),Nat.le_refl _,Nat.le_refl _⟩
theorem kE {pv:Pv} {P:Program} (h:pv.Ok P∧pv.gE∧f' P pv (dK pv)) {n f:Nat} {ds:List D} {d:D} {wv:St} (hs:b9 pv n f ds ⟨[],0,0⟩=some (d,wv)) (h0:wv.bs=[]) (hr:refs ds=0)
  (st:St) (w:World) (β:Nat→Option (Nat×Nat)) (Z:Nat→Prop) (us:List Value) (fe:e7 w st β Z) (hl:ds.length=us.length) (ha:∀(i:Nat) c v,ds[i]?=some c→us[i]?=some v→VR w (st.x β Z) c v):
  Calls P f us.toArray w fun e w'=>∃v β' Z',e=.returned v∧Nx w st β Z w' st β' Z'∧VR w' (st.x β' Z') d v∧Quiet w w':=by
 have hrefs:∀(l:List D),refs l=0→∀c∈l,c.ref≤0:=by
  intro l
  induction l with
  |nil=>intro _ c hc;simp at hc
  |cons x l ih=>
   intro h c hc;simp only[refs] at h
   rcases List.mem_cons.1 hc with rfl|hc
   ·omega
   ·exact ih (by omega) c hc
 refine((lJ h.1 h.2.1 h.2.2 n).calls f ds _ d wv hs w (fun _=>none) Z us (e7.nil fe.zl) hl fun i c v hc hv=>?_).mono fun e w'=>?_
 ·exact VR.cut (x:=st.x β Z) (x':=(⟨[],0,0⟩:St).x (fun _=>none) Z) (N:=0) (fun k hk=>absurd hk (Nat.not_lt_zero _)) (fun k hk=>absurd hk (Nat.not_lt_zero _)) (fun b hb=>hb) (ha i c v hc hv) (hrefs ds hr c (List.mem_of_getElem? hc))
 ·rintro⟨v,β',Z',rfl,hn,hv,_⟩
  have kv:∀k p,β' k=some p→False:=fun k p hk=>by
   have:=hn.sim.dom k p.1 p.2 hk;rw[h0] at this;simp at this
  have hq:Quiet w w':=by
   intro c hc;refine hn.evo.block c hc ?_;rintro⟨k,base,h5,_⟩;cases h5
  have Lh:∀b,Z b→Z' b∧w'.heap[b]?=w.heap[b]?:=fun b hb=>⟨(hn.keeps.z b hb).1,hq b (fe.zl b hb)⟩
  have hk:cX w (st.x β Z) w' (st.x β Z'):=⟨fun k p hp=>⟨p,hp⟩,Lh,fun k c p _ hc=>⟨c,hc,Nat.le_refl _⟩,fun k c _ _ b base hb=>⟨hb,dr (hq b (fe.lt k b base hb))⟩⟩
  refine⟨v,β,Z',rfl,⟨⟨fe.dom,fun k b base hb=>Nat.lt_of_lt_of_le (fe.lt k b base hb) hn.evo.size,fe.inj,fun k b base hb hz=>?_,hn.sim.zl,fun k b base bx hb fV=>(fe.box k b base bx hb fV).cj hk (hq b (fe.lt k b base hb)),fe.flr,fe.ro⟩,hk,
   ⟨hn.evo.os,hn.evo.tape,hn.evo.output,hn.evo.size,fun b hb _=>hq b hb⟩,fun k b base hb=>.inl ⟨base,hb⟩,hn.zfresh,Nat.le_refl _,rfl,rfl,fun k _=>⟨rfl,rfl⟩,fun k _ hk=>⟨hk,rfl⟩⟩,?_,hq⟩
  ·rcases hn.zfresh b hz with hz|hz
   ·exact fe.zd k b base hb hz
   ·have:=fe.lt k b base hb;omega
  ·exact VR.cut (x:=wv.x β' Z') (x':=st.x β Z') (N:=0) (fun k hk=>absurd hk (Nat.not_lt_zero _)) (fun k hk=>absurd hk (Nat.not_lt_zero _)) (fun b hb=>hb) hv (VR.ref (fun k p hk=>(kv k p hk).elim) hv)
def jC (d:D):List D→St→Option (D×St)
 |[],st=>some (d,st)
 |_::_,_=>none
theorem jB {pv:Pv} {P:Program} (h:pv.Ok P∧pv.gE∧f' P pv (dK pv)) {n f:Nat} {d:D} {wv:St} (hs:b9 pv n f [] ⟨[],0,0⟩=some (d,wv)) (h0:wv.bs=[]):e_ P pv f (jC d):=by
 have hc:=lJ h.1 h.2.1 h.2.2 n;refine⟨fun ds st r _=>hc.fn f [] _ _ hs,fun ds st d' ai hp w β Z us fe hl ha=>?_,fun ds st d' ai hp _=>?_,fun ds st d' ai hp=>?_⟩<;>cases ds<;>simp only[jC,Option.some.injEq,Prod.mk.injEq,reduceCtorEq] at hp
 ·obtain⟨rfl,rfl⟩:=hp;refine(kE h hs h0 rfl st w β Z us fe hl ha).mono fun e w'=>?_;rintro⟨v,β',Z',h1,h2,h3,h4⟩;exact⟨v,β',Z',h1,h2,h3,fun _=>h4⟩
 ·rw[←hp.2];exact .rfl _
 ·rw[←hp.2];exact dx.refl _
def pE:List (List D×D)→List D→St→Option (D×St)
 |[],_,_=>none
 |(as,d)::l,ds,st=>match gU as ds with
  |true=>some (d,st)
  |false=>pE l ds st
theorem iq:∀{l:List (List D×D)} {ds:List D} {st ai:St} {d:D},pE l ds st=some (d,ai)→(ds,d)∈l∧ai=st
 |(as,e)::l,ds,st,ai,d,h=>by
  simp only[pE] at h
  split at h
  ·rename_i hb;cases h;rw[fU _ _ hb];exact⟨List.mem_cons_self ..,rfl⟩
  ·obtain⟨h1,h2⟩:=iq h;exact⟨List.mem_cons_of_mem _ h1,h2⟩
theorem zq {pv:Pv} {P:Program} (h:pv.Ok P∧pv.gE∧f' P pv (dK pv)) {f:Nat} {l:List (List D×D)} (hl:∀q∈l,refs q.1=0∧∃n wv,b9 pv n f q.1 ⟨[],0,0⟩=some (q.2,wv)∧wv.bs=[]):e_ P pv f (pE l):=by
 refine⟨fun ds st r hp=>?_,fun ds st d ai hp w β Z us fe hle ha=>?_,fun ds st d ai hp _=>by rw[(iq hp).2];exact .rfl _,fun ds st d ai hp=>?_⟩
 ·obtain⟨hm,_⟩:=iq (d:=r.1) (ai:=r.2) hp;obtain⟨_,n,wv,hs,_⟩:=hl _ hm;exact(lJ h.1 h.2.1 h.2.2 n).fn f _ _ _ hs
 ·obtain⟨hm,rfl⟩:=iq hp;obtain⟨hr,n,wv,hs,h0⟩:=hl _ hm;refine(kE h hs h0 hr ai w β Z us fe hle ha).mono fun e w'=>?_;rintro⟨v,β',Z',h1,h2,h3,h4⟩;exact⟨v,β',Z',h1,h2,h3,fun _=>h4⟩
 ·rw[(iq hp).2];exact dx.refl _
def uu:List gL→List gL→Bool
 |[],[]=>true
 |a::l,b::m=>oR a b &&uu l m
 |_,_=>false
def MM (a b:St):Bool:=Nat.beq a.flr b.flr &&Nat.beq a.ro b.ro &&uu a.bs b.bs
def ki (d:D) (st:St):Option (D×St)→Bool
 |some (e,ai)=>ey e d &&MM ai st
 |none=>false
end Go.V
namespace Go.V
section
variable(P:Pv)
def Ev (f:Nat) (args:List D) (st:St) (d:D) (ai:St):Prop:=
 ∃N,∀n,N≤n→b9 P n f args st=some (d,ai)
abbrev Dy:=List (Nat×List (Nat×Nat))
def af (dy:Dy) (c:Code) (fr:Fr) (st:St) (Q:Out→Fr→St→Prop):Prop:=
 ∃o aI ai,(∃N,∀n,N≤n→bO P (b9 P n) dy n c fr st=some (o,aI,ai))∧Q o aI ai
def ae (ops:Array Oper) (l:List Oper) (fr:Fr) (st:St) (Q:Fr→St→Prop):Prop:=
 ∃aI ai,(∃N,∀n,N≤n→gJ P (b9 P n) ops l fr st=some (aI,ai))∧Q aI ai
def ba (dy:Dy) (b:Code) (Q:Out→Fr→St→Prop):Out→Fr→St→Prop
 | .next,fr,st=>af P dy b fr st Q
 | .exit i,fr,st=>Q (.exit i) fr st
 | .ret,fr,st=>Q .ret fr st
def AP (id:Nat) (Q:Out→Fr→St→Prop):Out→Fr→St→Prop
 | .next,fr,st=>Q .next fr st
 | .exit i,fr,st=>if i=id then Q .next fr st else Q (.exit i) fr st
 | .ret,fr,st=>Q .ret fr st
def MO (I:Nat→Fr→St→Prop) (k:Nat) (Q:Out→Fr→St→Prop):Out→Fr→St→Prop
 | .next,fr,st=>∃j,j<k∧I j fr st
 | .exit i,fr,st=>Q (.exit i) fr st
 | .ret,fr,st=>Q .ret fr st
def uA (ops:Array Oper) (dy:List (Nat×Nat)) (j:Nat) (log:Log) (l:List Oper) (fr:Fr) (st:St) (Q:Fr→St→Prop):Prop:=
 ∃aI ai,(∃N,∀n,N≤n→m_ P (b9 P n) ops dy j log l fr st=some (aI,ai))∧Q aI ai
variable{P} {dy:Dy}
theorem af.mono {c:Code} {fr st} {Q Q':Out→Fr→St→Prop} (h:af P dy c fr st Q) (hq:∀o aI ai,Q o aI ai→Q' o aI ai):af P dy c fr st Q':=by
 obtain⟨o,aI,ai,h1,h2⟩:=h;exact⟨o,aI,ai,h1,hq _ _ _ h2⟩
theorem af.skip {fr st} {Q:Out→Fr→St→Prop} (h:Q .next fr st):af P dy .skip fr st Q:=⟨_,_,_,⟨0,fun n _=>by simp only[bO]⟩,h⟩
theorem af.exit {fr st i} {Q:Out→Fr→St→Prop} (h:Q (.exit i) fr st):af P dy (.exit i) fr st Q:=⟨_,_,_,⟨0,fun n _=>by simp only[bO]⟩,h⟩
theorem af.ret {fr st} {Q:Out→Fr→St→Prop} (h:Q .ret fr st):af P dy .ret fr st Q:=⟨_,_,_,⟨0,fun n _=>by simp only[bO]⟩,h⟩
theorem af.region {i ops d fr st} {Q:Out→Fr→St→Prop} (h:ae P ops ops.toList fr.clean st (Q .next)) (h0:fF i dy=[]:=by rfl):af P dy (.region i ops d) fr st Q:=by
 obtain⟨aI,ai,⟨N,hN⟩,hq⟩:=h;exact⟨_,aI,ai,⟨N,fun n hn=>by simp only[bO,h0,s9,hN n hn]⟩,hq⟩
theorem af.DO {i ops d fr st} {Q:Out→Fr→St→Prop} {p:Nat×Nat} {ps:List (Nat×Nat)} (h0:fF i dy=p::ps) (h:uA P ops (p::ps) 0 [] ops.toList fr.clean st (Q .next)):af P dy (.region i ops d) fr st Q:=by
 obtain⟨aI,ai,⟨N,hN⟩,hq⟩:=h;exact⟨_,aI,ai,⟨N,fun n hn=>by simp only[bO,h0,s9,hN n hn]⟩,hq⟩
theorem af.seq {a b fr st} {Q:Out→Fr→St→Prop} (h:af P dy a fr st (ba P dy b Q)):af P dy (.seq a b) fr st Q:=by
 obtain⟨o,aI,ai,⟨N,hN⟩,hq⟩:=h
 cases o with
 |next=>
  obtain⟨o,JH,st2,⟨M,hM⟩,hq⟩:=hq;exact⟨o,JH,st2,⟨max N M,fun n hn=>by simp only[bO,hN n (by omega),hM n (by omega)]⟩,hq⟩
 |exit i=>exact⟨_,aI,ai,⟨N,fun n hn=>by simp only[bO,hN n hn]⟩,hq⟩
 |ret=>exact⟨_,aI,ai,⟨N,fun n hn=>by simp only[bO,hN n hn]⟩,hq⟩
theorem af.cond {c a b fr st v} {Q:Out→Fr→St→Prop} (hv:fr.ev c=.bool v) (h1:v=true→af P dy a fr st Q) (h2:v=false→af P dy b fr st Q):af P dy (.cond c a b) fr st Q:=by
 cases v with
 |true=>
  obtain⟨o,aI,ai,⟨N,hN⟩,hq⟩:=h1 rfl;exact⟨o,aI,ai,⟨N,fun n hn=>by simp only[bO,hv,hN n hn]⟩,hq⟩
 |false=>
  obtain⟨o,aI,ai,⟨N,hN⟩,hq⟩:=h2 rfl;exact⟨o,aI,ai,⟨N,fun n hn=>by simp only[bO,hv,hN n hn]⟩,hq⟩
theorem af.block {id c fr st} {Q:Out→Fr→St→Prop} (h:af P dy c fr st (AP id Q)):af P dy (.block id c) fr st Q:=by
 obtain⟨o,aI,ai,⟨N,hN⟩,hq⟩:=h
 cases o with
 |next=>exact⟨_,aI,ai,⟨N,fun n hn=>by simp only[bO,hN n hn]⟩,hq⟩
 |exit i=>
  simp only[AP] at hq
  split at hq
  ·rename_i hi;exact⟨_,aI,ai,⟨N,fun n hn=>by simp only[bO,hN n hn,if_pos hi]⟩,hq⟩
  ·rename_i hi;exact⟨_,aI,ai,⟨N,fun n hn=>by simp only[bO,hN n hn,if_neg hi]⟩,hq⟩
 |ret=>exact⟨_,aI,ai,⟨N,fun n hn=>by simp only[bO,hN n hn]⟩,hq⟩
theorem af.loop {c:Code} {fr st} {Q:Out→Fr→St→Prop} (I:Nat→Fr→St→Prop) (k:Nat) (h0:I k fr st) (h:∀k fr st,I k fr st→af P dy c fr.clean st (MO I k Q)):af P dy (.loop c) fr st Q:=by
 have key:∀k fr st,I k fr st→∃o aI ai,(∃N,∀n,N≤n→∀m,N≤m→iter (bO P (b9 P n) dy n c) m fr st=some (o,aI,ai))∧(Q o aI ai):=by
  intro k
  induction k using Nat.strongRecOn with
  |ind k ih=>
   intro fr st hi;obtain⟨o,aI,ai,⟨N,hN⟩,hq⟩:=h k fr st hi
   cases o with
   |next=>
    obtain⟨j,hj,rI⟩:=hq;obtain⟨o,JH,st2,⟨M,hM⟩,hq⟩:=ih j hj aI ai rI;refine⟨o,JH,st2,⟨max N M+1,fun n hn m hm=>?_⟩,hq⟩
    obtain⟨m,rfl⟩:∃m',m=m'+1:=⟨m-1,by omega⟩
    simp only[iter,hN n (by omega),hM n (by omega) m (by omega)]
   |exit i=>
    refine⟨_,aI,ai,⟨N+1,fun n hn m hm=>?_⟩,hq⟩
    obtain⟨m,rfl⟩:∃m',m=m'+1:=⟨m-1,by omega⟩
    simp only[iter,hN n (by omega)]
   |ret=>
    refine⟨_,aI,ai,⟨N+1,fun n hn m hm=>?_⟩,hq⟩
    obtain⟨m,rfl⟩:∃m',m=m'+1:=⟨m-1,by omega⟩
    simp only[iter,hN n (by omega)]
 obtain⟨o,aI,ai,⟨N,hN⟩,hq⟩:=key k fr st h0;exact⟨o,aI,ai,⟨N,fun n hn=>by simp only[bO,hN n hn n hn]⟩,hq⟩
theorem Ev.of {f x body args st d ai} (hq:jF f P.prm=none) (hf:P.fi f=some x) (hp:x.iL=none) (hb:x.fn.body=some body)
  (h:af P x.dyn body (pad x.nloc args) (aj x.mode st) fun o fr st1=>(∀i,o≠.exit i)∧∃ds,iJ P fr st1 x.fn.results.toList=some ds∧cE x.mode x.knul st st1 (nM ds)=some (d,ai)):Ev P f args st d ai:=by
 obtain⟨o,aI,st1,⟨N,hN⟩,ho,ds,hr,hl⟩:=h;refine⟨N+1,fun n hn=>?_⟩
 obtain⟨m,rfl⟩:∃m',n=m'+1:=⟨n-1,by omega⟩
 simp only[b9,hq,hf,hp,hb,ur];rw[hN m (by omega)]
 cases o with
 |next=>simp only[hr,hl]
 |exit i=>exact absurd rfl (ho i)
 |ret=>simp only[hr,hl]
theorem ae.nil {ops fr st} {Q:Fr→St→Prop} (h:Q fr st):ae P ops [] fr st Q:=⟨fr,st,⟨0,fun n _=>rfl⟩,h⟩
def gD:Op→Bool
 | .call ⟨.value _,_,_⟩=>true
 |_=>false
theorem zb {cf fr st} {o:Oper} (h:gD o.op=false):ei P cf fr st o=di P fr st o.op o.type:=by
 unfold ei
 split
 ·rename_i heq;rw[heq] at h;simp[gD] at h
 ·rfl
theorem ae.op {ops o rest fr st d st1} {Q:Fr→St→Prop} (hg:aG ops fr o=some true) (hc:gD o.op=false) (h1:di P fr st o.op o.type=some (d,st1))
  (h:ae P ops rest (fr.au o.dst d) st1 Q):ae P ops (o::rest) fr st Q:=by
 obtain⟨aI,ai,⟨N,hN⟩,hq⟩:=h;exact⟨aI,ai,⟨N,fun n hn=>by simp only[gJ,hg,zb hc,h1,hN n hn]⟩,hq⟩
theorem ae.off {ops o rest fr st} {Q:Fr→St→Prop} (hg:aG ops fr o=some false)
  (h:ae P ops rest (fr.au o.dst (.tup [])) st Q):ae P ops (o::rest) fr st Q:=by
 obtain⟨aI,ai,⟨N,hN⟩,hq⟩:=h;exact⟨aI,ai,⟨N,fun n hn=>by simp only[gJ,hg,hN n hn]⟩,hq⟩
theorem ae.call {ops rest fr st d st1 f g gk args pb dst type pos} {after guard} {Q:Fr→St→Prop} (hg:aG ops fr ⟨dst,.call ⟨.value f,args,pb⟩,type,pos,after,guard⟩=some true) (hf:fr.ev f=.fn g gk)
  (h1:Ev P g (args.toList.map fr.ev++gk) st d st1)
  (h:ae P ops rest (fr.au dst d) st1 Q):ae P ops (⟨dst,.call ⟨.value f,args,pb⟩,type,pos,after,guard⟩::rest) fr st Q:=by
 obtain⟨aI,ai,⟨N,hN⟩,hq⟩:=h;obtain⟨M,hM⟩:=h1;exact⟨aI,ai,⟨max N M,fun n hn=>by simp only[gJ,hg,ei,hf,hM n (by omega),hN n (by omega)]⟩,hq⟩
theorem uA.nil {ops ys j log fr st} {Q:Fr→St→Prop} (h:Q fr st):uA P ops ys j log [] fr st Q:=⟨fr,st,⟨0,fun n _=>rfl⟩,h⟩
theorem uA.cons {ops ys j log o rest fr st} {Q:Fr→St→Prop} (h:ae P ops [o] fr st fun aI ai=>Au ys j log o fr st ai=true∧uA P ops ys (j+1) ((o,fr,st,ai)::log) rest aI ai Q):uA P ops ys j log (o::rest) fr st Q:=by
 obtain⟨JI,st1,⟨N,hN⟩,hc,JH,st2,⟨M,hM⟩,hq⟩:=h;refine⟨JH,st2,⟨max N M,fun n hn=>?_⟩,hq⟩;have h1:=hN n (by omega);have h2:=hM n (by omega);simp only[gJ] at h1;simp only[m_]
 split at h1
 ·rename_i hw
  split at h1
  ·rename_i d ai fm;cases h1;simp only[fm,hc,h2]
  ·cases h1
 ·rename_i hw;cases h1;exact h2
 ·cases h1
theorem Ev.out {f args st d ai} (h:Ev P f args st d ai):∃N,∀n,N≤n→b9 P n f args st=some (d,ai):=h
theorem Ev.iL {f args st d ai p} (hq:jF f P.prm=some p) (h:p args st=some (d,ai)):Ev P f args st d ai:=
 ⟨1,fun n hn=>by
  obtain⟨m,rfl⟩:∃m',n=m'+1:=⟨n-1,by omega⟩
  simp only[b9,hq,h]⟩
end
attribute [irreducible] Ev af ae uA
end Go.V
namespace Go.V
theorem af.b_ {P:Pv} {dy:Dy} {i:Nat} {l:List Oper} {d n loc tmp st} {Q:Out→Fr→St→Prop} (h:ae P l.toArray l ⟨n,loc,[]⟩ st (Q .next)) (h0:fF i dy=[]:=by rfl):af P dy (.region i l.toArray d) ⟨n,loc,tmp⟩ st Q:=af.region h h0
theorem af.Np {P:Pv} {dy:Dy} {i:Nat} {l:List Oper} {d n loc tmp st} {Q:Out→Fr→St→Prop} {p:Nat×Nat} {ps:List (Nat×Nat)} (h0:fF i dy=p::ps) (h:uA P l.toArray (p::ps) 0 [] l ⟨n,loc,[]⟩ st (Q .next)):af P dy (.region i l.toArray d) ⟨n,loc,tmp⟩ st Q:=af.DO h0 h
theorem Ev.j8 {P:Pv} {f x body args st d ai n loc} (hq:jF f P.prm=none) (hf:P.fi f=some x) (hp:x.iL=none) (hb:x.fn.body=some body) (zJ:pad x.nloc args=⟨n,loc,[]⟩)
  (h:af P x.dyn body ⟨n,loc,[]⟩ (aj x.mode st) fun o fr st1=>(∀i,o≠.exit i)∧∃ds,iJ P fr st1 x.fn.results.toList=some ds∧cE x.mode x.knul st st1 (nM ds)=some (d,ai)):Ev P f args st d ai:=
 Ev.of hq hf hp hb (by rw[zJ];exact h)
section
variable{P:Pv} {ops:Array Oper} {rest:List Oper} {n:Nat} {loc:List D} {tmp:List (Nat×D)} {st st1:St} {Q:Fr→St→Prop} {op:Op} {ty:TypeId} {p:String} {a:Array Edge} {g:Option (Nat×Bool)} {t:Nat} {d:D}
theorem ag (hb:Nat.ble n t=true) (d:D):Fr.put ⟨n,loc,tmp⟩ t d=⟨n,loc,(t,d)::tmp⟩:=by
 simp only[Fr.put,hb]
theorem yY (hb:Nat.ble n t=false) (d:D):Fr.put ⟨n,loc,tmp⟩ t d=⟨n,loc.set t d,tmp⟩:=by
 simp only[Fr.put,hb]
theorem ae.T (hb:Nat.ble n t=true) (hg:aG ops ⟨n,loc,tmp⟩ ⟨some t,op,ty,p,a,g⟩=some true) (hc:gD op=false) (h1:di P ⟨n,loc,tmp⟩ st op ty=some (d,st1))
  (h:ae P ops rest ⟨n,loc,(t,d)::tmp⟩ st1 Q):ae P ops (⟨some t,op,ty,p,a,g⟩::rest) ⟨n,loc,tmp⟩ st Q:=
 ae.op hg hc h1 (by show ae P ops rest (Fr.put _ t d) st1 Q;rw[ag hb];exact h)
theorem ae.L (hb:Nat.ble n t=false) (hg:aG ops ⟨n,loc,tmp⟩ ⟨some t,op,ty,p,a,g⟩=some true) (hc:gD op=false) (h1:di P ⟨n,loc,tmp⟩ st op ty=some (d,st1))
  (h:ae P ops rest ⟨n,loc.set t d,tmp⟩ st1 Q):ae P ops (⟨some t,op,ty,p,a,g⟩::rest) ⟨n,loc,tmp⟩ st Q:=
 ae.op hg hc h1 (by show ae P ops rest (Fr.put _ t d) st1 Q;rw[yY hb];exact h)
theorem ae.N {fr:Fr} (hg:aG ops fr ⟨none,op,ty,p,a,g⟩=some true) (hc:gD op=false) (h1:di P fr st op ty=some (d,st1))
  (h:ae P ops rest fr st1 Q):ae P ops (⟨none,op,ty,p,a,g⟩::rest) fr st Q:=ae.op hg hc h1 h
theorem ae.NB (hb:Nat.ble n t=true) (hg:aG ops ⟨n,loc,tmp⟩ ⟨some t,op,ty,p,a,g⟩=some false)
  (h:ae P ops rest ⟨n,loc,(t,.tup [])::tmp⟩ st Q):ae P ops (⟨some t,op,ty,p,a,g⟩::rest) ⟨n,loc,tmp⟩ st Q:=
 ae.off hg (by show ae P ops rest (Fr.put _ t _) st Q;rw[ag hb];exact h)
theorem ae.NC (hb:Nat.ble n t=false) (hg:aG ops ⟨n,loc,tmp⟩ ⟨some t,op,ty,p,a,g⟩=some false)
  (h:ae P ops rest ⟨n,loc.set t (.tup []),tmp⟩ st Q):ae P ops (⟨some t,op,ty,p,a,g⟩::rest) ⟨n,loc,tmp⟩ st Q:=
 ae.off hg (by show ae P ops rest (Fr.put _ t _) st Q;rw[yY hb];exact h)
theorem ae.qk {f gn:_} {gk:List D} {args:Array Operand} {pb:Array TypeId} (hb:Nat.ble n t=true) (hg:aG ops ⟨n,loc,tmp⟩ ⟨some t,.call ⟨.value f,args,pb⟩,ty,p,a,g⟩=some true) (hf:Fr.ev ⟨n,loc,tmp⟩ f=.fn gn gk)
  (h1:Ev P gn (args.toList.map (Fr.ev ⟨n,loc,tmp⟩)++gk) st d st1)
  (h:ae P ops rest ⟨n,loc,(t,d)::tmp⟩ st1 Q):ae P ops (⟨some t,.call ⟨.value f,args,pb⟩,ty,p,a,g⟩::rest) ⟨n,loc,tmp⟩ st Q:=
 ae.call hg hf h1 (by show ae P ops rest (Fr.put _ t d) st1 Q;rw[ag hb];exact h)
theorem ae.MK {f gn:_} {gk:List D} {args:Array Operand} {pb:Array TypeId} (hb:Nat.ble n t=false) (hg:aG ops ⟨n,loc,tmp⟩ ⟨some t,.call ⟨.value f,args,pb⟩,ty,p,a,g⟩=some true) (hf:Fr.ev ⟨n,loc,tmp⟩ f=.fn gn gk)
  (h1:Ev P gn (args.toList.map (Fr.ev ⟨n,loc,tmp⟩)++gk) st d st1)
  (h:ae P ops rest ⟨n,loc.set t d,tmp⟩ st1 Q):ae P ops (⟨some t,.call ⟨.value f,args,pb⟩,ty,p,a,g⟩::rest) ⟨n,loc,tmp⟩ st Q:=
 ae.call hg hf h1 (by show ae P ops rest (Fr.put _ t d) st1 Q;rw[yY hb];exact h)
end
inductive Rows (st:St) (s:Nat):D→List (List D)→Prop where
 |nul:Rows st s .nul []
 |sl (es:List D) (h:∀e∈es,e.cells?=some e.cells∧e.cells.length=s):Rows st s (.sl es) (es.map D.cells)
 |win (k aC off:Nat) (es:List (List D)) (ar:Bool) (c:List D) (hm:st.dN k aC=some (ar,c)) (hl:off+es.length*s≤c.length)
   (he:∀(i:Nat) e,es[i]?=some e→(c.drop (off+i*s)).take s=e):Rows st s (.win k aC off es.length s) es
theorem Rows.rQ {st:St} {s:Nat} {x:D} {es:List (List D)} (h:Rows st s x es):∀(i:Nat) e,es[i]?=some e→e.length=s:=by
 cases h with
 |nul=>intro i e h;simp at h
 |sl es h=>
  intro i e hi;rw[List.getElem?_map] at hi;obtain⟨d,hd,rfl⟩:=Option.map_eq_some_iff.1 hi;exact(h d (List.mem_of_getElem? hd)).2
 |win k aC off es ar c hm hl he=>
  intro i e hi
  have hlt:i<es.length:=by
   rcases Nat.lt_or_ge i es.length with h'|h'
   ·exact h'
   ·rw[List.getElem?_eq_none h'] at hi;cases hi
  rw[←he i e hi];have:(i+1)*s≤es.length*s:=Nat.mul_le_mul_right s hlt;rw[Nat.add_mul] at this
  simp;omega
theorem Rows.len {st:St} {s:Nat} {x:D} {es:List (List D)} (h:Rows st s x es):tF x=some es.length∧∀b,x≠.str b:=by
 cases h with
 |nul=>exact⟨rfl,fun b h=>by cases h⟩
 |sl es h=>exact⟨by simp[tF],fun b h=>by cases h⟩
 |win k aC off es ar c hm hl he=>exact⟨rfl,fun b h=>by cases h⟩
theorem Rows.EZ {P:Pv} {st:St} {s:Nat} {x:D} {es:List (List D)} (h:Rows st s x es) {t e:TypeId} (ht:P.cx t=some (.slice e)):
  bB P .len [t] [x] st=some (.int .i64 (es.length:Nat),st):=by
 obtain⟨h1,h2⟩:=h.len;simp only[bB,ht]
 cases x with
 |str b=>exact absurd rfl (h2 b)
 |_=>simp only[h1];rfl
theorem uJ {P:Pv} {e:TypeId} {c c':List D} {s:Nat} {d:D} (hs:bT P e=some s) (hc:c.take s=c') (hl:c'.length=s) (h:dn P e c'=some d):dn P e c=some d:=by
 have hlen:s≤c.length:=by rw[←hc] at hl;simp at hl;omega
 unfold dn at h⊢
 cases hu:P.cx e with
 |none=>rw[hu] at h;cases h
 |some u=>
  rw[hu] at h
  cases u with
  |struct f=>
   simp only[hs,Option.bind_some] at h⊢;rw[if_pos (by omega)] at h;rw[if_pos hlen,hc];rw[←h,List.take_of_length_le (by omega)]
  |array n f=>
   simp only[hs,Option.bind_some] at h⊢;rw[if_pos (by omega)] at h;rw[if_pos hlen,hc];rw[←h,List.take_of_length_le (by omega)]
  |_=>
   simp only at h⊢;rw[←h,←hc]
   cases c with
   |nil=>simp
   |cons x xs=>
    cases s with
    |zero=>simp at hc;subst hc;simp at h
    |succ s=>simp
theorem Rows.idx {P:Pv} {st:St} {s:Nat} {x:D} {es:List (List D)} (h:Rows st s x es) {t e:TypeId} (ht:P.cx t=some (.slice e)) (hs:bT P e=some s) {k:IntKind} {i:Int} {r:List D} (h0:0≤i) (hi:es[i.toNat]?=some r):
  ∃p,bR P t x (.int k i) st=some p∧∀d,dn P e r=some d→eU P e p st=some d:=by
 cases h with
 |nul=>simp at hi
 |sl es h=>
  rw[List.getElem?_map] at hi;obtain⟨d,hd,rfl⟩:=Option.map_eq_some_iff.1 hi;obtain⟨h1,h2⟩:=h d (List.mem_of_getElem? hd);refine⟨.ep d.cells,?_,fun d' h=>h⟩;simp only[bR,ht,hs,Option.bind_some,if_pos h0,hd,h1,if_pos h2]
 |win k aC off es ar c hm hl he=>
  have hlt:i.toNat<es.length:=by
   rcases Nat.lt_or_ge i.toNat es.length with h'|h'
   ·exact h'
   ·rw[List.getElem?_eq_none h'] at hi;cases hi
  refine⟨.ptr k aC (off+i.toNat*s),?_,fun d' h=>?_⟩
  ·simp only[bR,ht,hs,Option.bind_some,hm,Option.isSome_some];rw[if_pos ⟨trivial,h0,by omega,trivial⟩]
  ·simp only[eU,hm,Option.bind_some];exact uJ hs (he _ _ hi) (Rows.rQ (.win k aC off es ar c hm hl he) _ _ hi) h
theorem ae.bY {P:Pv} {ops:Array Oper} {rest:List Oper} {n:Nat} {loc:List D} {tmp:List (Nat×D)} {st:St} {Q:Fr→St→Prop} {t e:TypeId} {xo io:Operand} {d1 d2:Nat} {Ky jq:TypeId} {p1 p2:String} {a1 a2:Array Edge} {g1 g2:Option (Nat×Bool)} {x:D} {k:IntKind} {i:Int} {s:Nat} {es:List (List D)} {r:List D} {d:D}
  (hb1:Nat.ble n d1=true) (hb2:Nat.ble n d2=true) (da:aG ops ⟨n,loc,tmp⟩ ⟨some d1,.indexAddr t xo io,Ky,p1,a1,g1⟩=some true) (bm:∀p,aG ops ⟨n,loc,(d1,p)::tmp⟩ ⟨some d2,.load e (.tmp d1),jq,p2,a2,g2⟩=some true)
  (hx:Fr.ev ⟨n,loc,tmp⟩ xo=x) (hi:Fr.ev ⟨n,loc,tmp⟩ io=.int k i) (hR:Rows st s x es) (ht:P.cx t=some (.slice e)) (hs:bT P e=some s) (h0:0≤i) (hr:es[i.toNat]?=some r) (hd:dn P e r=some d)
  (h:∀p,ae P ops rest ⟨n,loc,(d2,d)::(d1,p)::tmp⟩ st Q):ae P ops (⟨some d1,.indexAddr t xo io,Ky,p1,a1,g1⟩::⟨some d2,.load e (.tmp d1),jq,p2,a2,g2⟩::rest) ⟨n,loc,tmp⟩ st Q:=by
 obtain⟨p,h1,h2⟩:=hR.idx ht hs (k:=k) h0 hr;refine ae.T hb1 da rfl (d:=p) (st1:=st) (by simp only[di,hx,hi,h1,Option.map_some])<|ae.T hb2 (bm p) rfl (d:=d) (st1:=st) ?_ (h p)
 have:Fr.ev ⟨n,loc,(d1,p)::tmp⟩ (.tmp d1)=p:=by
  simp only[Fr.ev,Fr.get,hb1,look];have:Nat.beq d1 d1=true:=Nat.beq_refl d1;rw[this]
 simp only[di,this,h2 d hd,Option.map_some]
theorem ae.zD {P:Pv} {ops:Array Oper} {rest:List Oper} {n:Nat} {loc:List D} {tmp:List (Nat×D)} {st:St} {Q:Fr→St→Prop} {t e:TypeId} {xo io:Operand} {d1 d2:Nat} {Ky jq:TypeId} {p1 p2:String} {a1 a2:Array Edge} {g1 g2:Option (Nat×Bool)} {x:D} {k:IntKind} {i:Int} {s:Nat} {es:List (List D)} {r:List D} {d:D}
  (hb1:Nat.ble n d1=false) (hb2:Nat.ble n d2=false) (da:aG ops ⟨n,loc,tmp⟩ ⟨some d1,.indexAddr t xo io,Ky,p1,a1,g1⟩=some true) (bm:∀p,aG ops ⟨n,loc.set d1 p,tmp⟩ ⟨some d2,.load e (.tmp d1),jq,p2,a2,g2⟩=some true)
  (x9:d1<loc.length) (hx:Fr.ev ⟨n,loc,tmp⟩ xo=x) (hi:Fr.ev ⟨n,loc,tmp⟩ io=.int k i) (hR:Rows st s x es) (ht:P.cx t=some (.slice e)) (hs:bT P e=some s) (h0:0≤i) (hr:es[i.toNat]?=some r) (hd:dn P e r=some d)
  (h:∀p,ae P ops rest ⟨n,(loc.set d1 p).set d2 d,tmp⟩ st Q):ae P ops (⟨some d1,.indexAddr t xo io,Ky,p1,a1,g1⟩::⟨some d2,.load e (.tmp d1),jq,p2,a2,g2⟩::rest) ⟨n,loc,tmp⟩ st Q:=by
 obtain⟨p,h1,h2⟩:=hR.idx ht hs (k:=k) h0 hr;refine ae.L hb1 da rfl (d:=p) (st1:=st) (by simp only[di,hx,hi,h1,Option.map_some])<|ae.L hb2 (bm p) rfl (d:=d) (st1:=st) ?_ (h p)
 have:Fr.ev ⟨n,loc.set d1 p,tmp⟩ (.tmp d1)=p:=by
  simp only[Fr.ev,Fr.get,hb1]
  have key:∀(l:List D) (i:Nat),i<l.length→nth .bA (l.set i p) i=p:=by
   intro l
   induction l with
   |nil=>intro i h;simp at h
   |cons x l ih=>
    intro i h
    cases i with
    |zero=>rfl
    |succ i=>exact ih i (by simpa using h)
  exact key loc d1 x9
 simp only[di,this,h2 d hd,Option.map_some]
def byteCells (b:List UInt8):List (List D):=b.map fun y=>[.int .u8 (y.toNat:Nat)]
def Bytes (st:St) (x:D) (b:List UInt8):Prop:=Rows st 1 x (byteCells b)
theorem aP {m:Mode} {kn:Bool} {st st1:St} {d d':D} (hm:m≠.cj∧m≠.nw) (h1:st1.bs.take st.bs.length=st.bs) (hd:bI st1 st.bs.length kn 16 d=some d'):cE m kn st st1 d=some (d',st):=by
 cases m with
 |cj=>exact absurd rfl hm.1
 |nw=>exact absurd rfl hm.2
 |_=>simp only[cE,hd,h1]
end Go.V
namespace Go.V
structure Ex (N:Nat) (st ai:St):Prop where
 low:∀k,k<N→ai.bs[k]?=st.bs[k]?
 len:st.bs.length≤ai.bs.length
 flr:ai.flr=st.flr
 ro:ai.ro=st.ro
theorem Ex.refl (N:Nat) (st:St):Ex N st st:=⟨fun _ _=>rfl,Nat.le_refl _,rfl,rfl⟩
theorem Ex.trans {N:Nat} {a b c:St} (h:Ex N a b) (g:Ex N b c):Ex N a c:=
 ⟨fun k hk=>(g.low k hk).trans (h.low k hk),Nat.le_trans h.len g.len,g.flr.trans h.flr,g.ro.trans h.ro⟩
theorem Ex.push {N:Nat} {st:St} (h:N≤st.bs.length) (b:gL):Ex N st (st.push b):=
 ⟨fun k hk=>by simp only[St.push];rw[List.getElem?_append_left (by omega)],by simp[St.push],rfl,rfl⟩
theorem Ex.set {N:Nat} {st:St} {k:Nat} (h:N≤k) (b:gL):Ex N st {st with bs:=st.bs.set k b}:=
 ⟨fun j hj=>by simp only;rw[List.getElem?_set_ne (by omega)],by simp,rfl,rfl⟩
theorem Ex.take {N:Nat} {st ai:St} (h:Ex N st ai) (hN:N=st.bs.length):ai.bs.take N=st.bs:=by
 apply List.ext_getElem?;intro k;rw[List.getElem?_take]
 split
 ·exact h.low k (by assumption)
 ·rw[List.getElem?_eq_none (by omega)]
theorem Ex.mem {N:Nat} {st ai:St} (h:Ex N st ai) {k v:Nat} (hk:k<N):ai.dN k v=st.dN k v:=by
 simp only[St.dN,h.low k hk]
theorem Rows.ex {N:Nat} {st ai:St} (h:Ex N st ai) {s:Nat} {x:D} {es:List (List D)} (hr:Rows st s x es) (hx:x.ref≤N):Rows ai s x es:=by
 cases hr with
 |nul=>exact .nul
 |sl es h=>exact .sl es h
 |win k aC off es ar c hm hl he=>exact .win k aC off es ar c (by rw[h.mem (by simp only[D.ref] at hx;omega)];exact hm) hl he
theorem Rows.slice {P:Pv} {st:St} {s:Nat} {x:D} {es:List (List D)} (h:Rows st s x es) {t e:TypeId} (ht:P.cx t=some (.slice e)) (hs:bT P e=some s) {lo hi:Option D} {l r:Nat} (hb:cI es.length lo hi=some (l,r)) (wW:l≤r∧r≤es.length):
  ∃y,fX P t x lo hi st=some y∧Rows st s y ((es.take r).drop l)∧y.ref≤x.ref:=by
 cases h with
 |nul=>
  refine⟨.nul,?_,?_,Nat.le_refl _⟩
  ·simp only[fX,ht,hs,Option.bind_some];simp only[List.length_nil] at hb;rw[hb];rfl
  ·simp;exact .nul
 |sl es h=>
  refine⟨.sl ((es.take r).drop l),?_,?_,by simp[D.ref]⟩
  ·simp only[fX,ht,hs,Option.bind_some]
   have:oA s es=true:=by
    cases es with
    |nil=>rfl
    |cons e es=>obtain⟨h1,h2⟩:=h e (List.mem_cons_self ..);simp[oA,h1,h2]
   rw[if_pos this];simp only[List.length_map] at hb;rw[hb];rfl
  ·have:=Rows.sl (st:=st) (s:=s) ((es.take r).drop l) fun e he=>h e (List.mem_of_mem_take (List.mem_of_mem_drop he))
   simpa[List.map_drop,List.map_take] using this
 |win k aC off es ar c hm hl he=>
  have hlen:((es.take r).drop l).length=r-l:=by simp;omega
  refine⟨.win k aC (off+l*s) (r-l) s,?_,?_,by simp[D.ref]⟩
  ·simp only[fX,ht,hs,Option.bind_some,if_true,hb];rfl
  ·have h1:l*s+(r-l)*s≤es.length*s:=by rw[←Nat.add_mul];exact Nat.mul_le_mul_right s (by omega)
   have:=Rows.win (st:=st) (s:=s) k aC (off+l*s) ((es.take r).drop l) ar c hm (by rw[hlen];omega) (fun i e hi=>by
    rw[List.getElem?_drop,List.getElem?_take] at hi
    split at hi
    ·have:=he _ _ hi;rw[←this,Nat.add_mul];congr 2;omega
    ·cases hi)
   rwa [hlen] at this
inductive Acc (N:Nat) (st:St) (s:Nat):D→List (List D)→Prop where
 |nul:Acc N st s .nul []
 |win (k aC:Nat) (es:List (List D)) (hN:N≤k) (hm:st.bs[k]?=some (.mem aC true es.flatten)) (he:∀e∈es,e.length=s):Acc N st s (.win k aC 0 es.length s) es
theorem cN {s:Nat}:∀{es:List (List D)},(∀e∈es,e.length=s)→es.flatten.length=es.length*s
 |[],_=>by simp
 |e::es,h=>by
  have:=cN (s:=s) (es:=es) fun x hx=>h x (List.mem_cons_of_mem _ hx);simp only[List.flatten_cons,List.length_append,List.length_cons,this,h e (List.mem_cons_self ..)];rw[Nat.add_mul];omega
theorem ka {s:Nat}:∀{es:List (List D)},(∀e∈es,e.length=s)→∀(i:Nat) e,es[i]?=some e→(es.flatten.drop (i*s)).take s=e
 |[],_,i,e,h=>by simp at h
 |x::es,h,0,e,hi=>by
  simp at hi;subst hi;have:=h x (List.mem_cons_self ..);simp[List.take_left' this]
 |x::es,h,i+1,e,hi=>by
  simp only[List.getElem?_cons_succ] at hi;have hx:=h x (List.mem_cons_self ..);have:=ka (s:=s) (es:=es) (fun y hy=>h y (List.mem_cons_of_mem _ hy)) i e hi;rw[←this,List.flatten_cons,Nat.add_mul,Nat.one_mul,Nat.add_comm,←hx,←List.drop_drop,List.drop_left]
theorem St.mem_of {st:St} {k aC:Nat} {ar:Bool} {c:List D} (h:st.bs[k]?=some (.mem aC ar c)):st.dN k aC=some (ar,c):=by
 simp only[St.dN,h,if_true]
theorem Acc.rows {N:Nat} {st:St} {s:Nat} {x:D} {es:List (List D)} (h:Acc N st s x es):Rows st s x es:=by
 cases h with
 |nul=>exact .nul
 |win k aC es hN hm he=>
  exact .win k aC 0 es true es.flatten (St.mem_of hm) (by rw[cN he];omega) fun i e hi=>by rw[Nat.zero_add];exact ka he i e hi
theorem Acc.ex {N M:Nat} {st ai:St} (h:Ex M st ai) {s:Nat} {x:D} {es:List (List D)} (hr:Acc N st s x es) (hx:x.ref≤M):Acc N ai s x es:=by
 cases hr with
 |nul=>exact .nul
 |win k aC es hN hm he=>exact .win k aC es hN (by rw[h.low k (by simp only[D.ref] at hx;omega)];exact hm) he
theorem Acc.push {N:Nat} {st:St} {s:Nat} {x:D} {es:List (List D)} (hr:Acc N st s x es) (b:gL):Acc N (st.push b) s x es:=by
 cases hr with
 |nul=>exact .nul
 |win k aC es hN hm he=>
  refine .win k aC es hN ?_ he;simp only[St.push];rw[List.getElem?_append_left];exact hm
  rcases Nat.lt_or_ge k st.bs.length with h'|h'
  ·exact h'
  ·rw[List.getElem?_eq_none h'] at hm;cases hm
theorem Rows.row {st:St} {s:Nat} {x:D} {es:List (List D)} (h:Rows st s x es):nU st x=some (es.length,es.flatten):=by
 have hl:=h.rQ
 cases h with
 |nul=>rfl
 |sl es h=>
  simp only[nU,List.length_map];rw[List.flatMap_def]
 |win k aC off es ar c hm gP he=>
  simp only[nU,hm,Option.bind_some,if_pos gP]
  congr 2
  have key:∀(es:List (List D)) (c:List D),es.length*s≤c.length→(∀(i:Nat) e,es[i]?=some e→(c.drop (i*s)).take s=e)→c.take (es.length*s)=es.flatten:=by
   intro es
   induction es with
   |nil=>intro c _ _;simp
   |cons e es ih=>
    intro c hc hx;have h0:=hx 0 e rfl;simp only[Nat.zero_mul,List.drop_zero] at h0;rw[List.flatten_cons,List.length_cons,Nat.add_mul,Nat.one_mul,Nat.add_comm,List.take_add,h0]
    congr 1
    simp only[List.length_cons,Nat.add_mul,Nat.one_mul] at hc;refine ih (c.drop s) (by simp;omega) fun i e hi=>?_;rw[List.drop_drop,←hx (i+1) e (by simpa using hi),Nat.add_mul,Nat.one_mul,Nat.add_comm]
  refine key es (c.drop off) (by simp;omega) fun i e hi=>?_;rw[List.drop_drop];exact he i e hi
theorem Acc.append {P:Pv} {N:Nat} {st:St} {s:Nat} {x y:D} {es ys:List (List D)} (hr:Acc N st s x es) (hy:Rows st s y ys) {t1 t2 e:TypeId} {td:TypeDesc} {inf:TypeInfo} {z:List D}
  (h1:P.cx t1=some (.slice e)) (h2:P.cx t2=some td) (h3:fH td=false) (h4:P.info e=some inf) (h5:dj P e=some z) (h6:inf.size=s) (h7:z.length=s) (h8:inf.bytes≠0)
  (hN:N≤st.bs.length) (hf:st.flr≤N) (fg:st.ro≤N) (hb:(es.length+ys.length)*inf.bytes≤1099511627776):
  ∃x' ai,bB P .append [t1,t2] [x,y] st=some (x',ai)∧Acc N ai s x' (es++ys)∧Ex N st ai∧x'.ref≤ai.bs.length∧(∀k,k<st.bs.length→k+1≠x.ref→ai.bs[k]?=st.bs[k]?)∧(x'.ref=x.ref∨st.bs.length<x'.ref):=by
 have jg:=hy.row
 have zE:∀e∈ys,e.length=s:=fun e he=>by
  obtain⟨i,hi⟩:=List.getElem?_of_mem he;exact hy.rQ i e hi
 have nh:=cN zE;subst h6;simp only[bB,gp,h1,h2,h3,Bool.false_eq_true,if_false,h4,h5,jg,Option.bind_some];rw[if_neg (by rintro(h|h|h);exact h nh;exact h8 h;exact h h7)]
 cases hr with
 |nul=>
  simp only[List.nil_append]
  by_cases h0:ys.length=0
  ·rw[if_pos h0]
   have:ys=[]:=by cases ys with|nil=>rfl|cons _ _=>simp at h0
   subst this;exact⟨.nul,st,rfl,.nul,Ex.refl _ _,by simp[D.ref],fun _ _ _=>rfl,.inl rfl⟩
  ·rw[if_neg h0,if_pos (by simpa using hb)];refine⟨_,_,rfl,?_,Ex.push hN _,by simp[D.ref,St.push],fun k hk _=>by simp only[St.push];rw[List.getElem?_append_left hk],.inr (by simp[D.ref])⟩;exact .win _ _ ys hN (by simp[St.push]) zE
 |win k aC es hk hm he=>
  have nE:k<st.bs.length:=by
   rcases Nat.lt_or_ge k st.bs.length with h'|h'
   ·exact h'
   ·rw[List.getElem?_eq_none h'] at hm;cases hm
  simp only[St.mem_of hm];rw[if_neg (by rintro(h|h);exact h rfl;rw[cN he] at h;omega)]
  by_cases h0:ys.length=0
  ·rw[if_pos h0]
   have:ys=[]:=by cases ys with|nil=>rfl|cons _ _=>simp at h0
   subst this;simp only[List.append_nil];exact⟨_,st,rfl,.win k aC es hk hm he,Ex.refl _ _,by simp only[D.ref];omega,fun _ _ _=>rfl,.inl rfl⟩
  ·rw[if_neg h0,if_pos ⟨hb,by simp only[St.iX,Bool.and_eq_true,Bool.or_eq_true,decide_eq_true_eq];exact⟨by omega,.inl (by omega)⟩⟩];refine⟨_,_,rfl,?_,Ex.set hk _,by simp only[D.ref,List.length_set];omega,fun j hj hne=>by simp only;rw[List.getElem?_set_ne (by simp only[D.ref] at hne;omega)],.inl rfl⟩
   have:(es.flatten.take (0+es.length*inf.size)).drop 0++ys.flatten=(es++ys).flatten:=by
    rw[Nat.zero_add,←cN he,List.take_length,List.drop_zero,List.flatten_append]
   rw[this];have AY:es.length+ys.length=(es++ys).length:=by simp
   rw[AY]
   exact .win k (aC+1) (es++ys) hk (by simp[nE]) fun e h=>by
    rcases List.mem_append.1 h with h|h
    ·exact he e h
    ·exact zE e h
def ch:D→Bool
 | .bool _| .int _ _| .str _| .sl _=>true
 |_=>false
theorem iO {st:St} {N n:Nat}:∀{l:List D},(∀d∈l,ch d=true)→ir (ef st N (n+1)) l=some l
 |[],_=>rfl
 |d::l,h=>by
  have h1:=h d (List.mem_cons_self ..);have h2:=iO (st:=st) (N:=N) (n:=n) fun x hx=>h x (List.mem_cons_of_mem _ hx);have h3:ef st N (n+1) d=some d:=by cases d<;>simp[ch] at h1<;>rfl
  simp only[ir,h3,h2]
def ke (s:Nat) (e:List D):D:=match s with|1=>e.headD .bA|_=>.agg e
theorem fK {s:Nat}:∀{es:List (List D)},(∀e∈es,e.length=s)→chunk s es.length es.flatten=es.map (ke s)
 |[],_=>rfl
 |e::es,h=>by
  have he:=h e (List.mem_cons_self ..);have ih:=fK (s:=s) (es:=es) fun x hx=>h x (List.mem_cons_of_mem _ hx);simp only[List.length_cons,chunk,List.flatten_cons,List.map_cons]
  congr 1
  ·by_cases hs:s=1
   ·subst hs
    cases e with
    |nil=>simp at he
    |cons x xs=>simp[ke]
   ·have h1:ke s e=.agg e:=by unfold ke;split;exact absurd rfl hs;rfl
    have h2:(match s with|1=>(e++es.flatten).headD .bA|_=>D.agg ((e++es.flatten).take s))=.agg e:=by
     split
     ·exact absurd rfl hs
     ·rw[List.take_left' he]
    rw[h1];exact h2
  ·rw[List.drop_left' he];exact ih
theorem Acc.freeze {N:Nat} {st:St} {s:Nat} {x:D} {es:List (List D)} (h:Acc N st s x es) (hp:∀e∈es,∀d∈e,ch d=true) {n:Nat} (hn:2≤n):bI st N false (n+1) x=some (.sl (es.map (ke s))):=by
 obtain⟨n,rfl⟩:∃m,n=m+2:=⟨n-2,by omega⟩
 cases h with
 |nul=>rfl
 |win k aC es hN hm he=>
  show(if k<N then some (D.win k aC 0 es.length s) else ef st N (n+2) (.win k aC 0 es.length s))=_;rw[if_neg (show¬k<N by omega),ef];simp only[if_neg (show¬k<N by omega),St.mem_of hm,Option.bind_some];rw[if_pos (by rw[cN he];omega)];have:(es.flatten.drop 0).take (es.length*s)=es.flatten:=by rw[List.drop_zero,←cN he,List.take_length]
  rw[this,iO (fun d hd=>by
   obtain⟨e,oX,w6⟩:=List.mem_flatten.1 hd
   exact hp e oX d w6)]
  simp only[Option.map_some,fK he]
theorem kc {s:Nat} {e:List D} (h:e.length=s) (hp:∀d∈e,ch d=true):(ke s e).cells?=some (ke s e).cells∧(ke s e).cells=e:=by
 by_cases hs:s=1
 ·subst hs
  match e,h with
  |[x],_=>
   have:=hp x (List.mem_cons_self ..);cases x<;>simp[ch] at this<;>exact⟨rfl,rfl⟩
 ·have:ke s e=.agg e:=by unfold ke;split;exact absurd rfl hs;rfl
  rw[this];exact⟨rfl,rfl⟩
theorem Rows.n9 {st:St} {s:Nat} {es:List (List D)} (h:∀e∈es,e.length=s) (hp:∀e∈es,∀d∈e,ch d=true):Rows st s (.sl (es.map (ke s))) es:=by
 have:=Rows.sl (st:=st) (s:=s) (es.map (ke s)) fun d hd=>by
  obtain⟨e,he,rfl⟩:=List.mem_map.1 hd;obtain⟨h1,h2⟩:=kc (h e he) (hp e he);exact⟨h1,by rw[h2];exact h e he⟩
 have h2:(es.map (ke s)).map D.cells=es:=by
  rw[List.map_map]
  conv=>rhs;rw[←List.map_id es]
  refine List.map_congr_left fun e he=>?_;exact(kc (h e he) (hp e he)).2
 rwa [h2] at this
theorem Rows.bs {st ai:St} (h:ai.bs=st.bs) {s:Nat} {x:D} {es:List (List D)} (hr:Rows st s x es):Rows ai s x es:=by
 cases hr with
 |nul=>exact .nul
 |sl es h=>exact .sl es h
 |win k aC off es ar c hm hl he=>exact .win k aC off es ar c (by simp only[St.dN,h] at hm⊢;exact hm) hl he
theorem Ak (m:Mode) (st:St):(aj m st).bs=st.bs:=by cases m<;>rfl
theorem Rows.enter {st:St} {s:Nat} {x:D} {es:List (List D)} (m:Mode) (hr:Rows st s x es):Rows (aj m st) s x es:=hr.bs (Ak m st)
theorem cA {k:IntKind} {m:Nat} (h:m≤hO k):bH k (m:Int)=m:=by
 show bH k (.ofNat m)=_;unfold bH;simp only[Nat.ble_eq_true_of_le h];rfl
theorem wrap_i64 {n : Int} (h1 : -9223372036854775808 ≤ n) (h2 : n ≤ 9223372036854775807) : bH .i64 n = n := by
  cases n with
  | ofNat m => exact cA (k := .i64) (m := m) (by simp only [hO]; have : (Int.ofNat m) = (m : Int) := rfl; omega)
  | negSucc m =>
    unfold bH
    have : Nat.ble (rk .i64) m = false := by
      cases hb : Nat.ble (rk .i64) m with
      | false => rfl
      | true => have := Nat.le_of_ble_eq_true hb; simp only [rk] at this; have : Int.negSucc m = -(m : Int) - 1 := by omega
                omega
    simp only [this]
theorem bv_and {w a b:Nat} (ha:a<2^w) (hb:b<2^w):(BitVec.ofInt w (a:Int) &&&BitVec.ofInt w (b:Int)).toNat=a &&&b:=by
 rw[BitVec.ofInt_natCast,BitVec.ofInt_natCast,BitVec.toNat_and,BitVec.toNat_ofNat,BitVec.toNat_ofNat,Nat.mod_eq_of_lt ha,Nat.mod_eq_of_lt hb]
theorem Fk {w a b:Nat} (ha:a<2^w) (hb:b<2^w):(BitVec.ofInt w (a:Int)|||BitVec.ofInt w (b:Int)).toNat=a|||b:=by
 rw[BitVec.ofInt_natCast,BitVec.ofInt_natCast,BitVec.toNat_or,BitVec.toNat_ofNat,BitVec.toNat_ofNat,Nat.mod_eq_of_lt ha,Nat.mod_eq_of_lt hb]
end Go.V
namespace Go.V
theorem b6 {a b:Int} (h:a=b):(a==b)=true:=by simp[h]
theorem cP {a b:Int} (h:a≠b):(a==b)=false:=by simp[h]
theorem b5 {a b:Int} (h:a≠b):(a !=b)=true:=by simp[h]
theorem cO {a b:Int} (h:a=b):(a !=b)=false:=by simp[h]
variable{P:Pv} {ops:Array Oper} {rest:List Oper} {n:Nat} {loc:List D} {tmp:List (Nat×D)} {st:St} {Q:Fr→St→Prop} {ty:TypeId} {p:String} {a:Array Edge} {g:Option (Nat×Bool)} {dst:Nat}
theorem ae.len {t e:TypeId} {xo:Operand} {x:D} {s:Nat} {es:List (List D)} (kQ:Nat.ble n dst=true) (hg:aG ops ⟨n,loc,tmp⟩ ⟨some dst,.call ⟨.builtin .len,#[xo],#[t]⟩,ty,p,a,g⟩=some true) (hx:Fr.ev ⟨n,loc,tmp⟩ xo=x) (hR:Rows st s x es) (ht:P.cx t=some (.slice e))
  (h:ae P ops rest ⟨n,loc,(dst,(.int .i64 (es.length:Nat)))::tmp⟩ st Q):ae P ops (⟨some dst,.call ⟨.builtin .len,#[xo],#[t]⟩,ty,p,a,g⟩::rest) ⟨n,loc,tmp⟩ st Q:=by
 refine ae.T kQ hg rfl (d:=.int .i64 (es.length:Nat)) (st1:=st) ?_ h;simp only[di,List.map_cons,List.map_nil,hx];exact hR.EZ ht
theorem ae.slice {t e:TypeId} {xo:Operand} {lo hi:Option Operand} {x:D} {s:Nat} {es:List (List D)} {l r:Nat} (kQ:Nat.ble n dst=true) (hg:aG ops ⟨n,loc,tmp⟩ ⟨some dst,.slice t xo lo hi none,ty,p,a,g⟩=some true) (hx:Fr.ev ⟨n,loc,tmp⟩ xo=x) (hR:Rows st s x es) (ht:P.cx t=some (.slice e)) (hs:bT P e=some s)
  (hb:cI es.length (lo.map (Fr.ev ⟨n,loc,tmp⟩)) (hi.map (Fr.ev ⟨n,loc,tmp⟩))=some (l,r)) (wW:l≤r∧r≤es.length)
  (h:∀y,Rows st s y ((es.take r).drop l)→y.ref≤x.ref→ae P ops rest ⟨n,loc,(dst,y)::tmp⟩ st Q):ae P ops (⟨some dst,.slice t xo lo hi none,ty,p,a,g⟩::rest) ⟨n,loc,tmp⟩ st Q:=by
 obtain⟨y,h1,h2,h3⟩:=hR.slice ht hs hb wW;refine ae.T kQ hg rfl (d:=y) (st1:=st) ?_ (h y h2 h3);simp only[di,hx,h1,Option.map_some]
theorem ae.append {N:Nat} {t1 t2 e:TypeId} {td:TypeDesc} {inf:TypeInfo} {z:List D} {xo yo:Operand} {x y:D} {s:Nat} {es ys:List (List D)} (kQ:Nat.ble n dst=true) (hg:aG ops ⟨n,loc,tmp⟩ ⟨some dst,.call ⟨.builtin .append,#[xo,yo],#[t1,t2]⟩,ty,p,a,g⟩=some true)
  (hx:Fr.ev ⟨n,loc,tmp⟩ xo=x) (hy:Fr.ev ⟨n,loc,tmp⟩ yo=y) (hr:Acc N st s x es) (ja:Rows st s y ys)
  (h1:P.cx t1=some (.slice e)) (h2:P.cx t2=some td) (h3:fH td=false) (h4:P.info e=some inf) (h5:dj P e=some z) (h6:inf.size=s) (h7:z.length=s) (h8:inf.bytes≠0)
  (hN:N≤st.bs.length) (hf:st.flr≤N) (fg:st.ro≤N) (hb:(es.length+ys.length)*inf.bytes≤1099511627776)
  (h:∀x' ai,Acc N ai s x' (es++ys)→Ex N st ai→x'.ref≤ai.bs.length→(∀k,k<st.bs.length→k+1≠x.ref→ai.bs[k]?=st.bs[k]?)→(x'.ref=x.ref∨st.bs.length<x'.ref)→ae P ops rest ⟨n,loc,(dst,x')::tmp⟩ ai Q):
  ae P ops (⟨some dst,.call ⟨.builtin .append,#[xo,yo],#[t1,t2]⟩,ty,p,a,g⟩::rest) ⟨n,loc,tmp⟩ st Q:=by
 obtain⟨x',ai,q1,q2,q3,q4,q5,q6⟩:=hr.append ja h1 h2 h3 h4 h5 h6 h7 h8 hN hf fg hb;refine ae.T kQ hg rfl (d:=x') (st1:=ai) ?_ (h x' ai q2 q3 q4 q5 q6);simp only[di,List.map_cons,List.map_nil,hx,hy];exact q1
theorem Rows.one {st:St} {s:Nat} {c:List D} (hc:c.length=s):Rows (st.push (.mem 0 true c)) s (.win st.bs.length 0 0 1 s) [c]:=by
 have:=Rows.win (st:=st.push (.mem 0 true c)) (s:=s) st.bs.length 0 0 [c] true c (St.mem_of (by simp[St.push])) (by simp[hc]) fun i e hi=>by
  cases i with
  |zero=>simp at hi;subst hi;simp[←hc]
  |succ i=>simp at hi
 exact this
theorem Rows.ref {st:St} {s:Nat} {x:D} {es:List (List D)} (h:Rows st s x es):x.ref≤st.bs.length:=by
 cases h with
 |nul=>simp[D.ref]
 |sl es h=>simp[D.ref]
 |win k aC off es ar c hm hl he=>
  simp only[D.ref]
  rcases Nat.lt_or_ge k st.bs.length with h'|h'
  ·exact h'
  ·simp only[St.dN,List.getElem?_eq_none h'] at hm;cases hm
theorem Acc.ref {N:Nat} {st:St} {s:Nat} {x:D} {es:List (List D)} (h:Acc N st s x es):x.ref≤st.bs.length:=h.rows.ref
end Go.V
namespace Go.V
theorem fv:∀(xs c:List D) (off:Nat),off+xs.length≤c.length→setMany c off xs=c.take off++xs++c.drop (off+xs.length)
 |[],c,off,h=>by simp[setMany]
 |x::xs,c,off,h=>by
  simp only[setMany];simp only[List.length_cons] at h;rw[fv xs (c.set off x) (off+1) (by simp;omega)]
  have h1:(c.set off x).take (off+1)=c.take off++[x]:=by
   rw[List.take_set,List.take_add_one,List.getElem?_eq_getElem (by omega:off<c.length)];simp only[Option.toList_some];rw[List.set_append_right _ _ (by simp;omega)];have:off-(c.take off).length=0:=by simp;omega
   rw[this];rfl
  have h2:(c.set off x).drop (off+1+xs.length)=c.drop (off+(xs.length+1)):=by
   rw[List.drop_set_of_lt (by omega)];congr 1;omega
  rw[h1,h2];simp[List.length_cons]
theorem tc {st:St} {b b':gL} {k:Nat} (hk:k=st.bs.length):(⟨(st.push b).bs.set k b',(st.push b).flr,(st.push b).ro⟩:St)=st.push b':=by
 subst hk;simp[St.push,List.set_append_right]
theorem iK (st:St) (b:gL):(st.push b).bs[st.bs.length]?=some b:=by simp[St.push]
variable{P:Pv} {ops:Array Oper} {rest:List Oper} {n:Nat} {loc:List D} {tmp:List (Nat×D)} {st:St} {Q:Fr→St→Prop} {ty:TypeId} {p:String} {a:Array Edge} {g:Option (Nat×Bool)} {dst:Nat}
theorem ae.makeSlice {t e:TypeId} {lo co:Operand} {k1 k2:IntKind} {m:Nat} {inf:TypeInfo} {z:List D} (kQ:Nat.ble n dst=true) (hg:aG ops ⟨n,loc,tmp⟩ ⟨some dst,.makeSlice t lo co,ty,p,a,g⟩=some true)
  (hl:Fr.ev ⟨n,loc,tmp⟩ lo=.int k1 (m:Nat)) (hc:Fr.ev ⟨n,loc,tmp⟩ co=.int k2 (m:Nat)) (ht:P.cx t=some (.slice e)) (hi:P.info e=some inf) (hz:dj P e=some z) (lT:z.length=inf.size) (hm:m*inf.bytes≤140737488355328) (vx:m≤9223372036854775807)
  (h:ae P ops rest ⟨n,loc,(dst,.win st.bs.length 0 0 m inf.size)::tmp⟩ (st.push (.mem 0 true (gZ m z))) Q):ae P ops (⟨some dst,.makeSlice t lo co,ty,p,a,g⟩::rest) ⟨n,loc,tmp⟩ st Q:=by
 refine ae.T kQ hg rfl (d:=.win st.bs.length 0 0 m inf.size) (st1:=st.push (.mem 0 true (gZ m z))) ?_ h;simp only[di,hl,hc,fz,ht,hi,hz,Option.bind_some];rw[if_pos ⟨lT,by omega,by omega,by omega,by rw[←Int.natCast_mul];omega⟩]
 rfl
theorem lV {k aC off:Nat} {ar:Bool} {c cs:List D} (hm:st.bs[k]?=some (.mem aC ar c)) (hl:off+cs.length≤c.length) (hw:st.iX k (refs cs)=true):st.wr k aC off cs=some {st with bs:=st.bs.set k (.mem aC ar (c.take off++cs++c.drop (off+cs.length)))}:=by
 simp only[St.wr,St.mem_of hm];rw[if_pos ⟨hl,hw⟩,fv _ _ _ hl]
theorem uo {N k r:Nat} (hk:N≤k) (hf:st.flr≤N) (fg:st.ro≤N):st.iX k r=true:=by
 simp only[St.iX,Bool.and_eq_true,Bool.or_eq_true,decide_eq_true_eq];exact⟨by omega,.inl (by omega)⟩
theorem ae.copy {t1 t2 e:TypeId} {Qs so:Operand} {k aC off len s:Nat} {y:D} {ys:List (List D)} {ar:Bool} {c:List D} (kQ:Nat.ble n dst=true) (hg:aG ops ⟨n,loc,tmp⟩ ⟨some dst,.call ⟨.builtin .copy,#[Qs,so],#[t1,t2]⟩,ty,p,a,g⟩=some true)
  (hd:Fr.ev ⟨n,loc,tmp⟩ Qs=.win k aC off len s) (hy:Fr.ev ⟨n,loc,tmp⟩ so=y) (hR:Rows st s y ys) (ht:P.cx t1=some (.slice e)) (hs:bT P e=some s) (hm:st.bs[k]?=some (.mem aC ar c)) (hl:off+len*s≤c.length)
  (hw:st.iX k (refs (ys.flatten.take (min ys.length len*s)))=true)
  (h:ae P ops rest ⟨n,loc,(dst,.int .i64 (min ys.length len:Nat))::tmp⟩ {st with bs:=st.bs.set k (.mem aC ar (c.take off++ys.flatten.take (min ys.length len*s)++c.drop (off+min ys.length len*s)))} Q):
  ae P ops (⟨some dst,.call ⟨.builtin .copy,#[Qs,so],#[t1,t2]⟩,ty,p,a,g⟩::rest) ⟨n,loc,tmp⟩ st Q:=by
 have zE:∀e∈ys,e.length=s:=fun e he=>by
  obtain⟨i,hi⟩:=List.getElem?_of_mem he;exact hR.rQ i e hi
 have nh:=cN zE;have Es:min ys.length len*s≤ys.length*s:=Nat.mul_le_mul_right s (Nat.min_le_left _ _);have RB:min ys.length len*s≤len*s:=Nat.mul_le_mul_right s (Nat.min_le_right _ _);have xZ:(ys.flatten.take (min ys.length len*s)).length=min ys.length len*s:=by rw[List.length_take,nh];omega
 refine ae.T kQ hg rfl (d:=.int .i64 (min ys.length len:Nat)) (st1:={st with bs:=st.bs.set k (.mem aC ar (c.take off++ys.flatten.take (min ys.length len*s)++c.drop (off+min ys.length len*s)))}) ?_ h;simp only[di,List.map_cons,List.map_nil,hd,hy,bB,pY,ht,hs,Option.bind_some,hR.row];rw[if_neg (by simp[nh])];simp only[ne_eq,not_true_eq_false,if_false];have:=lV (st:=st) hm (cs:=ys.flatten.take (min ys.length len*s)) (off:=off) (by rw[xZ];omega) hw;rw[this,xZ];rfl
theorem mem_push (st:St) (v:Nat) (a:Bool) (c:List D):(st.push (.mem v a c)).dN st.bs.length v=some (a,c):=St.mem_of (iK st _)
theorem ae.store {fr:Fr} {t:TypeId} {ao vo:Operand} {k aC off:Nat} {v:D} {cs:List D} {ar:Bool} {c:List D} (hg:aG ops fr ⟨none,.store t ao vo,ty,p,a,g⟩=some true) (ha:fr.ev ao=.ptr k aC off) (hv:fr.ev vo=v)
  (jc:v.cells?=some cs) (hs:bT P t=some cs.length) (hm:st.bs[k]?=some (.mem aC ar c)) (hl:off+cs.length≤c.length) (hw:st.iX k (refs cs)=true)
  (h:ae P ops rest fr {st with bs:=st.bs.set k (.mem aC ar (c.take off++cs++c.drop (off+cs.length)))} Q):ae P ops (⟨none,.store t ao vo,ty,p,a,g⟩::rest) fr st Q:=by
 refine ae.N hg rfl (d:=.tup []) (st1:=_) ?_ h;simp only[di,ha,hv,jr,jc,hs];rw[if_pos trivial,lV hm hl hw];rfl
theorem ae.load {t:TypeId} {ao:Operand} {k aC off:Nat} {d:D} {ar:Bool} {c:List D} (kQ:Nat.ble n dst=true) (hg:aG ops ⟨n,loc,tmp⟩ ⟨some dst,.load t ao,ty,p,a,g⟩=some true) (ha:Fr.ev ⟨n,loc,tmp⟩ ao=.ptr k aC off)
  (hm:st.bs[k]?=some (.mem aC ar c)) (hd:dn P t (c.drop off)=some d)
  (h:ae P ops rest ⟨n,loc,(dst,d)::tmp⟩ st Q):ae P ops (⟨some dst,.load t ao,ty,p,a,g⟩::rest) ⟨n,loc,tmp⟩ st Q:=by
 refine ae.T kQ hg rfl (d:=d) (st1:=st) ?_ h;simp only[di,ha,eU,St.mem_of hm,Option.bind_some,hd,Option.map_some]
theorem ae.next {io:Operand} {k pos:Nat} {b:List UInt8} (kQ:Nat.ble n dst=true) (hg:aG ops ⟨n,loc,tmp⟩ ⟨some dst,.next io true,ty,p,a,g⟩=some true) (hx:Fr.ev ⟨n,loc,tmp⟩ io=.ptr k 0 0) (hm:st.bs[k]?=some (.iter b pos)) (hp:pos<b.length) (hw:st.iX k 0=true)
  (h:ae P ops rest ⟨n,loc,(dst,.tup [.bool true,.int .i64 (pos:Nat),.int .i32 ((Utf8.decode ⟨b.toArray⟩ pos).1:Nat)])::tmp⟩ {st with bs:=st.bs.set k (.iter b (pos+(Utf8.decode ⟨b.toArray⟩ pos).2))} Q):ae P ops (⟨some dst,.next io true,ty,p,a,g⟩::rest) ⟨n,loc,tmp⟩ st Q:=by
 refine ae.T kQ hg rfl (d:=.tup [.bool true,.int .i64 (pos:Nat),.int .i32 ((Utf8.decode ⟨b.toArray⟩ pos).1:Nat)]) (st1:={st with bs:=st.bs.set k (.iter b (pos+(Utf8.decode ⟨b.toArray⟩ pos).2))}) ?_ h;simp only[di,hx,pA,hm,if_pos hp,hw,if_true]
structure Fm (N k:Nat) (st ai:St):Prop where
 low:∀i,i<N→i≠k→ai.bs[i]?=st.bs[i]?
 len:st.bs.length≤ai.bs.length
 flr:ai.flr=st.flr
 ro:ai.ro=st.ro
theorem Fm.of {N k:Nat} {a b c:St} (h:Fm N k a b) (g:Ex N b c):Fm N k a c:=
 ⟨fun i hi hk=>(g.low i hi).trans (h.low i hi hk),Nat.le_trans h.len g.len,g.flr.trans h.flr,g.ro.trans h.ro⟩
theorem Fm.put {N k:Nat} {a b:St} (h:Fm N k a b) (bx:gL):Fm N k a ⟨b.bs.set k bx,b.flr,b.ro⟩:=
 ⟨fun i hi hk=>by simp only;rw[List.getElem?_set_ne (fun e=>hk e.symm)];exact h.low i hi hk,by simp only[List.length_set];exact h.len,h.flr,h.ro⟩
theorem Fm.take {k:Nat} {a b:St} (h:Fm a.bs.length k a b) (hk:k<a.bs.length) {bx:gL} (hb:b.bs[k]?=some bx):b.bs.take a.bs.length=a.bs.set k bx:=by
 apply List.ext_getElem?;intro i;rw[List.getElem?_take]
 by_cases hi:i<a.bs.length
 ·rw[if_pos hi]
  by_cases he:i=k
  ·subst he;rw[hb,List.getElem?_set_self hk]
  ·rw[h.low i hi he,List.getElem?_set_ne (fun e=>he e.symm)]
 ·rw[if_neg hi,List.getElem?_eq_none (by simp;omega)]
end Go.V
namespace Go.V
variable{P:Pv} {ops:Array Oper} {rest:List Oper} {n:Nat} {loc:List D} {tmp:List (Nat×D)} {st:St} {Q:Fr→St→Prop} {ty:TypeId} {p:String} {a:Array Edge} {g:Option (Nat×Bool)} {dst:Nat}
end Go.V
namespace Go.V
structure cz where
 K:Nat→Prop
 P:St→Prop
 loc:∀{st ai:St},(∀k,K k→ai.bs[k]?=st.bs[k]?)→P st→P ai
def cz.box (k:Nat) (b:gL):cz:=⟨fun j=>j=k,fun st=>st.bs[k]?=some b,fun h p=>(h k rfl).trans p⟩
inductive gr (st:St) (s:Nat):D→List (List D)→Prop where
 |nul:gr st s .nul []
 |win (k aC off:Nat) (es:List (List D)) (c:List D) (hm:st.bs[k]?=some (.mem aC true c)) (hl:off+es.length*s≤c.length) (hc:(c.drop off).take (es.length*s)=es.flatten) (he:∀e∈es,e.length=s):gr st s (.win k aC off es.length s) es
theorem gr.move {st ai:St} {s:Nat} {x:D} {es:List (List D)} (h:∀k,x.ref=k+1→ai.bs[k]?=st.bs[k]?) (p:gr st s x es):gr ai s x es:=by
 cases p with
 |nul=>exact .nul
 |win k aC off es c hm hl hc he=>exact .win k aC off es c ((h k (by simp only[D.ref])).trans hm) hl hc he
def cz.aT (x:D) (s:Nat) (es:List (List D)):cz:=⟨fun j=>x.ref=j+1,fun st=>gr st s x es,fun h p=>gr.move h p⟩
theorem gr.rQ {st:St} {s:Nat} {x:D} {es:List (List D)} (p:gr st s x es):∀e∈es,e.length=s:=by
 cases p with
 |nul=>intro e he;cases he
 |win k aC off es c hm hl hc he=>exact he
theorem gr.rows {st:St} {s:Nat} {x:D} {es:List (List D)} (p:gr st s x es):Rows st s x es:=by
 cases p with
 |nul=>exact .nul
 |win k aC off es c hm hl hc he=>
  refine .win k aC off es true c (St.mem_of hm) hl fun i e hi=>?_
  have hil:i<es.length:=by
   rcases Nat.lt_or_ge i es.length with h'|h'
   ·exact h'
   ·rw[List.getElem?_eq_none h'] at hi;cases hi
  have h1:=ka he i e hi;rw[←hc,List.drop_take,List.take_take,List.drop_drop] at h1;have h2:(i+1)*s≤es.length*s:=Nat.mul_le_mul_right s hil;rw[Nat.add_mul,Nat.one_mul] at h2
  rwa [Nat.min_eq_left (by omega)] at h1
structure Has (N:Nat) (S st:St) (H:List cz):Prop where
 ex:Ex N S st
 hN:N≤S.bs.length
 fg:S.ro≤N
 ok:∀(i:Nat) e,H[i]?=some e→e.P st∧∀k,e.K k→N≤k∧k<st.bs.length
 dis:∀(i j:Nat) a b,i≠j→H[i]?=some a→H[j]?=some b→∀k,a.K k→b.K k→False
theorem Has.start {N:Nat} {S:St} (hN:N≤S.bs.length) (fg:S.ro≤N):Has N S S []:=
 ⟨Ex.refl _ _,hN,fg,fun i e h=>by simp at h,fun i j a b _ h=>by simp at h⟩
theorem Has.len {N:Nat} {S st:St} {H:List cz} (h:Has N S st H):S.bs.length≤st.bs.length:=h.ex.len
theorem Has.xr {N:Nat} {S st ai:St} {H:List cz} {j:Nat} {e e':cz} (h:Has N S st H) (hj:H[j]?=some e)
  (vz:∀k,k<st.bs.length→¬e.K k→ai.bs[k]?=st.bs[k]?) (hlen:st.bs.length≤ai.bs.length) (hf:ai.flr=st.flr) (hr:ai.ro=st.ro)
  (hP:e'.P ai) (hK:∀k,e'.K k→e.K k∨st.bs.length≤k) (NX:∀k,e'.K k→k<ai.bs.length):Has N S ai (H.set j e'):=by
 have ng:j<H.length:=by
  rcases Nat.lt_or_ge j H.length with h'|h'
  ·exact h'
  ·rw[List.getElem?_eq_none h'] at hj;cases hj
 have hl:=h.ex.len;have hN:=h.hN;refine⟨⟨fun k hk=>?_,Nat.le_trans hl hlen,hf.trans h.ex.flr,hr.trans h.ex.ro⟩,h.hN,h.fg,fun i e0 hi=>?_,fun i i' a b hii ha hb k tS iD=>?_⟩
 ·rw[vz k (by omega) fun iU=>by have:=((h.ok j e hj).2 k iU).1;omega];exact h.ex.low k hk
 ·by_cases hij:i=j
  ·subst hij;rw[List.getElem?_set_self ng] at hi;cases hi;refine⟨hP,fun k hk=>⟨?_,NX k hk⟩⟩
   rcases hK k hk with h1|h1
   ·exact((h.ok i e hj).2 k h1).1
   ·omega
  ·rw[List.getElem?_set_ne (fun e=>hij e.symm)] at hi;obtain⟨h1,h2⟩:=h.ok i e0 hi;refine⟨e0.loc (fun k hk=>vz k (h2 k hk).2 fun iU=>h.dis i j e0 e hij hi hj k hk iU) h1,fun k hk=>⟨(h2 k hk).1,Nat.lt_of_lt_of_le (h2 k hk).2 hlen⟩⟩
 ·have key:∀i a,i≠j→(H.set j e')[i]?=some a→a.K k→e'.K k→False:=by
   intro i a hij ha tS UE;rw[List.getElem?_set_ne (fun e=>hij e.symm)] at ha
   rcases hK k UE with h1|h1
   ·exact h.dis i j a e hij ha hj k tS h1
   ·have:=((h.ok i a ha).2 k tS).2;omega
  by_cases hij:i=j
  ·subst hij;have eu:=hb;rw[List.getElem?_set_self ng] at ha;cases ha;exact key i' b (fun e=>hii e.symm) hb iD tS
  ·by_cases L8:i'=j
   ·subst L8;rw[List.getElem?_set_self ng] at hb;cases hb;exact key i a hij ha tS iD
   ·rw[List.getElem?_set_ne (fun e=>hij e.symm)] at ha;rw[List.getElem?_set_ne (fun e=>L8 e.symm)] at hb;exact h.dis i i' a b hii ha hb k tS iD
theorem Has.add {N:Nat} {S st ai:St} {H:List cz} {e':cz} (h:Has N S st H)
  (vz:∀k,k<st.bs.length→ai.bs[k]?=st.bs[k]?) (hlen:st.bs.length≤ai.bs.length) (hf:ai.flr=st.flr) (hr:ai.ro=st.ro)
  (hP:e'.P ai) (hK:∀k,e'.K k→st.bs.length≤k∧k<ai.bs.length):Has N S ai (e'::H):=by
 have hl:=h.ex.len;have hN:=h.hN;refine⟨⟨fun k hk=>?_,Nat.le_trans hl hlen,hf.trans h.ex.flr,hr.trans h.ex.ro⟩,h.hN,h.fg,fun i e0 hi=>?_,fun i i' a b hii ha hb k tS iD=>?_⟩
 ·rw[vz k (by omega)];exact h.ex.low k hk
 ·cases i with
  |zero=>
   simp only[List.getElem?_cons_zero,Option.some.injEq] at hi;subst hi;exact⟨hP,fun k hk=>⟨by have:=(hK k hk).1;omega,(hK k hk).2⟩⟩
  |succ i=>
   rw[List.getElem?_cons_succ] at hi;obtain⟨h1,h2⟩:=h.ok i e0 hi;exact⟨e0.loc (fun k hk=>vz k (h2 k hk).2) h1,fun k hk=>⟨(h2 k hk).1,Nat.lt_of_lt_of_le (h2 k hk).2 hlen⟩⟩
 ·cases i with
  |zero=>
   simp only[List.getElem?_cons_zero,Option.some.injEq] at ha;subst ha
   cases i' with
   |zero=>exact hii rfl
   |succ i'=>
    rw[List.getElem?_cons_succ] at hb;have:=((h.ok i' b hb).2 k iD).2;have:=(hK k tS).1;omega
  |succ i=>
   rw[List.getElem?_cons_succ] at ha
   cases i' with
   |zero=>
    simp only[List.getElem?_cons_zero,Option.some.injEq] at hb;subst hb;have:=((h.ok i a ha).2 k tS).2;have:=(hK k iD).1;omega
   |succ i'=>
    rw[List.getElem?_cons_succ] at hb;exact h.dis i i' a b (fun e=>hii (by rw[e])) ha hb k tS iD
theorem Has.sub {N:Nat} {S st:St} {H H':List cz} (h:Has N S st H) (f:Nat→Nat) (hf:∀i j,f i=f j→i=j) (hs:∀i e,H'[i]?=some e→H[f i]?=some e):Has N S st H':=
 ⟨h.ex,h.hN,h.fg,fun i e hi=>h.ok _ e (hs i e hi),fun i j a b hij ha hb=>h.dis (f i) (f j) a b (fun e=>hij (hf i j e)) (hs i a ha) (hs j b hb)⟩
theorem Has.erase {N:Nat} {S st:St} {H:List cz} (h:Has N S st H) (j:Nat):Has N S st (H.eraseIdx j):=by
 refine h.sub (fun i=>if i<j then i else i+1) (fun a b e=>?_) fun i e hi=>?_
 ·show a=b;have e':(if a<j then a else a+1)=(if b<j then b else b+1):=e
  split at e'<;>split at e'<;>omega
 ·show H[if i<j then i else i+1]?=some e;rw[List.getElem?_eraseIdx] at hi
  split at hi<;>rename_i h'<;>simp[h',hi]
theorem Has.take {N:Nat} {S st:St} {H:List cz} (h:Has N S st H) (n:Nat):Has N S st (H.take n):=by
 refine h.sub id (fun a b e=>e) fun i e hi=>?_;rw[List.getElem?_take] at hi;split at hi;exact hi;cases hi
theorem Has.drop {N:Nat} {S st:St} {H:List cz} (h:Has N S st H) (n:Nat):Has N S st (H.drop n):=by
 refine h.sub (fun i=>n+i) (fun a b e=>by omega) fun i e hi=>?_;rw[List.getElem?_drop] at hi;exact hi
theorem Has.front {N:Nat} {S st:St} {H:List cz} (h:Has N S st H) {j:Nat} {e:cz} (hj:H[j]?=some e):Has N S st (e::H.eraseIdx j):=by
 refine h.sub (fun i=>if i=0 then j else if i-1<j then i-1 else i) (fun a b e=>?_) fun i e' hi=>?_
 ·have e':(if a=0 then j else if a-1<j then a-1 else a)=(if b=0 then j else if b-1<j then b-1 else b):=e
  repeat' split at e'
  all_goals omega
 ·show H[if i=0 then j else if i-1<j then i-1 else i]?=some e'
  cases i with
  |zero=>rw[if_pos rfl];simp only[List.getElem?_cons_zero,Option.some.injEq] at hi;subst hi;exact hj
  |succ i=>
   rw[if_neg (by omega),Nat.add_sub_cancel];rw[List.getElem?_cons_succ,List.getElem?_eraseIdx] at hi
   split at hi<;>rename_i h'<;>simp[h',hi]
theorem Has.back {N:Nat} {S st:St} {H:List cz} {j:Nat} {e:cz} (h:Has N S st (e::H.eraseIdx j)) (hj:j<H.length):Has N S st (H.set j e):=by
 refine h.sub (fun i=>if i=j then 0 else if i<j then i+1 else i) (fun a b e=>?_) fun i e' hi=>?_
 ·have e':(if a=j then 0 else if a<j then a+1 else a)=(if b=j then 0 else if b<j then b+1 else b):=e
  repeat' split at e'
  all_goals omega
 ·show(e::H.eraseIdx j)[if i=j then 0 else if i<j then i+1 else i]?=some e'
  by_cases hij:i=j
  ·subst hij;rw[List.getElem?_set_self hj] at hi;rw[if_pos rfl];simpa using hi
  ·rw[List.getElem?_set_ne (fun e=>hij e.symm)] at hi;rw[if_neg hij]
   by_cases hlt:i<j
   ·rw[if_pos hlt,List.getElem?_cons_succ,List.getElem?_eraseIdx,if_pos hlt];exact hi
   ·rw[if_neg hlt]
    obtain⟨i',rfl⟩:∃i',i=i'+1:=⟨i-1,by omega⟩
    rw[List.getElem?_cons_succ,List.getElem?_eraseIdx,if_neg (by omega)];exact hi
theorem Has.fx {N:Nat} {S st:St} {H:List cz} (h:Has N S st H) (s:Nat):Has N S st (.aT .nul s []::H):=
 h.add (fun _ _=>rfl) (Nat.le_refl _) rfl rfl .nul fun k hk=>by simp only[cz.aT,D.ref] at hk;omega
theorem Has.own {N:Nat} {S st:St} {H:List cz} (h:Has N S st H) {j:Nat} {x:D} {s:Nat} {es:List (List D)} (hj:H[j]?=some (.aT x s es)):gr st s x es:=(h.ok j _ hj).1
theorem Has.rows {N:Nat} {S st:St} {H:List cz} (h:Has N S st H) {j:Nat} {x:D} {s:Nat} {es:List (List D)} (hj:H[j]?=some (.aT x s es)):Rows st s x es:=(h.own hj).rows
theorem Has.at {N:Nat} {S st:St} {H:List cz} (h:Has N S st H) {j k:Nat} {b:gL} (hj:H[j]?=some (.box k b)):st.bs[k]?=some b:=(h.ok j _ hj).1
theorem Has.ge {N:Nat} {S st:St} {H:List cz} (h:Has N S st H) {j k:Nat} {b:gL} (hj:H[j]?=some (.box k b)):N≤k∧k<st.bs.length:=(h.ok j _ hj).2 k rfl
def Arg (N:Nat) (S:St) (s:Nat) (x:D) (es:List (List D)):Prop:=Rows S s x es∧x.ref≤N
theorem Arg.rows {N:Nat} {S st:St} {H:List cz} {s:Nat} {x:D} {es:List (List D)} (hx:Arg N S s x es) (h:Has N S st H):Rows st s x es:=hx.1.ex h.ex hx.2
theorem Arg.of {st S:St} {s:Nat} {x:D} {es:List (List D)} (hx:Rows st s x es) (hS:S.bs=st.bs):Arg st.bs.length S s x es:=⟨hx.bs hS,hx.ref⟩
theorem Arg.pure {N:Nat} {S:St} {s:Nat} {es:List D} {rs:List (List D)} (hx:∀st,Rows st s (.sl es) rs):Arg N S s (.sl es) rs:=⟨hx S,by simp[D.ref]⟩
theorem jR {N:Nat} {S st:St} {H:List cz} (h:Has N S st H) {k:Nat} {cs:List D} (hk:N≤k) (hw:S.flr≤N∨refs cs=0):st.iX k (refs cs)=true:=by
 have h1:=h.ex.ro;have h2:=h.ex.flr;have h3:=h.fg;simp only[St.iX,Bool.and_eq_true,Bool.or_eq_true,decide_eq_true_eq];refine⟨by omega,?_⟩
 rcases hw with hw|hw
 ·exact .inl (by omega)
 ·exact .inr (.inl (by omega))
theorem Has.yO {N:Nat} {S st:St} {H:List cz} (h:Has N S st H) {j k aC:Nat} {b b':gL} (hj:H[j]?=some (.box k b)):Has N S ⟨st.bs.set k b',st.flr,st.ro⟩ (H.set j (.box k b')):=by
 have hk:=(h.ge hj).2;refine h.xr hj (fun i hi hne=>?_) (by simp) rfl rfl ?_ (fun i hi=>.inl hi) fun i hi=>?_
 ·simp only;rw[List.getElem?_set_ne (fun e=>hne e.symm)]
 ·show(st.bs.set k b')[k]?=_;rw[List.getElem?_set_self hk]
 ·cases hi;simpa using hk
theorem Has.wG {N:Nat} {S st:St} {H:List cz} (h:Has N S st H) (b:gL):Has N S (st.push b) (.box st.bs.length b::H):=by
 refine h.add (fun i hi=>?_) (by simp[St.push]) rfl rfl ?_ fun i hi=>?_
 ·simp only[St.push];rw[List.getElem?_append_left hi]
 ·exact iK st b
 ·cases hi;simp[St.push]
theorem Has.qY {N:Nat} {S st:St} {H:List cz} (h:Has N S st H) {s:Nat} {es:List (List D)} {cs:List D} {m:Nat} (hm:es.length=m) (hc:es.flatten=cs) (he:∀e∈es,e.length=s):Has N S (st.push (.mem 0 true cs)) (.aT (.win st.bs.length 0 0 m s) s es::H):=by
 subst hm hc;refine h.add (fun i hi=>?_) (by simp[St.push]) rfl rfl ?_ fun i hi=>?_
 ·simp only[St.push];rw[List.getElem?_append_left hi]
 ·have nh:=cN he;exact gr.win _ 0 0 es es.flatten (iK st _) (by rw[nh];omega) (by rw[List.drop_zero,←nh,List.take_length]) he
 ·simp only[cz.aT,D.ref] at hi;simp only[St.push,List.length_append,List.length_cons,List.length_nil];omega
theorem jt:∀(xs c:List D) (off:Nat),(setMany c off xs).length=c.length
 |[],c,off=>rfl
 |x::xs,c,off=>by simp only[setMany];rw[jt xs];simp
theorem mX {s:Nat}:∀{es:List (List D)} {i:Nat} {e e':List D},(∀e∈es,e.length=s)→es[i]?=some e→e'.length=s→(es.set i e').flatten=es.flatten.take (i*s)++e'++es.flatten.drop (i*s+s)
 |[],i,e,e',_,hi,_=>by simp at hi
 |x::es,0,e,e',h,hi,he=>by
  simp at hi;subst hi;have:=h x (List.mem_cons_self ..);simp[List.set_cons_zero,List.drop_left' this]
 |x::es,i+1,e,e',h,hi,he=>by
  have hx:=h x (List.mem_cons_self ..);have ih:=mX (s:=s) (es:=es) (i:=i) (e:=e) (e':=e') (fun y hy=>h y (List.mem_cons_of_mem _ hy)) (by simpa using hi) he;rw[List.set_cons_succ,List.flatten_cons,ih,List.flatten_cons,Nat.add_mul,Nat.one_mul,Nat.add_comm (i*s) s,←hx,List.take_length_add_append,Nat.add_assoc,List.drop_length_add_append];simp only[List.append_assoc];rw[Nat.add_comm (i*x.length) x.length]
theorem Has.wD {N:Nat} {S st:St} {H:List cz} (h:Has N S st H) {j k aC off len s:Nat} {es:List (List D)} {i o:Nat} {e cs:List D} (hj:H[j]?=some (.aT (.win k aC off len s) s es)) (hi:es[i]?=some e) (hl:o+cs.length≤s) (hw:S.flr≤N∨refs cs=0):
  ∃ai,st.wr k aC (off+i*s+o) cs=some ai∧Has N S ai (H.set j (.aT (.win k aC off len s) s (es.set i (setMany e o cs)))):=by
 have hk:=(h.ok j _ hj).2 k (by simp only[cz.aT,D.ref]);have hown:=h.own hj
 cases hown with
 |win k aC off es c hm hle hc he=>
  have hil:i<es.length:=by
   rcases Nat.lt_or_ge i es.length with h'|h'
   ·exact h'
   ·rw[List.getElem?_eq_none h'] at hi;cases hi
  have sr:=he e (List.mem_of_getElem? hi);have h2:(i+1)*s≤es.length*s:=Nat.mul_le_mul_right s hil;rw[Nat.add_mul,Nat.one_mul] at h2;refine⟨_,lV hm (by omega) (jR h hk.1 hw),?_⟩;refine h.xr hj (fun n hn hne=>?_) (by simp) rfl rfl ?_ (fun n hn=>.inl hn) fun n hn=>?_
  ·simp only;rw[List.getElem?_set_ne (fun e=>hne (by simp only[cz.aT,D.ref];omega))]
  ·have LW:∀e'∈es.set i (setMany e o cs),e'.length=s:=by
    intro e' oX
    rcases List.mem_or_eq_of_mem_set oX with h'|h'
    ·exact he e' h'
    ·rw[h',jt];exact sr
   have nh:es.flatten.length=es.length*s:=cN he;have:=gr.win (st:=⟨st.bs.set k (.mem aC true (c.take (off+i*s+o)++cs++c.drop (off+i*s+o+cs.length))),st.flr,st.ro⟩) (s:=s) k aC off (es.set i (setMany e o cs)) (c.take (off+i*s+o)++cs++c.drop (off+i*s+o+cs.length))
    (by simp only;rw[List.getElem?_set_self hk.2]) (by simp;omega) ?_ LW
   ·rw[List.length_set] at this;exact this
   ·rw[List.length_set,mX he hi (by rw[jt];exact sr),fv cs e o (by omega)]
    have e1:(c.take (off+i*s+o)++cs++c.drop (off+i*s+o+cs.length)).drop off=(c.drop off).take (i*s+o)++cs++(c.drop off).drop (i*s+o+cs.length):=by
     rw[List.append_assoc,List.drop_append_of_le_length (by simp;omega),List.drop_take,List.append_assoc,List.drop_drop]
     congr 3<;>omega
    rw[e1]
    have e2:(c.drop off).take (i*s+o)=es.flatten.take (i*s)++e.take o:=by
     have:(c.drop off).take (i*s+o)=es.flatten.take (i*s+o):=by
      rw[←hc,List.take_take,Nat.min_eq_left (by omega)]
     rw[this,List.take_add]
     congr 1
     have:=ka he i e hi;rw[←this,List.take_take,Nat.min_eq_left (by omega)]
    have e3:(List.drop (i*s+o+cs.length) (c.drop off)).take (es.length*s-(i*s+o+cs.length))=e.drop (o+cs.length)++es.flatten.drop (i*s+s):=by
     have:(List.drop (i*s+o+cs.length) (c.drop off)).take (es.length*s-(i*s+o+cs.length))=es.flatten.drop (i*s+o+cs.length):=by
      rw[←hc,List.drop_take]
     rw[this];have h4:=ka he i e hi;rw[←h4,List.drop_take];have:es.flatten.drop (i*s+o+cs.length)=(es.flatten.drop (i*s+o+cs.length)).take (s-(o+cs.length))++(es.flatten.drop (i*s+o+cs.length)).drop (s-(o+cs.length)):=(List.take_append_drop ..).symm;rw[this,List.drop_drop,List.drop_drop]
     congr 2
     ·congr 1;omega
     ·omega
    rw[e2]
    have wX:(es.flatten.take (i*s)++e.take o++cs).length=i*s+o+cs.length:=by
     simp only[List.length_append,List.length_take,nh,sr];omega
    rw[List.take_append,wX,e3,List.take_of_length_le (by rw[wX];omega)];simp[List.append_assoc]
  ·simp only[cz.aT,D.ref] at hn;simp only[List.length_set];omega
end Go.V
namespace Go.V
theorem aB {α:Type} {a:α} {l:List α}:(a::l)[0]?=some a:=rfl
theorem bu {α:Type} {a b:α} {l:List α}:(a::b::l)[1]?=some b:=rfl
theorem ez {α:Type} {a b c:α} {l:List α}:(a::b::c::l)[2]?=some c:=rfl
theorem gm {α:Type} {a b c d:α} {l:List α}:(a::b::c::d::l)[3]?=some d:=rfl
theorem iZ {α:Type} {a b c d e:α} {l:List α}:(a::b::c::d::e::l)[4]?=some e:=rfl
theorem qz {α:Type} {a b c d e f:α} {l:List α}:(a::b::c::d::e::f::l)[5]?=some f:=rfl
theorem Ko {α:Type} {a b c d e f g:α} {l:List α}:(a::b::c::d::e::f::g::l)[6]?=some g:=rfl
def wP (t:Nat):List (Nat×D)→Option D
 |[]=>none
 |(u,d)::l=>match Nat.beq t u with
  |true=>some d
  |false=>wP t l
def zh:Value→Option D
 | .int k n=>some (.int k n)
 | .bool b=>some (.bool b)
 | .string s=>some (.str s.data.toList)
 | .slice none 0 0=>some .nul
 | .pointer none=>some .pnil
 | .nilFunc=>some .nilfn
 | .nilIface=>some .nilif
 |_=>none
def Fr.R3 (f:Fr):Operand→Option D
 | .tmp t=>match Nat.ble f.n t with
  |false=>f.loc[t]?
  |true=>wP t f.tmp
 | .const v=>zh v
 | .func g=>some (.fn g [])
 | .global _=>none
theorem oe {t:Nat} {d:D}:∀{l:List (Nat×D)},wP t l=some d→look t l=d
 |(u,e)::l,h=>by
  unfold wP at h;unfold look
  split at h
  ·rename_i hb;cases h;simp only[hb]
  ·rename_i hb;simp only[hb];exact oe h
theorem wJ {d e:D}:∀{l:List D} {i:Nat},l[i]?=some d→nth e l i=d
 |x::l,0,h=>by simpa[nth] using h
 |x::l,i+1,h=>by rw[List.getElem?_cons_succ] at h;exact wJ (l:=l) h
 |[],i,h=>by simp at h
theorem ev {fr:Fr} {o:Operand} {d:D} (h:fr.R3 o=some d):fr.ev o=d:=by
 unfold Fr.R3 at h;unfold Fr.ev
 split at h
 ·unfold Fr.get
  split at h
  ·rename_i hb;simp only[hb];exact wJ h
  ·rename_i hb;simp only[hb];exact oe h
 ·unfold zh at h
  split at h<;>cases h<;>rfl
 ·cases h;rfl
 ·cases h
def jU (st:St) (p:D) (r:List D):Prop:=
 (∃k aC off ar c,p=.ptr k aC off∧st.dN k aC=some (ar,c)∧(c.drop off).take r.length=r)∨∃c,p=.ep c∧c.take r.length=r
def nr (x:D) (s:Nat) (i o:Nat) (p:D):Prop:=∃k aC off len,x=.win k aC off len s∧p=.ptr k aC (off+i*s+o)
theorem jX {P:Pv} {t:TypeId} {r c:List D} {d:D} (hc:c.take r.length=r) (h:dn P t r=some d):dn P t c=some d:=by
 have hlen:r.length≤c.length:=by have:=congrArg List.length hc;simp at this;omega
 unfold dn at h⊢
 cases hu:P.cx t with
 |none=>rw[hu] at h;cases h
 |some u=>
  rw[hu] at h;have key:∀n,n≤r.length→c.take n=r.take n:=fun n hn=>by rw[←hc,List.take_take,Nat.min_eq_left hn]
  cases u with
  |struct f=>
   simp only at h⊢
   cases hs:bT P t with
   |none=>rw[hs] at h;cases h
   |some n=>
    rw[hs] at h;simp only[Option.bind_some] at h⊢
    split at h
    ·rename_i hn;rw[if_pos (by omega),key n hn];exact h
    ·cases h
  |array m f=>
   simp only at h⊢
   cases hs:bT P t with
   |none=>rw[hs] at h;cases h
   |some n=>
    rw[hs] at h;simp only[Option.bind_some] at h⊢
    split at h
    ·rename_i hn;rw[if_pos (by omega),key n hn];exact h
    ·cases h
  |_=>
   simp only at h⊢
   cases r with
   |nil=>cases h
   |cons y r=>
    cases c with
    |nil=>simp at hlen
    |cons z c=>
     simp only[List.length_cons,List.take_succ_cons,List.cons.injEq] at hc;rw[←h];simp[hc.1]
theorem jU.load {P:Pv} {st:St} {p:D} {r:List D} (h:jU st p r) {t:TypeId} {d:D} (hd:dn P t r=some d):eU P t p st=some d:=by
 rcases h with⟨k,aC,off,ar,c,rfl,hm,hc⟩|⟨c,rfl,hc⟩
 ·simp only[eU,hm,Option.bind_some];exact jX hc hd
 ·simp only[eU];exact jX hc hd
theorem jU.field {P:Pv} {st:St} {p:D} {r:List D} (h:jU st p r) {t:TypeId} {fields:Array Field} {f:Nat} {fd:Field} {m:Nat} (ht:P.cx t=some (.struct fields)) (hf:fields[f]?=some fd) (hm:bT P fd.type=some m) (ky:m≠0):
  ∃p',dV P t p f=some p'∧jU st p' (r.drop fd.offset):=by
 have key:∀c:List D,c.take r.length=r→(c.drop fd.offset).take (r.drop fd.offset).length=r.drop fd.offset:=by
  intro c hc;rw[List.length_drop,←List.drop_take,hc]
 rcases h with⟨k,aC,off,ar,c,rfl,sk,hc⟩|⟨c,rfl,hc⟩
 ·refine⟨.ptr k aC (off+fd.offset),?_,.inl ⟨k,aC,off+fd.offset,ar,c,rfl,sk,?_⟩⟩
  ·simp only[dV,ht,hf,Option.bind_some,hm];rw[if_neg (by simp only[Option.some.injEq];exact ky)]
  ·rw[←List.drop_drop];exact key _ hc
 ·refine⟨.ep (c.drop fd.offset),?_,.inr ⟨_,rfl,key _ hc⟩⟩;simp only[dV,ht,hf,Option.bind_some,hm];rw[if_neg (by simp only[Option.some.injEq];exact ky)]
theorem Rows.Nr {P:Pv} {st:St} {s:Nat} {x:D} {es:List (List D)} (h:Rows st s x es) {t e:TypeId} (ht:P.cx t=some (.slice e)) (hs:bT P e=some s) {k:IntKind} {i:Nat} {r:List D} (hi:es[i]?=some r):
  ∃p,bR P t x (.int k (i:Nat)) st=some p∧jU st p r:=by
 have zI:=h.rQ _ _ hi
 cases h with
 |nul=>simp at hi
 |sl es h=>
  rw[List.getElem?_map] at hi;obtain⟨d,hd,rfl⟩:=Option.map_eq_some_iff.1 hi;obtain⟨h1,h2⟩:=h d (List.mem_of_getElem? hd);refine⟨.ep d.cells,?_,.inr ⟨_,rfl,List.take_length ..⟩⟩;simp only[bR,ht,hs,Option.bind_some,if_pos (show(0:Int)≤(i:Nat) by omega),Int.toNat_natCast,hd,h1,if_pos h2]
 |win k aC off es ar c hm hl he=>
  have hlt:i<es.length:=by
   rcases Nat.lt_or_ge i es.length with h'|h'
   ·exact h'
   ·rw[List.getElem?_eq_none h'] at hi;cases hi
  refine⟨.ptr k aC (off+i*s),?_,.inl ⟨k,aC,_,ar,c,rfl,hm,by rw[zI];exact he _ _ hi⟩⟩;simp only[bR,ht,hs,Option.bind_some,hm,Option.isSome_some];rw[if_pos ⟨trivial,by omega,by omega,trivial⟩];rfl
variable{P:Pv} {ops:Array Oper} {rest:List Oper} {fr aI:Fr} {st:St} {Q:Fr→St→Prop} {ty:TypeId} {pp:String} {a:Array Edge} {g:Option (Nat×Bool)} {dst:Nat} {N:Nat} {S:St} {H:List cz}
theorem ae.go {op:Op} {d:D} {st1:St} (hg:aG ops fr ⟨some dst,op,ty,pp,a,g⟩=some true) (hc:gD op=false) (h1:di P fr st op ty=some (d,st1)) (hp:fr.put dst d=aI)
  (h:ae P ops rest aI st1 Q):ae P ops (⟨some dst,op,ty,pp,a,g⟩::rest) fr st Q:=
 ae.op hg hc h1 (by show ae P ops rest (fr.put dst d) st1 Q;rw[hp];exact h)
theorem ae.Fb {j k aC off:Nat} {ar:Bool} {c:List D} {d:D} {t:TypeId} {ao:Operand} (hH:Has N S st H) (hg:aG ops fr ⟨some dst,.load t ao,ty,pp,a,g⟩=some true) (ha:fr.ev ao=.ptr k aC off) (hj:H[j]?=some (.box k (.mem aC ar c))) (hd:dn P t (c.drop off)=some d) (hp:fr.put dst d=aI)
  (h:ae P ops rest aI st Q):ae P ops (⟨some dst,.load t ao,ty,pp,a,g⟩::rest) fr st Q:=by
 refine ae.go hg rfl (d:=d) (st1:=st) ?_ hp h;simp only[di,ha,eU,St.mem_of (hH.at hj),Option.bind_some,hd,Option.map_some]
theorem ae.ow {j k aC off:Nat} {ar:Bool} {c cs:List D} {v:D} {t:TypeId} {ao vo:Operand} (hH:Has N S st H) (hg:aG ops fr ⟨none,.store t ao vo,ty,pp,a,g⟩=some true) (ha:fr.ev ao=.ptr k aC off) (hv:fr.ev vo=v) (jc:v.cells?=some cs) (hs:bT P t=some cs.length) (hj:H[j]?=some (.box k (.mem aC ar c))) (hl:off+cs.length≤c.length) (hw:S.flr≤N∨refs cs=0)
  (h:∀ai,Has N S ai (H.set j (.box k (.mem aC ar (setMany c off cs))))→ae P ops rest fr ai Q):ae P ops (⟨none,.store t ao vo,ty,pp,a,g⟩::rest) fr st Q:=by
 refine ae.N hg rfl (d:=.tup []) (st1:=⟨st.bs.set k (.mem aC ar (setMany c off cs)),st.flr,st.ro⟩) ?_ (h _ (hH.yO (aC:=aC) hj));simp only[di,ha,hv,jr,jc,hs,if_pos trivial];rw[lV (hH.at hj) hl (jR hH (hH.ge hj).1 hw),fv _ _ _ hl];rfl
theorem ae.oF {e:TypeId} {cs:List D} {aI:Nat→Fr} (hH:Has N S st H) (hg:aG ops fr ⟨some dst,.alloc e,ty,pp,a,g⟩=some true) (hz:dj P e=some cs) (hp:∀k,fr.put dst (.ptr k 0 0)=aI k)
  (h:∀k ai,S.bs.length≤k→Has N S ai (.box k (.mem 0 false cs)::H)→ae P ops rest (aI k) ai Q):ae P ops (⟨some dst,.alloc e,ty,pp,a,g⟩::rest) fr st Q:=by
 refine ae.go hg rfl (d:=.ptr st.bs.length 0 0) (st1:=st.push (.mem 0 false cs)) ?_ (hp _) (h _ _ hH.len (hH.wG _));simp only[di,hz,Option.map_some]
theorem ae.ya {e:TypeId} {xo:Operand} {cs:List D} {aI:Nat→Fr} (hH:Has N S st H) (hg:aG ops fr ⟨some dst,.box e xo,ty,pp,a,g⟩=some true) (hz:(fr.ev xo).cells?=some cs) (hp:∀k,fr.put dst (.ptr k 0 0)=aI k)
  (h:∀k ai,S.bs.length≤k→Has N S ai (.box k (.mem 0 false cs)::H)→ae P ops rest (aI k) ai Q):ae P ops (⟨some dst,.box e xo,ty,pp,a,g⟩::rest) fr st Q:=by
 refine ae.go hg rfl (d:=.ptr st.bs.length 0 0) (st1:=st.push (.mem 0 false cs)) ?_ (hp _) (h _ _ hH.len (hH.wG _));simp only[di,hz,Option.map_some]
theorem ae.oy {t e:TypeId} {lo co:Operand} {k1 k2:IntKind} {m:Nat} {inf:TypeInfo} {z:List D} {s:Nat} {aI:Nat→Fr} (hH:Has N S st H) (hg:aG ops fr ⟨some dst,.makeSlice t lo co,ty,pp,a,g⟩=some true)
  (hl:fr.ev lo=.int k1 (m:Nat)) (hc:fr.ev co=.int k2 (m:Nat)) (ht:P.cx t=some (.slice e)) (hi:P.info e=some inf) (hz:dj P e=some z) (hsz:inf.size=s) (lT:z.length=s) (Uz:inf.bytes≤1024) (ky:m≤1073741824) (hp:∀k,fr.put dst (.win k 0 0 m s)=aI k)
  (h:∀k ai,S.bs.length≤k→Has N S ai (.aT (.win k 0 0 m s) s (List.replicate m z)::H)→ae P ops rest (aI k) ai Q):ae P ops (⟨some dst,.makeSlice t lo co,ty,pp,a,g⟩::rest) fr st Q:=by
 have hm:m*inf.bytes≤140737488355328:=Nat.le_trans (Nat.mul_le_mul ky Uz) (by decide);subst hsz;refine ae.go hg rfl (d:=.win st.bs.length 0 0 m inf.size) (st1:=st.push (.mem 0 true (gZ m z))) ?_ (hp _) (h _ _ hH.len (hH.qY (by simp) rfl (fun e he=>by rw[List.eq_of_mem_replicate he];exact lT)));simp only[di,hl,hc,fz,ht,hi,hz,Option.bind_some];rw[if_pos ⟨lT,by omega,by omega,by omega,by rw[←Int.natCast_mul];omega⟩]
 rfl
theorem Has.append {j:Nat} {x y:D} {s:Nat} {es ys:List (List D)} (hH:Has N S st H) (hj:H[j]?=some (.aT x s es)) (hy:Rows st s y ys) {t1 t2 e:TypeId} {td:TypeDesc} {inf:TypeInfo} {z:List D}
  (h1:P.cx t1=some (.slice e)) (h2:P.cx t2=some td) (h3:fH td=false) (h4:P.info e=some inf) (h5:dj P e=some z) (h6:inf.size=s) (h7:z.length=s) (h8:0<inf.bytes∧inf.bytes≤1024)
  (kQ:es.length+ys.length≤1073741824) (hw:S.flr≤N∨refs ys.flatten=0):
  ∃x' ai,bB P .append [t1,t2] [x,y] st=some (x',ai)∧Has N S ai (H.set j (.aT x' s (es++ys)))∧(ys=[]→x'=x):=by
 have hb:(es.length+ys.length)*inf.bytes≤1099511627776:=Nat.le_trans (Nat.mul_le_mul kQ h8.2) (by decide);have jg:=hy.row
 have zE:∀e∈ys,e.length=s:=fun e he=>by
  obtain⟨i,hi⟩:=List.getElem?_of_mem he;exact hy.rQ i e hi
 have nh:=cN zE;have hown:=hH.own hj;have hkk:=(hH.ok j _ hj).2;have hS:=hH.len;have W4:=hH.hN;subst h6;simp only[bB,gp,h1,h2,h3,Bool.false_eq_true,if_false,h4,h5,jg,Option.bind_some];rw[if_neg (by rintro(h|h|h);exact h nh;exact absurd h (by omega);exact h h7)]
 have c9:∀e,H[j]?=some e→H.set j e=H:=fun e he=>by
  apply List.ext_getElem?;intro i
  by_cases hij:i=j
  ·subst hij
   have:i<H.length:=by
    rcases Nat.lt_or_ge i H.length with h'|h'
    ·exact h'
    ·rw[List.getElem?_eq_none h'] at he;cases he
   rw[List.getElem?_set_self this,he]
  ·rw[List.getElem?_set_ne (fun e=>hij e.symm)]
 cases hown with
 |nul=>
  simp only[List.nil_append]
  by_cases h0:ys.length=0
  ·rw[if_pos h0]
   have:ys=[]:=by cases ys with|nil=>rfl|cons _ _=>simp at h0
   subst this;exact⟨.nul,st,rfl,by rw[c9 _ hj];exact hH,fun _=>rfl⟩
  ·rw[if_neg h0,if_pos (by simpa using hb)];refine⟨_,_,rfl,?_,fun e=>absurd (by rw[e];rfl) h0⟩;refine hH.xr hj (fun k hk _=>by simp only[St.push];rw[List.getElem?_append_left hk]) (by simp[St.push]) rfl rfl ?_ (fun k hk=>?_) fun k hk=>?_
   ·exact gr.win _ 0 0 ys ys.flatten (iK st _) (by rw[nh];omega) (by rw[List.drop_zero,←nh,List.take_length]) zE
   ·simp only[cz.aT,D.ref] at hk;right;omega
   ·simp only[cz.aT,D.ref] at hk;simp only[St.push,List.length_append,List.length_cons,List.length_nil];omega
 |win k aC off es c hm hl hc he=>
  have hk:=hkk k (by simp only[cz.aT,D.ref]);simp only[St.mem_of hm];rw[if_neg (by rintro(h|h);exact h rfl;omega)]
  by_cases h0:ys.length=0
  ·rw[if_pos h0]
   have:ys=[]:=by cases ys with|nil=>rfl|cons _ _=>simp at h0
   subst this;simp only[List.append_nil];exact⟨_,st,rfl,by rw[c9 _ hj];exact hH,fun _=>rfl⟩
  ·rw[if_neg h0,if_pos ⟨hb,jR hH hk.1 hw⟩];refine⟨_,_,rfl,?_,fun e=>absurd (by rw[e];rfl) h0⟩;have AY:es.length+ys.length=(es++ys).length:=by simp
   have gK:(c.take (off+es.length*inf.size)).drop off=es.flatten:=by rw[List.drop_take,←hc];congr 1;omega
   rw[AY,gK];refine hH.xr hj (fun n hn hne=>by simp only;rw[List.getElem?_set_ne (fun e=>hne (by simp only[cz.aT,D.ref];omega))]) (by simp) rfl rfl ?_ (fun n hn=>?_) fun n hn=>?_
   ·have sr:∀e∈es++ys,e.length=inf.size:=fun e h=>by
     rcases List.mem_append.1 h with h|h
     ·exact he e h
     ·exact zE e h
    have L9:=cN sr;refine gr.win k (aC+1) 0 (es++ys) (es++ys).flatten ?_ (by rw[L9];omega) (by rw[List.drop_zero,←L9,List.take_length]) sr;simp only;rw[List.getElem?_set_self hk.2,List.flatten_append]
   ·simp only[cz.aT,D.ref] at hn⊢;left;omega
   ·simp only[cz.aT,D.ref] at hn;simp only[List.length_set];omega
theorem ae.bG {j:Nat} {x y:D} {s:Nat} {es ys:List (List D)} {t1 t2 e:TypeId} {td:TypeDesc} {inf:TypeInfo} {z:List D} {xo yo:Operand} {aI:D→Fr} (hH:Has N S st H) (hg:aG ops fr ⟨some dst,.call ⟨.builtin .append,#[xo,yo],#[t1,t2]⟩,ty,pp,a,g⟩=some true)
  (hx:fr.ev xo=x) (hy:fr.ev yo=y) (hj:H[j]?=some (.aT x s es)) (ja:Rows st s y ys)
  (h1:P.cx t1=some (.slice e)) (h2:P.cx t2=some td) (h3:fH td=false) (h4:P.info e=some inf) (h5:dj P e=some z) (h6:inf.size=s) (h7:z.length=s) (h8:0<inf.bytes∧inf.bytes≤1024)
  (hp:∀x',fr.put dst x'=aI x') (hb:es.length+ys.length≤1073741824) (hw:S.flr≤N∨refs ys.flatten=0)
  (h:∀x' ai,Has N S ai (H.set j (.aT x' s (es++ys)))→ae P ops rest (aI x') ai Q):
  ae P ops (⟨some dst,.call ⟨.builtin .append,#[xo,yo],#[t1,t2]⟩,ty,pp,a,g⟩::rest) fr st Q:=by
 obtain⟨x',ai,q1,q2,q3⟩:=hH.append hj ja h1 h2 h3 h4 h5 h6 h7 h8 hb hw;refine ae.go hg rfl (d:=x') (st1:=ai) ?_ (hp _) (h x' ai q2);simp only[di,List.map_cons,List.map_nil,hx,hy];exact q1
theorem ae.z_ {j:Nat} {x y:D} {s:Nat} {es ys:List (List D)} {t1 t2 e:TypeId} {td:TypeDesc} {inf:TypeInfo} {z:List D} {xo yo:Operand} {aI:D→Fr} (hH:Has N S st H) (hg:aG ops fr ⟨some dst,.call ⟨.builtin .append,#[xo,yo],#[t1,t2]⟩,ty,pp,a,g⟩=some true)
  (hx:fr.ev xo=x) (hy:fr.ev yo=y) (hj:H[j]?=some (.aT x s es)) (ja:Rows st s y ys)
  (h1:P.cx t1=some (.slice e)) (h2:P.cx t2=some td) (h3:fH td=false) (h4:P.info e=some inf) (h5:dj P e=some z) (h6:inf.size=s) (h7:z.length=s) (h8:0<inf.bytes∧inf.bytes≤1024)
  (hp:∀x',fr.put dst x'=aI x') (hb:es.length+ys.length≤1073741824) (hw:S.flr≤N∨refs ys.flatten=0)
  (h:∀x' ai,(ys=[]→x'=x)→Has N S ai (H.set j (.aT x' s (es++ys)))→ae P ops rest (aI x') ai Q):
  ae P ops (⟨some dst,.call ⟨.builtin .append,#[xo,yo],#[t1,t2]⟩,ty,pp,a,g⟩::rest) fr st Q:=by
 obtain⟨x',ai,q1,q2,q3⟩:=hH.append hj ja h1 h2 h3 h4 h5 h6 h7 h8 hb hw;refine ae.go hg rfl (d:=x') (st1:=ai) ?_ (hp _) (h x' ai q3 q2);simp only[di,List.map_cons,List.map_nil,hx,hy];exact q1
theorem ae.KZ {t e:TypeId} {xo:Operand} {x:D} {s:Nat} {es:List (List D)} (hg:aG ops fr ⟨some dst,.call ⟨.builtin .len,#[xo],#[t]⟩,ty,pp,a,g⟩=some true) (hx:fr.ev xo=x) (hR:Rows st s x es) (ht:P.cx t=some (.slice e)) (hp:fr.put dst (.int .i64 (es.length:Nat))=aI)
  (h:ae P ops rest aI st Q):ae P ops (⟨some dst,.call ⟨.builtin .len,#[xo],#[t]⟩,ty,pp,a,g⟩::rest) fr st Q:=by
 refine ae.go hg rfl (d:=.int .i64 (es.length:Nat)) (st1:=st) ?_ hp h;simp only[di,List.map_cons,List.map_nil,hx];exact hR.EZ ht
theorem ae.sH {t:TypeId} {xo:Operand} {b:List UInt8} (hg:aG ops fr ⟨some dst,.call ⟨.builtin .len,#[xo],#[t]⟩,ty,pp,a,g⟩=some true) (hx:fr.ev xo=.str b) (ht:P.cx t=some .string) (hp:fr.put dst (.int .i64 (b.length:Nat))=aI)
  (h:ae P ops rest aI st Q):ae P ops (⟨some dst,.call ⟨.builtin .len,#[xo],#[t]⟩,ty,pp,a,g⟩::rest) fr st Q:=by
 refine ae.go hg rfl (d:=.int .i64 (b.length:Nat)) (st1:=st) ?_ hp h;simp only[di,List.map_cons,List.map_nil,hx,bB,ht]
theorem ae.Nn {t e:TypeId} {xo io:Operand} {x:D} {s i:Nat} {kk:IntKind} {es:List (List D)} {r:List D} {aI:D→Fr} (hg:aG ops fr ⟨some dst,.indexAddr t xo io,ty,pp,a,g⟩=some true) (hx:fr.ev xo=x) (hi:fr.ev io=.int kk (i:Nat)) (hR:Rows st s x es) (ht:P.cx t=some (.slice e)) (hs:bT P e=some s) (hr:es[i]?=some r) (hp:∀p,fr.put dst p=aI p)
  (h:∀p,jU st p r→ae P ops rest (aI p) st Q):ae P ops (⟨some dst,.indexAddr t xo io,ty,pp,a,g⟩::rest) fr st Q:=by
 obtain⟨p,h1,h2⟩:=hR.Nr ht hs (k:=kk) hr;refine ae.go hg rfl (d:=p) (st1:=st) ?_ (hp p) (h p h2);simp only[di,hx,hi,h1,Option.map_some]
theorem ae.Ix {t:TypeId} {xo:Operand} {x:D} {r:List D} {f m:Nat} {fields:Array Field} {fd:Field} {aI:D→Fr} (hg:aG ops fr ⟨some dst,.fieldAddr t xo f,ty,pp,a,g⟩=some true) (hx:fr.ev xo=x) (hR:jU st x r) (ht:P.cx t=some (.struct fields)) (hf:fields[f]?=some fd) (hm:bT P fd.type=some m) (ky:m≠0) (hp:∀p,fr.put dst p=aI p)
  (h:∀p,jU st p (r.drop fd.offset)→ae P ops rest (aI p) st Q):ae P ops (⟨some dst,.fieldAddr t xo f,ty,pp,a,g⟩::rest) fr st Q:=by
 obtain⟨p,h1,h2⟩:=hR.field ht hf hm ky;refine ae.go hg rfl (d:=p) (st1:=st) ?_ (hp p) (h p h2);simp only[di,hx,h1,Option.map_some]
theorem ae.EY {t:TypeId} {ao:Operand} {x d:D} {r:List D} (hg:aG ops fr ⟨some dst,.load t ao,ty,pp,a,g⟩=some true) (ha:fr.ev ao=x) (hR:jU st x r) (hd:dn P t r=some d) (hp:fr.put dst d=aI)
  (h:ae P ops rest aI st Q):ae P ops (⟨some dst,.load t ao,ty,pp,a,g⟩::rest) fr st Q:=by
 refine ae.go hg rfl (d:=d) (st1:=st) ?_ hp h;simp only[di,ha,hR.load hd,Option.map_some]
theorem ae.NA {t e:TypeId} {xo io:Operand} {x:D} {s i j:Nat} {kk:IntKind} {es:List (List D)} {aI:D→Fr} (hH:Has N S st H) (hg:aG ops fr ⟨some dst,.indexAddr t xo io,ty,pp,a,g⟩=some true) (hx:fr.ev xo=x) (hi:fr.ev io=.int kk (i:Nat)) (hj:H[j]?=some (.aT x s es)) (ht:P.cx t=some (.slice e)) (hs:bT P e=some s) (hr:i<es.length) (hp:∀p,fr.put dst p=aI p)
  (h:∀p,nr x s i 0 p→ae P ops rest (aI p) st Q):ae P ops (⟨some dst,.indexAddr t xo io,ty,pp,a,g⟩::rest) fr st Q:=by
 have hown:=hH.own hj
 cases hown with
 |nul=>simp at hr
 |win k aC off es c hm hl hc he=>
  refine ae.go hg rfl (d:=.ptr k aC (off+i*s)) (st1:=st) ?_ (hp _) (h _ ⟨k,aC,off,_,rfl,rfl⟩);simp only[di,hx,hi,bR,ht,hs,Option.bind_some,St.mem_of hm,Option.isSome_some];rw[if_pos ⟨trivial,by omega,by omega,trivial⟩];rfl
theorem ae.IG {t:TypeId} {xo:Operand} {x y:D} {s i o:Nat} {f m:Nat} {fields:Array Field} {fd:Field} {aI:D→Fr} (hg:aG ops fr ⟨some dst,.fieldAddr t xo f,ty,pp,a,g⟩=some true) (hx:fr.ev xo=y) (hR:nr x s i o y) (ht:P.cx t=some (.struct fields)) (hf:fields[f]?=some fd) (hm:bT P fd.type=some m) (ky:m≠0) (hp:∀p,fr.put dst p=aI p)
  (h:∀p,nr x s i (o+fd.offset) p→ae P ops rest (aI p) st Q):ae P ops (⟨some dst,.fieldAddr t xo f,ty,pp,a,g⟩::rest) fr st Q:=by
 obtain⟨k,aC,off,len,h1,h2⟩:=hR;refine ae.go hg rfl (d:=.ptr k aC (off+i*s+(o+fd.offset))) (st1:=st) ?_ (hp _) (h _ ⟨k,aC,off,len,h1,rfl⟩);simp only[di,hx,h2,dV,ht,hf,Option.bind_some,hm];rw[if_neg (by simp only[Option.some.injEq];exact ky),←Nat.add_assoc];rfl
theorem ae.E0 {t:TypeId} {ao:Operand} {x y d:D} {s i o j:Nat} {es:List (List D)} {r:List D} (hH:Has N S st H) (hg:aG ops fr ⟨some dst,.load t ao,ty,pp,a,g⟩=some true) (ha:fr.ev ao=y) (hR:nr x s i o y) (hj:H[j]?=some (.aT x s es)) (hr:es[i]?=some r) (hd:dn P t (r.drop o)=some d) (hp:fr.put dst d=aI)
  (h:ae P ops rest aI st Q):ae P ops (⟨some dst,.load t ao,ty,pp,a,g⟩::rest) fr st Q:=by
 obtain⟨k,aC,off,len,rfl,rfl⟩:=hR;have hown:=hH.own hj
 cases hown with
 |win k aC off es c hm hl hc he=>
  refine ae.go hg rfl (d:=d) (st1:=st) ?_ hp h;have h1:=ka he i r hr
  have hil:i<es.length:=by
   rcases Nat.lt_or_ge i es.length with h'|h'
   ·exact h'
   ·rw[List.getElem?_eq_none h'] at hr;cases hr
  have h2:(i+1)*s≤es.length*s:=Nat.mul_le_mul_right s hil;rw[Nat.add_mul,Nat.one_mul] at h2;rw[←hc,List.drop_take,List.take_take,List.drop_drop,Nat.min_eq_left (by omega)] at h1;have zI:=he r (List.mem_of_getElem? hr);simp only[di,ha,eU,St.mem_of hm,Option.bind_some];rw[jX (r:=r.drop o) ?_ hd];rfl;rw[List.length_drop,zI,←h1,List.drop_take,List.drop_drop]
theorem ae.gz {t:TypeId} {ao vo:Operand} {x y v:D} {s i o j:Nat} {es:List (List D)} {r cs:List D} (hH:Has N S st H) (hg:aG ops fr ⟨none,.store t ao vo,ty,pp,a,g⟩=some true) (ha:fr.ev ao=y) (hv:fr.ev vo=v) (hR:nr x s i o y) (jc:v.cells?=some cs) (hs:bT P t=some cs.length) (hj:H[j]?=some (.aT x s es)) (hr:es[i]?=some r) (hl:o+cs.length≤s) (hw:S.flr≤N∨refs cs=0)
  (h:∀ai,Has N S ai (H.set j (.aT x s (es.set i (setMany r o cs))))→ae P ops rest fr ai Q):ae P ops (⟨none,.store t ao vo,ty,pp,a,g⟩::rest) fr st Q:=by
 obtain⟨k,aC,off,len,rfl,rfl⟩:=hR;obtain⟨ai,h1,h2⟩:=hH.wD hj hr hl hw;refine ae.N hg rfl (d:=.tup []) (st1:=ai) ?_ (h _ h2);simp only[di,ha,hv,jr,jc,hs,if_pos trivial,h1];rfl
theorem ae.nY {t e:TypeId} {xo:Operand} {lo hi:Option Operand} {x:D} {s j:Nat} {es:List (List D)} {l r:Nat} {aI:D→Fr} (hH:Has N S st H) (hg:aG ops fr ⟨some dst,.slice t xo lo hi none,ty,pp,a,g⟩=some true) (hx:fr.ev xo=x) (hj:H[j]?=some (.aT x s es)) (ht:P.cx t=some (.slice e)) (hs:bT P e=some s)
  (hb:cI es.length (lo.map fr.ev) (hi.map fr.ev)=some (l,r)) (wW:l≤r∧r≤es.length) (hp:∀y,fr.put dst y=aI y)
  (h:∀y,Has N S st (H.set j (.aT y s ((es.take r).drop l)))→ae P ops rest (aI y) st Q):ae P ops (⟨some dst,.slice t xo lo hi none,ty,pp,a,g⟩::rest) fr st Q:=by
 have hown:=hH.own hj
 cases hown with
 |nul=>
  simp only[List.length_nil] at hb wW
  have hy:Has N S st (H.set j (.aT .nul s (([].take r).drop l))):=by
   refine hH.xr hj (fun _ _ _=>rfl) (Nat.le_refl _) rfl rfl (by simp;exact .nul) (fun k hk=>.inl hk) fun k hk=>by simp only[cz.aT,D.ref] at hk;omega
  refine ae.go hg rfl (d:=.nul) (st1:=st) ?_ (hp _) (h _ hy);simp only[di,hx,fX,ht,hs,Option.bind_some,hb,Option.map_some]
 |win k aC off es c hm hl hc he=>
  have hlen:((es.take r).drop l).length=r-l:=by simp;omega
  have h1:l*s+(r-l)*s≤es.length*s:=by rw[←Nat.add_mul];exact Nat.mul_le_mul_right s (by omega)
  have hk:=(hH.ok j _ hj).2 k (by simp only[cz.aT,D.ref])
  have hy:Has N S st (H.set j (.aT (.win k aC (off+l*s) (r-l) s) s ((es.take r).drop l))):=by
   refine hH.xr hj (fun _ _ _=>rfl) (Nat.le_refl _) rfl rfl ?_ (fun k' iU=>.inl ?_) fun k' iU=>?_
   ·have:=gr.win (st:=st) (s:=s) k aC (off+l*s) ((es.take r).drop l) c hm (by rw[hlen];omega) ?_ (fun e oX=>he e (List.mem_of_mem_take (List.mem_of_mem_drop oX)))
    ·rw[hlen] at this;exact this
    ·rw[hlen];have nh:=cN he
     have e1:∀n,n≤es.length→(es.take n).flatten=es.flatten.take (n*s):=by
      intro n hn;have:es.flatten=(es.take n).flatten++(es.drop n).flatten:=by rw[←List.flatten_append,List.take_append_drop]
      rw[this,List.take_left'];rw[cN (s:=s) (fun e oX=>he e (List.mem_of_mem_take oX)),List.length_take,Nat.min_eq_left hn]
     have e2:((es.take r).drop l).flatten=(es.take r).flatten.drop (l*s):=by
      have h2:(es.take r).flatten=((es.take r).take l).flatten++((es.take r).drop l).flatten:=by rw[←List.flatten_append,List.take_append_drop]
      rw[h2,List.drop_left'];rw[cN (s:=s) (fun e oX=>he e (List.mem_of_mem_take (List.mem_of_mem_take oX))),List.length_take,List.length_take,Nat.min_eq_left (by omega)]
     rw[e2,e1 r wW.2,←hc,List.take_take,List.drop_take,List.drop_drop,Nat.sub_mul]
     congr 1
     have:r*s≤es.length*s:=Nat.mul_le_mul_right s wW.2;rw[Nat.min_eq_left this]
   ·simp only[cz.aT,D.ref] at iU⊢;exact iU
   ·simp only[cz.aT,D.ref] at iU;omega
  refine ae.go hg rfl (d:=.win k aC (off+l*s) (r-l) s) (st1:=st) ?_ (hp _) (h _ hy);simp only[di,hx,fX,ht,hs,Option.bind_some,hb,if_true,Option.map_some]
theorem ae.vG {s t e:TypeId} {xo:Operand} {b:List UInt8} {aI:Nat→Fr} (hH:Has N S st H) (hg:aG ops fr ⟨some dst,.convert s t xo,ty,pp,a,g⟩=some true) (hx:fr.ev xo=.str b) (h1:P.cx s=some .string) (h2:P.cx t=some (.slice e)) (h3:P.cx e=some (.int .u8)) (hl:b.length<1099511627776) (hp:∀k,fr.put dst (.win k 0 0 b.length 1)=aI k)
  (h:∀k ai,S.bs.length≤k→Has N S ai (.aT (.win k 0 0 b.length 1) 1 (byteCells b)::H)→ae P ops rest (aI k) ai Q):ae P ops (⟨some dst,.convert s t xo,ty,pp,a,g⟩::rest) fr st Q:=by
 have hc:∀b:List UInt8,(byteCells b).flatten=b.map fun y=>.int .u8 (y.toNat:Nat):=by
  intro b
  induction b with
  |nil=>rfl
  |cons y b ih=>simp only[byteCells,List.map_cons,List.flatten_cons] at ih⊢;rw[ih];rfl
 refine ae.go hg rfl (d:=.win st.bs.length 0 0 b.length 1) (st1:=st.push (.mem 0 true (b.map fun y=>.int .u8 (y.toNat:Nat)))) ?_ (hp _) (h _ _ hH.len (hH.qY (by simp[byteCells]) (hc b) (fun e he=>by obtain⟨y,_,rfl⟩:=List.mem_map.1 he;rfl)));simp only[di,hx,ud,h1,h2,h3,if_pos hl]
theorem ae.w7 {f:Operand} {gn:Nat} {gk:List D} {args:Array Operand} {pb:Array TypeId} {d:D} {st1:St} (hg:aG ops fr ⟨some dst,.call ⟨.value f,args,pb⟩,ty,pp,a,g⟩=some true) (hf:fr.ev f=.fn gn gk)
  (h1:Ev P gn (args.toList.map fr.ev++gk) st d st1) (hp:fr.put dst d=aI)
  (h:ae P ops rest aI st1 Q):ae P ops (⟨some dst,.call ⟨.value f,args,pb⟩,ty,pp,a,g⟩::rest) fr st Q:=
 ae.call hg hf h1 (by show ae P ops rest (fr.put dst d) st1 Q;rw[hp];exact h)
theorem zy {m:Mode} {kn:Bool} {st st1:St} {d d':D} (hm:m≠.cj∧m≠.nw) (hS:S.bs=st.bs) (hH:Has st.bs.length S st1 H) (hd:bI st1 st.bs.length kn 16 d=some d'):cE m kn st st1 d=some (d',st):=
 aP hm ((hH.ex.take (by rw[hS])).trans hS) hd
theorem Has.freeze {j:Nat} {x:D} {s:Nat} {es:List (List D)} (hH:Has N S st H) (hj:H[j]?=some (.aT x s es)) (hp:∀e∈es,∀d∈e,ch d=true) {n:Nat} (hn:2≤n):bI st N false (n+1) x=some (.sl (es.map (ke s))):=by
 obtain⟨n,rfl⟩:∃m,n=m+2:=⟨n-2,by omega⟩
 have hown:=hH.own hj;have hkk:=(hH.ok j _ hj).2
 cases hown with
 |nul=>rfl
 |win k aC off es c hm hl hc he=>
  have hk:=hkk k (by simp only[cz.aT,D.ref]);show(if k<N then some (D.win k aC off es.length s) else ef st N (n+2) (.win k aC off es.length s))=_;rw[if_neg (show¬k<N by omega),ef];simp only[if_neg (show¬k<N by omega),St.mem_of hm,Option.bind_some]
  rw[if_pos hl,hc,iO (fun d hd=>by
   obtain⟨e,oX,w6⟩:=List.mem_flatten.1 hd
   exact hp e oX d w6)]
  simp only[Option.map_some,fK he]
end Go.V
namespace Go.V
variable{P:Pv} {ops:Array Oper} {rest:List Oper} {fr aI:Fr} {st:St} {Q:Fr→St→Prop} {ty:TypeId} {pp:String} {a:Array Edge} {g:Option (Nat×Bool)} {dst:Nat}
theorem aH {o:Oper} {j t:Nat} {w v:Bool} (h1:o.guard=some (j,w)) (h2:(ops[j]?).bind (·.dst)=some t) (h3:fr.get t=.bool v) (h4:v=w):aG ops fr o=some true:=by
 unfold aG;simp only[h1,h2,h3,h4,beq_self_eq_true]
theorem xq {o:Oper} {j t:Nat} {w v:Bool} (h1:o.guard=some (j,w)) (h2:(ops[j]?).bind (·.dst)=some t) (h3:fr.get t=.bool v) (h4:v=!w):aG ops fr o=some false:=by
 unfold aG;simp only[h1,h2,h3,h4];cases w<;>rfl
theorem ae.skip {op:Op} (hg:aG ops fr ⟨some dst,op,ty,pp,a,g⟩=some false) (hp:fr.put dst (.tup [])=aI)
  (h:ae P ops rest aI st Q):ae P ops (⟨some dst,op,ty,pp,a,g⟩::rest) fr st Q:=
 ae.off hg (by show ae P ops rest (fr.put dst _) st Q;rw[hp];exact h)
theorem ae.two {l:List Oper} (t:Nat) {v:Bool} (hv:fr.get t=.bool v) (h1:v=true→ae P ops l fr st Q) (h2:v=false→ae P ops l fr st Q):ae P ops l fr st Q:=by
 cases v
 ·exact h2 rfl
 ·exact h1 rfl
theorem ae.dA {c x y:Operand} {v:Bool} (hg:aG ops fr ⟨some dst,.pick c x y,ty,pp,a,g⟩=some true) (hc:fr.ev c=.bool v) (hv:v=true) (hp:fr.put dst (fr.ev x)=aI)
  (h:ae P ops rest aI st Q):ae P ops (⟨some dst,.pick c x y,ty,pp,a,g⟩::rest) fr st Q:=
 ae.go hg rfl (by simp only[di,hc,hv]) hp h
theorem ae.cV {c x y:Operand} {v:Bool} (hg:aG ops fr ⟨some dst,.pick c x y,ty,pp,a,g⟩=some true) (hc:fr.ev c=.bool v) (hv:v=false) (hp:fr.put dst (fr.ev y)=aI)
  (h:ae P ops rest aI st Q):ae P ops (⟨some dst,.pick c x y,ty,pp,a,g⟩::rest) fr st Q:=
 ae.go hg rfl (by simp only[di,hc,hv]) hp h
theorem af.cut {dy:Dy} {i:Nat} {l:List Oper} {d n loc K' tmp st} {Q:Out→Fr→St→Prop} (t:Nat) (v:D)
  (h1:ae P l.toArray l ⟨n,loc,[]⟩ st fun aI ai=>∃tmp,aI=⟨n,K',tmp⟩∧ai=st∧look t tmp=v) (h2:∀tmp,look t tmp=v→Q .next ⟨n,K',tmp⟩ st) (h0:fF i dy=[]:=by rfl):af P dy (.region i l.toArray d) ⟨n,loc,tmp⟩ st Q:=by
 refine af.b_ ?_ h0;unfold ae at h1⊢;obtain⟨aI,ai,h3,Fp,rfl,rfl,h4⟩:=h1;exact⟨_,_,h3,h2 _ h4⟩
theorem fL {len n:Nat} {k:IntKind} (h:n≤len):cI len none (some (.int k (n:Nat)))=some (0,n):=by
 simp only[cI,ij,jS,Option.bind_some];rw[if_pos ⟨by omega,by omega⟩];rfl
theorem wrap_i32 {n : Int} (h1 : -2147483648 ≤ n) (h2 : n ≤ 2147483647) : bH .i32 n = n := by
  cases n with
  | ofNat m => exact cA (k := .i32) (m := m) (by simp only [hO]; have : (Int.ofNat m) = (m : Int) := rfl; omega)
  | negSucc m =>
    unfold bH
    have : Nat.ble (rk .i32) m = false := by
      cases hb : Nat.ble (rk .i32) m with
      | false => rfl
      | true => have := Nat.le_of_ble_eq_true hb; simp only [rk] at this; have : Int.negSucc m = -(m : Int) - 1 := by omega
                omega
    simp only [this]
theorem NG (x y:Int):(if y>x then y else x)=max x y:=by split<;>omega
theorem NF (x y:Int):(if y<x then y else x)=min x y:=by split<;>omega
theorem ae.IL {t1 t2:TypeId} {xo yo:Operand} {k k':IntKind} {x y:Int} {pb:Array TypeId} (hg:aG ops fr ⟨some dst,.call ⟨.builtin .max,#[xo,yo],pb⟩,ty,pp,a,g⟩=some true) (hx:fr.ev xo=.int k x) (hy:fr.ev yo=.int k' y) (hp:fr.put dst (.int k (max x y))=aI)
  (h:ae P ops rest aI st Q):ae P ops (⟨some dst,.call ⟨.builtin .max,#[xo,yo],pb⟩,ty,pp,a,g⟩::rest) fr st Q:=by
 refine ae.go hg rfl (d:=.int k (max x y)) (st1:=st) ?_ hp h;simp only[di,List.map_cons,List.map_nil,hx,hy,bB,mW,pD,Option.bind_some,Option.map_some,←NG];rfl
theorem ae.IK {t1 t2:TypeId} {xo yo:Operand} {k k':IntKind} {x y:Int} {pb:Array TypeId} (hg:aG ops fr ⟨some dst,.call ⟨.builtin .min,#[xo,yo],pb⟩,ty,pp,a,g⟩=some true) (hx:fr.ev xo=.int k x) (hy:fr.ev yo=.int k' y) (hp:fr.put dst (.int k (min x y))=aI)
  (h:ae P ops rest aI st Q):ae P ops (⟨some dst,.call ⟨.builtin .min,#[xo,yo],pb⟩,ty,pp,a,g⟩::rest) fr st Q:=by
 refine ae.go hg rfl (d:=.int k (min x y)) (st1:=st) ?_ hp h;simp only[di,List.map_cons,List.map_nil,hx,hy,bB,mW,pD,Option.bind_some,Option.map_some,←NF];rfl
theorem ae.J3 {t jq:TypeId} {xo yo:Operand} {x y:Int} (hg:aG ops fr ⟨some dst,.binOp .add t xo yo jq,ty,pp,a,g⟩=some true) (hx:fr.ev xo=.int .i64 x) (hy:fr.ev yo=.int .i64 y) (h1:-9223372036854775808≤x+y) (h2:x+y≤9223372036854775807) (hp:fr.put dst (.int .i64 (x+y))=aI)
  (h:ae P ops rest aI st Q):ae P ops (⟨some dst,.binOp .add t xo yo jq,ty,pp,a,g⟩::rest) fr st Q:=by
 refine ae.go hg rfl (d:=.int .i64 (x+y)) (st1:=st) ?_ hp h;simp only[di,hx,hy,kM,ry,if_pos trivial,Option.map_some,wrap_i64 h1 h2,reduceIte]
theorem ae.wa {t jq:TypeId} {xo yo:Operand} {x y:Int} (hg:aG ops fr ⟨some dst,.binOp .add t xo yo jq,ty,pp,a,g⟩=some true) (hx:fr.ev xo=.int .i32 x) (hy:fr.ev yo=.int .i32 y) (h1:-2147483648≤x+y) (h2:x+y≤2147483647) (hp:fr.put dst (.int .i32 (x+y))=aI)
  (h:ae P ops rest aI st Q):ae P ops (⟨some dst,.binOp .add t xo yo jq,ty,pp,a,g⟩::rest) fr st Q:=by
 refine ae.go hg rfl (d:=.int .i32 (x+y)) (st1:=st) ?_ hp h;simp only[di,hx,hy,kM,ry,if_pos trivial,Option.map_some,wrap_i32 h1 h2,reduceIte]
theorem ae.Fq {t jq:TypeId} {xo yo:Operand} {x y:Int} (hg:aG ops fr ⟨some dst,.binOp .sub t xo yo jq,ty,pp,a,g⟩=some true) (hx:fr.ev xo=.int .i32 x) (hy:fr.ev yo=.int .i32 y) (h1:-2147483648≤x-y) (h2:x-y≤2147483647) (hp:fr.put dst (.int .i32 (x-y))=aI)
  (h:ae P ops rest aI st Q):ae P ops (⟨some dst,.binOp .sub t xo yo jq,ty,pp,a,g⟩::rest) fr st Q:=by
 refine ae.go hg rfl (d:=.int .i32 (x-y)) (st1:=st) ?_ hp h;simp only[di,hx,hy,kM,ry,if_pos trivial,Option.map_some,wrap_i32 h1 h2,reduceIte]
theorem ae.mv {op:Op} {x:Operand} {d:D} (fm:op=.move x∨op=.assign x) (hg:aG ops fr ⟨some dst,op,ty,pp,a,g⟩=some true) (hx:fr.ev x=d) (hp:fr.put dst d=aI)
  (h:ae P ops rest aI st Q):ae P ops (⟨some dst,op,ty,pp,a,g⟩::rest) fr st Q:=by
 refine ae.go hg ?_ (d:=d) (st1:=st) ?_ hp h<;>rcases fm with rfl|rfl<;>first|rfl|simp only[di,hx]
def kJ (P:Pv) (fields:Array Field) (f:Nat):Option (Nat×Option Nat):=(fields[f]?).map fun fd=>(fd.offset,bT P fd.type)
theorem jM {P:Pv} {fields:Array Field} {f fo m:Nat} (h:kJ P fields f=some (fo,some m)):∃fd,fields[f]?=some fd∧fd.offset=fo∧bT P fd.type=some m:=by
 unfold kJ at h;obtain⟨fd,h1,h2⟩:=Option.map_eq_some_iff.1 h;simp only[Prod.mk.injEq] at h2;exact⟨fd,h1,h2.1,h2.2⟩
theorem ae.Iz {t:TypeId} {xo:Operand} {k aC off o f fo m:Nat} {fields:Array Field} (hg:aG ops fr ⟨some dst,.fieldAddr t xo f,ty,pp,a,g⟩=some true) (hx:fr.ev xo=.ptr k aC off) (ht:P.cx t=some (.struct fields)) (hf:kJ P fields f=some (fo,some (m+1))) (ho:off+fo=o) (hp:fr.put dst (.ptr k aC o)=aI)
  (h:ae P ops rest aI st Q):ae P ops (⟨some dst,.fieldAddr t xo f,ty,pp,a,g⟩::rest) fr st Q:=by
 obtain⟨fd,h1,h2,h3⟩:=jM hf;subst ho;refine ae.go hg rfl (d:=.ptr k aC (off+fo)) (st1:=st) ?_ hp h;simp only[di,hx,dV,ht,h1,Option.bind_some,h3,h2];rw[if_neg (by simp)];rfl
theorem ae.DN {t:TypeId} {xo:Operand} {x:D} {r:List D} {f fo m:Nat} {fields:Array Field} {aI:D→Fr} (hg:aG ops fr ⟨some dst,.fieldAddr t xo f,ty,pp,a,g⟩=some true) (hx:fr.ev xo=x) (hR:jU st x r) (ht:P.cx t=some (.struct fields)) (hf:kJ P fields f=some (fo,some (m+1))) (hp:∀p,fr.put dst p=aI p)
  (h:∀p,jU st p (r.drop fo)→ae P ops rest (aI p) st Q):ae P ops (⟨some dst,.fieldAddr t xo f,ty,pp,a,g⟩::rest) fr st Q:=by
 obtain⟨fd,h1,h2,h3⟩:=jM hf;exact ae.Ix hg hx hR ht h1 h3 (by omega) hp (by rw[h2];exact h)
theorem ae.fN {t:TypeId} {xo:Operand} {x y:D} {s i o o2:Nat} {f fo m:Nat} {fields:Array Field} {aI:D→Fr} (hg:aG ops fr ⟨some dst,.fieldAddr t xo f,ty,pp,a,g⟩=some true) (hx:fr.ev xo=y) (hR:nr x s i o y) (ht:P.cx t=some (.struct fields)) (hf:kJ P fields f=some (fo,some (m+1))) (ho:o+fo=o2) (hp:∀p,fr.put dst p=aI p)
  (h:∀p,nr x s i o2 p→ae P ops rest (aI p) st Q):ae P ops (⟨some dst,.fieldAddr t xo f,ty,pp,a,g⟩::rest) fr st Q:=by
 obtain⟨fd,h1,h2,h3⟩:=jM hf;subst ho;exact ae.IG hg hx hR ht h1 h3 (by omega) hp (by rw[h2];exact h)
theorem sM {c cs:List D} (h:cs.length=c.length):setMany c 0 cs=cs:=by
 rw[fv cs c 0 (by omega),List.take_zero,List.nil_append,Nat.zero_add,h,List.drop_length,List.append_nil]
variable{N:Nat} {S:St} {H:List cz}
theorem ae.rB {j k aC:Nat} {ar:Bool} {c cs:List D} {v:D} {t:TypeId} {ao vo:Operand} (hH:Has N S st H) (hg:aG ops fr ⟨none,.store t ao vo,ty,pp,a,g⟩=some true) (ha:fr.ev ao=.ptr k aC 0) (hv:fr.ev vo=v) (jc:v.cells?=some cs) (hs:bT P t=some cs.length) (hj:H[j]?=some (.box k (.mem aC ar c))) (hl:cs.length=c.length) (hw:S.flr≤N∨refs cs=0)
  (h:∀ai,Has N S ai (H.set j (.box k (.mem aC ar cs)))→ae P ops rest fr ai Q):ae P ops (⟨none,.store t ao vo,ty,pp,a,g⟩::rest) fr st Q:=
 ae.ow hH hg ha hv jc hs hj (by omega) hw (by rw[sM hl];exact h)
theorem pS {place:Nat→Option (Nat×Nat)} {s:Nat} (ji:∀i,place i=some (i*s,s)):∀(vs:List D) (n:Nat) (done rem:List D),done.length=n*s→rem.length=vs.length*s→(∀v∈vs,v.cells?=some v.cells∧v.cells.length=s)→
  gf place (done++rem) (vs.mapIdx fun i v=>(n+i,v))=some (done++(vs.map D.cells).flatten)
 |[],n,done,rem,hd,hr,_=>by
  have:rem=[]:=by cases rem with|nil=>rfl|cons _ _=>simp at hr
  subst this;simp[gf]
 |v::vs,n,done,rem,hd,hr,hv=>by
  obtain⟨h1,h2⟩:=hv v (List.mem_cons_self ..);simp only[List.length_cons,Nat.add_mul,Nat.one_mul] at hr;simp only[List.mapIdx_cons,gf,ji,h1,Nat.add_zero];rw[if_neg (by simp only[h2,ne_eq,not_true_eq_false,List.length_append,false_or];rw[hd,hr];omega)]
  have e1:setMany (done++rem) (n*s) v.cells=(done++v.cells)++rem.drop s:=by
   rw[fv _ _ _ (by simp only[List.length_append];omega),h2,←hd,List.take_left,List.drop_length_add_append]
  have ih:=pS ji vs (n+1) (done++v.cells) (rem.drop s) (by rw[List.length_append,hd,h2,Nat.add_mul,Nat.one_mul]) (by rw[List.length_drop];omega) fun w hw=>hv w (List.mem_cons_of_mem _ hw);rw[e1];have e2:(vs.mapIdx fun i v=>(n+(i+1),v))=vs.mapIdx fun i v=>(n+1+i,v):=by congr 1;funext i v;rw[show n+(i+1)=n+1+i by omega]
  rw[e2,ih];simp[List.append_assoc]
def xe (fr:Fr):Nat→List (Nat×Operand)→List D→Prop
 |_,[],[]=>True
 |n,(i,o)::ps,v::vs=>i=n∧fr.ev o=v∧xe fr (n+1) ps vs
 |_,_,_=>False
theorem tZ {fr:Fr}:∀{ps:List (Nat×Operand)} {vs:List D} {n:Nat},xe fr n ps vs→(ps.map fun p=>(p.1,fr.ev p.2))=vs.mapIdx fun i v=>(n+i,v)
 |[],[],_,_=>rfl
 |(i,o)::ps,v::vs,n,h=>by
  obtain⟨h1,h2,h3⟩:=h;have ih:=tZ h3;simp only[List.map_cons,List.mapIdx_cons,Nat.add_zero];rw[ih,h1,h2]
  congr 1
  congr 1;funext i v;rw[show n+(i+1)=n+1+i by omega]
 |[],_::_,_,h=>h.elim
 |_::_,[],_,h=>h.elim
theorem ae.LU {t e:TypeId} {m s:Nat} {parts:Array (Nat×Operand)} {z:List D} {vs:List D} {aI:Nat→Fr} (hH:Has N S st H) (hg:aG ops fr ⟨some dst,.buildSlice t m parts,ty,pp,a,g⟩=some true) (ht:P.cx t=some (.slice e)) (hs:bT P e=some s) (hz:dj P e=some z) (lT:z.length=s) (hm:m*s≤16777216)
  (MX:xe fr 0 parts.toList vs) (Ll:vs.length=m) (hc:∀v∈vs,v.cells?=some v.cells∧v.cells.length=s) (hp:∀k,fr.put dst (.win k 0 0 m s)=aI k)
  (h:∀k ai,S.bs.length≤k→Has N S ai (.aT (.win k 0 0 m s) s (vs.map D.cells)::H)→ae P ops rest (aI k) ai Q):ae P ops (⟨some dst,.buildSlice t m parts,ty,pp,a,g⟩::rest) fr st Q:=by
 have yx:=tZ MX;have hf:=pS (place:=fun i=>some (i*s,s)) (fun _=>rfl) vs 0 [] (gZ m z) (by simp) (by simp[gZ,Ll,lT]) hc
 refine ae.go hg rfl (d:=.win st.bs.length 0 0 m s) (st1:=st.push (.mem 0 true (vs.map D.cells).flatten)) ?_ (hp _) (h _ _ hH.len (hH.qY (by simpa using Ll) rfl (fun e he=>by
  obtain⟨v,hv,rfl⟩:=List.mem_map.1 he
  exact(hc v hv).2)))
 simp only[di,fT,ht,hs,hz,Option.bind_some];rw[if_pos ⟨lT,hm⟩,yx];simp only[List.nil_append] at hf;rw[hf];rfl
theorem ae.bF {j k aC off m:Nat} {ar:Bool} {c r:List D} {t:TypeId} {ao:Operand} (hH:Has N S st H) (hg:aG ops fr ⟨some dst,.load t ao,ty,pp,a,g⟩=some true) (ha:fr.ev ao=.ptr k aC off) (hj:H[j]?=some (.box k (.mem aC ar c))) (hr:(c.drop off).take m=r) (hd:dn P t r=some (.agg r)) (hm:r.length=m) (hp:fr.put dst (.agg r)=aI)
  (h:ae P ops rest aI st Q):ae P ops (⟨some dst,.load t ao,ty,pp,a,g⟩::rest) fr st Q:=
 ae.Fb hH hg ha hj (jX (r:=r) (by rw[hm];exact hr) hd) hp h
theorem cn {α:Type} {l:List α} {i:Nat} {a:α} (h:l[i]?=some a):i<l.length:=by
 rcases Nat.lt_or_ge i l.length with h'|h'
 ·exact h'
 ·rw[List.getElem?_eq_none h'] at h;cases h
theorem ae.dt {t:TypeId} {ao:Operand} {x:D} {r:List D} (hg:aG ops fr ⟨some dst,.load t ao,ty,pp,a,g⟩=some true) (ha:fr.ev ao=x) (hR:jU st x r) (hd:dn P t r=some (.agg r)) (hp:fr.put dst (.agg r)=aI)
  (h:ae P ops rest aI st Q):ae P ops (⟨some dst,.load t ao,ty,pp,a,g⟩::rest) fr st Q:=ae.EY hg ha hR hd hp h
theorem ae.ra {t:TypeId} {ao:Operand} {x y:D} {s i j:Nat} {es:List (List D)} {r:List D} (hH:Has N S st H) (hg:aG ops fr ⟨some dst,.load t ao,ty,pp,a,g⟩=some true) (ha:fr.ev ao=y) (hR:nr x s i 0 y) (hj:H[j]?=some (.aT x s es)) (hr:es[i]?=some r) (hd:dn P t r=some (.agg r)) (hp:fr.put dst (.agg r)=aI)
  (h:ae P ops rest aI st Q):ae P ops (⟨some dst,.load t ao,ty,pp,a,g⟩::rest) fr st Q:=ae.E0 hH hg ha hR hj hr (by rw[List.drop_zero];exact hd) hp h
theorem ae.kN {t jq:TypeId} {xo yo:Operand} {x y z:Int} {k:IntKind} (hg:aG ops fr ⟨some dst,.binOp .add t xo yo jq,ty,pp,a,g⟩=some true) (hx:fr.ev xo=.int k x) (hy:fr.ev yo=.int k y) (hz:bH k (x+y)=z) (hp:fr.put dst (.int k z)=aI)
  (h:ae P ops rest aI st Q):ae P ops (⟨some dst,.binOp .add t xo yo jq,ty,pp,a,g⟩::rest) fr st Q:=by
 refine ae.go hg rfl (d:=.int k z) (st1:=st) ?_ hp h;simp only[di,hx,hy,kM,ry,if_pos trivial,Option.map_some,hz,reduceIte]
theorem ae.gj {t jq:TypeId} {xo yo:Operand} {x y z:Int} {k:IntKind} (hg:aG ops fr ⟨some dst,.binOp .sub t xo yo jq,ty,pp,a,g⟩=some true) (hx:fr.ev xo=.int k x) (hy:fr.ev yo=.int k y) (hz:bH k (x-y)=z) (hp:fr.put dst (.int k z)=aI)
  (h:ae P ops rest aI st Q):ae P ops (⟨some dst,.binOp .sub t xo yo jq,ty,pp,a,g⟩::rest) fr st Q:=by
 refine ae.go hg rfl (d:=.int k z) (st1:=st) ?_ hp h;simp only[di,hx,hy,kM,ry,if_pos trivial,Option.map_some,hz,reduceIte]
theorem ae.na {t jq:TypeId} {xo yo:Operand} {x y z:Int} {k:IntKind} (hg:aG ops fr ⟨some dst,.binOp .mul t xo yo jq,ty,pp,a,g⟩=some true) (hx:fr.ev xo=.int k x) (hy:fr.ev yo=.int k y) (hz:bH k (x*y)=z) (hp:fr.put dst (.int k z)=aI)
  (h:ae P ops rest aI st Q):ae P ops (⟨some dst,.binOp .mul t xo yo jq,ty,pp,a,g⟩::rest) fr st Q:=by
 refine ae.go hg rfl (d:=.int k z) (st1:=st) ?_ hp h;simp only[di,hx,hy,kM,ry,if_pos trivial,Option.map_some,hz,reduceIte]
theorem ae.VC {t jq:TypeId} {xo yo:Operand} {x y:D} {b:Bool} (hg:aG ops fr ⟨some dst,.binOp .eql t xo yo jq,ty,pp,a,g⟩=some true) (hx:fr.ev xo=x) (hy:fr.ev yo=y) (hb:kM P .eql t x y=some (.bool b)) (hp:fr.put dst (.bool b)=aI)
  (h:ae P ops rest aI st Q):ae P ops (⟨some dst,.binOp .eql t xo yo jq,ty,pp,a,g⟩::rest) fr st Q:=by
 refine ae.go hg rfl (d:=.bool b) (st1:=st) ?_ hp h;simp only[di,hx,hy,hb,Option.map_some]
theorem ae.Q5 {t jq:TypeId} {xo yo:Operand} {x y:D} {b:Bool} (hg:aG ops fr ⟨some dst,.binOp .neq t xo yo jq,ty,pp,a,g⟩=some true) (hx:fr.ev xo=x) (hy:fr.ev yo=y) (hb:kM P .neq t x y=some (.bool b)) (hp:fr.put dst (.bool b)=aI)
  (h:ae P ops rest aI st Q):ae P ops (⟨some dst,.binOp .neq t xo yo jq,ty,pp,a,g⟩::rest) fr st Q:=by
 refine ae.go hg rfl (d:=.bool b) (st1:=st) ?_ hp h;simp only[di,hx,hy,hb,Option.map_some]
theorem Ev.mP {f:Nat} {x:Fi} {body:Code} {args:List D} {st:St} {n:Nat} {loc:List D} {AK:D→St→Prop} (hq:jF f P.prm=none) (hf:P.fi f=some x) (hp:x.iL=none) (hb:x.fn.body=some body) (zJ:pad x.nloc args=⟨n,loc,[]⟩)
  (h:af P x.dyn body ⟨n,loc,[]⟩ (aj x.mode st) fun o fr st1=>(∀i,o≠.exit i)∧∃ds d ai,iJ P fr st1 x.fn.results.toList=some ds∧cE x.mode x.knul st st1 (nM ds)=some (d,ai)∧AK d ai):∃d ai,Ev P f args st d ai∧AK d ai:=by
 unfold af at h;obtain⟨o,aI,st1,hN,ho,ds,d,ai,hr,hl,jJ⟩:=h;refine⟨d,ai,Ev.j8 hq hf hp hb zJ ?_,jJ⟩;unfold af;exact⟨o,aI,st1,hN,ho,ds,hr,hl⟩
def AM (M:Fr→St→Prop) (Q:Out→Fr→St→Prop):Out→Fr→St→Prop
 | .next,fr,st=>M fr st
 | .exit i,fr,st=>Q (.exit i) fr st
 | .ret,fr,st=>Q .ret fr st
theorem af.merge {P:Pv} {dy:Dy} {c:Code} {fr:Fr} {st:St} {Q:Out→Fr→St→Prop} (M:Fr→St→Prop) (h1:af P dy c fr st (AM M Q)) (h2:∀aI ai,M aI ai→Q .next aI ai):af P dy c fr st Q:=
 h1.mono fun o aI ai h=>by
  cases o with
  |next=>exact h2 _ _ h
  |exit i=>exact h
  |ret=>exact h
theorem ae.EW {t jq:TypeId} {xo yo:Operand} {x y:Nat} (hg:aG ops fr ⟨some dst,.binOp .add t xo yo jq,ty,pp,a,g⟩=some true) (hx:fr.ev xo=.int .i64 (x:Nat)) (hy:fr.ev yo=.int .i64 (y:Nat)) (h2:x+y≤9223372036854775807) (hp:fr.put dst (.int .i64 ((x+y:Nat):Int))=aI)
  (h:ae P ops rest aI st Q):ae P ops (⟨some dst,.binOp .add t xo yo jq,ty,pp,a,g⟩::rest) fr st Q:=
 ae.kN hg hx hy (by rw[wrap_i64 (by omega) (by omega)];rfl) hp h
theorem Ev.AS {f:Nat} {x:Fi} {body:Code} {args:List D} {st:St} {n:Nat} {loc:List D} {AK:D→Prop} (hq:jF f P.prm=none) (hf:P.fi f=some x) (hp:x.iL=none) (hb:x.fn.body=some body) (zJ:pad x.nloc args=⟨n,loc,[]⟩)
  (h:af P x.dyn body ⟨n,loc,[]⟩ (aj x.mode st) fun o fr st1=>(∀i,o≠.exit i)∧∃ds d,iJ P fr st1 x.fn.results.toList=some ds∧cE x.mode x.knul st st1 (nM ds)=some (d,st)∧AK d):∃d,Ev P f args st d st∧AK d:=by
 unfold af at h;obtain⟨o,aI,st1,hN,ho,ds,d,hr,hl,jJ⟩:=h;refine⟨d,Ev.j8 hq hf hp hb zJ ?_,jJ⟩;unfold af;exact⟨o,aI,st1,hN,ho,ds,hr,hl⟩
def aD (loc:List D) (ws:List Nat) (f:Nat→D):List D:=ws.foldl (fun l w=>l.set w (f w)) loc
theorem af.jO {P:Pv} {dy:Dy} {i:Nat} {l:List Oper} {d n loc tmp st} {Q:Out→Fr→St→Prop} (t:Nat) (v:D) (ws:List Nat)
  (h1:ae P l.toArray l ⟨n,loc,[]⟩ st fun aI ai=>∃f tmp,aI=⟨n,(aD loc ws f).set t v,tmp⟩∧ai=st) (h2:∀f tmp,Q .next ⟨n,(aD loc ws f).set t v,tmp⟩ st) (h0:fF i dy=[]:=by rfl):af P dy (.region i l.toArray d) ⟨n,loc,tmp⟩ st Q:=by
 refine af.b_ ?_ h0;unfold ae at h1⊢;obtain⟨aI,ai,h3,f,Fp,rfl,rfl⟩:=h1;exact⟨_,_,h3,h2 _ _⟩
theorem af.eY {P:Pv} {dy:Dy} {i:Nat} {l:List Oper} {d n loc tmp st} {Q:Out→Fr→St→Prop} (t:Nat) (v:D) (ws:List Nat)
  (h1:ae P l.toArray l ⟨n,loc,[]⟩ st fun aI ai=>∃f tmp,aI=⟨n,aD loc ws f,tmp⟩∧ai=st∧look t tmp=v) (h2:∀f tmp,look t tmp=v→Q .next ⟨n,aD loc ws f,tmp⟩ st) (h0:fF i dy=[]:=by rfl):af P dy (.region i l.toArray d) ⟨n,loc,tmp⟩ st Q:=by
 refine af.b_ ?_ h0;unfold ae at h1⊢;obtain⟨aI,ai,h3,f,Fp,rfl,rfl,h4⟩:=h1;exact⟨_,_,h3,h2 _ _ h4⟩
theorem aX {n:Nat} {L loc:List D} {qI:List (Nat×D)} {ws:List Nat} {t:Nat} {v:D} {st:St} (h:L=(aD loc ws (fun k=>nth .bA L k)).set t v):∃(f:Nat→D) (tmp:List (Nat×D)),(⟨n,L,qI⟩:Fr)=⟨n,(aD loc ws f).set t v,tmp⟩∧st=st:=⟨_,qI,by rw[←h],rfl⟩
theorem bq {n:Nat} {L loc:List D} {qI:List (Nat×D)} {ws:List Nat} {t:Nat} {v:D} {st:St} (h:L=aD loc ws (fun k=>nth .bA L k)) (h2:look t qI=v):∃(f:Nat→D) (tmp:List (Nat×D)),(⟨n,L,qI⟩:Fr)=⟨n,aD loc ws f,tmp⟩∧st=st∧look t tmp=v:=⟨_,qI,by rw[←h],rfl,h2⟩
theorem ym {x y:Oper} {fi fj:Fr} {si qM sj KC:St} {a:Operand} {k aC off v:Nat} {ar:Bool} {c:List D} (hy:gN y.op=none) (hx:gN x.op=some a) (ha:fi.ev a=.ptr k aC off) (h1:sj.bs[k]?=some (.mem v ar c)) (h2:KC.bs[k]?=some (.mem v ar c)) (h3:si.bs[k]?=some (.mem v ar c)) (hr:refs c=0):kD x fi si qM y fj sj KC=true:=by
 unfold kD;simp only[hy,hx,ha,D.mC,Bool.and_eq_true];refine⟨xv h1 h2,?_⟩;unfold lZ;simp only[h3,hr]
 split
 ·rfl
 ·simp
def gq (x:D) (s:Nat) (es:List (List D)):Prop:=(x=.nul∧es=[])∨∃ds,x=.sl ds∧ds.map D.cells=es∧∀d∈ds,d.cells?=some d.cells∧d.cells.length=s
theorem gq.rows {x:D} {s:Nat} {es:List (List D)} (h:gq x s es) (st:St):Rows st s x es:=by
 rcases h with⟨rfl,rfl⟩|⟨ds,rfl,rfl,h⟩
 ·exact .nul
 ·exact .sl ds h
theorem gq.ref {x:D} {s:Nat} {es:List (List D)} (h:gq x s es):x.ref=0:=by
 rcases h with⟨rfl,rfl⟩|⟨ds,rfl,rfl,h⟩<;>rfl
theorem gq.arg {x:D} {s:Nat} {es:List (List D)} (h:gq x s es) (N:Nat) (S:St):Arg N S s x es:=⟨h.rows S,by rw[h.ref];omega⟩
theorem gq.cells {x:D} {s:Nat} {es:List (List D)} (h:gq x s es):x.cells?=some [x]∧x.cells=[x]:=by
 rcases h with⟨rfl,rfl⟩|⟨ds,rfl,rfl,h⟩<;>exact⟨rfl,rfl⟩
theorem gq.freeze {x:D} {s:Nat} {es:List (List D)} (h:gq x s es) (st:St) (N n:Nat):∃y,bI st N false (n+1) x=some y∧gq y s es:=by
 rcases h with⟨rfl,rfl⟩|⟨ds,rfl,rfl,h⟩
 ·exact⟨.sl [],rfl,.inr ⟨[],rfl,rfl,fun d hd=>by cases hd⟩⟩
 ·exact⟨.sl ds,rfl,.inr ⟨ds,rfl,rfl,h⟩⟩
theorem gq.frozen {s:Nat} {es:List (List D)} (h:∀e∈es,e.length=s) (hp:∀e∈es,∀d∈e,ch d=true):gq (.sl (es.map (ke s))) s es:=by
 refine .inr ⟨_,rfl,?_,fun d hd=>?_⟩
 ·rw[List.map_map]
  conv=>rhs;rw[←List.map_id es]
  refine List.map_congr_left fun e he=>?_;exact(kc (h e he) (hp e he)).2
 ·obtain⟨e,he,rfl⟩:=List.mem_map.1 hd;obtain⟨h1,h2⟩:=kc (h e he) (hp e he);exact⟨h1,by rw[h2];exact h e he⟩
theorem gq.part {P:Pv} {st:St} {t e:TypeId} {x:D} {s l r:Nat} {es:List (List D)} {lo hi:Option D} (h:gq x s es) (ht:P.cx t=some (.slice e)) (hs:bT P e=some s) (hb:cI es.length lo hi=some (l,r)):∃y,fX P t x lo hi st=some y∧gq y s ((es.take r).drop l):=by
 rcases h with⟨rfl,rfl⟩|⟨ds,rfl,rfl,h⟩
 ·simp only[List.length_nil] at hb;refine⟨.nul,?_,.inl ⟨rfl,by simp⟩⟩;simp only[fX,ht,hs,Option.bind_some,hb,Option.map_some]
 ·rw[List.length_map] at hb;refine⟨.sl ((ds.take r).drop l),?_,.inr ⟨_,rfl,by rw[List.map_drop,List.map_take],fun d hd=>h d (List.mem_of_mem_take (List.mem_of_mem_drop hd))⟩⟩;simp only[fX,ht,hs,Option.bind_some]
  rw[if_pos (by
   cases ds with
   |nil=>rfl
   |cons d ds=>obtain⟨h1,h2⟩:=h d (List.mem_cons_self ..);simp[oA,h1,h2])]
  simp only[hb,Option.map_some]
theorem ae.Iy {P:Pv} {ops:Array Oper} {rest:List Oper} {fr:Fr} {st:St} {Q:Fr→St→Prop} {ty:TypeId} {pp:String} {a:Array Edge} {g:Option (Nat×Bool)} {dst:Nat} {t e:TypeId} {xo:Operand} {lo hi:Option Operand} {x:D} {s:Nat} {es:List (List D)} {l r:Nat} {aI:D→Fr} (hg:aG ops fr ⟨some dst,.slice t xo lo hi none,ty,pp,a,g⟩=some true) (hx:fr.ev xo=x) (hR:gq x s es) (ht:P.cx t=some (.slice e)) (hs:bT P e=some s)
  (hb:cI es.length (lo.map fr.ev) (hi.map fr.ev)=some (l,r)) (hp:∀y,fr.put dst y=aI y)
  (h:∀y,gq y s ((es.take r).drop l)→ae P ops rest (aI y) st Q):ae P ops (⟨some dst,.slice t xo lo hi none,ty,pp,a,g⟩::rest) fr st Q:=by
 obtain⟨y,h1,h2⟩:=hR.part (st:=st) ht hs hb;refine ae.go hg rfl (d:=y) (st1:=st) ?_ (hp y) (h y h2);simp only[di,hx,h1,Option.map_some]
end Go.V
namespace Go.V
inductive cw {α β:Type} (R:α→β→Prop):List α→List β→Prop where
 |nil:cw R [] []
 |cons {a:α} {b:β} {l:List α} {m:List β} (h:R a b) (t:cw R l m):cw R (a::l) (b::m)
theorem cw.mono {α β:Type} {R R':α→β→Prop} (h:∀a b,R a b→R' a b):∀{l:List α} {m:List β},cw R l m→cw R' l m
 |_,_,.nil=>.nil
 |_,_,.cons a t=>.cons (h _ _ a) (t.mono h)
theorem cw.append {α β:Type} {R:α→β→Prop}:∀{l l':List α} {m m':List β},cw R l m→cw R l' m'→cw R (l++l') (m++m')
 |_,_,_,_,.nil,h=>h
 |_,_,_,_,.cons a t,h=>.cons a (t.append h)
theorem cw.len {α β:Type} {R:α→β→Prop}:∀{l:List α} {m:List β},cw R l m→l.length=m.length
 |_,_,.nil=>rfl
 |_,_,.cons a t=>by simp[t.len]
inductive eW (st:St) (ks:Nat→Prop):D→D→Prop where
 |plain (d:D) (h:ch d=true):eW st ks d d
 |aT (w:D) (s:Nat) (rs:List (List D)) (h:gr st s w rs) (hp:∀e∈rs,∀d∈e,ch d=true) (hk:∀k,w.ref=k+1→ks k):eW st ks w (.sl (rs.map (ke s)))
theorem eW.mono {st:St} {ks Lc:Nat→Prop} (h:∀k,ks k→Lc k) {d v:D} (p:eW st ks d v):eW st Lc d v:=by
 cases p with
 |plain h=>exact .plain d h
 |aT s rs h1 h2 h3=>exact .aT d s rs h1 h2 fun k hk=>h k (h3 k hk)
theorem eW.move {st ai:St} {ks:Nat→Prop} (h:∀k,ks k→ai.bs[k]?=st.bs[k]?) {d v:D} (p:eW st ks d v):eW ai ks d v:=by
 cases p with
 |plain h=>exact .plain d h
 |aT s rs h1 h2 h3=>exact .aT d s rs (h1.move fun k hk=>h k (h3 k hk)) h2 h3
theorem gr.K1 {st:St} {s N:Nat} {x:D} {es:List (List D)} (h:gr st s x es) (hN:∀k,x.ref=k+1→N≤k) (hp:∀e∈es,∀d∈e,ch d=true) (n:Nat):ef st N (n+2) x=some (.sl (es.map (ke s))):=by
 cases h with
 |nul=>rfl
 |win k aC off es c hm hl hc he=>
  have:=hN k (by simp only[D.ref]);rw[ef];simp only[if_neg (show¬k<N by omega),St.mem_of hm,Option.bind_some]
  rw[if_pos hl,hc,iO (fun d hd=>by
   obtain⟨e,oX,w6⟩:=List.mem_flatten.1 hd
   exact hp e oX d w6)]
  simp only[Option.map_some,fK he]
theorem eW.pure {st:St} {ks:Nat→Prop} {N:Nat} (hN:∀k,ks k→N≤k) {d v:D} (p:eW st ks d v) (n:Nat):ef st N (n+2) d=some v:=by
 cases p with
 |plain h=>cases d<;>simp[ch] at h<;>rfl
 |aT s rs h1 h2 h3=>exact h1.K1 (fun k hk=>hN k (h3 k hk)) h2 n
theorem pH {f:D→Option D} {R:D→D→Prop} (h:∀a b,R a b→f a=some b):∀{l m:List D},cw R l m→ir f l=some m
 |_,_,.nil=>rfl
 |_,_,.cons a t=>by simp only[ir,h _ _ a,pH h t]
theorem cw.flat {R:D→D→Prop}:∀{l m:List (List D)},cw (cw R) l m→cw R l.flatten m.flatten
 |_,_,.nil=>.nil
 |_,_,.cons a t=>by simp only[List.flatten_cons];exact a.append t.flat
theorem cw.each {s:Nat} {R:D→D→Prop}:∀{l m:List (List D)},cw (cw R) l m→(∀e∈l,e.length=s)→∀e∈m,e.length=s
 |_,_,.nil,_,e,he=>by cases he
 |_,_,.cons a t,h,e,he=>by
  rcases List.mem_cons.1 he with rfl|he
  ·rw[←a.len];exact h _ (List.mem_cons_self ..)
  ·exact t.each (fun x hx=>h x (List.mem_cons_of_mem _ hx)) e he
def cz.emp:cz:=⟨fun _=>False,fun _=>True,fun _ p=>p⟩
def cz.deep (ks:Nat→Prop) (x:D) (s:Nat) (vs:List (List D)):cz:=
 ⟨fun j=>x.ref=j+1∨ks j,fun st=>(∃es,gr st s x es∧cw (cw (eW st ks)) es vs)∧∀k,x.ref=k+1→¬ks k,fun h p=>by
  obtain⟨⟨es,h1,h2⟩,h3⟩:=p
  exact⟨⟨es,h1.move fun k hk=>h k (.inl hk),h2.mono fun a b=>cw.mono fun c d=>eW.move fun k hk=>h k (.inr hk)⟩,h3⟩⟩
variable{N:Nat} {S st:St} {H:List cz}
theorem Has.ND (h:Has N S st H) (s:Nat):Has N S st (.deep (fun _=>False) .nul s []::H):=
 h.add (fun _ _=>rfl) (Nat.le_refl _) rfl rfl ⟨⟨[],.nul,.nil⟩,fun k hk=>by simp only[D.ref] at hk;omega⟩ fun k hk=>by
  rcases hk with hk|hk
  ·simp only[D.ref] at hk;omega
  ·exact hk.elim
theorem Has.J4 {i j:Nat} {w x:D} {sw s:Nat} {rs vs:List (List D)} {ks:Nat→Prop} (h:Has N S st H) (hij:i≠j) (hi:H[i]?=some (.aT w sw rs)) (hj:H[j]?=some (.deep ks x s vs)) (hp:∀e∈rs,∀d∈e,ch d=true):
  Has N S st ((H.set i .emp).set j (.deep (fun k=>ks k∨w.ref=k+1) x s vs))∧eW st (fun k=>ks k∨w.ref=k+1) w (.sl (rs.map (ke sw))):=by
 have TK:=h.own hi;obtain⟨⟨es,h1,h2⟩,h3⟩:=(h.ok j _ hj).1;have Vw:=(h.ok i _ hi).2;have RZ:=(h.ok j _ hj).2;have Pa:=h.dis i j _ _ hij hi hj;refine⟨⟨h.ex,h.hN,h.fg,fun n e hn=>?_,fun a b ea eb hab ha hb k tS iD=>?_⟩,.aT w sw rs TK hp fun k hk=>.inr hk⟩
 ·by_cases hnj:n=j
  ·subst hnj;rw[List.getElem?_set_self (by rw[List.length_set];exact cn hj)] at hn;cases hn;refine⟨⟨⟨es,h1,h2.mono fun a b=>cw.mono fun c d=>eW.mono fun k hk=>.inl hk⟩,fun k hk=>?_⟩,fun k hk=>?_⟩
   ·rintro(hk2|hk2)
    ·exact h3 k hk hk2
    ·exact Pa k hk2 (.inl hk)
   ·rcases hk with hk|hk|hk
    ·exact RZ k (.inl hk)
    ·exact RZ k (.inr hk)
    ·exact Vw k hk
  ·rw[List.getElem?_set_ne (fun e=>hnj e.symm)] at hn
   by_cases hni:n=i
   ·subst hni;rw[List.getElem?_set_self (cn hi)] at hn;cases hn;exact⟨trivial,fun k hk=>hk.elim⟩
   ·rw[List.getElem?_set_ne (fun e=>hni e.symm)] at hn;exact h.ok n e hn
 ·have key:∀n e,((H.set i .emp).set j (.deep (fun k=>ks k∨w.ref=k+1) x s vs))[n]?=some e→∀k,e.K k→(n=j∧((cz.deep ks x s vs).K k∨(cz.aT w sw rs).K k))∨(n≠j∧n≠i∧H[n]?=some e):=by
   intro n e hn k hk
   by_cases hnj:n=j
   ·subst hnj;rw[List.getElem?_set_self (by rw[List.length_set];exact cn hj)] at hn;cases hn;refine .inl ⟨rfl,?_⟩
    rcases hk with hk|hk|hk
    ·exact .inl (.inl hk)
    ·exact .inl (.inr hk)
    ·exact .inr hk
   ·rw[List.getElem?_set_ne (fun e=>hnj e.symm)] at hn
    by_cases hni:n=i
    ·subst hni;rw[List.getElem?_set_self (cn hi)] at hn;cases hn;exact hk.elim
    ·rw[List.getElem?_set_ne (fun e=>hni e.symm)] at hn;exact .inr ⟨hnj,hni,hn⟩
  rcases key a ea ha k tS with⟨h4,h5⟩|⟨h4,h5,h6⟩<;>rcases key b eb hb k iD with⟨g4,g5⟩|⟨g4,g5,g6⟩
  ·exact hab (h4.trans g4.symm)
  ·rcases h5 with h5|h5
   ·exact h.dis j b _ _ (fun e=>g4 e.symm) hj g6 k h5 iD
   ·exact h.dis i b _ _ (fun e=>g5 e.symm) hi g6 k h5 iD
  ·rcases g5 with g5|g5
   ·exact h.dis a j _ _ h4 h6 hj k tS g5
   ·exact h.dis a i _ _ h5 h6 hi k tS g5
  ·exact h.dis a b _ _ hab h6 g6 k tS iD
theorem Has.rU {P:Pv} {j:Nat} {x y:D} {s:Nat} {ks:Nat→Prop} {vs ys Kt:List (List D)} (hH:Has N S st H) (hj:H[j]?=some (.deep ks x s vs)) (hy:Rows st s y ys) (hd:cw (cw (eW st ks)) ys Kt) {t1 t2 e:TypeId} {td:TypeDesc} {inf:TypeInfo} {z:List D}
  (h1:P.cx t1=some (.slice e)) (h2:P.cx t2=some td) (h3:fH td=false) (h4:P.info e=some inf) (h5:dj P e=some z) (h6:inf.size=s) (h7:z.length=s) (h8:0<inf.bytes∧inf.bytes≤1024)
  (kQ:vs.length+ys.length≤1073741824) (hw:S.flr≤N∨refs ys.flatten=0):
  ∃x' ai,bB P .append [t1,t2] [x,y] st=some (x',ai)∧Has N S ai (H.set j (.deep ks x' s (vs++Kt))):=by
 obtain⟨⟨es,jj,su⟩,he3⟩:=(hH.ok j _ hj).1;have hK:=(hH.ok j _ hj).2;have hlen:=su.len
 have Pq:Has N S st [.aT x s es]:=by
  refine⟨hH.ex,hH.hN,hH.fg,fun i e hi=>?_,fun i i' a b hii ha hb k tS iD=>?_⟩
  ·cases i with
   |zero=>simp only[List.getElem?_cons_zero,Option.some.injEq] at hi;subst hi;exact⟨jj,fun k hk=>hK k (.inl hk)⟩
   |succ i=>simp at hi
  ·cases i with
   |zero=>cases i' with
    |zero=>exact hii rfl
    |succ i'=>simp at hb
   |succ i=>simp at ha
 obtain⟨x',ai,q1,q2,q3⟩:=Pq.append (j:=0) aB hy h1 h2 h3 h4 h5 h6 h7 h8 (by omega) hw;refine⟨x',ai,q1,?_⟩;have hown:=q2.own (j:=0) aB
 have Pf:(∀k,k<st.bs.length→x.ref≠k+1→ai.bs[k]?=st.bs[k]?)∧st.bs.length≤ai.bs.length∧ai.flr=st.flr∧ai.ro=st.ro∧(∀k,x'.ref=k+1→x.ref=k+1∨st.bs.length≤k):=by
  have jg:=hy.row
  have zE:∀e∈ys,e.length=s:=fun e he=>by
   obtain⟨i,hi⟩:=List.getElem?_of_mem he;exact hy.rQ i e hi
  simp only[bB,gp,h1,h2,h3,Bool.false_eq_true,if_false,h4,h5,jg,Option.bind_some] at q1
  split at q1
  ·cases q1
  ·cases jj with
   |nul=>
    simp only at q1
    split at q1
    ·cases q1;exact⟨fun _ _ _=>rfl,Nat.le_refl _,rfl,rfl,fun k hk=>.inl hk⟩
    ·split at q1
     ·cases q1;exact⟨fun k hk _=>by simp only[St.push];rw[List.getElem?_append_left hk],by simp[St.push],rfl,rfl,fun k hk=>.inr (by simp only[D.ref] at hk;omega)⟩
     ·cases q1
   |win k aC off es c hm hl hc he=>
    simp only[St.mem_of hm] at q1
    split at q1
    ·cases q1
    ·split at q1
     ·cases q1;exact⟨fun _ _ _=>rfl,Nat.le_refl _,rfl,rfl,fun k hk=>.inl hk⟩
     ·split at q1
      ·cases q1;exact⟨fun n hn hne=>by simp only;rw[List.getElem?_set_ne (fun e=>hne (by simp only[D.ref];omega))],by simp,rfl,rfl,fun n hn=>.inl (by simp only[D.ref] at hn⊢;exact hn)⟩
      ·cases q1
 obtain⟨c1,c2,c3,c4,c5⟩:=Pf;have NX:=(q2.ok 0 _ aB).2;have tQ:∀k,ks k→ai.bs[k]?=st.bs[k]?:=fun k hk=>c1 k (hK k (.inr hk)).2 fun e=>he3 k e hk;refine hH.xr hj (fun k hk hne=>c1 k hk fun e=>hne (.inl e)) c2 c3 c4 ⟨⟨es++ys,hown,?_⟩,fun k hk sm=>?_⟩ (fun k hk=>?_) fun k hk=>?_
 ·exact(su.mono fun a b=>cw.mono fun c d=>eW.move tQ).append (hd.mono fun a b=>cw.mono fun c d=>eW.move tQ)
 ·rcases c5 k hk with h|h
  ·exact he3 k h sm
  ·have:=(hK k (.inr sm)).2;omega
 ·rcases hk with hk|hk
  ·rcases c5 k hk with h|h
   ·exact .inl (.inl h)
   ·exact .inr h
  ·exact .inl (.inr hk)
 ·rcases hk with hk|hk
  ·exact(NX k hk).2
  ·exact Nat.lt_of_lt_of_le (hK k (.inr hk)).2 c2
theorem ae.rU {P:Pv} {ops:Array Oper} {rest:List Oper} {fr:Fr} {Q:Fr→St→Prop} {ty:TypeId} {pp:String} {a:Array Edge} {g:Option (Nat×Bool)} {dst:Nat} {j:Nat} {x y:D} {s:Nat} {ks:Nat→Prop} {vs ys Kt:List (List D)} {t1 t2 e:TypeId} {td:TypeDesc} {inf:TypeInfo} {z:List D} {xo yo:Operand} {aI:D→Fr} (hH:Has N S st H) (hg:aG ops fr ⟨some dst,.call ⟨.builtin .append,#[xo,yo],#[t1,t2]⟩,ty,pp,a,g⟩=some true)
  (hx:fr.ev xo=x) (hy:fr.ev yo=y) (hj:H[j]?=some (.deep ks x s vs)) (ja:Rows st s y ys) (hd:cw (cw (eW st ks)) ys Kt)
  (h1:P.cx t1=some (.slice e)) (h2:P.cx t2=some td) (h3:fH td=false) (h4:P.info e=some inf) (h5:dj P e=some z) (h6:inf.size=s) (h7:z.length=s) (h8:0<inf.bytes∧inf.bytes≤1024)
  (hp:∀x',fr.put dst x'=aI x') (hb:vs.length+ys.length≤1073741824) (hw:S.flr≤N∨refs ys.flatten=0)
  (h:∀x' ai,Has N S ai (H.set j (.deep ks x' s (vs++Kt)))→ae P ops rest (aI x') ai Q):
  ae P ops (⟨some dst,.call ⟨.builtin .append,#[xo,yo],#[t1,t2]⟩,ty,pp,a,g⟩::rest) fr st Q:=by
 obtain⟨x',ai,q1,q2⟩:=hH.rU hj ja hd h1 h2 h3 h4 h5 h6 h7 h8 hb hw;refine ae.go hg rfl (d:=x') (st1:=ai) ?_ (hp _) (h x' ai q2);simp only[di,List.map_cons,List.map_nil,hx,hy];exact q1
theorem Has.Ad {j:Nat} {x:D} {s:Nat} {ks:Nat→Prop} {vs:List (List D)} (hH:Has N S st H) (hj:H[j]?=some (.deep ks x s vs)) {n:Nat} (hn:4≤n):bI st N false (n+1) x=some (.sl (vs.map (ke s))):=by
 obtain⟨n,rfl⟩:∃m,n=m+4:=⟨n-4,by omega⟩
 obtain⟨⟨es,h1,h2⟩,h3⟩:=(hH.ok j _ hj).1;have hK:=(hH.ok j _ hj).2
 cases h1 with
 |nul=>cases h2;rfl
 |win k aC off es c hm hl hc he=>
  have hk:=hK k (.inl (by simp only[D.ref]));show(if k<N then some (D.win k aC off es.length s) else ef st N (n+4) (.win k aC off es.length s))=_;rw[if_neg (show¬k<N by omega),ef];simp only[if_neg (show¬k<N by omega),St.mem_of hm,Option.bind_some];rw[if_pos hl,hc,pH (fun a b hab=>hab.pure (fun k hk=>(hK k (.inr hk)).1) (n+1)) h2.flat];simp only[Option.map_some];rw[h2.len,fK (h2.each he)]
theorem Has.ED {j:Nat} {x:D} {s:Nat} {es:List (List D)} (hH:Has N S st H) (hj:H[j]?=some (.aT x s es)) (hp:∀e∈es,∀d∈e,ch d=true) {n:Nat} (hn:3≤n):bI st N false n x=some (.sl (es.map (ke s))):=by
 obtain⟨n,rfl⟩:∃m,n=m+1:=⟨n-1,by omega⟩
 exact hH.freeze hj hp (by omega)
theorem gr.cells {s:Nat} {x:D} {es:List (List D)} (h:gr st s x es):x.cells?=some [x]:=by cases h<;>rfl
theorem Has.Ao {j:Nat} {x:D} {s:Nat} {ks:Nat→Prop} {vs:List (List D)} (hH:Has N S st H) (hj:H[j]?=some (.deep ks x s vs)):x.cells?=some [x]:=by
 obtain⟨⟨es,h1,_⟩,_⟩:=(hH.ok j _ hj).1;exact h1.cells
theorem Has.iN {j:Nat} {x:D} {s:Nat} {es:List (List D)} (hH:Has N S st H) (hj:H[j]?=some (.aT x s es)):x.cells?=some [x]:=(hH.own hj).cells
def vK (fr:Fr):List (Nat×Operand)→List (Nat×D)→Prop
 |[],[]=>True
 |(i,o)::ps,(j,d)::qs=>i=j∧fr.ev o=d∧d.cells?=some [d]∧vK fr ps qs
 |_,_=>False
theorem pR {fr:Fr} {pl:Nat→Option (Nat×Nat)}:∀{ps:List (Nat×Operand)} {qs:List (Nat×D)} {z:List D},vK fr ps qs→(∀q∈qs,pl q.1=some (q.1,1)∧q.1<z.length)→gf pl z (ps.map fun p=>(p.1,fr.ev p.2))=some (qs.foldl (fun l q=>l.set q.1 q.2) z)
 |[],[],z,_,_=>rfl
 |(i,o)::ps,(j,d)::qs,z,h,hp=>by
  obtain⟨rfl,h2,h3,h4⟩:=h;obtain⟨h5,h6⟩:=hp (i,d) (List.mem_cons_self ..);simp only[List.map_cons,gf,h2,h3,h5,List.foldl_cons];rw[if_neg (by simp only[List.length_cons,List.length_nil];simp only at h6;omega)];simp only[setMany]
  exact pR h4 fun q hq=>by
   have:=hp q (List.mem_cons_of_mem _ hq)
   simpa using this
 |[],_::_,_,h,_=>h.elim
 |_::_,[],_,h,_=>h.elim
theorem ae.gB {P:Pv} {ops:Array Oper} {rest:List Oper} {fr aI:Fr} {Q:Fr→St→Prop} {ty:TypeId} {pp:String} {a:Array Edge} {g:Option (Nat×Bool)} {dst:Nat} {t:TypeId} {parts:Array (Nat×Operand)} {z cs:List D} {fields:Array Field} {ps:List (Nat×Nat)} {qs:List (Nat×D)} (hg:aG ops fr ⟨some dst,.build t parts,ty,pp,a,g⟩=some true) (hz:dj P t=some z) (hu:P.cx t=some (.struct fields)) (N':j0 P fields.toList=some ps) (he:vK fr parts.toList qs) (ji:∀q∈qs,ps[q.1]?=some (q.1,1)∧q.1<z.length) (jc:qs.foldl (fun l q=>l.set q.1 q.2) z=cs) (hp:fr.put dst (.agg cs)=aI)
  (h:ae P ops rest aI st Q):ae P ops (⟨some dst,.build t parts,ty,pp,a,g⟩::rest) fr st Q:=by
 refine ae.go hg rfl (d:=.agg cs) (st1:=st) ?_ hp h;simp only[di,rW,hz,hu,N'];rw[pR (pl:=fun i=>ps[i]?) he ji,jc];rfl
theorem Has.cm {P:Pv} {fr:Fr} {a k aC off j u:Nat} {t:TypeId} {ar:Bool} {c:List D} {d e:D} (hH:Has N S st H) (ha:fr.get a=.ptr k aC off) (hj:H[j]?=some (.box k (.mem aC ar c))) (hd:dn P t (c.drop off)=some d) (he:fr.get u=e):iJ P fr st [.cell a t,.tmp u]=some [d,e]:=by
 simp only[iJ,eU,ha,St.mem_of (hH.at hj),Option.bind_some,hd,Option.map_some,he]
theorem ae.EA {P:Pv} {ops:Array Oper} {rest:List Oper} {fr aI:Fr} {Q:Fr→St→Prop} {ty:TypeId} {pp:String} {a:Array Edge} {g:Option (Nat×Bool)} {dst:Nat} {t e:TypeId} {xo io:Operand} {k v off m s o:Nat} {kk:IntKind} {i:Nat} (hg:aG ops fr ⟨some dst,.indexAddr t xo io,ty,pp,a,g⟩=some true) (hx:fr.ev xo=.ptr k v off) (hi:fr.ev io=.int kk (i:Nat)) (ht:P.cx t=some (.array m e)) (hs:bT P e=some s) (hlt:i<m) (ho:off+i*s=o) (hp:fr.put dst (.ptr k v o)=aI)
  (h:ae P ops rest aI st Q):ae P ops (⟨some dst,.indexAddr t xo io,ty,pp,a,g⟩::rest) fr st Q:=by
 subst ho;refine ae.go hg rfl (d:=.ptr k v (off+i*s)) (st1:=st) ?_ hp h;simp only[di,hx,hi,bR,ht,hs,Option.bind_some];rw[if_pos ⟨by omega,by omega⟩];rfl
end Go.V
namespace Go.V
variable{P:Pv} {ops:Array Oper} {rest:List Oper} {fr aI:Fr} {st st1:St} {Q:Fr→St→Prop} {ty:TypeId} {pp:String} {a:Array Edge} {g:Option (Nat×Bool)} {dst:Nat} {N:Nat} {S:St} {H:List cz} {d:D} {op:Op}
theorem qm {op:Op} {x:Operand} {d:D} (h:ae P ops rest aI st Q) (fm:op=.move x∨op=.assign x:=by first|exact .inl rfl|exact .inr rfl) (hg:aG ops fr ⟨some dst,op,ty,pp,a,g⟩=some true:=by exact rfl) (hx:fr.ev x=d:=by exact ev rfl) (hp:fr.put dst d=aI:=by first|exact ag rfl _|(dsimp only[Fr.put,List.set_cons_succ,List.set_cons_zero]<;>rfl)):ae P ops (⟨some dst,op,ty,pp,a,g⟩::rest) fr st Q:=
 ae.mv (fm:=fm) (hg:=hg) (hx:=hx) (hp:=hp) (h:=h)
theorem qs {op:Op} (h:ae P ops rest aI st Q) (hg:aG ops fr ⟨some dst,op,ty,pp,a,g⟩=some false:=by exact rfl) (hp:fr.put dst (.tup [])=aI:=by first|exact ag rfl _|(dsimp only[Fr.put,List.set_cons_succ,List.set_cons_zero]<;>rfl)):ae P ops (⟨some dst,op,ty,pp,a,g⟩::rest) fr st Q:=
 ae.skip (hg:=hg) (hp:=hp) (h:=h)
theorem qp {t:TypeId} {xo:Operand} {k aC off o f fo m:Nat} {fields:Array Field} (h:ae P ops rest aI st Q) (hg:aG ops fr ⟨some dst,.fieldAddr t xo f,ty,pp,a,g⟩=some true:=by exact rfl) (hx:fr.ev xo=.ptr k aC off:=by exact ev rfl) (ht:P.cx t=some (.struct fields):=by exact rfl) (hf:kJ P fields f=some (fo,some (m+1)):=by exact rfl) (ho:off+fo=o:=by exact rfl) (hp:fr.put dst (.ptr k aC o)=aI:=by first|exact ag rfl _|(dsimp only[Fr.put,List.set_cons_succ,List.set_cons_zero]<;>rfl)):ae P ops (⟨some dst,.fieldAddr t xo f,ty,pp,a,g⟩::rest) fr st Q:=
 ae.Iz (hg:=hg) (hx:=hx) (ht:=ht) (hf:=hf) (ho:=ho) (hp:=hp) (h:=h)
theorem ql {j k aC off:Nat} {ar:Bool} {c:List D} {d:D} {t:TypeId} {ao:Operand} (hH:Has N S st H) (hj:H[j]?=some (.box k (.mem aC ar c))) (h:ae P ops rest aI st Q) (hg:aG ops fr ⟨some dst,.load t ao,ty,pp,a,g⟩=some true:=by exact rfl) (ha:fr.ev ao=.ptr k aC off:=by exact ev rfl) (hd:dn P t (c.drop off)=some d:=by exact rfl) (hp:fr.put dst d=aI:=by first|exact ag rfl _|(dsimp only[Fr.put,List.set_cons_succ,List.set_cons_zero]<;>rfl)):ae P ops (⟨some dst,.load t ao,ty,pp,a,g⟩::rest) fr st Q:=
 ae.Fb (hH:=hH) (hg:=hg) (ha:=ha) (hj:=hj) (hd:=hd) (hp:=hp) (h:=h)
theorem qg {op:Op} {d:D} {st1:St} (h:ae P ops rest aI st1 Q) (hg:aG ops fr ⟨some dst,op,ty,pp,a,g⟩=some true:=by exact rfl) (hc:gD op=false:=by exact rfl) (h1:di P fr st op ty=some (d,st1):=by exact rfl) (hp:fr.put dst d=aI:=by first|exact ag rfl _|(dsimp only[Fr.put,List.set_cons_succ,List.set_cons_zero]<;>rfl)):ae P ops (⟨some dst,op,ty,pp,a,g⟩::rest) fr st Q:=
 ae.go (hg:=hg) (hc:=hc) (h1:=h1) (hp:=hp) (h:=h)
theorem qn {t e:TypeId} {xo:Operand} {x:D} {s:Nat} {es:List (List D)} (h:ae P ops rest aI st Q) (hg:aG ops fr ⟨some dst,.call ⟨.builtin .len,#[xo],#[t]⟩,ty,pp,a,g⟩=some true:=by exact rfl) (hx:fr.ev xo=x:=by exact ev rfl) (hR:Rows st s x es:=by exact Arg.rows (by assumption) (by assumption)) (ht:P.cx t=some (.slice e):=by exact rfl) (hp:fr.put dst (.int .i64 (es.length:Nat))=aI:=by first|exact ag rfl _|(dsimp only[Fr.put,List.set_cons_succ,List.set_cons_zero]<;>rfl)):ae P ops (⟨some dst,.call ⟨.builtin .len,#[xo],#[t]⟩,ty,pp,a,g⟩::rest) fr st Q:=
 ae.KZ (hg:=hg) (hx:=hx) (hR:=hR) (ht:=ht) (hp:=hp) (h:=h)
theorem qr {t e:TypeId} {xo io:Operand} {x:D} {s i:Nat} {kk:IntKind} {es:List (List D)} {r:List D} {aI:D→Fr} (h:∀p,jU st p r→ae P ops rest (aI p) st Q) (hg:aG ops fr ⟨some dst,.indexAddr t xo io,ty,pp,a,g⟩=some true:=by exact rfl) (hx:fr.ev xo=x:=by exact ev rfl) (hi:fr.ev io=.int kk (i:Nat):=by exact ev rfl) (hR:Rows st s x es:=by exact Arg.rows (by assumption) (by assumption)) (ht:P.cx t=some (.slice e):=by exact rfl) (hs:bT P e=some s:=by exact rfl) (hr:es[i]?=some r:=by assumption) (hp:∀p,fr.put dst p=aI p:=by first|exact fun _=>ag rfl _|exact fun _=>by dsimp only[Fr.put,List.set_cons_succ,List.set_cons_zero]<;>rfl):ae P ops (⟨some dst,.indexAddr t xo io,ty,pp,a,g⟩::rest) fr st Q:=
 ae.Nn (hg:=hg) (hx:=hx) (hi:=hi) (hR:=hR) (ht:=ht) (hs:=hs) (hr:=hr) (hp:=hp) (h:=h)
theorem qR {t:TypeId} {ao:Operand} {x d:D} {r:List D} (h:ae P ops rest aI st Q) (hg:aG ops fr ⟨some dst,.load t ao,ty,pp,a,g⟩=some true:=by exact rfl) (ha:fr.ev ao=x:=by exact ev rfl) (hR:jU st x r:=by assumption) (hd:dn P t r=some d:=by exact rfl) (hp:fr.put dst d=aI:=by first|exact ag rfl _|(dsimp only[Fr.put,List.set_cons_succ,List.set_cons_zero]<;>rfl)):ae P ops (⟨some dst,.load t ao,ty,pp,a,g⟩::rest) fr st Q:=
 ae.EY (hg:=hg) (ha:=ha) (hR:=hR) (hd:=hd) (hp:=hp) (h:=h)
theorem qf {t:TypeId} {xo:Operand} {x:D} {r:List D} {f fo m:Nat} {fields:Array Field} {aI:D→Fr} (h:∀p,jU st p (r.drop fo)→ae P ops rest (aI p) st Q) (hg:aG ops fr ⟨some dst,.fieldAddr t xo f,ty,pp,a,g⟩=some true:=by exact rfl) (hx:fr.ev xo=x:=by exact ev rfl) (hR:jU st x r:=by assumption) (ht:P.cx t=some (.struct fields):=by exact rfl) (hf:kJ P fields f=some (fo,some (m+1)):=by exact rfl) (hp:∀p,fr.put dst p=aI p:=by first|exact fun _=>ag rfl _|exact fun _=>by dsimp only[Fr.put,List.set_cons_succ,List.set_cons_zero]<;>rfl):ae P ops (⟨some dst,.fieldAddr t xo f,ty,pp,a,g⟩::rest) fr st Q:=
 ae.DN (hg:=hg) (hx:=hx) (hR:=hR) (ht:=ht) (hf:=hf) (hp:=hp) (h:=h)
theorem qi {t e:TypeId} {xo io:Operand} {x:D} {s i j:Nat} {kk:IntKind} {es:List (List D)} {aI:D→Fr} (hH:Has N S st H) (hj:H[j]?=some (.aT x s es)) (h:∀p,nr x s i 0 p→ae P ops rest (aI p) st Q) (hg:aG ops fr ⟨some dst,.indexAddr t xo io,ty,pp,a,g⟩=some true:=by exact rfl) (hx:fr.ev xo=x:=by exact ev rfl) (hi:fr.ev io=.int kk (i:Nat):=by exact ev rfl) (ht:P.cx t=some (.slice e):=by exact rfl) (hs:bT P e=some s:=by exact rfl) (hr:i<es.length:=by exact cn (by assumption)) (hp:∀p,fr.put dst p=aI p:=by first|exact fun _=>ag rfl _|exact fun _=>by dsimp only[Fr.put,List.set_cons_succ,List.set_cons_zero]<;>rfl):ae P ops (⟨some dst,.indexAddr t xo io,ty,pp,a,g⟩::rest) fr st Q:=
 ae.NA (hH:=hH) (hg:=hg) (hx:=hx) (hi:=hi) (hj:=hj) (ht:=ht) (hs:=hs) (hr:=hr) (hp:=hp) (h:=h)
theorem qo {t:TypeId} {ao:Operand} {x y d:D} {s i o j:Nat} {es:List (List D)} {r:List D} (hH:Has N S st H) (hj:H[j]?=some (.aT x s es)) (h:ae P ops rest aI st Q) (hg:aG ops fr ⟨some dst,.load t ao,ty,pp,a,g⟩=some true:=by exact rfl) (ha:fr.ev ao=y:=by exact ev rfl) (hR:nr x s i o y:=by assumption) (hr:es[i]?=some r:=by assumption) (hd:dn P t (r.drop o)=some d:=by exact rfl) (hp:fr.put dst d=aI:=by first|exact ag rfl _|(dsimp only[Fr.put,List.set_cons_succ,List.set_cons_zero]<;>rfl)):ae P ops (⟨some dst,.load t ao,ty,pp,a,g⟩::rest) fr st Q:=
 ae.E0 (hH:=hH) (hg:=hg) (ha:=ha) (hR:=hR) (hj:=hj) (hr:=hr) (hd:=hd) (hp:=hp) (h:=h)
theorem qS {j k aC:Nat} {ar:Bool} {c cs:List D} {v:D} {t:TypeId} {ao vo:Operand} (hH:Has N S st H) (hj:H[j]?=some (.box k (.mem aC ar c))) (h:∀ai,Has N S ai (H.set j (.box k (.mem aC ar cs)))→ae P ops rest fr ai Q) (hg:aG ops fr ⟨none,.store t ao vo,ty,pp,a,g⟩=some true:=by exact rfl) (ha:fr.ev ao=.ptr k aC 0:=by exact ev rfl) (hv:fr.ev vo=v:=by exact ev rfl) (jc:v.cells?=some cs:=by first|rfl|exact(gq.cells (by assumption)).1) (hs:bT P t=some cs.length:=by exact rfl) (hl:cs.length=c.length:=by exact rfl) (hw:S.flr≤N∨refs cs=0:=by first|exact .inl (by assumption)|exact .inr rfl):ae P ops (⟨none,.store t ao vo,ty,pp,a,g⟩::rest) fr st Q:=
 ae.rB (hH:=hH) (hg:=hg) (ha:=ha) (hv:=hv) (jc:=jc) (hs:=hs) (hj:=hj) (hl:=hl) (hw:=hw) (h:=h)
theorem qT {j k aC off:Nat} {ar:Bool} {c cs:List D} {v:D} {t:TypeId} {ao vo:Operand} (hH:Has N S st H) (hj:H[j]?=some (.box k (.mem aC ar c))) (h:∀ai,Has N S ai (H.set j (.box k (.mem aC ar (setMany c off cs))))→ae P ops rest fr ai Q) (hg:aG ops fr ⟨none,.store t ao vo,ty,pp,a,g⟩=some true:=by exact rfl) (ha:fr.ev ao=.ptr k aC off:=by exact ev rfl) (hv:fr.ev vo=v:=by exact ev rfl) (jc:v.cells?=some cs:=by first|rfl|exact(gq.cells (by assumption)).1) (hs:bT P t=some cs.length:=by exact rfl) (hl:off+cs.length≤c.length:=by exact Nat.le_of_ble_eq_true rfl) (hw:S.flr≤N∨refs cs=0:=by first|exact .inl (by assumption)|exact .inr rfl):ae P ops (⟨none,.store t ao vo,ty,pp,a,g⟩::rest) fr st Q:=
 ae.ow (hH:=hH) (hg:=hg) (ha:=ha) (hv:=hv) (jc:=jc) (hs:=hs) (hj:=hj) (hl:=hl) (hw:=hw) (h:=h)
theorem qa {e:TypeId} {cs:List D} {aI:Nat→Fr} (hH:Has N S st H) (h:∀k ai,S.bs.length≤k→Has N S ai (.box k (.mem 0 false cs)::H)→ae P ops rest (aI k) ai Q) (hg:aG ops fr ⟨some dst,.alloc e,ty,pp,a,g⟩=some true:=by exact rfl) (hz:dj P e=some cs:=by exact rfl) (hp:∀k,fr.put dst (.ptr k 0 0)=aI k:=by first|exact fun _=>ag rfl _|exact fun _=>by dsimp only[Fr.put,List.set_cons_succ,List.set_cons_zero]<;>rfl):ae P ops (⟨some dst,.alloc e,ty,pp,a,g⟩::rest) fr st Q:=
 ae.oF (hH:=hH) (hg:=hg) (hz:=hz) (hp:=hp) (h:=h)
theorem qb {e:TypeId} {xo:Operand} {cs:List D} {aI:Nat→Fr} (hH:Has N S st H) (h:∀k ai,S.bs.length≤k→Has N S ai (.box k (.mem 0 false cs)::H)→ae P ops rest (aI k) ai Q) (hg:aG ops fr ⟨some dst,.box e xo,ty,pp,a,g⟩=some true:=by exact rfl) (hz:(fr.ev xo).cells?=some cs:=by exact rfl) (hp:∀k,fr.put dst (.ptr k 0 0)=aI k:=by first|exact fun _=>ag rfl _|exact fun _=>by dsimp only[Fr.put,List.set_cons_succ,List.set_cons_zero]<;>rfl):ae P ops (⟨some dst,.box e xo,ty,pp,a,g⟩::rest) fr st Q:=
 ae.ya (hH:=hH) (hg:=hg) (hz:=hz) (hp:=hp) (h:=h)
theorem qA {t jq:TypeId} {xo yo:Operand} {x y:Int} (h:ae P ops rest aI st Q) (hg:aG ops fr ⟨some dst,.binOp .add t xo yo jq,ty,pp,a,g⟩=some true:=by exact rfl) (hx:fr.ev xo=.int .i64 x:=by exact ev rfl) (hy:fr.ev yo=.int .i64 y:=by exact ev rfl) (h1:-9223372036854775808≤x+y:=by omega) (h2:x+y≤9223372036854775807:=by omega) (hp:fr.put dst (.int .i64 (x+y))=aI:=by first|exact ag rfl _|(dsimp only[Fr.put,List.set_cons_succ,List.set_cons_zero]<;>rfl)):ae P ops (⟨some dst,.binOp .add t xo yo jq,ty,pp,a,g⟩::rest) fr st Q:=
 ae.J3 (hg:=hg) (hx:=hx) (hy:=hy) (h1:=h1) (h2:=h2) (hp:=hp) (h:=h)
theorem qP {j:Nat} {x y:D} {s:Nat} {es ys:List (List D)} {t1 t2 e:TypeId} {td:TypeDesc} {inf:TypeInfo} {z:List D} {xo yo:Operand} {aI:D→Fr} (hH:Has N S st H) (hj:H[j]?=some (.aT x s es)) (ja:Rows st s y ys) (h:∀x' ai,Has N S ai (H.set j (.aT x' s (es++ys)))→ae P ops rest (aI x') ai Q) (hg:aG ops fr ⟨some dst,.call ⟨.builtin .append,#[xo,yo],#[t1,t2]⟩,ty,pp,a,g⟩=some true:=by exact rfl) (hx:fr.ev xo=x:=by exact ev rfl) (hy:fr.ev yo=y:=by exact ev rfl) (h1:P.cx t1=some (.slice e):=by exact rfl) (h2:P.cx t2=some td:=by exact rfl) (h3:fH td=false:=by exact rfl) (h4:P.info e=some inf:=by exact rfl) (h5:dj P e=some z:=by exact rfl) (h6:inf.size=s:=by exact rfl) (h7:z.length=s:=by exact rfl) (h8:0<inf.bytes∧inf.bytes≤1024:=by exact⟨Nat.le_of_ble_eq_true rfl,Nat.le_of_ble_eq_true rfl⟩) (hp:∀x',fr.put dst x'=aI x':=by first|exact fun _=>ag rfl _|exact fun _=>by dsimp only[Fr.put,List.set_cons_succ,List.set_cons_zero]<;>rfl) (hb:es.length+ys.length≤1073741824:=by first|omega|(simp only[List.length_append,List.length_cons,List.length_nil,List.length_map,List.length_replicate,List.length_set,List.length_reverse]<;>omega)) (hw:S.flr≤N∨refs ys.flatten=0:=by first|exact .inl (by assumption)|exact .inr rfl):ae P ops (⟨some dst,.call ⟨.builtin .append,#[xo,yo],#[t1,t2]⟩,ty,pp,a,g⟩::rest) fr st Q:=
 ae.bG (hH:=hH) (hg:=hg) (hx:=hx) (hy:=hy) (hj:=hj) (ja:=ja) (h1:=h1) (h2:=h2) (h3:=h3) (h4:=h4) (h5:=h5) (h6:=h6) (h7:=h7) (h8:=h8) (hp:=hp) (hb:=hb) (hw:=hw) (h:=h)
theorem qh {t e:TypeId} {m s:Nat} {parts:Array (Nat×Operand)} {z:List D} {vs:List D} {aI:Nat→Fr} (hH:Has N S st H) (h:∀k ai,S.bs.length≤k→Has N S ai (.aT (.win k 0 0 m s) s (vs.map D.cells)::H)→ae P ops rest (aI k) ai Q) (hg:aG ops fr ⟨some dst,.buildSlice t m parts,ty,pp,a,g⟩=some true:=by exact rfl) (ht:P.cx t=some (.slice e):=by exact rfl) (hs:bT P e=some s:=by exact rfl) (hz:dj P e=some z:=by exact rfl) (lT:z.length=s:=by exact rfl) (hm:m*s≤16777216:=by exact Nat.le_of_ble_eq_true rfl) (MX:xe fr 0 parts.toList vs:=by first|exact⟨rfl,ev rfl,trivial⟩|exact⟨rfl,ev rfl,rfl,ev rfl,trivial⟩|exact⟨rfl,ev rfl,rfl,ev rfl,rfl,ev rfl,trivial⟩|exact⟨rfl,ev rfl,rfl,ev rfl,rfl,ev rfl,rfl,ev rfl,trivial⟩|exact⟨rfl,ev rfl,rfl,ev rfl,rfl,ev rfl,rfl,ev rfl,rfl,ev rfl,trivial⟩) (Ll:vs.length=m:=by exact rfl) (hc:∀v∈vs,v.cells?=some v.cells∧v.cells.length=s:=by intro v hv;simp only[List.mem_cons,List.not_mem_nil,or_false] at hv;first|(subst hv;exact⟨rfl,rfl⟩)|(rcases hv with rfl|rfl<;>exact⟨rfl,rfl⟩)|(rcases hv with rfl|rfl|rfl<;>exact⟨rfl,rfl⟩)|(rcases hv with rfl|rfl|rfl|rfl<;>exact⟨rfl,rfl⟩)|(rcases hv with rfl|rfl|rfl|rfl|rfl<;>exact⟨rfl,rfl⟩)) (hp:∀k,fr.put dst (.win k 0 0 m s)=aI k:=by first|exact fun _=>ag rfl _|exact fun _=>by dsimp only[Fr.put,List.set_cons_succ,List.set_cons_zero]<;>rfl):ae P ops (⟨some dst,.buildSlice t m parts,ty,pp,a,g⟩::rest) fr st Q:=
 ae.LU (hH:=hH) (hg:=hg) (ht:=ht) (hs:=hs) (hz:=hz) (lT:=lT) (hm:=hm) (MX:=MX) (Ll:=Ll) (hc:=hc) (hp:=hp) (h:=h)
theorem qv {f:Operand} {gn:Nat} {gk:List D} {args:Array Operand} {pb:Array TypeId} {d:D} {st1:St} (h1:Ev P gn (args.toList.map fr.ev++gk) st d st1) (h:ae P ops rest aI st1 Q) (hg:aG ops fr ⟨some dst,.call ⟨.value f,args,pb⟩,ty,pp,a,g⟩=some true:=by exact rfl) (hf:fr.ev f=.fn gn gk:=by exact rfl) (hp:fr.put dst d=aI:=by first|exact ag rfl _|(dsimp only[Fr.put,List.set_cons_succ,List.set_cons_zero]<;>rfl)):ae P ops (⟨some dst,.call ⟨.value f,args,pb⟩,ty,pp,a,g⟩::rest) fr st Q:=
 ae.w7 (hg:=hg) (hf:=hf) (h1:=h1) (hp:=hp) (h:=h)
theorem qt {c x y:Operand} {v:Bool} (hv:v=true) (h:ae P ops rest aI st Q) (hg:aG ops fr ⟨some dst,.pick c x y,ty,pp,a,g⟩=some true:=by exact rfl) (hc:fr.ev c=.bool v:=by exact rfl) (hp:fr.put dst (fr.ev x)=aI:=by first|exact ag rfl _|(dsimp only[Fr.put,List.set_cons_succ,List.set_cons_zero]<;>rfl)):ae P ops (⟨some dst,.pick c x y,ty,pp,a,g⟩::rest) fr st Q:=
 ae.dA (hg:=hg) (hc:=hc) (hv:=hv) (hp:=hp) (h:=h)
theorem qu {c x y:Operand} {v:Bool} (hv:v=false) (h:ae P ops rest aI st Q) (hg:aG ops fr ⟨some dst,.pick c x y,ty,pp,a,g⟩=some true:=by exact rfl) (hc:fr.ev c=.bool v:=by exact rfl) (hp:fr.put dst (fr.ev y)=aI:=by first|exact ag rfl _|(dsimp only[Fr.put,List.set_cons_succ,List.set_cons_zero]<;>rfl)):ae P ops (⟨some dst,.pick c x y,ty,pp,a,g⟩::rest) fr st Q:=
 ae.cV (hg:=hg) (hc:=hc) (hv:=hv) (hp:=hp) (h:=h)
theorem wi {ops:Array Oper} {fr:Fr} {o:Oper} {j t:Nat} {w v:Bool} (h4:v=w) (h1:o.guard=some (j,w):=by exact rfl) (h2:(ops[j]?).bind (·.dst)=some t:=by exact rfl) (h3:fr.get t=.bool v:=by exact rfl):aG ops fr o=some true:=aH h1 h2 h3 h4
theorem wn {ops:Array Oper} {fr:Fr} {o:Oper} {j t:Nat} {w v:Bool} (h4:v=!w) (h1:o.guard=some (j,w):=by exact rfl) (h2:(ops[j]?).bind (·.dst)=some t:=by exact rfl) (h3:fr.get t=.bool v:=by exact rfl):aG ops fr o=some false:=xq h1 h2 h3 h4
theorem qc {dy:Dy} {c:Operand} {a b:Code} {v:Bool} {Q:Out→Fr→St→Prop} (h1:v=true→af P dy a fr st Q) (h2:v=false→af P dy b fr st Q) (hv:fr.ev c=.bool v:=by first|rfl|assumption):af P dy (.cond c a b) fr st Q:=af.cond hv h1 h2
theorem qq {dy:Dy} {a b:Code} {Q:Out→Fr→St→Prop} (h:af P dy a fr st (ba P dy b Q)):af P dy (.seq a b) fr st Q:=af.seq h
theorem qj {dy:Dy} {i:Nat} {l:List Oper} {d:Bool} {n:Nat} {loc:List D} {tmp:List (Nat×D)} {Q:Out→Fr→St→Prop} (h:∀K:Out→Fr→St→Prop,Q=K→ae P l.toArray l ⟨n,loc,[]⟩ st (K .next)) (h0:fF i dy=[]:=by rfl):af P dy (.region i l.toArray d) ⟨n,loc,tmp⟩ st Q:=af.b_ (h Q rfl) h0
theorem qe {Q K:Out→Fr→St→Prop} (hK:Q=K) (h:Q .next fr st):ae P ops [] fr st (K .next):=ae.nil (hK▸h)
theorem qB {dy:Dy} {c:Operand} {a b:Code} {Q:Out→Fr→St→Prop} (h1:af P dy a fr st Q) (hv:fr.ev c=.bool true:=by first|rfl|assumption):af P dy (.cond c a b) fr st Q:=af.cond hv (fun _=>h1) (fun h=>by cases h)
theorem qC {dy:Dy} {c:Operand} {a b:Code} {Q:Out→Fr→St→Prop} (h1:af P dy b fr st Q) (hv:fr.ev c=.bool false:=by first|rfl|assumption):af P dy (.cond c a b) fr st Q:=af.cond hv (fun h=>by cases h) (fun _=>h1)
theorem qD {dy:Dy} {c:Operand} {a b:Code} {v:Bool} {Q:Out→Fr→St→Prop} (hv:fr.ev c=.bool v) (hb:v=true) (h1:af P dy a fr st Q):af P dy (.cond c a b) fr st Q:=af.cond hv (fun _=>h1) (fun h=>by rw[hb] at h;cases h)
theorem qE {dy:Dy} {c:Operand} {a b:Code} {v:Bool} {Q:Out→Fr→St→Prop} (hv:fr.ev c=.bool v) (hb:v=false) (h1:af P dy b fr st Q):af P dy (.cond c a b) fr st Q:=af.cond hv (fun h=>by rw[hb] at h;cases h) (fun _=>h1)
theorem rx:∀i:Nat,Out.ret≠Out.exit i:=fun i h=>by cases h
theorem rl {S:St} {H:List cz} {kn:Bool} {st1:St} {d d':D} (hS:S.bs=st.bs) (hH:Has st.bs.length S st1 H) (hd:bI st1 st.bs.length kn 16 d=some d'):cE .ro kn st st1 d=some (d',st):=zy (by simp) hS hH hd
theorem ri (s0:St):(aj .ro s0).bs=s0.bs∧(aj .ro s0).flr≤s0.bs.length∧Has s0.bs.length (aj .ro s0) (aj .ro s0) []:=⟨rfl,Nat.le_refl _,Has.start (Nat.le_refl _) (Nat.le_refl _)⟩
theorem w1 {α:Type} {n:Nat} {a:α}:List.replicate (n+1) a=a::List.replicate n a:=rfl
theorem w2 {α:Type} {a:α}:List.replicate 0 a=[]:=rfl
theorem qy {dy:Dy} {a:Code} {Q:Out→Fr→St→Prop} (h:af P dy a fr st Q):af P dy a fr st Q:=h
theorem u1 {α:Type} {x:α} {l:List α} {n:Nat} {a:α}:(x::l).set (n+1) a=x::l.set n a:=rfl
theorem u2 {α:Type} {x:α} {l:List α} {a:α}:(x::l).set 0 a=a::l:=rfl
theorem u3 {α:Type} {x:α} {l m:List α}:(x::l)++m=x::(l++m):=rfl
theorem u4 {α:Type} {m:List α}:([]:List α)++m=m:=rfl
theorem u5 {α β:Type} {f:α→β} {x:α} {l:List α}:(x::l).map f=f x::l.map f:=rfl
theorem u6 {α β:Type} {f:α→β}:([]:List α).map f=[]:=rfl
theorem v1 (k:IntKind) (n:Int):i7 (.int k n)=.int k n:=rfl
theorem v2 (b:Bool):i7 (.bool b)=.bool b:=rfl
theorem v3 (s:ByteArray):i7 (.string s)=.str s.data.toList:=rfl
theorem v4:i7 (.slice none 0 0)=.nul:=rfl
theorem v5:i7 (.pointer none)=.pnil:=rfl
theorem v6:i7 .nilFunc=.nilfn:=rfl
theorem v7:i7 .nilIface=.nilif:=rfl
theorem cs:(∀(p:Prop) [Decidable p],(decide p=true)=p)∧(∀(p:Prop) [Decidable p],(decide p=false)=¬p)∧(∀(α:Type) [BEq α] [LawfulBEq α] (a b:α),((a==b)=true)=(a=b))∧(∀(α:Type) [BEq α] [LawfulBEq α] (a b:α),((a==b)=false)=¬a=b)∧(∀(α:Type) [BEq α] [LawfulBEq α] (a b:α),((a !=b)=true)=¬a=b)∧(∀(α:Type) [BEq α] [LawfulBEq α] (a b:α),((a !=b)=false)=(a=b))∧(∀b:Bool,((!b)=true)=(b=false))∧(∀b:Bool,((!b)=false)=(b=true))∧(∀b:Bool,(¬b=true)=(b=false))∧(∀b:Bool,(¬b=false)=(b=true)):=by
 refine⟨fun p _=>by simp,fun p _=>by simp,fun α _ _ a b=>by simp,fun α _ _ a b=>by simp,fun α _ _ a b=>by simp,fun α _ _ a b=>by simp,fun b=>by simp,fun b=>by simp,fun b=>by simp,fun b=>by simp⟩
theorem xT {n t:Nat} {loc:List D} {tmp:List (Nat×D)} (h:ae P ops rest ⟨n,loc,(t,d)::tmp⟩ st1 Q) (hb:Nat.ble n t=true:=by exact rfl) (hg:aG ops ⟨n,loc,tmp⟩ ⟨some t,op,ty,pp,a,g⟩=some true:=by exact rfl) (hc:gD op=false:=by exact rfl) (h1:di P ⟨n,loc,tmp⟩ st op ty=some (d,st1):=by exact rfl):ae P ops (⟨some t,op,ty,pp,a,g⟩::rest) ⟨n,loc,tmp⟩ st Q:=ae.T hb hg hc h1 h
theorem xL {n t:Nat} {loc:List D} {tmp:List (Nat×D)} (h:ae P ops rest ⟨n,loc.set t d,tmp⟩ st1 Q) (hb:Nat.ble n t=false:=by exact rfl) (hg:aG ops ⟨n,loc,tmp⟩ ⟨some t,op,ty,pp,a,g⟩=some true:=by exact rfl) (hc:gD op=false:=by exact rfl) (h1:di P ⟨n,loc,tmp⟩ st op ty=some (d,st1):=by exact rfl):ae P ops (⟨some t,op,ty,pp,a,g⟩::rest) ⟨n,loc,tmp⟩ st Q:=ae.L hb hg hc h1 h
theorem xN (h:ae P ops rest fr st1 Q) (hg:aG ops fr ⟨none,op,ty,pp,a,g⟩=some true:=by exact rfl) (hc:gD op=false:=by exact rfl) (h1:di P fr st op ty=some (d,st1):=by exact rfl):ae P ops (⟨none,op,ty,pp,a,g⟩::rest) fr st Q:=ae.N hg hc h1 h
theorem xo {n t:Nat} {loc:List D} {tmp:List (Nat×D)} (h:ae P ops rest ⟨n,loc,(t,.tup [])::tmp⟩ st Q) (hb:Nat.ble n t=true:=by exact rfl) (hg:aG ops ⟨n,loc,tmp⟩ ⟨some t,op,ty,pp,a,g⟩=some false:=by exact rfl):ae P ops (⟨some t,op,ty,pp,a,g⟩::rest) ⟨n,loc,tmp⟩ st Q:=ae.NB hb hg h
theorem xp {n t:Nat} {loc:List D} {tmp:List (Nat×D)} (h:ae P ops rest ⟨n,loc.set t (.tup []),tmp⟩ st Q) (hb:Nat.ble n t=false:=by exact rfl) (hg:aG ops ⟨n,loc,tmp⟩ ⟨some t,op,ty,pp,a,g⟩=some false:=by exact rfl):ae P ops (⟨some t,op,ty,pp,a,g⟩::rest) ⟨n,loc,tmp⟩ st Q:=ae.NC hb hg h
end Go.V
