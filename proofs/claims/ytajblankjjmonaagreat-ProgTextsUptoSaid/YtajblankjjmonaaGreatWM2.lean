/-
 Functions given to V; a logic over V; heaps of one's own; no program in sight, no conditions.
-/
import Derived.Test.YtajblankjjmonaaGreatWM4
import Derived.Test.YtajblankjjmonaaGreatWM1
set_option linter.unusedSimpArgs false
set_option linter.unusedVariables false
set_option linter.unusedSectionVars false
set_option linter.unnecessarySimpa false
namespace Go.V
open Go.RowKit
structure je (P:Program) (pv:Pv) (f:Nat) (p:List D→St→Option (D×St)):Prop where
 fn:∀ds st r,p ds st=some r→∃fn b,P.funcs[f]?=some fn∧fn.body=some b∧fn.name≠ "runtime.NumGoroutine"
 calls:∀ds st d ae,p ds st=some (d,ae)→∀w β Z (us:List Value),fm w st β Z→ds.length=us.length→(∀(i:Nat) c v,ds[i]?=some c→us[i]?=some v→VR w (st.x β Z) c v)→
  Calls P f us.toArray w fun e w'=>∃v β' Z',e=.returned v∧Nx w st β Z w' ae β' Z'∧VR w' (ae.x β' Z') d v∧(iA pv f=true→Quiet w w')
 ro:∀ds st d ae,p ds st=some (d,ae)→iA pv f=true→mH st ae
 len:∀ds st d ae,p ds st=some (d,ae)→dq st ae
theorem xQ {pv wZ:Pv} (h:∀f,iA pv f=iA wZ f) (hm:∀s t,l7 pv s t=l7 wZ s t) (ops:Array Oper) (b:Bool) (x y:Oper):jx pv ops b x y=jx wZ ops b x y:=by
 have he:∀o,eA pv o=eA wZ o:=by
  intro o;unfold eA
  split<;>first|rfl|exact hm _ _|skip
  rw[h]
 simp only[jx,he]
theorem u9 {pv wZ:Pv} (h:∀f,iA pv f=iA wZ f) (hm:∀s t,l7 pv s t=l7 wZ s t) (ops:Array Oper) (dy:List (Nat×Nat)):jN pv ops dy=jN wZ ops dy:=by
 unfold jN
 congr 1
 funext j;unfold DQ
 split
 ·simp only[xQ h hm]
 ·rfl
theorem dg {pv wZ:Pv} (h:∀f,iA pv f=iA wZ f) (hm:∀s t,l7 pv s t=l7 wZ s t) (dyn:List (Nat×List (Nat×Nat))) (n:Nat):∀c:Code,codeOk pv dyn n c=codeOk wZ dyn n c
 | .region _ ops d=>by simp only[codeOk,u9 h hm]
 | .seq a b=>by simp only[codeOk,dg h hm dyn n a,dg h hm dyn n b]
 | .cond _ a b=>by simp only[codeOk,dg h hm dyn n a,dg h hm dyn n b]
 | .block _ c=>by simp only[codeOk,dg h hm dyn n c]
 | .loop c=>by simp only[codeOk,dg h hm dyn n c]
 | .skip| .rangeFunc ..| .exit _| .scope _| .label _| .goto _| .ret| .refuse _=>by simp only[codeOk]
def Pv.over (pv:Pv) (l:List (Nat×(List D→St→Option (D×St)))):Pv:=⟨pv.ty,pv.nty,pv.fs,pv.nfs,pv.eqb,l⟩
theorem Ae (pv:Pv) (l) (f:Nat):iA (pv.over l) f=iA pv f:=rfl
theorem rN {f:Nat} {p}:∀{l:List (Nat×(List D→St→Option (D×St)))},jS f l=some p→(f,p)∈l
 |(g,q)::l,h=>by
  simp only[jS] at h
  split at h
  ·rename_i hb;cases h;rw[Nat.eq_of_beq_eq_true hb];exact List.mem_cons_self ..
  ·exact List.mem_cons_of_mem _ (rN h)
theorem rk {pv:Pv} {P:Program} (h:pv.Ok P∧pv.jm∧gO P pv (eF pv)) (hpr:pv.prm=[]) {l:List (Nat×(List D→St→Option (D×St)))} (hl:∀q∈l,je P pv q.1 q.2):
  (pv.over l).Ok P∧(pv.over l).jm∧gO P (pv.over l) (eF (pv.over l)):=by
 obtain⟨h1,h2,h3⟩:=h;refine⟨⟨h1.ty,h1.fs,h1.eqb,h1.mixed⟩,fun f x b hx hp hb=>?_,?_⟩
 ·rw[dg (Ae pv l) (fun _ _=>rfl)];exact h2 f x b hx hp hb
 ·have key:∀f ds st r,eF (pv.over l) f ds st=some r→(∃p,je P pv f p∧p ds st=some r)∨eF pv f ds st=some r:=by
   intro f ds st r h;unfold eF at h
   split at h
   ·rename_i p hp;exact .inl ⟨p,hl _ (rN hp),h⟩
   ·right;unfold eF;rw[hpr];exact h
  refine⟨fun f ds st r h=>?_,fun f ds st d ae h=>?_,fun f ds st d ae h=>?_,fun f ds st d ae h=>?_⟩
  ·rcases key f ds st r h with⟨p,hp,h⟩|h
   ·exact hp.fn ds st r h
   ·exact h3.fn f ds st r h
  ·rcases key f ds st _ h with⟨p,hp,h⟩|h
   ·exact hp.calls ds st d ae h
   ·exact h3.calls f ds st d ae h
  ·rcases key f ds st _ h with⟨p,hp,h⟩|h
   ·exact hp.ro ds st d ae h
   ·exact h3.ro f ds st d ae h
  ·rcases key f ds st _ h with⟨p,hp,h⟩|h
   ·exact hp.len ds st d ae h
   ·exact h3.len f ds st d ae h
theorem fm.nil {w:World} {Z:Nat→Prop} (hZ:∀b,Z b→b<w.heap.size):fm w ⟨[],0,0⟩ (fun _=>none) Z:=
 ⟨fun _ _ _ h=>(by cases h),fun _ _ _ h=>(by cases h),fun _ _ _ _ _ h=>(by cases h),fun _ _ _ h=>(by cases h),hZ,fun _ _ _ _ h=>(by cases h),Nat.le_refl _,Nat.le_refl _⟩
theorem pA {pv:Pv} {P:Program} (h:pv.Ok P∧pv.jm∧gO P pv (eF pv)) {n f:Nat} {ds:List D} {d:D} {DA:St} (hs:eJ pv n f ds ⟨[],0,0⟩=some (d,DA)) (h0:DA.bs=[]) (hr:refs ds=0)
  (st:St) (w:World) (β:Nat→Option (Nat×Nat)) (Z:Nat→Prop) (us:List Value) (fQ:fm w st β Z) (hl:ds.length=us.length) (ha:∀(i:Nat) c v,ds[i]?=some c→us[i]?=some v→VR w (st.x β Z) c v):
  Calls P f us.toArray w fun e w'=>∃v β' Z',e=.returned v∧Nx w st β Z w' st β' Z'∧VR w' (st.x β' Z') d v∧Quiet w w':=by
 have hrefs:∀(l:List D),refs l=0→∀c∈l,c.ref≤0:=by
  intro l
  induction l with
  |nil=>intro _ c hc;simp at hc
  |cons x l ih=>
   intro h c hc;simp only[refs] at h
   rcases List.mem_cons.1 hc with rfl|hc
   ·omega
   ·exact ih (by omega) c hc
 refine((oT h.1 h.2.1 h.2.2 n).calls f ds _ d DA hs w (fun _=>none) Z us (fm.nil fQ.zl) hl fun i c v hc hv=>?_).mono fun e w'=>?_
 ·exact VR.cut (x:=st.x β Z) (x':=(⟨[],0,0⟩:St).x (fun _=>none) Z) (N:=0) (fun k hk=>absurd hk (Nat.not_lt_zero _)) (fun k hk=>absurd hk (Nat.not_lt_zero _)) (fun b hb=>hb) (ha i c v hc hv) (hrefs ds hr c (List.mem_of_getElem? hc))
 ·rintro⟨v,β',Z',rfl,hn,hv,_⟩
  have jj:∀k p,β' k=some p→False:=fun k p hk=>by
   have:=hn.sim.dom k p.1 p.2 hk;rw[h0] at this;simp at this
  have hq:Quiet w w':=by
   intro c hc;refine hn.evo.block c hc ?_;rintro⟨k,base,h5,_⟩;cases h5
  have HX:∀b,Z b→Z' b∧w'.heap[b]?=w.heap[b]?:=fun b hb=>⟨(hn.keeps.z b hb).1,hq b (fQ.zl b hb)⟩
  have hk:cM w (st.x β Z) w' (st.x β Z'):=⟨fun k p hp=>⟨p,hp⟩,HX,fun k c p _ hc=>⟨c,hc,Nat.le_refl _⟩,fun k c _ _ b base hb=>⟨hb,db (hq b (fQ.lt k b base hb))⟩⟩
  refine⟨v,β,Z',rfl,⟨⟨fQ.dom,fun k b base hb=>Nat.lt_of_lt_of_le (fQ.lt k b base hb) hn.evo.size,fQ.inj,fun k b base hb hz=>?_,hn.sim.zl,fun k b base bx hb fT=>(fQ.box k b base bx hb fT).cD hk (hq b (fQ.lt k b base hb)),fQ.flr,fQ.ro⟩,hk,
   ⟨hn.evo.os,hn.evo.tape,hn.evo.output,hn.evo.size,fun b hb _=>hq b hb⟩,fun k b base hb=>.inl ⟨base,hb⟩,hn.zfresh,Nat.le_refl _,rfl,rfl,fun k _=>⟨rfl,rfl⟩,fun k _ hk=>⟨hk,rfl⟩⟩,?_,hq⟩
  ·rcases hn.zfresh b hz with hz|hz
   ·exact fQ.zd k b base hb hz
   ·have:=fQ.lt k b base hb;omega
  ·exact VR.cut (x:=DA.x β' Z') (x':=st.x β Z') (N:=0) (fun k hk=>absurd hk (Nat.not_lt_zero _)) (fun k hk=>absurd hk (Nat.not_lt_zero _)) (fun b hb=>hb) hv (VR.ref (fun k p hk=>(jj k p hk).elim) hv)
def yF (d:D):List D→St→Option (D×St)
 |[],st=>some (d,st)
 |_::_,_=>none
theorem B0 {pv:Pv} {P:Program} (h:pv.Ok P∧pv.jm∧gO P pv (eF pv)) {n f:Nat} {d:D} {DA:St} (hs:eJ pv n f [] ⟨[],0,0⟩=some (d,DA)) (h0:DA.bs=[]):je P pv f (yF d):=by
 have hc:=oT h.1 h.2.1 h.2.2 n;refine⟨fun ds st r _=>hc.fn f [] _ _ hs,fun ds st d' ae hp w β Z us fQ hl ha=>?_,fun ds st d' ae hp _=>?_,fun ds st d' ae hp=>?_⟩<;>cases ds<;>simp only[yF,Option.some.injEq,Prod.mk.injEq,reduceCtorEq] at hp
 ·obtain⟨rfl,rfl⟩:=hp;refine(pA h hs h0 rfl st w β Z us fQ hl ha).mono fun e w'=>?_;rintro⟨v,β',Z',h1,h2,h3,h4⟩;exact⟨v,β',Z',h1,h2,h3,fun _=>h4⟩
 ·rw[←hp.2];exact .rfl _
 ·rw[←hp.2];exact dq.refl _
def we:List gP→List gP→Bool
 |[],[]=>true
 |a::l,b::m=>qx a b &&we l m
 |_,_=>false
def Jz (a b:St):Bool:=Nat.beq a.flr b.flr &&Nat.beq a.ro b.ro &&we a.bs b.bs
def bJ (d:D) (st:St):Option (D×St)→Bool
 |some (e,ae)=>eK e d &&Jz ae st
 |none=>false
end Go.V
namespace Go.V
section
variable(P:Pv)
def Ev (f:Nat) (args:List D) (st:St) (d:D) (ae:St):Prop:=
 ∃N,∀n,N≤n→eJ P n f args st=some (d,ae)
abbrev Dy:=List (Nat×List (Nat×Nat))
def EvC (dy:Dy) (c:Code) (fr:Fr) (st:St) (Q:Out→Fr→St→Prop):Prop:=
 ∃o aw ae,(∃N,∀n,N≤n→bt P (eJ P n) dy n c fr st=some (o,aw,ae))∧Q o aw ae
def EvO (ops:Array Oper) (l:List Oper) (fr:Fr) (st:St) (Q:Fr→St→Prop):Prop:=
 ∃aw ae,(∃N,∀n,N≤n→gK P (eJ P n) ops l fr st=some (aw,ae))∧Q aw ae
def SeqQ (dy:Dy) (b:Code) (Q:Out→Fr→St→Prop):Out→Fr→St→Prop
 | .next,fr,st=>EvC P dy b fr st Q
 | .exit i,fr,st=>Q (.exit i) fr st
 | .ret,fr,st=>Q .ret fr st
def Dj (id:Nat) (Q:Out→Fr→St→Prop):Out→Fr→St→Prop
 | .next,fr,st=>Q .next fr st
 | .exit i,fr,st=>if i=id then Q .next fr st else Q (.exit i) fr st
 | .ret,fr,st=>Q .ret fr st
def JC (I:Nat→Fr→St→Prop) (k:Nat) (Q:Out→Fr→St→Prop):Out→Fr→St→Prop
 | .next,fr,st=>∃j,j<k∧I j fr st
 | .exit i,fr,st=>Q (.exit i) fr st
 | .ret,fr,st=>Q .ret fr st
def jC (ops:Array Oper) (dy:List (Nat×Nat)) (j:Nat) (log:Log) (l:List Oper) (fr:Fr) (st:St) (Q:Fr→St→Prop):Prop:=
 ∃aw ae,(∃N,∀n,N≤n→oc P (eJ P n) ops dy j log l fr st=some (aw,ae))∧Q aw ae
variable{P} {dy:Dy}
theorem EvC.mono {c:Code} {fr st} {Q Q':Out→Fr→St→Prop} (h:EvC P dy c fr st Q) (hq:∀o aw ae,Q o aw ae→Q' o aw ae):EvC P dy c fr st Q':=by
 obtain⟨o,aw,ae,h1,h2⟩:=h;exact⟨o,aw,ae,h1,hq _ _ _ h2⟩
theorem EvC.skip {fr st} {Q:Out→Fr→St→Prop} (h:Q .next fr st):EvC P dy .skip fr st Q:=⟨_,_,_,⟨0,fun n _=>by simp only[bt]⟩,h⟩
theorem EvC.exit {fr st i} {Q:Out→Fr→St→Prop} (h:Q (.exit i) fr st):EvC P dy (.exit i) fr st Q:=⟨_,_,_,⟨0,fun n _=>by simp only[bt]⟩,h⟩
theorem EvC.ret {fr st} {Q:Out→Fr→St→Prop} (h:Q .ret fr st):EvC P dy .ret fr st Q:=⟨_,_,_,⟨0,fun n _=>by simp only[bt]⟩,h⟩
theorem EvC.region {i ops d fr st} {Q:Out→Fr→St→Prop} (h:EvO P ops ops.toList fr.clean st (Q .next)) (h0:fH i dy=[]:=by rfl):EvC P dy (.region i ops d) fr st Q:=by
 obtain⟨aw,ae,⟨N,hN⟩,hq⟩:=h;exact⟨_,aw,ae,⟨N,fun n hn=>by simp only[bt,h0,uG,hN n hn]⟩,hq⟩
theorem EvC.DL {i ops d fr st} {Q:Out→Fr→St→Prop} {p:Nat×Nat} {ps:List (Nat×Nat)} (h0:fH i dy=p::ps) (h:jC P ops (p::ps) 0 [] ops.toList fr.clean st (Q .next)):EvC P dy (.region i ops d) fr st Q:=by
 obtain⟨aw,ae,⟨N,hN⟩,hq⟩:=h;exact⟨_,aw,ae,⟨N,fun n hn=>by simp only[bt,h0,uG,hN n hn]⟩,hq⟩
theorem EvC.seq {a b fr st} {Q:Out→Fr→St→Prop} (h:EvC P dy a fr st (SeqQ P dy b Q)):EvC P dy (.seq a b) fr st Q:=by
 obtain⟨o,aw,ae,⟨N,hN⟩,hq⟩:=h
 cases o with
 |next=>
  obtain⟨o,Gx,st2,⟨M,hM⟩,hq⟩:=hq;exact⟨o,Gx,st2,⟨max N M,fun n hn=>by simp only[bt,hN n (by omega),hM n (by omega)]⟩,hq⟩
 |exit i=>exact⟨_,aw,ae,⟨N,fun n hn=>by simp only[bt,hN n hn]⟩,hq⟩
 |ret=>exact⟨_,aw,ae,⟨N,fun n hn=>by simp only[bt,hN n hn]⟩,hq⟩
theorem EvC.cond {c a b fr st v} {Q:Out→Fr→St→Prop} (hv:fr.ev c=.bool v) (h1:v=true→EvC P dy a fr st Q) (h2:v=false→EvC P dy b fr st Q):EvC P dy (.cond c a b) fr st Q:=by
 cases v with
 |true=>
  obtain⟨o,aw,ae,⟨N,hN⟩,hq⟩:=h1 rfl;exact⟨o,aw,ae,⟨N,fun n hn=>by simp only[bt,hv,hN n hn]⟩,hq⟩
 |false=>
  obtain⟨o,aw,ae,⟨N,hN⟩,hq⟩:=h2 rfl;exact⟨o,aw,ae,⟨N,fun n hn=>by simp only[bt,hv,hN n hn]⟩,hq⟩
theorem EvC.block {id c fr st} {Q:Out→Fr→St→Prop} (h:EvC P dy c fr st (Dj id Q)):EvC P dy (.block id c) fr st Q:=by
 obtain⟨o,aw,ae,⟨N,hN⟩,hq⟩:=h
 cases o with
 |next=>exact⟨_,aw,ae,⟨N,fun n hn=>by simp only[bt,hN n hn]⟩,hq⟩
 |exit i=>
  simp only[Dj] at hq
  split at hq
  ·rename_i hi;exact⟨_,aw,ae,⟨N,fun n hn=>by simp only[bt,hN n hn,if_pos hi]⟩,hq⟩
  ·rename_i hi;exact⟨_,aw,ae,⟨N,fun n hn=>by simp only[bt,hN n hn,if_neg hi]⟩,hq⟩
 |ret=>exact⟨_,aw,ae,⟨N,fun n hn=>by simp only[bt,hN n hn]⟩,hq⟩
theorem EvC.loop {c:Code} {fr st} {Q:Out→Fr→St→Prop} (I:Nat→Fr→St→Prop) (k:Nat) (h0:I k fr st) (h:∀k fr st,I k fr st→EvC P dy c fr.clean st (JC I k Q)):EvC P dy (.loop c) fr st Q:=by
 have key:∀k fr st,I k fr st→∃o aw ae,(∃N,∀n,N≤n→∀m,N≤m→iter (bt P (eJ P n) dy n c) m fr st=some (o,aw,ae))∧(Q o aw ae):=by
  intro k
  induction k using Nat.strongRecOn with
  |ind k ih=>
   intro fr st hi;obtain⟨o,aw,ae,⟨N,hN⟩,hq⟩:=h k fr st hi
   cases o with
   |next=>
    obtain⟨j,hj,tx⟩:=hq;obtain⟨o,Gx,st2,⟨M,hM⟩,hq⟩:=ih j hj aw ae tx;refine⟨o,Gx,st2,⟨max N M+1,fun n hn m hm=>?_⟩,hq⟩
    obtain⟨m,rfl⟩:∃m',m=m'+1:=⟨m-1,by omega⟩
    simp only[iter,hN n (by omega),hM n (by omega) m (by omega)]
   |exit i=>
    refine⟨_,aw,ae,⟨N+1,fun n hn m hm=>?_⟩,hq⟩
    obtain⟨m,rfl⟩:∃m',m=m'+1:=⟨m-1,by omega⟩
    simp only[iter,hN n (by omega)]
   |ret=>
    refine⟨_,aw,ae,⟨N+1,fun n hn m hm=>?_⟩,hq⟩
    obtain⟨m,rfl⟩:∃m',m=m'+1:=⟨m-1,by omega⟩
    simp only[iter,hN n (by omega)]
 obtain⟨o,aw,ae,⟨N,hN⟩,hq⟩:=key k fr st h0;exact⟨o,aw,ae,⟨N,fun n hn=>by simp only[bt,hN n hn n hn]⟩,hq⟩
theorem Ev.of {f x body args st d ae} (hq:jS f P.prm=none) (hf:P.fi f=some x) (hp:x.prim=none) (hb:x.fn.body=some body)
  (h:EvC P x.dyn body (pad x.nloc args) (enterSt x.mode st) fun o fr st1=>(∀i,o≠.exit i)∧∃ds,iR P fr st1 x.fn.results.toList=some ds∧b8 x.mode x.knul st st1 (lQ ds)=some (d,ae)):Ev P f args st d ae:=by
 obtain⟨o,aw,st1,⟨N,hN⟩,ho,ds,hr,hl⟩:=h;refine⟨N+1,fun n hn=>?_⟩
 obtain⟨m,rfl⟩:∃m',n=m'+1:=⟨n-1,by omega⟩
 simp only[eJ,hq,hf,hp,hb,wc];rw[hN m (by omega)]
 cases o with
 |next=>simp only[hr,hl]
 |exit i=>exact absurd rfl (ho i)
 |ret=>simp only[hr,hl]
theorem EvO.nil {ops fr st} {Q:Fr→St→Prop} (h:Q fr st):EvO P ops [] fr st Q:=⟨fr,st,⟨0,fun n _=>rfl⟩,h⟩
def gA:Op→Bool
 | .call ⟨.value _,_,_⟩=>true
 |_=>false
theorem BJ {cf fr st} {o:Oper} (h:gA o.op=false):ek P cf fr st o=df P fr st o.op o.type:=by
 unfold ek
 split
 ·rename_i heq;rw[heq] at h;simp[gA] at h
 ·rfl
theorem EvO.op {ops o rest fr st d st1} {Q:Fr→St→Prop} (hg:au ops fr o=some true) (hc:gA o.op=false) (h1:df P fr st o.op o.type=some (d,st1))
  (h:EvO P ops rest (fr.putO o.dst d) st1 Q):EvO P ops (o::rest) fr st Q:=by
 obtain⟨aw,ae,⟨N,hN⟩,hq⟩:=h;exact⟨aw,ae,⟨N,fun n hn=>by simp only[gK,hg,BJ hc,h1,hN n hn]⟩,hq⟩
theorem EvO.off {ops o rest fr st} {Q:Fr→St→Prop} (hg:au ops fr o=some false)
  (h:EvO P ops rest (fr.putO o.dst (.tup [])) st Q):EvO P ops (o::rest) fr st Q:=by
 obtain⟨aw,ae,⟨N,hN⟩,hq⟩:=h;exact⟨aw,ae,⟨N,fun n hn=>by simp only[gK,hg,hN n hn]⟩,hq⟩
theorem EvO.call {ops rest fr st d st1 f g gm args rp dst type pos} {after guard} {Q:Fr→St→Prop} (hg:au ops fr ⟨dst,.call ⟨.value f,args,rp⟩,type,pos,after,guard⟩=some true) (hf:fr.ev f=.fn g gm)
  (h1:Ev P g (args.toList.map fr.ev++gm) st d st1)
  (h:EvO P ops rest (fr.putO dst d) st1 Q):EvO P ops (⟨dst,.call ⟨.value f,args,rp⟩,type,pos,after,guard⟩::rest) fr st Q:=by
 obtain⟨aw,ae,⟨N,hN⟩,hq⟩:=h;obtain⟨M,hM⟩:=h1;exact⟨aw,ae,⟨max N M,fun n hn=>by simp only[gK,hg,ek,hf,hM n (by omega),hN n (by omega)]⟩,hq⟩
theorem jC.nil {ops ys j log fr st} {Q:Fr→St→Prop} (h:Q fr st):jC P ops ys j log [] fr st Q:=⟨fr,st,⟨0,fun n _=>rfl⟩,h⟩
theorem jC.cons {ops ys j log o rest fr st} {Q:Fr→St→Prop} (h:EvO P ops [o] fr st fun aw ae=>CY ys j log o fr st ae=true∧jC P ops ys (j+1) ((o,fr,st,ae)::log) rest aw ae Q):jC P ops ys j log (o::rest) fr st Q:=by
 obtain⟨Gy,st1,⟨N,hN⟩,hc,Gx,st2,⟨M,hM⟩,hq⟩:=h;refine⟨Gx,st2,⟨max N M,fun n hn=>?_⟩,hq⟩;have h1:=hN n (by omega);have h2:=hM n (by omega);simp only[gK] at h1;simp only[oc]
 split at h1
 ·rename_i hw
  split at h1
  ·rename_i d ae fX;cases h1;simp only[hc,h2]
  ·cases h1
 ·rename_i hw;cases h1;exact h2
 ·cases h1
theorem Ev.out {f args st d ae} (h:Ev P f args st d ae):∃N,∀n,N≤n→eJ P n f args st=some (d,ae):=h
theorem Ev.prim {f args st d ae p} (hq:jS f P.prm=some p) (h:p args st=some (d,ae)):Ev P f args st d ae:=
 ⟨1,fun n hn=>by
  obtain⟨m,rfl⟩:∃m',n=m'+1:=⟨n-1,by omega⟩
  simp only[eJ,hq,h]⟩
end
attribute [irreducible] Ev EvC EvO jC
end Go.V
namespace Go.V
theorem EvC.reg {P:Pv} {dy:Dy} {i:Nat} {l:List Oper} {d n loc tmp st} {Q:Out→Fr→St→Prop} (h:EvO P l.toArray l ⟨n,loc,[]⟩ st (Q .next)) (h0:fH i dy=[]:=by rfl):EvC P dy (.region i l.toArray d) ⟨n,loc,tmp⟩ st Q:=EvC.region h h0
theorem EvC.Hz {P:Pv} {dy:Dy} {i:Nat} {l:List Oper} {d n loc tmp st} {Q:Out→Fr→St→Prop} {p:Nat×Nat} {ps:List (Nat×Nat)} (h0:fH i dy=p::ps) (h:jC P l.toArray (p::ps) 0 [] l ⟨n,loc,[]⟩ st (Q .next)):EvC P dy (.region i l.toArray d) ⟨n,loc,tmp⟩ st Q:=EvC.DL h0 h
theorem Ev.mk1 {P:Pv} {f x body args st d ae n loc} (hq:jS f P.prm=none) (hf:P.fi f=some x) (hp:x.prim=none) (hb:x.fn.body=some body) (Cj:pad x.nloc args=⟨n,loc,[]⟩)
  (h:EvC P x.dyn body ⟨n,loc,[]⟩ (enterSt x.mode st) fun o fr st1=>(∀i,o≠.exit i)∧∃ds,iR P fr st1 x.fn.results.toList=some ds∧b8 x.mode x.knul st st1 (lQ ds)=some (d,ae)):Ev P f args st d ae:=
 Ev.of hq hf hp hb (by rw[Cj];exact h)
theorem ofVal_int (k:IntKind) (n:Int):fc (.int k n)=.int k n:=rfl
theorem ofVal_bool (b:Bool):fc (.bool b)=.bool b:=rfl
theorem ofVal_str (s:ByteArray):fc (.string s)=.str s.data.toList:=rfl
theorem ofVal_nul:fc (.slice none 0 0)=.nul:=rfl
theorem ofVal_pnil:fc (.pointer none)=.pnil:=rfl
theorem ofVal_nilfn:fc .nilFunc=.nilfn:=rfl
theorem ofVal_nilif:fc .nilIface=.nilif:=rfl
section
variable{P:Pv} {ops:Array Oper} {rest:List Oper} {n:Nat} {loc:List D} {tmp:List (Nat×D)} {st st1:St} {Q:Fr→St→Prop} {op:Op} {ty:TypeId} {p:String} {a:Array Edge} {g:Option (Nat×Bool)} {t:Nat} {d:D}
theorem put_T (hb:Nat.ble n t=true) (d:D):Fr.put ⟨n,loc,tmp⟩ t d=⟨n,loc,(t,d)::tmp⟩:=by
 simp only[Fr.put,hb]
theorem Bw (hb:Nat.ble n t=false) (d:D):Fr.put ⟨n,loc,tmp⟩ t d=⟨n,loc.set t d,tmp⟩:=by
 simp only[Fr.put,hb]
theorem EvO.T (hb:Nat.ble n t=true) (hg:au ops ⟨n,loc,tmp⟩ ⟨some t,op,ty,p,a,g⟩=some true) (hc:gA op=false) (h1:df P ⟨n,loc,tmp⟩ st op ty=some (d,st1))
  (h:EvO P ops rest ⟨n,loc,(t,d)::tmp⟩ st1 Q):EvO P ops (⟨some t,op,ty,p,a,g⟩::rest) ⟨n,loc,tmp⟩ st Q:=
 EvO.op hg hc h1 (by show EvO P ops rest (Fr.put _ t d) st1 Q;rw[put_T hb];exact h)
theorem EvO.L (hb:Nat.ble n t=false) (hg:au ops ⟨n,loc,tmp⟩ ⟨some t,op,ty,p,a,g⟩=some true) (hc:gA op=false) (h1:df P ⟨n,loc,tmp⟩ st op ty=some (d,st1))
  (h:EvO P ops rest ⟨n,loc.set t d,tmp⟩ st1 Q):EvO P ops (⟨some t,op,ty,p,a,g⟩::rest) ⟨n,loc,tmp⟩ st Q:=
 EvO.op hg hc h1 (by show EvO P ops rest (Fr.put _ t d) st1 Q;rw[Bw hb];exact h)
theorem EvO.N {fr:Fr} (hg:au ops fr ⟨none,op,ty,p,a,g⟩=some true) (hc:gA op=false) (h1:df P fr st op ty=some (d,st1))
  (h:EvO P ops rest fr st1 Q):EvO P ops (⟨none,op,ty,p,a,g⟩::rest) fr st Q:=EvO.op hg hc h1 h
theorem EvO.Kl (hb:Nat.ble n t=true) (hg:au ops ⟨n,loc,tmp⟩ ⟨some t,op,ty,p,a,g⟩=some false)
  (h:EvO P ops rest ⟨n,loc,(t,.tup [])::tmp⟩ st Q):EvO P ops (⟨some t,op,ty,p,a,g⟩::rest) ⟨n,loc,tmp⟩ st Q:=
 EvO.off hg (by show EvO P ops rest (Fr.put _ t _) st Q;rw[put_T hb];exact h)
theorem EvO.Km (hb:Nat.ble n t=false) (hg:au ops ⟨n,loc,tmp⟩ ⟨some t,op,ty,p,a,g⟩=some false)
  (h:EvO P ops rest ⟨n,loc.set t (.tup []),tmp⟩ st Q):EvO P ops (⟨some t,op,ty,p,a,g⟩::rest) ⟨n,loc,tmp⟩ st Q:=
 EvO.off hg (by show EvO P ops rest (Fr.put _ t _) st Q;rw[Bw hb];exact h)
theorem EvO.su {f gn:_} {gm:List D} {args:Array Operand} {rp:Array TypeId} (hb:Nat.ble n t=true) (hg:au ops ⟨n,loc,tmp⟩ ⟨some t,.call ⟨.value f,args,rp⟩,ty,p,a,g⟩=some true) (hf:Fr.ev ⟨n,loc,tmp⟩ f=.fn gn gm)
  (h1:Ev P gn (args.toList.map (Fr.ev ⟨n,loc,tmp⟩)++gm) st d st1)
  (h:EvO P ops rest ⟨n,loc,(t,d)::tmp⟩ st1 Q):EvO P ops (⟨some t,.call ⟨.value f,args,rp⟩,ty,p,a,g⟩::rest) ⟨n,loc,tmp⟩ st Q:=
 EvO.call hg hf h1 (by show EvO P ops rest (Fr.put _ t d) st1 Q;rw[put_T hb];exact h)
theorem EvO.Jv {f gn:_} {gm:List D} {args:Array Operand} {rp:Array TypeId} (hb:Nat.ble n t=false) (hg:au ops ⟨n,loc,tmp⟩ ⟨some t,.call ⟨.value f,args,rp⟩,ty,p,a,g⟩=some true) (hf:Fr.ev ⟨n,loc,tmp⟩ f=.fn gn gm)
  (h1:Ev P gn (args.toList.map (Fr.ev ⟨n,loc,tmp⟩)++gm) st d st1)
  (h:EvO P ops rest ⟨n,loc.set t d,tmp⟩ st1 Q):EvO P ops (⟨some t,.call ⟨.value f,args,rp⟩,ty,p,a,g⟩::rest) ⟨n,loc,tmp⟩ st Q:=
 EvO.call hg hf h1 (by show EvO P ops rest (Fr.put _ t d) st1 Q;rw[Bw hb];exact h)
end
inductive Rows (st:St) (s:Nat):D→List (List D)→Prop where
 |nul:Rows st s .nul []
 |sl (es:List D) (h:∀e∈es,e.cells?=some e.cells∧e.cells.length=s):Rows st s (.sl es) (es.map D.cells)
 |win (k aq off:Nat) (es:List (List D)) (ar:Bool) (c:List D) (hm:st.dL k aq=some (ar,c)) (hl:off+es.length*s≤c.length)
   (he:∀(i:Nat) e,es[i]?=some e→(c.drop (off+i*s)).take s=e):Rows st s (.win k aq off es.length s) es
theorem Rows.tK {st:St} {s:Nat} {x:D} {es:List (List D)} (h:Rows st s x es):∀(i:Nat) e,es[i]?=some e→e.length=s:=by
 cases h with
 |nul=>intro i e h;simp at h
 |sl es h=>
  intro i e hi;rw[List.getElem?_map] at hi;obtain⟨d,hd,rfl⟩:=Option.map_eq_some_iff.1 hi;exact(h d (List.mem_of_getElem? hd)).2
 |win k aq off es ar c hm hl he=>
  intro i e hi
  have hlt:i<es.length:=by
   rcases Nat.lt_or_ge i es.length with h'|h'
   ·exact h'
   ·rw[List.getElem?_eq_none h'] at hi;cases hi
  rw[←he i e hi];have:(i+1)*s≤es.length*s:=Nat.mul_le_mul_right s hlt;rw[Nat.add_mul] at this
  simp;omega
theorem Rows.len {st:St} {s:Nat} {x:D} {es:List (List D)} (h:Rows st s x es):vl x=some es.length∧∀b,x≠.str b:=by
 cases h with
 |nul=>exact⟨rfl,fun b h=>by cases h⟩
 |sl es h=>exact⟨by simp[vl],fun b h=>by cases h⟩
 |win k aq off es ar c hm hl he=>exact⟨rfl,fun b h=>by cases h⟩
theorem Rows.EG {P:Pv} {st:St} {s:Nat} {x:D} {es:List (List D)} (h:Rows st s x es) {t e:TypeId} (ht:P.b9 t=some (.slice e)):
  ba P .len [t] [x] st=some (.int .i64 (es.length:Nat),st):=by
 obtain⟨h1,h2⟩:=h.len;simp only[ba,ht]
 cases x with
 |str b=>exact absurd rfl (h2 b)
 |_=>simp only[h1];rfl
theorem wL {P:Pv} {e:TypeId} {c c':List D} {s:Nat} {d:D} (hs:bN P e=some s) (hc:c.take s=c') (hl:c'.length=s) (h:cP P e c'=some d):cP P e c=some d:=by
 have hlen:s≤c.length:=by rw[←hc] at hl;simp at hl;omega
 unfold cP at h⊢
 cases hu:P.b9 e with
 |none=>rw[hu] at h;cases h
 |some u=>
  rw[hu] at h
  cases u with
  |struct f=>
   simp only[hs,Option.bind_some] at h⊢;rw[if_pos (by omega)] at h;rw[if_pos hlen,hc];rw[←h,List.take_of_length_le (by omega)]
  |array n f=>
   simp only[hs,Option.bind_some] at h⊢;rw[if_pos (by omega)] at h;rw[if_pos hlen,hc];rw[←h,List.take_of_length_le (by omega)]
  |_=>
   simp only at h⊢;rw[←h,←hc]
   cases c with
   |nil=>simp
   |cons x xs=>
    cases s with
    |zero=>simp at hc;subst hc;simp at h
    |succ s=>simp
theorem Rows.idx {P:Pv} {st:St} {s:Nat} {x:D} {es:List (List D)} (h:Rows st s x es) {t e:TypeId} (ht:P.b9 t=some (.slice e)) (hs:bN P e=some s) {k:IntKind} {i:Int} {r:List D} (h0:0≤i) (hi:es[i.toNat]?=some r):
  ∃p,br P t x (.int k i) st=some p∧∀d,cP P e r=some d→eW P e p st=some d:=by
 cases h with
 |nul=>simp at hi
 |sl es h=>
  rw[List.getElem?_map] at hi;obtain⟨d,hd,rfl⟩:=Option.map_eq_some_iff.1 hi;obtain⟨h1,h2⟩:=h d (List.mem_of_getElem? hd);refine⟨.ep d.cells,?_,fun d' h=>h⟩;simp only[br,ht,hs,Option.bind_some,if_pos h0,hd,h1,if_pos h2]
 |win k aq off es ar c hm hl he=>
  have hlt:i.toNat<es.length:=by
   rcases Nat.lt_or_ge i.toNat es.length with h'|h'
   ·exact h'
   ·rw[List.getElem?_eq_none h'] at hi;cases hi
  refine⟨.ptr k aq (off+i.toNat*s),?_,fun d' h=>?_⟩
  ·simp only[br,ht,hs,Option.bind_some,hm,Option.isSome_some];rw[if_pos ⟨trivial,h0,by omega,trivial⟩]
  ·simp only[eW,hm,Option.bind_some];exact wL hs (he _ _ hi) (Rows.tK (.win k aq off es ar c hm hl he) _ _ hi) h
theorem EvO.bQ {P:Pv} {ops:Array Oper} {rest:List Oper} {n:Nat} {loc:List D} {tmp:List (Nat×D)} {st:St} {Q:Fr→St→Prop} {t e:TypeId} {xo io:Operand} {d1 d2:Nat} {Hr jE:TypeId} {p1 p2:String} {a1 a2:Array Edge} {g1 g2:Option (Nat×Bool)} {x:D} {k:IntKind} {i:Int} {s:Nat} {es:List (List D)} {r:List D} {d:D}
  (hb1:Nat.ble n d1=true) (hb2:Nat.ble n d2=true) (fu:au ops ⟨n,loc,tmp⟩ ⟨some d1,.indexAddr t xo io,Hr,p1,a1,g1⟩=some true) (bZ:∀p,au ops ⟨n,loc,(d1,p)::tmp⟩ ⟨some d2,.load e (.tmp d1),jE,p2,a2,g2⟩=some true)
  (hx:Fr.ev ⟨n,loc,tmp⟩ xo=x) (hi:Fr.ev ⟨n,loc,tmp⟩ io=.int k i) (hR:Rows st s x es) (ht:P.b9 t=some (.slice e)) (hs:bN P e=some s) (h0:0≤i) (hr:es[i.toNat]?=some r) (hd:cP P e r=some d)
  (h:∀p,EvO P ops rest ⟨n,loc,(d2,d)::(d1,p)::tmp⟩ st Q):EvO P ops (⟨some d1,.indexAddr t xo io,Hr,p1,a1,g1⟩::⟨some d2,.load e (.tmp d1),jE,p2,a2,g2⟩::rest) ⟨n,loc,tmp⟩ st Q:=by
 obtain⟨p,h1,h2⟩:=hR.idx ht hs (k:=k) h0 hr;refine EvO.T hb1 fu rfl (d:=p) (st1:=st) (by simp only[df,hx,hi,h1,Option.map_some])<|EvO.T hb2 (bZ p) rfl (d:=d) (st1:=st) ?_ (h p)
 have:Fr.ev ⟨n,loc,(d1,p)::tmp⟩ (.tmp d1)=p:=by
  simp only[Fr.ev,Fr.get,hb1,look];have:Nat.beq d1 d1=true:=Nat.beq_refl d1;rw[this]
 simp only[df,this,h2 d hd,Option.map_some]
theorem EvO.Cc {P:Pv} {ops:Array Oper} {rest:List Oper} {n:Nat} {loc:List D} {tmp:List (Nat×D)} {st:St} {Q:Fr→St→Prop} {t e:TypeId} {xo io:Operand} {d1 d2:Nat} {Hr jE:TypeId} {p1 p2:String} {a1 a2:Array Edge} {g1 g2:Option (Nat×Bool)} {x:D} {k:IntKind} {i:Int} {s:Nat} {es:List (List D)} {r:List D} {d:D}
  (hb1:Nat.ble n d1=false) (hb2:Nat.ble n d2=false) (fu:au ops ⟨n,loc,tmp⟩ ⟨some d1,.indexAddr t xo io,Hr,p1,a1,g1⟩=some true) (bZ:∀p,au ops ⟨n,loc.set d1 p,tmp⟩ ⟨some d2,.load e (.tmp d1),jE,p2,a2,g2⟩=some true)
  (rU:d1<loc.length) (hx:Fr.ev ⟨n,loc,tmp⟩ xo=x) (hi:Fr.ev ⟨n,loc,tmp⟩ io=.int k i) (hR:Rows st s x es) (ht:P.b9 t=some (.slice e)) (hs:bN P e=some s) (h0:0≤i) (hr:es[i.toNat]?=some r) (hd:cP P e r=some d)
  (h:∀p,EvO P ops rest ⟨n,(loc.set d1 p).set d2 d,tmp⟩ st Q):EvO P ops (⟨some d1,.indexAddr t xo io,Hr,p1,a1,g1⟩::⟨some d2,.load e (.tmp d1),jE,p2,a2,g2⟩::rest) ⟨n,loc,tmp⟩ st Q:=by
 obtain⟨p,h1,h2⟩:=hR.idx ht hs (k:=k) h0 hr;refine EvO.L hb1 fu rfl (d:=p) (st1:=st) (by simp only[df,hx,hi,h1,Option.map_some])<|EvO.L hb2 (bZ p) rfl (d:=d) (st1:=st) ?_ (h p)
 have:Fr.ev ⟨n,loc.set d1 p,tmp⟩ (.tmp d1)=p:=by
  simp only[Fr.ev,Fr.get,hb1]
  have key:∀(l:List D) (i:Nat),i<l.length→nth .junk (l.set i p) i=p:=by
   intro l
   induction l with
   |nil=>intro i h;simp at h
   |cons x l ih=>
    intro i h
    cases i with
    |zero=>rfl
    |succ i=>exact ih i (by simpa using h)
  exact key loc d1 rU
 simp only[df,this,h2 d hd,Option.map_some]
def byteCells (b:List UInt8):List (List D):=b.map fun y=>[.int .u8 (y.toNat:Nat)]
def Bytes (st:St) (x:D) (b:List UInt8):Prop:=Rows st 1 x (byteCells b)
theorem aB {m:Mode} {kn:Bool} {st st1:St} {d d':D} (hm:m≠.cD∧m≠.nw) (h1:st1.bs.take st.bs.length=st.bs) (hd:aO st1 st.bs.length kn 16 d=some d'):b8 m kn st st1 d=some (d',st):=by
 cases m with
 |cD=>exact absurd rfl hm.1
 |nw=>exact absurd rfl hm.2
 |_=>simp only[b8,hd,h1]
end Go.V
namespace Go.V
structure Ex (N:Nat) (st ae:St):Prop where
 low:∀k,k<N→ae.bs[k]?=st.bs[k]?
 len:st.bs.length≤ae.bs.length
 flr:ae.flr=st.flr
 ro:ae.ro=st.ro
theorem Ex.refl (N:Nat) (st:St):Ex N st st:=⟨fun _ _=>rfl,Nat.le_refl _,rfl,rfl⟩
theorem Ex.trans {N:Nat} {a b c:St} (h:Ex N a b) (g:Ex N b c):Ex N a c:=
 ⟨fun k hk=>(g.low k hk).trans (h.low k hk),Nat.le_trans h.len g.len,g.flr.trans h.flr,g.ro.trans h.ro⟩
theorem Ex.push {N:Nat} {st:St} (h:N≤st.bs.length) (b:gP):Ex N st (st.push b):=
 ⟨fun k hk=>by simp only[St.push];rw[List.getElem?_append_left (by omega)],by simp[St.push],rfl,rfl⟩
theorem Ex.set {N:Nat} {st:St} {k:Nat} (h:N≤k) (b:gP):Ex N st {st with bs:=st.bs.set k b}:=
 ⟨fun j hj=>by simp only;rw[List.getElem?_set_ne (by omega)],by simp,rfl,rfl⟩
theorem Ex.take {N:Nat} {st ae:St} (h:Ex N st ae) (hN:N=st.bs.length):ae.bs.take N=st.bs:=by
 apply List.ext_getElem?;intro k;rw[List.getElem?_take]
 split
 ·exact h.low k (by assumption)
 ·rw[List.getElem?_eq_none (by omega)]
theorem Ex.mem {N:Nat} {st ae:St} (h:Ex N st ae) {k v:Nat} (hk:k<N):ae.dL k v=st.dL k v:=by
 simp only[St.dL,h.low k hk]
theorem Rows.ex {N:Nat} {st ae:St} (h:Ex N st ae) {s:Nat} {x:D} {es:List (List D)} (hr:Rows st s x es) (hx:x.ref≤N):Rows ae s x es:=by
 cases hr with
 |nul=>exact .nul
 |sl es h=>exact .sl es h
 |win k aq off es ar c hm hl he=>exact .win k aq off es ar c (by rw[h.mem (by simp only[D.ref] at hx;omega)];exact hm) hl he
theorem Rows.slice {P:Pv} {st:St} {s:Nat} {x:D} {es:List (List D)} (h:Rows st s x es) {t e:TypeId} (ht:P.b9 t=some (.slice e)) (hs:bN P e=some s) {lo hi:Option D} {l r:Nat} (hb:dH es.length lo hi=some (l,r)) (AZ:l≤r∧r≤es.length):
  ∃y,g_ P t x lo hi st=some y∧Rows st s y ((es.take r).drop l)∧y.ref≤x.ref:=by
 cases h with
 |nul=>
  refine⟨.nul,?_,?_,Nat.le_refl _⟩
  ·simp only[g_,ht,hs,Option.bind_some];simp only[List.length_nil] at hb;rw[hb];rfl
  ·simp;exact .nul
 |sl es h=>
  refine⟨.sl ((es.take r).drop l),?_,?_,by simp[D.ref]⟩
  ·simp only[g_,ht,hs,Option.bind_some]
   have:pQ s es=true:=by
    cases es with
    |nil=>rfl
    |cons e es=>obtain⟨h1,h2⟩:=h e (List.mem_cons_self ..);simp[pQ,h1,h2]
   rw[if_pos this];simp only[List.length_map] at hb;rw[hb];rfl
  ·have:=Rows.sl (st:=st) (s:=s) ((es.take r).drop l) fun e he=>h e (List.mem_of_mem_take (List.mem_of_mem_drop he))
   simpa[List.map_drop,List.map_take] using this
 |win k aq off es ar c hm hl he=>
  have hlen:((es.take r).drop l).length=r-l:=by simp;omega
  refine⟨.win k aq (off+l*s) (r-l) s,?_,?_,by simp[D.ref]⟩
  ·simp only[g_,ht,hs,Option.bind_some,if_true,hb];rfl
  ·have h1:l*s+(r-l)*s≤es.length*s:=by rw[←Nat.add_mul];exact Nat.mul_le_mul_right s (by omega)
   have:=Rows.win (st:=st) (s:=s) k aq (off+l*s) ((es.take r).drop l) ar c hm (by rw[hlen];omega) (fun i e hi=>by
    rw[List.getElem?_drop,List.getElem?_take] at hi
    split at hi
    ·have:=he _ _ hi;rw[←this,Nat.add_mul];congr 2;omega
    ·cases hi)
   rwa [hlen] at this
inductive Acc (N:Nat) (st:St) (s:Nat):D→List (List D)→Prop where
 |nul:Acc N st s .nul []
 |win (k aq:Nat) (es:List (List D)) (hN:N≤k) (hm:st.bs[k]?=some (.mem aq true es.flatten)) (he:∀e∈es,e.length=s):Acc N st s (.win k aq 0 es.length s) es
theorem c8 {s:Nat}:∀{es:List (List D)},(∀e∈es,e.length=s)→es.flatten.length=es.length*s
 |[],_=>by simp
 |e::es,h=>by
  have:=c8 (s:=s) (es:=es) fun x hx=>h x (List.mem_cons_of_mem _ hx);simp only[List.flatten_cons,List.length_append,List.length_cons,this,h e (List.mem_cons_self ..)];rw[Nat.add_mul];omega
theorem kK {s:Nat}:∀{es:List (List D)},(∀e∈es,e.length=s)→∀(i:Nat) e,es[i]?=some e→(es.flatten.drop (i*s)).take s=e
 |[],_,i,e,h=>by simp at h
 |x::es,h,0,e,hi=>by
  simp at hi;subst hi;have:=h x (List.mem_cons_self ..);simp[List.take_left' this]
 |x::es,h,i+1,e,hi=>by
  simp only[List.getElem?_cons_succ] at hi;have hx:=h x (List.mem_cons_self ..);have:=kK (s:=s) (es:=es) (fun y hy=>h y (List.mem_cons_of_mem _ hy)) i e hi;rw[←this,List.flatten_cons,Nat.add_mul,Nat.one_mul,Nat.add_comm,←hx,←List.drop_drop,List.drop_left]
theorem St.mem_of {st:St} {k aq:Nat} {ar:Bool} {c:List D} (h:st.bs[k]?=some (.mem aq ar c)):st.dL k aq=some (ar,c):=by
 simp only[St.dL,h,if_true]
theorem Acc.rows {N:Nat} {st:St} {s:Nat} {x:D} {es:List (List D)} (h:Acc N st s x es):Rows st s x es:=by
 cases h with
 |nul=>exact .nul
 |win k aq es hN hm he=>
  exact .win k aq 0 es true es.flatten (St.mem_of hm) (by rw[c8 he];omega) fun i e hi=>by rw[Nat.zero_add];exact kK he i e hi
theorem Acc.ex {N M:Nat} {st ae:St} (h:Ex M st ae) {s:Nat} {x:D} {es:List (List D)} (hr:Acc N st s x es) (hx:x.ref≤M):Acc N ae s x es:=by
 cases hr with
 |nul=>exact .nul
 |win k aq es hN hm he=>exact .win k aq es hN (by rw[h.low k (by simp only[D.ref] at hx;omega)];exact hm) he
theorem Acc.push {N:Nat} {st:St} {s:Nat} {x:D} {es:List (List D)} (hr:Acc N st s x es) (b:gP):Acc N (st.push b) s x es:=by
 cases hr with
 |nul=>exact .nul
 |win k aq es hN hm he=>
  refine .win k aq es hN ?_ he;simp only[St.push];rw[List.getElem?_append_left];exact hm
  rcases Nat.lt_or_ge k st.bs.length with h'|h'
  ·exact h'
  ·rw[List.getElem?_eq_none h'] at hm;cases hm
theorem Rows.row {st:St} {s:Nat} {x:D} {es:List (List D)} (h:Rows st s x es):o_ st x=some (es.length,es.flatten):=by
 have hl:=h.tK
 cases h with
 |nul=>rfl
 |sl es h=>
  simp only[o_,List.length_map];rw[List.flatMap_def]
 |win k aq off es ar c hm hl' he=>
  simp only[o_,hm,Option.bind_some,if_pos hl']
  congr 2
  have key:∀(es:List (List D)) (c:List D),es.length*s≤c.length→(∀(i:Nat) e,es[i]?=some e→(c.drop (i*s)).take s=e)→c.take (es.length*s)=es.flatten:=by
   intro es
   induction es with
   |nil=>intro c _ _;simp
   |cons e es ih=>
    intro c hc hx;have h0:=hx 0 e rfl;simp only[Nat.zero_mul,List.drop_zero] at h0;rw[List.flatten_cons,List.length_cons,Nat.add_mul,Nat.one_mul,Nat.add_comm,List.take_add,h0]
    congr 1
    simp only[List.length_cons,Nat.add_mul,Nat.one_mul] at hc;refine ih (c.drop s) (by simp;omega) fun i e hi=>?_;rw[List.drop_drop,←hx (i+1) e (by simpa using hi),Nat.add_mul,Nat.one_mul,Nat.add_comm]
  refine key es (c.drop off) (by simp;omega) fun i e hi=>?_;rw[List.drop_drop];exact he i e hi
theorem Acc.append {P:Pv} {N:Nat} {st:St} {s:Nat} {x y:D} {es ys:List (List D)} (hr:Acc N st s x es) (hy:Rows st s y ys) {t1 t2 e:TypeId} {td:TypeDesc} {inf:TypeInfo} {z:List D}
  (h1:P.b9 t1=some (.slice e)) (h2:P.b9 t2=some td) (h3:fJ td=false) (h4:P.info e=some inf) (h5:cT P e=some z) (h6:inf.size=s) (h7:z.length=s) (h8:inf.bytes≠0)
  (hN:N≤st.bs.length) (hf:st.flr≤N) (ft:st.ro≤N) (hb:(es.length+ys.length)*inf.bytes≤1099511627776):
  ∃x' ae,ba P .append [t1,t2] [x,y] st=some (x',ae)∧Acc N ae s x' (es++ys)∧Ex N st ae∧x'.ref≤ae.bs.length∧(∀k,k<st.bs.length→k+1≠x.ref→ae.bs[k]?=st.bs[k]?)∧(x'.ref=x.ref∨st.bs.length<x'.ref):=by
 have jr:=hy.row
 have Cd:∀e∈ys,e.length=s:=fun e he=>by
  obtain⟨i,hi⟩:=List.getElem?_of_mem he;exact hy.tK i e hi
 have lD:=c8 Cd;subst h6;simp only[ba,gp,h1,h2,h3,Bool.false_eq_true,if_false,h4,h5,jr,Option.bind_some];rw[if_neg (by rintro(h|h|h);exact h lD;exact h8 h;exact h h7)]
 cases hr with
 |nul=>
  simp only[List.nil_append]
  by_cases h0:ys.length=0
  ·rw[if_pos h0]
   have:ys=[]:=by cases ys with|nil=>rfl|cons _ _=>simp at h0
   subst this;exact⟨.nul,st,rfl,.nul,Ex.refl _ _,by simp[D.ref],fun _ _ _=>rfl,.inl rfl⟩
  ·rw[if_neg h0,if_pos (by simpa using hb)];refine⟨_,_,rfl,?_,Ex.push hN _,by simp[D.ref,St.push],fun k hk _=>by simp only[St.push];rw[List.getElem?_append_left hk],.inr (by simp[D.ref])⟩;exact .win _ _ ys hN (by simp[St.push]) Cd
 |win k aq es hk hm he=>
  have nu:k<st.bs.length:=by
   rcases Nat.lt_or_ge k st.bs.length with h'|h'
   ·exact h'
   ·rw[List.getElem?_eq_none h'] at hm;cases hm
  simp only[St.mem_of hm];rw[if_neg (by rintro(h|h);exact h rfl;rw[c8 he] at h;omega)]
  by_cases h0:ys.length=0
  ·rw[if_pos h0]
   have:ys=[]:=by cases ys with|nil=>rfl|cons _ _=>simp at h0
   subst this;simp only[List.append_nil];exact⟨_,st,rfl,.win k aq es hk hm he,Ex.refl _ _,by simp only[D.ref];omega,fun _ _ _=>rfl,.inl rfl⟩
  ·rw[if_neg h0,if_pos ⟨hb,by simp only[St.jb,Bool.and_eq_true,Bool.or_eq_true,decide_eq_true_eq];exact⟨by omega,.inl (by omega)⟩⟩];refine⟨_,_,rfl,?_,Ex.set hk _,by simp only[D.ref,List.length_set];omega,fun j hj hne=>by simp only;rw[List.getElem?_set_ne (by simp only[D.ref] at hne;omega)],.inl rfl⟩
   have:(es.flatten.take (0+es.length*inf.size)).drop 0++ys.flatten=(es++ys).flatten:=by
    rw[Nat.zero_add,←c8 he,List.take_length,List.drop_zero,List.flatten_append]
   rw[this];have hll:es.length+ys.length=(es++ys).length:=by simp
   rw[hll]
   exact .win k (aq+1) (es++ys) hk (by simp[nu]) fun e h=>by
    rcases List.mem_append.1 h with h|h
    ·exact he e h
    ·exact Cd e h
def bS:D→Bool
 | .bool _| .int _ _| .str _| .sl _=>true
 |_=>false
theorem gw {st:St} {N n:Nat}:∀{l:List D},(∀d∈l,bS d=true)→eG (cH st N (n+1)) l=some l
 |[],_=>rfl
 |d::l,h=>by
  have h1:=h d (List.mem_cons_self ..);have h2:=gw (st:=st) (N:=N) (n:=n) fun x hx=>h x (List.mem_cons_of_mem _ hx);have h3:cH st N (n+1) d=some d:=by cases d<;>simp[bS] at h1<;>rfl
  simp only[eG,h3,h2]
def ic (s:Nat) (e:List D):D:=match s with|1=>e.headD .junk|_=>.agg e
theorem eS {s:Nat}:∀{es:List (List D)},(∀e∈es,e.length=s)→chunk s es.length es.flatten=es.map (ic s)
 |[],_=>rfl
 |e::es,h=>by
  have he:=h e (List.mem_cons_self ..);have ih:=eS (s:=s) (es:=es) fun x hx=>h x (List.mem_cons_of_mem _ hx);simp only[List.length_cons,chunk,List.flatten_cons,List.map_cons]
  congr 1
  ·by_cases hs:s=1
   ·subst hs
    cases e with
    |nil=>simp at he
    |cons x xs=>simp[ic]
   ·have h1:ic s e=.agg e:=by unfold ic;split;exact absurd rfl hs;rfl
    have h2:(match s with|1=>(e++es.flatten).headD .junk|_=>D.agg ((e++es.flatten).take s))=.agg e:=by
     split
     ·exact absurd rfl hs
     ·rw[List.take_left' he]
    rw[h1];exact h2
  ·rw[List.drop_left' he];exact ih
theorem Acc.freeze {N:Nat} {st:St} {s:Nat} {x:D} {es:List (List D)} (h:Acc N st s x es) (hp:∀e∈es,∀d∈e,bS d=true) {n:Nat} (hn:2≤n):aO st N false (n+1) x=some (.sl (es.map (ic s))):=by
 obtain⟨n,rfl⟩:∃m,n=m+2:=⟨n-2,by omega⟩
 cases h with
 |nul=>rfl
 |win k aq es hN hm he=>
  show(if k<N then some (D.win k aq 0 es.length s) else cH st N (n+2) (.win k aq 0 es.length s))=_;rw[if_neg (show¬k<N by omega),cH];simp only[if_neg (show¬k<N by omega),St.mem_of hm,Option.bind_some];rw[if_pos (by rw[c8 he];omega)];have:(es.flatten.drop 0).take (es.length*s)=es.flatten:=by rw[List.drop_zero,←c8 he,List.take_length]
  rw[this,gw (fun d hd=>by
   obtain⟨e,rT,n3⟩:=List.mem_flatten.1 hd
   exact hp e rT d n3)]
  simp only[Option.map_some,eS he]
theorem kN {s:Nat} {e:List D} (h:e.length=s) (hp:∀d∈e,bS d=true):(ic s e).cells?=some (ic s e).cells∧(ic s e).cells=e:=by
 by_cases hs:s=1
 ·subst hs
  match e,h with
  |[x],_=>
   have:=hp x (List.mem_cons_self ..);cases x<;>simp[bS] at this<;>exact⟨rfl,rfl⟩
 ·have:ic s e=.agg e:=by unfold ic;split;exact absurd rfl hs;rfl
  rw[this];exact⟨rfl,rfl⟩
theorem Rows.l4 {st:St} {s:Nat} {es:List (List D)} (h:∀e∈es,e.length=s) (hp:∀e∈es,∀d∈e,bS d=true):Rows st s (.sl (es.map (ic s))) es:=by
 have:=Rows.sl (st:=st) (s:=s) (es.map (ic s)) fun d hd=>by
  obtain⟨e,he,rfl⟩:=List.mem_map.1 hd;obtain⟨h1,h2⟩:=kN (h e he) (hp e he);exact⟨h1,by rw[h2];exact h e he⟩
 have h2:(es.map (ic s)).map D.cells=es:=by
  rw[List.map_map]
  conv=>rhs;rw[←List.map_id es]
  refine List.map_congr_left fun e he=>?_;exact(kN (h e he) (hp e he)).2
 rwa [h2] at this
theorem Rows.bs {st ae:St} (h:ae.bs=st.bs) {s:Nat} {x:D} {es:List (List D)} (hr:Rows st s x es):Rows ae s x es:=by
 cases hr with
 |nul=>exact .nul
 |sl es h=>exact .sl es h
 |win k aq off es ar c hm hl he=>exact .win k aq off es ar c (by simp only[St.dL,h] at hm⊢;exact hm) hl he
theorem CQ (m:Mode) (st:St):(enterSt m st).bs=st.bs:=by cases m<;>rfl
theorem Rows.enter {st:St} {s:Nat} {x:D} {es:List (List D)} (m:Mode) (hr:Rows st s x es):Rows (enterSt m st) s x es:=hr.bs (CQ m st)
theorem dQ {k:IntKind} {m:Nat} (h:m≤kU k):aV k (m:Int)=m:=by
 show aV k (.ofNat m)=_;unfold aV;simp only[Nat.ble_eq_true_of_le h];rfl
theorem wrap_i64 {n : Int} (h1 : -9223372036854775808 ≤ n) (h2 : n ≤ 9223372036854775807) : aV .i64 n = n := by
  cases n with
  | ofNat m => exact dQ (k := .i64) (m := m) (by simp only [kU]; have : (Int.ofNat m) = (m : Int) := rfl; omega)
  | negSucc m =>
    unfold aV
    have : Nat.ble (s9 .i64) m = false := by
      cases hb : Nat.ble (s9 .i64) m with
      | false => rfl
      | true => have := Nat.le_of_ble_eq_true hb; simp only [s9] at this; have : Int.negSucc m = -(m : Int) - 1 := by omega
                omega
    simp only [this]
theorem bv_and {w a b:Nat} (ha:a<2^w) (hb:b<2^w):(BitVec.ofInt w (a:Int) &&&BitVec.ofInt w (b:Int)).toNat=a &&&b:=by
 rw[BitVec.ofInt_natCast,BitVec.ofInt_natCast,BitVec.toNat_and,BitVec.toNat_ofNat,BitVec.toNat_ofNat,Nat.mod_eq_of_lt ha,Nat.mod_eq_of_lt hb]
theorem E5 {w a b:Nat} (ha:a<2^w) (hb:b<2^w):(BitVec.ofInt w (a:Int)|||BitVec.ofInt w (b:Int)).toNat=a|||b:=by
 rw[BitVec.ofInt_natCast,BitVec.ofInt_natCast,BitVec.toNat_or,BitVec.toNat_ofNat,BitVec.toNat_ofNat,Nat.mod_eq_of_lt ha,Nat.mod_eq_of_lt hb]
end Go.V
namespace Go.V
theorem cL {a b:Int} (h:a=b):(a==b)=true:=by simp[h]
theorem d_ {a b:Int} (h:a≠b):(a==b)=false:=by simp[h]
theorem cK {a b:Int} (h:a≠b):(a !=b)=true:=by simp[h]
theorem dZ {a b:Int} (h:a=b):(a !=b)=false:=by simp[h]
variable{P:Pv} {ops:Array Oper} {rest:List Oper} {n:Nat} {loc:List D} {tmp:List (Nat×D)} {st:St} {Q:Fr→St→Prop} {ty:TypeId} {p:String} {a:Array Edge} {g:Option (Nat×Bool)} {dst:Nat}
theorem EvO.len {t e:TypeId} {xo:Operand} {x:D} {s:Nat} {es:List (List D)} (hb0:Nat.ble n dst=true) (hg:au ops ⟨n,loc,tmp⟩ ⟨some dst,.call ⟨.builtin .len,#[xo],#[t]⟩,ty,p,a,g⟩=some true) (hx:Fr.ev ⟨n,loc,tmp⟩ xo=x) (hR:Rows st s x es) (ht:P.b9 t=some (.slice e))
  (h:EvO P ops rest ⟨n,loc,(dst,(.int .i64 (es.length:Nat)))::tmp⟩ st Q):EvO P ops (⟨some dst,.call ⟨.builtin .len,#[xo],#[t]⟩,ty,p,a,g⟩::rest) ⟨n,loc,tmp⟩ st Q:=by
 refine EvO.T hb0 hg rfl (d:=.int .i64 (es.length:Nat)) (st1:=st) ?_ h;simp only[df,List.map_cons,List.map_nil,hx];exact hR.EG ht
theorem EvO.slice {t e:TypeId} {xo:Operand} {lo hi:Option Operand} {x:D} {s:Nat} {es:List (List D)} {l r:Nat} (hb0:Nat.ble n dst=true) (hg:au ops ⟨n,loc,tmp⟩ ⟨some dst,.slice t xo lo hi none,ty,p,a,g⟩=some true) (hx:Fr.ev ⟨n,loc,tmp⟩ xo=x) (hR:Rows st s x es) (ht:P.b9 t=some (.slice e)) (hs:bN P e=some s)
  (hb:dH es.length (lo.map (Fr.ev ⟨n,loc,tmp⟩)) (hi.map (Fr.ev ⟨n,loc,tmp⟩))=some (l,r)) (AZ:l≤r∧r≤es.length)
  (h:∀y,Rows st s y ((es.take r).drop l)→y.ref≤x.ref→EvO P ops rest ⟨n,loc,(dst,y)::tmp⟩ st Q):EvO P ops (⟨some dst,.slice t xo lo hi none,ty,p,a,g⟩::rest) ⟨n,loc,tmp⟩ st Q:=by
 obtain⟨y,h1,h2,h3⟩:=hR.slice ht hs hb AZ;refine EvO.T hb0 hg rfl (d:=y) (st1:=st) ?_ (h y h2 h3);simp only[df,hx,h1,Option.map_some]
theorem EvO.append {N:Nat} {t1 t2 e:TypeId} {td:TypeDesc} {inf:TypeInfo} {z:List D} {xo yo:Operand} {x y:D} {s:Nat} {es ys:List (List D)} (hb0:Nat.ble n dst=true) (hg:au ops ⟨n,loc,tmp⟩ ⟨some dst,.call ⟨.builtin .append,#[xo,yo],#[t1,t2]⟩,ty,p,a,g⟩=some true)
  (hx:Fr.ev ⟨n,loc,tmp⟩ xo=x) (hy:Fr.ev ⟨n,loc,tmp⟩ yo=y) (hr:Acc N st s x es) (jh:Rows st s y ys)
  (h1:P.b9 t1=some (.slice e)) (h2:P.b9 t2=some td) (h3:fJ td=false) (h4:P.info e=some inf) (h5:cT P e=some z) (h6:inf.size=s) (h7:z.length=s) (h8:inf.bytes≠0)
  (hN:N≤st.bs.length) (hf:st.flr≤N) (ft:st.ro≤N) (hb:(es.length+ys.length)*inf.bytes≤1099511627776)
  (h:∀x' ae,Acc N ae s x' (es++ys)→Ex N st ae→x'.ref≤ae.bs.length→(∀k,k<st.bs.length→k+1≠x.ref→ae.bs[k]?=st.bs[k]?)→(x'.ref=x.ref∨st.bs.length<x'.ref)→EvO P ops rest ⟨n,loc,(dst,x')::tmp⟩ ae Q):
  EvO P ops (⟨some dst,.call ⟨.builtin .append,#[xo,yo],#[t1,t2]⟩,ty,p,a,g⟩::rest) ⟨n,loc,tmp⟩ st Q:=by
 obtain⟨x',ae,q1,q2,q3,q4,q5,q6⟩:=hr.append jh h1 h2 h3 h4 h5 h6 h7 h8 hN hf ft hb;refine EvO.T hb0 hg rfl (d:=x') (st1:=ae) ?_ (h x' ae q2 q3 q4 q5 q6);simp only[df,List.map_cons,List.map_nil,hx,hy];exact q1
theorem Rows.one {st:St} {s:Nat} {c:List D} (hc:c.length=s):Rows (st.push (.mem 0 true c)) s (.win st.bs.length 0 0 1 s) [c]:=by
 have:=Rows.win (st:=st.push (.mem 0 true c)) (s:=s) st.bs.length 0 0 [c] true c (St.mem_of (by simp[St.push])) (by simp[hc]) fun i e hi=>by
  cases i with
  |zero=>simp at hi;subst hi;simp[←hc]
  |succ i=>simp at hi
 exact this
theorem Rows.ref {st:St} {s:Nat} {x:D} {es:List (List D)} (h:Rows st s x es):x.ref≤st.bs.length:=by
 cases h with
 |nul=>simp[D.ref]
 |sl es h=>simp[D.ref]
 |win k aq off es ar c hm hl he=>
  simp only[D.ref]
  rcases Nat.lt_or_ge k st.bs.length with h'|h'
  ·exact h'
  ·simp only[St.dL,List.getElem?_eq_none h'] at hm;cases hm
theorem Acc.ref {N:Nat} {st:St} {s:Nat} {x:D} {es:List (List D)} (h:Acc N st s x es):x.ref≤st.bs.length:=h.rows.ref
end Go.V
namespace Go.V
theorem fz:∀(xs c:List D) (off:Nat),off+xs.length≤c.length→setMany c off xs=c.take off++xs++c.drop (off+xs.length)
 |[],c,off,h=>by simp[setMany]
 |x::xs,c,off,h=>by
  simp only[setMany];simp only[List.length_cons] at h;rw[fz xs (c.set off x) (off+1) (by simp;omega)]
  have h1:(c.set off x).take (off+1)=c.take off++[x]:=by
   rw[List.take_set,List.take_add_one,List.getElem?_eq_getElem (by omega:off<c.length)];simp only[Option.toList_some];rw[List.set_append_right _ _ (by simp;omega)];have:off-(c.take off).length=0:=by simp;omega
   rw[this];rfl
  have h2:(c.set off x).drop (off+1+xs.length)=c.drop (off+(xs.length+1)):=by
   rw[List.drop_set_of_lt (by omega)];congr 1;omega
  rw[h1,h2];simp[List.length_cons]
theorem uP {st:St} {b b':gP} {k:Nat} (hk:k=st.bs.length):(⟨(st.push b).bs.set k b',(st.push b).flr,(st.push b).ro⟩:St)=st.push b':=by
 subst hk;simp[St.push,List.set_append_right]
theorem iS (st:St) (b:gP):(st.push b).bs[st.bs.length]?=some b:=by simp[St.push]
variable{P:Pv} {ops:Array Oper} {rest:List Oper} {n:Nat} {loc:List D} {tmp:List (Nat×D)} {st:St} {Q:Fr→St→Prop} {ty:TypeId} {p:String} {a:Array Edge} {g:Option (Nat×Bool)} {dst:Nat}
theorem EvO.makeSlice {t e:TypeId} {lo co:Operand} {k1 k2:IntKind} {m:Nat} {inf:TypeInfo} {z:List D} (hb0:Nat.ble n dst=true) (hg:au ops ⟨n,loc,tmp⟩ ⟨some dst,.makeSlice t lo co,ty,p,a,g⟩=some true)
  (hl:Fr.ev ⟨n,loc,tmp⟩ lo=.int k1 (m:Nat)) (hc:Fr.ev ⟨n,loc,tmp⟩ co=.int k2 (m:Nat)) (ht:P.b9 t=some (.slice e)) (hi:P.info e=some inf) (hz:cT P e=some z) (k_:z.length=inf.size) (hm:m*inf.bytes≤140737488355328) (Iz:m≤9223372036854775807)
  (h:EvO P ops rest ⟨n,loc,(dst,.win st.bs.length 0 0 m inf.size)::tmp⟩ (st.push (.mem 0 true (eu m z))) Q):EvO P ops (⟨some dst,.makeSlice t lo co,ty,p,a,g⟩::rest) ⟨n,loc,tmp⟩ st Q:=by
 refine EvO.T hb0 hg rfl (d:=.win st.bs.length 0 0 m inf.size) (st1:=st.push (.mem 0 true (eu m z))) ?_ h;simp only[df,hl,hc,fG,ht,hi,hz,Option.bind_some];rw[if_pos ⟨k_,by omega,by omega,by omega,by rw[←Int.natCast_mul];omega⟩]
 rfl
theorem lf {k aq off:Nat} {ar:Bool} {c cs:List D} (hm:st.bs[k]?=some (.mem aq ar c)) (hl:off+cs.length≤c.length) (hw:st.jb k (refs cs)=true):st.wr k aq off cs=some {st with bs:=st.bs.set k (.mem aq ar (c.take off++cs++c.drop (off+cs.length)))}:=by
 simp only[St.wr,St.mem_of hm];rw[if_pos ⟨hl,hw⟩,fz _ _ _ hl]
theorem wa {N k r:Nat} (hk:N≤k) (hf:st.flr≤N) (ft:st.ro≤N):st.jb k r=true:=by
 simp only[St.jb,Bool.and_eq_true,Bool.or_eq_true,decide_eq_true_eq];exact⟨by omega,.inl (by omega)⟩
theorem EvO.copy {t1 t2 e:TypeId} {NM so:Operand} {k aq off len s:Nat} {y:D} {ys:List (List D)} {ar:Bool} {c:List D} (hb0:Nat.ble n dst=true) (hg:au ops ⟨n,loc,tmp⟩ ⟨some dst,.call ⟨.builtin .copy,#[NM,so],#[t1,t2]⟩,ty,p,a,g⟩=some true)
  (hd:Fr.ev ⟨n,loc,tmp⟩ NM=.win k aq off len s) (hy:Fr.ev ⟨n,loc,tmp⟩ so=y) (hR:Rows st s y ys) (ht:P.b9 t1=some (.slice e)) (hs:bN P e=some s) (hm:st.bs[k]?=some (.mem aq ar c)) (hl:off+len*s≤c.length)
  (hw:st.jb k (refs (ys.flatten.take (min ys.length len*s)))=true)
  (h:EvO P ops rest ⟨n,loc,(dst,.int .i64 (min ys.length len:Nat))::tmp⟩ {st with bs:=st.bs.set k (.mem aq ar (c.take off++ys.flatten.take (min ys.length len*s)++c.drop (off+min ys.length len*s)))} Q):
  EvO P ops (⟨some dst,.call ⟨.builtin .copy,#[NM,so],#[t1,t2]⟩,ty,p,a,g⟩::rest) ⟨n,loc,tmp⟩ st Q:=by
 have Cd:∀e∈ys,e.length=s:=fun e he=>by
  obtain⟨i,hi⟩:=List.getElem?_of_mem he;exact hR.tK i e hi
 have lD:=c8 Cd;have Eb:min ys.length len*s≤ys.length*s:=Nat.mul_le_mul_right s (Nat.min_le_left _ _);have OG:min ys.length len*s≤len*s:=Nat.mul_le_mul_right s (Nat.min_le_right _ _);have yP:(ys.flatten.take (min ys.length len*s)).length=min ys.length len*s:=by rw[List.length_take,lD];omega
 refine EvO.T hb0 hg rfl (d:=.int .i64 (min ys.length len:Nat)) (st1:={st with bs:=st.bs.set k (.mem aq ar (c.take off++ys.flatten.take (min ys.length len*s)++c.drop (off+min ys.length len*s)))}) ?_ h;simp only[df,List.map_cons,List.map_nil,hd,hy,ba,sk,ht,hs,Option.bind_some,hR.row];rw[if_neg (by simp[lD])];simp only[ne_eq,not_true_eq_false,if_false];have:=lf (st:=st) hm (cs:=ys.flatten.take (min ys.length len*s)) (off:=off) (by rw[yP];omega) hw;rw[this,yP];rfl
theorem mem_push (st:St) (v:Nat) (a:Bool) (c:List D):(st.push (.mem v a c)).dL st.bs.length v=some (a,c):=St.mem_of (iS st _)
theorem EvO.store {fr:Fr} {t:TypeId} {ao vo:Operand} {k aq off:Nat} {v:D} {cs:List D} {ar:Bool} {c:List D} (hg:au ops fr ⟨none,.store t ao vo,ty,p,a,g⟩=some true) (ha:fr.ev ao=.ptr k aq off) (hv:fr.ev vo=v)
  (jk:v.cells?=some cs) (hs:bN P t=some cs.length) (hm:st.bs[k]?=some (.mem aq ar c)) (hl:off+cs.length≤c.length) (hw:st.jb k (refs cs)=true)
  (h:EvO P ops rest fr {st with bs:=st.bs.set k (.mem aq ar (c.take off++cs++c.drop (off+cs.length)))} Q):EvO P ops (⟨none,.store t ao vo,ty,p,a,g⟩::rest) fr st Q:=by
 refine EvO.N hg rfl (d:=.tup []) (st1:=_) ?_ h;simp only[df,ha,hv,jF,jk,hs];rw[if_pos trivial,lf hm hl hw];rfl
theorem EvO.load {t:TypeId} {ao:Operand} {k aq off:Nat} {d:D} {ar:Bool} {c:List D} (hb0:Nat.ble n dst=true) (hg:au ops ⟨n,loc,tmp⟩ ⟨some dst,.load t ao,ty,p,a,g⟩=some true) (ha:Fr.ev ⟨n,loc,tmp⟩ ao=.ptr k aq off)
  (hm:st.bs[k]?=some (.mem aq ar c)) (hd:cP P t (c.drop off)=some d)
  (h:EvO P ops rest ⟨n,loc,(dst,d)::tmp⟩ st Q):EvO P ops (⟨some dst,.load t ao,ty,p,a,g⟩::rest) ⟨n,loc,tmp⟩ st Q:=by
 refine EvO.T hb0 hg rfl (d:=d) (st1:=st) ?_ h;simp only[df,ha,eW,St.mem_of hm,Option.bind_some,hd,Option.map_some]
theorem EvO.next {io:Operand} {k pos:Nat} {b:List UInt8} (hb0:Nat.ble n dst=true) (hg:au ops ⟨n,loc,tmp⟩ ⟨some dst,.next io true,ty,p,a,g⟩=some true) (hx:Fr.ev ⟨n,loc,tmp⟩ io=.ptr k 0 0) (hm:st.bs[k]?=some (.iter b pos)) (hp:pos<b.length) (hw:st.jb k 0=true)
  (h:EvO P ops rest ⟨n,loc,(dst,.tup [.bool true,.int .i64 (pos:Nat),.int .i32 ((Utf8.decode ⟨b.toArray⟩ pos).1:Nat)])::tmp⟩ {st with bs:=st.bs.set k (.iter b (pos+(Utf8.decode ⟨b.toArray⟩ pos).2))} Q):EvO P ops (⟨some dst,.next io true,ty,p,a,g⟩::rest) ⟨n,loc,tmp⟩ st Q:=by
 refine EvO.T hb0 hg rfl (d:=.tup [.bool true,.int .i64 (pos:Nat),.int .i32 ((Utf8.decode ⟨b.toArray⟩ pos).1:Nat)]) (st1:={st with bs:=st.bs.set k (.iter b (pos+(Utf8.decode ⟨b.toArray⟩ pos).2))}) ?_ h;simp only[df,hx,rI,hm,if_pos hp,hw,if_true]
structure E_ (N k:Nat) (st ae:St):Prop where
 low:∀i,i<N→i≠k→ae.bs[i]?=st.bs[i]?
 len:st.bs.length≤ae.bs.length
 flr:ae.flr=st.flr
 ro:ae.ro=st.ro
theorem E_.of {N k:Nat} {a b c:St} (h:E_ N k a b) (g:Ex N b c):E_ N k a c:=
 ⟨fun i hi hk=>(g.low i hi).trans (h.low i hi hk),Nat.le_trans h.len g.len,g.flr.trans h.flr,g.ro.trans h.ro⟩
theorem E_.put {N k:Nat} {a b:St} (h:E_ N k a b) (bx:gP):E_ N k a ⟨b.bs.set k bx,b.flr,b.ro⟩:=
 ⟨fun i hi hk=>by simp only;rw[List.getElem?_set_ne (fun e=>hk e.symm)];exact h.low i hi hk,by simp only[List.length_set];exact h.len,h.flr,h.ro⟩
theorem E_.take {k:Nat} {a b:St} (h:E_ a.bs.length k a b) (hk:k<a.bs.length) {bx:gP} (hb:b.bs[k]?=some bx):b.bs.take a.bs.length=a.bs.set k bx:=by
 apply List.ext_getElem?;intro i;rw[List.getElem?_take]
 by_cases hi:i<a.bs.length
 ·rw[if_pos hi]
  by_cases he:i=k
  ·subst he;rw[hb,List.getElem?_set_self hk]
  ·rw[h.low i hi he,List.getElem?_set_ne (fun e=>he e.symm)]
 ·rw[if_neg hi,List.getElem?_eq_none (by simp;omega)]
theorem EvO.JA {t jE:TypeId} {xo yo:Operand} {x y:List UInt8} (hb0:Nat.ble n dst=true) (hg:au ops ⟨n,loc,tmp⟩ ⟨some dst,.binOp .add t xo yo jE,ty,p,a,g⟩=some true) (hx:Fr.ev ⟨n,loc,tmp⟩ xo=.str x) (hy:Fr.ev ⟨n,loc,tmp⟩ yo=.str y) (hl:x.length+y.length≤9223372036854775807)
  (h:EvO P ops rest ⟨n,loc,(dst,.str (x++y))::tmp⟩ st Q):EvO P ops (⟨some dst,.binOp .add t xo yo jE,ty,p,a,g⟩::rest) ⟨n,loc,tmp⟩ st Q:=by
 refine EvO.T hb0 hg rfl (d:=.str (x++y)) (st1:=st) ?_ h;simp only[df,hx,hy,nG,Bd,if_pos hl,Option.map_some]
end Go.V
namespace Go.V
variable{P:Pv} {ops:Array Oper} {rest:List Oper} {n:Nat} {loc:List D} {tmp:List (Nat×D)} {st:St} {Q:Fr→St→Prop} {ty:TypeId} {p:String} {a:Array Edge} {g:Option (Nat×Bool)} {dst:Nat}
end Go.V
namespace Go.V
structure bG where
 K:Nat→Prop
 P:St→Prop
 loc:∀{st ae:St},(∀k,K k→ae.bs[k]?=st.bs[k]?)→P st→P ae
def bG.box (k:Nat) (b:gP):bG:=⟨fun j=>j=k,fun st=>st.bs[k]?=some b,fun h p=>(h k rfl).trans p⟩
inductive gq (st:St) (s:Nat):D→List (List D)→Prop where
 |nul:gq st s .nul []
 |win (k aq off:Nat) (es:List (List D)) (c:List D) (hm:st.bs[k]?=some (.mem aq true c)) (hl:off+es.length*s≤c.length) (hc:(c.drop off).take (es.length*s)=es.flatten) (he:∀e∈es,e.length=s):gq st s (.win k aq off es.length s) es
theorem gq.move {st ae:St} {s:Nat} {x:D} {es:List (List D)} (h:∀k,x.ref=k+1→ae.bs[k]?=st.bs[k]?) (p:gq st s x es):gq ae s x es:=by
 cases p with
 |nul=>exact .nul
 |win k aq off es c hm hl hc he=>exact .win k aq off es c ((h k (by simp only[D.ref])).trans hm) hl hc he
def bG.lst (x:D) (s:Nat) (es:List (List D)):bG:=⟨fun j=>x.ref=j+1,fun st=>gq st s x es,fun h p=>gq.move h p⟩
theorem gq.tK {st:St} {s:Nat} {x:D} {es:List (List D)} (p:gq st s x es):∀e∈es,e.length=s:=by
 cases p with
 |nul=>intro e he;cases he
 |win k aq off es c hm hl hc he=>exact he
theorem gq.rows {st:St} {s:Nat} {x:D} {es:List (List D)} (p:gq st s x es):Rows st s x es:=by
 cases p with
 |nul=>exact .nul
 |win k aq off es c hm hl hc he=>
  refine .win k aq off es true c (St.mem_of hm) hl fun i e hi=>?_
  have hil:i<es.length:=by
   rcases Nat.lt_or_ge i es.length with h'|h'
   ·exact h'
   ·rw[List.getElem?_eq_none h'] at hi;cases hi
  have h1:=kK he i e hi;rw[←hc,List.drop_take,List.take_take,List.drop_drop] at h1;have h2:(i+1)*s≤es.length*s:=Nat.mul_le_mul_right s hil;rw[Nat.add_mul,Nat.one_mul] at h2
  rwa [Nat.min_eq_left (by omega)] at h1
structure Has (N:Nat) (S st:St) (H:List bG):Prop where
 ex:Ex N S st
 hN:N≤S.bs.length
 ft:S.ro≤N
 ok:∀(i:Nat) e,H[i]?=some e→e.P st∧∀k,e.K k→N≤k∧k<st.bs.length
 dis:∀(i j:Nat) a b,i≠j→H[i]?=some a→H[j]?=some b→∀k,a.K k→b.K k→False
theorem Has.start {N:Nat} {S:St} (hN:N≤S.bs.length) (ft:S.ro≤N):Has N S S []:=
 ⟨Ex.refl _ _,hN,ft,fun i e h=>by simp at h,fun i j a b _ h=>by simp at h⟩
theorem Has.len {N:Nat} {S st:St} {H:List bG} (h:Has N S st H):S.bs.length≤st.bs.length:=h.ex.len
theorem Has.Dx {N:Nat} {S st ae:St} {H:List bG} {j:Nat} {e e':bG} (h:Has N S st H) (hj:H[j]?=some e)
  (xz:∀k,k<st.bs.length→¬e.K k→ae.bs[k]?=st.bs[k]?) (hlen:st.bs.length≤ae.bs.length) (hf:ae.flr=st.flr) (hr:ae.ro=st.ro)
  (hP:e'.P ae) (hK:∀k,e'.K k→e.K k∨st.bs.length≤k) (KC:∀k,e'.K k→k<ae.bs.length):Has N S ae (H.set j e'):=by
 have jB:j<H.length:=by
  rcases Nat.lt_or_ge j H.length with h'|h'
  ·exact h'
  ·rw[List.getElem?_eq_none h'] at hj;cases hj
 have hl:=h.ex.len;have hN:=h.hN;refine⟨⟨fun k hk=>?_,Nat.le_trans hl hlen,hf.trans h.ex.flr,hr.trans h.ex.ro⟩,h.hN,h.ft,fun i e0 hi=>?_,fun i i' a b hii ha hb k tX iK=>?_⟩
 ·rw[xz k (by omega) fun jv=>by have:=((h.ok j e hj).2 k jv).1;omega];exact h.ex.low k hk
 ·by_cases hij:i=j
  ·subst hij;rw[List.getElem?_set_self jB] at hi;cases hi;refine⟨hP,fun k hk=>⟨?_,KC k hk⟩⟩
   rcases hK k hk with h1|h1
   ·exact((h.ok i e hj).2 k h1).1
   ·omega
  ·rw[List.getElem?_set_ne (fun e=>hij e.symm)] at hi;obtain⟨h1,h2⟩:=h.ok i e0 hi;refine⟨e0.loc (fun k hk=>xz k (h2 k hk).2 fun jv=>h.dis i j e0 e hij hi hj k hk jv) h1,fun k hk=>⟨(h2 k hk).1,Nat.lt_of_lt_of_le (h2 k hk).2 hlen⟩⟩
 ·have key:∀i a,i≠j→(H.set j e')[i]?=some a→a.K k→e'.K k→False:=by
   intro i a hij ha tX QW;rw[List.getElem?_set_ne (fun e=>hij e.symm)] at ha
   rcases hK k QW with h1|h1
   ·exact h.dis i j a e hij ha hj k tX h1
   ·have:=((h.ok i a ha).2 k tX).2;omega
  by_cases hij:i=j
  ·subst hij;have ez:=hb;rw[List.getElem?_set_self jB] at ha;cases ha;exact key i' b (fun e=>hii e.symm) hb iK tX
  ·by_cases IU:i'=j
   ·subst IU;rw[List.getElem?_set_self jB] at hb;cases hb;exact key i a hij ha tX iK
   ·rw[List.getElem?_set_ne (fun e=>hij e.symm)] at ha;rw[List.getElem?_set_ne (fun e=>IU e.symm)] at hb;exact h.dis i i' a b hii ha hb k tX iK
theorem Has.add {N:Nat} {S st ae:St} {H:List bG} {e':bG} (h:Has N S st H)
  (xz:∀k,k<st.bs.length→ae.bs[k]?=st.bs[k]?) (hlen:st.bs.length≤ae.bs.length) (hf:ae.flr=st.flr) (hr:ae.ro=st.ro)
  (hP:e'.P ae) (hK:∀k,e'.K k→st.bs.length≤k∧k<ae.bs.length):Has N S ae (e'::H):=by
 have hl:=h.ex.len;have hN:=h.hN;refine⟨⟨fun k hk=>?_,Nat.le_trans hl hlen,hf.trans h.ex.flr,hr.trans h.ex.ro⟩,h.hN,h.ft,fun i e0 hi=>?_,fun i i' a b hii ha hb k tX iK=>?_⟩
 ·rw[xz k (by omega)];exact h.ex.low k hk
 ·cases i with
  |zero=>
   simp only[List.getElem?_cons_zero,Option.some.injEq] at hi;subst hi;exact⟨hP,fun k hk=>⟨by have:=(hK k hk).1;omega,(hK k hk).2⟩⟩
  |succ i=>
   rw[List.getElem?_cons_succ] at hi;obtain⟨h1,h2⟩:=h.ok i e0 hi;exact⟨e0.loc (fun k hk=>xz k (h2 k hk).2) h1,fun k hk=>⟨(h2 k hk).1,Nat.lt_of_lt_of_le (h2 k hk).2 hlen⟩⟩
 ·cases i with
  |zero=>
   simp only[List.getElem?_cons_zero,Option.some.injEq] at ha;subst ha
   cases i' with
   |zero=>exact hii rfl
   |succ i'=>
    rw[List.getElem?_cons_succ] at hb;have:=((h.ok i' b hb).2 k iK).2;have:=(hK k tX).1;omega
  |succ i=>
   rw[List.getElem?_cons_succ] at ha
   cases i' with
   |zero=>
    simp only[List.getElem?_cons_zero,Option.some.injEq] at hb;subst hb;have:=((h.ok i a ha).2 k tX).2;have:=(hK k iK).1;omega
   |succ i'=>
    rw[List.getElem?_cons_succ] at hb;exact h.dis i i' a b (fun e=>hii (by rw[e])) ha hb k tX iK
theorem Has.sub {N:Nat} {S st:St} {H H':List bG} (h:Has N S st H) (f:Nat→Nat) (hf:∀i j,f i=f j→i=j) (hs:∀i e,H'[i]?=some e→H[f i]?=some e):Has N S st H':=
 ⟨h.ex,h.hN,h.ft,fun i e hi=>h.ok _ e (hs i e hi),fun i j a b hij ha hb=>h.dis (f i) (f j) a b (fun e=>hij (hf i j e)) (hs i a ha) (hs j b hb)⟩
theorem Has.erase {N:Nat} {S st:St} {H:List bG} (h:Has N S st H) (j:Nat):Has N S st (H.eraseIdx j):=by
 refine h.sub (fun i=>if i<j then i else i+1) (fun a b e=>?_) fun i e hi=>?_
 ·show a=b;have e':(if a<j then a else a+1)=(if b<j then b else b+1):=e
  split at e'<;>split at e'<;>omega
 ·show H[if i<j then i else i+1]?=some e;rw[List.getElem?_eraseIdx] at hi
  split at hi<;>rename_i h'<;>simp[h',hi]
theorem Has.take {N:Nat} {S st:St} {H:List bG} (h:Has N S st H) (n:Nat):Has N S st (H.take n):=by
 refine h.sub id (fun a b e=>e) fun i e hi=>?_;rw[List.getElem?_take] at hi;split at hi;exact hi;cases hi
theorem Has.drop {N:Nat} {S st:St} {H:List bG} (h:Has N S st H) (n:Nat):Has N S st (H.drop n):=by
 refine h.sub (fun i=>n+i) (fun a b e=>by omega) fun i e hi=>?_;rw[List.getElem?_drop] at hi;exact hi
theorem Has.front {N:Nat} {S st:St} {H:List bG} (h:Has N S st H) {j:Nat} {e:bG} (hj:H[j]?=some e):Has N S st (e::H.eraseIdx j):=by
 refine h.sub (fun i=>if i=0 then j else if i-1<j then i-1 else i) (fun a b e=>?_) fun i e' hi=>?_
 ·have e':(if a=0 then j else if a-1<j then a-1 else a)=(if b=0 then j else if b-1<j then b-1 else b):=e
  repeat' split at e'
  all_goals omega
 ·show H[if i=0 then j else if i-1<j then i-1 else i]?=some e'
  cases i with
  |zero=>rw[if_pos rfl];simp only[List.getElem?_cons_zero,Option.some.injEq] at hi;subst hi;exact hj
  |succ i=>
   rw[if_neg (by omega),Nat.add_sub_cancel];rw[List.getElem?_cons_succ,List.getElem?_eraseIdx] at hi
   split at hi<;>rename_i h'<;>simp[h',hi]
theorem Has.back {N:Nat} {S st:St} {H:List bG} {j:Nat} {e:bG} (h:Has N S st (e::H.eraseIdx j)) (hj:j<H.length):Has N S st (H.set j e):=by
 refine h.sub (fun i=>if i=j then 0 else if i<j then i+1 else i) (fun a b e=>?_) fun i e' hi=>?_
 ·have e':(if a=j then 0 else if a<j then a+1 else a)=(if b=j then 0 else if b<j then b+1 else b):=e
  repeat' split at e'
  all_goals omega
 ·show(e::H.eraseIdx j)[if i=j then 0 else if i<j then i+1 else i]?=some e'
  by_cases hij:i=j
  ·subst hij;rw[List.getElem?_set_self hj] at hi;rw[if_pos rfl];simpa using hi
  ·rw[List.getElem?_set_ne (fun e=>hij e.symm)] at hi;rw[if_neg hij]
   by_cases hlt:i<j
   ·rw[if_pos hlt,List.getElem?_cons_succ,List.getElem?_eraseIdx,if_pos hlt];exact hi
   ·rw[if_neg hlt]
    obtain⟨i',rfl⟩:∃i',i=i'+1:=⟨i-1,by omega⟩
    rw[List.getElem?_cons_succ,List.getElem?_eraseIdx,if_neg (by omega)];exact hi
theorem Has.nulE {N:Nat} {S st:St} {H:List bG} (h:Has N S st H) (s:Nat):Has N S st (.lst .nul s []::H):=
 h.add (fun _ _=>rfl) (Nat.le_refl _) rfl rfl .nul fun k hk=>by simp only[bG.lst,D.ref] at hk;omega
theorem Has.own {N:Nat} {S st:St} {H:List bG} (h:Has N S st H) {j:Nat} {x:D} {s:Nat} {es:List (List D)} (hj:H[j]?=some (.lst x s es)):gq st s x es:=(h.ok j _ hj).1
theorem Has.rows {N:Nat} {S st:St} {H:List bG} (h:Has N S st H) {j:Nat} {x:D} {s:Nat} {es:List (List D)} (hj:H[j]?=some (.lst x s es)):Rows st s x es:=(h.own hj).rows
theorem Has.at {N:Nat} {S st:St} {H:List bG} (h:Has N S st H) {j k:Nat} {b:gP} (hj:H[j]?=some (.box k b)):st.bs[k]?=some b:=(h.ok j _ hj).1
theorem Has.ge {N:Nat} {S st:St} {H:List bG} (h:Has N S st H) {j k:Nat} {b:gP} (hj:H[j]?=some (.box k b)):N≤k∧k<st.bs.length:=(h.ok j _ hj).2 k rfl
def Arg (N:Nat) (S:St) (s:Nat) (x:D) (es:List (List D)):Prop:=Rows S s x es∧x.ref≤N
theorem Arg.rows {N:Nat} {S st:St} {H:List bG} {s:Nat} {x:D} {es:List (List D)} (hx:Arg N S s x es) (h:Has N S st H):Rows st s x es:=hx.1.ex h.ex hx.2
theorem Arg.of {st S:St} {s:Nat} {x:D} {es:List (List D)} (hx:Rows st s x es) (hS:S.bs=st.bs):Arg st.bs.length S s x es:=⟨hx.bs hS,hx.ref⟩
theorem Arg.pure {N:Nat} {S:St} {s:Nat} {es:List D} {rs:List (List D)} (hx:∀st,Rows st s (.sl es) rs):Arg N S s (.sl es) rs:=⟨hx S,by simp[D.ref]⟩
theorem iE {N:Nat} {S st:St} {H:List bG} (h:Has N S st H) {k:Nat} {cs:List D} (hk:N≤k) (hw:S.flr≤N∨refs cs=0):st.jb k (refs cs)=true:=by
 have h1:=h.ex.ro;have h2:=h.ex.flr;have h3:=h.ft;simp only[St.jb,Bool.and_eq_true,Bool.or_eq_true,decide_eq_true_eq];refine⟨by omega,?_⟩
 rcases hw with hw|hw
 ·exact .inl (by omega)
 ·exact .inr (.inl (by omega))
theorem Has.Bj {N:Nat} {S st:St} {H:List bG} (h:Has N S st H) {j k aq:Nat} {b b':gP} (hj:H[j]?=some (.box k b)):Has N S ⟨st.bs.set k b',st.flr,st.ro⟩ (H.set j (.box k b')):=by
 have hk:=(h.ge hj).2;refine h.Dx hj (fun i hi hne=>?_) (by simp) rfl rfl ?_ (fun i hi=>.inl hi) fun i hi=>?_
 ·simp only;rw[List.getElem?_set_ne (fun e=>hne e.symm)]
 ·show(st.bs.set k b')[k]?=_;rw[List.getElem?_set_self hk]
 ·cases hi;simpa using hk
theorem Has.yv {N:Nat} {S st:St} {H:List bG} (h:Has N S st H) (b:gP):Has N S (st.push b) (.box st.bs.length b::H):=by
 refine h.add (fun i hi=>?_) (by simp[St.push]) rfl rfl ?_ fun i hi=>?_
 ·simp only[St.push];rw[List.getElem?_append_left hi]
 ·exact iS st b
 ·cases hi;simp[St.push]
theorem Has.sU {N:Nat} {S st:St} {H:List bG} (h:Has N S st H) {s:Nat} {es:List (List D)} {cs:List D} {m:Nat} (hm:es.length=m) (hc:es.flatten=cs) (he:∀e∈es,e.length=s):Has N S (st.push (.mem 0 true cs)) (.lst (.win st.bs.length 0 0 m s) s es::H):=by
 subst hm hc;refine h.add (fun i hi=>?_) (by simp[St.push]) rfl rfl ?_ fun i hi=>?_
 ·simp only[St.push];rw[List.getElem?_append_left hi]
 ·have lD:=c8 he;exact gq.win _ 0 0 es es.flatten (iS st _) (by rw[lD];omega) (by rw[List.drop_zero,←lD,List.take_length]) he
 ·simp only[bG.lst,D.ref] at hi;simp only[St.push,List.length_append,List.length_cons,List.length_nil];omega
def Gw (s:Nat):Nat→List D→List (List D)
 |0,_=>[]
 |n+1,c=>c.take s::Gw s n (c.drop s)
theorem jG:∀(xs c:List D) (off:Nat),(setMany c off xs).length=c.length
 |[],c,off=>rfl
 |x::xs,c,off=>by simp only[setMany];rw[jG xs];simp
theorem n5 {s:Nat}:∀{es:List (List D)} {i:Nat} {e e':List D},(∀e∈es,e.length=s)→es[i]?=some e→e'.length=s→(es.set i e').flatten=es.flatten.take (i*s)++e'++es.flatten.drop (i*s+s)
 |[],i,e,e',_,hi,_=>by simp at hi
 |x::es,0,e,e',h,hi,he=>by
  simp at hi;subst hi;have:=h x (List.mem_cons_self ..);simp[List.set_cons_zero,List.drop_left' this]
 |x::es,i+1,e,e',h,hi,he=>by
  have hx:=h x (List.mem_cons_self ..);have ih:=n5 (s:=s) (es:=es) (i:=i) (e:=e) (e':=e') (fun y hy=>h y (List.mem_cons_of_mem _ hy)) (by simpa using hi) he;rw[List.set_cons_succ,List.flatten_cons,ih,List.flatten_cons,Nat.add_mul,Nat.one_mul,Nat.add_comm (i*s) s,←hx,List.take_length_add_append,Nat.add_assoc,List.drop_length_add_append];simp only[List.append_assoc];rw[Nat.add_comm (i*x.length) x.length]
theorem Has.yn {N:Nat} {S st:St} {H:List bG} (h:Has N S st H) {j k aq off len s:Nat} {es:List (List D)} {i o:Nat} {e cs:List D} (hj:H[j]?=some (.lst (.win k aq off len s) s es)) (hi:es[i]?=some e) (hl:o+cs.length≤s) (hw:S.flr≤N∨refs cs=0):
  ∃ae,st.wr k aq (off+i*s+o) cs=some ae∧Has N S ae (H.set j (.lst (.win k aq off len s) s (es.set i (setMany e o cs)))):=by
 have hk:=(h.ok j _ hj).2 k (by simp only[bG.lst,D.ref]);have hown:=h.own hj
 cases hown with
 |win k aq off es c hm hle hc he=>
  have hil:i<es.length:=by
   rcases Nat.lt_or_ge i es.length with h'|h'
   ·exact h'
   ·rw[List.getElem?_eq_none h'] at hi;cases hi
  have tB:=he e (List.mem_of_getElem? hi);have h2:(i+1)*s≤es.length*s:=Nat.mul_le_mul_right s hil;rw[Nat.add_mul,Nat.one_mul] at h2;refine⟨_,lf hm (by omega) (iE h hk.1 hw),?_⟩;refine h.Dx hj (fun n hn hne=>?_) (by simp) rfl rfl ?_ (fun n hn=>.inl hn) fun n hn=>?_
  ·simp only;rw[List.getElem?_set_ne (fun e=>hne (by simp only[bG.lst,D.ref];omega))]
  ·have Cp:∀e'∈es.set i (setMany e o cs),e'.length=s:=by
    intro e' rT
    rcases List.mem_or_eq_of_mem_set rT with h'|h'
    ·exact he e' h'
    ·rw[h',jG];exact tB
   have lD:es.flatten.length=es.length*s:=c8 he;have:=gq.win (st:=⟨st.bs.set k (.mem aq true (c.take (off+i*s+o)++cs++c.drop (off+i*s+o+cs.length))),st.flr,st.ro⟩) (s:=s) k aq off (es.set i (setMany e o cs)) (c.take (off+i*s+o)++cs++c.drop (off+i*s+o+cs.length))
    (by simp only;rw[List.getElem?_set_self hk.2]) (by simp;omega) ?_ Cp
   ·rw[List.length_set] at this;exact this
   ·rw[List.length_set,n5 he hi (by rw[jG];exact tB),fz cs e o (by omega)]
    have e1:(c.take (off+i*s+o)++cs++c.drop (off+i*s+o+cs.length)).drop off=(c.drop off).take (i*s+o)++cs++(c.drop off).drop (i*s+o+cs.length):=by
     rw[List.append_assoc,List.drop_append_of_le_length (by simp;omega),List.drop_take,List.append_assoc,List.drop_drop]
     congr 3<;>omega
    rw[e1]
    have e2:(c.drop off).take (i*s+o)=es.flatten.take (i*s)++e.take o:=by
     have:(c.drop off).take (i*s+o)=es.flatten.take (i*s+o):=by
      rw[←hc,List.take_take,Nat.min_eq_left (by omega)]
     rw[this,List.take_add]
     congr 1
     have:=kK he i e hi;rw[←this,List.take_take,Nat.min_eq_left (by omega)]
    have e3:(List.drop (i*s+o+cs.length) (c.drop off)).take (es.length*s-(i*s+o+cs.length))=e.drop (o+cs.length)++es.flatten.drop (i*s+s):=by
     have:(List.drop (i*s+o+cs.length) (c.drop off)).take (es.length*s-(i*s+o+cs.length))=es.flatten.drop (i*s+o+cs.length):=by
      rw[←hc,List.drop_take]
     rw[this];have h4:=kK he i e hi;rw[←h4,List.drop_take];have:es.flatten.drop (i*s+o+cs.length)=(es.flatten.drop (i*s+o+cs.length)).take (s-(o+cs.length))++(es.flatten.drop (i*s+o+cs.length)).drop (s-(o+cs.length)):=(List.take_append_drop ..).symm;rw[this,List.drop_drop,List.drop_drop]
     congr 2
     ·congr 1;omega
     ·omega
    rw[e2]
    have EU:(es.flatten.take (i*s)++e.take o++cs).length=i*s+o+cs.length:=by
     simp only[List.length_append,List.length_take,lD,tB];omega
    rw[List.take_append,EU,e3,List.take_of_length_le (by rw[EU];omega)];simp[List.append_assoc]
  ·simp only[bG.lst,D.ref] at hn;simp only[List.length_set];omega
end Go.V
namespace Go.V
theorem at0 {α:Type} {a:α} {l:List α}:(a::l)[0]?=some a:=rfl
theorem at1 {α:Type} {a b:α} {l:List α}:(a::b::l)[1]?=some b:=rfl
theorem at2 {α:Type} {a b c:α} {l:List α}:(a::b::c::l)[2]?=some c:=rfl
theorem at3 {α:Type} {a b c d:α} {l:List α}:(a::b::c::d::l)[3]?=some d:=rfl
theorem at4 {α:Type} {a b c d e:α} {l:List α}:(a::b::c::d::e::l)[4]?=some e:=rfl
theorem at5 {α:Type} {a b c d e f:α} {l:List α}:(a::b::c::d::e::f::l)[5]?=some f:=rfl
theorem at6 {α:Type} {a b c d e f g:α} {l:List α}:(a::b::c::d::e::f::g::l)[6]?=some g:=rfl
theorem at7 {α:Type} {a b c d e f g h:α} {l:List α}:(a::b::c::d::e::f::g::h::l)[7]?=some h:=rfl
def yK (t:Nat):List (Nat×D)→Option D
 |[]=>none
 |(u,d)::l=>match Nat.beq t u with
  |true=>some d
  |false=>yK t l
def BS:Value→Option D
 | .int k n=>some (.int k n)
 | .bool b=>some (.bool b)
 | .string s=>some (.str s.data.toList)
 | .slice none 0 0=>some .nul
 | .pointer none=>some .pnil
 | .nilFunc=>some .nilfn
 | .nilIface=>some .nilif
 |_=>none
def Fr.O2 (f:Fr):Operand→Option D
 | .tmp t=>match Nat.ble f.n t with
  |false=>f.loc[t]?
  |true=>yK t f.tmp
 | .const v=>BS v
 | .func g=>some (.fn g [])
 | .global _=>none
theorem pB {t:Nat} {d:D}:∀{l:List (Nat×D)},yK t l=some d→look t l=d
 |(u,e)::l,h=>by
  unfold yK at h;unfold look
  split at h
  ·rename_i hb;cases h;simp only[hb]
  ·rename_i hb;simp only[hb];exact pB h
theorem yz {d e:D}:∀{l:List D} {i:Nat},l[i]?=some d→nth e l i=d
 |x::l,0,h=>by simpa[nth] using h
 |x::l,i+1,h=>by rw[List.getElem?_cons_succ] at h;exact yz (l:=l) h
 |[],i,h=>by simp at h
theorem ev {fr:Fr} {o:Operand} {d:D} (h:fr.O2 o=some d):fr.ev o=d:=by
 unfold Fr.O2 at h;unfold Fr.ev
 split at h
 ·unfold Fr.get
  split at h
  ·rename_i hb;simp only[hb];exact yz h
  ·rename_i hb;simp only[hb];exact pB h
 ·unfold BS at h
  split at h<;>cases h<;>rfl
 ·cases h;rfl
 ·cases h
def jz (st:St) (p:D) (r:List D):Prop:=
 (∃k aq off ar c,p=.ptr k aq off∧st.dL k aq=some (ar,c)∧(c.drop off).take r.length=r)∨∃c,p=.ep c∧c.take r.length=r
def nJ (x:D) (s:Nat) (i o:Nat) (p:D):Prop:=∃k aq off len,x=.win k aq off len s∧p=.ptr k aq (off+i*s+o)
theorem kl {P:Pv} {t:TypeId} {r c:List D} {d:D} (hc:c.take r.length=r) (h:cP P t r=some d):cP P t c=some d:=by
 have hlen:r.length≤c.length:=by have:=congrArg List.length hc;simp at this;omega
 unfold cP at h⊢
 cases hu:P.b9 t with
 |none=>rw[hu] at h;cases h
 |some u=>
  rw[hu] at h;have key:∀n,n≤r.length→c.take n=r.take n:=fun n hn=>by rw[←hc,List.take_take,Nat.min_eq_left hn]
  cases u with
  |struct f=>
   simp only at h⊢
   cases hs:bN P t with
   |none=>rw[hs] at h;cases h
   |some n=>
    rw[hs] at h;simp only[Option.bind_some] at h⊢
    split at h
    ·rename_i hn;rw[if_pos (by omega),key n hn];exact h
    ·cases h
  |array m f=>
   simp only at h⊢
   cases hs:bN P t with
   |none=>rw[hs] at h;cases h
   |some n=>
    rw[hs] at h;simp only[Option.bind_some] at h⊢
    split at h
    ·rename_i hn;rw[if_pos (by omega),key n hn];exact h
    ·cases h
  |_=>
   simp only at h⊢
   cases r with
   |nil=>cases h
   |cons y r=>
    cases c with
    |nil=>simp at hlen
    |cons z c=>
     simp only[List.length_cons,List.take_succ_cons,List.cons.injEq] at hc;rw[←h];simp[hc.1]
theorem jz.load {P:Pv} {st:St} {p:D} {r:List D} (h:jz st p r) {t:TypeId} {d:D} (hd:cP P t r=some d):eW P t p st=some d:=by
 rcases h with⟨k,aq,off,ar,c,rfl,hm,hc⟩|⟨c,rfl,hc⟩
 ·simp only[eW,hm,Option.bind_some];exact kl hc hd
 ·simp only[eW];exact kl hc hd
theorem jz.field {P:Pv} {st:St} {p:D} {r:List D} (h:jz st p r) {t:TypeId} {fields:Array Field} {f:Nat} {fd:Field} {m:Nat} (ht:P.b9 t=some (.struct fields)) (hf:fields[f]?=some fd) (hm:bN P fd.type=some m) (mJ:m≠0):
  ∃p',dY P t p f=some p'∧jz st p' (r.drop fd.offset):=by
 have key:∀c:List D,c.take r.length=r→(c.drop fd.offset).take (r.drop fd.offset).length=r.drop fd.offset:=by
  intro c hc;rw[List.length_drop,←List.drop_take,hc]
 rcases h with⟨k,aq,off,ar,c,rfl,nr,hc⟩|⟨c,rfl,hc⟩
 ·refine⟨.ptr k aq (off+fd.offset),?_,.inl ⟨k,aq,off+fd.offset,ar,c,rfl,nr,?_⟩⟩
  ·simp only[dY,ht,hf,Option.bind_some,hm];rw[if_neg (by simp only[Option.some.injEq];exact mJ)]
  ·rw[←List.drop_drop];exact key _ hc
 ·refine⟨.ep (c.drop fd.offset),?_,.inr ⟨_,rfl,key _ hc⟩⟩;simp only[dY,ht,hf,Option.bind_some,hm];rw[if_neg (by simp only[Option.some.injEq];exact mJ)]
theorem Rows.J' {P:Pv} {st:St} {s:Nat} {x:D} {es:List (List D)} (h:Rows st s x es) {t e:TypeId} (ht:P.b9 t=some (.slice e)) (hs:bN P e=some s) {k:IntKind} {i:Nat} {r:List D} (hi:es[i]?=some r):
  ∃p,br P t x (.int k (i:Nat)) st=some p∧jz st p r:=by
 have vz:=h.tK _ _ hi
 cases h with
 |nul=>simp at hi
 |sl es h=>
  rw[List.getElem?_map] at hi;obtain⟨d,hd,rfl⟩:=Option.map_eq_some_iff.1 hi;obtain⟨h1,h2⟩:=h d (List.mem_of_getElem? hd);refine⟨.ep d.cells,?_,.inr ⟨_,rfl,List.take_length ..⟩⟩;simp only[br,ht,hs,Option.bind_some,if_pos (show(0:Int)≤(i:Nat) by omega),Int.toNat_natCast,hd,h1,if_pos h2]
 |win k aq off es ar c hm hl he=>
  have hlt:i<es.length:=by
   rcases Nat.lt_or_ge i es.length with h'|h'
   ·exact h'
   ·rw[List.getElem?_eq_none h'] at hi;cases hi
  refine⟨.ptr k aq (off+i*s),?_,.inl ⟨k,aq,_,ar,c,rfl,hm,by rw[vz];exact he _ _ hi⟩⟩;simp only[br,ht,hs,Option.bind_some,hm,Option.isSome_some];rw[if_pos ⟨trivial,by omega,by omega,trivial⟩];rfl
variable{P:Pv} {ops:Array Oper} {rest:List Oper} {fr aw:Fr} {st:St} {Q:Fr→St→Prop} {ty:TypeId} {pp:String} {a:Array Edge} {g:Option (Nat×Bool)} {dst:Nat} {N:Nat} {S:St} {H:List bG}
theorem EvO.go {op:Op} {d:D} {st1:St} (hg:au ops fr ⟨some dst,op,ty,pp,a,g⟩=some true) (hc:gA op=false) (h1:df P fr st op ty=some (d,st1)) (hp:fr.put dst d=aw)
  (h:EvO P ops rest aw st1 Q):EvO P ops (⟨some dst,op,ty,pp,a,g⟩::rest) fr st Q:=
 EvO.op hg hc h1 (by show EvO P ops rest (fr.put dst d) st1 Q;rw[hp];exact h)
theorem EvO.hload {j k aq off:Nat} {ar:Bool} {c:List D} {d:D} {t:TypeId} {ao:Operand} (hH:Has N S st H) (hg:au ops fr ⟨some dst,.load t ao,ty,pp,a,g⟩=some true) (ha:fr.ev ao=.ptr k aq off) (hj:H[j]?=some (.box k (.mem aq ar c))) (hd:cP P t (c.drop off)=some d) (hp:fr.put dst d=aw)
  (h:EvO P ops rest aw st Q):EvO P ops (⟨some dst,.load t ao,ty,pp,a,g⟩::rest) fr st Q:=by
 refine EvO.go hg rfl (d:=d) (st1:=st) ?_ hp h;simp only[df,ha,eW,St.mem_of (hH.at hj),Option.bind_some,hd,Option.map_some]
theorem EvO.pL {j k aq off:Nat} {ar:Bool} {c cs:List D} {v:D} {t:TypeId} {ao vo:Operand} (hH:Has N S st H) (hg:au ops fr ⟨none,.store t ao vo,ty,pp,a,g⟩=some true) (ha:fr.ev ao=.ptr k aq off) (hv:fr.ev vo=v) (jk:v.cells?=some cs) (hs:bN P t=some cs.length) (hj:H[j]?=some (.box k (.mem aq ar c))) (hl:off+cs.length≤c.length) (hw:S.flr≤N∨refs cs=0)
  (h:∀ae,Has N S ae (H.set j (.box k (.mem aq ar (setMany c off cs))))→EvO P ops rest fr ae Q):EvO P ops (⟨none,.store t ao vo,ty,pp,a,g⟩::rest) fr st Q:=by
 refine EvO.N hg rfl (d:=.tup []) (st1:=⟨st.bs.set k (.mem aq ar (setMany c off cs)),st.flr,st.ro⟩) ?_ (h _ (hH.Bj (aq:=aq) hj));simp only[df,ha,hv,jF,jk,hs,if_pos trivial];rw[lf (hH.at hj) hl (iE hH (hH.ge hj).1 hw),fz _ _ _ hl];rfl
theorem EvO.halloc {e:TypeId} {cs:List D} {aw:Nat→Fr} (hH:Has N S st H) (hg:au ops fr ⟨some dst,.alloc e,ty,pp,a,g⟩=some true) (hz:cT P e=some cs) (hp:∀k,fr.put dst (.ptr k 0 0)=aw k)
  (h:∀k ae,S.bs.length≤k→Has N S ae (.box k (.mem 0 false cs)::H)→EvO P ops rest (aw k) ae Q):EvO P ops (⟨some dst,.alloc e,ty,pp,a,g⟩::rest) fr st Q:=by
 refine EvO.go hg rfl (d:=.ptr st.bs.length 0 0) (st1:=st.push (.mem 0 false cs)) ?_ (hp _) (h _ _ hH.len (hH.yv _));simp only[df,hz,Option.map_some]
theorem EvO.Ar {e:TypeId} {xo:Operand} {cs:List D} {aw:Nat→Fr} (hH:Has N S st H) (hg:au ops fr ⟨some dst,.box e xo,ty,pp,a,g⟩=some true) (hz:(fr.ev xo).cells?=some cs) (hp:∀k,fr.put dst (.ptr k 0 0)=aw k)
  (h:∀k ae,S.bs.length≤k→Has N S ae (.box k (.mem 0 false cs)::H)→EvO P ops rest (aw k) ae Q):EvO P ops (⟨some dst,.box e xo,ty,pp,a,g⟩::rest) fr st Q:=by
 refine EvO.go hg rfl (d:=.ptr st.bs.length 0 0) (st1:=st.push (.mem 0 false cs)) ?_ (hp _) (h _ _ hH.len (hH.yv _));simp only[df,hz,Option.map_some]
theorem EvO.ET {t e:TypeId} {lo co:Operand} {k1 k2:IntKind} {m:Nat} {inf:TypeInfo} {z:List D} {s:Nat} {aw:Nat→Fr} (hH:Has N S st H) (hg:au ops fr ⟨some dst,.makeSlice t lo co,ty,pp,a,g⟩=some true)
  (hl:fr.ev lo=.int k1 (m:Nat)) (hc:fr.ev co=.int k2 (m:Nat)) (ht:P.b9 t=some (.slice e)) (hi:P.info e=some inf) (hz:cT P e=some z) (hsz:inf.size=s) (k_:z.length=s) (QQ:inf.bytes≤1024) (mJ:m≤1073741824) (hp:∀k,fr.put dst (.win k 0 0 m s)=aw k)
  (h:∀k ae,S.bs.length≤k→Has N S ae (.lst (.win k 0 0 m s) s (List.replicate m z)::H)→EvO P ops rest (aw k) ae Q):EvO P ops (⟨some dst,.makeSlice t lo co,ty,pp,a,g⟩::rest) fr st Q:=by
 have hm:m*inf.bytes≤140737488355328:=Nat.le_trans (Nat.mul_le_mul mJ QQ) (by decide);subst hsz;refine EvO.go hg rfl (d:=.win st.bs.length 0 0 m inf.size) (st1:=st.push (.mem 0 true (eu m z))) ?_ (hp _) (h _ _ hH.len (hH.sU (by simp) rfl (fun e he=>by rw[List.eq_of_mem_replicate he];exact k_)));simp only[df,hl,hc,fG,ht,hi,hz,Option.bind_some];rw[if_pos ⟨k_,by omega,by omega,by omega,by rw[←Int.natCast_mul];omega⟩]
 rfl
theorem Has.append {j:Nat} {x y:D} {s:Nat} {es ys:List (List D)} (hH:Has N S st H) (hj:H[j]?=some (.lst x s es)) (hy:Rows st s y ys) {t1 t2 e:TypeId} {td:TypeDesc} {inf:TypeInfo} {z:List D}
  (h1:P.b9 t1=some (.slice e)) (h2:P.b9 t2=some td) (h3:fJ td=false) (h4:P.info e=some inf) (h5:cT P e=some z) (h6:inf.size=s) (h7:z.length=s) (h8:0<inf.bytes∧inf.bytes≤1024)
  (hb0:es.length+ys.length≤1073741824) (hw:S.flr≤N∨refs ys.flatten=0):
  ∃x' ae,ba P .append [t1,t2] [x,y] st=some (x',ae)∧Has N S ae (H.set j (.lst x' s (es++ys)))∧(ys=[]→x'=x):=by
 have hb:(es.length+ys.length)*inf.bytes≤1099511627776:=Nat.le_trans (Nat.mul_le_mul hb0 h8.2) (by decide);have jr:=hy.row
 have Cd:∀e∈ys,e.length=s:=fun e he=>by
  obtain⟨i,hi⟩:=List.getElem?_of_mem he;exact hy.tK i e hi
 have lD:=c8 Cd;have hown:=hH.own hj;have hkk:=(hH.ok j _ hj).2;have hS:=hH.len;have Td:=hH.hN;subst h6;simp only[ba,gp,h1,h2,h3,Bool.false_eq_true,if_false,h4,h5,jr,Option.bind_some];rw[if_neg (by rintro(h|h|h);exact h lD;exact absurd h (by omega);exact h h7)]
 have fq:∀e,H[j]?=some e→H.set j e=H:=fun e he=>by
  apply List.ext_getElem?;intro i
  by_cases hij:i=j
  ·subst hij
   have:i<H.length:=by
    rcases Nat.lt_or_ge i H.length with h'|h'
    ·exact h'
    ·rw[List.getElem?_eq_none h'] at he;cases he
   rw[List.getElem?_set_self this,he]
  ·rw[List.getElem?_set_ne (fun e=>hij e.symm)]
 cases hown with
 |nul=>
  simp only[List.nil_append]
  by_cases h0:ys.length=0
  ·rw[if_pos h0]
   have:ys=[]:=by cases ys with|nil=>rfl|cons _ _=>simp at h0
   subst this;exact⟨.nul,st,rfl,by rw[fq _ hj];exact hH,fun _=>rfl⟩
  ·rw[if_neg h0,if_pos (by simpa using hb)];refine⟨_,_,rfl,?_,fun e=>absurd (by rw[e];rfl) h0⟩;refine hH.Dx hj (fun k hk _=>by simp only[St.push];rw[List.getElem?_append_left hk]) (by simp[St.push]) rfl rfl ?_ (fun k hk=>?_) fun k hk=>?_
   ·exact gq.win _ 0 0 ys ys.flatten (iS st _) (by rw[lD];omega) (by rw[List.drop_zero,←lD,List.take_length]) Cd
   ·simp only[bG.lst,D.ref] at hk;right;omega
   ·simp only[bG.lst,D.ref] at hk;simp only[St.push,List.length_append,List.length_cons,List.length_nil];omega
 |win k aq off es c hm hl hc he=>
  have hk:=hkk k (by simp only[bG.lst,D.ref]);simp only[St.mem_of hm];rw[if_neg (by rintro(h|h);exact h rfl;omega)]
  by_cases h0:ys.length=0
  ·rw[if_pos h0]
   have:ys=[]:=by cases ys with|nil=>rfl|cons _ _=>simp at h0
   subst this;simp only[List.append_nil];exact⟨_,st,rfl,by rw[fq _ hj];exact hH,fun _=>rfl⟩
  ·rw[if_neg h0,if_pos ⟨hb,iE hH hk.1 hw⟩];refine⟨_,_,rfl,?_,fun e=>absurd (by rw[e];rfl) h0⟩;have hll:es.length+ys.length=(es++ys).length:=by simp
   have hcc:(c.take (off+es.length*inf.size)).drop off=es.flatten:=by rw[List.drop_take,←hc];congr 1;omega
   rw[hll,hcc];refine hH.Dx hj (fun n hn hne=>by simp only;rw[List.getElem?_set_ne (fun e=>hne (by simp only[bG.lst,D.ref];omega))]) (by simp) rfl rfl ?_ (fun n hn=>?_) fun n hn=>?_
   ·have tB:∀e∈es++ys,e.length=inf.size:=fun e h=>by
     rcases List.mem_append.1 h with h|h
     ·exact he e h
     ·exact Cd e h
    have IX:=c8 tB;refine gq.win k (aq+1) 0 (es++ys) (es++ys).flatten ?_ (by rw[IX];omega) (by rw[List.drop_zero,←IX,List.take_length]) tB;simp only;rw[List.getElem?_set_self hk.2,List.flatten_append]
   ·simp only[bG.lst,D.ref] at hn⊢;left;omega
   ·simp only[bG.lst,D.ref] at hn;simp only[List.length_set];omega
theorem EvO.happend {j:Nat} {x y:D} {s:Nat} {es ys:List (List D)} {t1 t2 e:TypeId} {td:TypeDesc} {inf:TypeInfo} {z:List D} {xo yo:Operand} {aw:D→Fr} (hH:Has N S st H) (hg:au ops fr ⟨some dst,.call ⟨.builtin .append,#[xo,yo],#[t1,t2]⟩,ty,pp,a,g⟩=some true)
  (hx:fr.ev xo=x) (hy:fr.ev yo=y) (hj:H[j]?=some (.lst x s es)) (jh:Rows st s y ys)
  (h1:P.b9 t1=some (.slice e)) (h2:P.b9 t2=some td) (h3:fJ td=false) (h4:P.info e=some inf) (h5:cT P e=some z) (h6:inf.size=s) (h7:z.length=s) (h8:0<inf.bytes∧inf.bytes≤1024)
  (hp:∀x',fr.put dst x'=aw x') (hb:es.length+ys.length≤1073741824) (hw:S.flr≤N∨refs ys.flatten=0)
  (h:∀x' ae,Has N S ae (H.set j (.lst x' s (es++ys)))→EvO P ops rest (aw x') ae Q):
  EvO P ops (⟨some dst,.call ⟨.builtin .append,#[xo,yo],#[t1,t2]⟩,ty,pp,a,g⟩::rest) fr st Q:=by
 obtain⟨x',ae,q1,q2,q3⟩:=hH.append hj jh h1 h2 h3 h4 h5 h6 h7 h8 hb hw;refine EvO.go hg rfl (d:=x') (st1:=ae) ?_ (hp _) (h x' ae q2);simp only[df,List.map_cons,List.map_nil,hx,hy];exact q1
theorem EvO.CE {j:Nat} {x y:D} {s:Nat} {es ys:List (List D)} {t1 t2 e:TypeId} {td:TypeDesc} {inf:TypeInfo} {z:List D} {xo yo:Operand} {aw:D→Fr} (hH:Has N S st H) (hg:au ops fr ⟨some dst,.call ⟨.builtin .append,#[xo,yo],#[t1,t2]⟩,ty,pp,a,g⟩=some true)
  (hx:fr.ev xo=x) (hy:fr.ev yo=y) (hj:H[j]?=some (.lst x s es)) (jh:Rows st s y ys)
  (h1:P.b9 t1=some (.slice e)) (h2:P.b9 t2=some td) (h3:fJ td=false) (h4:P.info e=some inf) (h5:cT P e=some z) (h6:inf.size=s) (h7:z.length=s) (h8:0<inf.bytes∧inf.bytes≤1024)
  (hp:∀x',fr.put dst x'=aw x') (hb:es.length+ys.length≤1073741824) (hw:S.flr≤N∨refs ys.flatten=0)
  (h:∀x' ae,(ys=[]→x'=x)→Has N S ae (H.set j (.lst x' s (es++ys)))→EvO P ops rest (aw x') ae Q):
  EvO P ops (⟨some dst,.call ⟨.builtin .append,#[xo,yo],#[t1,t2]⟩,ty,pp,a,g⟩::rest) fr st Q:=by
 obtain⟨x',ae,q1,q2,q3⟩:=hH.append hj jh h1 h2 h3 h4 h5 h6 h7 h8 hb hw;refine EvO.go hg rfl (d:=x') (st1:=ae) ?_ (hp _) (h x' ae q3 q2);simp only[df,List.map_cons,List.map_nil,hx,hy];exact q1
theorem EvO.rlen {t e:TypeId} {xo:Operand} {x:D} {s:Nat} {es:List (List D)} (hg:au ops fr ⟨some dst,.call ⟨.builtin .len,#[xo],#[t]⟩,ty,pp,a,g⟩=some true) (hx:fr.ev xo=x) (hR:Rows st s x es) (ht:P.b9 t=some (.slice e)) (hp:fr.put dst (.int .i64 (es.length:Nat))=aw)
  (h:EvO P ops rest aw st Q):EvO P ops (⟨some dst,.call ⟨.builtin .len,#[xo],#[t]⟩,ty,pp,a,g⟩::rest) fr st Q:=by
 refine EvO.go hg rfl (d:=.int .i64 (es.length:Nat)) (st1:=st) ?_ hp h;simp only[df,List.map_cons,List.map_nil,hx];exact hR.EG ht
theorem EvO.slen {t:TypeId} {xo:Operand} {b:List UInt8} (hg:au ops fr ⟨some dst,.call ⟨.builtin .len,#[xo],#[t]⟩,ty,pp,a,g⟩=some true) (hx:fr.ev xo=.str b) (ht:P.b9 t=some .string) (hp:fr.put dst (.int .i64 (b.length:Nat))=aw)
  (h:EvO P ops rest aw st Q):EvO P ops (⟨some dst,.call ⟨.builtin .len,#[xo],#[t]⟩,ty,pp,a,g⟩::rest) fr st Q:=by
 refine EvO.go hg rfl (d:=.int .i64 (b.length:Nat)) (st1:=st) ?_ hp h;simp only[df,List.map_cons,List.map_nil,hx,ba,ht]
theorem EvO.ridx {t e:TypeId} {xo io:Operand} {x:D} {s i:Nat} {kk:IntKind} {es:List (List D)} {r:List D} {aw:D→Fr} (hg:au ops fr ⟨some dst,.indexAddr t xo io,ty,pp,a,g⟩=some true) (hx:fr.ev xo=x) (hi:fr.ev io=.int kk (i:Nat)) (hR:Rows st s x es) (ht:P.b9 t=some (.slice e)) (hs:bN P e=some s) (hr:es[i]?=some r) (hp:∀p,fr.put dst p=aw p)
  (h:∀p,jz st p r→EvO P ops rest (aw p) st Q):EvO P ops (⟨some dst,.indexAddr t xo io,ty,pp,a,g⟩::rest) fr st Q:=by
 obtain⟨p,h1,h2⟩:=hR.J' ht hs (k:=kk) hr;refine EvO.go hg rfl (d:=p) (st1:=st) ?_ (hp p) (h p h2);simp only[df,hx,hi,h1,Option.map_some]
theorem EvO.Fm {t:TypeId} {xo:Operand} {x:D} {r:List D} {f m:Nat} {fields:Array Field} {fd:Field} {aw:D→Fr} (hg:au ops fr ⟨some dst,.fieldAddr t xo f,ty,pp,a,g⟩=some true) (hx:fr.ev xo=x) (hR:jz st x r) (ht:P.b9 t=some (.struct fields)) (hf:fields[f]?=some fd) (hm:bN P fd.type=some m) (mJ:m≠0) (hp:∀p,fr.put dst p=aw p)
  (h:∀p,jz st p (r.drop fd.offset)→EvO P ops rest (aw p) st Q):EvO P ops (⟨some dst,.fieldAddr t xo f,ty,pp,a,g⟩::rest) fr st Q:=by
 obtain⟨p,h1,h2⟩:=hR.field ht hf hm mJ;refine EvO.go hg rfl (d:=p) (st1:=st) ?_ (hp p) (h p h2);simp only[df,hx,h1,Option.map_some]
theorem EvO.rload {t:TypeId} {ao:Operand} {x d:D} {r:List D} (hg:au ops fr ⟨some dst,.load t ao,ty,pp,a,g⟩=some true) (ha:fr.ev ao=x) (hR:jz st x r) (hd:cP P t r=some d) (hp:fr.put dst d=aw)
  (h:EvO P ops rest aw st Q):EvO P ops (⟨some dst,.load t ao,ty,pp,a,g⟩::rest) fr st Q:=by
 refine EvO.go hg rfl (d:=d) (st1:=st) ?_ hp h;simp only[df,ha,hR.load hd,Option.map_some]
theorem EvO.oidx {t e:TypeId} {xo io:Operand} {x:D} {s i j:Nat} {kk:IntKind} {es:List (List D)} {aw:D→Fr} (hH:Has N S st H) (hg:au ops fr ⟨some dst,.indexAddr t xo io,ty,pp,a,g⟩=some true) (hx:fr.ev xo=x) (hi:fr.ev io=.int kk (i:Nat)) (hj:H[j]?=some (.lst x s es)) (ht:P.b9 t=some (.slice e)) (hs:bN P e=some s) (hr:i<es.length) (hp:∀p,fr.put dst p=aw p)
  (h:∀p,nJ x s i 0 p→EvO P ops rest (aw p) st Q):EvO P ops (⟨some dst,.indexAddr t xo io,ty,pp,a,g⟩::rest) fr st Q:=by
 have hown:=hH.own hj
 cases hown with
 |nul=>simp at hr
 |win k aq off es c hm hl hc he=>
  refine EvO.go hg rfl (d:=.ptr k aq (off+i*s)) (st1:=st) ?_ (hp _) (h _ ⟨k,aq,off,_,rfl,rfl⟩);simp only[df,hx,hi,br,ht,hs,Option.bind_some,St.mem_of hm,Option.isSome_some];rw[if_pos ⟨trivial,by omega,by omega,trivial⟩];rfl
theorem EvO.Fy {t:TypeId} {xo:Operand} {x y:D} {s i o:Nat} {f m:Nat} {fields:Array Field} {fd:Field} {aw:D→Fr} (hg:au ops fr ⟨some dst,.fieldAddr t xo f,ty,pp,a,g⟩=some true) (hx:fr.ev xo=y) (hR:nJ x s i o y) (ht:P.b9 t=some (.struct fields)) (hf:fields[f]?=some fd) (hm:bN P fd.type=some m) (mJ:m≠0) (hp:∀p,fr.put dst p=aw p)
  (h:∀p,nJ x s i (o+fd.offset) p→EvO P ops rest (aw p) st Q):EvO P ops (⟨some dst,.fieldAddr t xo f,ty,pp,a,g⟩::rest) fr st Q:=by
 obtain⟨k,aq,off,len,h1,h2⟩:=hR;refine EvO.go hg rfl (d:=.ptr k aq (off+i*s+(o+fd.offset))) (st1:=st) ?_ (hp _) (h _ ⟨k,aq,off,len,h1,rfl⟩);simp only[df,hx,h2,dY,ht,hf,Option.bind_some,hm];rw[if_neg (by simp only[Option.some.injEq];exact mJ),←Nat.add_assoc];rfl
theorem EvO.oload {t:TypeId} {ao:Operand} {x y d:D} {s i o j:Nat} {es:List (List D)} {r:List D} (hH:Has N S st H) (hg:au ops fr ⟨some dst,.load t ao,ty,pp,a,g⟩=some true) (ha:fr.ev ao=y) (hR:nJ x s i o y) (hj:H[j]?=some (.lst x s es)) (hr:es[i]?=some r) (hd:cP P t (r.drop o)=some d) (hp:fr.put dst d=aw)
  (h:EvO P ops rest aw st Q):EvO P ops (⟨some dst,.load t ao,ty,pp,a,g⟩::rest) fr st Q:=by
 obtain⟨k,aq,off,len,rfl,rfl⟩:=hR;have hown:=hH.own hj
 cases hown with
 |win k aq off es c hm hl hc he=>
  refine EvO.go hg rfl (d:=d) (st1:=st) ?_ hp h;have h1:=kK he i r hr
  have hil:i<es.length:=by
   rcases Nat.lt_or_ge i es.length with h'|h'
   ·exact h'
   ·rw[List.getElem?_eq_none h'] at hr;cases hr
  have h2:(i+1)*s≤es.length*s:=Nat.mul_le_mul_right s hil;rw[Nat.add_mul,Nat.one_mul] at h2;rw[←hc,List.drop_take,List.take_take,List.drop_drop,Nat.min_eq_left (by omega)] at h1;have vz:=he r (List.mem_of_getElem? hr);simp only[df,ha,eW,St.mem_of hm,Option.bind_some];rw[kl (r:=r.drop o) ?_ hd];rfl;rw[List.length_drop,vz,←h1,List.drop_take,List.drop_drop]
theorem EvO.mU {t:TypeId} {ao vo:Operand} {x y v:D} {s i o j:Nat} {es:List (List D)} {r cs:List D} (hH:Has N S st H) (hg:au ops fr ⟨none,.store t ao vo,ty,pp,a,g⟩=some true) (ha:fr.ev ao=y) (hv:fr.ev vo=v) (hR:nJ x s i o y) (jk:v.cells?=some cs) (hs:bN P t=some cs.length) (hj:H[j]?=some (.lst x s es)) (hr:es[i]?=some r) (hl:o+cs.length≤s) (hw:S.flr≤N∨refs cs=0)
  (h:∀ae,Has N S ae (H.set j (.lst x s (es.set i (setMany r o cs))))→EvO P ops rest fr ae Q):EvO P ops (⟨none,.store t ao vo,ty,pp,a,g⟩::rest) fr st Q:=by
 obtain⟨k,aq,off,len,rfl,rfl⟩:=hR;obtain⟨ae,h1,h2⟩:=hH.yn hj hr hl hw;refine EvO.N hg rfl (d:=.tup []) (st1:=ae) ?_ (h _ h2);simp only[df,ha,hv,jF,jk,hs,if_pos trivial,h1];rfl
theorem EvO.Cz {s t e:TypeId} {xo:Operand} {b:List UInt8} {aw:Nat→Fr} (hH:Has N S st H) (hg:au ops fr ⟨some dst,.convert s t xo,ty,pp,a,g⟩=some true) (hx:fr.ev xo=.str b) (h1:P.b9 s=some .string) (h2:P.b9 t=some (.slice e)) (h3:P.b9 e=some (.int .u8)) (hl:b.length<1099511627776) (hp:∀k,fr.put dst (.win k 0 0 b.length 1)=aw k)
  (h:∀k ae,S.bs.length≤k→Has N S ae (.lst (.win k 0 0 b.length 1) 1 (byteCells b)::H)→EvO P ops rest (aw k) ae Q):EvO P ops (⟨some dst,.convert s t xo,ty,pp,a,g⟩::rest) fr st Q:=by
 have hc:∀b:List UInt8,(byteCells b).flatten=b.map fun y=>.int .u8 (y.toNat:Nat):=by
  intro b
  induction b with
  |nil=>rfl
  |cons y b ih=>simp only[byteCells,List.map_cons,List.flatten_cons] at ih⊢;rw[ih];rfl
 refine EvO.go hg rfl (d:=.win st.bs.length 0 0 b.length 1) (st1:=st.push (.mem 0 true (b.map fun y=>.int .u8 (y.toNat:Nat)))) ?_ (hp _) (h _ _ hH.len (hH.sU (by simp[byteCells]) (hc b) (fun e he=>by obtain⟨y,_,rfl⟩:=List.mem_map.1 he;rfl)));simp only[df,hx,vS,h1,h2,h3,if_pos hl]
theorem EvO.hcall {f:Operand} {gn:Nat} {gm:List D} {args:Array Operand} {rp:Array TypeId} {d:D} {st1:St} (hg:au ops fr ⟨some dst,.call ⟨.value f,args,rp⟩,ty,pp,a,g⟩=some true) (hf:fr.ev f=.fn gn gm)
  (h1:Ev P gn (args.toList.map fr.ev++gm) st d st1) (hp:fr.put dst d=aw)
  (h:EvO P ops rest aw st1 Q):EvO P ops (⟨some dst,.call ⟨.value f,args,rp⟩,ty,pp,a,g⟩::rest) fr st Q:=
 EvO.call hg hf h1 (by show EvO P ops rest (fr.put dst d) st1 Q;rw[hp];exact h)
theorem leave_ro {m:Mode} {kn:Bool} {st st1:St} {d d':D} (hm:m≠.cD∧m≠.nw) (hS:S.bs=st.bs) (hH:Has st.bs.length S st1 H) (hd:aO st1 st.bs.length kn 16 d=some d'):b8 m kn st st1 d=some (d',st):=
 aB hm ((hH.ex.take (by rw[hS])).trans hS) hd
theorem Has.freeze {j:Nat} {x:D} {s:Nat} {es:List (List D)} (hH:Has N S st H) (hj:H[j]?=some (.lst x s es)) (hp:∀e∈es,∀d∈e,bS d=true) {n:Nat} (hn:2≤n):aO st N false (n+1) x=some (.sl (es.map (ic s))):=by
 obtain⟨n,rfl⟩:∃m,n=m+2:=⟨n-2,by omega⟩
 have hown:=hH.own hj;have hkk:=(hH.ok j _ hj).2
 cases hown with
 |nul=>rfl
 |win k aq off es c hm hl hc he=>
  have hk:=hkk k (by simp only[bG.lst,D.ref]);show(if k<N then some (D.win k aq off es.length s) else cH st N (n+2) (.win k aq off es.length s))=_;rw[if_neg (show¬k<N by omega),cH];simp only[if_neg (show¬k<N by omega),St.mem_of hm,Option.bind_some]
  rw[if_pos hl,hc,gw (fun d hd=>by
   obtain⟨e,rT,n3⟩:=List.mem_flatten.1 hd
   exact hp e rT d n3)]
  simp only[Option.map_some,eS he]
end Go.V
namespace Go.V
variable{P:Pv} {ops:Array Oper} {rest:List Oper} {fr aw:Fr} {st:St} {Q:Fr→St→Prop} {ty:TypeId} {pp:String} {a:Array Edge} {g:Option (Nat×Bool)} {dst:Nat}
theorem wantD_is {o:Oper} {j t:Nat} {w v:Bool} (h1:o.guard=some (j,w)) (h2:(ops[j]?).bind (·.dst)=some t) (h3:fr.get t=.bool v) (h4:v=w):au ops fr o=some true:=by
 unfold au;simp only[h1,h2,h3,h4,beq_self_eq_true]
theorem wantD_not {o:Oper} {j t:Nat} {w v:Bool} (h1:o.guard=some (j,w)) (h2:(ops[j]?).bind (·.dst)=some t) (h3:fr.get t=.bool v) (h4:v=!w):au ops fr o=some false:=by
 unfold au;simp only[h1,h2,h3,h4];cases w<;>rfl
theorem EvO.skip {op:Op} (hg:au ops fr ⟨some dst,op,ty,pp,a,g⟩=some false) (hp:fr.put dst (.tup [])=aw)
  (h:EvO P ops rest aw st Q):EvO P ops (⟨some dst,op,ty,pp,a,g⟩::rest) fr st Q:=
 EvO.off hg (by show EvO P ops rest (fr.put dst _) st Q;rw[hp];exact h)
theorem EvO.two {l:List Oper} (t:Nat) {v:Bool} (hv:fr.get t=.bool v) (h1:v=true→EvO P ops l fr st Q) (h2:v=false→EvO P ops l fr st Q):EvO P ops l fr st Q:=by
 cases v
 ·exact h2 rfl
 ·exact h1 rfl
theorem EvO.pickT {c x y:Operand} {v:Bool} (hg:au ops fr ⟨some dst,.pick c x y,ty,pp,a,g⟩=some true) (hc:fr.ev c=.bool v) (hv:v=true) (hp:fr.put dst (fr.ev x)=aw)
  (h:EvO P ops rest aw st Q):EvO P ops (⟨some dst,.pick c x y,ty,pp,a,g⟩::rest) fr st Q:=
 EvO.go hg rfl (by simp only[df,hc,hv]) hp h
theorem EvO.pickF {c x y:Operand} {v:Bool} (hg:au ops fr ⟨some dst,.pick c x y,ty,pp,a,g⟩=some true) (hc:fr.ev c=.bool v) (hv:v=false) (hp:fr.put dst (fr.ev y)=aw)
  (h:EvO P ops rest aw st Q):EvO P ops (⟨some dst,.pick c x y,ty,pp,a,g⟩::rest) fr st Q:=
 EvO.go hg rfl (by simp only[df,hc,hv]) hp h
theorem EvC.cut {dy:Dy} {i:Nat} {l:List Oper} {d n loc HR tmp st} {Q:Out→Fr→St→Prop} (t:Nat) (v:D)
  (h1:EvO P l.toArray l ⟨n,loc,[]⟩ st fun aw ae=>∃tmp,aw=⟨n,HR,tmp⟩∧ae=st∧look t tmp=v) (h2:∀tmp,look t tmp=v→Q .next ⟨n,HR,tmp⟩ st) (h0:fH i dy=[]:=by rfl):EvC P dy (.region i l.toArray d) ⟨n,loc,tmp⟩ st Q:=by
 refine EvC.reg ?_ h0;unfold EvO at h1⊢;obtain⟨aw,ae,h3,Fc,rfl,rfl,h4⟩:=h1;exact⟨_,_,h3,h2 _ h4⟩
theorem wrap_i32 {n : Int} (h1 : -2147483648 ≤ n) (h2 : n ≤ 2147483647) : aV .i32 n = n := by
  cases n with
  | ofNat m => exact dQ (k := .i32) (m := m) (by simp only [kU]; have : (Int.ofNat m) = (m : Int) := rfl; omega)
  | negSucc m =>
    unfold aV
    have : Nat.ble (s9 .i32) m = false := by
      cases hb : Nat.ble (s9 .i32) m with
      | false => rfl
      | true => have := Nat.le_of_ble_eq_true hb; simp only [s9] at this; have : Int.negSucc m = -(m : Int) - 1 := by omega
                omega
    simp only [this]
theorem Kq (x y:Int):(if y>x then y else x)=max x y:=by split<;>omega
theorem Kp (x y:Int):(if y<x then y else x)=min x y:=by split<;>omega
theorem EvO.FC {t1 t2:TypeId} {xo yo:Operand} {k k':IntKind} {x y:Int} {rp:Array TypeId} (hg:au ops fr ⟨some dst,.call ⟨.builtin .max,#[xo,yo],rp⟩,ty,pp,a,g⟩=some true) (hx:fr.ev xo=.int k x) (hy:fr.ev yo=.int k' y) (hp:fr.put dst (.int k (max x y))=aw)
  (h:EvO P ops rest aw st Q):EvO P ops (⟨some dst,.call ⟨.builtin .max,#[xo,yo],rp⟩,ty,pp,a,g⟩::rest) fr st Q:=by
 refine EvO.go hg rfl (d:=.int k (max x y)) (st1:=st) ?_ hp h;simp only[df,List.map_cons,List.map_nil,hx,hy,ba,n4,rJ,Option.bind_some,Option.map_some,←Kq];rfl
theorem EvO.FB {t1 t2:TypeId} {xo yo:Operand} {k k':IntKind} {x y:Int} {rp:Array TypeId} (hg:au ops fr ⟨some dst,.call ⟨.builtin .min,#[xo,yo],rp⟩,ty,pp,a,g⟩=some true) (hx:fr.ev xo=.int k x) (hy:fr.ev yo=.int k' y) (hp:fr.put dst (.int k (min x y))=aw)
  (h:EvO P ops rest aw st Q):EvO P ops (⟨some dst,.call ⟨.builtin .min,#[xo,yo],rp⟩,ty,pp,a,g⟩::rest) fr st Q:=by
 refine EvO.go hg rfl (d:=.int k (min x y)) (st1:=st) ?_ hp h;simp only[df,List.map_cons,List.map_nil,hx,hy,ba,n4,rJ,Option.bind_some,Option.map_some,←Kp];rfl
theorem EvO.addS64 {t jE:TypeId} {xo yo:Operand} {x y:Int} (hg:au ops fr ⟨some dst,.binOp .add t xo yo jE,ty,pp,a,g⟩=some true) (hx:fr.ev xo=.int .i64 x) (hy:fr.ev yo=.int .i64 y) (h1:-9223372036854775808≤x+y) (h2:x+y≤9223372036854775807) (hp:fr.put dst (.int .i64 (x+y))=aw)
  (h:EvO P ops rest aw st Q):EvO P ops (⟨some dst,.binOp .add t xo yo jE,ty,pp,a,g⟩::rest) fr st Q:=by
 refine EvO.go hg rfl (d:=.int .i64 (x+y)) (st1:=st) ?_ hp h;simp only[df,hx,hy,nG,th,if_pos trivial,Option.map_some,wrap_i64 h1 h2]
theorem EvO.addS32 {t jE:TypeId} {xo yo:Operand} {x y:Int} (hg:au ops fr ⟨some dst,.binOp .add t xo yo jE,ty,pp,a,g⟩=some true) (hx:fr.ev xo=.int .i32 x) (hy:fr.ev yo=.int .i32 y) (h1:-2147483648≤x+y) (h2:x+y≤2147483647) (hp:fr.put dst (.int .i32 (x+y))=aw)
  (h:EvO P ops rest aw st Q):EvO P ops (⟨some dst,.binOp .add t xo yo jE,ty,pp,a,g⟩::rest) fr st Q:=by
 refine EvO.go hg rfl (d:=.int .i32 (x+y)) (st1:=st) ?_ hp h;simp only[df,hx,hy,nG,th,if_pos trivial,Option.map_some,wrap_i32 h1 h2]
theorem EvO.Bc {t jE:TypeId} {xo yo:Operand} {x y:Int} (hg:au ops fr ⟨some dst,.binOp .sub t xo yo jE,ty,pp,a,g⟩=some true) (hx:fr.ev xo=.int .i32 x) (hy:fr.ev yo=.int .i32 y) (h1:-2147483648≤x-y) (h2:x-y≤2147483647) (hp:fr.put dst (.int .i32 (x-y))=aw)
  (h:EvO P ops rest aw st Q):EvO P ops (⟨some dst,.binOp .sub t xo yo jE,ty,pp,a,g⟩::rest) fr st Q:=by
 refine EvO.go hg rfl (d:=.int .i32 (x-y)) (st1:=st) ?_ hp h;simp only[df,hx,hy,nG,th,if_pos trivial,Option.map_some,wrap_i32 h1 h2]
theorem EvO.mv {op:Op} {x:Operand} {d:D} (fX:op=.move x∨op=.assign x) (hg:au ops fr ⟨some dst,op,ty,pp,a,g⟩=some true) (hx:fr.ev x=d) (hp:fr.put dst d=aw)
  (h:EvO P ops rest aw st Q):EvO P ops (⟨some dst,op,ty,pp,a,g⟩::rest) fr st Q:=by
 refine EvO.go hg ?_ (d:=d) (st1:=st) ?_ hp h<;>rcases fX with rfl|rfl<;>first|rfl|simp only[df,hx]
def j8 (P:Pv) (fields:Array Field) (f:Nat):Option (Nat×Option Nat):=(fields[f]?).map fun fd=>(fd.offset,bN P fd.type)
theorem j7 {P:Pv} {fields:Array Field} {f fo m:Nat} (h:j8 P fields f=some (fo,some m)):∃fd,fields[f]?=some fd∧fd.offset=fo∧bN P fd.type=some m:=by
 unfold j8 at h;obtain⟨fd,h1,h2⟩:=Option.map_eq_some_iff.1 h;simp only[Prod.mk.injEq] at h2;exact⟨fd,h1,h2.1,h2.2⟩
theorem EvO.BE {t:TypeId} {xo:Operand} {k aq off o f fo m:Nat} {fields:Array Field} (hg:au ops fr ⟨some dst,.fieldAddr t xo f,ty,pp,a,g⟩=some true) (hx:fr.ev xo=.ptr k aq off) (ht:P.b9 t=some (.struct fields)) (hf:j8 P fields f=some (fo,some (m+1))) (ho:off+fo=o) (hp:fr.put dst (.ptr k aq o)=aw)
  (h:EvO P ops rest aw st Q):EvO P ops (⟨some dst,.fieldAddr t xo f,ty,pp,a,g⟩::rest) fr st Q:=by
 obtain⟨fd,h1,h2,h3⟩:=j7 hf;subst ho;refine EvO.go hg rfl (d:=.ptr k aq (off+fo)) (st1:=st) ?_ hp h;simp only[df,hx,dY,ht,h1,Option.bind_some,h3,h2];rw[if_neg (by simp)];rfl
theorem EvO.DJ {t:TypeId} {xo:Operand} {x:D} {r:List D} {f fo m:Nat} {fields:Array Field} {aw:D→Fr} (hg:au ops fr ⟨some dst,.fieldAddr t xo f,ty,pp,a,g⟩=some true) (hx:fr.ev xo=x) (hR:jz st x r) (ht:P.b9 t=some (.struct fields)) (hf:j8 P fields f=some (fo,some (m+1))) (hp:∀p,fr.put dst p=aw p)
  (h:∀p,jz st p (r.drop fo)→EvO P ops rest (aw p) st Q):EvO P ops (⟨some dst,.fieldAddr t xo f,ty,pp,a,g⟩::rest) fr st Q:=by
 obtain⟨fd,h1,h2,h3⟩:=j7 hf;exact EvO.Fm hg hx hR ht h1 h3 (by omega) hp (by rw[h2];exact h)
theorem EvO.cI {t:TypeId} {xo:Operand} {x y:D} {s i o o2:Nat} {f fo m:Nat} {fields:Array Field} {aw:D→Fr} (hg:au ops fr ⟨some dst,.fieldAddr t xo f,ty,pp,a,g⟩=some true) (hx:fr.ev xo=y) (hR:nJ x s i o y) (ht:P.b9 t=some (.struct fields)) (hf:j8 P fields f=some (fo,some (m+1))) (ho:o+fo=o2) (hp:∀p,fr.put dst p=aw p)
  (h:∀p,nJ x s i o2 p→EvO P ops rest (aw p) st Q):EvO P ops (⟨some dst,.fieldAddr t xo f,ty,pp,a,g⟩::rest) fr st Q:=by
 obtain⟨fd,h1,h2,h3⟩:=j7 hf;subst ho;exact EvO.Fy hg hx hR ht h1 h3 (by omega) hp (by rw[h2];exact h)
theorem uw {c cs:List D} (h:cs.length=c.length):setMany c 0 cs=cs:=by
 rw[fz cs c 0 (by omega),List.take_zero,List.nil_append,Nat.zero_add,h,List.drop_length,List.append_nil]
variable{N:Nat} {S:St} {H:List bG}
theorem EvO.hstoreA {j k aq:Nat} {ar:Bool} {c cs:List D} {v:D} {t:TypeId} {ao vo:Operand} (hH:Has N S st H) (hg:au ops fr ⟨none,.store t ao vo,ty,pp,a,g⟩=some true) (ha:fr.ev ao=.ptr k aq 0) (hv:fr.ev vo=v) (jk:v.cells?=some cs) (hs:bN P t=some cs.length) (hj:H[j]?=some (.box k (.mem aq ar c))) (hl:cs.length=c.length) (hw:S.flr≤N∨refs cs=0)
  (h:∀ae,Has N S ae (H.set j (.box k (.mem aq ar cs)))→EvO P ops rest fr ae Q):EvO P ops (⟨none,.store t ao vo,ty,pp,a,g⟩::rest) fr st Q:=
 EvO.pL hH hg ha hv jk hs hj (by omega) hw (by rw[uw hl];exact h)
theorem rZ {place:Nat→Option (Nat×Nat)} {s:Nat} (hpl:∀i,place i=some (i*s,s)):∀(vs:List D) (n:Nat) (done rem:List D),done.length=n*s→rem.length=vs.length*s→(∀v∈vs,v.cells?=some v.cells∧v.cells.length=s)→
  ga place (done++rem) (vs.mapIdx fun i v=>(n+i,v))=some (done++(vs.map D.cells).flatten)
 |[],n,done,rem,hd,hr,_=>by
  have:rem=[]:=by cases rem with|nil=>rfl|cons _ _=>simp at hr
  subst this;simp[ga]
 |v::vs,n,done,rem,hd,hr,hv=>by
  obtain⟨h1,h2⟩:=hv v (List.mem_cons_self ..);simp only[List.length_cons,Nat.add_mul,Nat.one_mul] at hr;simp only[List.mapIdx_cons,ga,hpl,h1,Nat.add_zero];rw[if_neg (by simp only[h2,ne_eq,not_true_eq_false,List.length_append,false_or];rw[hd,hr];omega)]
  have e1:setMany (done++rem) (n*s) v.cells=(done++v.cells)++rem.drop s:=by
   rw[fz _ _ _ (by simp only[List.length_append];omega),h2,←hd,List.take_left,List.drop_length_add_append]
  have ih:=rZ hpl vs (n+1) (done++v.cells) (rem.drop s) (by rw[List.length_append,hd,h2,Nat.add_mul,Nat.one_mul]) (by rw[List.length_drop];omega) fun w hw=>hv w (List.mem_cons_of_mem _ hw);rw[e1];have e2:(vs.mapIdx fun i v=>(n+(i+1),v))=vs.mapIdx fun i v=>(n+1+i,v):=by congr 1;funext i v;rw[show n+(i+1)=n+1+i by omega]
  rw[e2,ih];simp[List.append_assoc]
def zc (fr:Fr):Nat→List (Nat×Operand)→List D→Prop
 |_,[],[]=>True
 |n,(i,o)::ps,v::vs=>i=n∧fr.ev o=v∧zc fr (n+1) ps vs
 |_,_,_=>False
theorem vP {fr:Fr}:∀{ps:List (Nat×Operand)} {vs:List D} {n:Nat},zc fr n ps vs→(ps.map fun p=>(p.1,fr.ev p.2))=vs.mapIdx fun i v=>(n+i,v)
 |[],[],_,_=>rfl
 |(i,o)::ps,v::vs,n,h=>by
  obtain⟨h1,h2,h3⟩:=h;have ih:=vP h3;simp only[List.map_cons,List.mapIdx_cons,Nat.add_zero];rw[ih,h1,h2]
  congr 1
  congr 1;funext i v;rw[show n+(i+1)=n+1+i by omega]
 |[],_::_,_,h=>h.elim
 |_::_,[],_,h=>h.elim
theorem EvO.hlist {t e:TypeId} {m s:Nat} {parts:Array (Nat×Operand)} {z:List D} {vs:List D} {aw:Nat→Fr} (hH:Has N S st H) (hg:au ops fr ⟨some dst,.buildSlice t m parts,ty,pp,a,g⟩=some true) (ht:P.b9 t=some (.slice e)) (hs:bN P e=some s) (hz:cT P e=some z) (k_:z.length=s) (hm:m*s≤16777216)
  (JK:zc fr 0 parts.toList vs) (H0:vs.length=m) (hc:∀v∈vs,v.cells?=some v.cells∧v.cells.length=s) (hp:∀k,fr.put dst (.win k 0 0 m s)=aw k)
  (h:∀k ae,S.bs.length≤k→Has N S ae (.lst (.win k 0 0 m s) s (vs.map D.cells)::H)→EvO P ops rest (aw k) ae Q):EvO P ops (⟨some dst,.buildSlice t m parts,ty,pp,a,g⟩::rest) fr st Q:=by
 have AV:=vP JK;have hf:=rZ (place:=fun i=>some (i*s,s)) (fun _=>rfl) vs 0 [] (eu m z) (by simp) (by simp[eu,H0,k_]) hc
 refine EvO.go hg rfl (d:=.win st.bs.length 0 0 m s) (st1:=st.push (.mem 0 true (vs.map D.cells).flatten)) ?_ (hp _) (h _ _ hH.len (hH.sU (by simpa using H0) rfl (fun e he=>by
  obtain⟨v,hv,rfl⟩:=List.mem_map.1 he
  exact(hc v hv).2)))
 simp only[df,fS,ht,hs,hz,Option.bind_some];rw[if_pos ⟨k_,hm⟩,AV];simp only[List.nil_append] at hf;rw[hf];rfl
theorem EvO.hloadS {j k aq off m:Nat} {ar:Bool} {c r:List D} {t:TypeId} {ao:Operand} (hH:Has N S st H) (hg:au ops fr ⟨some dst,.load t ao,ty,pp,a,g⟩=some true) (ha:fr.ev ao=.ptr k aq off) (hj:H[j]?=some (.box k (.mem aq ar c))) (hr:(c.drop off).take m=r) (hd:cP P t r=some (.agg r)) (hm:r.length=m) (hp:fr.put dst (.agg r)=aw)
  (h:EvO P ops rest aw st Q):EvO P ops (⟨some dst,.load t ao,ty,pp,a,g⟩::rest) fr st Q:=
 EvO.hload hH hg ha hj (kl (r:=r) (by rw[hm];exact hr) hd) hp h
theorem lt_get {α:Type} {l:List α} {i:Nat} {a:α} (h:l[i]?=some a):i<l.length:=by
 rcases Nat.lt_or_ge i l.length with h'|h'
 ·exact h'
 ·rw[List.getElem?_eq_none h'] at h;cases h
theorem EvO.cx {t:TypeId} {ao:Operand} {x:D} {r:List D} (hg:au ops fr ⟨some dst,.load t ao,ty,pp,a,g⟩=some true) (ha:fr.ev ao=x) (hR:jz st x r) (hd:cP P t r=some (.agg r)) (hp:fr.put dst (.agg r)=aw)
  (h:EvO P ops rest aw st Q):EvO P ops (⟨some dst,.load t ao,ty,pp,a,g⟩::rest) fr st Q:=EvO.rload hg ha hR hd hp h
theorem EvO.BQ {t:TypeId} {ao:Operand} {x y:D} {s i j:Nat} {es:List (List D)} {r:List D} (hH:Has N S st H) (hg:au ops fr ⟨some dst,.load t ao,ty,pp,a,g⟩=some true) (ha:fr.ev ao=y) (hR:nJ x s i 0 y) (hj:H[j]?=some (.lst x s es)) (hr:es[i]?=some r) (hd:cP P t r=some (.agg r)) (hp:fr.put dst (.agg r)=aw)
  (h:EvO P ops rest aw st Q):EvO P ops (⟨some dst,.load t ao,ty,pp,a,g⟩::rest) fr st Q:=EvO.oload hH hg ha hR hj hr (by rw[List.drop_zero];exact hd) hp h
theorem EvO.fM {t jE:TypeId} {xo yo:Operand} {x y z:Int} {k:IntKind} (hg:au ops fr ⟨some dst,.binOp .add t xo yo jE,ty,pp,a,g⟩=some true) (hx:fr.ev xo=.int k x) (hy:fr.ev yo=.int k y) (hz:aV k (x+y)=z) (hp:fr.put dst (.int k z)=aw)
  (h:EvO P ops rest aw st Q):EvO P ops (⟨some dst,.binOp .add t xo yo jE,ty,pp,a,g⟩::rest) fr st Q:=by
 refine EvO.go hg rfl (d:=.int k z) (st1:=st) ?_ hp h;simp only[df,hx,hy,nG,th,if_pos trivial,Option.map_some,hz]
theorem EvO.jo {t jE:TypeId} {xo yo:Operand} {x y z:Int} {k:IntKind} (hg:au ops fr ⟨some dst,.binOp .sub t xo yo jE,ty,pp,a,g⟩=some true) (hx:fr.ev xo=.int k x) (hy:fr.ev yo=.int k y) (hz:aV k (x-y)=z) (hp:fr.put dst (.int k z)=aw)
  (h:EvO P ops rest aw st Q):EvO P ops (⟨some dst,.binOp .sub t xo yo jE,ty,pp,a,g⟩::rest) fr st Q:=by
 refine EvO.go hg rfl (d:=.int k z) (st1:=st) ?_ hp h;simp only[df,hx,hy,nG,th,if_pos trivial,Option.map_some,hz]
theorem EvO.qZ {t jE:TypeId} {xo yo:Operand} {x y z:Int} {k:IntKind} (hg:au ops fr ⟨some dst,.binOp .mul t xo yo jE,ty,pp,a,g⟩=some true) (hx:fr.ev xo=.int k x) (hy:fr.ev yo=.int k y) (hz:aV k (x*y)=z) (hp:fr.put dst (.int k z)=aw)
  (h:EvO P ops rest aw st Q):EvO P ops (⟨some dst,.binOp .mul t xo yo jE,ty,pp,a,g⟩::rest) fr st Q:=by
 refine EvO.go hg rfl (d:=.int k z) (st1:=st) ?_ hp h;simp only[df,hx,hy,nG,th,if_pos trivial,Option.map_some,hz]
theorem EvO.Kn {t jE:TypeId} {xo yo:Operand} {x y:D} {b:Bool} (hg:au ops fr ⟨some dst,.binOp .neq t xo yo jE,ty,pp,a,g⟩=some true) (hx:fr.ev xo=x) (hy:fr.ev yo=y) (hb:nG P .neq t x y=some (.bool b)) (hp:fr.put dst (.bool b)=aw)
  (h:EvO P ops rest aw st Q):EvO P ops (⟨some dst,.binOp .neq t xo yo jE,ty,pp,a,g⟩::rest) fr st Q:=by
 refine EvO.go hg rfl (d:=.bool b) (st1:=st) ?_ hp h;simp only[df,hx,hy,hb,Option.map_some]
theorem Ev.gT {f:Nat} {x:Fi} {body:Code} {args:List D} {st:St} {n:Nat} {loc:List D} {De:D→St→Prop} (hq:jS f P.prm=none) (hf:P.fi f=some x) (hp:x.prim=none) (hb:x.fn.body=some body) (Cj:pad x.nloc args=⟨n,loc,[]⟩)
  (h:EvC P x.dyn body ⟨n,loc,[]⟩ (enterSt x.mode st) fun o fr st1=>(∀i,o≠.exit i)∧∃ds d ae,iR P fr st1 x.fn.results.toList=some ds∧b8 x.mode x.knul st st1 (lQ ds)=some (d,ae)∧De d ae):∃d ae,Ev P f args st d ae∧De d ae:=by
 unfold EvC at h;obtain⟨o,aw,st1,hN,ho,ds,d,ae,hr,hl,Ci⟩:=h;refine⟨d,ae,Ev.mk1 hq hf hp hb Cj ?_,Ci⟩;unfold EvC;exact⟨o,aw,st1,hN,ho,ds,hr,hl⟩
def Dg (M:Fr→St→Prop) (Q:Out→Fr→St→Prop):Out→Fr→St→Prop
 | .next,fr,st=>M fr st
 | .exit i,fr,st=>Q (.exit i) fr st
 | .ret,fr,st=>Q .ret fr st
theorem EvC.merge {P:Pv} {dy:Dy} {c:Code} {fr:Fr} {st:St} {Q:Out→Fr→St→Prop} (M:Fr→St→Prop) (h1:EvC P dy c fr st (Dg M Q)) (h2:∀aw ae,M aw ae→Q .next aw ae):EvC P dy c fr st Q:=
 h1.mono fun o aw ae h=>by
  cases o with
  |next=>exact h2 _ _ h
  |exit i=>exact h
  |ret=>exact h
theorem EvO.addN {t jE:TypeId} {xo yo:Operand} {x y:Nat} (hg:au ops fr ⟨some dst,.binOp .add t xo yo jE,ty,pp,a,g⟩=some true) (hx:fr.ev xo=.int .i64 (x:Nat)) (hy:fr.ev yo=.int .i64 (y:Nat)) (h2:x+y≤9223372036854775807) (hp:fr.put dst (.int .i64 ((x+y:Nat):Int))=aw)
  (h:EvO P ops rest aw st Q):EvO P ops (⟨some dst,.binOp .add t xo yo jE,ty,pp,a,g⟩::rest) fr st Q:=
 EvO.fM hg hx hy (by rw[wrap_i64 (by omega) (by omega)];rfl) hp h
theorem Ev.yE {f:Nat} {x:Fi} {body:Code} {args:List D} {st:St} {n:Nat} {loc:List D} {De:D→Prop} (hq:jS f P.prm=none) (hf:P.fi f=some x) (hp:x.prim=none) (hb:x.fn.body=some body) (Cj:pad x.nloc args=⟨n,loc,[]⟩)
  (h:EvC P x.dyn body ⟨n,loc,[]⟩ (enterSt x.mode st) fun o fr st1=>(∀i,o≠.exit i)∧∃ds d,iR P fr st1 x.fn.results.toList=some ds∧b8 x.mode x.knul st st1 (lQ ds)=some (d,st)∧De d):∃d,Ev P f args st d st∧De d:=by
 unfold EvC at h;obtain⟨o,aw,st1,hN,ho,ds,d,hr,hl,Ci⟩:=h;refine⟨d,Ev.mk1 hq hf hp hb Cj ?_,Ci⟩;unfold EvC;exact⟨o,aw,st1,hN,ho,ds,hr,hl⟩
def setW (loc:List D) (ws:List Nat) (f:Nat→D):List D:=ws.foldl (fun l w=>l.set w (f w)) loc
theorem EvC.ml {P:Pv} {dy:Dy} {i:Nat} {l:List Oper} {d n loc tmp st} {Q:Out→Fr→St→Prop} (t:Nat) (v:D) (ws:List Nat)
  (h1:EvO P l.toArray l ⟨n,loc,[]⟩ st fun aw ae=>∃f tmp,aw=⟨n,(setW loc ws f).set t v,tmp⟩∧ae=st) (h2:∀f tmp,Q .next ⟨n,(setW loc ws f).set t v,tmp⟩ st) (h0:fH i dy=[]:=by rfl):EvC P dy (.region i l.toArray d) ⟨n,loc,tmp⟩ st Q:=by
 refine EvC.reg ?_ h0;unfold EvO at h1⊢;obtain⟨aw,ae,h3,f,Fc,rfl,rfl⟩:=h1;exact⟨_,_,h3,h2 _ _⟩
theorem EvC.cutT {P:Pv} {dy:Dy} {i:Nat} {l:List Oper} {d n loc tmp st} {Q:Out→Fr→St→Prop} (t:Nat) (v:D) (ws:List Nat)
  (h1:EvO P l.toArray l ⟨n,loc,[]⟩ st fun aw ae=>∃f tmp,aw=⟨n,setW loc ws f,tmp⟩∧ae=st∧look t tmp=v) (h2:∀f tmp,look t tmp=v→Q .next ⟨n,setW loc ws f,tmp⟩ st) (h0:fH i dy=[]:=by rfl):EvC P dy (.region i l.toArray d) ⟨n,loc,tmp⟩ st Q:=by
 refine EvC.reg ?_ h0;unfold EvO at h1⊢;obtain⟨aw,ae,h3,f,Fc,rfl,rfl,h4⟩:=h1;exact⟨_,_,h3,h2 _ _ h4⟩
theorem aI {n:Nat} {L loc:List D} {sH:List (Nat×D)} {ws:List Nat} {t:Nat} {v:D} {st:St} (h:L=(setW loc ws (fun k=>nth .junk L k)).set t v):∃(f:Nat→D) (tmp:List (Nat×D)),(⟨n,L,sH⟩:Fr)=⟨n,(setW loc ws f).set t v,tmp⟩∧st=st:=⟨_,sH,by rw[←h],rfl⟩
theorem leafT {n:Nat} {L loc:List D} {sH:List (Nat×D)} {ws:List Nat} {t:Nat} {v:D} {st:St} (h:L=setW loc ws (fun k=>nth .junk L k)) (h2:look t sH=v):∃(f:Nat→D) (tmp:List (Nat×D)),(⟨n,L,sH⟩:Fr)=⟨n,setW loc ws f,tmp⟩∧st=st∧look t tmp=v:=⟨_,sH,by rw[←h],rfl,h2⟩
theorem kO {x y:Oper} {fi fj:Fr} {si qQ sj Fg:St} {a:Operand} {k aq off v:Nat} {ar:Bool} {c:List D} (hy:f' y.op=none) (hx:f' x.op=some a) (ha:fi.ev a=.ptr k aq off) (h1:sj.bs[k]?=some (.mem v ar c)) (h2:Fg.bs[k]?=some (.mem v ar c)) (h3:si.bs[k]?=some (.mem v ar c)) (hr:refs c=0):iU x fi si qQ y fj sj Fg=true:=by
 unfold iU;simp only[hy,hx,ha,D.lK,Bool.and_eq_true];refine⟨zy h1 h2,?_⟩;unfold lj;simp only[h3,hr]
 split
 ·rfl
 ·simp
theorem qk {x y:Oper} {fi fj:Fr} {si qQ sj Fg:St} {a:Operand} (hy:f' y.op=none) (hx:f' x.op=some a) (ha:(fi.ev a).lK=none):iU x fi si qQ y fj sj Fg=true:=by
 unfold iU;simp only[hy,hx,ha,lg,lj,Bool.and_self]
def SlD (x:D) (s:Nat) (es:List (List D)):Prop:=(x=.nul∧es=[])∨∃ds,x=.sl ds∧ds.map D.cells=es∧∀d∈ds,d.cells?=some d.cells∧d.cells.length=s
theorem SlD.rows {x:D} {s:Nat} {es:List (List D)} (h:SlD x s es) (st:St):Rows st s x es:=by
 rcases h with⟨rfl,rfl⟩|⟨ds,rfl,rfl,h⟩
 ·exact .nul
 ·exact .sl ds h
theorem SlD.ref {x:D} {s:Nat} {es:List (List D)} (h:SlD x s es):x.ref=0:=by
 rcases h with⟨rfl,rfl⟩|⟨ds,rfl,rfl,h⟩<;>rfl
theorem SlD.arg {x:D} {s:Nat} {es:List (List D)} (h:SlD x s es) (N:Nat) (S:St):Arg N S s x es:=⟨h.rows S,by rw[h.ref];omega⟩
theorem SlD.cells {x:D} {s:Nat} {es:List (List D)} (h:SlD x s es):x.cells?=some [x]∧x.cells=[x]:=by
 rcases h with⟨rfl,rfl⟩|⟨ds,rfl,rfl,h⟩<;>exact⟨rfl,rfl⟩
theorem SlD.freeze {x:D} {s:Nat} {es:List (List D)} (h:SlD x s es) (st:St) (N n:Nat):∃y,aO st N false (n+1) x=some y∧SlD y s es:=by
 rcases h with⟨rfl,rfl⟩|⟨ds,rfl,rfl,h⟩
 ·exact⟨.sl [],rfl,.inr ⟨[],rfl,rfl,fun d hd=>by cases hd⟩⟩
 ·exact⟨.sl ds,rfl,.inr ⟨ds,rfl,rfl,h⟩⟩
theorem SlD.frozen {s:Nat} {es:List (List D)} (h:∀e∈es,e.length=s) (hp:∀e∈es,∀d∈e,bS d=true):SlD (.sl (es.map (ic s))) s es:=by
 refine .inr ⟨_,rfl,?_,fun d hd=>?_⟩
 ·rw[List.map_map]
  conv=>rhs;rw[←List.map_id es]
  refine List.map_congr_left fun e he=>?_;exact(kN (h e he) (hp e he)).2
 ·obtain⟨e,he,rfl⟩:=List.mem_map.1 hd;obtain⟨h1,h2⟩:=kN (h e he) (hp e he);exact⟨h1,by rw[h2];exact h e he⟩
theorem SlD.part {P:Pv} {st:St} {t e:TypeId} {x:D} {s l r:Nat} {es:List (List D)} {lo hi:Option D} (h:SlD x s es) (ht:P.b9 t=some (.slice e)) (hs:bN P e=some s) (hb:dH es.length lo hi=some (l,r)):∃y,g_ P t x lo hi st=some y∧SlD y s ((es.take r).drop l):=by
 rcases h with⟨rfl,rfl⟩|⟨ds,rfl,rfl,h⟩
 ·simp only[List.length_nil] at hb;refine⟨.nul,?_,.inl ⟨rfl,by simp⟩⟩;simp only[g_,ht,hs,Option.bind_some,hb,Option.map_some]
 ·rw[List.length_map] at hb;refine⟨.sl ((ds.take r).drop l),?_,.inr ⟨_,rfl,by rw[List.map_drop,List.map_take],fun d hd=>h d (List.mem_of_mem_take (List.mem_of_mem_drop hd))⟩⟩;simp only[g_,ht,hs,Option.bind_some]
  rw[if_pos (by
   cases ds with
   |nil=>rfl
   |cons d ds=>obtain⟨h1,h2⟩:=h d (List.mem_cons_self ..);simp[pQ,h1,h2])]
  simp only[hb,Option.map_some]
end Go.V
namespace Go.V
inductive ck {α β:Type} (R:α→β→Prop):List α→List β→Prop where
 |nil:ck R [] []
 |cons {a:α} {b:β} {l:List α} {m:List β} (h:R a b) (t:ck R l m):ck R (a::l) (b::m)
theorem ck.mono {α β:Type} {R R':α→β→Prop} (h:∀a b,R a b→R' a b):∀{l:List α} {m:List β},ck R l m→ck R' l m
 |_,_,.nil=>.nil
 |_,_,.cons a t=>.cons (h _ _ a) (t.mono h)
theorem ck.append {α β:Type} {R:α→β→Prop}:∀{l l':List α} {m m':List β},ck R l m→ck R l' m'→ck R (l++l') (m++m')
 |_,_,_,_,.nil,h=>h
 |_,_,_,_,.cons a t,h=>.cons a (t.append h)
theorem ck.len {α β:Type} {R:α→β→Prop}:∀{l:List α} {m:List β},ck R l m→l.length=m.length
 |_,_,.nil=>rfl
 |_,_,.cons a t=>by simp[t.len]
def B_:D→Bool
 | .sl _=>true
 |_=>false
inductive ef (bb:Bool) (st:St) (ks:Nat→Prop):D→D→Prop where
 |plain (d:D) (h:bS d=true) (h2:(!(B_ d)||bb)=true:=by rfl):ef bb st ks d d
 |lst (w:D) (s:Nat) (rs:List (List D)) (h:gq st s w rs) (hp:∀e∈rs,∀d∈e,bS d=true) (hk:∀k,w.ref=k+1→ks k):ef bb st ks w (.sl (rs.map (ic s)))
abbrev qG:=ef true
variable{bb:Bool}
theorem ef.mono {st:St} {ks EI:Nat→Prop} (h:∀k,ks k→EI k) {d v:D} (p:ef bb st ks d v):ef bb st EI d v:=by
 cases p with
 |plain h h2=>exact .plain d h h2
 |lst s rs h1 h2 h3=>exact .lst d s rs h1 h2 fun k hk=>h k (h3 k hk)
theorem ef.move {st ae:St} {ks:Nat→Prop} (h:∀k,ks k→ae.bs[k]?=st.bs[k]?) {d v:D} (p:ef bb st ks d v):ef bb ae ks d v:=by
 cases p with
 |plain h h2=>exact .plain d h h2
 |lst s rs h1 h2 h3=>exact .lst d s rs (h1.move fun k hk=>h k (h3 k hk)) h2 h3
theorem gq.HC {st:St} {s N:Nat} {x:D} {es:List (List D)} (h:gq st s x es) (hN:∀k,x.ref=k+1→N≤k) (hp:∀e∈es,∀d∈e,bS d=true) (n:Nat):cH st N (n+2) x=some (.sl (es.map (ic s))):=by
 cases h with
 |nul=>rfl
 |win k aq off es c hm hl hc he=>
  have:=hN k (by simp only[D.ref]);rw[cH];simp only[if_neg (show¬k<N by omega),St.mem_of hm,Option.bind_some]
  rw[if_pos hl,hc,gw (fun d hd=>by
   obtain⟨e,rT,n3⟩:=List.mem_flatten.1 hd
   exact hp e rT d n3)]
  simp only[Option.map_some,eS he]
theorem ef.pure {st:St} {ks:Nat→Prop} {N:Nat} (hN:∀k,ks k→N≤k) {d v:D} (p:ef bb st ks d v) (n:Nat):cH st N (n+2) d=some v:=by
 cases p with
 |plain h h2=>cases d<;>simp[bS] at h<;>rfl
 |lst s rs h1 h2 h3=>exact h1.HC (fun k hk=>hN k (h3 k hk)) h2 n
theorem rM {f:D→Option D} {R:D→D→Prop} (h:∀a b,R a b→f a=some b):∀{l m:List D},ck R l m→eG f l=some m
 |_,_,.nil=>rfl
 |_,_,.cons a t=>by simp only[eG,h _ _ a,rM h t]
theorem ck.flat {R:D→D→Prop}:∀{l m:List (List D)},ck (ck R) l m→ck R l.flatten m.flatten
 |_,_,.nil=>.nil
 |_,_,.cons a t=>by simp only[List.flatten_cons];exact a.append t.flat
theorem ck.each {s:Nat} {R:D→D→Prop}:∀{l m:List (List D)},ck (ck R) l m→(∀e∈l,e.length=s)→∀e∈m,e.length=s
 |_,_,.nil,_,e,he=>by cases he
 |_,_,.cons a t,h,e,he=>by
  rcases List.mem_cons.1 he with rfl|he
  ·rw[←a.len];exact h _ (List.mem_cons_self ..)
  ·exact t.each (fun x hx=>h x (List.mem_cons_of_mem _ hx)) e he
def bG.emp:bG:=⟨fun _=>False,fun _=>True,fun _ p=>p⟩
def bG.bR (bb:Bool) (ks:Nat→Prop) (x:D) (s:Nat) (vs:List (List D)):bG:=
 ⟨fun j=>x.ref=j+1∨ks j,fun st=>(∃es,gq st s x es∧ck (ck (ef bb st ks)) es vs)∧∀k,x.ref=k+1→¬ks k,fun h p=>by
  obtain⟨⟨es,h1,h2⟩,h3⟩:=p
  exact⟨⟨es,h1.move fun k hk=>h k (.inl hk),h2.mono fun a b=>ck.mono fun c d=>ef.move fun k hk=>h k (.inr hk)⟩,h3⟩⟩
abbrev bG.deep:=bG.bR true
variable{N:Nat} {S st:St} {H:List bG}
theorem Has.HJ (h:Has N S st H) (s:Nat) (bb:Bool:=true):Has N S st (.bR bb (fun _=>False) .nul s []::H):=
 h.add (fun _ _=>rfl) (Nat.le_refl _) rfl rfl ⟨⟨[],.nul,.nil⟩,fun k hk=>by simp only[D.ref] at hk;omega⟩ fun k hk=>by
  rcases hk with hk|hk
  ·simp only[D.ref] at hk;omega
  ·exact hk.elim
theorem Has.GQ {i j:Nat} {w x:D} {sw s:Nat} {rs vs:List (List D)} {ks:Nat→Prop} (h:Has N S st H) (hij:i≠j) (hi:H[i]?=some (.lst w sw rs)) (hj:H[j]?=some (.bR bb ks x s vs)) (hp:∀e∈rs,∀d∈e,bS d=true):
  Has N S st ((H.set i .emp).set j (.bR bb (fun k=>ks k∨w.ref=k+1) x s vs))∧ef bb st (fun k=>ks k∨w.ref=k+1) w (.sl (rs.map (ic sw))):=by
 have PU:=h.own hi;obtain⟨⟨es,h1,h2⟩,h3⟩:=(h.ok j _ hj).1;have RX:=(h.ok i _ hi).2;have OZ:=(h.ok j _ hj).2;have LU:=h.dis i j _ _ hij hi hj;refine⟨⟨h.ex,h.hN,h.ft,fun n e hn=>?_,fun a b ea eb hab ha hb k tX iK=>?_⟩,.lst w sw rs PU hp fun k hk=>.inr hk⟩
 ·by_cases hnj:n=j
  ·subst hnj;rw[List.getElem?_set_self (by rw[List.length_set];exact lt_get hj)] at hn;cases hn;refine⟨⟨⟨es,h1,h2.mono fun a b=>ck.mono fun c d=>ef.mono fun k hk=>.inl hk⟩,fun k hk=>?_⟩,fun k hk=>?_⟩
   ·rintro(nv|nv)
    ·exact h3 k hk nv
    ·exact LU k nv (.inl hk)
   ·rcases hk with hk|hk|hk
    ·exact OZ k (.inl hk)
    ·exact OZ k (.inr hk)
    ·exact RX k hk
  ·rw[List.getElem?_set_ne (fun e=>hnj e.symm)] at hn
   by_cases hni:n=i
   ·subst hni;rw[List.getElem?_set_self (lt_get hi)] at hn;cases hn;exact⟨trivial,fun k hk=>hk.elim⟩
   ·rw[List.getElem?_set_ne (fun e=>hni e.symm)] at hn;exact h.ok n e hn
 ·have key:∀n e,((H.set i .emp).set j (.bR bb (fun k=>ks k∨w.ref=k+1) x s vs))[n]?=some e→∀k,e.K k→(n=j∧((bG.bR bb ks x s vs).K k∨(bG.lst w sw rs).K k))∨(n≠j∧n≠i∧H[n]?=some e):=by
   intro n e hn k hk
   by_cases hnj:n=j
   ·subst hnj;rw[List.getElem?_set_self (by rw[List.length_set];exact lt_get hj)] at hn;cases hn;refine .inl ⟨rfl,?_⟩
    rcases hk with hk|hk|hk
    ·exact .inl (.inl hk)
    ·exact .inl (.inr hk)
    ·exact .inr hk
   ·rw[List.getElem?_set_ne (fun e=>hnj e.symm)] at hn
    by_cases hni:n=i
    ·subst hni;rw[List.getElem?_set_self (lt_get hi)] at hn;cases hn;exact hk.elim
    ·rw[List.getElem?_set_ne (fun e=>hni e.symm)] at hn;exact .inr ⟨hnj,hni,hn⟩
  rcases key a ea ha k tX with⟨h4,h5⟩|⟨h4,h5,h6⟩<;>rcases key b eb hb k iK with⟨g4,g5⟩|⟨g4,g5,g6⟩
  ·exact hab (h4.trans g4.symm)
  ·rcases h5 with h5|h5
   ·exact h.dis j b _ _ (fun e=>g4 e.symm) hj g6 k h5 iK
   ·exact h.dis i b _ _ (fun e=>g5 e.symm) hi g6 k h5 iK
  ·rcases g5 with g5|g5
   ·exact h.dis a j _ _ h4 h6 hj k tX g5
   ·exact h.dis a i _ _ h5 h6 hi k tX g5
  ·exact h.dis a b _ _ hab h6 g6 k tX iK
theorem Has.oR {P:Pv} {j:Nat} {x y:D} {s:Nat} {ks:Nat→Prop} {vs ys Hn:List (List D)} (hH:Has N S st H) (hj:H[j]?=some (.bR bb ks x s vs)) (hy:Rows st s y ys) (hd:ck (ck (ef bb st ks)) ys Hn) {t1 t2 e:TypeId} {td:TypeDesc} {inf:TypeInfo} {z:List D}
  (h1:P.b9 t1=some (.slice e)) (h2:P.b9 t2=some td) (h3:fJ td=false) (h4:P.info e=some inf) (h5:cT P e=some z) (h6:inf.size=s) (h7:z.length=s) (h8:0<inf.bytes∧inf.bytes≤1024)
  (hb0:vs.length+ys.length≤1073741824) (hw:S.flr≤N∨refs ys.flatten=0):
  ∃x' ae,ba P .append [t1,t2] [x,y] st=some (x',ae)∧Has N S ae (H.set j (.bR bb ks x' s (vs++Hn))):=by
 obtain⟨⟨es,he1,tD⟩,he3⟩:=(hH.ok j _ hj).1;have hK:=(hH.ok j _ hj).2;have hlen:=tD.len
 have Me:Has N S st [.lst x s es]:=by
  refine⟨hH.ex,hH.hN,hH.ft,fun i e hi=>?_,fun i i' a b hii ha hb k tX iK=>?_⟩
  ·cases i with
   |zero=>simp only[List.getElem?_cons_zero,Option.some.injEq] at hi;subst hi;exact⟨he1,fun k hk=>hK k (.inl hk)⟩
   |succ i=>simp at hi
  ·cases i with
   |zero=>cases i' with
    |zero=>exact hii rfl
    |succ i'=>simp at hb
   |succ i=>simp at ha
 obtain⟨x',ae,q1,q2,q3⟩:=Me.append (j:=0) at0 hy h1 h2 h3 h4 h5 h6 h7 h8 (by omega) hw;refine⟨x',ae,q1,?_⟩;have hown:=q2.own (j:=0) at0
 have LZ:(∀k,k<st.bs.length→x.ref≠k+1→ae.bs[k]?=st.bs[k]?)∧st.bs.length≤ae.bs.length∧ae.flr=st.flr∧ae.ro=st.ro∧(∀k,x'.ref=k+1→x.ref=k+1∨st.bs.length≤k):=by
  have jr:=hy.row
  have Cd:∀e∈ys,e.length=s:=fun e he=>by
   obtain⟨i,hi⟩:=List.getElem?_of_mem he;exact hy.tK i e hi
  simp only[ba,gp,h1,h2,h3,Bool.false_eq_true,if_false,h4,h5,jr,Option.bind_some] at q1
  split at q1
  ·cases q1
  ·cases he1 with
   |nul=>
    simp only at q1
    split at q1
    ·cases q1;exact⟨fun _ _ _=>rfl,Nat.le_refl _,rfl,rfl,fun k hk=>.inl hk⟩
    ·split at q1
     ·cases q1;exact⟨fun k hk _=>by simp only[St.push];rw[List.getElem?_append_left hk],by simp[St.push],rfl,rfl,fun k hk=>.inr (by simp only[D.ref] at hk;omega)⟩
     ·cases q1
   |win k aq off es c hm hl hc he=>
    simp only[St.mem_of hm] at q1
    split at q1
    ·cases q1
    ·split at q1
     ·cases q1;exact⟨fun _ _ _=>rfl,Nat.le_refl _,rfl,rfl,fun k hk=>.inl hk⟩
     ·split at q1
      ·cases q1;exact⟨fun n hn hne=>by simp only;rw[List.getElem?_set_ne (fun e=>hne (by simp only[D.ref];omega))],by simp,rfl,rfl,fun n hn=>.inl (by simp only[D.ref] at hn⊢;exact hn)⟩
      ·cases q1
 obtain⟨c1,c2,c3,c4,c5⟩:=LZ;have KC:=(q2.ok 0 _ at0).2;have vC:∀k,ks k→ae.bs[k]?=st.bs[k]?:=fun k hk=>c1 k (hK k (.inr hk)).2 fun e=>he3 k e hk;refine hH.Dx hj (fun k hk hne=>c1 k hk fun e=>hne (.inl e)) c2 c3 c4 ⟨⟨es++ys,hown,?_⟩,fun k hk rS=>?_⟩ (fun k hk=>?_) fun k hk=>?_
 ·exact(tD.mono fun a b=>ck.mono fun c d=>ef.move vC).append (hd.mono fun a b=>ck.mono fun c d=>ef.move vC)
 ·rcases c5 k hk with h|h
  ·exact he3 k h rS
  ·have:=(hK k (.inr rS)).2;omega
 ·rcases hk with hk|hk
  ·rcases c5 k hk with h|h
   ·exact .inl (.inl h)
   ·exact .inr h
  ·exact .inl (.inr hk)
 ·rcases hk with hk|hk
  ·exact(KC k hk).2
  ·exact Nat.lt_of_lt_of_le (hK k (.inr hk)).2 c2
theorem EvO.oR {P:Pv} {ops:Array Oper} {rest:List Oper} {fr:Fr} {Q:Fr→St→Prop} {ty:TypeId} {pp:String} {a:Array Edge} {g:Option (Nat×Bool)} {dst:Nat} {j:Nat} {x y:D} {s:Nat} {ks:Nat→Prop} {vs ys Hn:List (List D)} {t1 t2 e:TypeId} {td:TypeDesc} {inf:TypeInfo} {z:List D} {xo yo:Operand} {aw:D→Fr} (hH:Has N S st H) (hg:au ops fr ⟨some dst,.call ⟨.builtin .append,#[xo,yo],#[t1,t2]⟩,ty,pp,a,g⟩=some true)
  (hx:fr.ev xo=x) (hy:fr.ev yo=y) (hj:H[j]?=some (.bR bb ks x s vs)) (jh:Rows st s y ys) (hd:ck (ck (ef bb st ks)) ys Hn)
  (h1:P.b9 t1=some (.slice e)) (h2:P.b9 t2=some td) (h3:fJ td=false) (h4:P.info e=some inf) (h5:cT P e=some z) (h6:inf.size=s) (h7:z.length=s) (h8:0<inf.bytes∧inf.bytes≤1024)
  (hp:∀x',fr.put dst x'=aw x') (hb:vs.length+ys.length≤1073741824) (hw:S.flr≤N∨refs ys.flatten=0)
  (h:∀x' ae,Has N S ae (H.set j (.bR bb ks x' s (vs++Hn)))→EvO P ops rest (aw x') ae Q):
  EvO P ops (⟨some dst,.call ⟨.builtin .append,#[xo,yo],#[t1,t2]⟩,ty,pp,a,g⟩::rest) fr st Q:=by
 obtain⟨x',ae,q1,q2⟩:=hH.oR hj jh hd h1 h2 h3 h4 h5 h6 h7 h8 hb hw;refine EvO.go hg rfl (d:=x') (st1:=ae) ?_ (hp _) (h x' ae q2);simp only[df,List.map_cons,List.map_nil,hx,hy];exact q1
theorem Has.vM {j:Nat} {x:D} {s:Nat} {ks:Nat→Prop} {vs:List (List D)} (hH:Has N S st H) (hj:H[j]?=some (.bR bb ks x s vs)) {n:Nat} (hn:4≤n):aO st N false (n+1) x=some (.sl (vs.map (ic s))):=by
 obtain⟨n,rfl⟩:∃m,n=m+4:=⟨n-4,by omega⟩
 obtain⟨⟨es,h1,h2⟩,h3⟩:=(hH.ok j _ hj).1;have hK:=(hH.ok j _ hj).2
 cases h1 with
 |nul=>cases h2;rfl
 |win k aq off es c hm hl hc he=>
  have hk:=hK k (.inl (by simp only[D.ref]));show(if k<N then some (D.win k aq off es.length s) else cH st N (n+4) (.win k aq off es.length s))=_;rw[if_neg (show¬k<N by omega),cH];simp only[if_neg (show¬k<N by omega),St.mem_of hm,Option.bind_some];rw[if_pos hl,hc,rM (fun a b hab=>hab.pure (fun k hk=>(hK k (.inr hk)).1) (n+1)) h2.flat];simp only[Option.map_some];rw[h2.len,eS (h2.each he)]
theorem Has.y_ {j:Nat} {x:D} {s:Nat} {es:List (List D)} (hH:Has N S st H) (hj:H[j]?=some (.lst x s es)) (hp:∀e∈es,∀d∈e,bS d=true) {n:Nat} (hn:3≤n):aO st N false n x=some (.sl (es.map (ic s))):=by
 obtain⟨n,rfl⟩:∃m,n=m+1:=⟨n-1,by omega⟩
 exact hH.freeze hj hp (by omega)
theorem gq.cells {s:Nat} {x:D} {es:List (List D)} (h:gq st s x es):x.cells?=some [x]:=by cases h<;>rfl
theorem Has.dcells {j:Nat} {x:D} {s:Nat} {ks:Nat→Prop} {vs:List (List D)} (hH:Has N S st H) (hj:H[j]?=some (.bR bb ks x s vs)):x.cells?=some [x]:=by
 obtain⟨⟨es,h1,_⟩,_⟩:=(hH.ok j _ hj).1;exact h1.cells
theorem Has.ocells {j:Nat} {x:D} {s:Nat} {es:List (List D)} (hH:Has N S st H) (hj:H[j]?=some (.lst x s es)):x.cells?=some [x]:=(hH.own hj).cells
theorem EvO.Ka {P:Pv} {ops:Array Oper} {rest:List Oper} {fr aw:Fr} {Q:Fr→St→Prop} {ty:TypeId} {pp:String} {a:Array Edge} {g:Option (Nat×Bool)} {dst:Nat} {t e:TypeId} {xo io:Operand} {x:D} {s i:Nat} {kk:IntKind} {es:List (List D)} {r:List D} (hg:au ops fr ⟨some dst,.indexAddr t xo io,ty,pp,a,g⟩=some true) (hx:fr.ev xo=x) (hi:fr.ev io=.int kk (i:Nat)) (hR:SlD x s es) (ht:P.b9 t=some (.slice e)) (hs:bN P e=some s) (hr:es[i]?=some r) (hp:fr.put dst (.ep r)=aw)
  (h:jz st (.ep r) r→EvO P ops rest aw st Q):EvO P ops (⟨some dst,.indexAddr t xo io,ty,pp,a,g⟩::rest) fr st Q:=by
 refine EvO.go hg rfl (d:=.ep r) (st1:=st) ?_ hp (h (.inr ⟨r,rfl,List.take_length ..⟩))
 rcases hR with⟨rfl,rfl⟩|⟨ds,rfl,rfl,hd⟩
 ·simp at hr
 ·rw[List.getElem?_map] at hr;obtain⟨d,rU,rfl⟩:=Option.map_eq_some_iff.1 hr;obtain⟨h1,h2⟩:=hd d (List.mem_of_getElem? rU);simp only[df,hx,hi,br,ht,hs,Option.bind_some,if_pos (show(0:Int)≤(i:Nat) by omega),Int.toNat_natCast,rU,h1,if_pos h2,Option.map_some]
def xI (fr:Fr):List (Nat×Operand)→List (Nat×D)→Prop
 |[],[]=>True
 |(i,o)::ps,(j,d)::qs=>i=j∧fr.ev o=d∧d.cells?=some [d]∧xI fr ps qs
 |_,_=>False
theorem rY {fr:Fr} {pl:Nat→Option (Nat×Nat)}:∀{ps:List (Nat×Operand)} {qs:List (Nat×D)} {z:List D},xI fr ps qs→(∀q∈qs,pl q.1=some (q.1,1)∧q.1<z.length)→ga pl z (ps.map fun p=>(p.1,fr.ev p.2))=some (qs.foldl (fun l q=>l.set q.1 q.2) z)
 |[],[],z,_,_=>rfl
 |(i,o)::ps,(j,d)::qs,z,h,hp=>by
  obtain⟨rfl,h2,h3,h4⟩:=h;obtain⟨h5,h6⟩:=hp (i,d) (List.mem_cons_self ..);simp only[List.map_cons,ga,h2,h3,h5,List.foldl_cons];rw[if_neg (by simp only[List.length_cons,List.length_nil];simp only at h6;omega)];simp only[setMany]
  exact rY h4 fun q hq=>by
   have:=hp q (List.mem_cons_of_mem _ hq)
   simpa using this
 |[],_::_,_,h,_=>h.elim
 |_::_,[],_,h,_=>h.elim
theorem EvO.c9 {P:Pv} {ops:Array Oper} {rest:List Oper} {fr aw:Fr} {Q:Fr→St→Prop} {ty:TypeId} {pp:String} {a:Array Edge} {g:Option (Nat×Bool)} {dst:Nat} {t:TypeId} {parts:Array (Nat×Operand)} {z cs:List D} {fields:Array Field} {ps:List (Nat×Nat)} {qs:List (Nat×D)} (hg:au ops fr ⟨some dst,.build t parts,ty,pp,a,g⟩=some true) (hz:cT P t=some z) (hu:P.b9 t=some (.struct fields)) (AW:kv P fields.toList=some ps) (he:xI fr parts.toList qs) (hpl:∀q∈qs,ps[q.1]?=some (q.1,1)∧q.1<z.length) (jk:qs.foldl (fun l q=>l.set q.1 q.2) z=cs) (hp:fr.put dst (.agg cs)=aw)
  (h:EvO P ops rest aw st Q):EvO P ops (⟨some dst,.build t parts,ty,pp,a,g⟩::rest) fr st Q:=by
 refine EvO.go hg rfl (d:=.agg cs) (st1:=st) ?_ hp h;simp only[df,tP,hz,hu,AW];rw[rY (pl:=fun i=>ps[i]?) he hpl,jk];rfl
theorem Has.Br {P:Pv} {fr:Fr} {a k aq off j u:Nat} {t:TypeId} {ar:Bool} {c:List D} {d e:D} (hH:Has N S st H) (ha:fr.get a=.ptr k aq off) (hj:H[j]?=some (.box k (.mem aq ar c))) (hd:cP P t (c.drop off)=some d) (he:fr.get u=e):iR P fr st [.cell a t,.tmp u]=some [d,e]:=by
 simp only[iR,eW,ha,St.mem_of (hH.at hj),Option.bind_some,hd,Option.map_some,he]
theorem EvO.Ja {P:Pv} {ops:Array Oper} {rest:List Oper} {fr aw:Fr} {Q:Fr→St→Prop} {ty:TypeId} {pp:String} {a:Array Edge} {g:Option (Nat×Bool)} {dst:Nat} {t e:TypeId} {xo io:Operand} {k v off m s o:Nat} {kk:IntKind} {i:Nat} (hg:au ops fr ⟨some dst,.indexAddr t xo io,ty,pp,a,g⟩=some true) (hx:fr.ev xo=.ptr k v off) (hi:fr.ev io=.int kk (i:Nat)) (ht:P.b9 t=some (.array m e)) (hs:bN P e=some s) (hlt:i<m) (ho:off+i*s=o) (hp:fr.put dst (.ptr k v o)=aw)
  (h:EvO P ops rest aw st Q):EvO P ops (⟨some dst,.indexAddr t xo io,ty,pp,a,g⟩::rest) fr st Q:=by
 subst ho;refine EvO.go hg rfl (d:=.ptr k v (off+i*s)) (st1:=st) ?_ hp h;simp only[df,hx,hi,br,ht,hs,Option.bind_some];rw[if_pos ⟨by omega,by omega⟩];rfl
theorem qG.mono {st:St} {ks EI:Nat→Prop} (h:∀k,ks k→EI k) {d v:D} (p:qG st ks d v):qG st EI d v:=ef.mono h p
theorem qG.move {st ae:St} {ks:Nat→Prop} (h:∀k,ks k→ae.bs[k]?=st.bs[k]?) {d v:D} (p:qG st ks d v):qG ae ks d v:=ef.move h p
end Go.V
namespace Go.V
variable{P:Pv} {ops:Array Oper} {rest:List Oper} {fr aw:Fr} {st st1:St} {Q:Fr→St→Prop} {ty:TypeId} {pp:String} {a:Array Edge} {g:Option (Nat×Bool)} {dst:Nat} {N:Nat} {S:St} {H:List bG} {d:D} {op:Op}
theorem qm {op:Op} {x:Operand} {d:D} (h:EvO P ops rest aw st Q) (fX:op=.move x∨op=.assign x:=by first|exact .inl rfl|exact .inr rfl) (hg:au ops fr ⟨some dst,op,ty,pp,a,g⟩=some true:=by exact rfl) (hx:fr.ev x=d:=by exact ev rfl) (hp:fr.put dst d=aw:=by first|exact put_T rfl _|(dsimp only[Fr.put,List.set_cons_succ,List.set_cons_zero]<;>rfl)):EvO P ops (⟨some dst,op,ty,pp,a,g⟩::rest) fr st Q:=
 EvO.mv (fX:=fX) (hg:=hg) (hx:=hx) (hp:=hp) (h:=h)
theorem qs {op:Op} (h:EvO P ops rest aw st Q) (hg:au ops fr ⟨some dst,op,ty,pp,a,g⟩=some false:=by exact rfl) (hp:fr.put dst (.tup [])=aw:=by first|exact put_T rfl _|(dsimp only[Fr.put,List.set_cons_succ,List.set_cons_zero]<;>rfl)):EvO P ops (⟨some dst,op,ty,pp,a,g⟩::rest) fr st Q:=
 EvO.skip (hg:=hg) (hp:=hp) (h:=h)
theorem qp {t:TypeId} {xo:Operand} {k aq off o f fo m:Nat} {fields:Array Field} (h:EvO P ops rest aw st Q) (hg:au ops fr ⟨some dst,.fieldAddr t xo f,ty,pp,a,g⟩=some true:=by exact rfl) (hx:fr.ev xo=.ptr k aq off:=by exact ev rfl) (ht:P.b9 t=some (.struct fields):=by exact rfl) (hf:j8 P fields f=some (fo,some (m+1)):=by exact rfl) (ho:off+fo=o:=by exact rfl) (hp:fr.put dst (.ptr k aq o)=aw:=by first|exact put_T rfl _|(dsimp only[Fr.put,List.set_cons_succ,List.set_cons_zero]<;>rfl)):EvO P ops (⟨some dst,.fieldAddr t xo f,ty,pp,a,g⟩::rest) fr st Q:=
 EvO.BE (hg:=hg) (hx:=hx) (ht:=ht) (hf:=hf) (ho:=ho) (hp:=hp) (h:=h)
theorem ql {j k aq off:Nat} {ar:Bool} {c:List D} {d:D} {t:TypeId} {ao:Operand} (hH:Has N S st H) (hj:H[j]?=some (.box k (.mem aq ar c))) (h:EvO P ops rest aw st Q) (hg:au ops fr ⟨some dst,.load t ao,ty,pp,a,g⟩=some true:=by exact rfl) (ha:fr.ev ao=.ptr k aq off:=by exact ev rfl) (hd:cP P t (c.drop off)=some d:=by exact rfl) (hp:fr.put dst d=aw:=by first|exact put_T rfl _|(dsimp only[Fr.put,List.set_cons_succ,List.set_cons_zero]<;>rfl)):EvO P ops (⟨some dst,.load t ao,ty,pp,a,g⟩::rest) fr st Q:=
 EvO.hload (hH:=hH) (hg:=hg) (ha:=ha) (hj:=hj) (hd:=hd) (hp:=hp) (h:=h)
theorem qg {op:Op} {d:D} {st1:St} (h:EvO P ops rest aw st1 Q) (hg:au ops fr ⟨some dst,op,ty,pp,a,g⟩=some true:=by exact rfl) (hc:gA op=false:=by exact rfl) (h1:df P fr st op ty=some (d,st1):=by exact rfl) (hp:fr.put dst d=aw:=by first|exact put_T rfl _|(dsimp only[Fr.put,List.set_cons_succ,List.set_cons_zero]<;>rfl)):EvO P ops (⟨some dst,op,ty,pp,a,g⟩::rest) fr st Q:=
 EvO.go (hg:=hg) (hc:=hc) (h1:=h1) (hp:=hp) (h:=h)
theorem qn {t e:TypeId} {xo:Operand} {x:D} {s:Nat} {es:List (List D)} (h:EvO P ops rest aw st Q) (hg:au ops fr ⟨some dst,.call ⟨.builtin .len,#[xo],#[t]⟩,ty,pp,a,g⟩=some true:=by exact rfl) (hx:fr.ev xo=x:=by exact ev rfl) (hR:Rows st s x es:=by exact Arg.rows (by assumption) (by assumption)) (ht:P.b9 t=some (.slice e):=by exact rfl) (hp:fr.put dst (.int .i64 (es.length:Nat))=aw:=by first|exact put_T rfl _|(dsimp only[Fr.put,List.set_cons_succ,List.set_cons_zero]<;>rfl)):EvO P ops (⟨some dst,.call ⟨.builtin .len,#[xo],#[t]⟩,ty,pp,a,g⟩::rest) fr st Q:=
 EvO.rlen (hg:=hg) (hx:=hx) (hR:=hR) (ht:=ht) (hp:=hp) (h:=h)
theorem qr {t e:TypeId} {xo io:Operand} {x:D} {s i:Nat} {kk:IntKind} {es:List (List D)} {r:List D} {aw:D→Fr} (h:∀p,jz st p r→EvO P ops rest (aw p) st Q) (hg:au ops fr ⟨some dst,.indexAddr t xo io,ty,pp,a,g⟩=some true:=by exact rfl) (hx:fr.ev xo=x:=by exact ev rfl) (hi:fr.ev io=.int kk (i:Nat):=by exact ev rfl) (hR:Rows st s x es:=by exact Arg.rows (by assumption) (by assumption)) (ht:P.b9 t=some (.slice e):=by exact rfl) (hs:bN P e=some s:=by exact rfl) (hr:es[i]?=some r:=by assumption) (hp:∀p,fr.put dst p=aw p:=by first|exact fun _=>put_T rfl _|exact fun _=>by dsimp only[Fr.put,List.set_cons_succ,List.set_cons_zero]<;>rfl):EvO P ops (⟨some dst,.indexAddr t xo io,ty,pp,a,g⟩::rest) fr st Q:=
 EvO.ridx (hg:=hg) (hx:=hx) (hi:=hi) (hR:=hR) (ht:=ht) (hs:=hs) (hr:=hr) (hp:=hp) (h:=h)
theorem qR {t:TypeId} {ao:Operand} {x d:D} {r:List D} (h:EvO P ops rest aw st Q) (hg:au ops fr ⟨some dst,.load t ao,ty,pp,a,g⟩=some true:=by exact rfl) (ha:fr.ev ao=x:=by exact ev rfl) (hR:jz st x r:=by assumption) (hd:cP P t r=some d:=by exact rfl) (hp:fr.put dst d=aw:=by first|exact put_T rfl _|(dsimp only[Fr.put,List.set_cons_succ,List.set_cons_zero]<;>rfl)):EvO P ops (⟨some dst,.load t ao,ty,pp,a,g⟩::rest) fr st Q:=
 EvO.rload (hg:=hg) (ha:=ha) (hR:=hR) (hd:=hd) (hp:=hp) (h:=h)
theorem qf {t:TypeId} {xo:Operand} {x:D} {r:List D} {f fo m:Nat} {fields:Array Field} {aw:D→Fr} (h:∀p,jz st p (r.drop fo)→EvO P ops rest (aw p) st Q) (hg:au ops fr ⟨some dst,.fieldAddr t xo f,ty,pp,a,g⟩=some true:=by exact rfl) (hx:fr.ev xo=x:=by exact ev rfl) (hR:jz st x r:=by assumption) (ht:P.b9 t=some (.struct fields):=by exact rfl) (hf:j8 P fields f=some (fo,some (m+1)):=by exact rfl) (hp:∀p,fr.put dst p=aw p:=by first|exact fun _=>put_T rfl _|exact fun _=>by dsimp only[Fr.put,List.set_cons_succ,List.set_cons_zero]<;>rfl):EvO P ops (⟨some dst,.fieldAddr t xo f,ty,pp,a,g⟩::rest) fr st Q:=
 EvO.DJ (hg:=hg) (hx:=hx) (hR:=hR) (ht:=ht) (hf:=hf) (hp:=hp) (h:=h)
theorem qi {t e:TypeId} {xo io:Operand} {x:D} {s i j:Nat} {kk:IntKind} {es:List (List D)} {aw:D→Fr} (hH:Has N S st H) (hj:H[j]?=some (.lst x s es)) (h:∀p,nJ x s i 0 p→EvO P ops rest (aw p) st Q) (hg:au ops fr ⟨some dst,.indexAddr t xo io,ty,pp,a,g⟩=some true:=by exact rfl) (hx:fr.ev xo=x:=by exact ev rfl) (hi:fr.ev io=.int kk (i:Nat):=by exact ev rfl) (ht:P.b9 t=some (.slice e):=by exact rfl) (hs:bN P e=some s:=by exact rfl) (hr:i<es.length:=by exact lt_get (by assumption)) (hp:∀p,fr.put dst p=aw p:=by first|exact fun _=>put_T rfl _|exact fun _=>by dsimp only[Fr.put,List.set_cons_succ,List.set_cons_zero]<;>rfl):EvO P ops (⟨some dst,.indexAddr t xo io,ty,pp,a,g⟩::rest) fr st Q:=
 EvO.oidx (hH:=hH) (hg:=hg) (hx:=hx) (hi:=hi) (hj:=hj) (ht:=ht) (hs:=hs) (hr:=hr) (hp:=hp) (h:=h)
theorem qo {t:TypeId} {ao:Operand} {x y d:D} {s i o j:Nat} {es:List (List D)} {r:List D} (hH:Has N S st H) (hj:H[j]?=some (.lst x s es)) (h:EvO P ops rest aw st Q) (hg:au ops fr ⟨some dst,.load t ao,ty,pp,a,g⟩=some true:=by exact rfl) (ha:fr.ev ao=y:=by exact ev rfl) (hR:nJ x s i o y:=by assumption) (hr:es[i]?=some r:=by assumption) (hd:cP P t (r.drop o)=some d:=by exact rfl) (hp:fr.put dst d=aw:=by first|exact put_T rfl _|(dsimp only[Fr.put,List.set_cons_succ,List.set_cons_zero]<;>rfl)):EvO P ops (⟨some dst,.load t ao,ty,pp,a,g⟩::rest) fr st Q:=
 EvO.oload (hH:=hH) (hg:=hg) (ha:=ha) (hR:=hR) (hj:=hj) (hr:=hr) (hd:=hd) (hp:=hp) (h:=h)
theorem qS {j k aq:Nat} {ar:Bool} {c cs:List D} {v:D} {t:TypeId} {ao vo:Operand} (hH:Has N S st H) (hj:H[j]?=some (.box k (.mem aq ar c))) (h:∀ae,Has N S ae (H.set j (.box k (.mem aq ar cs)))→EvO P ops rest fr ae Q) (hg:au ops fr ⟨none,.store t ao vo,ty,pp,a,g⟩=some true:=by exact rfl) (ha:fr.ev ao=.ptr k aq 0:=by exact ev rfl) (hv:fr.ev vo=v:=by exact ev rfl) (jk:v.cells?=some cs:=by first|rfl|exact(SlD.cells (by assumption)).1) (hs:bN P t=some cs.length:=by exact rfl) (hl:cs.length=c.length:=by exact rfl) (hw:S.flr≤N∨refs cs=0:=by first|exact .inl (by assumption)|exact .inr rfl):EvO P ops (⟨none,.store t ao vo,ty,pp,a,g⟩::rest) fr st Q:=
 EvO.hstoreA (hH:=hH) (hg:=hg) (ha:=ha) (hv:=hv) (jk:=jk) (hs:=hs) (hj:=hj) (hl:=hl) (hw:=hw) (h:=h)
theorem qT {j k aq off:Nat} {ar:Bool} {c cs:List D} {v:D} {t:TypeId} {ao vo:Operand} (hH:Has N S st H) (hj:H[j]?=some (.box k (.mem aq ar c))) (h:∀ae,Has N S ae (H.set j (.box k (.mem aq ar (setMany c off cs))))→EvO P ops rest fr ae Q) (hg:au ops fr ⟨none,.store t ao vo,ty,pp,a,g⟩=some true:=by exact rfl) (ha:fr.ev ao=.ptr k aq off:=by exact ev rfl) (hv:fr.ev vo=v:=by exact ev rfl) (jk:v.cells?=some cs:=by first|rfl|exact(SlD.cells (by assumption)).1) (hs:bN P t=some cs.length:=by exact rfl) (hl:off+cs.length≤c.length:=by exact Nat.le_of_ble_eq_true rfl) (hw:S.flr≤N∨refs cs=0:=by first|exact .inl (by assumption)|exact .inr rfl):EvO P ops (⟨none,.store t ao vo,ty,pp,a,g⟩::rest) fr st Q:=
 EvO.pL (hH:=hH) (hg:=hg) (ha:=ha) (hv:=hv) (jk:=jk) (hs:=hs) (hj:=hj) (hl:=hl) (hw:=hw) (h:=h)
theorem qa {e:TypeId} {cs:List D} {aw:Nat→Fr} (hH:Has N S st H) (h:∀k ae,S.bs.length≤k→Has N S ae (.box k (.mem 0 false cs)::H)→EvO P ops rest (aw k) ae Q) (hg:au ops fr ⟨some dst,.alloc e,ty,pp,a,g⟩=some true:=by exact rfl) (hz:cT P e=some cs:=by exact rfl) (hp:∀k,fr.put dst (.ptr k 0 0)=aw k:=by first|exact fun _=>put_T rfl _|exact fun _=>by dsimp only[Fr.put,List.set_cons_succ,List.set_cons_zero]<;>rfl):EvO P ops (⟨some dst,.alloc e,ty,pp,a,g⟩::rest) fr st Q:=
 EvO.halloc (hH:=hH) (hg:=hg) (hz:=hz) (hp:=hp) (h:=h)
theorem qb {e:TypeId} {xo:Operand} {cs:List D} {aw:Nat→Fr} (hH:Has N S st H) (h:∀k ae,S.bs.length≤k→Has N S ae (.box k (.mem 0 false cs)::H)→EvO P ops rest (aw k) ae Q) (hg:au ops fr ⟨some dst,.box e xo,ty,pp,a,g⟩=some true:=by exact rfl) (hz:(fr.ev xo).cells?=some cs:=by exact rfl) (hp:∀k,fr.put dst (.ptr k 0 0)=aw k:=by first|exact fun _=>put_T rfl _|exact fun _=>by dsimp only[Fr.put,List.set_cons_succ,List.set_cons_zero]<;>rfl):EvO P ops (⟨some dst,.box e xo,ty,pp,a,g⟩::rest) fr st Q:=
 EvO.Ar (hH:=hH) (hg:=hg) (hz:=hz) (hp:=hp) (h:=h)
theorem qA {t jE:TypeId} {xo yo:Operand} {x y:Int} (h:EvO P ops rest aw st Q) (hg:au ops fr ⟨some dst,.binOp .add t xo yo jE,ty,pp,a,g⟩=some true:=by exact rfl) (hx:fr.ev xo=.int .i64 x:=by exact ev rfl) (hy:fr.ev yo=.int .i64 y:=by exact ev rfl) (h1:-9223372036854775808≤x+y:=by omega) (h2:x+y≤9223372036854775807:=by omega) (hp:fr.put dst (.int .i64 (x+y))=aw:=by first|exact put_T rfl _|(dsimp only[Fr.put,List.set_cons_succ,List.set_cons_zero]<;>rfl)):EvO P ops (⟨some dst,.binOp .add t xo yo jE,ty,pp,a,g⟩::rest) fr st Q:=
 EvO.addS64 (hg:=hg) (hx:=hx) (hy:=hy) (h1:=h1) (h2:=h2) (hp:=hp) (h:=h)
theorem qP {j:Nat} {x y:D} {s:Nat} {es ys:List (List D)} {t1 t2 e:TypeId} {td:TypeDesc} {inf:TypeInfo} {z:List D} {xo yo:Operand} {aw:D→Fr} (hH:Has N S st H) (hj:H[j]?=some (.lst x s es)) (jh:Rows st s y ys) (h:∀x' ae,Has N S ae (H.set j (.lst x' s (es++ys)))→EvO P ops rest (aw x') ae Q) (hg:au ops fr ⟨some dst,.call ⟨.builtin .append,#[xo,yo],#[t1,t2]⟩,ty,pp,a,g⟩=some true:=by exact rfl) (hx:fr.ev xo=x:=by exact ev rfl) (hy:fr.ev yo=y:=by exact ev rfl) (h1:P.b9 t1=some (.slice e):=by exact rfl) (h2:P.b9 t2=some td:=by exact rfl) (h3:fJ td=false:=by exact rfl) (h4:P.info e=some inf:=by exact rfl) (h5:cT P e=some z:=by exact rfl) (h6:inf.size=s:=by exact rfl) (h7:z.length=s:=by exact rfl) (h8:0<inf.bytes∧inf.bytes≤1024:=by exact⟨Nat.le_of_ble_eq_true rfl,Nat.le_of_ble_eq_true rfl⟩) (hp:∀x',fr.put dst x'=aw x':=by first|exact fun _=>put_T rfl _|exact fun _=>by dsimp only[Fr.put,List.set_cons_succ,List.set_cons_zero]<;>rfl) (hb:es.length+ys.length≤1073741824:=by first|omega|(simp only[List.length_append,List.length_cons,List.length_nil,List.length_map,List.length_replicate,List.length_set,List.length_reverse]<;>omega)) (hw:S.flr≤N∨refs ys.flatten=0:=by first|exact .inl (by assumption)|exact .inr rfl):EvO P ops (⟨some dst,.call ⟨.builtin .append,#[xo,yo],#[t1,t2]⟩,ty,pp,a,g⟩::rest) fr st Q:=
 EvO.happend (hH:=hH) (hg:=hg) (hx:=hx) (hy:=hy) (hj:=hj) (jh:=jh) (h1:=h1) (h2:=h2) (h3:=h3) (h4:=h4) (h5:=h5) (h6:=h6) (h7:=h7) (h8:=h8) (hp:=hp) (hb:=hb) (hw:=hw) (h:=h)
theorem qh {t e:TypeId} {m s:Nat} {parts:Array (Nat×Operand)} {z:List D} {vs:List D} {aw:Nat→Fr} (hH:Has N S st H) (h:∀k ae,S.bs.length≤k→Has N S ae (.lst (.win k 0 0 m s) s (vs.map D.cells)::H)→EvO P ops rest (aw k) ae Q) (hg:au ops fr ⟨some dst,.buildSlice t m parts,ty,pp,a,g⟩=some true:=by exact rfl) (ht:P.b9 t=some (.slice e):=by exact rfl) (hs:bN P e=some s:=by exact rfl) (hz:cT P e=some z:=by exact rfl) (k_:z.length=s:=by exact rfl) (hm:m*s≤16777216:=by exact Nat.le_of_ble_eq_true rfl) (JK:zc fr 0 parts.toList vs:=by first|exact⟨rfl,ev rfl,trivial⟩|exact⟨rfl,ev rfl,rfl,ev rfl,trivial⟩|exact⟨rfl,ev rfl,rfl,ev rfl,rfl,ev rfl,trivial⟩|exact⟨rfl,ev rfl,rfl,ev rfl,rfl,ev rfl,rfl,ev rfl,trivial⟩|exact⟨rfl,ev rfl,rfl,ev rfl,rfl,ev rfl,rfl,ev rfl,rfl,ev rfl,trivial⟩) (H0:vs.length=m:=by exact rfl) (hc:∀v∈vs,v.cells?=some v.cells∧v.cells.length=s:=by intro v hv;simp only[List.mem_cons,List.not_mem_nil,or_false] at hv;first|(subst hv;exact⟨rfl,rfl⟩)|(rcases hv with rfl|rfl<;>exact⟨rfl,rfl⟩)|(rcases hv with rfl|rfl|rfl<;>exact⟨rfl,rfl⟩)|(rcases hv with rfl|rfl|rfl|rfl<;>exact⟨rfl,rfl⟩)|(rcases hv with rfl|rfl|rfl|rfl|rfl<;>exact⟨rfl,rfl⟩)) (hp:∀k,fr.put dst (.win k 0 0 m s)=aw k:=by first|exact fun _=>put_T rfl _|exact fun _=>by dsimp only[Fr.put,List.set_cons_succ,List.set_cons_zero]<;>rfl):EvO P ops (⟨some dst,.buildSlice t m parts,ty,pp,a,g⟩::rest) fr st Q:=
 EvO.hlist (hH:=hH) (hg:=hg) (ht:=ht) (hs:=hs) (hz:=hz) (k_:=k_) (hm:=hm) (JK:=JK) (H0:=H0) (hc:=hc) (hp:=hp) (h:=h)
theorem qv {f:Operand} {gn:Nat} {gm:List D} {args:Array Operand} {rp:Array TypeId} {d:D} {st1:St} (h1:Ev P gn (args.toList.map fr.ev++gm) st d st1) (h:EvO P ops rest aw st1 Q) (hg:au ops fr ⟨some dst,.call ⟨.value f,args,rp⟩,ty,pp,a,g⟩=some true:=by exact rfl) (hf:fr.ev f=.fn gn gm:=by exact rfl) (hp:fr.put dst d=aw:=by first|exact put_T rfl _|(dsimp only[Fr.put,List.set_cons_succ,List.set_cons_zero]<;>rfl)):EvO P ops (⟨some dst,.call ⟨.value f,args,rp⟩,ty,pp,a,g⟩::rest) fr st Q:=
 EvO.hcall (hg:=hg) (hf:=hf) (h1:=h1) (hp:=hp) (h:=h)
theorem qt {c x y:Operand} {v:Bool} (hv:v=true) (h:EvO P ops rest aw st Q) (hg:au ops fr ⟨some dst,.pick c x y,ty,pp,a,g⟩=some true:=by exact rfl) (hc:fr.ev c=.bool v:=by exact rfl) (hp:fr.put dst (fr.ev x)=aw:=by first|exact put_T rfl _|(dsimp only[Fr.put,List.set_cons_succ,List.set_cons_zero]<;>rfl)):EvO P ops (⟨some dst,.pick c x y,ty,pp,a,g⟩::rest) fr st Q:=
 EvO.pickT (hg:=hg) (hc:=hc) (hv:=hv) (hp:=hp) (h:=h)
theorem qu {c x y:Operand} {v:Bool} (hv:v=false) (h:EvO P ops rest aw st Q) (hg:au ops fr ⟨some dst,.pick c x y,ty,pp,a,g⟩=some true:=by exact rfl) (hc:fr.ev c=.bool v:=by exact rfl) (hp:fr.put dst (fr.ev y)=aw:=by first|exact put_T rfl _|(dsimp only[Fr.put,List.set_cons_succ,List.set_cons_zero]<;>rfl)):EvO P ops (⟨some dst,.pick c x y,ty,pp,a,g⟩::rest) fr st Q:=
 EvO.pickF (hg:=hg) (hc:=hc) (hv:=hv) (hp:=hp) (h:=h)
theorem wi {ops:Array Oper} {fr:Fr} {o:Oper} {j t:Nat} {w v:Bool} (h4:v=w) (h1:o.guard=some (j,w):=by exact rfl) (h2:(ops[j]?).bind (·.dst)=some t:=by exact rfl) (h3:fr.get t=.bool v:=by exact rfl):au ops fr o=some true:=wantD_is h1 h2 h3 h4
theorem wn {ops:Array Oper} {fr:Fr} {o:Oper} {j t:Nat} {w v:Bool} (h4:v=!w) (h1:o.guard=some (j,w):=by exact rfl) (h2:(ops[j]?).bind (·.dst)=some t:=by exact rfl) (h3:fr.get t=.bool v:=by exact rfl):au ops fr o=some false:=wantD_not h1 h2 h3 h4
theorem qc {dy:Dy} {c:Operand} {a b:Code} {v:Bool} {Q:Out→Fr→St→Prop} (h1:v=true→EvC P dy a fr st Q) (h2:v=false→EvC P dy b fr st Q) (hv:fr.ev c=.bool v:=by first|rfl|assumption):EvC P dy (.cond c a b) fr st Q:=EvC.cond hv h1 h2
theorem qq {dy:Dy} {a b:Code} {Q:Out→Fr→St→Prop} (h:EvC P dy a fr st (SeqQ P dy b Q)):EvC P dy (.seq a b) fr st Q:=EvC.seq h
theorem qj {dy:Dy} {i:Nat} {l:List Oper} {d:Bool} {n:Nat} {loc:List D} {tmp:List (Nat×D)} {Q:Out→Fr→St→Prop} (h:∀K:Out→Fr→St→Prop,Q=K→EvO P l.toArray l ⟨n,loc,[]⟩ st (K .next)) (h0:fH i dy=[]:=by rfl):EvC P dy (.region i l.toArray d) ⟨n,loc,tmp⟩ st Q:=EvC.reg (h Q rfl) h0
theorem qe {Q K:Out→Fr→St→Prop} (hK:Q=K) (h:Q .next fr st):EvO P ops [] fr st (K .next):=EvO.nil (hK▸h)
theorem qB {dy:Dy} {c:Operand} {a b:Code} {Q:Out→Fr→St→Prop} (h1:EvC P dy a fr st Q) (hv:fr.ev c=.bool true:=by first|rfl|assumption):EvC P dy (.cond c a b) fr st Q:=EvC.cond hv (fun _=>h1) (fun h=>by cases h)
theorem qC {dy:Dy} {c:Operand} {a b:Code} {Q:Out→Fr→St→Prop} (h1:EvC P dy b fr st Q) (hv:fr.ev c=.bool false:=by first|rfl|assumption):EvC P dy (.cond c a b) fr st Q:=EvC.cond hv (fun h=>by cases h) (fun _=>h1)
theorem qD {dy:Dy} {c:Operand} {a b:Code} {v:Bool} {Q:Out→Fr→St→Prop} (hv:fr.ev c=.bool v) (hb:v=true) (h1:EvC P dy a fr st Q):EvC P dy (.cond c a b) fr st Q:=EvC.cond hv (fun _=>h1) (fun h=>by rw[hb] at h;cases h)
theorem qE {dy:Dy} {c:Operand} {a b:Code} {v:Bool} {Q:Out→Fr→St→Prop} (hv:fr.ev c=.bool v) (hb:v=false) (h1:EvC P dy b fr st Q):EvC P dy (.cond c a b) fr st Q:=EvC.cond hv (fun h=>by rw[hb] at h;cases h) (fun _=>h1)
theorem rx:∀i:Nat,Out.ret≠Out.exit i:=fun i h=>by cases h
theorem rl {S:St} {H:List bG} {kn:Bool} {st1:St} {d d':D} (hS:S.bs=st.bs) (hH:Has st.bs.length S st1 H) (hd:aO st1 st.bs.length kn 16 d=some d'):b8 .ro kn st st1 d=some (d',st):=leave_ro (by simp) hS hH hd
theorem ri (s0:St):(enterSt .ro s0).bs=s0.bs∧(enterSt .ro s0).flr≤s0.bs.length∧Has s0.bs.length (enterSt .ro s0) (enterSt .ro s0) []:=⟨rfl,Nat.le_refl _,Has.start (Nat.le_refl _) (Nat.le_refl _)⟩
theorem w1 {α:Type} {n:Nat} {a:α}:List.replicate (n+1) a=a::List.replicate n a:=rfl
theorem w2 {α:Type} {a:α}:List.replicate 0 a=[]:=rfl
theorem qy {dy:Dy} {a:Code} {Q:Out→Fr→St→Prop} (h:EvC P dy a fr st Q):EvC P dy a fr st Q:=h
theorem u1 {α:Type} {x:α} {l:List α} {n:Nat} {a:α}:(x::l).set (n+1) a=x::l.set n a:=rfl
theorem u2 {α:Type} {x:α} {l:List α} {a:α}:(x::l).set 0 a=a::l:=rfl
theorem u3 {α:Type} {x:α} {l m:List α}:(x::l)++m=x::(l++m):=rfl
theorem u4 {α:Type} {m:List α}:([]:List α)++m=m:=rfl
theorem u5 {α β:Type} {f:α→β} {x:α} {l:List α}:(x::l).map f=f x::l.map f:=rfl
theorem u6 {α β:Type} {f:α→β}:([]:List α).map f=[]:=rfl
theorem v1 (k:IntKind) (n:Int):fc (.int k n)=.int k n:=rfl
theorem v2 (b:Bool):fc (.bool b)=.bool b:=rfl
theorem v3 (s:ByteArray):fc (.string s)=.str s.data.toList:=rfl
theorem v4:fc (.slice none 0 0)=.nul:=rfl
theorem v5:fc (.pointer none)=.pnil:=rfl
theorem v6:fc .nilFunc=.nilfn:=rfl
theorem v7:fc .nilIface=.nilif:=rfl
theorem cs:(∀(p:Prop) [Decidable p],(decide p=true)=p)∧(∀(p:Prop) [Decidable p],(decide p=false)=¬p)∧(∀(α:Type) [BEq α] [LawfulBEq α] (a b:α),((a==b)=true)=(a=b))∧(∀(α:Type) [BEq α] [LawfulBEq α] (a b:α),((a==b)=false)=¬a=b)∧(∀(α:Type) [BEq α] [LawfulBEq α] (a b:α),((a !=b)=true)=¬a=b)∧(∀(α:Type) [BEq α] [LawfulBEq α] (a b:α),((a !=b)=false)=(a=b))∧(∀b:Bool,((!b)=true)=(b=false))∧(∀b:Bool,((!b)=false)=(b=true))∧(∀b:Bool,(¬b=true)=(b=false))∧(∀b:Bool,(¬b=false)=(b=true)):=by
 refine⟨fun p _=>by simp,fun p _=>by simp,fun α _ _ a b=>by simp,fun α _ _ a b=>by simp,fun α _ _ a b=>by simp,fun α _ _ a b=>by simp,fun b=>by simp,fun b=>by simp,fun b=>by simp,fun b=>by simp⟩
theorem xT {n t:Nat} {loc:List D} {tmp:List (Nat×D)} (h:EvO P ops rest ⟨n,loc,(t,d)::tmp⟩ st1 Q) (hb:Nat.ble n t=true:=by exact rfl) (hg:au ops ⟨n,loc,tmp⟩ ⟨some t,op,ty,pp,a,g⟩=some true:=by exact rfl) (hc:gA op=false:=by exact rfl) (h1:df P ⟨n,loc,tmp⟩ st op ty=some (d,st1):=by exact rfl):EvO P ops (⟨some t,op,ty,pp,a,g⟩::rest) ⟨n,loc,tmp⟩ st Q:=EvO.T hb hg hc h1 h
theorem xL {n t:Nat} {loc:List D} {tmp:List (Nat×D)} (h:EvO P ops rest ⟨n,loc.set t d,tmp⟩ st1 Q) (hb:Nat.ble n t=false:=by exact rfl) (hg:au ops ⟨n,loc,tmp⟩ ⟨some t,op,ty,pp,a,g⟩=some true:=by exact rfl) (hc:gA op=false:=by exact rfl) (h1:df P ⟨n,loc,tmp⟩ st op ty=some (d,st1):=by exact rfl):EvO P ops (⟨some t,op,ty,pp,a,g⟩::rest) ⟨n,loc,tmp⟩ st Q:=EvO.L hb hg hc h1 h
theorem xN (h:EvO P ops rest fr st1 Q) (hg:au ops fr ⟨none,op,ty,pp,a,g⟩=some true:=by exact rfl) (hc:gA op=false:=by exact rfl) (h1:df P fr st op ty=some (d,st1):=by exact rfl):EvO P ops (⟨none,op,ty,pp,a,g⟩::rest) fr st Q:=EvO.N hg hc h1 h
theorem xo {n t:Nat} {loc:List D} {tmp:List (Nat×D)} (h:EvO P ops rest ⟨n,loc,(t,.tup [])::tmp⟩ st Q) (hb:Nat.ble n t=true:=by exact rfl) (hg:au ops ⟨n,loc,tmp⟩ ⟨some t,op,ty,pp,a,g⟩=some false:=by exact rfl):EvO P ops (⟨some t,op,ty,pp,a,g⟩::rest) ⟨n,loc,tmp⟩ st Q:=EvO.Kl hb hg h
theorem xp {n t:Nat} {loc:List D} {tmp:List (Nat×D)} (h:EvO P ops rest ⟨n,loc.set t (.tup []),tmp⟩ st Q) (hb:Nat.ble n t=false:=by exact rfl) (hg:au ops ⟨n,loc,tmp⟩ ⟨some t,op,ty,pp,a,g⟩=some false:=by exact rfl):EvO P ops (⟨some t,op,ty,pp,a,g⟩::rest) ⟨n,loc,tmp⟩ st Q:=EvO.Km hb hg h
end Go.V
