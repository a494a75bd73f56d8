/-
 Functions given to V; a logic over V; heaps of one's own; no program in sight, no conditions.
-/
import Derived.Test.YthahmilhpmfkfaaGreatVM4
import Derived.Test.YthahmilhpmfkfaaGreatVM1
set_option linter.unusedSimpArgs false
set_option linter.unusedVariables false
set_option linter.unusedSectionVars false
set_option linter.unnecessarySimpa false
namespace Go.V
open Go.RowKit
structure jj (P:Program) (pv:Pv) (f:Nat) (p:List D→St→Option (D×St)):Prop where
 fn:∀ds st r,p ds st=some r→∃fn b,P.funcs[f]?=some fn∧fn.body=some b∧fn.name≠ "runtime.NumGoroutine"
 calls:∀ds st d ah,p ds st=some (d,ah)→∀w β Z (us:List Value),fG w st β Z→ds.length=us.length→(∀(i:Nat) c v,ds[i]?=some c→us[i]?=some v→VR w (st.x β Z) c v)→
  Calls P f us.toArray w fun e w'=>∃v β' Z',e=.returned v∧Nx w st β Z w' ah β' Z'∧VR w' (ah.x β' Z') d v∧(kD pv f=true→Quiet w w')
 ro:∀ds st d ah,p ds st=some (d,ah)→kD pv f=true→ox st ah
 len:∀ds st d ah,p ds st=some (d,ah)→dt st ah
theorem A9 {pv En:Pv} (h:∀f,kD pv f=kD En f) (hm:∀s t,nV pv s t=nV En s t) (ops:Array Oper) (b:Bool) (x y:Oper):kZ pv ops b x y=kZ En ops b x y:=by
 have he:∀o,fh pv o=fh En o:=by
  intro o;unfold fh
  split<;>first|rfl|exact hm _ _|skip
  rw[h]
 simp only[kZ,he]
theorem yj {pv En:Pv} (h:∀f,kD pv f=kD En f) (hm:∀s t,nV pv s t=nV En s t) (ops:Array Oper) (dy:List (Nat×Nat)):lA pv ops dy=lA En ops dy:=by
 unfold lA
 congr 1
 funext j;unfold Ip
 split
 ·simp only[A9 h hm]
 ·rfl
theorem dX {pv En:Pv} (h:∀f,kD pv f=kD En f) (hm:∀s t,nV pv s t=nV En s t) (dyn:List (Nat×List (Nat×Nat))) (n:Nat):∀c:Code,codeOk pv dyn n c=codeOk En dyn n c
 | .region _ ops d=>by simp only[codeOk,yj h hm]
 | .seq a b=>by simp only[codeOk,dX h hm dyn n a,dX h hm dyn n b]
 | .cond _ a b=>by simp only[codeOk,dX h hm dyn n a,dX h hm dyn n b]
 | .block _ c=>by simp only[codeOk,dX h hm dyn n c]
 | .loop c=>by simp only[codeOk,dX h hm dyn n c]
 | .skip| .rangeFunc ..| .exit _| .scope _| .label _| .goto _| .ret| .refuse _=>by simp only[codeOk]
def Pv.over (pv:Pv) (l:List (Nat×(List D→St→Option (D×St)))):Pv:=⟨pv.ty,pv.nty,pv.fs,pv.nfs,pv.eqb,l⟩
theorem DE (pv:Pv) (l) (f:Nat):kD (pv.over l) f=kD pv f:=rfl
theorem uP {f:Nat} {p}:∀{l:List (Nat×(List D→St→Option (D×St)))},lD f l=some p→(f,p)∈l
 |(g,q)::l,h=>by
  simp only[lD] at h
  split at h
  ·rename_i hb;cases h;rw[Nat.eq_of_beq_eq_true hb];exact List.mem_cons_self ..
  ·exact List.mem_cons_of_mem _ (uP h)
theorem ud {pv:Pv} {P:Program} (h:pv.Ok P∧pv.gC∧gx P pv (dJ pv)) (QI:pv.prm=[]) {l:List (Nat×(List D→St→Option (D×St)))} (hl:∀q∈l,jj P pv q.1 q.2):
  (pv.over l).Ok P∧(pv.over l).gC∧gx P (pv.over l) (dJ (pv.over l)):=by
 obtain⟨h1,h2,h3⟩:=h;refine⟨⟨h1.ty,h1.fs,h1.eqb,h1.mixed⟩,fun f x b hx hp hb=>?_,?_⟩
 ·rw[dX (DE pv l) (fun _ _=>rfl)];exact h2 f x b hx hp hb
 ·have key:∀f ds st r,dJ (pv.over l) f ds st=some r→(∃p,jj P pv f p∧p ds st=some r)∨dJ pv f ds st=some r:=by
   intro f ds st r h;unfold dJ at h
   split at h
   ·rename_i p hp;exact .inl ⟨p,hl _ (uP hp),h⟩
   ·right;unfold dJ;rw[QI];exact h
  refine⟨fun f ds st r h=>?_,fun f ds st d ah h=>?_,fun f ds st d ah h=>?_,fun f ds st d ah h=>?_⟩
  ·rcases key f ds st r h with⟨p,hp,h⟩|h
   ·exact hp.fn ds st r h
   ·exact h3.fn f ds st r h
  ·rcases key f ds st _ h with⟨p,hp,h⟩|h
   ·exact hp.calls ds st d ah h
   ·exact h3.calls f ds st d ah h
  ·rcases key f ds st _ h with⟨p,hp,h⟩|h
   ·exact hp.ro ds st d ah h
   ·exact h3.ro f ds st d ah h
  ·rcases key f ds st _ h with⟨p,hp,h⟩|h
   ·exact hp.len ds st d ah h
   ·exact h3.len f ds st d ah h
theorem fG.nil {w:World} {Z:Nat→Prop} (hZ:∀b,Z b→b<w.heap.size):fG w ⟨[],0,0⟩ (fun _=>none) Z:=
 ⟨fun _ _ _ h=>(by cases h),fun _ _ _ h=>(by cases h),fun _ _ _ _ _ h=>(by cases h),fun _ _ _ h=>(by cases h),hZ,fun _ _ _ _ h=>(by cases h),Nat.le_refl _,Nat.le_refl _⟩
theorem mW {pv:Pv} {P:Program} (h:pv.Ok P∧pv.gC∧gx P pv (dJ pv)) {n f:Nat} {ds:List D} {d:D} {Bx:St} (hs:cz pv n f ds ⟨[],0,0⟩=some (d,Bx)) (h0:Bx.bs=[]) (hr:refs ds=0)
  (st:St) (w:World) (β:Nat→Option (Nat×Nat)) (Z:Nat→Prop) (us:List Value) (df:fG w st β Z) (hl:ds.length=us.length) (ha:∀(i:Nat) c v,ds[i]?=some c→us[i]?=some v→VR w (st.x β Z) c v):
  Calls P f us.toArray w fun e w'=>∃v β' Z',e=.returned v∧Nx w st β Z w' st β' Z'∧VR w' (st.x β' Z') d v∧Quiet w w':=by
 have hrefs:∀(l:List D),refs l=0→∀c∈l,c.ref≤0:=by
  intro l
  induction l with
  |nil=>intro _ c hc;simp at hc
  |cons x l ih=>
   intro h c hc;simp only[refs] at h
   rcases List.mem_cons.1 hc with rfl|hc
   ·omega
   ·exact ih (by omega) c hc
 refine((mz h.1 h.2.1 h.2.2 n).calls f ds _ d Bx hs w (fun _=>none) Z us (fG.nil df.zl) hl fun i c v hc hv=>?_).mono fun e w'=>?_
 ·exact VR.cut (x:=st.x β Z) (x':=(⟨[],0,0⟩:St).x (fun _=>none) Z) (N:=0) (fun k hk=>absurd hk (Nat.not_lt_zero _)) (fun k hk=>absurd hk (Nat.not_lt_zero _)) (fun b hb=>hb) (ha i c v hc hv) (hrefs ds hr c (List.mem_of_getElem? hc))
 ·rintro⟨v,β',Z',rfl,hn,hv,_⟩
  have pb:∀k p,β' k=some p→False:=fun k p hk=>by
   have:=hn.sim.dom k p.1 p.2 hk;rw[h0] at this;simp at this
  have hq:Quiet w w':=by
   intro c hc;refine hn.evo.block c hc ?_;rintro⟨k,base,h5,_⟩;cases h5
  have hzz:∀b,Z b→Z' b∧w'.heap[b]?=w.heap[b]?:=fun b hb=>⟨(hn.keeps.z b hb).1,hq b (df.zl b hb)⟩
  have hk:dq w (st.x β Z) w' (st.x β Z'):=⟨fun k p hp=>⟨p,hp⟩,hzz,fun k c p _ hc=>⟨c,hc,Nat.le_refl _⟩,fun k c _ _ b base hb=>⟨hb,dV (hq b (df.lt k b base hb))⟩⟩
  refine⟨v,β,Z',rfl,⟨⟨df.dom,fun k b base hb=>Nat.lt_of_lt_of_le (df.lt k b base hb) hn.evo.size,df.inj,fun k b base hb hz=>?_,hn.sim.zl,fun k b base bx hb gU=>(df.box k b base bx hb gU).cM hk (hq b (df.lt k b base hb)),df.flr,df.ro⟩,hk,
   ⟨hn.evo.os,hn.evo.tape,hn.evo.output,hn.evo.size,fun b hb _=>hq b hb⟩,fun k b base hb=>.inl ⟨base,hb⟩,hn.zfresh,Nat.le_refl _,rfl,rfl,fun k _=>⟨rfl,rfl⟩,fun k _ hk=>⟨hk,rfl⟩⟩,?_,hq⟩
  ·rcases hn.zfresh b hz with hz|hz
   ·exact df.zd k b base hb hz
   ·have:=df.lt k b base hb;omega
  ·exact VR.cut (x:=Bx.x β' Z') (x':=st.x β Z') (N:=0) (fun k hk=>absurd hk (Nat.not_lt_zero _)) (fun k hk=>absurd hk (Nat.not_lt_zero _)) (fun b hb=>hb) hv (VR.ref (fun k p hk=>(pb k p hk).elim) hv)
def B1 (d:D):List D→St→Option (D×St)
 |[],st=>some (d,st)
 |_::_,_=>none
theorem FQ {pv:Pv} {P:Program} (h:pv.Ok P∧pv.gC∧gx P pv (dJ pv)) {n f:Nat} {d:D} {Bx:St} (hs:cz pv n f [] ⟨[],0,0⟩=some (d,Bx)) (h0:Bx.bs=[]):jj P pv f (B1 d):=by
 have hc:=mz h.1 h.2.1 h.2.2 n;refine⟨fun ds st r _=>hc.fn f [] _ _ hs,fun ds st d' ah hp w β Z us df hl ha=>?_,fun ds st d' ah hp _=>?_,fun ds st d' ah hp=>?_⟩<;>cases ds<;>simp only[B1,Option.some.injEq,Prod.mk.injEq,reduceCtorEq] at hp
 ·obtain⟨rfl,rfl⟩:=hp;refine(mW h hs h0 rfl st w β Z us df hl ha).mono fun e w'=>?_;rintro⟨v,β',Z',h1,h2,h3,h4⟩;exact⟨v,β',Z',h1,h2,h3,fun _=>h4⟩
 ·rw[←hp.2];exact .rfl _
 ·rw[←hp.2];exact dt.refl _
def mK:List (List D×D)→List D→St→Option (D×St)
 |[],_,_=>none
 |(as,d)::l,ds,st=>match jG as ds with
  |true=>some (d,st)
  |false=>mK l ds st
theorem j7:∀{l:List (List D×D)} {ds:List D} {st ah:St} {d:D},mK l ds st=some (d,ah)→(ds,d)∈l∧ah=st
 |(as,e)::l,ds,st,ah,d,h=>by
  simp only[mK] at h
  split at h
  ·rename_i hb;cases h;rw[iu _ _ hb];exact⟨List.mem_cons_self ..,rfl⟩
  ·obtain⟨h1,h2⟩:=j7 h;exact⟨List.mem_cons_of_mem _ h1,h2⟩
theorem sy {pv:Pv} {P:Program} (h:pv.Ok P∧pv.gC∧gx P pv (dJ pv)) {f:Nat} {l:List (List D×D)} (hl:∀q∈l,refs q.1=0∧∃n Bx,cz pv n f q.1 ⟨[],0,0⟩=some (q.2,Bx)∧Bx.bs=[]):jj P pv f (mK l):=by
 refine⟨fun ds st r hp=>?_,fun ds st d ah hp w β Z us df hle ha=>?_,fun ds st d ah hp _=>by rw[(j7 hp).2];exact .rfl _,fun ds st d ah hp=>?_⟩
 ·obtain⟨hm,_⟩:=j7 (d:=r.1) (ah:=r.2) hp;obtain⟨_,n,Bx,hs,_⟩:=hl _ hm;exact(mz h.1 h.2.1 h.2.2 n).fn f _ _ _ hs
 ·obtain⟨hm,rfl⟩:=j7 hp;obtain⟨hr,n,Bx,hs,h0⟩:=hl _ hm;refine(mW h hs h0 hr ah w β Z us df hle ha).mono fun e w'=>?_;rintro⟨v,β',Z',h1,h2,h3,h4⟩;exact⟨v,β',Z',h1,h2,h3,fun _=>h4⟩
 ·rw[(j7 hp).2];exact dt.refl _
def zo:List jo→List jo→Bool
 |[],[]=>true
 |a::l,b::m=>tp a b &&zo l m
 |_,_=>false
def OU (a b:St):Bool:=Nat.beq a.flr b.flr &&Nat.beq a.ro b.ro &&zo a.bs b.bs
def eR (d:D) (st:St):Option (D×St)→Bool
 |some (e,ah)=>fF e d &&OU ah st
 |none=>false
end Go.V
namespace Go.V
section
variable(P:Pv)
def Ev (f:Nat) (args:List D) (st:St) (d:D) (ah:St):Prop:=
 ∃N,∀n,N≤n→cz P n f args st=some (d,ah)
abbrev Dy:=List (Nat×List (Nat×Nat))
def ai (dy:Dy) (c:Code) (fr:Fr) (st:St) (Q:Out→Fr→St→Prop):Prop:=
 ∃o az ah,(∃N,∀n,N≤n→bP P (cz P n) dy n c fr st=some (o,az,ah))∧Q o az ah
def ae (ops:Array Oper) (l:List Oper) (fr:Fr) (st:St) (Q:Fr→St→Prop):Prop:=
 ∃az ah,(∃N,∀n,N≤n→jl P (cz P n) ops l fr st=some (az,ah))∧Q az ah
def bn (dy:Dy) (b:Code) (Q:Out→Fr→St→Prop):Out→Fr→St→Prop
 | .next,fr,st=>ai P dy b fr st Q
 | .exit i,fr,st=>Q (.exit i) fr st
 | .ret,fr,st=>Q .ret fr st
def Hy (id:Nat) (Q:Out→Fr→St→Prop):Out→Fr→St→Prop
 | .next,fr,st=>Q .next fr st
 | .exit i,fr,st=>if i=id then Q .next fr st else Q (.exit i) fr st
 | .ret,fr,st=>Q .ret fr st
def OY (I:Nat→Fr→St→Prop) (k:Nat) (Q:Out→Fr→St→Prop):Out→Fr→St→Prop
 | .next,fr,st=>∃j,j<k∧I j fr st
 | .exit i,fr,st=>Q (.exit i) fr st
 | .ret,fr,st=>Q .ret fr st
def gf (ops:Array Oper) (dy:List (Nat×Nat)) (j:Nat) (log:Log) (l:List Oper) (fr:Fr) (st:St) (Q:Fr→St→Prop):Prop:=
 ∃az ah,(∃N,∀n,N≤n→qF P (cz P n) ops dy j log l fr st=some (az,ah))∧Q az ah
variable{P} {dy:Dy}
theorem ai.mono {c:Code} {fr st} {Q Q':Out→Fr→St→Prop} (h:ai P dy c fr st Q) (hq:∀o az ah,Q o az ah→Q' o az ah):ai P dy c fr st Q':=by
 obtain⟨o,az,ah,h1,h2⟩:=h;exact⟨o,az,ah,h1,hq _ _ _ h2⟩
theorem ai.skip {fr st} {Q:Out→Fr→St→Prop} (h:Q .next fr st):ai P dy .skip fr st Q:=⟨_,_,_,⟨0,fun n _=>by simp only[bP]⟩,h⟩
theorem ai.exit {fr st i} {Q:Out→Fr→St→Prop} (h:Q (.exit i) fr st):ai P dy (.exit i) fr st Q:=⟨_,_,_,⟨0,fun n _=>by simp only[bP]⟩,h⟩
theorem ai.ret {fr st} {Q:Out→Fr→St→Prop} (h:Q .ret fr st):ai P dy .ret fr st Q:=⟨_,_,_,⟨0,fun n _=>by simp only[bP]⟩,h⟩
theorem ai.region {i ops d fr st} {Q:Out→Fr→St→Prop} (h:ae P ops ops.toList fr.clean st (Q .next)) (h0:gO i dy=[]:=by rfl):ai P dy (.region i ops d) fr st Q:=by
 obtain⟨az,ah,⟨N,hN⟩,hq⟩:=h;exact⟨_,az,ah,⟨N,fun n hn=>by simp only[bP,h0,xX,hN n hn]⟩,hq⟩
theorem ai.H_ {i ops d fr st} {Q:Out→Fr→St→Prop} {p:Nat×Nat} {ps:List (Nat×Nat)} (h0:gO i dy=p::ps) (h:gf P ops (p::ps) 0 [] ops.toList fr.clean st (Q .next)):ai P dy (.region i ops d) fr st Q:=by
 obtain⟨az,ah,⟨N,hN⟩,hq⟩:=h;exact⟨_,az,ah,⟨N,fun n hn=>by simp only[bP,h0,xX,hN n hn]⟩,hq⟩
theorem ai.seq {a b fr st} {Q:Out→Fr→St→Prop} (h:ai P dy a fr st (bn P dy b Q)):ai P dy (.seq a b) fr st Q:=by
 obtain⟨o,az,ah,⟨N,hN⟩,hq⟩:=h
 cases o with
 |next=>
  obtain⟨o,LK,st2,⟨M,hM⟩,hq⟩:=hq;exact⟨o,LK,st2,⟨max N M,fun n hn=>by simp only[bP,hN n (by omega),hM n (by omega)]⟩,hq⟩
 |exit i=>exact⟨_,az,ah,⟨N,fun n hn=>by simp only[bP,hN n hn]⟩,hq⟩
 |ret=>exact⟨_,az,ah,⟨N,fun n hn=>by simp only[bP,hN n hn]⟩,hq⟩
theorem ai.cond {c a b fr st v} {Q:Out→Fr→St→Prop} (hv:fr.ev c=.bool v) (h1:v=true→ai P dy a fr st Q) (h2:v=false→ai P dy b fr st Q):ai P dy (.cond c a b) fr st Q:=by
 cases v with
 |true=>
  obtain⟨o,az,ah,⟨N,hN⟩,hq⟩:=h1 rfl;exact⟨o,az,ah,⟨N,fun n hn=>by simp only[bP,hv,hN n hn]⟩,hq⟩
 |false=>
  obtain⟨o,az,ah,⟨N,hN⟩,hq⟩:=h2 rfl;exact⟨o,az,ah,⟨N,fun n hn=>by simp only[bP,hv,hN n hn]⟩,hq⟩
theorem ai.block {id c fr st} {Q:Out→Fr→St→Prop} (h:ai P dy c fr st (Hy id Q)):ai P dy (.block id c) fr st Q:=by
 obtain⟨o,az,ah,⟨N,hN⟩,hq⟩:=h
 cases o with
 |next=>exact⟨_,az,ah,⟨N,fun n hn=>by simp only[bP,hN n hn]⟩,hq⟩
 |exit i=>
  simp only[Hy] at hq
  split at hq
  ·rename_i hi;exact⟨_,az,ah,⟨N,fun n hn=>by simp only[bP,hN n hn,if_pos hi]⟩,hq⟩
  ·rename_i hi;exact⟨_,az,ah,⟨N,fun n hn=>by simp only[bP,hN n hn,if_neg hi]⟩,hq⟩
 |ret=>exact⟨_,az,ah,⟨N,fun n hn=>by simp only[bP,hN n hn]⟩,hq⟩
theorem ai.loop {c:Code} {fr st} {Q:Out→Fr→St→Prop} (I:Nat→Fr→St→Prop) (k:Nat) (h0:I k fr st) (h:∀k fr st,I k fr st→ai P dy c fr.clean st (OY I k Q)):ai P dy (.loop c) fr st Q:=by
 have key:∀k fr st,I k fr st→∃o az ah,(∃N,∀n,N≤n→∀m,N≤m→iter (bP P (cz P n) dy n c) m fr st=some (o,az,ah))∧(Q o az ah):=by
  intro k
  induction k using Nat.strongRecOn with
  |ind k ih=>
   intro fr st hi;obtain⟨o,az,ah,⟨N,hN⟩,hq⟩:=h k fr st hi
   cases o with
   |next=>
    obtain⟨j,hj,iw⟩:=hq;obtain⟨o,LK,st2,⟨M,hM⟩,hq⟩:=ih j hj az ah iw;refine⟨o,LK,st2,⟨max N M+1,fun n hn m hm=>?_⟩,hq⟩
    obtain⟨m,rfl⟩:∃m',m=m'+1:=⟨m-1,by omega⟩
    simp only[iter,hN n (by omega),hM n (by omega) m (by omega)]
   |exit i=>
    refine⟨_,az,ah,⟨N+1,fun n hn m hm=>?_⟩,hq⟩
    obtain⟨m,rfl⟩:∃m',m=m'+1:=⟨m-1,by omega⟩
    simp only[iter,hN n (by omega)]
   |ret=>
    refine⟨_,az,ah,⟨N+1,fun n hn m hm=>?_⟩,hq⟩
    obtain⟨m,rfl⟩:∃m',m=m'+1:=⟨m-1,by omega⟩
    simp only[iter,hN n (by omega)]
 obtain⟨o,az,ah,⟨N,hN⟩,hq⟩:=key k fr st h0;exact⟨o,az,ah,⟨N,fun n hn=>by simp only[bP,hN n hn n hn]⟩,hq⟩
theorem Ev.of {f x body args st d ah} (hq:lD f P.prm=none) (hf:P.fi f=some x) (hp:x.kU=none) (hb:x.fn.body=some body)
  (h:ai P x.dyn body (pad x.nloc args) (ag x.mode st) fun o fr st1=>(∀i,o≠.exit i)∧∃ds,ku P fr st1 x.fn.results.toList=some ds∧c8 x.mode x.knul st st1 (tI ds)=some (d,ah)):Ev P f args st d ah:=by
 obtain⟨o,az,st1,⟨N,hN⟩,ho,ds,hr,hl⟩:=h;refine⟨N+1,fun n hn=>?_⟩
 obtain⟨m,rfl⟩:∃m',n=m'+1:=⟨n-1,by omega⟩
 simp only[cz,hq,hf,hp,hb,zn];rw[hN m (by omega)]
 cases o with
 |next=>simp only[hr,hl]
 |exit i=>exact absurd rfl (ho i)
 |ret=>simp only[hr,hl]
theorem ae.nil {ops fr st} {Q:Fr→St→Prop} (h:Q fr st):ae P ops [] fr st Q:=⟨fr,st,⟨0,fun n _=>rfl⟩,h⟩
def ja:Op→Bool
 | .call ⟨.value _,_,_⟩=>true
 |_=>false
theorem Fy {cf fr st} {o:Oper} (h:ja o.op=false):eX P cf fr st o=dE P fr st o.op o.type:=by
 unfold eX
 split
 ·rename_i heq;rw[heq] at h;simp[ja] at h
 ·rfl
theorem ae.op {ops o rest fr st d st1} {Q:Fr→St→Prop} (hg:ax ops fr o=some true) (hc:ja o.op=false) (h1:dE P fr st o.op o.type=some (d,st1))
  (h:ae P ops rest (fr.gL o.dst d) st1 Q):ae P ops (o::rest) fr st Q:=by
 obtain⟨az,ah,⟨N,hN⟩,hq⟩:=h;exact⟨az,ah,⟨N,fun n hn=>by simp only[jl,hg,Fy hc,h1,hN n hn]⟩,hq⟩
theorem ae.off {ops o rest fr st} {Q:Fr→St→Prop} (hg:ax ops fr o=some false)
  (h:ae P ops rest (fr.gL o.dst (.tup [])) st Q):ae P ops (o::rest) fr st Q:=by
 obtain⟨az,ah,⟨N,hN⟩,hq⟩:=h;exact⟨az,ah,⟨N,fun n hn=>by simp only[jl,hg,hN n hn]⟩,hq⟩
theorem ae.call {ops rest fr st d st1 f g fz args xu dst type pos} {after guard} {Q:Fr→St→Prop} (hg:ax ops fr ⟨dst,.call ⟨.value f,args,xu⟩,type,pos,after,guard⟩=some true) (hf:fr.ev f=.fn g fz)
  (h1:Ev P g (args.toList.map fr.ev++fz) st d st1)
  (h:ae P ops rest (fr.gL dst d) st1 Q):ae P ops (⟨dst,.call ⟨.value f,args,xu⟩,type,pos,after,guard⟩::rest) fr st Q:=by
 obtain⟨az,ah,⟨N,hN⟩,hq⟩:=h;obtain⟨M,hM⟩:=h1;exact⟨az,ah,⟨max N M,fun n hn=>by simp only[jl,hg,eX,hf,hM n (by omega),hN n (by omega)]⟩,hq⟩
theorem gf.nil {ops ys j log fr st} {Q:Fr→St→Prop} (h:Q fr st):gf P ops ys j log [] fr st Q:=⟨fr,st,⟨0,fun n _=>rfl⟩,h⟩
theorem gf.cons {ops ys j log o rest fr st} {Q:Fr→St→Prop} (h:ae P ops [o] fr st fun az ah=>Ha ys j log o fr st ah=true∧gf P ops ys (j+1) ((o,fr,st,ah)::log) rest az ah Q):gf P ops ys j log (o::rest) fr st Q:=by
 obtain⟨LL,st1,⟨N,hN⟩,hc,LK,st2,⟨M,hM⟩,hq⟩:=h;refine⟨LK,st2,⟨max N M,fun n hn=>?_⟩,hq⟩;have h1:=hN n (by omega);have h2:=hM n (by omega);simp only[jl] at h1;simp only[qF]
 split at h1
 ·rename_i hw
  split at h1
  ·rename_i d ah hop;cases h1;simp only[hop,hc,h2]
  ·cases h1
 ·rename_i hw;cases h1;exact h2
 ·cases h1
theorem Ev.out {f args st d ah} (h:Ev P f args st d ah):∃N,∀n,N≤n→cz P n f args st=some (d,ah):=h
theorem Ev.kU {f args st d ah p} (hq:lD f P.prm=some p) (h:p args st=some (d,ah)):Ev P f args st d ah:=
 ⟨1,fun n hn=>by
  obtain⟨m,rfl⟩:∃m',n=m'+1:=⟨n-1,by omega⟩
  simp only[cz,hq,h]⟩
end
attribute [irreducible] Ev ai ae gf
end Go.V
namespace Go.V
theorem ai.dP {P:Pv} {dy:Dy} {i:Nat} {l:List Oper} {d n loc tmp st} {Q:Out→Fr→St→Prop} (h:ae P l.toArray l ⟨n,loc,[]⟩ st (Q .next)) (h0:gO i dy=[]:=by rfl):ai P dy (.region i l.toArray d) ⟨n,loc,tmp⟩ st Q:=ai.region h h0
theorem ai.Ia {P:Pv} {dy:Dy} {i:Nat} {l:List Oper} {d n loc tmp st} {Q:Out→Fr→St→Prop} {p:Nat×Nat} {ps:List (Nat×Nat)} (h0:gO i dy=p::ps) (h:gf P l.toArray (p::ps) 0 [] l ⟨n,loc,[]⟩ st (Q .next)):ai P dy (.region i l.toArray d) ⟨n,loc,tmp⟩ st Q:=ai.H_ h0 h
theorem Ev.iZ {P:Pv} {f x body args st d ah n loc} (hq:lD f P.prm=none) (hf:P.fi f=some x) (hp:x.kU=none) (hb:x.fn.body=some body) (Ge:pad x.nloc args=⟨n,loc,[]⟩)
  (h:ai P x.dyn body ⟨n,loc,[]⟩ (ag x.mode st) fun o fr st1=>(∀i,o≠.exit i)∧∃ds,ku P fr st1 x.fn.results.toList=some ds∧c8 x.mode x.knul st st1 (tI ds)=some (d,ah)):Ev P f args st d ah:=
 Ev.of hq hf hp hb (by rw[Ge];exact h)
section
variable{P:Pv} {ops:Array Oper} {rest:List Oper} {n:Nat} {loc:List D} {tmp:List (Nat×D)} {st st1:St} {Q:Fr→St→Prop} {op:Op} {ty:TypeId} {p:String} {a:Array Edge} {g:Option (Nat×Bool)} {t:Nat} {d:D}
theorem aa (hb:Nat.ble n t=true) (d:D):Fr.put ⟨n,loc,tmp⟩ t d=⟨n,loc,(t,d)::tmp⟩:=by
 simp only[Fr.put,hb]
theorem JQ (hb:Nat.ble n t=false) (d:D):Fr.put ⟨n,loc,tmp⟩ t d=⟨n,loc.set t d,tmp⟩:=by
 simp only[Fr.put,hb]
theorem ae.T (hb:Nat.ble n t=true) (hg:ax ops ⟨n,loc,tmp⟩ ⟨some t,op,ty,p,a,g⟩=some true) (hc:ja op=false) (h1:dE P ⟨n,loc,tmp⟩ st op ty=some (d,st1))
  (h:ae P ops rest ⟨n,loc,(t,d)::tmp⟩ st1 Q):ae P ops (⟨some t,op,ty,p,a,g⟩::rest) ⟨n,loc,tmp⟩ st Q:=
 ae.op hg hc h1 (by show ae P ops rest (Fr.put _ t d) st1 Q;rw[aa hb];exact h)
theorem ae.L (hb:Nat.ble n t=false) (hg:ax ops ⟨n,loc,tmp⟩ ⟨some t,op,ty,p,a,g⟩=some true) (hc:ja op=false) (h1:dE P ⟨n,loc,tmp⟩ st op ty=some (d,st1))
  (h:ae P ops rest ⟨n,loc.set t d,tmp⟩ st1 Q):ae P ops (⟨some t,op,ty,p,a,g⟩::rest) ⟨n,loc,tmp⟩ st Q:=
 ae.op hg hc h1 (by show ae P ops rest (Fr.put _ t d) st1 Q;rw[JQ hb];exact h)
theorem ae.N {fr:Fr} (hg:ax ops fr ⟨none,op,ty,p,a,g⟩=some true) (hc:ja op=false) (h1:dE P fr st op ty=some (d,st1))
  (h:ae P ops rest fr st1 Q):ae P ops (⟨none,op,ty,p,a,g⟩::rest) fr st Q:=ae.op hg hc h1 h
theorem ae.P4 (hb:Nat.ble n t=true) (hg:ax ops ⟨n,loc,tmp⟩ ⟨some t,op,ty,p,a,g⟩=some false)
  (h:ae P ops rest ⟨n,loc,(t,.tup [])::tmp⟩ st Q):ae P ops (⟨some t,op,ty,p,a,g⟩::rest) ⟨n,loc,tmp⟩ st Q:=
 ae.off hg (by show ae P ops rest (Fr.put _ t _) st Q;rw[aa hb];exact h)
theorem ae.P5 (hb:Nat.ble n t=false) (hg:ax ops ⟨n,loc,tmp⟩ ⟨some t,op,ty,p,a,g⟩=some false)
  (h:ae P ops rest ⟨n,loc.set t (.tup []),tmp⟩ st Q):ae P ops (⟨some t,op,ty,p,a,g⟩::rest) ⟨n,loc,tmp⟩ st Q:=
 ae.off hg (by show ae P ops rest (Fr.put _ t _) st Q;rw[JQ hb];exact h)
theorem ae.Kg {f gn:_} {fz:List D} {args:Array Operand} {xu:Array TypeId} (hb:Nat.ble n t=true) (hg:ax ops ⟨n,loc,tmp⟩ ⟨some t,.call ⟨.value f,args,xu⟩,ty,p,a,g⟩=some true) (hf:Fr.ev ⟨n,loc,tmp⟩ f=.fn gn fz)
  (h1:Ev P gn (args.toList.map (Fr.ev ⟨n,loc,tmp⟩)++fz) st d st1)
  (h:ae P ops rest ⟨n,loc,(t,d)::tmp⟩ st1 Q):ae P ops (⟨some t,.call ⟨.value f,args,xu⟩,ty,p,a,g⟩::rest) ⟨n,loc,tmp⟩ st Q:=
 ae.call hg hf h1 (by show ae P ops rest (Fr.put _ t d) st1 Q;rw[aa hb];exact h)
end
inductive Rows (st:St) (s:Nat):D→List (List D)→Prop where
 |nul:Rows st s .nul []
 |sl (es:List D) (h:∀e∈es,e.cells?=some e.cells∧e.cells.length=s):Rows st s (.sl es) (es.map D.cells)
 |win (k au off:Nat) (es:List (List D)) (ar:Bool) (c:List D) (hm:st.bW k au=some (ar,c)) (hl:off+es.length*s≤c.length)
   (he:∀(i:Nat) e,es[i]?=some e→(c.drop (off+i*s)).take s=e):Rows st s (.win k au off es.length s) es
theorem Rows.s8 {st:St} {s:Nat} {x:D} {es:List (List D)} (h:Rows st s x es):∀(i:Nat) e,es[i]?=some e→e.length=s:=by
 cases h with
 |nul=>intro i e h;simp at h
 |sl es h=>
  intro i e hi;rw[List.getElem?_map] at hi;obtain⟨d,hd,rfl⟩:=Option.map_eq_some_iff.1 hi;exact(h d (List.mem_of_getElem? hd)).2
 |win k au off es ar c hm hl he=>
  intro i e hi
  have hlt:i<es.length:=by
   rcases Nat.lt_or_ge i es.length with h'|h'
   ·exact h'
   ·rw[List.getElem?_eq_none h'] at hi;cases hi
  rw[←he i e hi];have:(i+1)*s≤es.length*s:=Nat.mul_le_mul_right s hlt;rw[Nat.add_mul] at this
  simp;omega
theorem Rows.len {st:St} {s:Nat} {x:D} {es:List (List D)} (h:Rows st s x es):yC x=some es.length∧∀b,x≠.str b:=by
 cases h with
 |nul=>exact⟨rfl,fun b h=>by cases h⟩
 |sl es h=>exact⟨by simp[yC],fun b h=>by cases h⟩
 |win k au off es ar c hm hl he=>exact⟨rfl,fun b h=>by cases h⟩
theorem Rows.JT {P:Pv} {st:St} {s:Nat} {x:D} {es:List (List D)} (h:Rows st s x es) {t e:TypeId} (ht:P.bZ t=some (.slice e)):
  bd P .len [t] [x] st=some (.int .i64 (es.length:Nat),st):=by
 obtain⟨h1,h2⟩:=h.len;simp only[bd,ht]
 cases x with
 |str b=>exact absurd rfl (h2 b)
 |_=>simp only[h1];rfl
theorem zM {P:Pv} {e:TypeId} {c c':List D} {s:Nat} {d:D} (hs:bR P e=some s) (hc:c.take s=c') (hl:c'.length=s) (h:dj P e c'=some d):dj P e c=some d:=by
 have hlen:s≤c.length:=by rw[←hc] at hl;simp at hl;omega
 unfold dj at h⊢
 cases hu:P.bZ e with
 |none=>rw[hu] at h;cases h
 |some u=>
  rw[hu] at h
  cases u with
  |struct f=>
   simp only[hs,Option.bind_some] at h⊢;rw[if_pos (by omega)] at h;rw[if_pos hlen,hc];rw[←h,List.take_of_length_le (by omega)]
  |array n f=>
   simp only[hs,Option.bind_some] at h⊢;rw[if_pos (by omega)] at h;rw[if_pos hlen,hc];rw[←h,List.take_of_length_le (by omega)]
  |_=>
   simp only at h⊢;rw[←h,←hc]
   cases c with
   |nil=>simp
   |cons x xs=>
    cases s with
    |zero=>simp at hc;subst hc;simp at h
    |succ s=>simp
theorem Rows.idx {P:Pv} {st:St} {s:Nat} {x:D} {es:List (List D)} (h:Rows st s x es) {t e:TypeId} (ht:P.bZ t=some (.slice e)) (hs:bR P e=some s) {k:IntKind} {i:Int} {r:List D} (h0:0≤i) (hi:es[i.toNat]?=some r):
  ∃p,bM P t x (.int k i) st=some p∧∀d,dj P e r=some d→fZ P e p st=some d:=by
 cases h with
 |nul=>simp at hi
 |sl es h=>
  rw[List.getElem?_map] at hi;obtain⟨d,hd,rfl⟩:=Option.map_eq_some_iff.1 hi;obtain⟨h1,h2⟩:=h d (List.mem_of_getElem? hd);refine⟨.ep d.cells,?_,fun d' h=>h⟩;simp only[bM,ht,hs,Option.bind_some,if_pos h0,hd,h1,if_pos h2]
 |win k au off es ar c hm hl he=>
  have hlt:i.toNat<es.length:=by
   rcases Nat.lt_or_ge i.toNat es.length with h'|h'
   ·exact h'
   ·rw[List.getElem?_eq_none h'] at hi;cases hi
  refine⟨.ptr k au (off+i.toNat*s),?_,fun d' h=>?_⟩
  ·simp only[bM,ht,hs,Option.bind_some,hm,Option.isSome_some];rw[if_pos ⟨trivial,h0,by omega,trivial⟩]
  ·simp only[fZ,hm,Option.bind_some];exact zM hs (he _ _ hi) (Rows.s8 (.win k au off es ar c hm hl he) _ _ hi) h
theorem ae.jx {P:Pv} {ops:Array Oper} {rest:List Oper} {n:Nat} {loc:List D} {tmp:List (Nat×D)} {st:St} {Q:Fr→St→Prop} {t e:TypeId} {xo io:Operand} {d1 d2:Nat} {TL nB:TypeId} {p1 p2:String} {a1 a2:Array Edge} {g1 g2:Option (Nat×Bool)} {x:D} {k:IntKind} {i:Int} {s:Nat} {es:List (List D)} {r:List D} {d:D}
  (hb1:Nat.ble n d1=true) (hb2:Nat.ble n d2=true) (HJ:ax ops ⟨n,loc,tmp⟩ ⟨some d1,.indexAddr t xo io,TL,p1,a1,g1⟩=some true) (bN:∀p,ax ops ⟨n,loc,(d1,p)::tmp⟩ ⟨some d2,.load e (.tmp d1),nB,p2,a2,g2⟩=some true)
  (hx:Fr.ev ⟨n,loc,tmp⟩ xo=x) (hi:Fr.ev ⟨n,loc,tmp⟩ io=.int k i) (hR:Rows st s x es) (ht:P.bZ t=some (.slice e)) (hs:bR P e=some s) (h0:0≤i) (hr:es[i.toNat]?=some r) (hd:dj P e r=some d)
  (h:∀p,ae P ops rest ⟨n,loc,(d2,d)::(d1,p)::tmp⟩ st Q):ae P ops (⟨some d1,.indexAddr t xo io,TL,p1,a1,g1⟩::⟨some d2,.load e (.tmp d1),nB,p2,a2,g2⟩::rest) ⟨n,loc,tmp⟩ st Q:=by
 obtain⟨p,h1,h2⟩:=hR.idx ht hs (k:=k) h0 hr;refine ae.T hb1 HJ rfl (d:=p) (st1:=st) (by simp only[dE,hx,hi,h1,Option.map_some])<|ae.T hb2 (bN p) rfl (d:=d) (st1:=st) ?_ (h p)
 have:Fr.ev ⟨n,loc,(d1,p)::tmp⟩ (.tmp d1)=p:=by
  simp only[Fr.ev,Fr.get,hb1,look];have:Nat.beq d1 d1=true:=Nat.beq_refl d1;rw[this]
 simp only[dE,this,h2 d hd,Option.map_some]
def byteCells (b:List UInt8):List (List D):=b.map fun y=>[.int .u8 (y.toNat:Nat)]
def Bytes (st:St) (x:D) (b:List UInt8):Prop:=Rows st 1 x (byteCells b)
theorem bz {m:Mode} {kn:Bool} {st st1:St} {d d':D} (hm:m≠.cM∧m≠.nw) (h1:st1.bs.take st.bs.length=st.bs) (hd:aJ st1 st.bs.length kn 16 d=some d'):c8 m kn st st1 d=some (d',st):=by
 cases m with
 |cM=>exact absurd rfl hm.1
 |nw=>exact absurd rfl hm.2
 |_=>simp only[c8,hd,h1]
end Go.V
namespace Go.V
structure Ex (N:Nat) (st ah:St):Prop where
 low:∀k,k<N→ah.bs[k]?=st.bs[k]?
 len:st.bs.length≤ah.bs.length
 flr:ah.flr=st.flr
 ro:ah.ro=st.ro
theorem Ex.refl (N:Nat) (st:St):Ex N st st:=⟨fun _ _=>rfl,Nat.le_refl _,rfl,rfl⟩
theorem Ex.trans {N:Nat} {a b c:St} (h:Ex N a b) (g:Ex N b c):Ex N a c:=
 ⟨fun k hk=>(g.low k hk).trans (h.low k hk),Nat.le_trans h.len g.len,g.flr.trans h.flr,g.ro.trans h.ro⟩
theorem Ex.push {N:Nat} {st:St} (h:N≤st.bs.length) (b:jo):Ex N st (st.push b):=
 ⟨fun k hk=>by simp only[St.push];rw[List.getElem?_append_left (by omega)],by simp[St.push],rfl,rfl⟩
theorem Ex.set {N:Nat} {st:St} {k:Nat} (h:N≤k) (b:jo):Ex N st {st with bs:=st.bs.set k b}:=
 ⟨fun j hj=>by simp only;rw[List.getElem?_set_ne (by omega)],by simp,rfl,rfl⟩
theorem Ex.take {N:Nat} {st ah:St} (h:Ex N st ah) (hN:N=st.bs.length):ah.bs.take N=st.bs:=by
 apply List.ext_getElem?;intro k;rw[List.getElem?_take]
 split
 ·exact h.low k (by assumption)
 ·rw[List.getElem?_eq_none (by omega)]
theorem Ex.mem {N:Nat} {st ah:St} (h:Ex N st ah) {k v:Nat} (hk:k<N):ah.bW k v=st.bW k v:=by
 simp only[St.bW,h.low k hk]
theorem Rows.ex {N:Nat} {st ah:St} (h:Ex N st ah) {s:Nat} {x:D} {es:List (List D)} (hr:Rows st s x es) (hx:x.ref≤N):Rows ah s x es:=by
 cases hr with
 |nul=>exact .nul
 |sl es h=>exact .sl es h
 |win k au off es ar c hm hl he=>exact .win k au off es ar c (by rw[h.mem (by simp only[D.ref] at hx;omega)];exact hm) hl he
theorem Rows.slice {P:Pv} {st:St} {s:Nat} {x:D} {es:List (List D)} (h:Rows st s x es) {t e:TypeId} (ht:P.bZ t=some (.slice e)) (hs:bR P e=some s) {lo hi:Option D} {l r:Nat} (hb:bD es.length lo hi=some (l,r)) (pW:l≤r∧r≤es.length):
  ∃y,cZ P t x lo hi st=some y∧Rows st s y ((es.take r).drop l)∧y.ref≤x.ref:=by
 cases h with
 |nul=>
  refine⟨.nul,?_,?_,Nat.le_refl _⟩
  ·simp only[cZ,ht,hs,Option.bind_some];simp only[List.length_nil] at hb;rw[hb];rfl
  ·simp;exact .nul
 |sl es h=>
  refine⟨.sl ((es.take r).drop l),?_,?_,by simp[D.ref]⟩
  ·simp only[cZ,ht,hs,Option.bind_some]
   have:ng s es=true:=by
    cases es with
    |nil=>rfl
    |cons e es=>obtain⟨h1,h2⟩:=h e (List.mem_cons_self ..);simp[ng,h1,h2]
   rw[if_pos this];simp only[List.length_map] at hb;rw[hb];rfl
  ·have:=Rows.sl (st:=st) (s:=s) ((es.take r).drop l) fun e he=>h e (List.mem_of_mem_take (List.mem_of_mem_drop he))
   simpa[List.map_drop,List.map_take] using this
 |win k au off es ar c hm hl he=>
  have hlen:((es.take r).drop l).length=r-l:=by simp;omega
  refine⟨.win k au (off+l*s) (r-l) s,?_,?_,by simp[D.ref]⟩
  ·simp only[cZ,ht,hs,Option.bind_some,if_true,hb];rfl
  ·have h1:l*s+(r-l)*s≤es.length*s:=by rw[←Nat.add_mul];exact Nat.mul_le_mul_right s (by omega)
   have:=Rows.win (st:=st) (s:=s) k au (off+l*s) ((es.take r).drop l) ar c hm (by rw[hlen];omega) (fun i e hi=>by
    rw[List.getElem?_drop,List.getElem?_take] at hi
    split at hi
    ·have:=he _ _ hi;rw[←this,Nat.add_mul];congr 2;omega
    ·cases hi)
   rwa [hlen] at this
inductive Acc (N:Nat) (st:St) (s:Nat):D→List (List D)→Prop where
 |nul:Acc N st s .nul []
 |win (k au:Nat) (es:List (List D)) (hN:N≤k) (hm:st.bs[k]?=some (.mem au true es.flatten)) (he:∀e∈es,e.length=s):Acc N st s (.win k au 0 es.length s) es
theorem bo {s:Nat}:∀{es:List (List D)},(∀e∈es,e.length=s)→es.flatten.length=es.length*s
 |[],_=>by simp
 |e::es,h=>by
  have:=bo (s:=s) (es:=es) fun x hx=>h x (List.mem_cons_of_mem _ hx);simp only[List.flatten_cons,List.length_append,List.length_cons,this,h e (List.mem_cons_self ..)];rw[Nat.add_mul];omega
theorem jD {s:Nat}:∀{es:List (List D)},(∀e∈es,e.length=s)→∀(i:Nat) e,es[i]?=some e→(es.flatten.drop (i*s)).take s=e
 |[],_,i,e,h=>by simp at h
 |x::es,h,0,e,hi=>by
  simp at hi;subst hi;have:=h x (List.mem_cons_self ..);simp[List.take_left' this]
 |x::es,h,i+1,e,hi=>by
  simp only[List.getElem?_cons_succ] at hi;have hx:=h x (List.mem_cons_self ..);have:=jD (s:=s) (es:=es) (fun y hy=>h y (List.mem_cons_of_mem _ hy)) i e hi;rw[←this,List.flatten_cons,Nat.add_mul,Nat.one_mul,Nat.add_comm,←hx,←List.drop_drop,List.drop_left]
theorem St.mem_of {st:St} {k au:Nat} {ar:Bool} {c:List D} (h:st.bs[k]?=some (.mem au ar c)):st.bW k au=some (ar,c):=by
 simp only[St.bW,h,if_true]
theorem Acc.rows {N:Nat} {st:St} {s:Nat} {x:D} {es:List (List D)} (h:Acc N st s x es):Rows st s x es:=by
 cases h with
 |nul=>exact .nul
 |win k au es hN hm he=>
  exact .win k au 0 es true es.flatten (St.mem_of hm) (by rw[bo he];omega) fun i e hi=>by rw[Nat.zero_add];exact jD he i e hi
theorem Acc.ex {N M:Nat} {st ah:St} (h:Ex M st ah) {s:Nat} {x:D} {es:List (List D)} (hr:Acc N st s x es) (hx:x.ref≤M):Acc N ah s x es:=by
 cases hr with
 |nul=>exact .nul
 |win k au es hN hm he=>exact .win k au es hN (by rw[h.low k (by simp only[D.ref] at hx;omega)];exact hm) he
theorem Acc.push {N:Nat} {st:St} {s:Nat} {x:D} {es:List (List D)} (hr:Acc N st s x es) (b:jo):Acc N (st.push b) s x es:=by
 cases hr with
 |nul=>exact .nul
 |win k au es hN hm he=>
  refine .win k au es hN ?_ he;simp only[St.push];rw[List.getElem?_append_left];exact hm
  rcases Nat.lt_or_ge k st.bs.length with h'|h'
  ·exact h'
  ·rw[List.getElem?_eq_none h'] at hm;cases hm
theorem Rows.row {st:St} {s:Nat} {x:D} {es:List (List D)} (h:Rows st s x es):kT st x=some (es.length,es.flatten):=by
 have hl:=h.s8
 cases h with
 |nul=>rfl
 |sl es h=>
  simp only[kT,List.length_map];rw[List.flatMap_def]
 |win k au off es ar c hm jV he=>
  simp only[kT,hm,Option.bind_some,if_pos jV]
  congr 2
  have key:∀(es:List (List D)) (c:List D),es.length*s≤c.length→(∀(i:Nat) e,es[i]?=some e→(c.drop (i*s)).take s=e)→c.take (es.length*s)=es.flatten:=by
   intro es
   induction es with
   |nil=>intro c _ _;simp
   |cons e es ih=>
    intro c hc hx;have h0:=hx 0 e rfl;simp only[Nat.zero_mul,List.drop_zero] at h0;rw[List.flatten_cons,List.length_cons,Nat.add_mul,Nat.one_mul,Nat.add_comm,List.take_add,h0]
    congr 1
    simp only[List.length_cons,Nat.add_mul,Nat.one_mul] at hc;refine ih (c.drop s) (by simp;omega) fun i e hi=>?_;rw[List.drop_drop,←hx (i+1) e (by simpa using hi),Nat.add_mul,Nat.one_mul,Nat.add_comm]
  refine key es (c.drop off) (by simp;omega) fun i e hi=>?_;rw[List.drop_drop];exact he i e hi
theorem Acc.append {P:Pv} {N:Nat} {st:St} {s:Nat} {x y:D} {es ys:List (List D)} (hr:Acc N st s x es) (hy:Rows st s y ys) {t1 t2 e:TypeId} {td:TypeDesc} {inf:TypeInfo} {z:List D}
  (h1:P.bZ t1=some (.slice e)) (h2:P.bZ t2=some td) (h3:ek td=false) (h4:P.info e=some inf) (h5:cI P e=some z) (h6:inf.size=s) (h7:z.length=s) (h8:inf.bytes≠0)
  (hN:N≤st.bs.length) (hf:st.flr≤N) (eG:st.ro≤N) (hb:(es.length+ys.length)*inf.bytes≤1099511627776):
  ∃x' ah,bd P .append [t1,t2] [x,y] st=some (x',ah)∧Acc N ah s x' (es++ys)∧Ex N st ah∧x'.ref≤ah.bs.length∧(∀k,k<st.bs.length→k+1≠x.ref→ah.bs[k]?=st.bs[k]?)∧(x'.ref=x.ref∨st.bs.length<x'.ref):=by
 have ig:=hy.row
 have wF:∀e∈ys,e.length=s:=fun e he=>by
  obtain⟨i,hi⟩:=List.getElem?_of_mem he;exact hy.s8 i e hi
 have jc:=bo wF;subst h6;simp only[bd,cX,h1,h2,h3,Bool.false_eq_true,if_false,h4,h5,ig,Option.bind_some];rw[if_neg (by rintro(h|h|h);exact h jc;exact h8 h;exact h h7)]
 cases hr with
 |nul=>
  simp only[List.nil_append]
  by_cases h0:ys.length=0
  ·rw[if_pos h0]
   have:ys=[]:=by cases ys with|nil=>rfl|cons _ _=>simp at h0
   subst this;exact⟨.nul,st,rfl,.nul,Ex.refl _ _,by simp[D.ref],fun _ _ _=>rfl,.inl rfl⟩
  ·rw[if_neg h0,if_pos (by simpa using hb)];refine⟨_,_,rfl,?_,Ex.push hN _,by simp[D.ref,St.push],fun k hk _=>by simp only[St.push];rw[List.getElem?_append_left hk],.inr (by simp[D.ref])⟩;exact .win _ _ ys hN (by simp[St.push]) wF
 |win k au es hk hm he=>
  have gT:k<st.bs.length:=by
   rcases Nat.lt_or_ge k st.bs.length with h'|h'
   ·exact h'
   ·rw[List.getElem?_eq_none h'] at hm;cases hm
  simp only[St.mem_of hm];rw[if_neg (by rintro(h|h);exact h rfl;rw[bo he] at h;omega)]
  by_cases h0:ys.length=0
  ·rw[if_pos h0]
   have:ys=[]:=by cases ys with|nil=>rfl|cons _ _=>simp at h0
   subst this;simp only[List.append_nil];exact⟨_,st,rfl,.win k au es hk hm he,Ex.refl _ _,by simp only[D.ref];omega,fun _ _ _=>rfl,.inl rfl⟩
  ·rw[if_neg h0,if_pos ⟨hb,by simp only[St.mD,Bool.and_eq_true,Bool.or_eq_true,decide_eq_true_eq];exact⟨by omega,.inl (by omega)⟩⟩];refine⟨_,_,rfl,?_,Ex.set hk _,by simp only[D.ref,List.length_set];omega,fun j hj hne=>by simp only;rw[List.getElem?_set_ne (by simp only[D.ref] at hne;omega)],.inl rfl⟩
   have:(es.flatten.take (0+es.length*inf.size)).drop 0++ys.flatten=(es++ys).flatten:=by
    rw[Nat.zero_add,←bo he,List.take_length,List.drop_zero,List.flatten_append]
   rw[this];have nc:es.length+ys.length=(es++ys).length:=by simp
   rw[nc]
   exact .win k (au+1) (es++ys) hk (by simp[gT]) fun e h=>by
    rcases List.mem_append.1 h with h|h
    ·exact he e h
    ·exact wF e h
def b_:D→Bool
 | .bool _| .int _ _| .str _| .sl _=>true
 |_=>false
theorem ky {st:St} {N n:Nat}:∀{l:List D},(∀d∈l,b_ d=true)→ec (cP st N (n+1)) l=some l
 |[],_=>rfl
 |d::l,h=>by
  have h1:=h d (List.mem_cons_self ..);have h2:=ky (st:=st) (N:=N) (n:=n) fun x hx=>h x (List.mem_cons_of_mem _ hx);have h3:cP st N (n+1) d=some d:=by cases d<;>simp[b_] at h1<;>rfl
  simp only[ec,h3,h2]
def kY (s:Nat) (e:List D):D:=match s with|1=>e.headD .bf|_=>.agg e
theorem fU {s:Nat}:∀{es:List (List D)},(∀e∈es,e.length=s)→chunk s es.length es.flatten=es.map (kY s)
 |[],_=>rfl
 |e::es,h=>by
  have he:=h e (List.mem_cons_self ..);have ih:=fU (s:=s) (es:=es) fun x hx=>h x (List.mem_cons_of_mem _ hx);simp only[List.length_cons,chunk,List.flatten_cons,List.map_cons]
  congr 1
  ·by_cases hs:s=1
   ·subst hs
    cases e with
    |nil=>simp at he
    |cons x xs=>simp[kY]
   ·have h1:kY s e=.agg e:=by unfold kY;split;exact absurd rfl hs;rfl
    have h2:(match s with|1=>(e++es.flatten).headD .bf|_=>D.agg ((e++es.flatten).take s))=.agg e:=by
     split
     ·exact absurd rfl hs
     ·rw[List.take_left' he]
    rw[h1];exact h2
  ·rw[List.drop_left' he];exact ih
theorem Acc.freeze {N:Nat} {st:St} {s:Nat} {x:D} {es:List (List D)} (h:Acc N st s x es) (hp:∀e∈es,∀d∈e,b_ d=true) {n:Nat} (hn:2≤n):aJ st N false (n+1) x=some (.sl (es.map (kY s))):=by
 obtain⟨n,rfl⟩:∃m,n=m+2:=⟨n-2,by omega⟩
 cases h with
 |nul=>rfl
 |win k au es hN hm he=>
  show(if k<N then some (D.win k au 0 es.length s) else cP st N (n+2) (.win k au 0 es.length s))=_;rw[if_neg (show¬k<N by omega),cP];simp only[if_neg (show¬k<N by omega),St.mem_of hm,Option.bind_some];rw[if_pos (by rw[bo he];omega)];have:(es.flatten.drop 0).take (es.length*s)=es.flatten:=by rw[List.drop_zero,←bo he,List.take_length]
  rw[this,ky (fun d hd=>by
   obtain⟨e,mN,zz⟩:=List.mem_flatten.1 hd
   exact hp e mN d zz)]
  simp only[Option.map_some,fU he]
theorem mw {s:Nat} {e:List D} (h:e.length=s) (hp:∀d∈e,b_ d=true):(kY s e).cells?=some (kY s e).cells∧(kY s e).cells=e:=by
 by_cases hs:s=1
 ·subst hs
  match e,h with
  |[x],_=>
   have:=hp x (List.mem_cons_self ..);cases x<;>simp[b_] at this<;>exact⟨rfl,rfl⟩
 ·have:kY s e=.agg e:=by unfold kY;split;exact absurd rfl hs;rfl
  rw[this];exact⟨rfl,rfl⟩
theorem Rows.sm {st:St} {s:Nat} {es:List (List D)} (h:∀e∈es,e.length=s) (hp:∀e∈es,∀d∈e,b_ d=true):Rows st s (.sl (es.map (kY s))) es:=by
 have:=Rows.sl (st:=st) (s:=s) (es.map (kY s)) fun d hd=>by
  obtain⟨e,he,rfl⟩:=List.mem_map.1 hd;obtain⟨h1,h2⟩:=mw (h e he) (hp e he);exact⟨h1,by rw[h2];exact h e he⟩
 have h2:(es.map (kY s)).map D.cells=es:=by
  rw[List.map_map]
  conv=>rhs;rw[←List.map_id es]
  refine List.map_congr_left fun e he=>?_;exact(mw (h e he) (hp e he)).2
 rwa [h2] at this
theorem Rows.bs {st ah:St} (h:ah.bs=st.bs) {s:Nat} {x:D} {es:List (List D)} (hr:Rows st s x es):Rows ah s x es:=by
 cases hr with
 |nul=>exact .nul
 |sl es h=>exact .sl es h
 |win k au off es ar c hm hl he=>exact .win k au off es ar c (by simp only[St.bW,h] at hm⊢;exact hm) hl he
theorem GX (m:Mode) (st:St):(ag m st).bs=st.bs:=by cases m<;>rfl
theorem Rows.enter {st:St} {s:Nat} {x:D} {es:List (List D)} (m:Mode) (hr:Rows st s x es):Rows (ag m st) s x es:=hr.bs (GX m st)
theorem bH {k:IntKind} {m:Nat} (h:m≤gv k):aW k (m:Int)=m:=by
 show aW k (.ofNat m)=_;unfold aW;simp only[Nat.ble_eq_true_of_le h];rfl
theorem wrap_i64 {n : Int} (h1 : -9223372036854775808 ≤ n) (h2 : n ≤ 9223372036854775807) : aW .i64 n = n := by
  cases n with
  | ofNat m => exact bH (k := .i64) (m := m) (by simp only [gv]; have : (Int.ofNat m) = (m : Int) := rfl; omega)
  | negSucc m =>
    unfold aW
    have : Nat.ble (wm .i64) m = false := by
      cases hb : Nat.ble (wm .i64) m with
      | false => rfl
      | true => have := Nat.le_of_ble_eq_true hb; simp only [wm] at this; have : Int.negSucc m = -(m : Int) - 1 := by omega
                omega
    simp only [this]
theorem bv_and {w a b:Nat} (ha:a<2^w) (hb:b<2^w):(BitVec.ofInt w (a:Int) &&&BitVec.ofInt w (b:Int)).toNat=a &&&b:=by
 rw[BitVec.ofInt_natCast,BitVec.ofInt_natCast,BitVec.toNat_and,BitVec.toNat_ofNat,BitVec.toNat_ofNat,Nat.mod_eq_of_lt ha,Nat.mod_eq_of_lt hb]
theorem OT {w a b:Nat} (ha:a<2^w) (hb:b<2^w):(BitVec.ofInt w (a:Int)|||BitVec.ofInt w (b:Int)).toNat=a|||b:=by
 rw[BitVec.ofInt_natCast,BitVec.ofInt_natCast,BitVec.toNat_or,BitVec.toNat_ofNat,BitVec.toNat_ofNat,Nat.mod_eq_of_lt ha,Nat.mod_eq_of_lt hb]
end Go.V
namespace Go.V
variable{P:Pv} {ops:Array Oper} {rest:List Oper} {n:Nat} {loc:List D} {tmp:List (Nat×D)} {st:St} {Q:Fr→St→Prop} {ty:TypeId} {p:String} {a:Array Edge} {g:Option (Nat×Bool)} {dst:Nat}
theorem ae.len {t e:TypeId} {xo:Operand} {x:D} {s:Nat} {es:List (List D)} (pg:Nat.ble n dst=true) (hg:ax ops ⟨n,loc,tmp⟩ ⟨some dst,.call ⟨.builtin .len,#[xo],#[t]⟩,ty,p,a,g⟩=some true) (hx:Fr.ev ⟨n,loc,tmp⟩ xo=x) (hR:Rows st s x es) (ht:P.bZ t=some (.slice e))
  (h:ae P ops rest ⟨n,loc,(dst,(.int .i64 (es.length:Nat)))::tmp⟩ st Q):ae P ops (⟨some dst,.call ⟨.builtin .len,#[xo],#[t]⟩,ty,p,a,g⟩::rest) ⟨n,loc,tmp⟩ st Q:=by
 refine ae.T pg hg rfl (d:=.int .i64 (es.length:Nat)) (st1:=st) ?_ h;simp only[dE,List.map_cons,List.map_nil,hx];exact hR.JT ht
theorem ae.slice {t e:TypeId} {xo:Operand} {lo hi:Option Operand} {x:D} {s:Nat} {es:List (List D)} {l r:Nat} (pg:Nat.ble n dst=true) (hg:ax ops ⟨n,loc,tmp⟩ ⟨some dst,.slice t xo lo hi none,ty,p,a,g⟩=some true) (hx:Fr.ev ⟨n,loc,tmp⟩ xo=x) (hR:Rows st s x es) (ht:P.bZ t=some (.slice e)) (hs:bR P e=some s)
  (hb:bD es.length (lo.map (Fr.ev ⟨n,loc,tmp⟩)) (hi.map (Fr.ev ⟨n,loc,tmp⟩))=some (l,r)) (pW:l≤r∧r≤es.length)
  (h:∀y,Rows st s y ((es.take r).drop l)→y.ref≤x.ref→ae P ops rest ⟨n,loc,(dst,y)::tmp⟩ st Q):ae P ops (⟨some dst,.slice t xo lo hi none,ty,p,a,g⟩::rest) ⟨n,loc,tmp⟩ st Q:=by
 obtain⟨y,h1,h2,h3⟩:=hR.slice ht hs hb pW;refine ae.T pg hg rfl (d:=y) (st1:=st) ?_ (h y h2 h3);simp only[dE,hx,h1,Option.map_some]
theorem ae.append {N:Nat} {t1 t2 e:TypeId} {td:TypeDesc} {inf:TypeInfo} {z:List D} {xo yo:Operand} {x y:D} {s:Nat} {es ys:List (List D)} (pg:Nat.ble n dst=true) (hg:ax ops ⟨n,loc,tmp⟩ ⟨some dst,.call ⟨.builtin .append,#[xo,yo],#[t1,t2]⟩,ty,p,a,g⟩=some true)
  (hx:Fr.ev ⟨n,loc,tmp⟩ xo=x) (hy:Fr.ev ⟨n,loc,tmp⟩ yo=y) (hr:Acc N st s x es) (j_:Rows st s y ys)
  (h1:P.bZ t1=some (.slice e)) (h2:P.bZ t2=some td) (h3:ek td=false) (h4:P.info e=some inf) (h5:cI P e=some z) (h6:inf.size=s) (h7:z.length=s) (h8:inf.bytes≠0)
  (hN:N≤st.bs.length) (hf:st.flr≤N) (eG:st.ro≤N) (hb:(es.length+ys.length)*inf.bytes≤1099511627776)
  (h:∀x' ah,Acc N ah s x' (es++ys)→Ex N st ah→x'.ref≤ah.bs.length→(∀k,k<st.bs.length→k+1≠x.ref→ah.bs[k]?=st.bs[k]?)→(x'.ref=x.ref∨st.bs.length<x'.ref)→ae P ops rest ⟨n,loc,(dst,x')::tmp⟩ ah Q):
  ae P ops (⟨some dst,.call ⟨.builtin .append,#[xo,yo],#[t1,t2]⟩,ty,p,a,g⟩::rest) ⟨n,loc,tmp⟩ st Q:=by
 obtain⟨x',ah,q1,q2,q3,q4,q5,q6⟩:=hr.append j_ h1 h2 h3 h4 h5 h6 h7 h8 hN hf eG hb;refine ae.T pg hg rfl (d:=x') (st1:=ah) ?_ (h x' ah q2 q3 q4 q5 q6);simp only[dE,List.map_cons,List.map_nil,hx,hy];exact q1
theorem Rows.one {st:St} {s:Nat} {c:List D} (hc:c.length=s):Rows (st.push (.mem 0 true c)) s (.win st.bs.length 0 0 1 s) [c]:=by
 have:=Rows.win (st:=st.push (.mem 0 true c)) (s:=s) st.bs.length 0 0 [c] true c (St.mem_of (by simp[St.push])) (by simp[hc]) fun i e hi=>by
  cases i with
  |zero=>simp at hi;subst hi;simp[←hc]
  |succ i=>simp at hi
 exact this
theorem Rows.ref {st:St} {s:Nat} {x:D} {es:List (List D)} (h:Rows st s x es):x.ref≤st.bs.length:=by
 cases h with
 |nul=>simp[D.ref]
 |sl es h=>simp[D.ref]
 |win k au off es ar c hm hl he=>
  simp only[D.ref]
  rcases Nat.lt_or_ge k st.bs.length with h'|h'
  ·exact h'
  ·simp only[St.bW,List.getElem?_eq_none h'] at hm;cases hm
theorem Acc.ref {N:Nat} {st:St} {s:Nat} {x:D} {es:List (List D)} (h:Acc N st s x es):x.ref≤st.bs.length:=h.rows.ref
end Go.V
namespace Go.V
theorem gG:∀(xs c:List D) (off:Nat),off+xs.length≤c.length→setMany c off xs=c.take off++xs++c.drop (off+xs.length)
 |[],c,off,h=>by simp[setMany]
 |x::xs,c,off,h=>by
  simp only[setMany];simp only[List.length_cons] at h;rw[gG xs (c.set off x) (off+1) (by simp;omega)]
  have h1:(c.set off x).take (off+1)=c.take off++[x]:=by
   rw[List.take_set,List.take_add_one,List.getElem?_eq_getElem (by omega:off<c.length)];simp only[Option.toList_some];rw[List.set_append_right _ _ (by simp;omega)];have:off-(c.take off).length=0:=by simp;omega
   rw[this];rfl
  have h2:(c.set off x).drop (off+1+xs.length)=c.drop (off+(xs.length+1)):=by
   rw[List.drop_set_of_lt (by omega)];congr 1;omega
  rw[h1,h2];simp[List.length_cons]
theorem nJ (st:St) (b:jo):(st.push b).bs[st.bs.length]?=some b:=by simp[St.push]
variable{P:Pv} {ops:Array Oper} {rest:List Oper} {n:Nat} {loc:List D} {tmp:List (Nat×D)} {st:St} {Q:Fr→St→Prop} {ty:TypeId} {p:String} {a:Array Edge} {g:Option (Nat×Bool)} {dst:Nat}
theorem ae.makeSlice {t e:TypeId} {lo co:Operand} {k1 k2:IntKind} {m:Nat} {inf:TypeInfo} {z:List D} (pg:Nat.ble n dst=true) (hg:ax ops ⟨n,loc,tmp⟩ ⟨some dst,.makeSlice t lo co,ty,p,a,g⟩=some true)
  (hl:Fr.ev ⟨n,loc,tmp⟩ lo=.int k1 (m:Nat)) (hc:Fr.ev ⟨n,loc,tmp⟩ co=.int k2 (m:Nat)) (ht:P.bZ t=some (.slice e)) (hi:P.info e=some inf) (hz:cI P e=some z) (kR:z.length=inf.size) (hm:m*inf.bytes≤140737488355328) (Gn:m≤9223372036854775807)
  (h:ae P ops rest ⟨n,loc,(dst,.win st.bs.length 0 0 m inf.size)::tmp⟩ (st.push (.mem 0 true (dn m z))) Q):ae P ops (⟨some dst,.makeSlice t lo co,ty,p,a,g⟩::rest) ⟨n,loc,tmp⟩ st Q:=by
 refine ae.T pg hg rfl (d:=.win st.bs.length 0 0 m inf.size) (st1:=st.push (.mem 0 true (dn m z))) ?_ h;simp only[dE,hl,hc,fM,ht,hi,hz,Option.bind_some];rw[if_pos ⟨kR,by omega,by omega,by omega,by rw[←Int.natCast_mul];omega⟩]
 rfl
theorem jK {k au off:Nat} {ar:Bool} {c cs:List D} (hm:st.bs[k]?=some (.mem au ar c)) (hl:off+cs.length≤c.length) (hw:st.mD k (refs cs)=true):st.wr k au off cs=some {st with bs:=st.bs.set k (.mem au ar (c.take off++cs++c.drop (off+cs.length)))}:=by
 simp only[St.wr,St.mem_of hm];rw[if_pos ⟨hl,hw⟩,gG _ _ _ hl]
theorem ae.copy {t1 t2 e:TypeId} {Tm so:Operand} {k au off len s:Nat} {y:D} {ys:List (List D)} {ar:Bool} {c:List D} (pg:Nat.ble n dst=true) (hg:ax ops ⟨n,loc,tmp⟩ ⟨some dst,.call ⟨.builtin .copy,#[Tm,so],#[t1,t2]⟩,ty,p,a,g⟩=some true)
  (hd:Fr.ev ⟨n,loc,tmp⟩ Tm=.win k au off len s) (hy:Fr.ev ⟨n,loc,tmp⟩ so=y) (hR:Rows st s y ys) (ht:P.bZ t1=some (.slice e)) (hs:bR P e=some s) (hm:st.bs[k]?=some (.mem au ar c)) (hl:off+len*s≤c.length)
  (hw:st.mD k (refs (ys.flatten.take (min ys.length len*s)))=true)
  (h:ae P ops rest ⟨n,loc,(dst,.int .i64 (min ys.length len:Nat))::tmp⟩ {st with bs:=st.bs.set k (.mem au ar (c.take off++ys.flatten.take (min ys.length len*s)++c.drop (off+min ys.length len*s)))} Q):
  ae P ops (⟨some dst,.call ⟨.builtin .copy,#[Tm,so],#[t1,t2]⟩,ty,p,a,g⟩::rest) ⟨n,loc,tmp⟩ st Q:=by
 have wF:∀e∈ys,e.length=s:=fun e he=>by
  obtain⟨i,hi⟩:=List.getElem?_of_mem he;exact hR.s8 i e hi
 have jc:=bo wF;have I5:min ys.length len*s≤ys.length*s:=Nat.mul_le_mul_right s (Nat.min_le_left _ _);have Ug:min ys.length len*s≤len*s:=Nat.mul_le_mul_right s (Nat.min_le_right _ _);have htl:(ys.flatten.take (min ys.length len*s)).length=min ys.length len*s:=by rw[List.length_take,jc];omega
 refine ae.T pg hg rfl (d:=.int .i64 (min ys.length len:Nat)) (st1:={st with bs:=st.bs.set k (.mem au ar (c.take off++ys.flatten.take (min ys.length len*s)++c.drop (off+min ys.length len*s)))}) ?_ h;simp only[dE,List.map_cons,List.map_nil,hd,hy,bd,vt,ht,hs,Option.bind_some,hR.row];rw[if_neg (by simp[jc])];simp only[ne_eq,not_true_eq_false,if_false];have:=jK (st:=st) hm (cs:=ys.flatten.take (min ys.length len*s)) (off:=off) (by rw[htl];omega) hw;rw[this,htl];rfl
theorem ae.store {fr:Fr} {t:TypeId} {ao vo:Operand} {k au off:Nat} {v:D} {cs:List D} {ar:Bool} {c:List D} (hg:ax ops fr ⟨none,.store t ao vo,ty,p,a,g⟩=some true) (ha:fr.ev ao=.ptr k au off) (hv:fr.ev vo=v)
  (hcs:v.cells?=some cs) (hs:bR P t=some cs.length) (hm:st.bs[k]?=some (.mem au ar c)) (hl:off+cs.length≤c.length) (hw:st.mD k (refs cs)=true)
  (h:ae P ops rest fr {st with bs:=st.bs.set k (.mem au ar (c.take off++cs++c.drop (off+cs.length)))} Q):ae P ops (⟨none,.store t ao vo,ty,p,a,g⟩::rest) fr st Q:=by
 refine ae.N hg rfl (d:=.tup []) (st1:=_) ?_ h;simp only[dE,ha,hv,lp,hcs,hs];rw[if_pos trivial,jK hm hl hw];rfl
theorem ae.load {t:TypeId} {ao:Operand} {k au off:Nat} {d:D} {ar:Bool} {c:List D} (pg:Nat.ble n dst=true) (hg:ax ops ⟨n,loc,tmp⟩ ⟨some dst,.load t ao,ty,p,a,g⟩=some true) (ha:Fr.ev ⟨n,loc,tmp⟩ ao=.ptr k au off)
  (hm:st.bs[k]?=some (.mem au ar c)) (hd:dj P t (c.drop off)=some d)
  (h:ae P ops rest ⟨n,loc,(dst,d)::tmp⟩ st Q):ae P ops (⟨some dst,.load t ao,ty,p,a,g⟩::rest) ⟨n,loc,tmp⟩ st Q:=by
 refine ae.T pg hg rfl (d:=d) (st1:=st) ?_ h;simp only[dE,ha,fZ,St.mem_of hm,Option.bind_some,hd,Option.map_some]
theorem ae.next {io:Operand} {k pos:Nat} {b:List UInt8} (pg:Nat.ble n dst=true) (hg:ax ops ⟨n,loc,tmp⟩ ⟨some dst,.next io true,ty,p,a,g⟩=some true) (hx:Fr.ev ⟨n,loc,tmp⟩ io=.ptr k 0 0) (hm:st.bs[k]?=some (.iter b pos)) (hp:pos<b.length) (hw:st.mD k 0=true)
  (h:ae P ops rest ⟨n,loc,(dst,.tup [.bool true,.int .i64 (pos:Nat),.int .i32 ((Utf8.decode ⟨b.toArray⟩ pos).1:Nat)])::tmp⟩ {st with bs:=st.bs.set k (.iter b (pos+(Utf8.decode ⟨b.toArray⟩ pos).2))} Q):ae P ops (⟨some dst,.next io true,ty,p,a,g⟩::rest) ⟨n,loc,tmp⟩ st Q:=by
 refine ae.T pg hg rfl (d:=.tup [.bool true,.int .i64 (pos:Nat),.int .i32 ((Utf8.decode ⟨b.toArray⟩ pos).1:Nat)]) (st1:={st with bs:=st.bs.set k (.iter b (pos+(Utf8.decode ⟨b.toArray⟩ pos).2))}) ?_ h;simp only[dE,hx,uI,hm,if_pos hp,hw,if_true]
structure Kl (N k:Nat) (st ah:St):Prop where
 low:∀i,i<N→i≠k→ah.bs[i]?=st.bs[i]?
 len:st.bs.length≤ah.bs.length
 flr:ah.flr=st.flr
 ro:ah.ro=st.ro
theorem Kl.of {N k:Nat} {a b c:St} (h:Kl N k a b) (g:Ex N b c):Kl N k a c:=
 ⟨fun i hi hk=>(g.low i hi).trans (h.low i hi hk),Nat.le_trans h.len g.len,g.flr.trans h.flr,g.ro.trans h.ro⟩
theorem Kl.put {N k:Nat} {a b:St} (h:Kl N k a b) (bx:jo):Kl N k a ⟨b.bs.set k bx,b.flr,b.ro⟩:=
 ⟨fun i hi hk=>by simp only;rw[List.getElem?_set_ne (fun e=>hk e.symm)];exact h.low i hi hk,by simp only[List.length_set];exact h.len,h.flr,h.ro⟩
theorem Kl.take {k:Nat} {a b:St} (h:Kl a.bs.length k a b) (hk:k<a.bs.length) {bx:jo} (hb:b.bs[k]?=some bx):b.bs.take a.bs.length=a.bs.set k bx:=by
 apply List.ext_getElem?;intro i;rw[List.getElem?_take]
 by_cases hi:i<a.bs.length
 ·rw[if_pos hi]
  by_cases he:i=k
  ·subst he;rw[hb,List.getElem?_set_self hk]
  ·rw[h.low i hi he,List.getElem?_set_ne (fun e=>he e.symm)]
 ·rw[if_neg hi,List.getElem?_eq_none (by simp;omega)]
end Go.V
namespace Go.V
variable{P:Pv} {ops:Array Oper} {rest:List Oper} {n:Nat} {loc:List D} {tmp:List (Nat×D)} {st:St} {Q:Fr→St→Prop} {ty:TypeId} {p:String} {a:Array Edge} {g:Option (Nat×Bool)} {dst:Nat}
end Go.V
namespace Go.V
structure aZ where
 K:Nat→Prop
 P:St→Prop
 loc:∀{st ah:St},(∀k,K k→ah.bs[k]?=st.bs[k]?)→P st→P ah
def aZ.box (k:Nat) (b:jo):aZ:=⟨fun j=>j=k,fun st=>st.bs[k]?=some b,fun h p=>(h k rfl).trans p⟩
inductive eU (st:St) (s:Nat):D→List (List D)→Prop where
 |nul:eU st s .nul []
 |win (k au off:Nat) (es:List (List D)) (c:List D) (hm:st.bs[k]?=some (.mem au true c)) (hl:off+es.length*s≤c.length) (hc:(c.drop off).take (es.length*s)=es.flatten) (he:∀e∈es,e.length=s):eU st s (.win k au off es.length s) es
theorem eU.move {st ah:St} {s:Nat} {x:D} {es:List (List D)} (h:∀k,x.ref=k+1→ah.bs[k]?=st.bs[k]?) (p:eU st s x es):eU ah s x es:=by
 cases p with
 |nul=>exact .nul
 |win k au off es c hm hl hc he=>exact .win k au off es c ((h k (by simp only[D.ref])).trans hm) hl hc he
def aZ.aB (x:D) (s:Nat) (es:List (List D)):aZ:=⟨fun j=>x.ref=j+1,fun st=>eU st s x es,fun h p=>eU.move h p⟩
theorem eU.s8 {st:St} {s:Nat} {x:D} {es:List (List D)} (p:eU st s x es):∀e∈es,e.length=s:=by
 cases p with
 |nul=>intro e he;cases he
 |win k au off es c hm hl hc he=>exact he
theorem eU.rows {st:St} {s:Nat} {x:D} {es:List (List D)} (p:eU st s x es):Rows st s x es:=by
 cases p with
 |nul=>exact .nul
 |win k au off es c hm hl hc he=>
  refine .win k au off es true c (St.mem_of hm) hl fun i e hi=>?_
  have hil:i<es.length:=by
   rcases Nat.lt_or_ge i es.length with h'|h'
   ·exact h'
   ·rw[List.getElem?_eq_none h'] at hi;cases hi
  have h1:=jD he i e hi;rw[←hc,List.drop_take,List.take_take,List.drop_drop] at h1;have h2:(i+1)*s≤es.length*s:=Nat.mul_le_mul_right s hil;rw[Nat.add_mul,Nat.one_mul] at h2
  rwa [Nat.min_eq_left (by omega)] at h1
structure Has (N:Nat) (S st:St) (H:List aZ):Prop where
 ex:Ex N S st
 hN:N≤S.bs.length
 eG:S.ro≤N
 ok:∀(i:Nat) e,H[i]?=some e→e.P st∧∀k,e.K k→N≤k∧k<st.bs.length
 dis:∀(i j:Nat) a b,i≠j→H[i]?=some a→H[j]?=some b→∀k,a.K k→b.K k→False
theorem Has.start {N:Nat} {S:St} (hN:N≤S.bs.length) (eG:S.ro≤N):Has N S S []:=
 ⟨Ex.refl _ _,hN,eG,fun i e h=>by simp at h,fun i j a b _ h=>by simp at h⟩
theorem Has.len {N:Nat} {S st:St} {H:List aZ} (h:Has N S st H):S.bs.length≤st.bs.length:=h.ex.len
theorem Has.vJ {N:Nat} {S st ah:St} {H:List aZ} {j:Nat} {e e':aZ} (h:Has N S st H) (hj:H[j]?=some e)
  (wP:∀k,k<st.bs.length→¬e.K k→ah.bs[k]?=st.bs[k]?) (hlen:st.bs.length≤ah.bs.length) (hf:ah.flr=st.flr) (hr:ah.ro=st.ro)
  (hP:e'.P ah) (hK:∀k,e'.K k→e.K k∨st.bs.length≤k) (Qp:∀k,e'.K k→k<ah.bs.length):Has N S ah (H.set j e'):=by
 have hjl:j<H.length:=by
  rcases Nat.lt_or_ge j H.length with h'|h'
  ·exact h'
  ·rw[List.getElem?_eq_none h'] at hj;cases hj
 have hl:=h.ex.len;have hN:=h.hN;refine⟨⟨fun k hk=>?_,Nat.le_trans hl hlen,hf.trans h.ex.flr,hr.trans h.ex.ro⟩,h.hN,h.eG,fun i e0 hi=>?_,fun i i' a b hii ha hb k mq fQ=>?_⟩
 ·rw[wP k (by omega) fun jy=>by have:=((h.ok j e hj).2 k jy).1;omega];exact h.ex.low k hk
 ·by_cases hij:i=j
  ·subst hij;rw[List.getElem?_set_self hjl] at hi;cases hi;refine⟨hP,fun k hk=>⟨?_,Qp k hk⟩⟩
   rcases hK k hk with h1|h1
   ·exact((h.ok i e hj).2 k h1).1
   ·omega
  ·rw[List.getElem?_set_ne (fun e=>hij e.symm)] at hi;obtain⟨h1,h2⟩:=h.ok i e0 hi;refine⟨e0.loc (fun k hk=>wP k (h2 k hk).2 fun jy=>h.dis i j e0 e hij hi hj k hk jy) h1,fun k hk=>⟨(h2 k hk).1,Nat.lt_of_lt_of_le (h2 k hk).2 hlen⟩⟩
 ·have key:∀i a,i≠j→(H.set j e')[i]?=some a→a.K k→e'.K k→False:=by
   intro i a hij ha mq Rc;rw[List.getElem?_set_ne (fun e=>hij e.symm)] at ha
   rcases hK k Rc with h1|h1
   ·exact h.dis i j a e hij ha hj k mq h1
   ·have:=((h.ok i a ha).2 k mq).2;omega
  by_cases hij:i=j
  ·subst hij;have eH:=hb;rw[List.getElem?_set_self hjl] at ha;cases ha;exact key i' b (fun e=>hii e.symm) hb fQ mq
  ·by_cases N3:i'=j
   ·subst N3;rw[List.getElem?_set_self hjl] at hb;cases hb;exact key i a hij ha mq fQ
   ·rw[List.getElem?_set_ne (fun e=>hij e.symm)] at ha;rw[List.getElem?_set_ne (fun e=>N3 e.symm)] at hb;exact h.dis i i' a b hii ha hb k mq fQ
theorem Has.add {N:Nat} {S st ah:St} {H:List aZ} {e':aZ} (h:Has N S st H)
  (wP:∀k,k<st.bs.length→ah.bs[k]?=st.bs[k]?) (hlen:st.bs.length≤ah.bs.length) (hf:ah.flr=st.flr) (hr:ah.ro=st.ro)
  (hP:e'.P ah) (hK:∀k,e'.K k→st.bs.length≤k∧k<ah.bs.length):Has N S ah (e'::H):=by
 have hl:=h.ex.len;have hN:=h.hN;refine⟨⟨fun k hk=>?_,Nat.le_trans hl hlen,hf.trans h.ex.flr,hr.trans h.ex.ro⟩,h.hN,h.eG,fun i e0 hi=>?_,fun i i' a b hii ha hb k mq fQ=>?_⟩
 ·rw[wP k (by omega)];exact h.ex.low k hk
 ·cases i with
  |zero=>
   simp only[List.getElem?_cons_zero,Option.some.injEq] at hi;subst hi;exact⟨hP,fun k hk=>⟨by have:=(hK k hk).1;omega,(hK k hk).2⟩⟩
  |succ i=>
   rw[List.getElem?_cons_succ] at hi;obtain⟨h1,h2⟩:=h.ok i e0 hi;exact⟨e0.loc (fun k hk=>wP k (h2 k hk).2) h1,fun k hk=>⟨(h2 k hk).1,Nat.lt_of_lt_of_le (h2 k hk).2 hlen⟩⟩
 ·cases i with
  |zero=>
   simp only[List.getElem?_cons_zero,Option.some.injEq] at ha;subst ha
   cases i' with
   |zero=>exact hii rfl
   |succ i'=>
    rw[List.getElem?_cons_succ] at hb;have:=((h.ok i' b hb).2 k fQ).2;have:=(hK k mq).1;omega
  |succ i=>
   rw[List.getElem?_cons_succ] at ha
   cases i' with
   |zero=>
    simp only[List.getElem?_cons_zero,Option.some.injEq] at hb;subst hb;have:=((h.ok i a ha).2 k mq).2;have:=(hK k fQ).1;omega
   |succ i'=>
    rw[List.getElem?_cons_succ] at hb;exact h.dis i i' a b (fun e=>hii (by rw[e])) ha hb k mq fQ
theorem Has.sub {N:Nat} {S st:St} {H H':List aZ} (h:Has N S st H) (f:Nat→Nat) (hf:∀i j,f i=f j→i=j) (hs:∀i e,H'[i]?=some e→H[f i]?=some e):Has N S st H':=
 ⟨h.ex,h.hN,h.eG,fun i e hi=>h.ok _ e (hs i e hi),fun i j a b hij ha hb=>h.dis (f i) (f j) a b (fun e=>hij (hf i j e)) (hs i a ha) (hs j b hb)⟩
theorem Has.erase {N:Nat} {S st:St} {H:List aZ} (h:Has N S st H) (j:Nat):Has N S st (H.eraseIdx j):=by
 refine h.sub (fun i=>if i<j then i else i+1) (fun a b e=>?_) fun i e hi=>?_
 ·show a=b;have e':(if a<j then a else a+1)=(if b<j then b else b+1):=e
  split at e'<;>split at e'<;>omega
 ·show H[if i<j then i else i+1]?=some e;rw[List.getElem?_eraseIdx] at hi
  split at hi<;>rename_i h'<;>simp[h',hi]
theorem Has.take {N:Nat} {S st:St} {H:List aZ} (h:Has N S st H) (n:Nat):Has N S st (H.take n):=by
 refine h.sub id (fun a b e=>e) fun i e hi=>?_;rw[List.getElem?_take] at hi;split at hi;exact hi;cases hi
theorem Has.drop {N:Nat} {S st:St} {H:List aZ} (h:Has N S st H) (n:Nat):Has N S st (H.drop n):=by
 refine h.sub (fun i=>n+i) (fun a b e=>by omega) fun i e hi=>?_;rw[List.getElem?_drop] at hi;exact hi
theorem Has.front {N:Nat} {S st:St} {H:List aZ} (h:Has N S st H) {j:Nat} {e:aZ} (hj:H[j]?=some e):Has N S st (e::H.eraseIdx j):=by
 refine h.sub (fun i=>if i=0 then j else if i-1<j then i-1 else i) (fun a b e=>?_) fun i e' hi=>?_
 ·have e':(if a=0 then j else if a-1<j then a-1 else a)=(if b=0 then j else if b-1<j then b-1 else b):=e
  repeat' split at e'
  all_goals omega
 ·show H[if i=0 then j else if i-1<j then i-1 else i]?=some e'
  cases i with
  |zero=>rw[if_pos rfl];simp only[List.getElem?_cons_zero,Option.some.injEq] at hi;subst hi;exact hj
  |succ i=>
   rw[if_neg (by omega),Nat.add_sub_cancel];rw[List.getElem?_cons_succ,List.getElem?_eraseIdx] at hi
   split at hi<;>rename_i h'<;>simp[h',hi]
theorem Has.back {N:Nat} {S st:St} {H:List aZ} {j:Nat} {e:aZ} (h:Has N S st (e::H.eraseIdx j)) (hj:j<H.length):Has N S st (H.set j e):=by
 refine h.sub (fun i=>if i=j then 0 else if i<j then i+1 else i) (fun a b e=>?_) fun i e' hi=>?_
 ·have e':(if a=j then 0 else if a<j then a+1 else a)=(if b=j then 0 else if b<j then b+1 else b):=e
  repeat' split at e'
  all_goals omega
 ·show(e::H.eraseIdx j)[if i=j then 0 else if i<j then i+1 else i]?=some e'
  by_cases hij:i=j
  ·subst hij;rw[List.getElem?_set_self hj] at hi;rw[if_pos rfl];simpa using hi
  ·rw[List.getElem?_set_ne (fun e=>hij e.symm)] at hi;rw[if_neg hij]
   by_cases hlt:i<j
   ·rw[if_pos hlt,List.getElem?_cons_succ,List.getElem?_eraseIdx,if_pos hlt];exact hi
   ·rw[if_neg hlt]
    obtain⟨i',rfl⟩:∃i',i=i'+1:=⟨i-1,by omega⟩
    rw[List.getElem?_cons_succ,List.getElem?_eraseIdx,if_neg (by omega)];exact hi
theorem Has.eC {N:Nat} {S st:St} {H:List aZ} (h:Has N S st H) (s:Nat):Has N S st (.aB .nul s []::H):=
 h.add (fun _ _=>rfl) (Nat.le_refl _) rfl rfl .nul fun k hk=>by simp only[aZ.aB,D.ref] at hk;omega
theorem Has.own {N:Nat} {S st:St} {H:List aZ} (h:Has N S st H) {j:Nat} {x:D} {s:Nat} {es:List (List D)} (hj:H[j]?=some (.aB x s es)):eU st s x es:=(h.ok j _ hj).1
theorem Has.rows {N:Nat} {S st:St} {H:List aZ} (h:Has N S st H) {j:Nat} {x:D} {s:Nat} {es:List (List D)} (hj:H[j]?=some (.aB x s es)):Rows st s x es:=(h.own hj).rows
theorem Has.at {N:Nat} {S st:St} {H:List aZ} (h:Has N S st H) {j k:Nat} {b:jo} (hj:H[j]?=some (.box k b)):st.bs[k]?=some b:=(h.ok j _ hj).1
theorem Has.ge {N:Nat} {S st:St} {H:List aZ} (h:Has N S st H) {j k:Nat} {b:jo} (hj:H[j]?=some (.box k b)):N≤k∧k<st.bs.length:=(h.ok j _ hj).2 k rfl
def Arg (N:Nat) (S:St) (s:Nat) (x:D) (es:List (List D)):Prop:=Rows S s x es∧x.ref≤N
theorem Arg.rows {N:Nat} {S st:St} {H:List aZ} {s:Nat} {x:D} {es:List (List D)} (hx:Arg N S s x es) (h:Has N S st H):Rows st s x es:=hx.1.ex h.ex hx.2
theorem Arg.of {st S:St} {s:Nat} {x:D} {es:List (List D)} (hx:Rows st s x es) (hS:S.bs=st.bs):Arg st.bs.length S s x es:=⟨hx.bs hS,hx.ref⟩
theorem Arg.pure {N:Nat} {S:St} {s:Nat} {es:List D} {rs:List (List D)} (hx:∀st,Rows st s (.sl es) rs):Arg N S s (.sl es) rs:=⟨hx S,by simp[D.ref]⟩
theorem eL {N:Nat} {S st:St} {H:List aZ} (h:Has N S st H) {k:Nat} {cs:List D} (hk:N≤k) (hw:S.flr≤N∨refs cs=0):st.mD k (refs cs)=true:=by
 have h1:=h.ex.ro;have h2:=h.ex.flr;have h3:=h.eG;simp only[St.mD,Bool.and_eq_true,Bool.or_eq_true,decide_eq_true_eq];refine⟨by omega,?_⟩
 rcases hw with hw|hw
 ·exact .inl (by omega)
 ·exact .inr (.inl (by omega))
theorem Has.zY {N:Nat} {S st:St} {H:List aZ} (h:Has N S st H) {j k au:Nat} {b b':jo} (hj:H[j]?=some (.box k b)):Has N S ⟨st.bs.set k b',st.flr,st.ro⟩ (H.set j (.box k b')):=by
 have hk:=(h.ge hj).2;refine h.vJ hj (fun i hi hne=>?_) (by simp) rfl rfl ?_ (fun i hi=>.inl hi) fun i hi=>?_
 ·simp only;rw[List.getElem?_set_ne (fun e=>hne e.symm)]
 ·show(st.bs.set k b')[k]?=_;rw[List.getElem?_set_self hk]
 ·cases hi;simpa using hk
theorem Has.BN {N:Nat} {S st:St} {H:List aZ} (h:Has N S st H) (b:jo):Has N S (st.push b) (.box st.bs.length b::H):=by
 refine h.add (fun i hi=>?_) (by simp[St.push]) rfl rfl ?_ fun i hi=>?_
 ·simp only[St.push];rw[List.getElem?_append_left hi]
 ·exact nJ st b
 ·cases hi;simp[St.push]
theorem Has.nK {N:Nat} {S st:St} {H:List aZ} (h:Has N S st H) {s:Nat} {es:List (List D)} {cs:List D} {m:Nat} (hm:es.length=m) (hc:es.flatten=cs) (he:∀e∈es,e.length=s):Has N S (st.push (.mem 0 true cs)) (.aB (.win st.bs.length 0 0 m s) s es::H):=by
 subst hm hc;refine h.add (fun i hi=>?_) (by simp[St.push]) rfl rfl ?_ fun i hi=>?_
 ·simp only[St.push];rw[List.getElem?_append_left hi]
 ·have jc:=bo he;exact eU.win _ 0 0 es es.flatten (nJ st _) (by rw[jc];omega) (by rw[List.drop_zero,←jc,List.take_length]) he
 ·simp only[aZ.aB,D.ref] at hi;simp only[St.push,List.length_append,List.length_cons,List.length_nil];omega
def sR (s:Nat):Nat→List D→List (List D)
 |0,_=>[]
 |n+1,c=>c.take s::sR s n (c.drop s)
theorem lu:∀(xs c:List D) (off:Nat),(setMany c off xs).length=c.length
 |[],c,off=>rfl
 |x::xs,c,off=>by simp only[setMany];rw[lu xs];simp
theorem pZ {s:Nat}:∀{es:List (List D)} {i:Nat} {e e':List D},(∀e∈es,e.length=s)→es[i]?=some e→e'.length=s→(es.set i e').flatten=es.flatten.take (i*s)++e'++es.flatten.drop (i*s+s)
 |[],i,e,e',_,hi,_=>by simp at hi
 |x::es,0,e,e',h,hi,he=>by
  simp at hi;subst hi;have:=h x (List.mem_cons_self ..);simp[List.set_cons_zero,List.drop_left' this]
 |x::es,i+1,e,e',h,hi,he=>by
  have hx:=h x (List.mem_cons_self ..);have ih:=pZ (s:=s) (es:=es) (i:=i) (e:=e) (e':=e') (fun y hy=>h y (List.mem_cons_of_mem _ hy)) (by simpa using hi) he;rw[List.set_cons_succ,List.flatten_cons,ih,List.flatten_cons,Nat.add_mul,Nat.one_mul,Nat.add_comm (i*s) s,←hx,List.take_length_add_append,Nat.add_assoc,List.drop_length_add_append];simp only[List.append_assoc];rw[Nat.add_comm (i*x.length) x.length]
theorem Has.vO {N:Nat} {S st:St} {H:List aZ} (h:Has N S st H) {j k au off len s:Nat} {es:List (List D)} {i o:Nat} {e cs:List D} (hj:H[j]?=some (.aB (.win k au off len s) s es)) (hi:es[i]?=some e) (hl:o+cs.length≤s) (hw:S.flr≤N∨refs cs=0):
  ∃ah,st.wr k au (off+i*s+o) cs=some ah∧Has N S ah (H.set j (.aB (.win k au off len s) s (es.set i (setMany e o cs)))):=by
 have hk:=(h.ok j _ hj).2 k (by simp only[aZ.aB,D.ref]);have hown:=h.own hj
 cases hown with
 |win k au off es c hm hle hc he=>
  have hil:i<es.length:=by
   rcases Nat.lt_or_ge i es.length with h'|h'
   ·exact h'
   ·rw[List.getElem?_eq_none h'] at hi;cases hi
  have tW:=he e (List.mem_of_getElem? hi);have h2:(i+1)*s≤es.length*s:=Nat.mul_le_mul_right s hil;rw[Nat.add_mul,Nat.one_mul] at h2;refine⟨_,jK hm (by omega) (eL h hk.1 hw),?_⟩;refine h.vJ hj (fun n hn hne=>?_) (by simp) rfl rfl ?_ (fun n hn=>.inl hn) fun n hn=>?_
  ·simp only;rw[List.getElem?_set_ne (fun e=>hne (by simp only[aZ.aB,D.ref];omega))]
  ·have yR:∀e'∈es.set i (setMany e o cs),e'.length=s:=by
    intro e' mN
    rcases List.mem_or_eq_of_mem_set mN with h'|h'
    ·exact he e' h'
    ·rw[h',lu];exact tW
   have jc:es.flatten.length=es.length*s:=bo he;have:=eU.win (st:=⟨st.bs.set k (.mem au true (c.take (off+i*s+o)++cs++c.drop (off+i*s+o+cs.length))),st.flr,st.ro⟩) (s:=s) k au off (es.set i (setMany e o cs)) (c.take (off+i*s+o)++cs++c.drop (off+i*s+o+cs.length))
    (by simp only;rw[List.getElem?_set_self hk.2]) (by simp;omega) ?_ yR
   ·rw[List.length_set] at this;exact this
   ·rw[List.length_set,pZ he hi (by rw[lu];exact tW),gG cs e o (by omega)]
    have e1:(c.take (off+i*s+o)++cs++c.drop (off+i*s+o+cs.length)).drop off=(c.drop off).take (i*s+o)++cs++(c.drop off).drop (i*s+o+cs.length):=by
     rw[List.append_assoc,List.drop_append_of_le_length (by simp;omega),List.drop_take,List.append_assoc,List.drop_drop]
     congr 3<;>omega
    rw[e1]
    have e2:(c.drop off).take (i*s+o)=es.flatten.take (i*s)++e.take o:=by
     have:(c.drop off).take (i*s+o)=es.flatten.take (i*s+o):=by
      rw[←hc,List.take_take,Nat.min_eq_left (by omega)]
     rw[this,List.take_add]
     congr 1
     have:=jD he i e hi;rw[←this,List.take_take,Nat.min_eq_left (by omega)]
    have e3:(List.drop (i*s+o+cs.length) (c.drop off)).take (es.length*s-(i*s+o+cs.length))=e.drop (o+cs.length)++es.flatten.drop (i*s+s):=by
     have:(List.drop (i*s+o+cs.length) (c.drop off)).take (es.length*s-(i*s+o+cs.length))=es.flatten.drop (i*s+o+cs.length):=by
      rw[←hc,List.drop_take]
     rw[this];have h4:=jD he i e hi;rw[←h4,List.drop_take];have:es.flatten.drop (i*s+o+cs.length)=(es.flatten.drop (i*s+o+cs.length)).take (s-(o+cs.length))++(es.flatten.drop (i*s+o+cs.length)).drop (s-(o+cs.length)):=(List.take_append_drop ..).symm;rw[this,List.drop_drop,List.drop_drop]
     congr 2
     ·congr 1;omega
     ·omega
    rw[e2]
    have Gp:(es.flatten.take (i*s)++e.take o++cs).length=i*s+o+cs.length:=by
     simp only[List.length_append,List.length_take,jc,tW];omega
    rw[List.take_append,Gp,e3,List.take_of_length_le (by rw[Gp];omega)];simp[List.append_assoc]
  ·simp only[aZ.aB,D.ref] at hn;simp only[List.length_set];omega
end Go.V
namespace Go.V
theorem aG {α:Type} {a:α} {l:List α}:(a::l)[0]?=some a:=rfl
theorem aV {α:Type} {a b:α} {l:List α}:(a::b::l)[1]?=some b:=rfl
theorem bE {α:Type} {a b c:α} {l:List α}:(a::b::c::l)[2]?=some c:=rfl
theorem cD {α:Type} {a b c d:α} {l:List α}:(a::b::c::d::l)[3]?=some d:=rfl
theorem cW {α:Type} {a b c d e:α} {l:List α}:(a::b::c::d::e::l)[4]?=some e:=rfl
theorem du {α:Type} {a b c d e f:α} {l:List α}:(a::b::c::d::e::f::l)[5]?=some f:=rfl
theorem dO {α:Type} {a b c d e f g:α} {l:List α}:(a::b::c::d::e::f::g::l)[6]?=some g:=rfl
theorem dN {α:Type} {a b c d e f g h:α} {l:List α}:(a::b::c::d::e::f::g::h::l)[7]?=some h:=rfl
def B4 (t:Nat):List (Nat×D)→Option D
 |[]=>none
 |(u,d)::l=>match Nat.beq t u with
  |true=>some d
  |false=>B4 t l
def FG:Value→Option D
 | .int k n=>some (.int k n)
 | .bool b=>some (.bool b)
 | .string s=>some (.str s.data.toList)
 | .slice none 0 0=>some .nul
 | .pointer none=>some .pnil
 | .nilFunc=>some .nilfn
 | .nilIface=>some .nilif
 |_=>none
def Fr.UB (f:Fr):Operand→Option D
 | .tmp t=>match Nat.ble f.n t with
  |false=>f.loc[t]?
  |true=>B4 t f.tmp
 | .const v=>FG v
 | .func g=>some (.fn g [])
 | .global _=>none
theorem sA {t:Nat} {d:D}:∀{l:List (Nat×D)},B4 t l=some d→look t l=d
 |(u,e)::l,h=>by
  unfold B4 at h;unfold look
  split at h
  ·rename_i hb;cases h;simp only[hb]
  ·rename_i hb;simp only[hb];exact sA h
theorem BV {d e:D}:∀{l:List D} {i:Nat},l[i]?=some d→nth e l i=d
 |x::l,0,h=>by simpa[nth] using h
 |x::l,i+1,h=>by rw[List.getElem?_cons_succ] at h;exact BV (l:=l) h
 |[],i,h=>by simp at h
theorem ev {fr:Fr} {o:Operand} {d:D} (h:fr.UB o=some d):fr.ev o=d:=by
 unfold Fr.UB at h;unfold Fr.ev
 split at h
 ·unfold Fr.get
  split at h
  ·rename_i hb;simp only[hb];exact BV h
  ·rename_i hb;simp only[hb];exact sA h
 ·unfold FG at h
  split at h<;>cases h<;>rfl
 ·cases h;rfl
 ·cases h
def jT (st:St) (p:D) (r:List D):Prop:=
 (∃k au off ar c,p=.ptr k au off∧st.bW k au=some (ar,c)∧(c.drop off).take r.length=r)∨∃c,p=.ep c∧c.take r.length=r
def pC (x:D) (s:Nat) (i o:Nat) (p:D):Prop:=∃k au off len,x=.win k au off len s∧p=.ptr k au (off+i*s+o)
theorem lU {P:Pv} {t:TypeId} {r c:List D} {d:D} (hc:c.take r.length=r) (h:dj P t r=some d):dj P t c=some d:=by
 have hlen:r.length≤c.length:=by have:=congrArg List.length hc;simp at this;omega
 unfold dj at h⊢
 cases hu:P.bZ t with
 |none=>rw[hu] at h;cases h
 |some u=>
  rw[hu] at h;have key:∀n,n≤r.length→c.take n=r.take n:=fun n hn=>by rw[←hc,List.take_take,Nat.min_eq_left hn]
  cases u with
  |struct f=>
   simp only at h⊢
   cases hs:bR P t with
   |none=>rw[hs] at h;cases h
   |some n=>
    rw[hs] at h;simp only[Option.bind_some] at h⊢
    split at h
    ·rename_i hn;rw[if_pos (by omega),key n hn];exact h
    ·cases h
  |array m f=>
   simp only at h⊢
   cases hs:bR P t with
   |none=>rw[hs] at h;cases h
   |some n=>
    rw[hs] at h;simp only[Option.bind_some] at h⊢
    split at h
    ·rename_i hn;rw[if_pos (by omega),key n hn];exact h
    ·cases h
  |_=>
   simp only at h⊢
   cases r with
   |nil=>cases h
   |cons y r=>
    cases c with
    |nil=>simp at hlen
    |cons z c=>
     simp only[List.length_cons,List.take_succ_cons,List.cons.injEq] at hc;rw[←h];simp[hc.1]
theorem jT.load {P:Pv} {st:St} {p:D} {r:List D} (h:jT st p r) {t:TypeId} {d:D} (hd:dj P t r=some d):fZ P t p st=some d:=by
 rcases h with⟨k,au,off,ar,c,rfl,hm,hc⟩|⟨c,rfl,hc⟩
 ·simp only[fZ,hm,Option.bind_some];exact lU hc hd
 ·simp only[fZ];exact lU hc hd
theorem jT.field {P:Pv} {st:St} {p:D} {r:List D} (h:jT st p r) {t:TypeId} {fields:Array Field} {f:Nat} {fd:Field} {m:Nat} (ht:P.bZ t=some (.struct fields)) (hf:fields[f]?=some fd) (hm:bR P fd.type=some m) (uZ:m≠0):
  ∃p',eK P t p f=some p'∧jT st p' (r.drop fd.offset):=by
 have key:∀c:List D,c.take r.length=r→(c.drop fd.offset).take (r.drop fd.offset).length=r.drop fd.offset:=by
  intro c hc;rw[List.length_drop,←List.drop_take,hc]
 rcases h with⟨k,au,off,ar,c,rfl,AS,hc⟩|⟨c,rfl,hc⟩
 ·refine⟨.ptr k au (off+fd.offset),?_,.inl ⟨k,au,off+fd.offset,ar,c,rfl,AS,?_⟩⟩
  ·simp only[eK,ht,hf,Option.bind_some,hm];rw[if_neg (by simp only[Option.some.injEq];exact uZ)]
  ·rw[←List.drop_drop];exact key _ hc
 ·refine⟨.ep (c.drop fd.offset),?_,.inr ⟨_,rfl,key _ hc⟩⟩;simp only[eK,ht,hf,Option.bind_some,hm];rw[if_neg (by simp only[Option.some.injEq];exact uZ)]
theorem Rows.PV {P:Pv} {st:St} {s:Nat} {x:D} {es:List (List D)} (h:Rows st s x es) {t e:TypeId} (ht:P.bZ t=some (.slice e)) (hs:bR P e=some s) {k:IntKind} {i:Nat} {r:List D} (hi:es[i]?=some r):
  ∃p,bM P t x (.int k (i:Nat)) st=some p∧jT st p r:=by
 have DM:=h.s8 _ _ hi
 cases h with
 |nul=>simp at hi
 |sl es h=>
  rw[List.getElem?_map] at hi;obtain⟨d,hd,rfl⟩:=Option.map_eq_some_iff.1 hi;obtain⟨h1,h2⟩:=h d (List.mem_of_getElem? hd);refine⟨.ep d.cells,?_,.inr ⟨_,rfl,List.take_length ..⟩⟩;simp only[bM,ht,hs,Option.bind_some,if_pos (show(0:Int)≤(i:Nat) by omega),Int.toNat_natCast,hd,h1,if_pos h2]
 |win k au off es ar c hm hl he=>
  have hlt:i<es.length:=by
   rcases Nat.lt_or_ge i es.length with h'|h'
   ·exact h'
   ·rw[List.getElem?_eq_none h'] at hi;cases hi
  refine⟨.ptr k au (off+i*s),?_,.inl ⟨k,au,_,ar,c,rfl,hm,by rw[DM];exact he _ _ hi⟩⟩;simp only[bM,ht,hs,Option.bind_some,hm,Option.isSome_some];rw[if_pos ⟨trivial,by omega,by omega,trivial⟩];rfl
variable{P:Pv} {ops:Array Oper} {rest:List Oper} {fr az:Fr} {st:St} {Q:Fr→St→Prop} {ty:TypeId} {pp:String} {a:Array Edge} {g:Option (Nat×Bool)} {dst:Nat} {N:Nat} {S:St} {H:List aZ}
theorem ae.go {op:Op} {d:D} {st1:St} (hg:ax ops fr ⟨some dst,op,ty,pp,a,g⟩=some true) (hc:ja op=false) (h1:dE P fr st op ty=some (d,st1)) (hp:fr.put dst d=az)
  (h:ae P ops rest az st1 Q):ae P ops (⟨some dst,op,ty,pp,a,g⟩::rest) fr st Q:=
 ae.op hg hc h1 (by show ae P ops rest (fr.put dst d) st1 Q;rw[hp];exact h)
theorem ae.fw {j k au off:Nat} {ar:Bool} {c:List D} {d:D} {t:TypeId} {ao:Operand} (hH:Has N S st H) (hg:ax ops fr ⟨some dst,.load t ao,ty,pp,a,g⟩=some true) (ha:fr.ev ao=.ptr k au off) (hj:H[j]?=some (.box k (.mem au ar c))) (hd:dj P t (c.drop off)=some d) (hp:fr.put dst d=az)
  (h:ae P ops rest az st Q):ae P ops (⟨some dst,.load t ao,ty,pp,a,g⟩::rest) fr st Q:=by
 refine ae.go hg rfl (d:=d) (st1:=st) ?_ hp h;simp only[dE,ha,fZ,St.mem_of (hH.at hj),Option.bind_some,hd,Option.map_some]
theorem ae.kE {j k au off:Nat} {ar:Bool} {c cs:List D} {v:D} {t:TypeId} {ao vo:Operand} (hH:Has N S st H) (hg:ax ops fr ⟨none,.store t ao vo,ty,pp,a,g⟩=some true) (ha:fr.ev ao=.ptr k au off) (hv:fr.ev vo=v) (hcs:v.cells?=some cs) (hs:bR P t=some cs.length) (hj:H[j]?=some (.box k (.mem au ar c))) (hl:off+cs.length≤c.length) (hw:S.flr≤N∨refs cs=0)
  (h:∀ah,Has N S ah (H.set j (.box k (.mem au ar (setMany c off cs))))→ae P ops rest fr ah Q):ae P ops (⟨none,.store t ao vo,ty,pp,a,g⟩::rest) fr st Q:=by
 refine ae.N hg rfl (d:=.tup []) (st1:=⟨st.bs.set k (.mem au ar (setMany c off cs)),st.flr,st.ro⟩) ?_ (h _ (hH.zY (au:=au) hj));simp only[dE,ha,hv,lp,hcs,hs,if_pos trivial];rw[jK (hH.at hj) hl (eL hH (hH.ge hj).1 hw),gG _ _ _ hl];rfl
theorem ae.sQ {e:TypeId} {cs:List D} {az:Nat→Fr} (hH:Has N S st H) (hg:ax ops fr ⟨some dst,.alloc e,ty,pp,a,g⟩=some true) (hz:cI P e=some cs) (hp:∀k,fr.put dst (.ptr k 0 0)=az k)
  (h:∀k ah,S.bs.length≤k→Has N S ah (.box k (.mem 0 false cs)::H)→ae P ops rest (az k) ah Q):ae P ops (⟨some dst,.alloc e,ty,pp,a,g⟩::rest) fr st Q:=by
 refine ae.go hg rfl (d:=.ptr st.bs.length 0 0) (st1:=st.push (.mem 0 false cs)) ?_ (hp _) (h _ _ hH.len (hH.BN _));simp only[dE,hz,Option.map_some]
theorem ae.tX {e:TypeId} {xo:Operand} {cs:List D} {az:Nat→Fr} (hH:Has N S st H) (hg:ax ops fr ⟨some dst,.box e xo,ty,pp,a,g⟩=some true) (hz:(fr.ev xo).cells?=some cs) (hp:∀k,fr.put dst (.ptr k 0 0)=az k)
  (h:∀k ah,S.bs.length≤k→Has N S ah (.box k (.mem 0 false cs)::H)→ae P ops rest (az k) ah Q):ae P ops (⟨some dst,.box e xo,ty,pp,a,g⟩::rest) fr st Q:=by
 refine ae.go hg rfl (d:=.ptr st.bs.length 0 0) (st1:=st.push (.mem 0 false cs)) ?_ (hp _) (h _ _ hH.len (hH.BN _));simp only[dE,hz,Option.map_some]
theorem ae.J8 {t e:TypeId} {lo co:Operand} {k1 k2:IntKind} {m:Nat} {inf:TypeInfo} {z:List D} {s:Nat} {az:Nat→Fr} (hH:Has N S st H) (hg:ax ops fr ⟨some dst,.makeSlice t lo co,ty,pp,a,g⟩=some true)
  (hl:fr.ev lo=.int k1 (m:Nat)) (hc:fr.ev co=.int k2 (m:Nat)) (ht:P.bZ t=some (.slice e)) (hi:P.info e=some inf) (hz:cI P e=some z) (hsz:inf.size=s) (kR:z.length=s) (Q5:inf.bytes≤1024) (uZ:m≤1073741824) (hp:∀k,fr.put dst (.win k 0 0 m s)=az k)
  (h:∀k ah,S.bs.length≤k→Has N S ah (.aB (.win k 0 0 m s) s (List.replicate m z)::H)→ae P ops rest (az k) ah Q):ae P ops (⟨some dst,.makeSlice t lo co,ty,pp,a,g⟩::rest) fr st Q:=by
 have hm:m*inf.bytes≤140737488355328:=Nat.le_trans (Nat.mul_le_mul uZ Q5) (by decide);subst hsz;refine ae.go hg rfl (d:=.win st.bs.length 0 0 m inf.size) (st1:=st.push (.mem 0 true (dn m z))) ?_ (hp _) (h _ _ hH.len (hH.nK (by simp) rfl (fun e he=>by rw[List.eq_of_mem_replicate he];exact kR)));simp only[dE,hl,hc,fM,ht,hi,hz,Option.bind_some];rw[if_pos ⟨kR,by omega,by omega,by omega,by rw[←Int.natCast_mul];omega⟩]
 rfl
theorem Has.append {j:Nat} {x y:D} {s:Nat} {es ys:List (List D)} (hH:Has N S st H) (hj:H[j]?=some (.aB x s es)) (hy:Rows st s y ys) {t1 t2 e:TypeId} {td:TypeDesc} {inf:TypeInfo} {z:List D}
  (h1:P.bZ t1=some (.slice e)) (h2:P.bZ t2=some td) (h3:ek td=false) (h4:P.info e=some inf) (h5:cI P e=some z) (h6:inf.size=s) (h7:z.length=s) (h8:0<inf.bytes∧inf.bytes≤1024)
  (pg:es.length+ys.length≤1073741824) (hw:S.flr≤N∨refs ys.flatten=0):
  ∃x' ah,bd P .append [t1,t2] [x,y] st=some (x',ah)∧Has N S ah (H.set j (.aB x' s (es++ys)))∧(ys=[]→x'=x):=by
 have hb:(es.length+ys.length)*inf.bytes≤1099511627776:=Nat.le_trans (Nat.mul_le_mul pg h8.2) (by decide);have ig:=hy.row
 have wF:∀e∈ys,e.length=s:=fun e he=>by
  obtain⟨i,hi⟩:=List.getElem?_of_mem he;exact hy.s8 i e hi
 have jc:=bo wF;have hown:=hH.own hj;have hkk:=(hH.ok j _ hj).2;have hS:=hH.len;have Uw:=hH.hN;subst h6;simp only[bd,cX,h1,h2,h3,Bool.false_eq_true,if_false,h4,h5,ig,Option.bind_some];rw[if_neg (by rintro(h|h|h);exact h jc;exact absurd h (by omega);exact h h7)]
 have gw:∀e,H[j]?=some e→H.set j e=H:=fun e he=>by
  apply List.ext_getElem?;intro i
  by_cases hij:i=j
  ·subst hij
   have:i<H.length:=by
    rcases Nat.lt_or_ge i H.length with h'|h'
    ·exact h'
    ·rw[List.getElem?_eq_none h'] at he;cases he
   rw[List.getElem?_set_self this,he]
  ·rw[List.getElem?_set_ne (fun e=>hij e.symm)]
 cases hown with
 |nul=>
  simp only[List.nil_append]
  by_cases h0:ys.length=0
  ·rw[if_pos h0]
   have:ys=[]:=by cases ys with|nil=>rfl|cons _ _=>simp at h0
   subst this;exact⟨.nul,st,rfl,by rw[gw _ hj];exact hH,fun _=>rfl⟩
  ·rw[if_neg h0,if_pos (by simpa using hb)];refine⟨_,_,rfl,?_,fun e=>absurd (by rw[e];rfl) h0⟩;refine hH.vJ hj (fun k hk _=>by simp only[St.push];rw[List.getElem?_append_left hk]) (by simp[St.push]) rfl rfl ?_ (fun k hk=>?_) fun k hk=>?_
   ·exact eU.win _ 0 0 ys ys.flatten (nJ st _) (by rw[jc];omega) (by rw[List.drop_zero,←jc,List.take_length]) wF
   ·simp only[aZ.aB,D.ref] at hk;right;omega
   ·simp only[aZ.aB,D.ref] at hk;simp only[St.push,List.length_append,List.length_cons,List.length_nil];omega
 |win k au off es c hm hl hc he=>
  have hk:=hkk k (by simp only[aZ.aB,D.ref]);simp only[St.mem_of hm];rw[if_neg (by rintro(h|h);exact h rfl;omega)]
  by_cases h0:ys.length=0
  ·rw[if_pos h0]
   have:ys=[]:=by cases ys with|nil=>rfl|cons _ _=>simp at h0
   subst this;simp only[List.append_nil];exact⟨_,st,rfl,by rw[gw _ hj];exact hH,fun _=>rfl⟩
  ·rw[if_neg h0,if_pos ⟨hb,eL hH hk.1 hw⟩];refine⟨_,_,rfl,?_,fun e=>absurd (by rw[e];rfl) h0⟩;have nc:es.length+ys.length=(es++ys).length:=by simp
   have gu:(c.take (off+es.length*inf.size)).drop off=es.flatten:=by rw[List.drop_take,←hc];congr 1;omega
   rw[nc,gu];refine hH.vJ hj (fun n hn hne=>by simp only;rw[List.getElem?_set_ne (fun e=>hne (by simp only[aZ.aB,D.ref];omega))]) (by simp) rfl rfl ?_ (fun n hn=>?_) fun n hn=>?_
   ·have tW:∀e∈es++ys,e.length=inf.size:=fun e h=>by
     rcases List.mem_append.1 h with h|h
     ·exact he e h
     ·exact wF e h
    have Gu:=bo tW;refine eU.win k (au+1) 0 (es++ys) (es++ys).flatten ?_ (by rw[Gu];omega) (by rw[List.drop_zero,←Gu,List.take_length]) tW;simp only;rw[List.getElem?_set_self hk.2,List.flatten_append]
   ·simp only[aZ.aB,D.ref] at hn⊢;left;omega
   ·simp only[aZ.aB,D.ref] at hn;simp only[List.length_set];omega
theorem ae.ew {j:Nat} {x y:D} {s:Nat} {es ys:List (List D)} {t1 t2 e:TypeId} {td:TypeDesc} {inf:TypeInfo} {z:List D} {xo yo:Operand} {az:D→Fr} (hH:Has N S st H) (hg:ax ops fr ⟨some dst,.call ⟨.builtin .append,#[xo,yo],#[t1,t2]⟩,ty,pp,a,g⟩=some true)
  (hx:fr.ev xo=x) (hy:fr.ev yo=y) (hj:H[j]?=some (.aB x s es)) (j_:Rows st s y ys)
  (h1:P.bZ t1=some (.slice e)) (h2:P.bZ t2=some td) (h3:ek td=false) (h4:P.info e=some inf) (h5:cI P e=some z) (h6:inf.size=s) (h7:z.length=s) (h8:0<inf.bytes∧inf.bytes≤1024)
  (hp:∀x',fr.put dst x'=az x') (hb:es.length+ys.length≤1073741824) (hw:S.flr≤N∨refs ys.flatten=0)
  (h:∀x' ah,Has N S ah (H.set j (.aB x' s (es++ys)))→ae P ops rest (az x') ah Q):
  ae P ops (⟨some dst,.call ⟨.builtin .append,#[xo,yo],#[t1,t2]⟩,ty,pp,a,g⟩::rest) fr st Q:=by
 obtain⟨x',ah,q1,q2,q3⟩:=hH.append hj j_ h1 h2 h3 h4 h5 h6 h7 h8 hb hw;refine ae.go hg rfl (d:=x') (st1:=ah) ?_ (hp _) (h x' ah q2);simp only[dE,List.map_cons,List.map_nil,hx,hy];exact q1
theorem ae.GJ {j:Nat} {x y:D} {s:Nat} {es ys:List (List D)} {t1 t2 e:TypeId} {td:TypeDesc} {inf:TypeInfo} {z:List D} {xo yo:Operand} {az:D→Fr} (hH:Has N S st H) (hg:ax ops fr ⟨some dst,.call ⟨.builtin .append,#[xo,yo],#[t1,t2]⟩,ty,pp,a,g⟩=some true)
  (hx:fr.ev xo=x) (hy:fr.ev yo=y) (hj:H[j]?=some (.aB x s es)) (j_:Rows st s y ys)
  (h1:P.bZ t1=some (.slice e)) (h2:P.bZ t2=some td) (h3:ek td=false) (h4:P.info e=some inf) (h5:cI P e=some z) (h6:inf.size=s) (h7:z.length=s) (h8:0<inf.bytes∧inf.bytes≤1024)
  (hp:∀x',fr.put dst x'=az x') (hb:es.length+ys.length≤1073741824) (hw:S.flr≤N∨refs ys.flatten=0)
  (h:∀x' ah,(ys=[]→x'=x)→Has N S ah (H.set j (.aB x' s (es++ys)))→ae P ops rest (az x') ah Q):
  ae P ops (⟨some dst,.call ⟨.builtin .append,#[xo,yo],#[t1,t2]⟩,ty,pp,a,g⟩::rest) fr st Q:=by
 obtain⟨x',ah,q1,q2,q3⟩:=hH.append hj j_ h1 h2 h3 h4 h5 h6 h7 h8 hb hw;refine ae.go hg rfl (d:=x') (st1:=ah) ?_ (hp _) (h x' ah q3 q2);simp only[dE,List.map_cons,List.map_nil,hx,hy];exact q1
theorem ae.iA {t e:TypeId} {xo:Operand} {x:D} {s:Nat} {es:List (List D)} (hg:ax ops fr ⟨some dst,.call ⟨.builtin .len,#[xo],#[t]⟩,ty,pp,a,g⟩=some true) (hx:fr.ev xo=x) (hR:Rows st s x es) (ht:P.bZ t=some (.slice e)) (hp:fr.put dst (.int .i64 (es.length:Nat))=az)
  (h:ae P ops rest az st Q):ae P ops (⟨some dst,.call ⟨.builtin .len,#[xo],#[t]⟩,ty,pp,a,g⟩::rest) fr st Q:=by
 refine ae.go hg rfl (d:=.int .i64 (es.length:Nat)) (st1:=st) ?_ hp h;simp only[dE,List.map_cons,List.map_nil,hx];exact hR.JT ht
theorem ae.jY {t:TypeId} {xo:Operand} {b:List UInt8} (hg:ax ops fr ⟨some dst,.call ⟨.builtin .len,#[xo],#[t]⟩,ty,pp,a,g⟩=some true) (hx:fr.ev xo=.str b) (ht:P.bZ t=some .string) (hp:fr.put dst (.int .i64 (b.length:Nat))=az)
  (h:ae P ops rest az st Q):ae P ops (⟨some dst,.call ⟨.builtin .len,#[xo],#[t]⟩,ty,pp,a,g⟩::rest) fr st Q:=by
 refine ae.go hg rfl (d:=.int .i64 (b.length:Nat)) (st1:=st) ?_ hp h;simp only[dE,List.map_cons,List.map_nil,hx,bd,ht]
theorem ae.oL {t e:TypeId} {xo io:Operand} {x:D} {s i:Nat} {kk:IntKind} {es:List (List D)} {r:List D} {az:D→Fr} (hg:ax ops fr ⟨some dst,.indexAddr t xo io,ty,pp,a,g⟩=some true) (hx:fr.ev xo=x) (hi:fr.ev io=.int kk (i:Nat)) (hR:Rows st s x es) (ht:P.bZ t=some (.slice e)) (hs:bR P e=some s) (hr:es[i]?=some r) (hp:∀p,fr.put dst p=az p)
  (h:∀p,jT st p r→ae P ops rest (az p) st Q):ae P ops (⟨some dst,.indexAddr t xo io,ty,pp,a,g⟩::rest) fr st Q:=by
 obtain⟨p,h1,h2⟩:=hR.PV ht hs (k:=kk) hr;refine ae.go hg rfl (d:=p) (st1:=st) ?_ (hp p) (h p h2);simp only[dE,hx,hi,h1,Option.map_some]
theorem ae.KB {t:TypeId} {xo:Operand} {x:D} {r:List D} {f m:Nat} {fields:Array Field} {fd:Field} {az:D→Fr} (hg:ax ops fr ⟨some dst,.fieldAddr t xo f,ty,pp,a,g⟩=some true) (hx:fr.ev xo=x) (hR:jT st x r) (ht:P.bZ t=some (.struct fields)) (hf:fields[f]?=some fd) (hm:bR P fd.type=some m) (uZ:m≠0) (hp:∀p,fr.put dst p=az p)
  (h:∀p,jT st p (r.drop fd.offset)→ae P ops rest (az p) st Q):ae P ops (⟨some dst,.fieldAddr t xo f,ty,pp,a,g⟩::rest) fr st Q:=by
 obtain⟨p,h1,h2⟩:=hR.field ht hf hm uZ;refine ae.go hg rfl (d:=p) (st1:=st) ?_ (hp p) (h p h2);simp only[dE,hx,h1,Option.map_some]
theorem ae.cO {t:TypeId} {ao:Operand} {x d:D} {r:List D} (hg:ax ops fr ⟨some dst,.load t ao,ty,pp,a,g⟩=some true) (ha:fr.ev ao=x) (hR:jT st x r) (hd:dj P t r=some d) (hp:fr.put dst d=az)
  (h:ae P ops rest az st Q):ae P ops (⟨some dst,.load t ao,ty,pp,a,g⟩::rest) fr st Q:=by
 refine ae.go hg rfl (d:=d) (st1:=st) ?_ hp h;simp only[dE,ha,hR.load hd,Option.map_some]
theorem ae.Am {t e:TypeId} {xo io:Operand} {x:D} {s i j:Nat} {kk:IntKind} {es:List (List D)} {az:D→Fr} (hH:Has N S st H) (hg:ax ops fr ⟨some dst,.indexAddr t xo io,ty,pp,a,g⟩=some true) (hx:fr.ev xo=x) (hi:fr.ev io=.int kk (i:Nat)) (hj:H[j]?=some (.aB x s es)) (ht:P.bZ t=some (.slice e)) (hs:bR P e=some s) (hr:i<es.length) (hp:∀p,fr.put dst p=az p)
  (h:∀p,pC x s i 0 p→ae P ops rest (az p) st Q):ae P ops (⟨some dst,.indexAddr t xo io,ty,pp,a,g⟩::rest) fr st Q:=by
 have hown:=hH.own hj
 cases hown with
 |nul=>simp at hr
 |win k au off es c hm hl hc he=>
  refine ae.go hg rfl (d:=.ptr k au (off+i*s)) (st1:=st) ?_ (hp _) (h _ ⟨k,au,off,_,rfl,rfl⟩);simp only[dE,hx,hi,bM,ht,hs,Option.bind_some,St.mem_of hm,Option.isSome_some];rw[if_pos ⟨trivial,by omega,by omega,trivial⟩];rfl
theorem ae.KI {t:TypeId} {xo:Operand} {x y:D} {s i o:Nat} {f m:Nat} {fields:Array Field} {fd:Field} {az:D→Fr} (hg:ax ops fr ⟨some dst,.fieldAddr t xo f,ty,pp,a,g⟩=some true) (hx:fr.ev xo=y) (hR:pC x s i o y) (ht:P.bZ t=some (.struct fields)) (hf:fields[f]?=some fd) (hm:bR P fd.type=some m) (uZ:m≠0) (hp:∀p,fr.put dst p=az p)
  (h:∀p,pC x s i (o+fd.offset) p→ae P ops rest (az p) st Q):ae P ops (⟨some dst,.fieldAddr t xo f,ty,pp,a,g⟩::rest) fr st Q:=by
 obtain⟨k,au,off,len,h1,h2⟩:=hR;refine ae.go hg rfl (d:=.ptr k au (off+i*s+(o+fd.offset))) (st1:=st) ?_ (hp _) (h _ ⟨k,au,off,len,h1,rfl⟩);simp only[dE,hx,h2,eK,ht,hf,Option.bind_some,hm];rw[if_neg (by simp only[Option.some.injEq];exact uZ),←Nat.add_assoc];rfl
theorem ae.dB {t:TypeId} {ao:Operand} {x y d:D} {s i o j:Nat} {es:List (List D)} {r:List D} (hH:Has N S st H) (hg:ax ops fr ⟨some dst,.load t ao,ty,pp,a,g⟩=some true) (ha:fr.ev ao=y) (hR:pC x s i o y) (hj:H[j]?=some (.aB x s es)) (hr:es[i]?=some r) (hd:dj P t (r.drop o)=some d) (hp:fr.put dst d=az)
  (h:ae P ops rest az st Q):ae P ops (⟨some dst,.load t ao,ty,pp,a,g⟩::rest) fr st Q:=by
 obtain⟨k,au,off,len,rfl,rfl⟩:=hR;have hown:=hH.own hj
 cases hown with
 |win k au off es c hm hl hc he=>
  refine ae.go hg rfl (d:=d) (st1:=st) ?_ hp h;have h1:=jD he i r hr
  have hil:i<es.length:=by
   rcases Nat.lt_or_ge i es.length with h'|h'
   ·exact h'
   ·rw[List.getElem?_eq_none h'] at hr;cases hr
  have h2:(i+1)*s≤es.length*s:=Nat.mul_le_mul_right s hil;rw[Nat.add_mul,Nat.one_mul] at h2;rw[←hc,List.drop_take,List.take_take,List.drop_drop,Nat.min_eq_left (by omega)] at h1;have DM:=he r (List.mem_of_getElem? hr);simp only[dE,ha,fZ,St.mem_of hm,Option.bind_some];rw[lU (r:=r.drop o) ?_ hd];rfl;rw[List.length_drop,DM,←h1,List.drop_take,List.drop_drop]
theorem ae.mV {t:TypeId} {ao vo:Operand} {x y v:D} {s i o j:Nat} {es:List (List D)} {r cs:List D} (hH:Has N S st H) (hg:ax ops fr ⟨none,.store t ao vo,ty,pp,a,g⟩=some true) (ha:fr.ev ao=y) (hv:fr.ev vo=v) (hR:pC x s i o y) (hcs:v.cells?=some cs) (hs:bR P t=some cs.length) (hj:H[j]?=some (.aB x s es)) (hr:es[i]?=some r) (hl:o+cs.length≤s) (hw:S.flr≤N∨refs cs=0)
  (h:∀ah,Has N S ah (H.set j (.aB x s (es.set i (setMany r o cs))))→ae P ops rest fr ah Q):ae P ops (⟨none,.store t ao vo,ty,pp,a,g⟩::rest) fr st Q:=by
 obtain⟨k,au,off,len,rfl,rfl⟩:=hR;obtain⟨ah,h1,h2⟩:=hH.vO hj hr hl hw;refine ae.N hg rfl (d:=.tup []) (st1:=ah) ?_ (h _ h2);simp only[dE,ha,hv,lp,hcs,hs,if_pos trivial,h1];rfl
theorem ae.Kx {t e:TypeId} {xo:Operand} {lo hi:Option Operand} {x:D} {s:Nat} {es:List (List D)} {l r:Nat} {az:D→Fr} (hg:ax ops fr ⟨some dst,.slice t xo lo hi none,ty,pp,a,g⟩=some true) (hx:fr.ev xo=x) (hR:Arg N S s x es) (hH:Has N S st H) (ht:P.bZ t=some (.slice e)) (hs:bR P e=some s)
  (hb:bD es.length (lo.map fr.ev) (hi.map fr.ev)=some (l,r)) (pW:l≤r∧r≤es.length) (hp:∀y,fr.put dst y=az y)
  (h:∀y,Arg N S s y ((es.take r).drop l)→ae P ops rest (az y) st Q):ae P ops (⟨some dst,.slice t xo lo hi none,ty,pp,a,g⟩::rest) fr st Q:=by
 obtain⟨y,h1,h2,h3⟩:=hR.1.slice ht hs hb pW;refine ae.go hg rfl (d:=y) (st1:=st) ?_ (hp y) (h y ⟨h2,Nat.le_trans h3 hR.2⟩)
 have:cZ P t x (lo.map fr.ev) (hi.map fr.ev) st=cZ P t x (lo.map fr.ev) (hi.map fr.ev) S:=by
  have:=hR.1;cases this<;>simp only[cZ,ht]
 simp only[dE,hx,this,h1,Option.map_some]
theorem ae.KE {t e:TypeId} {xo:Operand} {lo hi:Option Operand} {x:D} {s j:Nat} {es:List (List D)} {l r:Nat} {az:D→Fr} (hH:Has N S st H) (hg:ax ops fr ⟨some dst,.slice t xo lo hi none,ty,pp,a,g⟩=some true) (hx:fr.ev xo=x) (hj:H[j]?=some (.aB x s es)) (ht:P.bZ t=some (.slice e)) (hs:bR P e=some s)
  (hb:bD es.length (lo.map fr.ev) (hi.map fr.ev)=some (l,r)) (pW:l≤r∧r≤es.length) (hp:∀y,fr.put dst y=az y)
  (h:∀y,Has N S st (H.set j (.aB y s ((es.take r).drop l)))→ae P ops rest (az y) st Q):ae P ops (⟨some dst,.slice t xo lo hi none,ty,pp,a,g⟩::rest) fr st Q:=by
 have hown:=hH.own hj
 cases hown with
 |nul=>
  simp only[List.length_nil] at hb pW
  have hy:Has N S st (H.set j (.aB .nul s (([].take r).drop l))):=by
   refine hH.vJ hj (fun _ _ _=>rfl) (Nat.le_refl _) rfl rfl (by simp;exact .nul) (fun k hk=>.inl hk) fun k hk=>by simp only[aZ.aB,D.ref] at hk;omega
  refine ae.go hg rfl (d:=.nul) (st1:=st) ?_ (hp _) (h _ hy);simp only[dE,hx,cZ,ht,hs,Option.bind_some,hb,Option.map_some]
 |win k au off es c hm hl hc he=>
  have hlen:((es.take r).drop l).length=r-l:=by simp;omega
  have h1:l*s+(r-l)*s≤es.length*s:=by rw[←Nat.add_mul];exact Nat.mul_le_mul_right s (by omega)
  have hk:=(hH.ok j _ hj).2 k (by simp only[aZ.aB,D.ref])
  have hy:Has N S st (H.set j (.aB (.win k au (off+l*s) (r-l) s) s ((es.take r).drop l))):=by
   refine hH.vJ hj (fun _ _ _=>rfl) (Nat.le_refl _) rfl rfl ?_ (fun k' jy=>.inl ?_) fun k' jy=>?_
   ·have:=eU.win (st:=st) (s:=s) k au (off+l*s) ((es.take r).drop l) c hm (by rw[hlen];omega) ?_ (fun e mN=>he e (List.mem_of_mem_take (List.mem_of_mem_drop mN)))
    ·rw[hlen] at this;exact this
    ·rw[hlen];have jc:=bo he
     have e1:∀n,n≤es.length→(es.take n).flatten=es.flatten.take (n*s):=by
      intro n hn;have:es.flatten=(es.take n).flatten++(es.drop n).flatten:=by rw[←List.flatten_append,List.take_append_drop]
      rw[this,List.take_left'];rw[bo (s:=s) (fun e mN=>he e (List.mem_of_mem_take mN)),List.length_take,Nat.min_eq_left hn]
     have e2:((es.take r).drop l).flatten=(es.take r).flatten.drop (l*s):=by
      have h2:(es.take r).flatten=((es.take r).take l).flatten++((es.take r).drop l).flatten:=by rw[←List.flatten_append,List.take_append_drop]
      rw[h2,List.drop_left'];rw[bo (s:=s) (fun e mN=>he e (List.mem_of_mem_take (List.mem_of_mem_take mN))),List.length_take,List.length_take,Nat.min_eq_left (by omega)]
     rw[e2,e1 r pW.2,←hc,List.take_take,List.drop_take,List.drop_drop,Nat.sub_mul]
     congr 1
     have:r*s≤es.length*s:=Nat.mul_le_mul_right s pW.2;rw[Nat.min_eq_left this]
   ·simp only[aZ.aB,D.ref] at jy⊢;exact jy
   ·simp only[aZ.aB,D.ref] at jy;omega
  refine ae.go hg rfl (d:=.win k au (off+l*s) (r-l) s) (st1:=st) ?_ (hp _) (h _ hy);simp only[dE,hx,cZ,ht,hs,Option.bind_some,hb,if_true,Option.map_some]
theorem ae.Lx {s t e:TypeId} {xo:Operand} {b:List UInt8} {az:Nat→Fr} (hH:Has N S st H) (hg:ax ops fr ⟨some dst,.convert s t xo,ty,pp,a,g⟩=some true) (hx:fr.ev xo=.str b) (h1:P.bZ s=some .string) (h2:P.bZ t=some (.slice e)) (h3:P.bZ e=some (.int .u8)) (hl:b.length<1099511627776) (hp:∀k,fr.put dst (.win k 0 0 b.length 1)=az k)
  (h:∀k ah,S.bs.length≤k→Has N S ah (.aB (.win k 0 0 b.length 1) 1 (byteCells b)::H)→ae P ops rest (az k) ah Q):ae P ops (⟨some dst,.convert s t xo,ty,pp,a,g⟩::rest) fr st Q:=by
 have hc:∀b:List UInt8,(byteCells b).flatten=b.map fun y=>.int .u8 (y.toNat:Nat):=by
  intro b
  induction b with
  |nil=>rfl
  |cons y b ih=>simp only[byteCells,List.map_cons,List.flatten_cons] at ih⊢;rw[ih];rfl
 refine ae.go hg rfl (d:=.win st.bs.length 0 0 b.length 1) (st1:=st.push (.mem 0 true (b.map fun y=>.int .u8 (y.toNat:Nat)))) ?_ (hp _) (h _ _ hH.len (hH.nK (by simp[byteCells]) (hc b) (fun e he=>by obtain⟨y,_,rfl⟩:=List.mem_map.1 he;rfl)));simp only[dE,hx,jF,h1,h2,h3,if_pos hl]
theorem ae.cu {f:Operand} {gn:Nat} {fz:List D} {args:Array Operand} {xu:Array TypeId} {d:D} {st1:St} (hg:ax ops fr ⟨some dst,.call ⟨.value f,args,xu⟩,ty,pp,a,g⟩=some true) (hf:fr.ev f=.fn gn fz)
  (h1:Ev P gn (args.toList.map fr.ev++fz) st d st1) (hp:fr.put dst d=az)
  (h:ae P ops rest az st1 Q):ae P ops (⟨some dst,.call ⟨.value f,args,xu⟩,ty,pp,a,g⟩::rest) fr st Q:=
 ae.call hg hf h1 (by show ae P ops rest (fr.put dst d) st1 Q;rw[hp];exact h)
theorem ic {m:Mode} {kn:Bool} {st st1:St} {d d':D} (hm:m≠.cM∧m≠.nw) (hS:S.bs=st.bs) (hH:Has st.bs.length S st1 H) (hd:aJ st1 st.bs.length kn 16 d=some d'):c8 m kn st st1 d=some (d',st):=
 bz hm ((hH.ex.take (by rw[hS])).trans hS) hd
theorem Has.freeze {j:Nat} {x:D} {s:Nat} {es:List (List D)} (hH:Has N S st H) (hj:H[j]?=some (.aB x s es)) (hp:∀e∈es,∀d∈e,b_ d=true) {n:Nat} (hn:2≤n):aJ st N false (n+1) x=some (.sl (es.map (kY s))):=by
 obtain⟨n,rfl⟩:∃m,n=m+2:=⟨n-2,by omega⟩
 have hown:=hH.own hj;have hkk:=(hH.ok j _ hj).2
 cases hown with
 |nul=>rfl
 |win k au off es c hm hl hc he=>
  have hk:=hkk k (by simp only[aZ.aB,D.ref]);show(if k<N then some (D.win k au off es.length s) else cP st N (n+2) (.win k au off es.length s))=_;rw[if_neg (show¬k<N by omega),cP];simp only[if_neg (show¬k<N by omega),St.mem_of hm,Option.bind_some]
  rw[if_pos hl,hc,ky (fun d hd=>by
   obtain⟨e,mN,zz⟩:=List.mem_flatten.1 hd
   exact hp e mN d zz)]
  simp only[Option.map_some,fU he]
end Go.V
namespace Go.V
variable{P:Pv} {ops:Array Oper} {rest:List Oper} {fr az:Fr} {st:St} {Q:Fr→St→Prop} {ty:TypeId} {pp:String} {a:Array Edge} {g:Option (Nat×Bool)} {dst:Nat}
theorem aj {o:Oper} {j t:Nat} {w v:Bool} (h1:o.guard=some (j,w)) (h2:(ops[j]?).bind (·.dst)=some t) (h3:fr.get t=.bool v) (h4:v=w):ax ops fr o=some true:=by
 unfold ax;simp only[h1,h2,h3,h4,beq_self_eq_true]
theorem cL {o:Oper} {j t:Nat} {w v:Bool} (h1:o.guard=some (j,w)) (h2:(ops[j]?).bind (·.dst)=some t) (h3:fr.get t=.bool v) (h4:v=!w):ax ops fr o=some false:=by
 unfold ax;simp only[h1,h2,h3,h4];cases w<;>rfl
theorem ae.skip {op:Op} (hg:ax ops fr ⟨some dst,op,ty,pp,a,g⟩=some false) (hp:fr.put dst (.tup [])=az)
  (h:ae P ops rest az st Q):ae P ops (⟨some dst,op,ty,pp,a,g⟩::rest) fr st Q:=
 ae.off hg (by show ae P ops rest (fr.put dst _) st Q;rw[hp];exact h)
theorem ae.two {l:List Oper} (t:Nat) {v:Bool} (hv:fr.get t=.bool v) (h1:v=true→ae P ops l fr st Q) (h2:v=false→ae P ops l fr st Q):ae P ops l fr st Q:=by
 cases v
 ·exact h2 rfl
 ·exact h1 rfl
theorem ae.cQ {c x y:Operand} {v:Bool} (hg:ax ops fr ⟨some dst,.pick c x y,ty,pp,a,g⟩=some true) (hc:fr.ev c=.bool v) (hv:v=true) (hp:fr.put dst (fr.ev x)=az)
  (h:ae P ops rest az st Q):ae P ops (⟨some dst,.pick c x y,ty,pp,a,g⟩::rest) fr st Q:=
 ae.go hg rfl (by simp only[dE,hc,hv]) hp h
theorem ae.cC {c x y:Operand} {v:Bool} (hg:ax ops fr ⟨some dst,.pick c x y,ty,pp,a,g⟩=some true) (hc:fr.ev c=.bool v) (hv:v=false) (hp:fr.put dst (fr.ev y)=az)
  (h:ae P ops rest az st Q):ae P ops (⟨some dst,.pick c x y,ty,pp,a,g⟩::rest) fr st Q:=
 ae.go hg rfl (by simp only[dE,hc,hv]) hp h
theorem ai.cut {dy:Dy} {i:Nat} {l:List Oper} {d n loc M5 tmp st} {Q:Out→Fr→St→Prop} (t:Nat) (v:D)
  (h1:ae P l.toArray l ⟨n,loc,[]⟩ st fun az ah=>∃tmp,az=⟨n,M5,tmp⟩∧ah=st∧look t tmp=v) (h2:∀tmp,look t tmp=v→Q .next ⟨n,M5,tmp⟩ st) (h0:gO i dy=[]:=by rfl):ai P dy (.region i l.toArray d) ⟨n,loc,tmp⟩ st Q:=by
 refine ai.dP ?_ h0;unfold ae at h1⊢;obtain⟨az,ah,h3,Kp,rfl,rfl,h4⟩:=h1;exact⟨_,_,h3,h2 _ h4⟩
theorem px {len n:Nat} {k:IntKind} (h:n≤len):bD len none (some (.int k (n:Nat)))=some (0,n):=by
 simp only[bD,fu,iG,Option.bind_some];rw[if_pos ⟨by omega,by omega⟩];rfl
theorem zm {len n:Nat} {k:IntKind} (h:n≤len):bD len (some (.int k (n:Nat))) none=some (n,len):=by
 simp only[bD,fu,iG,Option.bind_some];rw[if_pos ⟨by omega,by omega⟩];rfl
theorem qd {len m n:Nat} {k k':IntKind} (h:m≤n∧n≤len):bD len (some (.int k (m:Nat))) (some (.int k' (n:Nat)))=some (m,n):=by
 simp only[bD,fu,iG,Option.bind_some];rw[if_pos ⟨by omega,by omega⟩];simp only[Option.bind_some];rw[if_pos ⟨by omega,by omega⟩];rfl
theorem wrap_i32 {n : Int} (h1 : -2147483648 ≤ n) (h2 : n ≤ 2147483647) : aW .i32 n = n := by
  cases n with
  | ofNat m => exact bH (k := .i32) (m := m) (by simp only [gv]; have : (Int.ofNat m) = (m : Int) := rfl; omega)
  | negSucc m =>
    unfold aW
    have : Nat.ble (wm .i32) m = false := by
      cases hb : Nat.ble (wm .i32) m with
      | false => rfl
      | true => have := Nat.le_of_ble_eq_true hb; simp only [wm] at this; have : Int.negSucc m = -(m : Int) - 1 := by omega
                omega
    simp only [this]
theorem P' (x y:Int):(if y>x then y else x)=max x y:=by split<;>omega
theorem P_ (x y:Int):(if y<x then y else x)=min x y:=by split<;>omega
theorem ae.Iz {t1 t2:TypeId} {xo yo:Operand} {k k':IntKind} {x y:Int} {xu:Array TypeId} (hg:ax ops fr ⟨some dst,.call ⟨.builtin .max,#[xo,yo],xu⟩,ty,pp,a,g⟩=some true) (hx:fr.ev xo=.int k x) (hy:fr.ev yo=.int k' y) (hp:fr.put dst (.int k (max x y))=az)
  (h:ae P ops rest az st Q):ae P ops (⟨some dst,.call ⟨.builtin .max,#[xo,yo],xu⟩,ty,pp,a,g⟩::rest) fr st Q:=by
 refine ae.go hg rfl (d:=.int k (max x y)) (st1:=st) ?_ hp h;simp only[dE,List.map_cons,List.map_nil,hx,hy,bd,pY,uK,Option.bind_some,Option.map_some,←P'];rfl
theorem ae.KO {t1 t2:TypeId} {xo yo:Operand} {k k':IntKind} {x y:Int} {xu:Array TypeId} (hg:ax ops fr ⟨some dst,.call ⟨.builtin .min,#[xo,yo],xu⟩,ty,pp,a,g⟩=some true) (hx:fr.ev xo=.int k x) (hy:fr.ev yo=.int k' y) (hp:fr.put dst (.int k (min x y))=az)
  (h:ae P ops rest az st Q):ae P ops (⟨some dst,.call ⟨.builtin .min,#[xo,yo],xu⟩,ty,pp,a,g⟩::rest) fr st Q:=by
 refine ae.go hg rfl (d:=.int k (min x y)) (st1:=st) ?_ hp h;simp only[dE,List.map_cons,List.map_nil,hx,hy,bd,pY,uK,Option.bind_some,Option.map_some,←P_];rfl
theorem ae.Hu {t nB:TypeId} {xo yo:Operand} {x y:Int} (hg:ax ops fr ⟨some dst,.binOp .add t xo yo nB,ty,pp,a,g⟩=some true) (hx:fr.ev xo=.int .i64 x) (hy:fr.ev yo=.int .i64 y) (h1:-9223372036854775808≤x+y) (h2:x+y≤9223372036854775807) (hp:fr.put dst (.int .i64 (x+y))=az)
  (h:ae P ops rest az st Q):ae P ops (⟨some dst,.binOp .add t xo yo nB,ty,pp,a,g⟩::rest) fr st Q:=by
 refine ae.go hg rfl (d:=.int .i64 (x+y)) (st1:=st) ?_ hp h;simp only[dE,hx,hy,gW,wC,if_pos trivial,Option.map_some,wrap_i64 h1 h2,reduceIte]
theorem ae.Ks {t nB:TypeId} {xo yo:Operand} {x y:Int} (hg:ax ops fr ⟨some dst,.binOp .sub t xo yo nB,ty,pp,a,g⟩=some true) (hx:fr.ev xo=.int .i64 x) (hy:fr.ev yo=.int .i64 y) (h1:-9223372036854775808≤x-y) (h2:x-y≤9223372036854775807) (hp:fr.put dst (.int .i64 (x-y))=az)
  (h:ae P ops rest az st Q):ae P ops (⟨some dst,.binOp .sub t xo yo nB,ty,pp,a,g⟩::rest) fr st Q:=by
 refine ae.go hg rfl (d:=.int .i64 (x-y)) (st1:=st) ?_ hp h;simp only[dE,hx,hy,gW,wC,if_pos trivial,Option.map_some,wrap_i64 h1 h2,reduceIte]
theorem ae.Hv {t nB:TypeId} {xo yo:Operand} {x y:Int} (hg:ax ops fr ⟨some dst,.binOp .add t xo yo nB,ty,pp,a,g⟩=some true) (hx:fr.ev xo=.int .i32 x) (hy:fr.ev yo=.int .i32 y) (h1:-2147483648≤x+y) (h2:x+y≤2147483647) (hp:fr.put dst (.int .i32 (x+y))=az)
  (h:ae P ops rest az st Q):ae P ops (⟨some dst,.binOp .add t xo yo nB,ty,pp,a,g⟩::rest) fr st Q:=by
 refine ae.go hg rfl (d:=.int .i32 (x+y)) (st1:=st) ?_ hp h;simp only[dE,hx,hy,gW,wC,if_pos trivial,Option.map_some,wrap_i32 h1 h2,reduceIte]
theorem ae.mv {op:Op} {x:Operand} {d:D} (hop:op=.move x∨op=.assign x) (hg:ax ops fr ⟨some dst,op,ty,pp,a,g⟩=some true) (hx:fr.ev x=d) (hp:fr.put dst d=az)
  (h:ae P ops rest az st Q):ae P ops (⟨some dst,op,ty,pp,a,g⟩::rest) fr st Q:=by
 refine ae.go hg ?_ (d:=d) (st1:=st) ?_ hp h<;>rcases hop with rfl|rfl<;>first|rfl|simp only[dE,hx]
def lL (P:Pv) (fields:Array Field) (f:Nat):Option (Nat×Option Nat):=(fields[f]?).map fun fd=>(fd.offset,bR P fd.type)
theorem lK {P:Pv} {fields:Array Field} {f fo m:Nat} (h:lL P fields f=some (fo,some m)):∃fd,fields[f]?=some fd∧fd.offset=fo∧bR P fd.type=some m:=by
 unfold lL at h;obtain⟨fd,h1,h2⟩:=Option.map_eq_some_iff.1 h;simp only[Prod.mk.injEq] at h2;exact⟨fd,h1,h2.1,h2.2⟩
theorem ae.ej {t:TypeId} {xo:Operand} {k au off o f fo m:Nat} {fields:Array Field} (hg:ax ops fr ⟨some dst,.fieldAddr t xo f,ty,pp,a,g⟩=some true) (hx:fr.ev xo=.ptr k au off) (ht:P.bZ t=some (.struct fields)) (hf:lL P fields f=some (fo,some (m+1))) (ho:off+fo=o) (hp:fr.put dst (.ptr k au o)=az)
  (h:ae P ops rest az st Q):ae P ops (⟨some dst,.fieldAddr t xo f,ty,pp,a,g⟩::rest) fr st Q:=by
 obtain⟨fd,h1,h2,h3⟩:=lK hf;subst ho;refine ae.go hg rfl (d:=.ptr k au (off+fo)) (st1:=st) ?_ hp h;simp only[dE,hx,eK,ht,h1,Option.bind_some,h3,h2];rw[if_neg (by simp)];rfl
theorem ae.vT {t:TypeId} {xo:Operand} {x:D} {r:List D} {f fo m:Nat} {fields:Array Field} {az:D→Fr} (hg:ax ops fr ⟨some dst,.fieldAddr t xo f,ty,pp,a,g⟩=some true) (hx:fr.ev xo=x) (hR:jT st x r) (ht:P.bZ t=some (.struct fields)) (hf:lL P fields f=some (fo,some (m+1))) (hp:∀p,fr.put dst p=az p)
  (h:∀p,jT st p (r.drop fo)→ae P ops rest (az p) st Q):ae P ops (⟨some dst,.fieldAddr t xo f,ty,pp,a,g⟩::rest) fr st Q:=by
 obtain⟨fd,h1,h2,h3⟩:=lK hf;exact ae.KB hg hx hR ht h1 h3 (by omega) hp (by rw[h2];exact h)
theorem ae.eu {t:TypeId} {xo:Operand} {x y:D} {s i o o2:Nat} {f fo m:Nat} {fields:Array Field} {az:D→Fr} (hg:ax ops fr ⟨some dst,.fieldAddr t xo f,ty,pp,a,g⟩=some true) (hx:fr.ev xo=y) (hR:pC x s i o y) (ht:P.bZ t=some (.struct fields)) (hf:lL P fields f=some (fo,some (m+1))) (ho:o+fo=o2) (hp:∀p,fr.put dst p=az p)
  (h:∀p,pC x s i o2 p→ae P ops rest (az p) st Q):ae P ops (⟨some dst,.fieldAddr t xo f,ty,pp,a,g⟩::rest) fr st Q:=by
 obtain⟨fd,h1,h2,h3⟩:=lK hf;subst ho;exact ae.KI hg hx hR ht h1 h3 (by omega) hp (by rw[h2];exact h)
theorem xH {c cs:List D} (h:cs.length=c.length):setMany c 0 cs=cs:=by
 rw[gG cs c 0 (by omega),List.take_zero,List.nil_append,Nat.zero_add,h,List.drop_length,List.append_nil]
variable{N:Nat} {S:St} {H:List aZ}
theorem ae.bC {j k au:Nat} {ar:Bool} {c cs:List D} {v:D} {t:TypeId} {ao vo:Operand} (hH:Has N S st H) (hg:ax ops fr ⟨none,.store t ao vo,ty,pp,a,g⟩=some true) (ha:fr.ev ao=.ptr k au 0) (hv:fr.ev vo=v) (hcs:v.cells?=some cs) (hs:bR P t=some cs.length) (hj:H[j]?=some (.box k (.mem au ar c))) (hl:cs.length=c.length) (hw:S.flr≤N∨refs cs=0)
  (h:∀ah,Has N S ah (H.set j (.box k (.mem au ar cs)))→ae P ops rest fr ah Q):ae P ops (⟨none,.store t ao vo,ty,pp,a,g⟩::rest) fr st Q:=
 ae.kE hH hg ha hv hcs hs hj (by omega) hw (by rw[xH hl];exact h)
theorem vi {place:Nat→Option (Nat×Nat)} {s:Nat} (lg:∀i,place i=some (i*s,s)):∀(vs:List D) (n:Nat) (done rem:List D),done.length=n*s→rem.length=vs.length*s→(∀v∈vs,v.cells?=some v.cells∧v.cells.length=s)→
  iI place (done++rem) (vs.mapIdx fun i v=>(n+i,v))=some (done++(vs.map D.cells).flatten)
 |[],n,done,rem,hd,hr,_=>by
  have:rem=[]:=by cases rem with|nil=>rfl|cons _ _=>simp at hr
  subst this;simp[iI]
 |v::vs,n,done,rem,hd,hr,hv=>by
  obtain⟨h1,h2⟩:=hv v (List.mem_cons_self ..);simp only[List.length_cons,Nat.add_mul,Nat.one_mul] at hr;simp only[List.mapIdx_cons,iI,lg,h1,Nat.add_zero];rw[if_neg (by simp only[h2,ne_eq,not_true_eq_false,List.length_append,false_or];rw[hd,hr];omega)]
  have e1:setMany (done++rem) (n*s) v.cells=(done++v.cells)++rem.drop s:=by
   rw[gG _ _ _ (by simp only[List.length_append];omega),h2,←hd,List.take_left,List.drop_length_add_append]
  have ih:=vi lg vs (n+1) (done++v.cells) (rem.drop s) (by rw[List.length_append,hd,h2,Nat.add_mul,Nat.one_mul]) (by rw[List.length_drop];omega) fun w hw=>hv w (List.mem_cons_of_mem _ hw);rw[e1];have e2:(vs.mapIdx fun i v=>(n+(i+1),v))=vs.mapIdx fun i v=>(n+1+i,v):=by congr 1;funext i v;rw[show n+(i+1)=n+1+i by omega]
  rw[e2,ih];simp[List.append_assoc]
def Cx (fr:Fr):Nat→List (Nat×Operand)→List D→Prop
 |_,[],[]=>True
 |n,(i,o)::ps,v::vs=>i=n∧fr.ev o=v∧Cx fr (n+1) ps vs
 |_,_,_=>False
theorem y8 {fr:Fr}:∀{ps:List (Nat×Operand)} {vs:List D} {n:Nat},Cx fr n ps vs→(ps.map fun p=>(p.1,fr.ev p.2))=vs.mapIdx fun i v=>(n+i,v)
 |[],[],_,_=>rfl
 |(i,o)::ps,v::vs,n,h=>by
  obtain⟨h1,h2,h3⟩:=h;have ih:=y8 h3;simp only[List.map_cons,List.mapIdx_cons,Nat.add_zero];rw[ih,h1,h2]
  congr 1
  congr 1;funext i v;rw[show n+(i+1)=n+1+i by omega]
 |[],_::_,_,h=>h.elim
 |_::_,[],_,h=>h.elim
theorem ae.NP {t e:TypeId} {m s:Nat} {parts:Array (Nat×Operand)} {z:List D} {vs:List D} {az:Nat→Fr} (hH:Has N S st H) (hg:ax ops fr ⟨some dst,.buildSlice t m parts,ty,pp,a,g⟩=some true) (ht:P.bZ t=some (.slice e)) (hs:bR P e=some s) (hz:cI P e=some z) (kR:z.length=s) (hm:m*s≤16777216)
  (O8:Cx fr 0 parts.toList vs) (hvl:vs.length=m) (hc:∀v∈vs,v.cells?=some v.cells∧v.cells.length=s) (hp:∀k,fr.put dst (.win k 0 0 m s)=az k)
  (h:∀k ah,S.bs.length≤k→Has N S ah (.aB (.win k 0 0 m s) s (vs.map D.cells)::H)→ae P ops rest (az k) ah Q):ae P ops (⟨some dst,.buildSlice t m parts,ty,pp,a,g⟩::rest) fr st Q:=by
 have hvs:=y8 O8;have hf:=vi (place:=fun i=>some (i*s,s)) (fun _=>rfl) vs 0 [] (dn m z) (by simp) (by simp[dn,hvl,kR]) hc
 refine ae.go hg rfl (d:=.win st.bs.length 0 0 m s) (st1:=st.push (.mem 0 true (vs.map D.cells).flatten)) ?_ (hp _) (h _ _ hH.len (hH.nK (by simpa using hvl) rfl (fun e he=>by
  obtain⟨v,hv,rfl⟩:=List.mem_map.1 he
  exact(hc v hv).2)))
 simp only[dE,ir,ht,hs,hz,Option.bind_some];rw[if_pos ⟨kR,hm⟩,hvs];simp only[List.nil_append] at hf;rw[hf];rfl
theorem ae.aN {j k au off m:Nat} {ar:Bool} {c r:List D} {t:TypeId} {ao:Operand} (hH:Has N S st H) (hg:ax ops fr ⟨some dst,.load t ao,ty,pp,a,g⟩=some true) (ha:fr.ev ao=.ptr k au off) (hj:H[j]?=some (.box k (.mem au ar c))) (hr:(c.drop off).take m=r) (hd:dj P t r=some (.agg r)) (hm:r.length=m) (hp:fr.put dst (.agg r)=az)
  (h:ae P ops rest az st Q):ae P ops (⟨some dst,.load t ao,ty,pp,a,g⟩::rest) fr st Q:=
 ae.fw hH hg ha hj (lU (r:=r) (by rw[hm];exact hr) hd) hp h
theorem bX {α:Type} {l:List α} {i:Nat} {a:α} (h:l[i]?=some a):i<l.length:=by
 rcases Nat.lt_or_ge i l.length with h'|h'
 ·exact h'
 ·rw[List.getElem?_eq_none h'] at h;cases h
theorem ae.cA {t:TypeId} {ao:Operand} {x:D} {r:List D} (hg:ax ops fr ⟨some dst,.load t ao,ty,pp,a,g⟩=some true) (ha:fr.ev ao=x) (hR:jT st x r) (hd:dj P t r=some (.agg r)) (hp:fr.put dst (.agg r)=az)
  (h:ae P ops rest az st Q):ae P ops (⟨some dst,.load t ao,ty,pp,a,g⟩::rest) fr st Q:=ae.cO hg ha hR hd hp h
theorem ae.r_ {t:TypeId} {ao:Operand} {x y:D} {s i j:Nat} {es:List (List D)} {r:List D} (hH:Has N S st H) (hg:ax ops fr ⟨some dst,.load t ao,ty,pp,a,g⟩=some true) (ha:fr.ev ao=y) (hR:pC x s i 0 y) (hj:H[j]?=some (.aB x s es)) (hr:es[i]?=some r) (hd:dj P t r=some (.agg r)) (hp:fr.put dst (.agg r)=az)
  (h:ae P ops rest az st Q):ae P ops (⟨some dst,.load t ao,ty,pp,a,g⟩::rest) fr st Q:=ae.dB hH hg ha hR hj hr (by rw[List.drop_zero];exact hd) hp h
theorem ae.eN {t nB:TypeId} {xo yo:Operand} {x y z:Int} {k:IntKind} (hg:ax ops fr ⟨some dst,.binOp .add t xo yo nB,ty,pp,a,g⟩=some true) (hx:fr.ev xo=.int k x) (hy:fr.ev yo=.int k y) (hz:aW k (x+y)=z) (hp:fr.put dst (.int k z)=az)
  (h:ae P ops rest az st Q):ae P ops (⟨some dst,.binOp .add t xo yo nB,ty,pp,a,g⟩::rest) fr st Q:=by
 refine ae.go hg rfl (d:=.int k z) (st1:=st) ?_ hp h;simp only[dE,hx,hy,gW,wC,if_pos trivial,Option.map_some,hz,reduceIte]
theorem ae.mQ {t nB:TypeId} {xo yo:Operand} {x y z:Int} {k:IntKind} (hg:ax ops fr ⟨some dst,.binOp .sub t xo yo nB,ty,pp,a,g⟩=some true) (hx:fr.ev xo=.int k x) (hy:fr.ev yo=.int k y) (hz:aW k (x-y)=z) (hp:fr.put dst (.int k z)=az)
  (h:ae P ops rest az st Q):ae P ops (⟨some dst,.binOp .sub t xo yo nB,ty,pp,a,g⟩::rest) fr st Q:=by
 refine ae.go hg rfl (d:=.int k z) (st1:=st) ?_ hp h;simp only[dE,hx,hy,gW,wC,if_pos trivial,Option.map_some,hz,reduceIte]
theorem ae.Ap {t nB:TypeId} {xo yo:Operand} {x y z:Int} {k:IntKind} (hg:ax ops fr ⟨some dst,.binOp .mul t xo yo nB,ty,pp,a,g⟩=some true) (hx:fr.ev xo=.int k x) (hy:fr.ev yo=.int k y) (hz:aW k (x*y)=z) (hp:fr.put dst (.int k z)=az)
  (h:ae P ops rest az st Q):ae P ops (⟨some dst,.binOp .mul t xo yo nB,ty,pp,a,g⟩::rest) fr st Q:=by
 refine ae.go hg rfl (d:=.int k z) (st1:=st) ?_ hp h;simp only[dE,hx,hy,gW,wC,if_pos trivial,Option.map_some,hz,reduceIte]
theorem ae.P9 {t nB:TypeId} {xo yo:Operand} {x y:D} {b:Bool} (hg:ax ops fr ⟨some dst,.binOp .neq t xo yo nB,ty,pp,a,g⟩=some true) (hx:fr.ev xo=x) (hy:fr.ev yo=y) (hb:gW P .neq t x y=some (.bool b)) (hp:fr.put dst (.bool b)=az)
  (h:ae P ops rest az st Q):ae P ops (⟨some dst,.binOp .neq t xo yo nB,ty,pp,a,g⟩::rest) fr st Q:=by
 refine ae.go hg rfl (d:=.bool b) (st1:=st) ?_ hp h;simp only[dE,hx,hy,hb,Option.map_some]
theorem Ev.jN {f:Nat} {x:Fi} {body:Code} {args:List D} {st:St} {n:Nat} {loc:List D} {Hw:D→St→Prop} (hq:lD f P.prm=none) (hf:P.fi f=some x) (hp:x.kU=none) (hb:x.fn.body=some body) (Ge:pad x.nloc args=⟨n,loc,[]⟩)
  (h:ai P x.dyn body ⟨n,loc,[]⟩ (ag x.mode st) fun o fr st1=>(∀i,o≠.exit i)∧∃ds d ah,ku P fr st1 x.fn.results.toList=some ds∧c8 x.mode x.knul st st1 (tI ds)=some (d,ah)∧Hw d ah):∃d ah,Ev P f args st d ah∧Hw d ah:=by
 unfold ai at h;obtain⟨o,az,st1,hN,ho,ds,d,ah,hr,hl,Gd⟩:=h;refine⟨d,ah,Ev.iZ hq hf hp hb Ge ?_,Gd⟩;unfold ai;exact⟨o,az,st1,hN,ho,ds,hr,hl⟩
def Hx (M:Fr→St→Prop) (Q:Out→Fr→St→Prop):Out→Fr→St→Prop
 | .next,fr,st=>M fr st
 | .exit i,fr,st=>Q (.exit i) fr st
 | .ret,fr,st=>Q .ret fr st
theorem ai.merge {P:Pv} {dy:Dy} {c:Code} {fr:Fr} {st:St} {Q:Out→Fr→St→Prop} (M:Fr→St→Prop) (h1:ai P dy c fr st (Hx M Q)) (h2:∀az ah,M az ah→Q .next az ah):ai P dy c fr st Q:=
 h1.mono fun o az ah h=>by
  cases o with
  |next=>exact h2 _ _ h
  |exit i=>exact h
  |ret=>exact h
theorem ae.OV {t nB:TypeId} {xo yo:Operand} {x y:Nat} (hg:ax ops fr ⟨some dst,.binOp .add t xo yo nB,ty,pp,a,g⟩=some true) (hx:fr.ev xo=.int .i64 (x:Nat)) (hy:fr.ev yo=.int .i64 (y:Nat)) (h2:x+y≤9223372036854775807) (hp:fr.put dst (.int .i64 ((x+y:Nat):Int))=az)
  (h:ae P ops rest az st Q):ae P ops (⟨some dst,.binOp .add t xo yo nB,ty,pp,a,g⟩::rest) fr st Q:=
 ae.eN hg hx hy (by rw[wrap_i64 (by omega) (by omega)];rfl) hp h
theorem Ev.JW {f:Nat} {x:Fi} {body:Code} {args:List D} {st:St} {n:Nat} {loc:List D} {Hw:D→Prop} (hq:lD f P.prm=none) (hf:P.fi f=some x) (hp:x.kU=none) (hb:x.fn.body=some body) (Ge:pad x.nloc args=⟨n,loc,[]⟩)
  (h:ai P x.dyn body ⟨n,loc,[]⟩ (ag x.mode st) fun o fr st1=>(∀i,o≠.exit i)∧∃ds d,ku P fr st1 x.fn.results.toList=some ds∧c8 x.mode x.knul st st1 (tI ds)=some (d,st)∧Hw d):∃d,Ev P f args st d st∧Hw d:=by
 unfold ai at h;obtain⟨o,az,st1,hN,ho,ds,d,hr,hl,Gd⟩:=h;refine⟨d,Ev.iZ hq hf hp hb Ge ?_,Gd⟩;unfold ai;exact⟨o,az,st1,hN,ho,ds,hr,hl⟩
def bk (loc:List D) (ws:List Nat) (f:Nat→D):List D:=ws.foldl (fun l w=>l.set w (f w)) loc
theorem ai.qX {P:Pv} {dy:Dy} {i:Nat} {l:List Oper} {d n loc tmp st} {Q:Out→Fr→St→Prop} (t:Nat) (v:D) (ws:List Nat)
  (h1:ae P l.toArray l ⟨n,loc,[]⟩ st fun az ah=>∃f tmp,az=⟨n,(bk loc ws f).set t v,tmp⟩∧ah=st) (h2:∀f tmp,Q .next ⟨n,(bk loc ws f).set t v,tmp⟩ st) (h0:gO i dy=[]:=by rfl):ai P dy (.region i l.toArray d) ⟨n,loc,tmp⟩ st Q:=by
 refine ai.dP ?_ h0;unfold ae at h1⊢;obtain⟨az,ah,h3,f,Kp,rfl,rfl⟩:=h1;exact⟨_,_,h3,h2 _ _⟩
theorem ai.mC {P:Pv} {dy:Dy} {i:Nat} {l:List Oper} {d n loc tmp st} {Q:Out→Fr→St→Prop} (t:Nat) (v:D) (ws:List Nat)
  (h1:ae P l.toArray l ⟨n,loc,[]⟩ st fun az ah=>∃f tmp,az=⟨n,bk loc ws f,tmp⟩∧ah=st∧look t tmp=v) (h2:∀f tmp,look t tmp=v→Q .next ⟨n,bk loc ws f,tmp⟩ st) (h0:gO i dy=[]:=by rfl):ai P dy (.region i l.toArray d) ⟨n,loc,tmp⟩ st Q:=by
 refine ai.dP ?_ h0;unfold ae at h1⊢;obtain⟨az,ah,h3,f,Kp,rfl,rfl,h4⟩:=h1;exact⟨_,_,h3,h2 _ _ h4⟩
theorem aO {n:Nat} {L loc:List D} {vL:List (Nat×D)} {ws:List Nat} {t:Nat} {v:D} {st:St} (h:L=(bk loc ws (fun k=>nth .bf L k)).set t v):∃(f:Nat→D) (tmp:List (Nat×D)),(⟨n,L,vL⟩:Fr)=⟨n,(bk loc ws f).set t v,tmp⟩∧st=st:=⟨_,vL,by rw[←h],rfl⟩
theorem c_ {n:Nat} {L loc:List D} {vL:List (Nat×D)} {ws:List Nat} {t:Nat} {v:D} {st:St} (h:L=bk loc ws (fun k=>nth .bf L k)) (h2:look t vL=v):∃(f:Nat→D) (tmp:List (Nat×D)),(⟨n,L,vL⟩:Fr)=⟨n,bk loc ws f,tmp⟩∧st=st∧look t tmp=v:=⟨_,vL,by rw[←h],rfl,h2⟩
theorem Ed {x y:Oper} {fi fj:Fr} {si oH sj Em:St} {a:Operand} {k au off v:Nat} {ar:Bool} {c:List D} (hy:gA y.op=none) (hx:gA x.op=some a) (ha:fi.ev a=.ptr k au off) (h1:sj.bs[k]?=some (.mem v ar c)) (h2:Em.bs[k]?=some (.mem v ar c)) (h3:si.bs[k]?=some (.mem v ar c)) (hr:refs c=0):gM x fi si oH y fj sj Em=true:=by
 unfold gM;simp only[hy,hx,ha,D.lQ,Bool.and_eq_true];refine⟨lW h1 h2,?_⟩;unfold mR;simp only[h3,hr]
 split
 ·rfl
 ·simp
def gY (x:D) (s:Nat) (es:List (List D)):Prop:=(x=.nul∧es=[])∨∃ds,x=.sl ds∧ds.map D.cells=es∧∀d∈ds,d.cells?=some d.cells∧d.cells.length=s
theorem gY.rows {x:D} {s:Nat} {es:List (List D)} (h:gY x s es) (st:St):Rows st s x es:=by
 rcases h with⟨rfl,rfl⟩|⟨ds,rfl,rfl,h⟩
 ·exact .nul
 ·exact .sl ds h
theorem gY.ref {x:D} {s:Nat} {es:List (List D)} (h:gY x s es):x.ref=0:=by
 rcases h with⟨rfl,rfl⟩|⟨ds,rfl,rfl,h⟩<;>rfl
theorem gY.arg {x:D} {s:Nat} {es:List (List D)} (h:gY x s es) (N:Nat) (S:St):Arg N S s x es:=⟨h.rows S,by rw[h.ref];omega⟩
theorem gY.cells {x:D} {s:Nat} {es:List (List D)} (h:gY x s es):x.cells?=some [x]∧x.cells=[x]:=by
 rcases h with⟨rfl,rfl⟩|⟨ds,rfl,rfl,h⟩<;>exact⟨rfl,rfl⟩
theorem gY.freeze {x:D} {s:Nat} {es:List (List D)} (h:gY x s es) (st:St) (N n:Nat):∃y,aJ st N false (n+1) x=some y∧gY y s es:=by
 rcases h with⟨rfl,rfl⟩|⟨ds,rfl,rfl,h⟩
 ·exact⟨.sl [],rfl,.inr ⟨[],rfl,rfl,fun d hd=>by cases hd⟩⟩
 ·exact⟨.sl ds,rfl,.inr ⟨ds,rfl,rfl,h⟩⟩
theorem gY.frozen {s:Nat} {es:List (List D)} (h:∀e∈es,e.length=s) (hp:∀e∈es,∀d∈e,b_ d=true):gY (.sl (es.map (kY s))) s es:=by
 refine .inr ⟨_,rfl,?_,fun d hd=>?_⟩
 ·rw[List.map_map]
  conv=>rhs;rw[←List.map_id es]
  refine List.map_congr_left fun e he=>?_;exact(mw (h e he) (hp e he)).2
 ·obtain⟨e,he,rfl⟩:=List.mem_map.1 hd;obtain⟨h1,h2⟩:=mw (h e he) (hp e he);exact⟨h1,by rw[h2];exact h e he⟩
theorem gY.part {P:Pv} {st:St} {t e:TypeId} {x:D} {s l r:Nat} {es:List (List D)} {lo hi:Option D} (h:gY x s es) (ht:P.bZ t=some (.slice e)) (hs:bR P e=some s) (hb:bD es.length lo hi=some (l,r)):∃y,cZ P t x lo hi st=some y∧gY y s ((es.take r).drop l):=by
 rcases h with⟨rfl,rfl⟩|⟨ds,rfl,rfl,h⟩
 ·simp only[List.length_nil] at hb;refine⟨.nul,?_,.inl ⟨rfl,by simp⟩⟩;simp only[cZ,ht,hs,Option.bind_some,hb,Option.map_some]
 ·rw[List.length_map] at hb;refine⟨.sl ((ds.take r).drop l),?_,.inr ⟨_,rfl,by rw[List.map_drop,List.map_take],fun d hd=>h d (List.mem_of_mem_take (List.mem_of_mem_drop hd))⟩⟩;simp only[cZ,ht,hs,Option.bind_some]
  rw[if_pos (by
   cases ds with
   |nil=>rfl
   |cons d ds=>obtain⟨h1,h2⟩:=h d (List.mem_cons_self ..);simp[ng,h1,h2])]
  simp only[hb,Option.map_some]
theorem ae.Fl {P:Pv} {ops:Array Oper} {rest:List Oper} {fr:Fr} {st:St} {Q:Fr→St→Prop} {ty:TypeId} {pp:String} {a:Array Edge} {g:Option (Nat×Bool)} {dst:Nat} {t e:TypeId} {xo:Operand} {lo hi:Option Operand} {x:D} {s:Nat} {es:List (List D)} {l r:Nat} {az:D→Fr} (hg:ax ops fr ⟨some dst,.slice t xo lo hi none,ty,pp,a,g⟩=some true) (hx:fr.ev xo=x) (hR:gY x s es) (ht:P.bZ t=some (.slice e)) (hs:bR P e=some s)
  (hb:bD es.length (lo.map fr.ev) (hi.map fr.ev)=some (l,r)) (hp:∀y,fr.put dst y=az y)
  (h:∀y,gY y s ((es.take r).drop l)→ae P ops rest (az y) st Q):ae P ops (⟨some dst,.slice t xo lo hi none,ty,pp,a,g⟩::rest) fr st Q:=by
 obtain⟨y,h1,h2⟩:=hR.part (st:=st) ht hs hb;refine ae.go hg rfl (d:=y) (st1:=st) ?_ (hp y) (h y h2);simp only[dE,hx,h1,Option.map_some]
end Go.V
namespace Go.V
inductive cN {α β:Type} (R:α→β→Prop):List α→List β→Prop where
 |nil:cN R [] []
 |cons {a:α} {b:β} {l:List α} {m:List β} (h:R a b) (t:cN R l m):cN R (a::l) (b::m)
theorem cN.mono {α β:Type} {R R':α→β→Prop} (h:∀a b,R a b→R' a b):∀{l:List α} {m:List β},cN R l m→cN R' l m
 |_,_,.nil=>.nil
 |_,_,.cons a t=>.cons (h _ _ a) (t.mono h)
theorem cN.append {α β:Type} {R:α→β→Prop}:∀{l l':List α} {m m':List β},cN R l m→cN R l' m'→cN R (l++l') (m++m')
 |_,_,_,_,.nil,h=>h
 |_,_,_,_,.cons a t,h=>.cons a (t.append h)
theorem cN.len {α β:Type} {R:α→β→Prop}:∀{l:List α} {m:List β},cN R l m→l.length=m.length
 |_,_,.nil=>rfl
 |_,_,.cons a t=>by simp[t.len]
def F7:D→Bool
 | .sl _=>true
 |_=>false
inductive eP (bb:Bool) (st:St) (ks:Nat→Prop):D→D→Prop where
 |plain (d:D) (h:b_ d=true) (h2:(!(F7 d)||bb)=true:=by rfl):eP bb st ks d d
 |aB (w:D) (s:Nat) (rs:List (List D)) (h:eU st s w rs) (hp:∀e∈rs,∀d∈e,b_ d=true) (hk:∀k,w.ref=k+1→ks k):eP bb st ks w (.sl (rs.map (kY s)))
abbrev vH:=eP true
variable{bb:Bool}
theorem eP.mono {st:St} {ks JX:Nat→Prop} (h:∀k,ks k→JX k) {d v:D} (p:eP bb st ks d v):eP bb st JX d v:=by
 cases p with
 |plain h h2=>exact .plain d h h2
 |aB s rs h1 h2 h3=>exact .aB d s rs h1 h2 fun k hk=>h k (h3 k hk)
theorem eP.move {st ah:St} {ks:Nat→Prop} (h:∀k,ks k→ah.bs[k]?=st.bs[k]?) {d v:D} (p:eP bb st ks d v):eP bb ah ks d v:=by
 cases p with
 |plain h h2=>exact .plain d h h2
 |aB s rs h1 h2 h3=>exact .aB d s rs (h1.move fun k hk=>h k (h3 k hk)) h2 h3
theorem eU.MM {st:St} {s N:Nat} {x:D} {es:List (List D)} (h:eU st s x es) (hN:∀k,x.ref=k+1→N≤k) (hp:∀e∈es,∀d∈e,b_ d=true) (n:Nat):cP st N (n+2) x=some (.sl (es.map (kY s))):=by
 cases h with
 |nul=>rfl
 |win k au off es c hm hl hc he=>
  have:=hN k (by simp only[D.ref]);rw[cP];simp only[if_neg (show¬k<N by omega),St.mem_of hm,Option.bind_some]
  rw[if_pos hl,hc,ky (fun d hd=>by
   obtain⟨e,mN,zz⟩:=List.mem_flatten.1 hd
   exact hp e mN d zz)]
  simp only[Option.map_some,fU he]
theorem eP.pure {st:St} {ks:Nat→Prop} {N:Nat} (hN:∀k,ks k→N≤k) {d v:D} (p:eP bb st ks d v) (n:Nat):cP st N (n+2) d=some v:=by
 cases p with
 |plain h h2=>cases d<;>simp[b_] at h<;>rfl
 |aB s rs h1 h2 h3=>exact h1.MM (fun k hk=>hN k (h3 k hk)) h2 n
theorem uO {f:D→Option D} {R:D→D→Prop} (h:∀a b,R a b→f a=some b):∀{l m:List D},cN R l m→ec f l=some m
 |_,_,.nil=>rfl
 |_,_,.cons a t=>by simp only[ec,h _ _ a,uO h t]
theorem cN.flat {R:D→D→Prop}:∀{l m:List (List D)},cN (cN R) l m→cN R l.flatten m.flatten
 |_,_,.nil=>.nil
 |_,_,.cons a t=>by simp only[List.flatten_cons];exact a.append t.flat
theorem cN.each {s:Nat} {R:D→D→Prop}:∀{l m:List (List D)},cN (cN R) l m→(∀e∈l,e.length=s)→∀e∈m,e.length=s
 |_,_,.nil,_,e,he=>by cases he
 |_,_,.cons a t,h,e,he=>by
  rcases List.mem_cons.1 he with rfl|he
  ·rw[←a.len];exact h _ (List.mem_cons_self ..)
  ·exact t.each (fun x hx=>h x (List.mem_cons_of_mem _ hx)) e he
def aZ.emp:aZ:=⟨fun _=>False,fun _=>True,fun _ p=>p⟩
def aZ.cv (bb:Bool) (ks:Nat→Prop) (x:D) (s:Nat) (vs:List (List D)):aZ:=
 ⟨fun j=>x.ref=j+1∨ks j,fun st=>(∃es,eU st s x es∧cN (cN (eP bb st ks)) es vs)∧∀k,x.ref=k+1→¬ks k,fun h p=>by
  obtain⟨⟨es,h1,h2⟩,h3⟩:=p
  exact⟨⟨es,h1.move fun k hk=>h k (.inl hk),h2.mono fun a b=>cN.mono fun c d=>eP.move fun k hk=>h k (.inr hk)⟩,h3⟩⟩
abbrev aZ.deep:=aZ.cv true
variable{N:Nat} {S st:St} {H:List aZ}
theorem Has.P7 (h:Has N S st H) (s:Nat) (bb:Bool:=true):Has N S st (.cv bb (fun _=>False) .nul s []::H):=
 h.add (fun _ _=>rfl) (Nat.le_refl _) rfl rfl ⟨⟨[],.nul,.nil⟩,fun k hk=>by simp only[D.ref] at hk;omega⟩ fun k hk=>by
  rcases hk with hk|hk
  ·simp only[D.ref] at hk;omega
  ·exact hk.elim
theorem Has.L9 {i j:Nat} {w x:D} {sw s:Nat} {rs vs:List (List D)} {ks:Nat→Prop} (h:Has N S st H) (hij:i≠j) (hi:H[i]?=some (.aB w sw rs)) (hj:H[j]?=some (.cv bb ks x s vs)) (hp:∀e∈rs,∀d∈e,b_ d=true):
  Has N S st ((H.set i .emp).set j (.cv bb (fun k=>ks k∨w.ref=k+1) x s vs))∧eP bb st (fun k=>ks k∨w.ref=k+1) w (.sl (rs.map (kY sw))):=by
 have Vn:=h.own hi;obtain⟨⟨es,h1,h2⟩,h3⟩:=(h.ok j _ hj).1;have XE:=(h.ok i _ hi).2;have Uy:=(h.ok j _ hj).2;have RI:=h.dis i j _ _ hij hi hj;refine⟨⟨h.ex,h.hN,h.eG,fun n e hn=>?_,fun a b ea eb hab ha hb k mq fQ=>?_⟩,.aB w sw rs Vn hp fun k hk=>.inr hk⟩
 ·by_cases hnj:n=j
  ·subst hnj;rw[List.getElem?_set_self (by rw[List.length_set];exact bX hj)] at hn;cases hn;refine⟨⟨⟨es,h1,h2.mono fun a b=>cN.mono fun c d=>eP.mono fun k hk=>.inl hk⟩,fun k hk=>?_⟩,fun k hk=>?_⟩
   ·rintro(hk2|hk2)
    ·exact h3 k hk hk2
    ·exact RI k hk2 (.inl hk)
   ·rcases hk with hk|hk|hk
    ·exact Uy k (.inl hk)
    ·exact Uy k (.inr hk)
    ·exact XE k hk
  ·rw[List.getElem?_set_ne (fun e=>hnj e.symm)] at hn
   by_cases hni:n=i
   ·subst hni;rw[List.getElem?_set_self (bX hi)] at hn;cases hn;exact⟨trivial,fun k hk=>hk.elim⟩
   ·rw[List.getElem?_set_ne (fun e=>hni e.symm)] at hn;exact h.ok n e hn
 ·have key:∀n e,((H.set i .emp).set j (.cv bb (fun k=>ks k∨w.ref=k+1) x s vs))[n]?=some e→∀k,e.K k→(n=j∧((aZ.cv bb ks x s vs).K k∨(aZ.aB w sw rs).K k))∨(n≠j∧n≠i∧H[n]?=some e):=by
   intro n e hn k hk
   by_cases hnj:n=j
   ·subst hnj;rw[List.getElem?_set_self (by rw[List.length_set];exact bX hj)] at hn;cases hn;refine .inl ⟨rfl,?_⟩
    rcases hk with hk|hk|hk
    ·exact .inl (.inl hk)
    ·exact .inl (.inr hk)
    ·exact .inr hk
   ·rw[List.getElem?_set_ne (fun e=>hnj e.symm)] at hn
    by_cases hni:n=i
    ·subst hni;rw[List.getElem?_set_self (bX hi)] at hn;cases hn;exact hk.elim
    ·rw[List.getElem?_set_ne (fun e=>hni e.symm)] at hn;exact .inr ⟨hnj,hni,hn⟩
  rcases key a ea ha k mq with⟨h4,h5⟩|⟨h4,h5,h6⟩<;>rcases key b eb hb k fQ with⟨g4,g5⟩|⟨g4,g5,g6⟩
  ·exact hab (h4.trans g4.symm)
  ·rcases h5 with h5|h5
   ·exact h.dis j b _ _ (fun e=>g4 e.symm) hj g6 k h5 fQ
   ·exact h.dis i b _ _ (fun e=>g5 e.symm) hi g6 k h5 fQ
  ·rcases g5 with g5|g5
   ·exact h.dis a j _ _ h4 h6 hj k mq g5
   ·exact h.dis a i _ _ h5 h6 hi k mq g5
  ·exact h.dis a b _ _ hab h6 g6 k mq fQ
theorem Has.xb {P:Pv} {j:Nat} {x y:D} {s:Nat} {ks:Nat→Prop} {vs ys Mx:List (List D)} (hH:Has N S st H) (hj:H[j]?=some (.cv bb ks x s vs)) (hy:Rows st s y ys) (hd:cN (cN (eP bb st ks)) ys Mx) {t1 t2 e:TypeId} {td:TypeDesc} {inf:TypeInfo} {z:List D}
  (h1:P.bZ t1=some (.slice e)) (h2:P.bZ t2=some td) (h3:ek td=false) (h4:P.info e=some inf) (h5:cI P e=some z) (h6:inf.size=s) (h7:z.length=s) (h8:0<inf.bytes∧inf.bytes≤1024)
  (pg:vs.length+ys.length≤1073741824) (hw:S.flr≤N∨refs ys.flatten=0):
  ∃x' ah,bd P .append [t1,t2] [x,y] st=some (x',ah)∧Has N S ah (H.set j (.cv bb ks x' s (vs++Mx))):=by
 obtain⟨⟨es,he1,Cm⟩,he3⟩:=(hH.ok j _ hj).1;have hK:=(hH.ok j _ hj).2;have hlen:=Cm.len
 have Jc:Has N S st [.aB x s es]:=by
  refine⟨hH.ex,hH.hN,hH.eG,fun i e hi=>?_,fun i i' a b hii ha hb k mq fQ=>?_⟩
  ·cases i with
   |zero=>simp only[List.getElem?_cons_zero,Option.some.injEq] at hi;subst hi;exact⟨he1,fun k hk=>hK k (.inl hk)⟩
   |succ i=>simp at hi
  ·cases i with
   |zero=>cases i' with
    |zero=>exact hii rfl
    |succ i'=>simp at hb
   |succ i=>simp at ha
 obtain⟨x',ah,q1,q2,q3⟩:=Jc.append (j:=0) aG hy h1 h2 h3 h4 h5 h6 h7 h8 (by omega) hw;refine⟨x',ah,q1,?_⟩;have hown:=q2.own (j:=0) aG
 have RN:(∀k,k<st.bs.length→x.ref≠k+1→ah.bs[k]?=st.bs[k]?)∧st.bs.length≤ah.bs.length∧ah.flr=st.flr∧ah.ro=st.ro∧(∀k,x'.ref=k+1→x.ref=k+1∨st.bs.length≤k):=by
  have ig:=hy.row
  have wF:∀e∈ys,e.length=s:=fun e he=>by
   obtain⟨i,hi⟩:=List.getElem?_of_mem he;exact hy.s8 i e hi
  simp only[bd,cX,h1,h2,h3,Bool.false_eq_true,if_false,h4,h5,ig,Option.bind_some] at q1
  split at q1
  ·cases q1
  ·cases he1 with
   |nul=>
    simp only at q1
    split at q1
    ·cases q1;exact⟨fun _ _ _=>rfl,Nat.le_refl _,rfl,rfl,fun k hk=>.inl hk⟩
    ·split at q1
     ·cases q1;exact⟨fun k hk _=>by simp only[St.push];rw[List.getElem?_append_left hk],by simp[St.push],rfl,rfl,fun k hk=>.inr (by simp only[D.ref] at hk;omega)⟩
     ·cases q1
   |win k au off es c hm hl hc he=>
    simp only[St.mem_of hm] at q1
    split at q1
    ·cases q1
    ·split at q1
     ·cases q1;exact⟨fun _ _ _=>rfl,Nat.le_refl _,rfl,rfl,fun k hk=>.inl hk⟩
     ·split at q1
      ·cases q1;exact⟨fun n hn hne=>by simp only;rw[List.getElem?_set_ne (fun e=>hne (by simp only[D.ref];omega))],by simp,rfl,rfl,fun n hn=>.inl (by simp only[D.ref] at hn⊢;exact hn)⟩
      ·cases q1
 obtain⟨c1,c2,c3,c4,c5⟩:=RN;have Qp:=(q2.ok 0 _ aG).2;have yQ:∀k,ks k→ah.bs[k]?=st.bs[k]?:=fun k hk=>c1 k (hK k (.inr hk)).2 fun e=>he3 k e hk;refine hH.vJ hj (fun k hk hne=>c1 k hk fun e=>hne (.inl e)) c2 c3 c4 ⟨⟨es++ys,hown,?_⟩,fun k hk mM=>?_⟩ (fun k hk=>?_) fun k hk=>?_
 ·exact(Cm.mono fun a b=>cN.mono fun c d=>eP.move yQ).append (hd.mono fun a b=>cN.mono fun c d=>eP.move yQ)
 ·rcases c5 k hk with h|h
  ·exact he3 k h mM
  ·have:=(hK k (.inr mM)).2;omega
 ·rcases hk with hk|hk
  ·rcases c5 k hk with h|h
   ·exact .inl (.inl h)
   ·exact .inr h
  ·exact .inl (.inr hk)
 ·rcases hk with hk|hk
  ·exact(Qp k hk).2
  ·exact Nat.lt_of_lt_of_le (hK k (.inr hk)).2 c2
theorem ae.xb {P:Pv} {ops:Array Oper} {rest:List Oper} {fr:Fr} {Q:Fr→St→Prop} {ty:TypeId} {pp:String} {a:Array Edge} {g:Option (Nat×Bool)} {dst:Nat} {j:Nat} {x y:D} {s:Nat} {ks:Nat→Prop} {vs ys Mx:List (List D)} {t1 t2 e:TypeId} {td:TypeDesc} {inf:TypeInfo} {z:List D} {xo yo:Operand} {az:D→Fr} (hH:Has N S st H) (hg:ax ops fr ⟨some dst,.call ⟨.builtin .append,#[xo,yo],#[t1,t2]⟩,ty,pp,a,g⟩=some true)
  (hx:fr.ev xo=x) (hy:fr.ev yo=y) (hj:H[j]?=some (.cv bb ks x s vs)) (j_:Rows st s y ys) (hd:cN (cN (eP bb st ks)) ys Mx)
  (h1:P.bZ t1=some (.slice e)) (h2:P.bZ t2=some td) (h3:ek td=false) (h4:P.info e=some inf) (h5:cI P e=some z) (h6:inf.size=s) (h7:z.length=s) (h8:0<inf.bytes∧inf.bytes≤1024)
  (hp:∀x',fr.put dst x'=az x') (hb:vs.length+ys.length≤1073741824) (hw:S.flr≤N∨refs ys.flatten=0)
  (h:∀x' ah,Has N S ah (H.set j (.cv bb ks x' s (vs++Mx)))→ae P ops rest (az x') ah Q):
  ae P ops (⟨some dst,.call ⟨.builtin .append,#[xo,yo],#[t1,t2]⟩,ty,pp,a,g⟩::rest) fr st Q:=by
 obtain⟨x',ah,q1,q2⟩:=hH.xb hj j_ hd h1 h2 h3 h4 h5 h6 h7 h8 hb hw;refine ae.go hg rfl (d:=x') (st1:=ah) ?_ (hp _) (h x' ah q2);simp only[dE,List.map_cons,List.map_nil,hx,hy];exact q1
theorem Has.GO {j:Nat} {x:D} {s:Nat} {ks:Nat→Prop} {vs:List (List D)} (hH:Has N S st H) (hj:H[j]?=some (.cv bb ks x s vs)) {n:Nat} (hn:4≤n):aJ st N false (n+1) x=some (.sl (vs.map (kY s))):=by
 obtain⟨n,rfl⟩:∃m,n=m+4:=⟨n-4,by omega⟩
 obtain⟨⟨es,h1,h2⟩,h3⟩:=(hH.ok j _ hj).1;have hK:=(hH.ok j _ hj).2
 cases h1 with
 |nul=>cases h2;rfl
 |win k au off es c hm hl hc he=>
  have hk:=hK k (.inl (by simp only[D.ref]));show(if k<N then some (D.win k au off es.length s) else cP st N (n+4) (.win k au off es.length s))=_;rw[if_neg (show¬k<N by omega),cP];simp only[if_neg (show¬k<N by omega),St.mem_of hm,Option.bind_some];rw[if_pos hl,hc,uO (fun a b hab=>hab.pure (fun k hk=>(hK k (.inr hk)).1) (n+1)) h2.flat];simp only[Option.map_some];rw[h2.len,fU (h2.each he)]
theorem Has.w5 {j:Nat} {x:D} {s:Nat} {es:List (List D)} (hH:Has N S st H) (hj:H[j]?=some (.aB x s es)) (hp:∀e∈es,∀d∈e,b_ d=true) {n:Nat} (hn:3≤n):aJ st N false n x=some (.sl (es.map (kY s))):=by
 obtain⟨n,rfl⟩:∃m,n=m+1:=⟨n-1,by omega⟩
 exact hH.freeze hj hp (by omega)
theorem Has.ck {P:Pv} {fr:Fr} {a k au off j:Nat} {t:TypeId} {ar:Bool} {c:List D} {d:D} (hH:Has N S st H) (ha:fr.get a=.ptr k au off) (hj:H[j]?=some (.box k (.mem au ar c))) (hd:dj P t (c.drop off)=some d):ku P fr st [.cell a t]=some [d]:=by
 simp only[ku,fZ,ha,St.mem_of (hH.at hj),Option.bind_some,hd,Option.map_some]
theorem eU.cells {s:Nat} {x:D} {es:List (List D)} (h:eU st s x es):x.cells?=some [x]:=by cases h<;>rfl
theorem Has.tc {j:Nat} {x:D} {s:Nat} {ks:Nat→Prop} {vs:List (List D)} (hH:Has N S st H) (hj:H[j]?=some (.cv bb ks x s vs)):x.cells?=some [x]:=by
 obtain⟨⟨es,h1,_⟩,_⟩:=(hH.ok j _ hj).1;exact h1.cells
theorem Has.gN {j:Nat} {x:D} {s:Nat} {es:List (List D)} (hH:Has N S st H) (hj:H[j]?=some (.aB x s es)):x.cells?=some [x]:=(hH.own hj).cells
def A2 (fr:Fr):List (Nat×Operand)→List (Nat×D)→Prop
 |[],[]=>True
 |(i,o)::ps,(j,d)::qs=>i=j∧fr.ev o=d∧d.cells?=some [d]∧A2 fr ps qs
 |_,_=>False
theorem vh {fr:Fr} {pl:Nat→Option (Nat×Nat)}:∀{ps:List (Nat×Operand)} {qs:List (Nat×D)} {z:List D},A2 fr ps qs→(∀q∈qs,pl q.1=some (q.1,1)∧q.1<z.length)→iI pl z (ps.map fun p=>(p.1,fr.ev p.2))=some (qs.foldl (fun l q=>l.set q.1 q.2) z)
 |[],[],z,_,_=>rfl
 |(i,o)::ps,(j,d)::qs,z,h,hp=>by
  obtain⟨rfl,h2,h3,h4⟩:=h;obtain⟨h5,h6⟩:=hp (i,d) (List.mem_cons_self ..);simp only[List.map_cons,iI,h2,h3,h5,List.foldl_cons];rw[if_neg (by simp only[List.length_cons,List.length_nil];simp only at h6;omega)];simp only[setMany]
  exact vh h4 fun q hq=>by
   have:=hp q (List.mem_cons_of_mem _ hq)
   simpa using this
 |[],_::_,_,h,_=>h.elim
 |_::_,[],_,h,_=>h.elim
theorem ae.iC {P:Pv} {ops:Array Oper} {rest:List Oper} {fr az:Fr} {Q:Fr→St→Prop} {ty:TypeId} {pp:String} {a:Array Edge} {g:Option (Nat×Bool)} {dst:Nat} {t:TypeId} {parts:Array (Nat×Operand)} {z cs:List D} {fields:Array Field} {ps:List (Nat×Nat)} {qs:List (Nat×D)} (hg:ax ops fr ⟨some dst,.build t parts,ty,pp,a,g⟩=some true) (hz:cI P t=some z) (hu:P.bZ t=some (.struct fields)) (zw:ma P fields.toList=some ps) (he:A2 fr parts.toList qs) (lg:∀q∈qs,ps[q.1]?=some (q.1,1)∧q.1<z.length) (hcs:qs.foldl (fun l q=>l.set q.1 q.2) z=cs) (hp:fr.put dst (.agg cs)=az)
  (h:ae P ops rest az st Q):ae P ops (⟨some dst,.build t parts,ty,pp,a,g⟩::rest) fr st Q:=by
 refine ae.go hg rfl (d:=.agg cs) (st1:=st) ?_ hp h;simp only[dE,tn,hz,hu,zw];rw[vh (pl:=fun i=>ps[i]?) he lg,hcs];rfl
theorem Has.Fc {P:Pv} {fr:Fr} {a k au off j u:Nat} {t:TypeId} {ar:Bool} {c:List D} {d e:D} (hH:Has N S st H) (ha:fr.get a=.ptr k au off) (hj:H[j]?=some (.box k (.mem au ar c))) (hd:dj P t (c.drop off)=some d) (he:fr.get u=e):ku P fr st [.cell a t,.tmp u]=some [d,e]:=by
 simp only[ku,fZ,ha,St.mem_of (hH.at hj),Option.bind_some,hd,Option.map_some,he]
theorem ae.Oe {P:Pv} {ops:Array Oper} {rest:List Oper} {fr az:Fr} {Q:Fr→St→Prop} {ty:TypeId} {pp:String} {a:Array Edge} {g:Option (Nat×Bool)} {dst:Nat} {t e:TypeId} {xo io:Operand} {k v off m s o:Nat} {kk:IntKind} {i:Nat} (hg:ax ops fr ⟨some dst,.indexAddr t xo io,ty,pp,a,g⟩=some true) (hx:fr.ev xo=.ptr k v off) (hi:fr.ev io=.int kk (i:Nat)) (ht:P.bZ t=some (.array m e)) (hs:bR P e=some s) (hlt:i<m) (ho:off+i*s=o) (hp:fr.put dst (.ptr k v o)=az)
  (h:ae P ops rest az st Q):ae P ops (⟨some dst,.indexAddr t xo io,ty,pp,a,g⟩::rest) fr st Q:=by
 subst ho;refine ae.go hg rfl (d:=.ptr k v (off+i*s)) (st1:=st) ?_ hp h;simp only[dE,hx,hi,bM,ht,hs,Option.bind_some];rw[if_pos ⟨by omega,by omega⟩];rfl
theorem vH.mono {st:St} {ks JX:Nat→Prop} (h:∀k,ks k→JX k) {d v:D} (p:vH st ks d v):vH st JX d v:=eP.mono h p
theorem vH.move {st ah:St} {ks:Nat→Prop} (h:∀k,ks k→ah.bs[k]?=st.bs[k]?) {d v:D} (p:vH st ks d v):vH ah ks d v:=eP.move h p
end Go.V
namespace Go.V
variable{P:Pv} {ops:Array Oper} {rest:List Oper} {fr az:Fr} {st st1:St} {Q:Fr→St→Prop} {ty:TypeId} {pp:String} {a:Array Edge} {g:Option (Nat×Bool)} {dst:Nat} {N:Nat} {S:St} {H:List aZ} {d:D} {op:Op}
theorem qm {op:Op} {x:Operand} {d:D} (h:ae P ops rest az st Q) (hop:op=.move x∨op=.assign x:=by first|exact .inl rfl|exact .inr rfl) (hg:ax ops fr ⟨some dst,op,ty,pp,a,g⟩=some true:=by exact rfl) (hx:fr.ev x=d:=by exact ev rfl) (hp:fr.put dst d=az:=by first|exact aa rfl _|(dsimp only[Fr.put,List.set_cons_succ,List.set_cons_zero]<;>rfl)):ae P ops (⟨some dst,op,ty,pp,a,g⟩::rest) fr st Q:=
 ae.mv (hop:=hop) (hg:=hg) (hx:=hx) (hp:=hp) (h:=h)
theorem qs {op:Op} (h:ae P ops rest az st Q) (hg:ax ops fr ⟨some dst,op,ty,pp,a,g⟩=some false:=by exact rfl) (hp:fr.put dst (.tup [])=az:=by first|exact aa rfl _|(dsimp only[Fr.put,List.set_cons_succ,List.set_cons_zero]<;>rfl)):ae P ops (⟨some dst,op,ty,pp,a,g⟩::rest) fr st Q:=
 ae.skip (hg:=hg) (hp:=hp) (h:=h)
theorem qp {t:TypeId} {xo:Operand} {k au off o f fo m:Nat} {fields:Array Field} (h:ae P ops rest az st Q) (hg:ax ops fr ⟨some dst,.fieldAddr t xo f,ty,pp,a,g⟩=some true:=by exact rfl) (hx:fr.ev xo=.ptr k au off:=by exact ev rfl) (ht:P.bZ t=some (.struct fields):=by exact rfl) (hf:lL P fields f=some (fo,some (m+1)):=by exact rfl) (ho:off+fo=o:=by exact rfl) (hp:fr.put dst (.ptr k au o)=az:=by first|exact aa rfl _|(dsimp only[Fr.put,List.set_cons_succ,List.set_cons_zero]<;>rfl)):ae P ops (⟨some dst,.fieldAddr t xo f,ty,pp,a,g⟩::rest) fr st Q:=
 ae.ej (hg:=hg) (hx:=hx) (ht:=ht) (hf:=hf) (ho:=ho) (hp:=hp) (h:=h)
theorem ql {j k au off:Nat} {ar:Bool} {c:List D} {d:D} {t:TypeId} {ao:Operand} (hH:Has N S st H) (hj:H[j]?=some (.box k (.mem au ar c))) (h:ae P ops rest az st Q) (hg:ax ops fr ⟨some dst,.load t ao,ty,pp,a,g⟩=some true:=by exact rfl) (ha:fr.ev ao=.ptr k au off:=by exact ev rfl) (hd:dj P t (c.drop off)=some d:=by exact rfl) (hp:fr.put dst d=az:=by first|exact aa rfl _|(dsimp only[Fr.put,List.set_cons_succ,List.set_cons_zero]<;>rfl)):ae P ops (⟨some dst,.load t ao,ty,pp,a,g⟩::rest) fr st Q:=
 ae.fw (hH:=hH) (hg:=hg) (ha:=ha) (hj:=hj) (hd:=hd) (hp:=hp) (h:=h)
theorem qg {op:Op} {d:D} {st1:St} (h:ae P ops rest az st1 Q) (hg:ax ops fr ⟨some dst,op,ty,pp,a,g⟩=some true:=by exact rfl) (hc:ja op=false:=by exact rfl) (h1:dE P fr st op ty=some (d,st1):=by exact rfl) (hp:fr.put dst d=az:=by first|exact aa rfl _|(dsimp only[Fr.put,List.set_cons_succ,List.set_cons_zero]<;>rfl)):ae P ops (⟨some dst,op,ty,pp,a,g⟩::rest) fr st Q:=
 ae.go (hg:=hg) (hc:=hc) (h1:=h1) (hp:=hp) (h:=h)
theorem qn {t e:TypeId} {xo:Operand} {x:D} {s:Nat} {es:List (List D)} (h:ae P ops rest az st Q) (hg:ax ops fr ⟨some dst,.call ⟨.builtin .len,#[xo],#[t]⟩,ty,pp,a,g⟩=some true:=by exact rfl) (hx:fr.ev xo=x:=by exact ev rfl) (hR:Rows st s x es:=by exact Arg.rows (by assumption) (by assumption)) (ht:P.bZ t=some (.slice e):=by exact rfl) (hp:fr.put dst (.int .i64 (es.length:Nat))=az:=by first|exact aa rfl _|(dsimp only[Fr.put,List.set_cons_succ,List.set_cons_zero]<;>rfl)):ae P ops (⟨some dst,.call ⟨.builtin .len,#[xo],#[t]⟩,ty,pp,a,g⟩::rest) fr st Q:=
 ae.iA (hg:=hg) (hx:=hx) (hR:=hR) (ht:=ht) (hp:=hp) (h:=h)
theorem qr {t e:TypeId} {xo io:Operand} {x:D} {s i:Nat} {kk:IntKind} {es:List (List D)} {r:List D} {az:D→Fr} (h:∀p,jT st p r→ae P ops rest (az p) st Q) (hg:ax ops fr ⟨some dst,.indexAddr t xo io,ty,pp,a,g⟩=some true:=by exact rfl) (hx:fr.ev xo=x:=by exact ev rfl) (hi:fr.ev io=.int kk (i:Nat):=by exact ev rfl) (hR:Rows st s x es:=by exact Arg.rows (by assumption) (by assumption)) (ht:P.bZ t=some (.slice e):=by exact rfl) (hs:bR P e=some s:=by exact rfl) (hr:es[i]?=some r:=by assumption) (hp:∀p,fr.put dst p=az p:=by first|exact fun _=>aa rfl _|exact fun _=>by dsimp only[Fr.put,List.set_cons_succ,List.set_cons_zero]<;>rfl):ae P ops (⟨some dst,.indexAddr t xo io,ty,pp,a,g⟩::rest) fr st Q:=
 ae.oL (hg:=hg) (hx:=hx) (hi:=hi) (hR:=hR) (ht:=ht) (hs:=hs) (hr:=hr) (hp:=hp) (h:=h)
theorem qR {t:TypeId} {ao:Operand} {x d:D} {r:List D} (h:ae P ops rest az st Q) (hg:ax ops fr ⟨some dst,.load t ao,ty,pp,a,g⟩=some true:=by exact rfl) (ha:fr.ev ao=x:=by exact ev rfl) (hR:jT st x r:=by assumption) (hd:dj P t r=some d:=by exact rfl) (hp:fr.put dst d=az:=by first|exact aa rfl _|(dsimp only[Fr.put,List.set_cons_succ,List.set_cons_zero]<;>rfl)):ae P ops (⟨some dst,.load t ao,ty,pp,a,g⟩::rest) fr st Q:=
 ae.cO (hg:=hg) (ha:=ha) (hR:=hR) (hd:=hd) (hp:=hp) (h:=h)
theorem qf {t:TypeId} {xo:Operand} {x:D} {r:List D} {f fo m:Nat} {fields:Array Field} {az:D→Fr} (h:∀p,jT st p (r.drop fo)→ae P ops rest (az p) st Q) (hg:ax ops fr ⟨some dst,.fieldAddr t xo f,ty,pp,a,g⟩=some true:=by exact rfl) (hx:fr.ev xo=x:=by exact ev rfl) (hR:jT st x r:=by assumption) (ht:P.bZ t=some (.struct fields):=by exact rfl) (hf:lL P fields f=some (fo,some (m+1)):=by exact rfl) (hp:∀p,fr.put dst p=az p:=by first|exact fun _=>aa rfl _|exact fun _=>by dsimp only[Fr.put,List.set_cons_succ,List.set_cons_zero]<;>rfl):ae P ops (⟨some dst,.fieldAddr t xo f,ty,pp,a,g⟩::rest) fr st Q:=
 ae.vT (hg:=hg) (hx:=hx) (hR:=hR) (ht:=ht) (hf:=hf) (hp:=hp) (h:=h)
theorem qi {t e:TypeId} {xo io:Operand} {x:D} {s i j:Nat} {kk:IntKind} {es:List (List D)} {az:D→Fr} (hH:Has N S st H) (hj:H[j]?=some (.aB x s es)) (h:∀p,pC x s i 0 p→ae P ops rest (az p) st Q) (hg:ax ops fr ⟨some dst,.indexAddr t xo io,ty,pp,a,g⟩=some true:=by exact rfl) (hx:fr.ev xo=x:=by exact ev rfl) (hi:fr.ev io=.int kk (i:Nat):=by exact ev rfl) (ht:P.bZ t=some (.slice e):=by exact rfl) (hs:bR P e=some s:=by exact rfl) (hr:i<es.length:=by exact bX (by assumption)) (hp:∀p,fr.put dst p=az p:=by first|exact fun _=>aa rfl _|exact fun _=>by dsimp only[Fr.put,List.set_cons_succ,List.set_cons_zero]<;>rfl):ae P ops (⟨some dst,.indexAddr t xo io,ty,pp,a,g⟩::rest) fr st Q:=
 ae.Am (hH:=hH) (hg:=hg) (hx:=hx) (hi:=hi) (hj:=hj) (ht:=ht) (hs:=hs) (hr:=hr) (hp:=hp) (h:=h)
theorem qo {t:TypeId} {ao:Operand} {x y d:D} {s i o j:Nat} {es:List (List D)} {r:List D} (hH:Has N S st H) (hj:H[j]?=some (.aB x s es)) (h:ae P ops rest az st Q) (hg:ax ops fr ⟨some dst,.load t ao,ty,pp,a,g⟩=some true:=by exact rfl) (ha:fr.ev ao=y:=by exact ev rfl) (hR:pC x s i o y:=by assumption) (hr:es[i]?=some r:=by assumption) (hd:dj P t (r.drop o)=some d:=by exact rfl) (hp:fr.put dst d=az:=by first|exact aa rfl _|(dsimp only[Fr.put,List.set_cons_succ,List.set_cons_zero]<;>rfl)):ae P ops (⟨some dst,.load t ao,ty,pp,a,g⟩::rest) fr st Q:=
 ae.dB (hH:=hH) (hg:=hg) (ha:=ha) (hR:=hR) (hj:=hj) (hr:=hr) (hd:=hd) (hp:=hp) (h:=h)
theorem qS {j k au:Nat} {ar:Bool} {c cs:List D} {v:D} {t:TypeId} {ao vo:Operand} (hH:Has N S st H) (hj:H[j]?=some (.box k (.mem au ar c))) (h:∀ah,Has N S ah (H.set j (.box k (.mem au ar cs)))→ae P ops rest fr ah Q) (hg:ax ops fr ⟨none,.store t ao vo,ty,pp,a,g⟩=some true:=by exact rfl) (ha:fr.ev ao=.ptr k au 0:=by exact ev rfl) (hv:fr.ev vo=v:=by exact ev rfl) (hcs:v.cells?=some cs:=by first|rfl|exact(gY.cells (by assumption)).1) (hs:bR P t=some cs.length:=by exact rfl) (hl:cs.length=c.length:=by exact rfl) (hw:S.flr≤N∨refs cs=0:=by first|exact .inl (by assumption)|exact .inr rfl):ae P ops (⟨none,.store t ao vo,ty,pp,a,g⟩::rest) fr st Q:=
 ae.bC (hH:=hH) (hg:=hg) (ha:=ha) (hv:=hv) (hcs:=hcs) (hs:=hs) (hj:=hj) (hl:=hl) (hw:=hw) (h:=h)
theorem qT {j k au off:Nat} {ar:Bool} {c cs:List D} {v:D} {t:TypeId} {ao vo:Operand} (hH:Has N S st H) (hj:H[j]?=some (.box k (.mem au ar c))) (h:∀ah,Has N S ah (H.set j (.box k (.mem au ar (setMany c off cs))))→ae P ops rest fr ah Q) (hg:ax ops fr ⟨none,.store t ao vo,ty,pp,a,g⟩=some true:=by exact rfl) (ha:fr.ev ao=.ptr k au off:=by exact ev rfl) (hv:fr.ev vo=v:=by exact ev rfl) (hcs:v.cells?=some cs:=by first|rfl|exact(gY.cells (by assumption)).1) (hs:bR P t=some cs.length:=by exact rfl) (hl:off+cs.length≤c.length:=by exact Nat.le_of_ble_eq_true rfl) (hw:S.flr≤N∨refs cs=0:=by first|exact .inl (by assumption)|exact .inr rfl):ae P ops (⟨none,.store t ao vo,ty,pp,a,g⟩::rest) fr st Q:=
 ae.kE (hH:=hH) (hg:=hg) (ha:=ha) (hv:=hv) (hcs:=hcs) (hs:=hs) (hj:=hj) (hl:=hl) (hw:=hw) (h:=h)
theorem qa {e:TypeId} {cs:List D} {az:Nat→Fr} (hH:Has N S st H) (h:∀k ah,S.bs.length≤k→Has N S ah (.box k (.mem 0 false cs)::H)→ae P ops rest (az k) ah Q) (hg:ax ops fr ⟨some dst,.alloc e,ty,pp,a,g⟩=some true:=by exact rfl) (hz:cI P e=some cs:=by exact rfl) (hp:∀k,fr.put dst (.ptr k 0 0)=az k:=by first|exact fun _=>aa rfl _|exact fun _=>by dsimp only[Fr.put,List.set_cons_succ,List.set_cons_zero]<;>rfl):ae P ops (⟨some dst,.alloc e,ty,pp,a,g⟩::rest) fr st Q:=
 ae.sQ (hH:=hH) (hg:=hg) (hz:=hz) (hp:=hp) (h:=h)
theorem qb {e:TypeId} {xo:Operand} {cs:List D} {az:Nat→Fr} (hH:Has N S st H) (h:∀k ah,S.bs.length≤k→Has N S ah (.box k (.mem 0 false cs)::H)→ae P ops rest (az k) ah Q) (hg:ax ops fr ⟨some dst,.box e xo,ty,pp,a,g⟩=some true:=by exact rfl) (hz:(fr.ev xo).cells?=some cs:=by exact rfl) (hp:∀k,fr.put dst (.ptr k 0 0)=az k:=by first|exact fun _=>aa rfl _|exact fun _=>by dsimp only[Fr.put,List.set_cons_succ,List.set_cons_zero]<;>rfl):ae P ops (⟨some dst,.box e xo,ty,pp,a,g⟩::rest) fr st Q:=
 ae.tX (hH:=hH) (hg:=hg) (hz:=hz) (hp:=hp) (h:=h)
theorem qA {t nB:TypeId} {xo yo:Operand} {x y:Int} (h:ae P ops rest az st Q) (hg:ax ops fr ⟨some dst,.binOp .add t xo yo nB,ty,pp,a,g⟩=some true:=by exact rfl) (hx:fr.ev xo=.int .i64 x:=by exact ev rfl) (hy:fr.ev yo=.int .i64 y:=by exact ev rfl) (h1:-9223372036854775808≤x+y:=by omega) (h2:x+y≤9223372036854775807:=by omega) (hp:fr.put dst (.int .i64 (x+y))=az:=by first|exact aa rfl _|(dsimp only[Fr.put,List.set_cons_succ,List.set_cons_zero]<;>rfl)):ae P ops (⟨some dst,.binOp .add t xo yo nB,ty,pp,a,g⟩::rest) fr st Q:=
 ae.Hu (hg:=hg) (hx:=hx) (hy:=hy) (h1:=h1) (h2:=h2) (hp:=hp) (h:=h)
theorem qP {j:Nat} {x y:D} {s:Nat} {es ys:List (List D)} {t1 t2 e:TypeId} {td:TypeDesc} {inf:TypeInfo} {z:List D} {xo yo:Operand} {az:D→Fr} (hH:Has N S st H) (hj:H[j]?=some (.aB x s es)) (j_:Rows st s y ys) (h:∀x' ah,Has N S ah (H.set j (.aB x' s (es++ys)))→ae P ops rest (az x') ah Q) (hg:ax ops fr ⟨some dst,.call ⟨.builtin .append,#[xo,yo],#[t1,t2]⟩,ty,pp,a,g⟩=some true:=by exact rfl) (hx:fr.ev xo=x:=by exact ev rfl) (hy:fr.ev yo=y:=by exact ev rfl) (h1:P.bZ t1=some (.slice e):=by exact rfl) (h2:P.bZ t2=some td:=by exact rfl) (h3:ek td=false:=by exact rfl) (h4:P.info e=some inf:=by exact rfl) (h5:cI P e=some z:=by exact rfl) (h6:inf.size=s:=by exact rfl) (h7:z.length=s:=by exact rfl) (h8:0<inf.bytes∧inf.bytes≤1024:=by exact⟨Nat.le_of_ble_eq_true rfl,Nat.le_of_ble_eq_true rfl⟩) (hp:∀x',fr.put dst x'=az x':=by first|exact fun _=>aa rfl _|exact fun _=>by dsimp only[Fr.put,List.set_cons_succ,List.set_cons_zero]<;>rfl) (hb:es.length+ys.length≤1073741824:=by first|omega|(simp only[List.length_append,List.length_cons,List.length_nil,List.length_map,List.length_replicate,List.length_set,List.length_reverse]<;>omega)) (hw:S.flr≤N∨refs ys.flatten=0:=by first|exact .inl (by assumption)|exact .inr rfl):ae P ops (⟨some dst,.call ⟨.builtin .append,#[xo,yo],#[t1,t2]⟩,ty,pp,a,g⟩::rest) fr st Q:=
 ae.ew (hH:=hH) (hg:=hg) (hx:=hx) (hy:=hy) (hj:=hj) (j_:=j_) (h1:=h1) (h2:=h2) (h3:=h3) (h4:=h4) (h5:=h5) (h6:=h6) (h7:=h7) (h8:=h8) (hp:=hp) (hb:=hb) (hw:=hw) (h:=h)
theorem qh {t e:TypeId} {m s:Nat} {parts:Array (Nat×Operand)} {z:List D} {vs:List D} {az:Nat→Fr} (hH:Has N S st H) (h:∀k ah,S.bs.length≤k→Has N S ah (.aB (.win k 0 0 m s) s (vs.map D.cells)::H)→ae P ops rest (az k) ah Q) (hg:ax ops fr ⟨some dst,.buildSlice t m parts,ty,pp,a,g⟩=some true:=by exact rfl) (ht:P.bZ t=some (.slice e):=by exact rfl) (hs:bR P e=some s:=by exact rfl) (hz:cI P e=some z:=by exact rfl) (kR:z.length=s:=by exact rfl) (hm:m*s≤16777216:=by exact Nat.le_of_ble_eq_true rfl) (O8:Cx fr 0 parts.toList vs:=by first|exact⟨rfl,ev rfl,trivial⟩|exact⟨rfl,ev rfl,rfl,ev rfl,trivial⟩|exact⟨rfl,ev rfl,rfl,ev rfl,rfl,ev rfl,trivial⟩|exact⟨rfl,ev rfl,rfl,ev rfl,rfl,ev rfl,rfl,ev rfl,trivial⟩|exact⟨rfl,ev rfl,rfl,ev rfl,rfl,ev rfl,rfl,ev rfl,rfl,ev rfl,trivial⟩) (hvl:vs.length=m:=by exact rfl) (hc:∀v∈vs,v.cells?=some v.cells∧v.cells.length=s:=by intro v hv;simp only[List.mem_cons,List.not_mem_nil,or_false] at hv;first|(subst hv;exact⟨rfl,rfl⟩)|(rcases hv with rfl|rfl<;>exact⟨rfl,rfl⟩)|(rcases hv with rfl|rfl|rfl<;>exact⟨rfl,rfl⟩)|(rcases hv with rfl|rfl|rfl|rfl<;>exact⟨rfl,rfl⟩)|(rcases hv with rfl|rfl|rfl|rfl|rfl<;>exact⟨rfl,rfl⟩)) (hp:∀k,fr.put dst (.win k 0 0 m s)=az k:=by first|exact fun _=>aa rfl _|exact fun _=>by dsimp only[Fr.put,List.set_cons_succ,List.set_cons_zero]<;>rfl):ae P ops (⟨some dst,.buildSlice t m parts,ty,pp,a,g⟩::rest) fr st Q:=
 ae.NP (hH:=hH) (hg:=hg) (ht:=ht) (hs:=hs) (hz:=hz) (kR:=kR) (hm:=hm) (O8:=O8) (hvl:=hvl) (hc:=hc) (hp:=hp) (h:=h)
theorem qv {f:Operand} {gn:Nat} {fz:List D} {args:Array Operand} {xu:Array TypeId} {d:D} {st1:St} (h1:Ev P gn (args.toList.map fr.ev++fz) st d st1) (h:ae P ops rest az st1 Q) (hg:ax ops fr ⟨some dst,.call ⟨.value f,args,xu⟩,ty,pp,a,g⟩=some true:=by exact rfl) (hf:fr.ev f=.fn gn fz:=by exact rfl) (hp:fr.put dst d=az:=by first|exact aa rfl _|(dsimp only[Fr.put,List.set_cons_succ,List.set_cons_zero]<;>rfl)):ae P ops (⟨some dst,.call ⟨.value f,args,xu⟩,ty,pp,a,g⟩::rest) fr st Q:=
 ae.cu (hg:=hg) (hf:=hf) (h1:=h1) (hp:=hp) (h:=h)
theorem qt {c x y:Operand} {v:Bool} (hv:v=true) (h:ae P ops rest az st Q) (hg:ax ops fr ⟨some dst,.pick c x y,ty,pp,a,g⟩=some true:=by exact rfl) (hc:fr.ev c=.bool v:=by exact rfl) (hp:fr.put dst (fr.ev x)=az:=by first|exact aa rfl _|(dsimp only[Fr.put,List.set_cons_succ,List.set_cons_zero]<;>rfl)):ae P ops (⟨some dst,.pick c x y,ty,pp,a,g⟩::rest) fr st Q:=
 ae.cQ (hg:=hg) (hc:=hc) (hv:=hv) (hp:=hp) (h:=h)
theorem qu {c x y:Operand} {v:Bool} (hv:v=false) (h:ae P ops rest az st Q) (hg:ax ops fr ⟨some dst,.pick c x y,ty,pp,a,g⟩=some true:=by exact rfl) (hc:fr.ev c=.bool v:=by exact rfl) (hp:fr.put dst (fr.ev y)=az:=by first|exact aa rfl _|(dsimp only[Fr.put,List.set_cons_succ,List.set_cons_zero]<;>rfl)):ae P ops (⟨some dst,.pick c x y,ty,pp,a,g⟩::rest) fr st Q:=
 ae.cC (hg:=hg) (hc:=hc) (hv:=hv) (hp:=hp) (h:=h)
theorem wi {ops:Array Oper} {fr:Fr} {o:Oper} {j t:Nat} {w v:Bool} (h4:v=w) (h1:o.guard=some (j,w):=by exact rfl) (h2:(ops[j]?).bind (·.dst)=some t:=by exact rfl) (h3:fr.get t=.bool v:=by exact rfl):ax ops fr o=some true:=aj h1 h2 h3 h4
theorem wn {ops:Array Oper} {fr:Fr} {o:Oper} {j t:Nat} {w v:Bool} (h4:v=!w) (h1:o.guard=some (j,w):=by exact rfl) (h2:(ops[j]?).bind (·.dst)=some t:=by exact rfl) (h3:fr.get t=.bool v:=by exact rfl):ax ops fr o=some false:=cL h1 h2 h3 h4
theorem qc {dy:Dy} {c:Operand} {a b:Code} {v:Bool} {Q:Out→Fr→St→Prop} (h1:v=true→ai P dy a fr st Q) (h2:v=false→ai P dy b fr st Q) (hv:fr.ev c=.bool v:=by first|rfl|assumption):ai P dy (.cond c a b) fr st Q:=ai.cond hv h1 h2
theorem qq {dy:Dy} {a b:Code} {Q:Out→Fr→St→Prop} (h:ai P dy a fr st (bn P dy b Q)):ai P dy (.seq a b) fr st Q:=ai.seq h
theorem qj {dy:Dy} {i:Nat} {l:List Oper} {d:Bool} {n:Nat} {loc:List D} {tmp:List (Nat×D)} {Q:Out→Fr→St→Prop} (h:∀K:Out→Fr→St→Prop,Q=K→ae P l.toArray l ⟨n,loc,[]⟩ st (K .next)) (h0:gO i dy=[]:=by rfl):ai P dy (.region i l.toArray d) ⟨n,loc,tmp⟩ st Q:=ai.dP (h Q rfl) h0
theorem qe {Q K:Out→Fr→St→Prop} (hK:Q=K) (h:Q .next fr st):ae P ops [] fr st (K .next):=ae.nil (hK▸h)
theorem qB {dy:Dy} {c:Operand} {a b:Code} {Q:Out→Fr→St→Prop} (h1:ai P dy a fr st Q) (hv:fr.ev c=.bool true:=by first|rfl|assumption):ai P dy (.cond c a b) fr st Q:=ai.cond hv (fun _=>h1) (fun h=>by cases h)
theorem qC {dy:Dy} {c:Operand} {a b:Code} {Q:Out→Fr→St→Prop} (h1:ai P dy b fr st Q) (hv:fr.ev c=.bool false:=by first|rfl|assumption):ai P dy (.cond c a b) fr st Q:=ai.cond hv (fun h=>by cases h) (fun _=>h1)
theorem qD {dy:Dy} {c:Operand} {a b:Code} {v:Bool} {Q:Out→Fr→St→Prop} (hv:fr.ev c=.bool v) (hb:v=true) (h1:ai P dy a fr st Q):ai P dy (.cond c a b) fr st Q:=ai.cond hv (fun _=>h1) (fun h=>by rw[hb] at h;cases h)
theorem qE {dy:Dy} {c:Operand} {a b:Code} {v:Bool} {Q:Out→Fr→St→Prop} (hv:fr.ev c=.bool v) (hb:v=false) (h1:ai P dy b fr st Q):ai P dy (.cond c a b) fr st Q:=ai.cond hv (fun h=>by rw[hb] at h;cases h) (fun _=>h1)
theorem rx:∀i:Nat,Out.ret≠Out.exit i:=fun i h=>by cases h
theorem rl {S:St} {H:List aZ} {kn:Bool} {st1:St} {d d':D} (hS:S.bs=st.bs) (hH:Has st.bs.length S st1 H) (hd:aJ st1 st.bs.length kn 16 d=some d'):c8 .ro kn st st1 d=some (d',st):=ic (by simp) hS hH hd
theorem ri (s0:St):(ag .ro s0).bs=s0.bs∧(ag .ro s0).flr≤s0.bs.length∧Has s0.bs.length (ag .ro s0) (ag .ro s0) []:=⟨rfl,Nat.le_refl _,Has.start (Nat.le_refl _) (Nat.le_refl _)⟩
theorem w1 {α:Type} {n:Nat} {a:α}:List.replicate (n+1) a=a::List.replicate n a:=rfl
theorem w2 {α:Type} {a:α}:List.replicate 0 a=[]:=rfl
theorem qy {dy:Dy} {a:Code} {Q:Out→Fr→St→Prop} (h:ai P dy a fr st Q):ai P dy a fr st Q:=h
theorem u1 {α:Type} {x:α} {l:List α} {n:Nat} {a:α}:(x::l).set (n+1) a=x::l.set n a:=rfl
theorem u2 {α:Type} {x:α} {l:List α} {a:α}:(x::l).set 0 a=a::l:=rfl
theorem u3 {α:Type} {x:α} {l m:List α}:(x::l)++m=x::(l++m):=rfl
theorem u4 {α:Type} {m:List α}:([]:List α)++m=m:=rfl
theorem u5 {α β:Type} {f:α→β} {x:α} {l:List α}:(x::l).map f=f x::l.map f:=rfl
theorem u6 {α β:Type} {f:α→β}:([]:List α).map f=[]:=rfl
theorem v1 (k:IntKind) (n:Int):kP (.int k n)=.int k n:=rfl
theorem v2 (b:Bool):kP (.bool b)=.bool b:=rfl
theorem v3 (s:ByteArray):kP (.string s)=.str s.data.toList:=rfl
theorem v4:kP (.slice none 0 0)=.nul:=rfl
theorem v5:kP (.pointer none)=.pnil:=rfl
theorem v6:kP .nilFunc=.nilfn:=rfl
theorem v7:kP .nilIface=.nilif:=rfl
theorem cs:(∀(p:Prop) [Decidable p],(decide p=true)=p)∧(∀(p:Prop) [Decidable p],(decide p=false)=¬p)∧(∀(α:Type) [BEq α] [LawfulBEq α] (a b:α),((a==b)=true)=(a=b))∧(∀(α:Type) [BEq α] [LawfulBEq α] (a b:α),((a==b)=false)=¬a=b)∧(∀(α:Type) [BEq α] [LawfulBEq α] (a b:α),((a !=b)=true)=¬a=b)∧(∀(α:Type) [BEq α] [LawfulBEq α] (a b:α),((a !=b)=false)=(a=b))∧(∀b:Bool,((!b)=true)=(b=false))∧(∀b:Bool,((!b)=false)=(b=true))∧(∀b:Bool,(¬b=true)=(b=false))∧(∀b:Bool,(¬b=false)=(b=true)):=by
 refine⟨fun p _=>by simp,fun p _=>by simp,fun α _ _ a b=>by simp,fun α _ _ a b=>by simp,fun α _ _ a b=>by simp,fun α _ _ a b=>by simp,fun b=>by simp,fun b=>by simp,fun b=>by simp,fun b=>by simp⟩
theorem xT {n t:Nat} {loc:List D} {tmp:List (Nat×D)} (h:ae P ops rest ⟨n,loc,(t,d)::tmp⟩ st1 Q) (hb:Nat.ble n t=true:=by exact rfl) (hg:ax ops ⟨n,loc,tmp⟩ ⟨some t,op,ty,pp,a,g⟩=some true:=by exact rfl) (hc:ja op=false:=by exact rfl) (h1:dE P ⟨n,loc,tmp⟩ st op ty=some (d,st1):=by exact rfl):ae P ops (⟨some t,op,ty,pp,a,g⟩::rest) ⟨n,loc,tmp⟩ st Q:=ae.T hb hg hc h1 h
theorem xL {n t:Nat} {loc:List D} {tmp:List (Nat×D)} (h:ae P ops rest ⟨n,loc.set t d,tmp⟩ st1 Q) (hb:Nat.ble n t=false:=by exact rfl) (hg:ax ops ⟨n,loc,tmp⟩ ⟨some t,op,ty,pp,a,g⟩=some true:=by exact rfl) (hc:ja op=false:=by exact rfl) (h1:dE P ⟨n,loc,tmp⟩ st op ty=some (d,st1):=by exact rfl):ae P ops (⟨some t,op,ty,pp,a,g⟩::rest) ⟨n,loc,tmp⟩ st Q:=ae.L hb hg hc h1 h
theorem xN (h:ae P ops rest fr st1 Q) (hg:ax ops fr ⟨none,op,ty,pp,a,g⟩=some true:=by exact rfl) (hc:ja op=false:=by exact rfl) (h1:dE P fr st op ty=some (d,st1):=by exact rfl):ae P ops (⟨none,op,ty,pp,a,g⟩::rest) fr st Q:=ae.N hg hc h1 h
theorem xo {n t:Nat} {loc:List D} {tmp:List (Nat×D)} (h:ae P ops rest ⟨n,loc,(t,.tup [])::tmp⟩ st Q) (hb:Nat.ble n t=true:=by exact rfl) (hg:ax ops ⟨n,loc,tmp⟩ ⟨some t,op,ty,pp,a,g⟩=some false:=by exact rfl):ae P ops (⟨some t,op,ty,pp,a,g⟩::rest) ⟨n,loc,tmp⟩ st Q:=ae.P4 hb hg h
theorem xp {n t:Nat} {loc:List D} {tmp:List (Nat×D)} (h:ae P ops rest ⟨n,loc.set t (.tup []),tmp⟩ st Q) (hb:Nat.ble n t=false:=by exact rfl) (hg:ax ops ⟨n,loc,tmp⟩ ⟨some t,op,ty,pp,a,g⟩=some false:=by exact rfl):ae P ops (⟨some t,op,ty,pp,a,g⟩::rest) ⟨n,loc,tmp⟩ st Q:=ae.P5 hb hg h
end Go.V
