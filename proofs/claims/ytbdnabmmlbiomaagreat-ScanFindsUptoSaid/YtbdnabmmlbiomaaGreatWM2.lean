import Derived.Test.YtbdnabmmlbiomaaGreatWM4
import Derived.Test.YtbdnabmmlbiomaaGreatWM1
set_option linter.unusedSimpArgs false
set_option linter.unnecessarySimpa false
set_option linter.unusedSectionVars false
set_option linter.unusedVariables false
namespace Go.V
open Go.RowKit
structure fQ (P:Program) (pv:Pv) (f:Nat) (p:List D→St→Option (D×St)):Prop where
 fn:∀ds st r,p ds st=some r→∃fn b,P.funcs[f]?=some fn∧fn.body=some b∧fn.name≠ "runtime.NumGoroutine"
 calls:∀ds st d ah,p ds st=some (d,ah)→∀w β Z (us:List Value),gp w st β Z→ds.length=us.length→(∀(i:Nat) c v,ds[i]?=some c→us[i]?=some v→VR w (st.x β Z) c v)→
  Calls P f us.toArray w fun e w'=>∃v β' Z',e=.returned v∧Nx w st β Z w' ah β' Z'∧VR w' (ah.x β' Z') d v∧(jQ pv f=true→Quiet w w')
 ro:∀ds st d ah,p ds st=some (d,ah)→jQ pv f=true→nK st ah
 len:∀ds st d ah,p ds st=some (d,ah)→ej st ah
theorem zc {pv uy:Pv} (h:∀f,jQ pv f=jQ uy f) (hm:∀s t,mW pv s t=mW uy s t) (ops:Array Oper) (b:Bool) (x y:Oper):kM pv ops b x y=kM uy ops b x y:=by
 have he:∀o,fm pv o=fm uy o:=by
  intro o;unfold fm
  split<;>first|rfl|exact hm _ _|skip
  rw[h]
 simp only[kM,he]
theorem wC {pv uy:Pv} (h:∀f,jQ pv f=jQ uy f) (hm:∀s t,mW pv s t=mW uy s t) (ops:Array Oper) (dy:List (Nat×Nat)):kW pv ops dy=kW uy ops dy:=by
 unfold kW
 congr 1
 funext j;unfold KS
 split
 ·simp only[zc h hm]
 ·rfl
theorem ef {pv uy:Pv} (h:∀f,jQ pv f=jQ uy f) (hm:∀s t,mW pv s t=mW uy s t) (dyn:List (Nat×List (Nat×Nat))) (n:Nat):∀c:Code,codeOk pv dyn n c=codeOk uy dyn n c
 | .region _ ops d=>by simp only[codeOk,wC h hm]
 | .seq a b=>by simp only[codeOk,ef h hm dyn n a,ef h hm dyn n b]
 | .cond _ a b=>by simp only[codeOk,ef h hm dyn n a,ef h hm dyn n b]
 | .block _ c=>by simp only[codeOk,ef h hm dyn n c]
 | .loop c=>by simp only[codeOk,ef h hm dyn n c]
 | .skip| .rangeFunc ..| .exit _| .scope _| .label _| .goto _| .ret| .refuse _=>by simp only[codeOk]
def Pv.over (pv:Pv) (l:List (Nat×(List D→St→Option (D×St)))):Pv:=⟨pv.ty,pv.nty,pv.fs,pv.nfs,pv.eqb,l⟩
theorem Bq (pv:Pv) (l) (f:Nat):jQ (pv.over l) f=jQ pv f:=rfl
theorem tz {f:Nat} {p}:∀{l:List (Nat×(List D→St→Option (D×St)))},lb f l=some p→(f,p)∈l
 |(g,q)::l,h=>by
  simp only[lb] at h
  split at h
  ·rename_i hb;cases h;rw[Nat.eq_of_beq_eq_true hb];exact List.mem_cons_self ..
  ·exact List.mem_cons_of_mem _ (tz h)
theorem sY {pv:Pv} {P:Program} (h:pv.Ok P∧pv.jn∧iA P pv (eP pv)) (Wt:pv.prm=[]) {l:List (Nat×(List D→St→Option (D×St)))} (hl:∀q∈l,fQ P pv q.1 q.2):
  (pv.over l).Ok P∧(pv.over l).jn∧iA P (pv.over l) (eP (pv.over l)):=by
 obtain⟨h1,h2,h3⟩:=h;refine⟨⟨h1.ty,h1.fs,h1.eqb,h1.mixed⟩,fun f x b hx hp hb=>?_,?_⟩
 ·rw[ef (Bq pv l) (fun _ _=>rfl)];exact h2 f x b hx hp hb
 ·have key:∀f ds st r,eP (pv.over l) f ds st=some r→(∃p,fQ P pv f p∧p ds st=some r)∨eP pv f ds st=some r:=by
   intro f ds st r h;unfold eP at h
   split at h
   ·rename_i p hp;exact .inl ⟨p,hl _ (tz hp),h⟩
   ·right;unfold eP;rw[Wt];exact h
  refine⟨fun f ds st r h=>?_,fun f ds st d ah h=>?_,fun f ds st d ah h=>?_,fun f ds st d ah h=>?_⟩
  ·rcases key f ds st r h with⟨p,hp,h⟩|h
   ·exact hp.fn ds st r h
   ·exact h3.fn f ds st r h
  ·rcases key f ds st _ h with⟨p,hp,h⟩|h
   ·exact hp.calls ds st d ah h
   ·exact h3.calls f ds st d ah h
  ·rcases key f ds st _ h with⟨p,hp,h⟩|h
   ·exact hp.ro ds st d ah h
   ·exact h3.ro f ds st d ah h
  ·rcases key f ds st _ h with⟨p,hp,h⟩|h
   ·exact hp.len ds st d ah h
   ·exact h3.len f ds st d ah h
theorem gp.nil {w:World} {Z:Nat→Prop} (hZ:∀b,Z b→b<w.heap.size):gp w ⟨[],0,0⟩ (fun _=>none) Z:=
 ⟨fun _ _ _ h=>(by cases h),fun _ _ _ h=>(by cases h),fun _ _ _ _ _ h=>(by cases h),fun _ _ _ h=>(by cases h),hZ,fun _ _ _ _ h=>(by cases h),Nat.le_refl _,Nat.le_refl _⟩
theorem mz {pv:Pv} {P:Program} (h:pv.Ok P∧pv.jn∧iA P pv (eP pv)) {n f:Nat} {ds:List D} {d:D} {zI:St} (hs:cW pv n f ds ⟨[],0,0⟩=some (d,zI)) (h0:zI.bs=[]) (hr:refs ds=0)
  (st:St) (w:World) (β:Nat→Option (Nat×Nat)) (Z:Nat→Prop) (us:List Value) (fX:gp w st β Z) (hl:ds.length=us.length) (ha:∀(i:Nat) c v,ds[i]?=some c→us[i]?=some v→VR w (st.x β Z) c v):
  Calls P f us.toArray w fun e w'=>∃v β' Z',e=.returned v∧Nx w st β Z w' st β' Z'∧VR w' (st.x β' Z') d v∧Quiet w w':=by
 have hrefs:∀(l:List D),refs l=0→∀c∈l,c.ref≤0:=by
  intro l
  induction l with
  |nil=>intro _ c hc;simp at hc
  |cons x l ih=>
   intro h c hc;simp only[refs] at h
   rcases List.mem_cons.1 hc with rfl|hc
   ·omega
   ·exact ih (by omega) c hc
 refine((iy h.1 h.2.1 h.2.2 n).calls f ds _ d zI hs w (fun _=>none) Z us (gp.nil fX.zl) hl fun i c v hc hv=>?_).mono fun e w'=>?_
 ·exact VR.cut (x:=st.x β Z) (x':=(⟨[],0,0⟩:St).x (fun _=>none) Z) (N:=0) (fun k hk=>absurd hk (Nat.not_lt_zero _)) (fun k hk=>absurd hk (Nat.not_lt_zero _)) (fun b hb=>hb) (ha i c v hc hv) (hrefs ds hr c (List.mem_of_getElem? hc))
 ·rintro⟨v,β',Z',rfl,hn,hv,_⟩
  have mg:∀k p,β' k=some p→False:=fun k p hk=>by
   have:=hn.sim.dom k p.1 p.2 hk;rw[h0] at this;simp at this
  have hq:Quiet w w':=by
   intro c hc;refine hn.evo.block c hc ?_;rintro⟨k,base,h5,_⟩;cases h5
  have Sx:∀b,Z b→Z' b∧w'.heap[b]?=w.heap[b]?:=fun b hb=>⟨(hn.keeps.z b hb).1,hq b (fX.zl b hb)⟩
  have hk:dw w (st.x β Z) w' (st.x β Z'):=⟨fun k p hp=>⟨p,hp⟩,Sx,fun k c p _ hc=>⟨c,hc,Nat.le_refl _⟩,fun k c _ _ b base hb=>⟨hb,dY (hq b (fX.lt k b base hb))⟩⟩
  refine⟨v,β,Z',rfl,⟨⟨fX.dom,fun k b base hb=>Nat.lt_of_lt_of_le (fX.lt k b base hb) hn.evo.size,fX.inj,fun k b base hb hz=>?_,hn.sim.zl,fun k b base bx hb gV=>(fX.box k b base bx hb gV).aW hk (hq b (fX.lt k b base hb)),fX.flr,fX.ro⟩,hk,
   ⟨hn.evo.os,hn.evo.tape,hn.evo.output,hn.evo.size,fun b hb _=>hq b hb⟩,fun k b base hb=>.inl ⟨base,hb⟩,hn.zfresh,Nat.le_refl _,rfl,rfl,fun k _=>⟨rfl,rfl⟩,fun k _ hk=>⟨hk,rfl⟩⟩,?_,hq⟩
  ·rcases hn.zfresh b hz with hz|hz
   ·exact fX.zd k b base hb hz
   ·have:=fX.lt k b base hb;omega
  ·exact VR.cut (x:=zI.x β' Z') (x':=st.x β Z') (N:=0) (fun k hk=>absurd hk (Nat.not_lt_zero _)) (fun k hk=>absurd hk (Nat.not_lt_zero _)) (fun b hb=>hb) hv (VR.ref (fun k p hk=>(mg k p hk).elim) hv)
def mf (d:D):List D→St→Option (D×St)
 |[],st=>some (d,st)
 |_::_,_=>none
theorem mV {pv:Pv} {P:Program} (h:pv.Ok P∧pv.jn∧iA P pv (eP pv)) {n f:Nat} {d:D} {zI:St} (hs:cW pv n f [] ⟨[],0,0⟩=some (d,zI)) (h0:zI.bs=[]):fQ P pv f (mf d):=by
 have hc:=iy h.1 h.2.1 h.2.2 n;refine⟨fun ds st r _=>hc.fn f [] _ _ hs,fun ds st d' ah hp w β Z us fX hl ha=>?_,fun ds st d' ah hp _=>?_,fun ds st d' ah hp=>?_⟩<;>cases ds<;>simp only[mf,Option.some.injEq,Prod.mk.injEq,reduceCtorEq] at hp
 ·obtain⟨rfl,rfl⟩:=hp;refine(mz h hs h0 rfl st w β Z us fX hl ha).mono fun e w'=>?_;rintro⟨v,β',Z',h1,h2,h3,h4⟩;exact⟨v,β',Z',h1,h2,h3,fun _=>h4⟩
 ·rw[←hp.2];exact .rfl _
 ·rw[←hp.2];exact ej.refl _
def kG:List (List D×D)→List D→St→Option (D×St)
 |[],_,_=>none
 |(as,d)::l,ds,st=>match iW as ds with
  |true=>some (d,st)
  |false=>kG l ds st
theorem jO:∀{l:List (List D×D)} {ds:List D} {st ah:St} {d:D},kG l ds st=some (d,ah)→(ds,d)∈l∧ah=st
 |(as,e)::l,ds,st,ah,d,h=>by
  simp only[kG] at h
  split at h
  ·rename_i hb;cases h;rw[gk _ _ hb];exact⟨List.mem_cons_self ..,rfl⟩
  ·obtain⟨h1,h2⟩:=jO h;exact⟨List.mem_cons_of_mem _ h1,h2⟩
theorem mU {pv:Pv} {P:Program} (h:pv.Ok P∧pv.jn∧iA P pv (eP pv)) {f:Nat} {l:List (List D×D)} (hl:∀q∈l,refs q.1=0∧∃n zI,cW pv n f q.1 ⟨[],0,0⟩=some (q.2,zI)∧zI.bs=[]):fQ P pv f (kG l):=by
 refine⟨fun ds st r hp=>?_,fun ds st d ah hp w β Z us fX hle ha=>?_,fun ds st d ah hp _=>by rw[(jO hp).2];exact .rfl _,fun ds st d ah hp=>?_⟩
 ·obtain⟨hm,_⟩:=jO (d:=r.1) (ah:=r.2) hp;obtain⟨_,n,zI,hs,_⟩:=hl _ hm;exact(iy h.1 h.2.1 h.2.2 n).fn f _ _ _ hs
 ·obtain⟨hm,rfl⟩:=jO hp;obtain⟨hr,n,zI,hs,h0⟩:=hl _ hm;refine(mz h hs h0 hr ah w β Z us fX hle ha).mono fun e w'=>?_;rintro⟨v,β',Z',h1,h2,h3,h4⟩;exact⟨v,β',Z',h1,h2,h3,fun _=>h4⟩
 ·rw[(jO hp).2];exact ej.refl _
def nH:List ij→List ij→Bool
 |[],[]=>true
 |a::l,b::m=>sm a b &&nH l m
 |_,_=>false
def AJ (a b:St):Bool:=Nat.beq a.flr b.flr &&Nat.beq a.ro b.ro &&nH a.bs b.bs
theorem pk:∀{a b:List ij},nH a b=true→a=b
 |[],[],_=>rfl
 |a::l,b::m,h=>by
  simp only[nH,Bool.and_eq_true] at h;rw[t_ h.1,pk h.2]
 |[],_::_,h=>by cases h
 |_::_,[],h=>by cases h
theorem xB {a b:St} (h:AJ a b=true):a=b:=by
 obtain⟨x,y,z⟩:=a;obtain⟨x',y',z'⟩:=b;simp only[AJ,Bool.and_eq_true] at h;have h1:=Nat.eq_of_beq_eq_true h.1.1;have h2:=Nat.eq_of_beq_eq_true h.1.2;have h3:=pk h.2;rw[h1,h2,h3]
def lh (d:D) (st:St):Option (D×St)→Bool
 |some (e,ah)=>fp e d &&AJ ah st
 |none=>false
theorem Su {d:D} {st:St} {r:Option (D×St)} (h:lh d st r=true):r=some (d,st):=by
 match r,h with
 |some (e,ah),h=>
  simp only[lh,Bool.and_eq_true] at h;rw[pW e d h.1,xB h.2]
def Ab:List ((List D×St)×(D×St))→List D→St→Option (D×St)
 |[],_,_=>none
 |(k,r)::l,ds,st=>match iW k.1 ds &&AJ k.2 st with
  |true=>some r
  |false=>Ab l ds st
theorem jN:∀{l:List ((List D×St)×(D×St))} {ds:List D} {st:St} {r:D×St},Ab l ds st=some r→((ds,st),r)∈l
 |(k,r')::l,ds,st,r,h=>by
  simp only[Ab] at h
  split at h
  ·rename_i hb;simp only[Bool.and_eq_true] at hb;cases h;obtain⟨k1,k2⟩:=k;rw[←gk _ _ hb.1,←xB hb.2];exact List.mem_cons_self ..
  ·exact List.mem_cons_of_mem _ (jN h)
theorem Sk {pv uy:Pv} {P:Program} (h:uy.Ok P∧uy.jn∧iA P uy (eP uy)) (et:∀f,jQ uy f=jQ pv f) {f:Nat} {l:List ((List D×St)×(D×St))} (hl:∀q∈l,∃n,cW uy n f q.1.1 q.1.2=some q.2):fQ P pv f (Ab l):=by
 refine⟨fun ds st r hp=>?_,fun ds st d ah hp w β Z us fX hle ha=>?_,fun ds st d ah hp hr=>?_,fun ds st d ah hp=>?_⟩
 ·obtain⟨n,hn⟩:=hl _ (jN hp);exact(iy h.1 h.2.1 h.2.2 n).fn f _ _ _ hn
 ·obtain⟨n,hn⟩:=hl _ (jN hp);have:=(iy h.1 h.2.1 h.2.2 n).calls f _ _ _ _ hn w β Z us fX hle ha;rw[et] at this;exact this
 ·obtain⟨n,hn⟩:=hl _ (jN hp);exact(iy h.1 h.2.1 h.2.2 n).ro f _ _ _ _ hn (by rw[et];exact hr)
 ·obtain⟨n,hn⟩:=hl _ (jN hp);exact(iy h.1 h.2.1 h.2.2 n).len f _ _ _ _ hn
end Go.V
namespace Go.V
section
variable(P:Pv)
def Ev (f:Nat) (args:List D) (st:St) (d:D) (ah:St):Prop:=
 ∃N,∀n,N≤n→cW P n f args st=some (d,ah)
abbrev Dy:=List (Nat×List (Nat×Nat))
def ag (dy:Dy) (c:Code) (fr:Fr) (st:St) (Q:Out→Fr→St→Prop):Prop:=
 ∃o aK ah,(∃N,∀n,N≤n→b8 P (cW P n) dy n c fr st=some (o,aK,ah))∧Q o aK ah
def aa (ops:Array Oper) (l:List Oper) (fr:Fr) (st:St) (Q:Fr→St→Prop):Prop:=
 ∃aK ah,(∃N,∀n,N≤n→i7 P (cW P n) ops l fr st=some (aK,ah))∧Q aK ah
def aT (dy:Dy) (b:Code) (Q:Out→Fr→St→Prop):Out→Fr→St→Prop
 | .next,fr,st=>ag P dy b fr st Q
 | .exit i,fr,st=>Q (.exit i) fr st
 | .ret,fr,st=>Q .ret fr st
def ER (id:Nat) (Q:Out→Fr→St→Prop):Out→Fr→St→Prop
 | .next,fr,st=>Q .next fr st
 | .exit i,fr,st=>if i=id then Q .next fr st else Q (.exit i) fr st
 | .ret,fr,st=>Q .ret fr st
def U1 (I:Nat→Fr→St→Prop) (k:Nat) (Q:Out→Fr→St→Prop):Out→Fr→St→Prop
 | .next,fr,st=>∃j,j<k∧I j fr st
 | .exit i,fr,st=>Q (.exit i) fr st
 | .ret,fr,st=>Q .ret fr st
def cN (ops:Array Oper) (dy:List (Nat×Nat)) (j:Nat) (log:Log) (l:List Oper) (fr:Fr) (st:St) (Q:Fr→St→Prop):Prop:=
 ∃aK ah,(∃N,∀n,N≤n→po P (cW P n) ops dy j log l fr st=some (aK,ah))∧Q aK ah
variable{P} {dy:Dy}
theorem ag.mono {c:Code} {fr st} {Q Q':Out→Fr→St→Prop} (h:ag P dy c fr st Q) (hq:∀o aK ah,Q o aK ah→Q' o aK ah):ag P dy c fr st Q':=by
 obtain⟨o,aK,ah,h1,h2⟩:=h;exact⟨o,aK,ah,h1,hq _ _ _ h2⟩
theorem ag.skip {fr st} {Q:Out→Fr→St→Prop} (h:Q .next fr st):ag P dy .skip fr st Q:=⟨_,_,_,⟨0,fun n _=>by simp only[b8]⟩,h⟩
theorem ag.exit {fr st i} {Q:Out→Fr→St→Prop} (h:Q (.exit i) fr st):ag P dy (.exit i) fr st Q:=⟨_,_,_,⟨0,fun n _=>by simp only[b8]⟩,h⟩
theorem ag.ret {fr st} {Q:Out→Fr→St→Prop} (h:Q .ret fr st):ag P dy .ret fr st Q:=⟨_,_,_,⟨0,fun n _=>by simp only[b8]⟩,h⟩
theorem ag.region {i ops d fr st} {Q:Out→Fr→St→Prop} (h:aa P ops ops.toList fr.clean st (Q .next)) (h0:gH i dy=[]:=by rfl):ag P dy (.region i ops d) fr st Q:=by
 obtain⟨aK,ah,⟨N,hN⟩,hq⟩:=h;exact⟨_,aK,ah,⟨N,fun n hn=>by simp only[b8,h0,we,hN n hn]⟩,hq⟩
theorem ag.KN {i ops d fr st} {Q:Out→Fr→St→Prop} {p:Nat×Nat} {ps:List (Nat×Nat)} (h0:gH i dy=p::ps) (h:cN P ops (p::ps) 0 [] ops.toList fr.clean st (Q .next)):ag P dy (.region i ops d) fr st Q:=by
 obtain⟨aK,ah,⟨N,hN⟩,hq⟩:=h;exact⟨_,aK,ah,⟨N,fun n hn=>by simp only[b8,h0,we,hN n hn]⟩,hq⟩
theorem ag.seq {a b fr st} {Q:Out→Fr→St→Prop} (h:ag P dy a fr st (aT P dy b Q)):ag P dy (.seq a b) fr st Q:=by
 obtain⟨o,aK,ah,⟨N,hN⟩,hq⟩:=h
 cases o with
 |next=>
  obtain⟨o,Q6,st2,⟨M,hM⟩,hq⟩:=hq;exact⟨o,Q6,st2,⟨max N M,fun n hn=>by simp only[b8,hN n (by omega),hM n (by omega)]⟩,hq⟩
 |exit i=>exact⟨_,aK,ah,⟨N,fun n hn=>by simp only[b8,hN n hn]⟩,hq⟩
 |ret=>exact⟨_,aK,ah,⟨N,fun n hn=>by simp only[b8,hN n hn]⟩,hq⟩
theorem ag.cond {c a b fr st v} {Q:Out→Fr→St→Prop} (hv:fr.ev c=.bool v) (h1:v=true→ag P dy a fr st Q) (h2:v=false→ag P dy b fr st Q):ag P dy (.cond c a b) fr st Q:=by
 cases v with
 |true=>
  obtain⟨o,aK,ah,⟨N,hN⟩,hq⟩:=h1 rfl;exact⟨o,aK,ah,⟨N,fun n hn=>by simp only[b8,hv,hN n hn]⟩,hq⟩
 |false=>
  obtain⟨o,aK,ah,⟨N,hN⟩,hq⟩:=h2 rfl;exact⟨o,aK,ah,⟨N,fun n hn=>by simp only[b8,hv,hN n hn]⟩,hq⟩
theorem ag.block {id c fr st} {Q:Out→Fr→St→Prop} (h:ag P dy c fr st (ER id Q)):ag P dy (.block id c) fr st Q:=by
 obtain⟨o,aK,ah,⟨N,hN⟩,hq⟩:=h
 cases o with
 |next=>exact⟨_,aK,ah,⟨N,fun n hn=>by simp only[b8,hN n hn]⟩,hq⟩
 |exit i=>
  simp only[ER] at hq
  split at hq
  ·rename_i hi;exact⟨_,aK,ah,⟨N,fun n hn=>by simp only[b8,hN n hn,if_pos hi]⟩,hq⟩
  ·rename_i hi;exact⟨_,aK,ah,⟨N,fun n hn=>by simp only[b8,hN n hn,if_neg hi]⟩,hq⟩
 |ret=>exact⟨_,aK,ah,⟨N,fun n hn=>by simp only[b8,hN n hn]⟩,hq⟩
theorem ag.loop {c:Code} {fr st} {Q:Out→Fr→St→Prop} (I:Nat→Fr→St→Prop) (k:Nat) (h0:I k fr st) (h:∀k fr st,I k fr st→ag P dy c fr.clean st (U1 I k Q)):ag P dy (.loop c) fr st Q:=by
 have key:∀k fr st,I k fr st→∃o aK ah,(∃N,∀n,N≤n→∀m,N≤m→iter (b8 P (cW P n) dy n c) m fr st=some (o,aK,ah))∧(Q o aK ah):=by
  intro k
  induction k using Nat.strongRecOn with
  |ind k ih=>
   intro fr st hi;obtain⟨o,aK,ah,⟨N,hN⟩,hq⟩:=h k fr st hi
   cases o with
   |next=>
    obtain⟨j,hj,iZ⟩:=hq;obtain⟨o,Q6,st2,⟨M,hM⟩,hq⟩:=ih j hj aK ah iZ;refine⟨o,Q6,st2,⟨max N M+1,fun n hn m hm=>?_⟩,hq⟩
    obtain⟨m,rfl⟩:∃m',m=m'+1:=⟨m-1,by omega⟩
    simp only[iter,hN n (by omega),hM n (by omega) m (by omega)]
   |exit i=>
    refine⟨_,aK,ah,⟨N+1,fun n hn m hm=>?_⟩,hq⟩
    obtain⟨m,rfl⟩:∃m',m=m'+1:=⟨m-1,by omega⟩
    simp only[iter,hN n (by omega)]
   |ret=>
    refine⟨_,aK,ah,⟨N+1,fun n hn m hm=>?_⟩,hq⟩
    obtain⟨m,rfl⟩:∃m',m=m'+1:=⟨m-1,by omega⟩
    simp only[iter,hN n (by omega)]
 obtain⟨o,aK,ah,⟨N,hN⟩,hq⟩:=key k fr st h0;exact⟨o,aK,ah,⟨N,fun n hn=>by simp only[b8,hN n hn n hn]⟩,hq⟩
theorem Ev.of {f x body args st d ah} (hq:lb f P.prm=none) (hf:P.fi f=some x) (hp:x.kf=none) (hb:x.fn.body=some body)
  (h:ag P x.dyn body (pad x.nloc args) (ai x.mode st) fun o fr st1=>(∀i,o≠.exit i)∧∃ds,kc P fr st1 x.fn.results.toList=some ds∧cX x.mode x.knul st st1 (sI ds)=some (d,ah)):Ev P f args st d ah:=by
 obtain⟨o,aK,st1,⟨N,hN⟩,ho,ds,hr,hl⟩:=h;refine⟨N+1,fun n hn=>?_⟩
 obtain⟨m,rfl⟩:∃m',n=m'+1:=⟨n-1,by omega⟩
 simp only[cW,hq,hf,hp,hb,xA];rw[hN m (by omega)]
 cases o with
 |next=>simp only[hr,hl]
 |exit i=>exact absurd rfl (ho i)
 |ret=>simp only[hr,hl]
theorem aa.nil {ops fr st} {Q:Fr→St→Prop} (h:Q fr st):aa P ops [] fr st Q:=⟨fr,st,⟨0,fun n _=>rfl⟩,h⟩
def iR:Op→Bool
 | .call ⟨.value _,_,_⟩=>true
 |_=>false
theorem C8 {cf fr st} {o:Oper} (h:iR o.op=false):e7 P cf fr st o=dQ P fr st o.op o.type:=by
 unfold e7
 split
 ·rename_i heq;rw[heq] at h;simp[iR] at h
 ·rfl
theorem aa.op {ops o rest fr st d st1} {Q:Fr→St→Prop} (hg:aI ops fr o=some true) (hc:iR o.op=false) (h1:dQ P fr st o.op o.type=some (d,st1))
  (h:aa P ops rest (fr.aE o.dst d) st1 Q):aa P ops (o::rest) fr st Q:=by
 obtain⟨aK,ah,⟨N,hN⟩,hq⟩:=h;exact⟨aK,ah,⟨N,fun n hn=>by simp only[i7,hg,C8 hc,h1,hN n hn]⟩,hq⟩
theorem aa.off {ops o rest fr st} {Q:Fr→St→Prop} (hg:aI ops fr o=some false)
  (h:aa P ops rest (fr.aE o.dst (.tup [])) st Q):aa P ops (o::rest) fr st Q:=by
 obtain⟨aK,ah,⟨N,hN⟩,hq⟩:=h;exact⟨aK,ah,⟨N,fun n hn=>by simp only[i7,hg,hN n hn]⟩,hq⟩
theorem aa.call {ops rest fr st d st1 f g jB args vE dst type pos} {after guard} {Q:Fr→St→Prop} (hg:aI ops fr ⟨dst,.call ⟨.value f,args,vE⟩,type,pos,after,guard⟩=some true) (hf:fr.ev f=.fn g jB)
  (h1:Ev P g (args.toList.map fr.ev++jB) st d st1)
  (h:aa P ops rest (fr.aE dst d) st1 Q):aa P ops (⟨dst,.call ⟨.value f,args,vE⟩,type,pos,after,guard⟩::rest) fr st Q:=by
 obtain⟨aK,ah,⟨N,hN⟩,hq⟩:=h;obtain⟨M,hM⟩:=h1;exact⟨aK,ah,⟨max N M,fun n hn=>by simp only[i7,hg,e7,hf,hM n (by omega),hN n (by omega)]⟩,hq⟩
theorem cN.nil {ops ys j log fr st} {Q:Fr→St→Prop} (h:Q fr st):cN P ops ys j log [] fr st Q:=⟨fr,st,⟨0,fun n _=>rfl⟩,h⟩
theorem cN.cons {ops ys j log o rest fr st} {Q:Fr→St→Prop} (h:aa P ops [o] fr st fun aK ah=>Es ys j log o fr st ah=true∧cN P ops ys (j+1) ((o,fr,st,ah)::log) rest aK ah Q):cN P ops ys j log (o::rest) fr st Q:=by
 obtain⟨Q7,st1,⟨N,hN⟩,hc,Q6,st2,⟨M,hM⟩,hq⟩:=h;refine⟨Q6,st2,⟨max N M,fun n hn=>?_⟩,hq⟩;have h1:=hN n (by omega);have h2:=hM n (by omega);simp only[i7] at h1;simp only[po]
 split at h1
 ·rename_i hw
  split at h1
  ·rename_i d ah gv;cases h1;simp only[hc,h2]
  ·cases h1
 ·rename_i hw;cases h1;exact h2
 ·cases h1
theorem Ev.out {f args st d ah} (h:Ev P f args st d ah):∃N,∀n,N≤n→cW P n f args st=some (d,ah):=h
theorem Ev.kf {f args st d ah p} (hq:lb f P.prm=some p) (h:p args st=some (d,ah)):Ev P f args st d ah:=
 ⟨1,fun n hn=>by
  obtain⟨m,rfl⟩:∃m',n=m'+1:=⟨n-1,by omega⟩
  simp only[cW,hq,h]⟩
end
attribute [irreducible] Ev ag aa cN
end Go.V
namespace Go.V
theorem ag.ct {P:Pv} {dy:Dy} {i:Nat} {l:List Oper} {d n loc tmp st} {Q:Out→Fr→St→Prop} (h:aa P l.toArray l ⟨n,loc,[]⟩ st (Q .next)) (h0:gH i dy=[]:=by rfl):ag P dy (.region i l.toArray d) ⟨n,loc,tmp⟩ st Q:=ag.region h h0
theorem ag.wb {P:Pv} {dy:Dy} {i:Nat} {l:List Oper} {d n loc tmp st} {Q:Out→Fr→St→Prop} {p:Nat×Nat} {ps:List (Nat×Nat)} (h0:gH i dy=p::ps) (h:cN P l.toArray (p::ps) 0 [] l ⟨n,loc,[]⟩ st (Q .next)):ag P dy (.region i l.toArray d) ⟨n,loc,tmp⟩ st Q:=ag.KN h0 h
theorem Ev.oj {P:Pv} {f x body args st d ah n loc} (hq:lb f P.prm=none) (hf:P.fi f=some x) (hp:x.kf=none) (hb:x.fn.body=some body) (DJ:pad x.nloc args=⟨n,loc,[]⟩)
  (h:ag P x.dyn body ⟨n,loc,[]⟩ (ai x.mode st) fun o fr st1=>(∀i,o≠.exit i)∧∃ds,kc P fr st1 x.fn.results.toList=some ds∧cX x.mode x.knul st st1 (sI ds)=some (d,ah)):Ev P f args st d ah:=
 Ev.of hq hf hp hb (by rw[DJ];exact h)
theorem lT (k:IntKind) (n:Int):ga (.int k n)=.int k n:=rfl
theorem ki (b:Bool):ga (.bool b)=.bool b:=rfl
theorem lR (s:ByteArray):ga (.string s)=.str s.data.toList:=rfl
theorem lS:ga (.slice none 0 0)=.nul:=rfl
theorem kh:ga (.pointer none)=.pnil:=rfl
theorem jh:ga .nilFunc=.nilfn:=rfl
theorem jg:ga .nilIface=.nilif:=rfl
section
variable{P:Pv} {ops:Array Oper} {rest:List Oper} {n:Nat} {loc:List D} {tmp:List (Nat×D)} {st st1:St} {Q:Fr→St→Prop} {op:Op} {ty:TypeId} {p:String} {a:Array Edge} {g:Option (Nat×Bool)} {t:Nat} {d:D}
theorem ab (hb:Nat.ble n t=true) (d:D):Fr.put ⟨n,loc,tmp⟩ t d=⟨n,loc,(t,d)::tmp⟩:=by
 simp only[Fr.put,hb]
theorem Md (hb:Nat.ble n t=false) (d:D):Fr.put ⟨n,loc,tmp⟩ t d=⟨n,loc.set t d,tmp⟩:=by
 simp only[Fr.put,hb]
theorem aa.T (hb:Nat.ble n t=true) (hg:aI ops ⟨n,loc,tmp⟩ ⟨some t,op,ty,p,a,g⟩=some true) (hc:iR op=false) (h1:dQ P ⟨n,loc,tmp⟩ st op ty=some (d,st1))
  (h:aa P ops rest ⟨n,loc,(t,d)::tmp⟩ st1 Q):aa P ops (⟨some t,op,ty,p,a,g⟩::rest) ⟨n,loc,tmp⟩ st Q:=
 aa.op hg hc h1 (by show aa P ops rest (Fr.put _ t d) st1 Q;rw[ab hb];exact h)
theorem aa.L (hb:Nat.ble n t=false) (hg:aI ops ⟨n,loc,tmp⟩ ⟨some t,op,ty,p,a,g⟩=some true) (hc:iR op=false) (h1:dQ P ⟨n,loc,tmp⟩ st op ty=some (d,st1))
  (h:aa P ops rest ⟨n,loc.set t d,tmp⟩ st1 Q):aa P ops (⟨some t,op,ty,p,a,g⟩::rest) ⟨n,loc,tmp⟩ st Q:=
 aa.op hg hc h1 (by show aa P ops rest (Fr.put _ t d) st1 Q;rw[Md hb];exact h)
theorem aa.N {fr:Fr} (hg:aI ops fr ⟨none,op,ty,p,a,g⟩=some true) (hc:iR op=false) (h1:dQ P fr st op ty=some (d,st1))
  (h:aa P ops rest fr st1 Q):aa P ops (⟨none,op,ty,p,a,g⟩::rest) fr st Q:=aa.op hg hc h1 h
theorem aa.VJ (hb:Nat.ble n t=true) (hg:aI ops ⟨n,loc,tmp⟩ ⟨some t,op,ty,p,a,g⟩=some false)
  (h:aa P ops rest ⟨n,loc,(t,.tup [])::tmp⟩ st Q):aa P ops (⟨some t,op,ty,p,a,g⟩::rest) ⟨n,loc,tmp⟩ st Q:=
 aa.off hg (by show aa P ops rest (Fr.put _ t _) st Q;rw[ab hb];exact h)
theorem aa.VK (hb:Nat.ble n t=false) (hg:aI ops ⟨n,loc,tmp⟩ ⟨some t,op,ty,p,a,g⟩=some false)
  (h:aa P ops rest ⟨n,loc.set t (.tup []),tmp⟩ st Q):aa P ops (⟨some t,op,ty,p,a,g⟩::rest) ⟨n,loc,tmp⟩ st Q:=
 aa.off hg (by show aa P ops rest (Fr.put _ t _) st Q;rw[Md hb];exact h)
theorem aa.sa {f gn:_} {jB:List D} {args:Array Operand} {vE:Array TypeId} (hb:Nat.ble n t=true) (hg:aI ops ⟨n,loc,tmp⟩ ⟨some t,.call ⟨.value f,args,vE⟩,ty,p,a,g⟩=some true) (hf:Fr.ev ⟨n,loc,tmp⟩ f=.fn gn jB)
  (h1:Ev P gn (args.toList.map (Fr.ev ⟨n,loc,tmp⟩)++jB) st d st1)
  (h:aa P ops rest ⟨n,loc,(t,d)::tmp⟩ st1 Q):aa P ops (⟨some t,.call ⟨.value f,args,vE⟩,ty,p,a,g⟩::rest) ⟨n,loc,tmp⟩ st Q:=
 aa.call hg hf h1 (by show aa P ops rest (Fr.put _ t d) st1 Q;rw[ab hb];exact h)
end
inductive Rows (st:St) (s:Nat):D→List (List D)→Prop where
 |nul:Rows st s .nul []
 |sl (es:List D) (h:∀e∈es,e.cells?=some e.cells∧e.cells.length=s):Rows st s (.sl es) (es.map D.cells)
 |win (k aD off:Nat) (es:List (List D)) (ar:Bool) (c:List D) (hm:st.eW k aD=some (ar,c)) (hl:off+es.length*s≤c.length)
   (he:∀(i:Nat) e,es[i]?=some e→(c.drop (off+i*s)).take s=e):Rows st s (.win k aD off es.length s) es
theorem Rows.vg {st:St} {s:Nat} {x:D} {es:List (List D)} (h:Rows st s x es):∀(i:Nat) e,es[i]?=some e→e.length=s:=by
 cases h with
 |nul=>intro i e h;simp at h
 |sl es h=>
  intro i e hi;rw[List.getElem?_map] at hi;obtain⟨d,hd,rfl⟩:=Option.map_eq_some_iff.1 hi;exact(h d (List.mem_of_getElem? hd)).2
 |win k aD off es ar c hm hl he=>
  intro i e hi
  have hlt:i<es.length:=by
   rcases Nat.lt_or_ge i es.length with h'|h'
   ·exact h'
   ·rw[List.getElem?_eq_none h'] at hi;cases hi
  rw[←he i e hi];have:(i+1)*s≤es.length*s:=Nat.mul_le_mul_right s hlt;rw[Nat.add_mul] at this
  simp;omega
theorem Rows.len {st:St} {s:Nat} {x:D} {es:List (List D)} (h:Rows st s x es):wO x=some es.length∧∀b,x≠.str b:=by
 cases h with
 |nul=>exact⟨rfl,fun b h=>by cases h⟩
 |sl es h=>exact⟨by simp[wO],fun b h=>by cases h⟩
 |win k aD off es ar c hm hl he=>exact⟨rfl,fun b h=>by cases h⟩
theorem Rows.Me {P:Pv} {st:St} {s:Nat} {x:D} {es:List (List D)} (h:Rows st s x es) {t e:TypeId} (ht:P.cL t=some (.slice e)):
  bG P .len [t] [x] st=some (.int .i64 (es.length:Nat),st):=by
 obtain⟨h1,h2⟩:=h.len;simp only[bG,ht]
 cases x with
 |str b=>exact absurd rfl (h2 b)
 |_=>simp only[h1];rfl
theorem xS {P:Pv} {e:TypeId} {c c':List D} {s:Nat} {d:D} (hs:cn P e=some s) (hc:c.take s=c') (hl:c'.length=s) (h:dR P e c'=some d):dR P e c=some d:=by
 have hlen:s≤c.length:=by rw[←hc] at hl;simp at hl;omega
 unfold dR at h⊢
 cases hu:P.cL e with
 |none=>rw[hu] at h;cases h
 |some u=>
  rw[hu] at h
  cases u with
  |struct f=>
   simp only[hs,Option.bind_some] at h⊢;rw[if_pos (by omega)] at h;rw[if_pos hlen,hc];rw[←h,List.take_of_length_le (by omega)]
  |array n f=>
   simp only[hs,Option.bind_some] at h⊢;rw[if_pos (by omega)] at h;rw[if_pos hlen,hc];rw[←h,List.take_of_length_le (by omega)]
  |_=>
   simp only at h⊢;rw[←h,←hc]
   cases c with
   |nil=>simp
   |cons x xs=>
    cases s with
    |zero=>simp at hc;subst hc;simp at h
    |succ s=>simp
theorem Rows.idx {P:Pv} {st:St} {s:Nat} {x:D} {es:List (List D)} (h:Rows st s x es) {t e:TypeId} (ht:P.cL t=some (.slice e)) (hs:cn P e=some s) {k:IntKind} {i:Int} {r:List D} (h0:0≤i) (hi:es[i.toNat]?=some r):
  ∃p,b6 P t x (.int k i) st=some p∧∀d,dR P e r=some d→gx P e p st=some d:=by
 cases h with
 |nul=>simp at hi
 |sl es h=>
  rw[List.getElem?_map] at hi;obtain⟨d,hd,rfl⟩:=Option.map_eq_some_iff.1 hi;obtain⟨h1,h2⟩:=h d (List.mem_of_getElem? hd);refine⟨.ep d.cells,?_,fun d' h=>h⟩;simp only[b6,ht,hs,Option.bind_some,if_pos h0,hd,h1,if_pos h2]
 |win k aD off es ar c hm hl he=>
  have hlt:i.toNat<es.length:=by
   rcases Nat.lt_or_ge i.toNat es.length with h'|h'
   ·exact h'
   ·rw[List.getElem?_eq_none h'] at hi;cases hi
  refine⟨.ptr k aD (off+i.toNat*s),?_,fun d' h=>?_⟩
  ·simp only[b6,ht,hs,Option.bind_some,hm,Option.isSome_some];rw[if_pos ⟨trivial,h0,by omega,trivial⟩]
  ·simp only[gx,hm,Option.bind_some];exact xS hs (he _ _ hi) (Rows.vg (.win k aD off es ar c hm hl he) _ _ hi) h
theorem aa.ji {P:Pv} {ops:Array Oper} {rest:List Oper} {n:Nat} {loc:List D} {tmp:List (Nat×D)} {st:St} {Q:Fr→St→Prop} {t e:TypeId} {xo io:Operand} {d1 d2:Nat} {YX oT:TypeId} {p1 p2:String} {a1 a2:Array Edge} {g1 g2:Option (Nat×Bool)} {x:D} {k:IntKind} {i:Int} {s:Nat} {es:List (List D)} {r:List D} {d:D}
  (hb1:Nat.ble n d1=true) (hb2:Nat.ble n d2=true) (dz:aI ops ⟨n,loc,tmp⟩ ⟨some d1,.indexAddr t xo io,YX,p1,a1,g1⟩=some true) (bz:∀p,aI ops ⟨n,loc,(d1,p)::tmp⟩ ⟨some d2,.load e (.tmp d1),oT,p2,a2,g2⟩=some true)
  (hx:Fr.ev ⟨n,loc,tmp⟩ xo=x) (hi:Fr.ev ⟨n,loc,tmp⟩ io=.int k i) (hR:Rows st s x es) (ht:P.cL t=some (.slice e)) (hs:cn P e=some s) (h0:0≤i) (hr:es[i.toNat]?=some r) (hd:dR P e r=some d)
  (h:∀p,aa P ops rest ⟨n,loc,(d2,d)::(d1,p)::tmp⟩ st Q):aa P ops (⟨some d1,.indexAddr t xo io,YX,p1,a1,g1⟩::⟨some d2,.load e (.tmp d1),oT,p2,a2,g2⟩::rest) ⟨n,loc,tmp⟩ st Q:=by
 obtain⟨p,h1,h2⟩:=hR.idx ht hs (k:=k) h0 hr;refine aa.T hb1 dz rfl (d:=p) (st1:=st) (by simp only[dQ,hx,hi,h1,Option.map_some])<|aa.T hb2 (bz p) rfl (d:=d) (st1:=st) ?_ (h p)
 have:Fr.ev ⟨n,loc,(d1,p)::tmp⟩ (.tmp d1)=p:=by
  simp only[Fr.ev,Fr.get,hb1,look];have:Nat.beq d1 d1=true:=Nat.beq_refl d1;rw[this]
 simp only[dQ,this,h2 d hd,Option.map_some]
def byteCells (b:List UInt8):List (List D):=b.map fun y=>[.int .u8 (y.toNat:Nat)]
def Bytes (st:St) (x:D) (b:List UInt8):Prop:=Rows st 1 x (byteCells b)
theorem bO {m:Mode} {kn:Bool} {st st1:St} {d d':D} (hm:m≠.aW∧m≠.nw) (h1:st1.bs.take st.bs.length=st.bs) (hd:bw st1 st.bs.length kn 16 d=some d'):cX m kn st st1 d=some (d',st):=by
 cases m with
 |aW=>exact absurd rfl hm.1
 |nw=>exact absurd rfl hm.2
 |_=>simp only[cX,hd,h1]
end Go.V
namespace Go.V
structure Ex (N:Nat) (st ah:St):Prop where
 low:∀k,k<N→ah.bs[k]?=st.bs[k]?
 len:st.bs.length≤ah.bs.length
 flr:ah.flr=st.flr
 ro:ah.ro=st.ro
theorem Ex.refl (N:Nat) (st:St):Ex N st st:=⟨fun _ _=>rfl,Nat.le_refl _,rfl,rfl⟩
theorem Ex.trans {N:Nat} {a b c:St} (h:Ex N a b) (g:Ex N b c):Ex N a c:=
 ⟨fun k hk=>(g.low k hk).trans (h.low k hk),Nat.le_trans h.len g.len,g.flr.trans h.flr,g.ro.trans h.ro⟩
theorem Ex.push {N:Nat} {st:St} (h:N≤st.bs.length) (b:ij):Ex N st (st.push b):=
 ⟨fun k hk=>by simp only[St.push];rw[List.getElem?_append_left (by omega)],by simp[St.push],rfl,rfl⟩
theorem Ex.set {N:Nat} {st:St} {k:Nat} (h:N≤k) (b:ij):Ex N st {st with bs:=st.bs.set k b}:=
 ⟨fun j hj=>by simp only;rw[List.getElem?_set_ne (by omega)],by simp,rfl,rfl⟩
theorem Ex.take {N:Nat} {st ah:St} (h:Ex N st ah) (hN:N=st.bs.length):ah.bs.take N=st.bs:=by
 apply List.ext_getElem?;intro k;rw[List.getElem?_take]
 split
 ·exact h.low k (by assumption)
 ·rw[List.getElem?_eq_none (by omega)]
theorem Ex.mem {N:Nat} {st ah:St} (h:Ex N st ah) {k v:Nat} (hk:k<N):ah.eW k v=st.eW k v:=by
 simp only[St.eW,h.low k hk]
theorem Rows.ex {N:Nat} {st ah:St} (h:Ex N st ah) {s:Nat} {x:D} {es:List (List D)} (hr:Rows st s x es) (hx:x.ref≤N):Rows ah s x es:=by
 cases hr with
 |nul=>exact .nul
 |sl es h=>exact .sl es h
 |win k aD off es ar c hm hl he=>exact .win k aD off es ar c (by rw[h.mem (by simp only[D.ref] at hx;omega)];exact hm) hl he
theorem Rows.slice {P:Pv} {st:St} {s:Nat} {x:D} {es:List (List D)} (h:Rows st s x es) {t e:TypeId} (ht:P.cL t=some (.slice e)) (hs:cn P e=some s) {lo hi:Option D} {l r:Nat} (hb:cv es.length lo hi=some (l,r)) (u7:l≤r∧r≤es.length):
  ∃y,fh P t x lo hi st=some y∧Rows st s y ((es.take r).drop l)∧y.ref≤x.ref:=by
 cases h with
 |nul=>
  refine⟨.nul,?_,?_,Nat.le_refl _⟩
  ·simp only[fh,ht,hs,Option.bind_some];simp only[List.length_nil] at hb;rw[hb];rfl
  ·simp;exact .nul
 |sl es h=>
  refine⟨.sl ((es.take r).drop l),?_,?_,by simp[D.ref]⟩
  ·simp only[fh,ht,hs,Option.bind_some]
   have:rI s es=true:=by
    cases es with
    |nil=>rfl
    |cons e es=>obtain⟨h1,h2⟩:=h e (List.mem_cons_self ..);simp[rI,h1,h2]
   rw[if_pos this];simp only[List.length_map] at hb;rw[hb];rfl
  ·have:=Rows.sl (st:=st) (s:=s) ((es.take r).drop l) fun e he=>h e (List.mem_of_mem_take (List.mem_of_mem_drop he))
   simpa[List.map_drop,List.map_take] using this
 |win k aD off es ar c hm hl he=>
  have hlen:((es.take r).drop l).length=r-l:=by simp;omega
  refine⟨.win k aD (off+l*s) (r-l) s,?_,?_,by simp[D.ref]⟩
  ·simp only[fh,ht,hs,Option.bind_some,if_true,hb];rfl
  ·have h1:l*s+(r-l)*s≤es.length*s:=by rw[←Nat.add_mul];exact Nat.mul_le_mul_right s (by omega)
   have:=Rows.win (st:=st) (s:=s) k aD (off+l*s) ((es.take r).drop l) ar c hm (by rw[hlen];omega) (fun i e hi=>by
    rw[List.getElem?_drop,List.getElem?_take] at hi
    split at hi
    ·have:=he _ _ hi;rw[←this,Nat.add_mul];congr 2;omega
    ·cases hi)
   rwa [hlen] at this
inductive Acc (N:Nat) (st:St) (s:Nat):D→List (List D)→Prop where
 |nul:Acc N st s .nul []
 |win (k aD:Nat) (es:List (List D)) (hN:N≤k) (hm:st.bs[k]?=some (.mem aD true es.flatten)) (he:∀e∈es,e.length=s):Acc N st s (.win k aD 0 es.length s) es
theorem c_ {s:Nat}:∀{es:List (List D)},(∀e∈es,e.length=s)→es.flatten.length=es.length*s
 |[],_=>by simp
 |e::es,h=>by
  have:=c_ (s:=s) (es:=es) fun x hx=>h x (List.mem_cons_of_mem _ hx);simp only[List.flatten_cons,List.length_append,List.length_cons,this,h e (List.mem_cons_self ..)];rw[Nat.add_mul];omega
theorem lZ {s:Nat}:∀{es:List (List D)},(∀e∈es,e.length=s)→∀(i:Nat) e,es[i]?=some e→(es.flatten.drop (i*s)).take s=e
 |[],_,i,e,h=>by simp at h
 |x::es,h,0,e,hi=>by
  simp at hi;subst hi;have:=h x (List.mem_cons_self ..);simp[List.take_left' this]
 |x::es,h,i+1,e,hi=>by
  simp only[List.getElem?_cons_succ] at hi;have hx:=h x (List.mem_cons_self ..);have:=lZ (s:=s) (es:=es) (fun y hy=>h y (List.mem_cons_of_mem _ hy)) i e hi;rw[←this,List.flatten_cons,Nat.add_mul,Nat.one_mul,Nat.add_comm,←hx,←List.drop_drop,List.drop_left]
theorem St.mem_of {st:St} {k aD:Nat} {ar:Bool} {c:List D} (h:st.bs[k]?=some (.mem aD ar c)):st.eW k aD=some (ar,c):=by
 simp only[St.eW,h,if_true]
theorem Acc.rows {N:Nat} {st:St} {s:Nat} {x:D} {es:List (List D)} (h:Acc N st s x es):Rows st s x es:=by
 cases h with
 |nul=>exact .nul
 |win k aD es hN hm he=>
  exact .win k aD 0 es true es.flatten (St.mem_of hm) (by rw[c_ he];omega) fun i e hi=>by rw[Nat.zero_add];exact lZ he i e hi
theorem Acc.ex {N M:Nat} {st ah:St} (h:Ex M st ah) {s:Nat} {x:D} {es:List (List D)} (hr:Acc N st s x es) (hx:x.ref≤M):Acc N ah s x es:=by
 cases hr with
 |nul=>exact .nul
 |win k aD es hN hm he=>exact .win k aD es hN (by rw[h.low k (by simp only[D.ref] at hx;omega)];exact hm) he
theorem Acc.push {N:Nat} {st:St} {s:Nat} {x:D} {es:List (List D)} (hr:Acc N st s x es) (b:ij):Acc N (st.push b) s x es:=by
 cases hr with
 |nul=>exact .nul
 |win k aD es hN hm he=>
  refine .win k aD es hN ?_ he;simp only[St.push];rw[List.getElem?_append_left];exact hm
  rcases Nat.lt_or_ge k st.bs.length with h'|h'
  ·exact h'
  ·rw[List.getElem?_eq_none h'] at hm;cases hm
theorem Rows.row {st:St} {s:Nat} {x:D} {es:List (List D)} (h:Rows st s x es):qQ st x=some (es.length,es.flatten):=by
 have hl:=h.vg
 cases h with
 |nul=>rfl
 |sl es h=>
  simp only[qQ,List.length_map];rw[List.flatMap_def]
 |win k aD off es ar c hm iD he=>
  simp only[qQ,hm,Option.bind_some,if_pos iD]
  congr 2
  have key:∀(es:List (List D)) (c:List D),es.length*s≤c.length→(∀(i:Nat) e,es[i]?=some e→(c.drop (i*s)).take s=e)→c.take (es.length*s)=es.flatten:=by
   intro es
   induction es with
   |nil=>intro c _ _;simp
   |cons e es ih=>
    intro c hc hx;have h0:=hx 0 e rfl;simp only[Nat.zero_mul,List.drop_zero] at h0;rw[List.flatten_cons,List.length_cons,Nat.add_mul,Nat.one_mul,Nat.add_comm,List.take_add,h0]
    congr 1
    simp only[List.length_cons,Nat.add_mul,Nat.one_mul] at hc;refine ih (c.drop s) (by simp;omega) fun i e hi=>?_;rw[List.drop_drop,←hx (i+1) e (by simpa using hi),Nat.add_mul,Nat.one_mul,Nat.add_comm]
  refine key es (c.drop off) (by simp;omega) fun i e hi=>?_;rw[List.drop_drop];exact he i e hi
theorem Acc.append {P:Pv} {N:Nat} {st:St} {s:Nat} {x y:D} {es ys:List (List D)} (hr:Acc N st s x es) (hy:Rows st s y ys) {t1 t2 e:TypeId} {td:TypeDesc} {inf:TypeInfo} {z:List D}
  (h1:P.cL t1=some (.slice e)) (h2:P.cL t2=some td) (h3:gJ td=false) (h4:P.info e=some inf) (h5:dD P e=some z) (h6:inf.size=s) (h7:z.length=s) (h8:inf.bytes≠0)
  (hN:N≤st.bs.length) (hf:st.flr≤N) (et:st.ro≤N) (hb:(es.length+ys.length)*inf.bytes≤1099511627776):
  ∃x' ah,bG P .append [t1,t2] [x,y] st=some (x',ah)∧Acc N ah s x' (es++ys)∧Ex N st ah∧x'.ref≤ah.bs.length∧(∀k,k<st.bs.length→k+1≠x.ref→ah.bs[k]?=st.bs[k]?)∧(x'.ref=x.ref∨st.bs.length<x'.ref):=by
 have kK:=hy.row
 have DA:∀e∈ys,e.length=s:=fun e he=>by
  obtain⟨i,hi⟩:=List.getElem?_of_mem he;exact hy.vg i e hi
 have px:=c_ DA;subst h6;simp only[bG,iz,h1,h2,h3,Bool.false_eq_true,if_false,h4,h5,kK,Option.bind_some];rw[if_neg (by rintro(h|h|h);exact h px;exact h8 h;exact h h7)]
 cases hr with
 |nul=>
  simp only[List.nil_append]
  by_cases h0:ys.length=0
  ·rw[if_pos h0]
   have:ys=[]:=by cases ys with|nil=>rfl|cons _ _=>simp at h0
   subst this;exact⟨.nul,st,rfl,.nul,Ex.refl _ _,by simp[D.ref],fun _ _ _=>rfl,.inl rfl⟩
  ·rw[if_neg h0,if_pos (by simpa using hb)];refine⟨_,_,rfl,?_,Ex.push hN _,by simp[D.ref,St.push],fun k hk _=>by simp only[St.push];rw[List.getElem?_append_left hk],.inr (by simp[D.ref])⟩;exact .win _ _ ys hN (by simp[St.push]) DA
 |win k aD es hk hm he=>
  have gq:k<st.bs.length:=by
   rcases Nat.lt_or_ge k st.bs.length with h'|h'
   ·exact h'
   ·rw[List.getElem?_eq_none h'] at hm;cases hm
  simp only[St.mem_of hm];rw[if_neg (by rintro(h|h);exact h rfl;rw[c_ he] at h;omega)]
  by_cases h0:ys.length=0
  ·rw[if_pos h0]
   have:ys=[]:=by cases ys with|nil=>rfl|cons _ _=>simp at h0
   subst this;simp only[List.append_nil];exact⟨_,st,rfl,.win k aD es hk hm he,Ex.refl _ _,by simp only[D.ref];omega,fun _ _ _=>rfl,.inl rfl⟩
  ·rw[if_neg h0,if_pos ⟨hb,by simp only[St.iV,Bool.and_eq_true,Bool.or_eq_true,decide_eq_true_eq];exact⟨by omega,.inl (by omega)⟩⟩];refine⟨_,_,rfl,?_,Ex.set hk _,by simp only[D.ref,List.length_set];omega,fun j hj hne=>by simp only;rw[List.getElem?_set_ne (by simp only[D.ref] at hne;omega)],.inl rfl⟩
   have:(es.flatten.take (0+es.length*inf.size)).drop 0++ys.flatten=(es++ys).flatten:=by
    rw[Nat.zero_add,←c_ he,List.take_length,List.drop_zero,List.flatten_append]
   rw[this];have yM:es.length+ys.length=(es++ys).length:=by simp
   rw[yM]
   exact .win k (aD+1) (es++ys) hk (by simp[gq]) fun e h=>by
    rcases List.mem_append.1 h with h|h
    ·exact he e h
    ·exact DA e h
def cy:D→Bool
 | .bool _| .int _ _| .str _| .sl _=>true
 |_=>false
theorem kj {st:St} {N n:Nat}:∀{l:List D},(∀d∈l,cy d=true)→ir (e6 st N (n+1)) l=some l
 |[],_=>rfl
 |d::l,h=>by
  have h1:=h d (List.mem_cons_self ..);have h2:=kj (st:=st) (N:=N) (n:=n) fun x hx=>h x (List.mem_cons_of_mem _ hx);have h3:e6 st N (n+1) d=some d:=by cases d<;>simp[cy] at h1<;>rfl
  simp only[ir,h3,h2]
def kH (s:Nat) (e:List D):D:=match s with|1=>e.headD .bD|_=>.agg e
theorem gL {s:Nat}:∀{es:List (List D)},(∀e∈es,e.length=s)→chunk s es.length es.flatten=es.map (kH s)
 |[],_=>rfl
 |e::es,h=>by
  have he:=h e (List.mem_cons_self ..);have ih:=gL (s:=s) (es:=es) fun x hx=>h x (List.mem_cons_of_mem _ hx);simp only[List.length_cons,chunk,List.flatten_cons,List.map_cons]
  congr 1
  ·by_cases hs:s=1
   ·subst hs
    cases e with
    |nil=>simp at he
    |cons x xs=>simp[kH]
   ·have h1:kH s e=.agg e:=by unfold kH;split;exact absurd rfl hs;rfl
    have h2:(match s with|1=>(e++es.flatten).headD .bD|_=>D.agg ((e++es.flatten).take s))=.agg e:=by
     split
     ·exact absurd rfl hs
     ·rw[List.take_left' he]
    rw[h1];exact h2
  ·rw[List.drop_left' he];exact ih
theorem Acc.freeze {N:Nat} {st:St} {s:Nat} {x:D} {es:List (List D)} (h:Acc N st s x es) (hp:∀e∈es,∀d∈e,cy d=true) {n:Nat} (hn:2≤n):bw st N false (n+1) x=some (.sl (es.map (kH s))):=by
 obtain⟨n,rfl⟩:∃m,n=m+2:=⟨n-2,by omega⟩
 cases h with
 |nul=>rfl
 |win k aD es hN hm he=>
  show(if k<N then some (D.win k aD 0 es.length s) else e6 st N (n+2) (.win k aD 0 es.length s))=_;rw[if_neg (show¬k<N by omega),e6];simp only[if_neg (show¬k<N by omega),St.mem_of hm,Option.bind_some];rw[if_pos (by rw[c_ he];omega)];have:(es.flatten.drop 0).take (es.length*s)=es.flatten:=by rw[List.drop_zero,←c_ he,List.take_length]
  rw[this,kj (fun d hd=>by
   obtain⟨e,pS,As⟩:=List.mem_flatten.1 hd
   exact hp e pS d As)]
  simp only[Option.map_some,gL he]
theorem l4 {s:Nat} {e:List D} (h:e.length=s) (hp:∀d∈e,cy d=true):(kH s e).cells?=some (kH s e).cells∧(kH s e).cells=e:=by
 by_cases hs:s=1
 ·subst hs
  match e,h with
  |[x],_=>
   have:=hp x (List.mem_cons_self ..);cases x<;>simp[cy] at this<;>exact⟨rfl,rfl⟩
 ·have:kH s e=.agg e:=by unfold kH;split;exact absurd rfl hs;rfl
  rw[this];exact⟨rfl,rfl⟩
theorem Rows.re {st:St} {s:Nat} {es:List (List D)} (h:∀e∈es,e.length=s) (hp:∀e∈es,∀d∈e,cy d=true):Rows st s (.sl (es.map (kH s))) es:=by
 have:=Rows.sl (st:=st) (s:=s) (es.map (kH s)) fun d hd=>by
  obtain⟨e,he,rfl⟩:=List.mem_map.1 hd;obtain⟨h1,h2⟩:=l4 (h e he) (hp e he);exact⟨h1,by rw[h2];exact h e he⟩
 have h2:(es.map (kH s)).map D.cells=es:=by
  rw[List.map_map]
  conv=>rhs;rw[←List.map_id es]
  refine List.map_congr_left fun e he=>?_;exact(l4 (h e he) (hp e he)).2
 rwa [h2] at this
theorem Rows.bs {st ah:St} (h:ah.bs=st.bs) {s:Nat} {x:D} {es:List (List D)} (hr:Rows st s x es):Rows ah s x es:=by
 cases hr with
 |nul=>exact .nul
 |sl es h=>exact .sl es h
 |win k aD off es ar c hm hl he=>exact .win k aD off es ar c (by simp only[St.eW,h] at hm⊢;exact hm) hl he
theorem Ee (m:Mode) (st:St):(ai m st).bs=st.bs:=by cases m<;>rfl
theorem Rows.enter {st:St} {s:Nat} {x:D} {es:List (List D)} (m:Mode) (hr:Rows st s x es):Rows (ai m st) s x es:=hr.bs (Ee m st)
theorem ek {k:IntKind} {m:Nat} (h:m≤kY k):cp k (m:Int)=m:=by
 show cp k (.ofNat m)=_;unfold cp;simp only[Nat.ble_eq_true_of_le h];rfl
theorem wrap_i64 {n : Int} (h1 : -9223372036854775808 ≤ n) (h2 : n ≤ 9223372036854775807) : cp .i64 n = n := by
  cases n with
  | ofNat m => exact ek (k := .i64) (m := m) (by simp only [kY]; have : (Int.ofNat m) = (m : Int) := rfl; omega)
  | negSucc m =>
    unfold cp
    have : Nat.ble (uI .i64) m = false := by
      cases hb : Nat.ble (uI .i64) m with
      | false => rfl
      | true => have := Nat.le_of_ble_eq_true hb; simp only [uI] at this; have : Int.negSucc m = -(m : Int) - 1 := by omega
                omega
    simp only [this]
theorem bv_and {w a b:Nat} (ha:a<2^w) (hb:b<2^w):(BitVec.ofInt w (a:Int) &&&BitVec.ofInt w (b:Int)).toNat=a &&&b:=by
 rw[BitVec.ofInt_natCast,BitVec.ofInt_natCast,BitVec.toNat_and,BitVec.toNat_ofNat,BitVec.toNat_ofNat,Nat.mod_eq_of_lt ha,Nat.mod_eq_of_lt hb]
theorem UY {w a b:Nat} (ha:a<2^w) (hb:b<2^w):(BitVec.ofInt w (a:Int)|||BitVec.ofInt w (b:Int)).toNat=a|||b:=by
 rw[BitVec.ofInt_natCast,BitVec.ofInt_natCast,BitVec.toNat_or,BitVec.toNat_ofNat,BitVec.toNat_ofNat,Nat.mod_eq_of_lt ha,Nat.mod_eq_of_lt hb]
end Go.V
namespace Go.V
theorem LZ {a b:Int} (h:a=b):(a==b)=true:=by simp[h]
theorem Rk {a b:Int} (h:a≠b):(a==b)=false:=by simp[h]
theorem LY {a b:Int} (h:a≠b):(a !=b)=true:=by simp[h]
theorem Ri {a b:Int} (h:a=b):(a !=b)=false:=by simp[h]
variable{P:Pv} {ops:Array Oper} {rest:List Oper} {n:Nat} {loc:List D} {tmp:List (Nat×D)} {st:St} {Q:Fr→St→Prop} {ty:TypeId} {p:String} {a:Array Edge} {g:Option (Nat×Bool)} {dst:Nat}
theorem aa.len {t e:TypeId} {xo:Operand} {x:D} {s:Nat} {es:List (List D)} (oI:Nat.ble n dst=true) (hg:aI ops ⟨n,loc,tmp⟩ ⟨some dst,.call ⟨.builtin .len,#[xo],#[t]⟩,ty,p,a,g⟩=some true) (hx:Fr.ev ⟨n,loc,tmp⟩ xo=x) (hR:Rows st s x es) (ht:P.cL t=some (.slice e))
  (h:aa P ops rest ⟨n,loc,(dst,(.int .i64 (es.length:Nat)))::tmp⟩ st Q):aa P ops (⟨some dst,.call ⟨.builtin .len,#[xo],#[t]⟩,ty,p,a,g⟩::rest) ⟨n,loc,tmp⟩ st Q:=by
 refine aa.T oI hg rfl (d:=.int .i64 (es.length:Nat)) (st1:=st) ?_ h;simp only[dQ,List.map_cons,List.map_nil,hx];exact hR.Me ht
theorem aa.slice {t e:TypeId} {xo:Operand} {lo hi:Option Operand} {x:D} {s:Nat} {es:List (List D)} {l r:Nat} (oI:Nat.ble n dst=true) (hg:aI ops ⟨n,loc,tmp⟩ ⟨some dst,.slice t xo lo hi none,ty,p,a,g⟩=some true) (hx:Fr.ev ⟨n,loc,tmp⟩ xo=x) (hR:Rows st s x es) (ht:P.cL t=some (.slice e)) (hs:cn P e=some s)
  (hb:cv es.length (lo.map (Fr.ev ⟨n,loc,tmp⟩)) (hi.map (Fr.ev ⟨n,loc,tmp⟩))=some (l,r)) (u7:l≤r∧r≤es.length)
  (h:∀y,Rows st s y ((es.take r).drop l)→y.ref≤x.ref→aa P ops rest ⟨n,loc,(dst,y)::tmp⟩ st Q):aa P ops (⟨some dst,.slice t xo lo hi none,ty,p,a,g⟩::rest) ⟨n,loc,tmp⟩ st Q:=by
 obtain⟨y,h1,h2,h3⟩:=hR.slice ht hs hb u7;refine aa.T oI hg rfl (d:=y) (st1:=st) ?_ (h y h2 h3);simp only[dQ,hx,h1,Option.map_some]
theorem aa.append {N:Nat} {t1 t2 e:TypeId} {td:TypeDesc} {inf:TypeInfo} {z:List D} {xo yo:Operand} {x y:D} {s:Nat} {es ys:List (List D)} (oI:Nat.ble n dst=true) (hg:aI ops ⟨n,loc,tmp⟩ ⟨some dst,.call ⟨.builtin .append,#[xo,yo],#[t1,t2]⟩,ty,p,a,g⟩=some true)
  (hx:Fr.ev ⟨n,loc,tmp⟩ xo=x) (hy:Fr.ev ⟨n,loc,tmp⟩ yo=y) (hr:Acc N st s x es) (kN:Rows st s y ys)
  (h1:P.cL t1=some (.slice e)) (h2:P.cL t2=some td) (h3:gJ td=false) (h4:P.info e=some inf) (h5:dD P e=some z) (h6:inf.size=s) (h7:z.length=s) (h8:inf.bytes≠0)
  (hN:N≤st.bs.length) (hf:st.flr≤N) (et:st.ro≤N) (hb:(es.length+ys.length)*inf.bytes≤1099511627776)
  (h:∀x' ah,Acc N ah s x' (es++ys)→Ex N st ah→x'.ref≤ah.bs.length→(∀k,k<st.bs.length→k+1≠x.ref→ah.bs[k]?=st.bs[k]?)→(x'.ref=x.ref∨st.bs.length<x'.ref)→aa P ops rest ⟨n,loc,(dst,x')::tmp⟩ ah Q):
  aa P ops (⟨some dst,.call ⟨.builtin .append,#[xo,yo],#[t1,t2]⟩,ty,p,a,g⟩::rest) ⟨n,loc,tmp⟩ st Q:=by
 obtain⟨x',ah,q1,q2,q3,q4,q5,q6⟩:=hr.append kN h1 h2 h3 h4 h5 h6 h7 h8 hN hf et hb;refine aa.T oI hg rfl (d:=x') (st1:=ah) ?_ (h x' ah q2 q3 q4 q5 q6);simp only[dQ,List.map_cons,List.map_nil,hx,hy];exact q1
theorem Rows.one {st:St} {s:Nat} {c:List D} (hc:c.length=s):Rows (st.push (.mem 0 true c)) s (.win st.bs.length 0 0 1 s) [c]:=by
 have:=Rows.win (st:=st.push (.mem 0 true c)) (s:=s) st.bs.length 0 0 [c] true c (St.mem_of (by simp[St.push])) (by simp[hc]) fun i e hi=>by
  cases i with
  |zero=>simp at hi;subst hi;simp[←hc]
  |succ i=>simp at hi
 exact this
theorem Rows.ref {st:St} {s:Nat} {x:D} {es:List (List D)} (h:Rows st s x es):x.ref≤st.bs.length:=by
 cases h with
 |nul=>simp[D.ref]
 |sl es h=>simp[D.ref]
 |win k aD off es ar c hm hl he=>
  simp only[D.ref]
  rcases Nat.lt_or_ge k st.bs.length with h'|h'
  ·exact h'
  ·simp only[St.eW,List.getElem?_eq_none h'] at hm;cases hm
theorem Acc.ref {N:Nat} {st:St} {s:Nat} {x:D} {es:List (List D)} (h:Acc N st s x es):x.ref≤st.bs.length:=h.rows.ref
end Go.V
namespace Go.V
theorem gC:∀(xs c:List D) (off:Nat),off+xs.length≤c.length→setMany c off xs=c.take off++xs++c.drop (off+xs.length)
 |[],c,off,h=>by simp[setMany]
 |x::xs,c,off,h=>by
  simp only[setMany];simp only[List.length_cons] at h;rw[gC xs (c.set off x) (off+1) (by simp;omega)]
  have h1:(c.set off x).take (off+1)=c.take off++[x]:=by
   rw[List.take_set,List.take_add_one,List.getElem?_eq_getElem (by omega:off<c.length)];simp only[Option.toList_some];rw[List.set_append_right _ _ (by simp;omega)];have:off-(c.take off).length=0:=by simp;omega
   rw[this];rfl
  have h2:(c.set off x).drop (off+1+xs.length)=c.drop (off+(xs.length+1)):=by
   rw[List.drop_set_of_lt (by omega)];congr 1;omega
  rw[h1,h2];simp[List.length_cons]
theorem wm {st:St} {b b':ij} {k:Nat} (hk:k=st.bs.length):(⟨(st.push b).bs.set k b',(st.push b).flr,(st.push b).ro⟩:St)=st.push b':=by
 subst hk;simp[St.push,List.set_append_right]
theorem ke (st:St) (b:ij):(st.push b).bs[st.bs.length]?=some b:=by simp[St.push]
variable{P:Pv} {ops:Array Oper} {rest:List Oper} {n:Nat} {loc:List D} {tmp:List (Nat×D)} {st:St} {Q:Fr→St→Prop} {ty:TypeId} {p:String} {a:Array Edge} {g:Option (Nat×Bool)} {dst:Nat}
theorem aa.makeSlice {t e:TypeId} {lo co:Operand} {k1 k2:IntKind} {m:Nat} {inf:TypeInfo} {z:List D} (oI:Nat.ble n dst=true) (hg:aI ops ⟨n,loc,tmp⟩ ⟨some dst,.makeSlice t lo co,ty,p,a,g⟩=some true)
  (hl:Fr.ev ⟨n,loc,tmp⟩ lo=.int k1 (m:Nat)) (hc:Fr.ev ⟨n,loc,tmp⟩ co=.int k2 (m:Nat)) (ht:P.cL t=some (.slice e)) (hi:P.info e=some inf) (hz:dD P e=some z) (lY:z.length=inf.size) (hm:m*inf.bytes≤140737488355328) (DN:m≤9223372036854775807)
  (h:aa P ops rest ⟨n,loc,(dst,.win st.bs.length 0 0 m inf.size)::tmp⟩ (st.push (.mem 0 true (eV m z))) Q):aa P ops (⟨some dst,.makeSlice t lo co,ty,p,a,g⟩::rest) ⟨n,loc,tmp⟩ st Q:=by
 refine aa.T oI hg rfl (d:=.win st.bs.length 0 0 m inf.size) (st1:=st.push (.mem 0 true (eV m z))) ?_ h;simp only[dQ,hl,hc,gG,ht,hi,hz,Option.bind_some];rw[if_pos ⟨lY,by omega,by omega,by omega,by rw[←Int.natCast_mul];omega⟩]
 rfl
theorem ml {k aD off:Nat} {ar:Bool} {c cs:List D} (hm:st.bs[k]?=some (.mem aD ar c)) (hl:off+cs.length≤c.length) (hw:st.iV k (refs cs)=true):st.wr k aD off cs=some {st with bs:=st.bs.set k (.mem aD ar (c.take off++cs++c.drop (off+cs.length)))}:=by
 simp only[St.wr,St.mem_of hm];rw[if_pos ⟨hl,hw⟩,gC _ _ _ hl]
theorem jX {k:Nat} (et:st.ro≤k):st.iV k 0=true:=by
 simp only[St.iV,Bool.and_eq_true,Bool.or_eq_true,decide_eq_true_eq];exact⟨et,.inr (.inl (by omega))⟩
theorem aa.copy {t1 t2 e:TypeId} {YF so:Operand} {k aD off len s:Nat} {y:D} {ys:List (List D)} {ar:Bool} {c:List D} (oI:Nat.ble n dst=true) (hg:aI ops ⟨n,loc,tmp⟩ ⟨some dst,.call ⟨.builtin .copy,#[YF,so],#[t1,t2]⟩,ty,p,a,g⟩=some true)
  (hd:Fr.ev ⟨n,loc,tmp⟩ YF=.win k aD off len s) (hy:Fr.ev ⟨n,loc,tmp⟩ so=y) (hR:Rows st s y ys) (ht:P.cL t1=some (.slice e)) (hs:cn P e=some s) (hm:st.bs[k]?=some (.mem aD ar c)) (hl:off+len*s≤c.length)
  (hw:st.iV k (refs (ys.flatten.take (min ys.length len*s)))=true)
  (h:aa P ops rest ⟨n,loc,(dst,.int .i64 (min ys.length len:Nat))::tmp⟩ {st with bs:=st.bs.set k (.mem aD ar (c.take off++ys.flatten.take (min ys.length len*s)++c.drop (off+min ys.length len*s)))} Q):
  aa P ops (⟨some dst,.call ⟨.builtin .copy,#[YF,so],#[t1,t2]⟩,ty,p,a,g⟩::rest) ⟨n,loc,tmp⟩ st Q:=by
 have DA:∀e∈ys,e.length=s:=fun e he=>by
  obtain⟨i,hi⟩:=List.getElem?_of_mem he;exact hR.vg i e hi
 have px:=c_ DA;have w6:min ys.length len*s≤ys.length*s:=Nat.mul_le_mul_right s (Nat.min_le_left _ _);have ZC:min ys.length len*s≤len*s:=Nat.mul_le_mul_right s (Nat.min_le_right _ _);have sD:(ys.flatten.take (min ys.length len*s)).length=min ys.length len*s:=by rw[List.length_take,px];omega
 refine aa.T oI hg rfl (d:=.int .i64 (min ys.length len:Nat)) (st1:={st with bs:=st.bs.set k (.mem aD ar (c.take off++ys.flatten.take (min ys.length len*s)++c.drop (off+min ys.length len*s)))}) ?_ h;simp only[dQ,List.map_cons,List.map_nil,hd,hy,bG,tT,ht,hs,Option.bind_some,hR.row];rw[if_neg (by simp[px])];simp only[ne_eq,not_true_eq_false,if_false];have:=ml (st:=st) hm (cs:=ys.flatten.take (min ys.length len*s)) (off:=off) (by rw[sD];omega) hw;rw[this,sD];rfl
theorem aa.store {fr:Fr} {t:TypeId} {ao vo:Operand} {k aD off:Nat} {v:D} {cs:List D} {ar:Bool} {c:List D} (hg:aI ops fr ⟨none,.store t ao vo,ty,p,a,g⟩=some true) (ha:fr.ev ao=.ptr k aD off) (hv:fr.ev vo=v)
  (iS:v.cells?=some cs) (hs:cn P t=some cs.length) (hm:st.bs[k]?=some (.mem aD ar c)) (hl:off+cs.length≤c.length) (hw:st.iV k (refs cs)=true)
  (h:aa P ops rest fr {st with bs:=st.bs.set k (.mem aD ar (c.take off++cs++c.drop (off+cs.length)))} Q):aa P ops (⟨none,.store t ao vo,ty,p,a,g⟩::rest) fr st Q:=by
 refine aa.N hg rfl (d:=.tup []) (st1:=_) ?_ h;simp only[dQ,ha,hv,kP,iS,hs];rw[if_pos trivial,ml hm hl hw];rfl
theorem aa.load {t:TypeId} {ao:Operand} {k aD off:Nat} {d:D} {ar:Bool} {c:List D} (oI:Nat.ble n dst=true) (hg:aI ops ⟨n,loc,tmp⟩ ⟨some dst,.load t ao,ty,p,a,g⟩=some true) (ha:Fr.ev ⟨n,loc,tmp⟩ ao=.ptr k aD off)
  (hm:st.bs[k]?=some (.mem aD ar c)) (hd:dR P t (c.drop off)=some d)
  (h:aa P ops rest ⟨n,loc,(dst,d)::tmp⟩ st Q):aa P ops (⟨some dst,.load t ao,ty,p,a,g⟩::rest) ⟨n,loc,tmp⟩ st Q:=by
 refine aa.T oI hg rfl (d:=d) (st1:=st) ?_ h;simp only[dQ,ha,gx,St.mem_of hm,Option.bind_some,hd,Option.map_some]
theorem aa.next {io:Operand} {k pos:Nat} {b:List UInt8} (oI:Nat.ble n dst=true) (hg:aI ops ⟨n,loc,tmp⟩ ⟨some dst,.next io true,ty,p,a,g⟩=some true) (hx:Fr.ev ⟨n,loc,tmp⟩ io=.ptr k 0 0) (hm:st.bs[k]?=some (.iter b pos)) (hp:pos<b.length) (hw:st.iV k 0=true)
  (h:aa P ops rest ⟨n,loc,(dst,.tup [.bool true,.int .i64 (pos:Nat),.int .i32 ((Utf8.decode ⟨b.toArray⟩ pos).1:Nat)])::tmp⟩ {st with bs:=st.bs.set k (.iter b (pos+(Utf8.decode ⟨b.toArray⟩ pos).2))} Q):aa P ops (⟨some dst,.next io true,ty,p,a,g⟩::rest) ⟨n,loc,tmp⟩ st Q:=by
 refine aa.T oI hg rfl (d:=.tup [.bool true,.int .i64 (pos:Nat),.int .i32 ((Utf8.decode ⟨b.toArray⟩ pos).1:Nat)]) (st1:={st with bs:=st.bs.set k (.iter b (pos+(Utf8.decode ⟨b.toArray⟩ pos).2))}) ?_ h;simp only[dQ,hx,tp,hm,if_pos hp,hw,if_true]
theorem aa.jH {t e:TypeId} {xo:Operand} {lo hi:Option Operand} {k v off m s l r:Nat} {ar:Bool} {c:List D} (oI:Nat.ble n dst=true) (hg:aI ops ⟨n,loc,tmp⟩ ⟨some dst,.slice t xo lo hi none,ty,p,a,g⟩=some true) (hx:Fr.ev ⟨n,loc,tmp⟩ xo=.ptr k v off) (ht:P.cL t=some (.array m e)) (hs:cn P e=some s)
  (hm:st.bs[k]?=some (.mem v ar c)) (hl:off+m*s≤c.length) (hb:cv m (lo.map (Fr.ev ⟨n,loc,tmp⟩)) (hi.map (Fr.ev ⟨n,loc,tmp⟩))=some (l,r))
  (h:aa P ops rest ⟨n,loc,(dst,.win k v (off+l*s) (r-l) s)::tmp⟩ st Q):aa P ops (⟨some dst,.slice t xo lo hi none,ty,p,a,g⟩::rest) ⟨n,loc,tmp⟩ st Q:=by
 refine aa.T oI hg rfl (d:=.win k v (off+l*s) (r-l) s) (st1:=st) ?_ h;simp only[dQ,hx,fh,ht,hs,Option.bind_some,St.mem_of hm,if_pos hl,hb,Option.map_some]
theorem aa.P_ {t e:TypeId} {xo io:Operand} {k v off m s:Nat} {kk:IntKind} {i:Nat} (oI:Nat.ble n dst=true) (hg:aI ops ⟨n,loc,tmp⟩ ⟨some dst,.indexAddr t xo io,ty,p,a,g⟩=some true) (hx:Fr.ev ⟨n,loc,tmp⟩ xo=.ptr k v off) (hi:Fr.ev ⟨n,loc,tmp⟩ io=.int kk (i:Nat)) (ht:P.cL t=some (.array m e)) (hs:cn P e=some s) (hlt:i<m)
  (h:aa P ops rest ⟨n,loc,(dst,.ptr k v (off+i*s))::tmp⟩ st Q):aa P ops (⟨some dst,.indexAddr t xo io,ty,p,a,g⟩::rest) ⟨n,loc,tmp⟩ st Q:=by
 refine aa.T oI hg rfl (d:=.ptr k v (off+i*s)) (st1:=st) ?_ h;simp only[dQ,hx,hi,b6,ht,hs,Option.bind_some];rw[if_pos ⟨by omega,by omega⟩];rfl
structure zx (N k:Nat) (st ah:St):Prop where
 low:∀i,i<N→i≠k→ah.bs[i]?=st.bs[i]?
 len:st.bs.length≤ah.bs.length
 flr:ah.flr=st.flr
 ro:ah.ro=st.ro
theorem zx.of {N k:Nat} {a b c:St} (h:zx N k a b) (g:Ex N b c):zx N k a c:=
 ⟨fun i hi hk=>(g.low i hi).trans (h.low i hi hk),Nat.le_trans h.len g.len,g.flr.trans h.flr,g.ro.trans h.ro⟩
theorem zx.put {N k:Nat} {a b:St} (h:zx N k a b) (bx:ij):zx N k a ⟨b.bs.set k bx,b.flr,b.ro⟩:=
 ⟨fun i hi hk=>by simp only;rw[List.getElem?_set_ne (fun e=>hk e.symm)];exact h.low i hi hk,by simp only[List.length_set];exact h.len,h.flr,h.ro⟩
theorem zx.take {k:Nat} {a b:St} (h:zx a.bs.length k a b) (hk:k<a.bs.length) {bx:ij} (hb:b.bs[k]?=some bx):b.bs.take a.bs.length=a.bs.set k bx:=by
 apply List.ext_getElem?;intro i;rw[List.getElem?_take]
 by_cases hi:i<a.bs.length
 ·rw[if_pos hi]
  by_cases he:i=k
  ·subst he;rw[hb,List.getElem?_set_self hk]
  ·rw[h.low i hi he,List.getElem?_set_ne (fun e=>he e.symm)]
 ·rw[if_neg hi,List.getElem?_eq_none (by simp;omega)]
theorem rr {kn:Bool} {st st1:St} {d d':D} {bs':List ij} (h1:st1.bs.take st.bs.length=bs') (hd:bw st1 st.bs.length kn 16 d=some d'):cX .rw kn st st1 d=some (d',⟨bs',st.flr,st.ro⟩):=by
 simp only[cX,hd,h1]
end Go.V
namespace Go.V
variable{P:Pv} {ops:Array Oper} {rest:List Oper} {n:Nat} {loc:List D} {tmp:List (Nat×D)} {st:St} {Q:Fr→St→Prop} {ty:TypeId} {p:String} {a:Array Edge} {g:Option (Nat×Bool)} {dst:Nat}
end Go.V
namespace Go.V
structure bC where
 K:Nat→Prop
 P:St→Prop
 loc:∀{st ah:St},(∀k,K k→ah.bs[k]?=st.bs[k]?)→P st→P ah
def bC.box (k:Nat) (b:ij):bC:=⟨fun j=>j=k,fun st=>st.bs[k]?=some b,fun h p=>(h k rfl).trans p⟩
inductive ia (st:St) (s:Nat):D→List (List D)→Prop where
 |nul:ia st s .nul []
 |win (k aD off:Nat) (es:List (List D)) (c:List D) (hm:st.bs[k]?=some (.mem aD true c)) (hl:off+es.length*s≤c.length) (hc:(c.drop off).take (es.length*s)=es.flatten) (he:∀e∈es,e.length=s):ia st s (.win k aD off es.length s) es
theorem ia.move {st ah:St} {s:Nat} {x:D} {es:List (List D)} (h:∀k,x.ref=k+1→ah.bs[k]?=st.bs[k]?) (p:ia st s x es):ia ah s x es:=by
 cases p with
 |nul=>exact .nul
 |win k aD off es c hm hl hc he=>exact .win k aD off es c ((h k (by simp only[D.ref])).trans hm) hl hc he
def bC.aM (x:D) (s:Nat) (es:List (List D)):bC:=⟨fun j=>x.ref=j+1,fun st=>ia st s x es,fun h p=>ia.move h p⟩
theorem ia.vg {st:St} {s:Nat} {x:D} {es:List (List D)} (p:ia st s x es):∀e∈es,e.length=s:=by
 cases p with
 |nul=>intro e he;cases he
 |win k aD off es c hm hl hc he=>exact he
theorem ia.rows {st:St} {s:Nat} {x:D} {es:List (List D)} (p:ia st s x es):Rows st s x es:=by
 cases p with
 |nul=>exact .nul
 |win k aD off es c hm hl hc he=>
  refine .win k aD off es true c (St.mem_of hm) hl fun i e hi=>?_
  have hil:i<es.length:=by
   rcases Nat.lt_or_ge i es.length with h'|h'
   ·exact h'
   ·rw[List.getElem?_eq_none h'] at hi;cases hi
  have h1:=lZ he i e hi;rw[←hc,List.drop_take,List.take_take,List.drop_drop] at h1;have h2:(i+1)*s≤es.length*s:=Nat.mul_le_mul_right s hil;rw[Nat.add_mul,Nat.one_mul] at h2
  rwa [Nat.min_eq_left (by omega)] at h1
structure Has (N:Nat) (S st:St) (H:List bC):Prop where
 ex:Ex N S st
 hN:N≤S.bs.length
 et:S.ro≤N
 ok:∀(i:Nat) e,H[i]?=some e→e.P st∧∀k,e.K k→N≤k∧k<st.bs.length
 dis:∀(i j:Nat) a b,i≠j→H[i]?=some a→H[j]?=some b→∀k,a.K k→b.K k→False
theorem Has.start {N:Nat} {S:St} (hN:N≤S.bs.length) (et:S.ro≤N):Has N S S []:=
 ⟨Ex.refl _ _,hN,et,fun i e h=>by simp at h,fun i j a b _ h=>by simp at h⟩
theorem Has.len {N:Nat} {S st:St} {H:List bC} (h:Has N S st H):S.bs.length≤st.bs.length:=h.ex.len
theorem Has.sH {N:Nat} {S st ah:St} {H:List bC} {j:Nat} {e e':bC} (h:Has N S st H) (hj:H[j]?=some e)
  (yK:∀k,k<st.bs.length→¬e.K k→ah.bs[k]?=st.bs[k]?) (hlen:st.bs.length≤ah.bs.length) (hf:ah.flr=st.flr) (hr:ah.ro=st.ro)
  (hP:e'.P ah) (hK:∀k,e'.K k→e.K k∨st.bs.length≤k) (SC:∀k,e'.K k→k<ah.bs.length):Has N S ah (H.set j e'):=by
 have kL:j<H.length:=by
  rcases Nat.lt_or_ge j H.length with h'|h'
  ·exact h'
  ·rw[List.getElem?_eq_none h'] at hj;cases hj
 have hl:=h.ex.len;have hN:=h.hN;refine⟨⟨fun k hk=>?_,Nat.le_trans hl hlen,hf.trans h.ex.flr,hr.trans h.ex.ro⟩,h.hN,h.et,fun i e0 hi=>?_,fun i i' a b hii ha hb k sE ja=>?_⟩
 ·rw[yK k (by omega) fun ky=>by have:=((h.ok j e hj).2 k ky).1;omega];exact h.ex.low k hk
 ·by_cases hij:i=j
  ·subst hij;rw[List.getElem?_set_self kL] at hi;cases hi;refine⟨hP,fun k hk=>⟨?_,SC k hk⟩⟩
   rcases hK k hk with h1|h1
   ·exact((h.ok i e hj).2 k h1).1
   ·omega
  ·rw[List.getElem?_set_ne (fun e=>hij e.symm)] at hi;obtain⟨h1,h2⟩:=h.ok i e0 hi;refine⟨e0.loc (fun k hk=>yK k (h2 k hk).2 fun ky=>h.dis i j e0 e hij hi hj k hk ky) h1,fun k hk=>⟨(h2 k hk).1,Nat.lt_of_lt_of_le (h2 k hk).2 hlen⟩⟩
 ·have key:∀i a,i≠j→(H.set j e')[i]?=some a→a.K k→e'.K k→False:=by
   intro i a hij ha sE hke;rw[List.getElem?_set_ne (fun e=>hij e.symm)] at ha
   rcases hK k hke with h1|h1
   ·exact h.dis i j a e hij ha hj k sE h1
   ·have:=((h.ok i a ha).2 k sE).2;omega
  by_cases hij:i=j
  ·subst hij;have eF:=hb;rw[List.getElem?_set_self kL] at ha;cases ha;exact key i' b (fun e=>hii e.symm) hb ja sE
  ·by_cases TD:i'=j
   ·subst TD;rw[List.getElem?_set_self kL] at hb;cases hb;exact key i a hij ha sE ja
   ·rw[List.getElem?_set_ne (fun e=>hij e.symm)] at ha;rw[List.getElem?_set_ne (fun e=>TD e.symm)] at hb;exact h.dis i i' a b hii ha hb k sE ja
theorem Has.add {N:Nat} {S st ah:St} {H:List bC} {e':bC} (h:Has N S st H)
  (yK:∀k,k<st.bs.length→ah.bs[k]?=st.bs[k]?) (hlen:st.bs.length≤ah.bs.length) (hf:ah.flr=st.flr) (hr:ah.ro=st.ro)
  (hP:e'.P ah) (hK:∀k,e'.K k→st.bs.length≤k∧k<ah.bs.length):Has N S ah (e'::H):=by
 have hl:=h.ex.len;have hN:=h.hN;refine⟨⟨fun k hk=>?_,Nat.le_trans hl hlen,hf.trans h.ex.flr,hr.trans h.ex.ro⟩,h.hN,h.et,fun i e0 hi=>?_,fun i i' a b hii ha hb k sE ja=>?_⟩
 ·rw[yK k (by omega)];exact h.ex.low k hk
 ·cases i with
  |zero=>
   simp only[List.getElem?_cons_zero,Option.some.injEq] at hi;subst hi;exact⟨hP,fun k hk=>⟨by have:=(hK k hk).1;omega,(hK k hk).2⟩⟩
  |succ i=>
   rw[List.getElem?_cons_succ] at hi;obtain⟨h1,h2⟩:=h.ok i e0 hi;exact⟨e0.loc (fun k hk=>yK k (h2 k hk).2) h1,fun k hk=>⟨(h2 k hk).1,Nat.lt_of_lt_of_le (h2 k hk).2 hlen⟩⟩
 ·cases i with
  |zero=>
   simp only[List.getElem?_cons_zero,Option.some.injEq] at ha;subst ha
   cases i' with
   |zero=>exact hii rfl
   |succ i'=>
    rw[List.getElem?_cons_succ] at hb;have:=((h.ok i' b hb).2 k ja).2;have:=(hK k sE).1;omega
  |succ i=>
   rw[List.getElem?_cons_succ] at ha
   cases i' with
   |zero=>
    simp only[List.getElem?_cons_zero,Option.some.injEq] at hb;subst hb;have:=((h.ok i a ha).2 k sE).2;have:=(hK k ja).1;omega
   |succ i'=>
    rw[List.getElem?_cons_succ] at hb;exact h.dis i i' a b (fun e=>hii (by rw[e])) ha hb k sE ja
theorem Has.sub {N:Nat} {S st:St} {H H':List bC} (h:Has N S st H) (f:Nat→Nat) (hf:∀i j,f i=f j→i=j) (hs:∀i e,H'[i]?=some e→H[f i]?=some e):Has N S st H':=
 ⟨h.ex,h.hN,h.et,fun i e hi=>h.ok _ e (hs i e hi),fun i j a b hij ha hb=>h.dis (f i) (f j) a b (fun e=>hij (hf i j e)) (hs i a ha) (hs j b hb)⟩
theorem Has.erase {N:Nat} {S st:St} {H:List bC} (h:Has N S st H) (j:Nat):Has N S st (H.eraseIdx j):=by
 refine h.sub (fun i=>if i<j then i else i+1) (fun a b e=>?_) fun i e hi=>?_
 ·show a=b;have e':(if a<j then a else a+1)=(if b<j then b else b+1):=e
  split at e'<;>split at e'<;>omega
 ·show H[if i<j then i else i+1]?=some e;rw[List.getElem?_eraseIdx] at hi
  split at hi<;>rename_i h'<;>simp[h',hi]
theorem Has.take {N:Nat} {S st:St} {H:List bC} (h:Has N S st H) (n:Nat):Has N S st (H.take n):=by
 refine h.sub id (fun a b e=>e) fun i e hi=>?_;rw[List.getElem?_take] at hi;split at hi;exact hi;cases hi
theorem Has.drop {N:Nat} {S st:St} {H:List bC} (h:Has N S st H) (n:Nat):Has N S st (H.drop n):=by
 refine h.sub (fun i=>n+i) (fun a b e=>by omega) fun i e hi=>?_;rw[List.getElem?_drop] at hi;exact hi
theorem Has.front {N:Nat} {S st:St} {H:List bC} (h:Has N S st H) {j:Nat} {e:bC} (hj:H[j]?=some e):Has N S st (e::H.eraseIdx j):=by
 refine h.sub (fun i=>if i=0 then j else if i-1<j then i-1 else i) (fun a b e=>?_) fun i e' hi=>?_
 ·have e':(if a=0 then j else if a-1<j then a-1 else a)=(if b=0 then j else if b-1<j then b-1 else b):=e
  repeat' split at e'
  all_goals omega
 ·show H[if i=0 then j else if i-1<j then i-1 else i]?=some e'
  cases i with
  |zero=>rw[if_pos rfl];simp only[List.getElem?_cons_zero,Option.some.injEq] at hi;subst hi;exact hj
  |succ i=>
   rw[if_neg (by omega),Nat.add_sub_cancel];rw[List.getElem?_cons_succ,List.getElem?_eraseIdx] at hi
   split at hi<;>rename_i h'<;>simp[h',hi]
theorem Has.back {N:Nat} {S st:St} {H:List bC} {j:Nat} {e:bC} (h:Has N S st (e::H.eraseIdx j)) (hj:j<H.length):Has N S st (H.set j e):=by
 refine h.sub (fun i=>if i=j then 0 else if i<j then i+1 else i) (fun a b e=>?_) fun i e' hi=>?_
 ·have e':(if a=j then 0 else if a<j then a+1 else a)=(if b=j then 0 else if b<j then b+1 else b):=e
  repeat' split at e'
  all_goals omega
 ·show(e::H.eraseIdx j)[if i=j then 0 else if i<j then i+1 else i]?=some e'
  by_cases hij:i=j
  ·subst hij;rw[List.getElem?_set_self hj] at hi;rw[if_pos rfl];simpa using hi
  ·rw[List.getElem?_set_ne (fun e=>hij e.symm)] at hi;rw[if_neg hij]
   by_cases hlt:i<j
   ·rw[if_pos hlt,List.getElem?_cons_succ,List.getElem?_eraseIdx,if_pos hlt];exact hi
   ·rw[if_neg hlt]
    obtain⟨i',rfl⟩:∃i',i=i'+1:=⟨i-1,by omega⟩
    rw[List.getElem?_cons_succ,List.getElem?_eraseIdx,if_neg (by omega)];exact hi
theorem Has.er {N:Nat} {S st:St} {H:List bC} (h:Has N S st H) (s:Nat):Has N S st (.aM .nul s []::H):=
 h.add (fun _ _=>rfl) (Nat.le_refl _) rfl rfl .nul fun k hk=>by simp only[bC.aM,D.ref] at hk;omega
theorem Has.own {N:Nat} {S st:St} {H:List bC} (h:Has N S st H) {j:Nat} {x:D} {s:Nat} {es:List (List D)} (hj:H[j]?=some (.aM x s es)):ia st s x es:=(h.ok j _ hj).1
theorem Has.rows {N:Nat} {S st:St} {H:List bC} (h:Has N S st H) {j:Nat} {x:D} {s:Nat} {es:List (List D)} (hj:H[j]?=some (.aM x s es)):Rows st s x es:=(h.own hj).rows
theorem Has.at {N:Nat} {S st:St} {H:List bC} (h:Has N S st H) {j k:Nat} {b:ij} (hj:H[j]?=some (.box k b)):st.bs[k]?=some b:=(h.ok j _ hj).1
theorem Has.ge {N:Nat} {S st:St} {H:List bC} (h:Has N S st H) {j k:Nat} {b:ij} (hj:H[j]?=some (.box k b)):N≤k∧k<st.bs.length:=(h.ok j _ hj).2 k rfl
def Arg (N:Nat) (S:St) (s:Nat) (x:D) (es:List (List D)):Prop:=Rows S s x es∧x.ref≤N
theorem Arg.rows {N:Nat} {S st:St} {H:List bC} {s:Nat} {x:D} {es:List (List D)} (hx:Arg N S s x es) (h:Has N S st H):Rows st s x es:=hx.1.ex h.ex hx.2
theorem Arg.of {st S:St} {s:Nat} {x:D} {es:List (List D)} (hx:Rows st s x es) (hS:S.bs=st.bs):Arg st.bs.length S s x es:=⟨hx.bs hS,hx.ref⟩
theorem Arg.pure {N:Nat} {S:St} {s:Nat} {es:List D} {rs:List (List D)} (hx:∀st,Rows st s (.sl es) rs):Arg N S s (.sl es) rs:=⟨hx S,by simp[D.ref]⟩
theorem jW {N:Nat} {S st:St} {H:List bC} (h:Has N S st H) {k:Nat} {cs:List D} (hk:N≤k) (hw:S.flr≤N∨refs cs=0):st.iV k (refs cs)=true:=by
 have h1:=h.ex.ro;have h2:=h.ex.flr;have h3:=h.et;simp only[St.iV,Bool.and_eq_true,Bool.or_eq_true,decide_eq_true_eq];refine⟨by omega,?_⟩
 rcases hw with hw|hw
 ·exact .inl (by omega)
 ·exact .inr (.inl (by omega))
theorem Has.ui {N:Nat} {S st:St} {H:List bC} (h:Has N S st H) {j k aD:Nat} {b b':ij} (hj:H[j]?=some (.box k b)):Has N S ⟨st.bs.set k b',st.flr,st.ro⟩ (H.set j (.box k b')):=by
 have hk:=(h.ge hj).2;refine h.sH hj (fun i hi hne=>?_) (by simp) rfl rfl ?_ (fun i hi=>.inl hi) fun i hi=>?_
 ·simp only;rw[List.getElem?_set_ne (fun e=>hne e.symm)]
 ·show(st.bs.set k b')[k]?=_;rw[List.getElem?_set_self hk]
 ·cases hi;simpa using hk
theorem Has.pL {N:Nat} {S st:St} {H:List bC} (h:Has N S st H) (b:ij):Has N S (st.push b) (.box st.bs.length b::H):=by
 refine h.add (fun i hi=>?_) (by simp[St.push]) rfl rfl ?_ fun i hi=>?_
 ·simp only[St.push];rw[List.getElem?_append_left hi]
 ·exact ke st b
 ·cases hi;simp[St.push]
theorem Has.uz {N:Nat} {S st:St} {H:List bC} (h:Has N S st H) {s:Nat} {es:List (List D)} {cs:List D} {m:Nat} (hm:es.length=m) (hc:es.flatten=cs) (he:∀e∈es,e.length=s):Has N S (st.push (.mem 0 true cs)) (.aM (.win st.bs.length 0 0 m s) s es::H):=by
 subst hm hc;refine h.add (fun i hi=>?_) (by simp[St.push]) rfl rfl ?_ fun i hi=>?_
 ·simp only[St.push];rw[List.getElem?_append_left hi]
 ·have px:=c_ he;exact ia.win _ 0 0 es es.flatten (ke st _) (by rw[px];omega) (by rw[List.drop_zero,←px,List.take_length]) he
 ·simp only[bC.aM,D.ref] at hi;simp only[St.push,List.length_append,List.length_cons,List.length_nil];omega
theorem kR:∀(xs c:List D) (off:Nat),(setMany c off xs).length=c.length
 |[],c,off=>rfl
 |x::xs,c,off=>by simp only[setMany];rw[kR xs];simp
theorem pe {s:Nat}:∀{es:List (List D)} {i:Nat} {e e':List D},(∀e∈es,e.length=s)→es[i]?=some e→e'.length=s→(es.set i e').flatten=es.flatten.take (i*s)++e'++es.flatten.drop (i*s+s)
 |[],i,e,e',_,hi,_=>by simp at hi
 |x::es,0,e,e',h,hi,he=>by
  simp at hi;subst hi;have:=h x (List.mem_cons_self ..);simp[List.set_cons_zero,List.drop_left' this]
 |x::es,i+1,e,e',h,hi,he=>by
  have hx:=h x (List.mem_cons_self ..);have ih:=pe (s:=s) (es:=es) (i:=i) (e:=e) (e':=e') (fun y hy=>h y (List.mem_cons_of_mem _ hy)) (by simpa using hi) he;rw[List.set_cons_succ,List.flatten_cons,ih,List.flatten_cons,Nat.add_mul,Nat.one_mul,Nat.add_comm (i*s) s,←hx,List.take_length_add_append,Nat.add_assoc,List.drop_length_add_append];simp only[List.append_assoc];rw[Nat.add_comm (i*x.length) x.length]
theorem Has.zQ {N:Nat} {S st:St} {H:List bC} (h:Has N S st H) {j k aD off len s:Nat} {es:List (List D)} {i o:Nat} {e cs:List D} (hj:H[j]?=some (.aM (.win k aD off len s) s es)) (hi:es[i]?=some e) (hl:o+cs.length≤s) (hw:S.flr≤N∨refs cs=0):
  ∃ah,st.wr k aD (off+i*s+o) cs=some ah∧Has N S ah (H.set j (.aM (.win k aD off len s) s (es.set i (setMany e o cs)))):=by
 have hk:=(h.ok j _ hj).2 k (by simp only[bC.aM,D.ref]);have hown:=h.own hj
 cases hown with
 |win k aD off es c hm hle hc he=>
  have hil:i<es.length:=by
   rcases Nat.lt_or_ge i es.length with h'|h'
   ·exact h'
   ·rw[List.getElem?_eq_none h'] at hi;cases hi
  have vw:=he e (List.mem_of_getElem? hi);have h2:(i+1)*s≤es.length*s:=Nat.mul_le_mul_right s hil;rw[Nat.add_mul,Nat.one_mul] at h2;refine⟨_,ml hm (by omega) (jW h hk.1 hw),?_⟩;refine h.sH hj (fun n hn hne=>?_) (by simp) rfl rfl ?_ (fun n hn=>.inl hn) fun n hn=>?_
  ·simp only;rw[List.getElem?_set_ne (fun e=>hne (by simp only[bC.aM,D.ref];omega))]
  ·have DO:∀e'∈es.set i (setMany e o cs),e'.length=s:=by
    intro e' pS
    rcases List.mem_or_eq_of_mem_set pS with h'|h'
    ·exact he e' h'
    ·rw[h',kR];exact vw
   have px:es.flatten.length=es.length*s:=c_ he;have:=ia.win (st:=⟨st.bs.set k (.mem aD true (c.take (off+i*s+o)++cs++c.drop (off+i*s+o+cs.length))),st.flr,st.ro⟩) (s:=s) k aD off (es.set i (setMany e o cs)) (c.take (off+i*s+o)++cs++c.drop (off+i*s+o+cs.length))
    (by simp only;rw[List.getElem?_set_self hk.2]) (by simp;omega) ?_ DO
   ·rw[List.length_set] at this;exact this
   ·rw[List.length_set,pe he hi (by rw[kR];exact vw),gC cs e o (by omega)]
    have e1:(c.take (off+i*s+o)++cs++c.drop (off+i*s+o+cs.length)).drop off=(c.drop off).take (i*s+o)++cs++(c.drop off).drop (i*s+o+cs.length):=by
     rw[List.append_assoc,List.drop_append_of_le_length (by simp;omega),List.drop_take,List.append_assoc,List.drop_drop]
     congr 3<;>omega
    rw[e1]
    have e2:(c.drop off).take (i*s+o)=es.flatten.take (i*s)++e.take o:=by
     have:(c.drop off).take (i*s+o)=es.flatten.take (i*s+o):=by
      rw[←hc,List.take_take,Nat.min_eq_left (by omega)]
     rw[this,List.take_add]
     congr 1
     have:=lZ he i e hi;rw[←this,List.take_take,Nat.min_eq_left (by omega)]
    have e3:(List.drop (i*s+o+cs.length) (c.drop off)).take (es.length*s-(i*s+o+cs.length))=e.drop (o+cs.length)++es.flatten.drop (i*s+s):=by
     have:(List.drop (i*s+o+cs.length) (c.drop off)).take (es.length*s-(i*s+o+cs.length))=es.flatten.drop (i*s+o+cs.length):=by
      rw[←hc,List.drop_take]
     rw[this];have h4:=lZ he i e hi;rw[←h4,List.drop_take];have:es.flatten.drop (i*s+o+cs.length)=(es.flatten.drop (i*s+o+cs.length)).take (s-(o+cs.length))++(es.flatten.drop (i*s+o+cs.length)).drop (s-(o+cs.length)):=(List.take_append_drop ..).symm;rw[this,List.drop_drop,List.drop_drop]
     congr 2
     ·congr 1;omega
     ·omega
    rw[e2]
    have An:(es.flatten.take (i*s)++e.take o++cs).length=i*s+o+cs.length:=by
     simp only[List.length_append,List.length_take,px,vw];omega
    rw[List.take_append,An,e3,List.take_of_length_le (by rw[An];omega)];simp[List.append_assoc]
  ·simp only[bC.aM,D.ref] at hn;simp only[List.length_set];omega
end Go.V
namespace Go.V
theorem au {α:Type} {a:α} {l:List α}:(a::l)[0]?=some a:=rfl
theorem aS {α:Type} {a b:α} {l:List α}:(a::b::l)[1]?=some b:=rfl
theorem ba {α:Type} {a b c:α} {l:List α}:(a::b::c::l)[2]?=some c:=rfl
theorem bf {α:Type} {a b c d:α} {l:List α}:(a::b::c::d::l)[3]?=some d:=rfl
theorem bm {α:Type} {a b c d e:α} {l:List α}:(a::b::c::d::e::l)[4]?=some e:=rfl
theorem bJ {α:Type} {a b c d e f:α} {l:List α}:(a::b::c::d::e::f::l)[5]?=some f:=rfl
theorem bU {α:Type} {a b c d e f g:α} {l:List α}:(a::b::c::d::e::f::g::l)[6]?=some g:=rfl
theorem bX {α:Type} {a b c d e f g h:α} {l:List α}:(a::b::c::d::e::f::g::h::l)[7]?=some h:=rfl
def Ae (t:Nat):List (Nat×D)→Option D
 |[]=>none
 |(u,d)::l=>match Nat.beq t u with
  |true=>some d
  |false=>Ae t l
def De:Value→Option D
 | .int k n=>some (.int k n)
 | .bool b=>some (.bool b)
 | .string s=>some (.str s.data.toList)
 | .slice none 0 0=>some .nul
 | .pointer none=>some .pnil
 | .nilFunc=>some .nilfn
 | .nilIface=>some .nilif
 |_=>none
def Fr.Z7 (f:Fr):Operand→Option D
 | .tmp t=>match Nat.ble f.n t with
  |false=>f.loc[t]?
  |true=>Ae t f.tmp
 | .const v=>De v
 | .func g=>some (.fn g [])
 | .global _=>none
theorem rq {t:Nat} {d:D}:∀{l:List (Nat×D)},Ae t l=some d→look t l=d
 |(u,e)::l,h=>by
  unfold Ae at h;unfold look
  split at h
  ·rename_i hb;cases h;simp only[hb]
  ·rename_i hb;simp only[hb];exact rq h
theorem z8 {d e:D}:∀{l:List D} {i:Nat},l[i]?=some d→nth e l i=d
 |x::l,0,h=>by simpa[nth] using h
 |x::l,i+1,h=>by rw[List.getElem?_cons_succ] at h;exact z8 (l:=l) h
 |[],i,h=>by simp at h
theorem ev {fr:Fr} {o:Operand} {d:D} (h:fr.Z7 o=some d):fr.ev o=d:=by
 unfold Fr.Z7 at h;unfold Fr.ev
 split at h
 ·unfold Fr.get
  split at h
  ·rename_i hb;simp only[hb];exact z8 h
  ·rename_i hb;simp only[hb];exact rq h
 ·unfold De at h
  split at h<;>cases h<;>rfl
 ·cases h;rfl
 ·cases h
def jD (st:St) (p:D) (r:List D):Prop:=
 (∃k aD off ar c,p=.ptr k aD off∧st.eW k aD=some (ar,c)∧(c.drop off).take r.length=r)∨∃c,p=.ep c∧c.take r.length=r
def pB (x:D) (s:Nat) (i o:Nat) (p:D):Prop:=∃k aD off len,x=.win k aD off len s∧p=.ptr k aD (off+i*s+o)
theorem lH {P:Pv} {t:TypeId} {r c:List D} {d:D} (hc:c.take r.length=r) (h:dR P t r=some d):dR P t c=some d:=by
 have hlen:r.length≤c.length:=by have:=congrArg List.length hc;simp at this;omega
 unfold dR at h⊢
 cases hu:P.cL t with
 |none=>rw[hu] at h;cases h
 |some u=>
  rw[hu] at h;have key:∀n,n≤r.length→c.take n=r.take n:=fun n hn=>by rw[←hc,List.take_take,Nat.min_eq_left hn]
  cases u with
  |struct f=>
   simp only at h⊢
   cases hs:cn P t with
   |none=>rw[hs] at h;cases h
   |some n=>
    rw[hs] at h;simp only[Option.bind_some] at h⊢
    split at h
    ·rename_i hn;rw[if_pos (by omega),key n hn];exact h
    ·cases h
  |array m f=>
   simp only at h⊢
   cases hs:cn P t with
   |none=>rw[hs] at h;cases h
   |some n=>
    rw[hs] at h;simp only[Option.bind_some] at h⊢
    split at h
    ·rename_i hn;rw[if_pos (by omega),key n hn];exact h
    ·cases h
  |_=>
   simp only at h⊢
   cases r with
   |nil=>cases h
   |cons y r=>
    cases c with
    |nil=>simp at hlen
    |cons z c=>
     simp only[List.length_cons,List.take_succ_cons,List.cons.injEq] at hc;rw[←h];simp[hc.1]
theorem jD.load {P:Pv} {st:St} {p:D} {r:List D} (h:jD st p r) {t:TypeId} {d:D} (hd:dR P t r=some d):gx P t p st=some d:=by
 rcases h with⟨k,aD,off,ar,c,rfl,hm,hc⟩|⟨c,rfl,hc⟩
 ·simp only[gx,hm,Option.bind_some];exact lH hc hd
 ·simp only[gx];exact lH hc hd
theorem jD.field {P:Pv} {st:St} {p:D} {r:List D} (h:jD st p r) {t:TypeId} {fields:Array Field} {f:Nat} {fd:Field} {m:Nat} (ht:P.cL t=some (.struct fields)) (hf:fields[f]?=some fd) (hm:cn P fd.type=some m) (jy:m≠0):
  ∃p',eS P t p f=some p'∧jD st p' (r.drop fd.offset):=by
 have key:∀c:List D,c.take r.length=r→(c.drop fd.offset).take (r.drop fd.offset).length=r.drop fd.offset:=by
  intro c hc;rw[List.length_drop,←List.drop_take,hc]
 rcases h with⟨k,aD,off,ar,c,rfl,xO,hc⟩|⟨c,rfl,hc⟩
 ·refine⟨.ptr k aD (off+fd.offset),?_,.inl ⟨k,aD,off+fd.offset,ar,c,rfl,xO,?_⟩⟩
  ·simp only[eS,ht,hf,Option.bind_some,hm];rw[if_neg (by simp only[Option.some.injEq];exact jy)]
  ·rw[←List.drop_drop];exact key _ hc
 ·refine⟨.ep (c.drop fd.offset),?_,.inr ⟨_,rfl,key _ hc⟩⟩;simp only[eS,ht,hf,Option.bind_some,hm];rw[if_neg (by simp only[Option.some.injEq];exact jy)]
theorem Rows.VE {P:Pv} {st:St} {s:Nat} {x:D} {es:List (List D)} (h:Rows st s x es) {t e:TypeId} (ht:P.cL t=some (.slice e)) (hs:cn P e=some s) {k:IntKind} {i:Nat} {r:List D} (hi:es[i]?=some r):
  ∃p,b6 P t x (.int k (i:Nat)) st=some p∧jD st p r:=by
 have pt:=h.vg _ _ hi
 cases h with
 |nul=>simp at hi
 |sl es h=>
  rw[List.getElem?_map] at hi;obtain⟨d,hd,rfl⟩:=Option.map_eq_some_iff.1 hi;obtain⟨h1,h2⟩:=h d (List.mem_of_getElem? hd);refine⟨.ep d.cells,?_,.inr ⟨_,rfl,List.take_length ..⟩⟩;simp only[b6,ht,hs,Option.bind_some,if_pos (show(0:Int)≤(i:Nat) by omega),Int.toNat_natCast,hd,h1,if_pos h2]
 |win k aD off es ar c hm hl he=>
  have hlt:i<es.length:=by
   rcases Nat.lt_or_ge i es.length with h'|h'
   ·exact h'
   ·rw[List.getElem?_eq_none h'] at hi;cases hi
  refine⟨.ptr k aD (off+i*s),?_,.inl ⟨k,aD,_,ar,c,rfl,hm,by rw[pt];exact he _ _ hi⟩⟩;simp only[b6,ht,hs,Option.bind_some,hm,Option.isSome_some];rw[if_pos ⟨trivial,by omega,by omega,trivial⟩];rfl
variable{P:Pv} {ops:Array Oper} {rest:List Oper} {fr aK:Fr} {st:St} {Q:Fr→St→Prop} {ty:TypeId} {pp:String} {a:Array Edge} {g:Option (Nat×Bool)} {dst:Nat} {N:Nat} {S:St} {H:List bC}
theorem aa.go {op:Op} {d:D} {st1:St} (hg:aI ops fr ⟨some dst,op,ty,pp,a,g⟩=some true) (hc:iR op=false) (h1:dQ P fr st op ty=some (d,st1)) (hp:fr.put dst d=aK)
  (h:aa P ops rest aK st1 Q):aa P ops (⟨some dst,op,ty,pp,a,g⟩::rest) fr st Q:=
 aa.op hg hc h1 (by show aa P ops rest (fr.put dst d) st1 Q;rw[hp];exact h)
theorem aa.dM {j k aD off:Nat} {ar:Bool} {c:List D} {d:D} {t:TypeId} {ao:Operand} (hH:Has N S st H) (hg:aI ops fr ⟨some dst,.load t ao,ty,pp,a,g⟩=some true) (ha:fr.ev ao=.ptr k aD off) (hj:H[j]?=some (.box k (.mem aD ar c))) (hd:dR P t (c.drop off)=some d) (hp:fr.put dst d=aK)
  (h:aa P ops rest aK st Q):aa P ops (⟨some dst,.load t ao,ty,pp,a,g⟩::rest) fr st Q:=by
 refine aa.go hg rfl (d:=d) (st1:=st) ?_ hp h;simp only[dQ,ha,gx,St.mem_of (hH.at hj),Option.bind_some,hd,Option.map_some]
theorem aa.fN {j k aD off:Nat} {ar:Bool} {c cs:List D} {v:D} {t:TypeId} {ao vo:Operand} (hH:Has N S st H) (hg:aI ops fr ⟨none,.store t ao vo,ty,pp,a,g⟩=some true) (ha:fr.ev ao=.ptr k aD off) (hv:fr.ev vo=v) (iS:v.cells?=some cs) (hs:cn P t=some cs.length) (hj:H[j]?=some (.box k (.mem aD ar c))) (hl:off+cs.length≤c.length) (hw:S.flr≤N∨refs cs=0)
  (h:∀ah,Has N S ah (H.set j (.box k (.mem aD ar (setMany c off cs))))→aa P ops rest fr ah Q):aa P ops (⟨none,.store t ao vo,ty,pp,a,g⟩::rest) fr st Q:=by
 refine aa.N hg rfl (d:=.tup []) (st1:=⟨st.bs.set k (.mem aD ar (setMany c off cs)),st.flr,st.ro⟩) ?_ (h _ (hH.ui (aD:=aD) hj));simp only[dQ,ha,hv,kP,iS,hs,if_pos trivial];rw[ml (hH.at hj) hl (jW hH (hH.ge hj).1 hw),gC _ _ _ hl];rfl
theorem aa.kz {e:TypeId} {cs:List D} {aK:Nat→Fr} (hH:Has N S st H) (hg:aI ops fr ⟨some dst,.alloc e,ty,pp,a,g⟩=some true) (hz:dD P e=some cs) (hp:∀k,fr.put dst (.ptr k 0 0)=aK k)
  (h:∀k ah,S.bs.length≤k→Has N S ah (.box k (.mem 0 false cs)::H)→aa P ops rest (aK k) ah Q):aa P ops (⟨some dst,.alloc e,ty,pp,a,g⟩::rest) fr st Q:=by
 refine aa.go hg rfl (d:=.ptr st.bs.length 0 0) (st1:=st.push (.mem 0 false cs)) ?_ (hp _) (h _ _ hH.len (hH.pL _));simp only[dQ,hz,Option.map_some]
theorem aa.xc {e:TypeId} {xo:Operand} {cs:List D} {aK:Nat→Fr} (hH:Has N S st H) (hg:aI ops fr ⟨some dst,.box e xo,ty,pp,a,g⟩=some true) (hz:(fr.ev xo).cells?=some cs) (hp:∀k,fr.put dst (.ptr k 0 0)=aK k)
  (h:∀k ah,S.bs.length≤k→Has N S ah (.box k (.mem 0 false cs)::H)→aa P ops rest (aK k) ah Q):aa P ops (⟨some dst,.box e xo,ty,pp,a,g⟩::rest) fr st Q:=by
 refine aa.go hg rfl (d:=.ptr st.bs.length 0 0) (st1:=st.push (.mem 0 false cs)) ?_ (hp _) (h _ _ hH.len (hH.pL _));simp only[dQ,hz,Option.map_some]
theorem aa.w7 {t e:TypeId} {lo co:Operand} {k1 k2:IntKind} {m:Nat} {inf:TypeInfo} {z:List D} {s:Nat} {aK:Nat→Fr} (hH:Has N S st H) (hg:aI ops fr ⟨some dst,.makeSlice t lo co,ty,pp,a,g⟩=some true)
  (hl:fr.ev lo=.int k1 (m:Nat)) (hc:fr.ev co=.int k2 (m:Nat)) (ht:P.cL t=some (.slice e)) (hi:P.info e=some inf) (hz:dD P e=some z) (hsz:inf.size=s) (lY:z.length=s) (hmb:inf.bytes≤1024) (jy:m≤1073741824) (hp:∀k,fr.put dst (.win k 0 0 m s)=aK k)
  (h:∀k ah,S.bs.length≤k→Has N S ah (.aM (.win k 0 0 m s) s (List.replicate m z)::H)→aa P ops rest (aK k) ah Q):aa P ops (⟨some dst,.makeSlice t lo co,ty,pp,a,g⟩::rest) fr st Q:=by
 have hm:m*inf.bytes≤140737488355328:=Nat.le_trans (Nat.mul_le_mul jy hmb) (by decide);subst hsz;refine aa.go hg rfl (d:=.win st.bs.length 0 0 m inf.size) (st1:=st.push (.mem 0 true (eV m z))) ?_ (hp _) (h _ _ hH.len (hH.uz (by simp) rfl (fun e he=>by rw[List.eq_of_mem_replicate he];exact lY)));simp only[dQ,hl,hc,gG,ht,hi,hz,Option.bind_some];rw[if_pos ⟨lY,by omega,by omega,by omega,by rw[←Int.natCast_mul];omega⟩]
 rfl
theorem Has.append {j:Nat} {x y:D} {s:Nat} {es ys:List (List D)} (hH:Has N S st H) (hj:H[j]?=some (.aM x s es)) (hy:Rows st s y ys) {t1 t2 e:TypeId} {td:TypeDesc} {inf:TypeInfo} {z:List D}
  (h1:P.cL t1=some (.slice e)) (h2:P.cL t2=some td) (h3:gJ td=false) (h4:P.info e=some inf) (h5:dD P e=some z) (h6:inf.size=s) (h7:z.length=s) (h8:0<inf.bytes∧inf.bytes≤1024)
  (oI:es.length+ys.length≤1073741824) (hw:S.flr≤N∨refs ys.flatten=0):
  ∃x' ah,bG P .append [t1,t2] [x,y] st=some (x',ah)∧Has N S ah (H.set j (.aM x' s (es++ys)))∧(ys=[]→x'=x):=by
 have hb:(es.length+ys.length)*inf.bytes≤1099511627776:=Nat.le_trans (Nat.mul_le_mul oI h8.2) (by decide);have kK:=hy.row
 have DA:∀e∈ys,e.length=s:=fun e he=>by
  obtain⟨i,hi⟩:=List.getElem?_of_mem he;exact hy.vg i e hi
 have px:=c_ DA;have hown:=hH.own hj;have hkk:=(hH.ok j _ hj).2;have hS:=hH.len;have hNS:=hH.hN;subst h6;simp only[bG,iz,h1,h2,h3,Bool.false_eq_true,if_false,h4,h5,kK,Option.bind_some];rw[if_neg (by rintro(h|h|h);exact h px;exact absurd h (by omega);exact h h7)]
 have hU:∀e,H[j]?=some e→H.set j e=H:=fun e he=>by
  apply List.ext_getElem?;intro i
  by_cases hij:i=j
  ·subst hij
   have:i<H.length:=by
    rcases Nat.lt_or_ge i H.length with h'|h'
    ·exact h'
    ·rw[List.getElem?_eq_none h'] at he;cases he
   rw[List.getElem?_set_self this,he]
  ·rw[List.getElem?_set_ne (fun e=>hij e.symm)]
 cases hown with
 |nul=>
  simp only[List.nil_append]
  by_cases h0:ys.length=0
  ·rw[if_pos h0]
   have:ys=[]:=by cases ys with|nil=>rfl|cons _ _=>simp at h0
   subst this;exact⟨.nul,st,rfl,by rw[hU _ hj];exact hH,fun _=>rfl⟩
  ·rw[if_neg h0,if_pos (by simpa using hb)];refine⟨_,_,rfl,?_,fun e=>absurd (by rw[e];rfl) h0⟩;refine hH.sH hj (fun k hk _=>by simp only[St.push];rw[List.getElem?_append_left hk]) (by simp[St.push]) rfl rfl ?_ (fun k hk=>?_) fun k hk=>?_
   ·exact ia.win _ 0 0 ys ys.flatten (ke st _) (by rw[px];omega) (by rw[List.drop_zero,←px,List.take_length]) DA
   ·simp only[bC.aM,D.ref] at hk;right;omega
   ·simp only[bC.aM,D.ref] at hk;simp only[St.push,List.length_append,List.length_cons,List.length_nil];omega
 |win k aD off es c hm hl hc he=>
  have hk:=hkk k (by simp only[bC.aM,D.ref]);simp only[St.mem_of hm];rw[if_neg (by rintro(h|h);exact h rfl;omega)]
  by_cases h0:ys.length=0
  ·rw[if_pos h0]
   have:ys=[]:=by cases ys with|nil=>rfl|cons _ _=>simp at h0
   subst this;simp only[List.append_nil];exact⟨_,st,rfl,by rw[hU _ hj];exact hH,fun _=>rfl⟩
  ·rw[if_neg h0,if_pos ⟨hb,jW hH hk.1 hw⟩];refine⟨_,_,rfl,?_,fun e=>absurd (by rw[e];rfl) h0⟩;have yM:es.length+ys.length=(es++ys).length:=by simp
   have iE:(c.take (off+es.length*inf.size)).drop off=es.flatten:=by rw[List.drop_take,←hc];congr 1;omega
   rw[yM,iE];refine hH.sH hj (fun n hn hne=>by simp only;rw[List.getElem?_set_ne (fun e=>hne (by simp only[bC.aM,D.ref];omega))]) (by simp) rfl rfl ?_ (fun n hn=>?_) fun n hn=>?_
   ·have vw:∀e∈es++ys,e.length=inf.size:=fun e h=>by
     rcases List.mem_append.1 h with h|h
     ·exact he e h
     ·exact DA e h
    have TE:=c_ vw;refine ia.win k (aD+1) 0 (es++ys) (es++ys).flatten ?_ (by rw[TE];omega) (by rw[List.drop_zero,←TE,List.take_length]) vw;simp only;rw[List.getElem?_set_self hk.2,List.flatten_append]
   ·simp only[bC.aM,D.ref] at hn⊢;left;omega
   ·simp only[bC.aM,D.ref] at hn;simp only[List.length_set];omega
theorem aa.bP {j:Nat} {x y:D} {s:Nat} {es ys:List (List D)} {t1 t2 e:TypeId} {td:TypeDesc} {inf:TypeInfo} {z:List D} {xo yo:Operand} {aK:D→Fr} (hH:Has N S st H) (hg:aI ops fr ⟨some dst,.call ⟨.builtin .append,#[xo,yo],#[t1,t2]⟩,ty,pp,a,g⟩=some true)
  (hx:fr.ev xo=x) (hy:fr.ev yo=y) (hj:H[j]?=some (.aM x s es)) (kN:Rows st s y ys)
  (h1:P.cL t1=some (.slice e)) (h2:P.cL t2=some td) (h3:gJ td=false) (h4:P.info e=some inf) (h5:dD P e=some z) (h6:inf.size=s) (h7:z.length=s) (h8:0<inf.bytes∧inf.bytes≤1024)
  (hp:∀x',fr.put dst x'=aK x') (hb:es.length+ys.length≤1073741824) (hw:S.flr≤N∨refs ys.flatten=0)
  (h:∀x' ah,Has N S ah (H.set j (.aM x' s (es++ys)))→aa P ops rest (aK x') ah Q):
  aa P ops (⟨some dst,.call ⟨.builtin .append,#[xo,yo],#[t1,t2]⟩,ty,pp,a,g⟩::rest) fr st Q:=by
 obtain⟨x',ah,q1,q2,q3⟩:=hH.append hj kN h1 h2 h3 h4 h5 h6 h7 h8 hb hw;refine aa.go hg rfl (d:=x') (st1:=ah) ?_ (hp _) (h x' ah q2);simp only[dQ,List.map_cons,List.map_nil,hx,hy];exact q1
theorem aa.D7 {j:Nat} {x y:D} {s:Nat} {es ys:List (List D)} {t1 t2 e:TypeId} {td:TypeDesc} {inf:TypeInfo} {z:List D} {xo yo:Operand} {aK:D→Fr} (hH:Has N S st H) (hg:aI ops fr ⟨some dst,.call ⟨.builtin .append,#[xo,yo],#[t1,t2]⟩,ty,pp,a,g⟩=some true)
  (hx:fr.ev xo=x) (hy:fr.ev yo=y) (hj:H[j]?=some (.aM x s es)) (kN:Rows st s y ys)
  (h1:P.cL t1=some (.slice e)) (h2:P.cL t2=some td) (h3:gJ td=false) (h4:P.info e=some inf) (h5:dD P e=some z) (h6:inf.size=s) (h7:z.length=s) (h8:0<inf.bytes∧inf.bytes≤1024)
  (hp:∀x',fr.put dst x'=aK x') (hb:es.length+ys.length≤1073741824) (hw:S.flr≤N∨refs ys.flatten=0)
  (h:∀x' ah,(ys=[]→x'=x)→Has N S ah (H.set j (.aM x' s (es++ys)))→aa P ops rest (aK x') ah Q):
  aa P ops (⟨some dst,.call ⟨.builtin .append,#[xo,yo],#[t1,t2]⟩,ty,pp,a,g⟩::rest) fr st Q:=by
 obtain⟨x',ah,q1,q2,q3⟩:=hH.append hj kN h1 h2 h3 h4 h5 h6 h7 h8 hb hw;refine aa.go hg rfl (d:=x') (st1:=ah) ?_ (hp _) (h x' ah q3 q2);simp only[dQ,List.map_cons,List.map_nil,hx,hy];exact q1
theorem aa.iL {t e:TypeId} {xo:Operand} {x:D} {s:Nat} {es:List (List D)} (hg:aI ops fr ⟨some dst,.call ⟨.builtin .len,#[xo],#[t]⟩,ty,pp,a,g⟩=some true) (hx:fr.ev xo=x) (hR:Rows st s x es) (ht:P.cL t=some (.slice e)) (hp:fr.put dst (.int .i64 (es.length:Nat))=aK)
  (h:aa P ops rest aK st Q):aa P ops (⟨some dst,.call ⟨.builtin .len,#[xo],#[t]⟩,ty,pp,a,g⟩::rest) fr st Q:=by
 refine aa.go hg rfl (d:=.int .i64 (es.length:Nat)) (st1:=st) ?_ hp h;simp only[dQ,List.map_cons,List.map_nil,hx];exact hR.Me ht
theorem aa.kQ {t:TypeId} {xo:Operand} {b:List UInt8} (hg:aI ops fr ⟨some dst,.call ⟨.builtin .len,#[xo],#[t]⟩,ty,pp,a,g⟩=some true) (hx:fr.ev xo=.str b) (ht:P.cL t=some .string) (hp:fr.put dst (.int .i64 (b.length:Nat))=aK)
  (h:aa P ops rest aK st Q):aa P ops (⟨some dst,.call ⟨.builtin .len,#[xo],#[t]⟩,ty,pp,a,g⟩::rest) fr st Q:=by
 refine aa.go hg rfl (d:=.int .i64 (b.length:Nat)) (st1:=st) ?_ hp h;simp only[dQ,List.map_cons,List.map_nil,hx,bG,ht]
theorem aa.vZ {t e:TypeId} {xo io:Operand} {x:D} {s i:Nat} {kk:IntKind} {es:List (List D)} {r:List D} {aK:D→Fr} (hg:aI ops fr ⟨some dst,.indexAddr t xo io,ty,pp,a,g⟩=some true) (hx:fr.ev xo=x) (hi:fr.ev io=.int kk (i:Nat)) (hR:Rows st s x es) (ht:P.cL t=some (.slice e)) (hs:cn P e=some s) (hr:es[i]?=some r) (hp:∀p,fr.put dst p=aK p)
  (h:∀p,jD st p r→aa P ops rest (aK p) st Q):aa P ops (⟨some dst,.indexAddr t xo io,ty,pp,a,g⟩::rest) fr st Q:=by
 obtain⟨p,h1,h2⟩:=hR.VE ht hs (k:=kk) hr;refine aa.go hg rfl (d:=p) (st1:=st) ?_ (hp p) (h p h2);simp only[dQ,hx,hi,h1,Option.map_some]
theorem aa.PS {t:TypeId} {xo:Operand} {x:D} {r:List D} {f m:Nat} {fields:Array Field} {fd:Field} {aK:D→Fr} (hg:aI ops fr ⟨some dst,.fieldAddr t xo f,ty,pp,a,g⟩=some true) (hx:fr.ev xo=x) (hR:jD st x r) (ht:P.cL t=some (.struct fields)) (hf:fields[f]?=some fd) (hm:cn P fd.type=some m) (jy:m≠0) (hp:∀p,fr.put dst p=aK p)
  (h:∀p,jD st p (r.drop fd.offset)→aa P ops rest (aK p) st Q):aa P ops (⟨some dst,.fieldAddr t xo f,ty,pp,a,g⟩::rest) fr st Q:=by
 obtain⟨p,h1,h2⟩:=hR.field ht hf hm jy;refine aa.go hg rfl (d:=p) (st1:=st) ?_ (hp p) (h p h2);simp only[dQ,hx,h1,Option.map_some]
theorem aa.cU {t:TypeId} {ao:Operand} {x d:D} {r:List D} (hg:aI ops fr ⟨some dst,.load t ao,ty,pp,a,g⟩=some true) (ha:fr.ev ao=x) (hR:jD st x r) (hd:dR P t r=some d) (hp:fr.put dst d=aK)
  (h:aa P ops rest aK st Q):aa P ops (⟨some dst,.load t ao,ty,pp,a,g⟩::rest) fr st Q:=by
 refine aa.go hg rfl (d:=d) (st1:=st) ?_ hp h;simp only[dQ,ha,hR.load hd,Option.map_some]
theorem aa.ym {t e:TypeId} {xo io:Operand} {x:D} {s i j:Nat} {kk:IntKind} {es:List (List D)} {aK:D→Fr} (hH:Has N S st H) (hg:aI ops fr ⟨some dst,.indexAddr t xo io,ty,pp,a,g⟩=some true) (hx:fr.ev xo=x) (hi:fr.ev io=.int kk (i:Nat)) (hj:H[j]?=some (.aM x s es)) (ht:P.cL t=some (.slice e)) (hs:cn P e=some s) (hr:i<es.length) (hp:∀p,fr.put dst p=aK p)
  (h:∀p,pB x s i 0 p→aa P ops rest (aK p) st Q):aa P ops (⟨some dst,.indexAddr t xo io,ty,pp,a,g⟩::rest) fr st Q:=by
 have hown:=hH.own hj
 cases hown with
 |nul=>simp at hr
 |win k aD off es c hm hl hc he=>
  refine aa.go hg rfl (d:=.ptr k aD (off+i*s)) (st1:=st) ?_ (hp _) (h _ ⟨k,aD,off,_,rfl,rfl⟩);simp only[dQ,hx,hi,b6,ht,hs,Option.bind_some,St.mem_of hm,Option.isSome_some];rw[if_pos ⟨trivial,by omega,by omega,trivial⟩];rfl
theorem aa.P0 {t:TypeId} {xo:Operand} {x y:D} {s i o:Nat} {f m:Nat} {fields:Array Field} {fd:Field} {aK:D→Fr} (hg:aI ops fr ⟨some dst,.fieldAddr t xo f,ty,pp,a,g⟩=some true) (hx:fr.ev xo=y) (hR:pB x s i o y) (ht:P.cL t=some (.struct fields)) (hf:fields[f]?=some fd) (hm:cn P fd.type=some m) (jy:m≠0) (hp:∀p,fr.put dst p=aK p)
  (h:∀p,pB x s i (o+fd.offset) p→aa P ops rest (aK p) st Q):aa P ops (⟨some dst,.fieldAddr t xo f,ty,pp,a,g⟩::rest) fr st Q:=by
 obtain⟨k,aD,off,len,h1,h2⟩:=hR;refine aa.go hg rfl (d:=.ptr k aD (off+i*s+(o+fd.offset))) (st1:=st) ?_ (hp _) (h _ ⟨k,aD,off,len,h1,rfl⟩);simp only[dQ,hx,h2,eS,ht,hf,Option.bind_some,hm];rw[if_neg (by simp only[Option.some.injEq];exact jy),←Nat.add_assoc];rfl
theorem aa.c7 {t:TypeId} {ao:Operand} {x y d:D} {s i o j:Nat} {es:List (List D)} {r:List D} (hH:Has N S st H) (hg:aI ops fr ⟨some dst,.load t ao,ty,pp,a,g⟩=some true) (ha:fr.ev ao=y) (hR:pB x s i o y) (hj:H[j]?=some (.aM x s es)) (hr:es[i]?=some r) (hd:dR P t (r.drop o)=some d) (hp:fr.put dst d=aK)
  (h:aa P ops rest aK st Q):aa P ops (⟨some dst,.load t ao,ty,pp,a,g⟩::rest) fr st Q:=by
 obtain⟨k,aD,off,len,rfl,rfl⟩:=hR;have hown:=hH.own hj
 cases hown with
 |win k aD off es c hm hl hc he=>
  refine aa.go hg rfl (d:=d) (st1:=st) ?_ hp h;have h1:=lZ he i r hr
  have hil:i<es.length:=by
   rcases Nat.lt_or_ge i es.length with h'|h'
   ·exact h'
   ·rw[List.getElem?_eq_none h'] at hr;cases hr
  have h2:(i+1)*s≤es.length*s:=Nat.mul_le_mul_right s hil;rw[Nat.add_mul,Nat.one_mul] at h2;rw[←hc,List.drop_take,List.take_take,List.drop_drop,Nat.min_eq_left (by omega)] at h1;have pt:=he r (List.mem_of_getElem? hr);simp only[dQ,ha,gx,St.mem_of hm,Option.bind_some];rw[lH (r:=r.drop o) ?_ hd];rfl;rw[List.length_drop,pt,←h1,List.drop_take,List.drop_drop]
theorem aa.iO {t:TypeId} {ao vo:Operand} {x y v:D} {s i o j:Nat} {es:List (List D)} {r cs:List D} (hH:Has N S st H) (hg:aI ops fr ⟨none,.store t ao vo,ty,pp,a,g⟩=some true) (ha:fr.ev ao=y) (hv:fr.ev vo=v) (hR:pB x s i o y) (iS:v.cells?=some cs) (hs:cn P t=some cs.length) (hj:H[j]?=some (.aM x s es)) (hr:es[i]?=some r) (hl:o+cs.length≤s) (hw:S.flr≤N∨refs cs=0)
  (h:∀ah,Has N S ah (H.set j (.aM x s (es.set i (setMany r o cs))))→aa P ops rest fr ah Q):aa P ops (⟨none,.store t ao vo,ty,pp,a,g⟩::rest) fr st Q:=by
 obtain⟨k,aD,off,len,rfl,rfl⟩:=hR;obtain⟨ah,h1,h2⟩:=hH.zQ hj hr hl hw;refine aa.N hg rfl (d:=.tup []) (st1:=ah) ?_ (h _ h2);simp only[dQ,ha,hv,kP,iS,hs,if_pos trivial,h1];rfl
theorem aa.MG {t e:TypeId} {xo:Operand} {lo hi:Option Operand} {x:D} {s:Nat} {es:List (List D)} {l r:Nat} {aK:D→Fr} (hg:aI ops fr ⟨some dst,.slice t xo lo hi none,ty,pp,a,g⟩=some true) (hx:fr.ev xo=x) (hR:Arg N S s x es) (hH:Has N S st H) (ht:P.cL t=some (.slice e)) (hs:cn P e=some s)
  (hb:cv es.length (lo.map fr.ev) (hi.map fr.ev)=some (l,r)) (u7:l≤r∧r≤es.length) (hp:∀y,fr.put dst y=aK y)
  (h:∀y,Arg N S s y ((es.take r).drop l)→aa P ops rest (aK y) st Q):aa P ops (⟨some dst,.slice t xo lo hi none,ty,pp,a,g⟩::rest) fr st Q:=by
 obtain⟨y,h1,h2,h3⟩:=hR.1.slice ht hs hb u7;refine aa.go hg rfl (d:=y) (st1:=st) ?_ (hp y) (h y ⟨h2,Nat.le_trans h3 hR.2⟩)
 have:fh P t x (lo.map fr.ev) (hi.map fr.ev) st=fh P t x (lo.map fr.ev) (hi.map fr.ev) S:=by
  have:=hR.1;cases this<;>simp only[fh,ht]
 simp only[dQ,hx,this,h1,Option.map_some]
theorem aa.uB {t e:TypeId} {xo:Operand} {lo hi:Option Operand} {x:D} {s j:Nat} {es:List (List D)} {l r:Nat} {aK:D→Fr} (hH:Has N S st H) (hg:aI ops fr ⟨some dst,.slice t xo lo hi none,ty,pp,a,g⟩=some true) (hx:fr.ev xo=x) (hj:H[j]?=some (.aM x s es)) (ht:P.cL t=some (.slice e)) (hs:cn P e=some s)
  (hb:cv es.length (lo.map fr.ev) (hi.map fr.ev)=some (l,r)) (u7:l≤r∧r≤es.length) (hp:∀y,fr.put dst y=aK y)
  (h:∀y,Has N S st (H.set j (.aM y s ((es.take r).drop l)))→aa P ops rest (aK y) st Q):aa P ops (⟨some dst,.slice t xo lo hi none,ty,pp,a,g⟩::rest) fr st Q:=by
 have hown:=hH.own hj
 cases hown with
 |nul=>
  simp only[List.length_nil] at hb u7
  have hy:Has N S st (H.set j (.aM .nul s (([].take r).drop l))):=by
   refine hH.sH hj (fun _ _ _=>rfl) (Nat.le_refl _) rfl rfl (by simp;exact .nul) (fun k hk=>.inl hk) fun k hk=>by simp only[bC.aM,D.ref] at hk;omega
  refine aa.go hg rfl (d:=.nul) (st1:=st) ?_ (hp _) (h _ hy);simp only[dQ,hx,fh,ht,hs,Option.bind_some,hb,Option.map_some]
 |win k aD off es c hm hl hc he=>
  have hlen:((es.take r).drop l).length=r-l:=by simp;omega
  have h1:l*s+(r-l)*s≤es.length*s:=by rw[←Nat.add_mul];exact Nat.mul_le_mul_right s (by omega)
  have hk:=(hH.ok j _ hj).2 k (by simp only[bC.aM,D.ref])
  have hy:Has N S st (H.set j (.aM (.win k aD (off+l*s) (r-l) s) s ((es.take r).drop l))):=by
   refine hH.sH hj (fun _ _ _=>rfl) (Nat.le_refl _) rfl rfl ?_ (fun k' ky=>.inl ?_) fun k' ky=>?_
   ·have:=ia.win (st:=st) (s:=s) k aD (off+l*s) ((es.take r).drop l) c hm (by rw[hlen];omega) ?_ (fun e pS=>he e (List.mem_of_mem_take (List.mem_of_mem_drop pS)))
    ·rw[hlen] at this;exact this
    ·rw[hlen];have px:=c_ he
     have e1:∀n,n≤es.length→(es.take n).flatten=es.flatten.take (n*s):=by
      intro n hn;have:es.flatten=(es.take n).flatten++(es.drop n).flatten:=by rw[←List.flatten_append,List.take_append_drop]
      rw[this,List.take_left'];rw[c_ (s:=s) (fun e pS=>he e (List.mem_of_mem_take pS)),List.length_take,Nat.min_eq_left hn]
     have e2:((es.take r).drop l).flatten=(es.take r).flatten.drop (l*s):=by
      have h2:(es.take r).flatten=((es.take r).take l).flatten++((es.take r).drop l).flatten:=by rw[←List.flatten_append,List.take_append_drop]
      rw[h2,List.drop_left'];rw[c_ (s:=s) (fun e pS=>he e (List.mem_of_mem_take (List.mem_of_mem_take pS))),List.length_take,List.length_take,Nat.min_eq_left (by omega)]
     rw[e2,e1 r u7.2,←hc,List.take_take,List.drop_take,List.drop_drop,Nat.sub_mul]
     congr 1
     have:r*s≤es.length*s:=Nat.mul_le_mul_right s u7.2;rw[Nat.min_eq_left this]
   ·simp only[bC.aM,D.ref] at ky⊢;exact ky
   ·simp only[bC.aM,D.ref] at ky;omega
  refine aa.go hg rfl (d:=.win k aD (off+l*s) (r-l) s) (st1:=st) ?_ (hp _) (h _ hy);simp only[dQ,hx,fh,ht,hs,Option.bind_some,hb,if_true,Option.map_some]
theorem aa.D2 {s t e:TypeId} {xo:Operand} {b:List UInt8} {aK:Nat→Fr} (hH:Has N S st H) (hg:aI ops fr ⟨some dst,.convert s t xo,ty,pp,a,g⟩=some true) (hx:fr.ev xo=.str b) (h1:P.cL s=some .string) (h2:P.cL t=some (.slice e)) (h3:P.cL e=some (.int .u8)) (hl:b.length<1099511627776) (hp:∀k,fr.put dst (.win k 0 0 b.length 1)=aK k)
  (h:∀k ah,S.bs.length≤k→Has N S ah (.aM (.win k 0 0 b.length 1) 1 (byteCells b)::H)→aa P ops rest (aK k) ah Q):aa P ops (⟨some dst,.convert s t xo,ty,pp,a,g⟩::rest) fr st Q:=by
 have hc:∀b:List UInt8,(byteCells b).flatten=b.map fun y=>.int .u8 (y.toNat:Nat):=by
  intro b
  induction b with
  |nil=>rfl
  |cons y b ih=>simp only[byteCells,List.map_cons,List.flatten_cons] at ih⊢;rw[ih];rfl
 refine aa.go hg rfl (d:=.win st.bs.length 0 0 b.length 1) (st1:=st.push (.mem 0 true (b.map fun y=>.int .u8 (y.toNat:Nat)))) ?_ (hp _) (h _ _ hH.len (hH.uz (by simp[byteCells]) (hc b) (fun e he=>by obtain⟨y,_,rfl⟩:=List.mem_map.1 he;rfl)));simp only[dQ,hx,rW,h1,h2,h3,if_pos hl]
theorem aa.fc {f:Operand} {gn:Nat} {jB:List D} {args:Array Operand} {vE:Array TypeId} {d:D} {st1:St} (hg:aI ops fr ⟨some dst,.call ⟨.value f,args,vE⟩,ty,pp,a,g⟩=some true) (hf:fr.ev f=.fn gn jB)
  (h1:Ev P gn (args.toList.map fr.ev++jB) st d st1) (hp:fr.put dst d=aK)
  (h:aa P ops rest aK st1 Q):aa P ops (⟨some dst,.call ⟨.value f,args,vE⟩,ty,pp,a,g⟩::rest) fr st Q:=
 aa.call hg hf h1 (by show aa P ops rest (fr.put dst d) st1 Q;rw[hp];exact h)
theorem mY {m:Mode} {kn:Bool} {st st1:St} {d d':D} (hm:m≠.aW∧m≠.nw) (hS:S.bs=st.bs) (hH:Has st.bs.length S st1 H) (hd:bw st1 st.bs.length kn 16 d=some d'):cX m kn st st1 d=some (d',st):=
 bO hm ((hH.ex.take (by rw[hS])).trans hS) hd
theorem Has.freeze {j:Nat} {x:D} {s:Nat} {es:List (List D)} (hH:Has N S st H) (hj:H[j]?=some (.aM x s es)) (hp:∀e∈es,∀d∈e,cy d=true) {n:Nat} (hn:2≤n):bw st N false (n+1) x=some (.sl (es.map (kH s))):=by
 obtain⟨n,rfl⟩:∃m,n=m+2:=⟨n-2,by omega⟩
 have hown:=hH.own hj;have hkk:=(hH.ok j _ hj).2
 cases hown with
 |nul=>rfl
 |win k aD off es c hm hl hc he=>
  have hk:=hkk k (by simp only[bC.aM,D.ref]);show(if k<N then some (D.win k aD off es.length s) else e6 st N (n+2) (.win k aD off es.length s))=_;rw[if_neg (show¬k<N by omega),e6];simp only[if_neg (show¬k<N by omega),St.mem_of hm,Option.bind_some]
  rw[if_pos hl,hc,kj (fun d hd=>by
   obtain⟨e,pS,As⟩:=List.mem_flatten.1 hd
   exact hp e pS d As)]
  simp only[Option.map_some,gL he]
end Go.V
namespace Go.V
variable{P:Pv} {ops:Array Oper} {rest:List Oper} {fr aK:Fr} {st:St} {Q:Fr→St→Prop} {ty:TypeId} {pp:String} {a:Array Edge} {g:Option (Nat×Bool)} {dst:Nat}
theorem aC {o:Oper} {j t:Nat} {w v:Bool} (h1:o.guard=some (j,w)) (h2:(ops[j]?).bind (·.dst)=some t) (h3:fr.get t=.bool v) (h4:v=w):aI ops fr o=some true:=by
 unfold aI;simp only[h1,h2,h3,h4,beq_self_eq_true]
theorem fR {o:Oper} {j t:Nat} {w v:Bool} (h1:o.guard=some (j,w)) (h2:(ops[j]?).bind (·.dst)=some t) (h3:fr.get t=.bool v) (h4:v=!w):aI ops fr o=some false:=by
 unfold aI;simp only[h1,h2,h3,h4];cases w<;>rfl
theorem aa.skip {op:Op} (hg:aI ops fr ⟨some dst,op,ty,pp,a,g⟩=some false) (hp:fr.put dst (.tup [])=aK)
  (h:aa P ops rest aK st Q):aa P ops (⟨some dst,op,ty,pp,a,g⟩::rest) fr st Q:=
 aa.off hg (by show aa P ops rest (fr.put dst _) st Q;rw[hp];exact h)
theorem aa.two {l:List Oper} (t:Nat) {v:Bool} (hv:fr.get t=.bool v) (h1:v=true→aa P ops l fr st Q) (h2:v=false→aa P ops l fr st Q):aa P ops l fr st Q:=by
 cases v
 ·exact h2 rfl
 ·exact h1 rfl
theorem aa.dU {c x y:Operand} {v:Bool} (hg:aI ops fr ⟨some dst,.pick c x y,ty,pp,a,g⟩=some true) (hc:fr.ev c=.bool v) (hv:v=true) (hp:fr.put dst (fr.ev x)=aK)
  (h:aa P ops rest aK st Q):aa P ops (⟨some dst,.pick c x y,ty,pp,a,g⟩::rest) fr st Q:=
 aa.go hg rfl (by simp only[dQ,hc,hv]) hp h
theorem aa.dr {c x y:Operand} {v:Bool} (hg:aI ops fr ⟨some dst,.pick c x y,ty,pp,a,g⟩=some true) (hc:fr.ev c=.bool v) (hv:v=false) (hp:fr.put dst (fr.ev y)=aK)
  (h:aa P ops rest aK st Q):aa P ops (⟨some dst,.pick c x y,ty,pp,a,g⟩::rest) fr st Q:=
 aa.go hg rfl (by simp only[dQ,hc,hv]) hp h
theorem ag.cut {dy:Dy} {i:Nat} {l:List Oper} {d n loc Sp tmp st} {Q:Out→Fr→St→Prop} (t:Nat) (v:D)
  (h1:aa P l.toArray l ⟨n,loc,[]⟩ st fun aK ah=>∃tmp,aK=⟨n,Sp,tmp⟩∧ah=st∧look t tmp=v) (h2:∀tmp,look t tmp=v→Q .next ⟨n,Sp,tmp⟩ st) (h0:gH i dy=[]:=by rfl):ag P dy (.region i l.toArray d) ⟨n,loc,tmp⟩ st Q:=by
 refine ag.ct ?_ h0;unfold aa at h1⊢;obtain⟨aK,ah,h3,MB,rfl,rfl,h4⟩:=h1;exact⟨_,_,h3,h2 _ h4⟩
theorem gM {len n:Nat} {k:IntKind} (h:n≤len):cv len none (some (.int k (n:Nat)))=some (0,n):=by
 simp only[cv,gR,jC];rw[if_pos ⟨by omega,by omega⟩];rfl
theorem wrap_i32 {n : Int} (h1 : -2147483648 ≤ n) (h2 : n ≤ 2147483647) : cp .i32 n = n := by
  cases n with
  | ofNat m => exact ek (k := .i32) (m := m) (by simp only [kY]; have : (Int.ofNat m) = (m : Int) := rfl; omega)
  | negSucc m =>
    unfold cp
    have : Nat.ble (uI .i32) m = false := by
      cases hb : Nat.ble (uI .i32) m with
      | false => rfl
      | true => have := Nat.le_of_ble_eq_true hb; simp only [uI] at this; have : Int.negSucc m = -(m : Int) - 1 := by omega
                omega
    simp only [this]
theorem VP (x y:Int):(if y>x then y else x)=max x y:=by split<;>omega
theorem VO (x y:Int):(if y<x then y else x)=min x y:=by split<;>omega
theorem aa.K7 {t1 t2:TypeId} {xo yo:Operand} {k k':IntKind} {x y:Int} {vE:Array TypeId} (hg:aI ops fr ⟨some dst,.call ⟨.builtin .max,#[xo,yo],vE⟩,ty,pp,a,g⟩=some true) (hx:fr.ev xo=.int k x) (hy:fr.ev yo=.int k' y) (hp:fr.put dst (.int k (max x y))=aK)
  (h:aa P ops rest aK st Q):aa P ops (⟨some dst,.call ⟨.builtin .max,#[xo,yo],vE⟩,ty,pp,a,g⟩::rest) fr st Q:=by
 refine aa.go hg rfl (d:=.int k (max x y)) (st1:=st) ?_ hp h;simp only[dQ,List.map_cons,List.map_nil,hx,hy,bG,pb,tq,Option.bind_some,Option.map_some,←VP];rfl
theorem aa.K6 {t1 t2:TypeId} {xo yo:Operand} {k k':IntKind} {x y:Int} {vE:Array TypeId} (hg:aI ops fr ⟨some dst,.call ⟨.builtin .min,#[xo,yo],vE⟩,ty,pp,a,g⟩=some true) (hx:fr.ev xo=.int k x) (hy:fr.ev yo=.int k' y) (hp:fr.put dst (.int k (min x y))=aK)
  (h:aa P ops rest aK st Q):aa P ops (⟨some dst,.call ⟨.builtin .min,#[xo,yo],vE⟩,ty,pp,a,g⟩::rest) fr st Q:=by
 refine aa.go hg rfl (d:=.int k (min x y)) (st1:=st) ?_ hp h;simp only[dQ,List.map_cons,List.map_nil,hx,hy,bG,pb,tq,Option.bind_some,Option.map_some,←VO];rfl
theorem aa.sv {t oT:TypeId} {xo yo:Operand} {x y:Int} (hg:aI ops fr ⟨some dst,.binOp .add t xo yo oT,ty,pp,a,g⟩=some true) (hx:fr.ev xo=.int .i64 x) (hy:fr.ev yo=.int .i64 y) (h1:-9223372036854775808≤x+y) (h2:x+y≤9223372036854775807) (hp:fr.put dst (.int .i64 (x+y))=aK)
  (h:aa P ops rest aK st Q):aa P ops (⟨some dst,.binOp .add t xo yo oT,ty,pp,a,g⟩::rest) fr st Q:=by
 refine aa.go hg rfl (d:=.int .i64 (x+y)) (st1:=st) ?_ hp h;simp only[dQ,hx,hy,oO,wT,if_pos trivial,Option.map_some,wrap_i64 h1 h2]
theorem aa.sx {t oT:TypeId} {xo yo:Operand} {x y:Int} (hg:aI ops fr ⟨some dst,.binOp .add t xo yo oT,ty,pp,a,g⟩=some true) (hx:fr.ev xo=.int .i32 x) (hy:fr.ev yo=.int .i32 y) (h1:-2147483648≤x+y) (h2:x+y≤2147483647) (hp:fr.put dst (.int .i32 (x+y))=aK)
  (h:aa P ops rest aK st Q):aa P ops (⟨some dst,.binOp .add t xo yo oT,ty,pp,a,g⟩::rest) fr st Q:=by
 refine aa.go hg rfl (d:=.int .i32 (x+y)) (st1:=st) ?_ hp h;simp only[dQ,hx,hy,oO,wT,if_pos trivial,Option.map_some,wrap_i32 h1 h2]
theorem aa.mv {op:Op} {x:Operand} {d:D} (gv:op=.move x∨op=.assign x) (hg:aI ops fr ⟨some dst,op,ty,pp,a,g⟩=some true) (hx:fr.ev x=d) (hp:fr.put dst d=aK)
  (h:aa P ops rest aK st Q):aa P ops (⟨some dst,op,ty,pp,a,g⟩::rest) fr st Q:=by
 refine aa.go hg ?_ (d:=d) (st1:=st) ?_ hp h<;>rcases gv with rfl|rfl<;>first|rfl|simp only[dQ,hx]
def mF (P:Pv) (fields:Array Field) (f:Nat):Option (Nat×Option Nat):=(fields[f]?).map fun fd=>(fd.offset,cn P fd.type)
theorem lx {P:Pv} {fields:Array Field} {f fo m:Nat} (h:mF P fields f=some (fo,some m)):∃fd,fields[f]?=some fd∧fd.offset=fo∧cn P fd.type=some m:=by
 unfold mF at h;obtain⟨fd,h1,h2⟩:=Option.map_eq_some_iff.1 h;simp only[Prod.mk.injEq] at h2;exact⟨fd,h1,h2.1,h2.2⟩
theorem aa.cz {t:TypeId} {xo:Operand} {k aD off o f fo m:Nat} {fields:Array Field} (hg:aI ops fr ⟨some dst,.fieldAddr t xo f,ty,pp,a,g⟩=some true) (hx:fr.ev xo=.ptr k aD off) (ht:P.cL t=some (.struct fields)) (hf:mF P fields f=some (fo,some (m+1))) (ho:off+fo=o) (hp:fr.put dst (.ptr k aD o)=aK)
  (h:aa P ops rest aK st Q):aa P ops (⟨some dst,.fieldAddr t xo f,ty,pp,a,g⟩::rest) fr st Q:=by
 obtain⟨fd,h1,h2,h3⟩:=lx hf;subst ho;refine aa.go hg rfl (d:=.ptr k aD (off+fo)) (st1:=st) ?_ hp h;simp only[dQ,hx,eS,ht,h1,Option.bind_some,h3,h2];rw[if_neg (by simp)];rfl
theorem aa.KM {t:TypeId} {xo:Operand} {x:D} {r:List D} {f fo m:Nat} {fields:Array Field} {aK:D→Fr} (hg:aI ops fr ⟨some dst,.fieldAddr t xo f,ty,pp,a,g⟩=some true) (hx:fr.ev xo=x) (hR:jD st x r) (ht:P.cL t=some (.struct fields)) (hf:mF P fields f=some (fo,some (m+1))) (hp:∀p,fr.put dst p=aK p)
  (h:∀p,jD st p (r.drop fo)→aa P ops rest (aK p) st Q):aa P ops (⟨some dst,.fieldAddr t xo f,ty,pp,a,g⟩::rest) fr st Q:=by
 obtain⟨fd,h1,h2,h3⟩:=lx hf;exact aa.PS hg hx hR ht h1 h3 (by omega) hp (by rw[h2];exact h)
theorem aa.iq {t:TypeId} {xo:Operand} {x y:D} {s i o o2:Nat} {f fo m:Nat} {fields:Array Field} {aK:D→Fr} (hg:aI ops fr ⟨some dst,.fieldAddr t xo f,ty,pp,a,g⟩=some true) (hx:fr.ev xo=y) (hR:pB x s i o y) (ht:P.cL t=some (.struct fields)) (hf:mF P fields f=some (fo,some (m+1))) (ho:o+fo=o2) (hp:∀p,fr.put dst p=aK p)
  (h:∀p,pB x s i o2 p→aa P ops rest (aK p) st Q):aa P ops (⟨some dst,.fieldAddr t xo f,ty,pp,a,g⟩::rest) fr st Q:=by
 obtain⟨fd,h1,h2,h3⟩:=lx hf;subst ho;exact aa.P0 hg hx hR ht h1 h3 (by omega) hp (by rw[h2];exact h)
theorem vN {c cs:List D} (h:cs.length=c.length):setMany c 0 cs=cs:=by
 rw[gC cs c 0 (by omega),List.take_zero,List.nil_append,Nat.zero_add,h,List.drop_length,List.append_nil]
variable{N:Nat} {S:St} {H:List bC}
theorem aa.gP {j k aD:Nat} {ar:Bool} {c cs:List D} {v:D} {t:TypeId} {ao vo:Operand} (hH:Has N S st H) (hg:aI ops fr ⟨none,.store t ao vo,ty,pp,a,g⟩=some true) (ha:fr.ev ao=.ptr k aD 0) (hv:fr.ev vo=v) (iS:v.cells?=some cs) (hs:cn P t=some cs.length) (hj:H[j]?=some (.box k (.mem aD ar c))) (hl:cs.length=c.length) (hw:S.flr≤N∨refs cs=0)
  (h:∀ah,Has N S ah (H.set j (.box k (.mem aD ar cs)))→aa P ops rest fr ah Q):aa P ops (⟨none,.store t ao vo,ty,pp,a,g⟩::rest) fr st Q:=
 aa.fN hH hg ha hv iS hs hj (by omega) hw (by rw[vN hl];exact h)
theorem tM {place:Nat→Option (Nat×Nat)} {s:Nat} (fU:∀i,place i=some (i*s,s)):∀(vs:List D) (n:Nat) (done rem:List D),done.length=n*s→rem.length=vs.length*s→(∀v∈vs,v.cells?=some v.cells∧v.cells.length=s)→
  ic place (done++rem) (vs.mapIdx fun i v=>(n+i,v))=some (done++(vs.map D.cells).flatten)
 |[],n,done,rem,hd,hr,_=>by
  have:rem=[]:=by cases rem with|nil=>rfl|cons _ _=>simp at hr
  subst this;simp[ic]
 |v::vs,n,done,rem,hd,hr,hv=>by
  obtain⟨h1,h2⟩:=hv v (List.mem_cons_self ..);simp only[List.length_cons,Nat.add_mul,Nat.one_mul] at hr;simp only[List.mapIdx_cons,ic,fU,h1,Nat.add_zero];rw[if_neg (by simp only[h2,ne_eq,not_true_eq_false,List.length_append,false_or];rw[hd,hr];omega)]
  have e1:setMany (done++rem) (n*s) v.cells=(done++v.cells)++rem.drop s:=by
   rw[gC _ _ _ (by simp only[List.length_append];omega),h2,←hd,List.take_left,List.drop_length_add_append]
  have ih:=tM fU vs (n+1) (done++v.cells) (rem.drop s) (by rw[List.length_append,hd,h2,Nat.add_mul,Nat.one_mul]) (by rw[List.length_drop];omega) fun w hw=>hv w (List.mem_cons_of_mem _ hw);rw[e1];have e2:(vs.mapIdx fun i v=>(n+(i+1),v))=vs.mapIdx fun i v=>(n+1+i,v):=by congr 1;funext i v;rw[show n+(i+1)=n+1+i by omega]
  rw[e2,ih];simp[List.append_assoc]
def AA (fr:Fr):Nat→List (Nat×Operand)→List D→Prop
 |_,[],[]=>True
 |n,(i,o)::ps,v::vs=>i=n∧fr.ev o=v∧AA fr (n+1) ps vs
 |_,_,_=>False
theorem xj {fr:Fr}:∀{ps:List (Nat×Operand)} {vs:List D} {n:Nat},AA fr n ps vs→(ps.map fun p=>(p.1,fr.ev p.2))=vs.mapIdx fun i v=>(n+i,v)
 |[],[],_,_=>rfl
 |(i,o)::ps,v::vs,n,h=>by
  obtain⟨h1,h2,h3⟩:=h;have ih:=xj h3;simp only[List.map_cons,List.mapIdx_cons,Nat.add_zero];rw[ih,h1,h2]
  congr 1
  congr 1;funext i v;rw[show n+(i+1)=n+1+i by omega]
 |[],_::_,_,h=>h.elim
 |_::_,[],_,h=>h.elim
theorem aa.Am {t e:TypeId} {m s:Nat} {parts:Array (Nat×Operand)} {z:List D} {vs:List D} {aK:Nat→Fr} (hH:Has N S st H) (hg:aI ops fr ⟨some dst,.buildSlice t m parts,ty,pp,a,g⟩=some true) (ht:P.cL t=some (.slice e)) (hs:cn P e=some s) (hz:dD P e=some z) (lY:z.length=s) (hm:m*s≤16777216)
  (U':AA fr 0 parts.toList vs) (SB:vs.length=m) (hc:∀v∈vs,v.cells?=some v.cells∧v.cells.length=s) (hp:∀k,fr.put dst (.win k 0 0 m s)=aK k)
  (h:∀k ah,S.bs.length≤k→Has N S ah (.aM (.win k 0 0 m s) s (vs.map D.cells)::H)→aa P ops rest (aK k) ah Q):aa P ops (⟨some dst,.buildSlice t m parts,ty,pp,a,g⟩::rest) fr st Q:=by
 have B':=xj U';have hf:=tM (place:=fun i=>some (i*s,s)) (fun _=>rfl) vs 0 [] (eV m z) (by simp) (by simp[eV,SB,lY]) hc
 refine aa.go hg rfl (d:=.win st.bs.length 0 0 m s) (st1:=st.push (.mem 0 true (vs.map D.cells).flatten)) ?_ (hp _) (h _ _ hH.len (hH.uz (by simpa using SB) rfl (fun e he=>by
  obtain⟨v,hv,rfl⟩:=List.mem_map.1 he
  exact(hc v hv).2)))
 simp only[dQ,gT,ht,hs,hz,Option.bind_some];rw[if_pos ⟨lY,hm⟩,B'];simp only[List.nil_append] at hf;rw[hf];rfl
theorem aa.bk {j k aD off m:Nat} {ar:Bool} {c r:List D} {t:TypeId} {ao:Operand} (hH:Has N S st H) (hg:aI ops fr ⟨some dst,.load t ao,ty,pp,a,g⟩=some true) (ha:fr.ev ao=.ptr k aD off) (hj:H[j]?=some (.box k (.mem aD ar c))) (hr:(c.drop off).take m=r) (hd:dR P t r=some (.agg r)) (hm:r.length=m) (hp:fr.put dst (.agg r)=aK)
  (h:aa P ops rest aK st Q):aa P ops (⟨some dst,.load t ao,ty,pp,a,g⟩::rest) fr st Q:=
 aa.dM hH hg ha hj (lH (r:=r) (by rw[hm];exact hr) hd) hp h
theorem bj {α:Type} {l:List α} {i:Nat} {a:α} (h:l[i]?=some a):i<l.length:=by
 rcases Nat.lt_or_ge i l.length with h'|h'
 ·exact h'
 ·rw[List.getElem?_eq_none h'] at h;cases h
theorem aa.dJ {t:TypeId} {ao:Operand} {x:D} {r:List D} (hg:aI ops fr ⟨some dst,.load t ao,ty,pp,a,g⟩=some true) (ha:fr.ev ao=x) (hR:jD st x r) (hd:dR P t r=some (.agg r)) (hp:fr.put dst (.agg r)=aK)
  (h:aa P ops rest aK st Q):aa P ops (⟨some dst,.load t ao,ty,pp,a,g⟩::rest) fr st Q:=aa.cU hg ha hR hd hp h
theorem aa.og {t:TypeId} {ao:Operand} {x y:D} {s i j:Nat} {es:List (List D)} {r:List D} (hH:Has N S st H) (hg:aI ops fr ⟨some dst,.load t ao,ty,pp,a,g⟩=some true) (ha:fr.ev ao=y) (hR:pB x s i 0 y) (hj:H[j]?=some (.aM x s es)) (hr:es[i]?=some r) (hd:dR P t r=some (.agg r)) (hp:fr.put dst (.agg r)=aK)
  (h:aa P ops rest aK st Q):aa P ops (⟨some dst,.load t ao,ty,pp,a,g⟩::rest) fr st Q:=aa.c7 hH hg ha hR hj hr (by rw[List.drop_zero];exact hd) hp h
theorem aa.lE {t oT:TypeId} {xo yo:Operand} {x y z:Int} {k:IntKind} (hg:aI ops fr ⟨some dst,.binOp .add t xo yo oT,ty,pp,a,g⟩=some true) (hx:fr.ev xo=.int k x) (hy:fr.ev yo=.int k y) (hz:cp k (x+y)=z) (hp:fr.put dst (.int k z)=aK)
  (h:aa P ops rest aK st Q):aa P ops (⟨some dst,.binOp .add t xo yo oT,ty,pp,a,g⟩::rest) fr st Q:=by
 refine aa.go hg rfl (d:=.int k z) (st1:=st) ?_ hp h;simp only[dQ,hx,hy,oO,wT,if_pos trivial,Option.map_some,hz]
theorem aa.mO {t oT:TypeId} {xo yo:Operand} {x y z:Int} {k:IntKind} (hg:aI ops fr ⟨some dst,.binOp .sub t xo yo oT,ty,pp,a,g⟩=some true) (hx:fr.ev xo=.int k x) (hy:fr.ev yo=.int k y) (hz:cp k (x-y)=z) (hp:fr.put dst (.int k z)=aK)
  (h:aa P ops rest aK st Q):aa P ops (⟨some dst,.binOp .sub t xo yo oT,ty,pp,a,g⟩::rest) fr st Q:=by
 refine aa.go hg rfl (d:=.int k z) (st1:=st) ?_ hp h;simp only[dQ,hx,hy,oO,wT,if_pos trivial,Option.map_some,hz]
theorem aa.uG {t oT:TypeId} {xo yo:Operand} {x y z:Int} {k:IntKind} (hg:aI ops fr ⟨some dst,.binOp .mul t xo yo oT,ty,pp,a,g⟩=some true) (hx:fr.ev xo=.int k x) (hy:fr.ev yo=.int k y) (hz:cp k (x*y)=z) (hp:fr.put dst (.int k z)=aK)
  (h:aa P ops rest aK st Q):aa P ops (⟨some dst,.binOp .mul t xo yo oT,ty,pp,a,g⟩::rest) fr st Q:=by
 refine aa.go hg rfl (d:=.int k z) (st1:=st) ?_ hp h;simp only[dQ,hx,hy,oO,wT,if_pos trivial,Option.map_some,hz]
theorem aa.Zi {t oT:TypeId} {xo yo:Operand} {x y:D} {b:Bool} (hg:aI ops fr ⟨some dst,.binOp .neq t xo yo oT,ty,pp,a,g⟩=some true) (hx:fr.ev xo=x) (hy:fr.ev yo=y) (hb:oO P .neq t x y=some (.bool b)) (hp:fr.put dst (.bool b)=aK)
  (h:aa P ops rest aK st Q):aa P ops (⟨some dst,.binOp .neq t xo yo oT,ty,pp,a,g⟩::rest) fr st Q:=by
 refine aa.go hg rfl (d:=.bool b) (st1:=st) ?_ hp h;simp only[dQ,hx,hy,hb,Option.map_some]
theorem Ev.iC {f:Nat} {x:Fi} {body:Code} {args:List D} {st:St} {n:Nat} {loc:List D} {EN:D→St→Prop} (hq:lb f P.prm=none) (hf:P.fi f=some x) (hp:x.kf=none) (hb:x.fn.body=some body) (DJ:pad x.nloc args=⟨n,loc,[]⟩)
  (h:ag P x.dyn body ⟨n,loc,[]⟩ (ai x.mode st) fun o fr st1=>(∀i,o≠.exit i)∧∃ds d ah,kc P fr st1 x.fn.results.toList=some ds∧cX x.mode x.knul st st1 (sI ds)=some (d,ah)∧EN d ah):∃d ah,Ev P f args st d ah∧EN d ah:=by
 unfold ag at h;obtain⟨o,aK,st1,hN,ho,ds,d,ah,hr,hl,lq⟩:=h;refine⟨d,ah,Ev.oj hq hf hp hb DJ ?_,lq⟩;unfold ag;exact⟨o,aK,st1,hN,ho,ds,hr,hl⟩
def EP (M:Fr→St→Prop) (Q:Out→Fr→St→Prop):Out→Fr→St→Prop
 | .next,fr,st=>M fr st
 | .exit i,fr,st=>Q (.exit i) fr st
 | .ret,fr,st=>Q .ret fr st
theorem ag.merge {P:Pv} {dy:Dy} {c:Code} {fr:Fr} {st:St} {Q:Out→Fr→St→Prop} (M:Fr→St→Prop) (h1:ag P dy c fr st (EP M Q)) (h2:∀aK ah,M aK ah→Q .next aK ah):ag P dy c fr st Q:=
 h1.mono fun o aK ah h=>by
  cases o with
  |next=>exact h2 _ _ h
  |exit i=>exact h
  |ret=>exact h
theorem aa.EL {t oT:TypeId} {xo yo:Operand} {x y:Nat} (hg:aI ops fr ⟨some dst,.binOp .add t xo yo oT,ty,pp,a,g⟩=some true) (hx:fr.ev xo=.int .i64 (x:Nat)) (hy:fr.ev yo=.int .i64 (y:Nat)) (h2:x+y≤9223372036854775807) (hp:fr.put dst (.int .i64 ((x+y:Nat):Int))=aK)
  (h:aa P ops rest aK st Q):aa P ops (⟨some dst,.binOp .add t xo yo oT,ty,pp,a,g⟩::rest) fr st Q:=
 aa.lE hg hx hy (by rw[wrap_i64 (by omega) (by omega)];rfl) hp h
theorem Ev.E0 {f:Nat} {x:Fi} {body:Code} {args:List D} {st:St} {n:Nat} {loc:List D} {EN:D→Prop} (hq:lb f P.prm=none) (hf:P.fi f=some x) (hp:x.kf=none) (hb:x.fn.body=some body) (DJ:pad x.nloc args=⟨n,loc,[]⟩)
  (h:ag P x.dyn body ⟨n,loc,[]⟩ (ai x.mode st) fun o fr st1=>(∀i,o≠.exit i)∧∃ds d,kc P fr st1 x.fn.results.toList=some ds∧cX x.mode x.knul st st1 (sI ds)=some (d,st)∧EN d):∃d,Ev P f args st d st∧EN d:=by
 unfold ag at h;obtain⟨o,aK,st1,hN,ho,ds,d,hr,hl,lq⟩:=h;refine⟨d,Ev.oj hq hf hp hb DJ ?_,lq⟩;unfold ag;exact⟨o,aK,st1,hN,ho,ds,hr,hl⟩
def aO (loc:List D) (ws:List Nat) (f:Nat→D):List D:=ws.foldl (fun l w=>l.set w (f w)) loc
theorem ag.mH {P:Pv} {dy:Dy} {i:Nat} {l:List Oper} {d n loc tmp st} {Q:Out→Fr→St→Prop} (t:Nat) (v:D) (ws:List Nat)
  (h1:aa P l.toArray l ⟨n,loc,[]⟩ st fun aK ah=>∃f tmp,aK=⟨n,(aO loc ws f).set t v,tmp⟩∧ah=st) (h2:∀f tmp,Q .next ⟨n,(aO loc ws f).set t v,tmp⟩ st) (h0:gH i dy=[]:=by rfl):ag P dy (.region i l.toArray d) ⟨n,loc,tmp⟩ st Q:=by
 refine ag.ct ?_ h0;unfold aa at h1⊢;obtain⟨aK,ah,h3,f,MB,rfl,rfl⟩:=h1;exact⟨_,_,h3,h2 _ _⟩
theorem ag.kD {P:Pv} {dy:Dy} {i:Nat} {l:List Oper} {d n loc tmp st} {Q:Out→Fr→St→Prop} (t:Nat) (v:D) (ws:List Nat)
  (h1:aa P l.toArray l ⟨n,loc,[]⟩ st fun aK ah=>∃f tmp,aK=⟨n,aO loc ws f,tmp⟩∧ah=st∧look t tmp=v) (h2:∀f tmp,look t tmp=v→Q .next ⟨n,aO loc ws f,tmp⟩ st) (h0:gH i dy=[]:=by rfl):ag P dy (.region i l.toArray d) ⟨n,loc,tmp⟩ st Q:=by
 refine ag.ct ?_ h0;unfold aa at h1⊢;obtain⟨aK,ah,h3,f,MB,rfl,rfl,h4⟩:=h1;exact⟨_,_,h3,h2 _ _ h4⟩
theorem bc {n:Nat} {L loc:List D} {ug:List (Nat×D)} {ws:List Nat} {t:Nat} {v:D} {st:St} (h:L=(aO loc ws (fun k=>nth .bD L k)).set t v):∃(f:Nat→D) (tmp:List (Nat×D)),(⟨n,L,ug⟩:Fr)=⟨n,(aO loc ws f).set t v,tmp⟩∧st=st:=⟨_,ug,by rw[←h],rfl⟩
theorem dv {n:Nat} {L loc:List D} {ug:List (Nat×D)} {ws:List Nat} {t:Nat} {v:D} {st:St} (h:L=aO loc ws (fun k=>nth .bD L k)) (h2:look t ug=v):∃(f:Nat→D) (tmp:List (Nat×D)),(⟨n,L,ug⟩:Fr)=⟨n,aO loc ws f,tmp⟩∧st=st∧look t tmp=v:=⟨_,ug,by rw[←h],rfl,h2⟩
theorem BZ {x y:Oper} {fi fj:Fr} {si pG sj ET:St} {a:Operand} {k aD off v:Nat} {ar:Bool} {c:List D} (hy:gQ y.op=none) (hx:gQ x.op=some a) (ha:fi.ev a=.ptr k aD off) (h1:sj.bs[k]?=some (.mem v ar c)) (h2:ET.bs[k]?=some (.mem v ar c)) (h3:si.bs[k]?=some (.mem v ar c)) (hr:refs c=0):iN x fi si pG y fj sj ET=true:=by
 unfold iN;simp only[hy,hx,ha,D.mI,Bool.and_eq_true];refine⟨nT h1 h2,?_⟩;unfold mq;simp only[h3,hr]
 split
 ·rfl
 ·simp
def eH (x:D) (s:Nat) (es:List (List D)):Prop:=(x=.nul∧es=[])∨∃ds,x=.sl ds∧ds.map D.cells=es∧∀d∈ds,d.cells?=some d.cells∧d.cells.length=s
theorem eH.rows {x:D} {s:Nat} {es:List (List D)} (h:eH x s es) (st:St):Rows st s x es:=by
 rcases h with⟨rfl,rfl⟩|⟨ds,rfl,rfl,h⟩
 ·exact .nul
 ·exact .sl ds h
theorem eH.ref {x:D} {s:Nat} {es:List (List D)} (h:eH x s es):x.ref=0:=by
 rcases h with⟨rfl,rfl⟩|⟨ds,rfl,rfl,h⟩<;>rfl
theorem eH.arg {x:D} {s:Nat} {es:List (List D)} (h:eH x s es) (N:Nat) (S:St):Arg N S s x es:=⟨h.rows S,by rw[h.ref];omega⟩
theorem eH.cells {x:D} {s:Nat} {es:List (List D)} (h:eH x s es):x.cells?=some [x]∧x.cells=[x]:=by
 rcases h with⟨rfl,rfl⟩|⟨ds,rfl,rfl,h⟩<;>exact⟨rfl,rfl⟩
theorem eH.freeze {x:D} {s:Nat} {es:List (List D)} (h:eH x s es) (st:St) (N n:Nat):∃y,bw st N false (n+1) x=some y∧eH y s es:=by
 rcases h with⟨rfl,rfl⟩|⟨ds,rfl,rfl,h⟩
 ·exact⟨.sl [],rfl,.inr ⟨[],rfl,rfl,fun d hd=>by cases hd⟩⟩
 ·exact⟨.sl ds,rfl,.inr ⟨ds,rfl,rfl,h⟩⟩
theorem eH.frozen {s:Nat} {es:List (List D)} (h:∀e∈es,e.length=s) (hp:∀e∈es,∀d∈e,cy d=true):eH (.sl (es.map (kH s))) s es:=by
 refine .inr ⟨_,rfl,?_,fun d hd=>?_⟩
 ·rw[List.map_map]
  conv=>rhs;rw[←List.map_id es]
  refine List.map_congr_left fun e he=>?_;exact(l4 (h e he) (hp e he)).2
 ·obtain⟨e,he,rfl⟩:=List.mem_map.1 hd;obtain⟨h1,h2⟩:=l4 (h e he) (hp e he);exact⟨h1,by rw[h2];exact h e he⟩
theorem eH.part {P:Pv} {st:St} {t e:TypeId} {x:D} {s l r:Nat} {es:List (List D)} {lo hi:Option D} (h:eH x s es) (ht:P.cL t=some (.slice e)) (hs:cn P e=some s) (hb:cv es.length lo hi=some (l,r)):∃y,fh P t x lo hi st=some y∧eH y s ((es.take r).drop l):=by
 rcases h with⟨rfl,rfl⟩|⟨ds,rfl,rfl,h⟩
 ·simp only[List.length_nil] at hb;refine⟨.nul,?_,.inl ⟨rfl,by simp⟩⟩;simp only[fh,ht,hs,Option.bind_some,hb,Option.map_some]
 ·rw[List.length_map] at hb;refine⟨.sl ((ds.take r).drop l),?_,.inr ⟨_,rfl,by rw[List.map_drop,List.map_take],fun d hd=>h d (List.mem_of_mem_take (List.mem_of_mem_drop hd))⟩⟩;simp only[fh,ht,hs,Option.bind_some]
  rw[if_pos (by
   cases ds with
   |nil=>rfl
   |cons d ds=>obtain⟨h1,h2⟩:=h d (List.mem_cons_self ..);simp[rI,h1,h2])]
  simp only[hb,Option.map_some]
theorem aa.CV {P:Pv} {ops:Array Oper} {rest:List Oper} {fr:Fr} {st:St} {Q:Fr→St→Prop} {ty:TypeId} {pp:String} {a:Array Edge} {g:Option (Nat×Bool)} {dst:Nat} {t e:TypeId} {xo:Operand} {lo hi:Option Operand} {x:D} {s:Nat} {es:List (List D)} {l r:Nat} {aK:D→Fr} (hg:aI ops fr ⟨some dst,.slice t xo lo hi none,ty,pp,a,g⟩=some true) (hx:fr.ev xo=x) (hR:eH x s es) (ht:P.cL t=some (.slice e)) (hs:cn P e=some s)
  (hb:cv es.length (lo.map fr.ev) (hi.map fr.ev)=some (l,r)) (hp:∀y,fr.put dst y=aK y)
  (h:∀y,eH y s ((es.take r).drop l)→aa P ops rest (aK y) st Q):aa P ops (⟨some dst,.slice t xo lo hi none,ty,pp,a,g⟩::rest) fr st Q:=by
 obtain⟨y,h1,h2⟩:=hR.part (st:=st) ht hs hb;refine aa.go hg rfl (d:=y) (st1:=st) ?_ (hp y) (h y h2);simp only[dQ,hx,h1,Option.map_some]
end Go.V
namespace Go.V
inductive cS {α β:Type} (R:α→β→Prop):List α→List β→Prop where
 |nil:cS R [] []
 |cons {a:α} {b:β} {l:List α} {m:List β} (h:R a b) (t:cS R l m):cS R (a::l) (b::m)
theorem cS.mono {α β:Type} {R R':α→β→Prop} (h:∀a b,R a b→R' a b):∀{l:List α} {m:List β},cS R l m→cS R' l m
 |_,_,.nil=>.nil
 |_,_,.cons a t=>.cons (h _ _ a) (t.mono h)
theorem cS.append {α β:Type} {R:α→β→Prop}:∀{l l':List α} {m m':List β},cS R l m→cS R l' m'→cS R (l++l') (m++m')
 |_,_,_,_,.nil,h=>h
 |_,_,_,_,.cons a t,h=>.cons a (t.append h)
theorem cS.len {α β:Type} {R:α→β→Prop}:∀{l:List α} {m:List β},cS R l m→l.length=m.length
 |_,_,.nil=>rfl
 |_,_,.cons a t=>by simp[t.len]
inductive fg (st:St) (ks:Nat→Prop):D→D→Prop where
 |plain (d:D) (h:cy d=true):fg st ks d d
 |aM (w:D) (s:Nat) (rs:List (List D)) (h:ia st s w rs) (hp:∀e∈rs,∀d∈e,cy d=true) (hk:∀k,w.ref=k+1→ks k):fg st ks w (.sl (rs.map (kH s)))
theorem fg.mono {st:St} {ks Ss:Nat→Prop} (h:∀k,ks k→Ss k) {d v:D} (p:fg st ks d v):fg st Ss d v:=by
 cases p with
 |plain h=>exact .plain d h
 |aM s rs h1 h2 h3=>exact .aM d s rs h1 h2 fun k hk=>h k (h3 k hk)
theorem fg.move {st ah:St} {ks:Nat→Prop} (h:∀k,ks k→ah.bs[k]?=st.bs[k]?) {d v:D} (p:fg st ks d v):fg ah ks d v:=by
 cases p with
 |plain h=>exact .plain d h
 |aM s rs h1 h2 h3=>exact .aM d s rs (h1.move fun k hk=>h k (h3 k hk)) h2 h3
theorem ia.Sb {st:St} {s N:Nat} {x:D} {es:List (List D)} (h:ia st s x es) (hN:∀k,x.ref=k+1→N≤k) (hp:∀e∈es,∀d∈e,cy d=true) (n:Nat):e6 st N (n+2) x=some (.sl (es.map (kH s))):=by
 cases h with
 |nul=>rfl
 |win k aD off es c hm hl hc he=>
  have:=hN k (by simp only[D.ref]);rw[e6];simp only[if_neg (show¬k<N by omega),St.mem_of hm,Option.bind_some]
  rw[if_pos hl,hc,kj (fun d hd=>by
   obtain⟨e,pS,As⟩:=List.mem_flatten.1 hd
   exact hp e pS d As)]
  simp only[Option.map_some,gL he]
theorem fg.pure {st:St} {ks:Nat→Prop} {N:Nat} (hN:∀k,ks k→N≤k) {d v:D} (p:fg st ks d v) (n:Nat):e6 st N (n+2) d=some v:=by
 cases p with
 |plain h=>cases d<;>simp[cy] at h<;>rfl
 |aM s rs h1 h2 h3=>exact h1.Sb (fun k hk=>hN k (h3 k hk)) h2 n
theorem tx {f:D→Option D} {R:D→D→Prop} (h:∀a b,R a b→f a=some b):∀{l m:List D},cS R l m→ir f l=some m
 |_,_,.nil=>rfl
 |_,_,.cons a t=>by simp only[ir,h _ _ a,tx h t]
theorem cS.flat {R:D→D→Prop}:∀{l m:List (List D)},cS (cS R) l m→cS R l.flatten m.flatten
 |_,_,.nil=>.nil
 |_,_,.cons a t=>by simp only[List.flatten_cons];exact a.append t.flat
theorem cS.each {s:Nat} {R:D→D→Prop}:∀{l m:List (List D)},cS (cS R) l m→(∀e∈l,e.length=s)→∀e∈m,e.length=s
 |_,_,.nil,_,e,he=>by cases he
 |_,_,.cons a t,h,e,he=>by
  rcases List.mem_cons.1 he with rfl|he
  ·rw[←a.len];exact h _ (List.mem_cons_self ..)
  ·exact t.each (fun x hx=>h x (List.mem_cons_of_mem _ hx)) e he
def bC.emp:bC:=⟨fun _=>False,fun _=>True,fun _ p=>p⟩
def bC.deep (ks:Nat→Prop) (x:D) (s:Nat) (vs:List (List D)):bC:=
 ⟨fun j=>x.ref=j+1∨ks j,fun st=>(∃es,ia st s x es∧cS (cS (fg st ks)) es vs)∧∀k,x.ref=k+1→¬ks k,fun h p=>by
  obtain⟨⟨es,h1,h2⟩,h3⟩:=p
  exact⟨⟨es,h1.move fun k hk=>h k (.inl hk),h2.mono fun a b=>cS.mono fun c d=>fg.move fun k hk=>h k (.inr hk)⟩,h3⟩⟩
variable{N:Nat} {S st:St} {H:List bC}
theorem Has.P4 (h:Has N S st H) (s:Nat):Has N S st (.deep (fun _=>False) .nul s []::H):=
 h.add (fun _ _=>rfl) (Nat.le_refl _) rfl rfl ⟨⟨[],.nul,.nil⟩,fun k hk=>by simp only[D.ref] at hk;omega⟩ fun k hk=>by
  rcases hk with hk|hk
  ·simp only[D.ref] at hk;omega
  ·exact hk.elim
theorem Has.zu {i j:Nat} {w x:D} {sw s:Nat} {rs vs:List (List D)} {ks:Nat→Prop} (h:Has N S st H) (hij:i≠j) (hi:H[i]?=some (.aM w sw rs)) (hj:H[j]?=some (.deep ks x s vs)) (hp:∀e∈rs,∀d∈e,cy d=true):
  Has N S st ((H.set i .emp).set j (.deep (fun k=>ks k∨w.ref=k+1) x s vs))∧fg st (fun k=>ks k∨w.ref=k+1) w (.sl (rs.map (kH sw))):=by
 have hwo:=h.own hi;obtain⟨⟨es,h1,h2⟩,h3⟩:=(h.ok j _ hj).1;have hKi:=(h.ok i _ hi).2;have ZX:=(h.ok j _ hj).2;have Xx:=h.dis i j _ _ hij hi hj;refine⟨⟨h.ex,h.hN,h.et,fun n e hn=>?_,fun a b ea eb hab ha hb k sE ja=>?_⟩,.aM w sw rs hwo hp fun k hk=>.inr hk⟩
 ·by_cases hnj:n=j
  ·subst hnj;rw[List.getElem?_set_self (by rw[List.length_set];exact bj hj)] at hn;cases hn;refine⟨⟨⟨es,h1,h2.mono fun a b=>cS.mono fun c d=>fg.mono fun k hk=>.inl hk⟩,fun k hk=>?_⟩,fun k hk=>?_⟩
   ·rintro(hk2|hk2)
    ·exact h3 k hk hk2
    ·exact Xx k hk2 (.inl hk)
   ·rcases hk with hk|hk|hk
    ·exact ZX k (.inl hk)
    ·exact ZX k (.inr hk)
    ·exact hKi k hk
  ·rw[List.getElem?_set_ne (fun e=>hnj e.symm)] at hn
   by_cases hni:n=i
   ·subst hni;rw[List.getElem?_set_self (bj hi)] at hn;cases hn;exact⟨trivial,fun k hk=>hk.elim⟩
   ·rw[List.getElem?_set_ne (fun e=>hni e.symm)] at hn;exact h.ok n e hn
 ·have key:∀n e,((H.set i .emp).set j (.deep (fun k=>ks k∨w.ref=k+1) x s vs))[n]?=some e→∀k,e.K k→(n=j∧((bC.deep ks x s vs).K k∨(bC.aM w sw rs).K k))∨(n≠j∧n≠i∧H[n]?=some e):=by
   intro n e hn k hk
   by_cases hnj:n=j
   ·subst hnj;rw[List.getElem?_set_self (by rw[List.length_set];exact bj hj)] at hn;cases hn;refine .inl ⟨rfl,?_⟩
    rcases hk with hk|hk|hk
    ·exact .inl (.inl hk)
    ·exact .inl (.inr hk)
    ·exact .inr hk
   ·rw[List.getElem?_set_ne (fun e=>hnj e.symm)] at hn
    by_cases hni:n=i
    ·subst hni;rw[List.getElem?_set_self (bj hi)] at hn;cases hn;exact hk.elim
    ·rw[List.getElem?_set_ne (fun e=>hni e.symm)] at hn;exact .inr ⟨hnj,hni,hn⟩
  rcases key a ea ha k sE with⟨h4,h5⟩|⟨h4,h5,h6⟩<;>rcases key b eb hb k ja with⟨g4,g5⟩|⟨g4,g5,g6⟩
  ·exact hab (h4.trans g4.symm)
  ·rcases h5 with h5|h5
   ·exact h.dis j b _ _ (fun e=>g4 e.symm) hj g6 k h5 ja
   ·exact h.dis i b _ _ (fun e=>g5 e.symm) hi g6 k h5 ja
  ·rcases g5 with g5|g5
   ·exact h.dis a j _ _ h4 h6 hj k sE g5
   ·exact h.dis a i _ _ h5 h6 hi k sE g5
  ·exact h.dis a b _ _ hab h6 g6 k sE ja
theorem Has.nv {P:Pv} {j:Nat} {x y:D} {s:Nat} {ks:Nat→Prop} {vs ys RK:List (List D)} (hH:Has N S st H) (hj:H[j]?=some (.deep ks x s vs)) (hy:Rows st s y ys) (hd:cS (cS (fg st ks)) ys RK) {t1 t2 e:TypeId} {td:TypeDesc} {inf:TypeInfo} {z:List D}
  (h1:P.cL t1=some (.slice e)) (h2:P.cL t2=some td) (h3:gJ td=false) (h4:P.info e=some inf) (h5:dD P e=some z) (h6:inf.size=s) (h7:z.length=s) (h8:0<inf.bytes∧inf.bytes≤1024)
  (oI:vs.length+ys.length≤1073741824) (hw:S.flr≤N∨refs ys.flatten=0):
  ∃x' ah,bG P .append [t1,t2] [x,y] st=some (x',ah)∧Has N S ah (H.set j (.deep ks x' s (vs++RK))):=by
 obtain⟨⟨es,mC,BF⟩,he3⟩:=(hH.ok j _ hj).1;have hK:=(hH.ok j _ hj).2;have hlen:=BF.len
 have vz:Has N S st [.aM x s es]:=by
  refine⟨hH.ex,hH.hN,hH.et,fun i e hi=>?_,fun i i' a b hii ha hb k sE ja=>?_⟩
  ·cases i with
   |zero=>simp only[List.getElem?_cons_zero,Option.some.injEq] at hi;subst hi;exact⟨mC,fun k hk=>hK k (.inl hk)⟩
   |succ i=>simp at hi
  ·cases i with
   |zero=>cases i' with
    |zero=>exact hii rfl
    |succ i'=>simp at hb
   |succ i=>simp at ha
 obtain⟨x',ah,q1,q2,q3⟩:=vz.append (j:=0) au hy h1 h2 h3 h4 h5 h6 h7 h8 (by omega) hw;refine⟨x',ah,q1,?_⟩;have hown:=q2.own (j:=0) au
 have XC:(∀k,k<st.bs.length→x.ref≠k+1→ah.bs[k]?=st.bs[k]?)∧st.bs.length≤ah.bs.length∧ah.flr=st.flr∧ah.ro=st.ro∧(∀k,x'.ref=k+1→x.ref=k+1∨st.bs.length≤k):=by
  have kK:=hy.row
  have DA:∀e∈ys,e.length=s:=fun e he=>by
   obtain⟨i,hi⟩:=List.getElem?_of_mem he;exact hy.vg i e hi
  simp only[bG,iz,h1,h2,h3,Bool.false_eq_true,if_false,h4,h5,kK,Option.bind_some] at q1
  split at q1
  ·cases q1
  ·cases mC with
   |nul=>
    simp only at q1
    split at q1
    ·cases q1;exact⟨fun _ _ _=>rfl,Nat.le_refl _,rfl,rfl,fun k hk=>.inl hk⟩
    ·split at q1
     ·cases q1;exact⟨fun k hk _=>by simp only[St.push];rw[List.getElem?_append_left hk],by simp[St.push],rfl,rfl,fun k hk=>.inr (by simp only[D.ref] at hk;omega)⟩
     ·cases q1
   |win k aD off es c hm hl hc he=>
    simp only[St.mem_of hm] at q1
    split at q1
    ·cases q1
    ·split at q1
     ·cases q1;exact⟨fun _ _ _=>rfl,Nat.le_refl _,rfl,rfl,fun k hk=>.inl hk⟩
     ·split at q1
      ·cases q1;exact⟨fun n hn hne=>by simp only;rw[List.getElem?_set_ne (fun e=>hne (by simp only[D.ref];omega))],by simp,rfl,rfl,fun n hn=>.inl (by simp only[D.ref] at hn⊢;exact hn)⟩
      ·cases q1
 obtain⟨c1,c2,c3,c4,c5⟩:=XC;have SC:=(q2.ok 0 _ au).2;have w5:∀k,ks k→ah.bs[k]?=st.bs[k]?:=fun k hk=>c1 k (hK k (.inr hk)).2 fun e=>he3 k e hk;refine hH.sH hj (fun k hk hne=>c1 k hk fun e=>hne (.inl e)) c2 c3 c4 ⟨⟨es++ys,hown,?_⟩,fun k hk mK=>?_⟩ (fun k hk=>?_) fun k hk=>?_
 ·exact(BF.mono fun a b=>cS.mono fun c d=>fg.move w5).append (hd.mono fun a b=>cS.mono fun c d=>fg.move w5)
 ·rcases c5 k hk with h|h
  ·exact he3 k h mK
  ·have:=(hK k (.inr mK)).2;omega
 ·rcases hk with hk|hk
  ·rcases c5 k hk with h|h
   ·exact .inl (.inl h)
   ·exact .inr h
  ·exact .inl (.inr hk)
 ·rcases hk with hk|hk
  ·exact(SC k hk).2
  ·exact Nat.lt_of_lt_of_le (hK k (.inr hk)).2 c2
theorem aa.nv {P:Pv} {ops:Array Oper} {rest:List Oper} {fr:Fr} {Q:Fr→St→Prop} {ty:TypeId} {pp:String} {a:Array Edge} {g:Option (Nat×Bool)} {dst:Nat} {j:Nat} {x y:D} {s:Nat} {ks:Nat→Prop} {vs ys RK:List (List D)} {t1 t2 e:TypeId} {td:TypeDesc} {inf:TypeInfo} {z:List D} {xo yo:Operand} {aK:D→Fr} (hH:Has N S st H) (hg:aI ops fr ⟨some dst,.call ⟨.builtin .append,#[xo,yo],#[t1,t2]⟩,ty,pp,a,g⟩=some true)
  (hx:fr.ev xo=x) (hy:fr.ev yo=y) (hj:H[j]?=some (.deep ks x s vs)) (kN:Rows st s y ys) (hd:cS (cS (fg st ks)) ys RK)
  (h1:P.cL t1=some (.slice e)) (h2:P.cL t2=some td) (h3:gJ td=false) (h4:P.info e=some inf) (h5:dD P e=some z) (h6:inf.size=s) (h7:z.length=s) (h8:0<inf.bytes∧inf.bytes≤1024)
  (hp:∀x',fr.put dst x'=aK x') (hb:vs.length+ys.length≤1073741824) (hw:S.flr≤N∨refs ys.flatten=0)
  (h:∀x' ah,Has N S ah (H.set j (.deep ks x' s (vs++RK)))→aa P ops rest (aK x') ah Q):
  aa P ops (⟨some dst,.call ⟨.builtin .append,#[xo,yo],#[t1,t2]⟩,ty,pp,a,g⟩::rest) fr st Q:=by
 obtain⟨x',ah,q1,q2⟩:=hH.nv hj kN hd h1 h2 h3 h4 h5 h6 h7 h8 hb hw;refine aa.go hg rfl (d:=x') (st1:=ah) ?_ (hp _) (h x' ah q2);simp only[dQ,List.map_cons,List.map_nil,hx,hy];exact q1
theorem Has.ni {j:Nat} {x:D} {s:Nat} {ks:Nat→Prop} {vs:List (List D)} (hH:Has N S st H) (hj:H[j]?=some (.deep ks x s vs)) {n:Nat} (hn:4≤n):bw st N false (n+1) x=some (.sl (vs.map (kH s))):=by
 obtain⟨n,rfl⟩:∃m,n=m+4:=⟨n-4,by omega⟩
 obtain⟨⟨es,h1,h2⟩,h3⟩:=(hH.ok j _ hj).1;have hK:=(hH.ok j _ hj).2
 cases h1 with
 |nul=>cases h2;rfl
 |win k aD off es c hm hl hc he=>
  have hk:=hK k (.inl (by simp only[D.ref]));show(if k<N then some (D.win k aD off es.length s) else e6 st N (n+4) (.win k aD off es.length s))=_;rw[if_neg (show¬k<N by omega),e6];simp only[if_neg (show¬k<N by omega),St.mem_of hm,Option.bind_some];rw[if_pos hl,hc,tx (fun a b hab=>hab.pure (fun k hk=>(hK k (.inr hk)).1) (n+1)) h2.flat];simp only[Option.map_some];rw[h2.len,gL (h2.each he)]
theorem Has.Az {j:Nat} {x:D} {s:Nat} {es:List (List D)} (hH:Has N S st H) (hj:H[j]?=some (.aM x s es)) (hp:∀e∈es,∀d∈e,cy d=true) {n:Nat} (hn:3≤n):bw st N false n x=some (.sl (es.map (kH s))):=by
 obtain⟨n,rfl⟩:∃m,n=m+1:=⟨n-1,by omega⟩
 exact hH.freeze hj hp (by omega)
theorem Has.pJ {P:Pv} {fr:Fr} {a k aD off j:Nat} {t:TypeId} {ar:Bool} {c:List D} {d:D} (hH:Has N S st H) (ha:fr.get a=.ptr k aD off) (hj:H[j]?=some (.box k (.mem aD ar c))) (hd:dR P t (c.drop off)=some d):kc P fr st [.cell a t]=some [d]:=by
 simp only[kc,gx,ha,St.mem_of (hH.at hj),Option.bind_some,hd,Option.map_some]
theorem ia.cells {s:Nat} {x:D} {es:List (List D)} (h:ia st s x es):x.cells?=some [x]:=by cases h<;>rfl
theorem Has.dN {j:Nat} {x:D} {s:Nat} {ks:Nat→Prop} {vs:List (List D)} (hH:Has N S st H) (hj:H[j]?=some (.deep ks x s vs)):x.cells?=some [x]:=by
 obtain⟨⟨es,h1,_⟩,_⟩:=(hH.ok j _ hj).1;exact h1.cells
theorem Has.cm {j:Nat} {x:D} {s:Nat} {es:List (List D)} (hH:Has N S st H) (hj:H[j]?=some (.aM x s es)):x.cells?=some [x]:=(hH.own hj).cells
def y4 (fr:Fr):List (Nat×Operand)→List (Nat×D)→Prop
 |[],[]=>True
 |(i,o)::ps,(j,d)::qs=>i=j∧fr.ev o=d∧d.cells?=some [d]∧y4 fr ps qs
 |_,_=>False
theorem tL {fr:Fr} {pl:Nat→Option (Nat×Nat)}:∀{ps:List (Nat×Operand)} {qs:List (Nat×D)} {z:List D},y4 fr ps qs→(∀q∈qs,pl q.1=some (q.1,1)∧q.1<z.length)→ic pl z (ps.map fun p=>(p.1,fr.ev p.2))=some (qs.foldl (fun l q=>l.set q.1 q.2) z)
 |[],[],z,_,_=>rfl
 |(i,o)::ps,(j,d)::qs,z,h,hp=>by
  obtain⟨rfl,h2,h3,h4⟩:=h;obtain⟨h5,h6⟩:=hp (i,d) (List.mem_cons_self ..);simp only[List.map_cons,ic,h2,h3,h5,List.foldl_cons];rw[if_neg (by simp only[List.length_cons,List.length_nil];simp only at h6;omega)];simp only[setMany]
  exact tL h4 fun q hq=>by
   have:=hp q (List.mem_cons_of_mem _ hq)
   simpa using this
 |[],_::_,_,h,_=>h.elim
 |_::_,[],_,h,_=>h.elim
theorem aa.gu {P:Pv} {ops:Array Oper} {rest:List Oper} {fr aK:Fr} {Q:Fr→St→Prop} {ty:TypeId} {pp:String} {a:Array Edge} {g:Option (Nat×Bool)} {dst:Nat} {t:TypeId} {parts:Array (Nat×Operand)} {z cs:List D} {fields:Array Field} {ps:List (Nat×Nat)} {qs:List (Nat×D)} (hg:aI ops fr ⟨some dst,.build t parts,ty,pp,a,g⟩=some true) (hz:dD P t=some z) (hu:P.cL t=some (.struct fields)) (Al:lN P fields.toList=some ps) (he:y4 fr parts.toList qs) (fU:∀q∈qs,ps[q.1]?=some (q.1,1)∧q.1<z.length) (iS:qs.foldl (fun l q=>l.set q.1 q.2) z=cs) (hp:fr.put dst (.agg cs)=aK)
  (h:aa P ops rest aK st Q):aa P ops (⟨some dst,.build t parts,ty,pp,a,g⟩::rest) fr st Q:=by
 refine aa.go hg rfl (d:=.agg cs) (st1:=st) ?_ hp h;simp only[dQ,vm,hz,hu,Al];rw[tL (pl:=fun i=>ps[i]?) he fU,iS];rfl
theorem Has.dg {P:Pv} {fr:Fr} {a k aD off j u:Nat} {t:TypeId} {ar:Bool} {c:List D} {d e:D} (hH:Has N S st H) (ha:fr.get a=.ptr k aD off) (hj:H[j]?=some (.box k (.mem aD ar c))) (hd:dR P t (c.drop off)=some d) (he:fr.get u=e):kc P fr st [.cell a t,.tmp u]=some [d,e]:=by
 simp only[kc,gx,ha,St.mem_of (hH.at hj),Option.bind_some,hd,Option.map_some,he]
theorem aa.LF {P:Pv} {ops:Array Oper} {rest:List Oper} {fr aK:Fr} {Q:Fr→St→Prop} {ty:TypeId} {pp:String} {a:Array Edge} {g:Option (Nat×Bool)} {dst:Nat} {t e:TypeId} {xo io:Operand} {k v off m s o:Nat} {kk:IntKind} {i:Nat} (hg:aI ops fr ⟨some dst,.indexAddr t xo io,ty,pp,a,g⟩=some true) (hx:fr.ev xo=.ptr k v off) (hi:fr.ev io=.int kk (i:Nat)) (ht:P.cL t=some (.array m e)) (hs:cn P e=some s) (hlt:i<m) (ho:off+i*s=o) (hp:fr.put dst (.ptr k v o)=aK)
  (h:aa P ops rest aK st Q):aa P ops (⟨some dst,.indexAddr t xo io,ty,pp,a,g⟩::rest) fr st Q:=by
 subst ho;refine aa.go hg rfl (d:=.ptr k v (off+i*s)) (st1:=st) ?_ hp h;simp only[dQ,hx,hi,b6,ht,hs,Option.bind_some];rw[if_pos ⟨by omega,by omega⟩];rfl
end Go.V
namespace Go.V
variable{P:Pv} {ops:Array Oper} {rest:List Oper} {fr aK:Fr} {st st1:St} {Q:Fr→St→Prop} {ty:TypeId} {pp:String} {a:Array Edge} {g:Option (Nat×Bool)} {dst:Nat} {N:Nat} {S:St} {H:List bC} {d:D} {op:Op}
theorem qm {op:Op} {x:Operand} {d:D} (h:aa P ops rest aK st Q) (gv:op=.move x∨op=.assign x:=by first|exact .inl rfl|exact .inr rfl) (hg:aI ops fr ⟨some dst,op,ty,pp,a,g⟩=some true:=by exact rfl) (hx:fr.ev x=d:=by exact ev rfl) (hp:fr.put dst d=aK:=by first|exact ab rfl _|(dsimp only[Fr.put,List.set_cons_succ,List.set_cons_zero]<;>rfl)):aa P ops (⟨some dst,op,ty,pp,a,g⟩::rest) fr st Q:=
 aa.mv (gv:=gv) (hg:=hg) (hx:=hx) (hp:=hp) (h:=h)
theorem qs {op:Op} (h:aa P ops rest aK st Q) (hg:aI ops fr ⟨some dst,op,ty,pp,a,g⟩=some false:=by exact rfl) (hp:fr.put dst (.tup [])=aK:=by first|exact ab rfl _|(dsimp only[Fr.put,List.set_cons_succ,List.set_cons_zero]<;>rfl)):aa P ops (⟨some dst,op,ty,pp,a,g⟩::rest) fr st Q:=
 aa.skip (hg:=hg) (hp:=hp) (h:=h)
theorem qp {t:TypeId} {xo:Operand} {k aD off o f fo m:Nat} {fields:Array Field} (h:aa P ops rest aK st Q) (hg:aI ops fr ⟨some dst,.fieldAddr t xo f,ty,pp,a,g⟩=some true:=by exact rfl) (hx:fr.ev xo=.ptr k aD off:=by exact ev rfl) (ht:P.cL t=some (.struct fields):=by exact rfl) (hf:mF P fields f=some (fo,some (m+1)):=by exact rfl) (ho:off+fo=o:=by exact rfl) (hp:fr.put dst (.ptr k aD o)=aK:=by first|exact ab rfl _|(dsimp only[Fr.put,List.set_cons_succ,List.set_cons_zero]<;>rfl)):aa P ops (⟨some dst,.fieldAddr t xo f,ty,pp,a,g⟩::rest) fr st Q:=
 aa.cz (hg:=hg) (hx:=hx) (ht:=ht) (hf:=hf) (ho:=ho) (hp:=hp) (h:=h)
theorem ql {j k aD off:Nat} {ar:Bool} {c:List D} {d:D} {t:TypeId} {ao:Operand} (hH:Has N S st H) (hj:H[j]?=some (.box k (.mem aD ar c))) (h:aa P ops rest aK st Q) (hg:aI ops fr ⟨some dst,.load t ao,ty,pp,a,g⟩=some true:=by exact rfl) (ha:fr.ev ao=.ptr k aD off:=by exact ev rfl) (hd:dR P t (c.drop off)=some d:=by exact rfl) (hp:fr.put dst d=aK:=by first|exact ab rfl _|(dsimp only[Fr.put,List.set_cons_succ,List.set_cons_zero]<;>rfl)):aa P ops (⟨some dst,.load t ao,ty,pp,a,g⟩::rest) fr st Q:=
 aa.dM (hH:=hH) (hg:=hg) (ha:=ha) (hj:=hj) (hd:=hd) (hp:=hp) (h:=h)
theorem qg {op:Op} {d:D} {st1:St} (h:aa P ops rest aK st1 Q) (hg:aI ops fr ⟨some dst,op,ty,pp,a,g⟩=some true:=by exact rfl) (hc:iR op=false:=by exact rfl) (h1:dQ P fr st op ty=some (d,st1):=by exact rfl) (hp:fr.put dst d=aK:=by first|exact ab rfl _|(dsimp only[Fr.put,List.set_cons_succ,List.set_cons_zero]<;>rfl)):aa P ops (⟨some dst,op,ty,pp,a,g⟩::rest) fr st Q:=
 aa.go (hg:=hg) (hc:=hc) (h1:=h1) (hp:=hp) (h:=h)
theorem qn {t e:TypeId} {xo:Operand} {x:D} {s:Nat} {es:List (List D)} (h:aa P ops rest aK st Q) (hg:aI ops fr ⟨some dst,.call ⟨.builtin .len,#[xo],#[t]⟩,ty,pp,a,g⟩=some true:=by exact rfl) (hx:fr.ev xo=x:=by exact ev rfl) (hR:Rows st s x es:=by exact Arg.rows (by assumption) (by assumption)) (ht:P.cL t=some (.slice e):=by exact rfl) (hp:fr.put dst (.int .i64 (es.length:Nat))=aK:=by first|exact ab rfl _|(dsimp only[Fr.put,List.set_cons_succ,List.set_cons_zero]<;>rfl)):aa P ops (⟨some dst,.call ⟨.builtin .len,#[xo],#[t]⟩,ty,pp,a,g⟩::rest) fr st Q:=
 aa.iL (hg:=hg) (hx:=hx) (hR:=hR) (ht:=ht) (hp:=hp) (h:=h)
theorem qr {t e:TypeId} {xo io:Operand} {x:D} {s i:Nat} {kk:IntKind} {es:List (List D)} {r:List D} {aK:D→Fr} (h:∀p,jD st p r→aa P ops rest (aK p) st Q) (hg:aI ops fr ⟨some dst,.indexAddr t xo io,ty,pp,a,g⟩=some true:=by exact rfl) (hx:fr.ev xo=x:=by exact ev rfl) (hi:fr.ev io=.int kk (i:Nat):=by exact ev rfl) (hR:Rows st s x es:=by exact Arg.rows (by assumption) (by assumption)) (ht:P.cL t=some (.slice e):=by exact rfl) (hs:cn P e=some s:=by exact rfl) (hr:es[i]?=some r:=by assumption) (hp:∀p,fr.put dst p=aK p:=by first|exact fun _=>ab rfl _|exact fun _=>by dsimp only[Fr.put,List.set_cons_succ,List.set_cons_zero]<;>rfl):aa P ops (⟨some dst,.indexAddr t xo io,ty,pp,a,g⟩::rest) fr st Q:=
 aa.vZ (hg:=hg) (hx:=hx) (hi:=hi) (hR:=hR) (ht:=ht) (hs:=hs) (hr:=hr) (hp:=hp) (h:=h)
theorem qR {t:TypeId} {ao:Operand} {x d:D} {r:List D} (h:aa P ops rest aK st Q) (hg:aI ops fr ⟨some dst,.load t ao,ty,pp,a,g⟩=some true:=by exact rfl) (ha:fr.ev ao=x:=by exact ev rfl) (hR:jD st x r:=by assumption) (hd:dR P t r=some d:=by exact rfl) (hp:fr.put dst d=aK:=by first|exact ab rfl _|(dsimp only[Fr.put,List.set_cons_succ,List.set_cons_zero]<;>rfl)):aa P ops (⟨some dst,.load t ao,ty,pp,a,g⟩::rest) fr st Q:=
 aa.cU (hg:=hg) (ha:=ha) (hR:=hR) (hd:=hd) (hp:=hp) (h:=h)
theorem qf {t:TypeId} {xo:Operand} {x:D} {r:List D} {f fo m:Nat} {fields:Array Field} {aK:D→Fr} (h:∀p,jD st p (r.drop fo)→aa P ops rest (aK p) st Q) (hg:aI ops fr ⟨some dst,.fieldAddr t xo f,ty,pp,a,g⟩=some true:=by exact rfl) (hx:fr.ev xo=x:=by exact ev rfl) (hR:jD st x r:=by assumption) (ht:P.cL t=some (.struct fields):=by exact rfl) (hf:mF P fields f=some (fo,some (m+1)):=by exact rfl) (hp:∀p,fr.put dst p=aK p:=by first|exact fun _=>ab rfl _|exact fun _=>by dsimp only[Fr.put,List.set_cons_succ,List.set_cons_zero]<;>rfl):aa P ops (⟨some dst,.fieldAddr t xo f,ty,pp,a,g⟩::rest) fr st Q:=
 aa.KM (hg:=hg) (hx:=hx) (hR:=hR) (ht:=ht) (hf:=hf) (hp:=hp) (h:=h)
theorem qi {t e:TypeId} {xo io:Operand} {x:D} {s i j:Nat} {kk:IntKind} {es:List (List D)} {aK:D→Fr} (hH:Has N S st H) (hj:H[j]?=some (.aM x s es)) (h:∀p,pB x s i 0 p→aa P ops rest (aK p) st Q) (hg:aI ops fr ⟨some dst,.indexAddr t xo io,ty,pp,a,g⟩=some true:=by exact rfl) (hx:fr.ev xo=x:=by exact ev rfl) (hi:fr.ev io=.int kk (i:Nat):=by exact ev rfl) (ht:P.cL t=some (.slice e):=by exact rfl) (hs:cn P e=some s:=by exact rfl) (hr:i<es.length:=by exact bj (by assumption)) (hp:∀p,fr.put dst p=aK p:=by first|exact fun _=>ab rfl _|exact fun _=>by dsimp only[Fr.put,List.set_cons_succ,List.set_cons_zero]<;>rfl):aa P ops (⟨some dst,.indexAddr t xo io,ty,pp,a,g⟩::rest) fr st Q:=
 aa.ym (hH:=hH) (hg:=hg) (hx:=hx) (hi:=hi) (hj:=hj) (ht:=ht) (hs:=hs) (hr:=hr) (hp:=hp) (h:=h)
theorem qo {t:TypeId} {ao:Operand} {x y d:D} {s i o j:Nat} {es:List (List D)} {r:List D} (hH:Has N S st H) (hj:H[j]?=some (.aM x s es)) (h:aa P ops rest aK st Q) (hg:aI ops fr ⟨some dst,.load t ao,ty,pp,a,g⟩=some true:=by exact rfl) (ha:fr.ev ao=y:=by exact ev rfl) (hR:pB x s i o y:=by assumption) (hr:es[i]?=some r:=by assumption) (hd:dR P t (r.drop o)=some d:=by exact rfl) (hp:fr.put dst d=aK:=by first|exact ab rfl _|(dsimp only[Fr.put,List.set_cons_succ,List.set_cons_zero]<;>rfl)):aa P ops (⟨some dst,.load t ao,ty,pp,a,g⟩::rest) fr st Q:=
 aa.c7 (hH:=hH) (hg:=hg) (ha:=ha) (hR:=hR) (hj:=hj) (hr:=hr) (hd:=hd) (hp:=hp) (h:=h)
theorem qS {j k aD:Nat} {ar:Bool} {c cs:List D} {v:D} {t:TypeId} {ao vo:Operand} (hH:Has N S st H) (hj:H[j]?=some (.box k (.mem aD ar c))) (h:∀ah,Has N S ah (H.set j (.box k (.mem aD ar cs)))→aa P ops rest fr ah Q) (hg:aI ops fr ⟨none,.store t ao vo,ty,pp,a,g⟩=some true:=by exact rfl) (ha:fr.ev ao=.ptr k aD 0:=by exact ev rfl) (hv:fr.ev vo=v:=by exact ev rfl) (iS:v.cells?=some cs:=by first|rfl|exact(eH.cells (by assumption)).1) (hs:cn P t=some cs.length:=by exact rfl) (hl:cs.length=c.length:=by exact rfl) (hw:S.flr≤N∨refs cs=0:=by first|exact .inl (by assumption)|exact .inr rfl):aa P ops (⟨none,.store t ao vo,ty,pp,a,g⟩::rest) fr st Q:=
 aa.gP (hH:=hH) (hg:=hg) (ha:=ha) (hv:=hv) (iS:=iS) (hs:=hs) (hj:=hj) (hl:=hl) (hw:=hw) (h:=h)
theorem qT {j k aD off:Nat} {ar:Bool} {c cs:List D} {v:D} {t:TypeId} {ao vo:Operand} (hH:Has N S st H) (hj:H[j]?=some (.box k (.mem aD ar c))) (h:∀ah,Has N S ah (H.set j (.box k (.mem aD ar (setMany c off cs))))→aa P ops rest fr ah Q) (hg:aI ops fr ⟨none,.store t ao vo,ty,pp,a,g⟩=some true:=by exact rfl) (ha:fr.ev ao=.ptr k aD off:=by exact ev rfl) (hv:fr.ev vo=v:=by exact ev rfl) (iS:v.cells?=some cs:=by first|rfl|exact(eH.cells (by assumption)).1) (hs:cn P t=some cs.length:=by exact rfl) (hl:off+cs.length≤c.length:=by exact Nat.le_of_ble_eq_true rfl) (hw:S.flr≤N∨refs cs=0:=by first|exact .inl (by assumption)|exact .inr rfl):aa P ops (⟨none,.store t ao vo,ty,pp,a,g⟩::rest) fr st Q:=
 aa.fN (hH:=hH) (hg:=hg) (ha:=ha) (hv:=hv) (iS:=iS) (hs:=hs) (hj:=hj) (hl:=hl) (hw:=hw) (h:=h)
theorem qa {e:TypeId} {cs:List D} {aK:Nat→Fr} (hH:Has N S st H) (h:∀k ah,S.bs.length≤k→Has N S ah (.box k (.mem 0 false cs)::H)→aa P ops rest (aK k) ah Q) (hg:aI ops fr ⟨some dst,.alloc e,ty,pp,a,g⟩=some true:=by exact rfl) (hz:dD P e=some cs:=by exact rfl) (hp:∀k,fr.put dst (.ptr k 0 0)=aK k:=by first|exact fun _=>ab rfl _|exact fun _=>by dsimp only[Fr.put,List.set_cons_succ,List.set_cons_zero]<;>rfl):aa P ops (⟨some dst,.alloc e,ty,pp,a,g⟩::rest) fr st Q:=
 aa.kz (hH:=hH) (hg:=hg) (hz:=hz) (hp:=hp) (h:=h)
theorem qb {e:TypeId} {xo:Operand} {cs:List D} {aK:Nat→Fr} (hH:Has N S st H) (h:∀k ah,S.bs.length≤k→Has N S ah (.box k (.mem 0 false cs)::H)→aa P ops rest (aK k) ah Q) (hg:aI ops fr ⟨some dst,.box e xo,ty,pp,a,g⟩=some true:=by exact rfl) (hz:(fr.ev xo).cells?=some cs:=by exact rfl) (hp:∀k,fr.put dst (.ptr k 0 0)=aK k:=by first|exact fun _=>ab rfl _|exact fun _=>by dsimp only[Fr.put,List.set_cons_succ,List.set_cons_zero]<;>rfl):aa P ops (⟨some dst,.box e xo,ty,pp,a,g⟩::rest) fr st Q:=
 aa.xc (hH:=hH) (hg:=hg) (hz:=hz) (hp:=hp) (h:=h)
theorem qA {t oT:TypeId} {xo yo:Operand} {x y:Int} (h:aa P ops rest aK st Q) (hg:aI ops fr ⟨some dst,.binOp .add t xo yo oT,ty,pp,a,g⟩=some true:=by exact rfl) (hx:fr.ev xo=.int .i64 x:=by exact ev rfl) (hy:fr.ev yo=.int .i64 y:=by exact ev rfl) (h1:-9223372036854775808≤x+y:=by omega) (h2:x+y≤9223372036854775807:=by omega) (hp:fr.put dst (.int .i64 (x+y))=aK:=by first|exact ab rfl _|(dsimp only[Fr.put,List.set_cons_succ,List.set_cons_zero]<;>rfl)):aa P ops (⟨some dst,.binOp .add t xo yo oT,ty,pp,a,g⟩::rest) fr st Q:=
 aa.sv (hg:=hg) (hx:=hx) (hy:=hy) (h1:=h1) (h2:=h2) (hp:=hp) (h:=h)
theorem qP {j:Nat} {x y:D} {s:Nat} {es ys:List (List D)} {t1 t2 e:TypeId} {td:TypeDesc} {inf:TypeInfo} {z:List D} {xo yo:Operand} {aK:D→Fr} (hH:Has N S st H) (hj:H[j]?=some (.aM x s es)) (kN:Rows st s y ys) (h:∀x' ah,Has N S ah (H.set j (.aM x' s (es++ys)))→aa P ops rest (aK x') ah Q) (hg:aI ops fr ⟨some dst,.call ⟨.builtin .append,#[xo,yo],#[t1,t2]⟩,ty,pp,a,g⟩=some true:=by exact rfl) (hx:fr.ev xo=x:=by exact ev rfl) (hy:fr.ev yo=y:=by exact ev rfl) (h1:P.cL t1=some (.slice e):=by exact rfl) (h2:P.cL t2=some td:=by exact rfl) (h3:gJ td=false:=by exact rfl) (h4:P.info e=some inf:=by exact rfl) (h5:dD P e=some z:=by exact rfl) (h6:inf.size=s:=by exact rfl) (h7:z.length=s:=by exact rfl) (h8:0<inf.bytes∧inf.bytes≤1024:=by exact⟨Nat.le_of_ble_eq_true rfl,Nat.le_of_ble_eq_true rfl⟩) (hp:∀x',fr.put dst x'=aK x':=by first|exact fun _=>ab rfl _|exact fun _=>by dsimp only[Fr.put,List.set_cons_succ,List.set_cons_zero]<;>rfl) (hb:es.length+ys.length≤1073741824:=by first|omega|(simp only[List.length_append,List.length_cons,List.length_nil,List.length_map,List.length_replicate,List.length_set,List.length_reverse]<;>omega)) (hw:S.flr≤N∨refs ys.flatten=0:=by first|exact .inl (by assumption)|exact .inr rfl):aa P ops (⟨some dst,.call ⟨.builtin .append,#[xo,yo],#[t1,t2]⟩,ty,pp,a,g⟩::rest) fr st Q:=
 aa.bP (hH:=hH) (hg:=hg) (hx:=hx) (hy:=hy) (hj:=hj) (kN:=kN) (h1:=h1) (h2:=h2) (h3:=h3) (h4:=h4) (h5:=h5) (h6:=h6) (h7:=h7) (h8:=h8) (hp:=hp) (hb:=hb) (hw:=hw) (h:=h)
theorem qh {t e:TypeId} {m s:Nat} {parts:Array (Nat×Operand)} {z:List D} {vs:List D} {aK:Nat→Fr} (hH:Has N S st H) (h:∀k ah,S.bs.length≤k→Has N S ah (.aM (.win k 0 0 m s) s (vs.map D.cells)::H)→aa P ops rest (aK k) ah Q) (hg:aI ops fr ⟨some dst,.buildSlice t m parts,ty,pp,a,g⟩=some true:=by exact rfl) (ht:P.cL t=some (.slice e):=by exact rfl) (hs:cn P e=some s:=by exact rfl) (hz:dD P e=some z:=by exact rfl) (lY:z.length=s:=by exact rfl) (hm:m*s≤16777216:=by exact Nat.le_of_ble_eq_true rfl) (U':AA fr 0 parts.toList vs:=by first|exact⟨rfl,ev rfl,trivial⟩|exact⟨rfl,ev rfl,rfl,ev rfl,trivial⟩|exact⟨rfl,ev rfl,rfl,ev rfl,rfl,ev rfl,trivial⟩|exact⟨rfl,ev rfl,rfl,ev rfl,rfl,ev rfl,rfl,ev rfl,trivial⟩|exact⟨rfl,ev rfl,rfl,ev rfl,rfl,ev rfl,rfl,ev rfl,rfl,ev rfl,trivial⟩) (SB:vs.length=m:=by exact rfl) (hc:∀v∈vs,v.cells?=some v.cells∧v.cells.length=s:=by intro v hv;simp only[List.mem_cons,List.not_mem_nil,or_false] at hv;first|(subst hv;exact⟨rfl,rfl⟩)|(rcases hv with rfl|rfl<;>exact⟨rfl,rfl⟩)|(rcases hv with rfl|rfl|rfl<;>exact⟨rfl,rfl⟩)|(rcases hv with rfl|rfl|rfl|rfl<;>exact⟨rfl,rfl⟩)|(rcases hv with rfl|rfl|rfl|rfl|rfl<;>exact⟨rfl,rfl⟩)) (hp:∀k,fr.put dst (.win k 0 0 m s)=aK k:=by first|exact fun _=>ab rfl _|exact fun _=>by dsimp only[Fr.put,List.set_cons_succ,List.set_cons_zero]<;>rfl):aa P ops (⟨some dst,.buildSlice t m parts,ty,pp,a,g⟩::rest) fr st Q:=
 aa.Am (hH:=hH) (hg:=hg) (ht:=ht) (hs:=hs) (hz:=hz) (lY:=lY) (hm:=hm) (U':=U') (SB:=SB) (hc:=hc) (hp:=hp) (h:=h)
theorem qv {f:Operand} {gn:Nat} {jB:List D} {args:Array Operand} {vE:Array TypeId} {d:D} {st1:St} (h1:Ev P gn (args.toList.map fr.ev++jB) st d st1) (h:aa P ops rest aK st1 Q) (hg:aI ops fr ⟨some dst,.call ⟨.value f,args,vE⟩,ty,pp,a,g⟩=some true:=by exact rfl) (hf:fr.ev f=.fn gn jB:=by exact rfl) (hp:fr.put dst d=aK:=by first|exact ab rfl _|(dsimp only[Fr.put,List.set_cons_succ,List.set_cons_zero]<;>rfl)):aa P ops (⟨some dst,.call ⟨.value f,args,vE⟩,ty,pp,a,g⟩::rest) fr st Q:=
 aa.fc (hg:=hg) (hf:=hf) (h1:=h1) (hp:=hp) (h:=h)
theorem qt {c x y:Operand} {v:Bool} (hv:v=true) (h:aa P ops rest aK st Q) (hg:aI ops fr ⟨some dst,.pick c x y,ty,pp,a,g⟩=some true:=by exact rfl) (hc:fr.ev c=.bool v:=by exact rfl) (hp:fr.put dst (fr.ev x)=aK:=by first|exact ab rfl _|(dsimp only[Fr.put,List.set_cons_succ,List.set_cons_zero]<;>rfl)):aa P ops (⟨some dst,.pick c x y,ty,pp,a,g⟩::rest) fr st Q:=
 aa.dU (hg:=hg) (hc:=hc) (hv:=hv) (hp:=hp) (h:=h)
theorem qu {c x y:Operand} {v:Bool} (hv:v=false) (h:aa P ops rest aK st Q) (hg:aI ops fr ⟨some dst,.pick c x y,ty,pp,a,g⟩=some true:=by exact rfl) (hc:fr.ev c=.bool v:=by exact rfl) (hp:fr.put dst (fr.ev y)=aK:=by first|exact ab rfl _|(dsimp only[Fr.put,List.set_cons_succ,List.set_cons_zero]<;>rfl)):aa P ops (⟨some dst,.pick c x y,ty,pp,a,g⟩::rest) fr st Q:=
 aa.dr (hg:=hg) (hc:=hc) (hv:=hv) (hp:=hp) (h:=h)
theorem wi {ops:Array Oper} {fr:Fr} {o:Oper} {j t:Nat} {w v:Bool} (h4:v=w) (h1:o.guard=some (j,w):=by exact rfl) (h2:(ops[j]?).bind (·.dst)=some t:=by exact rfl) (h3:fr.get t=.bool v:=by exact rfl):aI ops fr o=some true:=aC h1 h2 h3 h4
theorem wn {ops:Array Oper} {fr:Fr} {o:Oper} {j t:Nat} {w v:Bool} (h4:v=!w) (h1:o.guard=some (j,w):=by exact rfl) (h2:(ops[j]?).bind (·.dst)=some t:=by exact rfl) (h3:fr.get t=.bool v:=by exact rfl):aI ops fr o=some false:=fR h1 h2 h3 h4
theorem qc {dy:Dy} {c:Operand} {a b:Code} {v:Bool} {Q:Out→Fr→St→Prop} (h1:v=true→ag P dy a fr st Q) (h2:v=false→ag P dy b fr st Q) (hv:fr.ev c=.bool v:=by first|rfl|assumption):ag P dy (.cond c a b) fr st Q:=ag.cond hv h1 h2
theorem qq {dy:Dy} {a b:Code} {Q:Out→Fr→St→Prop} (h:ag P dy a fr st (aT P dy b Q)):ag P dy (.seq a b) fr st Q:=ag.seq h
theorem qj {dy:Dy} {i:Nat} {l:List Oper} {d:Bool} {n:Nat} {loc:List D} {tmp:List (Nat×D)} {Q:Out→Fr→St→Prop} (h:∀K:Out→Fr→St→Prop,Q=K→aa P l.toArray l ⟨n,loc,[]⟩ st (K .next)) (h0:gH i dy=[]:=by rfl):ag P dy (.region i l.toArray d) ⟨n,loc,tmp⟩ st Q:=ag.ct (h Q rfl) h0
theorem qe {Q K:Out→Fr→St→Prop} (hK:Q=K) (h:Q .next fr st):aa P ops [] fr st (K .next):=aa.nil (hK▸h)
theorem qB {dy:Dy} {c:Operand} {a b:Code} {Q:Out→Fr→St→Prop} (h1:ag P dy a fr st Q) (hv:fr.ev c=.bool true:=by first|rfl|assumption):ag P dy (.cond c a b) fr st Q:=ag.cond hv (fun _=>h1) (fun h=>by cases h)
theorem qC {dy:Dy} {c:Operand} {a b:Code} {Q:Out→Fr→St→Prop} (h1:ag P dy b fr st Q) (hv:fr.ev c=.bool false:=by first|rfl|assumption):ag P dy (.cond c a b) fr st Q:=ag.cond hv (fun h=>by cases h) (fun _=>h1)
theorem qD {dy:Dy} {c:Operand} {a b:Code} {v:Bool} {Q:Out→Fr→St→Prop} (hv:fr.ev c=.bool v) (hb:v=true) (h1:ag P dy a fr st Q):ag P dy (.cond c a b) fr st Q:=ag.cond hv (fun _=>h1) (fun h=>by rw[hb] at h;cases h)
theorem qE {dy:Dy} {c:Operand} {a b:Code} {v:Bool} {Q:Out→Fr→St→Prop} (hv:fr.ev c=.bool v) (hb:v=false) (h1:ag P dy b fr st Q):ag P dy (.cond c a b) fr st Q:=ag.cond hv (fun h=>by rw[hb] at h;cases h) (fun _=>h1)
theorem rx:∀i:Nat,Out.ret≠Out.exit i:=fun i h=>by cases h
theorem rl {S:St} {H:List bC} {kn:Bool} {st1:St} {d d':D} (hS:S.bs=st.bs) (hH:Has st.bs.length S st1 H) (hd:bw st1 st.bs.length kn 16 d=some d'):cX .ro kn st st1 d=some (d',st):=mY (by simp) hS hH hd
theorem ri (s0:St):(ai .ro s0).bs=s0.bs∧(ai .ro s0).flr≤s0.bs.length∧Has s0.bs.length (ai .ro s0) (ai .ro s0) []:=⟨rfl,Nat.le_refl _,Has.start (Nat.le_refl _) (Nat.le_refl _)⟩
theorem w1 {α:Type} {n:Nat} {a:α}:List.replicate (n+1) a=a::List.replicate n a:=rfl
theorem w2 {α:Type} {a:α}:List.replicate 0 a=[]:=rfl
theorem qy {dy:Dy} {a:Code} {Q:Out→Fr→St→Prop} (h:ag P dy a fr st Q):ag P dy a fr st Q:=h
theorem u1 {α:Type} {x:α} {l:List α} {n:Nat} {a:α}:(x::l).set (n+1) a=x::l.set n a:=rfl
theorem u2 {α:Type} {x:α} {l:List α} {a:α}:(x::l).set 0 a=a::l:=rfl
theorem u3 {α:Type} {x:α} {l m:List α}:(x::l)++m=x::(l++m):=rfl
theorem u4 {α:Type} {m:List α}:([]:List α)++m=m:=rfl
theorem u5 {α β:Type} {f:α→β} {x:α} {l:List α}:(x::l).map f=f x::l.map f:=rfl
theorem u6 {α β:Type} {f:α→β}:([]:List α).map f=[]:=rfl
theorem v1 (k:IntKind) (n:Int):ga (.int k n)=.int k n:=rfl
theorem v2 (b:Bool):ga (.bool b)=.bool b:=rfl
theorem v3 (s:ByteArray):ga (.string s)=.str s.data.toList:=rfl
theorem v4:ga (.slice none 0 0)=.nul:=rfl
theorem v5:ga (.pointer none)=.pnil:=rfl
theorem v6:ga .nilFunc=.nilfn:=rfl
theorem v7:ga .nilIface=.nilif:=rfl
theorem cs:(∀(p:Prop) [Decidable p],(decide p=true)=p)∧(∀(p:Prop) [Decidable p],(decide p=false)=¬p)∧(∀(α:Type) [BEq α] [LawfulBEq α] (a b:α),((a==b)=true)=(a=b))∧(∀(α:Type) [BEq α] [LawfulBEq α] (a b:α),((a==b)=false)=¬a=b)∧(∀(α:Type) [BEq α] [LawfulBEq α] (a b:α),((a !=b)=true)=¬a=b)∧(∀(α:Type) [BEq α] [LawfulBEq α] (a b:α),((a !=b)=false)=(a=b))∧(∀b:Bool,((!b)=true)=(b=false))∧(∀b:Bool,((!b)=false)=(b=true))∧(∀b:Bool,(¬b=true)=(b=false))∧(∀b:Bool,(¬b=false)=(b=true)):=by
 refine⟨fun p _=>by simp,fun p _=>by simp,fun α _ _ a b=>by simp,fun α _ _ a b=>by simp,fun α _ _ a b=>by simp,fun α _ _ a b=>by simp,fun b=>by simp,fun b=>by simp,fun b=>by simp,fun b=>by simp⟩
theorem xT {n t:Nat} {loc:List D} {tmp:List (Nat×D)} (h:aa P ops rest ⟨n,loc,(t,d)::tmp⟩ st1 Q) (hb:Nat.ble n t=true:=by exact rfl) (hg:aI ops ⟨n,loc,tmp⟩ ⟨some t,op,ty,pp,a,g⟩=some true:=by exact rfl) (hc:iR op=false:=by exact rfl) (h1:dQ P ⟨n,loc,tmp⟩ st op ty=some (d,st1):=by exact rfl):aa P ops (⟨some t,op,ty,pp,a,g⟩::rest) ⟨n,loc,tmp⟩ st Q:=aa.T hb hg hc h1 h
theorem xL {n t:Nat} {loc:List D} {tmp:List (Nat×D)} (h:aa P ops rest ⟨n,loc.set t d,tmp⟩ st1 Q) (hb:Nat.ble n t=false:=by exact rfl) (hg:aI ops ⟨n,loc,tmp⟩ ⟨some t,op,ty,pp,a,g⟩=some true:=by exact rfl) (hc:iR op=false:=by exact rfl) (h1:dQ P ⟨n,loc,tmp⟩ st op ty=some (d,st1):=by exact rfl):aa P ops (⟨some t,op,ty,pp,a,g⟩::rest) ⟨n,loc,tmp⟩ st Q:=aa.L hb hg hc h1 h
theorem xN (h:aa P ops rest fr st1 Q) (hg:aI ops fr ⟨none,op,ty,pp,a,g⟩=some true:=by exact rfl) (hc:iR op=false:=by exact rfl) (h1:dQ P fr st op ty=some (d,st1):=by exact rfl):aa P ops (⟨none,op,ty,pp,a,g⟩::rest) fr st Q:=aa.N hg hc h1 h
theorem xo {n t:Nat} {loc:List D} {tmp:List (Nat×D)} (h:aa P ops rest ⟨n,loc,(t,.tup [])::tmp⟩ st Q) (hb:Nat.ble n t=true:=by exact rfl) (hg:aI ops ⟨n,loc,tmp⟩ ⟨some t,op,ty,pp,a,g⟩=some false:=by exact rfl):aa P ops (⟨some t,op,ty,pp,a,g⟩::rest) ⟨n,loc,tmp⟩ st Q:=aa.VJ hb hg h
theorem xp {n t:Nat} {loc:List D} {tmp:List (Nat×D)} (h:aa P ops rest ⟨n,loc.set t (.tup []),tmp⟩ st Q) (hb:Nat.ble n t=false:=by exact rfl) (hg:aI ops ⟨n,loc,tmp⟩ ⟨some t,op,ty,pp,a,g⟩=some false:=by exact rfl):aa P ops (⟨some t,op,ty,pp,a,g⟩::rest) ⟨n,loc,tmp⟩ st Q:=aa.VK hb hg h
end Go.V
