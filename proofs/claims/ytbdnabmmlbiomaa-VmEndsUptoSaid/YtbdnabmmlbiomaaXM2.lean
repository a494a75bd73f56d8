/-
 Functions given to V; a logic over V; heaps of one's own; no program in sight, no conditions.
-/
import Derived.Test.YtbdnabmmlbiomaaXM4
import Derived.Test.YtbdnabmmlbiomaaXM1
set_option linter.unusedSimpArgs false
set_option linter.unusedVariables false
set_option linter.unusedSectionVars false
set_option linter.unnecessarySimpa false
namespace Go.V
open Go.RowKit
structure dL (P:Program) (pv:Pv) (f:Nat) (p:List D→St→Option (D×St)):Prop where
 fn:∀ds st r,p ds st=some r→∃fn b,P.funcs[f]?=some fn∧fn.body=some b∧fn.name≠ "runtime.NumGoroutine"
 calls:∀ds st d ah,p ds st=some (d,ah)→∀w β Z (us:List Value),eS w st β Z→ds.length=us.length→(∀(i:Nat) c v,ds[i]?=some c→us[i]?=some v→VR w (st.x β Z) c v)→
  Calls P f us.toArray w fun e w'=>∃v β' Z',e=.returned v∧Nx w st β Z w' ah β' Z'∧VR w' (ah.x β' Z') d v∧(iu pv f=true→Quiet w w')
 ro:∀ds st d ah,p ds st=some (d,ah)→iu pv f=true→lB st ah
 len:∀ds st d ah,p ds st=some (d,ah)→dh st ah
theorem wz {pv rC:Pv} (h:∀f,iu pv f=iu rC f) (hm:∀s t,kP pv s t=kP rC s t) (ops:Array Oper) (b:Bool) (x y:Oper):jb pv ops b x y=jb rC ops b x y:=by
 have he:∀o,dY pv o=dY rC o:=by
  intro o;unfold dY
  split<;>first|rfl|exact hm _ _|skip
  rw[h]
 simp only[jb,he]
theorem tO {pv rC:Pv} (h:∀f,iu pv f=iu rC f) (hm:∀s t,kP pv s t=kP rC s t) (ops:Array Oper) (dy:List (Nat×Nat)):jo pv ops dy=jo rC ops dy:=by
 unfold jo
 congr 1
 funext j;unfold EI
 split
 ·simp only[wz h hm]
 ·rfl
theorem df {pv rC:Pv} (h:∀f,iu pv f=iu rC f) (hm:∀s t,kP pv s t=kP rC s t) (dyn:List (Nat×List (Nat×Nat))) (n:Nat):∀c:Code,codeOk pv dyn n c=codeOk rC dyn n c
 | .region _ ops d=>by simp only[codeOk,tO h hm]
 | .seq a b=>by simp only[codeOk,df h hm dyn n a,df h hm dyn n b]
 | .cond _ a b=>by simp only[codeOk,df h hm dyn n a,df h hm dyn n b]
 | .block _ c=>by simp only[codeOk,df h hm dyn n c]
 | .loop c=>by simp only[codeOk,df h hm dyn n c]
 | .skip| .rangeFunc ..| .exit _| .scope _| .label _| .goto _| .ret| .refuse _=>by simp only[codeOk]
def Pv.over (pv:Pv) (l:List (Nat×(List D→St→Option (D×St)))):Pv:=⟨pv.ty,pv.nty,pv.fs,pv.nfs,pv.eqb,l⟩
theorem yH (pv:Pv) (l) (f:Nat):iu (pv.over l) f=iu pv f:=rfl
theorem pY {f:Nat} {p}:∀{l:List (Nat×(List D→St→Option (D×St)))},jv f l=some p→(f,p)∈l
 |(g,q)::l,h=>by
  simp only[jv] at h
  split at h
  ·rename_i hb;cases h;rw[Nat.eq_of_beq_eq_true hb];exact List.mem_cons_self ..
  ·exact List.mem_cons_of_mem _ (pY h)
theorem jH {pv:Pv} {P:Program} (h:pv.Ok P∧pv.fG∧fy P pv (c9 pv)) (O4:pv.prm=[]) {l:List (Nat×(List D→St→Option (D×St)))} (hl:∀q∈l,dL P pv q.1 q.2):
  (pv.over l).Ok P∧(pv.over l).fG∧fy P (pv.over l) (c9 (pv.over l)):=by
 obtain⟨h1,h2,h3⟩:=h;refine⟨⟨h1.ty,h1.fs,h1.eqb,h1.mixed⟩,fun f x b hx hp hb=>?_,?_⟩
 ·rw[df (yH pv l) (fun _ _=>rfl)];exact h2 f x b hx hp hb
 ·have key:∀f ds st r,c9 (pv.over l) f ds st=some r→(∃p,dL P pv f p∧p ds st=some r)∨c9 pv f ds st=some r:=by
   intro f ds st r h;unfold c9 at h
   split at h
   ·rename_i p hp;exact .inl ⟨p,hl _ (pY hp),h⟩
   ·right;unfold c9;rw[O4];exact h
  refine⟨fun f ds st r h=>?_,fun f ds st d ah h=>?_,fun f ds st d ah h=>?_,fun f ds st d ah h=>?_⟩
  ·rcases key f ds st r h with⟨p,hp,h⟩|h
   ·exact hp.fn ds st r h
   ·exact h3.fn f ds st r h
  ·rcases key f ds st _ h with⟨p,hp,h⟩|h
   ·exact hp.calls ds st d ah h
   ·exact h3.calls f ds st d ah h
  ·rcases key f ds st _ h with⟨p,hp,h⟩|h
   ·exact hp.ro ds st d ah h
   ·exact h3.ro f ds st d ah h
  ·rcases key f ds st _ h with⟨p,hp,h⟩|h
   ·exact hp.len ds st d ah h
   ·exact h3.len f ds st d ah h
theorem eS.nil {w:World} {Z:Nat→Prop} (hZ:∀b,Z b→b<w.heap.size):eS w ⟨[],0,0⟩ (fun _=>none) Z:=
 ⟨fun _ _ _ h=>(by cases h),fun _ _ _ h=>(by cases h),fun _ _ _ _ _ h=>(by cases h),fun _ _ _ h=>(by cases h),hZ,fun _ _ _ _ h=>(by cases h),Nat.le_refl _,Nat.le_refl _⟩
theorem kj {pv:Pv} {P:Program} (h:pv.Ok P∧pv.fG∧fy P pv (c9 pv)) {n f:Nat} {ds:List D} {d:D} {te:St} (hs:aZ pv n f ds ⟨[],0,0⟩=some (d,te)) (h0:te.bs=[]) (hr:refs ds=0)
  (st:St) (w:World) (β:Nat→Option (Nat×Nat)) (Z:Nat→Prop) (us:List Value) (eK:eS w st β Z) (hl:ds.length=us.length) (ha:∀(i:Nat) c v,ds[i]?=some c→us[i]?=some v→VR w (st.x β Z) c v):
  Calls P f us.toArray w fun e w'=>∃v β' Z',e=.returned v∧Nx w st β Z w' st β' Z'∧VR w' (st.x β' Z') d v∧Quiet w w':=by
 have hrefs:∀(l:List D),refs l=0→∀c∈l,c.ref≤0:=by
  intro l
  induction l with
  |nil=>intro _ c hc;simp at hc
  |cons x l ih=>
   intro h c hc;simp only[refs] at h
   rcases List.mem_cons.1 hc with rfl|hc
   ·omega
   ·exact ih (by omega) c hc
 refine((f_ h.1 h.2.1 h.2.2 n).calls f ds _ d te hs w (fun _=>none) Z us (eS.nil eK.zl) hl fun i c v hc hv=>?_).mono fun e w'=>?_
 ·exact VR.cut (x:=st.x β Z) (x':=(⟨[],0,0⟩:St).x (fun _=>none) Z) (N:=0) (fun k hk=>absurd hk (Nat.not_lt_zero _)) (fun k hk=>absurd hk (Nat.not_lt_zero _)) (fun b hb=>hb) (ha i c v hc hv) (hrefs ds hr c (List.mem_of_getElem? hc))
 ·rintro⟨v,β',Z',rfl,hn,hv,_⟩
  have l5:∀k p,β' k=some p→False:=fun k p hk=>by
   have:=hn.sim.dom k p.1 p.2 hk;rw[h0] at this;simp at this
  have hq:Quiet w w':=by
   intro c hc;refine hn.evo.block c hc ?_;rintro⟨k,base,h5,_⟩;cases h5
  have Mf:∀b,Z b→Z' b∧w'.heap[b]?=w.heap[b]?:=fun b hb=>⟨(hn.keeps.z b hb).1,hq b (eK.zl b hb)⟩
  have hk:cL w (st.x β Z) w' (st.x β Z'):=⟨fun k p hp=>⟨p,hp⟩,Mf,fun k c p _ hc=>⟨c,hc,Nat.le_refl _⟩,fun k c _ _ b base hb=>⟨hb,dc (hq b (eK.lt k b base hb))⟩⟩
  refine⟨v,β,Z',rfl,⟨⟨eK.dom,fun k b base hb=>Nat.lt_of_lt_of_le (eK.lt k b base hb) hn.evo.size,eK.inj,fun k b base hb hz=>?_,hn.sim.zl,fun k b base bx hb fJ=>(eK.box k b base bx hb fJ).br hk (hq b (eK.lt k b base hb)),eK.flr,eK.ro⟩,hk,
   ⟨hn.evo.os,hn.evo.tape,hn.evo.output,hn.evo.size,fun b hb _=>hq b hb⟩,fun k b base hb=>.inl ⟨base,hb⟩,hn.zfresh,Nat.le_refl _,rfl,rfl,fun k _=>⟨rfl,rfl⟩,fun k _ hk=>⟨hk,rfl⟩⟩,?_,hq⟩
  ·rcases hn.zfresh b hz with hz|hz
   ·exact eK.zd k b base hb hz
   ·have:=eK.lt k b base hb;omega
  ·exact VR.cut (x:=te.x β' Z') (x':=st.x β Z') (N:=0) (fun k hk=>absurd hk (Nat.not_lt_zero _)) (fun k hk=>absurd hk (Nat.not_lt_zero _)) (fun b hb=>hb) hv (VR.ref (fun k p hk=>(l5 k p hk).elim) hv)
def kb (d:D):List D→St→Option (D×St)
 |[],st=>some (d,st)
 |_::_,_=>none
theorem kO {pv:Pv} {P:Program} (h:pv.Ok P∧pv.fG∧fy P pv (c9 pv)) {n f:Nat} {d:D} {te:St} (hs:aZ pv n f [] ⟨[],0,0⟩=some (d,te)) (h0:te.bs=[]):dL P pv f (kb d):=by
 have hc:=f_ h.1 h.2.1 h.2.2 n;refine⟨fun ds st r _=>hc.fn f [] _ _ hs,fun ds st d' ah hp w β Z us eK hl ha=>?_,fun ds st d' ah hp _=>?_,fun ds st d' ah hp=>?_⟩<;>cases ds<;>simp only[kb,Option.some.injEq,Prod.mk.injEq,reduceCtorEq] at hp
 ·obtain⟨rfl,rfl⟩:=hp;refine(kj h hs h0 rfl st w β Z us eK hl ha).mono fun e w'=>?_;rintro⟨v,β',Z',h1,h2,h3,h4⟩;exact⟨v,β',Z',h1,h2,h3,fun _=>h4⟩
 ·rw[←hp.2];exact .rfl _
 ·rw[←hp.2];exact dh.refl _
def eY:List (List D×D)→List D→St→Option (D×St)
 |[],_,_=>none
 |(as,d)::l,ds,st=>match gv as ds with
  |true=>some (d,st)
  |false=>eY l ds st
theorem iq:∀{l:List (List D×D)} {ds:List D} {st ah:St} {d:D},eY l ds st=some (d,ah)→(ds,d)∈l∧ah=st
 |(as,e)::l,ds,st,ah,d,h=>by
  simp only[eY] at h
  split at h
  ·rename_i hb;cases h;rw[eR _ _ hb];exact⟨List.mem_cons_self ..,rfl⟩
  ·obtain⟨h1,h2⟩:=iq h;exact⟨List.mem_cons_of_mem _ h1,h2⟩
theorem jr {pv:Pv} {P:Program} (h:pv.Ok P∧pv.fG∧fy P pv (c9 pv)) {f:Nat} {l:List (List D×D)} (hl:∀q∈l,refs q.1=0∧∃n te,aZ pv n f q.1 ⟨[],0,0⟩=some (q.2,te)∧te.bs=[]):dL P pv f (eY l):=by
 refine⟨fun ds st r hp=>?_,fun ds st d ah hp w β Z us eK hle ha=>?_,fun ds st d ah hp _=>by rw[(iq hp).2];exact .rfl _,fun ds st d ah hp=>?_⟩
 ·obtain⟨hm,_⟩:=iq (d:=r.1) (ah:=r.2) hp;obtain⟨_,n,te,hs,_⟩:=hl _ hm;exact(f_ h.1 h.2.1 h.2.2 n).fn f _ _ _ hs
 ·obtain⟨hm,rfl⟩:=iq hp;obtain⟨hr,n,te,hs,h0⟩:=hl _ hm;refine(kj h hs h0 hr ah w β Z us eK hle ha).mono fun e w'=>?_;rintro⟨v,β',Z',h1,h2,h3,h4⟩;exact⟨v,β',Z',h1,h2,h3,fun _=>h4⟩
 ·rw[(iq hp).2];exact dh.refl _
def lu:List gH→List gH→Bool
 |[],[]=>true
 |a::l,b::m=>oV a b &&lu l m
 |_,_=>false
def xS (a b:St):Bool:=Nat.beq a.flr b.flr &&Nat.beq a.ro b.ro &&lu a.bs b.bs
theorem mL:∀{a b:List gH},lu a b=true→a=b
 |[],[],_=>rfl
 |a::l,b::m,h=>by
  simp only[lu,Bool.and_eq_true] at h;rw[re h.1,mL h.2]
 |[],_::_,h=>by cases h
 |_::_,[],h=>by cases h
theorem uU {a b:St} (h:xS a b=true):a=b:=by
 obtain⟨x,y,z⟩:=a;obtain⟨x',y',z'⟩:=b;simp only[xS,Bool.and_eq_true] at h;have h1:=Nat.eq_of_beq_eq_true h.1.1;have h2:=Nat.eq_of_beq_eq_true h.1.2;have h3:=mL h.2;rw[h1,h2,h3]
def hU (d:D) (st:St):Option (D×St)→Bool
 |some (e,ah)=>dZ e d &&xS ah st
 |none=>false
theorem gk {d:D} {st:St} {r:Option (D×St)} (h:hU d st r=true):r=some (d,st):=by
 match r,h with
 |some (e,ah),h=>
  simp only[hU,Bool.and_eq_true] at h;rw[nr e d h.1,uU h.2]
def pP:List ((List D×St)×(D×St))→List D→St→Option (D×St)
 |[],_,_=>none
 |(k,r)::l,ds,st=>match gv k.1 ds &&xS k.2 st with
  |true=>some r
  |false=>pP l ds st
theorem il:∀{l:List ((List D×St)×(D×St))} {ds:List D} {st:St} {r:D×St},pP l ds st=some r→((ds,st),r)∈l
 |(k,r')::l,ds,st,r,h=>by
  simp only[pP] at h
  split at h
  ·rename_i hb;simp only[Bool.and_eq_true] at hb;cases h;obtain⟨k1,k2⟩:=k;rw[←eR _ _ hb.1,←uU hb.2];exact List.mem_cons_self ..
  ·exact List.mem_cons_of_mem _ (il h)
theorem As {pv rC:Pv} {P:Program} (h:rC.Ok P∧rC.fG∧fy P rC (c9 rC)) (eT:∀f,iu rC f=iu pv f) {f:Nat} {l:List ((List D×St)×(D×St))} (hl:∀q∈l,∃n,aZ rC n f q.1.1 q.1.2=some q.2):dL P pv f (pP l):=by
 refine⟨fun ds st r hp=>?_,fun ds st d ah hp w β Z us eK hle ha=>?_,fun ds st d ah hp hr=>?_,fun ds st d ah hp=>?_⟩
 ·obtain⟨n,hn⟩:=hl _ (il hp);exact(f_ h.1 h.2.1 h.2.2 n).fn f _ _ _ hn
 ·obtain⟨n,hn⟩:=hl _ (il hp);have:=(f_ h.1 h.2.1 h.2.2 n).calls f _ _ _ _ hn w β Z us eK hle ha;rw[eT] at this;exact this
 ·obtain⟨n,hn⟩:=hl _ (il hp);exact(f_ h.1 h.2.1 h.2.2 n).ro f _ _ _ _ hn (by rw[eT];exact hr)
 ·obtain⟨n,hn⟩:=hl _ (il hp);exact(f_ h.1 h.2.1 h.2.2 n).len f _ _ _ _ hn
end Go.V
namespace Go.V
section
variable(P:Pv)
def Ev (f:Nat) (args:List D) (st:St) (d:D) (ah:St):Prop:=
 ∃N,∀n,N≤n→aZ P n f args st=some (d,ah)
abbrev Dy:=List (Nat×List (Nat×Nat))
def af (dy:Dy) (c:Code) (fr:Fr) (st:St) (Q:Out→Fr→St→Prop):Prop:=
 ∃o aE ah,(∃N,∀n,N≤n→bJ P (aZ P n) dy n c fr st=some (o,aE,ah))∧Q o aE ah
def ab (ops:Array Oper) (l:List Oper) (fr:Fr) (st:St) (Q:Fr→St→Prop):Prop:=
 ∃aE ah,(∃N,∀n,N≤n→gA P (aZ P n) ops l fr st=some (aE,ah))∧Q aE ah
def bW (dy:Dy) (b:Code) (Q:Out→Fr→St→Prop):Out→Fr→St→Prop
 | .next,fr,st=>af P dy b fr st Q
 | .exit i,fr,st=>Q (.exit i) fr st
 | .ret,fr,st=>Q .ret fr st
def BL (id:Nat) (Q:Out→Fr→St→Prop):Out→Fr→St→Prop
 | .next,fr,st=>Q .next fr st
 | .exit i,fr,st=>if i=id then Q .next fr st else Q (.exit i) fr st
 | .ret,fr,st=>Q .ret fr st
def NL (I:Nat→Fr→St→Prop) (k:Nat) (Q:Out→Fr→St→Prop):Out→Fr→St→Prop
 | .next,fr,st=>∃j,j<k∧I j fr st
 | .exit i,fr,st=>Q (.exit i) fr st
 | .ret,fr,st=>Q .ret fr st
def et (ops:Array Oper) (dy:List (Nat×Nat)) (j:Nat) (log:Log) (l:List Oper) (fr:Fr) (st:St) (Q:Fr→St→Prop):Prop:=
 ∃aE ah,(∃N,∀n,N≤n→mO P (aZ P n) ops dy j log l fr st=some (aE,ah))∧Q aE ah
variable{P} {dy:Dy}
theorem af.mono {c:Code} {fr st} {Q Q':Out→Fr→St→Prop} (h:af P dy c fr st Q) (hq:∀o aE ah,Q o aE ah→Q' o aE ah):af P dy c fr st Q':=by
 obtain⟨o,aE,ah,h1,h2⟩:=h;exact⟨o,aE,ah,h1,hq _ _ _ h2⟩
theorem af.skip {fr st} {Q:Out→Fr→St→Prop} (h:Q .next fr st):af P dy .skip fr st Q:=⟨_,_,_,⟨0,fun n _=>by simp only[bJ]⟩,h⟩
theorem af.exit {fr st i} {Q:Out→Fr→St→Prop} (h:Q (.exit i) fr st):af P dy (.exit i) fr st Q:=⟨_,_,_,⟨0,fun n _=>by simp only[bJ]⟩,h⟩
theorem af.ret {fr st} {Q:Out→Fr→St→Prop} (h:Q .ret fr st):af P dy .ret fr st Q:=⟨_,_,_,⟨0,fun n _=>by simp only[bJ]⟩,h⟩
theorem af.region {i ops d fr st} {Q:Out→Fr→St→Prop} (h:ab P ops ops.toList fr.clean st (Q .next)) (h0:fm i dy=[]:=by rfl):af P dy (.region i ops d) fr st Q:=by
 obtain⟨aE,ah,⟨N,hN⟩,hq⟩:=h;exact⟨_,aE,ah,⟨N,fun n hn=>by simp only[bJ,h0,tw,hN n hn]⟩,hq⟩
theorem af.EE {i ops d fr st} {Q:Out→Fr→St→Prop} {p:Nat×Nat} {ps:List (Nat×Nat)} (h0:fm i dy=p::ps) (h:et P ops (p::ps) 0 [] ops.toList fr.clean st (Q .next)):af P dy (.region i ops d) fr st Q:=by
 obtain⟨aE,ah,⟨N,hN⟩,hq⟩:=h;exact⟨_,aE,ah,⟨N,fun n hn=>by simp only[bJ,h0,tw,hN n hn]⟩,hq⟩
theorem af.seq {a b fr st} {Q:Out→Fr→St→Prop} (h:af P dy a fr st (bW P dy b Q)):af P dy (.seq a b) fr st Q:=by
 obtain⟨o,aE,ah,⟨N,hN⟩,hq⟩:=h
 cases o with
 |next=>
  obtain⟨o,KA,st2,⟨M,hM⟩,hq⟩:=hq;exact⟨o,KA,st2,⟨max N M,fun n hn=>by simp only[bJ,hN n (by omega),hM n (by omega)]⟩,hq⟩
 |exit i=>exact⟨_,aE,ah,⟨N,fun n hn=>by simp only[bJ,hN n hn]⟩,hq⟩
 |ret=>exact⟨_,aE,ah,⟨N,fun n hn=>by simp only[bJ,hN n hn]⟩,hq⟩
theorem af.cond {c a b fr st v} {Q:Out→Fr→St→Prop} (hv:fr.ev c=.bool v) (h1:v=true→af P dy a fr st Q) (h2:v=false→af P dy b fr st Q):af P dy (.cond c a b) fr st Q:=by
 cases v with
 |true=>
  obtain⟨o,aE,ah,⟨N,hN⟩,hq⟩:=h1 rfl;exact⟨o,aE,ah,⟨N,fun n hn=>by simp only[bJ,hv,hN n hn]⟩,hq⟩
 |false=>
  obtain⟨o,aE,ah,⟨N,hN⟩,hq⟩:=h2 rfl;exact⟨o,aE,ah,⟨N,fun n hn=>by simp only[bJ,hv,hN n hn]⟩,hq⟩
theorem af.block {id c fr st} {Q:Out→Fr→St→Prop} (h:af P dy c fr st (BL id Q)):af P dy (.block id c) fr st Q:=by
 obtain⟨o,aE,ah,⟨N,hN⟩,hq⟩:=h
 cases o with
 |next=>exact⟨_,aE,ah,⟨N,fun n hn=>by simp only[bJ,hN n hn]⟩,hq⟩
 |exit i=>
  simp only[BL] at hq
  split at hq
  ·rename_i hi;exact⟨_,aE,ah,⟨N,fun n hn=>by simp only[bJ,hN n hn,if_pos hi]⟩,hq⟩
  ·rename_i hi;exact⟨_,aE,ah,⟨N,fun n hn=>by simp only[bJ,hN n hn,if_neg hi]⟩,hq⟩
 |ret=>exact⟨_,aE,ah,⟨N,fun n hn=>by simp only[bJ,hN n hn]⟩,hq⟩
theorem af.loop {c:Code} {fr st} {Q:Out→Fr→St→Prop} (I:Nat→Fr→St→Prop) (k:Nat) (h0:I k fr st) (h:∀k fr st,I k fr st→af P dy c fr.clean st (NL I k Q)):af P dy (.loop c) fr st Q:=by
 have key:∀k fr st,I k fr st→∃o aE ah,(∃N,∀n,N≤n→∀m,N≤m→iter (bJ P (aZ P n) dy n c) m fr st=some (o,aE,ah))∧(Q o aE ah):=by
  intro k
  induction k using Nat.strongRecOn with
  |ind k ih=>
   intro fr st hi;obtain⟨o,aE,ah,⟨N,hN⟩,hq⟩:=h k fr st hi
   cases o with
   |next=>
    obtain⟨j,hj,gz⟩:=hq;obtain⟨o,KA,st2,⟨M,hM⟩,hq⟩:=ih j hj aE ah gz;refine⟨o,KA,st2,⟨max N M+1,fun n hn m hm=>?_⟩,hq⟩
    obtain⟨m,rfl⟩:∃m',m=m'+1:=⟨m-1,by omega⟩
    simp only[iter,hN n (by omega),hM n (by omega) m (by omega)]
   |exit i=>
    refine⟨_,aE,ah,⟨N+1,fun n hn m hm=>?_⟩,hq⟩
    obtain⟨m,rfl⟩:∃m',m=m'+1:=⟨m-1,by omega⟩
    simp only[iter,hN n (by omega)]
   |ret=>
    refine⟨_,aE,ah,⟨N+1,fun n hn m hm=>?_⟩,hq⟩
    obtain⟨m,rfl⟩:∃m',m=m'+1:=⟨m-1,by omega⟩
    simp only[iter,hN n (by omega)]
 obtain⟨o,aE,ah,⟨N,hN⟩,hq⟩:=key k fr st h0;exact⟨o,aE,ah,⟨N,fun n hn=>by simp only[bJ,hN n hn n hn]⟩,hq⟩
theorem Ev.of {f x body args st d ah} (hq:jv f P.prm=none) (hf:P.fi f=some x) (hp:x.iX=none) (hb:x.fn.body=some body)
  (h:af P x.dyn body (pad x.nloc args) (ai x.mode st) fun o fr st1=>(∀i,o≠.exit i)∧∃ds,iF P fr st1 x.fn.results.toList=some ds∧cD x.mode x.knul st st1 (o_ ds)=some (d,ah)):Ev P f args st d ah:=by
 obtain⟨o,aE,st1,⟨N,hN⟩,ho,ds,hr,hl⟩:=h;refine⟨N+1,fun n hn=>?_⟩
 obtain⟨m,rfl⟩:∃m',n=m'+1:=⟨n-1,by omega⟩
 simp only[aZ,hq,hf,hp,hb,uT];rw[hN m (by omega)]
 cases o with
 |next=>simp only[hr,hl]
 |exit i=>exact absurd rfl (ho i)
 |ret=>simp only[hr,hl]
theorem ab.nil {ops fr st} {Q:Fr→St→Prop} (h:Q fr st):ab P ops [] fr st Q:=⟨fr,st,⟨0,fun n _=>rfl⟩,h⟩
def gm:Op→Bool
 | .call ⟨.value _,_,_⟩=>true
 |_=>false
theorem Ac {cf fr st} {o:Oper} (h:gm o.op=false):dS P cf fr st o=di P fr st o.op o.type:=by
 unfold dS
 split
 ·rename_i heq;rw[heq] at h;simp[gm] at h
 ·rfl
theorem ab.op {ops o rest fr st d st1} {Q:Fr→St→Prop} (hg:aA ops fr o=some true) (hc:gm o.op=false) (h1:di P fr st o.op o.type=some (d,st1))
  (h:ab P ops rest (fr.aC o.dst d) st1 Q):ab P ops (o::rest) fr st Q:=by
 obtain⟨aE,ah,⟨N,hN⟩,hq⟩:=h;exact⟨aE,ah,⟨N,fun n hn=>by simp only[gA,hg,Ac hc,h1,hN n hn]⟩,hq⟩
theorem ab.off {ops o rest fr st} {Q:Fr→St→Prop} (hg:aA ops fr o=some false)
  (h:ab P ops rest (fr.aC o.dst (.tup [])) st Q):ab P ops (o::rest) fr st Q:=by
 obtain⟨aE,ah,⟨N,hN⟩,hq⟩:=h;exact⟨aE,ah,⟨N,fun n hn=>by simp only[gA,hg,hN n hn]⟩,hq⟩
theorem ab.call {ops rest fr st d st1 f g hD args tc dst type pos} {after guard} {Q:Fr→St→Prop} (hg:aA ops fr ⟨dst,.call ⟨.value f,args,tc⟩,type,pos,after,guard⟩=some true) (hf:fr.ev f=.fn g hD)
  (h1:Ev P g (args.toList.map fr.ev++hD) st d st1)
  (h:ab P ops rest (fr.aC dst d) st1 Q):ab P ops (⟨dst,.call ⟨.value f,args,tc⟩,type,pos,after,guard⟩::rest) fr st Q:=by
 obtain⟨aE,ah,⟨N,hN⟩,hq⟩:=h;obtain⟨M,hM⟩:=h1;exact⟨aE,ah,⟨max N M,fun n hn=>by simp only[gA,hg,dS,hf,hM n (by omega),hN n (by omega)]⟩,hq⟩
theorem et.nil {ops ys j log fr st} {Q:Fr→St→Prop} (h:Q fr st):et P ops ys j log [] fr st Q:=⟨fr,st,⟨0,fun n _=>rfl⟩,h⟩
theorem et.cons {ops ys j log o rest fr st} {Q:Fr→St→Prop} (h:ab P ops [o] fr st fun aE ah=>Br ys j log o fr st ah=true∧et P ops ys (j+1) ((o,fr,st,ah)::log) rest aE ah Q):et P ops ys j log (o::rest) fr st Q:=by
 obtain⟨KB,st1,⟨N,hN⟩,hc,KA,st2,⟨M,hM⟩,hq⟩:=h;refine⟨KA,st2,⟨max N M,fun n hn=>?_⟩,hq⟩;have h1:=hN n (by omega);have h2:=hM n (by omega);simp only[gA] at h1;simp only[mO]
 split at h1
 ·rename_i hw
  split at h1
  ·rename_i d ah eU;cases h1;simp only[eU,hc,h2]
  ·cases h1
 ·rename_i hw;cases h1;exact h2
 ·cases h1
theorem Ev.out {f args st d ah} (h:Ev P f args st d ah):∃N,∀n,N≤n→aZ P n f args st=some (d,ah):=h
theorem Ev.iX {f args st d ah p} (hq:jv f P.prm=some p) (h:p args st=some (d,ah)):Ev P f args st d ah:=
 ⟨1,fun n hn=>by
  obtain⟨m,rfl⟩:∃m',n=m'+1:=⟨n-1,by omega⟩
  simp only[aZ,hq,h]⟩
end
attribute [irreducible] Ev af ab et
end Go.V
namespace Go.V
theorem af.eX {P:Pv} {dy:Dy} {i:Nat} {l:List Oper} {d n loc tmp st} {Q:Out→Fr→St→Prop} (h:ab P l.toArray l ⟨n,loc,[]⟩ st (Q .next)) (h0:fm i dy=[]:=by rfl):af P dy (.region i l.toArray d) ⟨n,loc,tmp⟩ st Q:=af.region h h0
theorem af.zQ {P:Pv} {dy:Dy} {i:Nat} {l:List Oper} {d n loc tmp st} {Q:Out→Fr→St→Prop} {p:Nat×Nat} {ps:List (Nat×Nat)} (h0:fm i dy=p::ps) (h:et P l.toArray (p::ps) 0 [] l ⟨n,loc,[]⟩ st (Q .next)):af P dy (.region i l.toArray d) ⟨n,loc,tmp⟩ st Q:=af.EE h0 h
theorem Ev.nZ {P:Pv} {f x body args st d ah n loc} (hq:jv f P.prm=none) (hf:P.fi f=some x) (hp:x.iX=none) (hb:x.fn.body=some body) (AQ:pad x.nloc args=⟨n,loc,[]⟩)
  (h:af P x.dyn body ⟨n,loc,[]⟩ (ai x.mode st) fun o fr st1=>(∀i,o≠.exit i)∧∃ds,iF P fr st1 x.fn.results.toList=some ds∧cD x.mode x.knul st st1 (o_ ds)=some (d,ah)):Ev P f args st d ah:=
 Ev.of hq hf hp hb (by rw[AQ];exact h)
section
variable{P:Pv} {ops:Array Oper} {rest:List Oper} {n:Nat} {loc:List D} {tmp:List (Nat×D)} {st st1:St} {Q:Fr→St→Prop} {op:Op} {ty:TypeId} {p:String} {a:Array Edge} {g:Option (Nat×Bool)} {t:Nat} {d:D}
theorem ag (hb:Nat.ble n t=true) (d:D):Fr.put ⟨n,loc,tmp⟩ t d=⟨n,loc,(t,d)::tmp⟩:=by
 simp only[Fr.put,hb]
theorem FV (hb:Nat.ble n t=false) (d:D):Fr.put ⟨n,loc,tmp⟩ t d=⟨n,loc.set t d,tmp⟩:=by
 simp only[Fr.put,hb]
theorem ab.T (hb:Nat.ble n t=true) (hg:aA ops ⟨n,loc,tmp⟩ ⟨some t,op,ty,p,a,g⟩=some true) (hc:gm op=false) (h1:di P ⟨n,loc,tmp⟩ st op ty=some (d,st1))
  (h:ab P ops rest ⟨n,loc,(t,d)::tmp⟩ st1 Q):ab P ops (⟨some t,op,ty,p,a,g⟩::rest) ⟨n,loc,tmp⟩ st Q:=
 ab.op hg hc h1 (by show ab P ops rest (Fr.put _ t d) st1 Q;rw[ag hb];exact h)
theorem ab.L (hb:Nat.ble n t=false) (hg:aA ops ⟨n,loc,tmp⟩ ⟨some t,op,ty,p,a,g⟩=some true) (hc:gm op=false) (h1:di P ⟨n,loc,tmp⟩ st op ty=some (d,st1))
  (h:ab P ops rest ⟨n,loc.set t d,tmp⟩ st1 Q):ab P ops (⟨some t,op,ty,p,a,g⟩::rest) ⟨n,loc,tmp⟩ st Q:=
 ab.op hg hc h1 (by show ab P ops rest (Fr.put _ t d) st1 Q;rw[FV hb];exact h)
theorem ab.N {fr:Fr} (hg:aA ops fr ⟨none,op,ty,p,a,g⟩=some true) (hc:gm op=false) (h1:di P fr st op ty=some (d,st1))
  (h:ab P ops rest fr st1 Q):ab P ops (⟨none,op,ty,p,a,g⟩::rest) fr st Q:=ab.op hg hc h1 h
theorem ab.Oo (hb:Nat.ble n t=true) (hg:aA ops ⟨n,loc,tmp⟩ ⟨some t,op,ty,p,a,g⟩=some false)
  (h:ab P ops rest ⟨n,loc,(t,.tup [])::tmp⟩ st Q):ab P ops (⟨some t,op,ty,p,a,g⟩::rest) ⟨n,loc,tmp⟩ st Q:=
 ab.off hg (by show ab P ops rest (Fr.put _ t _) st Q;rw[ag hb];exact h)
theorem ab.Oq (hb:Nat.ble n t=false) (hg:aA ops ⟨n,loc,tmp⟩ ⟨some t,op,ty,p,a,g⟩=some false)
  (h:ab P ops rest ⟨n,loc.set t (.tup []),tmp⟩ st Q):ab P ops (⟨some t,op,ty,p,a,g⟩::rest) ⟨n,loc,tmp⟩ st Q:=
 ab.off hg (by show ab P ops rest (Fr.put _ t _) st Q;rw[FV hb];exact h)
theorem ab.Gh {f gn:_} {hD:List D} {args:Array Operand} {tc:Array TypeId} (hb:Nat.ble n t=true) (hg:aA ops ⟨n,loc,tmp⟩ ⟨some t,.call ⟨.value f,args,tc⟩,ty,p,a,g⟩=some true) (hf:Fr.ev ⟨n,loc,tmp⟩ f=.fn gn hD)
  (h1:Ev P gn (args.toList.map (Fr.ev ⟨n,loc,tmp⟩)++hD) st d st1)
  (h:ab P ops rest ⟨n,loc,(t,d)::tmp⟩ st1 Q):ab P ops (⟨some t,.call ⟨.value f,args,tc⟩,ty,p,a,g⟩::rest) ⟨n,loc,tmp⟩ st Q:=
 ab.call hg hf h1 (by show ab P ops rest (Fr.put _ t d) st1 Q;rw[ag hb];exact h)
end
inductive Rows (st:St) (s:Nat):D→List (List D)→Prop where
 |nul:Rows st s .nul []
 |sl (es:List D) (h:∀e∈es,e.cells?=some e.cells∧e.cells.length=s):Rows st s (.sl es) (es.map D.cells)
 |win (k ax off:Nat) (es:List (List D)) (ar:Bool) (c:List D) (hm:st.dO k ax=some (ar,c)) (hl:off+es.length*s≤c.length)
   (he:∀(i:Nat) e,es[i]?=some e→(c.drop (off+i*s)).take s=e):Rows st s (.win k ax off es.length s) es
theorem Rows.sI {st:St} {s:Nat} {x:D} {es:List (List D)} (h:Rows st s x es):∀(i:Nat) e,es[i]?=some e→e.length=s:=by
 cases h with
 |nul=>intro i e h;simp at h
 |sl es h=>
  intro i e hi;rw[List.getElem?_map] at hi;obtain⟨d,hd,rfl⟩:=Option.map_eq_some_iff.1 hi;exact(h d (List.mem_of_getElem? hd)).2
 |win k ax off es ar c hm hl he=>
  intro i e hi
  have hlt:i<es.length:=by
   rcases Nat.lt_or_ge i es.length with h'|h'
   ·exact h'
   ·rw[List.getElem?_eq_none h'] at hi;cases hi
  rw[←he i e hi];have:(i+1)*s≤es.length*s:=Nat.mul_le_mul_right s hlt;rw[Nat.add_mul] at this
  simp;omega
theorem Rows.len {st:St} {s:Nat} {x:D} {es:List (List D)} (h:Rows st s x es):uc x=some es.length∧∀b,x≠.str b:=by
 cases h with
 |nul=>exact⟨rfl,fun b h=>by cases h⟩
 |sl es h=>exact⟨by simp[uc],fun b h=>by cases h⟩
 |win k ax off es ar c hm hl he=>exact⟨rfl,fun b h=>by cases h⟩
theorem Rows.FW {P:Pv} {st:St} {s:Nat} {x:D} {es:List (List D)} (h:Rows st s x es) {t e:TypeId} (ht:P.cq t=some (.slice e)):
  bk P .len [t] [x] st=some (.int .i64 (es.length:Nat),st):=by
 obtain⟨h1,h2⟩:=h.len;simp only[bk,ht]
 cases x with
 |str b=>exact absurd rfl (h2 b)
 |_=>simp only[h1];rfl
theorem vh {P:Pv} {e:TypeId} {c c':List D} {s:Nat} {d:D} (hs:bT P e=some s) (hc:c.take s=c') (hl:c'.length=s) (h:c7 P e c'=some d):c7 P e c=some d:=by
 have hlen:s≤c.length:=by rw[←hc] at hl;simp at hl;omega
 unfold c7 at h⊢
 cases hu:P.cq e with
 |none=>rw[hu] at h;cases h
 |some u=>
  rw[hu] at h
  cases u with
  |struct f=>
   simp only[hs,Option.bind_some] at h⊢;rw[if_pos (by omega)] at h;rw[if_pos hlen,hc];rw[←h,List.take_of_length_le (by omega)]
  |array n f=>
   simp only[hs,Option.bind_some] at h⊢;rw[if_pos (by omega)] at h;rw[if_pos hlen,hc];rw[←h,List.take_of_length_le (by omega)]
  |_=>
   simp only at h⊢;rw[←h,←hc]
   cases c with
   |nil=>simp
   |cons x xs=>
    cases s with
    |zero=>simp at hc;subst hc;simp at h
    |succ s=>simp
theorem Rows.idx {P:Pv} {st:St} {s:Nat} {x:D} {es:List (List D)} (h:Rows st s x es) {t e:TypeId} (ht:P.cq t=some (.slice e)) (hs:bT P e=some s) {k:IntKind} {i:Int} {r:List D} (h0:0≤i) (hi:es[i.toNat]?=some r):
  ∃p,bM P t x (.int k i) st=some p∧∀d,c7 P e r=some d→eZ P e p st=some d:=by
 cases h with
 |nul=>simp at hi
 |sl es h=>
  rw[List.getElem?_map] at hi;obtain⟨d,hd,rfl⟩:=Option.map_eq_some_iff.1 hi;obtain⟨h1,h2⟩:=h d (List.mem_of_getElem? hd);refine⟨.ep d.cells,?_,fun d' h=>h⟩;simp only[bM,ht,hs,Option.bind_some,if_pos h0,hd,h1,if_pos h2]
 |win k ax off es ar c hm hl he=>
  have hlt:i.toNat<es.length:=by
   rcases Nat.lt_or_ge i.toNat es.length with h'|h'
   ·exact h'
   ·rw[List.getElem?_eq_none h'] at hi;cases hi
  refine⟨.ptr k ax (off+i.toNat*s),?_,fun d' h=>?_⟩
  ·simp only[bM,ht,hs,Option.bind_some,hm,Option.isSome_some];rw[if_pos ⟨trivial,h0,by omega,trivial⟩]
  ·simp only[eZ,hm,Option.bind_some];exact vh hs (he _ _ hi) (Rows.sI (.win k ax off es ar c hm hl he) _ _ hi) h
theorem ab.gL {P:Pv} {ops:Array Oper} {rest:List Oper} {n:Nat} {loc:List D} {tmp:List (Nat×D)} {st:St} {Q:Fr→St→Prop} {t e:TypeId} {xo io:Operand} {d1 d2:Nat} {RJ ml:TypeId} {p1 p2:String} {a1 a2:Array Edge} {g1 g2:Option (Nat×Bool)} {x:D} {k:IntKind} {i:Int} {s:Nat} {es:List (List D)} {r:List D} {d:D}
  (hb1:Nat.ble n d1=true) (hb2:Nat.ble n d2=true) (cS:aA ops ⟨n,loc,tmp⟩ ⟨some d1,.indexAddr t xo io,RJ,p1,a1,g1⟩=some true) (bf:∀p,aA ops ⟨n,loc,(d1,p)::tmp⟩ ⟨some d2,.load e (.tmp d1),ml,p2,a2,g2⟩=some true)
  (hx:Fr.ev ⟨n,loc,tmp⟩ xo=x) (hi:Fr.ev ⟨n,loc,tmp⟩ io=.int k i) (hR:Rows st s x es) (ht:P.cq t=some (.slice e)) (hs:bT P e=some s) (h0:0≤i) (hr:es[i.toNat]?=some r) (hd:c7 P e r=some d)
  (h:∀p,ab P ops rest ⟨n,loc,(d2,d)::(d1,p)::tmp⟩ st Q):ab P ops (⟨some d1,.indexAddr t xo io,RJ,p1,a1,g1⟩::⟨some d2,.load e (.tmp d1),ml,p2,a2,g2⟩::rest) ⟨n,loc,tmp⟩ st Q:=by
 obtain⟨p,h1,h2⟩:=hR.idx ht hs (k:=k) h0 hr;refine ab.T hb1 cS rfl (d:=p) (st1:=st) (by simp only[di,hx,hi,h1,Option.map_some])<|ab.T hb2 (bf p) rfl (d:=d) (st1:=st) ?_ (h p)
 have:Fr.ev ⟨n,loc,(d1,p)::tmp⟩ (.tmp d1)=p:=by
  simp only[Fr.ev,Fr.get,hb1,look];have:Nat.beq d1 d1=true:=Nat.beq_refl d1;rw[this]
 simp only[di,this,h2 d hd,Option.map_some]
def byteCells (b:List UInt8):List (List D):=b.map fun y=>[.int .u8 (y.toNat:Nat)]
def Bytes (st:St) (x:D) (b:List UInt8):Prop:=Rows st 1 x (byteCells b)
theorem bA {m:Mode} {kn:Bool} {st st1:St} {d d':D} (hm:m≠.br∧m≠.nw) (h1:st1.bs.take st.bs.length=st.bs) (hd:bo st1 st.bs.length kn 16 d=some d'):cD m kn st st1 d=some (d',st):=by
 cases m with
 |br=>exact absurd rfl hm.1
 |nw=>exact absurd rfl hm.2
 |_=>simp only[cD,hd,h1]
end Go.V
namespace Go.V
structure Ex (N:Nat) (st ah:St):Prop where
 low:∀k,k<N→ah.bs[k]?=st.bs[k]?
 len:st.bs.length≤ah.bs.length
 flr:ah.flr=st.flr
 ro:ah.ro=st.ro
theorem Ex.refl (N:Nat) (st:St):Ex N st st:=⟨fun _ _=>rfl,Nat.le_refl _,rfl,rfl⟩
theorem Ex.trans {N:Nat} {a b c:St} (h:Ex N a b) (g:Ex N b c):Ex N a c:=
 ⟨fun k hk=>(g.low k hk).trans (h.low k hk),Nat.le_trans h.len g.len,g.flr.trans h.flr,g.ro.trans h.ro⟩
theorem Ex.push {N:Nat} {st:St} (h:N≤st.bs.length) (b:gH):Ex N st (st.push b):=
 ⟨fun k hk=>by simp only[St.push];rw[List.getElem?_append_left (by omega)],by simp[St.push],rfl,rfl⟩
theorem Ex.set {N:Nat} {st:St} {k:Nat} (h:N≤k) (b:gH):Ex N st {st with bs:=st.bs.set k b}:=
 ⟨fun j hj=>by simp only;rw[List.getElem?_set_ne (by omega)],by simp,rfl,rfl⟩
theorem Ex.take {N:Nat} {st ah:St} (h:Ex N st ah) (hN:N=st.bs.length):ah.bs.take N=st.bs:=by
 apply List.ext_getElem?;intro k;rw[List.getElem?_take]
 split
 ·exact h.low k (by assumption)
 ·rw[List.getElem?_eq_none (by omega)]
theorem Ex.mem {N:Nat} {st ah:St} (h:Ex N st ah) {k v:Nat} (hk:k<N):ah.dO k v=st.dO k v:=by
 simp only[St.dO,h.low k hk]
theorem Rows.ex {N:Nat} {st ah:St} (h:Ex N st ah) {s:Nat} {x:D} {es:List (List D)} (hr:Rows st s x es) (hx:x.ref≤N):Rows ah s x es:=by
 cases hr with
 |nul=>exact .nul
 |sl es h=>exact .sl es h
 |win k ax off es ar c hm hl he=>exact .win k ax off es ar c (by rw[h.mem (by simp only[D.ref] at hx;omega)];exact hm) hl he
theorem Rows.slice {P:Pv} {st:St} {s:Nat} {x:D} {es:List (List D)} (h:Rows st s x es) {t e:TypeId} (ht:P.cq t=some (.slice e)) (hs:bT P e=some s) {lo hi:Option D} {l r:Nat} (hb:cT es.length lo hi=some (l,r)) (vb:l≤r∧r≤es.length):
  ∃y,fN P t x lo hi st=some y∧Rows st s y ((es.take r).drop l)∧y.ref≤x.ref:=by
 cases h with
 |nul=>
  refine⟨.nul,?_,?_,Nat.le_refl _⟩
  ·simp only[fN,ht,hs,Option.bind_some];simp only[List.length_nil] at hb;rw[hb];rfl
  ·simp;exact .nul
 |sl es h=>
  refine⟨.sl ((es.take r).drop l),?_,?_,by simp[D.ref]⟩
  ·simp only[fN,ht,hs,Option.bind_some]
   have:oA s es=true:=by
    cases es with
    |nil=>rfl
    |cons e es=>obtain⟨h1,h2⟩:=h e (List.mem_cons_self ..);simp[oA,h1,h2]
   rw[if_pos this];simp only[List.length_map] at hb;rw[hb];rfl
  ·have:=Rows.sl (st:=st) (s:=s) ((es.take r).drop l) fun e he=>h e (List.mem_of_mem_take (List.mem_of_mem_drop he))
   simpa[List.map_drop,List.map_take] using this
 |win k ax off es ar c hm hl he=>
  have hlen:((es.take r).drop l).length=r-l:=by simp;omega
  refine⟨.win k ax (off+l*s) (r-l) s,?_,?_,by simp[D.ref]⟩
  ·simp only[fN,ht,hs,Option.bind_some,if_true,hb];rfl
  ·have h1:l*s+(r-l)*s≤es.length*s:=by rw[←Nat.add_mul];exact Nat.mul_le_mul_right s (by omega)
   have:=Rows.win (st:=st) (s:=s) k ax (off+l*s) ((es.take r).drop l) ar c hm (by rw[hlen];omega) (fun i e hi=>by
    rw[List.getElem?_drop,List.getElem?_take] at hi
    split at hi
    ·have:=he _ _ hi;rw[←this,Nat.add_mul];congr 2;omega
    ·cases hi)
   rwa [hlen] at this
inductive Acc (N:Nat) (st:St) (s:Nat):D→List (List D)→Prop where
 |nul:Acc N st s .nul []
 |win (k ax:Nat) (es:List (List D)) (hN:N≤k) (hm:st.bs[k]?=some (.mem ax true es.flatten)) (he:∀e∈es,e.length=s):Acc N st s (.win k ax 0 es.length s) es
theorem cx {s:Nat}:∀{es:List (List D)},(∀e∈es,e.length=s)→es.flatten.length=es.length*s
 |[],_=>by simp
 |e::es,h=>by
  have:=cx (s:=s) (es:=es) fun x hx=>h x (List.mem_cons_of_mem _ hx);simp only[List.flatten_cons,List.length_append,List.length_cons,this,h e (List.mem_cons_self ..)];rw[Nat.add_mul];omega
theorem jX {s:Nat}:∀{es:List (List D)},(∀e∈es,e.length=s)→∀(i:Nat) e,es[i]?=some e→(es.flatten.drop (i*s)).take s=e
 |[],_,i,e,h=>by simp at h
 |x::es,h,0,e,hi=>by
  simp at hi;subst hi;have:=h x (List.mem_cons_self ..);simp[List.take_left' this]
 |x::es,h,i+1,e,hi=>by
  simp only[List.getElem?_cons_succ] at hi;have hx:=h x (List.mem_cons_self ..);have:=jX (s:=s) (es:=es) (fun y hy=>h y (List.mem_cons_of_mem _ hy)) i e hi;rw[←this,List.flatten_cons,Nat.add_mul,Nat.one_mul,Nat.add_comm,←hx,←List.drop_drop,List.drop_left]
theorem St.mem_of {st:St} {k ax:Nat} {ar:Bool} {c:List D} (h:st.bs[k]?=some (.mem ax ar c)):st.dO k ax=some (ar,c):=by
 simp only[St.dO,h,if_true]
theorem Acc.rows {N:Nat} {st:St} {s:Nat} {x:D} {es:List (List D)} (h:Acc N st s x es):Rows st s x es:=by
 cases h with
 |nul=>exact .nul
 |win k ax es hN hm he=>
  exact .win k ax 0 es true es.flatten (St.mem_of hm) (by rw[cx he];omega) fun i e hi=>by rw[Nat.zero_add];exact jX he i e hi
theorem Acc.ex {N M:Nat} {st ah:St} (h:Ex M st ah) {s:Nat} {x:D} {es:List (List D)} (hr:Acc N st s x es) (hx:x.ref≤M):Acc N ah s x es:=by
 cases hr with
 |nul=>exact .nul
 |win k ax es hN hm he=>exact .win k ax es hN (by rw[h.low k (by simp only[D.ref] at hx;omega)];exact hm) he
theorem Acc.push {N:Nat} {st:St} {s:Nat} {x:D} {es:List (List D)} (hr:Acc N st s x es) (b:gH):Acc N (st.push b) s x es:=by
 cases hr with
 |nul=>exact .nul
 |win k ax es hN hm he=>
  refine .win k ax es hN ?_ he;simp only[St.push];rw[List.getElem?_append_left];exact hm
  rcases Nat.lt_or_ge k st.bs.length with h'|h'
  ·exact h'
  ·rw[List.getElem?_eq_none h'] at hm;cases hm
theorem Rows.row {st:St} {s:Nat} {x:D} {es:List (List D)} (h:Rows st s x es):nJ st x=some (es.length,es.flatten):=by
 have hl:=h.sI
 cases h with
 |nul=>rfl
 |sl es h=>
  simp only[nJ,List.length_map];rw[List.flatMap_def]
 |win k ax off es ar c hm gb he=>
  simp only[nJ,hm,Option.bind_some,if_pos gb]
  congr 2
  have key:∀(es:List (List D)) (c:List D),es.length*s≤c.length→(∀(i:Nat) e,es[i]?=some e→(c.drop (i*s)).take s=e)→c.take (es.length*s)=es.flatten:=by
   intro es
   induction es with
   |nil=>intro c _ _;simp
   |cons e es ih=>
    intro c hc hx;have h0:=hx 0 e rfl;simp only[Nat.zero_mul,List.drop_zero] at h0;rw[List.flatten_cons,List.length_cons,Nat.add_mul,Nat.one_mul,Nat.add_comm,List.take_add,h0]
    congr 1
    simp only[List.length_cons,Nat.add_mul,Nat.one_mul] at hc;refine ih (c.drop s) (by simp;omega) fun i e hi=>?_;rw[List.drop_drop,←hx (i+1) e (by simpa using hi),Nat.add_mul,Nat.one_mul,Nat.add_comm]
  refine key es (c.drop off) (by simp;omega) fun i e hi=>?_;rw[List.drop_drop];exact he i e hi
theorem Acc.append {P:Pv} {N:Nat} {st:St} {s:Nat} {x y:D} {es ys:List (List D)} (hr:Acc N st s x es) (hy:Rows st s y ys) {t1 t2 e:TypeId} {td:TypeDesc} {inf:TypeInfo} {z:List D}
  (h1:P.cq t1=some (.slice e)) (h2:P.cq t2=some td) (h3:fq td=false) (h4:P.info e=some inf) (h5:cO P e=some z) (h6:inf.size=s) (h7:z.length=s) (h8:inf.bytes≠0)
  (hN:N≤st.bs.length) (hf:st.flr≤N) (eT:st.ro≤N) (hb:(es.length+ys.length)*inf.bytes≤1099511627776):
  ∃x' ah,bk P .append [t1,t2] [x,y] st=some (x',ah)∧Acc N ah s x' (es++ys)∧Ex N st ah∧x'.ref≤ah.bs.length∧(∀k,k<st.bs.length→k+1≠x.ref→ah.bs[k]?=st.bs[k]?)∧(x'.ref=x.ref∨st.bs.length<x'.ref):=by
 have i7:=hy.row
 have AF:∀e∈ys,e.length=s:=fun e he=>by
  obtain⟨i,hi⟩:=List.getElem?_of_mem he;exact hy.sI i e hi
 have mT:=cx AF;subst h6;simp only[bk,f',h1,h2,h3,Bool.false_eq_true,if_false,h4,h5,i7,Option.bind_some];rw[if_neg (by rintro(h|h|h);exact h mT;exact h8 h;exact h h7)]
 cases hr with
 |nul=>
  simp only[List.nil_append]
  by_cases h0:ys.length=0
  ·rw[if_pos h0]
   have:ys=[]:=by cases ys with|nil=>rfl|cons _ _=>simp at h0
   subst this;exact⟨.nul,st,rfl,.nul,Ex.refl _ _,by simp[D.ref],fun _ _ _=>rfl,.inl rfl⟩
  ·rw[if_neg h0,if_pos (by simpa using hb)];refine⟨_,_,rfl,?_,Ex.push hN _,by simp[D.ref,St.push],fun k hk _=>by simp only[St.push];rw[List.getElem?_append_left hk],.inr (by simp[D.ref])⟩;exact .win _ _ ys hN (by simp[St.push]) AF
 |win k ax es hk hm he=>
  have gM:k<st.bs.length:=by
   rcases Nat.lt_or_ge k st.bs.length with h'|h'
   ·exact h'
   ·rw[List.getElem?_eq_none h'] at hm;cases hm
  simp only[St.mem_of hm];rw[if_neg (by rintro(h|h);exact h rfl;rw[cx he] at h;omega)]
  by_cases h0:ys.length=0
  ·rw[if_pos h0]
   have:ys=[]:=by cases ys with|nil=>rfl|cons _ _=>simp at h0
   subst this;simp only[List.append_nil];exact⟨_,st,rfl,.win k ax es hk hm he,Ex.refl _ _,by simp only[D.ref];omega,fun _ _ _=>rfl,.inl rfl⟩
  ·rw[if_neg h0,if_pos ⟨hb,by simp only[St.j9,Bool.and_eq_true,Bool.or_eq_true,decide_eq_true_eq];exact⟨by omega,.inl (by omega)⟩⟩];refine⟨_,_,rfl,?_,Ex.set hk _,by simp only[D.ref,List.length_set];omega,fun j hj hne=>by simp only;rw[List.getElem?_set_ne (by simp only[D.ref] at hne;omega)],.inl rfl⟩
   have:(es.flatten.take (0+es.length*inf.size)).drop 0++ys.flatten=(es++ys).flatten:=by
    rw[Nat.zero_add,←cx he,List.take_length,List.drop_zero,List.flatten_append]
   rw[this];have vc:es.length+ys.length=(es++ys).length:=by simp
   rw[vc]
   exact .win k (ax+1) (es++ys) hk (by simp[gM]) fun e h=>by
    rcases List.mem_append.1 h with h|h
    ·exact he e h
    ·exact AF e h
def bX:D→Bool
 | .bool _| .int _ _| .str _| .sl _=>true
 |_=>false
theorem iI {st:St} {N n:Nat}:∀{l:List D},(∀d∈l,bX d=true)→fZ (dR st N (n+1)) l=some l
 |[],_=>rfl
 |d::l,h=>by
  have h1:=h d (List.mem_cons_self ..);have h2:=iI (st:=st) (N:=N) (n:=n) fun x hx=>h x (List.mem_cons_of_mem _ hx);have h3:dR st N (n+1) d=some d:=by cases d<;>simp[bX] at h1<;>rfl
  simp only[fZ,h3,h2]
def ja (s:Nat) (e:List D):D:=match s with|1=>e.headD .bp|_=>.agg e
theorem fv {s:Nat}:∀{es:List (List D)},(∀e∈es,e.length=s)→chunk s es.length es.flatten=es.map (ja s)
 |[],_=>rfl
 |e::es,h=>by
  have he:=h e (List.mem_cons_self ..);have ih:=fv (s:=s) (es:=es) fun x hx=>h x (List.mem_cons_of_mem _ hx);simp only[List.length_cons,chunk,List.flatten_cons,List.map_cons]
  congr 1
  ·by_cases hs:s=1
   ·subst hs
    cases e with
    |nil=>simp at he
    |cons x xs=>simp[ja]
   ·have h1:ja s e=.agg e:=by unfold ja;split;exact absurd rfl hs;rfl
    have h2:(match s with|1=>(e++es.flatten).headD .bp|_=>D.agg ((e++es.flatten).take s))=.agg e:=by
     split
     ·exact absurd rfl hs
     ·rw[List.take_left' he]
    rw[h1];exact h2
  ·rw[List.drop_left' he];exact ih
theorem Acc.freeze {N:Nat} {st:St} {s:Nat} {x:D} {es:List (List D)} (h:Acc N st s x es) (hp:∀e∈es,∀d∈e,bX d=true) {n:Nat} (hn:2≤n):bo st N false (n+1) x=some (.sl (es.map (ja s))):=by
 obtain⟨n,rfl⟩:∃m,n=m+2:=⟨n-2,by omega⟩
 cases h with
 |nul=>rfl
 |win k ax es hN hm he=>
  show(if k<N then some (D.win k ax 0 es.length s) else dR st N (n+2) (.win k ax 0 es.length s))=_;rw[if_neg (show¬k<N by omega),dR];simp only[if_neg (show¬k<N by omega),St.mem_of hm,Option.bind_some];rw[if_pos (by rw[cx he];omega)];have:(es.flatten.drop 0).take (es.length*s)=es.flatten:=by rw[List.drop_zero,←cx he,List.take_length]
  rw[this,iI (fun d hd=>by
   obtain⟨e,ni,xA⟩:=List.mem_flatten.1 hd
   exact hp e ni d xA)]
  simp only[Option.map_some,fv he]
theorem jZ {s:Nat} {e:List D} (h:e.length=s) (hp:∀d∈e,bX d=true):(ja s e).cells?=some (ja s e).cells∧(ja s e).cells=e:=by
 by_cases hs:s=1
 ·subst hs
  match e,h with
  |[x],_=>
   have:=hp x (List.mem_cons_self ..);cases x<;>simp[bX] at this<;>exact⟨rfl,rfl⟩
 ·have:ja s e=.agg e:=by unfold ja;split;exact absurd rfl hs;rfl
  rw[this];exact⟨rfl,rfl⟩
theorem Rows.tP {st:St} {s:Nat} {es:List (List D)} (h:∀e∈es,e.length=s) (hp:∀e∈es,∀d∈e,bX d=true):Rows st s (.sl (es.map (ja s))) es:=by
 have:=Rows.sl (st:=st) (s:=s) (es.map (ja s)) fun d hd=>by
  obtain⟨e,he,rfl⟩:=List.mem_map.1 hd;obtain⟨h1,h2⟩:=jZ (h e he) (hp e he);exact⟨h1,by rw[h2];exact h e he⟩
 have h2:(es.map (ja s)).map D.cells=es:=by
  rw[List.map_map]
  conv=>rhs;rw[←List.map_id es]
  refine List.map_congr_left fun e he=>?_;exact(jZ (h e he) (hp e he)).2
 rwa [h2] at this
theorem Rows.bs {st ah:St} (h:ah.bs=st.bs) {s:Nat} {x:D} {es:List (List D)} (hr:Rows st s x es):Rows ah s x es:=by
 cases hr with
 |nul=>exact .nul
 |sl es h=>exact .sl es h
 |win k ax off es ar c hm hl he=>exact .win k ax off es ar c (by simp only[St.dO,h] at hm⊢;exact hm) hl he
theorem Bk (m:Mode) (st:St):(ai m st).bs=st.bs:=by cases m<;>rfl
theorem Rows.enter {st:St} {s:Nat} {x:D} {es:List (List D)} (m:Mode) (hr:Rows st s x es):Rows (ai m st) s x es:=hr.bs (Bk m st)
theorem d_ {k:IntKind} {m:Nat} (h:m≤ko k):bP k (m:Int)=m:=by
 show bP k (.ofNat m)=_;unfold bP;simp only[Nat.ble_eq_true_of_le h];rfl
theorem wrap_i64 {n : Int} (h1 : -9223372036854775808 ≤ n) (h2 : n ≤ 9223372036854775807) : bP .i64 n = n := by
  cases n with
  | ofNat m => exact d_ (k := .i64) (m := m) (by simp only [ko]; have : (Int.ofNat m) = (m : Int) := rfl; omega)
  | negSucc m =>
    unfold bP
    have : Nat.ble (rN .i64) m = false := by
      cases hb : Nat.ble (rN .i64) m with
      | false => rfl
      | true => have := Nat.le_of_ble_eq_true hb; simp only [rN] at this; have : Int.negSucc m = -(m : Int) - 1 := by omega
                omega
    simp only [this]
theorem bv_and {w a b:Nat} (ha:a<2^w) (hb:b<2^w):(BitVec.ofInt w (a:Int) &&&BitVec.ofInt w (b:Int)).toNat=a &&&b:=by
 rw[BitVec.ofInt_natCast,BitVec.ofInt_natCast,BitVec.toNat_and,BitVec.toNat_ofNat,BitVec.toNat_ofNat,Nat.mod_eq_of_lt ha,Nat.mod_eq_of_lt hb]
theorem NI {w a b:Nat} (ha:a<2^w) (hb:b<2^w):(BitVec.ofInt w (a:Int)|||BitVec.ofInt w (b:Int)).toNat=a|||b:=by
 rw[BitVec.ofInt_natCast,BitVec.ofInt_natCast,BitVec.toNat_or,BitVec.toNat_ofNat,BitVec.toNat_ofNat,Nat.mod_eq_of_lt ha,Nat.mod_eq_of_lt hb]
end Go.V
namespace Go.V
variable{P:Pv} {ops:Array Oper} {rest:List Oper} {n:Nat} {loc:List D} {tmp:List (Nat×D)} {st:St} {Q:Fr→St→Prop} {ty:TypeId} {p:String} {a:Array Edge} {g:Option (Nat×Bool)} {dst:Nat}
theorem ab.len {t e:TypeId} {xo:Operand} {x:D} {s:Nat} {es:List (List D)} (oC:Nat.ble n dst=true) (hg:aA ops ⟨n,loc,tmp⟩ ⟨some dst,.call ⟨.builtin .len,#[xo],#[t]⟩,ty,p,a,g⟩=some true) (hx:Fr.ev ⟨n,loc,tmp⟩ xo=x) (hR:Rows st s x es) (ht:P.cq t=some (.slice e))
  (h:ab P ops rest ⟨n,loc,(dst,(.int .i64 (es.length:Nat)))::tmp⟩ st Q):ab P ops (⟨some dst,.call ⟨.builtin .len,#[xo],#[t]⟩,ty,p,a,g⟩::rest) ⟨n,loc,tmp⟩ st Q:=by
 refine ab.T oC hg rfl (d:=.int .i64 (es.length:Nat)) (st1:=st) ?_ h;simp only[di,List.map_cons,List.map_nil,hx];exact hR.FW ht
theorem ab.slice {t e:TypeId} {xo:Operand} {lo hi:Option Operand} {x:D} {s:Nat} {es:List (List D)} {l r:Nat} (oC:Nat.ble n dst=true) (hg:aA ops ⟨n,loc,tmp⟩ ⟨some dst,.slice t xo lo hi none,ty,p,a,g⟩=some true) (hx:Fr.ev ⟨n,loc,tmp⟩ xo=x) (hR:Rows st s x es) (ht:P.cq t=some (.slice e)) (hs:bT P e=some s)
  (hb:cT es.length (lo.map (Fr.ev ⟨n,loc,tmp⟩)) (hi.map (Fr.ev ⟨n,loc,tmp⟩))=some (l,r)) (vb:l≤r∧r≤es.length)
  (h:∀y,Rows st s y ((es.take r).drop l)→y.ref≤x.ref→ab P ops rest ⟨n,loc,(dst,y)::tmp⟩ st Q):ab P ops (⟨some dst,.slice t xo lo hi none,ty,p,a,g⟩::rest) ⟨n,loc,tmp⟩ st Q:=by
 obtain⟨y,h1,h2,h3⟩:=hR.slice ht hs hb vb;refine ab.T oC hg rfl (d:=y) (st1:=st) ?_ (h y h2 h3);simp only[di,hx,h1,Option.map_some]
theorem ab.append {N:Nat} {t1 t2 e:TypeId} {td:TypeDesc} {inf:TypeInfo} {z:List D} {xo yo:Operand} {x y:D} {s:Nat} {es ys:List (List D)} (oC:Nat.ble n dst=true) (hg:aA ops ⟨n,loc,tmp⟩ ⟨some dst,.call ⟨.builtin .append,#[xo,yo],#[t1,t2]⟩,ty,p,a,g⟩=some true)
  (hx:Fr.ev ⟨n,loc,tmp⟩ xo=x) (hy:Fr.ev ⟨n,loc,tmp⟩ yo=y) (hr:Acc N st s x es) (jc:Rows st s y ys)
  (h1:P.cq t1=some (.slice e)) (h2:P.cq t2=some td) (h3:fq td=false) (h4:P.info e=some inf) (h5:cO P e=some z) (h6:inf.size=s) (h7:z.length=s) (h8:inf.bytes≠0)
  (hN:N≤st.bs.length) (hf:st.flr≤N) (eT:st.ro≤N) (hb:(es.length+ys.length)*inf.bytes≤1099511627776)
  (h:∀x' ah,Acc N ah s x' (es++ys)→Ex N st ah→x'.ref≤ah.bs.length→(∀k,k<st.bs.length→k+1≠x.ref→ah.bs[k]?=st.bs[k]?)→(x'.ref=x.ref∨st.bs.length<x'.ref)→ab P ops rest ⟨n,loc,(dst,x')::tmp⟩ ah Q):
  ab P ops (⟨some dst,.call ⟨.builtin .append,#[xo,yo],#[t1,t2]⟩,ty,p,a,g⟩::rest) ⟨n,loc,tmp⟩ st Q:=by
 obtain⟨x',ah,q1,q2,q3,q4,q5,q6⟩:=hr.append jc h1 h2 h3 h4 h5 h6 h7 h8 hN hf eT hb;refine ab.T oC hg rfl (d:=x') (st1:=ah) ?_ (h x' ah q2 q3 q4 q5 q6);simp only[di,List.map_cons,List.map_nil,hx,hy];exact q1
theorem Rows.one {st:St} {s:Nat} {c:List D} (hc:c.length=s):Rows (st.push (.mem 0 true c)) s (.win st.bs.length 0 0 1 s) [c]:=by
 have:=Rows.win (st:=st.push (.mem 0 true c)) (s:=s) st.bs.length 0 0 [c] true c (St.mem_of (by simp[St.push])) (by simp[hc]) fun i e hi=>by
  cases i with
  |zero=>simp at hi;subst hi;simp[←hc]
  |succ i=>simp at hi
 exact this
theorem Rows.ref {st:St} {s:Nat} {x:D} {es:List (List D)} (h:Rows st s x es):x.ref≤st.bs.length:=by
 cases h with
 |nul=>simp[D.ref]
 |sl es h=>simp[D.ref]
 |win k ax off es ar c hm hl he=>
  simp only[D.ref]
  rcases Nat.lt_or_ge k st.bs.length with h'|h'
  ·exact h'
  ·simp only[St.dO,List.getElem?_eq_none h'] at hm;cases hm
theorem Acc.ref {N:Nat} {st:St} {s:Nat} {x:D} {es:List (List D)} (h:Acc N st s x es):x.ref≤st.bs.length:=h.rows.ref
end Go.V
namespace Go.V
theorem e7:∀(xs c:List D) (off:Nat),off+xs.length≤c.length→setMany c off xs=c.take off++xs++c.drop (off+xs.length)
 |[],c,off,h=>by simp[setMany]
 |x::xs,c,off,h=>by
  simp only[setMany];simp only[List.length_cons] at h;rw[e7 xs (c.set off x) (off+1) (by simp;omega)]
  have h1:(c.set off x).take (off+1)=c.take off++[x]:=by
   rw[List.take_set,List.take_add_one,List.getElem?_eq_getElem (by omega:off<c.length)];simp only[Option.toList_some];rw[List.set_append_right _ _ (by simp;omega)];have:off-(c.take off).length=0:=by simp;omega
   rw[this];rfl
  have h2:(c.set off x).drop (off+1+xs.length)=c.drop (off+(xs.length+1)):=by
   rw[List.drop_set_of_lt (by omega)];congr 1;omega
  rw[h1,h2];simp[List.length_cons]
theorem rD (st:St) (b:gH):(st.push b).bs[st.bs.length]?=some b:=by simp[St.push]
variable{P:Pv} {ops:Array Oper} {rest:List Oper} {n:Nat} {loc:List D} {tmp:List (Nat×D)} {st:St} {Q:Fr→St→Prop} {ty:TypeId} {p:String} {a:Array Edge} {g:Option (Nat×Bool)} {dst:Nat}
theorem ab.makeSlice {t e:TypeId} {lo co:Operand} {k1 k2:IntKind} {m:Nat} {inf:TypeInfo} {z:List D} (oC:Nat.ble n dst=true) (hg:aA ops ⟨n,loc,tmp⟩ ⟨some dst,.makeSlice t lo co,ty,p,a,g⟩=some true)
  (hl:Fr.ev ⟨n,loc,tmp⟩ lo=.int k1 (m:Nat)) (hc:Fr.ev ⟨n,loc,tmp⟩ co=.int k2 (m:Nat)) (ht:P.cq t=some (.slice e)) (hi:P.info e=some inf) (hz:cO P e=some z) (jV:z.length=inf.size) (hm:m*inf.bytes≤140737488355328) (NX:m≤9223372036854775807)
  (h:ab P ops rest ⟨n,loc,(dst,.win st.bs.length 0 0 m inf.size)::tmp⟩ (st.push (.mem 0 true (dN m z))) Q):ab P ops (⟨some dst,.makeSlice t lo co,ty,p,a,g⟩::rest) ⟨n,loc,tmp⟩ st Q:=by
 refine ab.T oC hg rfl (d:=.win st.bs.length 0 0 m inf.size) (st1:=st.push (.mem 0 true (dN m z))) ?_ h;simp only[di,hl,hc,fk,ht,hi,hz,Option.bind_some];rw[if_pos ⟨jV,by omega,by omega,by omega,by rw[←Int.natCast_mul];omega⟩]
 rfl
theorem ke {k ax off:Nat} {ar:Bool} {c cs:List D} (hm:st.bs[k]?=some (.mem ax ar c)) (hl:off+cs.length≤c.length) (hw:st.j9 k (refs cs)=true):st.wr k ax off cs=some {st with bs:=st.bs.set k (.mem ax ar (c.take off++cs++c.drop (off+cs.length)))}:=by
 simp only[St.wr,St.mem_of hm];rw[if_pos ⟨hl,hw⟩,e7 _ _ _ hl]
theorem ab.copy {t1 t2 e:TypeId} {Rp so:Operand} {k ax off len s:Nat} {y:D} {ys:List (List D)} {ar:Bool} {c:List D} (oC:Nat.ble n dst=true) (hg:aA ops ⟨n,loc,tmp⟩ ⟨some dst,.call ⟨.builtin .copy,#[Rp,so],#[t1,t2]⟩,ty,p,a,g⟩=some true)
  (hd:Fr.ev ⟨n,loc,tmp⟩ Rp=.win k ax off len s) (hy:Fr.ev ⟨n,loc,tmp⟩ so=y) (hR:Rows st s y ys) (ht:P.cq t1=some (.slice e)) (hs:bT P e=some s) (hm:st.bs[k]?=some (.mem ax ar c)) (hl:off+len*s≤c.length)
  (hw:st.j9 k (refs (ys.flatten.take (min ys.length len*s)))=true)
  (h:ab P ops rest ⟨n,loc,(dst,.int .i64 (min ys.length len:Nat))::tmp⟩ {st with bs:=st.bs.set k (.mem ax ar (c.take off++ys.flatten.take (min ys.length len*s)++c.drop (off+min ys.length len*s)))} Q):
  ab P ops (⟨some dst,.call ⟨.builtin .copy,#[Rp,so],#[t1,t2]⟩,ty,p,a,g⟩::rest) ⟨n,loc,tmp⟩ st Q:=by
 have AF:∀e∈ys,e.length=s:=fun e he=>by
  obtain⟨i,hi⟩:=List.getElem?_of_mem he;exact hR.sI i e hi
 have mT:=cx AF;have Fp:min ys.length len*s≤ys.length*s:=Nat.mul_le_mul_right s (Nat.min_le_left _ _);have Sk:min ys.length len*s≤len*s:=Nat.mul_le_mul_right s (Nat.min_le_right _ _);have pg:(ys.flatten.take (min ys.length len*s)).length=min ys.length len*s:=by rw[List.length_take,mT];omega
 refine ab.T oC hg rfl (d:=.int .i64 (min ys.length len:Nat)) (st1:={st with bs:=st.bs.set k (.mem ax ar (c.take off++ys.flatten.take (min ys.length len*s)++c.drop (off+min ys.length len*s)))}) ?_ h;simp only[di,List.map_cons,List.map_nil,hd,hy,bk,qW,ht,hs,Option.bind_some,hR.row];rw[if_neg (by simp[mT])];simp only[ne_eq,not_true_eq_false,if_false];have:=ke (st:=st) hm (cs:=ys.flatten.take (min ys.length len*s)) (off:=off) (by rw[pg];omega) hw;rw[this,pg];rfl
theorem ab.store {fr:Fr} {t:TypeId} {ao vo:Operand} {k ax off:Nat} {v:D} {cs:List D} {ar:Bool} {c:List D} (hg:aA ops fr ⟨none,.store t ao vo,ty,p,a,g⟩=some true) (ha:fr.ev ao=.ptr k ax off) (hv:fr.ev vo=v)
  (hY:v.cells?=some cs) (hs:bT P t=some cs.length) (hm:st.bs[k]?=some (.mem ax ar c)) (hl:off+cs.length≤c.length) (hw:st.j9 k (refs cs)=true)
  (h:ab P ops rest fr {st with bs:=st.bs.set k (.mem ax ar (c.take off++cs++c.drop (off+cs.length)))} Q):ab P ops (⟨none,.store t ao vo,ty,p,a,g⟩::rest) fr st Q:=by
 refine ab.N hg rfl (d:=.tup []) (st1:=_) ?_ h;simp only[di,ha,hv,jh,hY,hs];rw[if_pos trivial,ke hm hl hw];rfl
theorem ab.load {t:TypeId} {ao:Operand} {k ax off:Nat} {d:D} {ar:Bool} {c:List D} (oC:Nat.ble n dst=true) (hg:aA ops ⟨n,loc,tmp⟩ ⟨some dst,.load t ao,ty,p,a,g⟩=some true) (ha:Fr.ev ⟨n,loc,tmp⟩ ao=.ptr k ax off)
  (hm:st.bs[k]?=some (.mem ax ar c)) (hd:c7 P t (c.drop off)=some d)
  (h:ab P ops rest ⟨n,loc,(dst,d)::tmp⟩ st Q):ab P ops (⟨some dst,.load t ao,ty,p,a,g⟩::rest) ⟨n,loc,tmp⟩ st Q:=by
 refine ab.T oC hg rfl (d:=d) (st1:=st) ?_ h;simp only[di,ha,eZ,St.mem_of hm,Option.bind_some,hd,Option.map_some]
theorem ab.next {io:Operand} {k pos:Nat} {b:List UInt8} (oC:Nat.ble n dst=true) (hg:aA ops ⟨n,loc,tmp⟩ ⟨some dst,.next io true,ty,p,a,g⟩=some true) (hx:Fr.ev ⟨n,loc,tmp⟩ io=.ptr k 0 0) (hm:st.bs[k]?=some (.iter b pos)) (hp:pos<b.length) (hw:st.j9 k 0=true)
  (h:ab P ops rest ⟨n,loc,(dst,.tup [.bool true,.int .i64 (pos:Nat),.int .i32 ((Utf8.decode ⟨b.toArray⟩ pos).1:Nat)])::tmp⟩ {st with bs:=st.bs.set k (.iter b (pos+(Utf8.decode ⟨b.toArray⟩ pos).2))} Q):ab P ops (⟨some dst,.next io true,ty,p,a,g⟩::rest) ⟨n,loc,tmp⟩ st Q:=by
 refine ab.T oC hg rfl (d:=.tup [.bool true,.int .i64 (pos:Nat),.int .i32 ((Utf8.decode ⟨b.toArray⟩ pos).1:Nat)]) (st1:={st with bs:=st.bs.set k (.iter b (pos+(Utf8.decode ⟨b.toArray⟩ pos).2))}) ?_ h;simp only[di,hx,pN,hm,if_pos hp,hw,if_true]
structure Gi (N k:Nat) (st ah:St):Prop where
 low:∀i,i<N→i≠k→ah.bs[i]?=st.bs[i]?
 len:st.bs.length≤ah.bs.length
 flr:ah.flr=st.flr
 ro:ah.ro=st.ro
theorem Gi.of {N k:Nat} {a b c:St} (h:Gi N k a b) (g:Ex N b c):Gi N k a c:=
 ⟨fun i hi hk=>(g.low i hi).trans (h.low i hi hk),Nat.le_trans h.len g.len,g.flr.trans h.flr,g.ro.trans h.ro⟩
theorem Gi.put {N k:Nat} {a b:St} (h:Gi N k a b) (bx:gH):Gi N k a ⟨b.bs.set k bx,b.flr,b.ro⟩:=
 ⟨fun i hi hk=>by simp only;rw[List.getElem?_set_ne (fun e=>hk e.symm)];exact h.low i hi hk,by simp only[List.length_set];exact h.len,h.flr,h.ro⟩
theorem Gi.take {k:Nat} {a b:St} (h:Gi a.bs.length k a b) (hk:k<a.bs.length) {bx:gH} (hb:b.bs[k]?=some bx):b.bs.take a.bs.length=a.bs.set k bx:=by
 apply List.ext_getElem?;intro i;rw[List.getElem?_take]
 by_cases hi:i<a.bs.length
 ·rw[if_pos hi]
  by_cases he:i=k
  ·subst he;rw[hb,List.getElem?_set_self hk]
  ·rw[h.low i hi he,List.getElem?_set_ne (fun e=>he e.symm)]
 ·rw[if_neg hi,List.getElem?_eq_none (by simp;omega)]
end Go.V
namespace Go.V
variable{P:Pv} {ops:Array Oper} {rest:List Oper} {n:Nat} {loc:List D} {tmp:List (Nat×D)} {st:St} {Q:Fr→St→Prop} {ty:TypeId} {p:String} {a:Array Edge} {g:Option (Nat×Bool)} {dst:Nat}
end Go.V
namespace Go.V
structure bC where
 K:Nat→Prop
 P:St→Prop
 loc:∀{st ah:St},(∀k,K k→ah.bs[k]?=st.bs[k]?)→P st→P ah
def bC.box (k:Nat) (b:gH):bC:=⟨fun j=>j=k,fun st=>st.bs[k]?=some b,fun h p=>(h k rfl).trans p⟩
inductive fQ (st:St) (s:Nat):D→List (List D)→Prop where
 |nul:fQ st s .nul []
 |win (k ax off:Nat) (es:List (List D)) (c:List D) (hm:st.bs[k]?=some (.mem ax true c)) (hl:off+es.length*s≤c.length) (hc:(c.drop off).take (es.length*s)=es.flatten) (he:∀e∈es,e.length=s):fQ st s (.win k ax off es.length s) es
theorem fQ.move {st ah:St} {s:Nat} {x:D} {es:List (List D)} (h:∀k,x.ref=k+1→ah.bs[k]?=st.bs[k]?) (p:fQ st s x es):fQ ah s x es:=by
 cases p with
 |nul=>exact .nul
 |win k ax off es c hm hl hc he=>exact .win k ax off es c ((h k (by simp only[D.ref])).trans hm) hl hc he
def bC.aJ (x:D) (s:Nat) (es:List (List D)):bC:=⟨fun j=>x.ref=j+1,fun st=>fQ st s x es,fun h p=>fQ.move h p⟩
theorem fQ.sI {st:St} {s:Nat} {x:D} {es:List (List D)} (p:fQ st s x es):∀e∈es,e.length=s:=by
 cases p with
 |nul=>intro e he;cases he
 |win k ax off es c hm hl hc he=>exact he
theorem fQ.rows {st:St} {s:Nat} {x:D} {es:List (List D)} (p:fQ st s x es):Rows st s x es:=by
 cases p with
 |nul=>exact .nul
 |win k ax off es c hm hl hc he=>
  refine .win k ax off es true c (St.mem_of hm) hl fun i e hi=>?_
  have hil:i<es.length:=by
   rcases Nat.lt_or_ge i es.length with h'|h'
   ·exact h'
   ·rw[List.getElem?_eq_none h'] at hi;cases hi
  have h1:=jX he i e hi;rw[←hc,List.drop_take,List.take_take,List.drop_drop] at h1;have h2:(i+1)*s≤es.length*s:=Nat.mul_le_mul_right s hil;rw[Nat.add_mul,Nat.one_mul] at h2
  rwa [Nat.min_eq_left (by omega)] at h1
structure Has (N:Nat) (S st:St) (H:List bC):Prop where
 ex:Ex N S st
 hN:N≤S.bs.length
 eT:S.ro≤N
 ok:∀(i:Nat) e,H[i]?=some e→e.P st∧∀k,e.K k→N≤k∧k<st.bs.length
 dis:∀(i j:Nat) a b,i≠j→H[i]?=some a→H[j]?=some b→∀k,a.K k→b.K k→False
theorem Has.start {N:Nat} {S:St} (hN:N≤S.bs.length) (eT:S.ro≤N):Has N S S []:=
 ⟨Ex.refl _ _,hN,eT,fun i e h=>by simp at h,fun i j a b _ h=>by simp at h⟩
theorem Has.len {N:Nat} {S st:St} {H:List bC} (h:Has N S st H):S.bs.length≤st.bs.length:=h.ex.len
theorem Has.zx {N:Nat} {S st ah:St} {H:List bC} {j:Nat} {e e':bC} (h:Has N S st H) (hj:H[j]?=some e)
  (vY:∀k,k<st.bs.length→¬e.K k→ah.bs[k]?=st.bs[k]?) (hlen:st.bs.length≤ah.bs.length) (hf:ah.flr=st.flr) (hr:ah.ro=st.ro)
  (hP:e'.P ah) (hK:∀k,e'.K k→e.K k∨st.bs.length≤k) (OK:∀k,e'.K k→k<ah.bs.length):Has N S ah (H.set j e'):=by
 have jW:j<H.length:=by
  rcases Nat.lt_or_ge j H.length with h'|h'
  ·exact h'
  ·rw[List.getElem?_eq_none h'] at hj;cases hj
 have hl:=h.ex.len;have hN:=h.hN;refine⟨⟨fun k hk=>?_,Nat.le_trans hl hlen,hf.trans h.ex.flr,hr.trans h.ex.ro⟩,h.hN,h.eT,fun i e0 hi=>?_,fun i i' a b hii ha hb k uw iA=>?_⟩
 ·rw[vY k (by omega) fun iN=>by have:=((h.ok j e hj).2 k iN).1;omega];exact h.ex.low k hk
 ·by_cases hij:i=j
  ·subst hij;rw[List.getElem?_set_self jW] at hi;cases hi;refine⟨hP,fun k hk=>⟨?_,OK k hk⟩⟩
   rcases hK k hk with h1|h1
   ·exact((h.ok i e hj).2 k h1).1
   ·omega
  ·rw[List.getElem?_set_ne (fun e=>hij e.symm)] at hi;obtain⟨h1,h2⟩:=h.ok i e0 hi;refine⟨e0.loc (fun k hk=>vY k (h2 k hk).2 fun iN=>h.dis i j e0 e hij hi hj k hk iN) h1,fun k hk=>⟨(h2 k hk).1,Nat.lt_of_lt_of_le (h2 k hk).2 hlen⟩⟩
 ·have key:∀i a,i≠j→(H.set j e')[i]?=some a→a.K k→e'.K k→False:=by
   intro i a hij ha uw UK;rw[List.getElem?_set_ne (fun e=>hij e.symm)] at ha
   rcases hK k UK with h1|h1
   ·exact h.dis i j a e hij ha hj k uw h1
   ·have:=((h.ok i a ha).2 k uw).2;omega
  by_cases hij:i=j
  ·subst hij;have dw:=hb;rw[List.getElem?_set_self jW] at ha;cases ha;exact key i' b (fun e=>hii e.symm) hb iA uw
  ·by_cases M7:i'=j
   ·subst M7;rw[List.getElem?_set_self jW] at hb;cases hb;exact key i a hij ha uw iA
   ·rw[List.getElem?_set_ne (fun e=>hij e.symm)] at ha;rw[List.getElem?_set_ne (fun e=>M7 e.symm)] at hb;exact h.dis i i' a b hii ha hb k uw iA
theorem Has.add {N:Nat} {S st ah:St} {H:List bC} {e':bC} (h:Has N S st H)
  (vY:∀k,k<st.bs.length→ah.bs[k]?=st.bs[k]?) (hlen:st.bs.length≤ah.bs.length) (hf:ah.flr=st.flr) (hr:ah.ro=st.ro)
  (hP:e'.P ah) (hK:∀k,e'.K k→st.bs.length≤k∧k<ah.bs.length):Has N S ah (e'::H):=by
 have hl:=h.ex.len;have hN:=h.hN;refine⟨⟨fun k hk=>?_,Nat.le_trans hl hlen,hf.trans h.ex.flr,hr.trans h.ex.ro⟩,h.hN,h.eT,fun i e0 hi=>?_,fun i i' a b hii ha hb k uw iA=>?_⟩
 ·rw[vY k (by omega)];exact h.ex.low k hk
 ·cases i with
  |zero=>
   simp only[List.getElem?_cons_zero,Option.some.injEq] at hi;subst hi;exact⟨hP,fun k hk=>⟨by have:=(hK k hk).1;omega,(hK k hk).2⟩⟩
  |succ i=>
   rw[List.getElem?_cons_succ] at hi;obtain⟨h1,h2⟩:=h.ok i e0 hi;exact⟨e0.loc (fun k hk=>vY k (h2 k hk).2) h1,fun k hk=>⟨(h2 k hk).1,Nat.lt_of_lt_of_le (h2 k hk).2 hlen⟩⟩
 ·cases i with
  |zero=>
   simp only[List.getElem?_cons_zero,Option.some.injEq] at ha;subst ha
   cases i' with
   |zero=>exact hii rfl
   |succ i'=>
    rw[List.getElem?_cons_succ] at hb;have:=((h.ok i' b hb).2 k iA).2;have:=(hK k uw).1;omega
  |succ i=>
   rw[List.getElem?_cons_succ] at ha
   cases i' with
   |zero=>
    simp only[List.getElem?_cons_zero,Option.some.injEq] at hb;subst hb;have:=((h.ok i a ha).2 k uw).2;have:=(hK k iA).1;omega
   |succ i'=>
    rw[List.getElem?_cons_succ] at hb;exact h.dis i i' a b (fun e=>hii (by rw[e])) ha hb k uw iA
theorem Has.sub {N:Nat} {S st:St} {H H':List bC} (h:Has N S st H) (f:Nat→Nat) (hf:∀i j,f i=f j→i=j) (hs:∀i e,H'[i]?=some e→H[f i]?=some e):Has N S st H':=
 ⟨h.ex,h.hN,h.eT,fun i e hi=>h.ok _ e (hs i e hi),fun i j a b hij ha hb=>h.dis (f i) (f j) a b (fun e=>hij (hf i j e)) (hs i a ha) (hs j b hb)⟩
theorem Has.erase {N:Nat} {S st:St} {H:List bC} (h:Has N S st H) (j:Nat):Has N S st (H.eraseIdx j):=by
 refine h.sub (fun i=>if i<j then i else i+1) (fun a b e=>?_) fun i e hi=>?_
 ·show a=b;have e':(if a<j then a else a+1)=(if b<j then b else b+1):=e
  split at e'<;>split at e'<;>omega
 ·show H[if i<j then i else i+1]?=some e;rw[List.getElem?_eraseIdx] at hi
  split at hi<;>rename_i h'<;>simp[h',hi]
theorem Has.take {N:Nat} {S st:St} {H:List bC} (h:Has N S st H) (n:Nat):Has N S st (H.take n):=by
 refine h.sub id (fun a b e=>e) fun i e hi=>?_;rw[List.getElem?_take] at hi;split at hi;exact hi;cases hi
theorem Has.drop {N:Nat} {S st:St} {H:List bC} (h:Has N S st H) (n:Nat):Has N S st (H.drop n):=by
 refine h.sub (fun i=>n+i) (fun a b e=>by omega) fun i e hi=>?_;rw[List.getElem?_drop] at hi;exact hi
theorem Has.front {N:Nat} {S st:St} {H:List bC} (h:Has N S st H) {j:Nat} {e:bC} (hj:H[j]?=some e):Has N S st (e::H.eraseIdx j):=by
 refine h.sub (fun i=>if i=0 then j else if i-1<j then i-1 else i) (fun a b e=>?_) fun i e' hi=>?_
 ·have e':(if a=0 then j else if a-1<j then a-1 else a)=(if b=0 then j else if b-1<j then b-1 else b):=e
  repeat' split at e'
  all_goals omega
 ·show H[if i=0 then j else if i-1<j then i-1 else i]?=some e'
  cases i with
  |zero=>rw[if_pos rfl];simp only[List.getElem?_cons_zero,Option.some.injEq] at hi;subst hi;exact hj
  |succ i=>
   rw[if_neg (by omega),Nat.add_sub_cancel];rw[List.getElem?_cons_succ,List.getElem?_eraseIdx] at hi
   split at hi<;>rename_i h'<;>simp[h',hi]
theorem Has.back {N:Nat} {S st:St} {H:List bC} {j:Nat} {e:bC} (h:Has N S st (e::H.eraseIdx j)) (hj:j<H.length):Has N S st (H.set j e):=by
 refine h.sub (fun i=>if i=j then 0 else if i<j then i+1 else i) (fun a b e=>?_) fun i e' hi=>?_
 ·have e':(if a=j then 0 else if a<j then a+1 else a)=(if b=j then 0 else if b<j then b+1 else b):=e
  repeat' split at e'
  all_goals omega
 ·show(e::H.eraseIdx j)[if i=j then 0 else if i<j then i+1 else i]?=some e'
  by_cases hij:i=j
  ·subst hij;rw[List.getElem?_set_self hj] at hi;rw[if_pos rfl];simpa using hi
  ·rw[List.getElem?_set_ne (fun e=>hij e.symm)] at hi;rw[if_neg hij]
   by_cases hlt:i<j
   ·rw[if_pos hlt,List.getElem?_cons_succ,List.getElem?_eraseIdx,if_pos hlt];exact hi
   ·rw[if_neg hlt]
    obtain⟨i',rfl⟩:∃i',i=i'+1:=⟨i-1,by omega⟩
    rw[List.getElem?_cons_succ,List.getElem?_eraseIdx,if_neg (by omega)];exact hi
theorem Has.eo {N:Nat} {S st:St} {H:List bC} (h:Has N S st H) (s:Nat):Has N S st (.aJ .nul s []::H):=
 h.add (fun _ _=>rfl) (Nat.le_refl _) rfl rfl .nul fun k hk=>by simp only[bC.aJ,D.ref] at hk;omega
theorem Has.own {N:Nat} {S st:St} {H:List bC} (h:Has N S st H) {j:Nat} {x:D} {s:Nat} {es:List (List D)} (hj:H[j]?=some (.aJ x s es)):fQ st s x es:=(h.ok j _ hj).1
theorem Has.rows {N:Nat} {S st:St} {H:List bC} (h:Has N S st H) {j:Nat} {x:D} {s:Nat} {es:List (List D)} (hj:H[j]?=some (.aJ x s es)):Rows st s x es:=(h.own hj).rows
theorem Has.at {N:Nat} {S st:St} {H:List bC} (h:Has N S st H) {j k:Nat} {b:gH} (hj:H[j]?=some (.box k b)):st.bs[k]?=some b:=(h.ok j _ hj).1
theorem Has.ge {N:Nat} {S st:St} {H:List bC} (h:Has N S st H) {j k:Nat} {b:gH} (hj:H[j]?=some (.box k b)):N≤k∧k<st.bs.length:=(h.ok j _ hj).2 k rfl
def Arg (N:Nat) (S:St) (s:Nat) (x:D) (es:List (List D)):Prop:=Rows S s x es∧x.ref≤N
theorem Arg.rows {N:Nat} {S st:St} {H:List bC} {s:Nat} {x:D} {es:List (List D)} (hx:Arg N S s x es) (h:Has N S st H):Rows st s x es:=hx.1.ex h.ex hx.2
theorem Arg.of {st S:St} {s:Nat} {x:D} {es:List (List D)} (hx:Rows st s x es) (hS:S.bs=st.bs):Arg st.bs.length S s x es:=⟨hx.bs hS,hx.ref⟩
theorem Arg.pure {N:Nat} {S:St} {s:Nat} {es:List D} {rs:List (List D)} (hx:∀st,Rows st s (.sl es) rs):Arg N S s (.sl es) rs:=⟨hx S,by simp[D.ref]⟩
theorem iw {N:Nat} {S st:St} {H:List bC} (h:Has N S st H) {k:Nat} {cs:List D} (hk:N≤k) (hw:S.flr≤N∨refs cs=0):st.j9 k (refs cs)=true:=by
 have h1:=h.ex.ro;have h2:=h.ex.flr;have h3:=h.eT;simp only[St.j9,Bool.and_eq_true,Bool.or_eq_true,decide_eq_true_eq];refine⟨by omega,?_⟩
 rcases hw with hw|hw
 ·exact .inl (by omega)
 ·exact .inr (.inl (by omega))
theorem Has.zL {N:Nat} {S st:St} {H:List bC} (h:Has N S st H) {j k ax:Nat} {b b':gH} (hj:H[j]?=some (.box k b)):Has N S ⟨st.bs.set k b',st.flr,st.ro⟩ (H.set j (.box k b')):=by
 have hk:=(h.ge hj).2;refine h.zx hj (fun i hi hne=>?_) (by simp) rfl rfl ?_ (fun i hi=>.inl hi) fun i hi=>?_
 ·simp only;rw[List.getElem?_set_ne (fun e=>hne e.symm)]
 ·show(st.bs.set k b')[k]?=_;rw[List.getElem?_set_self hk]
 ·cases hi;simpa using hk
theorem Has.xc {N:Nat} {S st:St} {H:List bC} (h:Has N S st H) (b:gH):Has N S (st.push b) (.box st.bs.length b::H):=by
 refine h.add (fun i hi=>?_) (by simp[St.push]) rfl rfl ?_ fun i hi=>?_
 ·simp only[St.push];rw[List.getElem?_append_left hi]
 ·exact rD st b
 ·cases hi;simp[St.push]
theorem Has.rE {N:Nat} {S st:St} {H:List bC} (h:Has N S st H) {s:Nat} {es:List (List D)} {cs:List D} {m:Nat} (hm:es.length=m) (hc:es.flatten=cs) (he:∀e∈es,e.length=s):Has N S (st.push (.mem 0 true cs)) (.aJ (.win st.bs.length 0 0 m s) s es::H):=by
 subst hm hc;refine h.add (fun i hi=>?_) (by simp[St.push]) rfl rfl ?_ fun i hi=>?_
 ·simp only[St.push];rw[List.getElem?_append_left hi]
 ·have mT:=cx he;exact fQ.win _ 0 0 es es.flatten (rD st _) (by rw[mT];omega) (by rw[List.drop_zero,←mT,List.take_length]) he
 ·simp only[bC.aJ,D.ref] at hi;simp only[St.push,List.length_append,List.length_cons,List.length_nil];omega
theorem jj:∀(xs c:List D) (off:Nat),(setMany c off xs).length=c.length
 |[],c,off=>rfl
 |x::xs,c,off=>by simp only[setMany];rw[jj xs];simp
theorem mI {s:Nat}:∀{es:List (List D)} {i:Nat} {e e':List D},(∀e∈es,e.length=s)→es[i]?=some e→e'.length=s→(es.set i e').flatten=es.flatten.take (i*s)++e'++es.flatten.drop (i*s+s)
 |[],i,e,e',_,hi,_=>by simp at hi
 |x::es,0,e,e',h,hi,he=>by
  simp at hi;subst hi;have:=h x (List.mem_cons_self ..);simp[List.set_cons_zero,List.drop_left' this]
 |x::es,i+1,e,e',h,hi,he=>by
  have hx:=h x (List.mem_cons_self ..);have ih:=mI (s:=s) (es:=es) (i:=i) (e:=e) (e':=e') (fun y hy=>h y (List.mem_cons_of_mem _ hy)) (by simpa using hi) he;rw[List.set_cons_succ,List.flatten_cons,ih,List.flatten_cons,Nat.add_mul,Nat.one_mul,Nat.add_comm (i*s) s,←hx,List.take_length_add_append,Nat.add_assoc,List.drop_length_add_append];simp only[List.append_assoc];rw[Nat.add_comm (i*x.length) x.length]
theorem Has.w9 {N:Nat} {S st:St} {H:List bC} (h:Has N S st H) {j k ax off len s:Nat} {es:List (List D)} {i o:Nat} {e cs:List D} (hj:H[j]?=some (.aJ (.win k ax off len s) s es)) (hi:es[i]?=some e) (hl:o+cs.length≤s) (hw:S.flr≤N∨refs cs=0):
  ∃ah,st.wr k ax (off+i*s+o) cs=some ah∧Has N S ah (H.set j (.aJ (.win k ax off len s) s (es.set i (setMany e o cs)))):=by
 have hk:=(h.ok j _ hj).2 k (by simp only[bC.aJ,D.ref]);have hown:=h.own hj
 cases hown with
 |win k ax off es c hm hle hc he=>
  have hil:i<es.length:=by
   rcases Nat.lt_or_ge i es.length with h'|h'
   ·exact h'
   ·rw[List.getElem?_eq_none h'] at hi;cases hi
  have oz:=he e (List.mem_of_getElem? hi);have h2:(i+1)*s≤es.length*s:=Nat.mul_le_mul_right s hil;rw[Nat.add_mul,Nat.one_mul] at h2;refine⟨_,ke hm (by omega) (iw h hk.1 hw),?_⟩;refine h.zx hj (fun n hn hne=>?_) (by simp) rfl rfl ?_ (fun n hn=>.inl hn) fun n hn=>?_
  ·simp only;rw[List.getElem?_set_ne (fun e=>hne (by simp only[bC.aJ,D.ref];omega))]
  ·have AW:∀e'∈es.set i (setMany e o cs),e'.length=s:=by
    intro e' ni
    rcases List.mem_or_eq_of_mem_set ni with h'|h'
    ·exact he e' h'
    ·rw[h',jj];exact oz
   have mT:es.flatten.length=es.length*s:=cx he;have:=fQ.win (st:=⟨st.bs.set k (.mem ax true (c.take (off+i*s+o)++cs++c.drop (off+i*s+o+cs.length))),st.flr,st.ro⟩) (s:=s) k ax off (es.set i (setMany e o cs)) (c.take (off+i*s+o)++cs++c.drop (off+i*s+o+cs.length))
    (by simp only;rw[List.getElem?_set_self hk.2]) (by simp;omega) ?_ AW
   ·rw[List.length_set] at this;exact this
   ·rw[List.length_set,mI he hi (by rw[jj];exact oz),e7 cs e o (by omega)]
    have e1:(c.take (off+i*s+o)++cs++c.drop (off+i*s+o+cs.length)).drop off=(c.drop off).take (i*s+o)++cs++(c.drop off).drop (i*s+o+cs.length):=by
     rw[List.append_assoc,List.drop_append_of_le_length (by simp;omega),List.drop_take,List.append_assoc,List.drop_drop]
     congr 3<;>omega
    rw[e1]
    have e2:(c.drop off).take (i*s+o)=es.flatten.take (i*s)++e.take o:=by
     have:(c.drop off).take (i*s+o)=es.flatten.take (i*s+o):=by
      rw[←hc,List.take_take,Nat.min_eq_left (by omega)]
     rw[this,List.take_add]
     congr 1
     have:=jX he i e hi;rw[←this,List.take_take,Nat.min_eq_left (by omega)]
    have e3:(List.drop (i*s+o+cs.length) (c.drop off)).take (es.length*s-(i*s+o+cs.length))=e.drop (o+cs.length)++es.flatten.drop (i*s+s):=by
     have:(List.drop (i*s+o+cs.length) (c.drop off)).take (es.length*s-(i*s+o+cs.length))=es.flatten.drop (i*s+o+cs.length):=by
      rw[←hc,List.drop_take]
     rw[this];have h4:=jX he i e hi;rw[←h4,List.drop_take];have:es.flatten.drop (i*s+o+cs.length)=(es.flatten.drop (i*s+o+cs.length)).take (s-(o+cs.length))++(es.flatten.drop (i*s+o+cs.length)).drop (s-(o+cs.length)):=(List.take_append_drop ..).symm;rw[this,List.drop_drop,List.drop_drop]
     congr 2
     ·congr 1;omega
     ·omega
    rw[e2]
    have F':(es.flatten.take (i*s)++e.take o++cs).length=i*s+o+cs.length:=by
     simp only[List.length_append,List.length_take,mT,oz];omega
    rw[List.take_append,F',e3,List.take_of_length_le (by rw[F'];omega)];simp[List.append_assoc]
  ·simp only[bC.aJ,D.ref] at hn;simp only[List.length_set];omega
end Go.V
namespace Go.V
theorem ay {α:Type} {a:α} {l:List α}:(a::l)[0]?=some a:=rfl
theorem b5 {α:Type} {a b:α} {l:List α}:(a::b::l)[1]?=some b:=rfl
theorem eV {α:Type} {a b c:α} {l:List α}:(a::b::c::l)[2]?=some c:=rfl
theorem gG {α:Type} {a b c d:α} {l:List α}:(a::b::c::d::l)[3]?=some d:=rfl
theorem gw {α:Type} {a b c d e:α} {l:List α}:(a::b::c::d::e::l)[4]?=some e:=rfl
theorem sR {α:Type} {a b c d e f:α} {l:List α}:(a::b::c::d::e::f::l)[5]?=some f:=rfl
theorem SO {α:Type} {a b c d e f g:α} {l:List α}:(a::b::c::d::e::f::g::l)[6]?=some g:=rfl
theorem RB {α:Type} {a b c d e f g h:α} {l:List α}:(a::b::c::d::e::f::g::h::l)[7]?=some h:=rfl
def xq (t:Nat):List (Nat×D)→Option D
 |[]=>none
 |(u,d)::l=>match Nat.beq t u with
  |true=>some d
  |false=>xq t l
def Ai:Value→Option D
 | .int k n=>some (.int k n)
 | .bool b=>some (.bool b)
 | .string s=>some (.str s.data.toList)
 | .slice none 0 0=>some .nul
 | .pointer none=>some .pnil
 | .nilFunc=>some .nilfn
 | .nilIface=>some .nilif
 |_=>none
def Fr.SM (f:Fr):Operand→Option D
 | .tmp t=>match Nat.ble f.n t with
  |false=>f.loc[t]?
  |true=>xq t f.tmp
 | .const v=>Ai v
 | .func g=>some (.fn g [])
 | .global _=>none
theorem oa {t:Nat} {d:D}:∀{l:List (Nat×D)},xq t l=some d→look t l=d
 |(u,e)::l,h=>by
  unfold xq at h;unfold look
  split at h
  ·rename_i hb;cases h;simp only[hb]
  ·rename_i hb;simp only[hb];exact oa h
theorem xj {d e:D}:∀{l:List D} {i:Nat},l[i]?=some d→nth e l i=d
 |x::l,0,h=>by simpa[nth] using h
 |x::l,i+1,h=>by rw[List.getElem?_cons_succ] at h;exact xj (l:=l) h
 |[],i,h=>by simp at h
theorem ev {fr:Fr} {o:Operand} {d:D} (h:fr.SM o=some d):fr.ev o=d:=by
 unfold Fr.SM at h;unfold Fr.ev
 split at h
 ·unfold Fr.get
  split at h
  ·rename_i hb;simp only[hb];exact xj h
  ·rename_i hb;simp only[hb];exact oa h
 ·unfold Ai at h
  split at h<;>cases h<;>rfl
 ·cases h;rfl
 ·cases h
def iS (st:St) (p:D) (r:List D):Prop:=
 (∃k ax off ar c,p=.ptr k ax off∧st.dO k ax=some (ar,c)∧(c.drop off).take r.length=r)∨∃c,p=.ep c∧c.take r.length=r
def mX (x:D) (s:Nat) (i o:Nat) (p:D):Prop:=∃k ax off len,x=.win k ax off len s∧p=.ptr k ax (off+i*s+o)
theorem jI {P:Pv} {t:TypeId} {r c:List D} {d:D} (hc:c.take r.length=r) (h:c7 P t r=some d):c7 P t c=some d:=by
 have hlen:r.length≤c.length:=by have:=congrArg List.length hc;simp at this;omega
 unfold c7 at h⊢
 cases hu:P.cq t with
 |none=>rw[hu] at h;cases h
 |some u=>
  rw[hu] at h;have key:∀n,n≤r.length→c.take n=r.take n:=fun n hn=>by rw[←hc,List.take_take,Nat.min_eq_left hn]
  cases u with
  |struct f=>
   simp only at h⊢
   cases hs:bT P t with
   |none=>rw[hs] at h;cases h
   |some n=>
    rw[hs] at h;simp only[Option.bind_some] at h⊢
    split at h
    ·rename_i hn;rw[if_pos (by omega),key n hn];exact h
    ·cases h
  |array m f=>
   simp only at h⊢
   cases hs:bT P t with
   |none=>rw[hs] at h;cases h
   |some n=>
    rw[hs] at h;simp only[Option.bind_some] at h⊢
    split at h
    ·rename_i hn;rw[if_pos (by omega),key n hn];exact h
    ·cases h
  |_=>
   simp only at h⊢
   cases r with
   |nil=>cases h
   |cons y r=>
    cases c with
    |nil=>simp at hlen
    |cons z c=>
     simp only[List.length_cons,List.take_succ_cons,List.cons.injEq] at hc;rw[←h];simp[hc.1]
theorem iS.load {P:Pv} {st:St} {p:D} {r:List D} (h:iS st p r) {t:TypeId} {d:D} (hd:c7 P t r=some d):eZ P t p st=some d:=by
 rcases h with⟨k,ax,off,ar,c,rfl,hm,hc⟩|⟨c,rfl,hc⟩
 ·simp only[eZ,hm,Option.bind_some];exact jI hc hd
 ·simp only[eZ];exact jI hc hd
theorem iS.field {P:Pv} {st:St} {p:D} {r:List D} (h:iS st p r) {t:TypeId} {fields:Array Field} {f:Nat} {fd:Field} {m:Nat} (ht:P.cq t=some (.struct fields)) (hf:fields[f]?=some fd) (hm:bT P fd.type=some m) (sY:m≠0):
  ∃p',dJ P t p f=some p'∧iS st p' (r.drop fd.offset):=by
 have key:∀c:List D,c.take r.length=r→(c.drop fd.offset).take (r.drop fd.offset).length=r.drop fd.offset:=by
  intro c hc;rw[List.length_drop,←List.drop_take,hc]
 rcases h with⟨k,ax,off,ar,c,rfl,vX,hc⟩|⟨c,rfl,hc⟩
 ·refine⟨.ptr k ax (off+fd.offset),?_,.inl ⟨k,ax,off+fd.offset,ar,c,rfl,vX,?_⟩⟩
  ·simp only[dJ,ht,hf,Option.bind_some,hm];rw[if_neg (by simp only[Option.some.injEq];exact sY)]
  ·rw[←List.drop_drop];exact key _ hc
 ·refine⟨.ep (c.drop fd.offset),?_,.inr ⟨_,rfl,key _ hc⟩⟩;simp only[dJ,ht,hf,Option.bind_some,hm];rw[if_neg (by simp only[Option.some.injEq];exact sY)]
theorem Rows.Oh {P:Pv} {st:St} {s:Nat} {x:D} {es:List (List D)} (h:Rows st s x es) {t e:TypeId} (ht:P.cq t=some (.slice e)) (hs:bT P e=some s) {k:IntKind} {i:Nat} {r:List D} (hi:es[i]?=some r):
  ∃p,bM P t x (.int k (i:Nat)) st=some p∧iS st p r:=by
 have va:=h.sI _ _ hi
 cases h with
 |nul=>simp at hi
 |sl es h=>
  rw[List.getElem?_map] at hi;obtain⟨d,hd,rfl⟩:=Option.map_eq_some_iff.1 hi;obtain⟨h1,h2⟩:=h d (List.mem_of_getElem? hd);refine⟨.ep d.cells,?_,.inr ⟨_,rfl,List.take_length ..⟩⟩;simp only[bM,ht,hs,Option.bind_some,if_pos (show(0:Int)≤(i:Nat) by omega),Int.toNat_natCast,hd,h1,if_pos h2]
 |win k ax off es ar c hm hl he=>
  have hlt:i<es.length:=by
   rcases Nat.lt_or_ge i es.length with h'|h'
   ·exact h'
   ·rw[List.getElem?_eq_none h'] at hi;cases hi
  refine⟨.ptr k ax (off+i*s),?_,.inl ⟨k,ax,_,ar,c,rfl,hm,by rw[va];exact he _ _ hi⟩⟩;simp only[bM,ht,hs,Option.bind_some,hm,Option.isSome_some];rw[if_pos ⟨trivial,by omega,by omega,trivial⟩];rfl
variable{P:Pv} {ops:Array Oper} {rest:List Oper} {fr aE:Fr} {st:St} {Q:Fr→St→Prop} {ty:TypeId} {pp:String} {a:Array Edge} {g:Option (Nat×Bool)} {dst:Nat} {N:Nat} {S:St} {H:List bC}
theorem ab.go {op:Op} {d:D} {st1:St} (hg:aA ops fr ⟨some dst,op,ty,pp,a,g⟩=some true) (hc:gm op=false) (h1:di P fr st op ty=some (d,st1)) (hp:fr.put dst d=aE)
  (h:ab P ops rest aE st1 Q):ab P ops (⟨some dst,op,ty,pp,a,g⟩::rest) fr st Q:=
 ab.op hg hc h1 (by show ab P ops rest (fr.put dst d) st1 Q;rw[hp];exact h)
theorem ab.F_ {j k ax off:Nat} {ar:Bool} {c:List D} {d:D} {t:TypeId} {ao:Operand} (hH:Has N S st H) (hg:aA ops fr ⟨some dst,.load t ao,ty,pp,a,g⟩=some true) (ha:fr.ev ao=.ptr k ax off) (hj:H[j]?=some (.box k (.mem ax ar c))) (hd:c7 P t (c.drop off)=some d) (hp:fr.put dst d=aE)
  (h:ab P ops rest aE st Q):ab P ops (⟨some dst,.load t ao,ty,pp,a,g⟩::rest) fr st Q:=by
 refine ab.go hg rfl (d:=d) (st1:=st) ?_ hp h;simp only[di,ha,eZ,St.mem_of (hH.at hj),Option.bind_some,hd,Option.map_some]
theorem ab.ow {j k ax off:Nat} {ar:Bool} {c cs:List D} {v:D} {t:TypeId} {ao vo:Operand} (hH:Has N S st H) (hg:aA ops fr ⟨none,.store t ao vo,ty,pp,a,g⟩=some true) (ha:fr.ev ao=.ptr k ax off) (hv:fr.ev vo=v) (hY:v.cells?=some cs) (hs:bT P t=some cs.length) (hj:H[j]?=some (.box k (.mem ax ar c))) (hl:off+cs.length≤c.length) (hw:S.flr≤N∨refs cs=0)
  (h:∀ah,Has N S ah (H.set j (.box k (.mem ax ar (setMany c off cs))))→ab P ops rest fr ah Q):ab P ops (⟨none,.store t ao vo,ty,pp,a,g⟩::rest) fr st Q:=by
 refine ab.N hg rfl (d:=.tup []) (st1:=⟨st.bs.set k (.mem ax ar (setMany c off cs)),st.flr,st.ro⟩) ?_ (h _ (hH.zL (ax:=ax) hj));simp only[di,ha,hv,jh,hY,hs,if_pos trivial];rw[ke (hH.at hj) hl (iw hH (hH.ge hj).1 hw),e7 _ _ _ hl];rfl
theorem ab.Ku {e:TypeId} {cs:List D} {aE:Nat→Fr} (hH:Has N S st H) (hg:aA ops fr ⟨some dst,.alloc e,ty,pp,a,g⟩=some true) (hz:cO P e=some cs) (hp:∀k,fr.put dst (.ptr k 0 0)=aE k)
  (h:∀k ah,S.bs.length≤k→Has N S ah (.box k (.mem 0 false cs)::H)→ab P ops rest (aE k) ah Q):ab P ops (⟨some dst,.alloc e,ty,pp,a,g⟩::rest) fr st Q:=by
 refine ab.go hg rfl (d:=.ptr st.bs.length 0 0) (st1:=st.push (.mem 0 false cs)) ?_ (hp _) (h _ _ hH.len (hH.xc _));simp only[di,hz,Option.map_some]
theorem ab.yT {e:TypeId} {xo:Operand} {cs:List D} {aE:Nat→Fr} (hH:Has N S st H) (hg:aA ops fr ⟨some dst,.box e xo,ty,pp,a,g⟩=some true) (hz:(fr.ev xo).cells?=some cs) (hp:∀k,fr.put dst (.ptr k 0 0)=aE k)
  (h:∀k ah,S.bs.length≤k→Has N S ah (.box k (.mem 0 false cs)::H)→ab P ops rest (aE k) ah Q):ab P ops (⟨some dst,.box e xo,ty,pp,a,g⟩::rest) fr st Q:=by
 refine ab.go hg rfl (d:=.ptr st.bs.length 0 0) (st1:=st.push (.mem 0 false cs)) ?_ (hp _) (h _ _ hH.len (hH.xc _));simp only[di,hz,Option.map_some]
theorem ab.xx {t e:TypeId} {lo co:Operand} {k1 k2:IntKind} {m:Nat} {inf:TypeInfo} {z:List D} {s:Nat} {aE:Nat→Fr} (hH:Has N S st H) (hg:aA ops fr ⟨some dst,.makeSlice t lo co,ty,pp,a,g⟩=some true)
  (hl:fr.ev lo=.int k1 (m:Nat)) (hc:fr.ev co=.int k2 (m:Nat)) (ht:P.cq t=some (.slice e)) (hi:P.info e=some inf) (hz:cO P e=some z) (hsz:inf.size=s) (jV:z.length=s) (UE:inf.bytes≤1024) (sY:m≤1073741824) (hp:∀k,fr.put dst (.win k 0 0 m s)=aE k)
  (h:∀k ah,S.bs.length≤k→Has N S ah (.aJ (.win k 0 0 m s) s (List.replicate m z)::H)→ab P ops rest (aE k) ah Q):ab P ops (⟨some dst,.makeSlice t lo co,ty,pp,a,g⟩::rest) fr st Q:=by
 have hm:m*inf.bytes≤140737488355328:=Nat.le_trans (Nat.mul_le_mul sY UE) (by decide);subst hsz;refine ab.go hg rfl (d:=.win st.bs.length 0 0 m inf.size) (st1:=st.push (.mem 0 true (dN m z))) ?_ (hp _) (h _ _ hH.len (hH.rE (by simp) rfl (fun e he=>by rw[List.eq_of_mem_replicate he];exact jV)));simp only[di,hl,hc,fk,ht,hi,hz,Option.bind_some];rw[if_pos ⟨jV,by omega,by omega,by omega,by rw[←Int.natCast_mul];omega⟩]
 rfl
theorem Has.append {j:Nat} {x y:D} {s:Nat} {es ys:List (List D)} (hH:Has N S st H) (hj:H[j]?=some (.aJ x s es)) (hy:Rows st s y ys) {t1 t2 e:TypeId} {td:TypeDesc} {inf:TypeInfo} {z:List D}
  (h1:P.cq t1=some (.slice e)) (h2:P.cq t2=some td) (h3:fq td=false) (h4:P.info e=some inf) (h5:cO P e=some z) (h6:inf.size=s) (h7:z.length=s) (h8:0<inf.bytes∧inf.bytes≤1024)
  (oC:es.length+ys.length≤1073741824) (hw:S.flr≤N∨refs ys.flatten=0):
  ∃x' ah,bk P .append [t1,t2] [x,y] st=some (x',ah)∧Has N S ah (H.set j (.aJ x' s (es++ys)))∧(ys=[]→x'=x):=by
 have hb:(es.length+ys.length)*inf.bytes≤1099511627776:=Nat.le_trans (Nat.mul_le_mul oC h8.2) (by decide);have i7:=hy.row
 have AF:∀e∈ys,e.length=s:=fun e he=>by
  obtain⟨i,hi⟩:=List.getElem?_of_mem he;exact hy.sI i e hi
 have mT:=cx AF;have hown:=hH.own hj;have hkk:=(hH.ok j _ hj).2;have hS:=hH.len;have W2:=hH.hN;subst h6;simp only[bk,f',h1,h2,h3,Bool.false_eq_true,if_false,h4,h5,i7,Option.bind_some];rw[if_neg (by rintro(h|h|h);exact h mT;exact absurd h (by omega);exact h h7)]
 have gC:∀e,H[j]?=some e→H.set j e=H:=fun e he=>by
  apply List.ext_getElem?;intro i
  by_cases hij:i=j
  ·subst hij
   have:i<H.length:=by
    rcases Nat.lt_or_ge i H.length with h'|h'
    ·exact h'
    ·rw[List.getElem?_eq_none h'] at he;cases he
   rw[List.getElem?_set_self this,he]
  ·rw[List.getElem?_set_ne (fun e=>hij e.symm)]
 cases hown with
 |nul=>
  simp only[List.nil_append]
  by_cases h0:ys.length=0
  ·rw[if_pos h0]
   have:ys=[]:=by cases ys with|nil=>rfl|cons _ _=>simp at h0
   subst this;exact⟨.nul,st,rfl,by rw[gC _ hj];exact hH,fun _=>rfl⟩
  ·rw[if_neg h0,if_pos (by simpa using hb)];refine⟨_,_,rfl,?_,fun e=>absurd (by rw[e];rfl) h0⟩;refine hH.zx hj (fun k hk _=>by simp only[St.push];rw[List.getElem?_append_left hk]) (by simp[St.push]) rfl rfl ?_ (fun k hk=>?_) fun k hk=>?_
   ·exact fQ.win _ 0 0 ys ys.flatten (rD st _) (by rw[mT];omega) (by rw[List.drop_zero,←mT,List.take_length]) AF
   ·simp only[bC.aJ,D.ref] at hk;right;omega
   ·simp only[bC.aJ,D.ref] at hk;simp only[St.push,List.length_append,List.length_cons,List.length_nil];omega
 |win k ax off es c hm hl hc he=>
  have hk:=hkk k (by simp only[bC.aJ,D.ref]);simp only[St.mem_of hm];rw[if_neg (by rintro(h|h);exact h rfl;omega)]
  by_cases h0:ys.length=0
  ·rw[if_pos h0]
   have:ys=[]:=by cases ys with|nil=>rfl|cons _ _=>simp at h0
   subst this;simp only[List.append_nil];exact⟨_,st,rfl,by rw[gC _ hj];exact hH,fun _=>rfl⟩
  ·rw[if_neg h0,if_pos ⟨hb,iw hH hk.1 hw⟩];refine⟨_,_,rfl,?_,fun e=>absurd (by rw[e];rfl) h0⟩;have vc:es.length+ys.length=(es++ys).length:=by simp
   have gE:(c.take (off+es.length*inf.size)).drop off=es.flatten:=by rw[List.drop_take,←hc];congr 1;omega
   rw[vc,gE];refine hH.zx hj (fun n hn hne=>by simp only;rw[List.getElem?_set_ne (fun e=>hne (by simp only[bC.aJ,D.ref];omega))]) (by simp) rfl rfl ?_ (fun n hn=>?_) fun n hn=>?_
   ·have oz:∀e∈es++ys,e.length=inf.size:=fun e h=>by
     rcases List.mem_append.1 h with h|h
     ·exact he e h
     ·exact AF e h
    have M8:=cx oz;refine fQ.win k (ax+1) 0 (es++ys) (es++ys).flatten ?_ (by rw[M8];omega) (by rw[List.drop_zero,←M8,List.take_length]) oz;simp only;rw[List.getElem?_set_self hk.2,List.flatten_append]
   ·simp only[bC.aJ,D.ref] at hn⊢;left;omega
   ·simp only[bC.aJ,D.ref] at hn;simp only[List.length_set];omega
theorem ab.bR {j:Nat} {x y:D} {s:Nat} {es ys:List (List D)} {t1 t2 e:TypeId} {td:TypeDesc} {inf:TypeInfo} {z:List D} {xo yo:Operand} {aE:D→Fr} (hH:Has N S st H) (hg:aA ops fr ⟨some dst,.call ⟨.builtin .append,#[xo,yo],#[t1,t2]⟩,ty,pp,a,g⟩=some true)
  (hx:fr.ev xo=x) (hy:fr.ev yo=y) (hj:H[j]?=some (.aJ x s es)) (jc:Rows st s y ys)
  (h1:P.cq t1=some (.slice e)) (h2:P.cq t2=some td) (h3:fq td=false) (h4:P.info e=some inf) (h5:cO P e=some z) (h6:inf.size=s) (h7:z.length=s) (h8:0<inf.bytes∧inf.bytes≤1024)
  (hp:∀x',fr.put dst x'=aE x') (hb:es.length+ys.length≤1073741824) (hw:S.flr≤N∨refs ys.flatten=0)
  (h:∀x' ah,Has N S ah (H.set j (.aJ x' s (es++ys)))→ab P ops rest (aE x') ah Q):
  ab P ops (⟨some dst,.call ⟨.builtin .append,#[xo,yo],#[t1,t2]⟩,ty,pp,a,g⟩::rest) fr st Q:=by
 obtain⟨x',ah,q1,q2,q3⟩:=hH.append hj jc h1 h2 h3 h4 h5 h6 h7 h8 hb hw;refine ab.go hg rfl (d:=x') (st1:=ah) ?_ (hp _) (h x' ah q2);simp only[di,List.map_cons,List.map_nil,hx,hy];exact q1
theorem ab.Bb {j:Nat} {x y:D} {s:Nat} {es ys:List (List D)} {t1 t2 e:TypeId} {td:TypeDesc} {inf:TypeInfo} {z:List D} {xo yo:Operand} {aE:D→Fr} (hH:Has N S st H) (hg:aA ops fr ⟨some dst,.call ⟨.builtin .append,#[xo,yo],#[t1,t2]⟩,ty,pp,a,g⟩=some true)
  (hx:fr.ev xo=x) (hy:fr.ev yo=y) (hj:H[j]?=some (.aJ x s es)) (jc:Rows st s y ys)
  (h1:P.cq t1=some (.slice e)) (h2:P.cq t2=some td) (h3:fq td=false) (h4:P.info e=some inf) (h5:cO P e=some z) (h6:inf.size=s) (h7:z.length=s) (h8:0<inf.bytes∧inf.bytes≤1024)
  (hp:∀x',fr.put dst x'=aE x') (hb:es.length+ys.length≤1073741824) (hw:S.flr≤N∨refs ys.flatten=0)
  (h:∀x' ah,(ys=[]→x'=x)→Has N S ah (H.set j (.aJ x' s (es++ys)))→ab P ops rest (aE x') ah Q):
  ab P ops (⟨some dst,.call ⟨.builtin .append,#[xo,yo],#[t1,t2]⟩,ty,pp,a,g⟩::rest) fr st Q:=by
 obtain⟨x',ah,q1,q2,q3⟩:=hH.append hj jc h1 h2 h3 h4 h5 h6 h7 h8 hb hw;refine ab.go hg rfl (d:=x') (st1:=ah) ?_ (hp _) (h x' ah q3 q2);simp only[di,List.map_cons,List.map_nil,hx,hy];exact q1
theorem ab.Jv {t e:TypeId} {xo:Operand} {x:D} {s:Nat} {es:List (List D)} (hg:aA ops fr ⟨some dst,.call ⟨.builtin .len,#[xo],#[t]⟩,ty,pp,a,g⟩=some true) (hx:fr.ev xo=x) (hR:Rows st s x es) (ht:P.cq t=some (.slice e)) (hp:fr.put dst (.int .i64 (es.length:Nat))=aE)
  (h:ab P ops rest aE st Q):ab P ops (⟨some dst,.call ⟨.builtin .len,#[xo],#[t]⟩,ty,pp,a,g⟩::rest) fr st Q:=by
 refine ab.go hg rfl (d:=.int .i64 (es.length:Nat)) (st1:=st) ?_ hp h;simp only[di,List.map_cons,List.map_nil,hx];exact hR.FW ht
theorem ab.tf {t:TypeId} {xo:Operand} {b:List UInt8} (hg:aA ops fr ⟨some dst,.call ⟨.builtin .len,#[xo],#[t]⟩,ty,pp,a,g⟩=some true) (hx:fr.ev xo=.str b) (ht:P.cq t=some .string) (hp:fr.put dst (.int .i64 (b.length:Nat))=aE)
  (h:ab P ops rest aE st Q):ab P ops (⟨some dst,.call ⟨.builtin .len,#[xo],#[t]⟩,ty,pp,a,g⟩::rest) fr st Q:=by
 refine ab.go hg rfl (d:=.int .i64 (b.length:Nat)) (st1:=st) ?_ hp h;simp only[di,List.map_cons,List.map_nil,hx,bk,ht]
theorem ab.LQ {t e:TypeId} {xo io:Operand} {x:D} {s i:Nat} {kk:IntKind} {es:List (List D)} {r:List D} {aE:D→Fr} (hg:aA ops fr ⟨some dst,.indexAddr t xo io,ty,pp,a,g⟩=some true) (hx:fr.ev xo=x) (hi:fr.ev io=.int kk (i:Nat)) (hR:Rows st s x es) (ht:P.cq t=some (.slice e)) (hs:bT P e=some s) (hr:es[i]?=some r) (hp:∀p,fr.put dst p=aE p)
  (h:∀p,iS st p r→ab P ops rest (aE p) st Q):ab P ops (⟨some dst,.indexAddr t xo io,ty,pp,a,g⟩::rest) fr st Q:=by
 obtain⟨p,h1,h2⟩:=hR.Oh ht hs (k:=kk) hr;refine ab.go hg rfl (d:=p) (st1:=st) ?_ (hp p) (h p h2);simp only[di,hx,hi,h1,Option.map_some]
theorem ab.Jx {t:TypeId} {xo:Operand} {x:D} {r:List D} {f m:Nat} {fields:Array Field} {fd:Field} {aE:D→Fr} (hg:aA ops fr ⟨some dst,.fieldAddr t xo f,ty,pp,a,g⟩=some true) (hx:fr.ev xo=x) (hR:iS st x r) (ht:P.cq t=some (.struct fields)) (hf:fields[f]?=some fd) (hm:bT P fd.type=some m) (sY:m≠0) (hp:∀p,fr.put dst p=aE p)
  (h:∀p,iS st p (r.drop fd.offset)→ab P ops rest (aE p) st Q):ab P ops (⟨some dst,.fieldAddr t xo f,ty,pp,a,g⟩::rest) fr st Q:=by
 obtain⟨p,h1,h2⟩:=hR.field ht hf hm sY;refine ab.go hg rfl (d:=p) (st1:=st) ?_ (hp p) (h p h2);simp only[di,hx,h1,Option.map_some]
theorem ab.FU {t:TypeId} {ao:Operand} {x d:D} {r:List D} (hg:aA ops fr ⟨some dst,.load t ao,ty,pp,a,g⟩=some true) (ha:fr.ev ao=x) (hR:iS st x r) (hd:c7 P t r=some d) (hp:fr.put dst d=aE)
  (h:ab P ops rest aE st Q):ab P ops (⟨some dst,.load t ao,ty,pp,a,g⟩::rest) fr st Q:=by
 refine ab.go hg rfl (d:=d) (st1:=st) ?_ hp h;simp only[di,ha,hR.load hd,Option.map_some]
theorem ab.On {t e:TypeId} {xo io:Operand} {x:D} {s i j:Nat} {kk:IntKind} {es:List (List D)} {aE:D→Fr} (hH:Has N S st H) (hg:aA ops fr ⟨some dst,.indexAddr t xo io,ty,pp,a,g⟩=some true) (hx:fr.ev xo=x) (hi:fr.ev io=.int kk (i:Nat)) (hj:H[j]?=some (.aJ x s es)) (ht:P.cq t=some (.slice e)) (hs:bT P e=some s) (hr:i<es.length) (hp:∀p,fr.put dst p=aE p)
  (h:∀p,mX x s i 0 p→ab P ops rest (aE p) st Q):ab P ops (⟨some dst,.indexAddr t xo io,ty,pp,a,g⟩::rest) fr st Q:=by
 have hown:=hH.own hj
 cases hown with
 |nul=>simp at hr
 |win k ax off es c hm hl hc he=>
  refine ab.go hg rfl (d:=.ptr k ax (off+i*s)) (st1:=st) ?_ (hp _) (h _ ⟨k,ax,off,_,rfl,rfl⟩);simp only[di,hx,hi,bM,ht,hs,Option.bind_some,St.mem_of hm,Option.isSome_some];rw[if_pos ⟨trivial,by omega,by omega,trivial⟩];rfl
theorem ab.JE {t:TypeId} {xo:Operand} {x y:D} {s i o:Nat} {f m:Nat} {fields:Array Field} {fd:Field} {aE:D→Fr} (hg:aA ops fr ⟨some dst,.fieldAddr t xo f,ty,pp,a,g⟩=some true) (hx:fr.ev xo=y) (hR:mX x s i o y) (ht:P.cq t=some (.struct fields)) (hf:fields[f]?=some fd) (hm:bT P fd.type=some m) (sY:m≠0) (hp:∀p,fr.put dst p=aE p)
  (h:∀p,mX x s i (o+fd.offset) p→ab P ops rest (aE p) st Q):ab P ops (⟨some dst,.fieldAddr t xo f,ty,pp,a,g⟩::rest) fr st Q:=by
 obtain⟨k,ax,off,len,h1,h2⟩:=hR;refine ab.go hg rfl (d:=.ptr k ax (off+i*s+(o+fd.offset))) (st1:=st) ?_ (hp _) (h _ ⟨k,ax,off,len,h1,rfl⟩);simp only[di,hx,h2,dJ,ht,hf,Option.bind_some,hm];rw[if_neg (by simp only[Option.some.injEq];exact sY),←Nat.add_assoc];rfl
theorem ab.FX {t:TypeId} {ao:Operand} {x y d:D} {s i o j:Nat} {es:List (List D)} {r:List D} (hH:Has N S st H) (hg:aA ops fr ⟨some dst,.load t ao,ty,pp,a,g⟩=some true) (ha:fr.ev ao=y) (hR:mX x s i o y) (hj:H[j]?=some (.aJ x s es)) (hr:es[i]?=some r) (hd:c7 P t (r.drop o)=some d) (hp:fr.put dst d=aE)
  (h:ab P ops rest aE st Q):ab P ops (⟨some dst,.load t ao,ty,pp,a,g⟩::rest) fr st Q:=by
 obtain⟨k,ax,off,len,rfl,rfl⟩:=hR;have hown:=hH.own hj
 cases hown with
 |win k ax off es c hm hl hc he=>
  refine ab.go hg rfl (d:=d) (st1:=st) ?_ hp h;have h1:=jX he i r hr
  have hil:i<es.length:=by
   rcases Nat.lt_or_ge i es.length with h'|h'
   ·exact h'
   ·rw[List.getElem?_eq_none h'] at hr;cases hr
  have h2:(i+1)*s≤es.length*s:=Nat.mul_le_mul_right s hil;rw[Nat.add_mul,Nat.one_mul] at h2;rw[←hc,List.drop_take,List.take_take,List.drop_drop,Nat.min_eq_left (by omega)] at h1;have va:=he r (List.mem_of_getElem? hr);simp only[di,ha,eZ,St.mem_of hm,Option.bind_some];rw[jI (r:=r.drop o) ?_ hd];rfl;rw[List.length_drop,va,←h1,List.drop_take,List.drop_drop]
theorem ab.lO {t:TypeId} {ao vo:Operand} {x y v:D} {s i o j:Nat} {es:List (List D)} {r cs:List D} (hH:Has N S st H) (hg:aA ops fr ⟨none,.store t ao vo,ty,pp,a,g⟩=some true) (ha:fr.ev ao=y) (hv:fr.ev vo=v) (hR:mX x s i o y) (hY:v.cells?=some cs) (hs:bT P t=some cs.length) (hj:H[j]?=some (.aJ x s es)) (hr:es[i]?=some r) (hl:o+cs.length≤s) (hw:S.flr≤N∨refs cs=0)
  (h:∀ah,Has N S ah (H.set j (.aJ x s (es.set i (setMany r o cs))))→ab P ops rest fr ah Q):ab P ops (⟨none,.store t ao vo,ty,pp,a,g⟩::rest) fr st Q:=by
 obtain⟨k,ax,off,len,rfl,rfl⟩:=hR;obtain⟨ah,h1,h2⟩:=hH.w9 hj hr hl hw;refine ab.N hg rfl (d:=.tup []) (st1:=ah) ?_ (h _ h2);simp only[di,ha,hv,jh,hY,hs,if_pos trivial,h1];rfl
theorem ab.Aa {t e:TypeId} {xo:Operand} {lo hi:Option Operand} {x:D} {s j:Nat} {es:List (List D)} {l r:Nat} {aE:D→Fr} (hH:Has N S st H) (hg:aA ops fr ⟨some dst,.slice t xo lo hi none,ty,pp,a,g⟩=some true) (hx:fr.ev xo=x) (hj:H[j]?=some (.aJ x s es)) (ht:P.cq t=some (.slice e)) (hs:bT P e=some s)
  (hb:cT es.length (lo.map fr.ev) (hi.map fr.ev)=some (l,r)) (vb:l≤r∧r≤es.length) (hp:∀y,fr.put dst y=aE y)
  (h:∀y,Has N S st (H.set j (.aJ y s ((es.take r).drop l)))→ab P ops rest (aE y) st Q):ab P ops (⟨some dst,.slice t xo lo hi none,ty,pp,a,g⟩::rest) fr st Q:=by
 have hown:=hH.own hj
 cases hown with
 |nul=>
  simp only[List.length_nil] at hb vb
  have hy:Has N S st (H.set j (.aJ .nul s (([].take r).drop l))):=by
   refine hH.zx hj (fun _ _ _=>rfl) (Nat.le_refl _) rfl rfl (by simp;exact .nul) (fun k hk=>.inl hk) fun k hk=>by simp only[bC.aJ,D.ref] at hk;omega
  refine ab.go hg rfl (d:=.nul) (st1:=st) ?_ (hp _) (h _ hy);simp only[di,hx,fN,ht,hs,Option.bind_some,hb,Option.map_some]
 |win k ax off es c hm hl hc he=>
  have hlen:((es.take r).drop l).length=r-l:=by simp;omega
  have h1:l*s+(r-l)*s≤es.length*s:=by rw[←Nat.add_mul];exact Nat.mul_le_mul_right s (by omega)
  have hk:=(hH.ok j _ hj).2 k (by simp only[bC.aJ,D.ref])
  have hy:Has N S st (H.set j (.aJ (.win k ax (off+l*s) (r-l) s) s ((es.take r).drop l))):=by
   refine hH.zx hj (fun _ _ _=>rfl) (Nat.le_refl _) rfl rfl ?_ (fun k' iN=>.inl ?_) fun k' iN=>?_
   ·have:=fQ.win (st:=st) (s:=s) k ax (off+l*s) ((es.take r).drop l) c hm (by rw[hlen];omega) ?_ (fun e ni=>he e (List.mem_of_mem_take (List.mem_of_mem_drop ni)))
    ·rw[hlen] at this;exact this
    ·rw[hlen];have mT:=cx he
     have e1:∀n,n≤es.length→(es.take n).flatten=es.flatten.take (n*s):=by
      intro n hn;have:es.flatten=(es.take n).flatten++(es.drop n).flatten:=by rw[←List.flatten_append,List.take_append_drop]
      rw[this,List.take_left'];rw[cx (s:=s) (fun e ni=>he e (List.mem_of_mem_take ni)),List.length_take,Nat.min_eq_left hn]
     have e2:((es.take r).drop l).flatten=(es.take r).flatten.drop (l*s):=by
      have h2:(es.take r).flatten=((es.take r).take l).flatten++((es.take r).drop l).flatten:=by rw[←List.flatten_append,List.take_append_drop]
      rw[h2,List.drop_left'];rw[cx (s:=s) (fun e ni=>he e (List.mem_of_mem_take (List.mem_of_mem_take ni))),List.length_take,List.length_take,Nat.min_eq_left (by omega)]
     rw[e2,e1 r vb.2,←hc,List.take_take,List.drop_take,List.drop_drop,Nat.sub_mul]
     congr 1
     have:r*s≤es.length*s:=Nat.mul_le_mul_right s vb.2;rw[Nat.min_eq_left this]
   ·simp only[bC.aJ,D.ref] at iN⊢;exact iN
   ·simp only[bC.aJ,D.ref] at iN;omega
  refine ab.go hg rfl (d:=.win k ax (off+l*s) (r-l) s) (st1:=st) ?_ (hp _) (h _ hy);simp only[di,hx,fN,ht,hs,Option.bind_some,hb,if_true,Option.map_some]
theorem ab.A7 {s t e:TypeId} {xo:Operand} {b:List UInt8} {aE:Nat→Fr} (hH:Has N S st H) (hg:aA ops fr ⟨some dst,.convert s t xo,ty,pp,a,g⟩=some true) (hx:fr.ev xo=.str b) (h1:P.cq s=some .string) (h2:P.cq t=some (.slice e)) (h3:P.cq e=some (.int .u8)) (hl:b.length<1099511627776) (hp:∀k,fr.put dst (.win k 0 0 b.length 1)=aE k)
  (h:∀k ah,S.bs.length≤k→Has N S ah (.aJ (.win k 0 0 b.length 1) 1 (byteCells b)::H)→ab P ops rest (aE k) ah Q):ab P ops (⟨some dst,.convert s t xo,ty,pp,a,g⟩::rest) fr st Q:=by
 have hc:∀b:List UInt8,(byteCells b).flatten=b.map fun y=>.int .u8 (y.toNat:Nat):=by
  intro b
  induction b with
  |nil=>rfl
  |cons y b ih=>simp only[byteCells,List.map_cons,List.flatten_cons] at ih⊢;rw[ih];rfl
 refine ab.go hg rfl (d:=.win st.bs.length 0 0 b.length 1) (st1:=st.push (.mem 0 true (b.map fun y=>.int .u8 (y.toNat:Nat)))) ?_ (hp _) (h _ _ hH.len (hH.rE (by simp[byteCells]) (hc b) (fun e he=>by obtain⟨y,_,rfl⟩:=List.mem_map.1 he;rfl)));simp only[di,hx,uL,h1,h2,h3,if_pos hl]
theorem ab.iW {f:Operand} {gn:Nat} {hD:List D} {args:Array Operand} {tc:Array TypeId} {d:D} {st1:St} (hg:aA ops fr ⟨some dst,.call ⟨.value f,args,tc⟩,ty,pp,a,g⟩=some true) (hf:fr.ev f=.fn gn hD)
  (h1:Ev P gn (args.toList.map fr.ev++hD) st d st1) (hp:fr.put dst d=aE)
  (h:ab P ops rest aE st1 Q):ab P ops (⟨some dst,.call ⟨.value f,args,tc⟩,ty,pp,a,g⟩::rest) fr st Q:=
 ab.call hg hf h1 (by show ab P ops rest (fr.put dst d) st1 Q;rw[hp];exact h)
theorem Ay {m:Mode} {kn:Bool} {st st1:St} {d d':D} (hm:m≠.br∧m≠.nw) (hS:S.bs=st.bs) (hH:Has st.bs.length S st1 H) (hd:bo st1 st.bs.length kn 16 d=some d'):cD m kn st st1 d=some (d',st):=
 bA hm ((hH.ex.take (by rw[hS])).trans hS) hd
theorem Has.freeze {j:Nat} {x:D} {s:Nat} {es:List (List D)} (hH:Has N S st H) (hj:H[j]?=some (.aJ x s es)) (hp:∀e∈es,∀d∈e,bX d=true) {n:Nat} (hn:2≤n):bo st N false (n+1) x=some (.sl (es.map (ja s))):=by
 obtain⟨n,rfl⟩:∃m,n=m+2:=⟨n-2,by omega⟩
 have hown:=hH.own hj;have hkk:=(hH.ok j _ hj).2
 cases hown with
 |nul=>rfl
 |win k ax off es c hm hl hc he=>
  have hk:=hkk k (by simp only[bC.aJ,D.ref]);show(if k<N then some (D.win k ax off es.length s) else dR st N (n+2) (.win k ax off es.length s))=_;rw[if_neg (show¬k<N by omega),dR];simp only[if_neg (show¬k<N by omega),St.mem_of hm,Option.bind_some]
  rw[if_pos hl,hc,iI (fun d hd=>by
   obtain⟨e,ni,xA⟩:=List.mem_flatten.1 hd
   exact hp e ni d xA)]
  simp only[Option.map_some,fv he]
end Go.V
namespace Go.V
variable{P:Pv} {ops:Array Oper} {rest:List Oper} {fr aE:Fr} {st:St} {Q:Fr→St→Prop} {ty:TypeId} {pp:String} {a:Array Edge} {g:Option (Nat×Bool)} {dst:Nat}
theorem aB {o:Oper} {j t:Nat} {w v:Bool} (h1:o.guard=some (j,w)) (h2:(ops[j]?).bind (·.dst)=some t) (h3:fr.get t=.bool v) (h4:v=w):aA ops fr o=some true:=by
 unfold aA;simp only[h1,h2,h3,h4,beq_self_eq_true]
theorem x5 {o:Oper} {j t:Nat} {w v:Bool} (h1:o.guard=some (j,w)) (h2:(ops[j]?).bind (·.dst)=some t) (h3:fr.get t=.bool v) (h4:v=!w):aA ops fr o=some false:=by
 unfold aA;simp only[h1,h2,h3,h4];cases w<;>rfl
theorem ab.skip {op:Op} (hg:aA ops fr ⟨some dst,op,ty,pp,a,g⟩=some false) (hp:fr.put dst (.tup [])=aE)
  (h:ab P ops rest aE st Q):ab P ops (⟨some dst,op,ty,pp,a,g⟩::rest) fr st Q:=
 ab.off hg (by show ab P ops rest (fr.put dst _) st Q;rw[hp];exact h)
theorem ab.two {l:List Oper} (t:Nat) {v:Bool} (hv:fr.get t=.bool v) (h1:v=true→ab P ops l fr st Q) (h2:v=false→ab P ops l fr st Q):ab P ops l fr st Q:=by
 cases v
 ·exact h2 rfl
 ·exact h1 rfl
theorem ab.dG {c x y:Operand} {v:Bool} (hg:aA ops fr ⟨some dst,.pick c x y,ty,pp,a,g⟩=some true) (hc:fr.ev c=.bool v) (hv:v=true) (hp:fr.put dst (fr.ev x)=aE)
  (h:ab P ops rest aE st Q):ab P ops (⟨some dst,.pick c x y,ty,pp,a,g⟩::rest) fr st Q:=
 ab.go hg rfl (by simp only[di,hc,hv]) hp h
theorem ab.cX {c x y:Operand} {v:Bool} (hg:aA ops fr ⟨some dst,.pick c x y,ty,pp,a,g⟩=some true) (hc:fr.ev c=.bool v) (hv:v=false) (hp:fr.put dst (fr.ev y)=aE)
  (h:ab P ops rest aE st Q):ab P ops (⟨some dst,.pick c x y,ty,pp,a,g⟩::rest) fr st Q:=
 ab.go hg rfl (by simp only[di,hc,hv]) hp h
theorem af.cut {dy:Dy} {i:Nat} {l:List Oper} {d n loc L9 tmp st} {Q:Out→Fr→St→Prop} (t:Nat) (v:D)
  (h1:ab P l.toArray l ⟨n,loc,[]⟩ st fun aE ah=>∃tmp,aE=⟨n,L9,tmp⟩∧ah=st∧look t tmp=v) (h2:∀tmp,look t tmp=v→Q .next ⟨n,L9,tmp⟩ st) (h0:fm i dy=[]:=by rfl):af P dy (.region i l.toArray d) ⟨n,loc,tmp⟩ st Q:=by
 refine af.eX ?_ h0;unfold ab at h1⊢;obtain⟨aE,ah,h3,Gj,rfl,rfl,h4⟩:=h1;exact⟨_,_,h3,h2 _ h4⟩
theorem me {len n:Nat} {k:IntKind} (h:n≤len):cT len none (some (.int k (n:Nat)))=some (0,n):=by
 simp only[cT,jn,kB,Option.bind_some];rw[if_pos ⟨by omega,by omega⟩];rfl
theorem wrap_i32 {n : Int} (h1 : -2147483648 ≤ n) (h2 : n ≤ 2147483647) : bP .i32 n = n := by
  cases n with
  | ofNat m => exact d_ (k := .i32) (m := m) (by simp only [ko]; have : (Int.ofNat m) = (m : Int) := rfl; omega)
  | negSucc m =>
    unfold bP
    have : Nat.ble (rN .i32) m = false := by
      cases hb : Nat.ble (rN .i32) m with
      | false => rfl
      | true => have := Nat.le_of_ble_eq_true hb; simp only [rN] at this; have : Int.negSucc m = -(m : Int) - 1 := by omega
                omega
    simp only [this]
theorem Ow (x y:Int):(if y>x then y else x)=max x y:=by split<;>omega
theorem Ov (x y:Int):(if y<x then y else x)=min x y:=by split<;>omega
theorem ab.EV {t1 t2:TypeId} {xo yo:Operand} {k k':IntKind} {x y:Int} {tc:Array TypeId} (hg:aA ops fr ⟨some dst,.call ⟨.builtin .max,#[xo,yo],tc⟩,ty,pp,a,g⟩=some true) (hx:fr.ev xo=.int k x) (hy:fr.ev yo=.int k' y) (hp:fr.put dst (.int k (max x y))=aE)
  (h:ab P ops rest aE st Q):ab P ops (⟨some dst,.call ⟨.builtin .max,#[xo,yo],tc⟩,ty,pp,a,g⟩::rest) fr st Q:=by
 refine ab.go hg rfl (d:=.int k (max x y)) (st1:=st) ?_ hp h;simp only[di,List.map_cons,List.map_nil,hx,hy,bk,mH,pO,Option.bind_some,Option.map_some,←Ow];rfl
theorem ab.EU {t1 t2:TypeId} {xo yo:Operand} {k k':IntKind} {x y:Int} {tc:Array TypeId} (hg:aA ops fr ⟨some dst,.call ⟨.builtin .min,#[xo,yo],tc⟩,ty,pp,a,g⟩=some true) (hx:fr.ev xo=.int k x) (hy:fr.ev yo=.int k' y) (hp:fr.put dst (.int k (min x y))=aE)
  (h:ab P ops rest aE st Q):ab P ops (⟨some dst,.call ⟨.builtin .min,#[xo,yo],tc⟩,ty,pp,a,g⟩::rest) fr st Q:=by
 refine ab.go hg rfl (d:=.int k (min x y)) (st1:=st) ?_ hp h;simp only[di,List.map_cons,List.map_nil,hx,hy,bk,mH,pO,Option.bind_some,Option.map_some,←Ov];rfl
theorem ab.KZ {t ml:TypeId} {xo yo:Operand} {x y:Int} (hg:aA ops fr ⟨some dst,.binOp .add t xo yo ml,ty,pp,a,g⟩=some true) (hx:fr.ev xo=.int .i64 x) (hy:fr.ev yo=.int .i64 y) (h1:-9223372036854775808≤x+y) (h2:x+y≤9223372036854775807) (hp:fr.put dst (.int .i64 (x+y))=aE)
  (h:ab P ops rest aE st Q):ab P ops (⟨some dst,.binOp .add t xo yo ml,ty,pp,a,g⟩::rest) fr st Q:=by
 refine ab.go hg rfl (d:=.int .i64 (x+y)) (st1:=st) ?_ hp h;simp only[di,hx,hy,kC,uh,if_pos trivial,Option.map_some,wrap_i64 h1 h2,reduceIte]
theorem ab.K0 {t ml:TypeId} {xo yo:Operand} {x y:Int} (hg:aA ops fr ⟨some dst,.binOp .add t xo yo ml,ty,pp,a,g⟩=some true) (hx:fr.ev xo=.int .i32 x) (hy:fr.ev yo=.int .i32 y) (h1:-2147483648≤x+y) (h2:x+y≤2147483647) (hp:fr.put dst (.int .i32 (x+y))=aE)
  (h:ab P ops rest aE st Q):ab P ops (⟨some dst,.binOp .add t xo yo ml,ty,pp,a,g⟩::rest) fr st Q:=by
 refine ab.go hg rfl (d:=.int .i32 (x+y)) (st1:=st) ?_ hp h;simp only[di,hx,hy,kC,uh,if_pos trivial,Option.map_some,wrap_i32 h1 h2,reduceIte]
theorem ab.mv {op:Op} {x:Operand} {d:D} (eU:op=.move x∨op=.assign x) (hg:aA ops fr ⟨some dst,op,ty,pp,a,g⟩=some true) (hx:fr.ev x=d) (hp:fr.put dst d=aE)
  (h:ab P ops rest aE st Q):ab P ops (⟨some dst,op,ty,pp,a,g⟩::rest) fr st Q:=by
 refine ab.go hg ?_ (d:=d) (st1:=st) ?_ hp h<;>rcases eU with rfl|rfl<;>first|rfl|simp only[di,hx]
def ky (P:Pv) (fields:Array Field) (f:Nat):Option (Nat×Option Nat):=(fields[f]?).map fun fd=>(fd.offset,bT P fd.type)
theorem jB {P:Pv} {fields:Array Field} {f fo m:Nat} (h:ky P fields f=some (fo,some m)):∃fd,fields[f]?=some fd∧fd.offset=fo∧bT P fd.type=some m:=by
 unfold ky at h;obtain⟨fd,h1,h2⟩:=Option.map_eq_some_iff.1 h;simp only[Prod.mk.injEq] at h2;exact⟨fd,h1,h2.1,h2.2⟩
theorem ab.JA {t:TypeId} {xo:Operand} {k ax off o f fo m:Nat} {fields:Array Field} (hg:aA ops fr ⟨some dst,.fieldAddr t xo f,ty,pp,a,g⟩=some true) (hx:fr.ev xo=.ptr k ax off) (ht:P.cq t=some (.struct fields)) (hf:ky P fields f=some (fo,some (m+1))) (ho:off+fo=o) (hp:fr.put dst (.ptr k ax o)=aE)
  (h:ab P ops rest aE st Q):ab P ops (⟨some dst,.fieldAddr t xo f,ty,pp,a,g⟩::rest) fr st Q:=by
 obtain⟨fd,h1,h2,h3⟩:=jB hf;subst ho;refine ab.go hg rfl (d:=.ptr k ax (off+fo)) (st1:=st) ?_ hp h;simp only[di,hx,dJ,ht,h1,Option.bind_some,h3,h2];rw[if_neg (by simp)];rfl
theorem ab.ED {t:TypeId} {xo:Operand} {x:D} {r:List D} {f fo m:Nat} {fields:Array Field} {aE:D→Fr} (hg:aA ops fr ⟨some dst,.fieldAddr t xo f,ty,pp,a,g⟩=some true) (hx:fr.ev xo=x) (hR:iS st x r) (ht:P.cq t=some (.struct fields)) (hf:ky P fields f=some (fo,some (m+1))) (hp:∀p,fr.put dst p=aE p)
  (h:∀p,iS st p (r.drop fo)→ab P ops rest (aE p) st Q):ab P ops (⟨some dst,.fieldAddr t xo f,ty,pp,a,g⟩::rest) fr st Q:=by
 obtain⟨fd,h1,h2,h3⟩:=jB hf;exact ab.Jx hg hx hR ht h1 h3 (by omega) hp (by rw[h2];exact h)
theorem ab.fY {t:TypeId} {xo:Operand} {x y:D} {s i o o2:Nat} {f fo m:Nat} {fields:Array Field} {aE:D→Fr} (hg:aA ops fr ⟨some dst,.fieldAddr t xo f,ty,pp,a,g⟩=some true) (hx:fr.ev xo=y) (hR:mX x s i o y) (ht:P.cq t=some (.struct fields)) (hf:ky P fields f=some (fo,some (m+1))) (ho:o+fo=o2) (hp:∀p,fr.put dst p=aE p)
  (h:∀p,mX x s i o2 p→ab P ops rest (aE p) st Q):ab P ops (⟨some dst,.fieldAddr t xo f,ty,pp,a,g⟩::rest) fr st Q:=by
 obtain⟨fd,h1,h2,h3⟩:=jB hf;subst ho;exact ab.JE hg hx hR ht h1 h3 (by omega) hp (by rw[h2];exact h)
theorem tj {c cs:List D} (h:cs.length=c.length):setMany c 0 cs=cs:=by
 rw[e7 cs c 0 (by omega),List.take_zero,List.nil_append,Nat.zero_add,h,List.drop_length,List.append_nil]
variable{N:Nat} {S:St} {H:List bC}
theorem ab.sc {j k ax:Nat} {ar:Bool} {c cs:List D} {v:D} {t:TypeId} {ao vo:Operand} (hH:Has N S st H) (hg:aA ops fr ⟨none,.store t ao vo,ty,pp,a,g⟩=some true) (ha:fr.ev ao=.ptr k ax 0) (hv:fr.ev vo=v) (hY:v.cells?=some cs) (hs:bT P t=some cs.length) (hj:H[j]?=some (.box k (.mem ax ar c))) (hl:cs.length=c.length) (hw:S.flr≤N∨refs cs=0)
  (h:∀ah,Has N S ah (H.set j (.box k (.mem ax ar cs)))→ab P ops rest fr ah Q):ab P ops (⟨none,.store t ao vo,ty,pp,a,g⟩::rest) fr st Q:=
 ab.ow hH hg ha hv hY hs hj (by omega) hw (by rw[tj hl];exact h)
theorem qK {place:Nat→Option (Nat×Nat)} {s:Nat} (jf:∀i,place i=some (i*s,s)):∀(vs:List D) (n:Nat) (done rem:List D),done.length=n*s→rem.length=vs.length*s→(∀v∈vs,v.cells?=some v.cells∧v.cells.length=s)→
  fV place (done++rem) (vs.mapIdx fun i v=>(n+i,v))=some (done++(vs.map D.cells).flatten)
 |[],n,done,rem,hd,hr,_=>by
  have:rem=[]:=by cases rem with|nil=>rfl|cons _ _=>simp at hr
  subst this;simp[fV]
 |v::vs,n,done,rem,hd,hr,hv=>by
  obtain⟨h1,h2⟩:=hv v (List.mem_cons_self ..);simp only[List.length_cons,Nat.add_mul,Nat.one_mul] at hr;simp only[List.mapIdx_cons,fV,jf,h1,Nat.add_zero];rw[if_neg (by simp only[h2,ne_eq,not_true_eq_false,List.length_append,false_or];rw[hd,hr];omega)]
  have e1:setMany (done++rem) (n*s) v.cells=(done++v.cells)++rem.drop s:=by
   rw[e7 _ _ _ (by simp only[List.length_append];omega),h2,←hd,List.take_left,List.drop_length_add_append]
  have ih:=qK jf vs (n+1) (done++v.cells) (rem.drop s) (by rw[List.length_append,hd,h2,Nat.add_mul,Nat.one_mul]) (by rw[List.length_drop];omega) fun w hw=>hv w (List.mem_cons_of_mem _ hw);rw[e1];have e2:(vs.mapIdx fun i v=>(n+(i+1),v))=vs.mapIdx fun i v=>(n+1+i,v):=by congr 1;funext i v;rw[show n+(i+1)=n+1+i by omega]
  rw[e2,ih];simp[List.append_assoc]
def xJ (fr:Fr):Nat→List (Nat×Operand)→List D→Prop
 |_,[],[]=>True
 |n,(i,o)::ps,v::vs=>i=n∧fr.ev o=v∧xJ fr (n+1) ps vs
 |_,_,_=>False
theorem uE {fr:Fr}:∀{ps:List (Nat×Operand)} {vs:List D} {n:Nat},xJ fr n ps vs→(ps.map fun p=>(p.1,fr.ev p.2))=vs.mapIdx fun i v=>(n+i,v)
 |[],[],_,_=>rfl
 |(i,o)::ps,v::vs,n,h=>by
  obtain⟨h1,h2,h3⟩:=h;have ih:=uE h3;simp only[List.map_cons,List.mapIdx_cons,Nat.add_zero];rw[ih,h1,h2]
  congr 1
  congr 1;funext i v;rw[show n+(i+1)=n+1+i by omega]
 |[],_::_,_,h=>h.elim
 |_::_,[],_,h=>h.elim
theorem ab.MT {t e:TypeId} {m s:Nat} {parts:Array (Nat×Operand)} {z:List D} {vs:List D} {aE:Nat→Fr} (hH:Has N S st H) (hg:aA ops fr ⟨some dst,.buildSlice t m parts,ty,pp,a,g⟩=some true) (ht:P.cq t=some (.slice e)) (hs:bT P e=some s) (hz:cO P e=some z) (jV:z.length=s) (hm:m*s≤16777216)
  (NQ:xJ fr 0 parts.toList vs) (Mj:vs.length=m) (hc:∀v∈vs,v.cells?=some v.cells∧v.cells.length=s) (hp:∀k,fr.put dst (.win k 0 0 m s)=aE k)
  (h:∀k ah,S.bs.length≤k→Has N S ah (.aJ (.win k 0 0 m s) s (vs.map D.cells)::H)→ab P ops rest (aE k) ah Q):ab P ops (⟨some dst,.buildSlice t m parts,ty,pp,a,g⟩::rest) fr st Q:=by
 have zh:=uE NQ;have hf:=qK (place:=fun i=>some (i*s,s)) (fun _=>rfl) vs 0 [] (dN m z) (by simp) (by simp[dN,Mj,jV]) hc
 refine ab.go hg rfl (d:=.win st.bs.length 0 0 m s) (st1:=st.push (.mem 0 true (vs.map D.cells).flatten)) ?_ (hp _) (h _ _ hH.len (hH.rE (by simpa using Mj) rfl (fun e he=>by
  obtain⟨v,hv,rfl⟩:=List.mem_map.1 he
  exact(hc v hv).2)))
 simp only[di,fH,ht,hs,hz,Option.bind_some];rw[if_pos ⟨jV,hm⟩,zh];simp only[List.nil_append] at hf;rw[hf];rfl
theorem ab.bN {j k ax off m:Nat} {ar:Bool} {c r:List D} {t:TypeId} {ao:Operand} (hH:Has N S st H) (hg:aA ops fr ⟨some dst,.load t ao,ty,pp,a,g⟩=some true) (ha:fr.ev ao=.ptr k ax off) (hj:H[j]?=some (.box k (.mem ax ar c))) (hr:(c.drop off).take m=r) (hd:c7 P t r=some (.agg r)) (hm:r.length=m) (hp:fr.put dst (.agg r)=aE)
  (h:ab P ops rest aE st Q):ab P ops (⟨some dst,.load t ao,ty,pp,a,g⟩::rest) fr st Q:=
 ab.F_ hH hg ha hj (jI (r:=r) (by rw[hm];exact hr) hd) hp h
theorem bt {α:Type} {l:List α} {i:Nat} {a:α} (h:l[i]?=some a):i<l.length:=by
 rcases Nat.lt_or_ge i l.length with h'|h'
 ·exact h'
 ·rw[List.getElem?_eq_none h'] at h;cases h
theorem ab.dE {t:TypeId} {ao:Operand} {x:D} {r:List D} (hg:aA ops fr ⟨some dst,.load t ao,ty,pp,a,g⟩=some true) (ha:fr.ev ao=x) (hR:iS st x r) (hd:c7 P t r=some (.agg r)) (hp:fr.put dst (.agg r)=aE)
  (h:ab P ops rest aE st Q):ab P ops (⟨some dst,.load t ao,ty,pp,a,g⟩::rest) fr st Q:=ab.FU hg ha hR hd hp h
theorem ab.rH {t:TypeId} {ao:Operand} {x y:D} {s i j:Nat} {es:List (List D)} {r:List D} (hH:Has N S st H) (hg:aA ops fr ⟨some dst,.load t ao,ty,pp,a,g⟩=some true) (ha:fr.ev ao=y) (hR:mX x s i 0 y) (hj:H[j]?=some (.aJ x s es)) (hr:es[i]?=some r) (hd:c7 P t r=some (.agg r)) (hp:fr.put dst (.agg r)=aE)
  (h:ab P ops rest aE st Q):ab P ops (⟨some dst,.load t ao,ty,pp,a,g⟩::rest) fr st Q:=ab.FX hH hg ha hR hj hr (by rw[List.drop_zero];exact hd) hp h
theorem ab.ka {t ml:TypeId} {xo yo:Operand} {x y z:Int} {k:IntKind} (hg:aA ops fr ⟨some dst,.binOp .add t xo yo ml,ty,pp,a,g⟩=some true) (hx:fr.ev xo=.int k x) (hy:fr.ev yo=.int k y) (hz:bP k (x+y)=z) (hp:fr.put dst (.int k z)=aE)
  (h:ab P ops rest aE st Q):ab P ops (⟨some dst,.binOp .add t xo yo ml,ty,pp,a,g⟩::rest) fr st Q:=by
 refine ab.go hg rfl (d:=.int k z) (st1:=st) ?_ hp h;simp only[di,hx,hy,kC,uh,if_pos trivial,Option.map_some,hz,reduceIte]
theorem ab.mN {t ml:TypeId} {xo yo:Operand} {x y z:Int} {k:IntKind} (hg:aA ops fr ⟨some dst,.binOp .sub t xo yo ml,ty,pp,a,g⟩=some true) (hx:fr.ev xo=.int k x) (hy:fr.ev yo=.int k y) (hz:bP k (x-y)=z) (hp:fr.put dst (.int k z)=aE)
  (h:ab P ops rest aE st Q):ab P ops (⟨some dst,.binOp .sub t xo yo ml,ty,pp,a,g⟩::rest) fr st Q:=by
 refine ab.go hg rfl (d:=.int k z) (st1:=st) ?_ hp h;simp only[di,hx,hy,kC,uh,if_pos trivial,Option.map_some,hz,reduceIte]
theorem ab.vK {t ml:TypeId} {xo yo:Operand} {x y z:Int} {k:IntKind} (hg:aA ops fr ⟨some dst,.binOp .mul t xo yo ml,ty,pp,a,g⟩=some true) (hx:fr.ev xo=.int k x) (hy:fr.ev yo=.int k y) (hz:bP k (x*y)=z) (hp:fr.put dst (.int k z)=aE)
  (h:ab P ops rest aE st Q):ab P ops (⟨some dst,.binOp .mul t xo yo ml,ty,pp,a,g⟩::rest) fr st Q:=by
 refine ab.go hg rfl (d:=.int k z) (st1:=st) ?_ hp h;simp only[di,hx,hy,kC,uh,if_pos trivial,Option.map_some,hz,reduceIte]
theorem ab.Ou {t ml:TypeId} {xo yo:Operand} {x y:D} {b:Bool} (hg:aA ops fr ⟨some dst,.binOp .neq t xo yo ml,ty,pp,a,g⟩=some true) (hx:fr.ev xo=x) (hy:fr.ev yo=y) (hb:kC P .neq t x y=some (.bool b)) (hp:fr.put dst (.bool b)=aE)
  (h:ab P ops rest aE st Q):ab P ops (⟨some dst,.binOp .neq t xo yo ml,ty,pp,a,g⟩::rest) fr st Q:=by
 refine ab.go hg rfl (d:=.bool b) (st1:=st) ?_ hp h;simp only[di,hx,hy,hb,Option.map_some]
theorem Ev.iY {f:Nat} {x:Fi} {body:Code} {args:List D} {st:St} {n:Nat} {loc:List D} {BI:D→St→Prop} (hq:jv f P.prm=none) (hf:P.fi f=some x) (hp:x.iX=none) (hb:x.fn.body=some body) (AQ:pad x.nloc args=⟨n,loc,[]⟩)
  (h:af P x.dyn body ⟨n,loc,[]⟩ (ai x.mode st) fun o fr st1=>(∀i,o≠.exit i)∧∃ds d ah,iF P fr st1 x.fn.results.toList=some ds∧cD x.mode x.knul st st1 (o_ ds)=some (d,ah)∧BI d ah):∃d ah,Ev P f args st d ah∧BI d ah:=by
 unfold af at h;obtain⟨o,aE,st1,hN,ho,ds,d,ah,hr,hl,AO⟩:=h;refine⟨d,ah,Ev.nZ hq hf hp hb AQ ?_,AO⟩;unfold af;exact⟨o,aE,st1,hN,ho,ds,hr,hl⟩
def BK (M:Fr→St→Prop) (Q:Out→Fr→St→Prop):Out→Fr→St→Prop
 | .next,fr,st=>M fr st
 | .exit i,fr,st=>Q (.exit i) fr st
 | .ret,fr,st=>Q .ret fr st
theorem af.merge {P:Pv} {dy:Dy} {c:Code} {fr:Fr} {st:St} {Q:Out→Fr→St→Prop} (M:Fr→St→Prop) (h1:af P dy c fr st (BK M Q)) (h2:∀aE ah,M aE ah→Q .next aE ah):af P dy c fr st Q:=
 h1.mono fun o aE ah h=>by
  cases o with
  |next=>exact h2 _ _ h
  |exit i=>exact h
  |ret=>exact h
theorem ab.RC {t ml:TypeId} {xo yo:Operand} {x y:Nat} (hg:aA ops fr ⟨some dst,.binOp .add t xo yo ml,ty,pp,a,g⟩=some true) (hx:fr.ev xo=.int .i64 (x:Nat)) (hy:fr.ev yo=.int .i64 (y:Nat)) (h2:x+y≤9223372036854775807) (hp:fr.put dst (.int .i64 ((x+y:Nat):Int))=aE)
  (h:ab P ops rest aE st Q):ab P ops (⟨some dst,.binOp .add t xo yo ml,ty,pp,a,g⟩::rest) fr st Q:=
 ab.ka hg hx hy (by rw[wrap_i64 (by omega) (by omega)];rfl) hp h
theorem Ev.ET {f:Nat} {x:Fi} {body:Code} {args:List D} {st:St} {n:Nat} {loc:List D} {BI:D→Prop} (hq:jv f P.prm=none) (hf:P.fi f=some x) (hp:x.iX=none) (hb:x.fn.body=some body) (AQ:pad x.nloc args=⟨n,loc,[]⟩)
  (h:af P x.dyn body ⟨n,loc,[]⟩ (ai x.mode st) fun o fr st1=>(∀i,o≠.exit i)∧∃ds d,iF P fr st1 x.fn.results.toList=some ds∧cD x.mode x.knul st st1 (o_ ds)=some (d,st)∧BI d):∃d,Ev P f args st d st∧BI d:=by
 unfold af at h;obtain⟨o,aE,st1,hN,ho,ds,d,hr,hl,AO⟩:=h;refine⟨d,Ev.nZ hq hf hp hb AQ ?_,AO⟩;unfold af;exact⟨o,aE,st1,hN,ho,ds,hr,hl⟩
def aI (loc:List D) (ws:List Nat) (f:Nat→D):List D:=ws.foldl (fun l w=>l.set w (f w)) loc
theorem af.k_ {P:Pv} {dy:Dy} {i:Nat} {l:List Oper} {d n loc tmp st} {Q:Out→Fr→St→Prop} (t:Nat) (v:D) (ws:List Nat)
  (h1:ab P l.toArray l ⟨n,loc,[]⟩ st fun aE ah=>∃f tmp,aE=⟨n,(aI loc ws f).set t v,tmp⟩∧ah=st) (h2:∀f tmp,Q .next ⟨n,(aI loc ws f).set t v,tmp⟩ st) (h0:fm i dy=[]:=by rfl):af P dy (.region i l.toArray d) ⟨n,loc,tmp⟩ st Q:=by
 refine af.eX ?_ h0;unfold ab at h1⊢;obtain⟨aE,ah,h3,f,Gj,rfl,rfl⟩:=h1;exact⟨_,_,h3,h2 _ _⟩
theorem af.j8 {P:Pv} {dy:Dy} {i:Nat} {l:List Oper} {d n loc tmp st} {Q:Out→Fr→St→Prop} (t:Nat) (v:D) (ws:List Nat)
  (h1:ab P l.toArray l ⟨n,loc,[]⟩ st fun aE ah=>∃f tmp,aE=⟨n,aI loc ws f,tmp⟩∧ah=st∧look t tmp=v) (h2:∀f tmp,look t tmp=v→Q .next ⟨n,aI loc ws f,tmp⟩ st) (h0:fm i dy=[]:=by rfl):af P dy (.region i l.toArray d) ⟨n,loc,tmp⟩ st Q:=by
 refine af.eX ?_ h0;unfold ab at h1⊢;obtain⟨aE,ah,h3,f,Gj,rfl,rfl,h4⟩:=h1;exact⟨_,_,h3,h2 _ _ h4⟩
theorem aU {n:Nat} {L loc:List D} {rn:List (Nat×D)} {ws:List Nat} {t:Nat} {v:D} {st:St} (h:L=(aI loc ws (fun k=>nth .bp L k)).set t v):∃(f:Nat→D) (tmp:List (Nat×D)),(⟨n,L,rn⟩:Fr)=⟨n,(aI loc ws f).set t v,tmp⟩∧st=st:=⟨_,rn,by rw[←h],rfl⟩
theorem cP {n:Nat} {L loc:List D} {rn:List (Nat×D)} {ws:List Nat} {t:Nat} {v:D} {st:St} (h:L=aI loc ws (fun k=>nth .bp L k)) (h2:look t rn=v):∃(f:Nat→D) (tmp:List (Nat×D)),(⟨n,L,rn⟩:Fr)=⟨n,aI loc ws f,tmp⟩∧st=st∧look t tmp=v:=⟨_,rn,by rw[←h],rfl,h2⟩
theorem y_ {x y:Oper} {fi fj:Fr} {si pa sj FT:St} {a:Operand} {k ax off v:Nat} {ar:Bool} {c:List D} (hy:fR y.op=none) (hx:fR x.op=some a) (ha:fi.ev a=.ptr k ax off) (h1:sj.bs[k]?=some (.mem v ar c)) (h2:FT.bs[k]?=some (.mem v ar c)) (h3:si.bs[k]?=some (.mem v ar c)) (hr:refs c=0):iH x fi si pa y fj sj FT=true:=by
 unfold iH;simp only[hy,hx,ha,D.lp,Bool.and_eq_true];refine⟨pB h1 h2,?_⟩;unfold kg;simp only[h3,hr]
 split
 ·rfl
 ·simp
def fK (x:D) (s:Nat) (es:List (List D)):Prop:=(x=.nul∧es=[])∨∃ds,x=.sl ds∧ds.map D.cells=es∧∀d∈ds,d.cells?=some d.cells∧d.cells.length=s
theorem fK.rows {x:D} {s:Nat} {es:List (List D)} (h:fK x s es) (st:St):Rows st s x es:=by
 rcases h with⟨rfl,rfl⟩|⟨ds,rfl,rfl,h⟩
 ·exact .nul
 ·exact .sl ds h
theorem fK.ref {x:D} {s:Nat} {es:List (List D)} (h:fK x s es):x.ref=0:=by
 rcases h with⟨rfl,rfl⟩|⟨ds,rfl,rfl,h⟩<;>rfl
theorem fK.arg {x:D} {s:Nat} {es:List (List D)} (h:fK x s es) (N:Nat) (S:St):Arg N S s x es:=⟨h.rows S,by rw[h.ref];omega⟩
theorem fK.cells {x:D} {s:Nat} {es:List (List D)} (h:fK x s es):x.cells?=some [x]∧x.cells=[x]:=by
 rcases h with⟨rfl,rfl⟩|⟨ds,rfl,rfl,h⟩<;>exact⟨rfl,rfl⟩
theorem fK.freeze {x:D} {s:Nat} {es:List (List D)} (h:fK x s es) (st:St) (N n:Nat):∃y,bo st N false (n+1) x=some y∧fK y s es:=by
 rcases h with⟨rfl,rfl⟩|⟨ds,rfl,rfl,h⟩
 ·exact⟨.sl [],rfl,.inr ⟨[],rfl,rfl,fun d hd=>by cases hd⟩⟩
 ·exact⟨.sl ds,rfl,.inr ⟨ds,rfl,rfl,h⟩⟩
theorem fK.frozen {s:Nat} {es:List (List D)} (h:∀e∈es,e.length=s) (hp:∀e∈es,∀d∈e,bX d=true):fK (.sl (es.map (ja s))) s es:=by
 refine .inr ⟨_,rfl,?_,fun d hd=>?_⟩
 ·rw[List.map_map]
  conv=>rhs;rw[←List.map_id es]
  refine List.map_congr_left fun e he=>?_;exact(jZ (h e he) (hp e he)).2
 ·obtain⟨e,he,rfl⟩:=List.mem_map.1 hd;obtain⟨h1,h2⟩:=jZ (h e he) (hp e he);exact⟨h1,by rw[h2];exact h e he⟩
theorem fK.part {P:Pv} {st:St} {t e:TypeId} {x:D} {s l r:Nat} {es:List (List D)} {lo hi:Option D} (h:fK x s es) (ht:P.cq t=some (.slice e)) (hs:bT P e=some s) (hb:cT es.length lo hi=some (l,r)):∃y,fN P t x lo hi st=some y∧fK y s ((es.take r).drop l):=by
 rcases h with⟨rfl,rfl⟩|⟨ds,rfl,rfl,h⟩
 ·simp only[List.length_nil] at hb;refine⟨.nul,?_,.inl ⟨rfl,by simp⟩⟩;simp only[fN,ht,hs,Option.bind_some,hb,Option.map_some]
 ·rw[List.length_map] at hb;refine⟨.sl ((ds.take r).drop l),?_,.inr ⟨_,rfl,by rw[List.map_drop,List.map_take],fun d hd=>h d (List.mem_of_mem_take (List.mem_of_mem_drop hd))⟩⟩;simp only[fN,ht,hs,Option.bind_some]
  rw[if_pos (by
   cases ds with
   |nil=>rfl
   |cons d ds=>obtain⟨h1,h2⟩:=h d (List.mem_cons_self ..);simp[oA,h1,h2])]
  simp only[hb,Option.map_some]
end Go.V
namespace Go.V
inductive cm {α β:Type} (R:α→β→Prop):List α→List β→Prop where
 |nil:cm R [] []
 |cons {a:α} {b:β} {l:List α} {m:List β} (h:R a b) (t:cm R l m):cm R (a::l) (b::m)
theorem cm.mono {α β:Type} {R R':α→β→Prop} (h:∀a b,R a b→R' a b):∀{l:List α} {m:List β},cm R l m→cm R' l m
 |_,_,.nil=>.nil
 |_,_,.cons a t=>.cons (h _ _ a) (t.mono h)
theorem cm.append {α β:Type} {R:α→β→Prop}:∀{l l':List α} {m m':List β},cm R l m→cm R l' m'→cm R (l++l') (m++m')
 |_,_,_,_,.nil,h=>h
 |_,_,_,_,.cons a t,h=>.cons a (t.append h)
theorem cm.len {α β:Type} {R:α→β→Prop}:∀{l:List α} {m:List β},cm R l m→l.length=m.length
 |_,_,.nil=>rfl
 |_,_,.cons a t=>by simp[t.len]
inductive dV (st:St) (ks:Nat→Prop):D→D→Prop where
 |plain (d:D) (h:bX d=true):dV st ks d d
 |aJ (w:D) (s:Nat) (rs:List (List D)) (h:fQ st s w rs) (hp:∀e∈rs,∀d∈e,bX d=true) (hk:∀k,w.ref=k+1→ks k):dV st ks w (.sl (rs.map (ja s)))
theorem dV.mono {st:St} {ks Mc:Nat→Prop} (h:∀k,ks k→Mc k) {d v:D} (p:dV st ks d v):dV st Mc d v:=by
 cases p with
 |plain h=>exact .plain d h
 |aJ s rs h1 h2 h3=>exact .aJ d s rs h1 h2 fun k hk=>h k (h3 k hk)
theorem dV.move {st ah:St} {ks:Nat→Prop} (h:∀k,ks k→ah.bs[k]?=st.bs[k]?) {d v:D} (p:dV st ks d v):dV ah ks d v:=by
 cases p with
 |plain h=>exact .plain d h
 |aJ s rs h1 h2 h3=>exact .aJ d s rs (h1.move fun k hk=>h k (h3 k hk)) h2 h3
theorem fQ.LS {st:St} {s N:Nat} {x:D} {es:List (List D)} (h:fQ st s x es) (hN:∀k,x.ref=k+1→N≤k) (hp:∀e∈es,∀d∈e,bX d=true) (n:Nat):dR st N (n+2) x=some (.sl (es.map (ja s))):=by
 cases h with
 |nul=>rfl
 |win k ax off es c hm hl hc he=>
  have:=hN k (by simp only[D.ref]);rw[dR];simp only[if_neg (show¬k<N by omega),St.mem_of hm,Option.bind_some]
  rw[if_pos hl,hc,iI (fun d hd=>by
   obtain⟨e,ni,xA⟩:=List.mem_flatten.1 hd
   exact hp e ni d xA)]
  simp only[Option.map_some,fv he]
theorem dV.pure {st:St} {ks:Nat→Prop} {N:Nat} (hN:∀k,ks k→N≤k) {d v:D} (p:dV st ks d v) (n:Nat):dR st N (n+2) d=some v:=by
 cases p with
 |plain h=>cases d<;>simp[bX] at h<;>rfl
 |aJ s rs h1 h2 h3=>exact h1.LS (fun k hk=>hN k (h3 k hk)) h2 n
theorem pX {f:D→Option D} {R:D→D→Prop} (h:∀a b,R a b→f a=some b):∀{l m:List D},cm R l m→fZ f l=some m
 |_,_,.nil=>rfl
 |_,_,.cons a t=>by simp only[fZ,h _ _ a,pX h t]
theorem cm.flat {R:D→D→Prop}:∀{l m:List (List D)},cm (cm R) l m→cm R l.flatten m.flatten
 |_,_,.nil=>.nil
 |_,_,.cons a t=>by simp only[List.flatten_cons];exact a.append t.flat
theorem cm.each {s:Nat} {R:D→D→Prop}:∀{l m:List (List D)},cm (cm R) l m→(∀e∈l,e.length=s)→∀e∈m,e.length=s
 |_,_,.nil,_,e,he=>by cases he
 |_,_,.cons a t,h,e,he=>by
  rcases List.mem_cons.1 he with rfl|he
  ·rw[←a.len];exact h _ (List.mem_cons_self ..)
  ·exact t.each (fun x hx=>h x (List.mem_cons_of_mem _ hx)) e he
def bC.emp:bC:=⟨fun _=>False,fun _=>True,fun _ p=>p⟩
def bC.deep (ks:Nat→Prop) (x:D) (s:Nat) (vs:List (List D)):bC:=
 ⟨fun j=>x.ref=j+1∨ks j,fun st=>(∃es,fQ st s x es∧cm (cm (dV st ks)) es vs)∧∀k,x.ref=k+1→¬ks k,fun h p=>by
  obtain⟨⟨es,h1,h2⟩,h3⟩:=p
  exact⟨⟨es,h1.move fun k hk=>h k (.inl hk),h2.mono fun a b=>cm.mono fun c d=>dV.move fun k hk=>h k (.inr hk)⟩,h3⟩⟩
variable{N:Nat} {S st:St} {H:List bC}
theorem Has.JG (h:Has N S st H) (s:Nat):Has N S st (.deep (fun _=>False) .nul s []::H):=
 h.add (fun _ _=>rfl) (Nat.le_refl _) rfl rfl ⟨⟨[],.nul,.nil⟩,fun k hk=>by simp only[D.ref] at hk;omega⟩ fun k hk=>by
  rcases hk with hk|hk
  ·simp only[D.ref] at hk;omega
  ·exact hk.elim
theorem Has.wO {i j:Nat} {w x:D} {sw s:Nat} {rs vs:List (List D)} {ks:Nat→Prop} (h:Has N S st H) (hij:i≠j) (hi:H[i]?=some (.aJ w sw rs)) (hj:H[j]?=some (.deep ks x s vs)) (hp:∀e∈rs,∀d∈e,bX d=true):
  Has N S st ((H.set i .emp).set j (.deep (fun k=>ks k∨w.ref=k+1) x s vs))∧dV st (fun k=>ks k∨w.ref=k+1) w (.sl (rs.map (ja sw))):=by
 have TE:=h.own hi;obtain⟨⟨es,h1,h2⟩,h3⟩:=(h.ok j _ hj).1;have VP:=(h.ok i _ hi).2;have SI:=(h.ok j _ hj).2;have PS:=h.dis i j _ _ hij hi hj;refine⟨⟨h.ex,h.hN,h.eT,fun n e hn=>?_,fun a b ea eb hab ha hb k uw iA=>?_⟩,.aJ w sw rs TE hp fun k hk=>.inr hk⟩
 ·by_cases hnj:n=j
  ·subst hnj;rw[List.getElem?_set_self (by rw[List.length_set];exact bt hj)] at hn;cases hn;refine⟨⟨⟨es,h1,h2.mono fun a b=>cm.mono fun c d=>dV.mono fun k hk=>.inl hk⟩,fun k hk=>?_⟩,fun k hk=>?_⟩
   ·rintro(hk2|hk2)
    ·exact h3 k hk hk2
    ·exact PS k hk2 (.inl hk)
   ·rcases hk with hk|hk|hk
    ·exact SI k (.inl hk)
    ·exact SI k (.inr hk)
    ·exact VP k hk
  ·rw[List.getElem?_set_ne (fun e=>hnj e.symm)] at hn
   by_cases hni:n=i
   ·subst hni;rw[List.getElem?_set_self (bt hi)] at hn;cases hn;exact⟨trivial,fun k hk=>hk.elim⟩
   ·rw[List.getElem?_set_ne (fun e=>hni e.symm)] at hn;exact h.ok n e hn
 ·have key:∀n e,((H.set i .emp).set j (.deep (fun k=>ks k∨w.ref=k+1) x s vs))[n]?=some e→∀k,e.K k→(n=j∧((bC.deep ks x s vs).K k∨(bC.aJ w sw rs).K k))∨(n≠j∧n≠i∧H[n]?=some e):=by
   intro n e hn k hk
   by_cases hnj:n=j
   ·subst hnj;rw[List.getElem?_set_self (by rw[List.length_set];exact bt hj)] at hn;cases hn;refine .inl ⟨rfl,?_⟩
    rcases hk with hk|hk|hk
    ·exact .inl (.inl hk)
    ·exact .inl (.inr hk)
    ·exact .inr hk
   ·rw[List.getElem?_set_ne (fun e=>hnj e.symm)] at hn
    by_cases hni:n=i
    ·subst hni;rw[List.getElem?_set_self (bt hi)] at hn;cases hn;exact hk.elim
    ·rw[List.getElem?_set_ne (fun e=>hni e.symm)] at hn;exact .inr ⟨hnj,hni,hn⟩
  rcases key a ea ha k uw with⟨h4,h5⟩|⟨h4,h5,h6⟩<;>rcases key b eb hb k iA with⟨g4,g5⟩|⟨g4,g5,g6⟩
  ·exact hab (h4.trans g4.symm)
  ·rcases h5 with h5|h5
   ·exact h.dis j b _ _ (fun e=>g4 e.symm) hj g6 k h5 iA
   ·exact h.dis i b _ _ (fun e=>g5 e.symm) hi g6 k h5 iA
  ·rcases g5 with g5|g5
   ·exact h.dis a j _ _ h4 h6 hj k uw g5
   ·exact h.dis a i _ _ h5 h6 hi k uw g5
  ·exact h.dis a b _ _ hab h6 g6 k uw iA
theorem Has.kZ {P:Pv} {j:Nat} {x y:D} {s:Nat} {ks:Nat→Prop} {vs ys Lj:List (List D)} (hH:Has N S st H) (hj:H[j]?=some (.deep ks x s vs)) (hy:Rows st s y ys) (hd:cm (cm (dV st ks)) ys Lj) {t1 t2 e:TypeId} {td:TypeDesc} {inf:TypeInfo} {z:List D}
  (h1:P.cq t1=some (.slice e)) (h2:P.cq t2=some td) (h3:fq td=false) (h4:P.info e=some inf) (h5:cO P e=some z) (h6:inf.size=s) (h7:z.length=s) (h8:0<inf.bytes∧inf.bytes≤1024)
  (oC:vs.length+ys.length≤1073741824) (hw:S.flr≤N∨refs ys.flatten=0):
  ∃x' ah,bk P .append [t1,t2] [x,y] st=some (x',ah)∧Has N S ah (H.set j (.deep ks x' s (vs++Lj))):=by
 obtain⟨⟨es,kr,yQ⟩,he3⟩:=(hH.ok j _ hj).1;have hK:=(hH.ok j _ hj).2;have hlen:=yQ.len
 have zn:Has N S st [.aJ x s es]:=by
  refine⟨hH.ex,hH.hN,hH.eT,fun i e hi=>?_,fun i i' a b hii ha hb k uw iA=>?_⟩
  ·cases i with
   |zero=>simp only[List.getElem?_cons_zero,Option.some.injEq] at hi;subst hi;exact⟨kr,fun k hk=>hK k (.inl hk)⟩
   |succ i=>simp at hi
  ·cases i with
   |zero=>cases i' with
    |zero=>exact hii rfl
    |succ i'=>simp at hb
   |succ i=>simp at ha
 obtain⟨x',ah,q1,q2,q3⟩:=zn.append (j:=0) ay hy h1 h2 h3 h4 h5 h6 h7 h8 (by omega) hw;refine⟨x',ah,q1,?_⟩;have hown:=q2.own (j:=0) ay
 have PW:(∀k,k<st.bs.length→x.ref≠k+1→ah.bs[k]?=st.bs[k]?)∧st.bs.length≤ah.bs.length∧ah.flr=st.flr∧ah.ro=st.ro∧(∀k,x'.ref=k+1→x.ref=k+1∨st.bs.length≤k):=by
  have i7:=hy.row
  have AF:∀e∈ys,e.length=s:=fun e he=>by
   obtain⟨i,hi⟩:=List.getElem?_of_mem he;exact hy.sI i e hi
  simp only[bk,f',h1,h2,h3,Bool.false_eq_true,if_false,h4,h5,i7,Option.bind_some] at q1
  split at q1
  ·cases q1
  ·cases kr with
   |nul=>
    simp only at q1
    split at q1
    ·cases q1;exact⟨fun _ _ _=>rfl,Nat.le_refl _,rfl,rfl,fun k hk=>.inl hk⟩
    ·split at q1
     ·cases q1;exact⟨fun k hk _=>by simp only[St.push];rw[List.getElem?_append_left hk],by simp[St.push],rfl,rfl,fun k hk=>.inr (by simp only[D.ref] at hk;omega)⟩
     ·cases q1
   |win k ax off es c hm hl hc he=>
    simp only[St.mem_of hm] at q1
    split at q1
    ·cases q1
    ·split at q1
     ·cases q1;exact⟨fun _ _ _=>rfl,Nat.le_refl _,rfl,rfl,fun k hk=>.inl hk⟩
     ·split at q1
      ·cases q1;exact⟨fun n hn hne=>by simp only;rw[List.getElem?_set_ne (fun e=>hne (by simp only[D.ref];omega))],by simp,rfl,rfl,fun n hn=>.inl (by simp only[D.ref] at hn⊢;exact hn)⟩
      ·cases q1
 obtain⟨c1,c2,c3,c4,c5⟩:=PW;have OK:=(q2.ok 0 _ ay).2;have uu:∀k,ks k→ah.bs[k]?=st.bs[k]?:=fun k hk=>c1 k (hK k (.inr hk)).2 fun e=>he3 k e hk;refine hH.zx hj (fun k hk hne=>c1 k hk fun e=>hne (.inl e)) c2 c3 c4 ⟨⟨es++ys,hown,?_⟩,fun k hk kD=>?_⟩ (fun k hk=>?_) fun k hk=>?_
 ·exact(yQ.mono fun a b=>cm.mono fun c d=>dV.move uu).append (hd.mono fun a b=>cm.mono fun c d=>dV.move uu)
 ·rcases c5 k hk with h|h
  ·exact he3 k h kD
  ·have:=(hK k (.inr kD)).2;omega
 ·rcases hk with hk|hk
  ·rcases c5 k hk with h|h
   ·exact .inl (.inl h)
   ·exact .inr h
  ·exact .inl (.inr hk)
 ·rcases hk with hk|hk
  ·exact(OK k hk).2
  ·exact Nat.lt_of_lt_of_le (hK k (.inr hk)).2 c2
theorem ab.kZ {P:Pv} {ops:Array Oper} {rest:List Oper} {fr:Fr} {Q:Fr→St→Prop} {ty:TypeId} {pp:String} {a:Array Edge} {g:Option (Nat×Bool)} {dst:Nat} {j:Nat} {x y:D} {s:Nat} {ks:Nat→Prop} {vs ys Lj:List (List D)} {t1 t2 e:TypeId} {td:TypeDesc} {inf:TypeInfo} {z:List D} {xo yo:Operand} {aE:D→Fr} (hH:Has N S st H) (hg:aA ops fr ⟨some dst,.call ⟨.builtin .append,#[xo,yo],#[t1,t2]⟩,ty,pp,a,g⟩=some true)
  (hx:fr.ev xo=x) (hy:fr.ev yo=y) (hj:H[j]?=some (.deep ks x s vs)) (jc:Rows st s y ys) (hd:cm (cm (dV st ks)) ys Lj)
  (h1:P.cq t1=some (.slice e)) (h2:P.cq t2=some td) (h3:fq td=false) (h4:P.info e=some inf) (h5:cO P e=some z) (h6:inf.size=s) (h7:z.length=s) (h8:0<inf.bytes∧inf.bytes≤1024)
  (hp:∀x',fr.put dst x'=aE x') (hb:vs.length+ys.length≤1073741824) (hw:S.flr≤N∨refs ys.flatten=0)
  (h:∀x' ah,Has N S ah (H.set j (.deep ks x' s (vs++Lj)))→ab P ops rest (aE x') ah Q):
  ab P ops (⟨some dst,.call ⟨.builtin .append,#[xo,yo],#[t1,t2]⟩,ty,pp,a,g⟩::rest) fr st Q:=by
 obtain⟨x',ah,q1,q2⟩:=hH.kZ hj jc hd h1 h2 h3 h4 h5 h6 h7 h8 hb hw;refine ab.go hg rfl (d:=x') (st1:=ah) ?_ (hp _) (h x' ah q2);simp only[di,List.map_cons,List.map_nil,hx,hy];exact q1
theorem Has.oG {j:Nat} {x:D} {s:Nat} {ks:Nat→Prop} {vs:List (List D)} (hH:Has N S st H) (hj:H[j]?=some (.deep ks x s vs)) {n:Nat} (hn:4≤n):bo st N false (n+1) x=some (.sl (vs.map (ja s))):=by
 obtain⟨n,rfl⟩:∃m,n=m+4:=⟨n-4,by omega⟩
 obtain⟨⟨es,h1,h2⟩,h3⟩:=(hH.ok j _ hj).1;have hK:=(hH.ok j _ hj).2
 cases h1 with
 |nul=>cases h2;rfl
 |win k ax off es c hm hl hc he=>
  have hk:=hK k (.inl (by simp only[D.ref]));show(if k<N then some (D.win k ax off es.length s) else dR st N (n+4) (.win k ax off es.length s))=_;rw[if_neg (show¬k<N by omega),dR];simp only[if_neg (show¬k<N by omega),St.mem_of hm,Option.bind_some];rw[if_pos hl,hc,pX (fun a b hab=>hab.pure (fun k hk=>(hK k (.inr hk)).1) (n+1)) h2.flat];simp only[Option.map_some];rw[h2.len,fv (h2.each he)]
theorem Has.xI {j:Nat} {x:D} {s:Nat} {es:List (List D)} (hH:Has N S st H) (hj:H[j]?=some (.aJ x s es)) (hp:∀e∈es,∀d∈e,bX d=true) {n:Nat} (hn:3≤n):bo st N false n x=some (.sl (es.map (ja s))):=by
 obtain⟨n,rfl⟩:∃m,n=m+1:=⟨n-1,by omega⟩
 exact hH.freeze hj hp (by omega)
theorem Has.rv {P:Pv} {fr:Fr} {a k ax off j:Nat} {t:TypeId} {ar:Bool} {c:List D} {d:D} (hH:Has N S st H) (ha:fr.get a=.ptr k ax off) (hj:H[j]?=some (.box k (.mem ax ar c))) (hd:c7 P t (c.drop off)=some d):iF P fr st [.cell a t]=some [d]:=by
 simp only[iF,eZ,ha,St.mem_of (hH.at hj),Option.bind_some,hd,Option.map_some]
theorem fQ.cells {s:Nat} {x:D} {es:List (List D)} (h:fQ st s x es):x.cells?=some [x]:=by cases h<;>rfl
theorem Has.sO {j:Nat} {x:D} {s:Nat} {ks:Nat→Prop} {vs:List (List D)} (hH:Has N S st H) (hj:H[j]?=some (.deep ks x s vs)):x.cells?=some [x]:=by
 obtain⟨⟨es,h1,_⟩,_⟩:=(hH.ok j _ hj).1;exact h1.cells
theorem Has.fP {j:Nat} {x:D} {s:Nat} {es:List (List D)} (hH:Has N S st H) (hj:H[j]?=some (.aJ x s es)):x.cells?=some [x]:=(hH.own hj).cells
def wk (fr:Fr):List (Nat×Operand)→List (Nat×D)→Prop
 |[],[]=>True
 |(i,o)::ps,(j,d)::qs=>i=j∧fr.ev o=d∧d.cells?=some [d]∧wk fr ps qs
 |_,_=>False
theorem qJ {fr:Fr} {pl:Nat→Option (Nat×Nat)}:∀{ps:List (Nat×Operand)} {qs:List (Nat×D)} {z:List D},wk fr ps qs→(∀q∈qs,pl q.1=some (q.1,1)∧q.1<z.length)→fV pl z (ps.map fun p=>(p.1,fr.ev p.2))=some (qs.foldl (fun l q=>l.set q.1 q.2) z)
 |[],[],z,_,_=>rfl
 |(i,o)::ps,(j,d)::qs,z,h,hp=>by
  obtain⟨rfl,h2,h3,h4⟩:=h;obtain⟨h5,h6⟩:=hp (i,d) (List.mem_cons_self ..);simp only[List.map_cons,fV,h2,h3,h5,List.foldl_cons];rw[if_neg (by simp only[List.length_cons,List.length_nil];simp only at h6;omega)];simp only[setMany]
  exact qJ h4 fun q hq=>by
   have:=hp q (List.mem_cons_of_mem _ hq)
   simpa using this
 |[],_::_,_,h,_=>h.elim
 |_::_,[],_,h,_=>h.elim
theorem ab.fe {P:Pv} {ops:Array Oper} {rest:List Oper} {fr aE:Fr} {Q:Fr→St→Prop} {ty:TypeId} {pp:String} {a:Array Edge} {g:Option (Nat×Bool)} {dst:Nat} {t:TypeId} {parts:Array (Nat×Operand)} {z cs:List D} {fields:Array Field} {ps:List (Nat×Nat)} {qs:List (Nat×D)} (hg:aA ops fr ⟨some dst,.build t parts,ty,pp,a,g⟩=some true) (hz:cO P t=some z) (hu:P.cq t=some (.struct fields)) (F4:jN P fields.toList=some ps) (he:wk fr parts.toList qs) (jf:∀q∈qs,ps[q.1]?=some (q.1,1)∧q.1<z.length) (hY:qs.foldl (fun l q=>l.set q.1 q.2) z=cs) (hp:fr.put dst (.agg cs)=aE)
  (h:ab P ops rest aE st Q):ab P ops (⟨some dst,.build t parts,ty,pp,a,g⟩::rest) fr st Q:=by
 refine ab.go hg rfl (d:=.agg cs) (st1:=st) ?_ hp h;simp only[di,sQ,hz,hu,F4];rw[qJ (pl:=fun i=>ps[i]?) he jf,hY];rfl
theorem Has.nL {P:Pv} {fr:Fr} {a k ax off j u:Nat} {t:TypeId} {ar:Bool} {c:List D} {d e:D} (hH:Has N S st H) (ha:fr.get a=.ptr k ax off) (hj:H[j]?=some (.box k (.mem ax ar c))) (hd:c7 P t (c.drop off)=some d) (he:fr.get u=e):iF P fr st [.cell a t,.tmp u]=some [d,e]:=by
 simp only[iF,eZ,ha,St.mem_of (hH.at hj),Option.bind_some,hd,Option.map_some,he]
theorem ab.Kt {P:Pv} {ops:Array Oper} {rest:List Oper} {fr aE:Fr} {Q:Fr→St→Prop} {ty:TypeId} {pp:String} {a:Array Edge} {g:Option (Nat×Bool)} {dst:Nat} {t e:TypeId} {xo io:Operand} {k v off m s o:Nat} {kk:IntKind} {i:Nat} (hg:aA ops fr ⟨some dst,.indexAddr t xo io,ty,pp,a,g⟩=some true) (hx:fr.ev xo=.ptr k v off) (hi:fr.ev io=.int kk (i:Nat)) (ht:P.cq t=some (.array m e)) (hs:bT P e=some s) (hlt:i<m) (ho:off+i*s=o) (hp:fr.put dst (.ptr k v o)=aE)
  (h:ab P ops rest aE st Q):ab P ops (⟨some dst,.indexAddr t xo io,ty,pp,a,g⟩::rest) fr st Q:=by
 subst ho;refine ab.go hg rfl (d:=.ptr k v (off+i*s)) (st1:=st) ?_ hp h;simp only[di,hx,hi,bM,ht,hs,Option.bind_some];rw[if_pos ⟨by omega,by omega⟩];rfl
end Go.V
namespace Go.V
variable{P:Pv} {ops:Array Oper} {rest:List Oper} {fr aE:Fr} {st st1:St} {Q:Fr→St→Prop} {ty:TypeId} {pp:String} {a:Array Edge} {g:Option (Nat×Bool)} {dst:Nat} {N:Nat} {S:St} {H:List bC} {d:D} {op:Op}
theorem qm {op:Op} {x:Operand} {d:D} (h:ab P ops rest aE st Q) (eU:op=.move x∨op=.assign x:=by first|exact .inl rfl|exact .inr rfl) (hg:aA ops fr ⟨some dst,op,ty,pp,a,g⟩=some true:=by exact rfl) (hx:fr.ev x=d:=by exact ev rfl) (hp:fr.put dst d=aE:=by first|exact ag rfl _|(dsimp only[Fr.put,List.set_cons_succ,List.set_cons_zero]<;>rfl)):ab P ops (⟨some dst,op,ty,pp,a,g⟩::rest) fr st Q:=
 ab.mv (eU:=eU) (hg:=hg) (hx:=hx) (hp:=hp) (h:=h)
theorem qs {op:Op} (h:ab P ops rest aE st Q) (hg:aA ops fr ⟨some dst,op,ty,pp,a,g⟩=some false:=by exact rfl) (hp:fr.put dst (.tup [])=aE:=by first|exact ag rfl _|(dsimp only[Fr.put,List.set_cons_succ,List.set_cons_zero]<;>rfl)):ab P ops (⟨some dst,op,ty,pp,a,g⟩::rest) fr st Q:=
 ab.skip (hg:=hg) (hp:=hp) (h:=h)
theorem qp {t:TypeId} {xo:Operand} {k ax off o f fo m:Nat} {fields:Array Field} (h:ab P ops rest aE st Q) (hg:aA ops fr ⟨some dst,.fieldAddr t xo f,ty,pp,a,g⟩=some true:=by exact rfl) (hx:fr.ev xo=.ptr k ax off:=by exact ev rfl) (ht:P.cq t=some (.struct fields):=by exact rfl) (hf:ky P fields f=some (fo,some (m+1)):=by exact rfl) (ho:off+fo=o:=by exact rfl) (hp:fr.put dst (.ptr k ax o)=aE:=by first|exact ag rfl _|(dsimp only[Fr.put,List.set_cons_succ,List.set_cons_zero]<;>rfl)):ab P ops (⟨some dst,.fieldAddr t xo f,ty,pp,a,g⟩::rest) fr st Q:=
 ab.JA (hg:=hg) (hx:=hx) (ht:=ht) (hf:=hf) (ho:=ho) (hp:=hp) (h:=h)
theorem ql {j k ax off:Nat} {ar:Bool} {c:List D} {d:D} {t:TypeId} {ao:Operand} (hH:Has N S st H) (hj:H[j]?=some (.box k (.mem ax ar c))) (h:ab P ops rest aE st Q) (hg:aA ops fr ⟨some dst,.load t ao,ty,pp,a,g⟩=some true:=by exact rfl) (ha:fr.ev ao=.ptr k ax off:=by exact ev rfl) (hd:c7 P t (c.drop off)=some d:=by exact rfl) (hp:fr.put dst d=aE:=by first|exact ag rfl _|(dsimp only[Fr.put,List.set_cons_succ,List.set_cons_zero]<;>rfl)):ab P ops (⟨some dst,.load t ao,ty,pp,a,g⟩::rest) fr st Q:=
 ab.F_ (hH:=hH) (hg:=hg) (ha:=ha) (hj:=hj) (hd:=hd) (hp:=hp) (h:=h)
theorem qg {op:Op} {d:D} {st1:St} (h:ab P ops rest aE st1 Q) (hg:aA ops fr ⟨some dst,op,ty,pp,a,g⟩=some true:=by exact rfl) (hc:gm op=false:=by exact rfl) (h1:di P fr st op ty=some (d,st1):=by exact rfl) (hp:fr.put dst d=aE:=by first|exact ag rfl _|(dsimp only[Fr.put,List.set_cons_succ,List.set_cons_zero]<;>rfl)):ab P ops (⟨some dst,op,ty,pp,a,g⟩::rest) fr st Q:=
 ab.go (hg:=hg) (hc:=hc) (h1:=h1) (hp:=hp) (h:=h)
theorem qn {t e:TypeId} {xo:Operand} {x:D} {s:Nat} {es:List (List D)} (h:ab P ops rest aE st Q) (hg:aA ops fr ⟨some dst,.call ⟨.builtin .len,#[xo],#[t]⟩,ty,pp,a,g⟩=some true:=by exact rfl) (hx:fr.ev xo=x:=by exact ev rfl) (hR:Rows st s x es:=by exact Arg.rows (by assumption) (by assumption)) (ht:P.cq t=some (.slice e):=by exact rfl) (hp:fr.put dst (.int .i64 (es.length:Nat))=aE:=by first|exact ag rfl _|(dsimp only[Fr.put,List.set_cons_succ,List.set_cons_zero]<;>rfl)):ab P ops (⟨some dst,.call ⟨.builtin .len,#[xo],#[t]⟩,ty,pp,a,g⟩::rest) fr st Q:=
 ab.Jv (hg:=hg) (hx:=hx) (hR:=hR) (ht:=ht) (hp:=hp) (h:=h)
theorem qr {t e:TypeId} {xo io:Operand} {x:D} {s i:Nat} {kk:IntKind} {es:List (List D)} {r:List D} {aE:D→Fr} (h:∀p,iS st p r→ab P ops rest (aE p) st Q) (hg:aA ops fr ⟨some dst,.indexAddr t xo io,ty,pp,a,g⟩=some true:=by exact rfl) (hx:fr.ev xo=x:=by exact ev rfl) (hi:fr.ev io=.int kk (i:Nat):=by exact ev rfl) (hR:Rows st s x es:=by exact Arg.rows (by assumption) (by assumption)) (ht:P.cq t=some (.slice e):=by exact rfl) (hs:bT P e=some s:=by exact rfl) (hr:es[i]?=some r:=by assumption) (hp:∀p,fr.put dst p=aE p:=by first|exact fun _=>ag rfl _|exact fun _=>by dsimp only[Fr.put,List.set_cons_succ,List.set_cons_zero]<;>rfl):ab P ops (⟨some dst,.indexAddr t xo io,ty,pp,a,g⟩::rest) fr st Q:=
 ab.LQ (hg:=hg) (hx:=hx) (hi:=hi) (hR:=hR) (ht:=ht) (hs:=hs) (hr:=hr) (hp:=hp) (h:=h)
theorem qR {t:TypeId} {ao:Operand} {x d:D} {r:List D} (h:ab P ops rest aE st Q) (hg:aA ops fr ⟨some dst,.load t ao,ty,pp,a,g⟩=some true:=by exact rfl) (ha:fr.ev ao=x:=by exact ev rfl) (hR:iS st x r:=by assumption) (hd:c7 P t r=some d:=by exact rfl) (hp:fr.put dst d=aE:=by first|exact ag rfl _|(dsimp only[Fr.put,List.set_cons_succ,List.set_cons_zero]<;>rfl)):ab P ops (⟨some dst,.load t ao,ty,pp,a,g⟩::rest) fr st Q:=
 ab.FU (hg:=hg) (ha:=ha) (hR:=hR) (hd:=hd) (hp:=hp) (h:=h)
theorem qf {t:TypeId} {xo:Operand} {x:D} {r:List D} {f fo m:Nat} {fields:Array Field} {aE:D→Fr} (h:∀p,iS st p (r.drop fo)→ab P ops rest (aE p) st Q) (hg:aA ops fr ⟨some dst,.fieldAddr t xo f,ty,pp,a,g⟩=some true:=by exact rfl) (hx:fr.ev xo=x:=by exact ev rfl) (hR:iS st x r:=by assumption) (ht:P.cq t=some (.struct fields):=by exact rfl) (hf:ky P fields f=some (fo,some (m+1)):=by exact rfl) (hp:∀p,fr.put dst p=aE p:=by first|exact fun _=>ag rfl _|exact fun _=>by dsimp only[Fr.put,List.set_cons_succ,List.set_cons_zero]<;>rfl):ab P ops (⟨some dst,.fieldAddr t xo f,ty,pp,a,g⟩::rest) fr st Q:=
 ab.ED (hg:=hg) (hx:=hx) (hR:=hR) (ht:=ht) (hf:=hf) (hp:=hp) (h:=h)
theorem qi {t e:TypeId} {xo io:Operand} {x:D} {s i j:Nat} {kk:IntKind} {es:List (List D)} {aE:D→Fr} (hH:Has N S st H) (hj:H[j]?=some (.aJ x s es)) (h:∀p,mX x s i 0 p→ab P ops rest (aE p) st Q) (hg:aA ops fr ⟨some dst,.indexAddr t xo io,ty,pp,a,g⟩=some true:=by exact rfl) (hx:fr.ev xo=x:=by exact ev rfl) (hi:fr.ev io=.int kk (i:Nat):=by exact ev rfl) (ht:P.cq t=some (.slice e):=by exact rfl) (hs:bT P e=some s:=by exact rfl) (hr:i<es.length:=by exact bt (by assumption)) (hp:∀p,fr.put dst p=aE p:=by first|exact fun _=>ag rfl _|exact fun _=>by dsimp only[Fr.put,List.set_cons_succ,List.set_cons_zero]<;>rfl):ab P ops (⟨some dst,.indexAddr t xo io,ty,pp,a,g⟩::rest) fr st Q:=
 ab.On (hH:=hH) (hg:=hg) (hx:=hx) (hi:=hi) (hj:=hj) (ht:=ht) (hs:=hs) (hr:=hr) (hp:=hp) (h:=h)
theorem qo {t:TypeId} {ao:Operand} {x y d:D} {s i o j:Nat} {es:List (List D)} {r:List D} (hH:Has N S st H) (hj:H[j]?=some (.aJ x s es)) (h:ab P ops rest aE st Q) (hg:aA ops fr ⟨some dst,.load t ao,ty,pp,a,g⟩=some true:=by exact rfl) (ha:fr.ev ao=y:=by exact ev rfl) (hR:mX x s i o y:=by assumption) (hr:es[i]?=some r:=by assumption) (hd:c7 P t (r.drop o)=some d:=by exact rfl) (hp:fr.put dst d=aE:=by first|exact ag rfl _|(dsimp only[Fr.put,List.set_cons_succ,List.set_cons_zero]<;>rfl)):ab P ops (⟨some dst,.load t ao,ty,pp,a,g⟩::rest) fr st Q:=
 ab.FX (hH:=hH) (hg:=hg) (ha:=ha) (hR:=hR) (hj:=hj) (hr:=hr) (hd:=hd) (hp:=hp) (h:=h)
theorem qS {j k ax:Nat} {ar:Bool} {c cs:List D} {v:D} {t:TypeId} {ao vo:Operand} (hH:Has N S st H) (hj:H[j]?=some (.box k (.mem ax ar c))) (h:∀ah,Has N S ah (H.set j (.box k (.mem ax ar cs)))→ab P ops rest fr ah Q) (hg:aA ops fr ⟨none,.store t ao vo,ty,pp,a,g⟩=some true:=by exact rfl) (ha:fr.ev ao=.ptr k ax 0:=by exact ev rfl) (hv:fr.ev vo=v:=by exact ev rfl) (hY:v.cells?=some cs:=by first|rfl|exact(fK.cells (by assumption)).1) (hs:bT P t=some cs.length:=by exact rfl) (hl:cs.length=c.length:=by exact rfl) (hw:S.flr≤N∨refs cs=0:=by first|exact .inl (by assumption)|exact .inr rfl):ab P ops (⟨none,.store t ao vo,ty,pp,a,g⟩::rest) fr st Q:=
 ab.sc (hH:=hH) (hg:=hg) (ha:=ha) (hv:=hv) (hY:=hY) (hs:=hs) (hj:=hj) (hl:=hl) (hw:=hw) (h:=h)
theorem qT {j k ax off:Nat} {ar:Bool} {c cs:List D} {v:D} {t:TypeId} {ao vo:Operand} (hH:Has N S st H) (hj:H[j]?=some (.box k (.mem ax ar c))) (h:∀ah,Has N S ah (H.set j (.box k (.mem ax ar (setMany c off cs))))→ab P ops rest fr ah Q) (hg:aA ops fr ⟨none,.store t ao vo,ty,pp,a,g⟩=some true:=by exact rfl) (ha:fr.ev ao=.ptr k ax off:=by exact ev rfl) (hv:fr.ev vo=v:=by exact ev rfl) (hY:v.cells?=some cs:=by first|rfl|exact(fK.cells (by assumption)).1) (hs:bT P t=some cs.length:=by exact rfl) (hl:off+cs.length≤c.length:=by exact Nat.le_of_ble_eq_true rfl) (hw:S.flr≤N∨refs cs=0:=by first|exact .inl (by assumption)|exact .inr rfl):ab P ops (⟨none,.store t ao vo,ty,pp,a,g⟩::rest) fr st Q:=
 ab.ow (hH:=hH) (hg:=hg) (ha:=ha) (hv:=hv) (hY:=hY) (hs:=hs) (hj:=hj) (hl:=hl) (hw:=hw) (h:=h)
theorem qa {e:TypeId} {cs:List D} {aE:Nat→Fr} (hH:Has N S st H) (h:∀k ah,S.bs.length≤k→Has N S ah (.box k (.mem 0 false cs)::H)→ab P ops rest (aE k) ah Q) (hg:aA ops fr ⟨some dst,.alloc e,ty,pp,a,g⟩=some true:=by exact rfl) (hz:cO P e=some cs:=by exact rfl) (hp:∀k,fr.put dst (.ptr k 0 0)=aE k:=by first|exact fun _=>ag rfl _|exact fun _=>by dsimp only[Fr.put,List.set_cons_succ,List.set_cons_zero]<;>rfl):ab P ops (⟨some dst,.alloc e,ty,pp,a,g⟩::rest) fr st Q:=
 ab.Ku (hH:=hH) (hg:=hg) (hz:=hz) (hp:=hp) (h:=h)
theorem qb {e:TypeId} {xo:Operand} {cs:List D} {aE:Nat→Fr} (hH:Has N S st H) (h:∀k ah,S.bs.length≤k→Has N S ah (.box k (.mem 0 false cs)::H)→ab P ops rest (aE k) ah Q) (hg:aA ops fr ⟨some dst,.box e xo,ty,pp,a,g⟩=some true:=by exact rfl) (hz:(fr.ev xo).cells?=some cs:=by exact rfl) (hp:∀k,fr.put dst (.ptr k 0 0)=aE k:=by first|exact fun _=>ag rfl _|exact fun _=>by dsimp only[Fr.put,List.set_cons_succ,List.set_cons_zero]<;>rfl):ab P ops (⟨some dst,.box e xo,ty,pp,a,g⟩::rest) fr st Q:=
 ab.yT (hH:=hH) (hg:=hg) (hz:=hz) (hp:=hp) (h:=h)
theorem qA {t ml:TypeId} {xo yo:Operand} {x y:Int} (h:ab P ops rest aE st Q) (hg:aA ops fr ⟨some dst,.binOp .add t xo yo ml,ty,pp,a,g⟩=some true:=by exact rfl) (hx:fr.ev xo=.int .i64 x:=by exact ev rfl) (hy:fr.ev yo=.int .i64 y:=by exact ev rfl) (h1:-9223372036854775808≤x+y:=by omega) (h2:x+y≤9223372036854775807:=by omega) (hp:fr.put dst (.int .i64 (x+y))=aE:=by first|exact ag rfl _|(dsimp only[Fr.put,List.set_cons_succ,List.set_cons_zero]<;>rfl)):ab P ops (⟨some dst,.binOp .add t xo yo ml,ty,pp,a,g⟩::rest) fr st Q:=
 ab.KZ (hg:=hg) (hx:=hx) (hy:=hy) (h1:=h1) (h2:=h2) (hp:=hp) (h:=h)
theorem qP {j:Nat} {x y:D} {s:Nat} {es ys:List (List D)} {t1 t2 e:TypeId} {td:TypeDesc} {inf:TypeInfo} {z:List D} {xo yo:Operand} {aE:D→Fr} (hH:Has N S st H) (hj:H[j]?=some (.aJ x s es)) (jc:Rows st s y ys) (h:∀x' ah,Has N S ah (H.set j (.aJ x' s (es++ys)))→ab P ops rest (aE x') ah Q) (hg:aA ops fr ⟨some dst,.call ⟨.builtin .append,#[xo,yo],#[t1,t2]⟩,ty,pp,a,g⟩=some true:=by exact rfl) (hx:fr.ev xo=x:=by exact ev rfl) (hy:fr.ev yo=y:=by exact ev rfl) (h1:P.cq t1=some (.slice e):=by exact rfl) (h2:P.cq t2=some td:=by exact rfl) (h3:fq td=false:=by exact rfl) (h4:P.info e=some inf:=by exact rfl) (h5:cO P e=some z:=by exact rfl) (h6:inf.size=s:=by exact rfl) (h7:z.length=s:=by exact rfl) (h8:0<inf.bytes∧inf.bytes≤1024:=by exact⟨Nat.le_of_ble_eq_true rfl,Nat.le_of_ble_eq_true rfl⟩) (hp:∀x',fr.put dst x'=aE x':=by first|exact fun _=>ag rfl _|exact fun _=>by dsimp only[Fr.put,List.set_cons_succ,List.set_cons_zero]<;>rfl) (hb:es.length+ys.length≤1073741824:=by first|omega|(simp only[List.length_append,List.length_cons,List.length_nil,List.length_map,List.length_replicate,List.length_set,List.length_reverse]<;>omega)) (hw:S.flr≤N∨refs ys.flatten=0:=by first|exact .inl (by assumption)|exact .inr rfl):ab P ops (⟨some dst,.call ⟨.builtin .append,#[xo,yo],#[t1,t2]⟩,ty,pp,a,g⟩::rest) fr st Q:=
 ab.bR (hH:=hH) (hg:=hg) (hx:=hx) (hy:=hy) (hj:=hj) (jc:=jc) (h1:=h1) (h2:=h2) (h3:=h3) (h4:=h4) (h5:=h5) (h6:=h6) (h7:=h7) (h8:=h8) (hp:=hp) (hb:=hb) (hw:=hw) (h:=h)
theorem qh {t e:TypeId} {m s:Nat} {parts:Array (Nat×Operand)} {z:List D} {vs:List D} {aE:Nat→Fr} (hH:Has N S st H) (h:∀k ah,S.bs.length≤k→Has N S ah (.aJ (.win k 0 0 m s) s (vs.map D.cells)::H)→ab P ops rest (aE k) ah Q) (hg:aA ops fr ⟨some dst,.buildSlice t m parts,ty,pp,a,g⟩=some true:=by exact rfl) (ht:P.cq t=some (.slice e):=by exact rfl) (hs:bT P e=some s:=by exact rfl) (hz:cO P e=some z:=by exact rfl) (jV:z.length=s:=by exact rfl) (hm:m*s≤16777216:=by exact Nat.le_of_ble_eq_true rfl) (NQ:xJ fr 0 parts.toList vs:=by first|exact⟨rfl,ev rfl,trivial⟩|exact⟨rfl,ev rfl,rfl,ev rfl,trivial⟩|exact⟨rfl,ev rfl,rfl,ev rfl,rfl,ev rfl,trivial⟩|exact⟨rfl,ev rfl,rfl,ev rfl,rfl,ev rfl,rfl,ev rfl,trivial⟩|exact⟨rfl,ev rfl,rfl,ev rfl,rfl,ev rfl,rfl,ev rfl,rfl,ev rfl,trivial⟩) (Mj:vs.length=m:=by exact rfl) (hc:∀v∈vs,v.cells?=some v.cells∧v.cells.length=s:=by intro v hv;simp only[List.mem_cons,List.not_mem_nil,or_false] at hv;first|(subst hv;exact⟨rfl,rfl⟩)|(rcases hv with rfl|rfl<;>exact⟨rfl,rfl⟩)|(rcases hv with rfl|rfl|rfl<;>exact⟨rfl,rfl⟩)|(rcases hv with rfl|rfl|rfl|rfl<;>exact⟨rfl,rfl⟩)|(rcases hv with rfl|rfl|rfl|rfl|rfl<;>exact⟨rfl,rfl⟩)) (hp:∀k,fr.put dst (.win k 0 0 m s)=aE k:=by first|exact fun _=>ag rfl _|exact fun _=>by dsimp only[Fr.put,List.set_cons_succ,List.set_cons_zero]<;>rfl):ab P ops (⟨some dst,.buildSlice t m parts,ty,pp,a,g⟩::rest) fr st Q:=
 ab.MT (hH:=hH) (hg:=hg) (ht:=ht) (hs:=hs) (hz:=hz) (jV:=jV) (hm:=hm) (NQ:=NQ) (Mj:=Mj) (hc:=hc) (hp:=hp) (h:=h)
theorem qv {f:Operand} {gn:Nat} {hD:List D} {args:Array Operand} {tc:Array TypeId} {d:D} {st1:St} (h1:Ev P gn (args.toList.map fr.ev++hD) st d st1) (h:ab P ops rest aE st1 Q) (hg:aA ops fr ⟨some dst,.call ⟨.value f,args,tc⟩,ty,pp,a,g⟩=some true:=by exact rfl) (hf:fr.ev f=.fn gn hD:=by exact rfl) (hp:fr.put dst d=aE:=by first|exact ag rfl _|(dsimp only[Fr.put,List.set_cons_succ,List.set_cons_zero]<;>rfl)):ab P ops (⟨some dst,.call ⟨.value f,args,tc⟩,ty,pp,a,g⟩::rest) fr st Q:=
 ab.iW (hg:=hg) (hf:=hf) (h1:=h1) (hp:=hp) (h:=h)
theorem qt {c x y:Operand} {v:Bool} (hv:v=true) (h:ab P ops rest aE st Q) (hg:aA ops fr ⟨some dst,.pick c x y,ty,pp,a,g⟩=some true:=by exact rfl) (hc:fr.ev c=.bool v:=by exact rfl) (hp:fr.put dst (fr.ev x)=aE:=by first|exact ag rfl _|(dsimp only[Fr.put,List.set_cons_succ,List.set_cons_zero]<;>rfl)):ab P ops (⟨some dst,.pick c x y,ty,pp,a,g⟩::rest) fr st Q:=
 ab.dG (hg:=hg) (hc:=hc) (hv:=hv) (hp:=hp) (h:=h)
theorem qu {c x y:Operand} {v:Bool} (hv:v=false) (h:ab P ops rest aE st Q) (hg:aA ops fr ⟨some dst,.pick c x y,ty,pp,a,g⟩=some true:=by exact rfl) (hc:fr.ev c=.bool v:=by exact rfl) (hp:fr.put dst (fr.ev y)=aE:=by first|exact ag rfl _|(dsimp only[Fr.put,List.set_cons_succ,List.set_cons_zero]<;>rfl)):ab P ops (⟨some dst,.pick c x y,ty,pp,a,g⟩::rest) fr st Q:=
 ab.cX (hg:=hg) (hc:=hc) (hv:=hv) (hp:=hp) (h:=h)
theorem wi {ops:Array Oper} {fr:Fr} {o:Oper} {j t:Nat} {w v:Bool} (h4:v=w) (h1:o.guard=some (j,w):=by exact rfl) (h2:(ops[j]?).bind (·.dst)=some t:=by exact rfl) (h3:fr.get t=.bool v:=by exact rfl):aA ops fr o=some true:=aB h1 h2 h3 h4
theorem wn {ops:Array Oper} {fr:Fr} {o:Oper} {j t:Nat} {w v:Bool} (h4:v=!w) (h1:o.guard=some (j,w):=by exact rfl) (h2:(ops[j]?).bind (·.dst)=some t:=by exact rfl) (h3:fr.get t=.bool v:=by exact rfl):aA ops fr o=some false:=x5 h1 h2 h3 h4
theorem qc {dy:Dy} {c:Operand} {a b:Code} {v:Bool} {Q:Out→Fr→St→Prop} (h1:v=true→af P dy a fr st Q) (h2:v=false→af P dy b fr st Q) (hv:fr.ev c=.bool v:=by first|rfl|assumption):af P dy (.cond c a b) fr st Q:=af.cond hv h1 h2
theorem qq {dy:Dy} {a b:Code} {Q:Out→Fr→St→Prop} (h:af P dy a fr st (bW P dy b Q)):af P dy (.seq a b) fr st Q:=af.seq h
theorem qj {dy:Dy} {i:Nat} {l:List Oper} {d:Bool} {n:Nat} {loc:List D} {tmp:List (Nat×D)} {Q:Out→Fr→St→Prop} (h:∀K:Out→Fr→St→Prop,Q=K→ab P l.toArray l ⟨n,loc,[]⟩ st (K .next)) (h0:fm i dy=[]:=by rfl):af P dy (.region i l.toArray d) ⟨n,loc,tmp⟩ st Q:=af.eX (h Q rfl) h0
theorem qe {Q K:Out→Fr→St→Prop} (hK:Q=K) (h:Q .next fr st):ab P ops [] fr st (K .next):=ab.nil (hK▸h)
theorem qB {dy:Dy} {c:Operand} {a b:Code} {Q:Out→Fr→St→Prop} (h1:af P dy a fr st Q) (hv:fr.ev c=.bool true:=by first|rfl|assumption):af P dy (.cond c a b) fr st Q:=af.cond hv (fun _=>h1) (fun h=>by cases h)
theorem qC {dy:Dy} {c:Operand} {a b:Code} {Q:Out→Fr→St→Prop} (h1:af P dy b fr st Q) (hv:fr.ev c=.bool false:=by first|rfl|assumption):af P dy (.cond c a b) fr st Q:=af.cond hv (fun h=>by cases h) (fun _=>h1)
theorem qD {dy:Dy} {c:Operand} {a b:Code} {v:Bool} {Q:Out→Fr→St→Prop} (hv:fr.ev c=.bool v) (hb:v=true) (h1:af P dy a fr st Q):af P dy (.cond c a b) fr st Q:=af.cond hv (fun _=>h1) (fun h=>by rw[hb] at h;cases h)
theorem qE {dy:Dy} {c:Operand} {a b:Code} {v:Bool} {Q:Out→Fr→St→Prop} (hv:fr.ev c=.bool v) (hb:v=false) (h1:af P dy b fr st Q):af P dy (.cond c a b) fr st Q:=af.cond hv (fun h=>by rw[hb] at h;cases h) (fun _=>h1)
theorem rx:∀i:Nat,Out.ret≠Out.exit i:=fun i h=>by cases h
theorem rl {S:St} {H:List bC} {kn:Bool} {st1:St} {d d':D} (hS:S.bs=st.bs) (hH:Has st.bs.length S st1 H) (hd:bo st1 st.bs.length kn 16 d=some d'):cD .ro kn st st1 d=some (d',st):=Ay (by simp) hS hH hd
theorem ri (s0:St):(ai .ro s0).bs=s0.bs∧(ai .ro s0).flr≤s0.bs.length∧Has s0.bs.length (ai .ro s0) (ai .ro s0) []:=⟨rfl,Nat.le_refl _,Has.start (Nat.le_refl _) (Nat.le_refl _)⟩
theorem w1 {α:Type} {n:Nat} {a:α}:List.replicate (n+1) a=a::List.replicate n a:=rfl
theorem w2 {α:Type} {a:α}:List.replicate 0 a=[]:=rfl
theorem qy {dy:Dy} {a:Code} {Q:Out→Fr→St→Prop} (h:af P dy a fr st Q):af P dy a fr st Q:=h
theorem u1 {α:Type} {x:α} {l:List α} {n:Nat} {a:α}:(x::l).set (n+1) a=x::l.set n a:=rfl
theorem u2 {α:Type} {x:α} {l:List α} {a:α}:(x::l).set 0 a=a::l:=rfl
theorem u3 {α:Type} {x:α} {l m:List α}:(x::l)++m=x::(l++m):=rfl
theorem u4 {α:Type} {m:List α}:([]:List α)++m=m:=rfl
theorem u5 {α β:Type} {f:α→β} {x:α} {l:List α}:(x::l).map f=f x::l.map f:=rfl
theorem u6 {α β:Type} {f:α→β}:([]:List α).map f=[]:=rfl
theorem v1 (k:IntKind) (n:Int):iU (.int k n)=.int k n:=rfl
theorem v2 (b:Bool):iU (.bool b)=.bool b:=rfl
theorem v3 (s:ByteArray):iU (.string s)=.str s.data.toList:=rfl
theorem v4:iU (.slice none 0 0)=.nul:=rfl
theorem v5:iU (.pointer none)=.pnil:=rfl
theorem v6:iU .nilFunc=.nilfn:=rfl
theorem v7:iU .nilIface=.nilif:=rfl
theorem cs:(∀(p:Prop) [Decidable p],(decide p=true)=p)∧(∀(p:Prop) [Decidable p],(decide p=false)=¬p)∧(∀(α:Type) [BEq α] [LawfulBEq α] (a b:α),((a==b)=true)=(a=b))∧(∀(α:Type) [BEq α] [LawfulBEq α] (a b:α),((a==b)=false)=¬a=b)∧(∀(α:Type) [BEq α] [LawfulBEq α] (a b:α),((a !=b)=true)=¬a=b)∧(∀(α:Type) [BEq α] [LawfulBEq α] (a b:α),((a !=b)=false)=(a=b))∧(∀b:Bool,((!b)=true)=(b=false))∧(∀b:Bool,((!b)=false)=(b=true))∧(∀b:Bool,(¬b=true)=(b=false))∧(∀b:Bool,(¬b=false)=(b=true)):=by
 refine⟨fun p _=>by simp,fun p _=>by simp,fun α _ _ a b=>by simp,fun α _ _ a b=>by simp,fun α _ _ a b=>by simp,fun α _ _ a b=>by simp,fun b=>by simp,fun b=>by simp,fun b=>by simp,fun b=>by simp⟩
theorem xT {n t:Nat} {loc:List D} {tmp:List (Nat×D)} (h:ab P ops rest ⟨n,loc,(t,d)::tmp⟩ st1 Q) (hb:Nat.ble n t=true:=by exact rfl) (hg:aA ops ⟨n,loc,tmp⟩ ⟨some t,op,ty,pp,a,g⟩=some true:=by exact rfl) (hc:gm op=false:=by exact rfl) (h1:di P ⟨n,loc,tmp⟩ st op ty=some (d,st1):=by exact rfl):ab P ops (⟨some t,op,ty,pp,a,g⟩::rest) ⟨n,loc,tmp⟩ st Q:=ab.T hb hg hc h1 h
theorem xL {n t:Nat} {loc:List D} {tmp:List (Nat×D)} (h:ab P ops rest ⟨n,loc.set t d,tmp⟩ st1 Q) (hb:Nat.ble n t=false:=by exact rfl) (hg:aA ops ⟨n,loc,tmp⟩ ⟨some t,op,ty,pp,a,g⟩=some true:=by exact rfl) (hc:gm op=false:=by exact rfl) (h1:di P ⟨n,loc,tmp⟩ st op ty=some (d,st1):=by exact rfl):ab P ops (⟨some t,op,ty,pp,a,g⟩::rest) ⟨n,loc,tmp⟩ st Q:=ab.L hb hg hc h1 h
theorem xN (h:ab P ops rest fr st1 Q) (hg:aA ops fr ⟨none,op,ty,pp,a,g⟩=some true:=by exact rfl) (hc:gm op=false:=by exact rfl) (h1:di P fr st op ty=some (d,st1):=by exact rfl):ab P ops (⟨none,op,ty,pp,a,g⟩::rest) fr st Q:=ab.N hg hc h1 h
theorem xo {n t:Nat} {loc:List D} {tmp:List (Nat×D)} (h:ab P ops rest ⟨n,loc,(t,.tup [])::tmp⟩ st Q) (hb:Nat.ble n t=true:=by exact rfl) (hg:aA ops ⟨n,loc,tmp⟩ ⟨some t,op,ty,pp,a,g⟩=some false:=by exact rfl):ab P ops (⟨some t,op,ty,pp,a,g⟩::rest) ⟨n,loc,tmp⟩ st Q:=ab.Oo hb hg h
theorem xp {n t:Nat} {loc:List D} {tmp:List (Nat×D)} (h:ab P ops rest ⟨n,loc.set t (.tup []),tmp⟩ st Q) (hb:Nat.ble n t=false:=by exact rfl) (hg:aA ops ⟨n,loc,tmp⟩ ⟨some t,op,ty,pp,a,g⟩=some false:=by exact rfl):ab P ops (⟨some t,op,ty,pp,a,g⟩::rest) ⟨n,loc,tmp⟩ st Q:=ab.Oq hb hg h
end Go.V
