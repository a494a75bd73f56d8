/-
 Functions given to V; a logic over V; heaps of one's own; no program in sight, no conditions.
-/
import Derived.Test.YtnleclohocdkaaaVM4
import Derived.Test.YtnleclohocdkaaaVM1
set_option linter.unusedSimpArgs false
set_option linter.unusedVariables false
set_option linter.unusedSectionVars false
set_option linter.unnecessarySimpa false
namespace Go.V
open Go.RowKit
structure fk (P:Program) (pv:Pv) (f:Nat) (p:List D→St→Option (D×St)):Prop where
 fn:∀ds st r,p ds st=some r→∃fn b,P.funcs[f]?=some fn∧fn.body=some b∧fn.name≠ "runtime.NumGoroutine"
 calls:∀ds st d af,p ds st=some (d,af)→∀w β Z (us:List Value),fP w st β Z→ds.length=us.length→(∀(i:Nat) c v,ds[i]?=some c→us[i]?=some v→VR w (st.x β Z) c v)→
  Calls P f us.toArray w fun e w'=>∃v β' Z',e=.returned v∧Nx w st β Z w' af β' Z'∧VR w' (af.x β' Z') d v∧(jl pv f=true→Quiet w w')
 ro:∀ds st d af,p ds st=some (d,af)→jl pv f=true→mV st af
 len:∀ds st d af,p ds st=some (d,af)→dE st af
theorem y6 {pv t_:Pv} (h:∀f,jl pv f=jl t_ f) (hm:∀s t,mj pv s t=mj t_ s t) (ops:Array Oper) (b:Bool) (x y:Oper):j4 pv ops b x y=j4 t_ ops b x y:=by
 have he:∀o,eF pv o=eF t_ o:=by
  intro o;unfold eF
  split<;>first|rfl|exact hm _ _|skip
  rw[h]
 simp only[j4,he]
theorem wg {pv t_:Pv} (h:∀f,jl pv f=jl t_ f) (hm:∀s t,mj pv s t=mj t_ s t) (ops:Array Oper) (dy:List (Nat×Nat)):kj pv ops dy=kj t_ ops dy:=by
 unfold kj
 congr 1
 funext j;unfold Fq
 split
 ·simp only[y6 h hm]
 ·rfl
theorem dC {pv t_:Pv} (h:∀f,jl pv f=jl t_ f) (hm:∀s t,mj pv s t=mj t_ s t) (dyn:List (Nat×List (Nat×Nat))) (n:Nat):∀c:Code,codeOk pv dyn n c=codeOk t_ dyn n c
 | .region _ ops d=>by simp only[codeOk,wg h hm]
 | .seq a b=>by simp only[codeOk,dC h hm dyn n a,dC h hm dyn n b]
 | .cond _ a b=>by simp only[codeOk,dC h hm dyn n a,dC h hm dyn n b]
 | .block _ c=>by simp only[codeOk,dC h hm dyn n c]
 | .loop c=>by simp only[codeOk,dC h hm dyn n c]
 | .skip| .rangeFunc ..| .exit _| .scope _| .label _| .goto _| .ret| .refuse _=>by simp only[codeOk]
def Pv.over (pv:Pv) (l:List (Nat×(List D→St→Option (D×St)))):Pv:=⟨pv.ty,pv.nty,pv.fs,pv.nfs,pv.eqb,l⟩
theorem Bs (pv:Pv) (l) (f:Nat):jl (pv.over l) f=jl pv f:=rfl
theorem s9 {f:Nat} {p}:∀{l:List (Nat×(List D→St→Option (D×St)))},kr f l=some p→(f,p)∈l
 |(g,q)::l,h=>by
  simp only[kr] at h
  split at h
  ·rename_i hb;cases h;rw[Nat.eq_of_beq_eq_true hb];exact List.mem_cons_self ..
  ·exact List.mem_cons_of_mem _ (s9 h)
theorem nb {pv:Pv} {P:Program} (h:pv.Ok P∧pv.ig∧gE P pv (dL pv)) (Ng:pv.prm=[]) {l:List (Nat×(List D→St→Option (D×St)))} (hl:∀q∈l,fk P pv q.1 q.2):
  (pv.over l).Ok P∧(pv.over l).ig∧gE P (pv.over l) (dL (pv.over l)):=by
 obtain⟨h1,h2,h3⟩:=h;refine⟨⟨h1.ty,h1.fs,h1.eqb,h1.mixed⟩,fun f x b hx hp hb=>?_,?_⟩
 ·rw[dC (Bs pv l) (fun _ _=>rfl)];exact h2 f x b hx hp hb
 ·have key:∀f ds st r,dL (pv.over l) f ds st=some r→(∃p,fk P pv f p∧p ds st=some r)∨dL pv f ds st=some r:=by
   intro f ds st r h;unfold dL at h
   split at h
   ·rename_i p hp;exact .inl ⟨p,hl _ (s9 hp),h⟩
   ·right;unfold dL;rw[Ng];exact h
  refine⟨fun f ds st r h=>?_,fun f ds st d af h=>?_,fun f ds st d af h=>?_,fun f ds st d af h=>?_⟩
  ·rcases key f ds st r h with⟨p,hp,h⟩|h
   ·exact hp.fn ds st r h
   ·exact h3.fn f ds st r h
  ·rcases key f ds st _ h with⟨p,hp,h⟩|h
   ·exact hp.calls ds st d af h
   ·exact h3.calls f ds st d af h
  ·rcases key f ds st _ h with⟨p,hp,h⟩|h
   ·exact hp.ro ds st d af h
   ·exact h3.ro f ds st d af h
  ·rcases key f ds st _ h with⟨p,hp,h⟩|h
   ·exact hp.len ds st d af h
   ·exact h3.len f ds st d af h
theorem fP.nil {w:World} {Z:Nat→Prop} (hZ:∀b,Z b→b<w.heap.size):fP w ⟨[],0,0⟩ (fun _=>none) Z:=
 ⟨fun _ _ _ h=>(by cases h),fun _ _ _ h=>(by cases h),fun _ _ _ _ _ h=>(by cases h),fun _ _ _ h=>(by cases h),hZ,fun _ _ _ _ h=>(by cases h),Nat.le_refl _,Nat.le_refl _⟩
theorem lO {pv:Pv} {P:Program} (h:pv.Ok P∧pv.ig∧gE P pv (dL pv)) {n f:Nat} {ds:List D} {d:D} {vu:St} (hs:br pv n f ds ⟨[],0,0⟩=some (d,vu)) (h0:vu.bs=[]) (hr:refs ds=0)
  (st:St) (w:World) (β:Nat→Option (Nat×Nat)) (Z:Nat→Prop) (us:List Value) (fv:fP w st β Z) (hl:ds.length=us.length) (ha:∀(i:Nat) c v,ds[i]?=some c→us[i]?=some v→VR w (st.x β Z) c v):
  Calls P f us.toArray w fun e w'=>∃v β' Z',e=.returned v∧Nx w st β Z w' st β' Z'∧VR w' (st.x β' Z') d v∧Quiet w w':=by
 have hrefs:∀(l:List D),refs l=0→∀c∈l,c.ref≤0:=by
  intro l
  induction l with
  |nil=>intro _ c hc;simp at hc
  |cons x l ih=>
   intro h c hc;simp only[refs] at h
   rcases List.mem_cons.1 hc with rfl|hc
   ·omega
   ·exact ih (by omega) c hc
 refine((gM h.1 h.2.1 h.2.2 n).calls f ds _ d vu hs w (fun _=>none) Z us (fP.nil fv.zl) hl fun i c v hc hv=>?_).mono fun e w'=>?_
 ·exact VR.cut (x:=st.x β Z) (x':=(⟨[],0,0⟩:St).x (fun _=>none) Z) (N:=0) (fun k hk=>absurd hk (Nat.not_lt_zero _)) (fun k hk=>absurd hk (Nat.not_lt_zero _)) (fun b hb=>hb) (ha i c v hc hv) (hrefs ds hr c (List.mem_of_getElem? hc))
 ·rintro⟨v,β',Z',rfl,hn,hv,_⟩
  have nO:∀k p,β' k=some p→False:=fun k p hk=>by
   have:=hn.sim.dom k p.1 p.2 hk;rw[h0] at this;simp at this
  have hq:Quiet w w':=by
   intro c hc;refine hn.evo.block c hc ?_;rintro⟨k,base,h5,_⟩;cases h5
  have Jv:∀b,Z b→Z' b∧w'.heap[b]?=w.heap[b]?:=fun b hb=>⟨(hn.keeps.z b hb).1,hq b (fv.zl b hb)⟩
  have hk:c9 w (st.x β Z) w' (st.x β Z'):=⟨fun k p hp=>⟨p,hp⟩,Jv,fun k c p _ hc=>⟨c,hc,Nat.le_refl _⟩,fun k c _ _ b base hb=>⟨hb,dx (hq b (fv.lt k b base hb))⟩⟩
  refine⟨v,β,Z',rfl,⟨⟨fv.dom,fun k b base hb=>Nat.lt_of_lt_of_le (fv.lt k b base hb) hn.evo.size,fv.inj,fun k b base hb hz=>?_,hn.sim.zl,fun k b base bx hb gv=>(fv.box k b base bx hb gv).bO hk (hq b (fv.lt k b base hb)),fv.flr,fv.ro⟩,hk,
   ⟨hn.evo.os,hn.evo.tape,hn.evo.output,hn.evo.size,fun b hb _=>hq b hb⟩,fun k b base hb=>.inl ⟨base,hb⟩,hn.zfresh,Nat.le_refl _,rfl,rfl,fun k _=>⟨rfl,rfl⟩,fun k _ hk=>⟨hk,rfl⟩⟩,?_,hq⟩
  ·rcases hn.zfresh b hz with hz|hz
   ·exact fv.zd k b base hb hz
   ·have:=fv.lt k b base hb;omega
  ·exact VR.cut (x:=vu.x β' Z') (x':=st.x β Z') (N:=0) (fun k hk=>absurd hk (Nat.not_lt_zero _)) (fun k hk=>absurd hk (Nat.not_lt_zero _)) (fun b hb=>hb) hv (VR.ref (fun k p hk=>(nO k p hk).elim) hv)
def ox (d:D):List D→St→Option (D×St)
 |[],st=>some (d,st)
 |_::_,_=>none
theorem qk {pv:Pv} {P:Program} (h:pv.Ok P∧pv.ig∧gE P pv (dL pv)) {n f:Nat} {d:D} {vu:St} (hs:br pv n f [] ⟨[],0,0⟩=some (d,vu)) (h0:vu.bs=[]):fk P pv f (ox d):=by
 have hc:=gM h.1 h.2.1 h.2.2 n;refine⟨fun ds st r _=>hc.fn f [] _ _ hs,fun ds st d' af hp w β Z us fv hl ha=>?_,fun ds st d' af hp _=>?_,fun ds st d' af hp=>?_⟩<;>cases ds<;>simp only[ox,Option.some.injEq,Prod.mk.injEq,reduceCtorEq] at hp
 ·obtain⟨rfl,rfl⟩:=hp;refine(lO h hs h0 rfl st w β Z us fv hl ha).mono fun e w'=>?_;rintro⟨v,β',Z',h1,h2,h3,h4⟩;exact⟨v,β',Z',h1,h2,h3,fun _=>h4⟩
 ·rw[←hp.2];exact .rfl _
 ·rw[←hp.2];exact dE.refl _
def gG:List (List D×D)→List D→St→Option (D×St)
 |[],_,_=>none
 |(as,d)::l,ds,st=>match ij as ds with
  |true=>some (d,st)
  |false=>gG l ds st
theorem ji:∀{l:List (List D×D)} {ds:List D} {st af:St} {d:D},gG l ds st=some (d,af)→(ds,d)∈l∧af=st
 |(as,e)::l,ds,st,af,d,h=>by
  simp only[gG] at h
  split at h
  ·rename_i hb;cases h;rw[fO _ _ hb];exact⟨List.mem_cons_self ..,rfl⟩
  ·obtain⟨h1,h2⟩:=ji h;exact⟨List.mem_cons_of_mem _ h1,h2⟩
theorem mi {pv:Pv} {P:Program} (h:pv.Ok P∧pv.ig∧gE P pv (dL pv)) {f:Nat} {l:List (List D×D)} (hl:∀q∈l,refs q.1=0∧∃n vu,br pv n f q.1 ⟨[],0,0⟩=some (q.2,vu)∧vu.bs=[]):fk P pv f (gG l):=by
 refine⟨fun ds st r hp=>?_,fun ds st d af hp w β Z us fv hle ha=>?_,fun ds st d af hp _=>by rw[(ji hp).2];exact .rfl _,fun ds st d af hp=>?_⟩
 ·obtain⟨hm,_⟩:=ji (d:=r.1) (af:=r.2) hp;obtain⟨_,n,vu,hs,_⟩:=hl _ hm;exact(gM h.1 h.2.1 h.2.2 n).fn f _ _ _ hs
 ·obtain⟨hm,rfl⟩:=ji hp;obtain⟨hr,n,vu,hs,h0⟩:=hl _ hm;refine(lO h hs h0 hr af w β Z us fv hle ha).mono fun e w'=>?_;rintro⟨v,β',Z',h1,h2,h3,h4⟩;exact⟨v,β',Z',h1,h2,h3,fun _=>h4⟩
 ·rw[(ji hp).2];exact dE.refl _
def mR:List iC→List iC→Bool
 |[],[]=>true
 |a::l,b::m=>rJ a b &&mR l m
 |_,_=>false
def AG (a b:St):Bool:=Nat.beq a.flr b.flr &&Nat.beq a.ro b.ro &&mR a.bs b.bs
theorem oK:∀{a b:List iC},mR a b=true→a=b
 |[],[],_=>rfl
 |a::l,b::m,h=>by
  simp only[mR,Bool.and_eq_true] at h;rw[tG h.1,oK h.2]
 |[],_::_,h=>by cases h
 |_::_,[],h=>by cases h
theorem xx {a b:St} (h:AG a b=true):a=b:=by
 obtain⟨x,y,z⟩:=a;obtain⟨x',y',z'⟩:=b;simp only[AG,Bool.and_eq_true] at h;have h1:=Nat.eq_of_beq_eq_true h.1.1;have h2:=Nat.eq_of_beq_eq_true h.1.2;have h3:=oK h.2;rw[h1,h2,h3]
def dB (d:D) (st:St):Option (D×St)→Bool
 |some (e,af)=>eG e d &&AG af st
 |none=>false
theorem h_ {d:D} {st:St} {r:Option (D×St)} (h:dB d st r=true):r=some (d,st):=by
 match r,h with
 |some (e,af),h=>
  simp only[dB,Bool.and_eq_true] at h;rw[pj e d h.1,xx h.2]
def sQ:List ((List D×St)×(D×St))→List D→St→Option (D×St)
 |[],_,_=>none
 |(k,r)::l,ds,st=>match ij k.1 ds &&AG k.2 st with
  |true=>some r
  |false=>sQ l ds st
theorem jh:∀{l:List ((List D×St)×(D×St))} {ds:List D} {st:St} {r:D×St},sQ l ds st=some r→((ds,st),r)∈l
 |(k,r')::l,ds,st,r,h=>by
  simp only[sQ] at h
  split at h
  ·rename_i hb;simp only[Bool.and_eq_true] at hb;cases h;obtain⟨k1,k2⟩:=k;rw[←fO _ _ hb.1,←xx hb.2];exact List.mem_cons_self ..
  ·exact List.mem_cons_of_mem _ (jh h)
theorem Dn {pv t_:Pv} {P:Program} (h:t_.Ok P∧t_.ig∧gE P t_ (dL t_)) (gb:∀f,jl t_ f=jl pv f) {f:Nat} {l:List ((List D×St)×(D×St))} (hl:∀q∈l,∃n,br t_ n f q.1.1 q.1.2=some q.2):fk P pv f (sQ l):=by
 refine⟨fun ds st r hp=>?_,fun ds st d af hp w β Z us fv hle ha=>?_,fun ds st d af hp hr=>?_,fun ds st d af hp=>?_⟩
 ·obtain⟨n,hn⟩:=hl _ (jh hp);exact(gM h.1 h.2.1 h.2.2 n).fn f _ _ _ hn
 ·obtain⟨n,hn⟩:=hl _ (jh hp);have:=(gM h.1 h.2.1 h.2.2 n).calls f _ _ _ _ hn w β Z us fv hle ha;rw[gb] at this;exact this
 ·obtain⟨n,hn⟩:=hl _ (jh hp);exact(gM h.1 h.2.1 h.2.2 n).ro f _ _ _ _ hn (by rw[gb];exact hr)
 ·obtain⟨n,hn⟩:=hl _ (jh hp);exact(gM h.1 h.2.1 h.2.2 n).len f _ _ _ _ hn
end Go.V
namespace Go.V
section
variable(P:Pv)
def Ev (f:Nat) (args:List D) (st:St) (d:D) (af:St):Prop:=
 ∃N,∀n,N≤n→br P n f args st=some (d,af)
abbrev Dy:=List (Nat×List (Nat×Nat))
def ah (dy:Dy) (c:Code) (fr:Fr) (st:St) (Q:Out→Fr→St→Prop):Prop:=
 ∃o aD af,(∃N,∀n,N≤n→bH P (br P n) dy n c fr st=some (o,aD,af))∧Q o aD af
def ab (ops:Array Oper) (l:List Oper) (fr:Fr) (st:St) (Q:Fr→St→Prop):Prop:=
 ∃aD af,(∃N,∀n,N≤n→iu P (br P n) ops l fr st=some (aD,af))∧Q aD af
def b6 (dy:Dy) (b:Code) (Q:Out→Fr→St→Prop):Out→Fr→St→Prop
 | .next,fr,st=>ah P dy b fr st Q
 | .exit i,fr,st=>Q (.exit i) fr st
 | .ret,fr,st=>Q .ret fr st
def EJ (id:Nat) (Q:Out→Fr→St→Prop):Out→Fr→St→Prop
 | .next,fr,st=>Q .next fr st
 | .exit i,fr,st=>if i=id then Q .next fr st else Q (.exit i) fr st
 | .ret,fr,st=>Q .ret fr st
def Lq (I:Nat→Fr→St→Prop) (k:Nat) (Q:Out→Fr→St→Prop):Out→Fr→St→Prop
 | .next,fr,st=>∃j,j<k∧I j fr st
 | .exit i,fr,st=>Q (.exit i) fr st
 | .ret,fr,st=>Q .ret fr st
def gu (ops:Array Oper) (dy:List (Nat×Nat)) (j:Nat) (log:Log) (l:List Oper) (fr:Fr) (st:St) (Q:Fr→St→Prop):Prop:=
 ∃aD af,(∃N,∀n,N≤n→oN P (br P n) ops dy j log l fr st=some (aD,af))∧Q aD af
variable{P} {dy:Dy}
theorem ah.mono {c:Code} {fr st} {Q Q':Out→Fr→St→Prop} (h:ah P dy c fr st Q) (hq:∀o aD af,Q o aD af→Q' o aD af):ah P dy c fr st Q':=by
 obtain⟨o,aD,af,h1,h2⟩:=h;exact⟨o,aD,af,h1,hq _ _ _ h2⟩
theorem ah.skip {fr st} {Q:Out→Fr→St→Prop} (h:Q .next fr st):ah P dy .skip fr st Q:=⟨_,_,_,⟨0,fun n _=>by simp only[bH]⟩,h⟩
theorem ah.exit {fr st i} {Q:Out→Fr→St→Prop} (h:Q (.exit i) fr st):ah P dy (.exit i) fr st Q:=⟨_,_,_,⟨0,fun n _=>by simp only[bH]⟩,h⟩
theorem ah.ret {fr st} {Q:Out→Fr→St→Prop} (h:Q .ret fr st):ah P dy .ret fr st Q:=⟨_,_,_,⟨0,fun n _=>by simp only[bH]⟩,h⟩
theorem ah.region {i ops d fr st} {Q:Out→Fr→St→Prop} (h:ab P ops ops.toList fr.clean st (Q .next)) (h0:f_ i dy=[]:=by rfl):ah P dy (.region i ops d) fr st Q:=by
 obtain⟨aD,af,⟨N,hN⟩,hq⟩:=h;exact⟨_,aD,af,⟨N,fun n hn=>by simp only[bH,h0,vN,hN n hn]⟩,hq⟩
theorem ah.Fk {i ops d fr st} {Q:Out→Fr→St→Prop} {p:Nat×Nat} {ps:List (Nat×Nat)} (h0:f_ i dy=p::ps) (h:gu P ops (p::ps) 0 [] ops.toList fr.clean st (Q .next)):ah P dy (.region i ops d) fr st Q:=by
 obtain⟨aD,af,⟨N,hN⟩,hq⟩:=h;exact⟨_,aD,af,⟨N,fun n hn=>by simp only[bH,h0,vN,hN n hn]⟩,hq⟩
theorem ah.seq {a b fr st} {Q:Out→Fr→St→Prop} (h:ah P dy a fr st (b6 P dy b Q)):ah P dy (.seq a b) fr st Q:=by
 obtain⟨o,aD,af,⟨N,hN⟩,hq⟩:=h
 cases o with
 |next=>
  obtain⟨o,Ia,st2,⟨M,hM⟩,hq⟩:=hq;exact⟨o,Ia,st2,⟨max N M,fun n hn=>by simp only[bH,hN n (by omega),hM n (by omega)]⟩,hq⟩
 |exit i=>exact⟨_,aD,af,⟨N,fun n hn=>by simp only[bH,hN n hn]⟩,hq⟩
 |ret=>exact⟨_,aD,af,⟨N,fun n hn=>by simp only[bH,hN n hn]⟩,hq⟩
theorem ah.cond {c a b fr st v} {Q:Out→Fr→St→Prop} (hv:fr.ev c=.bool v) (h1:v=true→ah P dy a fr st Q) (h2:v=false→ah P dy b fr st Q):ah P dy (.cond c a b) fr st Q:=by
 cases v with
 |true=>
  obtain⟨o,aD,af,⟨N,hN⟩,hq⟩:=h1 rfl;exact⟨o,aD,af,⟨N,fun n hn=>by simp only[bH,hv,hN n hn]⟩,hq⟩
 |false=>
  obtain⟨o,aD,af,⟨N,hN⟩,hq⟩:=h2 rfl;exact⟨o,aD,af,⟨N,fun n hn=>by simp only[bH,hv,hN n hn]⟩,hq⟩
theorem ah.block {id c fr st} {Q:Out→Fr→St→Prop} (h:ah P dy c fr st (EJ id Q)):ah P dy (.block id c) fr st Q:=by
 obtain⟨o,aD,af,⟨N,hN⟩,hq⟩:=h
 cases o with
 |next=>exact⟨_,aD,af,⟨N,fun n hn=>by simp only[bH,hN n hn]⟩,hq⟩
 |exit i=>
  simp only[EJ] at hq
  split at hq
  ·rename_i hi;exact⟨_,aD,af,⟨N,fun n hn=>by simp only[bH,hN n hn,if_pos hi]⟩,hq⟩
  ·rename_i hi;exact⟨_,aD,af,⟨N,fun n hn=>by simp only[bH,hN n hn,if_neg hi]⟩,hq⟩
 |ret=>exact⟨_,aD,af,⟨N,fun n hn=>by simp only[bH,hN n hn]⟩,hq⟩
theorem ah.loop {c:Code} {fr st} {Q:Out→Fr→St→Prop} (I:Nat→Fr→St→Prop) (k:Nat) (h0:I k fr st) (h:∀k fr st,I k fr st→ah P dy c fr.clean st (Lq I k Q)):ah P dy (.loop c) fr st Q:=by
 have key:∀k fr st,I k fr st→∃o aD af,(∃N,∀n,N≤n→∀m,N≤m→iter (bH P (br P n) dy n c) m fr st=some (o,aD,af))∧(Q o aD af):=by
  intro k
  induction k using Nat.strongRecOn with
  |ind k ih=>
   intro fr st hi;obtain⟨o,aD,af,⟨N,hN⟩,hq⟩:=h k fr st hi
   cases o with
   |next=>
    obtain⟨j,hj,gT⟩:=hq;obtain⟨o,Ia,st2,⟨M,hM⟩,hq⟩:=ih j hj aD af gT;refine⟨o,Ia,st2,⟨max N M+1,fun n hn m hm=>?_⟩,hq⟩
    obtain⟨m,rfl⟩:∃m',m=m'+1:=⟨m-1,by omega⟩
    simp only[iter,hN n (by omega),hM n (by omega) m (by omega)]
   |exit i=>
    refine⟨_,aD,af,⟨N+1,fun n hn m hm=>?_⟩,hq⟩
    obtain⟨m,rfl⟩:∃m',m=m'+1:=⟨m-1,by omega⟩
    simp only[iter,hN n (by omega)]
   |ret=>
    refine⟨_,aD,af,⟨N+1,fun n hn m hm=>?_⟩,hq⟩
    obtain⟨m,rfl⟩:∃m',m=m'+1:=⟨m-1,by omega⟩
    simp only[iter,hN n (by omega)]
 obtain⟨o,aD,af,⟨N,hN⟩,hq⟩:=key k fr st h0;exact⟨o,aD,af,⟨N,fun n hn=>by simp only[bH,hN n hn n hn]⟩,hq⟩
theorem Ev.of {f x body args st d af} (hq:kr f P.prm=none) (hf:P.fi f=some x) (hp:x.jW=none) (hb:x.fn.body=some body)
  (h:ah P x.dyn body (pad x.nloc args) (ag x.mode st) fun o fr st1=>(∀i,o≠.exit i)∧∃ds,jE P fr st1 x.fn.results.toList=some ds∧cP x.mode x.knul st st1 (rT ds)=some (d,af)):Ev P f args st d af:=by
 obtain⟨o,aD,st1,⟨N,hN⟩,ho,ds,hr,hl⟩:=h;refine⟨N+1,fun n hn=>?_⟩
 obtain⟨m,rfl⟩:∃m',n=m'+1:=⟨n-1,by omega⟩
 simp only[br,hq,hf,hp,hb,xw];rw[hN m (by omega)]
 cases o with
 |next=>simp only[hr,hl]
 |exit i=>exact absurd rfl (ho i)
 |ret=>simp only[hr,hl]
theorem ab.nil {ops fr st} {Q:Fr→St→Prop} (h:Q fr st):ab P ops [] fr st Q:=⟨fr,st,⟨0,fun n _=>rfl⟩,h⟩
def ia:Op→Bool
 | .call ⟨.value _,_,_⟩=>true
 |_=>false
theorem Da {cf fr st} {o:Oper} (h:ia o.op=false):eA P cf fr st o=dF P fr st o.op o.type:=by
 unfold eA
 split
 ·rename_i heq;rw[heq] at h;simp[ia] at h
 ·rfl
theorem ab.op {ops o rest fr st d st1} {Q:Fr→St→Prop} (hg:aB ops fr o=some true) (hc:ia o.op=false) (h1:dF P fr st o.op o.type=some (d,st1))
  (h:ab P ops rest (fr.dg o.dst d) st1 Q):ab P ops (o::rest) fr st Q:=by
 obtain⟨aD,af,⟨N,hN⟩,hq⟩:=h;exact⟨aD,af,⟨N,fun n hn=>by simp only[iu,hg,Da hc,h1,hN n hn]⟩,hq⟩
theorem ab.off {ops o rest fr st} {Q:Fr→St→Prop} (hg:aB ops fr o=some false)
  (h:ab P ops rest (fr.dg o.dst (.tup [])) st Q):ab P ops (o::rest) fr st Q:=by
 obtain⟨aD,af,⟨N,hN⟩,hq⟩:=h;exact⟨aD,af,⟨N,fun n hn=>by simp only[iu,hg,hN n hn]⟩,hq⟩
theorem ab.call {ops rest fr st d st1 f g iW args vp dst type pos} {after guard} {Q:Fr→St→Prop} (hg:aB ops fr ⟨dst,.call ⟨.value f,args,vp⟩,type,pos,after,guard⟩=some true) (hf:fr.ev f=.fn g iW)
  (h1:Ev P g (args.toList.map fr.ev++iW) st d st1)
  (h:ab P ops rest (fr.dg dst d) st1 Q):ab P ops (⟨dst,.call ⟨.value f,args,vp⟩,type,pos,after,guard⟩::rest) fr st Q:=by
 obtain⟨aD,af,⟨N,hN⟩,hq⟩:=h;obtain⟨M,hM⟩:=h1;exact⟨aD,af,⟨max N M,fun n hn=>by simp only[iu,hg,eA,hf,hM n (by omega),hN n (by omega)]⟩,hq⟩
theorem gu.nil {ops ys j log fr st} {Q:Fr→St→Prop} (h:Q fr st):gu P ops ys j log [] fr st Q:=⟨fr,st,⟨0,fun n _=>rfl⟩,h⟩
theorem gu.cons {ops ys j log o rest fr st} {Q:Fr→St→Prop} (h:ab P ops [o] fr st fun aD af=>En ys j log o fr st af=true∧gu P ops ys (j+1) ((o,fr,st,af)::log) rest aD af Q):gu P ops ys j log (o::rest) fr st Q:=by
 obtain⟨Ib,st1,⟨N,hN⟩,hc,Ia,st2,⟨M,hM⟩,hq⟩:=h;refine⟨Ia,st2,⟨max N M,fun n hn=>?_⟩,hq⟩;have h1:=hN n (by omega);have h2:=hM n (by omega);simp only[iu] at h1;simp only[oN]
 split at h1
 ·rename_i hw
  split at h1
  ·rename_i d af fM;cases h1;simp only[fM,hc,h2]
  ·cases h1
 ·rename_i hw;cases h1;exact h2
 ·cases h1
theorem Ev.out {f args st d af} (h:Ev P f args st d af):∃N,∀n,N≤n→br P n f args st=some (d,af):=h
theorem Ev.jW {f args st d af p} (hq:kr f P.prm=some p) (h:p args st=some (d,af)):Ev P f args st d af:=
 ⟨1,fun n hn=>by
  obtain⟨m,rfl⟩:∃m',n=m'+1:=⟨n-1,by omega⟩
  simp only[br,hq,h]⟩
end
attribute [irreducible] Ev ah ab gu
end Go.V
namespace Go.V
theorem ah.fF {P:Pv} {dy:Dy} {i:Nat} {l:List Oper} {d n loc tmp st} {Q:Out→Fr→St→Prop} (h:ab P l.toArray l ⟨n,loc,[]⟩ st (Q .next)) (h0:f_ i dy=[]:=by rfl):ah P dy (.region i l.toArray d) ⟨n,loc,tmp⟩ st Q:=ah.region h h0
theorem ah.Fl {P:Pv} {dy:Dy} {i:Nat} {l:List Oper} {d n loc tmp st} {Q:Out→Fr→St→Prop} {p:Nat×Nat} {ps:List (Nat×Nat)} (h0:f_ i dy=p::ps) (h:gu P l.toArray (p::ps) 0 [] l ⟨n,loc,[]⟩ st (Q .next)):ah P dy (.region i l.toArray d) ⟨n,loc,tmp⟩ st Q:=ah.Fk h0 h
theorem Ev.o9 {P:Pv} {f x body args st d af n loc} (hq:kr f P.prm=none) (hf:P.fi f=some x) (hp:x.jW=none) (hb:x.fn.body=some body) (DL:pad x.nloc args=⟨n,loc,[]⟩)
  (h:ah P x.dyn body ⟨n,loc,[]⟩ (ag x.mode st) fun o fr st1=>(∀i,o≠.exit i)∧∃ds,jE P fr st1 x.fn.results.toList=some ds∧cP x.mode x.knul st st1 (rT ds)=some (d,af)):Ev P f args st d af:=
 Ev.of hq hf hp hb (by rw[DL];exact h)
theorem cO (k:IntKind) (n:Int):fH (.int k n)=.int k n:=rfl
theorem cn (b:Bool):fH (.bool b)=.bool b:=rfl
theorem cM (s:ByteArray):fH (.string s)=.str s.data.toList:=rfl
theorem cN:fH (.slice none 0 0)=.nul:=rfl
theorem cm:fH (.pointer none)=.pnil:=rfl
theorem bS:fH .nilFunc=.nilfn:=rfl
theorem bR:fH .nilIface=.nilif:=rfl
section
variable{P:Pv} {ops:Array Oper} {rest:List Oper} {n:Nat} {loc:List D} {tmp:List (Nat×D)} {st st1:St} {Q:Fr→St→Prop} {op:Op} {ty:TypeId} {p:String} {a:Array Edge} {g:Option (Nat×Bool)} {t:Nat} {d:D}
theorem aa (hb:Nat.ble n t=true) (d:D):Fr.put ⟨n,loc,tmp⟩ t d=⟨n,loc,(t,d)::tmp⟩:=by
 simp only[Fr.put,hb]
theorem Gp (hb:Nat.ble n t=false) (d:D):Fr.put ⟨n,loc,tmp⟩ t d=⟨n,loc.set t d,tmp⟩:=by
 simp only[Fr.put,hb]
theorem ab.T (hb:Nat.ble n t=true) (hg:aB ops ⟨n,loc,tmp⟩ ⟨some t,op,ty,p,a,g⟩=some true) (hc:ia op=false) (h1:dF P ⟨n,loc,tmp⟩ st op ty=some (d,st1))
  (h:ab P ops rest ⟨n,loc,(t,d)::tmp⟩ st1 Q):ab P ops (⟨some t,op,ty,p,a,g⟩::rest) ⟨n,loc,tmp⟩ st Q:=
 ab.op hg hc h1 (by show ab P ops rest (Fr.put _ t d) st1 Q;rw[aa hb];exact h)
theorem ab.L (hb:Nat.ble n t=false) (hg:aB ops ⟨n,loc,tmp⟩ ⟨some t,op,ty,p,a,g⟩=some true) (hc:ia op=false) (h1:dF P ⟨n,loc,tmp⟩ st op ty=some (d,st1))
  (h:ab P ops rest ⟨n,loc.set t d,tmp⟩ st1 Q):ab P ops (⟨some t,op,ty,p,a,g⟩::rest) ⟨n,loc,tmp⟩ st Q:=
 ab.op hg hc h1 (by show ab P ops rest (Fr.put _ t d) st1 Q;rw[Gp hb];exact h)
theorem ab.N {fr:Fr} (hg:aB ops fr ⟨none,op,ty,p,a,g⟩=some true) (hc:ia op=false) (h1:dF P fr st op ty=some (d,st1))
  (h:ab P ops rest fr st1 Q):ab P ops (⟨none,op,ty,p,a,g⟩::rest) fr st Q:=ab.op hg hc h1 h
theorem ab.Mt (hb:Nat.ble n t=true) (hg:aB ops ⟨n,loc,tmp⟩ ⟨some t,op,ty,p,a,g⟩=some false)
  (h:ab P ops rest ⟨n,loc,(t,.tup [])::tmp⟩ st Q):ab P ops (⟨some t,op,ty,p,a,g⟩::rest) ⟨n,loc,tmp⟩ st Q:=
 ab.off hg (by show ab P ops rest (Fr.put _ t _) st Q;rw[aa hb];exact h)
theorem ab.Mu (hb:Nat.ble n t=false) (hg:aB ops ⟨n,loc,tmp⟩ ⟨some t,op,ty,p,a,g⟩=some false)
  (h:ab P ops rest ⟨n,loc.set t (.tup []),tmp⟩ st Q):ab P ops (⟨some t,op,ty,p,a,g⟩::rest) ⟨n,loc,tmp⟩ st Q:=
 ab.off hg (by show ab P ops rest (Fr.put _ t _) st Q;rw[Gp hb];exact h)
theorem ab.GO {f gn:_} {iW:List D} {args:Array Operand} {vp:Array TypeId} (hb:Nat.ble n t=true) (hg:aB ops ⟨n,loc,tmp⟩ ⟨some t,.call ⟨.value f,args,vp⟩,ty,p,a,g⟩=some true) (hf:Fr.ev ⟨n,loc,tmp⟩ f=.fn gn iW)
  (h1:Ev P gn (args.toList.map (Fr.ev ⟨n,loc,tmp⟩)++iW) st d st1)
  (h:ab P ops rest ⟨n,loc,(t,d)::tmp⟩ st1 Q):ab P ops (⟨some t,.call ⟨.value f,args,vp⟩,ty,p,a,g⟩::rest) ⟨n,loc,tmp⟩ st Q:=
 ab.call hg hf h1 (by show ab P ops rest (Fr.put _ t d) st1 Q;rw[aa hb];exact h)
end
inductive Rows (st:St) (s:Nat):D→List (List D)→Prop where
 |nul:Rows st s .nul []
 |sl (es:List D) (h:∀e∈es,e.cells?=some e.cells∧e.cells.length=s):Rows st s (.sl es) (es.map D.cells)
 |win (k aA off:Nat) (es:List (List D)) (ar:Bool) (c:List D) (hm:st.ew k aA=some (ar,c)) (hl:off+es.length*s≤c.length)
   (he:∀(i:Nat) e,es[i]?=some e→(c.drop (off+i*s)).take s=e):Rows st s (.win k aA off es.length s) es
theorem Rows.uX {st:St} {s:Nat} {x:D} {es:List (List D)} (h:Rows st s x es):∀(i:Nat) e,es[i]?=some e→e.length=s:=by
 cases h with
 |nul=>intro i e h;simp at h
 |sl es h=>
  intro i e hi;rw[List.getElem?_map] at hi;obtain⟨d,hd,rfl⟩:=Option.map_eq_some_iff.1 hi;exact(h d (List.mem_of_getElem? hd)).2
 |win k aA off es ar c hm hl he=>
  intro i e hi
  have hlt:i<es.length:=by
   rcases Nat.lt_or_ge i es.length with h'|h'
   ·exact h'
   ·rw[List.getElem?_eq_none h'] at hi;cases hi
  rw[←he i e hi];have:(i+1)*s≤es.length*s:=Nat.mul_le_mul_right s hlt;rw[Nat.add_mul] at this
  simp;omega
theorem Rows.len {st:St} {s:Nat} {x:D} {es:List (List D)} (h:Rows st s x es):wE x=some es.length∧∀b,x≠.str b:=by
 cases h with
 |nul=>exact⟨rfl,fun b h=>by cases h⟩
 |sl es h=>exact⟨by simp[wE],fun b h=>by cases h⟩
 |win k aA off es ar c hm hl he=>exact⟨rfl,fun b h=>by cases h⟩
theorem Rows.Gq {P:Pv} {st:St} {s:Nat} {x:D} {es:List (List D)} (h:Rows st s x es) {t e:TypeId} (ht:P.cC t=some (.slice e)):
  ba P .len [t] [x] st=some (.int .i64 (es.length:Nat),st):=by
 obtain⟨h1,h2⟩:=h.len;simp only[ba,ht]
 cases x with
 |str b=>exact absurd rfl (h2 b)
 |_=>simp only[h1];rfl
theorem xR {P:Pv} {e:TypeId} {c c':List D} {s:Nat} {d:D} (hs:bV P e=some s) (hc:c.take s=c') (hl:c'.length=s) (h:di P e c'=some d):di P e c=some d:=by
 have hlen:s≤c.length:=by rw[←hc] at hl;simp at hl;omega
 unfold di at h⊢
 cases hu:P.cC e with
 |none=>rw[hu] at h;cases h
 |some u=>
  rw[hu] at h
  cases u with
  |struct f=>
   simp only[hs,Option.bind_some] at h⊢;rw[if_pos (by omega)] at h;rw[if_pos hlen,hc];rw[←h,List.take_of_length_le (by omega)]
  |array n f=>
   simp only[hs,Option.bind_some] at h⊢;rw[if_pos (by omega)] at h;rw[if_pos hlen,hc];rw[←h,List.take_of_length_le (by omega)]
  |_=>
   simp only at h⊢;rw[←h,←hc]
   cases c with
   |nil=>simp
   |cons x xs=>
    cases s with
    |zero=>simp at hc;subst hc;simp at h
    |succ s=>simp
theorem Rows.idx {P:Pv} {st:St} {s:Nat} {x:D} {es:List (List D)} (h:Rows st s x es) {t e:TypeId} (ht:P.cC t=some (.slice e)) (hs:bV P e=some s) {k:IntKind} {i:Int} {r:List D} (h0:0≤i) (hi:es[i.toNat]?=some r):
  ∃p,bM P t x (.int k i) st=some p∧∀d,di P e r=some d→fS P e p st=some d:=by
 cases h with
 |nul=>simp at hi
 |sl es h=>
  rw[List.getElem?_map] at hi;obtain⟨d,hd,rfl⟩:=Option.map_eq_some_iff.1 hi;obtain⟨h1,h2⟩:=h d (List.mem_of_getElem? hd);refine⟨.ep d.cells,?_,fun d' h=>h⟩;simp only[bM,ht,hs,Option.bind_some,if_pos h0,hd,h1,if_pos h2]
 |win k aA off es ar c hm hl he=>
  have hlt:i.toNat<es.length:=by
   rcases Nat.lt_or_ge i.toNat es.length with h'|h'
   ·exact h'
   ·rw[List.getElem?_eq_none h'] at hi;cases hi
  refine⟨.ptr k aA (off+i.toNat*s),?_,fun d' h=>?_⟩
  ·simp only[bM,ht,hs,Option.bind_some,hm,Option.isSome_some];rw[if_pos ⟨trivial,h0,by omega,trivial⟩]
  ·simp only[fS,hm,Option.bind_some];exact xR hs (he _ _ hi) (Rows.uX (.win k aA off es ar c hm hl he) _ _ hi) h
theorem ab.iG {P:Pv} {ops:Array Oper} {rest:List Oper} {n:Nat} {loc:List D} {tmp:List (Nat×D)} {st:St} {Q:Fr→St→Prop} {t e:TypeId} {xo io:Operand} {d1 d2:Nat} {PE og:TypeId} {p1 p2:String} {a1 a2:Array Edge} {g1 g2:Option (Nat×Bool)} {x:D} {k:IntKind} {i:Int} {s:Nat} {es:List (List D)} {r:List D} {d:D}
  (hb1:Nat.ble n d1=true) (hb2:Nat.ble n d2=true) (jV:aB ops ⟨n,loc,tmp⟩ ⟨some d1,.indexAddr t xo io,PE,p1,a1,g1⟩=some true) (ch:∀p,aB ops ⟨n,loc,(d1,p)::tmp⟩ ⟨some d2,.load e (.tmp d1),og,p2,a2,g2⟩=some true)
  (hx:Fr.ev ⟨n,loc,tmp⟩ xo=x) (hi:Fr.ev ⟨n,loc,tmp⟩ io=.int k i) (hR:Rows st s x es) (ht:P.cC t=some (.slice e)) (hs:bV P e=some s) (h0:0≤i) (hr:es[i.toNat]?=some r) (hd:di P e r=some d)
  (h:∀p,ab P ops rest ⟨n,loc,(d2,d)::(d1,p)::tmp⟩ st Q):ab P ops (⟨some d1,.indexAddr t xo io,PE,p1,a1,g1⟩::⟨some d2,.load e (.tmp d1),og,p2,a2,g2⟩::rest) ⟨n,loc,tmp⟩ st Q:=by
 obtain⟨p,h1,h2⟩:=hR.idx ht hs (k:=k) h0 hr;refine ab.T hb1 jV rfl (d:=p) (st1:=st) (by simp only[dF,hx,hi,h1,Option.map_some])<|ab.T hb2 (ch p) rfl (d:=d) (st1:=st) ?_ (h p)
 have:Fr.ev ⟨n,loc,(d1,p)::tmp⟩ (.tmp d1)=p:=by
  simp only[Fr.ev,Fr.get,hb1,look];have:Nat.beq d1 d1=true:=Nat.beq_refl d1;rw[this]
 simp only[dF,this,h2 d hd,Option.map_some]
def byteCells (b:List UInt8):List (List D):=b.map fun y=>[.int .u8 (y.toNat:Nat)]
def Bytes (st:St) (x:D) (b:List UInt8):Prop:=Rows st 1 x (byteCells b)
theorem bu {m:Mode} {kn:Bool} {st st1:St} {d d':D} (hm:m≠.bO∧m≠.nw) (h1:st1.bs.take st.bs.length=st.bs) (hd:bo st1 st.bs.length kn 16 d=some d'):cP m kn st st1 d=some (d',st):=by
 cases m with
 |bO=>exact absurd rfl hm.1
 |nw=>exact absurd rfl hm.2
 |_=>simp only[cP,hd,h1]
end Go.V
namespace Go.V
structure Ex (N:Nat) (st af:St):Prop where
 low:∀k,k<N→af.bs[k]?=st.bs[k]?
 len:st.bs.length≤af.bs.length
 flr:af.flr=st.flr
 ro:af.ro=st.ro
theorem Ex.refl (N:Nat) (st:St):Ex N st st:=⟨fun _ _=>rfl,Nat.le_refl _,rfl,rfl⟩
theorem Ex.trans {N:Nat} {a b c:St} (h:Ex N a b) (g:Ex N b c):Ex N a c:=
 ⟨fun k hk=>(g.low k hk).trans (h.low k hk),Nat.le_trans h.len g.len,g.flr.trans h.flr,g.ro.trans h.ro⟩
theorem Ex.push {N:Nat} {st:St} (h:N≤st.bs.length) (b:iC):Ex N st (st.push b):=
 ⟨fun k hk=>by simp only[St.push];rw[List.getElem?_append_left (by omega)],by simp[St.push],rfl,rfl⟩
theorem Ex.set {N:Nat} {st:St} {k:Nat} (h:N≤k) (b:iC):Ex N st {st with bs:=st.bs.set k b}:=
 ⟨fun j hj=>by simp only;rw[List.getElem?_set_ne (by omega)],by simp,rfl,rfl⟩
theorem Ex.take {N:Nat} {st af:St} (h:Ex N st af) (hN:N=st.bs.length):af.bs.take N=st.bs:=by
 apply List.ext_getElem?;intro k;rw[List.getElem?_take]
 split
 ·exact h.low k (by assumption)
 ·rw[List.getElem?_eq_none (by omega)]
theorem Ex.mem {N:Nat} {st af:St} (h:Ex N st af) {k v:Nat} (hk:k<N):af.ew k v=st.ew k v:=by
 simp only[St.ew,h.low k hk]
theorem Rows.ex {N:Nat} {st af:St} (h:Ex N st af) {s:Nat} {x:D} {es:List (List D)} (hr:Rows st s x es) (hx:x.ref≤N):Rows af s x es:=by
 cases hr with
 |nul=>exact .nul
 |sl es h=>exact .sl es h
 |win k aA off es ar c hm hl he=>exact .win k aA off es ar c (by rw[h.mem (by simp only[D.ref] at hx;omega)];exact hm) hl he
theorem Rows.slice {P:Pv} {st:St} {s:Nat} {x:D} {es:List (List D)} (h:Rows st s x es) {t e:TypeId} (ht:P.cC t=some (.slice e)) (hs:bV P e=some s) {lo hi:Option D} {l r:Nat} (hb:dh es.length lo hi=some (l,r)) (xJ:l≤r∧r≤es.length):
  ∃y,gy P t x lo hi st=some y∧Rows st s y ((es.take r).drop l)∧y.ref≤x.ref:=by
 cases h with
 |nul=>
  refine⟨.nul,?_,?_,Nat.le_refl _⟩
  ·simp only[gy,ht,hs,Option.bind_some];simp only[List.length_nil] at hb;rw[hb];rfl
  ·simp;exact .nul
 |sl es h=>
  refine⟨.sl ((es.take r).drop l),?_,?_,by simp[D.ref]⟩
  ·simp only[gy,ht,hs,Option.bind_some]
   have:rk s es=true:=by
    cases es with
    |nil=>rfl
    |cons e es=>obtain⟨h1,h2⟩:=h e (List.mem_cons_self ..);simp[rk,h1,h2]
   rw[if_pos this];simp only[List.length_map] at hb;rw[hb];rfl
  ·have:=Rows.sl (st:=st) (s:=s) ((es.take r).drop l) fun e he=>h e (List.mem_of_mem_take (List.mem_of_mem_drop he))
   simpa[List.map_drop,List.map_take] using this
 |win k aA off es ar c hm hl he=>
  have hlen:((es.take r).drop l).length=r-l:=by simp;omega
  refine⟨.win k aA (off+l*s) (r-l) s,?_,?_,by simp[D.ref]⟩
  ·simp only[gy,ht,hs,Option.bind_some,if_true,hb];rfl
  ·have h1:l*s+(r-l)*s≤es.length*s:=by rw[←Nat.add_mul];exact Nat.mul_le_mul_right s (by omega)
   have:=Rows.win (st:=st) (s:=s) k aA (off+l*s) ((es.take r).drop l) ar c hm (by rw[hlen];omega) (fun i e hi=>by
    rw[List.getElem?_drop,List.getElem?_take] at hi
    split at hi
    ·have:=he _ _ hi;rw[←this,Nat.add_mul];congr 2;omega
    ·cases hi)
   rwa [hlen] at this
inductive Acc (N:Nat) (st:St) (s:Nat):D→List (List D)→Prop where
 |nul:Acc N st s .nul []
 |win (k aA:Nat) (es:List (List D)) (hN:N≤k) (hm:st.bs[k]?=some (.mem aA true es.flatten)) (he:∀e∈es,e.length=s):Acc N st s (.win k aA 0 es.length s) es
theorem cH {s:Nat}:∀{es:List (List D)},(∀e∈es,e.length=s)→es.flatten.length=es.length*s
 |[],_=>by simp
 |e::es,h=>by
  have:=cH (s:=s) (es:=es) fun x hx=>h x (List.mem_cons_of_mem _ hx);simp only[List.flatten_cons,List.length_append,List.length_cons,this,h e (List.mem_cons_self ..)];rw[Nat.add_mul];omega
theorem lq {s:Nat}:∀{es:List (List D)},(∀e∈es,e.length=s)→∀(i:Nat) e,es[i]?=some e→(es.flatten.drop (i*s)).take s=e
 |[],_,i,e,h=>by simp at h
 |x::es,h,0,e,hi=>by
  simp at hi;subst hi;have:=h x (List.mem_cons_self ..);simp[List.take_left' this]
 |x::es,h,i+1,e,hi=>by
  simp only[List.getElem?_cons_succ] at hi;have hx:=h x (List.mem_cons_self ..);have:=lq (s:=s) (es:=es) (fun y hy=>h y (List.mem_cons_of_mem _ hy)) i e hi;rw[←this,List.flatten_cons,Nat.add_mul,Nat.one_mul,Nat.add_comm,←hx,←List.drop_drop,List.drop_left]
theorem St.mem_of {st:St} {k aA:Nat} {ar:Bool} {c:List D} (h:st.bs[k]?=some (.mem aA ar c)):st.ew k aA=some (ar,c):=by
 simp only[St.ew,h,if_true]
theorem Acc.rows {N:Nat} {st:St} {s:Nat} {x:D} {es:List (List D)} (h:Acc N st s x es):Rows st s x es:=by
 cases h with
 |nul=>exact .nul
 |win k aA es hN hm he=>
  exact .win k aA 0 es true es.flatten (St.mem_of hm) (by rw[cH he];omega) fun i e hi=>by rw[Nat.zero_add];exact lq he i e hi
theorem Acc.ex {N M:Nat} {st af:St} (h:Ex M st af) {s:Nat} {x:D} {es:List (List D)} (hr:Acc N st s x es) (hx:x.ref≤M):Acc N af s x es:=by
 cases hr with
 |nul=>exact .nul
 |win k aA es hN hm he=>exact .win k aA es hN (by rw[h.low k (by simp only[D.ref] at hx;omega)];exact hm) he
theorem Acc.push {N:Nat} {st:St} {s:Nat} {x:D} {es:List (List D)} (hr:Acc N st s x es) (b:iC):Acc N (st.push b) s x es:=by
 cases hr with
 |nul=>exact .nul
 |win k aA es hN hm he=>
  refine .win k aA es hN ?_ he;simp only[St.push];rw[List.getElem?_append_left];exact hm
  rcases Nat.lt_or_ge k st.bs.length with h'|h'
  ·exact h'
  ·rw[List.getElem?_eq_none h'] at hm;cases hm
theorem Rows.row {st:St} {s:Nat} {x:D} {es:List (List D)} (h:Rows st s x es):pI st x=some (es.length,es.flatten):=by
 have hl:=h.uX
 cases h with
 |nul=>rfl
 |sl es h=>
  simp only[pI,List.length_map];rw[List.flatMap_def]
 |win k aA off es ar c hm gS he=>
  simp only[pI,hm,Option.bind_some,if_pos gS]
  congr 2
  have key:∀(es:List (List D)) (c:List D),es.length*s≤c.length→(∀(i:Nat) e,es[i]?=some e→(c.drop (i*s)).take s=e)→c.take (es.length*s)=es.flatten:=by
   intro es
   induction es with
   |nil=>intro c _ _;simp
   |cons e es ih=>
    intro c hc hx;have h0:=hx 0 e rfl;simp only[Nat.zero_mul,List.drop_zero] at h0;rw[List.flatten_cons,List.length_cons,Nat.add_mul,Nat.one_mul,Nat.add_comm,List.take_add,h0]
    congr 1
    simp only[List.length_cons,Nat.add_mul,Nat.one_mul] at hc;refine ih (c.drop s) (by simp;omega) fun i e hi=>?_;rw[List.drop_drop,←hx (i+1) e (by simpa using hi),Nat.add_mul,Nat.one_mul,Nat.add_comm]
  refine key es (c.drop off) (by simp;omega) fun i e hi=>?_;rw[List.drop_drop];exact he i e hi
theorem Acc.append {P:Pv} {N:Nat} {st:St} {s:Nat} {x y:D} {es ys:List (List D)} (hr:Acc N st s x es) (hy:Rows st s y ys) {t1 t2 e:TypeId} {td:TypeDesc} {inf:TypeInfo} {z:List D}
  (h1:P.cC t1=some (.slice e)) (h2:P.cC t2=some td) (h3:ga td=false) (h4:P.info e=some inf) (h5:de P e=some z) (h6:inf.size=s) (h7:z.length=s) (h8:inf.bytes≠0)
  (hN:N≤st.bs.length) (hf:st.flr≤N) (gb:st.ro≤N) (hb:(es.length+ys.length)*inf.bytes≤1099511627776):
  ∃x' af,ba P .append [t1,t2] [x,y] st=some (x',af)∧Acc N af s x' (es++ys)∧Ex N st af∧x'.ref≤af.bs.length∧(∀k,k<st.bs.length→k+1≠x.ref→af.bs[k]?=st.bs[k]?)∧(x'.ref=x.ref∨st.bs.length<x'.ref):=by
 have jZ:=hy.row
 have DC:∀e∈ys,e.length=s:=fun e he=>by
  obtain⟨i,hi⟩:=List.getElem?_of_mem he;exact hy.uX i e hi
 have oT:=cH DC;subst h6;simp only[ba,gN,h1,h2,h3,Bool.false_eq_true,if_false,h4,h5,jZ,Option.bind_some];rw[if_neg (by rintro(h|h|h);exact h oT;exact h8 h;exact h h7)]
 cases hr with
 |nul=>
  simp only[List.nil_append]
  by_cases h0:ys.length=0
  ·rw[if_pos h0]
   have:ys=[]:=by cases ys with|nil=>rfl|cons _ _=>simp at h0
   subst this;exact⟨.nul,st,rfl,.nul,Ex.refl _ _,by simp[D.ref],fun _ _ _=>rfl,.inl rfl⟩
  ·rw[if_neg h0,if_pos (by simpa using hb)];refine⟨_,_,rfl,?_,Ex.push hN _,by simp[D.ref,St.push],fun k hk _=>by simp only[St.push];rw[List.getElem?_append_left hk],.inr (by simp[D.ref])⟩;exact .win _ _ ys hN (by simp[St.push]) DC
 |win k aA es hk hm he=>
  have ir:k<st.bs.length:=by
   rcases Nat.lt_or_ge k st.bs.length with h'|h'
   ·exact h'
   ·rw[List.getElem?_eq_none h'] at hm;cases hm
  simp only[St.mem_of hm];rw[if_neg (by rintro(h|h);exact h rfl;rw[cH he] at h;omega)]
  by_cases h0:ys.length=0
  ·rw[if_pos h0]
   have:ys=[]:=by cases ys with|nil=>rfl|cons _ _=>simp at h0
   subst this;simp only[List.append_nil];exact⟨_,st,rfl,.win k aA es hk hm he,Ex.refl _ _,by simp only[D.ref];omega,fun _ _ _=>rfl,.inl rfl⟩
  ·rw[if_neg h0,if_pos ⟨hb,by simp only[St.lC,Bool.and_eq_true,Bool.or_eq_true,decide_eq_true_eq];exact⟨by omega,.inl (by omega)⟩⟩];refine⟨_,_,rfl,?_,Ex.set hk _,by simp only[D.ref,List.length_set];omega,fun j hj hne=>by simp only;rw[List.getElem?_set_ne (by simp only[D.ref] at hne;omega)],.inl rfl⟩
   have:(es.flatten.take (0+es.length*inf.size)).drop 0++ys.flatten=(es++ys).flatten:=by
    rw[Nat.zero_add,←cH he,List.take_length,List.drop_zero,List.flatten_append]
   rw[this];have vg:es.length+ys.length=(es++ys).length:=by simp
   rw[vg]
   exact .win k (aA+1) (es++ys) hk (by simp[ir]) fun e h=>by
    rcases List.mem_append.1 h with h|h
    ·exact he e h
    ·exact DC e h
def cv:D→Bool
 | .bool _| .int _ _| .str _| .sl _=>true
 |_=>false
theorem jH {st:St} {N n:Nat}:∀{l:List D},(∀d∈l,cv d=true)→iv (ez st N (n+1)) l=some l
 |[],_=>rfl
 |d::l,h=>by
  have h1:=h d (List.mem_cons_self ..);have h2:=jH (st:=st) (N:=N) (n:=n) fun x hx=>h x (List.mem_cons_of_mem _ hx);have h3:ez st N (n+1) d=some d:=by cases d<;>simp[cv] at h1<;>rfl
  simp only[iv,h3,h2]
def j7 (s:Nat) (e:List D):D:=match s with|1=>e.headD .bh|_=>.agg e
theorem gf {s:Nat}:∀{es:List (List D)},(∀e∈es,e.length=s)→chunk s es.length es.flatten=es.map (j7 s)
 |[],_=>rfl
 |e::es,h=>by
  have he:=h e (List.mem_cons_self ..);have ih:=gf (s:=s) (es:=es) fun x hx=>h x (List.mem_cons_of_mem _ hx);simp only[List.length_cons,chunk,List.flatten_cons,List.map_cons]
  congr 1
  ·by_cases hs:s=1
   ·subst hs
    cases e with
    |nil=>simp at he
    |cons x xs=>simp[j7]
   ·have h1:j7 s e=.agg e:=by unfold j7;split;exact absurd rfl hs;rfl
    have h2:(match s with|1=>(e++es.flatten).headD .bh|_=>D.agg ((e++es.flatten).take s))=.agg e:=by
     split
     ·exact absurd rfl hs
     ·rw[List.take_left' he]
    rw[h1];exact h2
  ·rw[List.drop_left' he];exact ih
theorem Acc.freeze {N:Nat} {st:St} {s:Nat} {x:D} {es:List (List D)} (h:Acc N st s x es) (hp:∀e∈es,∀d∈e,cv d=true) {n:Nat} (hn:2≤n):bo st N false (n+1) x=some (.sl (es.map (j7 s))):=by
 obtain⟨n,rfl⟩:∃m,n=m+2:=⟨n-2,by omega⟩
 cases h with
 |nul=>rfl
 |win k aA es hN hm he=>
  show(if k<N then some (D.win k aA 0 es.length s) else ez st N (n+2) (.win k aA 0 es.length s))=_;rw[if_neg (show¬k<N by omega),ez];simp only[if_neg (show¬k<N by omega),St.mem_of hm,Option.bind_some];rw[if_pos (by rw[cH he];omega)];have:(es.flatten.drop 0).take (es.length*s)=es.flatten:=by rw[List.drop_zero,←cH he,List.take_length]
  rw[this,jH (fun d hd=>by
   obtain⟨e,pb,Ao⟩:=List.mem_flatten.1 hd
   exact hp e pb d Ao)]
  simp only[Option.map_some,gf he]
theorem lv {s:Nat} {e:List D} (h:e.length=s) (hp:∀d∈e,cv d=true):(j7 s e).cells?=some (j7 s e).cells∧(j7 s e).cells=e:=by
 by_cases hs:s=1
 ·subst hs
  match e,h with
  |[x],_=>
   have:=hp x (List.mem_cons_self ..);cases x<;>simp[cv] at this<;>exact⟨rfl,rfl⟩
 ·have:j7 s e=.agg e:=by unfold j7;split;exact absurd rfl hs;rfl
  rw[this];exact⟨rfl,rfl⟩
theorem Rows.wh {st:St} {s:Nat} {es:List (List D)} (h:∀e∈es,e.length=s) (hp:∀e∈es,∀d∈e,cv d=true):Rows st s (.sl (es.map (j7 s))) es:=by
 have:=Rows.sl (st:=st) (s:=s) (es.map (j7 s)) fun d hd=>by
  obtain⟨e,he,rfl⟩:=List.mem_map.1 hd;obtain⟨h1,h2⟩:=lv (h e he) (hp e he);exact⟨h1,by rw[h2];exact h e he⟩
 have h2:(es.map (j7 s)).map D.cells=es:=by
  rw[List.map_map]
  conv=>rhs;rw[←List.map_id es]
  refine List.map_congr_left fun e he=>?_;exact(lv (h e he) (hp e he)).2
 rwa [h2] at this
theorem Rows.bs {st af:St} (h:af.bs=st.bs) {s:Nat} {x:D} {es:List (List D)} (hr:Rows st s x es):Rows af s x es:=by
 cases hr with
 |nul=>exact .nul
 |sl es h=>exact .sl es h
 |win k aA off es ar c hm hl he=>exact .win k aA off es ar c (by simp only[St.ew,h] at hm⊢;exact hm) hl he
theorem Ef (m:Mode) (st:St):(ag m st).bs=st.bs:=by cases m<;>rfl
theorem Rows.enter {st:St} {s:Nat} {x:D} {es:List (List D)} (m:Mode) (hr:Rows st s x es):Rows (ag m st) s x es:=hr.bs (Ef m st)
theorem eK {k:IntKind} {m:Nat} (h:m≤lQ k):bz k (m:Int)=m:=by
 show bz k (.ofNat m)=_;unfold bz;simp only[Nat.ble_eq_true_of_le h];rfl
theorem wrap_i64 {n : Int} (h1 : -9223372036854775808 ≤ n) (h2 : n ≤ 9223372036854775807) : bz .i64 n = n := by
  cases n with
  | ofNat m => exact eK (k := .i64) (m := m) (by simp only [lQ]; have : (Int.ofNat m) = (m : Int) := rfl; omega)
  | negSucc m =>
    unfold bz
    have : Nat.ble (uq .i64) m = false := by
      cases hb : Nat.ble (uq .i64) m with
      | false => rfl
      | true => have := Nat.le_of_ble_eq_true hb; simp only [uq] at this; have : Int.negSucc m = -(m : Int) - 1 := by omega
                omega
    simp only [this]
theorem bv_and {w a b:Nat} (ha:a<2^w) (hb:b<2^w):(BitVec.ofInt w (a:Int) &&&BitVec.ofInt w (b:Int)).toNat=a &&&b:=by
 rw[BitVec.ofInt_natCast,BitVec.ofInt_natCast,BitVec.toNat_and,BitVec.toNat_ofNat,BitVec.toNat_ofNat,Nat.mod_eq_of_lt ha,Nat.mod_eq_of_lt hb]
theorem Ll {w a b:Nat} (ha:a<2^w) (hb:b<2^w):(BitVec.ofInt w (a:Int)|||BitVec.ofInt w (b:Int)).toNat=a|||b:=by
 rw[BitVec.ofInt_natCast,BitVec.ofInt_natCast,BitVec.toNat_or,BitVec.toNat_ofNat,BitVec.toNat_ofNat,Nat.mod_eq_of_lt ha,Nat.mod_eq_of_lt hb]
end Go.V
namespace Go.V
variable{P:Pv} {ops:Array Oper} {rest:List Oper} {n:Nat} {loc:List D} {tmp:List (Nat×D)} {st:St} {Q:Fr→St→Prop} {ty:TypeId} {p:String} {a:Array Edge} {g:Option (Nat×Bool)} {dst:Nat}
theorem ab.len {t e:TypeId} {xo:Operand} {x:D} {s:Nat} {es:List (List D)} (rn:Nat.ble n dst=true) (hg:aB ops ⟨n,loc,tmp⟩ ⟨some dst,.call ⟨.builtin .len,#[xo],#[t]⟩,ty,p,a,g⟩=some true) (hx:Fr.ev ⟨n,loc,tmp⟩ xo=x) (hR:Rows st s x es) (ht:P.cC t=some (.slice e))
  (h:ab P ops rest ⟨n,loc,(dst,(.int .i64 (es.length:Nat)))::tmp⟩ st Q):ab P ops (⟨some dst,.call ⟨.builtin .len,#[xo],#[t]⟩,ty,p,a,g⟩::rest) ⟨n,loc,tmp⟩ st Q:=by
 refine ab.T rn hg rfl (d:=.int .i64 (es.length:Nat)) (st1:=st) ?_ h;simp only[dF,List.map_cons,List.map_nil,hx];exact hR.Gq ht
theorem ab.slice {t e:TypeId} {xo:Operand} {lo hi:Option Operand} {x:D} {s:Nat} {es:List (List D)} {l r:Nat} (rn:Nat.ble n dst=true) (hg:aB ops ⟨n,loc,tmp⟩ ⟨some dst,.slice t xo lo hi none,ty,p,a,g⟩=some true) (hx:Fr.ev ⟨n,loc,tmp⟩ xo=x) (hR:Rows st s x es) (ht:P.cC t=some (.slice e)) (hs:bV P e=some s)
  (hb:dh es.length (lo.map (Fr.ev ⟨n,loc,tmp⟩)) (hi.map (Fr.ev ⟨n,loc,tmp⟩))=some (l,r)) (xJ:l≤r∧r≤es.length)
  (h:∀y,Rows st s y ((es.take r).drop l)→y.ref≤x.ref→ab P ops rest ⟨n,loc,(dst,y)::tmp⟩ st Q):ab P ops (⟨some dst,.slice t xo lo hi none,ty,p,a,g⟩::rest) ⟨n,loc,tmp⟩ st Q:=by
 obtain⟨y,h1,h2,h3⟩:=hR.slice ht hs hb xJ;refine ab.T rn hg rfl (d:=y) (st1:=st) ?_ (h y h2 h3);simp only[dF,hx,h1,Option.map_some]
theorem ab.append {N:Nat} {t1 t2 e:TypeId} {td:TypeDesc} {inf:TypeInfo} {z:List D} {xo yo:Operand} {x y:D} {s:Nat} {es ys:List (List D)} (rn:Nat.ble n dst=true) (hg:aB ops ⟨n,loc,tmp⟩ ⟨some dst,.call ⟨.builtin .append,#[xo,yo],#[t1,t2]⟩,ty,p,a,g⟩=some true)
  (hx:Fr.ev ⟨n,loc,tmp⟩ xo=x) (hy:Fr.ev ⟨n,loc,tmp⟩ yo=y) (hr:Acc N st s x es) (j6:Rows st s y ys)
  (h1:P.cC t1=some (.slice e)) (h2:P.cC t2=some td) (h3:ga td=false) (h4:P.info e=some inf) (h5:de P e=some z) (h6:inf.size=s) (h7:z.length=s) (h8:inf.bytes≠0)
  (hN:N≤st.bs.length) (hf:st.flr≤N) (gb:st.ro≤N) (hb:(es.length+ys.length)*inf.bytes≤1099511627776)
  (h:∀x' af,Acc N af s x' (es++ys)→Ex N st af→x'.ref≤af.bs.length→(∀k,k<st.bs.length→k+1≠x.ref→af.bs[k]?=st.bs[k]?)→(x'.ref=x.ref∨st.bs.length<x'.ref)→ab P ops rest ⟨n,loc,(dst,x')::tmp⟩ af Q):
  ab P ops (⟨some dst,.call ⟨.builtin .append,#[xo,yo],#[t1,t2]⟩,ty,p,a,g⟩::rest) ⟨n,loc,tmp⟩ st Q:=by
 obtain⟨x',af,q1,q2,q3,q4,q5,q6⟩:=hr.append j6 h1 h2 h3 h4 h5 h6 h7 h8 hN hf gb hb;refine ab.T rn hg rfl (d:=x') (st1:=af) ?_ (h x' af q2 q3 q4 q5 q6);simp only[dF,List.map_cons,List.map_nil,hx,hy];exact q1
theorem Rows.one {st:St} {s:Nat} {c:List D} (hc:c.length=s):Rows (st.push (.mem 0 true c)) s (.win st.bs.length 0 0 1 s) [c]:=by
 have:=Rows.win (st:=st.push (.mem 0 true c)) (s:=s) st.bs.length 0 0 [c] true c (St.mem_of (by simp[St.push])) (by simp[hc]) fun i e hi=>by
  cases i with
  |zero=>simp at hi;subst hi;simp[←hc]
  |succ i=>simp at hi
 exact this
theorem Rows.ref {st:St} {s:Nat} {x:D} {es:List (List D)} (h:Rows st s x es):x.ref≤st.bs.length:=by
 cases h with
 |nul=>simp[D.ref]
 |sl es h=>simp[D.ref]
 |win k aA off es ar c hm hl he=>
  simp only[D.ref]
  rcases Nat.lt_or_ge k st.bs.length with h'|h'
  ·exact h'
  ·simp only[St.ew,List.getElem?_eq_none h'] at hm;cases hm
theorem Acc.ref {N:Nat} {st:St} {s:Nat} {x:D} {es:List (List D)} (h:Acc N st s x es):x.ref≤st.bs.length:=h.rows.ref
end Go.V
namespace Go.V
theorem fW:∀(xs c:List D) (off:Nat),off+xs.length≤c.length→setMany c off xs=c.take off++xs++c.drop (off+xs.length)
 |[],c,off,h=>by simp[setMany]
 |x::xs,c,off,h=>by
  simp only[setMany];simp only[List.length_cons] at h;rw[fW xs (c.set off x) (off+1) (by simp;omega)]
  have h1:(c.set off x).take (off+1)=c.take off++[x]:=by
   rw[List.take_set,List.take_add_one,List.getElem?_eq_getElem (by omega:off<c.length)];simp only[Option.toList_some];rw[List.set_append_right _ _ (by simp;omega)];have:off-(c.take off).length=0:=by simp;omega
   rw[this];rfl
  have h2:(c.set off x).drop (off+1+xs.length)=c.drop (off+(xs.length+1)):=by
   rw[List.drop_set_of_lt (by omega)];congr 1;omega
  rw[h1,h2];simp[List.length_cons]
theorem ua (st:St) (b:iC):(st.push b).bs[st.bs.length]?=some b:=by simp[St.push]
variable{P:Pv} {ops:Array Oper} {rest:List Oper} {n:Nat} {loc:List D} {tmp:List (Nat×D)} {st:St} {Q:Fr→St→Prop} {ty:TypeId} {p:String} {a:Array Edge} {g:Option (Nat×Bool)} {dst:Nat}
theorem ab.makeSlice {t e:TypeId} {lo co:Operand} {k1 k2:IntKind} {m:Nat} {inf:TypeInfo} {z:List D} (rn:Nat.ble n dst=true) (hg:aB ops ⟨n,loc,tmp⟩ ⟨some dst,.makeSlice t lo co,ty,p,a,g⟩=some true)
  (hl:Fr.ev ⟨n,loc,tmp⟩ lo=.int k1 (m:Nat)) (hc:Fr.ev ⟨n,loc,tmp⟩ co=.int k2 (m:Nat)) (ht:P.cC t=some (.slice e)) (hi:P.info e=some inf) (hz:de P e=some z) (ln:z.length=inf.size) (hm:m*inf.bytes≤140737488355328) (LC:m≤9223372036854775807)
  (h:ab P ops rest ⟨n,loc,(dst,.win st.bs.length 0 0 m inf.size)::tmp⟩ (st.push (.mem 0 true (eu m z))) Q):ab P ops (⟨some dst,.makeSlice t lo co,ty,p,a,g⟩::rest) ⟨n,loc,tmp⟩ st Q:=by
 refine ab.T rn hg rfl (d:=.win st.bs.length 0 0 m inf.size) (st1:=st.push (.mem 0 true (eu m z))) ?_ h;simp only[dF,hl,hc,fZ,ht,hi,hz,Option.bind_some];rw[if_pos ⟨ln,by omega,by omega,by omega,by rw[←Int.natCast_mul];omega⟩]
 rfl
theorem lH {k aA off:Nat} {ar:Bool} {c cs:List D} (hm:st.bs[k]?=some (.mem aA ar c)) (hl:off+cs.length≤c.length) (hw:st.lC k (refs cs)=true):st.wr k aA off cs=some {st with bs:=st.bs.set k (.mem aA ar (c.take off++cs++c.drop (off+cs.length)))}:=by
 simp only[St.wr,St.mem_of hm];rw[if_pos ⟨hl,hw⟩,fW _ _ _ hl]
theorem ab.copy {t1 t2 e:TypeId} {Pk so:Operand} {k aA off len s:Nat} {y:D} {ys:List (List D)} {ar:Bool} {c:List D} (rn:Nat.ble n dst=true) (hg:aB ops ⟨n,loc,tmp⟩ ⟨some dst,.call ⟨.builtin .copy,#[Pk,so],#[t1,t2]⟩,ty,p,a,g⟩=some true)
  (hd:Fr.ev ⟨n,loc,tmp⟩ Pk=.win k aA off len s) (hy:Fr.ev ⟨n,loc,tmp⟩ so=y) (hR:Rows st s y ys) (ht:P.cC t1=some (.slice e)) (hs:bV P e=some s) (hm:st.bs[k]?=some (.mem aA ar c)) (hl:off+len*s≤c.length)
  (hw:st.lC k (refs (ys.flatten.take (min ys.length len*s)))=true)
  (h:ab P ops rest ⟨n,loc,(dst,.int .i64 (min ys.length len:Nat))::tmp⟩ {st with bs:=st.bs.set k (.mem aA ar (c.take off++ys.flatten.take (min ys.length len*s)++c.drop (off+min ys.length len*s)))} Q):
  ab P ops (⟨some dst,.call ⟨.builtin .copy,#[Pk,so],#[t1,t2]⟩,ty,p,a,g⟩::rest) ⟨n,loc,tmp⟩ st Q:=by
 have DC:∀e∈ys,e.length=s:=fun e he=>by
  obtain⟨i,hi⟩:=List.getElem?_of_mem he;exact hR.uX i e hi
 have oT:=cH DC;have FW:min ys.length len*s≤ys.length*s:=Nat.mul_le_mul_right s (Nat.min_le_left _ _);have Qd:min ys.length len*s≤len*s:=Nat.mul_le_mul_right s (Nat.min_le_right _ _);have tf:(ys.flatten.take (min ys.length len*s)).length=min ys.length len*s:=by rw[List.length_take,oT];omega
 refine ab.T rn hg rfl (d:=.int .i64 (min ys.length len:Nat)) (st1:={st with bs:=st.bs.set k (.mem aA ar (c.take off++ys.flatten.take (min ys.length len*s)++c.drop (off+min ys.length len*s)))}) ?_ h;simp only[dF,List.map_cons,List.map_nil,hd,hy,ba,tx,ht,hs,Option.bind_some,hR.row];rw[if_neg (by simp[oT])];simp only[ne_eq,not_true_eq_false,if_false];have:=lH (st:=st) hm (cs:=ys.flatten.take (min ys.length len*s)) (off:=off) (by rw[tf];omega) hw;rw[this,tf];rfl
theorem ab.store {fr:Fr} {t:TypeId} {ao vo:Operand} {k aA off:Nat} {v:D} {cs:List D} {ar:Bool} {c:List D} (hg:aB ops fr ⟨none,.store t ao vo,ty,p,a,g⟩=some true) (ha:fr.ev ao=.ptr k aA off) (hv:fr.ev vo=v)
  (i_:v.cells?=some cs) (hs:bV P t=some cs.length) (hm:st.bs[k]?=some (.mem aA ar c)) (hl:off+cs.length≤c.length) (hw:st.lC k (refs cs)=true)
  (h:ab P ops rest fr {st with bs:=st.bs.set k (.mem aA ar (c.take off++cs++c.drop (off+cs.length)))} Q):ab P ops (⟨none,.store t ao vo,ty,p,a,g⟩::rest) fr st Q:=by
 refine ab.N hg rfl (d:=.tup []) (st1:=_) ?_ h;simp only[dF,ha,hv,j_,i_,hs];rw[if_pos trivial,lH hm hl hw];rfl
theorem ab.load {t:TypeId} {ao:Operand} {k aA off:Nat} {d:D} {ar:Bool} {c:List D} (rn:Nat.ble n dst=true) (hg:aB ops ⟨n,loc,tmp⟩ ⟨some dst,.load t ao,ty,p,a,g⟩=some true) (ha:Fr.ev ⟨n,loc,tmp⟩ ao=.ptr k aA off)
  (hm:st.bs[k]?=some (.mem aA ar c)) (hd:di P t (c.drop off)=some d)
  (h:ab P ops rest ⟨n,loc,(dst,d)::tmp⟩ st Q):ab P ops (⟨some dst,.load t ao,ty,p,a,g⟩::rest) ⟨n,loc,tmp⟩ st Q:=by
 refine ab.T rn hg rfl (d:=d) (st1:=st) ?_ h;simp only[dF,ha,fS,St.mem_of hm,Option.bind_some,hd,Option.map_some]
theorem ab.next {io:Operand} {k pos:Nat} {b:List UInt8} (rn:Nat.ble n dst=true) (hg:aB ops ⟨n,loc,tmp⟩ ⟨some dst,.next io true,ty,p,a,g⟩=some true) (hx:Fr.ev ⟨n,loc,tmp⟩ io=.ptr k 0 0) (hm:st.bs[k]?=some (.iter b pos)) (hp:pos<b.length) (hw:st.lC k 0=true)
  (h:ab P ops rest ⟨n,loc,(dst,.tup [.bool true,.int .i64 (pos:Nat),.int .i32 ((Utf8.decode ⟨b.toArray⟩ pos).1:Nat)])::tmp⟩ {st with bs:=st.bs.set k (.iter b (pos+(Utf8.decode ⟨b.toArray⟩ pos).2))} Q):ab P ops (⟨some dst,.next io true,ty,p,a,g⟩::rest) ⟨n,loc,tmp⟩ st Q:=by
 refine ab.T rn hg rfl (d:=.tup [.bool true,.int .i64 (pos:Nat),.int .i32 ((Utf8.decode ⟨b.toArray⟩ pos).1:Nat)]) (st1:={st with bs:=st.bs.set k (.iter b (pos+(Utf8.decode ⟨b.toArray⟩ pos).2))}) ?_ h;simp only[dF,hx,sN,hm,if_pos hp,hw,if_true]
structure GV (N k:Nat) (st af:St):Prop where
 low:∀i,i<N→i≠k→af.bs[i]?=st.bs[i]?
 len:st.bs.length≤af.bs.length
 flr:af.flr=st.flr
 ro:af.ro=st.ro
theorem GV.of {N k:Nat} {a b c:St} (h:GV N k a b) (g:Ex N b c):GV N k a c:=
 ⟨fun i hi hk=>(g.low i hi).trans (h.low i hi hk),Nat.le_trans h.len g.len,g.flr.trans h.flr,g.ro.trans h.ro⟩
theorem GV.put {N k:Nat} {a b:St} (h:GV N k a b) (bx:iC):GV N k a ⟨b.bs.set k bx,b.flr,b.ro⟩:=
 ⟨fun i hi hk=>by simp only;rw[List.getElem?_set_ne (fun e=>hk e.symm)];exact h.low i hi hk,by simp only[List.length_set];exact h.len,h.flr,h.ro⟩
theorem GV.take {k:Nat} {a b:St} (h:GV a.bs.length k a b) (hk:k<a.bs.length) {bx:iC} (hb:b.bs[k]?=some bx):b.bs.take a.bs.length=a.bs.set k bx:=by
 apply List.ext_getElem?;intro i;rw[List.getElem?_take]
 by_cases hi:i<a.bs.length
 ·rw[if_pos hi]
  by_cases he:i=k
  ·subst he;rw[hb,List.getElem?_set_self hk]
  ·rw[h.low i hi he,List.getElem?_set_ne (fun e=>he e.symm)]
 ·rw[if_neg hi,List.getElem?_eq_none (by simp;omega)]
end Go.V
namespace Go.V
variable{P:Pv} {ops:Array Oper} {rest:List Oper} {n:Nat} {loc:List D} {tmp:List (Nat×D)} {st:St} {Q:Fr→St→Prop} {ty:TypeId} {p:String} {a:Array Edge} {g:Option (Nat×Bool)} {dst:Nat}
end Go.V
namespace Go.V
structure bm where
 K:Nat→Prop
 P:St→Prop
 loc:∀{st af:St},(∀k,K k→af.bs[k]?=st.bs[k]?)→P st→P af
def bm.box (k:Nat) (b:iC):bm:=⟨fun j=>j=k,fun st=>st.bs[k]?=some b,fun h p=>(h k rfl).trans p⟩
inductive gD (st:St) (s:Nat):D→List (List D)→Prop where
 |nul:gD st s .nul []
 |win (k aA off:Nat) (es:List (List D)) (c:List D) (hm:st.bs[k]?=some (.mem aA true c)) (hl:off+es.length*s≤c.length) (hc:(c.drop off).take (es.length*s)=es.flatten) (he:∀e∈es,e.length=s):gD st s (.win k aA off es.length s) es
theorem gD.move {st af:St} {s:Nat} {x:D} {es:List (List D)} (h:∀k,x.ref=k+1→af.bs[k]?=st.bs[k]?) (p:gD st s x es):gD af s x es:=by
 cases p with
 |nul=>exact .nul
 |win k aA off es c hm hl hc he=>exact .win k aA off es c ((h k (by simp only[D.ref])).trans hm) hl hc he
def bm.aI (x:D) (s:Nat) (es:List (List D)):bm:=⟨fun j=>x.ref=j+1,fun st=>gD st s x es,fun h p=>gD.move h p⟩
theorem gD.uX {st:St} {s:Nat} {x:D} {es:List (List D)} (p:gD st s x es):∀e∈es,e.length=s:=by
 cases p with
 |nul=>intro e he;cases he
 |win k aA off es c hm hl hc he=>exact he
theorem gD.rows {st:St} {s:Nat} {x:D} {es:List (List D)} (p:gD st s x es):Rows st s x es:=by
 cases p with
 |nul=>exact .nul
 |win k aA off es c hm hl hc he=>
  refine .win k aA off es true c (St.mem_of hm) hl fun i e hi=>?_
  have hil:i<es.length:=by
   rcases Nat.lt_or_ge i es.length with h'|h'
   ·exact h'
   ·rw[List.getElem?_eq_none h'] at hi;cases hi
  have h1:=lq he i e hi;rw[←hc,List.drop_take,List.take_take,List.drop_drop] at h1;have h2:(i+1)*s≤es.length*s:=Nat.mul_le_mul_right s hil;rw[Nat.add_mul,Nat.one_mul] at h2
  rwa [Nat.min_eq_left (by omega)] at h1
structure Has (N:Nat) (S st:St) (H:List bm):Prop where
 ex:Ex N S st
 hN:N≤S.bs.length
 gb:S.ro≤N
 ok:∀(i:Nat) e,H[i]?=some e→e.P st∧∀k,e.K k→N≤k∧k<st.bs.length
 dis:∀(i j:Nat) a b,i≠j→H[i]?=some a→H[j]?=some b→∀k,a.K k→b.K k→False
theorem Has.start {N:Nat} {S:St} (hN:N≤S.bs.length) (gb:S.ro≤N):Has N S S []:=
 ⟨Ex.refl _ _,hN,gb,fun i e h=>by simp at h,fun i j a b _ h=>by simp at h⟩
theorem Has.len {N:Nat} {S st:St} {H:List bm} (h:Has N S st H):S.bs.length≤st.bs.length:=h.ex.len
theorem Has.sy {N:Nat} {S st af:St} {H:List bm} {j:Nat} {e e':bm} (h:Has N S st H) (hj:H[j]?=some e)
  (yI:∀k,k<st.bs.length→¬e.K k→af.bs[k]?=st.bs[k]?) (hlen:st.bs.length≤af.bs.length) (hf:af.flr=st.flr) (hr:af.ro=st.ro)
  (hP:e'.P af) (hK:∀k,e'.K k→e.K k∨st.bs.length≤k) (Hl:∀k,e'.K k→k<af.bs.length):Has N S af (H.set j e'):=by
 have jU:j<H.length:=by
  rcases Nat.lt_or_ge j H.length with h'|h'
  ·exact h'
  ·rw[List.getElem?_eq_none h'] at hj;cases hj
 have hl:=h.ex.len;have hN:=h.hN;refine⟨⟨fun k hk=>?_,Nat.le_trans hl hlen,hf.trans h.ex.flr,hr.trans h.ex.ro⟩,h.hN,h.gb,fun i e0 hi=>?_,fun i i' a b hii ha hb k wT jw=>?_⟩
 ·rw[yI k (by omega) fun jN=>by have:=((h.ok j e hj).2 k jN).1;omega];exact h.ex.low k hk
 ·by_cases hij:i=j
  ·subst hij;rw[List.getElem?_set_self jU] at hi;cases hi;refine⟨hP,fun k hk=>⟨?_,Hl k hk⟩⟩
   rcases hK k hk with h1|h1
   ·exact((h.ok i e hj).2 k h1).1
   ·omega
  ·rw[List.getElem?_set_ne (fun e=>hij e.symm)] at hi;obtain⟨h1,h2⟩:=h.ok i e0 hi;refine⟨e0.loc (fun k hk=>yI k (h2 k hk).2 fun jN=>h.dis i j e0 e hij hi hj k hk jN) h1,fun k hk=>⟨(h2 k hk).1,Nat.lt_of_lt_of_le (h2 k hk).2 hlen⟩⟩
 ·have key:∀i a,i≠j→(H.set j e')[i]?=some a→a.K k→e'.K k→False:=by
   intro i a hij ha wT SL;rw[List.getElem?_set_ne (fun e=>hij e.symm)] at ha
   rcases hK k SL with h1|h1
   ·exact h.dis i j a e hij ha hj k wT h1
   ·have:=((h.ok i a ha).2 k wT).2;omega
  by_cases hij:i=j
  ·subst hij;have dW:=hb;rw[List.getElem?_set_self jU] at ha;cases ha;exact key i' b (fun e=>hii e.symm) hb jw wT
  ·by_cases Ku:i'=j
   ·subst Ku;rw[List.getElem?_set_self jU] at hb;cases hb;exact key i a hij ha wT jw
   ·rw[List.getElem?_set_ne (fun e=>hij e.symm)] at ha;rw[List.getElem?_set_ne (fun e=>Ku e.symm)] at hb;exact h.dis i i' a b hii ha hb k wT jw
theorem Has.add {N:Nat} {S st af:St} {H:List bm} {e':bm} (h:Has N S st H)
  (yI:∀k,k<st.bs.length→af.bs[k]?=st.bs[k]?) (hlen:st.bs.length≤af.bs.length) (hf:af.flr=st.flr) (hr:af.ro=st.ro)
  (hP:e'.P af) (hK:∀k,e'.K k→st.bs.length≤k∧k<af.bs.length):Has N S af (e'::H):=by
 have hl:=h.ex.len;have hN:=h.hN;refine⟨⟨fun k hk=>?_,Nat.le_trans hl hlen,hf.trans h.ex.flr,hr.trans h.ex.ro⟩,h.hN,h.gb,fun i e0 hi=>?_,fun i i' a b hii ha hb k wT jw=>?_⟩
 ·rw[yI k (by omega)];exact h.ex.low k hk
 ·cases i with
  |zero=>
   simp only[List.getElem?_cons_zero,Option.some.injEq] at hi;subst hi;exact⟨hP,fun k hk=>⟨by have:=(hK k hk).1;omega,(hK k hk).2⟩⟩
  |succ i=>
   rw[List.getElem?_cons_succ] at hi;obtain⟨h1,h2⟩:=h.ok i e0 hi;exact⟨e0.loc (fun k hk=>yI k (h2 k hk).2) h1,fun k hk=>⟨(h2 k hk).1,Nat.lt_of_lt_of_le (h2 k hk).2 hlen⟩⟩
 ·cases i with
  |zero=>
   simp only[List.getElem?_cons_zero,Option.some.injEq] at ha;subst ha
   cases i' with
   |zero=>exact hii rfl
   |succ i'=>
    rw[List.getElem?_cons_succ] at hb;have:=((h.ok i' b hb).2 k jw).2;have:=(hK k wT).1;omega
  |succ i=>
   rw[List.getElem?_cons_succ] at ha
   cases i' with
   |zero=>
    simp only[List.getElem?_cons_zero,Option.some.injEq] at hb;subst hb;have:=((h.ok i a ha).2 k wT).2;have:=(hK k jw).1;omega
   |succ i'=>
    rw[List.getElem?_cons_succ] at hb;exact h.dis i i' a b (fun e=>hii (by rw[e])) ha hb k wT jw
theorem Has.sub {N:Nat} {S st:St} {H H':List bm} (h:Has N S st H) (f:Nat→Nat) (hf:∀i j,f i=f j→i=j) (hs:∀i e,H'[i]?=some e→H[f i]?=some e):Has N S st H':=
 ⟨h.ex,h.hN,h.gb,fun i e hi=>h.ok _ e (hs i e hi),fun i j a b hij ha hb=>h.dis (f i) (f j) a b (fun e=>hij (hf i j e)) (hs i a ha) (hs j b hb)⟩
theorem Has.erase {N:Nat} {S st:St} {H:List bm} (h:Has N S st H) (j:Nat):Has N S st (H.eraseIdx j):=by
 refine h.sub (fun i=>if i<j then i else i+1) (fun a b e=>?_) fun i e hi=>?_
 ·show a=b;have e':(if a<j then a else a+1)=(if b<j then b else b+1):=e
  split at e'<;>split at e'<;>omega
 ·show H[if i<j then i else i+1]?=some e;rw[List.getElem?_eraseIdx] at hi
  split at hi<;>rename_i h'<;>simp[h',hi]
theorem Has.take {N:Nat} {S st:St} {H:List bm} (h:Has N S st H) (n:Nat):Has N S st (H.take n):=by
 refine h.sub id (fun a b e=>e) fun i e hi=>?_;rw[List.getElem?_take] at hi;split at hi;exact hi;cases hi
theorem Has.drop {N:Nat} {S st:St} {H:List bm} (h:Has N S st H) (n:Nat):Has N S st (H.drop n):=by
 refine h.sub (fun i=>n+i) (fun a b e=>by omega) fun i e hi=>?_;rw[List.getElem?_drop] at hi;exact hi
theorem Has.front {N:Nat} {S st:St} {H:List bm} (h:Has N S st H) {j:Nat} {e:bm} (hj:H[j]?=some e):Has N S st (e::H.eraseIdx j):=by
 refine h.sub (fun i=>if i=0 then j else if i-1<j then i-1 else i) (fun a b e=>?_) fun i e' hi=>?_
 ·have e':(if a=0 then j else if a-1<j then a-1 else a)=(if b=0 then j else if b-1<j then b-1 else b):=e
  repeat' split at e'
  all_goals omega
 ·show H[if i=0 then j else if i-1<j then i-1 else i]?=some e'
  cases i with
  |zero=>rw[if_pos rfl];simp only[List.getElem?_cons_zero,Option.some.injEq] at hi;subst hi;exact hj
  |succ i=>
   rw[if_neg (by omega),Nat.add_sub_cancel];rw[List.getElem?_cons_succ,List.getElem?_eraseIdx] at hi
   split at hi<;>rename_i h'<;>simp[h',hi]
theorem Has.back {N:Nat} {S st:St} {H:List bm} {j:Nat} {e:bm} (h:Has N S st (e::H.eraseIdx j)) (hj:j<H.length):Has N S st (H.set j e):=by
 refine h.sub (fun i=>if i=j then 0 else if i<j then i+1 else i) (fun a b e=>?_) fun i e' hi=>?_
 ·have e':(if a=j then 0 else if a<j then a+1 else a)=(if b=j then 0 else if b<j then b+1 else b):=e
  repeat' split at e'
  all_goals omega
 ·show(e::H.eraseIdx j)[if i=j then 0 else if i<j then i+1 else i]?=some e'
  by_cases hij:i=j
  ·subst hij;rw[List.getElem?_set_self hj] at hi;rw[if_pos rfl];simpa using hi
  ·rw[List.getElem?_set_ne (fun e=>hij e.symm)] at hi;rw[if_neg hij]
   by_cases hlt:i<j
   ·rw[if_pos hlt,List.getElem?_cons_succ,List.getElem?_eraseIdx,if_pos hlt];exact hi
   ·rw[if_neg hlt]
    obtain⟨i',rfl⟩:∃i',i=i'+1:=⟨i-1,by omega⟩
    rw[List.getElem?_cons_succ,List.getElem?_eraseIdx,if_neg (by omega)];exact hi
theorem Has.e_ {N:Nat} {S st:St} {H:List bm} (h:Has N S st H) (s:Nat):Has N S st (.aI .nul s []::H):=
 h.add (fun _ _=>rfl) (Nat.le_refl _) rfl rfl .nul fun k hk=>by simp only[bm.aI,D.ref] at hk;omega
theorem Has.own {N:Nat} {S st:St} {H:List bm} (h:Has N S st H) {j:Nat} {x:D} {s:Nat} {es:List (List D)} (hj:H[j]?=some (.aI x s es)):gD st s x es:=(h.ok j _ hj).1
theorem Has.rows {N:Nat} {S st:St} {H:List bm} (h:Has N S st H) {j:Nat} {x:D} {s:Nat} {es:List (List D)} (hj:H[j]?=some (.aI x s es)):Rows st s x es:=(h.own hj).rows
theorem Has.at {N:Nat} {S st:St} {H:List bm} (h:Has N S st H) {j k:Nat} {b:iC} (hj:H[j]?=some (.box k b)):st.bs[k]?=some b:=(h.ok j _ hj).1
theorem Has.ge {N:Nat} {S st:St} {H:List bm} (h:Has N S st H) {j k:Nat} {b:iC} (hj:H[j]?=some (.box k b)):N≤k∧k<st.bs.length:=(h.ok j _ hj).2 k rfl
def Arg (N:Nat) (S:St) (s:Nat) (x:D) (es:List (List D)):Prop:=Rows S s x es∧x.ref≤N
theorem Arg.rows {N:Nat} {S st:St} {H:List bm} {s:Nat} {x:D} {es:List (List D)} (hx:Arg N S s x es) (h:Has N S st H):Rows st s x es:=hx.1.ex h.ex hx.2
theorem Arg.of {st S:St} {s:Nat} {x:D} {es:List (List D)} (hx:Rows st s x es) (hS:S.bs=st.bs):Arg st.bs.length S s x es:=⟨hx.bs hS,hx.ref⟩
theorem Arg.pure {N:Nat} {S:St} {s:Nat} {es:List D} {rs:List (List D)} (hx:∀st,Rows st s (.sl es) rs):Arg N S s (.sl es) rs:=⟨hx S,by simp[D.ref]⟩
theorem jt {N:Nat} {S st:St} {H:List bm} (h:Has N S st H) {k:Nat} {cs:List D} (hk:N≤k) (hw:S.flr≤N∨refs cs=0):st.lC k (refs cs)=true:=by
 have h1:=h.ex.ro;have h2:=h.ex.flr;have h3:=h.gb;simp only[St.lC,Bool.and_eq_true,Bool.or_eq_true,decide_eq_true_eq];refine⟨by omega,?_⟩
 rcases hw with hw|hw
 ·exact .inl (by omega)
 ·exact .inr (.inl (by omega))
theorem Has.CM {N:Nat} {S st:St} {H:List bm} (h:Has N S st H) {j k aA:Nat} {b b':iC} (hj:H[j]?=some (.box k b)):Has N S ⟨st.bs.set k b',st.flr,st.ro⟩ (H.set j (.box k b')):=by
 have hk:=(h.ge hj).2;refine h.sy hj (fun i hi hne=>?_) (by simp) rfl rfl ?_ (fun i hi=>.inl hi) fun i hi=>?_
 ·simp only;rw[List.getElem?_set_ne (fun e=>hne e.symm)]
 ·show(st.bs.set k b')[k]?=_;rw[List.getElem?_set_self hk]
 ·cases hi;simpa using hk
theorem Has.zO {N:Nat} {S st:St} {H:List bm} (h:Has N S st H) (b:iC):Has N S (st.push b) (.box st.bs.length b::H):=by
 refine h.add (fun i hi=>?_) (by simp[St.push]) rfl rfl ?_ fun i hi=>?_
 ·simp only[St.push];rw[List.getElem?_append_left hi]
 ·exact ua st b
 ·cases hi;simp[St.push]
theorem Has.ub {N:Nat} {S st:St} {H:List bm} (h:Has N S st H) {s:Nat} {es:List (List D)} {cs:List D} {m:Nat} (hm:es.length=m) (hc:es.flatten=cs) (he:∀e∈es,e.length=s):Has N S (st.push (.mem 0 true cs)) (.aI (.win st.bs.length 0 0 m s) s es::H):=by
 subst hm hc;refine h.add (fun i hi=>?_) (by simp[St.push]) rfl rfl ?_ fun i hi=>?_
 ·simp only[St.push];rw[List.getElem?_append_left hi]
 ·have oT:=cH he;exact gD.win _ 0 0 es es.flatten (ua st _) (by rw[oT];omega) (by rw[List.drop_zero,←oT,List.take_length]) he
 ·simp only[bm.aI,D.ref] at hi;simp only[St.push,List.length_append,List.length_cons,List.length_nil];omega
theorem ka:∀(xs c:List D) (off:Nat),(setMany c off xs).length=c.length
 |[],c,off=>rfl
 |x::xs,c,off=>by simp only[setMany];rw[ka xs];simp
theorem oH {s:Nat}:∀{es:List (List D)} {i:Nat} {e e':List D},(∀e∈es,e.length=s)→es[i]?=some e→e'.length=s→(es.set i e').flatten=es.flatten.take (i*s)++e'++es.flatten.drop (i*s+s)
 |[],i,e,e',_,hi,_=>by simp at hi
 |x::es,0,e,e',h,hi,he=>by
  simp at hi;subst hi;have:=h x (List.mem_cons_self ..);simp[List.set_cons_zero,List.drop_left' this]
 |x::es,i+1,e,e',h,hi,he=>by
  have hx:=h x (List.mem_cons_self ..);have ih:=oH (s:=s) (es:=es) (i:=i) (e:=e) (e':=e') (fun y hy=>h y (List.mem_cons_of_mem _ hy)) (by simpa using hi) he;rw[List.set_cons_succ,List.flatten_cons,ih,List.flatten_cons,Nat.add_mul,Nat.one_mul,Nat.add_comm (i*s) s,←hx,List.take_length_add_append,Nat.add_assoc,List.drop_length_add_append];simp only[List.append_assoc];rw[Nat.add_comm (i*x.length) x.length]
theorem Has.zD {N:Nat} {S st:St} {H:List bm} (h:Has N S st H) {j k aA off len s:Nat} {es:List (List D)} {i o:Nat} {e cs:List D} (hj:H[j]?=some (.aI (.win k aA off len s) s es)) (hi:es[i]?=some e) (hl:o+cs.length≤s) (hw:S.flr≤N∨refs cs=0):
  ∃af,st.wr k aA (off+i*s+o) cs=some af∧Has N S af (H.set j (.aI (.win k aA off len s) s (es.set i (setMany e o cs)))):=by
 have hk:=(h.ok j _ hj).2 k (by simp only[bm.aI,D.ref]);have hown:=h.own hj
 cases hown with
 |win k aA off es c hm hle hc he=>
  have hil:i<es.length:=by
   rcases Nat.lt_or_ge i es.length with h'|h'
   ·exact h'
   ·rw[List.getElem?_eq_none h'] at hi;cases hi
  have tj:=he e (List.mem_of_getElem? hi);have h2:(i+1)*s≤es.length*s:=Nat.mul_le_mul_right s hil;rw[Nat.add_mul,Nat.one_mul] at h2;refine⟨_,lH hm (by omega) (jt h hk.1 hw),?_⟩;refine h.sy hj (fun n hn hne=>?_) (by simp) rfl rfl ?_ (fun n hn=>.inl hn) fun n hn=>?_
  ·simp only;rw[List.getElem?_set_ne (fun e=>hne (by simp only[bm.aI,D.ref];omega))]
  ·have DQ:∀e'∈es.set i (setMany e o cs),e'.length=s:=by
    intro e' pb
    rcases List.mem_or_eq_of_mem_set pb with h'|h'
    ·exact he e' h'
    ·rw[h',ka];exact tj
   have oT:es.flatten.length=es.length*s:=cH he;have:=gD.win (st:=⟨st.bs.set k (.mem aA true (c.take (off+i*s+o)++cs++c.drop (off+i*s+o+cs.length))),st.flr,st.ro⟩) (s:=s) k aA off (es.set i (setMany e o cs)) (c.take (off+i*s+o)++cs++c.drop (off+i*s+o+cs.length))
    (by simp only;rw[List.getElem?_set_self hk.2]) (by simp;omega) ?_ DQ
   ·rw[List.length_set] at this;exact this
   ·rw[List.length_set,oH he hi (by rw[ka];exact tj),fW cs e o (by omega)]
    have e1:(c.take (off+i*s+o)++cs++c.drop (off+i*s+o+cs.length)).drop off=(c.drop off).take (i*s+o)++cs++(c.drop off).drop (i*s+o+cs.length):=by
     rw[List.append_assoc,List.drop_append_of_le_length (by simp;omega),List.drop_take,List.append_assoc,List.drop_drop]
     congr 3<;>omega
    rw[e1]
    have e2:(c.drop off).take (i*s+o)=es.flatten.take (i*s)++e.take o:=by
     have:(c.drop off).take (i*s+o)=es.flatten.take (i*s+o):=by
      rw[←hc,List.take_take,Nat.min_eq_left (by omega)]
     rw[this,List.take_add]
     congr 1
     have:=lq he i e hi;rw[←this,List.take_take,Nat.min_eq_left (by omega)]
    have e3:(List.drop (i*s+o+cs.length) (c.drop off)).take (es.length*s-(i*s+o+cs.length))=e.drop (o+cs.length)++es.flatten.drop (i*s+s):=by
     have:(List.drop (i*s+o+cs.length) (c.drop off)).take (es.length*s-(i*s+o+cs.length))=es.flatten.drop (i*s+o+cs.length):=by
      rw[←hc,List.drop_take]
     rw[this];have h4:=lq he i e hi;rw[←h4,List.drop_take];have:es.flatten.drop (i*s+o+cs.length)=(es.flatten.drop (i*s+o+cs.length)).take (s-(o+cs.length))++(es.flatten.drop (i*s+o+cs.length)).drop (s-(o+cs.length)):=(List.take_append_drop ..).symm;rw[this,List.drop_drop,List.drop_drop]
     congr 2
     ·congr 1;omega
     ·omega
    rw[e2]
    have GD:(es.flatten.take (i*s)++e.take o++cs).length=i*s+o+cs.length:=by
     simp only[List.length_append,List.length_take,oT,tj];omega
    rw[List.take_append,GD,e3,List.take_of_length_le (by rw[GD];omega)];simp[List.append_assoc]
  ·simp only[bm.aI,D.ref] at hn;simp only[List.length_set];omega
end Go.V
namespace Go.V
theorem aS {α:Type} {a:α} {l:List α}:(a::l)[0]?=some a:=rfl
theorem bZ {α:Type} {a b:α} {l:List α}:(a::b::l)[1]?=some b:=rfl
theorem cU {α:Type} {a b c:α} {l:List α}:(a::b::c::l)[2]?=some c:=rfl
theorem dI {α:Type} {a b c d:α} {l:List α}:(a::b::c::d::l)[3]?=some d:=rfl
theorem eJ {α:Type} {a b c d e:α} {l:List α}:(a::b::c::d::e::l)[4]?=some e:=rfl
theorem gk {α:Type} {a b c d e f:α} {l:List α}:(a::b::c::d::e::f::l)[5]?=some f:=rfl
theorem ja {α:Type} {a b c d e f g:α} {l:List α}:(a::b::c::d::e::f::g::l)[6]?=some g:=rfl
theorem iX {α:Type} {a b c d e f g h:α} {l:List α}:(a::b::c::d::e::f::g::h::l)[7]?=some h:=rfl
def Ab (t:Nat):List (Nat×D)→Option D
 |[]=>none
 |(u,d)::l=>match Nat.beq t u with
  |true=>some d
  |false=>Ab t l
def Df:Value→Option D
 | .int k n=>some (.int k n)
 | .bool b=>some (.bool b)
 | .string s=>some (.str s.data.toList)
 | .slice none 0 0=>some .nul
 | .pointer none=>some .pnil
 | .nilFunc=>some .nilfn
 | .nilIface=>some .nilif
 |_=>none
def Fr.QF (f:Fr):Operand→Option D
 | .tmp t=>match Nat.ble f.n t with
  |false=>f.loc[t]?
  |true=>Ab t f.tmp
 | .const v=>Df v
 | .func g=>some (.fn g [])
 | .global _=>none
theorem qz {t:Nat} {d:D}:∀{l:List (Nat×D)},Ab t l=some d→look t l=d
 |(u,e)::l,h=>by
  unfold Ab at h;unfold look
  split at h
  ·rename_i hb;cases h;simp only[hb]
  ·rename_i hb;simp only[hb];exact qz h
theorem zZ {d e:D}:∀{l:List D} {i:Nat},l[i]?=some d→nth e l i=d
 |x::l,0,h=>by simpa[nth] using h
 |x::l,i+1,h=>by rw[List.getElem?_cons_succ] at h;exact zZ (l:=l) h
 |[],i,h=>by simp at h
theorem ev {fr:Fr} {o:Operand} {d:D} (h:fr.QF o=some d):fr.ev o=d:=by
 unfold Fr.QF at h;unfold Fr.ev
 split at h
 ·unfold Fr.get
  split at h
  ·rename_i hb;simp only[hb];exact zZ h
  ·rename_i hb;simp only[hb];exact qz h
 ·unfold Df at h
  split at h<;>cases h<;>rfl
 ·cases h;rfl
 ·cases h
def j5 (st:St) (p:D) (r:List D):Prop:=
 (∃k aA off ar c,p=.ptr k aA off∧st.ew k aA=some (ar,c)∧(c.drop off).take r.length=r)∨∃c,p=.ep c∧c.take r.length=r
def oY (x:D) (s:Nat) (i o:Nat) (p:D):Prop:=∃k aA off len,x=.win k aA off len s∧p=.ptr k aA (off+i*s+o)
theorem kR {P:Pv} {t:TypeId} {r c:List D} {d:D} (hc:c.take r.length=r) (h:di P t r=some d):di P t c=some d:=by
 have hlen:r.length≤c.length:=by have:=congrArg List.length hc;simp at this;omega
 unfold di at h⊢
 cases hu:P.cC t with
 |none=>rw[hu] at h;cases h
 |some u=>
  rw[hu] at h;have key:∀n,n≤r.length→c.take n=r.take n:=fun n hn=>by rw[←hc,List.take_take,Nat.min_eq_left hn]
  cases u with
  |struct f=>
   simp only at h⊢
   cases hs:bV P t with
   |none=>rw[hs] at h;cases h
   |some n=>
    rw[hs] at h;simp only[Option.bind_some] at h⊢
    split at h
    ·rename_i hn;rw[if_pos (by omega),key n hn];exact h
    ·cases h
  |array m f=>
   simp only at h⊢
   cases hs:bV P t with
   |none=>rw[hs] at h;cases h
   |some n=>
    rw[hs] at h;simp only[Option.bind_some] at h⊢
    split at h
    ·rename_i hn;rw[if_pos (by omega),key n hn];exact h
    ·cases h
  |_=>
   simp only at h⊢
   cases r with
   |nil=>cases h
   |cons y r=>
    cases c with
    |nil=>simp at hlen
    |cons z c=>
     simp only[List.length_cons,List.take_succ_cons,List.cons.injEq] at hc;rw[←h];simp[hc.1]
theorem j5.load {P:Pv} {st:St} {p:D} {r:List D} (h:j5 st p r) {t:TypeId} {d:D} (hd:di P t r=some d):fS P t p st=some d:=by
 rcases h with⟨k,aA,off,ar,c,rfl,hm,hc⟩|⟨c,rfl,hc⟩
 ·simp only[fS,hm,Option.bind_some];exact kR hc hd
 ·simp only[fS];exact kR hc hd
theorem j5.field {P:Pv} {st:St} {p:D} {r:List D} (h:j5 st p r) {t:TypeId} {fields:Array Field} {f:Nat} {fd:Field} {m:Nat} (ht:P.cC t=some (.struct fields)) (hf:fields[f]?=some fd) (hm:bV P fd.type=some m) (vf:m≠0):
  ∃p',ej P t p f=some p'∧j5 st p' (r.drop fd.offset):=by
 have key:∀c:List D,c.take r.length=r→(c.drop fd.offset).take (r.drop fd.offset).length=r.drop fd.offset:=by
  intro c hc;rw[List.length_drop,←List.drop_take,hc]
 rcases h with⟨k,aA,off,ar,c,rfl,yH,hc⟩|⟨c,rfl,hc⟩
 ·refine⟨.ptr k aA (off+fd.offset),?_,.inl ⟨k,aA,off+fd.offset,ar,c,rfl,yH,?_⟩⟩
  ·simp only[ej,ht,hf,Option.bind_some,hm];rw[if_neg (by simp only[Option.some.injEq];exact vf)]
  ·rw[←List.drop_drop];exact key _ hc
 ·refine⟨.ep (c.drop fd.offset),?_,.inr ⟨_,rfl,key _ hc⟩⟩;simp only[ej,ht,hf,Option.bind_some,hm];rw[if_neg (by simp only[Option.some.injEq];exact vf)]
theorem Rows.L_ {P:Pv} {st:St} {s:Nat} {x:D} {es:List (List D)} (h:Rows st s x es) {t e:TypeId} (ht:P.cC t=some (.slice e)) (hs:bV P e=some s) {k:IntKind} {i:Nat} {r:List D} (hi:es[i]?=some r):
  ∃p,bM P t x (.int k (i:Nat)) st=some p∧j5 st p r:=by
 have rZ:=h.uX _ _ hi
 cases h with
 |nul=>simp at hi
 |sl es h=>
  rw[List.getElem?_map] at hi;obtain⟨d,hd,rfl⟩:=Option.map_eq_some_iff.1 hi;obtain⟨h1,h2⟩:=h d (List.mem_of_getElem? hd);refine⟨.ep d.cells,?_,.inr ⟨_,rfl,List.take_length ..⟩⟩;simp only[bM,ht,hs,Option.bind_some,if_pos (show(0:Int)≤(i:Nat) by omega),Int.toNat_natCast,hd,h1,if_pos h2]
 |win k aA off es ar c hm hl he=>
  have hlt:i<es.length:=by
   rcases Nat.lt_or_ge i es.length with h'|h'
   ·exact h'
   ·rw[List.getElem?_eq_none h'] at hi;cases hi
  refine⟨.ptr k aA (off+i*s),?_,.inl ⟨k,aA,_,ar,c,rfl,hm,by rw[rZ];exact he _ _ hi⟩⟩;simp only[bM,ht,hs,Option.bind_some,hm,Option.isSome_some];rw[if_pos ⟨trivial,by omega,by omega,trivial⟩];rfl
variable{P:Pv} {ops:Array Oper} {rest:List Oper} {fr aD:Fr} {st:St} {Q:Fr→St→Prop} {ty:TypeId} {pp:String} {a:Array Edge} {g:Option (Nat×Bool)} {dst:Nat} {N:Nat} {S:St} {H:List bm}
theorem ab.go {op:Op} {d:D} {st1:St} (hg:aB ops fr ⟨some dst,op,ty,pp,a,g⟩=some true) (hc:ia op=false) (h1:dF P fr st op ty=some (d,st1)) (hp:fr.put dst d=aD)
  (h:ab P ops rest aD st1 Q):ab P ops (⟨some dst,op,ty,pp,a,g⟩::rest) fr st Q:=
 ab.op hg hc h1 (by show ab P ops rest (fr.put dst d) st1 Q;rw[hp];exact h)
theorem ab.mz {j k aA off:Nat} {ar:Bool} {c:List D} {d:D} {t:TypeId} {ao:Operand} (hH:Has N S st H) (hg:aB ops fr ⟨some dst,.load t ao,ty,pp,a,g⟩=some true) (ha:fr.ev ao=.ptr k aA off) (hj:H[j]?=some (.box k (.mem aA ar c))) (hd:di P t (c.drop off)=some d) (hp:fr.put dst d=aD)
  (h:ab P ops rest aD st Q):ab P ops (⟨some dst,.load t ao,ty,pp,a,g⟩::rest) fr st Q:=by
 refine ab.go hg rfl (d:=d) (st1:=st) ?_ hp h;simp only[dF,ha,fS,St.mem_of (hH.at hj),Option.bind_some,hd,Option.map_some]
theorem ab.ra {j k aA off:Nat} {ar:Bool} {c cs:List D} {v:D} {t:TypeId} {ao vo:Operand} (hH:Has N S st H) (hg:aB ops fr ⟨none,.store t ao vo,ty,pp,a,g⟩=some true) (ha:fr.ev ao=.ptr k aA off) (hv:fr.ev vo=v) (i_:v.cells?=some cs) (hs:bV P t=some cs.length) (hj:H[j]?=some (.box k (.mem aA ar c))) (hl:off+cs.length≤c.length) (hw:S.flr≤N∨refs cs=0)
  (h:∀af,Has N S af (H.set j (.box k (.mem aA ar (setMany c off cs))))→ab P ops rest fr af Q):ab P ops (⟨none,.store t ao vo,ty,pp,a,g⟩::rest) fr st Q:=by
 refine ab.N hg rfl (d:=.tup []) (st1:=⟨st.bs.set k (.mem aA ar (setMany c off cs)),st.flr,st.ro⟩) ?_ (h _ (hH.CM (aA:=aA) hj));simp only[dF,ha,hv,j_,i_,hs,if_pos trivial];rw[lH (hH.at hj) hl (jt hH (hH.ge hj).1 hw),fW _ _ _ hl];rfl
theorem ab.uO {e:TypeId} {cs:List D} {aD:Nat→Fr} (hH:Has N S st H) (hg:aB ops fr ⟨some dst,.alloc e,ty,pp,a,g⟩=some true) (hz:de P e=some cs) (hp:∀k,fr.put dst (.ptr k 0 0)=aD k)
  (h:∀k af,S.bs.length≤k→Has N S af (.box k (.mem 0 false cs)::H)→ab P ops rest (aD k) af Q):ab P ops (⟨some dst,.alloc e,ty,pp,a,g⟩::rest) fr st Q:=by
 refine ab.go hg rfl (d:=.ptr st.bs.length 0 0) (st1:=st.push (.mem 0 false cs)) ?_ (hp _) (h _ _ hH.len (hH.zO _));simp only[dF,hz,Option.map_some]
theorem ab.BJ {e:TypeId} {xo:Operand} {cs:List D} {aD:Nat→Fr} (hH:Has N S st H) (hg:aB ops fr ⟨some dst,.box e xo,ty,pp,a,g⟩=some true) (hz:(fr.ev xo).cells?=some cs) (hp:∀k,fr.put dst (.ptr k 0 0)=aD k)
  (h:∀k af,S.bs.length≤k→Has N S af (.box k (.mem 0 false cs)::H)→ab P ops rest (aD k) af Q):ab P ops (⟨some dst,.box e xo,ty,pp,a,g⟩::rest) fr st Q:=by
 refine ab.go hg rfl (d:=.ptr st.bs.length 0 0) (st1:=st.push (.mem 0 false cs)) ?_ (hp _) (h _ _ hH.len (hH.zO _));simp only[dF,hz,Option.map_some]
theorem ab.Aj {t e:TypeId} {lo co:Operand} {k1 k2:IntKind} {m:Nat} {inf:TypeInfo} {z:List D} {s:Nat} {aD:Nat→Fr} (hH:Has N S st H) (hg:aB ops fr ⟨some dst,.makeSlice t lo co,ty,pp,a,g⟩=some true)
  (hl:fr.ev lo=.int k1 (m:Nat)) (hc:fr.ev co=.int k2 (m:Nat)) (ht:P.cC t=some (.slice e)) (hi:P.info e=some inf) (hz:de P e=some z) (hsz:inf.size=s) (ln:z.length=s) (SF:inf.bytes≤1024) (vf:m≤1073741824) (hp:∀k,fr.put dst (.win k 0 0 m s)=aD k)
  (h:∀k af,S.bs.length≤k→Has N S af (.aI (.win k 0 0 m s) s (List.replicate m z)::H)→ab P ops rest (aD k) af Q):ab P ops (⟨some dst,.makeSlice t lo co,ty,pp,a,g⟩::rest) fr st Q:=by
 have hm:m*inf.bytes≤140737488355328:=Nat.le_trans (Nat.mul_le_mul vf SF) (by decide);subst hsz;refine ab.go hg rfl (d:=.win st.bs.length 0 0 m inf.size) (st1:=st.push (.mem 0 true (eu m z))) ?_ (hp _) (h _ _ hH.len (hH.ub (by simp) rfl (fun e he=>by rw[List.eq_of_mem_replicate he];exact ln)));simp only[dF,hl,hc,fZ,ht,hi,hz,Option.bind_some];rw[if_pos ⟨ln,by omega,by omega,by omega,by rw[←Int.natCast_mul];omega⟩]
 rfl
theorem Has.append {j:Nat} {x y:D} {s:Nat} {es ys:List (List D)} (hH:Has N S st H) (hj:H[j]?=some (.aI x s es)) (hy:Rows st s y ys) {t1 t2 e:TypeId} {td:TypeDesc} {inf:TypeInfo} {z:List D}
  (h1:P.cC t1=some (.slice e)) (h2:P.cC t2=some td) (h3:ga td=false) (h4:P.info e=some inf) (h5:de P e=some z) (h6:inf.size=s) (h7:z.length=s) (h8:0<inf.bytes∧inf.bytes≤1024)
  (rn:es.length+ys.length≤1073741824) (hw:S.flr≤N∨refs ys.flatten=0):
  ∃x' af,ba P .append [t1,t2] [x,y] st=some (x',af)∧Has N S af (H.set j (.aI x' s (es++ys)))∧(ys=[]→x'=x):=by
 have hb:(es.length+ys.length)*inf.bytes≤1099511627776:=Nat.le_trans (Nat.mul_le_mul rn h8.2) (by decide);have jZ:=hy.row
 have DC:∀e∈ys,e.length=s:=fun e he=>by
  obtain⟨i,hi⟩:=List.getElem?_of_mem he;exact hy.uX i e hi
 have oT:=cH DC;have hown:=hH.own hj;have hkk:=(hH.ok j _ hj).2;have hS:=hH.len;have U7:=hH.hN;subst h6;simp only[ba,gN,h1,h2,h3,Bool.false_eq_true,if_false,h4,h5,jZ,Option.bind_some];rw[if_neg (by rintro(h|h|h);exact h oT;exact absurd h (by omega);exact h h7)]
 have iy:∀e,H[j]?=some e→H.set j e=H:=fun e he=>by
  apply List.ext_getElem?;intro i
  by_cases hij:i=j
  ·subst hij
   have:i<H.length:=by
    rcases Nat.lt_or_ge i H.length with h'|h'
    ·exact h'
    ·rw[List.getElem?_eq_none h'] at he;cases he
   rw[List.getElem?_set_self this,he]
  ·rw[List.getElem?_set_ne (fun e=>hij e.symm)]
 cases hown with
 |nul=>
  simp only[List.nil_append]
  by_cases h0:ys.length=0
  ·rw[if_pos h0]
   have:ys=[]:=by cases ys with|nil=>rfl|cons _ _=>simp at h0
   subst this;exact⟨.nul,st,rfl,by rw[iy _ hj];exact hH,fun _=>rfl⟩
  ·rw[if_neg h0,if_pos (by simpa using hb)];refine⟨_,_,rfl,?_,fun e=>absurd (by rw[e];rfl) h0⟩;refine hH.sy hj (fun k hk _=>by simp only[St.push];rw[List.getElem?_append_left hk]) (by simp[St.push]) rfl rfl ?_ (fun k hk=>?_) fun k hk=>?_
   ·exact gD.win _ 0 0 ys ys.flatten (ua st _) (by rw[oT];omega) (by rw[List.drop_zero,←oT,List.take_length]) DC
   ·simp only[bm.aI,D.ref] at hk;right;omega
   ·simp only[bm.aI,D.ref] at hk;simp only[St.push,List.length_append,List.length_cons,List.length_nil];omega
 |win k aA off es c hm hl hc he=>
  have hk:=hkk k (by simp only[bm.aI,D.ref]);simp only[St.mem_of hm];rw[if_neg (by rintro(h|h);exact h rfl;omega)]
  by_cases h0:ys.length=0
  ·rw[if_pos h0]
   have:ys=[]:=by cases ys with|nil=>rfl|cons _ _=>simp at h0
   subst this;simp only[List.append_nil];exact⟨_,st,rfl,by rw[iy _ hj];exact hH,fun _=>rfl⟩
  ·rw[if_neg h0,if_pos ⟨hb,jt hH hk.1 hw⟩];refine⟨_,_,rfl,?_,fun e=>absurd (by rw[e];rfl) h0⟩;have vg:es.length+ys.length=(es++ys).length:=by simp
   have iz:(c.take (off+es.length*inf.size)).drop off=es.flatten:=by rw[List.drop_take,←hc];congr 1;omega
   rw[vg,iz];refine hH.sy hj (fun n hn hne=>by simp only;rw[List.getElem?_set_ne (fun e=>hne (by simp only[bm.aI,D.ref];omega))]) (by simp) rfl rfl ?_ (fun n hn=>?_) fun n hn=>?_
   ·have tj:∀e∈es++ys,e.length=inf.size:=fun e h=>by
     rcases List.mem_append.1 h with h|h
     ·exact he e h
     ·exact DC e h
    have Kv:=cH tj;refine gD.win k (aA+1) 0 (es++ys) (es++ys).flatten ?_ (by rw[Kv];omega) (by rw[List.drop_zero,←Kv,List.take_length]) tj;simp only;rw[List.getElem?_set_self hk.2,List.flatten_append]
   ·simp only[bm.aI,D.ref] at hn⊢;left;omega
   ·simp only[bm.aI,D.ref] at hn;simp only[List.length_set];omega
theorem ab.bT {j:Nat} {x y:D} {s:Nat} {es ys:List (List D)} {t1 t2 e:TypeId} {td:TypeDesc} {inf:TypeInfo} {z:List D} {xo yo:Operand} {aD:D→Fr} (hH:Has N S st H) (hg:aB ops fr ⟨some dst,.call ⟨.builtin .append,#[xo,yo],#[t1,t2]⟩,ty,pp,a,g⟩=some true)
  (hx:fr.ev xo=x) (hy:fr.ev yo=y) (hj:H[j]?=some (.aI x s es)) (j6:Rows st s y ys)
  (h1:P.cC t1=some (.slice e)) (h2:P.cC t2=some td) (h3:ga td=false) (h4:P.info e=some inf) (h5:de P e=some z) (h6:inf.size=s) (h7:z.length=s) (h8:0<inf.bytes∧inf.bytes≤1024)
  (hp:∀x',fr.put dst x'=aD x') (hb:es.length+ys.length≤1073741824) (hw:S.flr≤N∨refs ys.flatten=0)
  (h:∀x' af,Has N S af (H.set j (.aI x' s (es++ys)))→ab P ops rest (aD x') af Q):
  ab P ops (⟨some dst,.call ⟨.builtin .append,#[xo,yo],#[t1,t2]⟩,ty,pp,a,g⟩::rest) fr st Q:=by
 obtain⟨x',af,q1,q2,q3⟩:=hH.append hj j6 h1 h2 h3 h4 h5 h6 h7 h8 hb hw;refine ab.go hg rfl (d:=x') (st1:=af) ?_ (hp _) (h x' af q2);simp only[dF,List.map_cons,List.map_nil,hx,hy];exact q1
theorem ab.D9 {j:Nat} {x y:D} {s:Nat} {es ys:List (List D)} {t1 t2 e:TypeId} {td:TypeDesc} {inf:TypeInfo} {z:List D} {xo yo:Operand} {aD:D→Fr} (hH:Has N S st H) (hg:aB ops fr ⟨some dst,.call ⟨.builtin .append,#[xo,yo],#[t1,t2]⟩,ty,pp,a,g⟩=some true)
  (hx:fr.ev xo=x) (hy:fr.ev yo=y) (hj:H[j]?=some (.aI x s es)) (j6:Rows st s y ys)
  (h1:P.cC t1=some (.slice e)) (h2:P.cC t2=some td) (h3:ga td=false) (h4:P.info e=some inf) (h5:de P e=some z) (h6:inf.size=s) (h7:z.length=s) (h8:0<inf.bytes∧inf.bytes≤1024)
  (hp:∀x',fr.put dst x'=aD x') (hb:es.length+ys.length≤1073741824) (hw:S.flr≤N∨refs ys.flatten=0)
  (h:∀x' af,(ys=[]→x'=x)→Has N S af (H.set j (.aI x' s (es++ys)))→ab P ops rest (aD x') af Q):
  ab P ops (⟨some dst,.call ⟨.builtin .append,#[xo,yo],#[t1,t2]⟩,ty,pp,a,g⟩::rest) fr st Q:=by
 obtain⟨x',af,q1,q2,q3⟩:=hH.append hj j6 h1 h2 h3 h4 h5 h6 h7 h8 hb hw;refine ab.go hg rfl (d:=x') (st1:=af) ?_ (hp _) (h x' af q3 q2);simp only[dF,List.map_cons,List.map_nil,hx,hy];exact q1
theorem ab.tV {t e:TypeId} {xo:Operand} {x:D} {s:Nat} {es:List (List D)} (hg:aB ops fr ⟨some dst,.call ⟨.builtin .len,#[xo],#[t]⟩,ty,pp,a,g⟩=some true) (hx:fr.ev xo=x) (hR:Rows st s x es) (ht:P.cC t=some (.slice e)) (hp:fr.put dst (.int .i64 (es.length:Nat))=aD)
  (h:ab P ops rest aD st Q):ab P ops (⟨some dst,.call ⟨.builtin .len,#[xo],#[t]⟩,ty,pp,a,g⟩::rest) fr st Q:=by
 refine ab.go hg rfl (d:=.int .i64 (es.length:Nat)) (st1:=st) ?_ hp h;simp only[dF,List.map_cons,List.map_nil,hx];exact hR.Gq ht
theorem ab.rU {t:TypeId} {xo:Operand} {b:List UInt8} (hg:aB ops fr ⟨some dst,.call ⟨.builtin .len,#[xo],#[t]⟩,ty,pp,a,g⟩=some true) (hx:fr.ev xo=.str b) (ht:P.cC t=some .string) (hp:fr.put dst (.int .i64 (b.length:Nat))=aD)
  (h:ab P ops rest aD st Q):ab P ops (⟨some dst,.call ⟨.builtin .len,#[xo],#[t]⟩,ty,pp,a,g⟩::rest) fr st Q:=by
 refine ab.go hg rfl (d:=.int .i64 (b.length:Nat)) (st1:=st) ?_ hp h;simp only[dF,List.map_cons,List.map_nil,hx,ba,ht]
theorem ab.vH {t e:TypeId} {xo io:Operand} {x:D} {s i:Nat} {kk:IntKind} {es:List (List D)} {r:List D} {aD:D→Fr} (hg:aB ops fr ⟨some dst,.indexAddr t xo io,ty,pp,a,g⟩=some true) (hx:fr.ev xo=x) (hi:fr.ev io=.int kk (i:Nat)) (hR:Rows st s x es) (ht:P.cC t=some (.slice e)) (hs:bV P e=some s) (hr:es[i]?=some r) (hp:∀p,fr.put dst p=aD p)
  (h:∀p,j5 st p r→ab P ops rest (aD p) st Q):ab P ops (⟨some dst,.indexAddr t xo io,ty,pp,a,g⟩::rest) fr st Q:=by
 obtain⟨p,h1,h2⟩:=hR.L_ ht hs (k:=kk) hr;refine ab.go hg rfl (d:=p) (st1:=st) ?_ (hp p) (h p h2);simp only[dF,hx,hi,h1,Option.map_some]
theorem ab.G5 {t:TypeId} {xo:Operand} {x:D} {r:List D} {f m:Nat} {fields:Array Field} {fd:Field} {aD:D→Fr} (hg:aB ops fr ⟨some dst,.fieldAddr t xo f,ty,pp,a,g⟩=some true) (hx:fr.ev xo=x) (hR:j5 st x r) (ht:P.cC t=some (.struct fields)) (hf:fields[f]?=some fd) (hm:bV P fd.type=some m) (vf:m≠0) (hp:∀p,fr.put dst p=aD p)
  (h:∀p,j5 st p (r.drop fd.offset)→ab P ops rest (aD p) st Q):ab P ops (⟨some dst,.fieldAddr t xo f,ty,pp,a,g⟩::rest) fr st Q:=by
 obtain⟨p,h1,h2⟩:=hR.field ht hf hm vf;refine ab.go hg rfl (d:=p) (st1:=st) ?_ (hp p) (h p h2);simp only[dF,hx,h1,Option.map_some]
theorem ab.kb {t:TypeId} {ao:Operand} {x d:D} {r:List D} (hg:aB ops fr ⟨some dst,.load t ao,ty,pp,a,g⟩=some true) (ha:fr.ev ao=x) (hR:j5 st x r) (hd:di P t r=some d) (hp:fr.put dst d=aD)
  (h:ab P ops rest aD st Q):ab P ops (⟨some dst,.load t ao,ty,pp,a,g⟩::rest) fr st Q:=by
 refine ab.go hg rfl (d:=d) (st1:=st) ?_ hp h;simp only[dF,ha,hR.load hd,Option.map_some]
theorem ab.yl {t e:TypeId} {xo io:Operand} {x:D} {s i j:Nat} {kk:IntKind} {es:List (List D)} {aD:D→Fr} (hH:Has N S st H) (hg:aB ops fr ⟨some dst,.indexAddr t xo io,ty,pp,a,g⟩=some true) (hx:fr.ev xo=x) (hi:fr.ev io=.int kk (i:Nat)) (hj:H[j]?=some (.aI x s es)) (ht:P.cC t=some (.slice e)) (hs:bV P e=some s) (hr:i<es.length) (hp:∀p,fr.put dst p=aD p)
  (h:∀p,oY x s i 0 p→ab P ops rest (aD p) st Q):ab P ops (⟨some dst,.indexAddr t xo io,ty,pp,a,g⟩::rest) fr st Q:=by
 have hown:=hH.own hj
 cases hown with
 |nul=>simp at hr
 |win k aA off es c hm hl hc he=>
  refine ab.go hg rfl (d:=.ptr k aA (off+i*s)) (st1:=st) ?_ (hp _) (h _ ⟨k,aA,off,_,rfl,rfl⟩);simp only[dF,hx,hi,bM,ht,hs,Option.bind_some,St.mem_of hm,Option.isSome_some];rw[if_pos ⟨trivial,by omega,by omega,trivial⟩];rfl
theorem ab.G_ {t:TypeId} {xo:Operand} {x y:D} {s i o:Nat} {f m:Nat} {fields:Array Field} {fd:Field} {aD:D→Fr} (hg:aB ops fr ⟨some dst,.fieldAddr t xo f,ty,pp,a,g⟩=some true) (hx:fr.ev xo=y) (hR:oY x s i o y) (ht:P.cC t=some (.struct fields)) (hf:fields[f]?=some fd) (hm:bV P fd.type=some m) (vf:m≠0) (hp:∀p,fr.put dst p=aD p)
  (h:∀p,oY x s i (o+fd.offset) p→ab P ops rest (aD p) st Q):ab P ops (⟨some dst,.fieldAddr t xo f,ty,pp,a,g⟩::rest) fr st Q:=by
 obtain⟨k,aA,off,len,h1,h2⟩:=hR;refine ab.go hg rfl (d:=.ptr k aA (off+i*s+(o+fd.offset))) (st1:=st) ?_ (hp _) (h _ ⟨k,aA,off,len,h1,rfl⟩);simp only[dF,hx,h2,ej,ht,hf,Option.bind_some,hm];rw[if_neg (by simp only[Option.some.injEq];exact vf),←Nat.add_assoc];rfl
theorem ab.ki {t:TypeId} {ao:Operand} {x y d:D} {s i o j:Nat} {es:List (List D)} {r:List D} (hH:Has N S st H) (hg:aB ops fr ⟨some dst,.load t ao,ty,pp,a,g⟩=some true) (ha:fr.ev ao=y) (hR:oY x s i o y) (hj:H[j]?=some (.aI x s es)) (hr:es[i]?=some r) (hd:di P t (r.drop o)=some d) (hp:fr.put dst d=aD)
  (h:ab P ops rest aD st Q):ab P ops (⟨some dst,.load t ao,ty,pp,a,g⟩::rest) fr st Q:=by
 obtain⟨k,aA,off,len,rfl,rfl⟩:=hR;have hown:=hH.own hj
 cases hown with
 |win k aA off es c hm hl hc he=>
  refine ab.go hg rfl (d:=d) (st1:=st) ?_ hp h;have h1:=lq he i r hr
  have hil:i<es.length:=by
   rcases Nat.lt_or_ge i es.length with h'|h'
   ·exact h'
   ·rw[List.getElem?_eq_none h'] at hr;cases hr
  have h2:(i+1)*s≤es.length*s:=Nat.mul_le_mul_right s hil;rw[Nat.add_mul,Nat.one_mul] at h2;rw[←hc,List.drop_take,List.take_take,List.drop_drop,Nat.min_eq_left (by omega)] at h1;have rZ:=he r (List.mem_of_getElem? hr);simp only[dF,ha,fS,St.mem_of hm,Option.bind_some];rw[kR (r:=r.drop o) ?_ hd];rfl;rw[List.length_drop,rZ,←h1,List.drop_take,List.drop_drop]
theorem ab.nz {t:TypeId} {ao vo:Operand} {x y v:D} {s i o j:Nat} {es:List (List D)} {r cs:List D} (hH:Has N S st H) (hg:aB ops fr ⟨none,.store t ao vo,ty,pp,a,g⟩=some true) (ha:fr.ev ao=y) (hv:fr.ev vo=v) (hR:oY x s i o y) (i_:v.cells?=some cs) (hs:bV P t=some cs.length) (hj:H[j]?=some (.aI x s es)) (hr:es[i]?=some r) (hl:o+cs.length≤s) (hw:S.flr≤N∨refs cs=0)
  (h:∀af,Has N S af (H.set j (.aI x s (es.set i (setMany r o cs))))→ab P ops rest fr af Q):ab P ops (⟨none,.store t ao vo,ty,pp,a,g⟩::rest) fr st Q:=by
 obtain⟨k,aA,off,len,rfl,rfl⟩:=hR;obtain⟨af,h1,h2⟩:=hH.zD hj hr hl hw;refine ab.N hg rfl (d:=.tup []) (st1:=af) ?_ (h _ h2);simp only[dF,ha,hv,j_,i_,hs,if_pos trivial,h1];rfl
theorem ab.C9 {t e:TypeId} {xo:Operand} {lo hi:Option Operand} {x:D} {s j:Nat} {es:List (List D)} {l r:Nat} {aD:D→Fr} (hH:Has N S st H) (hg:aB ops fr ⟨some dst,.slice t xo lo hi none,ty,pp,a,g⟩=some true) (hx:fr.ev xo=x) (hj:H[j]?=some (.aI x s es)) (ht:P.cC t=some (.slice e)) (hs:bV P e=some s)
  (hb:dh es.length (lo.map fr.ev) (hi.map fr.ev)=some (l,r)) (xJ:l≤r∧r≤es.length) (hp:∀y,fr.put dst y=aD y)
  (h:∀y,Has N S st (H.set j (.aI y s ((es.take r).drop l)))→ab P ops rest (aD y) st Q):ab P ops (⟨some dst,.slice t xo lo hi none,ty,pp,a,g⟩::rest) fr st Q:=by
 have hown:=hH.own hj
 cases hown with
 |nul=>
  simp only[List.length_nil] at hb xJ
  have hy:Has N S st (H.set j (.aI .nul s (([].take r).drop l))):=by
   refine hH.sy hj (fun _ _ _=>rfl) (Nat.le_refl _) rfl rfl (by simp;exact .nul) (fun k hk=>.inl hk) fun k hk=>by simp only[bm.aI,D.ref] at hk;omega
  refine ab.go hg rfl (d:=.nul) (st1:=st) ?_ (hp _) (h _ hy);simp only[dF,hx,gy,ht,hs,Option.bind_some,hb,Option.map_some]
 |win k aA off es c hm hl hc he=>
  have hlen:((es.take r).drop l).length=r-l:=by simp;omega
  have h1:l*s+(r-l)*s≤es.length*s:=by rw[←Nat.add_mul];exact Nat.mul_le_mul_right s (by omega)
  have hk:=(hH.ok j _ hj).2 k (by simp only[bm.aI,D.ref])
  have hy:Has N S st (H.set j (.aI (.win k aA (off+l*s) (r-l) s) s ((es.take r).drop l))):=by
   refine hH.sy hj (fun _ _ _=>rfl) (Nat.le_refl _) rfl rfl ?_ (fun k' jN=>.inl ?_) fun k' jN=>?_
   ·have:=gD.win (st:=st) (s:=s) k aA (off+l*s) ((es.take r).drop l) c hm (by rw[hlen];omega) ?_ (fun e pb=>he e (List.mem_of_mem_take (List.mem_of_mem_drop pb)))
    ·rw[hlen] at this;exact this
    ·rw[hlen];have oT:=cH he
     have e1:∀n,n≤es.length→(es.take n).flatten=es.flatten.take (n*s):=by
      intro n hn;have:es.flatten=(es.take n).flatten++(es.drop n).flatten:=by rw[←List.flatten_append,List.take_append_drop]
      rw[this,List.take_left'];rw[cH (s:=s) (fun e pb=>he e (List.mem_of_mem_take pb)),List.length_take,Nat.min_eq_left hn]
     have e2:((es.take r).drop l).flatten=(es.take r).flatten.drop (l*s):=by
      have h2:(es.take r).flatten=((es.take r).take l).flatten++((es.take r).drop l).flatten:=by rw[←List.flatten_append,List.take_append_drop]
      rw[h2,List.drop_left'];rw[cH (s:=s) (fun e pb=>he e (List.mem_of_mem_take (List.mem_of_mem_take pb))),List.length_take,List.length_take,Nat.min_eq_left (by omega)]
     rw[e2,e1 r xJ.2,←hc,List.take_take,List.drop_take,List.drop_drop,Nat.sub_mul]
     congr 1
     have:r*s≤es.length*s:=Nat.mul_le_mul_right s xJ.2;rw[Nat.min_eq_left this]
   ·simp only[bm.aI,D.ref] at jN⊢;exact jN
   ·simp only[bm.aI,D.ref] at jN;omega
  refine ab.go hg rfl (d:=.win k aA (off+l*s) (r-l) s) (st1:=st) ?_ (hp _) (h _ hy);simp only[dF,hx,gy,ht,hs,Option.bind_some,hb,if_true,Option.map_some]
theorem ab.D2 {s t e:TypeId} {xo:Operand} {b:List UInt8} {aD:Nat→Fr} (hH:Has N S st H) (hg:aB ops fr ⟨some dst,.convert s t xo,ty,pp,a,g⟩=some true) (hx:fr.ev xo=.str b) (h1:P.cC s=some .string) (h2:P.cC t=some (.slice e)) (h3:P.cC e=some (.int .u8)) (hl:b.length<1099511627776) (hp:∀k,fr.put dst (.win k 0 0 b.length 1)=aD k)
  (h:∀k af,S.bs.length≤k→Has N S af (.aI (.win k 0 0 b.length 1) 1 (byteCells b)::H)→ab P ops rest (aD k) af Q):ab P ops (⟨some dst,.convert s t xo,ty,pp,a,g⟩::rest) fr st Q:=by
 have hc:∀b:List UInt8,(byteCells b).flatten=b.map fun y=>.int .u8 (y.toNat:Nat):=by
  intro b
  induction b with
  |nil=>rfl
  |cons y b ih=>simp only[byteCells,List.map_cons,List.flatten_cons] at ih⊢;rw[ih];rfl
 refine ab.go hg rfl (d:=.win st.bs.length 0 0 b.length 1) (st1:=st.push (.mem 0 true (b.map fun y=>.int .u8 (y.toNat:Nat)))) ?_ (hp _) (h _ _ hH.len (hH.ub (by simp[byteCells]) (hc b) (fun e he=>by obtain⟨y,_,rfl⟩:=List.mem_map.1 he;rfl)));simp only[dF,hx,xj,h1,h2,h3,if_pos hl]
theorem ab.eR {f:Operand} {gn:Nat} {iW:List D} {args:Array Operand} {vp:Array TypeId} {d:D} {st1:St} (hg:aB ops fr ⟨some dst,.call ⟨.value f,args,vp⟩,ty,pp,a,g⟩=some true) (hf:fr.ev f=.fn gn iW)
  (h1:Ev P gn (args.toList.map fr.ev++iW) st d st1) (hp:fr.put dst d=aD)
  (h:ab P ops rest aD st1 Q):ab P ops (⟨some dst,.call ⟨.value f,args,vp⟩,ty,pp,a,g⟩::rest) fr st Q:=
 ab.call hg hf h1 (by show ab P ops rest (fr.put dst d) st1 Q;rw[hp];exact h)
theorem qF {m:Mode} {kn:Bool} {st st1:St} {d d':D} (hm:m≠.bO∧m≠.nw) (hS:S.bs=st.bs) (hH:Has st.bs.length S st1 H) (hd:bo st1 st.bs.length kn 16 d=some d'):cP m kn st st1 d=some (d',st):=
 bu hm ((hH.ex.take (by rw[hS])).trans hS) hd
theorem Has.freeze {j:Nat} {x:D} {s:Nat} {es:List (List D)} (hH:Has N S st H) (hj:H[j]?=some (.aI x s es)) (hp:∀e∈es,∀d∈e,cv d=true) {n:Nat} (hn:2≤n):bo st N false (n+1) x=some (.sl (es.map (j7 s))):=by
 obtain⟨n,rfl⟩:∃m,n=m+2:=⟨n-2,by omega⟩
 have hown:=hH.own hj;have hkk:=(hH.ok j _ hj).2
 cases hown with
 |nul=>rfl
 |win k aA off es c hm hl hc he=>
  have hk:=hkk k (by simp only[bm.aI,D.ref]);show(if k<N then some (D.win k aA off es.length s) else ez st N (n+2) (.win k aA off es.length s))=_;rw[if_neg (show¬k<N by omega),ez];simp only[if_neg (show¬k<N by omega),St.mem_of hm,Option.bind_some]
  rw[if_pos hl,hc,jH (fun d hd=>by
   obtain⟨e,pb,Ao⟩:=List.mem_flatten.1 hd
   exact hp e pb d Ao)]
  simp only[Option.map_some,gf he]
end Go.V
namespace Go.V
variable{P:Pv} {ops:Array Oper} {rest:List Oper} {fr aD:Fr} {st:St} {Q:Fr→St→Prop} {ty:TypeId} {pp:String} {a:Array Edge} {g:Option (Nat×Bool)} {dst:Nat}
theorem ax {o:Oper} {j t:Nat} {w v:Bool} (h1:o.guard=some (j,w)) (h2:(ops[j]?).bind (·.dst)=some t) (h3:fr.get t=.bool v) (h4:v=w):aB ops fr o=some true:=by
 unfold aB;simp only[h1,h2,h3,h4,beq_self_eq_true]
theorem bA {o:Oper} {j t:Nat} {w v:Bool} (h1:o.guard=some (j,w)) (h2:(ops[j]?).bind (·.dst)=some t) (h3:fr.get t=.bool v) (h4:v=!w):aB ops fr o=some false:=by
 unfold aB;simp only[h1,h2,h3,h4];cases w<;>rfl
theorem ab.skip {op:Op} (hg:aB ops fr ⟨some dst,op,ty,pp,a,g⟩=some false) (hp:fr.put dst (.tup [])=aD)
  (h:ab P ops rest aD st Q):ab P ops (⟨some dst,op,ty,pp,a,g⟩::rest) fr st Q:=
 ab.off hg (by show ab P ops rest (fr.put dst _) st Q;rw[hp];exact h)
theorem ab.two {l:List Oper} (t:Nat) {v:Bool} (hv:fr.get t=.bool v) (h1:v=true→ab P ops l fr st Q) (h2:v=false→ab P ops l fr st Q):ab P ops l fr st Q:=by
 cases v
 ·exact h2 rfl
 ·exact h1 rfl
theorem ab.cz {c x y:Operand} {v:Bool} (hg:aB ops fr ⟨some dst,.pick c x y,ty,pp,a,g⟩=some true) (hc:fr.ev c=.bool v) (hv:v=true) (hp:fr.put dst (fr.ev x)=aD)
  (h:ab P ops rest aD st Q):ab P ops (⟨some dst,.pick c x y,ty,pp,a,g⟩::rest) fr st Q:=
 ab.go hg rfl (by simp only[dF,hc,hv]) hp h
theorem ab.b_ {c x y:Operand} {v:Bool} (hg:aB ops fr ⟨some dst,.pick c x y,ty,pp,a,g⟩=some true) (hc:fr.ev c=.bool v) (hv:v=false) (hp:fr.put dst (fr.ev y)=aD)
  (h:ab P ops rest aD st Q):ab P ops (⟨some dst,.pick c x y,ty,pp,a,g⟩::rest) fr st Q:=
 ab.go hg rfl (by simp only[dF,hc,hv]) hp h
theorem ah.cut {dy:Dy} {i:Nat} {l:List Oper} {d n loc Jn tmp st} {Q:Out→Fr→St→Prop} (t:Nat) (v:D)
  (h1:ab P l.toArray l ⟨n,loc,[]⟩ st fun aD af=>∃tmp,aD=⟨n,Jn,tmp⟩∧af=st∧look t tmp=v) (h2:∀tmp,look t tmp=v→Q .next ⟨n,Jn,tmp⟩ st) (h0:f_ i dy=[]:=by rfl):ah P dy (.region i l.toArray d) ⟨n,loc,tmp⟩ st Q:=by
 refine ah.fF ?_ h0;unfold ab at h1⊢;obtain⟨aD,af,h3,GW,rfl,rfl,h4⟩:=h1;exact⟨_,_,h3,h2 _ h4⟩
theorem nZ {len n:Nat} {k:IntKind} (h:n≤len):dh len none (some (.int k (n:Nat)))=some (0,n):=by
 simp only[dh,kh,lY,Option.bind_some];rw[if_pos ⟨by omega,by omega⟩];rfl
theorem wrap_i32 {n : Int} (h1 : -2147483648 ≤ n) (h2 : n ≤ 2147483647) : bz .i32 n = n := by
  cases n with
  | ofNat m => exact eK (k := .i32) (m := m) (by simp only [lQ]; have : (Int.ofNat m) = (m : Int) := rfl; omega)
  | negSucc m =>
    unfold bz
    have : Nat.ble (uq .i32) m = false := by
      cases hb : Nat.ble (uq .i32) m with
      | false => rfl
      | true => have := Nat.le_of_ble_eq_true hb; simp only [uq] at this; have : Int.negSucc m = -(m : Int) - 1 := by omega
                omega
    simp only [this]
theorem Mz (x y:Int):(if y>x then y else x)=max x y:=by split<;>omega
theorem My (x y:Int):(if y<x then y else x)=min x y:=by split<;>omega
theorem ab.FC {t1 t2:TypeId} {xo yo:Operand} {k k':IntKind} {x y:Int} {vp:Array TypeId} (hg:aB ops fr ⟨some dst,.call ⟨.builtin .max,#[xo,yo],vp⟩,ty,pp,a,g⟩=some true) (hx:fr.ev xo=.int k x) (hy:fr.ev yo=.int k' y) (hp:fr.put dst (.int k (max x y))=aD)
  (h:ab P ops rest aD st Q):ab P ops (⟨some dst,.call ⟨.builtin .max,#[xo,yo],vp⟩,ty,pp,a,g⟩::rest) fr st Q:=by
 refine ab.go hg rfl (d:=.int k (max x y)) (st1:=st) ?_ hp h;simp only[dF,List.map_cons,List.map_nil,hx,hy,ba,oG,sO,Option.bind_some,Option.map_some,←Mz];rfl
theorem ab.FB {t1 t2:TypeId} {xo yo:Operand} {k k':IntKind} {x y:Int} {vp:Array TypeId} (hg:aB ops fr ⟨some dst,.call ⟨.builtin .min,#[xo,yo],vp⟩,ty,pp,a,g⟩=some true) (hx:fr.ev xo=.int k x) (hy:fr.ev yo=.int k' y) (hp:fr.put dst (.int k (min x y))=aD)
  (h:ab P ops rest aD st Q):ab P ops (⟨some dst,.call ⟨.builtin .min,#[xo,yo],vp⟩,ty,pp,a,g⟩::rest) fr st Q:=by
 refine ab.go hg rfl (d:=.int k (min x y)) (st1:=st) ?_ hp h;simp only[dF,List.map_cons,List.map_nil,hx,hy,ba,oG,sO,Option.bind_some,Option.map_some,←My];rfl
theorem ab.ED {t og:TypeId} {xo yo:Operand} {x y:Int} (hg:aB ops fr ⟨some dst,.binOp .add t xo yo og,ty,pp,a,g⟩=some true) (hx:fr.ev xo=.int .i64 x) (hy:fr.ev yo=.int .i64 y) (h1:-9223372036854775808≤x+y) (h2:x+y≤9223372036854775807) (hp:fr.put dst (.int .i64 (x+y))=aD)
  (h:ab P ops rest aD st Q):ab P ops (⟨some dst,.binOp .add t xo yo og,ty,pp,a,g⟩::rest) fr st Q:=by
 refine ab.go hg rfl (d:=.int .i64 (x+y)) (st1:=st) ?_ hp h;simp only[dF,hx,hy,lZ,wJ,if_pos trivial,Option.map_some,wrap_i64 h1 h2,reduceIte]
theorem ab.EE {t og:TypeId} {xo yo:Operand} {x y:Int} (hg:aB ops fr ⟨some dst,.binOp .add t xo yo og,ty,pp,a,g⟩=some true) (hx:fr.ev xo=.int .i32 x) (hy:fr.ev yo=.int .i32 y) (h1:-2147483648≤x+y) (h2:x+y≤2147483647) (hp:fr.put dst (.int .i32 (x+y))=aD)
  (h:ab P ops rest aD st Q):ab P ops (⟨some dst,.binOp .add t xo yo og,ty,pp,a,g⟩::rest) fr st Q:=by
 refine ab.go hg rfl (d:=.int .i32 (x+y)) (st1:=st) ?_ hp h;simp only[dF,hx,hy,lZ,wJ,if_pos trivial,Option.map_some,wrap_i32 h1 h2,reduceIte]
theorem ab.mv {op:Op} {x:Operand} {d:D} (fM:op=.move x∨op=.assign x) (hg:aB ops fr ⟨some dst,op,ty,pp,a,g⟩=some true) (hx:fr.ev x=d) (hp:fr.put dst d=aD)
  (h:ab P ops rest aD st Q):ab P ops (⟨some dst,op,ty,pp,a,g⟩::rest) fr st Q:=by
 refine ab.go hg ?_ (d:=d) (st1:=st) ?_ hp h<;>rcases fM with rfl|rfl<;>first|rfl|simp only[dF,hx]
def kE (P:Pv) (fields:Array Field) (f:Nat):Option (Nat×Option Nat):=(fields[f]?).map fun fd=>(fd.offset,bV P fd.type)
theorem kD {P:Pv} {fields:Array Field} {f fo m:Nat} (h:kE P fields f=some (fo,some m)):∃fd,fields[f]?=some fd∧fd.offset=fo∧bV P fd.type=some m:=by
 unfold kE at h;obtain⟨fd,h1,h2⟩:=Option.map_eq_some_iff.1 h;simp only[Prod.mk.injEq] at h2;exact⟨fd,h1,h2.1,h2.2⟩
theorem ab.C5 {t:TypeId} {xo:Operand} {k aA off o f fo m:Nat} {fields:Array Field} (hg:aB ops fr ⟨some dst,.fieldAddr t xo f,ty,pp,a,g⟩=some true) (hx:fr.ev xo=.ptr k aA off) (ht:P.cC t=some (.struct fields)) (hf:kE P fields f=some (fo,some (m+1))) (ho:off+fo=o) (hp:fr.put dst (.ptr k aA o)=aD)
  (h:ab P ops rest aD st Q):ab P ops (⟨some dst,.fieldAddr t xo f,ty,pp,a,g⟩::rest) fr st Q:=by
 obtain⟨fd,h1,h2,h3⟩:=kD hf;subst ho;refine ab.go hg rfl (d:=.ptr k aA (off+fo)) (st1:=st) ?_ hp h;simp only[dF,hx,ej,ht,h1,Option.bind_some,h3,h2];rw[if_neg (by simp)];rfl
theorem ab.jD {t:TypeId} {xo:Operand} {x:D} {r:List D} {f fo m:Nat} {fields:Array Field} {aD:D→Fr} (hg:aB ops fr ⟨some dst,.fieldAddr t xo f,ty,pp,a,g⟩=some true) (hx:fr.ev xo=x) (hR:j5 st x r) (ht:P.cC t=some (.struct fields)) (hf:kE P fields f=some (fo,some (m+1))) (hp:∀p,fr.put dst p=aD p)
  (h:∀p,j5 st p (r.drop fo)→ab P ops rest (aD p) st Q):ab P ops (⟨some dst,.fieldAddr t xo f,ty,pp,a,g⟩::rest) fr st Q:=by
 obtain⟨fd,h1,h2,h3⟩:=kD hf;exact ab.G5 hg hx hR ht h1 h3 (by omega) hp (by rw[h2];exact h)
theorem ab.dz {t:TypeId} {xo:Operand} {x y:D} {s i o o2:Nat} {f fo m:Nat} {fields:Array Field} {aD:D→Fr} (hg:aB ops fr ⟨some dst,.fieldAddr t xo f,ty,pp,a,g⟩=some true) (hx:fr.ev xo=y) (hR:oY x s i o y) (ht:P.cC t=some (.struct fields)) (hf:kE P fields f=some (fo,some (m+1))) (ho:o+fo=o2) (hp:∀p,fr.put dst p=aD p)
  (h:∀p,oY x s i o2 p→ab P ops rest (aD p) st Q):ab P ops (⟨some dst,.fieldAddr t xo f,ty,pp,a,g⟩::rest) fr st Q:=by
 obtain⟨fd,h1,h2,h3⟩:=kD hf;subst ho;exact ab.G_ hg hx hR ht h1 h3 (by omega) hp (by rw[h2];exact h)
theorem vB {c cs:List D} (h:cs.length=c.length):setMany c 0 cs=cs:=by
 rw[fW cs c 0 (by omega),List.take_zero,List.nil_append,Nat.zero_add,h,List.drop_length,List.append_nil]
variable{N:Nat} {S:St} {H:List bm}
theorem ab.lp {j k aA:Nat} {ar:Bool} {c cs:List D} {v:D} {t:TypeId} {ao vo:Operand} (hH:Has N S st H) (hg:aB ops fr ⟨none,.store t ao vo,ty,pp,a,g⟩=some true) (ha:fr.ev ao=.ptr k aA 0) (hv:fr.ev vo=v) (i_:v.cells?=some cs) (hs:bV P t=some cs.length) (hj:H[j]?=some (.box k (.mem aA ar c))) (hl:cs.length=c.length) (hw:S.flr≤N∨refs cs=0)
  (h:∀af,Has N S af (H.set j (.box k (.mem aA ar cs)))→ab P ops rest fr af Q):ab P ops (⟨none,.store t ao vo,ty,pp,a,g⟩::rest) fr st Q:=
 ab.ra hH hg ha hv i_ hs hj (by omega) hw (by rw[vB hl];exact h)
theorem tp {place:Nat→Option (Nat×Nat)} {s:Nat} (gR:∀i,place i=some (i*s,s)):∀(vs:List D) (n:Nat) (done rem:List D),done.length=n*s→rem.length=vs.length*s→(∀v∈vs,v.cells?=some v.cells∧v.cells.length=s)→
  gH place (done++rem) (vs.mapIdx fun i v=>(n+i,v))=some (done++(vs.map D.cells).flatten)
 |[],n,done,rem,hd,hr,_=>by
  have:rem=[]:=by cases rem with|nil=>rfl|cons _ _=>simp at hr
  subst this;simp[gH]
 |v::vs,n,done,rem,hd,hr,hv=>by
  obtain⟨h1,h2⟩:=hv v (List.mem_cons_self ..);simp only[List.length_cons,Nat.add_mul,Nat.one_mul] at hr;simp only[List.mapIdx_cons,gH,gR,h1,Nat.add_zero];rw[if_neg (by simp only[h2,ne_eq,not_true_eq_false,List.length_append,false_or];rw[hd,hr];omega)]
  have e1:setMany (done++rem) (n*s) v.cells=(done++v.cells)++rem.drop s:=by
   rw[fW _ _ _ (by simp only[List.length_append];omega),h2,←hd,List.take_left,List.drop_length_add_append]
  have ih:=tp gR vs (n+1) (done++v.cells) (rem.drop s) (by rw[List.length_append,hd,h2,Nat.add_mul,Nat.one_mul]) (by rw[List.length_drop];omega) fun w hw=>hv w (List.mem_cons_of_mem _ hw);rw[e1];have e2:(vs.mapIdx fun i v=>(n+(i+1),v))=vs.mapIdx fun i v=>(n+1+i,v):=by congr 1;funext i v;rw[show n+(i+1)=n+1+i by omega]
  rw[e2,ih];simp[List.append_assoc]
def Ax (fr:Fr):Nat→List (Nat×Operand)→List D→Prop
 |_,[],[]=>True
 |n,(i,o)::ps,v::vs=>i=n∧fr.ev o=v∧Ax fr (n+1) ps vs
 |_,_,_=>False
theorem w_ {fr:Fr}:∀{ps:List (Nat×Operand)} {vs:List D} {n:Nat},Ax fr n ps vs→(ps.map fun p=>(p.1,fr.ev p.2))=vs.mapIdx fun i v=>(n+i,v)
 |[],[],_,_=>rfl
 |(i,o)::ps,v::vs,n,h=>by
  obtain⟨h1,h2,h3⟩:=h;have ih:=w_ h3;simp only[List.map_cons,List.mapIdx_cons,Nat.add_zero];rw[ih,h1,h2]
  congr 1
  congr 1;funext i v;rw[show n+(i+1)=n+1+i by omega]
 |[],_::_,_,h=>h.elim
 |_::_,[],_,h=>h.elim
theorem ab.Ak {t e:TypeId} {m s:Nat} {parts:Array (Nat×Operand)} {z:List D} {vs:List D} {aD:Nat→Fr} (hH:Has N S st H) (hg:aB ops fr ⟨some dst,.buildSlice t m parts,ty,pp,a,g⟩=some true) (ht:P.cC t=some (.slice e)) (hs:bV P e=some s) (hz:de P e=some z) (ln:z.length=s) (hm:m*s≤16777216)
  (Lv:Ax fr 0 parts.toList vs) (Jz:vs.length=m) (hc:∀v∈vs,v.cells?=some v.cells∧v.cells.length=s) (hp:∀k,fr.put dst (.win k 0 0 m s)=aD k)
  (h:∀k af,S.bs.length≤k→Has N S af (.aI (.win k 0 0 m s) s (vs.map D.cells)::H)→ab P ops rest (aD k) af Q):ab P ops (⟨some dst,.buildSlice t m parts,ty,pp,a,g⟩::rest) fr st Q:=by
 have Ch:=w_ Lv;have hf:=tp (place:=fun i=>some (i*s,s)) (fun _=>rfl) vs 0 [] (eu m z) (by simp) (by simp[eu,Jz,ln]) hc
 refine ab.go hg rfl (d:=.win st.bs.length 0 0 m s) (st1:=st.push (.mem 0 true (vs.map D.cells).flatten)) ?_ (hp _) (h _ _ hH.len (hH.ub (by simpa using Jz) rfl (fun e he=>by
  obtain⟨v,hv,rfl⟩:=List.mem_map.1 he
  exact(hc v hv).2)))
 simp only[dF,gq,ht,hs,hz,Option.bind_some];rw[if_pos ⟨ln,hm⟩,Ch];simp only[List.nil_append] at hf;rw[hf];rfl
theorem ab.bN {j k aA off m:Nat} {ar:Bool} {c r:List D} {t:TypeId} {ao:Operand} (hH:Has N S st H) (hg:aB ops fr ⟨some dst,.load t ao,ty,pp,a,g⟩=some true) (ha:fr.ev ao=.ptr k aA off) (hj:H[j]?=some (.box k (.mem aA ar c))) (hr:(c.drop off).take m=r) (hd:di P t r=some (.agg r)) (hm:r.length=m) (hp:fr.put dst (.agg r)=aD)
  (h:ab P ops rest aD st Q):ab P ops (⟨some dst,.load t ao,ty,pp,a,g⟩::rest) fr st Q:=
 ab.mz hH hg ha hj (kR (r:=r) (by rw[hm];exact hr) hd) hp h
theorem aR {α:Type} {l:List α} {i:Nat} {a:α} (h:l[i]?=some a):i<l.length:=by
 rcases Nat.lt_or_ge i l.length with h'|h'
 ·exact h'
 ·rw[List.getElem?_eq_none h'] at h;cases h
theorem ab.eB {t:TypeId} {ao:Operand} {x:D} {r:List D} (hg:aB ops fr ⟨some dst,.load t ao,ty,pp,a,g⟩=some true) (ha:fr.ev ao=x) (hR:j5 st x r) (hd:di P t r=some (.agg r)) (hp:fr.put dst (.agg r)=aD)
  (h:ab P ops rest aD st Q):ab P ops (⟨some dst,.load t ao,ty,pp,a,g⟩::rest) fr st Q:=ab.kb hg ha hR hd hp h
theorem ab.ue {t:TypeId} {ao:Operand} {x y:D} {s i j:Nat} {es:List (List D)} {r:List D} (hH:Has N S st H) (hg:aB ops fr ⟨some dst,.load t ao,ty,pp,a,g⟩=some true) (ha:fr.ev ao=y) (hR:oY x s i 0 y) (hj:H[j]?=some (.aI x s es)) (hr:es[i]?=some r) (hd:di P t r=some (.agg r)) (hp:fr.put dst (.agg r)=aD)
  (h:ab P ops rest aD st Q):ab P ops (⟨some dst,.load t ao,ty,pp,a,g⟩::rest) fr st Q:=ab.ki hH hg ha hR hj hr (by rw[List.drop_zero];exact hd) hp h
theorem ab.lD {t og:TypeId} {xo yo:Operand} {x y z:Int} {k:IntKind} (hg:aB ops fr ⟨some dst,.binOp .add t xo yo og,ty,pp,a,g⟩=some true) (hx:fr.ev xo=.int k x) (hy:fr.ev yo=.int k y) (hz:bz k (x+y)=z) (hp:fr.put dst (.int k z)=aD)
  (h:ab P ops rest aD st Q):ab P ops (⟨some dst,.binOp .add t xo yo og,ty,pp,a,g⟩::rest) fr st Q:=by
 refine ab.go hg rfl (d:=.int k z) (st1:=st) ?_ hp h;simp only[dF,hx,hy,lZ,wJ,if_pos trivial,Option.map_some,hz,reduceIte]
theorem ab.oM {t og:TypeId} {xo yo:Operand} {x y z:Int} {k:IntKind} (hg:aB ops fr ⟨some dst,.binOp .sub t xo yo og,ty,pp,a,g⟩=some true) (hx:fr.ev xo=.int k x) (hy:fr.ev yo=.int k y) (hz:bz k (x-y)=z) (hp:fr.put dst (.int k z)=aD)
  (h:ab P ops rest aD st Q):ab P ops (⟨some dst,.binOp .sub t xo yo og,ty,pp,a,g⟩::rest) fr st Q:=by
 refine ab.go hg rfl (d:=.int k z) (st1:=st) ?_ hp h;simp only[dF,hx,hy,lZ,wJ,if_pos trivial,Option.map_some,hz,reduceIte]
theorem ab.yp {t og:TypeId} {xo yo:Operand} {x y z:Int} {k:IntKind} (hg:aB ops fr ⟨some dst,.binOp .mul t xo yo og,ty,pp,a,g⟩=some true) (hx:fr.ev xo=.int k x) (hy:fr.ev yo=.int k y) (hz:bz k (x*y)=z) (hp:fr.put dst (.int k z)=aD)
  (h:ab P ops rest aD st Q):ab P ops (⟨some dst,.binOp .mul t xo yo og,ty,pp,a,g⟩::rest) fr st Q:=by
 refine ab.go hg rfl (d:=.int k z) (st1:=st) ?_ hp h;simp only[dF,hx,hy,lZ,wJ,if_pos trivial,Option.map_some,hz,reduceIte]
theorem ab.Mx {t og:TypeId} {xo yo:Operand} {x y:D} {b:Bool} (hg:aB ops fr ⟨some dst,.binOp .neq t xo yo og,ty,pp,a,g⟩=some true) (hx:fr.ev xo=x) (hy:fr.ev yo=y) (hb:lZ P .neq t x y=some (.bool b)) (hp:fr.put dst (.bool b)=aD)
  (h:ab P ops rest aD st Q):ab P ops (⟨some dst,.binOp .neq t xo yo og,ty,pp,a,g⟩::rest) fr st Q:=by
 refine ab.go hg rfl (d:=.bool b) (st1:=st) ?_ hp h;simp only[dF,hx,hy,hb,Option.map_some]
theorem Ev.ko {f:Nat} {x:Fi} {body:Code} {args:List D} {st:St} {n:Nat} {loc:List D} {EH:D→St→Prop} (hq:kr f P.prm=none) (hf:P.fi f=some x) (hp:x.jW=none) (hb:x.fn.body=some body) (DL:pad x.nloc args=⟨n,loc,[]⟩)
  (h:ah P x.dyn body ⟨n,loc,[]⟩ (ag x.mode st) fun o fr st1=>(∀i,o≠.exit i)∧∃ds d af,jE P fr st1 x.fn.results.toList=some ds∧cP x.mode x.knul st st1 (rT ds)=some (d,af)∧EH d af):∃d af,Ev P f args st d af∧EH d af:=by
 unfold ah at h;obtain⟨o,aD,st1,hN,ho,ds,d,af,hr,hl,DH⟩:=h;refine⟨d,af,Ev.o9 hq hf hp hb DL ?_,DH⟩;unfold ah;exact⟨o,aD,st1,hN,ho,ds,hr,hl⟩
def EI (M:Fr→St→Prop) (Q:Out→Fr→St→Prop):Out→Fr→St→Prop
 | .next,fr,st=>M fr st
 | .exit i,fr,st=>Q (.exit i) fr st
 | .ret,fr,st=>Q .ret fr st
theorem ah.merge {P:Pv} {dy:Dy} {c:Code} {fr:Fr} {st:St} {Q:Out→Fr→St→Prop} (M:Fr→St→Prop) (h1:ah P dy c fr st (EI M Q)) (h2:∀aD af,M aD af→Q .next aD af):ah P dy c fr st Q:=
 h1.mono fun o aD af h=>by
  cases o with
  |next=>exact h2 _ _ h
  |exit i=>exact h
  |ret=>exact h
theorem ab.Lm {t og:TypeId} {xo yo:Operand} {x y:Nat} (hg:aB ops fr ⟨some dst,.binOp .add t xo yo og,ty,pp,a,g⟩=some true) (hx:fr.ev xo=.int .i64 (x:Nat)) (hy:fr.ev yo=.int .i64 (y:Nat)) (h2:x+y≤9223372036854775807) (hp:fr.put dst (.int .i64 ((x+y:Nat):Int))=aD)
  (h:ab P ops rest aD st Q):ab P ops (⟨some dst,.binOp .add t xo yo og,ty,pp,a,g⟩::rest) fr st Q:=
 ab.lD hg hx hy (by rw[wrap_i64 (by omega) (by omega)];rfl) hp h
theorem Ev.He {f:Nat} {x:Fi} {body:Code} {args:List D} {st:St} {n:Nat} {loc:List D} {EH:D→Prop} (hq:kr f P.prm=none) (hf:P.fi f=some x) (hp:x.jW=none) (hb:x.fn.body=some body) (DL:pad x.nloc args=⟨n,loc,[]⟩)
  (h:ah P x.dyn body ⟨n,loc,[]⟩ (ag x.mode st) fun o fr st1=>(∀i,o≠.exit i)∧∃ds d,jE P fr st1 x.fn.results.toList=some ds∧cP x.mode x.knul st st1 (rT ds)=some (d,st)∧EH d):∃d,Ev P f args st d st∧EH d:=by
 unfold ah at h;obtain⟨o,aD,st1,hN,ho,ds,d,hr,hl,DH⟩:=h;refine⟨d,Ev.o9 hq hf hp hb DL ?_,DH⟩;unfold ah;exact⟨o,aD,st1,hN,ho,ds,hr,hl⟩
def aX (loc:List D) (ws:List Nat) (f:Nat→D):List D:=ws.foldl (fun l w=>l.set w (f w)) loc
theorem ah.mH {P:Pv} {dy:Dy} {i:Nat} {l:List Oper} {d n loc tmp st} {Q:Out→Fr→St→Prop} (t:Nat) (v:D) (ws:List Nat)
  (h1:ab P l.toArray l ⟨n,loc,[]⟩ st fun aD af=>∃f tmp,aD=⟨n,(aX loc ws f).set t v,tmp⟩∧af=st) (h2:∀f tmp,Q .next ⟨n,(aX loc ws f).set t v,tmp⟩ st) (h0:f_ i dy=[]:=by rfl):ah P dy (.region i l.toArray d) ⟨n,loc,tmp⟩ st Q:=by
 refine ah.fF ?_ h0;unfold ab at h1⊢;obtain⟨aD,af,h3,f,GW,rfl,rfl⟩:=h1;exact⟨_,_,h3,h2 _ _⟩
theorem ah.lB {P:Pv} {dy:Dy} {i:Nat} {l:List Oper} {d n loc tmp st} {Q:Out→Fr→St→Prop} (t:Nat) (v:D) (ws:List Nat)
  (h1:ab P l.toArray l ⟨n,loc,[]⟩ st fun aD af=>∃f tmp,aD=⟨n,aX loc ws f,tmp⟩∧af=st∧look t tmp=v) (h2:∀f tmp,look t tmp=v→Q .next ⟨n,aX loc ws f,tmp⟩ st) (h0:f_ i dy=[]:=by rfl):ah P dy (.region i l.toArray d) ⟨n,loc,tmp⟩ st Q:=by
 refine ah.fF ?_ h0;unfold ab at h1⊢;obtain⟨aD,af,h3,f,GW,rfl,rfl,h4⟩:=h1;exact⟨_,_,h3,h2 _ _ h4⟩
theorem aT {n:Nat} {L loc:List D} {tP:List (Nat×D)} {ws:List Nat} {t:Nat} {v:D} {st:St} (h:L=(aX loc ws (fun k=>nth .bh L k)).set t v):∃(f:Nat→D) (tmp:List (Nat×D)),(⟨n,L,tP⟩:Fr)=⟨n,(aX loc ws f).set t v,tmp⟩∧st=st:=⟨_,tP,by rw[←h],rfl⟩
theorem cA {n:Nat} {L loc:List D} {tP:List (Nat×D)} {ws:List Nat} {t:Nat} {v:D} {st:St} (h:L=aX loc ws (fun k=>nth .bh L k)) (h2:look t tP=v):∃(f:Nat→D) (tmp:List (Nat×D)),(⟨n,L,tP⟩:Fr)=⟨n,aX loc ws f,tmp⟩∧st=st∧look t tmp=v:=⟨_,tP,by rw[←h],rfl,h2⟩
theorem B3 {x y:Oper} {fi fj:Fr} {si rV sj Gn:St} {a:Operand} {k aA off v:Nat} {ar:Bool} {c:List D} (hy:gF y.op=none) (hx:gF x.op=some a) (ha:fi.ev a=.ptr k aA off) (h1:sj.bs[k]?=some (.mem v ar c)) (h2:Gn.bs[k]?=some (.mem v ar c)) (h3:si.bs[k]?=some (.mem v ar c)) (hr:refs c=0):jG x fi si rV y fj sj Gn=true:=by
 unfold jG;simp only[hy,hx,ha,D.mP,Bool.and_eq_true];refine⟨sB h1 h2,?_⟩;unfold lK;simp only[h3,hr]
 split
 ·rfl
 ·simp
def gU (x:D) (s:Nat) (es:List (List D)):Prop:=(x=.nul∧es=[])∨∃ds,x=.sl ds∧ds.map D.cells=es∧∀d∈ds,d.cells?=some d.cells∧d.cells.length=s
theorem gU.rows {x:D} {s:Nat} {es:List (List D)} (h:gU x s es) (st:St):Rows st s x es:=by
 rcases h with⟨rfl,rfl⟩|⟨ds,rfl,rfl,h⟩
 ·exact .nul
 ·exact .sl ds h
theorem gU.ref {x:D} {s:Nat} {es:List (List D)} (h:gU x s es):x.ref=0:=by
 rcases h with⟨rfl,rfl⟩|⟨ds,rfl,rfl,h⟩<;>rfl
theorem gU.arg {x:D} {s:Nat} {es:List (List D)} (h:gU x s es) (N:Nat) (S:St):Arg N S s x es:=⟨h.rows S,by rw[h.ref];omega⟩
theorem gU.cells {x:D} {s:Nat} {es:List (List D)} (h:gU x s es):x.cells?=some [x]∧x.cells=[x]:=by
 rcases h with⟨rfl,rfl⟩|⟨ds,rfl,rfl,h⟩<;>exact⟨rfl,rfl⟩
theorem gU.freeze {x:D} {s:Nat} {es:List (List D)} (h:gU x s es) (st:St) (N n:Nat):∃y,bo st N false (n+1) x=some y∧gU y s es:=by
 rcases h with⟨rfl,rfl⟩|⟨ds,rfl,rfl,h⟩
 ·exact⟨.sl [],rfl,.inr ⟨[],rfl,rfl,fun d hd=>by cases hd⟩⟩
 ·exact⟨.sl ds,rfl,.inr ⟨ds,rfl,rfl,h⟩⟩
theorem gU.frozen {s:Nat} {es:List (List D)} (h:∀e∈es,e.length=s) (hp:∀e∈es,∀d∈e,cv d=true):gU (.sl (es.map (j7 s))) s es:=by
 refine .inr ⟨_,rfl,?_,fun d hd=>?_⟩
 ·rw[List.map_map]
  conv=>rhs;rw[←List.map_id es]
  refine List.map_congr_left fun e he=>?_;exact(lv (h e he) (hp e he)).2
 ·obtain⟨e,he,rfl⟩:=List.mem_map.1 hd;obtain⟨h1,h2⟩:=lv (h e he) (hp e he);exact⟨h1,by rw[h2];exact h e he⟩
theorem gU.part {P:Pv} {st:St} {t e:TypeId} {x:D} {s l r:Nat} {es:List (List D)} {lo hi:Option D} (h:gU x s es) (ht:P.cC t=some (.slice e)) (hs:bV P e=some s) (hb:dh es.length lo hi=some (l,r)):∃y,gy P t x lo hi st=some y∧gU y s ((es.take r).drop l):=by
 rcases h with⟨rfl,rfl⟩|⟨ds,rfl,rfl,h⟩
 ·simp only[List.length_nil] at hb;refine⟨.nul,?_,.inl ⟨rfl,by simp⟩⟩;simp only[gy,ht,hs,Option.bind_some,hb,Option.map_some]
 ·rw[List.length_map] at hb;refine⟨.sl ((ds.take r).drop l),?_,.inr ⟨_,rfl,by rw[List.map_drop,List.map_take],fun d hd=>h d (List.mem_of_mem_take (List.mem_of_mem_drop hd))⟩⟩;simp only[gy,ht,hs,Option.bind_some]
  rw[if_pos (by
   cases ds with
   |nil=>rfl
   |cons d ds=>obtain⟨h1,h2⟩:=h d (List.mem_cons_self ..);simp[rk,h1,h2])]
  simp only[hb,Option.map_some]
end Go.V
namespace Go.V
inductive cF {α β:Type} (R:α→β→Prop):List α→List β→Prop where
 |nil:cF R [] []
 |cons {a:α} {b:β} {l:List α} {m:List β} (h:R a b) (t:cF R l m):cF R (a::l) (b::m)
theorem cF.mono {α β:Type} {R R':α→β→Prop} (h:∀a b,R a b→R' a b):∀{l:List α} {m:List β},cF R l m→cF R' l m
 |_,_,.nil=>.nil
 |_,_,.cons a t=>.cons (h _ _ a) (t.mono h)
theorem cF.append {α β:Type} {R:α→β→Prop}:∀{l l':List α} {m m':List β},cF R l m→cF R l' m'→cF R (l++l') (m++m')
 |_,_,_,_,.nil,h=>h
 |_,_,_,_,.cons a t,h=>.cons a (t.append h)
theorem cF.len {α β:Type} {R:α→β→Prop}:∀{l:List α} {m:List β},cF R l m→l.length=m.length
 |_,_,.nil=>rfl
 |_,_,.cons a t=>by simp[t.len]
inductive ft (st:St) (ks:Nat→Prop):D→D→Prop where
 |plain (d:D) (h:cv d=true):ft st ks d d
 |aI (w:D) (s:Nat) (rs:List (List D)) (h:gD st s w rs) (hp:∀e∈rs,∀d∈e,cv d=true) (hk:∀k,w.ref=k+1→ks k):ft st ks w (.sl (rs.map (j7 s)))
theorem ft.mono {st:St} {ks Js:Nat→Prop} (h:∀k,ks k→Js k) {d v:D} (p:ft st ks d v):ft st Js d v:=by
 cases p with
 |plain h=>exact .plain d h
 |aI s rs h1 h2 h3=>exact .aI d s rs h1 h2 fun k hk=>h k (h3 k hk)
theorem ft.move {st af:St} {ks:Nat→Prop} (h:∀k,ks k→af.bs[k]?=st.bs[k]?) {d v:D} (p:ft st ks d v):ft af ks d v:=by
 cases p with
 |plain h=>exact .plain d h
 |aI s rs h1 h2 h3=>exact .aI d s rs (h1.move fun k hk=>h k (h3 k hk)) h2 h3
theorem gD.Jb {st:St} {s N:Nat} {x:D} {es:List (List D)} (h:gD st s x es) (hN:∀k,x.ref=k+1→N≤k) (hp:∀e∈es,∀d∈e,cv d=true) (n:Nat):ez st N (n+2) x=some (.sl (es.map (j7 s))):=by
 cases h with
 |nul=>rfl
 |win k aA off es c hm hl hc he=>
  have:=hN k (by simp only[D.ref]);rw[ez];simp only[if_neg (show¬k<N by omega),St.mem_of hm,Option.bind_some]
  rw[if_pos hl,hc,jH (fun d hd=>by
   obtain⟨e,pb,Ao⟩:=List.mem_flatten.1 hd
   exact hp e pb d Ao)]
  simp only[Option.map_some,gf he]
theorem ft.pure {st:St} {ks:Nat→Prop} {N:Nat} (hN:∀k,ks k→N≤k) {d v:D} (p:ft st ks d v) (n:Nat):ez st N (n+2) d=some v:=by
 cases p with
 |plain h=>cases d<;>simp[cv] at h<;>rfl
 |aI s rs h1 h2 h3=>exact h1.Jb (fun k hk=>hN k (h3 k hk)) h2 n
theorem sZ {f:D→Option D} {R:D→D→Prop} (h:∀a b,R a b→f a=some b):∀{l m:List D},cF R l m→iv f l=some m
 |_,_,.nil=>rfl
 |_,_,.cons a t=>by simp only[iv,h _ _ a,sZ h t]
theorem cF.flat {R:D→D→Prop}:∀{l m:List (List D)},cF (cF R) l m→cF R l.flatten m.flatten
 |_,_,.nil=>.nil
 |_,_,.cons a t=>by simp only[List.flatten_cons];exact a.append t.flat
theorem cF.each {s:Nat} {R:D→D→Prop}:∀{l m:List (List D)},cF (cF R) l m→(∀e∈l,e.length=s)→∀e∈m,e.length=s
 |_,_,.nil,_,e,he=>by cases he
 |_,_,.cons a t,h,e,he=>by
  rcases List.mem_cons.1 he with rfl|he
  ·rw[←a.len];exact h _ (List.mem_cons_self ..)
  ·exact t.each (fun x hx=>h x (List.mem_cons_of_mem _ hx)) e he
def bm.emp:bm:=⟨fun _=>False,fun _=>True,fun _ p=>p⟩
def bm.deep (ks:Nat→Prop) (x:D) (s:Nat) (vs:List (List D)):bm:=
 ⟨fun j=>x.ref=j+1∨ks j,fun st=>(∃es,gD st s x es∧cF (cF (ft st ks)) es vs)∧∀k,x.ref=k+1→¬ks k,fun h p=>by
  obtain⟨⟨es,h1,h2⟩,h3⟩:=p
  exact⟨⟨es,h1.move fun k hk=>h k (.inl hk),h2.mono fun a b=>cF.mono fun c d=>ft.move fun k hk=>h k (.inr hk)⟩,h3⟩⟩
variable{N:Nat} {S st:St} {H:List bm}
theorem Has.Jg (h:Has N S st H) (s:Nat):Has N S st (.deep (fun _=>False) .nul s []::H):=
 h.add (fun _ _=>rfl) (Nat.le_refl _) rfl rfl ⟨⟨[],.nul,.nil⟩,fun k hk=>by simp only[D.ref] at hk;omega⟩ fun k hk=>by
  rcases hk with hk|hk
  ·simp only[D.ref] at hk;omega
  ·exact hk.elim
theorem Has.EF {i j:Nat} {w x:D} {sw s:Nat} {rs vs:List (List D)} {ks:Nat→Prop} (h:Has N S st H) (hij:i≠j) (hi:H[i]?=some (.aI w sw rs)) (hj:H[j]?=some (.deep ks x s vs)) (hp:∀e∈rs,∀d∈e,cv d=true):
  Has N S st ((H.set i .emp).set j (.deep (fun k=>ks k∨w.ref=k+1) x s vs))∧ft st (fun k=>ks k∨w.ref=k+1) w (.sl (rs.map (j7 sw))):=by
 have RC:=h.own hi;obtain⟨⟨es,h1,h2⟩,h3⟩:=(h.ok j _ hj).1;have TZ:=(h.ok i _ hi).2;have QB:=(h.ok j _ hj).2;have N5:=h.dis i j _ _ hij hi hj;refine⟨⟨h.ex,h.hN,h.gb,fun n e hn=>?_,fun a b ea eb hab ha hb k wT jw=>?_⟩,.aI w sw rs RC hp fun k hk=>.inr hk⟩
 ·by_cases hnj:n=j
  ·subst hnj;rw[List.getElem?_set_self (by rw[List.length_set];exact aR hj)] at hn;cases hn;refine⟨⟨⟨es,h1,h2.mono fun a b=>cF.mono fun c d=>ft.mono fun k hk=>.inl hk⟩,fun k hk=>?_⟩,fun k hk=>?_⟩
   ·rintro(hk2|hk2)
    ·exact h3 k hk hk2
    ·exact N5 k hk2 (.inl hk)
   ·rcases hk with hk|hk|hk
    ·exact QB k (.inl hk)
    ·exact QB k (.inr hk)
    ·exact TZ k hk
  ·rw[List.getElem?_set_ne (fun e=>hnj e.symm)] at hn
   by_cases hni:n=i
   ·subst hni;rw[List.getElem?_set_self (aR hi)] at hn;cases hn;exact⟨trivial,fun k hk=>hk.elim⟩
   ·rw[List.getElem?_set_ne (fun e=>hni e.symm)] at hn;exact h.ok n e hn
 ·have key:∀n e,((H.set i .emp).set j (.deep (fun k=>ks k∨w.ref=k+1) x s vs))[n]?=some e→∀k,e.K k→(n=j∧((bm.deep ks x s vs).K k∨(bm.aI w sw rs).K k))∨(n≠j∧n≠i∧H[n]?=some e):=by
   intro n e hn k hk
   by_cases hnj:n=j
   ·subst hnj;rw[List.getElem?_set_self (by rw[List.length_set];exact aR hj)] at hn;cases hn;refine .inl ⟨rfl,?_⟩
    rcases hk with hk|hk|hk
    ·exact .inl (.inl hk)
    ·exact .inl (.inr hk)
    ·exact .inr hk
   ·rw[List.getElem?_set_ne (fun e=>hnj e.symm)] at hn
    by_cases hni:n=i
    ·subst hni;rw[List.getElem?_set_self (aR hi)] at hn;cases hn;exact hk.elim
    ·rw[List.getElem?_set_ne (fun e=>hni e.symm)] at hn;exact .inr ⟨hnj,hni,hn⟩
  rcases key a ea ha k wT with⟨h4,h5⟩|⟨h4,h5,h6⟩<;>rcases key b eb hb k jw with⟨g4,g5⟩|⟨g4,g5,g6⟩
  ·exact hab (h4.trans g4.symm)
  ·rcases h5 with h5|h5
   ·exact h.dis j b _ _ (fun e=>g4 e.symm) hj g6 k h5 jw
   ·exact h.dis i b _ _ (fun e=>g5 e.symm) hi g6 k h5 jw
  ·rcases g5 with g5|g5
   ·exact h.dis a j _ _ h4 h6 hj k wT g5
   ·exact h.dis a i _ _ h5 h6 hi k wT g5
  ·exact h.dis a b _ _ hab h6 g6 k wT jw
theorem Has.pf {P:Pv} {j:Nat} {x y:D} {s:Nat} {ks:Nat→Prop} {vs ys IY:List (List D)} (hH:Has N S st H) (hj:H[j]?=some (.deep ks x s vs)) (hy:Rows st s y ys) (hd:cF (cF (ft st ks)) ys IY) {t1 t2 e:TypeId} {td:TypeDesc} {inf:TypeInfo} {z:List D}
  (h1:P.cC t1=some (.slice e)) (h2:P.cC t2=some td) (h3:ga td=false) (h4:P.info e=some inf) (h5:de P e=some z) (h6:inf.size=s) (h7:z.length=s) (h8:0<inf.bytes∧inf.bytes≤1024)
  (rn:vs.length+ys.length≤1073741824) (hw:S.flr≤N∨refs ys.flatten=0):
  ∃x' af,ba P .append [t1,t2] [x,y] st=some (x',af)∧Has N S af (H.set j (.deep ks x' s (vs++IY))):=by
 obtain⟨⟨es,he1,yN⟩,he3⟩:=(hH.ok j _ hj).1;have hK:=(hH.ok j _ hj).2;have hlen:=yN.len
 have Cp:Has N S st [.aI x s es]:=by
  refine⟨hH.ex,hH.hN,hH.gb,fun i e hi=>?_,fun i i' a b hii ha hb k wT jw=>?_⟩
  ·cases i with
   |zero=>simp only[List.getElem?_cons_zero,Option.some.injEq] at hi;subst hi;exact⟨he1,fun k hk=>hK k (.inl hk)⟩
   |succ i=>simp at hi
  ·cases i with
   |zero=>cases i' with
    |zero=>exact hii rfl
    |succ i'=>simp at hb
   |succ i=>simp at ha
 obtain⟨x',af,q1,q2,q3⟩:=Cp.append (j:=0) aS hy h1 h2 h3 h4 h5 h6 h7 h8 (by omega) hw;refine⟨x',af,q1,?_⟩;have hown:=q2.own (j:=0) aS
 have N':(∀k,k<st.bs.length→x.ref≠k+1→af.bs[k]?=st.bs[k]?)∧st.bs.length≤af.bs.length∧af.flr=st.flr∧af.ro=st.ro∧(∀k,x'.ref=k+1→x.ref=k+1∨st.bs.length≤k):=by
  have jZ:=hy.row
  have DC:∀e∈ys,e.length=s:=fun e he=>by
   obtain⟨i,hi⟩:=List.getElem?_of_mem he;exact hy.uX i e hi
  simp only[ba,gN,h1,h2,h3,Bool.false_eq_true,if_false,h4,h5,jZ,Option.bind_some] at q1
  split at q1
  ·cases q1
  ·cases he1 with
   |nul=>
    simp only at q1
    split at q1
    ·cases q1;exact⟨fun _ _ _=>rfl,Nat.le_refl _,rfl,rfl,fun k hk=>.inl hk⟩
    ·split at q1
     ·cases q1;exact⟨fun k hk _=>by simp only[St.push];rw[List.getElem?_append_left hk],by simp[St.push],rfl,rfl,fun k hk=>.inr (by simp only[D.ref] at hk;omega)⟩
     ·cases q1
   |win k aA off es c hm hl hc he=>
    simp only[St.mem_of hm] at q1
    split at q1
    ·cases q1
    ·split at q1
     ·cases q1;exact⟨fun _ _ _=>rfl,Nat.le_refl _,rfl,rfl,fun k hk=>.inl hk⟩
     ·split at q1
      ·cases q1;exact⟨fun n hn hne=>by simp only;rw[List.getElem?_set_ne (fun e=>hne (by simp only[D.ref];omega))],by simp,rfl,rfl,fun n hn=>.inl (by simp only[D.ref] at hn⊢;exact hn)⟩
      ·cases q1
 obtain⟨c1,c2,c3,c4,c5⟩:=N';have Hl:=(q2.ok 0 _ aS).2;have wS:∀k,ks k→af.bs[k]?=st.bs[k]?:=fun k hk=>c1 k (hK k (.inr hk)).2 fun e=>he3 k e hk;refine hH.sy hj (fun k hk hne=>c1 k hk fun e=>hne (.inl e)) c2 c3 c4 ⟨⟨es++ys,hown,?_⟩,fun k hk l6=>?_⟩ (fun k hk=>?_) fun k hk=>?_
 ·exact(yN.mono fun a b=>cF.mono fun c d=>ft.move wS).append (hd.mono fun a b=>cF.mono fun c d=>ft.move wS)
 ·rcases c5 k hk with h|h
  ·exact he3 k h l6
  ·have:=(hK k (.inr l6)).2;omega
 ·rcases hk with hk|hk
  ·rcases c5 k hk with h|h
   ·exact .inl (.inl h)
   ·exact .inr h
  ·exact .inl (.inr hk)
 ·rcases hk with hk|hk
  ·exact(Hl k hk).2
  ·exact Nat.lt_of_lt_of_le (hK k (.inr hk)).2 c2
theorem ab.pf {P:Pv} {ops:Array Oper} {rest:List Oper} {fr:Fr} {Q:Fr→St→Prop} {ty:TypeId} {pp:String} {a:Array Edge} {g:Option (Nat×Bool)} {dst:Nat} {j:Nat} {x y:D} {s:Nat} {ks:Nat→Prop} {vs ys IY:List (List D)} {t1 t2 e:TypeId} {td:TypeDesc} {inf:TypeInfo} {z:List D} {xo yo:Operand} {aD:D→Fr} (hH:Has N S st H) (hg:aB ops fr ⟨some dst,.call ⟨.builtin .append,#[xo,yo],#[t1,t2]⟩,ty,pp,a,g⟩=some true)
  (hx:fr.ev xo=x) (hy:fr.ev yo=y) (hj:H[j]?=some (.deep ks x s vs)) (j6:Rows st s y ys) (hd:cF (cF (ft st ks)) ys IY)
  (h1:P.cC t1=some (.slice e)) (h2:P.cC t2=some td) (h3:ga td=false) (h4:P.info e=some inf) (h5:de P e=some z) (h6:inf.size=s) (h7:z.length=s) (h8:0<inf.bytes∧inf.bytes≤1024)
  (hp:∀x',fr.put dst x'=aD x') (hb:vs.length+ys.length≤1073741824) (hw:S.flr≤N∨refs ys.flatten=0)
  (h:∀x' af,Has N S af (H.set j (.deep ks x' s (vs++IY)))→ab P ops rest (aD x') af Q):
  ab P ops (⟨some dst,.call ⟨.builtin .append,#[xo,yo],#[t1,t2]⟩,ty,pp,a,g⟩::rest) fr st Q:=by
 obtain⟨x',af,q1,q2⟩:=hH.pf hj j6 hd h1 h2 h3 h4 h5 h6 h7 h8 hb hw;refine ab.go hg rfl (d:=x') (st1:=af) ?_ (hp _) (h x' af q2);simp only[dF,List.map_cons,List.map_nil,hx,hy];exact q1
theorem Has.w6 {j:Nat} {x:D} {s:Nat} {ks:Nat→Prop} {vs:List (List D)} (hH:Has N S st H) (hj:H[j]?=some (.deep ks x s vs)) {n:Nat} (hn:4≤n):bo st N false (n+1) x=some (.sl (vs.map (j7 s))):=by
 obtain⟨n,rfl⟩:∃m,n=m+4:=⟨n-4,by omega⟩
 obtain⟨⟨es,h1,h2⟩,h3⟩:=(hH.ok j _ hj).1;have hK:=(hH.ok j _ hj).2
 cases h1 with
 |nul=>cases h2;rfl
 |win k aA off es c hm hl hc he=>
  have hk:=hK k (.inl (by simp only[D.ref]));show(if k<N then some (D.win k aA off es.length s) else ez st N (n+4) (.win k aA off es.length s))=_;rw[if_neg (show¬k<N by omega),ez];simp only[if_neg (show¬k<N by omega),St.mem_of hm,Option.bind_some];rw[if_pos hl,hc,sZ (fun a b hab=>hab.pure (fun k hk=>(hK k (.inr hk)).1) (n+1)) h2.flat];simp only[Option.map_some];rw[h2.len,gf (h2.each he)]
theorem Has.Av {j:Nat} {x:D} {s:Nat} {es:List (List D)} (hH:Has N S st H) (hj:H[j]?=some (.aI x s es)) (hp:∀e∈es,∀d∈e,cv d=true) {n:Nat} (hn:3≤n):bo st N false n x=some (.sl (es.map (j7 s))):=by
 obtain⟨n,rfl⟩:∃m,n=m+1:=⟨n-1,by omega⟩
 exact hH.freeze hj hp (by omega)
theorem Has.zL {P:Pv} {fr:Fr} {a k aA off j:Nat} {t:TypeId} {ar:Bool} {c:List D} {d:D} (hH:Has N S st H) (ha:fr.get a=.ptr k aA off) (hj:H[j]?=some (.box k (.mem aA ar c))) (hd:di P t (c.drop off)=some d):jE P fr st [.cell a t]=some [d]:=by
 simp only[jE,fS,ha,St.mem_of (hH.at hj),Option.bind_some,hd,Option.map_some]
theorem gD.cells {s:Nat} {x:D} {es:List (List D)} (h:gD st s x es):x.cells?=some [x]:=by cases h<;>rfl
theorem Has.nS {j:Nat} {x:D} {s:Nat} {ks:Nat→Prop} {vs:List (List D)} (hH:Has N S st H) (hj:H[j]?=some (.deep ks x s vs)):x.cells?=some [x]:=by
 obtain⟨⟨es,h1,_⟩,_⟩:=(hH.ok j _ hj).1;exact h1.cells
theorem Has.fI {j:Nat} {x:D} {s:Nat} {es:List (List D)} (hH:Has N S st H) (hj:H[j]?=some (.aI x s es)):x.cells?=some [x]:=(hH.own hj).cells
def yW (fr:Fr):List (Nat×Operand)→List (Nat×D)→Prop
 |[],[]=>True
 |(i,o)::ps,(j,d)::qs=>i=j∧fr.ev o=d∧d.cells?=some [d]∧yW fr ps qs
 |_,_=>False
theorem tn {fr:Fr} {pl:Nat→Option (Nat×Nat)}:∀{ps:List (Nat×Operand)} {qs:List (Nat×D)} {z:List D},yW fr ps qs→(∀q∈qs,pl q.1=some (q.1,1)∧q.1<z.length)→gH pl z (ps.map fun p=>(p.1,fr.ev p.2))=some (qs.foldl (fun l q=>l.set q.1 q.2) z)
 |[],[],z,_,_=>rfl
 |(i,o)::ps,(j,d)::qs,z,h,hp=>by
  obtain⟨rfl,h2,h3,h4⟩:=h;obtain⟨h5,h6⟩:=hp (i,d) (List.mem_cons_self ..);simp only[List.map_cons,gH,h2,h3,h5,List.foldl_cons];rw[if_neg (by simp only[List.length_cons,List.length_nil];simp only at h6;omega)];simp only[setMany]
  exact tn h4 fun q hq=>by
   have:=hp q (List.mem_cons_of_mem _ hq)
   simpa using this
 |[],_::_,_,h,_=>h.elim
 |_::_,[],_,h,_=>h.elim
theorem ab.gm {P:Pv} {ops:Array Oper} {rest:List Oper} {fr aD:Fr} {Q:Fr→St→Prop} {ty:TypeId} {pp:String} {a:Array Edge} {g:Option (Nat×Bool)} {dst:Nat} {t:TypeId} {parts:Array (Nat×Operand)} {z cs:List D} {fields:Array Field} {ps:List (Nat×Nat)} {qs:List (Nat×D)} (hg:aB ops fr ⟨some dst,.build t parts,ty,pp,a,g⟩=some true) (hz:de P t=some z) (hu:P.cC t=some (.struct fields)) (wO:kY P fields.toList=some ps) (he:yW fr parts.toList qs) (gR:∀q∈qs,ps[q.1]?=some (q.1,1)∧q.1<z.length) (i_:qs.foldl (fun l q=>l.set q.1 q.2) z=cs) (hp:fr.put dst (.agg cs)=aD)
  (h:ab P ops rest aD st Q):ab P ops (⟨some dst,.build t parts,ty,pp,a,g⟩::rest) fr st Q:=by
 refine ab.go hg rfl (d:=.agg cs) (st1:=st) ?_ hp h;simp only[dF,u_,hz,hu,wO];rw[tn (pl:=fun i=>ps[i]?) he gR,i_];rfl
theorem Has.pK {P:Pv} {fr:Fr} {a k aA off j u:Nat} {t:TypeId} {ar:Bool} {c:List D} {d e:D} (hH:Has N S st H) (ha:fr.get a=.ptr k aA off) (hj:H[j]?=some (.box k (.mem aA ar c))) (hd:di P t (c.drop off)=some d) (he:fr.get u=e):jE P fr st [.cell a t,.tmp u]=some [d,e]:=by
 simp only[jE,fS,ha,St.mem_of (hH.at hj),Option.bind_some,hd,Option.map_some,he]
theorem ab.HZ {P:Pv} {ops:Array Oper} {rest:List Oper} {fr aD:Fr} {Q:Fr→St→Prop} {ty:TypeId} {pp:String} {a:Array Edge} {g:Option (Nat×Bool)} {dst:Nat} {t e:TypeId} {xo io:Operand} {k v off m s o:Nat} {kk:IntKind} {i:Nat} (hg:aB ops fr ⟨some dst,.indexAddr t xo io,ty,pp,a,g⟩=some true) (hx:fr.ev xo=.ptr k v off) (hi:fr.ev io=.int kk (i:Nat)) (ht:P.cC t=some (.array m e)) (hs:bV P e=some s) (hlt:i<m) (ho:off+i*s=o) (hp:fr.put dst (.ptr k v o)=aD)
  (h:ab P ops rest aD st Q):ab P ops (⟨some dst,.indexAddr t xo io,ty,pp,a,g⟩::rest) fr st Q:=by
 subst ho;refine ab.go hg rfl (d:=.ptr k v (off+i*s)) (st1:=st) ?_ hp h;simp only[dF,hx,hi,bM,ht,hs,Option.bind_some];rw[if_pos ⟨by omega,by omega⟩];rfl
end Go.V
namespace Go.V
variable{P:Pv} {ops:Array Oper} {rest:List Oper} {fr aD:Fr} {st st1:St} {Q:Fr→St→Prop} {ty:TypeId} {pp:String} {a:Array Edge} {g:Option (Nat×Bool)} {dst:Nat} {N:Nat} {S:St} {H:List bm} {d:D} {op:Op}
theorem qm {op:Op} {x:Operand} {d:D} (h:ab P ops rest aD st Q) (fM:op=.move x∨op=.assign x:=by first|exact .inl rfl|exact .inr rfl) (hg:aB ops fr ⟨some dst,op,ty,pp,a,g⟩=some true:=by exact rfl) (hx:fr.ev x=d:=by exact ev rfl) (hp:fr.put dst d=aD:=by first|exact aa rfl _|(dsimp only[Fr.put,List.set_cons_succ,List.set_cons_zero]<;>rfl)):ab P ops (⟨some dst,op,ty,pp,a,g⟩::rest) fr st Q:=
 ab.mv (fM:=fM) (hg:=hg) (hx:=hx) (hp:=hp) (h:=h)
theorem qs {op:Op} (h:ab P ops rest aD st Q) (hg:aB ops fr ⟨some dst,op,ty,pp,a,g⟩=some false:=by exact rfl) (hp:fr.put dst (.tup [])=aD:=by first|exact aa rfl _|(dsimp only[Fr.put,List.set_cons_succ,List.set_cons_zero]<;>rfl)):ab P ops (⟨some dst,op,ty,pp,a,g⟩::rest) fr st Q:=
 ab.skip (hg:=hg) (hp:=hp) (h:=h)
theorem qp {t:TypeId} {xo:Operand} {k aA off o f fo m:Nat} {fields:Array Field} (h:ab P ops rest aD st Q) (hg:aB ops fr ⟨some dst,.fieldAddr t xo f,ty,pp,a,g⟩=some true:=by exact rfl) (hx:fr.ev xo=.ptr k aA off:=by exact ev rfl) (ht:P.cC t=some (.struct fields):=by exact rfl) (hf:kE P fields f=some (fo,some (m+1)):=by exact rfl) (ho:off+fo=o:=by exact rfl) (hp:fr.put dst (.ptr k aA o)=aD:=by first|exact aa rfl _|(dsimp only[Fr.put,List.set_cons_succ,List.set_cons_zero]<;>rfl)):ab P ops (⟨some dst,.fieldAddr t xo f,ty,pp,a,g⟩::rest) fr st Q:=
 ab.C5 (hg:=hg) (hx:=hx) (ht:=ht) (hf:=hf) (ho:=ho) (hp:=hp) (h:=h)
theorem ql {j k aA off:Nat} {ar:Bool} {c:List D} {d:D} {t:TypeId} {ao:Operand} (hH:Has N S st H) (hj:H[j]?=some (.box k (.mem aA ar c))) (h:ab P ops rest aD st Q) (hg:aB ops fr ⟨some dst,.load t ao,ty,pp,a,g⟩=some true:=by exact rfl) (ha:fr.ev ao=.ptr k aA off:=by exact ev rfl) (hd:di P t (c.drop off)=some d:=by exact rfl) (hp:fr.put dst d=aD:=by first|exact aa rfl _|(dsimp only[Fr.put,List.set_cons_succ,List.set_cons_zero]<;>rfl)):ab P ops (⟨some dst,.load t ao,ty,pp,a,g⟩::rest) fr st Q:=
 ab.mz (hH:=hH) (hg:=hg) (ha:=ha) (hj:=hj) (hd:=hd) (hp:=hp) (h:=h)
theorem qg {op:Op} {d:D} {st1:St} (h:ab P ops rest aD st1 Q) (hg:aB ops fr ⟨some dst,op,ty,pp,a,g⟩=some true:=by exact rfl) (hc:ia op=false:=by exact rfl) (h1:dF P fr st op ty=some (d,st1):=by exact rfl) (hp:fr.put dst d=aD:=by first|exact aa rfl _|(dsimp only[Fr.put,List.set_cons_succ,List.set_cons_zero]<;>rfl)):ab P ops (⟨some dst,op,ty,pp,a,g⟩::rest) fr st Q:=
 ab.go (hg:=hg) (hc:=hc) (h1:=h1) (hp:=hp) (h:=h)
theorem qn {t e:TypeId} {xo:Operand} {x:D} {s:Nat} {es:List (List D)} (h:ab P ops rest aD st Q) (hg:aB ops fr ⟨some dst,.call ⟨.builtin .len,#[xo],#[t]⟩,ty,pp,a,g⟩=some true:=by exact rfl) (hx:fr.ev xo=x:=by exact ev rfl) (hR:Rows st s x es:=by exact Arg.rows (by assumption) (by assumption)) (ht:P.cC t=some (.slice e):=by exact rfl) (hp:fr.put dst (.int .i64 (es.length:Nat))=aD:=by first|exact aa rfl _|(dsimp only[Fr.put,List.set_cons_succ,List.set_cons_zero]<;>rfl)):ab P ops (⟨some dst,.call ⟨.builtin .len,#[xo],#[t]⟩,ty,pp,a,g⟩::rest) fr st Q:=
 ab.tV (hg:=hg) (hx:=hx) (hR:=hR) (ht:=ht) (hp:=hp) (h:=h)
theorem qr {t e:TypeId} {xo io:Operand} {x:D} {s i:Nat} {kk:IntKind} {es:List (List D)} {r:List D} {aD:D→Fr} (h:∀p,j5 st p r→ab P ops rest (aD p) st Q) (hg:aB ops fr ⟨some dst,.indexAddr t xo io,ty,pp,a,g⟩=some true:=by exact rfl) (hx:fr.ev xo=x:=by exact ev rfl) (hi:fr.ev io=.int kk (i:Nat):=by exact ev rfl) (hR:Rows st s x es:=by exact Arg.rows (by assumption) (by assumption)) (ht:P.cC t=some (.slice e):=by exact rfl) (hs:bV P e=some s:=by exact rfl) (hr:es[i]?=some r:=by assumption) (hp:∀p,fr.put dst p=aD p:=by first|exact fun _=>aa rfl _|exact fun _=>by dsimp only[Fr.put,List.set_cons_succ,List.set_cons_zero]<;>rfl):ab P ops (⟨some dst,.indexAddr t xo io,ty,pp,a,g⟩::rest) fr st Q:=
 ab.vH (hg:=hg) (hx:=hx) (hi:=hi) (hR:=hR) (ht:=ht) (hs:=hs) (hr:=hr) (hp:=hp) (h:=h)
theorem qR {t:TypeId} {ao:Operand} {x d:D} {r:List D} (h:ab P ops rest aD st Q) (hg:aB ops fr ⟨some dst,.load t ao,ty,pp,a,g⟩=some true:=by exact rfl) (ha:fr.ev ao=x:=by exact ev rfl) (hR:j5 st x r:=by assumption) (hd:di P t r=some d:=by exact rfl) (hp:fr.put dst d=aD:=by first|exact aa rfl _|(dsimp only[Fr.put,List.set_cons_succ,List.set_cons_zero]<;>rfl)):ab P ops (⟨some dst,.load t ao,ty,pp,a,g⟩::rest) fr st Q:=
 ab.kb (hg:=hg) (ha:=ha) (hR:=hR) (hd:=hd) (hp:=hp) (h:=h)
theorem qf {t:TypeId} {xo:Operand} {x:D} {r:List D} {f fo m:Nat} {fields:Array Field} {aD:D→Fr} (h:∀p,j5 st p (r.drop fo)→ab P ops rest (aD p) st Q) (hg:aB ops fr ⟨some dst,.fieldAddr t xo f,ty,pp,a,g⟩=some true:=by exact rfl) (hx:fr.ev xo=x:=by exact ev rfl) (hR:j5 st x r:=by assumption) (ht:P.cC t=some (.struct fields):=by exact rfl) (hf:kE P fields f=some (fo,some (m+1)):=by exact rfl) (hp:∀p,fr.put dst p=aD p:=by first|exact fun _=>aa rfl _|exact fun _=>by dsimp only[Fr.put,List.set_cons_succ,List.set_cons_zero]<;>rfl):ab P ops (⟨some dst,.fieldAddr t xo f,ty,pp,a,g⟩::rest) fr st Q:=
 ab.jD (hg:=hg) (hx:=hx) (hR:=hR) (ht:=ht) (hf:=hf) (hp:=hp) (h:=h)
theorem qi {t e:TypeId} {xo io:Operand} {x:D} {s i j:Nat} {kk:IntKind} {es:List (List D)} {aD:D→Fr} (hH:Has N S st H) (hj:H[j]?=some (.aI x s es)) (h:∀p,oY x s i 0 p→ab P ops rest (aD p) st Q) (hg:aB ops fr ⟨some dst,.indexAddr t xo io,ty,pp,a,g⟩=some true:=by exact rfl) (hx:fr.ev xo=x:=by exact ev rfl) (hi:fr.ev io=.int kk (i:Nat):=by exact ev rfl) (ht:P.cC t=some (.slice e):=by exact rfl) (hs:bV P e=some s:=by exact rfl) (hr:i<es.length:=by exact aR (by assumption)) (hp:∀p,fr.put dst p=aD p:=by first|exact fun _=>aa rfl _|exact fun _=>by dsimp only[Fr.put,List.set_cons_succ,List.set_cons_zero]<;>rfl):ab P ops (⟨some dst,.indexAddr t xo io,ty,pp,a,g⟩::rest) fr st Q:=
 ab.yl (hH:=hH) (hg:=hg) (hx:=hx) (hi:=hi) (hj:=hj) (ht:=ht) (hs:=hs) (hr:=hr) (hp:=hp) (h:=h)
theorem qS {j k aA:Nat} {ar:Bool} {c cs:List D} {v:D} {t:TypeId} {ao vo:Operand} (hH:Has N S st H) (hj:H[j]?=some (.box k (.mem aA ar c))) (h:∀af,Has N S af (H.set j (.box k (.mem aA ar cs)))→ab P ops rest fr af Q) (hg:aB ops fr ⟨none,.store t ao vo,ty,pp,a,g⟩=some true:=by exact rfl) (ha:fr.ev ao=.ptr k aA 0:=by exact ev rfl) (hv:fr.ev vo=v:=by exact ev rfl) (i_:v.cells?=some cs:=by first|rfl|exact(gU.cells (by assumption)).1) (hs:bV P t=some cs.length:=by exact rfl) (hl:cs.length=c.length:=by exact rfl) (hw:S.flr≤N∨refs cs=0:=by first|exact .inl (by assumption)|exact .inr rfl):ab P ops (⟨none,.store t ao vo,ty,pp,a,g⟩::rest) fr st Q:=
 ab.lp (hH:=hH) (hg:=hg) (ha:=ha) (hv:=hv) (i_:=i_) (hs:=hs) (hj:=hj) (hl:=hl) (hw:=hw) (h:=h)
theorem qT {j k aA off:Nat} {ar:Bool} {c cs:List D} {v:D} {t:TypeId} {ao vo:Operand} (hH:Has N S st H) (hj:H[j]?=some (.box k (.mem aA ar c))) (h:∀af,Has N S af (H.set j (.box k (.mem aA ar (setMany c off cs))))→ab P ops rest fr af Q) (hg:aB ops fr ⟨none,.store t ao vo,ty,pp,a,g⟩=some true:=by exact rfl) (ha:fr.ev ao=.ptr k aA off:=by exact ev rfl) (hv:fr.ev vo=v:=by exact ev rfl) (i_:v.cells?=some cs:=by first|rfl|exact(gU.cells (by assumption)).1) (hs:bV P t=some cs.length:=by exact rfl) (hl:off+cs.length≤c.length:=by exact Nat.le_of_ble_eq_true rfl) (hw:S.flr≤N∨refs cs=0:=by first|exact .inl (by assumption)|exact .inr rfl):ab P ops (⟨none,.store t ao vo,ty,pp,a,g⟩::rest) fr st Q:=
 ab.ra (hH:=hH) (hg:=hg) (ha:=ha) (hv:=hv) (i_:=i_) (hs:=hs) (hj:=hj) (hl:=hl) (hw:=hw) (h:=h)
theorem qa {e:TypeId} {cs:List D} {aD:Nat→Fr} (hH:Has N S st H) (h:∀k af,S.bs.length≤k→Has N S af (.box k (.mem 0 false cs)::H)→ab P ops rest (aD k) af Q) (hg:aB ops fr ⟨some dst,.alloc e,ty,pp,a,g⟩=some true:=by exact rfl) (hz:de P e=some cs:=by exact rfl) (hp:∀k,fr.put dst (.ptr k 0 0)=aD k:=by first|exact fun _=>aa rfl _|exact fun _=>by dsimp only[Fr.put,List.set_cons_succ,List.set_cons_zero]<;>rfl):ab P ops (⟨some dst,.alloc e,ty,pp,a,g⟩::rest) fr st Q:=
 ab.uO (hH:=hH) (hg:=hg) (hz:=hz) (hp:=hp) (h:=h)
theorem qb {e:TypeId} {xo:Operand} {cs:List D} {aD:Nat→Fr} (hH:Has N S st H) (h:∀k af,S.bs.length≤k→Has N S af (.box k (.mem 0 false cs)::H)→ab P ops rest (aD k) af Q) (hg:aB ops fr ⟨some dst,.box e xo,ty,pp,a,g⟩=some true:=by exact rfl) (hz:(fr.ev xo).cells?=some cs:=by exact rfl) (hp:∀k,fr.put dst (.ptr k 0 0)=aD k:=by first|exact fun _=>aa rfl _|exact fun _=>by dsimp only[Fr.put,List.set_cons_succ,List.set_cons_zero]<;>rfl):ab P ops (⟨some dst,.box e xo,ty,pp,a,g⟩::rest) fr st Q:=
 ab.BJ (hH:=hH) (hg:=hg) (hz:=hz) (hp:=hp) (h:=h)
theorem qA {t og:TypeId} {xo yo:Operand} {x y:Int} (h:ab P ops rest aD st Q) (hg:aB ops fr ⟨some dst,.binOp .add t xo yo og,ty,pp,a,g⟩=some true:=by exact rfl) (hx:fr.ev xo=.int .i64 x:=by exact ev rfl) (hy:fr.ev yo=.int .i64 y:=by exact ev rfl) (h1:-9223372036854775808≤x+y:=by omega) (h2:x+y≤9223372036854775807:=by omega) (hp:fr.put dst (.int .i64 (x+y))=aD:=by first|exact aa rfl _|(dsimp only[Fr.put,List.set_cons_succ,List.set_cons_zero]<;>rfl)):ab P ops (⟨some dst,.binOp .add t xo yo og,ty,pp,a,g⟩::rest) fr st Q:=
 ab.ED (hg:=hg) (hx:=hx) (hy:=hy) (h1:=h1) (h2:=h2) (hp:=hp) (h:=h)
theorem qP {j:Nat} {x y:D} {s:Nat} {es ys:List (List D)} {t1 t2 e:TypeId} {td:TypeDesc} {inf:TypeInfo} {z:List D} {xo yo:Operand} {aD:D→Fr} (hH:Has N S st H) (hj:H[j]?=some (.aI x s es)) (j6:Rows st s y ys) (h:∀x' af,Has N S af (H.set j (.aI x' s (es++ys)))→ab P ops rest (aD x') af Q) (hg:aB ops fr ⟨some dst,.call ⟨.builtin .append,#[xo,yo],#[t1,t2]⟩,ty,pp,a,g⟩=some true:=by exact rfl) (hx:fr.ev xo=x:=by exact ev rfl) (hy:fr.ev yo=y:=by exact ev rfl) (h1:P.cC t1=some (.slice e):=by exact rfl) (h2:P.cC t2=some td:=by exact rfl) (h3:ga td=false:=by exact rfl) (h4:P.info e=some inf:=by exact rfl) (h5:de P e=some z:=by exact rfl) (h6:inf.size=s:=by exact rfl) (h7:z.length=s:=by exact rfl) (h8:0<inf.bytes∧inf.bytes≤1024:=by exact⟨Nat.le_of_ble_eq_true rfl,Nat.le_of_ble_eq_true rfl⟩) (hp:∀x',fr.put dst x'=aD x':=by first|exact fun _=>aa rfl _|exact fun _=>by dsimp only[Fr.put,List.set_cons_succ,List.set_cons_zero]<;>rfl) (hb:es.length+ys.length≤1073741824:=by first|omega|(simp only[List.length_append,List.length_cons,List.length_nil,List.length_map,List.length_replicate,List.length_set,List.length_reverse]<;>omega)) (hw:S.flr≤N∨refs ys.flatten=0:=by first|exact .inl (by assumption)|exact .inr rfl):ab P ops (⟨some dst,.call ⟨.builtin .append,#[xo,yo],#[t1,t2]⟩,ty,pp,a,g⟩::rest) fr st Q:=
 ab.bT (hH:=hH) (hg:=hg) (hx:=hx) (hy:=hy) (hj:=hj) (j6:=j6) (h1:=h1) (h2:=h2) (h3:=h3) (h4:=h4) (h5:=h5) (h6:=h6) (h7:=h7) (h8:=h8) (hp:=hp) (hb:=hb) (hw:=hw) (h:=h)
theorem qh {t e:TypeId} {m s:Nat} {parts:Array (Nat×Operand)} {z:List D} {vs:List D} {aD:Nat→Fr} (hH:Has N S st H) (h:∀k af,S.bs.length≤k→Has N S af (.aI (.win k 0 0 m s) s (vs.map D.cells)::H)→ab P ops rest (aD k) af Q) (hg:aB ops fr ⟨some dst,.buildSlice t m parts,ty,pp,a,g⟩=some true:=by exact rfl) (ht:P.cC t=some (.slice e):=by exact rfl) (hs:bV P e=some s:=by exact rfl) (hz:de P e=some z:=by exact rfl) (ln:z.length=s:=by exact rfl) (hm:m*s≤16777216:=by exact Nat.le_of_ble_eq_true rfl) (Lv:Ax fr 0 parts.toList vs:=by first|exact⟨rfl,ev rfl,trivial⟩|exact⟨rfl,ev rfl,rfl,ev rfl,trivial⟩|exact⟨rfl,ev rfl,rfl,ev rfl,rfl,ev rfl,trivial⟩|exact⟨rfl,ev rfl,rfl,ev rfl,rfl,ev rfl,rfl,ev rfl,trivial⟩|exact⟨rfl,ev rfl,rfl,ev rfl,rfl,ev rfl,rfl,ev rfl,rfl,ev rfl,trivial⟩) (Jz:vs.length=m:=by exact rfl) (hc:∀v∈vs,v.cells?=some v.cells∧v.cells.length=s:=by intro v hv;simp only[List.mem_cons,List.not_mem_nil,or_false] at hv;first|(subst hv;exact⟨rfl,rfl⟩)|(rcases hv with rfl|rfl<;>exact⟨rfl,rfl⟩)|(rcases hv with rfl|rfl|rfl<;>exact⟨rfl,rfl⟩)|(rcases hv with rfl|rfl|rfl|rfl<;>exact⟨rfl,rfl⟩)|(rcases hv with rfl|rfl|rfl|rfl|rfl<;>exact⟨rfl,rfl⟩)) (hp:∀k,fr.put dst (.win k 0 0 m s)=aD k:=by first|exact fun _=>aa rfl _|exact fun _=>by dsimp only[Fr.put,List.set_cons_succ,List.set_cons_zero]<;>rfl):ab P ops (⟨some dst,.buildSlice t m parts,ty,pp,a,g⟩::rest) fr st Q:=
 ab.Ak (hH:=hH) (hg:=hg) (ht:=ht) (hs:=hs) (hz:=hz) (ln:=ln) (hm:=hm) (Lv:=Lv) (Jz:=Jz) (hc:=hc) (hp:=hp) (h:=h)
theorem qv {f:Operand} {gn:Nat} {iW:List D} {args:Array Operand} {vp:Array TypeId} {d:D} {st1:St} (h1:Ev P gn (args.toList.map fr.ev++iW) st d st1) (h:ab P ops rest aD st1 Q) (hg:aB ops fr ⟨some dst,.call ⟨.value f,args,vp⟩,ty,pp,a,g⟩=some true:=by exact rfl) (hf:fr.ev f=.fn gn iW:=by exact rfl) (hp:fr.put dst d=aD:=by first|exact aa rfl _|(dsimp only[Fr.put,List.set_cons_succ,List.set_cons_zero]<;>rfl)):ab P ops (⟨some dst,.call ⟨.value f,args,vp⟩,ty,pp,a,g⟩::rest) fr st Q:=
 ab.eR (hg:=hg) (hf:=hf) (h1:=h1) (hp:=hp) (h:=h)
theorem qt {c x y:Operand} {v:Bool} (hv:v=true) (h:ab P ops rest aD st Q) (hg:aB ops fr ⟨some dst,.pick c x y,ty,pp,a,g⟩=some true:=by exact rfl) (hc:fr.ev c=.bool v:=by exact rfl) (hp:fr.put dst (fr.ev x)=aD:=by first|exact aa rfl _|(dsimp only[Fr.put,List.set_cons_succ,List.set_cons_zero]<;>rfl)):ab P ops (⟨some dst,.pick c x y,ty,pp,a,g⟩::rest) fr st Q:=
 ab.cz (hg:=hg) (hc:=hc) (hv:=hv) (hp:=hp) (h:=h)
theorem qu {c x y:Operand} {v:Bool} (hv:v=false) (h:ab P ops rest aD st Q) (hg:aB ops fr ⟨some dst,.pick c x y,ty,pp,a,g⟩=some true:=by exact rfl) (hc:fr.ev c=.bool v:=by exact rfl) (hp:fr.put dst (fr.ev y)=aD:=by first|exact aa rfl _|(dsimp only[Fr.put,List.set_cons_succ,List.set_cons_zero]<;>rfl)):ab P ops (⟨some dst,.pick c x y,ty,pp,a,g⟩::rest) fr st Q:=
 ab.b_ (hg:=hg) (hc:=hc) (hv:=hv) (hp:=hp) (h:=h)
theorem wi {ops:Array Oper} {fr:Fr} {o:Oper} {j t:Nat} {w v:Bool} (h4:v=w) (h1:o.guard=some (j,w):=by exact rfl) (h2:(ops[j]?).bind (·.dst)=some t:=by exact rfl) (h3:fr.get t=.bool v:=by exact rfl):aB ops fr o=some true:=ax h1 h2 h3 h4
theorem wn {ops:Array Oper} {fr:Fr} {o:Oper} {j t:Nat} {w v:Bool} (h4:v=!w) (h1:o.guard=some (j,w):=by exact rfl) (h2:(ops[j]?).bind (·.dst)=some t:=by exact rfl) (h3:fr.get t=.bool v:=by exact rfl):aB ops fr o=some false:=bA h1 h2 h3 h4
theorem qc {dy:Dy} {c:Operand} {a b:Code} {v:Bool} {Q:Out→Fr→St→Prop} (h1:v=true→ah P dy a fr st Q) (h2:v=false→ah P dy b fr st Q) (hv:fr.ev c=.bool v:=by first|rfl|assumption):ah P dy (.cond c a b) fr st Q:=ah.cond hv h1 h2
theorem qq {dy:Dy} {a b:Code} {Q:Out→Fr→St→Prop} (h:ah P dy a fr st (b6 P dy b Q)):ah P dy (.seq a b) fr st Q:=ah.seq h
theorem qj {dy:Dy} {i:Nat} {l:List Oper} {d:Bool} {n:Nat} {loc:List D} {tmp:List (Nat×D)} {Q:Out→Fr→St→Prop} (h:∀K:Out→Fr→St→Prop,Q=K→ab P l.toArray l ⟨n,loc,[]⟩ st (K .next)) (h0:f_ i dy=[]:=by rfl):ah P dy (.region i l.toArray d) ⟨n,loc,tmp⟩ st Q:=ah.fF (h Q rfl) h0
theorem qe {Q K:Out→Fr→St→Prop} (hK:Q=K) (h:Q .next fr st):ab P ops [] fr st (K .next):=ab.nil (hK▸h)
theorem qB {dy:Dy} {c:Operand} {a b:Code} {Q:Out→Fr→St→Prop} (h1:ah P dy a fr st Q) (hv:fr.ev c=.bool true:=by first|rfl|assumption):ah P dy (.cond c a b) fr st Q:=ah.cond hv (fun _=>h1) (fun h=>by cases h)
theorem qC {dy:Dy} {c:Operand} {a b:Code} {Q:Out→Fr→St→Prop} (h1:ah P dy b fr st Q) (hv:fr.ev c=.bool false:=by first|rfl|assumption):ah P dy (.cond c a b) fr st Q:=ah.cond hv (fun h=>by cases h) (fun _=>h1)
theorem qD {dy:Dy} {c:Operand} {a b:Code} {v:Bool} {Q:Out→Fr→St→Prop} (hv:fr.ev c=.bool v) (hb:v=true) (h1:ah P dy a fr st Q):ah P dy (.cond c a b) fr st Q:=ah.cond hv (fun _=>h1) (fun h=>by rw[hb] at h;cases h)
theorem qE {dy:Dy} {c:Operand} {a b:Code} {v:Bool} {Q:Out→Fr→St→Prop} (hv:fr.ev c=.bool v) (hb:v=false) (h1:ah P dy b fr st Q):ah P dy (.cond c a b) fr st Q:=ah.cond hv (fun h=>by rw[hb] at h;cases h) (fun _=>h1)
theorem rx:∀i:Nat,Out.ret≠Out.exit i:=fun i h=>by cases h
theorem rl {S:St} {H:List bm} {kn:Bool} {st1:St} {d d':D} (hS:S.bs=st.bs) (hH:Has st.bs.length S st1 H) (hd:bo st1 st.bs.length kn 16 d=some d'):cP .ro kn st st1 d=some (d',st):=qF (by simp) hS hH hd
theorem ri (s0:St):(ag .ro s0).bs=s0.bs∧(ag .ro s0).flr≤s0.bs.length∧Has s0.bs.length (ag .ro s0) (ag .ro s0) []:=⟨rfl,Nat.le_refl _,Has.start (Nat.le_refl _) (Nat.le_refl _)⟩
theorem w1 {α:Type} {n:Nat} {a:α}:List.replicate (n+1) a=a::List.replicate n a:=rfl
theorem w2 {α:Type} {a:α}:List.replicate 0 a=[]:=rfl
theorem qy {dy:Dy} {a:Code} {Q:Out→Fr→St→Prop} (h:ah P dy a fr st Q):ah P dy a fr st Q:=h
theorem u1 {α:Type} {x:α} {l:List α} {n:Nat} {a:α}:(x::l).set (n+1) a=x::l.set n a:=rfl
theorem u2 {α:Type} {x:α} {l:List α} {a:α}:(x::l).set 0 a=a::l:=rfl
theorem u3 {α:Type} {x:α} {l m:List α}:(x::l)++m=x::(l++m):=rfl
theorem u4 {α:Type} {m:List α}:([]:List α)++m=m:=rfl
theorem u5 {α β:Type} {f:α→β} {x:α} {l:List α}:(x::l).map f=f x::l.map f:=rfl
theorem u6 {α β:Type} {f:α→β}:([]:List α).map f=[]:=rfl
theorem v1 (k:IntKind) (n:Int):fH (.int k n)=.int k n:=rfl
theorem v2 (b:Bool):fH (.bool b)=.bool b:=rfl
theorem v3 (s:ByteArray):fH (.string s)=.str s.data.toList:=rfl
theorem v4:fH (.slice none 0 0)=.nul:=rfl
theorem v5:fH (.pointer none)=.pnil:=rfl
theorem v6:fH .nilFunc=.nilfn:=rfl
theorem v7:fH .nilIface=.nilif:=rfl
theorem cs:(∀(p:Prop) [Decidable p],(decide p=true)=p)∧(∀(p:Prop) [Decidable p],(decide p=false)=¬p)∧(∀(α:Type) [BEq α] [LawfulBEq α] (a b:α),((a==b)=true)=(a=b))∧(∀(α:Type) [BEq α] [LawfulBEq α] (a b:α),((a==b)=false)=¬a=b)∧(∀(α:Type) [BEq α] [LawfulBEq α] (a b:α),((a !=b)=true)=¬a=b)∧(∀(α:Type) [BEq α] [LawfulBEq α] (a b:α),((a !=b)=false)=(a=b))∧(∀b:Bool,((!b)=true)=(b=false))∧(∀b:Bool,((!b)=false)=(b=true))∧(∀b:Bool,(¬b=true)=(b=false))∧(∀b:Bool,(¬b=false)=(b=true)):=by
 refine⟨fun p _=>by simp,fun p _=>by simp,fun α _ _ a b=>by simp,fun α _ _ a b=>by simp,fun α _ _ a b=>by simp,fun α _ _ a b=>by simp,fun b=>by simp,fun b=>by simp,fun b=>by simp,fun b=>by simp⟩
theorem xT {n t:Nat} {loc:List D} {tmp:List (Nat×D)} (h:ab P ops rest ⟨n,loc,(t,d)::tmp⟩ st1 Q) (hb:Nat.ble n t=true:=by exact rfl) (hg:aB ops ⟨n,loc,tmp⟩ ⟨some t,op,ty,pp,a,g⟩=some true:=by exact rfl) (hc:ia op=false:=by exact rfl) (h1:dF P ⟨n,loc,tmp⟩ st op ty=some (d,st1):=by exact rfl):ab P ops (⟨some t,op,ty,pp,a,g⟩::rest) ⟨n,loc,tmp⟩ st Q:=ab.T hb hg hc h1 h
theorem xL {n t:Nat} {loc:List D} {tmp:List (Nat×D)} (h:ab P ops rest ⟨n,loc.set t d,tmp⟩ st1 Q) (hb:Nat.ble n t=false:=by exact rfl) (hg:aB ops ⟨n,loc,tmp⟩ ⟨some t,op,ty,pp,a,g⟩=some true:=by exact rfl) (hc:ia op=false:=by exact rfl) (h1:dF P ⟨n,loc,tmp⟩ st op ty=some (d,st1):=by exact rfl):ab P ops (⟨some t,op,ty,pp,a,g⟩::rest) ⟨n,loc,tmp⟩ st Q:=ab.L hb hg hc h1 h
theorem xN (h:ab P ops rest fr st1 Q) (hg:aB ops fr ⟨none,op,ty,pp,a,g⟩=some true:=by exact rfl) (hc:ia op=false:=by exact rfl) (h1:dF P fr st op ty=some (d,st1):=by exact rfl):ab P ops (⟨none,op,ty,pp,a,g⟩::rest) fr st Q:=ab.N hg hc h1 h
theorem xo {n t:Nat} {loc:List D} {tmp:List (Nat×D)} (h:ab P ops rest ⟨n,loc,(t,.tup [])::tmp⟩ st Q) (hb:Nat.ble n t=true:=by exact rfl) (hg:aB ops ⟨n,loc,tmp⟩ ⟨some t,op,ty,pp,a,g⟩=some false:=by exact rfl):ab P ops (⟨some t,op,ty,pp,a,g⟩::rest) ⟨n,loc,tmp⟩ st Q:=ab.Mt hb hg h
theorem xp {n t:Nat} {loc:List D} {tmp:List (Nat×D)} (h:ab P ops rest ⟨n,loc.set t (.tup []),tmp⟩ st Q) (hb:Nat.ble n t=false:=by exact rfl) (hg:aB ops ⟨n,loc,tmp⟩ ⟨some t,op,ty,pp,a,g⟩=some false:=by exact rfl):ab P ops (⟨some t,op,ty,pp,a,g⟩::rest) ⟨n,loc,tmp⟩ st Q:=ab.Mu hb hg h
end Go.V
