/-
 Functions given to V; a logic over V; heaps of one's own; no program in sight, no conditions.
-/
import Derived.Test.YtpcicphadikioaaGreatTM4
import Derived.Test.YtpcicphadikioaaGreatTM1
set_option linter.unusedSimpArgs false
set_option linter.unusedVariables false
set_option linter.unusedSectionVars false
set_option linter.unnecessarySimpa false
namespace Go.V
open Go.RowKit
structure eA (P:Program) (pv:Pv) (f:Nat) (p:List D→St→Option (D×St)):Prop where
 fn:∀ds st r,p ds st=some r→∃fn b,P.funcs[f]?=some fn∧fn.body=some b∧fn.name≠ "runtime.NumGoroutine"
 calls:∀ds st d ah,p ds st=some (d,ah)→∀w β Z (us:List Value),eK w st β Z→ds.length=us.length→(∀(i:Nat) c v,ds[i]?=some c→us[i]?=some v→VR w (st.x β Z) c v)→
  Calls P f us.toArray w fun e w'=>∃v β' Z',e=.returned v∧Nx w st β Z w' ah β' Z'∧VR w' (ah.x β' Z') d v∧(iO pv f=true→Quiet w w')
 ro:∀ds st d ah,p ds st=some (d,ah)→iO pv f=true→mZ st ah
 len:∀ds st d ah,p ds st=some (d,ah)→c8 st ah
theorem y4 {pv tR:Pv} (h:∀f,iO pv f=iO tR f) (hm:∀s t,mr pv s t=mr tR s t) (ops:Array Oper) (b:Bool) (x y:Oper):jO pv ops b x y=jO tR ops b x y:=by
 have he:∀o,ey pv o=ey tR o:=by
  intro o;unfold ey
  split<;>first|rfl|exact hm _ _|skip
  rw[h]
 simp only[jO,he]
theorem wa {pv tR:Pv} (h:∀f,iO pv f=iO tR f) (hm:∀s t,mr pv s t=mr tR s t) (ops:Array Oper) (dy:List (Nat×Nat)):j5 pv ops dy=j5 tR ops dy:=by
 unfold j5
 congr 1
 funext j;unfold FC
 split
 ·simp only[y4 h hm]
 ·rfl
theorem dE {pv tR:Pv} (h:∀f,iO pv f=iO tR f) (hm:∀s t,mr pv s t=mr tR s t) (dyn:List (Nat×List (Nat×Nat))) (n:Nat):∀c:Code,codeOk pv dyn n c=codeOk tR dyn n c
 | .region _ ops d=>by simp only[codeOk,wa h hm]
 | .seq a b=>by simp only[codeOk,dE h hm dyn n a,dE h hm dyn n b]
 | .cond _ a b=>by simp only[codeOk,dE h hm dyn n a,dE h hm dyn n b]
 | .block _ c=>by simp only[codeOk,dE h hm dyn n c]
 | .loop c=>by simp only[codeOk,dE h hm dyn n c]
 | .skip| .rangeFunc ..| .exit _| .scope _| .label _| .goto _| .ret| .refuse _=>by simp only[codeOk]
def Pv.over (pv:Pv) (l:List (Nat×(List D→St→Option (D×St)))):Pv:=⟨pv.ty,pv.nty,pv.fs,pv.nfs,pv.eqb,l⟩
theorem Bl (pv:Pv) (l) (f:Nat):iO (pv.over l) f=iO pv f:=rfl
theorem sP {f:Nat} {p}:∀{l:List (Nat×(List D→St→Option (D×St)))},j8 f l=some p→(f,p)∈l
 |(g,q)::l,h=>by
  simp only[j8] at h
  split at h
  ·rename_i hb;cases h;rw[Nat.eq_of_beq_eq_true hb];exact List.mem_cons_self ..
  ·exact List.mem_cons_of_mem _ (sP h)
theorem nc {pv:Pv} {P:Program} (h:pv.Ok P∧pv.fc∧fk P pv (cW pv)) (MR:pv.prm=[]) {l:List (Nat×(List D→St→Option (D×St)))} (hl:∀q∈l,eA P pv q.1 q.2):
  (pv.over l).Ok P∧(pv.over l).fc∧fk P (pv.over l) (cW (pv.over l)):=by
 obtain⟨h1,h2,h3⟩:=h;refine⟨⟨h1.ty,h1.fs,h1.eqb,h1.mixed⟩,fun f x b hx hp hb=>?_,?_⟩
 ·rw[dE (Bl pv l) (fun _ _=>rfl)];exact h2 f x b hx hp hb
 ·have key:∀f ds st r,cW (pv.over l) f ds st=some r→(∃p,eA P pv f p∧p ds st=some r)∨cW pv f ds st=some r:=by
   intro f ds st r h;unfold cW at h
   split at h
   ·rename_i p hp;exact .inl ⟨p,hl _ (sP hp),h⟩
   ·right;unfold cW;rw[MR];exact h
  refine⟨fun f ds st r h=>?_,fun f ds st d ah h=>?_,fun f ds st d ah h=>?_,fun f ds st d ah h=>?_⟩
  ·rcases key f ds st r h with⟨p,hp,h⟩|h
   ·exact hp.fn ds st r h
   ·exact h3.fn f ds st r h
  ·rcases key f ds st _ h with⟨p,hp,h⟩|h
   ·exact hp.calls ds st d ah h
   ·exact h3.calls f ds st d ah h
  ·rcases key f ds st _ h with⟨p,hp,h⟩|h
   ·exact hp.ro ds st d ah h
   ·exact h3.ro f ds st d ah h
  ·rcases key f ds st _ h with⟨p,hp,h⟩|h
   ·exact hp.len ds st d ah h
   ·exact h3.len f ds st d ah h
theorem eK.nil {w:World} {Z:Nat→Prop} (hZ:∀b,Z b→b<w.heap.size):eK w ⟨[],0,0⟩ (fun _=>none) Z:=
 ⟨fun _ _ _ h=>(by cases h),fun _ _ _ h=>(by cases h),fun _ _ _ _ _ h=>(by cases h),fun _ _ _ h=>(by cases h),hZ,fun _ _ _ _ h=>(by cases h),Nat.le_refl _,Nat.le_refl _⟩
theorem lD {pv:Pv} {P:Program} (h:pv.Ok P∧pv.fc∧fk P pv (cW pv)) {n f:Nat} {ds:List D} {d:D} {vq:St} (hs:bI pv n f ds ⟨[],0,0⟩=some (d,vq)) (h0:vq.bs=[]) (hr:refs ds=0)
  (st:St) (w:World) (β:Nat→Option (Nat×Nat)) (Z:Nat→Prop) (us:List Value) (cI:eK w st β Z) (hl:ds.length=us.length) (ha:∀(i:Nat) c v,ds[i]?=some c→us[i]?=some v→VR w (st.x β Z) c v):
  Calls P f us.toArray w fun e w'=>∃v β' Z',e=.returned v∧Nx w st β Z w' st β' Z'∧VR w' (st.x β' Z') d v∧Quiet w w':=by
 have hrefs:∀(l:List D),refs l=0→∀c∈l,c.ref≤0:=by
  intro l
  induction l with
  |nil=>intro _ c hc;simp at hc
  |cons x l ih=>
   intro h c hc;simp only[refs] at h
   rcases List.mem_cons.1 hc with rfl|hc
   ·omega
   ·exact ih (by omega) c hc
 refine((gf h.1 h.2.1 h.2.2 n).calls f ds _ d vq hs w (fun _=>none) Z us (eK.nil cI.zl) hl fun i c v hc hv=>?_).mono fun e w'=>?_
 ·exact VR.cut (x:=st.x β Z) (x':=(⟨[],0,0⟩:St).x (fun _=>none) Z) (N:=0) (fun k hk=>absurd hk (Nat.not_lt_zero _)) (fun k hk=>absurd hk (Nat.not_lt_zero _)) (fun b hb=>hb) (ha i c v hc hv) (hrefs ds hr c (List.mem_of_getElem? hc))
 ·rintro⟨v,β',Z',rfl,hn,hv,_⟩
  have rz:∀k p,β' k=some p→False:=fun k p hk=>by
   have:=hn.sim.dom k p.1 p.2 hk;rw[h0] at this;simp at this
  have hq:Quiet w w':=by
   intro c hc;refine hn.evo.block c hc ?_;rintro⟨k,base,h5,_⟩;cases h5
  have hzz:∀b,Z b→Z' b∧w'.heap[b]?=w.heap[b]?:=fun b hb=>⟨(hn.keeps.z b hb).1,hq b (cI.zl b hb)⟩
  have hk:cZ w (st.x β Z) w' (st.x β Z'):=⟨fun k p hp=>⟨p,hp⟩,hzz,fun k c p _ hc=>⟨c,hc,Nat.le_refl _⟩,fun k c _ _ b base hb=>⟨hb,dC (hq b (cI.lt k b base hb))⟩⟩
  refine⟨v,β,Z',rfl,⟨⟨cI.dom,fun k b base hb=>Nat.lt_of_lt_of_le (cI.lt k b base hb) hn.evo.size,cI.inj,fun k b base hb hz=>?_,hn.sim.zl,fun k b base bx hb fZ=>(cI.box k b base bx hb fZ).ch hk (hq b (cI.lt k b base hb)),cI.flr,cI.ro⟩,hk,
   ⟨hn.evo.os,hn.evo.tape,hn.evo.output,hn.evo.size,fun b hb _=>hq b hb⟩,fun k b base hb=>.inl ⟨base,hb⟩,hn.zfresh,Nat.le_refl _,rfl,rfl,fun k _=>⟨rfl,rfl⟩,fun k _ hk=>⟨hk,rfl⟩⟩,?_,hq⟩
  ·rcases hn.zfresh b hz with hz|hz
   ·exact cI.zd k b base hb hz
   ·have:=cI.lt k b base hb;omega
  ·exact VR.cut (x:=vq.x β' Z') (x':=st.x β Z') (N:=0) (fun k hk=>absurd hk (Nat.not_lt_zero _)) (fun k hk=>absurd hk (Nat.not_lt_zero _)) (fun b hb=>hb) hv (VR.ref (fun k p hk=>(rz k p hk).elim) hv)
def sK (d:D):List D→St→Option (D×St)
 |[],st=>some (d,st)
 |_::_,_=>none
theorem wm {pv:Pv} {P:Program} (h:pv.Ok P∧pv.fc∧fk P pv (cW pv)) {n f:Nat} {d:D} {vq:St} (hs:bI pv n f [] ⟨[],0,0⟩=some (d,vq)) (h0:vq.bs=[]):eA P pv f (sK d):=by
 have hc:=gf h.1 h.2.1 h.2.2 n;refine⟨fun ds st r _=>hc.fn f [] _ _ hs,fun ds st d' ah hp w β Z us cI hl ha=>?_,fun ds st d' ah hp _=>?_,fun ds st d' ah hp=>?_⟩<;>cases ds<;>simp only[sK,Option.some.injEq,Prod.mk.injEq,reduceCtorEq] at hp
 ·obtain⟨rfl,rfl⟩:=hp;refine(lD h hs h0 rfl st w β Z us cI hl ha).mono fun e w'=>?_;rintro⟨v,β',Z',h1,h2,h3,h4⟩;exact⟨v,β',Z',h1,h2,h3,fun _=>h4⟩
 ·rw[←hp.2];exact .rfl _
 ·rw[←hp.2];exact c8.refl _
def gI:List (List D×D)→List D→St→Option (D×St)
 |[],_,_=>none
 |(as,d)::l,ds,st=>match ij as ds with
  |true=>some (d,st)
  |false=>gI l ds st
theorem jc:∀{l:List (List D×D)} {ds:List D} {st ah:St} {d:D},gI l ds st=some (d,ah)→(ds,d)∈l∧ah=st
 |(as,e)::l,ds,st,ah,d,h=>by
  simp only[gI] at h
  split at h
  ·rename_i hb;cases h;rw[fy _ _ hb];exact⟨List.mem_cons_self ..,rfl⟩
  ·obtain⟨h1,h2⟩:=jc h;exact⟨List.mem_cons_of_mem _ h1,h2⟩
theorem mq {pv:Pv} {P:Program} (h:pv.Ok P∧pv.fc∧fk P pv (cW pv)) {f:Nat} {l:List (List D×D)} (hl:∀q∈l,refs q.1=0∧∃n vq,bI pv n f q.1 ⟨[],0,0⟩=some (q.2,vq)∧vq.bs=[]):eA P pv f (gI l):=by
 refine⟨fun ds st r hp=>?_,fun ds st d ah hp w β Z us cI hle ha=>?_,fun ds st d ah hp _=>by rw[(jc hp).2];exact .rfl _,fun ds st d ah hp=>?_⟩
 ·obtain⟨hm,_⟩:=jc (d:=r.1) (ah:=r.2) hp;obtain⟨_,n,vq,hs,_⟩:=hl _ hm;exact(gf h.1 h.2.1 h.2.2 n).fn f _ _ _ hs
 ·obtain⟨hm,rfl⟩:=jc hp;obtain⟨hr,n,vq,hs,h0⟩:=hl _ hm;refine(lD h hs h0 hr ah w β Z us cI hle ha).mono fun e w'=>?_;rintro⟨v,β',Z',h1,h2,h3,h4⟩;exact⟨v,β',Z',h1,h2,h3,fun _=>h4⟩
 ·rw[(jc hp).2];exact c8.refl _
def mT:List iu→List iu→Bool
 |[],[]=>true
 |a::l,b::m=>rn a b &&mT l m
 |_,_=>false
def Ax (a b:St):Bool:=Nat.beq a.flr b.flr &&Nat.beq a.ro b.ro &&mT a.bs b.bs
theorem oH:∀{a b:List iu},mT a b=true→a=b
 |[],[],_=>rfl
 |a::l,b::m,h=>by
  simp only[mT,Bool.and_eq_true] at h;rw[tt h.1,oH h.2]
 |[],_::_,h=>by cases h
 |_::_,[],h=>by cases h
theorem xv {a b:St} (h:Ax a b=true):a=b:=by
 obtain⟨x,y,z⟩:=a;obtain⟨x',y',z'⟩:=b;simp only[Ax,Bool.and_eq_true] at h;have h1:=Nat.eq_of_beq_eq_true h.1.1;have h2:=Nat.eq_of_beq_eq_true h.1.2;have h3:=oH h.2;rw[h1,h2,h3]
def dG (d:D) (st:St):Option (D×St)→Bool
 |some (e,ah)=>ez e d &&Ax ah st
 |none=>false
theorem jf {d:D} {st:St} {r:Option (D×St)} (h:dG d st r=true):r=some (d,st):=by
 match r,h with
 |some (e,ah),h=>
  simp only[dG,Bool.and_eq_true] at h;rw[pj e d h.1,xv h.2]
def oo:List ((List D×St)×(D×St))→List D→St→Option (D×St)
 |[],_,_=>none
 |(k,r)::l,ds,st=>match ij k.1 ds &&Ax k.2 st with
  |true=>some r
  |false=>oo l ds st
theorem jb:∀{l:List ((List D×St)×(D×St))} {ds:List D} {st:St} {r:D×St},oo l ds st=some r→((ds,st),r)∈l
 |(k,r')::l,ds,st,r,h=>by
  simp only[oo] at h
  split at h
  ·rename_i hb;simp only[Bool.and_eq_true] at hb;cases h;obtain⟨k1,k2⟩:=k;rw[←fy _ _ hb.1,←xv hb.2];exact List.mem_cons_self ..
  ·exact List.mem_cons_of_mem _ (jb h)
theorem wk {pv tR:Pv} {P:Program} (h:tR.Ok P∧tR.fc∧fk P tR (cW tR)) (eL:∀f,iO tR f=iO pv f) {f:Nat} {l:List ((List D×St)×(D×St))} (hl:∀q∈l,∃n,bI tR n f q.1.1 q.1.2=some q.2):eA P pv f (oo l):=by
 refine⟨fun ds st r hp=>?_,fun ds st d ah hp w β Z us cI hle ha=>?_,fun ds st d ah hp hr=>?_,fun ds st d ah hp=>?_⟩
 ·obtain⟨n,hn⟩:=hl _ (jb hp);exact(gf h.1 h.2.1 h.2.2 n).fn f _ _ _ hn
 ·obtain⟨n,hn⟩:=hl _ (jb hp);have:=(gf h.1 h.2.1 h.2.2 n).calls f _ _ _ _ hn w β Z us cI hle ha;rw[eL] at this;exact this
 ·obtain⟨n,hn⟩:=hl _ (jb hp);exact(gf h.1 h.2.1 h.2.2 n).ro f _ _ _ _ hn (by rw[eL];exact hr)
 ·obtain⟨n,hn⟩:=hl _ (jb hp);exact(gf h.1 h.2.1 h.2.2 n).len f _ _ _ _ hn
end Go.V
namespace Go.V
section
variable(P:Pv)
def Ev (f:Nat) (args:List D) (st:St) (d:D) (ah:St):Prop:=
 ∃N,∀n,N≤n→bI P n f args st=some (d,ah)
abbrev Dy:=List (Nat×List (Nat×Nat))
def ag (dy:Dy) (c:Code) (fr:Fr) (st:St) (Q:Out→Fr→St→Prop):Prop:=
 ∃o aA ah,(∃N,∀n,N≤n→bw P (bI P n) dy n c fr st=some (o,aA,ah))∧Q o aA ah
def ae (ops:Array Oper) (l:List Oper) (fr:Fr) (st:St) (Q:Fr→St→Prop):Prop:=
 ∃aA ah,(∃N,∀n,N≤n→iv P (bI P n) ops l fr st=some (aA,ah))∧Q aA ah
def bf (dy:Dy) (b:Code) (Q:Out→Fr→St→Prop):Out→Fr→St→Prop
 | .next,fr,st=>ag P dy b fr st Q
 | .exit i,fr,st=>Q (.exit i) fr st
 | .ret,fr,st=>Q .ret fr st
def EP (id:Nat) (Q:Out→Fr→St→Prop):Out→Fr→St→Prop
 | .next,fr,st=>Q .next fr st
 | .exit i,fr,st=>if i=id then Q .next fr st else Q (.exit i) fr st
 | .ret,fr,st=>Q .ret fr st
def Ll (I:Nat→Fr→St→Prop) (k:Nat) (Q:Out→Fr→St→Prop):Out→Fr→St→Prop
 | .next,fr,st=>∃j,j<k∧I j fr st
 | .exit i,fr,st=>Q (.exit i) fr st
 | .ret,fr,st=>Q .ret fr st
def fm (ops:Array Oper) (dy:List (Nat×Nat)) (j:Nat) (log:Log) (l:List Oper) (fr:Fr) (st:St) (Q:Fr→St→Prop):Prop:=
 ∃aA ah,(∃N,∀n,N≤n→oK P (bI P n) ops dy j log l fr st=some (aA,ah))∧Q aA ah
variable{P} {dy:Dy}
theorem ag.mono {c:Code} {fr st} {Q Q':Out→Fr→St→Prop} (h:ag P dy c fr st Q) (hq:∀o aA ah,Q o aA ah→Q' o aA ah):ag P dy c fr st Q':=by
 obtain⟨o,aA,ah,h1,h2⟩:=h;exact⟨o,aA,ah,h1,hq _ _ _ h2⟩
theorem ag.skip {fr st} {Q:Out→Fr→St→Prop} (h:Q .next fr st):ag P dy .skip fr st Q:=⟨_,_,_,⟨0,fun n _=>by simp only[bw]⟩,h⟩
theorem ag.exit {fr st i} {Q:Out→Fr→St→Prop} (h:Q (.exit i) fr st):ag P dy (.exit i) fr st Q:=⟨_,_,_,⟨0,fun n _=>by simp only[bw]⟩,h⟩
theorem ag.ret {fr st} {Q:Out→Fr→St→Prop} (h:Q .ret fr st):ag P dy .ret fr st Q:=⟨_,_,_,⟨0,fun n _=>by simp only[bw]⟩,h⟩
theorem ag.region {i ops d fr st} {Q:Out→Fr→St→Prop} (h:ae P ops ops.toList fr.clean st (Q .next)) (h0:fU i dy=[]:=by rfl):ag P dy (.region i ops d) fr st Q:=by
 obtain⟨aA,ah,⟨N,hN⟩,hq⟩:=h;exact⟨_,aA,ah,⟨N,fun n hn=>by simp only[bw,h0,vP,hN n hn]⟩,hq⟩
theorem ag.Fm {i ops d fr st} {Q:Out→Fr→St→Prop} {p:Nat×Nat} {ps:List (Nat×Nat)} (h0:fU i dy=p::ps) (h:fm P ops (p::ps) 0 [] ops.toList fr.clean st (Q .next)):ag P dy (.region i ops d) fr st Q:=by
 obtain⟨aA,ah,⟨N,hN⟩,hq⟩:=h;exact⟨_,aA,ah,⟨N,fun n hn=>by simp only[bw,h0,vP,hN n hn]⟩,hq⟩
theorem ag.seq {a b fr st} {Q:Out→Fr→St→Prop} (h:ag P dy a fr st (bf P dy b Q)):ag P dy (.seq a b) fr st Q:=by
 obtain⟨o,aA,ah,⟨N,hN⟩,hq⟩:=h
 cases o with
 |next=>
  obtain⟨o,Iy,st2,⟨M,hM⟩,hq⟩:=hq;exact⟨o,Iy,st2,⟨max N M,fun n hn=>by simp only[bw,hN n (by omega),hM n (by omega)]⟩,hq⟩
 |exit i=>exact⟨_,aA,ah,⟨N,fun n hn=>by simp only[bw,hN n hn]⟩,hq⟩
 |ret=>exact⟨_,aA,ah,⟨N,fun n hn=>by simp only[bw,hN n hn]⟩,hq⟩
theorem ag.cond {c a b fr st v} {Q:Out→Fr→St→Prop} (hv:fr.ev c=.bool v) (h1:v=true→ag P dy a fr st Q) (h2:v=false→ag P dy b fr st Q):ag P dy (.cond c a b) fr st Q:=by
 cases v with
 |true=>
  obtain⟨o,aA,ah,⟨N,hN⟩,hq⟩:=h1 rfl;exact⟨o,aA,ah,⟨N,fun n hn=>by simp only[bw,hv,hN n hn]⟩,hq⟩
 |false=>
  obtain⟨o,aA,ah,⟨N,hN⟩,hq⟩:=h2 rfl;exact⟨o,aA,ah,⟨N,fun n hn=>by simp only[bw,hv,hN n hn]⟩,hq⟩
theorem ag.block {id c fr st} {Q:Out→Fr→St→Prop} (h:ag P dy c fr st (EP id Q)):ag P dy (.block id c) fr st Q:=by
 obtain⟨o,aA,ah,⟨N,hN⟩,hq⟩:=h
 cases o with
 |next=>exact⟨_,aA,ah,⟨N,fun n hn=>by simp only[bw,hN n hn]⟩,hq⟩
 |exit i=>
  simp only[EP] at hq
  split at hq
  ·rename_i hi;exact⟨_,aA,ah,⟨N,fun n hn=>by simp only[bw,hN n hn,if_pos hi]⟩,hq⟩
  ·rename_i hi;exact⟨_,aA,ah,⟨N,fun n hn=>by simp only[bw,hN n hn,if_neg hi]⟩,hq⟩
 |ret=>exact⟨_,aA,ah,⟨N,fun n hn=>by simp only[bw,hN n hn]⟩,hq⟩
theorem ag.loop {c:Code} {fr st} {Q:Out→Fr→St→Prop} (I:Nat→Fr→St→Prop) (k:Nat) (h0:I k fr st) (h:∀k fr st,I k fr st→ag P dy c fr.clean st (Ll I k Q)):ag P dy (.loop c) fr st Q:=by
 have key:∀k fr st,I k fr st→∃o aA ah,(∃N,∀n,N≤n→∀m,N≤m→iter (bw P (bI P n) dy n c) m fr st=some (o,aA,ah))∧(Q o aA ah):=by
  intro k
  induction k using Nat.strongRecOn with
  |ind k ih=>
   intro fr st hi;obtain⟨o,aA,ah,⟨N,hN⟩,hq⟩:=h k fr st hi
   cases o with
   |next=>
    obtain⟨j,hj,pb⟩:=hq;obtain⟨o,Iy,st2,⟨M,hM⟩,hq⟩:=ih j hj aA ah pb;refine⟨o,Iy,st2,⟨max N M+1,fun n hn m hm=>?_⟩,hq⟩
    obtain⟨m,rfl⟩:∃m',m=m'+1:=⟨m-1,by omega⟩
    simp only[iter,hN n (by omega),hM n (by omega) m (by omega)]
   |exit i=>
    refine⟨_,aA,ah,⟨N+1,fun n hn m hm=>?_⟩,hq⟩
    obtain⟨m,rfl⟩:∃m',m=m'+1:=⟨m-1,by omega⟩
    simp only[iter,hN n (by omega)]
   |ret=>
    refine⟨_,aA,ah,⟨N+1,fun n hn m hm=>?_⟩,hq⟩
    obtain⟨m,rfl⟩:∃m',m=m'+1:=⟨m-1,by omega⟩
    simp only[iter,hN n (by omega)]
 obtain⟨o,aA,ah,⟨N,hN⟩,hq⟩:=key k fr st h0;exact⟨o,aA,ah,⟨N,fun n hn=>by simp only[bw,hN n hn n hn]⟩,hq⟩
theorem Ev.of {f x body args st d ah} (hq:j8 f P.prm=none) (hf:P.fi f=some x) (hp:x.jK=none) (hb:x.fn.body=some body)
  (h:ag P x.dyn body (pad x.nloc args) (ai x.mode st) fun o fr st1=>(∀i,o≠.exit i)∧∃ds,iL P fr st1 x.fn.results.toList=some ds∧cK x.mode x.knul st st1 (rC ds)=some (d,ah)):Ev P f args st d ah:=by
 obtain⟨o,aA,st1,⟨N,hN⟩,ho,ds,hr,hl⟩:=h;refine⟨N+1,fun n hn=>?_⟩
 obtain⟨m,rfl⟩:∃m',n=m'+1:=⟨n-1,by omega⟩
 simp only[bI,hq,hf,hp,hb,xu];rw[hN m (by omega)]
 cases o with
 |next=>simp only[hr,hl]
 |exit i=>exact absurd rfl (ho i)
 |ret=>simp only[hr,hl]
theorem ae.nil {ops fr st} {Q:Fr→St→Prop} (h:Q fr st):ae P ops [] fr st Q:=⟨fr,st,⟨0,fun n _=>rfl⟩,h⟩
def h_:Op→Bool
 | .call ⟨.value _,_,_⟩=>true
 |_=>false
theorem CY {cf fr st} {o:Oper} (h:h_ o.op=false):ek P cf fr st o=dJ P fr st o.op o.type:=by
 unfold ek
 split
 ·rename_i heq;rw[heq] at h;simp[h_] at h
 ·rfl
theorem ae.op {ops o rest fr st d st1} {Q:Fr→St→Prop} (hg:ay ops fr o=some true) (hc:h_ o.op=false) (h1:dJ P fr st o.op o.type=some (d,st1))
  (h:ae P ops rest (fr.fT o.dst d) st1 Q):ae P ops (o::rest) fr st Q:=by
 obtain⟨aA,ah,⟨N,hN⟩,hq⟩:=h;exact⟨aA,ah,⟨N,fun n hn=>by simp only[iv,hg,CY hc,h1,hN n hn]⟩,hq⟩
theorem ae.off {ops o rest fr st} {Q:Fr→St→Prop} (hg:ay ops fr o=some false)
  (h:ae P ops rest (fr.fT o.dst (.tup [])) st Q):ae P ops (o::rest) fr st Q:=by
 obtain⟨aA,ah,⟨N,hN⟩,hq⟩:=h;exact⟨aA,ah,⟨N,fun n hn=>by simp only[iv,hg,hN n hn]⟩,hq⟩
theorem ae.call {ops rest fr st d st1 f g eI args vj dst type pos} {after guard} {Q:Fr→St→Prop} (hg:ay ops fr ⟨dst,.call ⟨.value f,args,vj⟩,type,pos,after,guard⟩=some true) (hf:fr.ev f=.fn g eI)
  (h1:Ev P g (args.toList.map fr.ev++eI) st d st1)
  (h:ae P ops rest (fr.fT dst d) st1 Q):ae P ops (⟨dst,.call ⟨.value f,args,vj⟩,type,pos,after,guard⟩::rest) fr st Q:=by
 obtain⟨aA,ah,⟨N,hN⟩,hq⟩:=h;obtain⟨M,hM⟩:=h1;exact⟨aA,ah,⟨max N M,fun n hn=>by simp only[iv,hg,ek,hf,hM n (by omega),hN n (by omega)]⟩,hq⟩
theorem fm.nil {ops ys j log fr st} {Q:Fr→St→Prop} (h:Q fr st):fm P ops ys j log [] fr st Q:=⟨fr,st,⟨0,fun n _=>rfl⟩,h⟩
theorem fm.cons {ops ys j log o rest fr st} {Q:Fr→St→Prop} (h:ae P ops [o] fr st fun aA ah=>Eo ys j log o fr st ah=true∧fm P ops ys (j+1) ((o,fr,st,ah)::log) rest aA ah Q):fm P ops ys j log (o::rest) fr st Q:=by
 obtain⟨Iz,st1,⟨N,hN⟩,hc,Iy,st2,⟨M,hM⟩,hq⟩:=h;refine⟨Iy,st2,⟨max N M,fun n hn=>?_⟩,hq⟩;have h1:=hN n (by omega);have h2:=hM n (by omega);simp only[iv] at h1;simp only[oK]
 split at h1
 ·rename_i hw
  split at h1
  ·rename_i d ah hop;cases h1;simp only[hop,hc,h2]
  ·cases h1
 ·rename_i hw;cases h1;exact h2
 ·cases h1
theorem Ev.out {f args st d ah} (h:Ev P f args st d ah):∃N,∀n,N≤n→bI P n f args st=some (d,ah):=h
theorem Ev.jK {f args st d ah p} (hq:j8 f P.prm=some p) (h:p args st=some (d,ah)):Ev P f args st d ah:=
 ⟨1,fun n hn=>by
  obtain⟨m,rfl⟩:∃m',n=m'+1:=⟨n-1,by omega⟩
  simp only[bI,hq,h]⟩
end
attribute [irreducible] Ev ag ae fm
end Go.V
namespace Go.V
theorem ag.dD {P:Pv} {dy:Dy} {i:Nat} {l:List Oper} {d n loc tmp st} {Q:Out→Fr→St→Prop} (h:ae P l.toArray l ⟨n,loc,[]⟩ st (Q .next)) (h0:fU i dy=[]:=by rfl):ag P dy (.region i l.toArray d) ⟨n,loc,tmp⟩ st Q:=ag.region h h0
theorem ag.Fo {P:Pv} {dy:Dy} {i:Nat} {l:List Oper} {d n loc tmp st} {Q:Out→Fr→St→Prop} {p:Nat×Nat} {ps:List (Nat×Nat)} (h0:fU i dy=p::ps) (h:fm P l.toArray (p::ps) 0 [] l ⟨n,loc,[]⟩ st (Q .next)):ag P dy (.region i l.toArray d) ⟨n,loc,tmp⟩ st Q:=ag.Fm h0 h
theorem Ev.jL {P:Pv} {f x body args st d ah n loc} (hq:j8 f P.prm=none) (hf:P.fi f=some x) (hp:x.jK=none) (hb:x.fn.body=some body) (DG:pad x.nloc args=⟨n,loc,[]⟩)
  (h:ag P x.dyn body ⟨n,loc,[]⟩ (ai x.mode st) fun o fr st1=>(∀i,o≠.exit i)∧∃ds,iL P fr st1 x.fn.results.toList=some ds∧cK x.mode x.knul st st1 (rC ds)=some (d,ah)):Ev P f args st d ah:=
 Ev.of hq hf hp hb (by rw[DG];exact h)
section
variable{P:Pv} {ops:Array Oper} {rest:List Oper} {n:Nat} {loc:List D} {tmp:List (Nat×D)} {st st1:St} {Q:Fr→St→Prop} {op:Op} {ty:TypeId} {p:String} {a:Array Edge} {g:Option (Nat×Bool)} {t:Nat} {d:D}
theorem aa (hb:Nat.ble n t=true) (d:D):Fr.put ⟨n,loc,tmp⟩ t d=⟨n,loc,(t,d)::tmp⟩:=by
 simp only[Fr.put,hb]
theorem GF (hb:Nat.ble n t=false) (d:D):Fr.put ⟨n,loc,tmp⟩ t d=⟨n,loc.set t d,tmp⟩:=by
 simp only[Fr.put,hb]
theorem ae.T (hb:Nat.ble n t=true) (hg:ay ops ⟨n,loc,tmp⟩ ⟨some t,op,ty,p,a,g⟩=some true) (hc:h_ op=false) (h1:dJ P ⟨n,loc,tmp⟩ st op ty=some (d,st1))
  (h:ae P ops rest ⟨n,loc,(t,d)::tmp⟩ st1 Q):ae P ops (⟨some t,op,ty,p,a,g⟩::rest) ⟨n,loc,tmp⟩ st Q:=
 ae.op hg hc h1 (by show ae P ops rest (Fr.put _ t d) st1 Q;rw[aa hb];exact h)
theorem ae.L (hb:Nat.ble n t=false) (hg:ay ops ⟨n,loc,tmp⟩ ⟨some t,op,ty,p,a,g⟩=some true) (hc:h_ op=false) (h1:dJ P ⟨n,loc,tmp⟩ st op ty=some (d,st1))
  (h:ae P ops rest ⟨n,loc.set t d,tmp⟩ st1 Q):ae P ops (⟨some t,op,ty,p,a,g⟩::rest) ⟨n,loc,tmp⟩ st Q:=
 ae.op hg hc h1 (by show ae P ops rest (Fr.put _ t d) st1 Q;rw[GF hb];exact h)
theorem ae.N {fr:Fr} (hg:ay ops fr ⟨none,op,ty,p,a,g⟩=some true) (hc:h_ op=false) (h1:dJ P fr st op ty=some (d,st1))
  (h:ae P ops rest fr st1 Q):ae P ops (⟨none,op,ty,p,a,g⟩::rest) fr st Q:=ae.op hg hc h1 h
theorem ae.Mf (hb:Nat.ble n t=true) (hg:ay ops ⟨n,loc,tmp⟩ ⟨some t,op,ty,p,a,g⟩=some false)
  (h:ae P ops rest ⟨n,loc,(t,.tup [])::tmp⟩ st Q):ae P ops (⟨some t,op,ty,p,a,g⟩::rest) ⟨n,loc,tmp⟩ st Q:=
 ae.off hg (by show ae P ops rest (Fr.put _ t _) st Q;rw[aa hb];exact h)
theorem ae.Mg (hb:Nat.ble n t=false) (hg:ay ops ⟨n,loc,tmp⟩ ⟨some t,op,ty,p,a,g⟩=some false)
  (h:ae P ops rest ⟨n,loc.set t (.tup []),tmp⟩ st Q):ae P ops (⟨some t,op,ty,p,a,g⟩::rest) ⟨n,loc,tmp⟩ st Q:=
 ae.off hg (by show ae P ops rest (Fr.put _ t _) st Q;rw[GF hb];exact h)
theorem ae.G2 {f gn:_} {eI:List D} {args:Array Operand} {vj:Array TypeId} (hb:Nat.ble n t=true) (hg:ay ops ⟨n,loc,tmp⟩ ⟨some t,.call ⟨.value f,args,vj⟩,ty,p,a,g⟩=some true) (hf:Fr.ev ⟨n,loc,tmp⟩ f=.fn gn eI)
  (h1:Ev P gn (args.toList.map (Fr.ev ⟨n,loc,tmp⟩)++eI) st d st1)
  (h:ae P ops rest ⟨n,loc,(t,d)::tmp⟩ st1 Q):ae P ops (⟨some t,.call ⟨.value f,args,vj⟩,ty,p,a,g⟩::rest) ⟨n,loc,tmp⟩ st Q:=
 ae.call hg hf h1 (by show ae P ops rest (Fr.put _ t d) st1 Q;rw[aa hb];exact h)
end
inductive Rows (st:St) (s:Nat):D→List (List D)→Prop where
 |nul:Rows st s .nul []
 |sl (es:List D) (h:∀e∈es,e.cells?=some e.cells∧e.cells.length=s):Rows st s (.sl es) (es.map D.cells)
 |win (k aq off:Nat) (es:List (List D)) (ar:Bool) (c:List D) (hm:st.bM k aq=some (ar,c)) (hl:off+es.length*s≤c.length)
   (he:∀(i:Nat) e,es[i]?=some e→(c.drop (off+i*s)).take s=e):Rows st s (.win k aq off es.length s) es
theorem Rows.uS {st:St} {s:Nat} {x:D} {es:List (List D)} (h:Rows st s x es):∀(i:Nat) e,es[i]?=some e→e.length=s:=by
 cases h with
 |nul=>intro i e h;simp at h
 |sl es h=>
  intro i e hi;rw[List.getElem?_map] at hi;obtain⟨d,hd,rfl⟩:=Option.map_eq_some_iff.1 hi;exact(h d (List.mem_of_getElem? hd)).2
 |win k aq off es ar c hm hl he=>
  intro i e hi
  have hlt:i<es.length:=by
   rcases Nat.lt_or_ge i es.length with h'|h'
   ·exact h'
   ·rw[List.getElem?_eq_none h'] at hi;cases hi
  rw[←he i e hi];have:(i+1)*s≤es.length*s:=Nat.mul_le_mul_right s hlt;rw[Nat.add_mul] at this
  simp;omega
theorem Rows.len {st:St} {s:Nat} {x:D} {es:List (List D)} (h:Rows st s x es):wD x=some es.length∧∀b,x≠.str b:=by
 cases h with
 |nul=>exact⟨rfl,fun b h=>by cases h⟩
 |sl es h=>exact⟨by simp[wD],fun b h=>by cases h⟩
 |win k aq off es ar c hm hl he=>exact⟨rfl,fun b h=>by cases h⟩
theorem Rows.GG {P:Pv} {st:St} {s:Nat} {x:D} {es:List (List D)} (h:Rows st s x es) {t e:TypeId} (ht:P.bY t=some (.slice e)):
  aS P .len [t] [x] st=some (.int .i64 (es.length:Nat),st):=by
 obtain⟨h1,h2⟩:=h.len;simp only[aS,ht]
 cases x with
 |str b=>exact absurd rfl (h2 b)
 |_=>simp only[h1];rfl
theorem xW {P:Pv} {e:TypeId} {c c':List D} {s:Nat} {d:D} (hs:bG P e=some s) (hc:c.take s=c') (hl:c'.length=s) (h:cU P e c'=some d):cU P e c=some d:=by
 have hlen:s≤c.length:=by rw[←hc] at hl;simp at hl;omega
 unfold cU at h⊢
 cases hu:P.bY e with
 |none=>rw[hu] at h;cases h
 |some u=>
  rw[hu] at h
  cases u with
  |struct f=>
   simp only[hs,Option.bind_some] at h⊢;rw[if_pos (by omega)] at h;rw[if_pos hlen,hc];rw[←h,List.take_of_length_le (by omega)]
  |array n f=>
   simp only[hs,Option.bind_some] at h⊢;rw[if_pos (by omega)] at h;rw[if_pos hlen,hc];rw[←h,List.take_of_length_le (by omega)]
  |_=>
   simp only at h⊢;rw[←h,←hc]
   cases c with
   |nil=>simp
   |cons x xs=>
    cases s with
    |zero=>simp at hc;subst hc;simp at h
    |succ s=>simp
theorem Rows.idx {P:Pv} {st:St} {s:Nat} {x:D} {es:List (List D)} (h:Rows st s x es) {t e:TypeId} (ht:P.bY t=some (.slice e)) (hs:bG P e=some s) {k:IntKind} {i:Int} {r:List D} (h0:0≤i) (hi:es[i.toNat]?=some r):
  ∃p,bB P t x (.int k i) st=some p∧∀d,cU P e r=some d→fv P e p st=some d:=by
 cases h with
 |nul=>simp at hi
 |sl es h=>
  rw[List.getElem?_map] at hi;obtain⟨d,hd,rfl⟩:=Option.map_eq_some_iff.1 hi;obtain⟨h1,h2⟩:=h d (List.mem_of_getElem? hd);refine⟨.ep d.cells,?_,fun d' h=>h⟩;simp only[bB,ht,hs,Option.bind_some,if_pos h0,hd,h1,if_pos h2]
 |win k aq off es ar c hm hl he=>
  have hlt:i.toNat<es.length:=by
   rcases Nat.lt_or_ge i.toNat es.length with h'|h'
   ·exact h'
   ·rw[List.getElem?_eq_none h'] at hi;cases hi
  refine⟨.ptr k aq (off+i.toNat*s),?_,fun d' h=>?_⟩
  ·simp only[bB,ht,hs,Option.bind_some,hm,Option.isSome_some];rw[if_pos ⟨trivial,h0,by omega,trivial⟩]
  ·simp only[fv,hm,Option.bind_some];exact xW hs (he _ _ hi) (Rows.uS (.win k aq off es ar c hm hl he) _ _ hi) h
theorem ae.iB {P:Pv} {ops:Array Oper} {rest:List Oper} {n:Nat} {loc:List D} {tmp:List (Nat×D)} {st:St} {Q:Fr→St→Prop} {t e:TypeId} {xo io:Operand} {d1 d2:Nat} {PM nZ:TypeId} {p1 p2:String} {a1 a2:Array Edge} {g1 g2:Option (Nat×Bool)} {x:D} {k:IntKind} {i:Int} {s:Nat} {es:List (List D)} {r:List D} {d:D}
  (hb1:Nat.ble n d1=true) (hb2:Nat.ble n d2=true) (wY:ay ops ⟨n,loc,tmp⟩ ⟨some d1,.indexAddr t xo io,PM,p1,a1,g1⟩=some true) (bH:∀p,ay ops ⟨n,loc,(d1,p)::tmp⟩ ⟨some d2,.load e (.tmp d1),nZ,p2,a2,g2⟩=some true)
  (hx:Fr.ev ⟨n,loc,tmp⟩ xo=x) (hi:Fr.ev ⟨n,loc,tmp⟩ io=.int k i) (hR:Rows st s x es) (ht:P.bY t=some (.slice e)) (hs:bG P e=some s) (h0:0≤i) (hr:es[i.toNat]?=some r) (hd:cU P e r=some d)
  (h:∀p,ae P ops rest ⟨n,loc,(d2,d)::(d1,p)::tmp⟩ st Q):ae P ops (⟨some d1,.indexAddr t xo io,PM,p1,a1,g1⟩::⟨some d2,.load e (.tmp d1),nZ,p2,a2,g2⟩::rest) ⟨n,loc,tmp⟩ st Q:=by
 obtain⟨p,h1,h2⟩:=hR.idx ht hs (k:=k) h0 hr;refine ae.T hb1 wY rfl (d:=p) (st1:=st) (by simp only[dJ,hx,hi,h1,Option.map_some])<|ae.T hb2 (bH p) rfl (d:=d) (st1:=st) ?_ (h p)
 have:Fr.ev ⟨n,loc,(d1,p)::tmp⟩ (.tmp d1)=p:=by
  simp only[Fr.ev,Fr.get,hb1,look];have:Nat.beq d1 d1=true:=Nat.beq_refl d1;rw[this]
 simp only[dJ,this,h2 d hd,Option.map_some]
def byteCells (b:List UInt8):List (List D):=b.map fun y=>[.int .u8 (y.toNat:Nat)]
def Bytes (st:St) (x:D) (b:List UInt8):Prop:=Rows st 1 x (byteCells b)
theorem bk {m:Mode} {kn:Bool} {st st1:St} {d d':D} (hm:m≠.ch∧m≠.nw) (h1:st1.bs.take st.bs.length=st.bs) (hd:aB st1 st.bs.length kn 16 d=some d'):cK m kn st st1 d=some (d',st):=by
 cases m with
 |ch=>exact absurd rfl hm.1
 |nw=>exact absurd rfl hm.2
 |_=>simp only[cK,hd,h1]
end Go.V
namespace Go.V
structure Ex (N:Nat) (st ah:St):Prop where
 low:∀k,k<N→ah.bs[k]?=st.bs[k]?
 len:st.bs.length≤ah.bs.length
 flr:ah.flr=st.flr
 ro:ah.ro=st.ro
theorem Ex.refl (N:Nat) (st:St):Ex N st st:=⟨fun _ _=>rfl,Nat.le_refl _,rfl,rfl⟩
theorem Ex.trans {N:Nat} {a b c:St} (h:Ex N a b) (g:Ex N b c):Ex N a c:=
 ⟨fun k hk=>(g.low k hk).trans (h.low k hk),Nat.le_trans h.len g.len,g.flr.trans h.flr,g.ro.trans h.ro⟩
theorem Ex.push {N:Nat} {st:St} (h:N≤st.bs.length) (b:iu):Ex N st (st.push b):=
 ⟨fun k hk=>by simp only[St.push];rw[List.getElem?_append_left (by omega)],by simp[St.push],rfl,rfl⟩
theorem Ex.set {N:Nat} {st:St} {k:Nat} (h:N≤k) (b:iu):Ex N st {st with bs:=st.bs.set k b}:=
 ⟨fun j hj=>by simp only;rw[List.getElem?_set_ne (by omega)],by simp,rfl,rfl⟩
theorem Ex.take {N:Nat} {st ah:St} (h:Ex N st ah) (hN:N=st.bs.length):ah.bs.take N=st.bs:=by
 apply List.ext_getElem?;intro k;rw[List.getElem?_take]
 split
 ·exact h.low k (by assumption)
 ·rw[List.getElem?_eq_none (by omega)]
theorem Ex.mem {N:Nat} {st ah:St} (h:Ex N st ah) {k v:Nat} (hk:k<N):ah.bM k v=st.bM k v:=by
 simp only[St.bM,h.low k hk]
theorem Rows.ex {N:Nat} {st ah:St} (h:Ex N st ah) {s:Nat} {x:D} {es:List (List D)} (hr:Rows st s x es) (hx:x.ref≤N):Rows ah s x es:=by
 cases hr with
 |nul=>exact .nul
 |sl es h=>exact .sl es h
 |win k aq off es ar c hm hl he=>exact .win k aq off es ar c (by rw[h.mem (by simp only[D.ref] at hx;omega)];exact hm) hl he
theorem Rows.slice {P:Pv} {st:St} {s:Nat} {x:D} {es:List (List D)} (h:Rows st s x es) {t e:TypeId} (ht:P.bY t=some (.slice e)) (hs:bG P e=some s) {lo hi:Option D} {l r:Nat} (hb:cD es.length lo hi=some (l,r)) (xF:l≤r∧r≤es.length):
  ∃y,fp P t x lo hi st=some y∧Rows st s y ((es.take r).drop l)∧y.ref≤x.ref:=by
 cases h with
 |nul=>
  refine⟨.nul,?_,?_,Nat.le_refl _⟩
  ·simp only[fp,ht,hs,Option.bind_some];simp only[List.length_nil] at hb;rw[hb];rfl
  ·simp;exact .nul
 |sl es h=>
  refine⟨.sl ((es.take r).drop l),?_,?_,by simp[D.ref]⟩
  ·simp only[fp,ht,hs,Option.bind_some]
   have:qM s es=true:=by
    cases es with
    |nil=>rfl
    |cons e es=>obtain⟨h1,h2⟩:=h e (List.mem_cons_self ..);simp[qM,h1,h2]
   rw[if_pos this];simp only[List.length_map] at hb;rw[hb];rfl
  ·have:=Rows.sl (st:=st) (s:=s) ((es.take r).drop l) fun e he=>h e (List.mem_of_mem_take (List.mem_of_mem_drop he))
   simpa[List.map_drop,List.map_take] using this
 |win k aq off es ar c hm hl he=>
  have hlen:((es.take r).drop l).length=r-l:=by simp;omega
  refine⟨.win k aq (off+l*s) (r-l) s,?_,?_,by simp[D.ref]⟩
  ·simp only[fp,ht,hs,Option.bind_some,if_true,hb];rfl
  ·have h1:l*s+(r-l)*s≤es.length*s:=by rw[←Nat.add_mul];exact Nat.mul_le_mul_right s (by omega)
   have:=Rows.win (st:=st) (s:=s) k aq (off+l*s) ((es.take r).drop l) ar c hm (by rw[hlen];omega) (fun i e hi=>by
    rw[List.getElem?_drop,List.getElem?_take] at hi
    split at hi
    ·have:=he _ _ hi;rw[←this,Nat.add_mul];congr 2;omega
    ·cases hi)
   rwa [hlen] at this
inductive Acc (N:Nat) (st:St) (s:Nat):D→List (List D)→Prop where
 |nul:Acc N st s .nul []
 |win (k aq:Nat) (es:List (List D)) (hN:N≤k) (hm:st.bs[k]?=some (.mem aq true es.flatten)) (he:∀e∈es,e.length=s):Acc N st s (.win k aq 0 es.length s) es
theorem bN {s:Nat}:∀{es:List (List D)},(∀e∈es,e.length=s)→es.flatten.length=es.length*s
 |[],_=>by simp
 |e::es,h=>by
  have:=bN (s:=s) (es:=es) fun x hx=>h x (List.mem_cons_of_mem _ hx);simp only[List.flatten_cons,List.length_append,List.length_cons,this,h e (List.mem_cons_self ..)];rw[Nat.add_mul];omega
theorem jE {s:Nat}:∀{es:List (List D)},(∀e∈es,e.length=s)→∀(i:Nat) e,es[i]?=some e→(es.flatten.drop (i*s)).take s=e
 |[],_,i,e,h=>by simp at h
 |x::es,h,0,e,hi=>by
  simp at hi;subst hi;have:=h x (List.mem_cons_self ..);simp[List.take_left' this]
 |x::es,h,i+1,e,hi=>by
  simp only[List.getElem?_cons_succ] at hi;have hx:=h x (List.mem_cons_self ..);have:=jE (s:=s) (es:=es) (fun y hy=>h y (List.mem_cons_of_mem _ hy)) i e hi;rw[←this,List.flatten_cons,Nat.add_mul,Nat.one_mul,Nat.add_comm,←hx,←List.drop_drop,List.drop_left]
theorem St.mem_of {st:St} {k aq:Nat} {ar:Bool} {c:List D} (h:st.bs[k]?=some (.mem aq ar c)):st.bM k aq=some (ar,c):=by
 simp only[St.bM,h,if_true]
theorem Acc.rows {N:Nat} {st:St} {s:Nat} {x:D} {es:List (List D)} (h:Acc N st s x es):Rows st s x es:=by
 cases h with
 |nul=>exact .nul
 |win k aq es hN hm he=>
  exact .win k aq 0 es true es.flatten (St.mem_of hm) (by rw[bN he];omega) fun i e hi=>by rw[Nat.zero_add];exact jE he i e hi
theorem Acc.ex {N M:Nat} {st ah:St} (h:Ex M st ah) {s:Nat} {x:D} {es:List (List D)} (hr:Acc N st s x es) (hx:x.ref≤M):Acc N ah s x es:=by
 cases hr with
 |nul=>exact .nul
 |win k aq es hN hm he=>exact .win k aq es hN (by rw[h.low k (by simp only[D.ref] at hx;omega)];exact hm) he
theorem Acc.push {N:Nat} {st:St} {s:Nat} {x:D} {es:List (List D)} (hr:Acc N st s x es) (b:iu):Acc N (st.push b) s x es:=by
 cases hr with
 |nul=>exact .nul
 |win k aq es hN hm he=>
  refine .win k aq es hN ?_ he;simp only[St.push];rw[List.getElem?_append_left];exact hm
  rcases Nat.lt_or_ge k st.bs.length with h'|h'
  ·exact h'
  ·rw[List.getElem?_eq_none h'] at hm;cases hm
theorem Rows.row {st:St} {s:Nat} {x:D} {es:List (List D)} (h:Rows st s x es):kR st x=some (es.length,es.flatten):=by
 have hl:=h.uS
 cases h with
 |nul=>rfl
 |sl es h=>
  simp only[kR,List.length_map];rw[List.flatMap_def]
 |win k aq off es ar c hm jm he=>
  simp only[kR,hm,Option.bind_some,if_pos jm]
  congr 2
  have key:∀(es:List (List D)) (c:List D),es.length*s≤c.length→(∀(i:Nat) e,es[i]?=some e→(c.drop (i*s)).take s=e)→c.take (es.length*s)=es.flatten:=by
   intro es
   induction es with
   |nil=>intro c _ _;simp
   |cons e es ih=>
    intro c hc hx;have h0:=hx 0 e rfl;simp only[Nat.zero_mul,List.drop_zero] at h0;rw[List.flatten_cons,List.length_cons,Nat.add_mul,Nat.one_mul,Nat.add_comm,List.take_add,h0]
    congr 1
    simp only[List.length_cons,Nat.add_mul,Nat.one_mul] at hc;refine ih (c.drop s) (by simp;omega) fun i e hi=>?_;rw[List.drop_drop,←hx (i+1) e (by simpa using hi),Nat.add_mul,Nat.one_mul,Nat.add_comm]
  refine key es (c.drop off) (by simp;omega) fun i e hi=>?_;rw[List.drop_drop];exact he i e hi
theorem Acc.append {P:Pv} {N:Nat} {st:St} {s:Nat} {x y:D} {es ys:List (List D)} (hr:Acc N st s x es) (hy:Rows st s y ys) {t1 t2 e:TypeId} {td:TypeDesc} {inf:TypeInfo} {z:List D}
  (h1:P.bY t1=some (.slice e)) (h2:P.bY t2=some td) (h3:eT td=false) (h4:P.info e=some inf) (h5:cE P e=some z) (h6:inf.size=s) (h7:z.length=s) (h8:inf.bytes≠0)
  (hN:N≤st.bs.length) (hf:st.flr≤N) (eL:st.ro≤N) (hb:(es.length+ys.length)*inf.bytes≤1099511627776):
  ∃x' ah,aS P .append [t1,t2] [x,y] st=some (x',ah)∧Acc N ah s x' (es++ys)∧Ex N st ah∧x'.ref≤ah.bs.length∧(∀k,k<st.bs.length→k+1≠x.ref→ah.bs[k]?=st.bs[k]?)∧(x'.ref=x.ref∨st.bs.length<x'.ref):=by
 have gO:=hy.row
 have wL:∀e∈ys,e.length=s:=fun e he=>by
  obtain⟨i,hi⟩:=List.getElem?_of_mem he;exact hy.uS i e hi
 have iU:=bN wL;subst h6;simp only[aS,cN,h1,h2,h3,Bool.false_eq_true,if_false,h4,h5,gO,Option.bind_some];rw[if_neg (by rintro(h|h|h);exact h iU;exact h8 h;exact h h7)]
 cases hr with
 |nul=>
  simp only[List.nil_append]
  by_cases h0:ys.length=0
  ·rw[if_pos h0]
   have:ys=[]:=by cases ys with|nil=>rfl|cons _ _=>simp at h0
   subst this;exact⟨.nul,st,rfl,.nul,Ex.refl _ _,by simp[D.ref],fun _ _ _=>rfl,.inl rfl⟩
  ·rw[if_neg h0,if_pos (by simpa using hb)];refine⟨_,_,rfl,?_,Ex.push hN _,by simp[D.ref,St.push],fun k hk _=>by simp only[St.push];rw[List.getElem?_append_left hk],.inr (by simp[D.ref])⟩;exact .win _ _ ys hN (by simp[St.push]) wL
 |win k aq es hk hm he=>
  have gU:k<st.bs.length:=by
   rcases Nat.lt_or_ge k st.bs.length with h'|h'
   ·exact h'
   ·rw[List.getElem?_eq_none h'] at hm;cases hm
  simp only[St.mem_of hm];rw[if_neg (by rintro(h|h);exact h rfl;rw[bN he] at h;omega)]
  by_cases h0:ys.length=0
  ·rw[if_pos h0]
   have:ys=[]:=by cases ys with|nil=>rfl|cons _ _=>simp at h0
   subst this;simp only[List.append_nil];exact⟨_,st,rfl,.win k aq es hk hm he,Ex.refl _ _,by simp only[D.ref];omega,fun _ _ _=>rfl,.inl rfl⟩
  ·rw[if_neg h0,if_pos ⟨hb,by simp only[St.kX,Bool.and_eq_true,Bool.or_eq_true,decide_eq_true_eq];exact⟨by omega,.inl (by omega)⟩⟩];refine⟨_,_,rfl,?_,Ex.set hk _,by simp only[D.ref,List.length_set];omega,fun j hj hne=>by simp only;rw[List.getElem?_set_ne (by simp only[D.ref] at hne;omega)],.inl rfl⟩
   have:(es.flatten.take (0+es.length*inf.size)).drop 0++ys.flatten=(es++ys).flatten:=by
    rw[Nat.zero_add,←bN he,List.take_length,List.drop_zero,List.flatten_append]
   rw[this];have oP:es.length+ys.length=(es++ys).length:=by simp
   rw[oP]
   exact .win k (aq+1) (es++ys) hk (by simp[gU]) fun e h=>by
    rcases List.mem_append.1 h with h|h
    ·exact he e h
    ·exact wL e h
def bK:D→Bool
 | .bool _| .int _ _| .str _| .sl _=>true
 |_=>false
theorem jv {st:St} {N n:Nat}:∀{l:List D},(∀d∈l,bK d=true)→cH (cw st N (n+1)) l=some l
 |[],_=>rfl
 |d::l,h=>by
  have h1:=h d (List.mem_cons_self ..);have h2:=jv (st:=st) (N:=N) (n:=n) fun x hx=>h x (List.mem_cons_of_mem _ hx);have h3:cw st N (n+1) d=some d:=by cases d<;>simp[bK] at h1<;>rfl
  simp only[cH,h3,h2]
def jn (s:Nat) (e:List D):D:=match s with|1=>e.headD .aY|_=>.agg e
theorem eX {s:Nat}:∀{es:List (List D)},(∀e∈es,e.length=s)→chunk s es.length es.flatten=es.map (jn s)
 |[],_=>rfl
 |e::es,h=>by
  have he:=h e (List.mem_cons_self ..);have ih:=eX (s:=s) (es:=es) fun x hx=>h x (List.mem_cons_of_mem _ hx);simp only[List.length_cons,chunk,List.flatten_cons,List.map_cons]
  congr 1
  ·by_cases hs:s=1
   ·subst hs
    cases e with
    |nil=>simp at he
    |cons x xs=>simp[jn]
   ·have h1:jn s e=.agg e:=by unfold jn;split;exact absurd rfl hs;rfl
    have h2:(match s with|1=>(e++es.flatten).headD .aY|_=>D.agg ((e++es.flatten).take s))=.agg e:=by
     split
     ·exact absurd rfl hs
     ·rw[List.take_left' he]
    rw[h1];exact h2
  ·rw[List.drop_left' he];exact ih
theorem Acc.freeze {N:Nat} {st:St} {s:Nat} {x:D} {es:List (List D)} (h:Acc N st s x es) (hp:∀e∈es,∀d∈e,bK d=true) {n:Nat} (hn:2≤n):aB st N false (n+1) x=some (.sl (es.map (jn s))):=by
 obtain⟨n,rfl⟩:∃m,n=m+2:=⟨n-2,by omega⟩
 cases h with
 |nul=>rfl
 |win k aq es hN hm he=>
  show(if k<N then some (D.win k aq 0 es.length s) else cw st N (n+2) (.win k aq 0 es.length s))=_;rw[if_neg (show¬k<N by omega),cw];simp only[if_neg (show¬k<N by omega),St.mem_of hm,Option.bind_some];rw[if_pos (by rw[bN he];omega)];have:(es.flatten.drop 0).take (es.length*s)=es.flatten:=by rw[List.drop_zero,←bN he,List.take_length]
  rw[this,jv (fun d hd=>by
   obtain⟨e,oB,xJ⟩:=List.mem_flatten.1 hd
   exact hp e oB d xJ)]
  simp only[Option.map_some,eX he]
theorem kO {s:Nat} {e:List D} (h:e.length=s) (hp:∀d∈e,bK d=true):(jn s e).cells?=some (jn s e).cells∧(jn s e).cells=e:=by
 by_cases hs:s=1
 ·subst hs
  match e,h with
  |[x],_=>
   have:=hp x (List.mem_cons_self ..);cases x<;>simp[bK] at this<;>exact⟨rfl,rfl⟩
 ·have:jn s e=.agg e:=by unfold jn;split;exact absurd rfl hs;rfl
  rw[this];exact⟨rfl,rfl⟩
theorem Rows.pQ {st:St} {s:Nat} {es:List (List D)} (h:∀e∈es,e.length=s) (hp:∀e∈es,∀d∈e,bK d=true):Rows st s (.sl (es.map (jn s))) es:=by
 have:=Rows.sl (st:=st) (s:=s) (es.map (jn s)) fun d hd=>by
  obtain⟨e,he,rfl⟩:=List.mem_map.1 hd;obtain⟨h1,h2⟩:=kO (h e he) (hp e he);exact⟨h1,by rw[h2];exact h e he⟩
 have h2:(es.map (jn s)).map D.cells=es:=by
  rw[List.map_map]
  conv=>rhs;rw[←List.map_id es]
  refine List.map_congr_left fun e he=>?_;exact(kO (h e he) (hp e he)).2
 rwa [h2] at this
theorem Rows.bs {st ah:St} (h:ah.bs=st.bs) {s:Nat} {x:D} {es:List (List D)} (hr:Rows st s x es):Rows ah s x es:=by
 cases hr with
 |nul=>exact .nul
 |sl es h=>exact .sl es h
 |win k aq off es ar c hm hl he=>exact .win k aq off es ar c (by simp only[St.bM,h] at hm⊢;exact hm) hl he
theorem Eg (m:Mode) (st:St):(ai m st).bs=st.bs:=by cases m<;>rfl
theorem Rows.enter {st:St} {s:Nat} {x:D} {es:List (List D)} (m:Mode) (hr:Rows st s x es):Rows (ai m st) s x es:=hr.bs (Eg m st)
theorem eD {k:IntKind} {m:Nat} (h:m≤lF k):bj k (m:Int)=m:=by
 show bj k (.ofNat m)=_;unfold bj;simp only[Nat.ble_eq_true_of_le h];rfl
theorem wrap_i64 {n : Int} (h1 : -9223372036854775808 ≤ n) (h2 : n ≤ 9223372036854775807) : bj .i64 n = n := by
  cases n with
  | ofNat m => exact eD (k := .i64) (m := m) (by simp only [lF]; have : (Int.ofNat m) = (m : Int) := rfl; omega)
  | negSucc m =>
    unfold bj
    have : Nat.ble (ub .i64) m = false := by
      cases hb : Nat.ble (ub .i64) m with
      | false => rfl
      | true => have := Nat.le_of_ble_eq_true hb; simp only [ub] at this; have : Int.negSucc m = -(m : Int) - 1 := by omega
                omega
    simp only [this]
theorem bv_and {w a b:Nat} (ha:a<2^w) (hb:b<2^w):(BitVec.ofInt w (a:Int) &&&BitVec.ofInt w (b:Int)).toNat=a &&&b:=by
 rw[BitVec.ofInt_natCast,BitVec.ofInt_natCast,BitVec.toNat_and,BitVec.toNat_ofNat,BitVec.toNat_ofNat,Nat.mod_eq_of_lt ha,Nat.mod_eq_of_lt hb]
theorem Li {w a b:Nat} (ha:a<2^w) (hb:b<2^w):(BitVec.ofInt w (a:Int)|||BitVec.ofInt w (b:Int)).toNat=a|||b:=by
 rw[BitVec.ofInt_natCast,BitVec.ofInt_natCast,BitVec.toNat_or,BitVec.toNat_ofNat,BitVec.toNat_ofNat,Nat.mod_eq_of_lt ha,Nat.mod_eq_of_lt hb]
end Go.V
namespace Go.V
variable{P:Pv} {ops:Array Oper} {rest:List Oper} {n:Nat} {loc:List D} {tmp:List (Nat×D)} {st:St} {Q:Fr→St→Prop} {ty:TypeId} {p:String} {a:Array Edge} {g:Option (Nat×Bool)} {dst:Nat}
theorem ae.len {t e:TypeId} {xo:Operand} {x:D} {s:Nat} {es:List (List D)} (oQ:Nat.ble n dst=true) (hg:ay ops ⟨n,loc,tmp⟩ ⟨some dst,.call ⟨.builtin .len,#[xo],#[t]⟩,ty,p,a,g⟩=some true) (hx:Fr.ev ⟨n,loc,tmp⟩ xo=x) (hR:Rows st s x es) (ht:P.bY t=some (.slice e))
  (h:ae P ops rest ⟨n,loc,(dst,(.int .i64 (es.length:Nat)))::tmp⟩ st Q):ae P ops (⟨some dst,.call ⟨.builtin .len,#[xo],#[t]⟩,ty,p,a,g⟩::rest) ⟨n,loc,tmp⟩ st Q:=by
 refine ae.T oQ hg rfl (d:=.int .i64 (es.length:Nat)) (st1:=st) ?_ h;simp only[dJ,List.map_cons,List.map_nil,hx];exact hR.GG ht
theorem ae.slice {t e:TypeId} {xo:Operand} {lo hi:Option Operand} {x:D} {s:Nat} {es:List (List D)} {l r:Nat} (oQ:Nat.ble n dst=true) (hg:ay ops ⟨n,loc,tmp⟩ ⟨some dst,.slice t xo lo hi none,ty,p,a,g⟩=some true) (hx:Fr.ev ⟨n,loc,tmp⟩ xo=x) (hR:Rows st s x es) (ht:P.bY t=some (.slice e)) (hs:bG P e=some s)
  (hb:cD es.length (lo.map (Fr.ev ⟨n,loc,tmp⟩)) (hi.map (Fr.ev ⟨n,loc,tmp⟩))=some (l,r)) (xF:l≤r∧r≤es.length)
  (h:∀y,Rows st s y ((es.take r).drop l)→y.ref≤x.ref→ae P ops rest ⟨n,loc,(dst,y)::tmp⟩ st Q):ae P ops (⟨some dst,.slice t xo lo hi none,ty,p,a,g⟩::rest) ⟨n,loc,tmp⟩ st Q:=by
 obtain⟨y,h1,h2,h3⟩:=hR.slice ht hs hb xF;refine ae.T oQ hg rfl (d:=y) (st1:=st) ?_ (h y h2 h3);simp only[dJ,hx,h1,Option.map_some]
theorem ae.append {N:Nat} {t1 t2 e:TypeId} {td:TypeDesc} {inf:TypeInfo} {z:List D} {xo yo:Operand} {x y:D} {s:Nat} {es ys:List (List D)} (oQ:Nat.ble n dst=true) (hg:ay ops ⟨n,loc,tmp⟩ ⟨some dst,.call ⟨.builtin .append,#[xo,yo],#[t1,t2]⟩,ty,p,a,g⟩=some true)
  (hx:Fr.ev ⟨n,loc,tmp⟩ xo=x) (hy:Fr.ev ⟨n,loc,tmp⟩ yo=y) (hr:Acc N st s x es) (jQ:Rows st s y ys)
  (h1:P.bY t1=some (.slice e)) (h2:P.bY t2=some td) (h3:eT td=false) (h4:P.info e=some inf) (h5:cE P e=some z) (h6:inf.size=s) (h7:z.length=s) (h8:inf.bytes≠0)
  (hN:N≤st.bs.length) (hf:st.flr≤N) (eL:st.ro≤N) (hb:(es.length+ys.length)*inf.bytes≤1099511627776)
  (h:∀x' ah,Acc N ah s x' (es++ys)→Ex N st ah→x'.ref≤ah.bs.length→(∀k,k<st.bs.length→k+1≠x.ref→ah.bs[k]?=st.bs[k]?)→(x'.ref=x.ref∨st.bs.length<x'.ref)→ae P ops rest ⟨n,loc,(dst,x')::tmp⟩ ah Q):
  ae P ops (⟨some dst,.call ⟨.builtin .append,#[xo,yo],#[t1,t2]⟩,ty,p,a,g⟩::rest) ⟨n,loc,tmp⟩ st Q:=by
 obtain⟨x',ah,q1,q2,q3,q4,q5,q6⟩:=hr.append jQ h1 h2 h3 h4 h5 h6 h7 h8 hN hf eL hb;refine ae.T oQ hg rfl (d:=x') (st1:=ah) ?_ (h x' ah q2 q3 q4 q5 q6);simp only[dJ,List.map_cons,List.map_nil,hx,hy];exact q1
theorem Rows.one {st:St} {s:Nat} {c:List D} (hc:c.length=s):Rows (st.push (.mem 0 true c)) s (.win st.bs.length 0 0 1 s) [c]:=by
 have:=Rows.win (st:=st.push (.mem 0 true c)) (s:=s) st.bs.length 0 0 [c] true c (St.mem_of (by simp[St.push])) (by simp[hc]) fun i e hi=>by
  cases i with
  |zero=>simp at hi;subst hi;simp[←hc]
  |succ i=>simp at hi
 exact this
theorem Rows.ref {st:St} {s:Nat} {x:D} {es:List (List D)} (h:Rows st s x es):x.ref≤st.bs.length:=by
 cases h with
 |nul=>simp[D.ref]
 |sl es h=>simp[D.ref]
 |win k aq off es ar c hm hl he=>
  simp only[D.ref]
  rcases Nat.lt_or_ge k st.bs.length with h'|h'
  ·exact h'
  ·simp only[St.bM,List.getElem?_eq_none h'] at hm;cases hm
theorem Acc.ref {N:Nat} {st:St} {s:Nat} {x:D} {es:List (List D)} (h:Acc N st s x es):x.ref≤st.bs.length:=h.rows.ref
end Go.V
namespace Go.V
theorem fQ:∀(xs c:List D) (off:Nat),off+xs.length≤c.length→setMany c off xs=c.take off++xs++c.drop (off+xs.length)
 |[],c,off,h=>by simp[setMany]
 |x::xs,c,off,h=>by
  simp only[setMany];simp only[List.length_cons] at h;rw[fQ xs (c.set off x) (off+1) (by simp;omega)]
  have h1:(c.set off x).take (off+1)=c.take off++[x]:=by
   rw[List.take_set,List.take_add_one,List.getElem?_eq_getElem (by omega:off<c.length)];simp only[Option.toList_some];rw[List.set_append_right _ _ (by simp;omega)];have:off-(c.take off).length=0:=by simp;omega
   rw[this];rfl
  have h2:(c.set off x).drop (off+1+xs.length)=c.drop (off+(xs.length+1)):=by
   rw[List.drop_set_of_lt (by omega)];congr 1;omega
  rw[h1,h2];simp[List.length_cons]
theorem o7 (st:St) (b:iu):(st.push b).bs[st.bs.length]?=some b:=by simp[St.push]
variable{P:Pv} {ops:Array Oper} {rest:List Oper} {n:Nat} {loc:List D} {tmp:List (Nat×D)} {st:St} {Q:Fr→St→Prop} {ty:TypeId} {p:String} {a:Array Edge} {g:Option (Nat×Bool)} {dst:Nat}
theorem ae.makeSlice {t e:TypeId} {lo co:Operand} {k1 k2:IntKind} {m:Nat} {inf:TypeInfo} {z:List D} (oQ:Nat.ble n dst=true) (hg:ay ops ⟨n,loc,tmp⟩ ⟨some dst,.makeSlice t lo co,ty,p,a,g⟩=some true)
  (hl:Fr.ev ⟨n,loc,tmp⟩ lo=.int k1 (m:Nat)) (hc:Fr.ev ⟨n,loc,tmp⟩ co=.int k2 (m:Nat)) (ht:P.bY t=some (.slice e)) (hi:P.info e=some inf) (hz:cE P e=some z) (jJ:z.length=inf.size) (hm:m*inf.bytes≤140737488355328) (F':m≤9223372036854775807)
  (h:ae P ops rest ⟨n,loc,(dst,.win st.bs.length 0 0 m inf.size)::tmp⟩ (st.push (.mem 0 true (cV m z))) Q):ae P ops (⟨some dst,.makeSlice t lo co,ty,p,a,g⟩::rest) ⟨n,loc,tmp⟩ st Q:=by
 refine ae.T oQ hg rfl (d:=.win st.bs.length 0 0 m inf.size) (st1:=st.push (.mem 0 true (cV m z))) ?_ h;simp only[dJ,hl,hc,eQ,ht,hi,hz,Option.bind_some];rw[if_pos ⟨jJ,by omega,by omega,by omega,by rw[←Int.natCast_mul];omega⟩]
 rfl
theorem iJ {k aq off:Nat} {ar:Bool} {c cs:List D} (hm:st.bs[k]?=some (.mem aq ar c)) (hl:off+cs.length≤c.length) (hw:st.kX k (refs cs)=true):st.wr k aq off cs=some {st with bs:=st.bs.set k (.mem aq ar (c.take off++cs++c.drop (off+cs.length)))}:=by
 simp only[St.wr,St.mem_of hm];rw[if_pos ⟨hl,hw⟩,fQ _ _ _ hl]
theorem ae.copy {t1 t2 e:TypeId} {Po so:Operand} {k aq off len s:Nat} {y:D} {ys:List (List D)} {ar:Bool} {c:List D} (oQ:Nat.ble n dst=true) (hg:ay ops ⟨n,loc,tmp⟩ ⟨some dst,.call ⟨.builtin .copy,#[Po,so],#[t1,t2]⟩,ty,p,a,g⟩=some true)
  (hd:Fr.ev ⟨n,loc,tmp⟩ Po=.win k aq off len s) (hy:Fr.ev ⟨n,loc,tmp⟩ so=y) (hR:Rows st s y ys) (ht:P.bY t1=some (.slice e)) (hs:bG P e=some s) (hm:st.bs[k]?=some (.mem aq ar c)) (hl:off+len*s≤c.length)
  (hw:st.kX k (refs (ys.flatten.take (min ys.length len*s)))=true)
  (h:ae P ops rest ⟨n,loc,(dst,.int .i64 (min ys.length len:Nat))::tmp⟩ {st with bs:=st.bs.set k (.mem aq ar (c.take off++ys.flatten.take (min ys.length len*s)++c.drop (off+min ys.length len*s)))} Q):
  ae P ops (⟨some dst,.call ⟨.builtin .copy,#[Po,so],#[t1,t2]⟩,ty,p,a,g⟩::rest) ⟨n,loc,tmp⟩ st Q:=by
 have wL:∀e∈ys,e.length=s:=fun e he=>by
  obtain⟨i,hi⟩:=List.getElem?_of_mem he;exact hR.uS i e hi
 have iU:=bN wL;have F_:min ys.length len*s≤ys.length*s:=Nat.mul_le_mul_right s (Nat.min_le_left _ _);have Qi:min ys.length len*s≤len*s:=Nat.mul_le_mul_right s (Nat.min_le_right _ _);have htl:(ys.flatten.take (min ys.length len*s)).length=min ys.length len*s:=by rw[List.length_take,iU];omega
 refine ae.T oQ hg rfl (d:=.int .i64 (min ys.length len:Nat)) (st1:={st with bs:=st.bs.set k (.mem aq ar (c.take off++ys.flatten.take (min ys.length len*s)++c.drop (off+min ys.length len*s)))}) ?_ h;simp only[dJ,List.map_cons,List.map_nil,hd,hy,aS,tj,ht,hs,Option.bind_some,hR.row];rw[if_neg (by simp[iU])];simp only[ne_eq,not_true_eq_false,if_false];have:=iJ (st:=st) hm (cs:=ys.flatten.take (min ys.length len*s)) (off:=off) (by rw[htl];omega) hw;rw[this,htl];rfl
theorem ae.store {fr:Fr} {t:TypeId} {ao vo:Operand} {k aq off:Nat} {v:D} {cs:List D} {ar:Bool} {c:List D} (hg:ay ops fr ⟨none,.store t ao vo,ty,p,a,g⟩=some true) (ha:fr.ev ao=.ptr k aq off) (hv:fr.ev vo=v)
  (hcs:v.cells?=some cs) (hs:bG P t=some cs.length) (hm:st.bs[k]?=some (.mem aq ar c)) (hl:off+cs.length≤c.length) (hw:st.kX k (refs cs)=true)
  (h:ae P ops rest fr {st with bs:=st.bs.set k (.mem aq ar (c.take off++cs++c.drop (off+cs.length)))} Q):ae P ops (⟨none,.store t ao vo,ty,p,a,g⟩::rest) fr st Q:=by
 refine ae.N hg rfl (d:=.tup []) (st1:=_) ?_ h;simp only[dJ,ha,hv,jU,hcs,hs];rw[if_pos trivial,iJ hm hl hw];rfl
theorem ae.load {t:TypeId} {ao:Operand} {k aq off:Nat} {d:D} {ar:Bool} {c:List D} (oQ:Nat.ble n dst=true) (hg:ay ops ⟨n,loc,tmp⟩ ⟨some dst,.load t ao,ty,p,a,g⟩=some true) (ha:Fr.ev ⟨n,loc,tmp⟩ ao=.ptr k aq off)
  (hm:st.bs[k]?=some (.mem aq ar c)) (hd:cU P t (c.drop off)=some d)
  (h:ae P ops rest ⟨n,loc,(dst,d)::tmp⟩ st Q):ae P ops (⟨some dst,.load t ao,ty,p,a,g⟩::rest) ⟨n,loc,tmp⟩ st Q:=by
 refine ae.T oQ hg rfl (d:=d) (st1:=st) ?_ h;simp only[dJ,ha,fv,St.mem_of hm,Option.bind_some,hd,Option.map_some]
theorem ae.next {io:Operand} {k pos:Nat} {b:List UInt8} (oQ:Nat.ble n dst=true) (hg:ay ops ⟨n,loc,tmp⟩ ⟨some dst,.next io true,ty,p,a,g⟩=some true) (hx:Fr.ev ⟨n,loc,tmp⟩ io=.ptr k 0 0) (hm:st.bs[k]?=some (.iter b pos)) (hp:pos<b.length) (hw:st.kX k 0=true)
  (h:ae P ops rest ⟨n,loc,(dst,.tup [.bool true,.int .i64 (pos:Nat),.int .i32 ((Utf8.decode ⟨b.toArray⟩ pos).1:Nat)])::tmp⟩ {st with bs:=st.bs.set k (.iter b (pos+(Utf8.decode ⟨b.toArray⟩ pos).2))} Q):ae P ops (⟨some dst,.next io true,ty,p,a,g⟩::rest) ⟨n,loc,tmp⟩ st Q:=by
 refine ae.T oQ hg rfl (d:=.tup [.bool true,.int .i64 (pos:Nat),.int .i32 ((Utf8.decode ⟨b.toArray⟩ pos).1:Nat)]) (st1:={st with bs:=st.bs.set k (.iter b (pos+(Utf8.decode ⟨b.toArray⟩ pos).2))}) ?_ h;simp only[dJ,hx,sD,hm,if_pos hp,hw,if_true]
structure G7 (N k:Nat) (st ah:St):Prop where
 low:∀i,i<N→i≠k→ah.bs[i]?=st.bs[i]?
 len:st.bs.length≤ah.bs.length
 flr:ah.flr=st.flr
 ro:ah.ro=st.ro
theorem G7.of {N k:Nat} {a b c:St} (h:G7 N k a b) (g:Ex N b c):G7 N k a c:=
 ⟨fun i hi hk=>(g.low i hi).trans (h.low i hi hk),Nat.le_trans h.len g.len,g.flr.trans h.flr,g.ro.trans h.ro⟩
theorem G7.put {N k:Nat} {a b:St} (h:G7 N k a b) (bx:iu):G7 N k a ⟨b.bs.set k bx,b.flr,b.ro⟩:=
 ⟨fun i hi hk=>by simp only;rw[List.getElem?_set_ne (fun e=>hk e.symm)];exact h.low i hi hk,by simp only[List.length_set];exact h.len,h.flr,h.ro⟩
theorem G7.take {k:Nat} {a b:St} (h:G7 a.bs.length k a b) (hk:k<a.bs.length) {bx:iu} (hb:b.bs[k]?=some bx):b.bs.take a.bs.length=a.bs.set k bx:=by
 apply List.ext_getElem?;intro i;rw[List.getElem?_take]
 by_cases hi:i<a.bs.length
 ·rw[if_pos hi]
  by_cases he:i=k
  ·subst he;rw[hb,List.getElem?_set_self hk]
  ·rw[h.low i hi he,List.getElem?_set_ne (fun e=>he e.symm)]
 ·rw[if_neg hi,List.getElem?_eq_none (by simp;omega)]
end Go.V
namespace Go.V
variable{P:Pv} {ops:Array Oper} {rest:List Oper} {n:Nat} {loc:List D} {tmp:List (Nat×D)} {st:St} {Q:Fr→St→Prop} {ty:TypeId} {p:String} {a:Array Edge} {g:Option (Nat×Bool)} {dst:Nat}
end Go.V
namespace Go.V
structure bh where
 K:Nat→Prop
 P:St→Prop
 loc:∀{st ah:St},(∀k,K k→ah.bs[k]?=st.bs[k]?)→P st→P ah
def bh.box (k:Nat) (b:iu):bh:=⟨fun j=>j=k,fun st=>st.bs[k]?=some b,fun h p=>(h k rfl).trans p⟩
inductive fF (st:St) (s:Nat):D→List (List D)→Prop where
 |nul:fF st s .nul []
 |win (k aq off:Nat) (es:List (List D)) (c:List D) (hm:st.bs[k]?=some (.mem aq true c)) (hl:off+es.length*s≤c.length) (hc:(c.drop off).take (es.length*s)=es.flatten) (he:∀e∈es,e.length=s):fF st s (.win k aq off es.length s) es
theorem fF.move {st ah:St} {s:Nat} {x:D} {es:List (List D)} (h:∀k,x.ref=k+1→ah.bs[k]?=st.bs[k]?) (p:fF st s x es):fF ah s x es:=by
 cases p with
 |nul=>exact .nul
 |win k aq off es c hm hl hc he=>exact .win k aq off es c ((h k (by simp only[D.ref])).trans hm) hl hc he
def bh.aD (x:D) (s:Nat) (es:List (List D)):bh:=⟨fun j=>x.ref=j+1,fun st=>fF st s x es,fun h p=>fF.move h p⟩
theorem fF.uS {st:St} {s:Nat} {x:D} {es:List (List D)} (p:fF st s x es):∀e∈es,e.length=s:=by
 cases p with
 |nul=>intro e he;cases he
 |win k aq off es c hm hl hc he=>exact he
theorem fF.rows {st:St} {s:Nat} {x:D} {es:List (List D)} (p:fF st s x es):Rows st s x es:=by
 cases p with
 |nul=>exact .nul
 |win k aq off es c hm hl hc he=>
  refine .win k aq off es true c (St.mem_of hm) hl fun i e hi=>?_
  have hil:i<es.length:=by
   rcases Nat.lt_or_ge i es.length with h'|h'
   ·exact h'
   ·rw[List.getElem?_eq_none h'] at hi;cases hi
  have h1:=jE he i e hi;rw[←hc,List.drop_take,List.take_take,List.drop_drop] at h1;have h2:(i+1)*s≤es.length*s:=Nat.mul_le_mul_right s hil;rw[Nat.add_mul,Nat.one_mul] at h2
  rwa [Nat.min_eq_left (by omega)] at h1
structure Has (N:Nat) (S st:St) (H:List bh):Prop where
 ex:Ex N S st
 hN:N≤S.bs.length
 eL:S.ro≤N
 ok:∀(i:Nat) e,H[i]?=some e→e.P st∧∀k,e.K k→N≤k∧k<st.bs.length
 dis:∀(i j:Nat) a b,i≠j→H[i]?=some a→H[j]?=some b→∀k,a.K k→b.K k→False
theorem Has.start {N:Nat} {S:St} (hN:N≤S.bs.length) (eL:S.ro≤N):Has N S S []:=
 ⟨Ex.refl _ _,hN,eL,fun i e h=>by simp at h,fun i j a b _ h=>by simp at h⟩
theorem Has.len {N:Nat} {S st:St} {H:List bh} (h:Has N S st H):S.bs.length≤st.bs.length:=h.ex.len
theorem Has.zn {N:Nat} {S st ah:St} {H:List bh} {j:Nat} {e e':bh} (h:Has N S st H) (hj:H[j]?=some e)
  (uG:∀k,k<st.bs.length→¬e.K k→ah.bs[k]?=st.bs[k]?) (hlen:st.bs.length≤ah.bs.length) (hf:ah.flr=st.flr) (hr:ah.ro=st.ro)
  (hP:e'.P ah) (hK:∀k,e'.K k→e.K k∨st.bs.length≤k) (Mx:∀k,e'.K k→k<ah.bs.length):Has N S ah (H.set j e'):=by
 have hjl:j<H.length:=by
  rcases Nat.lt_or_ge j H.length with h'|h'
  ·exact h'
  ·rw[List.getElem?_eq_none h'] at hj;cases hj
 have hl:=h.ex.len;have hN:=h.hN;refine⟨⟨fun k hk=>?_,Nat.le_trans hl hlen,hf.trans h.ex.flr,hr.trans h.ex.ro⟩,h.hN,h.eL,fun i e0 hi=>?_,fun i i' a b hii ha hb k mD fX=>?_⟩
 ·rw[uG k (by omega) fun jA=>by have:=((h.ok j e hj).2 k jA).1;omega];exact h.ex.low k hk
 ·by_cases hij:i=j
  ·subst hij;rw[List.getElem?_set_self hjl] at hi;cases hi;refine⟨hP,fun k hk=>⟨?_,Mx k hk⟩⟩
   rcases hK k hk with h1|h1
   ·exact((h.ok i e hj).2 k h1).1
   ·omega
  ·rw[List.getElem?_set_ne (fun e=>hij e.symm)] at hi;obtain⟨h1,h2⟩:=h.ok i e0 hi;refine⟨e0.loc (fun k hk=>uG k (h2 k hk).2 fun jA=>h.dis i j e0 e hij hi hj k hk jA) h1,fun k hk=>⟨(h2 k hk).1,Nat.lt_of_lt_of_le (h2 k hk).2 hlen⟩⟩
 ·have key:∀i a,i≠j→(H.set j e')[i]?=some a→a.K k→e'.K k→False:=by
   intro i a hij ha mD Sx;rw[List.getElem?_set_ne (fun e=>hij e.symm)] at ha
   rcases hK k Sx with h1|h1
   ·exact h.dis i j a e hij ha hj k mD h1
   ·have:=((h.ok i a ha).2 k mD).2;omega
  by_cases hij:i=j
  ·subst hij;have eV:=hb;rw[List.getElem?_set_self hjl] at ha;cases ha;exact key i' b (fun e=>hii e.symm) hb fX mD
  ·by_cases KF:i'=j
   ·subst KF;rw[List.getElem?_set_self hjl] at hb;cases hb;exact key i a hij ha mD fX
   ·rw[List.getElem?_set_ne (fun e=>hij e.symm)] at ha;rw[List.getElem?_set_ne (fun e=>KF e.symm)] at hb;exact h.dis i i' a b hii ha hb k mD fX
theorem Has.add {N:Nat} {S st ah:St} {H:List bh} {e':bh} (h:Has N S st H)
  (uG:∀k,k<st.bs.length→ah.bs[k]?=st.bs[k]?) (hlen:st.bs.length≤ah.bs.length) (hf:ah.flr=st.flr) (hr:ah.ro=st.ro)
  (hP:e'.P ah) (hK:∀k,e'.K k→st.bs.length≤k∧k<ah.bs.length):Has N S ah (e'::H):=by
 have hl:=h.ex.len;have hN:=h.hN;refine⟨⟨fun k hk=>?_,Nat.le_trans hl hlen,hf.trans h.ex.flr,hr.trans h.ex.ro⟩,h.hN,h.eL,fun i e0 hi=>?_,fun i i' a b hii ha hb k mD fX=>?_⟩
 ·rw[uG k (by omega)];exact h.ex.low k hk
 ·cases i with
  |zero=>
   simp only[List.getElem?_cons_zero,Option.some.injEq] at hi;subst hi;exact⟨hP,fun k hk=>⟨by have:=(hK k hk).1;omega,(hK k hk).2⟩⟩
  |succ i=>
   rw[List.getElem?_cons_succ] at hi;obtain⟨h1,h2⟩:=h.ok i e0 hi;exact⟨e0.loc (fun k hk=>uG k (h2 k hk).2) h1,fun k hk=>⟨(h2 k hk).1,Nat.lt_of_lt_of_le (h2 k hk).2 hlen⟩⟩
 ·cases i with
  |zero=>
   simp only[List.getElem?_cons_zero,Option.some.injEq] at ha;subst ha
   cases i' with
   |zero=>exact hii rfl
   |succ i'=>
    rw[List.getElem?_cons_succ] at hb;have:=((h.ok i' b hb).2 k fX).2;have:=(hK k mD).1;omega
  |succ i=>
   rw[List.getElem?_cons_succ] at ha
   cases i' with
   |zero=>
    simp only[List.getElem?_cons_zero,Option.some.injEq] at hb;subst hb;have:=((h.ok i a ha).2 k mD).2;have:=(hK k fX).1;omega
   |succ i'=>
    rw[List.getElem?_cons_succ] at hb;exact h.dis i i' a b (fun e=>hii (by rw[e])) ha hb k mD fX
theorem Has.sub {N:Nat} {S st:St} {H H':List bh} (h:Has N S st H) (f:Nat→Nat) (hf:∀i j,f i=f j→i=j) (hs:∀i e,H'[i]?=some e→H[f i]?=some e):Has N S st H':=
 ⟨h.ex,h.hN,h.eL,fun i e hi=>h.ok _ e (hs i e hi),fun i j a b hij ha hb=>h.dis (f i) (f j) a b (fun e=>hij (hf i j e)) (hs i a ha) (hs j b hb)⟩
theorem Has.erase {N:Nat} {S st:St} {H:List bh} (h:Has N S st H) (j:Nat):Has N S st (H.eraseIdx j):=by
 refine h.sub (fun i=>if i<j then i else i+1) (fun a b e=>?_) fun i e hi=>?_
 ·show a=b;have e':(if a<j then a else a+1)=(if b<j then b else b+1):=e
  split at e'<;>split at e'<;>omega
 ·show H[if i<j then i else i+1]?=some e;rw[List.getElem?_eraseIdx] at hi
  split at hi<;>rename_i h'<;>simp[h',hi]
theorem Has.take {N:Nat} {S st:St} {H:List bh} (h:Has N S st H) (n:Nat):Has N S st (H.take n):=by
 refine h.sub id (fun a b e=>e) fun i e hi=>?_;rw[List.getElem?_take] at hi;split at hi;exact hi;cases hi
theorem Has.drop {N:Nat} {S st:St} {H:List bh} (h:Has N S st H) (n:Nat):Has N S st (H.drop n):=by
 refine h.sub (fun i=>n+i) (fun a b e=>by omega) fun i e hi=>?_;rw[List.getElem?_drop] at hi;exact hi
theorem Has.front {N:Nat} {S st:St} {H:List bh} (h:Has N S st H) {j:Nat} {e:bh} (hj:H[j]?=some e):Has N S st (e::H.eraseIdx j):=by
 refine h.sub (fun i=>if i=0 then j else if i-1<j then i-1 else i) (fun a b e=>?_) fun i e' hi=>?_
 ·have e':(if a=0 then j else if a-1<j then a-1 else a)=(if b=0 then j else if b-1<j then b-1 else b):=e
  repeat' split at e'
  all_goals omega
 ·show H[if i=0 then j else if i-1<j then i-1 else i]?=some e'
  cases i with
  |zero=>rw[if_pos rfl];simp only[List.getElem?_cons_zero,Option.some.injEq] at hi;subst hi;exact hj
  |succ i=>
   rw[if_neg (by omega),Nat.add_sub_cancel];rw[List.getElem?_cons_succ,List.getElem?_eraseIdx] at hi
   split at hi<;>rename_i h'<;>simp[h',hi]
theorem Has.back {N:Nat} {S st:St} {H:List bh} {j:Nat} {e:bh} (h:Has N S st (e::H.eraseIdx j)) (hj:j<H.length):Has N S st (H.set j e):=by
 refine h.sub (fun i=>if i=j then 0 else if i<j then i+1 else i) (fun a b e=>?_) fun i e' hi=>?_
 ·have e':(if a=j then 0 else if a<j then a+1 else a)=(if b=j then 0 else if b<j then b+1 else b):=e
  repeat' split at e'
  all_goals omega
 ·show(e::H.eraseIdx j)[if i=j then 0 else if i<j then i+1 else i]?=some e'
  by_cases hij:i=j
  ·subst hij;rw[List.getElem?_set_self hj] at hi;rw[if_pos rfl];simpa using hi
  ·rw[List.getElem?_set_ne (fun e=>hij e.symm)] at hi;rw[if_neg hij]
   by_cases hlt:i<j
   ·rw[if_pos hlt,List.getElem?_cons_succ,List.getElem?_eraseIdx,if_pos hlt];exact hi
   ·rw[if_neg hlt]
    obtain⟨i',rfl⟩:∃i',i=i'+1:=⟨i-1,by omega⟩
    rw[List.getElem?_cons_succ,List.getElem?_eraseIdx,if_neg (by omega)];exact hi
theorem Has.dU {N:Nat} {S st:St} {H:List bh} (h:Has N S st H) (s:Nat):Has N S st (.aD .nul s []::H):=
 h.add (fun _ _=>rfl) (Nat.le_refl _) rfl rfl .nul fun k hk=>by simp only[bh.aD,D.ref] at hk;omega
theorem Has.own {N:Nat} {S st:St} {H:List bh} (h:Has N S st H) {j:Nat} {x:D} {s:Nat} {es:List (List D)} (hj:H[j]?=some (.aD x s es)):fF st s x es:=(h.ok j _ hj).1
theorem Has.rows {N:Nat} {S st:St} {H:List bh} (h:Has N S st H) {j:Nat} {x:D} {s:Nat} {es:List (List D)} (hj:H[j]?=some (.aD x s es)):Rows st s x es:=(h.own hj).rows
theorem Has.at {N:Nat} {S st:St} {H:List bh} (h:Has N S st H) {j k:Nat} {b:iu} (hj:H[j]?=some (.box k b)):st.bs[k]?=some b:=(h.ok j _ hj).1
theorem Has.ge {N:Nat} {S st:St} {H:List bh} (h:Has N S st H) {j k:Nat} {b:iu} (hj:H[j]?=some (.box k b)):N≤k∧k<st.bs.length:=(h.ok j _ hj).2 k rfl
def Arg (N:Nat) (S:St) (s:Nat) (x:D) (es:List (List D)):Prop:=Rows S s x es∧x.ref≤N
theorem Arg.rows {N:Nat} {S st:St} {H:List bh} {s:Nat} {x:D} {es:List (List D)} (hx:Arg N S s x es) (h:Has N S st H):Rows st s x es:=hx.1.ex h.ex hx.2
theorem Arg.of {st S:St} {s:Nat} {x:D} {es:List (List D)} (hx:Rows st s x es) (hS:S.bs=st.bs):Arg st.bs.length S s x es:=⟨hx.bs hS,hx.ref⟩
theorem Arg.pure {N:Nat} {S:St} {s:Nat} {es:List D} {rs:List (List D)} (hx:∀st,Rows st s (.sl es) rs):Arg N S s (.sl es) rs:=⟨hx S,by simp[D.ref]⟩
theorem eJ {N:Nat} {S st:St} {H:List bh} (h:Has N S st H) {k:Nat} {cs:List D} (hk:N≤k) (hw:S.flr≤N∨refs cs=0):st.kX k (refs cs)=true:=by
 have h1:=h.ex.ro;have h2:=h.ex.flr;have h3:=h.eL;simp only[St.kX,Bool.and_eq_true,Bool.or_eq_true,decide_eq_true_eq];refine⟨by omega,?_⟩
 rcases hw with hw|hw
 ·exact .inl (by omega)
 ·exact .inr (.inl (by omega))
theorem Has.x9 {N:Nat} {S st:St} {H:List bh} (h:Has N S st H) {j k aq:Nat} {b b':iu} (hj:H[j]?=some (.box k b)):Has N S ⟨st.bs.set k b',st.flr,st.ro⟩ (H.set j (.box k b')):=by
 have hk:=(h.ge hj).2;refine h.zn hj (fun i hi hne=>?_) (by simp) rfl rfl ?_ (fun i hi=>.inl hi) fun i hi=>?_
 ·simp only;rw[List.getElem?_set_ne (fun e=>hne e.symm)]
 ·show(st.bs.set k b')[k]?=_;rw[List.getElem?_set_self hk]
 ·cases hi;simpa using hk
theorem Has.zD {N:Nat} {S st:St} {H:List bh} (h:Has N S st H) (b:iu):Has N S (st.push b) (.box st.bs.length b::H):=by
 refine h.add (fun i hi=>?_) (by simp[St.push]) rfl rfl ?_ fun i hi=>?_
 ·simp only[St.push];rw[List.getElem?_append_left hi]
 ·exact o7 st b
 ·cases hi;simp[St.push]
theorem Has.mf {N:Nat} {S st:St} {H:List bh} (h:Has N S st H) {s:Nat} {es:List (List D)} {cs:List D} {m:Nat} (hm:es.length=m) (hc:es.flatten=cs) (he:∀e∈es,e.length=s):Has N S (st.push (.mem 0 true cs)) (.aD (.win st.bs.length 0 0 m s) s es::H):=by
 subst hm hc;refine h.add (fun i hi=>?_) (by simp[St.push]) rfl rfl ?_ fun i hi=>?_
 ·simp only[St.push];rw[List.getElem?_append_left hi]
 ·have iU:=bN he;exact fF.win _ 0 0 es es.flatten (o7 st _) (by rw[iU];omega) (by rw[List.drop_zero,←iU,List.take_length]) he
 ·simp only[bh.aD,D.ref] at hi;simp only[St.push,List.length_append,List.length_cons,List.length_nil];omega
def qQ (s:Nat):Nat→List D→List (List D)
 |0,_=>[]
 |n+1,c=>c.take s::qQ s n (c.drop s)
theorem jX:∀(xs c:List D) (off:Nat),(setMany c off xs).length=c.length
 |[],c,off=>rfl
 |x::xs,c,off=>by simp only[setMany];rw[jX xs];simp
theorem oF {s:Nat}:∀{es:List (List D)} {i:Nat} {e e':List D},(∀e∈es,e.length=s)→es[i]?=some e→e'.length=s→(es.set i e').flatten=es.flatten.take (i*s)++e'++es.flatten.drop (i*s+s)
 |[],i,e,e',_,hi,_=>by simp at hi
 |x::es,0,e,e',h,hi,he=>by
  simp at hi;subst hi;have:=h x (List.mem_cons_self ..);simp[List.set_cons_zero,List.drop_left' this]
 |x::es,i+1,e,e',h,hi,he=>by
  have hx:=h x (List.mem_cons_self ..);have ih:=oF (s:=s) (es:=es) (i:=i) (e:=e) (e':=e') (fun y hy=>h y (List.mem_cons_of_mem _ hy)) (by simpa using hi) he;rw[List.set_cons_succ,List.flatten_cons,ih,List.flatten_cons,Nat.add_mul,Nat.one_mul,Nat.add_comm (i*s) s,←hx,List.take_length_add_append,Nat.add_assoc,List.drop_length_add_append];simp only[List.append_assoc];rw[Nat.add_comm (i*x.length) x.length]
theorem Has.tL {N:Nat} {S st:St} {H:List bh} (h:Has N S st H) {j k aq off len s:Nat} {es:List (List D)} {i o:Nat} {e cs:List D} (hj:H[j]?=some (.aD (.win k aq off len s) s es)) (hi:es[i]?=some e) (hl:o+cs.length≤s) (hw:S.flr≤N∨refs cs=0):
  ∃ah,st.wr k aq (off+i*s+o) cs=some ah∧Has N S ah (H.set j (.aD (.win k aq off len s) s (es.set i (setMany e o cs)))):=by
 have hk:=(h.ok j _ hj).2 k (by simp only[bh.aD,D.ref]);have hown:=h.own hj
 cases hown with
 |win k aq off es c hm hle hc he=>
  have hil:i<es.length:=by
   rcases Nat.lt_or_ge i es.length with h'|h'
   ·exact h'
   ·rw[List.getElem?_eq_none h'] at hi;cases hi
  have rN:=he e (List.mem_of_getElem? hi);have h2:(i+1)*s≤es.length*s:=Nat.mul_le_mul_right s hil;rw[Nat.add_mul,Nat.one_mul] at h2;refine⟨_,iJ hm (by omega) (eJ h hk.1 hw),?_⟩;refine h.zn hj (fun n hn hne=>?_) (by simp) rfl rfl ?_ (fun n hn=>.inl hn) fun n hn=>?_
  ·simp only;rw[List.getElem?_set_ne (fun e=>hne (by simp only[bh.aD,D.ref];omega))]
  ·have wV:∀e'∈es.set i (setMany e o cs),e'.length=s:=by
    intro e' oB
    rcases List.mem_or_eq_of_mem_set oB with h'|h'
    ·exact he e' h'
    ·rw[h',jX];exact rN
   have iU:es.flatten.length=es.length*s:=bN he;have:=fF.win (st:=⟨st.bs.set k (.mem aq true (c.take (off+i*s+o)++cs++c.drop (off+i*s+o+cs.length))),st.flr,st.ro⟩) (s:=s) k aq off (es.set i (setMany e o cs)) (c.take (off+i*s+o)++cs++c.drop (off+i*s+o+cs.length))
    (by simp only;rw[List.getElem?_set_self hk.2]) (by simp;omega) ?_ wV
   ·rw[List.length_set] at this;exact this
   ·rw[List.length_set,oF he hi (by rw[jX];exact rN),fQ cs e o (by omega)]
    have e1:(c.take (off+i*s+o)++cs++c.drop (off+i*s+o+cs.length)).drop off=(c.drop off).take (i*s+o)++cs++(c.drop off).drop (i*s+o+cs.length):=by
     rw[List.append_assoc,List.drop_append_of_le_length (by simp;omega),List.drop_take,List.append_assoc,List.drop_drop]
     congr 3<;>omega
    rw[e1]
    have e2:(c.drop off).take (i*s+o)=es.flatten.take (i*s)++e.take o:=by
     have:(c.drop off).take (i*s+o)=es.flatten.take (i*s+o):=by
      rw[←hc,List.take_take,Nat.min_eq_left (by omega)]
     rw[this,List.take_add]
     congr 1
     have:=jE he i e hi;rw[←this,List.take_take,Nat.min_eq_left (by omega)]
    have e3:(List.drop (i*s+o+cs.length) (c.drop off)).take (es.length*s-(i*s+o+cs.length))=e.drop (o+cs.length)++es.flatten.drop (i*s+s):=by
     have:(List.drop (i*s+o+cs.length) (c.drop off)).take (es.length*s-(i*s+o+cs.length))=es.flatten.drop (i*s+o+cs.length):=by
      rw[←hc,List.drop_take]
     rw[this];have h4:=jE he i e hi;rw[←h4,List.drop_take];have:es.flatten.drop (i*s+o+cs.length)=(es.flatten.drop (i*s+o+cs.length)).take (s-(o+cs.length))++(es.flatten.drop (i*s+o+cs.length)).drop (s-(o+cs.length)):=(List.take_append_drop ..).symm;rw[this,List.drop_drop,List.drop_drop]
     congr 2
     ·congr 1;omega
     ·omega
    rw[e2]
    have DN:(es.flatten.take (i*s)++e.take o++cs).length=i*s+o+cs.length:=by
     simp only[List.length_append,List.length_take,iU,rN];omega
    rw[List.take_append,DN,e3,List.take_of_length_le (by rw[DN];omega)];simp[List.append_assoc]
  ·simp only[bh.aD,D.ref] at hn;simp only[List.length_set];omega
end Go.V
namespace Go.V
theorem aG {α:Type} {a:α} {l:List α}:(a::l)[0]?=some a:=rfl
theorem aV {α:Type} {a b:α} {l:List α}:(a::b::l)[1]?=some b:=rfl
theorem b8 {α:Type} {a b c:α} {l:List α}:(a::b::c::l)[2]?=some c:=rfl
theorem dw {α:Type} {a b c d:α} {l:List α}:(a::b::c::d::l)[3]?=some d:=rfl
theorem eo {α:Type} {a b c d e:α} {l:List α}:(a::b::c::d::e::l)[4]?=some e:=rfl
theorem fG {α:Type} {a b c d e f:α} {l:List α}:(a::b::c::d::e::f::l)[5]?=some f:=rfl
theorem gz {α:Type} {a b c d e f g:α} {l:List α}:(a::b::c::d::e::f::g::l)[6]?=some g:=rfl
theorem gy {α:Type} {a b c d e f g h:α} {l:List α}:(a::b::c::d::e::f::g::h::l)[7]?=some h:=rfl
def zU (t:Nat):List (Nat×D)→Option D
 |[]=>none
 |(u,d)::l=>match Nat.beq t u with
  |true=>some d
  |false=>zU t l
def C7:Value→Option D
 | .int k n=>some (.int k n)
 | .bool b=>some (.bool b)
 | .string s=>some (.str s.data.toList)
 | .slice none 0 0=>some .nul
 | .pointer none=>some .pnil
 | .nilFunc=>some .nilfn
 | .nilIface=>some .nilif
 |_=>none
def Fr.QD (f:Fr):Operand→Option D
 | .tmp t=>match Nat.ble f.n t with
  |false=>f.loc[t]?
  |true=>zU t f.tmp
 | .const v=>C7 v
 | .func g=>some (.fn g [])
 | .global _=>none
theorem pW {t:Nat} {d:D}:∀{l:List (Nat×D)},zU t l=some d→look t l=d
 |(u,e)::l,h=>by
  unfold zU at h;unfold look
  split at h
  ·rename_i hb;cases h;simp only[hb]
  ·rename_i hb;simp only[hb];exact pW h
theorem zL {d e:D}:∀{l:List D} {i:Nat},l[i]?=some d→nth e l i=d
 |x::l,0,h=>by simpa[nth] using h
 |x::l,i+1,h=>by rw[List.getElem?_cons_succ] at h;exact zL (l:=l) h
 |[],i,h=>by simp at h
theorem ev {fr:Fr} {o:Operand} {d:D} (h:fr.QD o=some d):fr.ev o=d:=by
 unfold Fr.QD at h;unfold Fr.ev
 split at h
 ·unfold Fr.get
  split at h
  ·rename_i hb;simp only[hb];exact zL h
  ·rename_i hb;simp only[hb];exact pW h
 ·unfold C7 at h
  split at h<;>cases h<;>rfl
 ·cases h;rfl
 ·cases h
def jl (st:St) (p:D) (r:List D):Prop:=
 (∃k aq off ar c,p=.ptr k aq off∧st.bM k aq=some (ar,c)∧(c.drop off).take r.length=r)∨∃c,p=.ep c∧c.take r.length=r
def nX (x:D) (s:Nat) (i o:Nat) (p:D):Prop:=∃k aq off len,x=.win k aq off len s∧p=.ptr k aq (off+i*s+o)
theorem kq {P:Pv} {t:TypeId} {r c:List D} {d:D} (hc:c.take r.length=r) (h:cU P t r=some d):cU P t c=some d:=by
 have hlen:r.length≤c.length:=by have:=congrArg List.length hc;simp at this;omega
 unfold cU at h⊢
 cases hu:P.bY t with
 |none=>rw[hu] at h;cases h
 |some u=>
  rw[hu] at h;have key:∀n,n≤r.length→c.take n=r.take n:=fun n hn=>by rw[←hc,List.take_take,Nat.min_eq_left hn]
  cases u with
  |struct f=>
   simp only at h⊢
   cases hs:bG P t with
   |none=>rw[hs] at h;cases h
   |some n=>
    rw[hs] at h;simp only[Option.bind_some] at h⊢
    split at h
    ·rename_i hn;rw[if_pos (by omega),key n hn];exact h
    ·cases h
  |array m f=>
   simp only at h⊢
   cases hs:bG P t with
   |none=>rw[hs] at h;cases h
   |some n=>
    rw[hs] at h;simp only[Option.bind_some] at h⊢
    split at h
    ·rename_i hn;rw[if_pos (by omega),key n hn];exact h
    ·cases h
  |_=>
   simp only at h⊢
   cases r with
   |nil=>cases h
   |cons y r=>
    cases c with
    |nil=>simp at hlen
    |cons z c=>
     simp only[List.length_cons,List.take_succ_cons,List.cons.injEq] at hc;rw[←h];simp[hc.1]
theorem jl.load {P:Pv} {st:St} {p:D} {r:List D} (h:jl st p r) {t:TypeId} {d:D} (hd:cU P t r=some d):fv P t p st=some d:=by
 rcases h with⟨k,aq,off,ar,c,rfl,hm,hc⟩|⟨c,rfl,hc⟩
 ·simp only[fv,hm,Option.bind_some];exact kq hc hd
 ·simp only[fv];exact kq hc hd
theorem jl.field {P:Pv} {st:St} {p:D} {r:List D} (h:jl st p r) {t:TypeId} {fields:Array Field} {f:Nat} {fd:Field} {m:Nat} (ht:P.bY t=some (.struct fields)) (hf:fields[f]?=some fd) (hm:bG P fd.type=some m) (sU:m≠0):
  ∃p',d_ P t p f=some p'∧jl st p' (r.drop fd.offset):=by
 have key:∀c:List D,c.take r.length=r→(c.drop fd.offset).take (r.drop fd.offset).length=r.drop fd.offset:=by
  intro c hc;rw[List.length_drop,←List.drop_take,hc]
 rcases h with⟨k,aq,off,ar,c,rfl,yM,hc⟩|⟨c,rfl,hc⟩
 ·refine⟨.ptr k aq (off+fd.offset),?_,.inl ⟨k,aq,off+fd.offset,ar,c,rfl,yM,?_⟩⟩
  ·simp only[d_,ht,hf,Option.bind_some,hm];rw[if_neg (by simp only[Option.some.injEq];exact sU)]
  ·rw[←List.drop_drop];exact key _ hc
 ·refine⟨.ep (c.drop fd.offset),?_,.inr ⟨_,rfl,key _ hc⟩⟩;simp only[d_,ht,hf,Option.bind_some,hm];rw[if_neg (by simp only[Option.some.injEq];exact sU)]
theorem Rows.L7 {P:Pv} {st:St} {s:Nat} {x:D} {es:List (List D)} (h:Rows st s x es) {t e:TypeId} (ht:P.bY t=some (.slice e)) (hs:bG P e=some s) {k:IntKind} {i:Nat} {r:List D} (hi:es[i]?=some r):
  ∃p,bB P t x (.int k (i:Nat)) st=some p∧jl st p r:=by
 have B':=h.uS _ _ hi
 cases h with
 |nul=>simp at hi
 |sl es h=>
  rw[List.getElem?_map] at hi;obtain⟨d,hd,rfl⟩:=Option.map_eq_some_iff.1 hi;obtain⟨h1,h2⟩:=h d (List.mem_of_getElem? hd);refine⟨.ep d.cells,?_,.inr ⟨_,rfl,List.take_length ..⟩⟩;simp only[bB,ht,hs,Option.bind_some,if_pos (show(0:Int)≤(i:Nat) by omega),Int.toNat_natCast,hd,h1,if_pos h2]
 |win k aq off es ar c hm hl he=>
  have hlt:i<es.length:=by
   rcases Nat.lt_or_ge i es.length with h'|h'
   ·exact h'
   ·rw[List.getElem?_eq_none h'] at hi;cases hi
  refine⟨.ptr k aq (off+i*s),?_,.inl ⟨k,aq,_,ar,c,rfl,hm,by rw[B'];exact he _ _ hi⟩⟩;simp only[bB,ht,hs,Option.bind_some,hm,Option.isSome_some];rw[if_pos ⟨trivial,by omega,by omega,trivial⟩];rfl
variable{P:Pv} {ops:Array Oper} {rest:List Oper} {fr aA:Fr} {st:St} {Q:Fr→St→Prop} {ty:TypeId} {pp:String} {a:Array Edge} {g:Option (Nat×Bool)} {dst:Nat} {N:Nat} {S:St} {H:List bh}
theorem ae.go {op:Op} {d:D} {st1:St} (hg:ay ops fr ⟨some dst,op,ty,pp,a,g⟩=some true) (hc:h_ op=false) (h1:dJ P fr st op ty=some (d,st1)) (hp:fr.put dst d=aA)
  (h:ae P ops rest aA st1 Q):ae P ops (⟨some dst,op,ty,pp,a,g⟩::rest) fr st Q:=
 ae.op hg hc h1 (by show ae P ops rest (fr.put dst d) st1 Q;rw[hp];exact h)
theorem ae.ib {j k aq off:Nat} {ar:Bool} {c:List D} {d:D} {t:TypeId} {ao:Operand} (hH:Has N S st H) (hg:ay ops fr ⟨some dst,.load t ao,ty,pp,a,g⟩=some true) (ha:fr.ev ao=.ptr k aq off) (hj:H[j]?=some (.box k (.mem aq ar c))) (hd:cU P t (c.drop off)=some d) (hp:fr.put dst d=aA)
  (h:ae P ops rest aA st Q):ae P ops (⟨some dst,.load t ao,ty,pp,a,g⟩::rest) fr st Q:=by
 refine ae.go hg rfl (d:=d) (st1:=st) ?_ hp h;simp only[dJ,ha,fv,St.mem_of (hH.at hj),Option.bind_some,hd,Option.map_some]
theorem ae.uz {j k aq off:Nat} {ar:Bool} {c cs:List D} {v:D} {t:TypeId} {ao vo:Operand} (hH:Has N S st H) (hg:ay ops fr ⟨none,.store t ao vo,ty,pp,a,g⟩=some true) (ha:fr.ev ao=.ptr k aq off) (hv:fr.ev vo=v) (hcs:v.cells?=some cs) (hs:bG P t=some cs.length) (hj:H[j]?=some (.box k (.mem aq ar c))) (hl:off+cs.length≤c.length) (hw:S.flr≤N∨refs cs=0)
  (h:∀ah,Has N S ah (H.set j (.box k (.mem aq ar (setMany c off cs))))→ae P ops rest fr ah Q):ae P ops (⟨none,.store t ao vo,ty,pp,a,g⟩::rest) fr st Q:=by
 refine ae.N hg rfl (d:=.tup []) (st1:=⟨st.bs.set k (.mem aq ar (setMany c off cs)),st.flr,st.ro⟩) ?_ (h _ (hH.x9 (aq:=aq) hj));simp only[dJ,ha,hv,jU,hcs,hs,if_pos trivial];rw[iJ (hH.at hj) hl (eJ hH (hH.ge hj).1 hw),fQ _ _ _ hl];rfl
theorem ae.yT {e:TypeId} {cs:List D} {aA:Nat→Fr} (hH:Has N S st H) (hg:ay ops fr ⟨some dst,.alloc e,ty,pp,a,g⟩=some true) (hz:cE P e=some cs) (hp:∀k,fr.put dst (.ptr k 0 0)=aA k)
  (h:∀k ah,S.bs.length≤k→Has N S ah (.box k (.mem 0 false cs)::H)→ae P ops rest (aA k) ah Q):ae P ops (⟨some dst,.alloc e,ty,pp,a,g⟩::rest) fr st Q:=by
 refine ae.go hg rfl (d:=.ptr st.bs.length 0 0) (st1:=st.push (.mem 0 false cs)) ?_ (hp _) (h _ _ hH.len (hH.zD _));simp only[dJ,hz,Option.map_some]
theorem ae.BD {e:TypeId} {xo:Operand} {cs:List D} {aA:Nat→Fr} (hH:Has N S st H) (hg:ay ops fr ⟨some dst,.box e xo,ty,pp,a,g⟩=some true) (hz:(fr.ev xo).cells?=some cs) (hp:∀k,fr.put dst (.ptr k 0 0)=aA k)
  (h:∀k ah,S.bs.length≤k→Has N S ah (.box k (.mem 0 false cs)::H)→ae P ops rest (aA k) ah Q):ae P ops (⟨some dst,.box e xo,ty,pp,a,g⟩::rest) fr st Q:=by
 refine ae.go hg rfl (d:=.ptr st.bs.length 0 0) (st1:=st.push (.mem 0 false cs)) ?_ (hp _) (h _ _ hH.len (hH.zD _));simp only[dJ,hz,Option.map_some]
theorem ae.GU {t e:TypeId} {lo co:Operand} {k1 k2:IntKind} {m:Nat} {inf:TypeInfo} {z:List D} {s:Nat} {aA:Nat→Fr} (hH:Has N S st H) (hg:ay ops fr ⟨some dst,.makeSlice t lo co,ty,pp,a,g⟩=some true)
  (hl:fr.ev lo=.int k1 (m:Nat)) (hc:fr.ev co=.int k2 (m:Nat)) (ht:P.bY t=some (.slice e)) (hi:P.info e=some inf) (hz:cE P e=some z) (hsz:inf.size=s) (jJ:z.length=s) (Qj:inf.bytes≤1024) (sU:m≤1073741824) (hp:∀k,fr.put dst (.win k 0 0 m s)=aA k)
  (h:∀k ah,S.bs.length≤k→Has N S ah (.aD (.win k 0 0 m s) s (List.replicate m z)::H)→ae P ops rest (aA k) ah Q):ae P ops (⟨some dst,.makeSlice t lo co,ty,pp,a,g⟩::rest) fr st Q:=by
 have hm:m*inf.bytes≤140737488355328:=Nat.le_trans (Nat.mul_le_mul sU Qj) (by decide);subst hsz;refine ae.go hg rfl (d:=.win st.bs.length 0 0 m inf.size) (st1:=st.push (.mem 0 true (cV m z))) ?_ (hp _) (h _ _ hH.len (hH.mf (by simp) rfl (fun e he=>by rw[List.eq_of_mem_replicate he];exact jJ)));simp only[dJ,hl,hc,eQ,ht,hi,hz,Option.bind_some];rw[if_pos ⟨jJ,by omega,by omega,by omega,by rw[←Int.natCast_mul];omega⟩]
 rfl
theorem Has.append {j:Nat} {x y:D} {s:Nat} {es ys:List (List D)} (hH:Has N S st H) (hj:H[j]?=some (.aD x s es)) (hy:Rows st s y ys) {t1 t2 e:TypeId} {td:TypeDesc} {inf:TypeInfo} {z:List D}
  (h1:P.bY t1=some (.slice e)) (h2:P.bY t2=some td) (h3:eT td=false) (h4:P.info e=some inf) (h5:cE P e=some z) (h6:inf.size=s) (h7:z.length=s) (h8:0<inf.bytes∧inf.bytes≤1024)
  (oQ:es.length+ys.length≤1073741824) (hw:S.flr≤N∨refs ys.flatten=0):
  ∃x' ah,aS P .append [t1,t2] [x,y] st=some (x',ah)∧Has N S ah (H.set j (.aD x' s (es++ys)))∧(ys=[]→x'=x):=by
 have hb:(es.length+ys.length)*inf.bytes≤1099511627776:=Nat.le_trans (Nat.mul_le_mul oQ h8.2) (by decide);have gO:=hy.row
 have wL:∀e∈ys,e.length=s:=fun e he=>by
  obtain⟨i,hi⟩:=List.getElem?_of_mem he;exact hy.uS i e hi
 have iU:=bN wL;have hown:=hH.own hj;have hkk:=(hH.ok j _ hj).2;have hS:=hH.len;have TF:=hH.hN;subst h6;simp only[aS,cN,h1,h2,h3,Bool.false_eq_true,if_false,h4,h5,gO,Option.bind_some];rw[if_neg (by rintro(h|h|h);exact h iU;exact absurd h (by omega);exact h h7)]
 have fh:∀e,H[j]?=some e→H.set j e=H:=fun e he=>by
  apply List.ext_getElem?;intro i
  by_cases hij:i=j
  ·subst hij
   have:i<H.length:=by
    rcases Nat.lt_or_ge i H.length with h'|h'
    ·exact h'
    ·rw[List.getElem?_eq_none h'] at he;cases he
   rw[List.getElem?_set_self this,he]
  ·rw[List.getElem?_set_ne (fun e=>hij e.symm)]
 cases hown with
 |nul=>
  simp only[List.nil_append]
  by_cases h0:ys.length=0
  ·rw[if_pos h0]
   have:ys=[]:=by cases ys with|nil=>rfl|cons _ _=>simp at h0
   subst this;exact⟨.nul,st,rfl,by rw[fh _ hj];exact hH,fun _=>rfl⟩
  ·rw[if_neg h0,if_pos (by simpa using hb)];refine⟨_,_,rfl,?_,fun e=>absurd (by rw[e];rfl) h0⟩;refine hH.zn hj (fun k hk _=>by simp only[St.push];rw[List.getElem?_append_left hk]) (by simp[St.push]) rfl rfl ?_ (fun k hk=>?_) fun k hk=>?_
   ·exact fF.win _ 0 0 ys ys.flatten (o7 st _) (by rw[iU];omega) (by rw[List.drop_zero,←iU,List.take_length]) wL
   ·simp only[bh.aD,D.ref] at hk;right;omega
   ·simp only[bh.aD,D.ref] at hk;simp only[St.push,List.length_append,List.length_cons,List.length_nil];omega
 |win k aq off es c hm hl hc he=>
  have hk:=hkk k (by simp only[bh.aD,D.ref]);simp only[St.mem_of hm];rw[if_neg (by rintro(h|h);exact h rfl;omega)]
  by_cases h0:ys.length=0
  ·rw[if_pos h0]
   have:ys=[]:=by cases ys with|nil=>rfl|cons _ _=>simp at h0
   subst this;simp only[List.append_nil];exact⟨_,st,rfl,by rw[fh _ hj];exact hH,fun _=>rfl⟩
  ·rw[if_neg h0,if_pos ⟨hb,eJ hH hk.1 hw⟩];refine⟨_,_,rfl,?_,fun e=>absurd (by rw[e];rfl) h0⟩;have oP:es.length+ys.length=(es++ys).length:=by simp
   have fJ:(c.take (off+es.length*inf.size)).drop off=es.flatten:=by rw[List.drop_take,←hc];congr 1;omega
   rw[oP,fJ];refine hH.zn hj (fun n hn hne=>by simp only;rw[List.getElem?_set_ne (fun e=>hne (by simp only[bh.aD,D.ref];omega))]) (by simp) rfl rfl ?_ (fun n hn=>?_) fun n hn=>?_
   ·have rN:∀e∈es++ys,e.length=inf.size:=fun e h=>by
     rcases List.mem_append.1 h with h|h
     ·exact he e h
     ·exact wL e h
    have DT:=bN rN;refine fF.win k (aq+1) 0 (es++ys) (es++ys).flatten ?_ (by rw[DT];omega) (by rw[List.drop_zero,←DT,List.take_length]) rN;simp only;rw[List.getElem?_set_self hk.2,List.flatten_append]
   ·simp only[bh.aD,D.ref] at hn⊢;left;omega
   ·simp only[bh.aD,D.ref] at hn;simp only[List.length_set];omega
theorem ae.dh {j:Nat} {x y:D} {s:Nat} {es ys:List (List D)} {t1 t2 e:TypeId} {td:TypeDesc} {inf:TypeInfo} {z:List D} {xo yo:Operand} {aA:D→Fr} (hH:Has N S st H) (hg:ay ops fr ⟨some dst,.call ⟨.builtin .append,#[xo,yo],#[t1,t2]⟩,ty,pp,a,g⟩=some true)
  (hx:fr.ev xo=x) (hy:fr.ev yo=y) (hj:H[j]?=some (.aD x s es)) (jQ:Rows st s y ys)
  (h1:P.bY t1=some (.slice e)) (h2:P.bY t2=some td) (h3:eT td=false) (h4:P.info e=some inf) (h5:cE P e=some z) (h6:inf.size=s) (h7:z.length=s) (h8:0<inf.bytes∧inf.bytes≤1024)
  (hp:∀x',fr.put dst x'=aA x') (hb:es.length+ys.length≤1073741824) (hw:S.flr≤N∨refs ys.flatten=0)
  (h:∀x' ah,Has N S ah (H.set j (.aD x' s (es++ys)))→ae P ops rest (aA x') ah Q):
  ae P ops (⟨some dst,.call ⟨.builtin .append,#[xo,yo],#[t1,t2]⟩,ty,pp,a,g⟩::rest) fr st Q:=by
 obtain⟨x',ah,q1,q2,q3⟩:=hH.append hj jQ h1 h2 h3 h4 h5 h6 h7 h8 hb hw;refine ae.go hg rfl (d:=x') (st1:=ah) ?_ (hp _) (h x' ah q2);simp only[dJ,List.map_cons,List.map_nil,hx,hy];exact q1
theorem ae.D7 {j:Nat} {x y:D} {s:Nat} {es ys:List (List D)} {t1 t2 e:TypeId} {td:TypeDesc} {inf:TypeInfo} {z:List D} {xo yo:Operand} {aA:D→Fr} (hH:Has N S st H) (hg:ay ops fr ⟨some dst,.call ⟨.builtin .append,#[xo,yo],#[t1,t2]⟩,ty,pp,a,g⟩=some true)
  (hx:fr.ev xo=x) (hy:fr.ev yo=y) (hj:H[j]?=some (.aD x s es)) (jQ:Rows st s y ys)
  (h1:P.bY t1=some (.slice e)) (h2:P.bY t2=some td) (h3:eT td=false) (h4:P.info e=some inf) (h5:cE P e=some z) (h6:inf.size=s) (h7:z.length=s) (h8:0<inf.bytes∧inf.bytes≤1024)
  (hp:∀x',fr.put dst x'=aA x') (hb:es.length+ys.length≤1073741824) (hw:S.flr≤N∨refs ys.flatten=0)
  (h:∀x' ah,(ys=[]→x'=x)→Has N S ah (H.set j (.aD x' s (es++ys)))→ae P ops rest (aA x') ah Q):
  ae P ops (⟨some dst,.call ⟨.builtin .append,#[xo,yo],#[t1,t2]⟩,ty,pp,a,g⟩::rest) fr st Q:=by
 obtain⟨x',ah,q1,q2,q3⟩:=hH.append hj jQ h1 h2 h3 h4 h5 h6 h7 h8 hb hw;refine ae.go hg rfl (d:=x') (st1:=ah) ?_ (hp _) (h x' ah q3 q2);simp only[dJ,List.map_cons,List.map_nil,hx,hy];exact q1
theorem ae.iZ {t e:TypeId} {xo:Operand} {x:D} {s:Nat} {es:List (List D)} (hg:ay ops fr ⟨some dst,.call ⟨.builtin .len,#[xo],#[t]⟩,ty,pp,a,g⟩=some true) (hx:fr.ev xo=x) (hR:Rows st s x es) (ht:P.bY t=some (.slice e)) (hp:fr.put dst (.int .i64 (es.length:Nat))=aA)
  (h:ae P ops rest aA st Q):ae P ops (⟨some dst,.call ⟨.builtin .len,#[xo],#[t]⟩,ty,pp,a,g⟩::rest) fr st Q:=by
 refine ae.go hg rfl (d:=.int .i64 (es.length:Nat)) (st1:=st) ?_ hp h;simp only[dJ,List.map_cons,List.map_nil,hx];exact hR.GG ht
theorem ae.jV {t:TypeId} {xo:Operand} {b:List UInt8} (hg:ay ops fr ⟨some dst,.call ⟨.builtin .len,#[xo],#[t]⟩,ty,pp,a,g⟩=some true) (hx:fr.ev xo=.str b) (ht:P.bY t=some .string) (hp:fr.put dst (.int .i64 (b.length:Nat))=aA)
  (h:ae P ops rest aA st Q):ae P ops (⟨some dst,.call ⟨.builtin .len,#[xo],#[t]⟩,ty,pp,a,g⟩::rest) fr st Q:=by
 refine ae.go hg rfl (d:=.int .i64 (b.length:Nat)) (st1:=st) ?_ hp h;simp only[dJ,List.map_cons,List.map_nil,hx,aS,ht]
theorem ae.vI {t e:TypeId} {xo io:Operand} {x:D} {s i:Nat} {kk:IntKind} {es:List (List D)} {r:List D} {aA:D→Fr} (hg:ay ops fr ⟨some dst,.indexAddr t xo io,ty,pp,a,g⟩=some true) (hx:fr.ev xo=x) (hi:fr.ev io=.int kk (i:Nat)) (hR:Rows st s x es) (ht:P.bY t=some (.slice e)) (hs:bG P e=some s) (hr:es[i]?=some r) (hp:∀p,fr.put dst p=aA p)
  (h:∀p,jl st p r→ae P ops rest (aA p) st Q):ae P ops (⟨some dst,.indexAddr t xo io,ty,pp,a,g⟩::rest) fr st Q:=by
 obtain⟨p,h1,h2⟩:=hR.L7 ht hs (k:=kk) hr;refine ae.go hg rfl (d:=p) (st1:=st) ?_ (hp p) (h p h2);simp only[dJ,hx,hi,h1,Option.map_some]
theorem ae.Hj {t:TypeId} {xo:Operand} {x:D} {r:List D} {f m:Nat} {fields:Array Field} {fd:Field} {aA:D→Fr} (hg:ay ops fr ⟨some dst,.fieldAddr t xo f,ty,pp,a,g⟩=some true) (hx:fr.ev xo=x) (hR:jl st x r) (ht:P.bY t=some (.struct fields)) (hf:fields[f]?=some fd) (hm:bG P fd.type=some m) (sU:m≠0) (hp:∀p,fr.put dst p=aA p)
  (h:∀p,jl st p (r.drop fd.offset)→ae P ops rest (aA p) st Q):ae P ops (⟨some dst,.fieldAddr t xo f,ty,pp,a,g⟩::rest) fr st Q:=by
 obtain⟨p,h1,h2⟩:=hR.field ht hf hm sU;refine ae.go hg rfl (d:=p) (st1:=st) ?_ (hp p) (h p h2);simp only[dJ,hx,h1,Option.map_some]
theorem ae.gY {t:TypeId} {ao:Operand} {x d:D} {r:List D} (hg:ay ops fr ⟨some dst,.load t ao,ty,pp,a,g⟩=some true) (ha:fr.ev ao=x) (hR:jl st x r) (hd:cU P t r=some d) (hp:fr.put dst d=aA)
  (h:ae P ops rest aA st Q):ae P ops (⟨some dst,.load t ao,ty,pp,a,g⟩::rest) fr st Q:=by
 refine ae.go hg rfl (d:=d) (st1:=st) ?_ hp h;simp only[dJ,ha,hR.load hd,Option.map_some]
theorem ae.wb {t e:TypeId} {xo io:Operand} {x:D} {s i j:Nat} {kk:IntKind} {es:List (List D)} {aA:D→Fr} (hH:Has N S st H) (hg:ay ops fr ⟨some dst,.indexAddr t xo io,ty,pp,a,g⟩=some true) (hx:fr.ev xo=x) (hi:fr.ev io=.int kk (i:Nat)) (hj:H[j]?=some (.aD x s es)) (ht:P.bY t=some (.slice e)) (hs:bG P e=some s) (hr:i<es.length) (hp:∀p,fr.put dst p=aA p)
  (h:∀p,nX x s i 0 p→ae P ops rest (aA p) st Q):ae P ops (⟨some dst,.indexAddr t xo io,ty,pp,a,g⟩::rest) fr st Q:=by
 have hown:=hH.own hj
 cases hown with
 |nul=>simp at hr
 |win k aq off es c hm hl hc he=>
  refine ae.go hg rfl (d:=.ptr k aq (off+i*s)) (st1:=st) ?_ (hp _) (h _ ⟨k,aq,off,_,rfl,rfl⟩);simp only[dJ,hx,hi,bB,ht,hs,Option.bind_some,St.mem_of hm,Option.isSome_some];rw[if_pos ⟨trivial,by omega,by omega,trivial⟩];rfl
theorem ae.Hr {t:TypeId} {xo:Operand} {x y:D} {s i o:Nat} {f m:Nat} {fields:Array Field} {fd:Field} {aA:D→Fr} (hg:ay ops fr ⟨some dst,.fieldAddr t xo f,ty,pp,a,g⟩=some true) (hx:fr.ev xo=y) (hR:nX x s i o y) (ht:P.bY t=some (.struct fields)) (hf:fields[f]?=some fd) (hm:bG P fd.type=some m) (sU:m≠0) (hp:∀p,fr.put dst p=aA p)
  (h:∀p,nX x s i (o+fd.offset) p→ae P ops rest (aA p) st Q):ae P ops (⟨some dst,.fieldAddr t xo f,ty,pp,a,g⟩::rest) fr st Q:=by
 obtain⟨k,aq,off,len,h1,h2⟩:=hR;refine ae.go hg rfl (d:=.ptr k aq (off+i*s+(o+fd.offset))) (st1:=st) ?_ (hp _) (h _ ⟨k,aq,off,len,h1,rfl⟩);simp only[dJ,hx,h2,d_,ht,hf,Option.bind_some,hm];rw[if_neg (by simp only[Option.some.injEq];exact sU),←Nat.add_assoc];rfl
theorem ae.hU {t:TypeId} {ao:Operand} {x y d:D} {s i o j:Nat} {es:List (List D)} {r:List D} (hH:Has N S st H) (hg:ay ops fr ⟨some dst,.load t ao,ty,pp,a,g⟩=some true) (ha:fr.ev ao=y) (hR:nX x s i o y) (hj:H[j]?=some (.aD x s es)) (hr:es[i]?=some r) (hd:cU P t (r.drop o)=some d) (hp:fr.put dst d=aA)
  (h:ae P ops rest aA st Q):ae P ops (⟨some dst,.load t ao,ty,pp,a,g⟩::rest) fr st Q:=by
 obtain⟨k,aq,off,len,rfl,rfl⟩:=hR;have hown:=hH.own hj
 cases hown with
 |win k aq off es c hm hl hc he=>
  refine ae.go hg rfl (d:=d) (st1:=st) ?_ hp h;have h1:=jE he i r hr
  have hil:i<es.length:=by
   rcases Nat.lt_or_ge i es.length with h'|h'
   ·exact h'
   ·rw[List.getElem?_eq_none h'] at hr;cases hr
  have h2:(i+1)*s≤es.length*s:=Nat.mul_le_mul_right s hil;rw[Nat.add_mul,Nat.one_mul] at h2;rw[←hc,List.drop_take,List.take_take,List.drop_drop,Nat.min_eq_left (by omega)] at h1;have B':=he r (List.mem_of_getElem? hr);simp only[dJ,ha,fv,St.mem_of hm,Option.bind_some];rw[kq (r:=r.drop o) ?_ hd];rfl;rw[List.length_drop,B',←h1,List.drop_take,List.drop_drop]
theorem ae.pJ {t:TypeId} {ao vo:Operand} {x y v:D} {s i o j:Nat} {es:List (List D)} {r cs:List D} (hH:Has N S st H) (hg:ay ops fr ⟨none,.store t ao vo,ty,pp,a,g⟩=some true) (ha:fr.ev ao=y) (hv:fr.ev vo=v) (hR:nX x s i o y) (hcs:v.cells?=some cs) (hs:bG P t=some cs.length) (hj:H[j]?=some (.aD x s es)) (hr:es[i]?=some r) (hl:o+cs.length≤s) (hw:S.flr≤N∨refs cs=0)
  (h:∀ah,Has N S ah (H.set j (.aD x s (es.set i (setMany r o cs))))→ae P ops rest fr ah Q):ae P ops (⟨none,.store t ao vo,ty,pp,a,g⟩::rest) fr st Q:=by
 obtain⟨k,aq,off,len,rfl,rfl⟩:=hR;obtain⟨ah,h1,h2⟩:=hH.tL hj hr hl hw;refine ae.N hg rfl (d:=.tup []) (st1:=ah) ?_ (h _ h2);simp only[dJ,ha,hv,jU,hcs,hs,if_pos trivial,h1];rfl
theorem ae.Il {s t e:TypeId} {xo:Operand} {b:List UInt8} {aA:Nat→Fr} (hH:Has N S st H) (hg:ay ops fr ⟨some dst,.convert s t xo,ty,pp,a,g⟩=some true) (hx:fr.ev xo=.str b) (h1:P.bY s=some .string) (h2:P.bY t=some (.slice e)) (h3:P.bY e=some (.int .u8)) (hl:b.length<1099511627776) (hp:∀k,fr.put dst (.win k 0 0 b.length 1)=aA k)
  (h:∀k ah,S.bs.length≤k→Has N S ah (.aD (.win k 0 0 b.length 1) 1 (byteCells b)::H)→ae P ops rest (aA k) ah Q):ae P ops (⟨some dst,.convert s t xo,ty,pp,a,g⟩::rest) fr st Q:=by
 have hc:∀b:List UInt8,(byteCells b).flatten=b.map fun y=>.int .u8 (y.toNat:Nat):=by
  intro b
  induction b with
  |nil=>rfl
  |cons y b ih=>simp only[byteCells,List.map_cons,List.flatten_cons] at ih⊢;rw[ih];rfl
 refine ae.go hg rfl (d:=.win st.bs.length 0 0 b.length 1) (st1:=st.push (.mem 0 true (b.map fun y=>.int .u8 (y.toNat:Nat)))) ?_ (hp _) (h _ _ hH.len (hH.mf (by simp[byteCells]) (hc b) (fun e he=>by obtain⟨y,_,rfl⟩:=List.mem_map.1 he;rfl)));simp only[dJ,hx,xk,h1,h2,h3,if_pos hl]
theorem ae.dz {f:Operand} {gn:Nat} {eI:List D} {args:Array Operand} {vj:Array TypeId} {d:D} {st1:St} (hg:ay ops fr ⟨some dst,.call ⟨.value f,args,vj⟩,ty,pp,a,g⟩=some true) (hf:fr.ev f=.fn gn eI)
  (h1:Ev P gn (args.toList.map fr.ev++eI) st d st1) (hp:fr.put dst d=aA)
  (h:ae P ops rest aA st1 Q):ae P ops (⟨some dst,.call ⟨.value f,args,vj⟩,ty,pp,a,g⟩::rest) fr st Q:=
 ae.call hg hf h1 (by show ae P ops rest (fr.put dst d) st1 Q;rw[hp];exact h)
theorem je {m:Mode} {kn:Bool} {st st1:St} {d d':D} (hm:m≠.ch∧m≠.nw) (hS:S.bs=st.bs) (hH:Has st.bs.length S st1 H) (hd:aB st1 st.bs.length kn 16 d=some d'):cK m kn st st1 d=some (d',st):=
 bk hm ((hH.ex.take (by rw[hS])).trans hS) hd
theorem Has.freeze {j:Nat} {x:D} {s:Nat} {es:List (List D)} (hH:Has N S st H) (hj:H[j]?=some (.aD x s es)) (hp:∀e∈es,∀d∈e,bK d=true) {n:Nat} (hn:2≤n):aB st N false (n+1) x=some (.sl (es.map (jn s))):=by
 obtain⟨n,rfl⟩:∃m,n=m+2:=⟨n-2,by omega⟩
 have hown:=hH.own hj;have hkk:=(hH.ok j _ hj).2
 cases hown with
 |nul=>rfl
 |win k aq off es c hm hl hc he=>
  have hk:=hkk k (by simp only[bh.aD,D.ref]);show(if k<N then some (D.win k aq off es.length s) else cw st N (n+2) (.win k aq off es.length s))=_;rw[if_neg (show¬k<N by omega),cw];simp only[if_neg (show¬k<N by omega),St.mem_of hm,Option.bind_some]
  rw[if_pos hl,hc,jv (fun d hd=>by
   obtain⟨e,oB,xJ⟩:=List.mem_flatten.1 hd
   exact hp e oB d xJ)]
  simp only[Option.map_some,eX he]
end Go.V
namespace Go.V
variable{P:Pv} {ops:Array Oper} {rest:List Oper} {fr aA:Fr} {st:St} {Q:Fr→St→Prop} {ty:TypeId} {pp:String} {a:Array Edge} {g:Option (Nat×Bool)} {dst:Nat}
theorem aj {o:Oper} {j t:Nat} {w v:Bool} (h1:o.guard=some (j,w)) (h2:(ops[j]?).bind (·.dst)=some t) (h3:fr.get t=.bool v) (h4:v=w):ay ops fr o=some true:=by
 unfold ay;simp only[h1,h2,h3,h4,beq_self_eq_true]
theorem cn {o:Oper} {j t:Nat} {w v:Bool} (h1:o.guard=some (j,w)) (h2:(ops[j]?).bind (·.dst)=some t) (h3:fr.get t=.bool v) (h4:v=!w):ay ops fr o=some false:=by
 unfold ay;simp only[h1,h2,h3,h4];cases w<;>rfl
theorem ae.skip {op:Op} (hg:ay ops fr ⟨some dst,op,ty,pp,a,g⟩=some false) (hp:fr.put dst (.tup [])=aA)
  (h:ae P ops rest aA st Q):ae P ops (⟨some dst,op,ty,pp,a,g⟩::rest) fr st Q:=
 ae.off hg (by show ae P ops rest (fr.put dst _) st Q;rw[hp];exact h)
theorem ae.two {l:List Oper} (t:Nat) {v:Bool} (hv:fr.get t=.bool v) (h1:v=true→ae P ops l fr st Q) (h2:v=false→ae P ops l fr st Q):ae P ops l fr st Q:=by
 cases v
 ·exact h2 rfl
 ·exact h1 rfl
theorem ae.cF {c x y:Operand} {v:Bool} (hg:ay ops fr ⟨some dst,.pick c x y,ty,pp,a,g⟩=some true) (hc:fr.ev c=.bool v) (hv:v=true) (hp:fr.put dst (fr.ev x)=aA)
  (h:ae P ops rest aA st Q):ae P ops (⟨some dst,.pick c x y,ty,pp,a,g⟩::rest) fr st Q:=
 ae.go hg rfl (by simp only[dJ,hc,hv]) hp h
theorem ae.cp {c x y:Operand} {v:Bool} (hg:ay ops fr ⟨some dst,.pick c x y,ty,pp,a,g⟩=some true) (hc:fr.ev c=.bool v) (hv:v=false) (hp:fr.put dst (fr.ev y)=aA)
  (h:ae P ops rest aA st Q):ae P ops (⟨some dst,.pick c x y,ty,pp,a,g⟩::rest) fr st Q:=
 ae.go hg rfl (by simp only[dJ,hc,hv]) hp h
theorem ag.cut {dy:Dy} {i:Nat} {l:List Oper} {d n loc JK tmp st} {Q:Out→Fr→St→Prop} (t:Nat) (v:D)
  (h1:ae P l.toArray l ⟨n,loc,[]⟩ st fun aA ah=>∃tmp,aA=⟨n,JK,tmp⟩∧ah=st∧look t tmp=v) (h2:∀tmp,look t tmp=v→Q .next ⟨n,JK,tmp⟩ st) (h0:fU i dy=[]:=by rfl):ag P dy (.region i l.toArray d) ⟨n,loc,tmp⟩ st Q:=by
 refine ag.dD ?_ h0;unfold ae at h1⊢;obtain⟨aA,ah,h3,G9,rfl,rfl,h4⟩:=h1;exact⟨_,_,h3,h2 _ h4⟩
theorem wrap_i32 {n : Int} (h1 : -2147483648 ≤ n) (h2 : n ≤ 2147483647) : bj .i32 n = n := by
  cases n with
  | ofNat m => exact eD (k := .i32) (m := m) (by simp only [lF]; have : (Int.ofNat m) = (m : Int) := rfl; omega)
  | negSucc m =>
    unfold bj
    have : Nat.ble (ub .i32) m = false := by
      cases hb : Nat.ble (ub .i32) m with
      | false => rfl
      | true => have := Nat.le_of_ble_eq_true hb; simp only [ub] at this; have : Int.negSucc m = -(m : Int) - 1 := by omega
                omega
    simp only [this]
theorem Mi (x y:Int):(if y>x then y else x)=max x y:=by split<;>omega
theorem Mh (x y:Int):(if y<x then y else x)=min x y:=by split<;>omega
theorem ae.Hz {t1 t2:TypeId} {xo yo:Operand} {k k':IntKind} {x y:Int} {vj:Array TypeId} (hg:ay ops fr ⟨some dst,.call ⟨.builtin .max,#[xo,yo],vj⟩,ty,pp,a,g⟩=some true) (hx:fr.ev xo=.int k x) (hy:fr.ev yo=.int k' y) (hp:fr.put dst (.int k (max x y))=aA)
  (h:ae P ops rest aA st Q):ae P ops (⟨some dst,.call ⟨.builtin .max,#[xo,yo],vj⟩,ty,pp,a,g⟩::rest) fr st Q:=by
 refine ae.go hg rfl (d:=.int k (max x y)) (st1:=st) ?_ hp h;simp only[dJ,List.map_cons,List.map_nil,hx,hy,aS,oE,sF,Option.bind_some,Option.map_some,←Mi];rfl
theorem ae.Hy {t1 t2:TypeId} {xo yo:Operand} {k k':IntKind} {x y:Int} {vj:Array TypeId} (hg:ay ops fr ⟨some dst,.call ⟨.builtin .min,#[xo,yo],vj⟩,ty,pp,a,g⟩=some true) (hx:fr.ev xo=.int k x) (hy:fr.ev yo=.int k' y) (hp:fr.put dst (.int k (min x y))=aA)
  (h:ae P ops rest aA st Q):ae P ops (⟨some dst,.call ⟨.builtin .min,#[xo,yo],vj⟩,ty,pp,a,g⟩::rest) fr st Q:=by
 refine ae.go hg rfl (d:=.int k (min x y)) (st1:=st) ?_ hp h;simp only[dJ,List.map_cons,List.map_nil,hx,hy,aS,oE,sF,Option.bind_some,Option.map_some,←Mh];rfl
theorem ae.IU {t nZ:TypeId} {xo yo:Operand} {x y:Int} (hg:ay ops fr ⟨some dst,.binOp .add t xo yo nZ,ty,pp,a,g⟩=some true) (hx:fr.ev xo=.int .i64 x) (hy:fr.ev yo=.int .i64 y) (h1:-9223372036854775808≤x+y) (h2:x+y≤9223372036854775807) (hp:fr.put dst (.int .i64 (x+y))=aA)
  (h:ae P ops rest aA st Q):ae P ops (⟨some dst,.binOp .add t xo yo nZ,ty,pp,a,g⟩::rest) fr st Q:=by
 refine ae.go hg rfl (d:=.int .i64 (x+y)) (st1:=st) ?_ hp h;simp only[dJ,hx,hy,kY,wH,if_pos trivial,Option.map_some,wrap_i64 h1 h2,reduceIte]
theorem ae.IV {t nZ:TypeId} {xo yo:Operand} {x y:Int} (hg:ay ops fr ⟨some dst,.binOp .add t xo yo nZ,ty,pp,a,g⟩=some true) (hx:fr.ev xo=.int .i32 x) (hy:fr.ev yo=.int .i32 y) (h1:-2147483648≤x+y) (h2:x+y≤2147483647) (hp:fr.put dst (.int .i32 (x+y))=aA)
  (h:ae P ops rest aA st Q):ae P ops (⟨some dst,.binOp .add t xo yo nZ,ty,pp,a,g⟩::rest) fr st Q:=by
 refine ae.go hg rfl (d:=.int .i32 (x+y)) (st1:=st) ?_ hp h;simp only[dJ,hx,hy,kY,wH,if_pos trivial,Option.map_some,wrap_i32 h1 h2,reduceIte]
theorem ae.mv {op:Op} {x:Operand} {d:D} (hop:op=.move x∨op=.assign x) (hg:ay ops fr ⟨some dst,op,ty,pp,a,g⟩=some true) (hx:fr.ev x=d) (hp:fr.put dst d=aA)
  (h:ae P ops rest aA st Q):ae P ops (⟨some dst,op,ty,pp,a,g⟩::rest) fr st Q:=by
 refine ae.go hg ?_ (d:=d) (st1:=st) ?_ hp h<;>rcases hop with rfl|rfl<;>first|rfl|simp only[dJ,hx]
def kg (P:Pv) (fields:Array Field) (f:Nat):Option (Nat×Option Nat):=(fields[f]?).map fun fd=>(fd.offset,bG P fd.type)
theorem kf {P:Pv} {fields:Array Field} {f fo m:Nat} (h:kg P fields f=some (fo,some m)):∃fd,fields[f]?=some fd∧fd.offset=fo∧bG P fd.type=some m:=by
 unfold kg at h;obtain⟨fd,h1,h2⟩:=Option.map_eq_some_iff.1 h;simp only[Prod.mk.injEq] at h2;exact⟨fd,h1,h2.1,h2.2⟩
theorem ae.lC {t:TypeId} {xo:Operand} {k aq off o f fo m:Nat} {fields:Array Field} (hg:ay ops fr ⟨some dst,.fieldAddr t xo f,ty,pp,a,g⟩=some true) (hx:fr.ev xo=.ptr k aq off) (ht:P.bY t=some (.struct fields)) (hf:kg P fields f=some (fo,some (m+1))) (ho:off+fo=o) (hp:fr.put dst (.ptr k aq o)=aA)
  (h:ae P ops rest aA st Q):ae P ops (⟨some dst,.fieldAddr t xo f,ty,pp,a,g⟩::rest) fr st Q:=by
 obtain⟨fd,h1,h2,h3⟩:=kf hf;subst ho;refine ae.go hg rfl (d:=.ptr k aq (off+fo)) (st1:=st) ?_ hp h;simp only[dJ,hx,d_,ht,h1,Option.bind_some,h3,h2];rw[if_neg (by simp)];rfl
theorem ae.kz {t:TypeId} {xo:Operand} {x:D} {r:List D} {f fo m:Nat} {fields:Array Field} {aA:D→Fr} (hg:ay ops fr ⟨some dst,.fieldAddr t xo f,ty,pp,a,g⟩=some true) (hx:fr.ev xo=x) (hR:jl st x r) (ht:P.bY t=some (.struct fields)) (hf:kg P fields f=some (fo,some (m+1))) (hp:∀p,fr.put dst p=aA p)
  (h:∀p,jl st p (r.drop fo)→ae P ops rest (aA p) st Q):ae P ops (⟨some dst,.fieldAddr t xo f,ty,pp,a,g⟩::rest) fr st Q:=by
 obtain⟨fd,h1,h2,h3⟩:=kf hf;exact ae.Hj hg hx hR ht h1 h3 (by omega) hp (by rw[h2];exact h)
theorem ae.cX {t:TypeId} {xo:Operand} {x y:D} {s i o o2:Nat} {f fo m:Nat} {fields:Array Field} {aA:D→Fr} (hg:ay ops fr ⟨some dst,.fieldAddr t xo f,ty,pp,a,g⟩=some true) (hx:fr.ev xo=y) (hR:nX x s i o y) (ht:P.bY t=some (.struct fields)) (hf:kg P fields f=some (fo,some (m+1))) (ho:o+fo=o2) (hp:∀p,fr.put dst p=aA p)
  (h:∀p,nX x s i o2 p→ae P ops rest (aA p) st Q):ae P ops (⟨some dst,.fieldAddr t xo f,ty,pp,a,g⟩::rest) fr st Q:=by
 obtain⟨fd,h1,h2,h3⟩:=kf hf;subst ho;exact ae.Hr hg hx hR ht h1 h3 (by omega) hp (by rw[h2];exact h)
theorem vB {c cs:List D} (h:cs.length=c.length):setMany c 0 cs=cs:=by
 rw[fQ cs c 0 (by omega),List.take_zero,List.nil_append,Nat.zero_add,h,List.drop_length,List.append_nil]
variable{N:Nat} {S:St} {H:List bh}
theorem ae.bP {j k aq:Nat} {ar:Bool} {c cs:List D} {v:D} {t:TypeId} {ao vo:Operand} (hH:Has N S st H) (hg:ay ops fr ⟨none,.store t ao vo,ty,pp,a,g⟩=some true) (ha:fr.ev ao=.ptr k aq 0) (hv:fr.ev vo=v) (hcs:v.cells?=some cs) (hs:bG P t=some cs.length) (hj:H[j]?=some (.box k (.mem aq ar c))) (hl:cs.length=c.length) (hw:S.flr≤N∨refs cs=0)
  (h:∀ah,Has N S ah (H.set j (.box k (.mem aq ar cs)))→ae P ops rest fr ah Q):ae P ops (⟨none,.store t ao vo,ty,pp,a,g⟩::rest) fr st Q:=
 ae.uz hH hg ha hv hcs hs hj (by omega) hw (by rw[vB hl];exact h)
theorem te {place:Nat→Option (Nat×Nat)} {s:Nat} (ka:∀i,place i=some (i*s,s)):∀(vs:List D) (n:Nat) (done rem:List D),done.length=n*s→rem.length=vs.length*s→(∀v∈vs,v.cells?=some v.cells∧v.cells.length=s)→
  gK place (done++rem) (vs.mapIdx fun i v=>(n+i,v))=some (done++(vs.map D.cells).flatten)
 |[],n,done,rem,hd,hr,_=>by
  have:rem=[]:=by cases rem with|nil=>rfl|cons _ _=>simp at hr
  subst this;simp[gK]
 |v::vs,n,done,rem,hd,hr,hv=>by
  obtain⟨h1,h2⟩:=hv v (List.mem_cons_self ..);simp only[List.length_cons,Nat.add_mul,Nat.one_mul] at hr;simp only[List.mapIdx_cons,gK,ka,h1,Nat.add_zero];rw[if_neg (by simp only[h2,ne_eq,not_true_eq_false,List.length_append,false_or];rw[hd,hr];omega)]
  have e1:setMany (done++rem) (n*s) v.cells=(done++v.cells)++rem.drop s:=by
   rw[fQ _ _ _ (by simp only[List.length_append];omega),h2,←hd,List.take_left,List.drop_length_add_append]
  have ih:=te ka vs (n+1) (done++v.cells) (rem.drop s) (by rw[List.length_append,hd,h2,Nat.add_mul,Nat.one_mul]) (by rw[List.length_drop];omega) fun w hw=>hv w (List.mem_cons_of_mem _ hw);rw[e1];have e2:(vs.mapIdx fun i v=>(n+(i+1),v))=vs.mapIdx fun i v=>(n+1+i,v):=by congr 1;funext i v;rw[show n+(i+1)=n+1+i by omega]
  rw[e2,ih];simp[List.append_assoc]
def Ap (fr:Fr):Nat→List (Nat×Operand)→List D→Prop
 |_,[],[]=>True
 |n,(i,o)::ps,v::vs=>i=n∧fr.ev o=v∧Ap fr (n+1) ps vs
 |_,_,_=>False
theorem xe {fr:Fr}:∀{ps:List (Nat×Operand)} {vs:List D} {n:Nat},Ap fr n ps vs→(ps.map fun p=>(p.1,fr.ev p.2))=vs.mapIdx fun i v=>(n+i,v)
 |[],[],_,_=>rfl
 |(i,o)::ps,v::vs,n,h=>by
  obtain⟨h1,h2,h3⟩:=h;have ih:=xe h3;simp only[List.map_cons,List.mapIdx_cons,Nat.add_zero];rw[ih,h1,h2]
  congr 1
  congr 1;funext i v;rw[show n+(i+1)=n+1+i by omega]
 |[],_::_,_,h=>h.elim
 |_::_,[],_,h=>h.elim
theorem ae.GW {t e:TypeId} {m s:Nat} {parts:Array (Nat×Operand)} {z:List D} {vs:List D} {aA:Nat→Fr} (hH:Has N S st H) (hg:ay ops fr ⟨some dst,.buildSlice t m parts,ty,pp,a,g⟩=some true) (ht:P.bY t=some (.slice e)) (hs:bG P e=some s) (hz:cE P e=some z) (jJ:z.length=s) (hm:m*s≤16777216)
  (Ls:Ap fr 0 parts.toList vs) (hvl:vs.length=m) (hc:∀v∈vs,v.cells?=some v.cells∧v.cells.length=s) (hp:∀k,fr.put dst (.win k 0 0 m s)=aA k)
  (h:∀k ah,S.bs.length≤k→Has N S ah (.aD (.win k 0 0 m s) s (vs.map D.cells)::H)→ae P ops rest (aA k) ah Q):ae P ops (⟨some dst,.buildSlice t m parts,ty,pp,a,g⟩::rest) fr st Q:=by
 have hvs:=xe Ls;have hf:=te (place:=fun i=>some (i*s,s)) (fun _=>rfl) vs 0 [] (cV m z) (by simp) (by simp[cV,hvl,jJ]) hc
 refine ae.go hg rfl (d:=.win st.bs.length 0 0 m s) (st1:=st.push (.mem 0 true (vs.map D.cells).flatten)) ?_ (hp _) (h _ _ hH.len (hH.mf (by simpa using hvl) rfl (fun e he=>by
  obtain⟨v,hv,rfl⟩:=List.mem_map.1 he
  exact(hc v hv).2)))
 simp only[dJ,gx,ht,hs,hz,Option.bind_some];rw[if_pos ⟨jJ,hm⟩,hvs];simp only[List.nil_append] at hf;rw[hf];rfl
theorem ae.aO {j k aq off m:Nat} {ar:Bool} {c r:List D} {t:TypeId} {ao:Operand} (hH:Has N S st H) (hg:ay ops fr ⟨some dst,.load t ao,ty,pp,a,g⟩=some true) (ha:fr.ev ao=.ptr k aq off) (hj:H[j]?=some (.box k (.mem aq ar c))) (hr:(c.drop off).take m=r) (hd:cU P t r=some (.agg r)) (hm:r.length=m) (hp:fr.put dst (.agg r)=aA)
  (h:ae P ops rest aA st Q):ae P ops (⟨some dst,.load t ao,ty,pp,a,g⟩::rest) fr st Q:=
 ae.ib hH hg ha hj (kq (r:=r) (by rw[hm];exact hr) hd) hp h
theorem cQ {α:Type} {l:List α} {i:Nat} {a:α} (h:l[i]?=some a):i<l.length:=by
 rcases Nat.lt_or_ge i l.length with h'|h'
 ·exact h'
 ·rw[List.getElem?_eq_none h'] at h;cases h
theorem ae.cJ {t:TypeId} {ao:Operand} {x:D} {r:List D} (hg:ay ops fr ⟨some dst,.load t ao,ty,pp,a,g⟩=some true) (ha:fr.ev ao=x) (hR:jl st x r) (hd:cU P t r=some (.agg r)) (hp:fr.put dst (.agg r)=aA)
  (h:ae P ops rest aA st Q):ae P ops (⟨some dst,.load t ao,ty,pp,a,g⟩::rest) fr st Q:=ae.gY hg ha hR hd hp h
theorem ae.tW {t:TypeId} {ao:Operand} {x y:D} {s i j:Nat} {es:List (List D)} {r:List D} (hH:Has N S st H) (hg:ay ops fr ⟨some dst,.load t ao,ty,pp,a,g⟩=some true) (ha:fr.ev ao=y) (hR:nX x s i 0 y) (hj:H[j]?=some (.aD x s es)) (hr:es[i]?=some r) (hd:cU P t r=some (.agg r)) (hp:fr.put dst (.agg r)=aA)
  (h:ae P ops rest aA st Q):ae P ops (⟨some dst,.load t ao,ty,pp,a,g⟩::rest) fr st Q:=ae.hU hH hg ha hR hj hr (by rw[List.drop_zero];exact hd) hp h
theorem ae.cS {t nZ:TypeId} {xo yo:Operand} {x y z:Int} {k:IntKind} (hg:ay ops fr ⟨some dst,.binOp .add t xo yo nZ,ty,pp,a,g⟩=some true) (hx:fr.ev xo=.int k x) (hy:fr.ev yo=.int k y) (hz:bj k (x+y)=z) (hp:fr.put dst (.int k z)=aA)
  (h:ae P ops rest aA st Q):ae P ops (⟨some dst,.binOp .add t xo yo nZ,ty,pp,a,g⟩::rest) fr st Q:=by
 refine ae.go hg rfl (d:=.int k z) (st1:=st) ?_ hp h;simp only[dJ,hx,hy,kY,wH,if_pos trivial,Option.map_some,hz,reduceIte]
theorem ae.kQ {t nZ:TypeId} {xo yo:Operand} {x y z:Int} {k:IntKind} (hg:ay ops fr ⟨some dst,.binOp .sub t xo yo nZ,ty,pp,a,g⟩=some true) (hx:fr.ev xo=.int k x) (hy:fr.ev yo=.int k y) (hz:bj k (x-y)=z) (hp:fr.put dst (.int k z)=aA)
  (h:ae P ops rest aA st Q):ae P ops (⟨some dst,.binOp .sub t xo yo nZ,ty,pp,a,g⟩::rest) fr st Q:=by
 refine ae.go hg rfl (d:=.int k z) (st1:=st) ?_ hp h;simp only[dJ,hx,hy,kY,wH,if_pos trivial,Option.map_some,hz,reduceIte]
theorem ae.yt {t nZ:TypeId} {xo yo:Operand} {x y z:Int} {k:IntKind} (hg:ay ops fr ⟨some dst,.binOp .mul t xo yo nZ,ty,pp,a,g⟩=some true) (hx:fr.ev xo=.int k x) (hy:fr.ev yo=.int k y) (hz:bj k (x*y)=z) (hp:fr.put dst (.int k z)=aA)
  (h:ae P ops rest aA st Q):ae P ops (⟨some dst,.binOp .mul t xo yo nZ,ty,pp,a,g⟩::rest) fr st Q:=by
 refine ae.go hg rfl (d:=.int k z) (st1:=st) ?_ hp h;simp only[dJ,hx,hy,kY,wH,if_pos trivial,Option.map_some,hz,reduceIte]
theorem ae.P2 {t nZ:TypeId} {xo yo:Operand} {x y:D} {b:Bool} (hg:ay ops fr ⟨some dst,.binOp .neq t xo yo nZ,ty,pp,a,g⟩=some true) (hx:fr.ev xo=x) (hy:fr.ev yo=y) (hb:kY P .neq t x y=some (.bool b)) (hp:fr.put dst (.bool b)=aA)
  (h:ae P ops rest aA st Q):ae P ops (⟨some dst,.binOp .neq t xo yo nZ,ty,pp,a,g⟩::rest) fr st Q:=by
 refine ae.go hg rfl (d:=.bool b) (st1:=st) ?_ hp h;simp only[dJ,hx,hy,hb,Option.map_some]
theorem Ev.kT {f:Nat} {x:Fi} {body:Code} {args:List D} {st:St} {n:Nat} {loc:List D} {EN:D→St→Prop} (hq:j8 f P.prm=none) (hf:P.fi f=some x) (hp:x.jK=none) (hb:x.fn.body=some body) (DG:pad x.nloc args=⟨n,loc,[]⟩)
  (h:ag P x.dyn body ⟨n,loc,[]⟩ (ai x.mode st) fun o fr st1=>(∀i,o≠.exit i)∧∃ds d ah,iL P fr st1 x.fn.results.toList=some ds∧cK x.mode x.knul st st1 (rC ds)=some (d,ah)∧EN d ah):∃d ah,Ev P f args st d ah∧EN d ah:=by
 unfold ag at h;obtain⟨o,aA,st1,hN,ho,ds,d,ah,hr,hl,DF⟩:=h;refine⟨d,ah,Ev.jL hq hf hp hb DG ?_,DF⟩;unfold ag;exact⟨o,aA,st1,hN,ho,ds,hr,hl⟩
def EO (M:Fr→St→Prop) (Q:Out→Fr→St→Prop):Out→Fr→St→Prop
 | .next,fr,st=>M fr st
 | .exit i,fr,st=>Q (.exit i) fr st
 | .ret,fr,st=>Q .ret fr st
theorem ag.merge {P:Pv} {dy:Dy} {c:Code} {fr:Fr} {st:St} {Q:Out→Fr→St→Prop} (M:Fr→St→Prop) (h1:ag P dy c fr st (EO M Q)) (h2:∀aA ah,M aA ah→Q .next aA ah):ag P dy c fr st Q:=
 h1.mono fun o aA ah h=>by
  cases o with
  |next=>exact h2 _ _ h
  |exit i=>exact h
  |ret=>exact h
theorem ae.PB {t nZ:TypeId} {xo yo:Operand} {x y:Nat} (hg:ay ops fr ⟨some dst,.binOp .add t xo yo nZ,ty,pp,a,g⟩=some true) (hx:fr.ev xo=.int .i64 (x:Nat)) (hy:fr.ev yo=.int .i64 (y:Nat)) (h2:x+y≤9223372036854775807) (hp:fr.put dst (.int .i64 ((x+y:Nat):Int))=aA)
  (h:ae P ops rest aA st Q):ae P ops (⟨some dst,.binOp .add t xo yo nZ,ty,pp,a,g⟩::rest) fr st Q:=
 ae.cS hg hx hy (by rw[wrap_i64 (by omega) (by omega)];rfl) hp h
theorem Ev.Bd {f:Nat} {x:Fi} {body:Code} {args:List D} {st:St} {n:Nat} {loc:List D} {EN:D→Prop} (hq:j8 f P.prm=none) (hf:P.fi f=some x) (hp:x.jK=none) (hb:x.fn.body=some body) (DG:pad x.nloc args=⟨n,loc,[]⟩)
  (h:ag P x.dyn body ⟨n,loc,[]⟩ (ai x.mode st) fun o fr st1=>(∀i,o≠.exit i)∧∃ds d,iL P fr st1 x.fn.results.toList=some ds∧cK x.mode x.knul st st1 (rC ds)=some (d,st)∧EN d):∃d,Ev P f args st d st∧EN d:=by
 unfold ag at h;obtain⟨o,aA,st1,hN,ho,ds,d,hr,hl,DF⟩:=h;refine⟨d,Ev.jL hq hf hp hb DG ?_,DF⟩;unfold ag;exact⟨o,aA,st1,hN,ho,ds,hr,hl⟩
def bd (loc:List D) (ws:List Nat) (f:Nat→D):List D:=ws.foldl (fun l w=>l.set w (f w)) loc
theorem ag.rR {P:Pv} {dy:Dy} {i:Nat} {l:List Oper} {d n loc tmp st} {Q:Out→Fr→St→Prop} (t:Nat) (v:D) (ws:List Nat)
  (h1:ae P l.toArray l ⟨n,loc,[]⟩ st fun aA ah=>∃f tmp,aA=⟨n,(bd loc ws f).set t v,tmp⟩∧ah=st) (h2:∀f tmp,Q .next ⟨n,(bd loc ws f).set t v,tmp⟩ st) (h0:fU i dy=[]:=by rfl):ag P dy (.region i l.toArray d) ⟨n,loc,tmp⟩ st Q:=by
 refine ag.dD ?_ h0;unfold ae at h1⊢;obtain⟨aA,ah,h3,f,G9,rfl,rfl⟩:=h1;exact⟨_,_,h3,h2 _ _⟩
theorem ag.mJ {P:Pv} {dy:Dy} {i:Nat} {l:List Oper} {d n loc tmp st} {Q:Out→Fr→St→Prop} (t:Nat) (v:D) (ws:List Nat)
  (h1:ae P l.toArray l ⟨n,loc,[]⟩ st fun aA ah=>∃f tmp,aA=⟨n,bd loc ws f,tmp⟩∧ah=st∧look t tmp=v) (h2:∀f tmp,look t tmp=v→Q .next ⟨n,bd loc ws f,tmp⟩ st) (h0:fU i dy=[]:=by rfl):ag P dy (.region i l.toArray d) ⟨n,loc,tmp⟩ st Q:=by
 refine ag.dD ?_ h0;unfold ae at h1⊢;obtain⟨aA,ah,h3,f,G9,rfl,rfl,h4⟩:=h1;exact⟨_,_,h3,h2 _ _ h4⟩
theorem aI {n:Nat} {L loc:List D} {tH:List (Nat×D)} {ws:List Nat} {t:Nat} {v:D} {st:St} (h:L=(bd loc ws (fun k=>nth .aY L k)).set t v):∃(f:Nat→D) (tmp:List (Nat×D)),(⟨n,L,tH⟩:Fr)=⟨n,(bd loc ws f).set t v,tmp⟩∧st=st:=⟨_,tH,by rw[←h],rfl⟩
theorem dn {n:Nat} {L loc:List D} {tH:List (Nat×D)} {ws:List Nat} {t:Nat} {v:D} {st:St} (h:L=bd loc ws (fun k=>nth .aY L k)) (h2:look t tH=v):∃(f:Nat→D) (tmp:List (Nat×D)),(⟨n,L,tH⟩:Fr)=⟨n,bd loc ws f,tmp⟩∧st=st∧look t tmp=v:=⟨_,tH,by rw[←h],rfl,h2⟩
theorem BW {x y:Oper} {fi fj:Fr} {si o0 sj ES:St} {a:Operand} {k aq off v:Nat} {ar:Bool} {c:List D} (hy:gj y.op=none) (hx:gj x.op=some a) (ha:fi.ev a=.ptr k aq off) (h1:sj.bs[k]?=some (.mem v ar c)) (h2:ES.bs[k]?=some (.mem v ar c)) (h3:si.bs[k]?=some (.mem v ar c)) (hr:refs c=0):hC x fi si o0 y fj sj ES=true:=by
 unfold hC;simp only[hy,hx,ha,D.lT,Bool.and_eq_true];refine⟨ni h1 h2,?_⟩;unfold lA;simp only[h3,hr]
 split
 ·rfl
 ·simp
def eZ (x:D) (s:Nat) (es:List (List D)):Prop:=(x=.nul∧es=[])∨∃ds,x=.sl ds∧ds.map D.cells=es∧∀d∈ds,d.cells?=some d.cells∧d.cells.length=s
theorem eZ.rows {x:D} {s:Nat} {es:List (List D)} (h:eZ x s es) (st:St):Rows st s x es:=by
 rcases h with⟨rfl,rfl⟩|⟨ds,rfl,rfl,h⟩
 ·exact .nul
 ·exact .sl ds h
theorem eZ.ref {x:D} {s:Nat} {es:List (List D)} (h:eZ x s es):x.ref=0:=by
 rcases h with⟨rfl,rfl⟩|⟨ds,rfl,rfl,h⟩<;>rfl
theorem eZ.arg {x:D} {s:Nat} {es:List (List D)} (h:eZ x s es) (N:Nat) (S:St):Arg N S s x es:=⟨h.rows S,by rw[h.ref];omega⟩
theorem eZ.cells {x:D} {s:Nat} {es:List (List D)} (h:eZ x s es):x.cells?=some [x]∧x.cells=[x]:=by
 rcases h with⟨rfl,rfl⟩|⟨ds,rfl,rfl,h⟩<;>exact⟨rfl,rfl⟩
theorem eZ.freeze {x:D} {s:Nat} {es:List (List D)} (h:eZ x s es) (st:St) (N n:Nat):∃y,aB st N false (n+1) x=some y∧eZ y s es:=by
 rcases h with⟨rfl,rfl⟩|⟨ds,rfl,rfl,h⟩
 ·exact⟨.sl [],rfl,.inr ⟨[],rfl,rfl,fun d hd=>by cases hd⟩⟩
 ·exact⟨.sl ds,rfl,.inr ⟨ds,rfl,rfl,h⟩⟩
theorem eZ.frozen {s:Nat} {es:List (List D)} (h:∀e∈es,e.length=s) (hp:∀e∈es,∀d∈e,bK d=true):eZ (.sl (es.map (jn s))) s es:=by
 refine .inr ⟨_,rfl,?_,fun d hd=>?_⟩
 ·rw[List.map_map]
  conv=>rhs;rw[←List.map_id es]
  refine List.map_congr_left fun e he=>?_;exact(kO (h e he) (hp e he)).2
 ·obtain⟨e,he,rfl⟩:=List.mem_map.1 hd;obtain⟨h1,h2⟩:=kO (h e he) (hp e he);exact⟨h1,by rw[h2];exact h e he⟩
theorem eZ.part {P:Pv} {st:St} {t e:TypeId} {x:D} {s l r:Nat} {es:List (List D)} {lo hi:Option D} (h:eZ x s es) (ht:P.bY t=some (.slice e)) (hs:bG P e=some s) (hb:cD es.length lo hi=some (l,r)):∃y,fp P t x lo hi st=some y∧eZ y s ((es.take r).drop l):=by
 rcases h with⟨rfl,rfl⟩|⟨ds,rfl,rfl,h⟩
 ·simp only[List.length_nil] at hb;refine⟨.nul,?_,.inl ⟨rfl,by simp⟩⟩;simp only[fp,ht,hs,Option.bind_some,hb,Option.map_some]
 ·rw[List.length_map] at hb;refine⟨.sl ((ds.take r).drop l),?_,.inr ⟨_,rfl,by rw[List.map_drop,List.map_take],fun d hd=>h d (List.mem_of_mem_take (List.mem_of_mem_drop hd))⟩⟩;simp only[fp,ht,hs,Option.bind_some]
  rw[if_pos (by
   cases ds with
   |nil=>rfl
   |cons d ds=>obtain⟨h1,h2⟩:=h d (List.mem_cons_self ..);simp[qM,h1,h2])]
  simp only[hb,Option.map_some]
theorem ae.Hm {P:Pv} {ops:Array Oper} {rest:List Oper} {fr:Fr} {st:St} {Q:Fr→St→Prop} {ty:TypeId} {pp:String} {a:Array Edge} {g:Option (Nat×Bool)} {dst:Nat} {t e:TypeId} {xo:Operand} {lo hi:Option Operand} {x:D} {s:Nat} {es:List (List D)} {l r:Nat} {aA:D→Fr} (hg:ay ops fr ⟨some dst,.slice t xo lo hi none,ty,pp,a,g⟩=some true) (hx:fr.ev xo=x) (hR:eZ x s es) (ht:P.bY t=some (.slice e)) (hs:bG P e=some s)
  (hb:cD es.length (lo.map fr.ev) (hi.map fr.ev)=some (l,r)) (hp:∀y,fr.put dst y=aA y)
  (h:∀y,eZ y s ((es.take r).drop l)→ae P ops rest (aA y) st Q):ae P ops (⟨some dst,.slice t xo lo hi none,ty,pp,a,g⟩::rest) fr st Q:=by
 obtain⟨y,h1,h2⟩:=hR.part (st:=st) ht hs hb;refine ae.go hg rfl (d:=y) (st1:=st) ?_ (hp y) (h y h2);simp only[dJ,hx,h1,Option.map_some]
end Go.V
namespace Go.V
inductive cv {α β:Type} (R:α→β→Prop):List α→List β→Prop where
 |nil:cv R [] []
 |cons {a:α} {b:β} {l:List α} {m:List β} (h:R a b) (t:cv R l m):cv R (a::l) (b::m)
theorem cv.mono {α β:Type} {R R':α→β→Prop} (h:∀a b,R a b→R' a b):∀{l:List α} {m:List β},cv R l m→cv R' l m
 |_,_,.nil=>.nil
 |_,_,.cons a t=>.cons (h _ _ a) (t.mono h)
theorem cv.append {α β:Type} {R:α→β→Prop}:∀{l l':List α} {m m':List β},cv R l m→cv R l' m'→cv R (l++l') (m++m')
 |_,_,_,_,.nil,h=>h
 |_,_,_,_,.cons a t,h=>.cons a (t.append h)
theorem cv.len {α β:Type} {R:α→β→Prop}:∀{l:List α} {m:List β},cv R l m→l.length=m.length
 |_,_,.nil=>rfl
 |_,_,.cons a t=>by simp[t.len]
inductive fe (st:St) (ks:Nat→Prop):D→D→Prop where
 |plain (d:D) (h:bK d=true):fe st ks d d
 |aD (w:D) (s:Nat) (rs:List (List D)) (h:fF st s w rs) (hp:∀e∈rs,∀d∈e,bK d=true) (hk:∀k,w.ref=k+1→ks k):fe st ks w (.sl (rs.map (jn s)))
theorem fe.mono {st:St} {ks JO:Nat→Prop} (h:∀k,ks k→JO k) {d v:D} (p:fe st ks d v):fe st JO d v:=by
 cases p with
 |plain h=>exact .plain d h
 |aD s rs h1 h2 h3=>exact .aD d s rs h1 h2 fun k hk=>h k (h3 k hk)
theorem fe.move {st ah:St} {ks:Nat→Prop} (h:∀k,ks k→ah.bs[k]?=st.bs[k]?) {d v:D} (p:fe st ks d v):fe ah ks d v:=by
 cases p with
 |plain h=>exact .plain d h
 |aD s rs h1 h2 h3=>exact .aD d s rs (h1.move fun k hk=>h k (h3 k hk)) h2 h3
theorem fF.Jw {st:St} {s N:Nat} {x:D} {es:List (List D)} (h:fF st s x es) (hN:∀k,x.ref=k+1→N≤k) (hp:∀e∈es,∀d∈e,bK d=true) (n:Nat):cw st N (n+2) x=some (.sl (es.map (jn s))):=by
 cases h with
 |nul=>rfl
 |win k aq off es c hm hl hc he=>
  have:=hN k (by simp only[D.ref]);rw[cw];simp only[if_neg (show¬k<N by omega),St.mem_of hm,Option.bind_some]
  rw[if_pos hl,hc,jv (fun d hd=>by
   obtain⟨e,oB,xJ⟩:=List.mem_flatten.1 hd
   exact hp e oB d xJ)]
  simp only[Option.map_some,eX he]
theorem fe.pure {st:St} {ks:Nat→Prop} {N:Nat} (hN:∀k,ks k→N≤k) {d v:D} (p:fe st ks d v) (n:Nat):cw st N (n+2) d=some v:=by
 cases p with
 |plain h=>cases d<;>simp[bK] at h<;>rfl
 |aD s rs h1 h2 h3=>exact h1.Jw (fun k hk=>hN k (h3 k hk)) h2 n
theorem sO {f:D→Option D} {R:D→D→Prop} (h:∀a b,R a b→f a=some b):∀{l m:List D},cv R l m→cH f l=some m
 |_,_,.nil=>rfl
 |_,_,.cons a t=>by simp only[cH,h _ _ a,sO h t]
theorem cv.flat {R:D→D→Prop}:∀{l m:List (List D)},cv (cv R) l m→cv R l.flatten m.flatten
 |_,_,.nil=>.nil
 |_,_,.cons a t=>by simp only[List.flatten_cons];exact a.append t.flat
theorem cv.each {s:Nat} {R:D→D→Prop}:∀{l m:List (List D)},cv (cv R) l m→(∀e∈l,e.length=s)→∀e∈m,e.length=s
 |_,_,.nil,_,e,he=>by cases he
 |_,_,.cons a t,h,e,he=>by
  rcases List.mem_cons.1 he with rfl|he
  ·rw[←a.len];exact h _ (List.mem_cons_self ..)
  ·exact t.each (fun x hx=>h x (List.mem_cons_of_mem _ hx)) e he
def bh.emp:bh:=⟨fun _=>False,fun _=>True,fun _ p=>p⟩
def bh.deep (ks:Nat→Prop) (x:D) (s:Nat) (vs:List (List D)):bh:=
 ⟨fun j=>x.ref=j+1∨ks j,fun st=>(∃es,fF st s x es∧cv (cv (fe st ks)) es vs)∧∀k,x.ref=k+1→¬ks k,fun h p=>by
  obtain⟨⟨es,h1,h2⟩,h3⟩:=p
  exact⟨⟨es,h1.move fun k hk=>h k (.inl hk),h2.mono fun a b=>cv.mono fun c d=>fe.move fun k hk=>h k (.inr hk)⟩,h3⟩⟩
variable{N:Nat} {S st:St} {H:List bh}
theorem Has.JC (h:Has N S st H) (s:Nat):Has N S st (.deep (fun _=>False) .nul s []::H):=
 h.add (fun _ _=>rfl) (Nat.le_refl _) rfl rfl ⟨⟨[],.nul,.nil⟩,fun k hk=>by simp only[D.ref] at hk;omega⟩ fun k hk=>by
  rcases hk with hk|hk
  ·simp only[D.ref] at hk;omega
  ·exact hk.elim
theorem Has.EL {i j:Nat} {w x:D} {sw s:Nat} {rs vs:List (List D)} {ks:Nat→Prop} (h:Has N S st H) (hij:i≠j) (hi:H[i]?=some (.aD w sw rs)) (hj:H[j]?=some (.deep ks x s vs)) (hp:∀e∈rs,∀d∈e,bK d=true):
  Has N S st ((H.set i .emp).set j (.deep (fun k=>ks k∨w.ref=k+1) x s vs))∧fe st (fun k=>ks k∨w.ref=k+1) w (.sl (rs.map (jn sw))):=by
 have RB:=h.own hi;obtain⟨⟨es,h1,h2⟩,h3⟩:=(h.ok j _ hj).1;have TI:=(h.ok i _ hi).2;have QA:=(h.ok j _ hj).2;have NT:=h.dis i j _ _ hij hi hj;refine⟨⟨h.ex,h.hN,h.eL,fun n e hn=>?_,fun a b ea eb hab ha hb k mD fX=>?_⟩,.aD w sw rs RB hp fun k hk=>.inr hk⟩
 ·by_cases hnj:n=j
  ·subst hnj;rw[List.getElem?_set_self (by rw[List.length_set];exact cQ hj)] at hn;cases hn;refine⟨⟨⟨es,h1,h2.mono fun a b=>cv.mono fun c d=>fe.mono fun k hk=>.inl hk⟩,fun k hk=>?_⟩,fun k hk=>?_⟩
   ·rintro(hk2|hk2)
    ·exact h3 k hk hk2
    ·exact NT k hk2 (.inl hk)
   ·rcases hk with hk|hk|hk
    ·exact QA k (.inl hk)
    ·exact QA k (.inr hk)
    ·exact TI k hk
  ·rw[List.getElem?_set_ne (fun e=>hnj e.symm)] at hn
   by_cases hni:n=i
   ·subst hni;rw[List.getElem?_set_self (cQ hi)] at hn;cases hn;exact⟨trivial,fun k hk=>hk.elim⟩
   ·rw[List.getElem?_set_ne (fun e=>hni e.symm)] at hn;exact h.ok n e hn
 ·have key:∀n e,((H.set i .emp).set j (.deep (fun k=>ks k∨w.ref=k+1) x s vs))[n]?=some e→∀k,e.K k→(n=j∧((bh.deep ks x s vs).K k∨(bh.aD w sw rs).K k))∨(n≠j∧n≠i∧H[n]?=some e):=by
   intro n e hn k hk
   by_cases hnj:n=j
   ·subst hnj;rw[List.getElem?_set_self (by rw[List.length_set];exact cQ hj)] at hn;cases hn;refine .inl ⟨rfl,?_⟩
    rcases hk with hk|hk|hk
    ·exact .inl (.inl hk)
    ·exact .inl (.inr hk)
    ·exact .inr hk
   ·rw[List.getElem?_set_ne (fun e=>hnj e.symm)] at hn
    by_cases hni:n=i
    ·subst hni;rw[List.getElem?_set_self (cQ hi)] at hn;cases hn;exact hk.elim
    ·rw[List.getElem?_set_ne (fun e=>hni e.symm)] at hn;exact .inr ⟨hnj,hni,hn⟩
  rcases key a ea ha k mD with⟨h4,h5⟩|⟨h4,h5,h6⟩<;>rcases key b eb hb k fX with⟨g4,g5⟩|⟨g4,g5,g6⟩
  ·exact hab (h4.trans g4.symm)
  ·rcases h5 with h5|h5
   ·exact h.dis j b _ _ (fun e=>g4 e.symm) hj g6 k h5 fX
   ·exact h.dis i b _ _ (fun e=>g5 e.symm) hi g6 k h5 fX
  ·rcases g5 with g5|g5
   ·exact h.dis a j _ _ h4 h6 hj k mD g5
   ·exact h.dis a i _ _ h5 h6 hi k mD g5
  ·exact h.dis a b _ _ hab h6 g6 k mD fX
theorem Has.pg {P:Pv} {j:Nat} {x y:D} {s:Nat} {ks:Nat→Prop} {vs ys Ji:List (List D)} (hH:Has N S st H) (hj:H[j]?=some (.deep ks x s vs)) (hy:Rows st s y ys) (hd:cv (cv (fe st ks)) ys Ji) {t1 t2 e:TypeId} {td:TypeDesc} {inf:TypeInfo} {z:List D}
  (h1:P.bY t1=some (.slice e)) (h2:P.bY t2=some td) (h3:eT td=false) (h4:P.info e=some inf) (h5:cE P e=some z) (h6:inf.size=s) (h7:z.length=s) (h8:0<inf.bytes∧inf.bytes≤1024)
  (oQ:vs.length+ys.length≤1073741824) (hw:S.flr≤N∨refs ys.flatten=0):
  ∃x' ah,aS P .append [t1,t2] [x,y] st=some (x',ah)∧Has N S ah (H.set j (.deep ks x' s (vs++Ji))):=by
 obtain⟨⟨es,he1,xI⟩,he3⟩:=(hH.ok j _ hj).1;have hK:=(hH.ok j _ hj).2;have hlen:=xI.len
 have Ge:Has N S st [.aD x s es]:=by
  refine⟨hH.ex,hH.hN,hH.eL,fun i e hi=>?_,fun i i' a b hii ha hb k mD fX=>?_⟩
  ·cases i with
   |zero=>simp only[List.getElem?_cons_zero,Option.some.injEq] at hi;subst hi;exact⟨he1,fun k hk=>hK k (.inl hk)⟩
   |succ i=>simp at hi
  ·cases i with
   |zero=>cases i' with
    |zero=>exact hii rfl
    |succ i'=>simp at hb
   |succ i=>simp at ha
 obtain⟨x',ah,q1,q2,q3⟩:=Ge.append (j:=0) aG hy h1 h2 h3 h4 h5 h6 h7 h8 (by omega) hw;refine⟨x',ah,q1,?_⟩;have hown:=q2.own (j:=0) aG
 have NY:(∀k,k<st.bs.length→x.ref≠k+1→ah.bs[k]?=st.bs[k]?)∧st.bs.length≤ah.bs.length∧ah.flr=st.flr∧ah.ro=st.ro∧(∀k,x'.ref=k+1→x.ref=k+1∨st.bs.length≤k):=by
  have gO:=hy.row
  have wL:∀e∈ys,e.length=s:=fun e he=>by
   obtain⟨i,hi⟩:=List.getElem?_of_mem he;exact hy.uS i e hi
  simp only[aS,cN,h1,h2,h3,Bool.false_eq_true,if_false,h4,h5,gO,Option.bind_some] at q1
  split at q1
  ·cases q1
  ·cases he1 with
   |nul=>
    simp only at q1
    split at q1
    ·cases q1;exact⟨fun _ _ _=>rfl,Nat.le_refl _,rfl,rfl,fun k hk=>.inl hk⟩
    ·split at q1
     ·cases q1;exact⟨fun k hk _=>by simp only[St.push];rw[List.getElem?_append_left hk],by simp[St.push],rfl,rfl,fun k hk=>.inr (by simp only[D.ref] at hk;omega)⟩
     ·cases q1
   |win k aq off es c hm hl hc he=>
    simp only[St.mem_of hm] at q1
    split at q1
    ·cases q1
    ·split at q1
     ·cases q1;exact⟨fun _ _ _=>rfl,Nat.le_refl _,rfl,rfl,fun k hk=>.inl hk⟩
     ·split at q1
      ·cases q1;exact⟨fun n hn hne=>by simp only;rw[List.getElem?_set_ne (fun e=>hne (by simp only[D.ref];omega))],by simp,rfl,rfl,fun n hn=>.inl (by simp only[D.ref] at hn⊢;exact hn)⟩
      ·cases q1
 obtain⟨c1,c2,c3,c4,c5⟩:=NY;have Mx:=(q2.ok 0 _ aG).2;have wU:∀k,ks k→ah.bs[k]?=st.bs[k]?:=fun k hk=>c1 k (hK k (.inr hk)).2 fun e=>he3 k e hk;refine hH.zn hj (fun k hk hne=>c1 k hk fun e=>hne (.inl e)) c2 c3 c4 ⟨⟨es++ys,hown,?_⟩,fun k hk sW=>?_⟩ (fun k hk=>?_) fun k hk=>?_
 ·exact(xI.mono fun a b=>cv.mono fun c d=>fe.move wU).append (hd.mono fun a b=>cv.mono fun c d=>fe.move wU)
 ·rcases c5 k hk with h|h
  ·exact he3 k h sW
  ·have:=(hK k (.inr sW)).2;omega
 ·rcases hk with hk|hk
  ·rcases c5 k hk with h|h
   ·exact .inl (.inl h)
   ·exact .inr h
  ·exact .inl (.inr hk)
 ·rcases hk with hk|hk
  ·exact(Mx k hk).2
  ·exact Nat.lt_of_lt_of_le (hK k (.inr hk)).2 c2
theorem ae.pg {P:Pv} {ops:Array Oper} {rest:List Oper} {fr:Fr} {Q:Fr→St→Prop} {ty:TypeId} {pp:String} {a:Array Edge} {g:Option (Nat×Bool)} {dst:Nat} {j:Nat} {x y:D} {s:Nat} {ks:Nat→Prop} {vs ys Ji:List (List D)} {t1 t2 e:TypeId} {td:TypeDesc} {inf:TypeInfo} {z:List D} {xo yo:Operand} {aA:D→Fr} (hH:Has N S st H) (hg:ay ops fr ⟨some dst,.call ⟨.builtin .append,#[xo,yo],#[t1,t2]⟩,ty,pp,a,g⟩=some true)
  (hx:fr.ev xo=x) (hy:fr.ev yo=y) (hj:H[j]?=some (.deep ks x s vs)) (jQ:Rows st s y ys) (hd:cv (cv (fe st ks)) ys Ji)
  (h1:P.bY t1=some (.slice e)) (h2:P.bY t2=some td) (h3:eT td=false) (h4:P.info e=some inf) (h5:cE P e=some z) (h6:inf.size=s) (h7:z.length=s) (h8:0<inf.bytes∧inf.bytes≤1024)
  (hp:∀x',fr.put dst x'=aA x') (hb:vs.length+ys.length≤1073741824) (hw:S.flr≤N∨refs ys.flatten=0)
  (h:∀x' ah,Has N S ah (H.set j (.deep ks x' s (vs++Ji)))→ae P ops rest (aA x') ah Q):
  ae P ops (⟨some dst,.call ⟨.builtin .append,#[xo,yo],#[t1,t2]⟩,ty,pp,a,g⟩::rest) fr st Q:=by
 obtain⟨x',ah,q1,q2⟩:=hH.pg hj jQ hd h1 h2 h3 h4 h5 h6 h7 h8 hb hw;refine ae.go hg rfl (d:=x') (st1:=ah) ?_ (hp _) (h x' ah q2);simp only[dJ,List.map_cons,List.map_nil,hx,hy];exact q1
theorem Has.w8 {j:Nat} {x:D} {s:Nat} {ks:Nat→Prop} {vs:List (List D)} (hH:Has N S st H) (hj:H[j]?=some (.deep ks x s vs)) {n:Nat} (hn:4≤n):aB st N false (n+1) x=some (.sl (vs.map (jn s))):=by
 obtain⟨n,rfl⟩:∃m,n=m+4:=⟨n-4,by omega⟩
 obtain⟨⟨es,h1,h2⟩,h3⟩:=(hH.ok j _ hj).1;have hK:=(hH.ok j _ hj).2
 cases h1 with
 |nul=>cases h2;rfl
 |win k aq off es c hm hl hc he=>
  have hk:=hK k (.inl (by simp only[D.ref]));show(if k<N then some (D.win k aq off es.length s) else cw st N (n+4) (.win k aq off es.length s))=_;rw[if_neg (show¬k<N by omega),cw];simp only[if_neg (show¬k<N by omega),St.mem_of hm,Option.bind_some];rw[if_pos hl,hc,sO (fun a b hab=>hab.pure (fun k hk=>(hK k (.inr hk)).1) (n+1)) h2.flat];simp only[Option.map_some];rw[h2.len,eX (h2.each he)]
theorem Has.mG {j:Nat} {x:D} {s:Nat} {es:List (List D)} (hH:Has N S st H) (hj:H[j]?=some (.aD x s es)) (hp:∀e∈es,∀d∈e,bK d=true) {n:Nat} (hn:3≤n):aB st N false n x=some (.sl (es.map (jn s))):=by
 obtain⟨n,rfl⟩:∃m,n=m+1:=⟨n-1,by omega⟩
 exact hH.freeze hj hp (by omega)
theorem Has.cB {P:Pv} {fr:Fr} {a k aq off j:Nat} {t:TypeId} {ar:Bool} {c:List D} {d:D} (hH:Has N S st H) (ha:fr.get a=.ptr k aq off) (hj:H[j]?=some (.box k (.mem aq ar c))) (hd:cU P t (c.drop off)=some d):iL P fr st [.cell a t]=some [d]:=by
 simp only[iL,fv,ha,St.mem_of (hH.at hj),Option.bind_some,hd,Option.map_some]
theorem fF.cells {s:Nat} {x:D} {es:List (List D)} (h:fF st s x es):x.cells?=some [x]:=by cases h<;>rfl
theorem Has.lR {j:Nat} {x:D} {s:Nat} {ks:Nat→Prop} {vs:List (List D)} (hH:Has N S st H) (hj:H[j]?=some (.deep ks x s vs)):x.cells?=some [x]:=by
 obtain⟨⟨es,h1,_⟩,_⟩:=(hH.ok j _ hj).1;exact h1.cells
theorem Has.eO {j:Nat} {x:D} {s:Nat} {es:List (List D)} (hH:Has N S st H) (hj:H[j]?=some (.aD x s es)):x.cells?=some [x]:=(hH.own hj).cells
def yX (fr:Fr):List (Nat×Operand)→List (Nat×D)→Prop
 |[],[]=>True
 |(i,o)::ps,(j,d)::qs=>i=j∧fr.ev o=d∧d.cells?=some [d]∧yX fr ps qs
 |_,_=>False
theorem tc {fr:Fr} {pl:Nat→Option (Nat×Nat)}:∀{ps:List (Nat×Operand)} {qs:List (Nat×D)} {z:List D},yX fr ps qs→(∀q∈qs,pl q.1=some (q.1,1)∧q.1<z.length)→gK pl z (ps.map fun p=>(p.1,fr.ev p.2))=some (qs.foldl (fun l q=>l.set q.1 q.2) z)
 |[],[],z,_,_=>rfl
 |(i,o)::ps,(j,d)::qs,z,h,hp=>by
  obtain⟨rfl,h2,h3,h4⟩:=h;obtain⟨h5,h6⟩:=hp (i,d) (List.mem_cons_self ..);simp only[List.map_cons,gK,h2,h3,h5,List.foldl_cons];rw[if_neg (by simp only[List.length_cons,List.length_nil];simp only at h6;omega)];simp only[setMany]
  exact tc h4 fun q hq=>by
   have:=hp q (List.mem_cons_of_mem _ hq)
   simpa using this
 |[],_::_,_,h,_=>h.elim
 |_::_,[],_,h,_=>h.elim
theorem ae.gE {P:Pv} {ops:Array Oper} {rest:List Oper} {fr aA:Fr} {Q:Fr→St→Prop} {ty:TypeId} {pp:String} {a:Array Edge} {g:Option (Nat×Bool)} {dst:Nat} {t:TypeId} {parts:Array (Nat×Operand)} {z cs:List D} {fields:Array Field} {ps:List (Nat×Nat)} {qs:List (Nat×D)} (hg:ay ops fr ⟨some dst,.build t parts,ty,pp,a,g⟩=some true) (hz:cE P t=some z) (hu:P.bY t=some (.struct fields)) (Ca:kD P fields.toList=some ps) (he:yX fr parts.toList qs) (ka:∀q∈qs,ps[q.1]?=some (q.1,1)∧q.1<z.length) (hcs:qs.foldl (fun l q=>l.set q.1 q.2) z=cs) (hp:fr.put dst (.agg cs)=aA)
  (h:ae P ops rest aA st Q):ae P ops (⟨some dst,.build t parts,ty,pp,a,g⟩::rest) fr st Q:=by
 refine ae.go hg rfl (d:=.agg cs) (st1:=st) ?_ hp h;simp only[dJ,lS,hz,hu,Ca];rw[tc (pl:=fun i=>ps[i]?) he ka,hcs];rfl
theorem Has.vK {P:Pv} {fr:Fr} {a k aq off j u:Nat} {t:TypeId} {ar:Bool} {c:List D} {d e:D} (hH:Has N S st H) (ha:fr.get a=.ptr k aq off) (hj:H[j]?=some (.box k (.mem aq ar c))) (hd:cU P t (c.drop off)=some d) (he:fr.get u=e):iL P fr st [.cell a t,.tmp u]=some [d,e]:=by
 simp only[iL,fv,ha,St.mem_of (hH.at hj),Option.bind_some,hd,Option.map_some,he]
theorem ae.KQ {P:Pv} {ops:Array Oper} {rest:List Oper} {fr aA:Fr} {Q:Fr→St→Prop} {ty:TypeId} {pp:String} {a:Array Edge} {g:Option (Nat×Bool)} {dst:Nat} {t e:TypeId} {xo io:Operand} {k v off m s o:Nat} {kk:IntKind} {i:Nat} (hg:ay ops fr ⟨some dst,.indexAddr t xo io,ty,pp,a,g⟩=some true) (hx:fr.ev xo=.ptr k v off) (hi:fr.ev io=.int kk (i:Nat)) (ht:P.bY t=some (.array m e)) (hs:bG P e=some s) (hlt:i<m) (ho:off+i*s=o) (hp:fr.put dst (.ptr k v o)=aA)
  (h:ae P ops rest aA st Q):ae P ops (⟨some dst,.indexAddr t xo io,ty,pp,a,g⟩::rest) fr st Q:=by
 subst ho;refine ae.go hg rfl (d:=.ptr k v (off+i*s)) (st1:=st) ?_ hp h;simp only[dJ,hx,hi,bB,ht,hs,Option.bind_some];rw[if_pos ⟨by omega,by omega⟩];rfl
end Go.V
namespace Go.V
variable{P:Pv} {ops:Array Oper} {rest:List Oper} {fr aA:Fr} {st st1:St} {Q:Fr→St→Prop} {ty:TypeId} {pp:String} {a:Array Edge} {g:Option (Nat×Bool)} {dst:Nat} {N:Nat} {S:St} {H:List bh} {d:D} {op:Op}
theorem qm {op:Op} {x:Operand} {d:D} (h:ae P ops rest aA st Q) (hop:op=.move x∨op=.assign x:=by first|exact .inl rfl|exact .inr rfl) (hg:ay ops fr ⟨some dst,op,ty,pp,a,g⟩=some true:=by exact rfl) (hx:fr.ev x=d:=by exact ev rfl) (hp:fr.put dst d=aA:=by first|exact aa rfl _|(dsimp only[Fr.put,List.set_cons_succ,List.set_cons_zero]<;>rfl)):ae P ops (⟨some dst,op,ty,pp,a,g⟩::rest) fr st Q:=
 ae.mv (hop:=hop) (hg:=hg) (hx:=hx) (hp:=hp) (h:=h)
theorem qs {op:Op} (h:ae P ops rest aA st Q) (hg:ay ops fr ⟨some dst,op,ty,pp,a,g⟩=some false:=by exact rfl) (hp:fr.put dst (.tup [])=aA:=by first|exact aa rfl _|(dsimp only[Fr.put,List.set_cons_succ,List.set_cons_zero]<;>rfl)):ae P ops (⟨some dst,op,ty,pp,a,g⟩::rest) fr st Q:=
 ae.skip (hg:=hg) (hp:=hp) (h:=h)
theorem qp {t:TypeId} {xo:Operand} {k aq off o f fo m:Nat} {fields:Array Field} (h:ae P ops rest aA st Q) (hg:ay ops fr ⟨some dst,.fieldAddr t xo f,ty,pp,a,g⟩=some true:=by exact rfl) (hx:fr.ev xo=.ptr k aq off:=by exact ev rfl) (ht:P.bY t=some (.struct fields):=by exact rfl) (hf:kg P fields f=some (fo,some (m+1)):=by exact rfl) (ho:off+fo=o:=by exact rfl) (hp:fr.put dst (.ptr k aq o)=aA:=by first|exact aa rfl _|(dsimp only[Fr.put,List.set_cons_succ,List.set_cons_zero]<;>rfl)):ae P ops (⟨some dst,.fieldAddr t xo f,ty,pp,a,g⟩::rest) fr st Q:=
 ae.lC (hg:=hg) (hx:=hx) (ht:=ht) (hf:=hf) (ho:=ho) (hp:=hp) (h:=h)
theorem ql {j k aq off:Nat} {ar:Bool} {c:List D} {d:D} {t:TypeId} {ao:Operand} (hH:Has N S st H) (hj:H[j]?=some (.box k (.mem aq ar c))) (h:ae P ops rest aA st Q) (hg:ay ops fr ⟨some dst,.load t ao,ty,pp,a,g⟩=some true:=by exact rfl) (ha:fr.ev ao=.ptr k aq off:=by exact ev rfl) (hd:cU P t (c.drop off)=some d:=by exact rfl) (hp:fr.put dst d=aA:=by first|exact aa rfl _|(dsimp only[Fr.put,List.set_cons_succ,List.set_cons_zero]<;>rfl)):ae P ops (⟨some dst,.load t ao,ty,pp,a,g⟩::rest) fr st Q:=
 ae.ib (hH:=hH) (hg:=hg) (ha:=ha) (hj:=hj) (hd:=hd) (hp:=hp) (h:=h)
theorem qg {op:Op} {d:D} {st1:St} (h:ae P ops rest aA st1 Q) (hg:ay ops fr ⟨some dst,op,ty,pp,a,g⟩=some true:=by exact rfl) (hc:h_ op=false:=by exact rfl) (h1:dJ P fr st op ty=some (d,st1):=by exact rfl) (hp:fr.put dst d=aA:=by first|exact aa rfl _|(dsimp only[Fr.put,List.set_cons_succ,List.set_cons_zero]<;>rfl)):ae P ops (⟨some dst,op,ty,pp,a,g⟩::rest) fr st Q:=
 ae.go (hg:=hg) (hc:=hc) (h1:=h1) (hp:=hp) (h:=h)
theorem qn {t e:TypeId} {xo:Operand} {x:D} {s:Nat} {es:List (List D)} (h:ae P ops rest aA st Q) (hg:ay ops fr ⟨some dst,.call ⟨.builtin .len,#[xo],#[t]⟩,ty,pp,a,g⟩=some true:=by exact rfl) (hx:fr.ev xo=x:=by exact ev rfl) (hR:Rows st s x es:=by exact Arg.rows (by assumption) (by assumption)) (ht:P.bY t=some (.slice e):=by exact rfl) (hp:fr.put dst (.int .i64 (es.length:Nat))=aA:=by first|exact aa rfl _|(dsimp only[Fr.put,List.set_cons_succ,List.set_cons_zero]<;>rfl)):ae P ops (⟨some dst,.call ⟨.builtin .len,#[xo],#[t]⟩,ty,pp,a,g⟩::rest) fr st Q:=
 ae.iZ (hg:=hg) (hx:=hx) (hR:=hR) (ht:=ht) (hp:=hp) (h:=h)
theorem qr {t e:TypeId} {xo io:Operand} {x:D} {s i:Nat} {kk:IntKind} {es:List (List D)} {r:List D} {aA:D→Fr} (h:∀p,jl st p r→ae P ops rest (aA p) st Q) (hg:ay ops fr ⟨some dst,.indexAddr t xo io,ty,pp,a,g⟩=some true:=by exact rfl) (hx:fr.ev xo=x:=by exact ev rfl) (hi:fr.ev io=.int kk (i:Nat):=by exact ev rfl) (hR:Rows st s x es:=by exact Arg.rows (by assumption) (by assumption)) (ht:P.bY t=some (.slice e):=by exact rfl) (hs:bG P e=some s:=by exact rfl) (hr:es[i]?=some r:=by assumption) (hp:∀p,fr.put dst p=aA p:=by first|exact fun _=>aa rfl _|exact fun _=>by dsimp only[Fr.put,List.set_cons_succ,List.set_cons_zero]<;>rfl):ae P ops (⟨some dst,.indexAddr t xo io,ty,pp,a,g⟩::rest) fr st Q:=
 ae.vI (hg:=hg) (hx:=hx) (hi:=hi) (hR:=hR) (ht:=ht) (hs:=hs) (hr:=hr) (hp:=hp) (h:=h)
theorem qR {t:TypeId} {ao:Operand} {x d:D} {r:List D} (h:ae P ops rest aA st Q) (hg:ay ops fr ⟨some dst,.load t ao,ty,pp,a,g⟩=some true:=by exact rfl) (ha:fr.ev ao=x:=by exact ev rfl) (hR:jl st x r:=by assumption) (hd:cU P t r=some d:=by exact rfl) (hp:fr.put dst d=aA:=by first|exact aa rfl _|(dsimp only[Fr.put,List.set_cons_succ,List.set_cons_zero]<;>rfl)):ae P ops (⟨some dst,.load t ao,ty,pp,a,g⟩::rest) fr st Q:=
 ae.gY (hg:=hg) (ha:=ha) (hR:=hR) (hd:=hd) (hp:=hp) (h:=h)
theorem qf {t:TypeId} {xo:Operand} {x:D} {r:List D} {f fo m:Nat} {fields:Array Field} {aA:D→Fr} (h:∀p,jl st p (r.drop fo)→ae P ops rest (aA p) st Q) (hg:ay ops fr ⟨some dst,.fieldAddr t xo f,ty,pp,a,g⟩=some true:=by exact rfl) (hx:fr.ev xo=x:=by exact ev rfl) (hR:jl st x r:=by assumption) (ht:P.bY t=some (.struct fields):=by exact rfl) (hf:kg P fields f=some (fo,some (m+1)):=by exact rfl) (hp:∀p,fr.put dst p=aA p:=by first|exact fun _=>aa rfl _|exact fun _=>by dsimp only[Fr.put,List.set_cons_succ,List.set_cons_zero]<;>rfl):ae P ops (⟨some dst,.fieldAddr t xo f,ty,pp,a,g⟩::rest) fr st Q:=
 ae.kz (hg:=hg) (hx:=hx) (hR:=hR) (ht:=ht) (hf:=hf) (hp:=hp) (h:=h)
theorem qi {t e:TypeId} {xo io:Operand} {x:D} {s i j:Nat} {kk:IntKind} {es:List (List D)} {aA:D→Fr} (hH:Has N S st H) (hj:H[j]?=some (.aD x s es)) (h:∀p,nX x s i 0 p→ae P ops rest (aA p) st Q) (hg:ay ops fr ⟨some dst,.indexAddr t xo io,ty,pp,a,g⟩=some true:=by exact rfl) (hx:fr.ev xo=x:=by exact ev rfl) (hi:fr.ev io=.int kk (i:Nat):=by exact ev rfl) (ht:P.bY t=some (.slice e):=by exact rfl) (hs:bG P e=some s:=by exact rfl) (hr:i<es.length:=by exact cQ (by assumption)) (hp:∀p,fr.put dst p=aA p:=by first|exact fun _=>aa rfl _|exact fun _=>by dsimp only[Fr.put,List.set_cons_succ,List.set_cons_zero]<;>rfl):ae P ops (⟨some dst,.indexAddr t xo io,ty,pp,a,g⟩::rest) fr st Q:=
 ae.wb (hH:=hH) (hg:=hg) (hx:=hx) (hi:=hi) (hj:=hj) (ht:=ht) (hs:=hs) (hr:=hr) (hp:=hp) (h:=h)
theorem qo {t:TypeId} {ao:Operand} {x y d:D} {s i o j:Nat} {es:List (List D)} {r:List D} (hH:Has N S st H) (hj:H[j]?=some (.aD x s es)) (h:ae P ops rest aA st Q) (hg:ay ops fr ⟨some dst,.load t ao,ty,pp,a,g⟩=some true:=by exact rfl) (ha:fr.ev ao=y:=by exact ev rfl) (hR:nX x s i o y:=by assumption) (hr:es[i]?=some r:=by assumption) (hd:cU P t (r.drop o)=some d:=by exact rfl) (hp:fr.put dst d=aA:=by first|exact aa rfl _|(dsimp only[Fr.put,List.set_cons_succ,List.set_cons_zero]<;>rfl)):ae P ops (⟨some dst,.load t ao,ty,pp,a,g⟩::rest) fr st Q:=
 ae.hU (hH:=hH) (hg:=hg) (ha:=ha) (hR:=hR) (hj:=hj) (hr:=hr) (hd:=hd) (hp:=hp) (h:=h)
theorem qS {j k aq:Nat} {ar:Bool} {c cs:List D} {v:D} {t:TypeId} {ao vo:Operand} (hH:Has N S st H) (hj:H[j]?=some (.box k (.mem aq ar c))) (h:∀ah,Has N S ah (H.set j (.box k (.mem aq ar cs)))→ae P ops rest fr ah Q) (hg:ay ops fr ⟨none,.store t ao vo,ty,pp,a,g⟩=some true:=by exact rfl) (ha:fr.ev ao=.ptr k aq 0:=by exact ev rfl) (hv:fr.ev vo=v:=by exact ev rfl) (hcs:v.cells?=some cs:=by first|rfl|exact(eZ.cells (by assumption)).1) (hs:bG P t=some cs.length:=by exact rfl) (hl:cs.length=c.length:=by exact rfl) (hw:S.flr≤N∨refs cs=0:=by first|exact .inl (by assumption)|exact .inr rfl):ae P ops (⟨none,.store t ao vo,ty,pp,a,g⟩::rest) fr st Q:=
 ae.bP (hH:=hH) (hg:=hg) (ha:=ha) (hv:=hv) (hcs:=hcs) (hs:=hs) (hj:=hj) (hl:=hl) (hw:=hw) (h:=h)
theorem qT {j k aq off:Nat} {ar:Bool} {c cs:List D} {v:D} {t:TypeId} {ao vo:Operand} (hH:Has N S st H) (hj:H[j]?=some (.box k (.mem aq ar c))) (h:∀ah,Has N S ah (H.set j (.box k (.mem aq ar (setMany c off cs))))→ae P ops rest fr ah Q) (hg:ay ops fr ⟨none,.store t ao vo,ty,pp,a,g⟩=some true:=by exact rfl) (ha:fr.ev ao=.ptr k aq off:=by exact ev rfl) (hv:fr.ev vo=v:=by exact ev rfl) (hcs:v.cells?=some cs:=by first|rfl|exact(eZ.cells (by assumption)).1) (hs:bG P t=some cs.length:=by exact rfl) (hl:off+cs.length≤c.length:=by exact Nat.le_of_ble_eq_true rfl) (hw:S.flr≤N∨refs cs=0:=by first|exact .inl (by assumption)|exact .inr rfl):ae P ops (⟨none,.store t ao vo,ty,pp,a,g⟩::rest) fr st Q:=
 ae.uz (hH:=hH) (hg:=hg) (ha:=ha) (hv:=hv) (hcs:=hcs) (hs:=hs) (hj:=hj) (hl:=hl) (hw:=hw) (h:=h)
theorem qa {e:TypeId} {cs:List D} {aA:Nat→Fr} (hH:Has N S st H) (h:∀k ah,S.bs.length≤k→Has N S ah (.box k (.mem 0 false cs)::H)→ae P ops rest (aA k) ah Q) (hg:ay ops fr ⟨some dst,.alloc e,ty,pp,a,g⟩=some true:=by exact rfl) (hz:cE P e=some cs:=by exact rfl) (hp:∀k,fr.put dst (.ptr k 0 0)=aA k:=by first|exact fun _=>aa rfl _|exact fun _=>by dsimp only[Fr.put,List.set_cons_succ,List.set_cons_zero]<;>rfl):ae P ops (⟨some dst,.alloc e,ty,pp,a,g⟩::rest) fr st Q:=
 ae.yT (hH:=hH) (hg:=hg) (hz:=hz) (hp:=hp) (h:=h)
theorem qb {e:TypeId} {xo:Operand} {cs:List D} {aA:Nat→Fr} (hH:Has N S st H) (h:∀k ah,S.bs.length≤k→Has N S ah (.box k (.mem 0 false cs)::H)→ae P ops rest (aA k) ah Q) (hg:ay ops fr ⟨some dst,.box e xo,ty,pp,a,g⟩=some true:=by exact rfl) (hz:(fr.ev xo).cells?=some cs:=by exact rfl) (hp:∀k,fr.put dst (.ptr k 0 0)=aA k:=by first|exact fun _=>aa rfl _|exact fun _=>by dsimp only[Fr.put,List.set_cons_succ,List.set_cons_zero]<;>rfl):ae P ops (⟨some dst,.box e xo,ty,pp,a,g⟩::rest) fr st Q:=
 ae.BD (hH:=hH) (hg:=hg) (hz:=hz) (hp:=hp) (h:=h)
theorem qA {t nZ:TypeId} {xo yo:Operand} {x y:Int} (h:ae P ops rest aA st Q) (hg:ay ops fr ⟨some dst,.binOp .add t xo yo nZ,ty,pp,a,g⟩=some true:=by exact rfl) (hx:fr.ev xo=.int .i64 x:=by exact ev rfl) (hy:fr.ev yo=.int .i64 y:=by exact ev rfl) (h1:-9223372036854775808≤x+y:=by omega) (h2:x+y≤9223372036854775807:=by omega) (hp:fr.put dst (.int .i64 (x+y))=aA:=by first|exact aa rfl _|(dsimp only[Fr.put,List.set_cons_succ,List.set_cons_zero]<;>rfl)):ae P ops (⟨some dst,.binOp .add t xo yo nZ,ty,pp,a,g⟩::rest) fr st Q:=
 ae.IU (hg:=hg) (hx:=hx) (hy:=hy) (h1:=h1) (h2:=h2) (hp:=hp) (h:=h)
theorem qP {j:Nat} {x y:D} {s:Nat} {es ys:List (List D)} {t1 t2 e:TypeId} {td:TypeDesc} {inf:TypeInfo} {z:List D} {xo yo:Operand} {aA:D→Fr} (hH:Has N S st H) (hj:H[j]?=some (.aD x s es)) (jQ:Rows st s y ys) (h:∀x' ah,Has N S ah (H.set j (.aD x' s (es++ys)))→ae P ops rest (aA x') ah Q) (hg:ay ops fr ⟨some dst,.call ⟨.builtin .append,#[xo,yo],#[t1,t2]⟩,ty,pp,a,g⟩=some true:=by exact rfl) (hx:fr.ev xo=x:=by exact ev rfl) (hy:fr.ev yo=y:=by exact ev rfl) (h1:P.bY t1=some (.slice e):=by exact rfl) (h2:P.bY t2=some td:=by exact rfl) (h3:eT td=false:=by exact rfl) (h4:P.info e=some inf:=by exact rfl) (h5:cE P e=some z:=by exact rfl) (h6:inf.size=s:=by exact rfl) (h7:z.length=s:=by exact rfl) (h8:0<inf.bytes∧inf.bytes≤1024:=by exact⟨Nat.le_of_ble_eq_true rfl,Nat.le_of_ble_eq_true rfl⟩) (hp:∀x',fr.put dst x'=aA x':=by first|exact fun _=>aa rfl _|exact fun _=>by dsimp only[Fr.put,List.set_cons_succ,List.set_cons_zero]<;>rfl) (hb:es.length+ys.length≤1073741824:=by first|omega|(simp only[List.length_append,List.length_cons,List.length_nil,List.length_map,List.length_replicate,List.length_set,List.length_reverse]<;>omega)) (hw:S.flr≤N∨refs ys.flatten=0:=by first|exact .inl (by assumption)|exact .inr rfl):ae P ops (⟨some dst,.call ⟨.builtin .append,#[xo,yo],#[t1,t2]⟩,ty,pp,a,g⟩::rest) fr st Q:=
 ae.dh (hH:=hH) (hg:=hg) (hx:=hx) (hy:=hy) (hj:=hj) (jQ:=jQ) (h1:=h1) (h2:=h2) (h3:=h3) (h4:=h4) (h5:=h5) (h6:=h6) (h7:=h7) (h8:=h8) (hp:=hp) (hb:=hb) (hw:=hw) (h:=h)
theorem qh {t e:TypeId} {m s:Nat} {parts:Array (Nat×Operand)} {z:List D} {vs:List D} {aA:Nat→Fr} (hH:Has N S st H) (h:∀k ah,S.bs.length≤k→Has N S ah (.aD (.win k 0 0 m s) s (vs.map D.cells)::H)→ae P ops rest (aA k) ah Q) (hg:ay ops fr ⟨some dst,.buildSlice t m parts,ty,pp,a,g⟩=some true:=by exact rfl) (ht:P.bY t=some (.slice e):=by exact rfl) (hs:bG P e=some s:=by exact rfl) (hz:cE P e=some z:=by exact rfl) (jJ:z.length=s:=by exact rfl) (hm:m*s≤16777216:=by exact Nat.le_of_ble_eq_true rfl) (Ls:Ap fr 0 parts.toList vs:=by first|exact⟨rfl,ev rfl,trivial⟩|exact⟨rfl,ev rfl,rfl,ev rfl,trivial⟩|exact⟨rfl,ev rfl,rfl,ev rfl,rfl,ev rfl,trivial⟩|exact⟨rfl,ev rfl,rfl,ev rfl,rfl,ev rfl,rfl,ev rfl,trivial⟩|exact⟨rfl,ev rfl,rfl,ev rfl,rfl,ev rfl,rfl,ev rfl,rfl,ev rfl,trivial⟩) (hvl:vs.length=m:=by exact rfl) (hc:∀v∈vs,v.cells?=some v.cells∧v.cells.length=s:=by intro v hv;simp only[List.mem_cons,List.not_mem_nil,or_false] at hv;first|(subst hv;exact⟨rfl,rfl⟩)|(rcases hv with rfl|rfl<;>exact⟨rfl,rfl⟩)|(rcases hv with rfl|rfl|rfl<;>exact⟨rfl,rfl⟩)|(rcases hv with rfl|rfl|rfl|rfl<;>exact⟨rfl,rfl⟩)|(rcases hv with rfl|rfl|rfl|rfl|rfl<;>exact⟨rfl,rfl⟩)) (hp:∀k,fr.put dst (.win k 0 0 m s)=aA k:=by first|exact fun _=>aa rfl _|exact fun _=>by dsimp only[Fr.put,List.set_cons_succ,List.set_cons_zero]<;>rfl):ae P ops (⟨some dst,.buildSlice t m parts,ty,pp,a,g⟩::rest) fr st Q:=
 ae.GW (hH:=hH) (hg:=hg) (ht:=ht) (hs:=hs) (hz:=hz) (jJ:=jJ) (hm:=hm) (Ls:=Ls) (hvl:=hvl) (hc:=hc) (hp:=hp) (h:=h)
theorem qv {f:Operand} {gn:Nat} {eI:List D} {args:Array Operand} {vj:Array TypeId} {d:D} {st1:St} (h1:Ev P gn (args.toList.map fr.ev++eI) st d st1) (h:ae P ops rest aA st1 Q) (hg:ay ops fr ⟨some dst,.call ⟨.value f,args,vj⟩,ty,pp,a,g⟩=some true:=by exact rfl) (hf:fr.ev f=.fn gn eI:=by exact rfl) (hp:fr.put dst d=aA:=by first|exact aa rfl _|(dsimp only[Fr.put,List.set_cons_succ,List.set_cons_zero]<;>rfl)):ae P ops (⟨some dst,.call ⟨.value f,args,vj⟩,ty,pp,a,g⟩::rest) fr st Q:=
 ae.dz (hg:=hg) (hf:=hf) (h1:=h1) (hp:=hp) (h:=h)
theorem qt {c x y:Operand} {v:Bool} (hv:v=true) (h:ae P ops rest aA st Q) (hg:ay ops fr ⟨some dst,.pick c x y,ty,pp,a,g⟩=some true:=by exact rfl) (hc:fr.ev c=.bool v:=by exact rfl) (hp:fr.put dst (fr.ev x)=aA:=by first|exact aa rfl _|(dsimp only[Fr.put,List.set_cons_succ,List.set_cons_zero]<;>rfl)):ae P ops (⟨some dst,.pick c x y,ty,pp,a,g⟩::rest) fr st Q:=
 ae.cF (hg:=hg) (hc:=hc) (hv:=hv) (hp:=hp) (h:=h)
theorem qu {c x y:Operand} {v:Bool} (hv:v=false) (h:ae P ops rest aA st Q) (hg:ay ops fr ⟨some dst,.pick c x y,ty,pp,a,g⟩=some true:=by exact rfl) (hc:fr.ev c=.bool v:=by exact rfl) (hp:fr.put dst (fr.ev y)=aA:=by first|exact aa rfl _|(dsimp only[Fr.put,List.set_cons_succ,List.set_cons_zero]<;>rfl)):ae P ops (⟨some dst,.pick c x y,ty,pp,a,g⟩::rest) fr st Q:=
 ae.cp (hg:=hg) (hc:=hc) (hv:=hv) (hp:=hp) (h:=h)
theorem wi {ops:Array Oper} {fr:Fr} {o:Oper} {j t:Nat} {w v:Bool} (h4:v=w) (h1:o.guard=some (j,w):=by exact rfl) (h2:(ops[j]?).bind (·.dst)=some t:=by exact rfl) (h3:fr.get t=.bool v:=by exact rfl):ay ops fr o=some true:=aj h1 h2 h3 h4
theorem wn {ops:Array Oper} {fr:Fr} {o:Oper} {j t:Nat} {w v:Bool} (h4:v=!w) (h1:o.guard=some (j,w):=by exact rfl) (h2:(ops[j]?).bind (·.dst)=some t:=by exact rfl) (h3:fr.get t=.bool v:=by exact rfl):ay ops fr o=some false:=cn h1 h2 h3 h4
theorem qc {dy:Dy} {c:Operand} {a b:Code} {v:Bool} {Q:Out→Fr→St→Prop} (h1:v=true→ag P dy a fr st Q) (h2:v=false→ag P dy b fr st Q) (hv:fr.ev c=.bool v:=by first|rfl|assumption):ag P dy (.cond c a b) fr st Q:=ag.cond hv h1 h2
theorem qq {dy:Dy} {a b:Code} {Q:Out→Fr→St→Prop} (h:ag P dy a fr st (bf P dy b Q)):ag P dy (.seq a b) fr st Q:=ag.seq h
theorem qj {dy:Dy} {i:Nat} {l:List Oper} {d:Bool} {n:Nat} {loc:List D} {tmp:List (Nat×D)} {Q:Out→Fr→St→Prop} (h:∀K:Out→Fr→St→Prop,Q=K→ae P l.toArray l ⟨n,loc,[]⟩ st (K .next)) (h0:fU i dy=[]:=by rfl):ag P dy (.region i l.toArray d) ⟨n,loc,tmp⟩ st Q:=ag.dD (h Q rfl) h0
theorem qe {Q K:Out→Fr→St→Prop} (hK:Q=K) (h:Q .next fr st):ae P ops [] fr st (K .next):=ae.nil (hK▸h)
theorem qB {dy:Dy} {c:Operand} {a b:Code} {Q:Out→Fr→St→Prop} (h1:ag P dy a fr st Q) (hv:fr.ev c=.bool true:=by first|rfl|assumption):ag P dy (.cond c a b) fr st Q:=ag.cond hv (fun _=>h1) (fun h=>by cases h)
theorem qC {dy:Dy} {c:Operand} {a b:Code} {Q:Out→Fr→St→Prop} (h1:ag P dy b fr st Q) (hv:fr.ev c=.bool false:=by first|rfl|assumption):ag P dy (.cond c a b) fr st Q:=ag.cond hv (fun h=>by cases h) (fun _=>h1)
theorem qD {dy:Dy} {c:Operand} {a b:Code} {v:Bool} {Q:Out→Fr→St→Prop} (hv:fr.ev c=.bool v) (hb:v=true) (h1:ag P dy a fr st Q):ag P dy (.cond c a b) fr st Q:=ag.cond hv (fun _=>h1) (fun h=>by rw[hb] at h;cases h)
theorem qE {dy:Dy} {c:Operand} {a b:Code} {v:Bool} {Q:Out→Fr→St→Prop} (hv:fr.ev c=.bool v) (hb:v=false) (h1:ag P dy b fr st Q):ag P dy (.cond c a b) fr st Q:=ag.cond hv (fun h=>by rw[hb] at h;cases h) (fun _=>h1)
theorem rx:∀i:Nat,Out.ret≠Out.exit i:=fun i h=>by cases h
theorem rl {S:St} {H:List bh} {kn:Bool} {st1:St} {d d':D} (hS:S.bs=st.bs) (hH:Has st.bs.length S st1 H) (hd:aB st1 st.bs.length kn 16 d=some d'):cK .ro kn st st1 d=some (d',st):=je (by simp) hS hH hd
theorem ri (s0:St):(ai .ro s0).bs=s0.bs∧(ai .ro s0).flr≤s0.bs.length∧Has s0.bs.length (ai .ro s0) (ai .ro s0) []:=⟨rfl,Nat.le_refl _,Has.start (Nat.le_refl _) (Nat.le_refl _)⟩
theorem w1 {α:Type} {n:Nat} {a:α}:List.replicate (n+1) a=a::List.replicate n a:=rfl
theorem w2 {α:Type} {a:α}:List.replicate 0 a=[]:=rfl
theorem qy {dy:Dy} {a:Code} {Q:Out→Fr→St→Prop} (h:ag P dy a fr st Q):ag P dy a fr st Q:=h
theorem u1 {α:Type} {x:α} {l:List α} {n:Nat} {a:α}:(x::l).set (n+1) a=x::l.set n a:=rfl
theorem u2 {α:Type} {x:α} {l:List α} {a:α}:(x::l).set 0 a=a::l:=rfl
theorem u3 {α:Type} {x:α} {l m:List α}:(x::l)++m=x::(l++m):=rfl
theorem u4 {α:Type} {m:List α}:([]:List α)++m=m:=rfl
theorem u5 {α β:Type} {f:α→β} {x:α} {l:List α}:(x::l).map f=f x::l.map f:=rfl
theorem u6 {α β:Type} {f:α→β}:([]:List α).map f=[]:=rfl
theorem v1 (k:IntKind) (n:Int):jG (.int k n)=.int k n:=rfl
theorem v2 (b:Bool):jG (.bool b)=.bool b:=rfl
theorem v3 (s:ByteArray):jG (.string s)=.str s.data.toList:=rfl
theorem v4:jG (.slice none 0 0)=.nul:=rfl
theorem v5:jG (.pointer none)=.pnil:=rfl
theorem v6:jG .nilFunc=.nilfn:=rfl
theorem v7:jG .nilIface=.nilif:=rfl
theorem cs:(∀(p:Prop) [Decidable p],(decide p=true)=p)∧(∀(p:Prop) [Decidable p],(decide p=false)=¬p)∧(∀(α:Type) [BEq α] [LawfulBEq α] (a b:α),((a==b)=true)=(a=b))∧(∀(α:Type) [BEq α] [LawfulBEq α] (a b:α),((a==b)=false)=¬a=b)∧(∀(α:Type) [BEq α] [LawfulBEq α] (a b:α),((a !=b)=true)=¬a=b)∧(∀(α:Type) [BEq α] [LawfulBEq α] (a b:α),((a !=b)=false)=(a=b))∧(∀b:Bool,((!b)=true)=(b=false))∧(∀b:Bool,((!b)=false)=(b=true))∧(∀b:Bool,(¬b=true)=(b=false))∧(∀b:Bool,(¬b=false)=(b=true)):=by
 refine⟨fun p _=>by simp,fun p _=>by simp,fun α _ _ a b=>by simp,fun α _ _ a b=>by simp,fun α _ _ a b=>by simp,fun α _ _ a b=>by simp,fun b=>by simp,fun b=>by simp,fun b=>by simp,fun b=>by simp⟩
theorem xT {n t:Nat} {loc:List D} {tmp:List (Nat×D)} (h:ae P ops rest ⟨n,loc,(t,d)::tmp⟩ st1 Q) (hb:Nat.ble n t=true:=by exact rfl) (hg:ay ops ⟨n,loc,tmp⟩ ⟨some t,op,ty,pp,a,g⟩=some true:=by exact rfl) (hc:h_ op=false:=by exact rfl) (h1:dJ P ⟨n,loc,tmp⟩ st op ty=some (d,st1):=by exact rfl):ae P ops (⟨some t,op,ty,pp,a,g⟩::rest) ⟨n,loc,tmp⟩ st Q:=ae.T hb hg hc h1 h
theorem xL {n t:Nat} {loc:List D} {tmp:List (Nat×D)} (h:ae P ops rest ⟨n,loc.set t d,tmp⟩ st1 Q) (hb:Nat.ble n t=false:=by exact rfl) (hg:ay ops ⟨n,loc,tmp⟩ ⟨some t,op,ty,pp,a,g⟩=some true:=by exact rfl) (hc:h_ op=false:=by exact rfl) (h1:dJ P ⟨n,loc,tmp⟩ st op ty=some (d,st1):=by exact rfl):ae P ops (⟨some t,op,ty,pp,a,g⟩::rest) ⟨n,loc,tmp⟩ st Q:=ae.L hb hg hc h1 h
theorem xN (h:ae P ops rest fr st1 Q) (hg:ay ops fr ⟨none,op,ty,pp,a,g⟩=some true:=by exact rfl) (hc:h_ op=false:=by exact rfl) (h1:dJ P fr st op ty=some (d,st1):=by exact rfl):ae P ops (⟨none,op,ty,pp,a,g⟩::rest) fr st Q:=ae.N hg hc h1 h
theorem xo {n t:Nat} {loc:List D} {tmp:List (Nat×D)} (h:ae P ops rest ⟨n,loc,(t,.tup [])::tmp⟩ st Q) (hb:Nat.ble n t=true:=by exact rfl) (hg:ay ops ⟨n,loc,tmp⟩ ⟨some t,op,ty,pp,a,g⟩=some false:=by exact rfl):ae P ops (⟨some t,op,ty,pp,a,g⟩::rest) ⟨n,loc,tmp⟩ st Q:=ae.Mf hb hg h
theorem xp {n t:Nat} {loc:List D} {tmp:List (Nat×D)} (h:ae P ops rest ⟨n,loc.set t (.tup []),tmp⟩ st Q) (hb:Nat.ble n t=false:=by exact rfl) (hg:ay ops ⟨n,loc,tmp⟩ ⟨some t,op,ty,pp,a,g⟩=some false:=by exact rfl):ae P ops (⟨some t,op,ty,pp,a,g⟩::rest) ⟨n,loc,tmp⟩ st Q:=ae.Mg hb hg h
end Go.V
