/-
 Functions given to V; a logic over V; heaps of one's own; no program in sight, no conditions.
-/
import Derived.Test.YtecjacicdpejaaaGreatWM4
import Derived.Test.YtecjacicdpejaaaGreatWM1
set_option linter.unusedSimpArgs false
set_option linter.unusedVariables false
set_option linter.unusedSectionVars false
set_option linter.unnecessarySimpa false
open Option renaming bind_some→γ,map_some→δ,some→YH,map_eq_some_iff→xw,isSome_some→Cf
open List renaming getElem?_set_ne→ε,set_cons_succ→ζ,set_cons_zero→η,getElem?_eq_none→θ,getElem?_set_self→ι,mem_cons_self→κ,mem_cons_of_mem→μ,getElem?_cons_succ→ν,length_cons→ο,map_cons→π,getElem?_append_left→ρ,drop_drop→φ,length_append→ψ,flatten_cons→Δ,length_set→Θ,drop_take→Φ,map_nil→Q5,mem_of_getElem?→Wh,mem_of_mem_take→Z5,getElem?_cons_zero→Zt,length_nil→Y',drop_zero→JS,take_length→wt,append_assoc→v8,getElem?_eraseIdx→ki,take_take→Ut,length_take→VT,getElem?_of_mem→GB,flatten_append→Bv,getElem?_take→Cr,replicate→IN,take_of_length_le→LL,length_map→P8,nil_append→PR,take_append_drop→Pe,mem_of_mem_drop→AN,ext_getElem?→bU,getElem?_map→cg,mem_map→hD,length_drop→lx,mem_flatten→tn,append_nil→Qa1,drop_left'→Qa2,take_left'→Qa3,drop_length_add_append→Qa4,mem_cons→Qa5,set_append_right→Qa6,map_congr_left→Qa8,getElem?_drop→Qa9,mapIdx_cons→Qaa,mem_append→Qac,map_drop→Qad,map_take→Qae,take_add→Qaf,map_map→Qah,map_id→Qaj,drop→Qam
open Nat renaming mul_le_mul_right→ξ,add_mul→ς,ble→τ,le_refl→υ,lt_or_ge→ω,le_of_ble_eq_true→Ψ,min_eq_left→ZD,one_mul→Zn,le_trans→VQ,lt_of_lt_of_le→IS,mod_eq_of_lt→IT,add_comm→Pd,not_lt_zero→R2,eq_of_beq_eq_true→R3,zero_add→Qa7,beq→Qab,mul_le_mul→Qag,add_assoc→Qai,add_zero→Qak,beq_refl→Qal
open Bool renaming and_eq_true→χ,or_eq_true→OF,false_eq_true→AI
open Go.V.D renaming ref→Γ,cells→Qa0
open Go.V.Fr renaming put→Ξ,ev→YQ,get→Qap
open Go.V.St renaming push→Ω,ib→Qan,ku→Qao
open BitVec renaming ofInt_natCast→VM,toNat_ofNat→BY,ofInt→AT
namespace Go.V
open Go.RowKit
structure iE (P:Program) (pv:Pv) (f:Nat) (p:List D→St→Option (D×St)):Prop where
 fn:∀ds st r,p ds st=some r→∃fn b,P.funcs[f]?=some fn∧fn.body=some b∧fn.name≠ "runtime.NumGoroutine"
 calls:∀ds st d ai,p ds st=some (d,ai)→∀w β Z (us:List Value),jW w st β Z→ds.length=us.length→(∀(i:Nat) c v,ds[i]?=some c→us[i]?=some v→VR w (st.x β Z) c v)→
  Calls P f us.toArray w fun e w'=>∃v β' Z',e=.returned v∧Nx w st β Z w' ai β' Z'∧VR w' (ai.x β' Z') d v∧(ny pv f=true→Quiet w w')
 ro:∀ds st d ai,p ds st=some (d,ai)→ny pv f=true→tF st ai
 len:∀ds st d ai,p ds st=some (d,ai)→gv st ai
variable{pv Bw:Pv}
theorem GN (h:∀f,ny pv f=ny Bw f) (hm:∀s t,sH pv s t=sH Bw s t) (ops:Array Oper) (b:Bool) (x y:Oper):oN pv ops b x y=oN Bw ops b x y:=by
 have he:∀o,iC pv o=iC Bw o:=by
  intro o;unfold iC
  split<;>first|rfl|exact hm _ _|skip
  rw[h]
 simp only[oN,he]
theorem Dw (h:∀f,ny pv f=ny Bw f) (hm:∀s t,sH pv s t=sH Bw s t) (ops:Array Oper) (dy:List (Nat×Nat)):o9 pv ops dy=o9 Bw ops dy:=by
 unfold o9
 congr 1
 funext j;unfold OQ
 split
 ·simp only[GN h hm]
 ·rfl
theorem gm {pv Bw:Pv} (h:∀f,ny pv f=ny Bw f) (hm:∀s t,sH pv s t=sH Bw s t) (dyn:List (Nat×List (Nat×Nat))) (n:Nat):∀c:Code,codeOk pv dyn n c=codeOk Bw dyn n c
 | .region _ ops d=>by simp only[codeOk,Dw h hm]
 | .seq a b=>by simp only[codeOk,gm h hm dyn n a,gm h hm dyn n b]
 | .cond _ a b=>by simp only[codeOk,gm h hm dyn n a,gm h hm dyn n b]
 | .block _ c=>by simp only[codeOk,gm h hm dyn n c]
 | .loop c=>by simp only[codeOk,gm h hm dyn n c]
 | .skip| .rangeFunc ..| .exit _| .scope _| .label _| .goto _| .ret| .refuse _=>by simp only[codeOk]
def Pv.over (pv:Pv) (l:List (Nat×(List D→St→Option (D×St)))):Pv:=⟨pv.ty,pv.nty,pv.fs,pv.nfs,pv.eqb,l⟩
theorem Jk (pv:Pv) (l) (f:Nat):ny (pv.over l) f=ny pv f:=rfl
theorem An {f:Nat} {p}:∀{l:List (Nat×(List D→St→Option (D×St)))},pf f l=some p→(f,p)∈l
 |(g,q)::l,h=>by
  simp only[pf] at h
  split at h
  ·rename_i hb;cases h;rw[R3 hb];exact κ ..
  ·exact μ _ (An h)
variable{P:Program}
theorem tN (h:pv.Ok P∧pv.l_∧lb P pv (gK pv)) (Z7:pv.prm=[]) {l:List (Nat×(List D→St→Option (D×St)))} (hl:∀q∈l,iE P pv q.1 q.2):
  (pv.over l).Ok P∧(pv.over l).l_∧lb P (pv.over l) (gK (pv.over l)):=by
 obtain⟨h1,h2,h3⟩:=h;refine⟨⟨h1.ty,h1.fs,h1.eqb,h1.mixed⟩,fun f x b hx hp hb=>?_,?_⟩
 ·rw[gm (Jk pv l) (fun _ _=>rfl)];exact h2 f x b hx hp hb
 ·have key:∀f ds st r,gK (pv.over l) f ds st=some r→(∃p,iE P pv f p∧p ds st=some r)∨gK pv f ds st=some r:=by
   intro f ds st r h;unfold gK at h
   split at h
   ·rename_i p hp;exact .inl ⟨p,hl _ (An hp),h⟩
   ·right;unfold gK;rw[Z7];exact h
  refine⟨fun f ds st r h=>?_,fun f ds st d ai h=>?_,fun f ds st d ai h=>?_,fun f ds st d ai h=>?_⟩
  ·rcases key f ds st r h with⟨p,hp,h⟩|h
   ·exact hp.fn ds st r h
   ·exact h3.fn f ds st r h
  ·rcases key f ds st _ h with⟨p,hp,h⟩|h
   ·exact hp.calls ds st d ai h
   ·exact h3.calls f ds st d ai h
  ·rcases key f ds st _ h with⟨p,hp,h⟩|h
   ·exact hp.ro ds st d ai h
   ·exact h3.ro f ds st d ai h
  ·rcases key f ds st _ h with⟨p,hp,h⟩|h
   ·exact hp.len ds st d ai h
   ·exact h3.len f ds st d ai h
theorem jW.nil {w:World} {Z:Nat→Prop} (hZ:∀b,Z b→b<w.heap.size):jW w ⟨[],0,0⟩ (fun _=>none) Z:=
 ⟨fun _ _ _ h=>(by cases h),fun _ _ _ h=>(by cases h),fun _ _ _ _ _ h=>(by cases h),fun _ _ _ h=>(by cases h),hZ,fun _ _ _ _ h=>(by cases h),υ _,υ _⟩
variable{n f:Nat}{d:D}{vZ:St}
theorem rJ (h:pv.Ok P∧pv.l_∧lb P pv (gK pv)) {ds:List D} (hs:dQ pv n f ds ⟨[],0,0⟩=some (d,vZ)) (h0:vZ.bs=[]) (hr:refs ds=0) (st:St) (w:World) (β:Nat→Option (Nat×Nat)) (Z:Nat→Prop) (us:List Value) (jB:jW w st β Z) (hl:ds.length=us.length) (ha:∀(i:Nat) c v,ds[i]?=some c→us[i]?=some v→VR w (st.x β Z) c v):
  Calls P f us.toArray w fun e w'=>∃v β' Z',e=.returned v∧Nx w st β Z w' st β' Z'∧VR w' (st.x β' Z') d v∧Quiet w w':=by
 have hrefs:∀(l:List D),refs l=0→∀c∈l,c.ref≤0:=by
  intro l
  induction l with
  |nil=>intro _ c hc;simp at hc
  |cons x l ih=>
   intro h c hc;simp only[refs] at h
   rcases Qa5.1 hc with rfl|hc
   ·omega
   ·exact ih (by omega) c hc
 refine((lH h.1 h.2.1 h.2.2 n).calls f ds _ d vZ hs w (fun _=>none) Z us (jW.nil jB.zl) hl fun i c v hc hv=>?_).mono fun e w'=>?_
 ·exact VR.cut (x:=st.x β Z) (x':=(⟨[],0,0⟩:St).x (fun _=>none) Z) (N:=0) (fun k hk=>absurd hk (R2 _)) (fun k hk=>absurd hk (R2 _)) (fun b hb=>hb) (ha i c v hc hv) (hrefs ds hr c (Wh hc))
 ·rintro⟨v,β',Z',rfl,hn,hv,_⟩
  have oQ:∀k p,β' k=some p→False:=fun k p hk=>by
   have:=hn.sim.dom k p.1 p.2 hk;rw[h0] at this;simp at this
  have hq:Quiet w w':=by
   intro c hc;refine hn.evo.block c hc ?_;rintro⟨k,base,h5,_⟩;cases h5
  have RJ:∀b,Z b→Z' b∧w'.heap[b]?=w.heap[b]?:=fun b hb=>⟨(hn.keeps.z b hb).1,hq b (jB.zl b hb)⟩
  have hk:fq w (st.x β Z) w' (st.x β Z'):=⟨fun k p hp=>⟨p,hp⟩,RJ,fun k c p _ hc=>⟨c,hc,υ _⟩,fun k c _ _ b base hb=>⟨hb,gg (hq b (jB.lt k b base hb))⟩⟩
  refine⟨v,β,Z',rfl,⟨⟨jB.dom,fun k b base hb=>IS (jB.lt k b base hb) hn.evo.size,jB.inj,fun k b base hb hz=>?_,hn.sim.zl,fun k b base bx hb jm=>(jB.box k b base bx hb jm).cw hk (hq b (jB.lt k b base hb)),jB.flr,jB.ro⟩,hk,
   ⟨hn.evo.os,hn.evo.tape,hn.evo.output,hn.evo.size,fun b hb _=>hq b hb⟩,fun k b base hb=>.inl ⟨base,hb⟩,hn.zfresh,υ _,rfl,rfl,fun k _=>⟨rfl,rfl⟩,fun k _ hk=>⟨hk,rfl⟩⟩,?_,hq⟩
  ·rcases hn.zfresh b hz with hz|hz
   ·exact jB.zd k b base hb hz
   ·have:=jB.lt k b base hb;omega
  ·exact VR.cut (x:=vZ.x β' Z') (x':=st.x β Z') (N:=0) (fun k hk=>absurd hk (R2 _)) (fun k hk=>absurd hk (R2 _)) (fun b hb=>hb) hv (VR.ref (fun k p hk=>(oQ k p hk).elim) hv)
def vp (d:D):List D→St→Option (D×St)
 |[],st=>some (d,st)
 |_::_,_=>none
theorem xH (h:pv.Ok P∧pv.l_∧lb P pv (gK pv)) (hs:dQ pv n f [] ⟨[],0,0⟩=some (d,vZ)) (h0:vZ.bs=[]):iE P pv f (vp d):=by
 have hc:=lH h.1 h.2.1 h.2.2 n;refine⟨fun ds st r _=>hc.fn f [] _ _ hs,fun ds st d' ai hp w β Z us jB hl ha=>?_,fun ds st d' ai hp _=>?_,fun ds st d' ai hp=>?_⟩<;>cases ds<;>simp only[vp,YH.injEq,Prod.mk.injEq,reduceCtorEq] at hp
 ·obtain⟨rfl,rfl⟩:=hp;refine(rJ h hs h0 rfl st w β Z us jB hl ha).mono fun e w'=>?_;rintro⟨v,β',Z',h1,h2,h3,h4⟩;exact⟨v,β',Z',h1,h2,h3,fun _=>h4⟩
 ·rw[←hp.2];exact .rfl _
 ·rw[←hp.2];exact gv.refl _
def lg:List (List D×D)→List D→St→Option (D×St)
 |[],_,_=>none
 |(as,d)::l,ds,st=>match mc as ds with
  |true=>some (d,st)
  |false=>lg l ds st
theorem nr:∀{l:List (List D×D)} {ds:List D} {st ai:St} {d:D},lg l ds st=some (d,ai)→(ds,d)∈l∧ai=st
 |(as,e)::l,ds,st,ai,d,h=>by
  simp only[lg] at h
  split at h
  ·rename_i hb;cases h;rw[jU _ _ hb];exact⟨κ ..,rfl⟩
  ·obtain⟨h1,h2⟩:=nr h;exact⟨μ _ h1,h2⟩
theorem sG (h:pv.Ok P∧pv.l_∧lb P pv (gK pv)) {l:List (List D×D)} (hl:∀q∈l,refs q.1=0∧∃n vZ,dQ pv n f q.1 ⟨[],0,0⟩=some (q.2,vZ)∧vZ.bs=[]):iE P pv f (lg l):=by
 refine⟨fun ds st r hp=>?_,fun ds st d ai hp w β Z us jB hle ha=>?_,fun ds st d ai hp _=>by rw[(nr hp).2];exact .rfl _,fun ds st d ai hp=>?_⟩
 ·obtain⟨hm,_⟩:=nr (d:=r.1) (ai:=r.2) hp;obtain⟨_,n,vZ,hs,_⟩:=hl _ hm;exact(lH h.1 h.2.1 h.2.2 n).fn f _ _ _ hs
 ·obtain⟨hm,rfl⟩:=nr hp;obtain⟨hr,n,vZ,hs,h0⟩:=hl _ hm;refine(rJ h hs h0 hr ai w β Z us jB hle ha).mono fun e w'=>?_;rintro⟨v,β',Z',h1,h2,h3,h4⟩;exact⟨v,β',Z',h1,h2,h3,fun _=>h4⟩
 ·rw[(nr hp).2];exact gv.refl _
def tz:List lu→List lu→Bool
 |[],[]=>true
 |a::l,b::m=>yS a b &&tz l m
 |_,_=>false
def Ip (a b:St):Bool:=Qab a.flr b.flr &&Qab a.ro b.ro &&tz a.bs b.bs
theorem vH:∀{a b:List lu},tz a b=true→a=b
 |[],[],_=>rfl
 |a::l,b::m,h=>by
  simp only[tz,χ] at h;rw[A7 h.1,vH h.2]
 |[],_::_,h=>by cases h
 |_::_,[],h=>by cases h
theorem ER {a b:St} (h:Ip a b=true):a=b:=by
 obtain⟨x,y,z⟩:=a;obtain⟨x',y',z'⟩:=b;simp only[Ip,χ] at h;have h1:=R3 h.1.1;have h2:=R3 h.1.2;have h3:=vH h.2;rw[h1,h2,h3]
def nL (d:D) (st:St):Option (D×St)→Bool
 |some (e,ai)=>iD e d &&Ip ai st
 |none=>false
theorem pt {st:St} {r:Option (D×St)} (h:nL d st r=true):r=some (d,st):=by
 match r,h with
 |some (e,ai),h=>
  simp only[nL,χ] at h;rw[wC e d h.1,ER h.2]
def vn:List ((List D×St)×(D×St))→List D→St→Option (D×St)
 |[],_,_=>none
 |(k,r)::l,ds,st=>match mc k.1 ds &&Ip k.2 st with
  |true=>some r
  |false=>vn l ds st
theorem np:∀{l:List ((List D×St)×(D×St))} {ds:List D} {st:St} {r:D×St},vn l ds st=some r→((ds,st),r)∈l
 |(k,r')::l,ds,st,r,h=>by
  simp only[vn] at h
  split at h
  ·rename_i hb;simp only[χ] at hb;cases h;obtain⟨k1,k2⟩:=k;rw[←jU _ _ hb.1,←ER hb.2];exact κ ..
  ·exact μ _ (np h)
theorem DH (h:Bw.Ok P∧Bw.l_∧lb P Bw (gK Bw)) (du:∀f,ny Bw f=ny pv f) {l:List ((List D×St)×(D×St))} (hl:∀q∈l,∃n,dQ Bw n f q.1.1 q.1.2=some q.2):iE P pv f (vn l):=by
 refine⟨fun ds st r hp=>?_,fun ds st d ai hp w β Z us jB hle ha=>?_,fun ds st d ai hp hr=>?_,fun ds st d ai hp=>?_⟩
 ·obtain⟨n,hn⟩:=hl _ (np hp);exact(lH h.1 h.2.1 h.2.2 n).fn f _ _ _ hn
 ·obtain⟨n,hn⟩:=hl _ (np hp);have:=(lH h.1 h.2.1 h.2.2 n).calls f _ _ _ _ hn w β Z us jB hle ha;rw[du] at this;exact this
 ·obtain⟨n,hn⟩:=hl _ (np hp);exact(lH h.1 h.2.1 h.2.2 n).ro f _ _ _ _ hn (by rw[du];exact hr)
 ·obtain⟨n,hn⟩:=hl _ (np hp);exact(lH h.1 h.2.1 h.2.2 n).len f _ _ _ _ hn
end Go.V
namespace Go.V
section
variable(P:Pv)
def Ev (f:Nat) (args:List D) (st:St) (d:D) (ai:St):Prop:=
 ∃N,∀n,N≤n→dQ P n f args st=some (d,ai)
abbrev Dy:=List (Nat×List (Nat×Nat))
def ag (dy:Dy) (c:Code) (fr:Fr) (st:St) (Q:Out→Fr→St→Prop):Prop:=
 ∃o aM ai,(∃N,∀n,N≤n→c8 P (dQ P n) dy n c fr st=some (o,aM,ai))∧Q o aM ai
def ab (ops:Array Oper) (l:List Oper) (fr:Fr) (st:St) (Q:Fr→St→Prop):Prop:=
 ∃aM ai,(∃N,∀n,N≤n→mi P (dQ P n) ops l fr st=some (aM,ai))∧Q aM ai
def aZ (dy:Dy) (b:Code) (Q:Out→Fr→St→Prop):Out→Fr→St→Prop
 | .next,fr,st=>ag P dy b fr st Q
 | .exit i,fr,st=>Q (.exit i) fr st
 | .ret,fr,st=>Q .ret fr st
def NT (id:Nat) (Q:Out→Fr→St→Prop):Out→Fr→St→Prop
 | .next,fr,st=>Q .next fr st
 | .exit i,fr,st=>if i=id then Q .next fr st else Q (.exit i) fr st
 | .ret,fr,st=>Q .ret fr st
def Yf (I:Nat→Fr→St→Prop) (k:Nat) (Q:Out→Fr→St→Prop):Out→Fr→St→Prop
 | .next,fr,st=>∃j,j<k∧I j fr st
 | .exit i,fr,st=>Q (.exit i) fr st
 | .ret,fr,st=>Q .ret fr st
def bP (ops:Array Oper) (dy:List (Nat×Nat)) (j:Nat) (log:Log) (l:List Oper) (fr:Fr) (st:St) (Q:Fr→St→Prop):Prop:=
 ∃aM ai,(∃N,∀n,N≤n→vI P (dQ P n) ops dy j log l fr st=some (aM,ai))∧Q aM ai
variable{P} {dy:Dy}
variable{c:Code}{Q:Out→Fr→St→Prop}
theorem ag.mono {fr st} {Q':Out→Fr→St→Prop} (h:ag P dy c fr st Q) (hq:∀o aM ai,Q o aM ai→Q' o aM ai):ag P dy c fr st Q':=by
 obtain⟨o,aM,ai,h1,h2⟩:=h;exact⟨o,aM,ai,h1,hq _ _ _ h2⟩
theorem ag.skip {fr st} (h:Q .next fr st):ag P dy .skip fr st Q:=⟨_,_,_,⟨0,fun n _=>by simp only[c8]⟩,h⟩
theorem ag.exit {fr st i} (h:Q (.exit i) fr st):ag P dy (.exit i) fr st Q:=⟨_,_,_,⟨0,fun n _=>by simp only[c8]⟩,h⟩
theorem ag.ret {fr st} (h:Q .ret fr st):ag P dy .ret fr st Q:=⟨_,_,_,⟨0,fun n _=>by simp only[c8]⟩,h⟩
theorem ag.region {i ops d fr st} (h:ab P ops ops.toList fr.clean st (Q .next)) (h0:kf i dy=[]:=by rfl):ag P dy (.region i ops d) fr st Q:=by
 obtain⟨aM,ai,⟨N,hN⟩,hq⟩:=h;exact⟨_,aM,ai,⟨N,fun n hn=>by simp only[c8,h0,Dh,hN n hn]⟩,hq⟩
theorem ag.OL {i ops d fr st} {p:Nat×Nat} {ps:List (Nat×Nat)} (h0:kf i dy=p::ps) (h:bP P ops (p::ps) 0 [] ops.toList fr.clean st (Q .next)):ag P dy (.region i ops d) fr st Q:=by
 obtain⟨aM,ai,⟨N,hN⟩,hq⟩:=h;exact⟨_,aM,ai,⟨N,fun n hn=>by simp only[c8,h0,Dh,hN n hn]⟩,hq⟩
theorem ag.seq {a b fr st} (h:ag P dy a fr st (aZ P dy b Q)):ag P dy (.seq a b) fr st Q:=by
 obtain⟨o,aM,ai,⟨N,hN⟩,hq⟩:=h
 cases o with
 |next=>
  obtain⟨o,S',st2,⟨M,hM⟩,hq⟩:=hq;exact⟨o,S',st2,⟨max N M,fun n hn=>by simp only[c8,hN n (by omega),hM n (by omega)]⟩,hq⟩
 |exit i=>exact⟨_,aM,ai,⟨N,fun n hn=>by simp only[c8,hN n hn]⟩,hq⟩
 |ret=>exact⟨_,aM,ai,⟨N,fun n hn=>by simp only[c8,hN n hn]⟩,hq⟩
theorem ag.cond {c a b fr st v} (hv:fr.ev c=.bool v) (h1:v=true→ag P dy a fr st Q) (h2:v=false→ag P dy b fr st Q):ag P dy (.cond c a b) fr st Q:=by
 cases v with
 |true=>
  obtain⟨o,aM,ai,⟨N,hN⟩,hq⟩:=h1 rfl;exact⟨o,aM,ai,⟨N,fun n hn=>by simp only[c8,hv,hN n hn]⟩,hq⟩
 |false=>
  obtain⟨o,aM,ai,⟨N,hN⟩,hq⟩:=h2 rfl;exact⟨o,aM,ai,⟨N,fun n hn=>by simp only[c8,hv,hN n hn]⟩,hq⟩
theorem ag.block {id c fr st} (h:ag P dy c fr st (NT id Q)):ag P dy (.block id c) fr st Q:=by
 obtain⟨o,aM,ai,⟨N,hN⟩,hq⟩:=h
 cases o with
 |next=>exact⟨_,aM,ai,⟨N,fun n hn=>by simp only[c8,hN n hn]⟩,hq⟩
 |exit i=>
  simp only[NT] at hq
  split at hq
  ·rename_i hi;exact⟨_,aM,ai,⟨N,fun n hn=>by simp only[c8,hN n hn,if_pos hi]⟩,hq⟩
  ·rename_i hi;exact⟨_,aM,ai,⟨N,fun n hn=>by simp only[c8,hN n hn,if_neg hi]⟩,hq⟩
 |ret=>exact⟨_,aM,ai,⟨N,fun n hn=>by simp only[c8,hN n hn]⟩,hq⟩
theorem ag.loop {fr st} (I:Nat→Fr→St→Prop) (k:Nat) (h0:I k fr st) (h:∀k fr st,I k fr st→ag P dy c fr.clean st (Yf I k Q)):ag P dy (.loop c) fr st Q:=by
 have key:∀k fr st,I k fr st→∃o aM ai,(∃N,∀n,N≤n→∀m,N≤m→iter (c8 P (dQ P n) dy n c) m fr st=some (o,aM,ai))∧(Q o aM ai):=by
  intro k
  induction k using Nat.strongRecOn with
  |ind k ih=>
   intro fr st hi;obtain⟨o,aM,ai,⟨N,hN⟩,hq⟩:=h k fr st hi
   cases o with
   |next=>
    obtain⟨j,hj,l4⟩:=hq;obtain⟨o,S',st2,⟨M,hM⟩,hq⟩:=ih j hj aM ai l4;refine⟨o,S',st2,⟨max N M+1,fun n hn m hm=>?_⟩,hq⟩
    obtain⟨m,rfl⟩:∃m',m=m'+1:=⟨m-1,by omega⟩
    simp only[iter,hN n (by omega),hM n (by omega) m (by omega)]
   |exit i=>
    refine⟨_,aM,ai,⟨N+1,fun n hn m hm=>?_⟩,hq⟩
    obtain⟨m,rfl⟩:∃m',m=m'+1:=⟨m-1,by omega⟩
    simp only[iter,hN n (by omega)]
   |ret=>
    refine⟨_,aM,ai,⟨N+1,fun n hn m hm=>?_⟩,hq⟩
    obtain⟨m,rfl⟩:∃m',m=m'+1:=⟨m-1,by omega⟩
    simp only[iter,hN n (by omega)]
 obtain⟨o,aM,ai,⟨N,hN⟩,hq⟩:=key k fr st h0;exact⟨o,aM,ai,⟨N,fun n hn=>by simp only[c8,hN n hn n hn]⟩,hq⟩
theorem Ev.of {f x body args st d ai} (hq:pf f P.prm=none) (hf:P.fi f=some x) (hp:x.fz=none) (hb:x.fn.body=some body)
  (h:ag P x.dyn body (pad x.nloc args) (ae x.mode st) fun o fr st1=>(∀i,o≠.exit i)∧∃ds,nT P fr st1 x.fn.results.toList=some ds∧ez x.mode x.knul st st1 (zc ds)=some (d,ai)):Ev P f args st d ai:=by
 obtain⟨o,aM,st1,⟨N,hN⟩,ho,ds,hr,hl⟩:=h;refine⟨N+1,fun n hn=>?_⟩
 obtain⟨m,rfl⟩:∃m',n=m'+1:=⟨n-1,by omega⟩
 simp only[dQ,hq,hf,hp,hb,EP];rw[hN m (by omega)]
 cases o with
 |next=>simp only[hr,hl]
 |exit i=>exact absurd rfl (ho i)
 |ret=>simp only[hr,hl]
theorem ab.nil {ops fr st} {Q:Fr→St→Prop} (h:Q fr st):ab P ops [] fr st Q:=⟨fr,st,⟨0,fun n _=>rfl⟩,h⟩
def lZ:Op→Bool
 | .call ⟨.value _,_,_⟩=>true
 |_=>false
theorem Lk {cf fr st} {o:Oper} (h:lZ o.op=false):ir P cf fr st o=eS P fr st o.op o.type:=by
 unfold ir
 split
 ·rename_i heq;rw[heq] at h;simp[lZ] at h
 ·rfl
theorem ab.op {ops o rest fr st d st1} {Q:Fr→St→Prop} (hg:aH ops fr o=some true) (hc:lZ o.op=false) (h1:eS P fr st o.op o.type=some (d,st1))
  (h:ab P ops rest (fr.eH o.dst d) st1 Q):ab P ops (o::rest) fr st Q:=by
 obtain⟨aM,ai,⟨N,hN⟩,hq⟩:=h;exact⟨aM,ai,⟨N,fun n hn=>by simp only[mi,hg,Lk hc,h1,hN n hn]⟩,hq⟩
theorem ab.off {ops o rest fr st} {Q:Fr→St→Prop} (hg:aH ops fr o=some false)
  (h:ab P ops rest (fr.eH o.dst (.tup [])) st Q):ab P ops (o::rest) fr st Q:=by
 obtain⟨aM,ai,⟨N,hN⟩,hq⟩:=h;exact⟨aM,ai,⟨N,fun n hn=>by simp only[mi,hg,hN n hn]⟩,hq⟩
theorem ab.call {ops rest fr st d st1 f g mU args CO dst type pos} {after guard} {Q:Fr→St→Prop} (hg:aH ops fr ⟨dst,.call ⟨.value f,args,CO⟩,type,pos,after,guard⟩=some true) (hf:fr.ev f=.fn g mU)
  (h1:Ev P g (args.toList.map fr.ev++mU) st d st1)
  (h:ab P ops rest (fr.eH dst d) st1 Q):ab P ops (⟨dst,.call ⟨.value f,args,CO⟩,type,pos,after,guard⟩::rest) fr st Q:=by
 obtain⟨aM,ai,⟨N,hN⟩,hq⟩:=h;obtain⟨M,hM⟩:=h1;exact⟨aM,ai,⟨max N M,fun n hn=>by simp only[mi,hg,ir,hf,hM n (by omega),hN n (by omega)]⟩,hq⟩
theorem bP.nil {ops ys j log fr st} {Q:Fr→St→Prop} (h:Q fr st):bP P ops ys j log [] fr st Q:=⟨fr,st,⟨0,fun n _=>rfl⟩,h⟩
theorem bP.cons {ops ys j log o rest fr st} {Q:Fr→St→Prop} (h:ab P ops [o] fr st fun aM ai=>Nu ys j log o fr st ai=true∧bP P ops ys (j+1) ((o,fr,st,ai)::log) rest aM ai Q):bP P ops ys j log (o::rest) fr st Q:=by
 obtain⟨Ta,st1,⟨N,hN⟩,hc,S',st2,⟨M,hM⟩,hq⟩:=h;refine⟨S',st2,⟨max N M,fun n hn=>?_⟩,hq⟩;have h1:=hN n (by omega);have h2:=hM n (by omega);simp only[mi] at h1;simp only[vI]
 split at h1
 ·rename_i hw
  split at h1
  ·rename_i d ai jD;cases h1;simp only[jD,hc,h2]
  ·cases h1
 ·rename_i hw;cases h1;exact h2
 ·cases h1
theorem Ev.out {f args st d ai} (h:Ev P f args st d ai):∃N,∀n,N≤n→dQ P n f args st=some (d,ai):=h
theorem Ev.fz {f args st d ai p} (hq:pf f P.prm=some p) (h:p args st=some (d,ai)):Ev P f args st d ai:=
 ⟨1,fun n hn=>by
  obtain⟨m,rfl⟩:∃m',n=m'+1:=⟨n-1,by omega⟩
  simp only[dQ,hq,h]⟩
end
attribute [irreducible] Ev ag ab bP
end Go.V
namespace Go.V
variable{P:Pv}{dy:Dy}{i:Nat}{l:List Oper}{Q:Out→Fr→St→Prop}
theorem ag.cT {d n loc tmp st} (h:ab P l.toArray l ⟨n,loc,[]⟩ st (Q .next)) (h0:kf i dy=[]:=by rfl):ag P dy (.region i l.toArray d) ⟨n,loc,tmp⟩ st Q:=ag.region h h0
theorem ag.uc {d n loc tmp st} {p:Nat×Nat} {ps:List (Nat×Nat)} (h0:kf i dy=p::ps) (h:bP P l.toArray (p::ps) 0 [] l ⟨n,loc,[]⟩ st (Q .next)):ag P dy (.region i l.toArray d) ⟨n,loc,tmp⟩ st Q:=ag.OL h0 h
theorem Ev.gP {f x body args st d ai n loc} (hq:pf f P.prm=none) (hf:P.fi f=some x) (hp:x.fz=none) (hb:x.fn.body=some body) (Mc:pad x.nloc args=⟨n,loc,[]⟩) (h:ag P x.dyn body ⟨n,loc,[]⟩ (ae x.mode st) fun o fr st1=>(∀i,o≠.exit i)∧∃ds,nT P fr st1 x.fn.results.toList=some ds∧ez x.mode x.knul st st1 (zc ds)=some (d,ai)):Ev P f args st d ai:=
 Ev.of hq hf hp hb (by rw[Mc];exact h)
section
variable{P:Pv} {ops:Array Oper} {rest:List Oper} {n:Nat} {loc:List D} {tmp:List (Nat×D)} {st st1:St} {Q:Fr→St→Prop} {op:Op} {ty:TypeId} {p:String} {a:Array Edge} {g:Option (Nat×Bool)} {t:Nat} {d:D}
theorem aa (hb:τ n t=true) (d:D):Ξ ⟨n,loc,tmp⟩ t d=⟨n,loc,(t,d)::tmp⟩:=by
 simp only[Ξ,hb]
theorem Qv (hb:τ n t=false) (d:D):Ξ ⟨n,loc,tmp⟩ t d=⟨n,loc.set t d,tmp⟩:=by
 simp only[Ξ,hb]
theorem ab.T (hb:τ n t=true) (hg:aH ops ⟨n,loc,tmp⟩ ⟨some t,op,ty,p,a,g⟩=some true) (hc:lZ op=false) (h1:eS P ⟨n,loc,tmp⟩ st op ty=some (d,st1))
  (h:ab P ops rest ⟨n,loc,(t,d)::tmp⟩ st1 Q):ab P ops (⟨some t,op,ty,p,a,g⟩::rest) ⟨n,loc,tmp⟩ st Q:=
 ab.op hg hc h1 (by show ab P ops rest (Ξ _ t d) st1 Q;rw[aa hb];exact h)
theorem ab.L (hb:τ n t=false) (hg:aH ops ⟨n,loc,tmp⟩ ⟨some t,op,ty,p,a,g⟩=some true) (hc:lZ op=false) (h1:eS P ⟨n,loc,tmp⟩ st op ty=some (d,st1))
  (h:ab P ops rest ⟨n,loc.set t d,tmp⟩ st1 Q):ab P ops (⟨some t,op,ty,p,a,g⟩::rest) ⟨n,loc,tmp⟩ st Q:=
 ab.op hg hc h1 (by show ab P ops rest (Ξ _ t d) st1 Q;rw[Qv hb];exact h)
theorem ab.N {fr:Fr} (hg:aH ops fr ⟨none,op,ty,p,a,g⟩=some true) (hc:lZ op=false) (h1:eS P fr st op ty=some (d,st1))
  (h:ab P ops rest fr st1 Q):ab P ops (⟨none,op,ty,p,a,g⟩::rest) fr st Q:=ab.op hg hc h1 h
theorem ab.Zo (hb:τ n t=true) (hg:aH ops ⟨n,loc,tmp⟩ ⟨some t,op,ty,p,a,g⟩=some false)
  (h:ab P ops rest ⟨n,loc,(t,.tup [])::tmp⟩ st Q):ab P ops (⟨some t,op,ty,p,a,g⟩::rest) ⟨n,loc,tmp⟩ st Q:=
 ab.off hg (by show ab P ops rest (Ξ _ t _) st Q;rw[aa hb];exact h)
theorem ab.Zp (hb:τ n t=false) (hg:aH ops ⟨n,loc,tmp⟩ ⟨some t,op,ty,p,a,g⟩=some false)
  (h:ab P ops rest ⟨n,loc.set t (.tup []),tmp⟩ st Q):ab P ops (⟨some t,op,ty,p,a,g⟩::rest) ⟨n,loc,tmp⟩ st Q:=
 ab.off hg (by show ab P ops rest (Ξ _ t _) st Q;rw[Qv hb];exact h)
theorem ab.oF {f gn:_} {mU:List D} {args:Array Operand} {CO:Array TypeId} (hb:τ n t=true) (hg:aH ops ⟨n,loc,tmp⟩ ⟨some t,.call ⟨.value f,args,CO⟩,ty,p,a,g⟩=some true) (hf:YQ ⟨n,loc,tmp⟩ f=.fn gn mU)
  (h1:Ev P gn (args.toList.map (YQ ⟨n,loc,tmp⟩)++mU) st d st1)
  (h:ab P ops rest ⟨n,loc,(t,d)::tmp⟩ st1 Q):ab P ops (⟨some t,.call ⟨.value f,args,CO⟩,ty,p,a,g⟩::rest) ⟨n,loc,tmp⟩ st Q:=
 ab.call hg hf h1 (by show ab P ops rest (Ξ _ t d) st1 Q;rw[aa hb];exact h)
end
inductive Rows (st:St) (s:Nat):D→List (List D)→Prop where
 |nul:Rows st s .nul []
 |sl (es:List D) (h:∀e∈es,e.cells?=some e.cells∧e.cells.length=s):Rows st s (.sl es) (es.map Qa0)
 |win (k aE off:Nat) (es:List (List D)) (ar:Bool) (c:List D) (hm:st.ib k aE=some (ar,c)) (hl:off+es.length*s≤c.length)
   (he:∀(i:Nat) e,es[i]?=some e→(c.drop (off+i*s)).take s=e):Rows st s (.win k aE off es.length s) es
variable{st:St}{s:Nat}{x:D}{es:List (List D)}
theorem Rows.yD (h:Rows st s x es):∀(i:Nat) e,es[i]?=some e→e.length=s:=by
 cases h with
 |nul=>intro i e h;simp at h
 |sl es h=>
  intro i e hi;rw[cg] at hi;obtain⟨d,hd,rfl⟩:=xw.1 hi;exact(h d (Wh hd)).2
 |win k aE off es ar c hm hl he=>
  intro i e hi
  have hlt:i<es.length:=by
   rcases ω i es.length with h'|h'
   ·exact h'
   ·rw[θ h'] at hi;cases hi
  rw[←he i e hi];have:(i+1)*s≤es.length*s:=ξ s hlt;rw[ς] at this
  simp;omega
theorem Rows.len (h:Rows st s x es):DP x=some es.length∧∀b,x≠.str b:=by
 cases h with
 |nul=>exact⟨rfl,fun b h=>by cases h⟩
 |sl es h=>exact⟨by simp[DP],fun b h=>by cases h⟩
 |win k aE off es ar c hm hl he=>exact⟨rfl,fun b h=>by cases h⟩
variable{P:Pv}
theorem Rows.Qx (h:Rows st s x es) {t e:TypeId} (ht:P.db t=some (.slice e)):
  bW P .len [t] [x] st=some (.int .i64 (es.length:Nat),st):=by
 obtain⟨h1,h2⟩:=h.len;simp only[bW,ht]
 cases x with
 |str b=>exact absurd rfl (h2 b)
 |_=>simp only[h1];rfl
variable{d:D}
theorem Fh {e:TypeId} {c c':List D} (hs:c9 P e=some s) (hc:c.take s=c') (hl:c'.length=s) (h:fx P e c'=some d):fx P e c=some d:=by
 have hlen:s≤c.length:=by rw[←hc] at hl;simp at hl;omega
 unfold fx at h⊢
 cases hu:P.db e with
 |none=>rw[hu] at h;cases h
 |some u=>
  rw[hu] at h
  cases u with
  |struct f=>
   simp only[hs,γ] at h⊢;rw[if_pos (by omega)] at h;rw[if_pos hlen,hc];rw[←h,LL (by omega)]
  |array n f=>
   simp only[hs,γ] at h⊢;rw[if_pos (by omega)] at h;rw[if_pos hlen,hc];rw[←h,LL (by omega)]
  |_=>
   simp only at h⊢;rw[←h,←hc]
   cases c with
   |nil=>simp
   |cons x xs=>
    cases s with
    |zero=>simp at hc;subst hc;simp at h
    |succ s=>simp
variable{k:IntKind}{i:Int}{r:List D}
theorem Rows.idx (h:Rows st s x es) {t e:TypeId} (ht:P.db t=some (.slice e)) (hs:c9 P e=some s) (h0:0≤i) (hi:es[i.toNat]?=some r):
  ∃p,cJ P t x (.int k i) st=some p∧∀d,fx P e r=some d→j6 P e p st=some d:=by
 cases h with
 |nul=>simp at hi
 |sl es h=>
  rw[cg] at hi;obtain⟨d,hd,rfl⟩:=xw.1 hi;obtain⟨h1,h2⟩:=h d (Wh hd);refine⟨.ep d.cells,?_,fun d' h=>h⟩;simp only[cJ,ht,hs,γ,if_pos h0,hd,h1,if_pos h2]
 |win k aE off es ar c hm hl he=>
  have hlt:i.toNat<es.length:=by
   rcases ω i.toNat es.length with h'|h'
   ·exact h'
   ·rw[θ h'] at hi;cases hi
  refine⟨.ptr k aE (off+i.toNat*s),?_,fun d' h=>?_⟩
  ·simp only[cJ,ht,hs,γ,hm,Cf];rw[if_pos ⟨trivial,h0,by omega,trivial⟩]
  ·simp only[j6,hm,γ];exact Fh hs (he _ _ hi) (Rows.yD (.win k aE off es ar c hm hl he) _ _ hi) h
theorem ab.fp {ops:Array Oper} {rest:List Oper} {n:Nat} {loc:List D} {tmp:List (Nat×D)} {Q:Fr→St→Prop} {t e:TypeId} {xo io:Operand} {d1 d2:Nat} {T7 oT:TypeId} {p1 p2:String} {a1 a2:Array Edge} {g1 g2:Option (Nat×Bool)} (hb1:τ n d1=true) (hb2:τ n d2=true) (mY:aH ops ⟨n,loc,tmp⟩ ⟨some d1,.indexAddr t xo io,T7,p1,a1,g1⟩=some true) (br:∀p,aH ops ⟨n,loc,(d1,p)::tmp⟩ ⟨some d2,.load e (.tmp d1),oT,p2,a2,g2⟩=some true) (hx:YQ ⟨n,loc,tmp⟩ xo=x) (hi:YQ ⟨n,loc,tmp⟩ io=.int k i) (hR:Rows st s x es) (ht:P.db t=some (.slice e)) (hs:c9 P e=some s) (h0:0≤i) (hr:es[i.toNat]?=some r) (hd:fx P e r=some d) (h:∀p,ab P ops rest ⟨n,loc,(d2,d)::(d1,p)::tmp⟩ st Q):ab P ops (⟨some d1,.indexAddr t xo io,T7,p1,a1,g1⟩::⟨some d2,.load e (.tmp d1),oT,p2,a2,g2⟩::rest) ⟨n,loc,tmp⟩ st Q:=by
 obtain⟨p,h1,h2⟩:=hR.idx ht hs (k:=k) h0 hr;refine ab.T hb1 mY rfl (d:=p) (st1:=st) (by simp only[eS,hx,hi,h1,δ])<|ab.T hb2 (br p) rfl (d:=d) (st1:=st) ?_ (h p)
 have:YQ ⟨n,loc,(d1,p)::tmp⟩ (.tmp d1)=p:=by
  simp only[YQ,Qap,hb1,look];have:Qab d1 d1=true:=Qal d1;rw[this]
 simp only[eS,this,h2 d hd,δ]
def byteCells (b:List UInt8):List (List D):=b.map fun y=>[.int .u8 (y.toNat:Nat)]
def Bytes (st:St) (x:D) (b:List UInt8):Prop:=Rows st 1 x (byteCells b)
theorem aU {m:Mode} {kn:Bool} {st1:St} {d':D} (hm:m≠.cw∧m≠.nw) (h1:st1.bs.take st.bs.length=st.bs) (hd:bA st1 st.bs.length kn 16 d=some d'):ez m kn st st1 d=some (d',st):=by
 cases m with
 |cw=>exact absurd rfl hm.1
 |nw=>exact absurd rfl hm.2
 |_=>simp only[ez,hd,h1]
end Go.V
namespace Go.V
structure Ex (N:Nat) (st ai:St):Prop where
 low:∀k,k<N→ai.bs[k]?=st.bs[k]?
 len:st.bs.length≤ai.bs.length
 flr:ai.flr=st.flr
 ro:ai.ro=st.ro
theorem Ex.refl (N:Nat) (st:St):Ex N st st:=⟨fun _ _=>rfl,υ _,rfl,rfl⟩
theorem Ex.trans {N:Nat} {a b c:St} (h:Ex N a b) (g:Ex N b c):Ex N a c:=
 ⟨fun k hk=>(g.low k hk).trans (h.low k hk),VQ h.len g.len,g.flr.trans h.flr,g.ro.trans h.ro⟩
theorem Ex.push {N:Nat} {st:St} (h:N≤st.bs.length) (b:lu):Ex N st (st.push b):=
 ⟨fun k hk=>by simp only[Ω];rw[ρ (by omega)],by simp[Ω],rfl,rfl⟩
variable{k:Nat}
theorem Ex.set {N:Nat} {st:St} (h:N≤k) (b:lu):Ex N st {st with bs:=st.bs.set k b}:=
 ⟨fun j hj=>by simp only;rw[ε (by omega)],by simp,rfl,rfl⟩
variable{ai:St}
theorem Ex.take {N:Nat} {st:St} (h:Ex N st ai) (hN:N=st.bs.length):ai.bs.take N=st.bs:=by
 apply bU;intro k;rw[Cr]
 split
 ·exact h.low k (by assumption)
 ·rw[θ (by omega)]
theorem Ex.mem {N:Nat} {st:St} (h:Ex N st ai) {v:Nat} (hk:k<N):ai.ib k v=st.ib k v:=by
 simp only[Qan,h.low k hk]
variable{s:Nat}{x:D}{es:List (List D)}
theorem Rows.ex {N:Nat} {st:St} (h:Ex N st ai) (hr:Rows st s x es) (hx:x.ref≤N):Rows ai s x es:=by
 cases hr with
 |nul=>exact .nul
 |sl es h=>exact .sl es h
 |win k aE off es ar c hm hl he=>exact .win k aE off es ar c (by rw[h.mem (by simp only[Γ] at hx;omega)];exact hm) hl he
variable{l r:Nat}
theorem Rows.slice {P:Pv} {st:St} (h:Rows st s x es) {t e:TypeId} (ht:P.db t=some (.slice e)) (hs:c9 P e=some s) {lo hi:Option D} (hb:cF es.length lo hi=some (l,r)) (sW:l≤r∧r≤es.length):
  ∃y,fM P t x lo hi st=some y∧Rows st s y ((es.take r).drop l)∧y.ref≤x.ref:=by
 cases h with
 |nul=>
  refine⟨.nul,?_,?_,υ _⟩
  ·simp only[fM,ht,hs,γ];simp only[Y'] at hb;rw[hb];rfl
  ·simp;exact .nul
 |sl es h=>
  refine⟨.sl ((es.take r).drop l),?_,?_,by simp[Γ]⟩
  ·simp only[fM,ht,hs,γ]
   have:rR s es=true:=by
    cases es with
    |nil=>rfl
    |cons e es=>obtain⟨h1,h2⟩:=h e (κ ..);simp[rR,h1,h2]
   rw[if_pos this];simp only[P8] at hb;rw[hb];rfl
  ·have:=Rows.sl (st:=st) (s:=s) ((es.take r).drop l) fun e he=>h e (Z5 (AN he))
   simpa[Qad,Qae] using this
 |win k aE off es ar c hm hl he=>
  have hlen:((es.take r).drop l).length=r-l:=by simp;omega
  refine⟨.win k aE (off+l*s) (r-l) s,?_,?_,by simp[Γ]⟩
  ·simp only[fM,ht,hs,γ,if_true,hb];rfl
  ·have h1:l*s+(r-l)*s≤es.length*s:=by rw[←ς];exact ξ s (by omega)
   have:=Rows.win (st:=st) (s:=s) k aE (off+l*s) ((es.take r).drop l) ar c hm (by rw[hlen];omega) (fun i e hi=>by
    rw[Qa9,Cr] at hi
    split at hi
    ·have:=he _ _ hi;rw[←this,ς];congr 2;omega
    ·cases hi)
   rwa [hlen] at this
inductive Acc (N:Nat) (st:St) (s:Nat):D→List (List D)→Prop where
 |nul:Acc N st s .nul []
 |win (k aE:Nat) (es:List (List D)) (hN:N≤k) (hm:st.bs[k]?=some (.mem aE true es.flatten)) (he:∀e∈es,e.length=s):Acc N st s (.win k aE 0 es.length s) es
theorem dV {s:Nat}:∀{es:List (List D)},(∀e∈es,e.length=s)→es.flatten.length=es.length*s
 |[],_=>by simp
 |e::es,h=>by
  have:=dV (s:=s) (es:=es) fun x hx=>h x (μ _ hx);simp only[Δ,ψ,ο,this,h e (κ ..)];rw[ς];omega
theorem oq {s:Nat}:∀{es:List (List D)},(∀e∈es,e.length=s)→∀(i:Nat) e,es[i]?=some e→(es.flatten.drop (i*s)).take s=e
 |[],_,i,e,h=>by simp at h
 |x::es,h,0,e,hi=>by
  simp at hi;subst hi;have:=h x (κ ..);simp[Qa3 this]
 |x::es,h,i+1,e,hi=>by
  simp only[ν] at hi;have hx:=h x (κ ..);have:=oq (s:=s) (es:=es) (fun y hy=>h y (μ _ hy)) i e hi;rw[←this,Δ,ς,Zn,Pd,←hx,←φ,List.drop_left]
variable{c:List D}
theorem St.mem_of {st:St} {aE:Nat} {ar:Bool} (h:st.bs[k]?=some (.mem aE ar c)):st.ib k aE=some (ar,c):=by
 simp only[Qan,h,if_true]
theorem Acc.rows {N:Nat} {st:St} (h:Acc N st s x es):Rows st s x es:=by
 cases h with
 |nul=>exact .nul
 |win k aE es hN hm he=>
  exact .win k aE 0 es true es.flatten (St.mem_of hm) (by rw[dV he];omega) fun i e hi=>by rw[Qa7];exact oq he i e hi
theorem Acc.ex {N M:Nat} {st:St} (h:Ex M st ai) (hr:Acc N st s x es) (hx:x.ref≤M):Acc N ai s x es:=by
 cases hr with
 |nul=>exact .nul
 |win k aE es hN hm he=>exact .win k aE es hN (by rw[h.low k (by simp only[Γ] at hx;omega)];exact hm) he
theorem Acc.push {N:Nat} {st:St} (hr:Acc N st s x es) (b:lu):Acc N (st.push b) s x es:=by
 cases hr with
 |nul=>exact .nul
 |win k aE es hN hm he=>
  refine .win k aE es hN ?_ he;simp only[Ω];rw[ρ];exact hm
  rcases ω k st.bs.length with h'|h'
  ·exact h'
  ·rw[θ h'] at hm;cases hm
theorem Rows.row {st:St} (h:Rows st s x es):su st x=some (es.length,es.flatten):=by
 have hl:=h.yD
 cases h with
 |nul=>rfl
 |sl es h=>
  simp only[su,P8];rw[List.flatMap_def]
 |win k aE off es ar c hm j7 he=>
  simp only[su,hm,γ,if_pos j7]
  congr 2
  have key:∀(es:List (List D)) (c:List D),es.length*s≤c.length→(∀(i:Nat) e,es[i]?=some e→(c.drop (i*s)).take s=e)→c.take (es.length*s)=es.flatten:=by
   intro es
   induction es with
   |nil=>intro c _ _;simp
   |cons e es ih=>
    intro c hc hx;have h0:=hx 0 e rfl;simp only[Nat.zero_mul,JS] at h0;rw[Δ,ο,ς,Zn,Pd,Qaf,h0]
    congr 1
    simp only[ο,ς,Zn] at hc;refine ih (c.drop s) (by simp;omega) fun i e hi=>?_;rw[φ,←hx (i+1) e (by simpa using hi),ς,Zn,Pd]
  refine key es (c.drop off) (by simp;omega) fun i e hi=>?_;rw[φ];exact he i e hi
variable{y:D}{ys:List (List D)}{z:List D}
theorem Acc.append {P:Pv} {N:Nat} {st:St} (hr:Acc N st s x es) (hy:Rows st s y ys) {t1 t2 e:TypeId} {td:TypeDesc} {inf:TypeInfo} (h1:P.db t1=some (.slice e)) (h2:P.db t2=some td) (h3:gD td=false) (h4:P.info e=some inf) (h5:ec P e=some z) (h6:inf.size=s) (h7:z.length=s) (h8:inf.bytes≠0) (hN:N≤st.bs.length) (hf:st.flr≤N) (du:st.ro≤N) (hb:(es.length+ys.length)*inf.bytes≤1099511627776):
  ∃x' ai,bW P .append [t1,t2] [x,y] st=some (x',ai)∧Acc N ai s x' (es++ys)∧Ex N st ai∧x'.ref≤ai.bs.length∧(∀k,k<st.bs.length→k+1≠x.ref→ai.bs[k]?=st.bs[k]?)∧(x'.ref=x.ref∨st.bs.length<x'.ref):=by
 have kL:=hy.row
 have zj:∀e∈ys,e.length=s:=fun e he=>by
  obtain⟨i,hi⟩:=GB he;exact hy.yD i e hi
 have mZ:=dV zj;subst h6;simp only[bW,jV,h1,h2,h3,AI,if_false,h4,h5,kL,γ];rw[if_neg (by rintro(h|h|h);exact h mZ;exact h8 h;exact h h7)]
 cases hr with
 |nul=>
  simp only[PR]
  by_cases h0:ys.length=0
  ·rw[if_pos h0]
   have:ys=[]:=by cases ys with|nil=>rfl|cons _ _=>simp at h0
   subst this;exact⟨.nul,st,rfl,.nul,Ex.refl _ _,by simp[Γ],fun _ _ _=>rfl,.inl rfl⟩
  ·rw[if_neg h0,if_pos (by simpa using hb)];refine⟨_,_,rfl,?_,Ex.push hN _,by simp[Γ,Ω],fun k hk _=>by simp only[Ω];rw[ρ hk],.inr (by simp[Γ])⟩;exact .win _ _ ys hN (by simp[Ω]) zj
 |win k aE es hk hm he=>
  have kq:k<st.bs.length:=by
   rcases ω k st.bs.length with h'|h'
   ·exact h'
   ·rw[θ h'] at hm;cases hm
  simp only[St.mem_of hm];rw[if_neg (by rintro(h|h);exact h rfl;rw[dV he] at h;omega)]
  by_cases h0:ys.length=0
  ·rw[if_pos h0]
   have:ys=[]:=by cases ys with|nil=>rfl|cons _ _=>simp at h0
   subst this;simp only[Qa1];exact⟨_,st,rfl,.win k aE es hk hm he,Ex.refl _ _,by simp only[Γ];omega,fun _ _ _=>rfl,.inl rfl⟩
  ·rw[if_neg h0,if_pos ⟨hb,by simp only[Qao,χ,OF,decide_eq_true_eq];exact⟨by omega,.inl (by omega)⟩⟩];refine⟨_,_,rfl,?_,Ex.set hk _,by simp only[Γ,Θ];omega,fun j hj hne=>by simp only;rw[ε (by simp only[Γ] at hne;omega)],.inl rfl⟩
   have:(es.flatten.take (0+es.length*inf.size)).drop 0++ys.flatten=(es++ys).flatten:=by
    rw[Qa7,←dV he,wt,JS,Bv]
   rw[this];have px:es.length+ys.length=(es++ys).length:=by simp
   rw[px]
   exact .win k (aE+1) (es++ys) hk (by simp[kq]) fun e h=>by
    rcases Qac.1 h with h|h
    ·exact he e h
    ·exact zj e h
def dh:D→Bool
 | .bool _| .int _ _| .str _| .sl _=>true
 |_=>false
theorem nY {st:St} {N n:Nat}:∀{l:List D},(∀d∈l,dh d=true)→jZ (gJ st N (n+1)) l=some l
 |[],_=>rfl
 |d::l,h=>by
  have h1:=h d (κ ..);have h2:=nY (st:=st) (N:=N) (n:=n) fun x hx=>h x (μ _ hx);have h3:gJ st N (n+1) d=some d:=by cases d<;>simp[dh] at h1<;>rfl
  simp only[jZ,h3,h2]
def ml (s:Nat) (e:List D):D:=match s with|1=>e.headD .bI|_=>.agg e
theorem jo {s:Nat}:∀{es:List (List D)},(∀e∈es,e.length=s)→chunk s es.length es.flatten=es.map (ml s)
 |[],_=>rfl
 |e::es,h=>by
  have he:=h e (κ ..);have ih:=jo (s:=s) (es:=es) fun x hx=>h x (μ _ hx);simp only[ο,chunk,Δ,π]
  congr 1
  ·by_cases hs:s=1
   ·subst hs
    cases e with
    |nil=>simp at he
    |cons x xs=>simp[ml]
   ·have h1:ml s e=.agg e:=by unfold ml;split;exact absurd rfl hs;rfl
    have h2:(match s with|1=>(e++es.flatten).headD .bI|_=>D.agg ((e++es.flatten).take s))=.agg e:=by
     split
     ·exact absurd rfl hs
     ·rw[Qa3 he]
    rw[h1];exact h2
  ·rw[Qa2 he];exact ih
theorem Acc.freeze {N:Nat} {st:St} (h:Acc N st s x es) (hp:∀e∈es,∀d∈e,dh d=true) {n:Nat} (hn:2≤n):bA st N false (n+1) x=some (.sl (es.map (ml s))):=by
 obtain⟨n,rfl⟩:∃m,n=m+2:=⟨n-2,by omega⟩
 cases h with
 |nul=>rfl
 |win k aE es hN hm he=>
  show(if k<N then some (D.win k aE 0 es.length s) else gJ st N (n+2) (.win k aE 0 es.length s))=_;rw[if_neg (show¬k<N by omega),gJ];simp only[if_neg (show¬k<N by omega),St.mem_of hm,γ];rw[if_pos (by rw[dV he];omega)];have:(es.flatten.drop 0).take (es.length*s)=es.flatten:=by rw[JS,←dV he,wt]
  rw[this,nY (fun d hd=>by
   obtain⟨e,vO,H5⟩:=tn.1 hd
   exact hp e vO d H5)]
  simp only[δ,jo he]
theorem qM {e:List D} (h:e.length=s) (hp:∀d∈e,dh d=true):(ml s e).cells?=some (ml s e).cells∧(ml s e).cells=e:=by
 by_cases hs:s=1
 ·subst hs
  match e,h with
  |[x],_=>
   have:=hp x (κ ..);cases x<;>simp[dh] at this<;>exact⟨rfl,rfl⟩
 ·have:ml s e=.agg e:=by unfold ml;split;exact absurd rfl hs;rfl
  rw[this];exact⟨rfl,rfl⟩
theorem Rows.sC {st:St} (h:∀e∈es,e.length=s) (hp:∀e∈es,∀d∈e,dh d=true):Rows st s (.sl (es.map (ml s))) es:=by
 have:=Rows.sl (st:=st) (s:=s) (es.map (ml s)) fun d hd=>by
  obtain⟨e,he,rfl⟩:=hD.1 hd;obtain⟨h1,h2⟩:=qM (h e he) (hp e he);exact⟨h1,by rw[h2];exact h e he⟩
 have h2:(es.map (ml s)).map Qa0=es:=by
  rw[Qah]
  conv=>rhs;rw[←Qaj es]
  refine Qa8 fun e he=>?_;exact(qM (h e he) (hp e he)).2
 rwa [h2] at this
theorem Rows.bs {st:St} (h:ai.bs=st.bs) (hr:Rows st s x es):Rows ai s x es:=by
 cases hr with
 |nul=>exact .nul
 |sl es h=>exact .sl es h
 |win k aE off es ar c hm hl he=>exact .win k aE off es ar c (by simp only[Qan,h] at hm⊢;exact hm) hl he
theorem Nb (m:Mode) (st:St):(ae m st).bs=st.bs:=by cases m<;>rfl
theorem Rows.enter {st:St} (m:Mode) (hr:Rows st s x es):Rows (ae m st) s x es:=hr.bs (Nb m st)
theorem ct {k:IntKind} {m:Nat} (h:m≤ic k):bJ k (m:Int)=m:=by
 show bJ k (.ofNat m)=_;unfold bJ;simp only[Nat.ble_eq_true_of_le h];rfl
theorem wrap_i64 {n : Int} (h1 : -9223372036854775808 ≤ n) (h2 : n ≤ 9223372036854775807) : bJ .i64 n = n := by
  cases n with
  | ofNat m => exact ct (k := .i64) (m := m) (by simp only [ic]; have : (Int.ofNat m) = (m : Int) := rfl; omega)
  | negSucc m =>
    unfold bJ
    have : τ (BG .i64) m = false := by
      cases hb : τ (BG .i64) m with
      | false => rfl
      | true => have := Ψ hb; simp only [BG] at this; have : Int.negSucc m = -(m : Int) - 1 := by omega
                omega
    simp only [this]
variable{w:Nat}
theorem bv_and {a b:Nat} (ha:a<2^w) (hb:b<2^w):(AT w (a:Int) &&&AT w (b:Int)).toNat=a &&&b:=by
 rw[VM,VM,BitVec.toNat_and,BY,BY,IT ha,IT hb]
theorem Ya {a b:Nat} (ha:a<2^w) (hb:b<2^w):(AT w (a:Int)|||AT w (b:Int)).toNat=a|||b:=by
 rw[VM,VM,BitVec.toNat_or,BY,BY,IT ha,IT hb]
variable{b:Int}
theorem gu {a:Int} (h:a=b):(a==b)=true:=by simp[h]
theorem jr {a:Int} (h:a≠b):(a==b)=false:=by simp[h]
theorem gr {a:Int} (h:a≠b):(a !=b)=true:=by simp[h]
theorem jq {a:Int} (h:a=b):(a !=b)=false:=by simp[h]
variable{P:Pv} {ops:Array Oper} {rest:List Oper} {n:Nat} {loc:List D} {tmp:List (Nat×D)} {st:St} {Q:Fr→St→Prop} {ty:TypeId} {p:String} {a:Array Edge} {g:Option (Nat×Bool)} {dst:Nat}
theorem ab.len {t e:TypeId} {xo:Operand} (nN:τ n dst=true) (hg:aH ops ⟨n,loc,tmp⟩ ⟨some dst,.call ⟨.builtin .len,#[xo],#[t]⟩,ty,p,a,g⟩=some true) (hx:YQ ⟨n,loc,tmp⟩ xo=x) (hR:Rows st s x es) (ht:P.db t=some (.slice e)) (h:ab P ops rest ⟨n,loc,(dst,(.int .i64 (es.length:Nat)))::tmp⟩ st Q):ab P ops (⟨some dst,.call ⟨.builtin .len,#[xo],#[t]⟩,ty,p,a,g⟩::rest) ⟨n,loc,tmp⟩ st Q:=by
 refine ab.T nN hg rfl (d:=.int .i64 (es.length:Nat)) (st1:=st) ?_ h;simp only[eS,π,Q5,hx];exact hR.Qx ht
theorem ab.slice {t e:TypeId} {xo:Operand} {lo hi:Option Operand} (nN:τ n dst=true) (hg:aH ops ⟨n,loc,tmp⟩ ⟨some dst,.slice t xo lo hi none,ty,p,a,g⟩=some true) (hx:YQ ⟨n,loc,tmp⟩ xo=x) (hR:Rows st s x es) (ht:P.db t=some (.slice e)) (hs:c9 P e=some s) (hb:cF es.length (lo.map (YQ ⟨n,loc,tmp⟩)) (hi.map (YQ ⟨n,loc,tmp⟩))=some (l,r)) (sW:l≤r∧r≤es.length) (h:∀y,Rows st s y ((es.take r).drop l)→y.ref≤x.ref→ab P ops rest ⟨n,loc,(dst,y)::tmp⟩ st Q):ab P ops (⟨some dst,.slice t xo lo hi none,ty,p,a,g⟩::rest) ⟨n,loc,tmp⟩ st Q:=by
 obtain⟨y,h1,h2,h3⟩:=hR.slice ht hs hb sW;refine ab.T nN hg rfl (d:=y) (st1:=st) ?_ (h y h2 h3);simp only[eS,hx,h1,δ]
theorem ab.append {N:Nat} {t1 t2 e:TypeId} {td:TypeDesc} {inf:TypeInfo} {xo yo:Operand} (nN:τ n dst=true) (hg:aH ops ⟨n,loc,tmp⟩ ⟨some dst,.call ⟨.builtin .append,#[xo,yo],#[t1,t2]⟩,ty,p,a,g⟩=some true) (hx:YQ ⟨n,loc,tmp⟩ xo=x) (hy:YQ ⟨n,loc,tmp⟩ yo=y) (hr:Acc N st s x es) (mz:Rows st s y ys) (h1:P.db t1=some (.slice e)) (h2:P.db t2=some td) (h3:gD td=false) (h4:P.info e=some inf) (h5:ec P e=some z) (h6:inf.size=s) (h7:z.length=s) (h8:inf.bytes≠0) (hN:N≤st.bs.length) (hf:st.flr≤N) (du:st.ro≤N) (hb:(es.length+ys.length)*inf.bytes≤1099511627776) (h:∀x' ai,Acc N ai s x' (es++ys)→Ex N st ai→x'.ref≤ai.bs.length→(∀k,k<st.bs.length→k+1≠x.ref→ai.bs[k]?=st.bs[k]?)→(x'.ref=x.ref∨st.bs.length<x'.ref)→ab P ops rest ⟨n,loc,(dst,x')::tmp⟩ ai Q):
  ab P ops (⟨some dst,.call ⟨.builtin .append,#[xo,yo],#[t1,t2]⟩,ty,p,a,g⟩::rest) ⟨n,loc,tmp⟩ st Q:=by
 obtain⟨x',ai,q1,q2,q3,q4,q5,q6⟩:=hr.append mz h1 h2 h3 h4 h5 h6 h7 h8 hN hf du hb;refine ab.T nN hg rfl (d:=x') (st1:=ai) ?_ (h x' ai q2 q3 q4 q5 q6);simp only[eS,π,Q5,hx,hy];exact q1
theorem Rows.one {st:St} (hc:c.length=s):Rows (st.push (.mem 0 true c)) s (.win st.bs.length 0 0 1 s) [c]:=by
 have:=Rows.win (st:=st.push (.mem 0 true c)) (s:=s) st.bs.length 0 0 [c] true c (St.mem_of (by simp[Ω])) (by simp[hc]) fun i e hi=>by
  cases i with
  |zero=>simp at hi;subst hi;simp[←hc]
  |succ i=>simp at hi
 exact this
theorem Rows.ref {st:St} (h:Rows st s x es):x.ref≤st.bs.length:=by
 cases h with
 |nul=>simp[Γ]
 |sl es h=>simp[Γ]
 |win k aE off es ar c hm hl he=>
  simp only[Γ]
  rcases ω k st.bs.length with h'|h'
  ·exact h'
  ·simp only[Qan,θ h'] at hm;cases hm
theorem Acc.ref {N:Nat} {st:St} (h:Acc N st s x es):x.ref≤st.bs.length:=h.rows.ref
end Go.V
namespace Go.V
theorem iZ:∀(xs c:List D) (off:Nat),off+xs.length≤c.length→setMany c off xs=c.take off++xs++c.drop (off+xs.length)
 |[],c,off,h=>by simp[setMany]
 |x::xs,c,off,h=>by
  simp only[setMany];simp only[ο] at h;rw[iZ xs (c.set off x) (off+1) (by simp;omega)]
  have h1:(c.set off x).take (off+1)=c.take off++[x]:=by
   rw[List.take_set,List.take_add_one,List.getElem?_eq_getElem (by omega:off<c.length)];simp only[Option.toList_some];rw[Qa6 _ _ (by simp;omega)];have:off-(c.take off).length=0:=by simp;omega
   rw[this];rfl
  have h2:(c.set off x).drop (off+1+xs.length)=c.drop (off+(xs.length+1)):=by
   rw[List.drop_set_of_lt (by omega)];congr 1;omega
  rw[h1,h2];simp[ο]
theorem De (n:Nat) (d:D):fV n [d]=IN n d:=by
 simp[fV]
variable{k:Nat}
theorem sB {st:St} {b b':lu} (hk:k=st.bs.length):(⟨(st.push b).bs.set k b',(st.push b).flr,(st.push b).ro⟩:St)=st.push b':=by
 subst hk;simp[Ω,Qa6]
theorem iS (st:St) (b:lu):(st.push b).bs[st.bs.length]?=some b:=by simp[Ω]
variable{P:Pv} {ops:Array Oper} {rest:List Oper} {n:Nat} {loc:List D} {tmp:List (Nat×D)} {st:St} {Q:Fr→St→Prop} {ty:TypeId} {p:String} {a:Array Edge} {g:Option (Nat×Bool)} {dst:Nat}
variable{m:Nat}
theorem ab.makeSlice {t e:TypeId} {lo co:Operand} {k1 k2:IntKind} {inf:TypeInfo} {z:List D} (nN:τ n dst=true) (hg:aH ops ⟨n,loc,tmp⟩ ⟨some dst,.makeSlice t lo co,ty,p,a,g⟩=some true) (hl:YQ ⟨n,loc,tmp⟩ lo=.int k1 (m:Nat)) (hc:YQ ⟨n,loc,tmp⟩ co=.int k2 (m:Nat)) (ht:P.db t=some (.slice e)) (hi:P.info e=some inf) (hz:ec P e=some z) (oB:z.length=inf.size) (hm:m*inf.bytes≤140737488355328) (D9:m≤9223372036854775807) (h:ab P ops rest ⟨n,loc,(dst,.win st.bs.length 0 0 m inf.size)::tmp⟩ (st.push (.mem 0 true (fV m z))) Q):ab P ops (⟨some dst,.makeSlice t lo co,ty,p,a,g⟩::rest) ⟨n,loc,tmp⟩ st Q:=by
 refine ab.T nN hg rfl (d:=.win st.bs.length 0 0 m inf.size) (st1:=st.push (.mem 0 true (fV m z))) ?_ h;simp only[eS,hl,hc,jf,ht,hi,hz,γ];rw[if_pos ⟨oB,by omega,by omega,by omega,by rw[←Int.natCast_mul];omega⟩]
 rfl
variable{aE:Nat}{ar:Bool}{c:List D}
theorem nO {off:Nat} {cs:List D} (hm:st.bs[k]?=some (.mem aE ar c)) (hl:off+cs.length≤c.length) (hw:st.ku k (refs cs)=true):st.wr k aE off cs=some {st with bs:=st.bs.set k (.mem aE ar (c.take off++cs++c.drop (off+cs.length)))}:=by
 simp only[St.wr,St.mem_of hm];rw[if_pos ⟨hl,hw⟩,iZ _ _ _ hl]
variable{r:Nat}
theorem yP {N:Nat} (hk:N≤k) (hf:st.flr≤N) (du:st.ro≤N):st.ku k r=true:=by
 simp only[Qao,χ,OF,decide_eq_true_eq];exact⟨by omega,.inl (by omega)⟩
theorem nH (du:st.ro≤k):st.ku k 0=true:=by
 simp only[Qao,χ,OF,decide_eq_true_eq];exact⟨du,.inr (.inl (by omega))⟩
variable{s:Nat}
theorem ab.copy {t1 t2 e:TypeId} {do_ so:Operand} {off len:Nat} {y:D} {ys:List (List D)} (nN:τ n dst=true) (hg:aH ops ⟨n,loc,tmp⟩ ⟨some dst,.call ⟨.builtin .copy,#[do_,so],#[t1,t2]⟩,ty,p,a,g⟩=some true) (hd:YQ ⟨n,loc,tmp⟩ do_=.win k aE off len s) (hy:YQ ⟨n,loc,tmp⟩ so=y) (hR:Rows st s y ys) (ht:P.db t1=some (.slice e)) (hs:c9 P e=some s) (hm:st.bs[k]?=some (.mem aE ar c)) (hl:off+len*s≤c.length) (hw:st.ku k (refs (ys.flatten.take (min ys.length len*s)))=true) (h:ab P ops rest ⟨n,loc,(dst,.int .i64 (min ys.length len:Nat))::tmp⟩ {st with bs:=st.bs.set k (.mem aE ar (c.take off++ys.flatten.take (min ys.length len*s)++c.drop (off+min ys.length len*s)))} Q):
  ab P ops (⟨some dst,.call ⟨.builtin .copy,#[do_,so],#[t1,t2]⟩,ty,p,a,g⟩::rest) ⟨n,loc,tmp⟩ st Q:=by
 have zj:∀e∈ys,e.length=s:=fun e he=>by
  obtain⟨i,hi⟩:=GB he;exact hR.yD i e hi
 have mZ:=dV zj;have D8:min ys.length len*s≤ys.length*s:=ξ s (Nat.min_le_left _ _);have acs:min ys.length len*s≤len*s:=ξ s (Nat.min_le_right _ _);have mO:(ys.flatten.take (min ys.length len*s)).length=min ys.length len*s:=by rw[VT,mZ];omega
 refine ab.T nN hg rfl (d:=.int .i64 (min ys.length len:Nat)) (st1:={st with bs:=st.bs.set k (.mem aE ar (c.take off++ys.flatten.take (min ys.length len*s)++c.drop (off+min ys.length len*s)))}) ?_ h;simp only[eS,π,Q5,hd,hy,bW,AY,ht,hs,γ,hR.row];rw[if_neg (by simp[mZ])];simp only[ne_eq,not_true_eq_false,if_false];have:=nO (st:=st) hm (cs:=ys.flatten.take (min ys.length len*s)) (off:=off) (by rw[mO];omega) hw;rw[this,mO];rfl
variable{ao vo:Operand}{v:D}
theorem ab.store {fr:Fr} {t:TypeId} {off:Nat} {cs:List D} (hg:aH ops fr ⟨none,.store t ao vo,ty,p,a,g⟩=some true) (ha:fr.ev ao=.ptr k aE off) (hv:fr.ev vo=v) (kZ:v.cells?=some cs) (hs:c9 P t=some cs.length) (hm:st.bs[k]?=some (.mem aE ar c)) (hl:off+cs.length≤c.length) (hw:st.ku k (refs cs)=true) (h:ab P ops rest fr {st with bs:=st.bs.set k (.mem aE ar (c.take off++cs++c.drop (off+cs.length)))} Q):ab P ops (⟨none,.store t ao vo,ty,p,a,g⟩::rest) fr st Q:=by
 refine ab.N hg rfl (d:=.tup []) (st1:=_) ?_ h;simp only[eS,ha,hv,mK,kZ,hs];rw[if_pos trivial,nO hm hl hw];rfl
variable{d:D}
theorem ab.load {t:TypeId} {off:Nat} (nN:τ n dst=true) (hg:aH ops ⟨n,loc,tmp⟩ ⟨some dst,.load t ao,ty,p,a,g⟩=some true) (ha:YQ ⟨n,loc,tmp⟩ ao=.ptr k aE off) (hm:st.bs[k]?=some (.mem aE ar c)) (hd:fx P t (c.drop off)=some d) (h:ab P ops rest ⟨n,loc,(dst,d)::tmp⟩ st Q):ab P ops (⟨some dst,.load t ao,ty,p,a,g⟩::rest) ⟨n,loc,tmp⟩ st Q:=by
 refine ab.T nN hg rfl (d:=d) (st1:=st) ?_ h;simp only[eS,ha,j6,St.mem_of hm,γ,hd,δ]
variable{io:Operand}{kk:IntKind}
theorem ab.LV {t e:TypeId} {xo:Operand} {d1:Nat} {T7 oT:TypeId} {p1 p2:String} {a1 a2:Array Edge} {g1 g2:Option (Nat×Bool)} {i:Int} {off len:Nat} {cs:List D} (hb1:τ n d1=true) (mY:aH ops ⟨n,loc,tmp⟩ ⟨some d1,.indexAddr t xo io,T7,p1,a1,g1⟩=some true) (br:aH ops ⟨n,loc,(d1,.ptr k aE (off+i.toNat*s))::tmp⟩ ⟨none,.store e (.tmp d1) vo,oT,p2,a2,g2⟩=some true) (hx:YQ ⟨n,loc,tmp⟩ xo=.win k aE off len s) (hi:YQ ⟨n,loc,tmp⟩ io=.int kk i) (hv:YQ ⟨n,loc,(d1,.ptr k aE (off+i.toNat*s))::tmp⟩ vo=v) (ht:P.db t=some (.slice e)) (hs:c9 P e=some s) (kZ:v.cells?=some cs) (hcl:cs.length=s) (h0:0≤i) (hlt:i<len) (hm:st.bs[k]?=some (.mem aE ar c)) (hl:off+len*s≤c.length) (hw:st.ku k (refs cs)=true) (h:ab P ops rest ⟨n,loc,(d1,.ptr k aE (off+i.toNat*s))::tmp⟩ {st with bs:=st.bs.set k (.mem aE ar (c.take (off+i.toNat*s)++cs++c.drop (off+i.toNat*s+s)))} Q):
  ab P ops (⟨some d1,.indexAddr t xo io,T7,p1,a1,g1⟩::⟨none,.store e (.tmp d1) vo,oT,p2,a2,g2⟩::rest) ⟨n,loc,tmp⟩ st Q:=by
 have h3:(i.toNat+1)*s≤len*s:=ξ s (by omega);rw[ς,Zn] at h3;refine ab.T hb1 mY rfl (d:=.ptr k aE (off+i.toNat*s)) (st1:=st) ?_ ?_
 ·simp only[eS,hx,hi,cJ,ht,hs,γ,St.mem_of hm,Cf];rw[if_pos ⟨trivial,h0,hlt,trivial⟩];rfl
 refine ab.N br rfl (d:=.tup []) (st1:=_) ?_ h
 have ax:YQ ⟨n,loc,(d1,.ptr k aE (off+i.toNat*s))::tmp⟩ (.tmp d1)=.ptr k aE (off+i.toNat*s):=by
  simp only[YQ,Qap,hb1,look,Qal]
 simp only[eS,ax,hv,mK,kZ,hs,if_pos hcl.symm,hcl];have:=nO (st:=st) hm (cs:=cs) (off:=off+i.toNat*s) (by omega) hw;rw[hcl] at this;rw[if_pos trivial,this];rfl
theorem ab.next {pos:Nat} {b:List UInt8} (nN:τ n dst=true) (hg:aH ops ⟨n,loc,tmp⟩ ⟨some dst,.next io true,ty,p,a,g⟩=some true) (hx:YQ ⟨n,loc,tmp⟩ io=.ptr k 0 0) (hm:st.bs[k]?=some (.iter b pos)) (hp:pos<b.length) (hw:st.ku k 0=true) (h:ab P ops rest ⟨n,loc,(dst,.tup [.bool true,.int .i64 (pos:Nat),.int .i32 ((Utf8.decode ⟨b.toArray⟩ pos).1:Nat)])::tmp⟩ {st with bs:=st.bs.set k (.iter b (pos+(Utf8.decode ⟨b.toArray⟩ pos).2))} Q):ab P ops (⟨some dst,.next io true,ty,p,a,g⟩::rest) ⟨n,loc,tmp⟩ st Q:=by
 refine ab.T nN hg rfl (d:=.tup [.bool true,.int .i64 (pos:Nat),.int .i32 ((Utf8.decode ⟨b.toArray⟩ pos).1:Nat)]) (st1:={st with bs:=st.bs.set k (.iter b (pos+(Utf8.decode ⟨b.toArray⟩ pos).2))}) ?_ h;simp only[eS,hx,Ad,hm,if_pos hp,hw,if_true]
theorem ab.nb {t e:TypeId} {xo:Operand} {lo hi:Option Operand} {v off l:Nat} (nN:τ n dst=true) (hg:aH ops ⟨n,loc,tmp⟩ ⟨some dst,.slice t xo lo hi none,ty,p,a,g⟩=some true) (hx:YQ ⟨n,loc,tmp⟩ xo=.ptr k v off) (ht:P.db t=some (.array m e)) (hs:c9 P e=some s) (hm:st.bs[k]?=some (.mem v ar c)) (hl:off+m*s≤c.length) (hb:cF m (lo.map (YQ ⟨n,loc,tmp⟩)) (hi.map (YQ ⟨n,loc,tmp⟩))=some (l,r)) (h:ab P ops rest ⟨n,loc,(dst,.win k v (off+l*s) (r-l) s)::tmp⟩ st Q):ab P ops (⟨some dst,.slice t xo lo hi none,ty,p,a,g⟩::rest) ⟨n,loc,tmp⟩ st Q:=by
 refine ab.T nN hg rfl (d:=.win k v (off+l*s) (r-l) s) (st1:=st) ?_ h;simp only[eS,hx,fM,ht,hs,γ,St.mem_of hm,if_pos hl,hb,δ]
theorem ab.RI {t e:TypeId} {xo:Operand} {v off:Nat} {i:Nat} (nN:τ n dst=true) (hg:aH ops ⟨n,loc,tmp⟩ ⟨some dst,.indexAddr t xo io,ty,p,a,g⟩=some true) (hx:YQ ⟨n,loc,tmp⟩ xo=.ptr k v off) (hi:YQ ⟨n,loc,tmp⟩ io=.int kk (i:Nat)) (ht:P.db t=some (.array m e)) (hs:c9 P e=some s) (hlt:i<m) (h:ab P ops rest ⟨n,loc,(dst,.ptr k v (off+i*s))::tmp⟩ st Q):ab P ops (⟨some dst,.indexAddr t xo io,ty,p,a,g⟩::rest) ⟨n,loc,tmp⟩ st Q:=by
 refine ab.T nN hg rfl (d:=.ptr k v (off+i*s)) (st1:=st) ?_ h;simp only[eS,hx,hi,cJ,ht,hs,γ];rw[if_pos ⟨by omega,by omega⟩];rfl
structure G9 (N k:Nat) (st ai:St):Prop where
 low:∀i,i<N→i≠k→ai.bs[i]?=st.bs[i]?
 len:st.bs.length≤ai.bs.length
 flr:ai.flr=st.flr
 ro:ai.ro=st.ro
variable{b:St}
theorem G9.of {N:Nat} {a c:St} (h:G9 N k a b) (g:Ex N b c):G9 N k a c:=
 ⟨fun i hi hk=>(g.low i hi).trans (h.low i hi hk),VQ h.len g.len,g.flr.trans h.flr,g.ro.trans h.ro⟩
theorem G9.put {N:Nat} {a:St} (h:G9 N k a b) (bx:lu):G9 N k a ⟨b.bs.set k bx,b.flr,b.ro⟩:=
 ⟨fun i hi hk=>by simp only;rw[ε (fun e=>hk e.symm)];exact h.low i hi hk,by simp only[Θ];exact h.len,h.flr,h.ro⟩
theorem G9.take {a:St} (h:G9 a.bs.length k a b) (hk:k<a.bs.length) {bx:lu} (hb:b.bs[k]?=some bx):b.bs.take a.bs.length=a.bs.set k bx:=by
 apply bU;intro i;rw[Cr]
 by_cases hi:i<a.bs.length
 ·rw[if_pos hi]
  by_cases he:i=k
  ·subst he;rw[hb,ι hk]
  ·rw[h.low i hi he,ε (fun e=>he e.symm)]
 ·rw[if_neg hi,θ (by simp;omega)]
theorem xR {kn:Bool} {st st1:St} {d':D} {bs':List lu} (h1:st1.bs.take st.bs.length=bs') (hd:bA st1 st.bs.length kn 16 d=some d'):ez .rw kn st st1 d=some (d',⟨bs',st.flr,st.ro⟩):=by
 simp only[ez,hd,h1]
end Go.V
namespace Go.V
variable{P:Pv} {ops:Array Oper} {rest:List Oper} {n:Nat} {loc:List D} {tmp:List (Nat×D)} {st:St} {Q:Fr→St→Prop} {ty:TypeId} {p:String} {a:Array Edge} {g:Option (Nat×Bool)} {dst:Nat}
end Go.V
namespace Go.V
structure bo where
 K:Nat→Prop
 P:St→Prop
 loc:∀{st ai:St},(∀k,K k→ai.bs[k]?=st.bs[k]?)→P st→P ai
def bo.box (k:Nat) (b:lu):bo:=⟨fun j=>j=k,fun st=>st.bs[k]?=some b,fun h p=>(h k rfl).trans p⟩
inductive kA (st:St) (s:Nat):D→List (List D)→Prop where
 |nul:kA st s .nul []
 |win (k aE off:Nat) (es:List (List D)) (c:List D) (hm:st.bs[k]?=some (.mem aE true c)) (hl:off+es.length*s≤c.length) (hc:(c.drop off).take (es.length*s)=es.flatten) (he:∀e∈es,e.length=s):kA st s (.win k aE off es.length s) es
variable{ai:St}{s:Nat}{x:D}{es:List (List D)}
theorem kA.move {st:St} (h:∀k,x.ref=k+1→ai.bs[k]?=st.bs[k]?) (p:kA st s x es):kA ai s x es:=by
 cases p with
 |nul=>exact .nul
 |win k aE off es c hm hl hc he=>exact .win k aE off es c ((h k (by simp only[Γ])).trans hm) hl hc he
def bo.aF (x:D) (s:Nat) (es:List (List D)):bo:=⟨fun j=>x.ref=j+1,fun st=>kA st s x es,fun h p=>kA.move h p⟩
theorem kA.yD {st:St} (p:kA st s x es):∀e∈es,e.length=s:=by
 cases p with
 |nul=>intro e he;cases he
 |win k aE off es c hm hl hc he=>exact he
theorem kA.rows {st:St} (p:kA st s x es):Rows st s x es:=by
 cases p with
 |nul=>exact .nul
 |win k aE off es c hm hl hc he=>
  refine .win k aE off es true c (St.mem_of hm) hl fun i e hi=>?_
  have hil:i<es.length:=by
   rcases ω i es.length with h'|h'
   ·exact h'
   ·rw[θ h'] at hi;cases hi
  have h1:=oq he i e hi;rw[←hc,Φ,Ut,φ] at h1;have h2:(i+1)*s≤es.length*s:=ξ s hil;rw[ς,Zn] at h2
  rwa [ZD (by omega)] at h1
structure Has (N:Nat) (S st:St) (H:List bo):Prop where
 ex:Ex N S st
 hN:N≤S.bs.length
 du:S.ro≤N
 ok:∀(i:Nat) e,H[i]?=some e→e.P st∧∀k,e.K k→N≤k∧k<st.bs.length
 dis:∀(i j:Nat) a b,i≠j→H[i]?=some a→H[j]?=some b→∀k,a.K k→b.K k→False
theorem Has.start {N:Nat} {S:St} (hN:N≤S.bs.length) (du:S.ro≤N):Has N S S []:=
 ⟨Ex.refl _ _,hN,du,fun i e h=>by simp at h,fun i j a b _ h=>by simp at h⟩
theorem Has.len {N:Nat} {S st:St} {H:List bo} (h:Has N S st H):S.bs.length≤st.bs.length:=h.ex.len
variable{j:Nat}{e':bo}
theorem Has.Fc {N:Nat} {S st:St} {H:List bo} {e:bo} (h:Has N S st H) (hj:H[j]?=some e) (Gi:∀k,k<st.bs.length→¬e.K k→ai.bs[k]?=st.bs[k]?) (hlen:st.bs.length≤ai.bs.length) (hf:ai.flr=st.flr) (hr:ai.ro=st.ro) (hP:e'.P ai) (hK:∀k,e'.K k→e.K k∨st.bs.length≤k) (UR:∀k,e'.K k→k<ai.bs.length):Has N S ai (H.set j e'):=by
 have oH:j<H.length:=by
  rcases ω j H.length with h'|h'
  ·exact h'
  ·rw[θ h'] at hj;cases hj
 have hl:=h.ex.len;have hN:=h.hN;refine⟨⟨fun k hk=>?_,VQ hl hlen,hf.trans h.ex.flr,hr.trans h.ex.ro⟩,h.hN,h.du,fun i e0 hi=>?_,fun i i' a b hii ha hb k sX kQ=>?_⟩
 ·rw[Gi k (by omega) fun og=>by have:=((h.ok j e hj).2 k og).1;omega];exact h.ex.low k hk
 ·by_cases hij:i=j
  ·subst hij;rw[ι oH] at hi;cases hi;refine⟨hP,fun k hk=>⟨?_,UR k hk⟩⟩
   rcases hK k hk with h1|h1
   ·exact((h.ok i e hj).2 k h1).1
   ·omega
  ·rw[ε (fun e=>hij e.symm)] at hi;obtain⟨h1,h2⟩:=h.ok i e0 hi;refine⟨e0.loc (fun k hk=>Gi k (h2 k hk).2 fun og=>h.dis i j e0 e hij hi hj k hk og) h1,fun k hk=>⟨(h2 k hk).1,IS (h2 k hk).2 hlen⟩⟩
 ·have key:∀i a,i≠j→(H.set j e')[i]?=some a→a.K k→e'.K k→False:=by
   intro i a hij ha sX Vz;rw[ε (fun e=>hij e.symm)] at ha
   rcases hK k Vz with h1|h1
   ·exact h.dis i j a e hij ha hj k sX h1
   ·have:=((h.ok i a ha).2 k sX).2;omega
  by_cases hij:i=j
  ·subst hij;have gx:=hb;rw[ι oH] at ha;cases ha;exact key i' b (fun e=>hii e.symm) hb kQ sX
  ·by_cases VK:i'=j
   ·subst VK;rw[ι oH] at hb;cases hb;exact key i a hij ha sX kQ
   ·rw[ε (fun e=>hij e.symm)] at ha;rw[ε (fun e=>VK e.symm)] at hb;exact h.dis i i' a b hii ha hb k sX kQ
theorem Has.add {N:Nat} {S st:St} {H:List bo} (h:Has N S st H) (Gi:∀k,k<st.bs.length→ai.bs[k]?=st.bs[k]?) (hlen:st.bs.length≤ai.bs.length) (hf:ai.flr=st.flr) (hr:ai.ro=st.ro) (hP:e'.P ai) (hK:∀k,e'.K k→st.bs.length≤k∧k<ai.bs.length):Has N S ai (e'::H):=by
 have hl:=h.ex.len;have hN:=h.hN;refine⟨⟨fun k hk=>?_,VQ hl hlen,hf.trans h.ex.flr,hr.trans h.ex.ro⟩,h.hN,h.du,fun i e0 hi=>?_,fun i i' a b hii ha hb k sX kQ=>?_⟩
 ·rw[Gi k (by omega)];exact h.ex.low k hk
 ·cases i with
  |zero=>
   simp only[Zt,YH.injEq] at hi;subst hi;exact⟨hP,fun k hk=>⟨by have:=(hK k hk).1;omega,(hK k hk).2⟩⟩
  |succ i=>
   rw[ν] at hi;obtain⟨h1,h2⟩:=h.ok i e0 hi;exact⟨e0.loc (fun k hk=>Gi k (h2 k hk).2) h1,fun k hk=>⟨(h2 k hk).1,IS (h2 k hk).2 hlen⟩⟩
 ·cases i with
  |zero=>
   simp only[Zt,YH.injEq] at ha;subst ha
   cases i' with
   |zero=>exact hii rfl
   |succ i'=>
    rw[ν] at hb;have:=((h.ok i' b hb).2 k kQ).2;have:=(hK k sX).1;omega
  |succ i=>
   rw[ν] at ha
   cases i' with
   |zero=>
    simp only[Zt,YH.injEq] at hb;subst hb;have:=((h.ok i a ha).2 k sX).2;have:=(hK k kQ).1;omega
   |succ i'=>
    rw[ν] at hb;exact h.dis i i' a b (fun e=>hii (by rw[e])) ha hb k sX kQ
theorem Has.sub {N:Nat} {S st:St} {H H':List bo} (h:Has N S st H) (f:Nat→Nat) (hf:∀i j,f i=f j→i=j) (hs:∀i e,H'[i]?=some e→H[f i]?=some e):Has N S st H':=
 ⟨h.ex,h.hN,h.du,fun i e hi=>h.ok _ e (hs i e hi),fun i j a b hij ha hb=>h.dis (f i) (f j) a b (fun e=>hij (hf i j e)) (hs i a ha) (hs j b hb)⟩
theorem Has.erase {N:Nat} {S st:St} {H:List bo} (h:Has N S st H) (j:Nat):Has N S st (H.eraseIdx j):=by
 refine h.sub (fun i=>if i<j then i else i+1) (fun a b e=>?_) fun i e hi=>?_
 ·show a=b;have e':(if a<j then a else a+1)=(if b<j then b else b+1):=e
  split at e'<;>split at e'<;>omega
 ·show H[if i<j then i else i+1]?=some e;rw[ki] at hi
  split at hi<;>rename_i h'<;>simp[h',hi]
theorem Has.take {N:Nat} {S st:St} {H:List bo} (h:Has N S st H) (n:Nat):Has N S st (H.take n):=by
 refine h.sub id (fun a b e=>e) fun i e hi=>?_;rw[Cr] at hi;split at hi;exact hi;cases hi
theorem Has.drop {N:Nat} {S st:St} {H:List bo} (h:Has N S st H) (n:Nat):Has N S st (H.drop n):=by
 refine h.sub (fun i=>n+i) (fun a b e=>by omega) fun i e hi=>?_;rw[Qa9] at hi;exact hi
theorem Has.front {N:Nat} {S st:St} {H:List bo} (h:Has N S st H) {e:bo} (hj:H[j]?=some e):Has N S st (e::H.eraseIdx j):=by
 refine h.sub (fun i=>if i=0 then j else if i-1<j then i-1 else i) (fun a b e=>?_) fun i e' hi=>?_
 ·have e':(if a=0 then j else if a-1<j then a-1 else a)=(if b=0 then j else if b-1<j then b-1 else b):=e
  repeat' split at e'
  all_goals omega
 ·show H[if i=0 then j else if i-1<j then i-1 else i]?=some e'
  cases i with
  |zero=>rw[if_pos rfl];simp only[Zt,YH.injEq] at hi;subst hi;exact hj
  |succ i=>
   rw[if_neg (by omega),Nat.add_sub_cancel];rw[ν,ki] at hi
   split at hi<;>rename_i h'<;>simp[h',hi]
theorem Has.back {N:Nat} {S st:St} {H:List bo} {e:bo} (h:Has N S st (e::H.eraseIdx j)) (hj:j<H.length):Has N S st (H.set j e):=by
 refine h.sub (fun i=>if i=j then 0 else if i<j then i+1 else i) (fun a b e=>?_) fun i e' hi=>?_
 ·have e':(if a=j then 0 else if a<j then a+1 else a)=(if b=j then 0 else if b<j then b+1 else b):=e
  repeat' split at e'
  all_goals omega
 ·show(e::H.eraseIdx j)[if i=j then 0 else if i<j then i+1 else i]?=some e'
  by_cases hij:i=j
  ·subst hij;rw[ι hj] at hi;rw[if_pos rfl];simpa using hi
  ·rw[ε (fun e=>hij e.symm)] at hi;rw[if_neg hij]
   by_cases hlt:i<j
   ·rw[if_pos hlt,ν,ki,if_pos hlt];exact hi
   ·rw[if_neg hlt]
    obtain⟨i',rfl⟩:∃i',i=i'+1:=⟨i-1,by omega⟩
    rw[ν,ki,if_neg (by omega)];exact hi
theorem Has.fW {N:Nat} {S st:St} {H:List bo} (h:Has N S st H) (s:Nat):Has N S st (.aF .nul s []::H):=
 h.add (fun _ _=>rfl) (υ _) rfl rfl .nul fun k hk=>by simp only[bo.aF,Γ] at hk;omega
theorem Has.own {N:Nat} {S st:St} {H:List bo} (h:Has N S st H) (hj:H[j]?=some (.aF x s es)):kA st s x es:=(h.ok j _ hj).1
theorem Has.rows {N:Nat} {S st:St} {H:List bo} (h:Has N S st H) (hj:H[j]?=some (.aF x s es)):Rows st s x es:=(h.own hj).rows
variable{k:Nat}
theorem Has.at {N:Nat} {S st:St} {H:List bo} (h:Has N S st H) {b:lu} (hj:H[j]?=some (.box k b)):st.bs[k]?=some b:=(h.ok j _ hj).1
theorem Has.ge {N:Nat} {S st:St} {H:List bo} (h:Has N S st H) {b:lu} (hj:H[j]?=some (.box k b)):N≤k∧k<st.bs.length:=(h.ok j _ hj).2 k rfl
def Arg (N:Nat) (S:St) (s:Nat) (x:D) (es:List (List D)):Prop:=Rows S s x es∧x.ref≤N
theorem Arg.rows {N:Nat} {S st:St} {H:List bo} (hx:Arg N S s x es) (h:Has N S st H):Rows st s x es:=hx.1.ex h.ex hx.2
theorem Arg.of {st S:St} (hx:Rows st s x es) (hS:S.bs=st.bs):Arg st.bs.length S s x es:=⟨hx.bs hS,hx.ref⟩
theorem Arg.pure {N:Nat} {S:St} {es:List D} {rs:List (List D)} (hx:∀st,Rows st s (.sl es) rs):Arg N S s (.sl es) rs:=⟨hx S,by simp[Γ]⟩
theorem jT {N:Nat} {S st:St} {H:List bo} (h:Has N S st H) {cs:List D} (hk:N≤k) (hw:S.flr≤N∨refs cs=0):st.ku k (refs cs)=true:=by
 have h1:=h.ex.ro;have h2:=h.ex.flr;have h3:=h.du;simp only[Qao,χ,OF,decide_eq_true_eq];refine⟨by omega,?_⟩
 rcases hw with hw|hw
 ·exact .inl (by omega)
 ·exact .inr (.inl (by omega))
theorem Has.rE {N:Nat} {S st:St} {H:List bo} (h:Has N S st H) {aE:Nat} {b b':lu} (hj:H[j]?=some (.box k b)):Has N S ⟨st.bs.set k b',st.flr,st.ro⟩ (H.set j (.box k b')):=by
 have hk:=(h.ge hj).2;refine h.Fc hj (fun i hi hne=>?_) (by simp) rfl rfl ?_ (fun i hi=>.inl hi) fun i hi=>?_
 ·simp only;rw[ε (fun e=>hne e.symm)]
 ·show(st.bs.set k b')[k]?=_;rw[ι hk]
 ·cases hi;simpa using hk
theorem Has.p_ {N:Nat} {S st:St} {H:List bo} (h:Has N S st H) (b:lu):Has N S (st.push b) (.box st.bs.length b::H):=by
 refine h.add (fun i hi=>?_) (by simp[Ω]) rfl rfl ?_ fun i hi=>?_
 ·simp only[Ω];rw[ρ hi]
 ·exact iS st b
 ·cases hi;simp[Ω]
variable{m:Nat}
theorem Has.wj {N:Nat} {S st:St} {H:List bo} (h:Has N S st H) {cs:List D} (hm:es.length=m) (hc:es.flatten=cs) (he:∀e∈es,e.length=s):Has N S (st.push (.mem 0 true cs)) (.aF (.win st.bs.length 0 0 m s) s es::H):=by
 subst hm hc;refine h.add (fun i hi=>?_) (by simp[Ω]) rfl rfl ?_ fun i hi=>?_
 ·simp only[Ω];rw[ρ hi]
 ·have mZ:=dV he;exact kA.win _ 0 0 es es.flatten (iS st _) (by rw[mZ];omega) (by rw[JS,←mZ,wt]) he
 ·simp only[bo.aF,Γ] at hi;simp only[Ω,ψ,ο,Y'];omega
theorem oW:∀(xs c:List D) (off:Nat),(setMany c off xs).length=c.length
 |[],c,off=>rfl
 |x::xs,c,off=>by simp only[setMany];rw[oW xs];simp
theorem vD {s:Nat}:∀{es:List (List D)} {i:Nat} {e e':List D},(∀e∈es,e.length=s)→es[i]?=some e→e'.length=s→(es.set i e').flatten=es.flatten.take (i*s)++e'++es.flatten.drop (i*s+s)
 |[],i,e,e',_,hi,_=>by simp at hi
 |x::es,0,e,e',h,hi,he=>by
  simp at hi;subst hi;have:=h x (κ ..);simp[η,Qa2 this]
 |x::es,i+1,e,e',h,hi,he=>by
  have hx:=h x (κ ..);have ih:=vD (s:=s) (es:=es) (i:=i) (e:=e) (e':=e') (fun y hy=>h y (μ _ hy)) (by simpa using hi) he;rw[ζ,Δ,ih,Δ,ς,Zn,Pd (i*s) s,←hx,List.take_length_add_append,Qai,Qa4];simp only[v8];rw[Pd (i*x.length) x.length]
variable{aE i o:Nat}
theorem Has.Hq {N:Nat} {S st:St} {H:List bo} (h:Has N S st H) {off len:Nat} {e cs:List D} (hj:H[j]?=some (.aF (.win k aE off len s) s es)) (hi:es[i]?=some e) (hl:o+cs.length≤s) (hw:S.flr≤N∨refs cs=0):
  ∃ai,st.wr k aE (off+i*s+o) cs=some ai∧Has N S ai (H.set j (.aF (.win k aE off len s) s (es.set i (setMany e o cs)))):=by
 have hk:=(h.ok j _ hj).2 k (by simp only[bo.aF,Γ]);have hown:=h.own hj
 cases hown with
 |win k aE off es c hm hle hc he=>
  have hil:i<es.length:=by
   rcases ω i es.length with h'|h'
   ·exact h'
   ·rw[θ h'] at hi;cases hi
  have tJ:=he e (Wh hi);have h2:(i+1)*s≤es.length*s:=ξ s hil;rw[ς,Zn] at h2;refine⟨_,nO hm (by omega) (jT h hk.1 hw),?_⟩;refine h.Fc hj (fun n hn hne=>?_) (by simp) rfl rfl ?_ (fun n hn=>.inl hn) fun n hn=>?_
  ·simp only;rw[ε (fun e=>hne (by simp only[bo.aF,Γ];omega))]
  ·have Mq:∀e'∈es.set i (setMany e o cs),e'.length=s:=by
    intro e' vO
    rcases List.mem_or_eq_of_mem_set vO with h'|h'
    ·exact he e' h'
    ·rw[h',oW];exact tJ
   have mZ:es.flatten.length=es.length*s:=dV he;have:=kA.win (st:=⟨st.bs.set k (.mem aE true (c.take (off+i*s+o)++cs++c.drop (off+i*s+o+cs.length))),st.flr,st.ro⟩) (s:=s) k aE off (es.set i (setMany e o cs)) (c.take (off+i*s+o)++cs++c.drop (off+i*s+o+cs.length))
    (by simp only;rw[ι hk.2]) (by simp;omega) ?_ Mq
   ·rw[Θ] at this;exact this
   ·rw[Θ,vD he hi (by rw[oW];exact tJ),iZ cs e o (by omega)]
    have e1:(c.take (off+i*s+o)++cs++c.drop (off+i*s+o+cs.length)).drop off=(c.drop off).take (i*s+o)++cs++(c.drop off).drop (i*s+o+cs.length):=by
     rw[v8,List.drop_append_of_le_length (by simp;omega),Φ,v8,φ]
     congr 3<;>omega
    rw[e1]
    have e2:(c.drop off).take (i*s+o)=es.flatten.take (i*s)++e.take o:=by
     have:(c.drop off).take (i*s+o)=es.flatten.take (i*s+o):=by
      rw[←hc,Ut,ZD (by omega)]
     rw[this,Qaf]
     congr 1
     have:=oq he i e hi;rw[←this,Ut,ZD (by omega)]
    have e3:(Qam (i*s+o+cs.length) (c.drop off)).take (es.length*s-(i*s+o+cs.length))=e.drop (o+cs.length)++es.flatten.drop (i*s+s):=by
     have:(Qam (i*s+o+cs.length) (c.drop off)).take (es.length*s-(i*s+o+cs.length))=es.flatten.drop (i*s+o+cs.length):=by
      rw[←hc,Φ]
     rw[this];have h4:=oq he i e hi;rw[←h4,Φ];have:es.flatten.drop (i*s+o+cs.length)=(es.flatten.drop (i*s+o+cs.length)).take (s-(o+cs.length))++(es.flatten.drop (i*s+o+cs.length)).drop (s-(o+cs.length)):=(Pe ..).symm;rw[this,φ,φ]
     congr 2
     ·congr 1;omega
     ·omega
    rw[e2]
    have QN:(es.flatten.take (i*s)++e.take o++cs).length=i*s+o+cs.length:=by
     simp only[ψ,VT,mZ,tJ];omega
    rw[List.take_append,QN,e3,LL (by rw[QN];omega)];simp[v8]
  ·simp only[bo.aF,Γ] at hn;simp only[Θ];omega
theorem aB {α:Type} {a:α} {l:List α}:(a::l)[0]?=some a:=rfl
theorem aO {α:Type} {a b:α} {l:List α}:(a::b::l)[1]?=some b:=rfl
theorem a_ {α:Type} {a b c:α} {l:List α}:(a::b::c::l)[2]?=some c:=rfl
theorem bh {α:Type} {a b c d:α} {l:List α}:(a::b::c::d::l)[3]?=some d:=rfl
theorem bL {α:Type} {a b c d e:α} {l:List α}:(a::b::c::d::e::l)[4]?=some e:=rfl
theorem bT {α:Type} {a b c d e f:α} {l:List α}:(a::b::c::d::e::f::l)[5]?=some f:=rfl
theorem cn {α:Type} {a b c d e f g:α} {l:List α}:(a::b::c::d::e::f::g::l)[6]?=some g:=rfl
theorem cm {α:Type} {a b c d e f g h:α} {l:List α}:(a::b::c::d::e::f::g::h::l)[7]?=some h:=rfl
def HM (t:Nat):List (Nat×D)→Option D
 |[]=>none
 |(u,d)::l=>match Qab t u with
  |true=>some d
  |false=>HM t l
def Lt:Value→Option D
 | .int k n=>some (.int k n)
 | .bool b=>some (.bool b)
 | .string s=>some (.str s.data.toList)
 | .slice none 0 0=>some .nul
 | .pointer none=>some .pnil
 | .nilFunc=>some .nilfn
 | .nilIface=>some .nilif
 |_=>none
def Fr.evO (f:Fr):Operand→Option D
 | .tmp t=>match τ f.n t with
  |false=>f.loc[t]?
  |true=>HM t f.tmp
 | .const v=>Lt v
 | .func g=>some (.fn g [])
 | .global _=>none
theorem xP {t:Nat} {d:D}:∀{l:List (Nat×D)},HM t l=some d→look t l=d
 |(u,e)::l,h=>by
  unfold HM at h;unfold look
  split at h
  ·rename_i hb;cases h;simp only[hb]
  ·rename_i hb;simp only[hb];exact xP h
theorem HF {d e:D}:∀{l:List D} {i:Nat},l[i]?=some d→nth e l i=d
 |x::l,0,h=>by simpa[nth] using h
 |x::l,i+1,h=>by rw[ν] at h;exact HF (l:=l) h
 |[],i,h=>by simp at h
variable{d:D}
theorem ev {fr:Fr} {o:Operand} (h:fr.evO o=some d):fr.ev o=d:=by
 unfold Fr.evO at h;unfold YQ
 split at h
 ·unfold Qap
  split at h
  ·rename_i hb;simp only[hb];exact HF h
  ·rename_i hb;simp only[hb];exact xP h
 ·unfold Lt at h
  split at h<;>cases h<;>rfl
 ·cases h;rfl
 ·cases h
def mV (st:St) (p:D) (r:List D):Prop:=
 (∃k aE off ar c,p=.ptr k aE off∧st.ib k aE=some (ar,c)∧(c.drop off).take r.length=r)∨∃c,p=.ep c∧c.take r.length=r
def vU (x:D) (s:Nat) (i o:Nat) (p:D):Prop:=∃k aE off len,x=.win k aE off len s∧p=.ptr k aE (off+i*s+o)
variable{r:List D}
theorem pS {P:Pv} {t:TypeId} {c:List D} (hc:c.take r.length=r) (h:fx P t r=some d):fx P t c=some d:=by
 have hlen:r.length≤c.length:=by have:=congrArg List.length hc;simp at this;omega
 unfold fx at h⊢
 cases hu:P.db t with
 |none=>rw[hu] at h;cases h
 |some u=>
  rw[hu] at h;have key:∀n,n≤r.length→c.take n=r.take n:=fun n hn=>by rw[←hc,Ut,ZD hn]
  cases u with
  |struct f=>
   simp only at h⊢
   cases hs:c9 P t with
   |none=>rw[hs] at h;cases h
   |some n=>
    rw[hs] at h;simp only[γ] at h⊢
    split at h
    ·rename_i hn;rw[if_pos (by omega),key n hn];exact h
    ·cases h
  |array m f=>
   simp only at h⊢
   cases hs:c9 P t with
   |none=>rw[hs] at h;cases h
   |some n=>
    rw[hs] at h;simp only[γ] at h⊢
    split at h
    ·rename_i hn;rw[if_pos (by omega),key n hn];exact h
    ·cases h
  |_=>
   simp only at h⊢
   cases r with
   |nil=>cases h
   |cons y r=>
    cases c with
    |nil=>simp at hlen
    |cons z c=>
     simp only[ο,List.take_succ_cons,List.cons.injEq] at hc;rw[←h];simp[hc.1]
variable{p:D}
theorem mV.load {P:Pv} {st:St} (h:mV st p r) {t:TypeId} (hd:fx P t r=some d):j6 P t p st=some d:=by
 rcases h with⟨k,aE,off,ar,c,rfl,hm,hc⟩|⟨c,rfl,hc⟩
 ·simp only[j6,hm,γ];exact pS hc hd
 ·simp only[j6];exact pS hc hd
variable{fields:Array Field}{fd:Field}
theorem mV.field {P:Pv} {st:St} (h:mV st p r) {t:TypeId} {f:Nat} (ht:P.db t=some (.struct fields)) (hf:fields[f]?=some fd) (hm:c9 P fd.type=some m) (lC:m≠0):
  ∃p',gZ P t p f=some p'∧mV st p' (r.drop fd.offset):=by
 have key:∀c:List D,c.take r.length=r→(c.drop fd.offset).take (r.drop fd.offset).length=r.drop fd.offset:=by
  intro c hc;rw[lx,←Φ,hc]
 rcases h with⟨k,aE,off,ar,c,rfl,E9,hc⟩|⟨c,rfl,hc⟩
 ·refine⟨.ptr k aE (off+fd.offset),?_,.inl ⟨k,aE,off+fd.offset,ar,c,rfl,E9,?_⟩⟩
  ·simp only[gZ,ht,hf,γ,hm];rw[if_neg (by simp only[YH.injEq];exact lC)]
  ·rw[←φ];exact key _ hc
 ·refine⟨.ep (c.drop fd.offset),?_,.inr ⟨_,rfl,key _ hc⟩⟩;simp only[gZ,ht,hf,γ,hm];rw[if_neg (by simp only[YH.injEq];exact lC)]
theorem Rows.Y_ {P:Pv} {st:St} (h:Rows st s x es) {t e:TypeId} (ht:P.db t=some (.slice e)) (hs:c9 P e=some s) {k:IntKind} (hi:es[i]?=some r):
  ∃p,cJ P t x (.int k (i:Nat)) st=some p∧mV st p r:=by
 have sQ:=h.yD _ _ hi
 cases h with
 |nul=>simp at hi
 |sl es h=>
  rw[cg] at hi;obtain⟨d,hd,rfl⟩:=xw.1 hi;obtain⟨h1,h2⟩:=h d (Wh hd);refine⟨.ep d.cells,?_,.inr ⟨_,rfl,wt ..⟩⟩;simp only[cJ,ht,hs,γ,if_pos (show(0:Int)≤(i:Nat) by omega),Int.toNat_natCast,hd,h1,if_pos h2]
 |win k aE off es ar c hm hl he=>
  have hlt:i<es.length:=by
   rcases ω i es.length with h'|h'
   ·exact h'
   ·rw[θ h'] at hi;cases hi
  refine⟨.ptr k aE (off+i*s),?_,.inl ⟨k,aE,_,ar,c,rfl,hm,by rw[sQ];exact he _ _ hi⟩⟩;simp only[cJ,ht,hs,γ,hm,Cf];rw[if_pos ⟨trivial,by omega,by omega,trivial⟩];rfl
variable{P:Pv} {ops:Array Oper} {rest:List Oper} {fr aM:Fr} {st:St} {Q:Fr→St→Prop} {ty:TypeId} {pp:String} {a:Array Edge} {g:Option (Nat×Bool)} {dst:Nat} {N:Nat} {S:St} {H:List bo}
variable{st1:St}
theorem ab.go {op:Op} (hg:aH ops fr ⟨some dst,op,ty,pp,a,g⟩=some true) (hc:lZ op=false) (h1:eS P fr st op ty=some (d,st1)) (hp:fr.put dst d=aM) (h:ab P ops rest aM st1 Q):ab P ops (⟨some dst,op,ty,pp,a,g⟩::rest) fr st Q:=
 ab.op hg hc h1 (by show ab P ops rest (fr.put dst d) st1 Q;rw[hp];exact h)
variable{ar:Bool}{ao:Operand}
theorem ab.iv {off:Nat} {c:List D} {t:TypeId} (hH:Has N S st H) (hg:aH ops fr ⟨some dst,.load t ao,ty,pp,a,g⟩=some true) (ha:fr.ev ao=.ptr k aE off) (hj:H[j]?=some (.box k (.mem aE ar c))) (hd:fx P t (c.drop off)=some d) (hp:fr.put dst d=aM) (h:ab P ops rest aM st Q):ab P ops (⟨some dst,.load t ao,ty,pp,a,g⟩::rest) fr st Q:=by
 refine ab.go hg rfl (d:=d) (st1:=st) ?_ hp h;simp only[eS,ha,j6,St.mem_of (hH.at hj),γ,hd,δ]
variable{v:D}{vo:Operand}
theorem ab.gE {off:Nat} {c cs:List D} {t:TypeId} (hH:Has N S st H) (hg:aH ops fr ⟨none,.store t ao vo,ty,pp,a,g⟩=some true) (ha:fr.ev ao=.ptr k aE off) (hv:fr.ev vo=v) (kZ:v.cells?=some cs) (hs:c9 P t=some cs.length) (hj:H[j]?=some (.box k (.mem aE ar c))) (hl:off+cs.length≤c.length) (hw:S.flr≤N∨refs cs=0) (h:∀ai,Has N S ai (H.set j (.box k (.mem aE ar (setMany c off cs))))→ab P ops rest fr ai Q):ab P ops (⟨none,.store t ao vo,ty,pp,a,g⟩::rest) fr st Q:=by
 refine ab.N hg rfl (d:=.tup []) (st1:=⟨st.bs.set k (.mem aE ar (setMany c off cs)),st.flr,st.ro⟩) ?_ (h _ (hH.rE (aE:=aE) hj));simp only[eS,ha,hv,mK,kZ,hs,if_pos trivial];rw[nO (hH.at hj) hl (jT hH (hH.ge hj).1 hw),iZ _ _ _ hl];rfl
theorem ab.fU {e:TypeId} {cs:List D} {aM:Nat→Fr} (hH:Has N S st H) (hg:aH ops fr ⟨some dst,.alloc e,ty,pp,a,g⟩=some true) (hz:ec P e=some cs) (hp:∀k,fr.put dst (.ptr k 0 0)=aM k)
  (h:∀k ai,S.bs.length≤k→Has N S ai (.box k (.mem 0 false cs)::H)→ab P ops rest (aM k) ai Q):ab P ops (⟨some dst,.alloc e,ty,pp,a,g⟩::rest) fr st Q:=by
 refine ab.go hg rfl (d:=.ptr st.bs.length 0 0) (st1:=st.push (.mem 0 false cs)) ?_ (hp _) (h _ _ hH.len (hH.p_ _));simp only[eS,hz,δ]
theorem ab.Ec {e:TypeId} {xo:Operand} {cs:List D} {aM:Nat→Fr} (hH:Has N S st H) (hg:aH ops fr ⟨some dst,.box e xo,ty,pp,a,g⟩=some true) (hz:(fr.ev xo).cells?=some cs) (hp:∀k,fr.put dst (.ptr k 0 0)=aM k)
  (h:∀k ai,S.bs.length≤k→Has N S ai (.box k (.mem 0 false cs)::H)→ab P ops rest (aM k) ai Q):ab P ops (⟨some dst,.box e xo,ty,pp,a,g⟩::rest) fr st Q:=by
 refine ab.go hg rfl (d:=.ptr st.bs.length 0 0) (st1:=st.push (.mem 0 false cs)) ?_ (hp _) (h _ _ hH.len (hH.p_ _));simp only[eS,hz,δ]
variable{z:List D}
theorem ab.Az {t e:TypeId} {lo co:Operand} {k1 k2:IntKind} {inf:TypeInfo} {aM:Nat→Fr} (hH:Has N S st H) (hg:aH ops fr ⟨some dst,.makeSlice t lo co,ty,pp,a,g⟩=some true) (hl:fr.ev lo=.int k1 (m:Nat)) (hc:fr.ev co=.int k2 (m:Nat)) (ht:P.db t=some (.slice e)) (hi:P.info e=some inf) (hz:ec P e=some z) (hsz:inf.size=s) (oB:z.length=s) (YG:inf.bytes≤1024) (lC:m≤1073741824) (hp:∀k,fr.put dst (.win k 0 0 m s)=aM k) (h:∀k ai,S.bs.length≤k→Has N S ai (.aF (.win k 0 0 m s) s (IN m z)::H)→ab P ops rest (aM k) ai Q):ab P ops (⟨some dst,.makeSlice t lo co,ty,pp,a,g⟩::rest) fr st Q:=by
 have hm:m*inf.bytes≤140737488355328:=VQ (Qag lC YG) (by decide);subst hsz;refine ab.go hg rfl (d:=.win st.bs.length 0 0 m inf.size) (st1:=st.push (.mem 0 true (fV m z))) ?_ (hp _) (h _ _ hH.len (hH.wj (by simp) rfl (fun e he=>by rw[List.eq_of_mem_replicate he];exact oB)));simp only[eS,hl,hc,jf,ht,hi,hz,γ];rw[if_pos ⟨oB,by omega,by omega,by omega,by rw[←Int.natCast_mul];omega⟩]
 rfl
variable{y:D}{ys:List (List D)}
theorem Has.append (hH:Has N S st H) (hj:H[j]?=some (.aF x s es)) (hy:Rows st s y ys) {t1 t2 e:TypeId} {td:TypeDesc} {inf:TypeInfo} (h1:P.db t1=some (.slice e)) (h2:P.db t2=some td) (h3:gD td=false) (h4:P.info e=some inf) (h5:ec P e=some z) (h6:inf.size=s) (h7:z.length=s) (h8:0<inf.bytes∧inf.bytes≤1024) (nN:es.length+ys.length≤1073741824) (hw:S.flr≤N∨refs ys.flatten=0):
  ∃x' ai,bW P .append [t1,t2] [x,y] st=some (x',ai)∧Has N S ai (H.set j (.aF x' s (es++ys)))∧(ys=[]→x'=x):=by
 have hb:(es.length+ys.length)*inf.bytes≤1099511627776:=VQ (Qag nN h8.2) (by decide);have kL:=hy.row
 have zj:∀e∈ys,e.length=s:=fun e he=>by
  obtain⟨i,hi⟩:=GB he;exact hy.yD i e hi
 have mZ:=dV zj;have hown:=hH.own hj;have hkk:=(hH.ok j _ hj).2;have hS:=hH.len;have hNS:=hH.hN;subst h6;simp only[bW,jV,h1,h2,h3,AI,if_false,h4,h5,kL,γ];rw[if_neg (by rintro(h|h|h);exact h mZ;exact absurd h (by omega);exact h h7)]
 have iM:∀e,H[j]?=some e→H.set j e=H:=fun e he=>by
  apply bU;intro i
  by_cases hij:i=j
  ·subst hij
   have:i<H.length:=by
    rcases ω i H.length with h'|h'
    ·exact h'
    ·rw[θ h'] at he;cases he
   rw[ι this,he]
  ·rw[ε (fun e=>hij e.symm)]
 cases hown with
 |nul=>
  simp only[PR]
  by_cases h0:ys.length=0
  ·rw[if_pos h0]
   have:ys=[]:=by cases ys with|nil=>rfl|cons _ _=>simp at h0
   subst this;exact⟨.nul,st,rfl,by rw[iM _ hj];exact hH,fun _=>rfl⟩
  ·rw[if_neg h0,if_pos (by simpa using hb)];refine⟨_,_,rfl,?_,fun e=>absurd (by rw[e];rfl) h0⟩;refine hH.Fc hj (fun k hk _=>by simp only[Ω];rw[ρ hk]) (by simp[Ω]) rfl rfl ?_ (fun k hk=>?_) fun k hk=>?_
   ·exact kA.win _ 0 0 ys ys.flatten (iS st _) (by rw[mZ];omega) (by rw[JS,←mZ,wt]) zj
   ·simp only[bo.aF,Γ] at hk;right;omega
   ·simp only[bo.aF,Γ] at hk;simp only[Ω,ψ,ο,Y'];omega
 |win k aE off es c hm hl hc he=>
  have hk:=hkk k (by simp only[bo.aF,Γ]);simp only[St.mem_of hm];rw[if_neg (by rintro(h|h);exact h rfl;omega)]
  by_cases h0:ys.length=0
  ·rw[if_pos h0]
   have:ys=[]:=by cases ys with|nil=>rfl|cons _ _=>simp at h0
   subst this;simp only[Qa1];exact⟨_,st,rfl,by rw[iM _ hj];exact hH,fun _=>rfl⟩
  ·rw[if_neg h0,if_pos ⟨hb,jT hH hk.1 hw⟩];refine⟨_,_,rfl,?_,fun e=>absurd (by rw[e];rfl) h0⟩;have px:es.length+ys.length=(es++ys).length:=by simp
   have lh:(c.take (off+es.length*inf.size)).drop off=es.flatten:=by rw[Φ,←hc];congr 1;omega
   rw[px,lh];refine hH.Fc hj (fun n hn hne=>by simp only;rw[ε (fun e=>hne (by simp only[bo.aF,Γ];omega))]) (by simp) rfl rfl ?_ (fun n hn=>?_) fun n hn=>?_
   ·have tJ:∀e∈es++ys,e.length=inf.size:=fun e h=>by
     rcases Qac.1 h with h|h
     ·exact he e h
     ·exact zj e h
    have My:=dV tJ;refine kA.win k (aE+1) 0 (es++ys) (es++ys).flatten ?_ (by rw[My];omega) (by rw[JS,←My,wt]) tJ;simp only;rw[ι hk.2,Bv]
   ·simp only[bo.aF,Γ] at hn⊢;left;omega
   ·simp only[bo.aF,Γ] at hn;simp only[Θ];omega
variable{yo:Operand}
theorem ab.cL {t1 t2 e:TypeId} {td:TypeDesc} {inf:TypeInfo} {xo:Operand} {aM:D→Fr} (hH:Has N S st H) (hg:aH ops fr ⟨some dst,.call ⟨.builtin .append,#[xo,yo],#[t1,t2]⟩,ty,pp,a,g⟩=some true) (hx:fr.ev xo=x) (hy:fr.ev yo=y) (hj:H[j]?=some (.aF x s es)) (mz:Rows st s y ys) (h1:P.db t1=some (.slice e)) (h2:P.db t2=some td) (h3:gD td=false) (h4:P.info e=some inf) (h5:ec P e=some z) (h6:inf.size=s) (h7:z.length=s) (h8:0<inf.bytes∧inf.bytes≤1024) (hp:∀x',fr.put dst x'=aM x') (hb:es.length+ys.length≤1073741824) (hw:S.flr≤N∨refs ys.flatten=0) (h:∀x' ai,Has N S ai (H.set j (.aF x' s (es++ys)))→ab P ops rest (aM x') ai Q):
  ab P ops (⟨some dst,.call ⟨.builtin .append,#[xo,yo],#[t1,t2]⟩,ty,pp,a,g⟩::rest) fr st Q:=by
 obtain⟨x',ai,q1,q2,q3⟩:=hH.append hj mz h1 h2 h3 h4 h5 h6 h7 h8 hb hw;refine ab.go hg rfl (d:=x') (st1:=ai) ?_ (hp _) (h x' ai q2);simp only[eS,π,Q5,hx,hy];exact q1
theorem ab.MN {t1 t2 e:TypeId} {td:TypeDesc} {inf:TypeInfo} {xo:Operand} {aM:D→Fr} (hH:Has N S st H) (hg:aH ops fr ⟨some dst,.call ⟨.builtin .append,#[xo,yo],#[t1,t2]⟩,ty,pp,a,g⟩=some true) (hx:fr.ev xo=x) (hy:fr.ev yo=y) (hj:H[j]?=some (.aF x s es)) (mz:Rows st s y ys) (h1:P.db t1=some (.slice e)) (h2:P.db t2=some td) (h3:gD td=false) (h4:P.info e=some inf) (h5:ec P e=some z) (h6:inf.size=s) (h7:z.length=s) (h8:0<inf.bytes∧inf.bytes≤1024) (hp:∀x',fr.put dst x'=aM x') (hb:es.length+ys.length≤1073741824) (hw:S.flr≤N∨refs ys.flatten=0) (h:∀x' ai,(ys=[]→x'=x)→Has N S ai (H.set j (.aF x' s (es++ys)))→ab P ops rest (aM x') ai Q):
  ab P ops (⟨some dst,.call ⟨.builtin .append,#[xo,yo],#[t1,t2]⟩,ty,pp,a,g⟩::rest) fr st Q:=by
 obtain⟨x',ai,q1,q2,q3⟩:=hH.append hj mz h1 h2 h3 h4 h5 h6 h7 h8 hb hw;refine ab.go hg rfl (d:=x') (st1:=ai) ?_ (hp _) (h x' ai q3 q2);simp only[eS,π,Q5,hx,hy];exact q1
theorem ab.kW {t e:TypeId} {xo:Operand} (hg:aH ops fr ⟨some dst,.call ⟨.builtin .len,#[xo],#[t]⟩,ty,pp,a,g⟩=some true) (hx:fr.ev xo=x) (hR:Rows st s x es) (ht:P.db t=some (.slice e)) (hp:fr.put dst (.int .i64 (es.length:Nat))=aM) (h:ab P ops rest aM st Q):ab P ops (⟨some dst,.call ⟨.builtin .len,#[xo],#[t]⟩,ty,pp,a,g⟩::rest) fr st Q:=by
 refine ab.go hg rfl (d:=.int .i64 (es.length:Nat)) (st1:=st) ?_ hp h;simp only[eS,π,Q5,hx];exact hR.Qx ht
theorem ab.oV {t:TypeId} {xo:Operand} {b:List UInt8} (hg:aH ops fr ⟨some dst,.call ⟨.builtin .len,#[xo],#[t]⟩,ty,pp,a,g⟩=some true) (hx:fr.ev xo=.str b) (ht:P.db t=some .string) (hp:fr.put dst (.int .i64 (b.length:Nat))=aM)
  (h:ab P ops rest aM st Q):ab P ops (⟨some dst,.call ⟨.builtin .len,#[xo],#[t]⟩,ty,pp,a,g⟩::rest) fr st Q:=by
 refine ab.go hg rfl (d:=.int .i64 (b.length:Nat)) (st1:=st) ?_ hp h;simp only[eS,π,Q5,hx,bW,ht]
variable{io:Operand}{kk:IntKind}
theorem ab.re {t e:TypeId} {xo:Operand} {aM:D→Fr} (hg:aH ops fr ⟨some dst,.indexAddr t xo io,ty,pp,a,g⟩=some true) (hx:fr.ev xo=x) (hi:fr.ev io=.int kk (i:Nat)) (hR:Rows st s x es) (ht:P.db t=some (.slice e)) (hs:c9 P e=some s) (hr:es[i]?=some r) (hp:∀p,fr.put dst p=aM p) (h:∀p,mV st p r→ab P ops rest (aM p) st Q):ab P ops (⟨some dst,.indexAddr t xo io,ty,pp,a,g⟩::rest) fr st Q:=by
 obtain⟨p,h1,h2⟩:=hR.Y_ ht hs (k:=kk) hr;refine ab.go hg rfl (d:=p) (st1:=st) ?_ (hp p) (h p h2);simp only[eS,hx,hi,h1,δ]
theorem ab.Ri {t:TypeId} {xo:Operand} {f:Nat} {aM:D→Fr} (hg:aH ops fr ⟨some dst,.fieldAddr t xo f,ty,pp,a,g⟩=some true) (hx:fr.ev xo=x) (hR:mV st x r) (ht:P.db t=some (.struct fields)) (hf:fields[f]?=some fd) (hm:c9 P fd.type=some m) (lC:m≠0) (hp:∀p,fr.put dst p=aM p) (h:∀p,mV st p (r.drop fd.offset)→ab P ops rest (aM p) st Q):ab P ops (⟨some dst,.fieldAddr t xo f,ty,pp,a,g⟩::rest) fr st Q:=by
 obtain⟨p,h1,h2⟩:=hR.field ht hf hm lC;refine ab.go hg rfl (d:=p) (st1:=st) ?_ (hp p) (h p h2);simp only[eS,hx,h1,δ]
theorem ab.bB {t:TypeId} (hg:aH ops fr ⟨some dst,.load t ao,ty,pp,a,g⟩=some true) (ha:fr.ev ao=x) (hR:mV st x r) (hd:fx P t r=some d) (hp:fr.put dst d=aM) (h:ab P ops rest aM st Q):ab P ops (⟨some dst,.load t ao,ty,pp,a,g⟩::rest) fr st Q:=by
 refine ab.go hg rfl (d:=d) (st1:=st) ?_ hp h;simp only[eS,ha,hR.load hd,δ]
theorem ab.Lr {t e:TypeId} {xo:Operand} {aM:D→Fr} (hH:Has N S st H) (hg:aH ops fr ⟨some dst,.indexAddr t xo io,ty,pp,a,g⟩=some true) (hx:fr.ev xo=x) (hi:fr.ev io=.int kk (i:Nat)) (hj:H[j]?=some (.aF x s es)) (ht:P.db t=some (.slice e)) (hs:c9 P e=some s) (hr:i<es.length) (hp:∀p,fr.put dst p=aM p) (h:∀p,vU x s i 0 p→ab P ops rest (aM p) st Q):ab P ops (⟨some dst,.indexAddr t xo io,ty,pp,a,g⟩::rest) fr st Q:=by
 have hown:=hH.own hj
 cases hown with
 |nul=>simp at hr
 |win k aE off es c hm hl hc he=>
  refine ab.go hg rfl (d:=.ptr k aE (off+i*s)) (st1:=st) ?_ (hp _) (h _ ⟨k,aE,off,_,rfl,rfl⟩);simp only[eS,hx,hi,cJ,ht,hs,γ,St.mem_of hm,Cf];rw[if_pos ⟨trivial,by omega,by omega,trivial⟩];rfl
theorem ab.Ry {t:TypeId} {xo:Operand} {f:Nat} {aM:D→Fr} (hg:aH ops fr ⟨some dst,.fieldAddr t xo f,ty,pp,a,g⟩=some true) (hx:fr.ev xo=y) (hR:vU x s i o y) (ht:P.db t=some (.struct fields)) (hf:fields[f]?=some fd) (hm:c9 P fd.type=some m) (lC:m≠0) (hp:∀p,fr.put dst p=aM p) (h:∀p,vU x s i (o+fd.offset) p→ab P ops rest (aM p) st Q):ab P ops (⟨some dst,.fieldAddr t xo f,ty,pp,a,g⟩::rest) fr st Q:=by
 obtain⟨k,aE,off,len,h1,h2⟩:=hR;refine ab.go hg rfl (d:=.ptr k aE (off+i*s+(o+fd.offset))) (st1:=st) ?_ (hp _) (h _ ⟨k,aE,off,len,h1,rfl⟩);simp only[eS,hx,h2,gZ,ht,hf,γ,hm];rw[if_neg (by simp only[YH.injEq];exact lC),←Qai];rfl
theorem ab.cu {t:TypeId} (hH:Has N S st H) (hg:aH ops fr ⟨some dst,.load t ao,ty,pp,a,g⟩=some true) (ha:fr.ev ao=y) (hR:vU x s i o y) (hj:H[j]?=some (.aF x s es)) (hr:es[i]?=some r) (hd:fx P t (r.drop o)=some d) (hp:fr.put dst d=aM) (h:ab P ops rest aM st Q):ab P ops (⟨some dst,.load t ao,ty,pp,a,g⟩::rest) fr st Q:=by
 obtain⟨k,aE,off,len,rfl,rfl⟩:=hR;have hown:=hH.own hj
 cases hown with
 |win k aE off es c hm hl hc he=>
  refine ab.go hg rfl (d:=d) (st1:=st) ?_ hp h;have h1:=oq he i r hr
  have hil:i<es.length:=by
   rcases ω i es.length with h'|h'
   ·exact h'
   ·rw[θ h'] at hr;cases hr
  have h2:(i+1)*s≤es.length*s:=ξ s hil;rw[ς,Zn] at h2;rw[←hc,Φ,Ut,φ,ZD (by omega)] at h1;have sQ:=he r (Wh hr);simp only[eS,ha,j6,St.mem_of hm,γ];rw[pS (r:=r.drop o) ?_ hd];rfl;rw[lx,sQ,←h1,Φ,φ]
theorem ab.jb {t:TypeId} {cs:List D} (hH:Has N S st H) (hg:aH ops fr ⟨none,.store t ao vo,ty,pp,a,g⟩=some true) (ha:fr.ev ao=y) (hv:fr.ev vo=v) (hR:vU x s i o y) (kZ:v.cells?=some cs) (hs:c9 P t=some cs.length) (hj:H[j]?=some (.aF x s es)) (hr:es[i]?=some r) (hl:o+cs.length≤s) (hw:S.flr≤N∨refs cs=0) (h:∀ai,Has N S ai (H.set j (.aF x s (es.set i (setMany r o cs))))→ab P ops rest fr ai Q):ab P ops (⟨none,.store t ao vo,ty,pp,a,g⟩::rest) fr st Q:=by
 obtain⟨k,aE,off,len,rfl,rfl⟩:=hR;obtain⟨ai,h1,h2⟩:=hH.Hq hj hr hl hw;refine ab.N hg rfl (d:=.tup []) (st1:=ai) ?_ (h _ h2);simp only[eS,ha,hv,mK,kZ,hs,if_pos trivial,h1];rfl
variable{lo hi:Option Operand}
theorem ab.Bp {t e:TypeId} {xo:Operand} {l r:Nat} {aM:D→Fr} (hg:aH ops fr ⟨some dst,.slice t xo lo hi none,ty,pp,a,g⟩=some true) (hx:fr.ev xo=x) (hR:Arg N S s x es) (hH:Has N S st H) (ht:P.db t=some (.slice e)) (hs:c9 P e=some s) (hb:cF es.length (lo.map fr.ev) (hi.map fr.ev)=some (l,r)) (sW:l≤r∧r≤es.length) (hp:∀y,fr.put dst y=aM y) (h:∀y,Arg N S s y ((es.take r).drop l)→ab P ops rest (aM y) st Q):ab P ops (⟨some dst,.slice t xo lo hi none,ty,pp,a,g⟩::rest) fr st Q:=by
 obtain⟨y,h1,h2,h3⟩:=hR.1.slice ht hs hb sW;refine ab.go hg rfl (d:=y) (st1:=st) ?_ (hp y) (h y ⟨h2,VQ h3 hR.2⟩)
 have:fM P t x (lo.map fr.ev) (hi.map fr.ev) st=fM P t x (lo.map fr.ev) (hi.map fr.ev) S:=by
  have:=hR.1;cases this<;>simp only[fM,ht]
 simp only[eS,hx,this,h1,δ]
theorem ab.o8 {t e:TypeId} {xo:Operand} {l r:Nat} {aM:D→Fr} (hH:Has N S st H) (hg:aH ops fr ⟨some dst,.slice t xo lo hi none,ty,pp,a,g⟩=some true) (hx:fr.ev xo=x) (hj:H[j]?=some (.aF x s es)) (ht:P.db t=some (.slice e)) (hs:c9 P e=some s) (hb:cF es.length (lo.map fr.ev) (hi.map fr.ev)=some (l,r)) (sW:l≤r∧r≤es.length) (hp:∀y,fr.put dst y=aM y) (h:∀y,Has N S st (H.set j (.aF y s ((es.take r).drop l)))→ab P ops rest (aM y) st Q):ab P ops (⟨some dst,.slice t xo lo hi none,ty,pp,a,g⟩::rest) fr st Q:=by
 have hown:=hH.own hj
 cases hown with
 |nul=>
  simp only[Y'] at hb sW
  have hy:Has N S st (H.set j (.aF .nul s (([].take r).drop l))):=by
   refine hH.Fc hj (fun _ _ _=>rfl) (υ _) rfl rfl (by simp;exact .nul) (fun k hk=>.inl hk) fun k hk=>by simp only[bo.aF,Γ] at hk;omega
  refine ab.go hg rfl (d:=.nul) (st1:=st) ?_ (hp _) (h _ hy);simp only[eS,hx,fM,ht,hs,γ,hb,δ]
 |win k aE off es c hm hl hc he=>
  have hlen:((es.take r).drop l).length=r-l:=by simp;omega
  have h1:l*s+(r-l)*s≤es.length*s:=by rw[←ς];exact ξ s (by omega)
  have hk:=(hH.ok j _ hj).2 k (by simp only[bo.aF,Γ])
  have hy:Has N S st (H.set j (.aF (.win k aE (off+l*s) (r-l) s) s ((es.take r).drop l))):=by
   refine hH.Fc hj (fun _ _ _=>rfl) (υ _) rfl rfl ?_ (fun k' og=>.inl ?_) fun k' og=>?_
   ·have:=kA.win (st:=st) (s:=s) k aE (off+l*s) ((es.take r).drop l) c hm (by rw[hlen];omega) ?_ (fun e vO=>he e (Z5 (AN vO)))
    ·rw[hlen] at this;exact this
    ·rw[hlen];have mZ:=dV he
     have e1:∀n,n≤es.length→(es.take n).flatten=es.flatten.take (n*s):=by
      intro n hn;have:es.flatten=(es.take n).flatten++(es.drop n).flatten:=by rw[←Bv,Pe]
      rw[this,Qa3];rw[dV (s:=s) (fun e vO=>he e (Z5 vO)),VT,ZD hn]
     have e2:((es.take r).drop l).flatten=(es.take r).flatten.drop (l*s):=by
      have h2:(es.take r).flatten=((es.take r).take l).flatten++((es.take r).drop l).flatten:=by rw[←Bv,Pe]
      rw[h2,Qa2];rw[dV (s:=s) (fun e vO=>he e (Z5 (Z5 vO))),VT,VT,ZD (by omega)]
     rw[e2,e1 r sW.2,←hc,Ut,Φ,φ,Nat.sub_mul]
     congr 1
     have:r*s≤es.length*s:=ξ s sW.2;rw[ZD this]
   ·simp only[bo.aF,Γ] at og⊢;exact og
   ·simp only[bo.aF,Γ] at og;omega
  refine ab.go hg rfl (d:=.win k aE (off+l*s) (r-l) s) (st1:=st) ?_ (hp _) (h _ hy);simp only[eS,hx,fM,ht,hs,γ,hb,if_true,δ]
theorem ab.Gs {s t e:TypeId} {xo:Operand} {b:List UInt8} {aM:Nat→Fr} (hH:Has N S st H) (hg:aH ops fr ⟨some dst,.convert s t xo,ty,pp,a,g⟩=some true) (hx:fr.ev xo=.str b) (h1:P.db s=some .string) (h2:P.db t=some (.slice e)) (h3:P.db e=some (.int .u8)) (hl:b.length<1099511627776) (hp:∀k,fr.put dst (.win k 0 0 b.length 1)=aM k)
  (h:∀k ai,S.bs.length≤k→Has N S ai (.aF (.win k 0 0 b.length 1) 1 (byteCells b)::H)→ab P ops rest (aM k) ai Q):ab P ops (⟨some dst,.convert s t xo,ty,pp,a,g⟩::rest) fr st Q:=by
 have hc:∀b:List UInt8,(byteCells b).flatten=b.map fun y=>.int .u8 (y.toNat:Nat):=by
  intro b
  induction b with
  |nil=>rfl
  |cons y b ih=>simp only[byteCells,π,Δ] at ih⊢;rw[ih];rfl
 refine ab.go hg rfl (d:=.win st.bs.length 0 0 b.length 1) (st1:=st.push (.mem 0 true (b.map fun y=>.int .u8 (y.toNat:Nat)))) ?_ (hp _) (h _ _ hH.len (hH.wj (by simp[byteCells]) (hc b) (fun e he=>by obtain⟨y,_,rfl⟩:=hD.1 he;rfl)));simp only[eS,hx,j8,h1,h2,h3,if_pos hl]
theorem ab.aS {f:Operand} {gn:Nat} {mU:List D} {args:Array Operand} {CO:Array TypeId} (hg:aH ops fr ⟨some dst,.call ⟨.value f,args,CO⟩,ty,pp,a,g⟩=some true) (hf:fr.ev f=.fn gn mU) (h1:Ev P gn (args.toList.map fr.ev++mU) st d st1) (hp:fr.put dst d=aM) (h:ab P ops rest aM st1 Q):ab P ops (⟨some dst,.call ⟨.value f,args,CO⟩,ty,pp,a,g⟩::rest) fr st Q:=
 ab.call hg hf h1 (by show ab P ops rest (fr.put dst d) st1 Q;rw[hp];exact h)
theorem dI {m:Mode} {kn:Bool} {st:St} {d':D} (hm:m≠.cw∧m≠.nw) (hS:S.bs=st.bs) (hH:Has st.bs.length S st1 H) (hd:bA st1 st.bs.length kn 16 d=some d'):ez m kn st st1 d=some (d',st):=
 aU hm ((hH.ex.take (by rw[hS])).trans hS) hd
theorem Has.freeze (hH:Has N S st H) (hj:H[j]?=some (.aF x s es)) (hp:∀e∈es,∀d∈e,dh d=true) {n:Nat} (hn:2≤n):bA st N false (n+1) x=some (.sl (es.map (ml s))):=by
 obtain⟨n,rfl⟩:∃m,n=m+2:=⟨n-2,by omega⟩
 have hown:=hH.own hj;have hkk:=(hH.ok j _ hj).2
 cases hown with
 |nul=>rfl
 |win k aE off es c hm hl hc he=>
  have hk:=hkk k (by simp only[bo.aF,Γ]);show(if k<N then some (D.win k aE off es.length s) else gJ st N (n+2) (.win k aE off es.length s))=_;rw[if_neg (show¬k<N by omega),gJ];simp only[if_neg (show¬k<N by omega),St.mem_of hm,γ]
  rw[if_pos hl,hc,nY (fun d hd=>by
   obtain⟨e,vO,H5⟩:=tn.1 hd
   exact hp e vO d H5)]
  simp only[δ,jo he]
end Go.V
namespace Go.V
variable{P:Pv} {ops:Array Oper} {rest:List Oper} {fr aM:Fr} {st:St} {Q:Fr→St→Prop} {ty:TypeId} {pp:String} {a:Array Edge} {g:Option (Nat×Bool)} {dst:Nat}
variable{o:Oper}{j t:Nat}{w v:Bool}
theorem af (h1:o.guard=some (j,w)) (h2:(ops[j]?).bind (·.dst)=some t) (h3:fr.get t=.bool v) (h4:v=w):aH ops fr o=some true:=by
 unfold aH;simp only[h1,h2,h3,h4,beq_self_eq_true]
theorem aW (h1:o.guard=some (j,w)) (h2:(ops[j]?).bind (·.dst)=some t) (h3:fr.get t=.bool v) (h4:v=!w):aH ops fr o=some false:=by
 unfold aH;simp only[h1,h2,h3,h4];cases w<;>rfl
theorem ab.skip {op:Op} (hg:aH ops fr ⟨some dst,op,ty,pp,a,g⟩=some false) (hp:fr.put dst (.tup [])=aM)
  (h:ab P ops rest aM st Q):ab P ops (⟨some dst,op,ty,pp,a,g⟩::rest) fr st Q:=
 ab.off hg (by show ab P ops rest (fr.put dst _) st Q;rw[hp];exact h)
variable{l:List Oper}
theorem ab.two (t:Nat) (hv:fr.get t=.bool v) (h1:v=true→ab P ops l fr st Q) (h2:v=false→ab P ops l fr st Q):ab P ops l fr st Q:=by
 cases v
 ·exact h2 rfl
 ·exact h1 rfl
theorem ab.bN {c x y:Operand} (hg:aH ops fr ⟨some dst,.pick c x y,ty,pp,a,g⟩=some true) (hc:fr.ev c=.bool v) (hv:v=true) (hp:fr.put dst (fr.ev x)=aM) (h:ab P ops rest aM st Q):ab P ops (⟨some dst,.pick c x y,ty,pp,a,g⟩::rest) fr st Q:=
 ab.go hg rfl (by simp only[eS,hc,hv]) hp h
theorem ab.cA {c x y:Operand} (hg:aH ops fr ⟨some dst,.pick c x y,ty,pp,a,g⟩=some true) (hc:fr.ev c=.bool v) (hv:v=false) (hp:fr.put dst (fr.ev y)=aM) (h:ab P ops rest aM st Q):ab P ops (⟨some dst,.pick c x y,ty,pp,a,g⟩::rest) fr st Q:=
 ab.go hg rfl (by simp only[eS,hc,hv]) hp h
variable{dy:Dy}{i:Nat}
theorem ag.cut {d n loc Uw tmp st} {Q:Out→Fr→St→Prop} (t:Nat) (v:D) (h1:ab P l.toArray l ⟨n,loc,[]⟩ st fun aM ai=>∃tmp,aM=⟨n,Uw,tmp⟩∧ai=st∧look t tmp=v) (h2:∀tmp,look t tmp=v→Q .next ⟨n,Uw,tmp⟩ st) (h0:kf i dy=[]:=by rfl):ag P dy (.region i l.toArray d) ⟨n,loc,tmp⟩ st Q:=by
 refine ag.cT ?_ h0;unfold ab at h1⊢;obtain⟨aM,ai,h3,Q9,rfl,rfl,h4⟩:=h1;exact⟨_,_,h3,h2 _ h4⟩
variable{n:Nat}{k:IntKind}
theorem et {len:Nat} (h:n≤len):cF len none (some (.int k (n:Nat)))=some (0,n):=by
 simp only[cF,gW,ky,γ];rw[if_pos ⟨by omega,by omega⟩];rfl
variable{m:Nat}{k':IntKind}
theorem wrap_i32 {n : Int} (h1 : -2147483648 ≤ n) (h2 : n ≤ 2147483647) : bJ .i32 n = n := by
  cases n with
  | ofNat m => exact ct (k := .i32) (m := m) (by simp only [ic]; have : (Int.ofNat m) = (m : Int) := rfl; omega)
  | negSucc m =>
    unfold bJ
    have : τ (BG .i32) m = false := by
      cases hb : τ (BG .i32) m with
      | false => rfl
      | true => have := Ψ hb; simp only [BG] at this; have : Int.negSucc m = -(m : Int) - 1 := by omega
                omega
    simp only [this]
theorem Zs (x y:Int):(if y>x then y else x)=max x y:=by split<;>omega
theorem Zr (x y:Int):(if y<x then y else x)=min x y:=by split<;>omega
variable{y:Int}{yo:Operand}
theorem ab.Je {t1 t2:TypeId} {xo:Operand} {x:Int} {CO:Array TypeId} (hg:aH ops fr ⟨some dst,.call ⟨.builtin .max,#[xo,yo],CO⟩,ty,pp,a,g⟩=some true) (hx:fr.ev xo=.int k x) (hy:fr.ev yo=.int k' y) (hp:fr.put dst (.int k (max x y))=aM) (h:ab P ops rest aM st Q):ab P ops (⟨some dst,.call ⟨.builtin .max,#[xo,yo],CO⟩,ty,pp,a,g⟩::rest) fr st Q:=by
 refine ab.go hg rfl (d:=.int k (max x y)) (st1:=st) ?_ hp h;simp only[eS,π,Q5,hx,hy,bW,vC,Ag,γ,δ,←Zs];rfl
theorem ab.LG {t1 t2:TypeId} {xo:Operand} {x:Int} {CO:Array TypeId} (hg:aH ops fr ⟨some dst,.call ⟨.builtin .min,#[xo,yo],CO⟩,ty,pp,a,g⟩=some true) (hx:fr.ev xo=.int k x) (hy:fr.ev yo=.int k' y) (hp:fr.put dst (.int k (min x y))=aM) (h:ab P ops rest aM st Q):ab P ops (⟨some dst,.call ⟨.builtin .min,#[xo,yo],CO⟩,ty,pp,a,g⟩::rest) fr st Q:=by
 refine ab.go hg rfl (d:=.int k (min x y)) (st1:=st) ?_ hp h;simp only[eS,π,Q5,hx,hy,bW,vC,Ag,γ,δ,←Zr];rfl
theorem ab.NN {t oT:TypeId} {xo:Operand} {x:Int} (hg:aH ops fr ⟨some dst,.binOp .add t xo yo oT,ty,pp,a,g⟩=some true) (hx:fr.ev xo=.int .i64 x) (hy:fr.ev yo=.int .i64 y) (h1:-9223372036854775808≤x+y) (h2:x+y≤9223372036854775807) (hp:fr.put dst (.int .i64 (x+y))=aM) (h:ab P ops rest aM st Q):ab P ops (⟨some dst,.binOp .add t xo yo oT,ty,pp,a,g⟩::rest) fr st Q:=by
 refine ab.go hg rfl (d:=.int .i64 (x+y)) (st1:=st) ?_ hp h;simp only[eS,hx,hy,fw,zi,if_pos trivial,δ,wrap_i64 h1 h2,reduceIte]
theorem ab.KB {t oT:TypeId} {xo:Operand} {x:Int} (hg:aH ops fr ⟨some dst,.binOp .sub t xo yo oT,ty,pp,a,g⟩=some true) (hx:fr.ev xo=.int .i64 x) (hy:fr.ev yo=.int .i64 y) (h1:-9223372036854775808≤x-y) (h2:x-y≤9223372036854775807) (hp:fr.put dst (.int .i64 (x-y))=aM) (h:ab P ops rest aM st Q):ab P ops (⟨some dst,.binOp .sub t xo yo oT,ty,pp,a,g⟩::rest) fr st Q:=by
 refine ab.go hg rfl (d:=.int .i64 (x-y)) (st1:=st) ?_ hp h;simp only[eS,hx,hy,fw,zi,if_pos trivial,δ,wrap_i64 h1 h2,reduceIte]
theorem ab.Ct {t oT:TypeId} {xo:Operand} {x:Int} (hg:aH ops fr ⟨some dst,.binOp .add t xo yo oT,ty,pp,a,g⟩=some true) (hx:fr.ev xo=.int .i32 x) (hy:fr.ev yo=.int .i32 y) (h1:-2147483648≤x+y) (h2:x+y≤2147483647) (hp:fr.put dst (.int .i32 (x+y))=aM) (h:ab P ops rest aM st Q):ab P ops (⟨some dst,.binOp .add t xo yo oT,ty,pp,a,g⟩::rest) fr st Q:=by
 refine ab.go hg rfl (d:=.int .i32 (x+y)) (st1:=st) ?_ hp h;simp only[eS,hx,hy,fw,zi,if_pos trivial,δ,wrap_i32 h1 h2,reduceIte]
theorem ab.Q_ {t oT:TypeId} {xo:Operand} {x:Int} (hg:aH ops fr ⟨some dst,.binOp .sub t xo yo oT,ty,pp,a,g⟩=some true) (hx:fr.ev xo=.int .i32 x) (hy:fr.ev yo=.int .i32 y) (h1:-2147483648≤x-y) (h2:x-y≤2147483647) (hp:fr.put dst (.int .i32 (x-y))=aM) (h:ab P ops rest aM st Q):ab P ops (⟨some dst,.binOp .sub t xo yo oT,ty,pp,a,g⟩::rest) fr st Q:=by
 refine ab.go hg rfl (d:=.int .i32 (x-y)) (st1:=st) ?_ hp h;simp only[eS,hx,hy,fw,zi,if_pos trivial,δ,wrap_i32 h1 h2,reduceIte]
theorem ab.mv {op:Op} {x:Operand} {d:D} (jD:op=.move x∨op=.assign x) (hg:aH ops fr ⟨some dst,op,ty,pp,a,g⟩=some true) (hx:fr.ev x=d) (hp:fr.put dst d=aM)
  (h:ab P ops rest aM st Q):ab P ops (⟨some dst,op,ty,pp,a,g⟩::rest) fr st Q:=by
 refine ab.go hg ?_ (d:=d) (st1:=st) ?_ hp h<;>rcases jD with rfl|rfl<;>first|rfl|simp only[eS,hx]
def pC (P:Pv) (fields:Array Field) (f:Nat):Option (Nat×Option Nat):=(fields[f]?).map fun fd=>(fd.offset,c9 P fd.type)
variable{fields:Array Field}{f fo:Nat}
theorem pB {P:Pv} (h:pC P fields f=some (fo,some m)):∃fd,fields[f]?=some fd∧fd.offset=fo∧c9 P fd.type=some m:=by
 unfold pC at h;obtain⟨fd,h1,h2⟩:=xw.1 h;simp only[Prod.mk.injEq] at h2;exact⟨fd,h1,h2.1,h2.2⟩
variable{aE:Nat}
theorem ab.eY {t:TypeId} {xo:Operand} {k off o:Nat} (hg:aH ops fr ⟨some dst,.fieldAddr t xo f,ty,pp,a,g⟩=some true) (hx:fr.ev xo=.ptr k aE off) (ht:P.db t=some (.struct fields)) (hf:pC P fields f=some (fo,some (m+1))) (ho:off+fo=o) (hp:fr.put dst (.ptr k aE o)=aM) (h:ab P ops rest aM st Q):ab P ops (⟨some dst,.fieldAddr t xo f,ty,pp,a,g⟩::rest) fr st Q:=by
 obtain⟨fd,h1,h2,h3⟩:=pB hf;subst ho;refine ab.go hg rfl (d:=.ptr k aE (off+fo)) (st1:=st) ?_ hp h;simp only[eS,hx,gZ,ht,h1,γ,h3,h2];rw[if_neg (by simp)];rfl
variable{x:D}{r:List D}
theorem ab.Hx {t:TypeId} {xo:Operand} {aM:D→Fr} (hg:aH ops fr ⟨some dst,.fieldAddr t xo f,ty,pp,a,g⟩=some true) (hx:fr.ev xo=x) (hR:mV st x r) (ht:P.db t=some (.struct fields)) (hf:pC P fields f=some (fo,some (m+1))) (hp:∀p,fr.put dst p=aM p) (h:∀p,mV st p (r.drop fo)→ab P ops rest (aM p) st Q):ab P ops (⟨some dst,.fieldAddr t xo f,ty,pp,a,g⟩::rest) fr st Q:=by
 obtain⟨fd,h1,h2,h3⟩:=pB hf;exact ab.Ri hg hx hR ht h1 h3 (by omega) hp (by rw[h2];exact h)
variable{s:Nat}
theorem ab.iU {t:TypeId} {xo:Operand} {y:D} {o o2:Nat} {aM:D→Fr} (hg:aH ops fr ⟨some dst,.fieldAddr t xo f,ty,pp,a,g⟩=some true) (hx:fr.ev xo=y) (hR:vU x s i o y) (ht:P.db t=some (.struct fields)) (hf:pC P fields f=some (fo,some (m+1))) (ho:o+fo=o2) (hp:∀p,fr.put dst p=aM p) (h:∀p,vU x s i o2 p→ab P ops rest (aM p) st Q):ab P ops (⟨some dst,.fieldAddr t xo f,ty,pp,a,g⟩::rest) fr st Q:=by
 obtain⟨fd,h1,h2,h3⟩:=pB hf;subst ho;exact ab.Ry hg hx hR ht h1 h3 (by omega) hp (by rw[h2];exact h)
variable{c:List D}
theorem CZ {cs:List D} (h:cs.length=c.length):setMany c 0 cs=cs:=by
 rw[iZ cs c 0 (by omega),List.take_zero,PR,Qa7,h,List.drop_length,Qa1]
variable{N:Nat} {S:St} {H:List bo}
variable{ar:Bool}{ao:Operand}
theorem ab.bQ {k:Nat} {cs:List D} {v:D} {t:TypeId} {vo:Operand} (hH:Has N S st H) (hg:aH ops fr ⟨none,.store t ao vo,ty,pp,a,g⟩=some true) (ha:fr.ev ao=.ptr k aE 0) (hv:fr.ev vo=v) (kZ:v.cells?=some cs) (hs:c9 P t=some cs.length) (hj:H[j]?=some (.box k (.mem aE ar c))) (hl:cs.length=c.length) (hw:S.flr≤N∨refs cs=0) (h:∀ai,Has N S ai (H.set j (.box k (.mem aE ar cs)))→ab P ops rest fr ai Q):ab P ops (⟨none,.store t ao vo,ty,pp,a,g⟩::rest) fr st Q:=
 ab.gE hH hg ha hv kZ hs hj (by omega) hw (by rw[CZ hl];exact h)
theorem AO {place:Nat→Option (Nat×Nat)} {s:Nat} (fT:∀i,place i=some (i*s,s)):∀(vs:List D) (n:Nat) (done rem:List D),done.length=n*s→rem.length=vs.length*s→(∀v∈vs,v.cells?=some v.cells∧v.cells.length=s)→
  lj place (done++rem) (vs.mapIdx fun i v=>(n+i,v))=some (done++(vs.map Qa0).flatten)
 |[],n,done,rem,hd,hr,_=>by
  have:rem=[]:=by cases rem with|nil=>rfl|cons _ _=>simp at hr
  subst this;simp[lj]
 |v::vs,n,done,rem,hd,hr,hv=>by
  obtain⟨h1,h2⟩:=hv v (κ ..);simp only[ο,ς,Zn] at hr;simp only[Qaa,lj,fT,h1,Qak];rw[if_neg (by simp only[h2,ne_eq,not_true_eq_false,ψ,false_or];rw[hd,hr];omega)]
  have e1:setMany (done++rem) (n*s) v.cells=(done++v.cells)++rem.drop s:=by
   rw[iZ _ _ _ (by simp only[ψ];omega),h2,←hd,List.take_left,Qa4]
  have ih:=AO fT vs (n+1) (done++v.cells) (rem.drop s) (by rw[ψ,hd,h2,ς,Zn]) (by rw[lx];omega) fun w hw=>hv w (μ _ hw);rw[e1];have e2:(vs.mapIdx fun i v=>(n+(i+1),v))=vs.mapIdx fun i v=>(n+1+i,v):=by congr 1;funext i v;rw[show n+(i+1)=n+1+i by omega]
  rw[e2,ih];simp[v8]
def Ih (fr:Fr):Nat→List (Nat×Operand)→List D→Prop
 |_,[],[]=>True
 |n,(i,o)::ps,v::vs=>i=n∧fr.ev o=v∧Ih fr (n+1) ps vs
 |_,_,_=>False
theorem Ew {fr:Fr}:∀{ps:List (Nat×Operand)} {vs:List D} {n:Nat},Ih fr n ps vs→(ps.map fun p=>(p.1,fr.ev p.2))=vs.mapIdx fun i v=>(n+i,v)
 |[],[],_,_=>rfl
 |(i,o)::ps,v::vs,n,h=>by
  obtain⟨h1,h2,h3⟩:=h;have ih:=Ew h3;simp only[π,Qaa,Qak];rw[ih,h1,h2]
  congr 1
  congr 1;funext i v;rw[show n+(i+1)=n+1+i by omega]
 |[],_::_,_,h=>h.elim
 |_::_,[],_,h=>h.elim
theorem ab.HX {t e:TypeId} {parts:Array (Nat×Operand)} {z:List D} {vs:List D} {aM:Nat→Fr} (hH:Has N S st H) (hg:aH ops fr ⟨some dst,.buildSlice t m parts,ty,pp,a,g⟩=some true) (ht:P.db t=some (.slice e)) (hs:c9 P e=some s) (hz:ec P e=some z) (oB:z.length=s) (hm:m*s≤16777216) (Yw:Ih fr 0 parts.toList vs) (UQ:vs.length=m) (hc:∀v∈vs,v.cells?=some v.cells∧v.cells.length=s) (hp:∀k,fr.put dst (.win k 0 0 m s)=aM k) (h:∀k ai,S.bs.length≤k→Has N S ai (.aF (.win k 0 0 m s) s (vs.map Qa0)::H)→ab P ops rest (aM k) ai Q):ab P ops (⟨some dst,.buildSlice t m parts,ty,pp,a,g⟩::rest) fr st Q:=by
 have Ka:=Ew Yw;have hf:=AO (place:=fun i=>some (i*s,s)) (fun _=>rfl) vs 0 [] (fV m z) (by simp) (by simp[fV,UQ,oB]) hc
 refine ab.go hg rfl (d:=.win st.bs.length 0 0 m s) (st1:=st.push (.mem 0 true (vs.map Qa0).flatten)) ?_ (hp _) (h _ _ hH.len (hH.wj (by simpa using UQ) rfl (fun e he=>by
  obtain⟨v,hv,rfl⟩:=hD.1 he
  exact(hc v hv).2)))
 simp only[eS,kP,ht,hs,hz,γ];rw[if_pos ⟨oB,hm⟩,Ka];simp only[PR] at hf;rw[hf];rfl
theorem ab.av {k off:Nat} {t:TypeId} (hH:Has N S st H) (hg:aH ops fr ⟨some dst,.load t ao,ty,pp,a,g⟩=some true) (ha:fr.ev ao=.ptr k aE off) (hj:H[j]?=some (.box k (.mem aE ar c))) (hr:(c.drop off).take m=r) (hd:fx P t r=some (.agg r)) (hm:r.length=m) (hp:fr.put dst (.agg r)=aM) (h:ab P ops rest aM st Q):ab P ops (⟨some dst,.load t ao,ty,pp,a,g⟩::rest) fr st Q:=
 ab.iv hH hg ha hj (pS (r:=r) (by rw[hm];exact hr) hd) hp h
theorem bp {α:Type} {l:List α} {a:α} (h:l[i]?=some a):i<l.length:=by
 rcases ω i l.length with h'|h'
 ·exact h'
 ·rw[θ h'] at h;cases h
theorem ab.c_ {t:TypeId} (hg:aH ops fr ⟨some dst,.load t ao,ty,pp,a,g⟩=some true) (ha:fr.ev ao=x) (hR:mV st x r) (hd:fx P t r=some (.agg r)) (hp:fr.put dst (.agg r)=aM) (h:ab P ops rest aM st Q):ab P ops (⟨some dst,.load t ao,ty,pp,a,g⟩::rest) fr st Q:=ab.bB hg ha hR hd hp h
variable{es:List (List D)}
theorem ab.Bz {t:TypeId} {y:D} (hH:Has N S st H) (hg:aH ops fr ⟨some dst,.load t ao,ty,pp,a,g⟩=some true) (ha:fr.ev ao=y) (hR:vU x s i 0 y) (hj:H[j]?=some (.aF x s es)) (hr:es[i]?=some r) (hd:fx P t r=some (.agg r)) (hp:fr.put dst (.agg r)=aM) (h:ab P ops rest aM st Q):ab P ops (⟨some dst,.load t ao,ty,pp,a,g⟩::rest) fr st Q:=ab.cu hH hg ha hR hj hr (by rw[JS];exact hd) hp h
variable{z:Int}
theorem ab.e_ {t oT:TypeId} {xo:Operand} {x:Int} (hg:aH ops fr ⟨some dst,.binOp .add t xo yo oT,ty,pp,a,g⟩=some true) (hx:fr.ev xo=.int k x) (hy:fr.ev yo=.int k y) (hz:bJ k (x+y)=z) (hp:fr.put dst (.int k z)=aM) (h:ab P ops rest aM st Q):ab P ops (⟨some dst,.binOp .add t xo yo oT,ty,pp,a,g⟩::rest) fr st Q:=by
 refine ab.go hg rfl (d:=.int k z) (st1:=st) ?_ hp h;simp only[eS,hx,hy,fw,zi,if_pos trivial,δ,hz,reduceIte]
theorem ab.gd {t oT:TypeId} {xo:Operand} {x:Int} (hg:aH ops fr ⟨some dst,.binOp .sub t xo yo oT,ty,pp,a,g⟩=some true) (hx:fr.ev xo=.int k x) (hy:fr.ev yo=.int k y) (hz:bJ k (x-y)=z) (hp:fr.put dst (.int k z)=aM) (h:ab P ops rest aM st Q):ab P ops (⟨some dst,.binOp .sub t xo yo oT,ty,pp,a,g⟩::rest) fr st Q:=by
 refine ab.go hg rfl (d:=.int k z) (st1:=st) ?_ hp h;simp only[eS,hx,hy,fw,zi,if_pos trivial,δ,hz,reduceIte]
theorem ab.DE {t oT:TypeId} {xo:Operand} {x:Int} (hg:aH ops fr ⟨some dst,.binOp .mul t xo yo oT,ty,pp,a,g⟩=some true) (hx:fr.ev xo=.int k x) (hy:fr.ev yo=.int k y) (hz:bJ k (x*y)=z) (hp:fr.put dst (.int k z)=aM) (h:ab P ops rest aM st Q):ab P ops (⟨some dst,.binOp .mul t xo yo oT,ty,pp,a,g⟩::rest) fr st Q:=by
 refine ab.go hg rfl (d:=.int k z) (st1:=st) ?_ hp h;simp only[eS,hx,hy,fw,zi,if_pos trivial,δ,hz,reduceIte]
theorem ab.QA {t oT:TypeId} {xo:Operand} {y:D} {b:Bool} (hg:aH ops fr ⟨some dst,.binOp .neq t xo yo oT,ty,pp,a,g⟩=some true) (hx:fr.ev xo=x) (hy:fr.ev yo=y) (hb:fw P .neq t x y=some (.bool b)) (hp:fr.put dst (.bool b)=aM) (h:ab P ops rest aM st Q):ab P ops (⟨some dst,.binOp .neq t xo yo oT,ty,pp,a,g⟩::rest) fr st Q:=by
 refine ab.go hg rfl (d:=.bool b) (st1:=st) ?_ hp h;simp only[eS,hx,hy,hb,δ]
variable{body:Code}{args loc:List D}
theorem Ev.eN {x:Fi} {st:St} {NP:D→St→Prop} (hq:pf f P.prm=none) (hf:P.fi f=some x) (hp:x.fz=none) (hb:x.fn.body=some body) (Mc:pad x.nloc args=⟨n,loc,[]⟩) (h:ag P x.dyn body ⟨n,loc,[]⟩ (ae x.mode st) fun o fr st1=>(∀i,o≠.exit i)∧∃ds d ai,nT P fr st1 x.fn.results.toList=some ds∧ez x.mode x.knul st st1 (zc ds)=some (d,ai)∧NP d ai):∃d ai,Ev P f args st d ai∧NP d ai:=by
 unfold ag at h;obtain⟨o,aM,st1,hN,ho,ds,d,ai,hr,hl,L_⟩:=h;refine⟨d,ai,Ev.gP hq hf hp hb Mc ?_,L_⟩;unfold ag;exact⟨o,aM,st1,hN,ho,ds,hr,hl⟩
def NR (M:Fr→St→Prop) (Q:Out→Fr→St→Prop):Out→Fr→St→Prop
 | .next,fr,st=>M fr st
 | .exit i,fr,st=>Q (.exit i) fr st
 | .ret,fr,st=>Q .ret fr st
theorem ag.merge {P:Pv} {c:Code} {fr:Fr} {st:St} {Q:Out→Fr→St→Prop} (M:Fr→St→Prop) (h1:ag P dy c fr st (NR M Q)) (h2:∀aM ai,M aM ai→Q .next aM ai):ag P dy c fr st Q:=
 h1.mono fun o aM ai h=>by
  cases o with
  |next=>exact h2 _ _ h
  |exit i=>exact h
  |ret=>exact h
theorem ab.Yb {t oT:TypeId} {xo:Operand} {x y:Nat} (hg:aH ops fr ⟨some dst,.binOp .add t xo yo oT,ty,pp,a,g⟩=some true) (hx:fr.ev xo=.int .i64 (x:Nat)) (hy:fr.ev yo=.int .i64 (y:Nat)) (h2:x+y≤9223372036854775807) (hp:fr.put dst (.int .i64 ((x+y:Nat):Int))=aM) (h:ab P ops rest aM st Q):ab P ops (⟨some dst,.binOp .add t xo yo oT,ty,pp,a,g⟩::rest) fr st Q:=
 ab.e_ hg hx hy (by rw[wrap_i64 (by omega) (by omega)];rfl) hp h
theorem Ev.FP {x:Fi} {st:St} {NP:D→Prop} (hq:pf f P.prm=none) (hf:P.fi f=some x) (hp:x.fz=none) (hb:x.fn.body=some body) (Mc:pad x.nloc args=⟨n,loc,[]⟩) (h:ag P x.dyn body ⟨n,loc,[]⟩ (ae x.mode st) fun o fr st1=>(∀i,o≠.exit i)∧∃ds d,nT P fr st1 x.fn.results.toList=some ds∧ez x.mode x.knul st st1 (zc ds)=some (d,st)∧NP d):∃d,Ev P f args st d st∧NP d:=by
 unfold ag at h;obtain⟨o,aM,st1,hN,ho,ds,d,hr,hl,L_⟩:=h;refine⟨d,Ev.gP hq hf hp hb Mc ?_,L_⟩;unfold ag;exact⟨o,aM,st1,hN,ho,ds,hr,hl⟩
def aK (loc:List D) (ws:List Nat) (f:Nat→D):List D:=ws.foldl (fun l w=>l.set w (f w)) loc
theorem ag.oM {P:Pv} {d n loc tmp st} {Q:Out→Fr→St→Prop} (t:Nat) (v:D) (ws:List Nat) (h1:ab P l.toArray l ⟨n,loc,[]⟩ st fun aM ai=>∃f tmp,aM=⟨n,(aK loc ws f).set t v,tmp⟩∧ai=st) (h2:∀f tmp,Q .next ⟨n,(aK loc ws f).set t v,tmp⟩ st) (h0:kf i dy=[]:=by rfl):ag P dy (.region i l.toArray d) ⟨n,loc,tmp⟩ st Q:=by
 refine ag.cT ?_ h0;unfold ab at h1⊢;obtain⟨aM,ai,h3,f,Q9,rfl,rfl⟩:=h1;exact⟨_,_,h3,h2 _ _⟩
theorem ag.dM {P:Pv} {d n loc tmp st} {Q:Out→Fr→St→Prop} (t:Nat) (v:D) (ws:List Nat) (h1:ab P l.toArray l ⟨n,loc,[]⟩ st fun aM ai=>∃f tmp,aM=⟨n,aK loc ws f,tmp⟩∧ai=st∧look t tmp=v) (h2:∀f tmp,look t tmp=v→Q .next ⟨n,aK loc ws f,tmp⟩ st) (h0:kf i dy=[]:=by rfl):ag P dy (.region i l.toArray d) ⟨n,loc,tmp⟩ st Q:=by
 refine ag.cT ?_ h0;unfold ab at h1⊢;obtain⟨aM,ai,h3,f,Q9,rfl,rfl,h4⟩:=h1;exact⟨_,_,h3,h2 _ _ h4⟩
variable{Bh:List (Nat×D)}{ws:List Nat}
theorem bu {L:List D} {v:D} {st:St} (h:L=(aK loc ws (fun k=>nth .bI L k)).set t v):∃(f:Nat→D) (tmp:List (Nat×D)),(⟨n,L,Bh⟩:Fr)=⟨n,(aK loc ws f).set t v,tmp⟩∧st=st:=⟨_,Bh,by rw[←h],rfl⟩
theorem aR {L:List D} {v:D} {st:St} (h:L=aK loc ws (fun k=>nth .bI L k)) (h2:look t Bh=v):∃(f:Nat→D) (tmp:List (Nat×D)),(⟨n,L,Bh⟩:Fr)=⟨n,aK loc ws f,tmp⟩∧st=st∧look t tmp=v:=⟨_,Bh,by rw[←h],rfl,h2⟩
theorem A3 {x y:Oper} {fi fj:Fr} {si wb sj NW:St} {a:Operand} {k off v:Nat} (hy:kJ y.op=none) (hx:kJ x.op=some a) (ha:fi.ev a=.ptr k aE off) (h1:sj.bs[k]?=some (.mem v ar c)) (h2:NW.bs[k]?=some (.mem v ar c)) (h3:si.bs[k]?=some (.mem v ar c)) (hr:refs c=0):lU x fi si wb y fj sj NW=true:=by
 unfold lU;simp only[hy,hx,ha,D.rU,χ];refine⟨tR h1 h2,?_⟩;unfold rD;simp only[h3,hr]
 split
 ·rfl
 ·simp
def dg (x:D) (s:Nat) (es:List (List D)):Prop:=(x=.nul∧es=[])∨∃ds,x=.sl ds∧ds.map Qa0=es∧∀d∈ds,d.cells?=some d.cells∧d.cells.length=s
theorem dg.rows (h:dg x s es) (st:St):Rows st s x es:=by
 rcases h with⟨rfl,rfl⟩|⟨ds,rfl,rfl,h⟩
 ·exact .nul
 ·exact .sl ds h
theorem dg.ref (h:dg x s es):x.ref=0:=by
 rcases h with⟨rfl,rfl⟩|⟨ds,rfl,rfl,h⟩<;>rfl
theorem dg.arg (h:dg x s es) (N:Nat) (S:St):Arg N S s x es:=⟨h.rows S,by rw[h.ref];omega⟩
theorem dg.cells (h:dg x s es):x.cells?=some [x]∧x.cells=[x]:=by
 rcases h with⟨rfl,rfl⟩|⟨ds,rfl,rfl,h⟩<;>exact⟨rfl,rfl⟩
theorem dg.freeze (h:dg x s es) (st:St) (N n:Nat):∃y,bA st N false (n+1) x=some y∧dg y s es:=by
 rcases h with⟨rfl,rfl⟩|⟨ds,rfl,rfl,h⟩
 ·exact⟨.sl [],rfl,.inr ⟨[],rfl,rfl,fun d hd=>by cases hd⟩⟩
 ·exact⟨.sl ds,rfl,.inr ⟨ds,rfl,rfl,h⟩⟩
theorem dg.frozen (h:∀e∈es,e.length=s) (hp:∀e∈es,∀d∈e,dh d=true):dg (.sl (es.map (ml s))) s es:=by
 refine .inr ⟨_,rfl,?_,fun d hd=>?_⟩
 ·rw[Qah]
  conv=>rhs;rw[←Qaj es]
  refine Qa8 fun e he=>?_;exact(qM (h e he) (hp e he)).2
 ·obtain⟨e,he,rfl⟩:=hD.1 hd;obtain⟨h1,h2⟩:=qM (h e he) (hp e he);exact⟨h1,by rw[h2];exact h e he⟩
theorem dg.part {P:Pv} {st:St} {t e:TypeId} {l r:Nat} {lo hi:Option D} (h:dg x s es) (ht:P.db t=some (.slice e)) (hs:c9 P e=some s) (hb:cF es.length lo hi=some (l,r)):∃y,fM P t x lo hi st=some y∧dg y s ((es.take r).drop l):=by
 rcases h with⟨rfl,rfl⟩|⟨ds,rfl,rfl,h⟩
 ·simp only[Y'] at hb;refine⟨.nul,?_,.inl ⟨rfl,by simp⟩⟩;simp only[fM,ht,hs,γ,hb,δ]
 ·rw[P8] at hb;refine⟨.sl ((ds.take r).drop l),?_,.inr ⟨_,rfl,by rw[Qad,Qae],fun d hd=>h d (Z5 (AN hd))⟩⟩;simp only[fM,ht,hs,γ]
  rw[if_pos (by
   cases ds with
   |nil=>rfl
   |cons d ds=>obtain⟨h1,h2⟩:=h d (κ ..);simp[rR,h1,h2])]
  simp only[hb,δ]
theorem ab.xi {P:Pv} {ops:Array Oper} {rest:List Oper} {fr:Fr} {st:St} {Q:Fr→St→Prop} {ty:TypeId} {pp:String} {a:Array Edge} {g:Option (Nat×Bool)} {dst:Nat} {t e:TypeId} {xo:Operand} {lo hi:Option Operand} {l r:Nat} {aM:D→Fr} (hg:aH ops fr ⟨some dst,.slice t xo lo hi none,ty,pp,a,g⟩=some true) (hx:fr.ev xo=x) (hR:dg x s es) (ht:P.db t=some (.slice e)) (hs:c9 P e=some s) (hb:cF es.length (lo.map fr.ev) (hi.map fr.ev)=some (l,r)) (hp:∀y,fr.put dst y=aM y) (h:∀y,dg y s ((es.take r).drop l)→ab P ops rest (aM y) st Q):ab P ops (⟨some dst,.slice t xo lo hi none,ty,pp,a,g⟩::rest) fr st Q:=by
 obtain⟨y,h1,h2⟩:=hR.part (st:=st) ht hs hb;refine ab.go hg rfl (d:=y) (st1:=st) ?_ (hp y) (h y h2);simp only[eS,hx,h1,δ]
end Go.V
namespace Go.V
inductive dN {α β:Type} (R:α→β→Prop):List α→List β→Prop where
 |nil:dN R [] []
 |cons {a:α} {b:β} {l:List α} {m:List β} (h:R a b) (t:dN R l m):dN R (a::l) (b::m)
theorem dN.mono {α β:Type} {R R':α→β→Prop} (h:∀a b,R a b→R' a b):∀{l:List α} {m:List β},dN R l m→dN R' l m
 |_,_,.nil=>.nil
 |_,_,.cons a t=>.cons (h _ _ a) (t.mono h)
theorem dN.append {α β:Type} {R:α→β→Prop}:∀{l l':List α} {m m':List β},dN R l m→dN R l' m'→dN R (l++l') (m++m')
 |_,_,_,_,.nil,h=>h
 |_,_,_,_,.cons a t,h=>.cons a (t.append h)
theorem dN.len {α β:Type} {R:α→β→Prop}:∀{l:List α} {m:List β},dN R l m→l.length=m.length
 |_,_,.nil=>rfl
 |_,_,.cons a t=>by simp[t.len]
inductive gb (st:St) (ks:Nat→Prop):D→D→Prop where
 |plain (d:D) (h:dh d=true):gb st ks d d
 |aF (w:D) (s:Nat) (rs:List (List D)) (h:kA st s w rs) (hp:∀e∈rs,∀d∈e,dh d=true) (hk:∀k,w.ref=k+1→ks k):gb st ks w (.sl (rs.map (ml s)))
variable{ks:Nat→Prop}{d v:D}
theorem gb.mono {st:St} {Uz:Nat→Prop} (h:∀k,ks k→Uz k) (p:gb st ks d v):gb st Uz d v:=by
 cases p with
 |plain h=>exact .plain d h
 |aF s rs h1 h2 h3=>exact .aF d s rs h1 h2 fun k hk=>h k (h3 k hk)
theorem gb.move {st ai:St} (h:∀k,ks k→ai.bs[k]?=st.bs[k]?) (p:gb st ks d v):gb ai ks d v:=by
 cases p with
 |plain h=>exact .plain d h
 |aF s rs h1 h2 h3=>exact .aF d s rs (h1.move fun k hk=>h k (h3 k hk)) h2 h3
variable{s:Nat}{x:D}{es:List (List D)}
theorem kA.Ua {st:St} {N:Nat} (h:kA st s x es) (hN:∀k,x.ref=k+1→N≤k) (hp:∀e∈es,∀d∈e,dh d=true) (n:Nat):gJ st N (n+2) x=some (.sl (es.map (ml s))):=by
 cases h with
 |nul=>rfl
 |win k aE off es c hm hl hc he=>
  have:=hN k (by simp only[Γ]);rw[gJ];simp only[if_neg (show¬k<N by omega),St.mem_of hm,γ]
  rw[if_pos hl,hc,nY (fun d hd=>by
   obtain⟨e,vO,H5⟩:=tn.1 hd
   exact hp e vO d H5)]
  simp only[δ,jo he]
theorem gb.pure {st:St} {N:Nat} (hN:∀k,ks k→N≤k) (p:gb st ks d v) (n:Nat):gJ st N (n+2) d=some v:=by
 cases p with
 |plain h=>cases d<;>simp[dh] at h<;>rfl
 |aF s rs h1 h2 h3=>exact h1.Ua (fun k hk=>hN k (h3 k hk)) h2 n
theorem uw {f:D→Option D} {R:D→D→Prop} (h:∀a b,R a b→f a=some b):∀{l m:List D},dN R l m→jZ f l=some m
 |_,_,.nil=>rfl
 |_,_,.cons a t=>by simp only[jZ,h _ _ a,uw h t]
theorem dN.flat {R:D→D→Prop}:∀{l m:List (List D)},dN (dN R) l m→dN R l.flatten m.flatten
 |_,_,.nil=>.nil
 |_,_,.cons a t=>by simp only[Δ];exact a.append t.flat
theorem dN.each {R:D→D→Prop}:∀{l m:List (List D)},dN (dN R) l m→(∀e∈l,e.length=s)→∀e∈m,e.length=s
 |_,_,.nil,_,e,he=>by cases he
 |_,_,.cons a t,h,e,he=>by
  rcases Qa5.1 he with rfl|he
  ·rw[←a.len];exact h _ (κ ..)
  ·exact t.each (fun x hx=>h x (μ _ hx)) e he
def bo.emp:bo:=⟨fun _=>False,fun _=>True,fun _ p=>p⟩
def bo.deep (ks:Nat→Prop) (x:D) (s:Nat) (vs:List (List D)):bo:=
 ⟨fun j=>x.ref=j+1∨ks j,fun st=>(∃es,kA st s x es∧dN (dN (gb st ks)) es vs)∧∀k,x.ref=k+1→¬ks k,fun h p=>by
  obtain⟨⟨es,h1,h2⟩,h3⟩:=p
  exact⟨⟨es,h1.move fun k hk=>h k (.inl hk),h2.mono fun a b=>dN.mono fun c d=>gb.move fun k hk=>h k (.inr hk)⟩,h3⟩⟩
variable{N:Nat} {S st:St} {H:List bo}
theorem Has.OS (h:Has N S st H) (s:Nat):Has N S st (.deep (fun _=>False) .nul s []::H):=
 h.add (fun _ _=>rfl) (υ _) rfl rfl ⟨⟨[],.nul,.nil⟩,fun k hk=>by simp only[Γ] at hk;omega⟩ fun k hk=>by
  rcases hk with hk|hk
  ·simp only[Γ] at hk;omega
  ·exact hk.elim
variable{i j:Nat}{vs:List (List D)}
theorem Has.Cu {w:D} {sw:Nat} {rs:List (List D)} (h:Has N S st H) (hij:i≠j) (hi:H[i]?=some (.aF w sw rs)) (hj:H[j]?=some (.deep ks x s vs)) (hp:∀e∈rs,∀d∈e,dh d=true):
  Has N S st ((H.set i .emp).set j (.deep (fun k=>ks k∨w.ref=k+1) x s vs))∧gb st (fun k=>ks k∨w.ref=k+1) w (.sl (rs.map (ml sw))):=by
 have hwo:=h.own hi;obtain⟨⟨es,h1,h2⟩,h3⟩:=(h.ok j _ hj).1;have hKi:=(h.ok i _ hi).2;have hKj:=(h.ok j _ hj).2;have aaX:=h.dis i j _ _ hij hi hj;refine⟨⟨h.ex,h.hN,h.du,fun n e hn=>?_,fun a b ea eb hab ha hb k sX kQ=>?_⟩,.aF w sw rs hwo hp fun k hk=>.inr hk⟩
 ·by_cases hnj:n=j
  ·subst hnj;rw[ι (by rw[Θ];exact bp hj)] at hn;cases hn;refine⟨⟨⟨es,h1,h2.mono fun a b=>dN.mono fun c d=>gb.mono fun k hk=>.inl hk⟩,fun k hk=>?_⟩,fun k hk=>?_⟩
   ·rintro(hk2|hk2)
    ·exact h3 k hk hk2
    ·exact aaX k hk2 (.inl hk)
   ·rcases hk with hk|hk|hk
    ·exact hKj k (.inl hk)
    ·exact hKj k (.inr hk)
    ·exact hKi k hk
  ·rw[ε (fun e=>hnj e.symm)] at hn
   by_cases hni:n=i
   ·subst hni;rw[ι (bp hi)] at hn;cases hn;exact⟨trivial,fun k hk=>hk.elim⟩
   ·rw[ε (fun e=>hni e.symm)] at hn;exact h.ok n e hn
 ·have key:∀n e,((H.set i .emp).set j (.deep (fun k=>ks k∨w.ref=k+1) x s vs))[n]?=some e→∀k,e.K k→(n=j∧((bo.deep ks x s vs).K k∨(bo.aF w sw rs).K k))∨(n≠j∧n≠i∧H[n]?=some e):=by
   intro n e hn k hk
   by_cases hnj:n=j
   ·subst hnj;rw[ι (by rw[Θ];exact bp hj)] at hn;cases hn;refine .inl ⟨rfl,?_⟩
    rcases hk with hk|hk|hk
    ·exact .inl (.inl hk)
    ·exact .inl (.inr hk)
    ·exact .inr hk
   ·rw[ε (fun e=>hnj e.symm)] at hn
    by_cases hni:n=i
    ·subst hni;rw[ι (bp hi)] at hn;cases hn;exact hk.elim
    ·rw[ε (fun e=>hni e.symm)] at hn;exact .inr ⟨hnj,hni,hn⟩
  rcases key a ea ha k sX with⟨h4,h5⟩|⟨h4,h5,h6⟩<;>rcases key b eb hb k kQ with⟨g4,g5⟩|⟨g4,g5,g6⟩
  ·exact hab (h4.trans g4.symm)
  ·rcases h5 with h5|h5
   ·exact h.dis j b _ _ (fun e=>g4 e.symm) hj g6 k h5 kQ
   ·exact h.dis i b _ _ (fun e=>g5 e.symm) hi g6 k h5 kQ
  ·rcases g5 with g5|g5
   ·exact h.dis a j _ _ h4 h6 hj k sX g5
   ·exact h.dis a i _ _ h5 h6 hi k sX g5
  ·exact h.dis a b _ _ hab h6 g6 k sX kQ
variable{P:Pv}{y:D}{ys Kp:List (List D)}{z:List D}
theorem Has.tk (hH:Has N S st H) (hj:H[j]?=some (.deep ks x s vs)) (hy:Rows st s y ys) (hd:dN (dN (gb st ks)) ys Kp) {t1 t2 e:TypeId} {td:TypeDesc} {inf:TypeInfo} (h1:P.db t1=some (.slice e)) (h2:P.db t2=some td) (h3:gD td=false) (h4:P.info e=some inf) (h5:ec P e=some z) (h6:inf.size=s) (h7:z.length=s) (h8:0<inf.bytes∧inf.bytes≤1024) (nN:vs.length+ys.length≤1073741824) (hw:S.flr≤N∨refs ys.flatten=0):
  ∃x' ai,bW P .append [t1,t2] [x,y] st=some (x',ai)∧Has N S ai (H.set j (.deep ks x' s (vs++Kp))):=by
 obtain⟨⟨es,jY,y_⟩,he3⟩:=(hH.ok j _ hj).1;have hK:=(hH.ok j _ hj).2;have hlen:=y_.len
 have za:Has N S st [.aF x s es]:=by
  refine⟨hH.ex,hH.hN,hH.du,fun i e hi=>?_,fun i i' a b hii ha hb k sX kQ=>?_⟩
  ·cases i with
   |zero=>simp only[Zt,YH.injEq] at hi;subst hi;exact⟨jY,fun k hk=>hK k (.inl hk)⟩
   |succ i=>simp at hi
  ·cases i with
   |zero=>cases i' with
    |zero=>exact hii rfl
    |succ i'=>simp at hb
   |succ i=>simp at ha
 obtain⟨x',ai,q1,q2,q3⟩:=za.append (j:=0) aB hy h1 h2 h3 h4 h5 h6 h7 h8 (by omega) hw;refine⟨x',ai,q1,?_⟩;have hown:=q2.own (j:=0) aB
 have V2:(∀k,k<st.bs.length→x.ref≠k+1→ai.bs[k]?=st.bs[k]?)∧st.bs.length≤ai.bs.length∧ai.flr=st.flr∧ai.ro=st.ro∧(∀k,x'.ref=k+1→x.ref=k+1∨st.bs.length≤k):=by
  have kL:=hy.row
  have zj:∀e∈ys,e.length=s:=fun e he=>by
   obtain⟨i,hi⟩:=GB he;exact hy.yD i e hi
  simp only[bW,jV,h1,h2,h3,AI,if_false,h4,h5,kL,γ] at q1
  split at q1
  ·cases q1
  ·cases jY with
   |nul=>
    simp only at q1
    split at q1
    ·cases q1;exact⟨fun _ _ _=>rfl,υ _,rfl,rfl,fun k hk=>.inl hk⟩
    ·split at q1
     ·cases q1;exact⟨fun k hk _=>by simp only[Ω];rw[ρ hk],by simp[Ω],rfl,rfl,fun k hk=>.inr (by simp only[Γ] at hk;omega)⟩
     ·cases q1
   |win k aE off es c hm hl hc he=>
    simp only[St.mem_of hm] at q1
    split at q1
    ·cases q1
    ·split at q1
     ·cases q1;exact⟨fun _ _ _=>rfl,υ _,rfl,rfl,fun k hk=>.inl hk⟩
     ·split at q1
      ·cases q1;exact⟨fun n hn hne=>by simp only;rw[ε (fun e=>hne (by simp only[Γ];omega))],by simp,rfl,rfl,fun n hn=>.inl (by simp only[Γ] at hn⊢;exact hn)⟩
      ·cases q1
 obtain⟨c1,c2,c3,c4,c5⟩:=V2;have UR:=(q2.ok 0 _ aB).2;have vz:∀k,ks k→ai.bs[k]?=st.bs[k]?:=fun k hk=>c1 k (hK k (.inr hk)).2 fun e=>he3 k e hk;refine hH.Fc hj (fun k hk hne=>c1 k hk fun e=>hne (.inl e)) c2 c3 c4 ⟨⟨es++ys,hown,?_⟩,fun k hk mA=>?_⟩ (fun k hk=>?_) fun k hk=>?_
 ·exact(y_.mono fun a b=>dN.mono fun c d=>gb.move vz).append (hd.mono fun a b=>dN.mono fun c d=>gb.move vz)
 ·rcases c5 k hk with h|h
  ·exact he3 k h mA
  ·have:=(hK k (.inr mA)).2;omega
 ·rcases hk with hk|hk
  ·rcases c5 k hk with h|h
   ·exact .inl (.inl h)
   ·exact .inr h
  ·exact .inl (.inr hk)
 ·rcases hk with hk|hk
  ·exact(UR k hk).2
  ·exact IS (hK k (.inr hk)).2 c2
variable{ops:Array Oper}{rest:List Oper}{fr:Fr}{Q:Fr→St→Prop}{pp:String}{a:Array Edge}{g:Option (Nat×Bool)}{dst:Nat}
theorem ab.tk {ty:TypeId} {t1 t2 e:TypeId} {td:TypeDesc} {inf:TypeInfo} {xo yo:Operand} {aM:D→Fr} (hH:Has N S st H) (hg:aH ops fr ⟨some dst,.call ⟨.builtin .append,#[xo,yo],#[t1,t2]⟩,ty,pp,a,g⟩=some true) (hx:fr.ev xo=x) (hy:fr.ev yo=y) (hj:H[j]?=some (.deep ks x s vs)) (mz:Rows st s y ys) (hd:dN (dN (gb st ks)) ys Kp) (h1:P.db t1=some (.slice e)) (h2:P.db t2=some td) (h3:gD td=false) (h4:P.info e=some inf) (h5:ec P e=some z) (h6:inf.size=s) (h7:z.length=s) (h8:0<inf.bytes∧inf.bytes≤1024) (hp:∀x',fr.put dst x'=aM x') (hb:vs.length+ys.length≤1073741824) (hw:S.flr≤N∨refs ys.flatten=0) (h:∀x' ai,Has N S ai (H.set j (.deep ks x' s (vs++Kp)))→ab P ops rest (aM x') ai Q):
  ab P ops (⟨some dst,.call ⟨.builtin .append,#[xo,yo],#[t1,t2]⟩,ty,pp,a,g⟩::rest) fr st Q:=by
 obtain⟨x',ai,q1,q2⟩:=hH.tk hj mz hd h1 h2 h3 h4 h5 h6 h7 h8 hb hw;refine ab.go hg rfl (d:=x') (st1:=ai) ?_ (hp _) (h x' ai q2);simp only[eS,π,Q5,hx,hy];exact q1
variable{n:Nat}
theorem Has.tf (hH:Has N S st H) (hj:H[j]?=some (.deep ks x s vs)) (hn:4≤n):bA st N false (n+1) x=some (.sl (vs.map (ml s))):=by
 obtain⟨n,rfl⟩:∃m,n=m+4:=⟨n-4,by omega⟩
 obtain⟨⟨es,h1,h2⟩,h3⟩:=(hH.ok j _ hj).1;have hK:=(hH.ok j _ hj).2
 cases h1 with
 |nul=>cases h2;rfl
 |win k aE off es c hm hl hc he=>
  have hk:=hK k (.inl (by simp only[Γ]));show(if k<N then some (D.win k aE off es.length s) else gJ st N (n+4) (.win k aE off es.length s))=_;rw[if_neg (show¬k<N by omega),gJ];simp only[if_neg (show¬k<N by omega),St.mem_of hm,γ];rw[if_pos hl,hc,uw (fun a b hab=>hab.pure (fun k hk=>(hK k (.inr hk)).1) (n+1)) h2.flat];simp only[δ];rw[h2.len,jo (h2.each he)]
theorem Has.kE (hH:Has N S st H) (hj:H[j]?=some (.aF x s es)) (hp:∀e∈es,∀d∈e,dh d=true) (hn:3≤n):bA st N false n x=some (.sl (es.map (ml s))):=by
 obtain⟨n,rfl⟩:∃m,n=m+1:=⟨n-1,by omega⟩
 exact hH.freeze hj hp (by omega)
variable{k aE:Nat}{ar:Bool}{c:List D}
theorem Has.kD {a off:Nat} {t:TypeId} (hH:Has N S st H) (ha:fr.get a=.ptr k aE off) (hj:H[j]?=some (.box k (.mem aE ar c))) (hd:fx P t (c.drop off)=some d):nT P fr st [.cell a t]=some [d]:=by
 simp only[nT,j6,ha,St.mem_of (hH.at hj),γ,hd,δ]
theorem kA.cells (h:kA st s x es):x.cells?=some [x]:=by cases h<;>rfl
theorem Has.fv (hH:Has N S st H) (hj:H[j]?=some (.deep ks x s vs)):x.cells?=some [x]:=by
 obtain⟨⟨es,h1,_⟩,_⟩:=(hH.ok j _ hj).1;exact h1.cells
theorem Has.cX (hH:Has N S st H) (hj:H[j]?=some (.aF x s es)):x.cells?=some [x]:=(hH.own hj).cells
def GD (fr:Fr):List (Nat×Operand)→List (Nat×D)→Prop
 |[],[]=>True
 |(i,o)::ps,(j,d)::qs=>i=j∧fr.ev o=d∧d.cells?=some [d]∧GD fr ps qs
 |_,_=>False
theorem AL {fr:Fr} {pl:Nat→Option (Nat×Nat)}:∀{ps:List (Nat×Operand)} {qs:List (Nat×D)} {z:List D},GD fr ps qs→(∀q∈qs,pl q.1=some (q.1,1)∧q.1<z.length)→lj pl z (ps.map fun p=>(p.1,fr.ev p.2))=some (qs.foldl (fun l q=>l.set q.1 q.2) z)
 |[],[],z,_,_=>rfl
 |(i,o)::ps,(j,d)::qs,z,h,hp=>by
  obtain⟨rfl,h2,h3,h4⟩:=h;obtain⟨h5,h6⟩:=hp (i,d) (κ ..);simp only[π,lj,h2,h3,h5,List.foldl_cons];rw[if_neg (by simp only[ο,Y'];simp only at h6;omega)];simp only[setMany]
  exact AL h4 fun q hq=>by
   have:=hp q (μ _ hq)
   simpa using this
 |[],_::_,_,h,_=>h.elim
 |_::_,[],_,h,_=>h.elim
variable{aM:Fr}
theorem ab.jc {ty:TypeId} {t:TypeId} {parts:Array (Nat×Operand)} {cs:List D} {fields:Array Field} {ps:List (Nat×Nat)} {qs:List (Nat×D)} (hg:aH ops fr ⟨some dst,.build t parts,ty,pp,a,g⟩=some true) (hz:ec P t=some z) (hu:P.db t=some (.struct fields)) (Cz:qk P fields.toList=some ps) (he:GD fr parts.toList qs) (fT:∀q∈qs,ps[q.1]?=some (q.1,1)∧q.1<z.length) (kZ:qs.foldl (fun l q=>l.set q.1 q.2) z=cs) (hp:fr.put dst (.agg cs)=aM) (h:ab P ops rest aM st Q):ab P ops (⟨some dst,.build t parts,ty,pp,a,g⟩::rest) fr st Q:=by
 refine ab.go hg rfl (d:=.agg cs) (st1:=st) ?_ hp h;simp only[eS,Cq,hz,hu,Cz];rw[AL (pl:=fun i=>ps[i]?) he fT,kZ];rfl
theorem ab.Mp {ty:TypeId} {t e:TypeId} {aM:Nat→Fr} (hH:Has N S st H) (hg:aH ops fr ⟨some dst,.buildSlice t 0 #[],ty,pp,a,g⟩=some true) (ht:P.db t=some (.slice e)) (hs:c9 P e=some s) (hz:ec P e=some z) (oB:z.length=s) (hp:∀k,fr.put dst (.win k 0 0 0 s)=aM k) (h:∀k ai,S.bs.length≤k→Has N S ai (.aF (.win k 0 0 0 s) s []::H)→ab P ops rest (aM k) ai Q):ab P ops (⟨some dst,.buildSlice t 0 #[],ty,pp,a,g⟩::rest) fr st Q:=
 ab.HX (vs:=[]) hH hg ht hs hz oB (by omega) trivial rfl (fun v hv=>by cases hv) hp h
theorem Has.fm {a off u:Nat} {t:TypeId} {e:D} (hH:Has N S st H) (ha:fr.get a=.ptr k aE off) (hj:H[j]?=some (.box k (.mem aE ar c))) (hd:fx P t (c.drop off)=some d) (he:fr.get u=e):nT P fr st [.cell a t,.tmp u]=some [d,e]:=by
 simp only[nT,j6,ha,St.mem_of (hH.at hj),γ,hd,δ,he]
theorem ab.ML {ty:TypeId} {t e:TypeId} {xo io:Operand} {v off m o:Nat} {kk:IntKind} (hg:aH ops fr ⟨some dst,.indexAddr t xo io,ty,pp,a,g⟩=some true) (hx:fr.ev xo=.ptr k v off) (hi:fr.ev io=.int kk (i:Nat)) (ht:P.db t=some (.array m e)) (hs:c9 P e=some s) (hlt:i<m) (ho:off+i*s=o) (hp:fr.put dst (.ptr k v o)=aM) (h:ab P ops rest aM st Q):ab P ops (⟨some dst,.indexAddr t xo io,ty,pp,a,g⟩::rest) fr st Q:=by
 subst ho;refine ab.go hg rfl (d:=.ptr k v (off+i*s)) (st1:=st) ?_ hp h;simp only[eS,hx,hi,cJ,ht,hs,γ];rw[if_pos ⟨by omega,by omega⟩];rfl
end Go.V
namespace Go.V
variable{P:Pv} {ops:Array Oper} {rest:List Oper} {fr aM:Fr} {st st1:St} {Q:Fr→St→Prop} {ty:TypeId} {pp:String} {a:Array Edge} {g:Option (Nat×Bool)} {dst:Nat} {N:Nat} {S:St} {H:List bo} {d:D} {op:Op}
theorem qm {op:Op} {x:Operand} {d:D} (h:ab P ops rest aM st Q) (jD:op=.move x∨op=.assign x:=by first|exact .inl rfl|exact .inr rfl) (hg:aH ops fr ⟨some dst,op,ty,pp,a,g⟩=some true:=by exact rfl) (hx:fr.ev x=d:=by exact ev rfl) (hp:fr.put dst d=aM:=by first|exact aa rfl _|(dsimp only[Fr.put,List.set_cons_succ,List.set_cons_zero]<;>rfl)):ab P ops (⟨some dst,op,ty,pp,a,g⟩::rest) fr st Q:=
 ab.mv (jD:=jD) (hg:=hg) (hx:=hx) (hp:=hp) (h:=h)
theorem qs {op:Op} (h:ab P ops rest aM st Q) (hg:aH ops fr ⟨some dst,op,ty,pp,a,g⟩=some false:=by exact rfl) (hp:fr.put dst (.tup [])=aM:=by first|exact aa rfl _|(dsimp only[Fr.put,List.set_cons_succ,List.set_cons_zero]<;>rfl)):ab P ops (⟨some dst,op,ty,pp,a,g⟩::rest) fr st Q:=
 ab.skip (hg:=hg) (hp:=hp) (h:=h)
variable{k aE f fo m:Nat}{fields:Array Field}
theorem qp {t:TypeId} {xo:Operand} {off o:Nat} (h:ab P ops rest aM st Q) (hg:aH ops fr ⟨some dst,.fieldAddr t xo f,ty,pp,a,g⟩=some true:=by exact rfl) (hx:fr.ev xo=.ptr k aE off:=by exact ev rfl) (ht:P.db t=some (.struct fields):=by exact rfl) (hf:pC P fields f=some (fo,some (m+1)):=by exact rfl) (ho:off+fo=o:=by exact rfl) (hp:fr.put dst (.ptr k aE o)=aM:=by first|exact aa rfl _|(dsimp only[Fr.put,List.set_cons_succ,List.set_cons_zero]<;>rfl)):ab P ops (⟨some dst,.fieldAddr t xo f,ty,pp,a,g⟩::rest) fr st Q:=
 ab.eY (hg:=hg) (hx:=hx) (ht:=ht) (hf:=hf) (ho:=ho) (hp:=hp) (h:=h)
variable{j:Nat}{ar:Bool}{ao:Operand}
theorem ql {off:Nat} {c:List D} {d:D} {t:TypeId} (hH:Has N S st H) (hj:H[j]?=some (.box k (.mem aE ar c))) (h:ab P ops rest aM st Q) (hg:aH ops fr ⟨some dst,.load t ao,ty,pp,a,g⟩=some true:=by exact rfl) (ha:fr.ev ao=.ptr k aE off:=by exact ev rfl) (hd:fx P t (c.drop off)=some d:=by exact rfl) (hp:fr.put dst d=aM:=by first|exact aa rfl _|(dsimp only[Fr.put,List.set_cons_succ,List.set_cons_zero]<;>rfl)):ab P ops (⟨some dst,.load t ao,ty,pp,a,g⟩::rest) fr st Q:=
 ab.iv (hH:=hH) (hg:=hg) (ha:=ha) (hj:=hj) (hd:=hd) (hp:=hp) (h:=h)
theorem qg {op:Op} {d:D} {st1:St} (h:ab P ops rest aM st1 Q) (hg:aH ops fr ⟨some dst,op,ty,pp,a,g⟩=some true:=by exact rfl) (hc:lZ op=false:=by exact rfl) (h1:eS P fr st op ty=some (d,st1):=by exact rfl) (hp:fr.put dst d=aM:=by first|exact aa rfl _|(dsimp only[Fr.put,List.set_cons_succ,List.set_cons_zero]<;>rfl)):ab P ops (⟨some dst,op,ty,pp,a,g⟩::rest) fr st Q:=
 ab.go (hg:=hg) (hc:=hc) (h1:=h1) (hp:=hp) (h:=h)
variable{x:D}{s:Nat}{es:List (List D)}
theorem qn {t e:TypeId} {xo:Operand} (h:ab P ops rest aM st Q) (hg:aH ops fr ⟨some dst,.call ⟨.builtin .len,#[xo],#[t]⟩,ty,pp,a,g⟩=some true:=by exact rfl) (hx:fr.ev xo=x:=by exact ev rfl) (hR:Rows st s x es:=by exact Arg.rows (by assumption) (by assumption)) (ht:P.db t=some (.slice e):=by exact rfl) (hp:fr.put dst (.int .i64 (es.length:Nat))=aM:=by first|exact aa rfl _|(dsimp only[Fr.put,List.set_cons_succ,List.set_cons_zero]<;>rfl)):ab P ops (⟨some dst,.call ⟨.builtin .len,#[xo],#[t]⟩,ty,pp,a,g⟩::rest) fr st Q:=
 ab.kW (hg:=hg) (hx:=hx) (hR:=hR) (ht:=ht) (hp:=hp) (h:=h)
variable{io:Operand}{i:Nat}{kk:IntKind}{r:List D}
theorem qr {t e:TypeId} {xo:Operand} {aM:D→Fr} (h:∀p,mV st p r→ab P ops rest (aM p) st Q) (hg:aH ops fr ⟨some dst,.indexAddr t xo io,ty,pp,a,g⟩=some true:=by exact rfl) (hx:fr.ev xo=x:=by exact ev rfl) (hi:fr.ev io=.int kk (i:Nat):=by exact ev rfl) (hR:Rows st s x es:=by exact Arg.rows (by assumption) (by assumption)) (ht:P.db t=some (.slice e):=by exact rfl) (hs:c9 P e=some s:=by exact rfl) (hr:es[i]?=some r:=by assumption) (hp:∀p,fr.put dst p=aM p:=by first|exact fun _=>aa rfl _|exact fun _=>by dsimp only[Fr.put,List.set_cons_succ,List.set_cons_zero]<;>rfl):ab P ops (⟨some dst,.indexAddr t xo io,ty,pp,a,g⟩::rest) fr st Q:=
 ab.re (hg:=hg) (hx:=hx) (hi:=hi) (hR:=hR) (ht:=ht) (hs:=hs) (hr:=hr) (hp:=hp) (h:=h)
theorem qR {t:TypeId} {d:D} (h:ab P ops rest aM st Q) (hg:aH ops fr ⟨some dst,.load t ao,ty,pp,a,g⟩=some true:=by exact rfl) (ha:fr.ev ao=x:=by exact ev rfl) (hR:mV st x r:=by assumption) (hd:fx P t r=some d:=by exact rfl) (hp:fr.put dst d=aM:=by first|exact aa rfl _|(dsimp only[Fr.put,List.set_cons_succ,List.set_cons_zero]<;>rfl)):ab P ops (⟨some dst,.load t ao,ty,pp,a,g⟩::rest) fr st Q:=
 ab.bB (hg:=hg) (ha:=ha) (hR:=hR) (hd:=hd) (hp:=hp) (h:=h)
theorem qf {t:TypeId} {xo:Operand} {aM:D→Fr} (h:∀p,mV st p (r.drop fo)→ab P ops rest (aM p) st Q) (hg:aH ops fr ⟨some dst,.fieldAddr t xo f,ty,pp,a,g⟩=some true:=by exact rfl) (hx:fr.ev xo=x:=by exact ev rfl) (hR:mV st x r:=by assumption) (ht:P.db t=some (.struct fields):=by exact rfl) (hf:pC P fields f=some (fo,some (m+1)):=by exact rfl) (hp:∀p,fr.put dst p=aM p:=by first|exact fun _=>aa rfl _|exact fun _=>by dsimp only[Fr.put,List.set_cons_succ,List.set_cons_zero]<;>rfl):ab P ops (⟨some dst,.fieldAddr t xo f,ty,pp,a,g⟩::rest) fr st Q:=
 ab.Hx (hg:=hg) (hx:=hx) (hR:=hR) (ht:=ht) (hf:=hf) (hp:=hp) (h:=h)
theorem qi {t e:TypeId} {xo:Operand} {aM:D→Fr} (hH:Has N S st H) (hj:H[j]?=some (.aF x s es)) (h:∀p,vU x s i 0 p→ab P ops rest (aM p) st Q) (hg:aH ops fr ⟨some dst,.indexAddr t xo io,ty,pp,a,g⟩=some true:=by exact rfl) (hx:fr.ev xo=x:=by exact ev rfl) (hi:fr.ev io=.int kk (i:Nat):=by exact ev rfl) (ht:P.db t=some (.slice e):=by exact rfl) (hs:c9 P e=some s:=by exact rfl) (hr:i<es.length:=by exact bp (by assumption)) (hp:∀p,fr.put dst p=aM p:=by first|exact fun _=>aa rfl _|exact fun _=>by dsimp only[Fr.put,List.set_cons_succ,List.set_cons_zero]<;>rfl):ab P ops (⟨some dst,.indexAddr t xo io,ty,pp,a,g⟩::rest) fr st Q:=
 ab.Lr (hH:=hH) (hg:=hg) (hx:=hx) (hi:=hi) (hj:=hj) (ht:=ht) (hs:=hs) (hr:=hr) (hp:=hp) (h:=h)
variable{vo:Operand}
theorem qS {c cs:List D} {v:D} {t:TypeId} (hH:Has N S st H) (hj:H[j]?=some (.box k (.mem aE ar c))) (h:∀ai,Has N S ai (H.set j (.box k (.mem aE ar cs)))→ab P ops rest fr ai Q) (hg:aH ops fr ⟨none,.store t ao vo,ty,pp,a,g⟩=some true:=by exact rfl) (ha:fr.ev ao=.ptr k aE 0:=by exact ev rfl) (hv:fr.ev vo=v:=by exact ev rfl) (kZ:v.cells?=some cs:=by first|rfl|exact(dg.cells (by assumption)).1) (hs:c9 P t=some cs.length:=by exact rfl) (hl:cs.length=c.length:=by exact rfl) (hw:S.flr≤N∨refs cs=0:=by first|exact .inl (by assumption)|exact .inr rfl):ab P ops (⟨none,.store t ao vo,ty,pp,a,g⟩::rest) fr st Q:=
 ab.bQ (hH:=hH) (hg:=hg) (ha:=ha) (hv:=hv) (kZ:=kZ) (hs:=hs) (hj:=hj) (hl:=hl) (hw:=hw) (h:=h)
theorem qT {off:Nat} {c cs:List D} {v:D} {t:TypeId} (hH:Has N S st H) (hj:H[j]?=some (.box k (.mem aE ar c))) (h:∀ai,Has N S ai (H.set j (.box k (.mem aE ar (setMany c off cs))))→ab P ops rest fr ai Q) (hg:aH ops fr ⟨none,.store t ao vo,ty,pp,a,g⟩=some true:=by exact rfl) (ha:fr.ev ao=.ptr k aE off:=by exact ev rfl) (hv:fr.ev vo=v:=by exact ev rfl) (kZ:v.cells?=some cs:=by first|rfl|exact(dg.cells (by assumption)).1) (hs:c9 P t=some cs.length:=by exact rfl) (hl:off+cs.length≤c.length:=by exact Nat.le_of_ble_eq_true rfl) (hw:S.flr≤N∨refs cs=0:=by first|exact .inl (by assumption)|exact .inr rfl):ab P ops (⟨none,.store t ao vo,ty,pp,a,g⟩::rest) fr st Q:=
 ab.gE (hH:=hH) (hg:=hg) (ha:=ha) (hv:=hv) (kZ:=kZ) (hs:=hs) (hj:=hj) (hl:=hl) (hw:=hw) (h:=h)
theorem qa {e:TypeId} {cs:List D} {aM:Nat→Fr} (hH:Has N S st H) (h:∀k ai,S.bs.length≤k→Has N S ai (.box k (.mem 0 false cs)::H)→ab P ops rest (aM k) ai Q) (hg:aH ops fr ⟨some dst,.alloc e,ty,pp,a,g⟩=some true:=by exact rfl) (hz:ec P e=some cs:=by exact rfl) (hp:∀k,fr.put dst (.ptr k 0 0)=aM k:=by first|exact fun _=>aa rfl _|exact fun _=>by dsimp only[Fr.put,List.set_cons_succ,List.set_cons_zero]<;>rfl):ab P ops (⟨some dst,.alloc e,ty,pp,a,g⟩::rest) fr st Q:=
 ab.fU (hH:=hH) (hg:=hg) (hz:=hz) (hp:=hp) (h:=h)
theorem qb {e:TypeId} {xo:Operand} {cs:List D} {aM:Nat→Fr} (hH:Has N S st H) (h:∀k ai,S.bs.length≤k→Has N S ai (.box k (.mem 0 false cs)::H)→ab P ops rest (aM k) ai Q) (hg:aH ops fr ⟨some dst,.box e xo,ty,pp,a,g⟩=some true:=by exact rfl) (hz:(fr.ev xo).cells?=some cs:=by exact rfl) (hp:∀k,fr.put dst (.ptr k 0 0)=aM k:=by first|exact fun _=>aa rfl _|exact fun _=>by dsimp only[Fr.put,List.set_cons_succ,List.set_cons_zero]<;>rfl):ab P ops (⟨some dst,.box e xo,ty,pp,a,g⟩::rest) fr st Q:=
 ab.Ec (hH:=hH) (hg:=hg) (hz:=hz) (hp:=hp) (h:=h)
variable{yo:Operand}
theorem qA {t oT:TypeId} {xo:Operand} {x y:Int} (h:ab P ops rest aM st Q) (hg:aH ops fr ⟨some dst,.binOp .add t xo yo oT,ty,pp,a,g⟩=some true:=by exact rfl) (hx:fr.ev xo=.int .i64 x:=by exact ev rfl) (hy:fr.ev yo=.int .i64 y:=by exact ev rfl) (h1:-9223372036854775808≤x+y:=by omega) (h2:x+y≤9223372036854775807:=by omega) (hp:fr.put dst (.int .i64 (x+y))=aM:=by first|exact aa rfl _|(dsimp only[Fr.put,List.set_cons_succ,List.set_cons_zero]<;>rfl)):ab P ops (⟨some dst,.binOp .add t xo yo oT,ty,pp,a,g⟩::rest) fr st Q:=
 ab.NN (hg:=hg) (hx:=hx) (hy:=hy) (h1:=h1) (h2:=h2) (hp:=hp) (h:=h)
variable{z:List D}
theorem qP {y:D} {ys:List (List D)} {t1 t2 e:TypeId} {td:TypeDesc} {inf:TypeInfo} {xo:Operand} {aM:D→Fr} (hH:Has N S st H) (hj:H[j]?=some (.aF x s es)) (mz:Rows st s y ys) (h:∀x' ai,Has N S ai (H.set j (.aF x' s (es++ys)))→ab P ops rest (aM x') ai Q) (hg:aH ops fr ⟨some dst,.call ⟨.builtin .append,#[xo,yo],#[t1,t2]⟩,ty,pp,a,g⟩=some true:=by exact rfl) (hx:fr.ev xo=x:=by exact ev rfl) (hy:fr.ev yo=y:=by exact ev rfl) (h1:P.db t1=some (.slice e):=by exact rfl) (h2:P.db t2=some td:=by exact rfl) (h3:gD td=false:=by exact rfl) (h4:P.info e=some inf:=by exact rfl) (h5:ec P e=some z:=by exact rfl) (h6:inf.size=s:=by exact rfl) (h7:z.length=s:=by exact rfl) (h8:0<inf.bytes∧inf.bytes≤1024:=by exact⟨Nat.le_of_ble_eq_true rfl,Nat.le_of_ble_eq_true rfl⟩) (hp:∀x',fr.put dst x'=aM x':=by first|exact fun _=>aa rfl _|exact fun _=>by dsimp only[Fr.put,List.set_cons_succ,List.set_cons_zero]<;>rfl) (hb:es.length+ys.length≤1073741824:=by first|omega|(simp only[List.length_append,List.length_cons,List.length_nil,List.length_map,List.length_replicate,List.length_set,List.length_reverse]<;>omega)) (hw:S.flr≤N∨refs ys.flatten=0:=by first|exact .inl (by assumption)|exact .inr rfl):ab P ops (⟨some dst,.call ⟨.builtin .append,#[xo,yo],#[t1,t2]⟩,ty,pp,a,g⟩::rest) fr st Q:=
 ab.cL (hH:=hH) (hg:=hg) (hx:=hx) (hy:=hy) (hj:=hj) (mz:=mz) (h1:=h1) (h2:=h2) (h3:=h3) (h4:=h4) (h5:=h5) (h6:=h6) (h7:=h7) (h8:=h8) (hp:=hp) (hb:=hb) (hw:=hw) (h:=h)
theorem qh {t e:TypeId} {parts:Array (Nat×Operand)} {vs:List D} {aM:Nat→Fr} (hH:Has N S st H) (h:∀k ai,S.bs.length≤k→Has N S ai (.aF (.win k 0 0 m s) s (vs.map Qa0)::H)→ab P ops rest (aM k) ai Q) (hg:aH ops fr ⟨some dst,.buildSlice t m parts,ty,pp,a,g⟩=some true:=by exact rfl) (ht:P.db t=some (.slice e):=by exact rfl) (hs:c9 P e=some s:=by exact rfl) (hz:ec P e=some z:=by exact rfl) (oB:z.length=s:=by exact rfl) (hm:m*s≤16777216:=by exact Nat.le_of_ble_eq_true rfl) (Yw:Ih fr 0 parts.toList vs:=by first|exact⟨rfl,ev rfl,trivial⟩|exact⟨rfl,ev rfl,rfl,ev rfl,trivial⟩|exact⟨rfl,ev rfl,rfl,ev rfl,rfl,ev rfl,trivial⟩|exact⟨rfl,ev rfl,rfl,ev rfl,rfl,ev rfl,rfl,ev rfl,trivial⟩|exact⟨rfl,ev rfl,rfl,ev rfl,rfl,ev rfl,rfl,ev rfl,rfl,ev rfl,trivial⟩) (UQ:vs.length=m:=by exact rfl) (hc:∀v∈vs,v.cells?=some v.cells∧v.cells.length=s:=by intro v hv;simp only[List.mem_cons,List.not_mem_nil,or_false] at hv;first|(subst hv;exact⟨rfl,rfl⟩)|(rcases hv with rfl|rfl<;>exact⟨rfl,rfl⟩)|(rcases hv with rfl|rfl|rfl<;>exact⟨rfl,rfl⟩)|(rcases hv with rfl|rfl|rfl|rfl<;>exact⟨rfl,rfl⟩)|(rcases hv with rfl|rfl|rfl|rfl|rfl<;>exact⟨rfl,rfl⟩)) (hp:∀k,fr.put dst (.win k 0 0 m s)=aM k:=by first|exact fun _=>aa rfl _|exact fun _=>by dsimp only[Fr.put,List.set_cons_succ,List.set_cons_zero]<;>rfl):ab P ops (⟨some dst,.buildSlice t m parts,ty,pp,a,g⟩::rest) fr st Q:=
 ab.HX (hH:=hH) (hg:=hg) (ht:=ht) (hs:=hs) (hz:=hz) (oB:=oB) (hm:=hm) (Yw:=Yw) (UQ:=UQ) (hc:=hc) (hp:=hp) (h:=h)
theorem qv {f:Operand} {gn:Nat} {mU:List D} {args:Array Operand} {CO:Array TypeId} {d:D} {st1:St} (h1:Ev P gn (args.toList.map fr.ev++mU) st d st1) (h:ab P ops rest aM st1 Q) (hg:aH ops fr ⟨some dst,.call ⟨.value f,args,CO⟩,ty,pp,a,g⟩=some true:=by exact rfl) (hf:fr.ev f=.fn gn mU:=by exact rfl) (hp:fr.put dst d=aM:=by first|exact aa rfl _|(dsimp only[Fr.put,List.set_cons_succ,List.set_cons_zero]<;>rfl)):ab P ops (⟨some dst,.call ⟨.value f,args,CO⟩,ty,pp,a,g⟩::rest) fr st Q:=
 ab.aS (hg:=hg) (hf:=hf) (h1:=h1) (hp:=hp) (h:=h)
variable{c y:Operand}{v:Bool}
theorem qt {x:Operand} (hv:v=true) (h:ab P ops rest aM st Q) (hg:aH ops fr ⟨some dst,.pick c x y,ty,pp,a,g⟩=some true:=by exact rfl) (hc:fr.ev c=.bool v:=by exact rfl) (hp:fr.put dst (fr.ev x)=aM:=by first|exact aa rfl _|(dsimp only[Fr.put,List.set_cons_succ,List.set_cons_zero]<;>rfl)):ab P ops (⟨some dst,.pick c x y,ty,pp,a,g⟩::rest) fr st Q:=
 ab.bN (hg:=hg) (hc:=hc) (hv:=hv) (hp:=hp) (h:=h)
theorem qu {x:Operand} (hv:v=false) (h:ab P ops rest aM st Q) (hg:aH ops fr ⟨some dst,.pick c x y,ty,pp,a,g⟩=some true:=by exact rfl) (hc:fr.ev c=.bool v:=by exact rfl) (hp:fr.put dst (fr.ev y)=aM:=by first|exact aa rfl _|(dsimp only[Fr.put,List.set_cons_succ,List.set_cons_zero]<;>rfl)):ab P ops (⟨some dst,.pick c x y,ty,pp,a,g⟩::rest) fr st Q:=
 ab.cA (hg:=hg) (hc:=hc) (hv:=hv) (hp:=hp) (h:=h)
variable{o:Oper}{t:Nat}{w:Bool}
theorem wi {ops:Array Oper} {fr:Fr} (h4:v=w) (h1:o.guard=some (j,w):=by exact rfl) (h2:(ops[j]?).bind (·.dst)=some t:=by exact rfl) (h3:fr.get t=.bool v:=by exact rfl):aH ops fr o=some true:=af h1 h2 h3 h4
theorem wn {ops:Array Oper} {fr:Fr} (h4:v=!w) (h1:o.guard=some (j,w):=by exact rfl) (h2:(ops[j]?).bind (·.dst)=some t:=by exact rfl) (h3:fr.get t=.bool v:=by exact rfl):aH ops fr o=some false:=aW h1 h2 h3 h4
variable{dy:Dy}{b:Code}
theorem qc {a:Code} {Q:Out→Fr→St→Prop} (h1:v=true→ag P dy a fr st Q) (h2:v=false→ag P dy b fr st Q) (hv:fr.ev c=.bool v:=by first|rfl|assumption):ag P dy (.cond c a b) fr st Q:=ag.cond hv h1 h2
theorem qq {a:Code} {Q:Out→Fr→St→Prop} (h:ag P dy a fr st (aZ P dy b Q)):ag P dy (.seq a b) fr st Q:=ag.seq h
variable{n:Nat}{loc:List D}{tmp:List (Nat×D)}
theorem qj {l:List Oper} {d:Bool} {Q:Out→Fr→St→Prop} (h:∀K:Out→Fr→St→Prop,Q=K→ab P l.toArray l ⟨n,loc,[]⟩ st (K .next)) (h0:kf i dy=[]:=by rfl):ag P dy (.region i l.toArray d) ⟨n,loc,tmp⟩ st Q:=ag.cT (h Q rfl) h0
theorem qe {Q K:Out→Fr→St→Prop} (hK:Q=K) (h:Q .next fr st):ab P ops [] fr st (K .next):=ab.nil (hK▸h)
theorem qB {a:Code} {Q:Out→Fr→St→Prop} (h1:ag P dy a fr st Q) (hv:fr.ev c=.bool true:=by first|rfl|assumption):ag P dy (.cond c a b) fr st Q:=ag.cond hv (fun _=>h1) (fun h=>by cases h)
theorem qC {a:Code} {Q:Out→Fr→St→Prop} (h1:ag P dy b fr st Q) (hv:fr.ev c=.bool false:=by first|rfl|assumption):ag P dy (.cond c a b) fr st Q:=ag.cond hv (fun h=>by cases h) (fun _=>h1)
theorem qD {a:Code} {Q:Out→Fr→St→Prop} (hv:fr.ev c=.bool v) (hb:v=true) (h1:ag P dy a fr st Q):ag P dy (.cond c a b) fr st Q:=ag.cond hv (fun _=>h1) (fun h=>by rw[hb] at h;cases h)
theorem qE {a:Code} {Q:Out→Fr→St→Prop} (hv:fr.ev c=.bool v) (hb:v=false) (h1:ag P dy b fr st Q):ag P dy (.cond c a b) fr st Q:=ag.cond hv (fun h=>by rw[hb] at h;cases h) (fun _=>h1)
theorem rx:∀i:Nat,Out.ret≠Out.exit i:=fun i h=>by cases h
theorem rl {S:St} {H:List bo} {kn:Bool} {st1:St} {d d':D} (hS:S.bs=st.bs) (hH:Has st.bs.length S st1 H) (hd:bA st1 st.bs.length kn 16 d=some d'):ez .ro kn st st1 d=some (d',st):=dI (by simp) hS hH hd
theorem ri (s0:St):(ae .ro s0).bs=s0.bs∧(ae .ro s0).flr≤s0.bs.length∧Has s0.bs.length (ae .ro s0) (ae .ro s0) []:=⟨rfl,υ _,Has.start (υ _) (υ _)⟩
theorem w1 {α:Type} {a:α}:IN (n+1) a=a::IN n a:=rfl
theorem w2 {α:Type} {a:α}:IN 0 a=[]:=rfl
theorem qy {a:Code} {Q:Out→Fr→St→Prop} (h:ag P dy a fr st Q):ag P dy a fr st Q:=h
theorem u1 {α:Type} {x:α} {l:List α} {a:α}:(x::l).set (n+1) a=x::l.set n a:=rfl
theorem u2 {α:Type} {x:α} {l:List α} {a:α}:(x::l).set 0 a=a::l:=rfl
theorem u3 {α:Type} {x:α} {l m:List α}:(x::l)++m=x::(l++m):=rfl
theorem u4 {α:Type} {m:List α}:([]:List α)++m=m:=rfl
theorem u5 {α β:Type} {f:α→β} {x:α} {l:List α}:(x::l).map f=f x::l.map f:=rfl
theorem u6 {α β:Type} {f:α→β}:([]:List α).map f=[]:=rfl
theorem v1 (k:IntKind) (n:Int):jw (.int k n)=.int k n:=rfl
theorem v2 (b:Bool):jw (.bool b)=.bool b:=rfl
theorem v3 (s:ByteArray):jw (.string s)=.str s.data.toList:=rfl
theorem v4:jw (.slice none 0 0)=.nul:=rfl
theorem v5:jw (.pointer none)=.pnil:=rfl
theorem v6:jw .nilFunc=.nilfn:=rfl
theorem v7:jw .nilIface=.nilif:=rfl
theorem cs:(∀(p:Prop) [Decidable p],(decide p=true)=p)∧(∀(p:Prop) [Decidable p],(decide p=false)=¬p)∧(∀(α:Type) [BEq α] [LawfulBEq α] (a b:α),((a==b)=true)=(a=b))∧(∀(α:Type) [BEq α] [LawfulBEq α] (a b:α),((a==b)=false)=¬a=b)∧(∀(α:Type) [BEq α] [LawfulBEq α] (a b:α),((a !=b)=true)=¬a=b)∧(∀(α:Type) [BEq α] [LawfulBEq α] (a b:α),((a !=b)=false)=(a=b))∧(∀b:Bool,((!b)=true)=(b=false))∧(∀b:Bool,((!b)=false)=(b=true))∧(∀b:Bool,(¬b=true)=(b=false))∧(∀b:Bool,(¬b=false)=(b=true)):=by
 refine⟨fun p _=>by simp,fun p _=>by simp,fun α _ _ a b=>by simp,fun α _ _ a b=>by simp,fun α _ _ a b=>by simp,fun α _ _ a b=>by simp,fun b=>by simp,fun b=>by simp,fun b=>by simp,fun b=>by simp⟩
theorem xT (h:ab P ops rest ⟨n,loc,(t,d)::tmp⟩ st1 Q) (hb:τ n t=true:=by exact rfl) (hg:aH ops ⟨n,loc,tmp⟩ ⟨some t,op,ty,pp,a,g⟩=some true:=by exact rfl) (hc:lZ op=false:=by exact rfl) (h1:eS P ⟨n,loc,tmp⟩ st op ty=some (d,st1):=by exact rfl):ab P ops (⟨some t,op,ty,pp,a,g⟩::rest) ⟨n,loc,tmp⟩ st Q:=ab.T hb hg hc h1 h
theorem xL (h:ab P ops rest ⟨n,loc.set t d,tmp⟩ st1 Q) (hb:τ n t=false:=by exact rfl) (hg:aH ops ⟨n,loc,tmp⟩ ⟨some t,op,ty,pp,a,g⟩=some true:=by exact rfl) (hc:lZ op=false:=by exact rfl) (h1:eS P ⟨n,loc,tmp⟩ st op ty=some (d,st1):=by exact rfl):ab P ops (⟨some t,op,ty,pp,a,g⟩::rest) ⟨n,loc,tmp⟩ st Q:=ab.L hb hg hc h1 h
theorem xN (h:ab P ops rest fr st1 Q) (hg:aH ops fr ⟨none,op,ty,pp,a,g⟩=some true:=by exact rfl) (hc:lZ op=false:=by exact rfl) (h1:eS P fr st op ty=some (d,st1):=by exact rfl):ab P ops (⟨none,op,ty,pp,a,g⟩::rest) fr st Q:=ab.N hg hc h1 h
theorem xo (h:ab P ops rest ⟨n,loc,(t,.tup [])::tmp⟩ st Q) (hb:τ n t=true:=by exact rfl) (hg:aH ops ⟨n,loc,tmp⟩ ⟨some t,op,ty,pp,a,g⟩=some false:=by exact rfl):ab P ops (⟨some t,op,ty,pp,a,g⟩::rest) ⟨n,loc,tmp⟩ st Q:=ab.Zo hb hg h
theorem xp (h:ab P ops rest ⟨n,loc.set t (.tup []),tmp⟩ st Q) (hb:τ n t=false:=by exact rfl) (hg:aH ops ⟨n,loc,tmp⟩ ⟨some t,op,ty,pp,a,g⟩=some false:=by exact rfl):ab P ops (⟨some t,op,ty,pp,a,g⟩::rest) ⟨n,loc,tmp⟩ st Q:=ab.Zp hb hg h
end Go.V
