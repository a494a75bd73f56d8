/-
 Functions given to V; a logic over V; heaps of one's own; no program in sight, no conditions.
-/
import Derived.Test.YtkbacjpologjbaaGreatWM4
import Derived.Test.YtkbacjpologjbaaGreatWM1
set_option linter.unusedSimpArgs false
set_option linter.unusedVariables false
set_option linter.unusedSectionVars false
set_option linter.unnecessarySimpa false
open Option renaming bind_some→γ,map_some→δ,some→OF,map_eq_some_iff→AT,isSome_some→Qal
open List renaming getElem?_set_ne→ε,set_cons_succ→ζ,set_cons_zero→η,getElem?_eq_none→θ,getElem?_set_self→ι,mem_cons_self→κ,mem_cons_of_mem→μ,getElem?_cons_succ→ν,length_cons→ξ,map_cons→ο,getElem?_append_left→ρ,drop_drop→φ,length_append→ψ,flatten_cons→Δ,length_set→Θ,drop_take→Φ,map_nil→wt,mem_of_getElem?→v8,mem_of_mem_take→GB,getElem?_cons_zero→IN,length_nil→IT,drop_zero→Pd,take_length→Pe,append_assoc→AI,getElem?_eraseIdx→Qa0,take_take→Qa1,length_take→Qa3,getElem?_of_mem→Qa4,flatten_append→Qa5,getElem?_take→Qa8,take_of_length_le→Qab,length_map→Qad,nil_append→Qae,take_append_drop→Qag,mem_of_mem_drop→Qaj,replicate→Qak,ext_getElem?→Qao,getElem?_map→Qap,mem_map→Qaq,length_drop→Qar,mem_flatten→Qas,append_nil→Qau,drop_left'→Qav,take_left'→Qaw,drop_length_add_append→Qax,mem_cons→Qay,set_append_right→Qaz,map_congr_left→Qb1,getElem?_drop→Qb2,mapIdx_cons→Qb3,mem_append→Qb5,map_drop→Qb6,map_take→Qb7,take_add→Qb8,map_map→Qba,map_id→Qbc,drop→Qbe
open Nat renaming mul_le_mul_right→π,ble→ς,add_mul→τ,le_refl→υ,lt_or_ge→ω,le_of_ble_eq_true→Ψ,min_eq_left→BY,one_mul→IS,le_trans→Qa7,lt_of_lt_of_le→Qa9,mod_eq_of_lt→Qaa,add_comm→Qaf,not_lt_zero→Qah,eq_of_beq_eq_true→Qai,zero_add→Qb0,beq→Qb4,mul_le_mul→Qb9,add_assoc→Qbb,add_zero→Qbd
open Bool renaming and_eq_true→χ,or_eq_true→Qac,false_eq_true→Qan
open Go.V.D renaming ref→Γ,cells→Qat
open Go.V.Fr renaming put→Ξ,ev→AN
open Go.V.St renaming push→Ω,fX→Qbf,jr→Qbg
open BitVec renaming ofInt_natCast→Qa2,toNat_ofNat→Qa6,ofInt→Qam
namespace Go.V
open Go.RowKit
structure gr (P:Program) (pv:Pv) (f:Nat) (p:List D→St→Option (D×St)):Prop where
 fn:∀ds st r,p ds st=some r→∃fn b,P.funcs[f]?=some fn∧fn.body=some b∧fn.name≠ "runtime.NumGoroutine"
 calls:∀ds st d ah,p ds st=some (d,ah)→∀w β Z (us:List Value),iH w st β Z→ds.length=us.length→(∀(i:Nat) c v,ds[i]?=some c→us[i]?=some v→VR w (st.x β Z) c v)→
  Calls P f us.toArray w fun e w'=>∃v β' Z',e=.returned v∧Nx w st β Z w' ah β' Z'∧VR w' (ah.x β' Z') d v∧(lJ pv f=true→Quiet w w')
 ro:∀ds st d ah,p ds st=some (d,ah)→lJ pv f=true→qQ st ah
 len:∀ds st d ah,p ds st=some (d,ah)→eV st ah
variable{pv yB:Pv}
theorem DE (h:∀f,lJ pv f=lJ yB f) (hm:∀s t,pB pv s t=pB yB s t) (ops:Array Oper) (b:Bool) (x y:Oper):mI pv ops b x y=mI yB ops b x y:=by
 have he:∀o,gp pv o=gp yB o:=by
  intro o;unfold gp
  split<;>first|rfl|exact hm _ _|skip
  rw[h]
 simp only[mI,he]
theorem AY (h:∀f,lJ pv f=lJ yB f) (hm:∀s t,pB pv s t=pB yB s t) (ops:Array Oper) (dy:List (Nat×Nat)):mW pv ops dy=mW yB ops dy:=by
 unfold mW
 congr 1
 funext j;unfold K8
 split
 ·simp only[DE h hm]
 ·rfl
theorem eR {pv yB:Pv} (h:∀f,lJ pv f=lJ yB f) (hm:∀s t,pB pv s t=pB yB s t) (dyn:List (Nat×List (Nat×Nat))) (n:Nat):∀c:Code,codeOk pv dyn n c=codeOk yB dyn n c
 | .region _ ops d=>by simp only[codeOk,AY h hm]
 | .seq a b=>by simp only[codeOk,eR h hm dyn n a,eR h hm dyn n b]
 | .cond _ a b=>by simp only[codeOk,eR h hm dyn n a,eR h hm dyn n b]
 | .block _ c=>by simp only[codeOk,eR h hm dyn n c]
 | .loop c=>by simp only[codeOk,eR h hm dyn n c]
 | .skip| .rangeFunc ..| .exit _| .scope _| .label _| .goto _| .ret| .refuse _=>by simp only[codeOk]
def Pv.over (pv:Pv) (l:List (Nat×(List D→St→Option (D×St)))):Pv:=⟨pv.ty,pv.nty,pv.fs,pv.nfs,pv.eqb,l⟩
theorem F8 (pv:Pv) (l) (f:Nat):lJ (pv.over l) f=lJ pv f:=rfl
theorem xx {f:Nat} {p}:∀{l:List (Nat×(List D→St→Option (D×St)))},m_ f l=some p→(f,p)∈l
 |(g,q)::l,h=>by
  simp only[m_] at h
  split at h
  ·rename_i hb;cases h;rw[Qai hb];exact κ ..
  ·exact μ _ (xx h)
variable{P:Program}
theorem q_ (h:pv.Ok P∧pv.ka∧ju P pv (fv pv)) (U':pv.prm=[]) {l:List (Nat×(List D→St→Option (D×St)))} (hl:∀q∈l,gr P pv q.1 q.2):
  (pv.over l).Ok P∧(pv.over l).ka∧ju P (pv.over l) (fv (pv.over l)):=by
 obtain⟨h1,h2,h3⟩:=h;refine⟨⟨h1.ty,h1.fs,h1.eqb,h1.mixed⟩,fun f x b hx hp hb=>?_,?_⟩
 ·rw[eR (F8 pv l) (fun _ _=>rfl)];exact h2 f x b hx hp hb
 ·have key:∀f ds st r,fv (pv.over l) f ds st=some r→(∃p,gr P pv f p∧p ds st=some r)∨fv pv f ds st=some r:=by
   intro f ds st r h;unfold fv at h
   split at h
   ·rename_i p hp;exact .inl ⟨p,hl _ (xx hp),h⟩
   ·right;unfold fv;rw[U'];exact h
  refine⟨fun f ds st r h=>?_,fun f ds st d ah h=>?_,fun f ds st d ah h=>?_,fun f ds st d ah h=>?_⟩
  ·rcases key f ds st r h with⟨p,hp,h⟩|h
   ·exact hp.fn ds st r h
   ·exact h3.fn f ds st r h
  ·rcases key f ds st _ h with⟨p,hp,h⟩|h
   ·exact hp.calls ds st d ah h
   ·exact h3.calls f ds st d ah h
  ·rcases key f ds st _ h with⟨p,hp,h⟩|h
   ·exact hp.ro ds st d ah h
   ·exact h3.ro f ds st d ah h
  ·rcases key f ds st _ h with⟨p,hp,h⟩|h
   ·exact hp.len ds st d ah h
   ·exact h3.len f ds st d ah h
theorem iH.nil {w:World} {Z:Nat→Prop} (hZ:∀b,Z b→b<w.heap.size):iH w ⟨[],0,0⟩ (fun _=>none) Z:=
 ⟨fun _ _ _ h=>(by cases h),fun _ _ _ h=>(by cases h),fun _ _ _ _ _ h=>(by cases h),fun _ _ _ h=>(by cases h),hZ,fun _ _ _ _ h=>(by cases h),υ _,υ _⟩
variable{n f:Nat}{d:D}{tH:St}
theorem oJ (h:pv.Ok P∧pv.ka∧ju P pv (fv pv)) {ds:List D} (hs:cQ pv n f ds ⟨[],0,0⟩=some (d,tH)) (h0:tH.bs=[]) (hr:refs ds=0) (st:St) (w:World) (β:Nat→Option (Nat×Nat)) (Z:Nat→Prop) (us:List Value) (hY:iH w st β Z) (hl:ds.length=us.length) (ha:∀(i:Nat) c v,ds[i]?=some c→us[i]?=some v→VR w (st.x β Z) c v):
  Calls P f us.toArray w fun e w'=>∃v β' Z',e=.returned v∧Nx w st β Z w' st β' Z'∧VR w' (st.x β' Z') d v∧Quiet w w':=by
 have hrefs:∀(l:List D),refs l=0→∀c∈l,c.ref≤0:=by
  intro l
  induction l with
  |nil=>intro _ c hc;simp at hc
  |cons x l ih=>
   intro h c hc;simp only[refs] at h
   rcases Qay.1 hc with rfl|hc
   ·omega
   ·exact ih z0 c hc
 refine((jO h.1 h.2.1 h.2.2 n).calls f ds _ d tH hs w (fun _=>none) Z us (iH.nil hY.zl) hl fun i c v hc hv=>?_).mono fun e w'=>?_
 ·exact VR.cut (x:=st.x β Z) (x':=(⟨[],0,0⟩:St).x (fun _=>none) Z) (N:=0) (fun k hk=>absurd hk (Qah _)) (fun k hk=>absurd hk (Qah _)) (fun b hb=>hb) (ha i c v hc hv) (hrefs ds hr c (v8 hc))
 ·rintro⟨v,β',Z',rfl,hn,hv,_⟩
  have mK:∀k p,β' k=some p→False:=fun k p hk=>by
   have:=hn.sim.dom k p.1 p.2 hk;rw[h0] at this;simp at this
  have hq:Quiet w w':=by
   intro c hc;refine hn.evo.block c hc ?_;rintro⟨k,base,h5,_⟩;cases h5
  have NU:∀b,Z b→Z' b∧w'.heap[b]?=w.heap[b]?:=fun b hb=>⟨(hn.keeps.z b hb).1,hq b (hY.zl b hb)⟩
  have hk:dS w (st.x β Z) w' (st.x β Z'):=⟨fun k p hp=>⟨p,hp⟩,NU,fun k c p _ hc=>⟨c,hc,υ _⟩,fun k c _ _ b base hb=>⟨hb,eM (hq b (hY.lt k b base hb))⟩⟩
  refine⟨v,β,Z',rfl,⟨⟨hY.dom,fun k b base hb=>Qa9 (hY.lt k b base hb) hn.evo.size,hY.inj,fun k b base hb hz=>?_,hn.sim.zl,fun k b base bx hb ic=>(hY.box k b base bx hb ic).cw hk (hq b (hY.lt k b base hb)),hY.flr,hY.ro⟩,hk,
   ⟨hn.evo.os,hn.evo.tape,hn.evo.output,hn.evo.size,fun b hb _=>hq b hb⟩,fun k b base hb=>.inl ⟨base,hb⟩,hn.zfresh,υ _,rfl,rfl,fun k _=>⟨rfl,rfl⟩,fun k _ hk=>⟨hk,rfl⟩⟩,?_,hq⟩
  ·rcases hn.zfresh b hz with hz|hz
   ·exact hY.zd k b base hb hz
   ·have:=hY.lt k b base hb;omega
  ·exact VR.cut (x:=tH.x β' Z') (x':=st.x β Z') (N:=0) (fun k hk=>absurd hk (Qah _)) (fun k hk=>absurd hk (Qah _)) (fun b hb=>hb) hv (VR.ref (fun k p hk=>(mK k p hk).elim) hv)
def sU (d:D):List D→St→Option (D×St)
 |[],st=>some (d,st)
 |_::_,_=>none
theorem uY (h:pv.Ok P∧pv.ka∧ju P pv (fv pv)) (hs:cQ pv n f [] ⟨[],0,0⟩=some (d,tH)) (h0:tH.bs=[]):gr P pv f (sU d):=by
 have hc:=jO h.1 h.2.1 h.2.2 n;refine⟨fun ds st r _=>hc.fn f [] _ _ hs,fun ds st d' ah hp w β Z us hY hl ha=>?_,fun ds st d' ah hp _=>?_,fun ds st d' ah hp=>?_⟩<;>cases ds<;>simp only[sU,OF.injEq,Prod.mk.injEq,reduceCtorEq] at hp
 ·obtain⟨rfl,rfl⟩:=hp;refine(oJ h hs h0 rfl st w β Z us hY hl ha).mono fun e w'=>?_;rintro⟨v,β',Z',h1,h2,h3,h4⟩;exact⟨v,β',Z',h1,h2,h3,fun _=>h4⟩
 ·rw[←hp.2];exact .rfl _
 ·rw[←hp.2];exact eV.refl _
def jw:List (List D×D)→List D→St→Option (D×St)
 |[],_,_=>none
 |(as,d)::l,ds,st=>match kc as ds with
  |true=>some (d,st)
  |false=>jw l ds st
theorem lG:∀{l:List (List D×D)} {ds:List D} {st ah:St} {d:D},jw l ds st=some (d,ah)→(ds,d)∈l∧ah=st
 |(as,e)::l,ds,st,ah,d,h=>by
  simp only[jw] at h
  split at h
  ·rename_i hb;cases h;rw[iF _ _ hb];exact⟨κ ..,rfl⟩
  ·obtain⟨h1,h2⟩:=lG h;exact⟨μ _ h1,h2⟩
theorem pA (h:pv.Ok P∧pv.ka∧ju P pv (fv pv)) {l:List (List D×D)} (hl:∀q∈l,refs q.1=0∧∃n tH,cQ pv n f q.1 ⟨[],0,0⟩=some (q.2,tH)∧tH.bs=[]):gr P pv f (jw l):=by
 refine⟨fun ds st r hp=>?_,fun ds st d ah hp w β Z us hY hle ha=>?_,fun ds st d ah hp _=>by rw[(lG hp).2];exact .rfl _,fun ds st d ah hp=>?_⟩
 ·obtain⟨hm,_⟩:=lG (d:=r.1) (ah:=r.2) hp;obtain⟨_,n,tH,hs,_⟩:=hl _ hm;exact(jO h.1 h.2.1 h.2.2 n).fn f _ _ _ hs
 ·obtain⟨hm,rfl⟩:=lG hp;obtain⟨hr,n,tH,hs,h0⟩:=hl _ hm;refine(oJ h hs h0 hr ah w β Z us hY hle ha).mono fun e w'=>?_;rintro⟨v,β',Z',h1,h2,h3,h4⟩;exact⟨v,β',Z',h1,h2,h3,fun _=>h4⟩
 ·rw[(lG hp).2];exact eV.refl _
def qJ:List jC→List jC→Bool
 |[],[]=>true
 |a::l,b::m=>vY a b &&qJ l m
 |_,_=>false
def Ff (a b:St):Bool:=Qb4 a.flr b.flr &&Qb4 a.ro b.ro &&qJ a.bs b.bs
theorem tj:∀{a b:List jC},qJ a b=true→a=b
 |[],[],_=>rfl
 |a::l,b::m,h=>by
  simp only[qJ,χ] at h;rw[x9 h.1,tj h.2]
 |[],_::_,h=>by cases h
 |_::_,[],h=>by cases h
theorem B2 {a b:St} (h:Ff a b=true):a=b:=by
 obtain⟨x,y,z⟩:=a;obtain⟨x',y',z'⟩:=b;simp only[Ff,χ] at h;have h1:=Qai h.1.1;have h2:=Qai h.1.2;have h3:=tj h.2;rw[h1,h2,h3]
def lQ (d:D) (st:St):Option (D×St)→Bool
 |some (e,ah)=>gq e d &&Ff ah st
 |none=>false
theorem nh {st:St} {r:Option (D×St)} (h:lQ d st r=true):r=some (d,st):=by
 match r,h with
 |some (e,ah),h=>
  simp only[lQ,χ] at h;rw[tW e d h.1,B2 h.2]
def sS:List ((List D×St)×(D×St))→List D→St→Option (D×St)
 |[],_,_=>none
 |(k,r)::l,ds,st=>match kc k.1 ds &&Ff k.2 st with
  |true=>some r
  |false=>sS l ds st
theorem lF:∀{l:List ((List D×St)×(D×St))} {ds:List D} {st:St} {r:D×St},sS l ds st=some r→((ds,st),r)∈l
 |(k,r')::l,ds,st,r,h=>by
  simp only[sS] at h
  split at h
  ·rename_i hb;simp only[χ] at hb;cases h;obtain⟨k1,k2⟩:=k;rw[←iF _ _ hb.1,←B2 hb.2];exact κ ..
  ·exact μ _ (lF h)
theorem A9 (h:yB.Ok P∧yB.ka∧ju P yB (fv yB)) (db:∀f,lJ yB f=lJ pv f) {l:List ((List D×St)×(D×St))} (hl:∀q∈l,∃n,cQ yB n f q.1.1 q.1.2=some q.2):gr P pv f (sS l):=by
 refine⟨fun ds st r hp=>?_,fun ds st d ah hp w β Z us hY hle ha=>?_,fun ds st d ah hp hr=>?_,fun ds st d ah hp=>?_⟩
 ·obtain⟨n,hn⟩:=hl _ (lF hp);exact(jO h.1 h.2.1 h.2.2 n).fn f _ _ _ hn
 ·obtain⟨n,hn⟩:=hl _ (lF hp);have:=(jO h.1 h.2.1 h.2.2 n).calls f _ _ _ _ hn w β Z us hY hle ha;rw[db] at this;exact this
 ·obtain⟨n,hn⟩:=hl _ (lF hp);exact(jO h.1 h.2.1 h.2.2 n).ro f _ _ _ _ hn (by rw[db];exact hr)
 ·obtain⟨n,hn⟩:=hl _ (lF hp);exact(jO h.1 h.2.1 h.2.2 n).len f _ _ _ _ hn
end Go.V
namespace Go.V
section
variable(P:Pv)
def Ev (f:Nat) (args:List D) (st:St) (d:D) (ah:St):Prop:=
 ∃N,∀n,N≤n→cQ P n f args st=some (d,ah)
abbrev Dy:=List (Nat×List (Nat×Nat))
def ag (dy:Dy) (c:Code) (fr:Fr) (st:St) (Q:Out→Fr→St→Prop):Prop:=
 ∃o aG ah,(∃N,∀n,N≤n→cv P (cQ P n) dy n c fr st=some (o,aG,ah))∧Q o aG ah
def ab (ops:Array Oper) (l:List Oper) (fr:Fr) (st:St) (Q:Fr→St→Prop):Prop:=
 ∃aG ah,(∃N,∀n,N≤n→kj P (cQ P n) ops l fr st=some (aG,ah))∧Q aG ah
def bS (dy:Dy) (b:Code) (Q:Out→Fr→St→Prop):Out→Fr→St→Prop
 | .next,fr,st=>ag P dy b fr st Q
 | .exit i,fr,st=>Q (.exit i) fr st
 | .ret,fr,st=>Q .ret fr st
def Kj (id:Nat) (Q:Out→Fr→St→Prop):Out→Fr→St→Prop
 | .next,fr,st=>Q .next fr st
 | .exit i,fr,st=>if i=id then Q .next fr st else Q (.exit i) fr st
 | .ret,fr,st=>Q .ret fr st
def Tx (I:Nat→Fr→St→Prop) (k:Nat) (Q:Out→Fr→St→Prop):Out→Fr→St→Prop
 | .next,fr,st=>∃j,j<k∧I j fr st
 | .exit i,fr,st=>Q (.exit i) fr st
 | .ret,fr,st=>Q .ret fr st
def dg (ops:Array Oper) (dy:List (Nat×Nat)) (j:Nat) (log:Log) (l:List Oper) (fr:Fr) (st:St) (Q:Fr→St→Prop):Prop:=
 ∃aG ah,(∃N,∀n,N≤n→tl P (cQ P n) ops dy j log l fr st=some (aG,ah))∧Q aG ah
variable{P} {dy:Dy}
variable{c:Code}{Q:Out→Fr→St→Prop}
theorem ag.mono {fr st} {Q':Out→Fr→St→Prop} (h:ag P dy c fr st Q) (hq:∀o aG ah,Q o aG ah→Q' o aG ah):ag P dy c fr st Q':=by
 obtain⟨o,aG,ah,h1,h2⟩:=h;exact⟨o,aG,ah,h1,hq _ _ _ h2⟩
theorem ag.skip {fr st} (h:Q .next fr st):ag P dy .skip fr st Q:=⟨_,_,_,⟨0,fun n _=>by simp only[cv]⟩,h⟩
theorem ag.exit {fr st i} (h:Q (.exit i) fr st):ag P dy (.exit i) fr st Q:=⟨_,_,_,⟨0,fun n _=>by simp only[cv]⟩,h⟩
theorem ag.ret {fr st} (h:Q .ret fr st):ag P dy .ret fr st Q:=⟨_,_,_,⟨0,fun n _=>by simp only[cv]⟩,h⟩
theorem ag.region {i ops d fr st} (h:ab P ops ops.toList fr.clean st (Q .next)) (h0:iU i dy=[]:=by rfl):ag P dy (.region i ops d) fr st Q:=by
 obtain⟨aG,ah,⟨N,hN⟩,hq⟩:=h;exact⟨_,aG,ah,⟨N,fun n hn=>by simp only[cv,h0,AB,hN n hn]⟩,hq⟩
theorem ag.K2 {i ops d fr st} {p:Nat×Nat} {ps:List (Nat×Nat)} (h0:iU i dy=p::ps) (h:dg P ops (p::ps) 0 [] ops.toList fr.clean st (Q .next)):ag P dy (.region i ops d) fr st Q:=by
 obtain⟨aG,ah,⟨N,hN⟩,hq⟩:=h;exact⟨_,aG,ah,⟨N,fun n hn=>by simp only[cv,h0,AB,hN n hn]⟩,hq⟩
theorem ag.seq {a b fr st} (h:ag P dy a fr st (bS P dy b Q)):ag P dy (.seq a b) fr st Q:=by
 obtain⟨o,aG,ah,⟨N,hN⟩,hq⟩:=h
 cases o with
 |next=>
  obtain⟨o,O8,st2,⟨M,hM⟩,hq⟩:=hq;exact⟨o,O8,st2,⟨max N M,fun n hn=>by simp only[cv,hN n z0,hM n z0]⟩,hq⟩
 |exit i=>exact⟨_,aG,ah,⟨N,fun n hn=>by simp only[cv,hN n hn]⟩,hq⟩
 |ret=>exact⟨_,aG,ah,⟨N,fun n hn=>by simp only[cv,hN n hn]⟩,hq⟩
theorem ag.cond {c a b fr st v} (hv:fr.ev c=.bool v) (h1:v=true→ag P dy a fr st Q) (h2:v=false→ag P dy b fr st Q):ag P dy (.cond c a b) fr st Q:=by
 cases v with
 |true=>
  obtain⟨o,aG,ah,⟨N,hN⟩,hq⟩:=h1 rfl;exact⟨o,aG,ah,⟨N,fun n hn=>by simp only[cv,hv,hN n hn]⟩,hq⟩
 |false=>
  obtain⟨o,aG,ah,⟨N,hN⟩,hq⟩:=h2 rfl;exact⟨o,aG,ah,⟨N,fun n hn=>by simp only[cv,hv,hN n hn]⟩,hq⟩
theorem ag.block {id c fr st} (h:ag P dy c fr st (Kj id Q)):ag P dy (.block id c) fr st Q:=by
 obtain⟨o,aG,ah,⟨N,hN⟩,hq⟩:=h
 cases o with
 |next=>exact⟨_,aG,ah,⟨N,fun n hn=>by simp only[cv,hN n hn]⟩,hq⟩
 |exit i=>
  simp only[Kj] at hq
  split at hq
  ·rename_i hi;exact⟨_,aG,ah,⟨N,fun n hn=>by simp only[cv,hN n hn,if_pos hi]⟩,hq⟩
  ·rename_i hi;exact⟨_,aG,ah,⟨N,fun n hn=>by simp only[cv,hN n hn,if_neg hi]⟩,hq⟩
 |ret=>exact⟨_,aG,ah,⟨N,fun n hn=>by simp only[cv,hN n hn]⟩,hq⟩
theorem ag.loop {fr st} (I:Nat→Fr→St→Prop) (k:Nat) (h0:I k fr st) (h:∀k fr st,I k fr st→ag P dy c fr.clean st (Tx I k Q)):ag P dy (.loop c) fr st Q:=by
 have key:∀k fr st,I k fr st→∃o aG ah,(∃N,∀n,N≤n→∀m,N≤m→iter (cv P (cQ P n) dy n c) m fr st=some (o,aG,ah))∧(Q o aG ah):=by
  intro k
  induction k using Nat.strongRecOn with
  |ind k ih=>
   intro fr st hi;obtain⟨o,aG,ah,⟨N,hN⟩,hq⟩:=h k fr st hi
   cases o with
   |next=>
    obtain⟨j,hj,j7⟩:=hq;obtain⟨o,O8,st2,⟨M,hM⟩,hq⟩:=ih j hj aG ah j7;refine⟨o,O8,st2,⟨max N M+1,fun n hn m hm=>?_⟩,hq⟩
    obtain⟨m,rfl⟩:∃m',m=m'+1:=⟨m-1,by omega⟩
    simp only[iter,hN n z0,hM n z0 m z0]
   |exit i=>
    refine⟨_,aG,ah,⟨N+1,fun n hn m hm=>?_⟩,hq⟩
    obtain⟨m,rfl⟩:∃m',m=m'+1:=⟨m-1,by omega⟩
    simp only[iter,hN n z0]
   |ret=>
    refine⟨_,aG,ah,⟨N+1,fun n hn m hm=>?_⟩,hq⟩
    obtain⟨m,rfl⟩:∃m',m=m'+1:=⟨m-1,by omega⟩
    simp only[iter,hN n z0]
 obtain⟨o,aG,ah,⟨N,hN⟩,hq⟩:=key k fr st h0;exact⟨o,aG,ah,⟨N,fun n hn=>by simp only[cv,hN n hn n hn]⟩,hq⟩
theorem Ev.of {f x body args st d ah} (hq:m_ f P.prm=none) (hf:P.fi f=some x) (hp:x.l7=none) (hb:x.fn.body=some body)
  (h:ag P x.dyn body (pad x.nloc args) (ae x.mode st) fun o fr st1=>(∀i,o≠.exit i)∧∃ds,l4 P fr st1 x.fn.results.toList=some ds∧dj x.mode x.knul st st1 (wA ds)=some (d,ah)):Ev P f args st d ah:=by
 obtain⟨o,aG,st1,⟨N,hN⟩,ho,ds,hr,hl⟩:=h;refine⟨N+1,fun n hn=>?_⟩
 obtain⟨m,rfl⟩:∃m',n=m'+1:=⟨n-1,by omega⟩
 simp only[cQ,hq,hf,hp,hb,B1];rw[hN m z0]
 cases o with
 |next=>simp only[hr,hl]
 |exit i=>exact absurd rfl (ho i)
 |ret=>simp only[hr,hl]
theorem ab.nil {ops fr st} {Q:Fr→St→Prop} (h:Q fr st):ab P ops [] fr st Q:=⟨fr,st,⟨0,fun n _=>rfl⟩,h⟩
def j5:Op→Bool
 | .call ⟨.value _,_,_⟩=>true
 |_=>false
theorem HU {cf fr st} {o:Oper} (h:j5 o.op=false):gd P cf fr st o=dN P fr st o.op o.type:=by
 unfold gd
 split
 ·rename_i heq;rw[heq] at h;simp[j5] at h
 ·rfl
theorem ab.op {ops o rest fr st d st1} {Q:Fr→St→Prop} (hg:aD ops fr o=some true) (hc:j5 o.op=false) (h1:dN P fr st o.op o.type=some (d,st1))
  (h:ab P ops rest (fr.fN o.dst d) st1 Q):ab P ops (o::rest) fr st Q:=by
 obtain⟨aG,ah,⟨N,hN⟩,hq⟩:=h;exact⟨aG,ah,⟨N,fun n hn=>by simp only[kj,hg,HU hc,h1,hN n hn]⟩,hq⟩
theorem ab.off {ops o rest fr st} {Q:Fr→St→Prop} (hg:aD ops fr o=some false)
  (h:ab P ops rest (fr.fN o.dst (.tup [])) st Q):ab P ops (o::rest) fr st Q:=by
 obtain⟨aG,ah,⟨N,hN⟩,hq⟩:=h;exact⟨aG,ah,⟨N,fun n hn=>by simp only[kj,hg,hN n hn]⟩,hq⟩
theorem ab.call {ops rest fr st d st1 f g lf args Ab dst type pos} {after guard} {Q:Fr→St→Prop} (hg:aD ops fr ⟨dst,.call ⟨.value f,args,Ab⟩,type,pos,after,guard⟩=some true) (hf:fr.ev f=.fn g lf)
  (h1:Ev P g (args.toList.map fr.ev++lf) st d st1)
  (h:ab P ops rest (fr.fN dst d) st1 Q):ab P ops (⟨dst,.call ⟨.value f,args,Ab⟩,type,pos,after,guard⟩::rest) fr st Q:=by
 obtain⟨aG,ah,⟨N,hN⟩,hq⟩:=h;obtain⟨M,hM⟩:=h1;exact⟨aG,ah,⟨max N M,fun n hn=>by simp only[kj,hg,gd,hf,hM n z0,hN n z0]⟩,hq⟩
theorem dg.nil {ops ys j log fr st} {Q:Fr→St→Prop} (h:Q fr st):dg P ops ys j log [] fr st Q:=⟨fr,st,⟨0,fun n _=>rfl⟩,h⟩
theorem dg.cons {ops ys j log o rest fr st} {Q:Fr→St→Prop} (h:ab P ops [o] fr st fun aG ah=>JY ys j log o fr st ah=true∧dg P ops ys (j+1) ((o,fr,st,ah)::log) rest aG ah Q):dg P ops ys j log (o::rest) fr st Q:=by
 obtain⟨O9,st1,⟨N,hN⟩,hc,O8,st2,⟨M,hM⟩,hq⟩:=h;refine⟨O8,st2,⟨max N M,fun n hn=>?_⟩,hq⟩;have h1:=hN n z0;have h2:=hM n z0;simp only[kj] at h1;simp only[tl]
 split at h1
 ·rename_i hw
  split at h1
  ·rename_i d ah ib;cases h1;simp only[hc,h2]
  ·cases h1
 ·rename_i hw;cases h1;exact h2
 ·cases h1
theorem Ev.out {f args st d ah} (h:Ev P f args st d ah):∃N,∀n,N≤n→cQ P n f args st=some (d,ah):=h
theorem Ev.l7 {f args st d ah p} (hq:m_ f P.prm=some p) (h:p args st=some (d,ah)):Ev P f args st d ah:=
 ⟨1,fun n hn=>by
  obtain⟨m,rfl⟩:∃m',n=m'+1:=⟨n-1,by omega⟩
  simp only[cQ,hq,h]⟩
end
attribute [irreducible] Ev ag ab dg
end Go.V
namespace Go.V
variable{P:Pv}{dy:Dy}{i:Nat}{l:List Oper}{Q:Out→Fr→St→Prop}
theorem ag.ei {d n loc tmp st} (h:ab P l.toArray l ⟨n,loc,[]⟩ st (Q .next)) (h0:iU i dy=[]:=by rfl):ag P dy (.region i l.toArray d) ⟨n,loc,tmp⟩ st Q:=ag.region h h0
theorem ag.yx {d n loc tmp st} {p:Nat×Nat} {ps:List (Nat×Nat)} (h0:iU i dy=p::ps) (h:dg P l.toArray (p::ps) 0 [] l ⟨n,loc,[]⟩ st (Q .next)):ag P dy (.region i l.toArray d) ⟨n,loc,tmp⟩ st Q:=ag.K2 h0 h
theorem Ev.iu {f x body args st d ah n loc} (hq:m_ f P.prm=none) (hf:P.fi f=some x) (hp:x.l7=none) (hb:x.fn.body=some body) (ID:pad x.nloc args=⟨n,loc,[]⟩) (h:ag P x.dyn body ⟨n,loc,[]⟩ (ae x.mode st) fun o fr st1=>(∀i,o≠.exit i)∧∃ds,l4 P fr st1 x.fn.results.toList=some ds∧dj x.mode x.knul st st1 (wA ds)=some (d,ah)):Ev P f args st d ah:=
 Ev.of hq hf hp hb (by rw[ID];exact h)
section
variable{P:Pv} {ops:Array Oper} {rest:List Oper} {n:Nat} {loc:List D} {tmp:List (Nat×D)} {st st1:St} {Q:Fr→St→Prop} {op:Op} {ty:TypeId} {p:String} {a:Array Edge} {g:Option (Nat×Bool)} {t:Nat} {d:D}
theorem aa (hb:ς n t=true) (d:D):Ξ ⟨n,loc,tmp⟩ t d=⟨n,loc,(t,d)::tmp⟩:=by
 simp only[Ξ,hb]
theorem MN (hb:ς n t=false) (d:D):Ξ ⟨n,loc,tmp⟩ t d=⟨n,loc.set t d,tmp⟩:=by
 simp only[Ξ,hb]
theorem ab.T (hb:ς n t=true) (hg:aD ops ⟨n,loc,tmp⟩ ⟨some t,op,ty,p,a,g⟩=some true) (hc:j5 op=false) (h1:dN P ⟨n,loc,tmp⟩ st op ty=some (d,st1))
  (h:ab P ops rest ⟨n,loc,(t,d)::tmp⟩ st1 Q):ab P ops (⟨some t,op,ty,p,a,g⟩::rest) ⟨n,loc,tmp⟩ st Q:=
 ab.op hg hc h1 (by show ab P ops rest (Ξ _ t d) st1 Q;rw[aa hb];exact h)
theorem ab.L (hb:ς n t=false) (hg:aD ops ⟨n,loc,tmp⟩ ⟨some t,op,ty,p,a,g⟩=some true) (hc:j5 op=false) (h1:dN P ⟨n,loc,tmp⟩ st op ty=some (d,st1))
  (h:ab P ops rest ⟨n,loc.set t d,tmp⟩ st1 Q):ab P ops (⟨some t,op,ty,p,a,g⟩::rest) ⟨n,loc,tmp⟩ st Q:=
 ab.op hg hc h1 (by show ab P ops rest (Ξ _ t d) st1 Q;rw[MN hb];exact h)
theorem ab.N {fr:Fr} (hg:aD ops fr ⟨none,op,ty,p,a,g⟩=some true) (hc:j5 op=false) (h1:dN P fr st op ty=some (d,st1))
  (h:ab P ops rest fr st1 Q):ab P ops (⟨none,op,ty,p,a,g⟩::rest) fr st Q:=ab.op hg hc h1 h
theorem ab.Ux (hb:ς n t=true) (hg:aD ops ⟨n,loc,tmp⟩ ⟨some t,op,ty,p,a,g⟩=some false)
  (h:ab P ops rest ⟨n,loc,(t,.tup [])::tmp⟩ st Q):ab P ops (⟨some t,op,ty,p,a,g⟩::rest) ⟨n,loc,tmp⟩ st Q:=
 ab.off hg (by show ab P ops rest (Ξ _ t _) st Q;rw[aa hb];exact h)
theorem ab.Uy (hb:ς n t=false) (hg:aD ops ⟨n,loc,tmp⟩ ⟨some t,op,ty,p,a,g⟩=some false)
  (h:ab P ops rest ⟨n,loc.set t (.tup []),tmp⟩ st Q):ab P ops (⟨some t,op,ty,p,a,g⟩::rest) ⟨n,loc,tmp⟩ st Q:=
 ab.off hg (by show ab P ops rest (Ξ _ t _) st Q;rw[MN hb];exact h)
theorem ab.nD {f gn:_} {lf:List D} {args:Array Operand} {Ab:Array TypeId} (hb:ς n t=true) (hg:aD ops ⟨n,loc,tmp⟩ ⟨some t,.call ⟨.value f,args,Ab⟩,ty,p,a,g⟩=some true) (hf:AN ⟨n,loc,tmp⟩ f=.fn gn lf)
  (h1:Ev P gn (args.toList.map (AN ⟨n,loc,tmp⟩)++lf) st d st1)
  (h:ab P ops rest ⟨n,loc,(t,d)::tmp⟩ st1 Q):ab P ops (⟨some t,.call ⟨.value f,args,Ab⟩,ty,p,a,g⟩::rest) ⟨n,loc,tmp⟩ st Q:=
 ab.call hg hf h1 (by show ab P ops rest (Ξ _ t d) st1 Q;rw[aa hb];exact h)
end
inductive Rows (st:St) (s:Nat):D→List (List D)→Prop where
 |nul:Rows st s .nul []
 |sl (es:List D) (h:∀e∈es,e.cells?=some e.cells∧e.cells.length=s):Rows st s (.sl es) (es.map Qat)
 |win (k aB off:Nat) (es:List (List D)) (ar:Bool) (c:List D) (hm:st.fX k aB=some (ar,c)) (hl:off+es.length*s≤c.length)
   (he:∀(i:Nat) e,es[i]?=some e→(c.drop (off+i*s)).take s=e):Rows st s (.win k aB off es.length s) es
variable{st:St}{s:Nat}{x:D}{es:List (List D)}
theorem Rows.vO (h:Rows st s x es):∀(i:Nat) e,es[i]?=some e→e.length=s:=by
 cases h with
 |nul=>intro i e h;simp at h
 |sl es h=>
  intro i e hi;rw[Qap] at hi;obtain⟨d,hd,rfl⟩:=AT.1 hi;exact(h d (v8 hd)).2
 |win k aB off es ar c hm hl he=>
  intro i e hi
  have hlt:i<es.length:=by
   rcases ω i es.length with h'|h'
   ·exact h'
   ·rw[θ h'] at hi;cases hi
  rw[←he i e hi];have:(i+1)*s≤es.length*s:=π s hlt;rw[τ] at this
  simp;omega
theorem Rows.len (h:Rows st s x es):Bd x=some es.length∧∀b,x≠.str b:=by
 cases h with
 |nul=>exact⟨rfl,fun b h=>by cases h⟩
 |sl es h=>exact⟨by simp[Bd],fun b h=>by cases h⟩
 |win k aB off es ar c hm hl he=>exact⟨rfl,fun b h=>by cases h⟩
variable{P:Pv}
theorem Rows.MO (h:Rows st s x es) {t e:TypeId} (ht:P.cy t=some (.slice e)):
  bu P .len [t] [x] st=some (.int .i64 (es.length:Nat),st):=by
 obtain⟨h1,h2⟩:=h.len;simp only[bu,ht]
 cases x with
 |str b=>exact absurd rfl (h2 b)
 |_=>simp only[h1];rfl
variable{d:D}
theorem Cg {e:TypeId} {c c':List D} (hs:cz P e=some s) (hc:c.take s=c') (hl:c'.length=s) (h:dY P e c'=some d):dY P e c=some d:=by
 have hlen:s≤c.length:=by rw[←hc] at hl;simp at hl;omega
 unfold dY at h⊢
 cases hu:P.cy e with
 |none=>rw[hu] at h;cases h
 |some u=>
  rw[hu] at h
  cases u with
  |struct f=>
   simp only[hs,γ] at h⊢;rw[if_pos z0] at h;rw[if_pos hlen,hc];rw[←h,Qab z0]
  |array n f=>
   simp only[hs,γ] at h⊢;rw[if_pos z0] at h;rw[if_pos hlen,hc];rw[←h,Qab z0]
  |_=>
   simp only at h⊢;rw[←h,←hc]
   cases c with
   |nil=>simp
   |cons x xs=>
    cases s with
    |zero=>simp at hc;subst hc;simp at h
    |succ s=>simp
variable{k:IntKind}{i:Int}{r:List D}
theorem Rows.idx (h:Rows st s x es) {t e:TypeId} (ht:P.cy t=some (.slice e)) (hs:cz P e=some s) (h0:0≤i) (hi:es[i.toNat]?=some r):
  ∃p,bX P t x (.int k i) st=some p∧∀d,dY P e r=some d→iM P e p st=some d:=by
 cases h with
 |nul=>simp at hi
 |sl es h=>
  rw[Qap] at hi;obtain⟨d,hd,rfl⟩:=AT.1 hi;obtain⟨h1,h2⟩:=h d (v8 hd);refine⟨.ep d.cells,?_,fun d' h=>h⟩;simp only[bX,ht,hs,γ,if_pos h0,hd,h1,if_pos h2]
 |win k aB off es ar c hm hl he=>
  have hlt:i.toNat<es.length:=by
   rcases ω i.toNat es.length with h'|h'
   ·exact h'
   ·rw[θ h'] at hi;cases hi
  refine⟨.ptr k aB (off+i.toNat*s),?_,fun d' h=>?_⟩
  ·simp only[bX,ht,hs,γ,hm,Qal];rw[if_pos ⟨trivial,h0,by omega,trivial⟩]
  ·simp only[iM,hm,γ];exact Cg hs (he _ _ hi) (Rows.vO (.win k aB off es ar c hm hl he) _ _ hi) h
theorem ab.eo {ops:Array Oper} {rest:List Oper} {n:Nat} {loc:List D} {tmp:List (Nat×D)} {Q:Fr→St→Prop} {t e:TypeId} {xo io:Operand} {d1 d2:Nat} {Yo ow:TypeId} {p1 p2:String} {a1 a2:Array Edge} {g1 g2:Option (Nat×Bool)} (hb1:ς n d1=true) (hb2:ς n d2=true) (lS:aD ops ⟨n,loc,tmp⟩ ⟨some d1,.indexAddr t xo io,Yo,p1,a1,g1⟩=some true) (cj:∀p,aD ops ⟨n,loc,(d1,p)::tmp⟩ ⟨some d2,.load e (.tmp d1),ow,p2,a2,g2⟩=some true) (hx:AN ⟨n,loc,tmp⟩ xo=x) (hi:AN ⟨n,loc,tmp⟩ io=.int k i) (hR:Rows st s x es) (ht:P.cy t=some (.slice e)) (hs:cz P e=some s) (h0:0≤i) (hr:es[i.toNat]?=some r) (hd:dY P e r=some d) (h:∀p,ab P ops rest ⟨n,loc,(d2,d)::(d1,p)::tmp⟩ st Q):ab P ops (⟨some d1,.indexAddr t xo io,Yo,p1,a1,g1⟩::⟨some d2,.load e (.tmp d1),ow,p2,a2,g2⟩::rest) ⟨n,loc,tmp⟩ st Q:=by
 obtain⟨p,h1,h2⟩:=hR.idx ht hs (k:=k) h0 hr;refine ab.T hb1 lS rfl (d:=p) (st1:=st) (by simp only[dN,hx,hi,h1,δ])<|ab.T hb2 (cj p) rfl (d:=d) (st1:=st) ?_ (h p)
 have:AN ⟨n,loc,(d1,p)::tmp⟩ (.tmp d1)=p:=by
  simp only[AN,Fr.get,hb1,look];have:Qb4 d1 d1=true:=Nat.beq_refl d1;rw[this]
 simp only[dN,this,h2 d hd,δ]
def byteCells (b:List UInt8):List (List D):=b.map fun y=>[.int .u8 (y.toNat:Nat)]
def Bytes (st:St) (x:D) (b:List UInt8):Prop:=Rows st 1 x (byteCells b)
theorem aP {m:Mode} {kn:Bool} {st1:St} {d':D} (hm:m≠.cw∧m≠.nw) (h1:st1.bs.take st.bs.length=st.bs) (hd:ba st1 st.bs.length kn 16 d=some d'):dj m kn st st1 d=some (d',st):=by
 cases m with
 |cw=>exact absurd rfl hm.1
 |nw=>exact absurd rfl hm.2
 |_=>simp only[dj,hd,h1]
end Go.V
namespace Go.V
structure Ex (N:Nat) (st ah:St):Prop where
 low:∀k,k<N→ah.bs[k]?=st.bs[k]?
 len:st.bs.length≤ah.bs.length
 flr:ah.flr=st.flr
 ro:ah.ro=st.ro
theorem Ex.refl (N:Nat) (st:St):Ex N st st:=⟨fun _ _=>rfl,υ _,rfl,rfl⟩
theorem Ex.trans {N:Nat} {a b c:St} (h:Ex N a b) (g:Ex N b c):Ex N a c:=
 ⟨fun k hk=>(g.low k hk).trans (h.low k hk),Qa7 h.len g.len,g.flr.trans h.flr,g.ro.trans h.ro⟩
theorem Ex.push {N:Nat} {st:St} (h:N≤st.bs.length) (b:jC):Ex N st (st.push b):=
 ⟨fun k hk=>by simp only[Ω];rw[ρ z0],by simp[Ω],rfl,rfl⟩
variable{k:Nat}
theorem Ex.set {N:Nat} {st:St} (h:N≤k) (b:jC):Ex N st {st with bs:=st.bs.set k b}:=
 ⟨fun j hj=>by simp only;rw[ε z0],by simp,rfl,rfl⟩
variable{ah:St}
theorem Ex.take {N:Nat} {st:St} (h:Ex N st ah) (hN:N=st.bs.length):ah.bs.take N=st.bs:=by
 apply Qao;intro k;rw[Qa8]
 split
 ·exact h.low k z5
 ·rw[θ z0]
theorem Ex.mem {N:Nat} {st:St} (h:Ex N st ah) {v:Nat} (hk:k<N):ah.fX k v=st.fX k v:=by
 simp only[Qbf,h.low k hk]
variable{s:Nat}{x:D}{es:List (List D)}
theorem Rows.ex {N:Nat} {st:St} (h:Ex N st ah) (hr:Rows st s x es) (hx:x.ref≤N):Rows ah s x es:=by
 cases hr with
 |nul=>exact .nul
 |sl es h=>exact .sl es h
 |win k aB off es ar c hm hl he=>exact .win k aB off es ar c (by rw[h.mem (by simp only[Γ] at hx;omega)];exact hm) hl he
variable{l r:Nat}
theorem Rows.slice {P:Pv} {st:St} (h:Rows st s x es) {t e:TypeId} (ht:P.cy t=some (.slice e)) (hs:cz P e=some s) {lo hi:Option D} (hb:bZ es.length lo hi=some (l,r)) (rX:l≤r∧r≤es.length):
  ∃y,fM P t x lo hi st=some y∧Rows st s y ((es.take r).drop l)∧y.ref≤x.ref:=by
 cases h with
 |nul=>
  refine⟨.nul,?_,?_,υ _⟩
  ·simp only[fM,ht,hs,γ];simp only[IT] at hb;rw[hb];rfl
  ·simp;exact .nul
 |sl es h=>
  refine⟨.sl ((es.take r).drop l),?_,?_,by simp[Γ]⟩
  ·simp only[fM,ht,hs,γ]
   have:oQ s es=true:=by
    cases es with
    |nil=>rfl
    |cons e es=>obtain⟨h1,h2⟩:=h e (κ ..);simp[oQ,h1,h2]
   rw[if_pos this];simp only[Qad] at hb;rw[hb];rfl
  ·have:=Rows.sl (st:=st) (s:=s) ((es.take r).drop l) fun e he=>h e (GB (Qaj he))
   simpa[Qb6,Qb7] using this
 |win k aB off es ar c hm hl he=>
  have hlen:((es.take r).drop l).length=r-l:=by simp;omega
  refine⟨.win k aB (off+l*s) (r-l) s,?_,?_,by simp[Γ]⟩
  ·simp only[fM,ht,hs,γ,if_true,hb];rfl
  ·have h1:l*s+(r-l)*s≤es.length*s:=by rw[←τ];exact π s z0
   have:=Rows.win (st:=st) (s:=s) k aB (off+l*s) ((es.take r).drop l) ar c hm (by rw[hlen];omega) (fun i e hi=>by
    rw[Qb2,Qa8] at hi
    split at hi
    ·have:=he _ _ hi;rw[←this,τ];congr 2;omega
    ·cases hi)
   rwa [hlen] at this
inductive Acc (N:Nat) (st:St) (s:Nat):D→List (List D)→Prop where
 |nul:Acc N st s .nul []
 |win (k aB:Nat) (es:List (List D)) (hN:N≤k) (hm:st.bs[k]?=some (.mem aB true es.flatten)) (he:∀e∈es,e.length=s):Acc N st s (.win k aB 0 es.length s) es
theorem cX {s:Nat}:∀{es:List (List D)},(∀e∈es,e.length=s)→es.flatten.length=es.length*s
 |[],_=>by simp
 |e::es,h=>by
  have:=cX (s:=s) (es:=es) fun x hx=>h x (μ _ hx);simp only[Δ,ψ,ξ,this,h e (κ ..)];rw[τ];omega
theorem oa {s:Nat}:∀{es:List (List D)},(∀e∈es,e.length=s)→∀(i:Nat) e,es[i]?=some e→(es.flatten.drop (i*s)).take s=e
 |[],_,i,e,h=>by simp at h
 |x::es,h,0,e,hi=>by
  simp at hi;subst hi;have:=h x (κ ..);simp[Qaw this]
 |x::es,h,i+1,e,hi=>by
  simp only[ν] at hi;have hx:=h x (κ ..);have:=oa (s:=s) (es:=es) (fun y hy=>h y (μ _ hy)) i e hi;rw[←this,Δ,τ,IS,Qaf,←hx,←φ,List.drop_left]
variable{c:List D}
theorem St.mem_of {st:St} {aB:Nat} {ar:Bool} (h:st.bs[k]?=some (.mem aB ar c)):st.fX k aB=some (ar,c):=by
 simp only[Qbf,h,if_true]
theorem Acc.rows {N:Nat} {st:St} (h:Acc N st s x es):Rows st s x es:=by
 cases h with
 |nul=>exact .nul
 |win k aB es hN hm he=>
  exact .win k aB 0 es true es.flatten (St.mem_of hm) (by rw[cX he];omega) fun i e hi=>by rw[Qb0];exact oa he i e hi
theorem Acc.ex {N M:Nat} {st:St} (h:Ex M st ah) (hr:Acc N st s x es) (hx:x.ref≤M):Acc N ah s x es:=by
 cases hr with
 |nul=>exact .nul
 |win k aB es hN hm he=>exact .win k aB es hN (by rw[h.low k (by simp only[Γ] at hx;omega)];exact hm) he
theorem Acc.push {N:Nat} {st:St} (hr:Acc N st s x es) (b:jC):Acc N (st.push b) s x es:=by
 cases hr with
 |nul=>exact .nul
 |win k aB es hN hm he=>
  refine .win k aB es hN ?_ he;simp only[Ω];rw[ρ];exact hm
  rcases ω k st.bs.length with h'|h'
  ·exact h'
  ·rw[θ h'] at hm;cases hm
theorem Rows.row {st:St} (h:Rows st s x es):pk st x=some (es.length,es.flatten):=by
 have hl:=h.vO
 cases h with
 |nul=>rfl
 |sl es h=>
  simp only[pk,Qad];rw[List.flatMap_def]
 |win k aB off es ar c hm ji he=>
  simp only[pk,hm,γ,if_pos ji]
  congr 2
  have key:∀(es:List (List D)) (c:List D),es.length*s≤c.length→(∀(i:Nat) e,es[i]?=some e→(c.drop (i*s)).take s=e)→c.take (es.length*s)=es.flatten:=by
   intro es
   induction es with
   |nil=>intro c _ _;simp
   |cons e es ih=>
    intro c hc hx;have h0:=hx 0 e rfl;simp only[Nat.zero_mul,Pd] at h0;rw[Δ,ξ,τ,IS,Qaf,Qb8,h0]
    congr 1
    simp only[ξ,τ,IS] at hc;refine ih (c.drop s) (by simp;omega) fun i e hi=>?_;rw[φ,←hx (i+1) e (by simpa using hi),τ,IS,Qaf]
  refine key es (c.drop off) (by simp;omega) fun i e hi=>?_;rw[φ];exact he i e hi
variable{y:D}{ys:List (List D)}{z:List D}
theorem Acc.append {P:Pv} {N:Nat} {st:St} (hr:Acc N st s x es) (hy:Rows st s y ys) {t1 t2 e:TypeId} {td:TypeDesc} {inf:TypeInfo} (h1:P.cy t1=some (.slice e)) (h2:P.cy t2=some td) (h3:fh td=false) (h4:P.info e=some inf) (h5:dc P e=some z) (h6:inf.size=s) (h7:z.length=s) (h8:inf.bytes≠0) (hN:N≤st.bs.length) (hf:st.flr≤N) (db:st.ro≤N) (hb:(es.length+ys.length)*inf.bytes≤1099511627776):
  ∃x' ah,bu P .append [t1,t2] [x,y] st=some (x',ah)∧Acc N ah s x' (es++ys)∧Ex N st ah∧x'.ref≤ah.bs.length∧(∀k,k<st.bs.length→k+1≠x.ref→ah.bs[k]?=st.bs[k]?)∧(x'.ref=x.ref∨st.bs.length<x'.ref):=by
 have jI:=hy.row
 have B_:∀e∈ys,e.length=s:=fun e he=>by
  obtain⟨i,hi⟩:=Qa4 he;exact hy.vO i e hi
 have mi:=cX B_;subst h6;simp only[bu,iG,h1,h2,h3,Qan,if_false,h4,h5,jI,γ];rw[if_neg (by rintro(h|h|h);exact h mi;exact h8 h;exact h h7)]
 cases hr with
 |nul=>
  simp only[Qae]
  by_cases h0:ys.length=0
  ·rw[if_pos h0]
   have:ys=[]:=by cases ys with|nil=>rfl|cons _ _=>simp at h0
   subst this;exact⟨.nul,st,rfl,.nul,Ex.refl _ _,by simp[Γ],fun _ _ _=>rfl,.inl rfl⟩
  ·rw[if_neg h0,if_pos (by simpa using hb)];refine⟨_,_,rfl,?_,Ex.push hN _,by simp[Γ,Ω],fun k hk _=>by simp only[Ω];rw[ρ hk],.inr (by simp[Γ])⟩;exact .win _ _ ys hN (by simp[Ω]) B_
 |win k aB es hk hm he=>
  have jx:k<st.bs.length:=by
   rcases ω k st.bs.length with h'|h'
   ·exact h'
   ·rw[θ h'] at hm;cases hm
  simp only[St.mem_of hm];rw[if_neg (by rintro(h|h);exact h rfl;rw[cX he] at h;omega)]
  by_cases h0:ys.length=0
  ·rw[if_pos h0]
   have:ys=[]:=by cases ys with|nil=>rfl|cons _ _=>simp at h0
   subst this;simp only[Qau];exact⟨_,st,rfl,.win k aB es hk hm he,Ex.refl _ _,by simp only[Γ];omega,fun _ _ _=>rfl,.inl rfl⟩
  ·rw[if_neg h0,if_pos ⟨hb,by simp only[Qbg,χ,Qac,decide_eq_true_eq];exact⟨by omega,.inl z0⟩⟩];refine⟨_,_,rfl,?_,Ex.set hk _,by simp only[Γ,Θ];omega,fun j hj hne=>by simp only;rw[ε (by simp only[Γ] at hne;omega)],.inl rfl⟩
   have:(es.flatten.take (0+es.length*inf.size)).drop 0++ys.flatten=(es++ys).flatten:=by
    rw[Qb0,←cX he,Pe,Pd,Qa5]
   rw[this];have rY:es.length+ys.length=(es++ys).length:=by simp
   rw[rY]
   exact .win k (aB+1) (es++ys) hk (by simp[jx]) fun e h=>by
    rcases Qb5.1 h with h|h
    ·exact he e h
    ·exact B_ e h
def cD:D→Bool
 | .bool _| .int _ _| .str _| .sl _=>true
 |_=>false
theorem l9 {st:St} {N n:Nat}:∀{l:List D},(∀d∈l,cD d=true)→iK (fu st N (n+1)) l=some l
 |[],_=>rfl
 |d::l,h=>by
  have h1:=h d (κ ..);have h2:=l9 (st:=st) (N:=N) (n:=n) fun x hx=>h x (μ _ hx);have h3:fu st N (n+1) d=some d:=by cases d<;>simp[cD] at h1<;>rfl
  simp only[iK,h3,h2]
def kO (s:Nat) (e:List D):D:=match s with|1=>e.headD .bo|_=>.agg e
theorem gX {s:Nat}:∀{es:List (List D)},(∀e∈es,e.length=s)→chunk s es.length es.flatten=es.map (kO s)
 |[],_=>rfl
 |e::es,h=>by
  have he:=h e (κ ..);have ih:=gX (s:=s) (es:=es) fun x hx=>h x (μ _ hx);simp only[ξ,chunk,Δ,ο]
  congr 1
  ·by_cases hs:s=1
   ·subst hs
    cases e with
    |nil=>simp at he
    |cons x xs=>simp[kO]
   ·have h1:kO s e=.agg e:=by unfold kO;split;exact absurd rfl hs;rfl
    have h2:(match s with|1=>(e++es.flatten).headD .bo|_=>D.agg ((e++es.flatten).take s))=.agg e:=by
     split
     ·exact absurd rfl hs
     ·rw[Qaw he]
    rw[h1];exact h2
  ·rw[Qav he];exact ih
theorem Acc.freeze {N:Nat} {st:St} (h:Acc N st s x es) (hp:∀e∈es,∀d∈e,cD d=true) {n:Nat} (hn:2≤n):ba st N false (n+1) x=some (.sl (es.map (kO s))):=by
 obtain⟨n,rfl⟩:∃m,n=m+2:=⟨n-2,by omega⟩
 cases h with
 |nul=>rfl
 |win k aB es hN hm he=>
  show(if k<N then some (D.win k aB 0 es.length s) else fu st N (n+2) (.win k aB 0 es.length s))=_;rw[if_neg (show¬k<N by omega),fu];simp only[if_neg (show¬k<N by omega),St.mem_of hm,γ];rw[if_pos (by rw[cX he];omega)];have:(es.flatten.drop 0).take (es.length*s)=es.flatten:=by rw[Pd,←cX he,Pe]
  rw[this,l9 (fun d hd=>by
   obtain⟨e,tv,EY⟩:=Qas.1 hd
   exact hp e tv d EY)]
  simp only[δ,gX he]
theorem oe {e:List D} (h:e.length=s) (hp:∀d∈e,cD d=true):(kO s e).cells?=some (kO s e).cells∧(kO s e).cells=e:=by
 by_cases hs:s=1
 ·subst hs
  match e,h with
  |[x],_=>
   have:=hp x (κ ..);cases x<;>simp[cD] at this<;>exact⟨rfl,rfl⟩
 ·have:kO s e=.agg e:=by unfold kO;split;exact absurd rfl hs;rfl
  rw[this];exact⟨rfl,rfl⟩
theorem Rows.px {st:St} (h:∀e∈es,e.length=s) (hp:∀e∈es,∀d∈e,cD d=true):Rows st s (.sl (es.map (kO s))) es:=by
 have:=Rows.sl (st:=st) (s:=s) (es.map (kO s)) fun d hd=>by
  obtain⟨e,he,rfl⟩:=Qaq.1 hd;obtain⟨h1,h2⟩:=oe (h e he) (hp e he);exact⟨h1,by rw[h2];exact h e he⟩
 have h2:(es.map (kO s)).map Qat=es:=by
  rw[Qba]
  conv=>rhs;rw[←Qbc es]
  refine Qb1 fun e he=>?_;exact(oe (h e he) (hp e he)).2
 rwa [h2] at this
theorem Rows.bs {st:St} (h:ah.bs=st.bs) (hr:Rows st s x es):Rows ah s x es:=by
 cases hr with
 |nul=>exact .nul
 |sl es h=>exact .sl es h
 |win k aB off es ar c hm hl he=>exact .win k aB off es ar c (by simp only[Qbf,h] at hm⊢;exact hm) hl he
theorem JG (m:Mode) (st:St):(ae m st).bs=st.bs:=by cases m<;>rfl
theorem Rows.enter {st:St} (m:Mode) (hr:Rows st s x es):Rows (ae m st) s x es:=hr.bs (JG m st)
theorem bI {k:IntKind} {m:Nat} (h:m≤gh k):bp k (m:Int)=m:=by
 show bp k (.ofNat m)=_;unfold bp;simp only[Nat.ble_eq_true_of_le h];rfl
theorem wrap_i64 {n : Int} (h1 : -9223372036854775808 ≤ n) (h2 : n ≤ 9223372036854775807) : bp .i64 n = n := by
  cases n with
  | ofNat m => exact bI (k := .i64) (m := m) (by simp only [gh]; have : (Int.ofNat m) = (m : Int) := rfl; omega)
  | negSucc m =>
    unfold bp
    have : ς (yL .i64) m = false := by
      cases hb : ς (yL .i64) m with
      | false => rfl
      | true => have := Ψ hb; simp only [yL] at this; have : Int.negSucc m = -(m : Int) - 1 := by omega
                omega
    simp only [this]
variable{w:Nat}
theorem bv_and {a b:Nat} (ha:a<2^w) (hb:b<2^w):(Qam w (a:Int) &&&Qam w (b:Int)).toNat=a &&&b:=by
 rw[Qa2,Qa2,BitVec.toNat_and,Qa6,Qa6,Qaa ha,Qaa hb]
theorem Tq {a b:Nat} (ha:a<2^w) (hb:b<2^w):(Qam w (a:Int)|||Qam w (b:Int)).toNat=a|||b:=by
 rw[Qa2,Qa2,BitVec.toNat_or,Qa6,Qa6,Qaa ha,Qaa hb]
variable{b:Int}
theorem eU {a:Int} (h:a=b):(a==b)=true:=by simp[h]
theorem gZ {a:Int} (h:a≠b):(a==b)=false:=by simp[h]
theorem eT {a:Int} (h:a≠b):(a !=b)=true:=by simp[h]
theorem gY {a:Int} (h:a=b):(a !=b)=false:=by simp[h]
variable{P:Pv} {ops:Array Oper} {rest:List Oper} {n:Nat} {loc:List D} {tmp:List (Nat×D)} {st:St} {Q:Fr→St→Prop} {ty:TypeId} {p:String} {a:Array Edge} {g:Option (Nat×Bool)} {dst:Nat}
theorem ab.len {t e:TypeId} {xo:Operand} (o6:ς n dst=true) (hg:aD ops ⟨n,loc,tmp⟩ ⟨some dst,.call ⟨.builtin .len,#[xo],#[t]⟩,ty,p,a,g⟩=some true) (hx:AN ⟨n,loc,tmp⟩ xo=x) (hR:Rows st s x es) (ht:P.cy t=some (.slice e)) (h:ab P ops rest ⟨n,loc,(dst,(.int .i64 (es.length:Nat)))::tmp⟩ st Q):ab P ops (⟨some dst,.call ⟨.builtin .len,#[xo],#[t]⟩,ty,p,a,g⟩::rest) ⟨n,loc,tmp⟩ st Q:=by
 refine ab.T o6 hg rfl (d:=.int .i64 (es.length:Nat)) (st1:=st) ?_ h;simp only[dN,ο,wt,hx];exact hR.MO ht
theorem ab.slice {t e:TypeId} {xo:Operand} {lo hi:Option Operand} (o6:ς n dst=true) (hg:aD ops ⟨n,loc,tmp⟩ ⟨some dst,.slice t xo lo hi none,ty,p,a,g⟩=some true) (hx:AN ⟨n,loc,tmp⟩ xo=x) (hR:Rows st s x es) (ht:P.cy t=some (.slice e)) (hs:cz P e=some s) (hb:bZ es.length (lo.map (AN ⟨n,loc,tmp⟩)) (hi.map (AN ⟨n,loc,tmp⟩))=some (l,r)) (rX:l≤r∧r≤es.length) (h:∀y,Rows st s y ((es.take r).drop l)→y.ref≤x.ref→ab P ops rest ⟨n,loc,(dst,y)::tmp⟩ st Q):ab P ops (⟨some dst,.slice t xo lo hi none,ty,p,a,g⟩::rest) ⟨n,loc,tmp⟩ st Q:=by
 obtain⟨y,h1,h2,h3⟩:=hR.slice ht hs hb rX;refine ab.T o6 hg rfl (d:=y) (st1:=st) ?_ (h y h2 h3);simp only[dN,hx,h1,δ]
theorem ab.append {N:Nat} {t1 t2 e:TypeId} {td:TypeDesc} {inf:TypeInfo} {xo yo:Operand} (o6:ς n dst=true) (hg:aD ops ⟨n,loc,tmp⟩ ⟨some dst,.call ⟨.builtin .append,#[xo,yo],#[t1,t2]⟩,ty,p,a,g⟩=some true) (hx:AN ⟨n,loc,tmp⟩ xo=x) (hy:AN ⟨n,loc,tmp⟩ yo=y) (hr:Acc N st s x es) (kD:Rows st s y ys) (h1:P.cy t1=some (.slice e)) (h2:P.cy t2=some td) (h3:fh td=false) (h4:P.info e=some inf) (h5:dc P e=some z) (h6:inf.size=s) (h7:z.length=s) (h8:inf.bytes≠0) (hN:N≤st.bs.length) (hf:st.flr≤N) (db:st.ro≤N) (hb:(es.length+ys.length)*inf.bytes≤1099511627776) (h:∀x' ah,Acc N ah s x' (es++ys)→Ex N st ah→x'.ref≤ah.bs.length→(∀k,k<st.bs.length→k+1≠x.ref→ah.bs[k]?=st.bs[k]?)→(x'.ref=x.ref∨st.bs.length<x'.ref)→ab P ops rest ⟨n,loc,(dst,x')::tmp⟩ ah Q):
  ab P ops (⟨some dst,.call ⟨.builtin .append,#[xo,yo],#[t1,t2]⟩,ty,p,a,g⟩::rest) ⟨n,loc,tmp⟩ st Q:=by
 obtain⟨x',ah,q1,q2,q3,q4,q5,q6⟩:=hr.append kD h1 h2 h3 h4 h5 h6 h7 h8 hN hf db hb;refine ab.T o6 hg rfl (d:=x') (st1:=ah) ?_ (h x' ah q2 q3 q4 q5 q6);simp only[dN,ο,wt,hx,hy];exact q1
theorem Rows.one {st:St} (hc:c.length=s):Rows (st.push (.mem 0 true c)) s (.win st.bs.length 0 0 1 s) [c]:=by
 have:=Rows.win (st:=st.push (.mem 0 true c)) (s:=s) st.bs.length 0 0 [c] true c (St.mem_of (by simp[Ω])) (by simp[hc]) fun i e hi=>by
  cases i with
  |zero=>simp at hi;subst hi;simp[←hc]
  |succ i=>simp at hi
 exact this
theorem Rows.ref {st:St} (h:Rows st s x es):x.ref≤st.bs.length:=by
 cases h with
 |nul=>simp[Γ]
 |sl es h=>simp[Γ]
 |win k aB off es ar c hm hl he=>
  simp only[Γ]
  rcases ω k st.bs.length with h'|h'
  ·exact h'
  ·simp only[Qbf,θ h'] at hm;cases hm
theorem Acc.ref {N:Nat} {st:St} (h:Acc N st s x es):x.ref≤st.bs.length:=h.rows.ref
end Go.V
namespace Go.V
theorem gN:∀(xs c:List D) (off:Nat),off+xs.length≤c.length→setMany c off xs=c.take off++xs++c.drop (off+xs.length)
 |[],c,off,h=>by simp[setMany]
 |x::xs,c,off,h=>by
  simp only[setMany];simp only[ξ] at h;rw[gN xs (c.set off x) (off+1) (by simp;omega)]
  have h1:(c.set off x).take (off+1)=c.take off++[x]:=by
   rw[List.take_set,List.take_add_one,List.getElem?_eq_getElem (by omega:off<c.length)];simp only[Option.toList_some];rw[Qaz _ _ (by simp;omega)];have:off-(c.take off).length=0:=by simp;omega
   rw[this];rfl
  have h2:(c.set off x).drop (off+1+xs.length)=c.drop (off+(xs.length+1)):=by
   rw[List.drop_set_of_lt z0];congr 1;omega
  rw[h1,h2];simp[ξ]
variable{k:Nat}
theorem AK {st:St} {b b':jC} (hk:k=st.bs.length):(⟨(st.push b).bs.set k b',(st.push b).flr,(st.push b).ro⟩:St)=st.push b':=by
 subst hk;simp[Ω,Qaz]
theorem ky (st:St) (b:jC):(st.push b).bs[st.bs.length]?=some b:=by simp[Ω]
variable{P:Pv} {ops:Array Oper} {rest:List Oper} {n:Nat} {loc:List D} {tmp:List (Nat×D)} {st:St} {Q:Fr→St→Prop} {ty:TypeId} {p:String} {a:Array Edge} {g:Option (Nat×Bool)} {dst:Nat}
variable{m:Nat}
theorem ab.makeSlice {t e:TypeId} {lo co:Operand} {k1 k2:IntKind} {inf:TypeInfo} {z:List D} (o6:ς n dst=true) (hg:aD ops ⟨n,loc,tmp⟩ ⟨some dst,.makeSlice t lo co,ty,p,a,g⟩=some true) (hl:AN ⟨n,loc,tmp⟩ lo=.int k1 (m:Nat)) (hc:AN ⟨n,loc,tmp⟩ co=.int k2 (m:Nat)) (ht:P.cy t=some (.slice e)) (hi:P.info e=some inf) (hz:dc P e=some z) (mz:z.length=inf.size) (hm:m*inf.bytes≤140737488355328) (Bt:m≤9223372036854775807) (h:ab P ops rest ⟨n,loc,(dst,.win st.bs.length 0 0 m inf.size)::tmp⟩ (st.push (.mem 0 true (fV m z))) Q):ab P ops (⟨some dst,.makeSlice t lo co,ty,p,a,g⟩::rest) ⟨n,loc,tmp⟩ st Q:=by
 refine ab.T o6 hg rfl (d:=.win st.bs.length 0 0 m inf.size) (st1:=st.push (.mem 0 true (fV m z))) ?_ h;simp only[dN,hl,hc,gR,ht,hi,hz,γ];rw[if_pos ⟨mz,by omega,by omega,by omega,by rw[←Int.natCast_mul];omega⟩]
 rfl
variable{aB:Nat}{ar:Bool}{c:List D}
theorem mL {off:Nat} {cs:List D} (hm:st.bs[k]?=some (.mem aB ar c)) (hl:off+cs.length≤c.length) (hw:st.jr k (refs cs)=true):st.wr k aB off cs=some {st with bs:=st.bs.set k (.mem aB ar (c.take off++cs++c.drop (off+cs.length)))}:=by
 simp only[St.wr,St.mem_of hm];rw[if_pos ⟨hl,hw⟩,gN _ _ _ hl]
variable{r:Nat}
theorem J5 {N:Nat} (hk:N≤k) (hf:st.flr≤N) (db:st.ro≤N):st.jr k r=true:=by
 simp only[Qbg,χ,Qac,decide_eq_true_eq];exact⟨by omega,.inl z0⟩
theorem oi (db:st.ro≤k):st.jr k 0=true:=by
 simp only[Qbg,χ,Qac,decide_eq_true_eq];exact⟨db,.inr (.inl z0)⟩
variable{s:Nat}
theorem ab.copy {t1 t2 e:TypeId} {X5 so:Operand} {off len:Nat} {y:D} {ys:List (List D)} (o6:ς n dst=true) (hg:aD ops ⟨n,loc,tmp⟩ ⟨some dst,.call ⟨.builtin .copy,#[X5,so],#[t1,t2]⟩,ty,p,a,g⟩=some true) (hd:AN ⟨n,loc,tmp⟩ X5=.win k aB off len s) (hy:AN ⟨n,loc,tmp⟩ so=y) (hR:Rows st s y ys) (ht:P.cy t1=some (.slice e)) (hs:cz P e=some s) (hm:st.bs[k]?=some (.mem aB ar c)) (hl:off+len*s≤c.length) (hw:st.jr k (refs (ys.flatten.take (min ys.length len*s)))=true) (h:ab P ops rest ⟨n,loc,(dst,.int .i64 (min ys.length len:Nat))::tmp⟩ {st with bs:=st.bs.set k (.mem aB ar (c.take off++ys.flatten.take (min ys.length len*s)++c.drop (off+min ys.length len*s)))} Q):
  ab P ops (⟨some dst,.call ⟨.builtin .copy,#[X5,so],#[t1,t2]⟩,ty,p,a,g⟩::rest) ⟨n,loc,tmp⟩ st Q:=by
 have B_:∀e∈ys,e.length=s:=fun e he=>by
  obtain⟨i,hi⟩:=Qa4 he;exact hR.vO i e hi
 have mi:=cX B_;have Bs:min ys.length len*s≤ys.length*s:=π s (Nat.min_le_left _ _);have Y_:min ys.length len*s≤len*s:=π s (Nat.min_le_right _ _);have mA:(ys.flatten.take (min ys.length len*s)).length=min ys.length len*s:=by rw[Qa3,mi];omega
 refine ab.T o6 hg rfl (d:=.int .i64 (min ys.length len:Nat)) (st1:={st with bs:=st.bs.set k (.mem aB ar (c.take off++ys.flatten.take (min ys.length len*s)++c.drop (off+min ys.length len*s)))}) ?_ h;simp only[dN,ο,wt,hd,hy,bu,xU,ht,hs,γ,hR.row];rw[if_neg (by simp[mi])];simp only[ne_eq,not_true_eq_false,if_false];have:=mL (st:=st) hm (cs:=ys.flatten.take (min ys.length len*s)) (off:=off) (by rw[mA];omega) hw;rw[this,mA];rfl
variable{ao:Operand}
theorem ab.store {fr:Fr} {t:TypeId} {vo:Operand} {off:Nat} {v:D} {cs:List D} (hg:aD ops fr ⟨none,.store t ao vo,ty,p,a,g⟩=some true) (ha:fr.ev ao=.ptr k aB off) (hv:fr.ev vo=v) (kh:v.cells?=some cs) (hs:cz P t=some cs.length) (hm:st.bs[k]?=some (.mem aB ar c)) (hl:off+cs.length≤c.length) (hw:st.jr k (refs cs)=true) (h:ab P ops rest fr {st with bs:=st.bs.set k (.mem aB ar (c.take off++cs++c.drop (off+cs.length)))} Q):ab P ops (⟨none,.store t ao vo,ty,p,a,g⟩::rest) fr st Q:=by
 refine ab.N hg rfl (d:=.tup []) (st1:=_) ?_ h;simp only[dN,ha,hv,lU,kh,hs];rw[if_pos trivial,mL hm hl hw];rfl
variable{d:D}
theorem ab.load {t:TypeId} {off:Nat} (o6:ς n dst=true) (hg:aD ops ⟨n,loc,tmp⟩ ⟨some dst,.load t ao,ty,p,a,g⟩=some true) (ha:AN ⟨n,loc,tmp⟩ ao=.ptr k aB off) (hm:st.bs[k]?=some (.mem aB ar c)) (hd:dY P t (c.drop off)=some d) (h:ab P ops rest ⟨n,loc,(dst,d)::tmp⟩ st Q):ab P ops (⟨some dst,.load t ao,ty,p,a,g⟩::rest) ⟨n,loc,tmp⟩ st Q:=by
 refine ab.T o6 hg rfl (d:=d) (st1:=st) ?_ h;simp only[dN,ha,iM,St.mem_of hm,γ,hd,δ]
variable{io:Operand}
theorem ab.next {pos:Nat} {b:List UInt8} (o6:ς n dst=true) (hg:aD ops ⟨n,loc,tmp⟩ ⟨some dst,.next io true,ty,p,a,g⟩=some true) (hx:AN ⟨n,loc,tmp⟩ io=.ptr k 0 0) (hm:st.bs[k]?=some (.iter b pos)) (hp:pos<b.length) (hw:st.jr k 0=true) (h:ab P ops rest ⟨n,loc,(dst,.tup [.bool true,.int .i64 (pos:Nat),.int .i32 ((Utf8.decode ⟨b.toArray⟩ pos).1:Nat)])::tmp⟩ {st with bs:=st.bs.set k (.iter b (pos+(Utf8.decode ⟨b.toArray⟩ pos).2))} Q):ab P ops (⟨some dst,.next io true,ty,p,a,g⟩::rest) ⟨n,loc,tmp⟩ st Q:=by
 refine ab.T o6 hg rfl (d:=.tup [.bool true,.int .i64 (pos:Nat),.int .i32 ((Utf8.decode ⟨b.toArray⟩ pos).1:Nat)]) (st1:={st with bs:=st.bs.set k (.iter b (pos+(Utf8.decode ⟨b.toArray⟩ pos).2))}) ?_ h;simp only[dN,hx,xi,hm,if_pos hp,hw,if_true]
variable{v:Nat}
theorem ab.lv {t e:TypeId} {xo:Operand} {lo hi:Option Operand} {off l:Nat} (o6:ς n dst=true) (hg:aD ops ⟨n,loc,tmp⟩ ⟨some dst,.slice t xo lo hi none,ty,p,a,g⟩=some true) (hx:AN ⟨n,loc,tmp⟩ xo=.ptr k v off) (ht:P.cy t=some (.array m e)) (hs:cz P e=some s) (hm:st.bs[k]?=some (.mem v ar c)) (hl:off+m*s≤c.length) (hb:bZ m (lo.map (AN ⟨n,loc,tmp⟩)) (hi.map (AN ⟨n,loc,tmp⟩))=some (l,r)) (h:ab P ops rest ⟨n,loc,(dst,.win k v (off+l*s) (r-l) s)::tmp⟩ st Q):ab P ops (⟨some dst,.slice t xo lo hi none,ty,p,a,g⟩::rest) ⟨n,loc,tmp⟩ st Q:=by
 refine ab.T o6 hg rfl (d:=.win k v (off+l*s) (r-l) s) (st1:=st) ?_ h;simp only[dN,hx,fM,ht,hs,γ,St.mem_of hm,if_pos hl,hb,δ]
theorem ab.NT {t e:TypeId} {xo:Operand} {off:Nat} {kk:IntKind} {i:Nat} (o6:ς n dst=true) (hg:aD ops ⟨n,loc,tmp⟩ ⟨some dst,.indexAddr t xo io,ty,p,a,g⟩=some true) (hx:AN ⟨n,loc,tmp⟩ xo=.ptr k v off) (hi:AN ⟨n,loc,tmp⟩ io=.int kk (i:Nat)) (ht:P.cy t=some (.array m e)) (hs:cz P e=some s) (hlt:i<m) (h:ab P ops rest ⟨n,loc,(dst,.ptr k v (off+i*s))::tmp⟩ st Q):ab P ops (⟨some dst,.indexAddr t xo io,ty,p,a,g⟩::rest) ⟨n,loc,tmp⟩ st Q:=by
 refine ab.T o6 hg rfl (d:=.ptr k v (off+i*s)) (st1:=st) ?_ h;simp only[dN,hx,hi,bX,ht,hs,γ];rw[if_pos ⟨by omega,by omega⟩];rfl
structure GJ (N k:Nat) (st ah:St):Prop where
 low:∀i,i<N→i≠k→ah.bs[i]?=st.bs[i]?
 len:st.bs.length≤ah.bs.length
 flr:ah.flr=st.flr
 ro:ah.ro=st.ro
variable{b:St}
theorem GJ.of {N:Nat} {a c:St} (h:GJ N k a b) (g:Ex N b c):GJ N k a c:=
 ⟨fun i hi hk=>(g.low i hi).trans (h.low i hi hk),Qa7 h.len g.len,g.flr.trans h.flr,g.ro.trans h.ro⟩
theorem GJ.put {N:Nat} {a:St} (h:GJ N k a b) (bx:jC):GJ N k a ⟨b.bs.set k bx,b.flr,b.ro⟩:=
 ⟨fun i hi hk=>by simp only;rw[ε (fun e=>hk e.symm)];exact h.low i hi hk,by simp only[Θ];exact h.len,h.flr,h.ro⟩
theorem GJ.take {a:St} (h:GJ a.bs.length k a b) (hk:k<a.bs.length) {bx:jC} (hb:b.bs[k]?=some bx):b.bs.take a.bs.length=a.bs.set k bx:=by
 apply Qao;intro i;rw[Qa8]
 by_cases hi:i<a.bs.length
 ·rw[if_pos hi]
  by_cases he:i=k
  ·subst he;rw[hb,ι hk]
  ·rw[h.low i hi he,ε (fun e=>he e.symm)]
 ·rw[if_neg hi,θ (by simp;omega)]
theorem Be {kn:Bool} {st st1:St} {d':D} {bs':List jC} (h1:st1.bs.take st.bs.length=bs') (hd:ba st1 st.bs.length kn 16 d=some d'):dj .rw kn st st1 d=some (d',⟨bs',st.flr,st.ro⟩):=by
 simp only[dj,hd,h1]
end Go.V
namespace Go.V
variable{P:Pv} {ops:Array Oper} {rest:List Oper} {n:Nat} {loc:List D} {tmp:List (Nat×D)} {st:St} {Q:Fr→St→Prop} {ty:TypeId} {p:String} {a:Array Edge} {g:Option (Nat×Bool)} {dst:Nat}
end Go.V
namespace Go.V
structure a8 where
 K:Nat→Prop
 P:St→Prop
 loc:∀{st ah:St},(∀k,K k→ah.bs[k]?=st.bs[k]?)→P st→P ah
def a8.box (k:Nat) (b:jC):a8:=⟨fun j=>j=k,fun st=>st.bs[k]?=some b,fun h p=>(h k rfl).trans p⟩
inductive i7 (st:St) (s:Nat):D→List (List D)→Prop where
 |nul:i7 st s .nul []
 |win (k aB off:Nat) (es:List (List D)) (c:List D) (hm:st.bs[k]?=some (.mem aB true c)) (hl:off+es.length*s≤c.length) (hc:(c.drop off).take (es.length*s)=es.flatten) (he:∀e∈es,e.length=s):i7 st s (.win k aB off es.length s) es
variable{ah:St}{s:Nat}{x:D}{es:List (List D)}
theorem i7.move {st:St} (h:∀k,x.ref=k+1→ah.bs[k]?=st.bs[k]?) (p:i7 st s x es):i7 ah s x es:=by
 cases p with
 |nul=>exact .nul
 |win k aB off es c hm hl hc he=>exact .win k aB off es c ((h k (by simp only[Γ])).trans hm) hl hc he
def a8.aC (x:D) (s:Nat) (es:List (List D)):a8:=⟨fun j=>x.ref=j+1,fun st=>i7 st s x es,fun h p=>i7.move h p⟩
theorem i7.vO {st:St} (p:i7 st s x es):∀e∈es,e.length=s:=by
 cases p with
 |nul=>intro e he;cases he
 |win k aB off es c hm hl hc he=>exact he
theorem i7.rows {st:St} (p:i7 st s x es):Rows st s x es:=by
 cases p with
 |nul=>exact .nul
 |win k aB off es c hm hl hc he=>
  refine .win k aB off es true c (St.mem_of hm) hl fun i e hi=>?_
  have hil:i<es.length:=by
   rcases ω i es.length with h'|h'
   ·exact h'
   ·rw[θ h'] at hi;cases hi
  have h1:=oa he i e hi;rw[←hc,Φ,Qa1,φ] at h1;have h2:(i+1)*s≤es.length*s:=π s hil;rw[τ,IS] at h2
  rwa [BY z0] at h1
structure Has (N:Nat) (S st:St) (H:List a8):Prop where
 ex:Ex N S st
 hN:N≤S.bs.length
 db:S.ro≤N
 ok:∀(i:Nat) e,H[i]?=some e→e.P st∧∀k,e.K k→N≤k∧k<st.bs.length
 dis:∀(i j:Nat) a b,i≠j→H[i]?=some a→H[j]?=some b→∀k,a.K k→b.K k→False
theorem Has.start {N:Nat} {S:St} (hN:N≤S.bs.length) (db:S.ro≤N):Has N S S []:=
 ⟨Ex.refl _ _,hN,db,fun i e h=>by simp at h,fun i j a b _ h=>by simp at h⟩
theorem Has.len {N:Nat} {S st:St} {H:List a8} (h:Has N S st H):S.bs.length≤st.bs.length:=h.ex.len
variable{j:Nat}{e':a8}
theorem Has.D2 {N:Nat} {S st:St} {H:List a8} {e:a8} (h:Has N S st H) (hj:H[j]?=some e) (Dd:∀k,k<st.bs.length→¬e.K k→ah.bs[k]?=st.bs[k]?) (hlen:st.bs.length≤ah.bs.length) (hf:ah.flr=st.flr) (hr:ah.ro=st.ro) (hP:e'.P ah) (hK:∀k,e'.K k→e.K k∨st.bs.length≤k) (QK:∀k,e'.K k→k<ah.bs.length):Has N S ah (H.set j e'):=by
 have nX:j<H.length:=by
  rcases ω j H.length with h'|h'
  ·exact h'
  ·rw[θ h'] at hj;cases hj
 have hl:=h.ex.len;have hN:=h.hN;refine⟨⟨fun k hk=>?_,Qa7 hl hlen,hf.trans h.ex.flr,hr.trans h.ex.ro⟩,h.hN,h.db,fun i e0 hi=>?_,fun i i' a b hii ha hb k pO jj=>?_⟩
 ·rw[Dd k z0 fun mg=>by have:=((h.ok j e hj).2 k mg).1;omega];exact h.ex.low k hk
 ·by_cases hij:i=j
  ·subst hij;rw[ι nX] at hi;cases hi;refine⟨hP,fun k hk=>⟨?_,QK k hk⟩⟩
   rcases hK k hk with h1|h1
   ·exact((h.ok i e hj).2 k h1).1
   ·omega
  ·rw[ε (fun e=>hij e.symm)] at hi;obtain⟨h1,h2⟩:=h.ok i e0 hi;refine⟨e0.loc (fun k hk=>Dd k (h2 k hk).2 fun mg=>h.dis i j e0 e hij hi hj k hk mg) h1,fun k hk=>⟨(h2 k hk).1,Qa9 (h2 k hk).2 hlen⟩⟩
 ·have key:∀i a,i≠j→(H.set j e')[i]?=some a→a.K k→e'.K k→False:=by
   intro i a hij ha pO Rv;rw[ε (fun e=>hij e.symm)] at ha
   rcases hK k Rv with h1|h1
   ·exact h.dis i j a e hij ha hj k pO h1
   ·have:=((h.ok i a ha).2 k pO).2;omega
  by_cases hij:i=j
  ·subst hij;have eW:=hb;rw[ι nX] at ha;cases ha;exact key i' b (fun e=>hii e.symm) hb jj pO
  ·by_cases RI:i'=j
   ·subst RI;rw[ι nX] at hb;cases hb;exact key i a hij ha pO jj
   ·rw[ε (fun e=>hij e.symm)] at ha;rw[ε (fun e=>RI e.symm)] at hb;exact h.dis i i' a b hii ha hb k pO jj
theorem Has.add {N:Nat} {S st:St} {H:List a8} (h:Has N S st H) (Dd:∀k,k<st.bs.length→ah.bs[k]?=st.bs[k]?) (hlen:st.bs.length≤ah.bs.length) (hf:ah.flr=st.flr) (hr:ah.ro=st.ro) (hP:e'.P ah) (hK:∀k,e'.K k→st.bs.length≤k∧k<ah.bs.length):Has N S ah (e'::H):=by
 have hl:=h.ex.len;have hN:=h.hN;refine⟨⟨fun k hk=>?_,Qa7 hl hlen,hf.trans h.ex.flr,hr.trans h.ex.ro⟩,h.hN,h.db,fun i e0 hi=>?_,fun i i' a b hii ha hb k pO jj=>?_⟩
 ·rw[Dd k z0];exact h.ex.low k hk
 ·cases i with
  |zero=>
   simp only[IN,OF.injEq] at hi;subst hi;exact⟨hP,fun k hk=>⟨by have:=(hK k hk).1;omega,(hK k hk).2⟩⟩
  |succ i=>
   rw[ν] at hi;obtain⟨h1,h2⟩:=h.ok i e0 hi;exact⟨e0.loc (fun k hk=>Dd k (h2 k hk).2) h1,fun k hk=>⟨(h2 k hk).1,Qa9 (h2 k hk).2 hlen⟩⟩
 ·cases i with
  |zero=>
   simp only[IN,OF.injEq] at ha;subst ha
   cases i' with
   |zero=>exact hii rfl
   |succ i'=>
    rw[ν] at hb;have:=((h.ok i' b hb).2 k jj).2;have:=(hK k pO).1;omega
  |succ i=>
   rw[ν] at ha
   cases i' with
   |zero=>
    simp only[IN,OF.injEq] at hb;subst hb;have:=((h.ok i a ha).2 k pO).2;have:=(hK k jj).1;omega
   |succ i'=>
    rw[ν] at hb;exact h.dis i i' a b (fun e=>hii (by rw[e])) ha hb k pO jj
theorem Has.sub {N:Nat} {S st:St} {H H':List a8} (h:Has N S st H) (f:Nat→Nat) (hf:∀i j,f i=f j→i=j) (hs:∀i e,H'[i]?=some e→H[f i]?=some e):Has N S st H':=
 ⟨h.ex,h.hN,h.db,fun i e hi=>h.ok _ e (hs i e hi),fun i j a b hij ha hb=>h.dis (f i) (f j) a b (fun e=>hij (hf i j e)) (hs i a ha) (hs j b hb)⟩
theorem Has.erase {N:Nat} {S st:St} {H:List a8} (h:Has N S st H) (j:Nat):Has N S st (H.eraseIdx j):=by
 refine h.sub (fun i=>if i<j then i else i+1) (fun a b e=>?_) fun i e hi=>?_
 ·show a=b;have e':(if a<j then a else a+1)=(if b<j then b else b+1):=e
  split at e'<;>split at e'<;>omega
 ·show H[if i<j then i else i+1]?=some e;rw[Qa0] at hi
  split at hi<;>rename_i h'<;>simp[h',hi]
theorem Has.take {N:Nat} {S st:St} {H:List a8} (h:Has N S st H) (n:Nat):Has N S st (H.take n):=by
 refine h.sub id (fun a b e=>e) fun i e hi=>?_;rw[Qa8] at hi;split at hi;exact hi;cases hi
theorem Has.drop {N:Nat} {S st:St} {H:List a8} (h:Has N S st H) (n:Nat):Has N S st (H.drop n):=by
 refine h.sub (fun i=>n+i) (fun a b e=>by omega) fun i e hi=>?_;rw[Qb2] at hi;exact hi
theorem Has.front {N:Nat} {S st:St} {H:List a8} (h:Has N S st H) {e:a8} (hj:H[j]?=some e):Has N S st (e::H.eraseIdx j):=by
 refine h.sub (fun i=>if i=0 then j else if i-1<j then i-1 else i) (fun a b e=>?_) fun i e' hi=>?_
 ·have e':(if a=0 then j else if a-1<j then a-1 else a)=(if b=0 then j else if b-1<j then b-1 else b):=e
  repeat' split at e'
  all_goals omega
 ·show H[if i=0 then j else if i-1<j then i-1 else i]?=some e'
  cases i with
  |zero=>rw[if_pos rfl];simp only[IN,OF.injEq] at hi;subst hi;exact hj
  |succ i=>
   rw[if_neg z0,Nat.add_sub_cancel];rw[ν,Qa0] at hi
   split at hi<;>rename_i h'<;>simp[h',hi]
theorem Has.back {N:Nat} {S st:St} {H:List a8} {e:a8} (h:Has N S st (e::H.eraseIdx j)) (hj:j<H.length):Has N S st (H.set j e):=by
 refine h.sub (fun i=>if i=j then 0 else if i<j then i+1 else i) (fun a b e=>?_) fun i e' hi=>?_
 ·have e':(if a=j then 0 else if a<j then a+1 else a)=(if b=j then 0 else if b<j then b+1 else b):=e
  repeat' split at e'
  all_goals omega
 ·show(e::H.eraseIdx j)[if i=j then 0 else if i<j then i+1 else i]?=some e'
  by_cases hij:i=j
  ·subst hij;rw[ι hj] at hi;rw[if_pos rfl];simpa using hi
  ·rw[ε (fun e=>hij e.symm)] at hi;rw[if_neg hij]
   by_cases hlt:i<j
   ·rw[if_pos hlt,ν,Qa0,if_pos hlt];exact hi
   ·rw[if_neg hlt]
    obtain⟨i',rfl⟩:∃i',i=i'+1:=⟨i-1,by omega⟩
    rw[ν,Qa0,if_neg z0];exact hi
theorem Has.fG {N:Nat} {S st:St} {H:List a8} (h:Has N S st H) (s:Nat):Has N S st (.aC .nul s []::H):=
 h.add (fun _ _=>rfl) (υ _) rfl rfl .nul fun k hk=>by simp only[a8.aC,Γ] at hk;omega
theorem Has.own {N:Nat} {S st:St} {H:List a8} (h:Has N S st H) (hj:H[j]?=some (.aC x s es)):i7 st s x es:=(h.ok j _ hj).1
theorem Has.rows {N:Nat} {S st:St} {H:List a8} (h:Has N S st H) (hj:H[j]?=some (.aC x s es)):Rows st s x es:=(h.own hj).rows
variable{k:Nat}
theorem Has.at {N:Nat} {S st:St} {H:List a8} (h:Has N S st H) {b:jC} (hj:H[j]?=some (.box k b)):st.bs[k]?=some b:=(h.ok j _ hj).1
theorem Has.ge {N:Nat} {S st:St} {H:List a8} (h:Has N S st H) {b:jC} (hj:H[j]?=some (.box k b)):N≤k∧k<st.bs.length:=(h.ok j _ hj).2 k rfl
def Arg (N:Nat) (S:St) (s:Nat) (x:D) (es:List (List D)):Prop:=Rows S s x es∧x.ref≤N
theorem Arg.rows {N:Nat} {S st:St} {H:List a8} (hx:Arg N S s x es) (h:Has N S st H):Rows st s x es:=hx.1.ex h.ex hx.2
theorem Arg.of {st S:St} (hx:Rows st s x es) (hS:S.bs=st.bs):Arg st.bs.length S s x es:=⟨hx.bs hS,hx.ref⟩
theorem Arg.pure {N:Nat} {S:St} {es:List D} {rs:List (List D)} (hx:∀st,Rows st s (.sl es) rs):Arg N S s (.sl es) rs:=⟨hx S,by simp[Γ]⟩
theorem iE {N:Nat} {S st:St} {H:List a8} (h:Has N S st H) {cs:List D} (hk:N≤k) (hw:S.flr≤N∨refs cs=0):st.jr k (refs cs)=true:=by
 have h1:=h.ex.ro;have h2:=h.ex.flr;have h3:=h.db;simp only[Qbg,χ,Qac,decide_eq_true_eq];refine⟨by omega,?_⟩
 rcases hw with hw|hw
 ·exact .inl z0
 ·exact .inr (.inl z0)
theorem Has.rj {N:Nat} {S st:St} {H:List a8} (h:Has N S st H) {aB:Nat} {b b':jC} (hj:H[j]?=some (.box k b)):Has N S ⟨st.bs.set k b',st.flr,st.ro⟩ (H.set j (.box k b')):=by
 have hk:=(h.ge hj).2;refine h.D2 hj (fun i hi hne=>?_) (by simp) rfl rfl ?_ (fun i hi=>.inl hi) fun i hi=>?_
 ·simp only;rw[ε (fun e=>hne e.symm)]
 ·show(st.bs.set k b')[k]?=_;rw[ι hk]
 ·cases hi;simpa using hk
theorem Has.pt {N:Nat} {S st:St} {H:List a8} (h:Has N S st H) (b:jC):Has N S (st.push b) (.box st.bs.length b::H):=by
 refine h.add (fun i hi=>?_) (by simp[Ω]) rfl rfl ?_ fun i hi=>?_
 ·simp only[Ω];rw[ρ hi]
 ·exact ky st b
 ·cases hi;simp[Ω]
variable{m:Nat}
theorem Has.tN {N:Nat} {S st:St} {H:List a8} (h:Has N S st H) {cs:List D} (hm:es.length=m) (hc:es.flatten=cs) (he:∀e∈es,e.length=s):Has N S (st.push (.mem 0 true cs)) (.aC (.win st.bs.length 0 0 m s) s es::H):=by
 subst hm hc;refine h.add (fun i hi=>?_) (by simp[Ω]) rfl rfl ?_ fun i hi=>?_
 ·simp only[Ω];rw[ρ hi]
 ·have mi:=cX he;exact i7.win _ 0 0 es es.flatten (ky st _) (by rw[mi];omega) (by rw[Pd,←mi,Pe]) he
 ·simp only[a8.aC,Γ] at hi;simp only[Ω,ψ,ξ,IT];omega
theorem mQ:∀(xs c:List D) (off:Nat),(setMany c off xs).length=c.length
 |[],c,off=>rfl
 |x::xs,c,off=>by simp only[setMany];rw[mQ xs];simp
theorem te {s:Nat}:∀{es:List (List D)} {i:Nat} {e e':List D},(∀e∈es,e.length=s)→es[i]?=some e→e'.length=s→(es.set i e').flatten=es.flatten.take (i*s)++e'++es.flatten.drop (i*s+s)
 |[],i,e,e',_,hi,_=>by simp at hi
 |x::es,0,e,e',h,hi,he=>by
  simp at hi;subst hi;have:=h x (κ ..);simp[η,Qav this]
 |x::es,i+1,e,e',h,hi,he=>by
  have hx:=h x (κ ..);have ih:=te (s:=s) (es:=es) (i:=i) (e:=e) (e':=e') (fun y hy=>h y (μ _ hy)) (by simpa using hi) he;rw[ζ,Δ,ih,Δ,τ,IS,Qaf (i*s) s,←hx,List.take_length_add_append,Qbb,Qax];simp only[AI];rw[Qaf (i*x.length) x.length]
variable{aB i o:Nat}
theorem Has.Ee {N:Nat} {S st:St} {H:List a8} (h:Has N S st H) {off len:Nat} {e cs:List D} (hj:H[j]?=some (.aC (.win k aB off len s) s es)) (hi:es[i]?=some e) (hl:o+cs.length≤s) (hw:S.flr≤N∨refs cs=0):
  ∃ah,st.wr k aB (off+i*s+o) cs=some ah∧Has N S ah (H.set j (.aC (.win k aB off len s) s (es.set i (setMany e o cs)))):=by
 have hk:=(h.ok j _ hj).2 k (by simp only[a8.aC,Γ]);have hown:=h.own hj
 cases hown with
 |win k aB off es c hm hle hc he=>
  have hil:i<es.length:=by
   rcases ω i es.length with h'|h'
   ·exact h'
   ·rw[θ h'] at hi;cases hi
  have tQ:=he e (v8 hi);have h2:(i+1)*s≤es.length*s:=π s hil;rw[τ,IS] at h2;refine⟨_,mL hm z0 (iE h hk.1 hw),?_⟩;refine h.D2 hj (fun n hn hne=>?_) (by simp) rfl rfl ?_ (fun n hn=>.inl hn) fun n hn=>?_
  ·simp only;rw[ε (fun e=>hne (by simp only[a8.aC,Γ];omega))]
  ·have IY:∀e'∈es.set i (setMany e o cs),e'.length=s:=by
    intro e' tv
    rcases List.mem_or_eq_of_mem_set tv with h'|h'
    ·exact he e' h'
    ·rw[h',mQ];exact tQ
   have mi:es.flatten.length=es.length*s:=cX he;have:=i7.win (st:=⟨st.bs.set k (.mem aB true (c.take (off+i*s+o)++cs++c.drop (off+i*s+o+cs.length))),st.flr,st.ro⟩) (s:=s) k aB off (es.set i (setMany e o cs)) (c.take (off+i*s+o)++cs++c.drop (off+i*s+o+cs.length))
    (by simp only;rw[ι hk.2]) (by simp;omega) ?_ IY
   ·rw[Θ] at this;exact this
   ·rw[Θ,te he hi (by rw[mQ];exact tQ),gN cs e o z0]
    have e1:(c.take (off+i*s+o)++cs++c.drop (off+i*s+o+cs.length)).drop off=(c.drop off).take (i*s+o)++cs++(c.drop off).drop (i*s+o+cs.length):=by
     rw[AI,List.drop_append_of_le_length (by simp;omega),Φ,AI,φ]
     congr 3<;>omega
    rw[e1]
    have e2:(c.drop off).take (i*s+o)=es.flatten.take (i*s)++e.take o:=by
     have:(c.drop off).take (i*s+o)=es.flatten.take (i*s+o):=by
      rw[←hc,Qa1,BY z0]
     rw[this,Qb8]
     congr 1
     have:=oa he i e hi;rw[←this,Qa1,BY z0]
    have e3:(Qbe (i*s+o+cs.length) (c.drop off)).take (es.length*s-(i*s+o+cs.length))=e.drop (o+cs.length)++es.flatten.drop (i*s+s):=by
     have:(Qbe (i*s+o+cs.length) (c.drop off)).take (es.length*s-(i*s+o+cs.length))=es.flatten.drop (i*s+o+cs.length):=by
      rw[←hc,Φ]
     rw[this];have h4:=oa he i e hi;rw[←h4,Φ];have:es.flatten.drop (i*s+o+cs.length)=(es.flatten.drop (i*s+o+cs.length)).take (s-(o+cs.length))++(es.flatten.drop (i*s+o+cs.length)).drop (s-(o+cs.length)):=(Qag ..).symm;rw[this,φ,φ]
     congr 2
     ·congr 1;omega
     ·omega
    rw[e2]
    have M6:(es.flatten.take (i*s)++e.take o++cs).length=i*s+o+cs.length:=by
     simp only[ψ,Qa3,mi,tQ];omega
    rw[List.take_append,M6,e3,Qab (by rw[M6];omega)];simp[AI]
  ·simp only[a8.aC,Γ] at hn;simp only[Θ];omega
theorem aJ {α:Type} {a:α} {l:List α}:(a::l)[0]?=some a:=rfl
theorem bt {α:Type} {a b:α} {l:List α}:(a::b::l)[1]?=some b:=rfl
theorem cU {α:Type} {a b c:α} {l:List α}:(a::b::c::l)[2]?=some c:=rfl
theorem di {α:Type} {a b c d:α} {l:List α}:(a::b::c::d::l)[3]?=some d:=rfl
theorem ie {α:Type} {a b c d e:α} {l:List α}:(a::b::c::d::e::l)[4]?=some e:=rfl
theorem ke {α:Type} {a b c d e f:α} {l:List α}:(a::b::c::d::e::f::l)[5]?=some f:=rfl
theorem o7 {α:Type} {a b c d e f g:α} {l:List α}:(a::b::c::d::e::f::g::l)[6]?=some g:=rfl
theorem oX {α:Type} {a b c d e f g h:α} {l:List α}:(a::b::c::d::e::f::g::h::l)[7]?=some h:=rfl
def EB (t:Nat):List (Nat×D)→Option D
 |[]=>none
 |(u,d)::l=>match Qb4 t u with
  |true=>some d
  |false=>EB t l
def H0:Value→Option D
 | .int k n=>some (.int k n)
 | .bool b=>some (.bool b)
 | .string s=>some (.str s.data.toList)
 | .slice none 0 0=>some .nul
 | .pointer none=>some .pnil
 | .nilFunc=>some .nilfn
 | .nilIface=>some .nilif
 |_=>none
def Fr.ZB (f:Fr):Operand→Option D
 | .tmp t=>match ς f.n t with
  |false=>f.loc[t]?
  |true=>EB t f.tmp
 | .const v=>H0 v
 | .func g=>some (.fn g [])
 | .global _=>none
theorem u_ {t:Nat} {d:D}:∀{l:List (Nat×D)},EB t l=some d→look t l=d
 |(u,e)::l,h=>by
  unfold EB at h;unfold look
  split at h
  ·rename_i hb;cases h;simp only[hb]
  ·rename_i hb;simp only[hb];exact u_ h
theorem Es {d e:D}:∀{l:List D} {i:Nat},l[i]?=some d→nth e l i=d
 |x::l,0,h=>by simpa[nth] using h
 |x::l,i+1,h=>by rw[ν] at h;exact Es (l:=l) h
 |[],i,h=>by simp at h
variable{d:D}
theorem ev {fr:Fr} {o:Operand} (h:fr.ZB o=some d):fr.ev o=d:=by
 unfold Fr.ZB at h;unfold AN
 split at h
 ·unfold Fr.get
  split at h
  ·rename_i hb;simp only[hb];exact Es h
  ·rename_i hb;simp only[hb];exact u_ h
 ·unfold H0 at h
  split at h<;>cases h<;>rfl
 ·cases h;rfl
 ·cases h
def lj (st:St) (p:D) (r:List D):Prop:=
 (∃k aB off ar c,p=.ptr k aB off∧st.fX k aB=some (ar,c)∧(c.drop off).take r.length=r)∨∃c,p=.ep c∧c.take r.length=r
def tD (x:D) (s:Nat) (i o:Nat) (p:D):Prop:=∃k aB off len,x=.win k aB off len s∧p=.ptr k aB (off+i*s+o)
variable{r:List D}
theorem nL {P:Pv} {t:TypeId} {c:List D} (hc:c.take r.length=r) (h:dY P t r=some d):dY P t c=some d:=by
 have hlen:r.length≤c.length:=by have:=congrArg List.length hc;simp at this;omega
 unfold dY at h⊢
 cases hu:P.cy t with
 |none=>rw[hu] at h;cases h
 |some u=>
  rw[hu] at h;have key:∀n,n≤r.length→c.take n=r.take n:=fun n hn=>by rw[←hc,Qa1,BY hn]
  cases u with
  |struct f=>
   simp only at h⊢
   cases hs:cz P t with
   |none=>rw[hs] at h;cases h
   |some n=>
    rw[hs] at h;simp only[γ] at h⊢
    split at h
    ·rename_i hn;rw[if_pos z0,key n hn];exact h
    ·cases h
  |array m f=>
   simp only at h⊢
   cases hs:cz P t with
   |none=>rw[hs] at h;cases h
   |some n=>
    rw[hs] at h;simp only[γ] at h⊢
    split at h
    ·rename_i hn;rw[if_pos z0,key n hn];exact h
    ·cases h
  |_=>
   simp only at h⊢
   cases r with
   |nil=>cases h
   |cons y r=>
    cases c with
    |nil=>simp at hlen
    |cons z c=>
     simp only[ξ,List.take_succ_cons,List.cons.injEq] at hc;rw[←h];simp[hc.1]
variable{p:D}
theorem lj.load {P:Pv} {st:St} (h:lj st p r) {t:TypeId} (hd:dY P t r=some d):iM P t p st=some d:=by
 rcases h with⟨k,aB,off,ar,c,rfl,hm,hc⟩|⟨c,rfl,hc⟩
 ·simp only[iM,hm,γ];exact nL hc hd
 ·simp only[iM];exact nL hc hd
variable{fields:Array Field}{fd:Field}
theorem lj.field {P:Pv} {st:St} (h:lj st p r) {t:TypeId} {f:Nat} (ht:P.cy t=some (.struct fields)) (hf:fields[f]?=some fd) (hm:cz P fd.type=some m) (j6:m≠0):
  ∃p',fQ P t p f=some p'∧lj st p' (r.drop fd.offset):=by
 have key:∀c:List D,c.take r.length=r→(c.drop fd.offset).take (r.drop fd.offset).length=r.drop fd.offset:=by
  intro c hc;rw[Qar,←Φ,hc]
 rcases h with⟨k,aB,off,ar,c,rfl,Ca,hc⟩|⟨c,rfl,hc⟩
 ·refine⟨.ptr k aB (off+fd.offset),?_,.inl ⟨k,aB,off+fd.offset,ar,c,rfl,Ca,?_⟩⟩
  ·simp only[fQ,ht,hf,γ,hm];rw[if_neg (by simp only[OF.injEq];exact j6)]
  ·rw[←φ];exact key _ hc
 ·refine⟨.ep (c.drop fd.offset),?_,.inr ⟨_,rfl,key _ hc⟩⟩;simp only[fQ,ht,hf,γ,hm];rw[if_neg (by simp only[OF.injEq];exact j6)]
theorem Rows.Ul {P:Pv} {st:St} (h:Rows st s x es) {t e:TypeId} (ht:P.cy t=some (.slice e)) (hs:cz P e=some s) {k:IntKind} (hi:es[i]?=some r):
  ∃p,bX P t x (.int k (i:Nat)) st=some p∧lj st p r:=by
 have wv:=h.vO _ _ hi
 cases h with
 |nul=>simp at hi
 |sl es h=>
  rw[Qap] at hi;obtain⟨d,hd,rfl⟩:=AT.1 hi;obtain⟨h1,h2⟩:=h d (v8 hd);refine⟨.ep d.cells,?_,.inr ⟨_,rfl,Pe ..⟩⟩;simp only[bX,ht,hs,γ,if_pos (show(0:Int)≤(i:Nat) by omega),Int.toNat_natCast,hd,h1,if_pos h2]
 |win k aB off es ar c hm hl he=>
  have hlt:i<es.length:=by
   rcases ω i es.length with h'|h'
   ·exact h'
   ·rw[θ h'] at hi;cases hi
  refine⟨.ptr k aB (off+i*s),?_,.inl ⟨k,aB,_,ar,c,rfl,hm,by rw[wv];exact he _ _ hi⟩⟩;simp only[bX,ht,hs,γ,hm,Qal];rw[if_pos ⟨trivial,by omega,by omega,trivial⟩];rfl
variable{P:Pv} {ops:Array Oper} {rest:List Oper} {fr aG:Fr} {st:St} {Q:Fr→St→Prop} {ty:TypeId} {pp:String} {a:Array Edge} {g:Option (Nat×Bool)} {dst:Nat} {N:Nat} {S:St} {H:List a8}
variable{st1:St}
theorem ab.go {op:Op} (hg:aD ops fr ⟨some dst,op,ty,pp,a,g⟩=some true) (hc:j5 op=false) (h1:dN P fr st op ty=some (d,st1)) (hp:fr.put dst d=aG) (h:ab P ops rest aG st1 Q):ab P ops (⟨some dst,op,ty,pp,a,g⟩::rest) fr st Q:=
 ab.op hg hc h1 (by show ab P ops rest (fr.put dst d) st1 Q;rw[hp];exact h)
variable{ar:Bool}{ao:Operand}
theorem ab.vu {off:Nat} {c:List D} {t:TypeId} (hH:Has N S st H) (hg:aD ops fr ⟨some dst,.load t ao,ty,pp,a,g⟩=some true) (ha:fr.ev ao=.ptr k aB off) (hj:H[j]?=some (.box k (.mem aB ar c))) (hd:dY P t (c.drop off)=some d) (hp:fr.put dst d=aG) (h:ab P ops rest aG st Q):ab P ops (⟨some dst,.load t ao,ty,pp,a,g⟩::rest) fr st Q:=by
 refine ab.go hg rfl (d:=d) (st1:=st) ?_ hp h;simp only[dN,ha,iM,St.mem_of (hH.at hj),γ,hd,δ]
variable{v:D}{vo:Operand}
theorem ab.fk {off:Nat} {c cs:List D} {t:TypeId} (hH:Has N S st H) (hg:aD ops fr ⟨none,.store t ao vo,ty,pp,a,g⟩=some true) (ha:fr.ev ao=.ptr k aB off) (hv:fr.ev vo=v) (kh:v.cells?=some cs) (hs:cz P t=some cs.length) (hj:H[j]?=some (.box k (.mem aB ar c))) (hl:off+cs.length≤c.length) (hw:S.flr≤N∨refs cs=0) (h:∀ah,Has N S ah (H.set j (.box k (.mem aB ar (setMany c off cs))))→ab P ops rest fr ah Q):ab P ops (⟨none,.store t ao vo,ty,pp,a,g⟩::rest) fr st Q:=by
 refine ab.N hg rfl (d:=.tup []) (st1:=⟨st.bs.set k (.mem aB ar (setMany c off cs)),st.flr,st.ro⟩) ?_ (h _ (hH.rj (aB:=aB) hj));simp only[dN,ha,hv,lU,kh,hs,if_pos trivial];rw[mL (hH.at hj) hl (iE hH (hH.ge hj).1 hw),gN _ _ _ hl];rfl
theorem ab.vC {e:TypeId} {cs:List D} {aG:Nat→Fr} (hH:Has N S st H) (hg:aD ops fr ⟨some dst,.alloc e,ty,pp,a,g⟩=some true) (hz:dc P e=some cs) (hp:∀k,fr.put dst (.ptr k 0 0)=aG k)
  (h:∀k ah,S.bs.length≤k→Has N S ah (.box k (.mem 0 false cs)::H)→ab P ops rest (aG k) ah Q):ab P ops (⟨some dst,.alloc e,ty,pp,a,g⟩::rest) fr st Q:=by
 refine ab.go hg rfl (d:=.ptr st.bs.length 0 0) (st1:=st.push (.mem 0 false cs)) ?_ (hp _) (h _ _ hH.len (hH.pt _));simp only[dN,hz,δ]
theorem ab.Gg {e:TypeId} {xo:Operand} {cs:List D} {aG:Nat→Fr} (hH:Has N S st H) (hg:aD ops fr ⟨some dst,.box e xo,ty,pp,a,g⟩=some true) (hz:(fr.ev xo).cells?=some cs) (hp:∀k,fr.put dst (.ptr k 0 0)=aG k)
  (h:∀k ah,S.bs.length≤k→Has N S ah (.box k (.mem 0 false cs)::H)→ab P ops rest (aG k) ah Q):ab P ops (⟨some dst,.box e xo,ty,pp,a,g⟩::rest) fr st Q:=by
 refine ab.go hg rfl (d:=.ptr st.bs.length 0 0) (st1:=st.push (.mem 0 false cs)) ?_ (hp _) (h _ _ hH.len (hH.pt _));simp only[dN,hz,δ]
variable{z:List D}
theorem ab.xD {t e:TypeId} {lo co:Operand} {k1 k2:IntKind} {inf:TypeInfo} {aG:Nat→Fr} (hH:Has N S st H) (hg:aD ops fr ⟨some dst,.makeSlice t lo co,ty,pp,a,g⟩=some true) (hl:fr.ev lo=.int k1 (m:Nat)) (hc:fr.ev co=.int k2 (m:Nat)) (ht:P.cy t=some (.slice e)) (hi:P.info e=some inf) (hz:dc P e=some z) (hsz:inf.size=s) (mz:z.length=s) (TS:inf.bytes≤1024) (j6:m≤1073741824) (hp:∀k,fr.put dst (.win k 0 0 m s)=aG k) (h:∀k ah,S.bs.length≤k→Has N S ah (.aC (.win k 0 0 m s) s (Qak m z)::H)→ab P ops rest (aG k) ah Q):ab P ops (⟨some dst,.makeSlice t lo co,ty,pp,a,g⟩::rest) fr st Q:=by
 have hm:m*inf.bytes≤140737488355328:=Qa7 (Qb9 j6 TS) (by decide);subst hsz;refine ab.go hg rfl (d:=.win st.bs.length 0 0 m inf.size) (st1:=st.push (.mem 0 true (fV m z))) ?_ (hp _) (h _ _ hH.len (hH.tN (by simp) rfl (fun e he=>by rw[List.eq_of_mem_replicate he];exact mz)));simp only[dN,hl,hc,gR,ht,hi,hz,γ];rw[if_pos ⟨mz,by omega,by omega,by omega,by rw[←Int.natCast_mul];omega⟩]
 rfl
variable{y:D}{ys:List (List D)}
theorem Has.append (hH:Has N S st H) (hj:H[j]?=some (.aC x s es)) (hy:Rows st s y ys) {t1 t2 e:TypeId} {td:TypeDesc} {inf:TypeInfo} (h1:P.cy t1=some (.slice e)) (h2:P.cy t2=some td) (h3:fh td=false) (h4:P.info e=some inf) (h5:dc P e=some z) (h6:inf.size=s) (h7:z.length=s) (h8:0<inf.bytes∧inf.bytes≤1024) (o6:es.length+ys.length≤1073741824) (hw:S.flr≤N∨refs ys.flatten=0):
  ∃x' ah,bu P .append [t1,t2] [x,y] st=some (x',ah)∧Has N S ah (H.set j (.aC x' s (es++ys)))∧(ys=[]→x'=x):=by
 have hb:(es.length+ys.length)*inf.bytes≤1099511627776:=Qa7 (Qb9 o6 h8.2) (by decide);have jI:=hy.row
 have B_:∀e∈ys,e.length=s:=fun e he=>by
  obtain⟨i,hi⟩:=Qa4 he;exact hy.vO i e hi
 have mi:=cX B_;have hown:=hH.own hj;have hkk:=(hH.ok j _ hj).2;have hS:=hH.len;have hNS:=hH.hN;subst h6;simp only[bu,iG,h1,h2,h3,Qan,if_false,h4,h5,jI,γ];rw[if_neg (by rintro(h|h|h);exact h mi;exact absurd h z0;exact h h7)]
 have gD:∀e,H[j]?=some e→H.set j e=H:=fun e he=>by
  apply Qao;intro i
  by_cases hij:i=j
  ·subst hij
   have:i<H.length:=by
    rcases ω i H.length with h'|h'
    ·exact h'
    ·rw[θ h'] at he;cases he
   rw[ι this,he]
  ·rw[ε (fun e=>hij e.symm)]
 cases hown with
 |nul=>
  simp only[Qae]
  by_cases h0:ys.length=0
  ·rw[if_pos h0]
   have:ys=[]:=by cases ys with|nil=>rfl|cons _ _=>simp at h0
   subst this;exact⟨.nul,st,rfl,by rw[gD _ hj];exact hH,fun _=>rfl⟩
  ·rw[if_neg h0,if_pos (by simpa using hb)];refine⟨_,_,rfl,?_,fun e=>absurd (by rw[e];rfl) h0⟩;refine hH.D2 hj (fun k hk _=>by simp only[Ω];rw[ρ hk]) (by simp[Ω]) rfl rfl ?_ (fun k hk=>?_) fun k hk=>?_
   ·exact i7.win _ 0 0 ys ys.flatten (ky st _) (by rw[mi];omega) (by rw[Pd,←mi,Pe]) B_
   ·simp only[a8.aC,Γ] at hk;right;omega
   ·simp only[a8.aC,Γ] at hk;simp only[Ω,ψ,ξ,IT];omega
 |win k aB off es c hm hl hc he=>
  have hk:=hkk k (by simp only[a8.aC,Γ]);simp only[St.mem_of hm];rw[if_neg (by rintro(h|h);exact h rfl;omega)]
  by_cases h0:ys.length=0
  ·rw[if_pos h0]
   have:ys=[]:=by cases ys with|nil=>rfl|cons _ _=>simp at h0
   subst this;simp only[Qau];exact⟨_,st,rfl,by rw[gD _ hj];exact hH,fun _=>rfl⟩
  ·rw[if_neg h0,if_pos ⟨hb,iE hH hk.1 hw⟩];refine⟨_,_,rfl,?_,fun e=>absurd (by rw[e];rfl) h0⟩;have rY:es.length+ys.length=(es++ys).length:=by simp
   have jy:(c.take (off+es.length*inf.size)).drop off=es.flatten:=by rw[Φ,←hc];congr 1;omega
   rw[rY,jy];refine hH.D2 hj (fun n hn hne=>by simp only;rw[ε (fun e=>hne (by simp only[a8.aC,Γ];omega))]) (by simp) rfl rfl ?_ (fun n hn=>?_) fun n hn=>?_
   ·have tQ:∀e∈es++ys,e.length=inf.size:=fun e h=>by
     rcases Qb5.1 h with h|h
     ·exact he e h
     ·exact B_ e h
    have I4:=cX tQ;refine i7.win k (aB+1) 0 (es++ys) (es++ys).flatten ?_ (by rw[I4];omega) (by rw[Pd,←I4,Pe]) tQ;simp only;rw[ι hk.2,Qa5]
   ·simp only[a8.aC,Γ] at hn⊢;left;omega
   ·simp only[a8.aC,Γ] at hn;simp only[Θ];omega
variable{yo:Operand}
theorem ab.ck {t1 t2 e:TypeId} {td:TypeDesc} {inf:TypeInfo} {xo:Operand} {aG:D→Fr} (hH:Has N S st H) (hg:aD ops fr ⟨some dst,.call ⟨.builtin .append,#[xo,yo],#[t1,t2]⟩,ty,pp,a,g⟩=some true) (hx:fr.ev xo=x) (hy:fr.ev yo=y) (hj:H[j]?=some (.aC x s es)) (kD:Rows st s y ys) (h1:P.cy t1=some (.slice e)) (h2:P.cy t2=some td) (h3:fh td=false) (h4:P.info e=some inf) (h5:dc P e=some z) (h6:inf.size=s) (h7:z.length=s) (h8:0<inf.bytes∧inf.bytes≤1024) (hp:∀x',fr.put dst x'=aG x') (hb:es.length+ys.length≤1073741824) (hw:S.flr≤N∨refs ys.flatten=0) (h:∀x' ah,Has N S ah (H.set j (.aC x' s (es++ys)))→ab P ops rest (aG x') ah Q):
  ab P ops (⟨some dst,.call ⟨.builtin .append,#[xo,yo],#[t1,t2]⟩,ty,pp,a,g⟩::rest) fr st Q:=by
 obtain⟨x',ah,q1,q2,q3⟩:=hH.append hj kD h1 h2 h3 h4 h5 h6 h7 h8 hb hw;refine ab.go hg rfl (d:=x') (st1:=ah) ?_ (hp _) (h x' ah q2);simp only[dN,ο,wt,hx,hy];exact q1
theorem ab.Jj {t1 t2 e:TypeId} {td:TypeDesc} {inf:TypeInfo} {xo:Operand} {aG:D→Fr} (hH:Has N S st H) (hg:aD ops fr ⟨some dst,.call ⟨.builtin .append,#[xo,yo],#[t1,t2]⟩,ty,pp,a,g⟩=some true) (hx:fr.ev xo=x) (hy:fr.ev yo=y) (hj:H[j]?=some (.aC x s es)) (kD:Rows st s y ys) (h1:P.cy t1=some (.slice e)) (h2:P.cy t2=some td) (h3:fh td=false) (h4:P.info e=some inf) (h5:dc P e=some z) (h6:inf.size=s) (h7:z.length=s) (h8:0<inf.bytes∧inf.bytes≤1024) (hp:∀x',fr.put dst x'=aG x') (hb:es.length+ys.length≤1073741824) (hw:S.flr≤N∨refs ys.flatten=0) (h:∀x' ah,(ys=[]→x'=x)→Has N S ah (H.set j (.aC x' s (es++ys)))→ab P ops rest (aG x') ah Q):
  ab P ops (⟨some dst,.call ⟨.builtin .append,#[xo,yo],#[t1,t2]⟩,ty,pp,a,g⟩::rest) fr st Q:=by
 obtain⟨x',ah,q1,q2,q3⟩:=hH.append hj kD h1 h2 h3 h4 h5 h6 h7 h8 hb hw;refine ab.go hg rfl (d:=x') (st1:=ah) ?_ (hp _) (h x' ah q3 q2);simp only[dN,ο,wt,hx,hy];exact q1
theorem ab.Aw {t e:TypeId} {xo:Operand} (hg:aD ops fr ⟨some dst,.call ⟨.builtin .len,#[xo],#[t]⟩,ty,pp,a,g⟩=some true) (hx:fr.ev xo=x) (hR:Rows st s x es) (ht:P.cy t=some (.slice e)) (hp:fr.put dst (.int .i64 (es.length:Nat))=aG) (h:ab P ops rest aG st Q):ab P ops (⟨some dst,.call ⟨.builtin .len,#[xo],#[t]⟩,ty,pp,a,g⟩::rest) fr st Q:=by
 refine ab.go hg rfl (d:=.int .i64 (es.length:Nat)) (st1:=st) ?_ hp h;simp only[dN,ο,wt,hx];exact hR.MO ht
theorem ab.Ag {t:TypeId} {xo:Operand} {b:List UInt8} (hg:aD ops fr ⟨some dst,.call ⟨.builtin .len,#[xo],#[t]⟩,ty,pp,a,g⟩=some true) (hx:fr.ev xo=.str b) (ht:P.cy t=some .string) (hp:fr.put dst (.int .i64 (b.length:Nat))=aG)
  (h:ab P ops rest aG st Q):ab P ops (⟨some dst,.call ⟨.builtin .len,#[xo],#[t]⟩,ty,pp,a,g⟩::rest) fr st Q:=by
 refine ab.go hg rfl (d:=.int .i64 (b.length:Nat)) (st1:=st) ?_ hp h;simp only[dN,ο,wt,hx,bu,ht]
variable{io:Operand}{kk:IntKind}
theorem ab.oG {t e:TypeId} {xo:Operand} {aG:D→Fr} (hg:aD ops fr ⟨some dst,.indexAddr t xo io,ty,pp,a,g⟩=some true) (hx:fr.ev xo=x) (hi:fr.ev io=.int kk (i:Nat)) (hR:Rows st s x es) (ht:P.cy t=some (.slice e)) (hs:cz P e=some s) (hr:es[i]?=some r) (hp:∀p,fr.put dst p=aG p) (h:∀p,lj st p r→ab P ops rest (aG p) st Q):ab P ops (⟨some dst,.indexAddr t xo io,ty,pp,a,g⟩::rest) fr st Q:=by
 obtain⟨p,h1,h2⟩:=hR.Ul ht hs (k:=kk) hr;refine ab.go hg rfl (d:=p) (st1:=st) ?_ (hp p) (h p h2);simp only[dN,hx,hi,h1,δ]
theorem ab.Nv {t:TypeId} {xo:Operand} {f:Nat} {aG:D→Fr} (hg:aD ops fr ⟨some dst,.fieldAddr t xo f,ty,pp,a,g⟩=some true) (hx:fr.ev xo=x) (hR:lj st x r) (ht:P.cy t=some (.struct fields)) (hf:fields[f]?=some fd) (hm:cz P fd.type=some m) (j6:m≠0) (hp:∀p,fr.put dst p=aG p) (h:∀p,lj st p (r.drop fd.offset)→ab P ops rest (aG p) st Q):ab P ops (⟨some dst,.fieldAddr t xo f,ty,pp,a,g⟩::rest) fr st Q:=by
 obtain⟨p,h1,h2⟩:=hR.field ht hf hm j6;refine ab.go hg rfl (d:=p) (st1:=st) ?_ (hp p) (h p h2);simp only[dN,hx,h1,δ]
theorem ab.eZ {t:TypeId} (hg:aD ops fr ⟨some dst,.load t ao,ty,pp,a,g⟩=some true) (ha:fr.ev ao=x) (hR:lj st x r) (hd:dY P t r=some d) (hp:fr.put dst d=aG) (h:ab P ops rest aG st Q):ab P ops (⟨some dst,.load t ao,ty,pp,a,g⟩::rest) fr st Q:=by
 refine ab.go hg rfl (d:=d) (st1:=st) ?_ hp h;simp only[dN,ha,hR.load hd,δ]
theorem ab.NI {t e:TypeId} {xo:Operand} {aG:D→Fr} (hH:Has N S st H) (hg:aD ops fr ⟨some dst,.indexAddr t xo io,ty,pp,a,g⟩=some true) (hx:fr.ev xo=x) (hi:fr.ev io=.int kk (i:Nat)) (hj:H[j]?=some (.aC x s es)) (ht:P.cy t=some (.slice e)) (hs:cz P e=some s) (hr:i<es.length) (hp:∀p,fr.put dst p=aG p) (h:∀p,tD x s i 0 p→ab P ops rest (aG p) st Q):ab P ops (⟨some dst,.indexAddr t xo io,ty,pp,a,g⟩::rest) fr st Q:=by
 have hown:=hH.own hj
 cases hown with
 |nul=>simp at hr
 |win k aB off es c hm hl hc he=>
  refine ab.go hg rfl (d:=.ptr k aB (off+i*s)) (st1:=st) ?_ (hp _) (h _ ⟨k,aB,off,_,rfl,rfl⟩);simp only[dN,hx,hi,bX,ht,hs,γ,St.mem_of hm,Qal];rw[if_pos ⟨trivial,by omega,by omega,trivial⟩];rfl
theorem ab.NJ {t:TypeId} {xo:Operand} {f:Nat} {aG:D→Fr} (hg:aD ops fr ⟨some dst,.fieldAddr t xo f,ty,pp,a,g⟩=some true) (hx:fr.ev xo=y) (hR:tD x s i o y) (ht:P.cy t=some (.struct fields)) (hf:fields[f]?=some fd) (hm:cz P fd.type=some m) (j6:m≠0) (hp:∀p,fr.put dst p=aG p) (h:∀p,tD x s i (o+fd.offset) p→ab P ops rest (aG p) st Q):ab P ops (⟨some dst,.fieldAddr t xo f,ty,pp,a,g⟩::rest) fr st Q:=by
 obtain⟨k,aB,off,len,h1,h2⟩:=hR;refine ab.go hg rfl (d:=.ptr k aB (off+i*s+(o+fd.offset))) (st1:=st) ?_ (hp _) (h _ ⟨k,aB,off,len,h1,rfl⟩);simp only[dN,hx,h2,fQ,ht,hf,γ,hm];rw[if_neg (by simp only[OF.injEq];exact j6),←Qbb];rfl
theorem ab.pw {t:TypeId} (hH:Has N S st H) (hg:aD ops fr ⟨some dst,.load t ao,ty,pp,a,g⟩=some true) (ha:fr.ev ao=y) (hR:tD x s i o y) (hj:H[j]?=some (.aC x s es)) (hr:es[i]?=some r) (hd:dY P t (r.drop o)=some d) (hp:fr.put dst d=aG) (h:ab P ops rest aG st Q):ab P ops (⟨some dst,.load t ao,ty,pp,a,g⟩::rest) fr st Q:=by
 obtain⟨k,aB,off,len,rfl,rfl⟩:=hR;have hown:=hH.own hj
 cases hown with
 |win k aB off es c hm hl hc he=>
  refine ab.go hg rfl (d:=d) (st1:=st) ?_ hp h;have h1:=oa he i r hr
  have hil:i<es.length:=by
   rcases ω i es.length with h'|h'
   ·exact h'
   ·rw[θ h'] at hr;cases hr
  have h2:(i+1)*s≤es.length*s:=π s hil;rw[τ,IS] at h2;rw[←hc,Φ,Qa1,φ,BY z0] at h1;have wv:=he r (v8 hr);simp only[dN,ha,iM,St.mem_of hm,γ];rw[nL (r:=r.drop o) ?_ hd];rfl;rw[Qar,wv,←h1,Φ,φ]
theorem ab.il {t:TypeId} {cs:List D} (hH:Has N S st H) (hg:aD ops fr ⟨none,.store t ao vo,ty,pp,a,g⟩=some true) (ha:fr.ev ao=y) (hv:fr.ev vo=v) (hR:tD x s i o y) (kh:v.cells?=some cs) (hs:cz P t=some cs.length) (hj:H[j]?=some (.aC x s es)) (hr:es[i]?=some r) (hl:o+cs.length≤s) (hw:S.flr≤N∨refs cs=0) (h:∀ah,Has N S ah (H.set j (.aC x s (es.set i (setMany r o cs))))→ab P ops rest fr ah Q):ab P ops (⟨none,.store t ao vo,ty,pp,a,g⟩::rest) fr st Q:=by
 obtain⟨k,aB,off,len,rfl,rfl⟩:=hR;obtain⟨ah,h1,h2⟩:=hH.Ee hj hr hl hw;refine ab.N hg rfl (d:=.tup []) (st1:=ah) ?_ (h _ h2);simp only[dN,ha,hv,lU,kh,hs,if_pos trivial,h1];rfl
theorem ab.yD {t e:TypeId} {xo:Operand} {lo hi:Option Operand} {l r:Nat} {aG:D→Fr} (hH:Has N S st H) (hg:aD ops fr ⟨some dst,.slice t xo lo hi none,ty,pp,a,g⟩=some true) (hx:fr.ev xo=x) (hj:H[j]?=some (.aC x s es)) (ht:P.cy t=some (.slice e)) (hs:cz P e=some s) (hb:bZ es.length (lo.map fr.ev) (hi.map fr.ev)=some (l,r)) (rX:l≤r∧r≤es.length) (hp:∀y,fr.put dst y=aG y) (h:∀y,Has N S st (H.set j (.aC y s ((es.take r).drop l)))→ab P ops rest (aG y) st Q):ab P ops (⟨some dst,.slice t xo lo hi none,ty,pp,a,g⟩::rest) fr st Q:=by
 have hown:=hH.own hj
 cases hown with
 |nul=>
  simp only[IT] at hb rX
  have hy:Has N S st (H.set j (.aC .nul s (([].take r).drop l))):=by
   refine hH.D2 hj (fun _ _ _=>rfl) (υ _) rfl rfl (by simp;exact .nul) (fun k hk=>.inl hk) fun k hk=>by simp only[a8.aC,Γ] at hk;omega
  refine ab.go hg rfl (d:=.nul) (st1:=st) ?_ (hp _) (h _ hy);simp only[dN,hx,fM,ht,hs,γ,hb,δ]
 |win k aB off es c hm hl hc he=>
  have hlen:((es.take r).drop l).length=r-l:=by simp;omega
  have h1:l*s+(r-l)*s≤es.length*s:=by rw[←τ];exact π s z0
  have hk:=(hH.ok j _ hj).2 k (by simp only[a8.aC,Γ])
  have hy:Has N S st (H.set j (.aC (.win k aB (off+l*s) (r-l) s) s ((es.take r).drop l))):=by
   refine hH.D2 hj (fun _ _ _=>rfl) (υ _) rfl rfl ?_ (fun k' mg=>.inl ?_) fun k' mg=>?_
   ·have:=i7.win (st:=st) (s:=s) k aB (off+l*s) ((es.take r).drop l) c hm (by rw[hlen];omega) ?_ (fun e tv=>he e (GB (Qaj tv)))
    ·rw[hlen] at this;exact this
    ·rw[hlen];have mi:=cX he
     have e1:∀n,n≤es.length→(es.take n).flatten=es.flatten.take (n*s):=by
      intro n hn;have:es.flatten=(es.take n).flatten++(es.drop n).flatten:=by rw[←Qa5,Qag]
      rw[this,Qaw];rw[cX (s:=s) (fun e tv=>he e (GB tv)),Qa3,BY hn]
     have e2:((es.take r).drop l).flatten=(es.take r).flatten.drop (l*s):=by
      have h2:(es.take r).flatten=((es.take r).take l).flatten++((es.take r).drop l).flatten:=by rw[←Qa5,Qag]
      rw[h2,Qav];rw[cX (s:=s) (fun e tv=>he e (GB (GB tv))),Qa3,Qa3,BY z0]
     rw[e2,e1 r rX.2,←hc,Qa1,Φ,φ,Nat.sub_mul]
     congr 1
     have:r*s≤es.length*s:=π s rX.2;rw[BY this]
   ·simp only[a8.aC,Γ] at mg⊢;exact mg
   ·simp only[a8.aC,Γ] at mg;omega
  refine ab.go hg rfl (d:=.win k aB (off+l*s) (r-l) s) (st1:=st) ?_ (hp _) (h _ hy);simp only[dN,hx,fM,ht,hs,γ,hb,if_true,δ]
theorem ab.Dl {s t e:TypeId} {xo:Operand} {b:List UInt8} {aG:Nat→Fr} (hH:Has N S st H) (hg:aD ops fr ⟨some dst,.convert s t xo,ty,pp,a,g⟩=some true) (hx:fr.ev xo=.str b) (h1:P.cy s=some .string) (h2:P.cy t=some (.slice e)) (h3:P.cy e=some (.int .u8)) (hl:b.length<1099511627776) (hp:∀k,fr.put dst (.win k 0 0 b.length 1)=aG k)
  (h:∀k ah,S.bs.length≤k→Has N S ah (.aC (.win k 0 0 b.length 1) 1 (byteCells b)::H)→ab P ops rest (aG k) ah Q):ab P ops (⟨some dst,.convert s t xo,ty,pp,a,g⟩::rest) fr st Q:=by
 have hc:∀b:List UInt8,(byteCells b).flatten=b.map fun y=>.int .u8 (y.toNat:Nat):=by
  intro b
  induction b with
  |nil=>rfl
  |cons y b ih=>simp only[byteCells,ο,Δ] at ih⊢;rw[ih];rfl
 refine ab.go hg rfl (d:=.win st.bs.length 0 0 b.length 1) (st1:=st.push (.mem 0 true (b.map fun y=>.int .u8 (y.toNat:Nat)))) ?_ (hp _) (h _ _ hH.len (hH.tN (by simp[byteCells]) (hc b) (fun e he=>by obtain⟨y,_,rfl⟩:=Qaq.1 he;rfl)));simp only[dN,hx,iO,h1,h2,h3,if_pos hl]
theorem ab.iN {f:Operand} {gn:Nat} {lf:List D} {args:Array Operand} {Ab:Array TypeId} (hg:aD ops fr ⟨some dst,.call ⟨.value f,args,Ab⟩,ty,pp,a,g⟩=some true) (hf:fr.ev f=.fn gn lf) (h1:Ev P gn (args.toList.map fr.ev++lf) st d st1) (hp:fr.put dst d=aG) (h:ab P ops rest aG st1 Q):ab P ops (⟨some dst,.call ⟨.value f,args,Ab⟩,ty,pp,a,g⟩::rest) fr st Q:=
 ab.call hg hf h1 (by show ab P ops rest (fr.put dst d) st1 Q;rw[hp];exact h)
theorem va {m:Mode} {kn:Bool} {st:St} {d':D} (hm:m≠.cw∧m≠.nw) (hS:S.bs=st.bs) (hH:Has st.bs.length S st1 H) (hd:ba st1 st.bs.length kn 16 d=some d'):dj m kn st st1 d=some (d',st):=
 aP hm ((hH.ex.take (by rw[hS])).trans hS) hd
theorem Has.freeze (hH:Has N S st H) (hj:H[j]?=some (.aC x s es)) (hp:∀e∈es,∀d∈e,cD d=true) {n:Nat} (hn:2≤n):ba st N false (n+1) x=some (.sl (es.map (kO s))):=by
 obtain⟨n,rfl⟩:∃m,n=m+2:=⟨n-2,by omega⟩
 have hown:=hH.own hj;have hkk:=(hH.ok j _ hj).2
 cases hown with
 |nul=>rfl
 |win k aB off es c hm hl hc he=>
  have hk:=hkk k (by simp only[a8.aC,Γ]);show(if k<N then some (D.win k aB off es.length s) else fu st N (n+2) (.win k aB off es.length s))=_;rw[if_neg (show¬k<N by omega),fu];simp only[if_neg (show¬k<N by omega),St.mem_of hm,γ]
  rw[if_pos hl,hc,l9 (fun d hd=>by
   obtain⟨e,tv,EY⟩:=Qas.1 hd
   exact hp e tv d EY)]
  simp only[δ,gX he]
end Go.V
namespace Go.V
variable{P:Pv} {ops:Array Oper} {rest:List Oper} {fr aG:Fr} {st:St} {Q:Fr→St→Prop} {ty:TypeId} {pp:String} {a:Array Edge} {g:Option (Nat×Bool)} {dst:Nat}
variable{o:Oper}{j t:Nat}{w v:Bool}
theorem aj (h1:o.guard=some (j,w)) (h2:(ops[j]?).bind (·.dst)=some t) (h3:fr.get t=.bool v) (h4:v=w):aD ops fr o=some true:=by
 unfold aD;simp only[h1,h2,h3,h4,beq_self_eq_true]
theorem nK (h1:o.guard=some (j,w)) (h2:(ops[j]?).bind (·.dst)=some t) (h3:fr.get t=.bool v) (h4:v=!w):aD ops fr o=some false:=by
 unfold aD;simp only[h1,h2,h3,h4];cases w<;>rfl
theorem ab.skip {op:Op} (hg:aD ops fr ⟨some dst,op,ty,pp,a,g⟩=some false) (hp:fr.put dst (.tup [])=aG)
  (h:ab P ops rest aG st Q):ab P ops (⟨some dst,op,ty,pp,a,g⟩::rest) fr st Q:=
 ab.off hg (by show ab P ops rest (fr.put dst _) st Q;rw[hp];exact h)
variable{l:List Oper}
theorem ab.two (t:Nat) (hv:fr.get t=.bool v) (h1:v=true→ab P ops l fr st Q) (h2:v=false→ab P ops l fr st Q):ab P ops l fr st Q:=by
 cases v
 ·exact h2 rfl
 ·exact h1 rfl
theorem ab.c9 {c x y:Operand} (hg:aD ops fr ⟨some dst,.pick c x y,ty,pp,a,g⟩=some true) (hc:fr.ev c=.bool v) (hv:v=true) (hp:fr.put dst (fr.ev x)=aG) (h:ab P ops rest aG st Q):ab P ops (⟨some dst,.pick c x y,ty,pp,a,g⟩::rest) fr st Q:=
 ab.go hg rfl (by simp only[dN,hc,hv]) hp h
theorem ab.c_ {c x y:Operand} (hg:aD ops fr ⟨some dst,.pick c x y,ty,pp,a,g⟩=some true) (hc:fr.ev c=.bool v) (hv:v=false) (hp:fr.put dst (fr.ev y)=aG) (h:ab P ops rest aG st Q):ab P ops (⟨some dst,.pick c x y,ty,pp,a,g⟩::rest) fr st Q:=
 ab.go hg rfl (by simp only[dN,hc,hv]) hp h
variable{dy:Dy}{i:Nat}
theorem ag.cut {d n loc Qw tmp st} {Q:Out→Fr→St→Prop} (t:Nat) (v:D) (h1:ab P l.toArray l ⟨n,loc,[]⟩ st fun aG ah=>∃tmp,aG=⟨n,Qw,tmp⟩∧ah=st∧look t tmp=v) (h2:∀tmp,look t tmp=v→Q .next ⟨n,Qw,tmp⟩ st) (h0:iU i dy=[]:=by rfl):ag P dy (.region i l.toArray d) ⟨n,loc,tmp⟩ st Q:=by
 refine ag.ei ?_ h0;unfold ab at h1⊢;obtain⟨aG,ah,h3,Nk,rfl,rfl,h4⟩:=h1;exact⟨_,_,h3,h2 _ h4⟩
variable{n:Nat}{k:IntKind}
theorem lN {len:Nat} (h:n≤len):bZ len none (some (.int k (n:Nat)))=some (0,n):=by
 simp only[bZ,gB,jt];rw[if_pos ⟨by omega,by omega⟩];rfl
theorem B0 {len:Nat} (h:n≤len):bZ len (some (.int k (n:Nat))) none=some (n,len):=by
 simp only[bZ,gB,jt,γ];rw[if_pos ⟨by omega,by omega⟩];rfl
variable{m:Nat}{k':IntKind}
theorem nE {len:Nat} (h:m≤n∧n≤len):bZ len (some (.int k (m:Nat))) (some (.int k' (n:Nat)))=some (m,n):=by
 simp only[bZ,gB,jt];rw[if_pos ⟨by omega,by omega⟩];simp only[γ];rw[if_pos ⟨by omega,by omega⟩];rfl
theorem wrap_i32 {n : Int} (h1 : -2147483648 ≤ n) (h2 : n ≤ 2147483647) : bp .i32 n = n := by
  cases n with
  | ofNat m => exact bI (k := .i32) (m := m) (by simp only [gh]; have : (Int.ofNat m) = (m : Int) := rfl; omega)
  | negSucc m =>
    unfold bp
    have : ς (yL .i32) m = false := by
      cases hb : ς (yL .i32) m with
      | false => rfl
      | true => have := Ψ hb; simp only [yL] at this; have : Int.negSucc m = -(m : Int) - 1 := by omega
                omega
    simp only [this]
theorem UB (x y:Int):(if y>x then y else x)=max x y:=by split<;>omega
theorem UA (x y:Int):(if y<x then y else x)=min x y:=by split<;>omega
variable{y:Int}{yo:Operand}
theorem ab.Ie {t1 t2:TypeId} {xo:Operand} {x:Int} {Ab:Array TypeId} (hg:aD ops fr ⟨some dst,.call ⟨.builtin .max,#[xo,yo],Ab⟩,ty,pp,a,g⟩=some true) (hx:fr.ev xo=.int k x) (hy:fr.ev yo=.int k' y) (hp:fr.put dst (.int k (max x y))=aG) (h:ab P ops rest aG st Q):ab P ops (⟨some dst,.call ⟨.builtin .max,#[xo,yo],Ab⟩,ty,pp,a,g⟩::rest) fr st Q:=by
 refine ab.go hg rfl (d:=.int k (max x y)) (st1:=st) ?_ hp h;simp only[dN,ο,wt,hx,hy,bu,tb,xl,γ,δ,←UB];rfl
theorem ab.Lg {t1 t2:TypeId} {xo:Operand} {x:Int} {Ab:Array TypeId} (hg:aD ops fr ⟨some dst,.call ⟨.builtin .min,#[xo,yo],Ab⟩,ty,pp,a,g⟩=some true) (hx:fr.ev xo=.int k x) (hy:fr.ev yo=.int k' y) (hp:fr.put dst (.int k (min x y))=aG) (h:ab P ops rest aG st Q):ab P ops (⟨some dst,.call ⟨.builtin .min,#[xo,yo],Ab⟩,ty,pp,a,g⟩::rest) fr st Q:=by
 refine ab.go hg rfl (d:=.int k (min x y)) (st1:=st) ?_ hp h;simp only[dN,ο,wt,hx,hy,bu,tb,xl,γ,δ,←UA];rfl
theorem ab.Pr {t ow:TypeId} {xo:Operand} {x:Int} (hg:aD ops fr ⟨some dst,.binOp .add t xo yo ow,ty,pp,a,g⟩=some true) (hx:fr.ev xo=.int .i64 x) (hy:fr.ev yo=.int .i64 y) (h1:-9223372036854775808≤x+y) (h2:x+y≤9223372036854775807) (hp:fr.put dst (.int .i64 (x+y))=aG) (h:ab P ops rest aG st Q):ab P ops (⟨some dst,.binOp .add t xo yo ow,ty,pp,a,g⟩::rest) fr st Q:=by
 refine ab.go hg rfl (d:=.int .i64 (x+y)) (st1:=st) ?_ hp h;simp only[dN,hx,hy,fp,wF,if_pos trivial,δ,wrap_i64 h1 h2]
theorem ab.Hc {t ow:TypeId} {xo:Operand} {x:Int} (hg:aD ops fr ⟨some dst,.binOp .sub t xo yo ow,ty,pp,a,g⟩=some true) (hx:fr.ev xo=.int .i64 x) (hy:fr.ev yo=.int .i64 y) (h1:-9223372036854775808≤x-y) (h2:x-y≤9223372036854775807) (hp:fr.put dst (.int .i64 (x-y))=aG) (h:ab P ops rest aG st Q):ab P ops (⟨some dst,.binOp .sub t xo yo ow,ty,pp,a,g⟩::rest) fr st Q:=by
 refine ab.go hg rfl (d:=.int .i64 (x-y)) (st1:=st) ?_ hp h;simp only[dN,hx,hy,fp,wF,if_pos trivial,δ,wrap_i64 h1 h2]
theorem ab.DT {t ow:TypeId} {xo:Operand} {x:Int} (hg:aD ops fr ⟨some dst,.binOp .add t xo yo ow,ty,pp,a,g⟩=some true) (hx:fr.ev xo=.int .i32 x) (hy:fr.ev yo=.int .i32 y) (h1:-2147483648≤x+y) (h2:x+y≤2147483647) (hp:fr.put dst (.int .i32 (x+y))=aG) (h:ab P ops rest aG st Q):ab P ops (⟨some dst,.binOp .add t xo yo ow,ty,pp,a,g⟩::rest) fr st Q:=by
 refine ab.go hg rfl (d:=.int .i32 (x+y)) (st1:=st) ?_ hp h;simp only[dN,hx,hy,fp,wF,if_pos trivial,δ,wrap_i32 h1 h2]
theorem ab.Nn {t ow:TypeId} {xo:Operand} {x:Int} (hg:aD ops fr ⟨some dst,.binOp .sub t xo yo ow,ty,pp,a,g⟩=some true) (hx:fr.ev xo=.int .i32 x) (hy:fr.ev yo=.int .i32 y) (h1:-2147483648≤x-y) (h2:x-y≤2147483647) (hp:fr.put dst (.int .i32 (x-y))=aG) (h:ab P ops rest aG st Q):ab P ops (⟨some dst,.binOp .sub t xo yo ow,ty,pp,a,g⟩::rest) fr st Q:=by
 refine ab.go hg rfl (d:=.int .i32 (x-y)) (st1:=st) ?_ hp h;simp only[dN,hx,hy,fp,wF,if_pos trivial,δ,wrap_i32 h1 h2]
theorem ab.mv {op:Op} {x:Operand} {d:D} (ib:op=.move x∨op=.assign x) (hg:aD ops fr ⟨some dst,op,ty,pp,a,g⟩=some true) (hx:fr.ev x=d) (hp:fr.put dst d=aG)
  (h:ab P ops rest aG st Q):ab P ops (⟨some dst,op,ty,pp,a,g⟩::rest) fr st Q:=by
 refine ab.go hg ?_ (d:=d) (st1:=st) ?_ hp h<;>rcases ib with rfl|rfl<;>first|rfl|simp only[dN,hx]
def nz (P:Pv) (fields:Array Field) (f:Nat):Option (Nat×Option Nat):=(fields[f]?).map fun fd=>(fd.offset,cz P fd.type)
variable{fields:Array Field}{f fo:Nat}
theorem ny {P:Pv} (h:nz P fields f=some (fo,some m)):∃fd,fields[f]?=some fd∧fd.offset=fo∧cz P fd.type=some m:=by
 unfold nz at h;obtain⟨fd,h1,h2⟩:=AT.1 h;simp only[Prod.mk.injEq] at h2;exact⟨fd,h1,h2.1,h2.2⟩
variable{aB:Nat}
theorem ab.HP {t:TypeId} {xo:Operand} {k off o:Nat} (hg:aD ops fr ⟨some dst,.fieldAddr t xo f,ty,pp,a,g⟩=some true) (hx:fr.ev xo=.ptr k aB off) (ht:P.cy t=some (.struct fields)) (hf:nz P fields f=some (fo,some (m+1))) (ho:off+fo=o) (hp:fr.put dst (.ptr k aB o)=aG) (h:ab P ops rest aG st Q):ab P ops (⟨some dst,.fieldAddr t xo f,ty,pp,a,g⟩::rest) fr st Q:=by
 obtain⟨fd,h1,h2,h3⟩:=ny hf;subst ho;refine ab.go hg rfl (d:=.ptr k aB (off+fo)) (st1:=st) ?_ hp h;simp only[dN,hx,fQ,ht,h1,γ,h3,h2];rw[if_neg (by simp)];rfl
variable{x:D}{r:List D}
theorem ab.K1 {t:TypeId} {xo:Operand} {aG:D→Fr} (hg:aD ops fr ⟨some dst,.fieldAddr t xo f,ty,pp,a,g⟩=some true) (hx:fr.ev xo=x) (hR:lj st x r) (ht:P.cy t=some (.struct fields)) (hf:nz P fields f=some (fo,some (m+1))) (hp:∀p,fr.put dst p=aG p) (h:∀p,lj st p (r.drop fo)→ab P ops rest (aG p) st Q):ab P ops (⟨some dst,.fieldAddr t xo f,ty,pp,a,g⟩::rest) fr st Q:=by
 obtain⟨fd,h1,h2,h3⟩:=ny hf;exact ab.Nv hg hx hR ht h1 h3 z0 hp (by rw[h2];exact h)
variable{s:Nat}
theorem ab.iq {t:TypeId} {xo:Operand} {y:D} {o o2:Nat} {aG:D→Fr} (hg:aD ops fr ⟨some dst,.fieldAddr t xo f,ty,pp,a,g⟩=some true) (hx:fr.ev xo=y) (hR:tD x s i o y) (ht:P.cy t=some (.struct fields)) (hf:nz P fields f=some (fo,some (m+1))) (ho:o+fo=o2) (hp:∀p,fr.put dst p=aG p) (h:∀p,tD x s i o2 p→ab P ops rest (aG p) st Q):ab P ops (⟨some dst,.fieldAddr t xo f,ty,pp,a,g⟩::rest) fr st Q:=by
 obtain⟨fd,h1,h2,h3⟩:=ny hf;subst ho;exact ab.NJ hg hx hR ht h1 h3 z0 hp (by rw[h2];exact h)
variable{c:List D}
theorem Al {cs:List D} (h:cs.length=c.length):setMany c 0 cs=cs:=by
 rw[gN cs c 0 z0,List.take_zero,Qae,Qb0,h,List.drop_length,Qau]
variable{N:Nat} {S:St} {H:List a8}
variable{ar:Bool}{ao:Operand}
theorem ab.cF {k:Nat} {cs:List D} {v:D} {t:TypeId} {vo:Operand} (hH:Has N S st H) (hg:aD ops fr ⟨none,.store t ao vo,ty,pp,a,g⟩=some true) (ha:fr.ev ao=.ptr k aB 0) (hv:fr.ev vo=v) (kh:v.cells?=some cs) (hs:cz P t=some cs.length) (hj:H[j]?=some (.box k (.mem aB ar c))) (hl:cs.length=c.length) (hw:S.flr≤N∨refs cs=0) (h:∀ah,Has N S ah (H.set j (.box k (.mem aB ar cs)))→ab P ops rest fr ah Q):ab P ops (⟨none,.store t ao vo,ty,pp,a,g⟩::rest) fr st Q:=
 ab.fk hH hg ha hv kh hs hj z0 hw (by rw[Al hl];exact h)
theorem xM {place:Nat→Option (Nat×Nat)} {s:Nat} (ia:∀i,place i=some (i*s,s)):∀(vs:List D) (n:Nat) (done rem:List D),done.length=n*s→rem.length=vs.length*s→(∀v∈vs,v.cells?=some v.cells∧v.cells.length=s)→
  jz place (done++rem) (vs.mapIdx fun i v=>(n+i,v))=some (done++(vs.map Qat).flatten)
 |[],n,done,rem,hd,hr,_=>by
  have:rem=[]:=by cases rem with|nil=>rfl|cons _ _=>simp at hr
  subst this;simp[jz]
 |v::vs,n,done,rem,hd,hr,hv=>by
  obtain⟨h1,h2⟩:=hv v (κ ..);simp only[ξ,τ,IS] at hr;simp only[Qb3,jz,ia,h1,Qbd];rw[if_neg (by simp only[h2,ne_eq,not_true_eq_false,ψ,false_or];rw[hd,hr];omega)]
  have e1:setMany (done++rem) (n*s) v.cells=(done++v.cells)++rem.drop s:=by
   rw[gN _ _ _ (by simp only[ψ];omega),h2,←hd,List.take_left,Qax]
  have ih:=xM ia vs (n+1) (done++v.cells) (rem.drop s) (by rw[ψ,hd,h2,τ,IS]) (by rw[Qar];omega) fun w hw=>hv w (μ _ hw);rw[e1];have e2:(vs.mapIdx fun i v=>(n+(i+1),v))=vs.mapIdx fun i v=>(n+1+i,v):=by congr 1;funext i v;rw[show n+(i+1)=n+1+i by omega]
  rw[e2,ih];simp[AI]
def E8 (fr:Fr):Nat→List (Nat×Operand)→List D→Prop
 |_,[],[]=>True
 |n,(i,o)::ps,v::vs=>i=n∧fr.ev o=v∧E8 fr (n+1) ps vs
 |_,_,_=>False
theorem BJ {fr:Fr}:∀{ps:List (Nat×Operand)} {vs:List D} {n:Nat},E8 fr n ps vs→(ps.map fun p=>(p.1,fr.ev p.2))=vs.mapIdx fun i v=>(n+i,v)
 |[],[],_,_=>rfl
 |(i,o)::ps,v::vs,n,h=>by
  obtain⟨h1,h2,h3⟩:=h;have ih:=BJ h3;simp only[ο,Qb3,Qbd];rw[ih,h1,h2]
  congr 1
  congr 1;funext i v;rw[show n+(i+1)=n+1+i by omega]
 |[],_::_,_,h=>h.elim
 |_::_,[],_,h=>h.elim
theorem ab.EU {t e:TypeId} {parts:Array (Nat×Operand)} {z:List D} {vs:List D} {aG:Nat→Fr} (hH:Has N S st H) (hg:aD ops fr ⟨some dst,.buildSlice t m parts,ty,pp,a,g⟩=some true) (ht:P.cy t=some (.slice e)) (hs:cz P e=some s) (hz:dc P e=some z) (mz:z.length=s) (hm:m*s≤16777216) (TM:E8 fr 0 parts.toList vs) (QJ:vs.length=m) (hc:∀v∈vs,v.cells?=some v.cells∧v.cells.length=s) (hp:∀k,fr.put dst (.win k 0 0 m s)=aG k) (h:∀k ah,S.bs.length≤k→Has N S ah (.aC (.win k 0 0 m s) s (vs.map Qat)::H)→ab P ops rest (aG k) ah Q):ab P ops (⟨some dst,.buildSlice t m parts,ty,pp,a,g⟩::rest) fr st Q:=by
 have GM:=BJ TM;have hf:=xM (place:=fun i=>some (i*s,s)) (fun _=>rfl) vs 0 [] (fV m z) (by simp) (by simp[fV,QJ,mz]) hc
 refine ab.go hg rfl (d:=.win st.bs.length 0 0 m s) (st1:=st.push (.mem 0 true (vs.map Qat).flatten)) ?_ (hp _) (h _ _ hH.len (hH.tN (by simpa using QJ) rfl (fun e he=>by
  obtain⟨v,hv,rfl⟩:=Qaq.1 he
  exact(hc v hv).2)))
 simp only[dN,jh,ht,hs,hz,γ];rw[if_pos ⟨mz,hm⟩,GM];simp only[Qae] at hf;rw[hf];rfl
theorem ab.aH {k off:Nat} {t:TypeId} (hH:Has N S st H) (hg:aD ops fr ⟨some dst,.load t ao,ty,pp,a,g⟩=some true) (ha:fr.ev ao=.ptr k aB off) (hj:H[j]?=some (.box k (.mem aB ar c))) (hr:(c.drop off).take m=r) (hd:dY P t r=some (.agg r)) (hm:r.length=m) (hp:fr.put dst (.agg r)=aG) (h:ab P ops rest aG st Q):ab P ops (⟨some dst,.load t ao,ty,pp,a,g⟩::rest) fr st Q:=
 ab.vu hH hg ha hj (nL (r:=r) (by rw[hm];exact hr) hd) hp h
theorem bc {α:Type} {l:List α} {a:α} (h:l[i]?=some a):i<l.length:=by
 rcases ω i l.length with h'|h'
 ·exact h'
 ·rw[θ h'] at h;cases h
theorem ab.cM {t:TypeId} (hg:aD ops fr ⟨some dst,.load t ao,ty,pp,a,g⟩=some true) (ha:fr.ev ao=x) (hR:lj st x r) (hd:dY P t r=some (.agg r)) (hp:fr.put dst (.agg r)=aG) (h:ab P ops rest aG st Q):ab P ops (⟨some dst,.load t ao,ty,pp,a,g⟩::rest) fr st Q:=ab.eZ hg ha hR hd hp h
variable{es:List (List D)}
theorem ab.yE {t:TypeId} {y:D} (hH:Has N S st H) (hg:aD ops fr ⟨some dst,.load t ao,ty,pp,a,g⟩=some true) (ha:fr.ev ao=y) (hR:tD x s i 0 y) (hj:H[j]?=some (.aC x s es)) (hr:es[i]?=some r) (hd:dY P t r=some (.agg r)) (hp:fr.put dst (.agg r)=aG) (h:ab P ops rest aG st Q):ab P ops (⟨some dst,.load t ao,ty,pp,a,g⟩::rest) fr st Q:=ab.pw hH hg ha hR hj hr (by rw[Pd];exact hd) hp h
variable{z:Int}
theorem ab.dX {t ow:TypeId} {xo:Operand} {x:Int} (hg:aD ops fr ⟨some dst,.binOp .add t xo yo ow,ty,pp,a,g⟩=some true) (hx:fr.ev xo=.int k x) (hy:fr.ev yo=.int k y) (hz:bp k (x+y)=z) (hp:fr.put dst (.int k z)=aG) (h:ab P ops rest aG st Q):ab P ops (⟨some dst,.binOp .add t xo yo ow,ty,pp,a,g⟩::rest) fr st Q:=by
 refine ab.go hg rfl (d:=.int k z) (st1:=st) ?_ hp h;simp only[dN,hx,hy,fp,wF,if_pos trivial,δ,hz]
theorem ab.eK {t ow:TypeId} {xo:Operand} {x:Int} (hg:aD ops fr ⟨some dst,.binOp .sub t xo yo ow,ty,pp,a,g⟩=some true) (hx:fr.ev xo=.int k x) (hy:fr.ev yo=.int k y) (hz:bp k (x-y)=z) (hp:fr.put dst (.int k z)=aG) (h:ab P ops rest aG st Q):ab P ops (⟨some dst,.binOp .sub t xo yo ow,ty,pp,a,g⟩::rest) fr st Q:=by
 refine ab.go hg rfl (d:=.int k z) (st1:=st) ?_ hp h;simp only[dN,hx,hy,fp,wF,if_pos trivial,δ,hz]
theorem ab.A6 {t ow:TypeId} {xo:Operand} {x:Int} (hg:aD ops fr ⟨some dst,.binOp .mul t xo yo ow,ty,pp,a,g⟩=some true) (hx:fr.ev xo=.int k x) (hy:fr.ev yo=.int k y) (hz:bp k (x*y)=z) (hp:fr.put dst (.int k z)=aG) (h:ab P ops rest aG st Q):ab P ops (⟨some dst,.binOp .mul t xo yo ow,ty,pp,a,g⟩::rest) fr st Q:=by
 refine ab.go hg rfl (d:=.int k z) (st1:=st) ?_ hp h;simp only[dN,hx,hy,fp,wF,if_pos trivial,δ,hz]
theorem ab.PE {t ow:TypeId} {xo:Operand} {y:D} {b:Bool} (hg:aD ops fr ⟨some dst,.binOp .neq t xo yo ow,ty,pp,a,g⟩=some true) (hx:fr.ev xo=x) (hy:fr.ev yo=y) (hb:fp P .neq t x y=some (.bool b)) (hp:fr.put dst (.bool b)=aG) (h:ab P ops rest aG st Q):ab P ops (⟨some dst,.binOp .neq t xo yo ow,ty,pp,a,g⟩::rest) fr st Q:=by
 refine ab.go hg rfl (d:=.bool b) (st1:=st) ?_ hp h;simp only[dN,hx,hy,hb,δ]
variable{body:Code}{args loc:List D}
theorem Ev.eH {x:Fi} {st:St} {Kg:D→St→Prop} (hq:m_ f P.prm=none) (hf:P.fi f=some x) (hp:x.l7=none) (hb:x.fn.body=some body) (ID:pad x.nloc args=⟨n,loc,[]⟩) (h:ag P x.dyn body ⟨n,loc,[]⟩ (ae x.mode st) fun o fr st1=>(∀i,o≠.exit i)∧∃ds d ah,l4 P fr st1 x.fn.results.toList=some ds∧dj x.mode x.knul st st1 (wA ds)=some (d,ah)∧Kg d ah):∃d ah,Ev P f args st d ah∧Kg d ah:=by
 unfold ag at h;obtain⟨o,aG,st1,hN,ho,ds,d,ah,hr,hl,IB⟩:=h;refine⟨d,ah,Ev.iu hq hf hp hb ID ?_,IB⟩;unfold ag;exact⟨o,aG,st1,hN,ho,ds,hr,hl⟩
def Ki (M:Fr→St→Prop) (Q:Out→Fr→St→Prop):Out→Fr→St→Prop
 | .next,fr,st=>M fr st
 | .exit i,fr,st=>Q (.exit i) fr st
 | .ret,fr,st=>Q .ret fr st
theorem ag.merge {P:Pv} {c:Code} {fr:Fr} {st:St} {Q:Out→Fr→St→Prop} (M:Fr→St→Prop) (h1:ag P dy c fr st (Ki M Q)) (h2:∀aG ah,M aG ah→Q .next aG ah):ag P dy c fr st Q:=
 h1.mono fun o aG ah h=>by
  cases o with
  |next=>exact h2 _ _ h
  |exit i=>exact h
  |ret=>exact h
theorem ab.Ye {t ow:TypeId} {xo:Operand} {x y:Nat} (hg:aD ops fr ⟨some dst,.binOp .add t xo yo ow,ty,pp,a,g⟩=some true) (hx:fr.ev xo=.int .i64 (x:Nat)) (hy:fr.ev yo=.int .i64 (y:Nat)) (h2:x+y≤9223372036854775807) (hp:fr.put dst (.int .i64 ((x+y:Nat):Int))=aG) (h:ab P ops rest aG st Q):ab P ops (⟨some dst,.binOp .add t xo yo ow,ty,pp,a,g⟩::rest) fr st Q:=
 ab.dX hg hx hy (by rw[wrap_i64 z0 z0];rfl) hp h
theorem Ev.CL {x:Fi} {st:St} {Kg:D→Prop} (hq:m_ f P.prm=none) (hf:P.fi f=some x) (hp:x.l7=none) (hb:x.fn.body=some body) (ID:pad x.nloc args=⟨n,loc,[]⟩) (h:ag P x.dyn body ⟨n,loc,[]⟩ (ae x.mode st) fun o fr st1=>(∀i,o≠.exit i)∧∃ds d,l4 P fr st1 x.fn.results.toList=some ds∧dj x.mode x.knul st st1 (wA ds)=some (d,st)∧Kg d):∃d,Ev P f args st d st∧Kg d:=by
 unfold ag at h;obtain⟨o,aG,st1,hN,ho,ds,d,hr,hl,IB⟩:=h;refine⟨d,Ev.iu hq hf hp hb ID ?_,IB⟩;unfold ag;exact⟨o,aG,st1,hN,ho,ds,hr,hl⟩
def aI (loc:List D) (ws:List Nat) (f:Nat→D):List D:=ws.foldl (fun l w=>l.set w (f w)) loc
theorem ag.mH {P:Pv} {d n loc tmp st} {Q:Out→Fr→St→Prop} (t:Nat) (v:D) (ws:List Nat) (h1:ab P l.toArray l ⟨n,loc,[]⟩ st fun aG ah=>∃f tmp,aG=⟨n,(aI loc ws f).set t v,tmp⟩∧ah=st) (h2:∀f tmp,Q .next ⟨n,(aI loc ws f).set t v,tmp⟩ st) (h0:iU i dy=[]:=by rfl):ag P dy (.region i l.toArray d) ⟨n,loc,tmp⟩ st Q:=by
 refine ag.ei ?_ h0;unfold ab at h1⊢;obtain⟨aG,ah,h3,f,Nk,rfl,rfl⟩:=h1;exact⟨_,_,h3,h2 _ _⟩
theorem ag.da {P:Pv} {d n loc tmp st} {Q:Out→Fr→St→Prop} (t:Nat) (v:D) (ws:List Nat) (h1:ab P l.toArray l ⟨n,loc,[]⟩ st fun aG ah=>∃f tmp,aG=⟨n,aI loc ws f,tmp⟩∧ah=st∧look t tmp=v) (h2:∀f tmp,look t tmp=v→Q .next ⟨n,aI loc ws f,tmp⟩ st) (h0:iU i dy=[]:=by rfl):ag P dy (.region i l.toArray d) ⟨n,loc,tmp⟩ st Q:=by
 refine ag.ei ?_ h0;unfold ab at h1⊢;obtain⟨aG,ah,h3,f,Nk,rfl,rfl,h4⟩:=h1;exact⟨_,_,h3,h2 _ _ h4⟩
variable{ym:List (Nat×D)}{ws:List Nat}
theorem aX {L:List D} {v:D} {st:St} (h:L=(aI loc ws (fun k=>nth .bo L k)).set t v):∃(f:Nat→D) (tmp:List (Nat×D)),(⟨n,L,ym⟩:Fr)=⟨n,(aI loc ws f).set t v,tmp⟩∧st=st:=⟨_,ym,by rw[←h],rfl⟩
theorem aO {L:List D} {v:D} {st:St} (h:L=aI loc ws (fun k=>nth .bo L k)) (h2:look t ym=v):∃(f:Nat→D) (tmp:List (Nat×D)),(⟨n,L,ym⟩:Fr)=⟨n,aI loc ws f,tmp⟩∧st=st∧look t tmp=v:=⟨_,ym,by rw[←h],rfl,h2⟩
theorem xZ {x y:Oper} {fi fj:Fr} {si tJ sj Kl:St} {a:Operand} {k off v:Nat} (hy:jb y.op=none) (hx:jb x.op=some a) (ha:fi.ev a=.ptr k aB off) (h1:sj.bs[k]?=some (.mem v ar c)) (h2:Kl.bs[k]?=some (.mem v ar c)) (h3:si.bs[k]?=some (.mem v ar c)) (hr:refs c=0):jW x fi si tJ y fj sj Kl=true:=by
 unfold jW;simp only[hy,hx,ha,D.oV,χ];refine⟨rb h1 h2,?_⟩;unfold oF;simp only[h3,hr]
 split
 ·rfl
 ·simp
def fg (x:D) (s:Nat) (es:List (List D)):Prop:=(x=.nul∧es=[])∨∃ds,x=.sl ds∧ds.map Qat=es∧∀d∈ds,d.cells?=some d.cells∧d.cells.length=s
theorem fg.rows (h:fg x s es) (st:St):Rows st s x es:=by
 rcases h with⟨rfl,rfl⟩|⟨ds,rfl,rfl,h⟩
 ·exact .nul
 ·exact .sl ds h
theorem fg.ref (h:fg x s es):x.ref=0:=by
 rcases h with⟨rfl,rfl⟩|⟨ds,rfl,rfl,h⟩<;>rfl
theorem fg.arg (h:fg x s es) (N:Nat) (S:St):Arg N S s x es:=⟨h.rows S,by rw[h.ref];omega⟩
theorem fg.cells (h:fg x s es):x.cells?=some [x]∧x.cells=[x]:=by
 rcases h with⟨rfl,rfl⟩|⟨ds,rfl,rfl,h⟩<;>exact⟨rfl,rfl⟩
theorem fg.freeze (h:fg x s es) (st:St) (N n:Nat):∃y,ba st N false (n+1) x=some y∧fg y s es:=by
 rcases h with⟨rfl,rfl⟩|⟨ds,rfl,rfl,h⟩
 ·exact⟨.sl [],rfl,.inr ⟨[],rfl,rfl,fun d hd=>by cases hd⟩⟩
 ·exact⟨.sl ds,rfl,.inr ⟨ds,rfl,rfl,h⟩⟩
theorem fg.frozen (h:∀e∈es,e.length=s) (hp:∀e∈es,∀d∈e,cD d=true):fg (.sl (es.map (kO s))) s es:=by
 refine .inr ⟨_,rfl,?_,fun d hd=>?_⟩
 ·rw[Qba]
  conv=>rhs;rw[←Qbc es]
  refine Qb1 fun e he=>?_;exact(oe (h e he) (hp e he)).2
 ·obtain⟨e,he,rfl⟩:=Qaq.1 hd;obtain⟨h1,h2⟩:=oe (h e he) (hp e he);exact⟨h1,by rw[h2];exact h e he⟩
theorem fg.part {P:Pv} {st:St} {t e:TypeId} {l r:Nat} {lo hi:Option D} (h:fg x s es) (ht:P.cy t=some (.slice e)) (hs:cz P e=some s) (hb:bZ es.length lo hi=some (l,r)):∃y,fM P t x lo hi st=some y∧fg y s ((es.take r).drop l):=by
 rcases h with⟨rfl,rfl⟩|⟨ds,rfl,rfl,h⟩
 ·simp only[IT] at hb;refine⟨.nul,?_,.inl ⟨rfl,by simp⟩⟩;simp only[fM,ht,hs,γ,hb,δ]
 ·rw[Qad] at hb;refine⟨.sl ((ds.take r).drop l),?_,.inr ⟨_,rfl,by rw[Qb6,Qb7],fun d hd=>h d (GB (Qaj hd))⟩⟩;simp only[fM,ht,hs,γ]
  rw[if_pos (by
   cases ds with
   |nil=>rfl
   |cons d ds=>obtain⟨h1,h2⟩:=h d (κ ..);simp[oQ,h1,h2])]
  simp only[hb,δ]
theorem ab.Ny {P:Pv} {ops:Array Oper} {rest:List Oper} {fr:Fr} {st:St} {Q:Fr→St→Prop} {ty:TypeId} {pp:String} {a:Array Edge} {g:Option (Nat×Bool)} {dst:Nat} {t e:TypeId} {xo:Operand} {lo hi:Option Operand} {l r:Nat} {aG:D→Fr} (hg:aD ops fr ⟨some dst,.slice t xo lo hi none,ty,pp,a,g⟩=some true) (hx:fr.ev xo=x) (hR:fg x s es) (ht:P.cy t=some (.slice e)) (hs:cz P e=some s) (hb:bZ es.length (lo.map fr.ev) (hi.map fr.ev)=some (l,r)) (hp:∀y,fr.put dst y=aG y) (h:∀y,fg y s ((es.take r).drop l)→ab P ops rest (aG y) st Q):ab P ops (⟨some dst,.slice t xo lo hi none,ty,pp,a,g⟩::rest) fr st Q:=by
 obtain⟨y,h1,h2⟩:=hR.part (st:=st) ht hs hb;refine ab.go hg rfl (d:=y) (st1:=st) ?_ (hp y) (h y h2);simp only[dN,hx,h1,δ]
end Go.V
namespace Go.V
inductive cO {α β:Type} (R:α→β→Prop):List α→List β→Prop where
 |nil:cO R [] []
 |cons {a:α} {b:β} {l:List α} {m:List β} (h:R a b) (t:cO R l m):cO R (a::l) (b::m)
theorem cO.mono {α β:Type} {R R':α→β→Prop} (h:∀a b,R a b→R' a b):∀{l:List α} {m:List β},cO R l m→cO R' l m
 |_,_,.nil=>.nil
 |_,_,.cons a t=>.cons (h _ _ a) (t.mono h)
theorem cO.append {α β:Type} {R:α→β→Prop}:∀{l l':List α} {m m':List β},cO R l m→cO R l' m'→cO R (l++l') (m++m')
 |_,_,_,_,.nil,h=>h
 |_,_,_,_,.cons a t,h=>.cons a (t.append h)
theorem cO.len {α β:Type} {R:α→β→Prop}:∀{l:List α} {m:List β},cO R l m→l.length=m.length
 |_,_,.nil=>rfl
 |_,_,.cons a t=>by simp[t.len]
def Ip:D→Bool
 | .sl _=>true
 |_=>false
inductive fT (bb:Bool) (st:St) (ks:Nat→Prop):D→D→Prop where
 |plain (d:D) (h:cD d=true) (h2:(!(Ip d)||bb)=true:=by rfl):fT bb st ks d d
 |aC (w:D) (s:Nat) (rs:List (List D)) (h:i7 st s w rs) (hp:∀e∈rs,∀d∈e,cD d=true) (hk:∀k,w.ref=k+1→ks k):fT bb st ks w (.sl (rs.map (kO s)))
abbrev mD:=fT true
variable{bb:Bool}
variable{ks MR:Nat→Prop}{d v:D}
theorem fT.mono {st:St} (h:∀k,ks k→MR k) (p:fT bb st ks d v):fT bb st MR d v:=by
 cases p with
 |plain h h2=>exact .plain d h h2
 |aC s rs h1 h2 h3=>exact .aC d s rs h1 h2 fun k hk=>h k (h3 k hk)
variable{ah:St}
theorem fT.move {st:St} (h:∀k,ks k→ah.bs[k]?=st.bs[k]?) (p:fT bb st ks d v):fT bb ah ks d v:=by
 cases p with
 |plain h h2=>exact .plain d h h2
 |aC s rs h1 h2 h3=>exact .aC d s rs (h1.move fun k hk=>h k (h3 k hk)) h2 h3
variable{s:Nat}{x:D}{es:List (List D)}
theorem i7.Qb {st:St} {N:Nat} (h:i7 st s x es) (hN:∀k,x.ref=k+1→N≤k) (hp:∀e∈es,∀d∈e,cD d=true) (n:Nat):fu st N (n+2) x=some (.sl (es.map (kO s))):=by
 cases h with
 |nul=>rfl
 |win k aB off es c hm hl hc he=>
  have:=hN k (by simp only[Γ]);rw[fu];simp only[if_neg (show¬k<N by omega),St.mem_of hm,γ]
  rw[if_pos hl,hc,l9 (fun d hd=>by
   obtain⟨e,tv,EY⟩:=Qas.1 hd
   exact hp e tv d EY)]
  simp only[δ,gX he]
theorem fT.pure {st:St} {N:Nat} (hN:∀k,ks k→N≤k) (p:fT bb st ks d v) (n:Nat):fu st N (n+2) d=some v:=by
 cases p with
 |plain h h2=>cases d<;>simp[cD] at h<;>rfl
 |aC s rs h1 h2 h3=>exact h1.Qb (fun k hk=>hN k (h3 k hk)) h2 n
theorem rK {f:D→Option D} {R:D→D→Prop} (h:∀a b,R a b→f a=some b):∀{l m:List D},cO R l m→iK f l=some m
 |_,_,.nil=>rfl
 |_,_,.cons a t=>by simp only[iK,h _ _ a,rK h t]
theorem cO.flat {R:D→D→Prop}:∀{l m:List (List D)},cO (cO R) l m→cO R l.flatten m.flatten
 |_,_,.nil=>.nil
 |_,_,.cons a t=>by simp only[Δ];exact a.append t.flat
theorem cO.each {R:D→D→Prop}:∀{l m:List (List D)},cO (cO R) l m→(∀e∈l,e.length=s)→∀e∈m,e.length=s
 |_,_,.nil,_,e,he=>by cases he
 |_,_,.cons a t,h,e,he=>by
  rcases Qay.1 he with rfl|he
  ·rw[←a.len];exact h _ (κ ..)
  ·exact t.each (fun x hx=>h x (μ _ hx)) e he
def a8.emp:a8:=⟨fun _=>False,fun _=>True,fun _ p=>p⟩
def a8.cP (bb:Bool) (ks:Nat→Prop) (x:D) (s:Nat) (vs:List (List D)):a8:=
 ⟨fun j=>x.ref=j+1∨ks j,fun st=>(∃es,i7 st s x es∧cO (cO (fT bb st ks)) es vs)∧∀k,x.ref=k+1→¬ks k,fun h p=>by
  obtain⟨⟨es,h1,h2⟩,h3⟩:=p
  exact⟨⟨es,h1.move fun k hk=>h k (.inl hk),h2.mono fun a b=>cO.mono fun c d=>fT.move fun k hk=>h k (.inr hk)⟩,h3⟩⟩
abbrev a8.deep:=a8.cP true
variable{N:Nat} {S st:St} {H:List a8}
theorem Has.K_ (h:Has N S st H) (s:Nat) (bb:Bool:=true):Has N S st (.cP bb (fun _=>False) .nul s []::H):=
 h.add (fun _ _=>rfl) (υ _) rfl rfl ⟨⟨[],.nul,.nil⟩,fun k hk=>by simp only[Γ] at hk;omega⟩ fun k hk=>by
  rcases hk with hk|hk
  ·simp only[Γ] at hk;omega
  ·exact hk.elim
variable{i j:Nat}{vs:List (List D)}
theorem Has.zC {w:D} {sw:Nat} {rs:List (List D)} (h:Has N S st H) (hij:i≠j) (hi:H[i]?=some (.aC w sw rs)) (hj:H[j]?=some (.cP bb ks x s vs)) (hp:∀e∈rs,∀d∈e,cD d=true):
  Has N S st ((H.set i .emp).set j (.cP bb (fun k=>ks k∨w.ref=k+1) x s vs))∧fT bb st (fun k=>ks k∨w.ref=k+1) w (.sl (rs.map (kO sw))):=by
 have hwo:=h.own hi;obtain⟨⟨es,h1,h2⟩,h3⟩:=(h.ok j _ hj).1;have hKi:=(h.ok i _ hi).2;have Zx:=(h.ok j _ hj).2;have Wd:=h.dis i j _ _ hij hi hj;refine⟨⟨h.ex,h.hN,h.db,fun n e hn=>?_,fun a b ea eb hab ha hb k pO jj=>?_⟩,.aC w sw rs hwo hp fun k hk=>.inr hk⟩
 ·by_cases hnj:n=j
  ·subst hnj;rw[ι (by rw[Θ];exact bc hj)] at hn;cases hn;refine⟨⟨⟨es,h1,h2.mono fun a b=>cO.mono fun c d=>fT.mono fun k hk=>.inl hk⟩,fun k hk=>?_⟩,fun k hk=>?_⟩
   ·rintro(hk2|hk2)
    ·exact h3 k hk hk2
    ·exact Wd k hk2 (.inl hk)
   ·rcases hk with hk|hk|hk
    ·exact Zx k (.inl hk)
    ·exact Zx k (.inr hk)
    ·exact hKi k hk
  ·rw[ε (fun e=>hnj e.symm)] at hn
   by_cases hni:n=i
   ·subst hni;rw[ι (bc hi)] at hn;cases hn;exact⟨trivial,fun k hk=>hk.elim⟩
   ·rw[ε (fun e=>hni e.symm)] at hn;exact h.ok n e hn
 ·have key:∀n e,((H.set i .emp).set j (.cP bb (fun k=>ks k∨w.ref=k+1) x s vs))[n]?=some e→∀k,e.K k→(n=j∧((a8.cP bb ks x s vs).K k∨(a8.aC w sw rs).K k))∨(n≠j∧n≠i∧H[n]?=some e):=by
   intro n e hn k hk
   by_cases hnj:n=j
   ·subst hnj;rw[ι (by rw[Θ];exact bc hj)] at hn;cases hn;refine .inl ⟨rfl,?_⟩
    rcases hk with hk|hk|hk
    ·exact .inl (.inl hk)
    ·exact .inl (.inr hk)
    ·exact .inr hk
   ·rw[ε (fun e=>hnj e.symm)] at hn
    by_cases hni:n=i
    ·subst hni;rw[ι (bc hi)] at hn;cases hn;exact hk.elim
    ·rw[ε (fun e=>hni e.symm)] at hn;exact .inr ⟨hnj,hni,hn⟩
  rcases key a ea ha k pO with⟨h4,h5⟩|⟨h4,h5,h6⟩<;>rcases key b eb hb k jj with⟨g4,g5⟩|⟨g4,g5,g6⟩
  ·exact hab (h4.trans g4.symm)
  ·rcases h5 with h5|h5
   ·exact h.dis j b _ _ (fun e=>g4 e.symm) hj g6 k h5 jj
   ·exact h.dis i b _ _ (fun e=>g5 e.symm) hi g6 k h5 jj
  ·rcases g5 with g5|g5
   ·exact h.dis a j _ _ h4 h6 hj k pO g5
   ·exact h.dis a i _ _ h5 h6 hi k pO g5
  ·exact h.dis a b _ _ hab h6 g6 k pO jj
variable{P:Pv}{y:D}{ys G2:List (List D)}{z:List D}
theorem Has.p_ (hH:Has N S st H) (hj:H[j]?=some (.cP bb ks x s vs)) (hy:Rows st s y ys) (hd:cO (cO (fT bb st ks)) ys G2) {t1 t2 e:TypeId} {td:TypeDesc} {inf:TypeInfo} (h1:P.cy t1=some (.slice e)) (h2:P.cy t2=some td) (h3:fh td=false) (h4:P.info e=some inf) (h5:dc P e=some z) (h6:inf.size=s) (h7:z.length=s) (h8:0<inf.bytes∧inf.bytes≤1024) (o6:vs.length+ys.length≤1073741824) (hw:S.flr≤N∨refs ys.flatten=0):
  ∃x' ah,bu P .append [t1,t2] [x,y] st=some (x',ah)∧Has N S ah (H.set j (.cP bb ks x' s (vs++G2))):=by
 obtain⟨⟨es,iI,wy⟩,he3⟩:=(hH.ok j _ hj).1;have hK:=(hH.ok j _ hj).2;have hlen:=wy.len
 have zg:Has N S st [.aC x s es]:=by
  refine⟨hH.ex,hH.hN,hH.db,fun i e hi=>?_,fun i i' a b hii ha hb k pO jj=>?_⟩
  ·cases i with
   |zero=>simp only[IN,OF.injEq] at hi;subst hi;exact⟨iI,fun k hk=>hK k (.inl hk)⟩
   |succ i=>simp at hi
  ·cases i with
   |zero=>cases i' with
    |zero=>exact hii rfl
    |succ i'=>simp at hb
   |succ i=>simp at ha
 obtain⟨x',ah,q1,q2,q3⟩:=zg.append (j:=0) aJ hy h1 h2 h3 h4 h5 h6 h7 h8 z0 hw;refine⟨x',ah,q1,?_⟩;have hown:=q2.own (j:=0) aJ
 have RR:(∀k,k<st.bs.length→x.ref≠k+1→ah.bs[k]?=st.bs[k]?)∧st.bs.length≤ah.bs.length∧ah.flr=st.flr∧ah.ro=st.ro∧(∀k,x'.ref=k+1→x.ref=k+1∨st.bs.length≤k):=by
  have jI:=hy.row
  have B_:∀e∈ys,e.length=s:=fun e he=>by
   obtain⟨i,hi⟩:=Qa4 he;exact hy.vO i e hi
  simp only[bu,iG,h1,h2,h3,Qan,if_false,h4,h5,jI,γ] at q1
  split at q1
  ·cases q1
  ·cases iI with
   |nul=>
    simp only at q1
    split at q1
    ·cases q1;exact⟨fun _ _ _=>rfl,υ _,rfl,rfl,fun k hk=>.inl hk⟩
    ·split at q1
     ·cases q1;exact⟨fun k hk _=>by simp only[Ω];rw[ρ hk],by simp[Ω],rfl,rfl,fun k hk=>.inr (by simp only[Γ] at hk;omega)⟩
     ·cases q1
   |win k aB off es c hm hl hc he=>
    simp only[St.mem_of hm] at q1
    split at q1
    ·cases q1
    ·split at q1
     ·cases q1;exact⟨fun _ _ _=>rfl,υ _,rfl,rfl,fun k hk=>.inl hk⟩
     ·split at q1
      ·cases q1;exact⟨fun n hn hne=>by simp only;rw[ε (fun e=>hne (by simp only[Γ];omega))],by simp,rfl,rfl,fun n hn=>.inl (by simp only[Γ] at hn⊢;exact hn)⟩
      ·cases q1
 obtain⟨c1,c2,c3,c4,c5⟩:=RR;have QK:=(q2.ok 0 _ aJ).2;have s8:∀k,ks k→ah.bs[k]?=st.bs[k]?:=fun k hk=>c1 k (hK k (.inr hk)).2 fun e=>he3 k e hk;refine hH.D2 hj (fun k hk hne=>c1 k hk fun e=>hne (.inl e)) c2 c3 c4 ⟨⟨es++ys,hown,?_⟩,fun k hk kE=>?_⟩ (fun k hk=>?_) fun k hk=>?_
 ·exact(wy.mono fun a b=>cO.mono fun c d=>fT.move s8).append (hd.mono fun a b=>cO.mono fun c d=>fT.move s8)
 ·rcases c5 k hk with h|h
  ·exact he3 k h kE
  ·have:=(hK k (.inr kE)).2;omega
 ·rcases hk with hk|hk
  ·rcases c5 k hk with h|h
   ·exact .inl (.inl h)
   ·exact .inr h
  ·exact .inl (.inr hk)
 ·rcases hk with hk|hk
  ·exact(QK k hk).2
  ·exact Qa9 (hK k (.inr hk)).2 c2
variable{ops:Array Oper}{rest:List Oper}{fr:Fr}{Q:Fr→St→Prop}{pp:String}{a:Array Edge}{g:Option (Nat×Bool)}{dst:Nat}
theorem ab.p_ {ty:TypeId} {t1 t2 e:TypeId} {td:TypeDesc} {inf:TypeInfo} {xo yo:Operand} {aG:D→Fr} (hH:Has N S st H) (hg:aD ops fr ⟨some dst,.call ⟨.builtin .append,#[xo,yo],#[t1,t2]⟩,ty,pp,a,g⟩=some true) (hx:fr.ev xo=x) (hy:fr.ev yo=y) (hj:H[j]?=some (.cP bb ks x s vs)) (kD:Rows st s y ys) (hd:cO (cO (fT bb st ks)) ys G2) (h1:P.cy t1=some (.slice e)) (h2:P.cy t2=some td) (h3:fh td=false) (h4:P.info e=some inf) (h5:dc P e=some z) (h6:inf.size=s) (h7:z.length=s) (h8:0<inf.bytes∧inf.bytes≤1024) (hp:∀x',fr.put dst x'=aG x') (hb:vs.length+ys.length≤1073741824) (hw:S.flr≤N∨refs ys.flatten=0) (h:∀x' ah,Has N S ah (H.set j (.cP bb ks x' s (vs++G2)))→ab P ops rest (aG x') ah Q):
  ab P ops (⟨some dst,.call ⟨.builtin .append,#[xo,yo],#[t1,t2]⟩,ty,pp,a,g⟩::rest) fr st Q:=by
 obtain⟨x',ah,q1,q2⟩:=hH.p_ hj kD hd h1 h2 h3 h4 h5 h6 h7 h8 hb hw;refine ab.go hg rfl (d:=x') (st1:=ah) ?_ (hp _) (h x' ah q2);simp only[dN,ο,wt,hx,hy];exact q1
variable{n:Nat}
theorem Has.vE (hH:Has N S st H) (hj:H[j]?=some (.cP bb ks x s vs)) (hn:4≤n):ba st N false (n+1) x=some (.sl (vs.map (kO s))):=by
 obtain⟨n,rfl⟩:∃m,n=m+4:=⟨n-4,by omega⟩
 obtain⟨⟨es,h1,h2⟩,h3⟩:=(hH.ok j _ hj).1;have hK:=(hH.ok j _ hj).2
 cases h1 with
 |nul=>cases h2;rfl
 |win k aB off es c hm hl hc he=>
  have hk:=hK k (.inl (by simp only[Γ]));show(if k<N then some (D.win k aB off es.length s) else fu st N (n+4) (.win k aB off es.length s))=_;rw[if_neg (show¬k<N by omega),fu];simp only[if_neg (show¬k<N by omega),St.mem_of hm,γ];rw[if_pos hl,hc,rK (fun a b hab=>hab.pure (fun k hk=>(hK k (.inr hk)).1) (n+1)) h2.flat];simp only[δ];rw[h2.len,gX (h2.each he)]
theorem Has.n_ (hH:Has N S st H) (hj:H[j]?=some (.aC x s es)) (hp:∀e∈es,∀d∈e,cD d=true) (hn:3≤n):ba st N false n x=some (.sl (es.map (kO s))):=by
 obtain⟨n,rfl⟩:∃m,n=m+1:=⟨n-1,by omega⟩
 exact hH.freeze hj hp z0
variable{k aB:Nat}{ar:Bool}{c:List D}
theorem Has.i_ {a off:Nat} {t:TypeId} (hH:Has N S st H) (ha:fr.get a=.ptr k aB off) (hj:H[j]?=some (.box k (.mem aB ar c))) (hd:dY P t (c.drop off)=some d):l4 P fr st [.cell a t]=some [d]:=by
 simp only[l4,iM,ha,St.mem_of (hH.at hj),γ,hd,δ]
theorem i7.cells (h:i7 st s x es):x.cells?=some [x]:=by cases h<;>rfl
theorem Has.nB (hH:Has N S st H) (hj:H[j]?=some (.cP bb ks x s vs)):x.cells?=some [x]:=by
 obtain⟨⟨es,h1,_⟩,_⟩:=(hH.ok j _ hj).1;exact h1.cells
theorem Has.eO (hH:Has N S st H) (hj:H[j]?=some (.aC x s es)):x.cells?=some [x]:=(hH.own hj).cells
def Dw (fr:Fr):List (Nat×Operand)→List (Nat×D)→Prop
 |[],[]=>True
 |(i,o)::ps,(j,d)::qs=>i=j∧fr.ev o=d∧d.cells?=some [d]∧Dw fr ps qs
 |_,_=>False
theorem xK {fr:Fr} {pl:Nat→Option (Nat×Nat)}:∀{ps:List (Nat×Operand)} {qs:List (Nat×D)} {z:List D},Dw fr ps qs→(∀q∈qs,pl q.1=some (q.1,1)∧q.1<z.length)→jz pl z (ps.map fun p=>(p.1,fr.ev p.2))=some (qs.foldl (fun l q=>l.set q.1 q.2) z)
 |[],[],z,_,_=>rfl
 |(i,o)::ps,(j,d)::qs,z,h,hp=>by
  obtain⟨rfl,h2,h3,h4⟩:=h;obtain⟨h5,h6⟩:=hp (i,d) (κ ..);simp only[ο,jz,h2,h3,h5,List.foldl_cons];rw[if_neg (by simp only[ξ,IT];simp only at h6;omega)];simp only[setMany]
  exact xK h4 fun q hq=>by
   have:=hp q (μ _ hq)
   simpa using this
 |[],_::_,_,h,_=>h.elim
 |_::_,[],_,h,_=>h.elim
variable{aG:Fr}
theorem ab.hU {ty:TypeId} {t:TypeId} {parts:Array (Nat×Operand)} {cs:List D} {fields:Array Field} {ps:List (Nat×Nat)} {qs:List (Nat×D)} (hg:aD ops fr ⟨some dst,.build t parts,ty,pp,a,g⟩=some true) (hz:dc P t=some z) (hu:P.cy t=some (.struct fields)) (EO:nR P fields.toList=some ps) (he:Dw fr parts.toList qs) (ia:∀q∈qs,ps[q.1]?=some (q.1,1)∧q.1<z.length) (kh:qs.foldl (fun l q=>l.set q.1 q.2) z=cs) (hp:fr.put dst (.agg cs)=aG) (h:ab P ops rest aG st Q):ab P ops (⟨some dst,.build t parts,ty,pp,a,g⟩::rest) fr st Q:=by
 refine ab.go hg rfl (d:=.agg cs) (st1:=st) ?_ hp h;simp only[dN,zy,hz,hu,EO];rw[xK (pl:=fun i=>ps[i]?) he ia,kh];rfl
theorem ab.IX {ty:TypeId} {t e:TypeId} {aG:Nat→Fr} (hH:Has N S st H) (hg:aD ops fr ⟨some dst,.buildSlice t 0 #[],ty,pp,a,g⟩=some true) (ht:P.cy t=some (.slice e)) (hs:cz P e=some s) (hz:dc P e=some z) (mz:z.length=s) (hp:∀k,fr.put dst (.win k 0 0 0 s)=aG k) (h:∀k ah,S.bs.length≤k→Has N S ah (.aC (.win k 0 0 0 s) s []::H)→ab P ops rest (aG k) ah Q):ab P ops (⟨some dst,.buildSlice t 0 #[],ty,pp,a,g⟩::rest) fr st Q:=
 ab.EU (vs:=[]) hH hg ht hs hz mz z0 trivial rfl (fun v hv=>by cases hv) hp h
theorem Has.dR {a off u:Nat} {t:TypeId} {e:D} (hH:Has N S st H) (ha:fr.get a=.ptr k aB off) (hj:H[j]?=some (.box k (.mem aB ar c))) (hd:dY P t (c.drop off)=some d) (he:fr.get u=e):l4 P fr st [.cell a t,.tmp u]=some [d,e]:=by
 simp only[l4,iM,ha,St.mem_of (hH.at hj),γ,hd,δ,he]
theorem ab.Jh {ty:TypeId} {t e:TypeId} {xo io:Operand} {v off m o:Nat} {kk:IntKind} (hg:aD ops fr ⟨some dst,.indexAddr t xo io,ty,pp,a,g⟩=some true) (hx:fr.ev xo=.ptr k v off) (hi:fr.ev io=.int kk (i:Nat)) (ht:P.cy t=some (.array m e)) (hs:cz P e=some s) (hlt:i<m) (ho:off+i*s=o) (hp:fr.put dst (.ptr k v o)=aG) (h:ab P ops rest aG st Q):ab P ops (⟨some dst,.indexAddr t xo io,ty,pp,a,g⟩::rest) fr st Q:=by
 subst ho;refine ab.go hg rfl (d:=.ptr k v (off+i*s)) (st1:=st) ?_ hp h;simp only[dN,hx,hi,bX,ht,hs,γ];rw[if_pos ⟨by omega,by omega⟩];rfl
theorem mD.mono {st:St} (h:∀k,ks k→MR k) (p:mD st ks d v):mD st MR d v:=fT.mono h p
theorem mD.move {st:St} (h:∀k,ks k→ah.bs[k]?=st.bs[k]?) (p:mD st ks d v):mD ah ks d v:=fT.move h p
end Go.V
namespace Go.V
variable{P:Pv} {ops:Array Oper} {rest:List Oper} {fr aG:Fr} {st st1:St} {Q:Fr→St→Prop} {ty:TypeId} {pp:String} {a:Array Edge} {g:Option (Nat×Bool)} {dst:Nat} {N:Nat} {S:St} {H:List a8} {d:D} {op:Op}
theorem qm {op:Op} {x:Operand} {d:D} (h:ab P ops rest aG st Q) (ib:op=.move x∨op=.assign x:=by first|exact .inl rfl|exact .inr rfl) (hg:aD ops fr ⟨some dst,op,ty,pp,a,g⟩=some true:=by exact rfl) (hx:fr.ev x=d:=by exact ev rfl) (hp:fr.put dst d=aG:=by first|exact aa rfl _|(dsimp only[Fr.put,List.set_cons_succ,List.set_cons_zero]<;>rfl)):ab P ops (⟨some dst,op,ty,pp,a,g⟩::rest) fr st Q:=
 ab.mv (ib:=ib) (hg:=hg) (hx:=hx) (hp:=hp) (h:=h)
theorem qs {op:Op} (h:ab P ops rest aG st Q) (hg:aD ops fr ⟨some dst,op,ty,pp,a,g⟩=some false:=by exact rfl) (hp:fr.put dst (.tup [])=aG:=by first|exact aa rfl _|(dsimp only[Fr.put,List.set_cons_succ,List.set_cons_zero]<;>rfl)):ab P ops (⟨some dst,op,ty,pp,a,g⟩::rest) fr st Q:=
 ab.skip (hg:=hg) (hp:=hp) (h:=h)
variable{k aB f fo m:Nat}{fields:Array Field}
theorem qp {t:TypeId} {xo:Operand} {off o:Nat} (h:ab P ops rest aG st Q) (hg:aD ops fr ⟨some dst,.fieldAddr t xo f,ty,pp,a,g⟩=some true:=by exact rfl) (hx:fr.ev xo=.ptr k aB off:=by exact ev rfl) (ht:P.cy t=some (.struct fields):=by exact rfl) (hf:nz P fields f=some (fo,some (m+1)):=by exact rfl) (ho:off+fo=o:=by exact rfl) (hp:fr.put dst (.ptr k aB o)=aG:=by first|exact aa rfl _|(dsimp only[Fr.put,List.set_cons_succ,List.set_cons_zero]<;>rfl)):ab P ops (⟨some dst,.fieldAddr t xo f,ty,pp,a,g⟩::rest) fr st Q:=
 ab.HP (hg:=hg) (hx:=hx) (ht:=ht) (hf:=hf) (ho:=ho) (hp:=hp) (h:=h)
variable{j:Nat}{ar:Bool}{ao:Operand}
theorem ql {off:Nat} {c:List D} {d:D} {t:TypeId} (hH:Has N S st H) (hj:H[j]?=some (.box k (.mem aB ar c))) (h:ab P ops rest aG st Q) (hg:aD ops fr ⟨some dst,.load t ao,ty,pp,a,g⟩=some true:=by exact rfl) (ha:fr.ev ao=.ptr k aB off:=by exact ev rfl) (hd:dY P t (c.drop off)=some d:=by exact rfl) (hp:fr.put dst d=aG:=by first|exact aa rfl _|(dsimp only[Fr.put,List.set_cons_succ,List.set_cons_zero]<;>rfl)):ab P ops (⟨some dst,.load t ao,ty,pp,a,g⟩::rest) fr st Q:=
 ab.vu (hH:=hH) (hg:=hg) (ha:=ha) (hj:=hj) (hd:=hd) (hp:=hp) (h:=h)
theorem qg {op:Op} {d:D} {st1:St} (h:ab P ops rest aG st1 Q) (hg:aD ops fr ⟨some dst,op,ty,pp,a,g⟩=some true:=by exact rfl) (hc:j5 op=false:=by exact rfl) (h1:dN P fr st op ty=some (d,st1):=by exact rfl) (hp:fr.put dst d=aG:=by first|exact aa rfl _|(dsimp only[Fr.put,List.set_cons_succ,List.set_cons_zero]<;>rfl)):ab P ops (⟨some dst,op,ty,pp,a,g⟩::rest) fr st Q:=
 ab.go (hg:=hg) (hc:=hc) (h1:=h1) (hp:=hp) (h:=h)
variable{x:D}{s:Nat}{es:List (List D)}
theorem qn {t e:TypeId} {xo:Operand} (h:ab P ops rest aG st Q) (hg:aD ops fr ⟨some dst,.call ⟨.builtin .len,#[xo],#[t]⟩,ty,pp,a,g⟩=some true:=by exact rfl) (hx:fr.ev xo=x:=by exact ev rfl) (hR:Rows st s x es:=by exact Arg.rows z5 z5) (ht:P.cy t=some (.slice e):=by exact rfl) (hp:fr.put dst (.int .i64 (es.length:Nat))=aG:=by first|exact aa rfl _|(dsimp only[Fr.put,List.set_cons_succ,List.set_cons_zero]<;>rfl)):ab P ops (⟨some dst,.call ⟨.builtin .len,#[xo],#[t]⟩,ty,pp,a,g⟩::rest) fr st Q:=
 ab.Aw (hg:=hg) (hx:=hx) (hR:=hR) (ht:=ht) (hp:=hp) (h:=h)
variable{io:Operand}{i:Nat}{kk:IntKind}{r:List D}
theorem qr {t e:TypeId} {xo:Operand} {aG:D→Fr} (h:∀p,lj st p r→ab P ops rest (aG p) st Q) (hg:aD ops fr ⟨some dst,.indexAddr t xo io,ty,pp,a,g⟩=some true:=by exact rfl) (hx:fr.ev xo=x:=by exact ev rfl) (hi:fr.ev io=.int kk (i:Nat):=by exact ev rfl) (hR:Rows st s x es:=by exact Arg.rows z5 z5) (ht:P.cy t=some (.slice e):=by exact rfl) (hs:cz P e=some s:=by exact rfl) (hr:es[i]?=some r:=by assumption) (hp:∀p,fr.put dst p=aG p:=by first|exact fun _=>aa rfl _|exact fun _=>by dsimp only[Fr.put,List.set_cons_succ,List.set_cons_zero]<;>rfl):ab P ops (⟨some dst,.indexAddr t xo io,ty,pp,a,g⟩::rest) fr st Q:=
 ab.oG (hg:=hg) (hx:=hx) (hi:=hi) (hR:=hR) (ht:=ht) (hs:=hs) (hr:=hr) (hp:=hp) (h:=h)
theorem qR {t:TypeId} {d:D} (h:ab P ops rest aG st Q) (hg:aD ops fr ⟨some dst,.load t ao,ty,pp,a,g⟩=some true:=by exact rfl) (ha:fr.ev ao=x:=by exact ev rfl) (hR:lj st x r:=by assumption) (hd:dY P t r=some d:=by exact rfl) (hp:fr.put dst d=aG:=by first|exact aa rfl _|(dsimp only[Fr.put,List.set_cons_succ,List.set_cons_zero]<;>rfl)):ab P ops (⟨some dst,.load t ao,ty,pp,a,g⟩::rest) fr st Q:=
 ab.eZ (hg:=hg) (ha:=ha) (hR:=hR) (hd:=hd) (hp:=hp) (h:=h)
theorem qf {t:TypeId} {xo:Operand} {aG:D→Fr} (h:∀p,lj st p (r.drop fo)→ab P ops rest (aG p) st Q) (hg:aD ops fr ⟨some dst,.fieldAddr t xo f,ty,pp,a,g⟩=some true:=by exact rfl) (hx:fr.ev xo=x:=by exact ev rfl) (hR:lj st x r:=by assumption) (ht:P.cy t=some (.struct fields):=by exact rfl) (hf:nz P fields f=some (fo,some (m+1)):=by exact rfl) (hp:∀p,fr.put dst p=aG p:=by first|exact fun _=>aa rfl _|exact fun _=>by dsimp only[Fr.put,List.set_cons_succ,List.set_cons_zero]<;>rfl):ab P ops (⟨some dst,.fieldAddr t xo f,ty,pp,a,g⟩::rest) fr st Q:=
 ab.K1 (hg:=hg) (hx:=hx) (hR:=hR) (ht:=ht) (hf:=hf) (hp:=hp) (h:=h)
theorem qi {t e:TypeId} {xo:Operand} {aG:D→Fr} (hH:Has N S st H) (hj:H[j]?=some (.aC x s es)) (h:∀p,tD x s i 0 p→ab P ops rest (aG p) st Q) (hg:aD ops fr ⟨some dst,.indexAddr t xo io,ty,pp,a,g⟩=some true:=by exact rfl) (hx:fr.ev xo=x:=by exact ev rfl) (hi:fr.ev io=.int kk (i:Nat):=by exact ev rfl) (ht:P.cy t=some (.slice e):=by exact rfl) (hs:cz P e=some s:=by exact rfl) (hr:i<es.length:=by exact bc z5) (hp:∀p,fr.put dst p=aG p:=by first|exact fun _=>aa rfl _|exact fun _=>by dsimp only[Fr.put,List.set_cons_succ,List.set_cons_zero]<;>rfl):ab P ops (⟨some dst,.indexAddr t xo io,ty,pp,a,g⟩::rest) fr st Q:=
 ab.NI (hH:=hH) (hg:=hg) (hx:=hx) (hi:=hi) (hj:=hj) (ht:=ht) (hs:=hs) (hr:=hr) (hp:=hp) (h:=h)
variable{vo:Operand}
theorem qS {c cs:List D} {v:D} {t:TypeId} (hH:Has N S st H) (hj:H[j]?=some (.box k (.mem aB ar c))) (h:∀ah,Has N S ah (H.set j (.box k (.mem aB ar cs)))→ab P ops rest fr ah Q) (hg:aD ops fr ⟨none,.store t ao vo,ty,pp,a,g⟩=some true:=by exact rfl) (ha:fr.ev ao=.ptr k aB 0:=by exact ev rfl) (hv:fr.ev vo=v:=by exact ev rfl) (kh:v.cells?=some cs:=by first|rfl|exact(fg.cells z5).1) (hs:cz P t=some cs.length:=by exact rfl) (hl:cs.length=c.length:=by exact rfl) (hw:S.flr≤N∨refs cs=0:=by first|exact .inl z5|exact .inr rfl):ab P ops (⟨none,.store t ao vo,ty,pp,a,g⟩::rest) fr st Q:=
 ab.cF (hH:=hH) (hg:=hg) (ha:=ha) (hv:=hv) (kh:=kh) (hs:=hs) (hj:=hj) (hl:=hl) (hw:=hw) (h:=h)
theorem qT {off:Nat} {c cs:List D} {v:D} {t:TypeId} (hH:Has N S st H) (hj:H[j]?=some (.box k (.mem aB ar c))) (h:∀ah,Has N S ah (H.set j (.box k (.mem aB ar (setMany c off cs))))→ab P ops rest fr ah Q) (hg:aD ops fr ⟨none,.store t ao vo,ty,pp,a,g⟩=some true:=by exact rfl) (ha:fr.ev ao=.ptr k aB off:=by exact ev rfl) (hv:fr.ev vo=v:=by exact ev rfl) (kh:v.cells?=some cs:=by first|rfl|exact(fg.cells z5).1) (hs:cz P t=some cs.length:=by exact rfl) (hl:off+cs.length≤c.length:=by exact Nat.le_of_ble_eq_true rfl) (hw:S.flr≤N∨refs cs=0:=by first|exact .inl z5|exact .inr rfl):ab P ops (⟨none,.store t ao vo,ty,pp,a,g⟩::rest) fr st Q:=
 ab.fk (hH:=hH) (hg:=hg) (ha:=ha) (hv:=hv) (kh:=kh) (hs:=hs) (hj:=hj) (hl:=hl) (hw:=hw) (h:=h)
theorem qa {e:TypeId} {cs:List D} {aG:Nat→Fr} (hH:Has N S st H) (h:∀k ah,S.bs.length≤k→Has N S ah (.box k (.mem 0 false cs)::H)→ab P ops rest (aG k) ah Q) (hg:aD ops fr ⟨some dst,.alloc e,ty,pp,a,g⟩=some true:=by exact rfl) (hz:dc P e=some cs:=by exact rfl) (hp:∀k,fr.put dst (.ptr k 0 0)=aG k:=by first|exact fun _=>aa rfl _|exact fun _=>by dsimp only[Fr.put,List.set_cons_succ,List.set_cons_zero]<;>rfl):ab P ops (⟨some dst,.alloc e,ty,pp,a,g⟩::rest) fr st Q:=
 ab.vC (hH:=hH) (hg:=hg) (hz:=hz) (hp:=hp) (h:=h)
theorem qb {e:TypeId} {xo:Operand} {cs:List D} {aG:Nat→Fr} (hH:Has N S st H) (h:∀k ah,S.bs.length≤k→Has N S ah (.box k (.mem 0 false cs)::H)→ab P ops rest (aG k) ah Q) (hg:aD ops fr ⟨some dst,.box e xo,ty,pp,a,g⟩=some true:=by exact rfl) (hz:(fr.ev xo).cells?=some cs:=by exact rfl) (hp:∀k,fr.put dst (.ptr k 0 0)=aG k:=by first|exact fun _=>aa rfl _|exact fun _=>by dsimp only[Fr.put,List.set_cons_succ,List.set_cons_zero]<;>rfl):ab P ops (⟨some dst,.box e xo,ty,pp,a,g⟩::rest) fr st Q:=
 ab.Gg (hH:=hH) (hg:=hg) (hz:=hz) (hp:=hp) (h:=h)
variable{yo:Operand}
theorem qA {t ow:TypeId} {xo:Operand} {x y:Int} (h:ab P ops rest aG st Q) (hg:aD ops fr ⟨some dst,.binOp .add t xo yo ow,ty,pp,a,g⟩=some true:=by exact rfl) (hx:fr.ev xo=.int .i64 x:=by exact ev rfl) (hy:fr.ev yo=.int .i64 y:=by exact ev rfl) (h1:-9223372036854775808≤x+y:=by omega) (h2:x+y≤9223372036854775807:=by omega) (hp:fr.put dst (.int .i64 (x+y))=aG:=by first|exact aa rfl _|(dsimp only[Fr.put,List.set_cons_succ,List.set_cons_zero]<;>rfl)):ab P ops (⟨some dst,.binOp .add t xo yo ow,ty,pp,a,g⟩::rest) fr st Q:=
 ab.Pr (hg:=hg) (hx:=hx) (hy:=hy) (h1:=h1) (h2:=h2) (hp:=hp) (h:=h)
variable{z:List D}
theorem qP {y:D} {ys:List (List D)} {t1 t2 e:TypeId} {td:TypeDesc} {inf:TypeInfo} {xo:Operand} {aG:D→Fr} (hH:Has N S st H) (hj:H[j]?=some (.aC x s es)) (kD:Rows st s y ys) (h:∀x' ah,Has N S ah (H.set j (.aC x' s (es++ys)))→ab P ops rest (aG x') ah Q) (hg:aD ops fr ⟨some dst,.call ⟨.builtin .append,#[xo,yo],#[t1,t2]⟩,ty,pp,a,g⟩=some true:=by exact rfl) (hx:fr.ev xo=x:=by exact ev rfl) (hy:fr.ev yo=y:=by exact ev rfl) (h1:P.cy t1=some (.slice e):=by exact rfl) (h2:P.cy t2=some td:=by exact rfl) (h3:fh td=false:=by exact rfl) (h4:P.info e=some inf:=by exact rfl) (h5:dc P e=some z:=by exact rfl) (h6:inf.size=s:=by exact rfl) (h7:z.length=s:=by exact rfl) (h8:0<inf.bytes∧inf.bytes≤1024:=by exact⟨Nat.le_of_ble_eq_true rfl,Nat.le_of_ble_eq_true rfl⟩) (hp:∀x',fr.put dst x'=aG x':=by first|exact fun _=>aa rfl _|exact fun _=>by dsimp only[Fr.put,List.set_cons_succ,List.set_cons_zero]<;>rfl) (hb:es.length+ys.length≤1073741824:=by first|omega|(simp only[List.length_append,List.length_cons,List.length_nil,List.length_map,List.length_replicate,List.length_set,List.length_reverse]<;>omega)) (hw:S.flr≤N∨refs ys.flatten=0:=by first|exact .inl z5|exact .inr rfl):ab P ops (⟨some dst,.call ⟨.builtin .append,#[xo,yo],#[t1,t2]⟩,ty,pp,a,g⟩::rest) fr st Q:=
 ab.ck (hH:=hH) (hg:=hg) (hx:=hx) (hy:=hy) (hj:=hj) (kD:=kD) (h1:=h1) (h2:=h2) (h3:=h3) (h4:=h4) (h5:=h5) (h6:=h6) (h7:=h7) (h8:=h8) (hp:=hp) (hb:=hb) (hw:=hw) (h:=h)
theorem qh {t e:TypeId} {parts:Array (Nat×Operand)} {vs:List D} {aG:Nat→Fr} (hH:Has N S st H) (h:∀k ah,S.bs.length≤k→Has N S ah (.aC (.win k 0 0 m s) s (vs.map Qat)::H)→ab P ops rest (aG k) ah Q) (hg:aD ops fr ⟨some dst,.buildSlice t m parts,ty,pp,a,g⟩=some true:=by exact rfl) (ht:P.cy t=some (.slice e):=by exact rfl) (hs:cz P e=some s:=by exact rfl) (hz:dc P e=some z:=by exact rfl) (mz:z.length=s:=by exact rfl) (hm:m*s≤16777216:=by exact Nat.le_of_ble_eq_true rfl) (TM:E8 fr 0 parts.toList vs:=by first|exact⟨rfl,ev rfl,trivial⟩|exact⟨rfl,ev rfl,rfl,ev rfl,trivial⟩|exact⟨rfl,ev rfl,rfl,ev rfl,rfl,ev rfl,trivial⟩|exact⟨rfl,ev rfl,rfl,ev rfl,rfl,ev rfl,rfl,ev rfl,trivial⟩|exact⟨rfl,ev rfl,rfl,ev rfl,rfl,ev rfl,rfl,ev rfl,rfl,ev rfl,trivial⟩) (QJ:vs.length=m:=by exact rfl) (hc:∀v∈vs,v.cells?=some v.cells∧v.cells.length=s:=by intro v hv;simp only[List.mem_cons,List.not_mem_nil,or_false] at hv;first|(subst hv;exact⟨rfl,rfl⟩)|(rcases hv with rfl|rfl<;>exact⟨rfl,rfl⟩)|(rcases hv with rfl|rfl|rfl<;>exact⟨rfl,rfl⟩)|(rcases hv with rfl|rfl|rfl|rfl<;>exact⟨rfl,rfl⟩)|(rcases hv with rfl|rfl|rfl|rfl|rfl<;>exact⟨rfl,rfl⟩)) (hp:∀k,fr.put dst (.win k 0 0 m s)=aG k:=by first|exact fun _=>aa rfl _|exact fun _=>by dsimp only[Fr.put,List.set_cons_succ,List.set_cons_zero]<;>rfl):ab P ops (⟨some dst,.buildSlice t m parts,ty,pp,a,g⟩::rest) fr st Q:=
 ab.EU (hH:=hH) (hg:=hg) (ht:=ht) (hs:=hs) (hz:=hz) (mz:=mz) (hm:=hm) (TM:=TM) (QJ:=QJ) (hc:=hc) (hp:=hp) (h:=h)
theorem qv {f:Operand} {gn:Nat} {lf:List D} {args:Array Operand} {Ab:Array TypeId} {d:D} {st1:St} (h1:Ev P gn (args.toList.map fr.ev++lf) st d st1) (h:ab P ops rest aG st1 Q) (hg:aD ops fr ⟨some dst,.call ⟨.value f,args,Ab⟩,ty,pp,a,g⟩=some true:=by exact rfl) (hf:fr.ev f=.fn gn lf:=by exact rfl) (hp:fr.put dst d=aG:=by first|exact aa rfl _|(dsimp only[Fr.put,List.set_cons_succ,List.set_cons_zero]<;>rfl)):ab P ops (⟨some dst,.call ⟨.value f,args,Ab⟩,ty,pp,a,g⟩::rest) fr st Q:=
 ab.iN (hg:=hg) (hf:=hf) (h1:=h1) (hp:=hp) (h:=h)
variable{c y:Operand}{v:Bool}
theorem qt {x:Operand} (hv:v=true) (h:ab P ops rest aG st Q) (hg:aD ops fr ⟨some dst,.pick c x y,ty,pp,a,g⟩=some true:=by exact rfl) (hc:fr.ev c=.bool v:=by exact rfl) (hp:fr.put dst (fr.ev x)=aG:=by first|exact aa rfl _|(dsimp only[Fr.put,List.set_cons_succ,List.set_cons_zero]<;>rfl)):ab P ops (⟨some dst,.pick c x y,ty,pp,a,g⟩::rest) fr st Q:=
 ab.c9 (hg:=hg) (hc:=hc) (hv:=hv) (hp:=hp) (h:=h)
theorem qu {x:Operand} (hv:v=false) (h:ab P ops rest aG st Q) (hg:aD ops fr ⟨some dst,.pick c x y,ty,pp,a,g⟩=some true:=by exact rfl) (hc:fr.ev c=.bool v:=by exact rfl) (hp:fr.put dst (fr.ev y)=aG:=by first|exact aa rfl _|(dsimp only[Fr.put,List.set_cons_succ,List.set_cons_zero]<;>rfl)):ab P ops (⟨some dst,.pick c x y,ty,pp,a,g⟩::rest) fr st Q:=
 ab.c_ (hg:=hg) (hc:=hc) (hv:=hv) (hp:=hp) (h:=h)
variable{o:Oper}{t:Nat}{w:Bool}
theorem wi {ops:Array Oper} {fr:Fr} (h4:v=w) (h1:o.guard=some (j,w):=by exact rfl) (h2:(ops[j]?).bind (·.dst)=some t:=by exact rfl) (h3:fr.get t=.bool v:=by exact rfl):aD ops fr o=some true:=aj h1 h2 h3 h4
theorem wn {ops:Array Oper} {fr:Fr} (h4:v=!w) (h1:o.guard=some (j,w):=by exact rfl) (h2:(ops[j]?).bind (·.dst)=some t:=by exact rfl) (h3:fr.get t=.bool v:=by exact rfl):aD ops fr o=some false:=nK h1 h2 h3 h4
variable{dy:Dy}{b:Code}
theorem qc {a:Code} {Q:Out→Fr→St→Prop} (h1:v=true→ag P dy a fr st Q) (h2:v=false→ag P dy b fr st Q) (hv:fr.ev c=.bool v:=by first|rfl|assumption):ag P dy (.cond c a b) fr st Q:=ag.cond hv h1 h2
theorem qq {a:Code} {Q:Out→Fr→St→Prop} (h:ag P dy a fr st (bS P dy b Q)):ag P dy (.seq a b) fr st Q:=ag.seq h
variable{n:Nat}{loc:List D}{tmp:List (Nat×D)}
theorem qj {l:List Oper} {d:Bool} {Q:Out→Fr→St→Prop} (h:∀K:Out→Fr→St→Prop,Q=K→ab P l.toArray l ⟨n,loc,[]⟩ st (K .next)) (h0:iU i dy=[]:=by rfl):ag P dy (.region i l.toArray d) ⟨n,loc,tmp⟩ st Q:=ag.ei (h Q rfl) h0
theorem qe {Q K:Out→Fr→St→Prop} (hK:Q=K) (h:Q .next fr st):ab P ops [] fr st (K .next):=ab.nil (hK▸h)
theorem qB {a:Code} {Q:Out→Fr→St→Prop} (h1:ag P dy a fr st Q) (hv:fr.ev c=.bool true:=by first|rfl|assumption):ag P dy (.cond c a b) fr st Q:=ag.cond hv (fun _=>h1) (fun h=>by cases h)
theorem qC {a:Code} {Q:Out→Fr→St→Prop} (h1:ag P dy b fr st Q) (hv:fr.ev c=.bool false:=by first|rfl|assumption):ag P dy (.cond c a b) fr st Q:=ag.cond hv (fun h=>by cases h) (fun _=>h1)
theorem qD {a:Code} {Q:Out→Fr→St→Prop} (hv:fr.ev c=.bool v) (hb:v=true) (h1:ag P dy a fr st Q):ag P dy (.cond c a b) fr st Q:=ag.cond hv (fun _=>h1) (fun h=>by rw[hb] at h;cases h)
theorem qE {a:Code} {Q:Out→Fr→St→Prop} (hv:fr.ev c=.bool v) (hb:v=false) (h1:ag P dy b fr st Q):ag P dy (.cond c a b) fr st Q:=ag.cond hv (fun h=>by rw[hb] at h;cases h) (fun _=>h1)
theorem rx:∀i:Nat,Out.ret≠Out.exit i:=fun i h=>by cases h
theorem rl {S:St} {H:List a8} {kn:Bool} {st1:St} {d d':D} (hS:S.bs=st.bs) (hH:Has st.bs.length S st1 H) (hd:ba st1 st.bs.length kn 16 d=some d'):dj .ro kn st st1 d=some (d',st):=va (by simp) hS hH hd
theorem ri (s0:St):(ae .ro s0).bs=s0.bs∧(ae .ro s0).flr≤s0.bs.length∧Has s0.bs.length (ae .ro s0) (ae .ro s0) []:=⟨rfl,υ _,Has.start (υ _) (υ _)⟩
theorem w1 {α:Type} {a:α}:Qak (n+1) a=a::Qak n a:=rfl
theorem w2 {α:Type} {a:α}:Qak 0 a=[]:=rfl
theorem qy {a:Code} {Q:Out→Fr→St→Prop} (h:ag P dy a fr st Q):ag P dy a fr st Q:=h
theorem u1 {α:Type} {x:α} {l:List α} {a:α}:(x::l).set (n+1) a=x::l.set n a:=rfl
theorem u2 {α:Type} {x:α} {l:List α} {a:α}:(x::l).set 0 a=a::l:=rfl
theorem u3 {α:Type} {x:α} {l m:List α}:(x::l)++m=x::(l++m):=rfl
theorem u4 {α:Type} {m:List α}:([]:List α)++m=m:=rfl
theorem u5 {α β:Type} {f:α→β} {x:α} {l:List α}:(x::l).map f=f x::l.map f:=rfl
theorem u6 {α β:Type} {f:α→β}:([]:List α).map f=[]:=rfl
theorem v1 (k:IntKind) (n:Int):my (.int k n)=.int k n:=rfl
theorem v2 (b:Bool):my (.bool b)=.bool b:=rfl
theorem v3 (s:ByteArray):my (.string s)=.str s.data.toList:=rfl
theorem v4:my (.slice none 0 0)=.nul:=rfl
theorem v5:my (.pointer none)=.pnil:=rfl
theorem v6:my .nilFunc=.nilfn:=rfl
theorem v7:my .nilIface=.nilif:=rfl
theorem cs:(∀(p:Prop) [Decidable p],(decide p=true)=p)∧(∀(p:Prop) [Decidable p],(decide p=false)=¬p)∧(∀(α:Type) [BEq α] [LawfulBEq α] (a b:α),((a==b)=true)=(a=b))∧(∀(α:Type) [BEq α] [LawfulBEq α] (a b:α),((a==b)=false)=¬a=b)∧(∀(α:Type) [BEq α] [LawfulBEq α] (a b:α),((a !=b)=true)=¬a=b)∧(∀(α:Type) [BEq α] [LawfulBEq α] (a b:α),((a !=b)=false)=(a=b))∧(∀b:Bool,((!b)=true)=(b=false))∧(∀b:Bool,((!b)=false)=(b=true))∧(∀b:Bool,(¬b=true)=(b=false))∧(∀b:Bool,(¬b=false)=(b=true)):=by
 refine⟨fun p _=>by simp,fun p _=>by simp,fun α _ _ a b=>by simp,fun α _ _ a b=>by simp,fun α _ _ a b=>by simp,fun α _ _ a b=>by simp,fun b=>by simp,fun b=>by simp,fun b=>by simp,fun b=>by simp⟩
theorem xT (h:ab P ops rest ⟨n,loc,(t,d)::tmp⟩ st1 Q) (hb:ς n t=true:=by exact rfl) (hg:aD ops ⟨n,loc,tmp⟩ ⟨some t,op,ty,pp,a,g⟩=some true:=by exact rfl) (hc:j5 op=false:=by exact rfl) (h1:dN P ⟨n,loc,tmp⟩ st op ty=some (d,st1):=by exact rfl):ab P ops (⟨some t,op,ty,pp,a,g⟩::rest) ⟨n,loc,tmp⟩ st Q:=ab.T hb hg hc h1 h
theorem xL (h:ab P ops rest ⟨n,loc.set t d,tmp⟩ st1 Q) (hb:ς n t=false:=by exact rfl) (hg:aD ops ⟨n,loc,tmp⟩ ⟨some t,op,ty,pp,a,g⟩=some true:=by exact rfl) (hc:j5 op=false:=by exact rfl) (h1:dN P ⟨n,loc,tmp⟩ st op ty=some (d,st1):=by exact rfl):ab P ops (⟨some t,op,ty,pp,a,g⟩::rest) ⟨n,loc,tmp⟩ st Q:=ab.L hb hg hc h1 h
theorem xN (h:ab P ops rest fr st1 Q) (hg:aD ops fr ⟨none,op,ty,pp,a,g⟩=some true:=by exact rfl) (hc:j5 op=false:=by exact rfl) (h1:dN P fr st op ty=some (d,st1):=by exact rfl):ab P ops (⟨none,op,ty,pp,a,g⟩::rest) fr st Q:=ab.N hg hc h1 h
theorem xo (h:ab P ops rest ⟨n,loc,(t,.tup [])::tmp⟩ st Q) (hb:ς n t=true:=by exact rfl) (hg:aD ops ⟨n,loc,tmp⟩ ⟨some t,op,ty,pp,a,g⟩=some false:=by exact rfl):ab P ops (⟨some t,op,ty,pp,a,g⟩::rest) ⟨n,loc,tmp⟩ st Q:=ab.Ux hb hg h
theorem xp (h:ab P ops rest ⟨n,loc.set t (.tup []),tmp⟩ st Q) (hb:ς n t=false:=by exact rfl) (hg:aD ops ⟨n,loc,tmp⟩ ⟨some t,op,ty,pp,a,g⟩=some false:=by exact rfl):ab P ops (⟨some t,op,ty,pp,a,g⟩::rest) ⟨n,loc,tmp⟩ st Q:=ab.Uy hb hg h
end Go.V
