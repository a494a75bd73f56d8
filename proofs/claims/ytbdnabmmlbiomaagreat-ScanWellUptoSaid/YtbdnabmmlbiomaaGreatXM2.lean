/-
 Functions given to V; a logic over V; heaps of one's own; no program in sight, no conditions.
-/
import Derived.Test.YtbdnabmmlbiomaaGreatXM4
import Derived.Test.YtbdnabmmlbiomaaGreatXM1
set_option linter.unusedSimpArgs false
set_option linter.unusedVariables false
set_option linter.unusedSectionVars false
set_option linter.unnecessarySimpa false
open Option renaming bind_some→γ,map_some→δ,some→Je,map_eq_some_iff→Jh,isSome_some→Kq
open List renaming getElem?_set_ne→ε,set_cons_succ→ζ,set_cons_zero→η,getElem?_eq_none→θ,getElem?_set_self→ι,mem_cons_self→κ,mem_cons_of_mem→μ,getElem?_cons_succ→ν,length_cons→ξ,map_cons→ο,getElem?_append_left→ρ,drop_drop→φ,length_append→χ,flatten_cons→Δ,length_set→Θ,drop_take→Φ,map_nil→JE,mem_of_getElem?→JI,mem_of_mem_take→JO,getElem?_cons_zero→Jb,length_nil→Jd,drop_zero→Jf,take_length→Jg,append_assoc→Jl,getElem?_eraseIdx→Jm,take_take→Jn,length_take→Jp,getElem?_of_mem→Jr,flatten_append→Js,getElem?_take→K1,take_of_length_le→K4,length_map→K5,nil_append→K6,take_append_drop→K8,mem_of_mem_drop→KZ,replicate→KJ,ext_getElem?→Kj,getElem?_map→Kv,mem_map→Kk,length_drop→Ky,mem_flatten→Kw,append_nil→KY,drop_left'→KK,take_left'→KV,drop_length_add_append→KU,mem_cons→KG,set_append_right→KH,map_congr_left→KF,getElem?_drop→KD,mapIdx_cons→KC,mem_append→KL,map_drop→KM,map_take→KN,take_add→KR,map_map→KA,map_id→KI,drop→Ka
open Nat renaming mul_le_mul_right→π,add_mul→ς,le_refl→τ,ble→υ,lt_or_ge→ψ,le_of_ble_eq_true→Ψ,min_eq_left→Ja,one_mul→Jc,le_trans→Ju,lt_of_lt_of_le→K2,mod_eq_of_lt→K3,add_comm→K7,not_lt_zero→K9,eq_of_beq_eq_true→KQ,zero_add→KB,beq→KP,mul_le_mul→KS,add_assoc→KE,add_zero→KO
open Go.V.D renaming ref→ω,cells→K'
open Go.V.Fr renaming put→Γ,ev→Ji
open Bool renaming and_eq_true→Ξ,false_eq_true→Kz,or_eq_true→KW
open Go.V.St renaming push→Ω,fk→Kb,jn→Kc
open BitVec renaming ofInt_natCast→Jo,toNat_ofNat→Jt,ofInt→Kx
namespace Go.V
open Go.RowKit
structure gf (P:Program) (pv:Pv) (f:Nat) (p:List D→St→Option (D×St)):Prop where
 fn:∀ds st r,p ds st=some r→∃fn b,P.funcs[f]?=some fn∧fn.body=some b∧fn.name≠ "runtime.NumGoroutine"
 calls:∀ds st d ai,p ds st=some (d,ai)→∀w β Z (us:List Value),gI w st β Z→ds.length=us.length→(∀(i:Nat) c v,ds[i]?=some c→us[i]?=some v→VR w (st.x β Z) c v)→
  Calls P f us.toArray w fun e w'=>∃v β' Z',e=.returned v∧Nx w st β Z w' ai β' Z'∧VR w' (ai.x β' Z') d v∧(j7 pv f=true→Quiet w w')
 ro:∀ds st d ai,p ds st=some (d,ai)→j7 pv f=true→ot st ai
 len:∀ds st d ai,p ds st=some (d,ai)→eE st ai
variable{pv vu:Pv}
theorem An (h:∀f,j7 pv f=j7 vu f) (hm:∀s t,nK pv s t=nK vu s t) (ops:Array Oper) (b:Bool) (x y:Oper):k_ pv ops b x y=k_ vu ops b x y:=by
 have he:∀o,fF pv o=fF vu o:=by
  intro o;unfold fF
  split<;>first|rfl|exact hm _ _|skip
  rw[h]
 simp only[k_,he]
theorem xC (h:∀f,j7 pv f=j7 vu f) (hm:∀s t,nK pv s t=nK vu s t) (ops:Array Oper) (dy:List (Nat×Nat)):lG pv ops dy=lG vu ops dy:=by
 unfold lG
 congr 1
 funext j;unfold LQ
 split
 ·simp only[An h hm]
 ·rfl
theorem eC {pv vu:Pv} (h:∀f,j7 pv f=j7 vu f) (hm:∀s t,nK pv s t=nK vu s t) (dyn:List (Nat×List (Nat×Nat))) (n:Nat):∀c:Code,codeOk pv dyn n c=codeOk vu dyn n c
 | .region _ ops d=>by simp only[codeOk,xC h hm]
 | .seq a b=>by simp only[codeOk,eC h hm dyn n a,eC h hm dyn n b]
 | .cond _ a b=>by simp only[codeOk,eC h hm dyn n a,eC h hm dyn n b]
 | .block _ c=>by simp only[codeOk,eC h hm dyn n c]
 | .loop c=>by simp only[codeOk,eC h hm dyn n c]
 | .skip| .rangeFunc ..| .exit _| .scope _| .label _| .goto _| .ret| .refuse _=>by simp only[codeOk]
def Pv.over (pv:Pv) (l:List (Nat×(List D→St→Option (D×St)))):Pv:=⟨pv.ty,pv.nty,pv.fs,pv.nfs,pv.eqb,l⟩
theorem Cs (pv:Pv) (l) (f:Nat):j7 (pv.over l) f=j7 pv f:=rfl
theorem uz {f:Nat} {p}:∀{l:List (Nat×(List D→St→Option (D×St)))},lK f l=some p→(f,p)∈l
 |(g,q)::l,h=>by
  simp only[lK] at h
  split at h
  ·rename_i hb;cases h;rw[KQ hb];exact κ ..
  ·exact μ _ (uz h)
variable{P:Program}
theorem tR (h:pv.Ok P∧pv.jA∧iP P pv (eZ pv)) (X':pv.prm=[]) {l:List (Nat×(List D→St→Option (D×St)))} (hl:∀q∈l,gf P pv q.1 q.2):
  (pv.over l).Ok P∧(pv.over l).jA∧iP P (pv.over l) (eZ (pv.over l)):=by
 obtain⟨h1,h2,h3⟩:=h;refine⟨⟨h1.ty,h1.fs,h1.eqb,h1.mixed⟩,fun f x b hx hp hb=>?_,?_⟩
 ·rw[eC (Cs pv l) (fun _ _=>rfl)];exact h2 f x b hx hp hb
 ·have key:∀f ds st r,eZ (pv.over l) f ds st=some r→(∃p,gf P pv f p∧p ds st=some r)∨eZ pv f ds st=some r:=by
   intro f ds st r h;unfold eZ at h
   split at h
   ·rename_i p hp;exact .inl ⟨p,hl _ (uz hp),h⟩
   ·right;unfold eZ;rw[X'];exact h
  refine⟨fun f ds st r h=>?_,fun f ds st d ai h=>?_,fun f ds st d ai h=>?_,fun f ds st d ai h=>?_⟩
  ·rcases key f ds st r h with⟨p,hp,h⟩|h
   ·exact hp.fn ds st r h
   ·exact h3.fn f ds st r h
  ·rcases key f ds st _ h with⟨p,hp,h⟩|h
   ·exact hp.calls ds st d ai h
   ·exact h3.calls f ds st d ai h
  ·rcases key f ds st _ h with⟨p,hp,h⟩|h
   ·exact hp.ro ds st d ai h
   ·exact h3.ro f ds st d ai h
  ·rcases key f ds st _ h with⟨p,hp,h⟩|h
   ·exact hp.len ds st d ai h
   ·exact h3.len f ds st d ai h
theorem gI.nil {w:World} {Z:Nat→Prop} (hZ:∀b,Z b→b<w.heap.size):gI w ⟨[],0,0⟩ (fun _=>none) Z:=
 ⟨fun _ _ _ h=>(by cases h),fun _ _ _ h=>(by cases h),fun _ _ _ _ _ h=>(by cases h),fun _ _ _ h=>(by cases h),hZ,fun _ _ _ _ h=>(by cases h),τ _,τ _⟩
variable{n f:Nat}{d:D}{AQ:St}
theorem mP (h:pv.Ok P∧pv.jA∧iP P pv (eZ pv)) {ds:List D} (hs:c9 pv n f ds ⟨[],0,0⟩=some (d,AQ)) (h0:AQ.bs=[]) (hr:refs ds=0) (st:St) (w:World) (β:Nat→Option (Nat×Nat)) (Z:Nat→Prop) (us:List Value) (gp:gI w st β Z) (hl:ds.length=us.length) (ha:∀(i:Nat) c v,ds[i]?=some c→us[i]?=some v→VR w (st.x β Z) c v):
  Calls P f us.toArray w fun e w'=>∃v β' Z',e=.returned v∧Nx w st β Z w' st β' Z'∧VR w' (st.x β' Z') d v∧Quiet w w':=by
 have hrefs:∀(l:List D),refs l=0→∀c∈l,c.ref≤0:=by
  intro l
  induction l with
  |nil=>intro _ c hc;simp at hc
  |cons x l ih=>
   intro h c hc;simp only[refs] at h
   rcases KG.1 hc with rfl|hc
   ·omega
   ·exact ih (by omega) c hc
 refine((iN h.1 h.2.1 h.2.2 n).calls f ds _ d AQ hs w (fun _=>none) Z us (gI.nil gp.zl) hl fun i c v hc hv=>?_).mono fun e w'=>?_
 ·exact VR.cut (x:=st.x β Z) (x':=(⟨[],0,0⟩:St).x (fun _=>none) Z) (N:=0) (fun k hk=>absurd hk (K9 _)) (fun k hk=>absurd hk (K9 _)) (fun b hb=>hb) (ha i c v hc hv) (hrefs ds hr c (JI hc))
 ·rintro⟨v,β',Z',rfl,hn,hv,_⟩
  have kh:∀k p,β' k=some p→False:=fun k p hk=>by
   have:=hn.sim.dom k p.1 p.2 hk;rw[h0] at this;simp at this
  have hq:Quiet w w':=by
   intro c hc;refine hn.evo.block c hc ?_;rintro⟨k,base,h5,_⟩;cases h5
  have Ug:∀b,Z b→Z' b∧w'.heap[b]?=w.heap[b]?:=fun b hb=>⟨(hn.keeps.z b hb).1,hq b (gp.zl b hb)⟩
  have hk:dK w (st.x β Z) w' (st.x β Z'):=⟨fun k p hp=>⟨p,hp⟩,Ug,fun k c p _ hc=>⟨c,hc,τ _⟩,fun k c _ _ b base hb=>⟨hb,et (hq b (gp.lt k b base hb))⟩⟩
  refine⟨v,β,Z',rfl,⟨⟨gp.dom,fun k b base hb=>K2 (gp.lt k b base hb) hn.evo.size,gp.inj,fun k b base hb hz=>?_,hn.sim.zl,fun k b base bx hb ir=>(gp.box k b base bx hb ir).bd hk (hq b (gp.lt k b base hb)),gp.flr,gp.ro⟩,hk,
   ⟨hn.evo.os,hn.evo.tape,hn.evo.output,hn.evo.size,fun b hb _=>hq b hb⟩,fun k b base hb=>.inl ⟨base,hb⟩,hn.zfresh,τ _,rfl,rfl,fun k _=>⟨rfl,rfl⟩,fun k _ hk=>⟨hk,rfl⟩⟩,?_,hq⟩
  ·rcases hn.zfresh b hz with hz|hz
   ·exact gp.zd k b base hb hz
   ·have:=gp.lt k b base hb;omega
  ·exact VR.cut (x:=AQ.x β' Z') (x':=st.x β Z') (N:=0) (fun k hk=>absurd hk (K9 _)) (fun k hk=>absurd hk (K9 _)) (fun b hb=>hb) hv (VR.ref (fun k p hk=>(kh k p hk).elim) hv)
def mE (d:D):List D→St→Option (D×St)
 |[],st=>some (d,st)
 |_::_,_=>none
theorem nJ (h:pv.Ok P∧pv.jA∧iP P pv (eZ pv)) (hs:c9 pv n f [] ⟨[],0,0⟩=some (d,AQ)) (h0:AQ.bs=[]):gf P pv f (mE d):=by
 have hc:=iN h.1 h.2.1 h.2.2 n;refine⟨fun ds st r _=>hc.fn f [] _ _ hs,fun ds st d' ai hp w β Z us gp hl ha=>?_,fun ds st d' ai hp _=>?_,fun ds st d' ai hp=>?_⟩<;>cases ds<;>simp only[mE,Je.injEq,Prod.mk.injEq,reduceCtorEq] at hp
 ·obtain⟨rfl,rfl⟩:=hp;refine(mP h hs h0 rfl st w β Z us gp hl ha).mono fun e w'=>?_;rintro⟨v,β',Z',h1,h2,h3,h4⟩;exact⟨v,β',Z',h1,h2,h3,fun _=>h4⟩
 ·rw[←hp.2];exact .rfl _
 ·rw[←hp.2];exact eE.refl _
def kT:List (List D×D)→List D→St→Option (D×St)
 |[],_,_=>none
 |(as,d)::l,ds,st=>match jf as ds with
  |true=>some (d,st)
  |false=>kT l ds st
theorem j4:∀{l:List (List D×D)} {ds:List D} {st ai:St} {d:D},kT l ds st=some (d,ai)→(ds,d)∈l∧ai=st
 |(as,e)::l,ds,st,ai,d,h=>by
  simp only[kT] at h
  split at h
  ·rename_i hb;cases h;rw[gG _ _ hb];exact⟨κ ..,rfl⟩
  ·obtain⟨h1,h2⟩:=j4 h;exact⟨μ _ h1,h2⟩
theorem nI (h:pv.Ok P∧pv.jA∧iP P pv (eZ pv)) {l:List (List D×D)} (hl:∀q∈l,refs q.1=0∧∃n AQ,c9 pv n f q.1 ⟨[],0,0⟩=some (q.2,AQ)∧AQ.bs=[]):gf P pv f (kT l):=by
 refine⟨fun ds st r hp=>?_,fun ds st d ai hp w β Z us gp hle ha=>?_,fun ds st d ai hp _=>by rw[(j4 hp).2];exact .rfl _,fun ds st d ai hp=>?_⟩
 ·obtain⟨hm,_⟩:=j4 (d:=r.1) (ai:=r.2) hp;obtain⟨_,n,AQ,hs,_⟩:=hl _ hm;exact(iN h.1 h.2.1 h.2.2 n).fn f _ _ _ hs
 ·obtain⟨hm,rfl⟩:=j4 hp;obtain⟨hr,n,AQ,hs,h0⟩:=hl _ hm;refine(mP h hs h0 hr ai w β Z us gp hle ha).mono fun e w'=>?_;rintro⟨v,β',Z',h1,h2,h3,h4⟩;exact⟨v,β',Z',h1,h2,h3,fun _=>h4⟩
 ·rw[(j4 hp).2];exact eE.refl _
def om:List iI→List iI→Bool
 |[],[]=>true
 |a::l,b::m=>tf a b &&om l m
 |_,_=>false
def BK (a b:St):Bool:=KP a.flr b.flr &&KP a.ro b.ro &&om a.bs b.bs
theorem pW:∀{a b:List iI},om a b=true→a=b
 |[],[],_=>rfl
 |a::l,b::m,h=>by
  simp only[om,Ξ] at h;rw[u_ h.1,pW h.2]
 |[],_::_,h=>by cases h
 |_::_,[],h=>by cases h
theorem yM {a b:St} (h:BK a b=true):a=b:=by
 obtain⟨x,y,z⟩:=a;obtain⟨x',y',z'⟩:=b;simp only[BK,Ξ] at h;have h1:=KQ h.1.1;have h2:=KQ h.1.2;have h3:=pW h.2;rw[h1,h2,h3]
def lP (d:D) (st:St):Option (D×St)→Bool
 |some (e,ai)=>fH e d &&BK ai st
 |none=>false
theorem Ud {st:St} {r:Option (D×St)} (h:lP d st r=true):r=some (d,st):=by
 match r,h with
 |some (e,ai),h=>
  simp only[lP,Ξ] at h;rw[re e d h.1,yM h.2]
def Bd:List ((List D×St)×(D×St))→List D→St→Option (D×St)
 |[],_,_=>none
 |(k,r)::l,ds,st=>match jf k.1 ds &&BK k.2 st with
  |true=>some r
  |false=>Bd l ds st
theorem j0:∀{l:List ((List D×St)×(D×St))} {ds:List D} {st:St} {r:D×St},Bd l ds st=some r→((ds,st),r)∈l
 |(k,r')::l,ds,st,r,h=>by
  simp only[Bd] at h
  split at h
  ·rename_i hb;simp only[Ξ] at hb;cases h;obtain⟨k1,k2⟩:=k;rw[←gG _ _ hb.1,←yM hb.2];exact κ ..
  ·exact μ _ (j0 h)
theorem T7 (h:vu.Ok P∧vu.jA∧iP P vu (eZ vu)) (eT:∀f,j7 vu f=j7 pv f) {l:List ((List D×St)×(D×St))} (hl:∀q∈l,∃n,c9 vu n f q.1.1 q.1.2=some q.2):gf P pv f (Bd l):=by
 refine⟨fun ds st r hp=>?_,fun ds st d ai hp w β Z us gp hle ha=>?_,fun ds st d ai hp hr=>?_,fun ds st d ai hp=>?_⟩
 ·obtain⟨n,hn⟩:=hl _ (j0 hp);exact(iN h.1 h.2.1 h.2.2 n).fn f _ _ _ hn
 ·obtain⟨n,hn⟩:=hl _ (j0 hp);have:=(iN h.1 h.2.1 h.2.2 n).calls f _ _ _ _ hn w β Z us gp hle ha;rw[eT] at this;exact this
 ·obtain⟨n,hn⟩:=hl _ (j0 hp);exact(iN h.1 h.2.1 h.2.2 n).ro f _ _ _ _ hn (by rw[eT];exact hr)
 ·obtain⟨n,hn⟩:=hl _ (j0 hp);exact(iN h.1 h.2.1 h.2.2 n).len f _ _ _ _ hn
end Go.V
namespace Go.V
section
variable(P:Pv)
def Ev (f:Nat) (args:List D) (st:St) (d:D) (ai:St):Prop:=
 ∃N,∀n,N≤n→c9 P n f args st=some (d,ai)
abbrev Dy:=List (Nat×List (Nat×Nat))
def ab (dy:Dy) (c:Code) (fr:Fr) (st:St) (Q:Out→Fr→St→Prop):Prop:=
 ∃o aM ai,(∃N,∀n,N≤n→cp P (c9 P n) dy n c fr st=some (o,aM,ai))∧Q o aM ai
def aa (ops:Array Oper) (l:List Oper) (fr:Fr) (st:St) (Q:Fr→St→Prop):Prop:=
 ∃aM ai,(∃N,∀n,N≤n→jk P (c9 P n) ops l fr st=some (aM,ai))∧Q aM ai
def bj (dy:Dy) (b:Code) (Q:Out→Fr→St→Prop):Out→Fr→St→Prop
 | .next,fr,st=>ab P dy b fr st Q
 | .exit i,fr,st=>Q (.exit i) fr st
 | .ret,fr,st=>Q .ret fr st
def FV (id:Nat) (Q:Out→Fr→St→Prop):Out→Fr→St→Prop
 | .next,fr,st=>Q .next fr st
 | .exit i,fr,st=>if i=id then Q .next fr st else Q (.exit i) fr st
 | .ret,fr,st=>Q .ret fr st
def WD (I:Nat→Fr→St→Prop) (k:Nat) (Q:Out→Fr→St→Prop):Out→Fr→St→Prop
 | .next,fr,st=>∃j,j<k∧I j fr st
 | .exit i,fr,st=>Q (.exit i) fr st
 | .ret,fr,st=>Q .ret fr st
def bP (ops:Array Oper) (dy:List (Nat×Nat)) (j:Nat) (log:Log) (l:List Oper) (fr:Fr) (st:St) (Q:Fr→St→Prop):Prop:=
 ∃aM ai,(∃N,∀n,N≤n→pY P (c9 P n) ops dy j log l fr st=some (aM,ai))∧Q aM ai
variable{P} {dy:Dy}
variable{c:Code}{Q:Out→Fr→St→Prop}
theorem ab.mono {fr st} {Q':Out→Fr→St→Prop} (h:ab P dy c fr st Q) (hq:∀o aM ai,Q o aM ai→Q' o aM ai):ab P dy c fr st Q':=by
 obtain⟨o,aM,ai,h1,h2⟩:=h;exact⟨o,aM,ai,h1,hq _ _ _ h2⟩
theorem ab.skip {fr st} (h:Q .next fr st):ab P dy .skip fr st Q:=⟨_,_,_,⟨0,fun n _=>by simp only[cp]⟩,h⟩
theorem ab.exit {fr st i} (h:Q (.exit i) fr st):ab P dy (.exit i) fr st Q:=⟨_,_,_,⟨0,fun n _=>by simp only[cp]⟩,h⟩
theorem ab.ret {fr st} (h:Q .ret fr st):ab P dy .ret fr st Q:=⟨_,_,_,⟨0,fun n _=>by simp only[cp]⟩,h⟩
theorem ab.region {i ops d fr st} (h:aa P ops ops.toList fr.clean st (Q .next)) (h0:g_ i dy=[]:=by rfl):ab P dy (.region i ops d) fr st Q:=by
 obtain⟨aM,ai,⟨N,hN⟩,hq⟩:=h;exact⟨_,aM,ai,⟨N,fun n hn=>by simp only[cp,h0,xj,hN n hn]⟩,hq⟩
theorem ab.LM {i ops d fr st} {p:Nat×Nat} {ps:List (Nat×Nat)} (h0:g_ i dy=p::ps) (h:bP P ops (p::ps) 0 [] ops.toList fr.clean st (Q .next)):ab P dy (.region i ops d) fr st Q:=by
 obtain⟨aM,ai,⟨N,hN⟩,hq⟩:=h;exact⟨_,aM,ai,⟨N,fun n hn=>by simp only[cp,h0,xj,hN n hn]⟩,hq⟩
theorem ab.seq {a b fr st} (h:ab P dy a fr st (bj P dy b Q)):ab P dy (.seq a b) fr st Q:=by
 obtain⟨o,aM,ai,⟨N,hN⟩,hq⟩:=h
 cases o with
 |next=>
  obtain⟨o,Sz,st2,⟨M,hM⟩,hq⟩:=hq;exact⟨o,Sz,st2,⟨max N M,fun n hn=>by simp only[cp,hN n (by omega),hM n (by omega)]⟩,hq⟩
 |exit i=>exact⟨_,aM,ai,⟨N,fun n hn=>by simp only[cp,hN n hn]⟩,hq⟩
 |ret=>exact⟨_,aM,ai,⟨N,fun n hn=>by simp only[cp,hN n hn]⟩,hq⟩
theorem ab.cond {c a b fr st v} (hv:fr.ev c=.bool v) (h1:v=true→ab P dy a fr st Q) (h2:v=false→ab P dy b fr st Q):ab P dy (.cond c a b) fr st Q:=by
 cases v with
 |true=>
  obtain⟨o,aM,ai,⟨N,hN⟩,hq⟩:=h1 rfl;exact⟨o,aM,ai,⟨N,fun n hn=>by simp only[cp,hv,hN n hn]⟩,hq⟩
 |false=>
  obtain⟨o,aM,ai,⟨N,hN⟩,hq⟩:=h2 rfl;exact⟨o,aM,ai,⟨N,fun n hn=>by simp only[cp,hv,hN n hn]⟩,hq⟩
theorem ab.block {id c fr st} (h:ab P dy c fr st (FV id Q)):ab P dy (.block id c) fr st Q:=by
 obtain⟨o,aM,ai,⟨N,hN⟩,hq⟩:=h
 cases o with
 |next=>exact⟨_,aM,ai,⟨N,fun n hn=>by simp only[cp,hN n hn]⟩,hq⟩
 |exit i=>
  simp only[FV] at hq
  split at hq
  ·rename_i hi;exact⟨_,aM,ai,⟨N,fun n hn=>by simp only[cp,hN n hn,if_pos hi]⟩,hq⟩
  ·rename_i hi;exact⟨_,aM,ai,⟨N,fun n hn=>by simp only[cp,hN n hn,if_neg hi]⟩,hq⟩
 |ret=>exact⟨_,aM,ai,⟨N,fun n hn=>by simp only[cp,hN n hn]⟩,hq⟩
theorem ab.loop {fr st} (I:Nat→Fr→St→Prop) (k:Nat) (h0:I k fr st) (h:∀k fr st,I k fr st→ab P dy c fr.clean st (WD I k Q)):ab P dy (.loop c) fr st Q:=by
 have key:∀k fr st,I k fr st→∃o aM ai,(∃N,∀n,N≤n→∀m,N≤m→iter (cp P (c9 P n) dy n c) m fr st=some (o,aM,ai))∧(Q o aM ai):=by
  intro k
  induction k using Nat.strongRecOn with
  |ind k ih=>
   intro fr st hi;obtain⟨o,aM,ai,⟨N,hN⟩,hq⟩:=h k fr st hi
   cases o with
   |next=>
    obtain⟨j,hj,i_⟩:=hq;obtain⟨o,Sz,st2,⟨M,hM⟩,hq⟩:=ih j hj aM ai i_;refine⟨o,Sz,st2,⟨max N M+1,fun n hn m hm=>?_⟩,hq⟩
    obtain⟨m,rfl⟩:∃m',m=m'+1:=⟨m-1,by omega⟩
    simp only[iter,hN n (by omega),hM n (by omega) m (by omega)]
   |exit i=>
    refine⟨_,aM,ai,⟨N+1,fun n hn m hm=>?_⟩,hq⟩
    obtain⟨m,rfl⟩:∃m',m=m'+1:=⟨m-1,by omega⟩
    simp only[iter,hN n (by omega)]
   |ret=>
    refine⟨_,aM,ai,⟨N+1,fun n hn m hm=>?_⟩,hq⟩
    obtain⟨m,rfl⟩:∃m',m=m'+1:=⟨m-1,by omega⟩
    simp only[iter,hN n (by omega)]
 obtain⟨o,aM,ai,⟨N,hN⟩,hq⟩:=key k fr st h0;exact⟨o,aM,ai,⟨N,fun n hn=>by simp only[cp,hN n hn n hn]⟩,hq⟩
theorem Ev.of {f x body args st d ai} (hq:lK f P.prm=none) (hf:P.fi f=some x) (hp:x.jj=none) (hb:x.fn.body=some body)
  (h:ab P x.dyn body (pad x.nloc args) (ah x.mode st) fun o fr st1=>(∀i,o≠.exit i)∧∃ds,kz P fr st1 x.fn.results.toList=some ds∧c_ x.mode x.knul st st1 (tC ds)=some (d,ai)):Ev P f args st d ai:=by
 obtain⟨o,aM,st1,⟨N,hN⟩,ho,ds,hr,hl⟩:=h;refine⟨N+1,fun n hn=>?_⟩
 obtain⟨m,rfl⟩:∃m',n=m'+1:=⟨n-1,by omega⟩
 simp only[c9,hq,hf,hp,hb,yL];rw[hN m (by omega)]
 cases o with
 |next=>simp only[hr,hl]
 |exit i=>exact absurd rfl (ho i)
 |ret=>simp only[hr,hl]
theorem aa.nil {ops fr st} {Q:Fr→St→Prop} (h:Q fr st):aa P ops [] fr st Q:=⟨fr,st,⟨0,fun n _=>rfl⟩,h⟩
def i7:Op→Bool
 | .call ⟨.value _,_,_⟩=>true
 |_=>false
theorem D_ {cf fr st} {o:Oper} (h:i7 o.op=false):fv P cf fr st o=ef P fr st o.op o.type:=by
 unfold fv
 split
 ·rename_i heq;rw[heq] at h;simp[i7] at h
 ·rfl
theorem aa.op {ops o rest fr st d st1} {Q:Fr→St→Prop} (hg:aH ops fr o=some true) (hc:i7 o.op=false) (h1:ef P fr st o.op o.type=some (d,st1))
  (h:aa P ops rest (fr.aj o.dst d) st1 Q):aa P ops (o::rest) fr st Q:=by
 obtain⟨aM,ai,⟨N,hN⟩,hq⟩:=h;exact⟨aM,ai,⟨N,fun n hn=>by simp only[jk,hg,D_ hc,h1,hN n hn]⟩,hq⟩
theorem aa.off {ops o rest fr st} {Q:Fr→St→Prop} (hg:aH ops fr o=some false)
  (h:aa P ops rest (fr.aj o.dst (.tup [])) st Q):aa P ops (o::rest) fr st Q:=by
 obtain⟨aM,ai,⟨N,hN⟩,hq⟩:=h;exact⟨aM,ai,⟨N,fun n hn=>by simp only[jk,hg,hN n hn]⟩,hq⟩
theorem aa.call {ops rest fr st d st1 f g jL args wQ dst type pos} {after guard} {Q:Fr→St→Prop} (hg:aH ops fr ⟨dst,.call ⟨.value f,args,wQ⟩,type,pos,after,guard⟩=some true) (hf:fr.ev f=.fn g jL)
  (h1:Ev P g (args.toList.map fr.ev++jL) st d st1)
  (h:aa P ops rest (fr.aj dst d) st1 Q):aa P ops (⟨dst,.call ⟨.value f,args,wQ⟩,type,pos,after,guard⟩::rest) fr st Q:=by
 obtain⟨aM,ai,⟨N,hN⟩,hq⟩:=h;obtain⟨M,hM⟩:=h1;exact⟨aM,ai,⟨max N M,fun n hn=>by simp only[jk,hg,fv,hf,hM n (by omega),hN n (by omega)]⟩,hq⟩
theorem bP.nil {ops ys j log fr st} {Q:Fr→St→Prop} (h:Q fr st):bP P ops ys j log [] fr st Q:=⟨fr,st,⟨0,fun n _=>rfl⟩,h⟩
theorem bP.cons {ops ys j log o rest fr st} {Q:Fr→St→Prop} (h:aa P ops [o] fr st fun aM ai=>Fz ys j log o fr st ai=true∧bP P ops ys (j+1) ((o,fr,st,ai)::log) rest aM ai Q):bP P ops ys j log (o::rest) fr st Q:=by
 obtain⟨SA,st1,⟨N,hN⟩,hc,Sz,st2,⟨M,hM⟩,hq⟩:=h;refine⟨Sz,st2,⟨max N M,fun n hn=>?_⟩,hq⟩;have h1:=hN n (by omega);have h2:=hM n (by omega);simp only[jk] at h1;simp only[pY]
 split at h1
 ·rename_i hw
  split at h1
  ·rename_i d ai gv;cases h1;simp only[hc,h2]
  ·cases h1
 ·rename_i hw;cases h1;exact h2
 ·cases h1
theorem Ev.out {f args st d ai} (h:Ev P f args st d ai):∃N,∀n,N≤n→c9 P n f args st=some (d,ai):=h
theorem Ev.jj {f args st d ai p} (hq:lK f P.prm=some p) (h:p args st=some (d,ai)):Ev P f args st d ai:=
 ⟨1,fun n hn=>by
  obtain⟨m,rfl⟩:∃m',n=m'+1:=⟨n-1,by omega⟩
  simp only[c9,hq,h]⟩
end
attribute [irreducible] Ev ab aa bP
end Go.V
namespace Go.V
variable{P:Pv}{dy:Dy}{i:Nat}{l:List Oper}{Q:Out→Fr→St→Prop}
theorem ab.cH {d n loc tmp st} (h:aa P l.toArray l ⟨n,loc,[]⟩ st (Q .next)) (h0:g_ i dy=[]:=by rfl):ab P dy (.region i l.toArray d) ⟨n,loc,tmp⟩ st Q:=ab.region h h0
theorem ab.oK {d n loc tmp st} {p:Nat×Nat} {ps:List (Nat×Nat)} (h0:g_ i dy=p::ps) (h:bP P l.toArray (p::ps) 0 [] l ⟨n,loc,[]⟩ st (Q .next)):ab P dy (.region i l.toArray d) ⟨n,loc,tmp⟩ st Q:=ab.LM h0 h
theorem Ev.h_ {f x body args st d ai n loc} (hq:lK f P.prm=none) (hf:P.fi f=some x) (hp:x.jj=none) (hb:x.fn.body=some body) (EP:pad x.nloc args=⟨n,loc,[]⟩) (h:ab P x.dyn body ⟨n,loc,[]⟩ (ah x.mode st) fun o fr st1=>(∀i,o≠.exit i)∧∃ds,kz P fr st1 x.fn.results.toList=some ds∧c_ x.mode x.knul st st1 (tC ds)=some (d,ai)):Ev P f args st d ai:=
 Ev.of hq hf hp hb (by rw[EP];exact h)
section
variable{P:Pv} {ops:Array Oper} {rest:List Oper} {n:Nat} {loc:List D} {tmp:List (Nat×D)} {st st1:St} {Q:Fr→St→Prop} {op:Op} {ty:TypeId} {p:String} {a:Array Edge} {g:Option (Nat×Bool)} {t:Nat} {d:D}
theorem ae (hb:υ n t=true) (d:D):Γ ⟨n,loc,tmp⟩ t d=⟨n,loc,(t,d)::tmp⟩:=by
 simp only[Γ,hb]
theorem Nq (hb:υ n t=false) (d:D):Γ ⟨n,loc,tmp⟩ t d=⟨n,loc.set t d,tmp⟩:=by
 simp only[Γ,hb]
theorem aa.T (hb:υ n t=true) (hg:aH ops ⟨n,loc,tmp⟩ ⟨some t,op,ty,p,a,g⟩=some true) (hc:i7 op=false) (h1:ef P ⟨n,loc,tmp⟩ st op ty=some (d,st1))
  (h:aa P ops rest ⟨n,loc,(t,d)::tmp⟩ st1 Q):aa P ops (⟨some t,op,ty,p,a,g⟩::rest) ⟨n,loc,tmp⟩ st Q:=
 aa.op hg hc h1 (by show aa P ops rest (Γ _ t d) st1 Q;rw[ae hb];exact h)
theorem aa.L (hb:υ n t=false) (hg:aH ops ⟨n,loc,tmp⟩ ⟨some t,op,ty,p,a,g⟩=some true) (hc:i7 op=false) (h1:ef P ⟨n,loc,tmp⟩ st op ty=some (d,st1))
  (h:aa P ops rest ⟨n,loc.set t d,tmp⟩ st1 Q):aa P ops (⟨some t,op,ty,p,a,g⟩::rest) ⟨n,loc,tmp⟩ st Q:=
 aa.op hg hc h1 (by show aa P ops rest (Γ _ t d) st1 Q;rw[Nq hb];exact h)
theorem aa.N {fr:Fr} (hg:aH ops fr ⟨none,op,ty,p,a,g⟩=some true) (hc:i7 op=false) (h1:ef P fr st op ty=some (d,st1))
  (h:aa P ops rest fr st1 Q):aa P ops (⟨none,op,ty,p,a,g⟩::rest) fr st Q:=aa.op hg hc h1 h
theorem aa.XD (hb:υ n t=true) (hg:aH ops ⟨n,loc,tmp⟩ ⟨some t,op,ty,p,a,g⟩=some false)
  (h:aa P ops rest ⟨n,loc,(t,.tup [])::tmp⟩ st Q):aa P ops (⟨some t,op,ty,p,a,g⟩::rest) ⟨n,loc,tmp⟩ st Q:=
 aa.off hg (by show aa P ops rest (Γ _ t _) st Q;rw[ae hb];exact h)
theorem aa.XE (hb:υ n t=false) (hg:aH ops ⟨n,loc,tmp⟩ ⟨some t,op,ty,p,a,g⟩=some false)
  (h:aa P ops rest ⟨n,loc.set t (.tup []),tmp⟩ st Q):aa P ops (⟨some t,op,ty,p,a,g⟩::rest) ⟨n,loc,tmp⟩ st Q:=
 aa.off hg (by show aa P ops rest (Γ _ t _) st Q;rw[Nq hb];exact h)
theorem aa.oh {f gn:_} {jL:List D} {args:Array Operand} {wQ:Array TypeId} (hb:υ n t=true) (hg:aH ops ⟨n,loc,tmp⟩ ⟨some t,.call ⟨.value f,args,wQ⟩,ty,p,a,g⟩=some true) (hf:Ji ⟨n,loc,tmp⟩ f=.fn gn jL)
  (h1:Ev P gn (args.toList.map (Ji ⟨n,loc,tmp⟩)++jL) st d st1)
  (h:aa P ops rest ⟨n,loc,(t,d)::tmp⟩ st1 Q):aa P ops (⟨some t,.call ⟨.value f,args,wQ⟩,ty,p,a,g⟩::rest) ⟨n,loc,tmp⟩ st Q:=
 aa.call hg hf h1 (by show aa P ops rest (Γ _ t d) st1 Q;rw[ae hb];exact h)
end
inductive Rows (st:St) (s:Nat):D→List (List D)→Prop where
 |nul:Rows st s .nul []
 |sl (es:List D) (h:∀e∈es,e.cells?=some e.cells∧e.cells.length=s):Rows st s (.sl es) (es.map K')
 |win (k aG off:Nat) (es:List (List D)) (ar:Bool) (c:List D) (hm:st.fk k aG=some (ar,c)) (hl:off+es.length*s≤c.length)
   (he:∀(i:Nat) e,es[i]?=some e→(c.drop (off+i*s)).take s=e):Rows st s (.win k aG off es.length s) es
variable{st:St}{s:Nat}{x:D}{es:List (List D)}
theorem Rows.tM (h:Rows st s x es):∀(i:Nat) e,es[i]?=some e→e.length=s:=by
 cases h with
 |nul=>intro i e h;simp at h
 |sl es h=>
  intro i e hi;rw[Kv] at hi;obtain⟨d,hd,rfl⟩:=Jh.1 hi;exact(h d (JI hd)).2
 |win k aG off es ar c hm hl he=>
  intro i e hi
  have hlt:i<es.length:=by
   rcases ψ i es.length with h'|h'
   ·exact h'
   ·rw[θ h'] at hi;cases hi
  rw[←he i e hi];have:(i+1)*s≤es.length*s:=π s hlt;rw[ς] at this
  simp;omega
theorem Rows.len (h:Rows st s x es):xP x=some es.length∧∀b,x≠.str b:=by
 cases h with
 |nul=>exact⟨rfl,fun b h=>by cases h⟩
 |sl es h=>exact⟨by simp[xP],fun b h=>by cases h⟩
 |win k aG off es ar c hm hl he=>exact⟨rfl,fun b h=>by cases h⟩
variable{P:Pv}
theorem Rows.Ns (h:Rows st s x es) {t e:TypeId} (ht:P.cJ t=some (.slice e)):
  bR P .len [t] [x] st=some (.int .i64 (es.length:Nat),st):=by
 obtain⟨h1,h2⟩:=h.len;simp only[bR,ht]
 cases x with
 |str b=>exact absurd rfl (h2 b)
 |_=>simp only[h1];rfl
variable{d:D}
theorem y4 {e:TypeId} {c c':List D} (hs:cB P e=some s) (hc:c.take s=c') (hl:c'.length=s) (h:dW P e c'=some d):dW P e c=some d:=by
 have hlen:s≤c.length:=by rw[←hc] at hl;simp at hl;omega
 unfold dW at h⊢
 cases hu:P.cJ e with
 |none=>rw[hu] at h;cases h
 |some u=>
  rw[hu] at h
  cases u with
  |struct f=>
   simp only[hs,γ] at h⊢;rw[if_pos (by omega)] at h;rw[if_pos hlen,hc];rw[←h,K4 (by omega)]
  |array n f=>
   simp only[hs,γ] at h⊢;rw[if_pos (by omega)] at h;rw[if_pos hlen,hc];rw[←h,K4 (by omega)]
  |_=>
   simp only at h⊢;rw[←h,←hc]
   cases c with
   |nil=>simp
   |cons x xs=>
    cases s with
    |zero=>simp at hc;subst hc;simp at h
    |succ s=>simp
variable{k:IntKind}{i:Int}{r:List D}
theorem Rows.idx (h:Rows st s x es) {t e:TypeId} (ht:P.cJ t=some (.slice e)) (hs:cB P e=some s) (h0:0≤i) (hi:es[i.toNat]?=some r):
  ∃p,cm P t x (.int k i) st=some p∧∀d,dW P e r=some d→gO P e p st=some d:=by
 cases h with
 |nul=>simp at hi
 |sl es h=>
  rw[Kv] at hi;obtain⟨d,hd,rfl⟩:=Jh.1 hi;obtain⟨h1,h2⟩:=h d (JI hd);refine⟨.ep d.cells,?_,fun d' h=>h⟩;simp only[cm,ht,hs,γ,if_pos h0,hd,h1,if_pos h2]
 |win k aG off es ar c hm hl he=>
  have hlt:i.toNat<es.length:=by
   rcases ψ i.toNat es.length with h'|h'
   ·exact h'
   ·rw[θ h'] at hi;cases hi
  refine⟨.ptr k aG (off+i.toNat*s),?_,fun d' h=>?_⟩
  ·simp only[cm,ht,hs,γ,hm,Kq];rw[if_pos ⟨trivial,h0,by omega,trivial⟩]
  ·simp only[gO,hm,γ];exact y4 hs (he _ _ hi) (Rows.tM (.win k aG off es ar c hm hl he) _ _ hi) h
theorem aa.dU {ops:Array Oper} {rest:List Oper} {n:Nat} {loc:List D} {tmp:List (Nat×D)} {Q:Fr→St→Prop} {t e:TypeId} {xo io:Operand} {d1 d2:Nat} {ty1 nv:TypeId} {p1 p2:String} {a1 a2:Array Edge} {g1 g2:Option (Nat×Bool)} (hb1:υ n d1=true) (hb2:υ n d2=true) (cW:aH ops ⟨n,loc,tmp⟩ ⟨some d1,.indexAddr t xo io,ty1,p1,a1,g1⟩=some true) (aZ:∀p,aH ops ⟨n,loc,(d1,p)::tmp⟩ ⟨some d2,.load e (.tmp d1),nv,p2,a2,g2⟩=some true) (hx:Ji ⟨n,loc,tmp⟩ xo=x) (hi:Ji ⟨n,loc,tmp⟩ io=.int k i) (hR:Rows st s x es) (ht:P.cJ t=some (.slice e)) (hs:cB P e=some s) (h0:0≤i) (hr:es[i.toNat]?=some r) (hd:dW P e r=some d) (h:∀p,aa P ops rest ⟨n,loc,(d2,d)::(d1,p)::tmp⟩ st Q):aa P ops (⟨some d1,.indexAddr t xo io,ty1,p1,a1,g1⟩::⟨some d2,.load e (.tmp d1),nv,p2,a2,g2⟩::rest) ⟨n,loc,tmp⟩ st Q:=by
 obtain⟨p,h1,h2⟩:=hR.idx ht hs (k:=k) h0 hr;refine aa.T hb1 cW rfl (d:=p) (st1:=st) (by simp only[ef,hx,hi,h1,δ])<|aa.T hb2 (aZ p) rfl (d:=d) (st1:=st) ?_ (h p)
 have:Ji ⟨n,loc,(d1,p)::tmp⟩ (.tmp d1)=p:=by
  simp only[Ji,Fr.get,hb1,look];have:KP d1 d1=true:=Nat.beq_refl d1;rw[this]
 simp only[ef,this,h2 d hd,δ]
def byteCells (b:List UInt8):List (List D):=b.map fun y=>[.int .u8 (y.toNat:Nat)]
def Bytes (st:St) (x:D) (b:List UInt8):Prop:=Rows st 1 x (byteCells b)
theorem aP {m:Mode} {kn:Bool} {st1:St} {d':D} (hm:m≠.bd∧m≠.nw) (h1:st1.bs.take st.bs.length=st.bs) (hd:bn st1 st.bs.length kn 16 d=some d'):c_ m kn st st1 d=some (d',st):=by
 cases m with
 |bd=>exact absurd rfl hm.1
 |nw=>exact absurd rfl hm.2
 |_=>simp only[c_,hd,h1]
end Go.V
namespace Go.V
structure Ex (N:Nat) (st ai:St):Prop where
 low:∀k,k<N→ai.bs[k]?=st.bs[k]?
 len:st.bs.length≤ai.bs.length
 flr:ai.flr=st.flr
 ro:ai.ro=st.ro
theorem Ex.refl (N:Nat) (st:St):Ex N st st:=⟨fun _ _=>rfl,τ _,rfl,rfl⟩
theorem Ex.trans {N:Nat} {a b c:St} (h:Ex N a b) (g:Ex N b c):Ex N a c:=
 ⟨fun k hk=>(g.low k hk).trans (h.low k hk),Ju h.len g.len,g.flr.trans h.flr,g.ro.trans h.ro⟩
theorem Ex.push {N:Nat} {st:St} (h:N≤st.bs.length) (b:iI):Ex N st (st.push b):=
 ⟨fun k hk=>by simp only[Ω];rw[ρ (by omega)],by simp[Ω],rfl,rfl⟩
variable{k:Nat}
theorem Ex.set {N:Nat} {st:St} (h:N≤k) (b:iI):Ex N st {st with bs:=st.bs.set k b}:=
 ⟨fun j hj=>by simp only;rw[ε (by omega)],by simp,rfl,rfl⟩
variable{ai:St}
theorem Ex.take {N:Nat} {st:St} (h:Ex N st ai) (hN:N=st.bs.length):ai.bs.take N=st.bs:=by
 apply Kj;intro k;rw[K1]
 split
 ·exact h.low k (by assumption)
 ·rw[θ (by omega)]
theorem Ex.mem {N:Nat} {st:St} (h:Ex N st ai) {v:Nat} (hk:k<N):ai.fk k v=st.fk k v:=by
 simp only[Kb,h.low k hk]
variable{s:Nat}{x:D}{es:List (List D)}
theorem Rows.ex {N:Nat} {st:St} (h:Ex N st ai) (hr:Rows st s x es) (hx:x.ref≤N):Rows ai s x es:=by
 cases hr with
 |nul=>exact .nul
 |sl es h=>exact .sl es h
 |win k aG off es ar c hm hl he=>exact .win k aG off es ar c (by rw[h.mem (by simp only[ω] at hx;omega)];exact hm) hl he
variable{l r:Nat}
theorem Rows.slice {P:Pv} {st:St} (h:Rows st s x es) {t e:TypeId} (ht:P.cJ t=some (.slice e)) (hs:cB P e=some s) {lo hi:Option D} (hb:dw es.length lo hi=some (l,r)) (yg:l≤r∧r≤es.length):
  ∃y,gT P t x lo hi st=some y∧Rows st s y ((es.take r).drop l)∧y.ref≤x.ref:=by
 cases h with
 |nul=>
  refine⟨.nul,?_,?_,τ _⟩
  ·simp only[gT,ht,hs,γ];simp only[Jd] at hb;rw[hb];rfl
  ·simp;exact .nul
 |sl es h=>
  refine⟨.sl ((es.take r).drop l),?_,?_,by simp[ω]⟩
  ·simp only[gT,ht,hs,γ]
   have:sD s es=true:=by
    cases es with
    |nil=>rfl
    |cons e es=>obtain⟨h1,h2⟩:=h e (κ ..);simp[sD,h1,h2]
   rw[if_pos this];simp only[K5] at hb;rw[hb];rfl
  ·have:=Rows.sl (st:=st) (s:=s) ((es.take r).drop l) fun e he=>h e (JO (KZ he))
   simpa[KM,KN] using this
 |win k aG off es ar c hm hl he=>
  have hlen:((es.take r).drop l).length=r-l:=by simp;omega
  refine⟨.win k aG (off+l*s) (r-l) s,?_,?_,by simp[ω]⟩
  ·simp only[gT,ht,hs,γ,if_true,hb];rfl
  ·have h1:l*s+(r-l)*s≤es.length*s:=by rw[←ς];exact π s (by omega)
   have:=Rows.win (st:=st) (s:=s) k aG (off+l*s) ((es.take r).drop l) ar c hm (by rw[hlen];omega) (fun i e hi=>by
    rw[KD,K1] at hi
    split at hi
    ·have:=he _ _ hi;rw[←this,ς];congr 2;omega
    ·cases hi)
   rwa [hlen] at this
inductive Acc (N:Nat) (st:St) (s:Nat):D→List (List D)→Prop where
 |nul:Acc N st s .nul []
 |win (k aG:Nat) (es:List (List D)) (hN:N≤k) (hm:st.bs[k]?=some (.mem aG true es.flatten)) (he:∀e∈es,e.length=s):Acc N st s (.win k aG 0 es.length s) es
theorem dg {s:Nat}:∀{es:List (List D)},(∀e∈es,e.length=s)→es.flatten.length=es.length*s
 |[],_=>by simp
 |e::es,h=>by
  have:=dg (s:=s) (es:=es) fun x hx=>h x (μ _ hx);simp only[Δ,χ,ξ,this,h e (κ ..)];rw[ς];omega
theorem mi {s:Nat}:∀{es:List (List D)},(∀e∈es,e.length=s)→∀(i:Nat) e,es[i]?=some e→(es.flatten.drop (i*s)).take s=e
 |[],_,i,e,h=>by simp at h
 |x::es,h,0,e,hi=>by
  simp at hi;subst hi;have:=h x (κ ..);simp[KV this]
 |x::es,h,i+1,e,hi=>by
  simp only[ν] at hi;have hx:=h x (κ ..);have:=mi (s:=s) (es:=es) (fun y hy=>h y (μ _ hy)) i e hi;rw[←this,Δ,ς,Jc,K7,←hx,←φ,List.drop_left]
variable{c:List D}
theorem St.mem_of {st:St} {aG:Nat} {ar:Bool} (h:st.bs[k]?=some (.mem aG ar c)):st.fk k aG=some (ar,c):=by
 simp only[Kb,h,if_true]
theorem Acc.rows {N:Nat} {st:St} (h:Acc N st s x es):Rows st s x es:=by
 cases h with
 |nul=>exact .nul
 |win k aG es hN hm he=>
  exact .win k aG 0 es true es.flatten (St.mem_of hm) (by rw[dg he];omega) fun i e hi=>by rw[KB];exact mi he i e hi
theorem Acc.ex {N M:Nat} {st:St} (h:Ex M st ai) (hr:Acc N st s x es) (hx:x.ref≤M):Acc N ai s x es:=by
 cases hr with
 |nul=>exact .nul
 |win k aG es hN hm he=>exact .win k aG es hN (by rw[h.low k (by simp only[ω] at hx;omega)];exact hm) he
theorem Acc.push {N:Nat} {st:St} (hr:Acc N st s x es) (b:iI):Acc N (st.push b) s x es:=by
 cases hr with
 |nul=>exact .nul
 |win k aG es hN hm he=>
  refine .win k aG es hN ?_ he;simp only[Ω];rw[ρ];exact hm
  rcases ψ k st.bs.length with h'|h'
  ·exact h'
  ·rw[θ h'] at hm;cases hm
theorem Rows.row {st:St} (h:Rows st s x es):rD st x=some (es.length,es.flatten):=by
 have hl:=h.tM
 cases h with
 |nul=>rfl
 |sl es h=>
  simp only[rD,K5];rw[List.flatMap_def]
 |win k aG off es ar c hm gP he=>
  simp only[rD,hm,γ,if_pos gP]
  congr 2
  have key:∀(es:List (List D)) (c:List D),es.length*s≤c.length→(∀(i:Nat) e,es[i]?=some e→(c.drop (i*s)).take s=e)→c.take (es.length*s)=es.flatten:=by
   intro es
   induction es with
   |nil=>intro c _ _;simp
   |cons e es ih=>
    intro c hc hx;have h0:=hx 0 e rfl;simp only[Nat.zero_mul,Jf] at h0;rw[Δ,ξ,ς,Jc,K7,KR,h0]
    congr 1
    simp only[ξ,ς,Jc] at hc;refine ih (c.drop s) (by simp;omega) fun i e hi=>?_;rw[φ,←hx (i+1) e (by simpa using hi),ς,Jc,K7]
  refine key es (c.drop off) (by simp;omega) fun i e hi=>?_;rw[φ];exact he i e hi
variable{y:D}{ys:List (List D)}{z:List D}
theorem Acc.append {P:Pv} {N:Nat} {st:St} (hr:Acc N st s x es) (hy:Rows st s y ys) {t1 t2 e:TypeId} {td:TypeDesc} {inf:TypeInfo} (h1:P.cJ t1=some (.slice e)) (h2:P.cJ t2=some td) (h3:hO td=false) (h4:P.info e=some inf) (h5:dG P e=some z) (h6:inf.size=s) (h7:z.length=s) (h8:inf.bytes≠0) (hN:N≤st.bs.length) (hf:st.flr≤N) (eT:st.ro≤N) (hb:(es.length+ys.length)*inf.bytes≤1099511627776):
  ∃x' ai,bR P .append [t1,t2] [x,y] st=some (x',ai)∧Acc N ai s x' (es++ys)∧Ex N st ai∧x'.ref≤ai.bs.length∧(∀k,k<st.bs.length→k+1≠x.ref→ai.bs[k]?=st.bs[k]?)∧(x'.ref=x.ref∨st.bs.length<x'.ref):=by
 have kY:=hy.row
 have EF:∀e∈ys,e.length=s:=fun e he=>by
  obtain⟨i,hi⟩:=Jr he;exact hy.tM i e hi
 have nT:=dg EF;subst h6;simp only[bR,iO,h1,h2,h3,Kz,if_false,h4,h5,kY,γ];rw[if_neg (by rintro(h|h|h);exact h nT;exact h8 h;exact h h7)]
 cases hr with
 |nul=>
  simp only[K6]
  by_cases h0:ys.length=0
  ·rw[if_pos h0]
   have:ys=[]:=by cases ys with|nil=>rfl|cons _ _=>simp at h0
   subst this;exact⟨.nul,st,rfl,.nul,Ex.refl _ _,by simp[ω],fun _ _ _=>rfl,.inl rfl⟩
  ·rw[if_neg h0,if_pos (by simpa using hb)];refine⟨_,_,rfl,?_,Ex.push hN _,by simp[ω,Ω],fun k hk _=>by simp only[Ω];rw[ρ hk],.inr (by simp[ω])⟩;exact .win _ _ ys hN (by simp[Ω]) EF
 |win k aG es hk hm he=>
  have iL:k<st.bs.length:=by
   rcases ψ k st.bs.length with h'|h'
   ·exact h'
   ·rw[θ h'] at hm;cases hm
  simp only[St.mem_of hm];rw[if_neg (by rintro(h|h);exact h rfl;rw[dg he] at h;omega)]
  by_cases h0:ys.length=0
  ·rw[if_pos h0]
   have:ys=[]:=by cases ys with|nil=>rfl|cons _ _=>simp at h0
   subst this;simp only[KY];exact⟨_,st,rfl,.win k aG es hk hm he,Ex.refl _ _,by simp only[ω];omega,fun _ _ _=>rfl,.inl rfl⟩
  ·rw[if_neg h0,if_pos ⟨hb,by simp only[Kc,Ξ,KW,decide_eq_true_eq];exact⟨by omega,.inl (by omega)⟩⟩];refine⟨_,_,rfl,?_,Ex.set hk _,by simp only[ω,Θ];omega,fun j hj hne=>by simp only;rw[ε (by simp only[ω] at hne;omega)],.inl rfl⟩
   have:(es.flatten.take (0+es.length*inf.size)).drop 0++ys.flatten=(es++ys).flatten:=by
    rw[KB,←dg he,Jg,Jf,Js]
   rw[this];have wG:es.length+ys.length=(es++ys).length:=by simp
   rw[wG]
   exact .win k (aG+1) (es++ys) hk (by simp[iL]) fun e h=>by
    rcases KL.1 h with h|h
    ·exact he e h
    ·exact EF e h
def cv:D→Bool
 | .bool _| .int _ _| .str _| .sl _=>true
 |_=>false
theorem kF {st:St} {N n:Nat}:∀{l:List D},(∀d∈l,cv d=true)→fN (fu st N (n+1)) l=some l
 |[],_=>rfl
 |d::l,h=>by
  have h1:=h d (κ ..);have h2:=kF (st:=st) (N:=N) (n:=n) fun x hx=>h x (μ _ hx);have h3:fu st N (n+1) d=some d:=by cases d<;>simp[cv] at h1<;>rfl
  simp only[fN,h3,h2]
def jR (s:Nat) (e:List D):D:=match s with|1=>e.headD .bD|_=>.agg e
theorem hU {s:Nat}:∀{es:List (List D)},(∀e∈es,e.length=s)→chunk s es.length es.flatten=es.map (jR s)
 |[],_=>rfl
 |e::es,h=>by
  have he:=h e (κ ..);have ih:=hU (s:=s) (es:=es) fun x hx=>h x (μ _ hx);simp only[ξ,chunk,Δ,ο]
  congr 1
  ·by_cases hs:s=1
   ·subst hs
    cases e with
    |nil=>simp at he
    |cons x xs=>simp[jR]
   ·have h1:jR s e=.agg e:=by unfold jR;split;exact absurd rfl hs;rfl
    have h2:(match s with|1=>(e++es.flatten).headD .bD|_=>D.agg ((e++es.flatten).take s))=.agg e:=by
     split
     ·exact absurd rfl hs
     ·rw[KV he]
    rw[h1];exact h2
  ·rw[KK he];exact ih
theorem Acc.freeze {N:Nat} {st:St} (h:Acc N st s x es) (hp:∀e∈es,∀d∈e,cv d=true) {n:Nat} (hn:2≤n):bn st N false (n+1) x=some (.sl (es.map (jR s))):=by
 obtain⟨n,rfl⟩:∃m,n=m+2:=⟨n-2,by omega⟩
 cases h with
 |nul=>rfl
 |win k aG es hN hm he=>
  show(if k<N then some (D.win k aG 0 es.length s) else fu st N (n+2) (.win k aG 0 es.length s))=_;rw[if_neg (show¬k<N by omega),fu];simp only[if_neg (show¬k<N by omega),St.mem_of hm,γ];rw[if_pos (by rw[dg he];omega)];have:(es.flatten.drop 0).take (es.length*s)=es.flatten:=by rw[Jf,←dg he,Jg]
  rw[this,kF (fun d hd=>by
   obtain⟨e,qZ,Bu⟩:=Kw.1 hd
   exact hp e qZ d Bu)]
  simp only[δ,hU he]
theorem ml {e:List D} (h:e.length=s) (hp:∀d∈e,cv d=true):(jR s e).cells?=some (jR s e).cells∧(jR s e).cells=e:=by
 by_cases hs:s=1
 ·subst hs
  match e,h with
  |[x],_=>
   have:=hp x (κ ..);cases x<;>simp[cv] at this<;>exact⟨rfl,rfl⟩
 ·have:jR s e=.agg e:=by unfold jR;split;exact absurd rfl hs;rfl
  rw[this];exact⟨rfl,rfl⟩
theorem Rows.nF {st:St} (h:∀e∈es,e.length=s) (hp:∀e∈es,∀d∈e,cv d=true):Rows st s (.sl (es.map (jR s))) es:=by
 have:=Rows.sl (st:=st) (s:=s) (es.map (jR s)) fun d hd=>by
  obtain⟨e,he,rfl⟩:=Kk.1 hd;obtain⟨h1,h2⟩:=ml (h e he) (hp e he);exact⟨h1,by rw[h2];exact h e he⟩
 have h2:(es.map (jR s)).map K'=es:=by
  rw[KA]
  conv=>rhs;rw[←KI es]
  refine KF fun e he=>?_;exact(ml (h e he) (hp e he)).2
 rwa [h2] at this
theorem Rows.bs {st:St} (h:ai.bs=st.bs) (hr:Rows st s x es):Rows ai s x es:=by
 cases hr with
 |nul=>exact .nul
 |sl es h=>exact .sl es h
 |win k aG off es ar c hm hl he=>exact .win k aG off es ar c (by simp only[Kb,h] at hm⊢;exact hm) hl he
theorem Fl (m:Mode) (st:St):(ah m st).bs=st.bs:=by cases m<;>rfl
theorem Rows.enter {st:St} (m:Mode) (hr:Rows st s x es):Rows (ah m st) s x es:=hr.bs (Fl m st)
theorem eW {k:IntKind} {m:Nat} (h:m≤mz k):cy k (m:Int)=m:=by
 show cy k (.ofNat m)=_;unfold cy;simp only[Nat.ble_eq_true_of_le h];rfl
theorem wrap_i64 {n : Int} (h1 : -9223372036854775808 ≤ n) (h2 : n ≤ 9223372036854775807) : cy .i64 n = n := by
  cases n with
  | ofNat m => exact eW (k := .i64) (m := m) (by simp only [mz]; have : (Int.ofNat m) = (m : Int) := rfl; omega)
  | negSucc m =>
    unfold cy
    have : υ (vE .i64) m = false := by
      cases hb : υ (vE .i64) m with
      | false => rfl
      | true => have := Ψ hb; simp only [vE] at this; have : Int.negSucc m = -(m : Int) - 1 := by omega
                omega
    simp only [this]
variable{w:Nat}
theorem bv_and {a b:Nat} (ha:a<2^w) (hb:b<2^w):(Kx w (a:Int) &&&Kx w (b:Int)).toNat=a &&&b:=by
 rw[Jo,Jo,BitVec.toNat_and,Jt,Jt,K3 ha,K3 hb]
theorem WA {a b:Nat} (ha:a<2^w) (hb:b<2^w):(Kx w (a:Int)|||Kx w (b:Int)).toNat=a|||b:=by
 rw[Jo,Jo,BitVec.toNat_or,Jt,Jt,K3 ha,K3 hb]
variable{b:Int}
theorem cu {a:Int} (h:a=b):(a==b)=true:=by simp[h]
theorem cU {a:Int} (h:a≠b):(a==b)=false:=by simp[h]
theorem ct {a:Int} (h:a≠b):(a !=b)=true:=by simp[h]
theorem cT {a:Int} (h:a=b):(a !=b)=false:=by simp[h]
variable{P:Pv} {ops:Array Oper} {rest:List Oper} {n:Nat} {loc:List D} {tmp:List (Nat×D)} {st:St} {Q:Fr→St→Prop} {ty:TypeId} {p:String} {a:Array Edge} {g:Option (Nat×Bool)} {dst:Nat}
theorem aa.len {t e:TypeId} {xo:Operand} (qz:υ n dst=true) (hg:aH ops ⟨n,loc,tmp⟩ ⟨some dst,.call ⟨.builtin .len,#[xo],#[t]⟩,ty,p,a,g⟩=some true) (hx:Ji ⟨n,loc,tmp⟩ xo=x) (hR:Rows st s x es) (ht:P.cJ t=some (.slice e)) (h:aa P ops rest ⟨n,loc,(dst,(.int .i64 (es.length:Nat)))::tmp⟩ st Q):aa P ops (⟨some dst,.call ⟨.builtin .len,#[xo],#[t]⟩,ty,p,a,g⟩::rest) ⟨n,loc,tmp⟩ st Q:=by
 refine aa.T qz hg rfl (d:=.int .i64 (es.length:Nat)) (st1:=st) ?_ h;simp only[ef,ο,JE,hx];exact hR.Ns ht
theorem aa.slice {t e:TypeId} {xo:Operand} {lo hi:Option Operand} (qz:υ n dst=true) (hg:aH ops ⟨n,loc,tmp⟩ ⟨some dst,.slice t xo lo hi none,ty,p,a,g⟩=some true) (hx:Ji ⟨n,loc,tmp⟩ xo=x) (hR:Rows st s x es) (ht:P.cJ t=some (.slice e)) (hs:cB P e=some s) (hb:dw es.length (lo.map (Ji ⟨n,loc,tmp⟩)) (hi.map (Ji ⟨n,loc,tmp⟩))=some (l,r)) (yg:l≤r∧r≤es.length) (h:∀y,Rows st s y ((es.take r).drop l)→y.ref≤x.ref→aa P ops rest ⟨n,loc,(dst,y)::tmp⟩ st Q):aa P ops (⟨some dst,.slice t xo lo hi none,ty,p,a,g⟩::rest) ⟨n,loc,tmp⟩ st Q:=by
 obtain⟨y,h1,h2,h3⟩:=hR.slice ht hs hb yg;refine aa.T qz hg rfl (d:=y) (st1:=st) ?_ (h y h2 h3);simp only[ef,hx,h1,δ]
theorem aa.append {N:Nat} {t1 t2 e:TypeId} {td:TypeDesc} {inf:TypeInfo} {xo yo:Operand} (qz:υ n dst=true) (hg:aH ops ⟨n,loc,tmp⟩ ⟨some dst,.call ⟨.builtin .append,#[xo,yo],#[t1,t2]⟩,ty,p,a,g⟩=some true) (hx:Ji ⟨n,loc,tmp⟩ xo=x) (hy:Ji ⟨n,loc,tmp⟩ yo=y) (hr:Acc N st s x es) (kU:Rows st s y ys) (h1:P.cJ t1=some (.slice e)) (h2:P.cJ t2=some td) (h3:hO td=false) (h4:P.info e=some inf) (h5:dG P e=some z) (h6:inf.size=s) (h7:z.length=s) (h8:inf.bytes≠0) (hN:N≤st.bs.length) (hf:st.flr≤N) (eT:st.ro≤N) (hb:(es.length+ys.length)*inf.bytes≤1099511627776) (h:∀x' ai,Acc N ai s x' (es++ys)→Ex N st ai→x'.ref≤ai.bs.length→(∀k,k<st.bs.length→k+1≠x.ref→ai.bs[k]?=st.bs[k]?)→(x'.ref=x.ref∨st.bs.length<x'.ref)→aa P ops rest ⟨n,loc,(dst,x')::tmp⟩ ai Q):
  aa P ops (⟨some dst,.call ⟨.builtin .append,#[xo,yo],#[t1,t2]⟩,ty,p,a,g⟩::rest) ⟨n,loc,tmp⟩ st Q:=by
 obtain⟨x',ai,q1,q2,q3,q4,q5,q6⟩:=hr.append kU h1 h2 h3 h4 h5 h6 h7 h8 hN hf eT hb;refine aa.T qz hg rfl (d:=x') (st1:=ai) ?_ (h x' ai q2 q3 q4 q5 q6);simp only[ef,ο,JE,hx,hy];exact q1
theorem Rows.one {st:St} (hc:c.length=s):Rows (st.push (.mem 0 true c)) s (.win st.bs.length 0 0 1 s) [c]:=by
 have:=Rows.win (st:=st.push (.mem 0 true c)) (s:=s) st.bs.length 0 0 [c] true c (St.mem_of (by simp[Ω])) (by simp[hc]) fun i e hi=>by
  cases i with
  |zero=>simp at hi;subst hi;simp[←hc]
  |succ i=>simp at hi
 exact this
theorem Rows.ref {st:St} (h:Rows st s x es):x.ref≤st.bs.length:=by
 cases h with
 |nul=>simp[ω]
 |sl es h=>simp[ω]
 |win k aG off es ar c hm hl he=>
  simp only[ω]
  rcases ψ k st.bs.length with h'|h'
  ·exact h'
  ·simp only[Kb,θ h'] at hm;cases hm
theorem Acc.ref {N:Nat} {st:St} (h:Acc N st s x es):x.ref≤st.bs.length:=h.rows.ref
end Go.V
namespace Go.V
theorem gU:∀(xs c:List D) (off:Nat),off+xs.length≤c.length→setMany c off xs=c.take off++xs++c.drop (off+xs.length)
 |[],c,off,h=>by simp[setMany]
 |x::xs,c,off,h=>by
  simp only[setMany];simp only[ξ] at h;rw[gU xs (c.set off x) (off+1) (by simp;omega)]
  have h1:(c.set off x).take (off+1)=c.take off++[x]:=by
   rw[List.take_set,List.take_add_one,List.getElem?_eq_getElem (by omega:off<c.length)];simp only[Option.toList_some];rw[KH _ _ (by simp;omega)];have:off-(c.take off).length=0:=by simp;omega
   rw[this];rfl
  have h2:(c.set off x).drop (off+1+xs.length)=c.drop (off+(xs.length+1)):=by
   rw[List.drop_set_of_lt (by omega)];congr 1;omega
  rw[h1,h2];simp[ξ]
variable{k:Nat}
theorem xr {st:St} {b b':iI} (hk:k=st.bs.length):(⟨(st.push b).bs.set k b',(st.push b).flr,(st.push b).ro⟩:St)=st.push b':=by
 subst hk;simp[Ω,KH]
theorem kC (st:St) (b:iI):(st.push b).bs[st.bs.length]?=some b:=by simp[Ω]
variable{P:Pv} {ops:Array Oper} {rest:List Oper} {n:Nat} {loc:List D} {tmp:List (Nat×D)} {st:St} {Q:Fr→St→Prop} {ty:TypeId} {p:String} {a:Array Edge} {g:Option (Nat×Bool)} {dst:Nat}
variable{m:Nat}
theorem aa.makeSlice {t e:TypeId} {lo co:Operand} {k1 k2:IntKind} {inf:TypeInfo} {z:List D} (qz:υ n dst=true) (hg:aH ops ⟨n,loc,tmp⟩ ⟨some dst,.makeSlice t lo co,ty,p,a,g⟩=some true) (hl:Ji ⟨n,loc,tmp⟩ lo=.int k1 (m:Nat)) (hc:Ji ⟨n,loc,tmp⟩ co=.int k2 (m:Nat)) (ht:P.cJ t=some (.slice e)) (hi:P.info e=some inf) (hz:dG P e=some z) (lg:z.length=inf.size) (hm:m*inf.bytes≤140737488355328) (WU:m≤9223372036854775807) (h:aa P ops rest ⟨n,loc,(dst,.win st.bs.length 0 0 m inf.size)::tmp⟩ (st.push (.mem 0 true (fg m z))) Q):aa P ops (⟨some dst,.makeSlice t lo co,ty,p,a,g⟩::rest) ⟨n,loc,tmp⟩ st Q:=by
 refine aa.T qz hg rfl (d:=.win st.bs.length 0 0 m inf.size) (st1:=st.push (.mem 0 true (fg m z))) ?_ h;simp only[ef,hl,hc,gZ,ht,hi,hz,γ];rw[if_pos ⟨lg,by omega,by omega,by omega,by rw[←Int.natCast_mul];omega⟩]
 rfl
variable{aG:Nat}{ar:Bool}{c:List D}
theorem mK {off:Nat} {cs:List D} (hm:st.bs[k]?=some (.mem aG ar c)) (hl:off+cs.length≤c.length) (hw:st.jn k (refs cs)=true):st.wr k aG off cs=some {st with bs:=st.bs.set k (.mem aG ar (c.take off++cs++c.drop (off+cs.length)))}:=by
 simp only[St.wr,St.mem_of hm];rw[if_pos ⟨hl,hw⟩,gU _ _ _ hl]
theorem pg (eT:st.ro≤k):st.jn k 0=true:=by
 simp only[Kc,Ξ,KW,decide_eq_true_eq];exact⟨eT,.inr (.inl (by omega))⟩
variable{s:Nat}
theorem aa.copy {t1 t2 e:TypeId} {do_ so:Operand} {off len:Nat} {y:D} {ys:List (List D)} (qz:υ n dst=true) (hg:aH ops ⟨n,loc,tmp⟩ ⟨some dst,.call ⟨.builtin .copy,#[do_,so],#[t1,t2]⟩,ty,p,a,g⟩=some true) (hd:Ji ⟨n,loc,tmp⟩ do_=.win k aG off len s) (hy:Ji ⟨n,loc,tmp⟩ so=y) (hR:Rows st s y ys) (ht:P.cJ t1=some (.slice e)) (hs:cB P e=some s) (hm:st.bs[k]?=some (.mem aG ar c)) (hl:off+len*s≤c.length) (hw:st.jn k (refs (ys.flatten.take (min ys.length len*s)))=true) (h:aa P ops rest ⟨n,loc,(dst,.int .i64 (min ys.length len:Nat))::tmp⟩ {st with bs:=st.bs.set k (.mem aG ar (c.take off++ys.flatten.take (min ys.length len*s)++c.drop (off+min ys.length len*s)))} Q):
  aa P ops (⟨some dst,.call ⟨.builtin .copy,#[do_,so],#[t1,t2]⟩,ty,p,a,g⟩::rest) ⟨n,loc,tmp⟩ st Q:=by
 have EF:∀e∈ys,e.length=s:=fun e he=>by
  obtain⟨i,hi⟩:=Jr he;exact hR.tM i e hi
 have nT:=dg EF;have yf:min ys.length len*s≤ys.length*s:=π s (Nat.min_le_left _ _);have aay:min ys.length len*s≤len*s:=π s (Nat.min_le_right _ _);have ng:(ys.flatten.take (min ys.length len*s)).length=min ys.length len*s:=by rw[Jp,nT];omega
 refine aa.T qz hg rfl (d:=.int .i64 (min ys.length len:Nat)) (st1:={st with bs:=st.bs.set k (.mem aG ar (c.take off++ys.flatten.take (min ys.length len*s)++c.drop (off+min ys.length len*s)))}) ?_ h;simp only[ef,ο,JE,hd,hy,bR,uU,ht,hs,γ,hR.row];rw[if_neg (by simp[nT])];simp only[ne_eq,not_true_eq_false,if_false];have:=mK (st:=st) hm (cs:=ys.flatten.take (min ys.length len*s)) (off:=off) (by rw[ng];omega) hw;rw[this,ng];rfl
variable{ao:Operand}
theorem aa.store {fr:Fr} {t:TypeId} {vo:Operand} {off:Nat} {v:D} {cs:List D} (hg:aH ops fr ⟨none,.store t ao vo,ty,p,a,g⟩=some true) (ha:fr.ev ao=.ptr k aG off) (hv:fr.ev vo=v) (iy:v.cells?=some cs) (hs:cB P t=some cs.length) (hm:st.bs[k]?=some (.mem aG ar c)) (hl:off+cs.length≤c.length) (hw:st.jn k (refs cs)=true) (h:aa P ops rest fr {st with bs:=st.bs.set k (.mem aG ar (c.take off++cs++c.drop (off+cs.length)))} Q):aa P ops (⟨none,.store t ao vo,ty,p,a,g⟩::rest) fr st Q:=by
 refine aa.N hg rfl (d:=.tup []) (st1:=_) ?_ h;simp only[ef,ha,hv,lu,iy,hs];rw[if_pos trivial,mK hm hl hw];rfl
variable{d:D}
theorem aa.load {t:TypeId} {off:Nat} (qz:υ n dst=true) (hg:aH ops ⟨n,loc,tmp⟩ ⟨some dst,.load t ao,ty,p,a,g⟩=some true) (ha:Ji ⟨n,loc,tmp⟩ ao=.ptr k aG off) (hm:st.bs[k]?=some (.mem aG ar c)) (hd:dW P t (c.drop off)=some d) (h:aa P ops rest ⟨n,loc,(dst,d)::tmp⟩ st Q):aa P ops (⟨some dst,.load t ao,ty,p,a,g⟩::rest) ⟨n,loc,tmp⟩ st Q:=by
 refine aa.T qz hg rfl (d:=d) (st1:=st) ?_ h;simp only[ef,ha,gO,St.mem_of hm,γ,hd,δ]
theorem aa.next {io:Operand} {pos:Nat} {b:List UInt8} (qz:υ n dst=true) (hg:aH ops ⟨n,loc,tmp⟩ ⟨some dst,.next io true,ty,p,a,g⟩=some true) (hx:Ji ⟨n,loc,tmp⟩ io=.ptr k 0 0) (hm:st.bs[k]?=some (.iter b pos)) (hp:pos<b.length) (hw:st.jn k 0=true) (h:aa P ops rest ⟨n,loc,(dst,.tup [.bool true,.int .i64 (pos:Nat),.int .i32 ((Utf8.decode ⟨b.toArray⟩ pos).1:Nat)])::tmp⟩ {st with bs:=st.bs.set k (.iter b (pos+(Utf8.decode ⟨b.toArray⟩ pos).2))} Q):aa P ops (⟨some dst,.next io true,ty,p,a,g⟩::rest) ⟨n,loc,tmp⟩ st Q:=by
 refine aa.T qz hg rfl (d:=.tup [.bool true,.int .i64 (pos:Nat),.int .i32 ((Utf8.decode ⟨b.toArray⟩ pos).1:Nat)]) (st1:={st with bs:=st.bs.set k (.iter b (pos+(Utf8.decode ⟨b.toArray⟩ pos).2))}) ?_ h;simp only[ef,hx,ui,hm,if_pos hp,hw,if_true]
theorem aa.rp {t e:TypeId} {xo:Operand} {lo hi:Option Operand} {v off l r:Nat} (qz:υ n dst=true) (hg:aH ops ⟨n,loc,tmp⟩ ⟨some dst,.slice t xo lo hi none,ty,p,a,g⟩=some true) (hx:Ji ⟨n,loc,tmp⟩ xo=.ptr k v off) (ht:P.cJ t=some (.array m e)) (hs:cB P e=some s) (hm:st.bs[k]?=some (.mem v ar c)) (hl:off+m*s≤c.length) (hb:dw m (lo.map (Ji ⟨n,loc,tmp⟩)) (hi.map (Ji ⟨n,loc,tmp⟩))=some (l,r)) (h:aa P ops rest ⟨n,loc,(dst,.win k v (off+l*s) (r-l) s)::tmp⟩ st Q):aa P ops (⟨some dst,.slice t xo lo hi none,ty,p,a,g⟩::rest) ⟨n,loc,tmp⟩ st Q:=by
 refine aa.T qz hg rfl (d:=.win k v (off+l*s) (r-l) s) (st1:=st) ?_ h;simp only[ef,hx,gT,ht,hs,γ,St.mem_of hm,if_pos hl,hb,δ]
structure Gb (N k:Nat) (st ai:St):Prop where
 low:∀i,i<N→i≠k→ai.bs[i]?=st.bs[i]?
 len:st.bs.length≤ai.bs.length
 flr:ai.flr=st.flr
 ro:ai.ro=st.ro
variable{b:St}
theorem Gb.of {N:Nat} {a c:St} (h:Gb N k a b) (g:Ex N b c):Gb N k a c:=
 ⟨fun i hi hk=>(g.low i hi).trans (h.low i hi hk),Ju h.len g.len,g.flr.trans h.flr,g.ro.trans h.ro⟩
theorem Gb.put {N:Nat} {a:St} (h:Gb N k a b) (bx:iI):Gb N k a ⟨b.bs.set k bx,b.flr,b.ro⟩:=
 ⟨fun i hi hk=>by simp only;rw[ε (fun e=>hk e.symm)];exact h.low i hi hk,by simp only[Θ];exact h.len,h.flr,h.ro⟩
theorem Gb.take {a:St} (h:Gb a.bs.length k a b) (hk:k<a.bs.length) {bx:iI} (hb:b.bs[k]?=some bx):b.bs.take a.bs.length=a.bs.set k bx:=by
 apply Kj;intro i;rw[K1]
 by_cases hi:i<a.bs.length
 ·rw[if_pos hi]
  by_cases he:i=k
  ·subst he;rw[hb,ι hk]
  ·rw[h.low i hi he,ε (fun e=>he e.symm)]
 ·rw[if_neg hi,θ (by simp;omega)]
theorem EB {kn:Bool} {st st1:St} {d':D} {bs':List iI} (h1:st1.bs.take st.bs.length=bs') (hd:bn st1 st.bs.length kn 16 d=some d'):c_ .rw kn st st1 d=some (d',⟨bs',st.flr,st.ro⟩):=by
 simp only[c_,hd,h1]
end Go.V
namespace Go.V
variable{P:Pv} {ops:Array Oper} {rest:List Oper} {n:Nat} {loc:List D} {tmp:List (Nat×D)} {st:St} {Q:Fr→St→Prop} {ty:TypeId} {p:String} {a:Array Edge} {g:Option (Nat×Bool)} {dst:Nat}
end Go.V
namespace Go.V
structure bJ where
 K:Nat→Prop
 P:St→Prop
 loc:∀{st ai:St},(∀k,K k→ai.bs[k]?=st.bs[k]?)→P st→P ai
def bJ.box (k:Nat) (b:iI):bJ:=⟨fun j=>j=k,fun st=>st.bs[k]?=some b,fun h p=>(h k rfl).trans p⟩
inductive iB (st:St) (s:Nat):D→List (List D)→Prop where
 |nul:iB st s .nul []
 |win (k aG off:Nat) (es:List (List D)) (c:List D) (hm:st.bs[k]?=some (.mem aG true c)) (hl:off+es.length*s≤c.length) (hc:(c.drop off).take (es.length*s)=es.flatten) (he:∀e∈es,e.length=s):iB st s (.win k aG off es.length s) es
variable{ai:St}{s:Nat}{x:D}{es:List (List D)}
theorem iB.move {st:St} (h:∀k,x.ref=k+1→ai.bs[k]?=st.bs[k]?) (p:iB st s x es):iB ai s x es:=by
 cases p with
 |nul=>exact .nul
 |win k aG off es c hm hl hc he=>exact .win k aG off es c ((h k (by simp only[ω])).trans hm) hl hc he
def bJ.aO (x:D) (s:Nat) (es:List (List D)):bJ:=⟨fun j=>x.ref=j+1,fun st=>iB st s x es,fun h p=>iB.move h p⟩
theorem iB.tM {st:St} (p:iB st s x es):∀e∈es,e.length=s:=by
 cases p with
 |nul=>intro e he;cases he
 |win k aG off es c hm hl hc he=>exact he
theorem iB.rows {st:St} (p:iB st s x es):Rows st s x es:=by
 cases p with
 |nul=>exact .nul
 |win k aG off es c hm hl hc he=>
  refine .win k aG off es true c (St.mem_of hm) hl fun i e hi=>?_
  have hil:i<es.length:=by
   rcases ψ i es.length with h'|h'
   ·exact h'
   ·rw[θ h'] at hi;cases hi
  have h1:=mi he i e hi;rw[←hc,Φ,Jn,φ] at h1;have h2:(i+1)*s≤es.length*s:=π s hil;rw[ς,Jc] at h2
  rwa [Ja (by omega)] at h1
structure Has (N:Nat) (S st:St) (H:List bJ):Prop where
 ex:Ex N S st
 hN:N≤S.bs.length
 eT:S.ro≤N
 ok:∀(i:Nat) e,H[i]?=some e→e.P st∧∀k,e.K k→N≤k∧k<st.bs.length
 dis:∀(i j:Nat) a b,i≠j→H[i]?=some a→H[j]?=some b→∀k,a.K k→b.K k→False
theorem Has.start {N:Nat} {S:St} (hN:N≤S.bs.length) (eT:S.ro≤N):Has N S S []:=
 ⟨Ex.refl _ _,hN,eT,fun i e h=>by simp at h,fun i j a b _ h=>by simp at h⟩
theorem Has.len {N:Nat} {S st:St} {H:List bJ} (h:Has N S st H):S.bs.length≤st.bs.length:=h.ex.len
variable{j:Nat}{e':bJ}
theorem Has.C_ {N:Nat} {S st:St} {H:List bJ} {e:bJ} (h:Has N S st H) (hj:H[j]?=some e) (zZ:∀k,k<st.bs.length→¬e.K k→ai.bs[k]?=st.bs[k]?) (hlen:st.bs.length≤ai.bs.length) (hf:ai.flr=st.flr) (hr:ai.ro=st.ro) (hP:e'.P ai) (hK:∀k,e'.K k→e.K k∨st.bs.length≤k) (XU:∀k,e'.K k→k<ai.bs.length):Has N S ai (H.set j e'):=by
 have jI:j<H.length:=by
  rcases ψ j H.length with h'|h'
  ·exact h'
  ·rw[θ h'] at hj;cases hj
 have hl:=h.ex.len;have hN:=h.hN;refine⟨⟨fun k hk=>?_,Ju hl hlen,hf.trans h.ex.flr,hr.trans h.ex.ro⟩,h.hN,h.eT,fun i e0 hi=>?_,fun i i' a b hii ha hb k tw jl=>?_⟩
 ·rw[zZ k (by omega) fun kM=>by have:=((h.ok j e hj).2 k kM).1;omega];exact h.ex.low k hk
 ·by_cases hij:i=j
  ·subst hij;rw[ι jI] at hi;cases hi;refine⟨hP,fun k hk=>⟨?_,XU k hk⟩⟩
   rcases hK k hk with h1|h1
   ·exact((h.ok i e hj).2 k h1).1
   ·omega
  ·rw[ε (fun e=>hij e.symm)] at hi;obtain⟨h1,h2⟩:=h.ok i e0 hi;refine⟨e0.loc (fun k hk=>zZ k (h2 k hk).2 fun kM=>h.dis i j e0 e hij hi hj k hk kM) h1,fun k hk=>⟨(h2 k hk).1,K2 (h2 k hk).2 hlen⟩⟩
 ·have key:∀i a,i≠j→(H.set j e')[i]?=some a→a.K k→e'.K k→False:=by
   intro i a hij ha tw hke;rw[ε (fun e=>hij e.symm)] at ha
   rcases hK k hke with h1|h1
   ·exact h.dis i j a e hij ha hj k tw h1
   ·have:=((h.ok i a ha).2 k tw).2;omega
  by_cases hij:i=j
  ·subst hij;have eF:=hb;rw[ι jI] at ha;cases ha;exact key i' b (fun e=>hii e.symm) hb jl tw
  ·by_cases U7:i'=j
   ·subst U7;rw[ι jI] at hb;cases hb;exact key i a hij ha tw jl
   ·rw[ε (fun e=>hij e.symm)] at ha;rw[ε (fun e=>U7 e.symm)] at hb;exact h.dis i i' a b hii ha hb k tw jl
theorem Has.add {N:Nat} {S st:St} {H:List bJ} (h:Has N S st H) (zZ:∀k,k<st.bs.length→ai.bs[k]?=st.bs[k]?) (hlen:st.bs.length≤ai.bs.length) (hf:ai.flr=st.flr) (hr:ai.ro=st.ro) (hP:e'.P ai) (hK:∀k,e'.K k→st.bs.length≤k∧k<ai.bs.length):Has N S ai (e'::H):=by
 have hl:=h.ex.len;have hN:=h.hN;refine⟨⟨fun k hk=>?_,Ju hl hlen,hf.trans h.ex.flr,hr.trans h.ex.ro⟩,h.hN,h.eT,fun i e0 hi=>?_,fun i i' a b hii ha hb k tw jl=>?_⟩
 ·rw[zZ k (by omega)];exact h.ex.low k hk
 ·cases i with
  |zero=>
   simp only[Jb,Je.injEq] at hi;subst hi;exact⟨hP,fun k hk=>⟨by have:=(hK k hk).1;omega,(hK k hk).2⟩⟩
  |succ i=>
   rw[ν] at hi;obtain⟨h1,h2⟩:=h.ok i e0 hi;exact⟨e0.loc (fun k hk=>zZ k (h2 k hk).2) h1,fun k hk=>⟨(h2 k hk).1,K2 (h2 k hk).2 hlen⟩⟩
 ·cases i with
  |zero=>
   simp only[Jb,Je.injEq] at ha;subst ha
   cases i' with
   |zero=>exact hii rfl
   |succ i'=>
    rw[ν] at hb;have:=((h.ok i' b hb).2 k jl).2;have:=(hK k tw).1;omega
  |succ i=>
   rw[ν] at ha
   cases i' with
   |zero=>
    simp only[Jb,Je.injEq] at hb;subst hb;have:=((h.ok i a ha).2 k tw).2;have:=(hK k jl).1;omega
   |succ i'=>
    rw[ν] at hb;exact h.dis i i' a b (fun e=>hii (by rw[e])) ha hb k tw jl
theorem Has.sub {N:Nat} {S st:St} {H H':List bJ} (h:Has N S st H) (f:Nat→Nat) (hf:∀i j,f i=f j→i=j) (hs:∀i e,H'[i]?=some e→H[f i]?=some e):Has N S st H':=
 ⟨h.ex,h.hN,h.eT,fun i e hi=>h.ok _ e (hs i e hi),fun i j a b hij ha hb=>h.dis (f i) (f j) a b (fun e=>hij (hf i j e)) (hs i a ha) (hs j b hb)⟩
theorem Has.erase {N:Nat} {S st:St} {H:List bJ} (h:Has N S st H) (j:Nat):Has N S st (H.eraseIdx j):=by
 refine h.sub (fun i=>if i<j then i else i+1) (fun a b e=>?_) fun i e hi=>?_
 ·show a=b;have e':(if a<j then a else a+1)=(if b<j then b else b+1):=e
  split at e'<;>split at e'<;>omega
 ·show H[if i<j then i else i+1]?=some e;rw[Jm] at hi
  split at hi<;>rename_i h'<;>simp[h',hi]
theorem Has.take {N:Nat} {S st:St} {H:List bJ} (h:Has N S st H) (n:Nat):Has N S st (H.take n):=by
 refine h.sub id (fun a b e=>e) fun i e hi=>?_;rw[K1] at hi;split at hi;exact hi;cases hi
theorem Has.drop {N:Nat} {S st:St} {H:List bJ} (h:Has N S st H) (n:Nat):Has N S st (H.drop n):=by
 refine h.sub (fun i=>n+i) (fun a b e=>by omega) fun i e hi=>?_;rw[KD] at hi;exact hi
theorem Has.front {N:Nat} {S st:St} {H:List bJ} (h:Has N S st H) {e:bJ} (hj:H[j]?=some e):Has N S st (e::H.eraseIdx j):=by
 refine h.sub (fun i=>if i=0 then j else if i-1<j then i-1 else i) (fun a b e=>?_) fun i e' hi=>?_
 ·have e':(if a=0 then j else if a-1<j then a-1 else a)=(if b=0 then j else if b-1<j then b-1 else b):=e
  repeat' split at e'
  all_goals omega
 ·show H[if i=0 then j else if i-1<j then i-1 else i]?=some e'
  cases i with
  |zero=>rw[if_pos rfl];simp only[Jb,Je.injEq] at hi;subst hi;exact hj
  |succ i=>
   rw[if_neg (by omega),Nat.add_sub_cancel];rw[ν,Jm] at hi
   split at hi<;>rename_i h'<;>simp[h',hi]
theorem Has.back {N:Nat} {S st:St} {H:List bJ} {e:bJ} (h:Has N S st (e::H.eraseIdx j)) (hj:j<H.length):Has N S st (H.set j e):=by
 refine h.sub (fun i=>if i=j then 0 else if i<j then i+1 else i) (fun a b e=>?_) fun i e' hi=>?_
 ·have e':(if a=j then 0 else if a<j then a+1 else a)=(if b=j then 0 else if b<j then b+1 else b):=e
  repeat' split at e'
  all_goals omega
 ·show(e::H.eraseIdx j)[if i=j then 0 else if i<j then i+1 else i]?=some e'
  by_cases hij:i=j
  ·subst hij;rw[ι hj] at hi;rw[if_pos rfl];simpa using hi
  ·rw[ε (fun e=>hij e.symm)] at hi;rw[if_neg hij]
   by_cases hlt:i<j
   ·rw[if_pos hlt,ν,Jm,if_pos hlt];exact hi
   ·rw[if_neg hlt]
    obtain⟨i',rfl⟩:∃i',i=i'+1:=⟨i-1,by omega⟩
    rw[ν,Jm,if_neg (by omega)];exact hi
theorem Has.ew {N:Nat} {S st:St} {H:List bJ} (h:Has N S st H) (s:Nat):Has N S st (.aO .nul s []::H):=
 h.add (fun _ _=>rfl) (τ _) rfl rfl .nul fun k hk=>by simp only[bJ.aO,ω] at hk;omega
theorem Has.own {N:Nat} {S st:St} {H:List bJ} (h:Has N S st H) (hj:H[j]?=some (.aO x s es)):iB st s x es:=(h.ok j _ hj).1
theorem Has.rows {N:Nat} {S st:St} {H:List bJ} (h:Has N S st H) (hj:H[j]?=some (.aO x s es)):Rows st s x es:=(h.own hj).rows
variable{k:Nat}
theorem Has.at {N:Nat} {S st:St} {H:List bJ} (h:Has N S st H) {b:iI} (hj:H[j]?=some (.box k b)):st.bs[k]?=some b:=(h.ok j _ hj).1
theorem Has.ge {N:Nat} {S st:St} {H:List bJ} (h:Has N S st H) {b:iI} (hj:H[j]?=some (.box k b)):N≤k∧k<st.bs.length:=(h.ok j _ hj).2 k rfl
def Arg (N:Nat) (S:St) (s:Nat) (x:D) (es:List (List D)):Prop:=Rows S s x es∧x.ref≤N
theorem Arg.rows {N:Nat} {S st:St} {H:List bJ} (hx:Arg N S s x es) (h:Has N S st H):Rows st s x es:=hx.1.ex h.ex hx.2
theorem Arg.of {st S:St} (hx:Rows st s x es) (hS:S.bs=st.bs):Arg st.bs.length S s x es:=⟨hx.bs hS,hx.ref⟩
theorem Arg.pure {N:Nat} {S:St} {es:List D} {rs:List (List D)} (hx:∀st,Rows st s (.sl es) rs):Arg N S s (.sl es) rs:=⟨hx S,by simp[ω]⟩
theorem ig {N:Nat} {S st:St} {H:List bJ} (h:Has N S st H) {cs:List D} (hk:N≤k) (hw:S.flr≤N∨refs cs=0):st.jn k (refs cs)=true:=by
 have h1:=h.ex.ro;have h2:=h.ex.flr;have h3:=h.eT;simp only[Kc,Ξ,KW,decide_eq_true_eq];refine⟨by omega,?_⟩
 rcases hw with hw|hw
 ·exact .inl (by omega)
 ·exact .inr (.inl (by omega))
theorem Has.ry {N:Nat} {S st:St} {H:List bJ} (h:Has N S st H) {aG:Nat} {b b':iI} (hj:H[j]?=some (.box k b)):Has N S ⟨st.bs.set k b',st.flr,st.ro⟩ (H.set j (.box k b')):=by
 have hk:=(h.ge hj).2;refine h.C_ hj (fun i hi hne=>?_) (by simp) rfl rfl ?_ (fun i hi=>.inl hi) fun i hi=>?_
 ·simp only;rw[ε (fun e=>hne e.symm)]
 ·show(st.bs.set k b')[k]?=_;rw[ι hk]
 ·cases hi;simpa using hk
theorem Has.nD {N:Nat} {S st:St} {H:List bJ} (h:Has N S st H) (b:iI):Has N S (st.push b) (.box st.bs.length b::H):=by
 refine h.add (fun i hi=>?_) (by simp[Ω]) rfl rfl ?_ fun i hi=>?_
 ·simp only[Ω];rw[ρ hi]
 ·exact kC st b
 ·cases hi;simp[Ω]
variable{m:Nat}
theorem Has.vw {N:Nat} {S st:St} {H:List bJ} (h:Has N S st H) {cs:List D} (hm:es.length=m) (hc:es.flatten=cs) (he:∀e∈es,e.length=s):Has N S (st.push (.mem 0 true cs)) (.aO (.win st.bs.length 0 0 m s) s es::H):=by
 subst hm hc;refine h.add (fun i hi=>?_) (by simp[Ω]) rfl rfl ?_ fun i hi=>?_
 ·simp only[Ω];rw[ρ hi]
 ·have nT:=dg he;exact iB.win _ 0 0 es es.flatten (kC st _) (by rw[nT];omega) (by rw[Jf,←nT,Jg]) he
 ·simp only[bJ.aO,ω] at hi;simp only[Ω,χ,ξ,Jd];omega
theorem lv:∀(xs c:List D) (off:Nat),(setMany c off xs).length=c.length
 |[],c,off=>rfl
 |x::xs,c,off=>by simp only[setMany];rw[lv xs];simp
theorem pT {s:Nat}:∀{es:List (List D)} {i:Nat} {e e':List D},(∀e∈es,e.length=s)→es[i]?=some e→e'.length=s→(es.set i e').flatten=es.flatten.take (i*s)++e'++es.flatten.drop (i*s+s)
 |[],i,e,e',_,hi,_=>by simp at hi
 |x::es,0,e,e',h,hi,he=>by
  simp at hi;subst hi;have:=h x (κ ..);simp[η,KK this]
 |x::es,i+1,e,e',h,hi,he=>by
  have hx:=h x (κ ..);have ih:=pT (s:=s) (es:=es) (i:=i) (e:=e) (e':=e') (fun y hy=>h y (μ _ hy)) (by simpa using hi) he;rw[ζ,Δ,ih,Δ,ς,Jc,K7 (i*s) s,←hx,List.take_length_add_append,KE,KU];simp only[Jl];rw[K7 (i*x.length) x.length]
variable{aG i o:Nat}
theorem Has.A2 {N:Nat} {S st:St} {H:List bJ} (h:Has N S st H) {off len:Nat} {e cs:List D} (hj:H[j]?=some (.aO (.win k aG off len s) s es)) (hi:es[i]?=some e) (hl:o+cs.length≤s) (hw:S.flr≤N∨refs cs=0):
  ∃ai,st.wr k aG (off+i*s+o) cs=some ai∧Has N S ai (H.set j (.aO (.win k aG off len s) s (es.set i (setMany e o cs)))):=by
 have hk:=(h.ok j _ hj).2 k (by simp only[bJ.aO,ω]);have hown:=h.own hj
 cases hown with
 |win k aG off es c hm hle hc he=>
  have hil:i<es.length:=by
   rcases ψ i es.length with h'|h'
   ·exact h'
   ·rw[θ h'] at hi;cases hi
  have tz:=he e (JI hi);have h2:(i+1)*s≤es.length*s:=π s hil;rw[ς,Jc] at h2;refine⟨_,mK hm (by omega) (ig h hk.1 hw),?_⟩;refine h.C_ hj (fun n hn hne=>?_) (by simp) rfl rfl ?_ (fun n hn=>.inl hn) fun n hn=>?_
  ·simp only;rw[ε (fun e=>hne (by simp only[bJ.aO,ω];omega))]
  ·have EW:∀e'∈es.set i (setMany e o cs),e'.length=s:=by
    intro e' qZ
    rcases List.mem_or_eq_of_mem_set qZ with h'|h'
    ·exact he e' h'
    ·rw[h',lv];exact tz
   have nT:es.flatten.length=es.length*s:=dg he;have:=iB.win (st:=⟨st.bs.set k (.mem aG true (c.take (off+i*s+o)++cs++c.drop (off+i*s+o+cs.length))),st.flr,st.ro⟩) (s:=s) k aG off (es.set i (setMany e o cs)) (c.take (off+i*s+o)++cs++c.drop (off+i*s+o+cs.length))
    (by simp only;rw[ι hk.2]) (by simp;omega) ?_ EW
   ·rw[Θ] at this;exact this
   ·rw[Θ,pT he hi (by rw[lv];exact tz),gU cs e o (by omega)]
    have e1:(c.take (off+i*s+o)++cs++c.drop (off+i*s+o+cs.length)).drop off=(c.drop off).take (i*s+o)++cs++(c.drop off).drop (i*s+o+cs.length):=by
     rw[Jl,List.drop_append_of_le_length (by simp;omega),Φ,Jl,φ]
     congr 3<;>omega
    rw[e1]
    have e2:(c.drop off).take (i*s+o)=es.flatten.take (i*s)++e.take o:=by
     have:(c.drop off).take (i*s+o)=es.flatten.take (i*s+o):=by
      rw[←hc,Jn,Ja (by omega)]
     rw[this,KR]
     congr 1
     have:=mi he i e hi;rw[←this,Jn,Ja (by omega)]
    have e3:(Ka (i*s+o+cs.length) (c.drop off)).take (es.length*s-(i*s+o+cs.length))=e.drop (o+cs.length)++es.flatten.drop (i*s+s):=by
     have:(Ka (i*s+o+cs.length) (c.drop off)).take (es.length*s-(i*s+o+cs.length))=es.flatten.drop (i*s+o+cs.length):=by
      rw[←hc,Φ]
     rw[this];have h4:=mi he i e hi;rw[←h4,Φ];have:es.flatten.drop (i*s+o+cs.length)=(es.flatten.drop (i*s+o+cs.length)).take (s-(o+cs.length))++(es.flatten.drop (i*s+o+cs.length)).drop (s-(o+cs.length)):=(K8 ..).symm;rw[this,φ,φ]
     congr 2
     ·congr 1;omega
     ·omega
    rw[e2]
    have NK:(es.flatten.take (i*s)++e.take o++cs).length=i*s+o+cs.length:=by
     simp only[χ,Jp,nT,tz];omega
    rw[List.take_append,NK,e3,K4 (by rw[NK];omega)];simp[Jl]
  ·simp only[bJ.aO,ω] at hn;simp only[Θ];omega
theorem av {α:Type} {a:α} {l:List α}:(a::l)[0]?=some a:=rfl
theorem bh {α:Type} {a b:α} {l:List α}:(a::b::l)[1]?=some b:=rfl
theorem dF {α:Type} {a b c:α} {l:List α}:(a::b::c::l)[2]?=some c:=rfl
theorem fm {α:Type} {a b c d:α} {l:List α}:(a::b::c::d::l)[3]?=some d:=rfl
theorem gH {α:Type} {a b c d e:α} {l:List α}:(a::b::c::d::e::l)[4]?=some e:=rfl
theorem qG {α:Type} {a b c d e f:α} {l:List α}:(a::b::c::d::e::f::l)[5]?=some f:=rfl
theorem Tn {α:Type} {a b c d e f g:α} {l:List α}:(a::b::c::d::e::f::g::l)[6]?=some g:=rfl
theorem W8 {α:Type} {a b c d e f g h:α} {l:List α}:(a::b::c::d::e::f::g::h::l)[7]?=some h:=rfl
def Bg (t:Nat):List (Nat×D)→Option D
 |[]=>none
 |(u,d)::l=>match KP t u with
  |true=>some d
  |false=>Bg t l
def Ee:Value→Option D
 | .int k n=>some (.int k n)
 | .bool b=>some (.bool b)
 | .string s=>some (.str s.data.toList)
 | .slice none 0 0=>some .nul
 | .pointer none=>some .pnil
 | .nilFunc=>some .nilfn
 | .nilIface=>some .nilif
 |_=>none
def Fr.evO (f:Fr):Operand→Option D
 | .tmp t=>match υ f.n t with
  |false=>f.loc[t]?
  |true=>Bg t f.tmp
 | .const v=>Ee v
 | .func g=>some (.fn g [])
 | .global _=>none
theorem rX {t:Nat} {d:D}:∀{l:List (Nat×D)},Bg t l=some d→look t l=d
 |(u,e)::l,h=>by
  unfold Bg at h;unfold look
  split at h
  ·rename_i hb;cases h;simp only[hb]
  ·rename_i hb;simp only[hb];exact rX h
theorem Ba {d e:D}:∀{l:List D} {i:Nat},l[i]?=some d→nth e l i=d
 |x::l,0,h=>by simpa[nth] using h
 |x::l,i+1,h=>by rw[ν] at h;exact Ba (l:=l) h
 |[],i,h=>by simp at h
variable{d:D}
theorem ev {fr:Fr} {o:Operand} (h:fr.evO o=some d):fr.ev o=d:=by
 unfold Fr.evO at h;unfold Ji
 split at h
 ·unfold Fr.get
  split at h
  ·rename_i hb;simp only[hb];exact Ba h
  ·rename_i hb;simp only[hb];exact rX h
 ·unfold Ee at h
  split at h<;>cases h<;>rfl
 ·cases h;rfl
 ·cases h
def jN (st:St) (p:D) (r:List D):Prop:=
 (∃k aG off ar c,p=.ptr k aG off∧st.fk k aG=some (ar,c)∧(c.drop off).take r.length=r)∨∃c,p=.ep c∧c.take r.length=r
def qI (x:D) (s:Nat) (i o:Nat) (p:D):Prop:=∃k aG off len,x=.win k aG off len s∧p=.ptr k aG (off+i*s+o)
variable{r:List D}
theorem l5 {P:Pv} {t:TypeId} {c:List D} (hc:c.take r.length=r) (h:dW P t r=some d):dW P t c=some d:=by
 have hlen:r.length≤c.length:=by have:=congrArg List.length hc;simp at this;omega
 unfold dW at h⊢
 cases hu:P.cJ t with
 |none=>rw[hu] at h;cases h
 |some u=>
  rw[hu] at h;have key:∀n,n≤r.length→c.take n=r.take n:=fun n hn=>by rw[←hc,Jn,Ja hn]
  cases u with
  |struct f=>
   simp only at h⊢
   cases hs:cB P t with
   |none=>rw[hs] at h;cases h
   |some n=>
    rw[hs] at h;simp only[γ] at h⊢
    split at h
    ·rename_i hn;rw[if_pos (by omega),key n hn];exact h
    ·cases h
  |array m f=>
   simp only at h⊢
   cases hs:cB P t with
   |none=>rw[hs] at h;cases h
   |some n=>
    rw[hs] at h;simp only[γ] at h⊢
    split at h
    ·rename_i hn;rw[if_pos (by omega),key n hn];exact h
    ·cases h
  |_=>
   simp only at h⊢
   cases r with
   |nil=>cases h
   |cons y r=>
    cases c with
    |nil=>simp at hlen
    |cons z c=>
     simp only[ξ,List.take_succ_cons,List.cons.injEq] at hc;rw[←h];simp[hc.1]
variable{p:D}
theorem jN.load {P:Pv} {st:St} (h:jN st p r) {t:TypeId} (hd:dW P t r=some d):gO P t p st=some d:=by
 rcases h with⟨k,aG,off,ar,c,rfl,hm,hc⟩|⟨c,rfl,hc⟩
 ·simp only[gO,hm,γ];exact l5 hc hd
 ·simp only[gO];exact l5 hc hd
variable{fields:Array Field}{fd:Field}
theorem jN.field {P:Pv} {st:St} (h:jN st p r) {t:TypeId} {f:Nat} (ht:P.cJ t=some (.struct fields)) (hf:fields[f]?=some fd) (hm:cB P fd.type=some m) (kW:m≠0):
  ∃p',e_ P t p f=some p'∧jN st p' (r.drop fd.offset):=by
 have key:∀c:List D,c.take r.length=r→(c.drop fd.offset).take (r.drop fd.offset).length=r.drop fd.offset:=by
  intro c hc;rw[Ky,←Φ,hc]
 rcases h with⟨k,aG,off,ar,c,rfl,yX,hc⟩|⟨c,rfl,hc⟩
 ·refine⟨.ptr k aG (off+fd.offset),?_,.inl ⟨k,aG,off+fd.offset,ar,c,rfl,yX,?_⟩⟩
  ·simp only[e_,ht,hf,γ,hm];rw[if_neg (by simp only[Je.injEq];exact kW)]
  ·rw[←φ];exact key _ hc
 ·refine⟨.ep (c.drop fd.offset),?_,.inr ⟨_,rfl,key _ hc⟩⟩;simp only[e_,ht,hf,γ,hm];rw[if_neg (by simp only[Je.injEq];exact kW)]
theorem Rows.Xo {P:Pv} {st:St} (h:Rows st s x es) {t e:TypeId} (ht:P.cJ t=some (.slice e)) (hs:cB P e=some s) {k:IntKind} (hi:es[i]?=some r):
  ∃p,cm P t x (.int k (i:Nat)) st=some p∧jN st p r:=by
 have ni:=h.tM _ _ hi
 cases h with
 |nul=>simp at hi
 |sl es h=>
  rw[Kv] at hi;obtain⟨d,hd,rfl⟩:=Jh.1 hi;obtain⟨h1,h2⟩:=h d (JI hd);refine⟨.ep d.cells,?_,.inr ⟨_,rfl,Jg ..⟩⟩;simp only[cm,ht,hs,γ,if_pos (show(0:Int)≤(i:Nat) by omega),Int.toNat_natCast,hd,h1,if_pos h2]
 |win k aG off es ar c hm hl he=>
  have hlt:i<es.length:=by
   rcases ψ i es.length with h'|h'
   ·exact h'
   ·rw[θ h'] at hi;cases hi
  refine⟨.ptr k aG (off+i*s),?_,.inl ⟨k,aG,_,ar,c,rfl,hm,by rw[ni];exact he _ _ hi⟩⟩;simp only[cm,ht,hs,γ,hm,Kq];rw[if_pos ⟨trivial,by omega,by omega,trivial⟩];rfl
variable{P:Pv} {ops:Array Oper} {rest:List Oper} {fr aM:Fr} {st:St} {Q:Fr→St→Prop} {ty:TypeId} {pp:String} {a:Array Edge} {g:Option (Nat×Bool)} {dst:Nat} {N:Nat} {S:St} {H:List bJ}
variable{st1:St}
theorem aa.go {op:Op} (hg:aH ops fr ⟨some dst,op,ty,pp,a,g⟩=some true) (hc:i7 op=false) (h1:ef P fr st op ty=some (d,st1)) (hp:fr.put dst d=aM) (h:aa P ops rest aM st1 Q):aa P ops (⟨some dst,op,ty,pp,a,g⟩::rest) fr st Q:=
 aa.op hg hc h1 (by show aa P ops rest (fr.put dst d) st1 Q;rw[hp];exact h)
variable{ar:Bool}{ao:Operand}
theorem aa.uG {off:Nat} {c:List D} {t:TypeId} (hH:Has N S st H) (hg:aH ops fr ⟨some dst,.load t ao,ty,pp,a,g⟩=some true) (ha:fr.ev ao=.ptr k aG off) (hj:H[j]?=some (.box k (.mem aG ar c))) (hd:dW P t (c.drop off)=some d) (hp:fr.put dst d=aM) (h:aa P ops rest aM st Q):aa P ops (⟨some dst,.load t ao,ty,pp,a,g⟩::rest) fr st Q:=by
 refine aa.go hg rfl (d:=d) (st1:=st) ?_ hp h;simp only[ef,ha,gO,St.mem_of (hH.at hj),γ,hd,δ]
variable{v:D}{vo:Operand}
theorem aa.mU {off:Nat} {c cs:List D} {t:TypeId} (hH:Has N S st H) (hg:aH ops fr ⟨none,.store t ao vo,ty,pp,a,g⟩=some true) (ha:fr.ev ao=.ptr k aG off) (hv:fr.ev vo=v) (iy:v.cells?=some cs) (hs:cB P t=some cs.length) (hj:H[j]?=some (.box k (.mem aG ar c))) (hl:off+cs.length≤c.length) (hw:S.flr≤N∨refs cs=0) (h:∀ai,Has N S ai (H.set j (.box k (.mem aG ar (setMany c off cs))))→aa P ops rest fr ai Q):aa P ops (⟨none,.store t ao vo,ty,pp,a,g⟩::rest) fr st Q:=by
 refine aa.N hg rfl (d:=.tup []) (st1:=⟨st.bs.set k (.mem aG ar (setMany c off cs)),st.flr,st.ro⟩) ?_ (h _ (hH.ry (aG:=aG) hj));simp only[ef,ha,hv,lu,iy,hs,if_pos trivial];rw[mK (hH.at hj) hl (ig hH (hH.ge hj).1 hw),gU _ _ _ hl];rfl
theorem aa.Sq {e:TypeId} {cs:List D} {aM:Nat→Fr} (hH:Has N S st H) (hg:aH ops fr ⟨some dst,.alloc e,ty,pp,a,g⟩=some true) (hz:dG P e=some cs) (hp:∀k,fr.put dst (.ptr k 0 0)=aM k)
  (h:∀k ai,S.bs.length≤k→Has N S ai (.box k (.mem 0 false cs)::H)→aa P ops rest (aM k) ai Q):aa P ops (⟨some dst,.alloc e,ty,pp,a,g⟩::rest) fr st Q:=by
 refine aa.go hg rfl (d:=.ptr st.bs.length 0 0) (st1:=st.push (.mem 0 false cs)) ?_ (hp _) (h _ _ hH.len (hH.nD _));simp only[ef,hz,δ]
theorem aa.CH {e:TypeId} {xo:Operand} {cs:List D} {aM:Nat→Fr} (hH:Has N S st H) (hg:aH ops fr ⟨some dst,.box e xo,ty,pp,a,g⟩=some true) (hz:(fr.ev xo).cells?=some cs) (hp:∀k,fr.put dst (.ptr k 0 0)=aM k)
  (h:∀k ai,S.bs.length≤k→Has N S ai (.box k (.mem 0 false cs)::H)→aa P ops rest (aM k) ai Q):aa P ops (⟨some dst,.box e xo,ty,pp,a,g⟩::rest) fr st Q:=by
 refine aa.go hg rfl (d:=.ptr st.bs.length 0 0) (st1:=st.push (.mem 0 false cs)) ?_ (hp _) (h _ _ hH.len (hH.nD _));simp only[ef,hz,δ]
variable{z:List D}
theorem aa.sB {t e:TypeId} {lo co:Operand} {k1 k2:IntKind} {inf:TypeInfo} {aM:Nat→Fr} (hH:Has N S st H) (hg:aH ops fr ⟨some dst,.makeSlice t lo co,ty,pp,a,g⟩=some true) (hl:fr.ev lo=.int k1 (m:Nat)) (hc:fr.ev co=.int k2 (m:Nat)) (ht:P.cJ t=some (.slice e)) (hi:P.info e=some inf) (hz:dG P e=some z) (hsz:inf.size=s) (lg:z.length=s) (hmb:inf.bytes≤1024) (kW:m≤1073741824) (hp:∀k,fr.put dst (.win k 0 0 m s)=aM k) (h:∀k ai,S.bs.length≤k→Has N S ai (.aO (.win k 0 0 m s) s (KJ m z)::H)→aa P ops rest (aM k) ai Q):aa P ops (⟨some dst,.makeSlice t lo co,ty,pp,a,g⟩::rest) fr st Q:=by
 have hm:m*inf.bytes≤140737488355328:=Ju (KS kW hmb) (by decide);subst hsz;refine aa.go hg rfl (d:=.win st.bs.length 0 0 m inf.size) (st1:=st.push (.mem 0 true (fg m z))) ?_ (hp _) (h _ _ hH.len (hH.vw (by simp) rfl (fun e he=>by rw[List.eq_of_mem_replicate he];exact lg)));simp only[ef,hl,hc,gZ,ht,hi,hz,γ];rw[if_pos ⟨lg,by omega,by omega,by omega,by rw[←Int.natCast_mul];omega⟩]
 rfl
variable{y:D}{ys:List (List D)}
theorem Has.append (hH:Has N S st H) (hj:H[j]?=some (.aO x s es)) (hy:Rows st s y ys) {t1 t2 e:TypeId} {td:TypeDesc} {inf:TypeInfo} (h1:P.cJ t1=some (.slice e)) (h2:P.cJ t2=some td) (h3:hO td=false) (h4:P.info e=some inf) (h5:dG P e=some z) (h6:inf.size=s) (h7:z.length=s) (h8:0<inf.bytes∧inf.bytes≤1024) (qz:es.length+ys.length≤1073741824) (hw:S.flr≤N∨refs ys.flatten=0):
  ∃x' ai,bR P .append [t1,t2] [x,y] st=some (x',ai)∧Has N S ai (H.set j (.aO x' s (es++ys)))∧(ys=[]→x'=x):=by
 have hb:(es.length+ys.length)*inf.bytes≤1099511627776:=Ju (KS qz h8.2) (by decide);have kY:=hy.row
 have EF:∀e∈ys,e.length=s:=fun e he=>by
  obtain⟨i,hi⟩:=Jr he;exact hy.tM i e hi
 have nT:=dg EF;have hown:=hH.own hj;have hkk:=(hH.ok j _ hj).2;have hS:=hH.len;have hNS:=hH.hN;subst h6;simp only[bR,iO,h1,h2,h3,Kz,if_false,h4,h5,kY,γ];rw[if_neg (by rintro(h|h|h);exact h nT;exact absurd h (by omega);exact h h7)]
 have fO:∀e,H[j]?=some e→H.set j e=H:=fun e he=>by
  apply Kj;intro i
  by_cases hij:i=j
  ·subst hij
   have:i<H.length:=by
    rcases ψ i H.length with h'|h'
    ·exact h'
    ·rw[θ h'] at he;cases he
   rw[ι this,he]
  ·rw[ε (fun e=>hij e.symm)]
 cases hown with
 |nul=>
  simp only[K6]
  by_cases h0:ys.length=0
  ·rw[if_pos h0]
   have:ys=[]:=by cases ys with|nil=>rfl|cons _ _=>simp at h0
   subst this;exact⟨.nul,st,rfl,by rw[fO _ hj];exact hH,fun _=>rfl⟩
  ·rw[if_neg h0,if_pos (by simpa using hb)];refine⟨_,_,rfl,?_,fun e=>absurd (by rw[e];rfl) h0⟩;refine hH.C_ hj (fun k hk _=>by simp only[Ω];rw[ρ hk]) (by simp[Ω]) rfl rfl ?_ (fun k hk=>?_) fun k hk=>?_
   ·exact iB.win _ 0 0 ys ys.flatten (kC st _) (by rw[nT];omega) (by rw[Jf,←nT,Jg]) EF
   ·simp only[bJ.aO,ω] at hk;right;omega
   ·simp only[bJ.aO,ω] at hk;simp only[Ω,χ,ξ,Jd];omega
 |win k aG off es c hm hl hc he=>
  have hk:=hkk k (by simp only[bJ.aO,ω]);simp only[St.mem_of hm];rw[if_neg (by rintro(h|h);exact h rfl;omega)]
  by_cases h0:ys.length=0
  ·rw[if_pos h0]
   have:ys=[]:=by cases ys with|nil=>rfl|cons _ _=>simp at h0
   subst this;simp only[KY];exact⟨_,st,rfl,by rw[fO _ hj];exact hH,fun _=>rfl⟩
  ·rw[if_neg h0,if_pos ⟨hb,ig hH hk.1 hw⟩];refine⟨_,_,rfl,?_,fun e=>absurd (by rw[e];rfl) h0⟩;have wG:es.length+ys.length=(es++ys).length:=by simp
   have jm:(c.take (off+es.length*inf.size)).drop off=es.flatten:=by rw[Φ,←hc];congr 1;omega
   rw[wG,jm];refine hH.C_ hj (fun n hn hne=>by simp only;rw[ε (fun e=>hne (by simp only[bJ.aO,ω];omega))]) (by simp) rfl rfl ?_ (fun n hn=>?_) fun n hn=>?_
   ·have tz:∀e∈es++ys,e.length=inf.size:=fun e h=>by
     rcases KL.1 h with h|h
     ·exact he e h
     ·exact EF e h
    have U8:=dg tz;refine iB.win k (aG+1) 0 (es++ys) (es++ys).flatten ?_ (by rw[U8];omega) (by rw[Jf,←U8,Jg]) tz;simp only;rw[ι hk.2,Js]
   ·simp only[bJ.aO,ω] at hn⊢;left;omega
   ·simp only[bJ.aO,ω] at hn;simp only[Θ];omega
variable{yo:Operand}
theorem aa.bL {t1 t2 e:TypeId} {td:TypeDesc} {inf:TypeInfo} {xo:Operand} {aM:D→Fr} (hH:Has N S st H) (hg:aH ops fr ⟨some dst,.call ⟨.builtin .append,#[xo,yo],#[t1,t2]⟩,ty,pp,a,g⟩=some true) (hx:fr.ev xo=x) (hy:fr.ev yo=y) (hj:H[j]?=some (.aO x s es)) (kU:Rows st s y ys) (h1:P.cJ t1=some (.slice e)) (h2:P.cJ t2=some td) (h3:hO td=false) (h4:P.info e=some inf) (h5:dG P e=some z) (h6:inf.size=s) (h7:z.length=s) (h8:0<inf.bytes∧inf.bytes≤1024) (hp:∀x',fr.put dst x'=aM x') (hb:es.length+ys.length≤1073741824) (hw:S.flr≤N∨refs ys.flatten=0) (h:∀x' ai,Has N S ai (H.set j (.aO x' s (es++ys)))→aa P ops rest (aM x') ai Q):
  aa P ops (⟨some dst,.call ⟨.builtin .append,#[xo,yo],#[t1,t2]⟩,ty,pp,a,g⟩::rest) fr st Q:=by
 obtain⟨x',ai,q1,q2,q3⟩:=hH.append hj kU h1 h2 h3 h4 h5 h6 h7 h8 hb hw;refine aa.go hg rfl (d:=x') (st1:=ai) ?_ (hp _) (h x' ai q2);simp only[ef,ο,JE,hx,hy];exact q1
theorem aa.Fa {t1 t2 e:TypeId} {td:TypeDesc} {inf:TypeInfo} {xo:Operand} {aM:D→Fr} (hH:Has N S st H) (hg:aH ops fr ⟨some dst,.call ⟨.builtin .append,#[xo,yo],#[t1,t2]⟩,ty,pp,a,g⟩=some true) (hx:fr.ev xo=x) (hy:fr.ev yo=y) (hj:H[j]?=some (.aO x s es)) (kU:Rows st s y ys) (h1:P.cJ t1=some (.slice e)) (h2:P.cJ t2=some td) (h3:hO td=false) (h4:P.info e=some inf) (h5:dG P e=some z) (h6:inf.size=s) (h7:z.length=s) (h8:0<inf.bytes∧inf.bytes≤1024) (hp:∀x',fr.put dst x'=aM x') (hb:es.length+ys.length≤1073741824) (hw:S.flr≤N∨refs ys.flatten=0) (h:∀x' ai,(ys=[]→x'=x)→Has N S ai (H.set j (.aO x' s (es++ys)))→aa P ops rest (aM x') ai Q):
  aa P ops (⟨some dst,.call ⟨.builtin .append,#[xo,yo],#[t1,t2]⟩,ty,pp,a,g⟩::rest) fr st Q:=by
 obtain⟨x',ai,q1,q2,q3⟩:=hH.append hj kU h1 h2 h3 h4 h5 h6 h7 h8 hb hw;refine aa.go hg rfl (d:=x') (st1:=ai) ?_ (hp _) (h x' ai q3 q2);simp only[ef,ο,JE,hx,hy];exact q1
theorem aa.Q0 {t e:TypeId} {xo:Operand} (hg:aH ops fr ⟨some dst,.call ⟨.builtin .len,#[xo],#[t]⟩,ty,pp,a,g⟩=some true) (hx:fr.ev xo=x) (hR:Rows st s x es) (ht:P.cJ t=some (.slice e)) (hp:fr.put dst (.int .i64 (es.length:Nat))=aM) (h:aa P ops rest aM st Q):aa P ops (⟨some dst,.call ⟨.builtin .len,#[xo],#[t]⟩,ty,pp,a,g⟩::rest) fr st Q:=by
 refine aa.go hg rfl (d:=.int .i64 (es.length:Nat)) (st1:=st) ?_ hp h;simp only[ef,ο,JE,hx];exact hR.Ns ht
theorem aa.y8 {t:TypeId} {xo:Operand} {b:List UInt8} (hg:aH ops fr ⟨some dst,.call ⟨.builtin .len,#[xo],#[t]⟩,ty,pp,a,g⟩=some true) (hx:fr.ev xo=.str b) (ht:P.cJ t=some .string) (hp:fr.put dst (.int .i64 (b.length:Nat))=aM)
  (h:aa P ops rest aM st Q):aa P ops (⟨some dst,.call ⟨.builtin .len,#[xo],#[t]⟩,ty,pp,a,g⟩::rest) fr st Q:=by
 refine aa.go hg rfl (d:=.int .i64 (b.length:Nat)) (st1:=st) ?_ hp h;simp only[ef,ο,JE,hx,bR,ht]
variable{io:Operand}{kk:IntKind}
theorem aa.TW {t e:TypeId} {xo:Operand} {aM:D→Fr} (hg:aH ops fr ⟨some dst,.indexAddr t xo io,ty,pp,a,g⟩=some true) (hx:fr.ev xo=x) (hi:fr.ev io=.int kk (i:Nat)) (hR:Rows st s x es) (ht:P.cJ t=some (.slice e)) (hs:cB P e=some s) (hr:es[i]?=some r) (hp:∀p,fr.put dst p=aM p) (h:∀p,jN st p r→aa P ops rest (aM p) st Q):aa P ops (⟨some dst,.indexAddr t xo io,ty,pp,a,g⟩::rest) fr st Q:=by
 obtain⟨p,h1,h2⟩:=hR.Xo ht hs (k:=kk) hr;refine aa.go hg rfl (d:=p) (st1:=st) ?_ (hp p) (h p h2);simp only[ef,hx,hi,h1,δ]
theorem aa.Q4 {t:TypeId} {xo:Operand} {f:Nat} {aM:D→Fr} (hg:aH ops fr ⟨some dst,.fieldAddr t xo f,ty,pp,a,g⟩=some true) (hx:fr.ev xo=x) (hR:jN st x r) (ht:P.cJ t=some (.struct fields)) (hf:fields[f]?=some fd) (hm:cB P fd.type=some m) (kW:m≠0) (hp:∀p,fr.put dst p=aM p) (h:∀p,jN st p (r.drop fd.offset)→aa P ops rest (aM p) st Q):aa P ops (⟨some dst,.fieldAddr t xo f,ty,pp,a,g⟩::rest) fr st Q:=by
 obtain⟨p,h1,h2⟩:=hR.field ht hf hm kW;refine aa.go hg rfl (d:=p) (st1:=st) ?_ (hp p) (h p h2);simp only[ef,hx,h1,δ]
theorem aa.DQ {t:TypeId} (hg:aH ops fr ⟨some dst,.load t ao,ty,pp,a,g⟩=some true) (ha:fr.ev ao=x) (hR:jN st x r) (hd:dW P t r=some d) (hp:fr.put dst d=aM) (h:aa P ops rest aM st Q):aa P ops (⟨some dst,.load t ao,ty,pp,a,g⟩::rest) fr st Q:=by
 refine aa.go hg rfl (d:=d) (st1:=st) ?_ hp h;simp only[ef,ha,hR.load hd,δ]
theorem aa.XC {t e:TypeId} {xo:Operand} {aM:D→Fr} (hH:Has N S st H) (hg:aH ops fr ⟨some dst,.indexAddr t xo io,ty,pp,a,g⟩=some true) (hx:fr.ev xo=x) (hi:fr.ev io=.int kk (i:Nat)) (hj:H[j]?=some (.aO x s es)) (ht:P.cJ t=some (.slice e)) (hs:cB P e=some s) (hr:i<es.length) (hp:∀p,fr.put dst p=aM p) (h:∀p,qI x s i 0 p→aa P ops rest (aM p) st Q):aa P ops (⟨some dst,.indexAddr t xo io,ty,pp,a,g⟩::rest) fr st Q:=by
 have hown:=hH.own hj
 cases hown with
 |nul=>simp at hr
 |win k aG off es c hm hl hc he=>
  refine aa.go hg rfl (d:=.ptr k aG (off+i*s)) (st1:=st) ?_ (hp _) (h _ ⟨k,aG,off,_,rfl,rfl⟩);simp only[ef,hx,hi,cm,ht,hs,γ,St.mem_of hm,Kq];rw[if_pos ⟨trivial,by omega,by omega,trivial⟩];rfl
theorem aa.Rf {t:TypeId} {xo:Operand} {f:Nat} {aM:D→Fr} (hg:aH ops fr ⟨some dst,.fieldAddr t xo f,ty,pp,a,g⟩=some true) (hx:fr.ev xo=y) (hR:qI x s i o y) (ht:P.cJ t=some (.struct fields)) (hf:fields[f]?=some fd) (hm:cB P fd.type=some m) (kW:m≠0) (hp:∀p,fr.put dst p=aM p) (h:∀p,qI x s i (o+fd.offset) p→aa P ops rest (aM p) st Q):aa P ops (⟨some dst,.fieldAddr t xo f,ty,pp,a,g⟩::rest) fr st Q:=by
 obtain⟨k,aG,off,len,h1,h2⟩:=hR;refine aa.go hg rfl (d:=.ptr k aG (off+i*s+(o+fd.offset))) (st1:=st) ?_ (hp _) (h _ ⟨k,aG,off,len,h1,rfl⟩);simp only[ef,hx,h2,e_,ht,hf,γ,hm];rw[if_neg (by simp only[Je.injEq];exact kW),←KE];rfl
theorem aa.Nt {t:TypeId} (hH:Has N S st H) (hg:aH ops fr ⟨some dst,.load t ao,ty,pp,a,g⟩=some true) (ha:fr.ev ao=y) (hR:qI x s i o y) (hj:H[j]?=some (.aO x s es)) (hr:es[i]?=some r) (hd:dW P t (r.drop o)=some d) (hp:fr.put dst d=aM) (h:aa P ops rest aM st Q):aa P ops (⟨some dst,.load t ao,ty,pp,a,g⟩::rest) fr st Q:=by
 obtain⟨k,aG,off,len,rfl,rfl⟩:=hR;have hown:=hH.own hj
 cases hown with
 |win k aG off es c hm hl hc he=>
  refine aa.go hg rfl (d:=d) (st1:=st) ?_ hp h;have h1:=mi he i r hr
  have hil:i<es.length:=by
   rcases ψ i es.length with h'|h'
   ·exact h'
   ·rw[θ h'] at hr;cases hr
  have h2:(i+1)*s≤es.length*s:=π s hil;rw[ς,Jc] at h2;rw[←hc,Φ,Jn,φ,Ja (by omega)] at h1;have ni:=he r (JI hr);simp only[ef,ha,gO,St.mem_of hm,γ];rw[l5 (r:=r.drop o) ?_ hd];rfl;rw[Ky,ni,←h1,Φ,φ]
theorem aa.gX {t:TypeId} {cs:List D} (hH:Has N S st H) (hg:aH ops fr ⟨none,.store t ao vo,ty,pp,a,g⟩=some true) (ha:fr.ev ao=y) (hv:fr.ev vo=v) (hR:qI x s i o y) (iy:v.cells?=some cs) (hs:cB P t=some cs.length) (hj:H[j]?=some (.aO x s es)) (hr:es[i]?=some r) (hl:o+cs.length≤s) (hw:S.flr≤N∨refs cs=0) (h:∀ai,Has N S ai (H.set j (.aO x s (es.set i (setMany r o cs))))→aa P ops rest fr ai Q):aa P ops (⟨none,.store t ao vo,ty,pp,a,g⟩::rest) fr st Q:=by
 obtain⟨k,aG,off,len,rfl,rfl⟩:=hR;obtain⟨ai,h1,h2⟩:=hH.A2 hj hr hl hw;refine aa.N hg rfl (d:=.tup []) (st1:=ai) ?_ (h _ h2);simp only[ef,ha,hv,lu,iy,hs,if_pos trivial,h1];rfl
theorem aa.zt {t e:TypeId} {xo:Operand} {lo hi:Option Operand} {l r:Nat} {aM:D→Fr} (hH:Has N S st H) (hg:aH ops fr ⟨some dst,.slice t xo lo hi none,ty,pp,a,g⟩=some true) (hx:fr.ev xo=x) (hj:H[j]?=some (.aO x s es)) (ht:P.cJ t=some (.slice e)) (hs:cB P e=some s) (hb:dw es.length (lo.map fr.ev) (hi.map fr.ev)=some (l,r)) (yg:l≤r∧r≤es.length) (hp:∀y,fr.put dst y=aM y) (h:∀y,Has N S st (H.set j (.aO y s ((es.take r).drop l)))→aa P ops rest (aM y) st Q):aa P ops (⟨some dst,.slice t xo lo hi none,ty,pp,a,g⟩::rest) fr st Q:=by
 have hown:=hH.own hj
 cases hown with
 |nul=>
  simp only[Jd] at hb yg
  have hy:Has N S st (H.set j (.aO .nul s (([].take r).drop l))):=by
   refine hH.C_ hj (fun _ _ _=>rfl) (τ _) rfl rfl (by simp;exact .nul) (fun k hk=>.inl hk) fun k hk=>by simp only[bJ.aO,ω] at hk;omega
  refine aa.go hg rfl (d:=.nul) (st1:=st) ?_ (hp _) (h _ hy);simp only[ef,hx,gT,ht,hs,γ,hb,δ]
 |win k aG off es c hm hl hc he=>
  have hlen:((es.take r).drop l).length=r-l:=by simp;omega
  have h1:l*s+(r-l)*s≤es.length*s:=by rw[←ς];exact π s (by omega)
  have hk:=(hH.ok j _ hj).2 k (by simp only[bJ.aO,ω])
  have hy:Has N S st (H.set j (.aO (.win k aG (off+l*s) (r-l) s) s ((es.take r).drop l))):=by
   refine hH.C_ hj (fun _ _ _=>rfl) (τ _) rfl rfl ?_ (fun k' kM=>.inl ?_) fun k' kM=>?_
   ·have:=iB.win (st:=st) (s:=s) k aG (off+l*s) ((es.take r).drop l) c hm (by rw[hlen];omega) ?_ (fun e qZ=>he e (JO (KZ qZ)))
    ·rw[hlen] at this;exact this
    ·rw[hlen];have nT:=dg he
     have e1:∀n,n≤es.length→(es.take n).flatten=es.flatten.take (n*s):=by
      intro n hn;have:es.flatten=(es.take n).flatten++(es.drop n).flatten:=by rw[←Js,K8]
      rw[this,KV];rw[dg (s:=s) (fun e qZ=>he e (JO qZ)),Jp,Ja hn]
     have e2:((es.take r).drop l).flatten=(es.take r).flatten.drop (l*s):=by
      have h2:(es.take r).flatten=((es.take r).take l).flatten++((es.take r).drop l).flatten:=by rw[←Js,K8]
      rw[h2,KK];rw[dg (s:=s) (fun e qZ=>he e (JO (JO qZ))),Jp,Jp,Ja (by omega)]
     rw[e2,e1 r yg.2,←hc,Jn,Φ,φ,Nat.sub_mul]
     congr 1
     have:r*s≤es.length*s:=π s yg.2;rw[Ja this]
   ·simp only[bJ.aO,ω] at kM⊢;exact kM
   ·simp only[bJ.aO,ω] at kM;omega
  refine aa.go hg rfl (d:=.win k aG (off+l*s) (r-l) s) (st1:=st) ?_ (hp _) (h _ hy);simp only[ef,hx,gT,ht,hs,γ,hb,if_true,δ]
theorem aa.Sj {s t e:TypeId} {xo:Operand} {b:List UInt8} {aM:Nat→Fr} (hH:Has N S st H) (hg:aH ops fr ⟨some dst,.convert s t xo,ty,pp,a,g⟩=some true) (hx:fr.ev xo=.str b) (h1:P.cJ s=some .string) (h2:P.cJ t=some (.slice e)) (h3:P.cJ e=some (.int .u8)) (hl:b.length<1099511627776) (hp:∀k,fr.put dst (.win k 0 0 b.length 1)=aM k)
  (h:∀k ai,S.bs.length≤k→Has N S ai (.aO (.win k 0 0 b.length 1) 1 (byteCells b)::H)→aa P ops rest (aM k) ai Q):aa P ops (⟨some dst,.convert s t xo,ty,pp,a,g⟩::rest) fr st Q:=by
 have hc:∀b:List UInt8,(byteCells b).flatten=b.map fun y=>.int .u8 (y.toNat:Nat):=by
  intro b
  induction b with
  |nil=>rfl
  |cons y b ih=>simp only[byteCells,ο,Δ] at ih⊢;rw[ih];rfl
 refine aa.go hg rfl (d:=.win st.bs.length 0 0 b.length 1) (st1:=st.push (.mem 0 true (b.map fun y=>.int .u8 (y.toNat:Nat)))) ?_ (hp _) (h _ _ hH.len (hH.vw (by simp[byteCells]) (hc b) (fun e he=>by obtain⟨y,_,rfl⟩:=Kk.1 he;rfl)));simp only[ef,hx,yD,h1,h2,h3,if_pos hl]
theorem aa.ju {f:Operand} {gn:Nat} {jL:List D} {args:Array Operand} {wQ:Array TypeId} (hg:aH ops fr ⟨some dst,.call ⟨.value f,args,wQ⟩,ty,pp,a,g⟩=some true) (hf:fr.ev f=.fn gn jL) (h1:Ev P gn (args.toList.map fr.ev++jL) st d st1) (hp:fr.put dst d=aM) (h:aa P ops rest aM st1 Q):aa P ops (⟨some dst,.call ⟨.value f,args,wQ⟩,ty,pp,a,g⟩::rest) fr st Q:=
 aa.call hg hf h1 (by show aa P ops rest (fr.put dst d) st1 Q;rw[hp];exact h)
theorem EC {m:Mode} {kn:Bool} {st:St} {d':D} (hm:m≠.bd∧m≠.nw) (hS:S.bs=st.bs) (hH:Has st.bs.length S st1 H) (hd:bn st1 st.bs.length kn 16 d=some d'):c_ m kn st st1 d=some (d',st):=
 aP hm ((hH.ex.take (by rw[hS])).trans hS) hd
theorem Has.freeze (hH:Has N S st H) (hj:H[j]?=some (.aO x s es)) (hp:∀e∈es,∀d∈e,cv d=true) {n:Nat} (hn:2≤n):bn st N false (n+1) x=some (.sl (es.map (jR s))):=by
 obtain⟨n,rfl⟩:∃m,n=m+2:=⟨n-2,by omega⟩
 have hown:=hH.own hj;have hkk:=(hH.ok j _ hj).2
 cases hown with
 |nul=>rfl
 |win k aG off es c hm hl hc he=>
  have hk:=hkk k (by simp only[bJ.aO,ω]);show(if k<N then some (D.win k aG off es.length s) else fu st N (n+2) (.win k aG off es.length s))=_;rw[if_neg (show¬k<N by omega),fu];simp only[if_neg (show¬k<N by omega),St.mem_of hm,γ]
  rw[if_pos hl,hc,kF (fun d hd=>by
   obtain⟨e,qZ,Bu⟩:=Kw.1 hd
   exact hp e qZ d Bu)]
  simp only[δ,hU he]
end Go.V
namespace Go.V
variable{P:Pv} {ops:Array Oper} {rest:List Oper} {fr aM:Fr} {st:St} {Q:Fr→St→Prop} {ty:TypeId} {pp:String} {a:Array Edge} {g:Option (Nat×Bool)} {dst:Nat}
variable{o:Oper}{j t:Nat}{w v:Bool}
theorem aq (h1:o.guard=some (j,w)) (h2:(ops[j]?).bind (·.dst)=some t) (h3:fr.get t=.bool v) (h4:v=w):aH ops fr o=some true:=by
 unfold aH;simp only[h1,h2,h3,h4,beq_self_eq_true]
theorem BR (h1:o.guard=some (j,w)) (h2:(ops[j]?).bind (·.dst)=some t) (h3:fr.get t=.bool v) (h4:v=!w):aH ops fr o=some false:=by
 unfold aH;simp only[h1,h2,h3,h4];cases w<;>rfl
theorem aa.skip {op:Op} (hg:aH ops fr ⟨some dst,op,ty,pp,a,g⟩=some false) (hp:fr.put dst (.tup [])=aM)
  (h:aa P ops rest aM st Q):aa P ops (⟨some dst,op,ty,pp,a,g⟩::rest) fr st Q:=
 aa.off hg (by show aa P ops rest (fr.put dst _) st Q;rw[hp];exact h)
variable{l:List Oper}
theorem aa.two (t:Nat) (hv:fr.get t=.bool v) (h1:v=true→aa P ops l fr st Q) (h2:v=false→aa P ops l fr st Q):aa P ops l fr st Q:=by
 cases v
 ·exact h2 rfl
 ·exact h1 rfl
theorem aa.dI {c x y:Operand} (hg:aH ops fr ⟨some dst,.pick c x y,ty,pp,a,g⟩=some true) (hc:fr.ev c=.bool v) (hv:v=true) (hp:fr.put dst (fr.ev x)=aM) (h:aa P ops rest aM st Q):aa P ops (⟨some dst,.pick c x y,ty,pp,a,g⟩::rest) fr st Q:=
 aa.go hg rfl (by simp only[ef,hc,hv]) hp h
theorem aa.de {c x y:Operand} (hg:aH ops fr ⟨some dst,.pick c x y,ty,pp,a,g⟩=some true) (hc:fr.ev c=.bool v) (hv:v=false) (hp:fr.put dst (fr.ev y)=aM) (h:aa P ops rest aM st Q):aa P ops (⟨some dst,.pick c x y,ty,pp,a,g⟩::rest) fr st Q:=
 aa.go hg rfl (by simp only[ef,hc,hv]) hp h
variable{dy:Dy}{i:Nat}
theorem ab.cut {d n loc T_ tmp st} {Q:Out→Fr→St→Prop} (t:Nat) (v:D) (h1:aa P l.toArray l ⟨n,loc,[]⟩ st fun aM ai=>∃tmp,aM=⟨n,T_,tmp⟩∧ai=st∧look t tmp=v) (h2:∀tmp,look t tmp=v→Q .next ⟨n,T_,tmp⟩ st) (h0:g_ i dy=[]:=by rfl):ab P dy (.region i l.toArray d) ⟨n,loc,tmp⟩ st Q:=by
 refine ab.cH ?_ h0;unfold aa at h1⊢;obtain⟨aM,ai,h3,NQ,rfl,rfl,h4⟩:=h1;exact⟨_,_,h3,h2 _ h4⟩
variable{n:Nat}{k:IntKind}
theorem pq {len:Nat} (h:n≤len):dw len none (some (.int k (n:Nat)))=some (0,n):=by
 simp only[dw,jY,lX];rw[if_pos ⟨by omega,by omega⟩];rfl
theorem wrap_i32 {n : Int} (h1 : -2147483648 ≤ n) (h2 : n ≤ 2147483647) : cy .i32 n = n := by
  cases n with
  | ofNat m => exact eW (k := .i32) (m := m) (by simp only [mz]; have : (Int.ofNat m) = (m : Int) := rfl; omega)
  | negSucc m =>
    unfold cy
    have : υ (vE .i32) m = false := by
      cases hb : υ (vE .i32) m with
      | false => rfl
      | true => have := Ψ hb; simp only [vE] at this; have : Int.negSucc m = -(m : Int) - 1 := by omega
                omega
    simp only [this]
theorem XH (x y:Int):(if y>x then y else x)=max x y:=by split<;>omega
theorem XG (x y:Int):(if y<x then y else x)=min x y:=by split<;>omega
variable{y:Int}{yo:Operand}{k':IntKind}
theorem aa.L7 {t1 t2:TypeId} {xo:Operand} {x:Int} {wQ:Array TypeId} (hg:aH ops fr ⟨some dst,.call ⟨.builtin .max,#[xo,yo],wQ⟩,ty,pp,a,g⟩=some true) (hx:fr.ev xo=.int k x) (hy:fr.ev yo=.int k' y) (hp:fr.put dst (.int k (max x y))=aM) (h:aa P ops rest aM st Q):aa P ops (⟨some dst,.call ⟨.builtin .max,#[xo,yo],wQ⟩,ty,pp,a,g⟩::rest) fr st Q:=by
 refine aa.go hg rfl (d:=.int k (max x y)) (st1:=st) ?_ hp h;simp only[ef,ο,JE,hx,hy,bR,pS,uq,γ,δ,←XH];rfl
theorem aa.L6 {t1 t2:TypeId} {xo:Operand} {x:Int} {wQ:Array TypeId} (hg:aH ops fr ⟨some dst,.call ⟨.builtin .min,#[xo,yo],wQ⟩,ty,pp,a,g⟩=some true) (hx:fr.ev xo=.int k x) (hy:fr.ev yo=.int k' y) (hp:fr.put dst (.int k (min x y))=aM) (h:aa P ops rest aM st Q):aa P ops (⟨some dst,.call ⟨.builtin .min,#[xo,yo],wQ⟩,ty,pp,a,g⟩::rest) fr st Q:=by
 refine aa.go hg rfl (d:=.int k (min x y)) (st1:=st) ?_ hp h;simp only[ef,ο,JE,hx,hy,bR,pS,uq,γ,δ,←XG];rfl
theorem aa.SR {t nv:TypeId} {xo:Operand} {x:Int} (hg:aH ops fr ⟨some dst,.binOp .add t xo yo nv,ty,pp,a,g⟩=some true) (hx:fr.ev xo=.int .i64 x) (hy:fr.ev yo=.int .i64 y) (h1:-9223372036854775808≤x+y) (h2:x+y≤9223372036854775807) (hp:fr.put dst (.int .i64 (x+y))=aM) (h:aa P ops rest aM st Q):aa P ops (⟨some dst,.binOp .add t xo yo nv,ty,pp,a,g⟩::rest) fr st Q:=by
 refine aa.go hg rfl (d:=.int .i64 (x+y)) (st1:=st) ?_ hp h;simp only[ef,hx,hy,lb,vR,if_pos trivial,δ,wrap_i64 h1 h2]
theorem aa.AB {t nv:TypeId} {xo:Operand} {x:Int} (hg:aH ops fr ⟨some dst,.binOp .add t xo yo nv,ty,pp,a,g⟩=some true) (hx:fr.ev xo=.int .i32 x) (hy:fr.ev yo=.int .i32 y) (h1:-2147483648≤x+y) (h2:x+y≤2147483647) (hp:fr.put dst (.int .i32 (x+y))=aM) (h:aa P ops rest aM st Q):aa P ops (⟨some dst,.binOp .add t xo yo nv,ty,pp,a,g⟩::rest) fr st Q:=by
 refine aa.go hg rfl (d:=.int .i32 (x+y)) (st1:=st) ?_ hp h;simp only[ef,hx,hy,lb,vR,if_pos trivial,δ,wrap_i32 h1 h2]
theorem aa.NR {t nv:TypeId} {xo:Operand} {x:Int} (hg:aH ops fr ⟨some dst,.binOp .sub t xo yo nv,ty,pp,a,g⟩=some true) (hx:fr.ev xo=.int .i32 x) (hy:fr.ev yo=.int .i32 y) (h1:-2147483648≤x-y) (h2:x-y≤2147483647) (hp:fr.put dst (.int .i32 (x-y))=aM) (h:aa P ops rest aM st Q):aa P ops (⟨some dst,.binOp .sub t xo yo nv,ty,pp,a,g⟩::rest) fr st Q:=by
 refine aa.go hg rfl (d:=.int .i32 (x-y)) (st1:=st) ?_ hp h;simp only[ef,hx,hy,lb,vR,if_pos trivial,δ,wrap_i32 h1 h2]
theorem aa.mv {op:Op} {x:Operand} {d:D} (gv:op=.move x∨op=.assign x) (hg:aH ops fr ⟨some dst,op,ty,pp,a,g⟩=some true) (hx:fr.ev x=d) (hp:fr.put dst d=aM)
  (h:aa P ops rest aM st Q):aa P ops (⟨some dst,op,ty,pp,a,g⟩::rest) fr st Q:=by
 refine aa.go hg ?_ (d:=d) (st1:=st) ?_ hp h<;>rcases gv with rfl|rfl<;>first|rfl|simp only[ef,hx]
def mZ (P:Pv) (fields:Array Field) (f:Nat):Option (Nat×Option Nat):=(fields[f]?).map fun fd=>(fd.offset,cB P fd.type)
variable{fields:Array Field}{f fo m:Nat}
theorem lT {P:Pv} (h:mZ P fields f=some (fo,some m)):∃fd,fields[f]?=some fd∧fd.offset=fo∧cB P fd.type=some m:=by
 unfold mZ at h;obtain⟨fd,h1,h2⟩:=Jh.1 h;simp only[Prod.mk.injEq] at h2;exact⟨fd,h1,h2.1,h2.2⟩
variable{aG:Nat}
theorem aa.Q7 {t:TypeId} {xo:Operand} {k off o:Nat} (hg:aH ops fr ⟨some dst,.fieldAddr t xo f,ty,pp,a,g⟩=some true) (hx:fr.ev xo=.ptr k aG off) (ht:P.cJ t=some (.struct fields)) (hf:mZ P fields f=some (fo,some (m+1))) (ho:off+fo=o) (hp:fr.put dst (.ptr k aG o)=aM) (h:aa P ops rest aM st Q):aa P ops (⟨some dst,.fieldAddr t xo f,ty,pp,a,g⟩::rest) fr st Q:=by
 obtain⟨fd,h1,h2,h3⟩:=lT hf;subst ho;refine aa.go hg rfl (d:=.ptr k aG (off+fo)) (st1:=st) ?_ hp h;simp only[ef,hx,e_,ht,h1,γ,h3,h2];rw[if_neg (by simp)];rfl
variable{x:D}{r:List D}
theorem aa.LL {t:TypeId} {xo:Operand} {aM:D→Fr} (hg:aH ops fr ⟨some dst,.fieldAddr t xo f,ty,pp,a,g⟩=some true) (hx:fr.ev xo=x) (hR:jN st x r) (ht:P.cJ t=some (.struct fields)) (hf:mZ P fields f=some (fo,some (m+1))) (hp:∀p,fr.put dst p=aM p) (h:∀p,jN st p (r.drop fo)→aa P ops rest (aM p) st Q):aa P ops (⟨some dst,.fieldAddr t xo f,ty,pp,a,g⟩::rest) fr st Q:=by
 obtain⟨fd,h1,h2,h3⟩:=lT hf;exact aa.Q4 hg hx hR ht h1 h3 (by omega) hp (by rw[h2];exact h)
variable{s:Nat}
theorem aa.fS {t:TypeId} {xo:Operand} {y:D} {o o2:Nat} {aM:D→Fr} (hg:aH ops fr ⟨some dst,.fieldAddr t xo f,ty,pp,a,g⟩=some true) (hx:fr.ev xo=y) (hR:qI x s i o y) (ht:P.cJ t=some (.struct fields)) (hf:mZ P fields f=some (fo,some (m+1))) (ho:o+fo=o2) (hp:∀p,fr.put dst p=aM p) (h:∀p,qI x s i o2 p→aa P ops rest (aM p) st Q):aa P ops (⟨some dst,.fieldAddr t xo f,ty,pp,a,g⟩::rest) fr st Q:=by
 obtain⟨fd,h1,h2,h3⟩:=lT hf;subst ho;exact aa.Rf hg hx hR ht h1 h3 (by omega) hp (by rw[h2];exact h)
variable{c:List D}
theorem wY {cs:List D} (h:cs.length=c.length):setMany c 0 cs=cs:=by
 rw[gU cs c 0 (by omega),List.take_zero,K6,KB,h,List.drop_length,KY]
variable{N:Nat} {S:St} {H:List bJ}
variable{ar:Bool}{ao:Operand}
theorem aa.vT {k:Nat} {cs:List D} {v:D} {t:TypeId} {vo:Operand} (hH:Has N S st H) (hg:aH ops fr ⟨none,.store t ao vo,ty,pp,a,g⟩=some true) (ha:fr.ev ao=.ptr k aG 0) (hv:fr.ev vo=v) (iy:v.cells?=some cs) (hs:cB P t=some cs.length) (hj:H[j]?=some (.box k (.mem aG ar c))) (hl:cs.length=c.length) (hw:S.flr≤N∨refs cs=0) (h:∀ai,Has N S ai (H.set j (.box k (.mem aG ar cs)))→aa P ops rest fr ai Q):aa P ops (⟨none,.store t ao vo,ty,pp,a,g⟩::rest) fr st Q:=
 aa.mU hH hg ha hv iy hs hj (by omega) hw (by rw[wY hl];exact h)
theorem uN {place:Nat→Option (Nat×Nat)} {s:Nat} (ib:∀i,place i=some (i*s,s)):∀(vs:List D) (n:Nat) (done rem:List D),done.length=n*s→rem.length=vs.length*s→(∀v∈vs,v.cells?=some v.cells∧v.cells.length=s)→
  ie place (done++rem) (vs.mapIdx fun i v=>(n+i,v))=some (done++(vs.map K').flatten)
 |[],n,done,rem,hd,hr,_=>by
  have:rem=[]:=by cases rem with|nil=>rfl|cons _ _=>simp at hr
  subst this;simp[ie]
 |v::vs,n,done,rem,hd,hr,hv=>by
  obtain⟨h1,h2⟩:=hv v (κ ..);simp only[ξ,ς,Jc] at hr;simp only[KC,ie,ib,h1,KO];rw[if_neg (by simp only[h2,ne_eq,not_true_eq_false,χ,false_or];rw[hd,hr];omega)]
  have e1:setMany (done++rem) (n*s) v.cells=(done++v.cells)++rem.drop s:=by
   rw[gU _ _ _ (by simp only[χ];omega),h2,←hd,List.take_left,KU]
  have ih:=uN ib vs (n+1) (done++v.cells) (rem.drop s) (by rw[χ,hd,h2,ς,Jc]) (by rw[Ky];omega) fun w hw=>hv w (μ _ hw);rw[e1];have e2:(vs.mapIdx fun i v=>(n+(i+1),v))=vs.mapIdx fun i v=>(n+1+i,v):=by congr 1;funext i v;rw[show n+(i+1)=n+1+i by omega]
  rw[e2,ih];simp[Jl]
def BC (fr:Fr):Nat→List (Nat×Operand)→List D→Prop
 |_,[],[]=>True
 |n,(i,o)::ps,v::vs=>i=n∧fr.ev o=v∧BC fr (n+1) ps vs
 |_,_,_=>False
theorem yw {fr:Fr}:∀{ps:List (Nat×Operand)} {vs:List D} {n:Nat},BC fr n ps vs→(ps.map fun p=>(p.1,fr.ev p.2))=vs.mapIdx fun i v=>(n+i,v)
 |[],[],_,_=>rfl
 |(i,o)::ps,v::vs,n,h=>by
  obtain⟨h1,h2,h3⟩:=h;have ih:=yw h3;simp only[ο,KC,KO];rw[ih,h1,h2]
  congr 1
  congr 1;funext i v;rw[show n+(i+1)=n+1+i by omega]
 |[],_::_,_,h=>h.elim
 |_::_,[],_,h=>h.elim
theorem aa.NJ {t e:TypeId} {parts:Array (Nat×Operand)} {z:List D} {vs:List D} {aM:Nat→Fr} (hH:Has N S st H) (hg:aH ops fr ⟨some dst,.buildSlice t m parts,ty,pp,a,g⟩=some true) (ht:P.cJ t=some (.slice e)) (hs:cB P e=some s) (hz:dG P e=some z) (lg:z.length=s) (hm:m*s≤16777216) (WN:BC fr 0 parts.toList vs) (Uo:vs.length=m) (hc:∀v∈vs,v.cells?=some v.cells∧v.cells.length=s) (hp:∀k,fr.put dst (.win k 0 0 m s)=aM k) (h:∀k ai,S.bs.length≤k→Has N S ai (.aO (.win k 0 0 m s) s (vs.map K')::H)→aa P ops rest (aM k) ai Q):aa P ops (⟨some dst,.buildSlice t m parts,ty,pp,a,g⟩::rest) fr st Q:=by
 have Dd:=yw WN;have hf:=uN (place:=fun i=>some (i*s,s)) (fun _=>rfl) vs 0 [] (fg m z) (by simp) (by simp[fg,Uo,lg]) hc
 refine aa.go hg rfl (d:=.win st.bs.length 0 0 m s) (st1:=st.push (.mem 0 true (vs.map K').flatten)) ?_ (hp _) (h _ _ hH.len (hH.vw (by simpa using Uo) rfl (fun e he=>by
  obtain⟨v,hv,rfl⟩:=Kk.1 he
  exact(hc v hv).2)))
 simp only[ef,ij,ht,hs,hz,γ];rw[if_pos ⟨lg,hm⟩,Dd];simp only[K6] at hf;rw[hf];rfl
theorem aa.aF {k off:Nat} {t:TypeId} (hH:Has N S st H) (hg:aH ops fr ⟨some dst,.load t ao,ty,pp,a,g⟩=some true) (ha:fr.ev ao=.ptr k aG off) (hj:H[j]?=some (.box k (.mem aG ar c))) (hr:(c.drop off).take m=r) (hd:dW P t r=some (.agg r)) (hm:r.length=m) (hp:fr.put dst (.agg r)=aM) (h:aa P ops rest aM st Q):aa P ops (⟨some dst,.load t ao,ty,pp,a,g⟩::rest) fr st Q:=
 aa.uG hH hg ha hj (l5 (r:=r) (by rw[hm];exact hr) hd) hp h
theorem bC {α:Type} {l:List α} {a:α} (h:l[i]?=some a):i<l.length:=by
 rcases ψ i l.length with h'|h'
 ·exact h'
 ·rw[θ h'] at h;cases h
theorem aa.cA {t:TypeId} (hg:aH ops fr ⟨some dst,.load t ao,ty,pp,a,g⟩=some true) (ha:fr.ev ao=x) (hR:jN st x r) (hd:dW P t r=some (.agg r)) (hp:fr.put dst (.agg r)=aM) (h:aa P ops rest aM st Q):aa P ops (⟨some dst,.load t ao,ty,pp,a,g⟩::rest) fr st Q:=aa.DQ hg ha hR hd hp h
variable{es:List (List D)}
theorem aa.vy {t:TypeId} {y:D} (hH:Has N S st H) (hg:aH ops fr ⟨some dst,.load t ao,ty,pp,a,g⟩=some true) (ha:fr.ev ao=y) (hR:qI x s i 0 y) (hj:H[j]?=some (.aO x s es)) (hr:es[i]?=some r) (hd:dW P t r=some (.agg r)) (hp:fr.put dst (.agg r)=aM) (h:aa P ops rest aM st Q):aa P ops (⟨some dst,.load t ao,ty,pp,a,g⟩::rest) fr st Q:=aa.Nt hH hg ha hR hj hr (by rw[Jf];exact hd) hp h
variable{z:Int}
theorem aa.lZ {t nv:TypeId} {xo:Operand} {x:Int} (hg:aH ops fr ⟨some dst,.binOp .add t xo yo nv,ty,pp,a,g⟩=some true) (hx:fr.ev xo=.int k x) (hy:fr.ev yo=.int k y) (hz:cy k (x+y)=z) (hp:fr.put dst (.int k z)=aM) (h:aa P ops rest aM st Q):aa P ops (⟨some dst,.binOp .add t xo yo nv,ty,pp,a,g⟩::rest) fr st Q:=by
 refine aa.go hg rfl (d:=.int k z) (st1:=st) ?_ hp h;simp only[ef,hx,hy,lb,vR,if_pos trivial,δ,hz]
theorem aa.ji {t nv:TypeId} {xo:Operand} {x:Int} (hg:aH ops fr ⟨some dst,.binOp .sub t xo yo nv,ty,pp,a,g⟩=some true) (hx:fr.ev xo=.int k x) (hy:fr.ev yo=.int k y) (hz:cy k (x-y)=z) (hp:fr.put dst (.int k z)=aM) (h:aa P ops rest aM st Q):aa P ops (⟨some dst,.binOp .sub t xo yo nv,ty,pp,a,g⟩::rest) fr st Q:=by
 refine aa.go hg rfl (d:=.int k z) (st1:=st) ?_ hp h;simp only[ef,hx,hy,lb,vR,if_pos trivial,δ,hz]
theorem aa.zz {t nv:TypeId} {xo:Operand} {x:Int} (hg:aH ops fr ⟨some dst,.binOp .mul t xo yo nv,ty,pp,a,g⟩=some true) (hx:fr.ev xo=.int k x) (hy:fr.ev yo=.int k y) (hz:cy k (x*y)=z) (hp:fr.put dst (.int k z)=aM) (h:aa P ops rest aM st Q):aa P ops (⟨some dst,.binOp .mul t xo yo nv,ty,pp,a,g⟩::rest) fr st Q:=by
 refine aa.go hg rfl (d:=.int k z) (st1:=st) ?_ hp h;simp only[ef,hx,hy,lb,vR,if_pos trivial,δ,hz]
theorem aa.S6 {t nv:TypeId} {xo:Operand} {y:D} {b:Bool} (hg:aH ops fr ⟨some dst,.binOp .neq t xo yo nv,ty,pp,a,g⟩=some true) (hx:fr.ev xo=x) (hy:fr.ev yo=y) (hb:lb P .neq t x y=some (.bool b)) (hp:fr.put dst (.bool b)=aM) (h:aa P ops rest aM st Q):aa P ops (⟨some dst,.binOp .neq t xo yo nv,ty,pp,a,g⟩::rest) fr st Q:=by
 refine aa.go hg rfl (d:=.bool b) (st1:=st) ?_ hp h;simp only[ef,hx,hy,hb,δ]
variable{body:Code}{args loc:List D}
theorem Ev.iD {x:Fi} {st:St} {FQ:D→St→Prop} (hq:lK f P.prm=none) (hf:P.fi f=some x) (hp:x.jj=none) (hb:x.fn.body=some body) (EP:pad x.nloc args=⟨n,loc,[]⟩) (h:ab P x.dyn body ⟨n,loc,[]⟩ (ah x.mode st) fun o fr st1=>(∀i,o≠.exit i)∧∃ds d ai,kz P fr st1 x.fn.results.toList=some ds∧c_ x.mode x.knul st st1 (tC ds)=some (d,ai)∧FQ d ai):∃d ai,Ev P f args st d ai∧FQ d ai:=by
 unfold ab at h;obtain⟨o,aM,st1,hN,ho,ds,d,ai,hr,hl,EO⟩:=h;refine⟨d,ai,Ev.h_ hq hf hp hb EP ?_,EO⟩;unfold ab;exact⟨o,aM,st1,hN,ho,ds,hr,hl⟩
def FT (M:Fr→St→Prop) (Q:Out→Fr→St→Prop):Out→Fr→St→Prop
 | .next,fr,st=>M fr st
 | .exit i,fr,st=>Q (.exit i) fr st
 | .ret,fr,st=>Q .ret fr st
theorem ab.merge {P:Pv} {c:Code} {fr:Fr} {st:St} {Q:Out→Fr→St→Prop} (M:Fr→St→Prop) (h1:ab P dy c fr st (FT M Q)) (h2:∀aM ai,M aM ai→Q .next aM ai):ab P dy c fr st Q:=
 h1.mono fun o aM ai h=>by
  cases o with
  |next=>exact h2 _ _ h
  |exit i=>exact h
  |ret=>exact h
theorem aa.aap {t nv:TypeId} {xo:Operand} {x y:Nat} (hg:aH ops fr ⟨some dst,.binOp .add t xo yo nv,ty,pp,a,g⟩=some true) (hx:fr.ev xo=.int .i64 (x:Nat)) (hy:fr.ev yo=.int .i64 (y:Nat)) (h2:x+y≤9223372036854775807) (hp:fr.put dst (.int .i64 ((x+y:Nat):Int))=aM) (h:aa P ops rest aM st Q):aa P ops (⟨some dst,.binOp .add t xo yo nv,ty,pp,a,g⟩::rest) fr st Q:=
 aa.lZ hg hx hy (by rw[wrap_i64 (by omega) (by omega)];rfl) hp h
theorem Ev.Db {x:Fi} {st:St} {FQ:D→Prop} (hq:lK f P.prm=none) (hf:P.fi f=some x) (hp:x.jj=none) (hb:x.fn.body=some body) (EP:pad x.nloc args=⟨n,loc,[]⟩) (h:ab P x.dyn body ⟨n,loc,[]⟩ (ah x.mode st) fun o fr st1=>(∀i,o≠.exit i)∧∃ds d,kz P fr st1 x.fn.results.toList=some ds∧c_ x.mode x.knul st st1 (tC ds)=some (d,st)∧FQ d):∃d,Ev P f args st d st∧FQ d:=by
 unfold ab at h;obtain⟨o,aM,st1,hN,ho,ds,d,hr,hl,EO⟩:=h;refine⟨d,Ev.h_ hq hf hp hb EP ?_,EO⟩;unfold ab;exact⟨o,aM,st1,hN,ho,ds,hr,hl⟩
def aB (loc:List D) (ws:List Nat) (f:Nat→D):List D:=ws.foldl (fun l w=>l.set w (f w)) loc
theorem ab.lV {P:Pv} {d n loc tmp st} {Q:Out→Fr→St→Prop} (t:Nat) (v:D) (ws:List Nat) (h1:aa P l.toArray l ⟨n,loc,[]⟩ st fun aM ai=>∃f tmp,aM=⟨n,(aB loc ws f).set t v,tmp⟩∧ai=st) (h2:∀f tmp,Q .next ⟨n,(aB loc ws f).set t v,tmp⟩ st) (h0:g_ i dy=[]:=by rfl):ab P dy (.region i l.toArray d) ⟨n,loc,tmp⟩ st Q:=by
 refine ab.cH ?_ h0;unfold aa at h1⊢;obtain⟨aM,ai,h3,f,NQ,rfl,rfl⟩:=h1;exact⟨_,_,h3,h2 _ _⟩
theorem ab.dz {P:Pv} {d n loc tmp st} {Q:Out→Fr→St→Prop} (t:Nat) (v:D) (ws:List Nat) (h1:aa P l.toArray l ⟨n,loc,[]⟩ st fun aM ai=>∃f tmp,aM=⟨n,aB loc ws f,tmp⟩∧ai=st∧look t tmp=v) (h2:∀f tmp,look t tmp=v→Q .next ⟨n,aB loc ws f,tmp⟩ st) (h0:g_ i dy=[]:=by rfl):ab P dy (.region i l.toArray d) ⟨n,loc,tmp⟩ st Q:=by
 refine ab.cH ?_ h0;unfold aa at h1⊢;obtain⟨aM,ai,h3,f,NQ,rfl,rfl,h4⟩:=h1;exact⟨_,_,h3,h2 _ _ h4⟩
variable{vf:List (Nat×D)}{ws:List Nat}
theorem bp {L:List D} {v:D} {st:St} (h:L=(aB loc ws (fun k=>nth .bD L k)).set t v):∃(f:Nat→D) (tmp:List (Nat×D)),(⟨n,L,vf⟩:Fr)=⟨n,(aB loc ws f).set t v,tmp⟩∧st=st:=⟨_,vf,by rw[←h],rfl⟩
theorem aY {L:List D} {v:D} {st:St} (h:L=aB loc ws (fun k=>nth .bD L k)) (h2:look t vf=v):∃(f:Nat→D) (tmp:List (Nat×D)),(⟨n,L,vf⟩:Fr)=⟨n,aB loc ws f,tmp⟩∧st=st∧look t tmp=v:=⟨_,vf,by rw[←h],rfl,h2⟩
theorem uY {x y:Oper} {fi fj:Fr} {si qN sj FX:St} {a:Operand} {k off v:Nat} (hy:ia y.op=none) (hx:ia x.op=some a) (ha:fi.ev a=.ptr k aG off) (h1:sj.bs[k]?=some (.mem v ar c)) (h2:FX.bs[k]?=some (.mem v ar c)) (h3:si.bs[k]?=some (.mem v ar c)) (hr:refs c=0):iW x fi si qN y fj sj FX=true:=by
 unfold iW;simp only[hy,hx,ha,D.na,Ξ];refine⟨oA h1 h2,?_⟩;unfold mN;simp only[h3,hr]
 split
 ·rfl
 ·simp
def dr (x:D) (s:Nat) (es:List (List D)):Prop:=(x=.nul∧es=[])∨∃ds,x=.sl ds∧ds.map K'=es∧∀d∈ds,d.cells?=some d.cells∧d.cells.length=s
theorem dr.rows (h:dr x s es) (st:St):Rows st s x es:=by
 rcases h with⟨rfl,rfl⟩|⟨ds,rfl,rfl,h⟩
 ·exact .nul
 ·exact .sl ds h
theorem dr.ref (h:dr x s es):x.ref=0:=by
 rcases h with⟨rfl,rfl⟩|⟨ds,rfl,rfl,h⟩<;>rfl
theorem dr.arg (h:dr x s es) (N:Nat) (S:St):Arg N S s x es:=⟨h.rows S,by rw[h.ref];omega⟩
theorem dr.cells (h:dr x s es):x.cells?=some [x]∧x.cells=[x]:=by
 rcases h with⟨rfl,rfl⟩|⟨ds,rfl,rfl,h⟩<;>exact⟨rfl,rfl⟩
theorem dr.freeze (h:dr x s es) (st:St) (N n:Nat):∃y,bn st N false (n+1) x=some y∧dr y s es:=by
 rcases h with⟨rfl,rfl⟩|⟨ds,rfl,rfl,h⟩
 ·exact⟨.sl [],rfl,.inr ⟨[],rfl,rfl,fun d hd=>by cases hd⟩⟩
 ·exact⟨.sl ds,rfl,.inr ⟨ds,rfl,rfl,h⟩⟩
theorem dr.frozen (h:∀e∈es,e.length=s) (hp:∀e∈es,∀d∈e,cv d=true):dr (.sl (es.map (jR s))) s es:=by
 refine .inr ⟨_,rfl,?_,fun d hd=>?_⟩
 ·rw[KA]
  conv=>rhs;rw[←KI es]
  refine KF fun e he=>?_;exact(ml (h e he) (hp e he)).2
 ·obtain⟨e,he,rfl⟩:=Kk.1 hd;obtain⟨h1,h2⟩:=ml (h e he) (hp e he);exact⟨h1,by rw[h2];exact h e he⟩
theorem dr.part {P:Pv} {st:St} {t e:TypeId} {l r:Nat} {lo hi:Option D} (h:dr x s es) (ht:P.cJ t=some (.slice e)) (hs:cB P e=some s) (hb:dw es.length lo hi=some (l,r)):∃y,gT P t x lo hi st=some y∧dr y s ((es.take r).drop l):=by
 rcases h with⟨rfl,rfl⟩|⟨ds,rfl,rfl,h⟩
 ·simp only[Jd] at hb;refine⟨.nul,?_,.inl ⟨rfl,by simp⟩⟩;simp only[gT,ht,hs,γ,hb,δ]
 ·rw[K5] at hb;refine⟨.sl ((ds.take r).drop l),?_,.inr ⟨_,rfl,by rw[KM,KN],fun d hd=>h d (JO (KZ hd))⟩⟩;simp only[gT,ht,hs,γ]
  rw[if_pos (by
   cases ds with
   |nil=>rfl
   |cons d ds=>obtain⟨h1,h2⟩:=h d (κ ..);simp[sD,h1,h2])]
  simp only[hb,δ]
end Go.V
namespace Go.V
inductive c7 {α β:Type} (R:α→β→Prop):List α→List β→Prop where
 |nil:c7 R [] []
 |cons {a:α} {b:β} {l:List α} {m:List β} (h:R a b) (t:c7 R l m):c7 R (a::l) (b::m)
theorem c7.mono {α β:Type} {R R':α→β→Prop} (h:∀a b,R a b→R' a b):∀{l:List α} {m:List β},c7 R l m→c7 R' l m
 |_,_,.nil=>.nil
 |_,_,.cons a t=>.cons (h _ _ a) (t.mono h)
theorem c7.append {α β:Type} {R:α→β→Prop}:∀{l l':List α} {m m':List β},c7 R l m→c7 R l' m'→c7 R (l++l') (m++m')
 |_,_,_,_,.nil,h=>h
 |_,_,_,_,.cons a t,h=>.cons a (t.append h)
theorem c7.len {α β:Type} {R:α→β→Prop}:∀{l:List α} {m:List β},c7 R l m→l.length=m.length
 |_,_,.nil=>rfl
 |_,_,.cons a t=>by simp[t.len]
inductive fx (st:St) (ks:Nat→Prop):D→D→Prop where
 |plain (d:D) (h:cv d=true):fx st ks d d
 |aO (w:D) (s:Nat) (rs:List (List D)) (h:iB st s w rs) (hp:∀e∈rs,∀d∈e,cv d=true) (hk:∀k,w.ref=k+1→ks k):fx st ks w (.sl (rs.map (jR s)))
variable{ks:Nat→Prop}{d v:D}
theorem fx.mono {st:St} {Uc:Nat→Prop} (h:∀k,ks k→Uc k) (p:fx st ks d v):fx st Uc d v:=by
 cases p with
 |plain h=>exact .plain d h
 |aO s rs h1 h2 h3=>exact .aO d s rs h1 h2 fun k hk=>h k (h3 k hk)
theorem fx.move {st ai:St} (h:∀k,ks k→ai.bs[k]?=st.bs[k]?) (p:fx st ks d v):fx ai ks d v:=by
 cases p with
 |plain h=>exact .plain d h
 |aO s rs h1 h2 h3=>exact .aO d s rs (h1.move fun k hk=>h k (h3 k hk)) h2 h3
variable{s:Nat}{x:D}{es:List (List D)}
theorem iB.TX {st:St} {N:Nat} (h:iB st s x es) (hN:∀k,x.ref=k+1→N≤k) (hp:∀e∈es,∀d∈e,cv d=true) (n:Nat):fu st N (n+2) x=some (.sl (es.map (jR s))):=by
 cases h with
 |nul=>rfl
 |win k aG off es c hm hl hc he=>
  have:=hN k (by simp only[ω]);rw[fu];simp only[if_neg (show¬k<N by omega),St.mem_of hm,γ]
  rw[if_pos hl,hc,kF (fun d hd=>by
   obtain⟨e,qZ,Bu⟩:=Kw.1 hd
   exact hp e qZ d Bu)]
  simp only[δ,hU he]
theorem fx.pure {st:St} {N:Nat} (hN:∀k,ks k→N≤k) (p:fx st ks d v) (n:Nat):fu st N (n+2) d=some v:=by
 cases p with
 |plain h=>cases d<;>simp[cv] at h<;>rfl
 |aO s rs h1 h2 h3=>exact h1.TX (fun k hk=>hN k (h3 k hk)) h2 n
theorem ux {f:D→Option D} {R:D→D→Prop} (h:∀a b,R a b→f a=some b):∀{l m:List D},c7 R l m→fN f l=some m
 |_,_,.nil=>rfl
 |_,_,.cons a t=>by simp only[fN,h _ _ a,ux h t]
theorem c7.flat {R:D→D→Prop}:∀{l m:List (List D)},c7 (c7 R) l m→c7 R l.flatten m.flatten
 |_,_,.nil=>.nil
 |_,_,.cons a t=>by simp only[Δ];exact a.append t.flat
theorem c7.each {R:D→D→Prop}:∀{l m:List (List D)},c7 (c7 R) l m→(∀e∈l,e.length=s)→∀e∈m,e.length=s
 |_,_,.nil,_,e,he=>by cases he
 |_,_,.cons a t,h,e,he=>by
  rcases KG.1 he with rfl|he
  ·rw[←a.len];exact h _ (κ ..)
  ·exact t.each (fun x hx=>h x (μ _ hx)) e he
def bJ.emp:bJ:=⟨fun _=>False,fun _=>True,fun _ p=>p⟩
def bJ.deep (ks:Nat→Prop) (x:D) (s:Nat) (vs:List (List D)):bJ:=
 ⟨fun j=>x.ref=j+1∨ks j,fun st=>(∃es,iB st s x es∧c7 (c7 (fx st ks)) es vs)∧∀k,x.ref=k+1→¬ks k,fun h p=>by
  obtain⟨⟨es,h1,h2⟩,h3⟩:=p
  exact⟨⟨es,h1.move fun k hk=>h k (.inl hk),h2.mono fun a b=>c7.mono fun c d=>fx.move fun k hk=>h k (.inr hk)⟩,h3⟩⟩
variable{N:Nat} {S st:St} {H:List bJ}
theorem Has.Eg (h:Has N S st H) (s:Nat):Has N S st (.deep (fun _=>False) .nul s []::H):=
 h.add (fun _ _=>rfl) (τ _) rfl rfl ⟨⟨[],.nul,.nil⟩,fun k hk=>by simp only[ω] at hk;omega⟩ fun k hk=>by
  rcases hk with hk|hk
  ·simp only[ω] at hk;omega
  ·exact hk.elim
variable{i j:Nat}{vs:List (List D)}
theorem Has.tm {w:D} {sw:Nat} {rs:List (List D)} (h:Has N S st H) (hij:i≠j) (hi:H[i]?=some (.aO w sw rs)) (hj:H[j]?=some (.deep ks x s vs)) (hp:∀e∈rs,∀d∈e,cv d=true):
  Has N S st ((H.set i .emp).set j (.deep (fun k=>ks k∨w.ref=k+1) x s vs))∧fx st (fun k=>ks k∨w.ref=k+1) w (.sl (rs.map (jR sw))):=by
 have hwo:=h.own hi;obtain⟨⟨es,h1,h2⟩,h3⟩:=(h.ok j _ hj).1;have hKi:=(h.ok i _ hi).2;have hKj:=(h.ok j _ hj).2;have Y3:=h.dis i j _ _ hij hi hj;refine⟨⟨h.ex,h.hN,h.eT,fun n e hn=>?_,fun a b ea eb hab ha hb k tw jl=>?_⟩,.aO w sw rs hwo hp fun k hk=>.inr hk⟩
 ·by_cases hnj:n=j
  ·subst hnj;rw[ι (by rw[Θ];exact bC hj)] at hn;cases hn;refine⟨⟨⟨es,h1,h2.mono fun a b=>c7.mono fun c d=>fx.mono fun k hk=>.inl hk⟩,fun k hk=>?_⟩,fun k hk=>?_⟩
   ·rintro(hk2|hk2)
    ·exact h3 k hk hk2
    ·exact Y3 k hk2 (.inl hk)
   ·rcases hk with hk|hk|hk
    ·exact hKj k (.inl hk)
    ·exact hKj k (.inr hk)
    ·exact hKi k hk
  ·rw[ε (fun e=>hnj e.symm)] at hn
   by_cases hni:n=i
   ·subst hni;rw[ι (bC hi)] at hn;cases hn;exact⟨trivial,fun k hk=>hk.elim⟩
   ·rw[ε (fun e=>hni e.symm)] at hn;exact h.ok n e hn
 ·have key:∀n e,((H.set i .emp).set j (.deep (fun k=>ks k∨w.ref=k+1) x s vs))[n]?=some e→∀k,e.K k→(n=j∧((bJ.deep ks x s vs).K k∨(bJ.aO w sw rs).K k))∨(n≠j∧n≠i∧H[n]?=some e):=by
   intro n e hn k hk
   by_cases hnj:n=j
   ·subst hnj;rw[ι (by rw[Θ];exact bC hj)] at hn;cases hn;refine .inl ⟨rfl,?_⟩
    rcases hk with hk|hk|hk
    ·exact .inl (.inl hk)
    ·exact .inl (.inr hk)
    ·exact .inr hk
   ·rw[ε (fun e=>hnj e.symm)] at hn
    by_cases hni:n=i
    ·subst hni;rw[ι (bC hi)] at hn;cases hn;exact hk.elim
    ·rw[ε (fun e=>hni e.symm)] at hn;exact .inr ⟨hnj,hni,hn⟩
  rcases key a ea ha k tw with⟨h4,h5⟩|⟨h4,h5,h6⟩<;>rcases key b eb hb k jl with⟨g4,g5⟩|⟨g4,g5,g6⟩
  ·exact hab (h4.trans g4.symm)
  ·rcases h5 with h5|h5
   ·exact h.dis j b _ _ (fun e=>g4 e.symm) hj g6 k h5 jl
   ·exact h.dis i b _ _ (fun e=>g5 e.symm) hi g6 k h5 jl
  ·rcases g5 with g5|g5
   ·exact h.dis a j _ _ h4 h6 hj k tw g5
   ·exact h.dis a i _ _ h5 h6 hi k tw g5
  ·exact h.dis a b _ _ hab h6 g6 k tw jl
variable{P:Pv}{y:D}{ys Tw:List (List D)}{z:List D}
theorem Has.kN (hH:Has N S st H) (hj:H[j]?=some (.deep ks x s vs)) (hy:Rows st s y ys) (hd:c7 (c7 (fx st ks)) ys Tw) {t1 t2 e:TypeId} {td:TypeDesc} {inf:TypeInfo} (h1:P.cJ t1=some (.slice e)) (h2:P.cJ t2=some td) (h3:hO td=false) (h4:P.info e=some inf) (h5:dG P e=some z) (h6:inf.size=s) (h7:z.length=s) (h8:0<inf.bytes∧inf.bytes≤1024) (qz:vs.length+ys.length≤1073741824) (hw:S.flr≤N∨refs ys.flatten=0):
  ∃x' ai,bR P .append [t1,t2] [x,y] st=some (x',ai)∧Has N S ai (H.set j (.deep ks x' s (vs++Tw))):=by
 obtain⟨⟨es,kZ,wI⟩,he3⟩:=(hH.ok j _ hj).1;have hK:=(hH.ok j _ hj).2;have hlen:=wI.len
 have tK:Has N S st [.aO x s es]:=by
  refine⟨hH.ex,hH.hN,hH.eT,fun i e hi=>?_,fun i i' a b hii ha hb k tw jl=>?_⟩
  ·cases i with
   |zero=>simp only[Jb,Je.injEq] at hi;subst hi;exact⟨kZ,fun k hk=>hK k (.inl hk)⟩
   |succ i=>simp at hi
  ·cases i with
   |zero=>cases i' with
    |zero=>exact hii rfl
    |succ i'=>simp at hb
   |succ i=>simp at ha
 obtain⟨x',ai,q1,q2,q3⟩:=tK.append (j:=0) av hy h1 h2 h3 h4 h5 h6 h7 h8 (by omega) hw;refine⟨x',ai,q1,?_⟩;have hown:=q2.own (j:=0) av
 have Y8:(∀k,k<st.bs.length→x.ref≠k+1→ai.bs[k]?=st.bs[k]?)∧st.bs.length≤ai.bs.length∧ai.flr=st.flr∧ai.ro=st.ro∧(∀k,x'.ref=k+1→x.ref=k+1∨st.bs.length≤k):=by
  have kY:=hy.row
  have EF:∀e∈ys,e.length=s:=fun e he=>by
   obtain⟨i,hi⟩:=Jr he;exact hy.tM i e hi
  simp only[bR,iO,h1,h2,h3,Kz,if_false,h4,h5,kY,γ] at q1
  split at q1
  ·cases q1
  ·cases kZ with
   |nul=>
    simp only at q1
    split at q1
    ·cases q1;exact⟨fun _ _ _=>rfl,τ _,rfl,rfl,fun k hk=>.inl hk⟩
    ·split at q1
     ·cases q1;exact⟨fun k hk _=>by simp only[Ω];rw[ρ hk],by simp[Ω],rfl,rfl,fun k hk=>.inr (by simp only[ω] at hk;omega)⟩
     ·cases q1
   |win k aG off es c hm hl hc he=>
    simp only[St.mem_of hm] at q1
    split at q1
    ·cases q1
    ·split at q1
     ·cases q1;exact⟨fun _ _ _=>rfl,τ _,rfl,rfl,fun k hk=>.inl hk⟩
     ·split at q1
      ·cases q1;exact⟨fun n hn hne=>by simp only;rw[ε (fun e=>hne (by simp only[ω];omega))],by simp,rfl,rfl,fun n hn=>.inl (by simp only[ω] at hn⊢;exact hn)⟩
      ·cases q1
 obtain⟨c1,c2,c3,c4,c5⟩:=Y8;have XU:=(q2.ok 0 _ av).2;have ye:∀k,ks k→ai.bs[k]?=st.bs[k]?:=fun k hk=>c1 k (hK k (.inr hk)).2 fun e=>he3 k e hk;refine hH.C_ hj (fun k hk hne=>c1 k hk fun e=>hne (.inl e)) c2 c3 c4 ⟨⟨es++ys,hown,?_⟩,fun k hk lj=>?_⟩ (fun k hk=>?_) fun k hk=>?_
 ·exact(wI.mono fun a b=>c7.mono fun c d=>fx.move ye).append (hd.mono fun a b=>c7.mono fun c d=>fx.move ye)
 ·rcases c5 k hk with h|h
  ·exact he3 k h lj
  ·have:=(hK k (.inr lj)).2;omega
 ·rcases hk with hk|hk
  ·rcases c5 k hk with h|h
   ·exact .inl (.inl h)
   ·exact .inr h
  ·exact .inl (.inr hk)
 ·rcases hk with hk|hk
  ·exact(XU k hk).2
  ·exact K2 (hK k (.inr hk)).2 c2
variable{ops:Array Oper}{rest:List Oper}{fr:Fr}{Q:Fr→St→Prop}{pp:String}{a:Array Edge}{g:Option (Nat×Bool)}{dst:Nat}
theorem aa.kN {ty:TypeId} {t1 t2 e:TypeId} {td:TypeDesc} {inf:TypeInfo} {xo yo:Operand} {aM:D→Fr} (hH:Has N S st H) (hg:aH ops fr ⟨some dst,.call ⟨.builtin .append,#[xo,yo],#[t1,t2]⟩,ty,pp,a,g⟩=some true) (hx:fr.ev xo=x) (hy:fr.ev yo=y) (hj:H[j]?=some (.deep ks x s vs)) (kU:Rows st s y ys) (hd:c7 (c7 (fx st ks)) ys Tw) (h1:P.cJ t1=some (.slice e)) (h2:P.cJ t2=some td) (h3:hO td=false) (h4:P.info e=some inf) (h5:dG P e=some z) (h6:inf.size=s) (h7:z.length=s) (h8:0<inf.bytes∧inf.bytes≤1024) (hp:∀x',fr.put dst x'=aM x') (hb:vs.length+ys.length≤1073741824) (hw:S.flr≤N∨refs ys.flatten=0) (h:∀x' ai,Has N S ai (H.set j (.deep ks x' s (vs++Tw)))→aa P ops rest (aM x') ai Q):
  aa P ops (⟨some dst,.call ⟨.builtin .append,#[xo,yo],#[t1,t2]⟩,ty,pp,a,g⟩::rest) fr st Q:=by
 obtain⟨x',ai,q1,q2⟩:=hH.kN hj kU hd h1 h2 h3 h4 h5 h6 h7 h8 hb hw;refine aa.go hg rfl (d:=x') (st1:=ai) ?_ (hp _) (h x' ai q2);simp only[ef,ο,JE,hx,hy];exact q1
variable{n:Nat}
theorem Has.kb (hH:Has N S st H) (hj:H[j]?=some (.deep ks x s vs)) (hn:4≤n):bn st N false (n+1) x=some (.sl (vs.map (jR s))):=by
 obtain⟨n,rfl⟩:∃m,n=m+4:=⟨n-4,by omega⟩
 obtain⟨⟨es,h1,h2⟩,h3⟩:=(hH.ok j _ hj).1;have hK:=(hH.ok j _ hj).2
 cases h1 with
 |nul=>cases h2;rfl
 |win k aG off es c hm hl hc he=>
  have hk:=hK k (.inl (by simp only[ω]));show(if k<N then some (D.win k aG off es.length s) else fu st N (n+4) (.win k aG off es.length s))=_;rw[if_neg (show¬k<N by omega),fu];simp only[if_neg (show¬k<N by omega),St.mem_of hm,γ];rw[if_pos hl,hc,ux (fun a b hab=>hab.pure (fun k hk=>(hK k (.inr hk)).1) (n+1)) h2.flat];simp only[δ];rw[h2.len,hU (h2.each he)]
theorem Has.ra (hH:Has N S st H) (hj:H[j]?=some (.aO x s es)) (hp:∀e∈es,∀d∈e,cv d=true) (hn:3≤n):bn st N false n x=some (.sl (es.map (jR s))):=by
 obtain⟨n,rfl⟩:∃m,n=m+1:=⟨n-1,by omega⟩
 exact hH.freeze hj hp (by omega)
variable{k aG:Nat}{ar:Bool}{c:List D}
theorem Has.l_ {a off:Nat} {t:TypeId} (hH:Has N S st H) (ha:fr.get a=.ptr k aG off) (hj:H[j]?=some (.box k (.mem aG ar c))) (hd:dW P t (c.drop off)=some d):kz P fr st [.cell a t]=some [d]:=by
 simp only[kz,gO,ha,St.mem_of (hH.at hj),γ,hd,δ]
theorem iB.cells (h:iB st s x es):x.cells?=some [x]:=by cases h<;>rfl
theorem Has.sZ (hH:Has N S st H) (hj:H[j]?=some (.deep ks x s vs)):x.cells?=some [x]:=by
 obtain⟨⟨es,h1,_⟩,_⟩:=(hH.ok j _ hj).1;exact h1.cells
theorem Has.eJ (hH:Has N S st H) (hj:H[j]?=some (.aO x s es)):x.cells?=some [x]:=(hH.own hj).cells
def Ah (fr:Fr):List (Nat×Operand)→List (Nat×D)→Prop
 |[],[]=>True
 |(i,o)::ps,(j,d)::qs=>i=j∧fr.ev o=d∧d.cells?=some [d]∧Ah fr ps qs
 |_,_=>False
theorem uM {fr:Fr} {pl:Nat→Option (Nat×Nat)}:∀{ps:List (Nat×Operand)} {qs:List (Nat×D)} {z:List D},Ah fr ps qs→(∀q∈qs,pl q.1=some (q.1,1)∧q.1<z.length)→ie pl z (ps.map fun p=>(p.1,fr.ev p.2))=some (qs.foldl (fun l q=>l.set q.1 q.2) z)
 |[],[],z,_,_=>rfl
 |(i,o)::ps,(j,d)::qs,z,h,hp=>by
  obtain⟨rfl,h2,h3,h4⟩:=h;obtain⟨h5,h6⟩:=hp (i,d) (κ ..);simp only[ο,ie,h2,h3,h5,List.foldl_cons];rw[if_neg (by simp only[ξ,Jd];simp only at h6;omega)];simp only[setMany]
  exact uM h4 fun q hq=>by
   have:=hp q (μ _ hq)
   simpa using this
 |[],_::_,_,h,_=>h.elim
 |_::_,[],_,h,_=>h.elim
variable{aM:Fr}
theorem aa.gK {ty:TypeId} {t:TypeId} {parts:Array (Nat×Operand)} {cs:List D} {fields:Array Field} {ps:List (Nat×Nat)} {qs:List (Nat×D)} (hg:aH ops fr ⟨some dst,.build t parts,ty,pp,a,g⟩=some true) (hz:dG P t=some z) (hu:P.cJ t=some (.struct fields)) (Bo:mb P fields.toList=some ps) (he:Ah fr parts.toList qs) (ib:∀q∈qs,ps[q.1]?=some (q.1,1)∧q.1<z.length) (iy:qs.foldl (fun l q=>l.set q.1 q.2) z=cs) (hp:fr.put dst (.agg cs)=aM) (h:aa P ops rest aM st Q):aa P ops (⟨some dst,.build t parts,ty,pp,a,g⟩::rest) fr st Q:=by
 refine aa.go hg rfl (d:=.agg cs) (st1:=st) ?_ hp h;simp only[ef,po,hz,hu,Bo];rw[uM (pl:=fun i=>ps[i]?) he ib,iy];rfl
theorem aa.EV {ty:TypeId} {t e:TypeId} {aM:Nat→Fr} (hH:Has N S st H) (hg:aH ops fr ⟨some dst,.buildSlice t 0 #[],ty,pp,a,g⟩=some true) (ht:P.cJ t=some (.slice e)) (hs:cB P e=some s) (hz:dG P e=some z) (lg:z.length=s) (hp:∀k,fr.put dst (.win k 0 0 0 s)=aM k) (h:∀k ai,S.bs.length≤k→Has N S ai (.aO (.win k 0 0 0 s) s []::H)→aa P ops rest (aM k) ai Q):aa P ops (⟨some dst,.buildSlice t 0 #[],ty,pp,a,g⟩::rest) fr st Q:=
 aa.NJ (vs:=[]) hH hg ht hs hz lg (by omega) trivial rfl (fun v hv=>by cases hv) hp h
theorem Has.lB {a off u:Nat} {t:TypeId} {e:D} (hH:Has N S st H) (ha:fr.get a=.ptr k aG off) (hj:H[j]?=some (.box k (.mem aG ar c))) (hd:dW P t (c.drop off)=some d) (he:fr.get u=e):kz P fr st [.cell a t,.tmp u]=some [d,e]:=by
 simp only[kz,gO,ha,St.mem_of (hH.at hj),γ,hd,δ,he]
theorem aa.MV {ty:TypeId} {t e:TypeId} {xo io:Operand} {v off m o:Nat} {kk:IntKind} (hg:aH ops fr ⟨some dst,.indexAddr t xo io,ty,pp,a,g⟩=some true) (hx:fr.ev xo=.ptr k v off) (hi:fr.ev io=.int kk (i:Nat)) (ht:P.cJ t=some (.array m e)) (hs:cB P e=some s) (hlt:i<m) (ho:off+i*s=o) (hp:fr.put dst (.ptr k v o)=aM) (h:aa P ops rest aM st Q):aa P ops (⟨some dst,.indexAddr t xo io,ty,pp,a,g⟩::rest) fr st Q:=by
 subst ho;refine aa.go hg rfl (d:=.ptr k v (off+i*s)) (st1:=st) ?_ hp h;simp only[ef,hx,hi,cm,ht,hs,γ];rw[if_pos ⟨by omega,by omega⟩];rfl
end Go.V
namespace Go.V
variable{P:Pv} {ops:Array Oper} {rest:List Oper} {fr aM:Fr} {st st1:St} {Q:Fr→St→Prop} {ty:TypeId} {pp:String} {a:Array Edge} {g:Option (Nat×Bool)} {dst:Nat} {N:Nat} {S:St} {H:List bJ} {d:D} {op:Op}
theorem qm {op:Op} {x:Operand} {d:D} (h:aa P ops rest aM st Q) (gv:op=.move x∨op=.assign x:=by first|exact .inl rfl|exact .inr rfl) (hg:aH ops fr ⟨some dst,op,ty,pp,a,g⟩=some true:=by exact rfl) (hx:fr.ev x=d:=by exact ev rfl) (hp:fr.put dst d=aM:=by first|exact ae rfl _|(dsimp only[Fr.put,List.set_cons_succ,List.set_cons_zero]<;>rfl)):aa P ops (⟨some dst,op,ty,pp,a,g⟩::rest) fr st Q:=
 aa.mv (gv:=gv) (hg:=hg) (hx:=hx) (hp:=hp) (h:=h)
theorem qs {op:Op} (h:aa P ops rest aM st Q) (hg:aH ops fr ⟨some dst,op,ty,pp,a,g⟩=some false:=by exact rfl) (hp:fr.put dst (.tup [])=aM:=by first|exact ae rfl _|(dsimp only[Fr.put,List.set_cons_succ,List.set_cons_zero]<;>rfl)):aa P ops (⟨some dst,op,ty,pp,a,g⟩::rest) fr st Q:=
 aa.skip (hg:=hg) (hp:=hp) (h:=h)
variable{k aG o f fo m:Nat}{fields:Array Field}
theorem qp {t:TypeId} {xo:Operand} {off:Nat} (h:aa P ops rest aM st Q) (hg:aH ops fr ⟨some dst,.fieldAddr t xo f,ty,pp,a,g⟩=some true:=by exact rfl) (hx:fr.ev xo=.ptr k aG off:=by exact ev rfl) (ht:P.cJ t=some (.struct fields):=by exact rfl) (hf:mZ P fields f=some (fo,some (m+1)):=by exact rfl) (ho:off+fo=o:=by exact rfl) (hp:fr.put dst (.ptr k aG o)=aM:=by first|exact ae rfl _|(dsimp only[Fr.put,List.set_cons_succ,List.set_cons_zero]<;>rfl)):aa P ops (⟨some dst,.fieldAddr t xo f,ty,pp,a,g⟩::rest) fr st Q:=
 aa.Q7 (hg:=hg) (hx:=hx) (ht:=ht) (hf:=hf) (ho:=ho) (hp:=hp) (h:=h)
variable{j:Nat}{ar:Bool}{ao:Operand}
theorem ql {off:Nat} {c:List D} {d:D} {t:TypeId} (hH:Has N S st H) (hj:H[j]?=some (.box k (.mem aG ar c))) (h:aa P ops rest aM st Q) (hg:aH ops fr ⟨some dst,.load t ao,ty,pp,a,g⟩=some true:=by exact rfl) (ha:fr.ev ao=.ptr k aG off:=by exact ev rfl) (hd:dW P t (c.drop off)=some d:=by exact rfl) (hp:fr.put dst d=aM:=by first|exact ae rfl _|(dsimp only[Fr.put,List.set_cons_succ,List.set_cons_zero]<;>rfl)):aa P ops (⟨some dst,.load t ao,ty,pp,a,g⟩::rest) fr st Q:=
 aa.uG (hH:=hH) (hg:=hg) (ha:=ha) (hj:=hj) (hd:=hd) (hp:=hp) (h:=h)
theorem qg {op:Op} {d:D} {st1:St} (h:aa P ops rest aM st1 Q) (hg:aH ops fr ⟨some dst,op,ty,pp,a,g⟩=some true:=by exact rfl) (hc:i7 op=false:=by exact rfl) (h1:ef P fr st op ty=some (d,st1):=by exact rfl) (hp:fr.put dst d=aM:=by first|exact ae rfl _|(dsimp only[Fr.put,List.set_cons_succ,List.set_cons_zero]<;>rfl)):aa P ops (⟨some dst,op,ty,pp,a,g⟩::rest) fr st Q:=
 aa.go (hg:=hg) (hc:=hc) (h1:=h1) (hp:=hp) (h:=h)
variable{x:D}{s:Nat}{es:List (List D)}
theorem qn {t e:TypeId} {xo:Operand} (h:aa P ops rest aM st Q) (hg:aH ops fr ⟨some dst,.call ⟨.builtin .len,#[xo],#[t]⟩,ty,pp,a,g⟩=some true:=by exact rfl) (hx:fr.ev xo=x:=by exact ev rfl) (hR:Rows st s x es:=by exact Arg.rows (by assumption) (by assumption)) (ht:P.cJ t=some (.slice e):=by exact rfl) (hp:fr.put dst (.int .i64 (es.length:Nat))=aM:=by first|exact ae rfl _|(dsimp only[Fr.put,List.set_cons_succ,List.set_cons_zero]<;>rfl)):aa P ops (⟨some dst,.call ⟨.builtin .len,#[xo],#[t]⟩,ty,pp,a,g⟩::rest) fr st Q:=
 aa.Q0 (hg:=hg) (hx:=hx) (hR:=hR) (ht:=ht) (hp:=hp) (h:=h)
variable{io:Operand}{i:Nat}{kk:IntKind}{r:List D}
theorem qr {t e:TypeId} {xo:Operand} {aM:D→Fr} (h:∀p,jN st p r→aa P ops rest (aM p) st Q) (hg:aH ops fr ⟨some dst,.indexAddr t xo io,ty,pp,a,g⟩=some true:=by exact rfl) (hx:fr.ev xo=x:=by exact ev rfl) (hi:fr.ev io=.int kk (i:Nat):=by exact ev rfl) (hR:Rows st s x es:=by exact Arg.rows (by assumption) (by assumption)) (ht:P.cJ t=some (.slice e):=by exact rfl) (hs:cB P e=some s:=by exact rfl) (hr:es[i]?=some r:=by assumption) (hp:∀p,fr.put dst p=aM p:=by first|exact fun _=>ae rfl _|exact fun _=>by dsimp only[Fr.put,List.set_cons_succ,List.set_cons_zero]<;>rfl):aa P ops (⟨some dst,.indexAddr t xo io,ty,pp,a,g⟩::rest) fr st Q:=
 aa.TW (hg:=hg) (hx:=hx) (hi:=hi) (hR:=hR) (ht:=ht) (hs:=hs) (hr:=hr) (hp:=hp) (h:=h)
theorem qR {t:TypeId} {d:D} (h:aa P ops rest aM st Q) (hg:aH ops fr ⟨some dst,.load t ao,ty,pp,a,g⟩=some true:=by exact rfl) (ha:fr.ev ao=x:=by exact ev rfl) (hR:jN st x r:=by assumption) (hd:dW P t r=some d:=by exact rfl) (hp:fr.put dst d=aM:=by first|exact ae rfl _|(dsimp only[Fr.put,List.set_cons_succ,List.set_cons_zero]<;>rfl)):aa P ops (⟨some dst,.load t ao,ty,pp,a,g⟩::rest) fr st Q:=
 aa.DQ (hg:=hg) (ha:=ha) (hR:=hR) (hd:=hd) (hp:=hp) (h:=h)
theorem qf {t:TypeId} {xo:Operand} {aM:D→Fr} (h:∀p,jN st p (r.drop fo)→aa P ops rest (aM p) st Q) (hg:aH ops fr ⟨some dst,.fieldAddr t xo f,ty,pp,a,g⟩=some true:=by exact rfl) (hx:fr.ev xo=x:=by exact ev rfl) (hR:jN st x r:=by assumption) (ht:P.cJ t=some (.struct fields):=by exact rfl) (hf:mZ P fields f=some (fo,some (m+1)):=by exact rfl) (hp:∀p,fr.put dst p=aM p:=by first|exact fun _=>ae rfl _|exact fun _=>by dsimp only[Fr.put,List.set_cons_succ,List.set_cons_zero]<;>rfl):aa P ops (⟨some dst,.fieldAddr t xo f,ty,pp,a,g⟩::rest) fr st Q:=
 aa.LL (hg:=hg) (hx:=hx) (hR:=hR) (ht:=ht) (hf:=hf) (hp:=hp) (h:=h)
theorem qi {t e:TypeId} {xo:Operand} {aM:D→Fr} (hH:Has N S st H) (hj:H[j]?=some (.aO x s es)) (h:∀p,qI x s i 0 p→aa P ops rest (aM p) st Q) (hg:aH ops fr ⟨some dst,.indexAddr t xo io,ty,pp,a,g⟩=some true:=by exact rfl) (hx:fr.ev xo=x:=by exact ev rfl) (hi:fr.ev io=.int kk (i:Nat):=by exact ev rfl) (ht:P.cJ t=some (.slice e):=by exact rfl) (hs:cB P e=some s:=by exact rfl) (hr:i<es.length:=by exact bC (by assumption)) (hp:∀p,fr.put dst p=aM p:=by first|exact fun _=>ae rfl _|exact fun _=>by dsimp only[Fr.put,List.set_cons_succ,List.set_cons_zero]<;>rfl):aa P ops (⟨some dst,.indexAddr t xo io,ty,pp,a,g⟩::rest) fr st Q:=
 aa.XC (hH:=hH) (hg:=hg) (hx:=hx) (hi:=hi) (hj:=hj) (ht:=ht) (hs:=hs) (hr:=hr) (hp:=hp) (h:=h)
variable{y:D}
theorem qo {t:TypeId} {d:D} (hH:Has N S st H) (hj:H[j]?=some (.aO x s es)) (h:aa P ops rest aM st Q) (hg:aH ops fr ⟨some dst,.load t ao,ty,pp,a,g⟩=some true:=by exact rfl) (ha:fr.ev ao=y:=by exact ev rfl) (hR:qI x s i o y:=by assumption) (hr:es[i]?=some r:=by assumption) (hd:dW P t (r.drop o)=some d:=by exact rfl) (hp:fr.put dst d=aM:=by first|exact ae rfl _|(dsimp only[Fr.put,List.set_cons_succ,List.set_cons_zero]<;>rfl)):aa P ops (⟨some dst,.load t ao,ty,pp,a,g⟩::rest) fr st Q:=
 aa.Nt (hH:=hH) (hg:=hg) (ha:=ha) (hR:=hR) (hj:=hj) (hr:=hr) (hd:=hd) (hp:=hp) (h:=h)
variable{vo:Operand}
theorem qS {c cs:List D} {v:D} {t:TypeId} (hH:Has N S st H) (hj:H[j]?=some (.box k (.mem aG ar c))) (h:∀ai,Has N S ai (H.set j (.box k (.mem aG ar cs)))→aa P ops rest fr ai Q) (hg:aH ops fr ⟨none,.store t ao vo,ty,pp,a,g⟩=some true:=by exact rfl) (ha:fr.ev ao=.ptr k aG 0:=by exact ev rfl) (hv:fr.ev vo=v:=by exact ev rfl) (iy:v.cells?=some cs:=by first|rfl|exact(dr.cells (by assumption)).1) (hs:cB P t=some cs.length:=by exact rfl) (hl:cs.length=c.length:=by exact rfl) (hw:S.flr≤N∨refs cs=0:=by first|exact .inl (by assumption)|exact .inr rfl):aa P ops (⟨none,.store t ao vo,ty,pp,a,g⟩::rest) fr st Q:=
 aa.vT (hH:=hH) (hg:=hg) (ha:=ha) (hv:=hv) (iy:=iy) (hs:=hs) (hj:=hj) (hl:=hl) (hw:=hw) (h:=h)
theorem qT {off:Nat} {c cs:List D} {v:D} {t:TypeId} (hH:Has N S st H) (hj:H[j]?=some (.box k (.mem aG ar c))) (h:∀ai,Has N S ai (H.set j (.box k (.mem aG ar (setMany c off cs))))→aa P ops rest fr ai Q) (hg:aH ops fr ⟨none,.store t ao vo,ty,pp,a,g⟩=some true:=by exact rfl) (ha:fr.ev ao=.ptr k aG off:=by exact ev rfl) (hv:fr.ev vo=v:=by exact ev rfl) (iy:v.cells?=some cs:=by first|rfl|exact(dr.cells (by assumption)).1) (hs:cB P t=some cs.length:=by exact rfl) (hl:off+cs.length≤c.length:=by exact Nat.le_of_ble_eq_true rfl) (hw:S.flr≤N∨refs cs=0:=by first|exact .inl (by assumption)|exact .inr rfl):aa P ops (⟨none,.store t ao vo,ty,pp,a,g⟩::rest) fr st Q:=
 aa.mU (hH:=hH) (hg:=hg) (ha:=ha) (hv:=hv) (iy:=iy) (hs:=hs) (hj:=hj) (hl:=hl) (hw:=hw) (h:=h)
theorem qa {e:TypeId} {cs:List D} {aM:Nat→Fr} (hH:Has N S st H) (h:∀k ai,S.bs.length≤k→Has N S ai (.box k (.mem 0 false cs)::H)→aa P ops rest (aM k) ai Q) (hg:aH ops fr ⟨some dst,.alloc e,ty,pp,a,g⟩=some true:=by exact rfl) (hz:dG P e=some cs:=by exact rfl) (hp:∀k,fr.put dst (.ptr k 0 0)=aM k:=by first|exact fun _=>ae rfl _|exact fun _=>by dsimp only[Fr.put,List.set_cons_succ,List.set_cons_zero]<;>rfl):aa P ops (⟨some dst,.alloc e,ty,pp,a,g⟩::rest) fr st Q:=
 aa.Sq (hH:=hH) (hg:=hg) (hz:=hz) (hp:=hp) (h:=h)
theorem qb {e:TypeId} {xo:Operand} {cs:List D} {aM:Nat→Fr} (hH:Has N S st H) (h:∀k ai,S.bs.length≤k→Has N S ai (.box k (.mem 0 false cs)::H)→aa P ops rest (aM k) ai Q) (hg:aH ops fr ⟨some dst,.box e xo,ty,pp,a,g⟩=some true:=by exact rfl) (hz:(fr.ev xo).cells?=some cs:=by exact rfl) (hp:∀k,fr.put dst (.ptr k 0 0)=aM k:=by first|exact fun _=>ae rfl _|exact fun _=>by dsimp only[Fr.put,List.set_cons_succ,List.set_cons_zero]<;>rfl):aa P ops (⟨some dst,.box e xo,ty,pp,a,g⟩::rest) fr st Q:=
 aa.CH (hH:=hH) (hg:=hg) (hz:=hz) (hp:=hp) (h:=h)
variable{yo:Operand}
theorem qA {t nv:TypeId} {xo:Operand} {x y:Int} (h:aa P ops rest aM st Q) (hg:aH ops fr ⟨some dst,.binOp .add t xo yo nv,ty,pp,a,g⟩=some true:=by exact rfl) (hx:fr.ev xo=.int .i64 x:=by exact ev rfl) (hy:fr.ev yo=.int .i64 y:=by exact ev rfl) (h1:-9223372036854775808≤x+y:=by omega) (h2:x+y≤9223372036854775807:=by omega) (hp:fr.put dst (.int .i64 (x+y))=aM:=by first|exact ae rfl _|(dsimp only[Fr.put,List.set_cons_succ,List.set_cons_zero]<;>rfl)):aa P ops (⟨some dst,.binOp .add t xo yo nv,ty,pp,a,g⟩::rest) fr st Q:=
 aa.SR (hg:=hg) (hx:=hx) (hy:=hy) (h1:=h1) (h2:=h2) (hp:=hp) (h:=h)
variable{z:List D}
theorem qP {ys:List (List D)} {t1 t2 e:TypeId} {td:TypeDesc} {inf:TypeInfo} {xo:Operand} {aM:D→Fr} (hH:Has N S st H) (hj:H[j]?=some (.aO x s es)) (kU:Rows st s y ys) (h:∀x' ai,Has N S ai (H.set j (.aO x' s (es++ys)))→aa P ops rest (aM x') ai Q) (hg:aH ops fr ⟨some dst,.call ⟨.builtin .append,#[xo,yo],#[t1,t2]⟩,ty,pp,a,g⟩=some true:=by exact rfl) (hx:fr.ev xo=x:=by exact ev rfl) (hy:fr.ev yo=y:=by exact ev rfl) (h1:P.cJ t1=some (.slice e):=by exact rfl) (h2:P.cJ t2=some td:=by exact rfl) (h3:hO td=false:=by exact rfl) (h4:P.info e=some inf:=by exact rfl) (h5:dG P e=some z:=by exact rfl) (h6:inf.size=s:=by exact rfl) (h7:z.length=s:=by exact rfl) (h8:0<inf.bytes∧inf.bytes≤1024:=by exact⟨Nat.le_of_ble_eq_true rfl,Nat.le_of_ble_eq_true rfl⟩) (hp:∀x',fr.put dst x'=aM x':=by first|exact fun _=>ae rfl _|exact fun _=>by dsimp only[Fr.put,List.set_cons_succ,List.set_cons_zero]<;>rfl) (hb:es.length+ys.length≤1073741824:=by first|omega|(simp only[List.length_append,List.length_cons,List.length_nil,List.length_map,List.length_replicate,List.length_set,List.length_reverse]<;>omega)) (hw:S.flr≤N∨refs ys.flatten=0:=by first|exact .inl (by assumption)|exact .inr rfl):aa P ops (⟨some dst,.call ⟨.builtin .append,#[xo,yo],#[t1,t2]⟩,ty,pp,a,g⟩::rest) fr st Q:=
 aa.bL (hH:=hH) (hg:=hg) (hx:=hx) (hy:=hy) (hj:=hj) (kU:=kU) (h1:=h1) (h2:=h2) (h3:=h3) (h4:=h4) (h5:=h5) (h6:=h6) (h7:=h7) (h8:=h8) (hp:=hp) (hb:=hb) (hw:=hw) (h:=h)
theorem qh {t e:TypeId} {parts:Array (Nat×Operand)} {vs:List D} {aM:Nat→Fr} (hH:Has N S st H) (h:∀k ai,S.bs.length≤k→Has N S ai (.aO (.win k 0 0 m s) s (vs.map K')::H)→aa P ops rest (aM k) ai Q) (hg:aH ops fr ⟨some dst,.buildSlice t m parts,ty,pp,a,g⟩=some true:=by exact rfl) (ht:P.cJ t=some (.slice e):=by exact rfl) (hs:cB P e=some s:=by exact rfl) (hz:dG P e=some z:=by exact rfl) (lg:z.length=s:=by exact rfl) (hm:m*s≤16777216:=by exact Nat.le_of_ble_eq_true rfl) (WN:BC fr 0 parts.toList vs:=by first|exact⟨rfl,ev rfl,trivial⟩|exact⟨rfl,ev rfl,rfl,ev rfl,trivial⟩|exact⟨rfl,ev rfl,rfl,ev rfl,rfl,ev rfl,trivial⟩|exact⟨rfl,ev rfl,rfl,ev rfl,rfl,ev rfl,rfl,ev rfl,trivial⟩|exact⟨rfl,ev rfl,rfl,ev rfl,rfl,ev rfl,rfl,ev rfl,rfl,ev rfl,trivial⟩) (Uo:vs.length=m:=by exact rfl) (hc:∀v∈vs,v.cells?=some v.cells∧v.cells.length=s:=by intro v hv;simp only[List.mem_cons,List.not_mem_nil,or_false] at hv;first|(subst hv;exact⟨rfl,rfl⟩)|(rcases hv with rfl|rfl<;>exact⟨rfl,rfl⟩)|(rcases hv with rfl|rfl|rfl<;>exact⟨rfl,rfl⟩)|(rcases hv with rfl|rfl|rfl|rfl<;>exact⟨rfl,rfl⟩)|(rcases hv with rfl|rfl|rfl|rfl|rfl<;>exact⟨rfl,rfl⟩)) (hp:∀k,fr.put dst (.win k 0 0 m s)=aM k:=by first|exact fun _=>ae rfl _|exact fun _=>by dsimp only[Fr.put,List.set_cons_succ,List.set_cons_zero]<;>rfl):aa P ops (⟨some dst,.buildSlice t m parts,ty,pp,a,g⟩::rest) fr st Q:=
 aa.NJ (hH:=hH) (hg:=hg) (ht:=ht) (hs:=hs) (hz:=hz) (lg:=lg) (hm:=hm) (WN:=WN) (Uo:=Uo) (hc:=hc) (hp:=hp) (h:=h)
theorem qv {f:Operand} {gn:Nat} {jL:List D} {args:Array Operand} {wQ:Array TypeId} {d:D} {st1:St} (h1:Ev P gn (args.toList.map fr.ev++jL) st d st1) (h:aa P ops rest aM st1 Q) (hg:aH ops fr ⟨some dst,.call ⟨.value f,args,wQ⟩,ty,pp,a,g⟩=some true:=by exact rfl) (hf:fr.ev f=.fn gn jL:=by exact rfl) (hp:fr.put dst d=aM:=by first|exact ae rfl _|(dsimp only[Fr.put,List.set_cons_succ,List.set_cons_zero]<;>rfl)):aa P ops (⟨some dst,.call ⟨.value f,args,wQ⟩,ty,pp,a,g⟩::rest) fr st Q:=
 aa.ju (hg:=hg) (hf:=hf) (h1:=h1) (hp:=hp) (h:=h)
variable{c:Operand}{v:Bool}
theorem qt {x y:Operand} (hv:v=true) (h:aa P ops rest aM st Q) (hg:aH ops fr ⟨some dst,.pick c x y,ty,pp,a,g⟩=some true:=by exact rfl) (hc:fr.ev c=.bool v:=by exact rfl) (hp:fr.put dst (fr.ev x)=aM:=by first|exact ae rfl _|(dsimp only[Fr.put,List.set_cons_succ,List.set_cons_zero]<;>rfl)):aa P ops (⟨some dst,.pick c x y,ty,pp,a,g⟩::rest) fr st Q:=
 aa.dI (hg:=hg) (hc:=hc) (hv:=hv) (hp:=hp) (h:=h)
theorem qu {x y:Operand} (hv:v=false) (h:aa P ops rest aM st Q) (hg:aH ops fr ⟨some dst,.pick c x y,ty,pp,a,g⟩=some true:=by exact rfl) (hc:fr.ev c=.bool v:=by exact rfl) (hp:fr.put dst (fr.ev y)=aM:=by first|exact ae rfl _|(dsimp only[Fr.put,List.set_cons_succ,List.set_cons_zero]<;>rfl)):aa P ops (⟨some dst,.pick c x y,ty,pp,a,g⟩::rest) fr st Q:=
 aa.de (hg:=hg) (hc:=hc) (hv:=hv) (hp:=hp) (h:=h)
variable{t:Nat}{w:Bool}
theorem wi {ops:Array Oper} {fr:Fr} {o:Oper} (h4:v=w) (h1:o.guard=some (j,w):=by exact rfl) (h2:(ops[j]?).bind (·.dst)=some t:=by exact rfl) (h3:fr.get t=.bool v:=by exact rfl):aH ops fr o=some true:=aq h1 h2 h3 h4
theorem wn {ops:Array Oper} {fr:Fr} {o:Oper} (h4:v=!w) (h1:o.guard=some (j,w):=by exact rfl) (h2:(ops[j]?).bind (·.dst)=some t:=by exact rfl) (h3:fr.get t=.bool v:=by exact rfl):aH ops fr o=some false:=BR h1 h2 h3 h4
variable{dy:Dy}{b:Code}
theorem qc {a:Code} {Q:Out→Fr→St→Prop} (h1:v=true→ab P dy a fr st Q) (h2:v=false→ab P dy b fr st Q) (hv:fr.ev c=.bool v:=by first|rfl|assumption):ab P dy (.cond c a b) fr st Q:=ab.cond hv h1 h2
theorem qq {a:Code} {Q:Out→Fr→St→Prop} (h:ab P dy a fr st (bj P dy b Q)):ab P dy (.seq a b) fr st Q:=ab.seq h
variable{n:Nat}{loc:List D}{tmp:List (Nat×D)}
theorem qj {l:List Oper} {d:Bool} {Q:Out→Fr→St→Prop} (h:∀K:Out→Fr→St→Prop,Q=K→aa P l.toArray l ⟨n,loc,[]⟩ st (K .next)) (h0:g_ i dy=[]:=by rfl):ab P dy (.region i l.toArray d) ⟨n,loc,tmp⟩ st Q:=ab.cH (h Q rfl) h0
theorem qe {Q K:Out→Fr→St→Prop} (hK:Q=K) (h:Q .next fr st):aa P ops [] fr st (K .next):=aa.nil (hK▸h)
theorem qB {a:Code} {Q:Out→Fr→St→Prop} (h1:ab P dy a fr st Q) (hv:fr.ev c=.bool true:=by first|rfl|assumption):ab P dy (.cond c a b) fr st Q:=ab.cond hv (fun _=>h1) (fun h=>by cases h)
theorem qC {a:Code} {Q:Out→Fr→St→Prop} (h1:ab P dy b fr st Q) (hv:fr.ev c=.bool false:=by first|rfl|assumption):ab P dy (.cond c a b) fr st Q:=ab.cond hv (fun h=>by cases h) (fun _=>h1)
theorem qD {a:Code} {Q:Out→Fr→St→Prop} (hv:fr.ev c=.bool v) (hb:v=true) (h1:ab P dy a fr st Q):ab P dy (.cond c a b) fr st Q:=ab.cond hv (fun _=>h1) (fun h=>by rw[hb] at h;cases h)
theorem qE {a:Code} {Q:Out→Fr→St→Prop} (hv:fr.ev c=.bool v) (hb:v=false) (h1:ab P dy b fr st Q):ab P dy (.cond c a b) fr st Q:=ab.cond hv (fun h=>by rw[hb] at h;cases h) (fun _=>h1)
theorem rx:∀i:Nat,Out.ret≠Out.exit i:=fun i h=>by cases h
theorem rl {S:St} {H:List bJ} {kn:Bool} {st1:St} {d d':D} (hS:S.bs=st.bs) (hH:Has st.bs.length S st1 H) (hd:bn st1 st.bs.length kn 16 d=some d'):c_ .ro kn st st1 d=some (d',st):=EC (by simp) hS hH hd
theorem ri (s0:St):(ah .ro s0).bs=s0.bs∧(ah .ro s0).flr≤s0.bs.length∧Has s0.bs.length (ah .ro s0) (ah .ro s0) []:=⟨rfl,τ _,Has.start (τ _) (τ _)⟩
theorem w1 {α:Type} {a:α}:KJ (n+1) a=a::KJ n a:=rfl
theorem w2 {α:Type} {a:α}:KJ 0 a=[]:=rfl
theorem qy {a:Code} {Q:Out→Fr→St→Prop} (h:ab P dy a fr st Q):ab P dy a fr st Q:=h
theorem u1 {α:Type} {x:α} {l:List α} {a:α}:(x::l).set (n+1) a=x::l.set n a:=rfl
theorem u2 {α:Type} {x:α} {l:List α} {a:α}:(x::l).set 0 a=a::l:=rfl
theorem u3 {α:Type} {x:α} {l m:List α}:(x::l)++m=x::(l++m):=rfl
theorem u4 {α:Type} {m:List α}:([]:List α)++m=m:=rfl
theorem u5 {α β:Type} {f:α→β} {x:α} {l:List α}:(x::l).map f=f x::l.map f:=rfl
theorem u6 {α β:Type} {f:α→β}:([]:List α).map f=[]:=rfl
theorem v1 (k:IntKind) (n:Int):kR (.int k n)=.int k n:=rfl
theorem v2 (b:Bool):kR (.bool b)=.bool b:=rfl
theorem v3 (s:ByteArray):kR (.string s)=.str s.data.toList:=rfl
theorem v4:kR (.slice none 0 0)=.nul:=rfl
theorem v5:kR (.pointer none)=.pnil:=rfl
theorem v6:kR .nilFunc=.nilfn:=rfl
theorem v7:kR .nilIface=.nilif:=rfl
theorem cs:(∀(p:Prop) [Decidable p],(decide p=true)=p)∧(∀(p:Prop) [Decidable p],(decide p=false)=¬p)∧(∀(α:Type) [BEq α] [LawfulBEq α] (a b:α),((a==b)=true)=(a=b))∧(∀(α:Type) [BEq α] [LawfulBEq α] (a b:α),((a==b)=false)=¬a=b)∧(∀(α:Type) [BEq α] [LawfulBEq α] (a b:α),((a !=b)=true)=¬a=b)∧(∀(α:Type) [BEq α] [LawfulBEq α] (a b:α),((a !=b)=false)=(a=b))∧(∀b:Bool,((!b)=true)=(b=false))∧(∀b:Bool,((!b)=false)=(b=true))∧(∀b:Bool,(¬b=true)=(b=false))∧(∀b:Bool,(¬b=false)=(b=true)):=by
 refine⟨fun p _=>by simp,fun p _=>by simp,fun α _ _ a b=>by simp,fun α _ _ a b=>by simp,fun α _ _ a b=>by simp,fun α _ _ a b=>by simp,fun b=>by simp,fun b=>by simp,fun b=>by simp,fun b=>by simp⟩
theorem xT (h:aa P ops rest ⟨n,loc,(t,d)::tmp⟩ st1 Q) (hb:υ n t=true:=by exact rfl) (hg:aH ops ⟨n,loc,tmp⟩ ⟨some t,op,ty,pp,a,g⟩=some true:=by exact rfl) (hc:i7 op=false:=by exact rfl) (h1:ef P ⟨n,loc,tmp⟩ st op ty=some (d,st1):=by exact rfl):aa P ops (⟨some t,op,ty,pp,a,g⟩::rest) ⟨n,loc,tmp⟩ st Q:=aa.T hb hg hc h1 h
theorem xL (h:aa P ops rest ⟨n,loc.set t d,tmp⟩ st1 Q) (hb:υ n t=false:=by exact rfl) (hg:aH ops ⟨n,loc,tmp⟩ ⟨some t,op,ty,pp,a,g⟩=some true:=by exact rfl) (hc:i7 op=false:=by exact rfl) (h1:ef P ⟨n,loc,tmp⟩ st op ty=some (d,st1):=by exact rfl):aa P ops (⟨some t,op,ty,pp,a,g⟩::rest) ⟨n,loc,tmp⟩ st Q:=aa.L hb hg hc h1 h
theorem xN (h:aa P ops rest fr st1 Q) (hg:aH ops fr ⟨none,op,ty,pp,a,g⟩=some true:=by exact rfl) (hc:i7 op=false:=by exact rfl) (h1:ef P fr st op ty=some (d,st1):=by exact rfl):aa P ops (⟨none,op,ty,pp,a,g⟩::rest) fr st Q:=aa.N hg hc h1 h
theorem xo (h:aa P ops rest ⟨n,loc,(t,.tup [])::tmp⟩ st Q) (hb:υ n t=true:=by exact rfl) (hg:aH ops ⟨n,loc,tmp⟩ ⟨some t,op,ty,pp,a,g⟩=some false:=by exact rfl):aa P ops (⟨some t,op,ty,pp,a,g⟩::rest) ⟨n,loc,tmp⟩ st Q:=aa.XD hb hg h
theorem xp (h:aa P ops rest ⟨n,loc.set t (.tup []),tmp⟩ st Q) (hb:υ n t=false:=by exact rfl) (hg:aH ops ⟨n,loc,tmp⟩ ⟨some t,op,ty,pp,a,g⟩=some false:=by exact rfl):aa P ops (⟨some t,op,ty,pp,a,g⟩::rest) ⟨n,loc,tmp⟩ st Q:=aa.XE hb hg h
end Go.V
