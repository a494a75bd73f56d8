/-
 V is sound; no program in sight, no conditions.
-/
import Derived.Test.YtkbacjpologjbaaGreatWM1
import Derived.Orders
set_option linter.unusedSimpArgs false
set_option linter.unusedVariables false
set_option linter.unusedSectionVars false
set_option linter.unnecessarySimpa false
open Option renaming map_eq_some_iff→γ,bind_eq_some_iff→ε,bind_some→Ξ,map_some→Qa3,some→Qa4,getD_some→Qao
open Go.Result renaming andThen_ok→δ,ok→Qbg
open List renaming getElem?_eq_getElem→ζ,getElem?_set_ne→π,getElem?_append_left→τ,mem_of_getElem?→φ,getElem?_eq_none→ψ,getElem?_cons_zero→Δ,getElem?_set_self→v8,all_eq_true→GB,mem_cons_self→OF,getElem?_toArray→Pe,getD_eq_getElem?_getD→AT,mem_cons_of_mem→AI,getElem?_of_mem→Qa9,getElem?_append→Qah,mem_cons→Qal,getElem?_take→Qam,ext_getElem?→Qan,mem_range→Qat,range→Qau,getElem?_cons_succ→Qb0,length_eq_zero_iff→Qb1,mem_append_right→Qb3,mem_of_mem_drop→Qb8,map_congr_left→Qbb,toList_toArray→Qbc,getElem?_drop→Qbf,getElem?_map→Qbh,length_cons→Qbj,not_mem_nil→Qbk,mapM_cons→Qbr
open Nat renaming lt_or_ge→η,le_trans→θ,le_refl→μ,lt_of_lt_of_le→ξ,lt_trichotomy→wt,eq_of_beq_eq_true→BY,zero_le→Pd,le_max_right→Qa1,ble_eq_true_of_le→Qa7,le_of_ble_eq_true→Qa8,beq→Qaj,ble→Qb4,blt→Qb5,sub_zero→Qb6,succ_mul→Qb7,eq_or_lt_of_le→Qbi,not_lt_zero→Qbs,strongRecOn→Qbt,add_assoc→Qc0,add_comm→Qc2,zero_add→Qc3,mul_one→Qc6
open Go.Sem renaming run_bind→ι,run_pure→ν,run→Qav
open Array renaming getD_eq_getD_getElem?→κ,getElem?_setIfInBounds_self_of_lt→ο,getElem?_eq_getElem→ς,replicate→ω,getElem?_toList→Θ,getElem?_setIfInBounds_ne→IN,getElem?_eq_none→IT,getElem?_push→Qa0,size_setIfInBounds→Qa2,getElem?_modify→Qa5,length_toList→Qaa,getElem?_eq_some_iff→Qac,ext'→Qak,getElem?_replicate→Qaw,ext_getElem?→Qb9
open Bool renaming and_eq_true→ρ,false_eq_true→υ,or_eq_true→Qbl,false_or→Qbu,not_true→Qbv
open Go.Value renaming int→χ
open Go.V.Quiet renaming refl→Γ,push→Qas
open Go.V.Nx renaming same→Φ,still→Qc8
open Go.Builtin renaming zeroCells→Ψ,clear_→Qab,len_→Qax,firstCells→Qb2,max2→Qbm,min2→Qbn
open Go.Op renaming operands→Ω
open Go.Region renaming binds→IS,wanted→Qbp
open Go.V.D renaming ref→AN
open Go.Instr renaming findNow→Qa6,checkKey→Qag,findKey→Qai,mapUpdate→Qar,makeMap→Qay,lookup→Qaz,next→Qba,sureAddr→Qbo,sameNow→Qbq,loadAt→Qbw,range→Qbz
open Go.V.St renaming aB→Qad,push→Qaf,x→Qap
open Go.Utf8 renaming decode→Qae,encode→Qc4
open ByteArray renaming size→Qaq,ext→Qc7
open Go.Conv renaming bytesToString→Qbd,stringToBytes→Qbe
open Go.World renaming freeze→Qbx,shape?→Qby,alloc→Qc1,drew→Qc5
namespace Go.V
open Go.RowKit
theorem x6 {P:Program} {f:Value→ByteArray→Sem (ForInStep ByteArray)} (hf:∀n s w,(f (.int .u8 n) s).run P w=.ok (.yield (s.push (UInt8.ofNat n.toNat))) w):∀(cs:List D) (us:List Value) (bs:List UInt8) (acc:ByteArray) (w:World) (x:X),LR w x cs us→mr cs=some bs→
  (forIn us acc f).run P w=.ok (⟨acc.data++bs.toArray⟩) w
 |[],us,bs,acc,w,x,h,hb=>by
  cases us with
  |nil=>simp[mr] at hb;subst hb;simp
  |cons u us=>have:=h.len;simp at this
 |c::cs,us,bs,acc,w,x,h,hb=>by
  cases us with
  |nil=>have:=h.len;simp at this
  |cons u us=>
   unfold mr at hb
   split at hb
   ·rename_i heq;cases heq
   ·rename_i n l heq;cases heq;obtain⟨r,hr,rfl⟩:=γ.1 hb;have hu:=cZ (h.rel 0 _ u rfl rfl);subst hu
    have ht:LR w x cs us:=⟨by have:=h.len;simpa using this,fun v hv=>h.one v (AI _ hv),fun i c u hc hu=>h.rel (i+1) c u hc hu⟩
    have ih:=x6 hf cs us r (acc.push (UInt8.ofNat n.toNat)) w x ht hr;simp only[List.forIn_cons,ι,hf,δ];rw[ih]
    congr 1
    apply Qc7;simp
   ·cases hb
section
variable{pv:Pv} {P:Program} (ok:pv.Ok P)
include ok
def pB (pv:Pv) (s t:TypeId):Bool:=
 match pv.cy s,pv.cy t with
 |some (.slice _),some (.slice _)=>true
 |_,_=>false
omit ok in
theorem Lh {w:World} {st:St} {β:Nat→Option (Nat×Nat)} {Z:Nat→Prop} (h:iH w st β Z) {k aB:Nat} {ar:Bool} {c:List D} (hm:st.fX k aB=some (ar,c)) {b base:Nat} (hb:β k=some (b,base)) (db:st.ro≤k) (o:Nat):
  ∃w',(markStringish ⟨b,o,none⟩).run P w=.ok () w'∧Nx w st β Z w' st β Z:=by
 obtain⟨cs,el,fr,h1,h2,h3,h4⟩:=h.row hm hb;have hbl:b<w.heap.size:=h.lt k b base hb;have hsh:w.shape? b=some (el,cs.size):=by simp only[Qby,h1]
 refine⟨w.freeze ⟨b,cs.size,none⟩ 1,?_,?_⟩
 ·simp only[markStringish,ι,run_shape,hsh,δ,run_freeze]
 ·obtain⟨lo,hi⟩:=fr
  have hf:∃aG:Nat×Nat,tC cs.size aG∧w.freeze ⟨b,cs.size,none⟩ 1=wput w b (.cells cs el aG):=by
   refine⟨if lo==hi then(cs.size,cs.size+1) else(min lo cs.size,max hi (cs.size+1)),?_,?_⟩
   ·split
    ·exact⟨by simp,fun o ho=>by simp only;omega⟩
    ·rename_i hne;have hne:lo≠hi:=by simpa using hne
     have h5:=h3.1;have h6:=h3.2 lo;simp only at h5 h6;refine⟨by simp only;omega,fun o ho=>?_⟩;simp only;omega
   ·simp only[Qbx,wput,if_neg (show¬(1=0) by omega)]
    congr 1
    apply Qb9;intro j;rw[Qa5]
    by_cases hj:b=j
    ·subst hj;rw[if_pos rfl,h1,ο hbl];rfl
    ·rw[if_neg hj,IN hj]
  obtain⟨aG,eC,er⟩:=hf;have ic:=(dr hm).1;have hx:=Nx.GW (a':=ar) (oo:=aB) (c':=c) (dx:=base) h hm hb db (μ _) (fun _=>rfl) h1 eC rfl h2 h4
  have e1:(fun i=>if i=k then some (b,base) else β i)=β:=by
   funext i;split
   ·rename_i e;subst e;exact hb.symm
   ·rfl
  have e2:({st with bs:=st.bs.set k (.mem aB ar c)}:St)=st:=by
   obtain⟨bs,f,r⟩:=st;simp only at ic⊢
   congr 1
   apply Qan;intro j
   by_cases hj:k=j
   ·subst hj;rw[v8 (h.dom k b base hb),ic]
   ·rw[π hj]
  rw[e1,e2] at hx;rw[er];exact hx
theorem Mw {w:World} {st ah:St} {β:Nat→Option (Nat×Nat)} {Z:Nat→Prop} (h:iH w st β Z) {s t:Nat} {d r:D} {u:Value} (hu:VR w (st.x β Z) d u) (hs:iO pv s t d st=some (r,ah)):
  ∃z w' β',(convert s t u).run P w=.ok z w'∧Nx w st β Z w' ah β' Z∧VR w' (ah.x β' Z) r z∧(pB pv s t=false→Quiet w w'):=by
 unfold iO at hs
 split at hs
 ·rename_i sd k k' n h1 h2;cases hs;rw[cZ hu];exact⟨_,w,β,by simp[convert,aN ok h1,aN ok h2,Conv.intToInt];rfl,Φ h,by rw[ja];exact .im _ _ (.int _ _),fun _=>Γ _⟩
 ·rename_i sd k n h1 h2;cases hs;rw[cZ hu];refine⟨.string (Qc4 n),w,β,by cases sd<;>simp[convert,aN ok h1,aN ok h2,Conv.intToString],Φ h,.im _ _ ?_,fun _=>Γ _⟩;have:=IR.str (w:=w) (Z:=(st.x β Z).Z) (Qc4 n).data.toList
  simpa using this
 ·rename_i sd l h1 h2;cases hs;rw[gK hu];exact⟨_,w,β,by cases sd<;>simp[convert,aN ok h1,aN ok h2]<;>rfl,Φ h,.im _ _ (.str _),fun _=>Γ _⟩
 ·rename_i sd e l h1 h2
  split at hs
  ·rename_i he
   split at hs
   ·rename_i hlen;cases hs;rw[gK hu];have Ge:=J4 l.length 0 e (w.tape w.drawn (.appendCap l.length 0 e));generalize hq:(Question.appendCap l.length 0 e).cut (w.tape w.drawn (.appendCap l.length 0 e))=cap at Ge;have hsz:(⟨l.toArray⟩:ByteArray).size=l.length:=by simp[Qaq]
    have hS:Nx w st β Z w.drew st β Z:=Qc8 h rfl rfl rfl rfl;have dW:((l.map fun b=>χ .u8 b.toNat).toArray++ω (cap-l.length) (χ .u8 0)).size=cap:=by simp;omega
    have hfz:∀c:Array Value,(w.drew.alloc (.cells c e)).freeze ⟨w.heap.size,c.size,none⟩ 1={w.drew with heap:=w.heap.push (.cells c e (c.size,c.size+1))}:=by
     intro c;simp only[Qbx,Qc1,Qc5];simp only[if_neg (show¬(1=0) by omega)]
     congr 1
     apply Qb9;intro j;rw[Qa5]
     by_cases hj:w.heap.size=j
     ·subst hj;simp
     ·rw[if_neg hj,Qa0,Qa0,if_neg (fun e=>hj e.symm),if_neg (fun e=>hj e.symm)]
    obtain⟨hx,x1,x2,x3⟩:=Nx.mT (w':={w.drew with heap:=w.heap.push (.cells ((l.map fun b=>χ .u8 b.toNat).toArray++ω (cap-l.length) (χ .u8 0)) e (cap,cap+1))}) hS.sim true (l.map fun x=>.int .u8 x.toNat)
     ((l.map fun b=>χ .u8 b.toNat).toArray++ω (cap-l.length) (χ .u8 0)) e (cap,cap+1) rfl rfl rfl rfl (by rw[dW];simpa using Ge) ⟨by simp,fun o ho=>by rw[dW] at ho;simp;omega⟩ (fun j d hd=>by
      obtain⟨y,hy1,GL,Ir⟩:=(BX w.drew (st.x β Z) l).at_ hd;refine⟨y,?_,GL,Ir⟩
      have hlt:j<(l.map fun b=>χ .u8 b.toNat).length:=by
       rcases η j (l.map fun b=>χ .u8 b.toNat).length with h'|h'
       ·exact h'
       ·rw[ψ h'] at hy1;cases hy1
      rw[Array.getElem?_append_left (by simpa using hlt)]
      simpa using hy1)
    refine⟨.slice (some ⟨w.heap.size,0,none⟩) l.length cap,_,_,?_,hS.trans hx,nJ x2 x3 x1 Ge (by rw[dW];omega),fun _=>Qas rfl⟩
    have oN:(Qbe e ⟨l.toArray⟩).run P w=.ok (.slice (some ⟨w.heap.size,0,none⟩) l.length cap) {w.drew with heap:=w.heap.push (.cells ((l.map fun b=>χ .u8 b.toNat).toArray++ω (cap-l.length) (χ .u8 0)) e (cap,cap+1))}:=by
     have tQ:((⟨l.toArray⟩:ByteArray).data.map fun b=>χ .u8 b.toNat)=(l.map fun b=>χ .u8 b.toNat).toArray:=by simp
     simp only[Qbe,ι,run_choose,Question.forced,υ,if_false,δ,hsz,hq,tQ,newRow,run_newObj,ν,markStringish,run_shape]
     have N8:(w.drew.alloc (.cells ((l.map fun b=>χ .u8 b.toNat).toArray++ω (cap-l.length) (χ .u8 0)) e)).shape? w.heap.size=some (e,cap):=by
      simp only[Qby,Qc1,Qc5];rw[Qa0,if_pos rfl];simp[dW]
     have ha:({heap:=w.heap.push (Obj.cells ((l.map fun b=>χ .u8 b.toNat).toArray++ω (cap-l.length) (χ .u8 0)) e),tape:=w.tape,drawn:=w.drawn+1,os:=w.os,output:=w.output}:World)=w.drew.alloc (.cells ((l.map fun b=>χ .u8 b.toNat).toArray++ω (cap-l.length) (χ .u8 0)) e):=rfl;rw[ha];simp only[N8,run_freeze,δ];have:=hfz ((l.map fun b=>χ .u8 b.toNat).toArray++ω (cap-l.length) (χ .u8 0));rw[dW] at this;rw[this]
    cases sd<;>simp only[convert,ι,aN ok h1,aN ok h2,δ,aN ok he,oN]
   ·cases hs
  ·cases hs
 ·rename_i e' e k aB off len sz h1 h2
  split at hs
  ·rename_i q he hm;obtain⟨ar,c⟩:=q
   split at hs
   ·rename_i tR;obtain⟨iA,hlen,Ky⟩:=tR;have iA:=BY iA;subst iA;cases hs;obtain⟨a,cap,rfl,hc,hk,_,kH⟩:=fJ hu;obtain⟨b,base,KJ,hb,_,zf⟩:=kH (dr hm).2
    rcases zf with rfl|⟨rfl,_⟩
    ·omega
    obtain⟨w',m1,m2⟩:=Lh (P:=P) h hm hb (eS Ky) (base+off);refine⟨_,w',β,?_,m2,hu.mono m2.keeps,fun e=>?_⟩
    ·rw[h1] at h2;cases h2;simp only[convert,ι,aN ok h1,δ,aN ok he,beq_self_eq_true,m1,ν]
    ·rw[h1] at h2;cases h2;simp[pB,h1] at e
   ·cases hs
  ·cases hs
 ·rename_i dd o1 o2 d4 e h1 h2 pM IP
  split at hs
  ·rename_i n cs he jI
   split at hs
   ·cases hs
   ·rename_i LK
    split at hs
    ·rename_i hl;obtain⟨bs,hb,hr⟩:=γ.1 hs;cases hr;obtain⟨hlen,dW⟩:=uz (P:=P) h hu jI;obtain⟨us,u1,u2⟩:=dW 1 n (μ _) z0;rw[Qc6,←hl,List.take_length] at u2;refine⟨.string ⟨bs.toArray⟩,w,β,?_,Φ h,.im _ _ (.str _),fun _=>Γ _⟩
     have jS:∃a q c,u=.slice a q c:=by
      cases dd with
      |sl es=>obtain⟨_,_,e,_⟩:=mM hu;exact⟨_,_,_,e⟩
      |nul=>exact⟨_,_,_,fK hu⟩
      |win k v o l s=>obtain⟨_,_,e,_⟩:=fJ hu;exact⟨_,_,_,e⟩
      |str l=>exact absurd rfl (LK l)
      |_=>simp[pk] at jI
     obtain⟨a,q,c,rfl⟩:=jS;have hq:q=n:=by simp[Builtin.lenOf] at hlen;exact hlen
     subst hq
     have I_:(convert s t (.slice a q c)).run P w=(Qbd (.slice a q c)).run P w:=by
      simp[convert,aN ok h1,aN ok h2,aN ok he]
     rw[I_]
     cases a with
     |none=>
      have kh:us=[]:=by
       simp only[Qb2,ν,Qbg.injEq] at u1;have:=u1.1;cases us<;>simp at this⊢
      subst kh;have:cs=[]:=Qb1.1 (by have:=u2.len;simpa using this);subst this;simp[mr] at hb;subst hb
      rfl
     |some a=>
      simp only[Qb2,Qc6] at u1;simp only[Qbd,ι,u1,δ,List.forIn_toArray];rw[x6 (P:=P) (fun n s w=>by simp) cs us bs .empty w _ u2 hb];simp
    ·cases hs
  ·cases hs
 ·cases hs
omit ok in
theorem Nx.obj {w:World} {st:St} {β:Nat→Option (Nat×Nat)} {Z:Nat→Prop} (h:iH w st β Z) {k b:Nat} (hβ:β k=some (b,0)) (db:st.ro≤k) {o o':Obj} {bx zx:jC} (ic:st.bs[k]?=some bx) (hw:w.heap[b]?=some o) (hv:dp zx=dp bx)
  (pI:∀w1:World,w1.heap[b]?=some o'→cV w1 b=cV w b) (aT:∀x',jB (wput w b o') x' b 0 zx):Nx w st β Z (wput w b o') {st with bs:=st.bs.set k zx} β Z:=by
 have hbl:=h.lt k b 0 hβ;have jx:=h.dom k b 0 hβ
 have hne:∀i,i≠b→(wput w b o').heap[i]?=w.heap[i]?:=by
  intro i hi;simp only[wput];rw[IN z0]
 have heq:(wput w b o').heap[b]?=some o':=by
  simp only[wput];rw[ο hbl]
 have vp:∀i,({st with bs:=st.bs.set k zx}:St).aB i=st.aB i:=by
  intro i;simp only[Qad]
  by_cases hik:i=k
  ·subst hik;rw[v8 jx,ic];exact hv
  ·rw[π z0]
 have Ru:dS w (st.x β Z) (wput w b o') (({st with bs:=st.bs.set k zx}:St).x β Z):=by
  refine⟨fun i p hp=>⟨p,hp⟩,fun i hi=>⟨hi,hne i fun e=>h.zd k b 0 hβ (e▸hi)⟩,fun i q p hi hq=>⟨q,?_,μ _⟩,fun i q hq pK i' y hy=>⟨hy,?_⟩⟩
  ·have:=vp i;show st.aB i=some q;rw[←this];exact hq
  ·by_cases e:i'=b
   ·subst e;exact pI _ heq
   ·exact eM (hne i' e)
 refine⟨⟨?_,?_,h.inj,h.zd,?_,?_,?_,?_⟩,Ru,⟨rfl,rfl,rfl,by simp[wput],fun i _ hn=>hne i fun e=>hn ⟨k,0,e▸hβ,db⟩⟩,
  fun i q y hq=>.inl ⟨y,hq⟩,fun _ hz=>.inl hz,by simp,rfl,rfl,?_,fun i _ h0=>by
   have:i≠k:=fun e=>by subst e;rw[hβ] at h0;cases h0
   dsimp only;rw[π z0]
   exact⟨h0,rfl⟩⟩
 ·intro i q y hq;simp;exact h.dom i q y hq
 ·intro i q y hq;simp only[wput,Qa2];exact h.lt i q y hq
 ·intro i hi;simp only[wput,Qa2];exact h.zl i hi
 ·intro i q y bx2 hq Jb;(dsimp only at Jb)
  by_cases hik:i=k
  ·subst hik;rw[v8 jx] at Jb;cases Jb;rw[hβ] at hq;cases hq;exact aT _
  ·rw[π z0] at Jb;exact(h.box i q y bx2 hq Jb).cw Ru (hne q fun e=>hik (h.inj i k q _ _ hq (e▸hβ)))
 ·have:=h.flr;simp;omega
 ·have:=h.ro;simp;omega
 ·intro i hi;dsimp only;rw[π z0];exact⟨rfl,rfl⟩
omit ok in
theorem nv {kk:IntKind} {n:Int} {kt:IntKind}:∀{es:List (D×D)} {en:List MapEntry} {i:Nat} {r:Option (Nat×D)},iv kk n es i=some r→en.length=es.length→
  (∀(j:Nat) p,es[j]?=some p→∃kk n vk x e,p=(.int kk n,.int vk x)∧en[j]?=some e∧e.key=.int kk n∧e.val=.int vk x)→
  match r with
  |none=>Qa6 (.int kt) (.int kk n) en i=some none
  |some (q,d)=>∃v,Qa6 (.int kt) (.int kk n) en i=some (some (q,v))∧i≤q∧q-i<es.length∧(∃vk x,d=.int vk x∧v=.int vk x)∧∃e,en[q-i]?=some e∧e.key=.int kk n
 |[],en,i,r,h,hl,_=>by
  simp only[iv] at h;cases h;have:en=[]:=Qb1.1 hl;subst this;rfl
 |(a,d)::es,en,i,r,h,hl,hr=>by
  obtain⟨kk',m,vk,x,e,hp,he,hk,hv⟩:=hr 0 _ rfl;cases hp
  obtain⟨e0,en,rfl⟩:∃e0 en',en=e0::en':=by cases en with|nil=>simp at hl|cons a b=>exact⟨a,b,rfl⟩
  simp only[Δ,Qa4.injEq] at he;subst he;simp only[iv] at h
  split at h
  ·rename_i hkk;subst hkk
   split at h
   ·rename_i LM;cases h;have LM:n=m:=by simpa using LM
    subst LM;refine⟨.int vk x,?_,μ _,by simp,⟨vk,x,rfl,rfl⟩,e0,by simp,hk⟩;simp only[Qa6,hk,Qbq,if_true,beq_self_eq_true,hv]
   ·rename_i LM;have ih:=nv (kt:=kt) (en:=en) h (by simpa using hl) (fun j p hj=>by simpa using hr (j+1) p (by simpa using hj))
    have hf:Qa6 (.int kt) (.int kk n) (e0::en) i=Qa6 (.int kt) (.int kk n) en (i+1):=by
     have:(n==m)=false:=by simpa using LM
     simp only[Qa6,hk,Qbq,if_true,this]
    cases r with
    |none=>simp only at ih⊢;rw[hf];exact ih
    |some q=>
     obtain⟨q,d'⟩:=q;simp only at ih⊢;obtain⟨v,h1,h2,h3,h4,e,h5,h6⟩:=ih;refine⟨v,by rw[hf];exact h1,by omega,by simp;omega,h4,e,?_,h6⟩;rw[show q-i=(q-(i+1))+1 by omega]
     simpa using h5
  ·cases h
theorem CP {w:World} {st ah:St} {β:Nat→Option (Nat×Nat)} {Z:Nat→Prop} (h:iH w st β Z) {t:Nat} {d:Option D} {u:Option Value} {r:D} (hn:d=none↔u=none) (hu:∀a v,d=some a→u=some v→VR w (st.x β Z) a v) (hs:pC pv t d st=some (r,ah)):
  ∃z w' β',(Qay t u).run P w=.ok z w'∧Nx w st β Z w' ah β' Z∧VR w' (ah.x β' Z) r z∧Quiet w w':=by
 have hx:=Nx.push (w':=w.alloc (.map #[] 0)) h (.map #[] 0) rfl rfl rfl rfl (.map []) (fun _=>⟨rfl,#[],0,by
  show(w.heap.push _)[w.heap.size]?=_
  simp,rfl,fun i p hp=>by simp at hp⟩)
 have hv:VR (w.alloc (.map #[] 0)) ((st.push (.map [])).x (fz β st.bs.length w.heap.size) Z) (.mp st.bs.length) (.map (some w.heap.size)):=by
  refine .mp _ _ ⟨_,by simp[Qap,fz];rfl⟩ fun _=>⟨0,by simp[Qap,fz]⟩
 unfold pC at hs
 split at hs
 ·cases hs;have:u=none:=hn.1 rfl;subst this;refine⟨.map (some w.heap.size),_,_,?_,hx,hv,Qas rfl⟩;simp only[Qay,ι,ν,δ,run_newObj];rfl
 ·rename_i kk n
  split at hs
  ·rename_i kt e ht;cases hs
   cases u with
   |none=>have:=hn.2 rfl;cases this
   |some v=>
    have:=cZ (hu _ v rfl rfl);subst this;refine⟨.map (some w.heap.size),_,_,?_,hx,hv,Qas rfl⟩;simp only[Qay,ι,aN ok ht,asInt,asIntOf,ν,δ,run_newObj];rfl
  ·cases hs
 ·cases hs
variable{w:World}{st ah:St}{β:Nat→Option (Nat×Nat)}{Z:Nat→Prop}{t:Nat}{m key:D}{um uk:Value}
theorem xv (h:iH w st β Z) {v:D} {uv:Value} (hm:VR w (st.x β Z) m um) (hk:VR w (st.x β Z) key uk) (hv:VR w (st.x β Z) v uv) (hs:kA pv t m key v st=some ah):
  ∃w',(Qar t um uk uv).run P w=.ok () w'∧Nx w st β Z w' ah β Z:=by
 unfold kA at hs
 split at hs
 ·rename_i kt e k kk n vk x ht
  split at hs
  ·rename_i ik es OB hb
   split at hs
   ·rename_i Ky;obtain⟨r,rfl,kH⟩:=D1 hm;obtain⟨base,hβ⟩:=kH (by simp[Qap,Qad,hb,dp]);have hβ:β k=some (r,base):=hβ;have:=cZ hk;subst this;have:=cZ hv;subst this;obtain⟨rfl,en,cl,h1,h2,h3⟩:=h.box k r base _ hβ hb;have hl:en.toList.length=es.length:=by simpa using h2
    have tR:∀m:Nat,(Qag false (m+1) kt (.int kk n)).run P w=.ok () w:=by
     intro m;unfold Qag;simp only[ι,aN ok OB,δ,ν]
    have hget:(getObj r).run P w=.ok (.map en cl) w:=by simp[getObj,Qav,h1]
    split at hs
    ·rename_i q d hf;cases hs
     obtain⟨vv,g1,g2,g3,⟨Ym,x',rfl,rfl⟩,e0,g4,g5⟩:=nv (kt:=ik) (en:=en.toList) hf hl (fun j p hj=>by
      obtain⟨a,b,c,d,e,q1,q2,q3⟩:=h3 j p hj
      exact⟨a,b,c,d,e,q1,by simpa using q2,q3⟩)
     simp only[Qb6] at g3 g4;have WD:en[q]?=some e0:=by simpa using g4
     have GN:q<en.size:=(Qac.1 WD).1
     have hx:=Nx.obj (o':=.map (en.modify q fun e=>{e with key:=.int kk n,val:=.int vk x}) cl) (zx:=.map (es.set q (.int kk n,.int vk x))) h hβ (eS Ky) hb h1 rfl (fun w1 QH=>by simp[cV,QH,h1]) fun x'=>by
      refine⟨rfl,_,cl,by simp only[wput];rw[ο (h.lt k r 0 hβ)],by simp[h2],fun i p hp=>?_⟩;rw[List.getElem?_set] at hp
      split at hp
      ·rename_i U9;subst U9;cases hp;exact⟨kk,n,vk,x,{e0 with key:=.int kk n,val:=.int vk x},rfl,by rw[Qa5,if_pos rfl,WD];rfl,rfl,rfl⟩
      ·rename_i U9;obtain⟨a,b,c,d,e,q1,q2,q3⟩:=h3 i p hp;exact⟨a,b,c,d,e,q1,by rw[Qa5,if_neg U9];exact q2,q3⟩
     refine⟨_,?_,hx⟩;have OE:((en[q]?).map (·.key)).getD (.int kk n)=.int kk n:=by rw[WD];simpa using g5
     simp only[Qar,ι,aN ok ht,δ,hget,tR 9999,Qai,aN ok OB,g1,ν,OE,Instr.keyThatStays,Instr.sameBits,beq_self_eq_true,Bool.and_self,if_true];simp[setObj,Qav,wput,h1]
    ·rename_i hf;cases hs
     have g1:=nv (kt:=ik) (en:=en.toList) hf hl (fun j p hj=>by
      obtain⟨a,b,c,d,e,q1,q2,q3⟩:=h3 j p hj
      exact⟨a,b,c,d,e,q1,by simpa using q2,q3⟩)
     simp only at g1
     have hx:=Nx.obj (o':=.map (en.push {key:=.int kk n,val:=.int vk x,born:=cl}) (cl+1)) (zx:=.map (es++[(.int kk n,.int vk x)])) h hβ (eS Ky) hb h1 rfl (fun w1 QH=>by simp[cV,QH,h1]) fun x'=>by
      refine⟨rfl,_,cl+1,by simp only[wput];rw[ο (h.lt k r 0 hβ)],by simp[h2],fun i p hp=>?_⟩;rw[Qah] at hp
      split at hp
      ·rename_i hi;obtain⟨a,b,c,d,e,q1,q2,q3⟩:=h3 i p hp;exact⟨a,b,c,d,e,q1,by rw[Qa0,if_neg z0];exact q2,q3⟩
      ·rename_i hi
       have xE:i-es.length=0:=by
        rcases Nat.eq_zero_or_pos (i-es.length) with h'|h'
        ·exact h'
        ·rw[ψ (by simp;omega)] at hp;cases hp
       rw[xE] at hp;simp at hp;subst hp;exact⟨kk,n,vk,x,_,rfl,by rw[Qa0,if_pos z0],rfl,rfl⟩
     refine⟨_,?_,hx⟩;simp only[Qar,ι,aN ok ht,δ,hget,tR 9999,Qai,aN ok OB,g1,ν];simp[setObj,Qav,wput,h1]
    ·cases hs
   ·cases hs
  ·cases hs
 ·cases hs
variable{r:D}
theorem F3 (h:iH w st β Z) (hm:VR w (st.x β Z) m um) (hk:VR w (st.x β Z) key uk) (hs:pD pv t m key st=some r):
  ∃z,(Qaz t um uk false).run P w=.ok z w∧VR w (st.x β Z) r z:=by
 unfold pD at hs
 split at hs
 ·rename_i kt e k kk n ht
  split at hs
  ·rename_i ik es OB hb;obtain⟨a,rfl,kH⟩:=D1 hm;obtain⟨base,hβ⟩:=kH (by simp[Qap,Qad,hb,dp]);have hβ:β k=some (a,base):=hβ;have:=cZ hk;subst this;obtain⟨rfl,en,cl,h1,h2,h3⟩:=h.box k a base _ hβ hb;have hl:en.toList.length=es.length:=by simpa using h2
   have tR:∀b,(Qag b 10000 kt (.int kk n)).run P w=.ok () w:=by
    intro b;unfold Qag;simp only[ι,aN ok OB,δ,ν]
   have hget:(getObj a).run P w=.ok (.map en cl) w:=by simp[getObj,Qav,h1]
   split at hs
   ·rename_i q d hf;cases hs
    obtain⟨vv,g1,g2,g3,⟨Ym,x',rfl,rfl⟩,e0,g4,g5⟩:=nv (kt:=ik) (en:=en.toList) hf hl (fun j p hj=>by
     obtain⟨a,b,c,d,e,q1,q2,q3⟩:=h3 j p hj
     exact⟨a,b,c,d,e,q1,by simpa using q2,q3⟩)
    refine⟨.int Ym x',?_,.im _ _ (.int _ _)⟩;simp only[Qaz,ι,aN ok ht,δ,hget,ν,tR,Qai,aN ok OB,g1]
    rfl
   ·rename_i hf;obtain⟨z,hz,NU⟩:=Av ok hs w
    have g1:=nv (kt:=ik) (en:=en.toList) hf hl (fun j p hj=>by
     obtain⟨a,b,c,d,e,q1,q2,q3⟩:=h3 j p hj
     exact⟨a,b,c,d,e,q1,by simpa using q2,q3⟩)
    simp only at g1;refine⟨z,?_,by rw[NU];exact .im _ _ (uN _ _ z)⟩;simp only[Qaz,ι,aN ok ht,δ,hget,ν,tR,Qai,aN ok OB,g1,hz]
    rfl
   ·cases hs
  ·cases hs
 ·cases hs
variable{d:D}{u:Value}
theorem HC (h:iH w st β Z) (hu:VR w (st.x β Z) d u) (hs:yz pv t d st=some (r,ah)):
  ∃z w' β',(Qbz t u).run P w=.ok z w'∧Nx w st β Z w' ah β' Z∧VR w' (ah.x β' Z) r z∧Quiet w w':=by
 unfold yz at hs
 split at hs
 ·rename_i l ht;cases hs;rw[gK hu]
  have hx:=Nx.push (w':=w.alloc (.stringIter ⟨l.toArray⟩ 0)) h (.stringIter ⟨l.toArray⟩ 0) rfl rfl rfl rfl (.iter l 0) (fun _=>⟨rfl,by
   show(w.heap.push _)[w.heap.size]?=_
   simp⟩)
  refine⟨.pointer (some ⟨w.heap.size,0,none⟩),_,_,?_,hx,?_,Qas rfl⟩
  ·simp only[Qbz,ι,aN ok ht,δ,ν,run_newObj];rfl
  ·refine .ptr _ _ _ _ ⟨_,by simp[Qap,fz];rfl⟩ (fun c _=>Pd _) fun _=>⟨w.heap.size,0,by simp[Qap,fz],rfl⟩
 ·cases hs
omit ok in
theorem Lc (h:iH w st β Z) {b:Bool} {ty:TypeId} (hu:VR w (st.x β Z) d u) (hs:xi d b st=some (r,ah)):
  ∃z w',(Qba u b ty).run P w=.ok z w'∧Nx w st β Z w' ah β Z∧VR w' (ah.x β Z) r z:=by
 unfold xi at hs
 split at hs
 ·rename_i k
  split at hs
  ·rename_i l pos hb;obtain⟨a,rfl,hk,kH⟩:=cH hu;have lK:st.aB k=some 0:=by simp[Qad,hb,dp]
   obtain⟨b,base,Qz,rfl⟩:=kH lK;have hβ:β k=some (b,base):=Qz;clear Qz;obtain⟨rfl,I1⟩:=h.box k b base _ hβ hb;have hbl:=h.lt k b 0 hβ;have hsz:(⟨l.toArray⟩:ByteArray).size=l.length:=by simp[Qaq]
   split at hs
   ·rename_i hp
    split at hs
    ·rename_i Ky;cases hs;have jx:=h.dom k b 0 hβ
     let w':World:={w with heap:=w.heap.setIfInBounds b (.stringIter ⟨l.toArray⟩ (pos+(Qae ⟨l.toArray⟩ pos).2))}
     have hne:∀i,i≠b→w'.heap[i]?=w.heap[i]?:=by
      intro i hi;show(w.heap.setIfInBounds b _)[i]?=_;rw[IN z0]
     have heq:w'.heap[b]?=some (.stringIter ⟨l.toArray⟩ (pos+(Qae ⟨l.toArray⟩ pos).2)):=by
      show(w.heap.setIfInBounds b _)[b]?=_;rw[ο hbl]
     have vp:∀i,({st with bs:=st.bs.set k (.iter l (pos+(Qae ⟨l.toArray⟩ pos).2))}:St).aB i=st.aB i:=by
      intro i;simp only[Qad]
      by_cases hik:i=k
      ·subst hik;rw[v8 jx,hb];rfl
      ·rw[π z0]
     have Ru:dS w (st.x β Z) w' (({st with bs:=st.bs.set k (.iter l (pos+(Qae ⟨l.toArray⟩ pos).2))}:St).x β Z):=by
      refine⟨fun i p hp=>⟨p,hp⟩,fun i hi=>⟨hi,hne i fun e=>h.zd k b 0 hβ (e▸hi)⟩,fun i q p hi hq=>⟨q,?_,μ _⟩,fun i q hq pK i' y hy=>⟨hy,?_⟩⟩
      ·have:=vp i;show st.aB i=some q;rw[←this];exact hq
      ·by_cases e:i'=b
       ·subst e;simp[cV,heq,I1]
       ·exact eM (hne i' e)
     refine⟨.tuple #[.bool true,.int .i64 pos,.int .i32 (Qae ⟨l.toArray⟩ pos).1],w',?_,⟨⟨?_,?_,h.inj,h.zd,?_,?_,?_,?_⟩,Ru,⟨rfl,rfl,rfl,by simp[w'],fun i _ hn=>hne i fun e=>hn ⟨k,0,e▸hβ,eS Ky⟩⟩,
      fun i q y hq=>.inl ⟨y,hq⟩,fun _ hz=>.inl hz,by simp,rfl,rfl,?_,fun i _ h0=>by
       have:i≠k:=fun e=>by subst e;rw[hβ] at h0;cases h0
       dsimp only;rw[π z0]
       exact⟨h0,rfl⟩⟩,?_⟩
     ·simp only[Qba,ι,getObj,setObj];simp[Qav,I1,hsz,hp,goInt,w']
     ·intro i q y hq;simp;exact h.dom i q y hq
     ·intro i q y hq;simp only[w',Qa2];exact h.lt i q y hq
     ·intro i hi;simp only[w',Qa2];exact h.zl i hi
     ·intro i q y bx hq ic;(dsimp only at ic)
      by_cases hik:i=k
      ·subst hik;rw[v8 jx] at ic;cases ic;rw[hβ] at hq;cases hq;exact⟨rfl,heq⟩
      ·rw[π z0] at ic;exact(h.box i q y bx hq ic).cw Ru (hne q fun e=>hik (h.inj i k q _ _ hq (e▸hβ)))
     ·have:=h.flr;simp;omega
     ·have:=h.ro;simp;omega
     ·intro i hi;have:=eS Ky;dsimp only;rw[π z0];exact⟨rfl,rfl⟩
     ·refine .im _ _ (.tup _ [.bool true,.int .i64 pos,.int .i32 (Qae ⟨l.toArray⟩ pos).1] rfl fun i c v hc hv=>?_)
      match i with
      |0=>simp at hc hv;subst hc;subst hv;exact .bool _
      |1=>simp at hc hv;subst hc;subst hv;exact .int _ _
      |2=>simp at hc hv;subst hc;subst hv;exact .int _ _
      |i+3=>simp at hc
    ·cases hs
   ·rename_i hp;cases hs;refine⟨.tuple #[.bool false],w,?_,Φ h,.im _ _ (.tup _ [.bool false] rfl fun i c v hc hv=>?_)⟩
    ·simp only[Qba,ι,getObj];simp[Qav,I1,hsz,hp]
    ·match i with
     |0=>simp at hc hv;subst hc;subst hv;exact .bool _
     |i+1=>simp at hc
  ·cases hs
 ·cases hs
end
end Go.V
namespace Go.V
open Go.RowKit
def Yg (P:Program) (a:Act) (o:Oper) (w:World) (v:Value) (w':World):Prop:=
 (execOp a.eval o).run P w=.ok (.value v) w'∨((execOp a.eval o).run P w=.ok .skip w'∧v=undef)
def lJ (pv:Pv) (f:Nat):Bool:=
 match pv.fi f with
 |some x=>match x.mode with
  | .ro| .nw=>true
  |_=>false
 |none=>false
def gp (pv:Pv) (o:Oper):Bool:=
 match o.op with
 | .store _ _ _=>true
 | .next _ _=>true
 | .convert s t _=>pB pv s t
 | .insert _ _ _ _=>true
 | .mapUpdate _ _ _ _=>true
 | .call ⟨.builtin b,_,_⟩=>match b with
  | .len| .min| .max=>false
  |_=>true
 | .call ⟨.value (.func f),_,_⟩=>!lJ pv f
 | .call _=>true
 |_=>false
theorem zm {P:Program} {w:World} {x:X} (sY:Bool):∀(ds:List D) (us:List Value) {d r:D} {u:Value},ds.length=us.length→(∀(i:Nat) c v,ds[i]?=some c→us[i]?=some v→VR w x c v)→VR w x d u→tb (xl sY) d ds=some r→
  ∃z,(us.foldlM (if sY then Qbn else Qbm) u).run P w=.ok z w∧VR w x r z
 |[],us,d,r,u,hl,_,hd,hf=>by
  cases us with
  |nil=>simp[tb] at hf;subst hf;exact⟨u,by simp,hd⟩
  |cons v us=>simp at hl
 |e::ds,us,d,r,u,hl,hr,hd,hf=>by
  cases us with
  |nil=>simp at hl
  |cons v us=>
   simp only[tb] at hf;obtain⟨m,hm,hf⟩:=ε.1 hf;have he:=hr 0 e v rfl rfl;unfold xl at hm
   split at hm
   ·rename_i k a k' b;cases hm;rw[cZ hd,cZ he];have hz:VR w x (.int k (if sY then(if b<a then b else a) else(if b>a then b else a))) (.int k (if sY then(if b<a then b else a) else(if b>a then b else a))):=.im _ _ (.int _ _);obtain⟨z,h1,h2⟩:=zm (P:=P) sY ds us (by simpa using hl) (fun i c v hc hv=>hr (i+1) c v hc hv) hz hf;refine⟨z,?_,h2⟩;simp only[List.foldlM_cons,ι];cases sY<;>simp[Qbn,Qbm] at h1⊢<;>exact h1
   ·cases hm
theorem Lk {w:World} {x:X} {d:D} {u:Value} {n:Nat} (hu:VR w x d u) (h:Bd d=some n) (hs:∀s,d≠.str s):∃a c,u=.slice a n c:=by
 cases d with
 |sl es=>obtain⟨a,c,rfl,_⟩:=mM hu;simp[Bd] at h;subst h;exact⟨a,c,rfl⟩
 |nul=>simp[Bd] at h;subst h;exact⟨_,_,fK hu⟩
 |win k v o l s=>obtain⟨a,c,rfl,_⟩:=fJ hu;simp[Bd] at h;subst h;exact⟨_,_,rfl⟩
 |str s=>exact absurd rfl (hs s)
 |_=>simp[Bd] at h
section
variable{pv:Pv} {P:Program} (ok:pv.Ok P)
include ok
variable{w:World}{st ah:St}{β:Nat→Option (Nat×Nat)}{Z:Nat→Prop}{r:D}
theorem JV (h:iH w st β Z) {qZ:List TypeId} {ty:TypeId} {d:D} {u:Value} (hu:VR w (st.x β Z) d u) (hs:nC pv qZ d st=some (r,ah)):∃z w',(Qab qZ.toArray ty #[u]).run P w=.ok z w'∧Nx w st β Z w' ah β Z∧VR w' (ah.x β Z) r z:=by
 unfold nC at hs
 split at hs
 ·rename_i dT rest
  split at hs
  ·rename_i e OU
   split at hs
   ·cases hs;rw[fK hu];refine⟨.tuple #[],w,?_,Φ h,.im _ _ (.tup [] [] rfl (by simp))⟩;simp only[Qab,Pe,Δ,ι,aN ok OU,δ,ν]
   ·rename_i k aB off len sz;obtain⟨z,hz,hs⟩:=ε.1 hs
    split at hs
    ·rename_i mz;obtain⟨st1,hwr,hs⟩:=γ.1 hs;cases hs;obtain⟨a,cap,rfl,hc,hk,_,kH⟩:=fJ hu
     have lK:st.aB k=some aB:=by
      unfold St.wr at hwr
      split at hwr
      ·rename_i hm;exact(dr hm).2
      ·cases hwr
     obtain⟨b,base,KJ,hb,_,zf⟩:=kH lK;obtain⟨zv,QB,NV⟩:=iP ok w (st.x β Z) hz;have GM:zv.cells.toList.length=sz:=by rw[←NV.len,mz]
     obtain⟨q1,q2⟩:=tZ NV len len (μ _) GM _ rfl
     have dW:((Array.range (len*sz)).map (zv.cells.toList.toArray[·%zv.cells.toList.toArray.size]!))=Ψ zv.cells len:=by
      have:zv.cells.size=sz:=by rw[←GM];simp
      simp[Ψ,this]
     rw[dW] at q1 q2
     have rX:LR w (st.x β Z) (fV len z) (Ψ zv.cells len).toList:=by
      refine⟨by rw[gz,mz,Qaa,q1],fun u hu=>?_,fun i c u Dk hu=>?_⟩
      ·obtain⟨j,hj⟩:=Qa9 hu
       have nX:j<len*sz:=by
        rcases η j (len*sz) with h'|h'
        ·exact h'
        ·rw[ψ (by rw[Qaa,q1];exact h')] at hj;cases hj
       obtain⟨u',jH,mJ,_⟩:=q2 j _ (ζ (by rw[gz,mz];exact nX));rw[Θ] at hj;rw[hj] at jH;cases jH;exact mJ
      ·obtain⟨u',jH,_,rW⟩:=q2 i c Dk;rw[Θ] at hu;rw[hu] at jH;cases jH;exact rW
     have hla:len=0∨(Ψ zv.cells len).toList=[]∨a=⟨b,base+off,none⟩:=by
      rcases zf with rfl|⟨rfl,_⟩
      ·exact .inl z0
      ·exact .inr (.inr rfl)
     rcases hla with rfl|hla
     ·have h0:(Ψ zv.cells 0).toList=[]:=by simp[Ψ]
      rw[h0] at rX;obtain⟨w',h3,β',h4,rfl⟩:=D0 (P:=P) (a:=⟨b,base+off,none⟩) h rX hwr hb (.inl rfl);simp only[storeCells,ν,Qbg.injEq,true_and] at h3;subst h3;refine⟨.tuple #[],w,?_,h4,.im _ _ (.tup [] [] rfl (by simp))⟩;simp only[Qab,Pe,Δ,ι,aN ok OU,δ,ν]
     ·obtain⟨w',h3,β',h4,rfl⟩:=D0 (P:=P) h rX hwr hb hla;refine⟨.tuple #[],w',?_,h4,.im _ _ (.tup [] [] rfl (by simp))⟩
      cases len with
      |zero=>
       have h0:(Ψ zv.cells 0).toList=[]:=by simp[Ψ]
       rw[h0] at h3;simp only[storeCells,ν,Qbg.injEq,true_and] at h3;subst h3;simp only[Qab,Pe,Δ,ι,aN ok OU,δ,ν]
      |succ len=>
       simp only[Qab,Pe,Δ,ι,aN ok OU,δ,QB,h3,ν]
    ·cases hs
   ·cases hs
  ·cases hs
 ·cases hs
theorem DN (h:iH w st β Z) {b:Builtin} {qZ:List TypeId} {ds:List D} {us:List Value} {ty:TypeId} {cs:Array Bool} (hl:ds.length=us.length) (hr:∀(i:Nat) c v,ds[i]?=some c→us[i]?=some v→VR w (st.x β Z) c v) (hs:bu pv b qZ ds st=some (r,ah)):
  ∃z w' β',(builtin b qZ.toArray ty cs us.toArray).run P w=.ok (.value z) w'∧Nx w st β Z w' ah β' Z∧VR w' (ah.x β' Z) r z∧(b=.len∨b=.min∨b=.max→Quiet w w'):=by
 unfold bu at hs
 split at hs
 ·rename_i d
  obtain⟨u,rfl⟩:∃u,us=[u]:=by
   match us,hl with
   |[u],_=>exact⟨u,rfl⟩
  have hu:=hr 0 d u rfl rfl
  split at hs
  ·rename_i t rest
   split at hs
   ·rename_i ht
    split at hs
    ·rename_i s;cases hs;rw[gK hu];refine⟨.int .i64 s.length,w,β,?_,Φ h,.im _ _ (.int _ _),fun _=>Γ _⟩;have hsz:(⟨s.toArray⟩:ByteArray).size=s.length:=by simp[Qaq]
     simp[builtin,Qax,aN ok ht,goInt,hsz]
    ·cases hs
   ·rename_i e ht
    split at hs
    ·cases hs
    ·rename_i LK
     split at hs
     ·rename_i n hn;cases hs;obtain⟨a,c,e⟩:=Lk hu hn LK;refine⟨.int .i64 n,w,β,?_,Φ h,.im _ _ (.int _ _),fun _=>Γ _⟩;rw[e];simp[builtin,Qax,aN ok ht,goInt]
     ·cases hs
   ·rename_i n e ht;cases hs;refine⟨.int .i64 n,w,β,?_,Φ h,.im _ _ (.int _ _),fun _=>Γ _⟩;cases u<;>simp[builtin,Qax,aN ok ht,goInt]
   ·cases hs
  ·cases hs
 ·rename_i d e
  obtain⟨u,v,rfl⟩:∃u v,us=[u,v]:=by
   match us,hl with
   |[u,v],_=>exact⟨u,v,rfl⟩
  obtain⟨z,w',β',h1,h2,h3⟩:=GF ok h (ty:=ty) (hr 0 d u rfl rfl) (hr 1 e v rfl rfl) hs;exact⟨z,w',β',by simp[builtin,h1],h2,h3,fun e=>by simp at e⟩
 ·rename_i d e
  obtain⟨u,v,rfl⟩:∃u v,us=[u,v]:=by
   match us,hl with
   |[u,v],_=>exact⟨u,v,rfl⟩
  obtain⟨z,w',h1,h2,h3⟩:=Mv ok h (ty:=ty) (hr 0 d u rfl rfl) (hr 1 e v rfl rfl) hs;exact⟨z,w',β,by simp[builtin,h1],h2,h3,fun e=>by simp at e⟩
 ·rename_i d
  obtain⟨u,rfl⟩:∃u,us=[u]:=by
   match us,hl with
   |[u],_=>exact⟨u,rfl⟩
  obtain⟨z,w',h1,h2,h3⟩:=JV ok h (ty:=ty) (hr 0 d u rfl rfl) hs;exact⟨z,w',β,by simp[builtin,h1],h2,h3,fun e=>by simp at e⟩
 ·rename_i d l
  obtain⟨u,vs,rfl⟩:∃u vs,us=u::vs:=by
   match us,hl with
   |u::vs,_=>exact⟨u,vs,rfl⟩
  obtain⟨m,hm,hs⟩:=γ.1 hs;cases hs;obtain⟨z,h1,h2⟩:=zm (P:=P) true l vs (by simpa using hl) (fun i c v hc hv=>hr (i+1) c v hc hv) (hr 0 d u rfl rfl) hm;exact⟨z,w,β,by simp only[if_true] at h1;simp[builtin,Builtin.min_,h1],Φ h,h2,fun _=>Γ _⟩
 ·rename_i d l
  obtain⟨u,vs,rfl⟩:∃u vs,us=u::vs:=by
   match us,hl with
   |u::vs,_=>exact⟨u,vs,rfl⟩
  obtain⟨m,hm,hs⟩:=γ.1 hs;cases hs;obtain⟨z,h1,h2⟩:=zm (P:=P) false l vs (by simpa using hl) (fun i c v hc hv=>hr (i+1) c v hc hv) (hr 0 d u rfl rfl) hm;exact⟨z,w,β,by simp only[υ,if_false] at h1;simp[builtin,Builtin.max_,h1],Φ h,h2,fun _=>Γ _⟩
 ·cases hs
omit ok in
theorem Dv {w:World} {x:X} {fr:Fr} {a:Act} (hf:qN w x fr a.tmps) (l:List Operand):∀(i:Nat) c v,(l.map fr.ev)[i]?=some c→(l.map a.eval)[i]?=some v→VR w x c v:=by
 intro i c v hc hv;rw[Qbh] at hc hv
 cases hl:l[i]? with
 |none=>simp[hl] at hc
 |some o=>simp[hl] at hc hv;subst hc;subst hv;exact xO hf o
omit ok in
theorem AL {w:World} {x:X} {fr:Fr} {a:Act} (hf:qN w x fr a.tmps) (l:List (Nat×Operand)):∀(i:Nat) p q,(l.map fun p=>(p.1,fr.ev p.2))[i]?=some p→(l.map fun p=>(p.1,a.eval p.2))[i]?=some q→p.1=q.1∧VR w x p.2 q.2:=by
 intro i p q hp hq;rw[Qbh] at hp hq
 cases hl:l[i]? with
 |none=>simp[hl] at hp
 |some o=>simp[hl] at hp hq;subst hp;subst hq;exact⟨rfl,xO hf _⟩
theorem Qn {w:World} {st ah:St} {β:Nat→Option (Nat×Nat)} {Z:Nat→Prop} (h:iH w st β Z) {fr:Fr} {a:Act} (hf:qN w (st.x β Z) fr a.tmps) {o:Oper} {d:D} (hs:dN pv fr st o.op o.type=some (d,ah)):
  ∃v w' β',Yg P a o w v w'∧Nx w st β Z w' ah β' Z∧VR w' (ah.x β' Z) d v∧(gp pv o=false→Quiet w w'):=by
 obtain⟨dst,op,ty,pos,after,guard⟩:=o
 have kz:∀{s:Sem Value} {d:D} {v:Value},execOp a.eval ⟨dst,op,ty,pos,after,guard⟩=(do pure (.value (←s)):Sem Next)→s.run P w=.ok v w→VR w (st.x β Z) d v→
   ∃v w' β',Yg P a ⟨dst,op,ty,pos,after,guard⟩ w v w'∧Nx w st β Z w' st β' Z∧VR w' (st.x β' Z) d v∧(gp pv ⟨dst,op,ty,pos,after,guard⟩=false→Quiet w w'):=by
  intro s d v he hr hv;exact⟨v,w,β,.inl (by rw[he];simp[hr]),Φ h,hv,fun _=>Γ _⟩
 have full:∀{s:Sem Value} {d:D} {ah:St},execOp a.eval ⟨dst,op,ty,pos,after,guard⟩=(do pure (.value (←s)):Sem Next)→(∃z w' β',s.run P w=.ok z w'∧Nx w st β Z w' ah β' Z∧VR w' (ah.x β' Z) d z∧Quiet w w')→
   ∃v w' β',Yg P a ⟨dst,op,ty,pos,after,guard⟩ w v w'∧Nx w st β Z w' ah β' Z∧VR w' (ah.x β' Z) d v∧(gp pv ⟨dst,op,ty,pos,after,guard⟩=false→Quiet w w'):=by
  rintro s d ah he ⟨z,w',β',h1,h2,h3,h4⟩;exact⟨z,w',β',.inl (by rw[he];simp[h1]),h2,h3,fun _=>h4⟩
 have ev:=fun o=>xO hf o;simp only at hs;unfold dN at hs
 split at hs
 ·rename_i x;cases hs;exact⟨a.eval x,w,β,.inl rfl,Φ h,ev x,fun _=>Γ _⟩
 ·rename_i x;cases hs;exact⟨a.eval x,w,β,.inl rfl,Φ h,ev x,fun _=>Γ _⟩
 ·rename_i c p q;have hc:=ev c
  split at hs
  ·rename_i hb;cases hs;rw[hb] at hc;exact kz (s:=do pure (if←asBool (a.eval c) then a.eval p else a.eval q)) (by simp[execOp]) (by rw[fq hc];simp[asBool]) (ev p)
  ·rename_i hb;cases hs;rw[hb] at hc;exact kz (s:=do pure (if←asBool (a.eval c) then a.eval p else a.eval q)) (by simp[execOp]) (by rw[fq hc];simp[asBool]) (ev q)
  ·cases hs
 ·rename_i e;obtain⟨cs,hz,hs⟩:=γ.1 hs;cases hs;exact full rfl (Kd ok h hz)
 ·rename_i e x;obtain⟨cs,hz,hs⟩:=γ.1 hs;cases hs;exact full rfl (H_ (P:=P) h (qz (ev x) hz) e)
 ·rename_i t parts;obtain⟨r,hb,hs⟩:=γ.1 hs;cases hs;obtain⟨z,h1,h2⟩:=J8 ok (parts':=parts.toList.map fun p=>(p.1,a.eval p.2)) (by simp) (AL hf _) hb;refine kz rfl ?_ h2
  have:(parts.map fun(x:Nat×Operand)=>match x with|(i,x)=>(i,a.eval x))=(parts.toList.map fun p=>(p.1,a.eval p.2)).toArray:=by
   apply Qak;simp
  simp only[this];exact h1
 ·rename_i t len parts;have hb:=wP ok h (parts':=parts.toList.map fun p=>(p.1,a.eval p.2)) (by simp) (AL hf _) hs
  have:(parts.map fun(x:Nat×Operand)=>match x with|(i,x)=>(i,a.eval x))=(parts.toList.map fun p=>(p.1,a.eval p.2)).toArray:=by
   apply Qak;simp
  refine full (s:=Instr.buildSlice t len (parts.map fun(x:Nat×Operand)=>match x with|(i,x)=>(i,a.eval x))) rfl ?_;rw[this];exact hb
 ·rename_i t ad;obtain⟨r,hl,hs⟩:=γ.1 hs;cases hs;have hv:=ev ad;unfold iM at hl
  split at hl
  ·rename_i k aB off hd;rw[hd] at hv;obtain⟨⟨ar,c⟩,hm,hl⟩:=ε.1 hl;obtain⟨p,hp,_,kH⟩:=cH hv;obtain⟨b,base,hb,rfl⟩:=kH (dr hm).2;obtain⟨z,h1,h2⟩:=tG ok ((h.cells hm hb).drop off) hl;refine kz rfl ?_ h2;rw[hp];simp[Qbw,Qbo,h1]
  ·rename_i c hd;rw[hd] at hv;obtain⟨b,off,hp,_,hc,_⟩:=ub hv;obtain⟨z,h1,h2⟩:=tG ok hc hl;refine kz rfl ?_ h2;rw[hp];simp[Qbw,Qbo,h1]
  ·cases hl
 ·rename_i t ad x;obtain⟨st1,iA,hs⟩:=γ.1 hs;cases hs;obtain⟨w',h1,h2⟩:=Hd ok h (ev ad) (ev x) iA;exact⟨undef,w',β,.inr ⟨by simp[execOp,h1],rfl⟩,h2,.im _ _ (.tup [] [] rfl (by simp)),fun e=>by simp[gp] at e⟩
 ·rename_i x;have hv:=ev x
  split at hs
  ·rename_i k v o hd;cases hs;rw[hd] at hv;obtain⟨p,hp,_⟩:=cH hv;exact⟨a.eval x,w,β,.inl (by simp[execOp,hp]),Φ h,hv,fun _=>Γ _⟩
  ·rename_i c hd;cases hs;rw[hd] at hv;obtain⟨b,off,hp,_⟩:=ub hv;exact⟨a.eval x,w,β,.inl (by simp[execOp,hp]),Φ h,hv,fun _=>Γ _⟩
  ·rename_i f c hd;cases hs;rw[hd] at hv;obtain⟨vs,hp,_⟩:=Aa hv;exact⟨a.eval x,w,β,.inl (by simp[execOp,hp]),Φ h,hv,fun _=>Γ _⟩
  ·cases hs
 ·rename_i bop t x y _;obtain⟨r,hb,hs⟩:=γ.1 hs;cases hs;obtain⟨z,h1,h2⟩:=Pm ok x y (ev x) (ev y) hb;exact kz rfl h1 h2
 ·rename_i uop t x;obtain⟨r,hb,hs⟩:=γ.1 hs;cases hs;obtain⟨z,h1,h2⟩:=P9 (P:=P) (ev x) hb;exact kz rfl h1 h2
 ·rename_i s t x;obtain⟨z,w',β',h1,h2,h3,h4⟩:=Mw ok h (ev x) hs;exact⟨z,w',β',.inl (by simp[execOp,h1]),h2,h3,fun e=>h4 (by simpa[gp] using e)⟩
 ·rename_i f first captured
  split at hs
  ·rename_i LY;cases hs;have LY:first=#[]:=by simpa using LY
   subst LY;refine⟨.func (.func f) #[] (captured.toList.map a.eval).toArray,w,β,.inl ?_,Φ h,.fn f _ _ (by simp) (Dv hf _),fun _=>Γ _⟩;have:captured.map a.eval=(captured.toList.map a.eval).toArray:=by apply Qak;simp
   rw[←this];simp[execOp,Instr.makeFunc]
  ·cases hs
 ·rename_i t l c;exact full rfl (yV ok h (ev l) (ev c) hs)
 ·rename_i t x lo hi;obtain⟨r,hb,hs⟩:=γ.1 hs;cases hs;obtain⟨z,h1,h2⟩:=Hk ok h (xy:=lo.map a.eval) (j7:=hi.map a.eval) (ev x) (fun d v e1 e2=>by cases lo with|none=>cases e1|some q=>cases e1;cases e2;exact ev q) (fun d v e1 e2=>by cases hi with|none=>cases e1|some q=>cases e1;cases e2;exact ev q) (by cases lo<;>rfl) (by cases hi<;>rfl) hb;exact kz rfl h1 h2
 ·rename_i t x f;obtain⟨r,hb,hs⟩:=γ.1 hs;cases hs;obtain⟨z,h1,h2⟩:=zo ok (ev x) hb;exact kz rfl h1 h2
 ·rename_i t x f;obtain⟨r,hb,hs⟩:=γ.1 hs;cases hs;obtain⟨z,h1,h2⟩:=JA ok (ev x) hb;exact kz rfl h1 h2
 ·rename_i t x i;obtain⟨r,hb,hs⟩:=γ.1 hs;cases hs;obtain⟨z,h1,h2⟩:=y4 ok (ev x) (ev i) hb;exact kz rfl h1 h2
 ·rename_i t x i;obtain⟨r,hb,hs⟩:=γ.1 hs;cases hs;obtain⟨z,h1,h2⟩:=Iq ok (ev x) (ev i) hb;exact kz rfl h1 h2
 ·rename_i t x;exact full rfl (HC ok h (ev x) hs)
 ·rename_i t r;obtain⟨z,w',β',h1,h2,h3,h4⟩:=CP ok h (u:=r.map a.eval) (by cases r<;>simp) (fun d v e1 e2=>by cases r with|none=>cases e1|some q=>cases e1;cases e2;exact ev q) hs;exact⟨z,w',β',.inl (by simp[execOp,h1]),h2,h3,fun _=>h4⟩
 ·rename_i t m k x;obtain⟨st1,iA,hs⟩:=γ.1 hs;cases hs;obtain⟨w',h1,h2⟩:=xv ok h (ev m) (ev k) (ev x) iA;exact⟨undef,w',β,.inr ⟨by simp[execOp,h1],rfl⟩,h2,.im _ _ (.tup [] [] rfl (by simp)),fun e=>by simp[gp] at e⟩
 ·rename_i t m k x;obtain⟨st1,iA,hs⟩:=γ.1 hs;cases hs;obtain⟨w',h1,h2⟩:=xv ok h (ev m) (ev k) (ev x) iA;exact⟨undef,w',β,.inr ⟨by simp[execOp,h1],rfl⟩,h2,.im _ _ (.tup [] [] rfl (by simp)),fun e=>by simp[gp] at e⟩
 ·rename_i t x i;obtain⟨r,hb,hs⟩:=γ.1 hs;cases hs;obtain⟨z,h1,h2⟩:=F3 ok h (ev x) (ev i) hb;exact kz rfl h1 h2
 ·rename_i it s;obtain⟨z,w',h1,h2,h3⟩:=Lc (P:=P) (ty:=ty) h (ev it) hs;exact⟨z,w',β,.inl (by simp[execOp,h1]),h2,h3,fun e=>by simp[gp] at e⟩
 ·rename_i t i;have hv:=ev t
  split at hs
  ·rename_i ds hd;rw[hd] at hv;obtain⟨r,hb,hs⟩:=γ.1 hs;cases hs;obtain⟨vs,hp,hl,hr⟩:=yh hv
   have hi:i<ds.length:=by
    rcases η i ds.length with h'|h'
    ·exact h'
    ·rw[ψ h'] at hb;cases hb
   have j7:vs[i]?=some (vs[i]' z0):=ζ _;refine kz rfl ?_ (hr i _ _ hb j7);rw[hp];simp[Instr.extract,j7]
  ·cases hs
 ·rename_i b args qZ;have hb:=DN ok h (us:=args.toList.map a.eval) (ty:=ty) (cs:=args.map fun| .const _=>true|_=>false) (by simp) (Dv hf _) hs;obtain⟨z,w',β',h1,h2,h3,h4⟩:=hb;refine⟨z,w',β',.inl ?_,h2,h3,fun e=>h4 (by cases b<;>simp[gp] at e⊢)⟩;have:args.map a.eval=(args.toList.map a.eval).toArray:=by apply Qak;simp
  simp only[Array.toArray_toList] at h1;simp only[execOp,resolve,invoke,this,ι,ν,δ];exact h1
 ·cases hs
end
end Go.V
namespace Go.V
open Go.RowKit
theorem cn {d:D}:∀{ds:List D},d∈ds→d.ref≤refs ds
 |e::ds,h=>by
  rcases Qal.1 h with rfl|h
  ·simp only[refs];exact Nat.le_max_left _ _
  ·have:=cn h;simp only[refs];exact θ this (Qa1 _ _)
theorem tM {N:Nat}:∀{ds:List D},(∀d∈ds,d.ref≤N)→refs ds≤N
 |[],_=>by simp[refs]
 |d::ds,h=>by
  simp only[refs];exact Nat.max_le.2 ⟨h d (OF ..),tM fun e he=>h e (AI _ he)⟩
structure eV (st ah:St):Prop where
 len:st.bs.length≤ah.bs.length
 flr:ah.flr=st.flr
 ro:ah.ro=st.ro
 low:∀k,k<st.ro→k<st.bs.length→ah.bs[k]?=st.bs[k]?
 fl:∀k bx zx,k<st.flr→st.bs[k]?=some bx→ah.bs[k]?=some zx→∀d∈zx.cells,d.ref≤max (k+1) (refs bx.cells)
theorem eV.refl (st:St):eV st st:=⟨μ _,rfl,rfl,fun _ _ _=>rfl,fun _ _ _ _ h h' d hd=>by rw[h] at h';cases h';exact θ (cn hd) (Qa1 _ _)⟩
variable{k:Nat}
theorem gS {α:Type} {l:List α} {x:α} (h:l[k]?=some x):k<l.length:=by
 rcases η k l.length with h'|h'
 ·exact h'
 ·rw[ψ h'] at h;cases h
theorem eV.trans {a b c:St} (h:eV a b) (g:eV b c):eV a c:=
 ⟨θ h.len g.len,g.flr.trans h.flr,g.ro.trans h.ro,fun k hk hl=>(g.low k (by rw[h.ro];exact hk) (ξ hl h.len)).trans (h.low k hk hl),fun k bx zx hk h1 h2 d hd=>by
  have hb:k<b.bs.length:=ξ (gS h1) h.len;have h3:=g.fl k _ zx (by rw[h.flr];exact hk) (ζ hb) h2 d hd;have h4:refs (b.bs[k]).cells≤max (k+1) (refs bx.cells):=tM fun e he=>h.fl k bx _ hk h1 (ζ hb) e he
  omega⟩
theorem eV.push (st:St) (b:jC):eV st (st.push b):=
 ⟨by simp[Qaf],rfl,rfl,fun k _ hl=>by simp[Qaf,τ hl],fun k bx zx _ h1 h2 d hd=>by
  simp only[Qaf,τ (gS h1)] at h2
  rw[h1] at h2;cases h2;exact θ (cn hd) (Qa1 _ _)⟩
theorem eV.set (st:St) (k:Nat) (b b0:jC) (h:st.ro≤k) (h0:st.bs[k]?=some b0) (hc:st.flr≤k∨∀d∈b.cells,d∈b0.cells∨d.ref≤max (k+1) (refs b0.cells)):eV st {st with bs:=st.bs.set k b}:=
 ⟨by simp,rfl,rfl,fun i hi _=>by simp only;rw[π z0],fun i bx zx hi h1 h2 d hd=>by
  by_cases hik:k=i
  ·subst hik;rw[h0] at h1;cases h1;simp only at h2;rw[v8 (gS h0)] at h2;cases h2
   rcases hc with hc|hc
   ·omega
   ·rcases hc d hd with h|h
    ·exact θ (cn h) (Qa1 _ _)
    ·exact h
  ·simp only at h2;rw[π hik,h1] at h2;cases h2
   exact θ (cn hd) (Qa1 _ _)⟩
theorem sV {d:D}:∀(cs c:List D) (off:Nat),d∈setMany c off cs→d∈c∨d∈cs
 |[],c,off,h=>.inl h
 |x::xs,c,off,h=>by
  rcases sV xs _ _ h with h|h
  ·rcases List.mem_or_eq_of_mem_set h with h|rfl
   ·exact .inl h
   ·exact .inr (OF ..)
  ·exact .inr (AI _ h)
variable{st:St}
theorem yS {aB:Nat} {a:Bool} {c:List D} (h:st.fX k aB=some (a,c)):st.bs[k]?=some (.mem aB a c):=by
 unfold St.fX at h
 split at h
 ·rename_i v a' c' hb
  split at h
  ·rename_i hv;cases h;rw[hb,hv]
  ·cases h
 ·cases h
theorem Fb {r:Nat} (h:st.jr k r=true):st.flr≤k∨r≤max (k+1) (st.yy k):=by
 simp only[St.jr,ρ,Qbl,decide_eq_true_eq] at h;omega
theorem w7 {b:jC} (h:st.bs[k]?=some b):st.yy k=refs b.cells:=by simp only[St.yy,h]
def qQ (st ah:St):Prop:=∃l,ah=⟨st.bs++l,st.flr,st.ro⟩
theorem qQ.rfl (st:St):qQ st st:=⟨[],by simp⟩
theorem qQ.push (st:St) (b:jC):qQ st (st.push b):=⟨[b],by simp[Qaf]⟩
theorem qQ.goes {ah:St} (h:qQ st ah):eV st ah:=by
 obtain⟨l,rfl⟩:=h
 exact⟨by simp,Eq.refl _,Eq.refl _,fun k _ hl=>by simp only;rw[τ hl],fun k bx zx _ h1 h2 d hd=>by
  simp only at h2;rw[τ (gS h1),h1] at h2;cases h2
  exact θ (cn hd) (Qa1 _ _)⟩
structure ju (P:Program) (pv:Pv) (cf:fF):Prop where
 fn:∀f ds st r,cf f ds st=some r→∃fn b,P.funcs[f]?=some fn∧fn.body=some b∧fn.name≠ "runtime.NumGoroutine"
 calls:∀f ds st d ah,cf f ds st=some (d,ah)→∀w β Z (us:List Value),iH w st β Z→ds.length=us.length→(∀(i:Nat) c v,ds[i]?=some c→us[i]?=some v→VR w (st.x β Z) c v)→
  Calls P f us.toArray w fun e w'=>∃v β' Z',e=.returned v∧Nx w st β Z w' ah β' Z'∧VR w' (ah.x β' Z') d v∧(lJ pv f=true→Quiet w w')
 ro:∀f ds st d ah,cf f ds st=some (d,ah)→lJ pv f=true→qQ st ah
 len:∀f ds st d ah,cf f ds st=some (d,ah)→eV st ah
section
variable{pv:Pv} {P:Program} (ok:pv.Ok P) {cf:fF} (fm:ju P pv cf)
include ok fm
theorem tO {w:World} {st ah:St} {β:Nat→Option (Nat×Nat)} {Z:Nat→Prop} (h:iH w st β Z) {fr:Fr} {a:Act} (hf:qN w (st.x β Z) fr a.tmps) {o:Oper} {d:D} (hs:gd pv cf fr st o=some (d,ah))
  {next:Act→World→Prop} {Q:Exit→Act→World→Prop} (K:∀v w' β' Z',Nx w st β Z w' ah β' Z'→VR w' (ah.x β' Z') d v→(gp pv o=false→Quiet w w')→next (a.put o.dst v) w'):o.wp P a w next Q:=by
 unfold gd at hs
 split at hs
 ·rename_i f args qZ ib
  split at hs
  ·rename_i g lf aA;have hv:=xO hf f;rw[aA] at hv;obtain⟨vs,he,hl,hr⟩:=Aa hv;obtain⟨fn,b,hfn,hb,Rr⟩:=fm.fn _ _ _ _ hs;have M9:=Dv hf args.toList
   have hrel:∀(i:Nat) c v,(args.toList.map fr.ev++lf)[i]?=some c→(args.toList.map a.eval++vs)[i]?=some v→VR w (st.x β Z) c v:=by
    intro i c v hc hv;rw[Qah] at hc hv;simp only[List.length_map] at hc hv
    split at hc
    ·rename_i hi;rw[if_pos hi] at hv;exact M9 i c v hc hv
    ·rename_i hi;rw[if_neg hi] at hv;exact hr _ c v hc hv
   have iN:=fm.calls _ _ _ _ _ hs w β Z (args.toList.map a.eval++vs) h (by simp[hl]) hrel
   have oN:(execOp a.eval o).run P w=.ok (.enter g (args.toList.map a.eval++vs).toArray) w:=by
    obtain⟨dst,op,ty,pos,after,guard⟩:=o;simp only at ib;subst ib;have hbn:fn.body.isNone=false:=by simp[hb]
    have hn:(fn.name== "runtime.NumGoroutine")=false:=by simpa using Rr
    have Jh:args.map a.eval++vs.toArray=(args.toList.map a.eval++vs).toArray:=by
     apply Qak;simp
    simp only[execOp,resolve,he,Deferred.ofValue,ι,ν,δ,invoke,callFunc,run_program,hfn,hn,hbn,υ,if_false,Array.empty_append,Jh]
   unfold Oper.wp;rw[oN,Oper.upon_enter];refine iN.mono fun e w' ⟨v,β',Z',he,hn,hv,db⟩=>?_;subst he;refine K v w' β' Z' hn hv ?_;intro he;simp only[gp,ib] at he
   cases f with
   |func g'=>
    simp only[Fr.ev] at aA;cases aA;exact db (by simpa using he)
   |_=>simp at he
  ·cases hs
 ·rename_i op ib;obtain⟨v,w',β',hd,hn,hv,hq⟩:=Qn ok h hf (o:=o) hs;have hK:next (a.put o.dst v) w':=K v w' β' Z hn hv hq;unfold Oper.wp
  rcases hd with hd|⟨hd,rfl⟩
  ·rw[hd,Oper.upon_value];exact hK
  ·rw[hd,Oper.upon_skip];exact hK
omit ok fm in
theorem tE {w:World} {x:X} {ops:Array Oper} {fr:Fr} {a:Act} (hf:qN w x fr a.tmps) {o:Oper} {b:Bool} (h:aD ops fr o=some b):Qbp o (yielded ops a.tmps)=b:=by
 unfold aD at h;unfold Qbp
 split at h
 ·rename_i hg;rw[hg];cases h;rfl
 ·rename_i j want hg;rw[hg]
  split at h
  ·cases h
  ·rename_i t ht;have hv:=hf t;show(yielded ops a.tmps j==some want)=b
   have hy:∀u,a.tmps[t]?=u→yielded ops a.tmps j=match u with|some (.bool b)=>some b|_=>none:=by
    intro u hu;simp only[yielded,ht,Ξ,hu]
    cases u with
    |none=>rfl
    |some v=>cases v<;>rfl
   split at h
   ·rename_i b' hb;rw[hb] at hv;have hv:=fq hv;cases h
    have:a.tmps[t]?=some (.bool b'):=by
     rw[κ] at hv
     cases Iu:a.tmps[t]? with
     |none=>rw[Iu] at hv;simp[undef] at hv
     |some v=>rw[Iu] at hv;simp at hv;rw[hv]
    rw[hy _ this];cases b'<;>cases want<;>rfl
   ·rename_i ds hb;rw[hb] at hv;obtain⟨vs,hv,_⟩:=yh hv;cases h;rw[κ] at hv
    cases Iu:a.tmps[t]? with
    |none=>rw[hy _ Iu];cases want<;>rfl
    |some v=>rw[Iu] at hv;simp at hv;rw[hv] at Iu;rw[hy _ Iu];cases want<;>rfl
   ·cases h
omit ok fm in
theorem mS (a:Act) (dst:Option Nat) (v:Value):(a.put dst v).tmps.size=a.tmps.size:=by
 cases dst<;>simp[Act.put]
omit ok fm in
theorem put_defers (a:Act) (dst:Option Nat) (v:Value):(a.put dst v).defers=a.defers:=by
 cases dst<;>simp[Act.put]
def xQ (ops:List Oper) (n:Nat):Prop:=∀o∈ops,∀t,o.dst=some t→t<n
theorem CG {ops:Array Oper} {Q:Exit→Act→World→Prop}:∀(l:List Oper) (i:Nat) (fr aG:Fr) (st ah:St) (β:Nat→Option (Nat×Nat)) (Z:Nat→Prop) (a:Act) (w:World),(∀j,l[j]?=ops[i+j]?)→
  kj pv cf ops l fr st=some (aG,ah)→iH w st β Z→qN w (st.x β Z) fr a.tmps→xQ l a.tmps.size→
  (∀a' w' β' Z',Nx w st β Z w' ah β' Z'→qN w' (ah.x β' Z') aG a'.tmps→a'.defers=a.defers→a'.tmps.size=a.tmps.size→Q .normal a' w')→wpOps P ops Q (List.range' i l.length) a w
 |[],i,fr,aG,st,ah,β,Z,a,w,_,hs,h,hf,_,K=>by
  simp only[kj] at hs;cases hs;exact K a w β Z (Φ h) hf rfl rfl
 |o::l,i,fr,aG,st,ah,β,Z,a,w,hl,hs,h,hf,hd,K=>by
  have ho:ops[i]?=some o:=by have:=hl 0;simpa using this.symm
  have ji:∀j,l[j]?=ops[i+1+j]?:=fun j=>by have:=hl (j+1);simpa[Qc0,Qc2 1 j] using this
  have GR:xQ l a.tmps.size:=fun p hp=>hd p (AI _ hp);simp only[Qbj,List.range'_succ,wpOps,ho];simp only[kj] at hs
  split at hs
  ·rename_i hw;rw[tE hf hw];simp only[if_true];left
   split at hs
   ·rename_i d st1 ib;refine tO ok fm h hf ib fun v w' β' Z' hn hv _=>CG l (i+1) _ aG st1 ah β' Z' _ w' ji hs hn.sim (HI (hf.mono hn.keeps) hv o.dst fun t ht=>hd o (OF ..) t ht) (by rw[mS];exact GR) fun a' P6 wz Kz IQ wx We hsz=>?_;exact K a' P6 wz Kz (hn.trans IQ) wx (by rw[We,put_defers]) (by rw[hsz,mS])
   ·cases hs
  ·rename_i hw;rw[tE hf hw];simp only[υ,if_false];refine CG l (i+1) _ aG st ah β Z _ w ji hs h (HI hf (.im _ _ (.tup [] [] rfl (by simp))) o.dst fun t ht=>hd o (OF ..) t ht) (by rw[mS];exact GR) fun a' P6 wz Kz IQ wx We hsz=>?_;exact K a' P6 wz Kz IQ wx (by rw[We,put_defers]) (by rw[hsz,mS])
  ·cases hs
end
end Go.V
namespace Go.V
open Go.RowKit
variable{fr aG:Fr}
theorem CO {l:List Operand} (h:∀x∈l,fr.ev x=aG.ev x):l.map fr.ev=l.map aG.ev:=Qbb h
theorem AO {l:List (Nat×Operand)} (h:∀p∈l,fr.ev p.2=aG.ev p.2):l.map (fun p=>(p.1,fr.ev p.2))=l.map (fun p=>(p.1,aG.ev p.2)):=
 Qbb fun p hp=>by rw[h p hp]
variable{pv:Pv}{st:St}
theorem FW {op:Op} {ty:TypeId} (h:∀x∈op.operands.toList,fr.ev x=aG.ev x):dN pv fr st op ty=dN pv aG st op ty:=by
 unfold dN
 cases op with
 |build t ps=>simp only;rw[AO fun p hp=>h p.2 (by simp[Ω];exact⟨p.1,by simpa using hp⟩)]
 |buildSlice t len ps=>simp only;rw[AO fun p hp=>h p.2 (by simp[Ω];exact⟨p.1,by simpa using hp⟩)]
 |makeFunc f first captured=>
  cases f<;>simp only
  have:captured.toList.map fr.ev=captured.toList.map aG.ev:=CO fun x hx=>h x (by simp[Ω];right;simpa using hx);rw[this]
 |slice t x lo hi mx=>
  cases mx<;>simp only
  have hx:fr.ev x=aG.ev x:=h x (by simp[Ω])
  have Cb:lo.map fr.ev=lo.map aG.ev:=by
   cases lo with
   |none=>rfl
   |some l=>simp only[Qa3];rw[h l (by simp[Ω])]
  have EX:hi.map fr.ev=hi.map aG.ev:=by
   cases hi with
   |none=>rfl
   |some l=>simp only[Qa3];rw[h l (by simp[Ω])]
  rw[hx,Cb,EX]
 |makeMap t r=>
  cases r with
  |none=>rfl
  |some x=>simp only[Qa3];rw[h x (by simp[Ω])]
 |lookup t x i ok=>
  simp only[Ω,Qal,Qbk,or_false,forall_eq_or_imp,forall_eq,Qbc] at h;cases ok
  ·simp only[h]
  ·rfl
 |call c=>
  obtain⟨callee,args,qZ⟩:=c;cases callee<;>simp only
  have:args.toList.map fr.ev=args.toList.map aG.ev:=CO fun x hx=>h x (by simp[Ω,Call.operands];simpa using hx);rw[this]
 |_=>simp only[Ω,Qal,Qbk,or_false,forall_eq_or_imp,forall_eq,Qbc] at h<;>simp only[h]
def tmpsOf:List Operand→List Nat
 |[]=>[]
 | .tmp t::l=>t::tmpsOf l
 |_::l=>tmpsOf l
theorem oK {t:Nat}:∀{l:List Operand},.tmp t∈l→t∈tmpsOf l
 |x::l,h=>by
  rcases Qal.1 h with rfl|h
  ·simp[tmpsOf]
  ·have:=oK h;cases x<;>simp[tmpsOf,this]
def looks (ops:Array Oper) (o:Oper):List Nat:=
  (match o.guard with
   |some (j,_)=>match(ops[j]?).bind (·.dst) with
     |some t=>[t]
     |none=>[]
   |none=>[])++tmpsOf o.op.operands.toList
theorem BI {ts:List Nat} (h:∀t∈ts,fr.get t=aG.get t) {x:Operand} (hx:∀t,x=.tmp t→t∈ts):fr.ev x=aG.ev x:=by
 cases x<;>first|rfl|exact h _ (hx _ rfl)
variable{cf:fF}{ops:Array Oper}{o:Oper}
theorem AV (h:∀t∈looks ops o,fr.get t=aG.get t):gd pv cf fr st o=gd pv cf aG st o:=by
 have he:∀x∈o.op.operands.toList,fr.ev x=aG.ev x:=fun x hx=>BI h fun t e=>by subst e;exact Qb3 _ (oK hx)
 unfold gd
 split
 ·rename_i f args qZ ib;rw[ib] at he;have hf:fr.ev f=aG.ev f:=he f (by simp[Ω,Call.operands]);have ha:args.toList.map fr.ev=args.toList.map aG.ev:=CO fun x hx=>he x (by simp[Ω,Call.operands];right;simpa using hx);rw[hf,ha]
 ·exact FW he
theorem z7 (h:∀t∈looks ops o,fr.get t=aG.get t):aD ops fr o=aD ops aG o:=by
 unfold aD
 cases hg:o.guard with
 |none=>rfl
 |some p=>
  obtain⟨j,want⟩:=p;simp only
  cases ht:(ops[j]?).bind (·.dst) with
  |none=>rfl
  |some t=>
   simp only;rw[h t (by simp[looks,hg,ht])]
def FV (o:Oper):Bool:=
 match o.op with
 | .move _| .assign _| .pick _ _ _| .alloc _| .box _ _| .build _ _| .buildSlice _ _ _| .nilCheck _| .binOp _ _ _ _ _| .unOp _ _ _| .makeFunc _ _ _| .makeSlice _ _ _
 | .fieldAddr _ _ _| .field _ _ _| .index _ _ _| .extract _ _=>true
 | .call ⟨.builtin b,_,_⟩=>match b with
  | .len| .min| .max=>true
  |_=>false
 |_=>false
variable{ah:St}{d:D}
theorem DM {b:Builtin} {qZ:List TypeId} {args:List D} (hb:b=.len∨b=.min∨b=.max) (h:bu pv b qZ args st=some (d,ah)) (T:St):ah=st∧bu pv b qZ args T=some (d,T):=by
 rcases hb with rfl|rfl|rfl
 ·match args,h with
  |[x],h=>
   simp only[bu] at h⊢
   split at h
   ·split at h
    ·split at h
     ·cases h;exact⟨rfl,rfl⟩
     ·cases h
    ·cases x with
     |str s=>cases h
     |_=>
      simp only at h⊢
      split at h
      ·rename_i n hn;cases h;exact⟨rfl,by simp only[hn]⟩
      ·cases h
    ·cases h;exact⟨rfl,rfl⟩
    ·cases h
   ·cases h
  |[],h=>simp[bu] at h
  |_::_::_,h=>simp[bu] at h
 ·match args,h with
  |[],h=>simp[bu] at h
  |x::l,h=>
   simp only[bu] at h⊢;obtain⟨r,hz,hs⟩:=γ.1 h;cases hs;exact⟨rfl,by rw[hz];rfl⟩
 ·match args,h with
  |[],h=>simp[bu] at h
  |x::l,h=>
   simp only[bu] at h⊢;obtain⟨r,hz,hs⟩:=γ.1 h;cases hs;exact⟨rfl,by rw[hz];rfl⟩
theorem HV (hp:FV o=true) (h:dN pv fr st o.op o.type=some (d,ah)) (T:St) (hT:T.bs.length=st.bs.length):
  ∃T',dN pv fr T o.op o.type=some (d,T')∧((ah=st∧T'=T)∨∃ar cs,ah=st.push (.mem 0 ar cs)∧T'=T.push (.mem 0 ar cs)):=by
 obtain⟨dst,op,ty,pos,after,guard⟩:=o;simp only at h⊢;cases op<;>simp only[FV,υ] at hp<;>simp only[dN] at h⊢
 case move x=>cases h;exact⟨T,rfl,.inl ⟨rfl,rfl⟩⟩
 case assign x=>cases h;exact⟨T,rfl,.inl ⟨rfl,rfl⟩⟩
 case pick c p q=>split at h<;>first|(cases h;exact⟨T,rfl,.inl ⟨rfl,rfl⟩⟩)|cases h
 case alloc e=>
  obtain⟨cs,hz,hs⟩:=γ.1 h;cases hs;exact⟨_,by rw[hz,hT];rfl,.inr ⟨_,_,rfl,rfl⟩⟩
 case box e x=>
  obtain⟨cs,hz,hs⟩:=γ.1 h;cases hs;exact⟨_,by rw[hz,hT];rfl,.inr ⟨_,_,rfl,rfl⟩⟩
 case build t ps=>
  obtain⟨r,hz,hs⟩:=γ.1 h;cases hs;exact⟨_,by rw[hz];rfl,.inl ⟨rfl,rfl⟩⟩
 case buildSlice t len ps=>
  unfold jh at h⊢
  split at h
  ·rename_i e ht;obtain⟨s,hsz,h⟩:=ε.1 h;obtain⟨z,hz,h⟩:=ε.1 h
   split at h
   ·rename_i tR;obtain⟨cs,hf,hs⟩:=γ.1 h;cases hs;exact⟨_,by simp only[hsz,hz,Ξ,tR,and_self,if_true,hf,Qa3,hT],.inr ⟨_,_,rfl,rfl⟩⟩
   ·cases h
  ·cases h
 case nilCheck x=>split at h<;>first|(cases h;exact⟨T,rfl,.inl ⟨rfl,rfl⟩⟩)|cases h
 case binOp a b c d e=>
  obtain⟨r,hz,hs⟩:=γ.1 h;cases hs;exact⟨_,by rw[hz];rfl,.inl ⟨rfl,rfl⟩⟩
 case unOp a b c=>
  obtain⟨r,hz,hs⟩:=γ.1 h;cases hs;exact⟨_,by rw[hz];rfl,.inl ⟨rfl,rfl⟩⟩
 case makeFunc f first captured=>
  cases f<;>simp only at h⊢<;>first|cases h|skip
  split at h
  ·rename_i LY;cases h;exact⟨T,by rw[if_pos LY],.inl ⟨rfl,rfl⟩⟩
  ·cases h
 case makeSlice t l c=>
  unfold gR at h⊢
  split at h
  ·rename_i e k l k' c ht hl hc;obtain⟨i,hi,h⟩:=ε.1 h;obtain⟨z,hz,h⟩:=ε.1 h
   split at h
   ·rename_i tR;cases h;simp only[hi,hz,Ξ];rw[if_pos tR,hT];exact⟨_,rfl,.inr ⟨_,_,rfl,rfl⟩⟩
   ·cases h
  ·cases h
 case fieldAddr a b c=>
  obtain⟨r,hz,hs⟩:=γ.1 h;cases hs;exact⟨_,by rw[hz];rfl,.inl ⟨rfl,rfl⟩⟩
 case field a b c=>
  obtain⟨r,hz,hs⟩:=γ.1 h;cases hs;exact⟨_,by rw[hz];rfl,.inl ⟨rfl,rfl⟩⟩
 case index a b c=>
  obtain⟨r,hz,hs⟩:=γ.1 h;cases hs;exact⟨_,by rw[hz];rfl,.inl ⟨rfl,rfl⟩⟩
 case extract t i=>
  split at h
  ·obtain⟨r,hz,hs⟩:=γ.1 h;cases hs;exact⟨_,by rw[hz];rfl,.inl ⟨rfl,rfl⟩⟩
  ·cases h
 case call c=>
  obtain⟨callee,args,qZ⟩:=c;cases callee<;>simp only[υ] at hp h⊢
  rename_i b;have hb:b=.len∨b=.min∨b=.max:=by cases b<;>simp at hp⊢
  obtain⟨rfl,h2⟩:=DM hb h T;exact⟨T,h2,.inl ⟨rfl,rfl⟩⟩
theorem o8 {k aB off:Nat} {cs:List D} (h:st.wr k aB off cs=some ah):eV st ah:=by
 unfold St.wr at h
 split at h
 ·split at h
  ·rename_i a c hm hc;cases h;exact eV.set st k _ _ (eS hc.2) (yS hm) ((Fb hc.2).imp id fun hr d hd=>(sV _ _ _ hd).imp id fun hd=>θ (cn hd) (by rw[w7 (yS hm)] at hr;exact hr))
  ·cases h
 ·cases h
variable{x s:D}
theorem B4 {qZ:List TypeId} (h:iG pv qZ s x st=some (d,ah)):eV st ah:=by
 unfold iG at h
 split at h
 ·split at h
  ·split at h
   ·cases h
   ·obtain⟨i,hi,h⟩:=ε.1 h;obtain⟨z,hz,h⟩:=ε.1 h;obtain⟨⟨n,ys⟩,jI,h⟩:=ε.1 h;dsimp only at h
    split at h
    ·cases h
    ·cases s with
     |nul=>
      simp only at h
      split at h
      ·cases h;exact .refl _
      ·split at h
       ·cases h;exact .push _ _
       ·cases h
     |win k aB off len sz=>
      simp only at h
      split at h
      ·split at h
       ·cases h
       ·split at h
        ·cases h;exact .refl _
        ·split at h
         ·rename_i hc;cases h;have hbk:=yS z5;refine eV.set st k _ _ (eS hc.2) hbk ((Fb hc.2).imp id fun hr d hd=>?_);rw[w7 hbk] at hr
          rcases List.mem_append.1 hd with hd|hd
          ·exact .inl (List.mem_of_mem_take (Qb8 hd))
          ·exact .inr (θ (cn hd) hr)
         ·cases h
      ·cases h
     |_=>cases h
  ·cases h
 ·cases h
theorem Gw {qZ:List TypeId} (h:xU pv qZ s x st=some (d,ah)):eV st ah:=by
 unfold xU at h
 split at h
 ·split at h
  ·obtain⟨i,hi,h⟩:=ε.1 h;obtain⟨⟨n,ys⟩,jI,h⟩:=ε.1 h;dsimp only at h
   split at h
   ·cases h
   ·cases s with
    |nul=>cases h;exact .refl _
    |win k aB off len sz=>
     simp only at h
     split at h
     ·cases h
     ·obtain⟨r,hz,hs⟩:=γ.1 h;cases hs;exact o8 hz
    |_=>cases h
  ·cases h
 ·cases h
theorem DK {qZ:List TypeId} (h:nC pv qZ s st=some (d,ah)):eV st ah:=by
 unfold nC at h
 split at h
 ·split at h
  ·cases s with
   |nul=>cases h;exact .refl _
   |win k aB off len sz=>
    simp only at h;obtain⟨i,hi,h⟩:=ε.1 h
    split at h
    ·obtain⟨r,hz,hs⟩:=γ.1 h;cases hs;exact o8 hz
    ·cases h
   |_=>cases h
  ·cases h
 ·cases h
theorem F0 {b:Bool} (h:xi x b st=some (d,ah)):eV st ah:=by
 unfold xi at h
 split at h
 ·split at h
  ·split at h
   ·split at h
    ·rename_i hc;cases h;exact eV.set st _ _ _ (eS hc) z5 (.inr fun d hd=>by simp[jC.cells] at hd)
    ·cases h
   ·cases h;exact .refl _
  ·cases h
 ·cases h
theorem sW {t:TypeId} {m key v:D} (h:kA pv t m key v st=some ah):eV st ah:=by
 unfold kA at h
 split at h
 ·split at h
  ·rename_i hb
   split at h
   ·rename_i hc
    split at h
    ·cases h;exact eV.set st _ _ _ (eS hc) hb (.inr fun d hd=>by simp[jC.cells] at hd)
    ·cases h;exact eV.set st _ _ _ (eS hc) hb (.inr fun d hd=>by simp[jC.cells] at hd)
    ·cases h
   ·cases h
  ·cases h
 ·cases h
theorem HW (h:dN pv fr st o.op o.type=some (d,ah)):eV st ah∧(gp pv o=false→qQ st ah):=by
 by_cases hp:FV o=true
 ·obtain⟨T',_,⟨rfl,_⟩|⟨ar,cs,rfl,_⟩⟩:=HV hp h st rfl
  ·exact⟨.refl _,fun _=>.rfl _⟩
  ·exact⟨.push _ _,fun _=>.push _ _⟩
 ·obtain⟨dst,op,ty,pos,after,guard⟩:=o;simp only at h
  have ad:qQ st ah→eV st ah∧(gp pv ⟨dst,op,ty,pos,after,guard⟩=false→qQ st ah):=fun ha=>⟨ha.goes,fun _=>ha⟩
  cases op<;>simp only[FV,not_true_eq_false,υ,not_false_eq_true] at hp<;>simp only[dN] at h
  case load t a=>obtain⟨r,hz,hs⟩:=γ.1 h;cases hs;exact ad (.rfl _)
  case store t a x=>
   obtain⟨r,hz,hs⟩:=γ.1 h;cases hs;refine⟨?_,fun e=>by simp[gp] at e⟩;unfold lU at hz
   split at hz
   ·split at hz
    ·exact o8 hz
    ·cases hz
   ·cases hz
  case convert s t x=>
   refine ad ?_;unfold iO at h
   split at h
   ·cases h;exact .rfl _
   ·cases h;exact .rfl _
   ·cases h;exact .rfl _
   ·split at h
    ·split at h
     ·cases h;exact .push _ _
     ·cases h
    ·cases h
   ·split at h
    ·split at h
     ·cases h;exact .rfl _
     ·cases h
    ·cases h
   ·split at h
    ·split at h
     ·cases h
     ·split at h
      ·obtain⟨r,hz,hs⟩:=γ.1 h;cases hs;exact .rfl _
      ·cases h
    ·cases h
   ·cases h
  case slice t x lo hi mx=>
   cases mx<;>simp only at h<;>first|cases h|skip
   obtain⟨r,hz,hs⟩:=γ.1 h;cases hs;exact ad (.rfl _)
  case indexAddr t x i=>obtain⟨r,hz,hs⟩:=γ.1 h;cases hs;exact ad (.rfl _)
  case range t x=>
   refine ad ?_;unfold yz at h
   split at h
   ·cases h;exact .push _ _
   ·cases h
  case next it s=>exact⟨F0 h,fun e=>by simp[gp] at e⟩
  case makeMap t r=>
   refine ad ?_;unfold pC at h
   split at h
   ·cases h;exact .push _ _
   ·split at h
    ·cases h;exact .push _ _
    ·cases h
   ·cases h
  case insert t m k x=>
   obtain⟨r,hz,hs⟩:=γ.1 h;cases hs;exact⟨sW hz,fun e=>by simp[gp] at e⟩
  case mapUpdate t m k x=>
   obtain⟨r,hz,hs⟩:=γ.1 h;cases hs;exact⟨sW hz,fun e=>by simp[gp] at e⟩
  case lookup t x i ok=>
   cases ok<;>simp only at h<;>first|cases h|skip
   obtain⟨r,hz,hs⟩:=γ.1 h;cases hs;exact ad (.rfl _)
  case call c=>
   obtain⟨callee,args,qZ⟩:=c
   cases callee<;>simp only at h<;>first|cases h|skip
   rename_i b;unfold bu at h;refine⟨?_,fun e=>?_⟩
   ·split at h
    ·exact absurd hp (by simp)
    ·exact B4 h
    ·exact Gw h
    ·exact DK h
    ·exact absurd hp (by simp)
    ·exact absurd hp (by simp)
    ·cases h
   ·cases b<;>simp[gp] at e<;>simp at hp
  all_goals cases h
theorem uM {P:Program} (fm:ju P pv cf) (h:gd pv cf fr st o=some (d,ah)):eV st ah∧(gp pv o=false→qQ st ah):=by
 unfold gd at h
 split at h
 ·rename_i f args qZ ib
  split at h
  ·rename_i g lf aA;refine⟨fm.len _ _ _ _ _ h,fun e=>?_⟩;simp only[gp,ib] at e
   cases f with
   |func g'=>
    simp only[Fr.ev] at aA;cases aA;exact fm.ro _ _ _ _ _ h (by simpa using e)
   |_=>simp at e
  ·cases h
 ·exact HW h
def rJ (acc:List Nat):List Edge→Nat
 |[]=>0
 |e::l=>match IS .any e with
  |true=>rJ acc l|||(1<<<e.on)|||acc.getD e.on 0
  |false=>rJ acc l
def Ih:List Oper→List Nat→List Nat
 |[],acc=>acc
 |o::l,acc=>Ih l (acc++[rJ acc o.after.toList])
def zp (d:Option Nat) (l:List Nat):Bool:=
 match d with
 |some t=>l.contains t
 |none=>false
def Ef:Option Nat→Option Nat→Bool
 |some a,some b=>a==b
 |_,_=>false
def Ko (o:Oper):Bool:=(jb o.op).isSome
def mI (pv:Pv) (ops:Array Oper) (b:Bool) (x y:Oper):Bool:=
 zp x.dst (looks ops y)||zp y.dst (looks ops x)||Ef x.dst y.dst||(gp pv x &&!FV y &&!(Ko y &&b))||(gp pv y &&!FV x &&!(Ko x &&b))
def listed (dy:List (Nat×Nat)) (i j:Nat):Bool:=dy.any fun p=>Qaj p.1 i &&Qaj p.2 j
def K8 (pv:Pv) (ops:Array Oper) (dy:List (Nat×Nat)) (ms:List Nat) (j:Nat):Bool:=
 match ops[j]? with
 |some y=>(y.after.toList.all fun e=>!IS .any e||Qb5 e.on j) &&(Qau j).all fun i=>match ops[i]? with
  |some x=>!mI pv ops (listed dy i j) x y||(ms.getD j 0).testBit i
  |none=>true
 |none=>true
def mW (pv:Pv) (ops:Array Oper) (dy:List (Nat×Nat)):Bool:=(Qau ops.size).all (K8 pv ops dy (Ih ops.toList []))
def nI (ops:Array Oper) (E:Nat→Bool):Prop:=∀k o,E k=true→ops[k]?=some o→∀e∈o.after.toList,IS .any e=true→E e.on=true
def Kk (E:Nat→Bool) (acc:List Nat):Prop:=∀k i,(acc.getD k 0).testBit i=true→E k=true→E i=true
theorem yT {E:Nat→Bool} {acc:List Nat} (ha:Kk E acc) {i:Nat}:∀(l:List Edge),(rJ acc l).testBit i=true→(∀e∈l,IS .any e=true→E e.on=true)→E i=true
 |[],h,_=>by simp[rJ] at h
 |e::l,h,he=>by
  have tv:∀e∈l,IS .any e=true→E e.on=true:=fun e h=>he e (AI _ h);unfold rJ at h
  cases hb:IS .any e with
  |false=>rw[hb] at h;exact yT ha l h tv
  |true=>
   rw[hb] at h;simp only[Nat.testBit_or,Qbl] at h;have Y8:=he e (OF ..) hb
   rcases h with(h|h)|h
   ·exact yT ha l h tv
   ·rw[Nat.one_shiftLeft,Nat.testBit_two_pow] at h;have:e.on=i:=by simpa using h
    rw[←this];exact Y8
   ·exact ha _ _ h Y8
theorem A' {E:Nat→Bool} {ops:Array Oper} (hc:nI ops E):∀(l:List Oper) (acc:List Nat),(∀j,l[j]?=ops[acc.length+j]?)→Kk E acc→Kk E (Ih l acc)
 |[],acc,_,h=>h
 |o::l,acc,hl,h=>by
  have h0:=hl 0;simp only[Δ,Nat.add_zero] at h0;refine A' hc l _ (fun j=>?_) fun k i hk hE=>?_
  ·have:=hl (j+1);simp only[Qb0] at this;rw[this];simp[Qc0,Qc2 1 j]
  ·rcases wt k acc.length with hlt|heq|RJ
   ·simp only[AT,τ hlt] at hk;exact h k i (by simpa only[AT] using hk) hE
   ·subst heq;simp only[AT] at hk;simp at hk;exact yT h _ hk (hc _ o hE h0.symm)
   ·simp only[AT] at hk;rw[ψ (by simp;omega)] at hk;simp at hk
variable{dy:List (Nat×Nat)}{i j:Nat}{y:Oper}{E:Nat→Bool}
theorem nT (h:mW pv ops dy=true) {x:Oper} (hij:i<j) (hx:ops[i]?=some x) (hy:ops[j]?=some y) (hc:mI pv ops (listed dy i j) x y=true) (hE:nI ops E) (hj:E j=true):E i=true:=by
 have Bv:j<ops.size:=by
  rcases η j ops.size with h'|h'
  ·exact h'
  ·rw[IT h'] at hy;cases hy
 have h1:=GB.1 h j (Qat.2 Bv);unfold K8 at h1;rw[hy] at h1;simp only[ρ] at h1;have h2:=GB.1 h1.2 i (Qat.2 hij);rw[hx] at h2;simp only[hc,Qbv,Qbu] at h2;exact A' hE ops.toList [] (fun j=>by simp) (fun k i hk _=>by simp at hk) j i h2 hj
theorem CH (h:mW pv ops dy=true) (hy:ops[j]?=some y) {e:Edge} (he:e∈y.after.toList) (hb:IS .any e=true):e.on<j:=by
 have Bv:j<ops.size:=by
  rcases η j ops.size with h'|h'
  ·exact h'
  ·rw[IT h'] at hy;cases hy
 have h1:=GB.1 h j (Qat.2 Bv);unfold K8 at h1;rw[hy] at h1;simp only[ρ] at h1;have:=GB.1 h1.1 e he;simp only[hb,Qbv,Qbu] at this;have:=Qa8 this;omega
structure Trace (pv:Pv) (cf:fF) (ops:Array Oper) (l:List Oper) (F:Nat→Fr) (S:Nat→St) (dd:Nat→D):Prop where
 put:∀i o,l[i]?=some o→F (i+1)=(F i).fN o.dst (dd i)
 step:∀i o,l[i]?=some o→(aD ops (F i) o=some true∧gd pv cf (F i) (S i) o=some (dd i,S (i+1)))∨(aD ops (F i) o=some false∧dd i=.tup []∧S (i+1)=S i)
theorem trace {pv:Pv} {cf:fF} {ops:Array Oper}:∀(l:List Oper) (fr:Fr) (st:St) (aG:Fr) (ah:St),kj pv cf ops l fr st=some (aG,ah)→
  ∃(F:Nat→Fr) (S:Nat→St) (dd:Nat→D),F 0=fr∧S 0=st∧F l.length=aG∧S l.length=ah∧Trace pv cf ops l F S dd
 |[],fr,st,aG,ah,h=>by
  simp only[kj] at h;cases h;exact⟨fun _=>fr,fun _=>st,fun _=>.bo,rfl,rfl,rfl,rfl,by intro i o h;simp at h,by intro i o h;simp at h⟩
 |o::l,fr,st,aG,ah,h=>by
  simp only[kj] at h
  have mk:∀(d:D) (st1:St),((aD ops fr o=some true∧gd pv cf fr st o=some (d,st1))∨(aD ops fr o=some false∧d=.tup []∧st1=st))→kj pv cf ops l (fr.fN o.dst d) st1=some (aG,ah)→
    ∃(F:Nat→Fr) (S:Nat→St) (dd:Nat→D),F 0=fr∧S 0=st∧F (o::l).length=aG∧S (o::l).length=ah∧Trace pv cf ops (o::l) F S dd:=by
   intro d st1 iA hr;obtain⟨F,S,dd,h1,h2,h3,h4,h5⟩:=trace l _ _ _ _ hr;refine⟨fun|0=>fr|i+1=>F i,fun|0=>st|i+1=>S i,fun|0=>d|i+1=>dd i,rfl,rfl,h3,h4,⟨fun i p hp=>?_,fun i p hp=>?_⟩⟩
   ·cases i with
    |zero=>simp at hp;subst hp;exact h1
    |succ i=>exact h5.put i p (by simpa using hp)
   ·cases i with
    |zero=>simp at hp;subst hp;simp only[h2];exact iA
    |succ i=>exact h5.step i p (by simpa using hp)
  split at h
  ·rename_i hw
   split at h
   ·rename_i d st1 ib;exact mk d st1 (.inl ⟨hw,ib⟩) h
   ·cases h
  ·rename_i hw;exact mk _ st (.inr ⟨hw,rfl,rfl⟩) h
  ·cases h
def ez (ops:Array Oper) (E:Nat→Bool) (t:Nat):Nat→Option Nat
 |0=>none
 |k+1=>match ops[k]? with
  |some o=>if E k=true∧o.dst=some t then some k else ez ops E t k
  |none=>ez ops E t k
theorem gT (ops:Array Oper) (E:Nat→Bool) (t:Nat):∀(n:Nat),match ez ops E t n with
  |some j=>j<n∧E j=true∧(∃o,ops[j]?=some o∧o.dst=some t)∧∀i o,j<i→i<n→ops[i]?=some o→o.dst=some t→E i=false
  |none=>∀i o,i<n→ops[i]?=some o→o.dst=some t→E i=false
 |0=>by intro i o h;omega
 |n+1=>by
  have ih:=gT ops E t n;unfold ez
  cases hn:ops[n]? with
  |none=>
   simp only
   cases hl:ez ops E t n with
   |none=>
    rw[hl] at ih;intro i o hi ho hd
    rcases η i n with h'|h'
    ·exact ih i o h' ho hd
    ·have:i=n:=by omega
     subst this;rw[hn] at ho;cases ho
   |some j=>
    rw[hl] at ih;refine⟨by omega,ih.2.1,ih.2.2.1,fun i o hj hi ho hd=>?_⟩
    rcases η i n with h'|h'
    ·exact ih.2.2.2 i o hj h' ho hd
    ·have:i=n:=by omega
     subst this;rw[hn] at ho;cases ho
  |some p=>
   simp only
   by_cases hc:E n=true∧p.dst=some t
   ·rw[if_pos hc];exact⟨by omega,hc.1,⟨p,hn,hc.2⟩,fun i o hj hi=>by omega⟩
   ·rw[if_neg hc]
    have hE:∀o,ops[n]?=some o→o.dst=some t→E n=false:=by
     intro o ho hd;rw[hn] at ho;cases ho
     cases hq:E n with
     |false=>rfl
     |true=>exact absurd ⟨hq,hd⟩ hc
    cases hl:ez ops E t n with
    |none=>
     rw[hl] at ih;intro i o hi ho hd
     rcases η i n with h'|h'
     ·exact ih i o h' ho hd
     ·have:i=n:=by omega
      subst this;exact hE o ho hd
    |some j=>
     rw[hl] at ih;refine⟨by omega,ih.2.1,ih.2.2.1,fun i o hj hi ho hd=>?_⟩
     rcases η i n with h'|h'
     ·exact ih.2.2.2 i o hj h' ho hd
     ·have:i=n:=by omega
      subst this;exact hE o ho hd
theorem vc {E':Nat→Bool} {t a b:Nat} (h1:∀i o,ops[i]?=some o→o.dst=some t→((i<a∧E i=true)↔(i<b∧E' i=true))):ez ops E t a=ez ops E' t b:=by
 have s1:=gT ops E t a;have s2:=gT ops E' t b
 cases h:ez ops E t a with
 |none=>
  rw[h] at s1
  cases h':ez ops E' t b with
  |none=>rfl
  |some j=>
   rw[h'] at s2;obtain⟨q1,q2,⟨o,q3,q4⟩,_⟩:=s2;obtain⟨r1,r2⟩:=(h1 j o q3 q4).2 ⟨q1,q2⟩;have:=s1 j o r1 q3 q4;rw[this] at r2;cases r2
 |some j=>
  rw[h] at s1;obtain⟨p1,p2,⟨o,p3,p4⟩,p5⟩:=s1;obtain⟨r1,r2⟩:=(h1 j o p3 p4).1 ⟨p1,p2⟩
  cases h':ez ops E' t b with
  |none=>
   rw[h'] at s2;have:=s2 j o r1 p3 p4;rw[this] at r2;cases r2
  |some k=>
   rw[h'] at s2;obtain⟨q1,q2,⟨o',q3,q4⟩,q5⟩:=s2;obtain⟨u1,u2⟩:=(h1 k o' q3 q4).2 ⟨q1,q2⟩
   congr 1
   rcases wt j k with hlt|heq|RJ
   ·have:=p5 k o' hlt u1 q3 q4;rw[this] at u2;cases u2
   ·exact heq
   ·have:=q5 j o RJ r1 p3 p4;rw[this] at r2;cases r2
def wM (fr:Fr) (t:Nat) (d:D):D:=if Qb4 fr.n t=false∧fr.loc.length≤t then .bo else d
theorem HJ (fr:Fr) (dst:Option Nat) (d:D) (u:Nat):(fr.fN dst d).get u=if dst=some u then wM fr u d else fr.get u:=by
 cases dst with
 |none=>simp[Fr.fN]
 |some t=>
  simp only[Fr.fN,E5,wM]
  by_cases h:u=t
  ·subst h;simp
  ·rw[if_neg h,if_neg (by simpa using fun e=>h e.symm)]
theorem CB (fr:Fr) (dst:Option Nat) (d:D) (t:Nat) (e:D):wM (fr.fN dst d) t e=wM fr t e:=by
 cases dst with
 |none=>rfl
 |some u=>
  have h1:(fr.put u d).n=fr.n:=by unfold Fr.put;split<;>rfl
  have h2:(fr.put u d).loc.length=fr.loc.length:=by unfold Fr.put;split<;>simp
  simp only[Fr.fN,wM,h1,h2]
theorem ra {pv:Pv} {cf:fF} {ops:Array Oper} {F:Nat→Fr} {S:Nat→St} {dd:Nat→D} (h:Trace pv cf ops ops.toList F S dd) (t:Nat):∀(i:Nat),i≤ops.size→
  (F i).get t=(match ez ops (fun _=>true) t i with|some j=>wM (F 0) t (dd j)|none=>(F 0).get t)∧∀e,wM (F i) t e=wM (F 0) t e
 |0,_=>⟨rfl,fun _=>rfl⟩
 |i+1,hi=>by
  obtain⟨PF,EL⟩:=ra h t i z0;have ho:ops[i]?=some ops[i]:=ς z0;have hp:=h.put i ops[i] (by simpa using ho);rw[hp];refine⟨?_,fun e=>by rw[CB];exact EL e⟩;rw[HJ];unfold ez;rw[ho];simp only[true_and]
  split
  ·exact EL _
  ·exact PF
def entry (j:Nat) (log:Log) (l:List Oper) (F:Nat→Fr) (S:Nat→St) (i:Nat):Option (Oper×Fr×St×St):=
 if i<j then log[j-1-i]? else(l[i-j]?).map fun x=>(x,F (i-j),S (i-j),S (i-j+1))
def DX (dy:List (Nat×Nat)) (ops:Array Oper) (j:Nat) (log:Log) (l:List Oper) (F:Nat→Fr) (S:Nat→St):Prop:=
 ∀q o,l[q]?=some o→aD ops (F q) o=some true→∀i,i<j+q→listed dy i (j+q)=true→∃x fi si tJ,entry j log l F S i=some (x,fi,si,tJ)∧jW x fi si tJ o (F q) (S q) (S (q+1))=true
theorem JX {log:Log} (h:JY dy j log o fr st ah=true) (hi:i<j) (hl:listed dy i j=true):∃x fi si tJ,log[j-1-i]?=some (x,fi,si,tJ)∧jW x fi si tJ o fr st ah=true:=by
 unfold listed at hl;obtain⟨p,hp,he⟩:=List.any_eq_true.1 hl;simp only[ρ] at he;have h1:=BY he.1;have h2:=BY he.2;have:=GB.1 h p hp
 have hb:(Qaj p.2 j &&Qb5 p.1 j)=true:=by
  rw[he.2,h1];simp[Qb5];omega
 rw[hb] at this;simp only[h1] at this
 split at this
 ·rename_i x fi si tJ hx;exact⟨x,fi,si,tJ,hx,this⟩
 ·cases this
theorem G9 {pv:Pv} {cf:fF} {ops:Array Oper} {dy:List (Nat×Nat)}:∀(l:List Oper) (j:Nat) (log:Log) (fr:Fr) (st:St) (aG:Fr) (ah:St),log.length=j→tl pv cf ops dy j log l fr st=some (aG,ah)→
  ∃(F:Nat→Fr) (S:Nat→St) (dd:Nat→D),F 0=fr∧S 0=st∧F l.length=aG∧S l.length=ah∧Trace pv cf ops l F S dd∧DX dy ops j log l F S
 |[],j,log,fr,st,aG,ah,hj,h=>by
  simp only[tl] at h;cases h;exact⟨fun _=>fr,fun _=>st,fun _=>.bo,rfl,rfl,rfl,rfl,⟨by intro i o h;simp at h,by intro i o h;simp at h⟩,by intro q o h;simp at h⟩
 |o::l,j,log,fr,st,aG,ah,hj,h=>by
  simp only[tl] at h
  have mk:∀(d:D) (st1:St),((aD ops fr o=some true∧gd pv cf fr st o=some (d,st1)∧JY dy j log o fr st st1=true)∨(aD ops fr o=some false∧d=.tup []∧st1=st))→tl pv cf ops dy (j+1) ((o,fr,st,st1)::log) l (fr.fN o.dst d) st1=some (aG,ah)→
    ∃(F:Nat→Fr) (S:Nat→St) (dd:Nat→D),F 0=fr∧S 0=st∧F (o::l).length=aG∧S (o::l).length=ah∧Trace pv cf ops (o::l) F S dd∧DX dy ops j log (o::l) F S:=by
   intro d st1 iA hr;obtain⟨F,S,dd,h1,h2,h3,h4,h5,h6⟩:=G9 l (j+1) _ _ _ _ _ (by simp[hj]) hr;refine⟨fun|0=>fr|i+1=>F i,fun|0=>st|i+1=>S i,fun|0=>d|i+1=>dd i,rfl,rfl,h3,h4,⟨fun i p hp=>?_,fun i p hp=>?_⟩,fun q p hp hw i hi hl=>?_⟩
   ·cases i with
    |zero=>simp at hp;subst hp;exact h1
    |succ i=>exact h5.put i p (by simpa using hp)
   ·cases i with
    |zero=>
     simp at hp;subst hp;simp only[h2]
     rcases iA with⟨a,b,_⟩|h
     ·exact .inl ⟨a,b⟩
     ·exact .inr h
    |succ i=>exact h5.step i p (by simpa using hp)
   ·cases q with
    |zero=>
     simp at hp;subst hp;simp only at hw⊢
     rcases iA with⟨_,_,hc⟩|⟨hn,_,_⟩
     ·obtain⟨x,fi,si,tJ,e1,e2⟩:=JX hc (i:=i) z0 hl;refine⟨x,fi,si,tJ,?_,by simp only[h2];exact e2⟩;unfold entry;rw[if_pos z0];exact e1
     ·rw[hn] at hw;cases hw
    |succ q=>
     obtain⟨x,fi,si,tJ,e1,e2⟩:=h6 q p (by simpa using hp) hw i z0 (by rw[show j+1+q=j+(q+1) by omega];exact hl);refine⟨x,fi,si,tJ,?_,e2⟩;unfold entry at e1⊢
     rcases wt i j with h'|h'|h'
     ·rw[if_pos z0] at e1;rw[if_pos h'];rw[show j+1-1-i=(j-1-i)+1 by omega] at e1
      simpa using e1
     ·subst h';rw[if_pos z0] at e1;rw[if_neg z0];simp at e1;simp[h2];exact e1
     ·rw[if_neg z0] at e1;rw[if_neg z0]
      obtain⟨m,hm⟩:∃m,i=j+1+m:=⟨i-(j+1),by omega⟩
      subst hm;rw[show j+1+m-(j+1)=m by omega] at e1;rw[show j+1+m-j=m+1 by omega]
      simpa using e1
  split at h
  ·rename_i hw
   split at h
   ·rename_i d st1 ib
    split at h
    ·rename_i hc;exact mk d st1 (.inl ⟨hw,ib,hc⟩) h
    ·cases h
   ·cases h
  ·rename_i hw;exact mk _ st (.inr ⟨hw,rfl,rfl⟩) h
  ·cases h
def Still (dy:List (Nat×Nat)) (ops:Array Oper) (F:Nat→Fr) (S:Nat→St):Prop:=
 ∀r q y a k x,ops[r]?=some y→jb y.op=some a→aD ops (F r) y=some true→((F r).ev a).oV=some k→ops[q]?=some x→Ko x=false→aD ops (F q) x=some true→(q<r→listed dy q r=true)→(r<q→listed dy r q=true)→
  (S (q+1)).bs[k]?=(S q).bs[k]?∧(r<q→oF (some k) (S r) (S (q+1))=true)
theorem He {F:Nat→Fr} {S:Nat→St} (hl:DX dy ops 0 [] ops.toList F S):Still dy ops F S:=by
 intro r q y a k x hy ha hw hk hx NW YS h1 h2
 have QF:jb x.op=none:=by
  unfold Ko at NW
  cases h:jb x.op with
  |none=>rfl
  |some _=>rw[h] at NW;cases NW
 rcases wt q r with h'|h'|h'
 ·obtain⟨x',fi,si,tJ,e1,e2⟩:=hl r y (by simpa using hy) hw q z0 (by rw[Qc3];exact h1 h');simp only[entry,Qbs,if_false,Qb6,Θ,hx,Qa3,Qa4.injEq,Prod.mk.injEq] at e1;obtain⟨rfl,rfl,rfl,rfl⟩:=e1;simp only[jW,ha,hk] at e2;exact⟨wV e2,fun h=>by omega⟩
 ·subst h';rw[hx] at hy;cases hy;rw[QF] at ha;cases ha
 ·obtain⟨x',fi,si,tJ,e1,e2⟩:=hl q x (by simpa using hx) YS r z0 (by rw[Qc3];exact h2 h');simp only[entry,Qbs,if_false,Qb6,Θ,hy,Qa3,Qa4.injEq,Prod.mk.injEq] at e1;obtain⟨rfl,rfl,rfl,rfl⟩:=e1;simp only[jW,QF,ha,hk,ρ] at e2;exact⟨wV e2.1,fun _=>e2.2⟩
theorem Ig (p:Nat→Prop) (base:Nat):∀n,∃m,base≤m∧(∀j,j<n→p j→j+1≤m)∧(m=base∨∃j,j<n∧p j∧m=j+1)
 |0=>⟨base,μ _,fun _ h=>by omega,.inl rfl⟩
 |n+1=>by
  obtain⟨m,h1,h2,h3⟩:=Ig p base n
  by_cases hp:p n
  ·by_cases hm:n+1≤m
   ·refine⟨m,h1,fun j hj TR=>?_,?_⟩
    ·rcases η j n with h'|h'
     ·exact h2 j h' TR
     ·have:j=n:=by omega
      subst this;exact hm
    ·rcases h3 with h3|⟨j,q1,q2,q3⟩
     ·exact .inl h3
     ·exact .inr ⟨j,by omega,q2,q3⟩
   ·refine⟨n+1,by omega,fun j hj _=>by omega,.inr ⟨n,by omega,hp,rfl⟩⟩
  ·refine⟨m,h1,fun j hj TR=>?_,?_⟩
   ·rcases η j n with h'|h'
    ·exact h2 j h' TR
    ·have:j=n:=by omega
     subst this;exact absurd TR hp
   ·rcases h3 with h3|⟨j,q1,q2,q3⟩
    ·exact .inl h3
    ·exact .inr ⟨j,by omega,q2,q3⟩
def fH (pv:Pv) (ops:Array Oper) (F:Nat→Fr) (i:Nat):Prop:=∃o,ops[i]?=some o∧gp pv o=true∧aD ops (F i) o=some true
def Hs (S:Nat→St) (sg:Nat→Nat) (k:Nat):jC:=((S (sg k)).bs[k]?).getD .dead
def Xm (S:Nat→St) (sg:Nat→Nat) (β:Nat→Option (Nat×Nat)) (Z:Nat→Prop) (m:Nat):X:=⟨fun k=>dp (Hs S sg k),fun k=>if k<(S m).bs.length then β k else none,Z⟩
def Py (ops:Array Oper) (E:Nat→Bool) (t:Nat):Nat:=
 match ez ops E t ops.size with
 |some j=>j+1
 |none=>0
def val (ops:Array Oper) (F:Nat→Fr) (dd:Nat→D) (E:Nat→Bool) (t:Nat):D:=
 match ez ops E t ops.size with
 |some j=>wM (F 0) t (dd j)
 |none=>(F 0).get t
structure DI (pv:Pv) (ops:Array Oper) (F:Nat→Fr) (S:Nat→St) (dd:Nat→D) (a0:Act) (w0:World) (β0:Nat→Option (Nat×Nat)) (Z0:Nat→Prop)
  (E:Nat→Bool) (a:Act) (w:World) (β:Nat→Option (Nat×Nat)) (Z:Nat→Prop) (sg:Nat→Nat):Prop where
 size:a.tmps.size=a0.tmps.size
 defers:a.defers=a0.defers
 clo:nI ops E
 bnd:∀k,E k=true→k<ops.size
 dom:∀k p,β k=some p→k<(S (sg k)).bs.length∧sg k≤ops.size∧(sg k=0∨∃j,E j=true∧sg k=j+1∧(fH pv ops F j∨(S j).bs.length≤k))
 cr:∀k p,β k=some p→∀i,i<ops.size→(S i).bs.length≤k→k<(S (i+1)).bs.length→E i=true
 sg2:∀k p,β k=some p→∀j,E j=true→fH pv ops F j→k<(S j).bs.length→j+1≤sg k
 ph:∀k,β k=none→∀j,E j=true→fH pv ops F j→k<(S j).bs.length→(S (j+1)).bs[k]?=(S j).bs[k]?
 lt:∀k b base,β k=some (b,base)→b<w.heap.size
 inj:∀k k' b x x',β k=some (b,x)→β k'=some (b,x')→k=k'
 zd:∀k b base,β k=some (b,base)→¬Z b
 zl:∀b,Z b→b<w.heap.size
 box:∀k b base,β k=some (b,base)→jB w (Xm S sg β Z (sg k)) b base (Hs S sg k)
 frame:∀t,VR w (Xm S sg β Z (Py ops E t)) (val ops F dd E t) (a.tmps.getD t undef)
 evo:Fq (Yl (S 0) β0) w0 w
 keeps:dS w0 ((S 0).x β0 Z0) w (Xm S sg β Z ops.size)
 fresh:∀k b base,β k=some (b,base)→(∃dx,β0 k=some (b,dx))∨w0.heap.size≤b
 zfresh:∀b,Z b→Z0 b∨w0.heap.size≤b
 low:∀k,k<(S 0).ro→β k=β0 k
 AX:∀k,k<(S 0).bs.length→β0 k=none→β k=none
section
variable{pv:Pv} {P:Program} (ok:pv.Ok P) {cf:fF} (fm:ju P pv cf) {ops:Array Oper} {F:Nat→Fr} {S:Nat→St} {dd:Nat→D} (ht:Trace pv cf ops ops.toList F S dd) {dy:List (Nat×Nat)} (pJ:mW pv ops dy=true)
include fm ht
theorem pa (i:Nat) (hi:i<ops.size):eV (S i) (S (i+1))∧(¬fH pv ops F i→∀k,k<(S i).bs.length→(S (i+1)).bs[k]?=(S i).bs[k]?):=by
 have ho:ops[i]?=some ops[i]:=ς hi
 rcases ht.step i ops[i] (by simpa using ho) with⟨h1,h2⟩|⟨_,_,h3⟩
 ·obtain⟨g1,g2⟩:=uM fm h2;refine⟨g1,fun hn k hk=>?_⟩
  have he:gp pv ops[i]=false:=by
   cases h:gp pv ops[i] with
   |false=>rfl
   |true=>exact absurd ⟨_,ho,h,h1⟩ hn
  obtain⟨l,h⟩:=g2 he;rw[h];simp only;rw[τ hk]
 ·rw[h3];exact⟨.refl _,fun _ _ _=>rfl⟩
theorem du:∀(j i:Nat),i≤j→j≤ops.size→eV (S i) (S j)
 |0,i,h,_=>by
  have:i=0:=by omega
  subst this;exact .refl _
 |j+1,i,h,hj=>by
  rcases η i (j+1) with h'|h'
  ·exact(du j i z0 z0).trans (pa fm ht j z0).1
  ·have:i=j+1:=by omega
   subst this;exact .refl _
theorem lq {i:Nat}:∀(j:Nat),i≤j→j≤ops.size→∀k,k<(S i).bs.length→(∀q,i≤q→q<j→¬fH pv ops F q∨(S (q+1)).bs[k]?=(S q).bs[k]?)→(S j).bs[k]?=(S i).bs[k]?
 |0,h,_,k,_,_=>by
  have:i=0:=by omega
  subst this;rfl
 |j+1,h,hj,k,hk,hq=>by
  rcases η i (j+1) with h'|h'
  ·have ih:=lq j z0 z0 k hk fun q h1 h2=>hq q h1 z0;have mf:k<(S j).bs.length:=ξ hk (du fm ht j i z0 z0).len
   rcases hq j z0 z0 with h1|h1
   ·exact((pa fm ht j z0).2 h1 k mf).trans ih
   ·exact h1.trans ih
  ·have:i=j+1:=by omega
   subst this;rfl
variable{w:World}{sg:Nat→Nat}{β:Nat→Option (Nat×Nat)}{Z:Nat→Prop}
theorem Fp {m m':Nat} (h:m≤m') (h':m'≤ops.size):dS w (Xm S sg β Z m) w (Xm S sg β Z m'):=by
 have hl:=(du fm ht m' m h h').len
 have key:∀k p,(Xm S sg β Z m).β k=some p→(Xm S sg β Z m').β k=some p:=by
  intro k p hp;simp only[Xm] at hp⊢
  split at hp
  ·rename_i hk;rw[if_pos z0];exact hp
  ·cases hp
 exact⟨fun k p hp=>⟨p,key k p hp⟩,fun b hb=>⟨hb,rfl⟩,fun k c p _ hc=>⟨c,hc,μ _⟩,fun k c _ _ b base hb=>⟨key k _ hb,rfl⟩⟩
theorem Ao {a0 a:Act} {w0:World} {β0:Nat→Option (Nat×Nat)} {Z0:Nat→Prop} {E:Nat→Bool} (h:DI pv ops F S dd a0 w0 β0 Z0 E a w β Z sg) {i:Nat} (hi:i≤ops.size) (hd:∀j,j<i→fH pv ops F j→E j=true) (hu:∀j,i≤j→fH pv ops F j→E j=false) {k:Nat} {p:Nat×Nat} (hk:β k=some p) (OD:k<(S i).bs.length):
  sg k≤i∧Hs S sg k=((S i).bs[k]?).getD .dead∧(S i).bs[k]?=some (Hs S sg k):=by
 obtain⟨h1,h2,h3⟩:=h.dom k p hk
 have hle:sg k≤i:=by
  rcases h3 with h3|⟨j,q1,q2,q3⟩
  ·omega
  ·rw[q2]
   rcases q3 with q3|q3
   ·rcases η j i with h'|h'
    ·exact h'
    ·have:=hu j h' q3;rw[this] at q1;cases q1
   ·rcases η j i with h'|h'
    ·exact h'
    ·have Bv:=h.bnd j q1;have:=(du fm ht j i h' z0).len;omega
 have heq:=lq fm ht i hle hi k h1 fun q LC IA=>by
  by_cases he:fH pv ops F q
  ·have hE:=hd q IA he;have OC:k<(S q).bs.length:=ξ h1 (du fm ht q (sg k) LC z0).len;have:=h.sg2 k p hk q hE he OC;omega
  ·exact .inl he
 refine⟨hle,by simp only[Hs];rw[heq],?_⟩;rw[heq];simp only[Hs];rw[ζ h1];rfl
end
end Go.V
namespace Go.V
open Go.RowKit
theorem jB.aB {w:World} {x:X} {b base:Nat} {bx:jC} (h:jB w x b base bx):∃c,dp bx=some c:=by
 cases bx with
 |mem v a c=>exact⟨v,rfl⟩
 |iter s p=>exact⟨0,rfl⟩
 |map e=>exact⟨0,rfl⟩
 |dead=>exact h.elim
def glue (S:Nat→St) (j:Nat) (βl β:Nat→Option (Nat×Nat)):Nat→Option (Nat×Nat):=fun k=>if k<(S (j+1)).bs.length then βl k else β k
open Classical in
noncomputable def gw (pv:Pv) (ops:Array Oper) (F:Nat→Fr) (S:Nat→St) (j m:Nat) (sg:Nat→Nat):Nat→Nat:=
 fun k=>if k<(S (j+1)).bs.length∧(fH pv ops F j∨(S j).bs.length≤k) then m else sg k
section
variable{pv:Pv} {P:Program} {cf:fF} (fm:ju P pv cf) {ops:Array Oper} {F:Nat→Fr} {S:Nat→St} {dd:Nat→D} (ht:Trace pv cf ops ops.toList F S dd)
include fm ht
theorem DI.put {a0 a:Act} {w0 w w':World} {β0 β βl:Nat→Option (Nat×Nat)} {Z0 Z Zl:Nat→Prop} {E E':Nat→Bool} {sg:Nat→Nat} (h:DI pv ops F S dd a0 w0 β0 Z0 E a w β Z sg) {j m:Nat} {o:Oper} (hj:E j=false) (ho:ops[j]?=some o)
  (zh:∀k,E' k=true↔(E k=true∨k=j)) (C7:∀e∈o.after.toList,IS .any e=true→E e.on=true) (EV:∀i o' t,j<i→ops[i]?=some o'→o.dst=some t→o'.dst=some t→E i=false)
  (I9:∀t,o.dst=some t→t<a.tmps.size) (aar:(S 0).ro≤(S 0).bs.length) {T T':St} {v:Value}
  (hn:Nx w T (fun k=>if k<(S j).bs.length then β k else none) Z w' T' βl Zl) (R3:T.bs.length=(S j).bs.length) (Wp:T'.bs.length=(S (j+1)).bs.length) (Zt:T.ro=(S j).ro)
  (hv:VR w' (T'.x βl Zl) (dd j) v) (E0:∀k p,k<(S j).bs.length→β k=some p→T.aB k=dp (Hs S sg k))
  (vt:j+1≤m) (GP:m≤ops.size) (Bt:∀i,E i=true→fH pv ops F i→i+1≤m) (Dc:m=j+1∨∃i,E i=true∧fH pv ops F i∧m=i+1)
  (Ma:∀k p,βl k=some p→T'.aB k=dp (Hs S (gw pv ops F S j m sg) k))
  (Wq:∀k b base,βl k=some (b,base)→(fH pv ops F j∨(S j).bs.length≤k)→jB w' (T'.x βl Zl) b base (Hs S (gw pv ops F S j m sg) k))
  (hq:¬fH pv ops F j→Quiet w w') (hS:fH pv ops F j→T=S j∧T'=S (j+1)):
  DI pv ops F S dd a0 w0 β0 Z0 E' (a.put o.dst v) w' (glue S j βl β) Zl (gw pv ops F S j m sg):=by
 have Bv:j<ops.size:=by
  rcases η j ops.size with h'|h'
  ·exact h'
  ·rw[IT h'] at ho;cases ho
 have hNj:=(pa fm ht j Bv).1.len;have hN:∀{a b:Nat},a≤b→b≤ops.size→(S a).bs.length≤(S b).bs.length:=fun h1 h2=>(du fm ht _ _ h1 h2).len;have lk:∀k p,βl k=some p→k<(S (j+1)).bs.length:=fun k p hp=>by rw[←Wp];exact hn.sim.dom k p.1 p.2 hp
 have fA:∀k,k<(S j).bs.length→β k=none→βl k=none∧T'.bs[k]?=T.bs[k]?:=fun k hk h0=>hn.AX k (by rw[R3];exact hk) (by simp only[if_pos hk];exact h0);have fB:∀k p,k<(S j).bs.length→β k=some p→∃p',βl k=some p':=fun k p hk hp=>hn.keeps.dm k p (by simp only[Qap,if_pos hk];exact hp)
 have fC:∀k p,(S j).bs.length≤k→k<(S (j+1)).bs.length→β k=some p→False:=fun k p h1 h2 hp=>by
  have:=h.cr k p hp j Bv h1 h2;rw[hj] at this;cases this
 have Nt:∀k,¬(k<(S (j+1)).bs.length∧(fH pv ops F j∨(S j).bs.length≤k))→gw pv ops F S j m sg k=sg k:=fun k hk=>by simp only[gw];rw[if_neg hk]
 have Ui:∀k,k<(S (j+1)).bs.length→(fH pv ops F j∨(S j).bs.length≤k)→gw pv ops F S j m sg k=m:=fun k h1 h2=>by simp only[gw];rw[if_pos ⟨h1,h2⟩]
 have BE:∀k,k<(S (j+1)).bs.length→glue S j βl β k=βl k:=fun k hk=>by simp only[glue,if_pos hk]
 have E4:∀k,¬k<(S (j+1)).bs.length→glue S j βl β k=β k:=fun k hk=>by simp only[glue,if_neg hk]
 have T_:∀k,¬(k<(S (j+1)).bs.length∧(fH pv ops F j∨(S j).bs.length≤k))→Hs S (gw pv ops F S j m sg) k=Hs S sg k:=fun k hk=>by simp only[Hs,Nt k hk]
 have fE:∀k b base,¬k<(S j).bs.length→β k=some (b,base)→w'.heap[b]?=w.heap[b]?:=by
  intro k b base hk hb;refine hn.evo.block b (h.lt k b base hb) ?_;rintro⟨k',dx,mg,_⟩;dsimp only at mg
  split at mg
  ·rename_i hlt;have:=h.inj k k' b _ _ hb mg;omega
  ·cases mg
 have fD:¬fH pv ops F j→∀k p,k<(S j).bs.length→β k=some p→βl k=some p:=by
  intro hne k p hk hp;obtain⟨p',y7⟩:=fB k p hk hp;have e1:=E0 k p hk hp;have e2:=Ma k p' y7;rw[T_ k (by rintro⟨_,h1|h1⟩;exact hne h1;omega)] at e2;obtain⟨c,hc⟩:=(h.box k p.1 p.2 hp).aB;rw[hc] at e1 e2;exact(hn.keeps.at_ k c e2 e1 p.1 p.2 (by simp only[Qap,if_pos hk];exact hp)).1
 have KX:∀q,dS w (Xm S sg β Z q) w' (Xm S (gw pv ops F S j m sg) (glue S j βl β) Zl q):=by
  intro q;refine⟨fun k p hp=>?_,hn.keeps.z,fun k c p hp hc=>?_,fun k c hc Dk b base hb=>?_⟩
  ·simp only[Xm] at hp⊢
   split at hp
   ·rename_i OC;rw[if_pos OC]
    by_cases hk:k<(S (j+1)).bs.length
    ·rw[BE k hk]
     by_cases mf:k<(S j).bs.length
     ·exact fB k p mf hp
     ·exact(fC k p z0 hk hp).elim
    ·rw[E4 k hk];exact⟨p,hp⟩
   ·cases hp
  ·simp only[Xm] at hp hc⊢
   split at hp
   ·by_cases mf:k<(S j).bs.length
    ·obtain⟨p',y7⟩:=fB k p mf hp;obtain⟨o',h1,h2⟩:=hn.keeps.aB k c p (by simp only[Qap,if_pos mf];exact hp) (by show T'.aB k=some c;rw[Ma k p' y7];exact hc);exact⟨o',by rw[←E0 k p mf hp];exact h1,h2⟩
    ·by_cases hk:k<(S (j+1)).bs.length
     ·exact(fC k p z0 hk hp).elim
     ·rw[T_ k (fun h'=>hk h'.1)] at hc;exact⟨c,hc,μ _⟩
   ·cases hp
  ·simp only[Xm] at hb hc Dk⊢
   split at hb
   ·rename_i OC;rw[if_pos OC]
    by_cases mf:k<(S j).bs.length
    ·obtain⟨p',y7⟩:=fB k _ mf hb;have:=hn.keeps.at_ k c (by show T'.aB k=some c;rw[Ma k p' y7];exact hc) (by show T.aB k=some c;rw[E0 k _ mf hb];exact Dk) b base (by simp only[Qap,if_pos mf];exact hb);rw[BE k z0];exact this
    ·by_cases hk:k<(S (j+1)).bs.length
     ·exact(fC k _ z0 hk hb).elim
     ·rw[E4 k hk];exact⟨hb,eM (fE k b base mf hb)⟩
   ·cases hb
 have KT:dS w' (T'.x βl Zl) w' (Xm S (gw pv ops F S j m sg) (glue S j βl β) Zl (j+1)):=by
  have key:∀k p,βl k=some p→(Xm S (gw pv ops F S j m sg) (glue S j βl β) Zl (j+1)).β k=some p:=by
   intro k p hp;have:=lk k p hp;simp only[Xm];rw[if_pos this,BE k this];exact hp
  refine⟨fun k p hp=>⟨p,key k p hp⟩,fun b hb=>⟨hb,rfl⟩,fun k c p hp hc=>⟨c,?_,μ _⟩,fun k c _ _ b base hb=>⟨key k _ hb,rfl⟩⟩;show T'.aB k=some c;rw[Ma k p hp];exact hc
 have hmN:(S (j+1)).bs.length≤(S m).bs.length:=hN vt GP;have V':∀k,k<(S (j+1)).bs.length→(fH pv ops F j∨(S j).bs.length≤k)→k<(S m).bs.length:=fun k h1 _=>by omega
 refine⟨by rw[mS];exact h.size,by rw[put_defers];exact h.defers,?_,?_,?_,?_,?_,?_,?_,?_,?_,?_,?_,?_,?_,h.keeps.trans (KX _),?_,?_,?_,?_⟩
 ·
  intro k o' hk LJ e he hb
  rcases(zh k).1 hk with hk|rfl
  ·exact(zh _).2 (.inl (h.clo k o' hk LJ e he hb))
  ·rw[ho] at LJ;cases LJ;exact(zh _).2 (.inl (C7 e he hb))
 ·intro k hk
  rcases(zh k).1 hk with hk|rfl
  ·exact h.bnd k hk
  ·exact Bv
 ·
  intro k p hp
  by_cases hk:k<(S (j+1)).bs.length
  ·rw[BE k hk] at hp
   by_cases hc:fH pv ops F j∨(S j).bs.length≤k
   ·rw[Ui k hk hc];refine⟨V' k hk hc,GP,.inr ?_⟩
    rcases Dc with rfl|⟨i,q1,q2,q3⟩
    ·exact⟨j,(zh j).2 (.inr rfl),rfl,hc⟩
    ·exact⟨i,(zh i).2 (.inl q1),q3,.inl q2⟩
   ·rw[Nt k (fun h'=>hc h'.2)]
    have mf:k<(S j).bs.length:=by
     rcases η k (S j).bs.length with h'|h'
     ·exact h'
     ·exact absurd (.inr h') hc
    cases hβ:β k with
    |none=>have:=(fA k mf hβ).1;rw[hp] at this;cases this
    |some q=>
     obtain⟨d1,d2,d3⟩:=h.dom k q hβ;refine⟨d1,d2,?_⟩
     rcases d3 with d3|⟨i,r1,r2,r3⟩
     ·exact .inl d3
     ·exact .inr ⟨i,(zh i).2 (.inl r1),r2,r3⟩
  ·rw[E4 k hk] at hp;rw[Nt k (fun h'=>hk h'.1)];obtain⟨d1,d2,d3⟩:=h.dom k p hp;refine⟨d1,d2,?_⟩
   rcases d3 with d3|⟨i,r1,r2,r3⟩
   ·exact .inl d3
   ·exact .inr ⟨i,(zh i).2 (.inl r1),r2,r3⟩
 ·
  intro k p hp i hi h1 h2
  by_cases hk:k<(S (j+1)).bs.length
  ·rw[BE k hk] at hp
   by_cases mf:k<(S j).bs.length
   ·cases hβ:β k with
    |none=>have:=(fA k mf hβ).1;rw[hp] at this;cases this
    |some q=>exact(zh i).2 (.inl (h.cr k q hβ i hi h1 h2))
   ·have:i=j:=by
     rcases wt i j with h'|h'|h'
     ·have:=hN (a:=i+1) (b:=j) z0 z0;omega
     ·exact h'
     ·have:=hN (a:=j+1) (b:=i) z0 z0;omega
    subst this;exact(zh _).2 (.inr rfl)
  ·rw[E4 k hk] at hp;exact(zh i).2 (.inl (h.cr k p hp i hi h1 h2))
 ·
  intro k p hp i hi he OD
  by_cases hk:k<(S (j+1)).bs.length
  ·rw[BE k hk] at hp
   by_cases hc:fH pv ops F j∨(S j).bs.length≤k
   ·rw[Ui k hk hc]
    rcases(zh i).1 hi with hi|rfl
    ·exact Bt i hi he
    ·exact vt
   ·rw[Nt k (fun h'=>hc h'.2)]
    have mf:k<(S j).bs.length:=by
     rcases η k (S j).bs.length with h'|h'
     ·exact h'
     ·exact absurd (.inr h') hc
    cases hβ:β k with
    |none=>have:=(fA k mf hβ).1;rw[hp] at this;cases this
    |some q=>
     rcases(zh i).1 hi with hi|rfl
     ·exact h.sg2 k q hβ i hi he OD
     ·exact absurd (.inl he) hc
  ·rw[E4 k hk] at hp;rw[Nt k (fun h'=>hk h'.1)]
   rcases(zh i).1 hi with hi|rfl
   ·exact h.sg2 k p hp i hi he OD
   ·omega
 ·
  intro k Bu i hi he OD
  have hβ:k<(S j).bs.length∨¬k<(S (j+1)).bs.length→β k=none:=by
   rintro(mf|hk)
   ·cases hβ:β k with
    |none=>rfl
    |some q=>
     obtain⟨p',y7⟩:=fB k q mf hβ;rw[BE k z0,y7] at Bu;cases Bu
   ·rw[E4 k hk] at Bu;exact Bu
  have QA:β k=none:=by
   by_cases mf:k<(S j).bs.length
   ·exact hβ (.inl mf)
   ·by_cases hk:k<(S (j+1)).bs.length
    ·cases hb:β k with
     |none=>rfl
     |some q=>exact(fC k q z0 hk hb).elim
    ·exact hβ (.inr hk)
  rcases(zh i).1 hi with hi|rfl
  ·exact h.ph k QA i hi he OD
  ·obtain⟨e1,e2⟩:=hS he;have:=(fA k OD QA).2;rw[e1,e2] at this;exact this
 ·
  intro k b base hp
  by_cases hk:k<(S (j+1)).bs.length
  ·rw[BE k hk] at hp;exact hn.sim.lt k b base hp
  ·rw[E4 k hk] at hp;exact ξ (h.lt k b base hp) hn.evo.size
 ·
  have mix:∀k k' b x x',k<(S (j+1)).bs.length→¬k'<(S (j+1)).bs.length→βl k=some (b,x)→β k'=some (b,x')→False:=by
   intro k k' b x x' hk mg h1 h2
   rcases hn.fresh k b x h1 with⟨dx,eW⟩|hlt
   ·skip
    split at eW
    ·have:=h.inj k k' b _ _ eW h2;omega
    ·cases eW
   ·have:=h.lt k' b x' h2;omega
  intro k k' b x x' h1 h2
  by_cases hk:k<(S (j+1)).bs.length<;>by_cases mg:k'<(S (j+1)).bs.length
  ·rw[BE k hk] at h1;rw[BE k' mg] at h2;exact hn.sim.inj k k' b x x' h1 h2
  ·rw[BE k hk] at h1;rw[E4 k' mg] at h2;exact(mix k k' b x x' hk mg h1 h2).elim
  ·rw[E4 k hk] at h1;rw[BE k' mg] at h2;exact(mix k' k b x' x mg hk h2 h1).elim
  ·rw[E4 k hk] at h1;rw[E4 k' mg] at h2;exact h.inj k k' b x x' h1 h2
 ·
  intro k b base hp hz
  by_cases hk:k<(S (j+1)).bs.length
  ·rw[BE k hk] at hp;exact hn.sim.zd k b base hp hz
  ·rw[E4 k hk] at hp
   rcases hn.zfresh b hz with hz|hlt
   ·exact h.zd k b base hp hz
   ·have:=h.lt k b base hp;omega
 ·exact hn.sim.zl
 ·
  intro k b base hp
  by_cases hk:k<(S (j+1)).bs.length
  ·rw[BE k hk] at hp
   by_cases hc:fH pv ops F j∨(S j).bs.length≤k
   ·rw[Ui k hk hc];exact(Wq k b base hp hc).cw (KT.trans (Fp fm ht vt GP)) rfl
   ·have mf:k<(S j).bs.length:=by
     rcases η k (S j).bs.length with h'|h'
     ·exact h'
     ·exact absurd (.inr h') hc
    have hne:¬fH pv ops F j:=fun h'=>hc (.inl h');rw[Nt k (fun h'=>hc h'.2),T_ k (fun h'=>hc h'.2)]
    cases hβ:β k with
    |none=>have:=(fA k mf hβ).1;rw[hp] at this;cases this
    |some q=>
     have:=fD hne k q mf hβ;rw[hp] at this;cases this;exact(h.box k b base hβ).cw (KX _) (hq hne b (h.lt k b base hβ))
  ·rw[E4 k hk] at hp;rw[Nt k (fun h'=>hk h'.1),T_ k (fun h'=>hk h'.1)];exact(h.box k b base hp).cw (KX _) (fE k b base z0 hp)
 ·
  intro t
  by_cases hd:o.dst=some t
  ·have hl:ez ops E' t ops.size=some j:=by
    have s:=gT ops E' t ops.size
    cases hl:ez ops E' t ops.size with
    |none=>
     rw[hl] at s;have:=s j o Bv ho hd;rw[(zh j).2 (.inr rfl)] at this;cases this
    |some i=>
     rw[hl] at s;obtain⟨s1,s2,⟨o',s3,s4⟩,s5⟩:=s
     rcases wt i j with h'|h'|h'
     ·have:=s5 j o h' Bv ho hd;rw[(zh j).2 (.inr rfl)] at this;cases this
     ·rw[h']
     ·have:=EV i o' t h' s3 hd s4
      rcases(zh i).1 s2 with h2|h2
      ·rw[this] at h2;cases h2
      ·omega
   have hget:(a.put o.dst v).tmps.getD t undef=v:=by
    rw[hd];simp only[Act.put,κ];rw[ο (I9 t hd)];rfl
   rw[hget];simp only[val,Py,hl];unfold wM
   split
   ·exact .bo _ _ _
   ·exact hv.mono KT
  ·have hl:ez ops E' t ops.size=ez ops E t ops.size:=by
    refine vc fun i o' h1 h2=>?_;have hij:i≠j:=fun e=>by subst e;rw[ho] at h1;cases h1;exact hd h2
    rw[zh i];simp[hij]
   have hget:(a.put o.dst v).tmps.getD t undef=a.tmps.getD t undef:=by
    cases Wf:o.dst with
    |none=>rfl
    |some u=>
     have hut:u≠t:=fun e=>hd (by rw[Wf,e]);simp only[Act.put,κ];rw[IN hut]
   rw[hget];have hf:=h.frame t;simp only[val,Py,hl] at hf⊢;exact hf.mono (KX _)
 ·
  refine h.evo.trans hn.evo (fun _ hm=>hm) fun b hb hm=>?_;obtain⟨k,base,hk,db⟩:=hm;dsimp only at hk
  split at hk
  ·rcases h.fresh k b base hk with⟨dx,eW⟩|hlt
   ·refine⟨k,dx,eW,?_⟩;have:=(du fm ht j 0 z0 z0).ro;rw[←this,←Zt];exact db
   ·omega
  ·cases hk
 ·
  intro k b base hp
  by_cases hk:k<(S (j+1)).bs.length
  ·rw[BE k hk] at hp
   rcases hn.fresh k b base hp with⟨dx,eW⟩|hlt
   ·skip
    split at eW
    ·exact h.fresh k b dx eW
    ·cases eW
   ·exact .inr (θ h.evo.size hlt)
  ·rw[E4 k hk] at hp;exact h.fresh k b base hp
 ·intro b hz
  rcases hn.zfresh b hz with hz|hlt
  ·exact h.zfresh b hz
  ·exact .inr (θ h.evo.size hlt)
 ·
  intro k hk;have h0:=hN (a:=0) (b:=j) z0 z0;have mf:k<(S j).bs.length:=by omega
  have hr:=(du fm ht j 0 z0 z0).ro;have:=(hn.low k (by rw[Zt,hr];exact hk)).2;rw[BE k z0,this];simp only[if_pos mf];exact h.low k hk
 ·
  intro k hk Bu;have h0:=hN (a:=0) (b:=j) z0 z0;have mf:k<(S j).bs.length:=by omega
  rw[BE k z0];exact(fA k mf (h.AX k hk Bu)).1
end
end Go.V
namespace Go.V
open Go.RowKit
variable{pv:Pv}{o:Oper}
theorem HR (h:FV o=true):gp pv o=false:=by
 obtain⟨dst,op,ty,pos,after,guard⟩:=o;cases op<;>simp only[FV,υ] at h<;>try rfl
 rename_i c;obtain⟨callee,args,qZ⟩:=c;cases callee<;>simp only[υ] at h
 rename_i b;cases b<;>simp at h<;>rfl
theorem oT (h:gp pv o=true):FV o=false∧Ko o=false:=by
 refine⟨?_,?_⟩
 ·cases hp:FV o with
  |false=>rfl
  |true=>rw[HR hp] at h;cases h
 ·obtain⟨dst,op,ty,pos,after,guard⟩:=o
  cases op<;>first|rfl|(simp[gp] at h)
variable{k:Nat}
theorem Ez {a b:St} (h:a.bs[k]?=b.bs[k]?) (v:Nat):a.fX k v=b.fX k v:=by
 simp only[St.fX,h]
variable{fr:Fr}{st:St}{d:D}
theorem NF {ah:St} {op:Op} {ty:TypeId} {a:Operand} (ha:jb op=some a) (h:dN pv fr st op ty=some (d,ah)):ah=st∧∀T:St,(∀k,(fr.ev a).oV=some k→T.bs[k]?=st.bs[k]?)→dN pv fr T op ty=some (d,T):=by
 cases op<;>simp only[jb,Qa4.injEq,reduceCtorEq] at ha
 case load t x=>
  subst ha;simp only[dN] at h⊢;obtain⟨r,hz,hs⟩:=γ.1 h;cases hs;refine⟨rfl,fun T hT=>?_⟩
  have:iM pv t (fr.ev x) T=iM pv t (fr.ev x) st:=by
   cases hx:fr.ev x<;>first|rfl|skip
   rename_i k v off;simp only[iM];rw[Ez (hT k (by rw[hx];rfl))]
  rw[this,hz];rfl
 case indexAddr t x i=>
  subst ha;simp only[dN] at h⊢;obtain⟨r,hz,hs⟩:=γ.1 h;cases hs;refine⟨rfl,fun T hT=>?_⟩
  have:bX pv t (fr.ev x) (fr.ev i) T=bX pv t (fr.ev x) (fr.ev i) st:=by
   cases hx:fr.ev x with
   |win k v off len sz=>
    have hm:=Ez (hT k (by rw[hx];rfl)) v;simp only[bX];cases fr.ev i<;>try rfl
    cases pv.cy t with
    |none=>rfl
    |some td=>cases td<;>first|rfl|(simp only[hm])
   |_=>
    simp only[bX];cases fr.ev i<;>try rfl
    cases pv.cy t with
    |none=>rfl
    |some td=>cases td<;>rfl
  rw[this,hz];rfl
variable{cf:fF}
theorem AG (h:Ko o=true):gd pv cf fr st o=dN pv fr st o.op o.type:=by
 unfold gd
 split
 ·rename_i ib;simp[Ko,ib,jb] at h
 ·rfl
theorem AR (h:FV o=true):gd pv cf fr st o=dN pv fr st o.op o.type:=by
 unfold gd
 split
 ·rename_i ib;simp only[FV,ib,υ] at h
 ·rfl
def Gv (fr:Fr) (ts:List Nat):Fr:=⟨0,[],ts.map fun t=>(t,fr.get t)⟩
theorem Bb (f:Nat→D) (t:Nat):∀(ts:List Nat),look t (ts.map fun t=>(t,f t))=if t∈ts then f t else .bo
 |[]=>rfl
 |u::l=>by
  simp only[List.map_cons,look]
  by_cases h:t=u
  ·subst h;simp
  ·have:Qaj t u=false:=by
    cases hb:Qaj t u with
    |false=>rfl
    |true=>exact absurd (BY hb) h
   rw[this,Bb f t l];simp[h]
theorem qk (fr:Fr) (ts:List Nat) (t:Nat):(Gv fr ts).get t=if t∈ts then fr.get t else .bo:=by
 simp only[Gv,Fr.get,Qb4];exact Bb fr.get t ts
def PM (p:Option (Nat×Nat)) (bx:jC):jC:=
 match p,bx with
 |some _,.mem v a _=>.mem v a []
 |some _,.iter s q=>.iter s q
 |some _,.map es=>.map es
 |_,_=>.dead
def y9 (st:St) (β:Nat→Option (Nat×Nat)) (H:Nat→jC):St:=⟨(Qau st.bs.length).map fun k=>PM (β k) (H k),st.flr,st.ro⟩
theorem Br {β:Nat→Option (Nat×Nat)} {H:Nat→jC} (h:k<st.bs.length):(y9 st β H).bs[k]?=some (PM (β k) (H k)):=by
 simp[y9,h]
theorem jf (st:St) (β:Nat→Option (Nat×Nat)) (H:Nat→jC):(y9 st β H).bs.length=st.bs.length:=by simp[y9]
variable{w:World}{x x':X}
theorem y8 {b base:Nat} {bx:jC} (h:jB w x b base bx) (p:Nat×Nat):jB w x' b base (PM (some p) bx)∧dp (PM (some p) bx)=dp bx:=by
 cases bx with
 |mem v a c=>
  obtain⟨c',el,fr,h1,h2,h3,_⟩:=h;exact⟨⟨c',el,fr,h1,by simp;omega,h3,fun j d hd=>by simp at hd⟩,rfl⟩
 |iter s q=>exact⟨h,rfl⟩
 |map e=>exact⟨h,rfl⟩
 |dead=>exact h.elim
def DU (E:Nat→Bool) (j:Nat):Nat→Bool:=fun k=>E k||Qaj k j
theorem kf (E:Nat→Bool) (j k:Nat):DU E j k=true↔(E k=true∨k=j):=by
 simp[DU]
theorem VR.X7 {N:Nat} (hZ:∀b,x.Z b→x'.Z b) (hv:∀k,x'.aB k=x.aB k) (hβ:∀k p,k<N→x.β k=some p→x'.β k=some p) {v:Value} (h:VR w x d v) (hr:d.ref≤N):VR w x' d v:=by
 induction h with
 |im d v h=>exact .im _ _ (h.mono fun b hb=>⟨hZ b hb,rfl⟩)
 |win k vr off len s a cap hc hk hm h=>
  simp only[AN] at hr;refine .win k vr off len s a cap hc (by obtain⟨p,hp⟩:=hk;exact⟨p,hβ k p z0 hp⟩) (fun c hc=>hm c (by rw[←hv];exact hc)) fun hc=>?_;obtain⟨b,base,sz,h1,h2⟩:=h (by rw[←hv];exact hc);exact⟨b,base,sz,hβ k _ z0 h1,h2⟩
 |ptr k vr off a hk hm h=>
  simp only[AN] at hr;refine .ptr k vr off a (by obtain⟨p,hp⟩:=hk;exact⟨p,hβ k p z0 hp⟩) (fun c hc=>hm c (by rw[←hv];exact hc)) fun hc=>?_;obtain⟨b,base,h1,h2⟩:=h (by rw[←hv];exact hc);exact⟨b,base,hβ k _ z0 h1,h2⟩
 |mp k r hk h=>
  simp only[AN] at hr;refine .mp k r (by obtain⟨p,hp⟩:=hk;exact⟨p,hβ k p z0 hp⟩) fun hc=>?_;obtain⟨base,h1⟩:=h (by rw[←hv];exact hc);exact⟨base,hβ k _ z0 h1⟩
 |fn f cs vs hl EN ih=>simp only[AN] at hr;exact .fn f cs vs hl fun i c v hc hv=>ih i c v hc hv (θ (cn (φ hc)) hr)
 |agg cs vs hl h1 EN ih=>simp only[AN] at hr;exact .agg cs vs hl h1 fun i c v hc hv=>ih i c v hc hv (θ (cn (φ hc)) hr)
 |tup cs vs hl EN ih=>simp only[AN] at hr;exact .tup cs vs hl fun i c v hc hv=>ih i c v hc hv (θ (cn (φ hc)) hr)
section
variable{pv:Pv} {P:Program} {cf:fF} (fm:ju P pv cf) {ops:Array Oper} {F:Nat→Fr} {S:Nat→St} {dd:Nat→D} (ht:Trace pv cf ops ops.toList F S dd)
include fm ht
theorem Mu {w:World} {sg:Nat→Nat} {β:Nat→Option (Nat×Nat)} {Z:Nat→Prop} {j m k b base:Nat} (hjm:j≤m) (hm:m≤ops.size) (h:jB w (Xm S sg β Z m) b base (Hs S sg k)) (he:(S j).bs[k]?=some (Hs S sg k)) (hs:oF (some k) (S j) (S m)=true):jB w (Xm S sg β Z j) b base (Hs S sg k):=by
 have hl:=(du fm ht m j hjm hm).len;unfold oF at hs;simp only at hs
 split at hs
 ·rename_i hb;have hle:=BY hb;have:Xm S sg β Z j=Xm S sg β Z m:=by simp only[Xm,hle]
  rw[this];exact h
 ·rw[he] at hs
  split at hs
  ·rename_i v ar c hc
   cases nu:Hs S sg k with
   |mem v' ar' c'=>
    rw[nu] at hc h;cases hc;have hr:=Qa8 hs;obtain⟨c',el,fr,h1,h2,h3,h4⟩:=h;refine⟨c',el,fr,h1,h2,h3,fun i d hd=>?_⟩;obtain⟨v,v1,v3,v2⟩:=h4 i d hd;refine⟨v,v1,v3,v2.X7 (x:=Xm S sg β Z m) (x':=Xm S sg β Z j) (N:=(S j).bs.length) (fun _ hb=>hb) (fun _=>rfl) (fun k' p mg hp=>?_) (θ (cn (φ hd)) hr)⟩;simp only[Xm] at hp⊢;rw[if_pos mg]
    split at hp
    ·exact hp
    ·cases hp
   |_=>rw[nu] at hc;cases hc
  ·cases hs
end
section
variable{pv:Pv} {P:Program} (ok:pv.Ok P) {cf:fF} (fm:ju P pv cf) {ops:Array Oper} {F:Nat→Fr} {S:Nat→St} {dd:Nat→D} (ht:Trace pv cf ops ops.toList F S dd) {dy:List (Nat×Nat)} (pJ:mW pv ops dy=true) (iA:Still dy ops F S)
include ok fm ht pJ iA
theorem DI.step {Q:Exit→Act→World→Prop} {a0 a:Act} {w0 w:World} {β0 β:Nat→Option (Nat×Nat)} {Z0 Z:Nat→Prop} {E:Nat→Bool} {sg:Nat→Nat} (h:DI pv ops F S dd a0 w0 β0 Z0 E a w β Z sg) (h0:iH w0 (S 0) β0 Z0)
  {j:Nat} {o:Oper} (ho:ops[j]?=some o) (hj:E j=false) (C7:∀e∈o.after.toList,IS .any e=true→E e.on=true) (I9:xQ ops.toList a0.tmps.size)
  {K:Act→World→Prop} (hK:∀a' w' β' Z' Uj,DI pv ops F S dd a0 w0 β0 Z0 (DU E j) a' w' β' Z' Uj→K a' w'):wpOp P ops Q j K a w:=by
 have Bv:j<ops.size:=by
  rcases η j ops.size with h'|h'
  ·exact h'
  ·rw[IT h'] at ho;cases ho
 have hcl:nI ops (DU E j):=by
  intro k o' hk LJ e he hb
  rcases(kf E j k).1 hk with hk|rfl
  ·exact(kf E j _).2 (.inl (h.clo k o' hk LJ e he hb))
  ·rw[ho] at LJ;cases LJ;exact(kf E _ _).2 (.inl (C7 e he hb))
 have C1:∀i x,i<j→ops[i]?=some x→mI pv ops (listed dy i j) x o=true→E i=true:=by
  intro i x hi hx hc
  rcases(kf E j i).1 (nT pJ hi hx ho hc hcl ((kf E j j).2 (.inr rfl))) with h'|h'
  ·exact h'
  ·omega
 have C2:∀i x,j<i→ops[i]?=some x→mI pv ops (listed dy j i) o x=true→E i=false:=by
  intro i x hi hx hc
  cases hE:E i with
  |false=>rfl
  |true=>have:=nT pJ hi ho hx hc h.clo hE;rw[hj] at this;cases this
 have EV:∀i o' t,j<i→ops[i]?=some o'→o.dst=some t→o'.dst=some t→E i=false:=by
  intro i o' t hi LJ h1 h2;refine C2 i o' hi LJ ?_;simp[mI,Ef,h1,h2]
 have Zm:∀t,o.dst=some t→t<a.tmps.size:=fun t hd=>by
  rw[h.size];exact I9 o (by rw[←Θ] at ho;exact φ ho) t hd
 have hlw:∀t∈looks ops o,ez ops E t ops.size=ez ops (fun _=>true) t j:=by
  intro t mA
  refine vc fun i o' h1 h2=>⟨fun⟨_,hE⟩=>⟨?_,rfl⟩,fun⟨hi,_⟩=>⟨by omega,C1 i o' hi h1 (by simp[mI,zp,h2,mA])⟩⟩
  rcases wt i j with h'|h'|h'
  ·exact h'
  ·subst h';rw[hj] at hE;cases hE
  ·have:=C2 i o' h' h1 (by simp[mI,zp,h2,mA]);rw[this] at hE;cases hE
 have T2:=(du fm ht j 0 z0 z0)
 have hNj:=(pa fm ht j Bv).1
 have P_:∀(T:St) (m:Nat),m≤j→T.bs.length=(S j).bs.length→(∀k p,k<(S j).bs.length→β k=some p→T.aB k=dp (Hs S sg k))→
   dS w (Xm S sg β Z m) w (T.x (fun k=>if k<(S j).bs.length then β k else none) Z):=by
  intro T m hm hT hv;refine(Fp fm ht hm z0).trans ⟨fun k p hp=>⟨p,hp⟩,fun b hb=>⟨hb,rfl⟩,fun k c p hp hc=>⟨c,?_,μ _⟩,fun k c _ _ b base hb=>⟨hb,rfl⟩⟩;simp only[Xm] at hp⊢
  split at hp
  ·rename_i hk;rw[←hv k p hk hp];exact hc
  ·cases hp
 have hG:∀(T:St),T.bs.length=(S j).bs.length→(∀k p,k<(S j).bs.length→β k=some p→T.aB k=dp (Hs S sg k))→
   qN w (T.x (fun k=>if k<(S j).bs.length then β k else none) Z) (Gv (F j) (looks ops o)) a.tmps:=by
  intro T hT hv t;rw[qk]
  split
  ·rename_i mA;have hf:=h.frame t;have UQ:=(ra ht t j z0).1;have hl:=hlw t mA;simp only[val,Py,hl] at hf;rw[UQ];have s:=gT ops (fun _=>true) t j
   cases hq:ez ops (fun _=>true) t j with
   |none=>rw[hq] at hf;exact hf.mono (P_ T 0 z0 hT hv)
   |some i=>rw[hq] at hf s;exact hf.mono (P_ T (i+1) s.1 hT hv)
  ·exact .bo _ _ _
 have T6:aD ops (F j) o=aD ops (Gv (F j) (looks ops o)) o:=z7 fun t mA=>by rw[qk,if_pos mA]
 have hGo:∀st,gd pv cf (F j) st o=gd pv cf (Gv (F j) (looks ops o)) st o:=fun st=>AV fun t mA=>by rw[qk,if_pos mA]
 have Ic:∀(T:St),T.bs.length=(S j).bs.length→T.flr=(S j).flr→T.ro=(S j).ro→(∀k p,k<(S j).bs.length→β k=some p→T.aB k=dp (Hs S sg k))→
   (∀k b base bx,k<(S j).bs.length→β k=some (b,base)→T.bs[k]?=some bx→jB w (T.x (fun k=>if k<(S j).bs.length then β k else none) Z) b base bx)→
   iH w T (fun k=>if k<(S j).bs.length then β k else none) Z:=by
  intro T hT mi hr hv hb
  have cut:∀k p,(if k<(S j).bs.length then β k else none)=some p→k<(S j).bs.length∧β k=some p:=by
   intro k p hp
   split at hp
   ·exact⟨by assumption,hp⟩
   ·cases hp
  refine⟨fun k b base hk=>by rw[hT];exact(cut k _ hk).1,fun k b base hk=>h.lt k b base (cut k _ hk).2,fun k k' b x x' h1 h2=>h.inj k k' b x x' (cut k _ h1).2 (cut k' _ h2).2,fun k b base hk=>h.zd k b base (cut k _ hk).2,h.zl,
   fun k b base bx hk ic=>hb k b base bx (cut k _ hk).1 (cut k _ hk).2 ic,?_,?_⟩
  ·rw[mi,hT,T2.flr];exact θ h0.flr T2.len
  ·rw[hr,hT,T2.ro];exact θ h0.ro T2.len
 have E0:∀k p,k<(S j).bs.length→β k=some p→(y9 (S j) β (Hs S sg)).aB k=dp (Hs S sg k):=by
  intro k p hk hp;simp only[Qad,Br hk,Ξ,hp];exact(y8 (x':=Xm S sg β Z 0) (h.box k p.1 p.2 hp) p).2
 have Zs:=Ic (y9 (S j) β (Hs S sg)) (jf _ _ _) rfl rfl E0 fun k b base bx hk hp ic=>by
  rw[Br hk] at ic;cases ic;rw[hp];exact(y8 (h.box k b base hp) _).1
 have hollow:∀(T T':St) (w':World) (βl:Nat→Option (Nat×Nat)) (Zl:Nat→Prop) (v:Value),T.bs.length=(S j).bs.length→T.ro=(S j).ro→(∀k p,k<(S j).bs.length→β k=some p→T.aB k=dp (Hs S sg k))→¬fH pv ops F j→
   ((S (j+1)=S j∧T'=T)∨∃ar cs,S (j+1)=(S j).push (.mem 0 ar cs)∧T'=T.push (.mem 0 ar cs))→
   Nx w T (fun k=>if k<(S j).bs.length then β k else none) Z w' T' βl Zl→VR w' (T'.x βl Zl) (dd j) v→Quiet w w'→K (a.put o.dst v) w':=by
  intro T T' w' βl Zl v xG Wo E0 hne R5 hn hv hq;obtain⟨m,vt,Bt,Dc⟩:=Ig (fun i=>E i=true∧fH pv ops F i) (j+1) ops.size
  have GP:m≤ops.size:=by rcases Dc with rfl|⟨i,q1,_,rfl⟩<;>omega
  have ji:T'.bs.length=(S (j+1)).bs.length:=by
   rcases R5 with⟨e1,e2⟩|⟨ar,cs,e1,e2⟩
   ·rw[e1,e2,xG]
   ·rw[e1,e2];simp[Qaf,xG]
  have lk:∀k p,βl k=some p→k<(S (j+1)).bs.length:=fun k p hp=>by rw[←ji];exact hn.sim.dom k p.1 p.2 hp
  have NG:∀k p,k<(S j).bs.length→βl k=some p→∃q,β k=some q:=by
   intro k p hk hp
   cases hβ:β k with
   |some q=>exact⟨q,rfl⟩
   |none=>
    have:=(hn.AX k (by rw[xG];exact hk) (by simp only[if_pos hk];exact hβ)).1;rw[hp] at this;cases this
  have Qq:∀k p,βl k=some p→(S j).bs.length≤k→T'.bs[k]?=some (Hs S (gw pv ops F S j m sg) k):=by
   intro k p hp hk;have oO:=lk k p hp
   have hβ:β k=none:=by
    cases hb:β k with
    |none=>rfl
    |some q=>have:=h.cr k q hb j Bv hk oO;rw[hj] at this;cases this
   have tp:gw pv ops F S j m sg k=m:=by simp only[gw];rw[if_pos ⟨oO,.inr hk⟩]
   have iA:=lq fm ht m vt GP k oO fun q LC IA=>by
    by_cases he:fH pv ops F q
    ·right;refine h.ph k hβ q ?_ he (ξ oO (du fm ht q (j+1) LC z0).len)
     rcases Dc with rfl|⟨i,q1,⟨q2,q3⟩,rfl⟩
     ·omega
     ·rcases η q i with h'|h'
      ·obtain⟨o1,p1,p2,_⟩:=he;obtain⟨o2,r1,r2,_⟩:=q3;obtain⟨GO,Od⟩:=oT r2;exact nT pJ h' p1 r1 (by simp[mI,p2,GO,Od]) h.clo q2
      ·have:q=i:=by omega
       rw[this];exact q2
    ·exact .inl he
   rcases R5 with⟨e1,e2⟩|⟨ar,cs,e1,e2⟩
   ·rw[e1] at oO;omega
   ·have hkk:k=(S j).bs.length:=by rw[e1] at oO;simp[Qaf] at oO;omega
    have g1:(S (j+1)).bs[k]?=some (.mem 0 ar cs):=by rw[e1,hkk];simp[Qaf]
    have g2:T'.bs[k]?=some (.mem 0 ar cs):=by rw[e2,hkk];simp[Qaf,xG]
    simp only[Hs,tp];rw[g2,iA,g1];rfl
  refine hK _ _ _ _ _ (h.put fm ht hj ho (kf E j) C7 EV Zm h0.ro hn xG ji Wo hv E0 vt GP (fun i h1 h2=>Bt i (h.bnd i h1) ⟨h1,h2⟩) ?_ ?_ ?_ (fun _=>hq) fun he=>absurd he hne)
  ·rcases Dc with h'|⟨i,_,⟨q2,q3⟩,q4⟩
   ·exact .inl h'
   ·exact .inr ⟨i,q2,q3,q4⟩
  ·intro k p hp
   by_cases hk:k<(S j).bs.length
   ·obtain⟨q,pK⟩:=NG k p hk hp
    have tp:gw pv ops F S j m sg k=sg k:=by
     simp only[gw];rw[if_neg];rintro⟨_,h'|h'⟩
     ·exact hne h'
     ·omega
    simp only[Hs,tp];have:=E0 k q hk pK;simp only[Hs] at this;rw[←this]
    have hg:T'.bs[k]?=T.bs[k]?:=by
     rcases R5 with⟨_,e2⟩|⟨ar,cs,_,e2⟩
     ·rw[e2]
     ·rw[e2];simp only[Qaf];rw[τ (by rw[xG];exact hk)]
    simp only[Qad,hg]
   ·have:=Qq k p hp z0;simp only[Qad,this,Ξ]
  ·intro k b base hp hc
   rcases hc with hc|hc
   ·exact absurd hc hne
   ·exact hn.sim.box k b base _ hp (Qq k _ hp hc)
 unfold wpOp;simp only[ho]
 rcases ht.step j o (by simpa using ho) with⟨hw,ib⟩|⟨hw,hd,hs⟩
 ·rw[T6] at hw;rw[tE (hG _ (jf _ _ _) E0) hw];simp only[if_true];left;rw[hGo] at ib
  cases GO:FV o with
  |true=>
   have he:=HR (pv:=pv) GO
   have hne:¬fH pv ops F j:=by
    rintro⟨o',h1,h2,_⟩;rw[ho] at h1;cases h1;rw[he] at h2;cases h2
   rw[AR GO] at ib;obtain⟨T',R4,R5⟩:=HV GO ib (y9 (S j) β (Hs S sg)) (jf _ _ _);rw[←AR (cf:=cf) GO] at R4;exact tO ok fm Zs (hG _ (jf _ _ _) E0) R4 fun v w' β' Z' hn hv hq=>hollow (y9 (S j) β (Hs S sg)) T' w' β' Z' v (jf _ _ _) rfl E0 hne R5 hn hv (hq he)
  |false=>
   cases tq:Ko o with
   |true=>
    have hne:¬fH pv ops F j:=by
     rintro⟨o',h1,h2,_⟩;rw[ho] at h1;cases h1;rw[(oT h2).2] at tq;cases tq
    obtain⟨ad,zf⟩:∃ad,jb o.op=some ad:=by
     unfold Ko at tq
     cases hq:jb o.op with
     |none=>rw[hq] at tq;cases tq
     |some x=>exact⟨x,rfl⟩
    have VW:aD ops (F j) o=some true:=by rw[T6];exact hw
    have R2:(Gv (F j) (looks ops o)).ev ad=(F j).ev ad:=by
     refine(BI (ts:=looks ops o) (fun t mA=>by rw[qk,if_pos mA]) fun t e=>?_);subst e;refine Qb3 _ (oK ?_);cases Vs:o.op<;>rw[Vs] at zf<;>simp only[jb,Qa4.injEq,reduceCtorEq] at zf<;>subst zf<;>simp[Ω]
    have place:∀k,((F j).ev ad).oV=some k→∃p,β k=some p∧k<(S j).bs.length:=by
     intro k hk;have hv:=xO (hG _ (jf _ _ _) E0) ad;rw[R2] at hv
     have cut:(∃p,(if k<(S j).bs.length then β k else none)=some p)→∃p,β k=some p∧k<(S j).bs.length:=by
      rintro⟨p,hp⟩
      split at hp
      ·exact⟨p,hp,by assumption⟩
      ·cases hp
     cases hd:(F j).ev ad with
     |ptr k' v off=>
      rw[hd] at hk hv;simp only[D.oV,Qa4.injEq] at hk;subst hk;obtain⟨_,_,hp,_⟩:=cH hv;exact cut hp
     |win k' v off len sz=>
      rw[hd] at hk hv;simp only[D.oV,Qa4.injEq] at hk;subst hk;obtain⟨_,_,_,_,hp,_⟩:=fJ hv;exact cut hp
     |_=>rw[hd] at hk;simp[D.oV] at hk
    have same:∀k,((F j).ev ad).oV=some k→(S j).bs[k]?=some (Hs S sg k)∧(sg k≤j∨oF (some k) (S j) (S (sg k))=true):=by
     intro k hk;obtain⟨p,hp,mf⟩:=place k hk;obtain⟨d1,d2,d3⟩:=h.dom k p hp
     have fin:(S j).bs[k]?=(S (sg k)).bs[k]?:=by
      rcases Nat.le_total (sg k) j with hle|hle
      ·refine lq fm ht j hle z0 k d1 fun q LC IA=>?_
       by_cases he:fH pv ops F q
       ·right;have OC:k<(S q).bs.length:=ξ d1 (du fm ht q (sg k) LC z0).len
        have Wz:E q=false:=by
         cases hE:E q with
         |false=>rfl
         |true=>have:=h.sg2 k p hp q hE he OC;omega
        obtain⟨x,x1,x2,x3⟩:=he
        have hl:listed dy q j=true:=by
         cases hl:listed dy q j with
         |true=>rfl
         |false=>have:=C1 q x IA x1 (by simp[mI,x2,GO,hl]);rw[Wz] at this;cases this
        exact(iA j q o ad k x ho zf VW hk x1 (oT x2).2 x3 (fun _=>hl) (fun h'=>by omega)).1
       ·exact .inl he
      ·rcases Qbi hle with heq|hlt
       ·rw[heq]
       rcases d3 with d3|⟨j',q1,q2,q3⟩
       ·omega
       have Df:fH pv ops F j':=by
        rcases q3 with q3|q3
        ·exact q3
        ·have:=(du fm ht j' j z0 (by have:=h.bnd j' q1;omega)).len;omega
       symm
       refine lq fm ht (sg k) hle d2 k mf fun q LC IA=>?_
       by_cases he:fH pv ops F q
       ·right
        have hqj:j<q:=by
         rcases Qbi LC with h'|h'
         ·subst h';exact absurd he hne
         ·exact h'
        have Wz:E q=true:=by
         rcases η q j' with h'|h'
         ·obtain⟨x,x1,x2,_⟩:=he;obtain⟨y,y1,y2,_⟩:=Df;obtain⟨n1,n2⟩:=oT y2;exact nT pJ h' x1 y1 (by simp[mI,x2,n1,n2]) h.clo q1
         ·have:q=j':=by omega
          rw[this];exact q1
        obtain⟨x,x1,x2,x3⟩:=he
        have hl:listed dy j q=true:=by
         cases hl:listed dy j q with
         |true=>rfl
         |false=>have:=C2 q x hqj x1 (by simp[mI,x2,GO,hl]);rw[Wz] at this;cases this
        exact(iA j q o ad k x ho zf VW hk x1 (oT x2).2 x3 (fun h'=>by omega) (fun _=>hl)).1
       ·exact .inl he
     refine⟨?_,?_⟩
     ·rw[fin,ζ d1];simp only[Hs];rw[ζ d1];rfl
     ·rcases η j (sg k) with hlt|hge
      ·right
       rcases d3 with d3|⟨j',q1,q2,q3⟩
       ·omega
       have Df:fH pv ops F j':=by
        rcases q3 with q3|q3
        ·exact q3
        ·have:=(du fm ht j' j z0 (by have:=h.bnd j' q1;omega)).len;omega
       have Zd:j<j':=by
        rcases η j j' with h'|h'
        ·exact h'
        ·have:j=j':=by omega
         subst this;exact absurd Df hne
       obtain⟨x,x1,x2,x3⟩:=Df
       have hl:listed dy j j'=true:=by
        cases hl:listed dy j j' with
        |true=>rfl
        |false=>have:=C2 j' x Zd x1 (by simp[mI,x2,GO,hl]);rw[q1] at this;cases this
       have:=(iA j j' o ad k x ho zf VW hk x1 (oT x2).2 x3 (fun h'=>by omega) (fun _=>hl)).2 Zd;rw[q2];exact this
      ·exact .inl hge
    let T:St:=⟨(Qau (S j).bs.length).map fun k=>if((F j).ev ad).oV=some k then Hs S sg k else PM (β k) (Hs S sg k),(S j).flr,(S j).ro⟩
    have Tl:T.bs.length=(S j).bs.length:=by simp[T]
    have Tg:∀k,k<(S j).bs.length→T.bs[k]?=some (if((F j).ev ad).oV=some k then Hs S sg k else PM (β k) (Hs S sg k)):=by
     intro k hk;simp[T,hk]
    have Tv:∀k p,k<(S j).bs.length→β k=some p→T.aB k=dp (Hs S sg k):=by
     intro k p hk hp;simp only[Qad,Tg k hk,Ξ]
     split
     ·rfl
     ·rw[hp];exact(y8 (x':=Xm S sg β Z 0) (h.box k p.1 p.2 hp) p).2
    have Ts:=Ic T Tl rfl rfl Tv fun k b base bx hk hp ic=>by
     rw[Tg k hk] at ic;cases ic
     split
     ·rename_i hbk;obtain⟨e1,e2⟩:=same k hbk;have ic:=h.box k b base hp
      rcases η j (sg k) with hlt|hge
      ·refine jB.cw ?_ (P_ T j (μ _) Tl Tv) rfl;exact Mu fm ht z0 (h.dom k _ hp).2.1 ic e1 (e2.resolve_left z0)
      ·exact ic.cw (P_ T (sg k) hge Tl Tv) rfl
     ·rw[hp];exact(y8 (h.box k b base hp) _).1
    rw[AG tq] at ib;obtain⟨hSS,hTT⟩:=NF zf ib
    have R4:=hTT T fun k hk=>by
     rw[R2] at hk;obtain⟨p,hp,mf⟩:=place k hk;rw[Tg k mf,if_pos hk,(same k hk).1]
    rw[←AG (cf:=cf) tq] at R4
    exact tO ok fm Ts (hG _ Tl Tv) R4 fun v w' β' Z' hn hv hq=>hollow T T w' β' Z' v Tl rfl Tv hne (.inl ⟨hSS,rfl⟩) hn hv (hq (by
     cases he:gp pv o with
     |false=>rfl
     |true=>rw[(oT he).2] at tq;cases tq))
   |false=>
    have sb:∀k p,β k=some p→k<(S j).bs.length→sg k≤j∧Hs S sg k=((S j).bs[k]?).getD .dead∧(S j).bs[k]?=some (Hs S sg k):=by
     intro k p hk mf;refine Ao fm ht h z0 (fun i hi he=>?_) (fun i hi he=>?_) hk mf
     ·obtain⟨x,h1,h2,_⟩:=he;exact C1 i x hi h1 (by simp[mI,h2,GO,tq])
     ·rcases η j i with h'|h'
      ·obtain⟨x,h1,h2,_⟩:=he;exact C2 i x h' h1 (by simp[mI,h2,GO,tq])
      ·have:i=j:=by omega
       rw[this];exact hj
    have T1:∀k p,k<(S j).bs.length→β k=some p→(S j).aB k=dp (Hs S sg k):=fun k p hk hp=>by simp only[Qad,(sb k p hp hk).2.2,Ξ]
    have hSs:=Ic (S j) rfl rfl rfl T1 fun k b base bx hk hp ic=>by
     obtain⟨s1,_,s3⟩:=sb k _ hp hk;rw[s3] at ic;cases ic;exact(h.box k b base hp).cw (P_ (S j) (sg k) s1 rfl T1) rfl
    refine tO ok fm hSs (hG _ rfl T1) ib fun v w' β' Z' hn hv hq=>?_;have lk:∀k p,β' k=some p→k<(S (j+1)).bs.length:=fun k p hp=>hn.sim.dom k p.1 p.2 hp
    have NG:∀k p,k<(S j).bs.length→β' k=some p→∃q,β k=some q:=by
     intro k p hk hp
     cases hβ:β k with
     |some q=>exact⟨q,rfl⟩
     |none=>
      have:=(hn.AX k hk (by simp only[if_pos hk];exact hβ)).1;rw[hp] at this;cases this
    have same:∀k p,β' k=some p→(S (j+1)).bs[k]?=some (Hs S (gw pv ops F S j (j+1) sg) k):=by
     intro k p hp;have oO:=lk k p hp
     by_cases hc:fH pv ops F j∨(S j).bs.length≤k
     ·have tp:gw pv ops F S j (j+1) sg k=j+1:=by simp only[gw];rw[if_pos ⟨oO,hc⟩]
      simp only[Hs,tp];rw[ζ oO];rfl
     ·have tp:gw pv ops F S j (j+1) sg k=sg k:=by simp only[gw];rw[if_neg fun h'=>hc h'.2]
      have hk:k<(S j).bs.length:=by
       rcases η k (S j).bs.length with h'|h'
       ·exact h'
       ·exact absurd (.inr h') hc
      obtain⟨q,pK⟩:=NG k p hk hp;have:=(pa fm ht j Bv).2 (fun h'=>hc (.inl h')) k hk;rw[this,(sb k q pK hk).2.2];simp only[Hs,tp]
    refine hK _ _ _ _ _ (h.put fm ht hj ho (kf E j) C7 EV Zm h0.ro hn rfl rfl rfl hv T1 (μ _) z0 (fun i h1 h2=>?_) (.inl rfl) (fun k p hp=>by simp only[Qad,same k p hp,Ξ]) (fun k b base hp _=>hn.sim.box k b base _ hp (same k _ hp)) (fun hne=>hq ?_) fun _=>⟨rfl,rfl⟩)
    ·rcases η j i with h'|h'
     ·obtain⟨x,p1,p2,_⟩:=h2;have:=C2 i x h' p1 (by simp[mI,p2,GO,tq]);rw[this] at h1;cases h1
     ·omega
    ·cases he:gp pv o with
     |false=>rfl
     |true=>exact absurd ⟨o,ho,he,by rw[T6];exact hw⟩ hne
 ·have UL:=hw;rw[T6] at hw;rw[tE (hG _ (jf _ _ _) E0) hw];simp only[υ,if_false]
  have hne:¬fH pv ops F j:=by
   rintro⟨o',h1,_,h3⟩;rw[ho] at h1;cases h1;rw[UL] at h3;cases h3
  exact hollow (y9 (S j) β (Hs S sg)) _ w _ Z undef (jf _ _ _) rfl E0 hne (.inl ⟨hs,rfl⟩) (Φ Zs) (by rw[hd];exact .im _ _ (.tup [] [] rfl (by simp))) (Γ _)
end
end Go.V
namespace Go.V
open Go.RowKit
theorem count_set:∀(l:List Bool) (i:Nat),l[i]?=some false→(l.set i true).count false+1=l.count false
 |[],i,h=>by simp at h
 |b::l,0,h=>by simp at h;subst h;simp
 |b::l,i+1,h=>by
  have:=count_set l i (by simpa using h);simp only[List.set_cons_succ,List.count_cons];omega
theorem DD {l:List Bool} (h:l.count false=0) (i:Nat) (hi:i<l.length):l[i]?=some true:=by
 rw[List.count_eq_zero] at h;rw[ζ hi]
 cases hb:l[i] with
 |true=>rfl
 |false=>exact absurd (hb▸List.getElem_mem hi) h
section
variable{pv:Pv} {P:Program} (ok:pv.Ok P) {cf:fF} (fm:ju P pv cf) {ops:Array Oper} {F:Nat→Fr} {S:Nat→St} {dd:Nat→D} (ht:Trace pv cf ops ops.toList F S dd) {dy:List (Nat×Nat)} (pJ:mW pv ops dy=true) (iA:Still dy ops F S)
include fm ht
variable{a:Act}{w:World}{β:Nat→Option (Nat×Nat)}{Z:Nat→Prop}{E:Nat→Bool}
theorem DI.start (h:iH w (S 0) β Z) (hf:qN w ((S 0).x β Z) (F 0) a.tmps) (hE:∀k,E k=false):DI pv ops F S dd a w β Z E a w β Z (fun _=>0):=by
 have ne:∀{k:Nat},E k=true→False:=fun hk=>by rw[hE] at hk;cases hk
 have kp:∀m,m≤ops.size→dS w ((S 0).x β Z) w (Xm S (fun _=>0) β Z m):=by
  intro m hm;have hl:=(du fm ht m 0 z0 hm).len
  have key:∀k p,β k=some p→(Xm S (fun _=>0) β Z m).β k=some p:=by
   intro k p hp;have:=h.dom k p.1 p.2 hp;simp only[Xm];rw[if_pos z0];exact hp
  refine⟨fun k p hp=>⟨p,key k p hp⟩,fun b hb=>⟨hb,rfl⟩,fun k c p hp hc=>⟨c,?_,μ _⟩,fun k c _ _ b base hb=>⟨key k _ hb,rfl⟩⟩;simp only[Xm,Hs] at hc;simp only[Qap,Qad]
  cases hk:(S 0).bs[k]? with
  |none=>rw[hk] at hc;cases hc
  |some bx=>rw[hk] at hc;exact hc
 have lw:∀t,ez ops E t ops.size=none:=by
  intro t;have s:=gT ops E t ops.size
  cases hl:ez ops E t ops.size with
  |none=>rfl
  |some j=>rw[hl] at s;exact(ne s.2.1).elim
 refine⟨rfl,rfl,fun k o hk=>(ne hk).elim,fun k hk=>(ne hk).elim,fun k p hp=>⟨h.dom k p.1 p.2 hp,Pd _,.inl rfl⟩,fun k p hp i hi h1 h2=>?_,fun k p _ j hj=>(ne hj).elim,fun k _ j hj=>(ne hj).elim,h.lt,h.inj,h.zd,h.zl,fun k b base hb=>?_,fun t=>?_,Fq.refl _ _,kp _ (μ _),
  fun k b base hb=>.inl ⟨base,hb⟩,fun b hb=>.inl hb,fun _ _=>rfl,fun _ _ h=>h⟩
 ·have h3:=h.dom k p.1 p.2 hp;have:=(du fm ht i 0 z0 z0).len;omega
 ·have hk:=h.dom k b base hb;refine(h.box k b base _ hb ?_).cw (kp 0 (Pd _)) rfl;simp only[Hs];rw[ζ hk];rfl
 ·simp only[Py,val,lw t];exact(hf t).mono (kp 0 (Pd _))
variable{a0:Act}{w0:World}{β0:Nat→Option (Nat×Nat)}{Z0:Nat→Prop}
theorem DI.finish {sg:Nat→Nat} (h:DI pv ops F S dd a0 w0 β0 Z0 E a w β Z sg) (h0:iH w0 (S 0) β0 Z0) (hE:∀k,k<ops.size→E k=true):
  Nx w0 (S 0) β0 Z0 w (S ops.size) β Z∧qN w ((S ops.size).x β Z) (F ops.size) a.tmps:=by
 have hg:=du fm ht ops.size 0 (Pd _) (μ _)
 have X3:∀j,fH pv ops F j→j<ops.size:=by
  rintro j ⟨o,ho,_⟩
  rcases η j ops.size with h'|h'
  ·exact h'
  ·rw[IT h'] at ho;cases ho
 have hdm:∀k p,β k=some p→k<(S ops.size).bs.length:=by
  intro k p hp;obtain⟨h1,h2,_⟩:=h.dom k p hp;exact ξ h1 (du fm ht ops.size (sg k) h2 (μ _)).len
 have sb:∀k p,β k=some p→sg k≤ops.size∧Hs S sg k=((S ops.size).bs[k]?).getD .dead∧(S ops.size).bs[k]?=some (Hs S sg k):=fun k p hk=>
  Ao fm ht h (μ _) (fun j hj _=>hE j hj) (fun j hj he=>by have:=X3 j he;omega) hk (hdm k p hk)
 have kx:∀m,m≤ops.size→dS w (Xm S sg β Z m) w ((S ops.size).x β Z):=by
  intro m hm
  have key:∀k p,(Xm S sg β Z m).β k=some p→β k=some p:=by
   intro k p hp;simp only[Xm] at hp
   split at hp
   ·exact hp
   ·cases hp
  refine⟨fun k p hp=>⟨p,key k p hp⟩,fun b hb=>⟨hb,rfl⟩,fun k c p hp hc=>⟨c,?_,μ _⟩,fun k c _ _ b base hb=>⟨key k _ hb,rfl⟩⟩;simp only[Qap,Qad,(sb k p (key k p hp)).2.2,Ξ] at hc;exact hc
 refine⟨⟨⟨fun k b base hb=>hdm k _ hb,h.lt,h.inj,h.zd,h.zl,fun k b base bx hb ic=>?_,?_,?_⟩,h.keeps.trans (kx _ (μ _)),h.evo,h.fresh,h.zfresh,hg.len,hg.flr,hg.ro,fun k hk=>⟨hg.low k hk (ξ hk h0.ro),h.low k hk⟩,fun k hk Bu=>⟨h.AX k hk Bu,?_⟩⟩,fun t=>?_⟩
 ·obtain⟨s1,_,s3⟩:=sb k _ hb;rw[s3] at ic;cases ic;exact(h.box k b base hb).cw (kx _ s1) rfl
 ·rw[hg.flr];exact θ h0.flr hg.len
 ·rw[hg.ro];exact θ h0.ro hg.len
 ·refine lq fm ht ops.size (Pd _) (μ _) k hk fun q _ hq=>?_
  by_cases he:fH pv ops F q
  ·exact .inr (h.ph k (h.AX k hk Bu) q (hE q hq) he (ξ hk (du fm ht q 0 z0 z0).len))
  ·exact .inl he
 ·have hl:ez ops E t ops.size=ez ops (fun _=>true) t ops.size:=vc fun i o h1 _=>⟨fun⟨hi,_⟩=>⟨hi,rfl⟩,fun⟨hi,_⟩=>⟨hi,hE i hi⟩⟩
  have hf:=h.frame t;have UQ:=(ra ht t ops.size (μ _)).1;have s:=gT ops (fun _=>true) t ops.size;simp only[val,Py,hl] at hf;rw[UQ]
  cases hq:ez ops (fun _=>true) t ops.size with
  |none=>rw[hq] at hf;exact hf.mono (kx 0 (Pd _))
  |some i=>rw[hq] at hf s;exact hf.mono (kx (i+1) s.1)
include ok pJ iA
theorem DI.all {Q:Exit→Act→World→Prop} (h0:iH w0 (S 0) β0 Z0) (I9:xQ ops.toList a0.tmps.size) (K:∀a' w' β' Z',Nx w0 (S 0) β0 Z0 w' (S ops.size) β' Z'→qN w' ((S ops.size).x β' Z') (F ops.size) a'.tmps→a'.defers=a0.defers→a'.tmps.size=a0.tmps.size→Q .normal a' w'):
  ∀(fuel:Nat) (listed:Array Bool) (a:Act) (w:World) (β:Nat→Option (Nat×Nat)) (Z:Nat→Prop) (sg:Nat→Nat),listed.size=ops.size→listed.toList.count false=fuel→
   DI pv ops F S dd a0 w0 β0 Z0 (fun k=>listed.getD k false) a w β Z sg→wpAny P .any ops Q fuel listed a w:=by
 have fin:∀(listed:Array Bool) (a:Act) (w:World) (β:Nat→Option (Nat×Nat)) (Z:Nat→Prop) (sg:Nat→Nat),DI pv ops F S dd a0 w0 β0 Z0 (fun k=>listed.getD k false) a w β Z sg→(∀k,k<ops.size→listed.getD k false=true)→Q .normal a w:=by
  intro listed a w β Z sg h pQ;obtain⟨h1,h2⟩:=h.finish fm ht h0 pQ;exact K a w β Z h1 h2 h.defers h.size
 intro fuel
 induction fuel with
 |zero=>
  intro listed a w β Z sg hsz hc h
  have pQ:∀k,k<ops.size→listed.getD k false=true:=by
   intro k hk;have:=DD hc k (by simpa[hsz] using hk);rw[Θ] at this;simp[κ,this]
  refine⟨?_,fin listed a w β Z sg h pQ⟩;rw[List.eq_nil_iff_forall_not_mem];intro j hj;rw[mem_ready] at hj;obtain⟨h1,o,ho,_⟩:=hj;have Bv:=(Qac.1 ho).1;have:=pQ j Bv;have nX:j<listed.size:=by omega
  simp only[κ,ς nX,Qao] at h1 this;rw[h1] at this;cases this
 |succ fuel ih=>
  intro listed a w β Z sg hsz hc h;refine⟨fun IL=>fin listed a w β Z sg h ?_,fun j hj=>?_⟩
  ·intro k
   induction k using Qbt with
   |_ k ihk=>
    intro hk
    cases hb:listed.getD k false with
    |true=>rfl
    |false=>
     have jx:k<listed.size:=by omega
     have:k∈Region.ready .any ops listed:=by
      rw[mem_ready];refine⟨by simp only[κ,ς jx,Qao] at hb⊢;exact hb,ops[k],ς hk,fun e he hbd=>?_⟩;have hlt:=CH pJ (ς hk) (by simpa using he) hbd;exact ihk e.on hlt z0
     rw[IL] at this;cases this
  ·rw[mem_ready] at hj;obtain⟨h1,o,ho,h2⟩:=hj;have Bv:=(Qac.1 ho).1;have nX:j<listed.size:=by omega
   have Ze:listed[j]?=some false:=by
    simp only[κ,ς nX,Qao] at h1;rw[ς nX,h1]
   refine h.step ok fm ht pJ iA h0 ho (by simp[κ,Ze]) (fun e he hb=>h2 e (by simpa using he) hb) I9 fun a' w' β' Z' Uj h'=>ih _ a' w' β' Z' Uj (by simp[hsz]) ?_ ?_
   ·have:=count_set listed.toList j (by rw[Θ];exact Ze);rw[Array.toList_setIfInBounds];omega
   ·have he:(fun k=>(listed.setIfInBounds j true).getD k false)=DU (fun k=>listed.getD k false) j:=by
     funext k
     by_cases mf:j=k
     ·subst mf;simp[DU,nX]
     ·rw[getD_set_ne false mf]
      have:Qaj k j=false:=by
       cases hb:Qaj k j with
       |false=>rfl
       |true=>exact absurd (BY hb).symm mf
      simp[DU,this]
    rw[he];exact h'
end
variable{ops:Array Oper}
theorem Fx {F:Nat→Fr} {S:Nat→St}:Still [] ops F S:=by
 intro r q y a k x hy ha hw hk hx NW YS h1 h2
 rcases wt q r with h'|h'|h'
 ·have:=h1 h';simp[listed] at this
 ·subst h';rw[hx] at hy;cases hy;unfold Ko at NW;rw[ha] at NW;cases NW
 ·have:=h2 h';simp[listed] at this
variable{pv:Pv}{cf:fF}{dy:List (Nat×Nat)}{fr aG:Fr}{st ah:St}
theorem FQ (h:AB pv cf ops dy fr st=some (aG,ah)):
  ∃(F:Nat→Fr) (S:Nat→St) (dd:Nat→D),F 0=fr∧S 0=st∧F ops.size=aG∧S ops.size=ah∧Trace pv cf ops ops.toList F S dd∧Still dy ops F S:=by
 unfold AB at h
 split at h
 ·obtain⟨F,S,dd,Sb,O4,O5,O3,ht⟩:=trace ops.toList fr st aG ah h;rw[Qaa] at O5 O3;exact⟨F,S,dd,Sb,O4,O5,O3,ht,Fx⟩
 ·obtain⟨F,S,dd,Sb,O4,O5,O3,ht,hl⟩:=G9 ops.toList 0 [] fr st aG ah rfl h;rw[Qaa] at O5 O3;exact⟨F,S,dd,Sb,O4,O5,O3,ht,He hl⟩
theorem uL {pv:Pv} {cf:fF} {ops:Array Oper} {dy:List (Nat×Nat)}:∀(l:List Oper) (j:Nat) (log:Log) (fr:Fr) (st:St) (r:Fr×St),tl pv cf ops dy j log l fr st=some r→kj pv cf ops l fr st=some r
 |[],j,log,fr,st,r,h=>by simpa only[tl,kj] using h
 |o::l,j,log,fr,st,r,h=>by
  simp only[tl] at h;simp only[kj]
  cases hw:aD ops fr o with
  |none=>rw[hw] at h;cases h
  |some b=>
   rw[hw] at h
   cases b with
   |true=>
    simp only at h⊢
    cases ib:gd pv cf fr st o with
    |none=>rw[ib] at h;cases h
    |some q=>
     obtain⟨d,st1⟩:=q;rw[ib] at h;simp only at h⊢
     cases hc:JY dy j log o fr st st1 with
     |true=>rw[hc] at h;exact uL l _ _ _ _ _ h
     |false=>rw[hc] at h;cases h
   |false=>simp only at h⊢;exact uL l _ _ _ _ _ h
theorem AA {r:Fr×St} (h:AB pv cf ops dy fr st=some r):kj pv cf ops ops.toList fr st=some r:=by
 unfold AB at h
 split at h
 ·exact h
 ·exact uL _ _ _ _ _ _ h
theorem Mn {P:Program} (ok:pv.Ok P) (fm:ju P pv cf) {id:Nat} (pJ:mW pv ops dy=true) (hs:AB pv cf ops dy fr st=some (aG,ah)) {w:World} {β:Nat→Option (Nat×Nat)} {Z:Nat→Prop} (h:iH w st β Z) {a:Act} (hf:qN w (st.x β Z) fr a.tmps) (hd:xQ ops.toList a.tmps.size) {Q:Exit→Act→World→Prop} (K:∀a' w' β' Z',Nx w st β Z w' ah β' Z'→qN w' (ah.x β' Z') aG a'.tmps→a'.defers=a.defers→a'.tmps.size=a.tmps.size→Q .normal a' w'):(Code.region id ops true).wp P Q a w:=by
 obtain⟨F,S,dd,Sb,O4,O5,O3,ht,iA⟩:=FQ hs;refine wp_region_any ok.mixed ?_;have hn:Nx w st β Z {w with drawn:=w.drawn+1} st β Z:=Qc8 h rfl rfl rfl rfl;have h0:iH {w with drawn:=w.drawn+1} (S 0) β Z:=by rw[O4];exact hn.sim
 have hf0:qN {w with drawn:=w.drawn+1} ((S 0).x β Z) (F 0) a.tmps:=by rw[O4,Sb];exact hf.mono hn.keeps
 refine DI.all ok fm ht pJ iA h0 hd (fun a' w' β' Z' IQ wx h1 h2=>?_) ops.size _ a _ β Z (fun _=>0) (by simp) (by simp) (DI.start fm ht h0 hf0 fun k=>?_)
 ·rw[O3] at IQ wx;rw[O5] at wx;rw[O4] at IQ;exact K a' w' β' Z' (hn.trans IQ) wx h1 h2
 ·simp only[κ,Qaw]
  split<;>rfl
end Go.V
namespace Go.V
open Go.RowKit
def Out.ex:Out→Exit
 | .next=>.normal
 | .exit id=>.exit id
 | .ret=>.ret
def codeOk (pv:Pv) (dyn:List (Nat×List (Nat×Nat))) (n:Nat):Code→Bool
 | .region id ops d=>(ops.toList.all fun o=>match o.dst with|some t=>Qb5 t n|none=>true) &&(!d||mW pv ops (iU id dyn))
 | .seq a b=>codeOk pv dyn n a &&codeOk pv dyn n b
 | .cond _ a b=>codeOk pv dyn n a &&codeOk pv dyn n b
 | .block _ c=>codeOk pv dyn n c
 | .loop c=>codeOk pv dyn n c
 |_=>true
theorem BL {l:List Oper} {n:Nat} (h:(l.all fun o=>match o.dst with|some t=>Qb5 t n|none=>true)=true):xQ l n:=by
 intro o ho t hd;have:=GB.1 h o ho;rw[hd] at this;simp only at this;exact Qa8 this
theorem least (p:Nat→Prop):∀n,p n→∃m,p m∧∀k,p k→m≤k:=by
 intro n
 induction n using Qbt with
 |_ n ih=>
  intro hn
  by_cases h:∃k,k<n∧p k
  ·obtain⟨k,hk,hp⟩:=h;exact ih k hk hp
  ·refine⟨n,hn,fun k hk=>?_⟩
   rcases η k n with h'|h'
   ·exact absurd ⟨k,h',hk⟩ h
   ·exact h'
open Classical in
noncomputable def mu (p:Nat→Prop):Nat:=if h:∃m,p m∧∀k,p k→m≤k then Classical.choose h else 0
theorem Ew {p:Nat→Prop} {n:Nat} (h:p n):p (mu p)∧∀k,p k→mu p≤k:=by
 have he:=least p n h;unfold mu;rw[dif_pos he];exact Classical.choose_spec he
theorem qw {w:World} {x:X} {fr:Fr} {tmps:Array Value} (h:qN w x fr tmps):qN w x fr.clean tmps:=by
 intro t;have:=h t;simp only[Fr.clean,Fr.get] at this⊢
 cases hb:Qb4 fr.n t with
 |false=>rw[hb] at this;exact this
 |true=>exact .bo _ _ _
section
variable{pv:Pv} {P:Program} (ok:pv.Ok P) {cf:fF} (fm:ju P pv cf)
include fm
theorem rG {ops:Array Oper}:∀{l:List Oper} {fr aG:Fr} {st ah:St},kj pv cf ops l fr st=some (aG,ah)→eV st ah
 |[],fr,aG,st,ah,h=>by simp only[kj] at h;cases h;exact .refl _
 |o::l,fr,aG,st,ah,h=>by
  simp only[kj] at h
  split at h
  ·split at h
   ·rename_i ib;exact(uM fm ib).1.trans (rG h)
   ·cases h
  ·exact rG h
  ·cases h
omit fm in
theorem xB {step:Fr→St→Option (Out×Fr×St)} (hs:∀fr st out aG ah,step fr st=some (out,aG,ah)→eV st ah):∀(m:Nat) {fr aG:Fr} {st ah:St} {out:Out},iter step m fr st=some (out,aG,ah)→eV st ah
 |0,_,_,_,_,_,h=>by cases h
 |m+1,fr,aG,st,ah,out,h=>by
  simp only[iter] at h
  split at h
  ·rename_i h1;exact(hs _ _ _ _ _ h1).trans (xB hs m h)
  ·exact hs _ _ _ _ _ h
theorem sm (dyn:List (Nat×List (Nat×Nat))) (n:Nat):∀(c:Code) {fr aG:Fr} {st ah:St} {out:Out},cv pv cf dyn n c fr st=some (out,aG,ah)→eV st ah:=by
 intro c
 induction c with
 |skip=>intro fr aG st ah out h;simp only[cv] at h;cases h;exact .refl _
 |region id ops d=>
  intro fr aG st ah out h;simp only[cv] at h
  split at h
  ·rename_i ib;cases h;exact rG fm (AA ib)
  ·cases h
 |seq a b Kv NS=>
  intro fr aG st ah out h;simp only[cv] at h
  split at h
  ·rename_i h1;exact(Kv h1).trans (NS h)
  ·exact Kv h
 |cond c a b Kv NS=>
  intro fr aG st ah out h;simp only[cv] at h
  split at h
  ·exact Kv h
  ·exact NS h
  ·cases h
 |block id c ih=>
  intro fr aG st ah out h;simp only[cv] at h
  split at h
  ·rename_i h1
   split at h<;>cases h<;>exact ih h1
  ·exact ih h
 |loop c ih=>
  intro fr aG st ah out h;simp only[cv] at h;exact xB (fun _ _ _ _ _=>ih) n h
 |exit id=>intro fr aG st ah out h;simp only[cv] at h;cases h;exact .refl _
 |ret=>intro fr aG st ah out h;simp only[cv] at h;cases h;exact .refl _
 |_=>intro fr aG st ah out h;simp only[cv] at h;cases h
include ok
theorem Mx (dyn:List (Nat×List (Nat×Nat))) (n sz:Nat):∀(c:Code),codeOk pv dyn sz c=true→∀{fr aG:Fr} {st ah:St} {out:Out},cv pv cf dyn n c fr st=some (out,aG,ah)→
  ∀{w:World} {β:Nat→Option (Nat×Nat)} {Z:Nat→Prop} {a:Act} {Q:Exit→Act→World→Prop},iH w st β Z→qN w (st.x β Z) fr a.tmps→a.tmps.size=sz→
  (∀a' w' β' Z',Nx w st β Z w' ah β' Z'→qN w' (ah.x β' Z') aG a'.tmps→a'.defers=a.defers→a'.tmps.size=sz→Q out.ex a' w')→c.wp P Q a w:=by
 intro c
 induction c with
 |skip=>
  intro _ fr aG st ah out h w β Z a Q hs hf hz K;simp only[cv] at h;cases h;exact wp_skip (K a w β Z (Φ hs) hf rfl hz)
 |region id ops d=>
  intro hc fr aG st ah out h w β Z a Q hs hf hz K;simp only[cv] at h;simp only[codeOk,ρ] at hc;have hd:=BL hc.1
  split at h
  ·rename_i O9 st1 ib;cases h
   cases d with
   |true=>
    have pJ:mW pv ops (iU id dyn)=true:=by simpa using hc.2
    exact Mn ok fm pJ ib hs (qw hf) (by rw[hz];exact hd) fun a' w' β' Z' h1 h2 h3 h4=>K a' w' β' Z' h1 h2 h3 (h4.trans hz)
   |false=>
    refine wp_region ?_;have:=CG ok fm (ops:=ops) (Q:=Q) ops.toList 0 _ _ st _ β Z a w (fun j=>by simp) (AA ib) hs (qw hf) (by rw[hz];exact hd) fun a' w' β' Z' h1 h2 h3 h4=>K a' w' β' Z' h1 h2 h3 (h4.trans hz);rw[List.range_eq_range']
    simpa using this
  ·cases h
 |seq x y TJ UF=>
  intro hc fr aG st ah out h w β Z a Q hs hf hz K;simp only[codeOk,ρ] at hc;simp only[cv] at h;refine wp_seq ?_
  split at h
  ·rename_i O9 st1 h1;refine TJ hc.1 h1 hs hf hz fun a' w' β' Z' hn wx hd B9=>?_;exact UF hc.2 h hn.sim wx B9 fun a'' P6 wz Kz IQ V7 EY UH=>K a'' P6 wz Kz (hn.trans IQ) V7 (EY.trans hd) UH
  ·rename_i hne;refine TJ hc.1 h hs hf hz fun a' w' β' Z' hn wx hd B9=>?_;have hK:=K a' w' β' Z' hn wx hd B9
   cases out with
   |next=>exact(hne _ _ h).elim
   |exit id=>exact hK
   |ret=>exact hK
 |cond c x y TJ UF=>
  intro hc fr aG st ah out h w β Z a Q hs hf hz K;simp only[codeOk,ρ] at hc;simp only[cv] at h;have hv:=xO hf c
  split at h
  ·rename_i hb;rw[hb] at hv;exact wp_cond_true (fq hv) (TJ hc.1 h hs hf hz K)
  ·rename_i hb;rw[hb] at hv;exact wp_cond_false (fq hv) (UF hc.2 h hs hf hz K)
  ·cases h
 |block id c ih=>
  intro hc fr aG st ah out h w β Z a Q hs hf hz K;simp only[codeOk] at hc;simp only[cv] at h;refine wp_block ?_
  split at h
  ·rename_i i O9 st1 h1;refine ih hc h1 hs hf hz fun a' w' β' Z' hn wx hd B9=>?_;simp only[Out.ex,Exit.inBlock]
   split at h
   ·rename_i hi;cases h;rw[if_pos hi];exact K a' w' β' Z' hn wx hd B9
   ·rename_i hi;cases h;rw[if_neg hi];exact K a' w' β' Z' hn wx hd B9
  ·rename_i hne;refine ih hc h hs hf hz fun a' w' β' Z' hn wx hd B9=>?_;have hK:=K a' w' β' Z' hn wx hd B9
   cases out with
   |next=>exact hK
   |exit id=>exact(hne _ _ _ h).elim
   |ret=>exact hK
 |loop c ih=>
  intro hc fr aG st ah out h w β Z a Q hs hf hz K;simp only[codeOk] at hc;simp only[cv] at h
  let J:Nat→Act→World→Prop:=fun m a1 w1=>∃O9 st1 β1 Z1,iter (cv pv cf dyn n c) m O9 st1=some (out,aG,ah)∧Nx w st β Z w1 st1 β1 Z1∧qN w1 (st1.x β1 Z1) O9 a1.tmps∧a1.defers=a.defers∧a1.tmps.size=sz
  refine wp_loop (fun a1 w1=>∃m,J m a1 w1) (fun a1 w1=>mu fun m=>J m a1 w1) ⟨n,fr,st,β,Z,h,Φ hs,hf,rfl,hz⟩ ?_;rintro a1 w1 ⟨m0,j6⟩;obtain⟨⟨O9,st1,β1,Z1,h1,pM,eC,hd1,hz1⟩,_⟩:=Ew (p:=fun m=>J m a1 w1) j6;generalize hmu:mu (fun m=>J m a1 w1)=m at h1
  cases m with
  |zero=>cases h1
  |succ m=>
   simp only[iter] at h1
   split at h1
   ·rename_i O8 st2 h2;refine ih hc h2 pM.sim (qw eC) hz1 fun a' w' β' Z' hn wx hd B9=>?_
    have hJ:J m a' w':=⟨O8,st2,β',Z',h1,pM.trans hn,wx,hd.trans hd1,B9⟩
    have:=(Ew (p:=fun m=>J m a' w') hJ).2 m hJ;exact⟨⟨m,hJ⟩,by omega⟩
   ·rename_i hne;refine ih hc h1 pM.sim (qw eC) hz1 fun a' w' β' Z' hn wx hd B9=>?_;have hK:=K a' w' β' Z' (pM.trans hn) wx (hd.trans hd1) B9
    cases out with
    |next=>exact(hne _ _ h1).elim
    |exit id=>exact hK
    |ret=>exact hK
 |exit id=>
  intro _ fr aG st ah out h w β Z a Q hs hf hz K;simp only[cv] at h;cases h;exact wp_exit (K a w β Z (Φ hs) hf rfl hz)
 |ret=>
  intro _ fr aG st ah out h w β Z a Q hs hf hz K;simp only[cv] at h;cases h;exact wp_ret (K a w β Z (Φ hs) hf rfl hz)
 |_=>intro _ fr aG st ah out h;simp only[cv] at h;cases h
end
end Go.V
namespace Go.V
open Go.RowKit
def DB (N:Nat) (β:Nat→Option (Nat×Nat)):Nat→Option (Nat×Nat):=fun k=>if k<N then β k else none
def pR (N:Nat) (β:Nat→Option (Nat×Nat)) (Z:Nat→Prop):Nat→Prop:=fun b=>Z b∨∃k base,N≤k∧β k=some (b,base)
variable{w:World}{x x':X}{N:Nat}{d:D}{v:Value}
theorem VR.cut (hβ:∀k,k<N→x'.β k=x.β k) (hv:∀k,k<N→x'.aB k=x.aB k) (hZ:∀b,x.Z b→x'.Z b) (h:VR w x d v):d.ref≤N→VR w x' d v:=by
 induction h with
 |im d v h=>intro _;exact .im d v (h.mono fun b hb=>⟨hZ b hb,rfl⟩)
 |win k vr off len s a cap hc hk hm h=>
  intro hr;simp only[AN] at hr;exact .win k vr off len s a cap hc (by rw[hβ k hr];exact hk) (by rw[hv k hr];exact hm) (by rw[hv k hr,hβ k hr];exact h)
 |ptr k vr off a hk hm h=>
  intro hr;simp only[AN] at hr;exact .ptr k vr off a (by rw[hβ k hr];exact hk) (by rw[hv k hr];exact hm) (by rw[hv k hr,hβ k hr];exact h)
 |mp k r hk h=>
  intro hr;simp only[AN] at hr;exact .mp k r (by rw[hβ k hr];exact hk) (by rw[hv k hr,hβ k hr];exact h)
 |fn f cs vs hl hr ih=>intro hN;simp only[AN] at hN;exact .fn f cs vs hl fun i c v hc hv=>ih i c v hc hv (θ (cn (φ hc)) hN)
 |agg cs vs hl h1 hr ih=>intro hN;simp only[AN] at hN;exact .agg cs vs hl h1 fun i c v hc hv=>ih i c v hc hv (θ (cn (φ hc)) hN)
 |tup cs vs hl hr ih=>intro hN;simp only[AN] at hN;exact .tup cs vs hl fun i c v hc hv=>ih i c v hc hv (θ (cn (φ hc)) hN)
theorem mR {cs:List D} {vs:List Value} (hl:cs.length=vs.length) (h:∀(i:Nat) c v,cs[i]?=some c→vs[i]?=some v→c.ref≤N):refs cs≤N:=by
 refine tM fun d hd=>?_;obtain⟨i,hi⟩:=Qa9 hd;have hlt:=gS hi;exact h i d _ hi (ζ z0)
variable{Z:Nat→Prop}
theorem IR.ref (h:IR w Z d v):d.ref≤0:=by
 induction h with
 |agg cs vs hl h1 hr ih=>simp only[AN];exact mR hl ih
 |tup cs vs hl hr ih=>simp only[AN];exact mR hl ih
 |_=>simp[AN]
theorem VR.ref (hd:∀k p,x.β k=some p→k<N) (h:VR w x d v):d.ref≤N:=by
 induction h with
 |im d v h=>exact θ h.ref (Pd _)
 |win k vr off len s a cap hc hk hm h=>obtain⟨p,hp⟩:=hk;simp only[AN];exact hd k p hp
 |ptr k vr off a hk hm h=>obtain⟨p,hp⟩:=hk;simp only[AN];exact hd k p hp
 |mp k r hk h=>obtain⟨p,hp⟩:=hk;simp only[AN];exact hd k p hp
 |fn f cs vs hl hr ih=>simp only[AN];exact mR hl ih
 |agg cs vs hl h1 hr ih=>simp only[AN];exact mR hl ih
 |tup cs vs hl hr ih=>simp only[AN];exact mR hl ih
theorem mY {f:D→Option D}:∀{ds xs:List D},iK f ds=some xs→xs.length=ds.length∧∀(i:Nat) x,xs[i]?=some x→∃d,ds[i]?=some d∧f d=some x
 |[],xs,h=>by simp only[iK] at h;cases h;exact⟨rfl,fun i x hx=>by simp at hx⟩
 |d::ds,xs,h=>by
  simp only[iK] at h
  split at h
  ·rename_i y hy
   split at h
   ·rename_i ys kD;cases h;obtain⟨h1,h2⟩:=mY kD;refine⟨by simp[h1],fun i x hx=>?_⟩
    cases i with
    |zero=>simp at hx;subst hx;exact⟨d,rfl,hy⟩
    |succ i=>simpa using h2 i x (by simpa using hx)
   ·cases h
  ·cases h
theorem xX (s:Nat):∀(n:Nat) (c:List D),(chunk s n c).length=n
 |0,_=>rfl
 |n+1,c=>by simp only[chunk,Qbj,xX s n]
theorem xY (s:Nat):∀(n:Nat) (c:List D) (i:Nat) (e:D),n*s≤c.length→(∀x∈c,x.cells?=some [x]∧x.cells=[x])→(chunk s n c)[i]?=some e→
  e.cells?=some e.cells∧e.cells.length=s∧∀(j:Nat) y,e.cells[j]?=some y→c[i*s+j]?=some y
 |0,_,i,e,_,_,h=>by simp[chunk] at h
 |n+1,c,i+1,e,hl,h1,h=>by
  simp only[chunk,Qb0] at h;have hs:n*s+s≤c.length:=by rw[Qb7] at hl;exact hl
  obtain⟨q1,q2,q3⟩:=xY s n (c.drop s) i e (by simp;omega) (fun x hx=>h1 x (Qb8 hx)) h;refine⟨q1,q2,fun j y hy=>?_⟩;have:=q3 j y hy;rw[Qbf] at this;rw[Qb7,←this];congr 1;omega
 |n+1,c,0,e,hl,h1,h=>by
  have hs:s≤c.length:=by rw[Qb7] at hl;omega
  simp only[chunk,Δ,Qa4.injEq] at h
  split at h
  ·cases c with
   |nil=>simp at hs
   |cons x c=>
    simp only[List.headD_cons] at h;subst h;obtain⟨q1,q2⟩:=h1 x (OF ..);refine⟨by rw[q1,q2],by rw[q2];rfl,fun j y hy=>?_⟩;rw[q2] at hy
    cases j with
    |zero=>simpa using hy
    |succ j=>simp at hy
  ·subst h;refine⟨rfl,by simp[D.cells];omega,fun j y hy=>?_⟩;simp only[D.cells] at hy;rw[Qam] at hy
   split at hy
   ·simpa using hy
   ·cases hy
variable{st:St}{n:Nat}
theorem CC {x:D} (h:fu st N n d=some x):(∃cs,x=.agg cs)∨(x.cells?=some [x]∧x.cells=[x]):=by
 cases n with
 |zero=>cases h
 |succ n=>
  cases d<;>simp only[fu] at h<;>first|(cases h;done)|(cases h;exact .inr ⟨rfl,rfl⟩)|skip
  case win k aB off len sz=>
   split at h
   ·cases h
   ·obtain⟨⟨a,c⟩,_,h⟩:=ε.1 h;dsimp only at h
    split at h
    ·obtain⟨r,_,hr⟩:=γ.1 h;cases hr;exact .inr ⟨rfl,rfl⟩
    ·cases h
  case agg cs=>
   obtain⟨r,_,hr⟩:=γ.1 h;cases hr;exact .inl ⟨_,rfl⟩
variable{β:Nat→Option (Nat×Nat)}
theorem K5 (h:iH w st β Z) (N:Nat):∀(n:Nat) {d d':D} {v:Value},fu st N n d=some d'→VR w (st.x β Z) d v→IR w (pR N β Z) d' v:=by
 have up:∀{d:D} {v:Value},IR w Z d v→IR w (pR N β Z) d v:=fun hi=>hi.mono fun b hb=>⟨.inl hb,rfl⟩
 intro n
 induction n with
 |zero=>intro d d' v hp;cases hp
 |succ n ih=>
  intro d d' v hp hv;cases d<;>simp only[fu] at hp<;>try(cases hp;done)
  case bool b=>cases hp;rw[fq hv];exact .bool b
  case int k i=>cases hp;rw[cZ hv];exact .int k i
  case str s=>cases hp;rw[gK hv];exact .str s
  case nul=>cases hp;rw[fK hv];exact .emp none 0
  case sl es=>cases hp;cases hv with|im _ _ hi=>exact up hi
  case pnil=>cases hp;rw[jE hv];exact .pnil
  case nilfn=>cases hp;cases hv with|im _ _ hi=>exact up hi
  case nilif=>cases hp;cases hv with|im _ _ hi=>exact up hi
  case agg cs=>
   obtain⟨xs,hx,hr⟩:=γ.1 hp;cases hr;obtain⟨vs,rfl,hl,h1,h2⟩:=jk hv;obtain⟨g1,g2⟩:=mY hx;refine .agg xs vs (g1.trans hl) h1 fun i c u hc hu=>?_;obtain⟨d,hd1,hd2⟩:=g2 i c hc;exact ih hd2 (h2 i d u hd1 hu)
  case win k aB off len s=>
   split at hp
   ·cases hp
   ·rename_i PR;obtain⟨⟨ar,c⟩,hm,hp⟩:=ε.1 hp;dsimp only at hp
    split at hp
    ·rename_i ni;obtain⟨xs,hx,hr⟩:=γ.1 hp;cases hr;obtain⟨a,cap,rfl,hlc,_,_,kH⟩:=fJ hv;obtain⟨b,base,sz,hb,_,nr⟩:=kH (dr hm).2;have dW:cK w (st.x β Z) b (base+off) ((c.drop off).take (len*s)):=((h.cells hm hb).drop off).take _;obtain⟨g1,g2⟩:=mY hx;have hlen:xs.length=len*s:=by rw[g1];simp;omega
     have hcell:∀(j:Nat) y,xs[j]?=some y→∃u,w.cell? ⟨b,base+off+j,none⟩=some u∧u.oneCell'=true∧IR w (pR N β Z) y u:=by
      intro j y hy;obtain⟨d,hd1,hd2⟩:=g2 j y hy;obtain⟨u,jH,mJ,rW⟩:=dW j d hd1;exact⟨u,jH,mJ,ih hd2 rW⟩
     have me:∀x∈xs,x.cells?=some [x]∧x.cells=[x]:=by
      intro x hxm;obtain⟨j,hj⟩:=Qa9 hxm;obtain⟨d,_,hd2⟩:=g2 j x hj;obtain⟨u,_,mJ,rW⟩:=hcell j x hj
      rcases CC hd2 with⟨cs,rfl⟩|h'
      ·cases rW;simp[Value.oneCell'] at mJ
      ·exact h'
     rcases nr with rfl|⟨rfl,_⟩
     ·have:len=0:=by omega
      subst this;exact .emp (some a) 0
     ·have hcl:=xX s len xs;have hg:=fun i e=>xY s len xs i e z0 me;have key:∀(i:Nat) e (j:Nat) y,(chunk s len xs)[i]?=some e→e.cells[j]?=some y→∃u,w.cell? ⟨b,base+off+(i*s+j),none⟩=some u∧u.oneCell'=true∧IR w (pR N β Z) y u:=fun i e j y he hy=>hcell _ y ((hg i e he).2.2 j y hy);have:=IR.sl (w:=w) (Z:=pR N β Z) (chunk s len xs) b (base+off) cap s (fun i j=>(w.cell? ⟨b,base+off+(i*s+j),none⟩).getD undef) (.inr ⟨k,base,by omega,hb⟩) z0
       (fun i e he=>⟨(hg i e he).1,(hg i e he).2.1⟩)
       (fun i e j y he hy=>by obtain⟨u,jH,mJ,_⟩:=key i e j y he hy;rw[jH];exact⟨rfl,mJ⟩)
       (fun i e j y he hy=>by obtain⟨u,jH,_,rW⟩:=key i e j y he hy;rw[jH];exact rW)
      rw[hcl] at this;exact this
    ·cases hp
theorem Gm (h:iH w st β Z) (hβ:∀k,k<N→x'.β k=β k) (MV:∀k,k<N→x'.aB k=st.aB k) (hZ:x'.Z=pR N β Z) (kn:Bool):
  ∀(n:Nat) {d d':D} {v:Value},ba st N kn n d=some d'→VR w (st.x β Z) d v→VR w x' d' v:=by
 have cut:∀{d:D} {v:Value},VR w (st.x β Z) d v→d.ref≤N→VR w x' d v:=fun hv hr=>hv.cut hβ MV (fun b hb=>by rw[hZ];exact .inl hb) hr;have im:∀{d:D} {v:Value},IR w (pR N β Z) d v→VR w x' d v:=fun hi=>.im _ _ (by rw[hZ];exact hi);intro n
 induction n with
 |zero=>intro d d' v hp;cases hp
 |succ n ih=>
  intro d d' v hp hv
  cases d<;>simp only[ba] at hp<;>first|(cases hp;exact cut hv (by simp[AN]))|skip
  case nul=>
   cases hp
   cases kn with
   |true=>exact cut hv (by simp[AN])
   |false=>rw[fK hv];exact im (.emp none 0)
  case win k aB off len s=>
   split at hp
   ·rename_i hk;cases hp;exact cut hv (by simp only[AN];omega)
   ·exact im (K5 h N n hp hv)
  case ptr k aB off=>
   split at hp
   ·rename_i hk;cases hp;exact cut hv (by simp only[AN];omega)
   ·cases hp
  case mp k=>
   split at hp
   ·rename_i hk;cases hp;exact cut hv (by simp only[AN];omega)
   ·cases hp
  case fn f lf=>
   split at hp
   ·rename_i hk;cases hp;exact cut hv (by simp only[AN];exact hk)
   ·cases hp
  case agg cs=>
   obtain⟨xs,hx,hr⟩:=γ.1 hp;cases hr;obtain⟨vs,rfl,hl,h1,h2⟩:=jk hv;obtain⟨g1,g2⟩:=mY hx;refine .agg xs vs (g1.trans hl) h1 fun i c u hc hu=>?_;obtain⟨d,hd1,hd2⟩:=g2 i c hc;exact ih hd2 (h2 i d u hd1 hu)
  case tup cs=>
   obtain⟨xs,hx,hr⟩:=γ.1 hp;cases hr;obtain⟨vs,rfl,hl,h2⟩:=yh hv;obtain⟨g1,g2⟩:=mY hx;refine .tup xs vs (g1.trans hl) fun i c u hc hu=>?_;obtain⟨d,hd1,hd2⟩:=g2 i c hc;exact ih hd2 (h2 i d u hd1 hu)
theorem cx (m:Mode) (st:St):(ae m st).bs=st.bs:=by cases m<;>rfl
theorem Gr (h:iH w st β Z) (m:Mode):iH w (ae m st) β Z:=by
 refine⟨fun k b base hk=>by rw[cx];exact h.dom k b base hk,h.lt,h.inj,h.zd,h.zl,fun k b base bx hb ic=>?_,?_,?_⟩
 ·rw[cx] at ic;have:(ae m st).x β Z=st.x β Z:=by simp only[Qap];congr 1;funext k;simp only[Qad,cx]
  rw[this];exact h.box k b base bx hb ic
 ·rw[cx];cases m<;>first|exact μ _|exact h.flr
 ·rw[cx];cases m<;>first|exact μ _|exact h.ro
variable{st1 ah:St}{d':D}
theorem Il {w':World} {β':Nat→Option (Nat×Nat)} {Z':Nat→Prop} (h:iH w st β Z) (m:Mode) (kn:Bool) (hn:Nx w (ae m st) β Z w' st1 β' Z') (hg:eV (ae m st) st1) (hv:VR w' (st1.x β' Z') d v) (hl:dj m kn st st1 d=some (d',ah)):∃wz Kz,Nx w st β Z w' ah wz Kz∧VR w' (ah.x wz Kz) d' v:=by
 by_cases hm:m=.cw
 ·subst hm;simp only[dj] at hl;cases hl;exact⟨β',Z',hn,hv⟩
 by_cases hw:m=.nw
 ·subst hw;simp only[dj] at hl;cases hl;have hx0:(ae .nw st).x β Z=st.x β Z:=by simp only[Qap];congr 1
  have hx1:(⟨st1.bs,st.flr,st.ro⟩:St).x β' Z'=st1.x β' Z':=by simp only[Qap];congr 1
  have hlen:st.bs.length≤st1.bs.length:=hn.len
  refine⟨β',Z',⟨⟨hn.sim.dom,hn.sim.lt,hn.sim.inj,hn.sim.zd,hn.sim.zl,fun k b base bx hb ic=>by rw[hx1];exact hn.sim.box k b base bx hb ic,θ h.flr hlen,θ h.ro hlen⟩,by rw[hx1,←hx0];exact hn.keeps,
   hn.evo.mono fun b hb=>?_,hn.fresh,hn.zfresh,hlen,rfl,rfl,fun k hk=>hn.low k (ξ hk h.ro),fun k hk h0=>hn.AX k hk h0⟩,by rw[hx1];exact hv⟩
  obtain⟨k,base,h1,h2⟩:=hb;exact⟨k,base,h1,θ h.ro h2⟩
 have hl:∃dd,ba st1 st.bs.length kn 16 d=some dd∧d'=dd∧ah=⟨st1.bs.take st.bs.length,st.flr,st.ro⟩:=by
  cases m<;>first|exact absurd rfl hm|exact absurd rfl hw|skip
  all_goals
   simp only[dj] at hl
   split at hl
   ·rename_i dd hf;cases hl;exact⟨_,hf,rfl,rfl⟩
   ·cases hl
 obtain⟨dd,hf,rfl,rfl⟩:=hl
 have LX:(ae m st).flr=st.bs.length:=by cases m<;>first|rfl|exact absurd rfl hm|exact absurd rfl hw
 have db:st.ro≤(ae m st).ro:=by cases m<;>first|exact μ _|exact h.ro
 have hlen:st.bs.length≤st1.bs.length:=by have:=hn.len;rw[cx] at this;exact this
 have hb:∀k,k<st.bs.length→(st1.bs.take st.bs.length)[k]?=st1.bs[k]?:=fun k hk=>by rw[Qam,if_pos hk]
 have hx:(ae m st).x β Z=st.x β Z:=by simp only[Qap];congr 1;funext k;simp only[Qad,cx]
 have MV:∀k,k<st.bs.length→(⟨st1.bs.take st.bs.length,st.flr,st.ro⟩:St).aB k=st1.aB k:=fun k hk=>by simp only[Qad,hb k hk]
 have hβ:∀k,k<st.bs.length→DB st.bs.length β' k=β' k:=fun k hk=>by simp only[DB,if_pos hk]
 have C5:∀k p,DB st.bs.length β' k=some p→k<st.bs.length∧β' k=some p:=by
  intro k p hp;simp only[DB] at hp
  split at hp
  ·exact⟨by assumption,hp⟩
  ·cases hp
 refine⟨DB st.bs.length β',pR st.bs.length β' Z',⟨⟨fun k b base hk=>?_,fun k b base hk=>hn.sim.lt k b base (C5 k _ hk).2,fun k k' b y y' h1 h2=>hn.sim.inj k k' b y y' (C5 k _ h1).2 (C5 k' _ h2).2,?_,?_,?_,?_,?_⟩,?_,?_,?_,?_,?_,rfl,rfl,?_,?_⟩,?_⟩
 ·have:=(C5 k _ hk).1;simp;omega
 ·intro k b base hk hz;obtain⟨h1,h2⟩:=C5 k _ hk
  rcases hz with hz|⟨k2,Fh,h3,h4⟩
  ·exact hn.sim.zd k b base h2 hz
  ·have:=hn.sim.inj k k2 b _ _ h2 h4;omega
 ·rintro b (hz|⟨k2,Fh,_,h4⟩)
  ·exact hn.sim.zl b hz
  ·exact hn.sim.lt k2 b Fh h4
 ·intro k b base bx hk ic;obtain⟨h1,h2⟩:=C5 k _ hk;simp only at ic;rw[hb k h1] at ic;have Gg:=hn.sim.box k b base bx h2 ic
  have UG:∃p,β k=some p:=by
   cases hq:β k with
   |some p=>exact⟨p,rfl⟩
   |none=>
    have:=(hn.AX k (by rw[cx];exact h1) hq).1;rw[h2] at this;cases this
  obtain⟨p,hp⟩:=UG
  cases bx with
  |mem vr ar cells=>
   obtain⟨c,el,fr,q1,q2,q3,q4⟩:=Gg;refine⟨c,el,fr,q1,q2,q3,fun j e he=>?_⟩;obtain⟨u,u1,u2,u3⟩:=q4 j e he;refine⟨u,u1,u2,u3.cut hβ MV (fun b hb=>show pR st.bs.length β' Z' b from .inl hb) ?_⟩;have h0:st.bs[k]?=some st.bs[k]:=ζ h1;have h5:=hg.fl k st.bs[k] _ (by rw[LX];exact h1) (by rw[cx];exact h0) ic e (φ he)
   have h6:refs (st.bs[k]).cells≤st.bs.length:=tM fun x hx=>by
    have M8:=h.box k p.1 p.2 _ hp h0
    cases hbk:st.bs[k] with
    |mem vr0 ar0 X8=>
     rw[hbk] at M8 hx;obtain⟨_,_,_,_,_,_,r4⟩:=M8;obtain⟨i,hi⟩:=Qa9 hx;obtain⟨_,_,_,r7⟩:=r4 i x hi;exact r7.ref fun k p hp=>h.dom k p.1 p.2 hp
    |_=>rw[hbk] at hx;simp[jC.cells] at hx
   omega
  |iter s pos=>exact Gg
  |map e=>exact Gg
  |dead=>exact Gg
 ·have:=h.flr;simp;omega
 ·have:=h.ro;simp;omega
 ·have hk:=hn.keeps;rw[hx] at hk;refine⟨fun k p hp=>?_,fun b hb=>⟨.inl (hk.z b hb).1,(hk.z b hb).2⟩,fun k c p hp hc=>?_,fun k c hc Dk b base OZ=>?_⟩
  ·obtain⟨p',y7⟩:=hk.dm k p hp;exact⟨p',by show DB st.bs.length β' k=some p';rw[hβ k (h.dom k p.1 p.2 hp)];exact y7⟩
  ·exact hk.aB k c p hp (by have:=MV k (h.dom k p.1 p.2 hp);show st1.aB k=some c;rw[←this];exact hc)
  ·have PR:=h.dom k _ _ OZ;obtain⟨r1,r2⟩:=hk.at_ k c (by show st1.aB k=some c;rw[←MV k PR];exact hc) Dk b base OZ;exact⟨by show DB st.bs.length β' k=_;rw[hβ k PR];exact r1,r2⟩
 ·exact hn.evo.mono fun b ⟨k,base,h1,h2⟩=>⟨k,base,h1,θ db h2⟩
 ·intro k b base hk;exact hn.fresh k b base (C5 k _ hk).2
 ·rintro b (hz|⟨k2,Fh,h3,h4⟩)
  ·exact hn.zfresh b hz
  ·rcases hn.fresh k2 b Fh h4 with⟨dx,h5⟩|h5
   ·have:=h.dom k2 b dx h5;omega
   ·exact .inr h5
 ·simp;omega
 ·intro k hk;have PR:k<st.bs.length:=ξ hk h.ro;obtain⟨r1,r2⟩:=hn.low k (ξ hk db);rw[cx] at r1;exact⟨by simp only;rw[hb k PR];exact r1,by rw[hβ k PR];exact r2⟩
 ·intro k hk Bu;obtain⟨r1,r2⟩:=hn.AX k (by rw[cx];exact hk) Bu;rw[cx] at r2;exact⟨by rw[hβ k hk];exact r1,by simp only;rw[hb k hk];exact r2⟩
 ·exact Gm hn.sim hβ MV rfl kn 16 hf hv
variable{pv:Pv}{m:Nat}
theorem BS {dyn:List (Nat×List (Nat×Nat))} (LM:n≤m):∀(c:Code),codeOk pv dyn n c=true→codeOk pv dyn m c=true:=by
 intro c
 induction c with
 |region id ops d=>
  intro h;simp only[codeOk,ρ] at h⊢;refine⟨GB.2 fun o ho=>?_,h.2⟩;have h1:=BL h.1 o ho
  cases hd:o.dst with
  |none=>rfl
  |some t=>exact Qa7 (θ (h1 t hd) LM)
 |seq a b Kv NS=>intro h;simp only[codeOk,ρ] at h⊢;exact⟨Kv h.1,NS h.2⟩
 |cond c a b Kv NS=>intro h;simp only[codeOk,ρ] at h⊢;exact⟨Kv h.1,NS h.2⟩
 |block id c ih=>intro h;simp only[codeOk] at h⊢;exact ih h
 |loop c ih=>intro h;simp only[codeOk] at h⊢;exact ih h
 |_=>intro h;rfl
def oH (tmps:Array Value):ResultVar→Sem Value
 | .tmp t=>pure (tmps.getD t undef)
 | .cell a t=>do loadVar t (←asAddr (tmps.getD a undef))
theorem Cv (fn:Func) (tmps:Array Value):results fn tmps=(do let vs←fn.results.mapM (oH tmps);pure (if h:vs.size=1 then vs[0] else .tuple vs)):=rfl
theorem H5 (d:D):∀(l:List D) (t:Nat),nth d l t=(l[t]?).getD d
 |[],t=>by simp[nth]
 |x::l,0=>rfl
 |x::l,t+1=>by simpa[nth] using H5 d l t
theorem Cw {pv:Pv} {P:Program} (ok:pv.Ok P) {w:World} {st:St} {β:Nat→Option (Nat×Nat)} {Z:Nat→Prop} (h:iH w st β Z) {fr:Fr} {tmps:Array Value} (hf:qN w (st.x β Z) fr tmps):∀(rs:List ResultVar) {ds:List D},l4 pv fr st rs=some ds→
  ∃vs:List Value,(rs.mapM (oH tmps)).run P w=.ok vs w∧ds.length=vs.length∧∀(i:Nat) c u,ds[i]?=some c→vs[i]?=some u→VR w (st.x β Z) c u
 |[],ds,hr=>by simp only[l4] at hr;cases hr;exact⟨[],by simp,rfl,fun i c u hc=>by simp at hc⟩
 | .tmp t::l,ds,hr=>by
  simp only[l4] at hr;obtain⟨es,he,hr⟩:=γ.1 hr;cases hr;obtain⟨vs,h1,h2,h3⟩:=Cw ok h hf l he;refine⟨tmps.getD t undef::vs,by simp only[Qbr,oH,ι,ν,δ,h1],by simp[h2],fun i c u hc hu=>?_⟩
  cases i with
  |zero=>simp at hc hu;subst hc;rw[←hu];have:=hf t;simpa using this
  |succ i=>exact h3 i c u (by simpa using hc) (by simpa using hu)
 | .cell a t::l,ds,hr=>by
  simp only[l4] at hr;obtain⟨d,hd,hr⟩:=ε.1 hr;obtain⟨es,he,hr⟩:=γ.1 hr;cases hr;obtain⟨vs,h1,h2,h3⟩:=Cw ok h hf l he;have hv:=hf a
  have y_:∃z,(oH tmps (.cell a t)).run P w=.ok z w∧VR w (st.x β Z) d z:=by
   unfold iM at hd
   split at hd
   ·rename_i k aB off hg;rw[hg] at hv;obtain⟨⟨ar,c⟩,hm,hd⟩:=ε.1 hd;obtain⟨p,hp,_,kH⟩:=cH hv;obtain⟨b,base,hb,rfl⟩:=kH (dr hm).2;obtain⟨z,h1,h2⟩:=tG ok ((h.cells hm hb).drop off) hd;exact⟨z,by simp only[oH];rw[hp];simp[asAddr,h1],h2⟩
   ·rename_i c hg;rw[hg] at hv;obtain⟨b,off,hp,_,hc,_⟩:=ub hv;obtain⟨z,h1,h2⟩:=tG ok hc hd;exact⟨z,by simp only[oH];rw[hp];simp[asAddr,h1],h2⟩
   ·cases hd
  obtain⟨z,z1,z2⟩:=y_;refine⟨z::vs,by simp only[Qbr,ι,z1,ν,δ,h1],by simp[h2],fun i c u hc hu=>?_⟩
  cases i with
  |zero=>simp at hc hu;subst hc;subst hu;exact z2
  |succ i=>exact h3 i c u (by simpa using hc) (by simpa using hu)
variable{P:Program}{ds:List D}
theorem Cu (ok:pv.Ok P) (h:iH w st β Z) {fr:Fr} {tmps:Array Value} (hf:qN w (st.x β Z) fr tmps) {fn:Func} (hr:l4 pv fr st fn.results.toList=some ds):
  ∃v,(results fn tmps).run P w=.ok v w∧VR w (st.x β Z) (wA ds) v:=by
 obtain⟨vs,h1,h2,h3⟩:=Cw ok h hf _ hr
 have oN:(fn.results.mapM (oH tmps)).run P w=.ok vs.toArray w:=by
  rw[Array.mapM_eq_mapM_toList,Sem.run_map,h1];rfl
 refine⟨if h:vs.toArray.size=1 then vs.toArray[0] else .tuple vs.toArray,?_,?_⟩
 ·rw[Cv];simp only[ι];rw[oN];simp only[δ,ν]
 ·match ds,vs,h2 with
  |[],[],_=>exact .tup [] [] rfl (by simp)
  |[d],[v],_=>exact h3 0 d v rfl rfl
  |d::e::l,u::v::l',h2=>
   rw[dif_neg (by simp)];exact .tup _ _ h2 h3
variable{us:List Value}
theorem Nz {args:List D} (hl:args.length=us.length) (hr:∀(i:Nat) c v,args[i]?=some c→us[i]?=some v→VR w x c v):
  qN w x (pad n args) (us.toArray++ω m undef):=by
 intro t;simp only[pad,Fr.get]
 cases hb:Qb4 n t with
 |true=>exact .bo _ _ _
 |false=>
  simp only;rw[H5];simp only[κ];rw[Qah,Array.getElem?_append];simp only[List.size_toArray,Pe]
  by_cases ht:t<args.length
  ·rw[if_pos ht,if_pos z0,ζ ht,ζ (by omega:t<us.length)];exact hr t _ _ (ζ ht) (ζ _)
  ·rw[if_neg ht,if_neg z0]
   have hu:((ω m undef)[t-us.length]?).getD undef=undef:=by
    rw[Qaw];split<;>rfl
   rw[hu];rw[List.getElem?_replicate]
   split
   ·exact .im _ _ (.tup [] [] rfl (by simp))
   ·exact .bo _ _ _
def Pv.ka (pv:Pv):Prop:=∀f x b,pv.fi f=some x→x.l7=none→x.fn.body=some b→codeOk pv x.dyn x.fn.ntmps b=true
def fv (pv:Pv):fF:=fun f ds st=>match m_ f pv.prm with
 |some p=>p ds st
 |none=>match pv.fi f with
 |some x=>match x.l7 with
  |some p=>p ds st
  |none=>none
 |none=>none
theorem vb {m:Mode} {kn:Bool} (hg:eV (ae m st) st1) (hl:dj m kn st st1 d=some (d',ah)):eV st ah∧(m=.ro∨m=.nw→qQ st ah):=by
 by_cases hm:m=.cw
 ·subst hm;simp only[dj] at hl;cases hl;exact⟨hg,fun h=>by rcases h with h|h<;>cases h⟩
 by_cases hw:m=.nw
 ·subst hw;simp only[dj] at hl;cases hl;have hlen:st.bs.length≤st1.bs.length:=hg.len;have Dd:∀k,k<st.bs.length→st1.bs[k]?=st.bs[k]?:=fun k hk=>hg.low k hk hk
  have:qQ st ⟨st1.bs,st.flr,st.ro⟩:=by
   refine⟨st1.bs.drop st.bs.length,?_⟩
   congr 1
   apply Qan;intro k
   by_cases hk:k<st.bs.length
   ·rw[τ hk];exact Dd k hk
   ·rw[List.getElem?_append_right z0,Qbf];congr 1;omega
  exact⟨this.goes,fun _=>this⟩
 have hl:ah=⟨st1.bs.take st.bs.length,st.flr,st.ro⟩:=by
  cases m<;>first|exact absurd rfl hm|exact absurd rfl hw|skip
  all_goals
   simp only[dj] at hl
   split at hl
   ·cases hl;rfl
   ·cases hl
 subst hl;have hlen:st.bs.length≤st1.bs.length:=by have:=hg.len;rw[cx] at this;exact this
 have hb:∀k,k<st.bs.length→(st1.bs.take st.bs.length)[k]?=st1.bs[k]?:=fun k hk=>by rw[Qam,if_pos hk]
 have LX:(ae m st).flr=st.bs.length:=by cases m<;>first|rfl|exact absurd rfl hm|exact absurd rfl hw
 refine⟨⟨by simp;omega,rfl,rfl,fun k hk hk2=>?_,fun k bx zx hk h1 h2 d hd=>?_⟩,fun h=>?_⟩
 ·have:=hg.low k (by cases m<;>first|exact absurd rfl hw|exact hk|exact hk2) (by rw[cx];exact hk2);rw[cx] at this;simp only;rw[hb k hk2];exact this
 ·have hk2:=gS h1;simp only at h2;rw[hb k hk2] at h2;exact hg.fl k bx zx (by rw[LX];exact hk2) (by rw[cx];exact h1) h2 d hd
 ·have h:=h.resolve_right hw;subst h
  have:st1.bs.take st.bs.length=st.bs:=by
   apply Qan;intro k
   by_cases hk:k<st.bs.length
   ·rw[hb k hk];have:=hg.low k hk (by rw[cx];exact hk);rw[cx] at this;exact this
   ·rw[ψ (by simp;omega),ψ z0]
  rw[this];exact .rfl _
theorem jO {pv:Pv} {P:Program} (ok:pv.Ok P) (hc:pv.ka) (hp:ju P pv (fv pv)):∀n,ju P pv (cQ pv n)
 |0=>⟨fun f ds st r h=>(by cases h),fun f ds st d ah h=>(by cases h),fun f ds st d ah h=>(by cases h),fun f ds st d ah h=>(by cases h)⟩
 |n+1=>by
  have ih:=jO ok hc hp n
  have key:∀{f:Nat} {ds:List D} {st:St} {r:D×St},cQ pv (n+1) f ds st=some r→(fv pv f ds st=some r)∨∃x body,pv.fi f=some x∧x.l7=none∧x.fn.body=some body∧B1 pv (cQ pv n) n x body ds st=some r:=by
   intro f ds st r h;simp only[cQ] at h
   split at h
   ·rename_i p hl;left;simp only[fv,hl];exact h
   rename_i hl
   split at h
   ·rename_i x hx
    split at h
    ·rename_i p Kx;left;simp only[fv,hl,hx,Kx];exact h
    ·rename_i Kx
     split at h
     ·rename_i body hb;exact .inr ⟨x,body,hx,Kx,hb,h⟩
     ·cases h
   ·cases h
  have body:∀{x:Fi} {body:Code} {ds:List D} {st:St} {d:D} {ah:St},B1 pv (cQ pv n) n x body ds st=some (d,ah)→
    ∃out fr st1 es,cv pv (cQ pv n) x.dyn n body (pad x.nloc ds) (ae x.mode st)=some (out,fr,st1)∧(∀i,out≠.exit i)∧l4 pv fr st1 x.fn.results.toList=some es∧dj x.mode x.knul st st1 (wA es)=some (d,ah):=by
   intro x body ds st d ah h;unfold B1 at h
   split at h
   ·cases h
   ·rename_i out fr st1 hne nY
    split at h
    ·rename_i es hr;exact⟨out,fr,st1,es,nY,fun i hi=>by subst hi;exact hne _ rfl,hr,h⟩
    ·cases h
   ·cases h
  refine⟨fun f ds st r h=>?_,fun f ds st d ah h=>?_,fun f ds st d ah h db=>?_,fun f ds st d ah h=>?_⟩
  ·rcases key h with h|⟨x,b,hx,Kx,hb,_⟩
   ·exact hp.fn f ds st r h
   ·obtain⟨h1,h2⟩:=ok.fs f x hx Kx;exact⟨x.fn,b,h1,hb,h2 b hb⟩
  ·rcases key h with h|⟨x,b,hx,Kx,hb,hbd⟩
   ·exact hp.calls f ds st d ah h
   ·intro w β Z us hs hl hr;obtain⟨out,fr,st1,es,nY,hne,Oc,IV⟩:=body hbd;obtain⟨h1,h2⟩:=ok.fs f x hx Kx;refine calls_of_wp h1 hb ?_;have nW:=Gr hs x.mode;have UK:(ae x.mode st).x β Z=st.x β Z:=by simp only[Qap];congr 1;funext k;simp only[Qad,cx]
    have hf:qN w ((ae x.mode st).x β Z) (pad x.nloc ds) (us.toArray++ω (x.fn.ntmps-us.toArray.size) undef):=by rw[UK];exact Nz hl hr
    refine Mx ok ih x.dyn n _ b (BS ?_ b (hc f x b hx Kx hb)) nY nW hf rfl fun a' w' β' Z' hn wx hd _=>?_
    ·simp;omega
    ·obtain⟨v,Bl,rV⟩:=Cu ok hn.sim wx Oc;obtain⟨wz,Kz,IQ,MV⟩:=Il hs x.mode x.knul hn (sm ih x.dyn n b nY) rV IV
     have gV:a'.defers=[]∧∃v,(results x.fn a'.tmps).run P w'=.ok v w'∧(∃v' β' Z',Ending.returned v=.returned v'∧Nx w st β Z w' ah β' Z'∧VR w' (ah.x β' Z') d v'∧(lJ pv f=true→Quiet w w')):=by
      refine⟨hd,v,Bl,v,wz,Kz,rfl,IQ,MV,fun db=>?_⟩
      have hm:x.mode=.ro∨x.mode=.nw:=by
       unfold lJ at db;rw[hx] at db;simp only at db
       split at db
       ·exact .inl z5
       ·exact .inr z5
       ·cases db
      intro c hcl;refine hn.evo.block c hcl ?_;rintro⟨k,base,h5,h6⟩;have:=hs.dom k c base h5
      rcases hm with hm|hm<;>rw[hm] at h6<;>simp only[ae] at h6<;>omega
     cases out with
     |next=>exact gV
     |ret=>exact gV
     |exit i=>exact absurd rfl (hne i)
  ·rcases key h with h|⟨x,b,hx,Kx,hb,hbd⟩
   ·exact hp.ro f ds st d ah h db
   ·obtain⟨out,fr,st1,es,nY,hne,Oc,IV⟩:=body hbd
    have hm:x.mode=.ro∨x.mode=.nw:=by
     unfold lJ at db;rw[hx] at db;simp only at db
     split at db
     ·exact .inl z5
     ·exact .inr z5
     ·cases db
    exact(vb (sm ih x.dyn n b nY) IV).2 hm
  ·rcases key h with h|⟨x,b,hx,Kx,hb,hbd⟩
   ·exact hp.len f ds st d ah h
   ·obtain⟨out,fr,st1,es,nY,hne,Oc,IV⟩:=body hbd;exact(vb (sm ih x.dyn n b nY) IV).1
def Fits {α:Type} (R:Nat→α→Prop):Tr α→Nat→Nat→Prop
 | .leaf a,lo,hi=>hi=lo+1∧R lo a
 | .node k l r,lo,hi=>Fits R l lo k∧Fits R r k hi
theorem Fits.get {α:Type} {R:Nat→α→Prop}:∀{tr:Tr α} {lo hi t:Nat},Fits R tr lo hi→lo≤t→t<hi→R t (tr.get t)
 | .leaf a,lo,hi,t,h,h1,h2=>by
  obtain⟨h3,h4⟩:=h;have:t=lo:=by omega
  subst this;exact h4
 | .node k l r,lo,hi,t,h,h1,h2=>by
  obtain⟨h3,h4⟩:=h;simp only[Tr.get]
  cases hb:Qb4 k t with
  |true=>exact h4.get (Qa8 hb) h2
  |false=>
   have:¬k≤t:=fun hk=>by rw[Qa7 hk] at hb;cases hb
   exact h3.get h1 z0
def O_ (pv:Pv) (x:Fi):Bool:=
 match x.fn.body with
 |some b=>(x.fn.name != "runtime.NumGoroutine") &&codeOk pv x.dyn x.fn.ntmps b
 |none=>true
def NL:List D→St→Option (D×St):=fun _ _=>none
def Pu (pv:Pv) (P:Program) (i:Nat) (x:Fi):Prop:=(P.funcs[i]?=some x.fn∧x.l7=none∧O_ pv x=true)∨x.l7=some NL
def Pt (P:Program) (i:Nat) (x:TypeInfo):Prop:=P.info? i=some x
theorem KD (ht:Fits (Pt P) pv.ty 0 pv.nty) (hf:Fits (Pu pv P) pv.fs 0 pv.nfs) (he:(pv.eqb.all fun t=>!P.stoodInHeld t &&!P.eqGuardType P.depth t)=true) (hm:P.follows .mixedOrders=true) (U':pv.prm=[]):
  pv.Ok P∧pv.ka∧ju P pv (fv pv):=by
 have fi:∀f x,pv.fi f=some x→Pu pv P f x:=by
  intro f x h;unfold Pv.fi at h
  split at h
  ·rename_i hb;cases h;refine hf.get (Pd _) ?_
   rcases η f pv.nfs with h'|h'
   ·exact h'
   ·rw[Qa7 h'] at hb;cases hb
  ·cases h
 have pn:∀f ds st r,fv pv f ds st=some r→False:=by
  intro f ds st r h;unfold fv at h;rw[U'] at h;simp only[m_] at h
  split at h
  ·rename_i x hx
   rcases fi f x hx with⟨_,h1,_⟩|h1<;>rw[h1] at h<;>cases h
  ·cases h
 refine⟨⟨fun t i h=>?_,fun f x h hp=>?_,fun t h=>?_,hm⟩,fun f x b h hp hb=>?_,⟨fun f ds st r h=>(pn f ds st r h).elim,fun f ds st d ah h=>(pn f ds st _ h).elim,fun f ds st d ah h=>(pn f ds st _ h).elim,fun f ds st d ah h=>(pn f ds st _ h).elim⟩⟩
 ·unfold Pv.info at h
  split at h
  ·rename_i hb;cases h;refine ht.get (Pd _) ?_
   rcases η t pv.nty with h'|h'
   ·exact h'
   ·rw[Qa7 h'] at hb;cases hb
  ·cases h
 ·obtain⟨h1,_,h3⟩:=(fi f x h).resolve_right (by rw[hp];simp);refine⟨h1,fun b hb=>?_⟩;unfold O_ at h3;rw[hb] at h3;simp only[ρ,bne_iff_ne,ne_eq] at h3;exact h3.1
 ·have:=GB.1 he t (by simpa using h)
  simpa using this
 ·obtain⟨_,_,h3⟩:=(fi f x h).resolve_right (by rw[hp];simp);unfold O_ at h3;rw[hb] at h3;simp only[ρ] at h3;exact h3.2
theorem sound (h:pv.Ok P∧pv.ka∧ju P pv (fv pv)) {f:Nat} (hs:cQ pv n f ds ⟨[],0,0⟩=some (d,ah)) (hZ:∀b,Z b→b<w.heap.size) (hl:ds.length=us.length) (hr:∀(i:Nat) c v,ds[i]?=some c→us[i]?=some v→IR w Z c v):Calls P f us.toArray w fun e w'=>∃v β' Z',e=.returned v∧Fq (fun _=>False) w w'∧VR w' (ah.x β' Z') d v:=by
 have hY:iH w ⟨[],0,0⟩ (fun _=>none) Z:=⟨fun _ _ _ h=>(by cases h),fun _ _ _ h=>(by cases h),fun _ _ _ _ _ h=>(by cases h),fun _ _ _ h=>(by cases h),hZ,fun _ _ _ _ h=>(by cases h),μ _,μ _⟩
 refine((jO h.1 h.2.1 h.2.2 n).calls f ds _ d ah hs w _ Z us hY hl fun i c v hc hv=>.im _ _ (hr i c v hc hv)).mono fun e w'=>?_;rintro⟨v,β',Z',he,hn,hv,_⟩;refine⟨v,β',Z',he,hn.evo.mono ?_,hv⟩;rintro b ⟨k,base,h,_⟩;cases h
end Go.V
