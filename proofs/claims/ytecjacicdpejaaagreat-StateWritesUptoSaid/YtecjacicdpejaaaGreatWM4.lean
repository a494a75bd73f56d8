/-
 V is sound; no program in sight, no conditions.
-/
import Derived.Test.YtecjacicdpejaaaGreatWM1
import Derived.Orders
set_option linter.unusedSimpArgs false
set_option linter.unusedVariables false
set_option linter.unusedSectionVars false
set_option linter.unnecessarySimpa false
open Option renaming map_eq_some_iff→γ,bind_eq_some_iff→ε,bind_some→Ξ,map_some→VM,some→VT,getD_some→bU
open Go.Result renaming andThen_ok→δ,ok→Qan
open List renaming getElem?_eq_getElem→ζ,getElem?_set_ne→π,getElem?_append_left→τ,mem_of_getElem?→φ,getElem?_eq_none→ψ,getElem?_cons_zero→Δ,getElem?_set_self→Wh,all_eq_true→Z5,mem_cons_self→Y',getElem?_toArray→JS,getD_eq_getElem?_getD→xw,mem_cons_of_mem→v8,getElem?_of_mem→Cr,getElem?_append→Pd,mem_cons→AN,getElem?_take→AT,ext_getElem?→AI,mem_range→Qa0,range→Qa1,getElem?_cons_succ→Qa7,length_eq_zero_iff→Qa8,mem_append_right→Qaa,mem_of_mem_drop→Qaf,map_congr_left→Qai,toList_toArray→Qaj,getElem?_drop→Qam,getElem?_map→Qao,length_cons→Qaq,not_mem_nil→Qar,mapM_cons→Qay
open Nat renaming lt_or_ge→η,le_trans→θ,le_refl→μ,lt_of_lt_of_le→ξ,lt_trichotomy→Q5,eq_of_beq_eq_true→ZD,zero_le→YH,le_max_right→Ut,ble_eq_true_of_le→BY,le_of_ble_eq_true→Cf,beq→R2,ble→Qab,blt→Qac,sub_zero→Qad,succ_mul→Qae,eq_or_lt_of_le→Qap,not_lt_zero→Qaz,strongRecOn→Qb0,add_assoc→Qb7,add_comm→Qb9,zero_add→Qba,mul_one→Qbd
open Go.Sem renaming run_bind→ι,run_pure→ν,run→Qa2
open Array renaming getD_eq_getD_getElem?→κ,getElem?_setIfInBounds_self_of_lt→ο,getElem?_eq_getElem→ς,replicate→ω,getElem?_toList→Θ,getElem?_setIfInBounds_ne→Zn,getElem?_eq_none→YQ,getElem?_push→ki,size_setIfInBounds→VQ,getElem?_modify→GB,length_toList→IN,getElem?_eq_some_iff→IT,ext'→R3,getElem?_replicate→Qa3,ext_getElem?→Qag
open Bool renaming and_eq_true→ρ,false_eq_true→υ,or_eq_true→Qas,false_or→Qb1,not_true→Qb2
open Go.Value renaming int→χ
open Go.V.Quiet renaming refl→Γ,push→tn
open Go.V.Nx renaming same→Φ,still→Qbf
open Go.Builtin renaming zeroCells→Ψ,clear_→IS,len_→Qa4,firstCells→Qa9,max2→Qat,min2→Qau
open Go.Op renaming operands→Ω
open Go.Region renaming binds→Zt,wanted→Qaw
open Go.V.D renaming ref→wt
open Go.Instr renaming findNow→Bv,checkKey→PR,findKey→Pe,mapUpdate→lx,makeMap→Qa5,lookup→Qa6,next→Qah,sureAddr→Qav,sameNow→Qax,loadAt→Qb3,range→Qb6
open Go.V.St renaming aE→LL,push→P8,x→cg
open Go.Utf8 renaming decode→OF,encode→Qbb
open ByteArray renaming size→hD,ext→Qbe
open Go.Conv renaming bytesToString→Qak,stringToBytes→Qal
open Go.World renaming freeze→Qb4,shape?→Qb5,alloc→Qb8,drew→Qbc
namespace Go.V
open Go.RowKit
theorem A6 {P:Program} {f:Value→ByteArray→Sem (ForInStep ByteArray)} (hf:∀n s w,(f (.int .u8 n) s).run P w=.ok (.yield (s.push (UInt8.ofNat n.toNat))) w):∀(cs:List D) (us:List Value) (bs:List UInt8) (acc:ByteArray) (w:World) (x:X),LR w x cs us→oy cs=some bs→
  (forIn us acc f).run P w=.ok (⟨acc.data++bs.toArray⟩) w
 |[],us,bs,acc,w,x,h,hb=>by
  cases us with
  |nil=>simp[oy] at hb;subst hb;simp
  |cons u us=>have:=h.len;simp at this
 |c::cs,us,bs,acc,w,x,h,hb=>by
  cases us with
  |nil=>have:=h.len;simp at this
  |cons u us=>
   unfold oy at hb
   split at hb
   ·rename_i heq;cases heq
   ·rename_i n l heq;cases heq;obtain⟨r,hr,rfl⟩:=γ.1 hb;have hu:=dW (h.rel 0 _ u rfl rfl);subst hu
    have ht:LR w x cs us:=⟨by have:=h.len;simpa using this,fun v hv=>h.one v (v8 _ hv),fun i c u hc hu=>h.rel (i+1) c u hc hu⟩
    have ih:=A6 hf cs us r (acc.push (UInt8.ofNat n.toNat)) w x ht hr;simp only[List.forIn_cons,ι,hf,δ];rw[ih]
    congr 1
    apply Qbe;simp
   ·cases hb
section
variable{pv:Pv} {P:Program} (ok:pv.Ok P)
include ok
def sH (pv:Pv) (s t:TypeId):Bool:=
 match pv.db s,pv.db t with
 |some (.slice _),some (.slice _)=>true
 |_,_=>false
omit ok in
theorem O0 {w:World} {st:St} {β:Nat→Option (Nat×Nat)} {Z:Nat→Prop} (h:jW w st β Z) {k aE:Nat} {ar:Bool} {c:List D} (hm:st.ib k aE=some (ar,c)) {b base:Nat} (hb:β k=some (b,base)) (du:st.ro≤k) (o:Nat):
  ∃w',(markStringish ⟨b,o,none⟩).run P w=.ok () w'∧Nx w st β Z w' st β Z:=by
 obtain⟨cs,el,fr,h1,h2,h3,h4⟩:=h.row hm hb;have hbl:b<w.heap.size:=h.lt k b base hb;have hsh:w.shape? b=some (el,cs.size):=by simp only[Qb5,h1]
 refine⟨w.freeze ⟨b,cs.size,none⟩ 1,?_,?_⟩
 ·simp only[markStringish,ι,run_shape,hsh,δ,run_freeze]
 ·obtain⟨lo,hi⟩:=fr
  have hf:∃aM:Nat×Nat,vT cs.size aM∧w.freeze ⟨b,cs.size,none⟩ 1=wput w b (.cells cs el aM):=by
   refine⟨if lo==hi then(cs.size,cs.size+1) else(min lo cs.size,max hi (cs.size+1)),?_,?_⟩
   ·split
    ·exact⟨by simp,fun o ho=>by simp only;omega⟩
    ·rename_i hne;have hne:lo≠hi:=by simpa using hne
     have h5:=h3.1;have h6:=h3.2 lo;simp only at h5 h6;refine⟨by simp only;omega,fun o ho=>?_⟩;simp only;omega
   ·simp only[Qb4,wput,if_neg (show¬(1=0) by omega)]
    congr 1
    apply Qag;intro j;rw[GB]
    by_cases hj:b=j
    ·subst hj;rw[if_pos rfl,h1,ο hbl];rfl
    ·rw[if_neg hj,Zn hj]
  obtain⟨aM,cO,cM⟩:=hf;have jm:=(eD hm).1;have hx:=Nx.Kj (a':=ar) (rb:=aE) (c':=c) (eL:=base) h hm hb du (μ _) (fun _=>rfl) h1 cO rfl h2 h4
  have e1:(fun i=>if i=k then some (b,base) else β i)=β:=by
   funext i;split
   ·rename_i e;subst e;exact hb.symm
   ·rfl
  have e2:({st with bs:=st.bs.set k (.mem aE ar c)}:St)=st:=by
   obtain⟨bs,f,r⟩:=st;simp only at jm⊢
   congr 1
   apply AI;intro j
   by_cases hj:k=j
   ·subst hj;rw[Wh (h.dom k b base hb),jm]
   ·rw[π hj]
  rw[e1,e2] at hx;rw[cM];exact hx
theorem Qh {w:World} {st ai:St} {β:Nat→Option (Nat×Nat)} {Z:Nat→Prop} (h:jW w st β Z) {s t:Nat} {d r:D} {u:Value} (hu:VR w (st.x β Z) d u) (hs:j8 pv s t d st=some (r,ai)):
  ∃z w' β',(convert s t u).run P w=.ok z w'∧Nx w st β Z w' ai β' Z∧VR w' (ai.x β' Z) r z∧(sH pv s t=false→Quiet w w'):=by
 unfold j8 at hs
 split at hs
 ·rename_i sd k k' n h1 h2;cases hs;rw[dW hu];exact⟨_,w,β,by simp[convert,aT ok h1,aT ok h2,Conv.intToInt];rfl,Φ h,by rw[kI];exact .im _ _ (.int _ _),fun _=>Γ _⟩
 ·rename_i sd k n h1 h2;cases hs;rw[dW hu];refine⟨.string (Qbb n),w,β,by cases sd<;>simp[convert,aT ok h1,aT ok h2,Conv.intToString],Φ h,.im _ _ ?_,fun _=>Γ _⟩;have:=IR.str (w:=w) (Z:=(st.x β Z).Z) (Qbb n).data.toList
  simpa using this
 ·rename_i sd l h1 h2;cases hs;rw[iW hu];exact⟨_,w,β,by cases sd<;>simp[convert,aT ok h1,aT ok h2]<;>rfl,Φ h,.im _ _ (.str _),fun _=>Γ _⟩
 ·rename_i sd e l h1 h2
  split at hs
  ·rename_i he
   split at hs
   ·rename_i hlen;cases hs;rw[iW hu];have Jz:=NA l.length 0 e (w.tape w.drawn (.appendCap l.length 0 e));generalize hq:(Question.appendCap l.length 0 e).cut (w.tape w.drawn (.appendCap l.length 0 e))=cap at Jz;have hsz:(⟨l.toArray⟩:ByteArray).size=l.length:=by simp[hD]
    have hS:Nx w st β Z w.drew st β Z:=Qbf h rfl rfl rfl rfl;have fu:((l.map fun b=>χ .u8 b.toNat).toArray++ω (cap-l.length) (χ .u8 0)).size=cap:=by simp;omega
    have hfz:∀c:Array Value,(w.drew.alloc (.cells c e)).freeze ⟨w.heap.size,c.size,none⟩ 1={w.drew with heap:=w.heap.push (.cells c e (c.size,c.size+1))}:=by
     intro c;simp only[Qb4,Qb8,Qbc];simp only[if_neg (show¬(1=0) by omega)]
     congr 1
     apply Qag;intro j;rw[GB]
     by_cases hj:w.heap.size=j
     ·subst hj;simp
     ·rw[if_neg hj,ki,ki,if_neg (fun e=>hj e.symm),if_neg (fun e=>hj e.symm)]
    obtain⟨hx,x1,x2,x3⟩:=Nx.o0 (w':={w.drew with heap:=w.heap.push (.cells ((l.map fun b=>χ .u8 b.toNat).toArray++ω (cap-l.length) (χ .u8 0)) e (cap,cap+1))}) hS.sim true (l.map fun x=>.int .u8 x.toNat)
     ((l.map fun b=>χ .u8 b.toNat).toArray++ω (cap-l.length) (χ .u8 0)) e (cap,cap+1) rfl rfl rfl rfl (by rw[fu];simpa using Jz) ⟨by simp,fun o ho=>by rw[fu] at ho;simp;omega⟩ (fun j d hd=>by
      obtain⟨y,hy1,F_,BV⟩:=(EO w.drew (st.x β Z) l).at_ hd;refine⟨y,?_,F_,BV⟩
      have hlt:j<(l.map fun b=>χ .u8 b.toNat).length:=by
       rcases η j (l.map fun b=>χ .u8 b.toNat).length with h'|h'
       ·exact h'
       ·rw[ψ h'] at hy1;cases hy1
      rw[Array.getElem?_append_left (by simpa using hlt)]
      simpa using hy1)
    refine⟨.slice (some ⟨w.heap.size,0,none⟩) l.length cap,_,_,?_,hS.trans hx,pR x2 x3 x1 Jz (by rw[fu];omega),fun _=>tn rfl⟩
    have rP:(Qal e ⟨l.toArray⟩).run P w=.ok (.slice (some ⟨w.heap.size,0,none⟩) l.length cap) {w.drew with heap:=w.heap.push (.cells ((l.map fun b=>χ .u8 b.toNat).toArray++ω (cap-l.length) (χ .u8 0)) e (cap,cap+1))}:=by
     have tJ:((⟨l.toArray⟩:ByteArray).data.map fun b=>χ .u8 b.toNat)=(l.map fun b=>χ .u8 b.toNat).toArray:=by simp
     simp only[Qal,ι,run_choose,Question.forced,υ,if_false,δ,hsz,hq,tJ,newRow,run_newObj,ν,markStringish,run_shape]
     have RV:(w.drew.alloc (.cells ((l.map fun b=>χ .u8 b.toNat).toArray++ω (cap-l.length) (χ .u8 0)) e)).shape? w.heap.size=some (e,cap):=by
      simp only[Qb5,Qb8,Qbc];rw[ki,if_pos rfl];simp[fu]
     have ha:({heap:=w.heap.push (Obj.cells ((l.map fun b=>χ .u8 b.toNat).toArray++ω (cap-l.length) (χ .u8 0)) e),tape:=w.tape,drawn:=w.drawn+1,os:=w.os,output:=w.output}:World)=w.drew.alloc (.cells ((l.map fun b=>χ .u8 b.toNat).toArray++ω (cap-l.length) (χ .u8 0)) e):=rfl;rw[ha];simp only[RV,ι,run_freeze,δ,ν];have:=hfz ((l.map fun b=>χ .u8 b.toNat).toArray++ω (cap-l.length) (χ .u8 0));rw[fu] at this;rw[this]
    cases sd<;>simp only[convert,ι,aT ok h1,aT ok h2,δ,aT ok he,rP]
   ·cases hs
  ·cases hs
 ·rename_i e' e k aE off len sz h1 h2
  split at hs
  ·rename_i q he hm;obtain⟨ar,c⟩:=q
   split at hs
   ·rename_i wv;obtain⟨jO,hlen,Oc⟩:=wv;have jO:=ZD jO;subst jO;cases hs;obtain⟨a,cap,rfl,hc,hk,_,mB⟩:=gS hu;obtain⟨b,base,Ou,hb,_,B_⟩:=mB (eD hm).2
    rcases B_ with rfl|⟨rfl,_⟩
    ·omega
    obtain⟨w',m1,m2⟩:=O0 (P:=P) h hm hb (gq Oc) (base+off);refine⟨_,w',β,?_,m2,hu.mono m2.keeps,fun e=>?_⟩
    ·rw[h1] at h2;cases h2;simp only[convert,ι,aT ok h1,δ,aT ok he,beq_self_eq_true,m1,ν]
    ·rw[h1] at h2;cases h2;simp[sH,h1] at e
   ·cases hs
  ·cases hs
 ·rename_i dd o1 o2 d4 e h1 h2 jX CA
  split at hs
  ·rename_i n cs he kL
   split at hs
   ·cases hs
   ·rename_i Pu
    split at hs
    ·rename_i hl;obtain⟨bs,hb,hr⟩:=γ.1 hs;cases hr;obtain⟨hlen,fu⟩:=w7 (P:=P) h hu kL;obtain⟨us,u1,u2⟩:=fu 1 n (μ _) (by omega);rw[Qbd,←hl,List.take_length] at u2;refine⟨.string ⟨bs.toArray⟩,w,β,?_,Φ h,.im _ _ (.str _),fun _=>Γ _⟩
     have kX:∃a q c,u=.slice a q c:=by
      cases dd with
      |sl es=>obtain⟨_,_,e,_⟩:=oS hu;exact⟨_,_,_,e⟩
      |nul=>exact⟨_,_,_,gT hu⟩
      |win k v o l s=>obtain⟨_,_,e,_⟩:=gS hu;exact⟨_,_,_,e⟩
      |str l=>exact absurd rfl (Pu l)
      |_=>simp[su] at kL
     obtain⟨a,q,c,rfl⟩:=kX;have hq:q=n:=by simp[Builtin.lenOf] at hlen;exact hlen
     subst hq
     have Jy:(convert s t (.slice a q c)).run P w=(Qak (.slice a q c)).run P w:=by
      simp[convert,aT ok h1,aT ok h2,aT ok he]
     rw[Jy]
     cases a with
     |none=>
      have kZ:us=[]:=by
       simp only[Qa9,ν,Qan.injEq] at u1;have:=u1.1;cases us<;>simp at this⊢
      subst kZ;have:cs=[]:=Qa8.1 (by have:=u2.len;simpa using this);subst this;simp[oy] at hb;subst hb
      rfl
     |some a=>
      simp only[Qa9,Qbd] at u1;simp only[Qak,ι,u1,δ,List.forIn_toArray];rw[A6 (P:=P) (fun n s w=>by simp) cs us bs .empty w _ u2 hb];simp
    ·cases hs
  ·cases hs
 ·cases hs
omit ok in
theorem Nx.obj {w:World} {st:St} {β:Nat→Option (Nat×Nat)} {Z:Nat→Prop} (h:jW w st β Z) {k b:Nat} (hβ:β k=some (b,0)) (du:st.ro≤k) {o o':Obj} {bx Cp:lu} (jm:st.bs[k]?=some bx) (hw:w.heap[b]?=some o) (hv:eB Cp=eB bx)
  (rh:∀w1:World,w1.heap[b]?=some o'→dS w1 b=dS w b) (ba:∀x',lq (wput w b o') x' b 0 Cp):Nx w st β Z (wput w b o') {st with bs:=st.bs.set k Cp} β Z:=by
 have hbl:=h.lt k b 0 hβ;have kq:=h.dom k b 0 hβ
 have hne:∀i,i≠b→(wput w b o').heap[i]?=w.heap[i]?:=by
  intro i hi;simp only[wput];rw[Zn (by omega)]
 have heq:(wput w b o').heap[b]?=some o':=by
  simp only[wput];rw[ο hbl]
 have yc:∀i,({st with bs:=st.bs.set k Cp}:St).aE i=st.aE i:=by
  intro i;simp only[LL]
  by_cases hik:i=k
  ·subst hik;rw[Wh kq,jm];exact hv
  ·rw[π (by omega)]
 have Vy:fq w (st.x β Z) (wput w b o') (({st with bs:=st.bs.set k Cp}:St).x β Z):=by
  refine⟨fun i p hp=>⟨p,hp⟩,fun i hi=>⟨hi,hne i fun e=>h.zd k b 0 hβ (e▸hi)⟩,fun i q p hi hq=>⟨q,?_,μ _⟩,fun i q hq sU i' y hy=>⟨hy,?_⟩⟩
  ·have:=yc i;show st.aE i=some q;rw[←this];exact hq
  ·by_cases e:i'=b
   ·subst e;exact rh _ heq
   ·exact gg (hne i' e)
 refine⟨⟨?_,?_,h.inj,h.zd,?_,?_,?_,?_⟩,Vy,⟨rfl,rfl,rfl,by simp[wput],fun i _ hn=>hne i fun e=>hn ⟨k,0,e▸hβ,du⟩⟩,
  fun i q y hq=>.inl ⟨y,hq⟩,fun _ hz=>.inl hz,by simp,rfl,rfl,?_,fun i _ h0=>by
   have:i≠k:=fun e=>by subst e;rw[hβ] at h0;cases h0
   dsimp only;rw[π (by omega)]
   exact⟨h0,rfl⟩⟩
 ·intro i q y hq;simp;exact h.dom i q y hq
 ·intro i q y hq;simp only[wput,VQ];exact h.lt i q y hq
 ·intro i hi;simp only[wput,VQ];exact h.zl i hi
 ·intro i q y bx2 hq MF;(try dsimp only at MF)
  by_cases hik:i=k
  ·subst hik;rw[Wh kq] at MF;cases MF;rw[hβ] at hq;cases hq;exact ba _
  ·rw[π (by omega)] at MF;exact(h.box i q y bx2 hq MF).cw Vy (hne q fun e=>hik (h.inj i k q _ _ hq (e▸hβ)))
 ·have:=h.flr;simp;omega
 ·have:=h.ro;simp;omega
 ·intro i hi;dsimp only;rw[π (by omega)];exact⟨rfl,rfl⟩
omit ok in
theorem pA {kk:IntKind} {n:Int} {kt:IntKind}:∀{es:List (D×D)} {en:List MapEntry} {i:Nat} {r:Option (Nat×D)},jJ kk n es i=some r→en.length=es.length→
  (∀(j:Nat) p,es[j]?=some p→∃kk n vk x e,p=(.int kk n,.int vk x)∧en[j]?=some e∧e.key=.int kk n∧e.val=.int vk x)→
  match r with
  |none=>Bv (.int kt) (.int kk n) en i=some none
  |some (q,d)=>∃v,Bv (.int kt) (.int kk n) en i=some (some (q,v))∧i≤q∧q-i<es.length∧(∃vk x,d=.int vk x∧v=.int vk x)∧∃e,en[q-i]?=some e∧e.key=.int kk n
 |[],en,i,r,h,hl,_=>by
  simp only[jJ] at h;cases h;have:en=[]:=Qa8.1 hl;subst this;rfl
 |(a,d)::es,en,i,r,h,hl,hr=>by
  obtain⟨kk',m,vk,x,e,hp,he,hk,hv⟩:=hr 0 _ rfl;cases hp
  obtain⟨e0,en,rfl⟩:∃e0 en',en=e0::en':=by cases en with|nil=>simp at hl|cons a b=>exact⟨a,b,rfl⟩
  simp only[Δ,VT.injEq] at he;subst he;simp only[jJ] at h
  split at h
  ·rename_i hkk;subst hkk
   split at h
   ·rename_i Pw;cases h;have Pw:n=m:=by simpa using Pw
    subst Pw;refine⟨.int vk x,?_,μ _,by simp,⟨vk,x,rfl,rfl⟩,e0,by simp,hk⟩;simp only[Bv,hk,Qax,if_true,beq_self_eq_true,hv]
   ·rename_i Pw;have ih:=pA (kt:=kt) (en:=en) h (by simpa using hl) (fun j p hj=>by simpa using hr (j+1) p (by simpa using hj))
    have hf:Bv (.int kt) (.int kk n) (e0::en) i=Bv (.int kt) (.int kk n) en (i+1):=by
     have:(n==m)=false:=by simpa using Pw
     simp only[Bv,hk,Qax,if_true,this]
    cases r with
    |none=>simp only at ih⊢;rw[hf];exact ih
    |some q=>
     obtain⟨q,d'⟩:=q;simp only at ih⊢;obtain⟨v,h1,h2,h3,h4,e,h5,h6⟩:=ih;refine⟨v,by rw[hf];exact h1,by omega,by simp;omega,h4,e,?_,h6⟩;rw[show q-i=(q-(i+1))+1 by omega]
     simpa using h5
  ·cases h
theorem FV {w:World} {st ai:St} {β:Nat→Option (Nat×Nat)} {Z:Nat→Prop} (h:jW w st β Z) {t:Nat} {d:Option D} {u:Option Value} {r:D} (hn:d=none↔u=none) (hu:∀a v,d=some a→u=some v→VR w (st.x β Z) a v) (hs:sI pv t d st=some (r,ai)):
  ∃z w' β',(Qa5 t u).run P w=.ok z w'∧Nx w st β Z w' ai β' Z∧VR w' (ai.x β' Z) r z∧Quiet w w':=by
 have hx:=Nx.push (w':=w.alloc (.map #[] 0)) h (.map #[] 0) rfl rfl rfl rfl (.map []) (fun _=>⟨rfl,#[],0,by
  show(w.heap.push _)[w.heap.size]?=_
  simp,rfl,fun i p hp=>by simp at hp⟩)
 have hv:VR (w.alloc (.map #[] 0)) ((st.push (.map [])).x (gN β st.bs.length w.heap.size) Z) (.mp st.bs.length) (.map (some w.heap.size)):=by
  refine .mp _ _ ⟨_,by simp[cg,gN];rfl⟩ fun _=>⟨0,by simp[cg,gN]⟩
 unfold sI at hs
 split at hs
 ·cases hs;have:u=none:=hn.1 rfl;subst this;refine⟨.map (some w.heap.size),_,_,?_,hx,hv,tn rfl⟩;simp only[Qa5,ι,ν,δ,run_newObj];rfl
 ·rename_i kk n
  split at hs
  ·rename_i kt e ht;cases hs
   cases u with
   |none=>have:=hn.2 rfl;cases this
   |some v=>
    have:=dW (hu _ v rfl rfl);subst this;refine⟨.map (some w.heap.size),_,_,?_,hx,hv,tn rfl⟩;simp only[Qa5,ι,aT ok ht,asInt,asIntOf,ν,δ,run_newObj];rfl
  ·cases hs
 ·cases hs
variable{w:World}{st ai:St}{β:Nat→Option (Nat×Nat)}{Z:Nat→Prop}{t:Nat}{m key:D}{um uk:Value}
theorem Al (h:jW w st β Z) {v:D} {uv:Value} (hm:VR w (st.x β Z) m um) (hk:VR w (st.x β Z) key uk) (hv:VR w (st.x β Z) v uv) (hs:mw pv t m key v st=some ai):
  ∃w',(lx t um uk uv).run P w=.ok () w'∧Nx w st β Z w' ai β Z:=by
 unfold mw at hs
 split at hs
 ·rename_i kt e k kk n vk x ht
  split at hs
  ·rename_i ik es Sv hb
   split at hs
   ·rename_i Oc;obtain⟨r,rfl,mB⟩:=Hc hm;obtain⟨base,hβ⟩:=mB (by simp[cg,LL,hb,eB]);have hβ:β k=some (r,base):=hβ;have:=dW hk;subst this;have:=dW hv;subst this;obtain⟨rfl,en,cl,h1,h2,h3⟩:=h.box k r base _ hβ hb;have hl:en.toList.length=es.length:=by simpa using h2
    have wv:∀m:Nat,(PR false (m+1) kt (.int kk n)).run P w=.ok () w:=by
     intro m;unfold PR;simp only[ι,aT ok Sv,δ,ν]
    have hget:(getObj r).run P w=.ok (.map en cl) w:=by simp[getObj,Qa2,h1]
    split at hs
    ·rename_i q d hf;cases hs
     obtain⟨vv,g1,g2,g3,⟨vk',x',rfl,rfl⟩,e0,g4,g5⟩:=pA (kt:=ik) (en:=en.toList) hf hl (fun j p hj=>by
      obtain⟨a,b,c,d,e,q1,q2,q3⟩:=h3 j p hj
      exact⟨a,b,c,d,e,q1,by simpa using q2,q3⟩)
     simp only[Qad] at g3 g4;have g4':en[q]?=some e0:=by simpa using g4
     have Kb:q<en.size:=(IT.1 g4').1
     have hx:=Nx.obj (o':=.map (en.modify q fun e=>{e with key:=.int kk n,val:=.int vk x}) cl) (Cp:=.map (es.set q (.int kk n,.int vk x))) h hβ (gq Oc) hb h1 rfl (fun w1 UO=>by simp[dS,UO,h1]) fun x'=>by
      refine⟨rfl,_,cl,by simp only[wput];rw[ο (h.lt k r 0 hβ)],by simp[h2],fun i p hp=>?_⟩;rw[List.getElem?_set] at hp
      split at hp
      ·rename_i Z4;subst Z4;(try rw[if_pos (by omega)] at hp);cases hp;exact⟨kk,n,vk,x,{e0 with key:=.int kk n,val:=.int vk x},rfl,by rw[GB,if_pos rfl,g4'];rfl,rfl,rfl⟩
      ·rename_i Z4;obtain⟨a,b,c,d,e,q1,q2,q3⟩:=h3 i p hp;exact⟨a,b,c,d,e,q1,by rw[GB,if_neg Z4];exact q2,q3⟩
     refine⟨_,?_,hx⟩;have Sy:((en[q]?).map (·.key)).getD (.int kk n)=.int kk n:=by rw[g4'];simpa using g5
     simp only[lx,ι,aT ok ht,δ,hget,wv 9999,Pe,aT ok Sv,g1,ν,Sy,Instr.keyThatStays,Instr.sameBits,beq_self_eq_true,Bool.and_self,if_true];simp[setObj,Qa2,wput,h1]
    ·rename_i hf;cases hs
     have g1:=pA (kt:=ik) (en:=en.toList) hf hl (fun j p hj=>by
      obtain⟨a,b,c,d,e,q1,q2,q3⟩:=h3 j p hj
      exact⟨a,b,c,d,e,q1,by simpa using q2,q3⟩)
     simp only at g1
     have hx:=Nx.obj (o':=.map (en.push {key:=.int kk n,val:=.int vk x,born:=cl}) (cl+1)) (Cp:=.map (es++[(.int kk n,.int vk x)])) h hβ (gq Oc) hb h1 rfl (fun w1 UO=>by simp[dS,UO,h1]) fun x'=>by
      refine⟨rfl,_,cl+1,by simp only[wput];rw[ο (h.lt k r 0 hβ)],by simp[h2],fun i p hp=>?_⟩;rw[Pd] at hp
      split at hp
      ·rename_i hi;obtain⟨a,b,c,d,e,q1,q2,q3⟩:=h3 i p hp;exact⟨a,b,c,d,e,q1,by rw[ki,if_neg (by omega)];exact q2,q3⟩
      ·rename_i hi
       have AA:i-es.length=0:=by
        rcases Nat.eq_zero_or_pos (i-es.length) with h'|h'
        ·exact h'
        ·rw[ψ (by simp;omega)] at hp;cases hp
       rw[AA] at hp;simp at hp;subst hp;exact⟨kk,n,vk,x,_,rfl,by rw[ki,if_pos (by omega)],rfl,rfl⟩
     refine⟨_,?_,hx⟩;simp only[lx,ι,aT ok ht,δ,hget,wv 9999,Pe,aT ok Sv,g1,ν];simp[setObj,Qa2,wput,h1]
    ·cases hs
   ·cases hs
  ·cases hs
 ·cases hs
variable{r:D}
theorem Jf (h:jW w st β Z) (hm:VR w (st.x β Z) m um) (hk:VR w (st.x β Z) key uk) (hs:sJ pv t m key st=some r):
  ∃z,(Qa6 t um uk false).run P w=.ok z w∧VR w (st.x β Z) r z:=by
 unfold sJ at hs
 split at hs
 ·rename_i kt e k kk n ht
  split at hs
  ·rename_i ik es Sv hb;obtain⟨a,rfl,mB⟩:=Hc hm;obtain⟨base,hβ⟩:=mB (by simp[cg,LL,hb,eB]);have hβ:β k=some (a,base):=hβ;have:=dW hk;subst this;obtain⟨rfl,en,cl,h1,h2,h3⟩:=h.box k a base _ hβ hb;have hl:en.toList.length=es.length:=by simpa using h2
   have wv:∀b,(PR b 10000 kt (.int kk n)).run P w=.ok () w:=by
    intro b;unfold PR;simp only[ι,aT ok Sv,δ,ν]
   have hget:(getObj a).run P w=.ok (.map en cl) w:=by simp[getObj,Qa2,h1]
   split at hs
   ·rename_i q d hf;cases hs
    obtain⟨vv,g1,g2,g3,⟨vk',x',rfl,rfl⟩,e0,g4,g5⟩:=pA (kt:=ik) (en:=en.toList) hf hl (fun j p hj=>by
     obtain⟨a,b,c,d,e,q1,q2,q3⟩:=h3 j p hj
     exact⟨a,b,c,d,e,q1,by simpa using q2,q3⟩)
    refine⟨.int vk' x',?_,.im _ _ (.int _ _)⟩;simp only[Qa6,ι,aT ok ht,δ,hget,ν,wv,Pe,aT ok Sv,g1]
    rfl
   ·rename_i hf;obtain⟨z,hz,RJ⟩:=Db ok hs w
    have g1:=pA (kt:=ik) (en:=en.toList) hf hl (fun j p hj=>by
     obtain⟨a,b,c,d,e,q1,q2,q3⟩:=h3 j p hj
     exact⟨a,b,c,d,e,q1,by simpa using q2,q3⟩)
    simp only at g1;refine⟨z,?_,by rw[RJ];exact .im _ _ (xv _ _ z)⟩;simp only[Qa6,ι,aT ok ht,δ,hget,ν,wv,Pe,aT ok Sv,g1,hz]
    rfl
   ·cases hs
  ·cases hs
 ·cases hs
variable{d:D}{u:Value}
theorem K3 (h:jW w st β Z) (hu:VR w (st.x β Z) d u) (hs:Bt pv t d st=some (r,ai)):
  ∃z w' β',(Qb6 t u).run P w=.ok z w'∧Nx w st β Z w' ai β' Z∧VR w' (ai.x β' Z) r z∧Quiet w w':=by
 unfold Bt at hs
 split at hs
 ·rename_i l ht;cases hs;rw[iW hu]
  have hx:=Nx.push (w':=w.alloc (.stringIter ⟨l.toArray⟩ 0)) h (.stringIter ⟨l.toArray⟩ 0) rfl rfl rfl rfl (.iter l 0) (fun _=>⟨rfl,by
   show(w.heap.push _)[w.heap.size]?=_
   simp⟩)
  refine⟨.pointer (some ⟨w.heap.size,0,none⟩),_,_,?_,hx,?_,tn rfl⟩
  ·simp only[Qb6,ι,aT ok ht,δ,ν,run_newObj];rfl
  ·refine .ptr _ _ _ _ ⟨_,by simp[cg,gN];rfl⟩ (fun c _=>YH _) fun _=>⟨w.heap.size,0,by simp[cg,gN],rfl⟩
 ·cases hs
omit ok in
theorem OV (h:jW w st β Z) {b:Bool} {ty:TypeId} (hu:VR w (st.x β Z) d u) (hs:Ad d b st=some (r,ai)):
  ∃z w',(Qah u b ty).run P w=.ok z w'∧Nx w st β Z w' ai β Z∧VR w' (ai.x β Z) r z:=by
 unfold Ad at hs
 split at hs
 ·rename_i k
  split at hs
  ·rename_i l pos hb;obtain⟨a,rfl,hk,mB⟩:=dx hu;have nz:st.aE k=some 0:=by simp[LL,hb,eB]
   obtain⟨b,base,UB,rfl⟩:=mB nz;have hβ:β k=some (b,base):=UB;clear UB;obtain⟨rfl,Mu⟩:=h.box k b base _ hβ hb;have hbl:=h.lt k b 0 hβ;have hsz:(⟨l.toArray⟩:ByteArray).size=l.length:=by simp[hD]
   split at hs
   ·rename_i hp
    split at hs
    ·rename_i Oc;cases hs;have kq:=h.dom k b 0 hβ
     let w':World:={w with heap:=w.heap.setIfInBounds b (.stringIter ⟨l.toArray⟩ (pos+(OF ⟨l.toArray⟩ pos).2))}
     have hne:∀i,i≠b→w'.heap[i]?=w.heap[i]?:=by
      intro i hi;show(w.heap.setIfInBounds b _)[i]?=_;rw[Zn (by omega)]
     have heq:w'.heap[b]?=some (.stringIter ⟨l.toArray⟩ (pos+(OF ⟨l.toArray⟩ pos).2)):=by
      show(w.heap.setIfInBounds b _)[b]?=_;rw[ο hbl]
     have yc:∀i,({st with bs:=st.bs.set k (.iter l (pos+(OF ⟨l.toArray⟩ pos).2))}:St).aE i=st.aE i:=by
      intro i;simp only[LL]
      by_cases hik:i=k
      ·subst hik;rw[Wh kq,hb];rfl
      ·rw[π (by omega)]
     have Vy:fq w (st.x β Z) w' (({st with bs:=st.bs.set k (.iter l (pos+(OF ⟨l.toArray⟩ pos).2))}:St).x β Z):=by
      refine⟨fun i p hp=>⟨p,hp⟩,fun i hi=>⟨hi,hne i fun e=>h.zd k b 0 hβ (e▸hi)⟩,fun i q p hi hq=>⟨q,?_,μ _⟩,fun i q hq sU i' y hy=>⟨hy,?_⟩⟩
      ·have:=yc i;show st.aE i=some q;rw[←this];exact hq
      ·by_cases e:i'=b
       ·subst e;simp[dS,heq,Mu]
       ·exact gg (hne i' e)
     refine⟨.tuple #[.bool true,.int .i64 pos,.int .i32 (OF ⟨l.toArray⟩ pos).1],w',?_,⟨⟨?_,?_,h.inj,h.zd,?_,?_,?_,?_⟩,Vy,⟨rfl,rfl,rfl,by simp[w'],fun i _ hn=>hne i fun e=>hn ⟨k,0,e▸hβ,gq Oc⟩⟩,
      fun i q y hq=>.inl ⟨y,hq⟩,fun _ hz=>.inl hz,by simp,rfl,rfl,?_,fun i _ h0=>by
       have:i≠k:=fun e=>by subst e;rw[hβ] at h0;cases h0
       dsimp only;rw[π (by omega)]
       exact⟨h0,rfl⟩⟩,?_⟩
     ·simp only[Qah,ι,getObj,setObj];simp[Qa2,Mu,hsz,hp,goInt,w']
     ·intro i q y hq;simp;exact h.dom i q y hq
     ·intro i q y hq;simp only[w',VQ];exact h.lt i q y hq
     ·intro i hi;simp only[w',VQ];exact h.zl i hi
     ·intro i q y bx hq jm;(try dsimp only at jm)
      by_cases hik:i=k
      ·subst hik;rw[Wh kq] at jm;cases jm;rw[hβ] at hq;cases hq;exact⟨rfl,heq⟩
      ·rw[π (by omega)] at jm;exact(h.box i q y bx hq jm).cw Vy (hne q fun e=>hik (h.inj i k q _ _ hq (e▸hβ)))
     ·have:=h.flr;simp;omega
     ·have:=h.ro;simp;omega
     ·intro i hi;have:=gq Oc;dsimp only;rw[π (by omega)];exact⟨rfl,rfl⟩
     ·refine .im _ _ (.tup _ [.bool true,.int .i64 pos,.int .i32 (OF ⟨l.toArray⟩ pos).1] rfl fun i c v hc hv=>?_)
      match i with
      |0=>simp at hc hv;subst hc;subst hv;exact .bool _
      |1=>simp at hc hv;subst hc;subst hv;exact .int _ _
      |2=>simp at hc hv;subst hc;subst hv;exact .int _ _
      |i+3=>simp at hc
    ·cases hs
   ·rename_i hp;cases hs;refine⟨.tuple #[.bool false],w,?_,Φ h,.im _ _ (.tup _ [.bool false] rfl fun i c v hc hv=>?_)⟩
    ·simp only[Qah,ι,getObj];simp[Qa2,Mu,hsz,hp]
    ·match i with
     |0=>simp at hc hv;subst hc;subst hv;exact .bool _
     |i+1=>simp at hc
  ·cases hs
 ·cases hs
end
end Go.V
namespace Go.V
open Go.RowKit
def Did (P:Program) (a:Act) (o:Oper) (w:World) (v:Value) (w':World):Prop:=
 (execOp a.eval o).run P w=.ok (.value v) w'∨((execOp a.eval o).run P w=.ok .skip w'∧v=undef)
def ny (pv:Pv) (f:Nat):Bool:=
 match pv.fi f with
 |some x=>match x.mode with
  | .ro| .nw=>true
  |_=>false
 |none=>false
def iC (pv:Pv) (o:Oper):Bool:=
 match o.op with
 | .store _ _ _=>true
 | .next _ _=>true
 | .convert s t _=>sH pv s t
 | .insert _ _ _ _=>true
 | .mapUpdate _ _ _ _=>true
 | .call ⟨.builtin b,_,_⟩=>match b with
  | .len| .min| .max=>false
  |_=>true
 | .call ⟨.value (.func f),_,_⟩=>!ny pv f
 | .call _=>true
 |_=>false
theorem Cc {P:Program} {w:World} {x:X} (vx:Bool):∀(ds:List D) (us:List Value) {d r:D} {u:Value},ds.length=us.length→(∀(i:Nat) c v,ds[i]?=some c→us[i]?=some v→VR w x c v)→VR w x d u→vC (Ag vx) d ds=some r→
  ∃z,(us.foldlM (if vx then Qau else Qat) u).run P w=.ok z w∧VR w x r z
 |[],us,d,r,u,hl,_,hd,hf=>by
  cases us with
  |nil=>simp[vC] at hf;subst hf;exact⟨u,by simp,hd⟩
  |cons v us=>simp at hl
 |e::ds,us,d,r,u,hl,hr,hd,hf=>by
  cases us with
  |nil=>simp at hl
  |cons v us=>
   simp only[vC] at hf;obtain⟨m,hm,hf⟩:=ε.1 hf;have he:=hr 0 e v rfl rfl;unfold Ag at hm
   split at hm
   ·rename_i k a k' b;cases hm;rw[dW hd,dW he];have hz:VR w x (.int k (if vx then(if b<a then b else a) else(if b>a then b else a))) (.int k (if vx then(if b<a then b else a) else(if b>a then b else a))):=.im _ _ (.int _ _);obtain⟨z,h1,h2⟩:=Cc (P:=P) vx ds us (by simpa using hl) (fun i c v hc hv=>hr (i+1) c v hc hv) hz hf;refine⟨z,?_,h2⟩;simp only[List.foldlM_cons,ι];cases vx<;>simp[Qau,Qat] at h1⊢<;>exact h1
   ·cases hm
theorem O5 {w:World} {x:X} {d:D} {u:Value} {n:Nat} (hu:VR w x d u) (h:DP d=some n) (hs:∀s,d≠.str s):∃a c,u=.slice a n c:=by
 cases d with
 |sl es=>obtain⟨a,c,rfl,_⟩:=oS hu;simp[DP] at h;subst h;exact⟨a,c,rfl⟩
 |nul=>simp[DP] at h;subst h;exact⟨_,_,gT hu⟩
 |win k v o l s=>obtain⟨a,c,rfl,_⟩:=gS hu;simp[DP] at h;subst h;exact⟨_,_,rfl⟩
 |str s=>exact absurd rfl (hs s)
 |_=>simp[DP] at h
section
variable{pv:Pv} {P:Program} (ok:pv.Ok P)
include ok
variable{w:World}{st ai:St}{β:Nat→Option (Nat×Nat)}{Z:Nat→Prop}{r:D}
theorem Nr (h:jW w st β Z) {tL:List TypeId} {ty:TypeId} {d:D} {u:Value} (hu:VR w (st.x β Z) d u) (hs:pJ pv tL d st=some (r,ai)):∃z w',(IS tL.toArray ty #[u]).run P w=.ok z w'∧Nx w st β Z w' ai β Z∧VR w' (ai.x β Z) r z:=by
 unfold pJ at hs
 split at hs
 ·rename_i dT rest
  split at hs
  ·rename_i e SP
   split at hs
   ·cases hs;rw[gT hu];refine⟨.tuple #[],w,?_,Φ h,.im _ _ (.tup [] [] rfl (by simp))⟩;simp only[IS,JS,Δ,ι,aT ok SP,δ,ν]
   ·rename_i k aE off len sz;obtain⟨z,hz,hs⟩:=ε.1 hs
    split at hs
    ·rename_i oB;obtain⟨st1,hwr,hs⟩:=γ.1 hs;cases hs;obtain⟨a,cap,rfl,hc,hk,_,mB⟩:=gS hu
     have nz:st.aE k=some aE:=by
      unfold St.wr at hwr
      split at hwr
      ·rename_i hm;exact(eD hm).2
      ·cases hwr
     obtain⟨b,base,Ou,hb,_,B_⟩:=mB nz;obtain⟨zv,UD,RK⟩:=j9 ok w (st.x β Z) hz;have Ka:zv.cells.toList.length=sz:=by rw[←RK.len,oB]
     obtain⟨q1,q2⟩:=wE RK len len (μ _) Ka _ rfl
     have fu:((Array.range (len*sz)).map (zv.cells.toList.toArray[·%zv.cells.toList.toArray.size]!))=Ψ zv.cells len:=by
      have:zv.cells.size=sz:=by rw[←Ka];simp
      simp[Ψ,this]
     rw[fu] at q1 q2
     have sW:LR w (st.x β Z) (fV len z) (Ψ zv.cells len).toList:=by
      refine⟨by rw[iK,oB,IN,q1],fun u hu=>?_,fun i c u Gr hu=>?_⟩
      ·obtain⟨j,hj⟩:=Cr hu
       have oH:j<len*sz:=by
        rcases η j (len*sz) with h'|h'
        ·exact h'
        ·rw[ψ (by rw[IN,q1];exact h')] at hj;cases hj
       obtain⟨u',lB,oP,_⟩:=q2 j _ (ζ (by rw[iK,oB];exact oH));rw[Θ] at hj;rw[hj] at lB;cases lB;exact oP
      ·obtain⟨u',lB,_,uJ⟩:=q2 i c Gr;rw[Θ] at hu;rw[hu] at lB;cases lB;exact uJ
     have hla:len=0∨(Ψ zv.cells len).toList=[]∨a=⟨b,base+off,none⟩:=by
      rcases B_ with rfl|⟨rfl,_⟩
      ·exact .inl (by omega)
      ·exact .inr (.inr rfl)
     rcases hla with rfl|hla
     ·have h0:(Ψ zv.cells 0).toList=[]:=by simp[Ψ]
      rw[h0] at sW;obtain⟨w',h3,β',h4,rfl⟩:=Hb (P:=P) (a:=⟨b,base+off,none⟩) h sW hwr hb (.inl rfl);simp only[storeCells,ν,Qan.injEq,true_and] at h3;subst h3;refine⟨.tuple #[],w,?_,h4,.im _ _ (.tup [] [] rfl (by simp))⟩;simp only[IS,JS,Δ,ι,aT ok SP,δ,ν]
     ·obtain⟨w',h3,β',h4,rfl⟩:=Hb (P:=P) h sW hwr hb hla;refine⟨.tuple #[],w',?_,h4,.im _ _ (.tup [] [] rfl (by simp))⟩
      cases len with
      |zero=>
       have h0:(Ψ zv.cells 0).toList=[]:=by simp[Ψ]
       rw[h0] at h3;simp only[storeCells,ν,Qan.injEq,true_and] at h3;subst h3;simp only[IS,JS,Δ,ι,aT ok SP,δ,ν]
      |succ len=>
       simp only[IS,JS,Δ,ι,aT ok SP,δ,UD,h3,ν]
    ·cases hs
   ·cases hs
  ·cases hs
 ·cases hs
theorem GX (h:jW w st β Z) {b:Builtin} {tL:List TypeId} {ds:List D} {us:List Value} {ty:TypeId} {cs:Array Bool} (hl:ds.length=us.length) (hr:∀(i:Nat) c v,ds[i]?=some c→us[i]?=some v→VR w (st.x β Z) c v) (hs:bW pv b tL ds st=some (r,ai)):
  ∃z w' β',(builtin b tL.toArray ty cs us.toArray).run P w=.ok (.value z) w'∧Nx w st β Z w' ai β' Z∧VR w' (ai.x β' Z) r z∧(b=.len∨b=.min∨b=.max→Quiet w w'):=by
 unfold bW at hs
 split at hs
 ·rename_i d
  obtain⟨u,rfl⟩:∃u,us=[u]:=by
   match us,hl with
   |[u],_=>exact⟨u,rfl⟩
  have hu:=hr 0 d u rfl rfl
  split at hs
  ·rename_i t rest
   split at hs
   ·rename_i ht
    split at hs
    ·rename_i s;cases hs;rw[iW hu];refine⟨.int .i64 s.length,w,β,?_,Φ h,.im _ _ (.int _ _),fun _=>Γ _⟩;have hsz:(⟨s.toArray⟩:ByteArray).size=s.length:=by simp[hD]
     simp[builtin,Qa4,aT ok ht,goInt,hsz]
    ·cases hs
   ·rename_i e ht
    split at hs
    ·cases hs
    ·rename_i Pu
     split at hs
     ·rename_i n hn;cases hs;obtain⟨a,c,e⟩:=O5 hu hn Pu;refine⟨.int .i64 n,w,β,?_,Φ h,.im _ _ (.int _ _),fun _=>Γ _⟩;rw[e];simp[builtin,Qa4,aT ok ht,goInt]
     ·cases hs
   ·rename_i n e ht;cases hs;refine⟨.int .i64 n,w,β,?_,Φ h,.im _ _ (.int _ _),fun _=>Γ _⟩;cases u<;>simp[builtin,Qa4,aT ok ht,goInt]
   ·cases hs
  ·cases hs
 ·rename_i d e
  obtain⟨u,v,rfl⟩:∃u v,us=[u,v]:=by
   match us,hl with
   |[u,v],_=>exact⟨u,v,rfl⟩
  obtain⟨z,w',β',h1,h2,h3⟩:=J6 ok h (ty:=ty) (hr 0 d u rfl rfl) (hr 1 e v rfl rfl) hs;exact⟨z,w',β',by simp[builtin,h1],h2,h3,fun e=>by simp at e⟩
 ·rename_i d e
  obtain⟨u,v,rfl⟩:∃u v,us=[u,v]:=by
   match us,hl with
   |[u,v],_=>exact⟨u,v,rfl⟩
  obtain⟨z,w',h1,h2,h3⟩:=Qg ok h (ty:=ty) (hr 0 d u rfl rfl) (hr 1 e v rfl rfl) hs;exact⟨z,w',β,by simp[builtin,h1],h2,h3,fun e=>by simp at e⟩
 ·rename_i d
  obtain⟨u,rfl⟩:∃u,us=[u]:=by
   match us,hl with
   |[u],_=>exact⟨u,rfl⟩
  obtain⟨z,w',h1,h2,h3⟩:=Nr ok h (ty:=ty) (hr 0 d u rfl rfl) hs;exact⟨z,w',β,by simp[builtin,h1],h2,h3,fun e=>by simp at e⟩
 ·rename_i d l
  obtain⟨u,vs,rfl⟩:∃u vs,us=u::vs:=by
   match us,hl with
   |u::vs,_=>exact⟨u,vs,rfl⟩
  obtain⟨m,hm,hs⟩:=γ.1 hs;cases hs;obtain⟨z,h1,h2⟩:=Cc (P:=P) true l vs (by simpa using hl) (fun i c v hc hv=>hr (i+1) c v hc hv) (hr 0 d u rfl rfl) hm;exact⟨z,w,β,by simp only[if_true] at h1;simp[builtin,Builtin.min_,h1],Φ h,h2,fun _=>Γ _⟩
 ·rename_i d l
  obtain⟨u,vs,rfl⟩:∃u vs,us=u::vs:=by
   match us,hl with
   |u::vs,_=>exact⟨u,vs,rfl⟩
  obtain⟨m,hm,hs⟩:=γ.1 hs;cases hs;obtain⟨z,h1,h2⟩:=Cc (P:=P) false l vs (by simpa using hl) (fun i c v hc hv=>hr (i+1) c v hc hv) (hr 0 d u rfl rfl) hm;exact⟨z,w,β,by simp only[υ,if_false] at h1;simp[builtin,Builtin.max_,h1],Φ h,h2,fun _=>Γ _⟩
 ·cases hs
omit ok in
theorem GC {w:World} {x:X} {fr:Fr} {a:Act} (hf:tE w x fr a.tmps) (l:List Operand):∀(i:Nat) c v,(l.map fr.ev)[i]?=some c→(l.map a.eval)[i]?=some v→VR w x c v:=by
 intro i c v hc hv;rw[Qao] at hc hv
 cases hl:l[i]? with
 |none=>simp[hl] at hc
 |some o=>simp[hl] at hc hv;subst hc;subst hv;exact AQ hf o
omit ok in
theorem Dm {w:World} {x:X} {fr:Fr} {a:Act} (hf:tE w x fr a.tmps) (l:List (Nat×Operand)):∀(i:Nat) p q,(l.map fun p=>(p.1,fr.ev p.2))[i]?=some p→(l.map fun p=>(p.1,a.eval p.2))[i]?=some q→p.1=q.1∧VR w x p.2 q.2:=by
 intro i p q hp hq;rw[Qao] at hp hq
 cases hl:l[i]? with
 |none=>simp[hl] at hp
 |some o=>simp[hl] at hp hq;subst hp;subst hq;exact⟨rfl,AQ hf _⟩
theorem Um {w:World} {st ai:St} {β:Nat→Option (Nat×Nat)} {Z:Nat→Prop} (h:jW w st β Z) {fr:Fr} {a:Act} (hf:tE w (st.x β Z) fr a.tmps) {o:Oper} {d:D} (hs:eS pv fr st o.op o.type=some (d,ai)):
  ∃v w' β',Did P a o w v w'∧Nx w st β Z w' ai β' Z∧VR w' (ai.x β' Z) d v∧(iC pv o=false→Quiet w w'):=by
 obtain⟨dst,op,ty,pos,after,guard⟩:=o
 have mr:∀{s:Sem Value} {d:D} {v:Value},execOp a.eval ⟨dst,op,ty,pos,after,guard⟩=(do pure (.value (←s)):Sem Next)→s.run P w=.ok v w→VR w (st.x β Z) d v→
   ∃v w' β',Did P a ⟨dst,op,ty,pos,after,guard⟩ w v w'∧Nx w st β Z w' st β' Z∧VR w' (st.x β' Z) d v∧(iC pv ⟨dst,op,ty,pos,after,guard⟩=false→Quiet w w'):=by
  intro s d v he hr hv;exact⟨v,w,β,.inl (by rw[he];simp[hr]),Φ h,hv,fun _=>Γ _⟩
 have full:∀{s:Sem Value} {d:D} {ai:St},execOp a.eval ⟨dst,op,ty,pos,after,guard⟩=(do pure (.value (←s)):Sem Next)→(∃z w' β',s.run P w=.ok z w'∧Nx w st β Z w' ai β' Z∧VR w' (ai.x β' Z) d z∧Quiet w w')→
   ∃v w' β',Did P a ⟨dst,op,ty,pos,after,guard⟩ w v w'∧Nx w st β Z w' ai β' Z∧VR w' (ai.x β' Z) d v∧(iC pv ⟨dst,op,ty,pos,after,guard⟩=false→Quiet w w'):=by
  rintro s d ai he ⟨z,w',β',h1,h2,h3,h4⟩;exact⟨z,w',β',.inl (by rw[he];simp[h1]),h2,h3,fun _=>h4⟩
 have ev:=fun o=>AQ hf o;simp only at hs;unfold eS at hs
 split at hs
 ·rename_i x;cases hs;exact⟨a.eval x,w,β,.inl rfl,Φ h,ev x,fun _=>Γ _⟩
 ·rename_i x;cases hs;exact⟨a.eval x,w,β,.inl rfl,Φ h,ev x,fun _=>Γ _⟩
 ·rename_i c p q;have hc:=ev c
  split at hs
  ·rename_i hb;cases hs;rw[hb] at hc;exact mr (s:=do pure (if←asBool (a.eval c) then a.eval p else a.eval q)) (by simp[execOp]) (by rw[gG hc];simp[asBool]) (ev p)
  ·rename_i hb;cases hs;rw[hb] at hc;exact mr (s:=do pure (if←asBool (a.eval c) then a.eval p else a.eval q)) (by simp[execOp]) (by rw[gG hc];simp[asBool]) (ev q)
  ·cases hs
 ·rename_i e;obtain⟨cs,hz,hs⟩:=γ.1 hs;cases hs;exact full rfl (NL ok h hz)
 ·rename_i e x;obtain⟨cs,hz,hs⟩:=γ.1 hs;cases hs;exact full rfl (LC (P:=P) h (tq (ev x) hz) e)
 ·rename_i t parts;obtain⟨r,hb,hs⟩:=γ.1 hs;cases hs;obtain⟨z,h1,h2⟩:=NC ok (parts':=parts.toList.map fun p=>(p.1,a.eval p.2)) (by simp) (Dm hf _) hb;refine mr rfl ?_ h2
  have:(parts.map fun(x:Nat×Operand)=>match x with|(i,x)=>(i,a.eval x))=(parts.toList.map fun p=>(p.1,a.eval p.2)).toArray:=by
   apply R3;simp
  simp only[this];exact h1
 ·rename_i t len parts;have hb:=zw ok h (parts':=parts.toList.map fun p=>(p.1,a.eval p.2)) (by simp) (Dm hf _) hs
  have:(parts.map fun(x:Nat×Operand)=>match x with|(i,x)=>(i,a.eval x))=(parts.toList.map fun p=>(p.1,a.eval p.2)).toArray:=by
   apply R3;simp
  refine full (s:=Instr.buildSlice t len (parts.map fun(x:Nat×Operand)=>match x with|(i,x)=>(i,a.eval x))) rfl ?_;rw[this];exact hb
 ·rename_i t ad;obtain⟨r,hl,hs⟩:=γ.1 hs;cases hs;have hv:=ev ad;unfold j6 at hl
  split at hl
  ·rename_i k aE off hd;rw[hd] at hv;obtain⟨⟨ar,c⟩,hm,hl⟩:=ε.1 hl;obtain⟨p,hp,_,mB⟩:=dx hv;obtain⟨b,base,hb,rfl⟩:=mB (eD hm).2;obtain⟨z,h1,h2⟩:=vY ok ((h.cells hm hb).drop off) hl;refine mr rfl ?_ h2;rw[hp];simp[Qb3,Qav,h1]
  ·rename_i c hd;rw[hd] at hv;obtain⟨b,off,hp,_,hc,_⟩:=wH hv;obtain⟨z,h1,h2⟩:=vY ok hc hl;refine mr rfl ?_ h2;rw[hp];simp[Qb3,Qav,h1]
  ·cases hl
 ·rename_i t ad x;obtain⟨st1,jO,hs⟩:=γ.1 hs;cases hs;obtain⟨w',h1,h2⟩:=KC ok h (ev ad) (ev x) jO;exact⟨undef,w',β,.inr ⟨by simp[execOp,h1],rfl⟩,h2,.im _ _ (.tup [] [] rfl (by simp)),fun e=>by simp[iC] at e⟩
 ·rename_i x;have hv:=ev x
  split at hs
  ·rename_i k v o hd;cases hs;rw[hd] at hv;obtain⟨p,hp,_⟩:=dx hv;exact⟨a.eval x,w,β,.inl (by simp[execOp,hp]),Φ h,hv,fun _=>Γ _⟩
  ·rename_i c hd;cases hs;rw[hd] at hv;obtain⟨b,off,hp,_⟩:=wH hv;exact⟨a.eval x,w,β,.inl (by simp[execOp,hp]),Φ h,hv,fun _=>Γ _⟩
  ·rename_i f c hd;cases hs;rw[hd] at hv;obtain⟨vs,hp,_⟩:=CL hv;exact⟨a.eval x,w,β,.inl (by simp[execOp,hp]),Φ h,hv,fun _=>Γ _⟩
  ·cases hs
 ·rename_i bop t x y _;obtain⟨r,hb,hs⟩:=γ.1 hs;cases hs;obtain⟨z,h1,h2⟩:=Tn ok x y (ev x) (ev y) hb;exact mr rfl h1 h2
 ·rename_i uop t x;obtain⟨r,hb,hs⟩:=γ.1 hs;cases hs;obtain⟨z,h1,h2⟩:=T6 (P:=P) (ev x) hb;exact mr rfl h1 h2
 ·rename_i s t x;obtain⟨z,w',β',h1,h2,h3,h4⟩:=Qh ok h (ev x) hs;exact⟨z,w',β',.inl (by simp[execOp,h1]),h2,h3,fun e=>h4 (by simpa[iC] using e)⟩
 ·rename_i f first captured
  split at hs
  ·rename_i PG;cases hs;have PG:first=#[]:=by simpa using PG
   subst PG;refine⟨.func (.func f) #[] (captured.toList.map a.eval).toArray,w,β,.inl ?_,Φ h,.fn f _ _ (by simp) (GC hf _),fun _=>Γ _⟩;have:captured.map a.eval=(captured.toList.map a.eval).toArray:=by apply R3;simp
   rw[←this];simp[execOp,Instr.makeFunc]
  ·cases hs
 ·rename_i t l c;exact full rfl (BQ ok h (ev l) (ev c) hs)
 ·rename_i t x lo hi;obtain⟨r,hb,hs⟩:=γ.1 hs;cases hs;obtain⟨z,h1,h2⟩:=KI ok h (Ao:=lo.map a.eval) (l4:=hi.map a.eval) (ev x) (fun d v e1 e2=>by cases lo with|none=>cases e1|some q=>cases e1;cases e2;exact ev q) (fun d v e1 e2=>by cases hi with|none=>cases e1|some q=>cases e1;cases e2;exact ev q) (by cases lo<;>rfl) (by cases hi<;>rfl) hb;exact mr rfl h1 h2
 ·rename_i t x f;obtain⟨r,hb,hs⟩:=γ.1 hs;cases hs;obtain⟨z,h1,h2⟩:=Ce ok (ev x) hb;exact mr rfl h1 h2
 ·rename_i t x f;obtain⟨r,hb,hs⟩:=γ.1 hs;cases hs;obtain⟨z,h1,h2⟩:=M6 ok (ev x) hb;exact mr rfl h1 h2
 ·rename_i t x i;obtain⟨r,hb,hs⟩:=γ.1 hs;cases hs;obtain⟨z,h1,h2⟩:=BU ok (ev x) (ev i) hb;exact mr rfl h1 h2
 ·rename_i t x i;obtain⟨r,hb,hs⟩:=γ.1 hs;cases hs;obtain⟨z,h1,h2⟩:=LU ok (ev x) (ev i) hb;exact mr rfl h1 h2
 ·rename_i t x;exact full rfl (K3 ok h (ev x) hs)
 ·rename_i t r;obtain⟨z,w',β',h1,h2,h3,h4⟩:=FV ok h (u:=r.map a.eval) (by cases r<;>simp) (fun d v e1 e2=>by cases r with|none=>cases e1|some q=>cases e1;cases e2;exact ev q) hs;exact⟨z,w',β',.inl (by simp[execOp,h1]),h2,h3,fun _=>h4⟩
 ·rename_i t m k x;obtain⟨st1,jO,hs⟩:=γ.1 hs;cases hs;obtain⟨w',h1,h2⟩:=Al ok h (ev m) (ev k) (ev x) jO;exact⟨undef,w',β,.inr ⟨by simp[execOp,h1],rfl⟩,h2,.im _ _ (.tup [] [] rfl (by simp)),fun e=>by simp[iC] at e⟩
 ·rename_i t m k x;obtain⟨st1,jO,hs⟩:=γ.1 hs;cases hs;obtain⟨w',h1,h2⟩:=Al ok h (ev m) (ev k) (ev x) jO;exact⟨undef,w',β,.inr ⟨by simp[execOp,h1],rfl⟩,h2,.im _ _ (.tup [] [] rfl (by simp)),fun e=>by simp[iC] at e⟩
 ·rename_i t x i;obtain⟨r,hb,hs⟩:=γ.1 hs;cases hs;obtain⟨z,h1,h2⟩:=Jf ok h (ev x) (ev i) hb;exact mr rfl h1 h2
 ·rename_i it s;obtain⟨z,w',h1,h2,h3⟩:=OV (P:=P) (ty:=ty) h (ev it) hs;exact⟨z,w',β,.inl (by simp[execOp,h1]),h2,h3,fun e=>by simp[iC] at e⟩
 ·rename_i t i;have hv:=ev t
  split at hs
  ·rename_i ds hd;rw[hd] at hv;obtain⟨r,hb,hs⟩:=γ.1 hs;cases hs;obtain⟨vs,hp,hl,hr⟩:=Bc hv
   have hi:i<ds.length:=by
    rcases η i ds.length with h'|h'
    ·exact h'
    ·rw[ψ h'] at hb;cases hb
   have l4:vs[i]?=some (vs[i]'(by omega)):=ζ _;refine mr rfl ?_ (hr i _ _ hb l4);rw[hp];simp[Instr.extract,l4]
  ·cases hs
 ·rename_i b args tL;have hb:=GX ok h (us:=args.toList.map a.eval) (ty:=ty) (cs:=args.map fun| .const _=>true|_=>false) (by simp) (GC hf _) hs;obtain⟨z,w',β',h1,h2,h3,h4⟩:=hb;refine⟨z,w',β',.inl ?_,h2,h3,fun e=>h4 (by cases b<;>simp[iC] at e⊢)⟩;have:args.map a.eval=(args.toList.map a.eval).toArray:=by apply R3;simp
  simp only[Array.toArray_toList] at h1;simp only[execOp,resolve,invoke,this,ι,ν,δ];exact h1
 ·cases hs
end
end Go.V
namespace Go.V
open Go.RowKit
theorem cW {d:D}:∀{ds:List D},d∈ds→d.ref≤refs ds
 |e::ds,h=>by
  rcases AN.1 h with rfl|h
  ·simp only[refs];exact Nat.le_max_left _ _
  ·have:=cW h;simp only[refs];exact θ this (Ut _ _)
theorem wh {N:Nat}:∀{ds:List D},(∀d∈ds,d.ref≤N)→refs ds≤N
 |[],_=>by simp[refs]
 |d::ds,h=>by
  simp only[refs];exact Nat.max_le.2 ⟨h d (Y' ..),wh fun e he=>h e (v8 _ he)⟩
structure gv (st ai:St):Prop where
 len:st.bs.length≤ai.bs.length
 flr:ai.flr=st.flr
 ro:ai.ro=st.ro
 low:∀k,k<st.ro→k<st.bs.length→ai.bs[k]?=st.bs[k]?
 fl:∀k bx Cp,k<st.flr→st.bs[k]?=some bx→ai.bs[k]?=some Cp→∀d∈Cp.cells,d.ref≤max (k+1) (refs bx.cells)
theorem gv.refl (st:St):gv st st:=⟨μ _,rfl,rfl,fun _ _ _=>rfl,fun _ _ _ _ h h' d hd=>by rw[h] at h';cases h';exact θ (cW hd) (Ut _ _)⟩
variable{k:Nat}
theorem jg {α:Type} {l:List α} {x:α} (h:l[k]?=some x):k<l.length:=by
 rcases η k l.length with h'|h'
 ·exact h'
 ·rw[ψ h'] at h;cases h
theorem gv.trans {a b c:St} (h:gv a b) (g:gv b c):gv a c:=
 ⟨θ h.len g.len,g.flr.trans h.flr,g.ro.trans h.ro,fun k hk hl=>(g.low k (by rw[h.ro];exact hk) (ξ hl h.len)).trans (h.low k hk hl),fun k bx Cp hk h1 h2 d hd=>by
  have hb:k<b.bs.length:=ξ (jg h1) h.len;have h3:=g.fl k _ Cp (by rw[h.flr];exact hk) (ζ hb) h2 d hd;have h4:refs (b.bs[k]).cells≤max (k+1) (refs bx.cells):=wh fun e he=>h.fl k bx _ hk h1 (ζ hb) e he
  omega⟩
theorem gv.push (st:St) (b:lu):gv st (st.push b):=
 ⟨by simp[P8],rfl,rfl,fun k _ hl=>by simp[P8,τ hl],fun k bx Cp _ h1 h2 d hd=>by
  simp only[P8,τ (jg h1)] at h2
  rw[h1] at h2;cases h2;exact θ (cW hd) (Ut _ _)⟩
theorem gv.set (st:St) (k:Nat) (b b0:lu) (h:st.ro≤k) (h0:st.bs[k]?=some b0) (hc:st.flr≤k∨∀d∈b.cells,d∈b0.cells∨d.ref≤max (k+1) (refs b0.cells)):gv st {st with bs:=st.bs.set k b}:=
 ⟨by simp,rfl,rfl,fun i hi _=>by simp only;rw[π (by omega)],fun i bx Cp hi h1 h2 d hd=>by
  by_cases hik:k=i
  ·subst hik;rw[h0] at h1;cases h1;simp only at h2;rw[Wh (jg h0)] at h2;cases h2
   rcases hc with hc|hc
   ·omega
   ·rcases hc d hd with h|h
    ·exact θ (cW h) (Ut _ _)
    ·exact h
  ·simp only at h2;rw[π hik,h1] at h2;cases h2
   exact θ (cW hd) (Ut _ _)⟩
theorem vq {d:D}:∀(cs c:List D) (off:Nat),d∈setMany c off cs→d∈c∨d∈cs
 |[],c,off,h=>.inl h
 |x::xs,c,off,h=>by
  rcases vq xs _ _ h with h|h
  ·rcases List.mem_or_eq_of_mem_set h with h|rfl
   ·exact .inl h
   ·exact .inr (Y' ..)
  ·exact .inr (v8 _ h)
variable{st:St}
theorem BN {aE:Nat} {a:Bool} {c:List D} (h:st.ib k aE=some (a,c)):st.bs[k]?=some (.mem aE a c):=by
 unfold St.ib at h
 split at h
 ·rename_i v a' c' hb
  split at h
  ·rename_i hv;cases h;rw[hb,hv]
  ·cases h
 ·cases h
theorem Il {r:Nat} (h:st.ku k r=true):st.flr≤k∨r≤max (k+1) (st.Bs k):=by
 simp only[St.ku,ρ,Qas,decide_eq_true_eq] at h;omega
theorem zT {b:lu} (h:st.bs[k]?=some b):st.Bs k=refs b.cells:=by simp only[St.Bs,h]
def tF (st ai:St):Prop:=∃l,ai=⟨st.bs++l,st.flr,st.ro⟩
theorem tF.rfl (st:St):tF st st:=⟨[],by simp⟩
theorem tF.push (st:St) (b:lu):tF st (st.push b):=⟨[b],by simp[P8]⟩
theorem tF.goes {ai:St} (h:tF st ai):gv st ai:=by
 obtain⟨l,rfl⟩:=h
 exact⟨by simp,Eq.refl _,Eq.refl _,fun k _ hl=>by simp only;rw[τ hl],fun k bx Cp _ h1 h2 d hd=>by
  simp only at h2;rw[τ (jg h1),h1] at h2;cases h2
  exact θ (cW hd) (Ut _ _)⟩
structure lb (P:Program) (pv:Pv) (cf:gO):Prop where
 fn:∀f ds st r,cf f ds st=some r→∃fn b,P.funcs[f]?=some fn∧fn.body=some b∧fn.name≠ "runtime.NumGoroutine"
 calls:∀f ds st d ai,cf f ds st=some (d,ai)→∀w β Z (us:List Value),jW w st β Z→ds.length=us.length→(∀(i:Nat) c v,ds[i]?=some c→us[i]?=some v→VR w (st.x β Z) c v)→
  Calls P f us.toArray w fun e w'=>∃v β' Z',e=.returned v∧Nx w st β Z w' ai β' Z'∧VR w' (ai.x β' Z') d v∧(ny pv f=true→Quiet w w')
 ro:∀f ds st d ai,cf f ds st=some (d,ai)→ny pv f=true→tF st ai
 len:∀f ds st d ai,cf f ds st=some (d,ai)→gv st ai
section
variable{pv:Pv} {P:Program} (ok:pv.Ok P) {cf:gO} (gF:lb P pv cf)
include ok gF
theorem wk {w:World} {st ai:St} {β:Nat→Option (Nat×Nat)} {Z:Nat→Prop} (h:jW w st β Z) {fr:Fr} {a:Act} (hf:tE w (st.x β Z) fr a.tmps) {o:Oper} {d:D} (hs:ir pv cf fr st o=some (d,ai))
  {next:Act→World→Prop} {Q:Exit→Act→World→Prop} (K:∀v w' β' Z',Nx w st β Z w' ai β' Z'→VR w' (ai.x β' Z') d v→(iC pv o=false→Quiet w w')→next (a.put o.dst v) w'):o.wp P a w next Q:=by
 unfold ir at hs
 split at hs
 ·rename_i f args tL jD
  split at hs
  ·rename_i g mU ax;have hv:=AQ hf f;rw[ax] at hv;obtain⟨vs,he,hl,hr⟩:=CL hv;obtain⟨fn,b,hfn,hb,Vw⟩:=gF.fn _ _ _ _ hs;have ym:=GC hf args.toList
   have hrel:∀(i:Nat) c v,(args.toList.map fr.ev++mU)[i]?=some c→(args.toList.map a.eval++vs)[i]?=some v→VR w (st.x β Z) c v:=by
    intro i c v hc hv;rw[Pd] at hc hv;simp only[List.length_map] at hc hv
    split at hc
    ·rename_i hi;rw[if_pos hi] at hv;exact ym i c v hc hv
    ·rename_i hi;rw[if_neg hi] at hv;exact hr _ c v hc hv
   have aS:=gF.calls _ _ _ _ _ hs w β Z (args.toList.map a.eval++vs) h (by simp[hl]) hrel
   have rP:(execOp a.eval o).run P w=.ok (.enter g (args.toList.map a.eval++vs).toArray) w:=by
    obtain⟨dst,op,ty,pos,after,guard⟩:=o;simp only at jD;subst jD;have hbn:fn.body.isNone=false:=by simp[hb]
    have hn:(fn.name== "runtime.NumGoroutine")=false:=by simpa using Vw
    have ML:args.map a.eval++vs.toArray=(args.toList.map a.eval++vs).toArray:=by
     apply R3;simp
    simp only[execOp,resolve,he,Deferred.ofValue,ι,ν,δ,invoke,callFunc,run_program,hfn,hn,hbn,υ,if_false,Array.empty_append,ML]
   unfold Oper.wp;rw[rP,Oper.upon_enter];refine aS.mono fun e w' ⟨v,β',Z',he,hn,hv,du⟩=>?_;subst he;refine K v w' β' Z' hn hv ?_;intro he;simp only[iC,jD] at he
   cases f with
   |func g'=>
    simp only[Fr.ev] at ax;cases ax;exact du (by simpa using he)
   |_=>simp at he
  ·cases hs
 ·rename_i op jD;obtain⟨v,w',β',hd,hn,hv,hq⟩:=Um ok h hf (o:=o) hs;have hK:next (a.put o.dst v) w':=K v w' β' Z hn hv hq;unfold Oper.wp
  rcases hd with hd|⟨hd,rfl⟩
  ·rw[hd,Oper.upon_value];exact hK
  ·rw[hd,Oper.upon_skip];exact hK
omit ok gF in
theorem vV {w:World} {x:X} {ops:Array Oper} {fr:Fr} {a:Act} (hf:tE w x fr a.tmps) {o:Oper} {b:Bool} (h:aH ops fr o=some b):Qaw o (yielded ops a.tmps)=b:=by
 unfold aH at h;unfold Qaw
 split at h
 ·rename_i hg;rw[hg];cases h;rfl
 ·rename_i j want hg;rw[hg]
  split at h
  ·cases h
  ·rename_i t ht;have hv:=hf t;show(yielded ops a.tmps j==some want)=b
   have hy:∀u,a.tmps[t]?=u→yielded ops a.tmps j=match u with|some (.bool b)=>some b|_=>none:=by
    intro u hu;simp only[yielded,ht,Ξ,hu]
    cases u with
    |none=>rfl
    |some v=>cases v<;>rfl
   split at h
   ·rename_i b' hb;rw[hb] at hv;have hv:=gG hv;cases h
    have:a.tmps[t]?=some (.bool b'):=by
     rw[κ] at hv
     cases Jp:a.tmps[t]? with
     |none=>rw[Jp] at hv;simp[undef] at hv
     |some v=>rw[Jp] at hv;simp at hv;rw[hv]
    rw[hy _ this];cases b'<;>cases want<;>rfl
   ·rename_i ds hb;rw[hb] at hv;obtain⟨vs,hv,_⟩:=Bc hv;cases h;rw[κ] at hv
    cases Jp:a.tmps[t]? with
    |none=>rw[hy _ Jp];cases want<;>rfl
    |some v=>rw[Jp] at hv;simp at hv;rw[hv] at Jp;rw[hy _ Jp];cases want<;>rfl
   ·cases h
omit ok gF in
theorem oZ (a:Act) (dst:Option Nat) (v:Value):(a.put dst v).tmps.size=a.tmps.size:=by
 cases dst<;>simp[Act.put]
omit ok gF in
theorem put_defers (a:Act) (dst:Option Nat) (v:Value):(a.put dst v).defers=a.defers:=by
 cases dst<;>simp[Act.put]
def AV (ops:List Oper) (n:Nat):Prop:=∀o∈ops,∀t,o.dst=some t→t<n
theorem FJ {ops:Array Oper} {Q:Exit→Act→World→Prop}:∀(l:List Oper) (i:Nat) (fr aM:Fr) (st ai:St) (β:Nat→Option (Nat×Nat)) (Z:Nat→Prop) (a:Act) (w:World),(∀j,l[j]?=ops[i+j]?)→
  mi pv cf ops l fr st=some (aM,ai)→jW w st β Z→tE w (st.x β Z) fr a.tmps→AV l a.tmps.size→
  (∀a' w' β' Z',Nx w st β Z w' ai β' Z'→tE w' (ai.x β' Z') aM a'.tmps→a'.defers=a.defers→a'.tmps.size=a.tmps.size→Q .normal a' w')→wpOps P ops Q (List.range' i l.length) a w
 |[],i,fr,aM,st,ai,β,Z,a,w,_,hs,h,hf,_,K=>by
  simp only[mi] at hs;cases hs;exact K a w β Z (Φ h) hf rfl rfl
 |o::l,i,fr,aM,st,ai,β,Z,a,w,hl,hs,h,hf,hd,K=>by
  have ho:ops[i]?=some o:=by have:=hl 0;simpa using this.symm
  have j7:∀j,l[j]?=ops[i+1+j]?:=fun j=>by have:=hl (j+1);simpa[Qb7,Qb9 1 j] using this
  have Kg:AV l a.tmps.size:=fun p hp=>hd p (v8 _ hp);simp only[Qaq,List.range'_succ,wpOps,ho];simp only[mi] at hs
  split at hs
  ·rename_i hw;rw[vV hf hw];simp only[if_true];left
   split at hs
   ·rename_i d st1 jD;refine wk ok gF h hf jD fun v w' β' Z' hn hv _=>FJ l (i+1) _ aM st1 ai β' Z' _ w' j7 hs hn.sim (K9 (hf.mono hn.keeps) hv o.dst fun t ht=>hd o (Y' ..) t ht) (by rw[oZ];exact Kg) fun a' T0 zb Oe Mm y9 VZ hsz=>?_;exact K a' T0 zb Oe (hn.trans Mm) y9 (by rw[VZ,put_defers]) (by rw[hsz,oZ])
   ·cases hs
  ·rename_i hw;rw[vV hf hw];simp only[υ,if_false];refine FJ l (i+1) _ aM st ai β Z _ w j7 hs h (K9 hf (.im _ _ (.tup [] [] rfl (by simp))) o.dst fun t ht=>hd o (Y' ..) t ht) (by rw[oZ];exact Kg) fun a' T0 zb Oe Mm y9 VZ hsz=>?_;exact K a' T0 zb Oe Mm y9 (by rw[VZ,put_defers]) (by rw[hsz,oZ])
  ·cases hs
end
end Go.V
namespace Go.V
open Go.RowKit
variable{fr aM:Fr}
theorem FU {l:List Operand} (h:∀x∈l,fr.ev x=aM.ev x):l.map fr.ev=l.map aM.ev:=Qai h
theorem Dn {l:List (Nat×Operand)} (h:∀p∈l,fr.ev p.2=aM.ev p.2):l.map (fun p=>(p.1,fr.ev p.2))=l.map (fun p=>(p.1,aM.ev p.2)):=
 Qai fun p hp=>by rw[h p hp]
variable{pv:Pv}{st:St}
theorem I' {op:Op} {ty:TypeId} (h:∀x∈op.operands.toList,fr.ev x=aM.ev x):eS pv fr st op ty=eS pv aM st op ty:=by
 unfold eS
 cases op with
 |build t ps=>simp only;rw[Dn fun p hp=>h p.2 (by simp[Ω];exact⟨p.1,by simpa using hp⟩)]
 |buildSlice t len ps=>simp only;rw[Dn fun p hp=>h p.2 (by simp[Ω];exact⟨p.1,by simpa using hp⟩)]
 |makeFunc f first captured=>
  cases f<;>simp only
  have:captured.toList.map fr.ev=captured.toList.map aM.ev:=FU fun x hx=>h x (by simp[Ω];right;simpa using hx);rw[this]
 |slice t x lo hi mx=>
  cases mx<;>simp only
  have hx:fr.ev x=aM.ev x:=h x (by simp[Ω])
  have E_:lo.map fr.ev=lo.map aM.ev:=by
   cases lo with
   |none=>rfl
   |some l=>simp only[VM];rw[h l (by simp[Ω])]
  have H0:hi.map fr.ev=hi.map aM.ev:=by
   cases hi with
   |none=>rfl
   |some l=>simp only[VM];rw[h l (by simp[Ω])]
  rw[hx,E_,H0]
 |makeMap t r=>
  cases r with
  |none=>rfl
  |some x=>simp only[VM];rw[h x (by simp[Ω])]
 |lookup t x i ok=>
  simp only[Ω,AN,Qar,or_false,forall_eq_or_imp,forall_eq,Qaj] at h;cases ok
  ·simp only[h]
  ·rfl
 |call c=>
  obtain⟨callee,args,tL⟩:=c;cases callee<;>simp only
  have:args.toList.map fr.ev=args.toList.map aM.ev:=FU fun x hx=>h x (by simp[Ω,Call.operands];simpa using hx);rw[this]
 |_=>simp only[Ω,AN,Qar,or_false,forall_eq_or_imp,forall_eq,Qaj] at h<;>simp only[h]
def tmpsOf:List Operand→List Nat
 |[]=>[]
 | .tmp t::l=>t::tmpsOf l
 |_::l=>tmpsOf l
theorem rK {t:Nat}:∀{l:List Operand},.tmp t∈l→t∈tmpsOf l
 |x::l,h=>by
  rcases AN.1 h with rfl|h
  ·simp[tmpsOf]
  ·have:=rK h;cases x<;>simp[tmpsOf,this]
def looks (ops:Array Oper) (o:Oper):List Nat:=
  (match o.guard with
   |some (j,_)=>match(ops[j]?).bind (·.dst) with
     |some t=>[t]
     |none=>[]
   |none=>[])++tmpsOf o.op.operands.toList
theorem Eu {ts:List Nat} (h:∀t∈ts,fr.get t=aM.get t) {x:Operand} (hx:∀t,x=.tmp t→t∈ts):fr.ev x=aM.ev x:=by
 cases x<;>first|rfl|exact h _ (hx _ rfl)
variable{cf:gO}{ops:Array Oper}{o:Oper}
theorem Dt (h:∀t∈looks ops o,fr.get t=aM.get t):ir pv cf fr st o=ir pv cf aM st o:=by
 have he:∀x∈o.op.operands.toList,fr.ev x=aM.ev x:=fun x hx=>Eu h fun t e=>by subst e;exact Qaa _ (rK hx)
 unfold ir
 split
 ·rename_i f args tL jD;rw[jD] at he;have hf:fr.ev f=aM.ev f:=he f (by simp[Ω,Call.operands]);have ha:args.toList.map fr.ev=args.toList.map aM.ev:=FU fun x hx=>he x (by simp[Ω,Call.operands];right;simpa using hx);rw[hf,ha]
 ·exact I' he
theorem CH (h:∀t∈looks ops o,fr.get t=aM.get t):aH ops fr o=aH ops aM o:=by
 unfold aH
 cases hg:o.guard with
 |none=>rfl
 |some p=>
  obtain⟨j,want⟩:=p;simp only
  cases ht:(ops[j]?).bind (·.dst) with
  |none=>rfl
  |some t=>
   simp only;rw[h t (by simp[looks,hg,ht])]
def I_ (o:Oper):Bool:=
 match o.op with
 | .move _| .assign _| .pick _ _ _| .alloc _| .box _ _| .build _ _| .buildSlice _ _ _| .nilCheck _| .binOp _ _ _ _ _| .unOp _ _ _| .makeFunc _ _ _| .makeSlice _ _ _
 | .fieldAddr _ _ _| .field _ _ _| .index _ _ _| .extract _ _=>true
 | .call ⟨.builtin b,_,_⟩=>match b with
  | .len| .min| .max=>true
  |_=>false
 |_=>false
variable{ai:St}{d:D}
theorem GW {b:Builtin} {tL:List TypeId} {args:List D} (hb:b=.len∨b=.min∨b=.max) (h:bW pv b tL args st=some (d,ai)) (T:St):ai=st∧bW pv b tL args T=some (d,T):=by
 rcases hb with rfl|rfl|rfl
 ·match args,h with
  |[x],h=>
   simp only[bW] at h⊢
   split at h
   ·split at h
    ·split at h
     ·cases h;exact⟨rfl,rfl⟩
     ·cases h
    ·cases x with
     |str s=>cases h
     |_=>
      simp only at h⊢
      split at h
      ·rename_i n hn;cases h;exact⟨rfl,by simp only[hn]⟩
      ·cases h
    ·cases h;exact⟨rfl,rfl⟩
    ·cases h
   ·cases h
  |[],h=>simp[bW] at h
  |_::_::_,h=>simp[bW] at h
 ·match args,h with
  |[],h=>simp[bW] at h
  |x::l,h=>
   simp only[bW] at h⊢;obtain⟨r,hz,hs⟩:=γ.1 h;cases hs;exact⟨rfl,by rw[hz];rfl⟩
 ·match args,h with
  |[],h=>simp[bW] at h
  |x::l,h=>
   simp only[bW] at h⊢;obtain⟨r,hz,hs⟩:=γ.1 h;cases hs;exact⟨rfl,by rw[hz];rfl⟩
theorem Ll (hp:I_ o=true) (h:eS pv fr st o.op o.type=some (d,ai)) (T:St) (hT:T.bs.length=st.bs.length):
  ∃T',eS pv fr T o.op o.type=some (d,T')∧((ai=st∧T'=T)∨∃ar cs,ai=st.push (.mem 0 ar cs)∧T'=T.push (.mem 0 ar cs)):=by
 obtain⟨dst,op,ty,pos,after,guard⟩:=o;simp only at h⊢;cases op<;>simp only[I_,υ] at hp<;>simp only[eS] at h⊢
 case move x=>cases h;exact⟨T,rfl,.inl ⟨rfl,rfl⟩⟩
 case assign x=>cases h;exact⟨T,rfl,.inl ⟨rfl,rfl⟩⟩
 case pick c p q=>split at h<;>first|(cases h;exact⟨T,rfl,.inl ⟨rfl,rfl⟩⟩)|cases h
 case alloc e=>
  obtain⟨cs,hz,hs⟩:=γ.1 h;cases hs;exact⟨_,by rw[hz,hT];rfl,.inr ⟨_,_,rfl,rfl⟩⟩
 case box e x=>
  obtain⟨cs,hz,hs⟩:=γ.1 h;cases hs;exact⟨_,by rw[hz,hT];rfl,.inr ⟨_,_,rfl,rfl⟩⟩
 case build t ps=>
  obtain⟨r,hz,hs⟩:=γ.1 h;cases hs;exact⟨_,by rw[hz];rfl,.inl ⟨rfl,rfl⟩⟩
 case buildSlice t len ps=>
  unfold kP at h⊢
  split at h
  ·rename_i e ht;obtain⟨s,hsz,h⟩:=ε.1 h;obtain⟨z,hz,h⟩:=ε.1 h
   split at h
   ·rename_i wv;obtain⟨cs,hf,hs⟩:=γ.1 h;cases hs;exact⟨_,by simp only[hsz,hz,Ξ,wv,and_self,if_true,hf,VM,hT],.inr ⟨_,_,rfl,rfl⟩⟩
   ·cases h
  ·cases h
 case nilCheck x=>split at h<;>first|(cases h;exact⟨T,rfl,.inl ⟨rfl,rfl⟩⟩)|cases h
 case binOp a b c d e=>
  obtain⟨r,hz,hs⟩:=γ.1 h;cases hs;exact⟨_,by rw[hz];rfl,.inl ⟨rfl,rfl⟩⟩
 case unOp a b c=>
  obtain⟨r,hz,hs⟩:=γ.1 h;cases hs;exact⟨_,by rw[hz];rfl,.inl ⟨rfl,rfl⟩⟩
 case makeFunc f first captured=>
  cases f<;>simp only at h⊢<;>first|cases h|skip
  split at h
  ·rename_i PG;cases h;exact⟨T,by rw[if_pos PG],.inl ⟨rfl,rfl⟩⟩
  ·cases h
 case makeSlice t l c=>
  unfold jf at h⊢
  split at h
  ·rename_i e k l k' c ht hl hc;obtain⟨i,hi,h⟩:=ε.1 h;obtain⟨z,hz,h⟩:=ε.1 h
   split at h
   ·rename_i wv;cases h;simp only[hi,hz,Ξ];rw[if_pos wv,hT];exact⟨_,rfl,.inr ⟨_,_,rfl,rfl⟩⟩
   ·cases h
  ·cases h
 case fieldAddr a b c=>
  obtain⟨r,hz,hs⟩:=γ.1 h;cases hs;exact⟨_,by rw[hz];rfl,.inl ⟨rfl,rfl⟩⟩
 case field a b c=>
  obtain⟨r,hz,hs⟩:=γ.1 h;cases hs;exact⟨_,by rw[hz];rfl,.inl ⟨rfl,rfl⟩⟩
 case index a b c=>
  obtain⟨r,hz,hs⟩:=γ.1 h;cases hs;exact⟨_,by rw[hz];rfl,.inl ⟨rfl,rfl⟩⟩
 case extract t i=>
  split at h
  ·obtain⟨r,hz,hs⟩:=γ.1 h;cases hs;exact⟨_,by rw[hz];rfl,.inl ⟨rfl,rfl⟩⟩
  ·cases h
 case call c=>
  obtain⟨callee,args,tL⟩:=c;cases callee<;>simp only[υ] at hp h⊢
  rename_i b;have hb:b=.len∨b=.min∨b=.max:=by cases b<;>simp at hp⊢
  obtain⟨rfl,h2⟩:=GW hb h T;exact⟨T,h2,.inl ⟨rfl,rfl⟩⟩
theorem rX {k aE off:Nat} {cs:List D} (h:st.wr k aE off cs=some ai):gv st ai:=by
 unfold St.wr at h
 split at h
 ·split at h
  ·rename_i a c hm hc;cases h;exact gv.set st k _ _ (gq hc.2) (BN hm) ((Il hc.2).imp id fun hr d hd=>(vq _ _ _ hd).imp id fun hd=>θ (cW hd) (by rw[zT (BN hm)] at hr;exact hr))
  ·cases h
 ·cases h
variable{x s:D}
theorem EV {tL:List TypeId} (h:jV pv tL s x st=some (d,ai)):gv st ai:=by
 unfold jV at h
 split at h
 ·split at h
  ·split at h
   ·cases h
   ·obtain⟨i,hi,h⟩:=ε.1 h;obtain⟨z,hz,h⟩:=ε.1 h;obtain⟨⟨n,ys⟩,kL,h⟩:=ε.1 h;dsimp only at h
    split at h
    ·cases h
    ·cases s with
     |nul=>
      simp only at h
      split at h
      ·cases h;exact .refl _
      ·split at h
       ·cases h;exact .push _ _
       ·cases h
     |win k aE off len sz=>
      simp only at h
      split at h
      ·split at h
       ·cases h
       ·split at h
        ·cases h;exact .refl _
        ·split at h
         ·rename_i hc;cases h;have hbk:=BN (by assumption);refine gv.set st k _ _ (gq hc.2) hbk ((Il hc.2).imp id fun hr d hd=>?_);rw[zT hbk] at hr
          rcases List.mem_append.1 hd with hd|hd
          ·exact .inl (List.mem_of_mem_take (Qaf hd))
          ·exact .inr (θ (cW hd) hr)
         ·cases h
      ·cases h
     |_=>cases h
  ·cases h
 ·cases h
theorem JV {tL:List TypeId} (h:AY pv tL s x st=some (d,ai)):gv st ai:=by
 unfold AY at h
 split at h
 ·split at h
  ·obtain⟨i,hi,h⟩:=ε.1 h;obtain⟨⟨n,ys⟩,kL,h⟩:=ε.1 h;dsimp only at h
   split at h
   ·cases h
   ·cases s with
    |nul=>cases h;exact .refl _
    |win k aE off len sz=>
     simp only at h
     split at h
     ·cases h
     ·obtain⟨r,hz,hs⟩:=γ.1 h;cases hs;exact rX hz
    |_=>cases h
  ·cases h
 ·cases h
theorem GS {tL:List TypeId} (h:pJ pv tL s st=some (d,ai)):gv st ai:=by
 unfold pJ at h
 split at h
 ·split at h
  ·cases s with
   |nul=>cases h;exact .refl _
   |win k aE off len sz=>
    simp only at h;obtain⟨i,hi,h⟩:=ε.1 h
    split at h
    ·obtain⟨r,hz,hs⟩:=γ.1 h;cases hs;exact rX hz
    ·cases h
   |_=>cases h
  ·cases h
 ·cases h
theorem Jc {b:Bool} (h:Ad x b st=some (d,ai)):gv st ai:=by
 unfold Ad at h
 split at h
 ·split at h
  ·split at h
   ·split at h
    ·rename_i hc;cases h;exact gv.set st _ _ _ (gq hc) (by assumption) (.inr fun d hd=>by simp[lu.cells] at hd)
    ·cases h
   ·cases h;exact .refl _
  ·cases h
 ·cases h
theorem vt {t:TypeId} {m key v:D} (h:mw pv t m key v st=some ai):gv st ai:=by
 unfold mw at h
 split at h
 ·split at h
  ·rename_i hb
   split at h
   ·rename_i hc
    split at h
    ·cases h;exact gv.set st _ _ _ (gq hc) hb (.inr fun d hd=>by simp[lu.cells] at hd)
    ·cases h;exact gv.set st _ _ _ (gq hc) hb (.inr fun d hd=>by simp[lu.cells] at hd)
    ·cases h
   ·cases h
  ·cases h
 ·cases h
theorem Lm (h:eS pv fr st o.op o.type=some (d,ai)):gv st ai∧(iC pv o=false→tF st ai):=by
 by_cases hp:I_ o=true
 ·obtain⟨T',_,⟨rfl,_⟩|⟨ar,cs,rfl,_⟩⟩:=Ll hp h st rfl
  ·exact⟨.refl _,fun _=>.rfl _⟩
  ·exact⟨.push _ _,fun _=>.push _ _⟩
 ·obtain⟨dst,op,ty,pos,after,guard⟩:=o;simp only at h
  have ad:tF st ai→gv st ai∧(iC pv ⟨dst,op,ty,pos,after,guard⟩=false→tF st ai):=fun ha=>⟨ha.goes,fun _=>ha⟩
  cases op<;>simp only[I_,not_true_eq_false,υ,not_false_eq_true] at hp<;>simp only[eS] at h
  case load t a=>obtain⟨r,hz,hs⟩:=γ.1 h;cases hs;exact ad (.rfl _)
  case store t a x=>
   obtain⟨r,hz,hs⟩:=γ.1 h;cases hs;refine⟨?_,fun e=>by simp[iC] at e⟩;unfold mK at hz
   split at hz
   ·split at hz
    ·exact rX hz
    ·cases hz
   ·cases hz
  case convert s t x=>
   refine ad ?_;unfold j8 at h
   split at h
   ·cases h;exact .rfl _
   ·cases h;exact .rfl _
   ·cases h;exact .rfl _
   ·split at h
    ·split at h
     ·cases h;exact .push _ _
     ·cases h
    ·cases h
   ·split at h
    ·split at h
     ·cases h;exact .rfl _
     ·cases h
    ·cases h
   ·split at h
    ·split at h
     ·cases h
     ·split at h
      ·obtain⟨r,hz,hs⟩:=γ.1 h;cases hs;exact .rfl _
      ·cases h
    ·cases h
   ·cases h
  case slice t x lo hi mx=>
   cases mx<;>simp only at h<;>first|cases h|skip
   obtain⟨r,hz,hs⟩:=γ.1 h;cases hs;exact ad (.rfl _)
  case indexAddr t x i=>obtain⟨r,hz,hs⟩:=γ.1 h;cases hs;exact ad (.rfl _)
  case range t x=>
   refine ad ?_;unfold Bt at h
   split at h
   ·cases h;exact .push _ _
   ·cases h
  case next it s=>exact⟨Jc h,fun e=>by simp[iC] at e⟩
  case makeMap t r=>
   refine ad ?_;unfold sI at h
   split at h
   ·cases h;exact .push _ _
   ·split at h
    ·cases h;exact .push _ _
    ·cases h
   ·cases h
  case insert t m k x=>
   obtain⟨r,hz,hs⟩:=γ.1 h;cases hs;exact⟨vt hz,fun e=>by simp[iC] at e⟩
  case mapUpdate t m k x=>
   obtain⟨r,hz,hs⟩:=γ.1 h;cases hs;exact⟨vt hz,fun e=>by simp[iC] at e⟩
  case lookup t x i ok=>
   cases ok<;>simp only at h<;>first|cases h|skip
   obtain⟨r,hz,hs⟩:=γ.1 h;cases hs;exact ad (.rfl _)
  case call c=>
   obtain⟨callee,args,tL⟩:=c
   cases callee<;>simp only at h<;>first|cases h|skip
   rename_i b;unfold bW at h;refine⟨?_,fun e=>?_⟩
   ·split at h
    ·exact absurd hp (by simp)
    ·exact EV h
    ·exact JV h
    ·exact GS h
    ·exact absurd hp (by simp)
    ·exact absurd hp (by simp)
    ·cases h
   ·cases b<;>simp[iC] at e<;>simp at hp
  all_goals cases h
theorem xu {P:Program} (gF:lb P pv cf) (h:ir pv cf fr st o=some (d,ai)):gv st ai∧(iC pv o=false→tF st ai):=by
 unfold ir at h
 split at h
 ·rename_i f args tL jD
  split at h
  ·rename_i g mU ax;refine⟨gF.len _ _ _ _ _ h,fun e=>?_⟩;simp only[iC,jD] at e
   cases f with
   |func g'=>
    simp only[Fr.ev] at ax;cases ax;exact gF.ro _ _ _ _ _ h (by simpa using e)
   |_=>simp at e
  ·cases h
 ·exact Lm h
def uu (acc:List Nat):List Edge→Nat
 |[]=>0
 |e::l=>match Zt .any e with
  |true=>uu acc l|||(1<<<e.on)|||acc.getD e.on 0
  |false=>uu acc l
def LI:List Oper→List Nat→List Nat
 |[],acc=>acc
 |o::l,acc=>LI l (acc++[uu acc o.after.toList])
def Ch (d:Option Nat) (l:List Nat):Bool:=
 match d with
 |some t=>l.contains t
 |none=>false
def Hr:Option Nat→Option Nat→Bool
 |some a,some b=>a==b
 |_,_=>false
def NY (o:Oper):Bool:=(kJ o.op).isSome
def oN (pv:Pv) (ops:Array Oper) (b:Bool) (x y:Oper):Bool:=
 Ch x.dst (looks ops y)||Ch y.dst (looks ops x)||Hr x.dst y.dst||(iC pv x &&!I_ y &&!(NY y &&b))||(iC pv y &&!I_ x &&!(NY x &&b))
def listed (dy:List (Nat×Nat)) (i j:Nat):Bool:=dy.any fun p=>R2 p.1 i &&R2 p.2 j
def OQ (pv:Pv) (ops:Array Oper) (dy:List (Nat×Nat)) (ms:List Nat) (j:Nat):Bool:=
 match ops[j]? with
 |some y=>(y.after.toList.all fun e=>!Zt .any e||Qac e.on j) &&(Qa1 j).all fun i=>match ops[i]? with
  |some x=>!oN pv ops (listed dy i j) x y||(ms.getD j 0).testBit i
  |none=>true
 |none=>true
def o9 (pv:Pv) (ops:Array Oper) (dy:List (Nat×Nat)):Bool:=(Qa1 ops.size).all (OQ pv ops dy (LI ops.toList []))
def pQ (ops:Array Oper) (E:Nat→Bool):Prop:=∀k o,E k=true→ops[k]?=some o→∀e∈o.after.toList,Zt .any e=true→E e.on=true
def NU (E:Nat→Bool) (acc:List Nat):Prop:=∀k i,(acc.getD k 0).testBit i=true→E k=true→E i=true
theorem BO {E:Nat→Bool} {acc:List Nat} (ha:NU E acc) {i:Nat}:∀(l:List Edge),(uu acc l).testBit i=true→(∀e∈l,Zt .any e=true→E e.on=true)→E i=true
 |[],h,_=>by simp[uu] at h
 |e::l,h,he=>by
  have vO:∀e∈l,Zt .any e=true→E e.on=true:=fun e h=>he e (v8 _ h);unfold uu at h
  cases hb:Zt .any e with
  |false=>rw[hb] at h;exact BO ha l h vO
  |true=>
   rw[hb] at h;simp only[Nat.testBit_or,Qas] at h;have hon:=he e (Y' ..) hb
   rcases h with(h|h)|h
   ·exact BO ha l h vO
   ·rw[Nat.one_shiftLeft,Nat.testBit_two_pow] at h;have:e.on=i:=by simpa using h
    rw[←this];exact hon
   ·exact ha _ _ h hon
theorem DK {E:Nat→Bool} {ops:Array Oper} (hc:pQ ops E):∀(l:List Oper) (acc:List Nat),(∀j,l[j]?=ops[acc.length+j]?)→NU E acc→NU E (LI l acc)
 |[],acc,_,h=>h
 |o::l,acc,hl,h=>by
  have h0:=hl 0;simp only[Δ,Nat.add_zero] at h0;refine DK hc l _ (fun j=>?_) fun k i hk hE=>?_
  ·have:=hl (j+1);simp only[Qa7] at this;rw[this];simp[Qb7,Qb9 1 j]
  ·rcases Q5 k acc.length with hlt|heq|VN
   ·simp only[xw,τ hlt] at hk;exact h k i (by simpa only[xw] using hk) hE
   ·subst heq;simp only[xw] at hk;simp at hk;exact BO h _ hk (hc _ o hE h0.symm)
   ·simp only[xw] at hk;rw[ψ (by simp;omega)] at hk;simp at hk
variable{dy:List (Nat×Nat)}{i j:Nat}{y:Oper}{E:Nat→Bool}
theorem qw (h:o9 pv ops dy=true) {x:Oper} (hij:i<j) (hx:ops[i]?=some x) (hy:ops[j]?=some y) (hc:oN pv ops (listed dy i j) x y=true) (hE:pQ ops E) (hj:E j=true):E i=true:=by
 have D':j<ops.size:=by
  rcases η j ops.size with h'|h'
  ·exact h'
  ·rw[YQ h'] at hy;cases hy
 have h1:=Z5.1 h j (Qa0.2 D');unfold OQ at h1;rw[hy] at h1;simp only[ρ] at h1;have h2:=Z5.1 h1.2 i (Qa0.2 hij);rw[hx] at h2;simp only[hc,Qb2,Qb1] at h2;exact DK hE ops.toList [] (fun j=>by simp) (fun k i hk _=>by simp at hk) j i h2 hj
theorem FK (h:o9 pv ops dy=true) (hy:ops[j]?=some y) {e:Edge} (he:e∈y.after.toList) (hb:Zt .any e=true):e.on<j:=by
 have D':j<ops.size:=by
  rcases η j ops.size with h'|h'
  ·exact h'
  ·rw[YQ h'] at hy;cases hy
 have h1:=Z5.1 h j (Qa0.2 D');unfold OQ at h1;rw[hy] at h1;simp only[ρ] at h1;have:=Z5.1 h1.1 e he;simp only[hb,Qb2,Qb1] at this;have:=Cf this;omega
structure Trace (pv:Pv) (cf:gO) (ops:Array Oper) (l:List Oper) (F:Nat→Fr) (S:Nat→St) (dd:Nat→D):Prop where
 put:∀i o,l[i]?=some o→F (i+1)=(F i).eH o.dst (dd i)
 step:∀i o,l[i]?=some o→(aH ops (F i) o=some true∧ir pv cf (F i) (S i) o=some (dd i,S (i+1)))∨(aH ops (F i) o=some false∧dd i=.tup []∧S (i+1)=S i)
theorem trace {pv:Pv} {cf:gO} {ops:Array Oper}:∀(l:List Oper) (fr:Fr) (st:St) (aM:Fr) (ai:St),mi pv cf ops l fr st=some (aM,ai)→
  ∃(F:Nat→Fr) (S:Nat→St) (dd:Nat→D),F 0=fr∧S 0=st∧F l.length=aM∧S l.length=ai∧Trace pv cf ops l F S dd
 |[],fr,st,aM,ai,h=>by
  simp only[mi] at h;cases h;exact⟨fun _=>fr,fun _=>st,fun _=>.bI,rfl,rfl,rfl,rfl,by intro i o h;simp at h,by intro i o h;simp at h⟩
 |o::l,fr,st,aM,ai,h=>by
  simp only[mi] at h
  have mk:∀(d:D) (st1:St),((aH ops fr o=some true∧ir pv cf fr st o=some (d,st1))∨(aH ops fr o=some false∧d=.tup []∧st1=st))→mi pv cf ops l (fr.eH o.dst d) st1=some (aM,ai)→
    ∃(F:Nat→Fr) (S:Nat→St) (dd:Nat→D),F 0=fr∧S 0=st∧F (o::l).length=aM∧S (o::l).length=ai∧Trace pv cf ops (o::l) F S dd:=by
   intro d st1 jO hr;obtain⟨F,S,dd,h1,h2,h3,h4,h5⟩:=trace l _ _ _ _ hr;refine⟨fun|0=>fr|i+1=>F i,fun|0=>st|i+1=>S i,fun|0=>d|i+1=>dd i,rfl,rfl,h3,h4,⟨fun i p hp=>?_,fun i p hp=>?_⟩⟩
   ·cases i with
    |zero=>simp at hp;subst hp;exact h1
    |succ i=>exact h5.put i p (by simpa using hp)
   ·cases i with
    |zero=>simp at hp;subst hp;simp only[h2];exact jO
    |succ i=>exact h5.step i p (by simpa using hp)
  split at h
  ·rename_i hw
   split at h
   ·rename_i d st1 jD;exact mk d st1 (.inl ⟨hw,jD⟩) h
   ·cases h
  ·rename_i hw;exact mk _ st (.inr ⟨hw,rfl,rfl⟩) h
  ·cases h
def fP (ops:Array Oper) (E:Nat→Bool) (t:Nat):Nat→Option Nat
 |0=>none
 |k+1=>match ops[k]? with
  |some o=>if E k=true∧o.dst=some t then some k else fP ops E t k
  |none=>fP ops E t k
theorem jh (ops:Array Oper) (E:Nat→Bool) (t:Nat):∀(n:Nat),match fP ops E t n with
  |some j=>j<n∧E j=true∧(∃o,ops[j]?=some o∧o.dst=some t)∧∀i o,j<i→i<n→ops[i]?=some o→o.dst=some t→E i=false
  |none=>∀i o,i<n→ops[i]?=some o→o.dst=some t→E i=false
 |0=>by intro i o h;omega
 |n+1=>by
  have ih:=jh ops E t n;unfold fP
  cases hn:ops[n]? with
  |none=>
   simp only
   cases hl:fP ops E t n with
   |none=>
    rw[hl] at ih;intro i o hi ho hd
    rcases η i n with h'|h'
    ·exact ih i o h' ho hd
    ·have:i=n:=by omega
     subst this;rw[hn] at ho;cases ho
   |some j=>
    rw[hl] at ih;refine⟨by omega,ih.2.1,ih.2.2.1,fun i o hj hi ho hd=>?_⟩
    rcases η i n with h'|h'
    ·exact ih.2.2.2 i o hj h' ho hd
    ·have:i=n:=by omega
     subst this;rw[hn] at ho;cases ho
  |some p=>
   simp only
   by_cases hc:E n=true∧p.dst=some t
   ·rw[if_pos hc];exact⟨by omega,hc.1,⟨p,hn,hc.2⟩,fun i o hj hi=>by omega⟩
   ·rw[if_neg hc]
    have hE:∀o,ops[n]?=some o→o.dst=some t→E n=false:=by
     intro o ho hd;rw[hn] at ho;cases ho
     cases hq:E n with
     |false=>rfl
     |true=>exact absurd ⟨hq,hd⟩ hc
    cases hl:fP ops E t n with
    |none=>
     rw[hl] at ih;intro i o hi ho hd
     rcases η i n with h'|h'
     ·exact ih i o h' ho hd
     ·have:i=n:=by omega
      subst this;exact hE o ho hd
    |some j=>
     rw[hl] at ih;refine⟨by omega,ih.2.1,ih.2.2.1,fun i o hj hi ho hd=>?_⟩
     rcases η i n with h'|h'
     ·exact ih.2.2.2 i o hj h' ho hd
     ·have:i=n:=by omega
      subst this;exact hE o ho hd
theorem xU {E':Nat→Bool} {t a b:Nat} (h1:∀i o,ops[i]?=some o→o.dst=some t→((i<a∧E i=true)↔(i<b∧E' i=true))):fP ops E t a=fP ops E' t b:=by
 have s1:=jh ops E t a;have s2:=jh ops E' t b
 cases h:fP ops E t a with
 |none=>
  rw[h] at s1
  cases h':fP ops E' t b with
  |none=>rfl
  |some j=>
   rw[h'] at s2;obtain⟨q1,q2,⟨o,q3,q4⟩,_⟩:=s2;obtain⟨r1,r2⟩:=(h1 j o q3 q4).2 ⟨q1,q2⟩;have:=s1 j o r1 q3 q4;rw[this] at r2;cases r2
 |some j=>
  rw[h] at s1;obtain⟨p1,p2,⟨o,p3,p4⟩,p5⟩:=s1;obtain⟨r1,r2⟩:=(h1 j o p3 p4).1 ⟨p1,p2⟩
  cases h':fP ops E' t b with
  |none=>
   rw[h'] at s2;have:=s2 j o r1 p3 p4;rw[this] at r2;cases r2
  |some k=>
   rw[h'] at s2;obtain⟨q1,q2,⟨o',q3,q4⟩,q5⟩:=s2;obtain⟨u1,u2⟩:=(h1 k o' q3 q4).2 ⟨q1,q2⟩
   congr 1
   rcases Q5 j k with hlt|heq|VN
   ·have:=p5 k o' hlt u1 q3 q4;rw[this] at u2;cases u2
   ·exact heq
   ·have:=q5 j o VN r1 p3 p4;rw[this] at r2;cases r2
def zt (fr:Fr) (t:Nat) (d:D):D:=if Qab fr.n t=false∧fr.loc.length≤t then .bI else d
theorem K_ (fr:Fr) (dst:Option Nat) (d:D) (u:Nat):(fr.eH dst d).get u=if dst=some u then zt fr u d else fr.get u:=by
 cases dst with
 |none=>simp[Fr.eH]
 |some t=>
  simp only[Fr.eH,Ic,zt]
  by_cases h:u=t
  ·subst h;simp
  ·rw[if_neg h,if_neg (by simpa using fun e=>h e.symm)]
theorem FE (fr:Fr) (dst:Option Nat) (d:D) (t:Nat) (e:D):zt (fr.eH dst d) t e=zt fr t e:=by
 cases dst with
 |none=>rfl
 |some u=>
  have h1:(fr.put u d).n=fr.n:=by unfold Fr.put;split<;>rfl
  have h2:(fr.put u d).loc.length=fr.loc.length:=by unfold Fr.put;split<;>simp
  simp only[Fr.eH,zt,h1,h2]
theorem tP {pv:Pv} {cf:gO} {ops:Array Oper} {F:Nat→Fr} {S:Nat→St} {dd:Nat→D} (h:Trace pv cf ops ops.toList F S dd) (t:Nat):∀(i:Nat),i≤ops.size→
  (F i).get t=(match fP ops (fun _=>true) t i with|some j=>zt (F 0) t (dd j)|none=>(F 0).get t)∧∀e,zt (F i) t e=zt (F 0) t e
 |0,_=>⟨rfl,fun _=>rfl⟩
 |i+1,hi=>by
  obtain⟨TG,HT⟩:=tP h t i (by omega);have ho:ops[i]?=some ops[i]:=ς (by omega);have hp:=h.put i ops[i] (by simpa using ho);rw[hp];refine⟨?_,fun e=>by rw[FE];exact HT e⟩;rw[K_];unfold fP;rw[ho];simp only[true_and]
  split
  ·exact HT _
  ·exact TG
def entry (j:Nat) (log:Log) (l:List Oper) (F:Nat→Fr) (S:Nat→St) (i:Nat):Option (Oper×Fr×St×St):=
 if i<j then log[j-1-i]? else(l[i-j]?).map fun x=>(x,F (i-j),S (i-j),S (i-j+1))
def G7 (dy:List (Nat×Nat)) (ops:Array Oper) (j:Nat) (log:Log) (l:List Oper) (F:Nat→Fr) (S:Nat→St):Prop:=
 ∀q o,l[q]?=some o→aH ops (F q) o=some true→∀i,i<j+q→listed dy i (j+q)=true→∃x fi si wb,entry j log l F S i=some (x,fi,si,wb)∧lU x fi si wb o (F q) (S q) (S (q+1))=true
theorem Nt {log:Log} (h:Nu dy j log o fr st ai=true) (hi:i<j) (hl:listed dy i j=true):∃x fi si wb,log[j-1-i]?=some (x,fi,si,wb)∧lU x fi si wb o fr st ai=true:=by
 unfold listed at hl;obtain⟨p,hp,he⟩:=List.any_eq_true.1 hl;simp only[ρ] at he;have h1:=ZD he.1;have h2:=ZD he.2;have:=Z5.1 h p hp
 have hb:(R2 p.2 j &&Qac p.1 j)=true:=by
  rw[he.2,h1];simp[Qac];omega
 rw[hb] at this;simp only[h1] at this
 split at this
 ·rename_i x fi si wb hx;exact⟨x,fi,si,wb,hx,this⟩
 ·cases this
theorem Kv {pv:Pv} {cf:gO} {ops:Array Oper} {dy:List (Nat×Nat)}:∀(l:List Oper) (j:Nat) (log:Log) (fr:Fr) (st:St) (aM:Fr) (ai:St),log.length=j→vI pv cf ops dy j log l fr st=some (aM,ai)→
  ∃(F:Nat→Fr) (S:Nat→St) (dd:Nat→D),F 0=fr∧S 0=st∧F l.length=aM∧S l.length=ai∧Trace pv cf ops l F S dd∧G7 dy ops j log l F S
 |[],j,log,fr,st,aM,ai,hj,h=>by
  simp only[vI] at h;cases h;exact⟨fun _=>fr,fun _=>st,fun _=>.bI,rfl,rfl,rfl,rfl,⟨by intro i o h;simp at h,by intro i o h;simp at h⟩,by intro q o h;simp at h⟩
 |o::l,j,log,fr,st,aM,ai,hj,h=>by
  simp only[vI] at h
  have mk:∀(d:D) (st1:St),((aH ops fr o=some true∧ir pv cf fr st o=some (d,st1)∧Nu dy j log o fr st st1=true)∨(aH ops fr o=some false∧d=.tup []∧st1=st))→vI pv cf ops dy (j+1) ((o,fr,st,st1)::log) l (fr.eH o.dst d) st1=some (aM,ai)→
    ∃(F:Nat→Fr) (S:Nat→St) (dd:Nat→D),F 0=fr∧S 0=st∧F (o::l).length=aM∧S (o::l).length=ai∧Trace pv cf ops (o::l) F S dd∧G7 dy ops j log (o::l) F S:=by
   intro d st1 jO hr;obtain⟨F,S,dd,h1,h2,h3,h4,h5,h6⟩:=Kv l (j+1) _ _ _ _ _ (by simp[hj]) hr;refine⟨fun|0=>fr|i+1=>F i,fun|0=>st|i+1=>S i,fun|0=>d|i+1=>dd i,rfl,rfl,h3,h4,⟨fun i p hp=>?_,fun i p hp=>?_⟩,fun q p hp hw i hi hl=>?_⟩
   ·cases i with
    |zero=>simp at hp;subst hp;exact h1
    |succ i=>exact h5.put i p (by simpa using hp)
   ·cases i with
    |zero=>
     simp at hp;subst hp;simp only[h2]
     rcases jO with⟨a,b,_⟩|h
     ·exact .inl ⟨a,b⟩
     ·exact .inr h
    |succ i=>exact h5.step i p (by simpa using hp)
   ·cases q with
    |zero=>
     simp at hp;subst hp;simp only at hw⊢
     rcases jO with⟨_,_,hc⟩|⟨hn,_,_⟩
     ·obtain⟨x,fi,si,wb,e1,e2⟩:=Nt hc (i:=i) (by omega) hl;refine⟨x,fi,si,wb,?_,by simp only[h2];exact e2⟩;unfold entry;rw[if_pos (by omega)];exact e1
     ·rw[hn] at hw;cases hw
    |succ q=>
     obtain⟨x,fi,si,wb,e1,e2⟩:=h6 q p (by simpa using hp) hw i (by omega) (by rw[show j+1+q=j+(q+1) by omega];exact hl);refine⟨x,fi,si,wb,?_,e2⟩;unfold entry at e1⊢
     rcases Q5 i j with h'|h'|h'
     ·rw[if_pos (by omega)] at e1;rw[if_pos h'];rw[show j+1-1-i=(j-1-i)+1 by omega] at e1
      simpa using e1
     ·subst h';rw[if_pos (by omega)] at e1;rw[if_neg (by omega)];simp at e1;simp[h2];exact e1
     ·rw[if_neg (by omega)] at e1;rw[if_neg (by omega)]
      obtain⟨m,hm⟩:∃m,i=j+1+m:=⟨i-(j+1),by omega⟩
      subst hm;rw[show j+1+m-(j+1)=m by omega] at e1;rw[show j+1+m-j=m+1 by omega]
      simpa using e1
  split at h
  ·rename_i hw
   split at h
   ·rename_i d st1 jD
    split at h
    ·rename_i hc;exact mk d st1 (.inl ⟨hw,jD,hc⟩) h
    ·cases h
   ·cases h
  ·rename_i hw;exact mk _ st (.inr ⟨hw,rfl,rfl⟩) h
  ·cases h
def Still (dy:List (Nat×Nat)) (ops:Array Oper) (F:Nat→Fr) (S:Nat→St):Prop:=
 ∀r q y a k x,ops[r]?=some y→kJ y.op=some a→aH ops (F r) y=some true→((F r).ev a).rU=some k→ops[q]?=some x→NY x=false→aH ops (F q) x=some true→(q<r→listed dy q r=true)→(r<q→listed dy r q=true)→
  (S (q+1)).bs[k]?=(S q).bs[k]?∧(r<q→rD (some k) (S r) (S (q+1))=true)
theorem KD {F:Nat→Fr} {S:Nat→St} (hl:G7 dy ops 0 [] ops.toList F S):Still dy ops F S:=by
 intro r q y a k x hy ha hw hk hx RL hwx h1 h2
 have UM:kJ x.op=none:=by
  unfold NY at RL
  cases h:kJ x.op with
  |none=>rfl
  |some _=>rw[h] at RL;cases RL
 rcases Q5 q r with h'|h'|h'
 ·obtain⟨x',fi,si,wb,e1,e2⟩:=hl r y (by simpa using hy) hw q (by omega) (by rw[Qba];exact h1 h');simp only[entry,Qaz,if_false,Qad,Θ,hx,VM,VT.injEq,Prod.mk.injEq] at e1;obtain⟨rfl,rfl,rfl,rfl⟩:=e1;simp only[lU,ha,hk] at e2;exact⟨zD e2,fun h=>by omega⟩
 ·subst h';rw[hx] at hy;cases hy;rw[UM] at ha;cases ha
 ·obtain⟨x',fi,si,wb,e1,e2⟩:=hl q x (by simpa using hx) hwx r (by omega) (by rw[Qba];exact h2 h');simp only[entry,Qaz,if_false,Qad,Θ,hy,VM,VT.injEq,Prod.mk.injEq] at e1;obtain⟨rfl,rfl,rfl,rfl⟩:=e1;simp only[lU,UM,ha,hk,ρ] at e2;exact⟨zD e2.1,fun _=>e2.2⟩
theorem LH (p:Nat→Prop) (base:Nat):∀n,∃m,base≤m∧(∀j,j<n→p j→j+1≤m)∧(m=base∨∃j,j<n∧p j∧m=j+1)
 |0=>⟨base,μ _,fun _ h=>by omega,.inl rfl⟩
 |n+1=>by
  obtain⟨m,h1,h2,h3⟩:=LH p base n
  by_cases hp:p n
  ·by_cases hm:n+1≤m
   ·refine⟨m,h1,fun j hj YE=>?_,?_⟩
    ·rcases η j n with h'|h'
     ·exact h2 j h' YE
     ·have:j=n:=by omega
      subst this;exact hm
    ·rcases h3 with h3|⟨j,q1,q2,q3⟩
     ·exact .inl h3
     ·exact .inr ⟨j,by omega,q2,q3⟩
   ·refine⟨n+1,by omega,fun j hj _=>by omega,.inr ⟨n,by omega,hp,rfl⟩⟩
  ·refine⟨m,h1,fun j hj YE=>?_,?_⟩
   ·rcases η j n with h'|h'
    ·exact h2 j h' YE
    ·have:j=n:=by omega
     subst this;exact absurd YE hp
   ·rcases h3 with h3|⟨j,q1,q2,q3⟩
    ·exact .inl h3
    ·exact .inr ⟨j,by omega,q2,q3⟩
def gQ (pv:Pv) (ops:Array Oper) (F:Nat→Fr) (i:Nat):Prop:=∃o,ops[i]?=some o∧iC pv o=true∧aH ops (F i) o=some true
def Hs (S:Nat→St) (sg:Nat→Nat) (k:Nat):lu:=((S (sg k)).bs[k]?).getD .dead
def Xm (S:Nat→St) (sg:Nat→Nat) (β:Nat→Option (Nat×Nat)) (Z:Nat→Prop) (m:Nat):X:=⟨fun k=>eB (Hs S sg k),fun k=>if k<(S m).bs.length then β k else none,Z⟩
def TB (ops:Array Oper) (E:Nat→Bool) (t:Nat):Nat:=
 match fP ops E t ops.size with
 |some j=>j+1
 |none=>0
def val (ops:Array Oper) (F:Nat→Fr) (dd:Nat→D) (E:Nat→Bool) (t:Nat):D:=
 match fP ops E t ops.size with
 |some j=>zt (F 0) t (dd j)
 |none=>(F 0).get t
structure DI (pv:Pv) (ops:Array Oper) (F:Nat→Fr) (S:Nat→St) (dd:Nat→D) (a0:Act) (w0:World) (β0:Nat→Option (Nat×Nat)) (Z0:Nat→Prop)
  (E:Nat→Bool) (a:Act) (w:World) (β:Nat→Option (Nat×Nat)) (Z:Nat→Prop) (sg:Nat→Nat):Prop where
 size:a.tmps.size=a0.tmps.size
 defers:a.defers=a0.defers
 clo:pQ ops E
 bnd:∀k,E k=true→k<ops.size
 dom:∀k p,β k=some p→k<(S (sg k)).bs.length∧sg k≤ops.size∧(sg k=0∨∃j,E j=true∧sg k=j+1∧(gQ pv ops F j∨(S j).bs.length≤k))
 cr:∀k p,β k=some p→∀i,i<ops.size→(S i).bs.length≤k→k<(S (i+1)).bs.length→E i=true
 sg2:∀k p,β k=some p→∀j,E j=true→gQ pv ops F j→k<(S j).bs.length→j+1≤sg k
 ph:∀k,β k=none→∀j,E j=true→gQ pv ops F j→k<(S j).bs.length→(S (j+1)).bs[k]?=(S j).bs[k]?
 lt:∀k b base,β k=some (b,base)→b<w.heap.size
 inj:∀k k' b x x',β k=some (b,x)→β k'=some (b,x')→k=k'
 zd:∀k b base,β k=some (b,base)→¬Z b
 zl:∀b,Z b→b<w.heap.size
 box:∀k b base,β k=some (b,base)→lq w (Xm S sg β Z (sg k)) b base (Hs S sg k)
 frame:∀t,VR w (Xm S sg β Z (TB ops E t)) (val ops F dd E t) (a.tmps.getD t undef)
 evo:IA (wrt (S 0) β0) w0 w
 keeps:fq w0 ((S 0).x β0 Z0) w (Xm S sg β Z ops.size)
 fresh:∀k b base,β k=some (b,base)→(∃eL,β0 k=some (b,eL))∨w0.heap.size≤b
 zfresh:∀b,Z b→Z0 b∨w0.heap.size≤b
 low:∀k,k<(S 0).ro→β k=β0 k
 Dv:∀k,k<(S 0).bs.length→β0 k=none→β k=none
section
variable{pv:Pv} {P:Program} (ok:pv.Ok P) {cf:gO} (gF:lb P pv cf) {ops:Array Oper} {F:Nat→Fr} {S:Nat→St} {dd:Nat→D} (ht:Trace pv cf ops ops.toList F S dd) {dy:List (Nat×Nat)} (sR:o9 pv ops dy=true)
include gF ht
theorem sa (i:Nat) (hi:i<ops.size):gv (S i) (S (i+1))∧(¬gQ pv ops F i→∀k,k<(S i).bs.length→(S (i+1)).bs[k]?=(S i).bs[k]?):=by
 have ho:ops[i]?=some ops[i]:=ς hi
 rcases ht.step i ops[i] (by simpa using ho) with⟨h1,h2⟩|⟨_,_,h3⟩
 ·obtain⟨g1,g2⟩:=xu gF h2;refine⟨g1,fun hn k hk=>?_⟩
  have he:iC pv ops[i]=false:=by
   cases h:iC pv ops[i] with
   |false=>rfl
   |true=>exact absurd ⟨_,ho,h,h1⟩ hn
  obtain⟨l,h⟩:=g2 he;rw[h];simp only;rw[τ hk]
 ·rw[h3];exact⟨.refl _,fun _ _ _=>rfl⟩
theorem eF:∀(j i:Nat),i≤j→j≤ops.size→gv (S i) (S j)
 |0,i,h,_=>by
  have:i=0:=by omega
  subst this;exact .refl _
 |j+1,i,h,hj=>by
  rcases η i (j+1) with h'|h'
  ·exact(eF j i (by omega) (by omega)).trans (sa gF ht j (by omega)).1
  ·have:i=j+1:=by omega
   subst this;exact .refl _
theorem na {i:Nat}:∀(j:Nat),i≤j→j≤ops.size→∀k,k<(S i).bs.length→(∀q,i≤q→q<j→¬gQ pv ops F q∨(S (q+1)).bs[k]?=(S q).bs[k]?)→(S j).bs[k]?=(S i).bs[k]?
 |0,h,_,k,_,_=>by
  have:i=0:=by omega
  subst this;rfl
 |j+1,h,hj,k,hk,hq=>by
  rcases η i (j+1) with h'|h'
  ·have ih:=na j (by omega) (by omega) k hk fun q h1 h2=>hq q h1 (by omega);have oe:k<(S j).bs.length:=ξ hk (eF gF ht j i (by omega) (by omega)).len
   rcases hq j (by omega) (by omega) with h1|h1
   ·exact((sa gF ht j (by omega)).2 h1 k oe).trans ih
   ·exact h1.trans ih
  ·have:i=j+1:=by omega
   subst this;rfl
variable{w:World}{sg:Nat→Nat}{β:Nat→Option (Nat×Nat)}{Z:Nat→Prop}
theorem Iz {m m':Nat} (h:m≤m') (h':m'≤ops.size):fq w (Xm S sg β Z m) w (Xm S sg β Z m'):=by
 have hl:=(eF gF ht m' m h h').len
 have key:∀k p,(Xm S sg β Z m).β k=some p→(Xm S sg β Z m').β k=some p:=by
  intro k p hp;simp only[Xm] at hp⊢
  split at hp
  ·rename_i hk;rw[if_pos (by omega)];exact hp
  ·cases hp
 exact⟨fun k p hp=>⟨p,key k p hp⟩,fun b hb=>⟨hb,rfl⟩,fun k c p _ hc=>⟨c,hc,μ _⟩,fun k c _ _ b base hb=>⟨key k _ hb,rfl⟩⟩
theorem C5 {a0 a:Act} {w0:World} {β0:Nat→Option (Nat×Nat)} {Z0:Nat→Prop} {E:Nat→Bool} (h:DI pv ops F S dd a0 w0 β0 Z0 E a w β Z sg) {i:Nat} (hi:i≤ops.size) (hd:∀j,j<i→gQ pv ops F j→E j=true) (hu:∀j,i≤j→gQ pv ops F j→E j=false) {k:Nat} {p:Nat×Nat} (hk:β k=some p) (Sx:k<(S i).bs.length):
  sg k≤i∧Hs S sg k=((S i).bs[k]?).getD .dead∧(S i).bs[k]?=some (Hs S sg k):=by
 obtain⟨h1,h2,h3⟩:=h.dom k p hk
 have hle:sg k≤i:=by
  rcases h3 with h3|⟨j,q1,q2,q3⟩
  ·omega
  ·rw[q2]
   rcases q3 with q3|q3
   ·rcases η j i with h'|h'
    ·exact h'
    ·have:=hu j h' q3;rw[this] at q1;cases q1
   ·rcases η j i with h'|h'
    ·exact h'
    ·have D':=h.bnd j q1;have:=(eF gF ht j i h' (by omega)).len;omega
 have heq:=na gF ht i hle hi k h1 fun q Kc tI=>by
  by_cases he:gQ pv ops F q
  ·have hE:=hd q tI he;have Sw:k<(S q).bs.length:=ξ h1 (eF gF ht q (sg k) Kc (by omega)).len;have:=h.sg2 k p hk q hE he Sw;omega
  ·exact .inl he
 refine⟨hle,by simp only[Hs];rw[heq],?_⟩;rw[heq];simp only[Hs];rw[ζ h1];rfl
end
end Go.V
namespace Go.V
open Go.RowKit
theorem lq.aE {w:World} {x:X} {b base:Nat} {bx:lu} (h:lq w x b base bx):∃c,eB bx=some c:=by
 cases bx with
 |mem v a c=>exact⟨v,rfl⟩
 |iter s p=>exact⟨0,rfl⟩
 |map e=>exact⟨0,rfl⟩
 |dead=>exact h.elim
def glue (S:Nat→St) (j:Nat) (βl β:Nat→Option (Nat×Nat)):Nat→Option (Nat×Nat):=fun k=>if k<(S (j+1)).bs.length then βl k else β k
open Classical in
noncomputable def iG (pv:Pv) (ops:Array Oper) (F:Nat→Fr) (S:Nat→St) (j m:Nat) (sg:Nat→Nat):Nat→Nat:=
 fun k=>if k<(S (j+1)).bs.length∧(gQ pv ops F j∨(S j).bs.length≤k) then m else sg k
section
variable{pv:Pv} {P:Program} {cf:gO} (gF:lb P pv cf) {ops:Array Oper} {F:Nat→Fr} {S:Nat→St} {dd:Nat→D} (ht:Trace pv cf ops ops.toList F S dd)
include gF ht
theorem DI.put {a0 a:Act} {w0 w w':World} {β0 β βl:Nat→Option (Nat×Nat)} {Z0 Z Zl:Nat→Prop} {E E':Nat→Bool} {sg:Nat→Nat} (h:DI pv ops F S dd a0 w0 β0 Z0 E a w β Z sg) {j m:Nat} {o:Oper} (hj:E j=false) (ho:ops[j]?=some o)
  (B':∀k,E' k=true↔(E k=true∨k=j)) (Gb:∀e∈o.after.toList,Zt .any e=true→E e.on=true) (HY:∀i o' t,j<i→ops[i]?=some o'→o.dst=some t→o'.dst=some t→E i=false)
  (B5:∀t,o.dst=some t→t<a.tmps.size) (acQ:(S 0).ro≤(S 0).bs.length) {T T':St} {v:Value}
  (hn:Nx w T (fun k=>if k<(S j).bs.length then β k else none) Z w' T' βl Zl) (Wc:T.bs.length=(S j).bs.length) (aa1:T'.bs.length=(S (j+1)).bs.length) (hTr:T.ro=(S j).ro)
  (hv:VR w' (T'.x βl Zl) (dd j) v) (H8:∀k p,k<(S j).bs.length→β k=some p→T.aE k=eB (Hs S sg k))
  (yf:j+1≤m) (Kd:m≤ops.size) (D9:∀i,E i=true→gQ pv ops F i→i+1≤m) (B2:m=j+1∨∃i,E i=true∧gQ pv ops F i∧m=i+1)
  (PT:∀k p,βl k=some p→T'.aE k=eB (Hs S (iG pv ops F S j m sg) k))
  (aa2:∀k b base,βl k=some (b,base)→(gQ pv ops F j∨(S j).bs.length≤k)→lq w' (T'.x βl Zl) b base (Hs S (iG pv ops F S j m sg) k))
  (hq:¬gQ pv ops F j→Quiet w w') (hS:gQ pv ops F j→T=S j∧T'=S (j+1)):
  DI pv ops F S dd a0 w0 β0 Z0 E' (a.put o.dst v) w' (glue S j βl β) Zl (iG pv ops F S j m sg):=by
 have D':j<ops.size:=by
  rcases η j ops.size with h'|h'
  ·exact h'
  ·rw[YQ h'] at ho;cases ho
 have hNj:=(sa gF ht j D').1.len;have hN:∀{a b:Nat},a≤b→b≤ops.size→(S a).bs.length≤(S b).bs.length:=fun h1 h2=>(eF gF ht _ _ h1 h2).len;have lk:∀k p,βl k=some p→k<(S (j+1)).bs.length:=fun k p hp=>by rw[←aa1];exact hn.sim.dom k p.1 p.2 hp
 have fA:∀k,k<(S j).bs.length→β k=none→βl k=none∧T'.bs[k]?=T.bs[k]?:=fun k hk h0=>hn.Dv k (by rw[Wc];exact hk) (by simp only[if_pos hk];exact h0);have fB:∀k p,k<(S j).bs.length→β k=some p→∃p',βl k=some p':=fun k p hk hp=>hn.keeps.dm k p (by simp only[cg,if_pos hk];exact hp)
 have fC:∀k p,(S j).bs.length≤k→k<(S (j+1)).bs.length→β k=some p→False:=fun k p h1 h2 hp=>by
  have:=h.cr k p hp j D' h1 h2;rw[hj] at this;cases this
 have Re:∀k,¬(k<(S (j+1)).bs.length∧(gQ pv ops F j∨(S j).bs.length≤k))→iG pv ops F S j m sg k=sg k:=fun k hk=>by simp only[iG];rw[if_neg hk]
 have Y7:∀k,k<(S (j+1)).bs.length→(gQ pv ops F j∨(S j).bs.length≤k)→iG pv ops F S j m sg k=m:=fun k h1 h2=>by simp only[iG];rw[if_pos ⟨h1,h2⟩]
 have Ep:∀k,k<(S (j+1)).bs.length→glue S j βl β k=βl k:=fun k hk=>by simp only[glue,if_pos hk]
 have Ib:∀k,¬k<(S (j+1)).bs.length→glue S j βl β k=β k:=fun k hk=>by simp only[glue,if_neg hk]
 have YX:∀k,¬(k<(S (j+1)).bs.length∧(gQ pv ops F j∨(S j).bs.length≤k))→Hs S (iG pv ops F S j m sg) k=Hs S sg k:=fun k hk=>by simp only[Hs,Re k hk]
 have fE:∀k b base,¬k<(S j).bs.length→β k=some (b,base)→w'.heap[b]?=w.heap[b]?:=by
  intro k b base hk hb;refine hn.evo.block b (h.lt k b base hb) ?_;rintro⟨k',eL,og,_⟩;dsimp only at og
  split at og
  ·rename_i hlt;have:=h.inj k k' b _ _ hb og;omega
  ·cases og
 have fD:¬gQ pv ops F j→∀k p,k<(S j).bs.length→β k=some p→βl k=some p:=by
  intro hne k p hk hp;obtain⟨p',BZ⟩:=fB k p hk hp;have e1:=H8 k p hk hp;have e2:=PT k p' BZ;rw[YX k (by rintro⟨_,h1|h1⟩;exact hne h1;omega)] at e2;obtain⟨c,hc⟩:=(h.box k p.1 p.2 hp).aE;rw[hc] at e1 e2;exact(hn.keeps.at_ k c e2 e1 p.1 p.2 (by simp only[cg,if_pos hk];exact hp)).1
 have KX:∀q,fq w (Xm S sg β Z q) w' (Xm S (iG pv ops F S j m sg) (glue S j βl β) Zl q):=by
  intro q;refine⟨fun k p hp=>?_,hn.keeps.z,fun k c p hp hc=>?_,fun k c hc Gr b base hb=>?_⟩
  ·simp only[Xm] at hp⊢
   split at hp
   ·rename_i Sw;rw[if_pos Sw]
    by_cases hk:k<(S (j+1)).bs.length
    ·rw[Ep k hk]
     by_cases oe:k<(S j).bs.length
     ·exact fB k p oe hp
     ·exact(fC k p (by omega) hk hp).elim
    ·rw[Ib k hk];exact⟨p,hp⟩
   ·cases hp
  ·simp only[Xm] at hp hc⊢
   split at hp
   ·by_cases oe:k<(S j).bs.length
    ·obtain⟨p',BZ⟩:=fB k p oe hp;obtain⟨o',h1,h2⟩:=hn.keeps.aE k c p (by simp only[cg,if_pos oe];exact hp) (by show T'.aE k=some c;rw[PT k p' BZ];exact hc);exact⟨o',by rw[←H8 k p oe hp];exact h1,h2⟩
    ·by_cases hk:k<(S (j+1)).bs.length
     ·exact(fC k p (by omega) hk hp).elim
     ·rw[YX k (fun h'=>hk h'.1)] at hc;exact⟨c,hc,μ _⟩
   ·cases hp
  ·simp only[Xm] at hb hc Gr⊢
   split at hb
   ·rename_i Sw;rw[if_pos Sw]
    by_cases oe:k<(S j).bs.length
    ·obtain⟨p',BZ⟩:=fB k _ oe hb;have:=hn.keeps.at_ k c (by show T'.aE k=some c;rw[PT k p' BZ];exact hc) (by show T.aE k=some c;rw[H8 k _ oe hb];exact Gr) b base (by simp only[cg,if_pos oe];exact hb);rw[Ep k (by omega)];exact this
    ·by_cases hk:k<(S (j+1)).bs.length
     ·exact(fC k _ (by omega) hk hb).elim
     ·rw[Ib k hk];exact⟨hb,gg (fE k b base oe hb)⟩
   ·cases hb
 have KT:fq w' (T'.x βl Zl) w' (Xm S (iG pv ops F S j m sg) (glue S j βl β) Zl (j+1)):=by
  have key:∀k p,βl k=some p→(Xm S (iG pv ops F S j m sg) (glue S j βl β) Zl (j+1)).β k=some p:=by
   intro k p hp;have:=lk k p hp;simp only[Xm];rw[if_pos this,Ep k this];exact hp
  refine⟨fun k p hp=>⟨p,key k p hp⟩,fun b hb=>⟨hb,rfl⟩,fun k c p hp hc=>⟨c,?_,μ _⟩,fun k c _ _ b base hb=>⟨key k _ hb,rfl⟩⟩;show T'.aE k=some c;rw[PT k p hp];exact hc
 have hmN:(S (j+1)).bs.length≤(S m).bs.length:=hN yf Kd;have aaT:∀k,k<(S (j+1)).bs.length→(gQ pv ops F j∨(S j).bs.length≤k)→k<(S m).bs.length:=fun k h1 _=>by omega
 refine⟨by rw[oZ];exact h.size,by rw[put_defers];exact h.defers,?_,?_,?_,?_,?_,?_,?_,?_,?_,?_,?_,?_,?_,h.keeps.trans (KX _),?_,?_,?_,?_⟩
 ·
  intro k o' hk Pt e he hb
  rcases(B' k).1 hk with hk|rfl
  ·exact(B' _).2 (.inl (h.clo k o' hk Pt e he hb))
  ·rw[ho] at Pt;cases Pt;exact(B' _).2 (.inl (Gb e he hb))
 ·intro k hk
  rcases(B' k).1 hk with hk|rfl
  ·exact h.bnd k hk
  ·exact D'
 ·
  intro k p hp
  by_cases hk:k<(S (j+1)).bs.length
  ·rw[Ep k hk] at hp
   by_cases hc:gQ pv ops F j∨(S j).bs.length≤k
   ·rw[Y7 k hk hc];refine⟨aaT k hk hc,Kd,.inr ?_⟩
    rcases B2 with rfl|⟨i,q1,q2,q3⟩
    ·exact⟨j,(B' j).2 (.inr rfl),rfl,hc⟩
    ·exact⟨i,(B' i).2 (.inl q1),q3,.inl q2⟩
   ·rw[Re k (fun h'=>hc h'.2)]
    have oe:k<(S j).bs.length:=by
     rcases η k (S j).bs.length with h'|h'
     ·exact h'
     ·exact absurd (.inr h') hc
    cases hβ:β k with
    |none=>have:=(fA k oe hβ).1;rw[hp] at this;cases this
    |some q=>
     obtain⟨d1,d2,d3⟩:=h.dom k q hβ;refine⟨d1,d2,?_⟩
     rcases d3 with d3|⟨i,r1,r2,r3⟩
     ·exact .inl d3
     ·exact .inr ⟨i,(B' i).2 (.inl r1),r2,r3⟩
  ·rw[Ib k hk] at hp;rw[Re k (fun h'=>hk h'.1)];obtain⟨d1,d2,d3⟩:=h.dom k p hp;refine⟨d1,d2,?_⟩
   rcases d3 with d3|⟨i,r1,r2,r3⟩
   ·exact .inl d3
   ·exact .inr ⟨i,(B' i).2 (.inl r1),r2,r3⟩
 ·
  intro k p hp i hi h1 h2
  by_cases hk:k<(S (j+1)).bs.length
  ·rw[Ep k hk] at hp
   by_cases oe:k<(S j).bs.length
   ·cases hβ:β k with
    |none=>have:=(fA k oe hβ).1;rw[hp] at this;cases this
    |some q=>exact(B' i).2 (.inl (h.cr k q hβ i hi h1 h2))
   ·have:i=j:=by
     rcases Q5 i j with h'|h'|h'
     ·have:=hN (a:=i+1) (b:=j) (by omega) (by omega);omega
     ·exact h'
     ·have:=hN (a:=j+1) (b:=i) (by omega) (by omega);omega
    subst this;exact(B' _).2 (.inr rfl)
  ·rw[Ib k hk] at hp;exact(B' i).2 (.inl (h.cr k p hp i hi h1 h2))
 ·
  intro k p hp i hi he Sx
  by_cases hk:k<(S (j+1)).bs.length
  ·rw[Ep k hk] at hp
   by_cases hc:gQ pv ops F j∨(S j).bs.length≤k
   ·rw[Y7 k hk hc]
    rcases(B' i).1 hi with hi|rfl
    ·exact D9 i hi he
    ·exact yf
   ·rw[Re k (fun h'=>hc h'.2)]
    have oe:k<(S j).bs.length:=by
     rcases η k (S j).bs.length with h'|h'
     ·exact h'
     ·exact absurd (.inr h') hc
    cases hβ:β k with
    |none=>have:=(fA k oe hβ).1;rw[hp] at this;cases this
    |some q=>
     rcases(B' i).1 hi with hi|rfl
     ·exact h.sg2 k q hβ i hi he Sx
     ·exact absurd (.inl he) hc
  ·rw[Ib k hk] at hp;rw[Re k (fun h'=>hk h'.1)]
   rcases(B' i).1 hi with hi|rfl
   ·exact h.sg2 k p hp i hi he Sx
   ·omega
 ·
  intro k D_ i hi he Sx
  have hβ:k<(S j).bs.length∨¬k<(S (j+1)).bs.length→β k=none:=by
   rintro(oe|hk)
   ·cases hβ:β k with
    |none=>rfl
    |some q=>
     obtain⟨p',BZ⟩:=fB k q oe hβ;rw[Ep k (by omega),BZ] at D_;cases D_
   ·rw[Ib k hk] at D_;exact D_
  have UC:β k=none:=by
   by_cases oe:k<(S j).bs.length
   ·exact hβ (.inl oe)
   ·by_cases hk:k<(S (j+1)).bs.length
    ·cases hb:β k with
     |none=>rfl
     |some q=>exact(fC k q (by omega) hk hb).elim
    ·exact hβ (.inr hk)
  rcases(B' i).1 hi with hi|rfl
  ·exact h.ph k UC i hi he Sx
  ·obtain⟨e1,e2⟩:=hS he;have:=(fA k Sx UC).2;rw[e1,e2] at this;exact this
 ·
  intro k b base hp
  by_cases hk:k<(S (j+1)).bs.length
  ·rw[Ep k hk] at hp;exact hn.sim.lt k b base hp
  ·rw[Ib k hk] at hp;exact ξ (h.lt k b base hp) hn.evo.size
 ·
  have mix:∀k k' b x x',k<(S (j+1)).bs.length→¬k'<(S (j+1)).bs.length→βl k=some (b,x)→β k'=some (b,x')→False:=by
   intro k k' b x x' hk og h1 h2
   rcases hn.fresh k b x h1 with⟨eL,gx⟩|hlt
   ·(try dsimp only at gx)
    split at gx
    ·have:=h.inj k k' b _ _ gx h2;omega
    ·cases gx
   ·have:=h.lt k' b x' h2;omega
  intro k k' b x x' h1 h2
  by_cases hk:k<(S (j+1)).bs.length<;>by_cases og:k'<(S (j+1)).bs.length
  ·rw[Ep k hk] at h1;rw[Ep k' og] at h2;exact hn.sim.inj k k' b x x' h1 h2
  ·rw[Ep k hk] at h1;rw[Ib k' og] at h2;exact(mix k k' b x x' hk og h1 h2).elim
  ·rw[Ib k hk] at h1;rw[Ep k' og] at h2;exact(mix k' k b x' x og hk h2 h1).elim
  ·rw[Ib k hk] at h1;rw[Ib k' og] at h2;exact h.inj k k' b x x' h1 h2
 ·
  intro k b base hp hz
  by_cases hk:k<(S (j+1)).bs.length
  ·rw[Ep k hk] at hp;exact hn.sim.zd k b base hp hz
  ·rw[Ib k hk] at hp
   rcases hn.zfresh b hz with hz|hlt
   ·exact h.zd k b base hp hz
   ·have:=h.lt k b base hp;omega
 ·exact hn.sim.zl
 ·
  intro k b base hp
  by_cases hk:k<(S (j+1)).bs.length
  ·rw[Ep k hk] at hp
   by_cases hc:gQ pv ops F j∨(S j).bs.length≤k
   ·rw[Y7 k hk hc];exact(aa2 k b base hp hc).cw (KT.trans (Iz gF ht yf Kd)) rfl
   ·have oe:k<(S j).bs.length:=by
     rcases η k (S j).bs.length with h'|h'
     ·exact h'
     ·exact absurd (.inr h') hc
    have hne:¬gQ pv ops F j:=fun h'=>hc (.inl h');rw[Re k (fun h'=>hc h'.2),YX k (fun h'=>hc h'.2)]
    cases hβ:β k with
    |none=>have:=(fA k oe hβ).1;rw[hp] at this;cases this
    |some q=>
     have:=fD hne k q oe hβ;rw[hp] at this;cases this;exact(h.box k b base hβ).cw (KX _) (hq hne b (h.lt k b base hβ))
  ·rw[Ib k hk] at hp;rw[Re k (fun h'=>hk h'.1),YX k (fun h'=>hk h'.1)];exact(h.box k b base hp).cw (KX _) (fE k b base (by omega) hp)
 ·
  intro t
  by_cases hd:o.dst=some t
  ·have hl:fP ops E' t ops.size=some j:=by
    have s:=jh ops E' t ops.size
    cases hl:fP ops E' t ops.size with
    |none=>
     rw[hl] at s;have:=s j o D' ho hd;rw[(B' j).2 (.inr rfl)] at this;cases this
    |some i=>
     rw[hl] at s;obtain⟨s1,s2,⟨o',s3,s4⟩,s5⟩:=s
     rcases Q5 i j with h'|h'|h'
     ·have:=s5 j o h' D' ho hd;rw[(B' j).2 (.inr rfl)] at this;cases this
     ·rw[h']
     ·have:=HY i o' t h' s3 hd s4
      rcases(B' i).1 s2 with h2|h2
      ·rw[this] at h2;cases h2
      ·omega
   have hget:(a.put o.dst v).tmps.getD t undef=v:=by
    rw[hd];simp only[Act.put,κ];rw[ο (B5 t hd)];rfl
   rw[hget];simp only[val,TB,hl];unfold zt
   split
   ·exact .bI _ _ _
   ·exact hv.mono KT
  ·have hl:fP ops E' t ops.size=fP ops E t ops.size:=by
    refine xU fun i o' h1 h2=>?_;have hij:i≠j:=fun e=>by subst e;rw[ho] at h1;cases h1;exact hd h2
    rw[B' i];simp[hij]
   have hget:(a.put o.dst v).tmps.getD t undef=a.tmps.getD t undef:=by
    cases SQ:o.dst with
    |none=>rfl
    |some u=>
     have hut:u≠t:=fun e=>hd (by rw[SQ,e]);simp only[Act.put,κ];rw[Zn hut]
   rw[hget];have hf:=h.frame t;simp only[val,TB,hl] at hf⊢;exact hf.mono (KX _)
 ·
  refine h.evo.trans hn.evo (fun _ hm=>hm) fun b hb hm=>?_;obtain⟨k,base,hk,du⟩:=hm;dsimp only at hk
  split at hk
  ·rcases h.fresh k b base hk with⟨eL,gx⟩|hlt
   ·refine⟨k,eL,gx,?_⟩;have:=(eF gF ht j 0 (by omega) (by omega)).ro;rw[←this,←hTr];exact du
   ·omega
  ·cases hk
 ·
  intro k b base hp
  by_cases hk:k<(S (j+1)).bs.length
  ·rw[Ep k hk] at hp
   rcases hn.fresh k b base hp with⟨eL,gx⟩|hlt
   ·(try dsimp only at gx)
    split at gx
    ·exact h.fresh k b eL gx
    ·cases gx
   ·exact .inr (θ h.evo.size hlt)
  ·rw[Ib k hk] at hp;exact h.fresh k b base hp
 ·intro b hz
  rcases hn.zfresh b hz with hz|hlt
  ·exact h.zfresh b hz
  ·exact .inr (θ h.evo.size hlt)
 ·
  intro k hk;have h0:=hN (a:=0) (b:=j) (by omega) (by omega);have oe:k<(S j).bs.length:=by omega
  have hr:=(eF gF ht j 0 (by omega) (by omega)).ro;have:=(hn.low k (by rw[hTr,hr];exact hk)).2;rw[Ep k (by omega),this];simp only[if_pos oe];exact h.low k hk
 ·
  intro k hk D_;have h0:=hN (a:=0) (b:=j) (by omega) (by omega);have oe:k<(S j).bs.length:=by omega
  rw[Ep k (by omega)];exact(fA k oe (h.Dv k hk D_)).1
end
end Go.V
namespace Go.V
open Go.RowKit
variable{pv:Pv}{o:Oper}
theorem Lg (h:I_ o=true):iC pv o=false:=by
 obtain⟨dst,op,ty,pos,after,guard⟩:=o;cases op<;>simp only[I_,υ] at h<;>try rfl
 rename_i c;obtain⟨callee,args,tL⟩:=c;cases callee<;>simp only[υ] at h
 rename_i b;cases b<;>simp at h<;>rfl
theorem rT (h:iC pv o=true):I_ o=false∧NY o=false:=by
 refine⟨?_,?_⟩
 ·cases hp:I_ o with
  |false=>rfl
  |true=>rw[Lg hp] at h;cases h
 ·obtain⟨dst,op,ty,pos,after,guard⟩:=o
  cases op<;>first|rfl|(simp[iC] at h)
variable{k:Nat}
theorem HJ {a b:St} (h:a.bs[k]?=b.bs[k]?) (v:Nat):a.ib k v=b.ib k v:=by
 simp only[St.ib,h]
variable{fr:Fr}{st:St}{d:D}
theorem Ru {ai:St} {op:Op} {ty:TypeId} {a:Operand} (ha:kJ op=some a) (h:eS pv fr st op ty=some (d,ai)):ai=st∧∀T:St,(∀k,(fr.ev a).rU=some k→T.bs[k]?=st.bs[k]?)→eS pv fr T op ty=some (d,T):=by
 cases op<;>simp only[kJ,VT.injEq,reduceCtorEq] at ha
 case load t x=>
  subst ha;simp only[eS] at h⊢;obtain⟨r,hz,hs⟩:=γ.1 h;cases hs;refine⟨rfl,fun T hT=>?_⟩
  have:j6 pv t (fr.ev x) T=j6 pv t (fr.ev x) st:=by
   cases hx:fr.ev x<;>first|rfl|skip
   rename_i k v off;simp only[j6];rw[HJ (hT k (by rw[hx];rfl))]
  rw[this,hz];rfl
 case indexAddr t x i=>
  subst ha;simp only[eS] at h⊢;obtain⟨r,hz,hs⟩:=γ.1 h;cases hs;refine⟨rfl,fun T hT=>?_⟩
  have:cJ pv t (fr.ev x) (fr.ev i) T=cJ pv t (fr.ev x) (fr.ev i) st:=by
   cases hx:fr.ev x with
   |win k v off len sz=>
    have hm:=HJ (hT k (by rw[hx];rfl)) v;simp only[cJ];cases fr.ev i<;>try rfl
    cases pv.db t with
    |none=>rfl
    |some td=>cases td<;>first|rfl|(simp only[hm])
   |_=>
    simp only[cJ];cases fr.ev i<;>try rfl
    cases pv.db t with
    |none=>rfl
    |some td=>cases td<;>rfl
  rw[this,hz];rfl
variable{cf:gO}
theorem Dl (h:NY o=true):ir pv cf fr st o=eS pv fr st o.op o.type:=by
 unfold ir
 split
 ·rename_i jD;simp[NY,jD,kJ] at h
 ·rfl
theorem Dr (h:I_ o=true):ir pv cf fr st o=eS pv fr st o.op o.type:=by
 unfold ir
 split
 ·rename_i jD;simp only[I_,jD,υ] at h
 ·rfl
def JU (fr:Fr) (ts:List Nat):Fr:=⟨0,[],ts.map fun t=>(t,fr.get t)⟩
theorem DM (f:Nat→D) (t:Nat):∀(ts:List Nat),look t (ts.map fun t=>(t,f t))=if t∈ts then f t else .bI
 |[]=>rfl
 |u::l=>by
  simp only[List.map_cons,look]
  by_cases h:t=u
  ·subst h;simp
  ·have:R2 t u=false:=by
    cases hb:R2 t u with
    |false=>rfl
    |true=>exact absurd (ZD hb) h
   rw[this,DM f t l];simp[h]
theorem tl (fr:Fr) (ts:List Nat) (t:Nat):(JU fr ts).get t=if t∈ts then fr.get t else .bI:=by
 simp only[JU,Fr.get,Qab];exact DM fr.get t ts
def TK (p:Option (Nat×Nat)) (bx:lu):lu:=
 match p,bx with
 |some _,.mem v a _=>.mem v a []
 |some _,.iter s q=>.iter s q
 |some _,.map es=>.map es
 |_,_=>.dead
def B1 (st:St) (β:Nat→Option (Nat×Nat)) (H:Nat→lu):St:=⟨(Qa1 st.bs.length).map fun k=>TK (β k) (H k),st.flr,st.ro⟩
theorem D5 {β:Nat→Option (Nat×Nat)} {H:Nat→lu} (h:k<st.bs.length):(B1 st β H).bs[k]?=some (TK (β k) (H k)):=by
 simp[B1,h]
theorem kM (st:St) (β:Nat→Option (Nat×Nat)) (H:Nat→lu):(B1 st β H).bs.length=st.bs.length:=by simp[B1]
variable{w:World}{x x':X}
theorem B0 {b base:Nat} {bx:lu} (h:lq w x b base bx) (p:Nat×Nat):lq w x' b base (TK (some p) bx)∧eB (TK (some p) bx)=eB bx:=by
 cases bx with
 |mem v a c=>
  obtain⟨c',el,fr,h1,h2,h3,_⟩:=h;exact⟨⟨c',el,fr,h1,by simp;omega,h3,fun j d hd=>by simp at hd⟩,rfl⟩
 |iter s q=>exact⟨h,rfl⟩
 |map e=>exact⟨h,rfl⟩
 |dead=>exact h.elim
def G5 (E:Nat→Bool) (j:Nat):Nat→Bool:=fun k=>E k||R2 k j
theorem mf (E:Nat→Bool) (j k:Nat):G5 E j k=true↔(E k=true∨k=j):=by
 simp[G5]
theorem VR.acf {N:Nat} (hZ:∀b,x.Z b→x'.Z b) (hv:∀k,x'.aE k=x.aE k) (hβ:∀k p,k<N→x.β k=some p→x'.β k=some p) {v:Value} (h:VR w x d v) (hr:d.ref≤N):VR w x' d v:=by
 induction h with
 |im d v h=>exact .im _ _ (h.mono fun b hb=>⟨hZ b hb,rfl⟩)
 |win k vr off len s a cap hc hk hm h=>
  simp only[wt] at hr;refine .win k vr off len s a cap hc (by obtain⟨p,hp⟩:=hk;exact⟨p,hβ k p (by omega) hp⟩) (fun c hc=>hm c (by rw[←hv];exact hc)) fun hc=>?_;obtain⟨b,base,sz,h1,h2⟩:=h (by rw[←hv];exact hc);exact⟨b,base,sz,hβ k _ (by omega) h1,h2⟩
 |ptr k vr off a hk hm h=>
  simp only[wt] at hr;refine .ptr k vr off a (by obtain⟨p,hp⟩:=hk;exact⟨p,hβ k p (by omega) hp⟩) (fun c hc=>hm c (by rw[←hv];exact hc)) fun hc=>?_;obtain⟨b,base,h1,h2⟩:=h (by rw[←hv];exact hc);exact⟨b,base,hβ k _ (by omega) h1,h2⟩
 |mp k r hk h=>
  simp only[wt] at hr;refine .mp k r (by obtain⟨p,hp⟩:=hk;exact⟨p,hβ k p (by omega) hp⟩) fun hc=>?_;obtain⟨base,h1⟩:=h (by rw[←hv];exact hc);exact⟨base,hβ k _ (by omega) h1⟩
 |fn f cs vs hl HV ih=>simp only[wt] at hr;exact .fn f cs vs hl fun i c v hc hv=>ih i c v hc hv (θ (cW (φ hc)) hr)
 |agg cs vs hl h1 HV ih=>simp only[wt] at hr;exact .agg cs vs hl h1 fun i c v hc hv=>ih i c v hc hv (θ (cW (φ hc)) hr)
 |tup cs vs hl HV ih=>simp only[wt] at hr;exact .tup cs vs hl fun i c v hc hv=>ih i c v hc hv (θ (cW (φ hc)) hr)
section
variable{pv:Pv} {P:Program} {cf:gO} (gF:lb P pv cf) {ops:Array Oper} {F:Nat→Fr} {S:Nat→St} {dd:Nat→D} (ht:Trace pv cf ops ops.toList F S dd)
include gF ht
theorem Qf {w:World} {sg:Nat→Nat} {β:Nat→Option (Nat×Nat)} {Z:Nat→Prop} {j m k b base:Nat} (hjm:j≤m) (hm:m≤ops.size) (h:lq w (Xm S sg β Z m) b base (Hs S sg k)) (he:(S j).bs[k]?=some (Hs S sg k)) (hs:rD (some k) (S j) (S m)=true):lq w (Xm S sg β Z j) b base (Hs S sg k):=by
 have hl:=(eF gF ht m j hjm hm).len;unfold rD at hs;simp only at hs
 split at hs
 ·rename_i hb;have hle:=ZD hb;have:Xm S sg β Z j=Xm S sg β Z m:=by simp only[Xm,hle]
  rw[this];exact h
 ·rw[he] at hs
  split at hs
  ·rename_i v ar c hc
   cases oK:Hs S sg k with
   |mem v' ar' c'=>
    rw[oK] at hc h;cases hc;have hr:=Cf hs;obtain⟨c',el,fr,h1,h2,h3,h4⟩:=h;refine⟨c',el,fr,h1,h2,h3,fun i d hd=>?_⟩;obtain⟨v,v1,v3,v2⟩:=h4 i d hd;refine⟨v,v1,v3,v2.acf (x:=Xm S sg β Z m) (x':=Xm S sg β Z j) (N:=(S j).bs.length) (fun _ hb=>hb) (fun _=>rfl) (fun k' p og hp=>?_) (θ (cW (φ hd)) hr)⟩;simp only[Xm] at hp⊢;rw[if_pos og]
    split at hp
    ·exact hp
    ·cases hp
   |_=>rw[oK] at hc;cases hc
  ·cases hs
end
section
variable{pv:Pv} {P:Program} (ok:pv.Ok P) {cf:gO} (gF:lb P pv cf) {ops:Array Oper} {F:Nat→Fr} {S:Nat→St} {dd:Nat→D} (ht:Trace pv cf ops ops.toList F S dd) {dy:List (Nat×Nat)} (sR:o9 pv ops dy=true) (jO:Still dy ops F S)
include ok gF ht sR jO
theorem DI.step {Q:Exit→Act→World→Prop} {a0 a:Act} {w0 w:World} {β0 β:Nat→Option (Nat×Nat)} {Z0 Z:Nat→Prop} {E:Nat→Bool} {sg:Nat→Nat} (h:DI pv ops F S dd a0 w0 β0 Z0 E a w β Z sg) (h0:jW w0 (S 0) β0 Z0)
  {j:Nat} {o:Oper} (ho:ops[j]?=some o) (hj:E j=false) (Gb:∀e∈o.after.toList,Zt .any e=true→E e.on=true) (B5:AV ops.toList a0.tmps.size)
  {K:Act→World→Prop} (hK:∀a' w' β' Z' Y8,DI pv ops F S dd a0 w0 β0 Z0 (G5 E j) a' w' β' Z' Y8→K a' w'):wpOp P ops Q j K a w:=by
 have D':j<ops.size:=by
  rcases η j ops.size with h'|h'
  ·exact h'
  ·rw[YQ h'] at ho;cases ho
 have hcl:pQ ops (G5 E j):=by
  intro k o' hk Pt e he hb
  rcases(mf E j k).1 hk with hk|rfl
  ·exact(mf E j _).2 (.inl (h.clo k o' hk Pt e he hb))
  ·rw[ho] at Pt;cases Pt;exact(mf E _ _).2 (.inl (Gb e he hb))
 have C1:∀i x,i<j→ops[i]?=some x→oN pv ops (listed dy i j) x o=true→E i=true:=by
  intro i x hi hx hc
  rcases(mf E j i).1 (qw sR hi hx ho hc hcl ((mf E j j).2 (.inr rfl))) with h'|h'
  ·exact h'
  ·omega
 have C2:∀i x,j<i→ops[i]?=some x→oN pv ops (listed dy j i) o x=true→E i=false:=by
  intro i x hi hx hc
  cases hE:E i with
  |false=>rfl
  |true=>have:=qw sR hi ho hx hc h.clo hE;rw[hj] at this;cases this
 have HY:∀i o' t,j<i→ops[i]?=some o'→o.dst=some t→o'.dst=some t→E i=false:=by
  intro i o' t hi Pt h1 h2;refine C2 i o' hi Pt ?_;simp[oN,Hr,h1,h2]
 have hdj:∀t,o.dst=some t→t<a.tmps.size:=fun t hd=>by
  rw[h.size];exact B5 o (by rw[←Θ] at ho;exact φ ho) t hd
 have hlw:∀t∈looks ops o,fP ops E t ops.size=fP ops (fun _=>true) t j:=by
  intro t mO
  refine xU fun i o' h1 h2=>⟨fun⟨_,hE⟩=>⟨?_,rfl⟩,fun⟨hi,_⟩=>⟨by omega,C1 i o' hi h1 (by simp[oN,Ch,h2,mO])⟩⟩
  rcases Q5 i j with h'|h'|h'
  ·exact h'
  ·subst h';rw[hj] at hE;cases hE
  ·have:=C2 i o' h' h1 (by simp[oN,Ch,h2,mO]);rw[this] at hE;cases hE
 have YS:=(eF gF ht j 0 (by omega) (by omega))
 have hNj:=(sa gF ht j D').1
 have T8:∀(T:St) (m:Nat),m≤j→T.bs.length=(S j).bs.length→(∀k p,k<(S j).bs.length→β k=some p→T.aE k=eB (Hs S sg k))→
   fq w (Xm S sg β Z m) w (T.x (fun k=>if k<(S j).bs.length then β k else none) Z):=by
  intro T m hm hT hv;refine(Iz gF ht hm (by omega)).trans ⟨fun k p hp=>⟨p,hp⟩,fun b hb=>⟨hb,rfl⟩,fun k c p hp hc=>⟨c,?_,μ _⟩,fun k c _ _ b base hb=>⟨hb,rfl⟩⟩;simp only[Xm] at hp⊢
  split at hp
  ·rename_i hk;rw[←hv k p hk hp];exact hc
  ·cases hp
 have hG:∀(T:St),T.bs.length=(S j).bs.length→(∀k p,k<(S j).bs.length→β k=some p→T.aE k=eB (Hs S sg k))→
   tE w (T.x (fun k=>if k<(S j).bs.length then β k else none) Z) (JU (F j) (looks ops o)) a.tmps:=by
  intro T hT hv t;rw[tl]
  split
  ·rename_i mO;have hf:=h.frame t;have ZK:=(tP ht t j (by omega)).1;have hl:=hlw t mO;simp only[val,TB,hl] at hf;rw[ZK];have s:=jh ops (fun _=>true) t j
   cases hq:fP ops (fun _=>true) t j with
   |none=>rw[hq] at hf;exact hf.mono (T8 T 0 (by omega) hT hv)
   |some i=>rw[hq] at hf s;exact hf.mono (T8 T (i+1) s.1 hT hv)
  ·exact .bI _ _ _
 have YU:aH ops (F j) o=aH ops (JU (F j) (looks ops o)) o:=CH fun t mO=>by rw[tl,if_pos mO]
 have hGo:∀st,ir pv cf (F j) st o=ir pv cf (JU (F j) (looks ops o)) st o:=fun st=>Dt fun t mO=>by rw[tl,if_pos mO]
 have LF:∀(T:St),T.bs.length=(S j).bs.length→T.flr=(S j).flr→T.ro=(S j).ro→(∀k p,k<(S j).bs.length→β k=some p→T.aE k=eB (Hs S sg k))→
   (∀k b base bx,k<(S j).bs.length→β k=some (b,base)→T.bs[k]?=some bx→lq w (T.x (fun k=>if k<(S j).bs.length then β k else none) Z) b base bx)→
   jW w T (fun k=>if k<(S j).bs.length then β k else none) Z:=by
  intro T hT mZ hr hv hb
  have cut:∀k p,(if k<(S j).bs.length then β k else none)=some p→k<(S j).bs.length∧β k=some p:=by
   intro k p hp
   split at hp
   ·exact⟨by assumption,hp⟩
   ·cases hp
  refine⟨fun k b base hk=>by rw[hT];exact(cut k _ hk).1,fun k b base hk=>h.lt k b base (cut k _ hk).2,fun k k' b x x' h1 h2=>h.inj k k' b x x' (cut k _ h1).2 (cut k' _ h2).2,fun k b base hk=>h.zd k b base (cut k _ hk).2,h.zl,
   fun k b base bx hk jm=>hb k b base bx (cut k _ hk).1 (cut k _ hk).2 jm,?_,?_⟩
  ·rw[mZ,hT,YS.flr];exact θ h0.flr YS.len
  ·rw[hr,hT,YS.ro];exact θ h0.ro YS.len
 have H8:∀k p,k<(S j).bs.length→β k=some p→(B1 (S j) β (Hs S sg)).aE k=eB (Hs S sg k):=by
  intro k p hk hp;simp only[LL,D5 hk,Ξ,hp];exact(B0 (x':=Xm S sg β Z 0) (h.box k p.1 p.2 hp) p).2
 have hTs:=LF (B1 (S j) β (Hs S sg)) (kM _ _ _) rfl rfl H8 fun k b base bx hk hp jm=>by
  rw[D5 hk] at jm;cases jm;rw[hp];exact(B0 (h.box k b base hp) _).1
 have hollow:∀(T T':St) (w':World) (βl:Nat→Option (Nat×Nat)) (Zl:Nat→Prop) (v:Value),T.bs.length=(S j).bs.length→T.ro=(S j).ro→(∀k p,k<(S j).bs.length→β k=some p→T.aE k=eB (Hs S sg k))→¬gQ pv ops F j→
   ((S (j+1)=S j∧T'=T)∨∃ar cs,S (j+1)=(S j).push (.mem 0 ar cs)∧T'=T.push (.mem 0 ar cs))→
   Nx w T (fun k=>if k<(S j).bs.length then β k else none) Z w' T' βl Zl→VR w' (T'.x βl Zl) (dd j) v→Quiet w w'→K (a.put o.dst v) w':=by
  intro T T' w' βl Zl v AF aa0 H8 hne We hn hv hq;obtain⟨m,yf,D9,B2⟩:=LH (fun i=>E i=true∧gQ pv ops F i) (j+1) ops.size
  have Kd:m≤ops.size:=by rcases B2 with rfl|⟨i,q1,_,rfl⟩<;>omega
  have j7:T'.bs.length=(S (j+1)).bs.length:=by
   rcases We with⟨e1,e2⟩|⟨ar,cs,e1,e2⟩
   ·rw[e1,e2,AF]
   ·rw[e1,e2];simp[P8,AF]
  have lk:∀k p,βl k=some p→k<(S (j+1)).bs.length:=fun k p hp=>by rw[←j7];exact hn.sim.dom k p.1 p.2 hp
  have Rv:∀k p,k<(S j).bs.length→βl k=some p→∃q,β k=some q:=by
   intro k p hk hp
   cases hβ:β k with
   |some q=>exact⟨q,rfl⟩
   |none=>
    have:=(hn.Dv k (by rw[AF];exact hk) (by simp only[if_pos hk];exact hβ)).1;rw[hp] at this;cases this
  have Uo:∀k p,βl k=some p→(S j).bs.length≤k→T'.bs[k]?=some (Hs S (iG pv ops F S j m sg) k):=by
   intro k p hp hk;have rj:=lk k p hp
   have hβ:β k=none:=by
    cases hb:β k with
    |none=>rfl
    |some q=>have:=h.cr k q hb j D' hk rj;rw[hj] at this;cases this
   have vL:iG pv ops F S j m sg k=m:=by simp only[iG];rw[if_pos ⟨rj,.inr hk⟩]
   have jO:=na gF ht m yf Kd k rj fun q Kc tI=>by
    by_cases he:gQ pv ops F q
    ·right;refine h.ph k hβ q ?_ he (ξ rj (eF gF ht q (j+1) Kc (by omega)).len)
     rcases B2 with rfl|⟨i,q1,⟨q2,q3⟩,rfl⟩
     ·omega
     ·rcases η q i with h'|h'
      ·obtain⟨o1,p1,p2,_⟩:=he;obtain⟨o2,r1,r2,_⟩:=q3;obtain⟨Js,R8⟩:=rT r2;exact qw sR h' p1 r1 (by simp[oN,p2,Js,R8]) h.clo q2
      ·have:q=i:=by omega
       rw[this];exact q2
    ·exact .inl he
   rcases We with⟨e1,e2⟩|⟨ar,cs,e1,e2⟩
   ·rw[e1] at rj;omega
   ·have hkk:k=(S j).bs.length:=by rw[e1] at rj;simp[P8] at rj;omega
    have g1:(S (j+1)).bs[k]?=some (.mem 0 ar cs):=by rw[e1,hkk];simp[P8]
    have g2:T'.bs[k]?=some (.mem 0 ar cs):=by rw[e2,hkk];simp[P8,AF]
    simp only[Hs,vL];rw[g2,jO,g1];rfl
  refine hK _ _ _ _ _ (h.put gF ht hj ho (mf E j) Gb HY hdj h0.ro hn AF j7 aa0 hv H8 yf Kd (fun i h1 h2=>D9 i (h.bnd i h1) ⟨h1,h2⟩) ?_ ?_ ?_ (fun _=>hq) fun he=>absurd he hne)
  ·rcases B2 with h'|⟨i,_,⟨q2,q3⟩,q4⟩
   ·exact .inl h'
   ·exact .inr ⟨i,q2,q3,q4⟩
  ·intro k p hp
   by_cases hk:k<(S j).bs.length
   ·obtain⟨q,sU⟩:=Rv k p hk hp
    have vL:iG pv ops F S j m sg k=sg k:=by
     simp only[iG];rw[if_neg];rintro⟨_,h'|h'⟩
     ·exact hne h'
     ·omega
    simp only[Hs,vL];have:=H8 k q hk sU;simp only[Hs] at this;rw[←this]
    have hg:T'.bs[k]?=T.bs[k]?:=by
     rcases We with⟨_,e2⟩|⟨ar,cs,_,e2⟩
     ·rw[e2]
     ·rw[e2];simp only[P8];rw[τ (by rw[AF];exact hk)]
    simp only[LL,hg]
   ·have:=Uo k p hp (by omega);simp only[LL,this,Ξ]
  ·intro k b base hp hc
   rcases hc with hc|hc
   ·exact absurd hc hne
   ·exact hn.sim.box k b base _ hp (Uo k _ hp hc)
 unfold wpOp;simp only[ho]
 rcases ht.step j o (by simpa using ho) with⟨hw,jD⟩|⟨hw,hd,hs⟩
 ·rw[YU] at hw;rw[vV (hG _ (kM _ _ _) H8) hw];simp only[if_true];left;rw[hGo] at jD
  cases Js:I_ o with
  |true=>
   have he:=Lg (pv:=pv) Js
   have hne:¬gQ pv ops F j:=by
    rintro⟨o',h1,h2,_⟩;rw[ho] at h1;cases h1;rw[he] at h2;cases h2
   rw[Dr Js] at jD;obtain⟨T',Wd,We⟩:=Ll Js jD (B1 (S j) β (Hs S sg)) (kM _ _ _);rw[←Dr (cf:=cf) Js] at Wd;exact wk ok gF hTs (hG _ (kM _ _ _) H8) Wd fun v w' β' Z' hn hv hq=>hollow (B1 (S j) β (Hs S sg)) T' w' β' Z' v (kM _ _ _) rfl H8 hne We hn hv (hq he)
  |false=>
   cases vM:NY o with
   |true=>
    have hne:¬gQ pv ops F j:=by
     rintro⟨o',h1,h2,_⟩;rw[ho] at h1;cases h1;rw[(rT h2).2] at vM;cases vM
    obtain⟨ad,B_⟩:∃ad,kJ o.op=some ad:=by
     unfold NY at vM
     cases hq:kJ o.op with
     |none=>rw[hq] at vM;cases vM
     |some x=>exact⟨x,rfl⟩
    have hjw:aH ops (F j) o=some true:=by rw[YU];exact hw
    have Wa:(JU (F j) (looks ops o)).ev ad=(F j).ev ad:=by
     refine(Eu (ts:=looks ops o) (fun t mO=>by rw[tl,if_pos mO]) fun t e=>?_);subst e;refine Qaa _ (rK ?_);cases aan:o.op<;>rw[aan] at B_<;>simp only[kJ,VT.injEq,reduceCtorEq] at B_<;>subst B_<;>simp[Ω]
    have place:∀k,((F j).ev ad).rU=some k→∃p,β k=some p∧k<(S j).bs.length:=by
     intro k hk;have hv:=AQ (hG _ (kM _ _ _) H8) ad;rw[Wa] at hv
     have cut:(∃p,(if k<(S j).bs.length then β k else none)=some p)→∃p,β k=some p∧k<(S j).bs.length:=by
      rintro⟨p,hp⟩
      split at hp
      ·exact⟨p,hp,by assumption⟩
      ·cases hp
     cases hd:(F j).ev ad with
     |ptr k' v off=>
      rw[hd] at hk hv;simp only[D.rU,VT.injEq] at hk;subst hk;obtain⟨_,_,hp,_⟩:=dx hv;exact cut hp
     |win k' v off len sz=>
      rw[hd] at hk hv;simp only[D.rU,VT.injEq] at hk;subst hk;obtain⟨_,_,_,_,hp,_⟩:=gS hv;exact cut hp
     |_=>rw[hd] at hk;simp[D.rU] at hk
    have same:∀k,((F j).ev ad).rU=some k→(S j).bs[k]?=some (Hs S sg k)∧(sg k≤j∨rD (some k) (S j) (S (sg k))=true):=by
     intro k hk;obtain⟨p,hp,oe⟩:=place k hk;obtain⟨d1,d2,d3⟩:=h.dom k p hp
     have fin:(S j).bs[k]?=(S (sg k)).bs[k]?:=by
      rcases Nat.le_total (sg k) j with hle|hle
      ·refine na gF ht j hle (by omega) k d1 fun q Kc tI=>?_
       by_cases he:gQ pv ops F q
       ·right;have Sw:k<(S q).bs.length:=ξ d1 (eF gF ht q (sg k) Kc (by omega)).len
        have hEq:E q=false:=by
         cases hE:E q with
         |false=>rfl
         |true=>have:=h.sg2 k p hp q hE he Sw;omega
        obtain⟨x,x1,x2,x3⟩:=he
        have hl:listed dy q j=true:=by
         cases hl:listed dy q j with
         |true=>rfl
         |false=>have:=C1 q x tI x1 (by simp[oN,x2,Js,hl]);rw[hEq] at this;cases this
        exact(jO j q o ad k x ho B_ hjw hk x1 (rT x2).2 x3 (fun _=>hl) (fun h'=>by omega)).1
       ·exact .inl he
      ·rcases Qap hle with heq|hlt
       ·rw[heq]
       rcases d3 with d3|⟨j',q1,q2,q3⟩
       ·omega
       have Gk:gQ pv ops F j':=by
        rcases q3 with q3|q3
        ·exact q3
        ·have:=(eF gF ht j' j (by omega) (by have:=h.bnd j' q1;omega)).len;omega
       symm
       refine na gF ht (sg k) hle d2 k oe fun q Kc tI=>?_
       by_cases he:gQ pv ops F q
       ·right
        have hqj:j<q:=by
         rcases Qap Kc with h'|h'
         ·subst h';exact absurd he hne
         ·exact h'
        have hEq:E q=true:=by
         rcases η q j' with h'|h'
         ·obtain⟨x,x1,x2,_⟩:=he;obtain⟨y,y1,y2,_⟩:=Gk;obtain⟨n1,n2⟩:=rT y2;exact qw sR h' x1 y1 (by simp[oN,x2,n1,n2]) h.clo q1
         ·have:q=j':=by omega
          rw[this];exact q1
        obtain⟨x,x1,x2,x3⟩:=he
        have hl:listed dy j q=true:=by
         cases hl:listed dy j q with
         |true=>rfl
         |false=>have:=C2 q x hqj x1 (by simp[oN,x2,Js,hl]);rw[hEq] at this;cases this
        exact(jO j q o ad k x ho B_ hjw hk x1 (rT x2).2 x3 (fun h'=>by omega) (fun _=>hl)).1
       ·exact .inl he
     refine⟨?_,?_⟩
     ·rw[fin,ζ d1];simp only[Hs];rw[ζ d1];rfl
     ·rcases η j (sg k) with hlt|hge
      ·right
       rcases d3 with d3|⟨j',q1,q2,q3⟩
       ·omega
       have Gk:gQ pv ops F j':=by
        rcases q3 with q3|q3
        ·exact q3
        ·have:=(eF gF ht j' j (by omega) (by have:=h.bnd j' q1;omega)).len;omega
       have hjj:j<j':=by
        rcases η j j' with h'|h'
        ·exact h'
        ·have:j=j':=by omega
         subst this;exact absurd Gk hne
       obtain⟨x,x1,x2,x3⟩:=Gk
       have hl:listed dy j j'=true:=by
        cases hl:listed dy j j' with
        |true=>rfl
        |false=>have:=C2 j' x hjj x1 (by simp[oN,x2,Js,hl]);rw[q1] at this;cases this
       have:=(jO j j' o ad k x ho B_ hjw hk x1 (rT x2).2 x3 (fun h'=>by omega) (fun _=>hl)).2 hjj;rw[q2];exact this
      ·exact .inl hge
    let T:St:=⟨(Qa1 (S j).bs.length).map fun k=>if((F j).ev ad).rU=some k then Hs S sg k else TK (β k) (Hs S sg k),(S j).flr,(S j).ro⟩
    have Tl:T.bs.length=(S j).bs.length:=by simp[T]
    have Tg:∀k,k<(S j).bs.length→T.bs[k]?=some (if((F j).ev ad).rU=some k then Hs S sg k else TK (β k) (Hs S sg k)):=by
     intro k hk;simp[T,hk]
    have Tv:∀k p,k<(S j).bs.length→β k=some p→T.aE k=eB (Hs S sg k):=by
     intro k p hk hp;simp only[LL,Tg k hk,Ξ]
     split
     ·rfl
     ·rw[hp];exact(B0 (x':=Xm S sg β Z 0) (h.box k p.1 p.2 hp) p).2
    have Ts:=LF T Tl rfl rfl Tv fun k b base bx hk hp jm=>by
     rw[Tg k hk] at jm;cases jm
     split
     ·rename_i hbk;obtain⟨e1,e2⟩:=same k hbk;have jm:=h.box k b base hp
      rcases η j (sg k) with hlt|hge
      ·refine lq.cw ?_ (T8 T j (μ _) Tl Tv) rfl;exact Qf gF ht (by omega) (h.dom k _ hp).2.1 jm e1 (e2.resolve_left (by omega))
      ·exact jm.cw (T8 T (sg k) hge Tl Tv) rfl
     ·rw[hp];exact(B0 (h.box k b base hp) _).1
    rw[Dl vM] at jD;obtain⟨hSS,hTT⟩:=Ru B_ jD
    have Wd:=hTT T fun k hk=>by
     rw[Wa] at hk;obtain⟨p,hp,oe⟩:=place k hk;rw[Tg k oe,if_pos hk,(same k hk).1]
    rw[←Dl (cf:=cf) vM] at Wd
    exact wk ok gF Ts (hG _ Tl Tv) Wd fun v w' β' Z' hn hv hq=>hollow T T w' β' Z' v Tl rfl Tv hne (.inl ⟨hSS,rfl⟩) hn hv (hq (by
     cases he:iC pv o with
     |false=>rfl
     |true=>rw[(rT he).2] at vM;cases vM))
   |false=>
    have sb:∀k p,β k=some p→k<(S j).bs.length→sg k≤j∧Hs S sg k=((S j).bs[k]?).getD .dead∧(S j).bs[k]?=some (Hs S sg k):=by
     intro k p hk oe;refine C5 gF ht h (by omega) (fun i hi he=>?_) (fun i hi he=>?_) hk oe
     ·obtain⟨x,h1,h2,_⟩:=he;exact C1 i x hi h1 (by simp[oN,h2,Js,vM])
     ·rcases η j i with h'|h'
      ·obtain⟨x,h1,h2,_⟩:=he;exact C2 i x h' h1 (by simp[oN,h2,Js,vM])
      ·have:i=j:=by omega
       rw[this];exact hj
    have YR:∀k p,k<(S j).bs.length→β k=some p→(S j).aE k=eB (Hs S sg k):=fun k p hk hp=>by simp only[LL,(sb k p hp hk).2.2,Ξ]
    have hSs:=LF (S j) rfl rfl rfl YR fun k b base bx hk hp jm=>by
     obtain⟨s1,_,s3⟩:=sb k _ hp hk;rw[s3] at jm;cases jm;exact(h.box k b base hp).cw (T8 (S j) (sg k) s1 rfl YR) rfl
    refine wk ok gF hSs (hG _ rfl YR) jD fun v w' β' Z' hn hv hq=>?_;have lk:∀k p,β' k=some p→k<(S (j+1)).bs.length:=fun k p hp=>hn.sim.dom k p.1 p.2 hp
    have Rv:∀k p,k<(S j).bs.length→β' k=some p→∃q,β k=some q:=by
     intro k p hk hp
     cases hβ:β k with
     |some q=>exact⟨q,rfl⟩
     |none=>
      have:=(hn.Dv k hk (by simp only[if_pos hk];exact hβ)).1;rw[hp] at this;cases this
    have same:∀k p,β' k=some p→(S (j+1)).bs[k]?=some (Hs S (iG pv ops F S j (j+1) sg) k):=by
     intro k p hp;have rj:=lk k p hp
     by_cases hc:gQ pv ops F j∨(S j).bs.length≤k
     ·have vL:iG pv ops F S j (j+1) sg k=j+1:=by simp only[iG];rw[if_pos ⟨rj,hc⟩]
      simp only[Hs,vL];rw[ζ rj];rfl
     ·have vL:iG pv ops F S j (j+1) sg k=sg k:=by simp only[iG];rw[if_neg fun h'=>hc h'.2]
      have hk:k<(S j).bs.length:=by
       rcases η k (S j).bs.length with h'|h'
       ·exact h'
       ·exact absurd (.inr h') hc
      obtain⟨q,sU⟩:=Rv k p hk hp;have:=(sa gF ht j D').2 (fun h'=>hc (.inl h')) k hk;rw[this,(sb k q sU hk).2.2];simp only[Hs,vL]
    refine hK _ _ _ _ _ (h.put gF ht hj ho (mf E j) Gb HY hdj h0.ro hn rfl rfl rfl hv YR (μ _) (by omega) (fun i h1 h2=>?_) (.inl rfl) (fun k p hp=>by simp only[LL,same k p hp,Ξ]) (fun k b base hp _=>hn.sim.box k b base _ hp (same k _ hp)) (fun hne=>hq ?_) fun _=>⟨rfl,rfl⟩)
    ·rcases η j i with h'|h'
     ·obtain⟨x,p1,p2,_⟩:=h2;have:=C2 i x h' p1 (by simp[oN,p2,Js,vM]);rw[this] at h1;cases h1
     ·omega
    ·cases he:iC pv o with
     |false=>rfl
     |true=>exact absurd ⟨o,ho,he,by rw[YU];exact hw⟩ hne
 ·have ZE:=hw;rw[YU] at hw;rw[vV (hG _ (kM _ _ _) H8) hw];simp only[υ,if_false]
  have hne:¬gQ pv ops F j:=by
   rintro⟨o',h1,_,h3⟩;rw[ho] at h1;cases h1;rw[ZE] at h3;cases h3
  exact hollow (B1 (S j) β (Hs S sg)) _ w _ Z undef (kM _ _ _) rfl H8 hne (.inl ⟨hs,rfl⟩) (Φ hTs) (by rw[hd];exact .im _ _ (.tup [] [] rfl (by simp))) (Γ _)
end
end Go.V
namespace Go.V
open Go.RowKit
theorem count_set:∀(l:List Bool) (i:Nat),l[i]?=some false→(l.set i true).count false+1=l.count false
 |[],i,h=>by simp at h
 |b::l,0,h=>by simp at h;subst h;simp
 |b::l,i+1,h=>by
  have:=count_set l i (by simpa using h);simp only[List.set_cons_succ,List.count_cons];omega
theorem GM {l:List Bool} (h:l.count false=0) (i:Nat) (hi:i<l.length):l[i]?=some true:=by
 rw[List.count_eq_zero] at h;rw[ζ hi]
 cases hb:l[i] with
 |true=>rfl
 |false=>exact absurd (hb▸List.getElem_mem hi) h
section
variable{pv:Pv} {P:Program} (ok:pv.Ok P) {cf:gO} (gF:lb P pv cf) {ops:Array Oper} {F:Nat→Fr} {S:Nat→St} {dd:Nat→D} (ht:Trace pv cf ops ops.toList F S dd) {dy:List (Nat×Nat)} (sR:o9 pv ops dy=true) (jO:Still dy ops F S)
include gF ht
variable{a:Act}{w:World}{β:Nat→Option (Nat×Nat)}{Z:Nat→Prop}{E:Nat→Bool}
theorem DI.start (h:jW w (S 0) β Z) (hf:tE w ((S 0).x β Z) (F 0) a.tmps) (hE:∀k,E k=false):DI pv ops F S dd a w β Z E a w β Z (fun _=>0):=by
 have ne:∀{k:Nat},E k=true→False:=fun hk=>by rw[hE] at hk;cases hk
 have kp:∀m,m≤ops.size→fq w ((S 0).x β Z) w (Xm S (fun _=>0) β Z m):=by
  intro m hm;have hl:=(eF gF ht m 0 (by omega) hm).len
  have key:∀k p,β k=some p→(Xm S (fun _=>0) β Z m).β k=some p:=by
   intro k p hp;have:=h.dom k p.1 p.2 hp;simp only[Xm];rw[if_pos (by omega)];exact hp
  refine⟨fun k p hp=>⟨p,key k p hp⟩,fun b hb=>⟨hb,rfl⟩,fun k c p hp hc=>⟨c,?_,μ _⟩,fun k c _ _ b base hb=>⟨key k _ hb,rfl⟩⟩;simp only[Xm,Hs] at hc;simp only[cg,LL]
  cases hk:(S 0).bs[k]? with
  |none=>rw[hk] at hc;cases hc
  |some bx=>rw[hk] at hc;exact hc
 have lw:∀t,fP ops E t ops.size=none:=by
  intro t;have s:=jh ops E t ops.size
  cases hl:fP ops E t ops.size with
  |none=>rfl
  |some j=>rw[hl] at s;exact(ne s.2.1).elim
 refine⟨rfl,rfl,fun k o hk=>(ne hk).elim,fun k hk=>(ne hk).elim,fun k p hp=>⟨h.dom k p.1 p.2 hp,YH _,.inl rfl⟩,fun k p hp i hi h1 h2=>?_,fun k p _ j hj=>(ne hj).elim,fun k _ j hj=>(ne hj).elim,h.lt,h.inj,h.zd,h.zl,fun k b base hb=>?_,fun t=>?_,IA.refl _ _,kp _ (μ _),
  fun k b base hb=>.inl ⟨base,hb⟩,fun b hb=>.inl hb,fun _ _=>rfl,fun _ _ h=>h⟩
 ·have h3:=h.dom k p.1 p.2 hp;have:=(eF gF ht i 0 (by omega) (by omega)).len;omega
 ·have hk:=h.dom k b base hb;refine(h.box k b base _ hb ?_).cw (kp 0 (YH _)) rfl;simp only[Hs];rw[ζ hk];rfl
 ·simp only[TB,val,lw t];exact(hf t).mono (kp 0 (YH _))
variable{a0:Act}{w0:World}{β0:Nat→Option (Nat×Nat)}{Z0:Nat→Prop}
theorem DI.finish {sg:Nat→Nat} (h:DI pv ops F S dd a0 w0 β0 Z0 E a w β Z sg) (h0:jW w0 (S 0) β0 Z0) (hE:∀k,k<ops.size→E k=true):
  Nx w0 (S 0) β0 Z0 w (S ops.size) β Z∧tE w ((S ops.size).x β Z) (F ops.size) a.tmps:=by
 have hg:=eF gF ht ops.size 0 (YH _) (μ _)
 have acb:∀j,gQ pv ops F j→j<ops.size:=by
  rintro j ⟨o,ho,_⟩
  rcases η j ops.size with h'|h'
  ·exact h'
  ·rw[YQ h'] at ho;cases ho
 have hdm:∀k p,β k=some p→k<(S ops.size).bs.length:=by
  intro k p hp;obtain⟨h1,h2,_⟩:=h.dom k p hp;exact ξ h1 (eF gF ht ops.size (sg k) h2 (μ _)).len
 have sb:∀k p,β k=some p→sg k≤ops.size∧Hs S sg k=((S ops.size).bs[k]?).getD .dead∧(S ops.size).bs[k]?=some (Hs S sg k):=fun k p hk=>
  C5 gF ht h (μ _) (fun j hj _=>hE j hj) (fun j hj he=>by have:=acb j he;omega) hk (hdm k p hk)
 have kx:∀m,m≤ops.size→fq w (Xm S sg β Z m) w ((S ops.size).x β Z):=by
  intro m hm
  have key:∀k p,(Xm S sg β Z m).β k=some p→β k=some p:=by
   intro k p hp;simp only[Xm] at hp
   split at hp
   ·exact hp
   ·cases hp
  refine⟨fun k p hp=>⟨p,key k p hp⟩,fun b hb=>⟨hb,rfl⟩,fun k c p hp hc=>⟨c,?_,μ _⟩,fun k c _ _ b base hb=>⟨key k _ hb,rfl⟩⟩;simp only[cg,LL,(sb k p (key k p hp)).2.2,Ξ] at hc;exact hc
 refine⟨⟨⟨fun k b base hb=>hdm k _ hb,h.lt,h.inj,h.zd,h.zl,fun k b base bx hb jm=>?_,?_,?_⟩,h.keeps.trans (kx _ (μ _)),h.evo,h.fresh,h.zfresh,hg.len,hg.flr,hg.ro,fun k hk=>⟨hg.low k hk (ξ hk h0.ro),h.low k hk⟩,fun k hk D_=>⟨h.Dv k hk D_,?_⟩⟩,fun t=>?_⟩
 ·obtain⟨s1,_,s3⟩:=sb k _ hb;rw[s3] at jm;cases jm;exact(h.box k b base hb).cw (kx _ s1) rfl
 ·rw[hg.flr];exact θ h0.flr hg.len
 ·rw[hg.ro];exact θ h0.ro hg.len
 ·refine na gF ht ops.size (YH _) (μ _) k hk fun q _ hq=>?_
  by_cases he:gQ pv ops F q
  ·exact .inr (h.ph k (h.Dv k hk D_) q (hE q hq) he (ξ hk (eF gF ht q 0 (by omega) (by omega)).len))
  ·exact .inl he
 ·have hl:fP ops E t ops.size=fP ops (fun _=>true) t ops.size:=xU fun i o h1 _=>⟨fun⟨hi,_⟩=>⟨hi,rfl⟩,fun⟨hi,_⟩=>⟨hi,hE i hi⟩⟩
  have hf:=h.frame t;have ZK:=(tP ht t ops.size (μ _)).1;have s:=jh ops (fun _=>true) t ops.size;simp only[val,TB,hl] at hf;rw[ZK]
  cases hq:fP ops (fun _=>true) t ops.size with
  |none=>rw[hq] at hf;exact hf.mono (kx 0 (YH _))
  |some i=>rw[hq] at hf s;exact hf.mono (kx (i+1) s.1)
include ok sR jO
theorem DI.all {Q:Exit→Act→World→Prop} (h0:jW w0 (S 0) β0 Z0) (B5:AV ops.toList a0.tmps.size) (K:∀a' w' β' Z',Nx w0 (S 0) β0 Z0 w' (S ops.size) β' Z'→tE w' ((S ops.size).x β' Z') (F ops.size) a'.tmps→a'.defers=a0.defers→a'.tmps.size=a0.tmps.size→Q .normal a' w'):
  ∀(fuel:Nat) (listed:Array Bool) (a:Act) (w:World) (β:Nat→Option (Nat×Nat)) (Z:Nat→Prop) (sg:Nat→Nat),listed.size=ops.size→listed.toList.count false=fuel→
   DI pv ops F S dd a0 w0 β0 Z0 (fun k=>listed.getD k false) a w β Z sg→wpAny P .any ops Q fuel listed a w:=by
 have fin:∀(listed:Array Bool) (a:Act) (w:World) (β:Nat→Option (Nat×Nat)) (Z:Nat→Prop) (sg:Nat→Nat),DI pv ops F S dd a0 w0 β0 Z0 (fun k=>listed.getD k false) a w β Z sg→(∀k,k<ops.size→listed.getD k false=true)→Q .normal a w:=by
  intro listed a w β Z sg h s9;obtain⟨h1,h2⟩:=h.finish gF ht h0 s9;exact K a w β Z h1 h2 h.defers h.size
 intro fuel
 induction fuel with
 |zero=>
  intro listed a w β Z sg hsz hc h
  have s9:∀k,k<ops.size→listed.getD k false=true:=by
   intro k hk;have:=GM hc k (by simpa[hsz] using hk);rw[Θ] at this;simp[κ,this]
  refine⟨?_,fin listed a w β Z sg h s9⟩;rw[List.eq_nil_iff_forall_not_mem];intro j hj;rw[mem_ready] at hj;obtain⟨h1,o,ho,_⟩:=hj;have D':=(IT.1 ho).1;have:=s9 j D';have oH:j<listed.size:=by omega
  simp only[κ,ς oH,bU] at h1 this;rw[h1] at this;cases this
 |succ fuel ih=>
  intro listed a w β Z sg hsz hc h;refine⟨fun Mk=>fin listed a w β Z sg h ?_,fun j hj=>?_⟩
  ·intro k
   induction k using Qb0 with
   |_ k ihk=>
    intro hk
    cases hb:listed.getD k false with
    |true=>rfl
    |false=>
     have kq:k<listed.size:=by omega
     have:k∈Region.ready .any ops listed:=by
      rw[mem_ready];refine⟨by simp only[κ,ς kq,bU] at hb⊢;exact hb,ops[k],ς hk,fun e he hbd=>?_⟩;have hlt:=FK sR (ς hk) (by simpa using he) hbd;exact ihk e.on hlt (by omega)
     rw[Mk] at this;cases this
  ·rw[mem_ready] at hj;obtain⟨h1,o,ho,h2⟩:=hj;have D':=(IT.1 ho).1;have oH:j<listed.size:=by omega
   have hjf:listed[j]?=some false:=by
    simp only[κ,ς oH,bU] at h1;rw[ς oH,h1]
   refine h.step ok gF ht sR jO h0 ho (by simp[κ,hjf]) (fun e he hb=>h2 e (by simpa using he) hb) B5 fun a' w' β' Z' Y8 h'=>ih _ a' w' β' Z' Y8 (by simp[hsz]) ?_ ?_
   ·have:=count_set listed.toList j (by rw[Θ];exact hjf);rw[Array.toList_setIfInBounds];omega
   ·have he:(fun k=>(listed.setIfInBounds j true).getD k false)=G5 (fun k=>listed.getD k false) j:=by
     funext k
     by_cases oe:j=k
     ·subst oe;simp[G5,oH]
     ·rw[getD_set_ne false oe]
      have:R2 k j=false:=by
       cases hb:R2 k j with
       |false=>rfl
       |true=>exact absurd (ZD hb).symm oe
      simp[G5,this]
    rw[he];exact h'
end
variable{ops:Array Oper}
theorem IL {F:Nat→Fr} {S:Nat→St}:Still [] ops F S:=by
 intro r q y a k x hy ha hw hk hx RL hwx h1 h2
 rcases Q5 q r with h'|h'|h'
 ·have:=h1 h';simp[listed] at this
 ·subst h';rw[hx] at hy;cases hy;unfold NY at RL;rw[ha] at RL;cases RL
 ·have:=h2 h';simp[listed] at this
variable{pv:Pv}{cf:gO}{dy:List (Nat×Nat)}{fr aM:Fr}{st ai:St}
theorem I6 (h:Dh pv cf ops dy fr st=some (aM,ai)):
  ∃(F:Nat→Fr) (S:Nat→St) (dd:Nat→D),F 0=fr∧S 0=st∧F ops.size=aM∧S ops.size=ai∧Trace pv cf ops ops.toList F S dd∧Still dy ops F S:=by
 unfold Dh at h
 split at h
 ·obtain⟨F,S,dd,Wj,S0,S6,SZ,ht⟩:=trace ops.toList fr st aM ai h;rw[IN] at S6 SZ;exact⟨F,S,dd,Wj,S0,S6,SZ,ht,IL⟩
 ·obtain⟨F,S,dd,Wj,S0,S6,SZ,ht,hl⟩:=Kv ops.toList 0 [] fr st aM ai rfl h;rw[IN] at S6 SZ;exact⟨F,S,dd,Wj,S0,S6,SZ,ht,KD hl⟩
theorem xt {pv:Pv} {cf:gO} {ops:Array Oper} {dy:List (Nat×Nat)}:∀(l:List Oper) (j:Nat) (log:Log) (fr:Fr) (st:St) (r:Fr×St),vI pv cf ops dy j log l fr st=some r→mi pv cf ops l fr st=some r
 |[],j,log,fr,st,r,h=>by simpa only[vI,mi] using h
 |o::l,j,log,fr,st,r,h=>by
  simp only[vI] at h;simp only[mi]
  cases hw:aH ops fr o with
  |none=>rw[hw] at h;cases h
  |some b=>
   rw[hw] at h
   cases b with
   |true=>
    simp only at h⊢
    cases jD:ir pv cf fr st o with
    |none=>rw[jD] at h;cases h
    |some q=>
     obtain⟨d,st1⟩:=q;rw[jD] at h;simp only at h⊢
     cases hc:Nu dy j log o fr st st1 with
     |true=>rw[hc] at h;exact xt l _ _ _ _ _ h
     |false=>rw[hc] at h;cases h
   |false=>simp only at h⊢;exact xt l _ _ _ _ _ h
theorem Dg {r:Fr×St} (h:Dh pv cf ops dy fr st=some r):mi pv cf ops ops.toList fr st=some r:=by
 unfold Dh at h
 split at h
 ·exact h
 ·exact xt _ _ _ _ _ _ h
theorem P_ {P:Program} (ok:pv.Ok P) (gF:lb P pv cf) {id:Nat} (sR:o9 pv ops dy=true) (hs:Dh pv cf ops dy fr st=some (aM,ai)) {w:World} {β:Nat→Option (Nat×Nat)} {Z:Nat→Prop} (h:jW w st β Z) {a:Act} (hf:tE w (st.x β Z) fr a.tmps) (hd:AV ops.toList a.tmps.size) {Q:Exit→Act→World→Prop} (K:∀a' w' β' Z',Nx w st β Z w' ai β' Z'→tE w' (ai.x β' Z') aM a'.tmps→a'.defers=a.defers→a'.tmps.size=a.tmps.size→Q .normal a' w'):(Code.region id ops true).wp P Q a w:=by
 obtain⟨F,S,dd,Wj,S0,S6,SZ,ht,jO⟩:=I6 hs;refine wp_region_any ok.mixed ?_;have hn:Nx w st β Z {w with drawn:=w.drawn+1} st β Z:=Qbf h rfl rfl rfl rfl;have h0:jW {w with drawn:=w.drawn+1} (S 0) β Z:=by rw[S0];exact hn.sim
 have TQ:tE {w with drawn:=w.drawn+1} ((S 0).x β Z) (F 0) a.tmps:=by rw[S0,Wj];exact hf.mono hn.keeps
 refine DI.all ok gF ht sR jO h0 hd (fun a' w' β' Z' Mm y9 h1 h2=>?_) ops.size _ a _ β Z (fun _=>0) (by simp) (by simp) (DI.start gF ht h0 TQ fun k=>?_)
 ·rw[SZ] at Mm y9;rw[S6] at y9;rw[S0] at Mm;exact K a' w' β' Z' (hn.trans Mm) y9 h1 h2
 ·simp only[κ,Qa3]
  split<;>rfl
end Go.V
namespace Go.V
open Go.RowKit
def Out.ex:Out→Exit
 | .next=>.normal
 | .exit id=>.exit id
 | .ret=>.ret
def codeOk (pv:Pv) (dyn:List (Nat×List (Nat×Nat))) (n:Nat):Code→Bool
 | .region id ops d=>(ops.toList.all fun o=>match o.dst with|some t=>Qac t n|none=>true) &&(!d||o9 pv ops (kf id dyn))
 | .seq a b=>codeOk pv dyn n a &&codeOk pv dyn n b
 | .cond _ a b=>codeOk pv dyn n a &&codeOk pv dyn n b
 | .block _ c=>codeOk pv dyn n c
 | .loop c=>codeOk pv dyn n c
 |_=>true
theorem Ez {l:List Oper} {n:Nat} (h:(l.all fun o=>match o.dst with|some t=>Qac t n|none=>true)=true):AV l n:=by
 intro o ho t hd;have:=Z5.1 h o ho;rw[hd] at this;simp only at this;exact Cf this
theorem least (p:Nat→Prop):∀n,p n→∃m,p m∧∀k,p k→m≤k:=by
 intro n
 induction n using Qb0 with
 |_ n ih=>
  intro hn
  by_cases h:∃k,k<n∧p k
  ·obtain⟨k,hk,hp⟩:=h;exact ih k hk hp
  ·refine⟨n,hn,fun k hk=>?_⟩
   rcases η k n with h'|h'
   ·exact absurd ⟨k,h',hk⟩ h
   ·exact h'
open Classical in
noncomputable def mu (p:Nat→Prop):Nat:=if h:∃m,p m∧∀k,p k→m≤k then Classical.choose h else 0
theorem HI {p:Nat→Prop} {n:Nat} (h:p n):p (mu p)∧∀k,p k→mu p≤k:=by
 have he:=least p n h;unfold mu;rw[dif_pos he];exact Classical.choose_spec he
theorem tp {w:World} {x:X} {fr:Fr} {tmps:Array Value} (h:tE w x fr tmps):tE w x fr.clean tmps:=by
 intro t;have:=h t;simp only[Fr.clean,Fr.get] at this⊢
 cases hb:Qab fr.n t with
 |false=>rw[hb] at this;exact this
 |true=>exact .bI _ _ _
section
variable{pv:Pv} {P:Program} (ok:pv.Ok P) {cf:gO} (gF:lb P pv cf)
include gF
theorem uo {ops:Array Oper}:∀{l:List Oper} {fr aM:Fr} {st ai:St},mi pv cf ops l fr st=some (aM,ai)→gv st ai
 |[],fr,aM,st,ai,h=>by simp only[mi] at h;cases h;exact .refl _
 |o::l,fr,aM,st,ai,h=>by
  simp only[mi] at h
  split at h
  ·split at h
   ·rename_i jD;exact(xu gF jD).1.trans (uo h)
   ·cases h
  ·exact uo h
  ·cases h
omit gF in
theorem Ar {step:Fr→St→Option (Out×Fr×St)} (hs:∀fr st out aM ai,step fr st=some (out,aM,ai)→gv st ai):∀(m:Nat) {fr aM:Fr} {st ai:St} {out:Out},iter step m fr st=some (out,aM,ai)→gv st ai
 |0,_,_,_,_,_,h=>by cases h
 |m+1,fr,aM,st,ai,out,h=>by
  simp only[iter] at h
  split at h
  ·rename_i h1;exact(hs _ _ _ _ _ h1).trans (Ar hs m h)
  ·exact hs _ _ _ _ _ h
theorem uQ (dyn:List (Nat×List (Nat×Nat))) (n:Nat):∀(c:Code) {fr aM:Fr} {st ai:St} {out:Out},c8 pv cf dyn n c fr st=some (out,aM,ai)→gv st ai:=by
 intro c
 induction c with
 |skip=>intro fr aM st ai out h;simp only[c8] at h;cases h;exact .refl _
 |region id ops d=>
  intro fr aM st ai out h;simp only[c8] at h
  split at h
  ·rename_i jD;cases h;exact uo gF (Dg jD)
  ·cases h
 |seq a b N4 RH=>
  intro fr aM st ai out h;simp only[c8] at h
  split at h
  ·rename_i h1;exact(N4 h1).trans (RH h)
  ·exact N4 h
 |cond c a b N4 RH=>
  intro fr aM st ai out h;simp only[c8] at h
  split at h
  ·exact N4 h
  ·exact RH h
  ·cases h
 |block id c ih=>
  intro fr aM st ai out h;simp only[c8] at h
  split at h
  ·rename_i h1
   split at h<;>cases h<;>exact ih h1
  ·exact ih h
 |loop c ih=>
  intro fr aM st ai out h;simp only[c8] at h;exact Ar (fun _ _ _ _ _=>ih) n h
 |exit id=>intro fr aM st ai out h;simp only[c8] at h;cases h;exact .refl _
 |ret=>intro fr aM st ai out h;simp only[c8] at h;cases h;exact .refl _
 |_=>intro fr aM st ai out h;simp only[c8] at h;cases h
include ok
theorem Qi (dyn:List (Nat×List (Nat×Nat))) (n sz:Nat):∀(c:Code),codeOk pv dyn sz c=true→∀{fr aM:Fr} {st ai:St} {out:Out},c8 pv cf dyn n c fr st=some (out,aM,ai)→
  ∀{w:World} {β:Nat→Option (Nat×Nat)} {Z:Nat→Prop} {a:Act} {Q:Exit→Act→World→Prop},jW w st β Z→tE w (st.x β Z) fr a.tmps→a.tmps.size=sz→
  (∀a' w' β' Z',Nx w st β Z w' ai β' Z'→tE w' (ai.x β' Z') aM a'.tmps→a'.defers=a.defers→a'.tmps.size=sz→Q out.ex a' w')→c.wp P Q a w:=by
 intro c
 induction c with
 |skip=>
  intro _ fr aM st ai out h w β Z a Q hs hf hz K;simp only[c8] at h;cases h;exact wp_skip (K a w β Z (Φ hs) hf rfl hz)
 |region id ops d=>
  intro hc fr aM st ai out h w β Z a Q hs hf hz K;simp only[c8] at h;simp only[codeOk,ρ] at hc;have hd:=Ez hc.1
  split at h
  ·rename_i Ta st1 jD;cases h
   cases d with
   |true=>
    have sR:o9 pv ops (kf id dyn)=true:=by simpa using hc.2
    exact P_ ok gF sR jD hs (tp hf) (by rw[hz];exact hd) fun a' w' β' Z' h1 h2 h3 h4=>K a' w' β' Z' h1 h2 h3 (h4.trans hz)
   |false=>
    refine wp_region ?_;have:=FJ ok gF (ops:=ops) (Q:=Q) ops.toList 0 _ _ st _ β Z a w (fun j=>by simp) (Dg jD) hs (tp hf) (by rw[hz];exact hd) fun a' w' β' Z' h1 h2 h3 h4=>K a' w' β' Z' h1 h2 h3 (h4.trans hz);rw[List.range_eq_range']
    simpa using this
  ·cases h
 |seq x y Yu Zx=>
  intro hc fr aM st ai out h w β Z a Q hs hf hz K;simp only[codeOk,ρ] at hc;simp only[c8] at h;refine wp_seq ?_
  split at h
  ·rename_i Ta st1 h1;refine Yu hc.1 h1 hs hf hz fun a' w' β' Z' hn y9 hd E6=>?_;exact Zx hc.2 h hn.sim y9 E6 fun a'' T0 zb Oe Mm aaL H5 Zz=>K a'' T0 zb Oe (hn.trans Mm) aaL (H5.trans hd) Zz
  ·rename_i hne;refine Yu hc.1 h hs hf hz fun a' w' β' Z' hn y9 hd E6=>?_;have hK:=K a' w' β' Z' hn y9 hd E6
   cases out with
   |next=>exact(hne _ _ h).elim
   |exit id=>exact hK
   |ret=>exact hK
 |cond c x y Yu Zx=>
  intro hc fr aM st ai out h w β Z a Q hs hf hz K;simp only[codeOk,ρ] at hc;simp only[c8] at h;have hv:=AQ hf c
  split at h
  ·rename_i hb;rw[hb] at hv;exact wp_cond_true (gG hv) (Yu hc.1 h hs hf hz K)
  ·rename_i hb;rw[hb] at hv;exact wp_cond_false (gG hv) (Zx hc.2 h hs hf hz K)
  ·cases h
 |block id c ih=>
  intro hc fr aM st ai out h w β Z a Q hs hf hz K;simp only[codeOk] at hc;simp only[c8] at h;refine wp_block ?_
  split at h
  ·rename_i i Ta st1 h1;refine ih hc h1 hs hf hz fun a' w' β' Z' hn y9 hd E6=>?_;simp only[Out.ex,Exit.inBlock]
   split at h
   ·rename_i hi;cases h;rw[if_pos hi];exact K a' w' β' Z' hn y9 hd E6
   ·rename_i hi;cases h;rw[if_neg hi];exact K a' w' β' Z' hn y9 hd E6
  ·rename_i hne;refine ih hc h hs hf hz fun a' w' β' Z' hn y9 hd E6=>?_;have hK:=K a' w' β' Z' hn y9 hd E6
   cases out with
   |next=>exact hK
   |exit id=>exact(hne _ _ _ h).elim
   |ret=>exact hK
 |loop c ih=>
  intro hc fr aM st ai out h w β Z a Q hs hf hz K;simp only[codeOk] at hc;simp only[c8] at h
  let J:Nat→Act→World→Prop:=fun m a1 w1=>∃Ta st1 β1 Z1,iter (c8 pv cf dyn n c) m Ta st1=some (out,aM,ai)∧Nx w st β Z w1 st1 β1 Z1∧tE w1 (st1.x β1 Z1) Ta a1.tmps∧a1.defers=a.defers∧a1.tmps.size=sz
  refine wp_loop (fun a1 w1=>∃m,J m a1 w1) (fun a1 w1=>mu fun m=>J m a1 w1) ⟨n,fr,st,β,Z,h,Φ hs,hf,rfl,hz⟩ ?_;rintro a1 w1 ⟨m0,lC⟩;obtain⟨⟨Ta,st1,β1,Z1,h1,jX,cO,hd1,hz1⟩,_⟩:=HI (p:=fun m=>J m a1 w1) lC;generalize hmu:mu (fun m=>J m a1 w1)=m at h1
  cases m with
  |zero=>cases h1
  |succ m=>
   simp only[iter] at h1
   split at h1
   ·rename_i S' st2 h2;refine ih hc h2 jX.sim (tp cO) hz1 fun a' w' β' Z' hn y9 hd E6=>?_
    have hJ:J m a' w':=⟨S',st2,β',Z',h1,jX.trans hn,y9,hd.trans hd1,E6⟩
    have:=(HI (p:=fun m=>J m a' w') hJ).2 m hJ;exact⟨⟨m,hJ⟩,by omega⟩
   ·rename_i hne;refine ih hc h1 jX.sim (tp cO) hz1 fun a' w' β' Z' hn y9 hd E6=>?_;have hK:=K a' w' β' Z' (jX.trans hn) y9 (hd.trans hd1) E6
    cases out with
    |next=>exact(hne _ _ h1).elim
    |exit id=>exact hK
    |ret=>exact hK
 |exit id=>
  intro _ fr aM st ai out h w β Z a Q hs hf hz K;simp only[c8] at h;cases h;exact wp_exit (K a w β Z (Φ hs) hf rfl hz)
 |ret=>
  intro _ fr aM st ai out h w β Z a Q hs hf hz K;simp only[c8] at h;cases h;exact wp_ret (K a w β Z (Φ hs) hf rfl hz)
 |_=>intro _ fr aM st ai out h;simp only[c8] at h;cases h
end
end Go.V
namespace Go.V
open Go.RowKit
def GK (N:Nat) (β:Nat→Option (Nat×Nat)):Nat→Option (Nat×Nat):=fun k=>if k<N then β k else none
def s_ (N:Nat) (β:Nat→Option (Nat×Nat)) (Z:Nat→Prop):Nat→Prop:=fun b=>Z b∨∃k base,N≤k∧β k=some (b,base)
variable{w:World}{x x':X}{N:Nat}{d:D}{v:Value}
theorem VR.cut (hβ:∀k,k<N→x'.β k=x.β k) (hv:∀k,k<N→x'.aE k=x.aE k) (hZ:∀b,x.Z b→x'.Z b) (h:VR w x d v):d.ref≤N→VR w x' d v:=by
 induction h with
 |im d v h=>intro _;exact .im d v (h.mono fun b hb=>⟨hZ b hb,rfl⟩)
 |win k vr off len s a cap hc hk hm h=>
  intro hr;simp only[wt] at hr;exact .win k vr off len s a cap hc (by rw[hβ k hr];exact hk) (by rw[hv k hr];exact hm) (by rw[hv k hr,hβ k hr];exact h)
 |ptr k vr off a hk hm h=>
  intro hr;simp only[wt] at hr;exact .ptr k vr off a (by rw[hβ k hr];exact hk) (by rw[hv k hr];exact hm) (by rw[hv k hr,hβ k hr];exact h)
 |mp k r hk h=>
  intro hr;simp only[wt] at hr;exact .mp k r (by rw[hβ k hr];exact hk) (by rw[hv k hr,hβ k hr];exact h)
 |fn f cs vs hl hr ih=>intro hN;simp only[wt] at hN;exact .fn f cs vs hl fun i c v hc hv=>ih i c v hc hv (θ (cW (φ hc)) hN)
 |agg cs vs hl h1 hr ih=>intro hN;simp only[wt] at hN;exact .agg cs vs hl h1 fun i c v hc hv=>ih i c v hc hv (θ (cW (φ hc)) hN)
 |tup cs vs hl hr ih=>intro hN;simp only[wt] at hN;exact .tup cs vs hl fun i c v hc hv=>ih i c v hc hv (θ (cW (φ hc)) hN)
theorem oX {cs:List D} {vs:List Value} (hl:cs.length=vs.length) (h:∀(i:Nat) c v,cs[i]?=some c→vs[i]?=some v→c.ref≤N):refs cs≤N:=by
 refine wh fun d hd=>?_;obtain⟨i,hi⟩:=Cr hd;have hlt:=jg hi;exact h i d _ hi (ζ (by omega))
variable{Z:Nat→Prop}
theorem IR.ref (h:IR w Z d v):d.ref≤0:=by
 induction h with
 |agg cs vs hl h1 hr ih=>simp only[wt];exact oX hl ih
 |tup cs vs hl hr ih=>simp only[wt];exact oX hl ih
 |_=>simp[wt]
theorem VR.ref (hd:∀k p,x.β k=some p→k<N) (h:VR w x d v):d.ref≤N:=by
 induction h with
 |im d v h=>exact θ h.ref (YH _)
 |win k vr off len s a cap hc hk hm h=>obtain⟨p,hp⟩:=hk;simp only[wt];exact hd k p hp
 |ptr k vr off a hk hm h=>obtain⟨p,hp⟩:=hk;simp only[wt];exact hd k p hp
 |mp k r hk h=>obtain⟨p,hp⟩:=hk;simp only[wt];exact hd k p hp
 |fn f cs vs hl hr ih=>simp only[wt];exact oX hl ih
 |agg cs vs hl h1 hr ih=>simp only[wt];exact oX hl ih
 |tup cs vs hl hr ih=>simp only[wt];exact oX hl ih
theorem pb {f:D→Option D}:∀{ds xs:List D},jZ f ds=some xs→xs.length=ds.length∧∀(i:Nat) x,xs[i]?=some x→∃d,ds[i]?=some d∧f d=some x
 |[],xs,h=>by simp only[jZ] at h;cases h;exact⟨rfl,fun i x hx=>by simp at hx⟩
 |d::ds,xs,h=>by
  simp only[jZ] at h
  split at h
  ·rename_i y hy
   split at h
   ·rename_i ys mz;cases h;obtain⟨h1,h2⟩:=pb mz;refine⟨by simp[h1],fun i x hx=>?_⟩
    cases i with
    |zero=>simp at hx;subst hx;exact⟨d,rfl,hy⟩
    |succ i=>simpa using h2 i x (by simpa using hx)
   ·cases h
  ·cases h
theorem A1 (s:Nat):∀(n:Nat) (c:List D),(chunk s n c).length=n
 |0,_=>rfl
 |n+1,c=>by simp only[chunk,Qaq,A1 s n]
theorem A2 (s:Nat):∀(n:Nat) (c:List D) (i:Nat) (e:D),n*s≤c.length→(∀x∈c,x.cells?=some [x]∧x.cells=[x])→(chunk s n c)[i]?=some e→
  e.cells?=some e.cells∧e.cells.length=s∧∀(j:Nat) y,e.cells[j]?=some y→c[i*s+j]?=some y
 |0,_,i,e,_,_,h=>by simp[chunk] at h
 |n+1,c,i+1,e,hl,h1,h=>by
  simp only[chunk,Qa7] at h;have hs:n*s+s≤c.length:=by rw[Qae] at hl;exact hl
  obtain⟨q1,q2,q3⟩:=A2 s n (c.drop s) i e (by simp;omega) (fun x hx=>h1 x (Qaf hx)) h;refine⟨q1,q2,fun j y hy=>?_⟩;have:=q3 j y hy;rw[Qam] at this;rw[Qae,←this];congr 1;omega
 |n+1,c,0,e,hl,h1,h=>by
  have hs:s≤c.length:=by rw[Qae] at hl;omega
  simp only[chunk,Δ,VT.injEq] at h
  split at h
  ·cases c with
   |nil=>simp at hs
   |cons x c=>
    simp only[List.headD_cons] at h;subst h;obtain⟨q1,q2⟩:=h1 x (Y' ..);refine⟨by rw[q1,q2],by rw[q2];rfl,fun j y hy=>?_⟩;rw[q2] at hy
    cases j with
    |zero=>simpa using hy
    |succ j=>simp at hy
  ·subst h;refine⟨rfl,by simp[D.cells];omega,fun j y hy=>?_⟩;simp only[D.cells] at hy;rw[AT] at hy
   split at hy
   ·simpa using hy
   ·cases hy
variable{st:St}{n:Nat}
theorem FF {x:D} (h:gJ st N n d=some x):(∃cs,x=.agg cs)∨(x.cells?=some [x]∧x.cells=[x]):=by
 cases n with
 |zero=>cases h
 |succ n=>
  cases d<;>simp only[gJ] at h<;>first|(cases h;done)|(cases h;exact .inr ⟨rfl,rfl⟩)|skip
  case win k aE off len sz=>
   split at h
   ·cases h
   ·obtain⟨⟨a,c⟩,_,h⟩:=ε.1 h;dsimp only at h
    split at h
    ·obtain⟨r,_,hr⟩:=γ.1 h;cases hr;exact .inr ⟨rfl,rfl⟩
    ·cases h
  case agg cs=>
   obtain⟨r,_,hr⟩:=γ.1 h;cases hr;exact .inl ⟨_,rfl⟩
variable{β:Nat→Option (Nat×Nat)}
theorem ON (h:jW w st β Z) (N:Nat):∀(n:Nat) {d d':D} {v:Value},gJ st N n d=some d'→VR w (st.x β Z) d v→IR w (s_ N β Z) d' v:=by
 have up:∀{d:D} {v:Value},IR w Z d v→IR w (s_ N β Z) d v:=fun hi=>hi.mono fun b hb=>⟨.inl hb,rfl⟩
 intro n
 induction n with
 |zero=>intro d d' v hp;cases hp
 |succ n ih=>
  intro d d' v hp hv;cases d<;>simp only[gJ] at hp<;>try(cases hp;done)
  case bool b=>cases hp;rw[gG hv];exact .bool b
  case int k i=>cases hp;rw[dW hv];exact .int k i
  case str s=>cases hp;rw[iW hv];exact .str s
  case nul=>cases hp;rw[gT hv];exact .emp none 0
  case sl es=>cases hp;cases hv with|im _ _ hi=>exact up hi
  case pnil=>cases hp;rw[lv hv];exact .pnil
  case nilfn=>cases hp;cases hv with|im _ _ hi=>exact up hi
  case nilif=>cases hp;cases hv with|im _ _ hi=>exact up hi
  case agg cs=>
   obtain⟨xs,hx,hr⟩:=γ.1 hp;cases hr;obtain⟨vs,rfl,hl,h1,h2⟩:=kR hv;obtain⟨g1,g2⟩:=pb hx;refine .agg xs vs (g1.trans hl) h1 fun i c u hc hu=>?_;obtain⟨d,hd1,hd2⟩:=g2 i c hc;exact ih hd2 (h2 i d u hd1 hu)
  case win k aE off len s=>
   split at hp
   ·cases hp
   ·rename_i TO;obtain⟨⟨ar,c⟩,hm,hp⟩:=ε.1 hp;dsimp only at hp
    split at hp
    ·rename_i pw;obtain⟨xs,hx,hr⟩:=γ.1 hp;cases hr;obtain⟨a,cap,rfl,hlc,_,_,mB⟩:=gS hv;obtain⟨b,base,sz,hb,_,oJ⟩:=mB (eD hm).2;have fu:dC w (st.x β Z) b (base+off) ((c.drop off).take (len*s)):=((h.cells hm hb).drop off).take _;obtain⟨g1,g2⟩:=pb hx;have hlen:xs.length=len*s:=by rw[g1];simp;omega
     have hcell:∀(j:Nat) y,xs[j]?=some y→∃u,w.cell? ⟨b,base+off+j,none⟩=some u∧u.oneCell'=true∧IR w (s_ N β Z) y u:=by
      intro j y hy;obtain⟨d,hd1,hd2⟩:=g2 j y hy;obtain⟨u,lB,oP,uJ⟩:=fu j d hd1;exact⟨u,lB,oP,ih hd2 uJ⟩
     have oc:∀x∈xs,x.cells?=some [x]∧x.cells=[x]:=by
      intro x hxm;obtain⟨j,hj⟩:=Cr hxm;obtain⟨d,_,hd2⟩:=g2 j x hj;obtain⟨u,_,oP,uJ⟩:=hcell j x hj
      rcases FF hd2 with⟨cs,rfl⟩|h'
      ·cases uJ;simp[Value.oneCell'] at oP
      ·exact h'
     rcases oJ with rfl|⟨rfl,_⟩
     ·have:len=0:=by omega
      subst this;exact .emp (some a) 0
     ·have hcl:=A1 s len xs;have hg:=fun i e=>A2 s len xs i e (by omega) oc;have key:∀(i:Nat) e (j:Nat) y,(chunk s len xs)[i]?=some e→e.cells[j]?=some y→∃u,w.cell? ⟨b,base+off+(i*s+j),none⟩=some u∧u.oneCell'=true∧IR w (s_ N β Z) y u:=fun i e j y he hy=>hcell _ y ((hg i e he).2.2 j y hy);have:=IR.sl (w:=w) (Z:=s_ N β Z) (chunk s len xs) b (base+off) cap s (fun i j=>(w.cell? ⟨b,base+off+(i*s+j),none⟩).getD undef) (.inr ⟨k,base,by omega,hb⟩) (by omega)
       (fun i e he=>⟨(hg i e he).1,(hg i e he).2.1⟩)
       (fun i e j y he hy=>by obtain⟨u,lB,oP,_⟩:=key i e j y he hy;rw[lB];exact⟨rfl,oP⟩)
       (fun i e j y he hy=>by obtain⟨u,lB,_,uJ⟩:=key i e j y he hy;rw[lB];exact uJ)
      rw[hcl] at this;exact this
    ·cases hp
theorem JJ (h:jW w st β Z) (hβ:∀k,k<N→x'.β k=β k) (QG:∀k,k<N→x'.aE k=st.aE k) (hZ:x'.Z=s_ N β Z) (kn:Bool):
  ∀(n:Nat) {d d':D} {v:Value},bA st N kn n d=some d'→VR w (st.x β Z) d v→VR w x' d' v:=by
 have cut:∀{d:D} {v:Value},VR w (st.x β Z) d v→d.ref≤N→VR w x' d v:=fun hv hr=>hv.cut hβ QG (fun b hb=>by rw[hZ];exact .inl hb) hr;have im:∀{d:D} {v:Value},IR w (s_ N β Z) d v→VR w x' d v:=fun hi=>.im _ _ (by rw[hZ];exact hi);intro n
 induction n with
 |zero=>intro d d' v hp;cases hp
 |succ n ih=>
  intro d d' v hp hv
  cases d<;>simp only[bA] at hp<;>first|(cases hp;exact cut hv (by simp[wt]))|skip
  case nul=>
   cases hp
   cases kn with
   |true=>exact cut hv (by simp[wt])
   |false=>rw[gT hv];exact im (.emp none 0)
  case win k aE off len s=>
   split at hp
   ·rename_i hk;cases hp;exact cut hv (by simp only[wt];omega)
   ·exact im (ON h N n hp hv)
  case ptr k aE off=>
   split at hp
   ·rename_i hk;cases hp;exact cut hv (by simp only[wt];omega)
   ·cases hp
  case mp k=>
   split at hp
   ·rename_i hk;cases hp;exact cut hv (by simp only[wt];omega)
   ·cases hp
  case fn f mU=>
   split at hp
   ·rename_i hk;cases hp;exact cut hv (by simp only[wt];exact hk)
   ·cases hp
  case agg cs=>
   obtain⟨xs,hx,hr⟩:=γ.1 hp;cases hr;obtain⟨vs,rfl,hl,h1,h2⟩:=kR hv;obtain⟨g1,g2⟩:=pb hx;refine .agg xs vs (g1.trans hl) h1 fun i c u hc hu=>?_;obtain⟨d,hd1,hd2⟩:=g2 i c hc;exact ih hd2 (h2 i d u hd1 hu)
  case tup cs=>
   obtain⟨xs,hx,hr⟩:=γ.1 hp;cases hr;obtain⟨vs,rfl,hl,h2⟩:=Bc hv;obtain⟨g1,g2⟩:=pb hx;refine .tup xs vs (g1.trans hl) fun i c u hc hu=>?_;obtain⟨d,hd1,hd2⟩:=g2 i c hc;exact ih hd2 (h2 i d u hd1 hu)
theorem da (m:Mode) (st:St):(ae m st).bs=st.bs:=by cases m<;>rfl
theorem JN (h:jW w st β Z) (m:Mode):jW w (ae m st) β Z:=by
 refine⟨fun k b base hk=>by rw[da];exact h.dom k b base hk,h.lt,h.inj,h.zd,h.zl,fun k b base bx hb jm=>?_,?_,?_⟩
 ·rw[da] at jm;have:(ae m st).x β Z=st.x β Z:=by simp only[cg];congr 1;funext k;simp only[LL,da]
  rw[this];exact h.box k b base bx hb jm
 ·rw[da];cases m<;>first|exact μ _|exact h.flr
 ·rw[da];cases m<;>first|exact μ _|exact h.ro
variable{st1 ai:St}{d':D}
theorem LQ {w':World} {β':Nat→Option (Nat×Nat)} {Z':Nat→Prop} (h:jW w st β Z) (m:Mode) (kn:Bool) (hn:Nx w (ae m st) β Z w' st1 β' Z') (hg:gv (ae m st) st1) (hv:VR w' (st1.x β' Z') d v) (hl:ez m kn st st1 d=some (d',ai)):∃zb Oe,Nx w st β Z w' ai zb Oe∧VR w' (ai.x zb Oe) d' v:=by
 by_cases hm:m=.cw
 ·subst hm;simp only[ez] at hl;cases hl;exact⟨β',Z',hn,hv⟩
 by_cases hw:m=.nw
 ·subst hw;simp only[ez] at hl;cases hl;have hx0:(ae .nw st).x β Z=st.x β Z:=by simp only[cg];congr 1
  have hx1:(⟨st1.bs,st.flr,st.ro⟩:St).x β' Z'=st1.x β' Z':=by simp only[cg];congr 1
  have hlen:st.bs.length≤st1.bs.length:=hn.len
  refine⟨β',Z',⟨⟨hn.sim.dom,hn.sim.lt,hn.sim.inj,hn.sim.zd,hn.sim.zl,fun k b base bx hb jm=>by rw[hx1];exact hn.sim.box k b base bx hb jm,θ h.flr hlen,θ h.ro hlen⟩,by rw[hx1,←hx0];exact hn.keeps,
   hn.evo.mono fun b hb=>?_,hn.fresh,hn.zfresh,hlen,rfl,rfl,fun k hk=>hn.low k (ξ hk h.ro),fun k hk h0=>hn.Dv k hk h0⟩,by rw[hx1];exact hv⟩
  obtain⟨k,base,h1,h2⟩:=hb;exact⟨k,base,h1,θ h.ro h2⟩
 have hl:∃dd,bA st1 st.bs.length kn 16 d=some dd∧d'=dd∧ai=⟨st1.bs.take st.bs.length,st.flr,st.ro⟩:=by
  cases m<;>first|exact absurd rfl hm|exact absurd rfl hw|skip
  all_goals
   simp only[ez] at hl
   split at hl
   ·rename_i dd hf;cases hl;exact⟨_,hf,rfl,rfl⟩
   ·cases hl
 obtain⟨dd,hf,rfl,rfl⟩:=hl
 have Mx:(ae m st).flr=st.bs.length:=by cases m<;>first|rfl|exact absurd rfl hm|exact absurd rfl hw
 have du:st.ro≤(ae m st).ro:=by cases m<;>first|exact μ _|exact h.ro
 have hlen:st.bs.length≤st1.bs.length:=by have:=hn.len;rw[da] at this;exact this
 have hb:∀k,k<st.bs.length→(st1.bs.take st.bs.length)[k]?=st1.bs[k]?:=fun k hk=>by rw[AT,if_pos hk]
 have hx:(ae m st).x β Z=st.x β Z:=by simp only[cg];congr 1;funext k;simp only[LL,da]
 have QG:∀k,k<st.bs.length→(⟨st1.bs.take st.bs.length,st.flr,st.ro⟩:St).aE k=st1.aE k:=fun k hk=>by simp only[LL,hb k hk]
 have hβ:∀k,k<st.bs.length→GK st.bs.length β' k=β' k:=fun k hk=>by simp only[GK,if_pos hk]
 have F9:∀k p,GK st.bs.length β' k=some p→k<st.bs.length∧β' k=some p:=by
  intro k p hp;simp only[GK] at hp
  split at hp
  ·exact⟨by assumption,hp⟩
  ·cases hp
 refine⟨GK st.bs.length β',s_ st.bs.length β' Z',⟨⟨fun k b base hk=>?_,fun k b base hk=>hn.sim.lt k b base (F9 k _ hk).2,fun k k' b y y' h1 h2=>hn.sim.inj k k' b y y' (F9 k _ h1).2 (F9 k' _ h2).2,?_,?_,?_,?_,?_⟩,?_,?_,?_,?_,?_,rfl,rfl,?_,?_⟩,?_⟩
 ·have:=(F9 k _ hk).1;simp;omega
 ·intro k b base hk hz;obtain⟨h1,h2⟩:=F9 k _ hk
  rcases hz with hz|⟨k2,Is,h3,h4⟩
  ·exact hn.sim.zd k b base h2 hz
  ·have:=hn.sim.inj k k2 b _ _ h2 h4;omega
 ·rintro b (hz|⟨k2,Is,_,h4⟩)
  ·exact hn.sim.zl b hz
  ·exact hn.sim.lt k2 b Is h4
 ·intro k b base bx hk jm;obtain⟨h1,h2⟩:=F9 k _ hk;simp only at jm;rw[hb k h1] at jm;have Ec:=hn.sim.box k b base bx h2 jm
  have Zy:∃p,β k=some p:=by
   cases hq:β k with
   |some p=>exact⟨p,rfl⟩
   |none=>
    have:=(hn.Dv k (by rw[da];exact h1) hq).1;rw[h2] at this;cases this
  obtain⟨p,hp⟩:=Zy
  cases bx with
  |mem vr ar cells=>
   obtain⟨c,el,fr,q1,q2,q3,q4⟩:=Ec;refine⟨c,el,fr,q1,q2,q3,fun j e he=>?_⟩;obtain⟨u,u1,u2,u3⟩:=q4 j e he;refine⟨u,u1,u2,u3.cut hβ QG (fun b hb=>show s_ st.bs.length β' Z' b from .inl hb) ?_⟩;have h0:st.bs[k]?=some st.bs[k]:=ζ h1;have h5:=hg.fl k st.bs[k] _ (by rw[Mx];exact h1) (by rw[da];exact h0) jm e (φ he)
   have h6:refs (st.bs[k]).cells≤st.bs.length:=wh fun x hx=>by
    have QT:=h.box k p.1 p.2 _ hp h0
    cases hbk:st.bs[k] with
    |mem vr0 ar0 acg=>
     rw[hbk] at QT hx;obtain⟨_,_,_,_,_,_,r4⟩:=QT;obtain⟨i,hi⟩:=Cr hx;obtain⟨_,_,_,r7⟩:=r4 i x hi;exact r7.ref fun k p hp=>h.dom k p.1 p.2 hp
    |_=>rw[hbk] at hx;simp[lu.cells] at hx
   omega
  |iter s pos=>exact Ec
  |map e=>exact Ec
  |dead=>exact Ec
 ·have:=h.flr;simp;omega
 ·have:=h.ro;simp;omega
 ·have hk:=hn.keeps;rw[hx] at hk;refine⟨fun k p hp=>?_,fun b hb=>⟨.inl (hk.z b hb).1,(hk.z b hb).2⟩,fun k c p hp hc=>?_,fun k c hc Gr b base SV=>?_⟩
  ·obtain⟨p',BZ⟩:=hk.dm k p hp;exact⟨p',by show GK st.bs.length β' k=some p';rw[hβ k (h.dom k p.1 p.2 hp)];exact BZ⟩
  ·exact hk.aE k c p hp (by have:=QG k (h.dom k p.1 p.2 hp);show st1.aE k=some c;rw[←this];exact hc)
  ·have TO:=h.dom k _ _ SV;obtain⟨r1,r2⟩:=hk.at_ k c (by show st1.aE k=some c;rw[←QG k TO];exact hc) Gr b base SV;exact⟨by show GK st.bs.length β' k=_;rw[hβ k TO];exact r1,r2⟩
 ·exact hn.evo.mono fun b ⟨k,base,h1,h2⟩=>⟨k,base,h1,θ du h2⟩
 ·intro k b base hk;exact hn.fresh k b base (F9 k _ hk).2
 ·rintro b (hz|⟨k2,Is,h3,h4⟩)
  ·exact hn.zfresh b hz
  ·rcases hn.fresh k2 b Is h4 with⟨eL,h5⟩|h5
   ·have:=h.dom k2 b eL h5;omega
   ·exact .inr h5
 ·simp;omega
 ·intro k hk;have TO:k<st.bs.length:=ξ hk h.ro;obtain⟨r1,r2⟩:=hn.low k (ξ hk du);rw[da] at r1;exact⟨by simp only;rw[hb k TO];exact r1,by rw[hβ k TO];exact r2⟩
 ·intro k hk D_;obtain⟨r1,r2⟩:=hn.Dv k (by rw[da];exact hk) D_;rw[da] at r2;exact⟨by rw[hβ k hk];exact r1,by simp only;rw[hb k hk];exact r2⟩
 ·exact JJ hn.sim hβ QG rfl kn 16 hf hv
variable{pv:Pv}{m:Nat}
theorem EI {dyn:List (Nat×List (Nat×Nat))} (Pw:n≤m):∀(c:Code),codeOk pv dyn n c=true→codeOk pv dyn m c=true:=by
 intro c
 induction c with
 |region id ops d=>
  intro h;simp only[codeOk,ρ] at h⊢;refine⟨Z5.2 fun o ho=>?_,h.2⟩;have h1:=Ez h.1 o ho
  cases hd:o.dst with
  |none=>rfl
  |some t=>exact BY (θ (h1 t hd) Pw)
 |seq a b N4 RH=>intro h;simp only[codeOk,ρ] at h⊢;exact⟨N4 h.1,RH h.2⟩
 |cond c a b N4 RH=>intro h;simp only[codeOk,ρ] at h⊢;exact⟨N4 h.1,RH h.2⟩
 |block id c ih=>intro h;simp only[codeOk] at h⊢;exact ih h
 |loop c ih=>intro h;simp only[codeOk] at h⊢;exact ih h
 |_=>intro h;rfl
def rG (tmps:Array Value):ResultVar→Sem Value
 | .tmp t=>pure (tmps.getD t undef)
 | .cell a t=>do loadVar t (←asAddr (tmps.getD a undef))
theorem Fz (fn:Func) (tmps:Array Value):results fn tmps=(do let vs←fn.results.mapM (rG tmps);pure (if h:vs.size=1 then vs[0] else .tuple vs)):=rfl
theorem Lw (d:D):∀(l:List D) (t:Nat),nth d l t=(l[t]?).getD d
 |[],t=>by simp[nth]
 |x::l,0=>rfl
 |x::l,t+1=>by simpa[nth] using Lw d l t
theorem FA {pv:Pv} {P:Program} (ok:pv.Ok P) {w:World} {st:St} {β:Nat→Option (Nat×Nat)} {Z:Nat→Prop} (h:jW w st β Z) {fr:Fr} {tmps:Array Value} (hf:tE w (st.x β Z) fr tmps):∀(rs:List ResultVar) {ds:List D},nT pv fr st rs=some ds→
  ∃vs:List Value,(rs.mapM (rG tmps)).run P w=.ok vs w∧ds.length=vs.length∧∀(i:Nat) c u,ds[i]?=some c→vs[i]?=some u→VR w (st.x β Z) c u
 |[],ds,hr=>by simp only[nT] at hr;cases hr;exact⟨[],by simp,rfl,fun i c u hc=>by simp at hc⟩
 | .tmp t::l,ds,hr=>by
  simp only[nT] at hr;obtain⟨es,he,hr⟩:=γ.1 hr;cases hr;obtain⟨vs,h1,h2,h3⟩:=FA ok h hf l he;refine⟨tmps.getD t undef::vs,by simp only[Qay,rG,ι,ν,δ,h1],by simp[h2],fun i c u hc hu=>?_⟩
  cases i with
  |zero=>simp at hc hu;subst hc;rw[←hu];have:=hf t;simpa using this
  |succ i=>exact h3 i c u (by simpa using hc) (by simpa using hu)
 | .cell a t::l,ds,hr=>by
  simp only[nT] at hr;obtain⟨d,hd,hr⟩:=ε.1 hr;obtain⟨es,he,hr⟩:=γ.1 hr;cases hr;obtain⟨vs,h1,h2,h3⟩:=FA ok h hf l he;have hv:=hf a
  have B3:∃z,(rG tmps (.cell a t)).run P w=.ok z w∧VR w (st.x β Z) d z:=by
   unfold j6 at hd
   split at hd
   ·rename_i k aE off hg;rw[hg] at hv;obtain⟨⟨ar,c⟩,hm,hd⟩:=ε.1 hd;obtain⟨p,hp,_,mB⟩:=dx hv;obtain⟨b,base,hb,rfl⟩:=mB (eD hm).2;obtain⟨z,h1,h2⟩:=vY ok ((h.cells hm hb).drop off) hd;exact⟨z,by simp only[rG];rw[hp];simp[asAddr,h1],h2⟩
   ·rename_i c hg;rw[hg] at hv;obtain⟨b,off,hp,_,hc,_⟩:=wH hv;obtain⟨z,h1,h2⟩:=vY ok hc hd;exact⟨z,by simp only[rG];rw[hp];simp[asAddr,h1],h2⟩
   ·cases hd
  obtain⟨z,z1,z2⟩:=B3;refine⟨z::vs,by simp only[Qay,ι,z1,ν,δ,h1],by simp[h2],fun i c u hc hu=>?_⟩
  cases i with
  |zero=>simp at hc hu;subst hc;subst hu;exact z2
  |succ i=>exact h3 i c u (by simpa using hc) (by simpa using hu)
variable{P:Program}{ds:List D}
theorem Fy (ok:pv.Ok P) (h:jW w st β Z) {fr:Fr} {tmps:Array Value} (hf:tE w (st.x β Z) fr tmps) {fn:Func} (hr:nT pv fr st fn.results.toList=some ds):
  ∃v,(results fn tmps).run P w=.ok v w∧VR w (st.x β Z) (zc ds) v:=by
 obtain⟨vs,h1,h2,h3⟩:=FA ok h hf _ hr
 have rP:(fn.results.mapM (rG tmps)).run P w=.ok vs.toArray w:=by
  rw[Array.mapM_eq_mapM_toList,Sem.run_map,h1];rfl
 refine⟨if h:vs.toArray.size=1 then vs.toArray[0] else .tuple vs.toArray,?_,?_⟩
 ·rw[Fz];simp only[ι];rw[rP];simp only[δ,ν]
 ·match ds,vs,h2 with
  |[],[],_=>exact .tup [] [] rfl (by simp)
  |[d],[v],_=>exact h3 0 d v rfl rfl
  |d::e::l,u::v::l',h2=>
   rw[dif_neg (by simp)];exact .tup _ _ h2 h3
variable{us:List Value}
theorem Rm {args:List D} (hl:args.length=us.length) (hr:∀(i:Nat) c v,args[i]?=some c→us[i]?=some v→VR w x c v):
  tE w x (pad n args) (us.toArray++ω m undef):=by
 intro t;simp only[pad,Fr.get]
 cases hb:Qab n t with
 |true=>exact .bI _ _ _
 |false=>
  simp only;rw[Lw];simp only[κ];rw[Pd,Array.getElem?_append];simp only[List.size_toArray,JS]
  by_cases ht:t<args.length
  ·rw[if_pos ht,if_pos (by omega),ζ ht,ζ (by omega:t<us.length)];exact hr t _ _ (ζ ht) (ζ _)
  ·rw[if_neg ht,if_neg (by omega)]
   have hu:((ω m undef)[t-us.length]?).getD undef=undef:=by
    rw[Qa3];split<;>rfl
   rw[hu];rw[List.getElem?_replicate]
   split
   ·exact .im _ _ (.tup [] [] rfl (by simp))
   ·exact .bI _ _ _
def Pv.l_ (pv:Pv):Prop:=∀f x b,pv.fi f=some x→x.fz=none→x.fn.body=some b→codeOk pv x.dyn x.fn.ntmps b=true
def gK (pv:Pv):gO:=fun f ds st=>match pf f pv.prm with
 |some p=>p ds st
 |none=>match pv.fi f with
 |some x=>match x.fz with
  |some p=>p ds st
  |none=>none
 |none=>none
theorem xS {m:Mode} {kn:Bool} (hg:gv (ae m st) st1) (hl:ez m kn st st1 d=some (d',ai)):gv st ai∧(m=.ro∨m=.nw→tF st ai):=by
 by_cases hm:m=.cw
 ·subst hm;simp only[ez] at hl;cases hl;exact⟨hg,fun h=>by rcases h with h|h<;>cases h⟩
 by_cases hw:m=.nw
 ·subst hw;simp only[ez] at hl;cases hl;have hlen:st.bs.length≤st1.bs.length:=hg.len;have Gi:∀k,k<st.bs.length→st1.bs[k]?=st.bs[k]?:=fun k hk=>hg.low k hk hk
  have:tF st ⟨st1.bs,st.flr,st.ro⟩:=by
   refine⟨st1.bs.drop st.bs.length,?_⟩
   congr 1
   apply AI;intro k
   by_cases hk:k<st.bs.length
   ·rw[τ hk];exact Gi k hk
   ·rw[List.getElem?_append_right (by omega),Qam];congr 1;omega
  exact⟨this.goes,fun _=>this⟩
 have hl:ai=⟨st1.bs.take st.bs.length,st.flr,st.ro⟩:=by
  cases m<;>first|exact absurd rfl hm|exact absurd rfl hw|skip
  all_goals
   simp only[ez] at hl
   split at hl
   ·cases hl;rfl
   ·cases hl
 subst hl;have hlen:st.bs.length≤st1.bs.length:=by have:=hg.len;rw[da] at this;exact this
 have hb:∀k,k<st.bs.length→(st1.bs.take st.bs.length)[k]?=st1.bs[k]?:=fun k hk=>by rw[AT,if_pos hk]
 have Mx:(ae m st).flr=st.bs.length:=by cases m<;>first|rfl|exact absurd rfl hm|exact absurd rfl hw
 refine⟨⟨by simp;omega,rfl,rfl,fun k hk hk2=>?_,fun k bx Cp hk h1 h2 d hd=>?_⟩,fun h=>?_⟩
 ·have:=hg.low k (by cases m<;>first|exact absurd rfl hw|exact hk|exact hk2) (by rw[da];exact hk2);rw[da] at this;simp only;rw[hb k hk2];exact this
 ·have hk2:=jg h1;simp only at h2;rw[hb k hk2] at h2;exact hg.fl k bx Cp (by rw[Mx];exact hk2) (by rw[da];exact h1) h2 d hd
 ·have h:=h.resolve_right hw;subst h
  have:st1.bs.take st.bs.length=st.bs:=by
   apply AI;intro k
   by_cases hk:k<st.bs.length
   ·rw[hb k hk];have:=hg.low k hk (by rw[da];exact hk);rw[da] at this;exact this
   ·rw[ψ (by simp;omega),ψ (by omega)]
  rw[this];exact .rfl _
theorem lH {pv:Pv} {P:Program} (ok:pv.Ok P) (hc:pv.l_) (hp:lb P pv (gK pv)):∀n,lb P pv (dQ pv n)
 |0=>⟨fun f ds st r h=>(by cases h),fun f ds st d ai h=>(by cases h),fun f ds st d ai h=>(by cases h),fun f ds st d ai h=>(by cases h)⟩
 |n+1=>by
  have ih:=lH ok hc hp n
  have key:∀{f:Nat} {ds:List D} {st:St} {r:D×St},dQ pv (n+1) f ds st=some r→(gK pv f ds st=some r)∨∃x body,pv.fi f=some x∧x.fz=none∧x.fn.body=some body∧EP pv (dQ pv n) n x body ds st=some r:=by
   intro f ds st r h;simp only[dQ] at h
   split at h
   ·rename_i p hl;left;simp only[gK,hl];exact h
   rename_i hl
   split at h
   ·rename_i x hx
    split at h
    ·rename_i p N8;left;simp only[gK,hl,hx,N8];exact h
    ·rename_i N8
     split at h
     ·rename_i body hb;exact .inr ⟨x,body,hx,N8,hb,h⟩
     ·cases h
   ·cases h
  have body:∀{x:Fi} {body:Code} {ds:List D} {st:St} {d:D} {ai:St},EP pv (dQ pv n) n x body ds st=some (d,ai)→
    ∃out fr st1 es,c8 pv (dQ pv n) x.dyn n body (pad x.nloc ds) (ae x.mode st)=some (out,fr,st1)∧(∀i,out≠.exit i)∧nT pv fr st1 x.fn.results.toList=some es∧ez x.mode x.knul st st1 (zc es)=some (d,ai):=by
   intro x body ds st d ai h;unfold EP at h
   split at h
   ·cases h
   ·rename_i out fr st1 hne nM
    split at h
    ·rename_i es hr;exact⟨out,fr,st1,es,nM,fun i hi=>by subst hi;exact hne _ rfl,hr,h⟩
    ·cases h
   ·cases h
  refine⟨fun f ds st r h=>?_,fun f ds st d ai h=>?_,fun f ds st d ai h du=>?_,fun f ds st d ai h=>?_⟩
  ·rcases key h with h|⟨x,b,hx,N8,hb,_⟩
   ·exact hp.fn f ds st r h
   ·obtain⟨h1,h2⟩:=ok.fs f x hx N8;exact⟨x.fn,b,h1,hb,h2 b hb⟩
  ·rcases key h with h|⟨x,b,hx,N8,hb,hbd⟩
   ·exact hp.calls f ds st d ai h
   ·intro w β Z us hs hl hr;obtain⟨out,fr,st1,es,nM,hne,R7,Mo⟩:=body hbd;obtain⟨h1,h2⟩:=ok.fs f x hx N8;refine calls_of_wp h1 hb ?_;have qG:=JN hs x.mode;have ZB:(ae x.mode st).x β Z=st.x β Z:=by simp only[cg];congr 1;funext k;simp only[LL,da]
    have hf:tE w ((ae x.mode st).x β Z) (pad x.nloc ds) (us.toArray++ω (x.fn.ntmps-us.toArray.size) undef):=by rw[ZB];exact Rm hl hr
    refine Qi ok ih x.dyn n _ b (EI ?_ b (hc f x b hx N8 hb)) nM qG hf rfl fun a' w' β' Z' hn y9 hd _=>?_
    ·simp;omega
    ·obtain⟨v,DY,rO⟩:=Fy ok hn.sim y9 R7;obtain⟨zb,Oe,Mm,QG⟩:=LQ hs x.mode x.knul hn (uQ ih x.dyn n b nM) rO Mo
     have jl:a'.defers=[]∧∃v,(results x.fn a'.tmps).run P w'=.ok v w'∧(∃v' β' Z',Ending.returned v=.returned v'∧Nx w st β Z w' ai β' Z'∧VR w' (ai.x β' Z') d v'∧(ny pv f=true→Quiet w w')):=by
      refine⟨hd,v,DY,v,zb,Oe,rfl,Mm,QG,fun du=>?_⟩
      have hm:x.mode=.ro∨x.mode=.nw:=by
       unfold ny at du;rw[hx] at du;simp only at du
       split at du
       ·exact .inl (by assumption)
       ·exact .inr (by assumption)
       ·cases du
      intro c hcl;refine hn.evo.block c hcl ?_;rintro⟨k,base,h5,h6⟩;have:=hs.dom k c base h5
      rcases hm with hm|hm<;>rw[hm] at h6<;>simp only[ae] at h6<;>omega
     cases out with
     |next=>exact jl
     |ret=>exact jl
     |exit i=>exact absurd rfl (hne i)
  ·rcases key h with h|⟨x,b,hx,N8,hb,hbd⟩
   ·exact hp.ro f ds st d ai h du
   ·obtain⟨out,fr,st1,es,nM,hne,R7,Mo⟩:=body hbd
    have hm:x.mode=.ro∨x.mode=.nw:=by
     unfold ny at du;rw[hx] at du;simp only at du
     split at du
     ·exact .inl (by assumption)
     ·exact .inr (by assumption)
     ·cases du
    exact(xS (uQ ih x.dyn n b nM) Mo).2 hm
  ·rcases key h with h|⟨x,b,hx,N8,hb,hbd⟩
   ·exact hp.len f ds st d ai h
   ·obtain⟨out,fr,st1,es,nM,hne,R7,Mo⟩:=body hbd;exact(xS (uQ ih x.dyn n b nM) Mo).1
def Fits {α:Type} (R:Nat→α→Prop):Tr α→Nat→Nat→Prop
 | .leaf a,lo,hi=>hi=lo+1∧R lo a
 | .node k l r,lo,hi=>Fits R l lo k∧Fits R r k hi
theorem Fits.get {α:Type} {R:Nat→α→Prop}:∀{tr:Tr α} {lo hi t:Nat},Fits R tr lo hi→lo≤t→t<hi→R t (tr.get t)
 | .leaf a,lo,hi,t,h,h1,h2=>by
  obtain⟨h3,h4⟩:=h;have:t=lo:=by omega
  subst this;exact h4
 | .node k l r,lo,hi,t,h,h1,h2=>by
  obtain⟨h3,h4⟩:=h;simp only[Tr.get]
  cases hb:Qab k t with
  |true=>exact h4.get (Cf hb) h2
  |false=>
   have:¬k≤t:=fun hk=>by rw[BY hk] at hb;cases hb
   exact h3.get h1 (by omega)
def Tb (pv:Pv) (x:Fi):Bool:=
 match x.fn.body with
 |some b=>(x.fn.name != "runtime.NumGoroutine") &&codeOk pv x.dyn x.fn.ntmps b
 |none=>true
def RA:List D→St→Option (D×St):=fun _ _=>none
def Tx (pv:Pv) (P:Program) (i:Nat) (x:Fi):Prop:=(P.funcs[i]?=some x.fn∧x.fz=none∧Tb pv x=true)∨x.fz=some RA
def Tw (P:Program) (i:Nat) (x:TypeInfo):Prop:=P.info? i=some x
theorem Oi (ht:Fits (Tw P) pv.ty 0 pv.nty) (hf:Fits (Tx pv P) pv.fs 0 pv.nfs) (he:(pv.eqb.all fun t=>!P.stoodInHeld t &&!P.eqGuardType P.depth t)=true) (hm:P.follows .mixedOrders=true) (Z7:pv.prm=[]):
  pv.Ok P∧pv.l_∧lb P pv (gK pv):=by
 have fi:∀f x,pv.fi f=some x→Tx pv P f x:=by
  intro f x h;unfold Pv.fi at h
  split at h
  ·rename_i hb;cases h;refine hf.get (YH _) ?_
   rcases η f pv.nfs with h'|h'
   ·exact h'
   ·rw[BY h'] at hb;cases hb
  ·cases h
 have pn:∀f ds st r,gK pv f ds st=some r→False:=by
  intro f ds st r h;unfold gK at h;rw[Z7] at h;simp only[pf] at h
  split at h
  ·rename_i x hx
   rcases fi f x hx with⟨_,h1,_⟩|h1<;>rw[h1] at h<;>cases h
  ·cases h
 refine⟨⟨fun t i h=>?_,fun f x h hp=>?_,fun t h=>?_,hm⟩,fun f x b h hp hb=>?_,⟨fun f ds st r h=>(pn f ds st r h).elim,fun f ds st d ai h=>(pn f ds st _ h).elim,fun f ds st d ai h=>(pn f ds st _ h).elim,fun f ds st d ai h=>(pn f ds st _ h).elim⟩⟩
 ·unfold Pv.info at h
  split at h
  ·rename_i hb;cases h;refine ht.get (YH _) ?_
   rcases η t pv.nty with h'|h'
   ·exact h'
   ·rw[BY h'] at hb;cases hb
  ·cases h
 ·obtain⟨h1,_,h3⟩:=(fi f x h).resolve_right (by rw[hp];simp);refine⟨h1,fun b hb=>?_⟩;unfold Tb at h3;rw[hb] at h3;simp only[ρ,bne_iff_ne,ne_eq] at h3;exact h3.1
 ·have:=Z5.1 he t (by simpa using h)
  simpa using this
 ·obtain⟨_,_,h3⟩:=(fi f x h).resolve_right (by rw[hp];simp);unfold Tb at h3;rw[hb] at h3;simp only[ρ] at h3;exact h3.2
theorem sound (h:pv.Ok P∧pv.l_∧lb P pv (gK pv)) {f:Nat} (hs:dQ pv n f ds ⟨[],0,0⟩=some (d,ai)) (hZ:∀b,Z b→b<w.heap.size) (hl:ds.length=us.length) (hr:∀(i:Nat) c v,ds[i]?=some c→us[i]?=some v→IR w Z c v):Calls P f us.toArray w fun e w'=>∃v β' Z',e=.returned v∧IA (fun _=>False) w w'∧VR w' (ai.x β' Z') d v:=by
 have jB:jW w ⟨[],0,0⟩ (fun _=>none) Z:=⟨fun _ _ _ h=>(by cases h),fun _ _ _ h=>(by cases h),fun _ _ _ _ _ h=>(by cases h),fun _ _ _ h=>(by cases h),hZ,fun _ _ _ _ h=>(by cases h),μ _,μ _⟩
 refine((lH h.1 h.2.1 h.2.2 n).calls f ds _ d ai hs w _ Z us jB hl fun i c v hc hv=>.im _ _ (hr i c v hc hv)).mono fun e w'=>?_;rintro⟨v,β',Z',he,hn,hv,_⟩;refine⟨v,β',Z',he,hn.evo.mono ?_,hv⟩;rintro b ⟨k,base,h,_⟩;cases h
end Go.V
