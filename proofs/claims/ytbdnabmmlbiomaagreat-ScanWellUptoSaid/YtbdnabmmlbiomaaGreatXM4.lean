/-
 V is sound; no program in sight, no conditions.
-/
import Derived.Test.YtbdnabmmlbiomaaGreatXM1
import Derived.Orders
set_option linter.unusedSimpArgs false
set_option linter.unusedVariables false
set_option linter.unusedSectionVars false
set_option linter.unnecessarySimpa false
open Option renaming map_eq_some_iff→γ,bind_eq_some_iff→ε,bind_some→Ξ,map_some→QU,some→QG,getD_some→Qd
open Go.Result renaming andThen_ok→δ,ok→JJ
open List renaming getElem?_eq_getElem→ζ,getElem?_set_ne→π,getElem?_append_left→τ,mem_of_getElem?→φ,getElem?_eq_none→ψ,getElem?_cons_zero→Δ,getElem?_set_self→QX,all_eq_true→QZ,mem_cons_self→Qj,getElem?_toArray→Qk,getD_eq_getElem?_getD→Qw,mem_cons_of_mem→QW,getElem?_of_mem→QC,getElem?_append→QA,mem_cons→Qa,getElem?_take→Qb,ext_getElem?→Qc,mem_range→Qi,range→Ql,getElem?_cons_succ→Qs,length_eq_zero_iff→Qt,mem_append_right→J0,mem_of_mem_drop→J5,map_congr_left→J8,toList_toArray→J9,getElem?_drop→JZ,getElem?_map→Jq,length_cons→Jz,not_mem_nil→Jj,mapM_cons→JY
open Nat renaming lt_or_ge→η,le_trans→θ,le_refl→μ,lt_of_lt_of_le→ξ,lt_trichotomy→QQ,eq_of_beq_eq_true→QJ,zero_le→Qv,le_max_right→QK,ble_eq_true_of_le→QF,le_of_ble_eq_true→QD,beq→QI,ble→J1,blt→J2,sub_zero→J3,succ_mul→J4,eq_or_lt_of_le→Jx,not_lt_zero→JK,strongRecOn→JV,add_assoc→JC,add_comm→JL,zero_add→JM,mul_one→JS
open Go.Sem renaming run_bind→ι,run_pure→ν,run→Qm
open Array renaming getD_eq_getD_getElem?→κ,getElem?_setIfInBounds_self_of_lt→ο,getElem?_eq_getElem→ς,replicate→ω,getElem?_toList→Θ,getElem?_setIfInBounds_ne→Qq,getElem?_eq_none→Qz,getElem?_push→QY,size_setIfInBounds→QV,getElem?_modify→QH,length_toList→QP,getElem?_eq_some_iff→QM,ext'→QO,getElem?_replicate→Qn,ext_getElem?→J6
open Bool renaming and_eq_true→ρ,false_eq_true→υ,or_eq_true→Jv,false_or→JU,not_true→JG
open Go.Value renaming int→χ
open Go.V.Quiet renaming refl→Γ,push→Qh
open Go.V.Nx renaming same→Φ,still→JA
open Go.Builtin renaming zeroCells→Ψ,clear_→QL,len_→Qo,firstCells→Qu,max2→Jk,min2→Jy
open Go.Op renaming operands→Ω
open Go.Region renaming binds→Qx,wanted→J'
open Go.V.D renaming ref→Qy
open Go.Instr renaming findNow→QB,checkKey→QT,findKey→QE,mapUpdate→Qg,makeMap→Qp,lookup→Qr,next→J7,sureAddr→Jw,sameNow→JW,loadAt→JH,range→JD
open Go.V.St renaming aG→QN,push→QS,x→Qe
open Go.Utf8 renaming decode→QR,encode→JN
open ByteArray renaming size→Qf,ext→JT
open Go.Conv renaming bytesToString→JQ,stringToBytes→JX
open Go.World renaming freeze→JB,shape?→JF,alloc→JP,drew→JR
namespace Go.V
open Go.RowKit
theorem u9 {P:Program} {f:Value→ByteArray→Sem (ForInStep ByteArray)} (hf:∀n s w,(f (.int .u8 n) s).run P w=.ok (.yield (s.push (UInt8.ofNat n.toNat))) w):∀(cs:List D) (us:List Value) (bs:List UInt8) (acc:ByteArray) (w:World) (x:X),LR w x cs us→pk cs=some bs→
  (forIn us acc f).run P w=.ok (⟨acc.data++bs.toArray⟩) w
 |[],us,bs,acc,w,x,h,hb=>by
  cases us with
  |nil=>simp[pk] at hb;subst hb;simp
  |cons u us=>have:=h.len;simp at this
 |c::cs,us,bs,acc,w,x,h,hb=>by
  cases us with
  |nil=>have:=h.len;simp at this
  |cons u us=>
   unfold pk at hb
   split at hb
   ·rename_i heq;cases heq
   ·rename_i n l heq;cases heq;obtain⟨r,hr,rfl⟩:=γ.1 hb;have hu:=cO (h.rel 0 _ u rfl rfl);subst hu
    have ht:LR w x cs us:=⟨by have:=h.len;simpa using this,fun v hv=>h.one v (QW _ hv),fun i c u hc hu=>h.rel (i+1) c u hc hu⟩
    have ih:=u9 hf cs us r (acc.push (UInt8.ofNat n.toNat)) w x ht hr;simp only[List.forIn_cons,ι,hf,δ];rw[ih]
    congr 1
    apply JT;simp
   ·cases hb
section
variable{pv:Pv} {P:Program} (ok:pv.Ok P)
include ok
def nK (pv:Pv) (s t:TypeId):Bool:=
 match pv.cJ s,pv.cJ t with
 |some (.slice _),some (.slice _)=>true
 |_,_=>false
omit ok in
theorem L8 {w:World} {st:St} {β:Nat→Option (Nat×Nat)} {Z:Nat→Prop} (h:gI w st β Z) {k aG:Nat} {ar:Bool} {c:List D} (hm:st.fk k aG=some (ar,c)) {b base:Nat} (hb:β k=some (b,base)) (eT:st.ro≤k) (o:Nat):
  ∃w',(markStringish ⟨b,o,none⟩).run P w=.ok () w'∧Nx w st β Z w' st β Z:=by
 obtain⟨cs,el,fr,h1,h2,h3,h4⟩:=h.row hm hb;have hbl:b<w.heap.size:=h.lt k b base hb;have hsh:w.shape? b=some (el,cs.size):=by simp only[JF,h1]
 refine⟨w.freeze ⟨b,cs.size,none⟩ 1,?_,?_⟩
 ·simp only[markStringish,ι,run_shape,hsh,δ,run_freeze]
 ·obtain⟨lo,hi⟩:=fr
  have hf:∃aM:Nat×Nat,qH cs.size aM∧w.freeze ⟨b,cs.size,none⟩ 1=wput w b (.cells cs el aM):=by
   refine⟨if lo==hi then(cs.size,cs.size+1) else(min lo cs.size,max hi (cs.size+1)),?_,?_⟩
   ·split
    ·exact⟨by simp,fun o ho=>by simp only;omega⟩
    ·rename_i hne;have hne:lo≠hi:=by simpa using hne
     have h5:=h3.1;have h6:=h3.2 lo;simp only at h5 h6;refine⟨by simp only;omega,fun o ho=>?_⟩;simp only;omega
   ·simp only[JB,wput,if_neg (show¬(1=0) by omega)]
    congr 1
    apply J6;intro j;rw[QH]
    by_cases hj:b=j
    ·subst hj;rw[if_pos rfl,h1,ο hbl];rfl
    ·rw[if_neg hj,Qq hj]
  obtain⟨aM,Tj,YT⟩:=hf;have ir:=(df hm).1;have hx:=Nx.Dk (a':=ar) (my:=aG) (c':=c) (dt:=base) h hm hb eT (μ _) (fun _=>rfl) h1 Tj rfl h2 h4
  have e1:(fun i=>if i=k then some (b,base) else β i)=β:=by
   funext i;split
   ·rename_i e;subst e;exact hb.symm
   ·rfl
  have e2:({st with bs:=st.bs.set k (.mem aG ar c)}:St)=st:=by
   obtain⟨bs,f,r⟩:=st;simp only at ir⊢
   congr 1
   apply Qc;intro j
   by_cases hj:k=j
   ·subst hj;rw[QX (h.dom k b base hb),ir]
   ·rw[π hj]
  rw[e1,e2] at hx;rw[YT];exact hx
theorem M8 {w:World} {st ai:St} {β:Nat→Option (Nat×Nat)} {Z:Nat→Prop} (h:gI w st β Z) {s t:Nat} {d r:D} {u:Value} (hu:VR w (st.x β Z) d u) (hs:yD pv s t d st=some (r,ai)):
  ∃z w' β',(convert s t u).run P w=.ok z w'∧Nx w st β Z w' ai β' Z∧VR w' (ai.x β' Z) r z∧(nK pv s t=false→Quiet w w'):=by
 unfold yD at hs
 split at hs
 ·rename_i sd k k' n h1 h2;cases hs;rw[cO hu];exact⟨_,w,β,by simp[convert,aN ok h1,aN ok h2,Conv.intToInt];rfl,Φ h,by rw[iT];exact .im _ _ (.int _ _),fun _=>Γ _⟩
 ·rename_i sd k n h1 h2;cases hs;rw[cO hu];refine⟨.string (JN n),w,β,by cases sd<;>simp[convert,aN ok h1,aN ok h2,Conv.intToString],Φ h,.im _ _ ?_,fun _=>Γ _⟩;have:=IR.str (w:=w) (Z:=(st.x β Z).Z) (JN n).data.toList
  simpa using this
 ·rename_i sd l h1 h2;cases hs;rw[fV hu];exact⟨_,w,β,by cases sd<;>simp[convert,aN ok h1,aN ok h2]<;>rfl,Φ h,.im _ _ (.str _),fun _=>Γ _⟩
 ·rename_i sd e l h1 h2
  split at hs
  ·rename_i he
   split at hs
   ·rename_i hlen;cases hs;rw[fV hu];have CF:=FE l.length 0 e (w.tape w.drawn (.appendCap l.length 0 e));generalize hq:(Question.appendCap l.length 0 e).cut (w.tape w.drawn (.appendCap l.length 0 e))=cap at CF;have hsz:(⟨l.toArray⟩:ByteArray).size=l.length:=by simp[Qf]
    have hS:Nx w st β Z w.drew st β Z:=JA h rfl rfl rfl rfl;have dM:((l.map fun b=>χ .u8 b.toNat).toArray++ω (cap-l.length) (χ .u8 0)).size=cap:=by simp;omega
    have hfz:∀c:Array Value,(w.drew.alloc (.cells c e)).freeze ⟨w.heap.size,c.size,none⟩ 1={w.drew with heap:=w.heap.push (.cells c e (c.size,c.size+1))}:=by
     intro c;simp only[JB,JP,JR];simp only[if_neg (show¬(1=0) by omega)]
     congr 1
     apply J6;intro j;rw[QH]
     by_cases hj:w.heap.size=j
     ·subst hj;simp
     ·rw[if_neg hj,QY,QY,if_neg (fun e=>hj e.symm),if_neg (fun e=>hj e.symm)]
    obtain⟨hx,x1,x2,x3⟩:=Nx.lE (w':={w.drew with heap:=w.heap.push (.cells ((l.map fun b=>χ .u8 b.toNat).toArray++ω (cap-l.length) (χ .u8 0)) e (cap,cap+1))}) hS.sim true (l.map fun x=>.int .u8 x.toNat)
     ((l.map fun b=>χ .u8 b.toNat).toArray++ω (cap-l.length) (χ .u8 0)) e (cap,cap+1) rfl rfl rfl rfl (by rw[dM];simpa using CF) ⟨by simp,fun o ho=>by rw[dM] at ho;simp;omega⟩ (fun j d hd=>by
      obtain⟨y,hy1,Ct,Mi⟩:=(yJ w.drew (st.x β Z) l).at_ hd;refine⟨y,?_,Ct,Mi⟩
      have hlt:j<(l.map fun b=>χ .u8 b.toNat).length:=by
       rcases η j (l.map fun b=>χ .u8 b.toNat).length with h'|h'
       ·exact h'
       ·rw[ψ h'] at hy1;cases hy1
      rw[Array.getElem?_append_left (by simpa using hlt)]
      simpa using hy1)
    refine⟨.slice (some ⟨w.heap.size,0,none⟩) l.length cap,_,_,?_,hS.trans hx,l3 x2 x3 x1 CF (by rw[dM];omega),fun _=>Qh rfl⟩
    have j_:(JX e ⟨l.toArray⟩).run P w=.ok (.slice (some ⟨w.heap.size,0,none⟩) l.length cap) {w.drew with heap:=w.heap.push (.cells ((l.map fun b=>χ .u8 b.toNat).toArray++ω (cap-l.length) (χ .u8 0)) e (cap,cap+1))}:=by
     have tz:((⟨l.toArray⟩:ByteArray).data.map fun b=>χ .u8 b.toNat)=(l.map fun b=>χ .u8 b.toNat).toArray:=by simp
     simp only[JX,ι,run_choose,Question.forced,υ,if_false,δ,hsz,hq,tz,newRow,run_newObj,ν,markStringish,run_shape]
     have RC:(w.drew.alloc (.cells ((l.map fun b=>χ .u8 b.toNat).toArray++ω (cap-l.length) (χ .u8 0)) e)).shape? w.heap.size=some (e,cap):=by
      simp only[JF,JP,JR];rw[QY,if_pos rfl];simp[dM]
     have ha:({heap:=w.heap.push (Obj.cells ((l.map fun b=>χ .u8 b.toNat).toArray++ω (cap-l.length) (χ .u8 0)) e),tape:=w.tape,drawn:=w.drawn+1,os:=w.os,output:=w.output}:World)=w.drew.alloc (.cells ((l.map fun b=>χ .u8 b.toNat).toArray++ω (cap-l.length) (χ .u8 0)) e):=rfl;rw[ha];simp only[RC,run_freeze,δ];have:=hfz ((l.map fun b=>χ .u8 b.toNat).toArray++ω (cap-l.length) (χ .u8 0));rw[dM] at this;rw[this]
    cases sd<;>simp only[convert,ι,aN ok h1,aN ok h2,δ,aN ok he,j_]
   ·cases hs
  ·cases hs
 ·rename_i e' e k aG off len sz h1 h2
  split at hs
  ·rename_i q he hm;obtain⟨ar,c⟩:=q
   split at hs
   ·rename_i wJ;obtain⟨gi,hlen,F'⟩:=wJ;have gi:=QJ gi;subst gi;cases hs;obtain⟨a,cap,rfl,hc,hk,_,jv⟩:=eX hu;obtain⟨b,base,Gi,hb,_,we⟩:=jv (df hm).2
    rcases we with rfl|⟨rfl,_⟩
    ·omega
    obtain⟨w',m1,m2⟩:=L8 (P:=P) h hm hb (eD F') (base+off);refine⟨_,w',β,?_,m2,hu.mono m2.keeps,fun e=>?_⟩
    ·rw[h1] at h2;cases h2;simp only[convert,ι,aN ok h1,δ,aN ok he,beq_self_eq_true,m1,ν]
    ·rw[h1] at h2;cases h2;simp[nK,h1] at e
   ·cases hs
  ·cases hs
 ·rename_i dd o1 o2 d4 e h1 h2 zW R3
  split at hs
  ·rename_i n cs he kY
   split at hs
   ·cases hs
   ·rename_i MC
    split at hs
    ·rename_i hl;obtain⟨bs,hb,hr⟩:=γ.1 hs;cases hr;obtain⟨hlen,dM⟩:=rC (P:=P) h hu kY;obtain⟨us,u1,u2⟩:=dM 1 n (μ _) (by omega);rw[JS,←hl,List.take_length] at u2;refine⟨.string ⟨bs.toArray⟩,w,β,?_,Φ h,.im _ _ (.str _),fun _=>Γ _⟩
     have iE:∃a q c,u=.slice a q c:=by
      cases dd with
      |sl es=>obtain⟨_,_,e,_⟩:=lq hu;exact⟨_,_,_,e⟩
      |nul=>exact⟨_,_,_,eY hu⟩
      |win k v o l s=>obtain⟨_,_,e,_⟩:=eX hu;exact⟨_,_,_,e⟩
      |str l=>exact absurd rfl (MC l)
      |_=>simp[rD] at kY
     obtain⟨a,q,c,rfl⟩:=iE;have hq:q=n:=by simp[Builtin.lenOf] at hlen;exact hlen
     subst hq
     have Ve:(convert s t (.slice a q c)).run P w=(JQ (.slice a q c)).run P w:=by
      simp[convert,aN ok h1,aN ok h2,aN ok he]
     rw[Ve]
     cases a with
     |none=>
      have iy:us=[]:=by
       simp only[Qu,ν,JJ.injEq] at u1;have:=u1.1;cases us<;>simp at this⊢
      subst iy;have:cs=[]:=Qt.1 (by have:=u2.len;simpa using this);subst this;simp[pk] at hb;subst hb
      rfl
     |some a=>
      simp only[Qu,JS] at u1;simp only[JQ,ι,u1,δ,List.forIn_toArray];rw[u9 (P:=P) (fun n s w=>by simp) cs us bs .empty w _ u2 hb];simp
    ·cases hs
  ·cases hs
 ·cases hs
omit ok in
theorem Nx.obj {w:World} {st:St} {β:Nat→Option (Nat×Nat)} {Z:Nat→Prop} (h:gI w st β Z) {k b:Nat} (hβ:β k=some (b,0)) (eT:st.ro≤k) {o o':Obj} {bx wA:iI} (ir:st.bs[k]?=some bx) (hw:w.heap[b]?=some o) (hv:db wA=db bx)
  (kV:∀w1:World,w1.heap[b]?=some o'→cK w1 b=cK w b) (bA:∀x',iH (wput w b o') x' b 0 wA):Nx w st β Z (wput w b o') {st with bs:=st.bs.set k wA} β Z:=by
 have hbl:=h.lt k b 0 hβ;have iL:=h.dom k b 0 hβ
 have hne:∀i,i≠b→(wput w b o').heap[i]?=w.heap[i]?:=by
  intro i hi;simp only[wput];rw[Qq (by omega)]
 have heq:(wput w b o').heap[b]?=some o':=by
  simp only[wput];rw[ο hbl]
 have sx:∀i,({st with bs:=st.bs.set k wA}:St).aG i=st.aG i:=by
  intro i;simp only[QN]
  by_cases hik:i=k
  ·subst hik;rw[QX iL,ir];exact hv
  ·rw[π (by omega)]
 have UX:dK w (st.x β Z) (wput w b o') (({st with bs:=st.bs.set k wA}:St).x β Z):=by
  refine⟨fun i p hp=>⟨p,hp⟩,fun i hi=>⟨hi,hne i fun e=>h.zd k b 0 hβ (e▸hi)⟩,fun i q p hi hq=>⟨q,?_,μ _⟩,fun i q hq nS i' y hy=>⟨hy,?_⟩⟩
  ·have:=sx i;show st.aG i=some q;rw[←this];exact hq
  ·by_cases e:i'=b
   ·subst e;exact kV _ heq
   ·exact et (hne i' e)
 refine⟨⟨?_,?_,h.inj,h.zd,?_,?_,?_,?_⟩,UX,⟨rfl,rfl,rfl,by simp[wput],fun i _ hn=>hne i fun e=>hn ⟨k,0,e▸hβ,eT⟩⟩,
  fun i q y hq=>.inl ⟨y,hq⟩,fun _ hz=>.inl hz,by simp,rfl,rfl,?_,fun i _ h0=>by
   have:i≠k:=fun e=>by subst e;rw[hβ] at h0;cases h0
   dsimp only;rw[π (by omega)]
   exact⟨h0,rfl⟩⟩
 ·intro i q y hq;simp;exact h.dom i q y hq
 ·intro i q y hq;simp only[wput,QV];exact h.lt i q y hq
 ·intro i hi;simp only[wput,QV];exact h.zl i hi
 ·intro i q y bx2 hq E7;(dsimp only at E7)
  by_cases hik:i=k
  ·subst hik;rw[QX iL] at E7;cases E7;rw[hβ] at hq;cases hq;exact bA _
  ·rw[π (by omega)] at E7;exact(h.box i q y bx2 hq E7).bd UX (hne q fun e=>hik (h.inj i k q _ _ hq (e▸hβ)))
 ·have:=h.flr;simp;omega
 ·have:=h.ro;simp;omega
 ·intro i hi;dsimp only;rw[π (by omega)];exact⟨rfl,rfl⟩
omit ok in
theorem lS {kk:IntKind} {n:Int} {kt:IntKind}:∀{es:List (D×D)} {en:List MapEntry} {i:Nat} {r:Option (Nat×D)},gy kk n es i=some r→en.length=es.length→
  (∀(j:Nat) p,es[j]?=some p→∃kk n vk x e,p=(.int kk n,.int vk x)∧en[j]?=some e∧e.key=.int kk n∧e.val=.int vk x)→
  match r with
  |none=>QB (.int kt) (.int kk n) en i=some none
  |some (q,d)=>∃v,QB (.int kt) (.int kk n) en i=some (some (q,v))∧i≤q∧q-i<es.length∧(∃vk x,d=.int vk x∧v=.int vk x)∧∃e,en[q-i]?=some e∧e.key=.int kk n
 |[],en,i,r,h,hl,_=>by
  simp only[gy] at h;cases h;have:en=[]:=Qt.1 hl;subst this;rfl
 |(a,d)::es,en,i,r,h,hl,hr=>by
  obtain⟨kk',m,vk,x,e,hp,he,hk,hv⟩:=hr 0 _ rfl;cases hp
  obtain⟨e0,en,rfl⟩:∃e0 en',en=e0::en':=by cases en with|nil=>simp at hl|cons a b=>exact⟨a,b,rfl⟩
  simp only[Δ,QG.injEq] at he;subst he;simp only[gy] at h
  split at h
  ·rename_i hkk;subst hkk
   split at h
   ·rename_i R2;cases h;have R2:n=m:=by simpa using R2
    subst R2;refine⟨.int vk x,?_,μ _,by simp,⟨vk,x,rfl,rfl⟩,e0,by simp,hk⟩;simp only[QB,hk,JW,if_true,beq_self_eq_true,hv]
   ·rename_i R2;have ih:=lS (kt:=kt) (en:=en) h (by simpa using hl) (fun j p hj=>by simpa using hr (j+1) p (by simpa using hj))
    have hf:QB (.int kt) (.int kk n) (e0::en) i=QB (.int kt) (.int kk n) en (i+1):=by
     have:(n==m)=false:=by simpa using R2
     simp only[QB,hk,JW,if_true,this]
    cases r with
    |none=>simp only at ih⊢;rw[hf];exact ih
    |some q=>
     obtain⟨q,d'⟩:=q;simp only at ih⊢;obtain⟨v,h1,h2,h3,h4,e,h5,h6⟩:=ih;refine⟨v,by rw[hf];exact h1,by omega,by simp;omega,h4,e,?_,h6⟩;rw[show q-i=(q-(i+1))+1 by omega]
     simpa using h5
  ·cases h
theorem zF {w:World} {st ai:St} {β:Nat→Option (Nat×Nat)} {Z:Nat→Prop} (h:gI w st β Z) {t:Nat} {d:Option D} {u:Option Value} {r:D} (hn:d=none↔u=none) (hu:∀a v,d=some a→u=some v→VR w (st.x β Z) a v) (hs:nL pv t d st=some (r,ai)):
  ∃z w' β',(Qp t u).run P w=.ok z w'∧Nx w st β Z w' ai β' Z∧VR w' (ai.x β' Z) r z∧Quiet w w':=by
 have hx:=Nx.push (w':=w.alloc (.map #[] 0)) h (.map #[] 0) rfl rfl rfl rfl (.map []) (fun _=>⟨rfl,#[],0,by
  show(w.heap.push _)[w.heap.size]?=_
  simp,rfl,fun i p hp=>by simp at hp⟩)
 have hv:VR (w.alloc (.map #[] 0)) ((st.push (.map [])).x (eR β st.bs.length w.heap.size) Z) (.mp st.bs.length) (.map (some w.heap.size)):=by
  refine .mp _ _ ⟨_,by simp[Qe,eR];rfl⟩ fun _=>⟨0,by simp[Qe,eR]⟩
 unfold nL at hs
 split at hs
 ·cases hs;have:u=none:=hn.1 rfl;subst this;refine⟨.map (some w.heap.size),_,_,?_,hx,hv,Qh rfl⟩;simp only[Qp,ι,ν,δ,run_newObj];rfl
 ·rename_i kk n
  split at hs
  ·rename_i kt e ht;cases hs
   cases u with
   |none=>have:=hn.2 rfl;cases this
   |some v=>
    have:=cO (hu _ v rfl rfl);subst this;refine⟨.map (some w.heap.size),_,_,?_,hx,hv,Qh rfl⟩;simp only[Qp,ι,aN ok ht,asInt,asIntOf,ν,δ,run_newObj];rfl
  ·cases hs
 ·cases hs
variable{w:World}{st ai:St}{β:Nat→Option (Nat×Nat)}{Z:Nat→Prop}{t:Nat}{m key r d:D}{um uk u:Value}
theorem uu (h:gI w st β Z) {v:D} {uv:Value} (hm:VR w (st.x β Z) m um) (hk:VR w (st.x β Z) key uk) (hv:VR w (st.x β Z) v uv) (hs:jt pv t m key v st=some ai):
  ∃w',(Qg t um uk uv).run P w=.ok () w'∧Nx w st β Z w' ai β Z:=by
 unfold jt at hs
 split at hs
 ·rename_i kt e k kk n vk x ht
  split at hs
  ·rename_i ik es R5 hb
   split at hs
   ·rename_i F';obtain⟨r,rfl,jv⟩:=AK hm;obtain⟨base,hβ⟩:=jv (by simp[Qe,QN,hb,db]);have hβ:β k=some (r,base):=hβ;have:=cO hk;subst this;have:=cO hv;subst this;obtain⟨rfl,en,cl,h1,h2,h3⟩:=h.box k r base _ hβ hb;have hl:en.toList.length=es.length:=by simpa using h2
    have wJ:∀m:Nat,(QT false (m+1) kt (.int kk n)).run P w=.ok () w:=by
     intro m;unfold QT;simp only[ι,aN ok R5,δ,ν]
    have hget:(getObj r).run P w=.ok (.map en cl) w:=by simp[getObj,Qm,h1]
    split at hs
    ·rename_i q d hf;cases hs
     obtain⟨vv,g1,g2,g3,⟨vk',x',rfl,rfl⟩,e0,g4,g5⟩:=lS (kt:=ik) (en:=en.toList) hf hl (fun j p hj=>by
      obtain⟨a,b,c,d,e,q1,q2,q3⟩:=h3 j p hj
      exact⟨a,b,c,d,e,q1,by simpa using q2,q3⟩)
     simp only[J3] at g3 g4;have Zu:en[q]?=some e0:=by simpa using g4
     have NC:q<en.size:=(QM.1 Zu).1
     have hx:=Nx.obj (o':=.map (en.modify q fun e=>{e with key:=.int kk n,val:=.int vk x}) cl) (wA:=.map (es.set q (.int kk n,.int vk x))) h hβ (eD F') hb h1 rfl (fun w1 XR=>by simp[cK,XR,h1]) fun x'=>by
      refine⟨rfl,_,cl,by simp only[wput];rw[ο (h.lt k r 0 hβ)],by simp[h2],fun i p hp=>?_⟩;rw[List.getElem?_set] at hp
      split at hp
      ·rename_i X_;subst X_;cases hp;exact⟨kk,n,vk,x,{e0 with key:=.int kk n,val:=.int vk x},rfl,by rw[QH,if_pos rfl,Zu];rfl,rfl,rfl⟩
      ·rename_i X_;obtain⟨a,b,c,d,e,q1,q2,q3⟩:=h3 i p hp;exact⟨a,b,c,d,e,q1,by rw[QH,if_neg X_];exact q2,q3⟩
     refine⟨_,?_,hx⟩;have R8:((en[q]?).map (·.key)).getD (.int kk n)=.int kk n:=by rw[Zu];simpa using g5
     simp only[Qg,ι,aN ok ht,δ,hget,wJ 9999,QE,aN ok R5,g1,ν,R8,Instr.keyThatStays,Instr.sameBits,beq_self_eq_true,Bool.and_self,if_true];simp[setObj,Qm,wput,h1]
    ·rename_i hf;cases hs
     have g1:=lS (kt:=ik) (en:=en.toList) hf hl (fun j p hj=>by
      obtain⟨a,b,c,d,e,q1,q2,q3⟩:=h3 j p hj
      exact⟨a,b,c,d,e,q1,by simpa using q2,q3⟩)
     simp only at g1
     have hx:=Nx.obj (o':=.map (en.push {key:=.int kk n,val:=.int vk x,born:=cl}) (cl+1)) (wA:=.map (es++[(.int kk n,.int vk x)])) h hβ (eD F') hb h1 rfl (fun w1 XR=>by simp[cK,XR,h1]) fun x'=>by
      refine⟨rfl,_,cl+1,by simp only[wput];rw[ο (h.lt k r 0 hβ)],by simp[h2],fun i p hp=>?_⟩;rw[QA] at hp
      split at hp
      ·rename_i hi;obtain⟨a,b,c,d,e,q1,q2,q3⟩:=h3 i p hp;exact⟨a,b,c,d,e,q1,by rw[QY,if_neg (by omega)];exact q2,q3⟩
      ·rename_i hi
       have wH:i-es.length=0:=by
        rcases Nat.eq_zero_or_pos (i-es.length) with h'|h'
        ·exact h'
        ·rw[ψ (by simp;omega)] at hp;cases hp
       rw[wH] at hp;simp at hp;subst hp;exact⟨kk,n,vk,x,_,rfl,by rw[QY,if_pos (by omega)],rfl,rfl⟩
     refine⟨_,?_,hx⟩;simp only[Qg,ι,aN ok ht,δ,hget,wJ 9999,QE,aN ok R5,g1,ν];simp[setObj,Qm,wput,h1]
    ·cases hs
   ·cases hs
  ·cases hs
 ·cases hs
theorem Cq (h:gI w st β Z) (hm:VR w (st.x β Z) m um) (hk:VR w (st.x β Z) key uk) (hs:nM pv t m key st=some r):
  ∃z,(Qr t um uk false).run P w=.ok z w∧VR w (st.x β Z) r z:=by
 unfold nM at hs
 split at hs
 ·rename_i kt e k kk n ht
  split at hs
  ·rename_i ik es R5 hb;obtain⟨a,rfl,jv⟩:=AK hm;obtain⟨base,hβ⟩:=jv (by simp[Qe,QN,hb,db]);have hβ:β k=some (a,base):=hβ;have:=cO hk;subst this;obtain⟨rfl,en,cl,h1,h2,h3⟩:=h.box k a base _ hβ hb;have hl:en.toList.length=es.length:=by simpa using h2
   have wJ:∀b,(QT b 10000 kt (.int kk n)).run P w=.ok () w:=by
    intro b;unfold QT;simp only[ι,aN ok R5,δ,ν]
   have hget:(getObj a).run P w=.ok (.map en cl) w:=by simp[getObj,Qm,h1]
   split at hs
   ·rename_i q d hf;cases hs
    obtain⟨vv,g1,g2,g3,⟨vk',x',rfl,rfl⟩,e0,g4,g5⟩:=lS (kt:=ik) (en:=en.toList) hf hl (fun j p hj=>by
     obtain⟨a,b,c,d,e,q1,q2,q3⟩:=h3 j p hj
     exact⟨a,b,c,d,e,q1,by simpa using q2,q3⟩)
    refine⟨.int vk' x',?_,.im _ _ (.int _ _)⟩;simp only[Qr,ι,aN ok ht,δ,hget,ν,wJ,QE,aN ok R5,g1]
    rfl
   ·rename_i hf;obtain⟨z,hz,Ug⟩:=xc ok hs w
    have g1:=lS (kt:=ik) (en:=en.toList) hf hl (fun j p hj=>by
     obtain⟨a,b,c,d,e,q1,q2,q3⟩:=h3 j p hj
     exact⟨a,b,c,d,e,q1,by simpa using q2,q3⟩)
    simp only at g1;refine⟨z,?_,by rw[Ug];exact .im _ _ (rN _ _ z)⟩;simp only[Qr,ι,aN ok ht,δ,hget,ν,wJ,QE,aN ok R5,g1,hz]
    rfl
   ·cases hs
  ·cases hs
 ·cases hs
theorem DU (h:gI w st β Z) (hu:VR w (st.x β Z) d u) (hs:vq pv t d st=some (r,ai)):
  ∃z w' β',(JD t u).run P w=.ok z w'∧Nx w st β Z w' ai β' Z∧VR w' (ai.x β' Z) r z∧Quiet w w':=by
 unfold vq at hs
 split at hs
 ·rename_i l ht;cases hs;rw[fV hu]
  have hx:=Nx.push (w':=w.alloc (.stringIter ⟨l.toArray⟩ 0)) h (.stringIter ⟨l.toArray⟩ 0) rfl rfl rfl rfl (.iter l 0) (fun _=>⟨rfl,by
   show(w.heap.push _)[w.heap.size]?=_
   simp⟩)
  refine⟨.pointer (some ⟨w.heap.size,0,none⟩),_,_,?_,hx,?_,Qh rfl⟩
  ·simp only[JD,ι,aN ok ht,δ,ν,run_newObj];rfl
  ·refine .ptr _ _ _ _ ⟨_,by simp[Qe,eR];rfl⟩ (fun c _=>Qv _) fun _=>⟨w.heap.size,0,by simp[Qe,eR],rfl⟩
 ·cases hs
omit ok in
theorem LY (h:gI w st β Z) {b:Bool} {ty:TypeId} (hu:VR w (st.x β Z) d u) (hs:ui d b st=some (r,ai)):
  ∃z w',(J7 u b ty).run P w=.ok z w'∧Nx w st β Z w' ai β Z∧VR w' (ai.x β Z) r z:=by
 unfold ui at hs
 split at hs
 ·rename_i k
  split at hs
  ·rename_i l pos hb;obtain⟨a,rfl,hk,jv⟩:=cz hu;have j8:st.aG k=some 0:=by simp[QN,hb,db]
   obtain⟨b,base,Ue,rfl⟩:=jv j8;have hβ:β k=some (b,base):=Ue;clear Ue;obtain⟨rfl,EZ⟩:=h.box k b base _ hβ hb;have hbl:=h.lt k b 0 hβ;have hsz:(⟨l.toArray⟩:ByteArray).size=l.length:=by simp[Qf]
   split at hs
   ·rename_i hp
    split at hs
    ·rename_i F';cases hs;have iL:=h.dom k b 0 hβ
     let w':World:={w with heap:=w.heap.setIfInBounds b (.stringIter ⟨l.toArray⟩ (pos+(QR ⟨l.toArray⟩ pos).2))}
     have hne:∀i,i≠b→w'.heap[i]?=w.heap[i]?:=by
      intro i hi;show(w.heap.setIfInBounds b _)[i]?=_;rw[Qq (by omega)]
     have heq:w'.heap[b]?=some (.stringIter ⟨l.toArray⟩ (pos+(QR ⟨l.toArray⟩ pos).2)):=by
      show(w.heap.setIfInBounds b _)[b]?=_;rw[ο hbl]
     have sx:∀i,({st with bs:=st.bs.set k (.iter l (pos+(QR ⟨l.toArray⟩ pos).2))}:St).aG i=st.aG i:=by
      intro i;simp only[QN]
      by_cases hik:i=k
      ·subst hik;rw[QX iL,hb];rfl
      ·rw[π (by omega)]
     have UX:dK w (st.x β Z) w' (({st with bs:=st.bs.set k (.iter l (pos+(QR ⟨l.toArray⟩ pos).2))}:St).x β Z):=by
      refine⟨fun i p hp=>⟨p,hp⟩,fun i hi=>⟨hi,hne i fun e=>h.zd k b 0 hβ (e▸hi)⟩,fun i q p hi hq=>⟨q,?_,μ _⟩,fun i q hq nS i' y hy=>⟨hy,?_⟩⟩
      ·have:=sx i;show st.aG i=some q;rw[←this];exact hq
      ·by_cases e:i'=b
       ·subst e;simp[cK,heq,EZ]
       ·exact et (hne i' e)
     refine⟨.tuple #[.bool true,.int .i64 pos,.int .i32 (QR ⟨l.toArray⟩ pos).1],w',?_,⟨⟨?_,?_,h.inj,h.zd,?_,?_,?_,?_⟩,UX,⟨rfl,rfl,rfl,by simp[w'],fun i _ hn=>hne i fun e=>hn ⟨k,0,e▸hβ,eD F'⟩⟩,
      fun i q y hq=>.inl ⟨y,hq⟩,fun _ hz=>.inl hz,by simp,rfl,rfl,?_,fun i _ h0=>by
       have:i≠k:=fun e=>by subst e;rw[hβ] at h0;cases h0
       dsimp only;rw[π (by omega)]
       exact⟨h0,rfl⟩⟩,?_⟩
     ·simp only[J7,ι,getObj,setObj];simp[Qm,EZ,hsz,hp,goInt,w']
     ·intro i q y hq;simp;exact h.dom i q y hq
     ·intro i q y hq;simp only[w',QV];exact h.lt i q y hq
     ·intro i hi;simp only[w',QV];exact h.zl i hi
     ·intro i q y bx hq ir;(dsimp only at ir)
      by_cases hik:i=k
      ·subst hik;rw[QX iL] at ir;cases ir;rw[hβ] at hq;cases hq;exact⟨rfl,heq⟩
      ·rw[π (by omega)] at ir;exact(h.box i q y bx hq ir).bd UX (hne q fun e=>hik (h.inj i k q _ _ hq (e▸hβ)))
     ·have:=h.flr;simp;omega
     ·have:=h.ro;simp;omega
     ·intro i hi;have:=eD F';dsimp only;rw[π (by omega)];exact⟨rfl,rfl⟩
     ·refine .im _ _ (.tup _ [.bool true,.int .i64 pos,.int .i32 (QR ⟨l.toArray⟩ pos).1] rfl fun i c v hc hv=>?_)
      match i with
      |0=>simp at hc hv;subst hc;subst hv;exact .bool _
      |1=>simp at hc hv;subst hc;subst hv;exact .int _ _
      |2=>simp at hc hv;subst hc;subst hv;exact .int _ _
      |i+3=>simp at hc
    ·cases hs
   ·rename_i hp;cases hs;refine⟨.tuple #[.bool false],w,?_,Φ h,.im _ _ (.tup _ [.bool false] rfl fun i c v hc hv=>?_)⟩
    ·simp only[J7,ι,getObj];simp[Qm,EZ,hsz,hp]
    ·match i with
     |0=>simp at hc hv;subst hc;subst hv;exact .bool _
     |i+1=>simp at hc
  ·cases hs
 ·cases hs
end
end Go.V
namespace Go.V
open Go.RowKit
def Did (P:Program) (a:Act) (o:Oper) (w:World) (v:Value) (w':World):Prop:=
 (execOp a.eval o).run P w=.ok (.value v) w'∨((execOp a.eval o).run P w=.ok .skip w'∧v=undef)
def j7 (pv:Pv) (f:Nat):Bool:=
 match pv.fi f with
 |some x=>match x.mode with
  | .ro| .nw=>true
  |_=>false
 |none=>false
def fF (pv:Pv) (o:Oper):Bool:=
 match o.op with
 | .store _ _ _=>true
 | .next _ _=>true
 | .convert s t _=>nK pv s t
 | .insert _ _ _ _=>true
 | .mapUpdate _ _ _ _=>true
 | .call ⟨.builtin b,_,_⟩=>match b with
  | .len| .min| .max=>false
  |_=>true
 | .call ⟨.value (.func f),_,_⟩=>!j7 pv f
 | .call _=>true
 |_=>false
theorem wj {P:Program} {w:World} {x:X} (pN:Bool):∀(ds:List D) (us:List Value) {d r:D} {u:Value},ds.length=us.length→(∀(i:Nat) c v,ds[i]?=some c→us[i]?=some v→VR w x c v)→VR w x d u→pS (uq pN) d ds=some r→
  ∃z,(us.foldlM (if pN then Jy else Jk) u).run P w=.ok z w∧VR w x r z
 |[],us,d,r,u,hl,_,hd,hf=>by
  cases us with
  |nil=>simp[pS] at hf;subst hf;exact⟨u,by simp,hd⟩
  |cons v us=>simp at hl
 |e::ds,us,d,r,u,hl,hr,hd,hf=>by
  cases us with
  |nil=>simp at hl
  |cons v us=>
   simp only[pS] at hf;obtain⟨m,hm,hf⟩:=ε.1 hf;have he:=hr 0 e v rfl rfl;unfold uq at hm
   split at hm
   ·rename_i k a k' b;cases hm;rw[cO hd,cO he];have hz:VR w x (.int k (if pN then(if b<a then b else a) else(if b>a then b else a))) (.int k (if pN then(if b<a then b else a) else(if b>a then b else a))):=.im _ _ (.int _ _);obtain⟨z,h1,h2⟩:=wj (P:=P) pN ds us (by simpa using hl) (fun i c v hc hv=>hr (i+1) c v hc hv) hz hf;refine⟨z,?_,h2⟩;simp only[List.foldlM_cons,ι];cases pN<;>simp[Jy,Jk] at h1⊢<;>exact h1
   ·cases hm
theorem Mc {w:World} {x:X} {d:D} {u:Value} {n:Nat} (hu:VR w x d u) (h:xP d=some n) (hs:∀s,d≠.str s):∃a c,u=.slice a n c:=by
 cases d with
 |sl es=>obtain⟨a,c,rfl,_⟩:=lq hu;simp[xP] at h;subst h;exact⟨a,c,rfl⟩
 |nul=>simp[xP] at h;subst h;exact⟨_,_,eY hu⟩
 |win k v o l s=>obtain⟨a,c,rfl,_⟩:=eX hu;simp[xP] at h;subst h;exact⟨_,_,rfl⟩
 |str s=>exact absurd rfl (hs s)
 |_=>simp[xP] at h
section
variable{pv:Pv} {P:Program} (ok:pv.Ok P)
include ok
variable{w:World}{st ai:St}{β:Nat→Option (Nat×Nat)}{Z:Nat→Prop}{d r:D}{x:X}{fr:Fr}{a:Act}
theorem Fw (h:gI w st β Z) {ow:List TypeId} {ty:TypeId} {u:Value} (hu:VR w (st.x β Z) d u) (hs:lW pv ow d st=some (r,ai)):∃z w',(QL ow.toArray ty #[u]).run P w=.ok z w'∧Nx w st β Z w' ai β Z∧VR w' (ai.x β Z) r z:=by
 unfold lW at hs
 split at hs
 ·rename_i dT rest
  split at hs
  ·rename_i e Sh
   split at hs
   ·cases hs;rw[eY hu];refine⟨.tuple #[],w,?_,Φ h,.im _ _ (.tup [] [] rfl (by simp))⟩;simp only[QL,Qk,Δ,ι,aN ok Sh,δ,ν]
   ·rename_i k aG off len sz;obtain⟨z,hz,hs⟩:=ε.1 hs
    split at hs
    ·rename_i lg;obtain⟨st1,hwr,hs⟩:=γ.1 hs;cases hs;obtain⟨a,cap,rfl,hc,hk,_,jv⟩:=eX hu
     have j8:st.aG k=some aG:=by
      unfold St.wr at hwr
      split at hwr
      ·rename_i hm;exact(df hm).2
      ·cases hwr
     obtain⟨b,base,Gi,hb,_,we⟩:=jv j8;obtain⟨zv,Uh,Rp⟩:=gQ ok w (st.x β Z) hz;have Dd:zv.cells.toList.length=sz:=by rw[←Rp.len,lg]
     obtain⟨q1,q2⟩:=rf Rp len len (μ _) Dd _ rfl
     have dM:((Array.range (len*sz)).map (zv.cells.toList.toArray[·%zv.cells.toList.toArray.size]!))=Ψ zv.cells len:=by
      have:zv.cells.size=sz:=by rw[←Dd];simp
      simp[Ψ,this]
     rw[dM] at q1 q2
     have yg:LR w (st.x β Z) (fg len z) (Ψ zv.cells len).toList:=by
      refine⟨by rw[fL,lg,QP,q1],fun u hu=>?_,fun i c u Aa hu=>?_⟩
      ·obtain⟨j,hj⟩:=QC hu
       have jI:j<len*sz:=by
        rcases η j (len*sz) with h'|h'
        ·exact h'
        ·rw[ψ (by rw[QP,q1];exact h')] at hj;cases hj
       obtain⟨u',jh,lh,_⟩:=q2 j _ (ζ (by rw[fL,lg];exact jI));rw[Θ] at hj;rw[hj] at jh;cases jh;exact lh
      ·obtain⟨u',jh,_,o5⟩:=q2 i c Aa;rw[Θ] at hu;rw[hu] at jh;cases jh;exact o5
     have hla:len=0∨(Ψ zv.cells len).toList=[]∨a=⟨b,base+off,none⟩:=by
      rcases we with rfl|⟨rfl,_⟩
      ·exact .inl (by omega)
      ·exact .inr (.inr rfl)
     rcases hla with rfl|hla
     ·have h0:(Ψ zv.cells 0).toList=[]:=by simp[Ψ]
      rw[h0] at yg;obtain⟨w',h3,β',h4,rfl⟩:=AJ (P:=P) (a:=⟨b,base+off,none⟩) h yg hwr hb (.inl rfl);simp only[storeCells,ν,JJ.injEq,true_and] at h3;subst h3;refine⟨.tuple #[],w,?_,h4,.im _ _ (.tup [] [] rfl (by simp))⟩;simp only[QL,Qk,Δ,ι,aN ok Sh,δ,ν]
     ·obtain⟨w',h3,β',h4,rfl⟩:=AJ (P:=P) h yg hwr hb hla;refine⟨.tuple #[],w',?_,h4,.im _ _ (.tup [] [] rfl (by simp))⟩
      cases len with
      |zero=>
       have h0:(Ψ zv.cells 0).toList=[]:=by simp[Ψ]
       rw[h0] at h3;simp only[storeCells,ν,JJ.injEq,true_and] at h3;subst h3;simp only[QL,Qk,Δ,ι,aN ok Sh,δ,ν]
      |succ len=>
       simp only[QL,Qk,Δ,ι,aN ok Sh,δ,Uh,h3,ν]
    ·cases hs
   ·cases hs
  ·cases hs
 ·cases hs
theorem Av (h:gI w st β Z) {b:Builtin} {ow:List TypeId} {ds:List D} {us:List Value} {ty:TypeId} {cs:Array Bool} (hl:ds.length=us.length) (hr:∀(i:Nat) c v,ds[i]?=some c→us[i]?=some v→VR w (st.x β Z) c v) (hs:bR pv b ow ds st=some (r,ai)):
  ∃z w' β',(builtin b ow.toArray ty cs us.toArray).run P w=.ok (.value z) w'∧Nx w st β Z w' ai β' Z∧VR w' (ai.x β' Z) r z∧(b=.len∨b=.min∨b=.max→Quiet w w'):=by
 unfold bR at hs
 split at hs
 ·rename_i d
  obtain⟨u,rfl⟩:∃u,us=[u]:=by
   match us,hl with
   |[u],_=>exact⟨u,rfl⟩
  have hu:=hr 0 d u rfl rfl
  split at hs
  ·rename_i t rest
   split at hs
   ·rename_i ht
    split at hs
    ·rename_i s;cases hs;rw[fV hu];refine⟨.int .i64 s.length,w,β,?_,Φ h,.im _ _ (.int _ _),fun _=>Γ _⟩;have hsz:(⟨s.toArray⟩:ByteArray).size=s.length:=by simp[Qf]
     simp[builtin,Qo,aN ok ht,goInt,hsz]
    ·cases hs
   ·rename_i e ht
    split at hs
    ·cases hs
    ·rename_i MC
     split at hs
     ·rename_i n hn;cases hs;obtain⟨a,c,e⟩:=Mc hu hn MC;refine⟨.int .i64 n,w,β,?_,Φ h,.im _ _ (.int _ _),fun _=>Γ _⟩;rw[e];simp[builtin,Qo,aN ok ht,goInt]
     ·cases hs
   ·rename_i n e ht;cases hs;refine⟨.int .i64 n,w,β,?_,Φ h,.im _ _ (.int _ _),fun _=>Γ _⟩;cases u<;>simp[builtin,Qo,aN ok ht,goInt]
   ·cases hs
  ·cases hs
 ·rename_i d e
  obtain⟨u,v,rfl⟩:∃u v,us=[u,v]:=by
   match us,hl with
   |[u,v],_=>exact⟨u,v,rfl⟩
  obtain⟨z,w',β',h1,h2,h3⟩:=C7 ok h (ty:=ty) (hr 0 d u rfl rfl) (hr 1 e v rfl rfl) hs;exact⟨z,w',β',by simp[builtin,h1],h2,h3,fun e=>by simp at e⟩
 ·rename_i d e
  obtain⟨u,v,rfl⟩:∃u v,us=[u,v]:=by
   match us,hl with
   |[u,v],_=>exact⟨u,v,rfl⟩
  obtain⟨z,w',h1,h2,h3⟩:=M7 ok h (ty:=ty) (hr 0 d u rfl rfl) (hr 1 e v rfl rfl) hs;exact⟨z,w',β,by simp[builtin,h1],h2,h3,fun e=>by simp at e⟩
 ·rename_i d
  obtain⟨u,rfl⟩:∃u,us=[u]:=by
   match us,hl with
   |[u],_=>exact⟨u,rfl⟩
  obtain⟨z,w',h1,h2,h3⟩:=Fw ok h (ty:=ty) (hr 0 d u rfl rfl) hs;exact⟨z,w',β,by simp[builtin,h1],h2,h3,fun e=>by simp at e⟩
 ·rename_i d l
  obtain⟨u,vs,rfl⟩:∃u vs,us=u::vs:=by
   match us,hl with
   |u::vs,_=>exact⟨u,vs,rfl⟩
  obtain⟨m,hm,hs⟩:=γ.1 hs;cases hs;obtain⟨z,h1,h2⟩:=wj (P:=P) true l vs (by simpa using hl) (fun i c v hc hv=>hr (i+1) c v hc hv) (hr 0 d u rfl rfl) hm;exact⟨z,w,β,by simp only[if_true] at h1;simp[builtin,Builtin.min_,h1],Φ h,h2,fun _=>Γ _⟩
 ·rename_i d l
  obtain⟨u,vs,rfl⟩:∃u vs,us=u::vs:=by
   match us,hl with
   |u::vs,_=>exact⟨u,vs,rfl⟩
  obtain⟨m,hm,hs⟩:=γ.1 hs;cases hs;obtain⟨z,h1,h2⟩:=wj (P:=P) false l vs (by simpa using hl) (fun i c v hc hv=>hr (i+1) c v hc hv) (hr 0 d u rfl rfl) hm;exact⟨z,w,β,by simp only[υ,if_false] at h1;simp[builtin,Builtin.max_,h1],Φ h,h2,fun _=>Γ _⟩
 ·cases hs
omit ok in
theorem Ag (hf:oq w x fr a.tmps) (l:List Operand):∀(i:Nat) c v,(l.map fr.ev)[i]?=some c→(l.map a.eval)[i]?=some v→VR w x c v:=by
 intro i c v hc hv;rw[Jq] at hc hv
 cases hl:l[i]? with
 |none=>simp[hl] at hc
 |some o=>simp[hl] at hc hv;subst hc;subst hv;exact uP hf o
omit ok in
theorem xt (hf:oq w x fr a.tmps) (l:List (Nat×Operand)):∀(i:Nat) p q,(l.map fun p=>(p.1,fr.ev p.2))[i]?=some p→(l.map fun p=>(p.1,a.eval p.2))[i]?=some q→p.1=q.1∧VR w x p.2 q.2:=by
 intro i p q hp hq;rw[Jq] at hp hq
 cases hl:l[i]? with
 |none=>simp[hl] at hp
 |some o=>simp[hl] at hp hq;subst hp;subst hq;exact⟨rfl,uP hf _⟩
theorem T2 (h:gI w st β Z) (hf:oq w (st.x β Z) fr a.tmps) {o:Oper} (hs:ef pv fr st o.op o.type=some (d,ai)):
  ∃v w' β',Did P a o w v w'∧Nx w st β Z w' ai β' Z∧VR w' (ai.x β' Z) d v∧(fF pv o=false→Quiet w w'):=by
 obtain⟨dst,op,ty,pos,after,guard⟩:=o
 have jq:∀{s:Sem Value} {d:D} {v:Value},execOp a.eval ⟨dst,op,ty,pos,after,guard⟩=(do pure (.value (←s)):Sem Next)→s.run P w=.ok v w→VR w (st.x β Z) d v→
   ∃v w' β',Did P a ⟨dst,op,ty,pos,after,guard⟩ w v w'∧Nx w st β Z w' st β' Z∧VR w' (st.x β' Z) d v∧(fF pv ⟨dst,op,ty,pos,after,guard⟩=false→Quiet w w'):=by
  intro s d v he hr hv;exact⟨v,w,β,.inl (by rw[he];simp[hr]),Φ h,hv,fun _=>Γ _⟩
 have full:∀{s:Sem Value} {d:D} {ai:St},execOp a.eval ⟨dst,op,ty,pos,after,guard⟩=(do pure (.value (←s)):Sem Next)→(∃z w' β',s.run P w=.ok z w'∧Nx w st β Z w' ai β' Z∧VR w' (ai.x β' Z) d z∧Quiet w w')→
   ∃v w' β',Did P a ⟨dst,op,ty,pos,after,guard⟩ w v w'∧Nx w st β Z w' ai β' Z∧VR w' (ai.x β' Z) d v∧(fF pv ⟨dst,op,ty,pos,after,guard⟩=false→Quiet w w'):=by
  rintro s d ai he ⟨z,w',β',h1,h2,h3,h4⟩;exact⟨z,w',β',.inl (by rw[he];simp[h1]),h2,h3,fun _=>h4⟩
 have ev:=fun o=>uP hf o;simp only at hs;unfold ef at hs
 split at hs
 ·rename_i x;cases hs;exact⟨a.eval x,w,β,.inl rfl,Φ h,ev x,fun _=>Γ _⟩
 ·rename_i x;cases hs;exact⟨a.eval x,w,β,.inl rfl,Φ h,ev x,fun _=>Γ _⟩
 ·rename_i c p q;have hc:=ev c
  split at hs
  ·rename_i hb;cases hs;rw[hb] at hc;exact jq (s:=do pure (if←asBool (a.eval c) then a.eval p else a.eval q)) (by simp[execOp]) (by rw[eN hc];simp[asBool]) (ev p)
  ·rename_i hb;cases hs;rw[hb] at hc;exact jq (s:=do pure (if←asBool (a.eval c) then a.eval p else a.eval q)) (by simp[execOp]) (by rw[eN hc];simp[asBool]) (ev q)
  ·cases hs
 ·rename_i e;obtain⟨cs,hz,hs⟩:=γ.1 hs;cases hs;exact full rfl (FN ok h hz)
 ·rename_i e x;obtain⟨cs,hz,hs⟩:=γ.1 hs;cases hs;exact full rfl (Em (P:=P) h (oa (ev x) hz) e)
 ·rename_i t parts;obtain⟨r,hb,hs⟩:=γ.1 hs;cases hs;obtain⟨z,h1,h2⟩:=FG ok (parts':=parts.toList.map fun p=>(p.1,a.eval p.2)) (by simp) (xt hf _) hb;refine jq rfl ?_ h2
  have:(parts.map fun(x:Nat×Operand)=>match x with|(i,x)=>(i,a.eval x))=(parts.toList.map fun p=>(p.1,a.eval p.2)).toArray:=by
   apply QO;simp
  simp only[this];exact h1
 ·rename_i t len parts;have hb:=tP ok h (parts':=parts.toList.map fun p=>(p.1,a.eval p.2)) (by simp) (xt hf _) hs
  have:(parts.map fun(x:Nat×Operand)=>match x with|(i,x)=>(i,a.eval x))=(parts.toList.map fun p=>(p.1,a.eval p.2)).toArray:=by
   apply QO;simp
  refine full (s:=Instr.buildSlice t len (parts.map fun(x:Nat×Operand)=>match x with|(i,x)=>(i,a.eval x))) rfl ?_;rw[this];exact hb
 ·rename_i t ad;obtain⟨r,hl,hs⟩:=γ.1 hs;cases hs;have hv:=ev ad;unfold gO at hl
  split at hl
  ·rename_i k aG off hd;rw[hd] at hv;obtain⟨⟨ar,c⟩,hm,hl⟩:=ε.1 hl;obtain⟨p,hp,_,jv⟩:=cz hv;obtain⟨b,base,hb,rfl⟩:=jv (df hm).2;obtain⟨z,h1,h2⟩:=qL ok ((h.cells hm hb).drop off) hl;refine jq rfl ?_ h2;rw[hp];simp[JH,Jw,h1]
  ·rename_i c hd;rw[hd] at hv;obtain⟨b,off,hp,_,hc,_⟩:=rj hv;obtain⟨z,h1,h2⟩:=qL ok hc hl;refine jq rfl ?_ h2;rw[hp];simp[JH,Jw,h1]
  ·cases hl
 ·rename_i t ad x;obtain⟨st1,gi,hs⟩:=γ.1 hs;cases hs;obtain⟨w',h1,h2⟩:=Du ok h (ev ad) (ev x) gi;exact⟨undef,w',β,.inr ⟨by simp[execOp,h1],rfl⟩,h2,.im _ _ (.tup [] [] rfl (by simp)),fun e=>by simp[fF] at e⟩
 ·rename_i x;have hv:=ev x
  split at hs
  ·rename_i k v o hd;cases hs;rw[hd] at hv;obtain⟨p,hp,_⟩:=cz hv;exact⟨a.eval x,w,β,.inl (by simp[execOp,hp]),Φ h,hv,fun _=>Γ _⟩
  ·rename_i c hd;cases hs;rw[hd] at hv;obtain⟨b,off,hp,_⟩:=rj hv;exact⟨a.eval x,w,β,.inl (by simp[execOp,hp]),Φ h,hv,fun _=>Γ _⟩
  ·rename_i f c hd;cases hs;rw[hd] at hv;obtain⟨vs,hp,_⟩:=wN hv;exact⟨a.eval x,w,β,.inl (by simp[execOp,hp]),Φ h,hv,fun _=>Γ _⟩
  ·cases hs
 ·rename_i bop t x y _;obtain⟨r,hb,hs⟩:=γ.1 hs;cases hs;obtain⟨z,h1,h2⟩:=SM ok x y (ev x) (ev y) hb;exact jq rfl h1 h2
 ·rename_i uop t x;obtain⟨r,hb,hs⟩:=γ.1 hs;cases hs;obtain⟨z,h1,h2⟩:=Tz (P:=P) (ev x) hb;exact jq rfl h1 h2
 ·rename_i s t x;obtain⟨z,w',β',h1,h2,h3,h4⟩:=M8 ok h (ev x) hs;exact⟨z,w',β',.inl (by simp[execOp,h1]),h2,h3,fun e=>h4 (by simpa[fF] using e)⟩
 ·rename_i f first captured
  split at hs
  ·rename_i U';cases hs;have U':first=#[]:=by simpa using U'
   subst U';refine⟨.func (.func f) #[] (captured.toList.map a.eval).toArray,w,β,.inl ?_,Φ h,.fn f _ _ (by simp) (Ag hf _),fun _=>Γ _⟩;have:captured.map a.eval=(captured.toList.map a.eval).toArray:=by apply QO;simp
   rw[←this];simp[execOp,Instr.makeFunc]
  ·cases hs
 ·rename_i t l c;exact full rfl (vJ ok h (ev l) (ev c) hs)
 ·rename_i t x lo hi;obtain⟨r,hb,hs⟩:=γ.1 hs;cases hs;obtain⟨z,h1,h2⟩:=DC ok h (uA:=lo.map a.eval) (i_:=hi.map a.eval) (ev x) (fun d v e1 e2=>by cases lo with|none=>cases e1|some q=>cases e1;cases e2;exact ev q) (fun d v e1 e2=>by cases hi with|none=>cases e1|some q=>cases e1;cases e2;exact ev q) (by cases lo<;>rfl) (by cases hi<;>rfl) hb;exact jq rfl h1 h2
 ·rename_i t x f;obtain⟨r,hb,hs⟩:=γ.1 hs;cases hs;obtain⟨z,h1,h2⟩:=wm ok (ev x) hb;exact jq rfl h1 h2
 ·rename_i t x f;obtain⟨r,hb,hs⟩:=γ.1 hs;cases hs;obtain⟨z,h1,h2⟩:=Fg ok (ev x) hb;exact jq rfl h1 h2
 ·rename_i t x i;obtain⟨r,hb,hs⟩:=γ.1 hs;cases hs;obtain⟨z,h1,h2⟩:=vS ok (ev x) (ev i) hb;exact jq rfl h1 h2
 ·rename_i t x i;obtain⟨r,hb,hs⟩:=γ.1 hs;cases hs;obtain⟨z,h1,h2⟩:=EE ok (ev x) (ev i) hb;exact jq rfl h1 h2
 ·rename_i t x;exact full rfl (DU ok h (ev x) hs)
 ·rename_i t r;obtain⟨z,w',β',h1,h2,h3,h4⟩:=zF ok h (u:=r.map a.eval) (by cases r<;>simp) (fun d v e1 e2=>by cases r with|none=>cases e1|some q=>cases e1;cases e2;exact ev q) hs;exact⟨z,w',β',.inl (by simp[execOp,h1]),h2,h3,fun _=>h4⟩
 ·rename_i t m k x;obtain⟨st1,gi,hs⟩:=γ.1 hs;cases hs;obtain⟨w',h1,h2⟩:=uu ok h (ev m) (ev k) (ev x) gi;exact⟨undef,w',β,.inr ⟨by simp[execOp,h1],rfl⟩,h2,.im _ _ (.tup [] [] rfl (by simp)),fun e=>by simp[fF] at e⟩
 ·rename_i t m k x;obtain⟨st1,gi,hs⟩:=γ.1 hs;cases hs;obtain⟨w',h1,h2⟩:=uu ok h (ev m) (ev k) (ev x) gi;exact⟨undef,w',β,.inr ⟨by simp[execOp,h1],rfl⟩,h2,.im _ _ (.tup [] [] rfl (by simp)),fun e=>by simp[fF] at e⟩
 ·rename_i t x i;obtain⟨r,hb,hs⟩:=γ.1 hs;cases hs;obtain⟨z,h1,h2⟩:=Cq ok h (ev x) (ev i) hb;exact jq rfl h1 h2
 ·rename_i it s;obtain⟨z,w',h1,h2,h3⟩:=LY (P:=P) (ty:=ty) h (ev it) hs;exact⟨z,w',β,.inl (by simp[execOp,h1]),h2,h3,fun e=>by simp[fF] at e⟩
 ·rename_i t i;have hv:=ev t
  split at hs
  ·rename_i ds hd;rw[hd] at hv;obtain⟨r,hb,hs⟩:=γ.1 hs;cases hs;obtain⟨vs,hp,hl,hr⟩:=vd hv
   have hi:i<ds.length:=by
    rcases η i ds.length with h'|h'
    ·exact h'
    ·rw[ψ h'] at hb;cases hb
   have i_:vs[i]?=some (vs[i]'(by omega)):=ζ _;refine jq rfl ?_ (hr i _ _ hb i_);rw[hp];simp[Instr.extract,i_]
  ·cases hs
 ·rename_i b args ow;have hb:=Av ok h (us:=args.toList.map a.eval) (ty:=ty) (cs:=args.map fun| .const _=>true|_=>false) (by simp) (Ag hf _) hs;obtain⟨z,w',β',h1,h2,h3,h4⟩:=hb;refine⟨z,w',β',.inl ?_,h2,h3,fun e=>h4 (by cases b<;>simp[fF] at e⊢)⟩;have:args.map a.eval=(args.toList.map a.eval).toArray:=by apply QO;simp
  simp only[Array.toArray_toList] at h1;simp only[execOp,resolve,invoke,this,ι,ν,δ];exact h1
 ·cases hs
end
end Go.V
namespace Go.V
open Go.RowKit
theorem ch {d:D}:∀{ds:List D},d∈ds→d.ref≤refs ds
 |e::ds,h=>by
  rcases Qa.1 h with rfl|h
  ·simp only[refs];exact Nat.le_max_left _ _
  ·have:=ch h;simp only[refs];exact θ this (QK _ _)
theorem qU {N:Nat}:∀{ds:List D},(∀d∈ds,d.ref≤N)→refs ds≤N
 |[],_=>by simp[refs]
 |d::ds,h=>by
  simp only[refs];exact Nat.max_le.2 ⟨h d (Qj ..),qU fun e he=>h e (QW _ he)⟩
structure eE (st ai:St):Prop where
 len:st.bs.length≤ai.bs.length
 flr:ai.flr=st.flr
 ro:ai.ro=st.ro
 low:∀k,k<st.ro→k<st.bs.length→ai.bs[k]?=st.bs[k]?
 fl:∀k bx wA,k<st.flr→st.bs[k]?=some bx→ai.bs[k]?=some wA→∀d∈wA.cells,d.ref≤max (k+1) (refs bx.cells)
theorem eE.refl (st:St):eE st st:=⟨μ _,rfl,rfl,fun _ _ _=>rfl,fun _ _ _ _ h h' d hd=>by rw[h] at h';cases h';exact θ (ch hd) (QK _ _)⟩
variable{k:Nat}{st:St}
theorem f_ {α:Type} {l:List α} {x:α} (h:l[k]?=some x):k<l.length:=by
 rcases η k l.length with h'|h'
 ·exact h'
 ·rw[ψ h'] at h;cases h
theorem eE.trans {a b c:St} (h:eE a b) (g:eE b c):eE a c:=
 ⟨θ h.len g.len,g.flr.trans h.flr,g.ro.trans h.ro,fun k hk hl=>(g.low k (by rw[h.ro];exact hk) (ξ hl h.len)).trans (h.low k hk hl),fun k bx wA hk h1 h2 d hd=>by
  have hb:k<b.bs.length:=ξ (f_ h1) h.len;have h3:=g.fl k _ wA (by rw[h.flr];exact hk) (ζ hb) h2 d hd;have h4:refs (b.bs[k]).cells≤max (k+1) (refs bx.cells):=qU fun e he=>h.fl k bx _ hk h1 (ζ hb) e he
  omega⟩
theorem eE.push (st:St) (b:iI):eE st (st.push b):=
 ⟨by simp[QS],rfl,rfl,fun k _ hl=>by simp[QS,τ hl],fun k bx wA _ h1 h2 d hd=>by
  simp only[QS,τ (f_ h1)] at h2
  rw[h1] at h2;cases h2;exact θ (ch hd) (QK _ _)⟩
theorem eE.set (st:St) (k:Nat) (b b0:iI) (h:st.ro≤k) (h0:st.bs[k]?=some b0) (hc:st.flr≤k∨∀d∈b.cells,d∈b0.cells∨d.ref≤max (k+1) (refs b0.cells)):eE st {st with bs:=st.bs.set k b}:=
 ⟨by simp,rfl,rfl,fun i hi _=>by simp only;rw[π (by omega)],fun i bx wA hi h1 h2 d hd=>by
  by_cases hik:k=i
  ·subst hik;rw[h0] at h1;cases h1;simp only at h2;rw[QX (f_ h0)] at h2;cases h2
   rcases hc with hc|hc
   ·omega
   ·rcases hc d hd with h|h
    ·exact θ (ch h) (QK _ _)
    ·exact h
  ·simp only at h2;rw[π hik,h1] at h2;cases h2
   exact θ (ch hd) (QK _ _)⟩
theorem pK {d:D}:∀(cs c:List D) (off:Nat),d∈setMany c off cs→d∈c∨d∈cs
 |[],c,off,h=>.inl h
 |x::xs,c,off,h=>by
  rcases pK xs _ _ h with h|h
  ·rcases List.mem_or_eq_of_mem_set h with h|rfl
   ·exact .inl h
   ·exact .inr (Qj ..)
  ·exact .inr (QW _ h)
theorem vG {aG:Nat} {a:Bool} {c:List D} (h:st.fk k aG=some (a,c)):st.bs[k]?=some (.mem aG a c):=by
 unfold St.fk at h
 split at h
 ·rename_i v a' c' hb
  split at h
  ·rename_i hv;cases h;rw[hb,hv]
  ·cases h
 ·cases h
theorem BH {r:Nat} (h:st.jn k r=true):st.flr≤k∨r≤max (k+1) (st.vn k):=by
 simp only[St.jn,ρ,Jv,decide_eq_true_eq] at h;omega
theorem ub {b:iI} (h:st.bs[k]?=some b):st.vn k=refs b.cells:=by simp only[St.vn,h]
def ot (st ai:St):Prop:=∃l,ai=⟨st.bs++l,st.flr,st.ro⟩
theorem ot.rfl (st:St):ot st st:=⟨[],by simp⟩
theorem ot.push (st:St) (b:iI):ot st (st.push b):=⟨[b],by simp[QS]⟩
theorem ot.goes {ai:St} (h:ot st ai):eE st ai:=by
 obtain⟨l,rfl⟩:=h
 exact⟨by simp,Eq.refl _,Eq.refl _,fun k _ hl=>by simp only;rw[τ hl],fun k bx wA _ h1 h2 d hd=>by
  simp only at h2;rw[τ (f_ h1),h1] at h2;cases h2
  exact θ (ch hd) (QK _ _)⟩
structure iP (P:Program) (pv:Pv) (cf:eS):Prop where
 fn:∀f ds st r,cf f ds st=some r→∃fn b,P.funcs[f]?=some fn∧fn.body=some b∧fn.name≠ "runtime.NumGoroutine"
 calls:∀f ds st d ai,cf f ds st=some (d,ai)→∀w β Z (us:List Value),gI w st β Z→ds.length=us.length→(∀(i:Nat) c v,ds[i]?=some c→us[i]?=some v→VR w (st.x β Z) c v)→
  Calls P f us.toArray w fun e w'=>∃v β' Z',e=.returned v∧Nx w st β Z w' ai β' Z'∧VR w' (ai.x β' Z') d v∧(j7 pv f=true→Quiet w w')
 ro:∀f ds st d ai,cf f ds st=some (d,ai)→j7 pv f=true→ot st ai
 len:∀f ds st d ai,cf f ds st=some (d,ai)→eE st ai
section
variable{pv:Pv} {P:Program} (ok:pv.Ok P) {cf:eS} (eL:iP P pv cf)
include ok eL
variable{w:World}{fr:Fr}{a:Act}{o:Oper}
theorem qV {st ai:St} {β:Nat→Option (Nat×Nat)} {Z:Nat→Prop} (h:gI w st β Z) (hf:oq w (st.x β Z) fr a.tmps) {d:D} (hs:fv pv cf fr st o=some (d,ai)) {next:Act→World→Prop} {Q:Exit→Act→World→Prop} (K:∀v w' β' Z',Nx w st β Z w' ai β' Z'→VR w' (ai.x β' Z') d v→(fF pv o=false→Quiet w w')→next (a.put o.dst v) w'):o.wp P a w next Q:=by
 unfold fv at hs
 split at hs
 ·rename_i f args ow gv
  split at hs
  ·rename_i g jL aL;have hv:=uP hf f;rw[aL] at hv;obtain⟨vs,he,hl,hr⟩:=wN hv;obtain⟨fn,b,hfn,hb,US⟩:=eL.fn _ _ _ _ hs;have NN:=Ag hf args.toList
   have hrel:∀(i:Nat) c v,(args.toList.map fr.ev++jL)[i]?=some c→(args.toList.map a.eval++vs)[i]?=some v→VR w (st.x β Z) c v:=by
    intro i c v hc hv;rw[QA] at hc hv;simp only[List.length_map] at hc hv
    split at hc
    ·rename_i hi;rw[if_pos hi] at hv;exact NN i c v hc hv
    ·rename_i hi;rw[if_neg hi] at hv;exact hr _ c v hc hv
   have ju:=eL.calls _ _ _ _ _ hs w β Z (args.toList.map a.eval++vs) h (by simp[hl]) hrel
   have j_:(execOp a.eval o).run P w=.ok (.enter g (args.toList.map a.eval++vs).toArray) w:=by
    obtain⟨dst,op,ty,pos,after,guard⟩:=o;simp only at gv;subst gv;have hbn:fn.body.isNone=false:=by simp[hb]
    have hn:(fn.name== "runtime.NumGoroutine")=false:=by simpa using US
    have MV:args.map a.eval++vs.toArray=(args.toList.map a.eval++vs).toArray:=by
     apply QO;simp
    simp only[execOp,resolve,he,Deferred.ofValue,ι,ν,δ,invoke,callFunc,run_program,hfn,hn,hbn,υ,if_false,Array.empty_append,MV]
   unfold Oper.wp;rw[j_,Oper.upon_enter];refine ju.mono fun e w' ⟨v,β',Z',he,hn,hv,eT⟩=>?_;subst he;refine K v w' β' Z' hn hv ?_;intro he;simp only[fF,gv] at he
   cases f with
   |func g'=>
    simp only[Fr.ev] at aL;cases aL;exact eT (by simpa using he)
   |_=>simp at he
  ·cases hs
 ·rename_i op gv;obtain⟨v,w',β',hd,hn,hv,hq⟩:=T2 ok h hf (o:=o) hs;have hK:next (a.put o.dst v) w':=K v w' β' Z hn hv hq;unfold Oper.wp
  rcases hd with hd|⟨hd,rfl⟩
  ·rw[hd,Oper.upon_value];exact hK
  ·rw[hd,Oper.upon_skip];exact hK
omit ok eL in
theorem qJ {x:X} {ops:Array Oper} (hf:oq w x fr a.tmps) {b:Bool} (h:aH ops fr o=some b):J' o (yielded ops a.tmps)=b:=by
 unfold aH at h;unfold J'
 split at h
 ·rename_i hg;rw[hg];cases h;rfl
 ·rename_i j want hg;rw[hg]
  split at h
  ·cases h
  ·rename_i t ht;have hv:=hf t;show(yielded ops a.tmps j==some want)=b
   have hy:∀u,a.tmps[t]?=u→yielded ops a.tmps j=match u with|some (.bool b)=>some b|_=>none:=by
    intro u hu;simp only[yielded,ht,Ξ,hu]
    cases u with
    |none=>rfl
    |some v=>cases v<;>rfl
   split at h
   ·rename_i b' hb;rw[hb] at hv;have hv:=eN hv;cases h
    have:a.tmps[t]?=some (.bool b'):=by
     rw[κ] at hv
     cases Rx:a.tmps[t]? with
     |none=>rw[Rx] at hv;simp[undef] at hv
     |some v=>rw[Rx] at hv;simp at hv;rw[hv]
    rw[hy _ this];cases b'<;>cases want<;>rfl
   ·rename_i ds hb;rw[hb] at hv;obtain⟨vs,hv,_⟩:=vd hv;cases h;rw[κ] at hv
    cases Rx:a.tmps[t]? with
    |none=>rw[hy _ Rx];cases want<;>rfl
    |some v=>rw[Rx] at hv;simp at hv;rw[hv] at Rx;rw[hy _ Rx];cases want<;>rfl
   ·cases h
omit ok eL in
theorem lD (a:Act) (dst:Option Nat) (v:Value):(a.put dst v).tmps.size=a.tmps.size:=by
 cases dst<;>simp[Act.put]
omit ok eL in
theorem put_defers (a:Act) (dst:Option Nat) (v:Value):(a.put dst v).defers=a.defers:=by
 cases dst<;>simp[Act.put]
def uR (ops:List Oper) (n:Nat):Prop:=∀o∈ops,∀t,o.dst=some t→t<n
theorem zu {ops:Array Oper} {Q:Exit→Act→World→Prop}:∀(l:List Oper) (i:Nat) (fr aM:Fr) (st ai:St) (β:Nat→Option (Nat×Nat)) (Z:Nat→Prop) (a:Act) (w:World),(∀j,l[j]?=ops[i+j]?)→
  jk pv cf ops l fr st=some (aM,ai)→gI w st β Z→oq w (st.x β Z) fr a.tmps→uR l a.tmps.size→
  (∀a' w' β' Z',Nx w st β Z w' ai β' Z'→oq w' (ai.x β' Z') aM a'.tmps→a'.defers=a.defers→a'.tmps.size=a.tmps.size→Q .normal a' w')→wpOps P ops Q (List.range' i l.length) a w
 |[],i,fr,aM,st,ai,β,Z,a,w,_,hs,h,hf,_,K=>by
  simp only[jk] at hs;cases hs;exact K a w β Z (Φ h) hf rfl rfl
 |o::l,i,fr,aM,st,ai,β,Z,a,w,hl,hs,h,hf,hd,K=>by
  have ho:ops[i]?=some o:=by have:=hl 0;simpa using this.symm
  have gP:∀j,l[j]?=ops[i+1+j]?:=fun j=>by have:=hl (j+1);simpa[JC,JL 1 j] using this
  have WX:uR l a.tmps.size:=fun p hp=>hd p (QW _ hp);simp only[Jz,List.range'_succ,wpOps,ho];simp only[jk] at hs
  split at hs
  ·rename_i hw;rw[qJ hf hw];simp only[if_true];left
   split at hs
   ·rename_i d st1 gv;refine qV ok eL h hf gv fun v w' β' Z' hn hv _=>zu l (i+1) _ aM st1 ai β' Z' _ w' gP hs hn.sim (DX (hf.mono hn.keeps) hv o.dst fun t ht=>hd o (Qj ..) t ht) (by rw[lD];exact WX) fun a' Tu tB Ga EU tx Y4 hsz=>?_;exact K a' Tu tB Ga (hn.trans EU) tx (by rw[Y4,put_defers]) (by rw[hsz,lD])
   ·cases hs
  ·rename_i hw;rw[qJ hf hw];simp only[υ,if_false];refine zu l (i+1) _ aM st ai β Z _ w gP hs h (DX hf (.im _ _ (.tup [] [] rfl (by simp))) o.dst fun t ht=>hd o (Qj ..) t ht) (by rw[lD];exact WX) fun a' Tu tB Ga EU tx Y4 hsz=>?_;exact K a' Tu tB Ga EU tx (by rw[Y4,put_defers]) (by rw[hsz,lD])
  ·cases hs
end
end Go.V
namespace Go.V
open Go.RowKit
variable{fr aM:Fr}{pv:Pv}{st ai:St}{x d s:D}{cf:eS}{ops:Array Oper}{o y:Oper}{dy:List (Nat×Nat)}{i j:Nat}{E:Nat→Bool}
theorem zE {l:List Operand} (h:∀x∈l,fr.ev x=aM.ev x):l.map fr.ev=l.map aM.ev:=J8 h
theorem xu {l:List (Nat×Operand)} (h:∀p∈l,fr.ev p.2=aM.ev p.2):l.map (fun p=>(p.1,fr.ev p.2))=l.map (fun p=>(p.1,aM.ev p.2)):=
 J8 fun p hp=>by rw[h p hp]
theorem Cf {op:Op} {ty:TypeId} (h:∀x∈op.operands.toList,fr.ev x=aM.ev x):ef pv fr st op ty=ef pv aM st op ty:=by
 unfold ef
 cases op with
 |build t ps=>simp only;rw[xu fun p hp=>h p.2 (by simp[Ω];exact⟨p.1,by simpa using hp⟩)]
 |buildSlice t len ps=>simp only;rw[xu fun p hp=>h p.2 (by simp[Ω];exact⟨p.1,by simpa using hp⟩)]
 |makeFunc f first captured=>
  cases f<;>simp only
  have:captured.toList.map fr.ev=captured.toList.map aM.ev:=zE fun x hx=>h x (by simp[Ω];right;simpa using hx);rw[this]
 |slice t x lo hi mx=>
  cases mx<;>simp only
  have hx:fr.ev x=aM.ev x:=h x (by simp[Ω])
  have wF:lo.map fr.ev=lo.map aM.ev:=by
   cases lo with
   |none=>rfl
   |some l=>simp only[QU];rw[h l (by simp[Ω])]
  have Bs:hi.map fr.ev=hi.map aM.ev:=by
   cases hi with
   |none=>rfl
   |some l=>simp only[QU];rw[h l (by simp[Ω])]
  rw[hx,wF,Bs]
 |makeMap t r=>
  cases r with
  |none=>rfl
  |some x=>simp only[QU];rw[h x (by simp[Ω])]
 |lookup t x i ok=>
  simp only[Ω,Qa,Jj,or_false,forall_eq_or_imp,forall_eq,J9] at h;cases ok
  ·simp only[h]
  ·rfl
 |call c=>
  obtain⟨callee,args,ow⟩:=c;cases callee<;>simp only
  have:args.toList.map fr.ev=args.toList.map aM.ev:=zE fun x hx=>h x (by simp[Ω,Call.operands];simpa using hx);rw[this]
 |_=>simp only[Ω,Qa,Jj,or_false,forall_eq_or_imp,forall_eq,J9] at h<;>simp only[h]
def tmpsOf:List Operand→List Nat
 |[]=>[]
 | .tmp t::l=>t::tmpsOf l
 |_::l=>tmpsOf l
theorem mQ {t:Nat}:∀{l:List Operand},.tmp t∈l→t∈tmpsOf l
 |x::l,h=>by
  rcases Qa.1 h with rfl|h
  ·simp[tmpsOf]
  ·have:=mQ h;cases x<;>simp[tmpsOf,this]
def looks (ops:Array Oper) (o:Oper):List Nat:=
  (match o.guard with
   |some (j,_)=>match(ops[j]?).bind (·.dst) with
     |some t=>[t]
     |none=>[]
   |none=>[])++tmpsOf o.op.operands.toList
theorem yv {ts:List Nat} (h:∀t∈ts,fr.get t=aM.get t) {x:Operand} (hx:∀t,x=.tmp t→t∈ts):fr.ev x=aM.ev x:=by
 cases x<;>first|rfl|exact h _ (hx _ rfl)
theorem xz (h:∀t∈looks ops o,fr.get t=aM.get t):fv pv cf fr st o=fv pv cf aM st o:=by
 have he:∀x∈o.op.operands.toList,fr.ev x=aM.ev x:=fun x hx=>yv h fun t e=>by subst e;exact J0 _ (mQ hx)
 unfold fv
 split
 ·rename_i f args ow gv;rw[gv] at he;have hf:fr.ev f=aM.ev f:=he f (by simp[Ω,Call.operands]);have ha:args.toList.map fr.ev=args.toList.map aM.ev:=zE fun x hx=>he x (by simp[Ω,Call.operands];right;simpa using hx);rw[hf,ha]
 ·exact Cf he
theorem wM (h:∀t∈looks ops o,fr.get t=aM.get t):aH ops fr o=aH ops aM o:=by
 unfold aH
 cases hg:o.guard with
 |none=>rfl
 |some p=>
  obtain⟨j,want⟩:=p;simp only
  cases ht:(ops[j]?).bind (·.dst) with
  |none=>rfl
  |some t=>
   simp only;rw[h t (by simp[looks,hg,ht])]
def Ce (o:Oper):Bool:=
 match o.op with
 | .move _| .assign _| .pick _ _ _| .alloc _| .box _ _| .build _ _| .buildSlice _ _ _| .nilCheck _| .binOp _ _ _ _ _| .unOp _ _ _| .makeFunc _ _ _| .makeSlice _ _ _
 | .fieldAddr _ _ _| .field _ _ _| .index _ _ _| .extract _ _=>true
 | .call ⟨.builtin b,_,_⟩=>match b with
  | .len| .min| .max=>true
  |_=>false
 |_=>false
theorem Au {b:Builtin} {ow:List TypeId} {args:List D} (hb:b=.len∨b=.min∨b=.max) (h:bR pv b ow args st=some (d,ai)) (T:St):ai=st∧bR pv b ow args T=some (d,T):=by
 rcases hb with rfl|rfl|rfl
 ·match args,h with
  |[x],h=>
   simp only[bR] at h⊢
   split at h
   ·split at h
    ·split at h
     ·cases h;exact⟨rfl,rfl⟩
     ·cases h
    ·cases x with
     |str s=>cases h
     |_=>
      simp only at h⊢
      split at h
      ·rename_i n hn;cases h;exact⟨rfl,by simp only[hn]⟩
      ·cases h
    ·cases h;exact⟨rfl,rfl⟩
    ·cases h
   ·cases h
  |[],h=>simp[bR] at h
  |_::_::_,h=>simp[bR] at h
 ·match args,h with
  |[],h=>simp[bR] at h
  |x::l,h=>
   simp only[bR] at h⊢;obtain⟨r,hz,hs⟩:=γ.1 h;cases hs;exact⟨rfl,by rw[hz];rfl⟩
 ·match args,h with
  |[],h=>simp[bR] at h
  |x::l,h=>
   simp only[bR] at h⊢;obtain⟨r,hz,hs⟩:=γ.1 h;cases hs;exact⟨rfl,by rw[hz];rfl⟩
theorem D' (hp:Ce o=true) (h:ef pv fr st o.op o.type=some (d,ai)) (T:St) (hT:T.bs.length=st.bs.length):
  ∃T',ef pv fr T o.op o.type=some (d,T')∧((ai=st∧T'=T)∨∃ar cs,ai=st.push (.mem 0 ar cs)∧T'=T.push (.mem 0 ar cs)):=by
 obtain⟨dst,op,ty,pos,after,guard⟩:=o;simp only at h⊢;cases op<;>simp only[Ce,υ] at hp<;>simp only[ef] at h⊢
 case move x=>cases h;exact⟨T,rfl,.inl ⟨rfl,rfl⟩⟩
 case assign x=>cases h;exact⟨T,rfl,.inl ⟨rfl,rfl⟩⟩
 case pick c p q=>split at h<;>first|(cases h;exact⟨T,rfl,.inl ⟨rfl,rfl⟩⟩)|cases h
 case alloc e=>
  obtain⟨cs,hz,hs⟩:=γ.1 h;cases hs;exact⟨_,by rw[hz,hT];rfl,.inr ⟨_,_,rfl,rfl⟩⟩
 case box e x=>
  obtain⟨cs,hz,hs⟩:=γ.1 h;cases hs;exact⟨_,by rw[hz,hT];rfl,.inr ⟨_,_,rfl,rfl⟩⟩
 case build t ps=>
  obtain⟨r,hz,hs⟩:=γ.1 h;cases hs;exact⟨_,by rw[hz];rfl,.inl ⟨rfl,rfl⟩⟩
 case buildSlice t len ps=>
  unfold ij at h⊢
  split at h
  ·rename_i e ht;obtain⟨s,hsz,h⟩:=ε.1 h;obtain⟨z,hz,h⟩:=ε.1 h
   split at h
   ·rename_i wJ;obtain⟨cs,hf,hs⟩:=γ.1 h;cases hs;exact⟨_,by simp only[hsz,hz,Ξ,wJ,and_self,if_true,hf,QU,hT],.inr ⟨_,_,rfl,rfl⟩⟩
   ·cases h
  ·cases h
 case nilCheck x=>split at h<;>first|(cases h;exact⟨T,rfl,.inl ⟨rfl,rfl⟩⟩)|cases h
 case binOp a b c d e=>
  obtain⟨r,hz,hs⟩:=γ.1 h;cases hs;exact⟨_,by rw[hz];rfl,.inl ⟨rfl,rfl⟩⟩
 case unOp a b c=>
  obtain⟨r,hz,hs⟩:=γ.1 h;cases hs;exact⟨_,by rw[hz];rfl,.inl ⟨rfl,rfl⟩⟩
 case makeFunc f first captured=>
  cases f<;>simp only at h⊢<;>first|cases h|skip
  split at h
  ·rename_i U';cases h;exact⟨T,by rw[if_pos U'],.inl ⟨rfl,rfl⟩⟩
  ·cases h
 case makeSlice t l c=>
  unfold gZ at h⊢
  split at h
  ·rename_i e k l k' c ht hl hc;obtain⟨i,hi,h⟩:=ε.1 h;obtain⟨z,hz,h⟩:=ε.1 h
   split at h
   ·rename_i wJ;cases h;simp only[hi,hz,Ξ];rw[if_pos wJ,hT];exact⟨_,rfl,.inr ⟨_,_,rfl,rfl⟩⟩
   ·cases h
  ·cases h
 case fieldAddr a b c=>
  obtain⟨r,hz,hs⟩:=γ.1 h;cases hs;exact⟨_,by rw[hz];rfl,.inl ⟨rfl,rfl⟩⟩
 case field a b c=>
  obtain⟨r,hz,hs⟩:=γ.1 h;cases hs;exact⟨_,by rw[hz];rfl,.inl ⟨rfl,rfl⟩⟩
 case index a b c=>
  obtain⟨r,hz,hs⟩:=γ.1 h;cases hs;exact⟨_,by rw[hz];rfl,.inl ⟨rfl,rfl⟩⟩
 case extract t i=>
  split at h
  ·obtain⟨r,hz,hs⟩:=γ.1 h;cases hs;exact⟨_,by rw[hz];rfl,.inl ⟨rfl,rfl⟩⟩
  ·cases h
 case call c=>
  obtain⟨callee,args,ow⟩:=c;cases callee<;>simp only[υ] at hp h⊢
  rename_i b;have hb:b=.len∨b=.min∨b=.max:=by cases b<;>simp at hp⊢
  obtain⟨rfl,h2⟩:=Au hb h T;exact⟨T,h2,.inl ⟨rfl,rfl⟩⟩
theorem nr {k aG off:Nat} {cs:List D} (h:st.wr k aG off cs=some ai):eE st ai:=by
 unfold St.wr at h
 split at h
 ·split at h
  ·rename_i a c hm hc;cases h;exact eE.set st k _ _ (eD hc.2) (vG hm) ((BH hc.2).imp id fun hr d hd=>(pK _ _ _ hd).imp id fun hd=>θ (ch hd) (by rw[ub (vG hm)] at hr;exact hr))
  ·cases h
 ·cases h
theorem yP {ow:List TypeId} (h:iO pv ow s x st=some (d,ai)):eE st ai:=by
 unfold iO at h
 split at h
 ·split at h
  ·split at h
   ·cases h
   ·obtain⟨i,hi,h⟩:=ε.1 h;obtain⟨z,hz,h⟩:=ε.1 h;obtain⟨⟨n,ys⟩,kY,h⟩:=ε.1 h;dsimp only at h
    split at h
    ·cases h
    ·cases s with
     |nul=>
      simp only at h
      split at h
      ·cases h;exact .refl _
      ·split at h
       ·cases h;exact .push _ _
       ·cases h
     |win k aG off len sz=>
      simp only at h
      split at h
      ·split at h
       ·cases h
       ·split at h
        ·cases h;exact .refl _
        ·split at h
         ·rename_i hc;cases h;have hbk:=vG (by assumption);refine eE.set st k _ _ (eD hc.2) hbk ((BH hc.2).imp id fun hr d hd=>?_);rw[ub hbk] at hr
          rcases List.mem_append.1 hd with hd|hd
          ·exact .inl (List.mem_of_mem_take (J5 hd))
          ·exact .inr (θ (ch hd) hr)
         ·cases h
      ·cases h
     |_=>cases h
  ·cases h
 ·cases h
theorem CW {ow:List TypeId} (h:uU pv ow s x st=some (d,ai)):eE st ai:=by
 unfold uU at h
 split at h
 ·split at h
  ·obtain⟨i,hi,h⟩:=ε.1 h;obtain⟨⟨n,ys⟩,kY,h⟩:=ε.1 h;dsimp only at h
   split at h
   ·cases h
   ·cases s with
    |nul=>cases h;exact .refl _
    |win k aG off len sz=>
     simp only at h
     split at h
     ·cases h
     ·obtain⟨r,hz,hs⟩:=γ.1 h;cases hs;exact nr hz
    |_=>cases h
  ·cases h
 ·cases h
theorem As {ow:List TypeId} (h:lW pv ow s st=some (d,ai)):eE st ai:=by
 unfold lW at h
 split at h
 ·split at h
  ·cases s with
   |nul=>cases h;exact .refl _
   |win k aG off len sz=>
    simp only at h;obtain⟨i,hi,h⟩:=ε.1 h
    split at h
    ·obtain⟨r,hz,hs⟩:=γ.1 h;cases hs;exact nr hz
    ·cases h
   |_=>cases h
  ·cases h
 ·cases h
theorem Ck {b:Bool} (h:ui x b st=some (d,ai)):eE st ai:=by
 unfold ui at h
 split at h
 ·split at h
  ·split at h
   ·split at h
    ·rename_i hc;cases h;exact eE.set st _ _ _ (eD hc) (by assumption) (.inr fun d hd=>by simp[iI.cells] at hd)
    ·cases h
   ·cases h;exact .refl _
  ·cases h
 ·cases h
theorem pL {t:TypeId} {m key v:D} (h:jt pv t m key v st=some ai):eE st ai:=by
 unfold jt at h
 split at h
 ·split at h
  ·rename_i hb
   split at h
   ·rename_i hc
    split at h
    ·cases h;exact eE.set st _ _ _ (eD hc) hb (.inr fun d hd=>by simp[iI.cells] at hd)
    ·cases h;exact eE.set st _ _ _ (eD hc) hb (.inr fun d hd=>by simp[iI.cells] at hd)
    ·cases h
   ·cases h
  ·cases h
 ·cases h
theorem Ea (h:ef pv fr st o.op o.type=some (d,ai)):eE st ai∧(fF pv o=false→ot st ai):=by
 by_cases hp:Ce o=true
 ·obtain⟨T',_,⟨rfl,_⟩|⟨ar,cs,rfl,_⟩⟩:=D' hp h st rfl
  ·exact⟨.refl _,fun _=>.rfl _⟩
  ·exact⟨.push _ _,fun _=>.push _ _⟩
 ·obtain⟨dst,op,ty,pos,after,guard⟩:=o;simp only at h
  have ad:ot st ai→eE st ai∧(fF pv ⟨dst,op,ty,pos,after,guard⟩=false→ot st ai):=fun ha=>⟨ha.goes,fun _=>ha⟩
  cases op<;>simp only[Ce,not_true_eq_false,υ,not_false_eq_true] at hp<;>simp only[ef] at h
  case load t a=>obtain⟨r,hz,hs⟩:=γ.1 h;cases hs;exact ad (.rfl _)
  case store t a x=>
   obtain⟨r,hz,hs⟩:=γ.1 h;cases hs;refine⟨?_,fun e=>by simp[fF] at e⟩;unfold lu at hz
   split at hz
   ·split at hz
    ·exact nr hz
    ·cases hz
   ·cases hz
  case convert s t x=>
   refine ad ?_;unfold yD at h
   split at h
   ·cases h;exact .rfl _
   ·cases h;exact .rfl _
   ·cases h;exact .rfl _
   ·split at h
    ·split at h
     ·cases h;exact .push _ _
     ·cases h
    ·cases h
   ·split at h
    ·split at h
     ·cases h;exact .rfl _
     ·cases h
    ·cases h
   ·split at h
    ·split at h
     ·cases h
     ·split at h
      ·obtain⟨r,hz,hs⟩:=γ.1 h;cases hs;exact .rfl _
      ·cases h
    ·cases h
   ·cases h
  case slice t x lo hi mx=>
   cases mx<;>simp only at h<;>first|cases h|skip
   obtain⟨r,hz,hs⟩:=γ.1 h;cases hs;exact ad (.rfl _)
  case indexAddr t x i=>obtain⟨r,hz,hs⟩:=γ.1 h;cases hs;exact ad (.rfl _)
  case range t x=>
   refine ad ?_;unfold vq at h
   split at h
   ·cases h;exact .push _ _
   ·cases h
  case next it s=>exact⟨Ck h,fun e=>by simp[fF] at e⟩
  case makeMap t r=>
   refine ad ?_;unfold nL at h
   split at h
   ·cases h;exact .push _ _
   ·split at h
    ·cases h;exact .push _ _
    ·cases h
   ·cases h
  case insert t m k x=>
   obtain⟨r,hz,hs⟩:=γ.1 h;cases hs;exact⟨pL hz,fun e=>by simp[fF] at e⟩
  case mapUpdate t m k x=>
   obtain⟨r,hz,hs⟩:=γ.1 h;cases hs;exact⟨pL hz,fun e=>by simp[fF] at e⟩
  case lookup t x i ok=>
   cases ok<;>simp only at h<;>first|cases h|skip
   obtain⟨r,hz,hs⟩:=γ.1 h;cases hs;exact ad (.rfl _)
  case call c=>
   obtain⟨callee,args,ow⟩:=c
   cases callee<;>simp only at h<;>first|cases h|skip
   rename_i b;unfold bR at h;refine⟨?_,fun e=>?_⟩
   ·split at h
    ·exact absurd hp (by simp)
    ·exact yP h
    ·exact CW h
    ·exact As h
    ·exact absurd hp (by simp)
    ·exact absurd hp (by simp)
    ·cases h
   ·cases b<;>simp[fF] at e<;>simp at hp
  all_goals cases h
theorem rM {P:Program} (eL:iP P pv cf) (h:fv pv cf fr st o=some (d,ai)):eE st ai∧(fF pv o=false→ot st ai):=by
 unfold fv at h
 split at h
 ·rename_i f args ow gv
  split at h
  ·rename_i g jL aL;refine⟨eL.len _ _ _ _ _ h,fun e=>?_⟩;simp only[fF,gv] at e
   cases f with
   |func g'=>
    simp only[Fr.ev] at aL;cases aL;exact eL.ro _ _ _ _ _ h (by simpa using e)
   |_=>simp at e
  ·cases h
 ·exact Ea h
def oU (acc:List Nat):List Edge→Nat
 |[]=>0
 |e::l=>match Qx .any e with
  |true=>oU acc l|||(1<<<e.on)|||acc.getD e.on 0
  |false=>oU acc l
def Eu:List Oper→List Nat→List Nat
 |[],acc=>acc
 |o::l,acc=>Eu l (acc++[oU acc o.after.toList])
def wo (d:Option Nat) (l:List Nat):Bool:=
 match d with
 |some t=>l.contains t
 |none=>false
def A3:Option Nat→Option Nat→Bool
 |some a,some b=>a==b
 |_,_=>false
def FZ (o:Oper):Bool:=(ia o.op).isSome
def k_ (pv:Pv) (ops:Array Oper) (b:Bool) (x y:Oper):Bool:=
 wo x.dst (looks ops y)||wo y.dst (looks ops x)||A3 x.dst y.dst||(fF pv x &&!Ce y &&!(FZ y &&b))||(fF pv y &&!Ce x &&!(FZ x &&b))
def listed (dy:List (Nat×Nat)) (i j:Nat):Bool:=dy.any fun p=>QI p.1 i &&QI p.2 j
def LQ (pv:Pv) (ops:Array Oper) (dy:List (Nat×Nat)) (ms:List Nat) (j:Nat):Bool:=
 match ops[j]? with
 |some y=>(y.after.toList.all fun e=>!Qx .any e||J2 e.on j) &&(Ql j).all fun i=>match ops[i]? with
  |some x=>!k_ pv ops (listed dy i j) x y||(ms.getD j 0).testBit i
  |none=>true
 |none=>true
def lG (pv:Pv) (ops:Array Oper) (dy:List (Nat×Nat)):Bool:=(Ql ops.size).all (LQ pv ops dy (Eu ops.toList []))
def wD (ops:Array Oper) (E:Nat→Bool):Prop:=∀k o,E k=true→ops[k]?=some o→∀e∈o.after.toList,Qx .any e=true→E e.on=true
def FW (E:Nat→Bool) (acc:List Nat):Prop:=∀k i,(acc.getD k 0).testBit i=true→E k=true→E i=true
theorem vH {E:Nat→Bool} {acc:List Nat} (ha:FW E acc) {i:Nat}:∀(l:List Edge),(oU acc l).testBit i=true→(∀e∈l,Qx .any e=true→E e.on=true)→E i=true
 |[],h,_=>by simp[oU] at h
 |e::l,h,he=>by
  have qZ:∀e∈l,Qx .any e=true→E e.on=true:=fun e h=>he e (QW _ h);unfold oU at h
  cases hb:Qx .any e with
  |false=>rw[hb] at h;exact vH ha l h qZ
  |true=>
   rw[hb] at h;simp only[Nat.testBit_or,Jv] at h;have hon:=he e (Qj ..) hb
   rcases h with(h|h)|h
   ·exact vH ha l h qZ
   ·rw[Nat.one_shiftLeft,Nat.testBit_two_pow] at h;have:e.on=i:=by simpa using h
    rw[←this];exact hon
   ·exact ha _ _ h hon
theorem xK {E:Nat→Bool} {ops:Array Oper} (hc:wD ops E):∀(l:List Oper) (acc:List Nat),(∀j,l[j]?=ops[acc.length+j]?)→FW E acc→FW E (Eu l acc)
 |[],acc,_,h=>h
 |o::l,acc,hl,h=>by
  have h0:=hl 0;simp only[Δ,Nat.add_zero] at h0;refine xK hc l _ (fun j=>?_) fun k i hk hE=>?_
  ·have:=hl (j+1);simp only[Qs] at this;rw[this];simp[JC,JL 1 j]
  ·rcases QQ k acc.length with hlt|heq|Ti
   ·simp only[Qw,τ hlt] at hk;exact h k i (by simpa only[Qw] using hk) hE
   ·subst heq;simp only[Qw] at hk;simp at hk;exact vH h _ hk (hc _ o hE h0.symm)
   ·simp only[Qw] at hk;rw[ψ (by simp;omega)] at hk;simp at hk
theorem me (h:lG pv ops dy=true) {x:Oper} (hij:i<j) (hx:ops[i]?=some x) (hy:ops[j]?=some y) (hc:k_ pv ops (listed dy i j) x y=true) (hE:wD ops E) (hj:E j=true):E i=true:=by
 have yj:j<ops.size:=by
  rcases η j ops.size with h'|h'
  ·exact h'
  ·rw[Qz h'] at hy;cases hy
 have h1:=QZ.1 h j (Qi.2 yj);unfold LQ at h1;rw[hy] at h1;simp only[ρ] at h1;have h2:=QZ.1 h1.2 i (Qi.2 hij);rw[hx] at h2;simp only[hc,JG,JU] at h2;exact xK hE ops.toList [] (fun j=>by simp) (fun k i hk _=>by simp at hk) j i h2 hj
theorem zw (h:lG pv ops dy=true) (hy:ops[j]?=some y) {e:Edge} (he:e∈y.after.toList) (hb:Qx .any e=true):e.on<j:=by
 have yj:j<ops.size:=by
  rcases η j ops.size with h'|h'
  ·exact h'
  ·rw[Qz h'] at hy;cases hy
 have h1:=QZ.1 h j (Qi.2 yj);unfold LQ at h1;rw[hy] at h1;simp only[ρ] at h1;have:=QZ.1 h1.1 e he;simp only[hb,JG,JU] at this;have:=QD this;omega
structure Trace (pv:Pv) (cf:eS) (ops:Array Oper) (l:List Oper) (F:Nat→Fr) (S:Nat→St) (dd:Nat→D):Prop where
 put:∀i o,l[i]?=some o→F (i+1)=(F i).aj o.dst (dd i)
 step:∀i o,l[i]?=some o→(aH ops (F i) o=some true∧fv pv cf (F i) (S i) o=some (dd i,S (i+1)))∨(aH ops (F i) o=some false∧dd i=.tup []∧S (i+1)=S i)
theorem trace {pv:Pv} {cf:eS} {ops:Array Oper}:∀(l:List Oper) (fr:Fr) (st:St) (aM:Fr) (ai:St),jk pv cf ops l fr st=some (aM,ai)→
  ∃(F:Nat→Fr) (S:Nat→St) (dd:Nat→D),F 0=fr∧S 0=st∧F l.length=aM∧S l.length=ai∧Trace pv cf ops l F S dd
 |[],fr,st,aM,ai,h=>by
  simp only[jk] at h;cases h;exact⟨fun _=>fr,fun _=>st,fun _=>.bD,rfl,rfl,rfl,rfl,by intro i o h;simp at h,by intro i o h;simp at h⟩
 |o::l,fr,st,aM,ai,h=>by
  simp only[jk] at h
  have mk:∀(d:D) (st1:St),((aH ops fr o=some true∧fv pv cf fr st o=some (d,st1))∨(aH ops fr o=some false∧d=.tup []∧st1=st))→jk pv cf ops l (fr.aj o.dst d) st1=some (aM,ai)→
    ∃(F:Nat→Fr) (S:Nat→St) (dd:Nat→D),F 0=fr∧S 0=st∧F (o::l).length=aM∧S (o::l).length=ai∧Trace pv cf ops (o::l) F S dd:=by
   intro d st1 gi hr;obtain⟨F,S,dd,h1,h2,h3,h4,h5⟩:=trace l _ _ _ _ hr;refine⟨fun|0=>fr|i+1=>F i,fun|0=>st|i+1=>S i,fun|0=>d|i+1=>dd i,rfl,rfl,h3,h4,⟨fun i p hp=>?_,fun i p hp=>?_⟩⟩
   ·cases i with
    |zero=>simp at hp;subst hp;exact h1
    |succ i=>exact h5.put i p (by simpa using hp)
   ·cases i with
    |zero=>simp at hp;subst hp;simp only[h2];exact gi
    |succ i=>exact h5.step i p (by simpa using hp)
  split at h
  ·rename_i hw
   split at h
   ·rename_i d st1 gv;exact mk d st1 (.inl ⟨hw,gv⟩) h
   ·cases h
  ·rename_i hw;exact mk _ st (.inr ⟨hw,rfl,rfl⟩) h
  ·cases h
def d_ (ops:Array Oper) (E:Nat→Bool) (t:Nat):Nat→Option Nat
 |0=>none
 |k+1=>match ops[k]? with
  |some o=>if E k=true∧o.dst=some t then some k else d_ ops E t k
  |none=>d_ ops E t k
theorem f' (ops:Array Oper) (E:Nat→Bool) (t:Nat):∀(n:Nat),match d_ ops E t n with
  |some j=>j<n∧E j=true∧(∃o,ops[j]?=some o∧o.dst=some t)∧∀i o,j<i→i<n→ops[i]?=some o→o.dst=some t→E i=false
  |none=>∀i o,i<n→ops[i]?=some o→o.dst=some t→E i=false
 |0=>by intro i o h;omega
 |n+1=>by
  have ih:=f' ops E t n;unfold d_
  cases hn:ops[n]? with
  |none=>
   simp only
   cases hl:d_ ops E t n with
   |none=>
    rw[hl] at ih;intro i o hi ho hd
    rcases η i n with h'|h'
    ·exact ih i o h' ho hd
    ·have:i=n:=by omega
     subst this;rw[hn] at ho;cases ho
   |some j=>
    rw[hl] at ih;refine⟨by omega,ih.2.1,ih.2.2.1,fun i o hj hi ho hd=>?_⟩
    rcases η i n with h'|h'
    ·exact ih.2.2.2 i o hj h' ho hd
    ·have:i=n:=by omega
     subst this;rw[hn] at ho;cases ho
  |some p=>
   simp only
   by_cases hc:E n=true∧p.dst=some t
   ·rw[if_pos hc];exact⟨by omega,hc.1,⟨p,hn,hc.2⟩,fun i o hj hi=>by omega⟩
   ·rw[if_neg hc]
    have hE:∀o,ops[n]?=some o→o.dst=some t→E n=false:=by
     intro o ho hd;rw[hn] at ho;cases ho
     cases hq:E n with
     |false=>rfl
     |true=>exact absurd ⟨hq,hd⟩ hc
    cases hl:d_ ops E t n with
    |none=>
     rw[hl] at ih;intro i o hi ho hd
     rcases η i n with h'|h'
     ·exact ih i o h' ho hd
     ·have:i=n:=by omega
      subst this;exact hE o ho hd
    |some j=>
     rw[hl] at ih;refine⟨by omega,ih.2.1,ih.2.2.1,fun i o hj hi ho hd=>?_⟩
     rcases η i n with h'|h'
     ·exact ih.2.2.2 i o hj h' ho hd
     ·have:i=n:=by omega
      subst this;exact hE o ho hd
theorem rZ {E':Nat→Bool} {t a b:Nat} (h1:∀i o,ops[i]?=some o→o.dst=some t→((i<a∧E i=true)↔(i<b∧E' i=true))):d_ ops E t a=d_ ops E' t b:=by
 have s1:=f' ops E t a;have s2:=f' ops E' t b
 cases h:d_ ops E t a with
 |none=>
  rw[h] at s1
  cases h':d_ ops E' t b with
  |none=>rfl
  |some j=>
   rw[h'] at s2;obtain⟨q1,q2,⟨o,q3,q4⟩,_⟩:=s2;obtain⟨r1,r2⟩:=(h1 j o q3 q4).2 ⟨q1,q2⟩;have:=s1 j o r1 q3 q4;rw[this] at r2;cases r2
 |some j=>
  rw[h] at s1;obtain⟨p1,p2,⟨o,p3,p4⟩,p5⟩:=s1;obtain⟨r1,r2⟩:=(h1 j o p3 p4).1 ⟨p1,p2⟩
  cases h':d_ ops E' t b with
  |none=>
   rw[h'] at s2;have:=s2 j o r1 p3 p4;rw[this] at r2;cases r2
  |some k=>
   rw[h'] at s2;obtain⟨q1,q2,⟨o',q3,q4⟩,q5⟩:=s2;obtain⟨u1,u2⟩:=(h1 k o' q3 q4).2 ⟨q1,q2⟩
   congr 1
   rcases QQ j k with hlt|heq|Ti
   ·have:=p5 k o' hlt u1 q3 q4;rw[this] at u2;cases u2
   ·exact heq
   ·have:=q5 j o Ti r1 p3 p4;rw[this] at r2;cases r2
def tN (fr:Fr) (t:Nat) (d:D):D:=if J1 fr.n t=false∧fr.loc.length≤t then .bD else d
theorem DZ (fr:Fr) (dst:Option Nat) (d:D) (u:Nat):(fr.aj dst d).get u=if dst=some u then tN fr u d else fr.get u:=by
 cases dst with
 |none=>simp[Fr.aj]
 |some t=>
  simp only[Fr.aj,BA,tN]
  by_cases h:u=t
  ·subst h;simp
  ·rw[if_neg h,if_neg (by simpa using fun e=>h e.symm)]
theorem zo (fr:Fr) (dst:Option Nat) (d:D) (t:Nat) (e:D):tN (fr.aj dst d) t e=tN fr t e:=by
 cases dst with
 |none=>rfl
 |some u=>
  have h1:(fr.put u d).n=fr.n:=by unfold Fr.put;split<;>rfl
  have h2:(fr.put u d).loc.length=fr.loc.length:=by unfold Fr.put;split<;>simp
  simp only[Fr.aj,tN,h1,h2]
theorem oz {pv:Pv} {cf:eS} {ops:Array Oper} {F:Nat→Fr} {S:Nat→St} {dd:Nat→D} (h:Trace pv cf ops ops.toList F S dd) (t:Nat):∀(i:Nat),i≤ops.size→
  (F i).get t=(match d_ ops (fun _=>true) t i with|some j=>tN (F 0) t (dd j)|none=>(F 0).get t)∧∀e,tN (F i) t e=tN (F 0) t e
 |0,_=>⟨rfl,fun _=>rfl⟩
 |i+1,hi=>by
  obtain⟨S7,Bk⟩:=oz h t i (by omega);have ho:ops[i]?=some ops[i]:=ς (by omega);have hp:=h.put i ops[i] (by simpa using ho);rw[hp];refine⟨?_,fun e=>by rw[zo];exact Bk e⟩;rw[DZ];unfold d_;rw[ho];simp only[true_and]
  split
  ·exact Bk _
  ·exact S7
def entry (j:Nat) (log:Log) (l:List Oper) (F:Nat→Fr) (S:Nat→St) (i:Nat):Option (Oper×Fr×St×St):=
 if i<j then log[j-1-i]? else(l[i-j]?).map fun x=>(x,F (i-j),S (i-j),S (i-j+1))
def AF (dy:List (Nat×Nat)) (ops:Array Oper) (j:Nat) (log:Log) (l:List Oper) (F:Nat→Fr) (S:Nat→St):Prop:=
 ∀q o,l[q]?=some o→aH ops (F q) o=some true→∀i,i<j+q→listed dy i (j+q)=true→∃x fi si qN,entry j log l F S i=some (x,fi,si,qN)∧iW x fi si qN o (F q) (S q) (S (q+1))=true
theorem Fy {log:Log} (h:Fz dy j log o fr st ai=true) (hi:i<j) (hl:listed dy i j=true):∃x fi si qN,log[j-1-i]?=some (x,fi,si,qN)∧iW x fi si qN o fr st ai=true:=by
 unfold listed at hl;obtain⟨p,hp,he⟩:=List.any_eq_true.1 hl;simp only[ρ] at he;have h1:=QJ he.1;have h2:=QJ he.2;have:=QZ.1 h p hp
 have hb:(QI p.2 j &&J2 p.1 j)=true:=by
  rw[he.2,h1];simp[J2];omega
 rw[hb] at this;simp only[h1] at this
 split at this
 ·rename_i x fi si qN hx;exact⟨x,fi,si,qN,hx,this⟩
 ·cases this
theorem Dt {pv:Pv} {cf:eS} {ops:Array Oper} {dy:List (Nat×Nat)}:∀(l:List Oper) (j:Nat) (log:Log) (fr:Fr) (st:St) (aM:Fr) (ai:St),log.length=j→pY pv cf ops dy j log l fr st=some (aM,ai)→
  ∃(F:Nat→Fr) (S:Nat→St) (dd:Nat→D),F 0=fr∧S 0=st∧F l.length=aM∧S l.length=ai∧Trace pv cf ops l F S dd∧AF dy ops j log l F S
 |[],j,log,fr,st,aM,ai,hj,h=>by
  simp only[pY] at h;cases h;exact⟨fun _=>fr,fun _=>st,fun _=>.bD,rfl,rfl,rfl,rfl,⟨by intro i o h;simp at h,by intro i o h;simp at h⟩,by intro q o h;simp at h⟩
 |o::l,j,log,fr,st,aM,ai,hj,h=>by
  simp only[pY] at h
  have mk:∀(d:D) (st1:St),((aH ops fr o=some true∧fv pv cf fr st o=some (d,st1)∧Fz dy j log o fr st st1=true)∨(aH ops fr o=some false∧d=.tup []∧st1=st))→pY pv cf ops dy (j+1) ((o,fr,st,st1)::log) l (fr.aj o.dst d) st1=some (aM,ai)→
    ∃(F:Nat→Fr) (S:Nat→St) (dd:Nat→D),F 0=fr∧S 0=st∧F (o::l).length=aM∧S (o::l).length=ai∧Trace pv cf ops (o::l) F S dd∧AF dy ops j log (o::l) F S:=by
   intro d st1 gi hr;obtain⟨F,S,dd,h1,h2,h3,h4,h5,h6⟩:=Dt l (j+1) _ _ _ _ _ (by simp[hj]) hr;refine⟨fun|0=>fr|i+1=>F i,fun|0=>st|i+1=>S i,fun|0=>d|i+1=>dd i,rfl,rfl,h3,h4,⟨fun i p hp=>?_,fun i p hp=>?_⟩,fun q p hp hw i hi hl=>?_⟩
   ·cases i with
    |zero=>simp at hp;subst hp;exact h1
    |succ i=>exact h5.put i p (by simpa using hp)
   ·cases i with
    |zero=>
     simp at hp;subst hp;simp only[h2]
     rcases gi with⟨a,b,_⟩|h
     ·exact .inl ⟨a,b⟩
     ·exact .inr h
    |succ i=>exact h5.step i p (by simpa using hp)
   ·cases q with
    |zero=>
     simp at hp;subst hp;simp only at hw⊢
     rcases gi with⟨_,_,hc⟩|⟨hn,_,_⟩
     ·obtain⟨x,fi,si,qN,e1,e2⟩:=Fy hc (i:=i) (by omega) hl;refine⟨x,fi,si,qN,?_,by simp only[h2];exact e2⟩;unfold entry;rw[if_pos (by omega)];exact e1
     ·rw[hn] at hw;cases hw
    |succ q=>
     obtain⟨x,fi,si,qN,e1,e2⟩:=h6 q p (by simpa using hp) hw i (by omega) (by rw[show j+1+q=j+(q+1) by omega];exact hl);refine⟨x,fi,si,qN,?_,e2⟩;unfold entry at e1⊢
     rcases QQ i j with h'|h'|h'
     ·rw[if_pos (by omega)] at e1;rw[if_pos h'];rw[show j+1-1-i=(j-1-i)+1 by omega] at e1
      simpa using e1
     ·subst h';rw[if_pos (by omega)] at e1;rw[if_neg (by omega)];simp at e1;simp[h2];exact e1
     ·rw[if_neg (by omega)] at e1;rw[if_neg (by omega)]
      obtain⟨m,hm⟩:∃m,i=j+1+m:=⟨i-(j+1),by omega⟩
      subst hm;rw[show j+1+m-(j+1)=m by omega] at e1;rw[show j+1+m-j=m+1 by omega]
      simpa using e1
  split at h
  ·rename_i hw
   split at h
   ·rename_i d st1 gv
    split at h
    ·rename_i hc;exact mk d st1 (.inl ⟨hw,gv,hc⟩) h
    ·cases h
   ·cases h
  ·rename_i hw;exact mk _ st (.inr ⟨hw,rfl,rfl⟩) h
  ·cases h
def Still (dy:List (Nat×Nat)) (ops:Array Oper) (F:Nat→Fr) (S:Nat→St):Prop:=
 ∀r q y a k x,ops[r]?=some y→ia y.op=some a→aH ops (F r) y=some true→((F r).ev a).na=some k→ops[q]?=some x→FZ x=false→aH ops (F q) x=some true→(q<r→listed dy q r=true)→(r<q→listed dy r q=true)→
  (S (q+1)).bs[k]?=(S q).bs[k]?∧(r<q→mN (some k) (S r) (S (q+1))=true)
theorem Dv {F:Nat→Fr} {S:Nat→St} (hl:AF dy ops 0 [] ops.toList F S):Still dy ops F S:=by
 intro r q y a k x hy ha hw hk hx Rq hwx h1 h2
 have Ul:ia x.op=none:=by
  unfold FZ at Rq
  cases h:ia x.op with
  |none=>rfl
  |some _=>rw[h] at Rq;cases Rq
 rcases QQ q r with h'|h'|h'
 ·obtain⟨x',fi,si,qN,e1,e2⟩:=hl r y (by simpa using hy) hw q (by omega) (by rw[JM];exact h1 h');simp only[entry,JK,if_false,J3,Θ,hx,QU,QG.injEq,Prod.mk.injEq] at e1;obtain⟨rfl,rfl,rfl,rfl⟩:=e1;simp only[iW,ha,hk] at e2;exact⟨tU e2,fun h=>by omega⟩
 ·subst h';rw[hx] at hy;cases hy;rw[Ul] at ha;cases ha
 ·obtain⟨x',fi,si,qN,e1,e2⟩:=hl q x (by simpa using hx) hwx r (by omega) (by rw[JM];exact h2 h');simp only[entry,JK,if_false,J3,Θ,hy,QU,QG.injEq,Prod.mk.injEq] at e1;obtain⟨rfl,rfl,rfl,rfl⟩:=e1;simp only[iW,Ul,ha,hk,ρ] at e2;exact⟨tU e2.1,fun _=>e2.2⟩
theorem Et (p:Nat→Prop) (base:Nat):∀n,∃m,base≤m∧(∀j,j<n→p j→j+1≤m)∧(m=base∨∃j,j<n∧p j∧m=j+1)
 |0=>⟨base,μ _,fun _ h=>by omega,.inl rfl⟩
 |n+1=>by
  obtain⟨m,h1,h2,h3⟩:=Et p base n
  by_cases hp:p n
  ·by_cases hm:n+1≤m
   ·refine⟨m,h1,fun j hj WS=>?_,?_⟩
    ·rcases η j n with h'|h'
     ·exact h2 j h' WS
     ·have:j=n:=by omega
      subst this;exact hm
    ·rcases h3 with h3|⟨j,q1,q2,q3⟩
     ·exact .inl h3
     ·exact .inr ⟨j,by omega,q2,q3⟩
   ·refine⟨n+1,by omega,fun j hj _=>by omega,.inr ⟨n,by omega,hp,rfl⟩⟩
  ·refine⟨m,h1,fun j hj WS=>?_,?_⟩
   ·rcases η j n with h'|h'
    ·exact h2 j h' WS
    ·have:j=n:=by omega
     subst this;exact absurd WS hp
   ·rcases h3 with h3|⟨j,q1,q2,q3⟩
    ·exact .inl h3
    ·exact .inr ⟨j,by omega,q2,q3⟩
def eU (pv:Pv) (ops:Array Oper) (F:Nat→Fr) (i:Nat):Prop:=∃o,ops[i]?=some o∧fF pv o=true∧aH ops (F i) o=some true
def Hs (S:Nat→St) (sg:Nat→Nat) (k:Nat):iI:=((S (sg k)).bs[k]?).getD .dead
def Xm (S:Nat→St) (sg:Nat→Nat) (β:Nat→Option (Nat×Nat)) (Z:Nat→Prop) (m:Nat):X:=⟨fun k=>db (Hs S sg k),fun k=>if k<(S m).bs.length then β k else none,Z⟩
def SX (ops:Array Oper) (E:Nat→Bool) (t:Nat):Nat:=
 match d_ ops E t ops.size with
 |some j=>j+1
 |none=>0
def val (ops:Array Oper) (F:Nat→Fr) (dd:Nat→D) (E:Nat→Bool) (t:Nat):D:=
 match d_ ops E t ops.size with
 |some j=>tN (F 0) t (dd j)
 |none=>(F 0).get t
structure DI (pv:Pv) (ops:Array Oper) (F:Nat→Fr) (S:Nat→St) (dd:Nat→D) (a0:Act) (w0:World) (β0:Nat→Option (Nat×Nat)) (Z0:Nat→Prop)
  (E:Nat→Bool) (a:Act) (w:World) (β:Nat→Option (Nat×Nat)) (Z:Nat→Prop) (sg:Nat→Nat):Prop where
 size:a.tmps.size=a0.tmps.size
 defers:a.defers=a0.defers
 clo:wD ops E
 bnd:∀k,E k=true→k<ops.size
 dom:∀k p,β k=some p→k<(S (sg k)).bs.length∧sg k≤ops.size∧(sg k=0∨∃j,E j=true∧sg k=j+1∧(eU pv ops F j∨(S j).bs.length≤k))
 cr:∀k p,β k=some p→∀i,i<ops.size→(S i).bs.length≤k→k<(S (i+1)).bs.length→E i=true
 sg2:∀k p,β k=some p→∀j,E j=true→eU pv ops F j→k<(S j).bs.length→j+1≤sg k
 ph:∀k,β k=none→∀j,E j=true→eU pv ops F j→k<(S j).bs.length→(S (j+1)).bs[k]?=(S j).bs[k]?
 lt:∀k b base,β k=some (b,base)→b<w.heap.size
 inj:∀k k' b x x',β k=some (b,x)→β k'=some (b,x')→k=k'
 zd:∀k b base,β k=some (b,base)→¬Z b
 zl:∀b,Z b→b<w.heap.size
 box:∀k b base,β k=some (b,base)→iH w (Xm S sg β Z (sg k)) b base (Hs S sg k)
 frame:∀t,VR w (Xm S sg β Z (SX ops E t)) (val ops F dd E t) (a.tmps.getD t undef)
 evo:BQ (wrt (S 0) β0) w0 w
 keeps:dK w0 ((S 0).x β0 Z0) w (Xm S sg β Z ops.size)
 fresh:∀k b base,β k=some (b,base)→(∃dt,β0 k=some (b,dt))∨w0.heap.size≤b
 zfresh:∀b,Z b→Z0 b∨w0.heap.size≤b
 low:∀k,k<(S 0).ro→β k=β0 k
 xB:∀k,k<(S 0).bs.length→β0 k=none→β k=none
section
variable{pv:Pv} {P:Program} (ok:pv.Ok P) {cf:eS} (eL:iP P pv cf) {ops:Array Oper} {F:Nat→Fr} {S:Nat→St} {dd:Nat→D} (ht:Trace pv cf ops ops.toList F S dd) {dy:List (Nat×Nat)} (nR:lG pv ops dy=true)
include eL ht
theorem ny (i:Nat) (hi:i<ops.size):eE (S i) (S (i+1))∧(¬eU pv ops F i→∀k,k<(S i).bs.length→(S (i+1)).bs[k]?=(S i).bs[k]?):=by
 have ho:ops[i]?=some ops[i]:=ς hi
 rcases ht.step i ops[i] (by simpa using ho) with⟨h1,h2⟩|⟨_,_,h3⟩
 ·obtain⟨g1,g2⟩:=rM eL h2;refine⟨g1,fun hn k hk=>?_⟩
  have he:fF pv ops[i]=false:=by
   cases h:fF pv ops[i] with
   |false=>rfl
   |true=>exact absurd ⟨_,ho,h,h1⟩ hn
  obtain⟨l,h⟩:=g2 he;rw[h];simp only;rw[τ hk]
 ·rw[h3];exact⟨.refl _,fun _ _ _=>rfl⟩
theorem di:∀(j i:Nat),i≤j→j≤ops.size→eE (S i) (S j)
 |0,i,h,_=>by
  have:i=0:=by omega
  subst this;exact .refl _
 |j+1,i,h,hj=>by
  rcases η i (j+1) with h'|h'
  ·exact(di j i (by omega) (by omega)).trans (ny eL ht j (by omega)).1
  ·have:i=j+1:=by omega
   subst this;exact .refl _
theorem jT {i:Nat}:∀(j:Nat),i≤j→j≤ops.size→∀k,k<(S i).bs.length→(∀q,i≤q→q<j→¬eU pv ops F q∨(S (q+1)).bs[k]?=(S q).bs[k]?)→(S j).bs[k]?=(S i).bs[k]?
 |0,h,_,k,_,_=>by
  have:i=0:=by omega
  subst this;rfl
 |j+1,h,hj,k,hk,hq=>by
  rcases η i (j+1) with h'|h'
  ·have ih:=jT j (by omega) (by omega) k hk fun q h1 h2=>hq q h1 (by omega);have kL:k<(S j).bs.length:=ξ hk (di eL ht j i (by omega) (by omega)).len
   rcases hq j (by omega) (by omega) with h1|h1
   ·exact((ny eL ht j (by omega)).2 h1 k kL).trans ih
   ·exact h1.trans ih
  ·have:i=j+1:=by omega
   subst this;rfl
variable{w:World}{sg:Nat→Nat}{β:Nat→Option (Nat×Nat)}{Z:Nat→Prop}
theorem BP {m m':Nat} (h:m≤m') (h':m'≤ops.size):dK w (Xm S sg β Z m) w (Xm S sg β Z m'):=by
 have hl:=(di eL ht m' m h h').len
 have key:∀k p,(Xm S sg β Z m).β k=some p→(Xm S sg β Z m').β k=some p:=by
  intro k p hp;simp only[Xm] at hp⊢
  split at hp
  ·rename_i hk;rw[if_pos (by omega)];exact hp
  ·cases hp
 exact⟨fun k p hp=>⟨p,key k p hp⟩,fun b hb=>⟨hb,rfl⟩,fun k c p _ hc=>⟨c,hc,μ _⟩,fun k c _ _ b base hb=>⟨key k _ hb,rfl⟩⟩
theorem w6 {a0 a:Act} {w0:World} {β0:Nat→Option (Nat×Nat)} {Z0:Nat→Prop} {E:Nat→Bool} (h:DI pv ops F S dd a0 w0 β0 Z0 E a w β Z sg) {i:Nat} (hi:i≤ops.size) (hd:∀j,j<i→eU pv ops F j→E j=true) (hu:∀j,i≤j→eU pv ops F j→E j=false) {k:Nat} {p:Nat×Nat} (hk:β k=some p) (R7:k<(S i).bs.length):
  sg k≤i∧Hs S sg k=((S i).bs[k]?).getD .dead∧(S i).bs[k]?=some (Hs S sg k):=by
 obtain⟨h1,h2,h3⟩:=h.dom k p hk
 have hle:sg k≤i:=by
  rcases h3 with h3|⟨j,q1,q2,q3⟩
  ·omega
  ·rw[q2]
   rcases q3 with q3|q3
   ·rcases η j i with h'|h'
    ·exact h'
    ·have:=hu j h' q3;rw[this] at q1;cases q1
   ·rcases η j i with h'|h'
    ·exact h'
    ·have yj:=h.bnd j q1;have:=(di eL ht j i h' (by omega)).len;omega
 have heq:=jT eL ht i hle hi k h1 fun q Mw Mv=>by
  by_cases he:eU pv ops F q
  ·have hE:=hd q Mv he;have R6:k<(S q).bs.length:=ξ h1 (di eL ht q (sg k) Mw (by omega)).len;have:=h.sg2 k p hk q hE he R6;omega
  ·exact .inl he
 refine⟨hle,by simp only[Hs];rw[heq],?_⟩;rw[heq];simp only[Hs];rw[ζ h1];rfl
end
end Go.V
namespace Go.V
open Go.RowKit
theorem iH.aG {w:World} {x:X} {b base:Nat} {bx:iI} (h:iH w x b base bx):∃c,db bx=some c:=by
 cases bx with
 |mem v a c=>exact⟨v,rfl⟩
 |iter s p=>exact⟨0,rfl⟩
 |map e=>exact⟨0,rfl⟩
 |dead=>exact h.elim
def glue (S:Nat→St) (j:Nat) (βl β:Nat→Option (Nat×Nat)):Nat→Option (Nat×Nat):=fun k=>if k<(S (j+1)).bs.length then βl k else β k
open Classical in
noncomputable def fI (pv:Pv) (ops:Array Oper) (F:Nat→Fr) (S:Nat→St) (j m:Nat) (sg:Nat→Nat):Nat→Nat:=
 fun k=>if k<(S (j+1)).bs.length∧(eU pv ops F j∨(S j).bs.length≤k) then m else sg k
section
variable{pv:Pv} {P:Program} {cf:eS} (eL:iP P pv cf) {ops:Array Oper} {F:Nat→Fr} {S:Nat→St} {dd:Nat→D} (ht:Trace pv cf ops ops.toList F S dd)
include eL ht
theorem DI.put {a0 a:Act} {w0 w w':World} {β0 β βl:Nat→Option (Nat×Nat)} {Z0 Z Zl:Nat→Prop} {E E':Nat→Bool} {sg:Nat→Nat} (h:DI pv ops F S dd a0 w0 β0 Z0 E a w β Z sg) {j m:Nat} {o:Oper} (hj:E j=false) (ho:ops[j]?=some o)
  (wg:∀k,E' k=true↔(E k=true∨k=j)) (vV:∀e∈o.after.toList,Qx .any e=true→E e.on=true) (Bq:∀i o' t,j<i→ops[i]?=some o'→o.dst=some t→o'.dst=some t→E i=false)
  (E5:∀t,o.dst=some t→t<a.tmps.size) (aaU:(S 0).ro≤(S 0).bs.length) {T T':St} {v:Value}
  (hn:Nx w T (fun k=>if k<(S j).bs.length then β k else none) Z w' T' βl Zl) (hTl:T.bs.length=(S j).bs.length) (Ze:T'.bs.length=(S (j+1)).bs.length) (hTr:T.ro=(S j).ro)
  (hv:VR w' (T'.x βl Zl) (dd j) v) (Bv:∀k p,k<(S j).bs.length→β k=some p→T.aG k=db (Hs S sg k))
  (zY:j+1≤m) (Dh:m≤ops.size) (WU:∀i,E i=true→eU pv ops F i→i+1≤m) (MG:m=j+1∨∃i,E i=true∧eU pv ops F i∧m=i+1)
  (MX:∀k p,βl k=some p→T'.aG k=db (Hs S (fI pv ops F S j m sg) k))
  (Zf:∀k b base,βl k=some (b,base)→(eU pv ops F j∨(S j).bs.length≤k)→iH w' (T'.x βl Zl) b base (Hs S (fI pv ops F S j m sg) k))
  (hq:¬eU pv ops F j→Quiet w w') (hS:eU pv ops F j→T=S j∧T'=S (j+1)):
  DI pv ops F S dd a0 w0 β0 Z0 E' (a.put o.dst v) w' (glue S j βl β) Zl (fI pv ops F S j m sg):=by
 have yj:j<ops.size:=by
  rcases η j ops.size with h'|h'
  ·exact h'
  ·rw[Qz h'] at ho;cases ho
 have hNj:=(ny eL ht j yj).1.len;have hN:∀{a b:Nat},a≤b→b≤ops.size→(S a).bs.length≤(S b).bs.length:=fun h1 h2=>(di eL ht _ _ h1 h2).len;have lk:∀k p,βl k=some p→k<(S (j+1)).bs.length:=fun k p hp=>by rw[←Ze];exact hn.sim.dom k p.1 p.2 hp
 have fA:∀k,k<(S j).bs.length→β k=none→βl k=none∧T'.bs[k]?=T.bs[k]?:=fun k hk h0=>hn.xB k (by rw[hTl];exact hk) (by simp only[if_pos hk];exact h0);have fB:∀k p,k<(S j).bs.length→β k=some p→∃p',βl k=some p':=fun k p hk hp=>hn.keeps.dm k p (by simp only[Qe,if_pos hk];exact hp)
 have fC:∀k p,(S j).bs.length≤k→k<(S (j+1)).bs.length→β k=some p→False:=fun k p h1 h2 hp=>by
  have:=h.cr k p hp j yj h1 h2;rw[hj] at this;cases this
 have NV:∀k,¬(k<(S (j+1)).bs.length∧(eU pv ops F j∨(S j).bs.length≤k))→fI pv ops F S j m sg k=sg k:=fun k hk=>by simp only[fI];rw[if_neg hk]
 have Xk:∀k,k<(S (j+1)).bs.length→(eU pv ops F j∨(S j).bs.length≤k)→fI pv ops F S j m sg k=m:=fun k h1 h2=>by simp only[fI];rw[if_pos ⟨h1,h2⟩]
 have yu:∀k,k<(S (j+1)).bs.length→glue S j βl β k=βl k:=fun k hk=>by simp only[glue,if_pos hk]
 have Bz:∀k,¬k<(S (j+1)).bs.length→glue S j βl β k=β k:=fun k hk=>by simp only[glue,if_neg hk]
 have W9:∀k,¬(k<(S (j+1)).bs.length∧(eU pv ops F j∨(S j).bs.length≤k))→Hs S (fI pv ops F S j m sg) k=Hs S sg k:=fun k hk=>by simp only[Hs,NV k hk]
 have fE:∀k b base,¬k<(S j).bs.length→β k=some (b,base)→w'.heap[b]?=w.heap[b]?:=by
  intro k b base hk hb;refine hn.evo.block b (h.lt k b base hb) ?_;rintro⟨k',dt,kM,_⟩;dsimp only at kM
  split at kM
  ·rename_i hlt;have:=h.inj k k' b _ _ hb kM;omega
  ·cases kM
 have fD:¬eU pv ops F j→∀k p,k<(S j).bs.length→β k=some p→βl k=some p:=by
  intro hne k p hk hp;obtain⟨p',vW⟩:=fB k p hk hp;have e1:=Bv k p hk hp;have e2:=MX k p' vW;rw[W9 k (by rintro⟨_,h1|h1⟩;exact hne h1;omega)] at e2;obtain⟨c,hc⟩:=(h.box k p.1 p.2 hp).aG;rw[hc] at e1 e2;exact(hn.keeps.at_ k c e2 e1 p.1 p.2 (by simp only[Qe,if_pos hk];exact hp)).1
 have KX:∀q,dK w (Xm S sg β Z q) w' (Xm S (fI pv ops F S j m sg) (glue S j βl β) Zl q):=by
  intro q;refine⟨fun k p hp=>?_,hn.keeps.z,fun k c p hp hc=>?_,fun k c hc Aa b base hb=>?_⟩
  ·simp only[Xm] at hp⊢
   split at hp
   ·rename_i R6;rw[if_pos R6]
    by_cases hk:k<(S (j+1)).bs.length
    ·rw[yu k hk]
     by_cases kL:k<(S j).bs.length
     ·exact fB k p kL hp
     ·exact(fC k p (by omega) hk hp).elim
    ·rw[Bz k hk];exact⟨p,hp⟩
   ·cases hp
  ·simp only[Xm] at hp hc⊢
   split at hp
   ·by_cases kL:k<(S j).bs.length
    ·obtain⟨p',vW⟩:=fB k p kL hp;obtain⟨o',h1,h2⟩:=hn.keeps.aG k c p (by simp only[Qe,if_pos kL];exact hp) (by show T'.aG k=some c;rw[MX k p' vW];exact hc);exact⟨o',by rw[←Bv k p kL hp];exact h1,h2⟩
    ·by_cases hk:k<(S (j+1)).bs.length
     ·exact(fC k p (by omega) hk hp).elim
     ·rw[W9 k (fun h'=>hk h'.1)] at hc;exact⟨c,hc,μ _⟩
   ·cases hp
  ·simp only[Xm] at hb hc Aa⊢
   split at hb
   ·rename_i R6;rw[if_pos R6]
    by_cases kL:k<(S j).bs.length
    ·obtain⟨p',vW⟩:=fB k _ kL hb;have:=hn.keeps.at_ k c (by show T'.aG k=some c;rw[MX k p' vW];exact hc) (by show T.aG k=some c;rw[Bv k _ kL hb];exact Aa) b base (by simp only[Qe,if_pos kL];exact hb);rw[yu k (by omega)];exact this
    ·by_cases hk:k<(S (j+1)).bs.length
     ·exact(fC k _ (by omega) hk hb).elim
     ·rw[Bz k hk];exact⟨hb,et (fE k b base kL hb)⟩
   ·cases hb
 have KT:dK w' (T'.x βl Zl) w' (Xm S (fI pv ops F S j m sg) (glue S j βl β) Zl (j+1)):=by
  have key:∀k p,βl k=some p→(Xm S (fI pv ops F S j m sg) (glue S j βl β) Zl (j+1)).β k=some p:=by
   intro k p hp;have:=lk k p hp;simp only[Xm];rw[if_pos this,yu k this];exact hp
  refine⟨fun k p hp=>⟨p,key k p hp⟩,fun b hb=>⟨hb,rfl⟩,fun k c p hp hc=>⟨c,?_,μ _⟩,fun k c _ _ b base hb=>⟨key k _ hb,rfl⟩⟩;show T'.aG k=some c;rw[MX k p hp];exact hc
 have hmN:(S (j+1)).bs.length≤(S m).bs.length:=hN zY Dh;have YZ:∀k,k<(S (j+1)).bs.length→(eU pv ops F j∨(S j).bs.length≤k)→k<(S m).bs.length:=fun k h1 _=>by omega
 refine⟨by rw[lD];exact h.size,by rw[put_defers];exact h.defers,?_,?_,?_,?_,?_,?_,?_,?_,?_,?_,?_,?_,?_,h.keeps.trans (KX _),?_,?_,?_,?_⟩
 ·
  intro k o' hk MB e he hb
  rcases(wg k).1 hk with hk|rfl
  ·exact(wg _).2 (.inl (h.clo k o' hk MB e he hb))
  ·rw[ho] at MB;cases MB;exact(wg _).2 (.inl (vV e he hb))
 ·intro k hk
  rcases(wg k).1 hk with hk|rfl
  ·exact h.bnd k hk
  ·exact yj
 ·
  intro k p hp
  by_cases hk:k<(S (j+1)).bs.length
  ·rw[yu k hk] at hp
   by_cases hc:eU pv ops F j∨(S j).bs.length≤k
   ·rw[Xk k hk hc];refine⟨YZ k hk hc,Dh,.inr ?_⟩
    rcases MG with rfl|⟨i,q1,q2,q3⟩
    ·exact⟨j,(wg j).2 (.inr rfl),rfl,hc⟩
    ·exact⟨i,(wg i).2 (.inl q1),q3,.inl q2⟩
   ·rw[NV k (fun h'=>hc h'.2)]
    have kL:k<(S j).bs.length:=by
     rcases η k (S j).bs.length with h'|h'
     ·exact h'
     ·exact absurd (.inr h') hc
    cases hβ:β k with
    |none=>have:=(fA k kL hβ).1;rw[hp] at this;cases this
    |some q=>
     obtain⟨d1,d2,d3⟩:=h.dom k q hβ;refine⟨d1,d2,?_⟩
     rcases d3 with d3|⟨i,r1,r2,r3⟩
     ·exact .inl d3
     ·exact .inr ⟨i,(wg i).2 (.inl r1),r2,r3⟩
  ·rw[Bz k hk] at hp;rw[NV k (fun h'=>hk h'.1)];obtain⟨d1,d2,d3⟩:=h.dom k p hp;refine⟨d1,d2,?_⟩
   rcases d3 with d3|⟨i,r1,r2,r3⟩
   ·exact .inl d3
   ·exact .inr ⟨i,(wg i).2 (.inl r1),r2,r3⟩
 ·
  intro k p hp i hi h1 h2
  by_cases hk:k<(S (j+1)).bs.length
  ·rw[yu k hk] at hp
   by_cases kL:k<(S j).bs.length
   ·cases hβ:β k with
    |none=>have:=(fA k kL hβ).1;rw[hp] at this;cases this
    |some q=>exact(wg i).2 (.inl (h.cr k q hβ i hi h1 h2))
   ·have:i=j:=by
     rcases QQ i j with h'|h'|h'
     ·have:=hN (a:=i+1) (b:=j) (by omega) (by omega);omega
     ·exact h'
     ·have:=hN (a:=j+1) (b:=i) (by omega) (by omega);omega
    subst this;exact(wg _).2 (.inr rfl)
  ·rw[Bz k hk] at hp;exact(wg i).2 (.inl (h.cr k p hp i hi h1 h2))
 ·
  intro k p hp i hi he R7
  by_cases hk:k<(S (j+1)).bs.length
  ·rw[yu k hk] at hp
   by_cases hc:eU pv ops F j∨(S j).bs.length≤k
   ·rw[Xk k hk hc]
    rcases(wg i).1 hi with hi|rfl
    ·exact WU i hi he
    ·exact zY
   ·rw[NV k (fun h'=>hc h'.2)]
    have kL:k<(S j).bs.length:=by
     rcases η k (S j).bs.length with h'|h'
     ·exact h'
     ·exact absurd (.inr h') hc
    cases hβ:β k with
    |none=>have:=(fA k kL hβ).1;rw[hp] at this;cases this
    |some q=>
     rcases(wg i).1 hi with hi|rfl
     ·exact h.sg2 k q hβ i hi he R7
     ·exact absurd (.inl he) hc
  ·rw[Bz k hk] at hp;rw[NV k (fun h'=>hk h'.1)]
   rcases(wg i).1 hi with hi|rfl
   ·exact h.sg2 k p hp i hi he R7
   ·omega
 ·
  intro k yi i hi he R7
  have hβ:k<(S j).bs.length∨¬k<(S (j+1)).bs.length→β k=none:=by
   rintro(kL|hk)
   ·cases hβ:β k with
    |none=>rfl
    |some q=>
     obtain⟨p',vW⟩:=fB k q kL hβ;rw[yu k (by omega),vW] at yi;cases yi
   ·rw[Bz k hk] at yi;exact yi
  have Uf:β k=none:=by
   by_cases kL:k<(S j).bs.length
   ·exact hβ (.inl kL)
   ·by_cases hk:k<(S (j+1)).bs.length
    ·cases hb:β k with
     |none=>rfl
     |some q=>exact(fC k q (by omega) hk hb).elim
    ·exact hβ (.inr hk)
  rcases(wg i).1 hi with hi|rfl
  ·exact h.ph k Uf i hi he R7
  ·obtain⟨e1,e2⟩:=hS he;have:=(fA k R7 Uf).2;rw[e1,e2] at this;exact this
 ·
  intro k b base hp
  by_cases hk:k<(S (j+1)).bs.length
  ·rw[yu k hk] at hp;exact hn.sim.lt k b base hp
  ·rw[Bz k hk] at hp;exact ξ (h.lt k b base hp) hn.evo.size
 ·
  have mix:∀k k' b x x',k<(S (j+1)).bs.length→¬k'<(S (j+1)).bs.length→βl k=some (b,x)→β k'=some (b,x')→False:=by
   intro k k' b x x' hk kM h1 h2
   rcases hn.fresh k b x h1 with⟨dt,eF⟩|hlt
   ·skip
    split at eF
    ·have:=h.inj k k' b _ _ eF h2;omega
    ·cases eF
   ·have:=h.lt k' b x' h2;omega
  intro k k' b x x' h1 h2
  by_cases hk:k<(S (j+1)).bs.length<;>by_cases kM:k'<(S (j+1)).bs.length
  ·rw[yu k hk] at h1;rw[yu k' kM] at h2;exact hn.sim.inj k k' b x x' h1 h2
  ·rw[yu k hk] at h1;rw[Bz k' kM] at h2;exact(mix k k' b x x' hk kM h1 h2).elim
  ·rw[Bz k hk] at h1;rw[yu k' kM] at h2;exact(mix k' k b x' x kM hk h2 h1).elim
  ·rw[Bz k hk] at h1;rw[Bz k' kM] at h2;exact h.inj k k' b x x' h1 h2
 ·
  intro k b base hp hz
  by_cases hk:k<(S (j+1)).bs.length
  ·rw[yu k hk] at hp;exact hn.sim.zd k b base hp hz
  ·rw[Bz k hk] at hp
   rcases hn.zfresh b hz with hz|hlt
   ·exact h.zd k b base hp hz
   ·have:=h.lt k b base hp;omega
 ·exact hn.sim.zl
 ·
  intro k b base hp
  by_cases hk:k<(S (j+1)).bs.length
  ·rw[yu k hk] at hp
   by_cases hc:eU pv ops F j∨(S j).bs.length≤k
   ·rw[Xk k hk hc];exact(Zf k b base hp hc).bd (KT.trans (BP eL ht zY Dh)) rfl
   ·have kL:k<(S j).bs.length:=by
     rcases η k (S j).bs.length with h'|h'
     ·exact h'
     ·exact absurd (.inr h') hc
    have hne:¬eU pv ops F j:=fun h'=>hc (.inl h');rw[NV k (fun h'=>hc h'.2),W9 k (fun h'=>hc h'.2)]
    cases hβ:β k with
    |none=>have:=(fA k kL hβ).1;rw[hp] at this;cases this
    |some q=>
     have:=fD hne k q kL hβ;rw[hp] at this;cases this;exact(h.box k b base hβ).bd (KX _) (hq hne b (h.lt k b base hβ))
  ·rw[Bz k hk] at hp;rw[NV k (fun h'=>hk h'.1),W9 k (fun h'=>hk h'.1)];exact(h.box k b base hp).bd (KX _) (fE k b base (by omega) hp)
 ·
  intro t
  by_cases hd:o.dst=some t
  ·have hl:d_ ops E' t ops.size=some j:=by
    have s:=f' ops E' t ops.size
    cases hl:d_ ops E' t ops.size with
    |none=>
     rw[hl] at s;have:=s j o yj ho hd;rw[(wg j).2 (.inr rfl)] at this;cases this
    |some i=>
     rw[hl] at s;obtain⟨s1,s2,⟨o',s3,s4⟩,s5⟩:=s
     rcases QQ i j with h'|h'|h'
     ·have:=s5 j o h' yj ho hd;rw[(wg j).2 (.inr rfl)] at this;cases this
     ·rw[h']
     ·have:=Bq i o' t h' s3 hd s4
      rcases(wg i).1 s2 with h2|h2
      ·rw[this] at h2;cases h2
      ·omega
   have hget:(a.put o.dst v).tmps.getD t undef=v:=by
    rw[hd];simp only[Act.put,κ];rw[ο (E5 t hd)];rfl
   rw[hget];simp only[val,SX,hl];unfold tN
   split
   ·exact .bD _ _ _
   ·exact hv.mono KT
  ·have hl:d_ ops E' t ops.size=d_ ops E t ops.size:=by
    refine rZ fun i o' h1 h2=>?_;have hij:i≠j:=fun e=>by subst e;rw[ho] at h1;cases h1;exact hd h2
    rw[wg i];simp[hij]
   have hget:(a.put o.dst v).tmps.getD t undef=a.tmps.getD t undef:=by
    cases Y5:o.dst with
    |none=>rfl
    |some u=>
     have hut:u≠t:=fun e=>hd (by rw[Y5,e]);simp only[Act.put,κ];rw[Qq hut]
   rw[hget];have hf:=h.frame t;simp only[val,SX,hl] at hf⊢;exact hf.mono (KX _)
 ·
  refine h.evo.trans hn.evo (fun _ hm=>hm) fun b hb hm=>?_;obtain⟨k,base,hk,eT⟩:=hm;dsimp only at hk
  split at hk
  ·rcases h.fresh k b base hk with⟨dt,eF⟩|hlt
   ·refine⟨k,dt,eF,?_⟩;have:=(di eL ht j 0 (by omega) (by omega)).ro;rw[←this,←hTr];exact eT
   ·omega
  ·cases hk
 ·
  intro k b base hp
  by_cases hk:k<(S (j+1)).bs.length
  ·rw[yu k hk] at hp
   rcases hn.fresh k b base hp with⟨dt,eF⟩|hlt
   ·skip
    split at eF
    ·exact h.fresh k b dt eF
    ·cases eF
   ·exact .inr (θ h.evo.size hlt)
  ·rw[Bz k hk] at hp;exact h.fresh k b base hp
 ·intro b hz
  rcases hn.zfresh b hz with hz|hlt
  ·exact h.zfresh b hz
  ·exact .inr (θ h.evo.size hlt)
 ·
  intro k hk;have h0:=hN (a:=0) (b:=j) (by omega) (by omega);have kL:k<(S j).bs.length:=by omega
  have hr:=(di eL ht j 0 (by omega) (by omega)).ro;have:=(hn.low k (by rw[hTr,hr];exact hk)).2;rw[yu k (by omega),this];simp only[if_pos kL];exact h.low k hk
 ·
  intro k hk yi;have h0:=hN (a:=0) (b:=j) (by omega) (by omega);have kL:k<(S j).bs.length:=by omega
  rw[yu k (by omega)];exact(fA k kL (h.xB k hk yi)).1
end
end Go.V
namespace Go.V
open Go.RowKit
variable{pv:Pv}{o:Oper}{k:Nat}{fr:Fr}{st:St}{d:D}{cf:eS}{w:World}{x x':X}
theorem D7 (h:Ce o=true):fF pv o=false:=by
 obtain⟨dst,op,ty,pos,after,guard⟩:=o;cases op<;>simp only[Ce,υ] at h<;>try rfl
 rename_i c;obtain⟨callee,args,ow⟩:=c;cases callee<;>simp only[υ] at h
 rename_i b;cases b<;>simp at h<;>rfl
theorem m_ (h:fF pv o=true):Ce o=false∧FZ o=false:=by
 refine⟨?_,?_⟩
 ·cases hp:Ce o with
  |false=>rfl
  |true=>rw[D7 hp] at h;cases h
 ·obtain⟨dst,op,ty,pos,after,guard⟩:=o
  cases op<;>first|rfl|(simp[fF] at h)
theorem Be {a b:St} (h:a.bs[k]?=b.bs[k]?) (v:Nat):a.fk k v=b.fk k v:=by
 simp only[St.fk,h]
theorem Rb {ai:St} {op:Op} {ty:TypeId} {a:Operand} (ha:ia op=some a) (h:ef pv fr st op ty=some (d,ai)):ai=st∧∀T:St,(∀k,(fr.ev a).na=some k→T.bs[k]?=st.bs[k]?)→ef pv fr T op ty=some (d,T):=by
 cases op<;>simp only[ia,QG.injEq,reduceCtorEq] at ha
 case load t x=>
  subst ha;simp only[ef] at h⊢;obtain⟨r,hz,hs⟩:=γ.1 h;cases hs;refine⟨rfl,fun T hT=>?_⟩
  have:gO pv t (fr.ev x) T=gO pv t (fr.ev x) st:=by
   cases hx:fr.ev x<;>first|rfl|skip
   rename_i k v off;simp only[gO];rw[Be (hT k (by rw[hx];rfl))]
  rw[this,hz];rfl
 case indexAddr t x i=>
  subst ha;simp only[ef] at h⊢;obtain⟨r,hz,hs⟩:=γ.1 h;cases hs;refine⟨rfl,fun T hT=>?_⟩
  have:cm pv t (fr.ev x) (fr.ev i) T=cm pv t (fr.ev x) (fr.ev i) st:=by
   cases hx:fr.ev x with
   |win k v off len sz=>
    have hm:=Be (hT k (by rw[hx];rfl)) v;simp only[cm];cases fr.ev i<;>try rfl
    cases pv.cJ t with
    |none=>rfl
    |some td=>cases td<;>first|rfl|(simp only[hm])
   |_=>
    simp only[cm];cases fr.ev i<;>try rfl
    cases pv.cJ t with
    |none=>rfl
    |some td=>cases td<;>rfl
  rw[this,hz];rfl
theorem xq (h:FZ o=true):fv pv cf fr st o=ef pv fr st o.op o.type:=by
 unfold fv
 split
 ·rename_i gv;simp[FZ,gv,ia] at h
 ·rfl
theorem xx (h:Ce o=true):fv pv cf fr st o=ef pv fr st o.op o.type:=by
 unfold fv
 split
 ·rename_i gv;simp only[Ce,gv,υ] at h
 ·rfl
def CV (fr:Fr) (ts:List Nat):Fr:=⟨0,[],ts.map fun t=>(t,fr.get t)⟩
theorem xO (f:Nat→D) (t:Nat):∀(ts:List Nat),look t (ts.map fun t=>(t,f t))=if t∈ts then f t else .bD
 |[]=>rfl
 |u::l=>by
  simp only[List.map_cons,look]
  by_cases h:t=u
  ·subst h;simp
  ·have:QI t u=false:=by
    cases hb:QI t u with
    |false=>rfl
    |true=>exact absurd (QJ hb) h
   rw[this,xO f t l];simp[h]
theorem nZ (fr:Fr) (ts:List Nat) (t:Nat):(CV fr ts).get t=if t∈ts then fr.get t else .bD:=by
 simp only[CV,Fr.get,J1];exact xO fr.get t ts
def Ta (p:Option (Nat×Nat)) (bx:iI):iI:=
 match p,bx with
 |some _,.mem v a _=>.mem v a []
 |some _,.iter s q=>.iter s q
 |some _,.map es=>.map es
 |_,_=>.dead
def vY (st:St) (β:Nat→Option (Nat×Nat)) (H:Nat→iI):St:=⟨(Ql st.bs.length).map fun k=>Ta (β k) (H k),st.flr,st.ro⟩
theorem ya {β:Nat→Option (Nat×Nat)} {H:Nat→iI} (h:k<st.bs.length):(vY st β H).bs[k]?=some (Ta (β k) (H k)):=by
 simp[vY,h]
theorem ic (st:St) (β:Nat→Option (Nat×Nat)) (H:Nat→iI):(vY st β H).bs.length=st.bs.length:=by simp[vY]
theorem vX {b base:Nat} {bx:iI} (h:iH w x b base bx) (p:Nat×Nat):iH w x' b base (Ta (some p) bx)∧db (Ta (some p) bx)=db bx:=by
 cases bx with
 |mem v a c=>
  obtain⟨c',el,fr,h1,h2,h3,_⟩:=h;exact⟨⟨c',el,fr,h1,by simp;omega,h3,fun j d hd=>by simp at hd⟩,rfl⟩
 |iter s q=>exact⟨h,rfl⟩
 |map e=>exact⟨h,rfl⟩
 |dead=>exact h.elim
def AD (E:Nat→Bool) (j:Nat):Nat→Bool:=fun k=>E k||QI k j
theorem jg (E:Nat→Bool) (j k:Nat):AD E j k=true↔(E k=true∨k=j):=by
 simp[AD]
theorem VR.aam {N:Nat} (hZ:∀b,x.Z b→x'.Z b) (hv:∀k,x'.aG k=x.aG k) (hβ:∀k p,k<N→x.β k=some p→x'.β k=some p) {v:Value} (h:VR w x d v) (hr:d.ref≤N):VR w x' d v:=by
 induction h with
 |im d v h=>exact .im _ _ (h.mono fun b hb=>⟨hZ b hb,rfl⟩)
 |win k vr off len s a cap hc hk hm h=>
  simp only[Qy] at hr;refine .win k vr off len s a cap hc (by obtain⟨p,hp⟩:=hk;exact⟨p,hβ k p (by omega) hp⟩) (fun c hc=>hm c (by rw[←hv];exact hc)) fun hc=>?_;obtain⟨b,base,sz,h1,h2⟩:=h (by rw[←hv];exact hc);exact⟨b,base,sz,hβ k _ (by omega) h1,h2⟩
 |ptr k vr off a hk hm h=>
  simp only[Qy] at hr;refine .ptr k vr off a (by obtain⟨p,hp⟩:=hk;exact⟨p,hβ k p (by omega) hp⟩) (fun c hc=>hm c (by rw[←hv];exact hc)) fun hc=>?_;obtain⟨b,base,h1,h2⟩:=h (by rw[←hv];exact hc);exact⟨b,base,hβ k _ (by omega) h1,h2⟩
 |mp k r hk h=>
  simp only[Qy] at hr;refine .mp k r (by obtain⟨p,hp⟩:=hk;exact⟨p,hβ k p (by omega) hp⟩) fun hc=>?_;obtain⟨base,h1⟩:=h (by rw[←hv];exact hc);exact⟨base,hβ k _ (by omega) h1⟩
 |fn f cs vs hl Bn ih=>simp only[Qy] at hr;exact .fn f cs vs hl fun i c v hc hv=>ih i c v hc hv (θ (ch (φ hc)) hr)
 |agg cs vs hl h1 Bn ih=>simp only[Qy] at hr;exact .agg cs vs hl h1 fun i c v hc hv=>ih i c v hc hv (θ (ch (φ hc)) hr)
 |tup cs vs hl Bn ih=>simp only[Qy] at hr;exact .tup cs vs hl fun i c v hc hv=>ih i c v hc hv (θ (ch (φ hc)) hr)
section
variable{pv:Pv} {P:Program} {cf:eS} (eL:iP P pv cf) {ops:Array Oper} {F:Nat→Fr} {S:Nat→St} {dd:Nat→D} (ht:Trace pv cf ops ops.toList F S dd)
include eL ht
theorem M6 {w:World} {sg:Nat→Nat} {β:Nat→Option (Nat×Nat)} {Z:Nat→Prop} {j m k b base:Nat} (hjm:j≤m) (hm:m≤ops.size) (h:iH w (Xm S sg β Z m) b base (Hs S sg k)) (he:(S j).bs[k]?=some (Hs S sg k)) (hs:mN (some k) (S j) (S m)=true):iH w (Xm S sg β Z j) b base (Hs S sg k):=by
 have hl:=(di eL ht m j hjm hm).len;unfold mN at hs;simp only at hs
 split at hs
 ·rename_i hb;have hle:=QJ hb;have:Xm S sg β Z j=Xm S sg β Z m:=by simp only[Xm,hle]
  rw[this];exact h
 ·rw[he] at hs
  split at hs
  ·rename_i v ar c hc
   cases uI:Hs S sg k with
   |mem v' ar' c'=>
    rw[uI] at hc h;cases hc;have hr:=QD hs;obtain⟨c',el,fr,h1,h2,h3,h4⟩:=h;refine⟨c',el,fr,h1,h2,h3,fun i d hd=>?_⟩;obtain⟨v,v1,v3,v2⟩:=h4 i d hd;refine⟨v,v1,v3,v2.aam (x:=Xm S sg β Z m) (x':=Xm S sg β Z j) (N:=(S j).bs.length) (fun _ hb=>hb) (fun _=>rfl) (fun k' p kM hp=>?_) (θ (ch (φ hd)) hr)⟩;simp only[Xm] at hp⊢;rw[if_pos kM]
    split at hp
    ·exact hp
    ·cases hp
   |_=>rw[uI] at hc;cases hc
  ·cases hs
end
section
variable{pv:Pv} {P:Program} (ok:pv.Ok P) {cf:eS} (eL:iP P pv cf) {ops:Array Oper} {F:Nat→Fr} {S:Nat→St} {dd:Nat→D} (ht:Trace pv cf ops ops.toList F S dd) {dy:List (Nat×Nat)} (nR:lG pv ops dy=true) (gi:Still dy ops F S)
include ok eL ht nR gi
theorem DI.step {Q:Exit→Act→World→Prop} {a0 a:Act} {w0 w:World} {β0 β:Nat→Option (Nat×Nat)} {Z0 Z:Nat→Prop} {E:Nat→Bool} {sg:Nat→Nat} (h:DI pv ops F S dd a0 w0 β0 Z0 E a w β Z sg) (h0:gI w0 (S 0) β0 Z0)
  {j:Nat} {o:Oper} (ho:ops[j]?=some o) (hj:E j=false) (vV:∀e∈o.after.toList,Qx .any e=true→E e.on=true) (E5:uR ops.toList a0.tmps.size)
  {K:Act→World→Prop} (hK:∀a' w' β' Z' Xl,DI pv ops F S dd a0 w0 β0 Z0 (AD E j) a' w' β' Z' Xl→K a' w'):wpOp P ops Q j K a w:=by
 have yj:j<ops.size:=by
  rcases η j ops.size with h'|h'
  ·exact h'
  ·rw[Qz h'] at ho;cases ho
 have hcl:wD ops (AD E j):=by
  intro k o' hk MB e he hb
  rcases(jg E j k).1 hk with hk|rfl
  ·exact(jg E j _).2 (.inl (h.clo k o' hk MB e he hb))
  ·rw[ho] at MB;cases MB;exact(jg E _ _).2 (.inl (vV e he hb))
 have C1:∀i x,i<j→ops[i]?=some x→k_ pv ops (listed dy i j) x o=true→E i=true:=by
  intro i x hi hx hc
  rcases(jg E j i).1 (me nR hi hx ho hc hcl ((jg E j j).2 (.inr rfl))) with h'|h'
  ·exact h'
  ·omega
 have C2:∀i x,j<i→ops[i]?=some x→k_ pv ops (listed dy j i) o x=true→E i=false:=by
  intro i x hi hx hc
  cases hE:E i with
  |false=>rfl
  |true=>have:=me nR hi ho hx hc h.clo hE;rw[hj] at this;cases this
 have Bq:∀i o' t,j<i→ops[i]?=some o'→o.dst=some t→o'.dst=some t→E i=false:=by
  intro i o' t hi MB h1 h2;refine C2 i o' hi MB ?_;simp[k_,A3,h1,h2]
 have hdj:∀t,o.dst=some t→t<a.tmps.size:=fun t hd=>by
  rw[h.size];exact E5 o (by rw[←Θ] at ho;exact φ ho) t hd
 have hlw:∀t∈looks ops o,d_ ops E t ops.size=d_ ops (fun _=>true) t j:=by
  intro t ng
  refine rZ fun i o' h1 h2=>⟨fun⟨_,hE⟩=>⟨?_,rfl⟩,fun⟨hi,_⟩=>⟨by omega,C1 i o' hi h1 (by simp[k_,wo,h2,ng])⟩⟩
  rcases QQ i j with h'|h'|h'
  ·exact h'
  ·subst h';rw[hj] at hE;cases hE
  ·have:=C2 i o' h' h1 (by simp[k_,wo,h2,ng]);rw[this] at hE;cases hE
 have W2:=(di eL ht j 0 (by omega) (by omega))
 have hNj:=(ny eL ht j yj).1
 have TA:∀(T:St) (m:Nat),m≤j→T.bs.length=(S j).bs.length→(∀k p,k<(S j).bs.length→β k=some p→T.aG k=db (Hs S sg k))→
   dK w (Xm S sg β Z m) w (T.x (fun k=>if k<(S j).bs.length then β k else none) Z):=by
  intro T m hm hT hv;refine(BP eL ht hm (by omega)).trans ⟨fun k p hp=>⟨p,hp⟩,fun b hb=>⟨hb,rfl⟩,fun k c p hp hc=>⟨c,?_,μ _⟩,fun k c _ _ b base hb=>⟨hb,rfl⟩⟩;simp only[Xm] at hp⊢
  split at hp
  ·rename_i hk;rw[←hv k p hk hp];exact hc
  ·cases hp
 have hG:∀(T:St),T.bs.length=(S j).bs.length→(∀k p,k<(S j).bs.length→β k=some p→T.aG k=db (Hs S sg k))→
   oq w (T.x (fun k=>if k<(S j).bs.length then β k else none) Z) (CV (F j) (looks ops o)) a.tmps:=by
  intro T hT hv t;rw[nZ]
  split
  ·rename_i ng;have hf:=h.frame t;have XZ:=(oz ht t j (by omega)).1;have hl:=hlw t ng;simp only[val,SX,hl] at hf;rw[XZ];have s:=f' ops (fun _=>true) t j
   cases hq:d_ ops (fun _=>true) t j with
   |none=>rw[hq] at hf;exact hf.mono (TA T 0 (by omega) hT hv)
   |some i=>rw[hq] at hf s;exact hf.mono (TA T (i+1) s.1 hT hv)
  ·exact .bD _ _ _
 have W5:aH ops (F j) o=aH ops (CV (F j) (looks ops o)) o:=wM fun t ng=>by rw[nZ,if_pos ng]
 have hGo:∀st,fv pv cf (F j) st o=fv pv cf (CV (F j) (looks ops o)) st o:=fun st=>xz fun t ng=>by rw[nZ,if_pos ng]
 have Er:∀(T:St),T.bs.length=(S j).bs.length→T.flr=(S j).flr→T.ro=(S j).ro→(∀k p,k<(S j).bs.length→β k=some p→T.aG k=db (Hs S sg k))→
   (∀k b base bx,k<(S j).bs.length→β k=some (b,base)→T.bs[k]?=some bx→iH w (T.x (fun k=>if k<(S j).bs.length then β k else none) Z) b base bx)→
   gI w T (fun k=>if k<(S j).bs.length then β k else none) Z:=by
  intro T hT nT hr hv hb
  have cut:∀k p,(if k<(S j).bs.length then β k else none)=some p→k<(S j).bs.length∧β k=some p:=by
   intro k p hp
   split at hp
   ·exact⟨by assumption,hp⟩
   ·cases hp
  refine⟨fun k b base hk=>by rw[hT];exact(cut k _ hk).1,fun k b base hk=>h.lt k b base (cut k _ hk).2,fun k k' b x x' h1 h2=>h.inj k k' b x x' (cut k _ h1).2 (cut k' _ h2).2,fun k b base hk=>h.zd k b base (cut k _ hk).2,h.zl,
   fun k b base bx hk ir=>hb k b base bx (cut k _ hk).1 (cut k _ hk).2 ir,?_,?_⟩
  ·rw[nT,hT,W2.flr];exact θ h0.flr W2.len
  ·rw[hr,hT,W2.ro];exact θ h0.ro W2.len
 have Bv:∀k p,k<(S j).bs.length→β k=some p→(vY (S j) β (Hs S sg)).aG k=db (Hs S sg k):=by
  intro k p hk hp;simp only[QN,ya hk,Ξ,hp];exact(vX (x':=Xm S sg β Z 0) (h.box k p.1 p.2 hp) p).2
 have hTs:=Er (vY (S j) β (Hs S sg)) (ic _ _ _) rfl rfl Bv fun k b base bx hk hp ir=>by
  rw[ya hk] at ir;cases ir;rw[hp];exact(vX (h.box k b base hp) _).1
 have hollow:∀(T T':St) (w':World) (βl:Nat→Option (Nat×Nat)) (Zl:Nat→Prop) (v:Value),T.bs.length=(S j).bs.length→T.ro=(S j).ro→(∀k p,k<(S j).bs.length→β k=some p→T.aG k=db (Hs S sg k))→¬eU pv ops F j→
   ((S (j+1)=S j∧T'=T)∨∃ar cs,S (j+1)=(S j).push (.mem 0 ar cs)∧T'=T.push (.mem 0 ar cs))→
   Nx w T (fun k=>if k<(S j).bs.length then β k else none) Z w' T' βl Zl→VR w' (T'.x βl Zl) (dd j) v→Quiet w w'→K (a.put o.dst v) w':=by
  intro T T' w' βl Zl v uK Zd Bv hne Vq hn hv hq;obtain⟨m,zY,WU,MG⟩:=Et (fun i=>E i=true∧eU pv ops F i) (j+1) ops.size
  have Dh:m≤ops.size:=by rcases MG with rfl|⟨i,q1,_,rfl⟩<;>omega
  have gP:T'.bs.length=(S (j+1)).bs.length:=by
   rcases Vq with⟨e1,e2⟩|⟨ar,cs,e1,e2⟩
   ·rw[e1,e2,uK]
   ·rw[e1,e2];simp[QS,uK]
  have lk:∀k p,βl k=some p→k<(S (j+1)).bs.length:=fun k p hp=>by rw[←gP];exact hn.sim.dom k p.1 p.2 hp
  have Rc:∀k p,k<(S j).bs.length→βl k=some p→∃q,β k=some q:=by
   intro k p hk hp
   cases hβ:β k with
   |some q=>exact⟨q,rfl⟩
   |none=>
    have:=(hn.xB k (by rw[uK];exact hk) (by simp only[if_pos hk];exact hβ)).1;rw[hp] at this;cases this
  have T4:∀k p,βl k=some p→(S j).bs.length≤k→T'.bs[k]?=some (Hs S (fI pv ops F S j m sg) k):=by
   intro k p hp hk;have qY:=lk k p hp
   have hβ:β k=none:=by
    cases hb:β k with
    |none=>rfl
    |some q=>have:=h.cr k q hb j yj hk qY;rw[hj] at this;cases this
   have p_:fI pv ops F S j m sg k=m:=by simp only[fI];rw[if_pos ⟨qY,.inr hk⟩]
   have gi:=jT eL ht m zY Dh k qY fun q Mw Mv=>by
    by_cases he:eU pv ops F q
    ·right;refine h.ph k hβ q ?_ he (ξ qY (di eL ht q (j+1) Mw (by omega)).len)
     rcases MG with rfl|⟨i,q1,⟨q2,q3⟩,rfl⟩
     ·omega
     ·rcases η q i with h'|h'
      ·obtain⟨o1,p1,p2,_⟩:=he;obtain⟨o2,r1,r2,_⟩:=q3;obtain⟨De,EM⟩:=m_ r2;exact me nR h' p1 r1 (by simp[k_,p2,De,EM]) h.clo q2
      ·have:q=i:=by omega
       rw[this];exact q2
    ·exact .inl he
   rcases Vq with⟨e1,e2⟩|⟨ar,cs,e1,e2⟩
   ·rw[e1] at qY;omega
   ·have hkk:k=(S j).bs.length:=by rw[e1] at qY;simp[QS] at qY;omega
    have g1:(S (j+1)).bs[k]?=some (.mem 0 ar cs):=by rw[e1,hkk];simp[QS]
    have g2:T'.bs[k]?=some (.mem 0 ar cs):=by rw[e2,hkk];simp[QS,uK]
    simp only[Hs,p_];rw[g2,gi,g1];rfl
  refine hK _ _ _ _ _ (h.put eL ht hj ho (jg E j) vV Bq hdj h0.ro hn uK gP Zd hv Bv zY Dh (fun i h1 h2=>WU i (h.bnd i h1) ⟨h1,h2⟩) ?_ ?_ ?_ (fun _=>hq) fun he=>absurd he hne)
  ·rcases MG with h'|⟨i,_,⟨q2,q3⟩,q4⟩
   ·exact .inl h'
   ·exact .inr ⟨i,q2,q3,q4⟩
  ·intro k p hp
   by_cases hk:k<(S j).bs.length
   ·obtain⟨q,nS⟩:=Rc k p hk hp
    have p_:fI pv ops F S j m sg k=sg k:=by
     simp only[fI];rw[if_neg];rintro⟨_,h'|h'⟩
     ·exact hne h'
     ·omega
    simp only[Hs,p_];have:=Bv k q hk nS;simp only[Hs] at this;rw[←this]
    have hg:T'.bs[k]?=T.bs[k]?:=by
     rcases Vq with⟨_,e2⟩|⟨ar,cs,_,e2⟩
     ·rw[e2]
     ·rw[e2];simp only[QS];rw[τ (by rw[uK];exact hk)]
    simp only[QN,hg]
   ·have:=T4 k p hp (by omega);simp only[QN,this,Ξ]
  ·intro k b base hp hc
   rcases hc with hc|hc
   ·exact absurd hc hne
   ·exact hn.sim.box k b base _ hp (T4 k _ hp hc)
 unfold wpOp;simp only[ho]
 rcases ht.step j o (by simpa using ho) with⟨hw,gv⟩|⟨hw,hd,hs⟩
 ·rw[W5] at hw;rw[qJ (hG _ (ic _ _ _) Bv) hw];simp only[if_true];left;rw[hGo] at gv
  cases De:Ce o with
  |true=>
   have he:=D7 (pv:=pv) De
   have hne:¬eU pv ops F j:=by
    rintro⟨o',h1,h2,_⟩;rw[ho] at h1;cases h1;rw[he] at h2;cases h2
   rw[xx De] at gv;obtain⟨T',Vp,Vq⟩:=D' De gv (vY (S j) β (Hs S sg)) (ic _ _ _);rw[←xx (cf:=cf) De] at Vp;exact qV ok eL hTs (hG _ (ic _ _ _) Bv) Vp fun v w' β' Z' hn hv hq=>hollow (vY (S j) β (Hs S sg)) T' w' β' Z' v (ic _ _ _) rfl Bv hne Vq hn hv (hq he)
  |false=>
   cases qk:FZ o with
   |true=>
    have hne:¬eU pv ops F j:=by
     rintro⟨o',h1,h2,_⟩;rw[ho] at h1;cases h1;rw[(m_ h2).2] at qk;cases qk
    obtain⟨ad,we⟩:∃ad,ia o.op=some ad:=by
     unfold FZ at qk
     cases hq:ia o.op with
     |none=>rw[hq] at qk;cases qk
     |some x=>exact⟨x,rfl⟩
    have YO:aH ops (F j) o=some true:=by rw[W5];exact hw
    have Vn:(CV (F j) (looks ops o)).ev ad=(F j).ev ad:=by
     refine(yv (ts:=looks ops o) (fun t ng=>by rw[nZ,if_pos ng]) fun t e=>?_);subst e;refine J0 _ (mQ ?_);cases Yr:o.op<;>rw[Yr] at we<;>simp only[ia,QG.injEq,reduceCtorEq] at we<;>subst we<;>simp[Ω]
    have place:∀k,((F j).ev ad).na=some k→∃p,β k=some p∧k<(S j).bs.length:=by
     intro k hk;have hv:=uP (hG _ (ic _ _ _) Bv) ad;rw[Vn] at hv
     have cut:(∃p,(if k<(S j).bs.length then β k else none)=some p)→∃p,β k=some p∧k<(S j).bs.length:=by
      rintro⟨p,hp⟩
      split at hp
      ·exact⟨p,hp,by assumption⟩
      ·cases hp
     cases hd:(F j).ev ad with
     |ptr k' v off=>
      rw[hd] at hk hv;simp only[D.na,QG.injEq] at hk;subst hk;obtain⟨_,_,hp,_⟩:=cz hv;exact cut hp
     |win k' v off len sz=>
      rw[hd] at hk hv;simp only[D.na,QG.injEq] at hk;subst hk;obtain⟨_,_,_,_,hp,_⟩:=eX hv;exact cut hp
     |_=>rw[hd] at hk;simp[D.na] at hk
    have same:∀k,((F j).ev ad).na=some k→(S j).bs[k]?=some (Hs S sg k)∧(sg k≤j∨mN (some k) (S j) (S (sg k))=true):=by
     intro k hk;obtain⟨p,hp,kL⟩:=place k hk;obtain⟨d1,d2,d3⟩:=h.dom k p hp
     have fin:(S j).bs[k]?=(S (sg k)).bs[k]?:=by
      rcases Nat.le_total (sg k) j with hle|hle
      ·refine jT eL ht j hle (by omega) k d1 fun q Mw Mv=>?_
       by_cases he:eU pv ops F q
       ·right;have R6:k<(S q).bs.length:=ξ d1 (di eL ht q (sg k) Mw (by omega)).len
        have Zp:E q=false:=by
         cases hE:E q with
         |false=>rfl
         |true=>have:=h.sg2 k p hp q hE he R6;omega
        obtain⟨x,x1,x2,x3⟩:=he
        have hl:listed dy q j=true:=by
         cases hl:listed dy q j with
         |true=>rfl
         |false=>have:=C1 q x Mv x1 (by simp[k_,x2,De,hl]);rw[Zp] at this;cases this
        exact(gi j q o ad k x ho we YO hk x1 (m_ x2).2 x3 (fun _=>hl) (fun h'=>by omega)).1
       ·exact .inl he
      ·rcases Jx hle with heq|hlt
       ·rw[heq]
       rcases d3 with d3|⟨j',q1,q2,q3⟩
       ·omega
       have F_:eU pv ops F j':=by
        rcases q3 with q3|q3
        ·exact q3
        ·have:=(di eL ht j' j (by omega) (by have:=h.bnd j' q1;omega)).len;omega
       symm
       refine jT eL ht (sg k) hle d2 k kL fun q Mw Mv=>?_
       by_cases he:eU pv ops F q
       ·right
        have hqj:j<q:=by
         rcases Jx Mw with h'|h'
         ·subst h';exact absurd he hne
         ·exact h'
        have Zp:E q=true:=by
         rcases η q j' with h'|h'
         ·obtain⟨x,x1,x2,_⟩:=he;obtain⟨y,y1,y2,_⟩:=F_;obtain⟨n1,n2⟩:=m_ y2;exact me nR h' x1 y1 (by simp[k_,x2,n1,n2]) h.clo q1
         ·have:q=j':=by omega
          rw[this];exact q1
        obtain⟨x,x1,x2,x3⟩:=he
        have hl:listed dy j q=true:=by
         cases hl:listed dy j q with
         |true=>rfl
         |false=>have:=C2 q x hqj x1 (by simp[k_,x2,De,hl]);rw[Zp] at this;cases this
        exact(gi j q o ad k x ho we YO hk x1 (m_ x2).2 x3 (fun h'=>by omega) (fun _=>hl)).1
       ·exact .inl he
     refine⟨?_,?_⟩
     ·rw[fin,ζ d1];simp only[Hs];rw[ζ d1];rfl
     ·rcases η j (sg k) with hlt|hge
      ·right
       rcases d3 with d3|⟨j',q1,q2,q3⟩
       ·omega
       have F_:eU pv ops F j':=by
        rcases q3 with q3|q3
        ·exact q3
        ·have:=(di eL ht j' j (by omega) (by have:=h.bnd j' q1;omega)).len;omega
       have hjj:j<j':=by
        rcases η j j' with h'|h'
        ·exact h'
        ·have:j=j':=by omega
         subst this;exact absurd F_ hne
       obtain⟨x,x1,x2,x3⟩:=F_
       have hl:listed dy j j'=true:=by
        cases hl:listed dy j j' with
        |true=>rfl
        |false=>have:=C2 j' x hjj x1 (by simp[k_,x2,De,hl]);rw[q1] at this;cases this
       have:=(gi j j' o ad k x ho we YO hk x1 (m_ x2).2 x3 (fun h'=>by omega) (fun _=>hl)).2 hjj;rw[q2];exact this
      ·exact .inl hge
    let T:St:=⟨(Ql (S j).bs.length).map fun k=>if((F j).ev ad).na=some k then Hs S sg k else Ta (β k) (Hs S sg k),(S j).flr,(S j).ro⟩
    have Tl:T.bs.length=(S j).bs.length:=by simp[T]
    have Tg:∀k,k<(S j).bs.length→T.bs[k]?=some (if((F j).ev ad).na=some k then Hs S sg k else Ta (β k) (Hs S sg k)):=by
     intro k hk;simp[T,hk]
    have Tv:∀k p,k<(S j).bs.length→β k=some p→T.aG k=db (Hs S sg k):=by
     intro k p hk hp;simp only[QN,Tg k hk,Ξ]
     split
     ·rfl
     ·rw[hp];exact(vX (x':=Xm S sg β Z 0) (h.box k p.1 p.2 hp) p).2
    have Ts:=Er T Tl rfl rfl Tv fun k b base bx hk hp ir=>by
     rw[Tg k hk] at ir;cases ir
     split
     ·rename_i hbk;obtain⟨e1,e2⟩:=same k hbk;have ir:=h.box k b base hp
      rcases η j (sg k) with hlt|hge
      ·refine iH.bd ?_ (TA T j (μ _) Tl Tv) rfl;exact M6 eL ht (by omega) (h.dom k _ hp).2.1 ir e1 (e2.resolve_left (by omega))
      ·exact ir.bd (TA T (sg k) hge Tl Tv) rfl
     ·rw[hp];exact(vX (h.box k b base hp) _).1
    rw[xq qk] at gv;obtain⟨hSS,hTT⟩:=Rb we gv
    have Vp:=hTT T fun k hk=>by
     rw[Vn] at hk;obtain⟨p,hp,kL⟩:=place k hk;rw[Tg k kL,if_pos hk,(same k hk).1]
    rw[←xq (cf:=cf) qk] at Vp
    exact qV ok eL Ts (hG _ Tl Tv) Vp fun v w' β' Z' hn hv hq=>hollow T T w' β' Z' v Tl rfl Tv hne (.inl ⟨hSS,rfl⟩) hn hv (hq (by
     cases he:fF pv o with
     |false=>rfl
     |true=>rw[(m_ he).2] at qk;cases qk))
   |false=>
    have sb:∀k p,β k=some p→k<(S j).bs.length→sg k≤j∧Hs S sg k=((S j).bs[k]?).getD .dead∧(S j).bs[k]?=some (Hs S sg k):=by
     intro k p hk kL;refine w6 eL ht h (by omega) (fun i hi he=>?_) (fun i hi he=>?_) hk kL
     ·obtain⟨x,h1,h2,_⟩:=he;exact C1 i x hi h1 (by simp[k_,h2,De,qk])
     ·rcases η j i with h'|h'
      ·obtain⟨x,h1,h2,_⟩:=he;exact C2 i x h' h1 (by simp[k_,h2,De,qk])
      ·have:i=j:=by omega
       rw[this];exact hj
    have WZ:∀k p,k<(S j).bs.length→β k=some p→(S j).aG k=db (Hs S sg k):=fun k p hk hp=>by simp only[QN,(sb k p hp hk).2.2,Ξ]
    have hSs:=Er (S j) rfl rfl rfl WZ fun k b base bx hk hp ir=>by
     obtain⟨s1,_,s3⟩:=sb k _ hp hk;rw[s3] at ir;cases ir;exact(h.box k b base hp).bd (TA (S j) (sg k) s1 rfl WZ) rfl
    refine qV ok eL hSs (hG _ rfl WZ) gv fun v w' β' Z' hn hv hq=>?_;have lk:∀k p,β' k=some p→k<(S (j+1)).bs.length:=fun k p hp=>hn.sim.dom k p.1 p.2 hp
    have Rc:∀k p,k<(S j).bs.length→β' k=some p→∃q,β k=some q:=by
     intro k p hk hp
     cases hβ:β k with
     |some q=>exact⟨q,rfl⟩
     |none=>
      have:=(hn.xB k hk (by simp only[if_pos hk];exact hβ)).1;rw[hp] at this;cases this
    have same:∀k p,β' k=some p→(S (j+1)).bs[k]?=some (Hs S (fI pv ops F S j (j+1) sg) k):=by
     intro k p hp;have qY:=lk k p hp
     by_cases hc:eU pv ops F j∨(S j).bs.length≤k
     ·have p_:fI pv ops F S j (j+1) sg k=j+1:=by simp only[fI];rw[if_pos ⟨qY,hc⟩]
      simp only[Hs,p_];rw[ζ qY];rfl
     ·have p_:fI pv ops F S j (j+1) sg k=sg k:=by simp only[fI];rw[if_neg fun h'=>hc h'.2]
      have hk:k<(S j).bs.length:=by
       rcases η k (S j).bs.length with h'|h'
       ·exact h'
       ·exact absurd (.inr h') hc
      obtain⟨q,nS⟩:=Rc k p hk hp;have:=(ny eL ht j yj).2 (fun h'=>hc (.inl h')) k hk;rw[this,(sb k q nS hk).2.2];simp only[Hs,p_]
    refine hK _ _ _ _ _ (h.put eL ht hj ho (jg E j) vV Bq hdj h0.ro hn rfl rfl rfl hv WZ (μ _) (by omega) (fun i h1 h2=>?_) (.inl rfl) (fun k p hp=>by simp only[QN,same k p hp,Ξ]) (fun k b base hp _=>hn.sim.box k b base _ hp (same k _ hp)) (fun hne=>hq ?_) fun _=>⟨rfl,rfl⟩)
    ·rcases η j i with h'|h'
     ·obtain⟨x,p1,p2,_⟩:=h2;have:=C2 i x h' p1 (by simp[k_,p2,De,qk]);rw[this] at h1;cases h1
     ·omega
    ·cases he:fF pv o with
     |false=>rfl
     |true=>exact absurd ⟨o,ho,he,by rw[W5];exact hw⟩ hne
 ·have XS:=hw;rw[W5] at hw;rw[qJ (hG _ (ic _ _ _) Bv) hw];simp only[υ,if_false]
  have hne:¬eU pv ops F j:=by
   rintro⟨o',h1,_,h3⟩;rw[ho] at h1;cases h1;rw[XS] at h3;cases h3
  exact hollow (vY (S j) β (Hs S sg)) _ w _ Z undef (ic _ _ _) rfl Bv hne (.inl ⟨hs,rfl⟩) (Φ hTs) (by rw[hd];exact .im _ _ (.tup [] [] rfl (by simp))) (Γ _)
end
end Go.V
namespace Go.V
open Go.RowKit
theorem count_set:∀(l:List Bool) (i:Nat),l[i]?=some false→(l.set i true).count false+1=l.count false
 |[],i,h=>by simp at h
 |b::l,0,h=>by simp at h;subst h;simp
 |b::l,i+1,h=>by
  have:=count_set l i (by simpa using h);simp only[List.set_cons_succ,List.count_cons];omega
theorem Am {l:List Bool} (h:l.count false=0) (i:Nat) (hi:i<l.length):l[i]?=some true:=by
 rw[List.count_eq_zero] at h;rw[ζ hi]
 cases hb:l[i] with
 |true=>rfl
 |false=>exact absurd (hb▸List.getElem_mem hi) h
section
variable{pv:Pv} {P:Program} (ok:pv.Ok P) {cf:eS} (eL:iP P pv cf) {ops:Array Oper} {F:Nat→Fr} {S:Nat→St} {dd:Nat→D} (ht:Trace pv cf ops ops.toList F S dd) {dy:List (Nat×Nat)} (nR:lG pv ops dy=true) (gi:Still dy ops F S)
include eL ht
variable{a a0:Act}{w w0:World}{β β0:Nat→Option (Nat×Nat)}{Z Z0:Nat→Prop}{E:Nat→Bool}
theorem DI.start (h:gI w (S 0) β Z) (hf:oq w ((S 0).x β Z) (F 0) a.tmps) (hE:∀k,E k=false):DI pv ops F S dd a w β Z E a w β Z (fun _=>0):=by
 have ne:∀{k:Nat},E k=true→False:=fun hk=>by rw[hE] at hk;cases hk
 have kp:∀m,m≤ops.size→dK w ((S 0).x β Z) w (Xm S (fun _=>0) β Z m):=by
  intro m hm;have hl:=(di eL ht m 0 (by omega) hm).len
  have key:∀k p,β k=some p→(Xm S (fun _=>0) β Z m).β k=some p:=by
   intro k p hp;have:=h.dom k p.1 p.2 hp;simp only[Xm];rw[if_pos (by omega)];exact hp
  refine⟨fun k p hp=>⟨p,key k p hp⟩,fun b hb=>⟨hb,rfl⟩,fun k c p hp hc=>⟨c,?_,μ _⟩,fun k c _ _ b base hb=>⟨key k _ hb,rfl⟩⟩;simp only[Xm,Hs] at hc;simp only[Qe,QN]
  cases hk:(S 0).bs[k]? with
  |none=>rw[hk] at hc;cases hc
  |some bx=>rw[hk] at hc;exact hc
 have lw:∀t,d_ ops E t ops.size=none:=by
  intro t;have s:=f' ops E t ops.size
  cases hl:d_ ops E t ops.size with
  |none=>rfl
  |some j=>rw[hl] at s;exact(ne s.2.1).elim
 refine⟨rfl,rfl,fun k o hk=>(ne hk).elim,fun k hk=>(ne hk).elim,fun k p hp=>⟨h.dom k p.1 p.2 hp,Qv _,.inl rfl⟩,fun k p hp i hi h1 h2=>?_,fun k p _ j hj=>(ne hj).elim,fun k _ j hj=>(ne hj).elim,h.lt,h.inj,h.zd,h.zl,fun k b base hb=>?_,fun t=>?_,BQ.refl _ _,kp _ (μ _),
  fun k b base hb=>.inl ⟨base,hb⟩,fun b hb=>.inl hb,fun _ _=>rfl,fun _ _ h=>h⟩
 ·have h3:=h.dom k p.1 p.2 hp;have:=(di eL ht i 0 (by omega) (by omega)).len;omega
 ·have hk:=h.dom k b base hb;refine(h.box k b base _ hb ?_).bd (kp 0 (Qv _)) rfl;simp only[Hs];rw[ζ hk];rfl
 ·simp only[SX,val,lw t];exact(hf t).mono (kp 0 (Qv _))
theorem DI.finish {sg:Nat→Nat} (h:DI pv ops F S dd a0 w0 β0 Z0 E a w β Z sg) (h0:gI w0 (S 0) β0 Z0) (hE:∀k,k<ops.size→E k=true):
  Nx w0 (S 0) β0 Z0 w (S ops.size) β Z∧oq w ((S ops.size).x β Z) (F ops.size) a.tmps:=by
 have hg:=di eL ht ops.size 0 (Qv _) (μ _)
 have aaj:∀j,eU pv ops F j→j<ops.size:=by
  rintro j ⟨o,ho,_⟩
  rcases η j ops.size with h'|h'
  ·exact h'
  ·rw[Qz h'] at ho;cases ho
 have hdm:∀k p,β k=some p→k<(S ops.size).bs.length:=by
  intro k p hp;obtain⟨h1,h2,_⟩:=h.dom k p hp;exact ξ h1 (di eL ht ops.size (sg k) h2 (μ _)).len
 have sb:∀k p,β k=some p→sg k≤ops.size∧Hs S sg k=((S ops.size).bs[k]?).getD .dead∧(S ops.size).bs[k]?=some (Hs S sg k):=fun k p hk=>
  w6 eL ht h (μ _) (fun j hj _=>hE j hj) (fun j hj he=>by have:=aaj j he;omega) hk (hdm k p hk)
 have kx:∀m,m≤ops.size→dK w (Xm S sg β Z m) w ((S ops.size).x β Z):=by
  intro m hm
  have key:∀k p,(Xm S sg β Z m).β k=some p→β k=some p:=by
   intro k p hp;simp only[Xm] at hp
   split at hp
   ·exact hp
   ·cases hp
  refine⟨fun k p hp=>⟨p,key k p hp⟩,fun b hb=>⟨hb,rfl⟩,fun k c p hp hc=>⟨c,?_,μ _⟩,fun k c _ _ b base hb=>⟨key k _ hb,rfl⟩⟩;simp only[Qe,QN,(sb k p (key k p hp)).2.2,Ξ] at hc;exact hc
 refine⟨⟨⟨fun k b base hb=>hdm k _ hb,h.lt,h.inj,h.zd,h.zl,fun k b base bx hb ir=>?_,?_,?_⟩,h.keeps.trans (kx _ (μ _)),h.evo,h.fresh,h.zfresh,hg.len,hg.flr,hg.ro,fun k hk=>⟨hg.low k hk (ξ hk h0.ro),h.low k hk⟩,fun k hk yi=>⟨h.xB k hk yi,?_⟩⟩,fun t=>?_⟩
 ·obtain⟨s1,_,s3⟩:=sb k _ hb;rw[s3] at ir;cases ir;exact(h.box k b base hb).bd (kx _ s1) rfl
 ·rw[hg.flr];exact θ h0.flr hg.len
 ·rw[hg.ro];exact θ h0.ro hg.len
 ·refine jT eL ht ops.size (Qv _) (μ _) k hk fun q _ hq=>?_
  by_cases he:eU pv ops F q
  ·exact .inr (h.ph k (h.xB k hk yi) q (hE q hq) he (ξ hk (di eL ht q 0 (by omega) (by omega)).len))
  ·exact .inl he
 ·have hl:d_ ops E t ops.size=d_ ops (fun _=>true) t ops.size:=rZ fun i o h1 _=>⟨fun⟨hi,_⟩=>⟨hi,rfl⟩,fun⟨hi,_⟩=>⟨hi,hE i hi⟩⟩
  have hf:=h.frame t;have XZ:=(oz ht t ops.size (μ _)).1;have s:=f' ops (fun _=>true) t ops.size;simp only[val,SX,hl] at hf;rw[XZ]
  cases hq:d_ ops (fun _=>true) t ops.size with
  |none=>rw[hq] at hf;exact hf.mono (kx 0 (Qv _))
  |some i=>rw[hq] at hf s;exact hf.mono (kx (i+1) s.1)
include ok nR gi
theorem DI.all {Q:Exit→Act→World→Prop} (h0:gI w0 (S 0) β0 Z0) (E5:uR ops.toList a0.tmps.size) (K:∀a' w' β' Z',Nx w0 (S 0) β0 Z0 w' (S ops.size) β' Z'→oq w' ((S ops.size).x β' Z') (F ops.size) a'.tmps→a'.defers=a0.defers→a'.tmps.size=a0.tmps.size→Q .normal a' w'):
  ∀(fuel:Nat) (listed:Array Bool) (a:Act) (w:World) (β:Nat→Option (Nat×Nat)) (Z:Nat→Prop) (sg:Nat→Nat),listed.size=ops.size→listed.toList.count false=fuel→
   DI pv ops F S dd a0 w0 β0 Z0 (fun k=>listed.getD k false) a w β Z sg→wpAny P .any ops Q fuel listed a w:=by
 have fin:∀(listed:Array Bool) (a:Act) (w:World) (β:Nat→Option (Nat×Nat)) (Z:Nat→Prop) (sg:Nat→Nat),DI pv ops F S dd a0 w0 β0 Z0 (fun k=>listed.getD k false) a w β Z sg→(∀k,k<ops.size→listed.getD k false=true)→Q .normal a w:=by
  intro listed a w β Z sg h nU;obtain⟨h1,h2⟩:=h.finish eL ht h0 nU;exact K a w β Z h1 h2 h.defers h.size
 intro fuel
 induction fuel with
 |zero=>
  intro listed a w β Z sg hsz hc h
  have nU:∀k,k<ops.size→listed.getD k false=true:=by
   intro k hk;have:=Am hc k (by simpa[hsz] using hk);rw[Θ] at this;simp[κ,this]
  refine⟨?_,fin listed a w β Z sg h nU⟩;rw[List.eq_nil_iff_forall_not_mem];intro j hj;rw[mem_ready] at hj;obtain⟨h1,o,ho,_⟩:=hj;have yj:=(QM.1 ho).1;have:=nU j yj;have jI:j<listed.size:=by omega
  simp only[κ,ς jI,Qd] at h1 this;rw[h1] at this;cases this
 |succ fuel ih=>
  intro listed a w β Z sg hsz hc h;refine⟨fun vZ=>fin listed a w β Z sg h ?_,fun j hj=>?_⟩
  ·intro k
   induction k using JV with
   |_ k ihk=>
    intro hk
    cases hb:listed.getD k false with
    |true=>rfl
    |false=>
     have iL:k<listed.size:=by omega
     have:k∈Region.ready .any ops listed:=by
      rw[mem_ready];refine⟨by simp only[κ,ς iL,Qd] at hb⊢;exact hb,ops[k],ς hk,fun e he hbd=>?_⟩;have hlt:=zw nR (ς hk) (by simpa using he) hbd;exact ihk e.on hlt (by omega)
     rw[vZ] at this;cases this
  ·rw[mem_ready] at hj;obtain⟨h1,o,ho,h2⟩:=hj;have yj:=(QM.1 ho).1;have jI:j<listed.size:=by omega
   have hjf:listed[j]?=some false:=by
    simp only[κ,ς jI,Qd] at h1;rw[ς jI,h1]
   refine h.step ok eL ht nR gi h0 ho (by simp[κ,hjf]) (fun e he hb=>h2 e (by simpa using he) hb) E5 fun a' w' β' Z' Xl h'=>ih _ a' w' β' Z' Xl (by simp[hsz]) ?_ ?_
   ·have:=count_set listed.toList j (by rw[Θ];exact hjf);rw[Array.toList_setIfInBounds];omega
   ·have he:(fun k=>(listed.setIfInBounds j true).getD k false)=AD (fun k=>listed.getD k false) j:=by
     funext k
     by_cases kL:j=k
     ·subst kL;simp[AD,jI]
     ·rw[getD_set_ne false kL]
      have:QI k j=false:=by
       cases hb:QI k j with
       |false=>rfl
       |true=>exact absurd (QJ hb).symm kL
      simp[AD,this]
    rw[he];exact h'
end
variable{ops:Array Oper}{pv:Pv}{cf:eS}{dy:List (Nat×Nat)}{fr aM:Fr}{st ai:St}
theorem BU {F:Nat→Fr} {S:Nat→St}:Still [] ops F S:=by
 intro r q y a k x hy ha hw hk hx Rq hwx h1 h2
 rcases QQ q r with h'|h'|h'
 ·have:=h1 h';simp[listed] at this
 ·subst h';rw[hx] at hy;cases hy;unfold FZ at Rq;rw[ha] at Rq;cases Rq
 ·have:=h2 h';simp[listed] at this
theorem B9 (h:xj pv cf ops dy fr st=some (aM,ai)):
  ∃(F:Nat→Fr) (S:Nat→St) (dd:Nat→D),F 0=fr∧S 0=st∧F ops.size=aM∧S ops.size=ai∧Trace pv cf ops ops.toList F S dd∧Still dy ops F S:=by
 unfold xj at h
 split at h
 ·obtain⟨F,S,dd,Vt,Su,Sw,Ss,ht⟩:=trace ops.toList fr st aM ai h;rw[QP] at Sw Ss;exact⟨F,S,dd,Vt,Su,Sw,Ss,ht,BU⟩
 ·obtain⟨F,S,dd,Vt,Su,Sw,Ss,ht,hl⟩:=Dt ops.toList 0 [] fr st aM ai rfl h;rw[QP] at Sw Ss;exact⟨F,S,dd,Vt,Su,Sw,Ss,ht,Dv hl⟩
theorem rL {pv:Pv} {cf:eS} {ops:Array Oper} {dy:List (Nat×Nat)}:∀(l:List Oper) (j:Nat) (log:Log) (fr:Fr) (st:St) (r:Fr×St),pY pv cf ops dy j log l fr st=some r→jk pv cf ops l fr st=some r
 |[],j,log,fr,st,r,h=>by simpa only[pY,jk] using h
 |o::l,j,log,fr,st,r,h=>by
  simp only[pY] at h;simp only[jk]
  cases hw:aH ops fr o with
  |none=>rw[hw] at h;cases h
  |some b=>
   rw[hw] at h
   cases b with
   |true=>
    simp only at h⊢
    cases gv:fv pv cf fr st o with
    |none=>rw[gv] at h;cases h
    |some q=>
     obtain⟨d,st1⟩:=q;rw[gv] at h;simp only at h⊢
     cases hc:Fz dy j log o fr st st1 with
     |true=>rw[hc] at h;exact rL l _ _ _ _ _ h
     |false=>rw[hc] at h;cases h
   |false=>simp only at h⊢;exact rL l _ _ _ _ _ h
theorem xi {r:Fr×St} (h:xj pv cf ops dy fr st=some r):jk pv cf ops ops.toList fr st=some r:=by
 unfold xj at h
 split at h
 ·exact h
 ·exact rL _ _ _ _ _ _ h
theorem M3 {P:Program} (ok:pv.Ok P) (eL:iP P pv cf) {id:Nat} (nR:lG pv ops dy=true) (hs:xj pv cf ops dy fr st=some (aM,ai)) {w:World} {β:Nat→Option (Nat×Nat)} {Z:Nat→Prop} (h:gI w st β Z) {a:Act} (hf:oq w (st.x β Z) fr a.tmps) (hd:uR ops.toList a.tmps.size) {Q:Exit→Act→World→Prop} (K:∀a' w' β' Z',Nx w st β Z w' ai β' Z'→oq w' (ai.x β' Z') aM a'.tmps→a'.defers=a.defers→a'.tmps.size=a.tmps.size→Q .normal a' w'):(Code.region id ops true).wp P Q a w:=by
 obtain⟨F,S,dd,Vt,Su,Sw,Ss,ht,gi⟩:=B9 hs;refine wp_region_any ok.mixed ?_;have hn:Nx w st β Z {w with drawn:=w.drawn+1} st β Z:=JA h rfl rfl rfl rfl;have h0:gI {w with drawn:=w.drawn+1} (S 0) β Z:=by rw[Su];exact hn.sim
 have hf0:oq {w with drawn:=w.drawn+1} ((S 0).x β Z) (F 0) a.tmps:=by rw[Su,Vt];exact hf.mono hn.keeps
 refine DI.all ok eL ht nR gi h0 hd (fun a' w' β' Z' EU tx h1 h2=>?_) ops.size _ a _ β Z (fun _=>0) (by simp) (by simp) (DI.start eL ht h0 hf0 fun k=>?_)
 ·rw[Ss] at EU tx;rw[Sw] at tx;rw[Su] at EU;exact K a' w' β' Z' (hn.trans EU) tx h1 h2
 ·simp only[κ,Qn]
  split<;>rfl
end Go.V
namespace Go.V
open Go.RowKit
def Out.ex:Out→Exit
 | .next=>.normal
 | .exit id=>.exit id
 | .ret=>.ret
def codeOk (pv:Pv) (dyn:List (Nat×List (Nat×Nat))) (n:Nat):Code→Bool
 | .region id ops d=>(ops.toList.all fun o=>match o.dst with|some t=>J2 t n|none=>true) &&(!d||lG pv ops (g_ id dyn))
 | .seq a b=>codeOk pv dyn n a &&codeOk pv dyn n b
 | .cond _ a b=>codeOk pv dyn n a &&codeOk pv dyn n b
 | .block _ c=>codeOk pv dyn n c
 | .loop c=>codeOk pv dyn n c
 |_=>true
theorem yy {l:List Oper} {n:Nat} (h:(l.all fun o=>match o.dst with|some t=>J2 t n|none=>true)=true):uR l n:=by
 intro o ho t hd;have:=QZ.1 h o ho;rw[hd] at this;simp only at this;exact QD this
theorem least (p:Nat→Prop):∀n,p n→∃m,p m∧∀k,p k→m≤k:=by
 intro n
 induction n using JV with
 |_ n ih=>
  intro hn
  by_cases h:∃k,k<n∧p k
  ·obtain⟨k,hk,hp⟩:=h;exact ih k hk hp
  ·refine⟨n,hn,fun k hk=>?_⟩
   rcases η k n with h'|h'
   ·exact absurd ⟨k,h',hk⟩ h
   ·exact h'
open Classical in
noncomputable def mu (p:Nat→Prop):Nat:=if h:∃m,p m∧∀k,p k→m≤k then Classical.choose h else 0
theorem Bc {p:Nat→Prop} {n:Nat} (h:p n):p (mu p)∧∀k,p k→mu p≤k:=by
 have he:=least p n h;unfold mu;rw[dif_pos he];exact Classical.choose_spec he
theorem n_ {w:World} {x:X} {fr:Fr} {tmps:Array Value} (h:oq w x fr tmps):oq w x fr.clean tmps:=by
 intro t;have:=h t;simp only[Fr.clean,Fr.get] at this⊢
 cases hb:J1 fr.n t with
 |false=>rw[hb] at this;exact this
 |true=>exact .bD _ _ _
section
variable{pv:Pv} {P:Program} (ok:pv.Ok P) {cf:eS} (eL:iP P pv cf)
include eL
theorem oR {ops:Array Oper}:∀{l:List Oper} {fr aM:Fr} {st ai:St},jk pv cf ops l fr st=some (aM,ai)→eE st ai
 |[],fr,aM,st,ai,h=>by simp only[jk] at h;cases h;exact .refl _
 |o::l,fr,aM,st,ai,h=>by
  simp only[jk] at h
  split at h
  ·split at h
   ·rename_i gv;exact(rM eL gv).1.trans (oR h)
   ·cases h
  ·exact oR h
  ·cases h
omit eL in
theorem uE {step:Fr→St→Option (Out×Fr×St)} (hs:∀fr st out aM ai,step fr st=some (out,aM,ai)→eE st ai):∀(m:Nat) {fr aM:Fr} {st ai:St} {out:Out},iter step m fr st=some (out,aM,ai)→eE st ai
 |0,_,_,_,_,_,h=>by cases h
 |m+1,fr,aM,st,ai,out,h=>by
  simp only[iter] at h
  split at h
  ·rename_i h1;exact(hs _ _ _ _ _ h1).trans (uE hs m h)
  ·exact hs _ _ _ _ _ h
theorem pe (dyn:List (Nat×List (Nat×Nat))) (n:Nat):∀(c:Code) {fr aM:Fr} {st ai:St} {out:Out},cp pv cf dyn n c fr st=some (out,aM,ai)→eE st ai:=by
 intro c
 induction c with
 |skip=>intro fr aM st ai out h;simp only[cp] at h;cases h;exact .refl _
 |region id ops d=>
  intro fr aM st ai out h;simp only[cp] at h
  split at h
  ·rename_i gv;cases h;exact oR eL (xi gv)
  ·cases h
 |seq a b F5 Ro=>
  intro fr aM st ai out h;simp only[cp] at h
  split at h
  ·rename_i h1;exact(F5 h1).trans (Ro h)
  ·exact F5 h
 |cond c a b F5 Ro=>
  intro fr aM st ai out h;simp only[cp] at h
  split at h
  ·exact F5 h
  ·exact Ro h
  ·cases h
 |block id c ih=>
  intro fr aM st ai out h;simp only[cp] at h
  split at h
  ·rename_i h1
   split at h<;>cases h<;>exact ih h1
  ·exact ih h
 |loop c ih=>
  intro fr aM st ai out h;simp only[cp] at h;exact uE (fun _ _ _ _ _=>ih) n h
 |exit id=>intro fr aM st ai out h;simp only[cp] at h;cases h;exact .refl _
 |ret=>intro fr aM st ai out h;simp only[cp] at h;cases h;exact .refl _
 |_=>intro fr aM st ai out h;simp only[cp] at h;cases h
include ok
theorem M9 (dyn:List (Nat×List (Nat×Nat))) (n sz:Nat):∀(c:Code),codeOk pv dyn sz c=true→∀{fr aM:Fr} {st ai:St} {out:Out},cp pv cf dyn n c fr st=some (out,aM,ai)→
  ∀{w:World} {β:Nat→Option (Nat×Nat)} {Z:Nat→Prop} {a:Act} {Q:Exit→Act→World→Prop},gI w st β Z→oq w (st.x β Z) fr a.tmps→a.tmps.size=sz→
  (∀a' w' β' Z',Nx w st β Z w' ai β' Z'→oq w' (ai.x β' Z') aM a'.tmps→a'.defers=a.defers→a'.tmps.size=sz→Q out.ex a' w')→c.wp P Q a w:=by
 intro c
 induction c with
 |skip=>
  intro _ fr aM st ai out h w β Z a Q hs hf hz K;simp only[cp] at h;cases h;exact wp_skip (K a w β Z (Φ hs) hf rfl hz)
 |region id ops d=>
  intro hc fr aM st ai out h w β Z a Q hs hf hz K;simp only[cp] at h;simp only[codeOk,ρ] at hc;have hd:=yy hc.1
  split at h
  ·rename_i SA st1 gv;cases h
   cases d with
   |true=>
    have nR:lG pv ops (g_ id dyn)=true:=by simpa using hc.2
    exact M3 ok eL nR gv hs (n_ hf) (by rw[hz];exact hd) fun a' w' β' Z' h1 h2 h3 h4=>K a' w' β' Z' h1 h2 h3 (h4.trans hz)
   |false=>
    refine wp_region ?_;have:=zu ok eL (ops:=ops) (Q:=Q) ops.toList 0 _ _ st _ β Z a w (fun j=>by simp) (xi gv) hs (n_ hf) (by rw[hz];exact hd) fun a' w' β' Z' h1 h2 h3 h4=>K a' w' β' Z' h1 h2 h3 (h4.trans hz);rw[List.range_eq_range']
    simpa using this
  ·cases h
 |seq x y WL XK=>
  intro hc fr aM st ai out h w β Z a Q hs hf hz K;simp only[codeOk,ρ] at hc;simp only[cp] at h;refine wp_seq ?_
  split at h
  ·rename_i SA st1 h1;refine WL hc.1 h1 hs hf hz fun a' w' β' Z' hn tx hd yU=>?_;exact XK hc.2 h hn.sim tx yU fun a'' Tu tB Ga EU YU Bu XM=>K a'' Tu tB Ga (hn.trans EU) YU (Bu.trans hd) XM
  ·rename_i hne;refine WL hc.1 h hs hf hz fun a' w' β' Z' hn tx hd yU=>?_;have hK:=K a' w' β' Z' hn tx hd yU
   cases out with
   |next=>exact(hne _ _ h).elim
   |exit id=>exact hK
   |ret=>exact hK
 |cond c x y WL XK=>
  intro hc fr aM st ai out h w β Z a Q hs hf hz K;simp only[codeOk,ρ] at hc;simp only[cp] at h;have hv:=uP hf c
  split at h
  ·rename_i hb;rw[hb] at hv;exact wp_cond_true (eN hv) (WL hc.1 h hs hf hz K)
  ·rename_i hb;rw[hb] at hv;exact wp_cond_false (eN hv) (XK hc.2 h hs hf hz K)
  ·cases h
 |block id c ih=>
  intro hc fr aM st ai out h w β Z a Q hs hf hz K;simp only[codeOk] at hc;simp only[cp] at h;refine wp_block ?_
  split at h
  ·rename_i i SA st1 h1;refine ih hc h1 hs hf hz fun a' w' β' Z' hn tx hd yU=>?_;simp only[Out.ex,Exit.inBlock]
   split at h
   ·rename_i hi;cases h;rw[if_pos hi];exact K a' w' β' Z' hn tx hd yU
   ·rename_i hi;cases h;rw[if_neg hi];exact K a' w' β' Z' hn tx hd yU
  ·rename_i hne;refine ih hc h hs hf hz fun a' w' β' Z' hn tx hd yU=>?_;have hK:=K a' w' β' Z' hn tx hd yU
   cases out with
   |next=>exact hK
   |exit id=>exact(hne _ _ _ h).elim
   |ret=>exact hK
 |loop c ih=>
  intro hc fr aM st ai out h w β Z a Q hs hf hz K;simp only[codeOk] at hc;simp only[cp] at h
  let J:Nat→Act→World→Prop:=fun m a1 w1=>∃SA st1 β1 Z1,iter (cp pv cf dyn n c) m SA st1=some (out,aM,ai)∧Nx w st β Z w1 st1 β1 Z1∧oq w1 (st1.x β1 Z1) SA a1.tmps∧a1.defers=a.defers∧a1.tmps.size=sz
  refine wp_loop (fun a1 w1=>∃m,J m a1 w1) (fun a1 w1=>mu fun m=>J m a1 w1) ⟨n,fr,st,β,Z,h,Φ hs,hf,rfl,hz⟩ ?_;rintro a1 w1 ⟨m0,kW⟩;obtain⟨⟨SA,st1,β1,Z1,h1,zW,Tj,CE,hz1⟩,_⟩:=Bc (p:=fun m=>J m a1 w1) kW;generalize hmu:mu (fun m=>J m a1 w1)=m at h1
  cases m with
  |zero=>cases h1
  |succ m=>
   simp only[iter] at h1
   split at h1
   ·rename_i Sz st2 h2;refine ih hc h2 zW.sim (n_ Tj) hz1 fun a' w' β' Z' hn tx hd yU=>?_
    have hJ:J m a' w':=⟨Sz,st2,β',Z',h1,zW.trans hn,tx,hd.trans CE,yU⟩
    have:=(Bc (p:=fun m=>J m a' w') hJ).2 m hJ;exact⟨⟨m,hJ⟩,by omega⟩
   ·rename_i hne;refine ih hc h1 zW.sim (n_ Tj) hz1 fun a' w' β' Z' hn tx hd yU=>?_;have hK:=K a' w' β' Z' (zW.trans hn) tx (hd.trans CE) yU
    cases out with
    |next=>exact(hne _ _ h1).elim
    |exit id=>exact hK
    |ret=>exact hK
 |exit id=>
  intro _ fr aM st ai out h w β Z a Q hs hf hz K;simp only[cp] at h;cases h;exact wp_exit (K a w β Z (Φ hs) hf rfl hz)
 |ret=>
  intro _ fr aM st ai out h w β Z a Q hs hf hz K;simp only[cp] at h;cases h;exact wp_ret (K a w β Z (Φ hs) hf rfl hz)
 |_=>intro _ fr aM st ai out h;simp only[cp] at h;cases h
end
end Go.V
namespace Go.V
open Go.RowKit
def Al (N:Nat) (β:Nat→Option (Nat×Nat)):Nat→Option (Nat×Nat):=fun k=>if k<N then β k else none
def nV (N:Nat) (β:Nat→Option (Nat×Nat)) (Z:Nat→Prop):Nat→Prop:=fun b=>Z b∨∃k base,N≤k∧β k=some (b,base)
variable{w:World}{x x':X}{N n m:Nat}{d d':D}{v:Value}{Z:Nat→Prop}{st st1 ai:St}{β:Nat→Option (Nat×Nat)}{pv:Pv}{P:Program}{ds:List D}{us:List Value}
theorem VR.cut (hβ:∀k,k<N→x'.β k=x.β k) (hv:∀k,k<N→x'.aG k=x.aG k) (hZ:∀b,x.Z b→x'.Z b) (h:VR w x d v):d.ref≤N→VR w x' d v:=by
 induction h with
 |im d v h=>intro _;exact .im d v (h.mono fun b hb=>⟨hZ b hb,rfl⟩)
 |win k vr off len s a cap hc hk hm h=>
  intro hr;simp only[Qy] at hr;exact .win k vr off len s a cap hc (by rw[hβ k hr];exact hk) (by rw[hv k hr];exact hm) (by rw[hv k hr,hβ k hr];exact h)
 |ptr k vr off a hk hm h=>
  intro hr;simp only[Qy] at hr;exact .ptr k vr off a (by rw[hβ k hr];exact hk) (by rw[hv k hr];exact hm) (by rw[hv k hr,hβ k hr];exact h)
 |mp k r hk h=>
  intro hr;simp only[Qy] at hr;exact .mp k r (by rw[hβ k hr];exact hk) (by rw[hv k hr,hβ k hr];exact h)
 |fn f cs vs hl hr ih=>intro hN;simp only[Qy] at hN;exact .fn f cs vs hl fun i c v hc hv=>ih i c v hc hv (θ (ch (φ hc)) hN)
 |agg cs vs hl h1 hr ih=>intro hN;simp only[Qy] at hN;exact .agg cs vs hl h1 fun i c v hc hv=>ih i c v hc hv (θ (ch (φ hc)) hN)
 |tup cs vs hl hr ih=>intro hN;simp only[Qy] at hN;exact .tup cs vs hl fun i c v hc hv=>ih i c v hc hv (θ (ch (φ hc)) hN)
theorem lC {cs:List D} {vs:List Value} (hl:cs.length=vs.length) (h:∀(i:Nat) c v,cs[i]?=some c→vs[i]?=some v→c.ref≤N):refs cs≤N:=by
 refine qU fun d hd=>?_;obtain⟨i,hi⟩:=QC hd;have hlt:=f_ hi;exact h i d _ hi (ζ (by omega))
theorem IR.ref (h:IR w Z d v):d.ref≤0:=by
 induction h with
 |agg cs vs hl h1 hr ih=>simp only[Qy];exact lC hl ih
 |tup cs vs hl hr ih=>simp only[Qy];exact lC hl ih
 |_=>simp[Qy]
theorem VR.ref (hd:∀k p,x.β k=some p→k<N) (h:VR w x d v):d.ref≤N:=by
 induction h with
 |im d v h=>exact θ h.ref (Qv _)
 |win k vr off len s a cap hc hk hm h=>obtain⟨p,hp⟩:=hk;simp only[Qy];exact hd k p hp
 |ptr k vr off a hk hm h=>obtain⟨p,hp⟩:=hk;simp only[Qy];exact hd k p hp
 |mp k r hk h=>obtain⟨p,hp⟩:=hk;simp only[Qy];exact hd k p hp
 |fn f cs vs hl hr ih=>simp only[Qy];exact lC hl ih
 |agg cs vs hl h1 hr ih=>simp only[Qy];exact lC hl ih
 |tup cs vs hl hr ih=>simp only[Qy];exact lC hl ih
theorem lI {f:D→Option D}:∀{ds xs:List D},fN f ds=some xs→xs.length=ds.length∧∀(i:Nat) x,xs[i]?=some x→∃d,ds[i]?=some d∧f d=some x
 |[],xs,h=>by simp only[fN] at h;cases h;exact⟨rfl,fun i x hx=>by simp at hx⟩
 |d::ds,xs,h=>by
  simp only[fN] at h
  split at h
  ·rename_i y hy
   split at h
   ·rename_i ys kU;cases h;obtain⟨h1,h2⟩:=lI kU;refine⟨by simp[h1],fun i x hx=>?_⟩
    cases i with
    |zero=>simp at hx;subst hx;exact⟨d,rfl,hy⟩
    |succ i=>simpa using h2 i x (by simpa using hx)
   ·cases h
  ·cases h
theorem uW (s:Nat):∀(n:Nat) (c:List D),(chunk s n c).length=n
 |0,_=>rfl
 |n+1,c=>by simp only[chunk,Jz,uW s n]
theorem uX (s:Nat):∀(n:Nat) (c:List D) (i:Nat) (e:D),n*s≤c.length→(∀x∈c,x.cells?=some [x]∧x.cells=[x])→(chunk s n c)[i]?=some e→
  e.cells?=some e.cells∧e.cells.length=s∧∀(j:Nat) y,e.cells[j]?=some y→c[i*s+j]?=some y
 |0,_,i,e,_,_,h=>by simp[chunk] at h
 |n+1,c,i+1,e,hl,h1,h=>by
  simp only[chunk,Qs] at h;have hs:n*s+s≤c.length:=by rw[J4] at hl;exact hl
  obtain⟨q1,q2,q3⟩:=uX s n (c.drop s) i e (by simp;omega) (fun x hx=>h1 x (J5 hx)) h;refine⟨q1,q2,fun j y hy=>?_⟩;have:=q3 j y hy;rw[JZ] at this;rw[J4,←this];congr 1;omega
 |n+1,c,0,e,hl,h1,h=>by
  have hs:s≤c.length:=by rw[J4] at hl;omega
  simp only[chunk,Δ,QG.injEq] at h
  split at h
  ·cases c with
   |nil=>simp at hs
   |cons x c=>
    simp only[List.headD_cons] at h;subst h;obtain⟨q1,q2⟩:=h1 x (Qj ..);refine⟨by rw[q1,q2],by rw[q2];rfl,fun j y hy=>?_⟩;rw[q2] at hy
    cases j with
    |zero=>simpa using hy
    |succ j=>simp at hy
  ·subst h;refine⟨rfl,by simp[D.cells];omega,fun j y hy=>?_⟩;simp only[D.cells] at hy;rw[Qb] at hy
   split at hy
   ·simpa using hy
   ·cases hy
theorem zp {x:D} (h:fu st N n d=some x):(∃cs,x=.agg cs)∨(x.cells?=some [x]∧x.cells=[x]):=by
 cases n with
 |zero=>cases h
 |succ n=>
  cases d<;>simp only[fu] at h<;>first|(cases h;done)|(cases h;exact .inr ⟨rfl,rfl⟩)|skip
  case win k aG off len sz=>
   split at h
   ·cases h
   ·obtain⟨⟨a,c⟩,_,h⟩:=ε.1 h;dsimp only at h
    split at h
    ·obtain⟨r,_,hr⟩:=γ.1 h;cases hr;exact .inr ⟨rfl,rfl⟩
    ·cases h
  case agg cs=>
   obtain⟨r,_,hr⟩:=γ.1 h;cases hr;exact .inl ⟨_,rfl⟩
theorem LN (h:gI w st β Z) (N:Nat):∀(n:Nat) {d d':D} {v:Value},fu st N n d=some d'→VR w (st.x β Z) d v→IR w (nV N β Z) d' v:=by
 have up:∀{d:D} {v:Value},IR w Z d v→IR w (nV N β Z) d v:=fun hi=>hi.mono fun b hb=>⟨.inl hb,rfl⟩
 intro n
 induction n with
 |zero=>intro d d' v hp;cases hp
 |succ n ih=>
  intro d d' v hp hv;cases d<;>simp only[fu] at hp<;>try(cases hp;done)
  case bool b=>cases hp;rw[eN hv];exact .bool b
  case int k i=>cases hp;rw[cO hv];exact .int k i
  case str s=>cases hp;rw[fV hv];exact .str s
  case nul=>cases hp;rw[eY hv];exact .emp none 0
  case sl es=>cases hp;cases hv with|im _ _ hi=>exact up hi
  case pnil=>cases hp;rw[iJ hv];exact .pnil
  case nilfn=>cases hp;cases hv with|im _ _ hi=>exact up hi
  case nilif=>cases hp;cases hv with|im _ _ hi=>exact up hi
  case agg cs=>
   obtain⟨xs,hx,hr⟩:=γ.1 hp;cases hr;obtain⟨vs,rfl,hl,h1,h2⟩:=iu hv;obtain⟨g1,g2⟩:=lI hx;refine .agg xs vs (g1.trans hl) h1 fun i c u hc hu=>?_;obtain⟨d,CE,yY⟩:=g2 i c hc;exact ih yY (h2 i d u CE hu)
  case win k aG off len s=>
   split at hp
   ·cases hp
   ·rename_i Tc;obtain⟨⟨ar,c⟩,hm,hp⟩:=ε.1 hp;dsimp only at hp
    split at hp
    ·rename_i lQ;obtain⟨xs,hx,hr⟩:=γ.1 hp;cases hr;obtain⟨a,cap,rfl,hlc,_,_,jv⟩:=eX hv;obtain⟨b,base,sz,hb,_,mC⟩:=jv (df hm).2;have dM:cE w (st.x β Z) b (base+off) ((c.drop off).take (len*s)):=((h.cells hm hb).drop off).take _;obtain⟨g1,g2⟩:=lI hx;have hlen:xs.length=len*s:=by rw[g1];simp;omega
     have hcell:∀(j:Nat) y,xs[j]?=some y→∃u,w.cell? ⟨b,base+off+j,none⟩=some u∧u.oneCell'=true∧IR w (nV N β Z) y u:=by
      intro j y hy;obtain⟨d,CE,yY⟩:=g2 j y hy;obtain⟨u,jh,lh,o5⟩:=dM j d CE;exact⟨u,jh,lh,ih yY o5⟩
     have kK:∀x∈xs,x.cells?=some [x]∧x.cells=[x]:=by
      intro x hxm;obtain⟨j,hj⟩:=QC hxm;obtain⟨d,_,yY⟩:=g2 j x hj;obtain⟨u,_,lh,o5⟩:=hcell j x hj
      rcases zp yY with⟨cs,rfl⟩|h'
      ·cases o5;simp[Value.oneCell'] at lh
      ·exact h'
     rcases mC with rfl|⟨rfl,_⟩
     ·have:len=0:=by omega
      subst this;exact .emp (some a) 0
     ·have hcl:=uW s len xs;have hg:=fun i e=>uX s len xs i e (by omega) kK;have key:∀(i:Nat) e (j:Nat) y,(chunk s len xs)[i]?=some e→e.cells[j]?=some y→∃u,w.cell? ⟨b,base+off+(i*s+j),none⟩=some u∧u.oneCell'=true∧IR w (nV N β Z) y u:=fun i e j y he hy=>hcell _ y ((hg i e he).2.2 j y hy);have:=IR.sl (w:=w) (Z:=nV N β Z) (chunk s len xs) b (base+off) cap s (fun i j=>(w.cell? ⟨b,base+off+(i*s+j),none⟩).getD undef) (.inr ⟨k,base,by omega,hb⟩) (by omega)
       (fun i e he=>⟨(hg i e he).1,(hg i e he).2.1⟩)
       (fun i e j y he hy=>by obtain⟨u,jh,lh,_⟩:=key i e j y he hy;rw[jh];exact⟨rfl,lh⟩)
       (fun i e j y he hy=>by obtain⟨u,jh,_,o5⟩:=key i e j y he hy;rw[jh];exact o5)
      rw[hcl] at this;exact this
    ·cases hp
theorem CK (h:gI w st β Z) (hβ:∀k,k<N→x'.β k=β k) (Ny:∀k,k<N→x'.aG k=st.aG k) (hZ:x'.Z=nV N β Z) (kn:Bool):
  ∀(n:Nat) {d d':D} {v:Value},bn st N kn n d=some d'→VR w (st.x β Z) d v→VR w x' d' v:=by
 have cut:∀{d:D} {v:Value},VR w (st.x β Z) d v→d.ref≤N→VR w x' d v:=fun hv hr=>hv.cut hβ Ny (fun b hb=>by rw[hZ];exact .inl hb) hr;have im:∀{d:D} {v:Value},IR w (nV N β Z) d v→VR w x' d v:=fun hi=>.im _ _ (by rw[hZ];exact hi);intro n
 induction n with
 |zero=>intro d d' v hp;cases hp
 |succ n ih=>
  intro d d' v hp hv
  cases d<;>simp only[bn] at hp<;>first|(cases hp;exact cut hv (by simp[Qy]))|skip
  case nul=>
   cases hp
   cases kn with
   |true=>exact cut hv (by simp[Qy])
   |false=>rw[eY hv];exact im (.emp none 0)
  case win k aG off len s=>
   split at hp
   ·rename_i hk;cases hp;exact cut hv (by simp only[Qy];omega)
   ·exact im (LN h N n hp hv)
  case ptr k aG off=>
   split at hp
   ·rename_i hk;cases hp;exact cut hv (by simp only[Qy];omega)
   ·cases hp
  case mp k=>
   split at hp
   ·rename_i hk;cases hp;exact cut hv (by simp only[Qy];omega)
   ·cases hp
  case fn f jL=>
   split at hp
   ·rename_i hk;cases hp;exact cut hv (by simp only[Qy];exact hk)
   ·cases hp
  case agg cs=>
   obtain⟨xs,hx,hr⟩:=γ.1 hp;cases hr;obtain⟨vs,rfl,hl,h1,h2⟩:=iu hv;obtain⟨g1,g2⟩:=lI hx;refine .agg xs vs (g1.trans hl) h1 fun i c u hc hu=>?_;obtain⟨d,CE,yY⟩:=g2 i c hc;exact ih yY (h2 i d u CE hu)
  case tup cs=>
   obtain⟨xs,hx,hr⟩:=γ.1 hp;cases hr;obtain⟨vs,rfl,hl,h2⟩:=vd hv;obtain⟨g1,g2⟩:=lI hx;refine .tup xs vs (g1.trans hl) fun i c u hc hu=>?_;obtain⟨d,CE,yY⟩:=g2 i c hc;exact ih yY (h2 i d u CE hu)
theorem cq (m:Mode) (st:St):(ah m st).bs=st.bs:=by cases m<;>rfl
theorem CN (h:gI w st β Z) (m:Mode):gI w (ah m st) β Z:=by
 refine⟨fun k b base hk=>by rw[cq];exact h.dom k b base hk,h.lt,h.inj,h.zd,h.zl,fun k b base bx hb ir=>?_,?_,?_⟩
 ·rw[cq] at ir;have:(ah m st).x β Z=st.x β Z:=by simp only[Qe];congr 1;funext k;simp only[QN,cq]
  rw[this];exact h.box k b base bx hb ir
 ·rw[cq];cases m<;>first|exact μ _|exact h.flr
 ·rw[cq];cases m<;>first|exact μ _|exact h.ro
theorem ED {w':World} {β':Nat→Option (Nat×Nat)} {Z':Nat→Prop} (h:gI w st β Z) (m:Mode) (kn:Bool) (hn:Nx w (ah m st) β Z w' st1 β' Z') (hg:eE (ah m st) st1) (hv:VR w' (st1.x β' Z') d v) (hl:c_ m kn st st1 d=some (d',ai)):∃tB Ga,Nx w st β Z w' ai tB Ga∧VR w' (ai.x tB Ga) d' v:=by
 by_cases hm:m=.bd
 ·subst hm;simp only[c_] at hl;cases hl;exact⟨β',Z',hn,hv⟩
 by_cases hw:m=.nw
 ·subst hw;simp only[c_] at hl;cases hl;have hx0:(ah .nw st).x β Z=st.x β Z:=by simp only[Qe];congr 1
  have hx1:(⟨st1.bs,st.flr,st.ro⟩:St).x β' Z'=st1.x β' Z':=by simp only[Qe];congr 1
  have hlen:st.bs.length≤st1.bs.length:=hn.len
  refine⟨β',Z',⟨⟨hn.sim.dom,hn.sim.lt,hn.sim.inj,hn.sim.zd,hn.sim.zl,fun k b base bx hb ir=>by rw[hx1];exact hn.sim.box k b base bx hb ir,θ h.flr hlen,θ h.ro hlen⟩,by rw[hx1,←hx0];exact hn.keeps,
   hn.evo.mono fun b hb=>?_,hn.fresh,hn.zfresh,hlen,rfl,rfl,fun k hk=>hn.low k (ξ hk h.ro),fun k hk h0=>hn.xB k hk h0⟩,by rw[hx1];exact hv⟩
  obtain⟨k,base,h1,h2⟩:=hb;exact⟨k,base,h1,θ h.ro h2⟩
 have hl:∃dd,bn st1 st.bs.length kn 16 d=some dd∧d'=dd∧ai=⟨st1.bs.take st.bs.length,st.flr,st.ro⟩:=by
  cases m<;>first|exact absurd rfl hm|exact absurd rfl hw|skip
  all_goals
   simp only[c_] at hl
   split at hl
   ·rename_i dd hf;cases hl;exact⟨_,hf,rfl,rfl⟩
   ·cases hl
 obtain⟨dd,hf,rfl,rfl⟩:=hl
 have MQ:(ah m st).flr=st.bs.length:=by cases m<;>first|rfl|exact absurd rfl hm|exact absurd rfl hw
 have eT:st.ro≤(ah m st).ro:=by cases m<;>first|exact μ _|exact h.ro
 have hlen:st.bs.length≤st1.bs.length:=by have:=hn.len;rw[cq] at this;exact this
 have hb:∀k,k<st.bs.length→(st1.bs.take st.bs.length)[k]?=st1.bs[k]?:=fun k hk=>by rw[Qb,if_pos hk]
 have hx:(ah m st).x β Z=st.x β Z:=by simp only[Qe];congr 1;funext k;simp only[QN,cq]
 have Ny:∀k,k<st.bs.length→(⟨st1.bs.take st.bs.length,st.flr,st.ro⟩:St).aG k=st1.aG k:=fun k hk=>by simp only[QN,hb k hk]
 have hβ:∀k,k<st.bs.length→Al st.bs.length β' k=β' k:=fun k hk=>by simp only[Al,if_pos hk]
 have zP:∀k p,Al st.bs.length β' k=some p→k<st.bs.length∧β' k=some p:=by
  intro k p hp;simp only[Al] at hp
  split at hp
  ·exact⟨by assumption,hp⟩
  ·cases hp
 refine⟨Al st.bs.length β',nV st.bs.length β' Z',⟨⟨fun k b base hk=>?_,fun k b base hk=>hn.sim.lt k b base (zP k _ hk).2,fun k k' b y y' h1 h2=>hn.sim.inj k k' b y y' (zP k _ h1).2 (zP k' _ h2).2,?_,?_,?_,?_,?_⟩,?_,?_,?_,?_,?_,rfl,rfl,?_,?_⟩,?_⟩
 ·have:=(zP k _ hk).1;simp;omega
 ·intro k b base hk hz;obtain⟨h1,h2⟩:=zP k _ hk
  rcases hz with hz|⟨k2,BL,h3,h4⟩
  ·exact hn.sim.zd k b base h2 hz
  ·have:=hn.sim.inj k k2 b _ _ h2 h4;omega
 ·rintro b (hz|⟨k2,BL,_,h4⟩)
  ·exact hn.sim.zl b hz
  ·exact hn.sim.lt k2 b BL h4
 ·intro k b base bx hk ir;obtain⟨h1,h2⟩:=zP k _ hk;simp only at ir;rw[hb k h1] at ir;have CH:=hn.sim.box k b base bx h2 ir
  have XL:∃p,β k=some p:=by
   cases hq:β k with
   |some p=>exact⟨p,rfl⟩
   |none=>
    have:=(hn.xB k (by rw[cq];exact h1) hq).1;rw[h2] at this;cases this
  obtain⟨p,hp⟩:=XL
  cases bx with
  |mem vr ar cells=>
   obtain⟨c,el,fr,q1,q2,q3,q4⟩:=CH;refine⟨c,el,fr,q1,q2,q3,fun j e he=>?_⟩;obtain⟨u,u1,u2,u3⟩:=q4 j e he;refine⟨u,u1,u2,u3.cut hβ Ny (fun b hb=>show nV st.bs.length β' Z' b from .inl hb) ?_⟩;have h0:st.bs[k]?=some st.bs[k]:=ζ h1;have h5:=hg.fl k st.bs[k] _ (by rw[MQ];exact h1) (by rw[cq];exact h0) ir e (φ he)
   have h6:refs (st.bs[k]).cells≤st.bs.length:=qU fun x hx=>by
    have NM:=h.box k p.1 p.2 _ hp h0
    cases hbk:st.bs[k] with
    |mem vr0 ar0 aan=>
     rw[hbk] at NM hx;obtain⟨_,_,_,_,_,_,r4⟩:=NM;obtain⟨i,hi⟩:=QC hx;obtain⟨_,_,_,r7⟩:=r4 i x hi;exact r7.ref fun k p hp=>h.dom k p.1 p.2 hp
    |_=>rw[hbk] at hx;simp[iI.cells] at hx
   omega
  |iter s pos=>exact CH
  |map e=>exact CH
  |dead=>exact CH
 ·have:=h.flr;simp;omega
 ·have:=h.ro;simp;omega
 ·have hk:=hn.keeps;rw[hx] at hk;refine⟨fun k p hp=>?_,fun b hb=>⟨.inl (hk.z b hb).1,(hk.z b hb).2⟩,fun k c p hp hc=>?_,fun k c hc Aa b base Sn=>?_⟩
  ·obtain⟨p',vW⟩:=hk.dm k p hp;exact⟨p',by show Al st.bs.length β' k=some p';rw[hβ k (h.dom k p.1 p.2 hp)];exact vW⟩
  ·exact hk.aG k c p hp (by have:=Ny k (h.dom k p.1 p.2 hp);show st1.aG k=some c;rw[←this];exact hc)
  ·have Tc:=h.dom k _ _ Sn;obtain⟨r1,r2⟩:=hk.at_ k c (by show st1.aG k=some c;rw[←Ny k Tc];exact hc) Aa b base Sn;exact⟨by show Al st.bs.length β' k=_;rw[hβ k Tc];exact r1,r2⟩
 ·exact hn.evo.mono fun b ⟨k,base,h1,h2⟩=>⟨k,base,h1,θ eT h2⟩
 ·intro k b base hk;exact hn.fresh k b base (zP k _ hk).2
 ·rintro b (hz|⟨k2,BL,h3,h4⟩)
  ·exact hn.zfresh b hz
  ·rcases hn.fresh k2 b BL h4 with⟨dt,h5⟩|h5
   ·have:=h.dom k2 b dt h5;omega
   ·exact .inr h5
 ·simp;omega
 ·intro k hk;have Tc:k<st.bs.length:=ξ hk h.ro;obtain⟨r1,r2⟩:=hn.low k (ξ hk eT);rw[cq] at r1;exact⟨by simp only;rw[hb k Tc];exact r1,by rw[hβ k Tc];exact r2⟩
 ·intro k hk yi;obtain⟨r1,r2⟩:=hn.xB k (by rw[cq];exact hk) yi;rw[cq] at r2;exact⟨by rw[hβ k hk];exact r1,by simp only;rw[hb k hk];exact r2⟩
 ·exact CK hn.sim hβ Ny rfl kn 16 hf hv
theorem yG {dyn:List (Nat×List (Nat×Nat))} (R2:n≤m):∀(c:Code),codeOk pv dyn n c=true→codeOk pv dyn m c=true:=by
 intro c
 induction c with
 |region id ops d=>
  intro h;simp only[codeOk,ρ] at h⊢;refine⟨QZ.2 fun o ho=>?_,h.2⟩;have h1:=yy h.1 o ho
  cases hd:o.dst with
  |none=>rfl
  |some t=>exact QF (θ (h1 t hd) R2)
 |seq a b F5 Ro=>intro h;simp only[codeOk,ρ] at h⊢;exact⟨F5 h.1,Ro h.2⟩
 |cond c a b F5 Ro=>intro h;simp only[codeOk,ρ] at h⊢;exact⟨F5 h.1,Ro h.2⟩
 |block id c ih=>intro h;simp only[codeOk] at h⊢;exact ih h
 |loop c ih=>intro h;simp only[codeOk] at h⊢;exact ih h
 |_=>intro h;rfl
def mO (tmps:Array Value):ResultVar→Sem Value
 | .tmp t=>pure (tmps.getD t undef)
 | .cell a t=>do loadVar t (←asAddr (tmps.getD a undef))
theorem zi (fn:Func) (tmps:Array Value):results fn tmps=(do let vs←fn.results.mapM (mO tmps);pure (if h:vs.size=1 then vs[0] else .tuple vs)):=rfl
theorem Eh (d:D):∀(l:List D) (t:Nat),nth d l t=(l[t]?).getD d
 |[],t=>by simp[nth]
 |x::l,0=>rfl
 |x::l,t+1=>by simpa[nth] using Eh d l t
theorem zj {pv:Pv} {P:Program} (ok:pv.Ok P) {w:World} {st:St} {β:Nat→Option (Nat×Nat)} {Z:Nat→Prop} (h:gI w st β Z) {fr:Fr} {tmps:Array Value} (hf:oq w (st.x β Z) fr tmps):∀(rs:List ResultVar) {ds:List D},kz pv fr st rs=some ds→
  ∃vs:List Value,(rs.mapM (mO tmps)).run P w=.ok vs w∧ds.length=vs.length∧∀(i:Nat) c u,ds[i]?=some c→vs[i]?=some u→VR w (st.x β Z) c u
 |[],ds,hr=>by simp only[kz] at hr;cases hr;exact⟨[],by simp,rfl,fun i c u hc=>by simp at hc⟩
 | .tmp t::l,ds,hr=>by
  simp only[kz] at hr;obtain⟨es,he,hr⟩:=γ.1 hr;cases hr;obtain⟨vs,h1,h2,h3⟩:=zj ok h hf l he;refine⟨tmps.getD t undef::vs,by simp only[JY,mO,ι,ν,δ,h1],by simp[h2],fun i c u hc hu=>?_⟩
  cases i with
  |zero=>simp at hc hu;subst hc;rw[←hu];have:=hf t;simpa using this
  |succ i=>exact h3 i c u (by simpa using hc) (by simpa using hu)
 | .cell a t::l,ds,hr=>by
  simp only[kz] at hr;obtain⟨d,hd,hr⟩:=ε.1 hr;obtain⟨es,he,hr⟩:=γ.1 hr;cases hr;obtain⟨vs,h1,h2,h3⟩:=zj ok h hf l he;have hv:=hf a
  have wa:∃z,(mO tmps (.cell a t)).run P w=.ok z w∧VR w (st.x β Z) d z:=by
   unfold gO at hd
   split at hd
   ·rename_i k aG off hg;rw[hg] at hv;obtain⟨⟨ar,c⟩,hm,hd⟩:=ε.1 hd;obtain⟨p,hp,_,jv⟩:=cz hv;obtain⟨b,base,hb,rfl⟩:=jv (df hm).2;obtain⟨z,h1,h2⟩:=qL ok ((h.cells hm hb).drop off) hd;exact⟨z,by simp only[mO];rw[hp];simp[asAddr,h1],h2⟩
   ·rename_i c hg;rw[hg] at hv;obtain⟨b,off,hp,_,hc,_⟩:=rj hv;obtain⟨z,h1,h2⟩:=qL ok hc hd;exact⟨z,by simp only[mO];rw[hp];simp[asAddr,h1],h2⟩
   ·cases hd
  obtain⟨z,z1,z2⟩:=wa;refine⟨z::vs,by simp only[JY,ι,z1,ν,δ,h1],by simp[h2],fun i c u hc hu=>?_⟩
  cases i with
  |zero=>simp at hc hu;subst hc;subst hu;exact z2
  |succ i=>exact h3 i c u (by simpa using hc) (by simpa using hu)
theorem zh (ok:pv.Ok P) (h:gI w st β Z) {fr:Fr} {tmps:Array Value} (hf:oq w (st.x β Z) fr tmps) {fn:Func} (hr:kz pv fr st fn.results.toList=some ds):
  ∃v,(results fn tmps).run P w=.ok v w∧VR w (st.x β Z) (tC ds) v:=by
 obtain⟨vs,h1,h2,h3⟩:=zj ok h hf _ hr
 have j_:(fn.results.mapM (mO tmps)).run P w=.ok vs.toArray w:=by
  rw[Array.mapM_eq_mapM_toList,Sem.run_map,h1];rfl
 refine⟨if h:vs.toArray.size=1 then vs.toArray[0] else .tuple vs.toArray,?_,?_⟩
 ·rw[zi];simp only[ι];rw[j_];simp only[δ,ν]
 ·match ds,vs,h2 with
  |[],[],_=>exact .tup [] [] rfl (by simp)
  |[d],[v],_=>exact h3 0 d v rfl rfl
  |d::e::l,u::v::l',h2=>
   rw[dif_neg (by simp)];exact .tup _ _ h2 h3
theorem Q8 {args:List D} (hl:args.length=us.length) (hr:∀(i:Nat) c v,args[i]?=some c→us[i]?=some v→VR w x c v):
  oq w x (pad n args) (us.toArray++ω m undef):=by
 intro t;simp only[pad,Fr.get]
 cases hb:J1 n t with
 |true=>exact .bD _ _ _
 |false=>
  simp only;rw[Eh];simp only[κ];rw[QA,Array.getElem?_append];simp only[List.size_toArray,Qk]
  by_cases ht:t<args.length
  ·rw[if_pos ht,if_pos (by omega),ζ ht,ζ (by omega:t<us.length)];exact hr t _ _ (ζ ht) (ζ _)
  ·rw[if_neg ht,if_neg (by omega)]
   have hu:((ω m undef)[t-us.length]?).getD undef=undef:=by
    rw[Qn];split<;>rfl
   rw[hu];rw[List.getElem?_replicate]
   split
   ·exact .im _ _ (.tup [] [] rfl (by simp))
   ·exact .bD _ _ _
def Pv.jA (pv:Pv):Prop:=∀f x b,pv.fi f=some x→x.jj=none→x.fn.body=some b→codeOk pv x.dyn x.fn.ntmps b=true
def eZ (pv:Pv):eS:=fun f ds st=>match lK f pv.prm with
 |some p=>p ds st
 |none=>match pv.fi f with
 |some x=>match x.jj with
  |some p=>p ds st
  |none=>none
 |none=>none
theorem rY {m:Mode} {kn:Bool} (hg:eE (ah m st) st1) (hl:c_ m kn st st1 d=some (d',ai)):eE st ai∧(m=.ro∨m=.nw→ot st ai):=by
 by_cases hm:m=.bd
 ·subst hm;simp only[c_] at hl;cases hl;exact⟨hg,fun h=>by rcases h with h|h<;>cases h⟩
 by_cases hw:m=.nw
 ·subst hw;simp only[c_] at hl;cases hl;have hlen:st.bs.length≤st1.bs.length:=hg.len;have zZ:∀k,k<st.bs.length→st1.bs[k]?=st.bs[k]?:=fun k hk=>hg.low k hk hk
  have:ot st ⟨st1.bs,st.flr,st.ro⟩:=by
   refine⟨st1.bs.drop st.bs.length,?_⟩
   congr 1
   apply Qc;intro k
   by_cases hk:k<st.bs.length
   ·rw[τ hk];exact zZ k hk
   ·rw[List.getElem?_append_right (by omega),JZ];congr 1;omega
  exact⟨this.goes,fun _=>this⟩
 have hl:ai=⟨st1.bs.take st.bs.length,st.flr,st.ro⟩:=by
  cases m<;>first|exact absurd rfl hm|exact absurd rfl hw|skip
  all_goals
   simp only[c_] at hl
   split at hl
   ·cases hl;rfl
   ·cases hl
 subst hl;have hlen:st.bs.length≤st1.bs.length:=by have:=hg.len;rw[cq] at this;exact this
 have hb:∀k,k<st.bs.length→(st1.bs.take st.bs.length)[k]?=st1.bs[k]?:=fun k hk=>by rw[Qb,if_pos hk]
 have MQ:(ah m st).flr=st.bs.length:=by cases m<;>first|rfl|exact absurd rfl hm|exact absurd rfl hw
 refine⟨⟨by simp;omega,rfl,rfl,fun k hk hk2=>?_,fun k bx wA hk h1 h2 d hd=>?_⟩,fun h=>?_⟩
 ·have:=hg.low k (by cases m<;>first|exact absurd rfl hw|exact hk|exact hk2) (by rw[cq];exact hk2);rw[cq] at this;simp only;rw[hb k hk2];exact this
 ·have hk2:=f_ h1;simp only at h2;rw[hb k hk2] at h2;exact hg.fl k bx wA (by rw[MQ];exact hk2) (by rw[cq];exact h1) h2 d hd
 ·have h:=h.resolve_right hw;subst h
  have:st1.bs.take st.bs.length=st.bs:=by
   apply Qc;intro k
   by_cases hk:k<st.bs.length
   ·rw[hb k hk];have:=hg.low k hk (by rw[cq];exact hk);rw[cq] at this;exact this
   ·rw[ψ (by simp;omega),ψ (by omega)]
  rw[this];exact .rfl _
theorem iN {pv:Pv} {P:Program} (ok:pv.Ok P) (hc:pv.jA) (hp:iP P pv (eZ pv)):∀n,iP P pv (c9 pv n)
 |0=>⟨fun f ds st r h=>(by cases h),fun f ds st d ai h=>(by cases h),fun f ds st d ai h=>(by cases h),fun f ds st d ai h=>(by cases h)⟩
 |n+1=>by
  have ih:=iN ok hc hp n
  have key:∀{f:Nat} {ds:List D} {st:St} {r:D×St},c9 pv (n+1) f ds st=some r→(eZ pv f ds st=some r)∨∃x body,pv.fi f=some x∧x.jj=none∧x.fn.body=some body∧yL pv (c9 pv n) n x body ds st=some r:=by
   intro f ds st r h;simp only[c9] at h
   split at h
   ·rename_i p hl;left;simp only[eZ,hl];exact h
   rename_i hl
   split at h
   ·rename_i x hx
    split at h
    ·rename_i p F7;left;simp only[eZ,hl,hx,F7];exact h
    ·rename_i F7
     split at h
     ·rename_i body hb;exact .inr ⟨x,body,hx,F7,hb,h⟩
     ·cases h
   ·cases h
  have body:∀{x:Fi} {body:Code} {ds:List D} {st:St} {d:D} {ai:St},yL pv (c9 pv n) n x body ds st=some (d,ai)→
    ∃out fr st1 es,cp pv (c9 pv n) x.dyn n body (pad x.nloc ds) (ah x.mode st)=some (out,fr,st1)∧(∀i,out≠.exit i)∧kz pv fr st1 x.fn.results.toList=some es∧c_ x.mode x.knul st st1 (tC es)=some (d,ai):=by
   intro x body ds st d ai h;unfold yL at h
   split at h
   ·cases h
   ·rename_i out fr st1 hne tA
    split at h
    ·rename_i es hr;exact⟨out,fr,st1,es,tA,fun i hi=>by subst hi;exact hne _ rfl,hr,h⟩
    ·cases h
   ·cases h
  refine⟨fun f ds st r h=>?_,fun f ds st d ai h=>?_,fun f ds st d ai h eT=>?_,fun f ds st d ai h=>?_⟩
  ·rcases key h with h|⟨x,b,hx,F7,hb,_⟩
   ·exact hp.fn f ds st r h
   ·obtain⟨h1,h2⟩:=ok.fs f x hx F7;exact⟨x.fn,b,h1,hb,h2 b hb⟩
  ·rcases key h with h|⟨x,b,hx,F7,hb,hbd⟩
   ·exact hp.calls f ds st d ai h
   ·intro w β Z us hs hl hr;obtain⟨out,fr,st1,es,tA,hne,RL,NI⟩:=body hbd;obtain⟨h1,h2⟩:=ok.fs f x hx F7;refine calls_of_wp h1 hb ?_;have mh:=CN hs x.mode;have XP:(ah x.mode st).x β Z=st.x β Z:=by simp only[Qe];congr 1;funext k;simp only[QN,cq]
    have hf:oq w ((ah x.mode st).x β Z) (pad x.nloc ds) (us.toArray++ω (x.fn.ntmps-us.toArray.size) undef):=by rw[XP];exact Q8 hl hr
    refine M9 ok ih x.dyn n _ b (yG ?_ b (hc f x b hx F7 hb)) tA mh hf rfl fun a' w' β' Z' hn tx hd _=>?_
    ·simp;omega
    ·obtain⟨v,Mk,EG⟩:=zh ok hn.sim tx RL;obtain⟨tB,Ga,EU,Ny⟩:=ED hs x.mode x.knul hn (pe ih x.dyn n b tA) EG NI
     have gb:a'.defers=[]∧∃v,(results x.fn a'.tmps).run P w'=.ok v w'∧(∃v' β' Z',Ending.returned v=.returned v'∧Nx w st β Z w' ai β' Z'∧VR w' (ai.x β' Z') d v'∧(j7 pv f=true→Quiet w w')):=by
      refine⟨hd,v,Mk,v,tB,Ga,rfl,EU,Ny,fun eT=>?_⟩
      have hm:x.mode=.ro∨x.mode=.nw:=by
       unfold j7 at eT;rw[hx] at eT;simp only at eT
       split at eT
       ·exact .inl (by assumption)
       ·exact .inr (by assumption)
       ·cases eT
      intro c hcl;refine hn.evo.block c hcl ?_;rintro⟨k,base,h5,h6⟩;have:=hs.dom k c base h5
      rcases hm with hm|hm<;>rw[hm] at h6<;>simp only[ah] at h6<;>omega
     cases out with
     |next=>exact gb
     |ret=>exact gb
     |exit i=>exact absurd rfl (hne i)
  ·rcases key h with h|⟨x,b,hx,F7,hb,hbd⟩
   ·exact hp.ro f ds st d ai h eT
   ·obtain⟨out,fr,st1,es,tA,hne,RL,NI⟩:=body hbd
    have hm:x.mode=.ro∨x.mode=.nw:=by
     unfold j7 at eT;rw[hx] at eT;simp only at eT
     split at eT
     ·exact .inl (by assumption)
     ·exact .inr (by assumption)
     ·cases eT
    exact(rY (pe ih x.dyn n b tA) NI).2 hm
  ·rcases key h with h|⟨x,b,hx,F7,hb,hbd⟩
   ·exact hp.len f ds st d ai h
   ·obtain⟨out,fr,st1,es,tA,hne,RL,NI⟩:=body hbd;exact(rY (pe ih x.dyn n b tA) NI).1
def Fits {α:Type} (R:Nat→α→Prop):Tr α→Nat→Nat→Prop
 | .leaf a,lo,hi=>hi=lo+1∧R lo a
 | .node k l r,lo,hi=>Fits R l lo k∧Fits R r k hi
theorem Fits.get {α:Type} {R:Nat→α→Prop}:∀{tr:Tr α} {lo hi t:Nat},Fits R tr lo hi→lo≤t→t<hi→R t (tr.get t)
 | .leaf a,lo,hi,t,h,h1,h2=>by
  obtain⟨h3,h4⟩:=h;have:t=lo:=by omega
  subst this;exact h4
 | .node k l r,lo,hi,t,h,h1,h2=>by
  obtain⟨h3,h4⟩:=h;simp only[Tr.get]
  cases hb:J1 k t with
  |true=>exact h4.get (QD hb) h2
  |false=>
   have:¬k≤t:=fun hk=>by rw[QF hk] at hb;cases hb
   exact h3.get h1 (by omega)
def SB (pv:Pv) (x:Fi):Bool:=
 match x.fn.body with
 |some b=>(x.fn.name != "runtime.NumGoroutine") &&codeOk pv x.dyn x.fn.ntmps b
 |none=>true
def Ri:List D→St→Option (D×St):=fun _ _=>none
def aE (pv:Pv) (P:Program) (i:Nat) (x:Fi):Prop:=(P.funcs[i]?=some x.fn∧x.jj=none∧SB pv x=true)∨x.jj=some Ri
def af (P:Program) (i:Nat) (x:TypeInfo):Prop:=P.info? i=some x
theorem Ge (ht:Fits (af P) pv.ty 0 pv.nty) (hf:Fits (aE pv P) pv.fs 0 pv.nfs) (he:(pv.eqb.all fun t=>!P.stoodInHeld t &&!P.eqGuardType P.depth t)=true) (hm:P.follows .mixedOrders=true) (X':pv.prm=[]):
  pv.Ok P∧pv.jA∧iP P pv (eZ pv):=by
 have fi:∀f x,pv.fi f=some x→aE pv P f x:=by
  intro f x h;unfold Pv.fi at h
  split at h
  ·rename_i hb;cases h;refine hf.get (Qv _) ?_
   rcases η f pv.nfs with h'|h'
   ·exact h'
   ·rw[QF h'] at hb;cases hb
  ·cases h
 have pn:∀f ds st r,eZ pv f ds st=some r→False:=by
  intro f ds st r h;unfold eZ at h;rw[X'] at h;simp only[lK] at h
  split at h
  ·rename_i x hx
   rcases fi f x hx with⟨_,h1,_⟩|h1<;>rw[h1] at h<;>cases h
  ·cases h
 refine⟨⟨fun t i h=>?_,fun f x h hp=>?_,fun t h=>?_,hm⟩,fun f x b h hp hb=>?_,⟨fun f ds st r h=>(pn f ds st r h).elim,fun f ds st d ai h=>(pn f ds st _ h).elim,fun f ds st d ai h=>(pn f ds st _ h).elim,fun f ds st d ai h=>(pn f ds st _ h).elim⟩⟩
 ·unfold Pv.info at h
  split at h
  ·rename_i hb;cases h;refine ht.get (Qv _) ?_
   rcases η t pv.nty with h'|h'
   ·exact h'
   ·rw[QF h'] at hb;cases hb
  ·cases h
 ·obtain⟨h1,_,h3⟩:=(fi f x h).resolve_right (by rw[hp];simp);refine⟨h1,fun b hb=>?_⟩;unfold SB at h3;rw[hb] at h3;simp only[ρ,bne_iff_ne,ne_eq] at h3;exact h3.1
 ·have:=QZ.1 he t (by simpa using h)
  simpa using this
 ·obtain⟨_,_,h3⟩:=(fi f x h).resolve_right (by rw[hp];simp);unfold SB at h3;rw[hb] at h3;simp only[ρ] at h3;exact h3.2
theorem sound (h:pv.Ok P∧pv.jA∧iP P pv (eZ pv)) {f:Nat} (hs:c9 pv n f ds ⟨[],0,0⟩=some (d,ai)) (hZ:∀b,Z b→b<w.heap.size) (hl:ds.length=us.length) (hr:∀(i:Nat) c v,ds[i]?=some c→us[i]?=some v→IR w Z c v):Calls P f us.toArray w fun e w'=>∃v β' Z',e=.returned v∧BQ (fun _=>False) w w'∧VR w' (ai.x β' Z') d v:=by
 have gp:gI w ⟨[],0,0⟩ (fun _=>none) Z:=⟨fun _ _ _ h=>(by cases h),fun _ _ _ h=>(by cases h),fun _ _ _ _ _ h=>(by cases h),fun _ _ _ h=>(by cases h),hZ,fun _ _ _ _ h=>(by cases h),μ _,μ _⟩
 refine((iN h.1 h.2.1 h.2.2 n).calls f ds _ d ai hs w _ Z us gp hl fun i c v hc hv=>.im _ _ (hr i c v hc hv)).mono fun e w'=>?_;rintro⟨v,β',Z',he,hn,hv,_⟩;refine⟨v,β',Z',he,hn.evo.mono ?_,hv⟩;rintro b ⟨k,base,h,_⟩;cases h
end Go.V
