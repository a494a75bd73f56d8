/-
 V is sound; no program in sight, no conditions.
-/
import Derived.Test.YtnleclohocdkaaaGreatSM1
import Derived.Orders
set_option linter.unusedSimpArgs false
set_option linter.unusedVariables false
set_option linter.unusedSectionVars false
set_option linter.unnecessarySimpa false
namespace Go.V
open Go.RowKit
theorem sW {P:Program} {f:Value→ByteArray→Sem (ForInStep ByteArray)} (hf:∀n s w,(f (.int .u8 n) s).run P w=.ok (.yield (s.push (UInt8.ofNat n.toNat))) w):∀(cs:List D) (us:List Value) (bs:List UInt8) (acc:ByteArray) (w:World) (x:X),LR w x cs us→nb cs=some bs→
  (forIn us acc f).run P w=.ok (⟨acc.data++bs.toArray⟩) w
 |[],us,bs,acc,w,x,h,hb=>by
  cases us with
  |nil=>simp[nb] at hb;subst hb;simp
  |cons u us=>have:=h.len;simp at this
 |c::cs,us,bs,acc,w,x,h,hb=>by
  cases us with
  |nil=>have:=h.len;simp at this
  |cons u us=>
   unfold nb at hb
   split at hb
   ·rename_i heq;cases heq
   ·rename_i n l heq;cases heq;obtain⟨r,hr,rfl⟩:=Option.map_eq_some_iff.1 hb;have hu:=bL (h.rel 0 _ u rfl rfl);subst hu
    have ht:LR w x cs us:=⟨by have:=h.len;simpa using this,fun v hv=>h.one v (List.mem_cons_of_mem _ hv),fun i c u hc hu=>h.rel (i+1) c u hc hu⟩
    have ih:=sW hf cs us r (acc.push (UInt8.ofNat n.toNat)) w x ht hr;simp only[List.forIn_cons,Sem.run_bind,hf,Result.andThen_ok];rw[ih]
    congr 1
    apply ByteArray.ext;simp
   ·cases hb
section
variable{pv:Pv} {P:Program} (ok:pv.Ok P)
include ok
def lB (pv:Pv) (s t:TypeId):Bool:=
 match pv.bI s,pv.bI t with
 |some (.slice _),some (.slice _)=>true
 |_,_=>false
omit ok in
theorem Fg {w:World} {st:St} {β:Nat→Option (Nat×Nat)} {Z:Nat→Prop} (h:eP w st β Z) {k aq:Nat} {ar:Bool} {c:List D} (hm:st.dC k aq=some (ar,c)) {b base:Nat} (hb:β k=some (b,base)) (cZ:st.ro≤k) (o:Nat):
  ∃w',(markStringish ⟨b,o,none⟩).run P w=.ok () w'∧Nx w st β Z w' st β Z:=by
 obtain⟨cs,el,fr,h1,h2,h3,h4⟩:=h.row hm hb;have hbl:b<w.heap.size:=h.lt k b base hb;have hsh:w.shape? b=some (el,cs.size):=by simp only[World.shape?,h1]
 refine⟨w.freeze ⟨b,cs.size,none⟩ 1,?_,?_⟩
 ·simp only[markStringish,Sem.run_bind,run_shape,hsh,Result.andThen_ok,run_freeze]
 ·obtain⟨lo,hi⟩:=fr
  have hf:∃ax:Nat×Nat,oe cs.size ax∧w.freeze ⟨b,cs.size,none⟩ 1=wput w b (.cells cs el ax):=by
   refine⟨if lo==hi then(cs.size,cs.size+1) else(min lo cs.size,max hi (cs.size+1)),?_,?_⟩
   ·split
    ·exact⟨by simp,fun o ho=>by simp only;omega⟩
    ·rename_i hne;have hne:lo≠hi:=by simpa using hne
     have h5:=h3.1;have h6:=h3.2 lo;simp only at h5 h6;refine⟨by simp only;omega,fun o ho=>?_⟩;simp only;omega
   ·simp only[World.freeze,wput,if_neg (show¬(1=0) by omega)]
    congr 1
    apply Array.ext_getElem?;intro j;rw[Array.getElem?_modify]
    by_cases hj:b=j
    ·subst hj;rw[if_pos rfl,h1,Array.getElem?_setIfInBounds_self_of_lt hbl];rfl
    ·rw[if_neg hj,Array.getElem?_setIfInBounds_ne hj]
  obtain⟨ax,IY,N0⟩:=hf;have fL:=(bX hm).1;have hx:=Nx.BE (a':=ar) (kc:=aq) (c':=c) (ck:=base) h hm hb cZ (Nat.le_refl _) (fun _=>rfl) h1 IY rfl h2 h4
  have e1:(fun i=>if i=k then some (b,base) else β i)=β:=by
   funext i;split
   ·rename_i e;subst e;exact hb.symm
   ·rfl
  have e2:({st with bs:=st.bs.set k (.mem aq ar c)}:St)=st:=by
   obtain⟨bs,f,r⟩:=st;simp only at fL⊢
   congr 1
   apply List.ext_getElem?;intro j
   by_cases hj:k=j
   ·subst hj;rw[List.getElem?_set_self (h.dom k b base hb),fL]
   ·rw[List.getElem?_set_ne hj]
  rw[e1,e2] at hx;rw[N0];exact hx
theorem F6 {w:World} {st ab:St} {β:Nat→Option (Nat×Nat)} {Z:Nat→Prop} (h:eP w st β Z) {s t:Nat} {d r:D} {u:Value} (hu:VR w (st.x β Z) d u) (hs:wk pv s t d st=some (r,ab)):
  ∃z w' β',(convert s t u).run P w=.ok z w'∧Nx w st β Z w' ab β' Z∧VR w' (ab.x β' Z) r z∧(lB pv s t=false→Quiet w w'):=by
 unfold wk at hs
 split at hs
 ·rename_i sd k k' n h1 h2;cases hs;rw[bL hu];exact⟨_,w,β,by simp[convert,az ok h1,az ok h2,Conv.intToInt];rfl,Nx.same h,by rw[gi];exact .im _ _ (.int _ _),fun _=>Quiet.refl _⟩
 ·rename_i sd k n h1 h2;cases hs;rw[bL hu];refine⟨.string (Utf8.encode n),w,β,by cases sd<;>simp[convert,az ok h1,az ok h2,Conv.intToString],Nx.same h,.im _ _ ?_,fun _=>Quiet.refl _⟩;have:=IR.str (w:=w) (Z:=(st.x β Z).Z) (Utf8.encode n).data.toList
  simpa using this
 ·rename_i sd l h1 h2;cases hs;rw[dZ hu];exact⟨_,w,β,by cases sd<;>simp[convert,az ok h1,az ok h2]<;>rfl,Nx.same h,.im _ _ (.str _),fun _=>Quiet.refl _⟩
 ·rename_i sd e l h1 h2
  split at hs
  ·rename_i he
   split at hs
   ·rename_i hlen;cases hs;rw[dZ hu];have vU:=DX l.length 0 e (w.tape w.drawn (.appendCap l.length 0 e));generalize hq:(Question.appendCap l.length 0 e).cut (w.tape w.drawn (.appendCap l.length 0 e))=cap at vU;have hsz:(⟨l.toArray⟩:ByteArray).size=l.length:=by simp[ByteArray.size]
    have hS:Nx w st β Z w.drew st β Z:=Nx.still h rfl rfl rfl rfl;have cz:((l.map fun b=>Value.int .u8 b.toNat).toArray++Array.replicate (cap-l.length) (Value.int .u8 0)).size=cap:=by simp;omega
    have hfz:∀c:Array Value,(w.drew.alloc (.cells c e)).freeze ⟨w.heap.size,c.size,none⟩ 1={w.drew with heap:=w.heap.push (.cells c e (c.size,c.size+1))}:=by
     intro c;simp only[World.freeze,World.alloc,World.drew];simp only[if_neg (show¬(1=0) by omega)]
     congr 1
     apply Array.ext_getElem?;intro j;rw[Array.getElem?_modify]
     by_cases hj:w.heap.size=j
     ·subst hj;simp
     ·rw[if_neg hj,Array.getElem?_push,Array.getElem?_push,if_neg (fun e=>hj e.symm),if_neg (fun e=>hj e.symm)]
    obtain⟨hx,x1,x2,x3⟩:=Nx.jo (w':={w.drew with heap:=w.heap.push (.cells ((l.map fun b=>Value.int .u8 b.toNat).toArray++Array.replicate (cap-l.length) (Value.int .u8 0)) e (cap,cap+1))}) hS.sim true (l.map fun x=>.int .u8 x.toNat)
     ((l.map fun b=>Value.int .u8 b.toNat).toArray++Array.replicate (cap-l.length) (Value.int .u8 0)) e (cap,cap+1) rfl rfl rfl rfl (by rw[cz];simpa using vU) ⟨by simp,fun o ho=>by rw[cz] at ho;simp;omega⟩ (fun j d hd=>by
      obtain⟨y,hy1,Bu,Fs⟩:=(wy w.drew (st.x β Z) l).at_ hd;refine⟨y,?_,Bu,Fs⟩
      have hlt:j<(l.map fun b=>Value.int .u8 b.toNat).length:=by
       rcases Nat.lt_or_ge j (l.map fun b=>Value.int .u8 b.toNat).length with h'|h'
       ·exact h'
       ·rw[List.getElem?_eq_none h'] at hy1;cases hy1
      rw[Array.getElem?_append_left (by simpa using hlt)]
      simpa using hy1)
    refine⟨.slice (some ⟨w.heap.size,0,none⟩) l.length cap,_,_,?_,hS.trans hx,jQ x2 x3 x1 vU (by rw[cz];omega),fun _=>Quiet.push rfl⟩
    have jc:(Conv.stringToBytes e ⟨l.toArray⟩).run P w=.ok (.slice (some ⟨w.heap.size,0,none⟩) l.length cap) {w.drew with heap:=w.heap.push (.cells ((l.map fun b=>Value.int .u8 b.toNat).toArray++Array.replicate (cap-l.length) (Value.int .u8 0)) e (cap,cap+1))}:=by
     have oz:((⟨l.toArray⟩:ByteArray).data.map fun b=>Value.int .u8 b.toNat)=(l.map fun b=>Value.int .u8 b.toNat).toArray:=by simp
     simp only[Conv.stringToBytes,Sem.run_bind,run_choose,Question.forced,Bool.false_eq_true,if_false,Result.andThen_ok,hsz,hq,oz,newRow,run_newObj,Sem.run_pure,markStringish,run_shape]
     have Hl:(w.drew.alloc (.cells ((l.map fun b=>Value.int .u8 b.toNat).toArray++Array.replicate (cap-l.length) (Value.int .u8 0)) e)).shape? w.heap.size=some (e,cap):=by
      simp only[World.shape?,World.alloc,World.drew];rw[Array.getElem?_push,if_pos rfl];simp[cz]
     have ha:({heap:=w.heap.push (Obj.cells ((l.map fun b=>Value.int .u8 b.toNat).toArray++Array.replicate (cap-l.length) (Value.int .u8 0)) e),tape:=w.tape,drawn:=w.drawn+1,os:=w.os,output:=w.output}:World)=w.drew.alloc (.cells ((l.map fun b=>Value.int .u8 b.toNat).toArray++Array.replicate (cap-l.length) (Value.int .u8 0)) e):=rfl;rw[ha];simp only[Hl,Sem.run_bind,run_freeze,Result.andThen_ok,Sem.run_pure];have:=hfz ((l.map fun b=>Value.int .u8 b.toNat).toArray++Array.replicate (cap-l.length) (Value.int .u8 0));rw[cz] at this;rw[this]
    cases sd<;>simp only[convert,Sem.run_bind,az ok h1,az ok h2,Result.andThen_ok,az ok he,jc]
   ·cases hs
  ·cases hs
 ·rename_i e' e k aq off len sz h1 h2
  split at hs
  ·rename_i q he hm;obtain⟨ar,c⟩:=q
   split at hs
   ·rename_i uo;obtain⟨f_,hlen,Er⟩:=uo;have f_:=Nat.eq_of_beq_eq_true f_;subst f_;cases hs;obtain⟨a,cap,rfl,hc,hk,_,gC⟩:=dj hu;obtain⟨b,base,ED,hb,_,tT⟩:=gC (bX hm).2
    rcases tT with rfl|⟨rfl,_⟩
    ·omega
    obtain⟨w',m1,m2⟩:=Fg (P:=P) h hm hb (cW Er) (base+off);refine⟨_,w',β,?_,m2,hu.mono m2.keeps,fun e=>?_⟩
    ·rw[h1] at h2;cases h2;simp only[convert,Sem.run_bind,az ok h1,Result.andThen_ok,az ok he,beq_self_eq_true,m1,Sem.run_pure]
    ·rw[h1] at h2;cases h2;simp[lB,h1] at e
   ·cases hs
  ·cases hs
 ·rename_i dd o1 o2 d4 e h1 h2 rq NH
  split at hs
  ·rename_i n cs he je
   split at hs
   ·cases hs
   ·rename_i FH
    split at hs
    ·rename_i hl;obtain⟨bs,hb,hr⟩:=Option.map_eq_some_iff.1 hs;cases hr;obtain⟨hlen,cz⟩:=oW (P:=P) h hu je;obtain⟨us,u1,u2⟩:=cz 1 n (Nat.le_refl _) (by omega);rw[Nat.mul_one,←hl,List.take_length] at u2;refine⟨.string ⟨bs.toArray⟩,w,β,?_,Nx.same h,.im _ _ (.str _),fun _=>Quiet.refl _⟩
     have iN:∃a q c,u=.slice a q c:=by
      cases dd with
      |sl es=>obtain⟨_,_,e,_⟩:=jj hu;exact⟨_,_,_,e⟩
      |nul=>exact⟨_,_,_,dp hu⟩
      |win k v o l s=>obtain⟨_,_,e,_⟩:=dj hu;exact⟨_,_,_,e⟩
      |str l=>exact absurd rfl (FH l)
      |_=>simp[oX] at je
     obtain⟨a,q,c,rfl⟩:=iN;have hq:q=n:=by simp[Builtin.lenOf] at hlen;exact hlen
     subst hq
     have Ko:(convert s t (.slice a q c)).run P w=(Conv.bytesToString (.slice a q c)).run P w:=by
      simp[convert,az ok h1,az ok h2,az ok he]
     rw[Ko]
     cases a with
     |none=>
      have gM:us=[]:=by
       simp only[Builtin.firstCells,Sem.run_pure,Result.ok.injEq] at u1;have:=u1.1;cases us<;>simp at this⊢
      subst gM;have:cs=[]:=List.length_eq_zero_iff.1 (by have:=u2.len;simpa using this);subst this;simp[nb] at hb;subst hb
      rfl
     |some a=>
      simp only[Builtin.firstCells,Nat.mul_one] at u1;simp only[Conv.bytesToString,Sem.run_bind,u1,Result.andThen_ok,List.forIn_toArray];rw[sW (P:=P) (fun n s w=>by simp) cs us bs .empty w _ u2 hb];simp
    ·cases hs
  ·cases hs
 ·cases hs
omit ok in
theorem Nx.obj {w:World} {st:St} {β:Nat→Option (Nat×Nat)} {Z:Nat→Prop} (h:eP w st β Z) {k b:Nat} (hβ:β k=some (b,0)) (cZ:st.ro≤k) {o o':Obj} {bx uc:fV} (fL:st.bs[k]?=some bx) (hw:w.heap[b]?=some o) (hv:bV uc=bV bx)
  (lI:∀w1:World,w1.heap[b]?=some o'→bK w1 b=bK w b) (hok:∀x',fU (wput w b o') x' b 0 uc):Nx w st β Z (wput w b o') {st with bs:=st.bs.set k uc} β Z:=by
 have hbl:=h.lt k b 0 hβ;have fS:=h.dom k b 0 hβ
 have hne:∀i,i≠b→(wput w b o').heap[i]?=w.heap[i]?:=by
  intro i hi;simp only[wput];rw[Array.getElem?_setIfInBounds_ne (by omega)]
 have heq:(wput w b o').heap[b]?=some o':=by
  simp only[wput];rw[Array.getElem?_setIfInBounds_self_of_lt hbl]
 have pI:∀i,({st with bs:=st.bs.set k uc}:St).aq i=st.aq i:=by
  intro i;simp only[St.aq]
  by_cases hik:i=k
  ·subst hik;rw[List.getElem?_set_self fS,fL];exact hv
  ·rw[List.getElem?_set_ne (by omega)]
 have J9:cx w (st.x β Z) (wput w b o') (({st with bs:=st.bs.set k uc}:St).x β Z):=by
  refine⟨fun i p hp=>⟨p,hp⟩,fun i hi=>⟨hi,hne i fun e=>h.zd k b 0 hβ (e▸hi)⟩,fun i q p hi hq=>⟨q,?_,Nat.le_refl _⟩,fun i q hq rD i' y hy=>⟨hy,?_⟩⟩
  ·have:=pI i;show st.aq i=some q;rw[←this];exact hq
  ·by_cases e:i'=b
   ·subst e;exact lI _ heq
   ·exact cT (hne i' e)
 refine⟨⟨?_,?_,h.inj,h.zd,?_,?_,?_,?_⟩,J9,⟨rfl,rfl,rfl,by simp[wput],fun i _ hn=>hne i fun e=>hn ⟨k,0,e▸hβ,cZ⟩⟩,
  fun i q y hq=>.inl ⟨y,hq⟩,fun _ hz=>.inl hz,by simp,rfl,rfl,?_,fun i _ h0=>by
   have:i≠k:=fun e=>by subst e;rw[hβ] at h0;cases h0
   dsimp only;rw[List.getElem?_set_ne (by omega)]
   exact⟨h0,rfl⟩⟩
 ·intro i q y hq;simp;exact h.dom i q y hq
 ·intro i q y hq;simp only[wput,Array.size_setIfInBounds];exact h.lt i q y hq
 ·intro i hi;simp only[wput,Array.size_setIfInBounds];exact h.zl i hi
 ·intro i q y U3 hq Dq;(try dsimp only at Dq)
  by_cases hik:i=k
  ·subst hik;rw[List.getElem?_set_self fS] at Dq;cases Dq;rw[hβ] at hq;cases hq;exact hok _
  ·rw[List.getElem?_set_ne (by omega)] at Dq;exact(h.box i q y U3 hq Dq).aP J9 (hne q fun e=>hik (h.inj i k q _ _ hq (e▸hβ)))
 ·have:=h.flr;simp;omega
 ·have:=h.ro;simp;omega
 ·intro i hi;dsimp only;rw[List.getElem?_set_ne (by omega)];exact⟨rfl,rfl⟩
omit ok in
theorem jG {kk:IntKind} {n:Int} {kt:IntKind}:∀{es:List (D×D)} {en:List MapEntry} {i:Nat} {r:Option (Nat×D)},eJ kk n es i=some r→en.length=es.length→
  (∀(j:Nat) p,es[j]?=some p→∃kk n vk x e,p=(.int kk n,.int vk x)∧en[j]?=some e∧e.key=.int kk n∧e.val=.int vk x)→
  match r with
  |none=>Instr.findNow (.int kt) (.int kk n) en i=some none
  |some (q,d)=>∃v,Instr.findNow (.int kt) (.int kk n) en i=some (some (q,v))∧i≤q∧q-i<es.length∧(∃vk x,d=.int vk x∧v=.int vk x)∧∃e,en[q-i]?=some e∧e.key=.int kk n
 |[],en,i,r,h,hl,_=>by
  simp only[eJ] at h;cases h;have:en=[]:=List.length_eq_zero_iff.1 hl;subst this;rfl
 |(a,d)::es,en,i,r,h,hl,hr=>by
  obtain⟨VH,m,vk,x,e,hp,he,hk,hv⟩:=hr 0 _ rfl;cases hp
  obtain⟨e0,en,rfl⟩:∃e0 UK,en=e0::UK:=by cases en with|nil=>simp at hl|cons a b=>exact⟨a,b,rfl⟩
  simp only[List.getElem?_cons_zero,Option.some.injEq] at he;subst he;simp only[eJ] at h
  split at h
  ·rename_i hkk;subst hkk
   split at h
   ·rename_i HB;cases h;have HB:n=m:=by simpa using HB
    subst HB;refine⟨.int vk x,?_,Nat.le_refl _,by simp,⟨vk,x,rfl,rfl⟩,e0,by simp,hk⟩;simp only[Instr.findNow,hk,Instr.sameNow,if_true,beq_self_eq_true,hv]
   ·rename_i HB;have ih:=jG (kt:=kt) (en:=en) h (by simpa using hl) (fun j p hj=>by simpa using hr (j+1) p (by simpa using hj))
    have hf:Instr.findNow (.int kt) (.int kk n) (e0::en) i=Instr.findNow (.int kt) (.int kk n) en (i+1):=by
     have:(n==m)=false:=by simpa using HB
     simp only[Instr.findNow,hk,Instr.sameNow,if_true,this]
    cases r with
    |none=>simp only at ih⊢;rw[hf];exact ih
    |some q=>
     obtain⟨q,d'⟩:=q;simp only at ih⊢;obtain⟨v,h1,h2,h3,h4,e,h5,h6⟩:=ih;refine⟨v,by rw[hf];exact h1,by omega,by simp;omega,h4,e,?_,h6⟩;rw[show q-i=(q-(i+1))+1 by omega]
     simpa using h5
  ·cases h
theorem xD {w:World} {st ab:St} {β:Nat→Option (Nat×Nat)} {Z:Nat→Prop} (h:eP w st β Z) {t:Nat} {d:Option D} {u:Option Value} {r:D} (hn:d=none↔u=none) (hu:∀a v,d=some a→u=some v→VR w (st.x β Z) a v) (hs:lC pv t d st=some (r,ab)):
  ∃z w' β',(Instr.makeMap t u).run P w=.ok z w'∧Nx w st β Z w' ab β' Z∧VR w' (ab.x β' Z) r z∧Quiet w w':=by
 have hx:=Nx.push (w':=w.alloc (.map #[] 0)) h (.map #[] 0) rfl rfl rfl rfl (.map []) (fun _=>⟨rfl,#[],0,by
  show(w.heap.push _)[w.heap.size]?=_
  simp,rfl,fun i p hp=>by simp at hp⟩)
 have hv:VR (w.alloc (.map #[] 0)) ((st.push (.map [])).x (de β st.bs.length w.heap.size) Z) (.mp st.bs.length) (.map (some w.heap.size)):=by
  refine .mp _ _ ⟨_,by simp[St.x,de];rfl⟩ fun _=>⟨0,by simp[St.x,de]⟩
 unfold lC at hs
 split at hs
 ·cases hs;have:u=none:=hn.1 rfl;subst this;refine⟨.map (some w.heap.size),_,_,?_,hx,hv,Quiet.push rfl⟩;simp only[Instr.makeMap,Sem.run_bind,Sem.run_pure,Result.andThen_ok,run_newObj];rfl
 ·rename_i kk n
  split at hs
  ·rename_i kt e ht;cases hs
   cases u with
   |none=>have:=hn.2 rfl;cases this
   |some v=>
    have:=bL (hu _ v rfl rfl);subst this;refine⟨.map (some w.heap.size),_,_,?_,hx,hv,Quiet.push rfl⟩;simp only[Instr.makeMap,Sem.run_bind,az ok ht,asInt,asIntOf,Sem.run_pure,Result.andThen_ok,run_newObj];rfl
  ·cases hs
 ·cases hs
theorem sr {w:World} {st ab:St} {β:Nat→Option (Nat×Nat)} {Z:Nat→Prop} (h:eP w st β Z) {t:Nat} {m key v:D} {um uk uv:Value} (hm:VR w (st.x β Z) m um) (hk:VR w (st.x β Z) key uk) (hv:VR w (st.x β Z) v uv) (hs:gL pv t m key v st=some ab):
  ∃w',(Instr.mapUpdate t um uk uv).run P w=.ok () w'∧Nx w st β Z w' ab β Z:=by
 unfold gL at hs
 split at hs
 ·rename_i kt e k kk n vk x ht
  split at hs
  ·rename_i ik es HE hb
   split at hs
   ·rename_i Er;obtain⟨r,rfl,gC⟩:=yK hm;obtain⟨base,hβ⟩:=gC (by simp[St.x,St.aq,hb,bV]);have hβ:β k=some (r,base):=hβ;have:=bL hk;subst this;have:=bL hv;subst this;obtain⟨rfl,en,cl,h1,h2,h3⟩:=h.box k r base _ hβ hb;have hl:en.toList.length=es.length:=by simpa using h2
    have uo:∀m:Nat,(Instr.checkKey false (m+1) kt (.int kk n)).run P w=.ok () w:=by
     intro m;unfold Instr.checkKey;simp only[Sem.run_bind,az ok HE,Result.andThen_ok,Sem.run_pure]
    have hget:(getObj r).run P w=.ok (.map en cl) w:=by simp[getObj,Sem.run,h1]
    split at hs
    ·rename_i q d hf;cases hs
     obtain⟨vv,g1,g2,g3,⟨P0,x',rfl,rfl⟩,e0,g4,g5⟩:=jG (kt:=ik) (en:=en.toList) hf hl (fun j p hj=>by
      obtain⟨a,b,c,d,e,q1,q2,q3⟩:=h3 j p hj
      exact⟨a,b,c,d,e,q1,by simpa using q2,q3⟩)
     simp only[Nat.sub_zero] at g3 g4;have OM:en[q]?=some e0:=by simpa using g4
     have FA:q<en.size:=(Array.getElem?_eq_some_iff.1 OM).1
     have hx:=Nx.obj (o':=.map (en.modify q fun e=>{e with key:=.int kk n,val:=.int vk x}) cl) (uc:=.map (es.set q (.int kk n,.int vk x))) h hβ (cW Er) hb h1 rfl (fun w1 MI=>by simp[bK,MI,h1]) fun x'=>by
      refine⟨rfl,_,cl,by simp only[wput];rw[Array.getElem?_setIfInBounds_self_of_lt (h.lt k r 0 hβ)],by simp[h2],fun i p hp=>?_⟩;rw[List.getElem?_set] at hp
      split at hp
      ·rename_i Na;subst Na;(try rw[if_pos (by omega)] at hp);cases hp;exact⟨kk,n,vk,x,{e0 with key:=.int kk n,val:=.int vk x},rfl,by rw[Array.getElem?_modify,if_pos rfl,OM];rfl,rfl,rfl⟩
      ·rename_i Na;obtain⟨a,b,c,d,e,q1,q2,q3⟩:=h3 i p hp;exact⟨a,b,c,d,e,q1,by rw[Array.getElem?_modify,if_neg Na];exact q2,q3⟩
     refine⟨_,?_,hx⟩;have HG:((en[q]?).map (·.key)).getD (.int kk n)=.int kk n:=by rw[OM];simpa using g5
     simp only[Instr.mapUpdate,Sem.run_bind,az ok ht,Result.andThen_ok,hget,uo 9999,Instr.findKey,az ok HE,g1,Sem.run_pure,HG,Instr.keyThatStays,Instr.sameBits,beq_self_eq_true,Bool.and_self,if_true];simp[setObj,Sem.run,wput,h1]
    ·rename_i hf;cases hs
     have g1:=jG (kt:=ik) (en:=en.toList) hf hl (fun j p hj=>by
      obtain⟨a,b,c,d,e,q1,q2,q3⟩:=h3 j p hj
      exact⟨a,b,c,d,e,q1,by simpa using q2,q3⟩)
     simp only at g1
     have hx:=Nx.obj (o':=.map (en.push {key:=.int kk n,val:=.int vk x,born:=cl}) (cl+1)) (uc:=.map (es++[(.int kk n,.int vk x)])) h hβ (cW Er) hb h1 rfl (fun w1 MI=>by simp[bK,MI,h1]) fun x'=>by
      refine⟨rfl,_,cl+1,by simp only[wput];rw[Array.getElem?_setIfInBounds_self_of_lt (h.lt k r 0 hβ)],by simp[h2],fun i p hp=>?_⟩;rw[List.getElem?_append] at hp
      split at hp
      ·rename_i hi;obtain⟨a,b,c,d,e,q1,q2,q3⟩:=h3 i p hp;exact⟨a,b,c,d,e,q1,by rw[Array.getElem?_push,if_neg (by omega)];exact q2,q3⟩
      ·rename_i hi
       have A1:i-es.length=0:=by
        rcases Nat.eq_zero_or_pos (i-es.length) with h'|h'
        ·exact h'
        ·rw[List.getElem?_eq_none (by simp;omega)] at hp;cases hp
       rw[A1] at hp;simp at hp;subst hp;exact⟨kk,n,vk,x,_,rfl,by rw[Array.getElem?_push,if_pos (by omega)],rfl,rfl⟩
     refine⟨_,?_,hx⟩;simp only[Instr.mapUpdate,Sem.run_bind,az ok ht,Result.andThen_ok,hget,uo 9999,Instr.findKey,az ok HE,g1,Sem.run_pure];simp[setObj,Sem.run,wput,h1]
    ·cases hs
   ·cases hs
  ·cases hs
 ·cases hs
theorem AO {w:World} {st:St} {β:Nat→Option (Nat×Nat)} {Z:Nat→Prop} (h:eP w st β Z) {t:Nat} {m key r:D} {um uk:Value} (hm:VR w (st.x β Z) m um) (hk:VR w (st.x β Z) key uk) (hs:lD pv t m key st=some r):
  ∃z,(Instr.lookup t um uk false).run P w=.ok z w∧VR w (st.x β Z) r z:=by
 unfold lD at hs
 split at hs
 ·rename_i kt e k kk n ht
  split at hs
  ·rename_i ik es HE hb;obtain⟨a,rfl,gC⟩:=yK hm;obtain⟨base,hβ⟩:=gC (by simp[St.x,St.aq,hb,bV]);have hβ:β k=some (a,base):=hβ;have:=bL hk;subst this;obtain⟨rfl,en,cl,h1,h2,h3⟩:=h.box k a base _ hβ hb;have hl:en.toList.length=es.length:=by simpa using h2
   have uo:∀b,(Instr.checkKey b 10000 kt (.int kk n)).run P w=.ok () w:=by
    intro b;unfold Instr.checkKey;simp only[Sem.run_bind,az ok HE,Result.andThen_ok,Sem.run_pure]
   have hget:(getObj a).run P w=.ok (.map en cl) w:=by simp[getObj,Sem.run,h1]
   split at hs
   ·rename_i q d hf;cases hs
    obtain⟨vv,g1,g2,g3,⟨P0,x',rfl,rfl⟩,e0,g4,g5⟩:=jG (kt:=ik) (en:=en.toList) hf hl (fun j p hj=>by
     obtain⟨a,b,c,d,e,q1,q2,q3⟩:=h3 j p hj
     exact⟨a,b,c,d,e,q1,by simpa using q2,q3⟩)
    refine⟨.int P0 x',?_,.im _ _ (.int _ _)⟩;simp only[Instr.lookup,Sem.run_bind,az ok ht,Result.andThen_ok,hget,Sem.run_pure,uo,Instr.findKey,az ok HE,g1]
    rfl
   ·rename_i hf;obtain⟨z,hz,Jz⟩:=uP ok hs w
    have g1:=jG (kt:=ik) (en:=en.toList) hf hl (fun j p hj=>by
     obtain⟨a,b,c,d,e,q1,q2,q3⟩:=h3 j p hj
     exact⟨a,b,c,d,e,q1,by simpa using q2,q3⟩)
    simp only at g1;refine⟨z,?_,by rw[Jz];exact .im _ _ (o_ _ _ z)⟩;simp only[Instr.lookup,Sem.run_bind,az ok ht,Result.andThen_ok,hget,Sem.run_pure,uo,Instr.findKey,az ok HE,g1,hz]
    rfl
   ·cases hs
  ·cases hs
 ·cases hs
theorem B_ {w:World} {st ab:St} {β:Nat→Option (Nat×Nat)} {Z:Nat→Prop} (h:eP w st β Z) {t:Nat} {d r:D} {u:Value} (hu:VR w (st.x β Z) d u) (hs:tp pv t d st=some (r,ab)):
  ∃z w' β',(Instr.range t u).run P w=.ok z w'∧Nx w st β Z w' ab β' Z∧VR w' (ab.x β' Z) r z∧Quiet w w':=by
 unfold tp at hs
 split at hs
 ·rename_i l ht;cases hs;rw[dZ hu]
  have hx:=Nx.push (w':=w.alloc (.stringIter ⟨l.toArray⟩ 0)) h (.stringIter ⟨l.toArray⟩ 0) rfl rfl rfl rfl (.iter l 0) (fun _=>⟨rfl,by
   show(w.heap.push _)[w.heap.size]?=_
   simp⟩)
  refine⟨.pointer (some ⟨w.heap.size,0,none⟩),_,_,?_,hx,?_,Quiet.push rfl⟩
  ·simp only[Instr.range,Sem.run_bind,az ok ht,Result.andThen_ok,Sem.run_pure,run_newObj];rfl
  ·refine .ptr _ _ _ _ ⟨_,by simp[St.x,de];rfl⟩ (fun c _=>Nat.zero_le _) fun _=>⟨w.heap.size,0,by simp[St.x,de],rfl⟩
 ·cases hs
omit ok in
theorem E_ {w:World} {st ab:St} {β:Nat→Option (Nat×Nat)} {Z:Nat→Prop} (h:eP w st β Z) {b:Bool} {ty:TypeId} {d r:D} {u:Value} (hu:VR w (st.x β Z) d u) (hs:sk d b st=some (r,ab)):
  ∃z w',(Instr.next u b ty).run P w=.ok z w'∧Nx w st β Z w' ab β Z∧VR w' (ab.x β Z) r z:=by
 unfold sk at hs
 split at hs
 ·rename_i k
  split at hs
  ·rename_i l pos hb;obtain⟨a,rfl,hk,gC⟩:=bz hu;have iw:st.aq k=some 0:=by simp[St.aq,hb,bV]
   obtain⟨b,base,Jx,rfl⟩:=gC iw;have hβ:β k=some (b,base):=Jx;clear Jx;obtain⟨rfl,De⟩:=h.box k b base _ hβ hb;have hbl:=h.lt k b 0 hβ;have hsz:(⟨l.toArray⟩:ByteArray).size=l.length:=by simp[ByteArray.size]
   split at hs
   ·rename_i hp
    split at hs
    ·rename_i Er;cases hs;have fS:=h.dom k b 0 hβ
     let w':World:={w with heap:=w.heap.setIfInBounds b (.stringIter ⟨l.toArray⟩ (pos+(Utf8.decode ⟨l.toArray⟩ pos).2))}
     have hne:∀i,i≠b→w'.heap[i]?=w.heap[i]?:=by
      intro i hi;show(w.heap.setIfInBounds b _)[i]?=_;rw[Array.getElem?_setIfInBounds_ne (by omega)]
     have heq:w'.heap[b]?=some (.stringIter ⟨l.toArray⟩ (pos+(Utf8.decode ⟨l.toArray⟩ pos).2)):=by
      show(w.heap.setIfInBounds b _)[b]?=_;rw[Array.getElem?_setIfInBounds_self_of_lt hbl]
     have pI:∀i,({st with bs:=st.bs.set k (.iter l (pos+(Utf8.decode ⟨l.toArray⟩ pos).2))}:St).aq i=st.aq i:=by
      intro i;simp only[St.aq]
      by_cases hik:i=k
      ·subst hik;rw[List.getElem?_set_self fS,hb];rfl
      ·rw[List.getElem?_set_ne (by omega)]
     have J9:cx w (st.x β Z) w' (({st with bs:=st.bs.set k (.iter l (pos+(Utf8.decode ⟨l.toArray⟩ pos).2))}:St).x β Z):=by
      refine⟨fun i p hp=>⟨p,hp⟩,fun i hi=>⟨hi,hne i fun e=>h.zd k b 0 hβ (e▸hi)⟩,fun i q p hi hq=>⟨q,?_,Nat.le_refl _⟩,fun i q hq rD i' y hy=>⟨hy,?_⟩⟩
      ·have:=pI i;show st.aq i=some q;rw[←this];exact hq
      ·by_cases e:i'=b
       ·subst e;simp[bK,heq,De]
       ·exact cT (hne i' e)
     refine⟨.tuple #[.bool true,.int .i64 pos,.int .i32 (Utf8.decode ⟨l.toArray⟩ pos).1],w',?_,⟨⟨?_,?_,h.inj,h.zd,?_,?_,?_,?_⟩,J9,⟨rfl,rfl,rfl,by simp[w'],fun i _ hn=>hne i fun e=>hn ⟨k,0,e▸hβ,cW Er⟩⟩,
      fun i q y hq=>.inl ⟨y,hq⟩,fun _ hz=>.inl hz,by simp,rfl,rfl,?_,fun i _ h0=>by
       have:i≠k:=fun e=>by subst e;rw[hβ] at h0;cases h0
       dsimp only;rw[List.getElem?_set_ne (by omega)]
       exact⟨h0,rfl⟩⟩,?_⟩
     ·simp only[Instr.next,Sem.run_bind,getObj,setObj];simp[Sem.run,De,hsz,hp,goInt,w']
     ·intro i q y hq;simp;exact h.dom i q y hq
     ·intro i q y hq;simp only[w',Array.size_setIfInBounds];exact h.lt i q y hq
     ·intro i hi;simp only[w',Array.size_setIfInBounds];exact h.zl i hi
     ·intro i q y bx hq fL;(try dsimp only at fL)
      by_cases hik:i=k
      ·subst hik;rw[List.getElem?_set_self fS] at fL;cases fL;rw[hβ] at hq;cases hq;exact⟨rfl,heq⟩
      ·rw[List.getElem?_set_ne (by omega)] at fL;exact(h.box i q y bx hq fL).aP J9 (hne q fun e=>hik (h.inj i k q _ _ hq (e▸hβ)))
     ·have:=h.flr;simp;omega
     ·have:=h.ro;simp;omega
     ·intro i hi;have:=cW Er;dsimp only;rw[List.getElem?_set_ne (by omega)];exact⟨rfl,rfl⟩
     ·refine .im _ _ (.tup _ [.bool true,.int .i64 pos,.int .i32 (Utf8.decode ⟨l.toArray⟩ pos).1] rfl fun i c v hc hv=>?_)
      match i with
      |0=>simp at hc hv;subst hc;subst hv;exact .bool _
      |1=>simp at hc hv;subst hc;subst hv;exact .int _ _
      |2=>simp at hc hv;subst hc;subst hv;exact .int _ _
      |i+3=>simp at hc
    ·cases hs
   ·rename_i hp;cases hs;refine⟨.tuple #[.bool false],w,?_,Nx.same h,.im _ _ (.tup _ [.bool false] rfl fun i c v hc hv=>?_)⟩
    ·simp only[Instr.next,Sem.run_bind,getObj];simp[Sem.run,De,hsz,hp]
    ·match i with
     |0=>simp at hc hv;subst hc;subst hv;exact .bool _
     |i+1=>simp at hc
  ·cases hs
 ·cases hs
end
end Go.V
namespace Go.V
open Go.RowKit
def PW (P:Program) (a:Act) (o:Oper) (w:World) (v:Value) (w':World):Prop:=
 (execOp a.eval o).run P w=.ok (.value v) w'∨((execOp a.eval o).run P w=.ok .skip w'∧v=undef)
def iv (pv:Pv) (f:Nat):Bool:=
 match pv.fi f with
 |some x=>match x.mode with
  | .ro| .nw=>true
  |_=>false
 |none=>false
def dL (pv:Pv) (o:Oper):Bool:=
 match o.op with
 | .store _ _ _=>true
 | .next _ _=>true
 | .convert s t _=>lB pv s t
 | .insert _ _ _ _=>true
 | .mapUpdate _ _ _ _=>true
 | .call ⟨.builtin b,_,_⟩=>match b with
  | .len| .min| .max=>false
  |_=>true
 | .call ⟨.value (.func f),_,_⟩=>!iv pv f
 | .call _=>true
 |_=>false
theorem tV {P:Program} {w:World} {x:X} (nL:Bool):∀(ds:List D) (us:List Value) {d r:D} {u:Value},ds.length=us.length→(∀(i:Nat) c v,ds[i]?=some c→us[i]?=some v→VR w x c v)→VR w x d u→nP (sm nL) d ds=some r→
  ∃z,(us.foldlM (if nL then Builtin.min2 else Builtin.max2) u).run P w=.ok z w∧VR w x r z
 |[],us,d,r,u,hl,_,hd,hf=>by
  cases us with
  |nil=>simp[nP] at hf;subst hf;exact⟨u,by simp,hd⟩
  |cons v us=>simp at hl
 |e::ds,us,d,r,u,hl,hr,hd,hf=>by
  cases us with
  |nil=>simp at hl
  |cons v us=>
   simp only[nP] at hf;obtain⟨m,hm,hf⟩:=Option.bind_eq_some_iff.1 hf;have he:=hr 0 e v rfl rfl;unfold sm at hm
   split at hm
   ·rename_i k a k' b;cases hm;rw[bL hd,bL he];have hz:VR w x (.int k (if nL then(if b<a then b else a) else(if b>a then b else a))) (.int k (if nL then(if b<a then b else a) else(if b>a then b else a))):=.im _ _ (.int _ _);obtain⟨z,h1,h2⟩:=tV (P:=P) nL ds us (by simpa using hl) (fun i c v hc hv=>hr (i+1) c v hc hv) hz hf;refine⟨z,?_,h2⟩;simp only[List.foldlM_cons,Sem.run_bind];cases nL<;>simp[Builtin.min2,Builtin.max2] at h1⊢<;>exact h1
   ·cases hm
theorem Fk {w:World} {x:X} {d:D} {u:Value} {n:Nat} (hu:VR w x d u) (h:vC d=some n) (hs:∀s,d≠.str s):∃a c,u=.slice a n c:=by
 cases d with
 |sl es=>obtain⟨a,c,rfl,_⟩:=jj hu;simp[vC] at h;subst h;exact⟨a,c,rfl⟩
 |nul=>simp[vC] at h;subst h;exact⟨_,_,dp hu⟩
 |win k v o l s=>obtain⟨a,c,rfl,_⟩:=dj hu;simp[vC] at h;subst h;exact⟨_,_,rfl⟩
 |str s=>exact absurd rfl (hs s)
 |_=>simp[vC] at h
section
variable{pv:Pv} {P:Program} (ok:pv.Ok P)
include ok
theorem DP {w:World} {st ab:St} {β:Nat→Option (Nat×Nat)} {Z:Nat→Prop} (h:eP w st β Z) {l9:List TypeId} {ty:TypeId} {d r:D} {u:Value} (hu:VR w (st.x β Z) d u)
  (hs:jK pv l9 d st=some (r,ab)):∃z w',(Builtin.clear_ l9.toArray ty #[u]).run P w=.ok z w'∧Nx w st β Z w' ab β Z∧VR w' (ab.x β Z) r z:=by
 unfold jK at hs
 split at hs
 ·rename_i dT rest
  split at hs
  ·rename_i e HS
   split at hs
   ·cases hs;rw[dp hu];refine⟨.tuple #[],w,?_,Nx.same h,.im _ _ (.tup [] [] rfl (by simp))⟩;simp only[Builtin.clear_,List.getElem?_toArray,List.getElem?_cons_zero,Sem.run_bind,az ok HS,Result.andThen_ok,Sem.run_pure]
   ·rename_i k aq off len sz;obtain⟨z,hz,hs⟩:=Option.bind_eq_some_iff.1 hs
    split at hs
    ·rename_i j7;obtain⟨st1,hwr,hs⟩:=Option.map_eq_some_iff.1 hs;cases hs;obtain⟨a,cap,rfl,hc,hk,_,gC⟩:=dj hu
     have iw:st.aq k=some aq:=by
      unfold St.wr at hwr
      split at hwr
      ·rename_i hm;exact(bX hm).2
      ·cases hwr
     obtain⟨b,base,ED,hb,_,tT⟩:=gC iw;obtain⟨zv,JA,Hc⟩:=eY ok w (st.x β Z) hz;have Bw:zv.cells.toList.length=sz:=by rw[←Hc.len,j7]
     obtain⟨q1,q2⟩:=oE Hc len len (Nat.le_refl _) Bw _ rfl
     have cz:((Array.range (len*sz)).map (zv.cells.toList.toArray[·%zv.cells.toList.toArray.size]!))=Builtin.zeroCells zv.cells len:=by
      have:zv.cells.size=sz:=by rw[←Bw];simp
      simp[Builtin.zeroCells,this]
     rw[cz] at q1 q2
     have tR:LR w (st.x β Z) (dB len z) (Builtin.zeroCells zv.cells len).toList:=by
      refine⟨by rw[dQ,j7,Array.length_toList,q1],fun u hu=>?_,fun i c u BC hu=>?_⟩
      ·obtain⟨j,hj⟩:=List.getElem?_of_mem hu
       have iS:j<len*sz:=by
        rcases Nat.lt_or_ge j (len*sz) with h'|h'
        ·exact h'
        ·rw[List.getElem?_eq_none (by rw[Array.length_toList,q1];exact h')] at hj;cases hj
       obtain⟨u',fZ,ji,_⟩:=q2 j _ (List.getElem?_eq_getElem (by rw[dQ,j7];exact iS));rw[Array.getElem?_toList] at hj;rw[hj] at fZ;cases fZ;exact ji
      ·obtain⟨u',fZ,_,mS⟩:=q2 i c BC;rw[Array.getElem?_toList] at hu;rw[hu] at fZ;cases fZ;exact mS
     have hla:len=0∨(Builtin.zeroCells zv.cells len).toList=[]∨a=⟨b,base+off,none⟩:=by
      rcases tT with rfl|⟨rfl,_⟩
      ·exact .inl (by omega)
      ·exact .inr (.inr rfl)
     rcases hla with rfl|hla
     ·have h0:(Builtin.zeroCells zv.cells 0).toList=[]:=by simp[Builtin.zeroCells]
      rw[h0] at tR;obtain⟨w',h3,β',h4,rfl⟩:=yJ (P:=P) (a:=⟨b,base+off,none⟩) h tR hwr hb (.inl rfl);simp only[storeCells,Sem.run_pure,Result.ok.injEq,true_and] at h3;subst h3;refine⟨.tuple #[],w,?_,h4,.im _ _ (.tup [] [] rfl (by simp))⟩;simp only[Builtin.clear_,List.getElem?_toArray,List.getElem?_cons_zero,Sem.run_bind,az ok HS,Result.andThen_ok,Sem.run_pure]
     ·obtain⟨w',h3,β',h4,rfl⟩:=yJ (P:=P) h tR hwr hb hla;refine⟨.tuple #[],w',?_,h4,.im _ _ (.tup [] [] rfl (by simp))⟩
      cases len with
      |zero=>
       have h0:(Builtin.zeroCells zv.cells 0).toList=[]:=by simp[Builtin.zeroCells]
       rw[h0] at h3;simp only[storeCells,Sem.run_pure,Result.ok.injEq,true_and] at h3;subst h3;simp only[Builtin.clear_,List.getElem?_toArray,List.getElem?_cons_zero,Sem.run_bind,az ok HS,Result.andThen_ok,Sem.run_pure]
      |succ len=>
       simp only[Builtin.clear_,List.getElem?_toArray,List.getElem?_cons_zero,Sem.run_bind,az ok HS,Result.andThen_ok,JA,h3,Sem.run_pure]
    ·cases hs
   ·cases hs
  ·cases hs
 ·cases hs
theorem yy {w:World} {st ab:St} {β:Nat→Option (Nat×Nat)} {Z:Nat→Prop} (h:eP w st β Z) {b:Builtin} {l9:List TypeId} {ds:List D} {us:List Value} {ty:TypeId} {cs:Array Bool} {r:D} (hl:ds.length=us.length)
  (hr:∀(i:Nat) c v,ds[i]?=some c→us[i]?=some v→VR w (st.x β Z) c v) (hs:aT pv b l9 ds st=some (r,ab)):
  ∃z w' β',(builtin b l9.toArray ty cs us.toArray).run P w=.ok (.value z) w'∧Nx w st β Z w' ab β' Z∧VR w' (ab.x β' Z) r z∧(b=.len∨b=.min∨b=.max→Quiet w w'):=by
 unfold aT at hs
 split at hs
 ·rename_i d
  obtain⟨u,rfl⟩:∃u,us=[u]:=by
   match us,hl with
   |[u],_=>exact⟨u,rfl⟩
  have hu:=hr 0 d u rfl rfl
  split at hs
  ·rename_i t rest
   split at hs
   ·rename_i ht
    split at hs
    ·rename_i s;cases hs;rw[dZ hu];refine⟨.int .i64 s.length,w,β,?_,Nx.same h,.im _ _ (.int _ _),fun _=>Quiet.refl _⟩;have hsz:(⟨s.toArray⟩:ByteArray).size=s.length:=by simp[ByteArray.size]
     simp[builtin,Builtin.len_,az ok ht,goInt,hsz]
    ·cases hs
   ·rename_i e ht
    split at hs
    ·cases hs
    ·rename_i FH
     split at hs
     ·rename_i n hn;cases hs;obtain⟨a,c,e⟩:=Fk hu hn FH;refine⟨.int .i64 n,w,β,?_,Nx.same h,.im _ _ (.int _ _),fun _=>Quiet.refl _⟩;rw[e];simp[builtin,Builtin.len_,az ok ht,goInt]
     ·cases hs
   ·rename_i n e ht;cases hs;refine⟨.int .i64 n,w,β,?_,Nx.same h,.im _ _ (.int _ _),fun _=>Quiet.refl _⟩;cases u<;>simp[builtin,Builtin.len_,az ok ht,goInt]
   ·cases hs
  ·cases hs
 ·rename_i d e
  obtain⟨u,v,rfl⟩:∃u v,us=[u,v]:=by
   match us,hl with
   |[u,v],_=>exact⟨u,v,rfl⟩
  obtain⟨z,w',β',h1,h2,h3⟩:=Bq ok h (ty:=ty) (hr 0 d u rfl rfl) (hr 1 e v rfl rfl) hs;exact⟨z,w',β',by simp[builtin,h1],h2,h3,fun e=>by simp at e⟩
 ·rename_i d e
  obtain⟨u,v,rfl⟩:∃u v,us=[u,v]:=by
   match us,hl with
   |[u,v],_=>exact⟨u,v,rfl⟩
  obtain⟨z,w',h1,h2,h3⟩:=F5 ok h (ty:=ty) (hr 0 d u rfl rfl) (hr 1 e v rfl rfl) hs;exact⟨z,w',β,by simp[builtin,h1],h2,h3,fun e=>by simp at e⟩
 ·rename_i d
  obtain⟨u,rfl⟩:∃u,us=[u]:=by
   match us,hl with
   |[u],_=>exact⟨u,rfl⟩
  obtain⟨z,w',h1,h2,h3⟩:=DP ok h (ty:=ty) (hr 0 d u rfl rfl) hs;exact⟨z,w',β,by simp[builtin,h1],h2,h3,fun e=>by simp at e⟩
 ·rename_i d l
  obtain⟨u,vs,rfl⟩:∃u vs,us=u::vs:=by
   match us,hl with
   |u::vs,_=>exact⟨u,vs,rfl⟩
  obtain⟨m,hm,hs⟩:=Option.map_eq_some_iff.1 hs;cases hs;obtain⟨z,h1,h2⟩:=tV (P:=P) true l vs (by simpa using hl) (fun i c v hc hv=>hr (i+1) c v hc hv) (hr 0 d u rfl rfl) hm;exact⟨z,w,β,by simp only[if_true] at h1;simp[builtin,Builtin.min_,h1],Nx.same h,h2,fun _=>Quiet.refl _⟩
 ·rename_i d l
  obtain⟨u,vs,rfl⟩:∃u vs,us=u::vs:=by
   match us,hl with
   |u::vs,_=>exact⟨u,vs,rfl⟩
  obtain⟨m,hm,hs⟩:=Option.map_eq_some_iff.1 hs;cases hs;obtain⟨z,h1,h2⟩:=tV (P:=P) false l vs (by simpa using hl) (fun i c v hc hv=>hr (i+1) c v hc hv) (hr 0 d u rfl rfl) hm;exact⟨z,w,β,by simp only[Bool.false_eq_true,if_false] at h1;simp[builtin,Builtin.max_,h1],Nx.same h,h2,fun _=>Quiet.refl _⟩
 ·cases hs
omit ok in
theorem yg {w:World} {x:X} {fr:Fr} {a:Act} (hf:l6 w x fr a.tmps) (l:List Operand):∀(i:Nat) c v,(l.map fr.ev)[i]?=some c→(l.map a.eval)[i]?=some v→VR w x c v:=by
 intro i c v hc hv;rw[List.getElem?_map] at hc hv
 cases hl:l[i]? with
 |none=>simp[hl] at hc
 |some o=>simp[hl] at hc hv;subst hc;subst hv;exact sL hf o
omit ok in
theorem u7 {w:World} {x:X} {fr:Fr} {a:Act} (hf:l6 w x fr a.tmps) (l:List (Nat×Operand)):∀(i:Nat) p q,(l.map fun p=>(p.1,fr.ev p.2))[i]?=some p→(l.map fun p=>(p.1,a.eval p.2))[i]?=some q→p.1=q.1∧VR w x p.2 q.2:=by
 intro i p q hp hq;rw[List.getElem?_map] at hp hq
 cases hl:l[i]? with
 |none=>simp[hl] at hp
 |some o=>simp[hl] at hp hq;subst hp;subst hq;exact⟨rfl,sL hf _⟩
theorem Ji {w:World} {st ab:St} {β:Nat→Option (Nat×Nat)} {Z:Nat→Prop} (h:eP w st β Z) {fr:Fr} {a:Act} (hf:l6 w (st.x β Z) fr a.tmps) {o:Oper} {d:D} (hs:cG pv fr st o.op o.type=some (d,ab)):
  ∃v w' β',PW P a o w v w'∧Nx w st β Z w' ab β' Z∧VR w' (ab.x β' Z) d v∧(dL pv o=false→Quiet w w'):=by
 obtain⟨dst,op,ty,pos,after,guard⟩:=o
 have gK:∀{s:Sem Value} {d:D} {v:Value},execOp a.eval ⟨dst,op,ty,pos,after,guard⟩=(do pure (.value (←s)):Sem Next)→s.run P w=.ok v w→VR w (st.x β Z) d v→
   ∃v w' β',PW P a ⟨dst,op,ty,pos,after,guard⟩ w v w'∧Nx w st β Z w' st β' Z∧VR w' (st.x β' Z) d v∧(dL pv ⟨dst,op,ty,pos,after,guard⟩=false→Quiet w w'):=by
  intro s d v he hr hv;exact⟨v,w,β,.inl (by rw[he];simp[hr]),Nx.same h,hv,fun _=>Quiet.refl _⟩
 have full:∀{s:Sem Value} {d:D} {ab:St},execOp a.eval ⟨dst,op,ty,pos,after,guard⟩=(do pure (.value (←s)):Sem Next)→(∃z w' β',s.run P w=.ok z w'∧Nx w st β Z w' ab β' Z∧VR w' (ab.x β' Z) d z∧Quiet w w')→
   ∃v w' β',PW P a ⟨dst,op,ty,pos,after,guard⟩ w v w'∧Nx w st β Z w' ab β' Z∧VR w' (ab.x β' Z) d v∧(dL pv ⟨dst,op,ty,pos,after,guard⟩=false→Quiet w w'):=by
  rintro s d ab he ⟨z,w',β',h1,h2,h3,h4⟩;exact⟨z,w',β',.inl (by rw[he];simp[h1]),h2,h3,fun _=>h4⟩
 have ev:=fun o=>sL hf o;simp only at hs;unfold cG at hs
 split at hs
 ·rename_i x;cases hs;exact⟨a.eval x,w,β,.inl rfl,Nx.same h,ev x,fun _=>Quiet.refl _⟩
 ·rename_i x;cases hs;exact⟨a.eval x,w,β,.inl rfl,Nx.same h,ev x,fun _=>Quiet.refl _⟩
 ·rename_i c p q;have hc:=ev c
  split at hs
  ·rename_i hb;cases hs;rw[hb] at hc;exact gK (s:=do pure (if←asBool (a.eval c) then a.eval p else a.eval q)) (by simp[execOp]) (by rw[c8 hc];simp[asBool]) (ev p)
  ·rename_i hb;cases hs;rw[hb] at hc;exact gK (s:=do pure (if←asBool (a.eval c) then a.eval p else a.eval q)) (by simp[execOp]) (by rw[c8 hc];simp[asBool]) (ev q)
  ·cases hs
 ·rename_i e;obtain⟨cs,hz,hs⟩:=Option.map_eq_some_iff.1 hs;cases hs;exact full rfl (D5 ok h hz)
 ·rename_i e x;obtain⟨cs,hz,hs⟩:=Option.map_eq_some_iff.1 hs;cases hs;exact full rfl (Cz (P:=P) h (lU (ev x) hz) e)
 ·rename_i t parts;obtain⟨r,hb,hs⟩:=Option.map_eq_some_iff.1 hs;cases hs;obtain⟨z,h1,h2⟩:=D0 ok (parts':=parts.toList.map fun p=>(p.1,a.eval p.2)) (by simp) (u7 hf _) hb;refine gK rfl ?_ h2
  have:(parts.map fun(x:Nat×Operand)=>match x with|(i,x)=>(i,a.eval x))=(parts.toList.map fun p=>(p.1,a.eval p.2)).toArray:=by
   apply Array.ext';simp
  simp only[this];exact h1
 ·rename_i t len parts;have hb:=rI ok h (parts':=parts.toList.map fun p=>(p.1,a.eval p.2)) (by simp) (u7 hf _) hs
  have:(parts.map fun(x:Nat×Operand)=>match x with|(i,x)=>(i,a.eval x))=(parts.toList.map fun p=>(p.1,a.eval p.2)).toArray:=by
   apply Array.ext';simp
  refine full (s:=Instr.buildSlice t len (parts.map fun(x:Nat×Operand)=>match x with|(i,x)=>(i,a.eval x))) rfl ?_;rw[this];exact hb
 ·rename_i t ad;obtain⟨r,hl,hs⟩:=Option.map_eq_some_iff.1 hs;cases hs;have hv:=ev ad;unfold eW at hl
  split at hl
  ·rename_i k aq off hd;rw[hd] at hv;obtain⟨⟨ar,c⟩,hm,hl⟩:=Option.bind_eq_some_iff.1 hl;obtain⟨p,hp,_,gC⟩:=bz hv;obtain⟨b,base,hb,rfl⟩:=gC (bX hm).2;obtain⟨z,h1,h2⟩:=oj ok ((h.cells hm hb).drop off) hl;refine gK rfl ?_ h2;rw[hp];simp[Instr.loadAt,Instr.sureAddr,h1]
  ·rename_i c hd;rw[hd] at hv;obtain⟨b,off,hp,_,hc,_⟩:=oI hv;obtain⟨z,h1,h2⟩:=oj ok hc hl;refine gK rfl ?_ h2;rw[hp];simp[Instr.loadAt,Instr.sureAddr,h1]
  ·cases hl
 ·rename_i t ad x;obtain⟨st1,f_,hs⟩:=Option.map_eq_some_iff.1 hs;cases hs;obtain⟨w',h1,h2⟩:=BN ok h (ev ad) (ev x) f_;exact⟨undef,w',β,.inr ⟨by simp[execOp,h1],rfl⟩,h2,.im _ _ (.tup [] [] rfl (by simp)),fun e=>by simp[dL] at e⟩
 ·rename_i x;have hv:=ev x
  split at hs
  ·rename_i k v o hd;cases hs;rw[hd] at hv;obtain⟨p,hp,_⟩:=bz hv;exact⟨a.eval x,w,β,.inl (by simp[execOp,hp]),Nx.same h,hv,fun _=>Quiet.refl _⟩
  ·rename_i c hd;cases hs;rw[hd] at hv;obtain⟨b,off,hp,_⟩:=oI hv;exact⟨a.eval x,w,β,.inl (by simp[execOp,hp]),Nx.same h,hv,fun _=>Quiet.refl _⟩
  ·rename_i f c hd;cases hs;rw[hd] at hv;obtain⟨vs,hp,_⟩:=uA hv;exact⟨a.eval x,w,β,.inl (by simp[execOp,hp]),Nx.same h,hv,fun _=>Quiet.refl _⟩
  ·cases hs
 ·rename_i Wx t x y _;obtain⟨r,hb,hs⟩:=Option.map_eq_some_iff.1 hs;cases hs;obtain⟨z,h1,h2⟩:=Ir ok x y (ev x) (ev y) hb;exact gK rfl h1 h2
 ·rename_i Vf t x;obtain⟨r,hb,hs⟩:=Option.map_eq_some_iff.1 hs;cases hs;obtain⟨z,h1,h2⟩:=I_ (P:=P) (ev x) hb;exact gK rfl h1 h2
 ·rename_i s t x;obtain⟨z,w',β',h1,h2,h3,h4⟩:=F6 ok h (ev x) hs;exact⟨z,w',β',.inl (by simp[execOp,h1]),h2,h3,fun e=>h4 (by simpa[dL] using e)⟩
 ·rename_i f first captured
  split at hs
  ·rename_i Km;cases hs;have Km:first=#[]:=by simpa using Km
   subst Km;refine⟨.func (.func f) #[] (captured.toList.map a.eval).toArray,w,β,.inl ?_,Nx.same h,.fn f _ _ (by simp) (yg hf _),fun _=>Quiet.refl _⟩;have:captured.map a.eval=(captured.toList.map a.eval).toArray:=by apply Array.ext';simp
   rw[←this];simp[execOp,Instr.makeFunc]
  ·cases hs
 ·rename_i t l c;exact full rfl (tJ ok h (ev l) (ev c) hs)
 ·rename_i t x lo hi;obtain⟨r,hb,hs⟩:=Option.map_eq_some_iff.1 hs;cases hs;obtain⟨z,h1,h2⟩:=BV ok h (sy:=lo.map a.eval) (gB:=hi.map a.eval) (ev x) (fun d v e1 e2=>by cases lo with|none=>cases e1|some q=>cases e1;cases e2;exact ev q) (fun d v e1 e2=>by cases hi with|none=>cases e1|some q=>cases e1;cases e2;exact ev q) (by cases lo<;>rfl) (by cases hi<;>rfl) hb;exact gK rfl h1 h2
 ·rename_i t x f;obtain⟨r,hb,hs⟩:=Option.map_eq_some_iff.1 hs;cases hs;obtain⟨z,h1,h2⟩:=tX ok (ev x) hb;exact gK rfl h1 h2
 ·rename_i t x f;obtain⟨r,hb,hs⟩:=Option.map_eq_some_iff.1 hs;cases hs;obtain⟨z,h1,h2⟩:=DD ok (ev x) hb;exact gK rfl h1 h2
 ·rename_i t x i;obtain⟨r,hb,hs⟩:=Option.map_eq_some_iff.1 hs;cases hs;obtain⟨z,h1,h2⟩:=tM ok (ev x) (ev i) hb;exact gK rfl h1 h2
 ·rename_i t x i;obtain⟨r,hb,hs⟩:=Option.map_eq_some_iff.1 hs;cases hs;obtain⟨z,h1,h2⟩:=CN ok (ev x) (ev i) hb;exact gK rfl h1 h2
 ·rename_i t x;exact full rfl (B_ ok h (ev x) hs)
 ·rename_i t r;obtain⟨z,w',β',h1,h2,h3,h4⟩:=xD ok h (u:=r.map a.eval) (by cases r<;>simp) (fun d v e1 e2=>by cases r with|none=>cases e1|some q=>cases e1;cases e2;exact ev q) hs;exact⟨z,w',β',.inl (by simp[execOp,h1]),h2,h3,fun _=>h4⟩
 ·rename_i t m k x;obtain⟨st1,f_,hs⟩:=Option.map_eq_some_iff.1 hs;cases hs;obtain⟨w',h1,h2⟩:=sr ok h (ev m) (ev k) (ev x) f_;exact⟨undef,w',β,.inr ⟨by simp[execOp,h1],rfl⟩,h2,.im _ _ (.tup [] [] rfl (by simp)),fun e=>by simp[dL] at e⟩
 ·rename_i t m k x;obtain⟨st1,f_,hs⟩:=Option.map_eq_some_iff.1 hs;cases hs;obtain⟨w',h1,h2⟩:=sr ok h (ev m) (ev k) (ev x) f_;exact⟨undef,w',β,.inr ⟨by simp[execOp,h1],rfl⟩,h2,.im _ _ (.tup [] [] rfl (by simp)),fun e=>by simp[dL] at e⟩
 ·rename_i t x i;obtain⟨r,hb,hs⟩:=Option.map_eq_some_iff.1 hs;cases hs;obtain⟨z,h1,h2⟩:=AO ok h (ev x) (ev i) hb;exact gK rfl h1 h2
 ·rename_i it s;obtain⟨z,w',h1,h2,h3⟩:=E_ (P:=P) (ty:=ty) h (ev it) hs;exact⟨z,w',β,.inl (by simp[execOp,h1]),h2,h3,fun e=>by simp[dL] at e⟩
 ·rename_i t i;have hv:=ev t
  split at hs
  ·rename_i ds hd;rw[hd] at hv;obtain⟨r,hb,hs⟩:=Option.map_eq_some_iff.1 hs;cases hs;obtain⟨vs,hp,hl,hr⟩:=ta hv
   have hi:i<ds.length:=by
    rcases Nat.lt_or_ge i ds.length with h'|h'
    ·exact h'
    ·rw[List.getElem?_eq_none h'] at hb;cases hb
   have gB:vs[i]?=some (vs[i]'(by omega)):=List.getElem?_eq_getElem _;refine gK rfl ?_ (hr i _ _ hb gB);rw[hp];simp[Instr.extract,gB]
  ·cases hs
 ·rename_i b args l9;have hb:=yy ok h (us:=args.toList.map a.eval) (ty:=ty) (cs:=args.map fun| .const _=>true|_=>false) (by simp) (yg hf _) hs;obtain⟨z,w',β',h1,h2,h3,h4⟩:=hb;refine⟨z,w',β',.inl ?_,h2,h3,fun e=>h4 (by cases b<;>simp[dL] at e⊢)⟩;have:args.map a.eval=(args.toList.map a.eval).toArray:=by apply Array.ext';simp
  simp only[Array.toArray_toList] at h1;simp only[execOp,resolve,invoke,this,Sem.run_bind,Sem.run_pure,Result.andThen_ok];exact h1
 ·cases hs
end
end Go.V
namespace Go.V
open Go.RowKit
theorem bh {d:D}:∀{ds:List D},d∈ds→d.ref≤refs ds
 |e::ds,h=>by
  rcases List.mem_cons.1 h with rfl|h
  ·simp only[refs];exact Nat.le_max_left _ _
  ·have:=bh h;simp only[refs];exact Nat.le_trans this (Nat.le_max_right _ _)
theorem ow {N:Nat}:∀{ds:List D},(∀d∈ds,d.ref≤N)→refs ds≤N
 |[],_=>by simp[refs]
 |d::ds,h=>by
  simp only[refs];exact Nat.max_le.2 ⟨h d (List.mem_cons_self ..),ow fun e he=>h e (List.mem_cons_of_mem _ he)⟩
structure cX (st ab:St):Prop where
 len:st.bs.length≤ab.bs.length
 flr:ab.flr=st.flr
 ro:ab.ro=st.ro
 low:∀k,k<st.ro→k<st.bs.length→ab.bs[k]?=st.bs[k]?
 fl:∀k bx uc,k<st.flr→st.bs[k]?=some bx→ab.bs[k]?=some uc→∀d∈uc.cells,d.ref≤max (k+1) (refs bx.cells)
theorem cX.refl (st:St):cX st st:=⟨Nat.le_refl _,rfl,rfl,fun _ _ _=>rfl,fun _ _ _ _ h h' d hd=>by rw[h] at h';cases h';exact Nat.le_trans (bh hd) (Nat.le_max_right _ _)⟩
theorem ej {α:Type} {l:List α} {k:Nat} {x:α} (h:l[k]?=some x):k<l.length:=by
 rcases Nat.lt_or_ge k l.length with h'|h'
 ·exact h'
 ·rw[List.getElem?_eq_none h'] at h;cases h
theorem cX.trans {a b c:St} (h:cX a b) (g:cX b c):cX a c:=
 ⟨Nat.le_trans h.len g.len,g.flr.trans h.flr,g.ro.trans h.ro,fun k hk hl=>(g.low k (by rw[h.ro];exact hk) (Nat.lt_of_lt_of_le hl h.len)).trans (h.low k hk hl),fun k bx uc hk h1 h2 d hd=>by
  have hb:k<b.bs.length:=Nat.lt_of_lt_of_le (ej h1) h.len;have h3:=g.fl k _ uc (by rw[h.flr];exact hk) (List.getElem?_eq_getElem hb) h2 d hd;have h4:refs (b.bs[k]).cells≤max (k+1) (refs bx.cells):=ow fun e he=>h.fl k bx _ hk h1 (List.getElem?_eq_getElem hb) e he
  omega⟩
theorem cX.push (st:St) (b:fV):cX st (st.push b):=
 ⟨by simp[St.push],rfl,rfl,fun k _ hl=>by simp[St.push,List.getElem?_append_left hl],fun k bx uc _ h1 h2 d hd=>by
  simp only[St.push,List.getElem?_append_left (ej h1)] at h2
  rw[h1] at h2;cases h2;exact Nat.le_trans (bh hd) (Nat.le_max_right _ _)⟩
theorem cX.set (st:St) (k:Nat) (b b0:fV) (h:st.ro≤k) (h0:st.bs[k]?=some b0) (hc:st.flr≤k∨∀d∈b.cells,d∈b0.cells∨d.ref≤max (k+1) (refs b0.cells)):cX st {st with bs:=st.bs.set k b}:=
 ⟨by simp,rfl,rfl,fun i hi _=>by simp only;rw[List.getElem?_set_ne (by omega)],fun i bx uc hi h1 h2 d hd=>by
  by_cases hik:k=i
  ·subst hik;rw[h0] at h1;cases h1;simp only at h2;rw[List.getElem?_set_self (ej h0)] at h2;cases h2
   rcases hc with hc|hc
   ·omega
   ·rcases hc d hd with h|h
    ·exact Nat.le_trans (bh h) (Nat.le_max_right _ _)
    ·exact h
  ·simp only at h2;rw[List.getElem?_set_ne hik,h1] at h2;cases h2
   exact Nat.le_trans (bh hd) (Nat.le_max_right _ _)⟩
theorem nI {d:D}:∀(cs c:List D) (off:Nat),d∈setMany c off cs→d∈c∨d∈cs
 |[],c,off,h=>.inl h
 |x::xs,c,off,h=>by
  rcases nI xs _ _ h with h|h
  ·rcases List.mem_or_eq_of_mem_set h with h|rfl
   ·exact .inl h
   ·exact .inr (List.mem_cons_self ..)
  ·exact .inr (List.mem_cons_of_mem _ h)
theorem tG {st:St} {k aq:Nat} {a:Bool} {c:List D} (h:st.dC k aq=some (a,c)):st.bs[k]?=some (.mem aq a c):=by
 unfold St.dC at h
 split at h
 ·rename_i v a' c' hb
  split at h
  ·rename_i hv;cases h;rw[hb,hv]
  ·cases h
 ·cases h
theorem zC {st:St} {k r:Nat} (h:st.ga k r=true):st.flr≤k∨r≤max (k+1) (st.tn k):=by
 simp only[St.ga,Bool.and_eq_true,Bool.or_eq_true,decide_eq_true_eq] at h;omega
theorem rW {st:St} {k:Nat} {b:fV} (h:st.bs[k]?=some b):st.tn k=refs b.cells:=by simp only[St.tn,h]
def l7 (st ab:St):Prop:=∃l,ab=⟨st.bs++l,st.flr,st.ro⟩
theorem l7.rfl (st:St):l7 st st:=⟨[],by simp⟩
theorem l7.push (st:St) (b:fV):l7 st (st.push b):=⟨[b],by simp[St.push]⟩
theorem l7.goes {st ab:St} (h:l7 st ab):cX st ab:=by
 obtain⟨l,rfl⟩:=h
 exact⟨by simp,Eq.refl _,Eq.refl _,fun k _ hl=>by simp only;rw[List.getElem?_append_left hl],fun k bx uc _ h1 h2 d hd=>by
  simp only at h2;rw[List.getElem?_append_left (ej h1),h1] at h2;cases h2
  exact Nat.le_trans (bh hd) (Nat.le_max_right _ _)⟩
structure gf (P:Program) (pv:Pv) (cf:df):Prop where
 fn:∀f ds st r,cf f ds st=some r→∃fn b,P.funcs[f]?=some fn∧fn.body=some b∧fn.name≠ "runtime.NumGoroutine"
 calls:∀f ds st d ab,cf f ds st=some (d,ab)→∀w β Z (us:List Value),eP w st β Z→ds.length=us.length→(∀(i:Nat) c v,ds[i]?=some c→us[i]?=some v→VR w (st.x β Z) c v)→
  Calls P f us.toArray w fun e w'=>∃v β' Z',e=.returned v∧Nx w st β Z w' ab β' Z'∧VR w' (ab.x β' Z') d v∧(iv pv f=true→Quiet w w')
 ro:∀f ds st d ab,cf f ds st=some (d,ab)→iv pv f=true→l7 st ab
 len:∀f ds st d ab,cf f ds st=some (d,ab)→cX st ab
section
variable{pv:Pv} {P:Program} (ok:pv.Ok P) {cf:df} (dg:gf P pv cf)
include ok dg
theorem ox {w:World} {st ab:St} {β:Nat→Option (Nat×Nat)} {Z:Nat→Prop} (h:eP w st β Z) {fr:Fr} {a:Act} (hf:l6 w (st.x β Z) fr a.tmps) {o:Oper} {d:D} (hs:dG pv cf fr st o=some (d,ab))
  {next:Act→World→Prop} {Q:Exit→Act→World→Prop} (K:∀v w' β' Z',Nx w st β Z w' ab β' Z'→VR w' (ab.x β' Z') d v→(dL pv o=false→Quiet w w')→next (a.put o.dst v) w'):o.wp P a w next Q:=by
 unfold dG at hs
 split at hs
 ·rename_i f args l9 eT
  split at hs
  ·rename_i g hU hev;have hv:=sL hf f;rw[hev] at hv;obtain⟨vs,he,hl,hr⟩:=uA hv;obtain⟨fn,b,TZ,hb,J6⟩:=dg.fn _ _ _ _ hs;have hargs:=yg hf args.toList
   have hrel:∀(i:Nat) c v,(args.toList.map fr.ev++hU)[i]?=some c→(args.toList.map a.eval++vs)[i]?=some v→VR w (st.x β Z) c v:=by
    intro i c v hc hv;rw[List.getElem?_append] at hc hv;simp only[List.length_map] at hc hv
    split at hc
    ·rename_i hi;rw[if_pos hi] at hv;exact hargs i c v hc hv
    ·rename_i hi;rw[if_neg hi] at hv;exact hr _ c v hc hv
   have hcall:=dg.calls _ _ _ _ _ hs w β Z (args.toList.map a.eval++vs) h (by simp[hl]) hrel
   have jc:(execOp a.eval o).run P w=.ok (.enter g (args.toList.map a.eval++vs).toArray) w:=by
    obtain⟨dst,op,ty,pos,after,guard⟩:=o;simp only at eT;subst eT;have T9:fn.body.isNone=false:=by simp[hb]
    have hn:(fn.name== "runtime.NumGoroutine")=false:=by simpa using J6
    have HZ:args.map a.eval++vs.toArray=(args.toList.map a.eval++vs).toArray:=by
     apply Array.ext';simp
    simp only[execOp,resolve,he,Deferred.ofValue,Sem.run_bind,Sem.run_pure,Result.andThen_ok,invoke,callFunc,run_program,TZ,hn,T9,Bool.false_eq_true,if_false,Array.empty_append,HZ]
   unfold Oper.wp;rw[jc,Oper.upon_enter];refine hcall.mono fun e w' ⟨v,β',Z',he,hn,hv,cZ⟩=>?_;subst he;refine K v w' β' Z' hn hv ?_;intro he;simp only[dL,eT] at he
   cases f with
   |func g'=>
    simp only[Fr.ev] at hev;cases hev;exact cZ (by simpa using he)
   |_=>simp at he
  ·cases hs
 ·rename_i op eT;obtain⟨v,w',β',hd,hn,hv,hq⟩:=Ji ok h hf (o:=o) hs;have hK:next (a.put o.dst v) w':=K v w' β' Z hn hv hq;unfold Oper.wp
  rcases hd with hd|⟨hd,rfl⟩
  ·rw[hd,Oper.upon_value];exact hK
  ·rw[hd,Oper.upon_skip];exact hK
omit ok dg in
theorem oh {w:World} {x:X} {ops:Array Oper} {fr:Fr} {a:Act} (hf:l6 w x fr a.tmps) {o:Oper} {b:Bool} (h:av ops fr o=some b):Region.wanted o (yielded ops a.tmps)=b:=by
 unfold av at h;unfold Region.wanted
 split at h
 ·rename_i hg;rw[hg];cases h;rfl
 ·rename_i j want hg;rw[hg]
  split at h
  ·cases h
  ·rename_i t ht;have hv:=hf t;show(yielded ops a.tmps j==some want)=b
   have hy:∀u,a.tmps[t]?=u→yielded ops a.tmps j=match u with|some (.bool b)=>some b|_=>none:=by
    intro u hu;simp only[yielded,ht,Option.bind_some,hu]
    cases u with
    |none=>rfl
    |some v=>cases v<;>rfl
   split at h
   ·rename_i b' hb;rw[hb] at hv;have hv:=c8 hv;cases h
    have:a.tmps[t]?=some (.bool b'):=by
     rw[Array.getD_eq_getD_getElem?] at hv
     cases CT:a.tmps[t]? with
     |none=>rw[CT] at hv;simp[undef] at hv
     |some v=>rw[CT] at hv;simp at hv;rw[hv]
    rw[hy _ this];cases b'<;>cases want<;>rfl
   ·rename_i ds hb;rw[hb] at hv;obtain⟨vs,hv,_⟩:=ta hv;cases h;rw[Array.getD_eq_getD_getElem?] at hv
    cases CT:a.tmps[t]? with
    |none=>rw[hy _ CT];cases want<;>rfl
    |some v=>rw[CT] at hv;simp at hv;rw[hv] at CT;rw[hy _ CT];cases want<;>rfl
   ·cases h
omit ok dg in
theorem jn (a:Act) (dst:Option Nat) (v:Value):(a.put dst v).tmps.size=a.tmps.size:=by
 cases dst<;>simp[Act.put]
omit ok dg in
theorem put_defers (a:Act) (dst:Option Nat) (v:Value):(a.put dst v).defers=a.defers:=by
 cases dst<;>simp[Act.put]
def sN (ops:List Oper) (n:Nat):Prop:=∀o∈ops,∀t,o.dst=some t→t<n
theorem xt {ops:Array Oper} {Q:Exit→Act→World→Prop}:∀(l:List Oper) (i:Nat) (fr ax:Fr) (st ab:St) (β:Nat→Option (Nat×Nat)) (Z:Nat→Prop) (a:Act) (w:World),(∀j,l[j]?=ops[i+j]?)→
  gE pv cf ops l fr st=some (ax,ab)→eP w st β Z→l6 w (st.x β Z) fr a.tmps→sN l a.tmps.size→
  (∀a' w' β' Z',Nx w st β Z w' ab β' Z'→l6 w' (ab.x β' Z') ax a'.tmps→a'.defers=a.defers→a'.tmps.size=a.tmps.size→Q .normal a' w')→wpOps P ops Q (List.range' i l.length) a w
 |[],i,fr,ax,st,ab,β,Z,a,w,_,hs,h,hf,_,K=>by
  simp only[gE] at hs;cases hs;exact K a w β Z (Nx.same h) hf rfl rfl
 |o::l,i,fr,ax,st,ab,β,Z,a,w,hl,hs,h,hf,hd,K=>by
  have ho:ops[i]?=some o:=by have:=hl 0;simpa using this.symm
  have hl':∀j,l[j]?=ops[i+1+j]?:=fun j=>by have:=hl (j+1);simpa[Nat.add_assoc,Nat.add_comm 1 j] using this
  have LX:sN l a.tmps.size:=fun p hp=>hd p (List.mem_cons_of_mem _ hp);simp only[List.length_cons,List.range'_succ,wpOps,ho];simp only[gE] at hs
  split at hs
  ·rename_i hw;rw[oh hf hw];simp only[if_true];left
   split at hs
   ·rename_i d st1 eT;refine ox ok dg h hf eT fun v w' β' Z' hn hv _=>xt l (i+1) _ ax st1 ab β' Z' _ w' hl' hs hn.sim (Ca (hf.mono hn.keeps) hv o.dst fun t ht=>hd o (List.mem_cons_self ..) t ht) (by rw[jn];exact LX) fun a' I6 rv Es C_ ru Od hsz=>?_;exact K a' I6 rv Es (hn.trans C_) ru (by rw[Od,put_defers]) (by rw[hsz,jn])
   ·cases hs
  ·rename_i hw;rw[oh hf hw];simp only[Bool.false_eq_true,if_false];refine xt l (i+1) _ ax st ab β Z _ w hl' hs h (Ca hf (.im _ _ (.tup [] [] rfl (by simp))) o.dst fun t ht=>hd o (List.mem_cons_self ..) t ht) (by rw[jn];exact LX) fun a' I6 rv Es C_ ru Od hsz=>?_;exact K a' I6 rv Es C_ ru (by rw[Od,put_defers]) (by rw[hsz,jn])
  ·cases hs
end
end Go.V
namespace Go.V
open Go.RowKit
theorem xC {fr ax:Fr} {l:List Operand} (h:∀x∈l,fr.ev x=ax.ev x):l.map fr.ev=l.map ax.ev:=List.map_congr_left h
theorem u9 {fr ax:Fr} {l:List (Nat×Operand)} (h:∀p∈l,fr.ev p.2=ax.ev p.2):l.map (fun p=>(p.1,fr.ev p.2))=l.map (fun p=>(p.1,ax.ev p.2)):=
 List.map_congr_left fun p hp=>by rw[h p hp]
theorem Ax {pv:Pv} {fr ax:Fr} {st:St} {op:Op} {ty:TypeId} (h:∀x∈op.operands.toList,fr.ev x=ax.ev x):cG pv fr st op ty=cG pv ax st op ty:=by
 unfold cG
 cases op with
 |build t ps=>simp only;rw[u9 fun p hp=>h p.2 (by simp[Op.operands];exact⟨p.1,by simpa using hp⟩)]
 |buildSlice t len ps=>simp only;rw[u9 fun p hp=>h p.2 (by simp[Op.operands];exact⟨p.1,by simpa using hp⟩)]
 |makeFunc f first captured=>
  cases f<;>simp only
  have:captured.toList.map fr.ev=captured.toList.map ax.ev:=xC fun x hx=>h x (by simp[Op.operands];right;simpa using hx);rw[this]
 |slice t x lo hi mx=>
  cases mx<;>simp only
  have hx:fr.ev x=ax.ev x:=h x (by simp[Op.operands])
  have wM:lo.map fr.ev=lo.map ax.ev:=by
   cases lo with
   |none=>rfl
   |some l=>simp only[Option.map_some];rw[h l (by simp[Op.operands])]
  have A2:hi.map fr.ev=hi.map ax.ev:=by
   cases hi with
   |none=>rfl
   |some l=>simp only[Option.map_some];rw[h l (by simp[Op.operands])]
  rw[hx,wM,A2]
 |makeMap t r=>
  cases r with
  |none=>rfl
  |some x=>simp only[Option.map_some];rw[h x (by simp[Op.operands])]
 |lookup t x i ok=>
  simp only[Op.operands,List.mem_cons,List.not_mem_nil,or_false,forall_eq_or_imp,forall_eq,List.toList_toArray] at h;cases ok
  ·simp only[h]
  ·rfl
 |call c=>
  obtain⟨callee,args,l9⟩:=c;cases callee<;>simp only
  have:args.toList.map fr.ev=args.toList.map ax.ev:=xC fun x hx=>h x (by simp[Op.operands,Call.operands];simpa using hx);rw[this]
 |_=>simp only[Op.operands,List.mem_cons,List.not_mem_nil,or_false,forall_eq_or_imp,forall_eq,List.toList_toArray] at h<;>simp only[h]
def tmpsOf:List Operand→List Nat
 |[]=>[]
 | .tmp t::l=>t::tmpsOf l
 |_::l=>tmpsOf l
theorem kE {t:Nat}:∀{l:List Operand},.tmp t∈l→t∈tmpsOf l
 |x::l,h=>by
  rcases List.mem_cons.1 h with rfl|h
  ·simp[tmpsOf]
  ·have:=kE h;cases x<;>simp[tmpsOf,this]
def looks (ops:Array Oper) (o:Oper):List Nat:=
  (match o.guard with
   |some (j,_)=>match(ops[j]?).bind (·.dst) with
     |some t=>[t]
     |none=>[]
   |none=>[])++tmpsOf o.op.operands.toList
theorem wa {fr ax:Fr} {ts:List Nat} (h:∀t∈ts,fr.get t=ax.get t) {x:Operand} (hx:∀t,x=.tmp t→t∈ts):fr.ev x=ax.ev x:=by
 cases x<;>first|rfl|exact h _ (hx _ rfl)
theorem vd {pv:Pv} {cf:df} {ops:Array Oper} {fr ax:Fr} {st:St} {o:Oper} (h:∀t∈looks ops o,fr.get t=ax.get t):dG pv cf fr st o=dG pv cf ax st o:=by
 have he:∀x∈o.op.operands.toList,fr.ev x=ax.ev x:=fun x hx=>wa h fun t e=>by subst e;exact List.mem_append_right _ (kE hx)
 unfold dG
 split
 ·rename_i f args l9 eT;rw[eT] at he;have hf:fr.ev f=ax.ev f:=he f (by simp[Op.operands,Call.operands]);have ha:args.toList.map fr.ev=args.toList.map ax.ev:=xC fun x hx=>he x (by simp[Op.operands,Call.operands];right;simpa using hx);rw[hf,ha]
 ·exact Ax he
theorem ux {ops:Array Oper} {fr ax:Fr} {o:Oper} (h:∀t∈looks ops o,fr.get t=ax.get t):av ops fr o=av ops ax o:=by
 unfold av
 cases hg:o.guard with
 |none=>rfl
 |some p=>
  obtain⟨j,want⟩:=p;simp only
  cases ht:(ops[j]?).bind (·.dst) with
  |none=>rfl
  |some t=>
   simp only;rw[h t (by simp[looks,hg,ht])]
def Aw (o:Oper):Bool:=
 match o.op with
 | .move _| .assign _| .pick _ _ _| .alloc _| .box _ _| .build _ _| .buildSlice _ _ _| .nilCheck _| .binOp _ _ _ _ _| .unOp _ _ _| .makeFunc _ _ _| .makeSlice _ _ _
 | .fieldAddr _ _ _| .field _ _ _| .index _ _ _| .extract _ _=>true
 | .call ⟨.builtin b,_,_⟩=>match b with
  | .len| .min| .max=>true
  |_=>false
 |_=>false
theorem yx {pv:Pv} {b:Builtin} {l9:List TypeId} {args:List D} {st ab:St} {d:D} (hb:b=.len∨b=.min∨b=.max) (h:aT pv b l9 args st=some (d,ab)) (T:St):ab=st∧aT pv b l9 args T=some (d,T):=by
 rcases hb with rfl|rfl|rfl
 ·match args,h with
  |[x],h=>
   simp only[aT] at h⊢
   split at h
   ·split at h
    ·split at h
     ·cases h;exact⟨rfl,rfl⟩
     ·cases h
    ·cases x with
     |str s=>cases h
     |_=>
      simp only at h⊢
      split at h
      ·rename_i n hn;cases h;exact⟨rfl,by simp only[hn]⟩
      ·cases h
    ·cases h;exact⟨rfl,rfl⟩
    ·cases h
   ·cases h
  |[],h=>simp[aT] at h
  |_::_::_,h=>simp[aT] at h
 ·match args,h with
  |[],h=>simp[aT] at h
  |x::l,h=>
   simp only[aT] at h⊢;obtain⟨r,hz,hs⟩:=Option.map_eq_some_iff.1 h;cases hs;exact⟨rfl,by rw[hz];rfl⟩
 ·match args,h with
  |[],h=>simp[aT] at h
  |x::l,h=>
   simp only[aT] at h⊢;obtain⟨r,hz,hs⟩:=Option.map_eq_some_iff.1 h;cases hs;exact⟨rfl,by rw[hz];rfl⟩
theorem Co {pv:Pv} {fr:Fr} {st ab:St} {o:Oper} {d:D} (hp:Aw o=true) (h:cG pv fr st o.op o.type=some (d,ab)) (T:St) (hT:T.bs.length=st.bs.length):
  ∃T',cG pv fr T o.op o.type=some (d,T')∧((ab=st∧T'=T)∨∃ar cs,ab=st.push (.mem 0 ar cs)∧T'=T.push (.mem 0 ar cs)):=by
 obtain⟨dst,op,ty,pos,after,guard⟩:=o;simp only at h⊢;cases op<;>simp only[Aw,Bool.false_eq_true] at hp<;>simp only[cG] at h⊢
 case move x=>cases h;exact⟨T,rfl,.inl ⟨rfl,rfl⟩⟩
 case assign x=>cases h;exact⟨T,rfl,.inl ⟨rfl,rfl⟩⟩
 case pick c p q=>split at h<;>first|(cases h;exact⟨T,rfl,.inl ⟨rfl,rfl⟩⟩)|cases h
 case alloc e=>
  obtain⟨cs,hz,hs⟩:=Option.map_eq_some_iff.1 h;cases hs;exact⟨_,by rw[hz,hT];rfl,.inr ⟨_,_,rfl,rfl⟩⟩
 case box e x=>
  obtain⟨cs,hz,hs⟩:=Option.map_eq_some_iff.1 h;cases hs;exact⟨_,by rw[hz,hT];rfl,.inr ⟨_,_,rfl,rfl⟩⟩
 case build t ps=>
  obtain⟨r,hz,hs⟩:=Option.map_eq_some_iff.1 h;cases hs;exact⟨_,by rw[hz];rfl,.inl ⟨rfl,rfl⟩⟩
 case buildSlice t len ps=>
  unfold fI at h⊢
  split at h
  ·rename_i e ht;obtain⟨s,hsz,h⟩:=Option.bind_eq_some_iff.1 h;obtain⟨z,hz,h⟩:=Option.bind_eq_some_iff.1 h
   split at h
   ·rename_i uo;obtain⟨cs,hf,hs⟩:=Option.map_eq_some_iff.1 h;cases hs;exact⟨_,by simp only[hsz,hz,Option.bind_some,uo,and_self,if_true,hf,Option.map_some,hT],.inr ⟨_,_,rfl,rfl⟩⟩
   ·cases h
  ·cases h
 case nilCheck x=>split at h<;>first|(cases h;exact⟨T,rfl,.inl ⟨rfl,rfl⟩⟩)|cases h
 case binOp a b c d e=>
  obtain⟨r,hz,hs⟩:=Option.map_eq_some_iff.1 h;cases hs;exact⟨_,by rw[hz];rfl,.inl ⟨rfl,rfl⟩⟩
 case unOp a b c=>
  obtain⟨r,hz,hs⟩:=Option.map_eq_some_iff.1 h;cases hs;exact⟨_,by rw[hz];rfl,.inl ⟨rfl,rfl⟩⟩
 case makeFunc f first captured=>
  cases f<;>simp only at h⊢<;>first|cases h|skip
  split at h
  ·rename_i Km;cases h;exact⟨T,by rw[if_pos Km],.inl ⟨rfl,rfl⟩⟩
  ·cases h
 case makeSlice t l c=>
  unfold fe at h⊢
  split at h
  ·rename_i e k l k' c ht hl hc;obtain⟨i,hi,h⟩:=Option.bind_eq_some_iff.1 h;obtain⟨z,hz,h⟩:=Option.bind_eq_some_iff.1 h
   split at h
   ·rename_i uo;cases h;simp only[hi,hz,Option.bind_some];rw[if_pos uo,hT];exact⟨_,rfl,.inr ⟨_,_,rfl,rfl⟩⟩
   ·cases h
  ·cases h
 case fieldAddr a b c=>
  obtain⟨r,hz,hs⟩:=Option.map_eq_some_iff.1 h;cases hs;exact⟨_,by rw[hz];rfl,.inl ⟨rfl,rfl⟩⟩
 case field a b c=>
  obtain⟨r,hz,hs⟩:=Option.map_eq_some_iff.1 h;cases hs;exact⟨_,by rw[hz];rfl,.inl ⟨rfl,rfl⟩⟩
 case index a b c=>
  obtain⟨r,hz,hs⟩:=Option.map_eq_some_iff.1 h;cases hs;exact⟨_,by rw[hz];rfl,.inl ⟨rfl,rfl⟩⟩
 case extract t i=>
  split at h
  ·obtain⟨r,hz,hs⟩:=Option.map_eq_some_iff.1 h;cases hs;exact⟨_,by rw[hz];rfl,.inl ⟨rfl,rfl⟩⟩
  ·cases h
 case call c=>
  obtain⟨callee,args,l9⟩:=c;cases callee<;>simp only[Bool.false_eq_true] at hp h⊢
  rename_i b;have hb:b=.len∨b=.min∨b=.max:=by cases b<;>simp at hp⊢
  obtain⟨rfl,h2⟩:=yx hb h T;exact⟨T,h2,.inl ⟨rfl,rfl⟩⟩
theorem kX {st ab:St} {k aq off:Nat} {cs:List D} (h:st.wr k aq off cs=some ab):cX st ab:=by
 unfold St.wr at h
 split at h
 ·split at h
  ·rename_i a c hm hc;cases h;exact cX.set st k _ _ (cW hc.2) (tG hm) ((zC hc.2).imp id fun hr d hd=>(nI _ _ _ hd).imp id fun hd=>Nat.le_trans (bh hd) (by rw[rW (tG hm)] at hr;exact hr))
  ·cases h
 ·cases h
theorem wC {pv:Pv} {l9:List TypeId} {s x d:D} {st ab:St} (h:gd pv l9 s x st=some (d,ab)):cX st ab:=by
 unfold gd at h
 split at h
 ·split at h
  ·split at h
   ·cases h
   ·obtain⟨i,hi,h⟩:=Option.bind_eq_some_iff.1 h;obtain⟨z,hz,h⟩:=Option.bind_eq_some_iff.1 h;obtain⟨⟨n,ys⟩,je,h⟩:=Option.bind_eq_some_iff.1 h;dsimp only at h
    split at h
    ·cases h
    ·cases s with
     |nul=>
      simp only at h
      split at h
      ·cases h;exact .refl _
      ·split at h
       ·cases h;exact .push _ _
       ·cases h
     |win k aq off len sz=>
      simp only at h
      split at h
      ·split at h
       ·cases h
       ·split at h
        ·cases h;exact .refl _
        ·split at h
         ·rename_i hc;cases h;have hbk:=tG (by assumption);refine cX.set st k _ _ (cW hc.2) hbk ((zC hc.2).imp id fun hr d hd=>?_);rw[rW hbk] at hr
          rcases List.mem_append.1 hd with hd|hd
          ·exact .inl (List.mem_of_mem_take (List.mem_of_mem_drop hd))
          ·exact .inr (Nat.le_trans (bh hd) hr)
         ·cases h
      ·cases h
     |_=>cases h
  ·cases h
 ·cases h
theorem Bk {pv:Pv} {l9:List TypeId} {s x d:D} {st ab:St} (h:sQ pv l9 s x st=some (d,ab)):cX st ab:=by
 unfold sQ at h
 split at h
 ·split at h
  ·obtain⟨i,hi,h⟩:=Option.bind_eq_some_iff.1 h;obtain⟨⟨n,ys⟩,je,h⟩:=Option.bind_eq_some_iff.1 h;dsimp only at h
   split at h
   ·cases h
   ·cases s with
    |nul=>cases h;exact .refl _
    |win k aq off len sz=>
     simp only at h
     split at h
     ·cases h
     ·obtain⟨r,hz,hs⟩:=Option.map_eq_some_iff.1 h;cases hs;exact kX hz
    |_=>cases h
  ·cases h
 ·cases h
theorem yv {pv:Pv} {l9:List TypeId} {s d:D} {st ab:St} (h:jK pv l9 s st=some (d,ab)):cX st ab:=by
 unfold jK at h
 split at h
 ·split at h
  ·cases s with
   |nul=>cases h;exact .refl _
   |win k aq off len sz=>
    simp only at h;obtain⟨i,hi,h⟩:=Option.bind_eq_some_iff.1 h
    split at h
    ·obtain⟨r,hz,hs⟩:=Option.map_eq_some_iff.1 h;cases hs;exact kX hz
    ·cases h
   |_=>cases h
  ·cases h
 ·cases h
theorem AD {x d:D} {b:Bool} {st ab:St} (h:sk x b st=some (d,ab)):cX st ab:=by
 unfold sk at h
 split at h
 ·split at h
  ·split at h
   ·split at h
    ·rename_i hc;cases h;exact cX.set st _ _ _ (cW hc) (by assumption) (.inr fun d hd=>by simp[fV.cells] at hd)
    ·cases h
   ·cases h;exact .refl _
  ·cases h
 ·cases h
theorem nJ {pv:Pv} {t:TypeId} {m key v:D} {st ab:St} (h:gL pv t m key v st=some ab):cX st ab:=by
 unfold gL at h
 split at h
 ·split at h
  ·rename_i hb
   split at h
   ·rename_i hc
    split at h
    ·cases h;exact cX.set st _ _ _ (cW hc) hb (.inr fun d hd=>by simp[fV.cells] at hd)
    ·cases h;exact cX.set st _ _ _ (cW hc) hb (.inr fun d hd=>by simp[fV.cells] at hd)
    ·cases h
   ·cases h
  ·cases h
 ·cases h
theorem Cp {pv:Pv} {fr:Fr} {st ab:St} {o:Oper} {d:D} (h:cG pv fr st o.op o.type=some (d,ab)):cX st ab∧(dL pv o=false→l7 st ab):=by
 by_cases hp:Aw o=true
 ·obtain⟨T',_,⟨rfl,_⟩|⟨ar,cs,rfl,_⟩⟩:=Co hp h st rfl
  ·exact⟨.refl _,fun _=>.rfl _⟩
  ·exact⟨.push _ _,fun _=>.push _ _⟩
 ·obtain⟨dst,op,ty,pos,after,guard⟩:=o;simp only at h
  have ad:l7 st ab→cX st ab∧(dL pv ⟨dst,op,ty,pos,after,guard⟩=false→l7 st ab):=fun ha=>⟨ha.goes,fun _=>ha⟩
  cases op<;>simp only[Aw,not_true_eq_false,Bool.false_eq_true,not_false_eq_true] at hp<;>simp only[cG] at h
  case load t a=>obtain⟨r,hz,hs⟩:=Option.map_eq_some_iff.1 h;cases hs;exact ad (.rfl _)
  case store t a x=>
   obtain⟨r,hz,hs⟩:=Option.map_eq_some_iff.1 h;cases hs;refine⟨?_,fun e=>by simp[dL] at e⟩;unfold jk at hz
   split at hz
   ·split at hz
    ·exact kX hz
    ·cases hz
   ·cases hz
  case convert s t x=>
   refine ad ?_;unfold wk at h
   split at h
   ·cases h;exact .rfl _
   ·cases h;exact .rfl _
   ·cases h;exact .rfl _
   ·split at h
    ·split at h
     ·cases h;exact .push _ _
     ·cases h
    ·cases h
   ·split at h
    ·split at h
     ·cases h;exact .rfl _
     ·cases h
    ·cases h
   ·split at h
    ·split at h
     ·cases h
     ·split at h
      ·obtain⟨r,hz,hs⟩:=Option.map_eq_some_iff.1 h;cases hs;exact .rfl _
      ·cases h
    ·cases h
   ·cases h
  case slice t x lo hi mx=>
   cases mx<;>simp only at h<;>first|cases h|skip
   obtain⟨r,hz,hs⟩:=Option.map_eq_some_iff.1 h;cases hs;exact ad (.rfl _)
  case indexAddr t x i=>obtain⟨r,hz,hs⟩:=Option.map_eq_some_iff.1 h;cases hs;exact ad (.rfl _)
  case range t x=>
   refine ad ?_;unfold tp at h
   split at h
   ·cases h;exact .push _ _
   ·cases h
  case next it s=>exact⟨AD h,fun e=>by simp[dL] at e⟩
  case makeMap t r=>
   refine ad ?_;unfold lC at h
   split at h
   ·cases h;exact .push _ _
   ·split at h
    ·cases h;exact .push _ _
    ·cases h
   ·cases h
  case insert t m k x=>
   obtain⟨r,hz,hs⟩:=Option.map_eq_some_iff.1 h;cases hs;exact⟨nJ hz,fun e=>by simp[dL] at e⟩
  case mapUpdate t m k x=>
   obtain⟨r,hz,hs⟩:=Option.map_eq_some_iff.1 h;cases hs;exact⟨nJ hz,fun e=>by simp[dL] at e⟩
  case lookup t x i ok=>
   cases ok<;>simp only at h<;>first|cases h|skip
   obtain⟨r,hz,hs⟩:=Option.map_eq_some_iff.1 h;cases hs;exact ad (.rfl _)
  case call c=>
   obtain⟨callee,args,l9⟩:=c
   cases callee<;>simp only at h<;>first|cases h|skip
   rename_i b;unfold aT at h;refine⟨?_,fun e=>?_⟩
   ·split at h
    ·exact absurd hp (by simp)
    ·exact wC h
    ·exact Bk h
    ·exact yv h
    ·exact absurd hp (by simp)
    ·exact absurd hp (by simp)
    ·cases h
   ·cases b<;>simp[dL] at e<;>simp at hp
  all_goals cases h
theorem o9 {P:Program} {pv:Pv} {cf:df} (dg:gf P pv cf) {fr:Fr} {st ab:St} {o:Oper} {d:D} (h:dG pv cf fr st o=some (d,ab)):cX st ab∧(dL pv o=false→l7 st ab):=by
 unfold dG at h
 split at h
 ·rename_i f args l9 eT
  split at h
  ·rename_i g hU hev;refine⟨dg.len _ _ _ _ _ h,fun e=>?_⟩;simp only[dL,eT] at e
   cases f with
   |func g'=>
    simp only[Fr.ev] at hev;cases hev;exact dg.ro _ _ _ _ _ h (by simpa using e)
   |_=>simp at e
  ·cases h
 ·exact Cp h
end Go.V
namespace Go.V
open Go.RowKit
def mG (acc:List Nat):List Edge→Nat
 |[]=>0
 |e::l=>match Region.binds .any e with
  |true=>mG acc l|||(1<<<e.on)|||acc.getD e.on 0
  |false=>mG acc l
def CF:List Oper→List Nat→List Nat
 |[],acc=>acc
 |o::l,acc=>CF l (acc++[mG acc o.after.toList])
def t_ (d:Option Nat) (l:List Nat):Bool:=
 match d with
 |some t=>l.contains t
 |none=>false
def yW:Option Nat→Option Nat→Bool
 |some a,some b=>a==b
 |_,_=>false
def Ef (o:Oper):Bool:=(fz o.op).isSome
def jg (pv:Pv) (ops:Array Oper) (b:Bool) (x y:Oper):Bool:=
 t_ x.dst (looks ops y)||t_ y.dst (looks ops x)||yW x.dst y.dst||(dL pv x &&!Aw y &&!(Ef y &&b))||(dL pv y &&!Aw x &&!(Ef x &&b))
def listed (dy:List (Nat×Nat)) (i j:Nat):Bool:=dy.any fun p=>Nat.beq p.1 i &&Nat.beq p.2 j
def EZ (pv:Pv) (ops:Array Oper) (dy:List (Nat×Nat)) (ms:List Nat) (j:Nat):Bool:=
 match ops[j]? with
 |some y=>(y.after.toList.all fun e=>!Region.binds .any e||Nat.blt e.on j) &&(List.range j).all fun i=>match ops[i]? with
  |some x=>!jg pv ops (listed dy i j) x y||(ms.getD j 0).testBit i
  |none=>true
 |none=>true
def jr (pv:Pv) (ops:Array Oper) (dy:List (Nat×Nat)):Bool:=(List.range ops.size).all (EZ pv ops dy (CF ops.toList []))
def jP (ops:Array Oper) (E:Nat→Bool):Prop:=∀k o,E k=true→ops[k]?=some o→∀e∈o.after.toList,Region.binds .any e=true→E e.on=true
def Eb (E:Nat→Bool) (acc:List Nat):Prop:=∀k i,(acc.getD k 0).testBit i=true→E k=true→E i=true
theorem tH {E:Nat→Bool} {acc:List Nat} (ha:Eb E acc) {i:Nat}:∀(l:List Edge),(mG acc l).testBit i=true→(∀e∈l,Region.binds .any e=true→E e.on=true)→E i=true
 |[],h,_=>by simp[mG] at h
 |e::l,h,he=>by
  have n9:∀e∈l,Region.binds .any e=true→E e.on=true:=fun e h=>he e (List.mem_cons_of_mem _ h);unfold mG at h
  cases hb:Region.binds .any e with
  |false=>rw[hb] at h;exact tH ha l h n9
  |true=>
   rw[hb] at h;simp only[Nat.testBit_or,Bool.or_eq_true] at h;have Qq:=he e (List.mem_cons_self ..) hb
   rcases h with(h|h)|h
   ·exact tH ha l h n9
   ·rw[Nat.one_shiftLeft,Nat.testBit_two_pow] at h;have:e.on=i:=by simpa using h
    rw[←this];exact Qq
   ·exact ha _ _ h Qq
theorem vx {E:Nat→Bool} {ops:Array Oper} (hc:jP ops E):∀(l:List Oper) (acc:List Nat),(∀j,l[j]?=ops[acc.length+j]?)→Eb E acc→Eb E (CF l acc)
 |[],acc,_,h=>h
 |o::l,acc,hl,h=>by
  have h0:=hl 0;simp only[List.getElem?_cons_zero,Nat.add_zero] at h0;refine vx hc l _ (fun j=>?_) fun k i hk hE=>?_
  ·have:=hl (j+1);simp only[List.getElem?_cons_succ] at this;rw[this];simp[Nat.add_assoc,Nat.add_comm 1 j]
  ·rcases Nat.lt_trichotomy k acc.length with hlt|heq|hgt
   ·simp only[List.getD_eq_getElem?_getD,List.getElem?_append_left hlt] at hk;exact h k i (by simpa only[List.getD_eq_getElem?_getD] using hk) hE
   ·subst heq;simp only[List.getD_eq_getElem?_getD] at hk;simp at hk;exact tH h _ hk (hc _ o hE h0.symm)
   ·simp only[List.getD_eq_getElem?_getD] at hk;rw[List.getElem?_eq_none (by simp;omega)] at hk;simp at hk
theorem j4 {pv:Pv} {ops:Array Oper} {dy:List (Nat×Nat)} (h:jr pv ops dy=true) {i j:Nat} {x y:Oper} (hij:i<j) (hx:ops[i]?=some x) (hy:ops[j]?=some y) (hc:jg pv ops (listed dy i j) x y=true) {E:Nat→Bool} (hE:jP ops E) (hj:E j=true):E i=true:=by
 have vQ:j<ops.size:=by
  rcases Nat.lt_or_ge j ops.size with h'|h'
  ·exact h'
  ·rw[Array.getElem?_eq_none h'] at hy;cases hy
 have h1:=List.all_eq_true.1 h j (List.mem_range.2 vQ);unfold EZ at h1;rw[hy] at h1;simp only[Bool.and_eq_true] at h1;have h2:=List.all_eq_true.1 h1.2 i (List.mem_range.2 hij);rw[hx] at h2;simp only[hc,Bool.not_true,Bool.false_or] at h2;exact vx hE ops.toList [] (fun j=>by simp) (fun k i hk _=>by simp at hk) j i h2 hj
theorem xu {pv:Pv} {ops:Array Oper} {dy:List (Nat×Nat)} (h:jr pv ops dy=true) {j:Nat} {y:Oper} (hy:ops[j]?=some y) {e:Edge} (he:e∈y.after.toList) (hb:Region.binds .any e=true):e.on<j:=by
 have vQ:j<ops.size:=by
  rcases Nat.lt_or_ge j ops.size with h'|h'
  ·exact h'
  ·rw[Array.getElem?_eq_none h'] at hy;cases hy
 have h1:=List.all_eq_true.1 h j (List.mem_range.2 vQ);unfold EZ at h1;rw[hy] at h1;simp only[Bool.and_eq_true] at h1;have:=List.all_eq_true.1 h1.1 e he;simp only[hb,Bool.not_true,Bool.false_or] at this;have:=Nat.le_of_ble_eq_true this;omega
structure Trace (pv:Pv) (cf:df) (ops:Array Oper) (l:List Oper) (F:Nat→Fr) (S:Nat→St) (dd:Nat→D):Prop where
 put:∀i o,l[i]?=some o→F (i+1)=(F i).putO o.dst (dd i)
 step:∀i o,l[i]?=some o→(av ops (F i) o=some true∧dG pv cf (F i) (S i) o=some (dd i,S (i+1)))∨(av ops (F i) o=some false∧dd i=.tup []∧S (i+1)=S i)
theorem trace {pv:Pv} {cf:df} {ops:Array Oper}:∀(l:List Oper) (fr:Fr) (st:St) (ax:Fr) (ab:St),gE pv cf ops l fr st=some (ax,ab)→
  ∃(F:Nat→Fr) (S:Nat→St) (dd:Nat→D),F 0=fr∧S 0=st∧F l.length=ax∧S l.length=ab∧Trace pv cf ops l F S dd
 |[],fr,st,ax,ab,h=>by
  simp only[gE] at h;cases h;exact⟨fun _=>fr,fun _=>st,fun _=>.junk,rfl,rfl,rfl,rfl,by intro i o h;simp at h,by intro i o h;simp at h⟩
 |o::l,fr,st,ax,ab,h=>by
  simp only[gE] at h
  have mk:∀(d:D) (st1:St),((av ops fr o=some true∧dG pv cf fr st o=some (d,st1))∨(av ops fr o=some false∧d=.tup []∧st1=st))→gE pv cf ops l (fr.putO o.dst d) st1=some (ax,ab)→
    ∃(F:Nat→Fr) (S:Nat→St) (dd:Nat→D),F 0=fr∧S 0=st∧F (o::l).length=ax∧S (o::l).length=ab∧Trace pv cf ops (o::l) F S dd:=by
   intro d st1 f_ hr;obtain⟨F,S,dd,h1,h2,h3,h4,h5⟩:=trace l _ _ _ _ hr;refine⟨fun|0=>fr|i+1=>F i,fun|0=>st|i+1=>S i,fun|0=>d|i+1=>dd i,rfl,rfl,h3,h4,⟨fun i p hp=>?_,fun i p hp=>?_⟩⟩
   ·cases i with
    |zero=>simp at hp;subst hp;exact h1
    |succ i=>exact h5.put i p (by simpa using hp)
   ·cases i with
    |zero=>simp at hp;subst hp;simp only[h2];exact f_
    |succ i=>exact h5.step i p (by simpa using hp)
  split at h
  ·rename_i hw
   split at h
   ·rename_i d st1 eT;exact mk d st1 (.inl ⟨hw,eT⟩) h
   ·cases h
  ·rename_i hw;exact mk _ st (.inr ⟨hw,rfl,rfl⟩) h
  ·cases h
def cL (ops:Array Oper) (E:Nat→Bool) (t:Nat):Nat→Option Nat
 |0=>none
 |k+1=>match ops[k]? with
  |some o=>if E k=true∧o.dst=some t then some k else cL ops E t k
  |none=>cL ops E t k
theorem ek (ops:Array Oper) (E:Nat→Bool) (t:Nat):∀(n:Nat),match cL ops E t n with
  |some j=>j<n∧E j=true∧(∃o,ops[j]?=some o∧o.dst=some t)∧∀i o,j<i→i<n→ops[i]?=some o→o.dst=some t→E i=false
  |none=>∀i o,i<n→ops[i]?=some o→o.dst=some t→E i=false
 |0=>by intro i o h;omega
 |n+1=>by
  have ih:=ek ops E t n;unfold cL
  cases hn:ops[n]? with
  |none=>
   simp only
   cases hl:cL ops E t n with
   |none=>
    rw[hl] at ih;intro i o hi ho hd
    rcases Nat.lt_or_ge i n with h'|h'
    ·exact ih i o h' ho hd
    ·have:i=n:=by omega
     subst this;rw[hn] at ho;cases ho
   |some j=>
    rw[hl] at ih;refine⟨by omega,ih.2.1,ih.2.2.1,fun i o hj hi ho hd=>?_⟩
    rcases Nat.lt_or_ge i n with h'|h'
    ·exact ih.2.2.2 i o hj h' ho hd
    ·have:i=n:=by omega
     subst this;rw[hn] at ho;cases ho
  |some p=>
   simp only
   by_cases hc:E n=true∧p.dst=some t
   ·rw[if_pos hc];exact⟨by omega,hc.1,⟨p,hn,hc.2⟩,fun i o hj hi=>by omega⟩
   ·rw[if_neg hc]
    have hE:∀o,ops[n]?=some o→o.dst=some t→E n=false:=by
     intro o ho hd;rw[hn] at ho;cases ho
     cases hq:E n with
     |false=>rfl
     |true=>exact absurd ⟨hq,hd⟩ hc
    cases hl:cL ops E t n with
    |none=>
     rw[hl] at ih;intro i o hi ho hd
     rcases Nat.lt_or_ge i n with h'|h'
     ·exact ih i o h' ho hd
     ·have:i=n:=by omega
      subst this;exact hE o ho hd
    |some j=>
     rw[hl] at ih;refine⟨by omega,ih.2.1,ih.2.2.1,fun i o hj hi ho hd=>?_⟩
     rcases Nat.lt_or_ge i n with h'|h'
     ·exact ih.2.2.2 i o hj h' ho hd
     ·have:i=n:=by omega
      subst this;exact hE o ho hd
theorem pz {ops:Array Oper} {E E':Nat→Bool} {t a b:Nat} (h1:∀i o,ops[i]?=some o→o.dst=some t→((i<a∧E i=true)↔(i<b∧E' i=true))):cL ops E t a=cL ops E' t b:=by
 have s1:=ek ops E t a;have s2:=ek ops E' t b
 cases h:cL ops E t a with
 |none=>
  rw[h] at s1
  cases h':cL ops E' t b with
  |none=>rfl
  |some j=>
   rw[h'] at s2;obtain⟨q1,q2,⟨o,q3,q4⟩,_⟩:=s2;obtain⟨r1,r2⟩:=(h1 j o q3 q4).2 ⟨q1,q2⟩;have:=s1 j o r1 q3 q4;rw[this] at r2;cases r2
 |some j=>
  rw[h] at s1;obtain⟨p1,p2,⟨o,p3,p4⟩,p5⟩:=s1;obtain⟨r1,r2⟩:=(h1 j o p3 p4).1 ⟨p1,p2⟩
  cases h':cL ops E' t b with
  |none=>
   rw[h'] at s2;have:=s2 j o r1 p3 p4;rw[this] at r2;cases r2
  |some k=>
   rw[h'] at s2;obtain⟨q1,q2,⟨o',q3,q4⟩,q5⟩:=s2;obtain⟨u1,u2⟩:=(h1 k o' q3 q4).2 ⟨q1,q2⟩
   congr 1
   rcases Nat.lt_trichotomy j k with hlt|heq|hgt
   ·have:=p5 k o' hlt u1 q3 q4;rw[this] at u2;cases u2
   ·exact heq
   ·have:=q5 j o hgt r1 p3 p4;rw[this] at r2;cases r2
def rG (fr:Fr) (t:Nat) (d:D):D:=if Nat.ble fr.n t=false∧fr.loc.length≤t then .junk else d
theorem Cb (fr:Fr) (dst:Option Nat) (d:D) (u:Nat):(fr.putO dst d).get u=if dst=some u then rG fr u d else fr.get u:=by
 cases dst with
 |none=>simp[Fr.putO]
 |some t=>
  simp only[Fr.putO,zt,rG]
  by_cases h:u=t
  ·subst h;simp
  ·rw[if_neg h,if_neg (by simpa using fun e=>h e.symm)]
theorem xj (fr:Fr) (dst:Option Nat) (d:D) (t:Nat) (e:D):rG (fr.putO dst d) t e=rG fr t e:=by
 cases dst with
 |none=>rfl
 |some u=>
  have h1:(fr.put u d).n=fr.n:=by unfold Fr.put;split<;>rfl
  have h2:(fr.put u d).loc.length=fr.loc.length:=by unfold Fr.put;split<;>simp
  simp only[Fr.putO,rG,h1,h2]
theorem ma {pv:Pv} {cf:df} {ops:Array Oper} {F:Nat→Fr} {S:Nat→St} {dd:Nat→D} (h:Trace pv cf ops ops.toList F S dd) (t:Nat):∀(i:Nat),i≤ops.size→
  (F i).get t=(match cL ops (fun _=>true) t i with|some j=>rG (F 0) t (dd j)|none=>(F 0).get t)∧∀e,rG (F i) t e=rG (F 0) t e
 |0,_=>⟨rfl,fun _=>rfl⟩
 |i+1,hi=>by
  obtain⟨IH,zf⟩:=ma h t i (by omega);have ho:ops[i]?=some ops[i]:=Array.getElem?_eq_getElem (by omega);have hp:=h.put i ops[i] (by simpa using ho);rw[hp];refine⟨?_,fun e=>by rw[xj];exact zf e⟩;rw[Cb];unfold cL;rw[ho];simp only[true_and]
  split
  ·exact zf _
  ·exact IH
def entry (j:Nat) (log:Log) (l:List Oper) (F:Nat→Fr) (S:Nat→St) (i:Nat):Option (Oper×Fr×St×St):=
 if i<j then log[j-1-i]? else(l[i-j]?).map fun x=>(x,F (i-j),S (i-j),S (i-j+1))
def yF (dy:List (Nat×Nat)) (ops:Array Oper) (j:Nat) (log:Log) (l:List Oper) (F:Nat→Fr) (S:Nat→St):Prop:=
 ∀q o,l[q]?=some o→av ops (F q) o=some true→∀i,i<j+q→listed dy i (j+q)=true→∃x fi si oo,entry j log l F S i=some (x,fi,si,oo)∧gp x fi si oo o (F q) (S q) (S (q+1))=true
theorem DR {dy:List (Nat×Nat)} {j:Nat} {log:Log} {o:Oper} {fr:Fr} {st ab:St} (h:DS dy j log o fr st ab=true) {i:Nat} (hi:i<j) (hl:listed dy i j=true):∃x fi si oo,log[j-1-i]?=some (x,fi,si,oo)∧gp x fi si oo o fr st ab=true:=by
 unfold listed at hl;obtain⟨p,hp,he⟩:=List.any_eq_true.1 hl;simp only[Bool.and_eq_true] at he;have h1:=Nat.eq_of_beq_eq_true he.1;have h2:=Nat.eq_of_beq_eq_true he.2;have:=List.all_eq_true.1 h p hp
 have hb:(Nat.beq p.2 j &&Nat.blt p.1 j)=true:=by
  rw[he.2,h1];simp[Nat.blt];omega
 rw[hb] at this;simp only[h1] at this
 split at this
 ·rename_i x fi si oo hx;exact⟨x,fi,si,oo,hx,this⟩
 ·cases this
theorem BK {pv:Pv} {cf:df} {ops:Array Oper} {dy:List (Nat×Nat)}:∀(l:List Oper) (j:Nat) (log:Log) (fr:Fr) (st:St) (ax:Fr) (ab:St),log.length=j→nV pv cf ops dy j log l fr st=some (ax,ab)→
  ∃(F:Nat→Fr) (S:Nat→St) (dd:Nat→D),F 0=fr∧S 0=st∧F l.length=ax∧S l.length=ab∧Trace pv cf ops l F S dd∧yF dy ops j log l F S
 |[],j,log,fr,st,ax,ab,hj,h=>by
  simp only[nV] at h;cases h;exact⟨fun _=>fr,fun _=>st,fun _=>.junk,rfl,rfl,rfl,rfl,⟨by intro i o h;simp at h,by intro i o h;simp at h⟩,by intro q o h;simp at h⟩
 |o::l,j,log,fr,st,ax,ab,hj,h=>by
  simp only[nV] at h
  have mk:∀(d:D) (st1:St),((av ops fr o=some true∧dG pv cf fr st o=some (d,st1)∧DS dy j log o fr st st1=true)∨(av ops fr o=some false∧d=.tup []∧st1=st))→nV pv cf ops dy (j+1) ((o,fr,st,st1)::log) l (fr.putO o.dst d) st1=some (ax,ab)→
    ∃(F:Nat→Fr) (S:Nat→St) (dd:Nat→D),F 0=fr∧S 0=st∧F (o::l).length=ax∧S (o::l).length=ab∧Trace pv cf ops (o::l) F S dd∧yF dy ops j log (o::l) F S:=by
   intro d st1 f_ hr;obtain⟨F,S,dd,h1,h2,h3,h4,h5,h6⟩:=BK l (j+1) _ _ _ _ _ (by simp[hj]) hr;refine⟨fun|0=>fr|i+1=>F i,fun|0=>st|i+1=>S i,fun|0=>d|i+1=>dd i,rfl,rfl,h3,h4,⟨fun i p hp=>?_,fun i p hp=>?_⟩,fun q p hp hw i hi hl=>?_⟩
   ·cases i with
    |zero=>simp at hp;subst hp;exact h1
    |succ i=>exact h5.put i p (by simpa using hp)
   ·cases i with
    |zero=>
     simp at hp;subst hp;simp only[h2]
     rcases f_ with⟨a,b,_⟩|h
     ·exact .inl ⟨a,b⟩
     ·exact .inr h
    |succ i=>exact h5.step i p (by simpa using hp)
   ·cases q with
    |zero=>
     simp at hp;subst hp;simp only at hw⊢
     rcases f_ with⟨_,_,hc⟩|⟨hn,_,_⟩
     ·obtain⟨x,fi,si,oo,e1,e2⟩:=DR hc (i:=i) (by omega) hl;refine⟨x,fi,si,oo,?_,by simp only[h2];exact e2⟩;unfold entry;rw[if_pos (by omega)];exact e1
     ·rw[hn] at hw;cases hw
    |succ q=>
     obtain⟨x,fi,si,oo,e1,e2⟩:=h6 q p (by simpa using hp) hw i (by omega) (by rw[show j+1+q=j+(q+1) by omega];exact hl);refine⟨x,fi,si,oo,?_,e2⟩;unfold entry at e1⊢
     rcases Nat.lt_trichotomy i j with h'|h'|h'
     ·rw[if_pos (by omega)] at e1;rw[if_pos h'];rw[show j+1-1-i=(j-1-i)+1 by omega] at e1
      simpa using e1
     ·subst h';rw[if_pos (by omega)] at e1;rw[if_neg (by omega)];simp at e1;simp[h2];exact e1
     ·rw[if_neg (by omega)] at e1;rw[if_neg (by omega)]
      obtain⟨m,hm⟩:∃m,i=j+1+m:=⟨i-(j+1),by omega⟩
      subst hm;rw[show j+1+m-(j+1)=m by omega] at e1;rw[show j+1+m-j=m+1 by omega]
      simpa using e1
  split at h
  ·rename_i hw
   split at h
   ·rename_i d st1 eT
    split at h
    ·rename_i hc;exact mk d st1 (.inl ⟨hw,eT,hc⟩) h
    ·cases h
   ·cases h
  ·rename_i hw;exact mk _ st (.inr ⟨hw,rfl,rfl⟩) h
  ·cases h
def Still (dy:List (Nat×Nat)) (ops:Array Oper) (F:Nat→Fr) (S:Nat→St):Prop:=
 ∀r q y a k x,ops[r]?=some y→fz y.op=some a→av ops (F r) y=some true→((F r).ev a).kP=some k→ops[q]?=some x→Ef x=false→av ops (F q) x=some true→(q<r→listed dy q r=true)→(r<q→listed dy r q=true)→
  (S (q+1)).bs[k]?=(S q).bs[k]?∧(r<q→kA (some k) (S r) (S (q+1))=true)
theorem BP {ops:Array Oper} {dy:List (Nat×Nat)} {F:Nat→Fr} {S:Nat→St} (hl:yF dy ops 0 [] ops.toList F S):Still dy ops F S:=by
 intro r q y a k x hy ha hw hk hx Hd Qk h1 h2
 have MD:fz x.op=none:=by
  unfold Ef at Hd
  cases h:fz x.op with
  |none=>rfl
  |some _=>rw[h] at Hd;cases Hd
 rcases Nat.lt_trichotomy q r with h'|h'|h'
 ·obtain⟨x',fi,si,oo,e1,e2⟩:=hl r y (by simpa using hy) hw q (by omega) (by rw[Nat.zero_add];exact h1 h');simp only[entry,Nat.not_lt_zero,if_false,Nat.sub_zero,Array.getElem?_toList,hx,Option.map_some,Option.some.injEq,Prod.mk.injEq] at e1;obtain⟨rfl,rfl,rfl,rfl⟩:=e1;simp only[gp,ha,hk] at e2;exact⟨rO e2,fun h=>by omega⟩
 ·subst h';rw[hx] at hy;cases hy;rw[MD] at ha;cases ha
 ·obtain⟨x',fi,si,oo,e1,e2⟩:=hl q x (by simpa using hx) Qk r (by omega) (by rw[Nat.zero_add];exact h2 h');simp only[entry,Nat.not_lt_zero,if_false,Nat.sub_zero,Array.getElem?_toList,hy,Option.map_some,Option.some.injEq,Prod.mk.injEq] at e1;obtain⟨rfl,rfl,rfl,rfl⟩:=e1;simp only[gp,MD,ha,hk,Bool.and_eq_true] at e2;exact⟨rO e2.1,fun _=>e2.2⟩
end Go.V
namespace Go.V
open Go.RowKit
theorem CE (p:Nat→Prop) (base:Nat):∀n,∃m,base≤m∧(∀j,j<n→p j→j+1≤m)∧(m=base∨∃j,j<n∧p j∧m=j+1)
 |0=>⟨base,Nat.le_refl _,fun _ h=>by omega,.inl rfl⟩
 |n+1=>by
  obtain⟨m,h1,h2,h3⟩:=CE p base n
  by_cases hp:p n
  ·by_cases hm:n+1≤m
   ·refine⟨m,h1,fun j hj LQ=>?_,?_⟩
    ·rcases Nat.lt_or_ge j n with h'|h'
     ·exact h2 j h' LQ
     ·have:j=n:=by omega
      subst this;exact hm
    ·rcases h3 with h3|⟨j,q1,q2,q3⟩
     ·exact .inl h3
     ·exact .inr ⟨j,by omega,q2,q3⟩
   ·refine⟨n+1,by omega,fun j hj _=>by omega,.inr ⟨n,by omega,hp,rfl⟩⟩
  ·refine⟨m,h1,fun j hj LQ=>?_,?_⟩
   ·rcases Nat.lt_or_ge j n with h'|h'
    ·exact h2 j h' LQ
    ·have:j=n:=by omega
     subst this;exact absurd LQ hp
   ·rcases h3 with h3|⟨j,q1,q2,q3⟩
    ·exact .inl h3
    ·exact .inr ⟨j,by omega,q2,q3⟩
def dh (pv:Pv) (ops:Array Oper) (F:Nat→Fr) (i:Nat):Prop:=∃o,ops[i]?=some o∧dL pv o=true∧av ops (F i) o=some true
def Hs (S:Nat→St) (sg:Nat→Nat) (k:Nat):fV:=((S (sg k)).bs[k]?).getD .dead
def Xm (S:Nat→St) (sg:Nat→Nat) (β:Nat→Option (Nat×Nat)) (Z:Nat→Prop) (m:Nat):X:=⟨fun k=>bV (Hs S sg k),fun k=>if k<(S m).bs.length then β k else none,Z⟩
def IB (ops:Array Oper) (E:Nat→Bool) (t:Nat):Nat:=
 match cL ops E t ops.size with
 |some j=>j+1
 |none=>0
def val (ops:Array Oper) (F:Nat→Fr) (dd:Nat→D) (E:Nat→Bool) (t:Nat):D:=
 match cL ops E t ops.size with
 |some j=>rG (F 0) t (dd j)
 |none=>(F 0).get t
structure DI (pv:Pv) (ops:Array Oper) (F:Nat→Fr) (S:Nat→St) (dd:Nat→D) (a0:Act) (w0:World) (β0:Nat→Option (Nat×Nat)) (Z0:Nat→Prop)
  (E:Nat→Bool) (a:Act) (w:World) (β:Nat→Option (Nat×Nat)) (Z:Nat→Prop) (sg:Nat→Nat):Prop where
 size:a.tmps.size=a0.tmps.size
 defers:a.defers=a0.defers
 clo:jP ops E
 bnd:∀k,E k=true→k<ops.size
 dom:∀k p,β k=some p→k<(S (sg k)).bs.length∧sg k≤ops.size∧(sg k=0∨∃j,E j=true∧sg k=j+1∧(dh pv ops F j∨(S j).bs.length≤k))
 cr:∀k p,β k=some p→∀i,i<ops.size→(S i).bs.length≤k→k<(S (i+1)).bs.length→E i=true
 sg2:∀k p,β k=some p→∀j,E j=true→dh pv ops F j→k<(S j).bs.length→j+1≤sg k
 ph:∀k,β k=none→∀j,E j=true→dh pv ops F j→k<(S j).bs.length→(S (j+1)).bs[k]?=(S j).bs[k]?
 lt:∀k b base,β k=some (b,base)→b<w.heap.size
 inj:∀k k' b x x',β k=some (b,x)→β k'=some (b,x')→k=k'
 zd:∀k b base,β k=some (b,base)→¬Z b
 zl:∀b,Z b→b<w.heap.size
 box:∀k b base,β k=some (b,base)→fU w (Xm S sg β Z (sg k)) b base (Hs S sg k)
 frame:∀t,VR w (Xm S sg β Z (IB ops E t)) (val ops F dd E t) (a.tmps.getD t undef)
 evo:zT (PZ (S 0) β0) w0 w
 keeps:cx w0 ((S 0).x β0 Z0) w (Xm S sg β Z ops.size)
 fresh:∀k b base,β k=some (b,base)→(∃ck,β0 k=some (b,ck))∨w0.heap.size≤b
 zfresh:∀b,Z b→Z0 b∨w0.heap.size≤b
 low:∀k,k<(S 0).ro→β k=β0 k
 vf:∀k,k<(S 0).bs.length→β0 k=none→β k=none
section
variable{pv:Pv} {P:Program} (ok:pv.Ok P) {cf:df} (dg:gf P pv cf) {ops:Array Oper} {F:Nat→Fr} {S:Nat→St} {dd:Nat→D} (ht:Trace pv cf ops ops.toList F S dd) {dy:List (Nat×Nat)} (lJ:jr pv ops dy=true)
include dg ht
theorem k_ (i:Nat) (hi:i<ops.size):cX (S i) (S (i+1))∧(¬dh pv ops F i→∀k,k<(S i).bs.length→(S (i+1)).bs[k]?=(S i).bs[k]?):=by
 have ho:ops[i]?=some ops[i]:=Array.getElem?_eq_getElem hi
 rcases ht.step i ops[i] (by simpa using ho) with⟨h1,h2⟩|⟨_,_,h3⟩
 ·obtain⟨g1,g2⟩:=o9 dg h2;refine⟨g1,fun hn k hk=>?_⟩
  have he:dL pv ops[i]=false:=by
   cases h:dL pv ops[i] with
   |false=>rfl
   |true=>exact absurd ⟨_,ho,h,h1⟩ hn
  obtain⟨l,h⟩:=g2 he;rw[h];simp only;rw[List.getElem?_append_left hk]
 ·rw[h3];exact⟨.refl _,fun _ _ _=>rfl⟩
theorem b_:∀(j i:Nat),i≤j→j≤ops.size→cX (S i) (S j)
 |0,i,h,_=>by
  have:i=0:=by omega
  subst this;exact .refl _
 |j+1,i,h,hj=>by
  rcases Nat.lt_or_ge i (j+1) with h'|h'
  ·exact(b_ j i (by omega) (by omega)).trans (k_ dg ht j (by omega)).1
  ·have:i=j+1:=by omega
   subst this;exact .refl _
theorem ia {i:Nat}:∀(j:Nat),i≤j→j≤ops.size→∀k,k<(S i).bs.length→(∀q,i≤q→q<j→¬dh pv ops F q∨(S (q+1)).bs[k]?=(S q).bs[k]?)→(S j).bs[k]?=(S i).bs[k]?
 |0,h,_,k,_,_=>by
  have:i=0:=by omega
  subst this;rfl
 |j+1,h,hj,k,hk,hq=>by
  rcases Nat.lt_or_ge i (j+1) with h'|h'
  ·have ih:=ia j (by omega) (by omega) k hk fun q h1 h2=>hq q h1 (by omega);have iQ:k<(S j).bs.length:=Nat.lt_of_lt_of_le hk (b_ dg ht j i (by omega) (by omega)).len
   rcases hq j (by omega) (by omega) with h1|h1
   ·exact((k_ dg ht j (by omega)).2 h1 k iQ).trans ih
   ·exact h1.trans ih
  ·have:i=j+1:=by omega
   subst this;rfl
theorem zS {w:World} {sg:Nat→Nat} {β:Nat→Option (Nat×Nat)} {Z:Nat→Prop} {m m':Nat} (h:m≤m') (h':m'≤ops.size):cx w (Xm S sg β Z m) w (Xm S sg β Z m'):=by
 have hl:=(b_ dg ht m' m h h').len
 have key:∀k p,(Xm S sg β Z m).β k=some p→(Xm S sg β Z m').β k=some p:=by
  intro k p hp;simp only[Xm] at hp⊢
  split at hp
  ·rename_i hk;rw[if_pos (by omega)];exact hp
  ·cases hp
 exact⟨fun k p hp=>⟨p,key k p hp⟩,fun b hb=>⟨hb,rfl⟩,fun k c p _ hc=>⟨c,hc,Nat.le_refl _⟩,fun k c _ _ b base hb=>⟨key k _ hb,rfl⟩⟩
theorem uL {a0 a:Act} {w0 w:World} {β0 β:Nat→Option (Nat×Nat)} {Z0 Z:Nat→Prop} {E:Nat→Bool} {sg:Nat→Nat} (h:DI pv ops F S dd a0 w0 β0 Z0 E a w β Z sg) {i:Nat} (hi:i≤ops.size)
  (hd:∀j,j<i→dh pv ops F j→E j=true) (hu:∀j,i≤j→dh pv ops F j→E j=false) {k:Nat} {p:Nat×Nat} (hk:β k=some p) (IQ:k<(S i).bs.length):
  sg k≤i∧Hs S sg k=((S i).bs[k]?).getD .dead∧(S i).bs[k]?=some (Hs S sg k):=by
 obtain⟨h1,h2,h3⟩:=h.dom k p hk
 have hle:sg k≤i:=by
  rcases h3 with h3|⟨j,q1,q2,q3⟩
  ·omega
  ·rw[q2]
   rcases q3 with q3|q3
   ·rcases Nat.lt_or_ge j i with h'|h'
    ·exact h'
    ·have:=hu j h' q3;rw[this] at q1;cases q1
   ·rcases Nat.lt_or_ge j i with h'|h'
    ·exact h'
    ·have vQ:=h.bnd j q1;have:=(b_ dg ht j i h' (by omega)).len;omega
 have heq:=ia dg ht i hle hi k h1 fun q FB kR=>by
  by_cases he:dh pv ops F q
  ·have hE:=hd q kR he;have HF:k<(S q).bs.length:=Nat.lt_of_lt_of_le h1 (b_ dg ht q (sg k) FB (by omega)).len;have:=h.sg2 k p hk q hE he HF;omega
  ·exact .inl he
 refine⟨hle,by simp only[Hs];rw[heq],?_⟩;rw[heq];simp only[Hs];rw[List.getElem?_eq_getElem h1];rfl
end
end Go.V
namespace Go.V
open Go.RowKit
theorem fU.aq {w:World} {x:X} {b base:Nat} {bx:fV} (h:fU w x b base bx):∃c,bV bx=some c:=by
 cases bx with
 |mem v a c=>exact⟨v,rfl⟩
 |iter s p=>exact⟨0,rfl⟩
 |map e=>exact⟨0,rfl⟩
 |dead=>exact h.elim
def glue (S:Nat→St) (j:Nat) (βl β:Nat→Option (Nat×Nat)):Nat→Option (Nat×Nat):=fun k=>if k<(S (j+1)).bs.length then βl k else β k
open Classical in
noncomputable def dN (pv:Pv) (ops:Array Oper) (F:Nat→Fr) (S:Nat→St) (j m:Nat) (sg:Nat→Nat):Nat→Nat:=
 fun k=>if k<(S (j+1)).bs.length∧(dh pv ops F j∨(S j).bs.length≤k) then m else sg k
section
variable{pv:Pv} {P:Program} {cf:df} (dg:gf P pv cf) {ops:Array Oper} {F:Nat→Fr} {S:Nat→St} {dd:Nat→D} (ht:Trace pv cf ops ops.toList F S dd)
include dg ht
theorem DI.put {a0 a:Act} {w0 w w':World} {β0 β βl:Nat→Option (Nat×Nat)} {Z0 Z Zl:Nat→Prop} {E E':Nat→Bool} {sg:Nat→Nat} (h:DI pv ops F S dd a0 w0 β0 Z0 E a w β Z sg) {j m:Nat} {o:Oper} (hj:E j=false) (ho:ops[j]?=some o)
  (tU:∀k,E' k=true↔(E k=true∨k=j)) (CY:∀e∈o.after.toList,Region.binds .any e=true→E e.on=true) (zk:∀i o' t,j<i→ops[i]?=some o'→o.dst=some t→o'.dst=some t→E i=false)
  (Dm:∀t,o.dst=some t→t<a.tmps.size) (Sm:(S 0).ro≤(S 0).bs.length) {T T':St} {v:Value}
  (hn:Nx w T (fun k=>if k<(S j).bs.length then β k else none) Z w' T' βl Zl) (Uc:T.bs.length=(S j).bs.length) (Ou:T'.bs.length=(S (j+1)).bs.length) (QI:T.ro=(S j).ro)
  (hv:VR w' (T'.x βl Zl) (dd j) v) (zo:∀k p,k<(S j).bs.length→β k=some p→T.aq k=bV (Hs S sg k))
  (xU:j+1≤m) (BA:m≤ops.size) (Da:∀i,E i=true→dh pv ops F i→i+1≤m) (vO:m=j+1∨∃i,E i=true∧dh pv ops F i∧m=i+1)
  (FQ:∀k p,βl k=some p→T'.aq k=bV (Hs S (dN pv ops F S j m sg) k))
  (Ov:∀k b base,βl k=some (b,base)→(dh pv ops F j∨(S j).bs.length≤k)→fU w' (T'.x βl Zl) b base (Hs S (dN pv ops F S j m sg) k))
  (hq:¬dh pv ops F j→Quiet w w') (hS:dh pv ops F j→T=S j∧T'=S (j+1)):
  DI pv ops F S dd a0 w0 β0 Z0 E' (a.put o.dst v) w' (glue S j βl β) Zl (dN pv ops F S j m sg):=by
 have vQ:j<ops.size:=by
  rcases Nat.lt_or_ge j ops.size with h'|h'
  ·exact h'
  ·rw[Array.getElem?_eq_none h'] at ho;cases ho
 have Uo:=(k_ dg ht j vQ).1.len;have hN:∀{a b:Nat},a≤b→b≤ops.size→(S a).bs.length≤(S b).bs.length:=fun h1 h2=>(b_ dg ht _ _ h1 h2).len;have lk:∀k p,βl k=some p→k<(S (j+1)).bs.length:=fun k p hp=>by rw[←Ou];exact hn.sim.dom k p.1 p.2 hp
 have fA:∀k,k<(S j).bs.length→β k=none→βl k=none∧T'.bs[k]?=T.bs[k]?:=fun k hk h0=>hn.vf k (by rw[Uc];exact hk) (by simp only[if_pos hk];exact h0);have fB:∀k p,k<(S j).bs.length→β k=some p→∃p',βl k=some p':=fun k p hk hp=>hn.keeps.dm k p (by simp only[St.x,if_pos hk];exact hp)
 have fC:∀k p,(S j).bs.length≤k→k<(S (j+1)).bs.length→β k=some p→False:=fun k p h1 h2 hp=>by
  have:=h.cr k p hp j vQ h1 h2;rw[hj] at this;cases this
 have GQ:∀k,¬(k<(S (j+1)).bs.length∧(dh pv ops F j∨(S j).bs.length≤k))→dN pv ops F S j m sg k=sg k:=fun k hk=>by simp only[dN];rw[if_neg hk]
 have Mh:∀k,k<(S (j+1)).bs.length→(dh pv ops F j∨(S j).bs.length≤k)→dN pv ops F S j m sg k=m:=fun k h1 h2=>by simp only[dN];rw[if_pos ⟨h1,h2⟩]
 have v_:∀k,k<(S (j+1)).bs.length→glue S j βl β k=βl k:=fun k hk=>by simp only[glue,if_pos hk]
 have zr:∀k,¬k<(S (j+1)).bs.length→glue S j βl β k=β k:=fun k hk=>by simp only[glue,if_neg hk]
 have L9:∀k,¬(k<(S (j+1)).bs.length∧(dh pv ops F j∨(S j).bs.length≤k))→Hs S (dN pv ops F S j m sg) k=Hs S sg k:=fun k hk=>by simp only[Hs,GQ k hk]
 have fE:∀k b base,¬k<(S j).bs.length→β k=some (b,base)→w'.heap[b]?=w.heap[b]?:=by
  intro k b base hk hb;refine hn.evo.block b (h.lt k b base hb) ?_;rintro⟨k',ck,iR,_⟩;dsimp only at iR
  split at iR
  ·rename_i hlt;have:=h.inj k k' b _ _ hb iR;omega
  ·cases iR
 have fD:¬dh pv ops F j→∀k p,k<(S j).bs.length→β k=some p→βl k=some p:=by
  intro hne k p hk hp;obtain⟨p',tO⟩:=fB k p hk hp;have e1:=zo k p hk hp;have e2:=FQ k p' tO;rw[L9 k (by rintro⟨_,h1|h1⟩;exact hne h1;omega)] at e2;obtain⟨c,hc⟩:=(h.box k p.1 p.2 hp).aq;rw[hc] at e1 e2;exact(hn.keeps.at_ k c e2 e1 p.1 p.2 (by simp only[St.x,if_pos hk];exact hp)).1
 have KX:∀q,cx w (Xm S sg β Z q) w' (Xm S (dN pv ops F S j m sg) (glue S j βl β) Zl q):=by
  intro q;refine⟨fun k p hp=>?_,hn.keeps.z,fun k c p hp hc=>?_,fun k c hc BC b base hb=>?_⟩
  ·simp only[Xm] at hp⊢
   split at hp
   ·rename_i HF;rw[if_pos HF]
    by_cases hk:k<(S (j+1)).bs.length
    ·rw[v_ k hk]
     by_cases iQ:k<(S j).bs.length
     ·exact fB k p iQ hp
     ·exact(fC k p (by omega) hk hp).elim
    ·rw[zr k hk];exact⟨p,hp⟩
   ·cases hp
  ·simp only[Xm] at hp hc⊢
   split at hp
   ·by_cases iQ:k<(S j).bs.length
    ·obtain⟨p',tO⟩:=fB k p iQ hp;obtain⟨o',h1,h2⟩:=hn.keeps.aq k c p (by simp only[St.x,if_pos iQ];exact hp) (by show T'.aq k=some c;rw[FQ k p' tO];exact hc);exact⟨o',by rw[←zo k p iQ hp];exact h1,h2⟩
    ·by_cases hk:k<(S (j+1)).bs.length
     ·exact(fC k p (by omega) hk hp).elim
     ·rw[L9 k (fun h'=>hk h'.1)] at hc;exact⟨c,hc,Nat.le_refl _⟩
   ·cases hp
  ·simp only[Xm] at hb hc BC⊢
   split at hb
   ·rename_i HF;rw[if_pos HF]
    by_cases iQ:k<(S j).bs.length
    ·obtain⟨p',tO⟩:=fB k _ iQ hb;have:=hn.keeps.at_ k c (by show T'.aq k=some c;rw[FQ k p' tO];exact hc) (by show T.aq k=some c;rw[zo k _ iQ hb];exact BC) b base (by simp only[St.x,if_pos iQ];exact hb);rw[v_ k (by omega)];exact this
    ·by_cases hk:k<(S (j+1)).bs.length
     ·exact(fC k _ (by omega) hk hb).elim
     ·rw[zr k hk];exact⟨hb,cT (fE k b base iQ hb)⟩
   ·cases hb
 have KT:cx w' (T'.x βl Zl) w' (Xm S (dN pv ops F S j m sg) (glue S j βl β) Zl (j+1)):=by
  have key:∀k p,βl k=some p→(Xm S (dN pv ops F S j m sg) (glue S j βl β) Zl (j+1)).β k=some p:=by
   intro k p hp;have:=lk k p hp;simp only[Xm];rw[if_pos this,v_ k this];exact hp
  refine⟨fun k p hp=>⟨p,key k p hp⟩,fun b hb=>⟨hb,rfl⟩,fun k c p hp hc=>⟨c,?_,Nat.le_refl _⟩,fun k c _ _ b base hb=>⟨key k _ hb,rfl⟩⟩;show T'.aq k=some c;rw[FQ k p hp];exact hc
 have VW:(S (j+1)).bs.length≤(S m).bs.length:=hN xU BA;have N9:∀k,k<(S (j+1)).bs.length→(dh pv ops F j∨(S j).bs.length≤k)→k<(S m).bs.length:=fun k h1 _=>by omega
 refine⟨by rw[jn];exact h.size,by rw[put_defers];exact h.defers,?_,?_,?_,?_,?_,?_,?_,?_,?_,?_,?_,?_,?_,h.keeps.trans (KX _),?_,?_,?_,?_⟩
 ·
  intro k o' hk FG e he hb
  rcases(tU k).1 hk with hk|rfl
  ·exact(tU _).2 (.inl (h.clo k o' hk FG e he hb))
  ·rw[ho] at FG;cases FG;exact(tU _).2 (.inl (CY e he hb))
 ·intro k hk
  rcases(tU k).1 hk with hk|rfl
  ·exact h.bnd k hk
  ·exact vQ
 ·
  intro k p hp
  by_cases hk:k<(S (j+1)).bs.length
  ·rw[v_ k hk] at hp
   by_cases hc:dh pv ops F j∨(S j).bs.length≤k
   ·rw[Mh k hk hc];refine⟨N9 k hk hc,BA,.inr ?_⟩
    rcases vO with rfl|⟨i,q1,q2,q3⟩
    ·exact⟨j,(tU j).2 (.inr rfl),rfl,hc⟩
    ·exact⟨i,(tU i).2 (.inl q1),q3,.inl q2⟩
   ·rw[GQ k (fun h'=>hc h'.2)]
    have iQ:k<(S j).bs.length:=by
     rcases Nat.lt_or_ge k (S j).bs.length with h'|h'
     ·exact h'
     ·exact absurd (.inr h') hc
    cases hβ:β k with
    |none=>have:=(fA k iQ hβ).1;rw[hp] at this;cases this
    |some q=>
     obtain⟨d1,d2,d3⟩:=h.dom k q hβ;refine⟨d1,d2,?_⟩
     rcases d3 with d3|⟨i,r1,r2,r3⟩
     ·exact .inl d3
     ·exact .inr ⟨i,(tU i).2 (.inl r1),r2,r3⟩
  ·rw[zr k hk] at hp;rw[GQ k (fun h'=>hk h'.1)];obtain⟨d1,d2,d3⟩:=h.dom k p hp;refine⟨d1,d2,?_⟩
   rcases d3 with d3|⟨i,r1,r2,r3⟩
   ·exact .inl d3
   ·exact .inr ⟨i,(tU i).2 (.inl r1),r2,r3⟩
 ·
  intro k p hp i hi h1 h2
  by_cases hk:k<(S (j+1)).bs.length
  ·rw[v_ k hk] at hp
   by_cases iQ:k<(S j).bs.length
   ·cases hβ:β k with
    |none=>have:=(fA k iQ hβ).1;rw[hp] at this;cases this
    |some q=>exact(tU i).2 (.inl (h.cr k q hβ i hi h1 h2))
   ·have:i=j:=by
     rcases Nat.lt_trichotomy i j with h'|h'|h'
     ·have:=hN (a:=i+1) (b:=j) (by omega) (by omega);omega
     ·exact h'
     ·have:=hN (a:=j+1) (b:=i) (by omega) (by omega);omega
    subst this;exact(tU _).2 (.inr rfl)
  ·rw[zr k hk] at hp;exact(tU i).2 (.inl (h.cr k p hp i hi h1 h2))
 ·
  intro k p hp i hi he IQ
  by_cases hk:k<(S (j+1)).bs.length
  ·rw[v_ k hk] at hp
   by_cases hc:dh pv ops F j∨(S j).bs.length≤k
   ·rw[Mh k hk hc]
    rcases(tU i).1 hi with hi|rfl
    ·exact Da i hi he
    ·exact xU
   ·rw[GQ k (fun h'=>hc h'.2)]
    have iQ:k<(S j).bs.length:=by
     rcases Nat.lt_or_ge k (S j).bs.length with h'|h'
     ·exact h'
     ·exact absurd (.inr h') hc
    cases hβ:β k with
    |none=>have:=(fA k iQ hβ).1;rw[hp] at this;cases this
    |some q=>
     rcases(tU i).1 hi with hi|rfl
     ·exact h.sg2 k q hβ i hi he IQ
     ·exact absurd (.inl he) hc
  ·rw[zr k hk] at hp;rw[GQ k (fun h'=>hk h'.1)]
   rcases(tU i).1 hi with hi|rfl
   ·exact h.sg2 k p hp i hi he IQ
   ·omega
 ·
  intro k xW i hi he IQ
  have hβ:k<(S j).bs.length∨¬k<(S (j+1)).bs.length→β k=none:=by
   rintro(iQ|hk)
   ·cases hβ:β k with
    |none=>rfl
    |some q=>
     obtain⟨p',tO⟩:=fB k q iQ hβ;rw[v_ k (by omega),tO] at xW;cases xW
   ·rw[zr k hk] at xW;exact xW
  have Jy:β k=none:=by
   by_cases iQ:k<(S j).bs.length
   ·exact hβ (.inl iQ)
   ·by_cases hk:k<(S (j+1)).bs.length
    ·cases hb:β k with
     |none=>rfl
     |some q=>exact(fC k q (by omega) hk hb).elim
    ·exact hβ (.inr hk)
  rcases(tU i).1 hi with hi|rfl
  ·exact h.ph k Jy i hi he IQ
  ·obtain⟨e1,e2⟩:=hS he;have:=(fA k IQ Jy).2;rw[e1,e2] at this;exact this
 ·
  intro k b base hp
  by_cases hk:k<(S (j+1)).bs.length
  ·rw[v_ k hk] at hp;exact hn.sim.lt k b base hp
  ·rw[zr k hk] at hp;exact Nat.lt_of_lt_of_le (h.lt k b base hp) hn.evo.size
 ·
  have mix:∀k k' b x x',k<(S (j+1)).bs.length→¬k'<(S (j+1)).bs.length→βl k=some (b,x)→β k'=some (b,x')→False:=by
   intro k k' b x x' hk iR h1 h2
   rcases hn.fresh k b x h1 with⟨ck,db⟩|hlt
   ·(try dsimp only at db)
    split at db
    ·have:=h.inj k k' b _ _ db h2;omega
    ·cases db
   ·have:=h.lt k' b x' h2;omega
  intro k k' b x x' h1 h2
  by_cases hk:k<(S (j+1)).bs.length<;>by_cases iR:k'<(S (j+1)).bs.length
  ·rw[v_ k hk] at h1;rw[v_ k' iR] at h2;exact hn.sim.inj k k' b x x' h1 h2
  ·rw[v_ k hk] at h1;rw[zr k' iR] at h2;exact(mix k k' b x x' hk iR h1 h2).elim
  ·rw[zr k hk] at h1;rw[v_ k' iR] at h2;exact(mix k' k b x' x iR hk h2 h1).elim
  ·rw[zr k hk] at h1;rw[zr k' iR] at h2;exact h.inj k k' b x x' h1 h2
 ·
  intro k b base hp hz
  by_cases hk:k<(S (j+1)).bs.length
  ·rw[v_ k hk] at hp;exact hn.sim.zd k b base hp hz
  ·rw[zr k hk] at hp
   rcases hn.zfresh b hz with hz|hlt
   ·exact h.zd k b base hp hz
   ·have:=h.lt k b base hp;omega
 ·exact hn.sim.zl
 ·
  intro k b base hp
  by_cases hk:k<(S (j+1)).bs.length
  ·rw[v_ k hk] at hp
   by_cases hc:dh pv ops F j∨(S j).bs.length≤k
   ·rw[Mh k hk hc];exact(Ov k b base hp hc).aP (KT.trans (zS dg ht xU BA)) rfl
   ·have iQ:k<(S j).bs.length:=by
     rcases Nat.lt_or_ge k (S j).bs.length with h'|h'
     ·exact h'
     ·exact absurd (.inr h') hc
    have hne:¬dh pv ops F j:=fun h'=>hc (.inl h');rw[GQ k (fun h'=>hc h'.2),L9 k (fun h'=>hc h'.2)]
    cases hβ:β k with
    |none=>have:=(fA k iQ hβ).1;rw[hp] at this;cases this
    |some q=>
     have:=fD hne k q iQ hβ;rw[hp] at this;cases this;exact(h.box k b base hβ).aP (KX _) (hq hne b (h.lt k b base hβ))
  ·rw[zr k hk] at hp;rw[GQ k (fun h'=>hk h'.1),L9 k (fun h'=>hk h'.1)];exact(h.box k b base hp).aP (KX _) (fE k b base (by omega) hp)
 ·
  intro t
  by_cases hd:o.dst=some t
  ·have hl:cL ops E' t ops.size=some j:=by
    have s:=ek ops E' t ops.size
    cases hl:cL ops E' t ops.size with
    |none=>
     rw[hl] at s;have:=s j o vQ ho hd;rw[(tU j).2 (.inr rfl)] at this;cases this
    |some i=>
     rw[hl] at s;obtain⟨s1,s2,⟨o',s3,s4⟩,s5⟩:=s
     rcases Nat.lt_trichotomy i j with h'|h'|h'
     ·have:=s5 j o h' vQ ho hd;rw[(tU j).2 (.inr rfl)] at this;cases this
     ·rw[h']
     ·have:=zk i o' t h' s3 hd s4
      rcases(tU i).1 s2 with h2|h2
      ·rw[this] at h2;cases h2
      ·omega
   have hget:(a.put o.dst v).tmps.getD t undef=v:=by
    rw[hd];simp only[Act.put,Array.getD_eq_getD_getElem?];rw[Array.getElem?_setIfInBounds_self_of_lt (Dm t hd)];rfl
   rw[hget];simp only[val,IB,hl];unfold rG
   split
   ·exact .junk _ _ _
   ·exact hv.mono KT
  ·have hl:cL ops E' t ops.size=cL ops E t ops.size:=by
    refine pz fun i o' h1 h2=>?_;have hij:i≠j:=fun e=>by subst e;rw[ho] at h1;cases h1;exact hd h2
    rw[tU i];simp[hij]
   have hget:(a.put o.dst v).tmps.getD t undef=a.tmps.getD t undef:=by
    cases Oe:o.dst with
    |none=>rfl
    |some u=>
     have hut:u≠t:=fun e=>hd (by rw[Oe,e]);simp only[Act.put,Array.getD_eq_getD_getElem?];rw[Array.getElem?_setIfInBounds_ne hut]
   rw[hget];have hf:=h.frame t;simp only[val,IB,hl] at hf⊢;exact hf.mono (KX _)
 ·
  refine h.evo.trans hn.evo (fun _ hm=>hm) fun b hb hm=>?_;obtain⟨k,base,hk,cZ⟩:=hm;dsimp only at hk
  split at hk
  ·rcases h.fresh k b base hk with⟨ck,db⟩|hlt
   ·refine⟨k,ck,db,?_⟩;have:=(b_ dg ht j 0 (by omega) (by omega)).ro;rw[←this,←QI];exact cZ
   ·omega
  ·cases hk
 ·
  intro k b base hp
  by_cases hk:k<(S (j+1)).bs.length
  ·rw[v_ k hk] at hp
   rcases hn.fresh k b base hp with⟨ck,db⟩|hlt
   ·(try dsimp only at db)
    split at db
    ·exact h.fresh k b ck db
    ·cases db
   ·exact .inr (Nat.le_trans h.evo.size hlt)
  ·rw[zr k hk] at hp;exact h.fresh k b base hp
 ·intro b hz
  rcases hn.zfresh b hz with hz|hlt
  ·exact h.zfresh b hz
  ·exact .inr (Nat.le_trans h.evo.size hlt)
 ·
  intro k hk;have h0:=hN (a:=0) (b:=j) (by omega) (by omega);have iQ:k<(S j).bs.length:=by omega
  have hr:=(b_ dg ht j 0 (by omega) (by omega)).ro;have:=(hn.low k (by rw[QI,hr];exact hk)).2;rw[v_ k (by omega),this];simp only[if_pos iQ];exact h.low k hk
 ·
  intro k hk xW;have h0:=hN (a:=0) (b:=j) (by omega) (by omega);have iQ:k<(S j).bs.length:=by omega
  rw[v_ k (by omega)];exact(fA k iQ (h.vf k hk xW)).1
end
end Go.V
namespace Go.V
open Go.RowKit
theorem Ci {pv:Pv} {o:Oper} (h:Aw o=true):dL pv o=false:=by
 obtain⟨dst,op,ty,pos,after,guard⟩:=o;cases op<;>simp only[Aw,Bool.false_eq_true] at h<;>try rfl
 rename_i c;obtain⟨callee,args,l9⟩:=c;cases callee<;>simp only[Bool.false_eq_true] at h
 rename_i b;cases b<;>simp at h<;>rfl
theorem kN {pv:Pv} {o:Oper} (h:dL pv o=true):Aw o=false∧Ef o=false:=by
 refine⟨?_,?_⟩
 ·cases hp:Aw o with
  |false=>rfl
  |true=>rw[Ci hp] at h;cases h
 ·obtain⟨dst,op,ty,pos,after,guard⟩:=o
  cases op<;>first|rfl|(simp[dL] at h)
theorem y_ {a b:St} {k:Nat} (h:a.bs[k]?=b.bs[k]?) (v:Nat):a.dC k v=b.dC k v:=by
 simp only[St.dC,h]
theorem GY {pv:Pv} {fr:Fr} {st ab:St} {op:Op} {ty:TypeId} {a:Operand} {d:D} (ha:fz op=some a) (h:cG pv fr st op ty=some (d,ab)):ab=st∧∀T:St,(∀k,(fr.ev a).kP=some k→T.bs[k]?=st.bs[k]?)→cG pv fr T op ty=some (d,T):=by
 cases op<;>simp only[fz,Option.some.injEq,reduceCtorEq] at ha
 case load t x=>
  subst ha;simp only[cG] at h⊢;obtain⟨r,hz,hs⟩:=Option.map_eq_some_iff.1 h;cases hs;refine⟨rfl,fun T hT=>?_⟩
  have:eW pv t (fr.ev x) T=eW pv t (fr.ev x) st:=by
   cases hx:fr.ev x<;>first|rfl|skip
   rename_i k v off;simp only[eW];rw[y_ (hT k (by rw[hx];rfl))]
  rw[this,hz];rfl
 case indexAddr t x i=>
  subst ha;simp only[cG] at h⊢;obtain⟨r,hz,hs⟩:=Option.map_eq_some_iff.1 h;cases hs;refine⟨rfl,fun T hT=>?_⟩
  have:bk pv t (fr.ev x) (fr.ev i) T=bk pv t (fr.ev x) (fr.ev i) st:=by
   cases hx:fr.ev x with
   |win k v off len sz=>
    have hm:=y_ (hT k (by rw[hx];rfl)) v;simp only[bk];cases fr.ev i<;>try rfl
    cases pv.bI t with
    |none=>rfl
    |some td=>cases td<;>first|rfl|(simp only[hm])
   |_=>
    simp only[bk];cases fr.ev i<;>try rfl
    cases pv.bI t with
    |none=>rfl
    |some td=>cases td<;>rfl
  rw[this,hz];rfl
theorem uX {pv:Pv} {cf:df} {fr:Fr} {st:St} {o:Oper} (h:Ef o=true):dG pv cf fr st o=cG pv fr st o.op o.type:=by
 unfold dG
 split
 ·rename_i eT;simp[Ef,eT,fz] at h
 ·rfl
theorem vb {pv:Pv} {cf:df} {fr:Fr} {st:St} {o:Oper} (h:Aw o=true):dG pv cf fr st o=cG pv fr st o.op o.type:=by
 unfold dG
 split
 ·rename_i eT;simp only[Aw,eT,Bool.false_eq_true] at h
 ·rfl
def Bj (fr:Fr) (ts:List Nat):Fr:=⟨0,[],ts.map fun t=>(t,fr.get t)⟩
theorem vA (f:Nat→D) (t:Nat):∀(ts:List Nat),look t (ts.map fun t=>(t,f t))=if t∈ts then f t else .junk
 |[]=>rfl
 |u::l=>by
  simp only[List.map_cons,look]
  by_cases h:t=u
  ·subst h;simp
  ·have:Nat.beq t u=false:=by
    cases hb:Nat.beq t u with
    |false=>rfl
    |true=>exact absurd (Nat.eq_of_beq_eq_true hb) h
   rw[this,vA f t l];simp[h]
theorem lR (fr:Fr) (ts:List Nat) (t:Nat):(Bj fr ts).get t=if t∈ts then fr.get t else .junk:=by
 simp only[Bj,Fr.get,Nat.ble];exact vA fr.get t ts
def IM (p:Option (Nat×Nat)) (bx:fV):fV:=
 match p,bx with
 |some _,.mem v a _=>.mem v a []
 |some _,.iter s q=>.iter s q
 |some _,.map es=>.map es
 |_,_=>.dead
def tQ (st:St) (β:Nat→Option (Nat×Nat)) (H:Nat→fV):St:=⟨(List.range st.bs.length).map fun k=>IM (β k) (H k),st.flr,st.ro⟩
theorem vK {st:St} {β:Nat→Option (Nat×Nat)} {H:Nat→fV} {k:Nat} (h:k<st.bs.length):(tQ st β H).bs[k]?=some (IM (β k) (H k)):=by
 simp[tQ,h]
theorem fG (st:St) (β:Nat→Option (Nat×Nat)) (H:Nat→fV):(tQ st β H).bs.length=st.bs.length:=by simp[tQ]
theorem tP {w:World} {x x':X} {b base:Nat} {bx:fV} (h:fU w x b base bx) (p:Nat×Nat):fU w x' b base (IM (some p) bx)∧bV (IM (some p) bx)=bV bx:=by
 cases bx with
 |mem v a c=>
  obtain⟨c',el,fr,h1,h2,h3,_⟩:=h;exact⟨⟨c',el,fr,h1,by simp;omega,h3,fun j d hd=>by simp at hd⟩,rfl⟩
 |iter s q=>exact⟨h,rfl⟩
 |map e=>exact⟨h,rfl⟩
 |dead=>exact h.elim
def yD (E:Nat→Bool) (j:Nat):Nat→Bool:=fun k=>E k||Nat.beq k j
theorem gA (E:Nat→Bool) (j k:Nat):yD E j k=true↔(E k=true∨k=j):=by
 simp[yD]
theorem VR.PM {w:World} {x x':X} {N:Nat} (hZ:∀b,x.Z b→x'.Z b) (hv:∀k,x'.aq k=x.aq k) (hβ:∀k p,k<N→x.β k=some p→x'.β k=some p) {d:D} {v:Value} (h:VR w x d v) (hr:d.ref≤N):VR w x' d v:=by
 induction h with
 |im d v h=>exact .im _ _ (h.mono fun b hb=>⟨hZ b hb,rfl⟩)
 |win k vr off len s a cap hc hk hm h=>
  simp only[D.ref] at hr;refine .win k vr off len s a cap hc (by obtain⟨p,hp⟩:=hk;exact⟨p,hβ k p (by omega) hp⟩) (fun c hc=>hm c (by rw[←hv];exact hc)) fun hc=>?_;obtain⟨b,base,sz,h1,h2⟩:=h (by rw[←hv];exact hc);exact⟨b,base,sz,hβ k _ (by omega) h1,h2⟩
 |ptr k vr off a hk hm h=>
  simp only[D.ref] at hr;refine .ptr k vr off a (by obtain⟨p,hp⟩:=hk;exact⟨p,hβ k p (by omega) hp⟩) (fun c hc=>hm c (by rw[←hv];exact hc)) fun hc=>?_;obtain⟨b,base,h1,h2⟩:=h (by rw[←hv];exact hc);exact⟨b,base,hβ k _ (by omega) h1,h2⟩
 |mp k r hk h=>
  simp only[D.ref] at hr;refine .mp k r (by obtain⟨p,hp⟩:=hk;exact⟨p,hβ k p (by omega) hp⟩) fun hc=>?_;obtain⟨base,h1⟩:=h (by rw[←hv];exact hc);exact⟨base,hβ k _ (by omega) h1⟩
 |fn f cs vs hl IK ih=>simp only[D.ref] at hr;exact .fn f cs vs hl fun i c v hc hv=>ih i c v hc hv (Nat.le_trans (bh (List.mem_of_getElem? hc)) hr)
 |agg cs vs hl h1 IK ih=>simp only[D.ref] at hr;exact .agg cs vs hl h1 fun i c v hc hv=>ih i c v hc hv (Nat.le_trans (bh (List.mem_of_getElem? hc)) hr)
 |tup cs vs hl IK ih=>simp only[D.ref] at hr;exact .tup cs vs hl fun i c v hc hv=>ih i c v hc hv (Nat.le_trans (bh (List.mem_of_getElem? hc)) hr)
section
variable{pv:Pv} {P:Program} {cf:df} (dg:gf P pv cf) {ops:Array Oper} {F:Nat→Fr} {S:Nat→St} {dd:Nat→D} (ht:Trace pv cf ops ops.toList F S dd)
include dg ht
theorem F4 {w:World} {sg:Nat→Nat} {β:Nat→Option (Nat×Nat)} {Z:Nat→Prop} {j m k b base:Nat} (TO:j≤m) (hm:m≤ops.size) (h:fU w (Xm S sg β Z m) b base (Hs S sg k)) (he:(S j).bs[k]?=some (Hs S sg k)) (hs:kA (some k) (S j) (S m)=true):fU w (Xm S sg β Z j) b base (Hs S sg k):=by
 have hl:=(b_ dg ht m j TO hm).len;unfold kA at hs;simp only at hs
 split at hs
 ·rename_i hb;have hle:=Nat.eq_of_beq_eq_true hb;have:Xm S sg β Z j=Xm S sg β Z m:=by simp only[Xm,hle]
  rw[this];exact h
 ·rw[he] at hs
  split at hs
  ·rename_i v ar c hc
   cases pP:Hs S sg k with
   |mem v' Wz c'=>
    rw[pP] at hc h;cases hc;have hr:=Nat.le_of_ble_eq_true hs;obtain⟨c',el,fr,h1,h2,h3,h4⟩:=h;refine⟨c',el,fr,h1,h2,h3,fun i d hd=>?_⟩;obtain⟨v,v1,v3,v2⟩:=h4 i d hd;refine⟨v,v1,v3,v2.PM (x:=Xm S sg β Z m) (x':=Xm S sg β Z j) (N:=(S j).bs.length) (fun _ hb=>hb) (fun _=>rfl) (fun k' p iR hp=>?_) (Nat.le_trans (bh (List.mem_of_getElem? hd)) hr)⟩;simp only[Xm] at hp⊢;rw[if_pos iR]
    split at hp
    ·exact hp
    ·cases hp
   |_=>rw[pP] at hc;cases hc
  ·cases hs
end
section
variable{pv:Pv} {P:Program} (ok:pv.Ok P) {cf:df} (dg:gf P pv cf) {ops:Array Oper} {F:Nat→Fr} {S:Nat→St} {dd:Nat→D} (ht:Trace pv cf ops ops.toList F S dd) {dy:List (Nat×Nat)} (lJ:jr pv ops dy=true) (f_:Still dy ops F S)
include ok dg ht lJ f_
theorem DI.step {Q:Exit→Act→World→Prop} {a0 a:Act} {w0 w:World} {β0 β:Nat→Option (Nat×Nat)} {Z0 Z:Nat→Prop} {E:Nat→Bool} {sg:Nat→Nat} (h:DI pv ops F S dd a0 w0 β0 Z0 E a w β Z sg) (h0:eP w0 (S 0) β0 Z0)
  {j:Nat} {o:Oper} (ho:ops[j]?=some o) (hj:E j=false) (CY:∀e∈o.after.toList,Region.binds .any e=true→E e.on=true) (Dm:sN ops.toList a0.tmps.size)
  {K:Act→World→Prop} (hK:∀a' w' β' Z' Mi,DI pv ops F S dd a0 w0 β0 Z0 (yD E j) a' w' β' Z' Mi→K a' w'):wpOp P ops Q j K a w:=by
 have vQ:j<ops.size:=by
  rcases Nat.lt_or_ge j ops.size with h'|h'
  ·exact h'
  ·rw[Array.getElem?_eq_none h'] at ho;cases ho
 have hcl:jP ops (yD E j):=by
  intro k o' hk FG e he hb
  rcases(gA E j k).1 hk with hk|rfl
  ·exact(gA E j _).2 (.inl (h.clo k o' hk FG e he hb))
  ·rw[ho] at FG;cases FG;exact(gA E _ _).2 (.inl (CY e he hb))
 have C1:∀i x,i<j→ops[i]?=some x→jg pv ops (listed dy i j) x o=true→E i=true:=by
  intro i x hi hx hc
  rcases(gA E j i).1 (j4 lJ hi hx ho hc hcl ((gA E j j).2 (.inr rfl))) with h'|h'
  ·exact h'
  ·omega
 have C2:∀i x,j<i→ops[i]?=some x→jg pv ops (listed dy j i) o x=true→E i=false:=by
  intro i x hi hx hc
  cases hE:E i with
  |false=>rfl
  |true=>have:=j4 lJ hi ho hx hc h.clo hE;rw[hj] at this;cases this
 have zk:∀i o' t,j<i→ops[i]?=some o'→o.dst=some t→o'.dst=some t→E i=false:=by
  intro i o' t hi FG h1 h2;refine C2 i o' hi FG ?_;simp[jg,yW,h1,h2]
 have QD:∀t,o.dst=some t→t<a.tmps.size:=fun t hd=>by
  rw[h.size];exact Dm o (by rw[←Array.getElem?_toList] at ho;exact List.mem_of_getElem? ho) t hd
 have S_:∀t∈looks ops o,cL ops E t ops.size=cL ops (fun _=>true) t j:=by
  intro t lH
  refine pz fun i o' h1 h2=>⟨fun⟨_,hE⟩=>⟨?_,rfl⟩,fun⟨hi,_⟩=>⟨by omega,C1 i o' hi h1 (by simp[jg,t_,h2,lH])⟩⟩
  rcases Nat.lt_trichotomy i j with h'|h'|h'
  ·exact h'
  ·subst h';rw[hj] at hE;cases hE
  ·have:=C2 i o' h' h1 (by simp[jg,t_,h2,lH]);rw[this] at hE;cases hE
 have L4:=(b_ dg ht j 0 (by omega) (by omega))
 have Uo:=(k_ dg ht j vQ).1
 have I':∀(T:St) (m:Nat),m≤j→T.bs.length=(S j).bs.length→(∀k p,k<(S j).bs.length→β k=some p→T.aq k=bV (Hs S sg k))→
   cx w (Xm S sg β Z m) w (T.x (fun k=>if k<(S j).bs.length then β k else none) Z):=by
  intro T m hm hT hv;refine(zS dg ht hm (by omega)).trans ⟨fun k p hp=>⟨p,hp⟩,fun b hb=>⟨hb,rfl⟩,fun k c p hp hc=>⟨c,?_,Nat.le_refl _⟩,fun k c _ _ b base hb=>⟨hb,rfl⟩⟩;simp only[Xm] at hp⊢
  split at hp
  ·rename_i hk;rw[←hv k p hk hp];exact hc
  ·cases hp
 have hG:∀(T:St),T.bs.length=(S j).bs.length→(∀k p,k<(S j).bs.length→β k=some p→T.aq k=bV (Hs S sg k))→
   l6 w (T.x (fun k=>if k<(S j).bs.length then β k else none) Z) (Bj (F j) (looks ops o)) a.tmps:=by
  intro T hT hv t;rw[lR]
  split
  ·rename_i lH;have hf:=h.frame t;have MQ:=(ma ht t j (by omega)).1;have hl:=S_ t lH;simp only[val,IB,hl] at hf;rw[MQ];have s:=ek ops (fun _=>true) t j
   cases hq:cL ops (fun _=>true) t j with
   |none=>rw[hq] at hf;exact hf.mono (I' T 0 (by omega) hT hv)
   |some i=>rw[hq] at hf s;exact hf.mono (I' T (i+1) s.1 hT hv)
  ·exact .junk _ _ _
 have L8:av ops (F j) o=av ops (Bj (F j) (looks ops o)) o:=ux fun t lH=>by rw[lR,if_pos lH]
 have UA:∀st,dG pv cf (F j) st o=dG pv cf (Bj (F j) (looks ops o)) st o:=fun st=>vd fun t lH=>by rw[lR,if_pos lH]
 have CC:∀(T:St),T.bs.length=(S j).bs.length→T.flr=(S j).flr→T.ro=(S j).ro→(∀k p,k<(S j).bs.length→β k=some p→T.aq k=bV (Hs S sg k))→
   (∀k b base bx,k<(S j).bs.length→β k=some (b,base)→T.bs[k]?=some bx→fU w (T.x (fun k=>if k<(S j).bs.length then β k else none) Z) b base bx)→
   eP w T (fun k=>if k<(S j).bs.length then β k else none) Z:=by
  intro T hT kJ hr hv hb
  have cut:∀k p,(if k<(S j).bs.length then β k else none)=some p→k<(S j).bs.length∧β k=some p:=by
   intro k p hp
   split at hp
   ·exact⟨by assumption,hp⟩
   ·cases hp
  refine⟨fun k b base hk=>by rw[hT];exact(cut k _ hk).1,fun k b base hk=>h.lt k b base (cut k _ hk).2,fun k k' b x x' h1 h2=>h.inj k k' b x x' (cut k _ h1).2 (cut k' _ h2).2,fun k b base hk=>h.zd k b base (cut k _ hk).2,h.zl,
   fun k b base bx hk fL=>hb k b base bx (cut k _ hk).1 (cut k _ hk).2 fL,?_,?_⟩
  ·rw[kJ,hT,L4.flr];exact Nat.le_trans h0.flr L4.len
  ·rw[hr,hT,L4.ro];exact Nat.le_trans h0.ro L4.len
 have zo:∀k p,k<(S j).bs.length→β k=some p→(tQ (S j) β (Hs S sg)).aq k=bV (Hs S sg k):=by
  intro k p hk hp;simp only[St.aq,vK hk,Option.bind_some,hp];exact(tP (x':=Xm S sg β Z 0) (h.box k p.1 p.2 hp) p).2
 have QH:=CC (tQ (S j) β (Hs S sg)) (fG _ _ _) rfl rfl zo fun k b base bx hk hp fL=>by
  rw[vK hk] at fL;cases fL;rw[hp];exact(tP (h.box k b base hp) _).1
 have hollow:∀(T T':St) (w':World) (βl:Nat→Option (Nat×Nat)) (Zl:Nat→Prop) (v:Value),T.bs.length=(S j).bs.length→T.ro=(S j).ro→(∀k p,k<(S j).bs.length→β k=some p→T.aq k=bV (Hs S sg k))→¬dh pv ops F j→
   ((S (j+1)=S j∧T'=T)∨∃ar cs,S (j+1)=(S j).push (.mem 0 ar cs)∧T'=T.push (.mem 0 ar cs))→
   Nx w T (fun k=>if k<(S j).bs.length then β k else none) Z w' T' βl Zl→VR w' (T'.x βl Zl) (dd j) v→Quiet w w'→K (a.put o.dst v) w':=by
  intro T T' w' βl Zl v sG Ot zo hne KA hn hv hq;obtain⟨m,xU,Da,vO⟩:=CE (fun i=>E i=true∧dh pv ops F i) (j+1) ops.size
  have BA:m≤ops.size:=by rcases vO with rfl|⟨i,q1,_,rfl⟩<;>omega
  have hl':T'.bs.length=(S (j+1)).bs.length:=by
   rcases KA with⟨e1,e2⟩|⟨ar,cs,e1,e2⟩
   ·rw[e1,e2,sG]
   ·rw[e1,e2];simp[St.push,sG]
  have lk:∀k p,βl k=some p→k<(S (j+1)).bs.length:=fun k p hp=>by rw[←hl'];exact hn.sim.dom k p.1 p.2 hp
  have GZ:∀k p,k<(S j).bs.length→βl k=some p→∃q,β k=some q:=by
   intro k p hk hp
   cases hβ:β k with
   |some q=>exact⟨q,rfl⟩
   |none=>
    have:=(hn.vf k (by rw[sG];exact hk) (by simp only[if_pos hk];exact hβ)).1;rw[hp] at this;cases this
  have Jm:∀k p,βl k=some p→(S j).bs.length≤k→T'.bs[k]?=some (Hs S (dN pv ops F S j m sg) k):=by
   intro k p hp hk;have kV:=lk k p hp
   have hβ:β k=none:=by
    cases hb:β k with
    |none=>rfl
    |some q=>have:=h.cr k q hb j vQ hk kV;rw[hj] at this;cases this
   have nY:dN pv ops F S j m sg k=m:=by simp only[dN];rw[if_pos ⟨kV,.inr hk⟩]
   have f_:=ia dg ht m xU BA k kV fun q FB kR=>by
    by_cases he:dh pv ops F q
    ·right;refine h.ph k hβ q ?_ he (Nat.lt_of_lt_of_le kV (b_ dg ht q (j+1) FB (by omega)).len)
     rcases vO with rfl|⟨i,q1,⟨q2,q3⟩,rfl⟩
     ·omega
     ·rcases Nat.lt_or_ge q i with h'|h'
      ·obtain⟨o1,p1,p2,_⟩:=he;obtain⟨o2,r1,r2,_⟩:=q3;obtain⟨Bz,Hr⟩:=kN r2;exact j4 lJ h' p1 r1 (by simp[jg,p2,Bz,Hr]) h.clo q2
      ·have:q=i:=by omega
       rw[this];exact q2
    ·exact .inl he
   rcases KA with⟨e1,e2⟩|⟨ar,cs,e1,e2⟩
   ·rw[e1] at kV;omega
   ·have hkk:k=(S j).bs.length:=by rw[e1] at kV;simp[St.push] at kV;omega
    have g1:(S (j+1)).bs[k]?=some (.mem 0 ar cs):=by rw[e1,hkk];simp[St.push]
    have g2:T'.bs[k]?=some (.mem 0 ar cs):=by rw[e2,hkk];simp[St.push,sG]
    simp only[Hs,nY];rw[g2,f_,g1];rfl
  refine hK _ _ _ _ _ (h.put dg ht hj ho (gA E j) CY zk QD h0.ro hn sG hl' Ot hv zo xU BA (fun i h1 h2=>Da i (h.bnd i h1) ⟨h1,h2⟩) ?_ ?_ ?_ (fun _=>hq) fun he=>absurd he hne)
  ·rcases vO with h'|⟨i,_,⟨q2,q3⟩,q4⟩
   ·exact .inl h'
   ·exact .inr ⟨i,q2,q3,q4⟩
  ·intro k p hp
   by_cases hk:k<(S j).bs.length
   ·obtain⟨q,rD⟩:=GZ k p hk hp
    have nY:dN pv ops F S j m sg k=sg k:=by
     simp only[dN];rw[if_neg];rintro⟨_,h'|h'⟩
     ·exact hne h'
     ·omega
    simp only[Hs,nY];have:=zo k q hk rD;simp only[Hs] at this;rw[←this]
    have hg:T'.bs[k]?=T.bs[k]?:=by
     rcases KA with⟨_,e2⟩|⟨ar,cs,_,e2⟩
     ·rw[e2]
     ·rw[e2];simp only[St.push];rw[List.getElem?_append_left (by rw[sG];exact hk)]
    simp only[St.aq,hg]
   ·have:=Jm k p hp (by omega);simp only[St.aq,this,Option.bind_some]
  ·intro k b base hp hc
   rcases hc with hc|hc
   ·exact absurd hc hne
   ·exact hn.sim.box k b base _ hp (Jm k _ hp hc)
 unfold wpOp;simp only[ho]
 rcases ht.step j o (by simpa using ho) with⟨hw,eT⟩|⟨hw,hd,hs⟩
 ·rw[L8] at hw;rw[oh (hG _ (fG _ _ _) zo) hw];simp only[if_true];left;rw[UA] at eT
  cases Bz:Aw o with
  |true=>
   have he:=Ci (pv:=pv) Bz
   have hne:¬dh pv ops F j:=by
    rintro⟨o',h1,h2,_⟩;rw[ho] at h1;cases h1;rw[he] at h2;cases h2
   rw[vb Bz] at eT;obtain⟨T',Kz,KA⟩:=Co Bz eT (tQ (S j) β (Hs S sg)) (fG _ _ _);rw[←vb (cf:=cf) Bz] at Kz;exact ox ok dg QH (hG _ (fG _ _ _) zo) Kz fun v w' β' Z' hn hv hq=>hollow (tQ (S j) β (Hs S sg)) T' w' β' Z' v (fG _ _ _) rfl zo hne KA hn hv (hq he)
  |false=>
   cases nZ:Ef o with
   |true=>
    have hne:¬dh pv ops F j:=by
     rintro⟨o',h1,h2,_⟩;rw[ho] at h1;cases h1;rw[(kN h2).2] at nZ;cases nZ
    obtain⟨ad,tT⟩:∃ad,fz o.op=some ad:=by
     unfold Ef at nZ
     cases hq:fz o.op with
     |none=>rw[hq] at nZ;cases nZ
     |some x=>exact⟨x,rfl⟩
    have NS:av ops (F j) o=some true:=by rw[L8];exact hw
    have Ky:(Bj (F j) (looks ops o)).ev ad=(F j).ev ad:=by
     refine(wa (ts:=looks ops o) (fun t lH=>by rw[lR,if_pos lH]) fun t e=>?_);subst e;refine List.mem_append_right _ (kE ?_);cases ND:o.op<;>rw[ND] at tT<;>simp only[fz,Option.some.injEq,reduceCtorEq] at tT<;>subst tT<;>simp[Op.operands]
    have place:∀k,((F j).ev ad).kP=some k→∃p,β k=some p∧k<(S j).bs.length:=by
     intro k hk;have hv:=sL (hG _ (fG _ _ _) zo) ad;rw[Ky] at hv
     have cut:(∃p,(if k<(S j).bs.length then β k else none)=some p)→∃p,β k=some p∧k<(S j).bs.length:=by
      rintro⟨p,hp⟩
      split at hp
      ·exact⟨p,hp,by assumption⟩
      ·cases hp
     cases hd:(F j).ev ad with
     |ptr k' v off=>
      rw[hd] at hk hv;simp only[D.kP,Option.some.injEq] at hk;subst hk;obtain⟨_,_,hp,_⟩:=bz hv;exact cut hp
     |win k' v off len sz=>
      rw[hd] at hk hv;simp only[D.kP,Option.some.injEq] at hk;subst hk;obtain⟨_,_,_,_,hp,_⟩:=dj hv;exact cut hp
     |_=>rw[hd] at hk;simp[D.kP] at hk
    have same:∀k,((F j).ev ad).kP=some k→(S j).bs[k]?=some (Hs S sg k)∧(sg k≤j∨kA (some k) (S j) (S (sg k))=true):=by
     intro k hk;obtain⟨p,hp,iQ⟩:=place k hk;obtain⟨d1,d2,d3⟩:=h.dom k p hp
     have fin:(S j).bs[k]?=(S (sg k)).bs[k]?:=by
      rcases Nat.le_total (sg k) j with hle|hle
      ·refine ia dg ht j hle (by omega) k d1 fun q FB kR=>?_
       by_cases he:dh pv ops F q
       ·right;have HF:k<(S q).bs.length:=Nat.lt_of_lt_of_le d1 (b_ dg ht q (sg k) FB (by omega)).len
        have OJ:E q=false:=by
         cases hE:E q with
         |false=>rfl
         |true=>have:=h.sg2 k p hp q hE he HF;omega
        obtain⟨x,x1,x2,x3⟩:=he
        have hl:listed dy q j=true:=by
         cases hl:listed dy q j with
         |true=>rfl
         |false=>have:=C1 q x kR x1 (by simp[jg,x2,Bz,hl]);rw[OJ] at this;cases this
        exact(f_ j q o ad k x ho tT NS hk x1 (kN x2).2 x3 (fun _=>hl) (fun h'=>by omega)).1
       ·exact .inl he
      ·rcases Nat.eq_or_lt_of_le hle with heq|hlt
       ·rw[heq]
       rcases d3 with d3|⟨j',q1,q2,q3⟩
       ·omega
       have xX:dh pv ops F j':=by
        rcases q3 with q3|q3
        ·exact q3
        ·have:=(b_ dg ht j' j (by omega) (by have:=h.bnd j' q1;omega)).len;omega
       symm
       refine ia dg ht (sg k) hle d2 k iQ fun q FB kR=>?_
       by_cases he:dh pv ops F q
       ·right
        have Sv:j<q:=by
         rcases Nat.eq_or_lt_of_le FB with h'|h'
         ·subst h';exact absurd he hne
         ·exact h'
        have OJ:E q=true:=by
         rcases Nat.lt_or_ge q j' with h'|h'
         ·obtain⟨x,x1,x2,_⟩:=he;obtain⟨y,y1,y2,_⟩:=xX;obtain⟨n1,n2⟩:=kN y2;exact j4 lJ h' x1 y1 (by simp[jg,x2,n1,n2]) h.clo q1
         ·have:q=j':=by omega
          rw[this];exact q1
        obtain⟨x,x1,x2,x3⟩:=he
        have hl:listed dy j q=true:=by
         cases hl:listed dy j q with
         |true=>rfl
         |false=>have:=C2 q x Sv x1 (by simp[jg,x2,Bz,hl]);rw[OJ] at this;cases this
        exact(f_ j q o ad k x ho tT NS hk x1 (kN x2).2 x3 (fun h'=>by omega) (fun _=>hl)).1
       ·exact .inl he
     refine⟨?_,?_⟩
     ·rw[fin,List.getElem?_eq_getElem d1];simp only[Hs];rw[List.getElem?_eq_getElem d1];rfl
     ·rcases Nat.lt_or_ge j (sg k) with hlt|hge
      ·right
       rcases d3 with d3|⟨j',q1,q2,q3⟩
       ·omega
       have xX:dh pv ops F j':=by
        rcases q3 with q3|q3
        ·exact q3
        ·have:=(b_ dg ht j' j (by omega) (by have:=h.bnd j' q1;omega)).len;omega
       have Qv:j<j':=by
        rcases Nat.lt_or_ge j j' with h'|h'
        ·exact h'
        ·have:j=j':=by omega
         subst this;exact absurd xX hne
       obtain⟨x,x1,x2,x3⟩:=xX
       have hl:listed dy j j'=true:=by
        cases hl:listed dy j j' with
        |true=>rfl
        |false=>have:=C2 j' x Qv x1 (by simp[jg,x2,Bz,hl]);rw[q1] at this;cases this
       have:=(f_ j j' o ad k x ho tT NS hk x1 (kN x2).2 x3 (fun h'=>by omega) (fun _=>hl)).2 Qv;rw[q2];exact this
      ·exact .inl hge
    let T:St:=⟨(List.range (S j).bs.length).map fun k=>if((F j).ev ad).kP=some k then Hs S sg k else IM (β k) (Hs S sg k),(S j).flr,(S j).ro⟩
    have Tl:T.bs.length=(S j).bs.length:=by simp[T]
    have Tg:∀k,k<(S j).bs.length→T.bs[k]?=some (if((F j).ev ad).kP=some k then Hs S sg k else IM (β k) (Hs S sg k)):=by
     intro k hk;simp[T,hk]
    have Tv:∀k p,k<(S j).bs.length→β k=some p→T.aq k=bV (Hs S sg k):=by
     intro k p hk hp;simp only[St.aq,Tg k hk,Option.bind_some]
     split
     ·rfl
     ·rw[hp];exact(tP (x':=Xm S sg β Z 0) (h.box k p.1 p.2 hp) p).2
    have Ts:=CC T Tl rfl rfl Tv fun k b base bx hk hp fL=>by
     rw[Tg k hk] at fL;cases fL
     split
     ·rename_i hbk;obtain⟨e1,e2⟩:=same k hbk;have fL:=h.box k b base hp
      rcases Nat.lt_or_ge j (sg k) with hlt|hge
      ·refine fU.aP ?_ (I' T j (Nat.le_refl _) Tl Tv) rfl;exact F4 dg ht (by omega) (h.dom k _ hp).2.1 fL e1 (e2.resolve_left (by omega))
      ·exact fL.aP (I' T (sg k) hge Tl Tv) rfl
     ·rw[hp];exact(tP (h.box k b base hp) _).1
    rw[uX nZ] at eT;obtain⟨Ug,Ud⟩:=GY tT eT
    have Kz:=Ud T fun k hk=>by
     rw[Ky] at hk;obtain⟨p,hp,iQ⟩:=place k hk;rw[Tg k iQ,if_pos hk,(same k hk).1]
    rw[←uX (cf:=cf) nZ] at Kz
    exact ox ok dg Ts (hG _ Tl Tv) Kz fun v w' β' Z' hn hv hq=>hollow T T w' β' Z' v Tl rfl Tv hne (.inl ⟨Ug,rfl⟩) hn hv (hq (by
     cases he:dL pv o with
     |false=>rfl
     |true=>rw[(kN he).2] at nZ;cases nZ))
   |false=>
    have sb:∀k p,β k=some p→k<(S j).bs.length→sg k≤j∧Hs S sg k=((S j).bs[k]?).getD .dead∧(S j).bs[k]?=some (Hs S sg k):=by
     intro k p hk iQ;refine uL dg ht h (by omega) (fun i hi he=>?_) (fun i hi he=>?_) hk iQ
     ·obtain⟨x,h1,h2,_⟩:=he;exact C1 i x hi h1 (by simp[jg,h2,Bz,nZ])
     ·rcases Nat.lt_or_ge j i with h'|h'
      ·obtain⟨x,h1,h2,_⟩:=he;exact C2 i x h' h1 (by simp[jg,h2,Bz,nZ])
      ·have:i=j:=by omega
       rw[this];exact hj
    have L0:∀k p,k<(S j).bs.length→β k=some p→(S j).aq k=bV (Hs S sg k):=fun k p hk hp=>by simp only[St.aq,(sb k p hp hk).2.2,Option.bind_some]
    have Ue:=CC (S j) rfl rfl rfl L0 fun k b base bx hk hp fL=>by
     obtain⟨s1,_,s3⟩:=sb k _ hp hk;rw[s3] at fL;cases fL;exact(h.box k b base hp).aP (I' (S j) (sg k) s1 rfl L0) rfl
    refine ox ok dg Ue (hG _ rfl L0) eT fun v w' β' Z' hn hv hq=>?_;have lk:∀k p,β' k=some p→k<(S (j+1)).bs.length:=fun k p hp=>hn.sim.dom k p.1 p.2 hp
    have GZ:∀k p,k<(S j).bs.length→β' k=some p→∃q,β k=some q:=by
     intro k p hk hp
     cases hβ:β k with
     |some q=>exact⟨q,rfl⟩
     |none=>
      have:=(hn.vf k hk (by simp only[if_pos hk];exact hβ)).1;rw[hp] at this;cases this
    have same:∀k p,β' k=some p→(S (j+1)).bs[k]?=some (Hs S (dN pv ops F S j (j+1) sg) k):=by
     intro k p hp;have kV:=lk k p hp
     by_cases hc:dh pv ops F j∨(S j).bs.length≤k
     ·have nY:dN pv ops F S j (j+1) sg k=j+1:=by simp only[dN];rw[if_pos ⟨kV,hc⟩]
      simp only[Hs,nY];rw[List.getElem?_eq_getElem kV];rfl
     ·have nY:dN pv ops F S j (j+1) sg k=sg k:=by simp only[dN];rw[if_neg fun h'=>hc h'.2]
      have hk:k<(S j).bs.length:=by
       rcases Nat.lt_or_ge k (S j).bs.length with h'|h'
       ·exact h'
       ·exact absurd (.inr h') hc
      obtain⟨q,rD⟩:=GZ k p hk hp;have:=(k_ dg ht j vQ).2 (fun h'=>hc (.inl h')) k hk;rw[this,(sb k q rD hk).2.2];simp only[Hs,nY]
    refine hK _ _ _ _ _ (h.put dg ht hj ho (gA E j) CY zk QD h0.ro hn rfl rfl rfl hv L0 (Nat.le_refl _) (by omega) (fun i h1 h2=>?_) (.inl rfl) (fun k p hp=>by simp only[St.aq,same k p hp,Option.bind_some]) (fun k b base hp _=>hn.sim.box k b base _ hp (same k _ hp)) (fun hne=>hq ?_) fun _=>⟨rfl,rfl⟩)
    ·rcases Nat.lt_or_ge j i with h'|h'
     ·obtain⟨x,p1,p2,_⟩:=h2;have:=C2 i x h' p1 (by simp[jg,p2,Bz,nZ]);rw[this] at h1;cases h1
     ·omega
    ·cases he:dL pv o with
     |false=>rfl
     |true=>exact absurd ⟨o,ho,he,by rw[L8];exact hw⟩ hne
 ·have MJ:=hw;rw[L8] at hw;rw[oh (hG _ (fG _ _ _) zo) hw];simp only[Bool.false_eq_true,if_false]
  have hne:¬dh pv ops F j:=by
   rintro⟨o',h1,_,h3⟩;rw[ho] at h1;cases h1;rw[MJ] at h3;cases h3
  exact hollow (tQ (S j) β (Hs S sg)) _ w _ Z undef (fG _ _ _) rfl zo hne (.inl ⟨hs,rfl⟩) (Nx.same QH) (by rw[hd];exact .im _ _ (.tup [] [] rfl (by simp))) (Quiet.refl _)
end
end Go.V
namespace Go.V
open Go.RowKit
theorem count_set:∀(l:List Bool) (i:Nat),l[i]?=some false→(l.set i true).count false+1=l.count false
 |[],i,h=>by simp at h
 |b::l,0,h=>by simp at h;subst h;simp
 |b::l,i+1,h=>by
  have:=count_set l i (by simpa using h);simp only[List.set_cons_succ,List.count_cons];omega
theorem yp {l:List Bool} (h:l.count false=0) (i:Nat) (hi:i<l.length):l[i]?=some true:=by
 rw[List.count_eq_zero] at h;rw[List.getElem?_eq_getElem hi]
 cases hb:l[i] with
 |true=>rfl
 |false=>exact absurd (hb▸List.getElem_mem hi) h
section
variable{pv:Pv} {P:Program} (ok:pv.Ok P) {cf:df} (dg:gf P pv cf) {ops:Array Oper} {F:Nat→Fr} {S:Nat→St} {dd:Nat→D} (ht:Trace pv cf ops ops.toList F S dd) {dy:List (Nat×Nat)} (lJ:jr pv ops dy=true) (f_:Still dy ops F S)
include dg ht
theorem DI.start {a:Act} {w:World} {β:Nat→Option (Nat×Nat)} {Z:Nat→Prop} (h:eP w (S 0) β Z) (hf:l6 w ((S 0).x β Z) (F 0) a.tmps) {E:Nat→Bool} (hE:∀k,E k=false):DI pv ops F S dd a w β Z E a w β Z (fun _=>0):=by
 have ne:∀{k:Nat},E k=true→False:=fun hk=>by rw[hE] at hk;cases hk
 have kp:∀m,m≤ops.size→cx w ((S 0).x β Z) w (Xm S (fun _=>0) β Z m):=by
  intro m hm;have hl:=(b_ dg ht m 0 (by omega) hm).len
  have key:∀k p,β k=some p→(Xm S (fun _=>0) β Z m).β k=some p:=by
   intro k p hp;have:=h.dom k p.1 p.2 hp;simp only[Xm];rw[if_pos (by omega)];exact hp
  refine⟨fun k p hp=>⟨p,key k p hp⟩,fun b hb=>⟨hb,rfl⟩,fun k c p hp hc=>⟨c,?_,Nat.le_refl _⟩,fun k c _ _ b base hb=>⟨key k _ hb,rfl⟩⟩;simp only[Xm,Hs] at hc;simp only[St.x,St.aq]
  cases hk:(S 0).bs[k]? with
  |none=>rw[hk] at hc;cases hc
  |some bx=>rw[hk] at hc;exact hc
 have lw:∀t,cL ops E t ops.size=none:=by
  intro t;have s:=ek ops E t ops.size
  cases hl:cL ops E t ops.size with
  |none=>rfl
  |some j=>rw[hl] at s;exact(ne s.2.1).elim
 refine⟨rfl,rfl,fun k o hk=>(ne hk).elim,fun k hk=>(ne hk).elim,fun k p hp=>⟨h.dom k p.1 p.2 hp,Nat.zero_le _,.inl rfl⟩,fun k p hp i hi h1 h2=>?_,fun k p _ j hj=>(ne hj).elim,fun k _ j hj=>(ne hj).elim,h.lt,h.inj,h.zd,h.zl,fun k b base hb=>?_,fun t=>?_,zT.refl _ _,kp _ (Nat.le_refl _),
  fun k b base hb=>.inl ⟨base,hb⟩,fun b hb=>.inl hb,fun _ _=>rfl,fun _ _ h=>h⟩
 ·have h3:=h.dom k p.1 p.2 hp;have:=(b_ dg ht i 0 (by omega) (by omega)).len;omega
 ·have hk:=h.dom k b base hb;refine(h.box k b base _ hb ?_).aP (kp 0 (Nat.zero_le _)) rfl;simp only[Hs];rw[List.getElem?_eq_getElem hk];rfl
 ·simp only[IB,val,lw t];exact(hf t).mono (kp 0 (Nat.zero_le _))
theorem DI.finish {a0 a:Act} {w0 w:World} {β0 β:Nat→Option (Nat×Nat)} {Z0 Z:Nat→Prop} {E:Nat→Bool} {sg:Nat→Nat} (h:DI pv ops F S dd a0 w0 β0 Z0 E a w β Z sg) (h0:eP w0 (S 0) β0 Z0) (hE:∀k,k<ops.size→E k=true):
  Nx w0 (S 0) β0 Z0 w (S ops.size) β Z∧l6 w ((S ops.size).x β Z) (F ops.size) a.tmps:=by
 have hg:=b_ dg ht ops.size 0 (Nat.zero_le _) (Nat.le_refl _)
 have PH:∀j,dh pv ops F j→j<ops.size:=by
  rintro j ⟨o,ho,_⟩
  rcases Nat.lt_or_ge j ops.size with h'|h'
  ·exact h'
  ·rw[Array.getElem?_eq_none h'] at ho;cases ho
 have hdm:∀k p,β k=some p→k<(S ops.size).bs.length:=by
  intro k p hp;obtain⟨h1,h2,_⟩:=h.dom k p hp;exact Nat.lt_of_lt_of_le h1 (b_ dg ht ops.size (sg k) h2 (Nat.le_refl _)).len
 have sb:∀k p,β k=some p→sg k≤ops.size∧Hs S sg k=((S ops.size).bs[k]?).getD .dead∧(S ops.size).bs[k]?=some (Hs S sg k):=fun k p hk=>
  uL dg ht h (Nat.le_refl _) (fun j hj _=>hE j hj) (fun j hj he=>by have:=PH j he;omega) hk (hdm k p hk)
 have kx:∀m,m≤ops.size→cx w (Xm S sg β Z m) w ((S ops.size).x β Z):=by
  intro m hm
  have key:∀k p,(Xm S sg β Z m).β k=some p→β k=some p:=by
   intro k p hp;simp only[Xm] at hp
   split at hp
   ·exact hp
   ·cases hp
  refine⟨fun k p hp=>⟨p,key k p hp⟩,fun b hb=>⟨hb,rfl⟩,fun k c p hp hc=>⟨c,?_,Nat.le_refl _⟩,fun k c _ _ b base hb=>⟨key k _ hb,rfl⟩⟩;simp only[St.x,St.aq,(sb k p (key k p hp)).2.2,Option.bind_some] at hc;exact hc
 refine⟨⟨⟨fun k b base hb=>hdm k _ hb,h.lt,h.inj,h.zd,h.zl,fun k b base bx hb fL=>?_,?_,?_⟩,h.keeps.trans (kx _ (Nat.le_refl _)),h.evo,h.fresh,h.zfresh,hg.len,hg.flr,hg.ro,fun k hk=>⟨hg.low k hk (Nat.lt_of_lt_of_le hk h0.ro),h.low k hk⟩,fun k hk xW=>⟨h.vf k hk xW,?_⟩⟩,fun t=>?_⟩
 ·obtain⟨s1,_,s3⟩:=sb k _ hb;rw[s3] at fL;cases fL;exact(h.box k b base hb).aP (kx _ s1) rfl
 ·rw[hg.flr];exact Nat.le_trans h0.flr hg.len
 ·rw[hg.ro];exact Nat.le_trans h0.ro hg.len
 ·refine ia dg ht ops.size (Nat.zero_le _) (Nat.le_refl _) k hk fun q _ hq=>?_
  by_cases he:dh pv ops F q
  ·exact .inr (h.ph k (h.vf k hk xW) q (hE q hq) he (Nat.lt_of_lt_of_le hk (b_ dg ht q 0 (by omega) (by omega)).len))
  ·exact .inl he
 ·have hl:cL ops E t ops.size=cL ops (fun _=>true) t ops.size:=pz fun i o h1 _=>⟨fun⟨hi,_⟩=>⟨hi,rfl⟩,fun⟨hi,_⟩=>⟨hi,hE i hi⟩⟩
  have hf:=h.frame t;have MQ:=(ma ht t ops.size (Nat.le_refl _)).1;have s:=ek ops (fun _=>true) t ops.size;simp only[val,IB,hl] at hf;rw[MQ]
  cases hq:cL ops (fun _=>true) t ops.size with
  |none=>rw[hq] at hf;exact hf.mono (kx 0 (Nat.zero_le _))
  |some i=>rw[hq] at hf s;exact hf.mono (kx (i+1) s.1)
include ok lJ f_
theorem DI.all {Q:Exit→Act→World→Prop} {a0:Act} {w0:World} {β0:Nat→Option (Nat×Nat)} {Z0:Nat→Prop} (h0:eP w0 (S 0) β0 Z0) (Dm:sN ops.toList a0.tmps.size)
  (K:∀a' w' β' Z',Nx w0 (S 0) β0 Z0 w' (S ops.size) β' Z'→l6 w' ((S ops.size).x β' Z') (F ops.size) a'.tmps→a'.defers=a0.defers→a'.tmps.size=a0.tmps.size→Q .normal a' w'):
  ∀(fuel:Nat) (listed:Array Bool) (a:Act) (w:World) (β:Nat→Option (Nat×Nat)) (Z:Nat→Prop) (sg:Nat→Nat),listed.size=ops.size→listed.toList.count false=fuel→
   DI pv ops F S dd a0 w0 β0 Z0 (fun k=>listed.getD k false) a w β Z sg→wpAny P .any ops Q fuel listed a w:=by
 have fin:∀(listed:Array Bool) (a:Act) (w:World) (β:Nat→Option (Nat×Nat)) (Z:Nat→Prop) (sg:Nat→Nat),DI pv ops F S dd a0 w0 β0 Z0 (fun k=>listed.getD k false) a w β Z sg→(∀k,k<ops.size→listed.getD k false=true)→Q .normal a w:=by
  intro listed a w β Z sg h lM;obtain⟨h1,h2⟩:=h.finish dg ht h0 lM;exact K a w β Z h1 h2 h.defers h.size
 intro fuel
 induction fuel with
 |zero=>
  intro listed a w β Z sg hsz hc h
  have lM:∀k,k<ops.size→listed.getD k false=true:=by
   intro k hk;have:=yp hc k (by simpa[hsz] using hk);rw[Array.getElem?_toList] at this;simp[Array.getD_eq_getD_getElem?,this]
  refine⟨?_,fin listed a w β Z sg h lM⟩;rw[List.eq_nil_iff_forall_not_mem];intro j hj;rw[mem_ready] at hj;obtain⟨h1,o,ho,_⟩:=hj;have vQ:=(Array.getElem?_eq_some_iff.1 ho).1;have:=lM j vQ;have iS:j<listed.size:=by omega
  simp only[Array.getD_eq_getD_getElem?,Array.getElem?_eq_getElem iS,Option.getD_some] at h1 this;rw[h1] at this;cases this
 |succ fuel ih=>
  intro listed a w β Z sg hsz hc h;refine⟨fun C9=>fin listed a w β Z sg h ?_,fun j hj=>?_⟩
  ·intro k
   induction k using Nat.strongRecOn with
   |_ k RX=>
    intro hk
    cases hb:listed.getD k false with
    |true=>rfl
    |false=>
     have fS:k<listed.size:=by omega
     have:k∈Region.ready .any ops listed:=by
      rw[mem_ready];refine⟨by simp only[Array.getD_eq_getD_getElem?,Array.getElem?_eq_getElem fS,Option.getD_some] at hb⊢;exact hb,ops[k],Array.getElem?_eq_getElem hk,fun e he hbd=>?_⟩;have hlt:=xu lJ (Array.getElem?_eq_getElem hk) (by simpa using he) hbd;exact RX e.on hlt (by omega)
     rw[C9] at this;cases this
  ·rw[mem_ready] at hj;obtain⟨h1,o,ho,h2⟩:=hj;have vQ:=(Array.getElem?_eq_some_iff.1 ho).1;have iS:j<listed.size:=by omega
   have Qw:listed[j]?=some false:=by
    simp only[Array.getD_eq_getD_getElem?,Array.getElem?_eq_getElem iS,Option.getD_some] at h1;rw[Array.getElem?_eq_getElem iS,h1]
   refine h.step ok dg ht lJ f_ h0 ho (by simp[Array.getD_eq_getD_getElem?,Qw]) (fun e he hb=>h2 e (by simpa using he) hb) Dm fun a' w' β' Z' Mi h'=>ih _ a' w' β' Z' Mi (by simp[hsz]) ?_ ?_
   ·have:=count_set listed.toList j (by rw[Array.getElem?_toList];exact Qw);rw[Array.toList_setIfInBounds];omega
   ·have he:(fun k=>(listed.setIfInBounds j true).getD k false)=yD (fun k=>listed.getD k false) j:=by
     funext k
     by_cases iQ:j=k
     ·subst iQ;simp[yD,iS]
     ·rw[getD_set_ne false iQ]
      have:Nat.beq k j=false:=by
       cases hb:Nat.beq k j with
       |false=>rfl
       |true=>exact absurd (Nat.eq_of_beq_eq_true hb).symm iQ
      simp[yD,this]
    rw[he];exact h'
end
theorem z7 {ops:Array Oper} {F:Nat→Fr} {S:Nat→St}:Still [] ops F S:=by
 intro r q y a k x hy ha hw hk hx Hd Qk h1 h2
 rcases Nat.lt_trichotomy q r with h'|h'|h'
 ·have:=h1 h';simp[listed] at this
 ·subst h';rw[hx] at hy;cases hy;unfold Ef at Hd;rw[ha] at Hd;cases Hd
 ·have:=h2 h';simp[listed] at this
theorem Ap {pv:Pv} {cf:df} {ops:Array Oper} {dy:List (Nat×Nat)} {fr ax:Fr} {st ab:St} (h:uU pv cf ops dy fr st=some (ax,ab)):
  ∃(F:Nat→Fr) (S:Nat→St) (dd:Nat→D),F 0=fr∧S 0=st∧F ops.size=ax∧S ops.size=ab∧Trace pv cf ops ops.toList F S dd∧Still dy ops F S:=by
 unfold uU at h
 split at h
 ·obtain⟨F,S,dd,KG,H4,H8,H3,ht⟩:=trace ops.toList fr st ax ab h;rw[Array.length_toList] at H8 H3;exact⟨F,S,dd,KG,H4,H8,H3,ht,z7⟩
 ·obtain⟨F,S,dd,KG,H4,H8,H3,ht,hl⟩:=BK ops.toList 0 [] fr st ax ab rfl h;rw[Array.length_toList] at H8 H3;exact⟨F,S,dd,KG,H4,H8,H3,ht,BP hl⟩
theorem o8 {pv:Pv} {cf:df} {ops:Array Oper} {dy:List (Nat×Nat)}:∀(l:List Oper) (j:Nat) (log:Log) (fr:Fr) (st:St) (r:Fr×St),nV pv cf ops dy j log l fr st=some r→gE pv cf ops l fr st=some r
 |[],j,log,fr,st,r,h=>by simpa only[nV,gE] using h
 |o::l,j,log,fr,st,r,h=>by
  simp only[nV] at h;simp only[gE]
  cases hw:av ops fr o with
  |none=>rw[hw] at h;cases h
  |some b=>
   rw[hw] at h
   cases b with
   |true=>
    simp only at h⊢
    cases eT:dG pv cf fr st o with
    |none=>rw[eT] at h;cases h
    |some q=>
     obtain⟨d,st1⟩:=q;rw[eT] at h;simp only at h⊢
     cases hc:DS dy j log o fr st st1 with
     |true=>rw[hc] at h;exact o8 l _ _ _ _ _ h
     |false=>rw[hc] at h;cases h
   |false=>simp only at h⊢;exact o8 l _ _ _ _ _ h
theorem uT {pv:Pv} {cf:df} {ops:Array Oper} {dy:List (Nat×Nat)} {fr:Fr} {st:St} {r:Fr×St} (h:uU pv cf ops dy fr st=some r):gE pv cf ops ops.toList fr st=some r:=by
 unfold uU at h
 split at h
 ·exact h
 ·exact o8 _ _ _ _ _ _ h
theorem F0 {pv:Pv} {P:Program} (ok:pv.Ok P) {cf:df} (dg:gf P pv cf) {id:Nat} {ops:Array Oper} {dy:List (Nat×Nat)} (lJ:jr pv ops dy=true) {fr ax:Fr} {st ab:St} (hs:uU pv cf ops dy fr st=some (ax,ab))
  {w:World} {β:Nat→Option (Nat×Nat)} {Z:Nat→Prop} (h:eP w st β Z) {a:Act} (hf:l6 w (st.x β Z) fr a.tmps) (hd:sN ops.toList a.tmps.size) {Q:Exit→Act→World→Prop}
  (K:∀a' w' β' Z',Nx w st β Z w' ab β' Z'→l6 w' (ab.x β' Z') ax a'.tmps→a'.defers=a.defers→a'.tmps.size=a.tmps.size→Q .normal a' w'):(Code.region id ops true).wp P Q a w:=by
 obtain⟨F,S,dd,KG,H4,H8,H3,ht,f_⟩:=Ap hs;refine wp_region_any ok.mixed ?_;have hn:Nx w st β Z {w with drawn:=w.drawn+1} st β Z:=Nx.still h rfl rfl rfl rfl;have h0:eP {w with drawn:=w.drawn+1} (S 0) β Z:=by rw[H4];exact hn.sim
 have T0:l6 {w with drawn:=w.drawn+1} ((S 0).x β Z) (F 0) a.tmps:=by rw[H4,KG];exact hf.mono hn.keeps
 refine DI.all ok dg ht lJ f_ h0 hd (fun a' w' β' Z' C_ ru h1 h2=>?_) ops.size _ a _ β Z (fun _=>0) (by simp) (by simp) (DI.start dg ht h0 T0 fun k=>?_)
 ·rw[H3] at C_ ru;rw[H8] at ru;rw[H4] at C_;exact K a' w' β' Z' (hn.trans C_) ru h1 h2
 ·simp only[Array.getD_eq_getD_getElem?,Array.getElem?_replicate]
  split<;>rfl
end Go.V
namespace Go.V
open Go.RowKit
def Out.ex:Out→Exit
 | .next=>.normal
 | .exit id=>.exit id
 | .ret=>.ret
def codeOk (pv:Pv) (dyn:List (Nat×List (Nat×Nat))) (n:Nat):Code→Bool
 | .region id ops d=>(ops.toList.all fun o=>match o.dst with|some t=>Nat.blt t n|none=>true) &&(!d||jr pv ops (fg id dyn))
 | .seq a b=>codeOk pv dyn n a &&codeOk pv dyn n b
 | .cond _ a b=>codeOk pv dyn n a &&codeOk pv dyn n b
 | .block _ c=>codeOk pv dyn n c
 | .loop c=>codeOk pv dyn n c
 |_=>true
theorem we {l:List Oper} {n:Nat} (h:(l.all fun o=>match o.dst with|some t=>Nat.blt t n|none=>true)=true):sN l n:=by
 intro o ho t hd;have:=List.all_eq_true.1 h o ho;rw[hd] at this;simp only at this;exact Nat.le_of_ble_eq_true this
theorem least (p:Nat→Prop):∀n,p n→∃m,p m∧∀k,p k→m≤k:=by
 intro n
 induction n using Nat.strongRecOn with
 |_ n ih=>
  intro hn
  by_cases h:∃k,k<n∧p k
  ·obtain⟨k,hk,hp⟩:=h;exact ih k hk hp
  ·refine⟨n,hn,fun k hk=>?_⟩
   rcases Nat.lt_or_ge k n with h'|h'
   ·exact absurd ⟨k,h',hk⟩ h
   ·exact h'
open Classical in
noncomputable def mu (p:Nat→Prop):Nat:=if h:∃m,p m∧∀k,p k→m≤k then Classical.choose h else 0
theorem y8 {p:Nat→Prop} {n:Nat} (h:p n):p (mu p)∧∀k,p k→mu p≤k:=by
 have he:=least p n h;unfold mu;rw[dif_pos he];exact Classical.choose_spec he
theorem lT {w:World} {x:X} {fr:Fr} {tmps:Array Value} (h:l6 w x fr tmps):l6 w x fr.clean tmps:=by
 intro t;have:=h t;simp only[Fr.clean,Fr.get] at this⊢
 cases hb:Nat.ble fr.n t with
 |false=>rw[hb] at this;exact this
 |true=>exact .junk _ _ _
section
variable{pv:Pv} {P:Program} (ok:pv.Ok P) {cf:df} (dg:gf P pv cf)
include dg
theorem mD {ops:Array Oper}:∀{l:List Oper} {fr ax:Fr} {st ab:St},gE pv cf ops l fr st=some (ax,ab)→cX st ab
 |[],fr,ax,st,ab,h=>by simp only[gE] at h;cases h;exact .refl _
 |o::l,fr,ax,st,ab,h=>by
  simp only[gE] at h
  split at h
  ·split at h
   ·rename_i eT;exact(o9 dg eT).1.trans (mD h)
   ·cases h
  ·exact mD h
  ·cases h
omit dg in
theorem sD {step:Fr→St→Option (Out×Fr×St)} (hs:∀fr st out ax ab,step fr st=some (out,ax,ab)→cX st ab):∀(m:Nat) {fr ax:Fr} {st ab:St} {out:Out},iter step m fr st=some (out,ax,ab)→cX st ab
 |0,_,_,_,_,_,h=>by cases h
 |m+1,fr,ax,st,ab,out,h=>by
  simp only[iter] at h
  split at h
  ·rename_i h1;exact(hs _ _ _ _ _ h1).trans (sD hs m h)
  ·exact hs _ _ _ _ _ h
theorem mY (dyn:List (Nat×List (Nat×Nat))) (n:Nat):∀(c:Code) {fr ax:Fr} {st ab:St} {out:Out},bn pv cf dyn n c fr st=some (out,ax,ab)→cX st ab:=by
 intro c
 induction c with
 |skip=>intro fr ax st ab out h;simp only[bn] at h;cases h;exact .refl _
 |region id ops d=>
  intro fr ax st ab out h;simp only[bn] at h
  split at h
  ·rename_i eT;cases h;exact mD dg (uT eT)
  ·cases h
 |seq a b Ej Ha=>
  intro fr ax st ab out h;simp only[bn] at h
  split at h
  ·rename_i h1;exact(Ej h1).trans (Ha h)
  ·exact Ej h
 |cond c a b Ej Ha=>
  intro fr ax st ab out h;simp only[bn] at h
  split at h
  ·exact Ej h
  ·exact Ha h
  ·cases h
 |block id c ih=>
  intro fr ax st ab out h;simp only[bn] at h
  split at h
  ·rename_i h1
   split at h<;>cases h<;>exact ih h1
  ·exact ih h
 |loop c ih=>
  intro fr ax st ab out h;simp only[bn] at h;exact sD (fun _ _ _ _ _=>ih) n h
 |exit id=>intro fr ax st ab out h;simp only[bn] at h;cases h;exact .refl _
 |ret=>intro fr ax st ab out h;simp only[bn] at h;cases h;exact .refl _
 |_=>intro fr ax st ab out h;simp only[bn] at h;cases h
include ok
theorem F7 (dyn:List (Nat×List (Nat×Nat))) (n sz:Nat):∀(c:Code),codeOk pv dyn sz c=true→∀{fr ax:Fr} {st ab:St} {out:Out},bn pv cf dyn n c fr st=some (out,ax,ab)→
  ∀{w:World} {β:Nat→Option (Nat×Nat)} {Z:Nat→Prop} {a:Act} {Q:Exit→Act→World→Prop},eP w st β Z→l6 w (st.x β Z) fr a.tmps→a.tmps.size=sz→
  (∀a' w' β' Z',Nx w st β Z w' ab β' Z'→l6 w' (ab.x β' Z') ax a'.tmps→a'.defers=a.defers→a'.tmps.size=sz→Q out.ex a' w')→c.wp P Q a w:=by
 intro c
 induction c with
 |skip=>
  intro _ fr ax st ab out h w β Z a Q hs hf hz K;simp only[bn] at h;cases h;exact wp_skip (K a w β Z (Nx.same hs) hf rfl hz)
 |region id ops d=>
  intro hc fr ax st ab out h w β Z a Q hs hf hz K;simp only[bn] at h;simp only[codeOk,Bool.and_eq_true] at hc;have hd:=we hc.1
  split at h
  ·rename_i Ib st1 eT;cases h
   cases d with
   |true=>
    have lJ:jr pv ops (fg id dyn)=true:=by simpa using hc.2
    exact F0 ok dg lJ eT hs (lT hf) (by rw[hz];exact hd) fun a' w' β' Z' h1 h2 h3 h4=>K a' w' β' Z' h1 h2 h3 (h4.trans hz)
   |false=>
    refine wp_region ?_;have:=xt ok dg (ops:=ops) (Q:=Q) ops.toList 0 _ _ st _ β Z a w (fun j=>by simp) (uT eT) hs (lT hf) (by rw[hz];exact hd) fun a' w' β' Z' h1 h2 h3 h4=>K a' w' β' Z' h1 h2 h3 (h4.trans hz);rw[List.range_eq_range']
    simpa using this
  ·cases h
 |seq x y LI Mx=>
  intro hc fr ax st ab out h w β Z a Q hs hf hz K;simp only[codeOk,Bool.and_eq_true] at hc;simp only[bn] at h;refine wp_seq ?_
  split at h
  ·rename_i Ib st1 h1;refine LI hc.1 h1 hs hf hz fun a' w' β' Z' hn ru hd wL=>?_;exact Mx hc.2 h hn.sim ru wL fun U5 I6 rv Es C_ N1 zn Mz=>K U5 I6 rv Es (hn.trans C_) N1 (zn.trans hd) Mz
  ·rename_i hne;refine LI hc.1 h hs hf hz fun a' w' β' Z' hn ru hd wL=>?_;have hK:=K a' w' β' Z' hn ru hd wL
   cases out with
   |next=>exact(hne _ _ h).elim
   |exit id=>exact hK
   |ret=>exact hK
 |cond c x y LI Mx=>
  intro hc fr ax st ab out h w β Z a Q hs hf hz K;simp only[codeOk,Bool.and_eq_true] at hc;simp only[bn] at h;have hv:=sL hf c
  split at h
  ·rename_i hb;rw[hb] at hv;exact wp_cond_true (c8 hv) (LI hc.1 h hs hf hz K)
  ·rename_i hb;rw[hb] at hv;exact wp_cond_false (c8 hv) (Mx hc.2 h hs hf hz K)
  ·cases h
 |block id c ih=>
  intro hc fr ax st ab out h w β Z a Q hs hf hz K;simp only[codeOk] at hc;simp only[bn] at h;refine wp_block ?_
  split at h
  ·rename_i i Ib st1 h1;refine ih hc h1 hs hf hz fun a' w' β' Z' hn ru hd wL=>?_;simp only[Out.ex,Exit.inBlock]
   split at h
   ·rename_i hi;cases h;rw[if_pos hi];exact K a' w' β' Z' hn ru hd wL
   ·rename_i hi;cases h;rw[if_neg hi];exact K a' w' β' Z' hn ru hd wL
  ·rename_i hne;refine ih hc h hs hf hz fun a' w' β' Z' hn ru hd wL=>?_;have hK:=K a' w' β' Z' hn ru hd wL
   cases out with
   |next=>exact hK
   |exit id=>exact(hne _ _ _ h).elim
   |ret=>exact hK
 |loop c ih=>
  intro hc fr ax st ab out h w β Z a Q hs hf hz K;simp only[codeOk] at hc;simp only[bn] at h
  let J:Nat→Act→World→Prop:=fun m a1 w1=>∃Ib st1 β1 Z1,iter (bn pv cf dyn n c) m Ib st1=some (out,ax,ab)∧Nx w st β Z w1 st1 β1 Z1∧l6 w1 (st1.x β1 Z1) Ib a1.tmps∧a1.defers=a.defers∧a1.tmps.size=sz
  refine wp_loop (fun a1 w1=>∃m,J m a1 w1) (fun a1 w1=>mu fun m=>J m a1 w1) ⟨n,fr,st,β,Z,h,Nx.same hs,hf,rfl,hz⟩ ?_;rintro a1 w1 ⟨m0,jB⟩;obtain⟨⟨Ib,st1,β1,Z1,h1,rq,IY,x0,hz1⟩,_⟩:=y8 (p:=fun m=>J m a1 w1) jB;generalize VV:mu (fun m=>J m a1 w1)=m at h1
  cases m with
  |zero=>cases h1
  |succ m=>
   simp only[iter] at h1
   split at h1
   ·rename_i Ia st2 h2;refine ih hc h2 rq.sim (lT IY) hz1 fun a' w' β' Z' hn ru hd wL=>?_
    have hJ:J m a' w':=⟨Ia,st2,β',Z',h1,rq.trans hn,ru,hd.trans x0,wL⟩
    have:=(y8 (p:=fun m=>J m a' w') hJ).2 m hJ;exact⟨⟨m,hJ⟩,by omega⟩
   ·rename_i hne;refine ih hc h1 rq.sim (lT IY) hz1 fun a' w' β' Z' hn ru hd wL=>?_;have hK:=K a' w' β' Z' (rq.trans hn) ru (hd.trans x0) wL
    cases out with
    |next=>exact(hne _ _ h1).elim
    |exit id=>exact hK
    |ret=>exact hK
 |exit id=>
  intro _ fr ax st ab out h w β Z a Q hs hf hz K;simp only[bn] at h;cases h;exact wp_exit (K a w β Z (Nx.same hs) hf rfl hz)
 |ret=>
  intro _ fr ax st ab out h w β Z a Q hs hf hz K;simp only[bn] at h;cases h;exact wp_ret (K a w β Z (Nx.same hs) hf rfl hz)
 |_=>intro _ fr ax st ab out h;simp only[bn] at h;cases h
end
end Go.V
namespace Go.V
open Go.RowKit
def ym (N:Nat) (β:Nat→Option (Nat×Nat)):Nat→Option (Nat×Nat):=fun k=>if k<N then β k else none
def lN (N:Nat) (β:Nat→Option (Nat×Nat)) (Z:Nat→Prop):Nat→Prop:=fun b=>Z b∨∃k base,N≤k∧β k=some (b,base)
theorem VR.cut {w:World} {x x':X} {N:Nat} (hβ:∀k,k<N→x'.β k=x.β k) (hv:∀k,k<N→x'.aq k=x.aq k) (hZ:∀b,x.Z b→x'.Z b) {d:D} {v:Value} (h:VR w x d v):d.ref≤N→VR w x' d v:=by
 induction h with
 |im d v h=>intro _;exact .im d v (h.mono fun b hb=>⟨hZ b hb,rfl⟩)
 |win k vr off len s a cap hc hk hm h=>
  intro hr;simp only[D.ref] at hr;exact .win k vr off len s a cap hc (by rw[hβ k hr];exact hk) (by rw[hv k hr];exact hm) (by rw[hv k hr,hβ k hr];exact h)
 |ptr k vr off a hk hm h=>
  intro hr;simp only[D.ref] at hr;exact .ptr k vr off a (by rw[hβ k hr];exact hk) (by rw[hv k hr];exact hm) (by rw[hv k hr,hβ k hr];exact h)
 |mp k r hk h=>
  intro hr;simp only[D.ref] at hr;exact .mp k r (by rw[hβ k hr];exact hk) (by rw[hv k hr,hβ k hr];exact h)
 |fn f cs vs hl hr ih=>intro hN;simp only[D.ref] at hN;exact .fn f cs vs hl fun i c v hc hv=>ih i c v hc hv (Nat.le_trans (bh (List.mem_of_getElem? hc)) hN)
 |agg cs vs hl h1 hr ih=>intro hN;simp only[D.ref] at hN;exact .agg cs vs hl h1 fun i c v hc hv=>ih i c v hc hv (Nat.le_trans (bh (List.mem_of_getElem? hc)) hN)
 |tup cs vs hl hr ih=>intro hN;simp only[D.ref] at hN;exact .tup cs vs hl fun i c v hc hv=>ih i c v hc hv (Nat.le_trans (bh (List.mem_of_getElem? hc)) hN)
theorem jm {N:Nat} {cs:List D} {vs:List Value} (hl:cs.length=vs.length) (h:∀(i:Nat) c v,cs[i]?=some c→vs[i]?=some v→c.ref≤N):refs cs≤N:=by
 refine ow fun d hd=>?_;obtain⟨i,hi⟩:=List.getElem?_of_mem hd;have hlt:=ej hi;exact h i d _ hi (List.getElem?_eq_getElem (by omega))
theorem IR.ref {w:World} {Z:Nat→Prop} {d:D} {v:Value} (h:IR w Z d v):d.ref≤0:=by
 induction h with
 |agg cs vs hl h1 hr ih=>simp only[D.ref];exact jm hl ih
 |tup cs vs hl hr ih=>simp only[D.ref];exact jm hl ih
 |_=>simp[D.ref]
theorem VR.ref {w:World} {x:X} {N:Nat} (hd:∀k p,x.β k=some p→k<N) {d:D} {v:Value} (h:VR w x d v):d.ref≤N:=by
 induction h with
 |im d v h=>exact Nat.le_trans h.ref (Nat.zero_le _)
 |win k vr off len s a cap hc hk hm h=>obtain⟨p,hp⟩:=hk;simp only[D.ref];exact hd k p hp
 |ptr k vr off a hk hm h=>obtain⟨p,hp⟩:=hk;simp only[D.ref];exact hd k p hp
 |mp k r hk h=>obtain⟨p,hp⟩:=hk;simp only[D.ref];exact hd k p hp
 |fn f cs vs hl hr ih=>simp only[D.ref];exact jm hl ih
 |agg cs vs hl h1 hr ih=>simp only[D.ref];exact jm hl ih
 |tup cs vs hl hr ih=>simp only[D.ref];exact jm hl ih
theorem ju {f:D→Option D}:∀{ds xs:List D},gF f ds=some xs→xs.length=ds.length∧∀(i:Nat) x,xs[i]?=some x→∃d,ds[i]?=some d∧f d=some x
 |[],xs,h=>by simp only[gF] at h;cases h;exact⟨rfl,fun i x hx=>by simp at hx⟩
 |d::ds,xs,h=>by
  simp only[gF] at h
  split at h
  ·rename_i y hy
   split at h
   ·rename_i ys jh;cases h;obtain⟨h1,h2⟩:=ju jh;refine⟨by simp[h1],fun i x hx=>?_⟩
    cases i with
    |zero=>simp at hx;subst hx;exact⟨d,rfl,hy⟩
    |succ i=>simpa using h2 i x (by simpa using hx)
   ·cases h
  ·cases h
theorem sS (s:Nat):∀(n:Nat) (c:List D),(chunk s n c).length=n
 |0,_=>rfl
 |n+1,c=>by simp only[chunk,List.length_cons,sS s n]
theorem sU (s:Nat):∀(n:Nat) (c:List D) (i:Nat) (e:D),n*s≤c.length→(∀x∈c,x.cells?=some [x]∧x.cells=[x])→(chunk s n c)[i]?=some e→
  e.cells?=some e.cells∧e.cells.length=s∧∀(j:Nat) y,e.cells[j]?=some y→c[i*s+j]?=some y
 |0,_,i,e,_,_,h=>by simp[chunk] at h
 |n+1,c,i+1,e,hl,h1,h=>by
  simp only[chunk,List.getElem?_cons_succ] at h;have hs:n*s+s≤c.length:=by rw[Nat.succ_mul] at hl;exact hl
  obtain⟨q1,q2,q3⟩:=sU s n (c.drop s) i e (by simp;omega) (fun x hx=>h1 x (List.mem_of_mem_drop hx)) h;refine⟨q1,q2,fun j y hy=>?_⟩;have:=q3 j y hy;rw[List.getElem?_drop] at this;rw[Nat.succ_mul,←this];congr 1;omega
 |n+1,c,0,e,hl,h1,h=>by
  have hs:s≤c.length:=by rw[Nat.succ_mul] at hl;omega
  simp only[chunk,List.getElem?_cons_zero,Option.some.injEq] at h
  split at h
  ·cases c with
   |nil=>simp at hs
   |cons x c=>
    simp only[List.headD_cons] at h;subst h;obtain⟨q1,q2⟩:=h1 x (List.mem_cons_self ..);refine⟨by rw[q1,q2],by rw[q2];rfl,fun j y hy=>?_⟩;rw[q2] at hy
    cases j with
    |zero=>simpa using hy
    |succ j=>simp at hy
  ·subst h;refine⟨rfl,by simp[D.cells];omega,fun j y hy=>?_⟩;simp only[D.cells] at hy;rw[List.getElem?_take] at hy
   split at hy
   ·simpa using hy
   ·cases hy
theorem xk {st:St} {N n:Nat} {d x:D} (h:dF st N n d=some x):(∃cs,x=.agg cs)∨(x.cells?=some [x]∧x.cells=[x]):=by
 cases n with
 |zero=>cases h
 |succ n=>
  cases d<;>simp only[dF] at h<;>first|(cases h;done)|(cases h;exact .inr ⟨rfl,rfl⟩)|skip
  case win k aq off len sz=>
   split at h
   ·cases h
   ·obtain⟨⟨a,c⟩,_,h⟩:=Option.bind_eq_some_iff.1 h;dsimp only at h
    split at h
    ·obtain⟨r,_,hr⟩:=Option.map_eq_some_iff.1 h;cases hr;exact .inr ⟨rfl,rfl⟩
    ·cases h
  case agg cs=>
   obtain⟨r,_,hr⟩:=Option.map_eq_some_iff.1 h;cases hr;exact .inl ⟨_,rfl⟩
theorem EW {w:World} {st:St} {β:Nat→Option (Nat×Nat)} {Z:Nat→Prop} (h:eP w st β Z) (N:Nat):∀(n:Nat) {d d':D} {v:Value},dF st N n d=some d'→VR w (st.x β Z) d v→IR w (lN N β Z) d' v:=by
 have up:∀{d:D} {v:Value},IR w Z d v→IR w (lN N β Z) d v:=fun hi=>hi.mono fun b hb=>⟨.inl hb,rfl⟩
 intro n
 induction n with
 |zero=>intro d d' v hp;cases hp
 |succ n ih=>
  intro d d' v hp hv;cases d<;>simp only[dF] at hp<;>try(cases hp;done)
  case bool b=>cases hp;rw[c8 hv];exact .bool b
  case int k i=>cases hp;rw[bL hv];exact .int k i
  case str s=>cases hp;rw[dZ hv];exact .str s
  case nul=>cases hp;rw[dp hv];exact .emp none 0
  case sl es=>cases hp;cases hv with|im _ _ hi=>exact up hi
  case pnil=>cases hp;rw[fW hv];exact .pnil
  case nilfn=>cases hp;cases hv with|im _ _ hi=>exact up hi
  case nilif=>cases hp;cases hv with|im _ _ hi=>exact up hi
  case agg cs=>
   obtain⟨xs,hx,hr⟩:=Option.map_eq_some_iff.1 hp;cases hr;obtain⟨vs,rfl,hl,h1,h2⟩:=fM hv;obtain⟨g1,g2⟩:=ju hx;refine .agg xs vs (g1.trans hl) h1 fun i c u hc hu=>?_;obtain⟨d,x0,uj⟩:=g2 i c hc;exact ih uj (h2 i d u x0 hu)
  case win k aq off len s=>
   split at hp
   ·cases hp
   ·rename_i IU;obtain⟨⟨ar,c⟩,hm,hp⟩:=Option.bind_eq_some_iff.1 hp;dsimp only at hp
    split at hp
    ·rename_i jA;obtain⟨xs,hx,hr⟩:=Option.map_eq_some_iff.1 hp;cases hr;obtain⟨a,cap,rfl,Td,_,_,gC⟩:=dj hv;obtain⟨b,base,sz,hb,_,kg⟩:=gC (bX hm).2;have cz:bB w (st.x β Z) b (base+off) ((c.drop off).take (len*s)):=((h.cells hm hb).drop off).take _;obtain⟨g1,g2⟩:=ju hx;have hlen:xs.length=len*s:=by rw[g1];simp;omega
     have hcell:∀(j:Nat) y,xs[j]?=some y→∃u,w.cell? ⟨b,base+off+j,none⟩=some u∧u.oneCell'=true∧IR w (lN N β Z) y u:=by
      intro j y hy;obtain⟨d,x0,uj⟩:=g2 j y hy;obtain⟨u,fZ,ji,mS⟩:=cz j d x0;exact⟨u,fZ,ji,ih uj mS⟩
     have iP:∀x∈xs,x.cells?=some [x]∧x.cells=[x]:=by
      intro x R3;obtain⟨j,hj⟩:=List.getElem?_of_mem R3;obtain⟨d,_,uj⟩:=g2 j x hj;obtain⟨u,_,ji,mS⟩:=hcell j x hj
      rcases xk uj with⟨cs,rfl⟩|h'
      ·cases mS;simp[Value.oneCell'] at ji
      ·exact h'
     rcases kg with rfl|⟨rfl,_⟩
     ·have:len=0:=by omega
      subst this;exact .emp (some a) 0
     ·have hcl:=sS s len xs;have hg:=fun i e=>sU s len xs i e (by omega) iP;have key:∀(i:Nat) e (j:Nat) y,(chunk s len xs)[i]?=some e→e.cells[j]?=some y→∃u,w.cell? ⟨b,base+off+(i*s+j),none⟩=some u∧u.oneCell'=true∧IR w (lN N β Z) y u:=fun i e j y he hy=>hcell _ y ((hg i e he).2.2 j y hy);have:=IR.sl (w:=w) (Z:=lN N β Z) (chunk s len xs) b (base+off) cap s (fun i j=>(w.cell? ⟨b,base+off+(i*s+j),none⟩).getD undef) (.inr ⟨k,base,by omega,hb⟩) (by omega)
       (fun i e he=>⟨(hg i e he).1,(hg i e he).2.1⟩)
       (fun i e j y he hy=>by obtain⟨u,fZ,ji,_⟩:=key i e j y he hy;rw[fZ];exact⟨rfl,ji⟩)
       (fun i e j y he hy=>by obtain⟨u,fZ,_,mS⟩:=key i e j y he hy;rw[fZ];exact mS)
      rw[hcl] at this;exact this
    ·cases hp
theorem Ba {w:World} {st:St} {β:Nat→Option (Nat×Nat)} {Z:Nat→Prop} (h:eP w st β Z) {N:Nat} {x':X} (hβ:∀k,k<N→x'.β k=β k) (Gt:∀k,k<N→x'.aq k=st.aq k) (hZ:x'.Z=lN N β Z) (kn:Bool):
  ∀(n:Nat) {d d':D} {v:Value},aX st N kn n d=some d'→VR w (st.x β Z) d v→VR w x' d' v:=by
 have cut:∀{d:D} {v:Value},VR w (st.x β Z) d v→d.ref≤N→VR w x' d v:=fun hv hr=>hv.cut hβ Gt (fun b hb=>by rw[hZ];exact .inl hb) hr;have im:∀{d:D} {v:Value},IR w (lN N β Z) d v→VR w x' d v:=fun hi=>.im _ _ (by rw[hZ];exact hi);intro n
 induction n with
 |zero=>intro d d' v hp;cases hp
 |succ n ih=>
  intro d d' v hp hv
  cases d<;>simp only[aX] at hp<;>first|(cases hp;exact cut hv (by simp[D.ref]))|skip
  case nul=>
   cases hp
   cases kn with
   |true=>exact cut hv (by simp[D.ref])
   |false=>rw[dp hv];exact im (.emp none 0)
  case win k aq off len s=>
   split at hp
   ·rename_i hk;cases hp;exact cut hv (by simp only[D.ref];omega)
   ·exact im (EW h N n hp hv)
  case ptr k aq off=>
   split at hp
   ·rename_i hk;cases hp;exact cut hv (by simp only[D.ref];omega)
   ·cases hp
  case mp k=>
   split at hp
   ·rename_i hk;cases hp;exact cut hv (by simp only[D.ref];omega)
   ·cases hp
  case fn f hU=>
   split at hp
   ·rename_i hk;cases hp;exact cut hv (by simp only[D.ref];exact hk)
   ·cases hp
  case agg cs=>
   obtain⟨xs,hx,hr⟩:=Option.map_eq_some_iff.1 hp;cases hr;obtain⟨vs,rfl,hl,h1,h2⟩:=fM hv;obtain⟨g1,g2⟩:=ju hx;refine .agg xs vs (g1.trans hl) h1 fun i c u hc hu=>?_;obtain⟨d,x0,uj⟩:=g2 i c hc;exact ih uj (h2 i d u x0 hu)
  case tup cs=>
   obtain⟨xs,hx,hr⟩:=Option.map_eq_some_iff.1 hp;cases hr;obtain⟨vs,rfl,hl,h2⟩:=ta hv;obtain⟨g1,g2⟩:=ju hx;refine .tup xs vs (g1.trans hl) fun i c u hc hu=>?_;obtain⟨d,x0,uj⟩:=g2 i c hc;exact ih uj (h2 i d u x0 hu)
theorem bp (m:Mode) (st:St):(enterSt m st).bs=st.bs:=by cases m<;>rfl
theorem Bd {w:World} {st:St} {β:Nat→Option (Nat×Nat)} {Z:Nat→Prop} (h:eP w st β Z) (m:Mode):eP w (enterSt m st) β Z:=by
 refine⟨fun k b base hk=>by rw[bp];exact h.dom k b base hk,h.lt,h.inj,h.zd,h.zl,fun k b base bx hb fL=>?_,?_,?_⟩
 ·rw[bp] at fL;have:(enterSt m st).x β Z=st.x β Z:=by simp only[St.x];congr 1;funext k;simp only[St.aq,bp]
  rw[this];exact h.box k b base bx hb fL
 ·rw[bp];cases m<;>first|exact Nat.le_refl _|exact h.flr
 ·rw[bp];cases m<;>first|exact Nat.le_refl _|exact h.ro
theorem CI {w w':World} {st st1 ab:St} {β β':Nat→Option (Nat×Nat)} {Z Z':Nat→Prop} (h:eP w st β Z) (m:Mode) (kn:Bool) (hn:Nx w (enterSt m st) β Z w' st1 β' Z') (hg:cX (enterSt m st) st1) {d d':D} {v:Value} (hv:VR w' (st1.x β' Z') d v)
  (hl:bU m kn st st1 d=some (d',ab)):∃rv Es,Nx w st β Z w' ab rv Es∧VR w' (ab.x rv Es) d' v:=by
 by_cases hm:m=.aP
 ·subst hm;simp only[bU] at hl;cases hl;exact⟨β',Z',hn,hv⟩
 by_cases hw:m=.nw
 ·subst hw;simp only[bU] at hl;cases hl;have hx0:(enterSt .nw st).x β Z=st.x β Z:=by simp only[St.x];congr 1
  have hx1:(⟨st1.bs,st.flr,st.ro⟩:St).x β' Z'=st1.x β' Z':=by simp only[St.x];congr 1
  have hlen:st.bs.length≤st1.bs.length:=hn.len
  refine⟨β',Z',⟨⟨hn.sim.dom,hn.sim.lt,hn.sim.inj,hn.sim.zd,hn.sim.zl,fun k b base bx hb fL=>by rw[hx1];exact hn.sim.box k b base bx hb fL,Nat.le_trans h.flr hlen,Nat.le_trans h.ro hlen⟩,by rw[hx1,←hx0];exact hn.keeps,
   hn.evo.mono fun b hb=>?_,hn.fresh,hn.zfresh,hlen,rfl,rfl,fun k hk=>hn.low k (Nat.lt_of_lt_of_le hk h.ro),fun k hk h0=>hn.vf k hk h0⟩,by rw[hx1];exact hv⟩
  obtain⟨k,base,h1,h2⟩:=hb;exact⟨k,base,h1,Nat.le_trans h.ro h2⟩
 have hl:∃dd,aX st1 st.bs.length kn 16 d=some dd∧d'=dd∧ab=⟨st1.bs.take st.bs.length,st.flr,st.ro⟩:=by
  cases m<;>first|exact absurd rfl hm|exact absurd rfl hw|skip
  all_goals
   simp only[bU] at hl
   split at hl
   ·rename_i dd hf;cases hl;exact⟨_,hf,rfl,rfl⟩
   ·cases hl
 obtain⟨dd,hf,rfl,rfl⟩:=hl
 have Dg:(enterSt m st).flr=st.bs.length:=by cases m<;>first|rfl|exact absurd rfl hm|exact absurd rfl hw
 have cZ:st.ro≤(enterSt m st).ro:=by cases m<;>first|exact Nat.le_refl _|exact h.ro
 have hlen:st.bs.length≤st1.bs.length:=by have:=hn.len;rw[bp] at this;exact this
 have hb:∀k,k<st.bs.length→(st1.bs.take st.bs.length)[k]?=st1.bs[k]?:=fun k hk=>by rw[List.getElem?_take,if_pos hk]
 have hx:(enterSt m st).x β Z=st.x β Z:=by simp only[St.x];congr 1;funext k;simp only[St.aq,bp]
 have Gt:∀k,k<st.bs.length→(⟨st1.bs.take st.bs.length,st.flr,st.ro⟩:St).aq k=st1.aq k:=fun k hk=>by simp only[St.aq,hb k hk]
 have hβ:∀k,k<st.bs.length→ym st.bs.length β' k=β' k:=fun k hk=>by simp only[ym,if_pos hk]
 have xQ:∀k p,ym st.bs.length β' k=some p→k<st.bs.length∧β' k=some p:=by
  intro k p hp;simp only[ym] at hp
  split at hp
  ·exact⟨by assumption,hp⟩
  ·cases hp
 refine⟨ym st.bs.length β',lN st.bs.length β' Z',⟨⟨fun k b base hk=>?_,fun k b base hk=>hn.sim.lt k b base (xQ k _ hk).2,fun k k' b y y' h1 h2=>hn.sim.inj k k' b y y' (xQ k _ h1).2 (xQ k' _ h2).2,?_,?_,?_,?_,?_⟩,?_,?_,?_,?_,?_,rfl,rfl,?_,?_⟩,?_⟩
 ·have:=(xQ k _ hk).1;simp;omega
 ·intro k b base hk hz;obtain⟨h1,h2⟩:=xQ k _ hk
  rcases hz with hz|⟨k2,zK,h3,h4⟩
  ·exact hn.sim.zd k b base h2 hz
  ·have:=hn.sim.inj k k2 b _ _ h2 h4;omega
 ·rintro b (hz|⟨k2,zK,_,h4⟩)
  ·exact hn.sim.zl b hz
  ·exact hn.sim.lt k2 b zK h4
 ·intro k b base bx hk fL;obtain⟨h1,h2⟩:=xQ k _ hk;simp only at fL;rw[hb k h1] at fL;have A7:=hn.sim.box k b base bx h2 fL
  have My:∃p,β k=some p:=by
   cases hq:β k with
   |some p=>exact⟨p,rfl⟩
   |none=>
    have:=(hn.vf k (by rw[bp];exact h1) hq).1;rw[h2] at this;cases this
  obtain⟨p,hp⟩:=My
  cases bx with
  |mem vr ar cells=>
   obtain⟨c,el,fr,q1,q2,q3,q4⟩:=A7;refine⟨c,el,fr,q1,q2,q3,fun j e he=>?_⟩;obtain⟨u,u1,u2,u3⟩:=q4 j e he;refine⟨u,u1,u2,u3.cut hβ Gt (fun b hb=>show lN st.bs.length β' Z' b from .inl hb) ?_⟩;have h0:st.bs[k]?=some st.bs[k]:=List.getElem?_eq_getElem h1;have h5:=hg.fl k st.bs[k] _ (by rw[Dg];exact h1) (by rw[bp];exact h0) fL e (List.mem_of_getElem? he)
   have h6:refs (st.bs[k]).cells≤st.bs.length:=ow fun x hx=>by
    have GD:=h.box k p.1 p.2 _ hp h0
    cases hbk:st.bs[k] with
    |mem Ve Wy PN=>
     rw[hbk] at GD hx;obtain⟨_,_,_,_,_,_,r4⟩:=GD;obtain⟨i,hi⟩:=List.getElem?_of_mem hx;obtain⟨_,_,_,r7⟩:=r4 i x hi;exact r7.ref fun k p hp=>h.dom k p.1 p.2 hp
    |_=>rw[hbk] at hx;simp[fV.cells] at hx
   omega
  |iter s pos=>exact A7
  |map e=>exact A7
  |dead=>exact A7
 ·have:=h.flr;simp;omega
 ·have:=h.ro;simp;omega
 ·have hk:=hn.keeps;rw[hx] at hk;refine⟨fun k p hp=>?_,fun b hb=>⟨.inl (hk.z b hb).1,(hk.z b hb).2⟩,fun k c p hp hc=>?_,fun k c hc BC b base hbb=>?_⟩
  ·obtain⟨p',tO⟩:=hk.dm k p hp;exact⟨p',by show ym st.bs.length β' k=some p';rw[hβ k (h.dom k p.1 p.2 hp)];exact tO⟩
  ·exact hk.aq k c p hp (by have:=Gt k (h.dom k p.1 p.2 hp);show st1.aq k=some c;rw[←this];exact hc)
  ·have IU:=h.dom k _ _ hbb;obtain⟨r1,r2⟩:=hk.at_ k c (by show st1.aq k=some c;rw[←Gt k IU];exact hc) BC b base hbb;exact⟨by show ym st.bs.length β' k=_;rw[hβ k IU];exact r1,r2⟩
 ·exact hn.evo.mono fun b ⟨k,base,h1,h2⟩=>⟨k,base,h1,Nat.le_trans cZ h2⟩
 ·intro k b base hk;exact hn.fresh k b base (xQ k _ hk).2
 ·rintro b (hz|⟨k2,zK,h3,h4⟩)
  ·exact hn.zfresh b hz
  ·rcases hn.fresh k2 b zK h4 with⟨ck,h5⟩|h5
   ·have:=h.dom k2 b ck h5;omega
   ·exact .inr h5
 ·simp;omega
 ·intro k hk;have IU:k<st.bs.length:=Nat.lt_of_lt_of_le hk h.ro;obtain⟨r1,r2⟩:=hn.low k (Nat.lt_of_lt_of_le hk cZ);rw[bp] at r1;exact⟨by simp only;rw[hb k IU];exact r1,by rw[hβ k IU];exact r2⟩
 ·intro k hk xW;obtain⟨r1,r2⟩:=hn.vf k (by rw[bp];exact hk) xW;rw[bp] at r2;exact⟨by rw[hβ k hk];exact r1,by simp only;rw[hb k hk];exact r2⟩
 ·exact Ba hn.sim hβ Gt rfl kn 16 hf hv
end Go.V
namespace Go.V
open Go.RowKit
theorem wu {pv:Pv} {dyn:List (Nat×List (Nat×Nat))} {n m:Nat} (HB:n≤m):∀(c:Code),codeOk pv dyn n c=true→codeOk pv dyn m c=true:=by
 intro c
 induction c with
 |region id ops d=>
  intro h;simp only[codeOk,Bool.and_eq_true] at h⊢;refine⟨List.all_eq_true.2 fun o ho=>?_,h.2⟩;have h1:=we h.1 o ho
  cases hd:o.dst with
  |none=>rfl
  |some t=>exact Nat.ble_eq_true_of_le (Nat.le_trans (h1 t hd) HB)
 |seq a b Ej Ha=>intro h;simp only[codeOk,Bool.and_eq_true] at h⊢;exact⟨Ej h.1,Ha h.2⟩
 |cond c a b Ej Ha=>intro h;simp only[codeOk,Bool.and_eq_true] at h⊢;exact⟨Ej h.1,Ha h.2⟩
 |block id c ih=>intro h;simp only[codeOk] at h⊢;exact ih h
 |loop c ih=>intro h;simp only[codeOk] at h⊢;exact ih h
 |_=>intro h;rfl
def kB (tmps:Array Value):ResultVar→Sem Value
 | .tmp t=>pure (tmps.getD t undef)
 | .cell a t=>do loadVar t (←asAddr (tmps.getD a undef))
theorem xf (fn:Func) (tmps:Array Value):results fn tmps=(do let vs←fn.results.mapM (kB tmps);pure (if h:vs.size=1 then vs[0] else .tuple vs)):=rfl
theorem Cv (d:D):∀(l:List D) (t:Nat),nth d l t=(l[t]?).getD d
 |[],t=>by simp[nth]
 |x::l,0=>rfl
 |x::l,t+1=>by simpa[nth] using Cv d l t
theorem xg {pv:Pv} {P:Program} (ok:pv.Ok P) {w:World} {st:St} {β:Nat→Option (Nat×Nat)} {Z:Nat→Prop} (h:eP w st β Z) {fr:Fr} {tmps:Array Value} (hf:l6 w (st.x β Z) fr tmps):∀(rs:List ResultVar) {ds:List D},iH pv fr st rs=some ds→
  ∃vs:List Value,(rs.mapM (kB tmps)).run P w=.ok vs w∧ds.length=vs.length∧∀(i:Nat) c u,ds[i]?=some c→vs[i]?=some u→VR w (st.x β Z) c u
 |[],ds,hr=>by simp only[iH] at hr;cases hr;exact⟨[],by simp,rfl,fun i c u hc=>by simp at hc⟩
 | .tmp t::l,ds,hr=>by
  simp only[iH] at hr;obtain⟨es,he,hr⟩:=Option.map_eq_some_iff.1 hr;cases hr;obtain⟨vs,h1,h2,h3⟩:=xg ok h hf l he;refine⟨tmps.getD t undef::vs,by simp only[List.mapM_cons,kB,Sem.run_bind,Sem.run_pure,Result.andThen_ok,h1],by simp[h2],fun i c u hc hu=>?_⟩
  cases i with
  |zero=>simp at hc hu;subst hc;rw[←hu];have:=hf t;simpa using this
  |succ i=>exact h3 i c u (by simpa using hc) (by simpa using hu)
 | .cell a t::l,ds,hr=>by
  simp only[iH] at hr;obtain⟨d,hd,hr⟩:=Option.bind_eq_some_iff.1 hr;obtain⟨es,he,hr⟩:=Option.map_eq_some_iff.1 hr;cases hr;obtain⟨vs,h1,h2,h3⟩:=xg ok h hf l he;have hv:=hf a
  have vP:∃z,(kB tmps (.cell a t)).run P w=.ok z w∧VR w (st.x β Z) d z:=by
   unfold eW at hd
   split at hd
   ·rename_i k aq off hg;rw[hg] at hv;obtain⟨⟨ar,c⟩,hm,hd⟩:=Option.bind_eq_some_iff.1 hd;obtain⟨p,hp,_,gC⟩:=bz hv;obtain⟨b,base,hb,rfl⟩:=gC (bX hm).2;obtain⟨z,h1,h2⟩:=oj ok ((h.cells hm hb).drop off) hd;exact⟨z,by simp only[kB];rw[hp];simp[asAddr,h1],h2⟩
   ·rename_i c hg;rw[hg] at hv;obtain⟨b,off,hp,_,hc,_⟩:=oI hv;obtain⟨z,h1,h2⟩:=oj ok hc hd;exact⟨z,by simp only[kB];rw[hp];simp[asAddr,h1],h2⟩
   ·cases hd
  obtain⟨z,z1,z2⟩:=vP;refine⟨z::vs,by simp only[List.mapM_cons,Sem.run_bind,z1,Sem.run_pure,Result.andThen_ok,h1],by simp[h2],fun i c u hc hu=>?_⟩
  cases i with
  |zero=>simp at hc hu;subst hc;subst hu;exact z2
  |succ i=>exact h3 i c u (by simpa using hc) (by simpa using hu)
theorem xe {pv:Pv} {P:Program} (ok:pv.Ok P) {w:World} {st:St} {β:Nat→Option (Nat×Nat)} {Z:Nat→Prop} (h:eP w st β Z) {fr:Fr} {tmps:Array Value} (hf:l6 w (st.x β Z) fr tmps) {fn:Func} {ds:List D} (hr:iH pv fr st fn.results.toList=some ds):
  ∃v,(results fn tmps).run P w=.ok v w∧VR w (st.x β Z) (ry ds) v:=by
 obtain⟨vs,h1,h2,h3⟩:=xg ok h hf _ hr
 have jc:(fn.results.mapM (kB tmps)).run P w=.ok vs.toArray w:=by
  rw[Array.mapM_eq_mapM_toList,Sem.run_map,h1];rfl
 refine⟨if h:vs.toArray.size=1 then vs.toArray[0] else .tuple vs.toArray,?_,?_⟩
 ·rw[xf];simp only[Sem.run_bind];rw[jc];simp only[Result.andThen_ok,Sem.run_pure]
 ·match ds,vs,h2 with
  |[],[],_=>exact .tup [] [] rfl (by simp)
  |[d],[v],_=>exact h3 0 d v rfl rfl
  |d::e::l,u::v::l',h2=>
   rw[dif_neg (by simp)];exact .tup _ _ h2 h3
theorem GX {w:World} {x:X} {args:List D} {us:List Value} {n m:Nat} (hl:args.length=us.length) (hr:∀(i:Nat) c v,args[i]?=some c→us[i]?=some v→VR w x c v):
  l6 w x (pad n args) (us.toArray++Array.replicate m undef):=by
 intro t;simp only[pad,Fr.get]
 cases hb:Nat.ble n t with
 |true=>exact .junk _ _ _
 |false=>
  simp only;rw[Cv];simp only[Array.getD_eq_getD_getElem?];rw[List.getElem?_append,Array.getElem?_append];simp only[List.size_toArray,List.getElem?_toArray]
  by_cases ht:t<args.length
  ·rw[if_pos ht,if_pos (by omega),List.getElem?_eq_getElem ht,List.getElem?_eq_getElem (by omega:t<us.length)];exact hr t _ _ (List.getElem?_eq_getElem ht) (List.getElem?_eq_getElem _)
  ·rw[if_neg ht,if_neg (by omega)]
   have hu:((Array.replicate m undef)[t-us.length]?).getD undef=undef:=by
    rw[Array.getElem?_replicate];split<;>rfl
   rw[hu];rw[List.getElem?_replicate]
   split
   ·exact .im _ _ (.tup [] [] rfl (by simp))
   ·exact .junk _ _ _
def Pv.gS (pv:Pv):Prop:=∀f x b,pv.fi f=some x→x.prim=none→x.fn.body=some b→codeOk pv x.dyn x.fn.ntmps b=true
def dt (pv:Pv):df:=fun f ds st=>match jw f pv.prm with
 |some p=>p ds st
 |none=>match pv.fi f with
 |some x=>match x.prim with
  |some p=>p ds st
  |none=>none
 |none=>none
theorem py {m:Mode} {kn:Bool} {st st1 ab:St} {d d':D} (hg:cX (enterSt m st) st1) (hl:bU m kn st st1 d=some (d',ab)):cX st ab∧(m=.ro∨m=.nw→l7 st ab):=by
 by_cases hm:m=.aP
 ·subst hm;simp only[bU] at hl;cases hl;exact⟨hg,fun h=>by rcases h with h|h<;>cases h⟩
 by_cases hw:m=.nw
 ·subst hw;simp only[bU] at hl;cases hl;have hlen:st.bs.length≤st1.bs.length:=hg.len;have xV:∀k,k<st.bs.length→st1.bs[k]?=st.bs[k]?:=fun k hk=>hg.low k hk hk
  have:l7 st ⟨st1.bs,st.flr,st.ro⟩:=by
   refine⟨st1.bs.drop st.bs.length,?_⟩
   congr 1
   apply List.ext_getElem?;intro k
   by_cases hk:k<st.bs.length
   ·rw[List.getElem?_append_left hk];exact xV k hk
   ·rw[List.getElem?_append_right (by omega),List.getElem?_drop];congr 1;omega
  exact⟨this.goes,fun _=>this⟩
 have hl:ab=⟨st1.bs.take st.bs.length,st.flr,st.ro⟩:=by
  cases m<;>first|exact absurd rfl hm|exact absurd rfl hw|skip
  all_goals
   simp only[bU] at hl
   split at hl
   ·cases hl;rfl
   ·cases hl
 subst hl;have hlen:st.bs.length≤st1.bs.length:=by have:=hg.len;rw[bp] at this;exact this
 have hb:∀k,k<st.bs.length→(st1.bs.take st.bs.length)[k]?=st1.bs[k]?:=fun k hk=>by rw[List.getElem?_take,if_pos hk]
 have Dg:(enterSt m st).flr=st.bs.length:=by cases m<;>first|rfl|exact absurd rfl hm|exact absurd rfl hw
 refine⟨⟨by simp;omega,rfl,rfl,fun k hk hk2=>?_,fun k bx uc hk h1 h2 d hd=>?_⟩,fun h=>?_⟩
 ·have:=hg.low k (by cases m<;>first|exact absurd rfl hw|exact hk|exact hk2) (by rw[bp];exact hk2);rw[bp] at this;simp only;rw[hb k hk2];exact this
 ·have hk2:=ej h1;simp only at h2;rw[hb k hk2] at h2;exact hg.fl k bx uc (by rw[Dg];exact hk2) (by rw[bp];exact h1) h2 d hd
 ·have h:=h.resolve_right hw;subst h
  have:st1.bs.take st.bs.length=st.bs:=by
   apply List.ext_getElem?;intro k
   by_cases hk:k<st.bs.length
   ·rw[hb k hk];have:=hg.low k hk (by rw[bp];exact hk);rw[bp] at this;exact this
   ·rw[List.getElem?_eq_none (by simp;omega),List.getElem?_eq_none (by omega)]
  rw[this];exact .rfl _
theorem gb {pv:Pv} {P:Program} (ok:pv.Ok P) (hc:pv.gS) (hp:gf P pv (dt pv)):∀n,gf P pv (bZ pv n)
 |0=>⟨fun f ds st r h=>(by cases h),fun f ds st d ab h=>(by cases h),fun f ds st d ab h=>(by cases h),fun f ds st d ab h=>(by cases h)⟩
 |n+1=>by
  have ih:=gb ok hc hp n
  have key:∀{f:Nat} {ds:List D} {st:St} {r:D×St},bZ pv (n+1) f ds st=some r→(dt pv f ds st=some r)∨∃x body,pv.fi f=some x∧x.prim=none∧x.fn.body=some body∧wz pv (bZ pv n) n x body ds st=some r:=by
   intro f ds st r h;simp only[bZ] at h
   split at h
   ·rename_i p hl;left;simp only[dt,hl];exact h
   rename_i hl
   split at h
   ·rename_i x hx
    split at h
    ·rename_i p El;left;simp only[dt,hl,hx,El];exact h
    ·rename_i El
     split at h
     ·rename_i body hb;exact .inr ⟨x,body,hx,El,hb,h⟩
     ·cases h
   ·cases h
  have body:∀{x:Fi} {body:Code} {ds:List D} {st:St} {d:D} {ab:St},wz pv (bZ pv n) n x body ds st=some (d,ab)→
    ∃out fr st1 es,bn pv (bZ pv n) x.dyn n body (pad x.nloc ds) (enterSt x.mode st)=some (out,fr,st1)∧(∀i,out≠.exit i)∧iH pv fr st1 x.fn.results.toList=some es∧bU x.mode x.knul st st1 (ry es)=some (d,ab):=by
   intro x body ds st d ab h;unfold wz at h
   split at h
   ·cases h
   ·rename_i out fr st1 hne n_
    split at h
    ·rename_i es hr;exact⟨out,fr,st1,es,n_,fun i hi=>by subst hi;exact hne _ rfl,hr,h⟩
    ·cases h
   ·cases h
  refine⟨fun f ds st r h=>?_,fun f ds st d ab h=>?_,fun f ds st d ab h cZ=>?_,fun f ds st d ab h=>?_⟩
  ·rcases key h with h|⟨x,b,hx,El,hb,_⟩
   ·exact hp.fn f ds st r h
   ·obtain⟨h1,h2⟩:=ok.fs f x hx El;exact⟨x.fn,b,h1,hb,h2 b hb⟩
  ·rcases key h with h|⟨x,b,hx,El,hb,hbd⟩
   ·exact hp.calls f ds st d ab h
   ·intro w β Z us hs hl hr;obtain⟨out,fr,st1,es,n_,hne,Hq,Gz⟩:=body hbd;obtain⟨h1,h2⟩:=ok.fs f x hx El;refine calls_of_wp h1 hb ?_;have pK:=Bd hs x.mode;have ME:(enterSt x.mode st).x β Z=st.x β Z:=by simp only[St.x];congr 1;funext k;simp only[St.aq,bp]
    have hf:l6 w ((enterSt x.mode st).x β Z) (pad x.nloc ds) (us.toArray++Array.replicate (x.fn.ntmps-us.toArray.size) undef):=by rw[ME];exact GX hl hr
    refine F7 ok ih x.dyn n _ b (wu ?_ b (hc f x b hx El hb)) n_ pK hf rfl fun a' w' β' Z' hn ru hd _=>?_
    ·simp;omega
    ·obtain⟨v,Fu,CQ⟩:=xe ok hn.sim ru Hq;obtain⟨rv,Es,C_,Gt⟩:=CI hs x.mode x.knul hn (mY ih x.dyn n b n_) CQ Gz
     have fp:a'.defers=[]∧∃v,(results x.fn a'.tmps).run P w'=.ok v w'∧(∃v' β' Z',Ending.returned v=.returned v'∧Nx w st β Z w' ab β' Z'∧VR w' (ab.x β' Z') d v'∧(iv pv f=true→Quiet w w')):=by
      refine⟨hd,v,Fu,v,rv,Es,rfl,C_,Gt,fun cZ=>?_⟩
      have hm:x.mode=.ro∨x.mode=.nw:=by
       unfold iv at cZ;rw[hx] at cZ;simp only at cZ
       split at cZ
       ·exact .inl (by assumption)
       ·exact .inr (by assumption)
       ·cases cZ
      intro c hcl;refine hn.evo.block c hcl ?_;rintro⟨k,base,h5,h6⟩;have:=hs.dom k c base h5
      rcases hm with hm|hm<;>rw[hm] at h6<;>simp only[enterSt] at h6<;>omega
     cases out with
     |next=>exact fp
     |ret=>exact fp
     |exit i=>exact absurd rfl (hne i)
  ·rcases key h with h|⟨x,b,hx,El,hb,hbd⟩
   ·exact hp.ro f ds st d ab h cZ
   ·obtain⟨out,fr,st1,es,n_,hne,Hq,Gz⟩:=body hbd
    have hm:x.mode=.ro∨x.mode=.nw:=by
     unfold iv at cZ;rw[hx] at cZ;simp only at cZ
     split at cZ
     ·exact .inl (by assumption)
     ·exact .inr (by assumption)
     ·cases cZ
    exact(py (mY ih x.dyn n b n_) Gz).2 hm
  ·rcases key h with h|⟨x,b,hx,El,hb,hbd⟩
   ·exact hp.len f ds st d ab h
   ·obtain⟨out,fr,st1,es,n_,hne,Hq,Gz⟩:=body hbd;exact(py (mY ih x.dyn n b n_) Gz).1
end Go.V
namespace Go.V
open Go.RowKit
def Fits {α:Type} (R:Nat→α→Prop):Tr α→Nat→Nat→Prop
 | .leaf a,lo,hi=>hi=lo+1∧R lo a
 | .node k l r,lo,hi=>Fits R l lo k∧Fits R r k hi
theorem Fits.get {α:Type} {R:Nat→α→Prop}:∀{tr:Tr α} {lo hi t:Nat},Fits R tr lo hi→lo≤t→t<hi→R t (tr.get t)
 | .leaf a,lo,hi,t,h,h1,h2=>by
  obtain⟨h3,h4⟩:=h;have:t=lo:=by omega
  subst this;exact h4
 | .node k l r,lo,hi,t,h,h1,h2=>by
  obtain⟨h3,h4⟩:=h;simp only[Tr.get]
  cases hb:Nat.ble k t with
  |true=>exact h4.get (Nat.le_of_ble_eq_true hb) h2
  |false=>
   have:¬k≤t:=fun hk=>by rw[Nat.ble_eq_true_of_le hk] at hb;cases hb
   exact h3.get h1 (by omega)
def Ic (pv:Pv) (x:Fi):Bool:=
 match x.fn.body with
 |some b=>(x.fn.name != "runtime.NumGoroutine") &&codeOk pv x.dyn x.fn.ntmps b
 |none=>true
def G4:List D→St→Option (D×St):=fun _ _=>none
def Iz (pv:Pv) (P:Program) (i:Nat) (x:Fi):Prop:=(P.funcs[i]?=some x.fn∧x.prim=none∧Ic pv x=true)∨x.prim=some G4
def Iy (P:Program) (i:Nat) (x:TypeInfo):Prop:=P.info? i=some x
theorem Ew {pv:Pv} {P:Program} (ht:Fits (Iy P) pv.ty 0 pv.nty) (hf:Fits (Iz pv P) pv.fs 0 pv.nfs) (he:(pv.eqb.all fun t=>!P.stoodInHeld t &&!P.eqGuardType P.depth t)=true) (hm:P.follows .mixedOrders=true) (hpr:pv.prm=[]):
  pv.Ok P∧pv.gS∧gf P pv (dt pv):=by
 have fi:∀f x,pv.fi f=some x→Iz pv P f x:=by
  intro f x h;unfold Pv.fi at h
  split at h
  ·rename_i hb;cases h;refine hf.get (Nat.zero_le _) ?_
   rcases Nat.lt_or_ge f pv.nfs with h'|h'
   ·exact h'
   ·rw[Nat.ble_eq_true_of_le h'] at hb;cases hb
  ·cases h
 have pn:∀f ds st r,dt pv f ds st=some r→False:=by
  intro f ds st r h;unfold dt at h;rw[hpr] at h;simp only[jw] at h
  split at h
  ·rename_i x hx
   rcases fi f x hx with⟨_,h1,_⟩|h1<;>rw[h1] at h<;>cases h
  ·cases h
 refine⟨⟨fun t i h=>?_,fun f x h hp=>?_,fun t h=>?_,hm⟩,fun f x b h hp hb=>?_,⟨fun f ds st r h=>(pn f ds st r h).elim,fun f ds st d ab h=>(pn f ds st _ h).elim,fun f ds st d ab h=>(pn f ds st _ h).elim,fun f ds st d ab h=>(pn f ds st _ h).elim⟩⟩
 ·unfold Pv.info at h
  split at h
  ·rename_i hb;cases h;refine ht.get (Nat.zero_le _) ?_
   rcases Nat.lt_or_ge t pv.nty with h'|h'
   ·exact h'
   ·rw[Nat.ble_eq_true_of_le h'] at hb;cases hb
  ·cases h
 ·obtain⟨h1,_,h3⟩:=(fi f x h).resolve_right (by rw[hp];simp);refine⟨h1,fun b hb=>?_⟩;unfold Ic at h3;rw[hb] at h3;simp only[Bool.and_eq_true,bne_iff_ne,ne_eq] at h3;exact h3.1
 ·have:=List.all_eq_true.1 he t (by simpa using h)
  simpa using this
 ·obtain⟨_,_,h3⟩:=(fi f x h).resolve_right (by rw[hp];simp);unfold Ic at h3;rw[hb] at h3;simp only[Bool.and_eq_true] at h3;exact h3.2
theorem sound {pv:Pv} {P:Program} (h:pv.Ok P∧pv.gS∧gf P pv (dt pv)) {n f:Nat} {ds:List D} {d:D} {ab:St} (hs:bZ pv n f ds ⟨[],0,0⟩=some (d,ab)) {w:World} {Z:Nat→Prop} (hZ:∀b,Z b→b<w.heap.size) {us:List Value} (hl:ds.length=us.length)
  (hr:∀(i:Nat) c v,ds[i]?=some c→us[i]?=some v→IR w Z c v):Calls P f us.toArray w fun e w'=>∃v β' Z',e=.returned v∧zT (fun _=>False) w w'∧VR w' (ab.x β' Z') d v:=by
 have eA:eP w ⟨[],0,0⟩ (fun _=>none) Z:=⟨fun _ _ _ h=>(by cases h),fun _ _ _ h=>(by cases h),fun _ _ _ _ _ h=>(by cases h),fun _ _ _ h=>(by cases h),hZ,fun _ _ _ _ h=>(by cases h),Nat.le_refl _,Nat.le_refl _⟩
 refine((gb h.1 h.2.1 h.2.2 n).calls f ds _ d ab hs w _ Z us eA hl fun i c v hc hv=>.im _ _ (hr i c v hc hv)).mono fun e w'=>?_;rintro⟨v,β',Z',he,hn,hv,_⟩;refine⟨v,β',Z',he,hn.evo.mono ?_,hv⟩;rintro b ⟨k,base,h,_⟩;cases h
end Go.V
