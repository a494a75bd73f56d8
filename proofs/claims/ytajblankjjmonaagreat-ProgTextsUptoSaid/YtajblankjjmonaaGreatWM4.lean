/-
 V is sound; no program in sight, no conditions.
-/
import Derived.Test.YtajblankjjmonaaGreatWM1
import Derived.Orders
set_option linter.unusedSimpArgs false
set_option linter.unusedVariables false
set_option linter.unusedSectionVars false
set_option linter.unnecessarySimpa false
namespace Go.V
open Go.RowKit
theorem sv {P:Program} {f:Value→ByteArray→Sem (ForInStep ByteArray)} (hf:∀n s w,(f (.int .u8 n) s).run P w=.ok (.yield (s.push (UInt8.ofNat n.toNat))) w):∀(cs:List D) (us:List Value) (bs:List UInt8) (acc:ByteArray) (w:World) (x:X),LR w x cs us→nF cs=some bs→
  (forIn us acc f).run P w=.ok (⟨acc.data++bs.toArray⟩) w
 |[],us,bs,acc,w,x,h,hb=>by
  cases us with
  |nil=>simp[nF] at hb;subst hb;simp
  |cons u us=>have:=h.len;simp at this
 |c::cs,us,bs,acc,w,x,h,hb=>by
  cases us with
  |nil=>have:=h.len;simp at this
  |cons u us=>
   unfold nF at hb
   split at hb
   ·rename_i heq;cases heq
   ·rename_i n l heq;cases heq;obtain⟨r,hr,rfl⟩:=Option.map_eq_some_iff.1 hb;have hu:=bW (h.rel 0 _ u rfl rfl);subst hu
    have ht:LR w x cs us:=⟨by have:=h.len;simpa using this,fun v hv=>h.one v (List.mem_cons_of_mem _ hv),fun i c u hc hu=>h.rel (i+1) c u hc hu⟩
    have ih:=sv hf cs us r (acc.push (UInt8.ofNat n.toNat)) w x ht hr;simp only[List.forIn_cons,Sem.run_bind,hf,Result.andThen_ok];rw[ih]
    congr 1
    apply ByteArray.ext;simp
   ·cases hb
section
variable{pv:Pv} {P:Program} (ok:pv.Ok P)
include ok
def l7 (pv:Pv) (s t:TypeId):Bool:=
 match pv.b9 s,pv.b9 t with
 |some (.slice _),some (.slice _)=>true
 |_,_=>false
omit ok in
theorem DX {w:World} {st:St} {β:Nat→Option (Nat×Nat)} {Z:Nat→Prop} (h:fm w st β Z) {k aq:Nat} {ar:Bool} {c:List D} (hm:st.dL k aq=some (ar,c)) {b base:Nat} (hb:β k=some (b,base)) (ft:st.ro≤k) (o:Nat):
  ∃w',(markStringish ⟨b,o,none⟩).run P w=.ok () w'∧Nx w st β Z w' st β Z:=by
 obtain⟨cs,el,fr,h1,h2,h3,h4⟩:=h.row hm hb;have hbl:b<w.heap.size:=h.lt k b base hb;have hsh:w.shape? b=some (el,cs.size):=by simp only[World.shape?,h1]
 refine⟨w.freeze ⟨b,cs.size,none⟩ 1,?_,?_⟩
 ·simp only[markStringish,Sem.run_bind,run_shape,hsh,Result.andThen_ok,run_freeze]
 ·obtain⟨lo,hi⟩:=fr
  have hf:∃aw:Nat×Nat,oy cs.size aw∧w.freeze ⟨b,cs.size,none⟩ 1=wput w b (.cells cs el aw):=by
   refine⟨if lo==hi then(cs.size,cs.size+1) else(min lo cs.size,max hi (cs.size+1)),?_,?_⟩
   ·split
    ·exact⟨by simp,fun o ho=>by simp only;omega⟩
    ·rename_i hne;have hne:lo≠hi:=by simpa using hne
     have h5:=h3.1;have h6:=h3.2 lo;simp only at h5 h6;refine⟨by simp only;omega,fun o ho=>?_⟩;simp only;omega
   ·simp only[World.freeze,wput,if_neg (show¬(1=0) by omega)]
    congr 1
    apply Array.ext_getElem?;intro j;rw[Array.getElem?_modify]
    by_cases hj:b=j
    ·subst hj;rw[if_pos rfl,h1,Array.getElem?_setIfInBounds_self_of_lt hbl];rfl
    ·rw[if_neg hj,Array.getElem?_setIfInBounds_ne hj]
  obtain⟨aw,Hd,LL⟩:=hf;have fT:=(cn hm).1;have hx:=Nx.A3 (a':=ar) (kR:=aq) (c':=c) (cu:=base) h hm hb ft (Nat.le_refl _) (fun _=>rfl) h1 Hd rfl h2 h4
  have e1:(fun i=>if i=k then some (b,base) else β i)=β:=by
   funext i;split
   ·rename_i e;subst e;exact hb.symm
   ·rfl
  have e2:({st with bs:=st.bs.set k (.mem aq ar c)}:St)=st:=by
   obtain⟨bs,f,r⟩:=st;simp only at fT⊢
   congr 1
   apply List.ext_getElem?;intro j
   by_cases hj:k=j
   ·subst hj;rw[List.getElem?_set_self (h.dom k b base hb),fT]
   ·rw[List.getElem?_set_ne hj]
  rw[e1,e2] at hx;rw[LL];exact hx
theorem Es {w:World} {st ae:St} {β:Nat→Option (Nat×Nat)} {Z:Nat→Prop} (h:fm w st β Z) {s t:Nat} {d r:D} {u:Value} (hu:VR w (st.x β Z) d u) (hs:vS pv s t d st=some (r,ae)):
  ∃z w' β',(convert s t u).run P w=.ok z w'∧Nx w st β Z w' ae β' Z∧VR w' (ae.x β' Z) r z∧(l7 pv s t=false→Quiet w w'):=by
 unfold vS at hs
 split at hs
 ·rename_i sd k k' n h1 h2;cases hs;rw[bW hu];exact⟨_,w,β,by simp[convert,ax ok h1,ax ok h2,Conv.intToInt];rfl,Nx.same h,by rw[gr];exact .im _ _ (.int _ _),fun _=>Quiet.refl _⟩
 ·rename_i sd k n h1 h2;cases hs;rw[bW hu];refine⟨.string (Utf8.encode n),w,β,by cases sd<;>simp[convert,ax ok h1,ax ok h2,Conv.intToString],Nx.same h,.im _ _ ?_,fun _=>Quiet.refl _⟩;have:=IR.str (w:=w) (Z:=(st.x β Z).Z) (Utf8.encode n).data.toList
  simpa using this
 ·rename_i sd l h1 h2;cases hs;rw[eM hu];exact⟨_,w,β,by cases sd<;>simp[convert,ax ok h1,ax ok h2]<;>rfl,Nx.same h,.im _ _ (.str _),fun _=>Quiet.refl _⟩
 ·rename_i sd e l h1 h2
  split at hs
  ·rename_i he
   split at hs
   ·rename_i hlen;cases hs;rw[eM hu];have Aq:=C4 l.length 0 e (w.tape w.drawn (.appendCap l.length 0 e));generalize hq:(Question.appendCap l.length 0 e).cut (w.tape w.drawn (.appendCap l.length 0 e))=cap at Aq;have hsz:(⟨l.toArray⟩:ByteArray).size=l.length:=by simp[ByteArray.size]
    have hS:Nx w st β Z w.drew st β Z:=Nx.still h rfl rfl rfl rfl;have cO:((l.map fun b=>Value.int .u8 b.toNat).toArray++Array.replicate (cap-l.length) (Value.int .u8 0)).size=cap:=by simp;omega
    have hfz:∀c:Array Value,(w.drew.alloc (.cells c e)).freeze ⟨w.heap.size,c.size,none⟩ 1={w.drew with heap:=w.heap.push (.cells c e (c.size,c.size+1))}:=by
     intro c;simp only[World.freeze,World.alloc,World.drew];simp only[if_neg (show¬(1=0) by omega)]
     congr 1
     apply Array.ext_getElem?;intro j;rw[Array.getElem?_modify]
     by_cases hj:w.heap.size=j
     ·subst hj;simp
     ·rw[if_neg hj,Array.getElem?_push,Array.getElem?_push,if_neg (fun e=>hj e.symm),if_neg (fun e=>hj e.symm)]
    obtain⟨hx,x1,x2,x3⟩:=Nx.jK (w':={w.drew with heap:=w.heap.push (.cells ((l.map fun b=>Value.int .u8 b.toNat).toArray++Array.replicate (cap-l.length) (Value.int .u8 0)) e (cap,cap+1))}) hS.sim true (l.map fun x=>.int .u8 x.toNat)
     ((l.map fun b=>Value.int .u8 b.toNat).toArray++Array.replicate (cap-l.length) (Value.int .u8 0)) e (cap,cap+1) rfl rfl rfl rfl (by rw[cO];simpa using Aq) ⟨by simp,fun o ho=>by rw[cO] at ho;simp;omega⟩ (fun j d hd=>by
      obtain⟨y,hy1,wz,Af⟩:=(wb w.drew (st.x β Z) l).at_ hd;refine⟨y,?_,wz,Af⟩
      have hlt:j<(l.map fun b=>Value.int .u8 b.toNat).length:=by
       rcases Nat.lt_or_ge j (l.map fun b=>Value.int .u8 b.toNat).length with h'|h'
       ·exact h'
       ·rw[List.getElem?_eq_none h'] at hy1;cases hy1
      rw[Array.getElem?_append_left (by simpa using hlt)]
      simpa using hy1)
    refine⟨.slice (some ⟨w.heap.size,0,none⟩) l.length cap,_,_,?_,hS.trans hx,ki x2 x3 x1 Aq (by rw[cO];omega),fun _=>Quiet.push rfl⟩
    have tn:(Conv.stringToBytes e ⟨l.toArray⟩).run P w=.ok (.slice (some ⟨w.heap.size,0,none⟩) l.length cap) {w.drew with heap:=w.heap.push (.cells ((l.map fun b=>Value.int .u8 b.toNat).toArray++Array.replicate (cap-l.length) (Value.int .u8 0)) e (cap,cap+1))}:=by
     have tB:((⟨l.toArray⟩:ByteArray).data.map fun b=>Value.int .u8 b.toNat)=(l.map fun b=>Value.int .u8 b.toNat).toArray:=by simp
     simp only[Conv.stringToBytes,Sem.run_bind,run_choose,Question.forced,Bool.false_eq_true,if_false,Result.andThen_ok,hsz,hq,tB,newRow,run_newObj,Sem.run_pure,markStringish,run_shape]
     have FO:(w.drew.alloc (.cells ((l.map fun b=>Value.int .u8 b.toNat).toArray++Array.replicate (cap-l.length) (Value.int .u8 0)) e)).shape? w.heap.size=some (e,cap):=by
      simp only[World.shape?,World.alloc,World.drew];rw[Array.getElem?_push,if_pos rfl];simp[cO]
     have ha:({heap:=w.heap.push (Obj.cells ((l.map fun b=>Value.int .u8 b.toNat).toArray++Array.replicate (cap-l.length) (Value.int .u8 0)) e),tape:=w.tape,drawn:=w.drawn+1,os:=w.os,output:=w.output}:World)=w.drew.alloc (.cells ((l.map fun b=>Value.int .u8 b.toNat).toArray++Array.replicate (cap-l.length) (Value.int .u8 0)) e):=rfl;rw[ha];simp only[FO,run_freeze,Result.andThen_ok];have:=hfz ((l.map fun b=>Value.int .u8 b.toNat).toArray++Array.replicate (cap-l.length) (Value.int .u8 0));rw[cO] at this;rw[this]
    cases sd<;>simp only[convert,Sem.run_bind,ax ok h1,ax ok h2,Result.andThen_ok,ax ok he,tn]
   ·cases hs
  ·cases hs
 ·rename_i e' e k aq off len sz h1 h2
  split at hs
  ·rename_i q he hm;obtain⟨ar,c⟩:=q
   split at hs
   ·rename_i tZ;obtain⟨iJ,hlen,Ds⟩:=tZ;have iJ:=Nat.eq_of_beq_eq_true iJ;subst iJ;cases hs;obtain⟨a,cap,rfl,hc,hk,_,h_⟩:=dR hu;obtain⟨b,base,Dz,hb,_,tF⟩:=h_ (cn hm).2
    rcases tF with rfl|⟨rfl,_⟩
    ·omega
    obtain⟨w',m1,m2⟩:=DX (P:=P) h hm hb (dh Ds) (base+off);refine⟨_,w',β,?_,m2,hu.mono m2.keeps,fun e=>?_⟩
    ·rw[h1] at h2;cases h2;simp only[convert,Sem.run_bind,ax ok h1,Result.andThen_ok,ax ok he,beq_self_eq_true,m1,Sem.run_pure]
    ·rw[h1] at h2;cases h2;simp[l7,h1] at e
   ·cases hs
  ·cases hs
 ·rename_i dd o1 o2 d4 e h1 h2 tV dE
  split at hs
  ·rename_i n cs he jr
   split at hs
   ·cases hs
   ·rename_i AY
    split at hs
    ·rename_i hl;obtain⟨bs,hb,hr⟩:=Option.map_eq_some_iff.1 hs;cases hr;obtain⟨hlen,cO⟩:=o9 (P:=P) h hu jr;obtain⟨us,u1,u2⟩:=cO 1 n (Nat.le_refl _) (by omega);rw[Nat.mul_one,←hl,List.take_length] at u2;refine⟨.string ⟨bs.toArray⟩,w,β,?_,Nx.same h,.im _ _ (.str _),fun _=>Quiet.refl _⟩
     have lN:∃a q c,u=.slice a q c:=by
      cases dd with
      |sl es=>obtain⟨_,_,e,_⟩:=jD hu;exact⟨_,_,_,e⟩
      |nul=>exact⟨_,_,_,dS hu⟩
      |win k v o l s=>obtain⟨_,_,e,_⟩:=dR hu;exact⟨_,_,_,e⟩
      |str l=>exact absurd rfl (AY l)
      |_=>simp[o_] at jr
     obtain⟨a,q,c,rfl⟩:=lN;have hq:q=n:=by simp[Builtin.lenOf] at hlen;exact hlen
     subst hq
     have tY:(convert s t (.slice a q c)).run P w=(Conv.bytesToString (.slice a q c)).run P w:=by
      simp[convert,ax ok h1,ax ok h2,ax ok he]
     rw[tY]
     cases a with
     |none=>
      have jk:us=[]:=by
       simp only[Builtin.firstCells,Sem.run_pure,Result.ok.injEq] at u1;have:=u1.1;cases us<;>simp at this⊢
      subst jk;have:cs=[]:=List.length_eq_zero_iff.1 (by have:=u2.len;simpa using this);subst this;simp[nF] at hb;subst hb
      rfl
     |some a=>
      simp only[Builtin.firstCells,Nat.mul_one] at u1;simp only[Conv.bytesToString,Sem.run_bind,u1,Result.andThen_ok,List.forIn_toArray];rw[sv (P:=P) (fun n s w=>by simp) cs us bs .empty w _ u2 hb];simp
    ·cases hs
  ·cases hs
 ·cases hs
omit ok in
theorem Nx.obj {w:World} {st:St} {β:Nat→Option (Nat×Nat)} {Z:Nat→Prop} (h:fm w st β Z) {k b:Nat} (hβ:β k=some (b,0)) (ft:st.ro≤k) {o o':Obj} {bx tO:gP} (fT:st.bs[k]?=some bx) (hw:w.heap[b]?=some o) (hv:ch tO=ch bx)
  (D7:∀w1:World,w1.heap[b]?=some o'→bU w1 b=bU w b) (hok:∀x',gd (wput w b o') x' b 0 tO):Nx w st β Z (wput w b o') {st with bs:=st.bs.set k tO} β Z:=by
 have hbl:=h.lt k b 0 hβ;have nu:=h.dom k b 0 hβ
 have hne:∀i,i≠b→(wput w b o').heap[i]?=w.heap[i]?:=by
  intro i hi;simp only[wput];rw[Array.getElem?_setIfInBounds_ne (by omega)]
 have heq:(wput w b o').heap[b]?=some o':=by
  simp only[wput];rw[Array.getElem?_setIfInBounds_self_of_lt hbl]
 have pK:∀i,({st with bs:=st.bs.set k tO}:St).aq i=st.aq i:=by
  intro i;simp only[St.aq]
  by_cases hik:i=k
  ·subst hik;rw[List.getElem?_set_self nu,fT];exact hv
  ·rw[List.getElem?_set_ne (by omega)]
 have ID:cM w (st.x β Z) (wput w b o') (({st with bs:=st.bs.set k tO}:St).x β Z):=by
  refine⟨fun i p hp=>⟨p,hp⟩,fun i hi=>⟨hi,hne i fun e=>h.zd k b 0 hβ (e▸hi)⟩,fun i q p hi hq=>⟨q,?_,Nat.le_refl _⟩,fun i q hq Al i' y hy=>⟨hy,?_⟩⟩
  ·have:=pK i;show st.aq i=some q;rw[←this];exact hq
  ·by_cases e:i'=b
   ·subst e;exact D7 _ heq
   ·exact db (hne i' e)
 refine⟨⟨?_,?_,h.inj,h.zd,?_,?_,?_,?_⟩,ID,⟨rfl,rfl,rfl,by simp[wput],fun i _ hn=>hne i fun e=>hn ⟨k,0,e▸hβ,ft⟩⟩,
  fun i q y hq=>.inl ⟨y,hq⟩,fun _ hz=>.inl hz,by simp,rfl,rfl,?_,fun i _ h0=>by
   have:i≠k:=fun e=>by subst e;rw[hβ] at h0;cases h0
   dsimp only;rw[List.getElem?_set_ne (by omega)]
   exact⟨h0,rfl⟩⟩
 ·intro i q y hq;simp;exact h.dom i q y hq
 ·intro i q y hq;simp only[wput,Array.size_setIfInBounds];exact h.lt i q y hq
 ·intro i hi;simp only[wput,Array.size_setIfInBounds];exact h.zl i hi
 ·intro i q y Sf hq CA;(dsimp only at CA)
  by_cases hik:i=k
  ·subst hik;rw[List.getElem?_set_self nu] at CA;cases CA;rw[hβ] at hq;cases hq;exact hok _
  ·rw[List.getElem?_set_ne (by omega)] at CA;exact(h.box i q y Sf hq CA).cD ID (hne q fun e=>hik (h.inj i k q _ _ hq (e▸hβ)))
 ·have:=h.flr;simp;omega
 ·have:=h.ro;simp;omega
 ·intro i hi;dsimp only;rw[List.getElem?_set_ne (by omega)];exact⟨rfl,rfl⟩
omit ok in
theorem j6 {kk:IntKind} {n:Int} {kt:IntKind}:∀{es:List (D×D)} {en:List MapEntry} {i:Nat} {r:Option (Nat×D)},kG kk n es i=some r→en.length=es.length→
  (∀(j:Nat) p,es[j]?=some p→∃kk n vk x e,p=(.int kk n,.int vk x)∧en[j]?=some e∧e.key=.int kk n∧e.val=.int vk x)→
  match r with
  |none=>Instr.findNow (.int kt) (.int kk n) en i=some none
  |some (q,d)=>∃v,Instr.findNow (.int kt) (.int kk n) en i=some (some (q,v))∧i≤q∧q-i<es.length∧(∃vk x,d=.int vk x∧v=.int vk x)∧∃e,en[q-i]?=some e∧e.key=.int kk n
 |[],en,i,r,h,hl,_=>by
  simp only[kG] at h;cases h;have:en=[]:=List.length_eq_zero_iff.1 hl;subst this;rfl
 |(a,d)::es,en,i,r,h,hl,hr=>by
  obtain⟨SP,m,vk,x,e,hp,he,hk,hv⟩:=hr 0 _ rfl;cases hp
  obtain⟨e0,en,rfl⟩:∃e0 R8,en=e0::R8:=by cases en with|nil=>simp at hl|cons a b=>exact⟨a,b,rfl⟩
  simp only[List.getElem?_cons_zero,Option.some.injEq] at he;subst he;simp only[kG] at h
  split at h
  ·rename_i hkk;subst hkk
   split at h
   ·rename_i F7;cases h;have F7:n=m:=by simpa using F7
    subst F7;refine⟨.int vk x,?_,Nat.le_refl _,by simp,⟨vk,x,rfl,rfl⟩,e0,by simp,hk⟩;simp only[Instr.findNow,hk,Instr.sameNow,if_true,beq_self_eq_true,hv]
   ·rename_i F7;have ih:=j6 (kt:=kt) (en:=en) h (by simpa using hl) (fun j p hj=>by simpa using hr (j+1) p (by simpa using hj))
    have hf:Instr.findNow (.int kt) (.int kk n) (e0::en) i=Instr.findNow (.int kt) (.int kk n) en (i+1):=by
     have:(n==m)=false:=by simpa using F7
     simp only[Instr.findNow,hk,Instr.sameNow,if_true,this]
    cases r with
    |none=>simp only at ih⊢;rw[hf];exact ih
    |some q=>
     obtain⟨q,d'⟩:=q;simp only at ih⊢;obtain⟨v,h1,h2,h3,h4,e,h5,h6⟩:=ih;refine⟨v,by rw[hf];exact h1,by omega,by simp;omega,h4,e,?_,h6⟩;rw[show q-i=(q-(i+1))+1 by omega]
     simpa using h5
  ·cases h
theorem xg {w:World} {st ae:St} {β:Nat→Option (Nat×Nat)} {Z:Nat→Prop} (h:fm w st β Z) {t:Nat} {d:Option D} {u:Option Value} {r:D} (hn:d=none↔u=none) (hu:∀a v,d=some a→u=some v→VR w (st.x β Z) a v) (hs:l8 pv t d st=some (r,ae)):
  ∃z w' β',(Instr.makeMap t u).run P w=.ok z w'∧Nx w st β Z w' ae β' Z∧VR w' (ae.x β' Z) r z∧Quiet w w':=by
 have hx:=Nx.push (w':=w.alloc (.map #[] 0)) h (.map #[] 0) rfl rfl rfl rfl (.map []) (fun _=>⟨rfl,#[],0,by
  show(w.heap.push _)[w.heap.size]?=_
  simp,rfl,fun i p hp=>by simp at hp⟩)
 have hv:VR (w.alloc (.map #[] 0)) ((st.push (.map [])).x (dG β st.bs.length w.heap.size) Z) (.mp st.bs.length) (.map (some w.heap.size)):=by
  refine .mp _ _ ⟨_,by simp[St.x,dG];rfl⟩ fun _=>⟨0,by simp[St.x,dG]⟩
 unfold l8 at hs
 split at hs
 ·cases hs;have:u=none:=hn.1 rfl;subst this;refine⟨.map (some w.heap.size),_,_,?_,hx,hv,Quiet.push rfl⟩;simp only[Instr.makeMap,Sem.run_bind,Sem.run_pure,Result.andThen_ok,run_newObj];rfl
 ·rename_i kk n
  split at hs
  ·rename_i kt e ht;cases hs
   cases u with
   |none=>have:=hn.2 rfl;cases this
   |some v=>
    have:=bW (hu _ v rfl rfl);subst this;refine⟨.map (some w.heap.size),_,_,?_,hx,hv,Quiet.push rfl⟩;simp only[Instr.makeMap,Sem.run_bind,ax ok ht,asInt,asIntOf,Sem.run_pure,Result.andThen_ok,run_newObj];rfl
  ·cases hs
 ·cases hs
theorem rK {w:World} {st ae:St} {β:Nat→Option (Nat×Nat)} {Z:Nat→Prop} (h:fm w st β Z) {t:Nat} {m key v:D} {um uk uv:Value} (hm:VR w (st.x β Z) m um) (hk:VR w (st.x β Z) key uk) (hv:VR w (st.x β Z) v uv) (hs:kF pv t m key v st=some ae):
  ∃w',(Instr.mapUpdate t um uk uv).run P w=.ok () w'∧Nx w st β Z w' ae β Z:=by
 unfold kF at hs
 split at hs
 ·rename_i kt e k kk n vk x ht
  split at hs
  ·rename_i ik es F_ hb
   split at hs
   ·rename_i Ds;obtain⟨r,rfl,h_⟩:=yh hm;obtain⟨base,hβ⟩:=h_ (by simp[St.x,St.aq,hb,ch]);have hβ:β k=some (r,base):=hβ;have:=bW hk;subst this;have:=bW hv;subst this;obtain⟨rfl,en,cl,h1,h2,h3⟩:=h.box k r base _ hβ hb;have hl:en.toList.length=es.length:=by simpa using h2
    have tZ:∀m:Nat,(Instr.checkKey false (m+1) kt (.int kk n)).run P w=.ok () w:=by
     intro m;unfold Instr.checkKey;simp only[Sem.run_bind,ax ok F_,Result.andThen_ok,Sem.run_pure]
    have hget:(getObj r).run P w=.ok (.map en cl) w:=by simp[getObj,Sem.run,h1]
    split at hs
    ·rename_i q d hf;cases hs
     obtain⟨vv,g1,g2,g3,⟨N1,x',rfl,rfl⟩,e0,g4,g5⟩:=j6 (kt:=ik) (en:=en.toList) hf hl (fun j p hj=>by
      obtain⟨a,b,c,d,e,q1,q2,q3⟩:=h3 j p hj
      exact⟨a,b,c,d,e,q1,by simpa using q2,q3⟩)
     simp only[Nat.sub_zero] at g3 g4;have Mm:en[q]?=some e0:=by simpa using g4
     have Dp:q<en.size:=(Array.getElem?_eq_some_iff.1 Mm).1
     have hx:=Nx.obj (o':=.map (en.modify q fun e=>{e with key:=.int kk n,val:=.int vk x}) cl) (tO:=.map (es.set q (.int kk n,.int vk x))) h hβ (dh Ds) hb h1 rfl (fun w1 Kz=>by simp[bU,Kz,h1]) fun x'=>by
      refine⟨rfl,_,cl,by simp only[wput];rw[Array.getElem?_setIfInBounds_self_of_lt (h.lt k r 0 hβ)],by simp[h2],fun i p hp=>?_⟩;rw[List.getElem?_set] at hp
      split at hp
      ·rename_i KV;subst KV;cases hp;exact⟨kk,n,vk,x,{e0 with key:=.int kk n,val:=.int vk x},rfl,by rw[Array.getElem?_modify,if_pos rfl,Mm];rfl,rfl,rfl⟩
      ·rename_i KV;obtain⟨a,b,c,d,e,q1,q2,q3⟩:=h3 i p hp;exact⟨a,b,c,d,e,q1,by rw[Array.getElem?_modify,if_neg KV];exact q2,q3⟩
     refine⟨_,?_,hx⟩;have Gc:((en[q]?).map (·.key)).getD (.int kk n)=.int kk n:=by rw[Mm];simpa using g5
     simp only[Instr.mapUpdate,Sem.run_bind,ax ok ht,Result.andThen_ok,hget,tZ 9999,Instr.findKey,ax ok F_,g1,Sem.run_pure,Gc,Instr.keyThatStays,Instr.sameBits,beq_self_eq_true,Bool.and_self,if_true];simp[setObj,Sem.run,wput,h1]
    ·rename_i hf;cases hs
     have g1:=j6 (kt:=ik) (en:=en.toList) hf hl (fun j p hj=>by
      obtain⟨a,b,c,d,e,q1,q2,q3⟩:=h3 j p hj
      exact⟨a,b,c,d,e,q1,by simpa using q2,q3⟩)
     simp only at g1
     have hx:=Nx.obj (o':=.map (en.push {key:=.int kk n,val:=.int vk x,born:=cl}) (cl+1)) (tO:=.map (es++[(.int kk n,.int vk x)])) h hβ (dh Ds) hb h1 rfl (fun w1 Kz=>by simp[bU,Kz,h1]) fun x'=>by
      refine⟨rfl,_,cl+1,by simp only[wput];rw[Array.getElem?_setIfInBounds_self_of_lt (h.lt k r 0 hβ)],by simp[h2],fun i p hp=>?_⟩;rw[List.getElem?_append] at hp
      split at hp
      ·rename_i hi;obtain⟨a,b,c,d,e,q1,q2,q3⟩:=h3 i p hp;exact⟨a,b,c,d,e,q1,by rw[Array.getElem?_push,if_neg (by omega)];exact q2,q3⟩
      ·rename_i hi
       have nZ:i-es.length=0:=by
        rcases Nat.eq_zero_or_pos (i-es.length) with h'|h'
        ·exact h'
        ·rw[List.getElem?_eq_none (by simp;omega)] at hp;cases hp
       rw[nZ] at hp;simp at hp;subst hp;exact⟨kk,n,vk,x,_,rfl,by rw[Array.getElem?_push,if_pos (by omega)],rfl,rfl⟩
     refine⟨_,?_,hx⟩;simp only[Instr.mapUpdate,Sem.run_bind,ax ok ht,Result.andThen_ok,hget,tZ 9999,Instr.findKey,ax ok F_,g1,Sem.run_pure];simp[setObj,Sem.run,wput,h1]
    ·cases hs
   ·cases hs
  ·cases hs
 ·cases hs
theorem Ac {w:World} {st:St} {β:Nat→Option (Nat×Nat)} {Z:Nat→Prop} (h:fm w st β Z) {t:Nat} {m key r:D} {um uk:Value} (hm:VR w (st.x β Z) m um) (hk:VR w (st.x β Z) key uk) (hs:tf pv t m key st=some r):
  ∃z,(Instr.lookup t um uk false).run P w=.ok z w∧VR w (st.x β Z) r z:=by
 unfold tf at hs
 split at hs
 ·rename_i kt e k kk n ht
  split at hs
  ·rename_i ik es F_ hb;obtain⟨a,rfl,h_⟩:=yh hm;obtain⟨base,hβ⟩:=h_ (by simp[St.x,St.aq,hb,ch]);have hβ:β k=some (a,base):=hβ;have:=bW hk;subst this;obtain⟨rfl,en,cl,h1,h2,h3⟩:=h.box k a base _ hβ hb;have hl:en.toList.length=es.length:=by simpa using h2
   have tZ:∀b,(Instr.checkKey b 10000 kt (.int kk n)).run P w=.ok () w:=by
    intro b;unfold Instr.checkKey;simp only[Sem.run_bind,ax ok F_,Result.andThen_ok,Sem.run_pure]
   have hget:(getObj a).run P w=.ok (.map en cl) w:=by simp[getObj,Sem.run,h1]
   split at hs
   ·rename_i q d hf;cases hs
    obtain⟨vv,g1,g2,g3,⟨N1,x',rfl,rfl⟩,e0,g4,g5⟩:=j6 (kt:=ik) (en:=en.toList) hf hl (fun j p hj=>by
     obtain⟨a,b,c,d,e,q1,q2,q3⟩:=h3 j p hj
     exact⟨a,b,c,d,e,q1,by simpa using q2,q3⟩)
    refine⟨.int N1 x',?_,.im _ _ (.int _ _)⟩;simp only[Instr.lookup,Sem.run_bind,ax ok ht,Result.andThen_ok,hget,Sem.run_pure,tZ,Instr.findKey,ax ok F_,g1]
    rfl
   ·rename_i hf;obtain⟨z,hz,HX⟩:=uB ok hs w
    have g1:=j6 (kt:=ik) (en:=en.toList) hf hl (fun j p hj=>by
     obtain⟨a,b,c,d,e,q1,q2,q3⟩:=h3 j p hj
     exact⟨a,b,c,d,e,q1,by simpa using q2,q3⟩)
    simp only at g1;refine⟨z,?_,by rw[HX];exact .im _ _ (pr _ _ z)⟩;simp only[Instr.lookup,Sem.run_bind,ax ok ht,Result.andThen_ok,hget,Sem.run_pure,tZ,Instr.findKey,ax ok F_,g1,hz]
    rfl
   ·cases hs
  ·cases hs
 ·cases hs
theorem Bt {w:World} {st ae:St} {β:Nat→Option (Nat×Nat)} {Z:Nat→Prop} (h:fm w st β Z) {t:Nat} {d r:D} {u:Value} (hu:VR w (st.x β Z) d u) (hs:sS pv t d st=some (r,ae)):
  ∃z w' β',(Instr.range t u).run P w=.ok z w'∧Nx w st β Z w' ae β' Z∧VR w' (ae.x β' Z) r z∧Quiet w w':=by
 unfold sS at hs
 split at hs
 ·rename_i l ht;cases hs;rw[eM hu]
  have hx:=Nx.push (w':=w.alloc (.stringIter ⟨l.toArray⟩ 0)) h (.stringIter ⟨l.toArray⟩ 0) rfl rfl rfl rfl (.iter l 0) (fun _=>⟨rfl,by
   show(w.heap.push _)[w.heap.size]?=_
   simp⟩)
  refine⟨.pointer (some ⟨w.heap.size,0,none⟩),_,_,?_,hx,?_,Quiet.push rfl⟩
  ·simp only[Instr.range,Sem.run_bind,ax ok ht,Result.andThen_ok,Sem.run_pure,run_newObj];rfl
  ·refine .ptr _ _ _ _ ⟨_,by simp[St.x,dG];rfl⟩ (fun c _=>Nat.zero_le _) fun _=>⟨w.heap.size,0,by simp[St.x,dG],rfl⟩
 ·cases hs
omit ok in
theorem DU {w:World} {st ae:St} {β:Nat→Option (Nat×Nat)} {Z:Nat→Prop} (h:fm w st β Z) {b:Bool} {ty:TypeId} {d r:D} {u:Value} (hu:VR w (st.x β Z) d u) (hs:rI d b st=some (r,ae)):
  ∃z w',(Instr.next u b ty).run P w=.ok z w'∧Nx w st β Z w' ae β Z∧VR w' (ae.x β Z) r z:=by
 unfold rI at hs
 split at hs
 ·rename_i k
  split at hs
  ·rename_i l pos hb;obtain⟨a,rfl,hk,h_⟩:=bH hu;have iB:st.aq k=some 0:=by simp[St.aq,hb,ch]
   obtain⟨b,base,HV,rfl⟩:=h_ iB;have hβ:β k=some (b,base):=HV;clear HV;obtain⟨rfl,Cs⟩:=h.box k b base _ hβ hb;have hbl:=h.lt k b 0 hβ;have hsz:(⟨l.toArray⟩:ByteArray).size=l.length:=by simp[ByteArray.size]
   split at hs
   ·rename_i hp
    split at hs
    ·rename_i Ds;cases hs;have nu:=h.dom k b 0 hβ
     let w':World:={w with heap:=w.heap.setIfInBounds b (.stringIter ⟨l.toArray⟩ (pos+(Utf8.decode ⟨l.toArray⟩ pos).2))}
     have hne:∀i,i≠b→w'.heap[i]?=w.heap[i]?:=by
      intro i hi;show(w.heap.setIfInBounds b _)[i]?=_;rw[Array.getElem?_setIfInBounds_ne (by omega)]
     have heq:w'.heap[b]?=some (.stringIter ⟨l.toArray⟩ (pos+(Utf8.decode ⟨l.toArray⟩ pos).2)):=by
      show(w.heap.setIfInBounds b _)[b]?=_;rw[Array.getElem?_setIfInBounds_self_of_lt hbl]
     have pK:∀i,({st with bs:=st.bs.set k (.iter l (pos+(Utf8.decode ⟨l.toArray⟩ pos).2))}:St).aq i=st.aq i:=by
      intro i;simp only[St.aq]
      by_cases hik:i=k
      ·subst hik;rw[List.getElem?_set_self nu,hb];rfl
      ·rw[List.getElem?_set_ne (by omega)]
     have ID:cM w (st.x β Z) w' (({st with bs:=st.bs.set k (.iter l (pos+(Utf8.decode ⟨l.toArray⟩ pos).2))}:St).x β Z):=by
      refine⟨fun i p hp=>⟨p,hp⟩,fun i hi=>⟨hi,hne i fun e=>h.zd k b 0 hβ (e▸hi)⟩,fun i q p hi hq=>⟨q,?_,Nat.le_refl _⟩,fun i q hq Al i' y hy=>⟨hy,?_⟩⟩
      ·have:=pK i;show st.aq i=some q;rw[←this];exact hq
      ·by_cases e:i'=b
       ·subst e;simp[bU,heq,Cs]
       ·exact db (hne i' e)
     refine⟨.tuple #[.bool true,.int .i64 pos,.int .i32 (Utf8.decode ⟨l.toArray⟩ pos).1],w',?_,⟨⟨?_,?_,h.inj,h.zd,?_,?_,?_,?_⟩,ID,⟨rfl,rfl,rfl,by simp[w'],fun i _ hn=>hne i fun e=>hn ⟨k,0,e▸hβ,dh Ds⟩⟩,
      fun i q y hq=>.inl ⟨y,hq⟩,fun _ hz=>.inl hz,by simp,rfl,rfl,?_,fun i _ h0=>by
       have:i≠k:=fun e=>by subst e;rw[hβ] at h0;cases h0
       dsimp only;rw[List.getElem?_set_ne (by omega)]
       exact⟨h0,rfl⟩⟩,?_⟩
     ·simp only[Instr.next,Sem.run_bind,getObj,setObj];simp[Sem.run,Cs,hsz,hp,goInt,w']
     ·intro i q y hq;simp;exact h.dom i q y hq
     ·intro i q y hq;simp only[w',Array.size_setIfInBounds];exact h.lt i q y hq
     ·intro i hi;simp only[w',Array.size_setIfInBounds];exact h.zl i hi
     ·intro i q y bx hq fT;(dsimp only at fT)
      by_cases hik:i=k
      ·subst hik;rw[List.getElem?_set_self nu] at fT;cases fT;rw[hβ] at hq;cases hq;exact⟨rfl,heq⟩
      ·rw[List.getElem?_set_ne (by omega)] at fT;exact(h.box i q y bx hq fT).cD ID (hne q fun e=>hik (h.inj i k q _ _ hq (e▸hβ)))
     ·have:=h.flr;simp;omega
     ·have:=h.ro;simp;omega
     ·intro i hi;have:=dh Ds;dsimp only;rw[List.getElem?_set_ne (by omega)];exact⟨rfl,rfl⟩
     ·refine .im _ _ (.tup _ [.bool true,.int .i64 pos,.int .i32 (Utf8.decode ⟨l.toArray⟩ pos).1] rfl fun i c v hc hv=>?_)
      match i with
      |0=>simp at hc hv;subst hc;subst hv;exact .bool _
      |1=>simp at hc hv;subst hc;subst hv;exact .int _ _
      |2=>simp at hc hv;subst hc;subst hv;exact .int _ _
      |i+3=>simp at hc
    ·cases hs
   ·rename_i hp;cases hs;refine⟨.tuple #[.bool false],w,?_,Nx.same h,.im _ _ (.tup _ [.bool false] rfl fun i c v hc hv=>?_)⟩
    ·simp only[Instr.next,Sem.run_bind,getObj];simp[Sem.run,Cs,hsz,hp]
    ·match i with
     |0=>simp at hc hv;subst hc;subst hv;exact .bool _
     |i+1=>simp at hc
  ·cases hs
 ·cases hs
end
end Go.V
namespace Go.V
open Go.RowKit
def NY (P:Program) (a:Act) (o:Oper) (w:World) (v:Value) (w':World):Prop:=
 (execOp a.eval o).run P w=.ok (.value v) w'∨((execOp a.eval o).run P w=.ok .skip w'∧v=undef)
def iA (pv:Pv) (f:Nat):Bool:=
 match pv.fi f with
 |some x=>match x.mode with
  | .ro| .nw=>true
  |_=>false
 |none=>false
def eA (pv:Pv) (o:Oper):Bool:=
 match o.op with
 | .store _ _ _=>true
 | .next _ _=>true
 | .convert s t _=>l7 pv s t
 | .insert _ _ _ _=>true
 | .mapUpdate _ _ _ _=>true
 | .call ⟨.builtin b,_,_⟩=>match b with
  | .len| .min| .max=>false
  |_=>true
 | .call ⟨.value (.func f),_,_⟩=>!iA pv f
 | .call _=>true
 |_=>false
theorem tH {P:Program} {w:World} {x:X} (nW:Bool):∀(ds:List D) (us:List Value) {d r:D} {u:Value},ds.length=us.length→(∀(i:Nat) c v,ds[i]?=some c→us[i]?=some v→VR w x c v)→VR w x d u→n4 (rJ nW) d ds=some r→
  ∃z,(us.foldlM (if nW then Builtin.min2 else Builtin.max2) u).run P w=.ok z w∧VR w x r z
 |[],us,d,r,u,hl,_,hd,hf=>by
  cases us with
  |nil=>simp[n4] at hf;subst hf;exact⟨u,by simp,hd⟩
  |cons v us=>simp at hl
 |e::ds,us,d,r,u,hl,hr,hd,hf=>by
  cases us with
  |nil=>simp at hl
  |cons v us=>
   simp only[n4] at hf;obtain⟨m,hm,hf⟩:=Option.bind_eq_some_iff.1 hf;have he:=hr 0 e v rfl rfl;unfold rJ at hm
   split at hm
   ·rename_i k a k' b;cases hm;rw[bW hd,bW he];have hz:VR w x (.int k (if nW then(if b<a then b else a) else(if b>a then b else a))) (.int k (if nW then(if b<a then b else a) else(if b>a then b else a))):=.im _ _ (.int _ _);obtain⟨z,h1,h2⟩:=tH (P:=P) nW ds us (by simpa using hl) (fun i c v hc hv=>hr (i+1) c v hc hv) hz hf;refine⟨z,?_,h2⟩;simp only[List.foldlM_cons,Sem.run_bind];cases nW<;>simp[Builtin.min2,Builtin.max2] at h1⊢<;>exact h1
   ·cases hm
theorem D0 {w:World} {x:X} {d:D} {u:Value} {n:Nat} (hu:VR w x d u) (h:vl d=some n) (hs:∀s,d≠.str s):∃a c,u=.slice a n c:=by
 cases d with
 |sl es=>obtain⟨a,c,rfl,_⟩:=jD hu;simp[vl] at h;subst h;exact⟨a,c,rfl⟩
 |nul=>simp[vl] at h;subst h;exact⟨_,_,dS hu⟩
 |win k v o l s=>obtain⟨a,c,rfl,_⟩:=dR hu;simp[vl] at h;subst h;exact⟨_,_,rfl⟩
 |str s=>exact absurd rfl (hs s)
 |_=>simp[vl] at h
section
variable{pv:Pv} {P:Program} (ok:pv.Ok P)
include ok
theorem CW {w:World} {st ae:St} {β:Nat→Option (Nat×Nat)} {Z:Nat→Prop} (h:fm w st β Z) {bB:List TypeId} {ty:TypeId} {d r:D} {u:Value} (hu:VR w (st.x β Z) d u)
  (hs:ke pv bB d st=some (r,ae)):∃z w',(Builtin.clear_ bB.toArray ty #[u]).run P w=.ok z w'∧Nx w st β Z w' ae β Z∧VR w' (ae.x β Z) r z:=by
 unfold ke at hs
 split at hs
 ·rename_i dT rest
  split at hs
  ·rename_i e Gk
   split at hs
   ·cases hs;rw[dS hu];refine⟨.tuple #[],w,?_,Nx.same h,.im _ _ (.tup [] [] rfl (by simp))⟩;simp only[Builtin.clear_,List.getElem?_toArray,List.getElem?_cons_zero,Sem.run_bind,ax ok Gk,Result.andThen_ok,Sem.run_pure]
   ·rename_i k aq off len sz;obtain⟨z,hz,hs⟩:=Option.bind_eq_some_iff.1 hs
    split at hs
    ·rename_i k_;obtain⟨st1,hwr,hs⟩:=Option.map_eq_some_iff.1 hs;cases hs;obtain⟨a,cap,rfl,hc,hk,_,h_⟩:=dR hu
     have iB:st.aq k=some aq:=by
      unfold St.wr at hwr
      split at hwr
      ·rename_i hm;exact(cn hm).2
      ·cases hwr
     obtain⟨b,base,Dz,hb,_,tF⟩:=h_ iB;obtain⟨zv,HY,FF⟩:=fx ok w (st.x β Z) hz;have AV:zv.cells.toList.length=sz:=by rw[←FF.len,k_]
     obtain⟨q1,q2⟩:=oW FF len len (Nat.le_refl _) AV _ rfl
     have cO:((Array.range (len*sz)).map (zv.cells.toList.toArray[·%zv.cells.toList.toArray.size]!))=Builtin.zeroCells zv.cells len:=by
      have:zv.cells.size=sz:=by rw[←AV];simp
      simp[Builtin.zeroCells,this]
     rw[cO] at q1 q2
     have AZ:LR w (st.x β Z) (eu len z) (Builtin.zeroCells zv.cells len).toList:=by
      refine⟨by rw[eE,k_,Array.length_toList,q1],fun u hu=>?_,fun i c u xE hu=>?_⟩
      ·obtain⟨j,hj⟩:=List.getElem?_of_mem hu
       have jB:j<len*sz:=by
        rcases Nat.lt_or_ge j (len*sz) with h'|h'
        ·exact h'
        ·rw[List.getElem?_eq_none (by rw[Array.length_toList,q1];exact h')] at hj;cases hj
       obtain⟨u',gI,jA,_⟩:=q2 j _ (List.getElem?_eq_getElem (by rw[eE,k_];exact jB));rw[Array.getElem?_toList] at hj;rw[hj] at gI;cases gI;exact jA
      ·obtain⟨u',gI,_,np⟩:=q2 i c xE;rw[Array.getElem?_toList] at hu;rw[hu] at gI;cases gI;exact np
     have hla:len=0∨(Builtin.zeroCells zv.cells len).toList=[]∨a=⟨b,base+off,none⟩:=by
      rcases tF with rfl|⟨rfl,_⟩
      ·exact .inl (by omega)
      ·exact .inr (.inr rfl)
     rcases hla with rfl|hla
     ·have h0:(Builtin.zeroCells zv.cells 0).toList=[]:=by simp[Builtin.zeroCells]
      rw[h0] at AZ;obtain⟨w',h3,β',h4,rfl⟩:=yg (P:=P) (a:=⟨b,base+off,none⟩) h AZ hwr hb (.inl rfl);simp only[storeCells,Sem.run_pure,Result.ok.injEq,true_and] at h3;subst h3;refine⟨.tuple #[],w,?_,h4,.im _ _ (.tup [] [] rfl (by simp))⟩;simp only[Builtin.clear_,List.getElem?_toArray,List.getElem?_cons_zero,Sem.run_bind,ax ok Gk,Result.andThen_ok,Sem.run_pure]
     ·obtain⟨w',h3,β',h4,rfl⟩:=yg (P:=P) h AZ hwr hb hla;refine⟨.tuple #[],w',?_,h4,.im _ _ (.tup [] [] rfl (by simp))⟩
      cases len with
      |zero=>
       have h0:(Builtin.zeroCells zv.cells 0).toList=[]:=by simp[Builtin.zeroCells]
       rw[h0] at h3;simp only[storeCells,Sem.run_pure,Result.ok.injEq,true_and] at h3;subst h3;simp only[Builtin.clear_,List.getElem?_toArray,List.getElem?_cons_zero,Sem.run_bind,ax ok Gk,Result.andThen_ok,Sem.run_pure]
      |succ len=>
       simp only[Builtin.clear_,List.getElem?_toArray,List.getElem?_cons_zero,Sem.run_bind,ax ok Gk,Result.andThen_ok,HY,h3,Sem.run_pure]
    ·cases hs
   ·cases hs
  ·cases hs
 ·cases hs
theorem x0 {w:World} {st ae:St} {β:Nat→Option (Nat×Nat)} {Z:Nat→Prop} (h:fm w st β Z) {b:Builtin} {bB:List TypeId} {ds:List D} {us:List Value} {ty:TypeId} {cs:Array Bool} {r:D} (hl:ds.length=us.length)
  (hr:∀(i:Nat) c v,ds[i]?=some c→us[i]?=some v→VR w (st.x β Z) c v) (hs:ba pv b bB ds st=some (r,ae)):
  ∃z w' β',(builtin b bB.toArray ty cs us.toArray).run P w=.ok (.value z) w'∧Nx w st β Z w' ae β' Z∧VR w' (ae.x β' Z) r z∧(b=.len∨b=.min∨b=.max→Quiet w w'):=by
 unfold ba at hs
 split at hs
 ·rename_i d
  obtain⟨u,rfl⟩:∃u,us=[u]:=by
   match us,hl with
   |[u],_=>exact⟨u,rfl⟩
  have hu:=hr 0 d u rfl rfl
  split at hs
  ·rename_i t rest
   split at hs
   ·rename_i ht
    split at hs
    ·rename_i s;cases hs;rw[eM hu];refine⟨.int .i64 s.length,w,β,?_,Nx.same h,.im _ _ (.int _ _),fun _=>Quiet.refl _⟩;have hsz:(⟨s.toArray⟩:ByteArray).size=s.length:=by simp[ByteArray.size]
     simp[builtin,Builtin.len_,ax ok ht,goInt,hsz]
    ·cases hs
   ·rename_i e ht
    split at hs
    ·cases hs
    ·rename_i AY
     split at hs
     ·rename_i n hn;cases hs;obtain⟨a,c,e⟩:=D0 hu hn AY;refine⟨.int .i64 n,w,β,?_,Nx.same h,.im _ _ (.int _ _),fun _=>Quiet.refl _⟩;rw[e];simp[builtin,Builtin.len_,ax ok ht,goInt]
     ·cases hs
   ·rename_i n e ht;cases hs;refine⟨.int .i64 n,w,β,?_,Nx.same h,.im _ _ (.int _ _),fun _=>Quiet.refl _⟩;cases u<;>simp[builtin,Builtin.len_,ax ok ht,goInt]
   ·cases hs
  ·cases hs
 ·rename_i d e
  obtain⟨u,v,rfl⟩:∃u v,us=[u,v]:=by
   match us,hl with
   |[u,v],_=>exact⟨u,v,rfl⟩
  obtain⟨z,w',β',h1,h2,h3⟩:=AR ok h (ty:=ty) (hr 0 d u rfl rfl) (hr 1 e v rfl rfl) hs;exact⟨z,w',β',by simp[builtin,h1],h2,h3,fun e=>by simp at e⟩
 ·rename_i d e
  obtain⟨u,v,rfl⟩:∃u v,us=[u,v]:=by
   match us,hl with
   |[u,v],_=>exact⟨u,v,rfl⟩
  obtain⟨z,w',h1,h2,h3⟩:=Er ok h (ty:=ty) (hr 0 d u rfl rfl) (hr 1 e v rfl rfl) hs;exact⟨z,w',β,by simp[builtin,h1],h2,h3,fun e=>by simp at e⟩
 ·rename_i d
  obtain⟨u,rfl⟩:∃u,us=[u]:=by
   match us,hl with
   |[u],_=>exact⟨u,rfl⟩
  obtain⟨z,w',h1,h2,h3⟩:=CW ok h (ty:=ty) (hr 0 d u rfl rfl) hs;exact⟨z,w',β,by simp[builtin,h1],h2,h3,fun e=>by simp at e⟩
 ·rename_i d l
  obtain⟨u,vs,rfl⟩:∃u vs,us=u::vs:=by
   match us,hl with
   |u::vs,_=>exact⟨u,vs,rfl⟩
  obtain⟨m,hm,hs⟩:=Option.map_eq_some_iff.1 hs;cases hs;obtain⟨z,h1,h2⟩:=tH (P:=P) true l vs (by simpa using hl) (fun i c v hc hv=>hr (i+1) c v hc hv) (hr 0 d u rfl rfl) hm;exact⟨z,w,β,by simp only[if_true] at h1;simp[builtin,Builtin.min_,h1],Nx.same h,h2,fun _=>Quiet.refl _⟩
 ·rename_i d l
  obtain⟨u,vs,rfl⟩:∃u vs,us=u::vs:=by
   match us,hl with
   |u::vs,_=>exact⟨u,vs,rfl⟩
  obtain⟨m,hm,hs⟩:=Option.map_eq_some_iff.1 hs;cases hs;obtain⟨z,h1,h2⟩:=tH (P:=P) false l vs (by simpa using hl) (fun i c v hc hv=>hr (i+1) c v hc hv) (hr 0 d u rfl rfl) hm;exact⟨z,w,β,by simp only[Bool.false_eq_true,if_false] at h1;simp[builtin,Builtin.max_,h1],Nx.same h,h2,fun _=>Quiet.refl _⟩
 ·cases hs
omit ok in
theorem xH {w:World} {x:X} {fr:Fr} {a:Act} (hf:mG w x fr a.tmps) (l:List Operand):∀(i:Nat) c v,(l.map fr.ev)[i]?=some c→(l.map a.eval)[i]?=some v→VR w x c v:=by
 intro i c v hc hv;rw[List.getElem?_map] at hc hv
 cases hl:l[i]? with
 |none=>simp[hl] at hc
 |some o=>simp[hl] at hc hv;subst hc;subst hv;exact r_ hf o
omit ok in
theorem uS {w:World} {x:X} {fr:Fr} {a:Act} (hf:mG w x fr a.tmps) (l:List (Nat×Operand)):∀(i:Nat) p q,(l.map fun p=>(p.1,fr.ev p.2))[i]?=some p→(l.map fun p=>(p.1,a.eval p.2))[i]?=some q→p.1=q.1∧VR w x p.2 q.2:=by
 intro i p q hp hq;rw[List.getElem?_map] at hp hq
 cases hl:l[i]? with
 |none=>simp[hl] at hp
 |some o=>simp[hl] at hp hq;subst hp;subst hq;exact⟨rfl,r_ hf _⟩
theorem HH {w:World} {st ae:St} {β:Nat→Option (Nat×Nat)} {Z:Nat→Prop} (h:fm w st β Z) {fr:Fr} {a:Act} (hf:mG w (st.x β Z) fr a.tmps) {o:Oper} {d:D} (hs:df pv fr st o.op o.type=some (d,ae)):
  ∃v w' β',NY P a o w v w'∧Nx w st β Z w' ae β' Z∧VR w' (ae.x β' Z) d v∧(eA pv o=false→Quiet w w'):=by
 obtain⟨dst,op,ty,pos,after,guard⟩:=o
 have gS:∀{s:Sem Value} {d:D} {v:Value},execOp a.eval ⟨dst,op,ty,pos,after,guard⟩=(do pure (.value (←s)):Sem Next)→s.run P w=.ok v w→VR w (st.x β Z) d v→
   ∃v w' β',NY P a ⟨dst,op,ty,pos,after,guard⟩ w v w'∧Nx w st β Z w' st β' Z∧VR w' (st.x β' Z) d v∧(eA pv ⟨dst,op,ty,pos,after,guard⟩=false→Quiet w w'):=by
  intro s d v he hr hv;exact⟨v,w,β,.inl (by rw[he];simp[hr]),Nx.same h,hv,fun _=>Quiet.refl _⟩
 have full:∀{s:Sem Value} {d:D} {ae:St},execOp a.eval ⟨dst,op,ty,pos,after,guard⟩=(do pure (.value (←s)):Sem Next)→(∃z w' β',s.run P w=.ok z w'∧Nx w st β Z w' ae β' Z∧VR w' (ae.x β' Z) d z∧Quiet w w')→
   ∃v w' β',NY P a ⟨dst,op,ty,pos,after,guard⟩ w v w'∧Nx w st β Z w' ae β' Z∧VR w' (ae.x β' Z) d v∧(eA pv ⟨dst,op,ty,pos,after,guard⟩=false→Quiet w w'):=by
  rintro s d ae he ⟨z,w',β',h1,h2,h3,h4⟩;exact⟨z,w',β',.inl (by rw[he];simp[h1]),h2,h3,fun _=>h4⟩
 have ev:=fun o=>r_ hf o;simp only at hs;unfold df at hs
 split at hs
 ·rename_i x;cases hs;exact⟨a.eval x,w,β,.inl rfl,Nx.same h,ev x,fun _=>Quiet.refl _⟩
 ·rename_i x;cases hs;exact⟨a.eval x,w,β,.inl rfl,Nx.same h,ev x,fun _=>Quiet.refl _⟩
 ·rename_i c p q;have hc:=ev c
  split at hs
  ·rename_i hb;cases hs;rw[hb] at hc;exact gS (s:=do pure (if←asBool (a.eval c) then a.eval p else a.eval q)) (by simp[execOp]) (by rw[dB hc];simp[asBool]) (ev p)
  ·rename_i hb;cases hs;rw[hb] at hc;exact gS (s:=do pure (if←asBool (a.eval c) then a.eval p else a.eval q)) (by simp[execOp]) (by rw[dB hc];simp[asBool]) (ev q)
  ·cases hs
 ·rename_i e;obtain⟨cs,hz,hs⟩:=Option.map_eq_some_iff.1 hs;cases hs;exact full rfl (Db ok h hz)
 ·rename_i e x;obtain⟨cs,hz,hs⟩:=Option.map_eq_some_iff.1 hs;cases hs;exact full rfl (BX (P:=P) h (mw (ev x) hz) e)
 ·rename_i t parts;obtain⟨r,hb,hs⟩:=Option.map_eq_some_iff.1 hs;cases hs;obtain⟨z,h1,h2⟩:=C9 ok (parts':=parts.toList.map fun p=>(p.1,a.eval p.2)) (by simp) (uS hf _) hb;refine gS rfl ?_ h2
  have:(parts.map fun(x:Nat×Operand)=>match x with|(i,x)=>(i,a.eval x))=(parts.toList.map fun p=>(p.1,a.eval p.2)).toArray:=by
   apply Array.ext';simp
  simp only[this];exact h1
 ·rename_i t len parts;have hb:=rf ok h (parts':=parts.toList.map fun p=>(p.1,a.eval p.2)) (by simp) (uS hf _) hs
  have:(parts.map fun(x:Nat×Operand)=>match x with|(i,x)=>(i,a.eval x))=(parts.toList.map fun p=>(p.1,a.eval p.2)).toArray:=by
   apply Array.ext';simp
  refine full (s:=Instr.buildSlice t len (parts.map fun(x:Nat×Operand)=>match x with|(i,x)=>(i,a.eval x))) rfl ?_;rw[this];exact hb
 ·rename_i t ad;obtain⟨r,hl,hs⟩:=Option.map_eq_some_iff.1 hs;cases hs;have hv:=ev ad;unfold eW at hl
  split at hl
  ·rename_i k aq off hd;rw[hd] at hv;obtain⟨⟨ar,c⟩,hm,hl⟩:=Option.bind_eq_some_iff.1 hl;obtain⟨p,hp,_,h_⟩:=bH hv;obtain⟨b,base,hb,rfl⟩:=h_ (cn hm).2;obtain⟨z,h1,h2⟩:=oB ok ((h.cells hm hb).drop off) hl;refine gS rfl ?_ h2;rw[hp];simp[Instr.loadAt,Instr.sureAddr,h1]
  ·rename_i c hd;rw[hd] at hv;obtain⟨b,off,hp,_,hc,_⟩:=oY hv;obtain⟨z,h1,h2⟩:=oB ok hc hl;refine gS rfl ?_ h2;rw[hp];simp[Instr.loadAt,Instr.sureAddr,h1]
  ·cases hl
 ·rename_i t ad x;obtain⟨st1,iJ,hs⟩:=Option.map_eq_some_iff.1 hs;cases hs;obtain⟨w',h1,h2⟩:=Be ok h (ev ad) (ev x) iJ;exact⟨undef,w',β,.inr ⟨by simp[execOp,h1],rfl⟩,h2,.im _ _ (.tup [] [] rfl (by simp)),fun e=>by simp[eA] at e⟩
 ·rename_i x;have hv:=ev x
  split at hs
  ·rename_i k v o hd;cases hs;rw[hd] at hv;obtain⟨p,hp,_⟩:=bH hv;exact⟨a.eval x,w,β,.inl (by simp[execOp,hp]),Nx.same h,hv,fun _=>Quiet.refl _⟩
  ·rename_i c hd;cases hs;rw[hd] at hv;obtain⟨b,off,hp,_⟩:=oY hv;exact⟨a.eval x,w,β,.inl (by simp[execOp,hp]),Nx.same h,hv,fun _=>Quiet.refl _⟩
  ·rename_i f c hd;cases hs;rw[hd] at hv;obtain⟨vs,hp,_⟩:=ud hv;exact⟨a.eval x,w,β,.inl (by simp[execOp,hp]),Nx.same h,hv,fun _=>Quiet.refl _⟩
  ·cases hs
 ·rename_i Ti t x y _;obtain⟨r,hb,hs⟩:=Option.map_eq_some_iff.1 hs;cases hs;obtain⟨z,h1,h2⟩:=GL ok x y (ev x) (ev y) hb;exact gS rfl h1 h2
 ·rename_i Sp t x;obtain⟨r,hb,hs⟩:=Option.map_eq_some_iff.1 hs;cases hs;obtain⟨z,h1,h2⟩:=Hq (P:=P) (ev x) hb;exact gS rfl h1 h2
 ·rename_i s t x;obtain⟨z,w',β',h1,h2,h3,h4⟩:=Es ok h (ev x) hs;exact⟨z,w',β',.inl (by simp[execOp,h1]),h2,h3,fun e=>h4 (by simpa[eA] using e)⟩
 ·rename_i f first captured
  split at hs
  ·rename_i Gh;cases hs;have Gh:first=#[]:=by simpa using Gh
   subst Gh;refine⟨.func (.func f) #[] (captured.toList.map a.eval).toArray,w,β,.inl ?_,Nx.same h,.fn f _ _ (by simp) (xH hf _),fun _=>Quiet.refl _⟩;have:captured.map a.eval=(captured.toList.map a.eval).toArray:=by apply Array.ext';simp
   rw[←this];simp[execOp,Instr.makeFunc]
  ·cases hs
 ·rename_i t l c;exact full rfl (te ok h (ev l) (ev c) hs)
 ·rename_i t x lo hi;obtain⟨r,hb,hs⟩:=Option.map_eq_some_iff.1 hs;cases hs;obtain⟨z,h1,h2⟩:=Bh ok h (yL:=lo.map a.eval) (tx:=hi.map a.eval) (ev x) (fun d v e1 e2=>by cases lo with|none=>cases e1|some q=>cases e1;cases e2;exact ev q) (fun d v e1 e2=>by cases hi with|none=>cases e1|some q=>cases e1;cases e2;exact ev q) (by cases lo<;>rfl) (by cases hi<;>rfl) hb;exact gS rfl h1 h2
 ·rename_i t x f;obtain⟨r,hb,hs⟩:=Option.map_eq_some_iff.1 hs;cases hs;obtain⟨z,h1,h2⟩:=tJ ok (ev x) hb;exact gS rfl h1 h2
 ·rename_i t x f;obtain⟨r,hb,hs⟩:=Option.map_eq_some_iff.1 hs;cases hs;obtain⟨z,h1,h2⟩:=CL ok (ev x) hb;exact gS rfl h1 h2
 ·rename_i t x i;obtain⟨r,hb,hs⟩:=Option.map_eq_some_iff.1 hs;cases hs;obtain⟨z,h1,h2⟩:=tj ok (ev x) (ev i) hb;exact gS rfl h1 h2
 ·rename_i t x i;obtain⟨r,hb,hs⟩:=Option.map_eq_some_iff.1 hs;cases hs;obtain⟨z,h1,h2⟩:=Cb ok (ev x) (ev i) hb;exact gS rfl h1 h2
 ·rename_i t x;exact full rfl (Bt ok h (ev x) hs)
 ·rename_i t r;obtain⟨z,w',β',h1,h2,h3,h4⟩:=xg ok h (u:=r.map a.eval) (by cases r<;>simp) (fun d v e1 e2=>by cases r with|none=>cases e1|some q=>cases e1;cases e2;exact ev q) hs;exact⟨z,w',β',.inl (by simp[execOp,h1]),h2,h3,fun _=>h4⟩
 ·rename_i t m k x;obtain⟨st1,iJ,hs⟩:=Option.map_eq_some_iff.1 hs;cases hs;obtain⟨w',h1,h2⟩:=rK ok h (ev m) (ev k) (ev x) iJ;exact⟨undef,w',β,.inr ⟨by simp[execOp,h1],rfl⟩,h2,.im _ _ (.tup [] [] rfl (by simp)),fun e=>by simp[eA] at e⟩
 ·rename_i t m k x;obtain⟨st1,iJ,hs⟩:=Option.map_eq_some_iff.1 hs;cases hs;obtain⟨w',h1,h2⟩:=rK ok h (ev m) (ev k) (ev x) iJ;exact⟨undef,w',β,.inr ⟨by simp[execOp,h1],rfl⟩,h2,.im _ _ (.tup [] [] rfl (by simp)),fun e=>by simp[eA] at e⟩
 ·rename_i t x i;obtain⟨r,hb,hs⟩:=Option.map_eq_some_iff.1 hs;cases hs;obtain⟨z,h1,h2⟩:=Ac ok h (ev x) (ev i) hb;exact gS rfl h1 h2
 ·rename_i it s;obtain⟨z,w',h1,h2,h3⟩:=DU (P:=P) (ty:=ty) h (ev it) hs;exact⟨z,w',β,.inl (by simp[execOp,h1]),h2,h3,fun e=>by simp[eA] at e⟩
 ·rename_i t i;have hv:=ev t
  split at hs
  ·rename_i ds hd;rw[hd] at hv;obtain⟨r,hb,hs⟩:=Option.map_eq_some_iff.1 hs;cases hs;obtain⟨vs,hp,hl,hr⟩:=sC hv
   have hi:i<ds.length:=by
    rcases Nat.lt_or_ge i ds.length with h'|h'
    ·exact h'
    ·rw[List.getElem?_eq_none h'] at hb;cases hb
   have tx:vs[i]?=some (vs[i]'(by omega)):=List.getElem?_eq_getElem _;refine gS rfl ?_ (hr i _ _ hb tx);rw[hp];simp[Instr.extract,tx]
  ·cases hs
 ·rename_i b args bB;have hb:=x0 ok h (us:=args.toList.map a.eval) (ty:=ty) (cs:=args.map fun| .const _=>true|_=>false) (by simp) (xH hf _) hs;obtain⟨z,w',β',h1,h2,h3,h4⟩:=hb;refine⟨z,w',β',.inl ?_,h2,h3,fun e=>h4 (by cases b<;>simp[eA] at e⊢)⟩;have:args.map a.eval=(args.toList.map a.eval).toArray:=by apply Array.ext';simp
  simp only[Array.toArray_toList] at h1;simp only[execOp,resolve,invoke,this,Sem.run_bind,Sem.run_pure,Result.andThen_ok];exact h1
 ·cases hs
end
end Go.V
namespace Go.V
open Go.RowKit
theorem bo {d:D}:∀{ds:List D},d∈ds→d.ref≤refs ds
 |e::ds,h=>by
  rcases List.mem_cons.1 h with rfl|h
  ·simp only[refs];exact Nat.le_max_left _ _
  ·have:=bo h;simp only[refs];exact Nat.le_trans this (Nat.le_max_right _ _)
theorem oF {N:Nat}:∀{ds:List D},(∀d∈ds,d.ref≤N)→refs ds≤N
 |[],_=>by simp[refs]
 |d::ds,h=>by
  simp only[refs];exact Nat.max_le.2 ⟨h d (List.mem_cons_self ..),oF fun e he=>h e (List.mem_cons_of_mem _ he)⟩
structure dq (st ae:St):Prop where
 len:st.bs.length≤ae.bs.length
 flr:ae.flr=st.flr
 ro:ae.ro=st.ro
 low:∀k,k<st.ro→k<st.bs.length→ae.bs[k]?=st.bs[k]?
 fl:∀k bx tO,k<st.flr→st.bs[k]?=some bx→ae.bs[k]?=some tO→∀d∈tO.cells,d.ref≤max (k+1) (refs bx.cells)
theorem dq.refl (st:St):dq st st:=⟨Nat.le_refl _,rfl,rfl,fun _ _ _=>rfl,fun _ _ _ _ h h' d hd=>by rw[h] at h';cases h';exact Nat.le_trans (bo hd) (Nat.le_max_right _ _)⟩
theorem eP {α:Type} {l:List α} {k:Nat} {x:α} (h:l[k]?=some x):k<l.length:=by
 rcases Nat.lt_or_ge k l.length with h'|h'
 ·exact h'
 ·rw[List.getElem?_eq_none h'] at h;cases h
theorem dq.trans {a b c:St} (h:dq a b) (g:dq b c):dq a c:=
 ⟨Nat.le_trans h.len g.len,g.flr.trans h.flr,g.ro.trans h.ro,fun k hk hl=>(g.low k (by rw[h.ro];exact hk) (Nat.lt_of_lt_of_le hl h.len)).trans (h.low k hk hl),fun k bx tO hk h1 h2 d hd=>by
  have hb:k<b.bs.length:=Nat.lt_of_lt_of_le (eP h1) h.len;have h3:=g.fl k _ tO (by rw[h.flr];exact hk) (List.getElem?_eq_getElem hb) h2 d hd;have h4:refs (b.bs[k]).cells≤max (k+1) (refs bx.cells):=oF fun e he=>h.fl k bx _ hk h1 (List.getElem?_eq_getElem hb) e he
  omega⟩
theorem dq.push (st:St) (b:gP):dq st (st.push b):=
 ⟨by simp[St.push],rfl,rfl,fun k _ hl=>by simp[St.push,List.getElem?_append_left hl],fun k bx tO _ h1 h2 d hd=>by
  simp only[St.push,List.getElem?_append_left (eP h1)] at h2
  rw[h1] at h2;cases h2;exact Nat.le_trans (bo hd) (Nat.le_max_right _ _)⟩
theorem dq.set (st:St) (k:Nat) (b b0:gP) (h:st.ro≤k) (h0:st.bs[k]?=some b0) (hc:st.flr≤k∨∀d∈b.cells,d∈b0.cells∨d.ref≤max (k+1) (refs b0.cells)):dq st {st with bs:=st.bs.set k b}:=
 ⟨by simp,rfl,rfl,fun i hi _=>by simp only;rw[List.getElem?_set_ne (by omega)],fun i bx tO hi h1 h2 d hd=>by
  by_cases hik:k=i
  ·subst hik;rw[h0] at h1;cases h1;simp only at h2;rw[List.getElem?_set_self (eP h0)] at h2;cases h2
   rcases hc with hc|hc
   ·omega
   ·rcases hc d hd with h|h
    ·exact Nat.le_trans (bo h) (Nat.le_max_right _ _)
    ·exact h
  ·simp only at h2;rw[List.getElem?_set_ne hik,h1] at h2;cases h2
   exact Nat.le_trans (bo hd) (Nat.le_max_right _ _)⟩
theorem nS {d:D}:∀(cs c:List D) (off:Nat),d∈setMany c off cs→d∈c∨d∈cs
 |[],c,off,h=>.inl h
 |x::xs,c,off,h=>by
  rcases nS xs _ _ h with h|h
  ·rcases List.mem_or_eq_of_mem_set h with h|rfl
   ·exact .inl h
   ·exact .inr (List.mem_cons_self ..)
  ·exact .inr (List.mem_cons_of_mem _ h)
theorem s_ {st:St} {k aq:Nat} {a:Bool} {c:List D} (h:st.dL k aq=some (a,c)):st.bs[k]?=some (.mem aq a c):=by
 unfold St.dL at h
 split at h
 ·rename_i v a' c' hb
  split at h
  ·rename_i hv;cases h;rw[hb,hv]
  ·cases h
 ·cases h
theorem zk {st:St} {k r:Nat} (h:st.jb k r=true):st.flr≤k∨r≤max (k+1) (st.sO k):=by
 simp only[St.jb,Bool.and_eq_true,Bool.or_eq_true,decide_eq_true_eq] at h;omega
theorem rA {st:St} {k:Nat} {b:gP} (h:st.bs[k]?=some b):st.sO k=refs b.cells:=by simp only[St.sO,h]
def mH (st ae:St):Prop:=∃l,ae=⟨st.bs++l,st.flr,st.ro⟩
theorem mH.rfl (st:St):mH st st:=⟨[],by simp⟩
theorem mH.push (st:St) (b:gP):mH st (st.push b):=⟨[b],by simp[St.push]⟩
theorem mH.goes {st ae:St} (h:mH st ae):dq st ae:=by
 obtain⟨l,rfl⟩:=h
 exact⟨by simp,Eq.refl _,Eq.refl _,fun k _ hl=>by simp only;rw[List.getElem?_append_left hl],fun k bx tO _ h1 h2 d hd=>by
  simp only at h2;rw[List.getElem?_append_left (eP h1),h1] at h2;cases h2
  exact Nat.le_trans (bo hd) (Nat.le_max_right _ _)⟩
structure gO (P:Program) (pv:Pv) (cf:dJ):Prop where
 fn:∀f ds st r,cf f ds st=some r→∃fn b,P.funcs[f]?=some fn∧fn.body=some b∧fn.name≠ "runtime.NumGoroutine"
 calls:∀f ds st d ae,cf f ds st=some (d,ae)→∀w β Z (us:List Value),fm w st β Z→ds.length=us.length→(∀(i:Nat) c v,ds[i]?=some c→us[i]?=some v→VR w (st.x β Z) c v)→
  Calls P f us.toArray w fun e w'=>∃v β' Z',e=.returned v∧Nx w st β Z w' ae β' Z'∧VR w' (ae.x β' Z') d v∧(iA pv f=true→Quiet w w')
 ro:∀f ds st d ae,cf f ds st=some (d,ae)→iA pv f=true→mH st ae
 len:∀f ds st d ae,cf f ds st=some (d,ae)→dq st ae
section
variable{pv:Pv} {P:Program} (ok:pv.Ok P) {cf:dJ} (dO:gO P pv cf)
include ok dO
theorem oG {w:World} {st ae:St} {β:Nat→Option (Nat×Nat)} {Z:Nat→Prop} (h:fm w st β Z) {fr:Fr} {a:Act} (hf:mG w (st.x β Z) fr a.tmps) {o:Oper} {d:D} (hs:ek pv cf fr st o=some (d,ae))
  {next:Act→World→Prop} {Q:Exit→Act→World→Prop} (K:∀v w' β' Z',Nx w st β Z w' ae β' Z'→VR w' (ae.x β' Z') d v→(eA pv o=false→Quiet w w')→next (a.put o.dst v) w'):o.wp P a w next Q:=by
 unfold ek at hs
 split at hs
 ·rename_i f args bB fX
  split at hs
  ·rename_i g gm hev;have hv:=r_ hf f;rw[hev] at hv;obtain⟨vs,he,hl,hr⟩:=ud hv;obtain⟨fn,b,Rz,hb,Iv⟩:=dO.fn _ _ _ _ hs;have hargs:=xH hf args.toList
   have hrel:∀(i:Nat) c v,(args.toList.map fr.ev++gm)[i]?=some c→(args.toList.map a.eval++vs)[i]?=some v→VR w (st.x β Z) c v:=by
    intro i c v hc hv;rw[List.getElem?_append] at hc hv;simp only[List.length_map] at hc hv
    split at hc
    ·rename_i hi;rw[if_pos hi] at hv;exact hargs i c v hc hv
    ·rename_i hi;rw[if_neg hi] at hv;exact hr _ c v hc hv
   have hcall:=dO.calls _ _ _ _ _ hs w β Z (args.toList.map a.eval++vs) h (by simp[hl]) hrel
   have tn:(execOp a.eval o).run P w=.ok (.enter g (args.toList.map a.eval++vs).toArray) w:=by
    obtain⟨dst,op,ty,pos,after,guard⟩:=o;simp only at fX;subst fX;have RJ:fn.body.isNone=false:=by simp[hb]
    have hn:(fn.name== "runtime.NumGoroutine")=false:=by simpa using Iv
    have Ja:args.map a.eval++vs.toArray=(args.toList.map a.eval++vs).toArray:=by
     apply Array.ext';simp
    simp only[execOp,resolve,he,Deferred.ofValue,Sem.run_bind,Sem.run_pure,Result.andThen_ok,invoke,callFunc,run_program,Rz,hn,RJ,Bool.false_eq_true,if_false,Array.empty_append,Ja]
   unfold Oper.wp;rw[tn,Oper.upon_enter];refine hcall.mono fun e w' ⟨v,β',Z',he,hn,hv,ft⟩=>?_;subst he;refine K v w' β' Z' hn hv ?_;intro he;simp only[eA,fX] at he
   cases f with
   |func g'=>
    simp only[Fr.ev] at hev;cases hev;exact ft (by simpa using he)
   |_=>simp at he
  ·cases hs
 ·rename_i op fX;obtain⟨v,w',β',hd,hn,hv,hq⟩:=HH ok h hf (o:=o) hs;have hK:next (a.put o.dst v) w':=K v w' β' Z hn hv hq;unfold Oper.wp
  rcases hd with hd|⟨hd,rfl⟩
  ·rw[hd,Oper.upon_value];exact hK
  ·rw[hd,Oper.upon_skip];exact hK
omit ok dO in
theorem oz {w:World} {x:X} {ops:Array Oper} {fr:Fr} {a:Act} (hf:mG w x fr a.tmps) {o:Oper} {b:Bool} (h:au ops fr o=some b):Region.wanted o (yielded ops a.tmps)=b:=by
 unfold au at h;unfold Region.wanted
 split at h
 ·rename_i hg;rw[hg];cases h;rfl
 ·rename_i j want hg;rw[hg]
  split at h
  ·cases h
  ·rename_i t ht;have hv:=hf t;show(yielded ops a.tmps j==some want)=b
   have hy:∀u,a.tmps[t]?=u→yielded ops a.tmps j=match u with|some (.bool b)=>some b|_=>none:=by
    intro u hu;simp only[yielded,ht,Option.bind_some,hu]
    cases u with
    |none=>rfl
    |some v=>cases v<;>rfl
   split at h
   ·rename_i b' hb;rw[hb] at hv;have hv:=dB hv;cases h
    have:a.tmps[t]?=some (.bool b'):=by
     rw[Array.getD_eq_getD_getElem?] at hv
     cases FM:a.tmps[t]? with
     |none=>rw[FM] at hv;simp[undef] at hv
     |some v=>rw[FM] at hv;simp at hv;rw[hv]
    rw[hy _ this];cases b'<;>cases want<;>rfl
   ·rename_i ds hb;rw[hb] at hv;obtain⟨vs,hv,_⟩:=sC hv;cases h;rw[Array.getD_eq_getD_getElem?] at hv
    cases FM:a.tmps[t]? with
    |none=>rw[hy _ FM];cases want<;>rfl
    |some v=>rw[FM] at hv;simp at hv;rw[hv] at FM;rw[hy _ FM];cases want<;>rfl
   ·cases h
omit ok dO in
theorem jJ (a:Act) (dst:Option Nat) (v:Value):(a.put dst v).tmps.size=a.tmps.size:=by
 cases dst<;>simp[Act.put]
omit ok dO in
theorem put_defers (a:Act) (dst:Option Nat) (v:Value):(a.put dst v).defers=a.defers:=by
 cases dst<;>simp[Act.put]
def se (ops:List Oper) (n:Nat):Prop:=∀o∈ops,∀t,o.dst=some t→t<n
theorem xb {ops:Array Oper} {Q:Exit→Act→World→Prop}:∀(l:List Oper) (i:Nat) (fr aw:Fr) (st ae:St) (β:Nat→Option (Nat×Nat)) (Z:Nat→Prop) (a:Act) (w:World),(∀j,l[j]?=ops[i+j]?)→
  gK pv cf ops l fr st=some (aw,ae)→fm w st β Z→mG w (st.x β Z) fr a.tmps→se l a.tmps.size→
  (∀a' w' β' Z',Nx w st β Z w' ae β' Z'→mG w' (ae.x β' Z') aw a'.tmps→a'.defers=a.defers→a'.tmps.size=a.tmps.size→Q .normal a' w')→wpOps P ops Q (List.range' i l.length) a w
 |[],i,fr,aw,st,ae,β,Z,a,w,_,hs,h,hf,_,K=>by
  simp only[gK] at hs;cases hs;exact K a w β Z (Nx.same h) hf rfl rfl
 |o::l,i,fr,aw,st,ae,β,Z,a,w,hl,hs,h,hf,hd,K=>by
  have ho:ops[i]?=some o:=by have:=hl 0;simpa using this.symm
  have hl':∀j,l[j]?=ops[i+1+j]?:=fun j=>by have:=hl (j+1);simpa[Nat.add_assoc,Nat.add_comm 1 j] using this
  have Eg:se l a.tmps.size:=fun p hp=>hd p (List.mem_cons_of_mem _ hp);simp only[List.length_cons,List.range'_succ,wpOps,ho];simp only[gK] at hs
  split at hs
  ·rename_i hw;rw[oz hf hw];simp only[if_true];left
   split at hs
   ·rename_i d st1 fX;refine oG ok dO h hf fX fun v w' β' Z' hn hv _=>xb l (i+1) _ aw st1 ae β' Z' _ w' hl' hs hn.sim (Bv (hf.mono hn.keeps) hv o.dst fun t ht=>hd o (List.mem_cons_self ..) t ht) (by rw[jJ];exact Eg) fun a' Hm qM Dt Co qK LV hsz=>?_;exact K a' Hm qM Dt (hn.trans Co) qK (by rw[LV,put_defers]) (by rw[hsz,jJ])
   ·cases hs
  ·rename_i hw;rw[oz hf hw];simp only[Bool.false_eq_true,if_false];refine xb l (i+1) _ aw st ae β Z _ w hl' hs h (Bv hf (.im _ _ (.tup [] [] rfl (by simp))) o.dst fun t ht=>hd o (List.mem_cons_self ..) t ht) (by rw[jJ];exact Eg) fun a' Hm qM Dt Co qK LV hsz=>?_;exact K a' Hm qM Dt Co qK (by rw[LV,put_defers]) (by rw[hsz,jJ])
  ·cases hs
end
end Go.V
namespace Go.V
open Go.RowKit
theorem xf {fr aw:Fr} {l:List Operand} (h:∀x∈l,fr.ev x=aw.ev x):l.map fr.ev=l.map aw.ev:=List.map_congr_left h
theorem uT {fr aw:Fr} {l:List (Nat×Operand)} (h:∀p∈l,fr.ev p.2=aw.ev p.2):l.map (fun p=>(p.1,fr.ev p.2))=l.map (fun p=>(p.1,aw.ev p.2)):=
 List.map_congr_left fun p hp=>by rw[h p hp]
theorem zZ {pv:Pv} {fr aw:Fr} {st:St} {op:Op} {ty:TypeId} (h:∀x∈op.operands.toList,fr.ev x=aw.ev x):df pv fr st op ty=df pv aw st op ty:=by
 unfold df
 cases op with
 |build t ps=>simp only;rw[uT fun p hp=>h p.2 (by simp[Op.operands];exact⟨p.1,by simpa using hp⟩)]
 |buildSlice t len ps=>simp only;rw[uT fun p hp=>h p.2 (by simp[Op.operands];exact⟨p.1,by simpa using hp⟩)]
 |makeFunc f first captured=>
  cases f<;>simp only
  have:captured.toList.map fr.ev=captured.toList.map aw.ev:=xf fun x hx=>h x (by simp[Op.operands];right;simpa using hx);rw[this]
 |slice t x lo hi mx=>
  cases mx<;>simp only
  have hx:fr.ev x=aw.ev x:=h x (by simp[Op.operands])
  have wD:lo.map fr.ev=lo.map aw.ev:=by
   cases lo with
   |none=>rfl
   |some l=>simp only[Option.map_some];rw[h l (by simp[Op.operands])]
  have yX:hi.map fr.ev=hi.map aw.ev:=by
   cases hi with
   |none=>rfl
   |some l=>simp only[Option.map_some];rw[h l (by simp[Op.operands])]
  rw[hx,wD,yX]
 |makeMap t r=>
  cases r with
  |none=>rfl
  |some x=>simp only[Option.map_some];rw[h x (by simp[Op.operands])]
 |lookup t x i ok=>
  simp only[Op.operands,List.mem_cons,List.not_mem_nil,or_false,forall_eq_or_imp,forall_eq,List.toList_toArray] at h;cases ok
  ·simp only[h]
  ·rfl
 |call c=>
  obtain⟨callee,args,bB⟩:=c;cases callee<;>simp only
  have:args.toList.map fr.ev=args.toList.map aw.ev:=xf fun x hx=>h x (by simp[Op.operands,Call.operands];simpa using hx);rw[this]
 |_=>simp only[Op.operands,List.mem_cons,List.not_mem_nil,or_false,forall_eq_or_imp,forall_eq,List.toList_toArray] at h<;>simp only[h]
def tmpsOf:List Operand→List Nat
 |[]=>[]
 | .tmp t::l=>t::tmpsOf l
 |_::l=>tmpsOf l
theorem ly {t:Nat}:∀{l:List Operand},.tmp t∈l→t∈tmpsOf l
 |x::l,h=>by
  rcases List.mem_cons.1 h with rfl|h
  ·simp[tmpsOf]
  ·have:=ly h;cases x<;>simp[tmpsOf,this]
def looks (ops:Array Oper) (o:Oper):List Nat:=
  (match o.guard with
   |some (j,_)=>match(ops[j]?).bind (·.dst) with
     |some t=>[t]
     |none=>[]
   |none=>[])++tmpsOf o.op.operands.toList
theorem vO {fr aw:Fr} {ts:List Nat} (h:∀t∈ts,fr.get t=aw.get t) {x:Operand} (hx:∀t,x=.tmp t→t∈ts):fr.ev x=aw.ev x:=by
 cases x<;>first|rfl|exact h _ (hx _ rfl)
theorem uY {pv:Pv} {cf:dJ} {ops:Array Oper} {fr aw:Fr} {st:St} {o:Oper} (h:∀t∈looks ops o,fr.get t=aw.get t):ek pv cf fr st o=ek pv cf aw st o:=by
 have he:∀x∈o.op.operands.toList,fr.ev x=aw.ev x:=fun x hx=>vO h fun t e=>by subst e;exact List.mem_append_right _ (ly hx)
 unfold ek
 split
 ·rename_i f args bB fX;rw[fX] at he;have hf:fr.ev f=aw.ev f:=he f (by simp[Op.operands,Call.operands]);have ha:args.toList.map fr.ev=args.toList.map aw.ev:=xf fun x hx=>he x (by simp[Op.operands,Call.operands];right;simpa using hx);rw[hf,ha]
 ·exact zZ he
theorem uc {ops:Array Oper} {fr aw:Fr} {o:Oper} (h:∀t∈looks ops o,fr.get t=aw.get t):au ops fr o=au ops aw o:=by
 unfold au
 cases hg:o.guard with
 |none=>rfl
 |some p=>
  obtain⟨j,want⟩:=p;simp only
  cases ht:(ops[j]?).bind (·.dst) with
  |none=>rfl
  |some t=>
   simp only;rw[h t (by simp[looks,hg,ht])]
def zT (o:Oper):Bool:=
 match o.op with
 | .move _| .assign _| .pick _ _ _| .alloc _| .box _ _| .build _ _| .buildSlice _ _ _| .nilCheck _| .binOp _ _ _ _ _| .unOp _ _ _| .makeFunc _ _ _| .makeSlice _ _ _
 | .fieldAddr _ _ _| .field _ _ _| .index _ _ _| .extract _ _=>true
 | .call ⟨.builtin b,_,_⟩=>match b with
  | .len| .min| .max=>true
  |_=>false
 |_=>false
theorem xZ {pv:Pv} {b:Builtin} {bB:List TypeId} {args:List D} {st ae:St} {d:D} (hb:b=.len∨b=.min∨b=.max) (h:ba pv b bB args st=some (d,ae)) (T:St):ae=st∧ba pv b bB args T=some (d,T):=by
 rcases hb with rfl|rfl|rfl
 ·match args,h with
  |[x],h=>
   simp only[ba] at h⊢
   split at h
   ·split at h
    ·split at h
     ·cases h;exact⟨rfl,rfl⟩
     ·cases h
    ·cases x with
     |str s=>cases h
     |_=>
      simp only at h⊢
      split at h
      ·rename_i n hn;cases h;exact⟨rfl,by simp only[hn]⟩
      ·cases h
    ·cases h;exact⟨rfl,rfl⟩
    ·cases h
   ·cases h
  |[],h=>simp[ba] at h
  |_::_::_,h=>simp[ba] at h
 ·match args,h with
  |[],h=>simp[ba] at h
  |x::l,h=>
   simp only[ba] at h⊢;obtain⟨r,hz,hs⟩:=Option.map_eq_some_iff.1 h;cases hs;exact⟨rfl,by rw[hz];rfl⟩
 ·match args,h with
  |[],h=>simp[ba] at h
  |x::l,h=>
   simp only[ba] at h⊢;obtain⟨r,hz,hs⟩:=Option.map_eq_some_iff.1 h;cases hs;exact⟨rfl,by rw[hz];rfl⟩
theorem BK {pv:Pv} {fr:Fr} {st ae:St} {o:Oper} {d:D} (hp:zT o=true) (h:df pv fr st o.op o.type=some (d,ae)) (T:St) (hT:T.bs.length=st.bs.length):
  ∃T',df pv fr T o.op o.type=some (d,T')∧((ae=st∧T'=T)∨∃ar cs,ae=st.push (.mem 0 ar cs)∧T'=T.push (.mem 0 ar cs)):=by
 obtain⟨dst,op,ty,pos,after,guard⟩:=o;simp only at h⊢;cases op<;>simp only[zT,Bool.false_eq_true] at hp<;>simp only[df] at h⊢
 case move x=>cases h;exact⟨T,rfl,.inl ⟨rfl,rfl⟩⟩
 case assign x=>cases h;exact⟨T,rfl,.inl ⟨rfl,rfl⟩⟩
 case pick c p q=>split at h<;>first|(cases h;exact⟨T,rfl,.inl ⟨rfl,rfl⟩⟩)|cases h
 case alloc e=>
  obtain⟨cs,hz,hs⟩:=Option.map_eq_some_iff.1 h;cases hs;exact⟨_,by rw[hz,hT];rfl,.inr ⟨_,_,rfl,rfl⟩⟩
 case box e x=>
  obtain⟨cs,hz,hs⟩:=Option.map_eq_some_iff.1 h;cases hs;exact⟨_,by rw[hz,hT];rfl,.inr ⟨_,_,rfl,rfl⟩⟩
 case build t ps=>
  obtain⟨r,hz,hs⟩:=Option.map_eq_some_iff.1 h;cases hs;exact⟨_,by rw[hz];rfl,.inl ⟨rfl,rfl⟩⟩
 case buildSlice t len ps=>
  unfold fS at h⊢
  split at h
  ·rename_i e ht;obtain⟨s,hsz,h⟩:=Option.bind_eq_some_iff.1 h;obtain⟨z,hz,h⟩:=Option.bind_eq_some_iff.1 h
   split at h
   ·rename_i tZ;obtain⟨cs,hf,hs⟩:=Option.map_eq_some_iff.1 h;cases hs;exact⟨_,by simp only[hsz,hz,Option.bind_some,tZ,and_self,if_true,hf,Option.map_some,hT],.inr ⟨_,_,rfl,rfl⟩⟩
   ·cases h
  ·cases h
 case nilCheck x=>split at h<;>first|(cases h;exact⟨T,rfl,.inl ⟨rfl,rfl⟩⟩)|cases h
 case binOp a b c d e=>
  obtain⟨r,hz,hs⟩:=Option.map_eq_some_iff.1 h;cases hs;exact⟨_,by rw[hz];rfl,.inl ⟨rfl,rfl⟩⟩
 case unOp a b c=>
  obtain⟨r,hz,hs⟩:=Option.map_eq_some_iff.1 h;cases hs;exact⟨_,by rw[hz];rfl,.inl ⟨rfl,rfl⟩⟩
 case makeFunc f first captured=>
  cases f<;>simp only at h⊢<;>first|cases h|skip
  split at h
  ·rename_i Gh;cases h;exact⟨T,by rw[if_pos Gh],.inl ⟨rfl,rfl⟩⟩
  ·cases h
 case makeSlice t l c=>
  unfold fG at h⊢
  split at h
  ·rename_i e k l k' c ht hl hc;obtain⟨i,hi,h⟩:=Option.bind_eq_some_iff.1 h;obtain⟨z,hz,h⟩:=Option.bind_eq_some_iff.1 h
   split at h
   ·rename_i tZ;cases h;simp only[hi,hz,Option.bind_some];rw[if_pos tZ,hT];exact⟨_,rfl,.inr ⟨_,_,rfl,rfl⟩⟩
   ·cases h
  ·cases h
 case fieldAddr a b c=>
  obtain⟨r,hz,hs⟩:=Option.map_eq_some_iff.1 h;cases hs;exact⟨_,by rw[hz];rfl,.inl ⟨rfl,rfl⟩⟩
 case field a b c=>
  obtain⟨r,hz,hs⟩:=Option.map_eq_some_iff.1 h;cases hs;exact⟨_,by rw[hz];rfl,.inl ⟨rfl,rfl⟩⟩
 case index a b c=>
  obtain⟨r,hz,hs⟩:=Option.map_eq_some_iff.1 h;cases hs;exact⟨_,by rw[hz];rfl,.inl ⟨rfl,rfl⟩⟩
 case extract t i=>
  split at h
  ·obtain⟨r,hz,hs⟩:=Option.map_eq_some_iff.1 h;cases hs;exact⟨_,by rw[hz];rfl,.inl ⟨rfl,rfl⟩⟩
  ·cases h
 case call c=>
  obtain⟨callee,args,bB⟩:=c;cases callee<;>simp only[Bool.false_eq_true] at hp h⊢
  rename_i b;have hb:b=.len∨b=.min∨b=.max:=by cases b<;>simp at hp⊢
  obtain⟨rfl,h2⟩:=xZ hb h T;exact⟨T,h2,.inl ⟨rfl,rfl⟩⟩
theorem lO {st ae:St} {k aq off:Nat} {cs:List D} (h:st.wr k aq off cs=some ae):dq st ae:=by
 unfold St.wr at h
 split at h
 ·split at h
  ·rename_i a c hm hc;cases h;exact dq.set st k _ _ (dh hc.2) (s_ hm) ((zk hc.2).imp id fun hr d hd=>(nS _ _ _ hd).imp id fun hd=>Nat.le_trans (bo hd) (by rw[rA (s_ hm)] at hr;exact hr))
  ·cases h
 ·cases h
theorem wg {pv:Pv} {bB:List TypeId} {s x d:D} {st ae:St} (h:gp pv bB s x st=some (d,ae)):dq st ae:=by
 unfold gp at h
 split at h
 ·split at h
  ·split at h
   ·cases h
   ·obtain⟨i,hi,h⟩:=Option.bind_eq_some_iff.1 h;obtain⟨z,hz,h⟩:=Option.bind_eq_some_iff.1 h;obtain⟨⟨n,ys⟩,jr,h⟩:=Option.bind_eq_some_iff.1 h;dsimp only at h
    split at h
    ·cases h
    ·cases s with
     |nul=>
      simp only at h
      split at h
      ·cases h;exact .refl _
      ·split at h
       ·cases h;exact .push _ _
       ·cases h
     |win k aq off len sz=>
      simp only at h
      split at h
      ·split at h
       ·cases h
       ·split at h
        ·cases h;exact .refl _
        ·split at h
         ·rename_i hc;cases h;have hbk:=s_ (by assumption);refine dq.set st k _ _ (dh hc.2) hbk ((zk hc.2).imp id fun hr d hd=>?_);rw[rA hbk] at hr
          rcases List.mem_append.1 hd with hd|hd
          ·exact .inl (List.mem_of_mem_take (List.mem_of_mem_drop hd))
          ·exact .inr (Nat.le_trans (bo hd) hr)
         ·cases h
      ·cases h
     |_=>cases h
  ·cases h
 ·cases h
theorem AJ {pv:Pv} {bB:List TypeId} {s x d:D} {st ae:St} (h:sk pv bB s x st=some (d,ae)):dq st ae:=by
 unfold sk at h
 split at h
 ·split at h
  ·obtain⟨i,hi,h⟩:=Option.bind_eq_some_iff.1 h;obtain⟨⟨n,ys⟩,jr,h⟩:=Option.bind_eq_some_iff.1 h;dsimp only at h
   split at h
   ·cases h
   ·cases s with
    |nul=>cases h;exact .refl _
    |win k aq off len sz=>
     simp only at h
     split at h
     ·cases h
     ·obtain⟨r,hz,hs⟩:=Option.map_eq_some_iff.1 h;cases hs;exact lO hz
    |_=>cases h
  ·cases h
 ·cases h
theorem xW {pv:Pv} {bB:List TypeId} {s d:D} {st ae:St} (h:ke pv bB s st=some (d,ae)):dq st ae:=by
 unfold ke at h
 split at h
 ·split at h
  ·cases s with
   |nul=>cases h;exact .refl _
   |win k aq off len sz=>
    simp only at h;obtain⟨i,hi,h⟩:=Option.bind_eq_some_iff.1 h
    split at h
    ·obtain⟨r,hz,hs⟩:=Option.map_eq_some_iff.1 h;cases hs;exact lO hz
    ·cases h
   |_=>cases h
  ·cases h
 ·cases h
theorem Aa {x d:D} {b:Bool} {st ae:St} (h:rI x b st=some (d,ae)):dq st ae:=by
 unfold rI at h
 split at h
 ·split at h
  ·split at h
   ·split at h
    ·rename_i hc;cases h;exact dq.set st _ _ _ (dh hc) (by assumption) (.inr fun d hd=>by simp[gP.cells] at hd)
    ·cases h
   ·cases h;exact .refl _
  ·cases h
 ·cases h
theorem nT {pv:Pv} {t:TypeId} {m key v:D} {st ae:St} (h:kF pv t m key v st=some ae):dq st ae:=by
 unfold kF at h
 split at h
 ·split at h
  ·rename_i hb
   split at h
   ·rename_i hc
    split at h
    ·cases h;exact dq.set st _ _ _ (dh hc) hb (.inr fun d hd=>by simp[gP.cells] at hd)
    ·cases h;exact dq.set st _ _ _ (dh hc) hb (.inr fun d hd=>by simp[gP.cells] at hd)
    ·cases h
   ·cases h
  ·cases h
 ·cases h
theorem BL {pv:Pv} {fr:Fr} {st ae:St} {o:Oper} {d:D} (h:df pv fr st o.op o.type=some (d,ae)):dq st ae∧(eA pv o=false→mH st ae):=by
 by_cases hp:zT o=true
 ·obtain⟨T',_,⟨rfl,_⟩|⟨ar,cs,rfl,_⟩⟩:=BK hp h st rfl
  ·exact⟨.refl _,fun _=>.rfl _⟩
  ·exact⟨.push _ _,fun _=>.push _ _⟩
 ·obtain⟨dst,op,ty,pos,after,guard⟩:=o;simp only at h
  have ad:mH st ae→dq st ae∧(eA pv ⟨dst,op,ty,pos,after,guard⟩=false→mH st ae):=fun ha=>⟨ha.goes,fun _=>ha⟩
  cases op<;>simp only[zT,not_true_eq_false,Bool.false_eq_true,not_false_eq_true] at hp<;>simp only[df] at h
  case load t a=>obtain⟨r,hz,hs⟩:=Option.map_eq_some_iff.1 h;cases hs;exact ad (.rfl _)
  case store t a x=>
   obtain⟨r,hz,hs⟩:=Option.map_eq_some_iff.1 h;cases hs;refine⟨?_,fun e=>by simp[eA] at e⟩;unfold jF at hz
   split at hz
   ·split at hz
    ·exact lO hz
    ·cases hz
   ·cases hz
  case convert s t x=>
   refine ad ?_;unfold vS at h
   split at h
   ·cases h;exact .rfl _
   ·cases h;exact .rfl _
   ·cases h;exact .rfl _
   ·split at h
    ·split at h
     ·cases h;exact .push _ _
     ·cases h
    ·cases h
   ·split at h
    ·split at h
     ·cases h;exact .rfl _
     ·cases h
    ·cases h
   ·split at h
    ·split at h
     ·cases h
     ·split at h
      ·obtain⟨r,hz,hs⟩:=Option.map_eq_some_iff.1 h;cases hs;exact .rfl _
      ·cases h
    ·cases h
   ·cases h
  case slice t x lo hi mx=>
   cases mx<;>simp only at h<;>first|cases h|skip
   obtain⟨r,hz,hs⟩:=Option.map_eq_some_iff.1 h;cases hs;exact ad (.rfl _)
  case indexAddr t x i=>obtain⟨r,hz,hs⟩:=Option.map_eq_some_iff.1 h;cases hs;exact ad (.rfl _)
  case range t x=>
   refine ad ?_;unfold sS at h
   split at h
   ·cases h;exact .push _ _
   ·cases h
  case next it s=>exact⟨Aa h,fun e=>by simp[eA] at e⟩
  case makeMap t r=>
   refine ad ?_;unfold l8 at h
   split at h
   ·cases h;exact .push _ _
   ·split at h
    ·cases h;exact .push _ _
    ·cases h
   ·cases h
  case insert t m k x=>
   obtain⟨r,hz,hs⟩:=Option.map_eq_some_iff.1 h;cases hs;exact⟨nT hz,fun e=>by simp[eA] at e⟩
  case mapUpdate t m k x=>
   obtain⟨r,hz,hs⟩:=Option.map_eq_some_iff.1 h;cases hs;exact⟨nT hz,fun e=>by simp[eA] at e⟩
  case lookup t x i ok=>
   cases ok<;>simp only at h<;>first|cases h|skip
   obtain⟨r,hz,hs⟩:=Option.map_eq_some_iff.1 h;cases hs;exact ad (.rfl _)
  case call c=>
   obtain⟨callee,args,bB⟩:=c
   cases callee<;>simp only at h<;>first|cases h|skip
   rename_i b;unfold ba at h;refine⟨?_,fun e=>?_⟩
   ·split at h
    ·exact absurd hp (by simp)
    ·exact wg h
    ·exact AJ h
    ·exact xW h
    ·exact absurd hp (by simp)
    ·exact absurd hp (by simp)
    ·cases h
   ·cases b<;>simp[eA] at e<;>simp at hp
  all_goals cases h
theorem po {P:Program} {pv:Pv} {cf:dJ} (dO:gO P pv cf) {fr:Fr} {st ae:St} {o:Oper} {d:D} (h:ek pv cf fr st o=some (d,ae)):dq st ae∧(eA pv o=false→mH st ae):=by
 unfold ek at h
 split at h
 ·rename_i f args bB fX
  split at h
  ·rename_i g gm hev;refine⟨dO.len _ _ _ _ _ h,fun e=>?_⟩;simp only[eA,fX] at e
   cases f with
   |func g'=>
    simp only[Fr.ev] at hev;cases hev;exact dO.ro _ _ _ _ _ h (by simpa using e)
   |_=>simp at e
  ·cases h
 ·exact BL h
end Go.V
namespace Go.V
open Go.RowKit
def m_ (acc:List Nat):List Edge→Nat
 |[]=>0
 |e::l=>match Region.binds .any e with
  |true=>m_ acc l|||(1<<<e.on)|||acc.getD e.on 0
  |false=>m_ acc l
def B2:List Oper→List Nat→List Nat
 |[],acc=>acc
 |o::l,acc=>B2 l (acc++[m_ acc o.after.toList])
def tL (d:Option Nat) (l:List Nat):Bool:=
 match d with
 |some t=>l.contains t
 |none=>false
def yq:Option Nat→Option Nat→Bool
 |some a,some b=>a==b
 |_,_=>false
def Dl (o:Oper):Bool:=(f' o.op).isSome
def jx (pv:Pv) (ops:Array Oper) (b:Bool) (x y:Oper):Bool:=
 tL x.dst (looks ops y)||tL y.dst (looks ops x)||yq x.dst y.dst||(eA pv x &&!zT y &&!(Dl y &&b))||(eA pv y &&!zT x &&!(Dl x &&b))
def listed (dy:List (Nat×Nat)) (i j:Nat):Bool:=dy.any fun p=>Nat.beq p.1 i &&Nat.beq p.2 j
def DQ (pv:Pv) (ops:Array Oper) (dy:List (Nat×Nat)) (ms:List Nat) (j:Nat):Bool:=
 match ops[j]? with
 |some y=>(y.after.toList.all fun e=>!Region.binds .any e||Nat.blt e.on j) &&(List.range j).all fun i=>match ops[i]? with
  |some x=>!jx pv ops (listed dy i j) x y||(ms.getD j 0).testBit i
  |none=>true
 |none=>true
def jN (pv:Pv) (ops:Array Oper) (dy:List (Nat×Nat)):Bool:=(List.range ops.size).all (DQ pv ops dy (B2 ops.toList []))
def tT (ops:Array Oper) (E:Nat→Bool):Prop:=∀k o,E k=true→ops[k]?=some o→∀e∈o.after.toList,Region.binds .any e=true→E e.on=true
def Dk (E:Nat→Bool) (acc:List Nat):Prop:=∀k i,(acc.getD k 0).testBit i=true→E k=true→E i=true
theorem ta {E:Nat→Bool} {acc:List Nat} (ha:Dk E acc) {i:Nat}:∀(l:List Edge),(m_ acc l).testBit i=true→(∀e∈l,Region.binds .any e=true→E e.on=true)→E i=true
 |[],h,_=>by simp[m_] at h
 |e::l,h,he=>by
  have rT:∀e∈l,Region.binds .any e=true→E e.on=true:=fun e h=>he e (List.mem_cons_of_mem _ h);unfold m_ at h
  cases hb:Region.binds .any e with
  |false=>rw[hb] at h;exact ta ha l h rT
  |true=>
   rw[hb] at h;simp only[Nat.testBit_or,Bool.or_eq_true] at h;have OD:=he e (List.mem_cons_self ..) hb
   rcases h with(h|h)|h
   ·exact ta ha l h rT
   ·rw[Nat.one_shiftLeft,Nat.testBit_two_pow] at h;have:e.on=i:=by simpa using h
    rw[←this];exact OD
   ·exact ha _ _ h OD
theorem vf {E:Nat→Bool} {ops:Array Oper} (hc:tT ops E):∀(l:List Oper) (acc:List Nat),(∀j,l[j]?=ops[acc.length+j]?)→Dk E acc→Dk E (B2 l acc)
 |[],acc,_,h=>h
 |o::l,acc,hl,h=>by
  have h0:=hl 0;simp only[List.getElem?_cons_zero,Nat.add_zero] at h0;refine vf hc l _ (fun j=>?_) fun k i hk hE=>?_
  ·have:=hl (j+1);simp only[List.getElem?_cons_succ] at this;rw[this];simp[Nat.add_assoc,Nat.add_comm 1 j]
  ·rcases Nat.lt_trichotomy k acc.length with hlt|heq|IW
   ·simp only[List.getD_eq_getElem?_getD,List.getElem?_append_left hlt] at hk;exact h k i (by simpa only[List.getD_eq_getElem?_getD] using hk) hE
   ·subst heq;simp only[List.getD_eq_getElem?_getD] at hk;simp at hk;exact ta h _ hk (hc _ o hE h0.symm)
   ·simp only[List.getD_eq_getElem?_getD] at hk;rw[List.getElem?_eq_none (by simp;omega)] at hk;simp at hk
theorem kA {pv:Pv} {ops:Array Oper} {dy:List (Nat×Nat)} (h:jN pv ops dy=true) {i j:Nat} {x y:Oper} (hij:i<j) (hx:ops[i]?=some x) (hy:ops[j]?=some y) (hc:jx pv ops (listed dy i j) x y=true) {E:Nat→Bool} (hE:tT ops E) (hj:E j=true):E i=true:=by
 have vE:j<ops.size:=by
  rcases Nat.lt_or_ge j ops.size with h'|h'
  ·exact h'
  ·rw[Array.getElem?_eq_none h'] at hy;cases hy
 have h1:=List.all_eq_true.1 h j (List.mem_range.2 vE);unfold DQ at h1;rw[hy] at h1;simp only[Bool.and_eq_true] at h1;have h2:=List.all_eq_true.1 h1.2 i (List.mem_range.2 hij);rw[hx] at h2;simp only[hc,Bool.not_true,Bool.false_or] at h2;exact vf hE ops.toList [] (fun j=>by simp) (fun k i hk _=>by simp at hk) j i h2 hj
theorem xc {pv:Pv} {ops:Array Oper} {dy:List (Nat×Nat)} (h:jN pv ops dy=true) {j:Nat} {y:Oper} (hy:ops[j]?=some y) {e:Edge} (he:e∈y.after.toList) (hb:Region.binds .any e=true):e.on<j:=by
 have vE:j<ops.size:=by
  rcases Nat.lt_or_ge j ops.size with h'|h'
  ·exact h'
  ·rw[Array.getElem?_eq_none h'] at hy;cases hy
 have h1:=List.all_eq_true.1 h j (List.mem_range.2 vE);unfold DQ at h1;rw[hy] at h1;simp only[Bool.and_eq_true] at h1;have:=List.all_eq_true.1 h1.1 e he;simp only[hb,Bool.not_true,Bool.false_or] at this;have:=Nat.le_of_ble_eq_true this;omega
structure Trace (pv:Pv) (cf:dJ) (ops:Array Oper) (l:List Oper) (F:Nat→Fr) (S:Nat→St) (dd:Nat→D):Prop where
 put:∀i o,l[i]?=some o→F (i+1)=(F i).putO o.dst (dd i)
 step:∀i o,l[i]?=some o→(au ops (F i) o=some true∧ek pv cf (F i) (S i) o=some (dd i,S (i+1)))∨(au ops (F i) o=some false∧dd i=.tup []∧S (i+1)=S i)
theorem trace {pv:Pv} {cf:dJ} {ops:Array Oper}:∀(l:List Oper) (fr:Fr) (st:St) (aw:Fr) (ae:St),gK pv cf ops l fr st=some (aw,ae)→
  ∃(F:Nat→Fr) (S:Nat→St) (dd:Nat→D),F 0=fr∧S 0=st∧F l.length=aw∧S l.length=ae∧Trace pv cf ops l F S dd
 |[],fr,st,aw,ae,h=>by
  simp only[gK] at h;cases h;exact⟨fun _=>fr,fun _=>st,fun _=>.junk,rfl,rfl,rfl,rfl,by intro i o h;simp at h,by intro i o h;simp at h⟩
 |o::l,fr,st,aw,ae,h=>by
  simp only[gK] at h
  have mk:∀(d:D) (st1:St),((au ops fr o=some true∧ek pv cf fr st o=some (d,st1))∨(au ops fr o=some false∧d=.tup []∧st1=st))→gK pv cf ops l (fr.putO o.dst d) st1=some (aw,ae)→
    ∃(F:Nat→Fr) (S:Nat→St) (dd:Nat→D),F 0=fr∧S 0=st∧F (o::l).length=aw∧S (o::l).length=ae∧Trace pv cf ops (o::l) F S dd:=by
   intro d st1 iJ hr;obtain⟨F,S,dd,h1,h2,h3,h4,h5⟩:=trace l _ _ _ _ hr;refine⟨fun|0=>fr|i+1=>F i,fun|0=>st|i+1=>S i,fun|0=>d|i+1=>dd i,rfl,rfl,h3,h4,⟨fun i p hp=>?_,fun i p hp=>?_⟩⟩
   ·cases i with
    |zero=>simp at hp;subst hp;exact h1
    |succ i=>exact h5.put i p (by simpa using hp)
   ·cases i with
    |zero=>simp at hp;subst hp;simp only[h2];exact iJ
    |succ i=>exact h5.step i p (by simpa using hp)
  split at h
  ·rename_i hw
   split at h
   ·rename_i d st1 fX;exact mk d st1 (.inl ⟨hw,fX⟩) h
   ·cases h
  ·rename_i hw;exact mk _ st (.inr ⟨hw,rfl,rfl⟩) h
  ·cases h
def cX (ops:Array Oper) (E:Nat→Bool) (t:Nat):Nat→Option Nat
 |0=>none
 |k+1=>match ops[k]? with
  |some o=>if E k=true∧o.dst=some t then some k else cX ops E t k
  |none=>cX ops E t k
theorem eQ (ops:Array Oper) (E:Nat→Bool) (t:Nat):∀(n:Nat),match cX ops E t n with
  |some j=>j<n∧E j=true∧(∃o,ops[j]?=some o∧o.dst=some t)∧∀i o,j<i→i<n→ops[i]?=some o→o.dst=some t→E i=false
  |none=>∀i o,i<n→ops[i]?=some o→o.dst=some t→E i=false
 |0=>by intro i o h;omega
 |n+1=>by
  have ih:=eQ ops E t n;unfold cX
  cases hn:ops[n]? with
  |none=>
   simp only
   cases hl:cX ops E t n with
   |none=>
    rw[hl] at ih;intro i o hi ho hd
    rcases Nat.lt_or_ge i n with h'|h'
    ·exact ih i o h' ho hd
    ·have:i=n:=by omega
     subst this;rw[hn] at ho;cases ho
   |some j=>
    rw[hl] at ih;refine⟨by omega,ih.2.1,ih.2.2.1,fun i o hj hi ho hd=>?_⟩
    rcases Nat.lt_or_ge i n with h'|h'
    ·exact ih.2.2.2 i o hj h' ho hd
    ·have:i=n:=by omega
     subst this;rw[hn] at ho;cases ho
  |some p=>
   simp only
   by_cases hc:E n=true∧p.dst=some t
   ·rw[if_pos hc];exact⟨by omega,hc.1,⟨p,hn,hc.2⟩,fun i o hj hi=>by omega⟩
   ·rw[if_neg hc]
    have hE:∀o,ops[n]?=some o→o.dst=some t→E n=false:=by
     intro o ho hd;rw[hn] at ho;cases ho
     cases hq:E n with
     |false=>rfl
     |true=>exact absurd ⟨hq,hd⟩ hc
    cases hl:cX ops E t n with
    |none=>
     rw[hl] at ih;intro i o hi ho hd
     rcases Nat.lt_or_ge i n with h'|h'
     ·exact ih i o h' ho hd
     ·have:i=n:=by omega
      subst this;exact hE o ho hd
    |some j=>
     rw[hl] at ih;refine⟨by omega,ih.2.1,ih.2.2.1,fun i o hj hi ho hd=>?_⟩
     rcases Nat.lt_or_ge i n with h'|h'
     ·exact ih.2.2.2 i o hj h' ho hd
     ·have:i=n:=by omega
      subst this;exact hE o ho hd
theorem pD {ops:Array Oper} {E E':Nat→Bool} {t a b:Nat} (h1:∀i o,ops[i]?=some o→o.dst=some t→((i<a∧E i=true)↔(i<b∧E' i=true))):cX ops E t a=cX ops E' t b:=by
 have s1:=eQ ops E t a;have s2:=eQ ops E' t b
 cases h:cX ops E t a with
 |none=>
  rw[h] at s1
  cases h':cX ops E' t b with
  |none=>rfl
  |some j=>
   rw[h'] at s2;obtain⟨q1,q2,⟨o,q3,q4⟩,_⟩:=s2;obtain⟨r1,r2⟩:=(h1 j o q3 q4).2 ⟨q1,q2⟩;have:=s1 j o r1 q3 q4;rw[this] at r2;cases r2
 |some j=>
  rw[h] at s1;obtain⟨p1,p2,⟨o,p3,p4⟩,p5⟩:=s1;obtain⟨r1,r2⟩:=(h1 j o p3 p4).1 ⟨p1,p2⟩
  cases h':cX ops E' t b with
  |none=>
   rw[h'] at s2;have:=s2 j o r1 p3 p4;rw[this] at r2;cases r2
  |some k=>
   rw[h'] at s2;obtain⟨q1,q2,⟨o',q3,q4⟩,q5⟩:=s2;obtain⟨u1,u2⟩:=(h1 k o' q3 q4).2 ⟨q1,q2⟩
   congr 1
   rcases Nat.lt_trichotomy j k with hlt|heq|IW
   ·have:=p5 k o' hlt u1 q3 q4;rw[this] at u2;cases u2
   ·exact heq
   ·have:=q5 j o IW r1 p3 p4;rw[this] at r2;cases r2
def re (fr:Fr) (t:Nat) (d:D):D:=if Nat.ble fr.n t=false∧fr.loc.length≤t then .junk else d
theorem Bx (fr:Fr) (dst:Option Nat) (d:D) (u:Nat):(fr.putO dst d).get u=if dst=some u then re fr u d else fr.get u:=by
 cases dst with
 |none=>simp[Fr.putO]
 |some t=>
  simp only[Fr.putO,y8,re]
  by_cases h:u=t
  ·subst h;simp
  ·rw[if_neg h,if_neg (by simpa using fun e=>h e.symm)]
theorem w5 (fr:Fr) (dst:Option Nat) (d:D) (t:Nat) (e:D):re (fr.putO dst d) t e=re fr t e:=by
 cases dst with
 |none=>rfl
 |some u=>
  have h1:(fr.put u d).n=fr.n:=by unfold Fr.put;split<;>rfl
  have h2:(fr.put u d).loc.length=fr.loc.length:=by unfold Fr.put;split<;>simp
  simp only[Fr.putO,re,h1,h2]
theorem mM {pv:Pv} {cf:dJ} {ops:Array Oper} {F:Nat→Fr} {S:Nat→St} {dd:Nat→D} (h:Trace pv cf ops ops.toList F S dd) (t:Nat):∀(i:Nat),i≤ops.size→
  (F i).get t=(match cX ops (fun _=>true) t i with|some j=>re (F 0) t (dd j)|none=>(F 0).get t)∧∀e,re (F i) t e=re (F 0) t e
 |0,_=>⟨rfl,fun _=>rfl⟩
 |i+1,hi=>by
  obtain⟨G6,AU⟩:=mM h t i (by omega);have ho:ops[i]?=some ops[i]:=Array.getElem?_eq_getElem (by omega);have hp:=h.put i ops[i] (by simpa using ho);rw[hp];refine⟨?_,fun e=>by rw[w5];exact AU e⟩;rw[Bx];unfold cX;rw[ho];simp only[true_and]
  split
  ·exact AU _
  ·exact G6
def entry (j:Nat) (log:Log) (l:List Oper) (F:Nat→Fr) (S:Nat→St) (i:Nat):Option (Oper×Fr×St×St):=
 if i<j then log[j-1-i]? else(l[i-j]?).map fun x=>(x,F (i-j),S (i-j),S (i-j+1))
def ya (dy:List (Nat×Nat)) (ops:Array Oper) (j:Nat) (log:Log) (l:List Oper) (F:Nat→Fr) (S:Nat→St):Prop:=
 ∀q o,l[q]?=some o→au ops (F q) o=some true→∀i,i<j+q→listed dy i (j+q)=true→∃x fi si qQ,entry j log l F S i=some (x,fi,si,qQ)∧iU x fi si qQ o (F q) (S q) (S (q+1))=true
theorem CX {dy:List (Nat×Nat)} {j:Nat} {log:Log} {o:Oper} {fr:Fr} {st ae:St} (h:CY dy j log o fr st ae=true) {i:Nat} (hi:i<j) (hl:listed dy i j=true):∃x fi si qQ,log[j-1-i]?=some (x,fi,si,qQ)∧iU x fi si qQ o fr st ae=true:=by
 unfold listed at hl;obtain⟨p,hp,he⟩:=List.any_eq_true.1 hl;simp only[Bool.and_eq_true] at he;have h1:=Nat.eq_of_beq_eq_true he.1;have h2:=Nat.eq_of_beq_eq_true he.2;have:=List.all_eq_true.1 h p hp
 have hb:(Nat.beq p.2 j &&Nat.blt p.1 j)=true:=by
  rw[he.2,h1];simp[Nat.blt];omega
 rw[hb] at this;simp only[h1] at this
 split at this
 ·rename_i x fi si qQ hx;exact⟨x,fi,si,qQ,hx,this⟩
 ·cases this
theorem A_ {pv:Pv} {cf:dJ} {ops:Array Oper} {dy:List (Nat×Nat)}:∀(l:List Oper) (j:Nat) (log:Log) (fr:Fr) (st:St) (aw:Fr) (ae:St),log.length=j→oc pv cf ops dy j log l fr st=some (aw,ae)→
  ∃(F:Nat→Fr) (S:Nat→St) (dd:Nat→D),F 0=fr∧S 0=st∧F l.length=aw∧S l.length=ae∧Trace pv cf ops l F S dd∧ya dy ops j log l F S
 |[],j,log,fr,st,aw,ae,hj,h=>by
  simp only[oc] at h;cases h;exact⟨fun _=>fr,fun _=>st,fun _=>.junk,rfl,rfl,rfl,rfl,⟨by intro i o h;simp at h,by intro i o h;simp at h⟩,by intro q o h;simp at h⟩
 |o::l,j,log,fr,st,aw,ae,hj,h=>by
  simp only[oc] at h
  have mk:∀(d:D) (st1:St),((au ops fr o=some true∧ek pv cf fr st o=some (d,st1)∧CY dy j log o fr st st1=true)∨(au ops fr o=some false∧d=.tup []∧st1=st))→oc pv cf ops dy (j+1) ((o,fr,st,st1)::log) l (fr.putO o.dst d) st1=some (aw,ae)→
    ∃(F:Nat→Fr) (S:Nat→St) (dd:Nat→D),F 0=fr∧S 0=st∧F (o::l).length=aw∧S (o::l).length=ae∧Trace pv cf ops (o::l) F S dd∧ya dy ops j log (o::l) F S:=by
   intro d st1 iJ hr;obtain⟨F,S,dd,h1,h2,h3,h4,h5,h6⟩:=A_ l (j+1) _ _ _ _ _ (by simp[hj]) hr;refine⟨fun|0=>fr|i+1=>F i,fun|0=>st|i+1=>S i,fun|0=>d|i+1=>dd i,rfl,rfl,h3,h4,⟨fun i p hp=>?_,fun i p hp=>?_⟩,fun q p hp hw i hi hl=>?_⟩
   ·cases i with
    |zero=>simp at hp;subst hp;exact h1
    |succ i=>exact h5.put i p (by simpa using hp)
   ·cases i with
    |zero=>
     simp at hp;subst hp;simp only[h2]
     rcases iJ with⟨a,b,_⟩|h
     ·exact .inl ⟨a,b⟩
     ·exact .inr h
    |succ i=>exact h5.step i p (by simpa using hp)
   ·cases q with
    |zero=>
     simp at hp;subst hp;simp only at hw⊢
     rcases iJ with⟨_,_,hc⟩|⟨hn,_,_⟩
     ·obtain⟨x,fi,si,qQ,e1,e2⟩:=CX hc (i:=i) (by omega) hl;refine⟨x,fi,si,qQ,?_,by simp only[h2];exact e2⟩;unfold entry;rw[if_pos (by omega)];exact e1
     ·rw[hn] at hw;cases hw
    |succ q=>
     obtain⟨x,fi,si,qQ,e1,e2⟩:=h6 q p (by simpa using hp) hw i (by omega) (by rw[show j+1+q=j+(q+1) by omega];exact hl);refine⟨x,fi,si,qQ,?_,e2⟩;unfold entry at e1⊢
     rcases Nat.lt_trichotomy i j with h'|h'|h'
     ·rw[if_pos (by omega)] at e1;rw[if_pos h'];rw[show j+1-1-i=(j-1-i)+1 by omega] at e1
      simpa using e1
     ·subst h';rw[if_pos (by omega)] at e1;rw[if_neg (by omega)];simp at e1;simp[h2];exact e1
     ·rw[if_neg (by omega)] at e1;rw[if_neg (by omega)]
      obtain⟨m,hm⟩:∃m,i=j+1+m:=⟨i-(j+1),by omega⟩
      subst hm;rw[show j+1+m-(j+1)=m by omega] at e1;rw[show j+1+m-j=m+1 by omega]
      simpa using e1
  split at h
  ·rename_i hw
   split at h
   ·rename_i d st1 fX
    split at h
    ·rename_i hc;exact mk d st1 (.inl ⟨hw,fX,hc⟩) h
    ·cases h
   ·cases h
  ·rename_i hw;exact mk _ st (.inr ⟨hw,rfl,rfl⟩) h
  ·cases h
def Still (dy:List (Nat×Nat)) (ops:Array Oper) (F:Nat→Fr) (S:Nat→St):Prop:=
 ∀r q y a k x,ops[r]?=some y→f' y.op=some a→au ops (F r) y=some true→((F r).ev a).lK=some k→ops[q]?=some x→Dl x=false→au ops (F q) x=some true→(q<r→listed dy q r=true)→(r<q→listed dy r q=true)→
  (S (q+1)).bs[k]?=(S q).bs[k]?∧(r<q→lj (some k) (S r) (S (q+1))=true)
theorem Bf {ops:Array Oper} {dy:List (Nat×Nat)} {F:Nat→Fr} {S:Nat→St} (hl:ya dy ops 0 [] ops.toList F S):Still dy ops F S:=by
 intro r q y a k x hy ha hw hk hx FI Oi h1 h2
 have Oh:f' x.op=none:=by
  unfold Dl at FI
  cases h:f' x.op with
  |none=>rfl
  |some _=>rw[h] at FI;cases FI
 rcases Nat.lt_trichotomy q r with h'|h'|h'
 ·obtain⟨x',fi,si,qQ,e1,e2⟩:=hl r y (by simpa using hy) hw q (by omega) (by rw[Nat.zero_add];exact h1 h');simp only[entry,Nat.not_lt_zero,if_false,Nat.sub_zero,Array.getElem?_toList,hx,Option.map_some,Option.some.injEq,Prod.mk.injEq] at e1;obtain⟨rfl,rfl,rfl,rfl⟩:=e1;simp only[iU,ha,hk] at e2;exact⟨rr e2,fun h=>by omega⟩
 ·subst h';rw[hx] at hy;cases hy;rw[Oh] at ha;cases ha
 ·obtain⟨x',fi,si,qQ,e1,e2⟩:=hl q x (by simpa using hx) Oi r (by omega) (by rw[Nat.zero_add];exact h2 h');simp only[entry,Nat.not_lt_zero,if_false,Nat.sub_zero,Array.getElem?_toList,hy,Option.map_some,Option.some.injEq,Prod.mk.injEq] at e1;obtain⟨rfl,rfl,rfl,rfl⟩:=e1;simp only[iU,Oh,ha,hk,Bool.and_eq_true] at e2;exact⟨rr e2.1,fun _=>e2.2⟩
end Go.V
namespace Go.V
open Go.RowKit
theorem B1 (p:Nat→Prop) (base:Nat):∀n,∃m,base≤m∧(∀j,j<n→p j→j+1≤m)∧(m=base∨∃j,j<n∧p j∧m=j+1)
 |0=>⟨base,Nat.le_refl _,fun _ h=>by omega,.inl rfl⟩
 |n+1=>by
  obtain⟨m,h1,h2,h3⟩:=B1 p base n
  by_cases hp:p n
  ·by_cases hm:n+1≤m
   ·refine⟨m,h1,fun j hj JO=>?_,?_⟩
    ·rcases Nat.lt_or_ge j n with h'|h'
     ·exact h2 j h' JO
     ·have:j=n:=by omega
      subst this;exact hm
    ·rcases h3 with h3|⟨j,q1,q2,q3⟩
     ·exact .inl h3
     ·exact .inr ⟨j,by omega,q2,q3⟩
   ·refine⟨n+1,by omega,fun j hj _=>by omega,.inr ⟨n,by omega,hp,rfl⟩⟩
  ·refine⟨m,h1,fun j hj JO=>?_,?_⟩
   ·rcases Nat.lt_or_ge j n with h'|h'
    ·exact h2 j h' JO
    ·have:j=n:=by omega
     subst this;exact absurd JO hp
   ·rcases h3 with h3|⟨j,q1,q2,q3⟩
    ·exact .inl h3
    ·exact .inr ⟨j,by omega,q2,q3⟩
def dM (pv:Pv) (ops:Array Oper) (F:Nat→Fr) (i:Nat):Prop:=∃o,ops[i]?=some o∧eA pv o=true∧au ops (F i) o=some true
def Hs (S:Nat→St) (sg:Nat→Nat) (k:Nat):gP:=((S (sg k)).bs[k]?).getD .dead
def Xm (S:Nat→St) (sg:Nat→Nat) (β:Nat→Option (Nat×Nat)) (Z:Nat→Prop) (m:Nat):X:=⟨fun k=>ch (Hs S sg k),fun k=>if k<(S m).bs.length then β k else none,Z⟩
def GV (ops:Array Oper) (E:Nat→Bool) (t:Nat):Nat:=
 match cX ops E t ops.size with
 |some j=>j+1
 |none=>0
def val (ops:Array Oper) (F:Nat→Fr) (dd:Nat→D) (E:Nat→Bool) (t:Nat):D:=
 match cX ops E t ops.size with
 |some j=>re (F 0) t (dd j)
 |none=>(F 0).get t
structure DI (pv:Pv) (ops:Array Oper) (F:Nat→Fr) (S:Nat→St) (dd:Nat→D) (a0:Act) (w0:World) (β0:Nat→Option (Nat×Nat)) (Z0:Nat→Prop)
  (E:Nat→Bool) (a:Act) (w:World) (β:Nat→Option (Nat×Nat)) (Z:Nat→Prop) (sg:Nat→Nat):Prop where
 size:a.tmps.size=a0.tmps.size
 defers:a.defers=a0.defers
 clo:tT ops E
 bnd:∀k,E k=true→k<ops.size
 dom:∀k p,β k=some p→k<(S (sg k)).bs.length∧sg k≤ops.size∧(sg k=0∨∃j,E j=true∧sg k=j+1∧(dM pv ops F j∨(S j).bs.length≤k))
 cr:∀k p,β k=some p→∀i,i<ops.size→(S i).bs.length≤k→k<(S (i+1)).bs.length→E i=true
 sg2:∀k p,β k=some p→∀j,E j=true→dM pv ops F j→k<(S j).bs.length→j+1≤sg k
 ph:∀k,β k=none→∀j,E j=true→dM pv ops F j→k<(S j).bs.length→(S (j+1)).bs[k]?=(S j).bs[k]?
 lt:∀k b base,β k=some (b,base)→b<w.heap.size
 inj:∀k k' b x x',β k=some (b,x)→β k'=some (b,x')→k=k'
 zd:∀k b base,β k=some (b,base)→¬Z b
 zl:∀b,Z b→b<w.heap.size
 box:∀k b base,β k=some (b,base)→gd w (Xm S sg β Z (sg k)) b base (Hs S sg k)
 frame:∀t,VR w (Xm S sg β Z (GV ops E t)) (val ops F dd E t) (a.tmps.getD t undef)
 evo:zt (N0 (S 0) β0) w0 w
 keeps:cM w0 ((S 0).x β0 Z0) w (Xm S sg β Z ops.size)
 fresh:∀k b base,β k=some (b,base)→(∃cu,β0 k=some (b,cu))∨w0.heap.size≤b
 zfresh:∀b,Z b→Z0 b∨w0.heap.size≤b
 low:∀k,k<(S 0).ro→β k=β0 k
 u7:∀k,k<(S 0).bs.length→β0 k=none→β k=none
section
variable{pv:Pv} {P:Program} (ok:pv.Ok P) {cf:dJ} (dO:gO P pv cf) {ops:Array Oper} {F:Nat→Fr} {S:Nat→St} {dd:Nat→D} (ht:Trace pv cf ops ops.toList F S dd) {dy:List (Nat×Nat)} (me:jN pv ops dy=true)
include dO ht
theorem lS (i:Nat) (hi:i<ops.size):dq (S i) (S (i+1))∧(¬dM pv ops F i→∀k,k<(S i).bs.length→(S (i+1)).bs[k]?=(S i).bs[k]?):=by
 have ho:ops[i]?=some ops[i]:=Array.getElem?_eq_getElem hi
 rcases ht.step i ops[i] (by simpa using ho) with⟨h1,h2⟩|⟨_,_,h3⟩
 ·obtain⟨g1,g2⟩:=po dO h2;refine⟨g1,fun hn k hk=>?_⟩
  have he:eA pv ops[i]=false:=by
   cases h:eA pv ops[i] with
   |false=>rfl
   |true=>exact absurd ⟨_,ho,h,h1⟩ hn
  obtain⟨l,h⟩:=g2 he;rw[h];simp only;rw[List.getElem?_append_left hk]
 ·rw[h3];exact⟨.refl _,fun _ _ _=>rfl⟩
theorem cp:∀(j i:Nat),i≤j→j≤ops.size→dq (S i) (S j)
 |0,i,h,_=>by
  have:i=0:=by omega
  subst this;exact .refl _
 |j+1,i,h,hj=>by
  rcases Nat.lt_or_ge i (j+1) with h'|h'
  ·exact(cp j i (by omega) (by omega)).trans (lS dO ht j (by omega)).1
  ·have:i=j+1:=by omega
   subst this;exact .refl _
theorem ij {i:Nat}:∀(j:Nat),i≤j→j≤ops.size→∀k,k<(S i).bs.length→(∀q,i≤q→q<j→¬dM pv ops F q∨(S (q+1)).bs[k]?=(S q).bs[k]?)→(S j).bs[k]?=(S i).bs[k]?
 |0,h,_,k,_,_=>by
  have:i=0:=by omega
  subst this;rfl
 |j+1,h,hj,k,hk,hq=>by
  rcases Nat.lt_or_ge i (j+1) with h'|h'
  ·have ih:=ij j (by omega) (by omega) k hk fun q h1 h2=>hq q h1 (by omega);have iX:k<(S j).bs.length:=Nat.lt_of_lt_of_le hk (cp dO ht j i (by omega) (by omega)).len
   rcases hq j (by omega) (by omega) with h1|h1
   ·exact((lS dO ht j (by omega)).2 h1 k iX).trans ih
   ·exact h1.trans ih
  ·have:i=j+1:=by omega
   subst this;rfl
theorem zr {w:World} {sg:Nat→Nat} {β:Nat→Option (Nat×Nat)} {Z:Nat→Prop} {m m':Nat} (h:m≤m') (h':m'≤ops.size):cM w (Xm S sg β Z m) w (Xm S sg β Z m'):=by
 have hl:=(cp dO ht m' m h h').len
 have key:∀k p,(Xm S sg β Z m).β k=some p→(Xm S sg β Z m').β k=some p:=by
  intro k p hp;simp only[Xm] at hp⊢
  split at hp
  ·rename_i hk;rw[if_pos (by omega)];exact hp
  ·cases hp
 exact⟨fun k p hp=>⟨p,key k p hp⟩,fun b hb=>⟨hb,rfl⟩,fun k c p _ hc=>⟨c,hc,Nat.le_refl _⟩,fun k c _ _ b base hb=>⟨key k _ hb,rfl⟩⟩
theorem uz {a0 a:Act} {w0 w:World} {β0 β:Nat→Option (Nat×Nat)} {Z0 Z:Nat→Prop} {E:Nat→Bool} {sg:Nat→Nat} (h:DI pv ops F S dd a0 w0 β0 Z0 E a w β Z sg) {i:Nat} (hi:i≤ops.size)
  (hd:∀j,j<i→dM pv ops F j→E j=true) (hu:∀j,i≤j→dM pv ops F j→E j=false) {k:Nat} {p:Nat×Nat} (hk:β k=some p) (Ga:k<(S i).bs.length):
  sg k≤i∧Hs S sg k=((S i).bs[k]?).getD .dead∧(S i).bs[k]?=some (Hs S sg k):=by
 obtain⟨h1,h2,h3⟩:=h.dom k p hk
 have hle:sg k≤i:=by
  rcases h3 with h3|⟨j,q1,q2,q3⟩
  ·omega
  ·rw[q2]
   rcases q3 with q3|q3
   ·rcases Nat.lt_or_ge j i with h'|h'
    ·exact h'
    ·have:=hu j h' q3;rw[this] at q1;cases q1
   ·rcases Nat.lt_or_ge j i with h'|h'
    ·exact h'
    ·have vE:=h.bnd j q1;have:=(cp dO ht j i h' (by omega)).len;omega
 have heq:=ij dO ht i hle hi k h1 fun q Ak tp=>by
  by_cases he:dM pv ops F q
  ·have hE:=hd q tp he;have F':k<(S q).bs.length:=Nat.lt_of_lt_of_le h1 (cp dO ht q (sg k) Ak (by omega)).len;have:=h.sg2 k p hk q hE he F';omega
  ·exact .inl he
 refine⟨hle,by simp only[Hs];rw[heq],?_⟩;rw[heq];simp only[Hs];rw[List.getElem?_eq_getElem h1];rfl
end
end Go.V
namespace Go.V
open Go.RowKit
theorem gd.aq {w:World} {x:X} {b base:Nat} {bx:gP} (h:gd w x b base bx):∃c,ch bx=some c:=by
 cases bx with
 |mem v a c=>exact⟨v,rfl⟩
 |iter s p=>exact⟨0,rfl⟩
 |map e=>exact⟨0,rfl⟩
 |dead=>exact h.elim
def glue (S:Nat→St) (j:Nat) (βl β:Nat→Option (Nat×Nat)):Nat→Option (Nat×Nat):=fun k=>if k<(S (j+1)).bs.length then βl k else β k
open Classical in
noncomputable def eC (pv:Pv) (ops:Array Oper) (F:Nat→Fr) (S:Nat→St) (j m:Nat) (sg:Nat→Nat):Nat→Nat:=
 fun k=>if k<(S (j+1)).bs.length∧(dM pv ops F j∨(S j).bs.length≤k) then m else sg k
section
variable{pv:Pv} {P:Program} {cf:dJ} (dO:gO P pv cf) {ops:Array Oper} {F:Nat→Fr} {S:Nat→St} {dd:Nat→D} (ht:Trace pv cf ops ops.toList F S dd)
include dO ht
theorem DI.put {a0 a:Act} {w0 w w':World} {β0 β βl:Nat→Option (Nat×Nat)} {Z0 Z Zl:Nat→Prop} {E E':Nat→Bool} {sg:Nat→Nat} (h:DI pv ops F S dd a0 w0 β0 Z0 E a w β Z sg) {j m:Nat} {o:Oper} (hj:E j=false) (ho:ops[j]?=some o)
  (tG:∀k,E' k=true↔(E k=true∨k=j)) (qJ:∀e∈o.after.toList,Region.binds .any e=true→E e.on=true) (rR:∀i o' t,j<i→ops[i]?=some o'→o.dst=some t→o'.dst=some t→E i=false)
  (Cx:∀t,o.dst=some t→t<a.tmps.size) (Qc:(S 0).ro≤(S 0).bs.length) {T T':St} {v:Value}
  (hn:Nx w T (fun k=>if k<(S j).bs.length then β k else none) Z w' T' βl Zl) (RQ:T.bs.length=(S j).bs.length) (L9:T'.bs.length=(S (j+1)).bs.length) (OW:T.ro=(S j).ro)
  (hv:VR w' (T'.x βl Zl) (dd j) v) (yZ:∀k p,k<(S j).bs.length→β k=some p→T.aq k=ch (Hs S sg k))
  (tW:j+1≤m) (yV:m≤ops.size) (Iz:∀i,E i=true→dM pv ops F i→i+1≤m) (Iy:m=j+1∨∃i,E i=true∧dM pv ops F i∧m=i+1)
  (Ei:∀k p,βl k=some p→T'.aq k=ch (Hs S (eC pv ops F S j m sg) k))
  (L_:∀k b base,βl k=some (b,base)→(dM pv ops F j∨(S j).bs.length≤k)→gd w' (T'.x βl Zl) b base (Hs S (eC pv ops F S j m sg) k))
  (hq:¬dM pv ops F j→Quiet w w') (hS:dM pv ops F j→T=S j∧T'=S (j+1)):
  DI pv ops F S dd a0 w0 β0 Z0 E' (a.put o.dst v) w' (glue S j βl β) Zl (eC pv ops F S j m sg):=by
 have vE:j<ops.size:=by
  rcases Nat.lt_or_ge j ops.size with h'|h'
  ·exact h'
  ·rw[Array.getElem?_eq_none h'] at ho;cases ho
 have RV:=(lS dO ht j vE).1.len;have hN:∀{a b:Nat},a≤b→b≤ops.size→(S a).bs.length≤(S b).bs.length:=fun h1 h2=>(cp dO ht _ _ h1 h2).len;have lk:∀k p,βl k=some p→k<(S (j+1)).bs.length:=fun k p hp=>by rw[←L9];exact hn.sim.dom k p.1 p.2 hp
 have fA:∀k,k<(S j).bs.length→β k=none→βl k=none∧T'.bs[k]?=T.bs[k]?:=fun k hk h0=>hn.u7 k (by rw[RQ];exact hk) (by simp only[if_pos hk];exact h0);have fB:∀k p,k<(S j).bs.length→β k=some p→∃p',βl k=some p':=fun k p hk hp=>hn.keeps.dm k p (by simp only[St.x,if_pos hk];exact hp)
 have fC:∀k p,(S j).bs.length≤k→k<(S (j+1)).bs.length→β k=some p→False:=fun k p h1 h2 hp=>by
  have:=h.cr k p hp j vE h1 h2;rw[hj] at this;cases this
 have Fh:∀k,¬(k<(S (j+1)).bs.length∧(dM pv ops F j∨(S j).bs.length≤k))→eC pv ops F S j m sg k=sg k:=fun k hk=>by simp only[eC];rw[if_neg hk]
 have J7:∀k,k<(S (j+1)).bs.length→(dM pv ops F j∨(S j).bs.length≤k)→eC pv ops F S j m sg k=m:=fun k h1 h2=>by simp only[eC];rw[if_pos ⟨h1,h2⟩]
 have vL:∀k,k<(S (j+1)).bs.length→glue S j βl β k=βl k:=fun k hk=>by simp only[glue,if_pos hk]
 have y7:∀k,¬k<(S (j+1)).bs.length→glue S j βl β k=β k:=fun k hk=>by simp only[glue,if_neg hk]
 have J1:∀k,¬(k<(S (j+1)).bs.length∧(dM pv ops F j∨(S j).bs.length≤k))→Hs S (eC pv ops F S j m sg) k=Hs S sg k:=fun k hk=>by simp only[Hs,Fh k hk]
 have fE:∀k b base,¬k<(S j).bs.length→β k=some (b,base)→w'.heap[b]?=w.heap[b]?:=by
  intro k b base hk hb;refine hn.evo.block b (h.lt k b base hb) ?_;rintro⟨k',cu,jv,_⟩;dsimp only at jv
  split at jv
  ·rename_i hlt;have:=h.inj k k' b _ _ hb jv;omega
  ·cases jv
 have fD:¬dM pv ops F j→∀k p,k<(S j).bs.length→β k=some p→βl k=some p:=by
  intro hne k p hk hp;obtain⟨p',pM⟩:=fB k p hk hp;have e1:=yZ k p hk hp;have e2:=Ei k p' pM;rw[J1 k (by rintro⟨_,h1|h1⟩;exact hne h1;omega)] at e2;obtain⟨c,hc⟩:=(h.box k p.1 p.2 hp).aq;rw[hc] at e1 e2;exact(hn.keeps.at_ k c e2 e1 p.1 p.2 (by simp only[St.x,if_pos hk];exact hp)).1
 have KX:∀q,cM w (Xm S sg β Z q) w' (Xm S (eC pv ops F S j m sg) (glue S j βl β) Zl q):=by
  intro q;refine⟨fun k p hp=>?_,hn.keeps.z,fun k c p hp hc=>?_,fun k c hc xE b base hb=>?_⟩
  ·simp only[Xm] at hp⊢
   split at hp
   ·rename_i F';rw[if_pos F']
    by_cases hk:k<(S (j+1)).bs.length
    ·rw[vL k hk]
     by_cases iX:k<(S j).bs.length
     ·exact fB k p iX hp
     ·exact(fC k p (by omega) hk hp).elim
    ·rw[y7 k hk];exact⟨p,hp⟩
   ·cases hp
  ·simp only[Xm] at hp hc⊢
   split at hp
   ·by_cases iX:k<(S j).bs.length
    ·obtain⟨p',pM⟩:=fB k p iX hp;obtain⟨o',h1,h2⟩:=hn.keeps.aq k c p (by simp only[St.x,if_pos iX];exact hp) (by show T'.aq k=some c;rw[Ei k p' pM];exact hc);exact⟨o',by rw[←yZ k p iX hp];exact h1,h2⟩
    ·by_cases hk:k<(S (j+1)).bs.length
     ·exact(fC k p (by omega) hk hp).elim
     ·rw[J1 k (fun h'=>hk h'.1)] at hc;exact⟨c,hc,Nat.le_refl _⟩
   ·cases hp
  ·simp only[Xm] at hb hc xE⊢
   split at hb
   ·rename_i F';rw[if_pos F']
    by_cases iX:k<(S j).bs.length
    ·obtain⟨p',pM⟩:=fB k _ iX hb;have:=hn.keeps.at_ k c (by show T'.aq k=some c;rw[Ei k p' pM];exact hc) (by show T.aq k=some c;rw[yZ k _ iX hb];exact xE) b base (by simp only[St.x,if_pos iX];exact hb);rw[vL k (by omega)];exact this
    ·by_cases hk:k<(S (j+1)).bs.length
     ·exact(fC k _ (by omega) hk hb).elim
     ·rw[y7 k hk];exact⟨hb,db (fE k b base iX hb)⟩
   ·cases hb
 have KT:cM w' (T'.x βl Zl) w' (Xm S (eC pv ops F S j m sg) (glue S j βl β) Zl (j+1)):=by
  have key:∀k p,βl k=some p→(Xm S (eC pv ops F S j m sg) (glue S j βl β) Zl (j+1)).β k=some p:=by
   intro k p hp;have:=lk k p hp;simp only[Xm];rw[if_pos this,vL k this];exact hp
  refine⟨fun k p hp=>⟨p,key k p hp⟩,fun b hb=>⟨hb,rfl⟩,fun k c p hp hc=>⟨c,?_,Nat.le_refl _⟩,fun k c _ _ b base hb=>⟨key k _ hb,rfl⟩⟩;show T'.aq k=some c;rw[Ei k p hp];exact hc
 have S3:(S (j+1)).bs.length≤(S m).bs.length:=hN tW yV;have LP:∀k,k<(S (j+1)).bs.length→(dM pv ops F j∨(S j).bs.length≤k)→k<(S m).bs.length:=fun k h1 _=>by omega
 refine⟨by rw[jJ];exact h.size,by rw[put_defers];exact h.defers,?_,?_,?_,?_,?_,?_,?_,?_,?_,?_,?_,?_,?_,h.keeps.trans (KX _),?_,?_,?_,?_⟩
 ·
  intro k o' hk Ea e he hb
  rcases(tG k).1 hk with hk|rfl
  ·exact(tG _).2 (.inl (h.clo k o' hk Ea e he hb))
  ·rw[ho] at Ea;cases Ea;exact(tG _).2 (.inl (qJ e he hb))
 ·intro k hk
  rcases(tG k).1 hk with hk|rfl
  ·exact h.bnd k hk
  ·exact vE
 ·
  intro k p hp
  by_cases hk:k<(S (j+1)).bs.length
  ·rw[vL k hk] at hp
   by_cases hc:dM pv ops F j∨(S j).bs.length≤k
   ·rw[J7 k hk hc];refine⟨LP k hk hc,yV,.inr ?_⟩
    rcases Iy with rfl|⟨i,q1,q2,q3⟩
    ·exact⟨j,(tG j).2 (.inr rfl),rfl,hc⟩
    ·exact⟨i,(tG i).2 (.inl q1),q3,.inl q2⟩
   ·rw[Fh k (fun h'=>hc h'.2)]
    have iX:k<(S j).bs.length:=by
     rcases Nat.lt_or_ge k (S j).bs.length with h'|h'
     ·exact h'
     ·exact absurd (.inr h') hc
    cases hβ:β k with
    |none=>have:=(fA k iX hβ).1;rw[hp] at this;cases this
    |some q=>
     obtain⟨d1,d2,d3⟩:=h.dom k q hβ;refine⟨d1,d2,?_⟩
     rcases d3 with d3|⟨i,r1,r2,r3⟩
     ·exact .inl d3
     ·exact .inr ⟨i,(tG i).2 (.inl r1),r2,r3⟩
  ·rw[y7 k hk] at hp;rw[Fh k (fun h'=>hk h'.1)];obtain⟨d1,d2,d3⟩:=h.dom k p hp;refine⟨d1,d2,?_⟩
   rcases d3 with d3|⟨i,r1,r2,r3⟩
   ·exact .inl d3
   ·exact .inr ⟨i,(tG i).2 (.inl r1),r2,r3⟩
 ·
  intro k p hp i hi h1 h2
  by_cases hk:k<(S (j+1)).bs.length
  ·rw[vL k hk] at hp
   by_cases iX:k<(S j).bs.length
   ·cases hβ:β k with
    |none=>have:=(fA k iX hβ).1;rw[hp] at this;cases this
    |some q=>exact(tG i).2 (.inl (h.cr k q hβ i hi h1 h2))
   ·have:i=j:=by
     rcases Nat.lt_trichotomy i j with h'|h'|h'
     ·have:=hN (a:=i+1) (b:=j) (by omega) (by omega);omega
     ·exact h'
     ·have:=hN (a:=j+1) (b:=i) (by omega) (by omega);omega
    subst this;exact(tG _).2 (.inr rfl)
  ·rw[y7 k hk] at hp;exact(tG i).2 (.inl (h.cr k p hp i hi h1 h2))
 ·
  intro k p hp i hi he Ga
  by_cases hk:k<(S (j+1)).bs.length
  ·rw[vL k hk] at hp
   by_cases hc:dM pv ops F j∨(S j).bs.length≤k
   ·rw[J7 k hk hc]
    rcases(tG i).1 hi with hi|rfl
    ·exact Iz i hi he
    ·exact tW
   ·rw[Fh k (fun h'=>hc h'.2)]
    have iX:k<(S j).bs.length:=by
     rcases Nat.lt_or_ge k (S j).bs.length with h'|h'
     ·exact h'
     ·exact absurd (.inr h') hc
    cases hβ:β k with
    |none=>have:=(fA k iX hβ).1;rw[hp] at this;cases this
    |some q=>
     rcases(tG i).1 hi with hi|rfl
     ·exact h.sg2 k q hβ i hi he Ga
     ·exact absurd (.inl he) hc
  ·rw[y7 k hk] at hp;rw[Fh k (fun h'=>hk h'.1)]
   rcases(tG i).1 hi with hi|rfl
   ·exact h.sg2 k p hp i hi he Ga
   ·omega
 ·
  intro k Ap i hi he Ga
  have hβ:k<(S j).bs.length∨¬k<(S (j+1)).bs.length→β k=none:=by
   rintro(iX|hk)
   ·cases hβ:β k with
    |none=>rfl
    |some q=>
     obtain⟨p',pM⟩:=fB k q iX hβ;rw[vL k (by omega),pM] at Ap;cases Ap
   ·rw[y7 k hk] at Ap;exact Ap
  have HW:β k=none:=by
   by_cases iX:k<(S j).bs.length
   ·exact hβ (.inl iX)
   ·by_cases hk:k<(S (j+1)).bs.length
    ·cases hb:β k with
     |none=>rfl
     |some q=>exact(fC k q (by omega) hk hb).elim
    ·exact hβ (.inr hk)
  rcases(tG i).1 hi with hi|rfl
  ·exact h.ph k HW i hi he Ga
  ·obtain⟨e1,e2⟩:=hS he;have:=(fA k Ga HW).2;rw[e1,e2] at this;exact this
 ·
  intro k b base hp
  by_cases hk:k<(S (j+1)).bs.length
  ·rw[vL k hk] at hp;exact hn.sim.lt k b base hp
  ·rw[y7 k hk] at hp;exact Nat.lt_of_lt_of_le (h.lt k b base hp) hn.evo.size
 ·
  have mix:∀k k' b x x',k<(S (j+1)).bs.length→¬k'<(S (j+1)).bs.length→βl k=some (b,x)→β k'=some (b,x')→False:=by
   intro k k' b x x' hk jv h1 h2
   rcases hn.fresh k b x h1 with⟨cu,ez⟩|hlt
   ·skip
    split at ez
    ·have:=h.inj k k' b _ _ ez h2;omega
    ·cases ez
   ·have:=h.lt k' b x' h2;omega
  intro k k' b x x' h1 h2
  by_cases hk:k<(S (j+1)).bs.length<;>by_cases jv:k'<(S (j+1)).bs.length
  ·rw[vL k hk] at h1;rw[vL k' jv] at h2;exact hn.sim.inj k k' b x x' h1 h2
  ·rw[vL k hk] at h1;rw[y7 k' jv] at h2;exact(mix k k' b x x' hk jv h1 h2).elim
  ·rw[y7 k hk] at h1;rw[vL k' jv] at h2;exact(mix k' k b x' x jv hk h2 h1).elim
  ·rw[y7 k hk] at h1;rw[y7 k' jv] at h2;exact h.inj k k' b x x' h1 h2
 ·
  intro k b base hp hz
  by_cases hk:k<(S (j+1)).bs.length
  ·rw[vL k hk] at hp;exact hn.sim.zd k b base hp hz
  ·rw[y7 k hk] at hp
   rcases hn.zfresh b hz with hz|hlt
   ·exact h.zd k b base hp hz
   ·have:=h.lt k b base hp;omega
 ·exact hn.sim.zl
 ·
  intro k b base hp
  by_cases hk:k<(S (j+1)).bs.length
  ·rw[vL k hk] at hp
   by_cases hc:dM pv ops F j∨(S j).bs.length≤k
   ·rw[J7 k hk hc];exact(L_ k b base hp hc).cD (KT.trans (zr dO ht tW yV)) rfl
   ·have iX:k<(S j).bs.length:=by
     rcases Nat.lt_or_ge k (S j).bs.length with h'|h'
     ·exact h'
     ·exact absurd (.inr h') hc
    have hne:¬dM pv ops F j:=fun h'=>hc (.inl h');rw[Fh k (fun h'=>hc h'.2),J1 k (fun h'=>hc h'.2)]
    cases hβ:β k with
    |none=>have:=(fA k iX hβ).1;rw[hp] at this;cases this
    |some q=>
     have:=fD hne k q iX hβ;rw[hp] at this;cases this;exact(h.box k b base hβ).cD (KX _) (hq hne b (h.lt k b base hβ))
  ·rw[y7 k hk] at hp;rw[Fh k (fun h'=>hk h'.1),J1 k (fun h'=>hk h'.1)];exact(h.box k b base hp).cD (KX _) (fE k b base (by omega) hp)
 ·
  intro t
  by_cases hd:o.dst=some t
  ·have hl:cX ops E' t ops.size=some j:=by
    have s:=eQ ops E' t ops.size
    cases hl:cX ops E' t ops.size with
    |none=>
     rw[hl] at s;have:=s j o vE ho hd;rw[(tG j).2 (.inr rfl)] at this;cases this
    |some i=>
     rw[hl] at s;obtain⟨s1,s2,⟨o',s3,s4⟩,s5⟩:=s
     rcases Nat.lt_trichotomy i j with h'|h'|h'
     ·have:=s5 j o h' vE ho hd;rw[(tG j).2 (.inr rfl)] at this;cases this
     ·rw[h']
     ·have:=rR i o' t h' s3 hd s4
      rcases(tG i).1 s2 with h2|h2
      ·rw[this] at h2;cases h2
      ·omega
   have hget:(a.put o.dst v).tmps.getD t undef=v:=by
    rw[hd];simp only[Act.put,Array.getD_eq_getD_getElem?];rw[Array.getElem?_setIfInBounds_self_of_lt (Cx t hd)];rfl
   rw[hget];simp only[val,GV,hl];unfold re
   split
   ·exact .junk _ _ _
   ·exact hv.mono KT
  ·have hl:cX ops E' t ops.size=cX ops E t ops.size:=by
    refine pD fun i o' h1 h2=>?_;have hij:i≠j:=fun e=>by subst e;rw[ho] at h1;cases h1;exact hd h2
    rw[tG i];simp[hij]
   have hget:(a.put o.dst v).tmps.getD t undef=a.tmps.getD t undef:=by
    cases I2:o.dst with
    |none=>rfl
    |some u=>
     have hut:u≠t:=fun e=>hd (by rw[I2,e]);simp only[Act.put,Array.getD_eq_getD_getElem?];rw[Array.getElem?_setIfInBounds_ne hut]
   rw[hget];have hf:=h.frame t;simp only[val,GV,hl] at hf⊢;exact hf.mono (KX _)
 ·
  refine h.evo.trans hn.evo (fun _ hm=>hm) fun b hb hm=>?_;obtain⟨k,base,hk,ft⟩:=hm;dsimp only at hk
  split at hk
  ·rcases h.fresh k b base hk with⟨cu,ez⟩|hlt
   ·refine⟨k,cu,ez,?_⟩;have:=(cp dO ht j 0 (by omega) (by omega)).ro;rw[←this,←OW];exact ft
   ·omega
  ·cases hk
 ·
  intro k b base hp
  by_cases hk:k<(S (j+1)).bs.length
  ·rw[vL k hk] at hp
   rcases hn.fresh k b base hp with⟨cu,ez⟩|hlt
   ·skip
    split at ez
    ·exact h.fresh k b cu ez
    ·cases ez
   ·exact .inr (Nat.le_trans h.evo.size hlt)
  ·rw[y7 k hk] at hp;exact h.fresh k b base hp
 ·intro b hz
  rcases hn.zfresh b hz with hz|hlt
  ·exact h.zfresh b hz
  ·exact .inr (Nat.le_trans h.evo.size hlt)
 ·
  intro k hk;have h0:=hN (a:=0) (b:=j) (by omega) (by omega);have iX:k<(S j).bs.length:=by omega
  have hr:=(cp dO ht j 0 (by omega) (by omega)).ro;have:=(hn.low k (by rw[OW,hr];exact hk)).2;rw[vL k (by omega),this];simp only[if_pos iX];exact h.low k hk
 ·
  intro k hk Ap;have h0:=hN (a:=0) (b:=j) (by omega) (by omega);have iX:k<(S j).bs.length:=by omega
  rw[vL k (by omega)];exact(fA k iX (h.u7 k hk Ap)).1
end
end Go.V
namespace Go.V
open Go.RowKit
theorem BG {pv:Pv} {o:Oper} (h:zT o=true):eA pv o=false:=by
 obtain⟨dst,op,ty,pos,after,guard⟩:=o;cases op<;>simp only[zT,Bool.false_eq_true] at h<;>try rfl
 rename_i c;obtain⟨callee,args,bB⟩:=c;cases callee<;>simp only[Bool.false_eq_true] at h
 rename_i b;cases b<;>simp at h<;>rfl
theorem lJ {pv:Pv} {o:Oper} (h:eA pv o=true):zT o=false∧Dl o=false:=by
 refine⟨?_,?_⟩
 ·cases hp:zT o with
  |false=>rfl
  |true=>rw[BG hp] at h;cases h
 ·obtain⟨dst,op,ty,pos,after,guard⟩:=o
  cases op<;>first|rfl|(simp[eA] at h)
theorem yG {a b:St} {k:Nat} (h:a.bs[k]?=b.bs[k]?) (v:Nat):a.dL k v=b.dL k v:=by
 simp only[St.dL,h]
theorem Fu {pv:Pv} {fr:Fr} {st ae:St} {op:Op} {ty:TypeId} {a:Operand} {d:D} (ha:f' op=some a) (h:df pv fr st op ty=some (d,ae)):ae=st∧∀T:St,(∀k,(fr.ev a).lK=some k→T.bs[k]?=st.bs[k]?)→df pv fr T op ty=some (d,T):=by
 cases op<;>simp only[f',Option.some.injEq,reduceCtorEq] at ha
 case load t x=>
  subst ha;simp only[df] at h⊢;obtain⟨r,hz,hs⟩:=Option.map_eq_some_iff.1 h;cases hs;refine⟨rfl,fun T hT=>?_⟩
  have:eW pv t (fr.ev x) T=eW pv t (fr.ev x) st:=by
   cases hx:fr.ev x<;>first|rfl|skip
   rename_i k v off;simp only[eW];rw[yG (hT k (by rw[hx];rfl))]
  rw[this,hz];rfl
 case indexAddr t x i=>
  subst ha;simp only[df] at h⊢;obtain⟨r,hz,hs⟩:=Option.map_eq_some_iff.1 h;cases hs;refine⟨rfl,fun T hT=>?_⟩
  have:br pv t (fr.ev x) (fr.ev i) T=br pv t (fr.ev x) (fr.ev i) st:=by
   cases hx:fr.ev x with
   |win k v off len sz=>
    have hm:=yG (hT k (by rw[hx];rfl)) v;simp only[br];cases fr.ev i<;>try rfl
    cases pv.b9 t with
    |none=>rfl
    |some td=>cases td<;>first|rfl|(simp only[hm])
   |_=>
    simp only[br];cases fr.ev i<;>try rfl
    cases pv.b9 t with
    |none=>rfl
    |some td=>cases td<;>rfl
  rw[this,hz];rfl
theorem uM {pv:Pv} {cf:dJ} {fr:Fr} {st:St} {o:Oper} (h:Dl o=true):ek pv cf fr st o=df pv fr st o.op o.type:=by
 unfold ek
 split
 ·rename_i fX;simp[Dl,fX,f'] at h
 ·rfl
theorem uW {pv:Pv} {cf:dJ} {fr:Fr} {st:St} {o:Oper} (h:zT o=true):ek pv cf fr st o=df pv fr st o.op o.type:=by
 unfold ek
 split
 ·rename_i fX;simp only[zT,fX,Bool.false_eq_true] at h
 ·rfl
def AH (fr:Fr) (ts:List Nat):Fr:=⟨0,[],ts.map fun t=>(t,fr.get t)⟩
theorem vi (f:Nat→D) (t:Nat):∀(ts:List Nat),look t (ts.map fun t=>(t,f t))=if t∈ts then f t else .junk
 |[]=>rfl
 |u::l=>by
  simp only[List.map_cons,look]
  by_cases h:t=u
  ·subst h;simp
  ·have:Nat.beq t u=false:=by
    cases hb:Nat.beq t u with
    |false=>rfl
    |true=>exact absurd (Nat.eq_of_beq_eq_true hb) h
   rw[this,vi f t l];simp[h]
theorem mo (fr:Fr) (ts:List Nat) (t:Nat):(AH fr ts).get t=if t∈ts then fr.get t else .junk:=by
 simp only[AH,Fr.get,Nat.ble];exact vi fr.get t ts
def G8 (p:Option (Nat×Nat)) (bx:gP):gP:=
 match p,bx with
 |some _,.mem v a _=>.mem v a []
 |some _,.iter s q=>.iter s q
 |some _,.map es=>.map es
 |_,_=>.dead
def tt (st:St) (β:Nat→Option (Nat×Nat)) (H:Nat→gP):St:=⟨(List.range st.bs.length).map fun k=>G8 (β k) (H k),st.flr,st.ro⟩
theorem vB {st:St} {β:Nat→Option (Nat×Nat)} {H:Nat→gP} {k:Nat} (h:k<st.bs.length):(tt st β H).bs[k]?=some (G8 (β k) (H k)):=by
 simp[tt,h]
theorem fR (st:St) (β:Nat→Option (Nat×Nat)) (H:Nat→gP):(tt st β H).bs.length=st.bs.length:=by simp[tt]
theorem tq {w:World} {x x':X} {b base:Nat} {bx:gP} (h:gd w x b base bx) (p:Nat×Nat):gd w x' b base (G8 (some p) bx)∧ch (G8 (some p) bx)=ch bx:=by
 cases bx with
 |mem v a c=>
  obtain⟨c',el,fr,h1,h2,h3,_⟩:=h;exact⟨⟨c',el,fr,h1,by simp;omega,h3,fun j d hd=>by simp at hd⟩,rfl⟩
 |iter s q=>exact⟨h,rfl⟩
 |map e=>exact⟨h,rfl⟩
 |dead=>exact h.elim
def x_ (E:Nat→Bool) (j:Nat):Nat→Bool:=fun k=>E k||Nat.beq k j
theorem gH (E:Nat→Bool) (j k:Nat):x_ E j k=true↔(E k=true∨k=j):=by
 simp[x_]
theorem VR.NP {w:World} {x x':X} {N:Nat} (hZ:∀b,x.Z b→x'.Z b) (hv:∀k,x'.aq k=x.aq k) (hβ:∀k p,k<N→x.β k=some p→x'.β k=some p) {d:D} {v:Value} (h:VR w x d v) (hr:d.ref≤N):VR w x' d v:=by
 induction h with
 |im d v h=>exact .im _ _ (h.mono fun b hb=>⟨hZ b hb,rfl⟩)
 |win k vr off len s a cap hc hk hm h=>
  simp only[D.ref] at hr;refine .win k vr off len s a cap hc (by obtain⟨p,hp⟩:=hk;exact⟨p,hβ k p (by omega) hp⟩) (fun c hc=>hm c (by rw[←hv];exact hc)) fun hc=>?_;obtain⟨b,base,sz,h1,h2⟩:=h (by rw[←hv];exact hc);exact⟨b,base,sz,hβ k _ (by omega) h1,h2⟩
 |ptr k vr off a hk hm h=>
  simp only[D.ref] at hr;refine .ptr k vr off a (by obtain⟨p,hp⟩:=hk;exact⟨p,hβ k p (by omega) hp⟩) (fun c hc=>hm c (by rw[←hv];exact hc)) fun hc=>?_;obtain⟨b,base,h1,h2⟩:=h (by rw[←hv];exact hc);exact⟨b,base,hβ k _ (by omega) h1,h2⟩
 |mp k r hk h=>
  simp only[D.ref] at hr;refine .mp k r (by obtain⟨p,hp⟩:=hk;exact⟨p,hβ k p (by omega) hp⟩) fun hc=>?_;obtain⟨base,h1⟩:=h (by rw[←hv];exact hc);exact⟨base,hβ k _ (by omega) h1⟩
 |fn f cs vs hl Ib ih=>simp only[D.ref] at hr;exact .fn f cs vs hl fun i c v hc hv=>ih i c v hc hv (Nat.le_trans (bo (List.mem_of_getElem? hc)) hr)
 |agg cs vs hl h1 Ib ih=>simp only[D.ref] at hr;exact .agg cs vs hl h1 fun i c v hc hv=>ih i c v hc hv (Nat.le_trans (bo (List.mem_of_getElem? hc)) hr)
 |tup cs vs hl Ib ih=>simp only[D.ref] at hr;exact .tup cs vs hl fun i c v hc hv=>ih i c v hc hv (Nat.le_trans (bo (List.mem_of_getElem? hc)) hr)
section
variable{pv:Pv} {P:Program} {cf:dJ} (dO:gO P pv cf) {ops:Array Oper} {F:Nat→Fr} {S:Nat→St} {dd:Nat→D} (ht:Trace pv cf ops ops.toList F S dd)
include dO ht
theorem Ep {w:World} {sg:Nat→Nat} {β:Nat→Option (Nat×Nat)} {Z:Nat→Prop} {j m k b base:Nat} (Ro:j≤m) (hm:m≤ops.size) (h:gd w (Xm S sg β Z m) b base (Hs S sg k)) (he:(S j).bs[k]?=some (Hs S sg k)) (hs:lj (some k) (S j) (S m)=true):gd w (Xm S sg β Z j) b base (Hs S sg k):=by
 have hl:=(cp dO ht m j Ro hm).len;unfold lj at hs;simp only at hs
 split at hs
 ·rename_i hb;have hle:=Nat.eq_of_beq_eq_true hb;have:Xm S sg β Z j=Xm S sg β Z m:=by simp only[Xm,hle]
  rw[this];exact h
 ·rw[he] at hs
  split at hs
  ·rename_i v ar c hc
   cases lF:Hs S sg k with
   |mem v' Tk c'=>
    rw[lF] at hc h;cases hc;have hr:=Nat.le_of_ble_eq_true hs;obtain⟨c',el,fr,h1,h2,h3,h4⟩:=h;refine⟨c',el,fr,h1,h2,h3,fun i d hd=>?_⟩;obtain⟨v,v1,v3,v2⟩:=h4 i d hd;refine⟨v,v1,v3,v2.NP (x:=Xm S sg β Z m) (x':=Xm S sg β Z j) (N:=(S j).bs.length) (fun _ hb=>hb) (fun _=>rfl) (fun k' p jv hp=>?_) (Nat.le_trans (bo (List.mem_of_getElem? hd)) hr)⟩;simp only[Xm] at hp⊢;rw[if_pos jv]
    split at hp
    ·exact hp
    ·cases hp
   |_=>rw[lF] at hc;cases hc
  ·cases hs
end
section
variable{pv:Pv} {P:Program} (ok:pv.Ok P) {cf:dJ} (dO:gO P pv cf) {ops:Array Oper} {F:Nat→Fr} {S:Nat→St} {dd:Nat→D} (ht:Trace pv cf ops ops.toList F S dd) {dy:List (Nat×Nat)} (me:jN pv ops dy=true) (iJ:Still dy ops F S)
include ok dO ht me iJ
theorem DI.step {Q:Exit→Act→World→Prop} {a0 a:Act} {w0 w:World} {β0 β:Nat→Option (Nat×Nat)} {Z0 Z:Nat→Prop} {E:Nat→Bool} {sg:Nat→Nat} (h:DI pv ops F S dd a0 w0 β0 Z0 E a w β Z sg) (h0:fm w0 (S 0) β0 Z0)
  {j:Nat} {o:Oper} (ho:ops[j]?=some o) (hj:E j=false) (qJ:∀e∈o.after.toList,Region.binds .any e=true→E e.on=true) (Cx:se ops.toList a0.tmps.size)
  {K:Act→World→Prop} (hK:∀a' w' β' Z' J8,DI pv ops F S dd a0 w0 β0 Z0 (x_ E j) a' w' β' Z' J8→K a' w'):wpOp P ops Q j K a w:=by
 have vE:j<ops.size:=by
  rcases Nat.lt_or_ge j ops.size with h'|h'
  ·exact h'
  ·rw[Array.getElem?_eq_none h'] at ho;cases ho
 have hcl:tT ops (x_ E j):=by
  intro k o' hk Ea e he hb
  rcases(gH E j k).1 hk with hk|rfl
  ·exact(gH E j _).2 (.inl (h.clo k o' hk Ea e he hb))
  ·rw[ho] at Ea;cases Ea;exact(gH E _ _).2 (.inl (qJ e he hb))
 have C1:∀i x,i<j→ops[i]?=some x→jx pv ops (listed dy i j) x o=true→E i=true:=by
  intro i x hi hx hc
  rcases(gH E j i).1 (kA me hi hx ho hc hcl ((gH E j j).2 (.inr rfl))) with h'|h'
  ·exact h'
  ·omega
 have C2:∀i x,j<i→ops[i]?=some x→jx pv ops (listed dy j i) o x=true→E i=false:=by
  intro i x hi hx hc
  cases hE:E i with
  |false=>rfl
  |true=>have:=kA me hi ho hx hc h.clo hE;rw[hj] at this;cases this
 have rR:∀i o' t,j<i→ops[i]?=some o'→o.dst=some t→o'.dst=some t→E i=false:=by
  intro i o' t hi Ea h1 h2;refine C2 i o' hi Ea ?_;simp[jx,yq,h1,h2]
 have OQ:∀t,o.dst=some t→t<a.tmps.size:=fun t hd=>by
  rw[h.size];exact Cx o (by rw[←Array.getElem?_toList] at ho;exact List.mem_of_getElem? ho) t hd
 have QS:∀t∈looks ops o,cX ops E t ops.size=cX ops (fun _=>true) t j:=by
  intro t yP
  refine pD fun i o' h1 h2=>⟨fun⟨_,hE⟩=>⟨?_,rfl⟩,fun⟨hi,_⟩=>⟨by omega,C1 i o' hi h1 (by simp[jx,tL,h2,yP])⟩⟩
  rcases Nat.lt_trichotomy i j with h'|h'|h'
  ·exact h'
  ·subst h';rw[hj] at hE;cases hE
  ·have:=C2 i o' h' h1 (by simp[jx,tL,h2,yP]);rw[this] at hE;cases hE
 have JX:=(cp dO ht j 0 (by omega) (by omega))
 have RV:=(lS dO ht j vE).1
 have Ht:∀(T:St) (m:Nat),m≤j→T.bs.length=(S j).bs.length→(∀k p,k<(S j).bs.length→β k=some p→T.aq k=ch (Hs S sg k))→
   cM w (Xm S sg β Z m) w (T.x (fun k=>if k<(S j).bs.length then β k else none) Z):=by
  intro T m hm hT hv;refine(zr dO ht hm (by omega)).trans ⟨fun k p hp=>⟨p,hp⟩,fun b hb=>⟨hb,rfl⟩,fun k c p hp hc=>⟨c,?_,Nat.le_refl _⟩,fun k c _ _ b base hb=>⟨hb,rfl⟩⟩;simp only[Xm] at hp⊢
  split at hp
  ·rename_i hk;rw[←hv k p hk hp];exact hc
  ·cases hp
 have hG:∀(T:St),T.bs.length=(S j).bs.length→(∀k p,k<(S j).bs.length→β k=some p→T.aq k=ch (Hs S sg k))→
   mG w (T.x (fun k=>if k<(S j).bs.length then β k else none) Z) (AH (F j) (looks ops o)) a.tmps:=by
  intro T hT hv t;rw[mo]
  split
  ·rename_i yP;have hf:=h.frame t;have KE:=(mM ht t j (by omega)).1;have hl:=QS t yP;simp only[val,GV,hl] at hf;rw[KE];have s:=eQ ops (fun _=>true) t j
   cases hq:cX ops (fun _=>true) t j with
   |none=>rw[hq] at hf;exact hf.mono (Ht T 0 (by omega) hT hv)
   |some i=>rw[hq] at hf s;exact hf.mono (Ht T (i+1) s.1 hT hv)
  ·exact .junk _ _ _
 have JZ:au ops (F j) o=au ops (AH (F j) (looks ops o)) o:=uc fun t yP=>by rw[mo,if_pos yP]
 have RY:∀st,ek pv cf (F j) st o=ek pv cf (AH (F j) (looks ops o)) st o:=fun st=>uY fun t yP=>by rw[mo,if_pos yP]
 have BZ:∀(T:St),T.bs.length=(S j).bs.length→T.flr=(S j).flr→T.ro=(S j).ro→(∀k p,k<(S j).bs.length→β k=some p→T.aq k=ch (Hs S sg k))→
   (∀k b base bx,k<(S j).bs.length→β k=some (b,base)→T.bs[k]?=some bx→gd w (T.x (fun k=>if k<(S j).bs.length then β k else none) Z) b base bx)→
   fm w T (fun k=>if k<(S j).bs.length then β k else none) Z:=by
  intro T hT lD hr hv hb
  have cut:∀k p,(if k<(S j).bs.length then β k else none)=some p→k<(S j).bs.length∧β k=some p:=by
   intro k p hp
   split at hp
   ·exact⟨by assumption,hp⟩
   ·cases hp
  refine⟨fun k b base hk=>by rw[hT];exact(cut k _ hk).1,fun k b base hk=>h.lt k b base (cut k _ hk).2,fun k k' b x x' h1 h2=>h.inj k k' b x x' (cut k _ h1).2 (cut k' _ h2).2,fun k b base hk=>h.zd k b base (cut k _ hk).2,h.zl,
   fun k b base bx hk fT=>hb k b base bx (cut k _ hk).1 (cut k _ hk).2 fT,?_,?_⟩
  ·rw[lD,hT,JX.flr];exact Nat.le_trans h0.flr JX.len
  ·rw[hr,hT,JX.ro];exact Nat.le_trans h0.ro JX.len
 have yZ:∀k p,k<(S j).bs.length→β k=some p→(tt (S j) β (Hs S sg)).aq k=ch (Hs S sg k):=by
  intro k p hk hp;simp only[St.aq,vB hk,Option.bind_some,hp];exact(tq (x':=Xm S sg β Z 0) (h.box k p.1 p.2 hp) p).2
 have OV:=BZ (tt (S j) β (Hs S sg)) (fR _ _ _) rfl rfl yZ fun k b base bx hk hp fT=>by
  rw[vB hk] at fT;cases fT;rw[hp];exact(tq (h.box k b base hp) _).1
 have hollow:∀(T T':St) (w':World) (βl:Nat→Option (Nat×Nat)) (Zl:Nat→Prop) (v:Value),T.bs.length=(S j).bs.length→T.ro=(S j).ro→(∀k p,k<(S j).bs.length→β k=some p→T.aq k=ch (Hs S sg k))→¬dM pv ops F j→
   ((S (j+1)=S j∧T'=T)∨∃ar cs,S (j+1)=(S j).push (.mem 0 ar cs)∧T'=T.push (.mem 0 ar cs))→
   Nx w T (fun k=>if k<(S j).bs.length then β k else none) Z w' T' βl Zl→VR w' (T'.x βl Zl) (dd j) v→Quiet w w'→K (a.put o.dst v) w':=by
  intro T T' w' βl Zl v rV L8 yZ hne Jg hn hv hq;obtain⟨m,tW,Iz,Iy⟩:=B1 (fun i=>E i=true∧dM pv ops F i) (j+1) ops.size
  have yV:m≤ops.size:=by rcases Iy with rfl|⟨i,q1,_,rfl⟩<;>omega
  have hl':T'.bs.length=(S (j+1)).bs.length:=by
   rcases Jg with⟨e1,e2⟩|⟨ar,cs,e1,e2⟩
   ·rw[e1,e2,rV]
   ·rw[e1,e2];simp[St.push,rV]
  have lk:∀k p,βl k=some p→k<(S (j+1)).bs.length:=fun k p hp=>by rw[←hl'];exact hn.sim.dom k p.1 p.2 hp
  have Fv:∀k p,k<(S j).bs.length→βl k=some p→∃q,β k=some q:=by
   intro k p hk hp
   cases hβ:β k with
   |some q=>exact⟨q,rfl⟩
   |none=>
    have:=(hn.u7 k (by rw[rV];exact hk) (by simp only[if_pos hk];exact hβ)).1;rw[hp] at this;cases this
  have HL:∀k p,βl k=some p→(S j).bs.length≤k→T'.bs[k]?=some (Hs S (eC pv ops F S j m sg) k):=by
   intro k p hp hk;have nx:=lk k p hp
   have hβ:β k=none:=by
    cases hb:β k with
    |none=>rfl
    |some q=>have:=h.cr k q hb j vE hk nx;rw[hj] at this;cases this
   have kV:eC pv ops F S j m sg k=m:=by simp only[eC];rw[if_pos ⟨nx,.inr hk⟩]
   have iJ:=ij dO ht m tW yV k nx fun q Ak tp=>by
    by_cases he:dM pv ops F q
    ·right;refine h.ph k hβ q ?_ he (Nat.lt_of_lt_of_le nx (cp dO ht q (j+1) Ak (by omega)).len)
     rcases Iy with rfl|⟨i,q1,⟨q2,q3⟩,rfl⟩
     ·omega
     ·rcases Nat.lt_or_ge q i with h'|h'
      ·obtain⟨o1,p1,p2,_⟩:=he;obtain⟨o2,r1,r2,_⟩:=q3;obtain⟨AX,KO⟩:=lJ r2;exact kA me h' p1 r1 (by simp[jx,p2,AX,KO]) h.clo q2
      ·have:q=i:=by omega
       rw[this];exact q2
    ·exact .inl he
   rcases Jg with⟨e1,e2⟩|⟨ar,cs,e1,e2⟩
   ·rw[e1] at nx;omega
   ·have hkk:k=(S j).bs.length:=by rw[e1] at nx;simp[St.push] at nx;omega
    have g1:(S (j+1)).bs[k]?=some (.mem 0 ar cs):=by rw[e1,hkk];simp[St.push]
    have g2:T'.bs[k]?=some (.mem 0 ar cs):=by rw[e2,hkk];simp[St.push,rV]
    simp only[Hs,kV];rw[g2,iJ,g1];rfl
  refine hK _ _ _ _ _ (h.put dO ht hj ho (gH E j) qJ rR OQ h0.ro hn rV hl' L8 hv yZ tW yV (fun i h1 h2=>Iz i (h.bnd i h1) ⟨h1,h2⟩) ?_ ?_ ?_ (fun _=>hq) fun he=>absurd he hne)
  ·rcases Iy with h'|⟨i,_,⟨q2,q3⟩,q4⟩
   ·exact .inl h'
   ·exact .inr ⟨i,q2,q3,q4⟩
  ·intro k p hp
   by_cases hk:k<(S j).bs.length
   ·obtain⟨q,Al⟩:=Fv k p hk hp
    have kV:eC pv ops F S j m sg k=sg k:=by
     simp only[eC];rw[if_neg];rintro⟨_,h'|h'⟩
     ·exact hne h'
     ·omega
    simp only[Hs,kV];have:=yZ k q hk Al;simp only[Hs] at this;rw[←this]
    have hg:T'.bs[k]?=T.bs[k]?:=by
     rcases Jg with⟨_,e2⟩|⟨ar,cs,_,e2⟩
     ·rw[e2]
     ·rw[e2];simp only[St.push];rw[List.getElem?_append_left (by rw[rV];exact hk)]
    simp only[St.aq,hg]
   ·have:=HL k p hp (by omega);simp only[St.aq,this,Option.bind_some]
  ·intro k b base hp hc
   rcases hc with hc|hc
   ·exact absurd hc hne
   ·exact hn.sim.box k b base _ hp (HL k _ hp hc)
 unfold wpOp;simp only[ho]
 rcases ht.step j o (by simpa using ho) with⟨hw,fX⟩|⟨hw,hd,hs⟩
 ·rw[JZ] at hw;rw[oz (hG _ (fR _ _ _) yZ) hw];simp only[if_true];left;rw[RY] at fX
  cases AX:zT o with
  |true=>
   have he:=BG (pv:=pv) AX
   have hne:¬dM pv ops F j:=by
    rintro⟨o',h1,h2,_⟩;rw[ho] at h1;cases h1;rw[he] at h2;cases h2
   rw[uW AX] at fX;obtain⟨T',Jf,Jg⟩:=BK AX fX (tt (S j) β (Hs S sg)) (fR _ _ _);rw[←uW (cf:=cf) AX] at Jf;exact oG ok dO OV (hG _ (fR _ _ _) yZ) Jf fun v w' β' Z' hn hv hq=>hollow (tt (S j) β (Hs S sg)) T' w' β' Z' v (fR _ _ _) rfl yZ hne Jg hn hv (hq he)
  |false=>
   cases oi:Dl o with
   |true=>
    have hne:¬dM pv ops F j:=by
     rintro⟨o',h1,h2,_⟩;rw[ho] at h1;cases h1;rw[(lJ h2).2] at oi;cases oi
    obtain⟨ad,tF⟩:∃ad,f' o.op=some ad:=by
     unfold Dl at oi
     cases hq:f' o.op with
     |none=>rw[hq] at oi;cases oi
     |some x=>exact⟨x,rfl⟩
    have LF:au ops (F j) o=some true:=by rw[JZ];exact hw
    have Jc:(AH (F j) (looks ops o)).ev ad=(F j).ev ad:=by
     refine(vO (ts:=looks ops o) (fun t yP=>by rw[mo,if_pos yP]) fun t e=>?_);subst e;refine List.mem_append_right _ (ly ?_);cases Li:o.op<;>rw[Li] at tF<;>simp only[f',Option.some.injEq,reduceCtorEq] at tF<;>subst tF<;>simp[Op.operands]
    have place:∀k,((F j).ev ad).lK=some k→∃p,β k=some p∧k<(S j).bs.length:=by
     intro k hk;have hv:=r_ (hG _ (fR _ _ _) yZ) ad;rw[Jc] at hv
     have cut:(∃p,(if k<(S j).bs.length then β k else none)=some p)→∃p,β k=some p∧k<(S j).bs.length:=by
      rintro⟨p,hp⟩
      split at hp
      ·exact⟨p,hp,by assumption⟩
      ·cases hp
     cases hd:(F j).ev ad with
     |ptr k' v off=>
      rw[hd] at hk hv;simp only[D.lK,Option.some.injEq] at hk;subst hk;obtain⟨_,_,hp,_⟩:=bH hv;exact cut hp
     |win k' v off len sz=>
      rw[hd] at hk hv;simp only[D.lK,Option.some.injEq] at hk;subst hk;obtain⟨_,_,_,_,hp,_⟩:=dR hv;exact cut hp
     |_=>rw[hd] at hk;simp[D.lK] at hk
    have same:∀k,((F j).ev ad).lK=some k→(S j).bs[k]?=some (Hs S sg k)∧(sg k≤j∨lj (some k) (S j) (S (sg k))=true):=by
     intro k hk;obtain⟨p,hp,iX⟩:=place k hk;obtain⟨d1,d2,d3⟩:=h.dom k p hp
     have fin:(S j).bs[k]?=(S (sg k)).bs[k]?:=by
      rcases Nat.le_total (sg k) j with hle|hle
      ·refine ij dO ht j hle (by omega) k d1 fun q Ak tp=>?_
       by_cases he:dM pv ops F q
       ·right;have F':k<(S q).bs.length:=Nat.lt_of_lt_of_le d1 (cp dO ht q (sg k) Ak (by omega)).len
        have E4:E q=false:=by
         cases hE:E q with
         |false=>rfl
         |true=>have:=h.sg2 k p hp q hE he F';omega
        obtain⟨x,x1,x2,x3⟩:=he
        have hl:listed dy q j=true:=by
         cases hl:listed dy q j with
         |true=>rfl
         |false=>have:=C1 q x tp x1 (by simp[jx,x2,AX,hl]);rw[E4] at this;cases this
        exact(iJ j q o ad k x ho tF LF hk x1 (lJ x2).2 x3 (fun _=>hl) (fun h'=>by omega)).1
       ·exact .inl he
      ·rcases Nat.eq_or_lt_of_le hle with heq|hlt
       ·rw[heq]
       rcases d3 with d3|⟨j',q1,q2,q3⟩
       ·omega
       have A0:dM pv ops F j':=by
        rcases q3 with q3|q3
        ·exact q3
        ·have:=(cp dO ht j' j (by omega) (by have:=h.bnd j' q1;omega)).len;omega
       symm
       refine ij dO ht (sg k) hle d2 k iX fun q Ak tp=>?_
       by_cases he:dM pv ops F q
       ·right
        have Qk:j<q:=by
         rcases Nat.eq_or_lt_of_le Ak with h'|h'
         ·subst h';exact absurd he hne
         ·exact h'
        have E4:E q=true:=by
         rcases Nat.lt_or_ge q j' with h'|h'
         ·obtain⟨x,x1,x2,_⟩:=he;obtain⟨y,y1,y2,_⟩:=A0;obtain⟨n1,n2⟩:=lJ y2;exact kA me h' x1 y1 (by simp[jx,x2,n1,n2]) h.clo q1
         ·have:q=j':=by omega
          rw[this];exact q1
        obtain⟨x,x1,x2,x3⟩:=he
        have hl:listed dy j q=true:=by
         cases hl:listed dy j q with
         |true=>rfl
         |false=>have:=C2 q x Qk x1 (by simp[jx,x2,AX,hl]);rw[E4] at this;cases this
        exact(iJ j q o ad k x ho tF LF hk x1 (lJ x2).2 x3 (fun h'=>by omega) (fun _=>hl)).1
       ·exact .inl he
     refine⟨?_,?_⟩
     ·rw[fin,List.getElem?_eq_getElem d1];simp only[Hs];rw[List.getElem?_eq_getElem d1];rfl
     ·rcases Nat.lt_or_ge j (sg k) with hlt|hge
      ·right
       rcases d3 with d3|⟨j',q1,q2,q3⟩
       ·omega
       have A0:dM pv ops F j':=by
        rcases q3 with q3|q3
        ·exact q3
        ·have:=(cp dO ht j' j (by omega) (by have:=h.bnd j' q1;omega)).len;omega
       have Hc:j<j':=by
        rcases Nat.lt_or_ge j j' with h'|h'
        ·exact h'
        ·have:j=j':=by omega
         subst this;exact absurd A0 hne
       obtain⟨x,x1,x2,x3⟩:=A0
       have hl:listed dy j j'=true:=by
        cases hl:listed dy j j' with
        |true=>rfl
        |false=>have:=C2 j' x Hc x1 (by simp[jx,x2,AX,hl]);rw[q1] at this;cases this
       have:=(iJ j j' o ad k x ho tF LF hk x1 (lJ x2).2 x3 (fun h'=>by omega) (fun _=>hl)).2 Hc;rw[q2];exact this
      ·exact .inl hge
    let T:St:=⟨(List.range (S j).bs.length).map fun k=>if((F j).ev ad).lK=some k then Hs S sg k else G8 (β k) (Hs S sg k),(S j).flr,(S j).ro⟩
    have Tl:T.bs.length=(S j).bs.length:=by simp[T]
    have Tg:∀k,k<(S j).bs.length→T.bs[k]?=some (if((F j).ev ad).lK=some k then Hs S sg k else G8 (β k) (Hs S sg k)):=by
     intro k hk;simp[T,hk]
    have Tv:∀k p,k<(S j).bs.length→β k=some p→T.aq k=ch (Hs S sg k):=by
     intro k p hk hp;simp only[St.aq,Tg k hk,Option.bind_some]
     split
     ·rfl
     ·rw[hp];exact(tq (x':=Xm S sg β Z 0) (h.box k p.1 p.2 hp) p).2
    have Ts:=BZ T Tl rfl rfl Tv fun k b base bx hk hp fT=>by
     rw[Tg k hk] at fT;cases fT
     split
     ·rename_i hbk;obtain⟨e1,e2⟩:=same k hbk;have fT:=h.box k b base hp
      rcases Nat.lt_or_ge j (sg k) with hlt|hge
      ·refine gd.cD ?_ (Ht T j (Nat.le_refl _) Tl Tv) rfl;exact Ep dO ht (by omega) (h.dom k _ hp).2.1 fT e1 (e2.resolve_left (by omega))
      ·exact fT.cD (Ht T (sg k) hge Tl Tv) rfl
     ·rw[hp];exact(tq (h.box k b base hp) _).1
    rw[uM oi] at fX;obtain⟨RT,RR⟩:=Fu tF fX
    have Jf:=RR T fun k hk=>by
     rw[Jc] at hk;obtain⟨p,hp,iX⟩:=place k hk;rw[Tg k iX,if_pos hk,(same k hk).1]
    rw[←uM (cf:=cf) oi] at Jf
    exact oG ok dO Ts (hG _ Tl Tv) Jf fun v w' β' Z' hn hv hq=>hollow T T w' β' Z' v Tl rfl Tv hne (.inl ⟨RT,rfl⟩) hn hv (hq (by
     cases he:eA pv o with
     |false=>rfl
     |true=>rw[(lJ he).2] at oi;cases oi))
   |false=>
    have sb:∀k p,β k=some p→k<(S j).bs.length→sg k≤j∧Hs S sg k=((S j).bs[k]?).getD .dead∧(S j).bs[k]?=some (Hs S sg k):=by
     intro k p hk iX;refine uz dO ht h (by omega) (fun i hi he=>?_) (fun i hi he=>?_) hk iX
     ·obtain⟨x,h1,h2,_⟩:=he;exact C1 i x hi h1 (by simp[jx,h2,AX,oi])
     ·rcases Nat.lt_or_ge j i with h'|h'
      ·obtain⟨x,h1,h2,_⟩:=he;exact C2 i x h' h1 (by simp[jx,h2,AX,oi])
      ·have:i=j:=by omega
       rw[this];exact hj
    have JW:∀k p,k<(S j).bs.length→β k=some p→(S j).aq k=ch (Hs S sg k):=fun k p hk hp=>by simp only[St.aq,(sb k p hp hk).2.2,Option.bind_some]
    have RS:=BZ (S j) rfl rfl rfl JW fun k b base bx hk hp fT=>by
     obtain⟨s1,_,s3⟩:=sb k _ hp hk;rw[s3] at fT;cases fT;exact(h.box k b base hp).cD (Ht (S j) (sg k) s1 rfl JW) rfl
    refine oG ok dO RS (hG _ rfl JW) fX fun v w' β' Z' hn hv hq=>?_;have lk:∀k p,β' k=some p→k<(S (j+1)).bs.length:=fun k p hp=>hn.sim.dom k p.1 p.2 hp
    have Fv:∀k p,k<(S j).bs.length→β' k=some p→∃q,β k=some q:=by
     intro k p hk hp
     cases hβ:β k with
     |some q=>exact⟨q,rfl⟩
     |none=>
      have:=(hn.u7 k hk (by simp only[if_pos hk];exact hβ)).1;rw[hp] at this;cases this
    have same:∀k p,β' k=some p→(S (j+1)).bs[k]?=some (Hs S (eC pv ops F S j (j+1) sg) k):=by
     intro k p hp;have nx:=lk k p hp
     by_cases hc:dM pv ops F j∨(S j).bs.length≤k
     ·have kV:eC pv ops F S j (j+1) sg k=j+1:=by simp only[eC];rw[if_pos ⟨nx,hc⟩]
      simp only[Hs,kV];rw[List.getElem?_eq_getElem nx];rfl
     ·have kV:eC pv ops F S j (j+1) sg k=sg k:=by simp only[eC];rw[if_neg fun h'=>hc h'.2]
      have hk:k<(S j).bs.length:=by
       rcases Nat.lt_or_ge k (S j).bs.length with h'|h'
       ·exact h'
       ·exact absurd (.inr h') hc
      obtain⟨q,Al⟩:=Fv k p hk hp;have:=(lS dO ht j vE).2 (fun h'=>hc (.inl h')) k hk;rw[this,(sb k q Al hk).2.2];simp only[Hs,kV]
    refine hK _ _ _ _ _ (h.put dO ht hj ho (gH E j) qJ rR OQ h0.ro hn rfl rfl rfl hv JW (Nat.le_refl _) (by omega) (fun i h1 h2=>?_) (.inl rfl) (fun k p hp=>by simp only[St.aq,same k p hp,Option.bind_some]) (fun k b base hp _=>hn.sim.box k b base _ hp (same k _ hp)) (fun hne=>hq ?_) fun _=>⟨rfl,rfl⟩)
    ·rcases Nat.lt_or_ge j i with h'|h'
     ·obtain⟨x,p1,p2,_⟩:=h2;have:=C2 i x h' p1 (by simp[jx,p2,AX,oi]);rw[this] at h1;cases h1
     ·omega
    ·cases he:eA pv o with
     |false=>rfl
     |true=>exact absurd ⟨o,ho,he,by rw[JZ];exact hw⟩ hne
 ·have KA:=hw;rw[JZ] at hw;rw[oz (hG _ (fR _ _ _) yZ) hw];simp only[Bool.false_eq_true,if_false]
  have hne:¬dM pv ops F j:=by
   rintro⟨o',h1,_,h3⟩;rw[ho] at h1;cases h1;rw[KA] at h3;cases h3
  exact hollow (tt (S j) β (Hs S sg)) _ w _ Z undef (fR _ _ _) rfl yZ hne (.inl ⟨hs,rfl⟩) (Nx.same OV) (by rw[hd];exact .im _ _ (.tup [] [] rfl (by simp))) (Quiet.refl _)
end
end Go.V
namespace Go.V
open Go.RowKit
theorem count_set:∀(l:List Bool) (i:Nat),l[i]?=some false→(l.set i true).count false+1=l.count false
 |[],i,h=>by simp at h
 |b::l,0,h=>by simp at h;subst h;simp
 |b::l,i+1,h=>by
  have:=count_set l i (by simpa using h);simp only[List.set_cons_succ,List.count_cons];omega
theorem xP {l:List Bool} (h:l.count false=0) (i:Nat) (hi:i<l.length):l[i]?=some true:=by
 rw[List.count_eq_zero] at h;rw[List.getElem?_eq_getElem hi]
 cases hb:l[i] with
 |true=>rfl
 |false=>exact absurd (hb▸List.getElem_mem hi) h
section
variable{pv:Pv} {P:Program} (ok:pv.Ok P) {cf:dJ} (dO:gO P pv cf) {ops:Array Oper} {F:Nat→Fr} {S:Nat→St} {dd:Nat→D} (ht:Trace pv cf ops ops.toList F S dd) {dy:List (Nat×Nat)} (me:jN pv ops dy=true) (iJ:Still dy ops F S)
include dO ht
theorem DI.start {a:Act} {w:World} {β:Nat→Option (Nat×Nat)} {Z:Nat→Prop} (h:fm w (S 0) β Z) (hf:mG w ((S 0).x β Z) (F 0) a.tmps) {E:Nat→Bool} (hE:∀k,E k=false):DI pv ops F S dd a w β Z E a w β Z (fun _=>0):=by
 have ne:∀{k:Nat},E k=true→False:=fun hk=>by rw[hE] at hk;cases hk
 have kp:∀m,m≤ops.size→cM w ((S 0).x β Z) w (Xm S (fun _=>0) β Z m):=by
  intro m hm;have hl:=(cp dO ht m 0 (by omega) hm).len
  have key:∀k p,β k=some p→(Xm S (fun _=>0) β Z m).β k=some p:=by
   intro k p hp;have:=h.dom k p.1 p.2 hp;simp only[Xm];rw[if_pos (by omega)];exact hp
  refine⟨fun k p hp=>⟨p,key k p hp⟩,fun b hb=>⟨hb,rfl⟩,fun k c p hp hc=>⟨c,?_,Nat.le_refl _⟩,fun k c _ _ b base hb=>⟨key k _ hb,rfl⟩⟩;simp only[Xm,Hs] at hc;simp only[St.x,St.aq]
  cases hk:(S 0).bs[k]? with
  |none=>rw[hk] at hc;cases hc
  |some bx=>rw[hk] at hc;exact hc
 have lw:∀t,cX ops E t ops.size=none:=by
  intro t;have s:=eQ ops E t ops.size
  cases hl:cX ops E t ops.size with
  |none=>rfl
  |some j=>rw[hl] at s;exact(ne s.2.1).elim
 refine⟨rfl,rfl,fun k o hk=>(ne hk).elim,fun k hk=>(ne hk).elim,fun k p hp=>⟨h.dom k p.1 p.2 hp,Nat.zero_le _,.inl rfl⟩,fun k p hp i hi h1 h2=>?_,fun k p _ j hj=>(ne hj).elim,fun k _ j hj=>(ne hj).elim,h.lt,h.inj,h.zd,h.zl,fun k b base hb=>?_,fun t=>?_,zt.refl _ _,kp _ (Nat.le_refl _),
  fun k b base hb=>.inl ⟨base,hb⟩,fun b hb=>.inl hb,fun _ _=>rfl,fun _ _ h=>h⟩
 ·have h3:=h.dom k p.1 p.2 hp;have:=(cp dO ht i 0 (by omega) (by omega)).len;omega
 ·have hk:=h.dom k b base hb;refine(h.box k b base _ hb ?_).cD (kp 0 (Nat.zero_le _)) rfl;simp only[Hs];rw[List.getElem?_eq_getElem hk];rfl
 ·simp only[GV,val,lw t];exact(hf t).mono (kp 0 (Nat.zero_le _))
theorem DI.finish {a0 a:Act} {w0 w:World} {β0 β:Nat→Option (Nat×Nat)} {Z0 Z:Nat→Prop} {E:Nat→Bool} {sg:Nat→Nat} (h:DI pv ops F S dd a0 w0 β0 Z0 E a w β Z sg) (h0:fm w0 (S 0) β0 Z0) (hE:∀k,k<ops.size→E k=true):
  Nx w0 (S 0) β0 Z0 w (S ops.size) β Z∧mG w ((S ops.size).x β Z) (F ops.size) a.tmps:=by
 have hg:=cp dO ht ops.size 0 (Nat.zero_le _) (Nat.le_refl _)
 have NK:∀j,dM pv ops F j→j<ops.size:=by
  rintro j ⟨o,ho,_⟩
  rcases Nat.lt_or_ge j ops.size with h'|h'
  ·exact h'
  ·rw[Array.getElem?_eq_none h'] at ho;cases ho
 have wE:∀k p,β k=some p→k<(S ops.size).bs.length:=by
  intro k p hp;obtain⟨h1,h2,_⟩:=h.dom k p hp;exact Nat.lt_of_lt_of_le h1 (cp dO ht ops.size (sg k) h2 (Nat.le_refl _)).len
 have sb:∀k p,β k=some p→sg k≤ops.size∧Hs S sg k=((S ops.size).bs[k]?).getD .dead∧(S ops.size).bs[k]?=some (Hs S sg k):=fun k p hk=>
  uz dO ht h (Nat.le_refl _) (fun j hj _=>hE j hj) (fun j hj he=>by have:=NK j he;omega) hk (wE k p hk)
 have kx:∀m,m≤ops.size→cM w (Xm S sg β Z m) w ((S ops.size).x β Z):=by
  intro m hm
  have key:∀k p,(Xm S sg β Z m).β k=some p→β k=some p:=by
   intro k p hp;simp only[Xm] at hp
   split at hp
   ·exact hp
   ·cases hp
  refine⟨fun k p hp=>⟨p,key k p hp⟩,fun b hb=>⟨hb,rfl⟩,fun k c p hp hc=>⟨c,?_,Nat.le_refl _⟩,fun k c _ _ b base hb=>⟨key k _ hb,rfl⟩⟩;simp only[St.x,St.aq,(sb k p (key k p hp)).2.2,Option.bind_some] at hc;exact hc
 refine⟨⟨⟨fun k b base hb=>wE k _ hb,h.lt,h.inj,h.zd,h.zl,fun k b base bx hb fT=>?_,?_,?_⟩,h.keeps.trans (kx _ (Nat.le_refl _)),h.evo,h.fresh,h.zfresh,hg.len,hg.flr,hg.ro,fun k hk=>⟨hg.low k hk (Nat.lt_of_lt_of_le hk h0.ro),h.low k hk⟩,fun k hk Ap=>⟨h.u7 k hk Ap,?_⟩⟩,fun t=>?_⟩
 ·obtain⟨s1,_,s3⟩:=sb k _ hb;rw[s3] at fT;cases fT;exact(h.box k b base hb).cD (kx _ s1) rfl
 ·rw[hg.flr];exact Nat.le_trans h0.flr hg.len
 ·rw[hg.ro];exact Nat.le_trans h0.ro hg.len
 ·refine ij dO ht ops.size (Nat.zero_le _) (Nat.le_refl _) k hk fun q _ hq=>?_
  by_cases he:dM pv ops F q
  ·exact .inr (h.ph k (h.u7 k hk Ap) q (hE q hq) he (Nat.lt_of_lt_of_le hk (cp dO ht q 0 (by omega) (by omega)).len))
  ·exact .inl he
 ·have hl:cX ops E t ops.size=cX ops (fun _=>true) t ops.size:=pD fun i o h1 _=>⟨fun⟨hi,_⟩=>⟨hi,rfl⟩,fun⟨hi,_⟩=>⟨hi,hE i hi⟩⟩
  have hf:=h.frame t;have KE:=(mM ht t ops.size (Nat.le_refl _)).1;have s:=eQ ops (fun _=>true) t ops.size;simp only[val,GV,hl] at hf;rw[KE]
  cases hq:cX ops (fun _=>true) t ops.size with
  |none=>rw[hq] at hf;exact hf.mono (kx 0 (Nat.zero_le _))
  |some i=>rw[hq] at hf s;exact hf.mono (kx (i+1) s.1)
include ok me iJ
theorem DI.all {Q:Exit→Act→World→Prop} {a0:Act} {w0:World} {β0:Nat→Option (Nat×Nat)} {Z0:Nat→Prop} (h0:fm w0 (S 0) β0 Z0) (Cx:se ops.toList a0.tmps.size)
  (K:∀a' w' β' Z',Nx w0 (S 0) β0 Z0 w' (S ops.size) β' Z'→mG w' ((S ops.size).x β' Z') (F ops.size) a'.tmps→a'.defers=a0.defers→a'.tmps.size=a0.tmps.size→Q .normal a' w'):
  ∀(fuel:Nat) (listed:Array Bool) (a:Act) (w:World) (β:Nat→Option (Nat×Nat)) (Z:Nat→Prop) (sg:Nat→Nat),listed.size=ops.size→listed.toList.count false=fuel→
   DI pv ops F S dd a0 w0 β0 Z0 (fun k=>listed.getD k false) a w β Z sg→wpAny P .any ops Q fuel listed a w:=by
 have fin:∀(listed:Array Bool) (a:Act) (w:World) (β:Nat→Option (Nat×Nat)) (Z:Nat→Prop) (sg:Nat→Nat),DI pv ops F S dd a0 w0 β0 Z0 (fun k=>listed.getD k false) a w β Z sg→(∀k,k<ops.size→listed.getD k false=true)→Q .normal a w:=by
  intro listed a w β Z sg h bV;obtain⟨h1,h2⟩:=h.finish dO ht h0 bV;exact K a w β Z h1 h2 h.defers h.size
 intro fuel
 induction fuel with
 |zero=>
  intro listed a w β Z sg hsz hc h
  have bV:∀k,k<ops.size→listed.getD k false=true:=by
   intro k hk;have:=xP hc k (by simpa[hsz] using hk);rw[Array.getElem?_toList] at this;simp[Array.getD_eq_getD_getElem?,this]
  refine⟨?_,fin listed a w β Z sg h bV⟩;rw[List.eq_nil_iff_forall_not_mem];intro j hj;rw[mem_ready] at hj;obtain⟨h1,o,ho,_⟩:=hj;have vE:=(Array.getElem?_eq_some_iff.1 ho).1;have:=bV j vE;have jB:j<listed.size:=by omega
  simp only[Array.getD_eq_getD_getElem?,Array.getElem?_eq_getElem jB,Option.getD_some] at h1 this;rw[h1] at this;cases this
 |succ fuel ih=>
  intro listed a w β Z sg hsz hc h;refine⟨fun tv=>fin listed a w β Z sg h ?_,fun j hj=>?_⟩
  ·intro k
   induction k using Nat.strongRecOn with
   |_ k PN=>
    intro hk
    cases hb:listed.getD k false with
    |true=>rfl
    |false=>
     have nu:k<listed.size:=by omega
     have:k∈Region.ready .any ops listed:=by
      rw[mem_ready];refine⟨by simp only[Array.getD_eq_getD_getElem?,Array.getElem?_eq_getElem nu,Option.getD_some] at hb⊢;exact hb,ops[k],Array.getElem?_eq_getElem hk,fun e he hbd=>?_⟩;have hlt:=xc me (Array.getElem?_eq_getElem hk) (by simpa using he) hbd;exact PN e.on hlt (by omega)
     rw[tv] at this;cases this
  ·rw[mem_ready] at hj;obtain⟨h1,o,ho,h2⟩:=hj;have vE:=(Array.getElem?_eq_some_iff.1 ho).1;have jB:j<listed.size:=by omega
   have OM:listed[j]?=some false:=by
    simp only[Array.getD_eq_getD_getElem?,Array.getElem?_eq_getElem jB,Option.getD_some] at h1;rw[Array.getElem?_eq_getElem jB,h1]
   refine h.step ok dO ht me iJ h0 ho (by simp[Array.getD_eq_getD_getElem?,OM]) (fun e he hb=>h2 e (by simpa using he) hb) Cx fun a' w' β' Z' J8 h'=>ih _ a' w' β' Z' J8 (by simp[hsz]) ?_ ?_
   ·have:=count_set listed.toList j (by rw[Array.getElem?_toList];exact OM);rw[Array.toList_setIfInBounds];omega
   ·have he:(fun k=>(listed.setIfInBounds j true).getD k false)=x_ (fun k=>listed.getD k false) j:=by
     funext k
     by_cases iX:j=k
     ·subst iX;simp[x_,jB]
     ·rw[getD_set_ne false iX]
      have:Nat.beq k j=false:=by
       cases hb:Nat.beq k j with
       |false=>rfl
       |true=>exact absurd (Nat.eq_of_beq_eq_true hb).symm iX
      simp[x_,this]
    rw[he];exact h'
end
theorem zx {ops:Array Oper} {F:Nat→Fr} {S:Nat→St}:Still [] ops F S:=by
 intro r q y a k x hy ha hw hk hx FI Oi h1 h2
 rcases Nat.lt_trichotomy q r with h'|h'|h'
 ·have:=h1 h';simp[listed] at this
 ·subst h';rw[hx] at hy;cases hy;unfold Dl at FI;rw[ha] at FI;cases FI
 ·have:=h2 h';simp[listed] at this
theorem zM {pv:Pv} {cf:dJ} {ops:Array Oper} {dy:List (Nat×Nat)} {fr aw:Fr} {st ae:St} (h:uG pv cf ops dy fr st=some (aw,ae)):
  ∃(F:Nat→Fr) (S:Nat→St) (dd:Nat→D),F 0=fr∧S 0=st∧F ops.size=aw∧S ops.size=ae∧Trace pv cf ops ops.toList F S dd∧Still dy ops F S:=by
 unfold uG at h
 split at h
 ·obtain⟨F,S,dd,Gu,Gs,Gt,Gr,ht⟩:=trace ops.toList fr st aw ae h;rw[Array.length_toList] at Gt Gr;exact⟨F,S,dd,Gu,Gs,Gt,Gr,ht,zx⟩
 ·obtain⟨F,S,dd,Gu,Gs,Gt,Gr,ht,hl⟩:=A_ ops.toList 0 [] fr st aw ae rfl h;rw[Array.length_toList] at Gt Gr;exact⟨F,S,dd,Gu,Gs,Gt,Gr,ht,Bf hl⟩
theorem pk {pv:Pv} {cf:dJ} {ops:Array Oper} {dy:List (Nat×Nat)}:∀(l:List Oper) (j:Nat) (log:Log) (fr:Fr) (st:St) (r:Fr×St),oc pv cf ops dy j log l fr st=some r→gK pv cf ops l fr st=some r
 |[],j,log,fr,st,r,h=>by simpa only[oc,gK] using h
 |o::l,j,log,fr,st,r,h=>by
  simp only[oc] at h;simp only[gK]
  cases hw:au ops fr o with
  |none=>rw[hw] at h;cases h
  |some b=>
   rw[hw] at h
   cases b with
   |true=>
    simp only at h⊢
    cases fX:ek pv cf fr st o with
    |none=>rw[fX] at h;cases h
    |some q=>
     obtain⟨d,st1⟩:=q;rw[fX] at h;simp only at h⊢
     cases hc:CY dy j log o fr st st1 with
     |true=>rw[hc] at h;exact pk l _ _ _ _ _ h
     |false=>rw[hc] at h;cases h
   |false=>simp only at h⊢;exact pk l _ _ _ _ _ h
theorem uF {pv:Pv} {cf:dJ} {ops:Array Oper} {dy:List (Nat×Nat)} {fr:Fr} {st:St} {r:Fr×St} (h:uG pv cf ops dy fr st=some r):gK pv cf ops ops.toList fr st=some r:=by
 unfold uG at h
 split at h
 ·exact h
 ·exact pk _ _ _ _ _ _ h
theorem En {pv:Pv} {P:Program} (ok:pv.Ok P) {cf:dJ} (dO:gO P pv cf) {id:Nat} {ops:Array Oper} {dy:List (Nat×Nat)} (me:jN pv ops dy=true) {fr aw:Fr} {st ae:St} (hs:uG pv cf ops dy fr st=some (aw,ae))
  {w:World} {β:Nat→Option (Nat×Nat)} {Z:Nat→Prop} (h:fm w st β Z) {a:Act} (hf:mG w (st.x β Z) fr a.tmps) (hd:se ops.toList a.tmps.size) {Q:Exit→Act→World→Prop}
  (K:∀a' w' β' Z',Nx w st β Z w' ae β' Z'→mG w' (ae.x β' Z') aw a'.tmps→a'.defers=a.defers→a'.tmps.size=a.tmps.size→Q .normal a' w'):(Code.region id ops true).wp P Q a w:=by
 obtain⟨F,S,dd,Gu,Gs,Gt,Gr,ht,iJ⟩:=zM hs;refine wp_region_any ok.mixed ?_;have hn:Nx w st β Z {w with drawn:=w.drawn+1} st β Z:=Nx.still h rfl rfl rfl rfl;have h0:fm {w with drawn:=w.drawn+1} (S 0) β Z:=by rw[Gs];exact hn.sim
 have RA:mG {w with drawn:=w.drawn+1} ((S 0).x β Z) (F 0) a.tmps:=by rw[Gs,Gu];exact hf.mono hn.keeps
 refine DI.all ok dO ht me iJ h0 hd (fun a' w' β' Z' Co qK h1 h2=>?_) ops.size _ a _ β Z (fun _=>0) (by simp) (by simp) (DI.start dO ht h0 RA fun k=>?_)
 ·rw[Gr] at Co qK;rw[Gt] at qK;rw[Gs] at Co;exact K a' w' β' Z' (hn.trans Co) qK h1 h2
 ·simp only[Array.getD_eq_getD_getElem?,Array.getElem?_replicate]
  split<;>rfl
end Go.V
namespace Go.V
open Go.RowKit
def Out.ex:Out→Exit
 | .next=>.normal
 | .exit id=>.exit id
 | .ret=>.ret
def codeOk (pv:Pv) (dyn:List (Nat×List (Nat×Nat))) (n:Nat):Code→Bool
 | .region id ops d=>(ops.toList.all fun o=>match o.dst with|some t=>Nat.blt t n|none=>true) &&(!d||jN pv ops (fH id dyn))
 | .seq a b=>codeOk pv dyn n a &&codeOk pv dyn n b
 | .cond _ a b=>codeOk pv dyn n a &&codeOk pv dyn n b
 | .block _ c=>codeOk pv dyn n c
 | .loop c=>codeOk pv dyn n c
 |_=>true
theorem vR {l:List Oper} {n:Nat} (h:(l.all fun o=>match o.dst with|some t=>Nat.blt t n|none=>true)=true):se l n:=by
 intro o ho t hd;have:=List.all_eq_true.1 h o ho;rw[hd] at this;simp only at this;exact Nat.le_of_ble_eq_true this
theorem least (p:Nat→Prop):∀n,p n→∃m,p m∧∀k,p k→m≤k:=by
 intro n
 induction n using Nat.strongRecOn with
 |_ n ih=>
  intro hn
  by_cases h:∃k,k<n∧p k
  ·obtain⟨k,hk,hp⟩:=h;exact ih k hk hp
  ·refine⟨n,hn,fun k hk=>?_⟩
   rcases Nat.lt_or_ge k n with h'|h'
   ·exact absurd ⟨k,h',hk⟩ h
   ·exact h'
open Classical in
noncomputable def mu (p:Nat→Prop):Nat:=if h:∃m,p m∧∀k,p k→m≤k then Classical.choose h else 0
theorem yC {p:Nat→Prop} {n:Nat} (h:p n):p (mu p)∧∀k,p k→mu p≤k:=by
 have he:=least p n h;unfold mu;rw[dif_pos he];exact Classical.choose_spec he
theorem mr {w:World} {x:X} {fr:Fr} {tmps:Array Value} (h:mG w x fr tmps):mG w x fr.clean tmps:=by
 intro t;have:=h t;simp only[Fr.clean,Fr.get] at this⊢
 cases hb:Nat.ble fr.n t with
 |false=>rw[hb] at this;exact this
 |true=>exact .junk _ _ _
section
variable{pv:Pv} {P:Program} (ok:pv.Ok P) {cf:dJ} (dO:gO P pv cf)
include dO
theorem mV {ops:Array Oper}:∀{l:List Oper} {fr aw:Fr} {st ae:St},gK pv cf ops l fr st=some (aw,ae)→dq st ae
 |[],fr,aw,st,ae,h=>by simp only[gK] at h;cases h;exact .refl _
 |o::l,fr,aw,st,ae,h=>by
  simp only[gK] at h
  split at h
  ·split at h
   ·rename_i fX;exact(po dO fX).1.trans (mV h)
   ·cases h
  ·exact mV h
  ·cases h
omit dO in
theorem rQ {step:Fr→St→Option (Out×Fr×St)} (hs:∀fr st out aw ae,step fr st=some (out,aw,ae)→dq st ae):∀(m:Nat) {fr aw:Fr} {st ae:St} {out:Out},iter step m fr st=some (out,aw,ae)→dq st ae
 |0,_,_,_,_,_,h=>by cases h
 |m+1,fr,aw,st,ae,out,h=>by
  simp only[iter] at h
  split at h
  ·rename_i h1;exact(hs _ _ _ _ _ h1).trans (rQ hs m h)
  ·exact hs _ _ _ _ _ h
theorem nC (dyn:List (Nat×List (Nat×Nat))) (n:Nat):∀(c:Code) {fr aw:Fr} {st ae:St} {out:Out},bt pv cf dyn n c fr st=some (out,aw,ae)→dq st ae:=by
 intro c
 induction c with
 |skip=>intro fr aw st ae out h;simp only[bt] at h;cases h;exact .refl _
 |region id ops d=>
  intro fr aw st ae out h;simp only[bt] at h
  split at h
  ·rename_i fX;cases h;exact mV dO (uF fX)
  ·cases h
 |seq a b Dm FE=>
  intro fr aw st ae out h;simp only[bt] at h
  split at h
  ·rename_i h1;exact(Dm h1).trans (FE h)
  ·exact Dm h
 |cond c a b Dm FE=>
  intro fr aw st ae out h;simp only[bt] at h
  split at h
  ·exact Dm h
  ·exact FE h
  ·cases h
 |block id c ih=>
  intro fr aw st ae out h;simp only[bt] at h
  split at h
  ·rename_i h1
   split at h<;>cases h<;>exact ih h1
  ·exact ih h
 |loop c ih=>
  intro fr aw st ae out h;simp only[bt] at h;exact rQ (fun _ _ _ _ _=>ih) n h
 |exit id=>intro fr aw st ae out h;simp only[bt] at h;cases h;exact .refl _
 |ret=>intro fr aw st ae out h;simp only[bt] at h;cases h;exact .refl _
 |_=>intro fr aw st ae out h;simp only[bt] at h;cases h
include ok
theorem Et (dyn:List (Nat×List (Nat×Nat))) (n sz:Nat):∀(c:Code),codeOk pv dyn sz c=true→∀{fr aw:Fr} {st ae:St} {out:Out},bt pv cf dyn n c fr st=some (out,aw,ae)→
  ∀{w:World} {β:Nat→Option (Nat×Nat)} {Z:Nat→Prop} {a:Act} {Q:Exit→Act→World→Prop},fm w st β Z→mG w (st.x β Z) fr a.tmps→a.tmps.size=sz→
  (∀a' w' β' Z',Nx w st β Z w' ae β' Z'→mG w' (ae.x β' Z') aw a'.tmps→a'.defers=a.defers→a'.tmps.size=sz→Q out.ex a' w')→c.wp P Q a w:=by
 intro c
 induction c with
 |skip=>
  intro _ fr aw st ae out h w β Z a Q hs hf hz K;simp only[bt] at h;cases h;exact wp_skip (K a w β Z (Nx.same hs) hf rfl hz)
 |region id ops d=>
  intro hc fr aw st ae out h w β Z a Q hs hf hz K;simp only[bt] at h;simp only[codeOk,Bool.and_eq_true] at hc;have hd:=vR hc.1
  split at h
  ·rename_i Gy st1 fX;cases h
   cases d with
   |true=>
    have me:jN pv ops (fH id dyn)=true:=by simpa using hc.2
    exact En ok dO me fX hs (mr hf) (by rw[hz];exact hd) fun a' w' β' Z' h1 h2 h3 h4=>K a' w' β' Z' h1 h2 h3 (h4.trans hz)
   |false=>
    refine wp_region ?_;have:=xb ok dO (ops:=ops) (Q:=Q) ops.toList 0 _ _ st _ β Z a w (fun j=>by simp) (uF fX) hs (mr hf) (by rw[hz];exact hd) fun a' w' β' Z' h1 h2 h3 h4=>K a' w' β' Z' h1 h2 h3 (h4.trans hz);rw[List.range_eq_range']
    simpa using this
  ·cases h
 |seq x y JI Kt=>
  intro hc fr aw st ae out h w β Z a Q hs hf hz K;simp only[codeOk,Bool.and_eq_true] at hc;simp only[bt] at h;refine wp_seq ?_
  split at h
  ·rename_i Gy st1 h1;refine JI hc.1 h1 hs hf hz fun a' w' β' Z' hn qK hd wy=>?_;exact Kt hc.2 h hn.sim qK wy fun Sh Hm qM Dt Co LM n3 Kv=>K Sh Hm qM Dt (hn.trans Co) LM (n3.trans hd) Kv
  ·rename_i hne;refine JI hc.1 h hs hf hz fun a' w' β' Z' hn qK hd wy=>?_;have hK:=K a' w' β' Z' hn qK hd wy
   cases out with
   |next=>exact(hne _ _ h).elim
   |exit id=>exact hK
   |ret=>exact hK
 |cond c x y JI Kt=>
  intro hc fr aw st ae out h w β Z a Q hs hf hz K;simp only[codeOk,Bool.and_eq_true] at hc;simp only[bt] at h;have hv:=r_ hf c
  split at h
  ·rename_i hb;rw[hb] at hv;exact wp_cond_true (dB hv) (JI hc.1 h hs hf hz K)
  ·rename_i hb;rw[hb] at hv;exact wp_cond_false (dB hv) (Kt hc.2 h hs hf hz K)
  ·cases h
 |block id c ih=>
  intro hc fr aw st ae out h w β Z a Q hs hf hz K;simp only[codeOk] at hc;simp only[bt] at h;refine wp_block ?_
  split at h
  ·rename_i i Gy st1 h1;refine ih hc h1 hs hf hz fun a' w' β' Z' hn qK hd wy=>?_;simp only[Out.ex,Exit.inBlock]
   split at h
   ·rename_i hi;cases h;rw[if_pos hi];exact K a' w' β' Z' hn qK hd wy
   ·rename_i hi;cases h;rw[if_neg hi];exact K a' w' β' Z' hn qK hd wy
  ·rename_i hne;refine ih hc h hs hf hz fun a' w' β' Z' hn qK hd wy=>?_;have hK:=K a' w' β' Z' hn qK hd wy
   cases out with
   |next=>exact hK
   |exit id=>exact(hne _ _ _ h).elim
   |ret=>exact hK
 |loop c ih=>
  intro hc fr aw st ae out h w β Z a Q hs hf hz K;simp only[codeOk] at hc;simp only[bt] at h
  let J:Nat→Act→World→Prop:=fun m a1 w1=>∃Gy st1 β1 Z1,iter (bt pv cf dyn n c) m Gy st1=some (out,aw,ae)∧Nx w st β Z w1 st1 β1 Z1∧mG w1 (st1.x β1 Z1) Gy a1.tmps∧a1.defers=a.defers∧a1.tmps.size=sz
  refine wp_loop (fun a1 w1=>∃m,J m a1 w1) (fun a1 w1=>mu fun m=>J m a1 w1) ⟨n,fr,st,β,Z,h,Nx.same hs,hf,rfl,hz⟩ ?_;rintro a1 w1 ⟨m0,mJ⟩;obtain⟨⟨Gy,st1,β1,Z1,h1,tV,Hd,rU,hz1⟩,_⟩:=yC (p:=fun m=>J m a1 w1) mJ;generalize S0:mu (fun m=>J m a1 w1)=m at h1
  cases m with
  |zero=>cases h1
  |succ m=>
   simp only[iter] at h1
   split at h1
   ·rename_i Gx st2 h2;refine ih hc h2 tV.sim (mr Hd) hz1 fun a' w' β' Z' hn qK hd wy=>?_
    have hJ:J m a' w':=⟨Gx,st2,β',Z',h1,tV.trans hn,qK,hd.trans rU,wy⟩
    have:=(yC (p:=fun m=>J m a' w') hJ).2 m hJ;exact⟨⟨m,hJ⟩,by omega⟩
   ·rename_i hne;refine ih hc h1 tV.sim (mr Hd) hz1 fun a' w' β' Z' hn qK hd wy=>?_;have hK:=K a' w' β' Z' (tV.trans hn) qK (hd.trans rU) wy
    cases out with
    |next=>exact(hne _ _ h1).elim
    |exit id=>exact hK
    |ret=>exact hK
 |exit id=>
  intro _ fr aw st ae out h w β Z a Q hs hf hz K;simp only[bt] at h;cases h;exact wp_exit (K a w β Z (Nx.same hs) hf rfl hz)
 |ret=>
  intro _ fr aw st ae out h w β Z a Q hs hf hz K;simp only[bt] at h;cases h;exact wp_ret (K a w β Z (Nx.same hs) hf rfl hz)
 |_=>intro _ fr aw st ae out h;simp only[bt] at h;cases h
end
end Go.V
namespace Go.V
open Go.RowKit
def xM (N:Nat) (β:Nat→Option (Nat×Nat)):Nat→Option (Nat×Nat):=fun k=>if k<N then β k else none
def mh (N:Nat) (β:Nat→Option (Nat×Nat)) (Z:Nat→Prop):Nat→Prop:=fun b=>Z b∨∃k base,N≤k∧β k=some (b,base)
theorem VR.cut {w:World} {x x':X} {N:Nat} (hβ:∀k,k<N→x'.β k=x.β k) (hv:∀k,k<N→x'.aq k=x.aq k) (hZ:∀b,x.Z b→x'.Z b) {d:D} {v:Value} (h:VR w x d v):d.ref≤N→VR w x' d v:=by
 induction h with
 |im d v h=>intro _;exact .im d v (h.mono fun b hb=>⟨hZ b hb,rfl⟩)
 |win k vr off len s a cap hc hk hm h=>
  intro hr;simp only[D.ref] at hr;exact .win k vr off len s a cap hc (by rw[hβ k hr];exact hk) (by rw[hv k hr];exact hm) (by rw[hv k hr,hβ k hr];exact h)
 |ptr k vr off a hk hm h=>
  intro hr;simp only[D.ref] at hr;exact .ptr k vr off a (by rw[hβ k hr];exact hk) (by rw[hv k hr];exact hm) (by rw[hv k hr,hβ k hr];exact h)
 |mp k r hk h=>
  intro hr;simp only[D.ref] at hr;exact .mp k r (by rw[hβ k hr];exact hk) (by rw[hv k hr,hβ k hr];exact h)
 |fn f cs vs hl hr ih=>intro hN;simp only[D.ref] at hN;exact .fn f cs vs hl fun i c v hc hv=>ih i c v hc hv (Nat.le_trans (bo (List.mem_of_getElem? hc)) hN)
 |agg cs vs hl h1 hr ih=>intro hN;simp only[D.ref] at hN;exact .agg cs vs hl h1 fun i c v hc hv=>ih i c v hc hv (Nat.le_trans (bo (List.mem_of_getElem? hc)) hN)
 |tup cs vs hl hr ih=>intro hN;simp only[D.ref] at hN;exact .tup cs vs hl fun i c v hc hv=>ih i c v hc hv (Nat.le_trans (bo (List.mem_of_getElem? hc)) hN)
theorem jH {N:Nat} {cs:List D} {vs:List Value} (hl:cs.length=vs.length) (h:∀(i:Nat) c v,cs[i]?=some c→vs[i]?=some v→c.ref≤N):refs cs≤N:=by
 refine oF fun d hd=>?_;obtain⟨i,hi⟩:=List.getElem?_of_mem hd;have hlt:=eP hi;exact h i d _ hi (List.getElem?_eq_getElem (by omega))
theorem IR.ref {w:World} {Z:Nat→Prop} {d:D} {v:Value} (h:IR w Z d v):d.ref≤0:=by
 induction h with
 |agg cs vs hl h1 hr ih=>simp only[D.ref];exact jH hl ih
 |tup cs vs hl hr ih=>simp only[D.ref];exact jH hl ih
 |_=>simp[D.ref]
theorem VR.ref {w:World} {x:X} {N:Nat} (hd:∀k p,x.β k=some p→k<N) {d:D} {v:Value} (h:VR w x d v):d.ref≤N:=by
 induction h with
 |im d v h=>exact Nat.le_trans h.ref (Nat.zero_le _)
 |win k vr off len s a cap hc hk hm h=>obtain⟨p,hp⟩:=hk;simp only[D.ref];exact hd k p hp
 |ptr k vr off a hk hm h=>obtain⟨p,hp⟩:=hk;simp only[D.ref];exact hd k p hp
 |mp k r hk h=>obtain⟨p,hp⟩:=hk;simp only[D.ref];exact hd k p hp
 |fn f cs vs hl hr ih=>simp only[D.ref];exact jH hl ih
 |agg cs vs hl h1 hr ih=>simp only[D.ref];exact jH hl ih
 |tup cs vs hl hr ih=>simp only[D.ref];exact jH hl ih
theorem jQ {f:D→Option D}:∀{ds xs:List D},eG f ds=some xs→xs.length=ds.length∧∀(i:Nat) x,xs[i]?=some x→∃d,ds[i]?=some d∧f d=some x
 |[],xs,h=>by simp only[eG] at h;cases h;exact⟨rfl,fun i x hx=>by simp at hx⟩
 |d::ds,xs,h=>by
  simp only[eG] at h
  split at h
  ·rename_i y hy
   split at h
   ·rename_i ys jh;cases h;obtain⟨h1,h2⟩:=jQ jh;refine⟨by simp[h1],fun i x hx=>?_⟩
    cases i with
    |zero=>simp at hx;subst hx;exact⟨d,rfl,hy⟩
    |succ i=>simpa using h2 i x (by simpa using hx)
   ·cases h
  ·cases h
theorem sm (s:Nat):∀(n:Nat) (c:List D),(chunk s n c).length=n
 |0,_=>rfl
 |n+1,c=>by simp only[chunk,List.length_cons,sm s n]
theorem sn (s:Nat):∀(n:Nat) (c:List D) (i:Nat) (e:D),n*s≤c.length→(∀x∈c,x.cells?=some [x]∧x.cells=[x])→(chunk s n c)[i]?=some e→
  e.cells?=some e.cells∧e.cells.length=s∧∀(j:Nat) y,e.cells[j]?=some y→c[i*s+j]?=some y
 |0,_,i,e,_,_,h=>by simp[chunk] at h
 |n+1,c,i+1,e,hl,h1,h=>by
  simp only[chunk,List.getElem?_cons_succ] at h;have hs:n*s+s≤c.length:=by rw[Nat.succ_mul] at hl;exact hl
  obtain⟨q1,q2,q3⟩:=sn s n (c.drop s) i e (by simp;omega) (fun x hx=>h1 x (List.mem_of_mem_drop hx)) h;refine⟨q1,q2,fun j y hy=>?_⟩;have:=q3 j y hy;rw[List.getElem?_drop] at this;rw[Nat.succ_mul,←this];congr 1;omega
 |n+1,c,0,e,hl,h1,h=>by
  have hs:s≤c.length:=by rw[Nat.succ_mul] at hl;omega
  simp only[chunk,List.getElem?_cons_zero,Option.some.injEq] at h
  split at h
  ·cases c with
   |nil=>simp at hs
   |cons x c=>
    simp only[List.headD_cons] at h;subst h;obtain⟨q1,q2⟩:=h1 x (List.mem_cons_self ..);refine⟨by rw[q1,q2],by rw[q2];rfl,fun j y hy=>?_⟩;rw[q2] at hy
    cases j with
    |zero=>simpa using hy
    |succ j=>simp at hy
  ·subst h;refine⟨rfl,by simp[D.cells];omega,fun j y hy=>?_⟩;simp only[D.cells] at hy;rw[List.getElem?_take] at hy
   split at hy
   ·simpa using hy
   ·cases hy
theorem w6 {st:St} {N n:Nat} {d x:D} (h:cH st N n d=some x):(∃cs,x=.agg cs)∨(x.cells?=some [x]∧x.cells=[x]):=by
 cases n with
 |zero=>cases h
 |succ n=>
  cases d<;>simp only[cH] at h<;>first|(cases h;done)|(cases h;exact .inr ⟨rfl,rfl⟩)|skip
  case win k aq off len sz=>
   split at h
   ·cases h
   ·obtain⟨⟨a,c⟩,_,h⟩:=Option.bind_eq_some_iff.1 h;dsimp only at h
    split at h
    ·obtain⟨r,_,hr⟩:=Option.map_eq_some_iff.1 h;cases hr;exact .inr ⟨rfl,rfl⟩
    ·cases h
  case agg cs=>
   obtain⟨r,_,hr⟩:=Option.map_eq_some_iff.1 h;cases hr;exact .inl ⟨_,rfl⟩
theorem DN {w:World} {st:St} {β:Nat→Option (Nat×Nat)} {Z:Nat→Prop} (h:fm w st β Z) (N:Nat):∀(n:Nat) {d d':D} {v:Value},cH st N n d=some d'→VR w (st.x β Z) d v→IR w (mh N β Z) d' v:=by
 have up:∀{d:D} {v:Value},IR w Z d v→IR w (mh N β Z) d v:=fun hi=>hi.mono fun b hb=>⟨.inl hb,rfl⟩
 intro n
 induction n with
 |zero=>intro d d' v hp;cases hp
 |succ n ih=>
  intro d d' v hp hv;cases d<;>simp only[cH] at hp<;>try(cases hp;done)
  case bool b=>cases hp;rw[dB hv];exact .bool b
  case int k i=>cases hp;rw[bW hv];exact .int k i
  case str s=>cases hp;rw[eM hv];exact .str s
  case nul=>cases hp;rw[dS hv];exact .emp none 0
  case sl es=>cases hp;cases hv with|im _ _ hi=>exact up hi
  case pnil=>cases hp;rw[gf hv];exact .pnil
  case nilfn=>cases hp;cases hv with|im _ _ hi=>exact up hi
  case nilif=>cases hp;cases hv with|im _ _ hi=>exact up hi
  case agg cs=>
   obtain⟨xs,hx,hr⟩:=Option.map_eq_some_iff.1 hp;cases hr;obtain⟨vs,rfl,hl,h1,h2⟩:=fU hv;obtain⟨g1,g2⟩:=jQ hx;refine .agg xs vs (g1.trans hl) h1 fun i c u hc hu=>?_;obtain⟨d,rU,A1⟩:=g2 i c hc;exact ih A1 (h2 i d u rU hu)
  case win k aq off len s=>
   split at hp
   ·cases hp
   ·rename_i Ha;obtain⟨⟨ar,c⟩,hm,hp⟩:=Option.bind_eq_some_iff.1 hp;dsimp only at hp
    split at hp
    ·rename_i jX;obtain⟨xs,hx,hr⟩:=Option.map_eq_some_iff.1 hp;cases hr;obtain⟨a,cap,rfl,QU,_,_,h_⟩:=dR hv;obtain⟨b,base,sz,hb,_,iC⟩:=h_ (cn hm).2;have cO:bM w (st.x β Z) b (base+off) ((c.drop off).take (len*s)):=((h.cells hm hb).drop off).take _;obtain⟨g1,g2⟩:=jQ hx;have hlen:xs.length=len*s:=by rw[g1];simp;omega
     have hcell:∀(j:Nat) y,xs[j]?=some y→∃u,w.cell? ⟨b,base+off+j,none⟩=some u∧u.oneCell'=true∧IR w (mh N β Z) y u:=by
      intro j y hy;obtain⟨d,rU,A1⟩:=g2 j y hy;obtain⟨u,gI,jA,np⟩:=cO j d rU;exact⟨u,gI,jA,ih A1 np⟩
     have fY:∀x∈xs,x.cells?=some [x]∧x.cells=[x]:=by
      intro x PS;obtain⟨j,hj⟩:=List.getElem?_of_mem PS;obtain⟨d,_,A1⟩:=g2 j x hj;obtain⟨u,_,jA,np⟩:=hcell j x hj
      rcases w6 A1 with⟨cs,rfl⟩|h'
      ·cases np;simp[Value.oneCell'] at jA
      ·exact h'
     rcases iC with rfl|⟨rfl,_⟩
     ·have:len=0:=by omega
      subst this;exact .emp (some a) 0
     ·have hcl:=sm s len xs;have hg:=fun i e=>sn s len xs i e (by omega) fY;have key:∀(i:Nat) e (j:Nat) y,(chunk s len xs)[i]?=some e→e.cells[j]?=some y→∃u,w.cell? ⟨b,base+off+(i*s+j),none⟩=some u∧u.oneCell'=true∧IR w (mh N β Z) y u:=fun i e j y he hy=>hcell _ y ((hg i e he).2.2 j y hy);have:=IR.sl (w:=w) (Z:=mh N β Z) (chunk s len xs) b (base+off) cap s (fun i j=>(w.cell? ⟨b,base+off+(i*s+j),none⟩).getD undef) (.inr ⟨k,base,by omega,hb⟩) (by omega)
       (fun i e he=>⟨(hg i e he).1,(hg i e he).2.1⟩)
       (fun i e j y he hy=>by obtain⟨u,gI,jA,_⟩:=key i e j y he hy;rw[gI];exact⟨rfl,jA⟩)
       (fun i e j y he hy=>by obtain⟨u,gI,_,np⟩:=key i e j y he hy;rw[gI];exact np)
      rw[hcl] at this;exact this
    ·cases hp
theorem AA {w:World} {st:St} {β:Nat→Option (Nat×Nat)} {Z:Nat→Prop} (h:fm w st β Z) {N:Nat} {x':X} (hβ:∀k,k<N→x'.β k=β k) (EN:∀k,k<N→x'.aq k=st.aq k) (hZ:x'.Z=mh N β Z) (kn:Bool):
  ∀(n:Nat) {d d':D} {v:Value},aO st N kn n d=some d'→VR w (st.x β Z) d v→VR w x' d' v:=by
 have cut:∀{d:D} {v:Value},VR w (st.x β Z) d v→d.ref≤N→VR w x' d v:=fun hv hr=>hv.cut hβ EN (fun b hb=>by rw[hZ];exact .inl hb) hr;have im:∀{d:D} {v:Value},IR w (mh N β Z) d v→VR w x' d v:=fun hi=>.im _ _ (by rw[hZ];exact hi);intro n
 induction n with
 |zero=>intro d d' v hp;cases hp
 |succ n ih=>
  intro d d' v hp hv
  cases d<;>simp only[aO] at hp<;>first|(cases hp;exact cut hv (by simp[D.ref]))|skip
  case nul=>
   cases hp
   cases kn with
   |true=>exact cut hv (by simp[D.ref])
   |false=>rw[dS hv];exact im (.emp none 0)
  case win k aq off len s=>
   split at hp
   ·rename_i hk;cases hp;exact cut hv (by simp only[D.ref];omega)
   ·exact im (DN h N n hp hv)
  case ptr k aq off=>
   split at hp
   ·rename_i hk;cases hp;exact cut hv (by simp only[D.ref];omega)
   ·cases hp
  case mp k=>
   split at hp
   ·rename_i hk;cases hp;exact cut hv (by simp only[D.ref];omega)
   ·cases hp
  case fn f gm=>
   split at hp
   ·rename_i hk;cases hp;exact cut hv (by simp only[D.ref];exact hk)
   ·cases hp
  case agg cs=>
   obtain⟨xs,hx,hr⟩:=Option.map_eq_some_iff.1 hp;cases hr;obtain⟨vs,rfl,hl,h1,h2⟩:=fU hv;obtain⟨g1,g2⟩:=jQ hx;refine .agg xs vs (g1.trans hl) h1 fun i c u hc hu=>?_;obtain⟨d,rU,A1⟩:=g2 i c hc;exact ih A1 (h2 i d u rU hu)
  case tup cs=>
   obtain⟨xs,hx,hr⟩:=Option.map_eq_some_iff.1 hp;cases hr;obtain⟨vs,rfl,hl,h2⟩:=sC hv;obtain⟨g1,g2⟩:=jQ hx;refine .tup xs vs (g1.trans hl) fun i c u hc hu=>?_;obtain⟨d,rU,A1⟩:=g2 i c hc;exact ih A1 (h2 i d u rU hu)
theorem bu (m:Mode) (st:St):(enterSt m st).bs=st.bs:=by cases m<;>rfl
theorem AE {w:World} {st:St} {β:Nat→Option (Nat×Nat)} {Z:Nat→Prop} (h:fm w st β Z) (m:Mode):fm w (enterSt m st) β Z:=by
 refine⟨fun k b base hk=>by rw[bu];exact h.dom k b base hk,h.lt,h.inj,h.zd,h.zl,fun k b base bx hb fT=>?_,?_,?_⟩
 ·rw[bu] at fT;have:(enterSt m st).x β Z=st.x β Z:=by simp only[St.x];congr 1;funext k;simp only[St.aq,bu]
  rw[this];exact h.box k b base bx hb fT
 ·rw[bu];cases m<;>first|exact Nat.le_refl _|exact h.flr
 ·rw[bu];cases m<;>first|exact Nat.le_refl _|exact h.ro
theorem B4 {w w':World} {st st1 ae:St} {β β':Nat→Option (Nat×Nat)} {Z Z':Nat→Prop} (h:fm w st β Z) (m:Mode) (kn:Bool) (hn:Nx w (enterSt m st) β Z w' st1 β' Z') (hg:dq (enterSt m st) st1) {d d':D} {v:Value} (hv:VR w' (st1.x β' Z') d v)
  (hl:b8 m kn st st1 d=some (d',ae)):∃qM Dt,Nx w st β Z w' ae qM Dt∧VR w' (ae.x qM Dt) d' v:=by
 by_cases hm:m=.cD
 ·subst hm;simp only[b8] at hl;cases hl;exact⟨β',Z',hn,hv⟩
 by_cases hw:m=.nw
 ·subst hw;simp only[b8] at hl;cases hl;have hx0:(enterSt .nw st).x β Z=st.x β Z:=by simp only[St.x];congr 1
  have hx1:(⟨st1.bs,st.flr,st.ro⟩:St).x β' Z'=st1.x β' Z':=by simp only[St.x];congr 1
  have hlen:st.bs.length≤st1.bs.length:=hn.len
  refine⟨β',Z',⟨⟨hn.sim.dom,hn.sim.lt,hn.sim.inj,hn.sim.zd,hn.sim.zl,fun k b base bx hb fT=>by rw[hx1];exact hn.sim.box k b base bx hb fT,Nat.le_trans h.flr hlen,Nat.le_trans h.ro hlen⟩,by rw[hx1,←hx0];exact hn.keeps,
   hn.evo.mono fun b hb=>?_,hn.fresh,hn.zfresh,hlen,rfl,rfl,fun k hk=>hn.low k (Nat.lt_of_lt_of_le hk h.ro),fun k hk h0=>hn.u7 k hk h0⟩,by rw[hx1];exact hv⟩
  obtain⟨k,base,h1,h2⟩:=hb;exact⟨k,base,h1,Nat.le_trans h.ro h2⟩
 have hl:∃dd,aO st1 st.bs.length kn 16 d=some dd∧d'=dd∧ae=⟨st1.bs.take st.bs.length,st.flr,st.ro⟩:=by
  cases m<;>first|exact absurd rfl hm|exact absurd rfl hw|skip
  all_goals
   simp only[b8] at hl
   split at hl
   ·rename_i dd hf;cases hl;exact⟨_,hf,rfl,rfl⟩
   ·cases hl
 obtain⟨dd,hf,rfl,rfl⟩:=hl
 have Gg:(enterSt m st).flr=st.bs.length:=by cases m<;>first|rfl|exact absurd rfl hm|exact absurd rfl hw
 have ft:st.ro≤(enterSt m st).ro:=by cases m<;>first|exact Nat.le_refl _|exact h.ro
 have hlen:st.bs.length≤st1.bs.length:=by have:=hn.len;rw[bu] at this;exact this
 have hb:∀k,k<st.bs.length→(st1.bs.take st.bs.length)[k]?=st1.bs[k]?:=fun k hk=>by rw[List.getElem?_take,if_pos hk]
 have hx:(enterSt m st).x β Z=st.x β Z:=by simp only[St.x];congr 1;funext k;simp only[St.aq,bu]
 have EN:∀k,k<st.bs.length→(⟨st1.bs.take st.bs.length,st.flr,st.ro⟩:St).aq k=st1.aq k:=fun k hk=>by simp only[St.aq,hb k hk]
 have hβ:∀k,k<st.bs.length→xM st.bs.length β' k=β' k:=fun k hk=>by simp only[xM,if_pos hk]
 have xv:∀k p,xM st.bs.length β' k=some p→k<st.bs.length∧β' k=some p:=by
  intro k p hp;simp only[xM] at hp
  split at hp
  ·exact⟨by assumption,hp⟩
  ·cases hp
 refine⟨xM st.bs.length β',mh st.bs.length β' Z',⟨⟨fun k b base hk=>?_,fun k b base hk=>hn.sim.lt k b base (xv k _ hk).2,fun k k' b y y' h1 h2=>hn.sim.inj k k' b y y' (xv k _ h1).2 (xv k' _ h2).2,?_,?_,?_,?_,?_⟩,?_,?_,?_,?_,?_,rfl,rfl,?_,?_⟩,?_⟩
 ·have:=(xv k _ hk).1;simp;omega
 ·intro k b base hk hz;obtain⟨h1,h2⟩:=xv k _ hk
  rcases hz with hz|⟨k2,zp,h3,h4⟩
  ·exact hn.sim.zd k b base h2 hz
  ·have:=hn.sim.inj k k2 b _ _ h2 h4;omega
 ·rintro b (hz|⟨k2,zp,_,h4⟩)
  ·exact hn.sim.zl b hz
  ·exact hn.sim.lt k2 b zp h4
 ·intro k b base bx hk fT;obtain⟨h1,h2⟩:=xv k _ hk;simp only at fT;rw[hb k h1] at fT;have Ar:=hn.sim.box k b base bx h2 fT
  have Ku:∃p,β k=some p:=by
   cases hq:β k with
   |some p=>exact⟨p,rfl⟩
   |none=>
    have:=(hn.u7 k (by rw[bu];exact h1) hq).1;rw[h2] at this;cases this
  obtain⟨p,hp⟩:=Ku
  cases bx with
  |mem vr ar cells=>
   obtain⟨c,el,fr,q1,q2,q3,q4⟩:=Ar;refine⟨c,el,fr,q1,q2,q3,fun j e he=>?_⟩;obtain⟨u,u1,u2,u3⟩:=q4 j e he;refine⟨u,u1,u2,u3.cut hβ EN (fun b hb=>show mh st.bs.length β' Z' b from .inl hb) ?_⟩;have h0:st.bs[k]?=some st.bs[k]:=List.getElem?_eq_getElem h1;have h5:=hg.fl k st.bs[k] _ (by rw[Gg];exact h1) (by rw[bu];exact h0) fT e (List.mem_of_getElem? he)
   have h6:refs (st.bs[k]).cells≤st.bs.length:=oF fun x hx=>by
    have E1:=h.box k p.1 p.2 _ hp h0
    cases hbk:st.bs[k] with
    |mem Sn Tj NQ=>
     rw[hbk] at E1 hx;obtain⟨_,_,_,_,_,_,r4⟩:=E1;obtain⟨i,hi⟩:=List.getElem?_of_mem hx;obtain⟨_,_,_,r7⟩:=r4 i x hi;exact r7.ref fun k p hp=>h.dom k p.1 p.2 hp
    |_=>rw[hbk] at hx;simp[gP.cells] at hx
   omega
  |iter s pos=>exact Ar
  |map e=>exact Ar
  |dead=>exact Ar
 ·have:=h.flr;simp;omega
 ·have:=h.ro;simp;omega
 ·have hk:=hn.keeps;rw[hx] at hk;refine⟨fun k p hp=>?_,fun b hb=>⟨.inl (hk.z b hb).1,(hk.z b hb).2⟩,fun k c p hp hc=>?_,fun k c hc xE b base hbb=>?_⟩
  ·obtain⟨p',pM⟩:=hk.dm k p hp;exact⟨p',by show xM st.bs.length β' k=some p';rw[hβ k (h.dom k p.1 p.2 hp)];exact pM⟩
  ·exact hk.aq k c p hp (by have:=EN k (h.dom k p.1 p.2 hp);show st1.aq k=some c;rw[←this];exact hc)
  ·have Ha:=h.dom k _ _ hbb;obtain⟨r1,r2⟩:=hk.at_ k c (by show st1.aq k=some c;rw[←EN k Ha];exact hc) xE b base hbb;exact⟨by show xM st.bs.length β' k=_;rw[hβ k Ha];exact r1,r2⟩
 ·exact hn.evo.mono fun b ⟨k,base,h1,h2⟩=>⟨k,base,h1,Nat.le_trans ft h2⟩
 ·intro k b base hk;exact hn.fresh k b base (xv k _ hk).2
 ·rintro b (hz|⟨k2,zp,h3,h4⟩)
  ·exact hn.zfresh b hz
  ·rcases hn.fresh k2 b zp h4 with⟨cu,h5⟩|h5
   ·have:=h.dom k2 b cu h5;omega
   ·exact .inr h5
 ·simp;omega
 ·intro k hk;have Ha:k<st.bs.length:=Nat.lt_of_lt_of_le hk h.ro;obtain⟨r1,r2⟩:=hn.low k (Nat.lt_of_lt_of_le hk ft);rw[bu] at r1;exact⟨by simp only;rw[hb k Ha];exact r1,by rw[hβ k Ha];exact r2⟩
 ·intro k hk Ap;obtain⟨r1,r2⟩:=hn.u7 k (by rw[bu];exact hk) Ap;rw[bu] at r2;exact⟨by rw[hβ k hk];exact r1,by simp only;rw[hb k hk];exact r2⟩
 ·exact AA hn.sim hβ EN rfl kn 16 hf hv
end Go.V
namespace Go.V
open Go.RowKit
theorem vV {pv:Pv} {dyn:List (Nat×List (Nat×Nat))} {n m:Nat} (F7:n≤m):∀(c:Code),codeOk pv dyn n c=true→codeOk pv dyn m c=true:=by
 intro c
 induction c with
 |region id ops d=>
  intro h;simp only[codeOk,Bool.and_eq_true] at h⊢;refine⟨List.all_eq_true.2 fun o ho=>?_,h.2⟩;have h1:=vR h.1 o ho
  cases hd:o.dst with
  |none=>rfl
  |some t=>exact Nat.ble_eq_true_of_le (Nat.le_trans (h1 t hd) F7)
 |seq a b Dm FE=>intro h;simp only[codeOk,Bool.and_eq_true] at h⊢;exact⟨Dm h.1,FE h.2⟩
 |cond c a b Dm FE=>intro h;simp only[codeOk,Bool.and_eq_true] at h⊢;exact⟨Dm h.1,FE h.2⟩
 |block id c ih=>intro h;simp only[codeOk] at h⊢;exact ih h
 |loop c ih=>intro h;simp only[codeOk] at h⊢;exact ih h
 |_=>intro h;rfl
def lp (tmps:Array Value):ResultVar→Sem Value
 | .tmp t=>pure (tmps.getD t undef)
 | .cell a t=>do loadVar t (←asAddr (tmps.getD a undef))
theorem wS (fn:Func) (tmps:Array Value):results fn tmps=(do let vs←fn.results.mapM (lp tmps);pure (if h:vs.size=1 then vs[0] else .tuple vs)):=rfl
theorem BU (d:D):∀(l:List D) (t:Nat),nth d l t=(l[t]?).getD d
 |[],t=>by simp[nth]
 |x::l,0=>rfl
 |x::l,t+1=>by simpa[nth] using BU d l t
theorem wT {pv:Pv} {P:Program} (ok:pv.Ok P) {w:World} {st:St} {β:Nat→Option (Nat×Nat)} {Z:Nat→Prop} (h:fm w st β Z) {fr:Fr} {tmps:Array Value} (hf:mG w (st.x β Z) fr tmps):∀(rs:List ResultVar) {ds:List D},iR pv fr st rs=some ds→
  ∃vs:List Value,(rs.mapM (lp tmps)).run P w=.ok vs w∧ds.length=vs.length∧∀(i:Nat) c u,ds[i]?=some c→vs[i]?=some u→VR w (st.x β Z) c u
 |[],ds,hr=>by simp only[iR] at hr;cases hr;exact⟨[],by simp,rfl,fun i c u hc=>by simp at hc⟩
 | .tmp t::l,ds,hr=>by
  simp only[iR] at hr;obtain⟨es,he,hr⟩:=Option.map_eq_some_iff.1 hr;cases hr;obtain⟨vs,h1,h2,h3⟩:=wT ok h hf l he;refine⟨tmps.getD t undef::vs,by simp only[List.mapM_cons,lp,Sem.run_bind,Sem.run_pure,Result.andThen_ok,h1],by simp[h2],fun i c u hc hu=>?_⟩
  cases i with
  |zero=>simp at hc hu;subst hc;rw[←hu];have:=hf t;simpa using this
  |succ i=>exact h3 i c u (by simpa using hc) (by simpa using hu)
 | .cell a t::l,ds,hr=>by
  simp only[iR] at hr;obtain⟨d,hd,hr⟩:=Option.bind_eq_some_iff.1 hr;obtain⟨es,he,hr⟩:=Option.map_eq_some_iff.1 hr;cases hr;obtain⟨vs,h1,h2,h3⟩:=wT ok h hf l he;have hv:=hf a
  have ju:∃z,(lp tmps (.cell a t)).run P w=.ok z w∧VR w (st.x β Z) d z:=by
   unfold eW at hd
   split at hd
   ·rename_i k aq off hg;rw[hg] at hv;obtain⟨⟨ar,c⟩,hm,hd⟩:=Option.bind_eq_some_iff.1 hd;obtain⟨p,hp,_,h_⟩:=bH hv;obtain⟨b,base,hb,rfl⟩:=h_ (cn hm).2;obtain⟨z,h1,h2⟩:=oB ok ((h.cells hm hb).drop off) hd;exact⟨z,by simp only[lp];rw[hp];simp[asAddr,h1],h2⟩
   ·rename_i c hg;rw[hg] at hv;obtain⟨b,off,hp,_,hc,_⟩:=oY hv;obtain⟨z,h1,h2⟩:=oB ok hc hd;exact⟨z,by simp only[lp];rw[hp];simp[asAddr,h1],h2⟩
   ·cases hd
  obtain⟨z,z1,z2⟩:=ju;refine⟨z::vs,by simp only[List.mapM_cons,Sem.run_bind,z1,Sem.run_pure,Result.andThen_ok,h1],by simp[h2],fun i c u hc hu=>?_⟩
  cases i with
  |zero=>simp at hc hu;subst hc;subst hu;exact z2
  |succ i=>exact h3 i c u (by simpa using hc) (by simpa using hu)
theorem wR {pv:Pv} {P:Program} (ok:pv.Ok P) {w:World} {st:St} {β:Nat→Option (Nat×Nat)} {Z:Nat→Prop} (h:fm w st β Z) {fr:Fr} {tmps:Array Value} (hf:mG w (st.x β Z) fr tmps) {fn:Func} {ds:List D} (hr:iR pv fr st fn.results.toList=some ds):
  ∃v,(results fn tmps).run P w=.ok v w∧VR w (st.x β Z) (lQ ds) v:=by
 obtain⟨vs,h1,h2,h3⟩:=wT ok h hf _ hr
 have tn:(fn.results.mapM (lp tmps)).run P w=.ok vs.toArray w:=by
  rw[Array.mapM_eq_mapM_toList,Sem.run_map,h1];rfl
 refine⟨if h:vs.toArray.size=1 then vs.toArray[0] else .tuple vs.toArray,?_,?_⟩
 ·rw[wS];simp only[Sem.run_bind];rw[tn];simp only[Result.andThen_ok,Sem.run_pure]
 ·match ds,vs,h2 with
  |[],[],_=>exact .tup [] [] rfl (by simp)
  |[d],[v],_=>exact h3 0 d v rfl rfl
  |d::e::l,u::v::l',h2=>
   rw[dif_neg (by simp)];exact .tup _ _ h2 h3
theorem Fq {w:World} {x:X} {args:List D} {us:List Value} {n m:Nat} (hl:args.length=us.length) (hr:∀(i:Nat) c v,args[i]?=some c→us[i]?=some v→VR w x c v):
  mG w x (pad n args) (us.toArray++Array.replicate m undef):=by
 intro t;simp only[pad,Fr.get]
 cases hb:Nat.ble n t with
 |true=>exact .junk _ _ _
 |false=>
  simp only;rw[BU];simp only[Array.getD_eq_getD_getElem?];rw[List.getElem?_append,Array.getElem?_append];simp only[List.size_toArray,List.getElem?_toArray]
  by_cases ht:t<args.length
  ·rw[if_pos ht,if_pos (by omega),List.getElem?_eq_getElem ht,List.getElem?_eq_getElem (by omega:t<us.length)];exact hr t _ _ (List.getElem?_eq_getElem ht) (List.getElem?_eq_getElem _)
  ·rw[if_neg ht,if_neg (by omega)]
   have hu:((Array.replicate m undef)[t-us.length]?).getD undef=undef:=by
    rw[Array.getElem?_replicate];split<;>rfl
   rw[hu];rw[List.getElem?_replicate]
   split
   ·exact .im _ _ (.tup [] [] rfl (by simp))
   ·exact .junk _ _ _
def Pv.jm (pv:Pv):Prop:=∀f x b,pv.fi f=some x→x.prim=none→x.fn.body=some b→codeOk pv x.dyn x.fn.ntmps b=true
def eF (pv:Pv):dJ:=fun f ds st=>match jS f pv.prm with
 |some p=>p ds st
 |none=>match pv.fi f with
 |some x=>match x.prim with
  |some p=>p ds st
  |none=>none
 |none=>none
theorem pC {m:Mode} {kn:Bool} {st st1 ae:St} {d d':D} (hg:dq (enterSt m st) st1) (hl:b8 m kn st st1 d=some (d',ae)):dq st ae∧(m=.ro∨m=.nw→mH st ae):=by
 by_cases hm:m=.cD
 ·subst hm;simp only[b8] at hl;cases hl;exact⟨hg,fun h=>by rcases h with h|h<;>cases h⟩
 by_cases hw:m=.nw
 ·subst hw;simp only[b8] at hl;cases hl;have hlen:st.bs.length≤st1.bs.length:=hg.len;have xz:∀k,k<st.bs.length→st1.bs[k]?=st.bs[k]?:=fun k hk=>hg.low k hk hk
  have:mH st ⟨st1.bs,st.flr,st.ro⟩:=by
   refine⟨st1.bs.drop st.bs.length,?_⟩
   congr 1
   apply List.ext_getElem?;intro k
   by_cases hk:k<st.bs.length
   ·rw[List.getElem?_append_left hk];exact xz k hk
   ·rw[List.getElem?_append_right (by omega),List.getElem?_drop];congr 1;omega
  exact⟨this.goes,fun _=>this⟩
 have hl:ae=⟨st1.bs.take st.bs.length,st.flr,st.ro⟩:=by
  cases m<;>first|exact absurd rfl hm|exact absurd rfl hw|skip
  all_goals
   simp only[b8] at hl
   split at hl
   ·cases hl;rfl
   ·cases hl
 subst hl;have hlen:st.bs.length≤st1.bs.length:=by have:=hg.len;rw[bu] at this;exact this
 have hb:∀k,k<st.bs.length→(st1.bs.take st.bs.length)[k]?=st1.bs[k]?:=fun k hk=>by rw[List.getElem?_take,if_pos hk]
 have Gg:(enterSt m st).flr=st.bs.length:=by cases m<;>first|rfl|exact absurd rfl hm|exact absurd rfl hw
 refine⟨⟨by simp;omega,rfl,rfl,fun k hk nv=>?_,fun k bx tO hk h1 h2 d hd=>?_⟩,fun h=>?_⟩
 ·have:=hg.low k (by cases m<;>first|exact absurd rfl hw|exact hk|exact nv) (by rw[bu];exact nv);rw[bu] at this;simp only;rw[hb k nv];exact this
 ·have nv:=eP h1;simp only at h2;rw[hb k nv] at h2;exact hg.fl k bx tO (by rw[Gg];exact nv) (by rw[bu];exact h1) h2 d hd
 ·have h:=h.resolve_right hw;subst h
  have:st1.bs.take st.bs.length=st.bs:=by
   apply List.ext_getElem?;intro k
   by_cases hk:k<st.bs.length
   ·rw[hb k hk];have:=hg.low k hk (by rw[bu];exact hk);rw[bu] at this;exact this
   ·rw[List.getElem?_eq_none (by simp;omega),List.getElem?_eq_none (by omega)]
  rw[this];exact .rfl _
theorem oT {pv:Pv} {P:Program} (ok:pv.Ok P) (hc:pv.jm) (hp:gO P pv (eF pv)):∀n,gO P pv (eJ pv n)
 |0=>⟨fun f ds st r h=>(by cases h),fun f ds st d ae h=>(by cases h),fun f ds st d ae h=>(by cases h),fun f ds st d ae h=>(by cases h)⟩
 |n+1=>by
  have ih:=oT ok hc hp n
  have key:∀{f:Nat} {ds:List D} {st:St} {r:D×St},eJ pv (n+1) f ds st=some r→(eF pv f ds st=some r)∨∃x body,pv.fi f=some x∧x.prim=none∧x.fn.body=some body∧wc pv (eJ pv n) n x body ds st=some r:=by
   intro f ds st r h;simp only[eJ] at h
   split at h
   ·rename_i p hl;left;simp only[eF,hl];exact h
   rename_i hl
   split at h
   ·rename_i x hx
    split at h
    ·rename_i p Dq;left;simp only[eF,hl,hx,Dq];exact h
    ·rename_i Dq
     split at h
     ·rename_i body hb;exact .inr ⟨x,body,hx,Dq,hb,h⟩
     ·cases h
   ·cases h
  have body:∀{x:Fi} {body:Code} {ds:List D} {st:St} {d:D} {ae:St},wc pv (eJ pv n) n x body ds st=some (d,ae)→
    ∃out fr st1 es,bt pv (eJ pv n) x.dyn n body (pad x.nloc ds) (enterSt x.mode st)=some (out,fr,st1)∧(∀i,out≠.exit i)∧iR pv fr st1 x.fn.results.toList=some es∧b8 x.mode x.knul st st1 (lQ es)=some (d,ae):=by
   intro x body ds st d ae h;unfold wc at h
   split at h
   ·cases h
   ·rename_i out fr st1 hne yY
    split at h
    ·rename_i es hr;exact⟨out,fr,st1,es,yY,fun i hi=>by subst hi;exact hne _ rfl,hr,h⟩
    ·cases h
   ·cases h
  refine⟨fun f ds st r h=>?_,fun f ds st d ae h=>?_,fun f ds st d ae h ft=>?_,fun f ds st d ae h=>?_⟩
  ·rcases key h with h|⟨x,b,hx,Dq,hb,_⟩
   ·exact hp.fn f ds st r h
   ·obtain⟨h1,h2⟩:=ok.fs f x hx Dq;exact⟨x.fn,b,h1,hb,h2 b hb⟩
  ·rcases key h with h|⟨x,b,hx,Dq,hb,hbd⟩
   ·exact hp.calls f ds st d ae h
   ·intro w β Z us hs hl hr;obtain⟨out,fr,st1,es,yY,hne,FX,IA⟩:=body hbd;obtain⟨h1,h2⟩:=ok.fs f x hx Dq;refine calls_of_wp h1 hb ?_;have H8:=AE hs x.mode;have Kx:(enterSt x.mode st).x β Z=st.x β Z:=by simp only[St.x];congr 1;funext k;simp only[St.aq,bu]
    have hf:mG w ((enterSt x.mode st).x β Z) (pad x.nloc ds) (us.toArray++Array.replicate (x.fn.ntmps-us.toArray.size) undef):=by rw[Kx];exact Fq hl hr
    refine Et ok ih x.dyn n _ b (vV ?_ b (hc f x b hx Dq hb)) yY H8 hf rfl fun a' w' β' Z' hn qK hd _=>?_
    ·simp;omega
    ·obtain⟨v,oJ,xw⟩:=wR ok hn.sim qK FX;obtain⟨qM,Dt,Co,EN⟩:=B4 hs x.mode x.knul hn (nC ih x.dyn n b yY) xw IA
     have cC:a'.defers=[]∧∃v,(results x.fn a'.tmps).run P w'=.ok v w'∧(∃v' β' Z',Ending.returned v=.returned v'∧Nx w st β Z w' ae β' Z'∧VR w' (ae.x β' Z') d v'∧(iA pv f=true→Quiet w w')):=by
      refine⟨hd,v,oJ,v,qM,Dt,rfl,Co,EN,fun ft=>?_⟩
      have hm:x.mode=.ro∨x.mode=.nw:=by
       unfold iA at ft;rw[hx] at ft;simp only at ft
       split at ft
       ·exact .inl (by assumption)
       ·exact .inr (by assumption)
       ·cases ft
      intro c hcl;refine hn.evo.block c hcl ?_;rintro⟨k,base,h5,h6⟩;have:=hs.dom k c base h5
      rcases hm with hm|hm<;>rw[hm] at h6<;>simp only[enterSt] at h6<;>omega
     cases out with
     |next=>exact cC
     |ret=>exact cC
     |exit i=>exact absurd rfl (hne i)
  ·rcases key h with h|⟨x,b,hx,Dq,hb,hbd⟩
   ·exact hp.ro f ds st d ae h ft
   ·obtain⟨out,fr,st1,es,yY,hne,FX,IA⟩:=body hbd
    have hm:x.mode=.ro∨x.mode=.nw:=by
     unfold iA at ft;rw[hx] at ft;simp only at ft
     split at ft
     ·exact .inl (by assumption)
     ·exact .inr (by assumption)
     ·cases ft
    exact(pC (nC ih x.dyn n b yY) IA).2 hm
  ·rcases key h with h|⟨x,b,hx,Dq,hb,hbd⟩
   ·exact hp.len f ds st d ae h
   ·obtain⟨out,fr,st1,es,yY,hne,FX,IA⟩:=body hbd;exact(pC (nC ih x.dyn n b yY) IA).1
end Go.V
namespace Go.V
open Go.RowKit
def Fits {α:Type} (R:Nat→α→Prop):Tr α→Nat→Nat→Prop
 | .leaf a,lo,hi=>hi=lo+1∧R lo a
 | .node k l r,lo,hi=>Fits R l lo k∧Fits R r k hi
theorem Fits.get {α:Type} {R:Nat→α→Prop}:∀{tr:Tr α} {lo hi t:Nat},Fits R tr lo hi→lo≤t→t<hi→R t (tr.get t)
 | .leaf a,lo,hi,t,h,h1,h2=>by
  obtain⟨h3,h4⟩:=h;have:t=lo:=by omega
  subst this;exact h4
 | .node k l r,lo,hi,t,h,h1,h2=>by
  obtain⟨h3,h4⟩:=h;simp only[Tr.get]
  cases hb:Nat.ble k t with
  |true=>exact h4.get (Nat.le_of_ble_eq_true hb) h2
  |false=>
   have:¬k≤t:=fun hk=>by rw[Nat.ble_eq_true_of_le hk] at hb;cases hb
   exact h3.get h1 (by omega)
def Gz (pv:Pv) (x:Fi):Bool:=
 match x.fn.body with
 |some b=>(x.fn.name != "runtime.NumGoroutine") &&codeOk pv x.dyn x.fn.ntmps b
 |none=>true
def Fz:List D→St→Option (D×St):=fun _ _=>none
def GS (pv:Pv) (P:Program) (i:Nat) (x:Fi):Prop:=(P.funcs[i]?=some x.fn∧x.prim=none∧Gz pv x=true)∨x.prim=some Fz
def GR (P:Program) (i:Nat) (x:TypeInfo):Prop:=P.info? i=some x
theorem Dw {pv:Pv} {P:Program} (ht:Fits (GR P) pv.ty 0 pv.nty) (hf:Fits (GS pv P) pv.fs 0 pv.nfs) (he:(pv.eqb.all fun t=>!P.stoodInHeld t &&!P.eqGuardType P.depth t)=true) (hm:P.follows .mixedOrders=true) (hpr:pv.prm=[]):
  pv.Ok P∧pv.jm∧gO P pv (eF pv):=by
 have fi:∀f x,pv.fi f=some x→GS pv P f x:=by
  intro f x h;unfold Pv.fi at h
  split at h
  ·rename_i hb;cases h;refine hf.get (Nat.zero_le _) ?_
   rcases Nat.lt_or_ge f pv.nfs with h'|h'
   ·exact h'
   ·rw[Nat.ble_eq_true_of_le h'] at hb;cases hb
  ·cases h
 have pn:∀f ds st r,eF pv f ds st=some r→False:=by
  intro f ds st r h;unfold eF at h;rw[hpr] at h;simp only[jS] at h
  split at h
  ·rename_i x hx
   rcases fi f x hx with⟨_,h1,_⟩|h1<;>rw[h1] at h<;>cases h
  ·cases h
 refine⟨⟨fun t i h=>?_,fun f x h hp=>?_,fun t h=>?_,hm⟩,fun f x b h hp hb=>?_,⟨fun f ds st r h=>(pn f ds st r h).elim,fun f ds st d ae h=>(pn f ds st _ h).elim,fun f ds st d ae h=>(pn f ds st _ h).elim,fun f ds st d ae h=>(pn f ds st _ h).elim⟩⟩
 ·unfold Pv.info at h
  split at h
  ·rename_i hb;cases h;refine ht.get (Nat.zero_le _) ?_
   rcases Nat.lt_or_ge t pv.nty with h'|h'
   ·exact h'
   ·rw[Nat.ble_eq_true_of_le h'] at hb;cases hb
  ·cases h
 ·obtain⟨h1,_,h3⟩:=(fi f x h).resolve_right (by rw[hp];simp);refine⟨h1,fun b hb=>?_⟩;unfold Gz at h3;rw[hb] at h3;simp only[Bool.and_eq_true,bne_iff_ne,ne_eq] at h3;exact h3.1
 ·have:=List.all_eq_true.1 he t (by simpa using h)
  simpa using this
 ·obtain⟨_,_,h3⟩:=(fi f x h).resolve_right (by rw[hp];simp);unfold Gz at h3;rw[hb] at h3;simp only[Bool.and_eq_true] at h3;exact h3.2
theorem sound {pv:Pv} {P:Program} (h:pv.Ok P∧pv.jm∧gO P pv (eF pv)) {n f:Nat} {ds:List D} {d:D} {ae:St} (hs:eJ pv n f ds ⟨[],0,0⟩=some (d,ae)) {w:World} {Z:Nat→Prop} (hZ:∀b,Z b→b<w.heap.size) {us:List Value} (hl:ds.length=us.length)
  (hr:∀(i:Nat) c v,ds[i]?=some c→us[i]?=some v→IR w Z c v):Calls P f us.toArray w fun e w'=>∃v β' Z',e=.returned v∧zt (fun _=>False) w w'∧VR w' (ae.x β' Z') d v:=by
 have fQ:fm w ⟨[],0,0⟩ (fun _=>none) Z:=⟨fun _ _ _ h=>(by cases h),fun _ _ _ h=>(by cases h),fun _ _ _ _ _ h=>(by cases h),fun _ _ _ h=>(by cases h),hZ,fun _ _ _ _ h=>(by cases h),Nat.le_refl _,Nat.le_refl _⟩
 refine((oT h.1 h.2.1 h.2.2 n).calls f ds _ d ae hs w _ Z us fQ hl fun i c v hc hv=>.im _ _ (hr i c v hc hv)).mono fun e w'=>?_;rintro⟨v,β',Z',he,hn,hv,_⟩;refine⟨v,β',Z',he,hn.evo.mono ?_,hv⟩;rintro b ⟨k,base,h,_⟩;cases h
end Go.V
