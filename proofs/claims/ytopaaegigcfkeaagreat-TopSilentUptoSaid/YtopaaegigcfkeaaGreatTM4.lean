/- own -/
import Derived.Test.YtopaaegigcfkeaaGreatTM1
import Derived.Orders
set_option linter.unusedSimpArgs false
set_option linter.unusedVariables false
set_option linter.unusedSectionVars false
set_option linter.unnecessarySimpa false
namespace Go.V
open Go.RowKit
theorem bytes_run {P : Program} {f : Value -> ByteArray -> Sem (ForInStep ByteArray)} (hf : ∀ n s w,(f (.int .u8 n) s).run P w = .ok (.yield (s.push (UInt8.ofNat n.toNat))) w) : ∀ (cs : List D) (us : List Value) (bs : List UInt8) (acc : ByteArray) (w : World) (x : X),LR w x cs us -> bytesD cs = some bs ->
    (forIn us acc f).run P w = .ok (⟨acc.data ++ bs.toArray⟩) w
  | [],us,bs,acc,w,x,h,hb => by
    cases us with
    | nil => simp [bytesD] at hb; subst hb; simp
    | cons u us => have := h.len; simp at this
  | c :: cs,us,bs,acc,w,x,h,hb => by
    cases us with
    | nil => have := h.len; simp at this
    | cons u us =>
      unfold bytesD at hb
      split at hb
      · rename_i heq; cases heq
      · rename_i n l heq
        cases heq
        obtain ⟨r,hr,rfl⟩ := Option.map_eq_some_iff.1 hb
        have hu := vr_int (h.rel 0 _ u rfl rfl)
        subst hu
        have ht : LR w x cs us := ⟨by have := h.len; simpa using this,fun v hv => h.one v (List.mem_cons_of_mem _ hv),fun i c u hc hu => h.rel (i + 1) c u hc hu⟩
        have ih := bytes_run hf cs us r (acc.push (UInt8.ofNat n.toNat)) w x ht hr
        simp only [List.forIn_cons,Sem.run_bind,hf,Result.andThen_ok]
        rw [ih]
        congr 1
        apply ByteArray.ext
        simp
      · cases hb
section
variable {pv : Pv} {P : Program} (ok : pv.Ok P)
include ok
def markB (pv : Pv) (s t : TypeId) : Bool :=
  match pv.und s,pv.und t with
  | some (.slice _),some (.slice _) => true
  | _,_ => false
omit ok in
theorem mark_ok {w : World} {st : St} {β : Nat -> Option (Nat × Nat)} {Z : Nat -> Prop} (h : Sim w st β Z) {k ver : Nat} {ar : Bool} {c : List D} (hm : st.mem? k ver = some (ar,c)) {b base : Nat} (hb : β k = some (b,base)) (hro : st.ro <= k) (o : Nat) :
    ∃ w',(markStringish ⟨b,o,none⟩).run P w = .ok () w' /\ Nx w st β Z w' st β Z := by
  obtain ⟨cs,el,fr,h1,h2,h3,h4⟩ := h.row hm hb
  have hbl : b < w.heap.size := h.lt k b base hb
  have hsh : w.shape? b = some (el,cs.size) := by simp only [World.shape?,h1]
  refine ⟨w.freeze ⟨b,cs.size,none⟩ 1,?_,?_⟩
  · simp only [markStringish,Sem.run_bind,run_shape,hsh,Result.andThen_ok,run_freeze]
  · obtain ⟨lo,hi⟩ := fr
    have hf : ∃ fr' : Nat × Nat,FrOk cs.size fr' /\ w.freeze ⟨b,cs.size,none⟩ 1 = wput w b (.cells cs el fr') := by
      refine ⟨if lo == hi then (cs.size,cs.size + 1) else (min lo cs.size,max hi (cs.size + 1)),?_,?_⟩
      · split
        · exact ⟨by simp,fun o ho => by simp only; omega⟩
        · rename_i hne
          have hne : lo ≠ hi := by simpa using hne
          have h5 := h3.1
          have h6 := h3.2 lo
          simp only at h5 h6
          refine ⟨by simp only; omega,fun o ho => ?_⟩
          simp only
          omega
      · simp only [World.freeze,wput,if_neg (show ¬ (1 = 0) by omega)]
        congr 1
        apply Array.ext_getElem?
        intro j
        rw [Array.getElem?_modify]
        by_cases hj : b = j
        · subst hj
          rw [if_pos rfl,h1,Array.getElem?_setIfInBounds_self_of_lt hbl]; rfl
        · rw [if_neg hj,Array.getElem?_setIfInBounds_ne hj]
    obtain ⟨fr',hf1,hf2⟩ := hf
    have hbx := (mem_spec hm).1
    have hx := Nx.writeF (a' := ar) (ver' := ver) (c' := c) (base' := base) h hm hb hro (Nat.le_refl _) (fun _ => rfl) h1 hf1 rfl h2 h4
    have e1 : (fun i => if i = k then some (b,base) else β i) = β := by
      funext i; split
      · rename_i e; subst e; exact hb.symm
      · rfl
    have e2 : ({ st with bs := st.bs.set k (.mem ver ar c) } : St) = st := by
      obtain ⟨bs,f,r⟩ := st
      simp only at hbx ⊢
      congr 1
      apply List.ext_getElem?
      intro j
      by_cases hj : k = j
      · subst hj; rw [List.getElem?_set_self (h.dom k b base hb),hbx]
      · rw [List.getElem?_set_ne hj]
    rw [e1,e2] at hx
    rw [hf2]; exact hx
theorem conv_ok {w : World} {st st' : St} {β : Nat -> Option (Nat × Nat)} {Z : Nat -> Prop} (h : Sim w st β Z) {s t : Nat} {d r : D} {u : Value} (hu : VR w (st.x β Z) d u) (hs : convD pv s t d st = some (r,st')) :
    ∃ z w' β',(convert s t u).run P w = .ok z w' /\ Nx w st β Z w' st' β' Z /\ VR w' (st'.x β' Z) r z /\ (markB pv s t = false -> Quiet w w') := by
  unfold convD at hs
  split at hs
  · rename_i sd k k' n h1 h2
    cases hs
    rw [vr_int hu]
    exact ⟨_,w,β,by simp [convert,run_und ok h1,run_und ok h2,Conv.intToInt]; rfl,Nx.same h,by rw [wrapD_eq]; exact .im _ _ (.int _ _),fun _ => Quiet.refl _⟩
  · rename_i sd k n h1 h2
    cases hs
    rw [vr_int hu]
    refine ⟨.string (Utf8.encode n),w,β,by cases sd <;> simp [convert,run_und ok h1,run_und ok h2,Conv.intToString],Nx.same h, .im _ _ ?_,fun _ => Quiet.refl _⟩
    have := IR.str (w := w) (Z := (st.x β Z).Z) (Utf8.encode n).data.toList
    simpa using this
  · rename_i sd l h1 h2
    cases hs
    rw [vr_str hu]
    exact ⟨_,w,β,by cases sd <;> simp [convert,run_und ok h1,run_und ok h2] <;> rfl,Nx.same h, .im _ _ (.str _),fun _ => Quiet.refl _⟩
  · rename_i sd e l h1 h2
    split at hs
    · rename_i he
      split at hs
      · rename_i hlen
        cases hs
        rw [vr_str hu]
        have hcut := cap_ge l.length 0 e (w.tape w.drawn (.appendCap l.length 0 e))
        generalize hq : (Question.appendCap l.length 0 e).cut (w.tape w.drawn (.appendCap l.length 0 e)) = cap at hcut
        have hsz : (⟨l.toArray⟩ : ByteArray).size = l.length := by simp [ByteArray.size]
        have hS : Nx w st β Z w.drew st β Z := Nx.still h rfl rfl rfl rfl
        have hcells : ((l.map fun b => Value.int .u8 b.toNat).toArray ++ Array.replicate (cap - l.length) (Value.int .u8 0)).size = cap := by simp; omega
        have hfz : ∀ c : Array Value,(w.drew.alloc (.cells c e)).freeze ⟨w.heap.size,c.size,none⟩ 1 = { w.drew with heap := w.heap.push (.cells c e (c.size,c.size + 1)) } := by
          intro c
          simp only [World.freeze,World.alloc,World.drew]
          simp only [if_neg (show ¬ (1 = 0) by omega)]
          congr 1
          apply Array.ext_getElem?
          intro j
          rw [Array.getElem?_modify]
          by_cases hj : w.heap.size = j
          · subst hj; simp
          · rw [if_neg hj,Array.getElem?_push,Array.getElem?_push,if_neg (fun e => hj e.symm),if_neg (fun e => hj e.symm)]
        obtain ⟨hx,x1,x2,x3⟩ := Nx.push_mem (w' := { w.drew with heap := w.heap.push (.cells ((l.map fun b => Value.int .u8 b.toNat).toArray ++ Array.replicate (cap - l.length) (Value.int .u8 0)) e (cap,cap + 1)) }) hS.sim true (l.map fun x => .int .u8 x.toNat)
          ((l.map fun b => Value.int .u8 b.toNat).toArray ++ Array.replicate (cap - l.length) (Value.int .u8 0)) e (cap,cap + 1) rfl rfl rfl rfl (by rw [hcells]; simpa using hcut) ⟨by simp,fun o ho => by rw [hcells] at ho; simp; omega⟩ (fun j d hd => by
            obtain ⟨y,hy1,hy2,hy3⟩ := (bytes_lr w.drew (st.x β Z) l).at_ hd
            refine ⟨y,?_,hy2,hy3⟩
            have hlt : j < (l.map fun b => Value.int .u8 b.toNat).length := by
              rcases Nat.lt_or_ge j (l.map fun b => Value.int .u8 b.toNat).length with h' | h'
              · exact h'
              · rw [List.getElem?_eq_none h'] at hy1; cases hy1
            rw [Array.getElem?_append_left (by simpa using hlt)]
            simpa using hy1)
        refine ⟨.slice (some ⟨w.heap.size,0,none⟩) l.length cap,_,_,?_,hS.trans hx,win_fresh x2 x3 x1 hcut (by rw [hcells]; omega),fun _ => Quiet.push rfl⟩
        have hrun : (Conv.stringToBytes e ⟨l.toArray⟩).run P w = .ok (.slice (some ⟨w.heap.size,0,none⟩) l.length cap) { w.drew with heap := w.heap.push (.cells ((l.map fun b => Value.int .u8 b.toNat).toArray ++ Array.replicate (cap - l.length) (Value.int .u8 0)) e (cap,cap + 1)) } := by
          have hel : ((⟨l.toArray⟩ : ByteArray).data.map fun b => Value.int .u8 b.toNat) = (l.map fun b => Value.int .u8 b.toNat).toArray := by simp
          simp only [Conv.stringToBytes,Sem.run_bind,run_choose,Question.forced,Bool.false_eq_true,if_false,Result.andThen_ok,hsz,hq,hel,newRow,run_newObj,Sem.run_pure,markStringish,run_shape]
          have hshape : (w.drew.alloc (.cells ((l.map fun b => Value.int .u8 b.toNat).toArray ++ Array.replicate (cap - l.length) (Value.int .u8 0)) e)).shape? w.heap.size = some (e,cap) := by
            simp only [World.shape?,World.alloc,World.drew]
            rw [Array.getElem?_push,if_pos rfl]
            simp [hcells]
          have ha : ({ heap := w.heap.push (Obj.cells ((l.map fun b => Value.int .u8 b.toNat).toArray ++ Array.replicate (cap - l.length) (Value.int .u8 0)) e),tape := w.tape,drawn := w.drawn + 1,os := w.os,output := w.output } : World) = w.drew.alloc (.cells ((l.map fun b => Value.int .u8 b.toNat).toArray ++ Array.replicate (cap - l.length) (Value.int .u8 0)) e) := rfl
          rw [ha]
          simp only [hshape,Sem.run_bind,run_freeze,Result.andThen_ok,Sem.run_pure]
          have := hfz ((l.map fun b => Value.int .u8 b.toNat).toArray ++ Array.replicate (cap - l.length) (Value.int .u8 0))
          rw [hcells] at this
          rw [this]
        cases sd <;> simp only [convert,Sem.run_bind,run_und ok h1,run_und ok h2,Result.andThen_ok,run_und ok he,hrun]
      · cases hs
    · cases hs
  · rename_i e' e k ver off len sz h1 h2
    split at hs
    · rename_i q he hm
      obtain ⟨ar,c⟩ := q
      split at hs
      · rename_i hck
        obtain ⟨hst,hlen,hcw⟩ := hck
        have hst := Nat.eq_of_beq_eq_true hst
        subst hst
        cases hs
        obtain ⟨a,cap,rfl,hc,hk,_,hat⟩ := vr_win hu
        obtain ⟨b,base,sz',hb,_,had⟩ := hat (mem_spec hm).2
        rcases had with rfl | ⟨rfl,_⟩
        · omega
        obtain ⟨w',m1,m2⟩ := mark_ok (P := P) h hm hb (canW_ro hcw) (base + off)
        refine ⟨_,w',β,?_,m2,hu.mono m2.keeps,fun e => ?_⟩
        · rw [h1] at h2; cases h2
          simp only [convert,Sem.run_bind,run_und ok h1,Result.andThen_ok,run_und ok he,beq_self_eq_true,m1,Sem.run_pure]
        · rw [h1] at h2; cases h2
          simp [markB,h1] at e
      · cases hs
    · cases hs
  · rename_i dd o1 o2 d4 e h1 h2 hn1 hn2
    split at hs
    · rename_i n cs he hrow
      split at hs
      · cases hs
      · rename_i hns
        split at hs
        · rename_i hl
          obtain ⟨bs,hb,hr⟩ := Option.map_eq_some_iff.1 hs
          cases hr
          obtain ⟨hlen,hcells⟩ := row_ok (P := P) h hu hrow
          obtain ⟨us,u1,u2⟩ := hcells 1 n (Nat.le_refl _) (by omega)
          rw [Nat.mul_one, <- hl,List.take_length] at u2
          refine ⟨.string ⟨bs.toArray⟩,w,β,?_,Nx.same h, .im _ _ (.str _),fun _ => Quiet.refl _⟩
          have hsl : ∃ a q c,u = .slice a q c := by
            cases dd with
            | sl es => obtain ⟨_,_,e,_⟩ := vr_sl hu; exact ⟨_,_,_,e⟩
            | nul => exact ⟨_,_,_,vr_nul hu⟩
            | win k v o l s => obtain ⟨_,_,e,_⟩ := vr_win hu; exact ⟨_,_,_,e⟩
            | str l => exact absurd rfl (hns l)
            | _ => simp [rowD] at hrow
          obtain ⟨a,q,c,rfl⟩ := hsl
          have hq : q = n := by simp [Builtin.lenOf] at hlen; exact hlen
          subst hq
          have hcv : (convert s t (.slice a q c)).run P w = (Conv.bytesToString (.slice a q c)).run P w := by
            simp [convert,run_und ok h1,run_und ok h2,run_und ok he]
          rw [hcv]
          cases a with
          | none =>
            have hcs : us = [] := by
              simp only [Builtin.firstCells,Sem.run_pure,Result.ok.injEq] at u1
              have := u1.1
              cases us <;> simp at this ⊢
            subst hcs
            have : cs = [] := List.length_eq_zero_iff.1 (by have := u2.len; simpa using this)
            subst this
            simp [bytesD] at hb; subst hb
            rfl
          | some a =>
            simp only [Builtin.firstCells,Nat.mul_one] at u1
            simp only [Conv.bytesToString,Sem.run_bind,u1,Result.andThen_ok,List.forIn_toArray]
            rw [bytes_run (P := P) (fun n s w => by simp) cs us bs .empty w _ u2 hb]
            simp
        · cases hs
    · cases hs
  · cases hs
omit ok in
theorem Nx.obj {w : World} {st : St} {β : Nat -> Option (Nat × Nat)} {Z : Nat -> Prop} (h : Sim w st β Z) {k b : Nat} (hβ : β k = some (b,0)) (hro : st.ro <= k) {o o' : Obj} {bx bx' : Box} (hbx : st.bs[k]? = some bx) (hw : w.heap[b]? = some o) (hv : boxVer bx' = boxVer bx)
    (hrs : ∀ w1 : World,w1.heap[b]? = some o' -> rowSize w1 b = rowSize w b) (hok : ∀ x',BoxOk (wput w b o') x' b 0 bx') : Nx w st β Z (wput w b o') { st with bs := st.bs.set k bx' } β Z := by
  have hbl := h.lt k b 0 hβ
  have hkl := h.dom k b 0 hβ
  have hne : ∀ i,i ≠ b -> (wput w b o').heap[i]? = w.heap[i]? := by
    intro i hi
    simp only [wput]
    rw [Array.getElem?_setIfInBounds_ne (by omega)]
  have heq : (wput w b o').heap[b]? = some o' := by
    simp only [wput]
    rw [Array.getElem?_setIfInBounds_self_of_lt hbl]
  have hverk : ∀ i,({ st with bs := st.bs.set k bx' } : St).ver i = st.ver i := by
    intro i
    simp only [St.ver]
    by_cases hik : i = k
    · subst hik; rw [List.getElem?_set_self hkl,hbx]; exact hv
    · rw [List.getElem?_set_ne (by omega)]
  have hkp : Keeps w (st.x β Z) (wput w b o') (({ st with bs := st.bs.set k bx' } : St).x β Z) := by
    refine ⟨fun i p hp => ⟨p,hp⟩,fun i hi => ⟨hi,hne i fun e => h.zd k b 0 hβ (e ▸ hi)⟩,fun i q p hi hq => ⟨q,?_,Nat.le_refl _⟩,fun i q hq hq' i' y hy => ⟨hy,?_⟩⟩
    · have := hverk i; show st.ver i = some q; rw [<- this]; exact hq
    · by_cases e : i' = b
      · subst e; exact hrs _ heq
      · exact rowSize_eq (hne i' e)
  refine ⟨⟨?_,?_,h.inj,h.zd,?_,?_,?_,?_⟩,hkp,⟨rfl,rfl,rfl,by simp [wput],fun i _ hn => hne i fun e => hn ⟨k,0,e ▸ hβ,hro⟩⟩,
    fun i q y hq => .inl ⟨y,hq⟩,fun _ hz => .inl hz,by simp,rfl,rfl,?_,fun i _ h0 => by
      have : i ≠ k := fun e => by subst e; rw [hβ] at h0; cases h0
      dsimp only
      rw [List.getElem?_set_ne (by omega)]
      exact ⟨h0,rfl⟩⟩
  · intro i q y hq; simp; exact h.dom i q y hq
  · intro i q y hq; simp only [wput,Array.size_setIfInBounds]; exact h.lt i q y hq
  · intro i hi; simp only [wput,Array.size_setIfInBounds]; exact h.zl i hi
  · intro i q y bx2 hq hbx2
    try dsimp only at hbx2
    by_cases hik : i = k
    · subst hik
      rw [List.getElem?_set_self hkl] at hbx2; cases hbx2
      rw [hβ] at hq; cases hq
      exact hok _
    · rw [List.getElem?_set_ne (by omega)] at hbx2
      exact (h.box i q y bx2 hq hbx2).keep hkp (hne q fun e => hik (h.inj i k q _ _ hq (e ▸ hβ)))
  · have := h.flr; simp; omega
  · have := h.ro; simp; omega
  · intro i hi
    dsimp only
    rw [List.getElem?_set_ne (by omega)]
    exact ⟨rfl,rfl⟩
omit ok in
theorem find_now {kk : IntKind} {n : Int} {kt : IntKind} : ∀ {es : List (D × D)} {en : List MapEntry} {i : Nat} {r : Option (Nat × D)},mapFind kk n es i = some r -> en.length = es.length ->
    (∀ (j : Nat) p,es[j]? = some p -> p.1 = .junk \/ ∃ kk n vk x e,p = (.int kk n, .int vk x) /\ en[j]? = some e /\ e.key = .int kk n /\ e.val = .int vk x) ->
    match r with
    | none => Instr.findNow (.int kt) (.int kk n) en i = some none
    | some (q,d) => ∃ v,Instr.findNow (.int kt) (.int kk n) en i = some (some (q,v)) /\ i <= q /\ q - i < es.length /\ (∃ vk x,d = .int vk x /\ v = .int vk x) /\ ∃ e,en[q - i]? = some e /\ e.key = .int kk n
  | [],en,i,r,h,hl,_ => by
    simp only [mapFind] at h; cases h
    have : en = [] := List.length_eq_zero_iff.1 hl
    subst this; rfl
  | (a,d) :: es,en,i,r,h,hl,hr => by
    rcases hr 0 _ rfl with hj | ⟨kk',m,vk,x,e,hp,he,hk,hv⟩
    · simp only at hj; subst hj; simp [mapFind] at h
    cases hp
    obtain ⟨e0,en,rfl⟩ : ∃ e0 en',en = e0 :: en' := by cases en with | nil => simp at hl | cons a b => exact ⟨a,b,rfl⟩
    simp only [List.getElem?_cons_zero,Option.some.injEq] at he
    subst he
    simp only [mapFind] at h
    split at h
    · rename_i hkk
      subst hkk
      split at h
      · rename_i hnm
        cases h
        have hnm : n = m := by simpa using hnm
        subst hnm
        refine ⟨.int vk x,?_,Nat.le_refl _,by simp,⟨vk,x,rfl,rfl⟩,e0,by simp,hk⟩
        simp only [Instr.findNow,hk,Instr.sameNow,if_true,beq_self_eq_true,hv]
      · rename_i hnm
        have ih := find_now (kt := kt) (en := en) h (by simpa using hl) (fun j p hj => by simpa using hr (j + 1) p (by simpa using hj))
        have hf : Instr.findNow (.int kt) (.int kk n) (e0 :: en) i = Instr.findNow (.int kt) (.int kk n) en (i + 1) := by
          have : (n == m) = false := by simpa using hnm
          simp only [Instr.findNow,hk,Instr.sameNow,if_true,this]
        cases r with
        | none => simp only at ih ⊢; rw [hf]; exact ih
        | some q =>
          obtain ⟨q,d'⟩ := q
          simp only at ih ⊢
          obtain ⟨v,h1,h2,h3,h4,e,h5,h6⟩ := ih
          refine ⟨v,by rw [hf]; exact h1,by omega,by simp; omega,h4,e,?_,h6⟩
          rw [show q - i = (q - (i + 1)) + 1 by omega]
          simpa using h5
    · cases h
theorem makeMap_ok {w : World} {st st' : St} {β : Nat -> Option (Nat × Nat)} {Z : Nat -> Prop} (h : Sim w st β Z) {t : Nat} {d : Option D} {u : Option Value} {r : D} (hn : d = none ↔ u = none) (hu : ∀ a v,d = some a -> u = some v -> VR w (st.x β Z) a v) (hs : makeMapD pv t d st = some (r,st')) :
    ∃ z w' β',(Instr.makeMap t u).run P w = .ok z w' /\ Nx w st β Z w' st' β' Z /\ VR w' (st'.x β' Z) r z /\ Quiet w w' := by
  have hx := Nx.push (w' := w.alloc (.map #[] 0)) h (.map #[] 0) rfl rfl rfl rfl (.map []) (fun _ => ⟨rfl, #[],0,by
    show (w.heap.push _)[w.heap.size]? = _
    simp,rfl,fun i p hp => by simp at hp⟩)
  have hv : VR (w.alloc (.map #[] 0)) ((st.push (.map [])).x (bpush β st.bs.length w.heap.size) Z) (.mp st.bs.length) (.map (some w.heap.size)) := by
    refine .mp _ _ ⟨_,by simp [St.x,bpush]; rfl⟩ fun _ => ⟨0,by simp [St.x,bpush]⟩
  unfold makeMapD at hs
  split at hs
  · cases hs
    have : u = none := hn.1 rfl
    subst this
    refine ⟨.map (some w.heap.size),_,_,?_,hx,hv,Quiet.push rfl⟩
    simp only [Instr.makeMap,Sem.run_bind,Sem.run_pure,Result.andThen_ok,run_newObj]; rfl
  · rename_i kk n
    split at hs
    · rename_i kt e ht
      cases hs
      cases u with
      | none => have := hn.2 rfl; cases this
      | some v =>
        have := vr_int (hu _ v rfl rfl)
        subst this
        refine ⟨.map (some w.heap.size),_,_,?_,hx,hv,Quiet.push rfl⟩
        simp only [Instr.makeMap,Sem.run_bind,run_und ok ht,asInt,asIntOf,Sem.run_pure,Result.andThen_ok,run_newObj]; rfl
    · cases hs
  · cases hs
omit ok in
theorem forIn_unit {α : Type} {w : World} {g : α -> PUnit -> Sem (ForInStep PUnit)} : ∀ (l : List α),(∀ a ∈ l, ∀ s,(g a s).run P w = .ok (.yield PUnit.unit) w) -> ∀ s,(forIn l s g).run P w = .ok PUnit.unit w
  | [],_,s => by simp
  | a :: l,h,s => by
    simp only [List.forIn_cons,Sem.run_bind,h a (List.mem_cons_self ..),Result.andThen_ok]
    exact forIn_unit l (fun a ha => h a (List.mem_cons_of_mem _ ha)) _
omit ok in
theorem keyOk_at {cs : List D} {f : Field} : ∀ {fs : List Field},keyOkD pv cs fs = true -> f ∈ fs -> ((∃ k,pv.und f.type = some (.int k)) \/ pv.und f.type = some .string) /\ ∃ d,partD pv f.type cs f.offset = some d
  | g :: fs,h,hm => by
    simp only [keyOkD,Bool.and_eq_true] at h
    rcases List.mem_cons.1 hm with rfl | hm
    · have h1 := h.1
      split at h1
      · rename_i k hu; exact ⟨.inl ⟨k,hu⟩,Option.isSome_iff_exists.1 h1⟩
      · rename_i hu; exact ⟨.inr hu,Option.isSome_iff_exists.1 h1⟩
      · cases h1
    · exact keyOk_at h.2 hm
theorem key_ok {w : World} {x : X} {kt : TypeId} {cs : List D} {u : Value} {fs : Array Field} (hk : VR w x (.agg cs) u) (hkt : pv.und kt = some (.struct fs)) (hc : keyOkD pv cs fs.toList = true) (b : Bool) : (Instr.checkKey b 10000 kt u).run P w = .ok () w := by
  obtain ⟨vs,rfl,hl,h1,hr⟩ := vr_agg hk
  unfold Instr.checkKey
  simp only [Sem.run_bind,run_und ok hkt,Result.andThen_ok]
  rw [<- Array.forIn_toList,forIn_unit (P := P) (w := w) fs.toList ?_ PUnit.unit]
  · rfl
  intro f hf s
  obtain ⟨hu,d,hd⟩ := keyOk_at hc hf
  obtain ⟨v,p1,p2⟩ := part_ok ok hl h1 hr hd
  have hck : (Instr.checkKey b 9999 f.type v).run P w = .ok () w := by
    unfold Instr.checkKey
    rcases hu with ⟨k,hu⟩ | hu <;> simp only [Sem.run_bind,run_und ok hu,Result.andThen_ok,Sem.run_pure]
  by_cases hn : f.name = "_"
  · simp [hn]
  · simp [hn,p1,hck]
theorem mapSet_ok {w : World} {st st' : St} {β : Nat -> Option (Nat × Nat)} {Z : Nat -> Prop} (h : Sim w st β Z) {t : Nat} {m key v : D} {um uk uv : Value} (hm : VR w (st.x β Z) m um) (hk : VR w (st.x β Z) key uk) (hv : VR w (st.x β Z) v uv) (hs : mapSetD pv t m key v st = some st') :
    ∃ w',(Instr.mapUpdate t um uk uv).run P w = .ok () w' /\ Nx w st β Z w' st' β Z := by
  unfold mapSetD at hs
  split at hs
  · rename_i kt e k kk n vk x ht
    split at hs
    · rename_i ik es hkt hb
      split at hs
      · rename_i hcw
        obtain ⟨r,rfl,hat⟩ := vr_mp hm
        obtain ⟨base,hβ⟩ := hat (by simp [St.x,St.ver,hb,boxVer])
        have hβ : β k = some (r,base) := hβ
        have := vr_int hk; subst this
        have := vr_int hv; subst this
        obtain ⟨rfl,en,cl,h1,h2,h3⟩ := h.box k r base _ hβ hb
        have hl : en.toList.length = es.length := by simpa using h2
        have hck : ∀ m : Nat,(Instr.checkKey false (m + 1) kt (.int kk n)).run P w = .ok () w := by
          intro m
          unfold Instr.checkKey
          simp only [Sem.run_bind,run_und ok hkt,Result.andThen_ok,Sem.run_pure]
        have hget : (getObj r).run P w = .ok (.map en cl) w := by simp [getObj,Sem.run,h1]
        split at hs
        · rename_i q d hf
          cases hs
          obtain ⟨vv,g1,g2,g3,⟨vk',x',rfl,rfl⟩,e0,g4,g5⟩ := find_now (kt := ik) (en := en.toList) hf hl (fun j p hj => by
            rcases h3 j p hj with e | ⟨a,b,c,d,e,q1,q2,q3⟩
            · exact .inl e
            · exact .inr ⟨a,b,c,d,e,q1,by simpa using q2,q3⟩)
          simp only [Nat.sub_zero] at g3 g4
          have g4' : en[q]? = some e0 := by simpa using g4
          have hql : q < en.size := (Array.getElem?_eq_some_iff.1 g4').1
          have hx := Nx.obj (o' := .map (en.modify q fun e => { e with key := .int kk n,val := .int vk x }) cl) (bx' := .map (es.set q (.int kk n, .int vk x))) h hβ (canW_ro hcw) hb h1 rfl (fun w1 hw1 => by simp [rowSize,hw1,h1]) fun x' => by
            refine ⟨rfl,_,cl,by simp only [wput]; rw [Array.getElem?_setIfInBounds_self_of_lt (h.lt k r 0 hβ)],by simp [h2],fun i p hp => ?_⟩
            rw [List.getElem?_set] at hp
            split at hp
            · rename_i hqi
              subst hqi
              try rw [if_pos (by omega)] at hp
              cases hp
              exact .inr ⟨kk,n,vk,x, { e0 with key := .int kk n,val := .int vk x },rfl,by rw [Array.getElem?_modify,if_pos rfl,g4']; rfl,rfl,rfl⟩
            · rename_i hqi
              rcases h3 i p hp with e | ⟨a,b,c,d,e,q1,q2,q3⟩
              · exact .inl e
              · exact .inr ⟨a,b,c,d,e,q1,by rw [Array.getElem?_modify,if_neg hqi]; exact q2,q3⟩
          refine ⟨_,?_,hx⟩
          have hkey : ((en[q]?).map (·.key)).getD (.int kk n) = .int kk n := by rw [g4']; simpa using g5
          simp only [Instr.mapUpdate,Sem.run_bind,run_und ok ht,Result.andThen_ok,hget,hck 9999,Instr.findKey,run_und ok hkt,g1,Sem.run_pure,hkey,Instr.keyThatStays,Instr.sameBits,beq_self_eq_true,Bool.and_self,if_true]
          simp [setObj,Sem.run,wput,h1]
        · rename_i hf
          cases hs
          have g1 := find_now (kt := ik) (en := en.toList) hf hl (fun j p hj => by
            rcases h3 j p hj with e | ⟨a,b,c,d,e,q1,q2,q3⟩
            · exact .inl e
            · exact .inr ⟨a,b,c,d,e,q1,by simpa using q2,q3⟩)
          simp only at g1
          have hx := Nx.obj (o' := .map (en.push { key := .int kk n,val := .int vk x,born := cl }) (cl + 1)) (bx' := .map (es ++ [(.int kk n, .int vk x)])) h hβ (canW_ro hcw) hb h1 rfl (fun w1 hw1 => by simp [rowSize,hw1,h1]) fun x' => by
            refine ⟨rfl,_,cl + 1,by simp only [wput]; rw [Array.getElem?_setIfInBounds_self_of_lt (h.lt k r 0 hβ)],by simp [h2],fun i p hp => ?_⟩
            rw [List.getElem?_append] at hp
            split at hp
            · rename_i hi
              rcases h3 i p hp with e | ⟨a,b,c,d,e,q1,q2,q3⟩
              · exact .inl e
              · exact .inr ⟨a,b,c,d,e,q1,by rw [Array.getElem?_push,if_neg (by omega)]; exact q2,q3⟩
            · rename_i hi
              have hi2 : i - es.length = 0 := by
                rcases Nat.eq_zero_or_pos (i - es.length) with h' | h'
                · exact h'
                · rw [List.getElem?_eq_none (by simp; omega)] at hp; cases hp
              rw [hi2] at hp
              simp at hp
              subst hp
              exact .inr ⟨kk,n,vk,x,_,rfl,by rw [Array.getElem?_push,if_pos (by omega)],rfl,rfl⟩
          refine ⟨_,?_,hx⟩
          simp only [Instr.mapUpdate,Sem.run_bind,run_und ok ht,Result.andThen_ok,hget,hck 9999,Instr.findKey,run_und ok hkt,g1,Sem.run_pure]
          simp [setObj,Sem.run,wput,h1]
        · cases hs
      · cases hs
    · cases hs
  · rename_i kt e k cs ht
    split at hs
    · rename_i fs hkt hb
      split at hs
      · rename_i hcw
        simp only [Bool.and_eq_true] at hcw
        cases hs
        obtain ⟨r,rfl,hat⟩ := vr_mp hm
        obtain ⟨base,hβ⟩ := hat (by simp [St.x,St.ver,hb,boxVer])
        have hβ : β k = some (r,base) := hβ
        obtain ⟨rfl,en,cl,h1,h2,h3⟩ := h.box k r base _ hβ hb
        have hen : en = #[] := by simpa using h2
        subst hen
        have hget : (getObj r).run P w = .ok (.map #[] cl) w := by simp [getObj,Sem.run,h1]
        have hx := Nx.obj (o' := .map (#[].push { key := uk,val := uv,born := cl }) (cl + 1)) (bx' := .map [(.junk, .junk)]) h hβ (canW_ro hcw.1) hb h1 rfl (fun w1 hw1 => by simp [rowSize,hw1,h1]) fun x' => by
          refine ⟨rfl,_,cl + 1,by simp only [wput]; rw [Array.getElem?_setIfInBounds_self_of_lt (h.lt k r 0 hβ)],by simp,fun i p hp => ?_⟩
          cases i with
          | zero => simp at hp; subst hp; exact .inl rfl
          | succ i => simp at hp
        refine ⟨_,?_,hx⟩
        simp only [Instr.mapUpdate,Sem.run_bind,run_und ok ht,Result.andThen_ok,hget,key_ok ok hk hkt hcw.2 false,Instr.findKey,run_und ok hkt,Instr.findNow,Sem.run_pure]
        simp [setObj,Sem.run,wput,h1]
      · cases hs
    · cases hs
  · cases hs
theorem lookup_ok {w : World} {st : St} {β : Nat -> Option (Nat × Nat)} {Z : Nat -> Prop} (h : Sim w st β Z) {t : Nat} {m key r : D} {um uk : Value} (hm : VR w (st.x β Z) m um) (hk : VR w (st.x β Z) key uk) (hs : lookupD pv t m key st = some r) :
    ∃ z,(Instr.lookup t um uk false).run P w = .ok z w /\ VR w (st.x β Z) r z := by
  unfold lookupD at hs
  split at hs
  · rename_i kt e k kk n ht
    split at hs
    · rename_i ik es hkt hb
      obtain ⟨a,rfl,hat⟩ := vr_mp hm
      obtain ⟨base,hβ⟩ := hat (by simp [St.x,St.ver,hb,boxVer])
      have hβ : β k = some (a,base) := hβ
      have := vr_int hk; subst this
      obtain ⟨rfl,en,cl,h1,h2,h3⟩ := h.box k a base _ hβ hb
      have hl : en.toList.length = es.length := by simpa using h2
      have hck : ∀ b,(Instr.checkKey b 10000 kt (.int kk n)).run P w = .ok () w := by
        intro b
        unfold Instr.checkKey
        simp only [Sem.run_bind,run_und ok hkt,Result.andThen_ok,Sem.run_pure]
      have hget : (getObj a).run P w = .ok (.map en cl) w := by simp [getObj,Sem.run,h1]
      split at hs
      · rename_i q d hf
        cases hs
        obtain ⟨vv,g1,g2,g3,⟨vk',x',rfl,rfl⟩,e0,g4,g5⟩ := find_now (kt := ik) (en := en.toList) hf hl (fun j p hj => by
          rcases h3 j p hj with e | ⟨a,b,c,d,e,q1,q2,q3⟩
          · exact .inl e
          · exact .inr ⟨a,b,c,d,e,q1,by simpa using q2,q3⟩)
        refine ⟨.int vk' x',?_, .im _ _ (.int _ _)⟩
        simp only [Instr.lookup,Sem.run_bind,run_und ok ht,Result.andThen_ok,hget,Sem.run_pure,hck,Instr.findKey,run_und ok hkt,g1]
        rfl
      · rename_i hf
        obtain ⟨z,hz,hzz⟩ := run_zero ok hs w
        have g1 := find_now (kt := ik) (en := en.toList) hf hl (fun j p hj => by
          rcases h3 j p hj with e | ⟨a,b,c,d,e,q1,q2,q3⟩
          · exact .inl e
          · exact .inr ⟨a,b,c,d,e,q1,by simpa using q2,q3⟩)
        simp only at g1
        refine ⟨z,?_,by rw [hzz]; exact .im _ _ (ofVal_ir _ _ z)⟩
        simp only [Instr.lookup,Sem.run_bind,run_und ok ht,Result.andThen_ok,hget,Sem.run_pure,hck,Instr.findKey,run_und ok hkt,g1,hz]
        rfl
      · cases hs
    · cases hs
  · rename_i kt e k cs ht
    split at hs
    · rename_i fs hkt hb
      split at hs
      · rename_i hko
        obtain ⟨a,rfl,hat⟩ := vr_mp hm
        obtain ⟨base,hβ⟩ := hat (by simp [St.x,St.ver,hb,boxVer])
        have hβ : β k = some (a,base) := hβ
        obtain ⟨rfl,en,cl,h1,h2,h3⟩ := h.box k a base _ hβ hb
        have hen : en = #[] := by simpa using h2
        subst hen
        have hget : (getObj a).run P w = .ok (.map #[] cl) w := by simp [getObj,Sem.run,h1]
        obtain ⟨z,hz,hzz⟩ := run_zero ok hs w
        refine ⟨z,?_,by rw [hzz]; exact .im _ _ (ofVal_ir _ _ z)⟩
        simp only [Instr.lookup,Sem.run_bind,run_und ok ht,Result.andThen_ok,hget,Sem.run_pure,key_ok ok hk hkt hko,Instr.findKey,run_und ok hkt,Instr.findNow,hz]
        rfl
      · cases hs
    · cases hs
  · cases hs
theorem range_ok {w : World} {st st' : St} {β : Nat -> Option (Nat × Nat)} {Z : Nat -> Prop} (h : Sim w st β Z) {t : Nat} {d r : D} {u : Value} (hu : VR w (st.x β Z) d u) (hs : rangeD pv t d st = some (r,st')) :
    ∃ z w' β',(Instr.range t u).run P w = .ok z w' /\ Nx w st β Z w' st' β' Z /\ VR w' (st'.x β' Z) r z /\ Quiet w w' := by
  unfold rangeD at hs
  split at hs
  · rename_i l ht
    cases hs
    rw [vr_str hu]
    have hx := Nx.push (w' := w.alloc (.stringIter ⟨l.toArray⟩ 0)) h (.stringIter ⟨l.toArray⟩ 0) rfl rfl rfl rfl (.iter l 0) (fun _ => ⟨rfl,by
      show (w.heap.push _)[w.heap.size]? = _
      simp⟩)
    refine ⟨.pointer (some ⟨w.heap.size,0,none⟩),_,_,?_,hx,?_,Quiet.push rfl⟩
    · simp only [Instr.range,Sem.run_bind,run_und ok ht,Result.andThen_ok,Sem.run_pure,run_newObj]; rfl
    · refine .ptr _ _ _ _ ⟨_,by simp [St.x,bpush]; rfl⟩ (fun c _ => Nat.zero_le _) fun _ => ⟨w.heap.size,0,by simp [St.x,bpush],rfl⟩
  · cases hs
omit ok in
theorem next_ok {w : World} {st st' : St} {β : Nat -> Option (Nat × Nat)} {Z : Nat -> Prop} (h : Sim w st β Z) {b : Bool} {ty : TypeId} {d r : D} {u : Value} (hu : VR w (st.x β Z) d u) (hs : nextD d b st = some (r,st')) :
    ∃ z w',(Instr.next u b ty).run P w = .ok z w' /\ Nx w st β Z w' st' β Z /\ VR w' (st'.x β Z) r z := by
  unfold nextD at hs
  split at hs
  · rename_i k
    split at hs
    · rename_i l pos hb
      obtain ⟨a,rfl,hk,hat⟩ := vr_pointer hu
      have hver : st.ver k = some 0 := by simp [St.ver,hb,boxVer]
      obtain ⟨b,base,hβ0,rfl⟩ := hat hver
      have hβ : β k = some (b,base) := hβ0
      clear hβ0
      obtain ⟨rfl,hheap⟩ := h.box k b base _ hβ hb
      have hbl := h.lt k b 0 hβ
      have hsz : (⟨l.toArray⟩ : ByteArray).size = l.length := by simp [ByteArray.size]
      split at hs
      · rename_i hp
        split at hs
        · rename_i hcw
          cases hs
          have hkl := h.dom k b 0 hβ
          let w' : World := { w with heap := w.heap.setIfInBounds b (.stringIter ⟨l.toArray⟩ (pos + (Utf8.decode ⟨l.toArray⟩ pos).2)) }
          have hne : ∀ i,i ≠ b -> w'.heap[i]? = w.heap[i]? := by
            intro i hi
            show (w.heap.setIfInBounds b _)[i]? = _
            rw [Array.getElem?_setIfInBounds_ne (by omega)]
          have heq : w'.heap[b]? = some (.stringIter ⟨l.toArray⟩ (pos + (Utf8.decode ⟨l.toArray⟩ pos).2)) := by
            show (w.heap.setIfInBounds b _)[b]? = _
            rw [Array.getElem?_setIfInBounds_self_of_lt hbl]
          have hverk : ∀ i,({ st with bs := st.bs.set k (.iter l (pos + (Utf8.decode ⟨l.toArray⟩ pos).2)) } : St).ver i = st.ver i := by
            intro i
            simp only [St.ver]
            by_cases hik : i = k
            · subst hik; rw [List.getElem?_set_self hkl,hb]; rfl
            · rw [List.getElem?_set_ne (by omega)]
          have hkp : Keeps w (st.x β Z) w' (({ st with bs := st.bs.set k (.iter l (pos + (Utf8.decode ⟨l.toArray⟩ pos).2)) } : St).x β Z) := by
            refine ⟨fun i p hp => ⟨p,hp⟩,fun i hi => ⟨hi,hne i fun e => h.zd k b 0 hβ (e ▸ hi)⟩,fun i q p hi hq => ⟨q,?_,Nat.le_refl _⟩,fun i q hq hq' i' y hy => ⟨hy,?_⟩⟩
            · have := hverk i; show st.ver i = some q; rw [<- this]; exact hq
            · by_cases e : i' = b
              · subst e; simp [rowSize,heq,hheap]
              · exact rowSize_eq (hne i' e)
          refine ⟨.tuple #[.bool true, .int .i64 pos, .int .i32 (Utf8.decode ⟨l.toArray⟩ pos).1],w',?_,⟨⟨?_,?_,h.inj,h.zd,?_,?_,?_,?_⟩,hkp,⟨rfl,rfl,rfl,by simp [w'],fun i _ hn => hne i fun e => hn ⟨k,0,e ▸ hβ,canW_ro hcw⟩⟩,
            fun i q y hq => .inl ⟨y,hq⟩,fun _ hz => .inl hz,by simp,rfl,rfl,?_,fun i _ h0 => by
              have : i ≠ k := fun e => by subst e; rw [hβ] at h0; cases h0
              dsimp only
              rw [List.getElem?_set_ne (by omega)]
              exact ⟨h0,rfl⟩⟩,?_⟩
          · simp only [Instr.next,Sem.run_bind,getObj,setObj]
            simp [Sem.run,hheap,hsz,hp,goInt,w']
          · intro i q y hq; simp; exact h.dom i q y hq
          · intro i q y hq; simp only [w',Array.size_setIfInBounds]; exact h.lt i q y hq
          · intro i hi; simp only [w',Array.size_setIfInBounds]; exact h.zl i hi
          · intro i q y bx hq hbx
            try dsimp only at hbx
            by_cases hik : i = k
            · subst hik
              rw [List.getElem?_set_self hkl] at hbx; cases hbx
              rw [hβ] at hq; cases hq
              exact ⟨rfl,heq⟩
            · rw [List.getElem?_set_ne (by omega)] at hbx
              exact (h.box i q y bx hq hbx).keep hkp (hne q fun e => hik (h.inj i k q _ _ hq (e ▸ hβ)))
          · have := h.flr; simp; omega
          · have := h.ro; simp; omega
          · intro i hi
            have := canW_ro hcw
            dsimp only
            rw [List.getElem?_set_ne (by omega)]
            exact ⟨rfl,rfl⟩
          · refine .im _ _ (.tup _ [.bool true, .int .i64 pos, .int .i32 (Utf8.decode ⟨l.toArray⟩ pos).1] rfl fun i c v hc hv => ?_)
            match i with
            | 0 => simp at hc hv; subst hc; subst hv; exact .bool _
            | 1 => simp at hc hv; subst hc; subst hv; exact .int _ _
            | 2 => simp at hc hv; subst hc; subst hv; exact .int _ _
            | i + 3 => simp at hc
        · cases hs
      · rename_i hp
        cases hs
        refine ⟨.tuple #[.bool false],w,?_,Nx.same h, .im _ _ (.tup _ [.bool false] rfl fun i c v hc hv => ?_)⟩
        · simp only [Instr.next,Sem.run_bind,getObj]
          simp [Sem.run,hheap,hsz,hp]
        · match i with
          | 0 => simp at hc hv; subst hc; subst hv; exact .bool _
          | i + 1 => simp at hc
    · cases hs
  · cases hs
end
end Go.V
namespace Go.V
open Go.RowKit
def Did (P : Program) (a : Act) (o : Oper) (w : World) (v : Value) (w' : World) : Prop :=
  (execOp a.eval o).run P w = .ok (.value v) w' \/ ((execOp a.eval o).run P w = .ok .skip w' /\ v = undef)
def isRo (pv : Pv) (f : Nat) : Bool :=
  match pv.fi f with
  | some x => match x.mode with
    | .ro | .nw => true
    | _ => false
  | none => false
def effB (pv : Pv) (o : Oper) : Bool :=
  match o.op with
  | .store _ _ _ => true
  | .next _ _ => true
  | .convert s t _ => markB pv s t
  | .insert _ _ _ _ => true
  | .mapUpdate _ _ _ _ => true
  | .call ⟨.builtin b,_,_⟩ => match b with
    | .len | .min | .max => false
    | _ => true
  | .call ⟨.value (.func f),_,_⟩ => !isRo pv f
  | .call _ => true
  | _ => false
theorem fold_ok {P : Program} {w : World} {x : X} (isMin : Bool) : ∀ (ds : List D) (us : List Value) {d r : D} {u : Value},ds.length = us.length -> (∀ (i : Nat) c v,ds[i]? = some c -> us[i]? = some v -> VR w x c v) -> VR w x d u -> foldD (min2D isMin) d ds = some r ->
    ∃ z,(us.foldlM (if isMin then Builtin.min2 else Builtin.max2) u).run P w = .ok z w /\ VR w x r z
  | [],us,d,r,u,hl,_,hd,hf => by
    cases us with
    | nil => simp [foldD] at hf; subst hf; exact ⟨u,by simp,hd⟩
    | cons v us => simp at hl
  | e :: ds,us,d,r,u,hl,hr,hd,hf => by
    cases us with
    | nil => simp at hl
    | cons v us =>
      simp only [foldD] at hf
      obtain ⟨m,hm,hf⟩ := Option.bind_eq_some_iff.1 hf
      have he := hr 0 e v rfl rfl
      unfold min2D at hm
      split at hm
      · rename_i k a k' b
        cases hm
        rw [vr_int hd,vr_int he]
        have hz : VR w x (.int k (if isMin then (if b < a then b else a) else (if b > a then b else a))) (.int k (if isMin then (if b < a then b else a) else (if b > a then b else a))) := .im _ _ (.int _ _)
        obtain ⟨z,h1,h2⟩ := fold_ok (P := P) isMin ds us (by simpa using hl) (fun i c v hc hv => hr (i + 1) c v hc hv) hz hf
        refine ⟨z,?_,h2⟩
        simp only [List.foldlM_cons,Sem.run_bind]
        cases isMin <;> simp [Builtin.min2,Builtin.max2] at h1 ⊢ <;> exact h1
      · cases hm
theorem lenD_ok {w : World} {x : X} {d : D} {u : Value} {n : Nat} (hu : VR w x d u) (h : lenD d = some n) (hs : ∀ s,d ≠ .str s) : ∃ a c,u = .slice a n c := by
  cases d with
  | sl es => obtain ⟨a,c,rfl,_⟩ := vr_sl hu; simp [lenD] at h; subst h; exact ⟨a,c,rfl⟩
  | nul => simp [lenD] at h; subst h; exact ⟨_,_,vr_nul hu⟩
  | win k v o l s => obtain ⟨a,c,rfl,_⟩ := vr_win hu; simp [lenD] at h; subst h; exact ⟨_,_,rfl⟩
  | str s => exact absurd rfl (hs s)
  | _ => simp [lenD] at h
section
variable {pv : Pv} {P : Program} (ok : pv.Ok P)
include ok
theorem clear_ok {w : World} {st st' : St} {β : Nat -> Option (Nat × Nat)} {Z : Nat -> Prop} (h : Sim w st β Z) {ats : List TypeId} {ty : TypeId} {d r : D} {u : Value} (hu : VR w (st.x β Z) d u)
    (hs : clearD pv ats d st = some (r,st')) : ∃ z w',(Builtin.clear_ ats.toArray ty #[u]).run P w = .ok z w' /\ Nx w st β Z w' st' β Z /\ VR w' (st'.x β Z) r z := by
  unfold clearD at hs
  split at hs
  · rename_i dT rest
    split at hs
    · rename_i e hdt
      split at hs
      · cases hs
        rw [vr_nul hu]
        refine ⟨.tuple #[],w,?_,Nx.same h, .im _ _ (.tup [] [] rfl (by simp))⟩
        simp only [Builtin.clear_,List.getElem?_toArray,List.getElem?_cons_zero,Sem.run_bind,run_und ok hdt,Result.andThen_ok,Sem.run_pure]
      · rename_i k ver off len sz
        obtain ⟨z,hz,hs⟩ := Option.bind_eq_some_iff.1 hs
        split at hs
        · rename_i hzl
          obtain ⟨st1,hwr,hs⟩ := Option.map_eq_some_iff.1 hs
          cases hs
          obtain ⟨a,cap,rfl,hc,hk,_,hat⟩ := vr_win hu
          have hver : st.ver k = some ver := by
            unfold St.wr at hwr
            split at hwr
            · rename_i hm; exact (mem_spec hm).2
            · cases hwr
          obtain ⟨b,base,sz',hb,_,had⟩ := hat hver
          obtain ⟨zv,hzv,hzc⟩ := zero_cells ok w (st.x β Z) hz
          have hvs : zv.cells.toList.length = sz := by rw [<- hzc.len,hzl]
          obtain ⟨q1,q2⟩ := zeros_lr hzc len len (Nat.le_refl _) hvs _ rfl
          have hcells : ((Array.range (len * sz)).map (zv.cells.toList.toArray[· % zv.cells.toList.toArray.size]!)) = Builtin.zeroCells zv.cells len := by
            have : zv.cells.size = sz := by rw [<- hvs]; simp
            simp [Builtin.zeroCells,this]
          rw [hcells] at q1 q2
          have hlr : LR w (st.x β Z) (repl len z) (Builtin.zeroCells zv.cells len).toList := by
            refine ⟨by rw [repl_len,hzl,Array.length_toList,q1],fun u hu => ?_,fun i c u hc' hu => ?_⟩
            · obtain ⟨j,hj⟩ := List.getElem?_of_mem hu
              have hjl : j < len * sz := by
                rcases Nat.lt_or_ge j (len * sz) with h' | h'
                · exact h'
                · rw [List.getElem?_eq_none (by rw [Array.length_toList,q1]; exact h')] at hj; cases hj
              obtain ⟨u',hu1,hu2,_⟩ := q2 j _ (List.getElem?_eq_getElem (by rw [repl_len,hzl]; exact hjl))
              rw [Array.getElem?_toList] at hj
              rw [hj] at hu1; cases hu1; exact hu2
            · obtain ⟨u',hu1,_,hu3⟩ := q2 i c hc'
              rw [Array.getElem?_toList] at hu
              rw [hu] at hu1; cases hu1; exact hu3
          have hla : len = 0 \/ (Builtin.zeroCells zv.cells len).toList = [] \/ a = ⟨b,base + off,none⟩ := by
            rcases had with rfl | ⟨rfl,_⟩
            · exact .inl (by omega)
            · exact .inr (.inr rfl)
          rcases hla with rfl | hla
          · have h0 : (Builtin.zeroCells zv.cells 0).toList = [] := by simp [Builtin.zeroCells]
            rw [h0] at hlr
            obtain ⟨w',h3,β',h4,rfl⟩ := wr_ok (P := P) (a := ⟨b,base + off,none⟩) h hlr hwr hb (.inl rfl)
            simp only [storeCells,Sem.run_pure,Result.ok.injEq,true_and] at h3
            subst h3
            refine ⟨.tuple #[],w,?_,h4, .im _ _ (.tup [] [] rfl (by simp))⟩
            simp only [Builtin.clear_,List.getElem?_toArray,List.getElem?_cons_zero,Sem.run_bind,run_und ok hdt,Result.andThen_ok,Sem.run_pure]
          · obtain ⟨w',h3,β',h4,rfl⟩ := wr_ok (P := P) h hlr hwr hb hla
            refine ⟨.tuple #[],w',?_,h4, .im _ _ (.tup [] [] rfl (by simp))⟩
            cases len with
            | zero =>
              have h0 : (Builtin.zeroCells zv.cells 0).toList = [] := by simp [Builtin.zeroCells]
              rw [h0] at h3
              simp only [storeCells,Sem.run_pure,Result.ok.injEq,true_and] at h3
              subst h3
              simp only [Builtin.clear_,List.getElem?_toArray,List.getElem?_cons_zero,Sem.run_bind,run_und ok hdt,Result.andThen_ok,Sem.run_pure]
            | succ len =>
              simp only [Builtin.clear_,List.getElem?_toArray,List.getElem?_cons_zero,Sem.run_bind,run_und ok hdt,Result.andThen_ok,hzv,h3,Sem.run_pure]
        · cases hs
      · cases hs
    · cases hs
  · cases hs
theorem builtin_ok {w : World} {st st' : St} {β : Nat -> Option (Nat × Nat)} {Z : Nat -> Prop} (h : Sim w st β Z) {b : Builtin} {ats : List TypeId} {ds : List D} {us : List Value} {ty : TypeId} {cs : Array Bool} {r : D} (hl : ds.length = us.length)
    (hr : ∀ (i : Nat) c v,ds[i]? = some c -> us[i]? = some v -> VR w (st.x β Z) c v) (hs : builtinD pv b ats ds st = some (r,st')) :
    ∃ z w' β',(builtin b ats.toArray ty cs us.toArray).run P w = .ok (.value z) w' /\ Nx w st β Z w' st' β' Z /\ VR w' (st'.x β' Z) r z /\ (b = .len \/ b = .min \/ b = .max -> Quiet w w') := by
  unfold builtinD at hs
  split at hs
  · rename_i d
    obtain ⟨u,rfl⟩ : ∃ u,us = [u] := by
      match us,hl with
      | [u],_ => exact ⟨u,rfl⟩
    have hu := hr 0 d u rfl rfl
    split at hs
    · rename_i t rest
      split at hs
      · rename_i ht
        split at hs
        · rename_i s
          cases hs
          rw [vr_str hu]
          refine ⟨.int .i64 s.length,w,β,?_,Nx.same h, .im _ _ (.int _ _),fun _ => Quiet.refl _⟩
          have hsz : (⟨s.toArray⟩ : ByteArray).size = s.length := by simp [ByteArray.size]
          simp [builtin,Builtin.len_,run_und ok ht,goInt,hsz]
        · cases hs
      · rename_i e ht
        split at hs
        · cases hs
        · rename_i hns
          split at hs
          · rename_i n hn
            cases hs
            obtain ⟨a,c,e⟩ := lenD_ok hu hn hns
            refine ⟨.int .i64 n,w,β,?_,Nx.same h, .im _ _ (.int _ _),fun _ => Quiet.refl _⟩
            rw [e]
            simp [builtin,Builtin.len_,run_und ok ht,goInt]
          · cases hs
      · rename_i n e ht
        cases hs
        refine ⟨.int .i64 n,w,β,?_,Nx.same h, .im _ _ (.int _ _),fun _ => Quiet.refl _⟩
        cases u <;> simp [builtin,Builtin.len_,run_und ok ht,goInt]
      · cases hs
    · cases hs
  · rename_i d e
    obtain ⟨u,v,rfl⟩ : ∃ u v,us = [u,v] := by
      match us,hl with
      | [u,v],_ => exact ⟨u,v,rfl⟩
    obtain ⟨z,w',β',h1,h2,h3⟩ := append_ok ok h (ty := ty) (hr 0 d u rfl rfl) (hr 1 e v rfl rfl) hs
    exact ⟨z,w',β',by simp [builtin,h1],h2,h3,fun e => by simp at e⟩
  · rename_i d e
    obtain ⟨u,v,rfl⟩ : ∃ u v,us = [u,v] := by
      match us,hl with
      | [u,v],_ => exact ⟨u,v,rfl⟩
    obtain ⟨z,w',h1,h2,h3⟩ := copy_ok ok h (ty := ty) (hr 0 d u rfl rfl) (hr 1 e v rfl rfl) hs
    exact ⟨z,w',β,by simp [builtin,h1],h2,h3,fun e => by simp at e⟩
  · rename_i d
    obtain ⟨u,rfl⟩ : ∃ u,us = [u] := by
      match us,hl with
      | [u],_ => exact ⟨u,rfl⟩
    obtain ⟨z,w',h1,h2,h3⟩ := clear_ok ok h (ty := ty) (hr 0 d u rfl rfl) hs
    exact ⟨z,w',β,by simp [builtin,h1],h2,h3,fun e => by simp at e⟩
  · rename_i d l
    obtain ⟨u,vs,rfl⟩ : ∃ u vs,us = u :: vs := by
      match us,hl with
      | u :: vs,_ => exact ⟨u,vs,rfl⟩
    obtain ⟨m,hm,hs⟩ := Option.map_eq_some_iff.1 hs
    cases hs
    obtain ⟨z,h1,h2⟩ := fold_ok (P := P) true l vs (by simpa using hl) (fun i c v hc hv => hr (i + 1) c v hc hv) (hr 0 d u rfl rfl) hm
    exact ⟨z,w,β,by simp only [if_true] at h1; simp [builtin,Builtin.min_,h1],Nx.same h,h2,fun _ => Quiet.refl _⟩
  · rename_i d l
    obtain ⟨u,vs,rfl⟩ : ∃ u vs,us = u :: vs := by
      match us,hl with
      | u :: vs,_ => exact ⟨u,vs,rfl⟩
    obtain ⟨m,hm,hs⟩ := Option.map_eq_some_iff.1 hs
    cases hs
    obtain ⟨z,h1,h2⟩ := fold_ok (P := P) false l vs (by simpa using hl) (fun i c v hc hv => hr (i + 1) c v hc hv) (hr 0 d u rfl rfl) hm
    exact ⟨z,w,β,by simp only [Bool.false_eq_true,if_false] at h1; simp [builtin,Builtin.max_,h1],Nx.same h,h2,fun _ => Quiet.refl _⟩
  · cases hs
omit ok in
theorem evs_ok {w : World} {x : X} {fr : Fr} {a : Act} (hf : FrR w x fr a.tmps) (l : List Operand) : ∀ (i : Nat) c v,(l.map fr.ev)[i]? = some c -> (l.map a.eval)[i]? = some v -> VR w x c v := by
  intro i c v hc hv
  rw [List.getElem?_map] at hc hv
  cases hl : l[i]? with
  | none => simp [hl] at hc
  | some o => simp [hl] at hc hv; subst hc; subst hv; exact ev_ok hf o
omit ok in
theorem parts_ok {w : World} {x : X} {fr : Fr} {a : Act} (hf : FrR w x fr a.tmps) (l : List (Nat × Operand)) : ∀ (i : Nat) p q,(l.map fun p => (p.1,fr.ev p.2))[i]? = some p -> (l.map fun p => (p.1,a.eval p.2))[i]? = some q -> p.1 = q.1 /\ VR w x p.2 q.2 := by
  intro i p q hp hq
  rw [List.getElem?_map] at hp hq
  cases hl : l[i]? with
  | none => simp [hl] at hp
  | some o => simp [hl] at hp hq; subst hp; subst hq; exact ⟨rfl,ev_ok hf _⟩
theorem op_ok {w : World} {st st' : St} {β : Nat -> Option (Nat × Nat)} {Z : Nat -> Prop} (h : Sim w st β Z) {fr : Fr} {a : Act} (hf : FrR w (st.x β Z) fr a.tmps) {o : Oper} {d : D} (hs : opD pv fr st o.op o.type = some (d,st')) :
    ∃ v w' β',Did P a o w v w' /\ Nx w st β Z w' st' β' Z /\ VR w' (st'.x β' Z) d v /\ (effB pv o = false -> Quiet w w') := by
  obtain ⟨dst,op,ty,pos,after,guard⟩ := o
  have pure1 : ∀ {s : Sem Value} {d : D} {v : Value},execOp a.eval ⟨dst,op,ty,pos,after,guard⟩ = (do pure (.value (<- s)) : Sem Next) -> s.run P w = .ok v w -> VR w (st.x β Z) d v ->
      ∃ v w' β',Did P a ⟨dst,op,ty,pos,after,guard⟩ w v w' /\ Nx w st β Z w' st β' Z /\ VR w' (st.x β' Z) d v /\ (effB pv ⟨dst,op,ty,pos,after,guard⟩ = false -> Quiet w w') := by
    intro s d v he hr hv
    exact ⟨v,w,β, .inl (by rw [he]; simp [hr]),Nx.same h,hv,fun _ => Quiet.refl _⟩
  have full : ∀ {s : Sem Value} {d : D} {st' : St},execOp a.eval ⟨dst,op,ty,pos,after,guard⟩ = (do pure (.value (<- s)) : Sem Next) -> (∃ z w' β',s.run P w = .ok z w' /\ Nx w st β Z w' st' β' Z /\ VR w' (st'.x β' Z) d z /\ Quiet w w') ->
      ∃ v w' β',Did P a ⟨dst,op,ty,pos,after,guard⟩ w v w' /\ Nx w st β Z w' st' β' Z /\ VR w' (st'.x β' Z) d v /\ (effB pv ⟨dst,op,ty,pos,after,guard⟩ = false -> Quiet w w') := by
    rintro s d st' he ⟨z,w',β',h1,h2,h3,h4⟩
    exact ⟨z,w',β', .inl (by rw [he]; simp [h1]),h2,h3,fun _ => h4⟩
  have ev := fun o => ev_ok hf o
  simp only at hs
  unfold opD at hs
  split at hs
  · rename_i x; cases hs; exact ⟨a.eval x,w,β, .inl rfl,Nx.same h,ev x,fun _ => Quiet.refl _⟩
  · rename_i x; cases hs; exact ⟨a.eval x,w,β, .inl rfl,Nx.same h,ev x,fun _ => Quiet.refl _⟩
  · rename_i c p q
    have hc := ev c
    split at hs
    · rename_i hb; cases hs; rw [hb] at hc
      exact pure1 (s := do pure (if <- asBool (a.eval c) then a.eval p else a.eval q)) (by simp [execOp]) (by rw [vr_bool hc]; simp [asBool]) (ev p)
    · rename_i hb; cases hs; rw [hb] at hc
      exact pure1 (s := do pure (if <- asBool (a.eval c) then a.eval p else a.eval q)) (by simp [execOp]) (by rw [vr_bool hc]; simp [asBool]) (ev q)
    · cases hs
  · rename_i e
    obtain ⟨cs,hz,hs⟩ := Option.map_eq_some_iff.1 hs
    cases hs
    exact full rfl (alloc_ok ok h hz)
  · rename_i e x
    obtain ⟨cs,hz,hs⟩ := Option.map_eq_some_iff.1 hs
    cases hs
    exact full rfl (new_ok (P := P) h (cells_ok (ev x) hz) e)
  · rename_i t parts
    obtain ⟨r,hb,hs⟩ := Option.map_eq_some_iff.1 hs
    cases hs
    obtain ⟨z,h1,h2⟩ := build_ok ok (parts' := parts.toList.map fun p => (p.1,a.eval p.2)) (by simp) (parts_ok hf _) hb
    refine pure1 rfl ?_ h2
    have : (parts.map fun (x : Nat × Operand) => match x with | (i,x) => (i,a.eval x)) = (parts.toList.map fun p => (p.1,a.eval p.2)).toArray := by
      apply Array.ext'; simp
    simp only [this]; exact h1
  · rename_i t len parts
    have hb := buildSlice_ok ok h (parts' := parts.toList.map fun p => (p.1,a.eval p.2)) (by simp) (parts_ok hf _) hs
    have : (parts.map fun (x : Nat × Operand) => match x with | (i,x) => (i,a.eval x)) = (parts.toList.map fun p => (p.1,a.eval p.2)).toArray := by
      apply Array.ext'; simp
    refine full (s := Instr.buildSlice t len (parts.map fun (x : Nat × Operand) => match x with | (i,x) => (i,a.eval x))) rfl ?_
    rw [this]; exact hb
  · rename_i t ad
    obtain ⟨r,hl,hs⟩ := Option.map_eq_some_iff.1 hs
    cases hs
    have hv := ev ad
    unfold loadD at hl
    split at hl
    · rename_i k ver off hd
      rw [hd] at hv
      obtain ⟨⟨ar,c⟩,hm,hl⟩ := Option.bind_eq_some_iff.1 hl
      obtain ⟨p,hp,_,hat⟩ := vr_pointer hv
      obtain ⟨b,base,hb,rfl⟩ := hat (mem_spec hm).2
      obtain ⟨z,h1,h2⟩ := take_ok ok ((h.cells hm hb).drop off) hl
      refine pure1 rfl ?_ h2
      rw [hp]; simp [Instr.loadAt,Instr.sureAddr,h1]
    · rename_i c hd
      rw [hd] at hv
      obtain ⟨b,off,hp,_,hc,_⟩ := vr_ep hv
      obtain ⟨z,h1,h2⟩ := take_ok ok hc hl
      refine pure1 rfl ?_ h2
      rw [hp]; simp [Instr.loadAt,Instr.sureAddr,h1]
    · cases hl
  · rename_i t ad x
    obtain ⟨st1,hst,hs⟩ := Option.map_eq_some_iff.1 hs
    cases hs
    obtain ⟨w',h1,h2⟩ := store_ok ok h (ev ad) (ev x) hst
    exact ⟨undef,w',β, .inr ⟨by simp [execOp,h1],rfl⟩,h2, .im _ _ (.tup [] [] rfl (by simp)),fun e => by simp [effB] at e⟩
  · rename_i x
    have hv := ev x
    split at hs
    · rename_i k v o hd; cases hs; rw [hd] at hv
      obtain ⟨p,hp,_⟩ := vr_pointer hv
      exact ⟨a.eval x,w,β, .inl (by simp [execOp,hp]),Nx.same h,hv,fun _ => Quiet.refl _⟩
    · rename_i c hd; cases hs; rw [hd] at hv
      obtain ⟨b,off,hp,_⟩ := vr_ep hv
      exact ⟨a.eval x,w,β, .inl (by simp [execOp,hp]),Nx.same h,hv,fun _ => Quiet.refl _⟩
    · rename_i f c hd; cases hs; rw [hd] at hv
      obtain ⟨vs,hp,_⟩ := vr_fn hv
      exact ⟨a.eval x,w,β, .inl (by simp [execOp,hp]),Nx.same h,hv,fun _ => Quiet.refl _⟩
    · cases hs
  · rename_i bop t x y _
    obtain ⟨r,hb,hs⟩ := Option.map_eq_some_iff.1 hs
    cases hs
    obtain ⟨z,h1,h2⟩ := bin_ok ok x y (ev x) (ev y) hb
    exact pure1 rfl h1 h2
  · rename_i uop t x
    obtain ⟨r,hb,hs⟩ := Option.map_eq_some_iff.1 hs
    cases hs
    obtain ⟨z,h1,h2⟩ := un_ok (P := P) (ev x) hb
    exact pure1 rfl h1 h2
  · rename_i s t x
    obtain ⟨z,w',β',h1,h2,h3,h4⟩ := conv_ok ok h (ev x) hs
    exact ⟨z,w',β', .inl (by simp [execOp,h1]),h2,h3,fun e => h4 (by simpa [effB] using e)⟩
  · rename_i f first captured
    split at hs
    · rename_i hfe
      cases hs
      have hfe : first = #[] := by simpa using hfe
      subst hfe
      refine ⟨.func (.func f) #[] (captured.toList.map a.eval).toArray,w,β, .inl ?_,Nx.same h, .fn f _ _ (by simp) (evs_ok hf _),fun _ => Quiet.refl _⟩
      have : captured.map a.eval = (captured.toList.map a.eval).toArray := by apply Array.ext'; simp
      rw [<- this]
      simp [execOp,Instr.makeFunc]
    · cases hs
  · rename_i t l c
    exact full rfl (makeSlice_ok ok h (ev l) (ev c) hs)
  · rename_i t x lo hi
    obtain ⟨r,hb,hs⟩ := Option.map_eq_some_iff.1 hs
    cases hs
    obtain ⟨z,h1,h2⟩ := slice_ok ok h (lo' := lo.map a.eval) (hi' := hi.map a.eval) (ev x) (fun d v e1 e2 => by cases lo with | none => cases e1 | some q => cases e1; cases e2; exact ev q) (fun d v e1 e2 => by cases hi with | none => cases e1 | some q => cases e1; cases e2; exact ev q) (by cases lo <;> rfl) (by cases hi <;> rfl) hb
    exact pure1 rfl h1 h2
  · rename_i t x hi mx
    obtain ⟨r,hb,hs⟩ := Option.map_eq_some_iff.1 hs
    cases hs
    obtain ⟨z,h1,h2⟩ := slice3_ok ok (ev x) (ev hi) (ev mx) hb
    exact pure1 rfl h1 h2
  · rename_i t x f
    obtain ⟨r,hb,hs⟩ := Option.map_eq_some_iff.1 hs
    cases hs
    obtain ⟨z,h1,h2⟩ := fieldAddr_ok ok (ev x) hb
    exact pure1 rfl h1 h2
  · rename_i t x f
    obtain ⟨r,hb,hs⟩ := Option.map_eq_some_iff.1 hs
    cases hs
    obtain ⟨z,h1,h2⟩ := field_ok ok (ev x) hb
    exact pure1 rfl h1 h2
  · rename_i t x i
    obtain ⟨r,hb,hs⟩ := Option.map_eq_some_iff.1 hs
    cases hs
    obtain ⟨z,h1,h2⟩ := indexAddr_ok ok (ev x) (ev i) hb
    exact pure1 rfl h1 h2
  · rename_i t x i
    obtain ⟨r,hb,hs⟩ := Option.map_eq_some_iff.1 hs
    cases hs
    obtain ⟨z,h1,h2⟩ := index_ok ok (ev x) (ev i) hb
    exact pure1 rfl h1 h2
  · rename_i t x
    exact full rfl (range_ok ok h (ev x) hs)
  · rename_i t r
    obtain ⟨z,w',β',h1,h2,h3,h4⟩ := makeMap_ok ok h (u := r.map a.eval) (by cases r <;> simp) (fun d v e1 e2 => by cases r with | none => cases e1 | some q => cases e1; cases e2; exact ev q) hs
    exact ⟨z,w',β', .inl (by simp [execOp,h1]),h2,h3,fun _ => h4⟩
  · rename_i t m k x
    obtain ⟨st1,hst,hs⟩ := Option.map_eq_some_iff.1 hs
    cases hs
    obtain ⟨w',h1,h2⟩ := mapSet_ok ok h (ev m) (ev k) (ev x) hst
    exact ⟨undef,w',β, .inr ⟨by simp [execOp,h1],rfl⟩,h2, .im _ _ (.tup [] [] rfl (by simp)),fun e => by simp [effB] at e⟩
  · rename_i t m k x
    obtain ⟨st1,hst,hs⟩ := Option.map_eq_some_iff.1 hs
    cases hs
    obtain ⟨w',h1,h2⟩ := mapSet_ok ok h (ev m) (ev k) (ev x) hst
    exact ⟨undef,w',β, .inr ⟨by simp [execOp,h1],rfl⟩,h2, .im _ _ (.tup [] [] rfl (by simp)),fun e => by simp [effB] at e⟩
  · rename_i t x i
    obtain ⟨r,hb,hs⟩ := Option.map_eq_some_iff.1 hs
    cases hs
    obtain ⟨z,h1,h2⟩ := lookup_ok ok h (ev x) (ev i) hb
    exact pure1 rfl h1 h2
  · rename_i it s
    obtain ⟨z,w',h1,h2,h3⟩ := next_ok (P := P) (ty := ty) h (ev it) hs
    exact ⟨z,w',β, .inl (by simp [execOp,h1]),h2,h3,fun e => by simp [effB] at e⟩
  · rename_i t i
    have hv := ev t
    split at hs
    · rename_i ds hd
      rw [hd] at hv
      obtain ⟨r,hb,hs⟩ := Option.map_eq_some_iff.1 hs
      cases hs
      obtain ⟨vs,hp,hl,hr⟩ := vr_tup hv
      have hi : i < ds.length := by
        rcases Nat.lt_or_ge i ds.length with h' | h'
        · exact h'
        · rw [List.getElem?_eq_none h'] at hb; cases hb
      have hi' : vs[i]? = some (vs[i]'(by omega)) := List.getElem?_eq_getElem _
      refine pure1 rfl ?_ (hr i _ _ hb hi')
      rw [hp]; simp [Instr.extract,hi']
    · cases hs
  · rename_i b args ats
    have hb := builtin_ok ok h (us := args.toList.map a.eval) (ty := ty) (cs := args.map fun | .const _ => true | _ => false) (by simp) (evs_ok hf _) hs
    obtain ⟨z,w',β',h1,h2,h3,h4⟩ := hb
    refine ⟨z,w',β', .inl ?_,h2,h3,fun e => h4 (by cases b <;> simp [effB] at e ⊢)⟩
    have : args.map a.eval = (args.toList.map a.eval).toArray := by apply Array.ext'; simp
    simp only [Array.toArray_toList] at h1
    simp only [execOp,resolve,invoke,this,Sem.run_bind,Sem.run_pure,Result.andThen_ok]
    exact h1
  · cases hs
end
end Go.V
namespace Go.V
open Go.RowKit
theorem ref_le_refs {d : D} : ∀ {ds : List D},d ∈ ds -> d.ref <= refs ds
  | e :: ds,h => by
    rcases List.mem_cons.1 h with rfl | h
    · simp only [refs]; exact Nat.le_max_left _ _
    · have := ref_le_refs h
      simp only [refs]; exact Nat.le_trans this (Nat.le_max_right _ _)
theorem refs_le {N : Nat} : ∀ {ds : List D},(∀ d ∈ ds,d.ref <= N) -> refs ds <= N
  | [],_ => by simp [refs]
  | d :: ds,h => by
    simp only [refs]
    exact Nat.max_le.2 ⟨h d (List.mem_cons_self ..),refs_le fun e he => h e (List.mem_cons_of_mem _ he)⟩
structure Goes (st st' : St) : Prop where
  len : st.bs.length <= st'.bs.length
  flr : st'.flr = st.flr
  ro : st'.ro = st.ro
  low : ∀ k,k < st.ro -> k < st.bs.length -> st'.bs[k]? = st.bs[k]?
  fl : ∀ k bx bx',k < st.flr -> st.bs[k]? = some bx -> st'.bs[k]? = some bx' -> ∀ d ∈ bx'.cells,d.ref <= max (k + 1) (refs bx.cells)
theorem Goes.refl (st : St) : Goes st st := ⟨Nat.le_refl _,rfl,rfl,fun _ _ _ => rfl,fun _ _ _ _ h h' d hd => by rw [h] at h'; cases h'; exact Nat.le_trans (ref_le_refs hd) (Nat.le_max_right _ _)⟩
theorem lt_of_some {α : Type} {l : List α} {k : Nat} {x : α} (h : l[k]? = some x) : k < l.length := by
  rcases Nat.lt_or_ge k l.length with h' | h'
  · exact h'
  · rw [List.getElem?_eq_none h'] at h; cases h
theorem Goes.trans {a b c : St} (h : Goes a b) (g : Goes b c) : Goes a c :=
  ⟨Nat.le_trans h.len g.len,g.flr.trans h.flr,g.ro.trans h.ro,fun k hk hl => (g.low k (by rw [h.ro]; exact hk) (Nat.lt_of_lt_of_le hl h.len)).trans (h.low k hk hl),fun k bx bx' hk h1 h2 d hd => by
    have hb : k < b.bs.length := Nat.lt_of_lt_of_le (lt_of_some h1) h.len
    have h3 := g.fl k _ bx' (by rw [h.flr]; exact hk) (List.getElem?_eq_getElem hb) h2 d hd
    have h4 : refs (b.bs[k]).cells <= max (k + 1) (refs bx.cells) := refs_le fun e he => h.fl k bx _ hk h1 (List.getElem?_eq_getElem hb) e he
    omega⟩
theorem Goes.push (st : St) (b : Box) : Goes st (st.push b) :=
  ⟨by simp [St.push],rfl,rfl,fun k _ hl => by simp [St.push,List.getElem?_append_left hl],fun k bx bx' _ h1 h2 d hd => by
    simp only [St.push,List.getElem?_append_left (lt_of_some h1)] at h2
    rw [h1] at h2; cases h2; exact Nat.le_trans (ref_le_refs hd) (Nat.le_max_right _ _)⟩
theorem Goes.set (st : St) (k : Nat) (b b0 : Box) (h : st.ro <= k) (h0 : st.bs[k]? = some b0) (hc : st.flr <= k \/ ∀ d ∈ b.cells,d ∈ b0.cells \/ d.ref <= max (k + 1) (refs b0.cells)) : Goes st { st with bs := st.bs.set k b } :=
  ⟨by simp,rfl,rfl,fun i hi _ => by simp only; rw [List.getElem?_set_ne (by omega)],fun i bx bx' hi h1 h2 d hd => by
    by_cases hik : k = i
    · subst hik
      rw [h0] at h1; cases h1
      simp only at h2
      rw [List.getElem?_set_self (lt_of_some h0)] at h2; cases h2
      rcases hc with hc | hc
      · omega
      · rcases hc d hd with h | h
        · exact Nat.le_trans (ref_le_refs h) (Nat.le_max_right _ _)
        · exact h
    · simp only at h2
      rw [List.getElem?_set_ne hik,h1] at h2; cases h2
      exact Nat.le_trans (ref_le_refs hd) (Nat.le_max_right _ _)⟩
theorem mem_setMany {d : D} : ∀ (cs c : List D) (off : Nat),d ∈ setMany c off cs -> d ∈ c \/ d ∈ cs
  | [],c,off,h => .inl h
  | x :: xs,c,off,h => by
    rcases mem_setMany xs _ _ h with h | h
    · rcases List.mem_or_eq_of_mem_set h with h | rfl
      · exact .inl h
      · exact .inr (List.mem_cons_self ..)
    · exact .inr (List.mem_cons_of_mem _ h)
theorem mem?_bs {st : St} {k ver : Nat} {a : Bool} {c : List D} (h : st.mem? k ver = some (a,c)) : st.bs[k]? = some (.mem ver a c) := by
  unfold St.mem? at h
  split at h
  · rename_i v a' c' hb
    split at h
    · rename_i hv; cases h; rw [hb,hv]
    · cases h
  · cases h
theorem canW_fl {st : St} {k r : Nat} (h : st.canW k r = true) : st.flr <= k \/ r <= max (k + 1) (st.refsAt k) := by
  simp only [St.canW,Bool.and_eq_true,Bool.or_eq_true,decide_eq_true_eq] at h
  omega
theorem refsAt_eq {st : St} {k : Nat} {b : Box} (h : st.bs[k]? = some b) : st.refsAt k = refs b.cells := by simp only [St.refsAt,h]
def Adds (st st' : St) : Prop := ∃ l,st' = ⟨st.bs ++ l,st.flr,st.ro⟩
theorem Adds.rfl (st : St) : Adds st st := ⟨[],by simp⟩
theorem Adds.push (st : St) (b : Box) : Adds st (st.push b) := ⟨[b],by simp [St.push]⟩
theorem Adds.goes {st st' : St} (h : Adds st st') : Goes st st' := by
  obtain ⟨l,rfl⟩ := h
  exact ⟨by simp,Eq.refl _,Eq.refl _,fun k _ hl => by simp only; rw [List.getElem?_append_left hl],fun k bx bx' _ h1 h2 d hd => by
    simp only at h2
    rw [List.getElem?_append_left (lt_of_some h1),h1] at h2
    cases h2
    exact Nat.le_trans (ref_le_refs hd) (Nat.le_max_right _ _)⟩
structure CfOk (P : Program) (pv : Pv) (cf : CallF) : Prop where
  fn : ∀ f ds st r,cf f ds st = some r -> ∃ fn b,P.funcs[f]? = some fn /\ fn.body = some b /\ fn.name ≠ "runtime.NumGoroutine"
  calls : ∀ f ds st d st',cf f ds st = some (d,st') -> ∀ w β Z (us : List Value),Sim w st β Z -> ds.length = us.length -> (∀ (i : Nat) c v,ds[i]? = some c -> us[i]? = some v -> VR w (st.x β Z) c v) ->
    Calls P f us.toArray w fun e w' => ∃ v β' Z',e = .returned v /\ Nx w st β Z w' st' β' Z' /\ VR w' (st'.x β' Z') d v /\ (isRo pv f = true -> Quiet w w')
  ro : ∀ f ds st d st',cf f ds st = some (d,st') -> isRo pv f = true -> Adds st st'
  len : ∀ f ds st d st',cf f ds st = some (d,st') -> Goes st st'
section
variable {pv : Pv} {P : Program} (ok : pv.Ok P) {cf : CallF} (hcf : CfOk P pv cf)
include ok hcf
theorem oper_ok {w : World} {st st' : St} {β : Nat -> Option (Nat × Nat)} {Z : Nat -> Prop} (h : Sim w st β Z) {fr : Fr} {a : Act} (hf : FrR w (st.x β Z) fr a.tmps) {o : Oper} {d : D} (hs : operD pv cf fr st o = some (d,st'))
    {next : Act -> World -> Prop} {Q : Exit -> Act -> World -> Prop} (K : ∀ v w' β' Z',Nx w st β Z w' st' β' Z' -> VR w' (st'.x β' Z') d v -> (effB pv o = false -> Quiet w w') -> next (a.put o.dst v) w') : o.wp P a w next Q := by
  unfold operD at hs
  split at hs
  · rename_i f args ats hop
    split at hs
    · rename_i g caps hev
      have hv := ev_ok hf f
      rw [hev] at hv
      obtain ⟨vs,he,hl,hr⟩ := vr_fn hv
      obtain ⟨fn,b,hfn,hb,hname⟩ := hcf.fn _ _ _ _ hs
      have hargs := evs_ok hf args.toList
      have hrel : ∀ (i : Nat) c v,(args.toList.map fr.ev ++ caps)[i]? = some c -> (args.toList.map a.eval ++ vs)[i]? = some v -> VR w (st.x β Z) c v := by
        intro i c v hc hv
        rw [List.getElem?_append] at hc hv
        simp only [List.length_map] at hc hv
        split at hc
        · rename_i hi; rw [if_pos hi] at hv; exact hargs i c v hc hv
        · rename_i hi; rw [if_neg hi] at hv; exact hr _ c v hc hv
      have hcall := hcf.calls _ _ _ _ _ hs w β Z (args.toList.map a.eval ++ vs) h (by simp [hl]) hrel
      have hrun : (execOp a.eval o).run P w = .ok (.enter g (args.toList.map a.eval ++ vs).toArray) w := by
        obtain ⟨dst,op,ty,pos,after,guard⟩ := o
        simp only at hop
        subst hop
        have hbn : fn.body.isNone = false := by simp [hb]
        have hn : (fn.name == "runtime.NumGoroutine") = false := by simpa using hname
        have harr : args.map a.eval ++ vs.toArray = (args.toList.map a.eval ++ vs).toArray := by
          apply Array.ext'; simp
        simp only [execOp,resolve,he,Deferred.ofValue,Sem.run_bind,Sem.run_pure,Result.andThen_ok,invoke,callFunc,run_program,hfn,hn,hbn,Bool.false_eq_true,if_false,Array.empty_append,harr]
      unfold Oper.wp
      rw [hrun,Oper.upon_enter]
      refine hcall.mono fun e w' ⟨v,β',Z',he,hn,hv,hro⟩ => ?_
      subst he
      refine K v w' β' Z' hn hv ?_
      intro he
      simp only [effB,hop] at he
      cases f with
      | func g' =>
        simp only [Fr.ev] at hev
        cases hev
        exact hro (by simpa using he)
      | _ => simp at he
    · cases hs
  · rename_i op hop
    obtain ⟨v,w',β',hd,hn,hv,hq⟩ := op_ok ok h hf (o := o) hs
    have hK : next (a.put o.dst v) w' := K v w' β' Z hn hv hq
    unfold Oper.wp
    rcases hd with hd | ⟨hd,rfl⟩
    · rw [hd,Oper.upon_value]; exact hK
    · rw [hd,Oper.upon_skip]; exact hK
omit ok hcf in
theorem want_ok {w : World} {x : X} {ops : Array Oper} {fr : Fr} {a : Act} (hf : FrR w x fr a.tmps) {o : Oper} {b : Bool} (h : wantD ops fr o = some b) : Region.wanted o (yielded ops a.tmps) = b := by
  unfold wantD at h
  unfold Region.wanted
  split at h
  · rename_i hg; rw [hg]; cases h; rfl
  · rename_i j want hg
    rw [hg]
    split at h
    · cases h
    · rename_i t ht
      have hv := hf t
      show (yielded ops a.tmps j == some want) = b
      have hy : ∀ u,a.tmps[t]? = u -> yielded ops a.tmps j = match u with | some (.bool b) => some b | _ => none := by
        intro u hu
        simp only [yielded,ht,Option.bind_some,hu]
        cases u with
        | none => rfl
        | some v => cases v <;> rfl
      split at h
      · rename_i b' hb
        rw [hb] at hv
        have hv := vr_bool hv
        cases h
        have : a.tmps[t]? = some (.bool b') := by
          rw [Array.getD_eq_getD_getElem?] at hv
          cases ht' : a.tmps[t]? with
          | none => rw [ht'] at hv; simp [undef] at hv
          | some v => rw [ht'] at hv; simp at hv; rw [hv]
        rw [hy _ this]
        cases b' <;> cases want <;> rfl
      · rename_i ds hb
        rw [hb] at hv
        obtain ⟨vs,hv,_⟩ := vr_tup hv
        cases h
        rw [Array.getD_eq_getD_getElem?] at hv
        cases ht' : a.tmps[t]? with
        | none => rw [hy _ ht']; cases want <;> rfl
        | some v => rw [ht'] at hv; simp at hv; rw [hv] at ht'; rw [hy _ ht']; cases want <;> rfl
      · cases h
omit ok hcf in
theorem put_size (a : Act) (dst : Option Nat) (v : Value) : (a.put dst v).tmps.size = a.tmps.size := by
  cases dst <;> simp [Act.put]
omit ok hcf in
theorem put_defers (a : Act) (dst : Option Nat) (v : Value) : (a.put dst v).defers = a.defers := by
  cases dst <;> simp [Act.put]
def dstOk (ops : List Oper) (n : Nat) : Prop := ∀ o ∈ ops, ∀ t,o.dst = some t -> t < n
theorem ops_ok {ops : Array Oper} {Q : Exit -> Act -> World -> Prop} : ∀ (l : List Oper) (i : Nat) (fr fr' : Fr) (st st' : St) (β : Nat -> Option (Nat × Nat)) (Z : Nat -> Prop) (a : Act) (w : World),(∀ j,l[j]? = ops[i + j]?) ->
    opsD pv cf ops l fr st = some (fr',st') -> Sim w st β Z -> FrR w (st.x β Z) fr a.tmps -> dstOk l a.tmps.size ->
    (∀ a' w' β' Z',Nx w st β Z w' st' β' Z' -> FrR w' (st'.x β' Z') fr' a'.tmps -> a'.defers = a.defers -> a'.tmps.size = a.tmps.size -> Q .normal a' w') -> wpOps P ops Q (List.range' i l.length) a w
  | [],i,fr,fr',st,st',β,Z,a,w,_,hs,h,hf,_,K => by
    simp only [opsD] at hs; cases hs
    exact K a w β Z (Nx.same h) hf rfl rfl
  | o :: l,i,fr,fr',st,st',β,Z,a,w,hl,hs,h,hf,hd,K => by
    have ho : ops[i]? = some o := by have := hl 0; simpa using this.symm
    have hl' : ∀ j,l[j]? = ops[i + 1 + j]? := fun j => by have := hl (j + 1); simpa [Nat.add_assoc,Nat.add_comm 1 j] using this
    have hdl : dstOk l a.tmps.size := fun p hp => hd p (List.mem_cons_of_mem _ hp)
    simp only [List.length_cons,List.range'_succ,wpOps,ho]
    simp only [opsD] at hs
    split at hs
    · rename_i hw
      rw [want_ok hf hw]
      simp only [if_true]
      left
      split at hs
      · rename_i d st1 hop
        refine oper_ok ok hcf h hf hop fun v w' β' Z' hn hv _ => ?_
        refine ops_ok l (i + 1) _ fr' st1 st' β' Z' _ w' hl' hs hn.sim (put_ok (hf.mono hn.keeps) hv o.dst fun t ht => hd o (List.mem_cons_self ..) t ht) (by rw [put_size]; exact hdl) fun a' w'' β'' Z'' hn' hf' hdf hsz => ?_
        exact K a' w'' β'' Z'' (hn.trans hn') hf' (by rw [hdf,put_defers]) (by rw [hsz,put_size])
      · cases hs
    · rename_i hw
      rw [want_ok hf hw]
      simp only [Bool.false_eq_true,if_false]
      refine ops_ok l (i + 1) _ fr' st st' β Z _ w hl' hs h (put_ok hf (.im _ _ (.tup [] [] rfl (by simp))) o.dst fun t ht => hd o (List.mem_cons_self ..) t ht) (by rw [put_size]; exact hdl) fun a' w'' β'' Z'' hn' hf' hdf hsz => ?_
      exact K a' w'' β'' Z'' hn' hf' (by rw [hdf,put_defers]) (by rw [hsz,put_size])
    · cases hs
end
end Go.V
namespace Go.V
open Go.RowKit
theorem map_ev {fr fr' : Fr} {l : List Operand} (h : ∀ x ∈ l,fr.ev x = fr'.ev x) : l.map fr.ev = l.map fr'.ev := List.map_congr_left h
theorem parts_ev {fr fr' : Fr} {l : List (Nat × Operand)} (h : ∀ p ∈ l,fr.ev p.2 = fr'.ev p.2) : l.map (fun p => (p.1,fr.ev p.2)) = l.map (fun p => (p.1,fr'.ev p.2)) :=
  List.map_congr_left fun p hp => by rw [h p hp]
theorem opD_congr {pv : Pv} {fr fr' : Fr} {st : St} {op : Op} {ty : TypeId} (h : ∀ x ∈ op.operands.toList,fr.ev x = fr'.ev x) : opD pv fr st op ty = opD pv fr' st op ty := by
  unfold opD
  cases op with
  | build t ps => simp only; rw [parts_ev fun p hp => h p.2 (by simp [Op.operands]; exact ⟨p.1,by simpa using hp⟩)]
  | buildSlice t len ps => simp only; rw [parts_ev fun p hp => h p.2 (by simp [Op.operands]; exact ⟨p.1,by simpa using hp⟩)]
  | makeFunc f first captured =>
    cases f <;> simp only
    have : captured.toList.map fr.ev = captured.toList.map fr'.ev := map_ev fun x hx => h x (by simp [Op.operands]; right; simpa using hx)
    rw [this]
  | slice t x lo hi mx =>
    have hx : fr.ev x = fr'.ev x := h x (by simp [Op.operands])
    cases mx with
    | some m => cases lo <;> cases hi <;> simp only; rename_i l; rw [hx,h m (by simp [Op.operands]),h l (by simp [Op.operands])]
    | none =>
    simp only
    have hlo : lo.map fr.ev = lo.map fr'.ev := by
      cases lo with
      | none => rfl
      | some l => simp only [Option.map_some]; rw [h l (by simp [Op.operands])]
    have hhi : hi.map fr.ev = hi.map fr'.ev := by
      cases hi with
      | none => rfl
      | some l => simp only [Option.map_some]; rw [h l (by simp [Op.operands])]
    rw [hx,hlo,hhi]
  | makeMap t r =>
    cases r with
    | none => rfl
    | some x => simp only [Option.map_some]; rw [h x (by simp [Op.operands])]
  | lookup t x i ok =>
    simp only [Op.operands,List.mem_cons,List.not_mem_nil,or_false,forall_eq_or_imp,forall_eq,List.toList_toArray] at h
    cases ok
    · simp only [h]
    · rfl
  | call c =>
    obtain ⟨callee,args,ats⟩ := c
    cases callee <;> simp only
    have : args.toList.map fr.ev = args.toList.map fr'.ev := map_ev fun x hx => h x (by simp [Op.operands,Call.operands]; simpa using hx)
    rw [this]
  | _ => simp only [Op.operands,List.mem_cons,List.not_mem_nil,or_false,forall_eq_or_imp,forall_eq,List.toList_toArray] at h <;> simp only [h]
def tmpsOf : List Operand -> List Nat
  | [] => []
  | .tmp t :: l => t :: tmpsOf l
  | _ :: l => tmpsOf l
theorem mem_tmpsOf {t : Nat} : ∀ {l : List Operand}, .tmp t ∈ l -> t ∈ tmpsOf l
  | x :: l,h => by
    rcases List.mem_cons.1 h with rfl | h
    · simp [tmpsOf]
    · have := mem_tmpsOf h
      cases x <;> simp [tmpsOf,this]
def looks (ops : Array Oper) (o : Oper) : List Nat :=
  (match o.guard with
   | some (j,_) => match (ops[j]?).bind (·.dst) with
     | some t => [t]
     | none => []
   | none => []) ++ tmpsOf o.op.operands.toList
theorem ev_congr {fr fr' : Fr} {ts : List Nat} (h : ∀ t ∈ ts,fr.get t = fr'.get t) {x : Operand} (hx : ∀ t,x = .tmp t -> t ∈ ts) : fr.ev x = fr'.ev x := by
  cases x <;> first | rfl | exact h _ (hx _ rfl)
theorem operD_congr {pv : Pv} {cf : CallF} {ops : Array Oper} {fr fr' : Fr} {st : St} {o : Oper} (h : ∀ t ∈ looks ops o,fr.get t = fr'.get t) : operD pv cf fr st o = operD pv cf fr' st o := by
  have he : ∀ x ∈ o.op.operands.toList,fr.ev x = fr'.ev x := fun x hx => ev_congr h fun t e => by subst e; exact List.mem_append_right _ (mem_tmpsOf hx)
  unfold operD
  split
  · rename_i f args ats hop
    rw [hop] at he
    have hf : fr.ev f = fr'.ev f := he f (by simp [Op.operands,Call.operands])
    have ha : args.toList.map fr.ev = args.toList.map fr'.ev := map_ev fun x hx => he x (by simp [Op.operands,Call.operands]; right; simpa using hx)
    rw [hf,ha]
  · exact opD_congr he
theorem wantD_congr {ops : Array Oper} {fr fr' : Fr} {o : Oper} (h : ∀ t ∈ looks ops o,fr.get t = fr'.get t) : wantD ops fr o = wantD ops fr' o := by
  unfold wantD
  cases hg : o.guard with
  | none => rfl
  | some p =>
    obtain ⟨j,want⟩ := p
    simp only
    cases ht : (ops[j]?).bind (·.dst) with
    | none => rfl
    | some t =>
      simp only
      rw [h t (by simp [looks,hg,ht])]
def paB (o : Oper) : Bool :=
  match o.op with
  | .move _ | .assign _ | .pick _ _ _ | .alloc _ | .box _ _ | .build _ _ | .buildSlice _ _ _ | .nilCheck _ | .binOp _ _ _ _ _ | .unOp _ _ _ | .makeFunc _ _ _ | .makeSlice _ _ _
  | .fieldAddr _ _ _ | .field _ _ _ | .index _ _ _ | .extract _ _ => true
  | .call ⟨.builtin b,_,_⟩ => match b with
    | .len | .min | .max => true
    | _ => false
  | _ => false
theorem builtin_pa {pv : Pv} {b : Builtin} {ats : List TypeId} {args : List D} {st st' : St} {d : D} (hb : b = .len \/ b = .min \/ b = .max) (h : builtinD pv b ats args st = some (d,st')) (T : St) : st' = st /\ builtinD pv b ats args T = some (d,T) := by
  rcases hb with rfl | rfl | rfl
  · match args,h with
    | [x],h =>
      simp only [builtinD] at h ⊢
      split at h
      · split at h
        · split at h
          · cases h; exact ⟨rfl,rfl⟩
          · cases h
        · cases x with
          | str s => cases h
          | _ =>
            simp only at h ⊢
            split at h
            · rename_i n hn; cases h; exact ⟨rfl,by simp only [hn]⟩
            · cases h
        · cases h; exact ⟨rfl,rfl⟩
        · cases h
      · cases h
    | [],h => simp [builtinD] at h
    | _ :: _ :: _,h => simp [builtinD] at h
  · match args,h with
    | [],h => simp [builtinD] at h
    | x :: l,h =>
      simp only [builtinD] at h ⊢
      obtain ⟨r,hz,hs⟩ := Option.map_eq_some_iff.1 h
      cases hs
      exact ⟨rfl,by rw [hz]; rfl⟩
  · match args,h with
    | [],h => simp [builtinD] at h
    | x :: l,h =>
      simp only [builtinD] at h ⊢
      obtain ⟨r,hz,hs⟩ := Option.map_eq_some_iff.1 h
      cases hs
      exact ⟨rfl,by rw [hz]; rfl⟩
theorem opD_pa {pv : Pv} {fr : Fr} {st st' : St} {o : Oper} {d : D} (hp : paB o = true) (h : opD pv fr st o.op o.type = some (d,st')) (T : St) (hT : T.bs.length = st.bs.length) :
    ∃ T',opD pv fr T o.op o.type = some (d,T') /\ ((st' = st /\ T' = T) \/ ∃ ar cs,st' = st.push (.mem 0 ar cs) /\ T' = T.push (.mem 0 ar cs)) := by
  obtain ⟨dst,op,ty,pos,after,guard⟩ := o
  simp only at h ⊢
  cases op <;> simp only [paB,Bool.false_eq_true] at hp <;> simp only [opD] at h ⊢
  case move x => cases h; exact ⟨T,rfl, .inl ⟨rfl,rfl⟩⟩
  case assign x => cases h; exact ⟨T,rfl, .inl ⟨rfl,rfl⟩⟩
  case pick c p q => split at h <;> first | (cases h; exact ⟨T,rfl, .inl ⟨rfl,rfl⟩⟩) | cases h
  case alloc e =>
    obtain ⟨cs,hz,hs⟩ := Option.map_eq_some_iff.1 h
    cases hs
    exact ⟨_,by rw [hz,hT]; rfl, .inr ⟨_,_,rfl,rfl⟩⟩
  case box e x =>
    obtain ⟨cs,hz,hs⟩ := Option.map_eq_some_iff.1 h
    cases hs
    exact ⟨_,by rw [hz,hT]; rfl, .inr ⟨_,_,rfl,rfl⟩⟩
  case build t ps =>
    obtain ⟨r,hz,hs⟩ := Option.map_eq_some_iff.1 h
    cases hs
    exact ⟨_,by rw [hz]; rfl, .inl ⟨rfl,rfl⟩⟩
  case buildSlice t len ps =>
    unfold buildSliceD at h ⊢
    split at h
    · rename_i e ht
      obtain ⟨s,hsz,h⟩ := Option.bind_eq_some_iff.1 h
      obtain ⟨z,hz,h⟩ := Option.bind_eq_some_iff.1 h
      split at h
      · rename_i hck
        obtain ⟨cs,hf,hs⟩ := Option.map_eq_some_iff.1 h
        cases hs
        exact ⟨_,by simp only [hsz,hz,Option.bind_some,hck,and_self,if_true,hf,Option.map_some,hT], .inr ⟨_,_,rfl,rfl⟩⟩
      · cases h
    · cases h
  case nilCheck x => split at h <;> first | (cases h; exact ⟨T,rfl, .inl ⟨rfl,rfl⟩⟩) | cases h
  case binOp a b c d e =>
    obtain ⟨r,hz,hs⟩ := Option.map_eq_some_iff.1 h
    cases hs
    exact ⟨_,by rw [hz]; rfl, .inl ⟨rfl,rfl⟩⟩
  case unOp a b c =>
    obtain ⟨r,hz,hs⟩ := Option.map_eq_some_iff.1 h
    cases hs
    exact ⟨_,by rw [hz]; rfl, .inl ⟨rfl,rfl⟩⟩
  case makeFunc f first captured =>
    cases f <;> simp only at h ⊢ <;> first | cases h | skip
    split at h
    · rename_i hfe; cases h; exact ⟨T,by rw [if_pos hfe], .inl ⟨rfl,rfl⟩⟩
    · cases h
  case makeSlice t l c =>
    unfold makeSliceD at h ⊢
    split at h
    · rename_i e k l k' c ht hl hc
      obtain ⟨i,hi,h⟩ := Option.bind_eq_some_iff.1 h
      obtain ⟨z,hz,h⟩ := Option.bind_eq_some_iff.1 h
      split at h
      · rename_i hck
        cases h
        simp only [hi,hz,Option.bind_some]
        rw [if_pos hck,hT]
        exact ⟨_,rfl, .inr ⟨_,_,rfl,rfl⟩⟩
      · cases h
    · cases h
  case fieldAddr a b c =>
    obtain ⟨r,hz,hs⟩ := Option.map_eq_some_iff.1 h
    cases hs
    exact ⟨_,by rw [hz]; rfl, .inl ⟨rfl,rfl⟩⟩
  case field a b c =>
    obtain ⟨r,hz,hs⟩ := Option.map_eq_some_iff.1 h
    cases hs
    exact ⟨_,by rw [hz]; rfl, .inl ⟨rfl,rfl⟩⟩
  case index a b c =>
    obtain ⟨r,hz,hs⟩ := Option.map_eq_some_iff.1 h
    cases hs
    exact ⟨_,by rw [hz]; rfl, .inl ⟨rfl,rfl⟩⟩
  case extract t i =>
    split at h
    · obtain ⟨r,hz,hs⟩ := Option.map_eq_some_iff.1 h
      cases hs
      exact ⟨_,by rw [hz]; rfl, .inl ⟨rfl,rfl⟩⟩
    · cases h
  case call c =>
    obtain ⟨callee,args,ats⟩ := c
    cases callee <;> simp only [Bool.false_eq_true] at hp h ⊢
    rename_i b
    have hb : b = .len \/ b = .min \/ b = .max := by cases b <;> simp at hp ⊢
    obtain ⟨rfl,h2⟩ := builtin_pa hb h T
    exact ⟨T,h2, .inl ⟨rfl,rfl⟩⟩
theorem wr_goes {st st' : St} {k ver off : Nat} {cs : List D} (h : st.wr k ver off cs = some st') : Goes st st' := by
  unfold St.wr at h
  split at h
  · split at h
    · rename_i a c hm hc
      cases h
      exact Goes.set st k _ _ (canW_ro hc.2) (mem?_bs hm) ((canW_fl hc.2).imp id fun hr d hd => (mem_setMany _ _ _ hd).imp id fun hd => Nat.le_trans (ref_le_refs hd) (by rw [refsAt_eq (mem?_bs hm)] at hr; exact hr))
    · cases h
  · cases h
theorem append_goes {pv : Pv} {ats : List TypeId} {s x d : D} {st st' : St} (h : appendD pv ats s x st = some (d,st')) : Goes st st' := by
  unfold appendD at h
  split at h
  · split at h
    · split at h
      · cases h
      · obtain ⟨i,hi,h⟩ := Option.bind_eq_some_iff.1 h
        obtain ⟨z,hz,h⟩ := Option.bind_eq_some_iff.1 h
        obtain ⟨⟨n,ys⟩,hrow,h⟩ := Option.bind_eq_some_iff.1 h
        dsimp only at h
        split at h
        · cases h
        · cases s with
          | nul =>
            simp only at h
            split at h
            · cases h; exact .refl _
            · split at h
              · cases h; exact .push _ _
              · cases h
          | win k ver off len sz =>
            simp only at h
            split at h
            · split at h
              · cases h
              · split at h
                · cases h; exact .refl _
                · split at h
                  · rename_i hc
                    cases h
                    have hbk := mem?_bs (by assumption)
                    refine Goes.set st k _ _ (canW_ro hc.2) hbk ((canW_fl hc.2).imp id fun hr d hd => ?_)
                    rw [refsAt_eq hbk] at hr
                    rcases List.mem_append.1 hd with hd | hd
                    · exact .inl (List.mem_of_mem_take (List.mem_of_mem_drop hd))
                    · exact .inr (Nat.le_trans (ref_le_refs hd) hr)
                  · cases h
            · cases h
          | _ => cases h
    · cases h
  · cases h
theorem copy_goes {pv : Pv} {ats : List TypeId} {s x d : D} {st st' : St} (h : copyD pv ats s x st = some (d,st')) : Goes st st' := by
  unfold copyD at h
  split at h
  · split at h
    · obtain ⟨i,hi,h⟩ := Option.bind_eq_some_iff.1 h
      obtain ⟨⟨n,ys⟩,hrow,h⟩ := Option.bind_eq_some_iff.1 h
      dsimp only at h
      split at h
      · cases h
      · cases s with
        | nul => cases h; exact .refl _
        | win k ver off len sz =>
          simp only at h
          split at h
          · cases h
          · obtain ⟨r,hz,hs⟩ := Option.map_eq_some_iff.1 h
            cases hs; exact wr_goes hz
        | _ => cases h
    · cases h
  · cases h
theorem clear_goes {pv : Pv} {ats : List TypeId} {s d : D} {st st' : St} (h : clearD pv ats s st = some (d,st')) : Goes st st' := by
  unfold clearD at h
  split at h
  · split at h
    · cases s with
      | nul => cases h; exact .refl _
      | win k ver off len sz =>
        simp only at h
        obtain ⟨i,hi,h⟩ := Option.bind_eq_some_iff.1 h
        split at h
        · obtain ⟨r,hz,hs⟩ := Option.map_eq_some_iff.1 h
          cases hs; exact wr_goes hz
        · cases h
      | _ => cases h
    · cases h
  · cases h
theorem next_goes {x d : D} {b : Bool} {st st' : St} (h : nextD x b st = some (d,st')) : Goes st st' := by
  unfold nextD at h
  split at h
  · split at h
    · split at h
      · split at h
        · rename_i hc
          cases h
          exact Goes.set st _ _ _ (canW_ro hc) (by assumption) (.inr fun d hd => by simp [Box.cells] at hd)
        · cases h
      · cases h; exact .refl _
    · cases h
  · cases h
theorem mapSet_goes {pv : Pv} {t : TypeId} {m key v : D} {st st' : St} (h : mapSetD pv t m key v st = some st') : Goes st st' := by
  unfold mapSetD at h
  split at h
  · split at h
    · rename_i hb
      split at h
      · rename_i hc
        split at h
        · cases h; exact Goes.set st _ _ _ (canW_ro hc) hb (.inr fun d hd => by simp [Box.cells] at hd)
        · cases h; exact Goes.set st _ _ _ (canW_ro hc) hb (.inr fun d hd => by simp [Box.cells] at hd)
        · cases h
      · cases h
    · cases h
  · split at h
    · rename_i hb
      split at h
      · rename_i hc
        simp only [Bool.and_eq_true] at hc
        cases h; exact Goes.set st _ _ _ (canW_ro hc.1) hb (.inr fun d hd => by simp [Box.cells] at hd)
      · cases h
    · cases h
  · cases h
theorem opD_goes {pv : Pv} {fr : Fr} {st st' : St} {o : Oper} {d : D} (h : opD pv fr st o.op o.type = some (d,st')) : Goes st st' /\ (effB pv o = false -> Adds st st') := by
  by_cases hp : paB o = true
  · obtain ⟨T',_,⟨rfl,_⟩ | ⟨ar,cs,rfl,_⟩⟩ := opD_pa hp h st rfl
    · exact ⟨.refl _,fun _ => .rfl _⟩
    · exact ⟨.push _ _,fun _ => .push _ _⟩
  · obtain ⟨dst,op,ty,pos,after,guard⟩ := o
    simp only at h
    have ad : Adds st st' -> Goes st st' /\ (effB pv ⟨dst,op,ty,pos,after,guard⟩ = false -> Adds st st') := fun ha => ⟨ha.goes,fun _ => ha⟩
    cases op <;> simp only [paB,not_true_eq_false,Bool.false_eq_true,not_false_eq_true] at hp <;> simp only [opD] at h
    case load t a => obtain ⟨r,hz,hs⟩ := Option.map_eq_some_iff.1 h; cases hs; exact ad (.rfl _)
    case store t a x =>
      obtain ⟨r,hz,hs⟩ := Option.map_eq_some_iff.1 h; cases hs
      refine ⟨?_,fun e => by simp [effB] at e⟩
      unfold storeD at hz
      split at hz
      · split at hz
        · exact wr_goes hz
        · cases hz
      · cases hz
    case convert s t x =>
      refine ad ?_
      unfold convD at h
      split at h
      · cases h; exact .rfl _
      · cases h; exact .rfl _
      · cases h; exact .rfl _
      · split at h
        · split at h
          · cases h; exact .push _ _
          · cases h
        · cases h
      · split at h
        · split at h
          · cases h; exact .rfl _
          · cases h
        · cases h
      · split at h
        · split at h
          · cases h
          · split at h
            · obtain ⟨r,hz,hs⟩ := Option.map_eq_some_iff.1 h; cases hs; exact .rfl _
            · cases h
        · cases h
      · cases h
    case slice t x lo hi mx =>
      cases mx <;> cases lo <;> cases hi <;> simp only at h <;> first | cases h | (obtain ⟨r,hz,hs⟩ := Option.map_eq_some_iff.1 h; cases hs; exact ad (.rfl _))
    case indexAddr t x i => obtain ⟨r,hz,hs⟩ := Option.map_eq_some_iff.1 h; cases hs; exact ad (.rfl _)
    case range t x =>
      refine ad ?_
      unfold rangeD at h
      split at h
      · cases h; exact .push _ _
      · cases h
    case next it s => exact ⟨next_goes h,fun e => by simp [effB] at e⟩
    case makeMap t r =>
      refine ad ?_
      unfold makeMapD at h
      split at h
      · cases h; exact .push _ _
      · split at h
        · cases h; exact .push _ _
        · cases h
      · cases h
    case insert t m k x =>
      obtain ⟨r,hz,hs⟩ := Option.map_eq_some_iff.1 h; cases hs
      exact ⟨mapSet_goes hz,fun e => by simp [effB] at e⟩
    case mapUpdate t m k x =>
      obtain ⟨r,hz,hs⟩ := Option.map_eq_some_iff.1 h; cases hs
      exact ⟨mapSet_goes hz,fun e => by simp [effB] at e⟩
    case lookup t x i ok =>
      cases ok <;> simp only at h <;> first | cases h | skip
      obtain ⟨r,hz,hs⟩ := Option.map_eq_some_iff.1 h; cases hs; exact ad (.rfl _)
    case call c =>
      obtain ⟨callee,args,ats⟩ := c
      cases callee <;> simp only at h <;> first | cases h | skip
      rename_i b
      unfold builtinD at h
      refine ⟨?_,fun e => ?_⟩
      · split at h
        · exact absurd hp (by simp)
        · exact append_goes h
        · exact copy_goes h
        · exact clear_goes h
        · exact absurd hp (by simp)
        · exact absurd hp (by simp)
        · cases h
      · cases b <;> simp [effB] at e <;> simp at hp
    all_goals cases h
theorem operD_goes {P : Program} {pv : Pv} {cf : CallF} (hcf : CfOk P pv cf) {fr : Fr} {st st' : St} {o : Oper} {d : D} (h : operD pv cf fr st o = some (d,st')) : Goes st st' /\ (effB pv o = false -> Adds st st') := by
  unfold operD at h
  split at h
  · rename_i f args ats hop
    split at h
    · rename_i g caps hev
      refine ⟨hcf.len _ _ _ _ _ h,fun e => ?_⟩
      simp only [effB,hop] at e
      cases f with
      | func g' =>
        simp only [Fr.ev] at hev
        cases hev
        exact hcf.ro _ _ _ _ _ h (by simpa using e)
      | _ => simp at e
    · cases h
  · exact opD_goes h
end Go.V
namespace Go.V
open Go.RowKit
def maskOf (acc : List Nat) : List Edge -> Nat
  | [] => 0
  | e :: l => match Region.binds .any e with
    | true => maskOf acc l ||| (1 <<< e.on) ||| acc.getD e.on 0
    | false => maskOf acc l
def masks : List Oper -> List Nat -> List Nat
  | [],acc => acc
  | o :: l,acc => masks l (acc ++ [maskOf acc o.after.toList])
def dstHit (d : Option Nat) (l : List Nat) : Bool :=
  match d with
  | some t => l.contains t
  | none => false
def sameDst : Option Nat -> Option Nat -> Bool
  | some a,some b => a == b
  | _,_ => false
def rdB (o : Oper) : Bool := (rdOp? o.op).isSome
def conf (pv : Pv) (ops : Array Oper) (b : Bool) (x y : Oper) : Bool :=
  dstHit x.dst (looks ops y) || dstHit y.dst (looks ops x) || sameDst x.dst y.dst || (effB pv x && !paB y && !(rdB y && b)) || (effB pv y && !paB x && !(rdB x && b))
def listed (dy : List (Nat × Nat)) (i j : Nat) : Bool := dy.any fun p => Nat.beq p.1 i && Nat.beq p.2 j
def okAt (pv : Pv) (ops : Array Oper) (dy : List (Nat × Nat)) (ms : List Nat) (j : Nat) : Bool :=
  match ops[j]? with
  | some y => (y.after.toList.all fun e => !Region.binds .any e || Nat.blt e.on j) && (List.range j).all fun i => match ops[i]? with
    | some x => !conf pv ops (listed dy i j) x y || (ms.getD j 0).testBit i
    | none => true
  | none => true
def okReg (pv : Pv) (ops : Array Oper) (dy : List (Nat × Nat)) : Bool := (List.range ops.size).all (okAt pv ops dy (masks ops.toList []))
def Closed (ops : Array Oper) (E : Nat -> Bool) : Prop := ∀ k o,E k = true -> ops[k]? = some o -> ∀ e ∈ o.after.toList,Region.binds .any e = true -> E e.on = true
def AncOk (E : Nat -> Bool) (acc : List Nat) : Prop := ∀ k i,(acc.getD k 0).testBit i = true -> E k = true -> E i = true
theorem mask_ok {E : Nat -> Bool} {acc : List Nat} (ha : AncOk E acc) {i : Nat} : ∀ (l : List Edge),(maskOf acc l).testBit i = true -> (∀ e ∈ l,Region.binds .any e = true -> E e.on = true) -> E i = true
  | [],h,_ => by simp [maskOf] at h
  | e :: l,h,he => by
    have he' : ∀ e ∈ l,Region.binds .any e = true -> E e.on = true := fun e h => he e (List.mem_cons_of_mem _ h)
    unfold maskOf at h
    cases hb : Region.binds .any e with
    | false => rw [hb] at h; exact mask_ok ha l h he'
    | true =>
      rw [hb] at h
      simp only [Nat.testBit_or,Bool.or_eq_true] at h
      have hon := he e (List.mem_cons_self ..) hb
      rcases h with (h | h) | h
      · exact mask_ok ha l h he'
      · rw [Nat.one_shiftLeft,Nat.testBit_two_pow] at h
        have : e.on = i := by simpa using h
        rw [<- this]; exact hon
      · exact ha _ _ h hon
theorem masks_ok {E : Nat -> Bool} {ops : Array Oper} (hc : Closed ops E) : ∀ (l : List Oper) (acc : List Nat),(∀ j,l[j]? = ops[acc.length + j]?) -> AncOk E acc -> AncOk E (masks l acc)
  | [],acc,_,h => h
  | o :: l,acc,hl,h => by
    have h0 := hl 0
    simp only [List.getElem?_cons_zero,Nat.add_zero] at h0
    refine masks_ok hc l _ (fun j => ?_) fun k i hk hE => ?_
    · have := hl (j + 1)
      simp only [List.getElem?_cons_succ] at this
      rw [this]; simp [Nat.add_assoc,Nat.add_comm 1 j]
    · rcases Nat.lt_trichotomy k acc.length with hlt | heq | hgt
      · simp only [List.getD_eq_getElem?_getD,List.getElem?_append_left hlt] at hk
        exact h k i (by simpa only [List.getD_eq_getElem?_getD] using hk) hE
      · subst heq
        simp only [List.getD_eq_getElem?_getD] at hk
        simp at hk
        exact mask_ok h _ hk (hc _ o hE h0.symm)
      · simp only [List.getD_eq_getElem?_getD] at hk
        rw [List.getElem?_eq_none (by simp; omega)] at hk
        simp at hk
theorem okReg_anc {pv : Pv} {ops : Array Oper} {dy : List (Nat × Nat)} (h : okReg pv ops dy = true) {i j : Nat} {x y : Oper} (hij : i < j) (hx : ops[i]? = some x) (hy : ops[j]? = some y) (hc : conf pv ops (listed dy i j) x y = true) {E : Nat -> Bool} (hE : Closed ops E) (hj : E j = true) : E i = true := by
  have hjn : j < ops.size := by
    rcases Nat.lt_or_ge j ops.size with h' | h'
    · exact h'
    · rw [Array.getElem?_eq_none h'] at hy; cases hy
  have h1 := List.all_eq_true.1 h j (List.mem_range.2 hjn)
  unfold okAt at h1
  rw [hy] at h1
  simp only [Bool.and_eq_true] at h1
  have h2 := List.all_eq_true.1 h1.2 i (List.mem_range.2 hij)
  rw [hx] at h2
  simp only [hc,Bool.not_true,Bool.false_or] at h2
  exact masks_ok hE ops.toList [] (fun j => by simp) (fun k i hk _ => by simp at hk) j i h2 hj
theorem okReg_edge {pv : Pv} {ops : Array Oper} {dy : List (Nat × Nat)} (h : okReg pv ops dy = true) {j : Nat} {y : Oper} (hy : ops[j]? = some y) {e : Edge} (he : e ∈ y.after.toList) (hb : Region.binds .any e = true) : e.on < j := by
  have hjn : j < ops.size := by
    rcases Nat.lt_or_ge j ops.size with h' | h'
    · exact h'
    · rw [Array.getElem?_eq_none h'] at hy; cases hy
  have h1 := List.all_eq_true.1 h j (List.mem_range.2 hjn)
  unfold okAt at h1
  rw [hy] at h1
  simp only [Bool.and_eq_true] at h1
  have := List.all_eq_true.1 h1.1 e he
  simp only [hb,Bool.not_true,Bool.false_or] at this
  have := Nat.le_of_ble_eq_true this
  omega
structure Trace (pv : Pv) (cf : CallF) (ops : Array Oper) (l : List Oper) (F : Nat -> Fr) (S : Nat -> St) (dd : Nat -> D) : Prop where
  put : ∀ i o,l[i]? = some o -> F (i + 1) = (F i).putO o.dst (dd i)
  step : ∀ i o,l[i]? = some o -> (wantD ops (F i) o = some true /\ operD pv cf (F i) (S i) o = some (dd i,S (i + 1))) \/ (wantD ops (F i) o = some false /\ dd i = .tup [] /\ S (i + 1) = S i)
theorem trace {pv : Pv} {cf : CallF} {ops : Array Oper} : ∀ (l : List Oper) (fr : Fr) (st : St) (fr' : Fr) (st' : St),opsD pv cf ops l fr st = some (fr',st') ->
    ∃ (F : Nat -> Fr) (S : Nat -> St) (dd : Nat -> D),F 0 = fr /\ S 0 = st /\ F l.length = fr' /\ S l.length = st' /\ Trace pv cf ops l F S dd
  | [],fr,st,fr',st',h => by
    simp only [opsD] at h; cases h
    exact ⟨fun _ => fr,fun _ => st,fun _ => .junk,rfl,rfl,rfl,rfl,by intro i o h; simp at h,by intro i o h; simp at h⟩
  | o :: l,fr,st,fr',st',h => by
    simp only [opsD] at h
    have mk : ∀ (d : D) (st1 : St),((wantD ops fr o = some true /\ operD pv cf fr st o = some (d,st1)) \/ (wantD ops fr o = some false /\ d = .tup [] /\ st1 = st)) -> opsD pv cf ops l (fr.putO o.dst d) st1 = some (fr',st') ->
        ∃ (F : Nat -> Fr) (S : Nat -> St) (dd : Nat -> D),F 0 = fr /\ S 0 = st /\ F (o :: l).length = fr' /\ S (o :: l).length = st' /\ Trace pv cf ops (o :: l) F S dd := by
      intro d st1 hst hr
      obtain ⟨F,S,dd,h1,h2,h3,h4,h5⟩ := trace l _ _ _ _ hr
      refine ⟨fun | 0 => fr | i + 1 => F i,fun | 0 => st | i + 1 => S i,fun | 0 => d | i + 1 => dd i,rfl,rfl,h3,h4,⟨fun i p hp => ?_,fun i p hp => ?_⟩⟩
      · cases i with
        | zero => simp at hp; subst hp; exact h1
        | succ i => exact h5.put i p (by simpa using hp)
      · cases i with
        | zero => simp at hp; subst hp; simp only [h2]; exact hst
        | succ i => exact h5.step i p (by simpa using hp)
    split at h
    · rename_i hw
      split at h
      · rename_i d st1 hop; exact mk d st1 (.inl ⟨hw,hop⟩) h
      · cases h
    · rename_i hw; exact mk _ st (.inr ⟨hw,rfl,rfl⟩) h
    · cases h
def lastW (ops : Array Oper) (E : Nat -> Bool) (t : Nat) : Nat -> Option Nat
  | 0 => none
  | k + 1 => match ops[k]? with
    | some o => if E k = true /\ o.dst = some t then some k else lastW ops E t k
    | none => lastW ops E t k
theorem lastW_spec (ops : Array Oper) (E : Nat -> Bool) (t : Nat) : ∀ (n : Nat),match lastW ops E t n with
    | some j => j < n /\ E j = true /\ (∃ o,ops[j]? = some o /\ o.dst = some t) /\ ∀ i o,j < i -> i < n -> ops[i]? = some o -> o.dst = some t -> E i = false
    | none => ∀ i o,i < n -> ops[i]? = some o -> o.dst = some t -> E i = false
  | 0 => by intro i o h; omega
  | n + 1 => by
    have ih := lastW_spec ops E t n
    unfold lastW
    cases hn : ops[n]? with
    | none =>
      simp only
      cases hl : lastW ops E t n with
      | none =>
        rw [hl] at ih
        intro i o hi ho hd
        rcases Nat.lt_or_ge i n with h' | h'
        · exact ih i o h' ho hd
        · have : i = n := by omega
          subst this; rw [hn] at ho; cases ho
      | some j =>
        rw [hl] at ih
        refine ⟨by omega,ih.2.1,ih.2.2.1,fun i o hj hi ho hd => ?_⟩
        rcases Nat.lt_or_ge i n with h' | h'
        · exact ih.2.2.2 i o hj h' ho hd
        · have : i = n := by omega
          subst this; rw [hn] at ho; cases ho
    | some p =>
      simp only
      by_cases hc : E n = true /\ p.dst = some t
      · rw [if_pos hc]
        exact ⟨by omega,hc.1,⟨p,hn,hc.2⟩,fun i o hj hi => by omega⟩
      · rw [if_neg hc]
        have hE : ∀ o,ops[n]? = some o -> o.dst = some t -> E n = false := by
          intro o ho hd
          rw [hn] at ho; cases ho
          cases hq : E n with
          | false => rfl
          | true => exact absurd ⟨hq,hd⟩ hc
        cases hl : lastW ops E t n with
        | none =>
          rw [hl] at ih
          intro i o hi ho hd
          rcases Nat.lt_or_ge i n with h' | h'
          · exact ih i o h' ho hd
          · have : i = n := by omega
            subst this; exact hE o ho hd
        | some j =>
          rw [hl] at ih
          refine ⟨by omega,ih.2.1,ih.2.2.1,fun i o hj hi ho hd => ?_⟩
          rcases Nat.lt_or_ge i n with h' | h'
          · exact ih.2.2.2 i o hj h' ho hd
          · have : i = n := by omega
            subst this; exact hE o ho hd
theorem lastW_eq {ops : Array Oper} {E E' : Nat -> Bool} {t a b : Nat} (h1 : ∀ i o,ops[i]? = some o -> o.dst = some t -> ((i < a /\ E i = true) ↔ (i < b /\ E' i = true))) : lastW ops E t a = lastW ops E' t b := by
  have s1 := lastW_spec ops E t a
  have s2 := lastW_spec ops E' t b
  cases h : lastW ops E t a with
  | none =>
    rw [h] at s1
    cases h' : lastW ops E' t b with
    | none => rfl
    | some j =>
      rw [h'] at s2
      obtain ⟨q1,q2,⟨o,q3,q4⟩,_⟩ := s2
      obtain ⟨r1,r2⟩ := (h1 j o q3 q4).2 ⟨q1,q2⟩
      have := s1 j o r1 q3 q4
      rw [this] at r2; cases r2
  | some j =>
    rw [h] at s1
    obtain ⟨p1,p2,⟨o,p3,p4⟩,p5⟩ := s1
    obtain ⟨r1,r2⟩ := (h1 j o p3 p4).1 ⟨p1,p2⟩
    cases h' : lastW ops E' t b with
    | none =>
      rw [h'] at s2
      have := s2 j o r1 p3 p4
      rw [this] at r2; cases r2
    | some k =>
      rw [h'] at s2
      obtain ⟨q1,q2,⟨o',q3,q4⟩,q5⟩ := s2
      obtain ⟨u1,u2⟩ := (h1 k o' q3 q4).2 ⟨q1,q2⟩
      congr 1
      rcases Nat.lt_trichotomy j k with hlt | heq | hgt
      · have := p5 k o' hlt u1 q3 q4
        rw [this] at u2; cases u2
      · exact heq
      · have := q5 j o hgt r1 p3 p4
        rw [this] at r2; cases r2
def cput (fr : Fr) (t : Nat) (d : D) : D := if Nat.ble fr.n t = false /\ fr.loc.length <= t then .junk else d
theorem putO_get (fr : Fr) (dst : Option Nat) (d : D) (u : Nat) : (fr.putO dst d).get u = if dst = some u then cput fr u d else fr.get u := by
  cases dst with
  | none => simp [Fr.putO]
  | some t =>
    simp only [Fr.putO,get_put,cput]
    by_cases h : u = t
    · subst h; simp
    · rw [if_neg h,if_neg (by simpa using fun e => h e.symm)]
theorem putO_shape (fr : Fr) (dst : Option Nat) (d : D) (t : Nat) (e : D) : cput (fr.putO dst d) t e = cput fr t e := by
  cases dst with
  | none => rfl
  | some u =>
    have h1 : (fr.put u d).n = fr.n := by unfold Fr.put; split <;> rfl
    have h2 : (fr.put u d).loc.length = fr.loc.length := by unfold Fr.put; split <;> simp
    simp only [Fr.putO,cput,h1,h2]
theorem trace_get {pv : Pv} {cf : CallF} {ops : Array Oper} {F : Nat -> Fr} {S : Nat -> St} {dd : Nat -> D} (h : Trace pv cf ops ops.toList F S dd) (t : Nat) : ∀ (i : Nat),i <= ops.size ->
    (F i).get t = (match lastW ops (fun _ => true) t i with | some j => cput (F 0) t (dd j) | none => (F 0).get t) /\ ∀ e,cput (F i) t e = cput (F 0) t e
  | 0,_ => ⟨rfl,fun _ => rfl⟩
  | i + 1,hi => by
    obtain ⟨ih1,ih2⟩ := trace_get h t i (by omega)
    have ho : ops[i]? = some ops[i] := Array.getElem?_eq_getElem (by omega)
    have hp := h.put i ops[i] (by simpa using ho)
    rw [hp]
    refine ⟨?_,fun e => by rw [putO_shape]; exact ih2 e⟩
    rw [putO_get]
    unfold lastW
    rw [ho]
    simp only [true_and]
    split
    · exact ih2 _
    · exact ih1
def entry (j : Nat) (log : Log) (l : List Oper) (F : Nat -> Fr) (S : Nat -> St) (i : Nat) : Option (Oper × Fr × St × St) :=
  if i < j then log[j - 1 - i]? else (l[i - j]?).map fun x => (x,F (i - j),S (i - j),S (i - j + 1))
def Looked (dy : List (Nat × Nat)) (ops : Array Oper) (j : Nat) (log : Log) (l : List Oper) (F : Nat -> Fr) (S : Nat -> St) : Prop :=
  ∀ q o,l[q]? = some o -> wantD ops (F q) o = some true -> ∀ i,i < j + q -> listed dy i (j + q) = true -> ∃ x fi si si',entry j log l F S i = some (x,fi,si,si') /\ pairOk x fi si si' o (F q) (S q) (S (q + 1)) = true
theorem chk_spec {dy : List (Nat × Nat)} {j : Nat} {log : Log} {o : Oper} {fr : Fr} {st st' : St} (h : chkY dy j log o fr st st' = true) {i : Nat} (hi : i < j) (hl : listed dy i j = true) : ∃ x fi si si',log[j - 1 - i]? = some (x,fi,si,si') /\ pairOk x fi si si' o fr st st' = true := by
  unfold listed at hl
  obtain ⟨p,hp,he⟩ := List.any_eq_true.1 hl
  simp only [Bool.and_eq_true] at he
  have h1 := Nat.eq_of_beq_eq_true he.1
  have h2 := Nat.eq_of_beq_eq_true he.2
  have := List.all_eq_true.1 h p hp
  have hb : (Nat.beq p.2 j && Nat.blt p.1 j) = true := by
    rw [he.2,h1]; simp [Nat.blt]; omega
  rw [hb] at this
  simp only [h1] at this
  split at this
  · rename_i x fi si si' hx; exact ⟨x,fi,si,si',hx,this⟩
  · cases this
theorem traceY {pv : Pv} {cf : CallF} {ops : Array Oper} {dy : List (Nat × Nat)} : ∀ (l : List Oper) (j : Nat) (log : Log) (fr : Fr) (st : St) (fr' : Fr) (st' : St),log.length = j -> opsY pv cf ops dy j log l fr st = some (fr',st') ->
    ∃ (F : Nat -> Fr) (S : Nat -> St) (dd : Nat -> D),F 0 = fr /\ S 0 = st /\ F l.length = fr' /\ S l.length = st' /\ Trace pv cf ops l F S dd /\ Looked dy ops j log l F S
  | [],j,log,fr,st,fr',st',hj,h => by
    simp only [opsY] at h; cases h
    exact ⟨fun _ => fr,fun _ => st,fun _ => .junk,rfl,rfl,rfl,rfl,⟨by intro i o h; simp at h,by intro i o h; simp at h⟩,by intro q o h; simp at h⟩
  | o :: l,j,log,fr,st,fr',st',hj,h => by
    simp only [opsY] at h
    have mk : ∀ (d : D) (st1 : St),((wantD ops fr o = some true /\ operD pv cf fr st o = some (d,st1) /\ chkY dy j log o fr st st1 = true) \/ (wantD ops fr o = some false /\ d = .tup [] /\ st1 = st)) -> opsY pv cf ops dy (j + 1) ((o,fr,st,st1) :: log) l (fr.putO o.dst d) st1 = some (fr',st') ->
        ∃ (F : Nat -> Fr) (S : Nat -> St) (dd : Nat -> D),F 0 = fr /\ S 0 = st /\ F (o :: l).length = fr' /\ S (o :: l).length = st' /\ Trace pv cf ops (o :: l) F S dd /\ Looked dy ops j log (o :: l) F S := by
      intro d st1 hst hr
      obtain ⟨F,S,dd,h1,h2,h3,h4,h5,h6⟩ := traceY l (j + 1) _ _ _ _ _ (by simp [hj]) hr
      refine ⟨fun | 0 => fr | i + 1 => F i,fun | 0 => st | i + 1 => S i,fun | 0 => d | i + 1 => dd i,rfl,rfl,h3,h4,⟨fun i p hp => ?_,fun i p hp => ?_⟩,fun q p hp hw i hi hl => ?_⟩
      · cases i with
        | zero => simp at hp; subst hp; exact h1
        | succ i => exact h5.put i p (by simpa using hp)
      · cases i with
        | zero =>
          simp at hp; subst hp; simp only [h2]
          rcases hst with ⟨a,b,_⟩ | h
          · exact .inl ⟨a,b⟩
          · exact .inr h
        | succ i => exact h5.step i p (by simpa using hp)
      · cases q with
        | zero =>
          simp at hp; subst hp
          simp only at hw ⊢
          rcases hst with ⟨_,_,hc⟩ | ⟨hn,_,_⟩
          · obtain ⟨x,fi,si,si',e1,e2⟩ := chk_spec hc (i := i) (by omega) hl
            refine ⟨x,fi,si,si',?_,by simp only [h2]; exact e2⟩
            unfold entry; rw [if_pos (by omega)]; exact e1
          · rw [hn] at hw; cases hw
        | succ q =>
          obtain ⟨x,fi,si,si',e1,e2⟩ := h6 q p (by simpa using hp) hw i (by omega) (by rw [show j + 1 + q = j + (q + 1) by omega]; exact hl)
          refine ⟨x,fi,si,si',?_,e2⟩
          unfold entry at e1 ⊢
          rcases Nat.lt_trichotomy i j with h' | h' | h'
          · rw [if_pos (by omega)] at e1
            rw [if_pos h']
            rw [show j + 1 - 1 - i = (j - 1 - i) + 1 by omega] at e1
            simpa using e1
          · subst h'
            rw [if_pos (by omega)] at e1
            rw [if_neg (by omega)]
            simp at e1
            simp [h2]
            exact e1
          · rw [if_neg (by omega)] at e1
            rw [if_neg (by omega)]
            obtain ⟨m,hm⟩ : ∃ m,i = j + 1 + m := ⟨i - (j + 1),by omega⟩
            subst hm
            rw [show j + 1 + m - (j + 1) = m by omega] at e1
            rw [show j + 1 + m - j = m + 1 by omega]
            simpa using e1
    split at h
    · rename_i hw
      split at h
      · rename_i d st1 hop
        split at h
        · rename_i hc; exact mk d st1 (.inl ⟨hw,hop,hc⟩) h
        · cases h
      · cases h
    · rename_i hw; exact mk _ st (.inr ⟨hw,rfl,rfl⟩) h
    · cases h
def Still (dy : List (Nat × Nat)) (ops : Array Oper) (F : Nat -> Fr) (S : Nat -> St) : Prop :=
  ∀ r q y a k x,ops[r]? = some y -> rdOp? y.op = some a -> wantD ops (F r) y = some true -> ((F r).ev a).box? = some k -> ops[q]? = some x -> rdB x = false -> wantD ops (F q) x = some true -> (q < r -> listed dy q r = true) -> (r < q -> listed dy r q = true) ->
    (S (q + 1)).bs[k]? = (S q).bs[k]? /\ (r < q -> smallB (some k) (S r) (S (q + 1)) = true)
theorem still_of {ops : Array Oper} {dy : List (Nat × Nat)} {F : Nat -> Fr} {S : Nat -> St} (hl : Looked dy ops 0 [] ops.toList F S) : Still dy ops F S := by
  intro r q y a k x hy ha hw hk hx hxr hwx h1 h2
  have hxa : rdOp? x.op = none := by
    unfold rdB at hxr
    cases h : rdOp? x.op with
    | none => rfl
    | some _ => rw [h] at hxr; cases hxr
  rcases Nat.lt_trichotomy q r with h' | h' | h'
  · obtain ⟨x',fi,si,si',e1,e2⟩ := hl r y (by simpa using hy) hw q (by omega) (by rw [Nat.zero_add]; exact h1 h')
    simp only [entry,Nat.not_lt_zero,if_false,Nat.sub_zero,Array.getElem?_toList,hx,Option.map_some,Option.some.injEq,Prod.mk.injEq] at e1
    obtain ⟨rfl,rfl,rfl,rfl⟩ := e1
    simp only [pairOk,ha,hk] at e2
    exact ⟨stillB_eq e2,fun h => by omega⟩
  · subst h'; rw [hx] at hy; cases hy; rw [hxa] at ha; cases ha
  · obtain ⟨x',fi,si,si',e1,e2⟩ := hl q x (by simpa using hx) hwx r (by omega) (by rw [Nat.zero_add]; exact h2 h')
    simp only [entry,Nat.not_lt_zero,if_false,Nat.sub_zero,Array.getElem?_toList,hy,Option.map_some,Option.some.injEq,Prod.mk.injEq] at e1
    obtain ⟨rfl,rfl,rfl,rfl⟩ := e1
    simp only [pairOk,hxa,ha,hk,Bool.and_eq_true] at e2
    exact ⟨stillB_eq e2.1,fun _ => e2.2⟩
end Go.V
namespace Go.V
open Go.RowKit
theorem maxEff (p : Nat -> Prop) (base : Nat) : ∀ n, ∃ m,base <= m /\ (∀ j,j < n -> p j -> j + 1 <= m) /\ (m = base \/ ∃ j,j < n /\ p j /\ m = j + 1)
  | 0 => ⟨base,Nat.le_refl _,fun _ h => by omega, .inl rfl⟩
  | n + 1 => by
    obtain ⟨m,h1,h2,h3⟩ := maxEff p base n
    by_cases hp : p n
    · by_cases hm : n + 1 <= m
      · refine ⟨m,h1,fun j hj hpj => ?_,?_⟩
        · rcases Nat.lt_or_ge j n with h' | h'
          · exact h2 j h' hpj
          · have : j = n := by omega
            subst this; exact hm
        · rcases h3 with h3 | ⟨j,q1,q2,q3⟩
          · exact .inl h3
          · exact .inr ⟨j,by omega,q2,q3⟩
      · refine ⟨n + 1,by omega,fun j hj _ => by omega, .inr ⟨n,by omega,hp,rfl⟩⟩
    · refine ⟨m,h1,fun j hj hpj => ?_,?_⟩
      · rcases Nat.lt_or_ge j n with h' | h'
        · exact h2 j h' hpj
        · have : j = n := by omega
          subst this; exact absurd hpj hp
      · rcases h3 with h3 | ⟨j,q1,q2,q3⟩
        · exact .inl h3
        · exact .inr ⟨j,by omega,q2,q3⟩
def effI (pv : Pv) (ops : Array Oper) (F : Nat -> Fr) (i : Nat) : Prop := ∃ o,ops[i]? = some o /\ effB pv o = true /\ wantD ops (F i) o = some true
def Hs (S : Nat -> St) (sg : Nat -> Nat) (k : Nat) : Box := ((S (sg k)).bs[k]?).getD .dead
def Xm (S : Nat -> St) (sg : Nat -> Nat) (β : Nat -> Option (Nat × Nat)) (Z : Nat -> Prop) (m : Nat) : X := ⟨fun k => boxVer (Hs S sg k),fun k => if k < (S m).bs.length then β k else none,Z⟩
def stg (ops : Array Oper) (E : Nat -> Bool) (t : Nat) : Nat :=
  match lastW ops E t ops.size with
  | some j => j + 1
  | none => 0
def val (ops : Array Oper) (F : Nat -> Fr) (dd : Nat -> D) (E : Nat -> Bool) (t : Nat) : D :=
  match lastW ops E t ops.size with
  | some j => cput (F 0) t (dd j)
  | none => (F 0).get t
structure DI (pv : Pv) (ops : Array Oper) (F : Nat -> Fr) (S : Nat -> St) (dd : Nat -> D) (a0 : Act) (w0 : World) (β0 : Nat -> Option (Nat × Nat)) (Z0 : Nat -> Prop)
    (E : Nat -> Bool) (a : Act) (w : World) (β : Nat -> Option (Nat × Nat)) (Z : Nat -> Prop) (sg : Nat -> Nat) : Prop where
  size : a.tmps.size = a0.tmps.size
  defers : a.defers = a0.defers
  clo : Closed ops E
  bnd : ∀ k,E k = true -> k < ops.size
  dom : ∀ k p,β k = some p -> k < (S (sg k)).bs.length /\ sg k <= ops.size /\ (sg k = 0 \/ ∃ j,E j = true /\ sg k = j + 1 /\ (effI pv ops F j \/ (S j).bs.length <= k))
  cr : ∀ k p,β k = some p -> ∀ i,i < ops.size -> (S i).bs.length <= k -> k < (S (i + 1)).bs.length -> E i = true
  sg2 : ∀ k p,β k = some p -> ∀ j,E j = true -> effI pv ops F j -> k < (S j).bs.length -> j + 1 <= sg k
  ph : ∀ k,β k = none -> ∀ j,E j = true -> effI pv ops F j -> k < (S j).bs.length -> (S (j + 1)).bs[k]? = (S j).bs[k]?
  lt : ∀ k b base,β k = some (b,base) -> b < w.heap.size
  inj : ∀ k k' b x x',β k = some (b,x) -> β k' = some (b,x') -> k = k'
  zd : ∀ k b base,β k = some (b,base) -> ¬ Z b
  zl : ∀ b,Z b -> b < w.heap.size
  box : ∀ k b base,β k = some (b,base) -> BoxOk w (Xm S sg β Z (sg k)) b base (Hs S sg k)
  frame : ∀ t,VR w (Xm S sg β Z (stg ops E t)) (val ops F dd E t) (a.tmps.getD t undef)
  evo : Evo (wrt (S 0) β0) w0 w
  keeps : Keeps w0 ((S 0).x β0 Z0) w (Xm S sg β Z ops.size)
  fresh : ∀ k b base,β k = some (b,base) -> (∃ base',β0 k = some (b,base')) \/ w0.heap.size <= b
  zfresh : ∀ b,Z b -> Z0 b \/ w0.heap.size <= b
  low : ∀ k,k < (S 0).ro -> β k = β0 k
  old : ∀ k,k < (S 0).bs.length -> β0 k = none -> β k = none
section
variable {pv : Pv} {P : Program} (ok : pv.Ok P) {cf : CallF} (hcf : CfOk P pv cf) {ops : Array Oper} {F : Nat -> Fr} {S : Nat -> St} {dd : Nat -> D} (ht : Trace pv cf ops ops.toList F S dd) {dy : List (Nat × Nat)} (hreg : okReg pv ops dy = true)
include hcf ht
theorem tr_goes (i : Nat) (hi : i < ops.size) : Goes (S i) (S (i + 1)) /\ (¬ effI pv ops F i -> ∀ k,k < (S i).bs.length -> (S (i + 1)).bs[k]? = (S i).bs[k]?) := by
  have ho : ops[i]? = some ops[i] := Array.getElem?_eq_getElem hi
  rcases ht.step i ops[i] (by simpa using ho) with ⟨h1,h2⟩ | ⟨_,_,h3⟩
  · obtain ⟨g1,g2⟩ := operD_goes hcf h2
    refine ⟨g1,fun hn k hk => ?_⟩
    have he : effB pv ops[i] = false := by
      cases h : effB pv ops[i] with
      | false => rfl
      | true => exact absurd ⟨_,ho,h,h1⟩ hn
    obtain ⟨l,h⟩ := g2 he
    rw [h]; simp only; rw [List.getElem?_append_left hk]
  · rw [h3]; exact ⟨.refl _,fun _ _ _ => rfl⟩
theorem tr_mono : ∀ (j i : Nat),i <= j -> j <= ops.size -> Goes (S i) (S j)
  | 0,i,h,_ => by
    have : i = 0 := by omega
    subst this; exact .refl _
  | j + 1,i,h,hj => by
    rcases Nat.lt_or_ge i (j + 1) with h' | h'
    · exact (tr_mono j i (by omega) (by omega)).trans (tr_goes hcf ht j (by omega)).1
    · have : i = j + 1 := by omega
      subst this; exact .refl _
theorem tr_still {i : Nat} : ∀ (j : Nat),i <= j -> j <= ops.size -> ∀ k,k < (S i).bs.length -> (∀ q,i <= q -> q < j -> ¬ effI pv ops F q \/ (S (q + 1)).bs[k]? = (S q).bs[k]?) -> (S j).bs[k]? = (S i).bs[k]?
  | 0,h,_,k,_,_ => by
    have : i = 0 := by omega
    subst this; rfl
  | j + 1,h,hj,k,hk,hq => by
    rcases Nat.lt_or_ge i (j + 1) with h' | h'
    · have ih := tr_still j (by omega) (by omega) k hk fun q h1 h2 => hq q h1 (by omega)
      have hkj : k < (S j).bs.length := Nat.lt_of_lt_of_le hk (tr_mono hcf ht j i (by omega) (by omega)).len
      rcases hq j (by omega) (by omega) with h1 | h1
      · exact ((tr_goes hcf ht j (by omega)).2 h1 k hkj).trans ih
      · exact h1.trans ih
    · have : i = j + 1 := by omega
      subst this; rfl
theorem Xm_mono {w : World} {sg : Nat -> Nat} {β : Nat -> Option (Nat × Nat)} {Z : Nat -> Prop} {m m' : Nat} (h : m <= m') (h' : m' <= ops.size) : Keeps w (Xm S sg β Z m) w (Xm S sg β Z m') := by
  have hl := (tr_mono hcf ht m' m h h').len
  have key : ∀ k p,(Xm S sg β Z m).β k = some p -> (Xm S sg β Z m').β k = some p := by
    intro k p hp
    simp only [Xm] at hp ⊢
    split at hp
    · rename_i hk; rw [if_pos (by omega)]; exact hp
    · cases hp
  exact ⟨fun k p hp => ⟨p,key k p hp⟩,fun b hb => ⟨hb,rfl⟩,fun k c p _ hc => ⟨c,hc,Nat.le_refl _⟩,fun k c _ _ b base hb => ⟨key k _ hb,rfl⟩⟩
theorem seen_box {a0 a : Act} {w0 w : World} {β0 β : Nat -> Option (Nat × Nat)} {Z0 Z : Nat -> Prop} {E : Nat -> Bool} {sg : Nat -> Nat} (h : DI pv ops F S dd a0 w0 β0 Z0 E a w β Z sg) {i : Nat} (hi : i <= ops.size)
    (hd : ∀ j,j < i -> effI pv ops F j -> E j = true) (hu : ∀ j,i <= j -> effI pv ops F j -> E j = false) {k : Nat} {p : Nat × Nat} (hk : β k = some p) (hki : k < (S i).bs.length) :
    sg k <= i /\ Hs S sg k = ((S i).bs[k]?).getD .dead /\ (S i).bs[k]? = some (Hs S sg k) := by
  obtain ⟨h1,h2,h3⟩ := h.dom k p hk
  have hle : sg k <= i := by
    rcases h3 with h3 | ⟨j,q1,q2,q3⟩
    · omega
    · rw [q2]
      rcases q3 with q3 | q3
      · rcases Nat.lt_or_ge j i with h' | h'
        · exact h'
        · have := hu j h' q3; rw [this] at q1; cases q1
      · rcases Nat.lt_or_ge j i with h' | h'
        · exact h'
        · have hjn := h.bnd j q1
          have := (tr_mono hcf ht j i h' (by omega)).len
          omega
  have heq := tr_still hcf ht i hle hi k h1 fun q hq1 hq2 => by
    by_cases he : effI pv ops F q
    · have hE := hd q hq2 he
      have hkq : k < (S q).bs.length := Nat.lt_of_lt_of_le h1 (tr_mono hcf ht q (sg k) hq1 (by omega)).len
      have := h.sg2 k p hk q hE he hkq
      omega
    · exact .inl he
  refine ⟨hle,by simp only [Hs]; rw [heq],?_⟩
  rw [heq]
  simp only [Hs]
  rw [List.getElem?_eq_getElem h1]; rfl
end
end Go.V
namespace Go.V
open Go.RowKit
theorem BoxOk.ver {w : World} {x : X} {b base : Nat} {bx : Box} (h : BoxOk w x b base bx) : ∃ c,boxVer bx = some c := by
  cases bx with
  | mem v a c => exact ⟨v,rfl⟩
  | iter s p => exact ⟨0,rfl⟩
  | map e => exact ⟨0,rfl⟩
  | dead => exact h.elim
def glue (S : Nat -> St) (j : Nat) (βl β : Nat -> Option (Nat × Nat)) : Nat -> Option (Nat × Nat) := fun k => if k < (S (j + 1)).bs.length then βl k else β k
open Classical in
noncomputable def sgNew (pv : Pv) (ops : Array Oper) (F : Nat -> Fr) (S : Nat -> St) (j m : Nat) (sg : Nat -> Nat) : Nat -> Nat :=
  fun k => if k < (S (j + 1)).bs.length /\ (effI pv ops F j \/ (S j).bs.length <= k) then m else sg k
section
variable {pv : Pv} {P : Program} {cf : CallF} (hcf : CfOk P pv cf) {ops : Array Oper} {F : Nat -> Fr} {S : Nat -> St} {dd : Nat -> D} (ht : Trace pv cf ops ops.toList F S dd)
include hcf ht
theorem DI.put {a0 a : Act} {w0 w w' : World} {β0 β βl : Nat -> Option (Nat × Nat)} {Z0 Z Zl : Nat -> Prop} {E E' : Nat -> Bool} {sg : Nat -> Nat} (h : DI pv ops F S dd a0 w0 β0 Z0 E a w β Z sg) {j m : Nat} {o : Oper} (hj : E j = false) (ho : ops[j]? = some o)
    (hE' : ∀ k,E' k = true ↔ (E k = true \/ k = j)) (hrd : ∀ e ∈ o.after.toList,Region.binds .any e = true -> E e.on = true) (hlate : ∀ i o' t,j < i -> ops[i]? = some o' -> o.dst = some t -> o'.dst = some t -> E i = false)
    (hdst : ∀ t,o.dst = some t -> t < a.tmps.size) (hro0 : (S 0).ro <= (S 0).bs.length) {T T' : St} {v : Value}
    (hn : Nx w T (fun k => if k < (S j).bs.length then β k else none) Z w' T' βl Zl) (hTl : T.bs.length = (S j).bs.length) (hTl' : T'.bs.length = (S (j + 1)).bs.length) (hTr : T.ro = (S j).ro)
    (hv : VR w' (T'.x βl Zl) (dd j) v) (hTv : ∀ k p,k < (S j).bs.length -> β k = some p -> T.ver k = boxVer (Hs S sg k))
    (hm1 : j + 1 <= m) (hmn : m <= ops.size) (hm2 : ∀ i,E i = true -> effI pv ops F i -> i + 1 <= m) (hm3 : m = j + 1 \/ ∃ i,E i = true /\ effI pv ops F i /\ m = i + 1)
    (hT'v : ∀ k p,βl k = some p -> T'.ver k = boxVer (Hs S (sgNew pv ops F S j m sg) k))
    (hT'b : ∀ k b base,βl k = some (b,base) -> (effI pv ops F j \/ (S j).bs.length <= k) -> BoxOk w' (T'.x βl Zl) b base (Hs S (sgNew pv ops F S j m sg) k))
    (hq : ¬ effI pv ops F j -> Quiet w w') (hS : effI pv ops F j -> T = S j /\ T' = S (j + 1)) :
    DI pv ops F S dd a0 w0 β0 Z0 E' (a.put o.dst v) w' (glue S j βl β) Zl (sgNew pv ops F S j m sg) := by
  have hjn : j < ops.size := by
    rcases Nat.lt_or_ge j ops.size with h' | h'
    · exact h'
    · rw [Array.getElem?_eq_none h'] at ho; cases ho
  have hNj := (tr_goes hcf ht j hjn).1.len
  have hN : ∀ {a b : Nat},a <= b -> b <= ops.size -> (S a).bs.length <= (S b).bs.length := fun h1 h2 => (tr_mono hcf ht _ _ h1 h2).len
  have lk : ∀ k p,βl k = some p -> k < (S (j + 1)).bs.length := fun k p hp => by rw [<- hTl']; exact hn.sim.dom k p.1 p.2 hp
  have fA : ∀ k,k < (S j).bs.length -> β k = none -> βl k = none /\ T'.bs[k]? = T.bs[k]? := fun k hk h0 => hn.old k (by rw [hTl]; exact hk) (by simp only [if_pos hk]; exact h0)
  have fB : ∀ k p,k < (S j).bs.length -> β k = some p -> ∃ p',βl k = some p' := fun k p hk hp => hn.keeps.dm k p (by simp only [St.x,if_pos hk]; exact hp)
  have fC : ∀ k p,(S j).bs.length <= k -> k < (S (j + 1)).bs.length -> β k = some p -> False := fun k p h1 h2 hp => by
    have := h.cr k p hp j hjn h1 h2; rw [hj] at this; cases this
  have sgO : ∀ k, ¬ (k < (S (j + 1)).bs.length /\ (effI pv ops F j \/ (S j).bs.length <= k)) -> sgNew pv ops F S j m sg k = sg k := fun k hk => by simp only [sgNew]; rw [if_neg hk]
  have sgN : ∀ k,k < (S (j + 1)).bs.length -> (effI pv ops F j \/ (S j).bs.length <= k) -> sgNew pv ops F S j m sg k = m := fun k h1 h2 => by simp only [sgNew]; rw [if_pos ⟨h1,h2⟩]
  have gl1 : ∀ k,k < (S (j + 1)).bs.length -> glue S j βl β k = βl k := fun k hk => by simp only [glue,if_pos hk]
  have gl2 : ∀ k, ¬ k < (S (j + 1)).bs.length -> glue S j βl β k = β k := fun k hk => by simp only [glue,if_neg hk]
  have HsO : ∀ k, ¬ (k < (S (j + 1)).bs.length /\ (effI pv ops F j \/ (S j).bs.length <= k)) -> Hs S (sgNew pv ops F S j m sg) k = Hs S sg k := fun k hk => by simp only [Hs,sgO k hk]
  have fE : ∀ k b base, ¬ k < (S j).bs.length -> β k = some (b,base) -> w'.heap[b]? = w.heap[b]? := by
    intro k b base hk hb
    refine hn.evo.block b (h.lt k b base hb) ?_
    rintro ⟨k',base',hk',_⟩
    dsimp only at hk'
    split at hk'
    · rename_i hlt
      have := h.inj k k' b _ _ hb hk'
      omega
    · cases hk'
  have fD : ¬ effI pv ops F j -> ∀ k p,k < (S j).bs.length -> β k = some p -> βl k = some p := by
    intro hne k p hk hp
    obtain ⟨p',hp'⟩ := fB k p hk hp
    have e1 := hTv k p hk hp
    have e2 := hT'v k p' hp'
    rw [HsO k (by rintro ⟨_,h1 | h1⟩; exact hne h1; omega)] at e2
    obtain ⟨c,hc⟩ := (h.box k p.1 p.2 hp).ver
    rw [hc] at e1 e2
    exact (hn.keeps.at_ k c e2 e1 p.1 p.2 (by simp only [St.x,if_pos hk]; exact hp)).1
  have KX : ∀ q,Keeps w (Xm S sg β Z q) w' (Xm S (sgNew pv ops F S j m sg) (glue S j βl β) Zl q) := by
    intro q
    refine ⟨fun k p hp => ?_,hn.keeps.z,fun k c p hp hc => ?_,fun k c hc hc' b base hb => ?_⟩
    · simp only [Xm] at hp ⊢
      split at hp
      · rename_i hkq
        rw [if_pos hkq]
        by_cases hk : k < (S (j + 1)).bs.length
        · rw [gl1 k hk]
          by_cases hkj : k < (S j).bs.length
          · exact fB k p hkj hp
          · exact (fC k p (by omega) hk hp).elim
        · rw [gl2 k hk]; exact ⟨p,hp⟩
      · cases hp
    · simp only [Xm] at hp hc ⊢
      split at hp
      · by_cases hkj : k < (S j).bs.length
        · obtain ⟨p',hp'⟩ := fB k p hkj hp
          obtain ⟨o',h1,h2⟩ := hn.keeps.ver k c p (by simp only [St.x,if_pos hkj]; exact hp) (by show T'.ver k = some c; rw [hT'v k p' hp']; exact hc)
          exact ⟨o',by rw [<- hTv k p hkj hp]; exact h1,h2⟩
        · by_cases hk : k < (S (j + 1)).bs.length
          · exact (fC k p (by omega) hk hp).elim
          · rw [HsO k (fun h' => hk h'.1)] at hc
            exact ⟨c,hc,Nat.le_refl _⟩
      · cases hp
    · simp only [Xm] at hb hc hc' ⊢
      split at hb
      · rename_i hkq
        rw [if_pos hkq]
        by_cases hkj : k < (S j).bs.length
        · obtain ⟨p',hp'⟩ := fB k _ hkj hb
          have := hn.keeps.at_ k c (by show T'.ver k = some c; rw [hT'v k p' hp']; exact hc) (by show T.ver k = some c; rw [hTv k _ hkj hb]; exact hc') b base (by simp only [St.x,if_pos hkj]; exact hb)
          rw [gl1 k (by omega)]; exact this
        · by_cases hk : k < (S (j + 1)).bs.length
          · exact (fC k _ (by omega) hk hb).elim
          · rw [gl2 k hk]; exact ⟨hb,rowSize_eq (fE k b base hkj hb)⟩
      · cases hb
  have KT : Keeps w' (T'.x βl Zl) w' (Xm S (sgNew pv ops F S j m sg) (glue S j βl β) Zl (j + 1)) := by
    have key : ∀ k p,βl k = some p -> (Xm S (sgNew pv ops F S j m sg) (glue S j βl β) Zl (j + 1)).β k = some p := by
      intro k p hp
      have := lk k p hp
      simp only [Xm]; rw [if_pos this,gl1 k this]; exact hp
    refine ⟨fun k p hp => ⟨p,key k p hp⟩,fun b hb => ⟨hb,rfl⟩,fun k c p hp hc => ⟨c,?_,Nat.le_refl _⟩,fun k c _ _ b base hb => ⟨key k _ hb,rfl⟩⟩
    show T'.ver k = some c
    rw [hT'v k p hp]; exact hc
  have hmN : (S (j + 1)).bs.length <= (S m).bs.length := hN hm1 hmn
  have hemn : ∀ k,k < (S (j + 1)).bs.length -> (effI pv ops F j \/ (S j).bs.length <= k) -> k < (S m).bs.length := fun k h1 _ => by omega
  refine ⟨by rw [put_size]; exact h.size,by rw [put_defers]; exact h.defers,?_,?_,?_,?_,?_,?_,?_,?_,?_,?_,?_,?_,?_,h.keeps.trans (KX _),?_,?_,?_,?_⟩
  ·
    intro k o' hk ho' e he hb
    rcases (hE' k).1 hk with hk | rfl
    · exact (hE' _).2 (.inl (h.clo k o' hk ho' e he hb))
    · rw [ho] at ho'; cases ho'
      exact (hE' _).2 (.inl (hrd e he hb))
  · intro k hk
    rcases (hE' k).1 hk with hk | rfl
    · exact h.bnd k hk
    · exact hjn
  ·
    intro k p hp
    by_cases hk : k < (S (j + 1)).bs.length
    · rw [gl1 k hk] at hp
      by_cases hc : effI pv ops F j \/ (S j).bs.length <= k
      · rw [sgN k hk hc]
        refine ⟨hemn k hk hc,hmn, .inr ?_⟩
        rcases hm3 with rfl | ⟨i,q1,q2,q3⟩
        · exact ⟨j,(hE' j).2 (.inr rfl),rfl,hc⟩
        · exact ⟨i,(hE' i).2 (.inl q1),q3, .inl q2⟩
      · rw [sgO k (fun h' => hc h'.2)]
        have hkj : k < (S j).bs.length := by
          rcases Nat.lt_or_ge k (S j).bs.length with h' | h'
          · exact h'
          · exact absurd (.inr h') hc
        cases hβ : β k with
        | none => have := (fA k hkj hβ).1; rw [hp] at this; cases this
        | some q =>
          obtain ⟨d1,d2,d3⟩ := h.dom k q hβ
          refine ⟨d1,d2,?_⟩
          rcases d3 with d3 | ⟨i,r1,r2,r3⟩
          · exact .inl d3
          · exact .inr ⟨i,(hE' i).2 (.inl r1),r2,r3⟩
    · rw [gl2 k hk] at hp
      rw [sgO k (fun h' => hk h'.1)]
      obtain ⟨d1,d2,d3⟩ := h.dom k p hp
      refine ⟨d1,d2,?_⟩
      rcases d3 with d3 | ⟨i,r1,r2,r3⟩
      · exact .inl d3
      · exact .inr ⟨i,(hE' i).2 (.inl r1),r2,r3⟩
  ·
    intro k p hp i hi h1 h2
    by_cases hk : k < (S (j + 1)).bs.length
    · rw [gl1 k hk] at hp
      by_cases hkj : k < (S j).bs.length
      · cases hβ : β k with
        | none => have := (fA k hkj hβ).1; rw [hp] at this; cases this
        | some q => exact (hE' i).2 (.inl (h.cr k q hβ i hi h1 h2))
      · have : i = j := by
          rcases Nat.lt_trichotomy i j with h' | h' | h'
          · have := hN (a := i + 1) (b := j) (by omega) (by omega); omega
          · exact h'
          · have := hN (a := j + 1) (b := i) (by omega) (by omega); omega
        subst this; exact (hE' _).2 (.inr rfl)
    · rw [gl2 k hk] at hp
      exact (hE' i).2 (.inl (h.cr k p hp i hi h1 h2))
  ·
    intro k p hp i hi he hki
    by_cases hk : k < (S (j + 1)).bs.length
    · rw [gl1 k hk] at hp
      by_cases hc : effI pv ops F j \/ (S j).bs.length <= k
      · rw [sgN k hk hc]
        rcases (hE' i).1 hi with hi | rfl
        · exact hm2 i hi he
        · exact hm1
      · rw [sgO k (fun h' => hc h'.2)]
        have hkj : k < (S j).bs.length := by
          rcases Nat.lt_or_ge k (S j).bs.length with h' | h'
          · exact h'
          · exact absurd (.inr h') hc
        cases hβ : β k with
        | none => have := (fA k hkj hβ).1; rw [hp] at this; cases this
        | some q =>
          rcases (hE' i).1 hi with hi | rfl
          · exact h.sg2 k q hβ i hi he hki
          · exact absurd (.inl he) hc
    · rw [gl2 k hk] at hp
      rw [sgO k (fun h' => hk h'.1)]
      rcases (hE' i).1 hi with hi | rfl
      · exact h.sg2 k p hp i hi he hki
      · omega
  ·
    intro k hk0 i hi he hki
    have hβ : k < (S j).bs.length \/ ¬ k < (S (j + 1)).bs.length -> β k = none := by
      rintro (hkj | hk)
      · cases hβ : β k with
        | none => rfl
        | some q =>
          obtain ⟨p',hp'⟩ := fB k q hkj hβ
          rw [gl1 k (by omega),hp'] at hk0; cases hk0
      · rw [gl2 k hk] at hk0; exact hk0
    have hβ' : β k = none := by
      by_cases hkj : k < (S j).bs.length
      · exact hβ (.inl hkj)
      · by_cases hk : k < (S (j + 1)).bs.length
        · cases hb : β k with
          | none => rfl
          | some q => exact (fC k q (by omega) hk hb).elim
        · exact hβ (.inr hk)
    rcases (hE' i).1 hi with hi | rfl
    · exact h.ph k hβ' i hi he hki
    · obtain ⟨e1,e2⟩ := hS he
      have := (fA k hki hβ').2
      rw [e1,e2] at this; exact this
  ·
    intro k b base hp
    by_cases hk : k < (S (j + 1)).bs.length
    · rw [gl1 k hk] at hp; exact hn.sim.lt k b base hp
    · rw [gl2 k hk] at hp; exact Nat.lt_of_lt_of_le (h.lt k b base hp) hn.evo.size
  ·
    have mix : ∀ k k' b x x',k < (S (j + 1)).bs.length -> ¬ k' < (S (j + 1)).bs.length -> βl k = some (b,x) -> β k' = some (b,x') -> False := by
      intro k k' b x x' hk hk' h1 h2
      rcases hn.fresh k b x h1 with ⟨base',hb'⟩ | hlt
      · try dsimp only at hb'
        split at hb'
        · have := h.inj k k' b _ _ hb' h2; omega
        · cases hb'
      · have := h.lt k' b x' h2; omega
    intro k k' b x x' h1 h2
    by_cases hk : k < (S (j + 1)).bs.length <;> by_cases hk' : k' < (S (j + 1)).bs.length
    · rw [gl1 k hk] at h1; rw [gl1 k' hk'] at h2; exact hn.sim.inj k k' b x x' h1 h2
    · rw [gl1 k hk] at h1; rw [gl2 k' hk'] at h2; exact (mix k k' b x x' hk hk' h1 h2).elim
    · rw [gl2 k hk] at h1; rw [gl1 k' hk'] at h2; exact (mix k' k b x' x hk' hk h2 h1).elim
    · rw [gl2 k hk] at h1; rw [gl2 k' hk'] at h2; exact h.inj k k' b x x' h1 h2
  ·
    intro k b base hp hz
    by_cases hk : k < (S (j + 1)).bs.length
    · rw [gl1 k hk] at hp; exact hn.sim.zd k b base hp hz
    · rw [gl2 k hk] at hp
      rcases hn.zfresh b hz with hz | hlt
      · exact h.zd k b base hp hz
      · have := h.lt k b base hp; omega
  · exact hn.sim.zl
  ·
    intro k b base hp
    by_cases hk : k < (S (j + 1)).bs.length
    · rw [gl1 k hk] at hp
      by_cases hc : effI pv ops F j \/ (S j).bs.length <= k
      · rw [sgN k hk hc]
        exact (hT'b k b base hp hc).keep (KT.trans (Xm_mono hcf ht hm1 hmn)) rfl
      · have hkj : k < (S j).bs.length := by
          rcases Nat.lt_or_ge k (S j).bs.length with h' | h'
          · exact h'
          · exact absurd (.inr h') hc
        have hne : ¬ effI pv ops F j := fun h' => hc (.inl h')
        rw [sgO k (fun h' => hc h'.2),HsO k (fun h' => hc h'.2)]
        cases hβ : β k with
        | none => have := (fA k hkj hβ).1; rw [hp] at this; cases this
        | some q =>
          have := fD hne k q hkj hβ
          rw [hp] at this; cases this
          exact (h.box k b base hβ).keep (KX _) (hq hne b (h.lt k b base hβ))
    · rw [gl2 k hk] at hp
      rw [sgO k (fun h' => hk h'.1),HsO k (fun h' => hk h'.1)]
      exact (h.box k b base hp).keep (KX _) (fE k b base (by omega) hp)
  ·
    intro t
    by_cases hd : o.dst = some t
    · have hl : lastW ops E' t ops.size = some j := by
        have s := lastW_spec ops E' t ops.size
        cases hl : lastW ops E' t ops.size with
        | none =>
          rw [hl] at s
          have := s j o hjn ho hd
          rw [(hE' j).2 (.inr rfl)] at this; cases this
        | some i =>
          rw [hl] at s
          obtain ⟨s1,s2,⟨o',s3,s4⟩,s5⟩ := s
          rcases Nat.lt_trichotomy i j with h' | h' | h'
          · have := s5 j o h' hjn ho hd
            rw [(hE' j).2 (.inr rfl)] at this; cases this
          · rw [h']
          · have := hlate i o' t h' s3 hd s4
            rcases (hE' i).1 s2 with h2 | h2
            · rw [this] at h2; cases h2
            · omega
      have hget : (a.put o.dst v).tmps.getD t undef = v := by
        rw [hd]
        simp only [Act.put,Array.getD_eq_getD_getElem?]
        rw [Array.getElem?_setIfInBounds_self_of_lt (hdst t hd)]; rfl
      rw [hget]
      simp only [val,stg,hl]
      unfold cput
      split
      · exact .junk _ _ _
      · exact hv.mono KT
    · have hl : lastW ops E' t ops.size = lastW ops E t ops.size := by
        refine lastW_eq fun i o' h1 h2 => ?_
        have hij : i ≠ j := fun e => by subst e; rw [ho] at h1; cases h1; exact hd h2
        rw [hE' i]
        simp [hij]
      have hget : (a.put o.dst v).tmps.getD t undef = a.tmps.getD t undef := by
        cases hdd : o.dst with
        | none => rfl
        | some u =>
          have hut : u ≠ t := fun e => hd (by rw [hdd,e])
          simp only [Act.put,Array.getD_eq_getD_getElem?]
          rw [Array.getElem?_setIfInBounds_ne hut]
      rw [hget]
      have hf := h.frame t
      simp only [val,stg,hl] at hf ⊢
      exact hf.mono (KX _)
  ·
    refine h.evo.trans hn.evo (fun _ hm => hm) fun b hb hm => ?_
    obtain ⟨k,base,hk,hro⟩ := hm
    dsimp only at hk
    split at hk
    · rcases h.fresh k b base hk with ⟨base',hb'⟩ | hlt
      · refine ⟨k,base',hb',?_⟩
        have := (tr_mono hcf ht j 0 (by omega) (by omega)).ro
        rw [<- this, <- hTr]; exact hro
      · omega
    · cases hk
  ·
    intro k b base hp
    by_cases hk : k < (S (j + 1)).bs.length
    · rw [gl1 k hk] at hp
      rcases hn.fresh k b base hp with ⟨base',hb'⟩ | hlt
      · try dsimp only at hb'
        split at hb'
        · exact h.fresh k b base' hb'
        · cases hb'
      · exact .inr (Nat.le_trans h.evo.size hlt)
    · rw [gl2 k hk] at hp; exact h.fresh k b base hp
  · intro b hz
    rcases hn.zfresh b hz with hz | hlt
    · exact h.zfresh b hz
    · exact .inr (Nat.le_trans h.evo.size hlt)
  ·
    intro k hk
    have h0 := hN (a := 0) (b := j) (by omega) (by omega)
    have hkj : k < (S j).bs.length := by omega
    have hr := (tr_mono hcf ht j 0 (by omega) (by omega)).ro
    have := (hn.low k (by rw [hTr,hr]; exact hk)).2
    rw [gl1 k (by omega),this]
    simp only [if_pos hkj]
    exact h.low k hk
  ·
    intro k hk hk0
    have h0 := hN (a := 0) (b := j) (by omega) (by omega)
    have hkj : k < (S j).bs.length := by omega
    rw [gl1 k (by omega)]
    exact (fA k hkj (h.old k hk hk0)).1
end
end Go.V
namespace Go.V
open Go.RowKit
theorem pa_eff {pv : Pv} {o : Oper} (h : paB o = true) : effB pv o = false := by
  obtain ⟨dst,op,ty,pos,after,guard⟩ := o
  cases op <;> simp only [paB,Bool.false_eq_true] at h <;> try rfl
  rename_i c
  obtain ⟨callee,args,ats⟩ := c
  cases callee <;> simp only [Bool.false_eq_true] at h
  rename_i b
  cases b <;> simp at h <;> rfl
theorem eff_no {pv : Pv} {o : Oper} (h : effB pv o = true) : paB o = false /\ rdB o = false := by
  refine ⟨?_,?_⟩
  · cases hp : paB o with
    | false => rfl
    | true => rw [pa_eff hp] at h; cases h
  · obtain ⟨dst,op,ty,pos,after,guard⟩ := o
    cases op <;> first | rfl | (simp [effB] at h)
theorem mem?_eq {a b : St} {k : Nat} (h : a.bs[k]? = b.bs[k]?) (v : Nat) : a.mem? k v = b.mem? k v := by
  simp only [St.mem?,h]
theorem opD_rd {pv : Pv} {fr : Fr} {st st' : St} {op : Op} {ty : TypeId} {a : Operand} {d : D} (ha : rdOp? op = some a) (h : opD pv fr st op ty = some (d,st')) : st' = st /\ ∀ T : St,(∀ k,(fr.ev a).box? = some k -> T.bs[k]? = st.bs[k]?) -> opD pv fr T op ty = some (d,T) := by
  cases op <;> simp only [rdOp?,Option.some.injEq,reduceCtorEq] at ha
  case load t x =>
    subst ha
    simp only [opD] at h ⊢
    obtain ⟨r,hz,hs⟩ := Option.map_eq_some_iff.1 h
    cases hs
    refine ⟨rfl,fun T hT => ?_⟩
    have : loadD pv t (fr.ev x) T = loadD pv t (fr.ev x) st := by
      cases hx : fr.ev x <;> first | rfl | skip
      rename_i k v off
      simp only [loadD]
      rw [mem?_eq (hT k (by rw [hx]; rfl))]
    rw [this,hz]; rfl
  case indexAddr t x i =>
    subst ha
    simp only [opD] at h ⊢
    obtain ⟨r,hz,hs⟩ := Option.map_eq_some_iff.1 h
    cases hs
    refine ⟨rfl,fun T hT => ?_⟩
    have : indexAddrD pv t (fr.ev x) (fr.ev i) T = indexAddrD pv t (fr.ev x) (fr.ev i) st := by
      cases hx : fr.ev x with
      | win k v off len sz =>
        have hm := mem?_eq (hT k (by rw [hx]; rfl)) v
        simp only [indexAddrD]
        cases fr.ev i <;> try rfl
        cases pv.und t with
        | none => rfl
        | some td => cases td <;> first | rfl | (simp only [hm])
      | _ =>
        simp only [indexAddrD]
        cases fr.ev i <;> try rfl
        cases pv.und t with
        | none => rfl
        | some td => cases td <;> rfl
    rw [this,hz]; rfl
theorem rd_operD {pv : Pv} {cf : CallF} {fr : Fr} {st : St} {o : Oper} (h : rdB o = true) : operD pv cf fr st o = opD pv fr st o.op o.type := by
  unfold operD
  split
  · rename_i hop
    simp [rdB,hop,rdOp?] at h
  · rfl
theorem pa_operD {pv : Pv} {cf : CallF} {fr : Fr} {st : St} {o : Oper} (h : paB o = true) : operD pv cf fr st o = opD pv fr st o.op o.type := by
  unfold operD
  split
  · rename_i hop
    simp only [paB,hop,Bool.false_eq_true] at h
  · rfl
def cutF (fr : Fr) (ts : List Nat) : Fr := ⟨0, [],ts.map fun t => (t,fr.get t)⟩
theorem look_map (f : Nat -> D) (t : Nat) : ∀ (ts : List Nat),look t (ts.map fun t => (t,f t)) = if t ∈ ts then f t else .junk
  | [] => rfl
  | u :: l => by
    simp only [List.map_cons,look]
    by_cases h : t = u
    · subst h; simp
    · have : Nat.beq t u = false := by
        cases hb : Nat.beq t u with
        | false => rfl
        | true => exact absurd (Nat.eq_of_beq_eq_true hb) h
      rw [this,look_map f t l]
      simp [h]
theorem cutF_get (fr : Fr) (ts : List Nat) (t : Nat) : (cutF fr ts).get t = if t ∈ ts then fr.get t else .junk := by
  simp only [cutF,Fr.get,Nat.ble]
  exact look_map fr.get t ts
def hol (p : Option (Nat × Nat)) (bx : Box) : Box :=
  match p,bx with
  | some _, .mem v a _ => .mem v a []
  | some _, .iter s q => .iter s q
  | some _, .map es => .map es
  | _,_ => .dead
def holT (st : St) (β : Nat -> Option (Nat × Nat)) (H : Nat -> Box) : St := ⟨(List.range st.bs.length).map fun k => hol (β k) (H k),st.flr,st.ro⟩
theorem holT_get {st : St} {β : Nat -> Option (Nat × Nat)} {H : Nat -> Box} {k : Nat} (h : k < st.bs.length) : (holT st β H).bs[k]? = some (hol (β k) (H k)) := by
  simp [holT,h]
theorem holT_len (st : St) (β : Nat -> Option (Nat × Nat)) (H : Nat -> Box) : (holT st β H).bs.length = st.bs.length := by simp [holT]
theorem hol_ok {w : World} {x x' : X} {b base : Nat} {bx : Box} (h : BoxOk w x b base bx) (p : Nat × Nat) : BoxOk w x' b base (hol (some p) bx) /\ boxVer (hol (some p) bx) = boxVer bx := by
  cases bx with
  | mem v a c =>
    obtain ⟨c',el,fr,h1,h2,h3,_⟩ := h
    exact ⟨⟨c',el,fr,h1,by simp; omega,h3,fun j d hd => by simp at hd⟩,rfl⟩
  | iter s q => exact ⟨h,rfl⟩
  | map e => exact ⟨h,rfl⟩
  | dead => exact h.elim
def addE (E : Nat -> Bool) (j : Nat) : Nat -> Bool := fun k => E k || Nat.beq k j
theorem addE_iff (E : Nat -> Bool) (j k : Nat) : addE E j k = true ↔ (E k = true \/ k = j) := by
  simp [addE]
theorem VR.cutV {w : World} {x x' : X} {N : Nat} (hZ : ∀ b,x.Z b -> x'.Z b) (hv : ∀ k,x'.ver k = x.ver k) (hβ : ∀ k p,k < N -> x.β k = some p -> x'.β k = some p) {d : D} {v : Value} (h : VR w x d v) (hr : d.ref <= N) : VR w x' d v := by
  induction h with
  | im d v h => exact .im _ _ (h.mono fun b hb => ⟨hZ b hb,rfl⟩)
  | win k vr off len s a cap hc hk hm h =>
    simp only [D.ref] at hr
    refine .win k vr off len s a cap hc (by obtain ⟨p,hp⟩ := hk; exact ⟨p,hβ k p (by omega) hp⟩) (fun c hc => hm c (by rw [<- hv]; exact hc)) fun hc => ?_
    obtain ⟨b,base,sz,h1,h2⟩ := h (by rw [<- hv]; exact hc)
    exact ⟨b,base,sz,hβ k _ (by omega) h1,h2⟩
  | ptr k vr off a hk hm h =>
    simp only [D.ref] at hr
    refine .ptr k vr off a (by obtain ⟨p,hp⟩ := hk; exact ⟨p,hβ k p (by omega) hp⟩) (fun c hc => hm c (by rw [<- hv]; exact hc)) fun hc => ?_
    obtain ⟨b,base,h1,h2⟩ := h (by rw [<- hv]; exact hc)
    exact ⟨b,base,hβ k _ (by omega) h1,h2⟩
  | mp k r hk h =>
    simp only [D.ref] at hr
    refine .mp k r (by obtain ⟨p,hp⟩ := hk; exact ⟨p,hβ k p (by omega) hp⟩) fun hc => ?_
    obtain ⟨base,h1⟩ := h (by rw [<- hv]; exact hc)
    exact ⟨base,hβ k _ (by omega) h1⟩
  | fn f cs vs hl hr' ih => simp only [D.ref] at hr; exact .fn f cs vs hl fun i c v hc hv => ih i c v hc hv (Nat.le_trans (ref_le_refs (List.mem_of_getElem? hc)) hr)
  | agg cs vs hl h1 hr' ih => simp only [D.ref] at hr; exact .agg cs vs hl h1 fun i c v hc hv => ih i c v hc hv (Nat.le_trans (ref_le_refs (List.mem_of_getElem? hc)) hr)
  | tup cs vs hl hr' ih => simp only [D.ref] at hr; exact .tup cs vs hl fun i c v hc hv => ih i c v hc hv (Nat.le_trans (ref_le_refs (List.mem_of_getElem? hc)) hr)
section
variable {pv : Pv} {P : Program} {cf : CallF} (hcf : CfOk P pv cf) {ops : Array Oper} {F : Nat -> Fr} {S : Nat -> St} {dd : Nat -> D} (ht : Trace pv cf ops ops.toList F S dd)
include hcf ht
theorem cut_box {w : World} {sg : Nat -> Nat} {β : Nat -> Option (Nat × Nat)} {Z : Nat -> Prop} {j m k b base : Nat} (hjm : j <= m) (hm : m <= ops.size) (h : BoxOk w (Xm S sg β Z m) b base (Hs S sg k)) (he : (S j).bs[k]? = some (Hs S sg k)) (hs : smallB (some k) (S j) (S m) = true) : BoxOk w (Xm S sg β Z j) b base (Hs S sg k) := by
  have hl := (tr_mono hcf ht m j hjm hm).len
  unfold smallB at hs
  simp only at hs
  split at hs
  · rename_i hb
    have hle := Nat.eq_of_beq_eq_true hb
    have : Xm S sg β Z j = Xm S sg β Z m := by simp only [Xm,hle]
    rw [this]; exact h
  · rw [he] at hs
    split at hs
    · rename_i v ar c hc
      cases hc2 : Hs S sg k with
      | mem v' ar' c' =>
        rw [hc2] at hc h; cases hc
        have hr := Nat.le_of_ble_eq_true hs
        obtain ⟨c',el,fr,h1,h2,h3,h4⟩ := h
        refine ⟨c',el,fr,h1,h2,h3,fun i d hd => ?_⟩
        obtain ⟨v,v1,v3,v2⟩ := h4 i d hd
        refine ⟨v,v1,v3,v2.cutV (x := Xm S sg β Z m) (x' := Xm S sg β Z j) (N := (S j).bs.length) (fun _ hb => hb) (fun _ => rfl) (fun k' p hk' hp => ?_) (Nat.le_trans (ref_le_refs (List.mem_of_getElem? hd)) hr)⟩
        simp only [Xm] at hp ⊢
        rw [if_pos hk']
        split at hp
        · exact hp
        · cases hp
      | _ => rw [hc2] at hc; cases hc
    · cases hs
end
section
variable {pv : Pv} {P : Program} (ok : pv.Ok P) {cf : CallF} (hcf : CfOk P pv cf) {ops : Array Oper} {F : Nat -> Fr} {S : Nat -> St} {dd : Nat -> D} (ht : Trace pv cf ops ops.toList F S dd) {dy : List (Nat × Nat)} (hreg : okReg pv ops dy = true) (hst : Still dy ops F S)
include ok hcf ht hreg hst
theorem DI.step {Q : Exit -> Act -> World -> Prop} {a0 a : Act} {w0 w : World} {β0 β : Nat -> Option (Nat × Nat)} {Z0 Z : Nat -> Prop} {E : Nat -> Bool} {sg : Nat -> Nat} (h : DI pv ops F S dd a0 w0 β0 Z0 E a w β Z sg) (h0 : Sim w0 (S 0) β0 Z0)
    {j : Nat} {o : Oper} (ho : ops[j]? = some o) (hj : E j = false) (hrd : ∀ e ∈ o.after.toList,Region.binds .any e = true -> E e.on = true) (hdst : dstOk ops.toList a0.tmps.size)
    {K : Act -> World -> Prop} (hK : ∀ a' w' β' Z' sg',DI pv ops F S dd a0 w0 β0 Z0 (addE E j) a' w' β' Z' sg' -> K a' w') : wpOp P ops Q j K a w := by
  have hjn : j < ops.size := by
    rcases Nat.lt_or_ge j ops.size with h' | h'
    · exact h'
    · rw [Array.getElem?_eq_none h'] at ho; cases ho
  have hcl : Closed ops (addE E j) := by
    intro k o' hk ho' e he hb
    rcases (addE_iff E j k).1 hk with hk | rfl
    · exact (addE_iff E j _).2 (.inl (h.clo k o' hk ho' e he hb))
    · rw [ho] at ho'; cases ho'
      exact (addE_iff E _ _).2 (.inl (hrd e he hb))
  have C1 : ∀ i x,i < j -> ops[i]? = some x -> conf pv ops (listed dy i j) x o = true -> E i = true := by
    intro i x hi hx hc
    rcases (addE_iff E j i).1 (okReg_anc hreg hi hx ho hc hcl ((addE_iff E j j).2 (.inr rfl))) with h' | h'
    · exact h'
    · omega
  have C2 : ∀ i x,j < i -> ops[i]? = some x -> conf pv ops (listed dy j i) o x = true -> E i = false := by
    intro i x hi hx hc
    cases hE : E i with
    | false => rfl
    | true => have := okReg_anc hreg hi ho hx hc h.clo hE; rw [hj] at this; cases this
  have hlate : ∀ i o' t,j < i -> ops[i]? = some o' -> o.dst = some t -> o'.dst = some t -> E i = false := by
    intro i o' t hi ho' h1 h2
    refine C2 i o' hi ho' ?_
    simp [conf,sameDst,h1,h2]
  have hdj : ∀ t,o.dst = some t -> t < a.tmps.size := fun t hd => by
    rw [h.size]; exact hdst o (by rw [<- Array.getElem?_toList] at ho; exact List.mem_of_getElem? ho) t hd
  have hlw : ∀ t ∈ looks ops o,lastW ops E t ops.size = lastW ops (fun _ => true) t j := by
    intro t htl
    refine lastW_eq fun i o' h1 h2 => ⟨fun ⟨_,hE⟩ => ⟨?_,rfl⟩,fun ⟨hi,_⟩ => ⟨by omega,C1 i o' hi h1 (by simp [conf,dstHit,h2,htl])⟩⟩
    rcases Nat.lt_trichotomy i j with h' | h' | h'
    · exact h'
    · subst h'; rw [hj] at hE; cases hE
    · have := C2 i o' h' h1 (by simp [conf,dstHit,h2,htl]); rw [this] at hE; cases hE
  have hN0 := (tr_mono hcf ht j 0 (by omega) (by omega))
  have hNj := (tr_goes hcf ht j hjn).1
  have toT : ∀ (T : St) (m : Nat),m <= j -> T.bs.length = (S j).bs.length -> (∀ k p,k < (S j).bs.length -> β k = some p -> T.ver k = boxVer (Hs S sg k)) ->
      Keeps w (Xm S sg β Z m) w (T.x (fun k => if k < (S j).bs.length then β k else none) Z) := by
    intro T m hm hT hv
    refine (Xm_mono hcf ht hm (by omega)).trans ⟨fun k p hp => ⟨p,hp⟩,fun b hb => ⟨hb,rfl⟩,fun k c p hp hc => ⟨c,?_,Nat.le_refl _⟩,fun k c _ _ b base hb => ⟨hb,rfl⟩⟩
    simp only [Xm] at hp ⊢
    split at hp
    · rename_i hk; rw [<- hv k p hk hp]; exact hc
    · cases hp
  have hG : ∀ (T : St),T.bs.length = (S j).bs.length -> (∀ k p,k < (S j).bs.length -> β k = some p -> T.ver k = boxVer (Hs S sg k)) ->
      FrR w (T.x (fun k => if k < (S j).bs.length then β k else none) Z) (cutF (F j) (looks ops o)) a.tmps := by
    intro T hT hv t
    rw [cutF_get]
    split
    · rename_i htl
      have hf := h.frame t
      have htg := (trace_get ht t j (by omega)).1
      have hl := hlw t htl
      simp only [val,stg,hl] at hf
      rw [htg]
      have s := lastW_spec ops (fun _ => true) t j
      cases hq : lastW ops (fun _ => true) t j with
      | none => rw [hq] at hf; exact hf.mono (toT T 0 (by omega) hT hv)
      | some i => rw [hq] at hf s; exact hf.mono (toT T (i + 1) s.1 hT hv)
    · exact .junk _ _ _
  have hGw : wantD ops (F j) o = wantD ops (cutF (F j) (looks ops o)) o := wantD_congr fun t htl => by rw [cutF_get,if_pos htl]
  have hGo : ∀ st,operD pv cf (F j) st o = operD pv cf (cutF (F j) (looks ops o)) st o := fun st => operD_congr fun t htl => by rw [cutF_get,if_pos htl]
  have mkSim : ∀ (T : St),T.bs.length = (S j).bs.length -> T.flr = (S j).flr -> T.ro = (S j).ro -> (∀ k p,k < (S j).bs.length -> β k = some p -> T.ver k = boxVer (Hs S sg k)) ->
      (∀ k b base bx,k < (S j).bs.length -> β k = some (b,base) -> T.bs[k]? = some bx -> BoxOk w (T.x (fun k => if k < (S j).bs.length then β k else none) Z) b base bx) ->
      Sim w T (fun k => if k < (S j).bs.length then β k else none) Z := by
    intro T hT hfl hr hv hb
    have cut : ∀ k p,(if k < (S j).bs.length then β k else none) = some p -> k < (S j).bs.length /\ β k = some p := by
      intro k p hp
      split at hp
      · exact ⟨by assumption,hp⟩
      · cases hp
    refine ⟨fun k b base hk => by rw [hT]; exact (cut k _ hk).1,fun k b base hk => h.lt k b base (cut k _ hk).2,fun k k' b x x' h1 h2 => h.inj k k' b x x' (cut k _ h1).2 (cut k' _ h2).2,fun k b base hk => h.zd k b base (cut k _ hk).2,h.zl,
      fun k b base bx hk hbx => hb k b base bx (cut k _ hk).1 (cut k _ hk).2 hbx,?_,?_⟩
    · rw [hfl,hT,hN0.flr]; exact Nat.le_trans h0.flr hN0.len
    · rw [hr,hT,hN0.ro]; exact Nat.le_trans h0.ro hN0.len
  have hTv : ∀ k p,k < (S j).bs.length -> β k = some p -> (holT (S j) β (Hs S sg)).ver k = boxVer (Hs S sg k) := by
    intro k p hk hp
    simp only [St.ver,holT_get hk,Option.bind_some,hp]
    exact (hol_ok (x' := Xm S sg β Z 0) (h.box k p.1 p.2 hp) p).2
  have hTs := mkSim (holT (S j) β (Hs S sg)) (holT_len _ _ _) rfl rfl hTv fun k b base bx hk hp hbx => by
    rw [holT_get hk] at hbx; cases hbx
    rw [hp]; exact (hol_ok (h.box k b base hp) _).1
  have hollow : ∀ (T T' : St) (w' : World) (βl : Nat -> Option (Nat × Nat)) (Zl : Nat -> Prop) (v : Value),T.bs.length = (S j).bs.length -> T.ro = (S j).ro -> (∀ k p,k < (S j).bs.length -> β k = some p -> T.ver k = boxVer (Hs S sg k)) -> ¬ effI pv ops F j ->
      ((S (j + 1) = S j /\ T' = T) \/ ∃ ar cs,S (j + 1) = (S j).push (.mem 0 ar cs) /\ T' = T.push (.mem 0 ar cs)) ->
      Nx w T (fun k => if k < (S j).bs.length then β k else none) Z w' T' βl Zl -> VR w' (T'.x βl Zl) (dd j) v -> Quiet w w' -> K (a.put o.dst v) w' := by
    intro T T' w' βl Zl v hTlen hTro hTv hne hST hn hv hq
    obtain ⟨m,hm1,hm2,hm3⟩ := maxEff (fun i => E i = true /\ effI pv ops F i) (j + 1) ops.size
    have hmn : m <= ops.size := by rcases hm3 with rfl | ⟨i,q1,_,rfl⟩ <;> omega
    have hl' : T'.bs.length = (S (j + 1)).bs.length := by
      rcases hST with ⟨e1,e2⟩ | ⟨ar,cs,e1,e2⟩
      · rw [e1,e2,hTlen]
      · rw [e1,e2]; simp [St.push,hTlen]
    have lk : ∀ k p,βl k = some p -> k < (S (j + 1)).bs.length := fun k p hp => by rw [<- hl']; exact hn.sim.dom k p.1 p.2 hp
    have oldk : ∀ k p,k < (S j).bs.length -> βl k = some p -> ∃ q,β k = some q := by
      intro k p hk hp
      cases hβ : β k with
      | some q => exact ⟨q,rfl⟩
      | none =>
        have := (hn.old k (by rw [hTlen]; exact hk) (by simp only [if_pos hk]; exact hβ)).1
        rw [hp] at this; cases this
    have newk : ∀ k p,βl k = some p -> (S j).bs.length <= k -> T'.bs[k]? = some (Hs S (sgNew pv ops F S j m sg) k) := by
      intro k p hp hk
      have hk1 := lk k p hp
      have hβ : β k = none := by
        cases hb : β k with
        | none => rfl
        | some q => have := h.cr k q hb j hjn hk hk1; rw [hj] at this; cases this
      have hsg : sgNew pv ops F S j m sg k = m := by simp only [sgNew]; rw [if_pos ⟨hk1, .inr hk⟩]
      have hst := tr_still hcf ht m hm1 hmn k hk1 fun q hq1 hq2 => by
        by_cases he : effI pv ops F q
        · right
          refine h.ph k hβ q ?_ he (Nat.lt_of_lt_of_le hk1 (tr_mono hcf ht q (j + 1) hq1 (by omega)).len)
          rcases hm3 with rfl | ⟨i,q1,⟨q2,q3⟩,rfl⟩
          · omega
          · rcases Nat.lt_or_ge q i with h' | h'
            · obtain ⟨o1,p1,p2,_⟩ := he
              obtain ⟨o2,r1,r2,_⟩ := q3
              obtain ⟨hpa,hrd2⟩ := eff_no r2
              exact okReg_anc hreg h' p1 r1 (by simp [conf,p2,hpa,hrd2]) h.clo q2
            · have : q = i := by omega
              rw [this]; exact q2
        · exact .inl he
      rcases hST with ⟨e1,e2⟩ | ⟨ar,cs,e1,e2⟩
      · rw [e1] at hk1; omega
      · have hkk : k = (S j).bs.length := by rw [e1] at hk1; simp [St.push] at hk1; omega
        have g1 : (S (j + 1)).bs[k]? = some (.mem 0 ar cs) := by rw [e1,hkk]; simp [St.push]
        have g2 : T'.bs[k]? = some (.mem 0 ar cs) := by rw [e2,hkk]; simp [St.push,hTlen]
        simp only [Hs,hsg]
        rw [g2,hst,g1]; rfl
    refine hK _ _ _ _ _ (h.put hcf ht hj ho (addE_iff E j) hrd hlate hdj h0.ro hn hTlen hl' hTro hv hTv hm1 hmn (fun i h1 h2 => hm2 i (h.bnd i h1) ⟨h1,h2⟩) ?_ ?_ ?_ (fun _ => hq) fun he => absurd he hne)
    · rcases hm3 with h' | ⟨i,_,⟨q2,q3⟩,q4⟩
      · exact .inl h'
      · exact .inr ⟨i,q2,q3,q4⟩
    · intro k p hp
      by_cases hk : k < (S j).bs.length
      · obtain ⟨q,hq'⟩ := oldk k p hk hp
        have hsg : sgNew pv ops F S j m sg k = sg k := by
          simp only [sgNew]; rw [if_neg]; rintro ⟨_,h' | h'⟩
          · exact hne h'
          · omega
        simp only [Hs,hsg]
        have := hTv k q hk hq'
        simp only [Hs] at this
        rw [<- this]
        have hg : T'.bs[k]? = T.bs[k]? := by
          rcases hST with ⟨_,e2⟩ | ⟨ar,cs,_,e2⟩
          · rw [e2]
          · rw [e2]; simp only [St.push]; rw [List.getElem?_append_left (by rw [hTlen]; exact hk)]
        simp only [St.ver,hg]
      · have := newk k p hp (by omega)
        simp only [St.ver,this,Option.bind_some]
    · intro k b base hp hc
      rcases hc with hc | hc
      · exact absurd hc hne
      · exact hn.sim.box k b base _ hp (newk k _ hp hc)
  unfold wpOp
  simp only [ho]
  rcases ht.step j o (by simpa using ho) with ⟨hw,hop⟩ | ⟨hw,hd,hs⟩
  · rw [hGw] at hw
    rw [want_ok (hG _ (holT_len _ _ _) hTv) hw]
    simp only [if_true]
    left
    rw [hGo] at hop
    cases hpa : paB o with
    | true =>
      have he := pa_eff (pv := pv) hpa
      have hne : ¬ effI pv ops F j := by
        rintro ⟨o',h1,h2,_⟩
        rw [ho] at h1; cases h1; rw [he] at h2; cases h2
      rw [pa_operD hpa] at hop
      obtain ⟨T',hT',hST⟩ := opD_pa hpa hop (holT (S j) β (Hs S sg)) (holT_len _ _ _)
      rw [<- pa_operD (cf := cf) hpa] at hT'
      exact oper_ok ok hcf hTs (hG _ (holT_len _ _ _) hTv) hT' fun v w' β' Z' hn hv hq => hollow (holT (S j) β (Hs S sg)) T' w' β' Z' v (holT_len _ _ _) rfl hTv hne hST hn hv (hq he)
    | false =>
      cases hrd' : rdB o with
      | true =>
        have hne : ¬ effI pv ops F j := by
          rintro ⟨o',h1,h2,_⟩
          rw [ho] at h1; cases h1; rw [(eff_no h2).2] at hrd'; cases hrd'
        obtain ⟨ad,had⟩ : ∃ ad,rdOp? o.op = some ad := by
          unfold rdB at hrd'
          cases hq : rdOp? o.op with
          | none => rw [hq] at hrd'; cases hrd'
          | some x => exact ⟨x,rfl⟩
        have hjw : wantD ops (F j) o = some true := by rw [hGw]; exact hw
        have hada : (cutF (F j) (looks ops o)).ev ad = (F j).ev ad := by
          refine (ev_congr (ts := looks ops o) (fun t htl => by rw [cutF_get,if_pos htl]) fun t e => ?_)
          subst e
          refine List.mem_append_right _ (mem_tmpsOf ?_)
          cases hop2 : o.op <;> rw [hop2] at had <;> simp only [rdOp?,Option.some.injEq,reduceCtorEq] at had <;> subst had <;> simp [Op.operands]
        have place : ∀ k,((F j).ev ad).box? = some k -> ∃ p,β k = some p /\ k < (S j).bs.length := by
          intro k hk
          have hv := ev_ok (hG _ (holT_len _ _ _) hTv) ad
          rw [hada] at hv
          have cut : (∃ p,(if k < (S j).bs.length then β k else none) = some p) -> ∃ p,β k = some p /\ k < (S j).bs.length := by
            rintro ⟨p,hp⟩
            split at hp
            · exact ⟨p,hp,by assumption⟩
            · cases hp
          cases hd : (F j).ev ad with
          | ptr k' v off =>
            rw [hd] at hk hv
            simp only [D.box?,Option.some.injEq] at hk; subst hk
            obtain ⟨_,_,hp,_⟩ := vr_pointer hv
            exact cut hp
          | win k' v off len sz =>
            rw [hd] at hk hv
            simp only [D.box?,Option.some.injEq] at hk; subst hk
            obtain ⟨_,_,_,_,hp,_⟩ := vr_win hv
            exact cut hp
          | _ => rw [hd] at hk; simp [D.box?] at hk
        have same : ∀ k,((F j).ev ad).box? = some k -> (S j).bs[k]? = some (Hs S sg k) /\ (sg k <= j \/ smallB (some k) (S j) (S (sg k)) = true) := by
          intro k hk
          obtain ⟨p,hp,hkj⟩ := place k hk
          obtain ⟨d1,d2,d3⟩ := h.dom k p hp
          have fin : (S j).bs[k]? = (S (sg k)).bs[k]? := by
            rcases Nat.le_total (sg k) j with hle | hle
            · refine tr_still hcf ht j hle (by omega) k d1 fun q hq1 hq2 => ?_
              by_cases he : effI pv ops F q
              · right
                have hkq : k < (S q).bs.length := Nat.lt_of_lt_of_le d1 (tr_mono hcf ht q (sg k) hq1 (by omega)).len
                have hEq : E q = false := by
                  cases hE : E q with
                  | false => rfl
                  | true => have := h.sg2 k p hp q hE he hkq; omega
                obtain ⟨x,x1,x2,x3⟩ := he
                have hl : listed dy q j = true := by
                  cases hl : listed dy q j with
                  | true => rfl
                  | false => have := C1 q x hq2 x1 (by simp [conf,x2,hpa,hl]); rw [hEq] at this; cases this
                exact (hst j q o ad k x ho had hjw hk x1 (eff_no x2).2 x3 (fun _ => hl) (fun h' => by omega)).1
              · exact .inl he
            · rcases Nat.eq_or_lt_of_le hle with heq | hlt
              · rw [heq]
              rcases d3 with d3 | ⟨j',q1,q2,q3⟩
              · omega
              have hj' : effI pv ops F j' := by
                rcases q3 with q3 | q3
                · exact q3
                · have := (tr_mono hcf ht j' j (by omega) (by have := h.bnd j' q1; omega)).len
                  omega
              symm
              refine tr_still hcf ht (sg k) hle d2 k hkj fun q hq1 hq2 => ?_
              by_cases he : effI pv ops F q
              · right
                have hqj : j < q := by
                  rcases Nat.eq_or_lt_of_le hq1 with h' | h'
                  · subst h'; exact absurd he hne
                  · exact h'
                have hEq : E q = true := by
                  rcases Nat.lt_or_ge q j' with h' | h'
                  · obtain ⟨x,x1,x2,_⟩ := he
                    obtain ⟨y,y1,y2,_⟩ := hj'
                    obtain ⟨n1,n2⟩ := eff_no y2
                    exact okReg_anc hreg h' x1 y1 (by simp [conf,x2,n1,n2]) h.clo q1
                  · have : q = j' := by omega
                    rw [this]; exact q1
                obtain ⟨x,x1,x2,x3⟩ := he
                have hl : listed dy j q = true := by
                  cases hl : listed dy j q with
                  | true => rfl
                  | false => have := C2 q x hqj x1 (by simp [conf,x2,hpa,hl]); rw [hEq] at this; cases this
                exact (hst j q o ad k x ho had hjw hk x1 (eff_no x2).2 x3 (fun h' => by omega) (fun _ => hl)).1
              · exact .inl he
          refine ⟨?_,?_⟩
          · rw [fin,List.getElem?_eq_getElem d1]
            simp only [Hs]
            rw [List.getElem?_eq_getElem d1]; rfl
          · rcases Nat.lt_or_ge j (sg k) with hlt | hge
            · right
              rcases d3 with d3 | ⟨j',q1,q2,q3⟩
              · omega
              have hj' : effI pv ops F j' := by
                rcases q3 with q3 | q3
                · exact q3
                · have := (tr_mono hcf ht j' j (by omega) (by have := h.bnd j' q1; omega)).len
                  omega
              have hjj : j < j' := by
                rcases Nat.lt_or_ge j j' with h' | h'
                · exact h'
                · have : j = j' := by omega
                  subst this; exact absurd hj' hne
              obtain ⟨x,x1,x2,x3⟩ := hj'
              have hl : listed dy j j' = true := by
                cases hl : listed dy j j' with
                | true => rfl
                | false => have := C2 j' x hjj x1 (by simp [conf,x2,hpa,hl]); rw [q1] at this; cases this
              have := (hst j j' o ad k x ho had hjw hk x1 (eff_no x2).2 x3 (fun h' => by omega) (fun _ => hl)).2 hjj
              rw [q2]; exact this
            · exact .inl hge
        let T : St := ⟨(List.range (S j).bs.length).map fun k => if ((F j).ev ad).box? = some k then Hs S sg k else hol (β k) (Hs S sg k),(S j).flr,(S j).ro⟩
        have Tl : T.bs.length = (S j).bs.length := by simp [T]
        have Tg : ∀ k,k < (S j).bs.length -> T.bs[k]? = some (if ((F j).ev ad).box? = some k then Hs S sg k else hol (β k) (Hs S sg k)) := by
          intro k hk; simp [T,hk]
        have Tv : ∀ k p,k < (S j).bs.length -> β k = some p -> T.ver k = boxVer (Hs S sg k) := by
          intro k p hk hp
          simp only [St.ver,Tg k hk,Option.bind_some]
          split
          · rfl
          · rw [hp]; exact (hol_ok (x' := Xm S sg β Z 0) (h.box k p.1 p.2 hp) p).2
        have Ts := mkSim T Tl rfl rfl Tv fun k b base bx hk hp hbx => by
          rw [Tg k hk] at hbx; cases hbx
          split
          · rename_i hbk
            obtain ⟨e1,e2⟩ := same k hbk
            have hbx := h.box k b base hp
            rcases Nat.lt_or_ge j (sg k) with hlt | hge
            · refine BoxOk.keep ?_ (toT T j (Nat.le_refl _) Tl Tv) rfl
              exact cut_box hcf ht (by omega) (h.dom k _ hp).2.1 hbx e1 (e2.resolve_left (by omega))
            · exact hbx.keep (toT T (sg k) hge Tl Tv) rfl
          · rw [hp]; exact (hol_ok (h.box k b base hp) _).1
        rw [rd_operD hrd'] at hop
        obtain ⟨hSS,hTT⟩ := opD_rd had hop
        have hT' := hTT T fun k hk => by
          rw [hada] at hk
          obtain ⟨p,hp,hkj⟩ := place k hk
          rw [Tg k hkj,if_pos hk,(same k hk).1]
        rw [<- rd_operD (cf := cf) hrd'] at hT'
        exact oper_ok ok hcf Ts (hG _ Tl Tv) hT' fun v w' β' Z' hn hv hq => hollow T T w' β' Z' v Tl rfl Tv hne (.inl ⟨hSS,rfl⟩) hn hv (hq (by
          cases he : effB pv o with
          | false => rfl
          | true => rw [(eff_no he).2] at hrd'; cases hrd'))
      | false =>
        have sb : ∀ k p,β k = some p -> k < (S j).bs.length -> sg k <= j /\ Hs S sg k = ((S j).bs[k]?).getD .dead /\ (S j).bs[k]? = some (Hs S sg k) := by
          intro k p hk hkj
          refine seen_box hcf ht h (by omega) (fun i hi he => ?_) (fun i hi he => ?_) hk hkj
          · obtain ⟨x,h1,h2,_⟩ := he
            exact C1 i x hi h1 (by simp [conf,h2,hpa,hrd'])
          · rcases Nat.lt_or_ge j i with h' | h'
            · obtain ⟨x,h1,h2,_⟩ := he
              exact C2 i x h' h1 (by simp [conf,h2,hpa,hrd'])
            · have : i = j := by omega
              rw [this]; exact hj
        have hSv : ∀ k p,k < (S j).bs.length -> β k = some p -> (S j).ver k = boxVer (Hs S sg k) := fun k p hk hp => by simp only [St.ver,(sb k p hp hk).2.2,Option.bind_some]
        have hSs := mkSim (S j) rfl rfl rfl hSv fun k b base bx hk hp hbx => by
          obtain ⟨s1,_,s3⟩ := sb k _ hp hk
          rw [s3] at hbx; cases hbx
          exact (h.box k b base hp).keep (toT (S j) (sg k) s1 rfl hSv) rfl
        refine oper_ok ok hcf hSs (hG _ rfl hSv) hop fun v w' β' Z' hn hv hq => ?_
        have lk : ∀ k p,β' k = some p -> k < (S (j + 1)).bs.length := fun k p hp => hn.sim.dom k p.1 p.2 hp
        have oldk : ∀ k p,k < (S j).bs.length -> β' k = some p -> ∃ q,β k = some q := by
          intro k p hk hp
          cases hβ : β k with
          | some q => exact ⟨q,rfl⟩
          | none =>
            have := (hn.old k hk (by simp only [if_pos hk]; exact hβ)).1
            rw [hp] at this; cases this
        have same : ∀ k p,β' k = some p -> (S (j + 1)).bs[k]? = some (Hs S (sgNew pv ops F S j (j + 1) sg) k) := by
          intro k p hp
          have hk1 := lk k p hp
          by_cases hc : effI pv ops F j \/ (S j).bs.length <= k
          · have hsg : sgNew pv ops F S j (j + 1) sg k = j + 1 := by simp only [sgNew]; rw [if_pos ⟨hk1,hc⟩]
            simp only [Hs,hsg]
            rw [List.getElem?_eq_getElem hk1]; rfl
          · have hsg : sgNew pv ops F S j (j + 1) sg k = sg k := by simp only [sgNew]; rw [if_neg fun h' => hc h'.2]
            have hk : k < (S j).bs.length := by
              rcases Nat.lt_or_ge k (S j).bs.length with h' | h'
              · exact h'
              · exact absurd (.inr h') hc
            obtain ⟨q,hq'⟩ := oldk k p hk hp
            have := (tr_goes hcf ht j hjn).2 (fun h' => hc (.inl h')) k hk
            rw [this,(sb k q hq' hk).2.2]
            simp only [Hs,hsg]
        refine hK _ _ _ _ _ (h.put hcf ht hj ho (addE_iff E j) hrd hlate hdj h0.ro hn rfl rfl rfl hv hSv (Nat.le_refl _) (by omega) (fun i h1 h2 => ?_) (.inl rfl) (fun k p hp => by simp only [St.ver,same k p hp,Option.bind_some]) (fun k b base hp _ => hn.sim.box k b base _ hp (same k _ hp)) (fun hne => hq ?_) fun _ => ⟨rfl,rfl⟩)
        · rcases Nat.lt_or_ge j i with h' | h'
          · obtain ⟨x,p1,p2,_⟩ := h2
            have := C2 i x h' p1 (by simp [conf,p2,hpa,hrd']); rw [this] at h1; cases h1
          · omega
        · cases he : effB pv o with
          | false => rfl
          | true => exact absurd ⟨o,ho,he,by rw [hGw]; exact hw⟩ hne
  · have hw' := hw
    rw [hGw] at hw
    rw [want_ok (hG _ (holT_len _ _ _) hTv) hw]
    simp only [Bool.false_eq_true,if_false]
    have hne : ¬ effI pv ops F j := by
      rintro ⟨o',h1,_,h3⟩
      rw [ho] at h1; cases h1; rw [hw'] at h3; cases h3
    exact hollow (holT (S j) β (Hs S sg)) _ w _ Z undef (holT_len _ _ _) rfl hTv hne (.inl ⟨hs,rfl⟩) (Nx.same hTs) (by rw [hd]; exact .im _ _ (.tup [] [] rfl (by simp))) (Quiet.refl _)
end
end Go.V
namespace Go.V
open Go.RowKit
theorem count_set : ∀ (l : List Bool) (i : Nat),l[i]? = some false -> (l.set i true).count false + 1 = l.count false
  | [],i,h => by simp at h
  | b :: l,0,h => by simp at h; subst h; simp
  | b :: l,i + 1,h => by
    have := count_set l i (by simpa using h)
    simp only [List.set_cons_succ,List.count_cons]
    omega
theorem count_zero {l : List Bool} (h : l.count false = 0) (i : Nat) (hi : i < l.length) : l[i]? = some true := by
  rw [List.count_eq_zero] at h
  rw [List.getElem?_eq_getElem hi]
  cases hb : l[i] with
  | true => rfl
  | false => exact absurd (hb ▸ List.getElem_mem hi) h
section
variable {pv : Pv} {P : Program} (ok : pv.Ok P) {cf : CallF} (hcf : CfOk P pv cf) {ops : Array Oper} {F : Nat -> Fr} {S : Nat -> St} {dd : Nat -> D} (ht : Trace pv cf ops ops.toList F S dd) {dy : List (Nat × Nat)} (hreg : okReg pv ops dy = true) (hst : Still dy ops F S)
include hcf ht
theorem DI.start {a : Act} {w : World} {β : Nat -> Option (Nat × Nat)} {Z : Nat -> Prop} (h : Sim w (S 0) β Z) (hf : FrR w ((S 0).x β Z) (F 0) a.tmps) {E : Nat -> Bool} (hE : ∀ k,E k = false) : DI pv ops F S dd a w β Z E a w β Z (fun _ => 0) := by
  have ne : ∀ {k : Nat},E k = true -> False := fun hk => by rw [hE] at hk; cases hk
  have kp : ∀ m,m <= ops.size -> Keeps w ((S 0).x β Z) w (Xm S (fun _ => 0) β Z m) := by
    intro m hm
    have hl := (tr_mono hcf ht m 0 (by omega) hm).len
    have key : ∀ k p,β k = some p -> (Xm S (fun _ => 0) β Z m).β k = some p := by
      intro k p hp
      have := h.dom k p.1 p.2 hp
      simp only [Xm]; rw [if_pos (by omega)]; exact hp
    refine ⟨fun k p hp => ⟨p,key k p hp⟩,fun b hb => ⟨hb,rfl⟩,fun k c p hp hc => ⟨c,?_,Nat.le_refl _⟩,fun k c _ _ b base hb => ⟨key k _ hb,rfl⟩⟩
    simp only [Xm,Hs] at hc
    simp only [St.x,St.ver]
    cases hk : (S 0).bs[k]? with
    | none => rw [hk] at hc; cases hc
    | some bx => rw [hk] at hc; exact hc
  have lw : ∀ t,lastW ops E t ops.size = none := by
    intro t
    have s := lastW_spec ops E t ops.size
    cases hl : lastW ops E t ops.size with
    | none => rfl
    | some j => rw [hl] at s; exact (ne s.2.1).elim
  refine ⟨rfl,rfl,fun k o hk => (ne hk).elim,fun k hk => (ne hk).elim,fun k p hp => ⟨h.dom k p.1 p.2 hp,Nat.zero_le _, .inl rfl⟩,fun k p hp i hi h1 h2 => ?_,fun k p _ j hj => (ne hj).elim,fun k _ j hj => (ne hj).elim,h.lt,h.inj,h.zd,h.zl,fun k b base hb => ?_,fun t => ?_,Evo.refl _ _,kp _ (Nat.le_refl _),
    fun k b base hb => .inl ⟨base,hb⟩,fun b hb => .inl hb,fun _ _ => rfl,fun _ _ h => h⟩
  · have h3 := h.dom k p.1 p.2 hp
    have := (tr_mono hcf ht i 0 (by omega) (by omega)).len
    omega
  · have hk := h.dom k b base hb
    refine (h.box k b base _ hb ?_).keep (kp 0 (Nat.zero_le _)) rfl
    simp only [Hs]
    rw [List.getElem?_eq_getElem hk]; rfl
  · simp only [stg,val,lw t]
    exact (hf t).mono (kp 0 (Nat.zero_le _))
theorem DI.finish {a0 a : Act} {w0 w : World} {β0 β : Nat -> Option (Nat × Nat)} {Z0 Z : Nat -> Prop} {E : Nat -> Bool} {sg : Nat -> Nat} (h : DI pv ops F S dd a0 w0 β0 Z0 E a w β Z sg) (h0 : Sim w0 (S 0) β0 Z0) (hE : ∀ k,k < ops.size -> E k = true) :
    Nx w0 (S 0) β0 Z0 w (S ops.size) β Z /\ FrR w ((S ops.size).x β Z) (F ops.size) a.tmps := by
  have hg := tr_mono hcf ht ops.size 0 (Nat.zero_le _) (Nat.le_refl _)
  have effn : ∀ j,effI pv ops F j -> j < ops.size := by
    rintro j ⟨o,ho,_⟩
    rcases Nat.lt_or_ge j ops.size with h' | h'
    · exact h'
    · rw [Array.getElem?_eq_none h'] at ho; cases ho
  have hdm : ∀ k p,β k = some p -> k < (S ops.size).bs.length := by
    intro k p hp
    obtain ⟨h1,h2,_⟩ := h.dom k p hp
    exact Nat.lt_of_lt_of_le h1 (tr_mono hcf ht ops.size (sg k) h2 (Nat.le_refl _)).len
  have sb : ∀ k p,β k = some p -> sg k <= ops.size /\ Hs S sg k = ((S ops.size).bs[k]?).getD .dead /\ (S ops.size).bs[k]? = some (Hs S sg k) := fun k p hk =>
    seen_box hcf ht h (Nat.le_refl _) (fun j hj _ => hE j hj) (fun j hj he => by have := effn j he; omega) hk (hdm k p hk)
  have kx : ∀ m,m <= ops.size -> Keeps w (Xm S sg β Z m) w ((S ops.size).x β Z) := by
    intro m hm
    have key : ∀ k p,(Xm S sg β Z m).β k = some p -> β k = some p := by
      intro k p hp
      simp only [Xm] at hp
      split at hp
      · exact hp
      · cases hp
    refine ⟨fun k p hp => ⟨p,key k p hp⟩,fun b hb => ⟨hb,rfl⟩,fun k c p hp hc => ⟨c,?_,Nat.le_refl _⟩,fun k c _ _ b base hb => ⟨key k _ hb,rfl⟩⟩
    simp only [St.x,St.ver,(sb k p (key k p hp)).2.2,Option.bind_some] at hc
    exact hc
  refine ⟨⟨⟨fun k b base hb => hdm k _ hb,h.lt,h.inj,h.zd,h.zl,fun k b base bx hb hbx => ?_,?_,?_⟩,h.keeps.trans (kx _ (Nat.le_refl _)),h.evo,h.fresh,h.zfresh,hg.len,hg.flr,hg.ro,fun k hk => ⟨hg.low k hk (Nat.lt_of_lt_of_le hk h0.ro),h.low k hk⟩,fun k hk hk0 => ⟨h.old k hk hk0,?_⟩⟩,fun t => ?_⟩
  · obtain ⟨s1,_,s3⟩ := sb k _ hb
    rw [s3] at hbx; cases hbx
    exact (h.box k b base hb).keep (kx _ s1) rfl
  · rw [hg.flr]; exact Nat.le_trans h0.flr hg.len
  · rw [hg.ro]; exact Nat.le_trans h0.ro hg.len
  · refine tr_still hcf ht ops.size (Nat.zero_le _) (Nat.le_refl _) k hk fun q _ hq => ?_
    by_cases he : effI pv ops F q
    · exact .inr (h.ph k (h.old k hk hk0) q (hE q hq) he (Nat.lt_of_lt_of_le hk (tr_mono hcf ht q 0 (by omega) (by omega)).len))
    · exact .inl he
  · have hl : lastW ops E t ops.size = lastW ops (fun _ => true) t ops.size := lastW_eq fun i o h1 _ => ⟨fun ⟨hi,_⟩ => ⟨hi,rfl⟩,fun ⟨hi,_⟩ => ⟨hi,hE i hi⟩⟩
    have hf := h.frame t
    have htg := (trace_get ht t ops.size (Nat.le_refl _)).1
    have s := lastW_spec ops (fun _ => true) t ops.size
    simp only [val,stg,hl] at hf
    rw [htg]
    cases hq : lastW ops (fun _ => true) t ops.size with
    | none => rw [hq] at hf; exact hf.mono (kx 0 (Nat.zero_le _))
    | some i => rw [hq] at hf s; exact hf.mono (kx (i + 1) s.1)
include ok hreg hst
theorem DI.all {Q : Exit -> Act -> World -> Prop} {a0 : Act} {w0 : World} {β0 : Nat -> Option (Nat × Nat)} {Z0 : Nat -> Prop} (h0 : Sim w0 (S 0) β0 Z0) (hdst : dstOk ops.toList a0.tmps.size)
    (K : ∀ a' w' β' Z',Nx w0 (S 0) β0 Z0 w' (S ops.size) β' Z' -> FrR w' ((S ops.size).x β' Z') (F ops.size) a'.tmps -> a'.defers = a0.defers -> a'.tmps.size = a0.tmps.size -> Q .normal a' w') :
    ∀ (fuel : Nat) (listed : Array Bool) (a : Act) (w : World) (β : Nat -> Option (Nat × Nat)) (Z : Nat -> Prop) (sg : Nat -> Nat),listed.size = ops.size -> listed.toList.count false = fuel ->
      DI pv ops F S dd a0 w0 β0 Z0 (fun k => listed.getD k false) a w β Z sg -> wpAny P .any ops Q fuel listed a w := by
  have fin : ∀ (listed : Array Bool) (a : Act) (w : World) (β : Nat -> Option (Nat × Nat)) (Z : Nat -> Prop) (sg : Nat -> Nat),DI pv ops F S dd a0 w0 β0 Z0 (fun k => listed.getD k false) a w β Z sg -> (∀ k,k < ops.size -> listed.getD k false = true) -> Q .normal a w := by
    intro listed a w β Z sg h hall
    obtain ⟨h1,h2⟩ := h.finish hcf ht h0 hall
    exact K a w β Z h1 h2 h.defers h.size
  intro fuel
  induction fuel with
  | zero =>
    intro listed a w β Z sg hsz hc h
    have hall : ∀ k,k < ops.size -> listed.getD k false = true := by
      intro k hk
      have := count_zero hc k (by simpa [hsz] using hk)
      rw [Array.getElem?_toList] at this
      simp [Array.getD_eq_getD_getElem?,this]
    refine ⟨?_,fin listed a w β Z sg h hall⟩
    rw [List.eq_nil_iff_forall_not_mem]
    intro j hj
    rw [mem_ready] at hj
    obtain ⟨h1,o,ho,_⟩ := hj
    have hjn := (Array.getElem?_eq_some_iff.1 ho).1
    have := hall j hjn
    have hjl : j < listed.size := by omega
    simp only [Array.getD_eq_getD_getElem?,Array.getElem?_eq_getElem hjl,Option.getD_some] at h1 this
    rw [h1] at this; cases this
  | succ fuel ih =>
    intro listed a w β Z sg hsz hc h
    refine ⟨fun hnil => fin listed a w β Z sg h ?_,fun j hj => ?_⟩
    · intro k
      induction k using Nat.strongRecOn with
      | _ k ihk =>
        intro hk
        cases hb : listed.getD k false with
        | true => rfl
        | false =>
          have hkl : k < listed.size := by omega
          have : k ∈ Region.ready .any ops listed := by
            rw [mem_ready]
            refine ⟨by simp only [Array.getD_eq_getD_getElem?,Array.getElem?_eq_getElem hkl,Option.getD_some] at hb ⊢; exact hb,ops[k],Array.getElem?_eq_getElem hk,fun e he hbd => ?_⟩
            have hlt := okReg_edge hreg (Array.getElem?_eq_getElem hk) (by simpa using he) hbd
            exact ihk e.on hlt (by omega)
          rw [hnil] at this; cases this
    · rw [mem_ready] at hj
      obtain ⟨h1,o,ho,h2⟩ := hj
      have hjn := (Array.getElem?_eq_some_iff.1 ho).1
      have hjl : j < listed.size := by omega
      have hjf : listed[j]? = some false := by
        simp only [Array.getD_eq_getD_getElem?,Array.getElem?_eq_getElem hjl,Option.getD_some] at h1
        rw [Array.getElem?_eq_getElem hjl,h1]
      refine h.step ok hcf ht hreg hst h0 ho (by simp [Array.getD_eq_getD_getElem?,hjf]) (fun e he hb => h2 e (by simpa using he) hb) hdst fun a' w' β' Z' sg' h' => ?_
      refine ih _ a' w' β' Z' sg' (by simp [hsz]) ?_ ?_
      · have := count_set listed.toList j (by rw [Array.getElem?_toList]; exact hjf)
        rw [Array.toList_setIfInBounds]
        omega
      · have he : (fun k => (listed.setIfInBounds j true).getD k false) = addE (fun k => listed.getD k false) j := by
          funext k
          by_cases hkj : j = k
          · subst hkj
            simp [addE,hjl]
          · rw [getD_set_ne false hkj]
            have : Nat.beq k j = false := by
              cases hb : Nat.beq k j with
              | false => rfl
              | true => exact absurd (Nat.eq_of_beq_eq_true hb).symm hkj
            simp [addE,this]
        rw [he]; exact h'
end
theorem still_nil {ops : Array Oper} {F : Nat -> Fr} {S : Nat -> St} : Still [] ops F S := by
  intro r q y a k x hy ha hw hk hx hxr hwx h1 h2
  rcases Nat.lt_trichotomy q r with h' | h' | h'
  · have := h1 h'; simp [listed] at this
  · subst h'; rw [hx] at hy; cases hy
    unfold rdB at hxr; rw [ha] at hxr; cases hxr
  · have := h2 h'; simp [listed] at this
theorem reg_trace {pv : Pv} {cf : CallF} {ops : Array Oper} {dy : List (Nat × Nat)} {fr fr' : Fr} {st st' : St} (h : regD pv cf ops dy fr st = some (fr',st')) :
    ∃ (F : Nat -> Fr) (S : Nat -> St) (dd : Nat -> D),F 0 = fr /\ S 0 = st /\ F ops.size = fr' /\ S ops.size = st' /\ Trace pv cf ops ops.toList F S dd /\ Still dy ops F S := by
  unfold regD at h
  split at h
  · obtain ⟨F,S,dd,hF0,hS0,hFn,hSn,ht⟩ := trace ops.toList fr st fr' st' h
    rw [Array.length_toList] at hFn hSn
    exact ⟨F,S,dd,hF0,hS0,hFn,hSn,ht,still_nil⟩
  · obtain ⟨F,S,dd,hF0,hS0,hFn,hSn,ht,hl⟩ := traceY ops.toList 0 [] fr st fr' st' rfl h
    rw [Array.length_toList] at hFn hSn
    exact ⟨F,S,dd,hF0,hS0,hFn,hSn,ht,still_of hl⟩
theorem opsY_ops {pv : Pv} {cf : CallF} {ops : Array Oper} {dy : List (Nat × Nat)} : ∀ (l : List Oper) (j : Nat) (log : Log) (fr : Fr) (st : St) (r : Fr × St),opsY pv cf ops dy j log l fr st = some r -> opsD pv cf ops l fr st = some r
  | [],j,log,fr,st,r,h => by simpa only [opsY,opsD] using h
  | o :: l,j,log,fr,st,r,h => by
    simp only [opsY] at h
    simp only [opsD]
    cases hw : wantD ops fr o with
    | none => rw [hw] at h; cases h
    | some b =>
      rw [hw] at h
      cases b with
      | true =>
        simp only at h ⊢
        cases hop : operD pv cf fr st o with
        | none => rw [hop] at h; cases h
        | some q =>
          obtain ⟨d,st1⟩ := q
          rw [hop] at h
          simp only at h ⊢
          cases hc : chkY dy j log o fr st st1 with
          | true => rw [hc] at h; exact opsY_ops l _ _ _ _ _ h
          | false => rw [hc] at h; cases h
      | false => simp only at h ⊢; exact opsY_ops l _ _ _ _ _ h
theorem regD_ops {pv : Pv} {cf : CallF} {ops : Array Oper} {dy : List (Nat × Nat)} {fr : Fr} {st : St} {r : Fr × St} (h : regD pv cf ops dy fr st = some r) : opsD pv cf ops ops.toList fr st = some r := by
  unfold regD at h
  split at h
  · exact h
  · exact opsY_ops _ _ _ _ _ _ h
theorem draw_ok {pv : Pv} {P : Program} (ok : pv.Ok P) {cf : CallF} (hcf : CfOk P pv cf) {id : Nat} {ops : Array Oper} {dy : List (Nat × Nat)} (hreg : okReg pv ops dy = true) {fr fr' : Fr} {st st' : St} (hs : regD pv cf ops dy fr st = some (fr',st'))
    {w : World} {β : Nat -> Option (Nat × Nat)} {Z : Nat -> Prop} (h : Sim w st β Z) {a : Act} (hf : FrR w (st.x β Z) fr a.tmps) (hd : dstOk ops.toList a.tmps.size) {Q : Exit -> Act -> World -> Prop}
    (K : ∀ a' w' β' Z',Nx w st β Z w' st' β' Z' -> FrR w' (st'.x β' Z') fr' a'.tmps -> a'.defers = a.defers -> a'.tmps.size = a.tmps.size -> Q .normal a' w') : (Code.region id ops true).wp P Q a w := by
  obtain ⟨F,S,dd,hF0,hS0,hFn,hSn,ht,hst⟩ := reg_trace hs
  refine wp_region_any ok.mixed ?_
  have hn : Nx w st β Z { w with drawn := w.drawn + 1 } st β Z := Nx.still h rfl rfl rfl rfl
  have h0 : Sim { w with drawn := w.drawn + 1 } (S 0) β Z := by rw [hS0]; exact hn.sim
  have hf0 : FrR { w with drawn := w.drawn + 1 } ((S 0).x β Z) (F 0) a.tmps := by rw [hS0,hF0]; exact hf.mono hn.keeps
  refine DI.all ok hcf ht hreg hst h0 hd (fun a' w' β' Z' hn' hf' h1 h2 => ?_) ops.size _ a _ β Z (fun _ => 0) (by simp) (by simp) (DI.start hcf ht h0 hf0 fun k => ?_)
  · rw [hSn] at hn' hf'
    rw [hFn] at hf'
    rw [hS0] at hn'
    exact K a' w' β' Z' (hn.trans hn') hf' h1 h2
  · simp only [Array.getD_eq_getD_getElem?,Array.getElem?_replicate]
    split <;> rfl
end Go.V
namespace Go.V
open Go.RowKit
def Out.ex : Out -> Exit
  | .next => .normal
  | .exit id => .exit id
  | .ret => .ret
def codeOk (pv : Pv) (dyn : List (Nat × List (Nat × Nat))) (n : Nat) : Code -> Bool
  | .region id ops d => (ops.toList.all fun o => match o.dst with | some t => Nat.blt t n | none => true) && (!d || okReg pv ops (lookDy id dyn))
  | .seq a b => codeOk pv dyn n a && codeOk pv dyn n b
  | .cond _ a b => codeOk pv dyn n a && codeOk pv dyn n b
  | .block _ c => codeOk pv dyn n c
  | .loop c => codeOk pv dyn n c
  | _ => true
theorem dstOk_of {l : List Oper} {n : Nat} (h : (l.all fun o => match o.dst with | some t => Nat.blt t n | none => true) = true) : dstOk l n := by
  intro o ho t hd
  have := List.all_eq_true.1 h o ho
  rw [hd] at this
  simp only at this
  exact Nat.le_of_ble_eq_true this
theorem least (p : Nat -> Prop) : ∀ n,p n -> ∃ m,p m /\ ∀ k,p k -> m <= k := by
  intro n
  induction n using Nat.strongRecOn with
  | _ n ih =>
    intro hn
    by_cases h : ∃ k,k < n /\ p k
    · obtain ⟨k,hk,hp⟩ := h
      exact ih k hk hp
    · refine ⟨n,hn,fun k hk => ?_⟩
      rcases Nat.lt_or_ge k n with h' | h'
      · exact absurd ⟨k,h',hk⟩ h
      · exact h'
open Classical in
noncomputable def mu (p : Nat -> Prop) : Nat := if h : ∃ m,p m /\ ∀ k,p k -> m <= k then Classical.choose h else 0
theorem mu_spec {p : Nat -> Prop} {n : Nat} (h : p n) : p (mu p) /\ ∀ k,p k -> mu p <= k := by
  have he := least p n h
  unfold mu
  rw [dif_pos he]
  exact Classical.choose_spec he
theorem clean_ok {w : World} {x : X} {fr : Fr} {tmps : Array Value} (h : FrR w x fr tmps) : FrR w x fr.clean tmps := by
  intro t
  have := h t
  simp only [Fr.clean,Fr.get] at this ⊢
  cases hb : Nat.ble fr.n t with
  | false => rw [hb] at this; exact this
  | true => exact .junk _ _ _
section
variable {pv : Pv} {P : Program} (ok : pv.Ok P) {cf : CallF} (hcf : CfOk P pv cf)
include hcf
theorem opsD_goes {ops : Array Oper} : ∀ {l : List Oper} {fr fr' : Fr} {st st' : St},opsD pv cf ops l fr st = some (fr',st') -> Goes st st'
  | [],fr,fr',st,st',h => by simp only [opsD] at h; cases h; exact .refl _
  | o :: l,fr,fr',st,st',h => by
    simp only [opsD] at h
    split at h
    · split at h
      · rename_i hop; exact (operD_goes hcf hop).1.trans (opsD_goes h)
      · cases h
    · exact opsD_goes h
    · cases h
omit hcf in
theorem iter_goes {step : Fr -> St -> Option (Out × Fr × St)} (hs : ∀ fr st out fr' st',step fr st = some (out,fr',st') -> Goes st st') : ∀ (m : Nat) {fr fr' : Fr} {st st' : St} {out : Out},iter step m fr st = some (out,fr',st') -> Goes st st'
  | 0,_,_,_,_,_,h => by cases h
  | m + 1,fr,fr',st,st',out,h => by
    simp only [iter] at h
    split at h
    · rename_i h1; exact (hs _ _ _ _ _ h1).trans (iter_goes hs m h)
    · exact hs _ _ _ _ _ h
theorem code_goes (dyn : List (Nat × List (Nat × Nat))) (n : Nat) : ∀ (c : Code) {fr fr' : Fr} {st st' : St} {out : Out},codeD pv cf dyn n c fr st = some (out,fr',st') -> Goes st st' := by
  intro c
  induction c with
  | skip => intro fr fr' st st' out h; simp only [codeD] at h; cases h; exact .refl _
  | region id ops d =>
    intro fr fr' st st' out h
    simp only [codeD] at h
    split at h
    · rename_i hop; cases h; exact opsD_goes hcf (regD_ops hop)
    · cases h
  | seq a b iha ihb =>
    intro fr fr' st st' out h
    simp only [codeD] at h
    split at h
    · rename_i h1; exact (iha h1).trans (ihb h)
    · exact iha h
  | cond c a b iha ihb =>
    intro fr fr' st st' out h
    simp only [codeD] at h
    split at h
    · exact iha h
    · exact ihb h
    · cases h
  | block id c ih =>
    intro fr fr' st st' out h
    simp only [codeD] at h
    split at h
    · rename_i h1
      split at h <;> cases h <;> exact ih h1
    · exact ih h
  | loop c ih =>
    intro fr fr' st st' out h
    simp only [codeD] at h
    exact iter_goes (fun _ _ _ _ _ => ih) n h
  | exit id => intro fr fr' st st' out h; simp only [codeD] at h; cases h; exact .refl _
  | ret => intro fr fr' st st' out h; simp only [codeD] at h; cases h; exact .refl _
  | _ => intro fr fr' st st' out h; simp only [codeD] at h; cases h
include ok
theorem code_ok (dyn : List (Nat × List (Nat × Nat))) (n sz : Nat) : ∀ (c : Code),codeOk pv dyn sz c = true -> ∀ {fr fr' : Fr} {st st' : St} {out : Out},codeD pv cf dyn n c fr st = some (out,fr',st') ->
    ∀ {w : World} {β : Nat -> Option (Nat × Nat)} {Z : Nat -> Prop} {a : Act} {Q : Exit -> Act -> World -> Prop},Sim w st β Z -> FrR w (st.x β Z) fr a.tmps -> a.tmps.size = sz ->
    (∀ a' w' β' Z',Nx w st β Z w' st' β' Z' -> FrR w' (st'.x β' Z') fr' a'.tmps -> a'.defers = a.defers -> a'.tmps.size = sz -> Q out.ex a' w') -> c.wp P Q a w := by
  intro c
  induction c with
  | skip =>
    intro _ fr fr' st st' out h w β Z a Q hs hf hz K
    simp only [codeD] at h; cases h
    exact wp_skip (K a w β Z (Nx.same hs) hf rfl hz)
  | region id ops d =>
    intro hc fr fr' st st' out h w β Z a Q hs hf hz K
    simp only [codeD] at h
    simp only [codeOk,Bool.and_eq_true] at hc
    have hd := dstOk_of hc.1
    split at h
    · rename_i fr1 st1 hop
      cases h
      cases d with
      | true =>
        have hreg : okReg pv ops (lookDy id dyn) = true := by simpa using hc.2
        exact draw_ok ok hcf hreg hop hs (clean_ok hf) (by rw [hz]; exact hd) fun a' w' β' Z' h1 h2 h3 h4 => K a' w' β' Z' h1 h2 h3 (h4.trans hz)
      | false =>
        refine wp_region ?_
        have := ops_ok ok hcf (ops := ops) (Q := Q) ops.toList 0 _ _ st _ β Z a w (fun j => by simp) (regD_ops hop) hs (clean_ok hf) (by rw [hz]; exact hd) fun a' w' β' Z' h1 h2 h3 h4 => K a' w' β' Z' h1 h2 h3 (h4.trans hz)
        rw [List.range_eq_range']
        simpa using this
    · cases h
  | seq x y ihx ihy =>
    intro hc fr fr' st st' out h w β Z a Q hs hf hz K
    simp only [codeOk,Bool.and_eq_true] at hc
    simp only [codeD] at h
    refine wp_seq ?_
    split at h
    · rename_i fr1 st1 h1
      refine ihx hc.1 h1 hs hf hz fun a' w' β' Z' hn hf' hd hz' => ?_
      exact ihy hc.2 h hn.sim hf' hz' fun a'' w'' β'' Z'' hn' hf'' hd' hz'' => K a'' w'' β'' Z'' (hn.trans hn') hf'' (hd'.trans hd) hz''
    · rename_i hne
      refine ihx hc.1 h hs hf hz fun a' w' β' Z' hn hf' hd hz' => ?_
      have hK := K a' w' β' Z' hn hf' hd hz'
      cases out with
      | next => exact (hne _ _ h).elim
      | exit id => exact hK
      | ret => exact hK
  | cond c x y ihx ihy =>
    intro hc fr fr' st st' out h w β Z a Q hs hf hz K
    simp only [codeOk,Bool.and_eq_true] at hc
    simp only [codeD] at h
    have hv := ev_ok hf c
    split at h
    · rename_i hb; rw [hb] at hv; exact wp_cond_true (vr_bool hv) (ihx hc.1 h hs hf hz K)
    · rename_i hb; rw [hb] at hv; exact wp_cond_false (vr_bool hv) (ihy hc.2 h hs hf hz K)
    · cases h
  | block id c ih =>
    intro hc fr fr' st st' out h w β Z a Q hs hf hz K
    simp only [codeOk] at hc
    simp only [codeD] at h
    refine wp_block ?_
    split at h
    · rename_i i fr1 st1 h1
      refine ih hc h1 hs hf hz fun a' w' β' Z' hn hf' hd hz' => ?_
      simp only [Out.ex,Exit.inBlock]
      split at h
      · rename_i hi; cases h; rw [if_pos hi]; exact K a' w' β' Z' hn hf' hd hz'
      · rename_i hi; cases h; rw [if_neg hi]; exact K a' w' β' Z' hn hf' hd hz'
    · rename_i hne
      refine ih hc h hs hf hz fun a' w' β' Z' hn hf' hd hz' => ?_
      have hK := K a' w' β' Z' hn hf' hd hz'
      cases out with
      | next => exact hK
      | exit id => exact (hne _ _ _ h).elim
      | ret => exact hK
  | loop c ih =>
    intro hc fr fr' st st' out h w β Z a Q hs hf hz K
    simp only [codeOk] at hc
    simp only [codeD] at h
    let J : Nat -> Act -> World -> Prop := fun m a1 w1 => ∃ fr1 st1 β1 Z1,iter (codeD pv cf dyn n c) m fr1 st1 = some (out,fr',st') /\ Nx w st β Z w1 st1 β1 Z1 /\ FrR w1 (st1.x β1 Z1) fr1 a1.tmps /\ a1.defers = a.defers /\ a1.tmps.size = sz
    refine wp_loop (fun a1 w1 => ∃ m,J m a1 w1) (fun a1 w1 => mu fun m => J m a1 w1) ⟨n,fr,st,β,Z,h,Nx.same hs,hf,rfl,hz⟩ ?_
    rintro a1 w1 ⟨m0,hm0⟩
    obtain ⟨⟨fr1,st1,β1,Z1,h1,hn1,hf1,hd1,hz1⟩,_⟩ := mu_spec (p := fun m => J m a1 w1) hm0
    generalize hmu : mu (fun m => J m a1 w1) = m at h1
    cases m with
    | zero => cases h1
    | succ m =>
      simp only [iter] at h1
      split at h1
      · rename_i fr2 st2 h2
        refine ih hc h2 hn1.sim (clean_ok hf1) hz1 fun a' w' β' Z' hn hf' hd hz' => ?_
        have hJ : J m a' w' := ⟨fr2,st2,β',Z',h1,hn1.trans hn,hf',hd.trans hd1,hz'⟩
        have := (mu_spec (p := fun m => J m a' w') hJ).2 m hJ
        exact ⟨⟨m,hJ⟩,by omega⟩
      · rename_i hne
        refine ih hc h1 hn1.sim (clean_ok hf1) hz1 fun a' w' β' Z' hn hf' hd hz' => ?_
        have hK := K a' w' β' Z' (hn1.trans hn) hf' (hd.trans hd1) hz'
        cases out with
        | next => exact (hne _ _ h1).elim
        | exit id => exact hK
        | ret => exact hK
  | exit id =>
    intro _ fr fr' st st' out h w β Z a Q hs hf hz K
    simp only [codeD] at h; cases h
    exact wp_exit (K a w β Z (Nx.same hs) hf rfl hz)
  | ret =>
    intro _ fr fr' st st' out h w β Z a Q hs hf hz K
    simp only [codeD] at h; cases h
    exact wp_ret (K a w β Z (Nx.same hs) hf rfl hz)
  | _ => intro _ fr fr' st st' out h; simp only [codeD] at h; cases h
end
end Go.V
namespace Go.V
open Go.RowKit
def cutB (N : Nat) (β : Nat -> Option (Nat × Nat)) : Nat -> Option (Nat × Nat) := fun k => if k < N then β k else none
def giveZ (N : Nat) (β : Nat -> Option (Nat × Nat)) (Z : Nat -> Prop) : Nat -> Prop := fun b => Z b \/ ∃ k base,N <= k /\ β k = some (b,base)
theorem VR.cut {w : World} {x x' : X} {N : Nat} (hβ : ∀ k,k < N -> x'.β k = x.β k) (hv : ∀ k,k < N -> x'.ver k = x.ver k) (hZ : ∀ b,x.Z b -> x'.Z b) {d : D} {v : Value} (h : VR w x d v) : d.ref <= N -> VR w x' d v := by
  induction h with
  | im d v h => intro _; exact .im d v (h.mono fun b hb => ⟨hZ b hb,rfl⟩)
  | win k vr off len s a cap hc hk hm h =>
    intro hr
    simp only [D.ref] at hr
    exact .win k vr off len s a cap hc (by rw [hβ k hr]; exact hk) (by rw [hv k hr]; exact hm) (by rw [hv k hr,hβ k hr]; exact h)
  | ptr k vr off a hk hm h =>
    intro hr
    simp only [D.ref] at hr
    exact .ptr k vr off a (by rw [hβ k hr]; exact hk) (by rw [hv k hr]; exact hm) (by rw [hv k hr,hβ k hr]; exact h)
  | mp k r hk h =>
    intro hr
    simp only [D.ref] at hr
    exact .mp k r (by rw [hβ k hr]; exact hk) (by rw [hv k hr,hβ k hr]; exact h)
  | fn f cs vs hl hr ih => intro hN; simp only [D.ref] at hN; exact .fn f cs vs hl fun i c v hc hv => ih i c v hc hv (Nat.le_trans (ref_le_refs (List.mem_of_getElem? hc)) hN)
  | agg cs vs hl h1 hr ih => intro hN; simp only [D.ref] at hN; exact .agg cs vs hl h1 fun i c v hc hv => ih i c v hc hv (Nat.le_trans (ref_le_refs (List.mem_of_getElem? hc)) hN)
  | tup cs vs hl hr ih => intro hN; simp only [D.ref] at hN; exact .tup cs vs hl fun i c v hc hv => ih i c v hc hv (Nat.le_trans (ref_le_refs (List.mem_of_getElem? hc)) hN)
theorem refs_all {N : Nat} {cs : List D} {vs : List Value} (hl : cs.length = vs.length) (h : ∀ (i : Nat) c v,cs[i]? = some c -> vs[i]? = some v -> c.ref <= N) : refs cs <= N := by
  refine refs_le fun d hd => ?_
  obtain ⟨i,hi⟩ := List.getElem?_of_mem hd
  have hlt := lt_of_some hi
  exact h i d _ hi (List.getElem?_eq_getElem (by omega))
theorem IR.ref {w : World} {Z : Nat -> Prop} {d : D} {v : Value} (h : IR w Z d v) : d.ref <= 0 := by
  induction h with
  | agg cs vs hl h1 hr ih => simp only [D.ref]; exact refs_all hl ih
  | tup cs vs hl hr ih => simp only [D.ref]; exact refs_all hl ih
  | _ => simp [D.ref]
theorem VR.ref {w : World} {x : X} {N : Nat} (hd : ∀ k p,x.β k = some p -> k < N) {d : D} {v : Value} (h : VR w x d v) : d.ref <= N := by
  induction h with
  | im d v h => exact Nat.le_trans h.ref (Nat.zero_le _)
  | win k vr off len s a cap hc hk hm h => obtain ⟨p,hp⟩ := hk; simp only [D.ref]; exact hd k p hp
  | ptr k vr off a hk hm h => obtain ⟨p,hp⟩ := hk; simp only [D.ref]; exact hd k p hp
  | mp k r hk h => obtain ⟨p,hp⟩ := hk; simp only [D.ref]; exact hd k p hp
  | fn f cs vs hl hr ih => simp only [D.ref]; exact refs_all hl ih
  | agg cs vs hl h1 hr ih => simp only [D.ref]; exact refs_all hl ih
  | tup cs vs hl hr ih => simp only [D.ref]; exact refs_all hl ih
theorem mapO_get {f : D -> Option D} : ∀ {ds xs : List D},mapO f ds = some xs -> xs.length = ds.length /\ ∀ (i : Nat) x,xs[i]? = some x -> ∃ d,ds[i]? = some d /\ f d = some x
  | [],xs,h => by simp only [mapO] at h; cases h; exact ⟨rfl,fun i x hx => by simp at hx⟩
  | d :: ds,xs,h => by
    simp only [mapO] at h
    split at h
    · rename_i y hy
      split at h
      · rename_i ys hys
        cases h
        obtain ⟨h1,h2⟩ := mapO_get hys
        refine ⟨by simp [h1],fun i x hx => ?_⟩
        cases i with
        | zero => simp at hx; subst hx; exact ⟨d,rfl,hy⟩
        | succ i => simpa using h2 i x (by simpa using hx)
      · cases h
    · cases h
theorem chunk_len (s : Nat) : ∀ (n : Nat) (c : List D),(chunk s n c).length = n
  | 0,_ => rfl
  | n + 1,c => by simp only [chunk,List.length_cons,chunk_len s n]
theorem chunk_get (s : Nat) : ∀ (n : Nat) (c : List D) (i : Nat) (e : D),n * s <= c.length -> (∀ x ∈ c,x.cells? = some [x] /\ x.cells = [x]) -> (chunk s n c)[i]? = some e ->
    e.cells? = some e.cells /\ e.cells.length = s /\ ∀ (j : Nat) y,e.cells[j]? = some y -> c[i * s + j]? = some y
  | 0,_,i,e,_,_,h => by simp [chunk] at h
  | n + 1,c,i + 1,e,hl,h1,h => by
    simp only [chunk,List.getElem?_cons_succ] at h
    have hs : n * s + s <= c.length := by rw [Nat.succ_mul] at hl; exact hl
    obtain ⟨q1,q2,q3⟩ := chunk_get s n (c.drop s) i e (by simp; omega) (fun x hx => h1 x (List.mem_of_mem_drop hx)) h
    refine ⟨q1,q2,fun j y hy => ?_⟩
    have := q3 j y hy
    rw [List.getElem?_drop] at this
    rw [Nat.succ_mul, <- this]; congr 1; omega
  | n + 1,c,0,e,hl,h1,h => by
    have hs : s <= c.length := by rw [Nat.succ_mul] at hl; omega
    simp only [chunk,List.getElem?_cons_zero,Option.some.injEq] at h
    split at h
    · cases c with
      | nil => simp at hs
      | cons x c =>
        simp only [List.headD_cons] at h
        subst h
        obtain ⟨q1,q2⟩ := h1 x (List.mem_cons_self ..)
        refine ⟨by rw [q1,q2],by rw [q2]; rfl,fun j y hy => ?_⟩
        rw [q2] at hy
        cases j with
        | zero => simpa using hy
        | succ j => simp at hy
    · subst h
      refine ⟨rfl,by simp [D.cells]; omega,fun j y hy => ?_⟩
      simp only [D.cells] at hy
      rw [List.getElem?_take] at hy
      split at hy
      · simpa using hy
      · cases hy
theorem pure_shape {st : St} {N n : Nat} {d x : D} (h : pureD st N n d = some x) : (∃ cs,x = .agg cs) \/ (x.cells? = some [x] /\ x.cells = [x]) := by
  cases n with
  | zero => cases h
  | succ n =>
    cases d <;> simp only [pureD] at h <;> first | (cases h; done) | (cases h; exact .inr ⟨rfl,rfl⟩) | skip
    case win k ver off len sz =>
      split at h
      · cases h
      · obtain ⟨⟨a,c⟩,_,h⟩ := Option.bind_eq_some_iff.1 h
        dsimp only at h
        split at h
        · obtain ⟨r,_,hr⟩ := Option.map_eq_some_iff.1 h
          cases hr; exact .inr ⟨rfl,rfl⟩
        · cases h
    case agg cs =>
      obtain ⟨r,_,hr⟩ := Option.map_eq_some_iff.1 h
      cases hr; exact .inl ⟨_,rfl⟩
theorem pure_ok {w : World} {st : St} {β : Nat -> Option (Nat × Nat)} {Z : Nat -> Prop} (h : Sim w st β Z) (N : Nat) : ∀ (n : Nat) {d d' : D} {v : Value},pureD st N n d = some d' -> VR w (st.x β Z) d v -> IR w (giveZ N β Z) d' v := by
  have up : ∀ {d : D} {v : Value},IR w Z d v -> IR w (giveZ N β Z) d v := fun hi => hi.mono fun b hb => ⟨.inl hb,rfl⟩
  intro n
  induction n with
  | zero => intro d d' v hp; cases hp
  | succ n ih =>
    intro d d' v hp hv
    cases d <;> simp only [pureD] at hp <;> try (cases hp; done)
    case bool b => cases hp; rw [vr_bool hv]; exact .bool b
    case int k i => cases hp; rw [vr_int hv]; exact .int k i
    case str s => cases hp; rw [vr_str hv]; exact .str s
    case nul => cases hp; rw [vr_nul hv]; exact .emp none 0
    case sl es => cases hp; cases hv with | im _ _ hi => exact up hi
    case pnil => cases hp; rw [vr_pnil hv]; exact .pnil
    case nilfn => cases hp; cases hv with | im _ _ hi => exact up hi
    case nilif => cases hp; cases hv with | im _ _ hi => exact up hi
    case agg cs =>
      obtain ⟨xs,hx,hr⟩ := Option.map_eq_some_iff.1 hp
      cases hr
      obtain ⟨vs,rfl,hl,h1,h2⟩ := vr_agg hv
      obtain ⟨g1,g2⟩ := mapO_get hx
      refine .agg xs vs (g1.trans hl) h1 fun i c u hc hu => ?_
      obtain ⟨d,hd1,hd2⟩ := g2 i c hc
      exact ih hd2 (h2 i d u hd1 hu)
    case win k ver off len s =>
      split at hp
      · cases hp
      · rename_i hkN
        obtain ⟨⟨ar,c⟩,hm,hp⟩ := Option.bind_eq_some_iff.1 hp
        dsimp only at hp
        split at hp
        · rename_i hroom
          obtain ⟨xs,hx,hr⟩ := Option.map_eq_some_iff.1 hp
          cases hr
          obtain ⟨a,cap,rfl,hlc,_,_,hat⟩ := vr_win hv
          obtain ⟨b,base,sz,hb,_,hcap⟩ := hat (mem_spec hm).2
          have hcells : CellsAt w (st.x β Z) b (base + off) ((c.drop off).take (len * s)) := ((h.cells hm hb).drop off).take _
          obtain ⟨g1,g2⟩ := mapO_get hx
          have hlen : xs.length = len * s := by rw [g1]; simp; omega
          have hcell : ∀ (j : Nat) y,xs[j]? = some y -> ∃ u,w.cell? ⟨b,base + off + j,none⟩ = some u /\ u.oneCell' = true /\ IR w (giveZ N β Z) y u := by
            intro j y hy
            obtain ⟨d,hd1,hd2⟩ := g2 j y hy
            obtain ⟨u,hu1,hu2,hu3⟩ := hcells j d hd1
            exact ⟨u,hu1,hu2,ih hd2 hu3⟩
          have hone : ∀ x ∈ xs,x.cells? = some [x] /\ x.cells = [x] := by
            intro x hxm
            obtain ⟨j,hj⟩ := List.getElem?_of_mem hxm
            obtain ⟨d,_,hd2⟩ := g2 j x hj
            obtain ⟨u,_,hu2,hu3⟩ := hcell j x hj
            rcases pure_shape hd2 with ⟨cs,rfl⟩ | h'
            · cases hu3; simp [Value.oneCell'] at hu2
            · exact h'
          rcases hcap with rfl | ⟨rfl,_⟩
          · have : len = 0 := by omega
            subst this
            exact .emp (some a) 0
          · have hcl := chunk_len s len xs
            have hg := fun i e => chunk_get s len xs i e (by omega) hone
            have key : ∀ (i : Nat) e (j : Nat) y,(chunk s len xs)[i]? = some e -> e.cells[j]? = some y -> ∃ u,w.cell? ⟨b,base + off + (i * s + j),none⟩ = some u /\ u.oneCell' = true /\ IR w (giveZ N β Z) y u := fun i e j y he hy => hcell _ y ((hg i e he).2.2 j y hy)
            have := IR.sl (w := w) (Z := giveZ N β Z) (chunk s len xs) b (base + off) cap s (fun i j => (w.cell? ⟨b,base + off + (i * s + j),none⟩).getD undef) (.inr ⟨k,base,by omega,hb⟩) (by omega)
              (fun i e he => ⟨(hg i e he).1,(hg i e he).2.1⟩)
              (fun i e j y he hy => by obtain ⟨u,hu1,hu2,_⟩ := key i e j y he hy; rw [hu1]; exact ⟨rfl,hu2⟩)
              (fun i e j y he hy => by obtain ⟨u,hu1,_,hu3⟩ := key i e j y he hy; rw [hu1]; exact hu3)
            rw [hcl] at this
            exact this
        · cases hp
theorem freeze_ok {w : World} {st : St} {β : Nat -> Option (Nat × Nat)} {Z : Nat -> Prop} (h : Sim w st β Z) {N : Nat} {x' : X} (hβ : ∀ k,k < N -> x'.β k = β k) (hv' : ∀ k,k < N -> x'.ver k = st.ver k) (hZ : x'.Z = giveZ N β Z) (kn : Bool) :
    ∀ (n : Nat) {d d' : D} {v : Value},freezeD st N kn n d = some d' -> VR w (st.x β Z) d v -> VR w x' d' v := by
  have cut : ∀ {d : D} {v : Value},VR w (st.x β Z) d v -> d.ref <= N -> VR w x' d v := fun hv hr => hv.cut hβ hv' (fun b hb => by rw [hZ]; exact .inl hb) hr
  have im : ∀ {d : D} {v : Value},IR w (giveZ N β Z) d v -> VR w x' d v := fun hi => .im _ _ (by rw [hZ]; exact hi)
  intro n
  induction n with
  | zero => intro d d' v hp; cases hp
  | succ n ih =>
    intro d d' v hp hv
    cases d <;> simp only [freezeD] at hp <;> first | (cases hp; exact cut hv (by simp [D.ref])) | skip
    case nul =>
      cases hp
      cases kn with
      | true => exact cut hv (by simp [D.ref])
      | false => rw [vr_nul hv]; exact im (.emp none 0)
    case win k ver off len s =>
      split at hp
      · rename_i hk; cases hp; exact cut hv (by simp only [D.ref]; omega)
      · exact im (pure_ok h N n hp hv)
    case ptr k ver off =>
      split at hp
      · rename_i hk; cases hp; exact cut hv (by simp only [D.ref]; omega)
      · cases hp
    case mp k =>
      split at hp
      · rename_i hk; cases hp; exact cut hv (by simp only [D.ref]; omega)
      · cases hp
    case fn f caps =>
      split at hp
      · rename_i hk; cases hp; exact cut hv (by simp only [D.ref]; exact hk)
      · cases hp
    case agg cs =>
      obtain ⟨xs,hx,hr⟩ := Option.map_eq_some_iff.1 hp
      cases hr
      obtain ⟨vs,rfl,hl,h1,h2⟩ := vr_agg hv
      obtain ⟨g1,g2⟩ := mapO_get hx
      refine .agg xs vs (g1.trans hl) h1 fun i c u hc hu => ?_
      obtain ⟨d,hd1,hd2⟩ := g2 i c hc
      exact ih hd2 (h2 i d u hd1 hu)
    case tup cs =>
      obtain ⟨xs,hx,hr⟩ := Option.map_eq_some_iff.1 hp
      cases hr
      obtain ⟨vs,rfl,hl,h2⟩ := vr_tup hv
      obtain ⟨g1,g2⟩ := mapO_get hx
      refine .tup xs vs (g1.trans hl) fun i c u hc hu => ?_
      obtain ⟨d,hd1,hd2⟩ := g2 i c hc
      exact ih hd2 (h2 i d u hd1 hu)
theorem enter_ver (m : Mode) (st : St) : (enterSt m st).bs = st.bs := by cases m <;> rfl
theorem enter_sim {w : World} {st : St} {β : Nat -> Option (Nat × Nat)} {Z : Nat -> Prop} (h : Sim w st β Z) (m : Mode) : Sim w (enterSt m st) β Z := by
  refine ⟨fun k b base hk => by rw [enter_ver]; exact h.dom k b base hk,h.lt,h.inj,h.zd,h.zl,fun k b base bx hb hbx => ?_,?_,?_⟩
  · rw [enter_ver] at hbx
    have : (enterSt m st).x β Z = st.x β Z := by simp only [St.x]; congr 1; funext k; simp only [St.ver,enter_ver]
    rw [this]; exact h.box k b base bx hb hbx
  · rw [enter_ver]; cases m <;> first | exact Nat.le_refl _ | exact h.flr
  · rw [enter_ver]; cases m <;> first | exact Nat.le_refl _ | exact h.ro
theorem leave_ok {w w' : World} {st st1 st' : St} {β β' : Nat -> Option (Nat × Nat)} {Z Z' : Nat -> Prop} (h : Sim w st β Z) (m : Mode) (kn : Bool) (hn : Nx w (enterSt m st) β Z w' st1 β' Z') (hg : Goes (enterSt m st) st1) {d d' : D} {v : Value} (hv : VR w' (st1.x β' Z') d v)
    (hl : leaveD m kn st st1 d = some (d',st')) : ∃ β'' Z'',Nx w st β Z w' st' β'' Z'' /\ VR w' (st'.x β'' Z'') d' v := by
  by_cases hm : m = .keep
  · subst hm
    simp only [leaveD] at hl; cases hl
    exact ⟨β',Z',hn,hv⟩
  by_cases hw : m = .nw
  · subst hw
    simp only [leaveD] at hl; cases hl
    have hx0 : (enterSt .nw st).x β Z = st.x β Z := by simp only [St.x]; congr 1
    have hx1 : (⟨st1.bs,st.flr,st.ro⟩ : St).x β' Z' = st1.x β' Z' := by simp only [St.x]; congr 1
    have hlen : st.bs.length <= st1.bs.length := hn.len
    refine ⟨β',Z',⟨⟨hn.sim.dom,hn.sim.lt,hn.sim.inj,hn.sim.zd,hn.sim.zl,fun k b base bx hb hbx => by rw [hx1]; exact hn.sim.box k b base bx hb hbx,Nat.le_trans h.flr hlen,Nat.le_trans h.ro hlen⟩,by rw [hx1, <- hx0]; exact hn.keeps,
      hn.evo.mono fun b hb => ?_,hn.fresh,hn.zfresh,hlen,rfl,rfl,fun k hk => hn.low k (Nat.lt_of_lt_of_le hk h.ro),fun k hk h0 => hn.old k hk h0⟩,by rw [hx1]; exact hv⟩
    obtain ⟨k,base,h1,h2⟩ := hb
    exact ⟨k,base,h1,Nat.le_trans h.ro h2⟩
  have hl : ∃ dd,freezeD st1 st.bs.length kn 16 d = some dd /\ d' = dd /\ st' = ⟨st1.bs.take st.bs.length,st.flr,st.ro⟩ := by
    cases m <;> first | exact absurd rfl hm | exact absurd rfl hw | skip
    all_goals
      simp only [leaveD] at hl
      split at hl
      · rename_i dd hf; cases hl; exact ⟨_,hf,rfl,rfl⟩
      · cases hl
  obtain ⟨dd,hf,rfl,rfl⟩ := hl
  have hflr : (enterSt m st).flr = st.bs.length := by cases m <;> first | rfl | exact absurd rfl hm | exact absurd rfl hw
  have hro : st.ro <= (enterSt m st).ro := by cases m <;> first | exact Nat.le_refl _ | exact h.ro
  have hlen : st.bs.length <= st1.bs.length := by have := hn.len; rw [enter_ver] at this; exact this
  have hb : ∀ k,k < st.bs.length -> (st1.bs.take st.bs.length)[k]? = st1.bs[k]? := fun k hk => by rw [List.getElem?_take,if_pos hk]
  have hx : (enterSt m st).x β Z = st.x β Z := by simp only [St.x]; congr 1; funext k; simp only [St.ver,enter_ver]
  have hv' : ∀ k,k < st.bs.length -> (⟨st1.bs.take st.bs.length,st.flr,st.ro⟩ : St).ver k = st1.ver k := fun k hk => by simp only [St.ver,hb k hk]
  have hβ : ∀ k,k < st.bs.length -> cutB st.bs.length β' k = β' k := fun k hk => by simp only [cutB,if_pos hk]
  have hβ2 : ∀ k p,cutB st.bs.length β' k = some p -> k < st.bs.length /\ β' k = some p := by
    intro k p hp
    simp only [cutB] at hp
    split at hp
    · exact ⟨by assumption,hp⟩
    · cases hp
  refine ⟨cutB st.bs.length β',giveZ st.bs.length β' Z',⟨⟨fun k b base hk => ?_,fun k b base hk => hn.sim.lt k b base (hβ2 k _ hk).2,fun k k' b y y' h1 h2 => hn.sim.inj k k' b y y' (hβ2 k _ h1).2 (hβ2 k' _ h2).2,?_,?_,?_,?_,?_⟩,?_,?_,?_,?_,?_,rfl,rfl,?_,?_⟩,?_⟩
  · have := (hβ2 k _ hk).1; simp; omega
  · intro k b base hk hz
    obtain ⟨h1,h2⟩ := hβ2 k _ hk
    rcases hz with hz | ⟨k2,base2,h3,h4⟩
    · exact hn.sim.zd k b base h2 hz
    · have := hn.sim.inj k k2 b _ _ h2 h4; omega
  · rintro b (hz | ⟨k2,base2,_,h4⟩)
    · exact hn.sim.zl b hz
    · exact hn.sim.lt k2 b base2 h4
  · intro k b base bx hk hbx
    obtain ⟨h1,h2⟩ := hβ2 k _ hk
    simp only at hbx
    rw [hb k h1] at hbx
    have hbox := hn.sim.box k b base bx h2 hbx
    have hβk : ∃ p,β k = some p := by
      cases hq : β k with
      | some p => exact ⟨p,rfl⟩
      | none =>
        have := (hn.old k (by rw [enter_ver]; exact h1) hq).1
        rw [h2] at this; cases this
    obtain ⟨p,hp⟩ := hβk
    cases bx with
    | mem vr ar cells =>
      obtain ⟨c,el,fr,q1,q2,q3,q4⟩ := hbox
      refine ⟨c,el,fr,q1,q2,q3,fun j e he => ?_⟩
      obtain ⟨u,u1,u2,u3⟩ := q4 j e he
      refine ⟨u,u1,u2,u3.cut hβ hv' (fun b hb => show giveZ st.bs.length β' Z' b from .inl hb) ?_⟩
      have h0 : st.bs[k]? = some st.bs[k] := List.getElem?_eq_getElem h1
      have h5 := hg.fl k st.bs[k] _ (by rw [hflr]; exact h1) (by rw [enter_ver]; exact h0) hbx e (List.mem_of_getElem? he)
      have h6 : refs (st.bs[k]).cells <= st.bs.length := refs_le fun x hx => by
        have hbox0 := h.box k p.1 p.2 _ hp h0
        cases hbk : st.bs[k] with
        | mem vr0 ar0 cells0 =>
          rw [hbk] at hbox0 hx
          obtain ⟨_,_,_,_,_,_,r4⟩ := hbox0
          obtain ⟨i,hi⟩ := List.getElem?_of_mem hx
          obtain ⟨_,_,_,r7⟩ := r4 i x hi
          exact r7.ref fun k p hp => h.dom k p.1 p.2 hp
        | _ => rw [hbk] at hx; simp [Box.cells] at hx
      omega
    | iter s pos => exact hbox
    | map e => exact hbox
    | dead => exact hbox
  · have := h.flr; simp; omega
  · have := h.ro; simp; omega
  · have hk := hn.keeps
    rw [hx] at hk
    refine ⟨fun k p hp => ?_,fun b hb => ⟨.inl (hk.z b hb).1,(hk.z b hb).2⟩,fun k c p hp hc => ?_,fun k c hc hc' b base hbb => ?_⟩
    · obtain ⟨p',hp'⟩ := hk.dm k p hp
      exact ⟨p',by show cutB st.bs.length β' k = some p'; rw [hβ k (h.dom k p.1 p.2 hp)]; exact hp'⟩
    · exact hk.ver k c p hp (by have := hv' k (h.dom k p.1 p.2 hp); show st1.ver k = some c; rw [<- this]; exact hc)
    · have hkN := h.dom k _ _ hbb
      obtain ⟨r1,r2⟩ := hk.at_ k c (by show st1.ver k = some c; rw [<- hv' k hkN]; exact hc) hc' b base hbb
      exact ⟨by show cutB st.bs.length β' k = _; rw [hβ k hkN]; exact r1,r2⟩
  · exact hn.evo.mono fun b ⟨k,base,h1,h2⟩ => ⟨k,base,h1,Nat.le_trans hro h2⟩
  · intro k b base hk
    exact hn.fresh k b base (hβ2 k _ hk).2
  · rintro b (hz | ⟨k2,base2,h3,h4⟩)
    · exact hn.zfresh b hz
    · rcases hn.fresh k2 b base2 h4 with ⟨base',h5⟩ | h5
      · have := h.dom k2 b base' h5; omega
      · exact .inr h5
  · simp; omega
  · intro k hk
    have hkN : k < st.bs.length := Nat.lt_of_lt_of_le hk h.ro
    obtain ⟨r1,r2⟩ := hn.low k (Nat.lt_of_lt_of_le hk hro)
    rw [enter_ver] at r1
    exact ⟨by simp only; rw [hb k hkN]; exact r1,by rw [hβ k hkN]; exact r2⟩
  · intro k hk hk0
    obtain ⟨r1,r2⟩ := hn.old k (by rw [enter_ver]; exact hk) hk0
    rw [enter_ver] at r2
    exact ⟨by rw [hβ k hk]; exact r1,by simp only; rw [hb k hk]; exact r2⟩
  · exact freeze_ok hn.sim hβ hv' rfl kn 16 hf hv
end Go.V
namespace Go.V
open Go.RowKit
theorem codeOk_mono {pv : Pv} {dyn : List (Nat × List (Nat × Nat))} {n m : Nat} (hnm : n <= m) : ∀ (c : Code),codeOk pv dyn n c = true -> codeOk pv dyn m c = true := by
  intro c
  induction c with
  | region id ops d =>
    intro h
    simp only [codeOk,Bool.and_eq_true] at h ⊢
    refine ⟨List.all_eq_true.2 fun o ho => ?_,h.2⟩
    have h1 := dstOk_of h.1 o ho
    cases hd : o.dst with
    | none => rfl
    | some t => exact Nat.ble_eq_true_of_le (Nat.le_trans (h1 t hd) hnm)
  | seq a b iha ihb => intro h; simp only [codeOk,Bool.and_eq_true] at h ⊢; exact ⟨iha h.1,ihb h.2⟩
  | cond c a b iha ihb => intro h; simp only [codeOk,Bool.and_eq_true] at h ⊢; exact ⟨iha h.1,ihb h.2⟩
  | block id c ih => intro h; simp only [codeOk] at h ⊢; exact ih h
  | loop c ih => intro h; simp only [codeOk] at h ⊢; exact ih h
  | _ => intro h; rfl
def resRow (tmps : Array Value) : ResultVar -> Sem Value
  | .tmp t => pure (tmps.getD t undef)
  | .cell a t => do loadVar t (<- asAddr (tmps.getD a undef))
theorem results_eq (fn : Func) (tmps : Array Value) : results fn tmps = (do let vs <- fn.results.mapM (resRow tmps); pure (if h : vs.size = 1 then vs[0] else .tuple vs)) := rfl
theorem nth_eq (d : D) : ∀ (l : List D) (t : Nat),nth d l t = (l[t]?).getD d
  | [],t => by simp [nth]
  | x :: l,0 => rfl
  | x :: l,t + 1 => by simpa [nth] using nth_eq d l t
theorem res_ok {pv : Pv} {P : Program} (ok : pv.Ok P) {w : World} {st : St} {β : Nat -> Option (Nat × Nat)} {Z : Nat -> Prop} (h : Sim w st β Z) {fr : Fr} {tmps : Array Value} (hf : FrR w (st.x β Z) fr tmps) : ∀ (rs : List ResultVar) {ds : List D},resD pv fr st rs = some ds ->
    ∃ vs : List Value,(rs.mapM (resRow tmps)).run P w = .ok vs w /\ ds.length = vs.length /\ ∀ (i : Nat) c u,ds[i]? = some c -> vs[i]? = some u -> VR w (st.x β Z) c u
  | [],ds,hr => by simp only [resD] at hr; cases hr; exact ⟨[],by simp,rfl,fun i c u hc => by simp at hc⟩
  | .tmp t :: l,ds,hr => by
    simp only [resD] at hr
    obtain ⟨es,he,hr⟩ := Option.map_eq_some_iff.1 hr
    cases hr
    obtain ⟨vs,h1,h2,h3⟩ := res_ok ok h hf l he
    refine ⟨tmps.getD t undef :: vs,by simp only [List.mapM_cons,resRow,Sem.run_bind,Sem.run_pure,Result.andThen_ok,h1],by simp [h2],fun i c u hc hu => ?_⟩
    cases i with
    | zero => simp at hc hu; subst hc; rw [<- hu]; have := hf t; simpa using this
    | succ i => exact h3 i c u (by simpa using hc) (by simpa using hu)
  | .cell a t :: l,ds,hr => by
    simp only [resD] at hr
    obtain ⟨d,hd,hr⟩ := Option.bind_eq_some_iff.1 hr
    obtain ⟨es,he,hr⟩ := Option.map_eq_some_iff.1 hr
    cases hr
    obtain ⟨vs,h1,h2,h3⟩ := res_ok ok h hf l he
    have hv := hf a
    have hld : ∃ z,(resRow tmps (.cell a t)).run P w = .ok z w /\ VR w (st.x β Z) d z := by
      unfold loadD at hd
      split at hd
      · rename_i k ver off hg
        rw [hg] at hv
        obtain ⟨⟨ar,c⟩,hm,hd⟩ := Option.bind_eq_some_iff.1 hd
        obtain ⟨p,hp,_,hat⟩ := vr_pointer hv
        obtain ⟨b,base,hb,rfl⟩ := hat (mem_spec hm).2
        obtain ⟨z,h1,h2⟩ := take_ok ok ((h.cells hm hb).drop off) hd
        exact ⟨z,by simp only [resRow]; rw [hp]; simp [asAddr,h1],h2⟩
      · rename_i c hg
        rw [hg] at hv
        obtain ⟨b,off,hp,_,hc,_⟩ := vr_ep hv
        obtain ⟨z,h1,h2⟩ := take_ok ok hc hd
        exact ⟨z,by simp only [resRow]; rw [hp]; simp [asAddr,h1],h2⟩
      · cases hd
    obtain ⟨z,z1,z2⟩ := hld
    refine ⟨z :: vs,by simp only [List.mapM_cons,Sem.run_bind,z1,Sem.run_pure,Result.andThen_ok,h1],by simp [h2],fun i c u hc hu => ?_⟩
    cases i with
    | zero => simp at hc hu; subst hc; subst hu; exact z2
    | succ i => exact h3 i c u (by simpa using hc) (by simpa using hu)
theorem results_ok {pv : Pv} {P : Program} (ok : pv.Ok P) {w : World} {st : St} {β : Nat -> Option (Nat × Nat)} {Z : Nat -> Prop} (h : Sim w st β Z) {fr : Fr} {tmps : Array Value} (hf : FrR w (st.x β Z) fr tmps) {fn : Func} {ds : List D} (hr : resD pv fr st fn.results.toList = some ds) :
    ∃ v,(results fn tmps).run P w = .ok v w /\ VR w (st.x β Z) (tupD ds) v := by
  obtain ⟨vs,h1,h2,h3⟩ := res_ok ok h hf _ hr
  have hrun : (fn.results.mapM (resRow tmps)).run P w = .ok vs.toArray w := by
    rw [Array.mapM_eq_mapM_toList,Sem.run_map,h1]; rfl
  refine ⟨if h : vs.toArray.size = 1 then vs.toArray[0] else .tuple vs.toArray,?_,?_⟩
  · rw [results_eq]
    simp only [Sem.run_bind]
    rw [hrun]
    simp only [Result.andThen_ok,Sem.run_pure]
  · match ds,vs,h2 with
    | [], [],_ => exact .tup [] [] rfl (by simp)
    | [d], [v],_ => exact h3 0 d v rfl rfl
    | d :: e :: l,u :: v :: l',h2 =>
      rw [dif_neg (by simp)]
      exact .tup _ _ h2 h3
theorem pad_ok {w : World} {x : X} {args : List D} {us : List Value} {n m : Nat} (hl : args.length = us.length) (hr : ∀ (i : Nat) c v,args[i]? = some c -> us[i]? = some v -> VR w x c v) :
    FrR w x (pad n args) (us.toArray ++ Array.replicate m undef) := by
  intro t
  simp only [pad,Fr.get]
  cases hb : Nat.ble n t with
  | true => exact .junk _ _ _
  | false =>
    simp only
    rw [nth_eq]
    simp only [Array.getD_eq_getD_getElem?]
    rw [List.getElem?_append,Array.getElem?_append]
    simp only [List.size_toArray,List.getElem?_toArray]
    by_cases ht : t < args.length
    · rw [if_pos ht,if_pos (by omega),List.getElem?_eq_getElem ht,List.getElem?_eq_getElem (by omega : t < us.length)]
      exact hr t _ _ (List.getElem?_eq_getElem ht) (List.getElem?_eq_getElem _)
    · rw [if_neg ht,if_neg (by omega)]
      have hu : ((Array.replicate m undef)[t - us.length]?).getD undef = undef := by
        rw [Array.getElem?_replicate]; split <;> rfl
      rw [hu]
      rw [List.getElem?_replicate]
      split
      · exact .im _ _ (.tup [] [] rfl (by simp))
      · exact .junk _ _ _
def Pv.codes (pv : Pv) : Prop := ∀ f x b,pv.fi f = some x -> x.prim = none -> x.fn.body = some b -> codeOk pv x.dyn x.fn.ntmps b = true
def primF (pv : Pv) : CallF := fun f ds st => match lookP f pv.prm with
  | some p => p ds st
  | none => match pv.fi f with
  | some x => match x.prim with
    | some p => p ds st
    | none => none
  | none => none
theorem leave_goes {m : Mode} {kn : Bool} {st st1 st' : St} {d d' : D} (hg : Goes (enterSt m st) st1) (hl : leaveD m kn st st1 d = some (d',st')) : Goes st st' /\ (m = .ro \/ m = .nw -> Adds st st') := by
  by_cases hm : m = .keep
  · subst hm
    simp only [leaveD] at hl; cases hl
    exact ⟨hg,fun h => by rcases h with h | h <;> cases h⟩
  by_cases hw : m = .nw
  · subst hw
    simp only [leaveD] at hl; cases hl
    have hlen : st.bs.length <= st1.bs.length := hg.len
    have hlow : ∀ k,k < st.bs.length -> st1.bs[k]? = st.bs[k]? := fun k hk => hg.low k hk hk
    have : Adds st ⟨st1.bs,st.flr,st.ro⟩ := by
      refine ⟨st1.bs.drop st.bs.length,?_⟩
      congr 1
      apply List.ext_getElem?
      intro k
      by_cases hk : k < st.bs.length
      · rw [List.getElem?_append_left hk]; exact hlow k hk
      · rw [List.getElem?_append_right (by omega),List.getElem?_drop]; congr 1; omega
    exact ⟨this.goes,fun _ => this⟩
  have hl : st' = ⟨st1.bs.take st.bs.length,st.flr,st.ro⟩ := by
    cases m <;> first | exact absurd rfl hm | exact absurd rfl hw | skip
    all_goals
      simp only [leaveD] at hl
      split at hl
      · cases hl; rfl
      · cases hl
  subst hl
  have hlen : st.bs.length <= st1.bs.length := by have := hg.len; rw [enter_ver] at this; exact this
  have hb : ∀ k,k < st.bs.length -> (st1.bs.take st.bs.length)[k]? = st1.bs[k]? := fun k hk => by rw [List.getElem?_take,if_pos hk]
  have hflr : (enterSt m st).flr = st.bs.length := by cases m <;> first | rfl | exact absurd rfl hm | exact absurd rfl hw
  refine ⟨⟨by simp; omega,rfl,rfl,fun k hk hk2 => ?_,fun k bx bx' hk h1 h2 d hd => ?_⟩,fun h => ?_⟩
  · have := hg.low k (by cases m <;> first | exact absurd rfl hw | exact hk | exact hk2) (by rw [enter_ver]; exact hk2)
    rw [enter_ver] at this
    simp only; rw [hb k hk2]; exact this
  · have hk2 := lt_of_some h1
    simp only at h2
    rw [hb k hk2] at h2
    exact hg.fl k bx bx' (by rw [hflr]; exact hk2) (by rw [enter_ver]; exact h1) h2 d hd
  · have h := h.resolve_right hw
    subst h
    have : st1.bs.take st.bs.length = st.bs := by
      apply List.ext_getElem?
      intro k
      by_cases hk : k < st.bs.length
      · rw [hb k hk]
        have := hg.low k hk (by rw [enter_ver]; exact hk)
        rw [enter_ver] at this; exact this
      · rw [List.getElem?_eq_none (by simp; omega),List.getElem?_eq_none (by omega)]
    rw [this]
    exact .rfl _
theorem call_ok {pv : Pv} {P : Program} (ok : pv.Ok P) (hc : pv.codes) (hp : CfOk P pv (primF pv)) : ∀ n,CfOk P pv (callD pv n)
  | 0 => ⟨fun f ds st r h => (by cases h),fun f ds st d st' h => (by cases h),fun f ds st d st' h => (by cases h),fun f ds st d st' h => (by cases h)⟩
  | n + 1 => by
    have ih := call_ok ok hc hp n
    have key : ∀ {f : Nat} {ds : List D} {st : St} {r : D × St},callD pv (n + 1) f ds st = some r -> (primF pv f ds st = some r) \/ ∃ x body,pv.fi f = some x /\ x.prim = none /\ x.fn.body = some body /\ bodyD pv (callD pv n) n x body ds st = some r := by
      intro f ds st r h
      simp only [callD] at h
      split at h
      · rename_i p hl; left; simp only [primF,hl]; exact h
      rename_i hl
      split at h
      · rename_i x hx
        split at h
        · rename_i p hpx; left; simp only [primF,hl,hx,hpx]; exact h
        · rename_i hpx
          split at h
          · rename_i body hb; exact .inr ⟨x,body,hx,hpx,hb,h⟩
          · cases h
      · cases h
    have body : ∀ {x : Fi} {body : Code} {ds : List D} {st : St} {d : D} {st' : St},bodyD pv (callD pv n) n x body ds st = some (d,st') ->
        ∃ out fr st1 es,codeD pv (callD pv n) x.dyn n body (pad x.nloc ds) (enterSt x.mode st) = some (out,fr,st1) /\ (∀ i,out ≠ .exit i) /\ resD pv fr st1 x.fn.results.toList = some es /\ leaveD x.mode x.knul st st1 (tupD es) = some (d,st') := by
      intro x body ds st d st' h
      unfold bodyD at h
      split at h
      · cases h
      · rename_i out fr st1 hne hcd
        split at h
        · rename_i es hr
          exact ⟨out,fr,st1,es,hcd,fun i hi => by subst hi; exact hne _ rfl,hr,h⟩
        · cases h
      · cases h
    refine ⟨fun f ds st r h => ?_,fun f ds st d st' h => ?_,fun f ds st d st' h hro => ?_,fun f ds st d st' h => ?_⟩
    · rcases key h with h | ⟨x,b,hx,hpx,hb,_⟩
      · exact hp.fn f ds st r h
      · obtain ⟨h1,h2⟩ := ok.fs f x hx hpx
        exact ⟨x.fn,b,h1,hb,h2 b hb⟩
    · rcases key h with h | ⟨x,b,hx,hpx,hb,hbd⟩
      · exact hp.calls f ds st d st' h
      · intro w β Z us hs hl hr
        obtain ⟨out,fr,st1,es,hcd,hne,hres,hlv⟩ := body hbd
        obtain ⟨h1,h2⟩ := ok.fs f x hx hpx
        refine calls_of_wp h1 hb ?_
        have hs' := enter_sim hs x.mode
        have hx' : (enterSt x.mode st).x β Z = st.x β Z := by simp only [St.x]; congr 1; funext k; simp only [St.ver,enter_ver]
        have hf : FrR w ((enterSt x.mode st).x β Z) (pad x.nloc ds) (us.toArray ++ Array.replicate (x.fn.ntmps - us.toArray.size) undef) := by rw [hx']; exact pad_ok hl hr
        refine code_ok ok ih x.dyn n _ b (codeOk_mono ?_ b (hc f x b hx hpx hb)) hcd hs' hf rfl fun a' w' β' Z' hn hf' hd _ => ?_
        · simp; omega
        · obtain ⟨v,hv1,hv2⟩ := results_ok ok hn.sim hf' hres
          obtain ⟨β'',Z'',hn',hv'⟩ := leave_ok hs x.mode x.knul hn (code_goes ih x.dyn n b hcd) hv2 hlv
          have hfin : a'.defers = [] /\ ∃ v,(results x.fn a'.tmps).run P w' = .ok v w' /\ (∃ v' β' Z',Ending.returned v = .returned v' /\ Nx w st β Z w' st' β' Z' /\ VR w' (st'.x β' Z') d v' /\ (isRo pv f = true -> Quiet w w')) := by
            refine ⟨hd,v,hv1,v,β'',Z'',rfl,hn',hv',fun hro => ?_⟩
            have hm : x.mode = .ro \/ x.mode = .nw := by
              unfold isRo at hro
              rw [hx] at hro
              simp only at hro
              split at hro
              · exact .inl (by assumption)
              · exact .inr (by assumption)
              · cases hro
            intro c hcl
            refine hn.evo.block c hcl ?_
            rintro ⟨k,base,h5,h6⟩
            have := hs.dom k c base h5
            rcases hm with hm | hm <;> rw [hm] at h6 <;> simp only [enterSt] at h6 <;> omega
          cases out with
          | next => exact hfin
          | ret => exact hfin
          | exit i => exact absurd rfl (hne i)
    · rcases key h with h | ⟨x,b,hx,hpx,hb,hbd⟩
      · exact hp.ro f ds st d st' h hro
      · obtain ⟨out,fr,st1,es,hcd,hne,hres,hlv⟩ := body hbd
        have hm : x.mode = .ro \/ x.mode = .nw := by
          unfold isRo at hro
          rw [hx] at hro
          simp only at hro
          split at hro
          · exact .inl (by assumption)
          · exact .inr (by assumption)
          · cases hro
        exact (leave_goes (code_goes ih x.dyn n b hcd) hlv).2 hm
    · rcases key h with h | ⟨x,b,hx,hpx,hb,hbd⟩
      · exact hp.len f ds st d st' h
      · obtain ⟨out,fr,st1,es,hcd,hne,hres,hlv⟩ := body hbd
        exact (leave_goes (code_goes ih x.dyn n b hcd) hlv).1
end Go.V
namespace Go.V
open Go.RowKit
def Fits {α : Type} (R : Nat -> α -> Prop) : Tr α -> Nat -> Nat -> Prop
  | .leaf a,lo,hi => hi = lo + 1 /\ R lo a
  | .node k l r,lo,hi => Fits R l lo k /\ Fits R r k hi
theorem Fits.get {α : Type} {R : Nat -> α -> Prop} : ∀ {tr : Tr α} {lo hi t : Nat},Fits R tr lo hi -> lo <= t -> t < hi -> R t (tr.get t)
  | .leaf a,lo,hi,t,h,h1,h2 => by
    obtain ⟨h3,h4⟩ := h
    have : t = lo := by omega
    subst this; exact h4
  | .node k l r,lo,hi,t,h,h1,h2 => by
    obtain ⟨h3,h4⟩ := h
    simp only [Tr.get]
    cases hb : Nat.ble k t with
    | true => exact h4.get (Nat.le_of_ble_eq_true hb) h2
    | false =>
      have : ¬ k <= t := fun hk => by rw [Nat.ble_eq_true_of_le hk] at hb; cases hb
      exact h3.get h1 (by omega)
def fiOk (pv : Pv) (x : Fi) : Bool :=
  match x.fn.body with
  | some b => (x.fn.name != "runtime.NumGoroutine") && codeOk pv x.dyn x.fn.ntmps b
  | none => true
def noPrim : List D -> St -> Option (D × St) := fun _ _ => none
def RowF (pv : Pv) (P : Program) (i : Nat) (x : Fi) : Prop := (P.funcs[i]? = some x.fn /\ x.prim = none /\ fiOk pv x = true) \/ x.prim = some noPrim
def RowT (P : Program) (i : Nat) (x : TypeInfo) : Prop := P.info? i = some x
theorem view_ok {pv : Pv} {P : Program} (ht : Fits (RowT P) pv.ty 0 pv.nty) (hf : Fits (RowF pv P) pv.fs 0 pv.nfs) (he : (pv.eqb.all fun t => !P.stoodInHeld t && !P.eqGuardType P.depth t) = true) (hm : P.follows .mixedOrders = true) (hpr : pv.prm = []) :
    pv.Ok P /\ pv.codes /\ CfOk P pv (primF pv) := by
  have fi : ∀ f x,pv.fi f = some x -> RowF pv P f x := by
    intro f x h
    unfold Pv.fi at h
    split at h
    · rename_i hb
      cases h
      refine hf.get (Nat.zero_le _) ?_
      rcases Nat.lt_or_ge f pv.nfs with h' | h'
      · exact h'
      · rw [Nat.ble_eq_true_of_le h'] at hb; cases hb
    · cases h
  have pn : ∀ f ds st r,primF pv f ds st = some r -> False := by
    intro f ds st r h
    unfold primF at h
    rw [hpr] at h
    simp only [lookP] at h
    split at h
    · rename_i x hx
      rcases fi f x hx with ⟨_,h1,_⟩ | h1 <;> rw [h1] at h <;> cases h
    · cases h
  refine ⟨⟨fun t i h => ?_,fun f x h hp => ?_,fun t h => ?_,hm⟩,fun f x b h hp hb => ?_,⟨fun f ds st r h => (pn f ds st r h).elim,fun f ds st d st' h => (pn f ds st _ h).elim,fun f ds st d st' h => (pn f ds st _ h).elim,fun f ds st d st' h => (pn f ds st _ h).elim⟩⟩
  · unfold Pv.info at h
    split at h
    · rename_i hb
      cases h
      refine ht.get (Nat.zero_le _) ?_
      rcases Nat.lt_or_ge t pv.nty with h' | h'
      · exact h'
      · rw [Nat.ble_eq_true_of_le h'] at hb; cases hb
    · cases h
  · obtain ⟨h1,_,h3⟩ := (fi f x h).resolve_right (by rw [hp]; simp)
    refine ⟨h1,fun b hb => ?_⟩
    unfold fiOk at h3
    rw [hb] at h3
    simp only [Bool.and_eq_true,bne_iff_ne,ne_eq] at h3
    exact h3.1
  · have := List.all_eq_true.1 he t (by simpa using h)
    simpa using this
  · obtain ⟨_,_,h3⟩ := (fi f x h).resolve_right (by rw [hp]; simp)
    unfold fiOk at h3
    rw [hb] at h3
    simp only [Bool.and_eq_true] at h3
    exact h3.2
theorem sound {pv : Pv} {P : Program} (h : pv.Ok P /\ pv.codes /\ CfOk P pv (primF pv)) {n f : Nat} {ds : List D} {d : D} {st' : St} (hs : callD pv n f ds ⟨[],0,0⟩ = some (d,st')) {w : World} {Z : Nat -> Prop} (hZ : ∀ b,Z b -> b < w.heap.size) {us : List Value} (hl : ds.length = us.length)
    (hr : ∀ (i : Nat) c v,ds[i]? = some c -> us[i]? = some v -> IR w Z c v) : Calls P f us.toArray w fun e w' => ∃ v β' Z',e = .returned v /\ Evo (fun _ => False) w w' /\ VR w' (st'.x β' Z') d v := by
  have hsim : Sim w ⟨[],0,0⟩ (fun _ => none) Z := ⟨fun _ _ _ h => (by cases h),fun _ _ _ h => (by cases h),fun _ _ _ _ _ h => (by cases h),fun _ _ _ h => (by cases h),hZ,fun _ _ _ _ h => (by cases h),Nat.le_refl _,Nat.le_refl _⟩
  refine ((call_ok h.1 h.2.1 h.2.2 n).calls f ds _ d st' hs w _ Z us hsim hl fun i c v hc hv => .im _ _ (hr i c v hc hv)).mono fun e w' => ?_
  rintro ⟨v,β',Z',he,hn,hv,_⟩
  refine ⟨v,β',Z',he,hn.evo.mono ?_,hv⟩
  rintro b ⟨k,base,h,_⟩
  cases h
end Go.V
