/-
  Conversions and iterators; all operations.
-/
import Derived.Test.YteaeandommcdcaaGreatVn
namespace Go.V
set_option linter.unusedSimpArgs false
set_option linter.unusedVariables false
set_option linter.unusedSectionVars false
set_option linter.unnecessarySimpa false
open Go.RowKit

theorem bytes_run {P : Program} {f : Value → ByteArray → Sem (ForInStep ByteArray)} (hf : ∀ n s w, (f (.int .u8 n) s).run P w = .ok (.yield (s.push (UInt8.ofNat n.toNat))) w) : ∀ (cs : List D) (us : List Value) (bs : List UInt8) (acc : ByteArray) (w : World) (x : X), LR w x cs us → bytesD cs = some bs →
    (forIn us acc f).run P w = .ok (⟨acc.data ++ bs.toArray⟩) w
  | [], us, bs, acc, w, x, h, hb => by
    cases us with
    | nil => simp [bytesD] at hb; subst hb; simp
    | cons u us => have := h.len; simp at this
  | c :: cs, us, bs, acc, w, x, h, hb => by
    cases us with
    | nil => have := h.len; simp at this
    | cons u us =>
      unfold bytesD at hb
      split at hb
      · rename_i heq; cases heq
      · rename_i n l heq
        cases heq
        obtain ⟨r, hr, rfl⟩ := Option.map_eq_some_iff.1 hb
        have hu := vr_int (h.rel 0 _ u rfl rfl)
        subst hu
        have ht : LR w x cs us := ⟨by have := h.len; simpa using this, fun v hv => h.one v (List.mem_cons_of_mem _ hv), fun i c u hc hu => h.rel (i + 1) c u hc hu⟩
        have ih := bytes_run hf cs us r (acc.push (UInt8.ofNat n.toNat)) w x ht hr
        simp only [List.forIn_cons, Sem.run_bind, hf, Result.andThen_ok]
        rw [ih]
        congr 1
        apply ByteArray.ext
        simp
      · cases hb

section
variable {pv : Pv} {P : Program} (ok : pv.Ok P)
include ok

/-- does a conversion mark the memory that it is of? -/
def markB (pv : Pv) (s t : TypeId) : Bool :=
  match pv.und s, pv.und t with
  | some (.slice _), some (.slice _) => true
  | _, _ => false

omit ok in
theorem mark_ok {w : World} {st : St} {β : Nat → Option (Nat × Nat)} {Z : Nat → Prop} (h : Sim w st β Z) {k ver : Nat} {ar : Bool} {c : List D} (hm : st.mem? k ver = some (ar, c)) {b base : Nat} (hb : β k = some (b, base)) (hro : st.ro ≤ k) (o : Nat) :
    ∃ w', (markStringish ⟨b, o, none⟩).run P w = .ok () w' ∧ Nx w st β Z w' st β Z := by
  obtain ⟨cs, el, fr, h1, h2, h3, h4⟩ := h.row hm hb
  have hbl : b < w.heap.size := h.lt k b base hb
  have hsh : w.shape? b = some (el, cs.size) := by simp only [World.shape?, h1]
  refine ⟨w.freeze ⟨b, cs.size, none⟩ 1, ?_, ?_⟩
  · simp only [markStringish, Sem.run_bind, run_shape, hsh, Result.andThen_ok, run_freeze]
  · obtain ⟨lo, hi⟩ := fr
    have hf : ∃ fr' : Nat × Nat, FrOk cs.size fr' ∧ w.freeze ⟨b, cs.size, none⟩ 1 = wput w b (.cells cs el fr') := by
      refine ⟨if lo == hi then (cs.size, cs.size + 1) else (min lo cs.size, max hi (cs.size + 1)), ?_, ?_⟩
      · split
        · exact ⟨by simp, fun o ho => by simp only; omega⟩
        · rename_i hne
          have hne : lo ≠ hi := by simpa using hne
          have h5 := h3.1
          have h6 := h3.2 lo
          simp only at h5 h6
          refine ⟨by simp only; omega, fun o ho => ?_⟩
          simp only
          omega
      · simp only [World.freeze, wput, if_neg (show ¬ (1 = 0) by omega)]
        congr 1
        apply Array.ext_getElem?
        intro j
        rw [Array.getElem?_modify]
        by_cases hj : b = j
        · subst hj
          rw [if_pos rfl, h1, Array.getElem?_setIfInBounds_self_of_lt hbl]; rfl
        · rw [if_neg hj, Array.getElem?_setIfInBounds_ne hj]
    obtain ⟨fr', hf1, hf2⟩ := hf
    have hbx := (mem_spec hm).1
    have hx := Nx.writeF (a' := ar) (ver' := ver) (c' := c) (base' := base) h hm hb hro (Nat.le_refl _) (fun _ => rfl) h1 hf1 rfl h2 h4
    have e1 : (fun i => if i = k then some (b, base) else β i) = β := by
      funext i; split
      · rename_i e; subst e; exact hb.symm
      · rfl
    have e2 : ({ st with bs := st.bs.set k (.mem ver ar c) } : St) = st := by
      obtain ⟨bs, f, r⟩ := st
      simp only at hbx ⊢
      congr 1
      apply List.ext_getElem?
      intro j
      by_cases hj : k = j
      · subst hj; rw [List.getElem?_set_self (h.dom k b base hb), hbx]
      · rw [List.getElem?_set_ne hj]
    rw [e1, e2] at hx
    rw [hf2]; exact hx

theorem conv_ok {w : World} {st st' : St} {β : Nat → Option (Nat × Nat)} {Z : Nat → Prop} (h : Sim w st β Z) {s t : Nat} {d r : D} {u : Value} (hu : VR w (st.x β Z) d u) (hs : convD pv s t d st = some (r, st')) :
    ∃ z w' β', (convert s t u).run P w = .ok z w' ∧ Nx w st β Z w' st' β' Z ∧ VR w' (st'.x β' Z) r z ∧ (markB pv s t = false → Quiet w w') := by
  unfold convD at hs
  split at hs
  · rename_i sd k k' n h1 h2
    cases hs
    rw [vr_int hu]
    exact ⟨_, w, β, by simp [convert, run_und ok h1, run_und ok h2, Conv.intToInt]; rfl, Nx.same h, by rw [wrapD_eq]; exact .im _ _ (.int _ _), fun _ => Quiet.refl _⟩
  · rename_i sd k n h1 h2
    cases hs
    rw [vr_int hu]
    refine ⟨.string (Utf8.encode n), w, β, by cases sd <;> simp [convert, run_und ok h1, run_und ok h2, Conv.intToString], Nx.same h, .im _ _ ?_, fun _ => Quiet.refl _⟩
    have := IR.str (w := w) (Z := (st.x β Z).Z) (Utf8.encode n).data.toList
    simpa using this
  · rename_i sd l h1 h2
    cases hs
    rw [vr_str hu]
    exact ⟨_, w, β, by cases sd <;> simp [convert, run_und ok h1, run_und ok h2] <;> rfl, Nx.same h, .im _ _ (.str _), fun _ => Quiet.refl _⟩
  · rename_i sd e l h1 h2
    split at hs
    · rename_i he
      split at hs
      · rename_i hlen
        cases hs
        rw [vr_str hu]
        have hcut := cap_ge l.length 0 e (w.tape w.drawn (.appendCap l.length 0 e))
        generalize hq : (Question.appendCap l.length 0 e).cut (w.tape w.drawn (.appendCap l.length 0 e)) = cap at hcut
        have hsz : (⟨l.toArray⟩ : ByteArray).size = l.length := by simp [ByteArray.size]
        have hS : Nx w st β Z w.drew st β Z := Nx.still h rfl rfl rfl rfl
        have hcells : ((l.map fun b => Value.int .u8 b.toNat).toArray ++ Array.replicate (cap - l.length) (Value.int .u8 0)).size = cap := by simp; omega
        have hfz : ∀ c : Array Value, (w.drew.alloc (.cells c e)).freeze ⟨w.heap.size, c.size, none⟩ 1 = { w.drew with heap := w.heap.push (.cells c e (c.size, c.size + 1)) } := by
          intro c
          simp only [World.freeze, World.alloc, World.drew]
          simp only [if_neg (show ¬ (1 = 0) by omega)]
          congr 1
          apply Array.ext_getElem?
          intro j
          rw [Array.getElem?_modify]
          by_cases hj : w.heap.size = j
          · subst hj; simp
          · rw [if_neg hj, Array.getElem?_push, Array.getElem?_push, if_neg (fun e => hj e.symm), if_neg (fun e => hj e.symm)]
        obtain ⟨hx, x1, x2, x3⟩ := Nx.push_mem (w' := { w.drew with heap := w.heap.push (.cells ((l.map fun b => Value.int .u8 b.toNat).toArray ++ Array.replicate (cap - l.length) (Value.int .u8 0)) e (cap, cap + 1)) }) hS.sim true (l.map fun x => .int .u8 x.toNat)
          ((l.map fun b => Value.int .u8 b.toNat).toArray ++ Array.replicate (cap - l.length) (Value.int .u8 0)) e (cap, cap + 1) rfl rfl rfl rfl (by rw [hcells]; simpa using hcut) ⟨by simp, fun o ho => by rw [hcells] at ho; simp; omega⟩ (fun j d hd => by
            obtain ⟨y, hy1, hy2, hy3⟩ := (bytes_lr w.drew (st.x β Z) l).at_ hd
            refine ⟨y, ?_, hy2, hy3⟩
            have hlt : j < (l.map fun b => Value.int .u8 b.toNat).length := by
              rcases Nat.lt_or_ge j (l.map fun b => Value.int .u8 b.toNat).length with h' | h'
              · exact h'
              · rw [List.getElem?_eq_none h'] at hy1; cases hy1
            rw [Array.getElem?_append_left (by simpa using hlt)]
            simpa using hy1)
        refine ⟨.slice (some ⟨w.heap.size, 0, none⟩) l.length cap, _, _, ?_, hS.trans hx, win_fresh x2 x3 x1 hcut (by rw [hcells]; omega), fun _ => Quiet.push rfl⟩
        have hrun : (Conv.stringToBytes e ⟨l.toArray⟩).run P w = .ok (.slice (some ⟨w.heap.size, 0, none⟩) l.length cap) { w.drew with heap := w.heap.push (.cells ((l.map fun b => Value.int .u8 b.toNat).toArray ++ Array.replicate (cap - l.length) (Value.int .u8 0)) e (cap, cap + 1)) } := by
          have hel : ((⟨l.toArray⟩ : ByteArray).data.map fun b => Value.int .u8 b.toNat) = (l.map fun b => Value.int .u8 b.toNat).toArray := by simp
          simp only [Conv.stringToBytes, Sem.run_bind, run_choose, Question.forced, Bool.false_eq_true, if_false, Result.andThen_ok, hsz, hq, hel, newRow, run_newObj, Sem.run_pure, markStringish, run_shape]
          have hshape : (w.drew.alloc (.cells ((l.map fun b => Value.int .u8 b.toNat).toArray ++ Array.replicate (cap - l.length) (Value.int .u8 0)) e)).shape? w.heap.size = some (e, cap) := by
            simp only [World.shape?, World.alloc, World.drew]
            rw [Array.getElem?_push, if_pos rfl]
            simp [hcells]
          have ha : ({ heap := w.heap.push (Obj.cells ((l.map fun b => Value.int .u8 b.toNat).toArray ++ Array.replicate (cap - l.length) (Value.int .u8 0)) e), tape := w.tape, drawn := w.drawn + 1, os := w.os, output := w.output } : World) = w.drew.alloc (.cells ((l.map fun b => Value.int .u8 b.toNat).toArray ++ Array.replicate (cap - l.length) (Value.int .u8 0)) e) := rfl
          rw [ha]
          simp only [hshape, Sem.run_bind, run_freeze, Result.andThen_ok, Sem.run_pure]
          have := hfz ((l.map fun b => Value.int .u8 b.toNat).toArray ++ Array.replicate (cap - l.length) (Value.int .u8 0))
          rw [hcells] at this
          rw [this]
        cases sd <;> simp only [convert, Sem.run_bind, run_und ok h1, run_und ok h2, Result.andThen_ok, run_und ok he, hrun]
      · cases hs
    · cases hs
  · rename_i e' e k ver off len sz h1 h2
    split at hs
    · rename_i q he hm
      obtain ⟨ar, c⟩ := q
      split at hs
      · rename_i hck
        obtain ⟨hst, hlen, hcw⟩ := hck
        have hst := Nat.eq_of_beq_eq_true hst
        subst hst
        cases hs
        obtain ⟨a, cap, rfl, hc, hk, _, hat⟩ := vr_win hu
        obtain ⟨b, base, sz', hb, _, had⟩ := hat (mem_spec hm).2
        rcases had with rfl | ⟨rfl, _⟩
        · omega
        obtain ⟨w', m1, m2⟩ := mark_ok (P := P) h hm hb (canW_ro hcw) (base + off)
        refine ⟨_, w', β, ?_, m2, hu.mono m2.keeps, fun e => ?_⟩
        · rw [h1] at h2; cases h2
          simp only [convert, Sem.run_bind, run_und ok h1, Result.andThen_ok, run_und ok he, beq_self_eq_true, m1, Sem.run_pure]
        · rw [h1] at h2; cases h2
          simp [markB, h1] at e
      · cases hs
    · cases hs
  · rename_i dd o1 o2 d4 e h1 h2 hn1 hn2
    split at hs
    · rename_i n cs he hrow
      split at hs
      · cases hs
      · rename_i hns
        split at hs
        · rename_i hl
          obtain ⟨bs, hb, hr⟩ := Option.map_eq_some_iff.1 hs
          cases hr
          obtain ⟨hlen, hcells⟩ := row_ok (P := P) h hu hrow
          obtain ⟨us, u1, u2⟩ := hcells 1 n (Nat.le_refl _) (by omega)
          rw [Nat.mul_one, ← hl, List.take_length] at u2
          refine ⟨.string ⟨bs.toArray⟩, w, β, ?_, Nx.same h, .im _ _ (.str _), fun _ => Quiet.refl _⟩
          have hsl : ∃ a q c, u = .slice a q c := by
            cases dd with
            | sl es => obtain ⟨_, _, e, _⟩ := vr_sl hu; exact ⟨_, _, _, e⟩
            | nul => exact ⟨_, _, _, vr_nul hu⟩
            | win k v o l s => obtain ⟨_, _, e, _⟩ := vr_win hu; exact ⟨_, _, _, e⟩
            | str l => exact absurd rfl (hns l)
            | _ => simp [rowD] at hrow
          obtain ⟨a, q, c, rfl⟩ := hsl
          have hq : q = n := by simp [Builtin.lenOf] at hlen; exact hlen
          subst hq
          have hcv : (convert s t (.slice a q c)).run P w = (Conv.bytesToString (.slice a q c)).run P w := by
            simp [convert, run_und ok h1, run_und ok h2, run_und ok he]
          rw [hcv]
          cases a with
          | none =>
            have hcs : us = [] := by
              simp only [Builtin.firstCells, Sem.run_pure, Result.ok.injEq] at u1
              have := u1.1
              cases us <;> simp at this ⊢
            subst hcs
            have : cs = [] := List.length_eq_zero_iff.1 (by have := u2.len; simpa using this)
            subst this
            simp [bytesD] at hb; subst hb
            rfl
          | some a =>
            simp only [Builtin.firstCells, Nat.mul_one] at u1
            simp only [Conv.bytesToString, Sem.run_bind, u1, Result.andThen_ok, List.forIn_toArray]
            rw [bytes_run (P := P) (fun n s w => by simp) cs us bs .empty w _ u2 hb]
            simp
        · cases hs
    · cases hs
  · cases hs

omit ok in
/-- an object that is no row turns in place -/
theorem Nx.obj {w : World} {st : St} {β : Nat → Option (Nat × Nat)} {Z : Nat → Prop} (h : Sim w st β Z) {k b : Nat} (hβ : β k = some (b, 0)) (hro : st.ro ≤ k) {o o' : Obj} {bx bx' : Box} (hbx : st.bs[k]? = some bx) (hw : w.heap[b]? = some o) (hv : boxVer bx' = boxVer bx)
    (hrs : ∀ w1 : World, w1.heap[b]? = some o' → rowSize w1 b = rowSize w b) (hok : ∀ x', BoxOk (wput w b o') x' b 0 bx') : Nx w st β Z (wput w b o') { st with bs := st.bs.set k bx' } β Z := by
  have hbl := h.lt k b 0 hβ
  have hkl := h.dom k b 0 hβ
  have hne : ∀ i, i ≠ b → (wput w b o').heap[i]? = w.heap[i]? := by
    intro i hi
    simp only [wput]
    rw [Array.getElem?_setIfInBounds_ne (by omega)]
  have heq : (wput w b o').heap[b]? = some o' := by
    simp only [wput]
    rw [Array.getElem?_setIfInBounds_self_of_lt hbl]
  have hverk : ∀ i, ({ st with bs := st.bs.set k bx' } : St).ver i = st.ver i := by
    intro i
    simp only [St.ver]
    by_cases hik : i = k
    · subst hik; rw [List.getElem?_set_self hkl, hbx]; exact hv
    · rw [List.getElem?_set_ne (by omega)]
  have hkp : Keeps w (st.x β Z) (wput w b o') (({ st with bs := st.bs.set k bx' } : St).x β Z) := by
    refine ⟨fun i p hp => ⟨p, hp⟩, fun i hi => ⟨hi, hne i fun e => h.zd k b 0 hβ (e ▸ hi)⟩, fun i q p hi hq => ⟨q, ?_, Nat.le_refl _⟩, fun i q hq hq' i' y hy => ⟨hy, ?_⟩⟩
    · have := hverk i; show st.ver i = some q; rw [← this]; exact hq
    · by_cases e : i' = b
      · subst e; exact hrs _ heq
      · exact rowSize_eq (hne i' e)
  refine ⟨⟨?_, ?_, h.inj, h.zd, ?_, ?_, ?_, ?_⟩, hkp, ⟨rfl, rfl, rfl, by simp [wput], fun i _ hn => hne i fun e => hn ⟨k, 0, e ▸ hβ, hro⟩⟩,
    fun i q y hq => .inl ⟨y, hq⟩, fun _ hz => .inl hz, by simp, rfl, rfl, ?_, fun i _ h0 => by
      have : i ≠ k := fun e => by subst e; rw [hβ] at h0; cases h0
      dsimp only
      rw [List.getElem?_set_ne (by omega)]
      exact ⟨h0, rfl⟩⟩
  · intro i q y hq; simp; exact h.dom i q y hq
  · intro i q y hq; simp only [wput, Array.size_setIfInBounds]; exact h.lt i q y hq
  · intro i hi; simp only [wput, Array.size_setIfInBounds]; exact h.zl i hi
  · intro i q y bx2 hq hbx2
    try dsimp only at hbx2
    by_cases hik : i = k
    · subst hik
      rw [List.getElem?_set_self hkl] at hbx2; cases hbx2
      rw [hβ] at hq; cases hq
      exact hok _
    · rw [List.getElem?_set_ne (by omega)] at hbx2
      exact (h.box i q y bx2 hq hbx2).keep hkp (hne q fun e => hik (h.inj i k q _ _ hq (e ▸ hβ)))
  · have := h.flr; simp; omega
  · have := h.ro; simp; omega
  · intro i hi
    dsimp only
    rw [List.getElem?_set_ne (by omega)]
    exact ⟨rfl, rfl⟩

omit ok in
theorem find_now {kk : IntKind} {n : Int} {kt : IntKind} : ∀ {es : List (D × D)} {en : List MapEntry} {i : Nat} {r : Option (Nat × D)}, mapFind kk n es i = some r → en.length = es.length →
    (∀ (j : Nat) p, es[j]? = some p → ∃ kk n vk x e, p = (.int kk n, .int vk x) ∧ en[j]? = some e ∧ e.key = .int kk n ∧ e.val = .int vk x) →
    match r with
    | none => Instr.findNow (.int kt) (.int kk n) en i = some none
    | some (q, d) => ∃ v, Instr.findNow (.int kt) (.int kk n) en i = some (some (q, v)) ∧ i ≤ q ∧ q - i < es.length ∧ (∃ vk x, d = .int vk x ∧ v = .int vk x) ∧ ∃ e, en[q - i]? = some e ∧ e.key = .int kk n
  | [], en, i, r, h, hl, _ => by
    simp only [mapFind] at h; cases h
    have : en = [] := List.length_eq_zero_iff.1 hl
    subst this; rfl
  | (a, d) :: es, en, i, r, h, hl, hr => by
    obtain ⟨kk', m, vk, x, e, hp, he, hk, hv⟩ := hr 0 _ rfl
    cases hp
    obtain ⟨e0, en, rfl⟩ : ∃ e0 en', en = e0 :: en' := by cases en with | nil => simp at hl | cons a b => exact ⟨a, b, rfl⟩
    simp only [List.getElem?_cons_zero, Option.some.injEq] at he
    subst he
    simp only [mapFind] at h
    split at h
    · rename_i hkk
      subst hkk
      split at h
      · rename_i hnm
        cases h
        have hnm : n = m := by simpa using hnm
        subst hnm
        refine ⟨.int vk x, ?_, Nat.le_refl _, by simp, ⟨vk, x, rfl, rfl⟩, e0, by simp, hk⟩
        simp only [Instr.findNow, hk, Instr.sameNow, if_true, beq_self_eq_true, hv]
      · rename_i hnm
        have ih := find_now (kt := kt) (en := en) h (by simpa using hl) (fun j p hj => by simpa using hr (j + 1) p (by simpa using hj))
        have hf : Instr.findNow (.int kt) (.int kk n) (e0 :: en) i = Instr.findNow (.int kt) (.int kk n) en (i + 1) := by
          have : (n == m) = false := by simpa using hnm
          simp only [Instr.findNow, hk, Instr.sameNow, if_true, this]
        cases r with
        | none => simp only at ih ⊢; rw [hf]; exact ih
        | some q =>
          obtain ⟨q, d'⟩ := q
          simp only at ih ⊢
          obtain ⟨v, h1, h2, h3, h4, e, h5, h6⟩ := ih
          refine ⟨v, by rw [hf]; exact h1, by omega, by simp; omega, h4, e, ?_, h6⟩
          rw [show q - i = (q - (i + 1)) + 1 by omega]
          simpa using h5
    · cases h

theorem makeMap_ok {w : World} {st st' : St} {β : Nat → Option (Nat × Nat)} {Z : Nat → Prop} (h : Sim w st β Z) {t : Nat} {d : Option D} {u : Option Value} {r : D} (hn : d = none ↔ u = none) (hu : ∀ a v, d = some a → u = some v → VR w (st.x β Z) a v) (hs : makeMapD pv t d st = some (r, st')) :
    ∃ z w' β', (Instr.makeMap t u).run P w = .ok z w' ∧ Nx w st β Z w' st' β' Z ∧ VR w' (st'.x β' Z) r z ∧ Quiet w w' := by
  have hx := Nx.push (w' := w.alloc (.map #[] 0)) h (.map #[] 0) rfl rfl rfl rfl (.map []) (fun _ => ⟨rfl, #[], 0, by
    show (w.heap.push _)[w.heap.size]? = _
    simp, rfl, fun i p hp => by simp at hp⟩)
  have hv : VR (w.alloc (.map #[] 0)) ((st.push (.map [])).x (bpush β st.bs.length w.heap.size) Z) (.mp st.bs.length) (.map (some w.heap.size)) := by
    refine .mp _ _ ⟨_, by simp [St.x, bpush]; rfl⟩ fun _ => ⟨0, by simp [St.x, bpush]⟩
  unfold makeMapD at hs
  split at hs
  · cases hs
    have : u = none := hn.1 rfl
    subst this
    refine ⟨.map (some w.heap.size), _, _, ?_, hx, hv, Quiet.push rfl⟩
    simp only [Instr.makeMap, Sem.run_bind, Sem.run_pure, Result.andThen_ok, run_newObj]; rfl
  · rename_i kk n
    split at hs
    · rename_i kt e ht
      cases hs
      cases u with
      | none => have := hn.2 rfl; cases this
      | some v =>
        have := vr_int (hu _ v rfl rfl)
        subst this
        refine ⟨.map (some w.heap.size), _, _, ?_, hx, hv, Quiet.push rfl⟩
        simp only [Instr.makeMap, Sem.run_bind, run_und ok ht, asInt, asIntOf, Sem.run_pure, Result.andThen_ok, run_newObj]; rfl
    · cases hs
  · cases hs

theorem mapSet_ok {w : World} {st st' : St} {β : Nat → Option (Nat × Nat)} {Z : Nat → Prop} (h : Sim w st β Z) {t : Nat} {m key v : D} {um uk uv : Value} (hm : VR w (st.x β Z) m um) (hk : VR w (st.x β Z) key uk) (hv : VR w (st.x β Z) v uv) (hs : mapSetD pv t m key v st = some st') :
    ∃ w', (Instr.mapUpdate t um uk uv).run P w = .ok () w' ∧ Nx w st β Z w' st' β Z := by
  unfold mapSetD at hs
  split at hs
  · rename_i kt e k kk n vk x ht
    split at hs
    · rename_i ik es hkt hb
      split at hs
      · rename_i hcw
        obtain ⟨r, rfl, hat⟩ := vr_mp hm
        obtain ⟨base, hβ⟩ := hat (by simp [St.x, St.ver, hb, boxVer])
        have hβ : β k = some (r, base) := hβ
        have := vr_int hk; subst this
        have := vr_int hv; subst this
        obtain ⟨rfl, en, cl, h1, h2, h3⟩ := h.box k r base _ hβ hb
        have hl : en.toList.length = es.length := by simpa using h2
        have hck : ∀ m : Nat, (Instr.checkKey false (m + 1) kt (.int kk n)).run P w = .ok () w := by
          intro m
          unfold Instr.checkKey
          simp only [Sem.run_bind, run_und ok hkt, Result.andThen_ok, Sem.run_pure]
        have hget : (getObj r).run P w = .ok (.map en cl) w := by simp [getObj, Sem.run, h1]
        split at hs
        · rename_i q d hf
          cases hs
          obtain ⟨vv, g1, g2, g3, ⟨vk', x', rfl, rfl⟩, e0, g4, g5⟩ := find_now (kt := ik) (en := en.toList) hf hl (fun j p hj => by
            obtain ⟨a, b, c, d, e, q1, q2, q3⟩ := h3 j p hj
            exact ⟨a, b, c, d, e, q1, by simpa using q2, q3⟩)
          simp only [Nat.sub_zero] at g3 g4
          have g4' : en[q]? = some e0 := by simpa using g4
          have hql : q < en.size := (Array.getElem?_eq_some_iff.1 g4').1
          have hx := Nx.obj (o' := .map (en.modify q fun e => { e with key := .int kk n, val := .int vk x }) cl) (bx' := .map (es.set q (.int kk n, .int vk x))) h hβ (canW_ro hcw) hb h1 rfl (fun w1 hw1 => by simp [rowSize, hw1, h1]) fun x' => by
            refine ⟨rfl, _, cl, by simp only [wput]; rw [Array.getElem?_setIfInBounds_self_of_lt (h.lt k r 0 hβ)], by simp [h2], fun i p hp => ?_⟩
            rw [List.getElem?_set] at hp
            split at hp
            · rename_i hqi
              subst hqi
              try rw [if_pos (by omega)] at hp
              cases hp
              exact ⟨kk, n, vk, x, { e0 with key := .int kk n, val := .int vk x }, rfl, by rw [Array.getElem?_modify, if_pos rfl, g4']; rfl, rfl, rfl⟩
            · rename_i hqi
              obtain ⟨a, b, c, d, e, q1, q2, q3⟩ := h3 i p hp
              exact ⟨a, b, c, d, e, q1, by rw [Array.getElem?_modify, if_neg hqi]; exact q2, q3⟩
          refine ⟨_, ?_, hx⟩
          have hkey : ((en[q]?).map (·.key)).getD (.int kk n) = .int kk n := by rw [g4']; simpa using g5
          simp only [Instr.mapUpdate, Sem.run_bind, run_und ok ht, Result.andThen_ok, hget, hck 9999, Instr.findKey, run_und ok hkt, g1, Sem.run_pure, hkey, Instr.keyThatStays, Instr.sameBits, beq_self_eq_true, Bool.and_self, if_true]
          simp [setObj, Sem.run, wput, h1]
        · rename_i hf
          cases hs
          have g1 := find_now (kt := ik) (en := en.toList) hf hl (fun j p hj => by
            obtain ⟨a, b, c, d, e, q1, q2, q3⟩ := h3 j p hj
            exact ⟨a, b, c, d, e, q1, by simpa using q2, q3⟩)
          simp only at g1
          have hx := Nx.obj (o' := .map (en.push { key := .int kk n, val := .int vk x, born := cl }) (cl + 1)) (bx' := .map (es ++ [(.int kk n, .int vk x)])) h hβ (canW_ro hcw) hb h1 rfl (fun w1 hw1 => by simp [rowSize, hw1, h1]) fun x' => by
            refine ⟨rfl, _, cl + 1, by simp only [wput]; rw [Array.getElem?_setIfInBounds_self_of_lt (h.lt k r 0 hβ)], by simp [h2], fun i p hp => ?_⟩
            rw [List.getElem?_append] at hp
            split at hp
            · rename_i hi
              obtain ⟨a, b, c, d, e, q1, q2, q3⟩ := h3 i p hp
              exact ⟨a, b, c, d, e, q1, by rw [Array.getElem?_push, if_neg (by omega)]; exact q2, q3⟩
            · rename_i hi
              have hi2 : i - es.length = 0 := by
                rcases Nat.eq_zero_or_pos (i - es.length) with h' | h'
                · exact h'
                · rw [List.getElem?_eq_none (by simp; omega)] at hp; cases hp
              rw [hi2] at hp
              simp at hp
              subst hp
              exact ⟨kk, n, vk, x, _, rfl, by rw [Array.getElem?_push, if_pos (by omega)], rfl, rfl⟩
          refine ⟨_, ?_, hx⟩
          simp only [Instr.mapUpdate, Sem.run_bind, run_und ok ht, Result.andThen_ok, hget, hck 9999, Instr.findKey, run_und ok hkt, g1, Sem.run_pure]
          simp [setObj, Sem.run, wput, h1]
        · cases hs
      · cases hs
    · cases hs
  · cases hs

theorem lookup_ok {w : World} {st : St} {β : Nat → Option (Nat × Nat)} {Z : Nat → Prop} (h : Sim w st β Z) {t : Nat} {m key r : D} {um uk : Value} (hm : VR w (st.x β Z) m um) (hk : VR w (st.x β Z) key uk) (hs : lookupD pv t m key st = some r) :
    ∃ z, (Instr.lookup t um uk false).run P w = .ok z w ∧ VR w (st.x β Z) r z := by
  unfold lookupD at hs
  split at hs
  · rename_i kt e k kk n ht
    split at hs
    · rename_i ik es hkt hb
      obtain ⟨a, rfl, hat⟩ := vr_mp hm
      obtain ⟨base, hβ⟩ := hat (by simp [St.x, St.ver, hb, boxVer])
      have hβ : β k = some (a, base) := hβ
      have := vr_int hk; subst this
      obtain ⟨rfl, en, cl, h1, h2, h3⟩ := h.box k a base _ hβ hb
      have hl : en.toList.length = es.length := by simpa using h2
      have hck : ∀ b, (Instr.checkKey b 10000 kt (.int kk n)).run P w = .ok () w := by
        intro b
        unfold Instr.checkKey
        simp only [Sem.run_bind, run_und ok hkt, Result.andThen_ok, Sem.run_pure]
      have hget : (getObj a).run P w = .ok (.map en cl) w := by simp [getObj, Sem.run, h1]
      split at hs
      · rename_i q d hf
        cases hs
        obtain ⟨vv, g1, g2, g3, ⟨vk', x', rfl, rfl⟩, e0, g4, g5⟩ := find_now (kt := ik) (en := en.toList) hf hl (fun j p hj => by
          obtain ⟨a, b, c, d, e, q1, q2, q3⟩ := h3 j p hj
          exact ⟨a, b, c, d, e, q1, by simpa using q2, q3⟩)
        refine ⟨.int vk' x', ?_, .im _ _ (.int _ _)⟩
        simp only [Instr.lookup, Sem.run_bind, run_und ok ht, Result.andThen_ok, hget, Sem.run_pure, hck, Instr.findKey, run_und ok hkt, g1]
        rfl
      · rename_i hf
        obtain ⟨z, hz, hzz⟩ := run_zero ok hs w
        have g1 := find_now (kt := ik) (en := en.toList) hf hl (fun j p hj => by
          obtain ⟨a, b, c, d, e, q1, q2, q3⟩ := h3 j p hj
          exact ⟨a, b, c, d, e, q1, by simpa using q2, q3⟩)
        simp only at g1
        refine ⟨z, ?_, by rw [hzz]; exact .im _ _ (ofVal_ir _ _ z)⟩
        simp only [Instr.lookup, Sem.run_bind, run_und ok ht, Result.andThen_ok, hget, Sem.run_pure, hck, Instr.findKey, run_und ok hkt, g1, hz]
        rfl
      · cases hs
    · cases hs
  · cases hs

theorem range_ok {w : World} {st st' : St} {β : Nat → Option (Nat × Nat)} {Z : Nat → Prop} (h : Sim w st β Z) {t : Nat} {d r : D} {u : Value} (hu : VR w (st.x β Z) d u) (hs : rangeD pv t d st = some (r, st')) :
    ∃ z w' β', (Instr.range t u).run P w = .ok z w' ∧ Nx w st β Z w' st' β' Z ∧ VR w' (st'.x β' Z) r z ∧ Quiet w w' := by
  unfold rangeD at hs
  split at hs
  · rename_i l ht
    cases hs
    rw [vr_str hu]
    have hx := Nx.push (w' := w.alloc (.stringIter ⟨l.toArray⟩ 0)) h (.stringIter ⟨l.toArray⟩ 0) rfl rfl rfl rfl (.iter l 0) (fun _ => ⟨rfl, by
      show (w.heap.push _)[w.heap.size]? = _
      simp⟩)
    refine ⟨.pointer (some ⟨w.heap.size, 0, none⟩), _, _, ?_, hx, ?_, Quiet.push rfl⟩
    · simp only [Instr.range, Sem.run_bind, run_und ok ht, Result.andThen_ok, Sem.run_pure, run_newObj]; rfl
    · refine .ptr _ _ _ _ ⟨_, by simp [St.x, bpush]; rfl⟩ (fun c _ => Nat.zero_le _) fun _ => ⟨w.heap.size, 0, by simp [St.x, bpush], rfl⟩
  · cases hs

omit ok in
theorem next_ok {w : World} {st st' : St} {β : Nat → Option (Nat × Nat)} {Z : Nat → Prop} (h : Sim w st β Z) {b : Bool} {ty : TypeId} {d r : D} {u : Value} (hu : VR w (st.x β Z) d u) (hs : nextD d b st = some (r, st')) :
    ∃ z w', (Instr.next u b ty).run P w = .ok z w' ∧ Nx w st β Z w' st' β Z ∧ VR w' (st'.x β Z) r z := by
  unfold nextD at hs
  split at hs
  · rename_i k
    split at hs
    · rename_i l pos hb
      obtain ⟨a, rfl, hk, hat⟩ := vr_pointer hu
      have hver : st.ver k = some 0 := by simp [St.ver, hb, boxVer]
      obtain ⟨b, base, hβ0, rfl⟩ := hat hver
      have hβ : β k = some (b, base) := hβ0
      clear hβ0
      obtain ⟨rfl, hheap⟩ := h.box k b base _ hβ hb
      have hbl := h.lt k b 0 hβ
      have hsz : (⟨l.toArray⟩ : ByteArray).size = l.length := by simp [ByteArray.size]
      split at hs
      · rename_i hp
        split at hs
        · rename_i hcw
          cases hs
          have hkl := h.dom k b 0 hβ
          let w' : World := { w with heap := w.heap.setIfInBounds b (.stringIter ⟨l.toArray⟩ (pos + (Utf8.decode ⟨l.toArray⟩ pos).2)) }
          have hne : ∀ i, i ≠ b → w'.heap[i]? = w.heap[i]? := by
            intro i hi
            show (w.heap.setIfInBounds b _)[i]? = _
            rw [Array.getElem?_setIfInBounds_ne (by omega)]
          have heq : w'.heap[b]? = some (.stringIter ⟨l.toArray⟩ (pos + (Utf8.decode ⟨l.toArray⟩ pos).2)) := by
            show (w.heap.setIfInBounds b _)[b]? = _
            rw [Array.getElem?_setIfInBounds_self_of_lt hbl]
          have hverk : ∀ i, ({ st with bs := st.bs.set k (.iter l (pos + (Utf8.decode ⟨l.toArray⟩ pos).2)) } : St).ver i = st.ver i := by
            intro i
            simp only [St.ver]
            by_cases hik : i = k
            · subst hik; rw [List.getElem?_set_self hkl, hb]; rfl
            · rw [List.getElem?_set_ne (by omega)]
          have hkp : Keeps w (st.x β Z) w' (({ st with bs := st.bs.set k (.iter l (pos + (Utf8.decode ⟨l.toArray⟩ pos).2)) } : St).x β Z) := by
            refine ⟨fun i p hp => ⟨p, hp⟩, fun i hi => ⟨hi, hne i fun e => h.zd k b 0 hβ (e ▸ hi)⟩, fun i q p hi hq => ⟨q, ?_, Nat.le_refl _⟩, fun i q hq hq' i' y hy => ⟨hy, ?_⟩⟩
            · have := hverk i; show st.ver i = some q; rw [← this]; exact hq
            · by_cases e : i' = b
              · subst e; simp [rowSize, heq, hheap]
              · exact rowSize_eq (hne i' e)
          refine ⟨.tuple #[.bool true, .int .i64 pos, .int .i32 (Utf8.decode ⟨l.toArray⟩ pos).1], w', ?_, ⟨⟨?_, ?_, h.inj, h.zd, ?_, ?_, ?_, ?_⟩, hkp, ⟨rfl, rfl, rfl, by simp [w'], fun i _ hn => hne i fun e => hn ⟨k, 0, e ▸ hβ, canW_ro hcw⟩⟩,
            fun i q y hq => .inl ⟨y, hq⟩, fun _ hz => .inl hz, by simp, rfl, rfl, ?_, fun i _ h0 => by
              have : i ≠ k := fun e => by subst e; rw [hβ] at h0; cases h0
              dsimp only
              rw [List.getElem?_set_ne (by omega)]
              exact ⟨h0, rfl⟩⟩, ?_⟩
          · simp only [Instr.next, Sem.run_bind, getObj, setObj]
            simp [Sem.run, hheap, hsz, hp, goInt, w']
          · intro i q y hq; simp; exact h.dom i q y hq
          · intro i q y hq; simp only [w', Array.size_setIfInBounds]; exact h.lt i q y hq
          · intro i hi; simp only [w', Array.size_setIfInBounds]; exact h.zl i hi
          · intro i q y bx hq hbx
            try dsimp only at hbx
            by_cases hik : i = k
            · subst hik
              rw [List.getElem?_set_self hkl] at hbx; cases hbx
              rw [hβ] at hq; cases hq
              exact ⟨rfl, heq⟩
            · rw [List.getElem?_set_ne (by omega)] at hbx
              exact (h.box i q y bx hq hbx).keep hkp (hne q fun e => hik (h.inj i k q _ _ hq (e ▸ hβ)))
          · have := h.flr; simp; omega
          · have := h.ro; simp; omega
          · intro i hi
            have := canW_ro hcw
            dsimp only
            rw [List.getElem?_set_ne (by omega)]
            exact ⟨rfl, rfl⟩
          · refine .im _ _ (.tup _ [.bool true, .int .i64 pos, .int .i32 (Utf8.decode ⟨l.toArray⟩ pos).1] rfl fun i c v hc hv => ?_)
            match i with
            | 0 => simp at hc hv; subst hc; subst hv; exact .bool _
            | 1 => simp at hc hv; subst hc; subst hv; exact .int _ _
            | 2 => simp at hc hv; subst hc; subst hv; exact .int _ _
            | i + 3 => simp at hc
        · cases hs
      · rename_i hp
        cases hs
        refine ⟨.tuple #[.bool false], w, ?_, Nx.same h, .im _ _ (.tup _ [.bool false] rfl fun i c v hc hv => ?_)⟩
        · simp only [Instr.next, Sem.run_bind, getObj]
          simp [Sem.run, hheap, hsz, hp]
        · match i with
          | 0 => simp at hc hv; subst hc; subst hv; exact .bool _
          | i + 1 => simp at hc
    · cases hs
  · cases hs
end
end Go.V
