/-
  The operations that write: store, append, copy, make, conversions, iterators.
-/
import Derived.Test.YteaeandommcdcaaGreatVj
namespace Go.V
set_option linter.unusedSimpArgs false
set_option linter.unusedVariables false
set_option linter.unusedSectionVars false
set_option linter.unnecessarySimpa false
open Go.RowKit

/-- a box moves to a new block -/
theorem Nx.move {w w' : World} {st : St} {β : Nat → Option (Nat × Nat)} {Z : Nat → Prop} (h : Sim w st β Z) {k ver : Nat} {a a' : Bool} {c c' : List D} (hm : st.mem? k ver = some (a, c)) {b base : Nat} (hb : β k = some (b, base))
    (hro : st.ro ≤ k) {cs : Array Value} {el : TypeId} (hh : w'.heap = w.heap.push (.cells cs el (0, 0))) (ho : w'.os = w.os) (ht : w'.tape = w.tape) (hp : w'.output = w.output) (hl : c'.length ≤ cs.size)
    (hc : ∀ (j : Nat) d, c'[j]? = some d → ∃ u, cs[j]? = some u ∧ u.oneCell' = true ∧ VR w (st.x β Z) d u) :
    Nx w st β Z w' { st with bs := st.bs.set k (.mem (ver + 1) a' c') } (fun i => if i = k then some (w.heap.size, 0) else β i) Z := by
  obtain ⟨hbx, hver⟩ := mem_spec hm
  have hkl : k < st.bs.length := h.dom k b base hb
  have hold : ∀ i, i < w.heap.size → w'.heap[i]? = w.heap[i]? := by
    intro i hi; rw [hh, Array.getElem?_push, if_neg (by omega)]
  have heq : w'.heap[w.heap.size]? = some (.cells cs el (0, 0)) := by rw [hh]; simp
  have hsz : w'.heap.size = w.heap.size + 1 := by rw [hh, Array.size_push]
  have hverk : ∀ i, i ≠ k → ({ st with bs := st.bs.set k (.mem (ver + 1) a' c') } : St).ver i = st.ver i := by
    intro i hi; simp only [St.ver]; rw [List.getElem?_set_ne (by omega)]
  have hverk' : ({ st with bs := st.bs.set k (.mem (ver + 1) a' c') } : St).ver k = some (ver + 1) := by
    simp [St.ver, hkl, boxVer]
  have hk : Keeps w (st.x β Z) w' (({ st with bs := st.bs.set k (.mem (ver + 1) a' c') } : St).x (fun i => if i = k then some (w.heap.size, 0) else β i) Z) := by
    refine ⟨fun i p hp => ?_, fun i hi => ⟨hi, hold i (h.zl i hi)⟩, fun i q p hi hq => ?_, fun i q hq hq' i' y hy => ?_⟩
    · by_cases hik : i = k
      · subst hik; exact ⟨(w.heap.size, 0), by simp [St.x]⟩
      · exact ⟨p, by simp only [St.x] at hp ⊢; rw [if_neg hik]; exact hp⟩
    · by_cases hik : i = k
      · subst hik
        simp only [St.x] at hq ⊢
        rw [hverk'] at hq; cases hq
        exact ⟨ver, hver, by omega⟩
      · simp only [St.x] at hq ⊢
        rw [hverk i hik] at hq
        exact ⟨q, hq, Nat.le_refl _⟩
    · by_cases hik : i = k
      · subst hik
        simp only [St.x] at hq hq' hy ⊢
        rw [hverk'] at hq; cases hq
        rw [hver] at hq'; simp at hq'
      · simp only [St.x] at hy ⊢
        exact ⟨by rw [if_neg hik]; exact hy, rowSize_eq (hold i' (h.lt i i' y hy))⟩
  refine ⟨⟨?_, ?_, ?_, ?_, ?_, ?_, ?_, ?_⟩, hk, ⟨ho, ht, hp, by omega, fun i hi _ => hold i hi⟩, ?_, fun _ hz => .inl hz, by simp, rfl, rfl, ?_, fun i _ h0 => by
      by_cases e : i = k
      · subst e; rw [hb] at h0; cases h0
      · simp only [if_neg e]; rw [List.getElem?_set_ne (by omega)]; exact ⟨h0, rfl⟩⟩
  · intro i q y hq
    simp only [List.length_set]
    try dsimp only at hq
    split at hq
    · rename_i e; subst e; exact hkl
    · exact h.dom i q y hq
  · intro i q y hq
    try dsimp only at hq
    split at hq
    · cases hq; omega
    · have := h.lt i q y hq; omega
  · intro i i' q y y' h1 h2
    try dsimp only at h1 h2
    split at h1 <;> split at h2
    · omega
    · rename_i e _; cases h1; have := h.lt _ _ _ h2; omega
    · rename_i _ e; cases h2; have := h.lt _ _ _ h1; omega
    · exact h.inj i i' q y y' h1 h2
  · intro i q y hq hz
    try dsimp only at hq
    split at hq
    · cases hq; have := h.zl _ hz; omega
    · exact h.zd i q y hq hz
  · intro i hz; have := h.zl i hz; omega
  · intro i q y bx hq hbx'
    try dsimp only at hq hbx'
    split at hq
    · rename_i e; subst e; cases hq
      rw [List.getElem?_set_self hkl] at hbx'
      cases hbx'
      refine ⟨cs, el, (0, 0), heq, by omega, FrOk.zero _, fun j d hd => ?_⟩
      obtain ⟨u, hu1, hu2, hu3⟩ := hc j d hd
      exact ⟨u, by rw [Nat.zero_add]; exact hu1, hu2, hu3.mono hk⟩
    · rename_i e
      rw [List.getElem?_set_ne (by omega)] at hbx'
      exact (h.box i q y bx hq hbx').keep hk (hold q (h.lt i q y hq))
  · have := h.flr; simp; omega
  · have := h.ro; simp; omega
  · intro i q y hq
    try dsimp only at hq
    split at hq
    · cases hq; exact .inr (Nat.le_refl _)
    · exact .inl ⟨y, hq⟩
  · intro i hi
    dsimp only
    rw [List.getElem?_set_ne (by omega), if_neg (by omega)]
    exact ⟨rfl, rfl⟩

theorem canW_ro {st : St} {k r : Nat} (h : st.canW k r = true) : st.ro ≤ k := by
  simp only [St.canW, Bool.and_eq_true, decide_eq_true_eq] at h; exact h.1

/-- writing cells over, in V and in the model -/
theorem wr_ok {P : Program} {w : World} {st st' : St} {β : Nat → Option (Nat × Nat)} {Z : Nat → Prop} (h : Sim w st β Z) {k ver off : Nat} {ds : List D} {us : List Value} (hu : LR w (st.x β Z) ds us) (hw : st.wr k ver off ds = some st')
    {b base : Nat} (hb : β k = some (b, base)) {a : Addr} (ha : us = [] ∨ a = ⟨b, base + off, none⟩) : ∃ w', (storeCells a us).run P w = .ok () w' ∧ ∃ β', Nx w st β Z w' st' β' Z ∧ β' = β := by
  unfold St.wr at hw
  split at hw
  · rename_i ar c hm
    split at hw
    · rename_i hc
      cases hw
      obtain ⟨cs, el, fr, h1, h2, h3, h4⟩ := h.row hm hb
      have hlen := hu.len
      have hx : (fun i => if i = k then some (b, base) else β i) = β := by
        funext i; split
        · rename_i e; subst e; exact hb.symm
        · rfl
      have key : ∀ cs' : Array Value, cs'.size = cs.size → (∀ j, cs'[base + j]? = if off ≤ j ∧ j < off + us.length then us[j - off]? else cs[base + j]?) →
          Nx w st β Z (wput w b (.cells cs' el fr)) { st with bs := st.bs.set k (.mem ver ar (setMany c off ds)) } β Z := by
        intro cs' hs hg
        have := Nx.write (a' := ar) (ver' := ver) (c' := setMany c off ds) (base' := base) h hm hb (canW_ro hc.2) (Nat.le_refl _) (fun _ => rfl) h1 hs (by rw [setMany_length]; omega) (fun j d hd => by
          rw [setMany_get ds c off j hc.1] at hd
          rw [hg j]
          split at hd
          · rename_i hj
            rw [if_pos (by omega)]
            exact hu.at_ hd
          · rename_i hj
            rw [if_neg (by omega)]
            exact h4 j d hd)
        rwa [hx] at this
      rcases Nat.eq_zero_or_pos us.length with h0 | h0
      · have hus : us = [] := List.length_eq_zero_iff.1 h0
        subst hus
        have hb' : b < w.heap.size := h.lt k b base hb
        have hsame : wput w b (.cells cs el fr) = w := by
          simp only [wput]
          have : w.heap.setIfInBounds b (.cells cs el fr) = w.heap := by
            apply Array.ext_getElem?
            intro j
            by_cases hj : b = j
            · subst hj; rw [Array.getElem?_setIfInBounds_self_of_lt hb', h1]
            · rw [Array.getElem?_setIfInBounds_ne hj]
          rw [this]
        have := key cs rfl (fun j => by rw [if_neg (by simp only [List.length_nil, Nat.add_zero]; omega)])
        rw [hsame] at this
        exact ⟨w, rfl, β, this, rfl⟩
      · rcases ha with rfl | rfl
        · simp at h0
        · have hrun := run_storeRow (P := P) us 0 (base + off) w cs h1 (by omega) h3.2 hu.one
          refine ⟨_, hrun, β, ?_, rfl⟩
          cases us with
          | nil => simp at h0
          | cons u us =>
            refine key _ (setV_size _ _ _) fun j => ?_
            rw [setV_get _ _ _ _ (by omega)]
            by_cases hj : off ≤ j ∧ j < off + (u :: us).length
            · rw [if_pos hj, if_pos (by omega)]; congr 1 <;> omega
            · rw [if_neg hj, if_neg (by omega)]
    · cases hw
  · cases hw

section
variable {pv : Pv} {P : Program} (ok : pv.Ok P)
include ok

theorem store_ok {w : World} {st st' : St} {β : Nat → Option (Nat × Nat)} {Z : Nat → Prop} (h : Sim w st β Z) {t : Nat} {d e : D} {u v : Value} (hu : VR w (st.x β Z) d u) (hv : VR w (st.x β Z) e v) (hs : storeD pv t d e st = some st') :
    ∃ w', (Instr.storeAt t u v).run P w = .ok () w' ∧ Nx w st β Z w' st' β Z := by
  unfold storeD at hs
  split at hs
  · rename_i k ver off cs hcs
    split at hs
    · rename_i hsz
      obtain ⟨a, rfl, hk, hat⟩ := vr_pointer hu
      have hc := cells_ok hv hcs
      have hver : st.ver k = some ver := by
        unfold St.wr at hs
        split at hs
        · rename_i hm; exact (mem_spec hm).2
        · cases hs
      obtain ⟨b, base, hb, rfl⟩ := hat hver
      obtain ⟨w', h1, β', h2, rfl⟩ := wr_ok (P := P) h hc hs hb (.inr rfl)
      refine ⟨w', ?_, h2⟩
      have hsize : v.cells.size = cs.length := by rw [hc.len]; simp
      simp [Instr.storeAt, Instr.sureAddr, storeVar, run_size ok hsz, hsize, h1]
    · cases hs
  · cases hs

theorem copy_ok {w : World} {st st' : St} {β : Nat → Option (Nat × Nat)} {Z : Nat → Prop} (h : Sim w st β Z) {ats : List TypeId} {ty : TypeId} {d e r : D} {u v : Value} (hu : VR w (st.x β Z) d u) (hv : VR w (st.x β Z) e v)
    (hs : copyD pv ats d e st = some (r, st')) : ∃ z w', (Builtin.copy_ ats.toArray ty #[u, v]).run P w = .ok z w' ∧ Nx w st β Z w' st' β Z ∧ VR w' (st'.x β Z) r z := by
  unfold copyD at hs
  split at hs
  · rename_i dT rest
    split at hs
    · rename_i el hdt
      obtain ⟨s, hsz, hs⟩ := Option.bind_eq_some_iff.1 hs
      obtain ⟨⟨m, ys⟩, hrow, hs⟩ := Option.bind_eq_some_iff.1 hs
      dsimp only at hs
      split at hs
      · cases hs
      · rename_i hys
        have hys : ys.length = m * s := Decidable.not_not.1 hys
        obtain ⟨hlen, hcells⟩ := row_ok (P := P) h hv hrow
        cases d with
        | win k ver off len sz =>
          simp only at hs
          split at hs
          · cases hs
          · rename_i hss
            have hss : sz = s := Decidable.not_not.1 hss
            subst hss
            obtain ⟨a, cap, rfl, hc, hk, _, hat⟩ := vr_win hu
            obtain ⟨st1, hwr, hs⟩ := Option.map_eq_some_iff.1 hs
            cases hs
            have hver : st.ver k = some ver := by
              unfold St.wr at hwr
              split at hwr
              · rename_i hm; exact (mem_spec hm).2
              · cases hwr
            obtain ⟨b, base, sz', hb, _, had⟩ := hat hver
            obtain ⟨us, h1, h2⟩ := hcells sz (min m len) (Nat.min_le_left _ _) hys
            have hla : us = [] ∨ a = ⟨b, base + off, none⟩ := by
              rcases had with rfl | ⟨rfl, _⟩
              · left
                have : len = 0 := by omega
                subst this
                have := h2.len
                simp at this
                exact List.length_eq_zero_iff.1 this.symm
              · exact .inr rfl
            obtain ⟨w', h3, β', h4, rfl⟩ := wr_ok (P := P) h h2 hwr hb hla
            refine ⟨_, w', ?_, h4, .im _ _ (.int _ _)⟩
            have hmin : Nat.min m len = min m len := rfl
            simp only [Builtin.copy_, List.getElem?_toArray, List.getElem?_cons_zero, List.getElem?_cons_succ, Sem.run_bind, run_und ok hdt, Result.andThen_ok, hlen, run_size ok hsz, hmin, h1, h3, Sem.run_pure, goInt]
        | nul =>
          cases hs
          rw [vr_nul hu]
          obtain ⟨us, h1, h2⟩ := hcells s 0 (Nat.zero_le _) hys
          have hus : us = [] := by have := h2.len; simp at this; exact List.length_eq_zero_iff.1 this.symm
          subst hus
          refine ⟨.int .i64 0, w, ?_, Nx.same h, .im _ _ (.int _ _)⟩
          have hmin : Nat.min m 0 = 0 := Nat.min_zero m
          simp only [Builtin.copy_, List.getElem?_toArray, List.getElem?_cons_zero, List.getElem?_cons_succ, Sem.run_bind, run_und ok hdt, Result.andThen_ok, hlen, run_size ok hsz, hmin, h1, Sem.run_pure, goInt]
          rfl
        | _ => cases hs
    · cases hs
  · cases hs
end
end Go.V
