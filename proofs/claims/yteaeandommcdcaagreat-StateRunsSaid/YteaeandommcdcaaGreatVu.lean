/-
  One operation more, in whatever order.
-/
import Derived.Test.YteaeandommcdcaaGreatVt
namespace Go.V
set_option linter.unusedSimpArgs false
set_option linter.unusedVariables false
set_option linter.unusedSectionVars false
set_option linter.unnecessarySimpa false
open Go.RowKit

theorem BoxOk.ver {w : World} {x : X} {b base : Nat} {bx : Box} (h : BoxOk w x b base bx) : ∃ c, boxVer bx = some c := by
  cases bx with
  | mem v a c => exact ⟨v, rfl⟩
  | iter s p => exact ⟨0, rfl⟩
  | map e => exact ⟨0, rfl⟩
  | dead => exact h.elim

def glue (S : Nat → St) (j : Nat) (βl β : Nat → Option (Nat × Nat)) : Nat → Option (Nat × Nat) := fun k => if k < (S (j + 1)).bs.length then βl k else β k

open Classical in
noncomputable def sgNew (pv : Pv) (ops : Array Oper) (F : Nat → Fr) (S : Nat → St) (j m : Nat) (sg : Nat → Nat) : Nat → Nat :=
  fun k => if k < (S (j + 1)).bs.length ∧ (effI pv ops F j ∨ (S j).bs.length ≤ k) then m else sg k

section
variable {pv : Pv} {P : Program} {cf : CallF} (hcf : CfOk P pv cf) {ops : Array Oper} {F : Nat → Fr} {S : Nat → St} {dd : Nat → D} (ht : Trace pv cf ops ops.toList F S dd)
include hcf ht

theorem DI.put {a0 a : Act} {w0 w w' : World} {β0 β βl : Nat → Option (Nat × Nat)} {Z0 Z Zl : Nat → Prop} {E E' : Nat → Bool} {sg : Nat → Nat} (h : DI pv ops F S dd a0 w0 β0 Z0 E a w β Z sg) {j m : Nat} {o : Oper} (hj : E j = false) (ho : ops[j]? = some o)
    (hE' : ∀ k, E' k = true ↔ (E k = true ∨ k = j)) (hrd : ∀ e ∈ o.after.toList, Region.binds .any e = true → E e.on = true) (hlate : ∀ i o' t, j < i → ops[i]? = some o' → o.dst = some t → o'.dst = some t → E i = false)
    (hdst : ∀ t, o.dst = some t → t < a.tmps.size) (hro0 : (S 0).ro ≤ (S 0).bs.length) {T T' : St} {v : Value}
    (hn : Nx w T (fun k => if k < (S j).bs.length then β k else none) Z w' T' βl Zl) (hTl : T.bs.length = (S j).bs.length) (hTl' : T'.bs.length = (S (j + 1)).bs.length) (hTr : T.ro = (S j).ro)
    (hv : VR w' (T'.x βl Zl) (dd j) v) (hTv : ∀ k p, k < (S j).bs.length → β k = some p → T.ver k = boxVer (Hs S sg k))
    (hm1 : j + 1 ≤ m) (hmn : m ≤ ops.size) (hm2 : ∀ i, E i = true → effI pv ops F i → i + 1 ≤ m) (hm3 : m = j + 1 ∨ ∃ i, E i = true ∧ effI pv ops F i ∧ m = i + 1)
    (hT'v : ∀ k p, βl k = some p → T'.ver k = boxVer (Hs S (sgNew pv ops F S j m sg) k))
    (hT'b : ∀ k b base, βl k = some (b, base) → (effI pv ops F j ∨ (S j).bs.length ≤ k) → BoxOk w' (T'.x βl Zl) b base (Hs S (sgNew pv ops F S j m sg) k))
    (hq : ¬ effI pv ops F j → Quiet w w') (hS : effI pv ops F j → T = S j ∧ T' = S (j + 1)) :
    DI pv ops F S dd a0 w0 β0 Z0 E' (a.put o.dst v) w' (glue S j βl β) Zl (sgNew pv ops F S j m sg) := by
  have hjn : j < ops.size := by
    rcases Nat.lt_or_ge j ops.size with h' | h'
    · exact h'
    · rw [Array.getElem?_eq_none h'] at ho; cases ho
  have hNj := (tr_goes hcf ht j hjn).1.len
  have hN : ∀ {a b : Nat}, a ≤ b → b ≤ ops.size → (S a).bs.length ≤ (S b).bs.length := fun h1 h2 => (tr_mono hcf ht _ _ h1 h2).len
  have lk : ∀ k p, βl k = some p → k < (S (j + 1)).bs.length := fun k p hp => by rw [← hTl']; exact hn.sim.dom k p.1 p.2 hp
  have fA : ∀ k, k < (S j).bs.length → β k = none → βl k = none ∧ T'.bs[k]? = T.bs[k]? := fun k hk h0 => hn.old k (by rw [hTl]; exact hk) (by simp only [if_pos hk]; exact h0)
  have fB : ∀ k p, k < (S j).bs.length → β k = some p → ∃ p', βl k = some p' := fun k p hk hp => hn.keeps.dm k p (by simp only [St.x, if_pos hk]; exact hp)
  have fC : ∀ k p, (S j).bs.length ≤ k → k < (S (j + 1)).bs.length → β k = some p → False := fun k p h1 h2 hp => by
    have := h.cr k p hp j hjn h1 h2; rw [hj] at this; cases this
  have sgO : ∀ k, ¬ (k < (S (j + 1)).bs.length ∧ (effI pv ops F j ∨ (S j).bs.length ≤ k)) → sgNew pv ops F S j m sg k = sg k := fun k hk => by simp only [sgNew]; rw [if_neg hk]
  have sgN : ∀ k, k < (S (j + 1)).bs.length → (effI pv ops F j ∨ (S j).bs.length ≤ k) → sgNew pv ops F S j m sg k = m := fun k h1 h2 => by simp only [sgNew]; rw [if_pos ⟨h1, h2⟩]
  have gl1 : ∀ k, k < (S (j + 1)).bs.length → glue S j βl β k = βl k := fun k hk => by simp only [glue, if_pos hk]
  have gl2 : ∀ k, ¬ k < (S (j + 1)).bs.length → glue S j βl β k = β k := fun k hk => by simp only [glue, if_neg hk]
  have HsO : ∀ k, ¬ (k < (S (j + 1)).bs.length ∧ (effI pv ops F j ∨ (S j).bs.length ≤ k)) → Hs S (sgNew pv ops F S j m sg) k = Hs S sg k := fun k hk => by simp only [Hs, sgO k hk]
  have fE : ∀ k b base, ¬ k < (S j).bs.length → β k = some (b, base) → w'.heap[b]? = w.heap[b]? := by
    intro k b base hk hb
    refine hn.evo.block b (h.lt k b base hb) ?_
    rintro ⟨k', base', hk', _⟩
    dsimp only at hk'
    split at hk'
    · rename_i hlt
      have := h.inj k k' b _ _ hb hk'
      omega
    · cases hk'
  have fD : ¬ effI pv ops F j → ∀ k p, k < (S j).bs.length → β k = some p → βl k = some p := by
    intro hne k p hk hp
    obtain ⟨p', hp'⟩ := fB k p hk hp
    have e1 := hTv k p hk hp
    have e2 := hT'v k p' hp'
    rw [HsO k (by rintro ⟨_, h1 | h1⟩; exact hne h1; omega)] at e2
    obtain ⟨c, hc⟩ := (h.box k p.1 p.2 hp).ver
    rw [hc] at e1 e2
    exact (hn.keeps.at_ k c e2 e1 p.1 p.2 (by simp only [St.x, if_pos hk]; exact hp)).1
  have KX : ∀ q, Keeps w (Xm S sg β Z q) w' (Xm S (sgNew pv ops F S j m sg) (glue S j βl β) Zl q) := by
    intro q
    refine ⟨fun k p hp => ?_, hn.keeps.z, fun k c p hp hc => ?_, fun k c hc hc' b base hb => ?_⟩
    · simp only [Xm] at hp ⊢
      split at hp
      · rename_i hkq
        rw [if_pos hkq]
        by_cases hk : k < (S (j + 1)).bs.length
        · rw [gl1 k hk]
          by_cases hkj : k < (S j).bs.length
          · exact fB k p hkj hp
          · exact (fC k p (by omega) hk hp).elim
        · rw [gl2 k hk]; exact ⟨p, hp⟩
      · cases hp
    · simp only [Xm] at hp hc ⊢
      split at hp
      · by_cases hkj : k < (S j).bs.length
        · obtain ⟨p', hp'⟩ := fB k p hkj hp
          obtain ⟨o', h1, h2⟩ := hn.keeps.ver k c p (by simp only [St.x, if_pos hkj]; exact hp) (by show T'.ver k = some c; rw [hT'v k p' hp']; exact hc)
          exact ⟨o', by rw [← hTv k p hkj hp]; exact h1, h2⟩
        · by_cases hk : k < (S (j + 1)).bs.length
          · exact (fC k p (by omega) hk hp).elim
          · rw [HsO k (fun h' => hk h'.1)] at hc
            exact ⟨c, hc, Nat.le_refl _⟩
      · cases hp
    · simp only [Xm] at hb hc hc' ⊢
      split at hb
      · rename_i hkq
        rw [if_pos hkq]
        by_cases hkj : k < (S j).bs.length
        · obtain ⟨p', hp'⟩ := fB k _ hkj hb
          have := hn.keeps.at_ k c (by show T'.ver k = some c; rw [hT'v k p' hp']; exact hc) (by show T.ver k = some c; rw [hTv k _ hkj hb]; exact hc') b base (by simp only [St.x, if_pos hkj]; exact hb)
          rw [gl1 k (by omega)]; exact this
        · by_cases hk : k < (S (j + 1)).bs.length
          · exact (fC k _ (by omega) hk hb).elim
          · rw [gl2 k hk]; exact ⟨hb, rowSize_eq (fE k b base hkj hb)⟩
      · cases hb
  have KT : Keeps w' (T'.x βl Zl) w' (Xm S (sgNew pv ops F S j m sg) (glue S j βl β) Zl (j + 1)) := by
    have key : ∀ k p, βl k = some p → (Xm S (sgNew pv ops F S j m sg) (glue S j βl β) Zl (j + 1)).β k = some p := by
      intro k p hp
      have := lk k p hp
      simp only [Xm]; rw [if_pos this, gl1 k this]; exact hp
    refine ⟨fun k p hp => ⟨p, key k p hp⟩, fun b hb => ⟨hb, rfl⟩, fun k c p hp hc => ⟨c, ?_, Nat.le_refl _⟩, fun k c _ _ b base hb => ⟨key k _ hb, rfl⟩⟩
    show T'.ver k = some c
    rw [hT'v k p hp]; exact hc
  have hmN : (S (j + 1)).bs.length ≤ (S m).bs.length := hN hm1 hmn
  have hemn : ∀ k, k < (S (j + 1)).bs.length → (effI pv ops F j ∨ (S j).bs.length ≤ k) → k < (S m).bs.length := fun k h1 _ => by omega
  refine ⟨by rw [put_size]; exact h.size, by rw [put_defers]; exact h.defers, ?_, ?_, ?_, ?_, ?_, ?_, ?_, ?_, ?_, ?_, ?_, ?_, ?_, h.keeps.trans (KX _), ?_, ?_, ?_, ?_⟩
  · -- closed
    intro k o' hk ho' e he hb
    rcases (hE' k).1 hk with hk | rfl
    · exact (hE' _).2 (.inl (h.clo k o' hk ho' e he hb))
    · rw [ho] at ho'; cases ho'
      exact (hE' _).2 (.inl (hrd e he hb))
  · intro k hk
    rcases (hE' k).1 hk with hk | rfl
    · exact h.bnd k hk
    · exact hjn
  · -- dom
    intro k p hp
    by_cases hk : k < (S (j + 1)).bs.length
    · rw [gl1 k hk] at hp
      by_cases hc : effI pv ops F j ∨ (S j).bs.length ≤ k
      · rw [sgN k hk hc]
        refine ⟨hemn k hk hc, hmn, .inr ?_⟩
        rcases hm3 with rfl | ⟨i, q1, q2, q3⟩
        · exact ⟨j, (hE' j).2 (.inr rfl), rfl, hc⟩
        · exact ⟨i, (hE' i).2 (.inl q1), q3, .inl q2⟩
      · rw [sgO k (fun h' => hc h'.2)]
        have hkj : k < (S j).bs.length := by
          rcases Nat.lt_or_ge k (S j).bs.length with h' | h'
          · exact h'
          · exact absurd (.inr h') hc
        cases hβ : β k with
        | none => have := (fA k hkj hβ).1; rw [hp] at this; cases this
        | some q =>
          obtain ⟨d1, d2, d3⟩ := h.dom k q hβ
          refine ⟨d1, d2, ?_⟩
          rcases d3 with d3 | ⟨i, r1, r2, r3⟩
          · exact .inl d3
          · exact .inr ⟨i, (hE' i).2 (.inl r1), r2, r3⟩
    · rw [gl2 k hk] at hp
      rw [sgO k (fun h' => hk h'.1)]
      obtain ⟨d1, d2, d3⟩ := h.dom k p hp
      refine ⟨d1, d2, ?_⟩
      rcases d3 with d3 | ⟨i, r1, r2, r3⟩
      · exact .inl d3
      · exact .inr ⟨i, (hE' i).2 (.inl r1), r2, r3⟩
  · -- cr
    intro k p hp i hi h1 h2
    by_cases hk : k < (S (j + 1)).bs.length
    · rw [gl1 k hk] at hp
      by_cases hkj : k < (S j).bs.length
      · cases hβ : β k with
        | none => have := (fA k hkj hβ).1; rw [hp] at this; cases this
        | some q => exact (hE' i).2 (.inl (h.cr k q hβ i hi h1 h2))
      · have : i = j := by
          rcases Nat.lt_trichotomy i j with h' | h' | h'
          · have := hN (a := i + 1) (b := j) (by omega) (by omega); omega
          · exact h'
          · have := hN (a := j + 1) (b := i) (by omega) (by omega); omega
        subst this; exact (hE' _).2 (.inr rfl)
    · rw [gl2 k hk] at hp
      exact (hE' i).2 (.inl (h.cr k p hp i hi h1 h2))
  · -- sg2
    intro k p hp i hi he hki
    by_cases hk : k < (S (j + 1)).bs.length
    · rw [gl1 k hk] at hp
      by_cases hc : effI pv ops F j ∨ (S j).bs.length ≤ k
      · rw [sgN k hk hc]
        rcases (hE' i).1 hi with hi | rfl
        · exact hm2 i hi he
        · exact hm1
      · rw [sgO k (fun h' => hc h'.2)]
        have hkj : k < (S j).bs.length := by
          rcases Nat.lt_or_ge k (S j).bs.length with h' | h'
          · exact h'
          · exact absurd (.inr h') hc
        cases hβ : β k with
        | none => have := (fA k hkj hβ).1; rw [hp] at this; cases this
        | some q =>
          rcases (hE' i).1 hi with hi | rfl
          · exact h.sg2 k q hβ i hi he hki
          · exact absurd (.inl he) hc
    · rw [gl2 k hk] at hp
      rw [sgO k (fun h' => hk h'.1)]
      rcases (hE' i).1 hi with hi | rfl
      · exact h.sg2 k p hp i hi he hki
      · omega
  · -- ph
    intro k hk0 i hi he hki
    have hβ : k < (S j).bs.length ∨ ¬ k < (S (j + 1)).bs.length → β k = none := by
      rintro (hkj | hk)
      · cases hβ : β k with
        | none => rfl
        | some q =>
          obtain ⟨p', hp'⟩ := fB k q hkj hβ
          rw [gl1 k (by omega), hp'] at hk0; cases hk0
      · rw [gl2 k hk] at hk0; exact hk0
    have hβ' : β k = none := by
      by_cases hkj : k < (S j).bs.length
      · exact hβ (.inl hkj)
      · by_cases hk : k < (S (j + 1)).bs.length
        · cases hb : β k with
          | none => rfl
          | some q => exact (fC k q (by omega) hk hb).elim
        · exact hβ (.inr hk)
    rcases (hE' i).1 hi with hi | rfl
    · exact h.ph k hβ' i hi he hki
    · obtain ⟨e1, e2⟩ := hS he
      have := (fA k hki hβ').2
      rw [e1, e2] at this; exact this
  · -- lt
    intro k b base hp
    by_cases hk : k < (S (j + 1)).bs.length
    · rw [gl1 k hk] at hp; exact hn.sim.lt k b base hp
    · rw [gl2 k hk] at hp; exact Nat.lt_of_lt_of_le (h.lt k b base hp) hn.evo.size
  · -- inj
    have mix : ∀ k k' b x x', k < (S (j + 1)).bs.length → ¬ k' < (S (j + 1)).bs.length → βl k = some (b, x) → β k' = some (b, x') → False := by
      intro k k' b x x' hk hk' h1 h2
      rcases hn.fresh k b x h1 with ⟨base', hb'⟩ | hlt
      · try dsimp only at hb'
        split at hb'
        · have := h.inj k k' b _ _ hb' h2; omega
        · cases hb'
      · have := h.lt k' b x' h2; omega
    intro k k' b x x' h1 h2
    by_cases hk : k < (S (j + 1)).bs.length <;> by_cases hk' : k' < (S (j + 1)).bs.length
    · rw [gl1 k hk] at h1; rw [gl1 k' hk'] at h2; exact hn.sim.inj k k' b x x' h1 h2
    · rw [gl1 k hk] at h1; rw [gl2 k' hk'] at h2; exact (mix k k' b x x' hk hk' h1 h2).elim
    · rw [gl2 k hk] at h1; rw [gl1 k' hk'] at h2; exact (mix k' k b x' x hk' hk h2 h1).elim
    · rw [gl2 k hk] at h1; rw [gl2 k' hk'] at h2; exact h.inj k k' b x x' h1 h2
  · -- zd
    intro k b base hp hz
    by_cases hk : k < (S (j + 1)).bs.length
    · rw [gl1 k hk] at hp; exact hn.sim.zd k b base hp hz
    · rw [gl2 k hk] at hp
      rcases hn.zfresh b hz with hz | hlt
      · exact h.zd k b base hp hz
      · have := h.lt k b base hp; omega
  · exact hn.sim.zl
  · -- box
    intro k b base hp
    by_cases hk : k < (S (j + 1)).bs.length
    · rw [gl1 k hk] at hp
      by_cases hc : effI pv ops F j ∨ (S j).bs.length ≤ k
      · rw [sgN k hk hc]
        exact (hT'b k b base hp hc).keep (KT.trans (Xm_mono hcf ht hm1 hmn)) rfl
      · have hkj : k < (S j).bs.length := by
          rcases Nat.lt_or_ge k (S j).bs.length with h' | h'
          · exact h'
          · exact absurd (.inr h') hc
        have hne : ¬ effI pv ops F j := fun h' => hc (.inl h')
        rw [sgO k (fun h' => hc h'.2), HsO k (fun h' => hc h'.2)]
        cases hβ : β k with
        | none => have := (fA k hkj hβ).1; rw [hp] at this; cases this
        | some q =>
          have := fD hne k q hkj hβ
          rw [hp] at this; cases this
          exact (h.box k b base hβ).keep (KX _) (hq hne b (h.lt k b base hβ))
    · rw [gl2 k hk] at hp
      rw [sgO k (fun h' => hk h'.1), HsO k (fun h' => hk h'.1)]
      exact (h.box k b base hp).keep (KX _) (fE k b base (by omega) hp)
  · -- frame
    intro t
    by_cases hd : o.dst = some t
    · have hl : lastW ops E' t ops.size = some j := by
        have s := lastW_spec ops E' t ops.size
        cases hl : lastW ops E' t ops.size with
        | none =>
          rw [hl] at s
          have := s j o hjn ho hd
          rw [(hE' j).2 (.inr rfl)] at this; cases this
        | some i =>
          rw [hl] at s
          obtain ⟨s1, s2, ⟨o', s3, s4⟩, s5⟩ := s
          rcases Nat.lt_trichotomy i j with h' | h' | h'
          · have := s5 j o h' hjn ho hd
            rw [(hE' j).2 (.inr rfl)] at this; cases this
          · rw [h']
          · have := hlate i o' t h' s3 hd s4
            rcases (hE' i).1 s2 with h2 | h2
            · rw [this] at h2; cases h2
            · omega
      have hget : (a.put o.dst v).tmps.getD t undef = v := by
        rw [hd]
        simp only [Act.put, Array.getD_eq_getD_getElem?]
        rw [Array.getElem?_setIfInBounds_self_of_lt (hdst t hd)]; rfl
      rw [hget]
      simp only [val, stg, hl]
      unfold cput
      split
      · exact .junk _ _ _
      · exact hv.mono KT
    · have hl : lastW ops E' t ops.size = lastW ops E t ops.size := by
        refine lastW_eq fun i o' h1 h2 => ?_
        have hij : i ≠ j := fun e => by subst e; rw [ho] at h1; cases h1; exact hd h2
        rw [hE' i]
        simp [hij]
      have hget : (a.put o.dst v).tmps.getD t undef = a.tmps.getD t undef := by
        cases hdd : o.dst with
        | none => rfl
        | some u =>
          have hut : u ≠ t := fun e => hd (by rw [hdd, e])
          simp only [Act.put, Array.getD_eq_getD_getElem?]
          rw [Array.getElem?_setIfInBounds_ne hut]
      rw [hget]
      have hf := h.frame t
      simp only [val, stg, hl] at hf ⊢
      exact hf.mono (KX _)
  · -- evo
    refine h.evo.trans hn.evo (fun _ hm => hm) fun b hb hm => ?_
    obtain ⟨k, base, hk, hro⟩ := hm
    dsimp only at hk
    split at hk
    · rcases h.fresh k b base hk with ⟨base', hb'⟩ | hlt
      · refine ⟨k, base', hb', ?_⟩
        have := (tr_mono hcf ht j 0 (by omega) (by omega)).ro
        rw [← this, ← hTr]; exact hro
      · omega
    · cases hk
  · -- fresh
    intro k b base hp
    by_cases hk : k < (S (j + 1)).bs.length
    · rw [gl1 k hk] at hp
      rcases hn.fresh k b base hp with ⟨base', hb'⟩ | hlt
      · try dsimp only at hb'
        split at hb'
        · exact h.fresh k b base' hb'
        · cases hb'
      · exact .inr (Nat.le_trans h.evo.size hlt)
    · rw [gl2 k hk] at hp; exact h.fresh k b base hp
  · intro b hz
    rcases hn.zfresh b hz with hz | hlt
    · exact h.zfresh b hz
    · exact .inr (Nat.le_trans h.evo.size hlt)
  · -- low
    intro k hk
    have h0 := hN (a := 0) (b := j) (by omega) (by omega)
    have hkj : k < (S j).bs.length := by omega
    have hr := (tr_mono hcf ht j 0 (by omega) (by omega)).ro
    have := (hn.low k (by rw [hTr, hr]; exact hk)).2
    rw [gl1 k (by omega), this]
    simp only [if_pos hkj]
    exact h.low k hk
  · -- old
    intro k hk hk0
    have h0 := hN (a := 0) (b := j) (by omega) (by omega)
    have hkj : k < (S j).bs.length := by omega
    rw [gl1 k (by omega)]
    exact (fA k hkj (h.old k hk hk0)).1
end
end Go.V
