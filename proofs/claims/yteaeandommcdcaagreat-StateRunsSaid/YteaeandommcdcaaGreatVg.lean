/-
  Operators whole; slices' bounds; addresses; conversions that read.
-/
import Derived.Test.YteaeandommcdcaaGreatVf
namespace Go.V
set_option linter.unusedSimpArgs false
set_option linter.unusedVariables false
set_option linter.unusedSectionVars false
set_option linter.unnecessarySimpa false
open Go.RowKit

def plainV (v : Value) : Prop := (∀ k n, v ≠ .int k n) ∧ (∀ s, v ≠ .string s) ∧ (∀ k b, v ≠ .float k b) ∧ (∀ k a b, v ≠ .complex k a b)

def plainD : D → Bool
  | .int _ _ | .str _ | .junk => false
  | _ => true

theorem vr_plain {w : World} {x : X} {d : D} {v : Value} (h : VR w x d v) (hp : plainD d = true) : plainV v := by
  unfold plainV
  cases d with
  | int k n => cases hp
  | str s => cases hp
  | junk => cases hp
  | bool b => rw [vr_bool h]; simp
  | nul => rw [vr_nul h]; simp
  | pnil => rw [vr_pnil h]; simp
  | sl es => obtain ⟨_, _, rfl, _⟩ := vr_sl h; simp
  | win k v o l s => obtain ⟨_, _, rfl, _⟩ := vr_win h; simp
  | ptr k v o => obtain ⟨_, rfl, _⟩ := vr_pointer h; simp
  | mp k => obtain ⟨_, rfl, _⟩ := vr_mp h; simp
  | ep c => obtain ⟨_, _, rfl, _⟩ := vr_ep h; simp
  | fn f c => obtain ⟨_, rfl, _⟩ := vr_fn h; simp
  | nilfn => cases h with | im _ _ h => cases h; simp
  | nilif => cases h with | im _ _ h => cases h; simp
  | agg c => obtain ⟨_, rfl, _⟩ := vr_agg h; simp
  | tup c => obtain ⟨_, rfl, _⟩ := vr_tup h; simp

theorem binOp_eql {t : TypeId} {u v : Value} (h : plainV u) :
    binOp .eql t u v = (Op.equal t u v >>= fun b => pure (.bool b)) ∧ binOp .neq t u v = (Op.equal t u v >>= fun b => pure (.bool (!b))) := by
  obtain ⟨h1, h2, h3, h4⟩ := h
  cases u <;> first
    | exact absurd rfl (h1 _ _) | exact absurd rfl (h2 _) | exact absurd rfl (h3 _ _) | exact absurd rfl (h4 _ _ _)
    | (cases v <;> exact ⟨rfl, rfl⟩)

section
variable {pv : Pv} {P : Program} (ok : pv.Ok P)
include ok

theorem bin_ok {w : World} {x : X} {op : BinOp} {t : Nat} {d e r : D} {u v : Value} (xo yo : Operand) (hu : VR w x d u) (hv : VR w x e v) (h : binD pv op t d e = some r) :
    ∃ z, ((eqGuard op t xo yo u v >>= fun _ => binOp op t u v : Sem Value)).run P w = .ok z w ∧ VR w x r z := by
  unfold binD at h
  split at h
  · rename_i k a k' b
    rw [vr_int hu, vr_int hv]
    have hg := guard_other (P := P) (w := w) op t xo yo (.int k a) (.int k' b) (by simp) (by simp)
    simp only [Sem.run_bind, hg, Result.andThen_ok]
    split at h
    · exact shift_ok (.inl rfl) h
    · exact shift_ok (.inr rfl) h
    · rename_i h1 h2
      split at h
      · rename_i hk; subst hk; exact int_ok h1 h2 h
      · cases h
  · rename_i a b
    rw [vr_str hu, vr_str hv]
    have hg := guard_other (P := P) (w := w) op t xo yo (.string ⟨a.toArray⟩) (.string ⟨b.toArray⟩) (by simp) (by simp)
    simp only [Sem.run_bind, hg, Result.andThen_ok]
    exact str_ok h
  · rename_i h1 h2
    have key : ∀ b, equalD pv t d e = some b → (eqGuard op t xo yo u v).run P w = .ok () w ∧ (Op.equal t u v).run P w = .ok b w ∧
        (binOp .eql t u v = (Op.equal t u v >>= fun b => pure (.bool b)) ∧ binOp .neq t u v = (Op.equal t u v >>= fun b => pure (.bool (!b)))) := by
      intro b hb
      obtain ⟨hg, he⟩ := equal_ok ok hu hv hb op xo yo
      refine ⟨hg, he, binOp_eql ?_⟩
      have hb' := hb
      unfold equalD at hb
      split at hb
      · cases hb
      · unfold eqFuel eqD at hb
        refine vr_plain hu ?_
        cases hpd : plainD d with
        | true => rfl
        | false =>
          exfalso
          cases d <;> simp [plainD] at hpd <;> (split at hb <;> first | (cases hb; done) | (exact h1 _ _ _ _ rfl rfl) | (exact h2 _ _ rfl rfl) | simp_all)
    split at h
    · cases hb : equalD pv t d e with
      | none => simp [hb] at h
      | some b =>
        simp only [hb, Option.map_some, Option.some.injEq] at h; subst h
        obtain ⟨hg, he, hq, _⟩ := key b hb
        exact ⟨.bool b, by simp [hg, hq, he], .im _ _ (.bool _)⟩
    · cases hb : equalD pv t d e with
      | none => simp [hb] at h
      | some b =>
        simp only [hb, Option.map_some, Option.some.injEq] at h; subst h
        obtain ⟨hg, he, _, hq⟩ := key b hb
        exact ⟨.bool (!b), by simp [hg, hq, he], .im _ _ (.bool _)⟩
    · cases h

omit ok in
theorem un_ok {w : World} {x : X} {op : UnOp} {d r : D} {u : Value} (hu : VR w x d u) (h : unD op d = some r) : ∃ z, (Op.unary op u).run P w = .ok z w ∧ VR w x r z := by
  unfold unD at h
  split at h
  · rename_i k n
    rw [vr_int hu]; cases h
    exact ⟨_, rfl, by rw [wrapD_eq]; exact .im _ _ (.int _ _)⟩
  · rename_i k n
    rw [vr_int hu]
    obtain ⟨m, rfl, hr⟩ := bits_ok (P := P) (w := w) h
    exact ⟨_, hr, .im _ _ (.int _ _)⟩
  · rw [vr_bool hu]; cases h
    exact ⟨_, rfl, .im _ _ (.bool _)⟩
  · cases h

omit ok in
theorem bound_ok {w : World} {x : X} {d : D} {v : Value} {y n : Nat} (hv : VR w x d v) (h : boundD d y = some n) (code : BoundsCode) : (Instr.sliceBound v y code).run P w = .ok n w ∧ n ≤ y := by
  unfold boundD at h
  split at h
  · rename_i k i
    rw [vr_int hv]
    split at h
    · rename_i hi; cases h
      refine ⟨?_, by omega⟩
      simp [Instr.sliceBound, asIntOf, hi]
    · cases h
  · cases h

omit ok in
/-- V's bounds of a slice are the model's, if the model's capacity is no less -/
theorem bounds_ok {w : World} {x : X} {len cap l h : Nat} {lo hi : Option D} {lo' hi' : Option Value} (isS : Bool) (hc : len ≤ cap) (hlo : ∀ d v, lo = some d → lo' = some v → VR w x d v) (hhi : ∀ d v, hi = some d → hi' = some v → VR w x d v)
    (el : lo.isSome = lo'.isSome) (eh : hi.isSome = hi'.isSome) (hb : boundsD len lo hi = some (l, h)) :
    (Instr.sliceBounds isS len cap lo' hi' none).run P w = .ok (l, h, cap) w ∧ l ≤ h ∧ h ≤ len := by
  unfold boundsD at hb
  obtain ⟨hh, h1, h2⟩ := Option.bind_eq_some_iff.1 hb
  obtain ⟨ll, h3, h4⟩ := Option.map_eq_some_iff.1 h2
  simp only [Prod.mk.injEq] at h4
  obtain ⟨rfl, rfl⟩ := h4
  have hle : hh ≤ len := by
    cases hi with
    | none => cases h1; exact Nat.le_refl _
    | some d => exact (bound_ok (P := P) (hhi d (hi'.getD default) rfl (by cases hi' <;> simp at eh ⊢)) h1 .sliceB).2
  have hle' : ll ≤ hh := by
    cases lo with
    | none => cases h3; exact Nat.zero_le _
    | some d => exact (bound_ok (P := P) (hlo d (lo'.getD default) rfl (by cases lo' <;> simp at el ⊢)) h3 .sliceB).2
  refine ⟨?_, hle', hle⟩
  have hiOk : ∀ v, hi' = some v → (Instr.sliceBound v cap (if isS then .sliceAcap else .sliceAlen)).run P w = .ok hh w := by
    intro v hv
    cases hi with
    | none => subst hv; simp at eh
    | some d =>
      have h1' : boundD d cap = some hh := by
        simp only [optBound] at h1
        unfold boundD at h1 ⊢
        split at h1
        · split at h1
          · rename_i hq; cases h1; rw [if_pos (by omega)]
          · cases h1
        · cases h1
      exact (bound_ok (P := P) (hhi d v rfl hv) h1' _).1
  have loOk : ∀ v, lo' = some v → (Instr.sliceBound v hh .sliceB).run P w = .ok ll w := by
    intro v hv
    cases lo with
    | none => subst hv; simp at el
    | some d => exact (bound_ok (P := P) (hlo d v rfl hv) h3 _).1
  have hiNo : hi' = none → hh = len := by
    intro hv; subst hv
    cases hi with
    | none => cases h1; rfl
    | some d => simp at eh
  have loNo : lo' = none → ll = 0 := by
    intro hv; subst hv
    cases lo with
    | none => cases h3; rfl
    | some d => simp at el
  unfold Instr.sliceBounds
  cases hi' with
  | none =>
    obtain rfl := hiNo rfl
    cases lo' with
    | none => obtain rfl := loNo rfl; rfl
    | some v => simp [loOk v rfl]
  | some u =>
    have h5 := hiOk u rfl
    cases lo' with
    | none => obtain rfl := loNo rfl; simp [h5]
    | some v => simp [h5, loOk v rfl]
end
end Go.V
