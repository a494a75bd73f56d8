/-
  Operators; slices' bounds; addresses.
-/
import Derived.Test.YteaeandommcdcaaGreatVe
namespace Go.V
set_option linter.unusedSimpArgs false
set_option linter.unusedVariables false
set_option linter.unusedSectionVars false
set_option linter.unnecessarySimpa false
open Go.RowKit

theorem guard_other {P : Program} {w : World} (op : BinOp) (t : TypeId) (xo yo : Operand) (a b : Value) (h1 : ¬ (a = .nilIface ∧ b = .nilIface)) (h2 : ∀ c d, ¬ (a = .agg c ∧ b = .agg d)) :
    (eqGuard op t xo yo a b).run P w = .ok () w := by
  cases op <;> first
    | rfl
    | (unfold eqGuard
       simp only [Bool.not_true, Bool.false_eq_true, if_false]
       split
       · exact absurd ⟨rfl, rfl⟩ h1
       · exact absurd ⟨rfl, rfl⟩ (h2 _ _)
       · rfl)

theorem bits_ok {P : Program} {w : World} {op : BinOp} {k : IntKind} {a b : Int} {d : D} (h : bitsD op k a b = some d) : ∃ n, d = .int k n ∧ (Op.intBits op k a b).run P w = .ok (.int k n) w := by
  unfold bitsD at h
  split at h <;> first | (cases h; refine ⟨_, rfl, ?_⟩; simp [Op.intBits, wrapD_eq]; done) | (cases h; done)

theorem cmp_ok {P : Program} {w : World} {op : BinOp} {a b : Int} {d : D} (h : cmpInt op a b = some d) : ∃ r, d = .bool r ∧ (Op.intCmp op a b).run P w = .ok (.bool r) w := by
  unfold cmpInt at h
  split at h <;> first | (cases h; exact ⟨_, rfl, rfl⟩) | (cases h; done)

theorem int_ok {P : Program} {w : World} {x : X} {op : BinOp} {t : TypeId} {k : IntKind} {a b : Int} {d : D} (hs : op ≠ .shl) (hs' : op ≠ .shr) (h : intD op k a b = some d) :
    ∃ v, (binOp op t (.int k a) (.int k b)).run P w = .ok v w ∧ VR w x d v := by
  cases op <;> simp only [binOp, ne_eq, not_true_eq_false, if_false] <;> simp only [intD] at h <;> first
    | exact absurd rfl hs
    | exact absurd rfl hs'
    | (cases h; exact ⟨_, rfl, by rw [wrapD_eq]; exact .im _ _ (.int _ _)⟩)
    | (split at h
       · cases h
       · rename_i hb; cases h
         refine ⟨_, by simp only [Op.intDiv, hb, if_false]; rfl, ?_⟩
         first | exact .im _ _ (.int _ _) | (rw [wrapD_eq]; exact .im _ _ (.int _ _)))
    | (obtain ⟨n, rfl, hr⟩ := bits_ok (P := P) (w := w) h; exact ⟨_, hr, .im _ _ (.int _ _)⟩)
    | (obtain ⟨n, rfl, hr⟩ := cmp_ok (P := P) (w := w) h; exact ⟨_, hr, .im _ _ (.bool _)⟩)

theorem shift_ok {P : Program} {w : World} {x : X} {op : BinOp} {t : TypeId} {k k' : IntKind} {a b : Int} {d : D} (hs : op = .shl ∨ op = .shr) (h : shiftD op k a b = some d) :
    ∃ v, (binOp op t (.int k a) (.int k' b)).run P w = .ok v w ∧ VR w x d v := by
  unfold shiftD at h
  split at h
  · cases h
  · rename_i hb
    rcases hs with rfl | rfl <;> simp only [Option.some.injEq] at h <;> subst h <;>
      refine ⟨_, by simp only [binOp, Op.shift, hb, if_false]; rfl, ?_⟩ <;> first | exact .im _ _ (.int _ _) | (rw [wrapD_eq]; exact .im _ _ (.int _ _))

theorem str_ok {P : Program} {w : World} {x : X} {op : BinOp} {t : TypeId} {a b : List UInt8} {d : D} (h : strD op a b = some d) :
    ∃ v, (binOp op t (.string ⟨a.toArray⟩) (.string ⟨b.toArray⟩)).run P w = .ok v w ∧ VR w x d v := by
  have e : binOp op t (.string ⟨a.toArray⟩) (.string ⟨b.toArray⟩) = Op.stringOp op ⟨a.toArray⟩ ⟨b.toArray⟩ := by cases op <;> rfl
  rw [e]
  have l1 : (⟨a.toArray⟩ : ByteArray).toList = a := by rw [ByteArray.toList_eq]
  have l2 : (⟨b.toArray⟩ : ByteArray).toList = b := by rw [ByteArray.toList_eq]
  by_cases hop : op = .add
  · subst hop
    simp only [strD] at h
    split at h
    · rename_i hb; cases h
      have hm : ¬ ((((⟨a.toArray⟩ : ByteArray).size + (⟨b.toArray⟩ : ByteArray).size : Nat) : Int) > IntKind.i64.max) := by
        have h1 : (⟨a.toArray⟩ : ByteArray).size = a.length := by simp [ByteArray.size]
        have h2 : (⟨b.toArray⟩ : ByteArray).size = b.length := by simp [ByteArray.size]
        rw [h1, h2]
        simp only [IntKind.max, IntKind.signed, IntKind.bits, if_true]
        omega
      refine ⟨.string ⟨(a ++ b).toArray⟩, ?_, .im _ _ (.str _)⟩
      simp only [Op.stringOp, hm, if_false, Sem.run_pure]
      congr 2
    · cases h
  · cases op <;> simp only [strD] at h <;> first
      | exact absurd rfl hop
      | (cases h; done)
      | (cases h; exact ⟨_, by simp only [Op.stringOp, l1, l2]; rfl, .im _ _ (.bool _)⟩)

section
variable {pv : Pv} {P : Program} (ok : pv.Ok P)
include ok

theorem equal_ok {w : World} {x : X} {t : Nat} {d e : D} {u v : Value} {b : Bool} (hu : VR w x d u) (hv : VR w x e v) (h : equalD pv t d e = some b) (op : BinOp) (xo yo : Operand) :
    (eqGuard op t xo yo u v).run P w = .ok () w ∧ (Op.equal t u v).run P w = .ok b w := by
  unfold equalD at h
  split at h
  · cases h
  · rename_i hg
    have heq := (eq_ok ok eqFuel).1 hu hv h Op.maxDepth (by decide)
    have hgu : (eqGuard op t xo yo u v).run P w = .ok () w := by
      by_cases ha : aggD d = true
      · have hq : pv.eqb.contains t = true := by
          simp only [ha, Bool.true_and, Bool.not_eq_true', Bool.not_eq_false] at hg; simpa using hg
        cases d with
        | agg cs =>
          obtain ⟨us, rfl, _⟩ := vr_agg hu
          cases v with
          | agg vs => exact run_eqGuard_agg w op t xo yo _ _ (ok.eqb t hq).2
          | _ => exact guard_other _ _ _ _ _ _ (by simp) (by simp)
        | _ => simp [aggD] at ha
      · refine guard_other _ _ _ _ _ _ ?_ ?_
        · rintro ⟨rfl, rfl⟩
          unfold eqFuel eqD at h
          split at h <;> first
            | (have := vr_bool hu; cases this) | (have := vr_int hu; cases this) | (have := vr_str hu; cases this) | (have := vr_pnil hu; cases this) | (have := vr_nul hu; cases this)
            | (obtain ⟨_, h', _⟩ := vr_pointer hu; cases h') | (obtain ⟨_, _, h', _⟩ := vr_win hu; cases h') | (obtain ⟨_, _, h', _⟩ := vr_sl hu; cases h') | (obtain ⟨_, h', _⟩ := vr_agg hu; cases h') | cases h
        · rintro c d' ⟨rfl, rfl⟩
          unfold eqFuel eqD at h
          split at h <;> first
            | (exfalso; exact ha rfl)
            | (have := vr_bool hu; cases this) | (have := vr_int hu; cases this) | (have := vr_str hu; cases this) | (have := vr_pnil hu; cases this) | (have := vr_nul hu; cases this)
            | (obtain ⟨_, h', _⟩ := vr_pointer hu; cases h') | (obtain ⟨_, _, h', _⟩ := vr_win hu; cases h') | (obtain ⟨_, _, h', _⟩ := vr_sl hu; cases h') | cases h
    exact ⟨hgu, heq⟩
end
end Go.V
