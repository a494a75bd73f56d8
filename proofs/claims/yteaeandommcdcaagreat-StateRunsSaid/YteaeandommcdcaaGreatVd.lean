/-
  Operations that only compute or read.
-/
import Derived.Test.YteaeandommcdcaaGreatVc
import Derived.Laws.StructEq
import Derived.Laws.Slices
import Derived.Laws.Concat
namespace Go.V
set_option linter.unusedSimpArgs false
set_option linter.unusedVariables false
set_option linter.unusedSectionVars false
set_option linter.unnecessarySimpa false
open Go.RowKit

theorem wrapD_eq (k : IntKind) (n : Int) : wrapD k n = k.wrap n := by
  unfold wrapD
  split
  · rename_i m
    split
    · rename_i h
      have h := Nat.le_of_ble_eq_true h
      cases k <;> simp only [IntKind.wrap, maxN, IntKind.bits, IntKind.signed] at * <;> simp <;> omega
    · rfl
  · rename_i m
    split
    · rename_i h
      have h : ¬ minN k ≤ m := fun h' => by rw [Nat.ble_eq_true_of_le h'] at h; cases h
      cases k <;> simp only [IntKind.wrap, minN, IntKind.bits, IntKind.signed] at * <;> simp <;> omega
    · rfl

section
variable {w : World} {x : X}

theorem vr_int {k : IntKind} {n : Int} {v : Value} (h : VR w x (.int k n) v) : v = .int k n := by
  cases h with | im _ _ h => cases h; rfl
theorem vr_bool {b : Bool} {v : Value} (h : VR w x (.bool b) v) : v = .bool b := by
  cases h with | im _ _ h => cases h; rfl
theorem vr_str {s : List UInt8} {v : Value} (h : VR w x (.str s) v) : v = .string ⟨s.toArray⟩ := by
  cases h with | im _ _ h => cases h; rfl
theorem vr_nul {v : Value} (h : VR w x .nul v) : v = .slice none 0 0 := by
  cases h with | im _ _ h => cases h; rfl
theorem vr_pnil {v : Value} (h : VR w x .pnil v) : v = .pointer none := by
  cases h with | im _ _ h => cases h; rfl
theorem vr_agg {cs : List D} {v : Value} (h : VR w x (.agg cs) v) : ∃ vs : List Value, v = .agg vs.toArray ∧ cs.length = vs.length ∧ (∀ u ∈ vs, u.oneCell' = true) ∧
    ∀ (i : Nat) c u, cs[i]? = some c → vs[i]? = some u → VR w x c u := by
  cases h with
  | im _ _ h => cases h with | agg _ vs hl h1 hr => exact ⟨vs, rfl, hl, h1, fun i c u hc hu => .im _ _ (hr i c u hc hu)⟩
  | agg _ vs hl h1 hr => exact ⟨vs, rfl, hl, h1, hr⟩
theorem vr_tup {cs : List D} {v : Value} (h : VR w x (.tup cs) v) : ∃ vs : List Value, v = .tuple vs.toArray ∧ cs.length = vs.length ∧
    ∀ (i : Nat) c u, cs[i]? = some c → vs[i]? = some u → VR w x c u := by
  cases h with
  | im _ _ h => cases h with | tup _ vs hl hr => exact ⟨vs, rfl, hl, fun i c u hc hu => .im _ _ (hr i c u hc hu)⟩
  | tup _ vs hl hr => exact ⟨vs, rfl, hl, hr⟩
theorem vr_fn {f : Nat} {cs : List D} {v : Value} (h : VR w x (.fn f cs) v) : ∃ vs : List Value, v = .func (.func f) #[] vs.toArray ∧ cs.length = vs.length ∧
    ∀ (i : Nat) c u, cs[i]? = some c → vs[i]? = some u → VR w x c u := by
  cases h with
  | im _ _ h => cases h
  | fn _ _ vs hl hr => exact ⟨vs, rfl, hl, hr⟩
end

theorem pick {p : Nat → Value → Prop} : ∀ (n : Nat), (∀ j, j < n → ∃ u, p j u) → ∃ us : List Value, us.length = n ∧ ∀ (j : Nat) u, us[j]? = some u → p j u
  | 0, _ => ⟨[], rfl, by simp⟩
  | n + 1, h => by
    obtain ⟨us, hl, hp⟩ := pick n fun j hj => h j (by omega)
    obtain ⟨u, hu⟩ := h n (by omega)
    refine ⟨us ++ [u], by simp [hl], fun j v hv => ?_⟩
    rcases Nat.lt_trichotomy j n with hj | hj | hj
    · rw [List.getElem?_append_left (by omega)] at hv; exact hp j v hv
    · subst hj; rw [← hl] at hv; simp at hv; subst hv; exact hu
    · rw [List.getElem?_eq_none (by simp; omega)] at hv; cases hv

/-- cells in the model's memory that stand for V's -/
def CellsAt (w : World) (x : X) (b o : Nat) (c : List D) : Prop :=
  ∀ (j : Nat) d, c[j]? = some d → ∃ u, w.cell? ⟨b, o + j, none⟩ = some u ∧ u.oneCell' = true ∧ VR w x d u

theorem CellsAt.drop {w : World} {x : X} {b o : Nat} {c : List D} (h : CellsAt w x b o c) (n : Nat) : CellsAt w x b (o + n) (c.drop n) := by
  intro j d hd
  rw [List.getElem?_drop] at hd
  have := h (n + j) d hd
  rwa [show o + (n + j) = o + n + j by omega] at this

theorem CellsAt.take {w : World} {x : X} {b o : Nat} {c : List D} (h : CellsAt w x b o c) (n : Nat) : CellsAt w x b o (c.take n) := by
  intro j d hd
  rw [List.getElem?_take] at hd
  split at hd
  · exact h j d hd
  · cases hd

theorem CellsAt.list {w : World} {x : X} {b o : Nat} {c : List D} (h : CellsAt w x b o c) : ∃ us : List Value, us.length = c.length ∧
    (∀ (j : Nat) u, us[j]? = some u → w.cell? ⟨b, o + j, none⟩ = some u) ∧ (∀ u ∈ us, u.oneCell' = true) ∧ ∀ (j : Nat) d u, c[j]? = some d → us[j]? = some u → VR w x d u := by
  obtain ⟨us, hl, hp⟩ := pick (p := fun j u => ∃ d, c[j]? = some d ∧ w.cell? ⟨b, o + j, none⟩ = some u ∧ u.oneCell' = true ∧ VR w x d u) c.length fun j hj => by
    obtain ⟨u, hu⟩ := h j c[j] (List.getElem?_eq_getElem hj)
    exact ⟨u, c[j], List.getElem?_eq_getElem hj, hu⟩
  refine ⟨us, hl, fun j u hu => ?_, fun u hu => ?_, fun j d u hd hu => ?_⟩
  · obtain ⟨_, _, h, _⟩ := hp j u hu; exact h
  · obtain ⟨j, hj⟩ := List.getElem?_of_mem hu
    obtain ⟨_, _, _, h, _⟩ := hp j u hj; exact h
  · obtain ⟨d', hd', _, _, h⟩ := hp j u hu
    rw [hd] at hd'; cases hd'; exact h

theorem run_loadRow {P : Program} {w : World} {b o : Nat} {us : List Value} (h : ∀ (j : Nat) u, us[j]? = some u → w.cell? ⟨b, o + j, none⟩ = some u) :
    (loadCells ⟨b, o, none⟩ us.length).run P w = .ok us.toArray w := by
  refine run_loadCells_list w ⟨b, o, none⟩ us fun j v hv => ?_
  have := h j v hv
  unfold Addr.add
  split
  · rename_i hj; subst hj; simpa using this
  · exact this

section
variable {pv : Pv} {P : Program} (ok : pv.Ok P)
include ok

theorem take_ok {w : World} {x : X} {b o t : Nat} {c : List D} {d : D} (hc : CellsAt w x b o c) (h : takeD pv t c = some d) :
    ∃ v, (loadVar t ⟨b, o, none⟩).run P w = .ok v w ∧ VR w x d v := by
  unfold takeD at h
  have agg : ∀ td, pv.und t = some td → isAggD td = true → (szOf pv t).bind (fun n => if n ≤ c.length then some (D.agg (c.take n)) else none) = some d →
      ∃ v, (loadVar t ⟨b, o, none⟩).run P w = .ok v w ∧ VR w x d v := by
    intro td hu ha h
    cases hs : szOf pv t with
    | none => simp [hs] at h
    | some n =>
      simp only [hs, Option.bind_some] at h
      split at h
      · rename_i hn
        simp only [Option.some.injEq] at h; subst h
        obtain ⟨us, hl, h1, h2, h3⟩ := (hc.take n).list
        have hln : us.length = n := by simp [hl]; omega
        refine ⟨.agg us.toArray, ?_, .agg _ us hl.symm h2 h3⟩
        simp only [loadVar, Sem.run_bind, run_agg ok hu, Result.andThen_ok, ha, if_true, run_size ok hs]
        have := run_loadRow (P := P) h1
        rw [hln] at this
        simp [this]
      · cases h
  split at h
  · cases h
  · rename_i hu; exact agg _ hu rfl h
  · rename_i hu; exact agg _ hu rfl h
  · rename_i td h1 h2 hu
    have ha : isAggD td = false := by
      cases td <;> first | rfl | (exfalso; first | exact h1 _ rfl | exact h2 _ _ rfl)
    cases c with
    | nil => cases h
    | cons y l =>
      simp at h; subst h
      obtain ⟨u, hu1, hu2, hu3⟩ := hc 0 y rfl
      refine ⟨u, ?_, hu3⟩
      simp only [Nat.add_zero] at hu1
      simp [loadVar, run_agg ok hu, ha, hu1]

theorem part_ok {w : World} {x : X} {t off : Nat} {cs : List D} {vs : List Value} {d : D} (hl : cs.length = vs.length) (h1 : ∀ u ∈ vs, u.oneCell' = true)
    (hr : ∀ (i : Nat) c u, cs[i]? = some c → vs[i]? = some u → VR w x c u) (h : partD pv t cs off = some d) :
    ∃ v, (part t vs.toArray off).run P w = .ok v w ∧ VR w x d v := by
  unfold partD at h
  have agg : ∀ td, pv.und t = some td → isAggD td = true → (szOf pv t).bind (fun n => if off + n ≤ cs.length then some (D.agg ((cs.drop off).take n)) else none) = some d →
      ∃ v, (part t vs.toArray off).run P w = .ok v w ∧ VR w x d v := by
    intro td hu ha h
    cases hs : szOf pv t with
    | none => simp [hs] at h
    | some n =>
      simp only [hs, Option.bind_some] at h
      split at h
      · rename_i hn
        simp only [Option.some.injEq] at h; subst h
        refine ⟨.agg ((vs.drop off).take n).toArray, ?_, .agg _ _ (by simp [hl]) (fun u hu => h1 u (List.mem_of_mem_drop (List.mem_of_mem_take hu))) ?_⟩
        · simp only [part, Sem.run_bind, run_agg ok hu, Result.andThen_ok, ha, if_true, run_size ok hs, Sem.run_pure]
          congr 2
          apply Array.ext'
          simp [List.extract_eq_take_drop]
        · intro i c u hc hu
          rw [List.getElem?_take] at hc hu
          split at hc
          · rename_i hi
            rw [if_pos hi] at hu
            rw [List.getElem?_drop] at hc hu
            exact hr _ c u hc hu
          · cases hc
      · cases h
  split at h
  · cases h
  · rename_i hu; exact agg _ hu rfl h
  · rename_i hu; exact agg _ hu rfl h
  · rename_i td h1' h2' hu
    have ha : isAggD td = false := by
      cases td <;> first | rfl | (exfalso; first | exact h1' _ rfl | exact h2' _ _ rfl)
    have hlt : off < cs.length := by
      rcases Nat.lt_or_ge off cs.length with h' | h'
      · exact h'
      · rw [List.getElem?_eq_none h'] at h; cases h
    obtain ⟨u, hu'⟩ : ∃ u, vs[off]? = some u := ⟨vs[off]'(by omega), List.getElem?_eq_getElem _⟩
    exact ⟨u, by simp [part, run_agg ok hu, ha, hu'], hr off d u h hu'⟩
end
end Go.V
