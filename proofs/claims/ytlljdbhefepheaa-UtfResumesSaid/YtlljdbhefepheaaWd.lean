/-
  Arguments of plain types; from a call's answer to the model's call.
-/
import Derived.Test.YtlljdbhefepheaaWc
import Derived.Test.YtlljdbhefepheaaLf
import Derived.Below
namespace Go.V
set_option linter.unusedSimpArgs false
set_option linter.unusedVariables false
set_option linter.unusedSectionVars false
set_option linter.unnecessarySimpa false
open Go.RowKit

theorem wf_u8 {n : Int} (h : (Lit.int .u8 n).wf = true) : ∃ y : UInt8, n = (y.toNat : Nat) := by
  have : 0 ≤ n ∧ n ≤ 255 := by simpa [Lit.wf, IntKind.min, IntKind.max, IntKind.signed, IntKind.bits] using h
  refine ⟨UInt8.ofNat n.toNat, ?_⟩
  rw [show (UInt8.ofNat n.toNat).toNat = n.toNat % 256 from rfl]
  omega

/-- a slice of bytes -/
theorem arg_bytes {H : Type} {enc : TypeId × Value → H} {P : Program} {w : World} {spare : Nat → Bool} {held : Bool} {t e : TypeId} {v : Value} {d : DataW H} {ps : List MemPlace} (h : DataW.Trod enc P w 0 spare held t v d ps) (ht : P.underlying t = some (.slice e)) (he : P.underlying e = some (.int .u8)) :
    ∃ b : List UInt8, (∀ st, Bytes st (dval d) b) ∧ ((d = .nil ∧ b = []) ∨ ∃ elems rest, d = .slice elems rest ∧ elems.length = b.length) := by
  obtain ⟨fuel, h⟩ := h
  cases fuel with
  | zero => simp [DataW.trod] at h
  | succ fuel =>
    unfold DataW.trod at h
    rw [ht] at h
    generalize v.cells.toList = cs at h
    rcases cs with _ | ⟨v, _ | ⟨v2, cs⟩⟩ <;> try (simp at h; done)
    cases v <;> try (simp at h; done)
    rename_i a len cap
    cases a with
    | none =>
      cases len <;> cases cap <;> simp at h
      obtain ⟨rfl, rfl⟩ := h
      exact ⟨[], fun st => .nul, .inl ⟨rfl, rfl⟩⟩
    | some a =>
      simp only at h
      split at h
      · simp only [Option.bind_eq_some_iff, Option.map_eq_some_iff] at h
        obtain ⟨elems, hm, rest, hr, hd⟩ := h
        cases hd
        have hlen : elems.length = len := by simpa using mapM_some_length hm
        have hget := mapM_some_get hm
        have each : ∀ x ∈ elems, ∃ y : UInt8, x.1 = .lit (.int .u8 (y.toNat : Nat)) := by
          intro x hx
          obtain ⟨i, hi⟩ := List.getElem?_of_mem hx
          have hil : i < len := by
            rcases Nat.lt_or_ge i len with h' | h'
            · exact h'
            · rw [List.getElem?_eq_none (by omega)] at hi; cases hi
          have h1 := hget i i (by simp [hil])
          rw [hi] at h1
          obtain ⟨cs, _, hx⟩ := Option.bind_eq_some_iff.1 h1
          cases fuel with
          | zero => simp [DataW.trod] at hx
          | succ fuel =>
            unfold DataW.trod at hx
            rw [he] at hx
            rcases cs with _ | ⟨v, _ | ⟨v2, cs⟩⟩ <;> try (simp at hx; done)
            cases v <;> simp at hx
            obtain ⟨⟨rfl, hw⟩, hx⟩ := hx
            obtain ⟨y, rfl⟩ := wf_u8 hw
            exact ⟨y, by rw [← hx]⟩
        have hb : ∃ b : List UInt8, elems.map (·.1) = b.map fun y => DataW.lit (.int .u8 (y.toNat : Nat)) := by
          clear hm hget hlen hr
          induction elems with
          | nil => exact ⟨[], rfl⟩
          | cons x elems ih =>
            obtain ⟨y, hy⟩ := each x (List.mem_cons_self ..)
            obtain ⟨b, hb⟩ := ih fun z hz => each z (List.mem_cons_of_mem _ hz)
            exact ⟨y :: b, by simp [hy, hb]⟩
        obtain ⟨b, hb⟩ := hb
        refine ⟨b, fun st => ?_, .inr ⟨_, _, rfl, ?_⟩⟩
        · have e1 : dval (DataW.slice (elems.map (·.1)) (rest.map (·.1))) = .sl (b.map fun y => D.int .u8 (y.toNat : Nat)) := by
            show D.sl (dels (elems.map (·.1))) = _
            rw [hb, dels_map, List.map_map]; rfl
          rw [e1]
          have := Rows.sl (st := st) (s := 1) (b.map fun y => D.int .u8 (y.toNat : Nat)) (fun e he => by
            obtain ⟨y, _, rfl⟩ := List.mem_map.1 he; exact ⟨rfl, rfl⟩)
          rw [List.map_map] at this
          exact this
        · rw [hb]; simp
      · cases h

theorem arg_string {H : Type} {enc : TypeId × Value → H} {P : Program} {w : World} {spare : Nat → Bool} {held : Bool} {t : TypeId} {v : Value} {d : DataW H} {ps : List MemPlace} (h : DataW.Trod enc P w 0 spare held t v d ps) (ht : P.underlying t = some .string) :
    ∃ l : List UInt8, dval d = .str l ∧ d = .lit (.string l) := by
  obtain ⟨fuel, h⟩ := h
  cases fuel with
  | zero => simp [DataW.trod] at h
  | succ fuel =>
    unfold DataW.trod at h
    rw [ht] at h
    generalize v.cells.toList = cs at h
    rcases cs with _ | ⟨v, _ | ⟨v2, cs⟩⟩ <;> try (simp at h; done)
    cases v <;> simp at h
    obtain ⟨_, rfl, _⟩ := h
    exact ⟨_, rfl, rfl⟩

theorem arg_int {H : Type} {enc : TypeId × Value → H} {P : Program} {w : World} {spare : Nat → Bool} {held : Bool} {t : TypeId} {v : Value} {d : DataW H} {ps : List MemPlace} {k : IntKind} (h : DataW.Trod enc P w 0 spare held t v d ps) (ht : P.underlying t = some (.int k)) :
    ∃ n : Int, dval d = .int k n ∧ d = .lit (.int k n) ∧ (Lit.int k n).wf = true := by
  obtain ⟨fuel, h⟩ := h
  cases fuel with
  | zero => simp [DataW.trod] at h
  | succ fuel =>
    unfold DataW.trod at h
    rw [ht] at h
    generalize v.cells.toList = cs at h
    rcases cs with _ | ⟨v, _ | ⟨v2, cs⟩⟩ <;> try (simp at h; done)
    cases v <;> simp at h
    obtain ⟨⟨rfl, hw⟩, rfl, _⟩ := h
    exact ⟨_, rfl, rfl, hw⟩

/-- what V answers of a law: the model's call -/
theorem law_calls {pv : Pv} {P : Program} (h : pv.Ok P ∧ pv.codes ∧ CfOk P pv (primF pv)) {f : Nat} {ds : List D} {st' : St} (hs : Ev pv f ds ⟨[], 0, 0⟩ (.bool true) st') {w : World} {us : List Value} (hl : ds.length = us.length)
    (hr : ∀ (i : Nat) c v, ds[i]? = some c → us[i]? = some v → IR w (fun b => b < w.heap.size) c v) : Calls P f us.toArray w fun e w' => e = .returned (.bool true) ∧ Below w.heap.size w w' := by
  obtain ⟨N, hN⟩ := Ev.out hs
  refine (sound h (hN N (Nat.le_refl _)) (w := w) (Z := fun b => b < w.heap.size) (fun _ h => h) hl hr).mono fun e w' => ?_
  rintro ⟨v, β', Z', rfl, he, hv⟩
  rw [vr_bool hv]
  exact ⟨rfl, ⟨he.os, he.tape, he.output, he.size, fun k hk => he.block k hk fun f => f⟩⟩
end Go.V
