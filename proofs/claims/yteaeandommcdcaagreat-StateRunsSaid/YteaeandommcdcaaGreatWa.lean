/-
  The program's view is the program: what a seat has to show.
-/
import Derived.Test.YteaeandommcdcaaGreatVz
namespace Go.V
set_option linter.unusedSimpArgs false
set_option linter.unusedVariables false
set_option linter.unusedSectionVars false
set_option linter.unnecessarySimpa false
open Go.RowKit

def Fits {α : Type} (R : Nat → α → Prop) : Tr α → Nat → Nat → Prop
  | .leaf a, lo, hi => hi = lo + 1 ∧ R lo a
  | .node k l r, lo, hi => Fits R l lo k ∧ Fits R r k hi

theorem Fits.get {α : Type} {R : Nat → α → Prop} : ∀ {tr : Tr α} {lo hi t : Nat}, Fits R tr lo hi → lo ≤ t → t < hi → R t (tr.get t)
  | .leaf a, lo, hi, t, h, h1, h2 => by
    obtain ⟨h3, h4⟩ := h
    have : t = lo := by omega
    subst this; exact h4
  | .node k l r, lo, hi, t, h, h1, h2 => by
    obtain ⟨h3, h4⟩ := h
    simp only [Tr.get]
    cases hb : Nat.ble k t with
    | true => exact h4.get (Nat.le_of_ble_eq_true hb) h2
    | false =>
      have : ¬ k ≤ t := fun hk => by rw [Nat.ble_eq_true_of_le hk] at hb; cases hb
      exact h3.get h1 (by omega)

/-- the static look at one function -/
def fiOk (pv : Pv) (x : Fi) : Bool :=
  match x.fn.body with
  | some b => (x.fn.name != "runtime.NumGoroutine") && codeOk pv x.dyn x.fn.ntmps b
  | none => true

/-- no answer: for functions that V does not bear -/
def noPrim : List D → St → Option (D × St) := fun _ _ => none

def RowF (pv : Pv) (P : Program) (i : Nat) (x : Fi) : Prop := (P.funcs[i]? = some x.fn ∧ x.prim = none ∧ fiOk pv x = true) ∨ x.prim = some noPrim
def RowT (P : Program) (i : Nat) (x : TypeInfo) : Prop := P.info? i = some x

theorem view_ok {pv : Pv} {P : Program} (ht : Fits (RowT P) pv.ty 0 pv.nty) (hf : Fits (RowF pv P) pv.fs 0 pv.nfs) (he : (pv.eqb.all fun t => !P.stoodInHeld t && !P.eqGuardType P.depth t) = true) (hm : P.follows .mixedOrders = true) (hpr : pv.prm = []) :
    pv.Ok P ∧ pv.codes ∧ CfOk P pv (primF pv) := by
  have fi : ∀ f x, pv.fi f = some x → RowF pv P f x := by
    intro f x h
    unfold Pv.fi at h
    split at h
    · rename_i hb
      cases h
      refine hf.get (Nat.zero_le _) ?_
      rcases Nat.lt_or_ge f pv.nfs with h' | h'
      · exact h'
      · rw [Nat.ble_eq_true_of_le h'] at hb; cases hb
    · cases h
  have pn : ∀ f ds st r, primF pv f ds st = some r → False := by
    intro f ds st r h
    unfold primF at h
    rw [hpr] at h
    simp only [lookP] at h
    split at h
    · rename_i x hx
      rcases fi f x hx with ⟨_, h1, _⟩ | h1 <;> rw [h1] at h <;> cases h
    · cases h
  refine ⟨⟨fun t i h => ?_, fun f x h hp => ?_, fun t h => ?_, hm⟩, fun f x b h hp hb => ?_, ⟨fun f ds st r h => (pn f ds st r h).elim, fun f ds st d st' h => (pn f ds st _ h).elim, fun f ds st d st' h => (pn f ds st _ h).elim, fun f ds st d st' h => (pn f ds st _ h).elim⟩⟩
  · unfold Pv.info at h
    split at h
    · rename_i hb
      cases h
      refine ht.get (Nat.zero_le _) ?_
      rcases Nat.lt_or_ge t pv.nty with h' | h'
      · exact h'
      · rw [Nat.ble_eq_true_of_le h'] at hb; cases hb
    · cases h
  · obtain ⟨h1, _, h3⟩ := (fi f x h).resolve_right (by rw [hp]; simp)
    refine ⟨h1, fun b hb => ?_⟩
    unfold fiOk at h3
    rw [hb] at h3
    simp only [Bool.and_eq_true, bne_iff_ne, ne_eq] at h3
    exact h3.1
  · have := List.all_eq_true.1 he t (by simpa using h)
    simpa using this
  · obtain ⟨_, _, h3⟩ := (fi f x h).resolve_right (by rw [hp]; simp)
    unfold fiOk at h3
    rw [hb] at h3
    simp only [Bool.and_eq_true] at h3
    exact h3.2

/-- what V answers, the model's call answers: from a world in which nothing is V's yet -/
theorem sound {pv : Pv} {P : Program} (h : pv.Ok P ∧ pv.codes ∧ CfOk P pv (primF pv)) {n f : Nat} {ds : List D} {d : D} {st' : St} (hs : callD pv n f ds ⟨[], 0, 0⟩ = some (d, st')) {w : World} {Z : Nat → Prop} (hZ : ∀ b, Z b → b < w.heap.size) {us : List Value} (hl : ds.length = us.length)
    (hr : ∀ (i : Nat) c v, ds[i]? = some c → us[i]? = some v → IR w Z c v) : Calls P f us.toArray w fun e w' => ∃ v β' Z', e = .returned v ∧ Evo (fun _ => False) w w' ∧ VR w' (st'.x β' Z') d v := by
  have hsim : Sim w ⟨[], 0, 0⟩ (fun _ => none) Z := ⟨fun _ _ _ h => (by cases h), fun _ _ _ h => (by cases h), fun _ _ _ _ _ h => (by cases h), fun _ _ _ h => (by cases h), hZ, fun _ _ _ _ h => (by cases h), Nat.le_refl _, Nat.le_refl _⟩
  refine ((call_ok h.1 h.2.1 h.2.2 n).calls f ds _ d st' hs w _ Z us hsim hl fun i c v hc hv => .im _ _ (hr i c v hc hv)).mono fun e w' => ?_
  rintro ⟨v, β', Z', he, hn, hv, _⟩
  refine ⟨v, β', Z', he, hn.evo.mono ?_, hv⟩
  rintro b ⟨k, base, h, _⟩
  cases h
end Go.V
