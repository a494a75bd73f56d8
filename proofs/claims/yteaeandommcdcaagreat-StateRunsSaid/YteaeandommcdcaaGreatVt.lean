/-
  A region that draws its order does what V does in the text's order.
-/
import Derived.Test.YteaeandommcdcaaGreatVs
namespace Go.V
set_option linter.unusedSimpArgs false
set_option linter.unusedVariables false
set_option linter.unusedSectionVars false
set_option linter.unnecessarySimpa false
open Go.RowKit

theorem maxEff (p : Nat → Prop) (base : Nat) : ∀ n, ∃ m, base ≤ m ∧ (∀ j, j < n → p j → j + 1 ≤ m) ∧ (m = base ∨ ∃ j, j < n ∧ p j ∧ m = j + 1)
  | 0 => ⟨base, Nat.le_refl _, fun _ h => by omega, .inl rfl⟩
  | n + 1 => by
    obtain ⟨m, h1, h2, h3⟩ := maxEff p base n
    by_cases hp : p n
    · by_cases hm : n + 1 ≤ m
      · refine ⟨m, h1, fun j hj hpj => ?_, ?_⟩
        · rcases Nat.lt_or_ge j n with h' | h'
          · exact h2 j h' hpj
          · have : j = n := by omega
            subst this; exact hm
        · rcases h3 with h3 | ⟨j, q1, q2, q3⟩
          · exact .inl h3
          · exact .inr ⟨j, by omega, q2, q3⟩
      · refine ⟨n + 1, by omega, fun j hj _ => by omega, .inr ⟨n, by omega, hp, rfl⟩⟩
    · refine ⟨m, h1, fun j hj hpj => ?_, ?_⟩
      · rcases Nat.lt_or_ge j n with h' | h'
        · exact h2 j h' hpj
        · have : j = n := by omega
          subst this; exact absurd hpj hp
      · rcases h3 with h3 | ⟨j, q1, q2, q3⟩
        · exact .inl h3
        · exact .inr ⟨j, by omega, q2, q3⟩

def effI (pv : Pv) (ops : Array Oper) (F : Nat → Fr) (i : Nat) : Prop := ∃ o, ops[i]? = some o ∧ effB pv o = true ∧ wantD ops (F i) o = some true

def Hs (S : Nat → St) (sg : Nat → Nat) (k : Nat) : Box := ((S (sg k)).bs[k]?).getD .dead

def Xm (S : Nat → St) (sg : Nat → Nat) (β : Nat → Option (Nat × Nat)) (Z : Nat → Prop) (m : Nat) : X := ⟨fun k => boxVer (Hs S sg k), fun k => if k < (S m).bs.length then β k else none, Z⟩

def stg (ops : Array Oper) (E : Nat → Bool) (t : Nat) : Nat :=
  match lastW ops E t ops.size with
  | some j => j + 1
  | none => 0

def val (ops : Array Oper) (F : Nat → Fr) (dd : Nat → D) (E : Nat → Bool) (t : Nat) : D :=
  match lastW ops E t ops.size with
  | some j => cput (F 0) t (dd j)
  | none => (F 0).get t

structure DI (pv : Pv) (ops : Array Oper) (F : Nat → Fr) (S : Nat → St) (dd : Nat → D) (a0 : Act) (w0 : World) (β0 : Nat → Option (Nat × Nat)) (Z0 : Nat → Prop)
    (E : Nat → Bool) (a : Act) (w : World) (β : Nat → Option (Nat × Nat)) (Z : Nat → Prop) (sg : Nat → Nat) : Prop where
  size : a.tmps.size = a0.tmps.size
  defers : a.defers = a0.defers
  clo : Closed ops E
  bnd : ∀ k, E k = true → k < ops.size
  dom : ∀ k p, β k = some p → k < (S (sg k)).bs.length ∧ sg k ≤ ops.size ∧ (sg k = 0 ∨ ∃ j, E j = true ∧ sg k = j + 1 ∧ (effI pv ops F j ∨ (S j).bs.length ≤ k))
  cr : ∀ k p, β k = some p → ∀ i, i < ops.size → (S i).bs.length ≤ k → k < (S (i + 1)).bs.length → E i = true
  sg2 : ∀ k p, β k = some p → ∀ j, E j = true → effI pv ops F j → k < (S j).bs.length → j + 1 ≤ sg k
  ph : ∀ k, β k = none → ∀ j, E j = true → effI pv ops F j → k < (S j).bs.length → (S (j + 1)).bs[k]? = (S j).bs[k]?
  lt : ∀ k b base, β k = some (b, base) → b < w.heap.size
  inj : ∀ k k' b x x', β k = some (b, x) → β k' = some (b, x') → k = k'
  zd : ∀ k b base, β k = some (b, base) → ¬ Z b
  zl : ∀ b, Z b → b < w.heap.size
  box : ∀ k b base, β k = some (b, base) → BoxOk w (Xm S sg β Z (sg k)) b base (Hs S sg k)
  frame : ∀ t, VR w (Xm S sg β Z (stg ops E t)) (val ops F dd E t) (a.tmps.getD t undef)
  evo : Evo (wrt (S 0) β0) w0 w
  keeps : Keeps w0 ((S 0).x β0 Z0) w (Xm S sg β Z ops.size)
  fresh : ∀ k b base, β k = some (b, base) → (∃ base', β0 k = some (b, base')) ∨ w0.heap.size ≤ b
  zfresh : ∀ b, Z b → Z0 b ∨ w0.heap.size ≤ b
  low : ∀ k, k < (S 0).ro → β k = β0 k
  old : ∀ k, k < (S 0).bs.length → β0 k = none → β k = none

section
variable {pv : Pv} {P : Program} (ok : pv.Ok P) {cf : CallF} (hcf : CfOk P pv cf) {ops : Array Oper} {F : Nat → Fr} {S : Nat → St} {dd : Nat → D} (ht : Trace pv cf ops ops.toList F S dd) {dy : List (Nat × Nat)} (hreg : okReg pv ops dy = true)
include hcf ht

theorem tr_goes (i : Nat) (hi : i < ops.size) : Goes (S i) (S (i + 1)) ∧ (¬ effI pv ops F i → ∀ k, k < (S i).bs.length → (S (i + 1)).bs[k]? = (S i).bs[k]?) := by
  have ho : ops[i]? = some ops[i] := Array.getElem?_eq_getElem hi
  rcases ht.step i ops[i] (by simpa using ho) with ⟨h1, h2⟩ | ⟨_, _, h3⟩
  · obtain ⟨g1, g2⟩ := operD_goes hcf h2
    refine ⟨g1, fun hn k hk => ?_⟩
    have he : effB pv ops[i] = false := by
      cases h : effB pv ops[i] with
      | false => rfl
      | true => exact absurd ⟨_, ho, h, h1⟩ hn
    obtain ⟨l, h⟩ := g2 he
    rw [h]; simp only; rw [List.getElem?_append_left hk]
  · rw [h3]; exact ⟨.refl _, fun _ _ _ => rfl⟩

theorem tr_mono : ∀ (j i : Nat), i ≤ j → j ≤ ops.size → Goes (S i) (S j)
  | 0, i, h, _ => by
    have : i = 0 := by omega
    subst this; exact .refl _
  | j + 1, i, h, hj => by
    rcases Nat.lt_or_ge i (j + 1) with h' | h'
    · exact (tr_mono j i (by omega) (by omega)).trans (tr_goes hcf ht j (by omega)).1
    · have : i = j + 1 := by omega
      subst this; exact .refl _

theorem tr_still {i : Nat} : ∀ (j : Nat), i ≤ j → j ≤ ops.size → ∀ k, k < (S i).bs.length → (∀ q, i ≤ q → q < j → ¬ effI pv ops F q ∨ (S (q + 1)).bs[k]? = (S q).bs[k]?) → (S j).bs[k]? = (S i).bs[k]?
  | 0, h, _, k, _, _ => by
    have : i = 0 := by omega
    subst this; rfl
  | j + 1, h, hj, k, hk, hq => by
    rcases Nat.lt_or_ge i (j + 1) with h' | h'
    · have ih := tr_still j (by omega) (by omega) k hk fun q h1 h2 => hq q h1 (by omega)
      have hkj : k < (S j).bs.length := Nat.lt_of_lt_of_le hk (tr_mono hcf ht j i (by omega) (by omega)).len
      rcases hq j (by omega) (by omega) with h1 | h1
      · exact ((tr_goes hcf ht j (by omega)).2 h1 k hkj).trans ih
      · exact h1.trans ih
    · have : i = j + 1 := by omega
      subst this; rfl

theorem Xm_mono {w : World} {sg : Nat → Nat} {β : Nat → Option (Nat × Nat)} {Z : Nat → Prop} {m m' : Nat} (h : m ≤ m') (h' : m' ≤ ops.size) : Keeps w (Xm S sg β Z m) w (Xm S sg β Z m') := by
  have hl := (tr_mono hcf ht m' m h h').len
  have key : ∀ k p, (Xm S sg β Z m).β k = some p → (Xm S sg β Z m').β k = some p := by
    intro k p hp
    simp only [Xm] at hp ⊢
    split at hp
    · rename_i hk; rw [if_pos (by omega)]; exact hp
    · cases hp
  exact ⟨fun k p hp => ⟨p, key k p hp⟩, fun b hb => ⟨hb, rfl⟩, fun k c p _ hc => ⟨c, hc, Nat.le_refl _⟩, fun k c _ _ b base hb => ⟨key k _ hb, rfl⟩⟩

/-- at an operation that sees the boxes, what is known of a box is what V has -/
theorem seen_box {a0 a : Act} {w0 w : World} {β0 β : Nat → Option (Nat × Nat)} {Z0 Z : Nat → Prop} {E : Nat → Bool} {sg : Nat → Nat} (h : DI pv ops F S dd a0 w0 β0 Z0 E a w β Z sg) {i : Nat} (hi : i ≤ ops.size)
    (hd : ∀ j, j < i → effI pv ops F j → E j = true) (hu : ∀ j, i ≤ j → effI pv ops F j → E j = false) {k : Nat} {p : Nat × Nat} (hk : β k = some p) (hki : k < (S i).bs.length) :
    sg k ≤ i ∧ Hs S sg k = ((S i).bs[k]?).getD .dead ∧ (S i).bs[k]? = some (Hs S sg k) := by
  obtain ⟨h1, h2, h3⟩ := h.dom k p hk
  have hle : sg k ≤ i := by
    rcases h3 with h3 | ⟨j, q1, q2, q3⟩
    · omega
    · rw [q2]
      rcases q3 with q3 | q3
      · rcases Nat.lt_or_ge j i with h' | h'
        · exact h'
        · have := hu j h' q3; rw [this] at q1; cases q1
      · rcases Nat.lt_or_ge j i with h' | h'
        · exact h'
        · have hjn := h.bnd j q1
          have := (tr_mono hcf ht j i h' (by omega)).len
          omega
  have heq := tr_still hcf ht i hle hi k h1 fun q hq1 hq2 => by
    by_cases he : effI pv ops F q
    · have hE := hd q hq2 he
      have hkq : k < (S q).bs.length := Nat.lt_of_lt_of_le h1 (tr_mono hcf ht q (sg k) hq1 (by omega)).len
      have := h.sg2 k p hk q hE he hkq
      omega
    · exact .inl he
  refine ⟨hle, by simp only [Hs]; rw [heq], ?_⟩
  rw [heq]
  simp only [Hs]
  rw [List.getElem?_eq_getElem h1]; rfl

end
end Go.V
