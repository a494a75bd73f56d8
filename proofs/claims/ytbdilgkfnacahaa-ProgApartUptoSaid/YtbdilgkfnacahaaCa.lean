/-
  Ranges of runes: the canonical form, by plain lists. No program in sight.
-/
namespace Go.V
set_option linter.unusedSimpArgs false
set_option linter.unusedVariables false

abbrev Rg := Int × Int

def memR (l : List Rg) (r : Int) : Prop := ∃ x, x ∈ l ∧ x.1 ≤ r ∧ r ≤ x.2

theorem memR_nil (r : Int) : ¬ memR [] r := by rintro ⟨x, h, _⟩; cases h
theorem memR_cons {x : Rg} {l : List Rg} {r : Int} : memR (x :: l) r ↔ (x.1 ≤ r ∧ r ≤ x.2) ∨ memR l r := by
  constructor
  · rintro ⟨y, hy, h⟩
    rcases List.mem_cons.1 hy with rfl | hy
    · exact .inl h
    · exact .inr ⟨y, hy, h⟩
  · rintro (h | ⟨y, hy, h⟩)
    · exact ⟨x, List.mem_cons_self .., h⟩
    · exact ⟨y, List.mem_cons_of_mem _ hy, h⟩
theorem memR_append {a b : List Rg} {r : Int} : memR (a ++ b) r ↔ memR a r ∨ memR b r := by
  constructor
  · rintro ⟨y, hy, h⟩
    rcases List.mem_append.1 hy with hy | hy
    · exact .inl ⟨y, hy, h⟩
    · exact .inr ⟨y, hy, h⟩
  · rintro (⟨y, hy, h⟩ | ⟨y, hy, h⟩)
    · exact ⟨y, List.mem_append_left _ hy, h⟩
    · exact ⟨y, List.mem_append_right _ hy, h⟩
theorem memR_same {a b : List Rg} (h : ∀ x, x ∈ a ↔ x ∈ b) (r : Int) : memR a r ↔ memR b r := by
  constructor
  · rintro ⟨y, hy, hh⟩; exact ⟨y, (h y).1 hy, hh⟩
  · rintro ⟨y, hy, hh⟩; exact ⟨y, (h y).2 hy, hh⟩

/-- the fewest ranges, rising -/
def canon (l : List Rg) : Prop := (∀ x ∈ l, x.1 ≤ x.2) ∧ l.Pairwise fun x y => x.2 + 1 < y.1

theorem canon_tail {x : Rg} {l : List Rg} (h : canon (x :: l)) : canon l ∧ x.1 ≤ x.2 ∧ ∀ r, memR l r → x.2 + 1 < r := by
  obtain ⟨h1, h2⟩ := h
  rw [List.pairwise_cons] at h2
  refine ⟨⟨fun y hy => h1 y (List.mem_cons_of_mem _ hy), h2.2⟩, h1 x (List.mem_cons_self ..), ?_⟩
  rintro r ⟨y, hy, h3, h4⟩
  have := h2.1 y hy
  omega

theorem canon_unique : ∀ {a b : List Rg}, canon a → canon b → (∀ r, memR a r ↔ memR b r) → a = b
  | [], [], _, _, _ => rfl
  | [], y :: b, _, hb, h => by
    obtain ⟨_, h1, _⟩ := canon_tail hb
    exact absurd ((h y.1).2 (memR_cons.2 (.inl ⟨Int.le_refl _, h1⟩))) (memR_nil _)
  | x :: a, [], ha, _, h => by
    obtain ⟨_, h1, _⟩ := canon_tail ha
    exact absurd ((h x.1).1 (memR_cons.2 (.inl ⟨Int.le_refl _, h1⟩))) (memR_nil _)
  | x :: a, y :: b, ha, hb, h => by
    obtain ⟨ca, xa, fa⟩ := canon_tail ha
    obtain ⟨cb, yb, fb⟩ := canon_tail hb
    have low : ∀ {x y : Rg} {a b : List Rg}, x.1 ≤ x.2 → (∀ r, memR b r → y.2 + 1 < r) → y.1 ≤ y.2 → (∀ r, memR (x :: a) r → memR (y :: b) r) → y.1 ≤ x.1 := by
      intro x y a b hx hf hy hh
      rcases memR_cons.1 (hh x.1 (memR_cons.2 (.inl ⟨Int.le_refl _, hx⟩))) with h | h
      · exact h.1
      · have := hf _ h; omega
    have e1 : x.1 = y.1 := Int.le_antisymm (low yb fa xa fun r => (h r).2) (low xa fb yb fun r => (h r).1)
    have up : ∀ {x y : Rg} {a b : List Rg}, x.1 ≤ x.2 → x.1 = y.1 → (∀ r, memR a r → x.2 + 1 < r) → (∀ r, memR (y :: b) r → memR (x :: a) r) → y.2 ≤ x.2 := by
      intro x y a b hx he hf hh
      rcases Int.lt_or_le x.2 y.2 with h' | h'
      · rcases memR_cons.1 (hh (x.2 + 1) (memR_cons.2 (.inl ⟨by omega, by omega⟩))) with h | h
        · omega
        · have := hf _ h; omega
      · exact h'
    have e2 : x.2 = y.2 := Int.le_antisymm (up yb e1.symm fb fun r => (h r).1) (up xa e1 fa fun r => (h r).2)
    have e : x = y := Prod.ext e1 e2
    subst e
    congr 1
    refine canon_unique ca cb fun r => ⟨fun hr => ?_, fun hr => ?_⟩
    · have := fa r hr
      rcases memR_cons.1 ((h r).1 (memR_cons.2 (.inr hr))) with h | h
      · omega
      · exact h
    · have := fb r hr
      rcases memR_cons.1 ((h r).2 (memR_cons.2 (.inr hr))) with h | h
      · omega
      · exact h

/-- joining ranges that come by rising lows; the last one first -/
def joinR (acc : List Rg) (r : Rg) : List Rg :=
  match acc with
  | [] => [r]
  | k :: rest => if r.1 ≤ k.2 + 1 then (k.1, max k.2 r.2) :: rest else r :: k :: rest

theorem joinR_ok : ∀ (l acc : List Rg), (∀ x ∈ l, x.1 ≤ x.2) → l.Pairwise (fun x y => x.1 ≤ y.1) → (∀ k ∈ acc.head?, ∀ x ∈ l, k.1 ≤ x.1) → (∀ x ∈ acc, x.1 ≤ x.2) → acc.Pairwise (fun x y => y.2 + 1 < x.1) →
    (∀ x ∈ l.foldl joinR acc, x.1 ≤ x.2) ∧ (l.foldl joinR acc).Pairwise (fun x y => y.2 + 1 < x.1) ∧ ∀ r, memR (l.foldl joinR acc) r ↔ memR acc r ∨ memR l r
  | [], acc, _, _, _, h1, h2 => ⟨h1, h2, fun r => ⟨.inl, fun h => h.resolve_right (memR_nil r)⟩⟩
  | x :: l, acc, hl, hp, hk, h1, h2 => by
    rw [List.pairwise_cons] at hp
    have hx := hl x (List.mem_cons_self ..)
    have hl' : ∀ y ∈ l, y.1 ≤ y.2 := fun y hy => hl y (List.mem_cons_of_mem _ hy)
    rw [List.foldl_cons]
    cases acc with
    | nil =>
      obtain ⟨g1, g2, g3⟩ := joinR_ok l [x] hl' hp.2 (fun k hk' y hy => by simp at hk'; subst hk'; exact hp.1 y hy) (fun y hy => by simp at hy; subst hy; exact hx) (by simp)
      refine ⟨g1, g2, fun r => (g3 r).trans ?_⟩
      rw [memR_cons (l := l), memR_cons (l := [])]
      constructor
      · rintro ((h | h) | h)
        · exact .inr (.inl h)
        · exact absurd h (memR_nil r)
        · exact .inr (.inr h)
      · rintro (h | h | h)
        · exact absurd h (memR_nil r)
        · exact .inl (.inl h)
        · exact .inr h
    | cons k rest =>
      have hkx := hk k rfl x (List.mem_cons_self ..)
      have hkk := h1 k (List.mem_cons_self ..)
      rw [List.pairwise_cons] at h2
      unfold joinR
      by_cases hc : x.1 ≤ k.2 + 1
      · simp only [if_pos hc]
        obtain ⟨g1, g2, g3⟩ := joinR_ok l ((k.1, max k.2 x.2) :: rest) hl' hp.2 (fun q hq y hy => by simp at hq; subst hq; have := hp.1 y hy; simp only; omega) (fun y hy => by
          rcases List.mem_cons.1 hy with rfl | hy
          · simp only; omega
          · exact h1 y (List.mem_cons_of_mem _ hy)) (by rw [List.pairwise_cons]; exact ⟨h2.1, h2.2⟩)
        refine ⟨g1, g2, fun r => (g3 r).trans ?_⟩
        rw [memR_cons (l := rest), memR_cons (l := rest), memR_cons (l := l)]
        constructor
        · rintro ((h | h) | h)
          · simp only at h
            by_cases hr : r ≤ k.2
            · exact .inl (.inl ⟨h.1, hr⟩)
            · exact .inr (.inl ⟨by omega, by omega⟩)
          · exact .inl (.inr h)
          · exact .inr (.inr h)
        · rintro ((h | h) | h | h)
          · exact .inl (.inl ⟨h.1, by simp only; omega⟩)
          · exact .inl (.inr h)
          · exact .inl (.inl ⟨by simp only; omega, by simp only; omega⟩)
          · exact .inr h
      · simp only [if_neg hc]
        obtain ⟨g1, g2, g3⟩ := joinR_ok l (x :: k :: rest) hl' hp.2 (fun q hq y hy => by simp at hq; subst hq; exact hp.1 y hy) (fun y hy => by
          rcases List.mem_cons.1 hy with rfl | hy
          · exact hx
          · exact h1 y hy) (by
          rw [List.pairwise_cons]
          refine ⟨fun y hy => ?_, by rw [List.pairwise_cons]; exact h2⟩
          rcases List.mem_cons.1 hy with rfl | hy
          · omega
          · have := h2.1 y hy; omega)
        refine ⟨g1, g2, fun r => (g3 r).trans ?_⟩
        rw [memR_cons (l := k :: rest), memR_cons (l := l)]
        constructor
        · rintro ((h | h) | h)
          · exact .inr (.inl h)
          · exact .inl h
          · exact .inr (.inr h)
        · rintro (h | h | h)
          · exact .inl (.inr h)
          · exact .inl (.inl h)
          · exact .inr h

theorem join_canon {l : List Rg} (h1 : ∀ x ∈ l, x.1 ≤ x.2) (h2 : l.Pairwise fun x y => x.1 ≤ y.1) : canon (l.foldl joinR []).reverse ∧ ∀ r, memR (l.foldl joinR []).reverse r ↔ memR l r := by
  obtain ⟨g1, g2, g3⟩ := joinR_ok l [] h1 h2 (fun k hk => by simp at hk) (fun x hx => by simp at hx) List.Pairwise.nil
  refine ⟨⟨fun x hx => g1 x (List.mem_reverse.1 hx), by rw [List.pairwise_reverse]; exact g2⟩, fun r => ?_⟩
  rw [memR_same (fun x => List.mem_reverse) r, g3 r]
  exact ⟨fun h => h.resolve_left (memR_nil r), .inr⟩

/-- a rune: no half of a pair -/
def isRune (r : Int) : Prop := 0 ≤ r ∧ r ≤ 1114111 ∧ ¬ (55296 ≤ r ∧ r ≤ 57343)

/-- the ranges of runes in a range -/
def runesS (x : Rg) : List Rg :=
  (if max (max x.1 0) 0 ≤ min (min x.2 1114111) 55295 then [(max (max x.1 0) 0, min (min x.2 1114111) 55295)] else []) ++
  (if max (max x.1 0) 57344 ≤ min (min x.2 1114111) 1114111 then [(max (max x.1 0) 57344, min (min x.2 1114111) 1114111)] else [])

theorem runesS_mem (x : Rg) (r : Int) : memR (runesS x) r ↔ isRune r ∧ x.1 ≤ r ∧ r ≤ x.2 := by
  unfold runesS isRune
  rw [memR_append]
  have one : ∀ (a b : Int), memR (if a ≤ b then [(a, b)] else []) r ↔ a ≤ r ∧ r ≤ b := by
    intro a b
    split
    · rw [memR_cons]
      exact ⟨fun h => h.elim id fun h => absurd h (memR_nil r), .inl⟩
    · exact ⟨fun h => absurd h (memR_nil r), fun h => by omega⟩
  rw [one, one]
  omega

theorem runesS_le (x : Rg) : ∀ y ∈ runesS x, y.1 ≤ y.2 ∧ 0 ≤ y.1 ∧ y.2 ≤ 1114111 := by
  intro y hy
  unfold runesS at hy
  rcases List.mem_append.1 hy with h | h <;> split at h <;> simp at h <;> subst h <;> simp only <;> omega

/-- what Make answers: any sorting of the ranges of runes, joined -/
theorem make_canon {l all : List Rg} (hp : ∀ x, x ∈ all ↔ x ∈ l.flatMap runesS) (hs : all.Pairwise fun x y => x.1 ≤ y.1) : canon (all.foldl joinR []).reverse ∧ ∀ r, memR (all.foldl joinR []).reverse r ↔ isRune r ∧ memR l r := by
  have hle : ∀ x ∈ all, x.1 ≤ x.2 := fun x hx => by
    obtain ⟨y, _, hy⟩ := List.mem_flatMap.1 ((hp x).1 hx)
    exact (runesS_le y x hy).1
  obtain ⟨g1, g2⟩ := join_canon hle hs
  refine ⟨g1, fun r => (g2 r).trans ((memR_same hp r).trans ?_)⟩
  constructor
  · rintro ⟨y, hy, h⟩
    obtain ⟨x, hx, hy⟩ := List.mem_flatMap.1 hy
    have := (runesS_mem x r).1 ⟨y, hy, h⟩
    exact ⟨this.1, x, hx, this.2⟩
  · rintro ⟨hr, x, hx, h⟩
    obtain ⟨y, hy, h'⟩ := (runesS_mem x r).2 ⟨hr, h⟩
    exact ⟨y, List.mem_flatMap.2 ⟨x, hx, hy⟩, h'⟩
end Go.V
