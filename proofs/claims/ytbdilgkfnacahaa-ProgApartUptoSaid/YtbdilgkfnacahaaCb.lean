/-
  Ranges of runes: the document's own Make (marks, pieces) is canonical too. No program in sight.
-/
import Derived.Test.YtbdilgkfnacahaaCa
namespace Go.V
set_option linter.unusedSimpArgs false
set_option linter.unusedVariables false

def hasS : List Rg → Int → Bool
  | [], _ => false
  | x :: l, r => (decide (x.1 ≤ r) && decide (r ≤ x.2)) || hasS l r

theorem hasS_iff : ∀ (l : List Rg) (r : Int), hasS l r = true ↔ memR l r
  | [], r => ⟨fun h => (by cases h), fun h => absurd h (memR_nil r)⟩
  | x :: l, r => by
    rw [memR_cons, ← hasS_iff l r]
    simp [hasS]

/-- what the ranges' ends add to the marks -/
def endsS (x : Rg) : List Int :=
  (if x.1 ≤ x.2 ∧ 0 ≤ x.1 ∧ x.1 ≤ 1114111 then [x.1] else []) ++ (if x.1 ≤ x.2 ∧ 0 ≤ x.2 ∧ x.2 < 1114111 then [x.2 + 1] else [])

/-- a piece behind others (last one first) -/
def pieceS (acc : List Rg) (lo hi : Int) : List Rg :=
  match acc with
  | [] => [(lo, hi)]
  | k :: rest => if k.2 + 1 = lo then (k.1, hi) :: rest else (lo, hi) :: k :: rest

def okM (l : List Rg) (yes : Bool) (a b : Int) : Bool := decide (a < b) && (decide (a < 55296) || decide (57343 < a)) && (hasS l a == yes)

def piecesS (l : List Rg) (yes : Bool) : List Int → List Rg → List Rg
  | a :: b :: t, acc => piecesS l yes (b :: t) (if okM l yes a b = true then pieceS acc a (b - 1) else acc)
  | _, acc => acc

/-- the sorted marks' property: between neighbours nothing turns -/
theorem between {l : List Rg} {m : List Int} {a b : Int} (hm : ∀ x ∈ l, ∀ e ∈ endsS x, e ≤ a ∨ b ≤ e) (h1 : 55296 ≤ a ∨ b ≤ 55296) (h2 : 57344 ≤ a ∨ b ≤ 57344) (ha : 0 ≤ a) (hb : b ≤ 1114112) {r : Int} (hr : a ≤ r) (hrb : r < b) :
    (isRune r ↔ ¬ (55296 ≤ a ∧ a ≤ 57343)) ∧ (memR l r ↔ memR l a) := by
  refine ⟨by unfold isRune; omega, ?_, ?_⟩
  · rintro ⟨x, hx, h3, h4⟩
    refine ⟨x, hx, ?_, by omega⟩
    rcases Int.lt_or_le a x.1 with h | h
    · have := hm x hx x.1 (by unfold endsS; rw [if_pos (by omega)]; simp)
      omega
    · exact h
  · rintro ⟨x, hx, h3, h4⟩
    refine ⟨x, hx, by omega, ?_⟩
    rcases Int.lt_or_le x.2 r with h | h
    · have := hm x hx (x.2 + 1) (by unfold endsS; rw [if_pos (c := x.1 ≤ x.2 ∧ 0 ≤ x.2 ∧ x.2 < 1114111) (by omega)]; simp)
      omega
    · exact h

theorem piece_ok {acc : List Rg} {lo hi : Int} (h1 : ∀ x ∈ acc, x.1 ≤ x.2) (h2 : acc.Pairwise (fun x y => y.2 + 1 < x.1)) (h3 : ∀ x ∈ acc, x.2 < lo) (h4 : lo ≤ hi) :
    (∀ x ∈ pieceS acc lo hi, x.1 ≤ x.2) ∧ (pieceS acc lo hi).Pairwise (fun x y => y.2 + 1 < x.1) ∧ (∀ x ∈ pieceS acc lo hi, x.2 ≤ hi) ∧ ∀ r, memR (pieceS acc lo hi) r ↔ memR acc r ∨ (lo ≤ r ∧ r ≤ hi) := by
  cases acc with
  | nil =>
    refine ⟨by simp [pieceS, h4], by simp [pieceS], by simp [pieceS], fun r => ?_⟩
    simp only [pieceS]
    rw [memR_cons]
    exact ⟨fun h => .inr (h.resolve_right (memR_nil r)), fun h => .inl (h.resolve_left (memR_nil r))⟩
  | cons k rest =>
    have hk := h1 k (List.mem_cons_self ..)
    have hk3 := h3 k (List.mem_cons_self ..)
    rw [List.pairwise_cons] at h2
    unfold pieceS
    by_cases hc : k.2 + 1 = lo
    · simp only [if_pos hc]
      refine ⟨fun x hx => ?_, ?_, fun x hx => ?_, fun r => ?_⟩
      · rcases List.mem_cons.1 hx with rfl | hx
        · simp only; omega
        · exact h1 x (List.mem_cons_of_mem _ hx)
      · rw [List.pairwise_cons]; exact ⟨h2.1, h2.2⟩
      · rcases List.mem_cons.1 hx with rfl | hx
        · simp
        · have := h3 x (List.mem_cons_of_mem _ hx); omega
      · rw [memR_cons (l := rest), memR_cons (l := rest)]
        simp only
        constructor
        · rintro (h | h)
          · by_cases hh : r ≤ k.2
            · exact .inl (.inl ⟨h.1, hh⟩)
            · exact .inr (by omega)
          · exact .inl (.inr h)
        · rintro ((h | h) | h)
          · exact .inl (by omega)
          · exact .inr h
          · exact .inl (by omega)
    · simp only [if_neg hc]
      refine ⟨fun x hx => ?_, ?_, fun x hx => ?_, fun r => ?_⟩
      · rcases List.mem_cons.1 hx with rfl | hx
        · exact h4
        · exact h1 x hx
      · rw [List.pairwise_cons]
        refine ⟨fun y hy => ?_, by rw [List.pairwise_cons]; exact h2⟩
        rcases List.mem_cons.1 hy with rfl | hy
        · simp only; omega
        · have := h2.1 y hy; simp only; omega
      · rcases List.mem_cons.1 hx with rfl | hx
        · exact Int.le_refl _
        · have := h3 x hx; omega
      · rw [memR_cons]
        exact ⟨fun h => h.elim .inr .inl, fun h => h.elim .inr .inl⟩

theorem pieces_ok (l : List Rg) (yes : Bool) : ∀ (m : List Int) (acc : List Rg), m.Pairwise (· ≤ ·) → (∀ a ∈ m, 0 ≤ a ∧ a ≤ 1114112) →
    (∀ q : Int, (q = 55296 ∨ q = 57344 ∨ ∃ x ∈ l, q ∈ endsS x) → q ∈ m ∨ ∀ a ∈ m, q ≤ a) → (∀ x ∈ acc, x.1 ≤ x.2) → acc.Pairwise (fun x y => y.2 + 1 < x.1) → (∀ x ∈ acc, ∀ a ∈ m.head?, x.2 < a) →
    (∀ x ∈ piecesS l yes m acc, x.1 ≤ x.2) ∧ (piecesS l yes m acc).Pairwise (fun x y => y.2 + 1 < x.1) ∧
    ∀ r, memR (piecesS l yes m acc) r ↔ memR acc r ∨ (isRune r ∧ (memR l r ↔ yes = true) ∧ (∃ a ∈ m.head?, a ≤ r) ∧ ∃ b ∈ m.getLast?, r < b)
  | [], acc, _, _, _, h1, h2, _ => ⟨h1, h2, fun r => ⟨.inl, fun h => h.elim id (by rintro ⟨_, _, ⟨a, h, _⟩, _⟩; simp at h)⟩⟩
  | [a], acc, _, _, _, h1, h2, _ => ⟨h1, h2, fun r => ⟨.inl, fun h => h.elim id (by rintro ⟨_, _, ⟨a', h, h'⟩, b, hb, hb'⟩; simp at h hb; omega)⟩⟩
  | a :: b :: t, acc, hs, hr, hm, h1, h2, h3 => by
    have hs0 := hs
    rw [List.pairwise_cons] at hs
    have hab : a ≤ b := hs.1 b (List.mem_cons_self ..)
    have ha := hr a (List.mem_cons_self ..)
    have hb := hr b (List.mem_cons_of_mem _ (List.mem_cons_self ..))
    have key : ∀ q : Int, (q = 55296 ∨ q = 57344 ∨ ∃ x ∈ l, q ∈ endsS x) → q ≤ a ∨ b ≤ q := by
      intro q hq
      rcases hm q hq with h | h
      · rcases List.mem_cons.1 h with rfl | h
        · exact .inl (Int.le_refl _)
        · rcases List.mem_cons.1 h with rfl | h
          · exact .inr (Int.le_refl _)
          · have := (List.pairwise_cons.1 hs.2).1 q h
            exact .inr this
      · exact .inl (h a (List.mem_cons_self ..))
    have hbt : ∀ r, a ≤ r → r < b → (isRune r ↔ ¬ (55296 ≤ a ∧ a ≤ 57343)) ∧ (memR l r ↔ memR l a) := fun r h h' =>
      between (m := []) (fun x hx e he => key e (.inr (.inr ⟨x, hx, he⟩))) (by have := key 55296 (.inl rfl); omega) (by have := key 57344 (.inr (.inl rfl)); omega) ha.1 hb.2 h h'
    have hm' : ∀ q : Int, (q = 55296 ∨ q = 57344 ∨ ∃ x ∈ l, q ∈ endsS x) → q ∈ b :: t ∨ ∀ c ∈ b :: t, q ≤ c := by
      intro q hq
      rcases hm q hq with h | h
      · rcases List.mem_cons.1 h with rfl | h
        · exact .inr hs.1
        · exact .inl h
      · exact .inr fun c hc => h c (List.mem_cons_of_mem _ hc)
    have hr' : ∀ c ∈ b :: t, 0 ≤ c ∧ c ≤ 1114112 := fun c hc => hr c (List.mem_cons_of_mem _ hc)
    have hlast : ∀ r, (∃ e ∈ (a :: b :: t).getLast?, r < e) ↔ ∃ e ∈ (b :: t).getLast?, r < e := fun r => by rw [List.getLast?_cons_cons]
    have hbl : ∃ e ∈ (b :: t).getLast?, b ≤ e := by
      refine ⟨(b :: t).getLast (by simp), by rw [List.getLast?_eq_some_getLast (by simp)]; simp, ?_⟩
      have := List.getLast_mem (l := b :: t) (by simp)
      rcases List.mem_cons.1 this with h | h
      · rw [h]; exact Int.le_refl _
      · exact (List.pairwise_cons.1 hs.2).1 _ h
    have hok : okM l yes a b = true ↔ a < b ∧ ¬ (55296 ≤ a ∧ a ≤ 57343) ∧ (memR l a ↔ yes = true) := by
      unfold okM
      rw [← hasS_iff]
      cases hasS l a <;> cases yes <;> simp <;> omega
    unfold piecesS
    by_cases hc : okM l yes a b = true
    · rw [if_pos hc]
      obtain ⟨c1, c2, c3⟩ := hok.1 hc
      obtain ⟨p1, p2, p3, p4⟩ := piece_ok h1 h2 (fun x hx => h3 x hx a rfl) (show a ≤ b - 1 by omega)
      obtain ⟨g1, g2, g3⟩ := pieces_ok l yes (b :: t) _ hs.2 hr' hm' p1 p2 (fun x hx c hc => by simp at hc; subst hc; have := p3 x hx; omega)
      refine ⟨g1, g2, fun r => (g3 r).trans ?_⟩
      rw [p4, hlast]
      constructor
      · rintro ((h | h) | ⟨h4, h5, ⟨c, hc, h6⟩, h7⟩)
        · exact .inl h
        · obtain ⟨k1, k2⟩ := hbt r h.1 (by omega)
          obtain ⟨e, he, hbe⟩ := hbl
          exact .inr ⟨k1.2 c2, k2.trans c3, ⟨a, rfl, h.1⟩, e, he, by omega⟩
        · simp at hc; subst hc
          exact .inr ⟨h4, h5, ⟨a, rfl, by omega⟩, h7⟩
      · rintro (h | ⟨h4, h5, ⟨c, hc, h6⟩, h7⟩)
        · exact .inl (.inl h)
        · simp at hc; subst hc
          by_cases hrb : r < b
          · exact .inl (.inr (by omega))
          · exact .inr ⟨h4, h5, ⟨b, rfl, by omega⟩, h7⟩
    · rw [if_neg hc]
      obtain ⟨g1, g2, g3⟩ := pieces_ok l yes (b :: t) acc hs.2 hr' hm' h1 h2 (fun x hx c hc => by simp at hc; subst hc; have := h3 x hx a rfl; omega)
      refine ⟨g1, g2, fun r => (g3 r).trans ?_⟩
      rw [hlast]
      constructor
      · rintro (h | ⟨h4, h5, ⟨c, hc, h6⟩, h7⟩)
        · exact .inl h
        · simp at hc; subst hc
          exact .inr ⟨h4, h5, ⟨a, rfl, by omega⟩, h7⟩
      · rintro (h | ⟨h4, h5, ⟨c, hc', h6⟩, h7⟩)
        · exact .inl h
        · simp at hc'; subst hc'
          by_cases hrb : r < b
          · exfalso
            obtain ⟨k1, k2⟩ := hbt r h6 hrb
            exact hc (hok.2 ⟨by omega, k1.1 h4, k2.symm.trans h5⟩)
          · exact .inr ⟨h4, h5, ⟨b, rfl, by omega⟩, h7⟩

/-- what the document's Make answers: any sorting of the marks, in pieces -/
theorem refmake_canon {l : List Rg} {m : List Int} (yes : Bool) (hp : ∀ q, q ∈ m ↔ q = 0 ∨ q = 55296 ∨ q = 57344 ∨ q = 1114112 ∨ ∃ x ∈ l, q ∈ endsS x) (hs : m.Pairwise (· ≤ ·)) :
    canon (piecesS l yes m []).reverse ∧ ∀ r, memR (piecesS l yes m []).reverse r ↔ isRune r ∧ (memR l r ↔ yes = true) := by
  have hr : ∀ a ∈ m, 0 ≤ a ∧ a ≤ 1114112 := by
    intro a ha
    rcases (hp a).1 ha with h | h | h | h | ⟨x, hx, h⟩
    · omega
    · omega
    · omega
    · omega
    · unfold endsS at h
      rcases List.mem_append.1 h with h | h <;> split at h <;> simp at h <;> omega
  obtain ⟨g1, g2, g3⟩ := pieces_ok l yes m [] hs hr (fun q hq => .inl ((hp q).2 (by rcases hq with h | h | h; exact .inr (.inl h); exact .inr (.inr (.inl h)); exact .inr (.inr (.inr (.inr h)))))) (fun x hx => by simp at hx) List.Pairwise.nil (fun x hx => by simp at hx)
  have h0 : (0 : Int) ∈ m := (hp 0).2 (.inl rfl)
  have h9 : (1114112 : Int) ∈ m := (hp _).2 (.inr (.inr (.inr (.inl rfl))))
  have hh : ∃ a ∈ m.head?, a ≤ 0 := by
    cases m with
    | nil => cases h0
    | cons a t =>
      refine ⟨a, rfl, ?_⟩
      rcases List.mem_cons.1 h0 with h | h
      · omega
      · exact (List.pairwise_cons.1 hs).1 _ h
  have hl : ∃ b ∈ m.getLast?, 1114112 ≤ b := by
    have hne : m ≠ [] := List.ne_nil_of_mem h0
    refine ⟨m.getLast hne, by rw [List.getLast?_eq_some_getLast hne]; simp, ?_⟩
    obtain ⟨i, hi, he⟩ := List.getElem_of_mem h9
    rw [List.getLast_eq_getElem, ← he]
    rcases Nat.lt_or_ge i (m.length - 1) with h | h
    · exact (List.pairwise_iff_getElem.1 hs) i (m.length - 1) hi (by omega) h
    · have : i = m.length - 1 := by omega
      subst this; exact Int.le_refl _
  refine ⟨⟨fun x hx => g1 x (List.mem_reverse.1 hx), by rw [List.pairwise_reverse]; exact g2⟩, fun r => ?_⟩
  rw [memR_same (fun x => List.mem_reverse) r, g3 r]
  constructor
  · rintro (h | ⟨h1, h2, _⟩)
    · exact absurd h (memR_nil r)
    · exact ⟨h1, h2⟩
  · rintro ⟨h1, h2⟩
    obtain ⟨a, ha, ha'⟩ := hh
    obtain ⟨b, hb, hb'⟩ := hl
    have := h1
    unfold isRune at this
    exact .inr ⟨h1, h2, ⟨a, ha, by omega⟩, b, hb, by omega⟩
end Go.V
