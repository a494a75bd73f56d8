/-
  Which lists of nodes are a pattern; the tree of one.
-/
import Derived.Test.YtbdilgkfnacahaaQa
namespace Go.Proofs.Ytbdilgkfnacahaa
open Go.V Go
set_option maxRecDepth 100000
set_option linter.unusedSimpArgs false
set_option linter.unusedVariables false

/-- is each field zero that is not named beside the Op? -/
def plainN (n : Nod) : Bool := ((n.op == 2) || ((n.rs.length : Nat) : Int) == 0) && ((n.op == 5) || ((n.mn == 0) && (n.mx == 0) && !n.lz)) && ((n.op == 6) || (n.cap == 0))
/-- may a node be, by itself, behind so many groups? how many kids has it? -/
noncomputable def shapeN (n : Nod) (g : Int) : Int × Bool :=
  if plainN n = false then (0, false)
  else if n.op = 1 ∨ n.op = 7 ∨ n.op = 8 then (0, n.kids == 0)
  else if n.op = 2 then (0, (n.kids == 0) && rightS n.rs)
  else if n.op = 3 ∨ n.op = 4 then (n.kids, decide (n.kids ≥ 2))
  else if n.op = 5 then (1, (n.kids == 1) && decide (n.mn ≥ 0) && decide (n.mn ≤ 30) && ((n.mx == -1) || (decide (n.mx ≥ n.mn) && decide (n.mx ≤ 30))))
  else if n.op = 6 then (1, (n.kids == 1) && (n.cap == g + 1) && decide (n.cap ≤ 4))
  else (0, false)

def kidsS (h : Nat → Nat → Option (Nat × Nat)) : Nat → Nat → Nat → Option (Nat × Nat)
  | 0, at_, g => some (at_, g)
  | k + 1, at_, g => match h at_ g with
    | some r => kidsS h k r.1 r.2
    | none => none
/-- one node with its kids: where it ends, how many groups there are behind it -/
noncomputable def oneS (l : List Nod) : Nat → Nat → Nat → Option (Nat × Nat)
  | 0, _, _ => none
  | f + 1, at_, g => match l[at_]? with
    | none => none
    | some n => if (shapeN n (g : Nat)).2 = true then kidsS (oneS l f) (shapeN n (g : Nat)).1.toNat (at_ + 1) (if n.op = 6 then g + 1 else g) else none

theorem shape_ok {n : Nod} {g : Nat} (h : (shapeN n (g : Nat)).2 = true) : nodOk n (shapeN n (g : Nat)).1.toNat ∧ 0 ≤ (shapeN n (g : Nat)).1 ∧ (n.op = 6 → n.cap = g + 1 ∧ n.cap ≤ 4) := by
  unfold shapeN at h ⊢
  unfold nodOk
  by_cases h0 : plainN n = false
  · rw [if_pos h0] at h; cases h
  rw [if_neg h0] at h ⊢
  by_cases h1 : n.op = 1 ∨ n.op = 7 ∨ n.op = 8
  · rw [if_pos h1] at h ⊢
    simp only [beq_iff_eq] at h
    exact ⟨⟨h, .inl ⟨h1, rfl⟩⟩, Int.le_refl _, fun h6 => by omega⟩
  rw [if_neg h1] at h ⊢
  by_cases h2 : n.op = 2
  · rw [if_pos h2] at h ⊢
    simp only [Bool.and_eq_true, beq_iff_eq] at h
    exact ⟨⟨h.1, .inr (.inl ⟨h2, rfl⟩)⟩, Int.le_refl _, fun h6 => by omega⟩
  rw [if_neg h2] at h ⊢
  by_cases h3 : n.op = 3 ∨ n.op = 4
  · rw [if_pos h3] at h ⊢
    simp only [decide_eq_true_eq] at h
    exact ⟨⟨by simp only; omega, .inr (.inr (.inl ⟨h3, by simp only; omega⟩))⟩, by simp only; omega, fun h6 => by omega⟩
  rw [if_neg h3] at h ⊢
  by_cases h5 : n.op = 5
  · rw [if_pos h5] at h ⊢
    simp only [Bool.and_eq_true, Bool.or_eq_true, beq_iff_eq, decide_eq_true_eq] at h
    exact ⟨⟨by simp only; omega, .inr (.inr (.inr (.inl ⟨h5, by simp only; rfl, by omega, by omega, by omega⟩)))⟩, by simp only; omega, fun h6 => by omega⟩
  rw [if_neg h5] at h ⊢
  by_cases h6 : n.op = 6
  · rw [if_pos h6] at h ⊢
    simp only [Bool.and_eq_true, beq_iff_eq, decide_eq_true_eq] at h
    exact ⟨⟨by simp only; omega, .inr (.inr (.inr (.inr ⟨h6, by simp only; rfl, by omega, by omega⟩)))⟩, by simp only; omega, fun _ => ⟨h.1.2, h.2⟩⟩
  rw [if_neg h6] at h
  cases h

theorem Seg.cons {α : Type} {L M : List α} {a : α} {at_ : Nat} (h : L[at_]? = some a) (h2 : Seg L (at_ + 1) M) : Seg L at_ (a :: M) := by
  obtain ⟨post, h2⟩ := h2
  refine ⟨post, ?_⟩
  have h3 : L[at_]'(lt_get h) = a := Option.some.inj ((List.getElem?_eq_getElem _).symm.trans h)
  rw [List.drop_eq_getElem_cons (lt_get h), h2, h3]; rfl
theorem Seg.append {α : Type} {L M M' : List α} {at_ : Nat} (h : Seg L at_ M) (h2 : Seg L (at_ + M.length) M') : Seg L at_ (M ++ M') := by
  obtain ⟨post, h⟩ := h
  obtain ⟨post', h2⟩ := h2
  refine ⟨post', ?_⟩
  rw [← List.drop_drop, h, List.drop_left] at h2
  rw [h, h2, List.append_assoc]
theorem Seg.none {α : Type} (L : List α) (at_ : Nat) : Seg L at_ [] := ⟨_, rfl⟩

theorem kids_tree {l : List Nod} {h : Nat → Nat → Option (Nat × Nat)} (ih : ∀ at_ g r, h at_ g = some r → ∃ t : Tr, t.ok ∧ Seg l at_ t.flat ∧ r.1 = at_ + t.flat.length) : ∀ k at_ g r, kidsS h k at_ g = some r → ∃ ts : Trs, ts.len = k ∧ ts.ok ∧ Seg l at_ ts.flat ∧ r.1 = at_ + ts.flat.length
  | 0, at_, g, r, e => by
    simp only [kidsS, Option.some.injEq] at e
    subst e
    exact ⟨.nil, rfl, trivial, Seg.none _ _, by simp [Trs.flat]⟩
  | k + 1, at_, g, r, e => by
    unfold kidsS at e
    cases hq : h at_ g with
    | none => rw [hq] at e; cases e
    | some q =>
      rw [hq] at e
      obtain ⟨t, t1, t2, t3⟩ := ih _ _ _ hq
      obtain ⟨ts, u1, u2, u3, u4⟩ := kids_tree ih k _ _ _ e
      rw [t3] at u3 u4
      exact ⟨.cons t ts, by simp [Trs.len, u1], by simp only [Trs.ok]; exact ⟨t1, u2⟩, by simp only [Trs.flat]; exact t2.append u3, by rw [u4]; simp only [Trs.flat, List.length_append]; omega⟩

theorem one_tree {l : List Nod} : ∀ f at_ g r, oneS l f at_ g = some r → ∃ t : Tr, t.ok ∧ Seg l at_ t.flat ∧ r.1 = at_ + t.flat.length
  | 0, _, _, _, e => by simp [oneS] at e
  | f + 1, at_, g, r, e => by
    unfold oneS at e
    cases hn : l[at_]? with
    | none => rw [hn] at e; cases e
    | some n =>
      rw [hn] at e
      simp only at e
      split at e
      · rename_i hs
        obtain ⟨ts, u1, u2, u3, u4⟩ := kids_tree (one_tree f) _ _ _ _ e
        have := (shape_ok hs).1
        rw [← u1] at this
        exact ⟨.mk n ts, by simp only [Tr.ok]; exact ⟨this, u2⟩, by simp only [Tr.flat]; exact Seg.cons hn u3, by rw [u4]; simp only [Tr.flat, List.length_cons]; omega⟩
      · cases e

/-- are nodes a pattern? -/
noncomputable def rightN (l : List Nod) : Bool := (decide (1 ≤ l.length) && decide (l.length ≤ 480)) && (match oneS l 241 0 0 with | some r => decide (r.1 = l.length) | none => false)
theorem right_tree {l : List Nod} (h : rightN l = true) : ∃ t : Tr, t.ok ∧ t.flat = l := by
  unfold rightN at h
  simp only [Bool.and_eq_true] at h
  obtain ⟨_, h⟩ := h
  split at h
  · rename_i r hr
    obtain ⟨t, h1, ⟨post, h2⟩, h3⟩ := one_tree _ _ _ _ hr
    rw [decide_eq_true_eq] at h
    refine ⟨t, h1, ?_⟩
    rw [List.drop_zero] at h2
    have h4 := congrArg List.length h2
    rw [List.length_append] at h4
    have h5 : post = [] := List.length_eq_zero_iff.1 (by omega)
    rw [h2, h5, List.append_nil]
  · cases h
noncomputable def treeN (l : List Nod) : Tr := @dite _ (∃ t : Tr, t.ok ∧ t.flat = l) (Classical.propDecidable _) (fun h => Classical.choose h) (fun _ => .mk ⟨0, .nul, [], 0, 0, false, 0, 0⟩ .nil)
theorem tree_is {l : List Nod} (h : rightN l = true) : (treeN l).ok ∧ (treeN l).flat = l := by
  unfold treeN
  rw [dif_pos (right_tree h)]
  exact Classical.choose_spec (right_tree h)
end Go.Proofs.Ytbdilgkfnacahaa
