/-
  What the search comes to: it is closed, and nothing can be left out.
-/
import Derived.Test.YtbdilgkfnacahaaJo
namespace Go.Proofs.Ytbdilgkfnacahaa
open Go.V Go
set_option maxRecDepth 100000
set_option linter.unusedSimpArgs false
set_option linter.unusedVariables false

/-- seen: behind k -/
def isSeen (seen : List Bool) (v : Int) : Prop := 0 ≤ v ∧ seen[v.toNat]? = some true

structure DfsInv (code : List PIns) (start : Int) (seen : List Bool) (stk : List Int) : Prop where
  a : ∀ u i, seen[u]? = some true → code[u]? = some i → ∀ w ∈ nextS u i, isSeen seen w ∨ w ∈ stk
  b : ∀ v ∈ stk, v = start ∨ ∃ u i, seen[u]? = some true ∧ code[u]? = some i ∧ v ∈ nextS u i
  c : ∀ v, isSeen seen v → v = start ∨ ∃ u i, seen[u]? = some true ∧ code[u]? = some i ∧ v ∈ nextS u i ∧ v ≠ (u : Int)
  d : isSeen seen start ∨ start ∈ stk

theorem set_seen {seen : List Bool} {k : Nat} (hk : k < seen.length) {v : Int} : isSeen (seen.set k true) v ↔ v = (k : Int) ∨ isSeen seen v := by
  unfold isSeen
  constructor
  · rintro ⟨h0, h⟩
    by_cases hv : v.toNat = k
    · left; omega
    · rw [List.getElem?_set_ne (fun e => hv e.symm)] at h; exact .inr ⟨h0, h⟩
  · rintro (rfl | ⟨h0, h⟩)
    · exact ⟨by omega, by rw [Int.toNat_natCast, List.getElem?_set_self hk]⟩
    · refine ⟨h0, ?_⟩
      by_cases hv : v.toNat = k
      · rw [hv, List.getElem?_set_self hk]
      · rw [List.getElem?_set_ne (fun e => hv e.symm)]; exact h

theorem seen_nat {seen : List Bool} {u : Nat} : seen[u]? = some true ↔ isSeen seen (u : Int) := by
  unfold isSeen; rw [Int.toNat_natCast]; exact ⟨fun h => ⟨by omega, h⟩, fun h => h.2⟩

theorem dfs_ok {code : List PIns} {start : Int} (hcl : closedS code) : ∀ (f : Nat) (seen : List Bool) (stk : List Int), seen.length = code.length → (∀ v ∈ stk, 0 ≤ v ∧ v < (code.length : Int)) → 3 * seen.count false + stk.length ≤ f → DfsInv code start seen stk → DfsInv code start (dfs code f seen stk) []
  | 0, seen, stk, _, _, hm, hi => by
    have : stk = [] := by cases stk with | nil => rfl | cons _ _ => simp at hm
    subst this; exact hi
  | f + 1, seen, [], _, _, _, hi => hi
  | f + 1, seen, v :: stk, hl, hs, hm, hi => by
    have hv := hs v (List.mem_cons_self ..)
    have hs' : ∀ w ∈ stk, 0 ≤ w ∧ w < (code.length : Int) := fun w hw => hs w (List.mem_cons_of_mem _ hw)
    obtain ⟨k, rfl⟩ := Int.eq_ofNat_of_zero_le hv.1
    have hk : k < code.length := by omega
    obtain ⟨i, hci⟩ : ∃ i, code[k]? = some i := ⟨code[k]'hk, List.getElem?_eq_getElem _⟩
    obtain ⟨b, hb⟩ : ∃ b, seen[k]? = some b := ⟨seen[k]'(by omega), List.getElem?_eq_getElem _⟩
    simp only [List.length_cons] at hm
    have hp : ∀ w, w ∈ ((k : Int) :: stk) → w = (k : Int) ∨ w ∈ stk := fun w hw => List.mem_cons.1 hw
    unfold dfs
    simp only [Int.toNat_natCast, hb, hci]
    cases b with
    | true =>
      have hks : isSeen seen (k : Int) := seen_nat.1 hb
      refine dfs_ok hcl f seen stk hl hs' (by omega) ⟨fun u j hu hj w hw => ?_, fun w hw => hi.b w (List.mem_cons_of_mem _ hw), hi.c, ?_⟩
      · rcases hi.a u j hu hj w hw with h | h
        · exact .inl h
        · rcases hp w h with rfl | h
          · exact .inl hks
          · exact .inr h
      · rcases hi.d with h | h
        · exact .inl h
        · rcases hp start h with h | h
          · exact .inl (h ▸ hks)
          · exact .inr h
    | false =>
      have hcnt := count_set hb
      have hkl : k < seen.length := by omega
      have hnl := next_len k i
      refine dfs_ok hcl f _ _ (by rw [List.length_set]; exact hl) (fun w hw => ?_) (by simp only [List.length_append, List.length_reverse]; omega) ⟨fun u j hu hj w hw => ?_, fun w hw => ?_, fun w hw => ?_, ?_⟩
      · rcases List.mem_append.1 hw with hw | hw
        · exact hcl k i hci w (List.mem_reverse.1 hw)
        · exact hs' w hw
      · rcases (set_seen hkl).1 (seen_nat.1 hu) with h | h
        · have : u = k := by omega
          subst this
          rw [hci] at hj; cases hj
          exact .inr (List.mem_append.2 (.inl (List.mem_reverse.2 hw)))
        · rcases hi.a u j (seen_nat.2 h) hj w hw with h | h
          · exact .inl ((set_seen hkl).2 (.inr h))
          · rcases hp w h with h | h
            · exact .inl ((set_seen hkl).2 (.inl h))
            · exact .inr (List.mem_append.2 (.inr h))
      · rcases List.mem_append.1 hw with hw | hw
        · exact .inr ⟨k, i, seen_nat.2 ((set_seen hkl).2 (.inl rfl)), hci, List.mem_reverse.1 hw⟩
        · rcases hi.b w (List.mem_cons_of_mem _ hw) with h | ⟨u, j, h1, h2, h3⟩
          · exact .inl h
          · exact .inr ⟨u, j, seen_nat.2 ((set_seen hkl).2 (.inr (seen_nat.1 h1))), h2, h3⟩
      · rcases (set_seen hkl).1 hw with rfl | h
        · rcases hi.b (k : Int) (List.mem_cons_self ..) with h | ⟨u, j, h1, h2, h3⟩
          · exact .inl h
          · refine .inr ⟨u, j, seen_nat.2 ((set_seen hkl).2 (.inr (seen_nat.1 h1))), h2, h3, fun e => ?_⟩
            have : k = u := by omega
            subst this
            rw [hb] at h1; cases h1
        · rcases hi.c w h with h | ⟨u, j, h1, h2, h3, h4⟩
          · exact .inl h
          · exact .inr ⟨u, j, seen_nat.2 ((set_seen hkl).2 (.inr (seen_nat.1 h1))), h2, h3, h4⟩
      · rcases hi.d with h | h
        · exact .inl ((set_seen hkl).2 (.inr h))
        · rcases hp start h with h | h
          · exact .inl ((set_seen hkl).2 (.inl h))
          · exact .inr (List.mem_append.2 (.inr h))

theorem reach_ok {code : List PIns} {start : Int} (hcl : closedS code) (hst : 0 ≤ start ∧ start < (code.length : Int)) : DfsInv code start (reachS code start) [] := by
  have hno : ∀ v, ¬ isSeen (List.replicate code.length false) v := by
    rintro v ⟨h0, h⟩
    rw [List.getElem?_replicate] at h
    split at h <;> cases h
  refine dfs_ok hcl _ _ _ (by simp) (fun v hv => ?_) (by simp) ⟨fun u i hu => absurd (seen_nat.1 hu) (hno _), fun v hv => ?_, fun v hv => absurd hv (hno v), .inr (by simp)⟩
  · simp only [List.mem_cons, List.not_mem_nil, or_false] at hv; subst hv; exact hst
  · simp only [List.mem_cons, List.not_mem_nil, or_false] at hv; exact .inl hv

theorem nums_mem : ∀ {L : List Bool} {s : Nat} {v : Int}, v ∈ numsS s L ↔ ∃ k : Nat, L[k]? = some true ∧ v = ((s + k : Nat) : Int)
  | [], s, v => ⟨fun h => (by cases h), fun ⟨k, h, _⟩ => by simp at h⟩
  | b :: l, s, v => by
    simp only [numsS, List.mem_append]
    constructor
    · rintro (h | h)
      · split at h
        · rename_i hb
          simp only [List.mem_cons, List.not_mem_nil, or_false] at h
          exact ⟨0, by simp [hb], by rw [h]; simp⟩
        · cases h
      · obtain ⟨k, h1, h2⟩ := nums_mem.1 h
        exact ⟨k + 1, by simpa using h1, by rw [h2]; congr 1; omega⟩
    · rintro ⟨k, h1, h2⟩
      cases k with
      | zero => simp at h1; subst h1; left; simp [h2]
      | succ k => exact .inr (nums_mem.2 ⟨k, by simpa using h1, by rw [h2]; congr 1; omega⟩)

theorem nums_rise : ∀ (L : List Bool) (s : Nat), (numsS s L).Pairwise (· < ·)
  | [], s => .nil
  | b :: l, s => by
    simp only [numsS]
    have ih := nums_rise l (s + 1)
    split
    · rw [List.singleton_append, List.pairwise_cons]
      refine ⟨fun v hv => ?_, ih⟩
      obtain ⟨k, _, rfl⟩ := nums_mem.1 hv
      omega
    · exact ih
end Go.Proofs.Ytbdilgkfnacahaa
