import Derived.Test.YtbdilgkfnacahaaGreatUe
namespace Go.Proofs.YtbdilgkfnacahaaGreat
open Go.V Go
set_option maxRecDepth 100000
set_option maxHeartbeats 4000000
set_option linter.unusedSimpArgs false
set_option linter.unusedVariables false

/- the plain law: the two ways to look at the first rune -/
theorem more_need (c : Nat) : (needS c = 0 ∧ (moreS c).1 = -1) ∨ (needS c = 1 ∧ (moreS c).1 = 0) ∨ (2 ≤ needS c ∧ (moreS c).1 = (needS c : Int) - 1 ∧ (moreS c).2.1 = loS c ∧ (moreS c).2.2 = hiS c) := by
 unfold needS moreS loS hiS
 by_cases h1 : c < 128
 ·simp [h1]
 by_cases h2 : c < 194
 ·simp [h1, h2]
 by_cases h0 : 245 ≤ c
 ·left
  rw [if_neg (by omega), if_neg (by omega), if_neg (by omega), if_neg (by omega), if_neg (by omega), if_neg (by omega), if_neg (by omega), if_neg (by omega), if_neg (by omega), if_neg (by omega), if_neg (by omega), if_neg (by omega), if_neg (by omega), if_neg (by omega)]
  simp
 right; right
 by_cases h3 : c < 224
 ·simp only [h1, h2, h3, if_true, if_false]
  rw [if_neg (by omega), if_neg (by omega), if_neg (by omega), if_neg (by omega), if_neg (by omega), if_neg (by omega), if_neg (by omega)]; simp
 by_cases h4 : c = 224
 ·subst h4; simp
 by_cases h5 : c = 237
 ·subst h5; simp
 by_cases h6 : c < 240
 ·simp only [h1, h2, h3, h4, h5, h6, if_true, if_false]
  rw [if_neg (by omega), if_neg (by omega), if_neg (by omega)]; simp
 by_cases h7 : c = 240
 ·subst h7; simp
 by_cases h8 : c < 244
 ·simp only [h1, h2, h3, h4, h5, h6, h7, h8, if_true, if_false]
  rw [if_pos (by omega), if_neg (by omega)]; simp
 by_cases h9 : c = 244
 ·subst h9; simp
 omega

def foldR (r : Nat) : Nat → List UInt8 → Nat
 | 0, _ => r
 | _ + 1, [] => r
 | left + 1, y :: ys => foldR (r * 64 + y.toNat % 64) left ys

theorem scan_tail (c n : Nat) : ∀ (left i r lo hi : Nat) (xs : List UInt8), 1 ≤ i → (∀ y, goodS c i y = (decide (lo ≤ y ∧ y ≤ hi))) → 
  scanS left n r lo hi xs = if tailS c left i xs = true then (if xs.length < left then (0, 0, true) else (foldR r left xs, n, false)) else (0, 0, false)
 | 0, i, r, lo, hi, xs, _, _ => by simp [scanS, tailS, foldR]
 | left + 1, i, r, lo, hi, [], _, _ => by simp [scanS, tailS]
 | left + 1, i, r, lo, hi, y :: ys, hi1, hg => by
  simp only [scanS, tailS, hg, foldR]
  by_cases hb : lo ≤ y.toNat ∧ y.toNat ≤ hi
  ·rw [if_neg (by omega), decide_eq_true hb, Bool.true_and]
   rw [scan_tail c n left (i + 1) _ 128 191 ys (by omega) (fun z => by unfold goodS; rw [if_neg (by omega)])]
   simp only [List.length_cons, Nat.add_lt_add_iff_right]
  ·rw [if_pos (by omega), decide_eq_false hb]; simp

def startS (c n : Nat) : Nat := if n ≤ 1 then c else c % (64 / 2 ^ (n - 1))

theorem first_all (c : UInt8) (xs : List UInt8) : firstS (c :: xs) = if needS c.toNat = 0 then (0, 0, false) else if tailS c.toNat (needS c.toNat - 1) 1 xs = true then (if xs.length < needS c.toNat - 1 then (0, 0, true) else (foldR (startS c.toNat (needS c.toNat)) (needS c.toNat - 1) xs, needS c.toNat, false)) else (0, 0, false) := by
 simp only [firstS]
 rcases more_need c.toNat with ⟨h1, h2⟩ | ⟨h1, h2⟩ | ⟨h1, h2, h3, h4⟩
 ·rw [h1, h2]; simp
 ·rw [h1, h2]; simp [scanS, tailS, foldR, startS]
 ·have hk : (moreS c.toNat).1.toNat = needS c.toNat - 1 := by omega
  rw [if_neg (show ¬ (moreS c.toNat).1 < 0 by omega), if_neg (show ¬ needS c.toNat = 0 by omega), if_pos (show (moreS c.toNat).1 > 0 by omega), hk, h3, h4]
  rw [scan_tail c.toNat _ _ 1 _ _ _ _ (by omega) (fun y => by unfold goodS; rw [if_pos rfl])]
  have : needS c.toNat - 1 + 1 = needS c.toNat := by omega
  rw [this]
  have h5 : startS c.toNat (needS c.toNat) = c.toNat % (64 / 2 ^ (needS c.toNat - 1)) := by unfold startS; rw [if_neg (by omega)]
  rw [h5]

def begunS (b : List UInt8) : Bool := (firstS b).2.2

theorem fits_first (b : List UInt8) : (begunS b = true ↔ (0 < (fitsS b).1 ∧ (fitsS b).1 < (fitsS b).2 ∧ (fitsS b).1 = b.length)) ∧
  (((fitsS b).1 = 0 ∨ (fitsS b).1 < (fitsS b).2) → oneS b = (65533, 1)) ∧
  (¬ ((fitsS b).1 = 0 ∨ (fitsS b).1 < (fitsS b).2) → ∃ c xs, b = c :: xs ∧ 1 ≤ (fitsS b).2 ∧ (fitsS b).2 ≤ 4 ∧ (fitsS b).2 - 1 ≤ xs.length ∧ oneS b = (foldR (startS c.toNat (fitsS b).2) ((fitsS b).2 - 1) xs, (fitsS b).2)) := by
 cases b with
 | nil => simp [begunS, firstS, fitsS, oneS]
 | cons c xs =>
  have hn := needS_le c.toNat
  simp only [begunS, oneS, first_all, fitsS]
  by_cases h1 : needS c.toNat = 0
  ·simp [h1]
  rw [if_neg h1, if_neg h1]
  by_cases h2 : tailS c.toNat (needS c.toNat - 1) 1 xs = true
  ·rw [if_pos h2, if_pos h2]
   by_cases h3 : xs.length + 1 < needS c.toNat
   ·rw [if_pos (by omega), if_pos h3]; simp <;> omega
   ·rw [if_neg (by omega), if_neg h3]
    refine ⟨by simp <;> omega, by simp <;> omega, fun _ => ⟨c, xs, rfl, by simp only; omega, by simp only; omega, by simp only; omega, ?_⟩⟩
    simp only; rw [if_neg h1]
  ·rw [if_neg h2, if_neg h2]; simp
end Go.Proofs.YtbdilgkfnacahaaGreat
