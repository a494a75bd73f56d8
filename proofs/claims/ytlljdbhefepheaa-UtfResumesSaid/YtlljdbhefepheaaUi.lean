import Derived.Test.YtlljdbhefepheaaUh
namespace Go.Proofs.Ytlljdbhefepheaa
open Go.V Go
set_option maxRecDepth 100000
set_option maxHeartbeats 4000000
set_option linter.unusedSimpArgs false
set_option linter.unusedVariables false

/- the plain law: the model's way to read a rune of a text is this one -/
def decL (l : List UInt8) : Nat × Nat :=
  let at' (k : Nat) : Nat := ((l[k]?).getD 0).toNat
  let cont (k : Nat) : Bool := decide (k < l.length) && at' k / 64 == 2
  let b0 := at' 0
  if b0 < 0x80 then (b0, 1)
  else if b0 / 32 == 6 && cont 1 then
    let c := (b0 % 32) * 64 + at' 1 % 64
    if c ≥ 0x80 then (c, 2) else (Utf8.runeError, 1)
  else if b0 / 16 == 14 && cont 1 && cont 2 then
    let c := (b0 % 16) * 4096 + (at' 1 % 64) * 64 + at' 2 % 64
    if c ≥ 0x800 && Utf8.valid c then (c, 3) else (Utf8.runeError, 1)
  else if b0 / 8 == 30 && cont 1 && cont 2 && cont 3 then
    let c := (b0 % 8) * 262144 + (at' 1 % 64) * 4096 + (at' 2 % 64) * 64 + at' 3 % 64
    if c ≥ 0x10000 && Utf8.valid c then (c, 4) else (Utf8.runeError, 1)
  else (Utf8.runeError, 1)

theorem decode_decL (s : List UInt8) (i : Nat) : Utf8.decode ⟨s.toArray⟩ i = decL (s.drop i) := by
  have h1 : ∀ k, (⟨s.toArray⟩ : ByteArray).get! (i + k) = ((s.drop i)[k]?).getD 0 := by
    intro k
    simp only [ByteArray.get!, List.getElem?_drop]
    rw [getElem!_def]
    simp only [List.getElem?_toArray]
    cases s[i + k]? <;> rfl
  have h2 : ∀ k, decide (i + k < (⟨s.toArray⟩ : ByteArray).size) = decide (k < (s.drop i).length) := by
    intro k
    simp only [ByteArray.size, List.size_toArray, List.length_drop]
    congr 1; simp; omega
  unfold Utf8.decode decL
  simp only [h1, h2]

theorem one_all (c : UInt8) (xs : List UInt8) : oneS (c :: xs) = if needS c.toNat = 0 then (65533, 1) else if tailS c.toNat (needS c.toNat - 1) 1 xs = true ∧ needS c.toNat - 1 ≤ xs.length then (foldR (startS c.toNat (needS c.toNat)) (needS c.toNat - 1) xs, needS c.toNat) else (65533, 1) := by
  unfold oneS
  rw [first_all]
  by_cases h1 : needS c.toNat = 0
  · simp [h1]
  rw [if_neg h1, if_neg h1]
  by_cases h2 : tailS c.toNat (needS c.toNat - 1) 1 xs = true
  · by_cases h3 : xs.length < needS c.toNat - 1
    · have hn : ¬ (needS c.toNat - 1 ≤ xs.length) := by omega
      simp [h2, h3, hn]
    · have hn : needS c.toNat - 1 ≤ xs.length := by omega
      simp [h1, h2, h3, hn]
  · simp [h2]

theorem decL_one (c : UInt8) (xs : List UInt8) : decL (c :: xs) = oneS (c :: xs) := by
  rw [one_all]
  have hc := u8_lt c
  unfold decL
  generalize hcn : c.toNat = b0 at *
  simp only [List.getElem?_cons_zero, Option.getD_some, hcn, List.length_cons]
  by_cases h1 : b0 < 128
  · have : needS b0 = 1 := by unfold needS; rw [if_pos h1]
    rw [if_pos h1, this, if_neg (by omega), if_pos ⟨by simp [tailS], by omega⟩]
    simp [foldR, startS]
  rw [if_neg h1]
  have cont : ∀ k : Nat, (decide (k < xs.length + 1) && ((((c :: xs)[k]?).getD 0).toNat / 64 == 2)) = true ↔ ∃ y, (c :: xs)[k]? = some y ∧ 128 ≤ y.toNat ∧ y.toNat ≤ 191 := by
    intro k
    simp only [Bool.and_eq_true, decide_eq_true_eq, beq_iff_eq]
    constructor
    · rintro ⟨h2, h3⟩
      have : (c :: xs)[k]? = some ((c :: xs)[k]'(by simpa using h2)) := List.getElem?_eq_getElem _
      rw [this] at h3 ⊢
      simp only [Option.getD_some] at h3
      exact ⟨_, rfl, by omega, by omega⟩
    · rintro ⟨y, h2, h3, h4⟩
      rw [h2]
      refine ⟨?_, by simp only [Option.getD_some]; omega⟩
      rcases Nat.lt_or_ge k (xs.length + 1) with h' | h'
      · exact h'
      · rw [List.getElem?_eq_none (by simpa using h')] at h2; cases h2
  by_cases h0 : b0 < 192 ∨ 248 ≤ b0
  · have e : needS b0 = 0 := by unfold needS; repeat' split
                                all_goals first | rfl | omega
    have a1 : (b0 / 32 == 6) = false := by simp; omega
    have a2 : (b0 / 16 == 14) = false := by simp; omega
    have a3 : (b0 / 8 == 30) = false := by simp; omega
    simp [e, a1, a2, a3, Utf8.runeError]
  by_cases h2 : b0 < 224
  · have a1 : (b0 / 32 == 6) = true := by simp; omega
    have a2 : (b0 / 16 == 14) = false := by simp; omega
    have a3 : (b0 / 8 == 30) = false := by simp; omega
    simp only [a1, a2, a3, Bool.true_and, Bool.false_and, Bool.false_eq_true, if_false]
    cases xs with
    | nil =>
      have : needS b0 = 0 ∨ needS b0 = 2 := by unfold needS; repeat' split
                                               all_goals omega
      rcases this with e | e <;> simp [e, Utf8.runeError, tailS]
    | cons y ys =>
      have hy := u8_lt y
      simp only [List.getElem?_cons_succ, List.getElem?_cons_zero, Option.getD_some, List.length_cons]
      by_cases hg : 128 ≤ y.toNat ∧ y.toNat ≤ 191
      · have c1 : (decide (1 < ys.length + 1 + 1) && (y.toNat / 64 == 2)) = true := by simp; omega
        rw [if_pos c1]
        by_cases h3 : b0 < 194
        · have e : needS b0 = 0 := by unfold needS; rw [if_neg h1, if_pos h3]
          rw [if_neg (by omega), if_pos e]; rfl
        · have e : needS b0 = 2 := by unfold needS; rw [if_neg h1, if_neg h3, if_pos h2]
          have e2 : goodS b0 1 y.toNat = true := by
            unfold goodS loS hiS; simp; repeat' split
            all_goals omega
          rw [if_pos (by omega), if_neg (by omega), e, if_pos ⟨by simp [tailS, e2], by omega⟩]
          simp [foldR, startS]
      · have c1 : (decide (1 < ys.length + 1 + 1) && (y.toNat / 64 == 2)) = false := by simp; omega
        rw [if_neg (by rw [c1]; simp)]
        by_cases h3 : b0 < 194
        · have e : needS b0 = 0 := by unfold needS; rw [if_neg h1, if_pos h3]
          rw [if_pos e]; rfl
        · have e : needS b0 = 2 := by unfold needS; rw [if_neg h1, if_neg h3, if_pos h2]
          have e2 : goodS b0 1 y.toNat = false := by
            unfold goodS loS hiS; simp; repeat' split
            all_goals omega
          rw [if_neg (by omega), e, if_neg (by simp [tailS, e2])]; rfl
  by_cases h3 : b0 < 240
  · have e : needS b0 = 3 := by unfold needS; rw [if_neg h1, if_neg (by omega), if_neg h2, if_pos h3]
    have a1 : (b0 / 32 == 6) = false := by simp; omega
    have a2 : (b0 / 16 == 14) = true := by simp; omega
    have a3 : (b0 / 8 == 30) = false := by simp; omega
    simp only [a1, a2, a3, Bool.true_and, Bool.false_and, Bool.false_eq_true, if_false]
    rw [e, if_neg (show ¬ (3 = 0) by omega)]
    match xs with
    | [] => simp [Utf8.runeError]
    | [y] => simp [Utf8.runeError]
    | y :: z :: ys =>
      have hy := u8_lt y
      have hz := u8_lt z
      simp only [List.getElem?_cons_succ, List.getElem?_cons_zero, Option.getD_some, List.length_cons]
      have key : 128 ≤ y.toNat ∧ y.toNat ≤ 191 → 128 ≤ z.toNat ∧ z.toNat ≤ 191 → (decide (b0 % 16 * 4096 + y.toNat % 64 * 64 + z.toNat % 64 ≥ 2048) && Utf8.valid ((b0 % 16 * 4096 + y.toNat % 64 * 64 + z.toNat % 64 : Nat) : Int)) = goodS b0 1 y.toNat := by
        rintro ⟨q1, q2⟩ ⟨q3, q4⟩
        unfold goodS loS hiS Utf8.valid
        rw [Bool.eq_iff_iff]
        simp only [if_true, Bool.and_eq_true, Bool.or_eq_true, decide_eq_true_eq]
        repeat' split
        all_goals omega
      by_cases gy : 128 ≤ y.toNat ∧ y.toNat ≤ 191
      · by_cases gz : 128 ≤ z.toNat ∧ z.toNat ≤ 191
        · have c1 : ((decide (1 < ys.length + 1 + 1 + 1) && (y.toNat / 64 == 2)) && (decide (2 < ys.length + 1 + 1 + 1) && (z.toNat / 64 == 2))) = true := by simp; omega
          have e2 : goodS b0 2 z.toNat = true := by unfold goodS; simp; omega
          rw [if_pos c1, key gy gz]
          by_cases hg : goodS b0 1 y.toNat = true
          · rw [if_pos hg, if_pos ⟨by simp [tailS, hg, e2], by omega⟩]
            simp [foldR, startS]; omega
          · rw [if_neg hg, if_neg (by simp [tailS, hg])]; rfl
        · have c1 : ((decide (1 < ys.length + 1 + 1 + 1) && (y.toNat / 64 == 2)) && (decide (2 < ys.length + 1 + 1 + 1) && (z.toNat / 64 == 2))) = false := by simp; omega
          have e2 : goodS b0 2 z.toNat = false := by unfold goodS; simp; omega
          rw [if_neg (by rw [c1]; simp), if_neg (by simp [tailS, e2])]; rfl
      · have c1 : ((decide (1 < ys.length + 1 + 1 + 1) && (y.toNat / 64 == 2)) && (decide (2 < ys.length + 1 + 1 + 1) && (z.toNat / 64 == 2))) = false := by simp; omega
        have e2 : goodS b0 1 y.toNat = false := by
          unfold goodS loS hiS; simp; repeat' split
          all_goals omega
        rw [if_neg (by rw [c1]; simp), if_neg (by simp [tailS, e2])]; rfl
  have a1 : (b0 / 32 == 6) = false := by simp; omega
  have a2 : (b0 / 16 == 14) = false := by simp; omega
  have a3 : (b0 / 8 == 30) = true := by simp; omega
  simp only [a1, a2, a3, Bool.true_and, Bool.false_and, Bool.false_eq_true, if_false]
  have en : needS b0 = 4 ∨ (needS b0 = 0 ∧ 245 ≤ b0) := by
    unfold needS; rw [if_neg h1, if_neg (by omega), if_neg h2, if_neg h3]; split <;> omega
  match xs with
  | [] => rcases en with e | ⟨e, _⟩ <;> simp [Utf8.runeError, e]
  | [y] => rcases en with e | ⟨e, _⟩ <;> simp [Utf8.runeError, e]
  | [y, z] => rcases en with e | ⟨e, _⟩ <;> simp [Utf8.runeError, e]
  | y :: z :: u :: ys =>
    have hy := u8_lt y
    have hz := u8_lt z
    have hu := u8_lt u
    simp only [List.getElem?_cons_succ, List.getElem?_cons_zero, Option.getD_some, List.length_cons]
    by_cases g : (128 ≤ y.toNat ∧ y.toNat ≤ 191) ∧ (128 ≤ z.toNat ∧ z.toNat ≤ 191) ∧ (128 ≤ u.toNat ∧ u.toNat ≤ 191)
    · have c1 : ((decide (1 < ys.length + 1 + 1 + 1 + 1) && (y.toNat / 64 == 2)) && (decide (2 < ys.length + 1 + 1 + 1 + 1) && (z.toNat / 64 == 2)) && (decide (3 < ys.length + 1 + 1 + 1 + 1) && (u.toNat / 64 == 2))) = true := by simp; omega
      rw [if_pos c1]
      rcases en with e | ⟨e, he⟩
      · have key : (decide (b0 % 8 * 262144 + y.toNat % 64 * 4096 + z.toNat % 64 * 64 + u.toNat % 64 ≥ 65536) && Utf8.valid ((b0 % 8 * 262144 + y.toNat % 64 * 4096 + z.toNat % 64 * 64 + u.toNat % 64 : Nat) : Int)) = goodS b0 1 y.toNat := by
          have : b0 < 245 := by
            unfold needS at e; rw [if_neg h1, if_neg (by omega), if_neg h2, if_neg h3] at e
            split at e
            · assumption
            · omega
          unfold goodS loS hiS Utf8.valid
          rw [Bool.eq_iff_iff]
          simp only [if_true, Bool.and_eq_true, Bool.or_eq_true, decide_eq_true_eq]
          repeat' split
          all_goals omega
        have e2 : goodS b0 2 z.toNat = true := by unfold goodS; simp; omega
        have e3 : goodS b0 3 u.toNat = true := by unfold goodS; simp; omega
        rw [key, e, if_neg (show ¬ (4 = 0) by omega)]
        by_cases hg : goodS b0 1 y.toNat = true
        · rw [if_pos hg, if_pos ⟨by simp [tailS, hg, e2, e3], by omega⟩]
          simp [foldR, startS]; omega
        · rw [if_neg hg, if_neg (by simp [tailS, hg])]; rfl
      · have key : (decide (b0 % 8 * 262144 + y.toNat % 64 * 4096 + z.toNat % 64 * 64 + u.toNat % 64 ≥ 65536) && Utf8.valid ((b0 % 8 * 262144 + y.toNat % 64 * 4096 + z.toNat % 64 * 64 + u.toNat % 64 : Nat) : Int)) = false := by
          unfold Utf8.valid
          rw [Bool.eq_false_iff]
          simp only [ne_eq, Bool.and_eq_true, Bool.or_eq_true, decide_eq_true_eq]
          omega
        rw [key, if_pos e]; rfl
    · have c1 : ((decide (1 < ys.length + 1 + 1 + 1 + 1) && (y.toNat / 64 == 2)) && (decide (2 < ys.length + 1 + 1 + 1 + 1) && (z.toNat / 64 == 2)) && (decide (3 < ys.length + 1 + 1 + 1 + 1) && (u.toNat / 64 == 2))) = false := by simp; omega
      rw [if_neg (by rw [c1]; simp)]
      rcases en with e | ⟨e, he⟩
      · rw [e, if_neg (show ¬ (4 = 0) by omega)]
        have e2 : tailS b0 3 1 (y :: z :: u :: ys) = false := by
          by_cases gy : 128 ≤ y.toNat ∧ y.toNat ≤ 191
          · by_cases gz : 128 ≤ z.toNat ∧ z.toNat ≤ 191
            · have : goodS b0 3 u.toNat = false := by unfold goodS; simp; omega
              simp [tailS, this]
            · have : goodS b0 2 z.toNat = false := by unfold goodS; simp; omega
              simp [tailS, this]
          · have : goodS b0 1 y.toNat = false := by
              unfold goodS loS hiS; simp; repeat' split
              all_goals omega
            simp [tailS, this]
        rw [if_neg (by simp [e2])]; rfl
      · rw [if_pos e]; rfl

theorem decode_one (s : List UInt8) (i : Nat) (h : i < s.length) : Utf8.decode ⟨s.toArray⟩ i = oneS (s.drop i) := by
  rw [decode_decL]
  cases hd : s.drop i with
  | nil => have := congrArg List.length hd; simp at this; omega
  | cons c xs => exact decL_one c xs
end Go.Proofs.Ytlljdbhefepheaa
