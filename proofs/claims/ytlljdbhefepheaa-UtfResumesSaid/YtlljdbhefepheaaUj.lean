import Derived.Test.YtlljdbhefepheaaUi
namespace Go.Proofs.Ytlljdbhefepheaa
open Go.V Go
set_option maxRecDepth 100000
set_option maxHeartbeats 4000000
set_option linter.unusedSimpArgs false
set_option linter.unusedVariables false

/- the plain law: what is written is read again -/
def encS (r : Nat) : List UInt8 := (Utf8.encode (r : Int)).data.toList

def okR (r : Nat) : Prop := r < 55296 ∨ (57344 ≤ r ∧ r ≤ 1114111)

theorem enc_one {r : Nat} (h : okR r) (rest : List UInt8) : oneS (encS r ++ rest) = (r, (encS r).length) ∧ encS r ≠ [] := by
  have hv : Utf8.valid (r : Int) = true := by
    unfold Utf8.valid okR at *
    simp only [Bool.or_eq_true, Bool.and_eq_true, decide_eq_true_eq]
    omega
  have key : encS r = if r < 128 then [UInt8.ofNat r] else if r < 2048 then [UInt8.ofNat (192 + r / 64), UInt8.ofNat (128 + r % 64)] else if r < 65536 then [UInt8.ofNat (224 + r / 4096), UInt8.ofNat (128 + r / 64 % 64), UInt8.ofNat (128 + r % 64)]
      else [UInt8.ofNat (240 + r / 262144), UInt8.ofNat (128 + r / 4096 % 64), UInt8.ofNat (128 + r / 64 % 64), UInt8.ofNat (128 + r % 64)] := by
    unfold encS Utf8.encode
    simp only [hv, if_true, Int.toNat_natCast]
    by_cases h1 : r < 128
    · simp [h1]
    by_cases h2 : r < 2048
    · simp [h1, h2]
    by_cases h3 : r < 65536
    · simp [h1, h2, h3]
    · simp [h1, h2, h3]
  have tn : ∀ k : Nat, k < 256 → (UInt8.ofNat k).toNat = k := fun k hk => by
    rw [show (UInt8.ofNat k).toNat = k % 256 from rfl]; omega
  rw [key]
  unfold okR at h
  by_cases h1 : r < 128
  · rw [if_pos h1]
    refine ⟨?_, by simp⟩
    rw [List.cons_append, ← decL_one]
    unfold decL
    simp only [List.getElem?_cons_zero, Option.getD_some, tn r (by omega)]
    rw [if_pos h1]; rfl
  rw [if_neg h1]
  by_cases h2 : r < 2048
  · rw [if_pos h2]
    refine ⟨?_, by simp⟩
    rw [List.cons_append, ← decL_one]
    unfold decL
    simp only [List.cons_append, List.nil_append, List.getElem?_cons_zero, List.getElem?_cons_succ, Option.getD_some, tn (192 + r / 64) (by omega), tn (128 + r % 64) (by omega), List.length_cons]
    rw [if_neg (by omega), if_pos (by simp; omega), if_pos (by omega)]
    simp; omega
  rw [if_neg h2]
  by_cases h3 : r < 65536
  · rw [if_pos h3]
    refine ⟨?_, by simp⟩
    rw [List.cons_append, ← decL_one]
    unfold decL
    simp only [List.cons_append, List.nil_append, List.getElem?_cons_zero, List.getElem?_cons_succ, Option.getD_some, tn (224 + r / 4096) (by omega), tn (128 + r / 64 % 64) (by omega), tn (128 + r % 64) (by omega), List.length_cons]
    have e : (224 + r / 4096) % 16 * 4096 + (128 + r / 64 % 64) % 64 * 64 + (128 + r % 64) % 64 = r := by omega
    rw [if_neg (by omega), if_neg (by simp; omega), if_pos (by simp; omega), e, if_pos (by simp only [hv, Bool.and_true, decide_eq_true_eq]; omega)]
    simp
  · rw [if_neg h3]
    refine ⟨?_, by simp⟩
    rw [List.cons_append, ← decL_one]
    unfold decL
    simp only [List.cons_append, List.nil_append, List.getElem?_cons_zero, List.getElem?_cons_succ, Option.getD_some, tn (240 + r / 262144) (by omega), tn (128 + r / 4096 % 64) (by omega), tn (128 + r / 64 % 64) (by omega), tn (128 + r % 64) (by omega), List.length_cons]
    have e : (240 + r / 262144) % 8 * 262144 + (128 + r / 4096 % 64) % 64 * 4096 + (128 + r / 64 % 64) % 64 * 64 + (128 + r % 64) % 64 = r := by omega
    rw [if_neg (by omega), if_neg (by simp; omega), if_neg (by simp; omega), if_pos (by simp; omega), e, if_pos (by simp only [hv, Bool.and_true, decide_eq_true_eq]; omega)]
    simp

theorem enc_len {r : Nat} (h : okR r) : (encS r).length = if r < 128 then 1 else if r < 2048 then 2 else if r < 65536 then 3 else 4 := by
  have hv : Utf8.valid (r : Int) = true := by
    unfold Utf8.valid okR at *
    simp only [Bool.or_eq_true, Bool.and_eq_true, decide_eq_true_eq]
    omega
  unfold encS Utf8.encode
  simp only [hv, if_true, Int.toNat_natCast]
  repeat' split
  all_goals rfl

def decN (n b0 y z u : Nat) : Nat × Nat :=
  if b0 < 0x80 then (b0, 1)
  else if b0 / 32 == 6 && (decide (1 < n) && y / 64 == 2) then
    if (b0 % 32) * 64 + y % 64 ≥ 0x80 then ((b0 % 32) * 64 + y % 64, 2) else (Utf8.runeError, 1)
  else if b0 / 16 == 14 && (decide (1 < n) && y / 64 == 2) && (decide (2 < n) && z / 64 == 2) then
    if (b0 % 16) * 4096 + (y % 64) * 64 + z % 64 ≥ 0x800 && Utf8.valid ((b0 % 16) * 4096 + (y % 64) * 64 + z % 64 : Nat) then ((b0 % 16) * 4096 + (y % 64) * 64 + z % 64, 3) else (Utf8.runeError, 1)
  else if b0 / 8 == 30 && (decide (1 < n) && y / 64 == 2) && (decide (2 < n) && z / 64 == 2) && (decide (3 < n) && u / 64 == 2) then
    if (b0 % 8) * 262144 + (y % 64) * 4096 + (z % 64) * 64 + u % 64 ≥ 0x10000 && Utf8.valid ((b0 % 8) * 262144 + (y % 64) * 4096 + (z % 64) * 64 + u % 64 : Nat) then ((b0 % 8) * 262144 + (y % 64) * 4096 + (z % 64) * 64 + u % 64, 4) else (Utf8.runeError, 1)
  else (Utf8.runeError, 1)

theorem decL_decN (c : UInt8) (xs : List UInt8) : decL (c :: xs) = decN (xs.length + 1) c.toNat (((c :: xs)[1]?).getD 0).toNat (((c :: xs)[2]?).getD 0).toNat (((c :: xs)[3]?).getD 0).toNat := rfl

/-- what is told of a text: a rune with its bytes' number, or the bad one -/
theorem one_ok (b : List UInt8) : okR (oneS b).1 ∧ (oneS b = (65533, 1) ∨ (oneS b).2 = (encS (oneS b).1).length) := by
  cases b with
  | nil => exact ⟨by unfold okR; simp [oneS, firstS], .inl rfl⟩
  | cons c xs =>
    have bad : okR 65533 := by unfold okR; omega
    rw [← decL_one, decL_decN]
    have hc := u8_lt c
    generalize c.toNat = b0 at *
    generalize (((c :: xs)[1]?).getD 0).toNat = y
    generalize (((c :: xs)[2]?).getD 0).toNat = z
    generalize (((c :: xs)[3]?).getD 0).toNat = u
    generalize xs.length + 1 = n
    unfold decN
    split
    · have h : okR b0 := by unfold okR; omega
      refine ⟨h, .inr ?_⟩
      rw [enc_len h, if_pos (by assumption)]
    · split
      · rename_i h1 h2
        simp only [Bool.and_eq_true, beq_iff_eq, decide_eq_true_eq] at h2
        split
        · have h : okR (b0 % 32 * 64 + y % 64) := by unfold okR; omega
          refine ⟨h, .inr ?_⟩
          rw [enc_len h, if_neg (by omega), if_pos (by omega)]
        · exact ⟨bad, .inl rfl⟩
      · split
        · rename_i h1 _ h2
          simp only [Bool.and_eq_true, beq_iff_eq, decide_eq_true_eq] at h2
          split
          · rename_i h3
            simp only [Bool.and_eq_true, decide_eq_true_eq, Utf8.valid, Bool.or_eq_true] at h3
            have h : okR (b0 % 16 * 4096 + y % 64 * 64 + z % 64) := by unfold okR; omega
            refine ⟨h, .inr ?_⟩
            rw [enc_len h, if_neg (by omega), if_neg (by omega), if_pos (by omega)]
          · exact ⟨bad, .inl rfl⟩
        · split
          · rename_i h1 _ _ h2
            simp only [Bool.and_eq_true, beq_iff_eq, decide_eq_true_eq] at h2
            split
            · rename_i h3
              simp only [Bool.and_eq_true, decide_eq_true_eq, Utf8.valid, Bool.or_eq_true] at h3
              have h : okR (b0 % 8 * 262144 + y % 64 * 4096 + z % 64 * 64 + u % 64) := by unfold okR; omega
              refine ⟨h, .inr ?_⟩
              rw [enc_len h, if_neg (by omega), if_neg (by omega), if_neg (by omega)]
            · exact ⟨bad, .inl rfl⟩
          · exact ⟨bad, .inl rfl⟩
end Go.Proofs.Ytlljdbhefepheaa
