/-
  The digits of the parser, walked in the model.
-/
import Derived.Test.YtappgjdiplibbaaGreatYBld
import Derived.BigCall
import Derived.BigQuiet
import Derived.BigRegion
import Derived.StillTailTactics
import Derived.Deep.RegionWith
set_option linter.all false
namespace Go.Proofs.YtappgjdiplibbaaGreat
open Go.Shelf Go.RowKit
def digS : List Int → List UInt8 → List UInt8 × Nat
  | [], acc => (acc, 0)
  | r :: rs, acc => if 48 ≤ r ∧ r ≤ 57 then ((digS rs (if 48 < r ∨ acc ≠ [] then acc ++ [UInt8.ofNat r.toNat] else acc)).1, (digS rs (if 48 < r ∨ acc ≠ [] then acc ++ [UInt8.ofNat r.toNat] else acc)).2 + 1) else (acc, 0)
theorem below_dr {B : Nat} {a w : World} (h : Below B a w) (n : Nat) : Below B a (w.drewN n) := ⟨h.os, h.tape, h.output, h.size, h.block⟩
theorem setCell_self {w : World} {b o : Nat} {v : Value} (h : w.cell? ⟨b, o, none⟩ = some v) : w.setCell ⟨b, o, none⟩ v = w := by
  have key : (w.setCell ⟨b, o, none⟩ v).heap = w.heap := by
    simp only [World.setCell]
    apply Array.ext_getElem?
    intro j
    rw [Array.getElem?_modify]
    by_cases hj : b = j
    · subst hj
      simp only [if_true]
      simp only [World.cell?] at h
      cases hx : w.heap[b]? with
      | none => rfl
      | some ob =>
        rw [hx] at h
        cases ob <;> simp at h ⊢
        apply Array.ext_getElem?
        intro q
        rw [Array.getElem?_setIfInBounds]
        by_cases hq : o = q
        · subst hq
          rw [if_pos rfl]
          rename_i cc _ _
          have hlt : o < cc.size := by
            rcases Nat.lt_or_ge o cc.size with h' | h'
            · exact h'
            · rw [Array.getElem?_eq_none h'] at h; cases h
          rw [if_pos hlt, h]
        · rw [if_neg hq]
    · rw [if_neg hj]
  have : w.setCell ⟨b, o, none⟩ v = { w with heap := (w.setCell ⟨b, o, none⟩ v).heap } := rfl
  rw [this, key]
theorem own_set {W : World} {B e : Nat} {v : Value} {n : Nat} {xs : List Value} (h : W.ownsRow B e 1 v n xs) {b' x : Nat} (hb : b' < B) (u : Value) : (W.setCell ⟨b', x, none⟩ u).ownsRow B e 1 v n xs := by
  refine ⟨h.1, ?_⟩
  rcases h.2 with h | ⟨g, cap, cur, h1, h2, h3, h4⟩
  · exact .inl h
  · exact .inr ⟨g, cap, cur, h1, h2, by rw [Below.heap_setCell W ⟨b', x, none⟩ u g (by simp; omega)]; exact h3, h4⟩
theorem bld_set {W : World} {B b : Nat} {p : Value} {bs : List Value} (h : Lib.BuilderAt 204 5 B b p bs W) {b' x : Nat} (hb : b' < B) (u : Value) : Lib.BuilderAt 204 5 B b p bs (W.setCell ⟨b', x, none⟩ u) := by
  obtain ⟨h1, v, h2, h3, h4⟩ := h
  exact ⟨h1, v, by rw [Below.heap_setCell W ⟨b', x, none⟩ u b (by simp; omega)]; exact h2, own_set h3 hb u, h4⟩
theorem bld_set' {W : World} {B b : Nat} {bs : List Value} (h : Lib.IsBuilder 204 5 B b bs W) {b' x : Nat} (hb : b' < B) (u : Value) : Lib.IsBuilder 204 5 B b bs (W.setCell ⟨b', x, none⟩ u) := by
  rcases h with h | h
  · exact .inl (bld_set h hb u)
  · exact .inr (bld_set h hb u)
theorem below_set {B : Nat} {w W : World} {p : Addr} {v : Value} (h : Below B (w.setCell p v) W) (u : Value) : Below B (w.setCell p u) (W.setCell p u) := by
  refine ⟨h.os, h.tape, h.output, ?_, fun j hj => ?_⟩
  · have := h.size; simpa using this
  · by_cases hp : j = p.block
    · subst hp
      have := h.block p.block hj
      simp only [World.setCell, Array.getElem?_modify, if_true] at this ⊢
      rw [this, Option.map_map]
      congr 1
      funext o
      cases o <;> simp
      split <;> simp
    · have := h.block j hj
      rw [Below.heap_setCell _ _ _ _ hp] at this ⊢
      rw [Below.heap_setCell _ _ _ _ hp]
      exact this
set_option maxHeartbeats 4000000 in
set_option maxRecDepth 1000000 in
theorem digits_walk (w : World) (b o bl ol cap : Nat) (rs : List Int) (i : Nat) (hl : w.cell? ⟨b, o, none⟩ = some (.slice (some ⟨bl, ol, none⟩) rs.length cap)) (hi : w.cell? ⟨b, o + 2, none⟩ = some (.int .i64 (i : Nat))) (hf : w.frozen? ⟨b, o + 2, none⟩ = false)
    (hr : ∀ (j : Nat) r, rs[j]? = some r → w.cell? ⟨bl, ol + j * 2, none⟩ = some (.int .i32 r)) (hne : bl ≠ b) (hbl : bl < w.heap.size) (hb : b < w.heap.size) (hil : i ≤ rs.length) (hn : rs.length < 1099511627776) :
    Calls Tryz.prog 139 #[.pointer (some ⟨b, o, none⟩)] w fun e w' => e = .returned (.tuple #[.string ⟨(digS (rs.drop i) []).1.toArray⟩, .bool (decide (0 < (digS (rs.drop i) []).2))]) ∧ Below w.heap.size (w.setCell ⟨b, o + 2, none⟩ (.int .i64 ((i + (digS (rs.drop i) []).2 : Nat)))) w' := by
  go_enter Tryz.func139, Tryz.ntmps139
  go_wp2
  go_loopw [] (fun wr => ∃ (k : Nat) (acc : List UInt8), Lib.IsBuilder 204 5 w.heap.size w.heap.size (Lib.byteCells acc) wr ∧ Below w.heap.size (w.setCell ⟨b, o + 2, none⟩ (.int .i64 (k : Nat))) wr ∧ i ≤ k ∧ k ≤ rs.length ∧ (digS (rs.drop k) acc).1 = (digS (rs.drop i) []).1 ∧ (digS (rs.drop k) acc).2 + k = (digS (rs.drop i) []).2 + i ∧ acc.length ≤ k) (fun wr => rs.length - (intOf ((wr.cell? ⟨b, o + 2, none⟩).getD undef)).toNat)
  case atStart =>
    refine ⟨i, [], Lib.fresh_isBuilder 204 5 w, ?_, Nat.le_refl _, hil, rfl, rfl, by simp⟩
    rw [setCell_self hi]
    exact (Below.refl _ w).alloc (Nat.le_refl _) _
  case round =>
    obtain ⟨k, acc, hB, hbw, hik, hkn, h1, h2, hal⟩ := hrel
    have hcl : wr.cell? ⟨b, o, none⟩ = some (.slice (some ⟨bl, ol, none⟩) rs.length cap) := by
      rw [hbw.cell (p := ⟨b, o, none⟩) hb, World.cell?_setCell_other _ _ _ _ (by simp)]; exact hl
    have hci : wr.cell? ⟨b, o + 2, none⟩ = some (.int .i64 (k : Nat)) := by
      rw [hbw.cell (p := ⟨b, o + 2, none⟩) hb, World.cell?_setCell_same _ _ _ hi]
    have hfi : wr.frozen? ⟨b, o + 2, none⟩ = false := by
      rw [hbw.frozen (p := ⟨b, o + 2, none⟩) hb]; simpa using hf
    have hsz : w.heap.size ≤ wr.heap.size := by have := hbw.size; simpa using this
    by_cases hk : k < rs.length
    · have hrk := hr k (rs[k]) (List.getElem?_eq_getElem hk)
      have hcr : wr.cell? ⟨bl, ol + k * 2, none⟩ = some (.int .i32 rs[k]) := by
        rw [hbw.cell (p := ⟨bl, ol + k * 2, none⟩) hbl, World.cell?_setCell_other _ _ _ _ (by simp [hne.symm, hne])]; exact hrk
      have hd : rs.drop k = rs[k] :: rs.drop (k + 1) := List.drop_eq_getElem_cons hk
      generalize rs[k] = r at *
      rw [hd] at h1 h2
      have im : (k : Int) < (rs.length : Int) := by omega
      have im0 : (0 : Int) ≤ (k : Int) := by omega
      by_cases h3 : r ≥ 48
      · by_cases h4 : r ≤ 57
        · have hwr : IntKind.u8.wrap r = r := by simp [IntKind.wrap, IntKind.bits, IntKind.signed]; omega
          go_wp2_with fail
          go_quiet (fail)
          by_cases h5 : r > 48
          · have hsd : (digS (r :: rs.drop (k + 1)) acc) = ((digS (rs.drop (k + 1)) (acc ++ [UInt8.ofNat r.toNat])).1, (digS (rs.drop (k + 1)) (acc ++ [UInt8.ofNat r.toNat])).2 + 1) := by
              rw [digS, if_pos ⟨h3, h4⟩, if_pos (.inl h5)]
            go_wp2_with fail
            go_quiet (fail)
            go_wp2_with fail
            generalize hwq : World.drewN _ _ = wq
            have qcl : wq.cell? ⟨b, o, none⟩ = some (.slice (some ⟨bl, ol, none⟩) rs.length cap) := by rw [← hwq]; exact hcl
            have qci : wq.cell? ⟨b, o + 2, none⟩ = some (.int .i64 (k : Nat)) := by rw [← hwq]; exact hci
            have qcr : wq.cell? ⟨bl, ol + k * 2, none⟩ = some (.int .i32 r) := by rw [← hwq]; exact hcr
            have qfi : wq.frozen? ⟨b, o + 2, none⟩ = false := by rw [← hwq]; exact hfi
            have qB : Lib.IsBuilder 204 5 w.heap.size w.heap.size (Lib.byteCells acc) wq := by rw [← hwq]; exact hB
            have qbw : Below w.heap.size (w.setCell ⟨b, o + 2, none⟩ (.int .i64 (k : Nat))) wq := by
              rw [← hwq]
              exact ⟨hbw.os, hbw.tape, hbw.output, hbw.size, hbw.block⟩
            have qsz : w.heap.size ≤ wq.heap.size := by rw [← hwq]; exact hsz
            go_region_with (go_at_call 162; refine (bldWriteByte w.heap.size w.heap.size (Lib.byteCells acc) _ _ (by first | exact qB | exact (show Lib.IsBuilder 204 5 w.heap.size w.heap.size (Lib.byteCells acc) wq.drew from qB)) (by rw [Lib.byteCells_length]; omega) (by exact qsz)).mono ?_; rintro e W1 ⟨rfl, hW1, hW2⟩)
            all_goals
              have wci : W1.cell? ⟨b, o + 2, none⟩ = some (.int .i64 (k : Nat)) := by
                rw [hW2.cell (p := ⟨b, o + 2, none⟩) hb]; exact qci
              have wfi : W1.frozen? ⟨b, o + 2, none⟩ = false := by
                rw [hW2.frozen (p := ⟨b, o + 2, none⟩) hb]; exact qfi
              go_wp2
              rw [hsd] at h1 h2
              go_roundw
              case rel =>
                refine ⟨k + 1, acc ++ [UInt8.ofNat r.toNat], ?_, ?_, by omega, by omega, h1, by simp only at h2; omega, by simp; omega⟩
                · rw [Lib.byteCells_append]
                  have : Lib.byteCells [UInt8.ofNat r.toNat] = [.int .u8 r] := by
                    have : (UInt8.ofNat r.toNat).toNat = r.toNat := by simp; omega
                    simp [Lib.byteCells, this]; omega
                  rw [this]
                  exact bld_set' (.inr hW1) hb _
                · exact below_set (qbw.drew.trans hW2) _
              case measure =>
                rw [World.cell?_setCell_same _ _ _ wci, hci]
                simp [intOf]; omega
          · have hd5 : decide (r > 48) = false := decide_eq_false h5
            have hlen : ∀ W, Lib.IsBuilder 204 5 w.heap.size w.heap.size (Lib.byteCells acc) W → Calls Tryz.prog 161 #[.pointer (some ⟨w.heap.size, 0, none⟩)] W fun e w' => e = .returned (.int .i64 acc.length) ∧ w' = W := fun W hW => by
              have := bldLen w.heap.size w.heap.size _ W hW
              simpa [Lib.byteCells_length] using this
            by_cases h6 : acc = []
            · have hsd : (digS (r :: rs.drop (k + 1)) acc) = ((digS (rs.drop (k + 1)) acc).1, (digS (rs.drop (k + 1)) acc).2 + 1) := by
                rw [digS, if_pos ⟨h3, h4⟩, if_neg (by rintro (h | h); exact h5 h; exact h h6)]
              have hl6 : acc.length = 0 := by rw [h6]; rfl
              have hl7 : decide ((acc.length : Int) > 0) = false := decide_eq_false (by omega)
              rw [hl6] at hlen
              go_wp2_with fail
              go_region_with (go_at_call 161; refine (hlen _ (by first | exact hB)).mono ?_; rintro e W1 ⟨rfl, rfl⟩)
              all_goals
                go_wp2_with fail
                rw [hsd] at h1 h2
                go_roundw
                case rel =>
                  exact ⟨k + 1, acc, bld_set' (W := wr.drewN _) hB hb _, below_set (below_dr hbw _) _, by omega, by omega, h1, by simp only at h2; omega, by omega⟩
                case measure =>
                  have qci : (wr.drewN (nq + 1)).cell? ⟨b, o + 2, none⟩ = some (.int .i64 (k : Nat)) := hci
                  rw [World.cell?_setCell_same _ _ _ qci, hci]
                  simp [intOf]; omega
            · have hsd : (digS (r :: rs.drop (k + 1)) acc) = ((digS (rs.drop (k + 1)) (acc ++ [UInt8.ofNat r.toNat])).1, (digS (rs.drop (k + 1)) (acc ++ [UInt8.ofNat r.toNat])).2 + 1) := by
                rw [digS, if_pos ⟨h3, h4⟩, if_pos (.inr h6)]
              have hl6 : 0 < acc.length := by cases acc with | nil => exact absurd rfl h6 | cons _ _ => simp
              have hl7 : (acc.length : Int) > 0 := by omega
              go_wp2_with fail
              go_region_with (go_at_call 161; refine (hlen _ (by first | exact hB)).mono ?_; rintro e W1 ⟨rfl, rfl⟩)
              all_goals
                go_wp2_with fail
                generalize hwq : World.drewN _ _ = wq
                have qcl : wq.cell? ⟨b, o, none⟩ = some (.slice (some ⟨bl, ol, none⟩) rs.length cap) := by rw [← hwq]; exact hcl
                have qci : wq.cell? ⟨b, o + 2, none⟩ = some (.int .i64 (k : Nat)) := by rw [← hwq]; exact hci
                have qcr : wq.cell? ⟨bl, ol + k * 2, none⟩ = some (.int .i32 r) := by rw [← hwq]; exact hcr
                have qfi : wq.frozen? ⟨b, o + 2, none⟩ = false := by rw [← hwq]; exact hfi
                have qB : Lib.IsBuilder 204 5 w.heap.size w.heap.size (Lib.byteCells acc) wq := by rw [← hwq]; exact hB
                have qbw : Below w.heap.size (w.setCell ⟨b, o + 2, none⟩ (.int .i64 (k : Nat))) wq := by
                  rw [← hwq]
                  exact ⟨hbw.os, hbw.tape, hbw.output, hbw.size, hbw.block⟩
                have qsz : w.heap.size ≤ wq.heap.size := by rw [← hwq]; exact hsz
                go_region_with (go_at_call 162; refine (bldWriteByte w.heap.size w.heap.size (Lib.byteCells acc) _ _ (by first | exact qB | exact (show Lib.IsBuilder 204 5 w.heap.size w.heap.size (Lib.byteCells acc) wq.drew from qB)) (by rw [Lib.byteCells_length]; omega) (by exact qsz)).mono ?_; rintro e W1 ⟨rfl, hW1, hW2⟩)
                all_goals
                  have wci : W1.cell? ⟨b, o + 2, none⟩ = some (.int .i64 (k : Nat)) := by
                    rw [hW2.cell (p := ⟨b, o + 2, none⟩) hb]; exact qci
                  have wfi : W1.frozen? ⟨b, o + 2, none⟩ = false := by
                    rw [hW2.frozen (p := ⟨b, o + 2, none⟩) hb]; exact qfi
                  go_wp2
                  rw [hsd] at h1 h2
                  go_roundw
                  case rel =>
                    refine ⟨k + 1, acc ++ [UInt8.ofNat r.toNat], ?_, ?_, by omega, by omega, h1, by simp only at h2; omega, by simp; omega⟩
                    · rw [Lib.byteCells_append]
                      have : Lib.byteCells [UInt8.ofNat r.toNat] = [.int .u8 r] := by
                        have : (UInt8.ofNat r.toNat).toNat = r.toNat := by simp; omega
                        simp [Lib.byteCells, this]; omega
                      rw [this]
                      exact bld_set' (.inr hW1) hb _
                    · exact below_set (qbw.drew.trans hW2) _
                  case measure =>
                    rw [World.cell?_setCell_same _ _ _ wci, hci]
                    simp [intOf]; omega
        · have h4' : decide (r ≤ 57) = false := decide_eq_false h4
          have hsd : digS (r :: rs.drop (k + 1)) acc = (acc, 0) := by rw [digS, if_neg (fun h => h4 h.2)]
          go_wp2_with fail
          go_quiet (fail)
          go_wp2_with fail
          generalize hwq : World.drewN _ _ = wq
          have qci : wq.cell? ⟨b, o + 2, none⟩ = some (.int .i64 (k : Nat)) := by rw [← hwq]; exact hci
          have qB : Lib.IsBuilder 204 5 w.heap.size w.heap.size (Lib.byteCells acc) wq := by rw [← hwq]; exact hB
          have qbw : Below w.heap.size (w.setCell ⟨b, o + 2, none⟩ (.int .i64 (k : Nat))) wq := by
            rw [← hwq]
            exact ⟨hbw.os, hbw.tape, hbw.output, hbw.size, hbw.block⟩
          have qsz : w.heap.size ≤ wq.heap.size := by rw [← hwq]; exact hsz
          rw [hsd] at h1 h2
          simp only at h1 h2
          go_region_with (go_at_call 163; refine (bldString w.heap.size w.heap.size acc _ (by first | exact qB | exact (show Lib.IsBuilder 204 5 w.heap.size w.heap.size (Lib.byteCells acc) wq.drew from qB)) (by exact qsz)).mono ?_; rintro e W1 ⟨rfl, hW1⟩; have wci : W1.cell? ⟨b, o + 2, none⟩ = some (.int .i64 (k : Nat)) := by rw [hW1.cell (p := ⟨b, o + 2, none⟩) hb]; exact qci)
          all_goals
            go_wp2_with fail
            go_ret2
            have e2 : i + (digS (rs.drop i) []).2 = k := by omega
            refine ⟨?_, ?_⟩
            · rw [← h1]
              have : decide (i < k) = decide (0 < (digS (rs.drop i) []).2) := by
                apply decide_eq_decide.2; omega
              rw [← this]
              rfl
            · rw [e2]
              first | exact qbw.drew.trans hW1 | exact qbw.trans hW1
      · have h3' : decide (r ≥ 48) = false := decide_eq_false h3
        have hsd : digS (r :: rs.drop (k + 1)) acc = (acc, 0) := by rw [digS, if_neg (fun h => h3 h.1)]
        go_wp2_with fail
        go_quiet (fail)
        go_wp2_with fail
        generalize hwq : World.drewN _ _ = wq
        have qci : wq.cell? ⟨b, o + 2, none⟩ = some (.int .i64 (k : Nat)) := by rw [← hwq]; exact hci
        have qB : Lib.IsBuilder 204 5 w.heap.size w.heap.size (Lib.byteCells acc) wq := by rw [← hwq]; exact hB
        have qbw : Below w.heap.size (w.setCell ⟨b, o + 2, none⟩ (.int .i64 (k : Nat))) wq := by
          rw [← hwq]
          exact ⟨hbw.os, hbw.tape, hbw.output, hbw.size, hbw.block⟩
        have qsz : w.heap.size ≤ wq.heap.size := by rw [← hwq]; exact hsz
        rw [hsd] at h1 h2
        simp only at h1 h2
        go_region_with (go_at_call 163; refine (bldString w.heap.size w.heap.size acc _ (by first | exact qB | exact (show Lib.IsBuilder 204 5 w.heap.size w.heap.size (Lib.byteCells acc) wq.drew from qB)) (by exact qsz)).mono ?_; rintro e W1 ⟨rfl, hW1⟩; have wci : W1.cell? ⟨b, o + 2, none⟩ = some (.int .i64 (k : Nat)) := by rw [hW1.cell (p := ⟨b, o + 2, none⟩) hb]; exact qci)
        all_goals
          go_wp2_with fail
          go_ret2
          have e2 : i + (digS (rs.drop i) []).2 = k := by omega
          refine ⟨?_, ?_⟩
          · rw [← h1]
            have : decide (i < k) = decide (0 < (digS (rs.drop i) []).2) := by
              apply decide_eq_decide.2; omega
            rw [← this]
            rfl
          · rw [e2]
            first | exact qbw.drew.trans hW1 | exact qbw.trans hW1
    · have hkk : k = rs.length := by omega
      have im : decide ((k : Int) < (rs.length : Int)) = false := decide_eq_false (by omega)
      have hsd : digS (rs.drop k) acc = (acc, 0) := by rw [hkk, List.drop_length]; rfl
      go_wp2_with fail
      go_quiet (fail)
      go_wp2_with fail
      generalize hwq : World.drewN _ _ = wq
      have qci : wq.cell? ⟨b, o + 2, none⟩ = some (.int .i64 (k : Nat)) := by rw [← hwq]; exact hci
      have qB : Lib.IsBuilder 204 5 w.heap.size w.heap.size (Lib.byteCells acc) wq := by rw [← hwq]; exact hB
      have qbw : Below w.heap.size (w.setCell ⟨b, o + 2, none⟩ (.int .i64 (k : Nat))) wq := by
        rw [← hwq]
        exact ⟨hbw.os, hbw.tape, hbw.output, hbw.size, hbw.block⟩
      have qsz : w.heap.size ≤ wq.heap.size := by rw [← hwq]; exact hsz
      rw [hsd] at h1 h2
      simp only at h1 h2
      go_region_with (go_at_call 163; refine (bldString w.heap.size w.heap.size acc _ (by first | exact qB | exact (show Lib.IsBuilder 204 5 w.heap.size w.heap.size (Lib.byteCells acc) wq.drew from qB)) (by exact qsz)).mono ?_; rintro e W1 ⟨rfl, hW1⟩; have wci : W1.cell? ⟨b, o + 2, none⟩ = some (.int .i64 (k : Nat)) := by rw [hW1.cell (p := ⟨b, o + 2, none⟩) hb]; exact qci)
      all_goals
        go_wp2_with fail
        go_ret2
        have e2 : i + (digS (rs.drop i) []).2 = k := by omega
        refine ⟨?_, ?_⟩
        · rw [← h1]
          have : decide (i < rs.length) = decide (0 < (digS (rs.drop i) []).2) := by
            apply decide_eq_decide.2; omega
          rw [← this]
          rfl
        · rw [e2]
          first | exact qbw.drew.trans hW1 | exact qbw.trans hW1
end Go.Proofs.YtappgjdiplibbaaGreat
