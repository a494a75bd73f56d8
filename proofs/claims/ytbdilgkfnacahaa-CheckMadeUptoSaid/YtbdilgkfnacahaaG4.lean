/- A closed sentence is reckoned by V: CheckRuns. No conditions. -/
import Derived.Test.YtbdilgkfnacahaaG2
import Derived.KernelRfl
import Derived.Shelf.Strings.Builder1
import Derived.Test.YtbdilgkfnacahaaChecked
import Derived.BigCall
import Derived.BigQuiet
import Derived.BigRegion
import Derived.StillTailTactics
import Derived.Deep.RegionWith
import Derived.Test.YtbdilgkfnacahaaM2
import Derived.Shelf.SlSortCmp.WholeK
import Derived.Shelf.SlGeneric
import Derived.Ground.SlsfProg
import Derived.Test.YtbdilgkfnacahaaProg
import Derived.Test.YtbdilgkfnacahaaM1
set_option maxRecDepth 1000000
set_option linter.unusedSimpArgs false
set_option linter.unusedVariables false
set_option maxHeartbeats 4000000
namespace Go.Proofs.Ytbdilgkfnacahaa
open Go.V
def checkRunsTrue : Option (D × St) → Bool
  | some (.bool true, ⟨[], _, _⟩) => true
  | _ => false
theorem checkRunsReckoned : checkRunsTrue (callD pv0 400 29 [] ⟨[], 0, 0⟩) = true := by kernel_rfl
theorem checkRunsTrue_some {r : Option (D × St)} (h : checkRunsTrue r = true) : ∃ st, r = some (.bool true, st) ∧ st.bs = [] := by
  match r, h with
  | some (.bool true, ⟨[], a, b⟩), _ => exact ⟨⟨[], a, b⟩, rfl, rfl⟩
theorem checkRunsIs : ∃ st, callD pv0 400 29 [] ⟨[], 0, 0⟩ = some (.bool true, st) ∧ st.bs = [] := checkRunsTrue_some checkRunsReckoned
open Go.Shelf Go.RowKit
def bldR : Go.Shelf.Ren := ⟨fun | 170 => 122 | 169 => 124 | 167 => 123 | 240 => 131 | 276 => 133 | n => n, fun | 70 => 171 | 9 => 9 | 0 => 0 | 72 => 173 | 37 => 99 | 127 => 185 | 3 => 3 | 5 => 5 | 4 => 4 | 164 => 188 | n => n, fun | n => n⟩
theorem bldX : Builder.Extra Try.prog bldR where
  sizeBuilder := by kernel_rfl
  liesBuilder := by kernel_rfl
  t5 := Try.underlying5
  a5 := Try.isAgg5
  z5 := Try.sizeOf5
  v5 := Try.zeroValue5
  infoByte := by kernel_rfl
  cellsByte := by kernel_rfl
  sizeByte := by kernel_rfl
  neB5 := by decide
theorem bld170 : Go.Proofs.Lays.n170 Try.prog bldR := {
  mixed := by kernel_rfl
  f170 := Try.func122.trans (congrArg some (by kernel_rfl))
  t0 := Try.underlying0
  a0 := Try.isAgg0
  z0 := Try.sizeOf0
  v0 := Try.zeroValue0
  t3 := Try.underlying3
  a3 := Try.isAgg3
  z3 := Try.sizeOf3
  v3 := Try.zeroValue3
  t37 := Try.underlying99
  a37 := Try.isAgg99
  z37 := Try.sizeOf99
  v37 := Try.zeroValue99
  t70 := Try.underlying171
  a70 := Try.isAgg171
  z70 := Try.sizeOf171
  v70 := Try.zeroValue171
  t72 := Try.underlying173
  a72 := Try.isAgg173
  z72 := Try.sizeOf173
  v72 := Try.zeroValue173 }
theorem bldLen (B b : Nat) (bs : List Value) (w : World) (h : Lib.IsBuilder 173 5 B b bs w) :
    Calls Try.prog 122 #[.pointer (some ⟨b, 0, none⟩)] w fun e w' => e = .returned (.int .i64 bs.length) ∧ w' = w := Any.Builder_Len bld170 B b bs w h
set_option maxHeartbeats 1000000 in
set_option maxRecDepth 100000 in
theorem bldCcUsed (b : Nat) (w : World) (h0 : w.cell? ⟨b, 0, none⟩ = some (.pointer (some ⟨b, 0, none⟩))) :
    Calls Try.prog 131 #[.pointer (some ⟨b, 0, none⟩)] w fun e w' => e = .returned (.tuple #[]) ∧ w' = w := by
  obtain ⟨j, hj, _⟩ := Option.map_eq_some_iff.1 bldX.sizeBuilder
  go_enter Try.func131, Try.ntmps131
  go_wp2
  rw [Lib.run_neq_ptr_same w _ Try.underlying171 hj]
  go_wp2
  go_end0
  exact ⟨rfl, rfl⟩
set_option maxHeartbeats 1000000 in
set_option maxRecDepth 100000 in
theorem bldCcFresh (b : Nat) (w : World) (h0 : w.cell? ⟨b, 0, none⟩ = some (.pointer none)) (hsh : w.shape? b = some (173, 2)) (hfz : w.frozen? ⟨b, 0, none⟩ = false) :
    Calls Try.prog 131 #[.pointer (some ⟨b, 0, none⟩)] w fun e w' => e = .returned (.tuple #[]) ∧ w' = w.setCell ⟨b, 0, none⟩ (.pointer (some ⟨b, 0, none⟩)) := by
  obtain ⟨j, hj, hjs⟩ := Option.map_eq_some_iff.1 bldX.sizeBuilder
  have hj : Try.prog.info? 173 = some j := hj
  go_enter Try.func131, Try.ntmps131
  go_wp2
  rw [Lib.run_to_unsafe w ⟨b, 0, none⟩ Try.underlying171 Try.underlying188 hj (by rw [hjs]; decide) hsh (Nat.zero_lt_succ 1)]
  simp only [Result.andThen]
  rw [Oper.upon_value]
  go_wp2
  rw [run_callFunc_extern Try.func133 (by kernel_rfl) (by kernel_rfl) (by kernel_rfl) (e := Extern.AbiNoEscape.same) (by kernel_rfl)]
  rw [Lib.run_noEscape]
  simp only [Result.andThen]
  rw [Oper.upon_value]
  go_wp2
  rw [Lib.run_from_unsafe w ⟨b, 0, none⟩ Try.underlying188 Try.underlying171 hj hsh bldX.liesBuilder]
  simp only [Result.andThen]
  rw [Oper.upon_value]
  go_wp2
  go_end0
  exact ⟨rfl, rfl⟩
theorem bld169 : Go.Proofs.Lays.n169 Try.prog bldR := {
  mixed := by kernel_rfl
  f169 := Try.func124.trans (congrArg some (by kernel_rfl))
  t0 := Try.underlying0
  a0 := Try.isAgg0
  z0 := Try.sizeOf0
  v0 := Try.zeroValue0
  t3 := Try.underlying3
  a3 := Try.isAgg3
  z3 := Try.sizeOf3
  v3 := Try.zeroValue3
  t9 := Try.underlying9
  a9 := Try.isAgg9
  z9 := Try.sizeOf9
  v9 := Try.zeroValue9
  t37 := Try.underlying99
  a37 := Try.isAgg99
  z37 := Try.sizeOf99
  v37 := Try.zeroValue99
  t70 := Try.underlying171
  a70 := Try.isAgg171
  z70 := Try.sizeOf171
  v70 := Try.zeroValue171
  t72 := Try.underlying173
  a72 := Try.isAgg173
  z72 := Try.sizeOf173
  v72 := Try.zeroValue173
  t127 := Try.underlying185
  a127 := Try.isAgg185
  z127 := Try.sizeOf185
  v127 := Try.zeroValue185 }
theorem bldString (B b : Nat) (l : List UInt8) (w : World) (h : Lib.IsBuilder 173 5 B b (Lib.byteCells l) w) (hBw : B ≤ w.heap.size) :
    Calls Try.prog 124 #[.pointer (some ⟨b, 0, none⟩)] w fun e w' => e = .returned (.string ⟨l.toArray⟩) ∧ Below B w w' := Any.Builder_String_any bld169 bldX B b l w h hBw
theorem bldCc (B b : Nat) (bs : List Value) (w : World) (h : Lib.IsBuilder 173 5 B b bs w) :
    Calls Try.prog 131 #[.pointer (some ⟨b, 0, none⟩)] w fun e w' => e = .returned (.tuple #[]) ∧ (Lib.BuilderAt 173 5 B b (.pointer (some ⟨b, 0, none⟩)) bs w' ∧ Below B w w') := by
  rcases h with h | h
  · refine (bldCcFresh b w h.cell0 h.shape h.frozen0).mono ?_
    rintro e w' ⟨rfl, rfl⟩
    exact ⟨rfl, h.used _, (Below.refl B w).setCell (p := ⟨b, 0, none⟩) h.1 _⟩
  · refine (bldCcUsed b w h.cell0).mono ?_
    rintro e w' ⟨rfl, rfl⟩
    exact ⟨rfl, h, Below.refl B _⟩
set_option maxHeartbeats 2000000 in
set_option maxRecDepth 100000 in
theorem bldWriteByte (B b : Nat) (bs : List Value) (c : Int) (w : World) (h : Lib.IsBuilder 173 5 B b bs w) (hlen : bs.length + 1 ≤ 140737488355328) (hBw : B ≤ w.heap.size) :
    Calls Try.prog 123 #[.pointer (some ⟨b, 0, none⟩), .int .u8 c] w fun e w' => e = .returned .nilIface ∧ (Lib.BuilderAt 173 5 B b (.pointer (some ⟨b, 0, none⟩)) (bs ++ [.int .u8 c]) w' ∧ Below B w w') := by
  obtain ⟨i0, hi, hz0, hz1, hz2⟩ := info_parts bldX.infoByte
  go_enter Try.func123, Try.ntmps123
  go_wp2_with (go_at_call 131; refine (bldCc B b bs _ h).mono ?_)
  rintro e w1 ⟨rfl, h1, hb1⟩
  obtain ⟨hB, v, hbk, hown, hne⟩ := h1
  have c0 : w1.cell? ⟨b, 0, none⟩ = some (.pointer (some ⟨b, 0, none⟩)) := by rw [Lib.cell_of_heap hbk]; rfl
  have c1 : w1.cell? ⟨b, 1, none⟩ = some v := by rw [Lib.cell_of_heap hbk]; rfl
  go_wp2_with (at_builtin; refine wpList_append_own _ rfl _ _ 99 rfl B 5 i0 (.int .u8 0) 1 1 Try.underlying99 hi hz0 hz1 hz2 rfl (by decide) _ _ _ rfl (hown.alloc _) ⟨w1.heap.size, 0, none⟩ 1 1 [.int .u8 c] rfl rfl ?c1 ?c2 ?c3 ?c4 ?c5 ?_)
  case c1 =>
    intro j u hj
    match j, hj with
    | 0, hj => simp at hj; subst hj; simp [Addr.add]
  case c2 => intro u hu; simp at hu; subst hu; rfl
  case c3 => unfold maxLen; omega
  case c4 => omega
  case c5 => have := hb1.size; simp; omega
  intro v' w2 hown' hgrow _
  have hlt : b < w1.heap.size := by
    rcases Nat.lt_or_ge b w1.heap.size with h' | h'
    · exact h'
    · simp [Array.getElem?_eq_none h'] at hbk
  have hb2 : w2.heap[b]? = some (.cells #[.pointer (some ⟨b, 0, none⟩), v] 173 (0, 0)) := by
    rw [hgrow.block b (by simp; omega) (fun e => hne e.symm), Lib.alloc_old w1 _ b hlt]
    exact hbk
  have d0 : w2.cell? ⟨b, 0, none⟩ = some (.pointer (some ⟨b, 0, none⟩)) := by rw [Lib.cell_of_heap hb2]; rfl
  have d1 : w2.cell? ⟨b, 1, none⟩ = some v := by rw [Lib.cell_of_heap hb2]; rfl
  have f1 : w2.frozen? ⟨b, 1, none⟩ = false := Lib.frozen_of_heap hb2 1
  obtain ⟨g, cap, rfl⟩ : ∃ g cap, v' = .slice (some ⟨g, 0, none⟩) (bs.length + 1) cap := by
    rcases hown'.2 with ⟨_, h0⟩ | ⟨g, cap, cur, hv, _⟩
    · omega
    · exact ⟨g, cap, hv⟩
  go_wp2
  go_ret
  refine ⟨rfl, ?_, ?_⟩
  · exact Lib.BuilderAt.put (T := 173) (e := 5) hB hb2 (bs' := bs ++ [.int .u8 c]) (by simpa using hown') (by decide)
  · exact ((hb1.alloc (by have := hb1.size; omega) _).grown hgrow (by have := hb1.size; simp; omega) (fun k hk => (hown.lt k hk).1)).setCell (p := ⟨b, 1, none⟩) hB _
def digS : List Int → List UInt8 → List UInt8 × Nat
  | [], acc => (acc, 0)
  | r :: rs, acc => if 48 ≤ r ∧ r ≤ 57 then ((digS rs (if 48 < r ∨ acc ≠ [] then acc ++ [UInt8.ofNat r.toNat] else acc)).1, (digS rs (if 48 < r ∨ acc ≠ [] then acc ++ [UInt8.ofNat r.toNat] else acc)).2 + 1) else (acc, 0)
theorem below_dr {B : Nat} {a w : World} (h : Below B a w) (n : Nat) : Below B a (w.drewN n) := ⟨h.os, h.tape, h.output, h.size, h.block⟩
theorem setCell_self {w : World} {b o : Nat} {v : Value} (h : w.cell? ⟨b, o, none⟩ = some v) : w.setCell ⟨b, o, none⟩ v = w := by
  have key : (w.setCell ⟨b, o, none⟩ v).heap = w.heap := by
    simp only [World.setCell]
    apply Array.ext_getElem?
    intro j
    rw [Array.getElem?_modify]
    by_cases hj : b = j
    · subst hj
      simp only [if_true]
      simp only [World.cell?] at h
      cases hx : w.heap[b]? with
      | none => rfl
      | some ob =>
        rw [hx] at h
        cases ob <;> simp at h ⊢
        apply Array.ext_getElem?
        intro q
        rw [Array.getElem?_setIfInBounds]
        by_cases hq : o = q
        · subst hq
          rw [if_pos rfl]
          rename_i cc _ _
          have hlt : o < cc.size := by
            rcases Nat.lt_or_ge o cc.size with h' | h'
            · exact h'
            · rw [Array.getElem?_eq_none h'] at h; cases h
          rw [if_pos hlt, h]
        · rw [if_neg hq]
    · rw [if_neg hj]
  have : w.setCell ⟨b, o, none⟩ v = { w with heap := (w.setCell ⟨b, o, none⟩ v).heap } := rfl
  rw [this, key]
theorem own_set {W : World} {B e : Nat} {v : Value} {n : Nat} {xs : List Value} (h : W.ownsRow B e 1 v n xs) {b' x : Nat} (hb : b' < B) (u : Value) : (W.setCell ⟨b', x, none⟩ u).ownsRow B e 1 v n xs := by
  refine ⟨h.1, ?_⟩
  rcases h.2 with h | ⟨g, cap, cur, h1, h2, h3, h4⟩
  · exact .inl h
  · exact .inr ⟨g, cap, cur, h1, h2, by rw [Below.heap_setCell W ⟨b', x, none⟩ u g (by simp; omega)]; exact h3, h4⟩
theorem bld_set {W : World} {B b : Nat} {p : Value} {bs : List Value} (h : Lib.BuilderAt 173 5 B b p bs W) {b' x : Nat} (hb : b' < B) (u : Value) : Lib.BuilderAt 173 5 B b p bs (W.setCell ⟨b', x, none⟩ u) := by
  obtain ⟨h1, v, h2, h3, h4⟩ := h
  exact ⟨h1, v, by rw [Below.heap_setCell W ⟨b', x, none⟩ u b (by simp; omega)]; exact h2, own_set h3 hb u, h4⟩
theorem bld_set' {W : World} {B b : Nat} {bs : List Value} (h : Lib.IsBuilder 173 5 B b bs W) {b' x : Nat} (hb : b' < B) (u : Value) : Lib.IsBuilder 173 5 B b bs (W.setCell ⟨b', x, none⟩ u) := by
  rcases h with h | h
  · exact .inl (bld_set h hb u)
  · exact .inr (bld_set h hb u)
theorem below_set {B : Nat} {w W : World} {p : Addr} {v : Value} (h : Below B (w.setCell p v) W) (u : Value) : Below B (w.setCell p u) (W.setCell p u) := by
  refine ⟨h.os, h.tape, h.output, ?_, fun j hj => ?_⟩
  · have := h.size; simpa using this
  · by_cases hp : j = p.block
    · subst hp
      have := h.block p.block hj
      simp only [World.setCell, Array.getElem?_modify, if_true] at this ⊢
      rw [this, Option.map_map]
      congr 1
      funext o
      cases o <;> simp
      split <;> simp
    · have := h.block j hj
      rw [Below.heap_setCell _ _ _ _ hp] at this ⊢
      rw [Below.heap_setCell _ _ _ _ hp]
      exact this
set_option maxHeartbeats 4000000 in
set_option maxRecDepth 1000000 in
theorem digits_walk (w : World) (b o bl ol cap : Nat) (rs : List Int) (i : Nat) (hl : w.cell? ⟨b, o, none⟩ = some (.slice (some ⟨bl, ol, none⟩) rs.length cap)) (hi : w.cell? ⟨b, o + 2, none⟩ = some (.int .i64 (i : Nat))) (hf : w.frozen? ⟨b, o + 2, none⟩ = false)
    (hr : ∀ (j : Nat) r, rs[j]? = some r → w.cell? ⟨bl, ol + j * 2, none⟩ = some (.int .i32 r)) (hne : bl ≠ b) (hbl : bl < w.heap.size) (hb : b < w.heap.size) (hil : i ≤ rs.length) (hn : rs.length < 1099511627776) :
    Calls Try.prog 106 #[.pointer (some ⟨b, o, none⟩)] w fun e w' => e = .returned (.tuple #[.string ⟨(digS (rs.drop i) []).1.toArray⟩, .bool (decide (0 < (digS (rs.drop i) []).2))]) ∧ Below w.heap.size (w.setCell ⟨b, o + 2, none⟩ (.int .i64 ((i + (digS (rs.drop i) []).2 : Nat)))) w' := by
  go_enter Try.func106, Try.ntmps106
  go_wp2
  go_loopw [] (fun wr => ∃ (k : Nat) (acc : List UInt8), Lib.IsBuilder 173 5 w.heap.size w.heap.size (Lib.byteCells acc) wr ∧ Below w.heap.size (w.setCell ⟨b, o + 2, none⟩ (.int .i64 (k : Nat))) wr ∧ i ≤ k ∧ k ≤ rs.length ∧ (digS (rs.drop k) acc).1 = (digS (rs.drop i) []).1 ∧ (digS (rs.drop k) acc).2 + k = (digS (rs.drop i) []).2 + i ∧ acc.length ≤ k) (fun wr => rs.length - (intOf ((wr.cell? ⟨b, o + 2, none⟩).getD undef)).toNat)
  case atStart =>
    refine ⟨i, [], Lib.fresh_isBuilder 173 5 w, ?_, Nat.le_refl _, hil, rfl, rfl, by simp⟩
    rw [setCell_self hi]
    exact (Below.refl _ w).alloc (Nat.le_refl _) _
  case round =>
    obtain ⟨k, acc, hB, hbw, hik, hkn, h1, h2, hal⟩ := hrel
    have hcl : wr.cell? ⟨b, o, none⟩ = some (.slice (some ⟨bl, ol, none⟩) rs.length cap) := by
      rw [hbw.cell (p := ⟨b, o, none⟩) hb, World.cell?_setCell_other _ _ _ _ (by simp)]; exact hl
    have hci : wr.cell? ⟨b, o + 2, none⟩ = some (.int .i64 (k : Nat)) := by
      rw [hbw.cell (p := ⟨b, o + 2, none⟩) hb, World.cell?_setCell_same _ _ _ hi]
    have hfi : wr.frozen? ⟨b, o + 2, none⟩ = false := by
      rw [hbw.frozen (p := ⟨b, o + 2, none⟩) hb]; simpa using hf
    have hsz : w.heap.size ≤ wr.heap.size := by have := hbw.size; simpa using this
    by_cases hk : k < rs.length
    · have hrk := hr k (rs[k]) (List.getElem?_eq_getElem hk)
      have hcr : wr.cell? ⟨bl, ol + k * 2, none⟩ = some (.int .i32 rs[k]) := by
        rw [hbw.cell (p := ⟨bl, ol + k * 2, none⟩) hbl, World.cell?_setCell_other _ _ _ _ (by simp [hne.symm, hne])]; exact hrk
      have hd : rs.drop k = rs[k] :: rs.drop (k + 1) := List.drop_eq_getElem_cons hk
      generalize rs[k] = r at *
      rw [hd] at h1 h2
      have im : (k : Int) < (rs.length : Int) := by omega
      have im0 : (0 : Int) ≤ (k : Int) := by omega
      by_cases h3 : r ≥ 48
      · by_cases h4 : r ≤ 57
        · have hwr : IntKind.u8.wrap r = r := by simp [IntKind.wrap, IntKind.bits, IntKind.signed]; omega
          go_wp2_with fail
          go_quiet (fail)
          by_cases h5 : r > 48
          · have hsd : (digS (r :: rs.drop (k + 1)) acc) = ((digS (rs.drop (k + 1)) (acc ++ [UInt8.ofNat r.toNat])).1, (digS (rs.drop (k + 1)) (acc ++ [UInt8.ofNat r.toNat])).2 + 1) := by
              rw [digS, if_pos ⟨h3, h4⟩, if_pos (.inl h5)]
            go_wp2_with fail
            go_quiet (fail)
            go_wp2_with fail
            generalize hwq : World.drewN _ _ = wq
            have qcl : wq.cell? ⟨b, o, none⟩ = some (.slice (some ⟨bl, ol, none⟩) rs.length cap) := by rw [← hwq]; exact hcl
            have qci : wq.cell? ⟨b, o + 2, none⟩ = some (.int .i64 (k : Nat)) := by rw [← hwq]; exact hci
            have qcr : wq.cell? ⟨bl, ol + k * 2, none⟩ = some (.int .i32 r) := by rw [← hwq]; exact hcr
            have qfi : wq.frozen? ⟨b, o + 2, none⟩ = false := by rw [← hwq]; exact hfi
            have qB : Lib.IsBuilder 173 5 w.heap.size w.heap.size (Lib.byteCells acc) wq := by rw [← hwq]; exact hB
            have qbw : Below w.heap.size (w.setCell ⟨b, o + 2, none⟩ (.int .i64 (k : Nat))) wq := by
              rw [← hwq]
              exact ⟨hbw.os, hbw.tape, hbw.output, hbw.size, hbw.block⟩
            have qsz : w.heap.size ≤ wq.heap.size := by rw [← hwq]; exact hsz
            go_region_with (go_at_call 123; refine (bldWriteByte w.heap.size w.heap.size (Lib.byteCells acc) _ _ (by first | exact qB | exact (show Lib.IsBuilder 173 5 w.heap.size w.heap.size (Lib.byteCells acc) wq.drew from qB)) (by rw [Lib.byteCells_length]; omega) (by exact qsz)).mono ?_; rintro e W1 ⟨rfl, hW1, hW2⟩)
            all_goals
              have wci : W1.cell? ⟨b, o + 2, none⟩ = some (.int .i64 (k : Nat)) := by
                rw [hW2.cell (p := ⟨b, o + 2, none⟩) hb]; exact qci
              have wfi : W1.frozen? ⟨b, o + 2, none⟩ = false := by
                rw [hW2.frozen (p := ⟨b, o + 2, none⟩) hb]; exact qfi
              go_wp2
              rw [hsd] at h1 h2
              go_roundw
              case rel =>
                refine ⟨k + 1, acc ++ [UInt8.ofNat r.toNat], ?_, ?_, by omega, by omega, h1, by simp only at h2; omega, by simp; omega⟩
                · rw [Lib.byteCells_append]
                  have : Lib.byteCells [UInt8.ofNat r.toNat] = [.int .u8 r] := by
                    have : (UInt8.ofNat r.toNat).toNat = r.toNat := by simp; omega
                    simp [Lib.byteCells, this]; omega
                  rw [this]
                  exact bld_set' (.inr hW1) hb _
                · exact below_set (qbw.drew.trans hW2) _
              case measure =>
                rw [World.cell?_setCell_same _ _ _ wci, hci]
                simp [intOf]; omega
          · have hd5 : decide (r > 48) = false := decide_eq_false h5
            have hlen : ∀ W, Lib.IsBuilder 173 5 w.heap.size w.heap.size (Lib.byteCells acc) W → Calls Try.prog 122 #[.pointer (some ⟨w.heap.size, 0, none⟩)] W fun e w' => e = .returned (.int .i64 acc.length) ∧ w' = W := fun W hW => by
              have := bldLen w.heap.size w.heap.size _ W hW
              simpa [Lib.byteCells_length] using this
            by_cases h6 : acc = []
            · have hsd : (digS (r :: rs.drop (k + 1)) acc) = ((digS (rs.drop (k + 1)) acc).1, (digS (rs.drop (k + 1)) acc).2 + 1) := by
                rw [digS, if_pos ⟨h3, h4⟩, if_neg (by rintro (h | h); exact h5 h; exact h h6)]
              have hl6 : acc.length = 0 := by rw [h6]; rfl
              have hl7 : decide ((acc.length : Int) > 0) = false := decide_eq_false (by omega)
              rw [hl6] at hlen
              go_wp2_with fail
              go_region_with (go_at_call 122; refine (hlen _ (by first | exact hB)).mono ?_; rintro e W1 ⟨rfl, rfl⟩)
              all_goals
                go_wp2_with fail
                rw [hsd] at h1 h2
                go_roundw
                case rel =>
                  exact ⟨k + 1, acc, bld_set' (W := wr.drewN _) hB hb _, below_set (below_dr hbw _) _, by omega, by omega, h1, by simp only at h2; omega, by omega⟩
                case measure =>
                  have qci : (wr.drewN (nq + 1)).cell? ⟨b, o + 2, none⟩ = some (.int .i64 (k : Nat)) := hci
                  rw [World.cell?_setCell_same _ _ _ qci, hci]
                  simp [intOf]; omega
            · have hsd : (digS (r :: rs.drop (k + 1)) acc) = ((digS (rs.drop (k + 1)) (acc ++ [UInt8.ofNat r.toNat])).1, (digS (rs.drop (k + 1)) (acc ++ [UInt8.ofNat r.toNat])).2 + 1) := by
                rw [digS, if_pos ⟨h3, h4⟩, if_pos (.inr h6)]
              have hl6 : 0 < acc.length := by cases acc with | nil => exact absurd rfl h6 | cons _ _ => simp
              have hl7 : (acc.length : Int) > 0 := by omega
              go_wp2_with fail
              go_region_with (go_at_call 122; refine (hlen _ (by first | exact hB)).mono ?_; rintro e W1 ⟨rfl, rfl⟩)
              all_goals
                go_wp2_with fail
                generalize hwq : World.drewN _ _ = wq
                have qcl : wq.cell? ⟨b, o, none⟩ = some (.slice (some ⟨bl, ol, none⟩) rs.length cap) := by rw [← hwq]; exact hcl
                have qci : wq.cell? ⟨b, o + 2, none⟩ = some (.int .i64 (k : Nat)) := by rw [← hwq]; exact hci
                have qcr : wq.cell? ⟨bl, ol + k * 2, none⟩ = some (.int .i32 r) := by rw [← hwq]; exact hcr
                have qfi : wq.frozen? ⟨b, o + 2, none⟩ = false := by rw [← hwq]; exact hfi
                have qB : Lib.IsBuilder 173 5 w.heap.size w.heap.size (Lib.byteCells acc) wq := by rw [← hwq]; exact hB
                have qbw : Below w.heap.size (w.setCell ⟨b, o + 2, none⟩ (.int .i64 (k : Nat))) wq := by
                  rw [← hwq]
                  exact ⟨hbw.os, hbw.tape, hbw.output, hbw.size, hbw.block⟩
                have qsz : w.heap.size ≤ wq.heap.size := by rw [← hwq]; exact hsz
                go_region_with (go_at_call 123; refine (bldWriteByte w.heap.size w.heap.size (Lib.byteCells acc) _ _ (by first | exact qB | exact (show Lib.IsBuilder 173 5 w.heap.size w.heap.size (Lib.byteCells acc) wq.drew from qB)) (by rw [Lib.byteCells_length]; omega) (by exact qsz)).mono ?_; rintro e W1 ⟨rfl, hW1, hW2⟩)
                all_goals
                  have wci : W1.cell? ⟨b, o + 2, none⟩ = some (.int .i64 (k : Nat)) := by
                    rw [hW2.cell (p := ⟨b, o + 2, none⟩) hb]; exact qci
                  have wfi : W1.frozen? ⟨b, o + 2, none⟩ = false := by
                    rw [hW2.frozen (p := ⟨b, o + 2, none⟩) hb]; exact qfi
                  go_wp2
                  rw [hsd] at h1 h2
                  go_roundw
                  case rel =>
                    refine ⟨k + 1, acc ++ [UInt8.ofNat r.toNat], ?_, ?_, by omega, by omega, h1, by simp only at h2; omega, by simp; omega⟩
                    · rw [Lib.byteCells_append]
                      have : Lib.byteCells [UInt8.ofNat r.toNat] = [.int .u8 r] := by
                        have : (UInt8.ofNat r.toNat).toNat = r.toNat := by simp; omega
                        simp [Lib.byteCells, this]; omega
                      rw [this]
                      exact bld_set' (.inr hW1) hb _
                    · exact below_set (qbw.drew.trans hW2) _
                  case measure =>
                    rw [World.cell?_setCell_same _ _ _ wci, hci]
                    simp [intOf]; omega
        · have h4' : decide (r ≤ 57) = false := decide_eq_false h4
          have hsd : digS (r :: rs.drop (k + 1)) acc = (acc, 0) := by rw [digS, if_neg (fun h => h4 h.2)]
          go_wp2_with fail
          go_quiet (fail)
          go_wp2_with fail
          generalize hwq : World.drewN _ _ = wq
          have qci : wq.cell? ⟨b, o + 2, none⟩ = some (.int .i64 (k : Nat)) := by rw [← hwq]; exact hci
          have qB : Lib.IsBuilder 173 5 w.heap.size w.heap.size (Lib.byteCells acc) wq := by rw [← hwq]; exact hB
          have qbw : Below w.heap.size (w.setCell ⟨b, o + 2, none⟩ (.int .i64 (k : Nat))) wq := by
            rw [← hwq]
            exact ⟨hbw.os, hbw.tape, hbw.output, hbw.size, hbw.block⟩
          have qsz : w.heap.size ≤ wq.heap.size := by rw [← hwq]; exact hsz
          rw [hsd] at h1 h2
          simp only at h1 h2
          go_region_with (go_at_call 124; refine (bldString w.heap.size w.heap.size acc _ (by first | exact qB | exact (show Lib.IsBuilder 173 5 w.heap.size w.heap.size (Lib.byteCells acc) wq.drew from qB)) (by exact qsz)).mono ?_; rintro e W1 ⟨rfl, hW1⟩; have wci : W1.cell? ⟨b, o + 2, none⟩ = some (.int .i64 (k : Nat)) := by rw [hW1.cell (p := ⟨b, o + 2, none⟩) hb]; exact qci)
          all_goals
            go_wp2_with fail
            go_ret2
            have e2 : i + (digS (rs.drop i) []).2 = k := by omega
            refine ⟨?_, ?_⟩
            · rw [← h1]
              have : decide (i < k) = decide (0 < (digS (rs.drop i) []).2) := by
                apply decide_eq_decide.2; omega
              rw [← this]
              rfl
            · rw [e2]
              first | exact qbw.drew.trans hW1 | exact qbw.trans hW1
      · have h3' : decide (r ≥ 48) = false := decide_eq_false h3
        have hsd : digS (r :: rs.drop (k + 1)) acc = (acc, 0) := by rw [digS, if_neg (fun h => h3 h.1)]
        go_wp2_with fail
        go_quiet (fail)
        go_wp2_with fail
        generalize hwq : World.drewN _ _ = wq
        have qci : wq.cell? ⟨b, o + 2, none⟩ = some (.int .i64 (k : Nat)) := by rw [← hwq]; exact hci
        have qB : Lib.IsBuilder 173 5 w.heap.size w.heap.size (Lib.byteCells acc) wq := by rw [← hwq]; exact hB
        have qbw : Below w.heap.size (w.setCell ⟨b, o + 2, none⟩ (.int .i64 (k : Nat))) wq := by
          rw [← hwq]
          exact ⟨hbw.os, hbw.tape, hbw.output, hbw.size, hbw.block⟩
        have qsz : w.heap.size ≤ wq.heap.size := by rw [← hwq]; exact hsz
        rw [hsd] at h1 h2
        simp only at h1 h2
        go_region_with (go_at_call 124; refine (bldString w.heap.size w.heap.size acc _ (by first | exact qB | exact (show Lib.IsBuilder 173 5 w.heap.size w.heap.size (Lib.byteCells acc) wq.drew from qB)) (by exact qsz)).mono ?_; rintro e W1 ⟨rfl, hW1⟩; have wci : W1.cell? ⟨b, o + 2, none⟩ = some (.int .i64 (k : Nat)) := by rw [hW1.cell (p := ⟨b, o + 2, none⟩) hb]; exact qci)
        all_goals
          go_wp2_with fail
          go_ret2
          have e2 : i + (digS (rs.drop i) []).2 = k := by omega
          refine ⟨?_, ?_⟩
          · rw [← h1]
            have : decide (i < k) = decide (0 < (digS (rs.drop i) []).2) := by
              apply decide_eq_decide.2; omega
            rw [← this]
            rfl
          · rw [e2]
            first | exact qbw.drew.trans hW1 | exact qbw.trans hW1
    · have hkk : k = rs.length := by omega
      have im : decide ((k : Int) < (rs.length : Int)) = false := decide_eq_false (by omega)
      have hsd : digS (rs.drop k) acc = (acc, 0) := by rw [hkk, List.drop_length]; rfl
      go_wp2_with fail
      go_quiet (fail)
      go_wp2_with fail
      generalize hwq : World.drewN _ _ = wq
      have qci : wq.cell? ⟨b, o + 2, none⟩ = some (.int .i64 (k : Nat)) := by rw [← hwq]; exact hci
      have qB : Lib.IsBuilder 173 5 w.heap.size w.heap.size (Lib.byteCells acc) wq := by rw [← hwq]; exact hB
      have qbw : Below w.heap.size (w.setCell ⟨b, o + 2, none⟩ (.int .i64 (k : Nat))) wq := by
        rw [← hwq]
        exact ⟨hbw.os, hbw.tape, hbw.output, hbw.size, hbw.block⟩
      have qsz : w.heap.size ≤ wq.heap.size := by rw [← hwq]; exact hsz
      rw [hsd] at h1 h2
      simp only at h1 h2
      go_region_with (go_at_call 124; refine (bldString w.heap.size w.heap.size acc _ (by first | exact qB | exact (show Lib.IsBuilder 173 5 w.heap.size w.heap.size (Lib.byteCells acc) wq.drew from qB)) (by exact qsz)).mono ?_; rintro e W1 ⟨rfl, hW1⟩; have wci : W1.cell? ⟨b, o + 2, none⟩ = some (.int .i64 (k : Nat)) := by rw [hW1.cell (p := ⟨b, o + 2, none⟩) hb]; exact qci)
      all_goals
        go_wp2_with fail
        go_ret2
        have e2 : i + (digS (rs.drop i) []).2 = k := by omega
        refine ⟨?_, ?_⟩
        · rw [← h1]
          have : decide (i < rs.length) = decide (0 < (digS (rs.drop i) []).2) := by
            apply decide_eq_decide.2; omega
          rw [← this]
          rfl
        · rw [e2]
          first | exact qbw.drew.trans hW1 | exact qbw.trans hW1
open Go.V Go Go.RowKit
def runesD : List D → Option (List Int)
  | [] => some []
  | .agg [.int .i32 r, .int .i64 _] :: l => match runesD l with
    | some rs => some (r :: rs)
    | none => none
  | _ => none
def digQ (st : St) (k ver off : Nat) (rs : List Int) (i : Int) : Option (D × St) :=
  match decide (rs ≠ [] ∧ 0 ≤ i ∧ i.toNat ≤ rs.length ∧ rs.length < 1099511627776) with
  | true => match st.wr k ver (off + 2) [.int .i64 ((i.toNat + (digS (rs.drop i.toNat) []).2 : Nat))] with
    | some st' => some (.tup [.str (digS (rs.drop i.toNat) []).1, .bool (decide (0 < (digS (rs.drop i.toNat) []).2))], st')
    | none => none
  | false => none
def digP : List D → St → Option (D × St)
  | [.ptr k ver off], st => match st.mem? k ver with
    | some (_, c) => match c[off]?, c[off + 2]? with
      | some (.sl es), some (.int .i64 i) => match runesD es with
        | some rs => digQ st k ver off rs i
        | none => none
      | _, _ => none
    | none => none
  | _, _ => none
theorem digP_some {ds : List D} {st : St} {r : D × St} (h : digP ds st = some r) : ∃ k ver off ar c es i rs, ds = [.ptr k ver off] ∧ st.mem? k ver = some (ar, c) ∧ c[off]? = some (.sl es) ∧ c[off + 2]? = some (.int .i64 i) ∧ runesD es = some rs ∧
    (rs ≠ [] ∧ 0 ≤ i ∧ i.toNat ≤ rs.length ∧ rs.length < 1099511627776) ∧ st.wr k ver (off + 2) [.int .i64 ((i.toNat + (digS (rs.drop i.toNat) []).2 : Nat))] = some r.2 ∧ r.1 = .tup [.str (digS (rs.drop i.toNat) []).1, .bool (decide (0 < (digS (rs.drop i.toNat) []).2))] := by
  unfold digP at h
  split at h
  · rename_i st0 k ver off
    split at h
    · rename_i ar c hm
      split at h
      · rename_i es i h1 h2
        split at h
        · rename_i rs h3
          unfold digQ at h
          split at h
          · rename_i hc
            split at h
            · rename_i st' hw
              cases h
              exact ⟨k, ver, off, ar, c, es, i, rs, rfl, hm, h1, h2, h3, of_decide_eq_true hc, hw, rfl⟩
            · cases h
          · cases h
        · cases h
      · cases h
    · cases h
  · cases h
theorem runesD_spec : ∀ {es : List D} {rs : List Int}, runesD es = some rs → rs.length = es.length ∧ ∀ (j : Nat) r, rs[j]? = some r → ∃ n, es[j]? = some (.agg [.int .i32 r, .int .i64 n])
  | [], rs, h => by simp only [runesD] at h; cases h; exact ⟨rfl, fun j r h => by simp at h⟩
  | e :: es, rs, h => by
    unfold runesD at h
    split at h
    · rename_i heq; cases heq
    · rename_i r n l heq
      cases heq
      split at h
      · rename_i rs' h'
        cases h
        obtain ⟨h1, h2⟩ := runesD_spec h'
        refine ⟨by simp [h1], fun j r' hj => ?_⟩
        cases j with
        | zero => simp at hj; subst hj; exact ⟨n, rfl⟩
        | succ j => simpa using h2 j r' (by simpa using hj)
      · cases h
    · cases h
theorem Nx.quiet {w w' : World} {st : St} {β : Nat → Option (Nat × Nat)} {Z : Nat → Prop} (h : Sim w st β Z) (hb : Below w.heap.size w w') : Nx w st β Z w' st β Z := by
  have hq : Quiet w w' := fun b hb' => hb.block b hb'
  have hk : Keeps w (st.x β Z) w' (st.x β Z) :=
    ⟨fun _ p hp => ⟨p, hp⟩, fun b hb => ⟨hb, hq b (h.zl b hb)⟩, fun _ c _ _ hc => ⟨c, hc, Nat.le_refl _⟩, fun k _ _ _ b base hb => ⟨hb, rowSize_eq (hq b (h.lt k b base hb))⟩⟩
  exact ⟨⟨h.dom, fun k b base hb' => Nat.lt_of_lt_of_le (h.lt k b base hb') hb.size, h.inj, h.zd, fun b hb' => Nat.lt_of_lt_of_le (h.zl b hb') hb.size, fun k b base bx hb' hbx => (h.box k b base bx hb' hbx).keep hk (hq b (h.lt k b base hb')), h.flr, h.ro⟩, hk,
    ⟨hb.os, hb.tape, hb.output, hb.size, fun b hb' _ => hq b hb'⟩, fun _ _ base hb => .inl ⟨base, hb⟩, fun _ hz => .inl hz, Nat.le_refl _, rfl, rfl, fun _ _ => ⟨rfl, rfl⟩, fun _ _ h => ⟨h, rfl⟩⟩
theorem setCell_put {w : World} {b o : Nat} {cs : Array Value} {el : TypeId} {fr : Nat × Nat} {v : Value} (h : w.heap[b]? = some (.cells cs el fr)) : w.setCell ⟨b, o, none⟩ v = wput w b (.cells (cs.setIfInBounds o v) el fr) := by
  have hb : b < w.heap.size := (Array.getElem?_eq_some_iff.1 h).1
  have key : (w.setCell ⟨b, o, none⟩ v).heap = w.heap.setIfInBounds b (.cells (cs.setIfInBounds o v) el fr) := by
    simp only [World.setCell]
    apply Array.ext_getElem?
    intro j
    rw [Array.getElem?_modify]
    by_cases hj : b = j
    · subst hj
      rw [if_pos rfl, h, Array.getElem?_setIfInBounds_self_of_lt hb]; rfl
    · rw [if_neg hj, Array.getElem?_setIfInBounds_ne hj]
  have : w.setCell ⟨b, o, none⟩ v = { w with heap := (w.setCell ⟨b, o, none⟩ v).heap } := rfl
  rw [this, key]; rfl
theorem digP_ok {pv : Pv} (hro : isRo pv 106 = false) : PrimOk Try.prog pv 106 digP := by
  refine ⟨fun ds st r hp => ?_, fun ds st d st' hp w β Z us hsim hle ha => ?_, fun ds st d st' hp hr => ?_, fun ds st d st' hp => ?_⟩
  · exact ⟨Try.f106, _, Try.func106, rfl, by decide⟩
  · obtain ⟨k, ver, off, ar, c, es, i, rs, rfl, hm, h1, h2, h3, ⟨hne, hi0, hil, hn⟩, hw, hd⟩ := digP_some hp
    obtain ⟨u, rfl⟩ : ∃ u, us = [u] := by
      match us, hle with
      | [u], _ => exact ⟨u, rfl⟩
    have hu := ha 0 _ u rfl rfl
    obtain ⟨a, rfl, hk, hat⟩ := vr_pointer hu
    obtain ⟨b, base, hb, rfl⟩ := hat (mem_spec hm).2
    obtain ⟨cs, el, fr, r1, r2, r3, r4⟩ := hsim.row hm hb
    obtain ⟨u0, c0, c1, c2⟩ := r4 off _ h1
    obtain ⟨u2, d0, d1, d2⟩ := r4 (off + 2) _ h2
    have hiv := vr_int d2
    subst hiv
    obtain ⟨s1, s2⟩ := runesD_spec h3
    have hes : es ≠ [] := fun e => by subst e; simp at s1; exact hne s1
    obtain ⟨la, cap, rfl, hcap, hor⟩ := vr_sl c2
    obtain ⟨bl, ol, s, rfl, hz, hcl, hca, f, hf1, hf2⟩ := hor.resolve_left hes
    have hbl : bl < w.heap.size := hsim.zl bl hz
    have hbb : b < w.heap.size := hsim.lt k b base hb
    have hnb : bl ≠ b := fun e => hsim.zd k b base hb (e ▸ hz)
    have hs2 : s = 2 := by
      cases es with
      | nil => exact absurd rfl hes
      | cons e es' =>
        cases rs with
        | nil => simp at s1
        | cons r rs' =>
          obtain ⟨n, hn⟩ := s2 0 r rfl
          have := (hcl 0 _ hn).2
          simpa [D.cells] using this.symm
    subst hs2
    have hcell : ∀ (q : Nat) u, cs[q]? = some u → w.cell? ⟨b, q, none⟩ = some u := fun q u hq => by simp [World.cell?, r1, hq]
    have hwalk := digits_walk w b (base + off) bl ol cap rs i.toNat (by rw [s1]; exact hcell _ _ c0) (by
        have := hcell _ _ d0
        rw [show base + off + 2 = base + (off + 2) by omega, this]
        congr 2; omega) (by
        simp only [World.frozen?, r1]
        have hlt : base + off + 2 < cs.size := by
          have := (Array.getElem?_eq_some_iff.1 d0).1; omega
        have := r3.2 (base + off + 2) hlt
        simp only [Bool.and_eq_false_iff, decide_eq_false_iff_not]
        omega) (fun j r hj => by
        obtain ⟨n, hn⟩ := s2 j r hj
        obtain ⟨g1, _⟩ := hf1 j _ 0 (.int .i32 r) hn rfl
        have g3 := hf2 j _ 0 (.int .i32 r) hn rfl
        rw [Nat.add_zero] at g1
        rw [g1]
        generalize f j 0 = z at g3
        cases g3; rfl) hnb hbl hbb hil hn
    rw [show base + off + 2 = base + (off + 2) by omega, setCell_put r1] at hwalk
    generalize hcnt : (digS (rs.drop i.toNat) []).2 = cnt at *
    generalize hstr : (digS (rs.drop i.toNat) []).1 = str at *
    simp only at hw hd
    have hlt : base + (off + 2) < cs.size := (Array.getElem?_eq_some_iff.1 d0).1
    have hwr : Nx w st β Z (wput w b (.cells (cs.setIfInBounds (base + (off + 2)) (.int .i64 ((i.toNat + cnt : Nat)))) el fr)) st' β Z := by
      have hw2 := hw
      unfold St.wr at hw
      rw [hm] at hw
      simp only at hw
      split at hw
      · rename_i hc
        cases hw
        have hcl2 : off + 2 < c.length := lt_of_some h2
        have hx := Nx.write (a' := ar) (ver' := ver) (c' := setMany c (off + 2) [.int .i64 ((i.toNat + cnt : Nat))]) (base' := base) hsim hm hb (canW_ro hc.2) (Nat.le_refl _) (fun _ => rfl) r1 (cs' := cs.setIfInBounds (base + (off + 2)) (.int .i64 ((i.toNat + cnt : Nat)))) (by simp) (by rw [setMany_length]; exact r2) (fun j d hd => by
          simp only [setMany] at hd
          by_cases hj : off + 2 = j
          · subst hj
            rw [List.getElem?_set_self hcl2] at hd
            cases hd
            refine ⟨.int .i64 ((i.toNat + cnt : Nat)), ?_, rfl, .im _ _ (.int _ _)⟩
            rw [Array.getElem?_setIfInBounds_self_of_lt hlt]
          · rw [List.getElem?_set_ne hj] at hd
            obtain ⟨u, hu1, hu2, hu3⟩ := r4 j d hd
            exact ⟨u, by rw [Array.getElem?_setIfInBounds_ne (by omega)]; exact hu1, hu2, hu3⟩)
        have e1 : (fun i => if i = k then some (b, base) else β i) = β := by
          funext i; split
          · rename_i e; subst e; exact hb.symm
          · rfl
        rw [e1] at hx
        exact hx
      · cases hw
    refine hwalk.mono ?_
    rintro e w' ⟨rfl, hbel⟩
    have hbel2 : Below (wput w b (.cells (cs.setIfInBounds (base + (off + 2)) (.int .i64 ((i.toNat + cnt : Nat)))) el fr)).heap.size (wput w b (.cells (cs.setIfInBounds (base + (off + 2)) (.int .i64 ((i.toNat + cnt : Nat)))) el fr)) w' := by
      have : (wput w b (.cells (cs.setIfInBounds (base + (off + 2)) (.int .i64 ((i.toNat + cnt : Nat)))) el fr)).heap.size = w.heap.size := by simp [wput]
      rw [this]; exact hbel
    refine ⟨_, β, Z, rfl, hwr.trans (Nx.quiet hwr.sim hbel2), ?_, fun h => by rw [hro] at h; cases h⟩
    rw [hd]
    refine .im _ _ (.tup _ [.string ⟨str.toArray⟩, .bool (decide (0 < cnt))] rfl fun q c v hc hv => ?_)
    match q, hc, hv with
    | 0, hc, hv => cases hc; cases hv; exact .str _
    | 1, hc, hv => cases hc; cases hv; exact .bool _
  · rw [hro] at hr; cases hr
  · obtain ⟨k, ver, off, ar, c, es, i, rs, rfl, hm, h1, h2, h3, _, hw, hd⟩ := digP_some hp
    exact wr_goes hw
end Go.Proofs.Ytbdilgkfnacahaa
namespace Go.Proofs.Ytbdilgkfnacahaa.progRuns
open Go.V Go
def isD (d : D) : Option (D × St) → Bool
  | some (e, ⟨[], _, _⟩) => beqD e d
  | _ => false
theorem isD_some {d : D} {r : Option (D × St)} (h : isD d r = true) : ∃ st, r = some (d, st) ∧ st.bs = [] := by
  match r, h with
  | some (e, ⟨[], a, b⟩), h => exact ⟨⟨[], a, b⟩, by rw [beqD_eq e d h], rfl⟩
theorem PrimOk.of {pv pv' : Pv} {P : Program} {f : Nat} {p : List D → St → Option (D × St)} (h : PrimOk P pv' f p) (hro : isRo pv' f = isRo pv f) : PrimOk P pv f p :=
  ⟨h.fn, fun ds st d st' hp w β Z us h1 h2 h3 => by rw [← hro]; exact h.calls ds st d st' hp w β Z us h1 h2 h3, fun ds st d st' hp hr => h.ro ds st d st' hp (by rw [hro]; exact hr), h.len⟩
noncomputable def pvM : Pv := pv0.over [(106, digP)]
theorem viewM : pvM.Ok Try.prog ∧ pvM.codes ∧ CfOk Try.prog pvM (primF pvM) := by
  refine view_over view0 rfl fun q hq => ?_
  simp only [List.mem_cons, List.not_mem_nil, or_false] at hq
  subst hq
  · exact digP_ok (by kernel_rfl)
theorem reckoned : isD (.bool true) (callD pvM 400 18 [] ⟨[], 0, 0⟩) = true := by kernel_rfl
end Go.Proofs.Ytbdilgkfnacahaa.progRuns
namespace Go.Proofs.Ytbdilgkfnacahaa
open Go.V
theorem progRunsIs : ∃ st, callD progRuns.pvM 400 18 [] ⟨[], 0, 0⟩ = some (.bool true, st) ∧ st.bs = [] := progRuns.isD_some progRuns.reckoned
end Go.Proofs.Ytbdilgkfnacahaa
namespace Go.Proofs.Ytbdilgkfnacahaa
open Go.V
theorem progRuns_ok : PrimOk Try.prog pv0 18 (memo0 (.bool true)) := by
  obtain ⟨st, h1, h2⟩ := progRunsIs
  have h := memo0_ok progRuns.viewM h1 h2
  exact ⟨h.fn, h.calls, h.ro, h.len⟩
def findsTrue : Option (D × St) → Bool
  | some (.bool true, ⟨[], _, _⟩) => true
  | _ => false
theorem findsTrue_some {r : Option (D × St)} (h : findsTrue r = true) : ∃ st, r = some (.bool true, st) ∧ st.bs = [] := by
  match r, h with
  | some (.bool true, ⟨[], a, b⟩), _ => exact ⟨⟨[], a, b⟩, rfl, rfl⟩
theorem finds0 : findsTrue (callD pv0 400 56 [.str [97, 43], .str [98, 97, 97, 98], .int .i64 (1), .int .i64 (3)] ⟨[], 0, 0⟩) = true := by kernel_rfl
theorem finds1 : findsTrue (callD pv0 400 56 [.str [97, 43, 63], .str [98, 97, 97, 98], .int .i64 (1), .int .i64 (2)] ⟨[], 0, 0⟩) = true := by kernel_rfl
theorem finds2 : findsTrue (callD pv0 400 56 [.str [97, 124, 97, 98], .str [97, 98], .int .i64 (0), .int .i64 (1)] ⟨[], 0, 0⟩) = true := by kernel_rfl
theorem finds3 : findsTrue (callD pv0 400 56 [.str [120], .str [97, 98], .int .i64 (-1), .int .i64 (0)] ⟨[], 0, 0⟩) = true := by kernel_rfl
theorem finds4 : findsTrue (callD pv0 400 56 [.str [94, 98], .str [97, 98], .int .i64 (-1), .int .i64 (0)] ⟨[], 0, 0⟩) = true := by kernel_rfl
theorem finds5 : findsTrue (callD pv0 400 56 [.str [98, 36], .str [98, 97, 98], .int .i64 (2), .int .i64 (3)] ⟨[], 0, 0⟩) = true := by kernel_rfl
theorem finds6 : findsTrue (callD pv0 400 56 [.str [40, 63, 58, 41], .str [], .int .i64 (0), .int .i64 (0)] ⟨[], 0, 0⟩) = true := by kernel_rfl
theorem finds7 : findsTrue (callD pv0 400 56 [.str [195, 169], .str [97, 195, 169], .int .i64 (1), .int .i64 (3)] ⟨[], 0, 0⟩) = true := by kernel_rfl
theorem finds8 : findsTrue (callD pv0 400 56 [.str [46], .str [255], .int .i64 (0), .int .i64 (1)] ⟨[], 0, 0⟩) = true := by kernel_rfl
def findsMemo : List (List D × D) := [([.str [97, 43], .str [98, 97, 97, 98], .int .i64 (1), .int .i64 (3)], .bool true),
  ([.str [97, 43, 63], .str [98, 97, 97, 98], .int .i64 (1), .int .i64 (2)], .bool true),
  ([.str [97, 124, 97, 98], .str [97, 98], .int .i64 (0), .int .i64 (1)], .bool true),
  ([.str [120], .str [97, 98], .int .i64 (-1), .int .i64 (0)], .bool true),
  ([.str [94, 98], .str [97, 98], .int .i64 (-1), .int .i64 (0)], .bool true),
  ([.str [98, 36], .str [98, 97, 98], .int .i64 (2), .int .i64 (3)], .bool true),
  ([.str [40, 63, 58, 41], .str [], .int .i64 (0), .int .i64 (0)], .bool true),
  ([.str [195, 169], .str [97, 195, 169], .int .i64 (1), .int .i64 (3)], .bool true),
  ([.str [46], .str [255], .int .i64 (0), .int .i64 (1)], .bool true)]
theorem findsMemo_ok {P : Program} (h : pv0.Ok P ∧ pv0.codes ∧ CfOk P pv0 (primF pv0)) : PrimOk P pv0 56 (memoL findsMemo) := by
  refine memoL_ok h fun q hq => ?_
  simp only [findsMemo, List.mem_cons, List.not_mem_nil, or_false] at hq
  rcases hq with rfl | rfl | rfl | rfl | rfl | rfl | rfl | rfl | rfl
  · obtain ⟨st, h1, h2⟩ := findsTrue_some finds0
    exact ⟨by decide, _, st, h1, h2⟩
  · obtain ⟨st, h1, h2⟩ := findsTrue_some finds1
    exact ⟨by decide, _, st, h1, h2⟩
  · obtain ⟨st, h1, h2⟩ := findsTrue_some finds2
    exact ⟨by decide, _, st, h1, h2⟩
  · obtain ⟨st, h1, h2⟩ := findsTrue_some finds3
    exact ⟨by decide, _, st, h1, h2⟩
  · obtain ⟨st, h1, h2⟩ := findsTrue_some finds4
    exact ⟨by decide, _, st, h1, h2⟩
  · obtain ⟨st, h1, h2⟩ := findsTrue_some finds5
    exact ⟨by decide, _, st, h1, h2⟩
  · obtain ⟨st, h1, h2⟩ := findsTrue_some finds6
    exact ⟨by decide, _, st, h1, h2⟩
  · obtain ⟨st, h1, h2⟩ := findsTrue_some finds7
    exact ⟨by decide, _, st, h1, h2⟩
  · obtain ⟨st, h1, h2⟩ := findsTrue_some finds8
    exact ⟨by decide, _, st, h1, h2⟩
noncomputable def pvB : Pv := pv0.over [(56, memoL findsMemo)]
theorem viewB : pvB.Ok Try.prog ∧ pvB.codes ∧ CfOk Try.prog pvB (primF pvB) := by
  refine view_over view0 rfl fun q hq => ?_
  simp only [List.mem_cons, List.not_mem_nil, or_false] at hq
  subst hq
  exact findsMemo_ok view0
def backRunsTrue : Option (D × St) → Bool
  | some (.bool true, ⟨[], _, _⟩) => true
  | _ => false
theorem backRunsReckoned : backRunsTrue (callD pvB 400 34 [] ⟨[], 0, 0⟩) = true := by kernel_rfl
theorem backRunsTrue_some {r : Option (D × St)} (h : backRunsTrue r = true) : ∃ st, r = some (.bool true, st) ∧ st.bs = [] := by
  match r, h with
  | some (.bool true, ⟨[], a, b⟩), _ => exact ⟨⟨[], a, b⟩, rfl, rfl⟩
theorem backRunsIs : ∃ st, callD pvB 400 34 [] ⟨[], 0, 0⟩ = some (.bool true, st) ∧ st.bs = [] := backRunsTrue_some backRunsReckoned
theorem backRuns_ok : PrimOk Try.prog pv0 34 (memo0 (.bool true)) := by
  obtain ⟨st, h1, h2⟩ := backRunsIs
  have h := memo0_ok viewB h1 h2
  exact ⟨h.fn, h.calls, h.ro, h.len⟩
def isNone10 : Option (D × St) → Bool
  | some (d, ⟨[], _, _⟩) => beqD (.agg [.int .i64 (-1), .int .i64 (-1), .int .i64 (-1), .int .i64 (-1), .int .i64 (-1), .int .i64 (-1), .int .i64 (-1), .int .i64 (-1), .int .i64 (-1), .int .i64 (-1)]) d
  | _ => false
theorem isNone10_some {r : Option (D × St)} (h : isNone10 r = true) : ∃ st, r = some (.agg [.int .i64 (-1), .int .i64 (-1), .int .i64 (-1), .int .i64 (-1), .int .i64 (-1), .int .i64 (-1), .int .i64 (-1), .int .i64 (-1), .int .i64 (-1), .int .i64 (-1)], st) ∧ st.bs = [] := by
  match r, h with
  | some (d, ⟨[], a, b⟩), h => exact ⟨⟨[], a, b⟩, by rw [beqD_eq _ _ h], rfl⟩
theorem none73R : isNone10 (callD pv0 100 73 [] ⟨[], 0, 0⟩) = true := by kernel_rfl
theorem none73_ok : PrimOk Try.prog pv0 73 (memo0 (.agg [.int .i64 (-1), .int .i64 (-1), .int .i64 (-1), .int .i64 (-1), .int .i64 (-1), .int .i64 (-1), .int .i64 (-1), .int .i64 (-1), .int .i64 (-1), .int .i64 (-1)])) := by
  obtain ⟨st, h1, h2⟩ := isNone10_some none73R
  exact memo0_ok view0 h1 h2
theorem none59R : isNone10 (callD pv0 100 59 [] ⟨[], 0, 0⟩) = true := by kernel_rfl
theorem none59_ok : PrimOk Try.prog pv0 59 (memo0 (.agg [.int .i64 (-1), .int .i64 (-1), .int .i64 (-1), .int .i64 (-1), .int .i64 (-1), .int .i64 (-1), .int .i64 (-1), .int .i64 (-1), .int .i64 (-1), .int .i64 (-1)])) := by
  obtain ⟨st, h1, h2⟩ := isNone10_some none59R
  exact memo0_ok view0 h1 h2
end Go.Proofs.Ytbdilgkfnacahaa
namespace Go.Proofs
open Go.Shelf
def Ytbdilgkfnacahaa.sortR_ren : Go.Shelf.Ren := ⟨fun | 6 => 92 | 15 => 99 | 14 => 98 | 28 => 117 | 29 => 118 | 20 => 109 | 21 => 110 | 22 => 111 | 23 => 112 | 24 => 113 | 25 => 114 | 26 => 115 | 27 => 116 | 46 => 125 | 47 => 126 | 48 => 127 | 49 => 128 | 50 => 129 | 57 => 132 | n => n, fun | 22 => 36 | 24 => 40 | 25 => 146 | 3 => 3 | 39 => 139 | 0 => 0 | 53 => 168 | 55 => 170 | 4 => 4 | 46 => 162 | 45 => 161 | 50 => 120 | 5 => 5 | 9 => 9 | 66 => 179 | 70 => 183 | 76 => 186 | 77 => 47 | n => n, fun | n => n⟩
theorem Ytbdilgkfnacahaa.sortR : Go.Proofs.SlLaysF0.n6 Try.prog Ytbdilgkfnacahaa.sortR_ren := {
  mixed := by kernel_rfl
  f6 := ⟨Try.f92.name, by decide, Try.func92.trans (congrArg some (by kernel_rfl))⟩
  f14 := ⟨Try.f98.name, by decide, Try.func98.trans (congrArg some (by kernel_rfl))⟩
  f15 := Try.func99.trans (congrArg some (by kernel_rfl))
  f20 := ⟨Try.f109.name, by decide, Try.func109.trans (congrArg some (by kernel_rfl))⟩
  f21 := ⟨Try.f110.name, by decide, Try.func110.trans (congrArg some (by kernel_rfl))⟩
  f22 := ⟨Try.f111.name, by decide, Try.func111.trans (congrArg some (by kernel_rfl))⟩
  f23 := ⟨Try.f112.name, by decide, Try.func112.trans (congrArg some (by kernel_rfl))⟩
  f24 := ⟨Try.f113.name, by decide, Try.func113.trans (congrArg some (by kernel_rfl))⟩
  f25 := ⟨Try.f114.name, by decide, Try.func114.trans (congrArg some (by kernel_rfl))⟩
  f26 := ⟨Try.f115.name, by decide, Try.func115.trans (congrArg some (by kernel_rfl))⟩
  f27 := ⟨Try.f116.name, by decide, Try.func116.trans (congrArg some (by kernel_rfl))⟩
  f28 := Try.func117.trans (congrArg some (by kernel_rfl))
  f29 := Try.func118.trans (congrArg some (by kernel_rfl))
  f46 := ⟨Try.f125.name, by decide, Try.func125.trans (congrArg some (by kernel_rfl))⟩
  f47 := Try.func126.trans (congrArg some (by kernel_rfl))
  f48 := Try.func127.trans (congrArg some (by kernel_rfl))
  f49 := ⟨Try.f128.name, by decide, Try.func128.trans (congrArg some (by kernel_rfl))⟩
  f50 := ⟨Try.f129.name, by decide, Try.func129.trans (congrArg some (by kernel_rfl))⟩
  f57 := ⟨Try.f132.name, by decide, Try.func132.trans (congrArg some (by kernel_rfl))⟩
  t0 := Try.underlying0
  a0 := Try.isAgg0
  z0 := Try.sizeOf0
  v0 := Try.zeroValue0
  t3 := Try.underlying3
  a3 := Try.isAgg3
  z3 := Try.sizeOf3
  v3 := Try.zeroValue3
  t4 := Try.underlying4
  a4 := Try.isAgg4
  z4 := Try.sizeOf4
  v4 := Try.zeroValue4
  t5 := Try.underlying5
  a5 := Try.isAgg5
  z5 := Try.sizeOf5
  v5 := Try.zeroValue5
  t9 := Try.underlying9
  a9 := Try.isAgg9
  z9 := Try.sizeOf9
  v9 := Try.zeroValue9
  t22 := Try.underlying36
  a22 := Try.isAgg36
  z22 := Try.sizeOf36
  v22 := Try.zeroValue36
  t25 := Try.underlying146
  a25 := Try.isAgg146
  z25 := Try.sizeOf146
  v25 := Try.zeroValue146
  t39 := Try.underlying139
  a39 := Try.isAgg139
  z39 := Try.sizeOf139
  v39 := Try.zeroValue139
  t45 := Try.underlying161
  a45 := Try.isAgg161
  z45 := Try.sizeOf161
  v45 := Try.zeroValue161
  t46 := Try.underlying162
  a46 := Try.isAgg162
  z46 := Try.sizeOf162
  v46 := Try.zeroValue162
  t50 := Try.underlying120
  a50 := Try.isAgg120
  z50 := Try.sizeOf120
  v50 := Try.zeroValue120
  t53 := Try.underlying168
  a53 := Try.isAgg168
  z53 := Try.sizeOf168
  v53 := Try.zeroValue168
  t55 := Try.underlying170
  a55 := Try.isAgg170
  z55 := Try.sizeOf170
  v55 := Try.zeroValue170
  t66 := Try.underlying179
  a66 := Try.isAgg179
  z66 := Try.sizeOf179
  v66 := Try.zeroValue179
  t70 := Try.underlying183
  a70 := Try.isAgg183
  z70 := Try.sizeOf183
  v70 := Try.zeroValue183
  t76 := Try.underlying186
  a76 := Try.isAgg186
  z76 := Try.sizeOf186
  v76 := Try.zeroValue186
  t77 := Try.underlying47
  a77 := Try.isAgg47
  z77 := Try.sizeOf47
  v77 := Try.zeroValue47 }
end Go.Proofs
namespace Go.Proofs.Ytbdilgkfnacahaa
open Go.Shelf Go.RowKit Go.Lib Go.Sort Go Go.Proofs
structure Rs where
  lo : Int
  hi : Int
  h0 : 0 ≤ lo
  h1 : lo ≤ 1114111
instance : Inhabited Rs := ⟨⟨0, 0, by omega, by omega⟩⟩
def encR (x : Rs) : List Value := [.int .i32 x.lo, .int .i32 x.hi]
def cfR (x y : Rs) : Int := x.lo - y.lo
theorem swoR : SWO (ltOf cfR) where
  irrefl x := by simp [ltOf, cfR]
  trans x y z h1 h2 := by
    have h1 : x.lo - y.lo < 0 := of_decide_eq_true h1
    have h2 : y.lo - z.lo < 0 := of_decide_eq_true h2
    have : x.lo - z.lo < 0 := by omega
    exact decide_eq_true this
  ntrans x y z h1 h2 := by
    have h1 : ¬ x.lo - y.lo < 0 := of_decide_eq_false h1
    have h2 : ¬ y.lo - z.lo < 0 := of_decide_eq_false h2
    have : ¬ x.lo - z.lo < 0 := by omega
    exact decide_eq_false this
set_option maxHeartbeats 1000000 in
theorem closureR (x y : Rs) (W : World) : Calls Try.prog 93 #[.agg #[.int .i32 x.lo, .int .i32 x.hi], .agg #[.int .i32 y.lo, .int .i32 y.hi]] W fun e w' => e = .returned (.int .i64 (cfR x y)) ∧ ∃ q os', w' = grow (W.drewN q) os' := by
  have hx0 := x.h0
  have hx1 := x.h1
  have hy0 := y.h0
  have hy1 := y.h1
  have hc : cfR x y = x.lo - y.lo := rfl
  generalize cfR x y = r at hc ⊢
  generalize x.lo = a at *
  generalize y.lo = b at *
  go_enter Try.func93, Try.ntmps93
  go_wp2
  go_ret
  exact ⟨by rw [hc]; rfl, 0, _, by rw [alloc_eq_grow, alloc_eq_grow, grow_grow]; rfl⟩
theorem cmpLaysR (blk off size : Nat) (w : World) : CmpLays Try.prog 93 #[] encR 2 cfR blk off size w :=
  fun _ _ _ _ x y => closureR x y _
noncomputable def srt (l : List Rs) : List Rs := (pdq (ltOf cfR) l.toArray 0 l.toArray.size (Lib.bitLen l.toArray.size) true true).toList
theorem srt_facts (l : List Rs) : (srt l).Perm l ∧ (srt l).Pairwise (fun x y => x.lo ≤ y.lo) := by
  obtain ⟨⟨h1, _, h2⟩, h3⟩ := pdq_sorts (ltOf cfR) swoR l.toArray 0 l.toArray.size (Lib.bitLen l.toArray.size) true true (Nat.zero_le _) (Nat.le_refl _) (Or.inl rfl)
  have hz : (srt l).length = l.length := by simpa [srt] using h1
  constructor
  · have h4 : ((pdq (ltOf cfR) l.toArray 0 l.toArray.size (Lib.bitLen l.toArray.size) true true).extract 0 l.toArray.size) = pdq (ltOf cfR) l.toArray 0 l.toArray.size (Lib.bitLen l.toArray.size) true true := by
      generalize pdq (ltOf cfR) l.toArray 0 l.toArray.size (Lib.bitLen l.toArray.size) true true = q at h1
      rw [← h1]
      exact Array.extract_size
    rw [h4] at h2
    simpa [srt] using h2
  · rw [List.pairwise_iff_getElem]
    intro i j hi hj hij
    have := h3 i j (Nat.zero_le _) hij (by rw [hz] at hj; simpa using hj)
    have hh : ¬ (pdq (ltOf cfR) l.toArray 0 l.toArray.size (Lib.bitLen l.toArray.size) true true)[j]!.lo - (pdq (ltOf cfR) l.toArray 0 l.toArray.size (Lib.bitLen l.toArray.size) true true)[i]!.lo < 0 := of_decide_eq_false this
    have e : ∀ (k : Nat) (hk : k < (srt l).length), (srt l)[k] = (pdq (ltOf cfR) l.toArray 0 l.toArray.size (Lib.bitLen l.toArray.size) true true)[k]! := by
      intro k hk
      rw [getElem!_pos _ k (by simpa [srt] using hk)]
      simp [srt]
    rw [e i hi, e j hj]
    omega
theorem flatR (l : List Rs) (j : Nat) (hj : j < l.length * 2) : (flatK encR 2 l.toArray)[j]! = (encR (l[j / 2]'(by omega)))[j % 2]'(by simp [encR]; omega) := by
  rw [get_flatK _ _ _ _ (by simpa using hj)]
  rw [getElem!_pos l.toArray (j / 2) (by simp; omega)]
  rw [getElem!_pos _ (j % 2) (by simp [encR]; omega)]
  simp
set_option maxHeartbeats 1000000 in
theorem sort_calls (b o cap : Nat) (l : List Rs) (w : World) {cs : Array Value} {el : TypeId} {fr : Nat × Nat} (hw : w.heap[b]? = some (.cells cs el fr)) (hfr : ∀ j, j < cs.size → ¬ (fr.1 ≤ j ∧ j < fr.2))
    (hc : ∀ (i : Nat) x, l[i]? = some x → cs[o + 2 * i]? = some (.int .i32 x.lo) ∧ cs[o + (2 * i + 1)]? = some (.int .i32 x.hi)) (hn : l.length < 4611686018427387904) :
    Calls Try.prog 92 #[.slice (some ⟨b, o, none⟩) l.length cap, .func (.func 93) #[] #[]] w fun e w' => e = .returned (.tuple #[]) ∧ ∃ cs' : Array Value, cs'.size = cs.size ∧ (∀ j, j < o ∨ o + 2 * l.length ≤ j → cs'[j]? = cs[j]?) ∧
      (∀ (i : Nat) x, (srt l)[i]? = some x → cs'[o + 2 * i]? = some (.int .i32 x.lo) ∧ cs'[o + (2 * i + 1)]? = some (.int .i32 x.hi)) ∧
      (Go.V.wput w b (.cells cs' el fr)).os = w'.os ∧ (Go.V.wput w b (.cells cs' el fr)).tape = w'.tape ∧ (Go.V.wput w b (.cells cs' el fr)).output = w'.output ∧ w.heap.size ≤ w'.heap.size ∧ ∀ k, k < w.heap.size → w'.heap[k]? = (Go.V.wput w b (.cells cs' el fr)).heap[k]? := by
  have hb : b < w.heap.size := (Array.getElem?_eq_some_iff.1 hw).1
  have eg : ∀ args w, (callFunc 93 args).run Try.prog w = .ok (.enter 93 args) w := enters_of Try.func93 (by kernel_rfl) rfl
  have hcell : ∀ j, j < l.length * 2 → cs[o + j]? = some ((flatK encR 2 l.toArray)[j]!) := by
    intro j hj
    rw [flatR l j hj]
    obtain ⟨h1, h2⟩ := hc (j / 2) _ (List.getElem?_eq_getElem (by omega))
    rcases Nat.mod_two_eq_zero_or_one j with h | h
    · have : j = 2 * (j / 2) := by omega
      simp only [h]
      rw [show o + j = o + 2 * (j / 2) by omega, h1]; rfl
    · simp only [h]
      rw [show o + j = o + (2 * (j / 2) + 1) by omega, h2]; rfl
  have hH : HoldsK encR 2 w b o l.toArray := by
    intro j hj
    have hj : j < l.length * 2 := by simpa using hj
    have h1 := hcell j hj
    refine ⟨by simp [World.cell?, hw, h1], ?_⟩
    simp only [World.frozen?, hw]
    have := hfr (o + j) (Array.getElem?_eq_some_iff.1 h1).1
    simpa using this
  have h := AnyQ.slices_SortFunc_eq sortR 2 Try.isAgg40 Try.sizeOf40 encR (fun _ => rfl) (fun x v hv => by simp [encR] at hv; rcases hv with rfl | rfl <;> rfl) cfR swoR 93 #[] b o cap l.toArray w eg (cmpLaysR b o _ w) hH hb (by simpa using hn)
  rw [show l.toArray.size = l.length from by simp] at h
  refine h.mono ?_
  rintro e w' ⟨rfl, n, os, rfl⟩
  have e1 : pdq (ltOf cfR) l.toArray 0 l.length (Lib.bitLen l.length) true true = (srt l).toArray := by simp [srt]
  rw [e1]
  have hz : (srt l).length = l.length := (srt_facts l).1.length_eq
  have hget : ∀ j, (putCells id o (flatK encR 2 (srt l).toArray) cs)[j]? = if o ≤ j ∧ j < o + l.length * 2 then (cs[j]?).map (fun _ => (flatK encR 2 (srt l).toArray)[j - o]!) else cs[j]? := by
    intro j
    unfold putCells
    rw [Array.getElem?_mapIdx]
    simp only [size_flatK, List.size_toArray, hz, id]
    split
    · rfl
    · simp
  have hput : ∀ j, j < l.length * 2 → (putCells id o (flatK encR 2 (srt l).toArray) cs)[o + j]? = some ((flatK encR 2 (srt l).toArray)[j]!) := by
    intro j hj
    rw [hget, if_pos ⟨by omega, by omega⟩, hcell j hj]
    simp
  refine ⟨rfl, putCells id o (flatK encR 2 (srt l).toArray) cs, by simp [putCells], fun j hj => ?_, fun i x hx => ?_, ?_⟩
  · rw [hget, if_neg (by omega)]
  · have hi : i < (srt l).length := (List.getElem?_eq_some_iff.1 hx).1
    have hxe : (srt l)[i] = x := (List.getElem?_eq_some_iff.1 hx).2
    constructor
    · rw [hput (2 * i) (by omega), flatR (srt l) (2 * i) (by omega)]
      have e1 : 2 * i / 2 = i := by omega
      have e2 : 2 * i % 2 = 0 := by omega
      simp only [e1, e2, hxe]; rfl
    · rw [hput (2 * i + 1) (by omega), flatR (srt l) (2 * i + 1) (by omega)]
      have e1 : (2 * i + 1) / 2 = i := by omega
      have e2 : (2 * i + 1) % 2 = 1 := by omega
      simp only [e1, e2, hxe]; rfl
  · refine ⟨rfl, rfl, rfl, by simp [sortWorldK, putRowK, putRow, mapBlock, grow, Sort.ahead], fun k hk => ?_⟩
    simp only [sortWorldK, putRowK, putRow, mapBlock, grow, Sort.ahead, Go.V.wput]
    rw [Array.getElem?_append_left (by simpa using hk), Array.getElem?_modify]
    by_cases hbk : b = k
    · subst hbk
      rw [if_pos rfl, hw, Array.getElem?_setIfInBounds_self_of_lt hk]; rfl
    · rw [if_neg hbk, Array.getElem?_setIfInBounds_ne hbk]
open Go.V Go Go.RowKit
def rgD : List D → Option (List Rs)
  | [] => some []
  | .int .i32 a :: .int .i32 b :: l => match decide (0 ≤ a), decide (a ≤ 1114111), rgD l with
    | true, true, some r => if h : 0 ≤ a ∧ a ≤ 1114111 then some (⟨a, b, h.1, h.2⟩ :: r) else none
    | _, _, _ => none
  | _ => none
def encD : List Rs → List D
  | [] => []
  | x :: l => .int .i32 x.lo :: .int .i32 x.hi :: encD l
theorem rgD_enc : ∀ l : List Rs, rgD (encD l) = some l
  | [] => rfl
  | x :: l => by simp [encD, rgD, rgD_enc l, x.h0, x.h1]
theorem rgD_spec : ∀ {c : List D} {l : List Rs}, rgD c = some l → c = encD l
  | [], l, h => by cases h; rfl
  | [_], l, h => by
    unfold rgD at h
    split at h
    · rename_i he; cases he
    · rename_i he; cases he
    · cases h
  | d :: e :: c, l, h => by
    unfold rgD at h
    split at h
    · rename_i he; cases he
    · rename_i a b m he
      cases he
      split at h
      · rename_i r h1 h2 h3
        split at h
        · cases h
          rw [rgD_spec h3]; rfl
        · cases h
      · cases h
    · cases h
theorem encD_len : ∀ l : List Rs, (encD l).length = 2 * l.length
  | [] => rfl
  | x :: l => by simp [encD, encD_len l]; omega
theorem encD_get : ∀ (l : List Rs) (i : Nat) x, l[i]? = some x → (encD l)[2 * i]? = some (.int .i32 x.lo) ∧ (encD l)[2 * i + 1]? = some (.int .i32 x.hi)
  | [], i, x, h => by simp at h
  | y :: l, 0, x, h => by simp at h; subst h; exact ⟨rfl, rfl⟩
  | y :: l, i + 1, x, h => by
    have := encD_get l i x (by simpa using h)
    simpa [encD, show 2 * (i + 1) = 2 * i + 1 + 1 by omega] using this
theorem encD_get' (l : List Rs) (j : Nat) (hj : j < 2 * l.length) : ∃ x, l[j / 2]? = some x ∧ (encD l)[j]? = some (.int .i32 (if j % 2 = 0 then x.lo else x.hi)) := by
  refine ⟨l[j / 2]'(by omega), List.getElem?_eq_getElem _, ?_⟩
  obtain ⟨h1, h2⟩ := encD_get l (j / 2) _ (List.getElem?_eq_getElem (by omega))
  rcases Nat.mod_two_eq_zero_or_one j with h | h
  · rw [if_pos h, ← h1]; congr 1; omega
  · rw [if_neg (by omega), ← h2]; congr 1; omega
theorem encD_refs : ∀ l : List Rs, refs (encD l) = 0
  | [] => rfl
  | x :: l => by simp [encD, refs, D.ref, encD_refs l]
noncomputable def srtQ (st : St) (k ver off len : Nat) (l : List Rs) : Option (D × St) :=
  match decide (l.length = len ∧ 1 ≤ len ∧ len < 1099511627776) with
  | true => match st.wr k ver off (encD (srt l)) with
    | some st' => some (.tup [], st')
    | none => none
  | false => none
noncomputable def srtP : List D → St → Option (D × St)
  | [.nul, .fn 93 []], st => some (.tup [], st)
  | [.win k ver off len 2, .fn 93 []], st => match st.mem? k ver with
    | some (_, c) => match rgD ((c.drop off).take (2 * len)) with
      | some l => srtQ st k ver off len l
      | none => none
    | none => none
  | _, _ => none
theorem srtP_some {ds : List D} {st : St} {r : D × St} (h : srtP ds st = some r) : (ds = [.nul, .fn 93 []] ∧ r = (.tup [], st)) ∨
    ∃ k ver off ar c l, ds = [.win k ver off l.length 2, .fn 93 []] ∧ st.mem? k ver = some (ar, c) ∧ (c.drop off).take (2 * l.length) = encD l ∧ 1 ≤ l.length ∧ l.length < 1099511627776 ∧ st.wr k ver off (encD (srt l)) = some r.2 ∧ r.1 = .tup [] := by
  unfold srtP at h
  split at h
  · cases h; exact .inl ⟨rfl, rfl⟩
  · rename_i st0 k ver off len
    right
    split at h
    · rename_i ar c hm
      split at h
      · rename_i l hl
        unfold srtQ at h
        split at h
        · rename_i hd
          have hd := of_decide_eq_true hd
          split at h
          · rename_i st' hw
            cases h
            obtain ⟨rfl, h1, h2⟩ := hd
            exact ⟨k, ver, off, ar, c, l, rfl, hm, rgD_spec hl, h1, h2, hw, rfl⟩
          · cases h
        · cases h
      · cases h
    · cases h
  · cases h
theorem nulSort : (match callD pv0 60 92 [.nul, .fn 93 []] ⟨[], 0, 0⟩ with | some (.tup [], ⟨[], _, _⟩) => true | _ => false) = true := by kernel_rfl
theorem nx_quiet {w w' : World} {st : St} {β : Nat → Option (Nat × Nat)} {Z : Nat → Prop} (h : Sim w st β Z) (hb : Below w.heap.size w w') : Nx w st β Z w' st β Z := by
  have hq : Quiet w w' := fun b hb' => hb.block b hb'
  have hk : Keeps w (st.x β Z) w' (st.x β Z) :=
    ⟨fun _ p hp => ⟨p, hp⟩, fun b hb => ⟨hb, hq b (h.zl b hb)⟩, fun _ c _ _ hc => ⟨c, hc, Nat.le_refl _⟩, fun k _ _ _ b base hb => ⟨hb, rowSize_eq (hq b (h.lt k b base hb))⟩⟩
  exact ⟨⟨h.dom, fun k b base hb' => Nat.lt_of_lt_of_le (h.lt k b base hb') hb.size, h.inj, h.zd, fun b hb' => Nat.lt_of_lt_of_le (h.zl b hb') hb.size, fun k b base bx hb' hbx => (h.box k b base bx hb' hbx).keep hk (hq b (h.lt k b base hb')), h.flr, h.ro⟩, hk,
    ⟨hb.os, hb.tape, hb.output, hb.size, fun b hb' _ => hq b hb'⟩, fun _ _ base hb => .inl ⟨base, hb⟩, fun _ hz => .inl hz, Nat.le_refl _, rfl, rfl, fun _ _ => ⟨rfl, rfl⟩, fun _ _ h => ⟨h, rfl⟩⟩
theorem srtP_ok (hv : pv0.Ok Try.prog ∧ pv0.codes ∧ CfOk Try.prog pv0 (primF pv0)) {pv : Pv} (hro : isRo pv 92 = false) : PrimOk Try.prog pv 92 srtP := by
  refine ⟨fun ds st r hp => ⟨Try.f92, _, Try.func92, rfl, by decide⟩, fun ds st d st' hp w β Z us hsim hle ha => ?_, fun ds st d st' hp hr => (by rw [hro] at hr; cases hr), fun ds st d st' hp => ?_⟩
  · rcases srtP_some hp with ⟨rfl, hr⟩ | ⟨k, ver, off, ar, c, l, rfl, hm, hl, hn, hn2, hw, hd⟩
    · cases hr
      have hs := nulSort
      split at hs
      · rename_i a b he
        refine (memo_calls hv he rfl rfl st w β Z us hsim hle ha).mono fun e w' => ?_
        rintro ⟨v, β', Z', h1, h2, h3, h4⟩
        exact ⟨v, β', Z', h1, h2, h3, fun _ => h4⟩
      · cases hs
    · obtain ⟨u, v, rfl⟩ : ∃ u v, us = [u, v] := by
        match us, hle with
        | [u, v], _ => exact ⟨u, v, rfl⟩
      obtain ⟨a, cap, rfl, hcap, _, _, hat⟩ := vr_win (ha 0 _ u rfl rfl)
      obtain ⟨vs, rfl, hvs, _⟩ := vr_fn (ha 1 _ v rfl rfl)
      have hvs : vs = [] := List.length_eq_zero_iff.1 hvs.symm
      subst hvs
      obtain ⟨b, base, sz, hb, hsz, hor⟩ := hat (mem_spec hm).2
      obtain ⟨rfl, hrow⟩ := hor.resolve_left (by omega)
      obtain ⟨cs, el, fr, r1, r2, r3, r4⟩ := hsim.row hm hb
      have hcget : ∀ (i : Nat) x, l[i]? = some x → c[off + 2 * i]? = some (.int .i32 x.lo) ∧ c[off + (2 * i + 1)]? = some (.int .i32 x.hi) := by
        intro i x hx
        have hi : i < l.length := (List.getElem?_eq_some_iff.1 hx).1
        obtain ⟨h1, h2⟩ := encD_get l i x hx
        rw [← hl, List.getElem?_take, if_pos (by omega), List.getElem?_drop] at h1 h2
        exact ⟨h1, h2⟩
      have hwalk := sort_calls b (base + off) cap l w r1 r3.2 (fun i x hx => by
        obtain ⟨h1, h2⟩ := hcget i x hx
        obtain ⟨u1, a1, _, c1⟩ := r4 _ _ h1
        obtain ⟨u2, a2, _, c2⟩ := r4 _ _ h2
        have := vr_int c1
        subst this
        have := vr_int c2
        subst this
        exact ⟨by rw [← a1]; congr 1; omega, by rw [← a2]; congr 1; omega⟩) (by omega)
      have hperm := (srt_facts l).1
      have hsl : (srt l).length = l.length := hperm.length_eq
      refine hwalk.mono ?_
      rintro e w' ⟨rfl, cs', g1, g2, g3, g4, g5, g6, g7, g8⟩
      have hwr : Nx w st β Z (wput w b (.cells cs' el fr)) st' β Z := by
        unfold St.wr at hw
        rw [hm] at hw
        simp only at hw
        split at hw
        · rename_i hc
          have hst := Option.some.inj hw
          rw [← hst]
          have hx := Nx.write (a' := ar) (ver' := ver) (c' := setMany c off (encD (srt l))) (base' := base) hsim hm hb (canW_ro hc.2) (Nat.le_refl _) (fun _ => rfl) r1 (cs' := cs') g1 (by rw [setMany_length]; exact r2) (fun j d hd => by
            rw [setMany_get (encD (srt l)) c off j hc.1] at hd
            split at hd
            · rename_i hj
              rw [encD_len, hsl] at hj
              obtain ⟨x, hx1, hx2⟩ := encD_get' (srt l) (j - off) (by omega)
              rw [hx2] at hd
              cases hd
              obtain ⟨k1, k2⟩ := g3 _ _ hx1
              split
              · refine ⟨.int .i32 x.lo, ?_, rfl, .im _ _ (.int _ _)⟩
                rw [← k1]; congr 1; omega
              · refine ⟨.int .i32 x.hi, ?_, rfl, .im _ _ (.int _ _)⟩
                rw [← k2]; congr 1; omega
            · rename_i hj
              rw [encD_len, hsl] at hj
              rw [g2 _ (by omega)]
              exact r4 j d hd)
          have e1 : (fun i => if i = k then some (b, base) else β i) = β := by
            funext i; split
            · rename_i e; subst e; exact hb.symm
            · rfl
          rw [e1] at hx
          exact hx
        · cases hw
      have hsame : (wput w b (.cells cs' el fr)).heap.size = w.heap.size := by simp [wput]
      have hbel : Below (wput w b (.cells cs' el fr)).heap.size (wput w b (.cells cs' el fr)) w' := ⟨g4.symm, g5.symm, g6.symm, by rw [hsame]; exact g7, fun k hk => g8 k (by rw [hsame] at hk; exact hk)⟩
      refine ⟨_, β, Z, rfl, hwr.trans (nx_quiet hwr.sim hbel), ?_, fun h => by rw [hro] at h; cases h⟩
      simp only at hd
      rw [hd]
      exact .im _ _ (.tup [] [] rfl fun q c v hc hv => by simp at hc)
  · rcases srtP_some hp with ⟨rfl, hr⟩ | ⟨k, ver, off, ar, c, l, rfl, hm, hl, hn, hn2, hw, hd⟩
    · cases hr; exact Goes.refl _
    · exact wr_goes hw
noncomputable def pv : Pv := pv0.over [(29, memo0 (.bool true)), (18, memo0 (.bool true)), (34, memo0 (.bool true)), (73, memo0 (.agg [.int .i64 (-1), .int .i64 (-1), .int .i64 (-1), .int .i64 (-1), .int .i64 (-1), .int .i64 (-1), .int .i64 (-1), .int .i64 (-1), .int .i64 (-1), .int .i64 (-1)])), (59, memo0 (.agg [.int .i64 (-1), .int .i64 (-1), .int .i64 (-1), .int .i64 (-1), .int .i64 (-1), .int .i64 (-1), .int .i64 (-1), .int .i64 (-1), .int .i64 (-1), .int .i64 (-1)])), (106, digP), (92, srtP)]
theorem view : pv.Ok Try.prog ∧ pv.codes ∧ CfOk Try.prog pv (primF pv) := by
  refine view_over view0 rfl fun q hq => ?_
  simp only [List.mem_cons, List.not_mem_nil, or_false] at hq
  rcases hq with rfl | rfl | rfl | rfl | rfl | rfl | rfl
  · obtain ⟨st, h1, h2⟩ := checkRunsIs
    exact memo0_ok view0 h1 h2
  · exact progRuns_ok
  · exact backRuns_ok
  · exact none73_ok
  · exact none59_ok
  · exact digP_ok (by kernel_rfl)
  · exact srtP_ok view0 (by kernel_rfl)
theorem fi7 : pv.fi 7 = some ⟨Try.f7, 14, .ro, false, none, []⟩ := by kernel_rfl
theorem fi14 : pv.fi 14 = some ⟨Try.f14, 18, .ro, false, none, []⟩ := by kernel_rfl
theorem fi21 : pv.fi 21 = some ⟨Try.f21, 4, .ro, false, none, []⟩ := by kernel_rfl
theorem fi27 : pv.fi 27 = some ⟨Try.f27, 49, .ro, false, none, []⟩ := by kernel_rfl
theorem fi28 : pv.fi 28 = some ⟨Try.f28, 29, .ro, false, none, []⟩ := by kernel_rfl
theorem fi30 : pv.fi 30 = some ⟨Try.f30, 24, .ro, false, none, []⟩ := by kernel_rfl
theorem fi37 : pv.fi 37 = some ⟨Try.f37, 36, .rw, false, none, []⟩ := by kernel_rfl
theorem fi38 : pv.fi 38 = some ⟨Try.f38, 16, .rw, false, none, []⟩ := by kernel_rfl
theorem fi39 : pv.fi 39 = some ⟨Try.f39, 5, .keep, false, none, []⟩ := by kernel_rfl
theorem fi40 : pv.fi 40 = some ⟨Try.f40, 40, .keep, false, none, []⟩ := by kernel_rfl
theorem fi46 : pv.fi 46 = some ⟨Try.f46, 8, .rw, false, none, []⟩ := by kernel_rfl
theorem fi49 : pv.fi 49 = some ⟨Try.f49, 39, .ro, false, none, []⟩ := by kernel_rfl
theorem fi50 : pv.fi 50 = some ⟨Try.f50, 5, .ro, false, none, []⟩ := by kernel_rfl
theorem fi51 : pv.fi 51 = some ⟨Try.f51, 41, .ro, false, none, []⟩ := by kernel_rfl
theorem fi53 : pv.fi 53 = some ⟨Try.f53, 6, .ro, false, none, []⟩ := by kernel_rfl
theorem fi54 : pv.fi 54 = some ⟨Try.f54, 4, .rw, false, none, []⟩ := by kernel_rfl
theorem fi55 : pv.fi 55 = some ⟨Try.f55, 7, .rw, false, none, []⟩ := by kernel_rfl
theorem fi61 : pv.fi 61 = some ⟨Try.f61, 68, .keep, false, none, []⟩ := by kernel_rfl
theorem fi62 : pv.fi 62 = some ⟨Try.f62, 78, .keep, false, none, []⟩ := by kernel_rfl
theorem fi66 : pv.fi 66 = some ⟨Try.f66, 11, .ro, false, none, []⟩ := by kernel_rfl
theorem fi68 : pv.fi 68 = some ⟨Try.f68, 3, .ro, false, none, []⟩ := by kernel_rfl
theorem fi69 : pv.fi 69 = some ⟨Try.f69, 9, .ro, false, none, []⟩ := by kernel_rfl
theorem fi70 : pv.fi 70 = some ⟨Try.f70, 4, .rw, false, none, []⟩ := by kernel_rfl
theorem fi71 : pv.fi 71 = some ⟨Try.f71, 5, .rw, false, none, []⟩ := by kernel_rfl
theorem fi72 : pv.fi 72 = some ⟨Try.f72, 27, .ro, false, none, []⟩ := by kernel_rfl
theorem fi76 : pv.fi 76 = some ⟨Try.f76, 4, .rw, false, none, []⟩ := by kernel_rfl
theorem fi80 : pv.fi 80 = some ⟨Try.f80, 4, .ro, false, none, []⟩ := by kernel_rfl
theorem fi82 : pv.fi 82 = some ⟨Try.f82, 14, .ro, false, none, []⟩ := by kernel_rfl
theorem fi83 : pv.fi 83 = some ⟨Try.f83, 26, .ro, false, none, []⟩ := by kernel_rfl
theorem fi84 : pv.fi 84 = some ⟨Try.f84, 5, .ro, false, none, []⟩ := by kernel_rfl
theorem fi85 : pv.fi 85 = some ⟨Try.f85, 5, .rw, false, none, []⟩ := by kernel_rfl
theorem fi86 : pv.fi 86 = some ⟨Try.f86, 5, .rw, false, none, []⟩ := by kernel_rfl
theorem fi91 : pv.fi 91 = some ⟨Try.f91, 20, .ro, false, none, []⟩ := by kernel_rfl
theorem fi94 : pv.fi 94 = some ⟨Try.f94, 26, .rw, false, none, []⟩ := by kernel_rfl
theorem fi95 : pv.fi 95 = some ⟨Try.f95, 14, .rw, false, none, []⟩ := by kernel_rfl
theorem fi100 : pv.fi 100 = some ⟨Try.f100, 5, .rw, false, none, []⟩ := by kernel_rfl
theorem fi101 : pv.fi 101 = some ⟨Try.f101, 7, .rw, false, none, []⟩ := by kernel_rfl
theorem fi102 : pv.fi 102 = some ⟨Try.f102, 7, .rw, false, none, []⟩ := by kernel_rfl
theorem fi103 : pv.fi 103 = some ⟨Try.f103, 61, .rw, true, none, []⟩ := by kernel_rfl
theorem fi104 : pv.fi 104 = some ⟨Try.f104, 1, .ro, false, none, []⟩ := by kernel_rfl
theorem fi105 : pv.fi 105 = some ⟨Try.f105, 3, .ro, false, none, []⟩ := by kernel_rfl
theorem fi107 : pv.fi 107 = some ⟨Try.f107, 5, .ro, false, none, []⟩ := by kernel_rfl
theorem fi108 : pv.fi 108 = some ⟨Try.f108, 12, .ro, false, none, []⟩ := by kernel_rfl
theorem fi119 : pv.fi 119 = some ⟨Try.f119, 8, .rw, false, none, []⟩ := by kernel_rfl
theorem fi120 : pv.fi 120 = some ⟨Try.f120, 11, .ro, false, none, []⟩ := by kernel_rfl
theorem fi121 : pv.fi 121 = some ⟨Try.f121, 3, .ro, false, none, []⟩ := by kernel_rfl
theorem fi130 : pv.fi 130 = some ⟨Try.f130, 29, .rw, true, none, []⟩ := by kernel_rfl
end Go.Proofs.Ytbdilgkfnacahaa
namespace Go.V
abbrev Rg := Int × Int
def memR (l : List Rg) (r : Int) : Prop := ∃ x, x ∈ l ∧ x.1 ≤ r ∧ r ≤ x.2
theorem memR_nil (r : Int) : ¬ memR [] r := by rintro ⟨x, h, _⟩; cases h
theorem memR_cons {x : Rg} {l : List Rg} {r : Int} : memR (x :: l) r ↔ (x.1 ≤ r ∧ r ≤ x.2) ∨ memR l r := by
  constructor
  · rintro ⟨y, hy, h⟩
    rcases List.mem_cons.1 hy with rfl | hy
    · exact .inl h
    · exact .inr ⟨y, hy, h⟩
  · rintro (h | ⟨y, hy, h⟩)
    · exact ⟨x, List.mem_cons_self .., h⟩
    · exact ⟨y, List.mem_cons_of_mem _ hy, h⟩
theorem memR_append {a b : List Rg} {r : Int} : memR (a ++ b) r ↔ memR a r ∨ memR b r := by
  constructor
  · rintro ⟨y, hy, h⟩
    rcases List.mem_append.1 hy with hy | hy
    · exact .inl ⟨y, hy, h⟩
    · exact .inr ⟨y, hy, h⟩
  · rintro (⟨y, hy, h⟩ | ⟨y, hy, h⟩)
    · exact ⟨y, List.mem_append_left _ hy, h⟩
    · exact ⟨y, List.mem_append_right _ hy, h⟩
theorem memR_same {a b : List Rg} (h : ∀ x, x ∈ a ↔ x ∈ b) (r : Int) : memR a r ↔ memR b r := by
  constructor
  · rintro ⟨y, hy, hh⟩; exact ⟨y, (h y).1 hy, hh⟩
  · rintro ⟨y, hy, hh⟩; exact ⟨y, (h y).2 hy, hh⟩
def canon (l : List Rg) : Prop := (∀ x ∈ l, x.1 ≤ x.2) ∧ l.Pairwise fun x y => x.2 + 1 < y.1
theorem canon_tail {x : Rg} {l : List Rg} (h : canon (x :: l)) : canon l ∧ x.1 ≤ x.2 ∧ ∀ r, memR l r → x.2 + 1 < r := by
  obtain ⟨h1, h2⟩ := h
  rw [List.pairwise_cons] at h2
  refine ⟨⟨fun y hy => h1 y (List.mem_cons_of_mem _ hy), h2.2⟩, h1 x (List.mem_cons_self ..), ?_⟩
  rintro r ⟨y, hy, h3, h4⟩
  have := h2.1 y hy
  omega
theorem canon_unique : ∀ {a b : List Rg}, canon a → canon b → (∀ r, memR a r ↔ memR b r) → a = b
  | [], [], _, _, _ => rfl
  | [], y :: b, _, hb, h => by
    obtain ⟨_, h1, _⟩ := canon_tail hb
    exact absurd ((h y.1).2 (memR_cons.2 (.inl ⟨Int.le_refl _, h1⟩))) (memR_nil _)
  | x :: a, [], ha, _, h => by
    obtain ⟨_, h1, _⟩ := canon_tail ha
    exact absurd ((h x.1).1 (memR_cons.2 (.inl ⟨Int.le_refl _, h1⟩))) (memR_nil _)
  | x :: a, y :: b, ha, hb, h => by
    obtain ⟨ca, xa, fa⟩ := canon_tail ha
    obtain ⟨cb, yb, fb⟩ := canon_tail hb
    have low : ∀ {x y : Rg} {a b : List Rg}, x.1 ≤ x.2 → (∀ r, memR b r → y.2 + 1 < r) → y.1 ≤ y.2 → (∀ r, memR (x :: a) r → memR (y :: b) r) → y.1 ≤ x.1 := by
      intro x y a b hx hf hy hh
      rcases memR_cons.1 (hh x.1 (memR_cons.2 (.inl ⟨Int.le_refl _, hx⟩))) with h | h
      · exact h.1
      · have := hf _ h; omega
    have e1 : x.1 = y.1 := Int.le_antisymm (low yb fa xa fun r => (h r).2) (low xa fb yb fun r => (h r).1)
    have up : ∀ {x y : Rg} {a b : List Rg}, x.1 ≤ x.2 → x.1 = y.1 → (∀ r, memR a r → x.2 + 1 < r) → (∀ r, memR (y :: b) r → memR (x :: a) r) → y.2 ≤ x.2 := by
      intro x y a b hx he hf hh
      rcases Int.lt_or_le x.2 y.2 with h' | h'
      · rcases memR_cons.1 (hh (x.2 + 1) (memR_cons.2 (.inl ⟨by omega, by omega⟩))) with h | h
        · omega
        · have := hf _ h; omega
      · exact h'
    have e2 : x.2 = y.2 := Int.le_antisymm (up yb e1.symm fb fun r => (h r).1) (up xa e1 fa fun r => (h r).2)
    have e : x = y := Prod.ext e1 e2
    subst e
    congr 1
    refine canon_unique ca cb fun r => ⟨fun hr => ?_, fun hr => ?_⟩
    · have := fa r hr
      rcases memR_cons.1 ((h r).1 (memR_cons.2 (.inr hr))) with h | h
      · omega
      · exact h
    · have := fb r hr
      rcases memR_cons.1 ((h r).2 (memR_cons.2 (.inr hr))) with h | h
      · omega
      · exact h
def joinR (acc : List Rg) (r : Rg) : List Rg :=
  match acc with
  | [] => [r]
  | k :: rest => if r.1 ≤ k.2 + 1 then (k.1, max k.2 r.2) :: rest else r :: k :: rest
theorem joinR_ok : ∀ (l acc : List Rg), (∀ x ∈ l, x.1 ≤ x.2) → l.Pairwise (fun x y => x.1 ≤ y.1) → (∀ k ∈ acc.head?, ∀ x ∈ l, k.1 ≤ x.1) → (∀ x ∈ acc, x.1 ≤ x.2) → acc.Pairwise (fun x y => y.2 + 1 < x.1) →
    (∀ x ∈ l.foldl joinR acc, x.1 ≤ x.2) ∧ (l.foldl joinR acc).Pairwise (fun x y => y.2 + 1 < x.1) ∧ ∀ r, memR (l.foldl joinR acc) r ↔ memR acc r ∨ memR l r
  | [], acc, _, _, _, h1, h2 => ⟨h1, h2, fun r => ⟨.inl, fun h => h.resolve_right (memR_nil r)⟩⟩
  | x :: l, acc, hl, hp, hk, h1, h2 => by
    rw [List.pairwise_cons] at hp
    have hx := hl x (List.mem_cons_self ..)
    have hl' : ∀ y ∈ l, y.1 ≤ y.2 := fun y hy => hl y (List.mem_cons_of_mem _ hy)
    rw [List.foldl_cons]
    cases acc with
    | nil =>
      obtain ⟨g1, g2, g3⟩ := joinR_ok l [x] hl' hp.2 (fun k hk' y hy => by simp at hk'; subst hk'; exact hp.1 y hy) (fun y hy => by simp at hy; subst hy; exact hx) (by simp)
      refine ⟨g1, g2, fun r => (g3 r).trans ?_⟩
      rw [memR_cons (l := l), memR_cons (l := [])]
      constructor
      · rintro ((h | h) | h)
        · exact .inr (.inl h)
        · exact absurd h (memR_nil r)
        · exact .inr (.inr h)
      · rintro (h | h | h)
        · exact absurd h (memR_nil r)
        · exact .inl (.inl h)
        · exact .inr h
    | cons k rest =>
      have hkx := hk k rfl x (List.mem_cons_self ..)
      have hkk := h1 k (List.mem_cons_self ..)
      rw [List.pairwise_cons] at h2
      unfold joinR
      by_cases hc : x.1 ≤ k.2 + 1
      · simp only [if_pos hc]
        obtain ⟨g1, g2, g3⟩ := joinR_ok l ((k.1, max k.2 x.2) :: rest) hl' hp.2 (fun q hq y hy => by simp at hq; subst hq; have := hp.1 y hy; simp only; omega) (fun y hy => by
          rcases List.mem_cons.1 hy with rfl | hy
          · simp only; omega
          · exact h1 y (List.mem_cons_of_mem _ hy)) (by rw [List.pairwise_cons]; exact ⟨h2.1, h2.2⟩)
        refine ⟨g1, g2, fun r => (g3 r).trans ?_⟩
        rw [memR_cons (l := rest), memR_cons (l := rest), memR_cons (l := l)]
        constructor
        · rintro ((h | h) | h)
          · simp only at h
            by_cases hr : r ≤ k.2
            · exact .inl (.inl ⟨h.1, hr⟩)
            · exact .inr (.inl ⟨by omega, by omega⟩)
          · exact .inl (.inr h)
          · exact .inr (.inr h)
        · rintro ((h | h) | h | h)
          · exact .inl (.inl ⟨h.1, by simp only; omega⟩)
          · exact .inl (.inr h)
          · exact .inl (.inl ⟨by simp only; omega, by simp only; omega⟩)
          · exact .inr h
      · simp only [if_neg hc]
        obtain ⟨g1, g2, g3⟩ := joinR_ok l (x :: k :: rest) hl' hp.2 (fun q hq y hy => by simp at hq; subst hq; exact hp.1 y hy) (fun y hy => by
          rcases List.mem_cons.1 hy with rfl | hy
          · exact hx
          · exact h1 y hy) (by
          rw [List.pairwise_cons]
          refine ⟨fun y hy => ?_, by rw [List.pairwise_cons]; exact h2⟩
          rcases List.mem_cons.1 hy with rfl | hy
          · omega
          · have := h2.1 y hy; omega)
        refine ⟨g1, g2, fun r => (g3 r).trans ?_⟩
        rw [memR_cons (l := k :: rest), memR_cons (l := l)]
        constructor
        · rintro ((h | h) | h)
          · exact .inr (.inl h)
          · exact .inl h
          · exact .inr (.inr h)
        · rintro (h | h | h)
          · exact .inl (.inr h)
          · exact .inl (.inl h)
          · exact .inr h
theorem join_canon {l : List Rg} (h1 : ∀ x ∈ l, x.1 ≤ x.2) (h2 : l.Pairwise fun x y => x.1 ≤ y.1) : canon (l.foldl joinR []).reverse ∧ ∀ r, memR (l.foldl joinR []).reverse r ↔ memR l r := by
  obtain ⟨g1, g2, g3⟩ := joinR_ok l [] h1 h2 (fun k hk => by simp at hk) (fun x hx => by simp at hx) List.Pairwise.nil
  refine ⟨⟨fun x hx => g1 x (List.mem_reverse.1 hx), by rw [List.pairwise_reverse]; exact g2⟩, fun r => ?_⟩
  rw [memR_same (fun x => List.mem_reverse) r, g3 r]
  exact ⟨fun h => h.resolve_left (memR_nil r), .inr⟩
def isRune (r : Int) : Prop := 0 ≤ r ∧ r ≤ 1114111 ∧ ¬ (55296 ≤ r ∧ r ≤ 57343)
def runesS (x : Rg) : List Rg :=
  (if max (max x.1 0) 0 ≤ min (min x.2 1114111) 55295 then [(max (max x.1 0) 0, min (min x.2 1114111) 55295)] else []) ++
  (if max (max x.1 0) 57344 ≤ min (min x.2 1114111) 1114111 then [(max (max x.1 0) 57344, min (min x.2 1114111) 1114111)] else [])
theorem runesS_mem (x : Rg) (r : Int) : memR (runesS x) r ↔ isRune r ∧ x.1 ≤ r ∧ r ≤ x.2 := by
  unfold runesS isRune
  rw [memR_append]
  have one : ∀ (a b : Int), memR (if a ≤ b then [(a, b)] else []) r ↔ a ≤ r ∧ r ≤ b := by
    intro a b
    split
    · rw [memR_cons]
      exact ⟨fun h => h.elim id fun h => absurd h (memR_nil r), .inl⟩
    · exact ⟨fun h => absurd h (memR_nil r), fun h => by omega⟩
  rw [one, one]
  omega
theorem runesS_le (x : Rg) : ∀ y ∈ runesS x, y.1 ≤ y.2 ∧ 0 ≤ y.1 ∧ y.2 ≤ 1114111 := by
  intro y hy
  unfold runesS at hy
  rcases List.mem_append.1 hy with h | h <;> split at h <;> simp at h <;> subst h <;> simp only <;> omega
theorem make_canon {l all : List Rg} (hp : ∀ x, x ∈ all ↔ x ∈ l.flatMap runesS) (hs : all.Pairwise fun x y => x.1 ≤ y.1) : canon (all.foldl joinR []).reverse ∧ ∀ r, memR (all.foldl joinR []).reverse r ↔ isRune r ∧ memR l r := by
  have hle : ∀ x ∈ all, x.1 ≤ x.2 := fun x hx => by
    obtain ⟨y, _, hy⟩ := List.mem_flatMap.1 ((hp x).1 hx)
    exact (runesS_le y x hy).1
  obtain ⟨g1, g2⟩ := join_canon hle hs
  refine ⟨g1, fun r => (g2 r).trans ((memR_same hp r).trans ?_)⟩
  constructor
  · rintro ⟨y, hy, h⟩
    obtain ⟨x, hx, hy⟩ := List.mem_flatMap.1 hy
    have := (runesS_mem x r).1 ⟨y, hy, h⟩
    exact ⟨this.1, x, hx, this.2⟩
  · rintro ⟨hr, x, hx, h⟩
    obtain ⟨y, hy, h'⟩ := (runesS_mem x r).2 ⟨hr, h⟩
    exact ⟨y, List.mem_flatMap.2 ⟨x, hx, hy⟩, h'⟩
end Go.V
namespace Go.Proofs.Ytbdilgkfnacahaa
open Go.V Go
def rangeC (x : Rg) : List D := [.int .i32 x.1, .int .i32 x.2]
def rangesV (l : List Rg) : D := .sl (l.map fun x => .agg (rangeC x))
theorem rangesV_el (l : List Rg) : D.sl ((l.map rangeC).map (elD 2)) = rangesV l := by
 unfold rangesV; rw [List.map_map]; rfl
theorem range_plain (l : List Rg) : ∀ e ∈ l.map rangeC, ∀ d ∈ e, plainC d = true := by
 intro e he d hd;obtain ⟨x, _, rfl⟩ := List.mem_map.1 he;simp only [rangeC, List.mem_cons, List.not_mem_nil, or_false] at hd
 rcases hd with rfl | rfl <;> rfl
theorem range_refs (l : List Rg) : refs (l.map rangeC).flatten = 0 := by
 induction l with
 | nil => rfl
 | cons x l ih => simp only [List.map_cons, List.flatten_cons, rangeC, List.cons_append, List.nil_append, refs, D.ref, ih]; rfl
theorem range_len (l : List Rg) : ∀ e ∈ l.map rangeC, e.length = 2 := by
 intro e he; obtain ⟨x, _, rfl⟩ := List.mem_map.1 he; rfl
theorem rangesV_rows (st : St) (l : List Rg) : V.Rows st 2 (rangesV l) (l.map rangeC) := by
 rw [← rangesV_el];exact Rows.ofFrozen (range_len l) (range_plain l)
theorem range_get {l : List Rg} {i : Nat} {q : Rg} (h : l[i]? = some q) : (l.map rangeC)[i]? = some (rangeC q) := by rw [List.getElem?_map, h]; rfl
end Go.Proofs.Ytbdilgkfnacahaa
