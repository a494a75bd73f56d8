/-
  slices.SortFunc on ranges, in the model.
-/
import Derived.Test.YtappgjdiplibbaaGreatYSru
import Derived.Test.YtappgjdiplibbaaGreatYM1
import Derived.BigCall
import Derived.BigQuiet
import Derived.BigRegion
set_option linter.unusedSimpArgs true
set_option linter.unusedVariables true
namespace Go.Proofs.YtappgjdiplibbaaGreat
open Go.Shelf Go.RowKit Go.Lib Go.Sort Go Go.Proofs
structure Rs where
  lo : Int
  hi : Int
  h0 : 0 ≤ lo
  h1 : lo ≤ 1114111
instance : Inhabited Rs := ⟨⟨0, 0, by omega, by omega⟩⟩
def encR (x : Rs) : List Value := [.int .i32 x.lo, .int .i32 x.hi]
def cfR (x y : Rs) : Int := x.lo - y.lo
theorem swoR : SWO (ltOf cfR) where
  irrefl x := by simp [ltOf, cfR]
  trans x y z h1 h2 := by
    have h1 : x.lo - y.lo < 0 := of_decide_eq_true h1
    have h2 : y.lo - z.lo < 0 := of_decide_eq_true h2
    have : x.lo - z.lo < 0 := by omega
    exact decide_eq_true this
  ntrans x y z h1 h2 := by
    have h1 : ¬ x.lo - y.lo < 0 := of_decide_eq_false h1
    have h2 : ¬ y.lo - z.lo < 0 := of_decide_eq_false h2
    have : ¬ x.lo - z.lo < 0 := by omega
    exact decide_eq_false this
set_option maxHeartbeats 1000000 in
theorem closureR (x y : Rs) (W : World) : Calls Tryz.prog 145 #[.agg #[.int .i32 x.lo, .int .i32 x.hi], .agg #[.int .i32 y.lo, .int .i32 y.hi]] W fun e w' => e = .returned (.int .i64 (cfR x y)) ∧ ∃ q os', w' = grow (W.drewN q) os' := by
  have hx0 := x.h0
  have hx1 := x.h1
  have hy0 := y.h0
  have hy1 := y.h1
  have hc : cfR x y = x.lo - y.lo := rfl
  generalize cfR x y = r at hc ⊢
  generalize x.lo = a at *
  generalize y.lo = b at *
  go_enter Tryz.func145, Tryz.ntmps145
  go_wp2
  go_ret
  exact ⟨by rw [hc]; rfl, 0, _, by rw [alloc_eq_grow, alloc_eq_grow, grow_grow]; rfl⟩
theorem cmpLaysR (blk off size : Nat) (w : World) : CmpLays Tryz.prog 145 #[] encR 2 cfR blk off size w :=
  fun _ _ _ _ x y => closureR x y _
noncomputable def srt (l : List Rs) : List Rs := (pdq (ltOf cfR) l.toArray 0 l.toArray.size (Lib.bitLen l.toArray.size) true true).toList
theorem srt_facts (l : List Rs) : (srt l).Perm l ∧ (srt l).Pairwise (fun x y => x.lo ≤ y.lo) := by
  obtain ⟨⟨h1, _, h2⟩, h3⟩ := pdq_sorts (ltOf cfR) swoR l.toArray 0 l.toArray.size (Lib.bitLen l.toArray.size) true true (Nat.zero_le _) (Nat.le_refl _) (Or.inl rfl)
  have hz : (srt l).length = l.length := by simpa [srt] using h1
  constructor
  · have h4 : ((pdq (ltOf cfR) l.toArray 0 l.toArray.size (Lib.bitLen l.toArray.size) true true).extract 0 l.toArray.size) = pdq (ltOf cfR) l.toArray 0 l.toArray.size (Lib.bitLen l.toArray.size) true true := by
      generalize pdq (ltOf cfR) l.toArray 0 l.toArray.size (Lib.bitLen l.toArray.size) true true = q at h1
      rw [← h1]
      exact Array.extract_size
    rw [h4] at h2
    simpa [srt] using h2
  · rw [List.pairwise_iff_getElem]
    intro i j hi hj hij
    have := h3 i j (Nat.zero_le _) hij (by rw [hz] at hj; simpa using hj)
    have hh : ¬ (pdq (ltOf cfR) l.toArray 0 l.toArray.size (Lib.bitLen l.toArray.size) true true)[j]!.lo - (pdq (ltOf cfR) l.toArray 0 l.toArray.size (Lib.bitLen l.toArray.size) true true)[i]!.lo < 0 := of_decide_eq_false this
    have e : ∀ (k : Nat) (hk : k < (srt l).length), (srt l)[k] = (pdq (ltOf cfR) l.toArray 0 l.toArray.size (Lib.bitLen l.toArray.size) true true)[k]! := by
      intro k hk
      rw [getElem!_pos _ k (by simpa [srt] using hk)]
      simp [srt]
    rw [e i hi, e j hj]
    omega
theorem flatR (l : List Rs) (j : Nat) (hj : j < l.length * 2) : (flatK encR 2 l.toArray)[j]! = (encR (l[j / 2]'(by omega)))[j % 2]'(by simp [encR]; omega) := by
  rw [get_flatK _ _ _ _ (by simpa using hj)]
  rw [getElem!_pos l.toArray (j / 2) (by simp; omega)]
  rw [getElem!_pos _ (j % 2) (by simp [encR]; omega)]
  simp
set_option maxHeartbeats 1000000 in
theorem sort_calls (b o cap : Nat) (l : List Rs) (w : World) {cs : Array Value} {el : TypeId} {fr : Nat × Nat} (hw : w.heap[b]? = some (.cells cs el fr)) (hfr : ∀ j, j < cs.size → ¬ (fr.1 ≤ j ∧ j < fr.2))
    (hc : ∀ (i : Nat) x, l[i]? = some x → cs[o + 2 * i]? = some (.int .i32 x.lo) ∧ cs[o + (2 * i + 1)]? = some (.int .i32 x.hi)) (hn : l.length < 4611686018427387904) :
    Calls Tryz.prog 144 #[.slice (some ⟨b, o, none⟩) l.length cap, .func (.func 145) #[] #[]] w fun e w' => e = .returned (.tuple #[]) ∧ ∃ cs' : Array Value, cs'.size = cs.size ∧ (∀ j, j < o ∨ o + 2 * l.length ≤ j → cs'[j]? = cs[j]?) ∧
      (∀ (i : Nat) x, (srt l)[i]? = some x → cs'[o + 2 * i]? = some (.int .i32 x.lo) ∧ cs'[o + (2 * i + 1)]? = some (.int .i32 x.hi)) ∧
      (Go.V.wput w b (.cells cs' el fr)).os = w'.os ∧ (Go.V.wput w b (.cells cs' el fr)).tape = w'.tape ∧ (Go.V.wput w b (.cells cs' el fr)).output = w'.output ∧ w.heap.size ≤ w'.heap.size ∧ ∀ k, k < w.heap.size → w'.heap[k]? = (Go.V.wput w b (.cells cs' el fr)).heap[k]? := by
  have hb : b < w.heap.size := (Array.getElem?_eq_some_iff.1 hw).1
  have eg : ∀ args w, (callFunc 145 args).run Tryz.prog w = .ok (.enter 145 args) w := enters_of Tryz.func145 (by kernel_rfl) rfl
  have hcell : ∀ j, j < l.length * 2 → cs[o + j]? = some ((flatK encR 2 l.toArray)[j]!) := by
    intro j hj
    rw [flatR l j hj]
    obtain ⟨h1, h2⟩ := hc (j / 2) _ (List.getElem?_eq_getElem (by omega))
    rcases Nat.mod_two_eq_zero_or_one j with h | h
    · have : j = 2 * (j / 2) := by omega
      simp only [h]
      rw [show o + j = o + 2 * (j / 2) by omega, h1]; rfl
    · simp only [h]
      rw [show o + j = o + (2 * (j / 2) + 1) by omega, h2]; rfl
  have hH : HoldsK encR 2 w b o l.toArray := by
    intro j hj
    have hj : j < l.length * 2 := by simpa using hj
    have h1 := hcell j hj
    refine ⟨by simp [World.cell?, hw, h1], ?_⟩
    simp only [World.frozen?, hw]
    have := hfr (o + j) (Array.getElem?_eq_some_iff.1 h1).1
    simpa using this
  have h := AnyQ.slices_SortFunc_eq sortR 2 Tryz.isAgg81 Tryz.sizeOf81 encR (fun _ => rfl) (fun x v hv => by simp [encR] at hv; rcases hv with rfl | rfl <;> rfl) cfR swoR 145 #[] b o cap l.toArray w eg (cmpLaysR b o _ w) hH hb (by simpa using hn)
  rw [show l.toArray.size = l.length from by simp] at h
  refine h.mono ?_
  rintro e w' ⟨rfl, n, os, rfl⟩
  have e1 : pdq (ltOf cfR) l.toArray 0 l.length (Lib.bitLen l.length) true true = (srt l).toArray := by simp [srt]
  rw [e1]
  have hz : (srt l).length = l.length := (srt_facts l).1.length_eq
  have hget : ∀ j, (putCells id o (flatK encR 2 (srt l).toArray) cs)[j]? = if o ≤ j ∧ j < o + l.length * 2 then (cs[j]?).map (fun _ => (flatK encR 2 (srt l).toArray)[j - o]!) else cs[j]? := by
    intro j
    unfold putCells
    rw [Array.getElem?_mapIdx]
    simp only [size_flatK, List.size_toArray, hz, id]
    split
    · rfl
    · simp
  have hput : ∀ j, j < l.length * 2 → (putCells id o (flatK encR 2 (srt l).toArray) cs)[o + j]? = some ((flatK encR 2 (srt l).toArray)[j]!) := by
    intro j hj
    rw [hget, if_pos ⟨by omega, by omega⟩, hcell j hj]
    simp
  refine ⟨rfl, putCells id o (flatK encR 2 (srt l).toArray) cs, by simp [putCells], fun j hj => ?_, fun i x hx => ?_, ?_⟩
  · rw [hget, if_neg (by omega)]
  · have hi : i < (srt l).length := (List.getElem?_eq_some_iff.1 hx).1
    have hxe : (srt l)[i] = x := (List.getElem?_eq_some_iff.1 hx).2
    constructor
    · rw [hput (2 * i) (by omega), flatR (srt l) (2 * i) (by omega)]
      have e1 : 2 * i / 2 = i := by omega
      have e2 : 2 * i % 2 = 0 := by omega
      simp only [e1, e2, hxe]; rfl
    · rw [hput (2 * i + 1) (by omega), flatR (srt l) (2 * i + 1) (by omega)]
      have e1 : (2 * i + 1) / 2 = i := by omega
      have e2 : (2 * i + 1) % 2 = 1 := by omega
      simp only [e1, e2, hxe]; rfl
  · refine ⟨rfl, rfl, rfl, by simp [sortWorldK, putRowK, putRow, mapBlock, grow, Sort.ahead], fun k hk => ?_⟩
    simp only [sortWorldK, putRowK, putRow, mapBlock, grow, Sort.ahead, Go.V.wput]
    rw [Array.getElem?_append_left (by simpa using hk), Array.getElem?_modify]
    by_cases hbk : b = k
    · subst hbk
      rw [if_pos rfl, hw, Array.getElem?_setIfInBounds_self_of_lt hk]; rfl
    · rw [if_neg hbk, Array.getElem?_setIfInBounds_ne hbk]
end Go.Proofs.YtappgjdiplibbaaGreat
