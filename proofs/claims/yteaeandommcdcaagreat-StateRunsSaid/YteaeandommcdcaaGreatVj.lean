/-
  Rows of cells: reading, writing, making.
-/
import Derived.Test.YteaeandommcdcaaGreatVi
namespace Go.V
set_option linter.unusedSimpArgs false
set_option linter.unusedVariables false
set_option linter.unusedSectionVars false
set_option linter.unnecessarySimpa false
open Go.RowKit

theorem CellsAt.append {w : World} {x : X} {b o : Nat} {l r : List D} (h : CellsAt w x b o l) (g : CellsAt w x b (o + l.length) r) : CellsAt w x b o (l ++ r) := by
  intro j d hd
  rw [List.getElem?_append] at hd
  split at hd
  · exact h j d hd
  · have := g _ d hd
    rwa [show o + l.length + (j - l.length) = o + j by omega] at this

theorem CellsAt.nil {w : World} {x : X} {b o : Nat} : CellsAt w x b o [] := by intro j d hd; simp at hd

theorem cellsAt_flat {w : World} {x : X} {b s : Nat} : ∀ (es : List D) (off : Nat), (∀ (i : Nat) e, es[i]? = some e → e.cells.length = s) → (∀ (i : Nat) e, es[i]? = some e → CellsAt w x b (off + i * s) e.cells) →
    CellsAt w x b off (es.flatMap D.cells) ∧ (es.flatMap D.cells).length = es.length * s
  | [], off, _, _ => ⟨.nil, by simp⟩
  | e :: es, off, hs, hc => by
    have h0 := hc 0 e rfl
    have hl := hs 0 e rfl
    obtain ⟨h1, h2⟩ := cellsAt_flat es (off + s) (fun i e' he => hs (i + 1) e' he) (fun i e' he => by
      have := hc (i + 1) e' he
      rwa [show off + (i + 1) * s = off + s + i * s by rw [Nat.add_mul]; omega] at this)
    simp only [List.flatMap_cons, List.length_append, List.length_cons]
    refine ⟨CellsAt.append (by simpa using h0) (by rw [hl]; exact h1), ?_⟩
    rw [h2, hl, Nat.add_mul]; omega

theorem CellsAt.lr {w : World} {x : X} {b o : Nat} {c : List D} (h : CellsAt w x b o c) (P : Program) : ∃ us : List Value, (loadCells ⟨b, o, none⟩ c.length).run P w = .ok us.toArray w ∧ LR w x c us := by
  obtain ⟨us, h1, h2, h3, h4⟩ := h.list
  exact ⟨us, by rw [← h1]; exact run_loadRow h2, h1.symm, h3, h4⟩

theorem run_load0 {P : Program} {w : World} (a : Addr) : (loadCells a 0).run P w = .ok #[] w := rfl

theorem bytes_lr (w : World) (x : X) (l : List UInt8) : LR w x (l.map fun b => .int .u8 b.toNat) (l.map fun b => .int .u8 b.toNat) := by
  refine ⟨by simp, fun u hu => ?_, fun i c u hc hu => ?_⟩
  · obtain ⟨b, _, rfl⟩ := List.mem_map.1 hu; rfl
  · simp only [List.getElem?_map] at hc hu
    cases hb : l[i]? with
    | none => simp [hb] at hc
    | some b => simp [hb] at hc hu; subst hc; subst hu; exact .im _ _ (.int _ _)

theorem LR.take {w : World} {x : X} {cs : List D} {us : List Value} (h : LR w x cs us) (n : Nat) : LR w x (cs.take n) (us.take n) :=
  ⟨by simp [h.len], fun u hu => h.one u (List.mem_of_mem_take hu), fun i c u hc hu => by
    rw [List.getElem?_take] at hc hu
    split at hc
    · rename_i hi; rw [if_pos hi] at hu; exact h.rel i c u hc hu
    · cases hc⟩

theorem LR.append {w : World} {x : X} {cs ds : List D} {us vs : List Value} (h : LR w x cs us) (g : LR w x ds vs) : LR w x (cs ++ ds) (us ++ vs) :=
  ⟨by simp [h.len, g.len], fun u hu => (List.mem_append.1 hu).elim (h.one u) (g.one u), fun i c u hc hu => by
    rw [List.getElem?_append] at hc hu
    split at hc
    · rename_i hi; rw [if_pos (by rw [← h.len]; exact hi)] at hu; exact h.rel i c u hc hu
    · rename_i hi; rw [if_neg (by rw [← h.len]; exact hi)] at hu; rw [← h.len] at hu; exact g.rel _ c u hc hu⟩

/-- what V reads as a row is the model's row -/
theorem row_ok {P : Program} {w : World} {st : St} {β : Nat → Option (Nat × Nat)} {Z : Nat → Prop} (h : Sim w st β Z) {d : D} {v : Value} {n : Nat} {ys : List D} (hv : VR w (st.x β Z) d v) (hr : rowD st d = some (n, ys)) :
    (Builtin.lenOf v).run P w = .ok n w ∧ ∀ s m, m ≤ n → ys.length = n * s → ∃ us : List Value, (Builtin.firstCells s m v).run P w = .ok us.toArray w ∧ LR w (st.x β Z) (ys.take (m * s)) us := by
  unfold rowD at hr
  split at hr
  · rename_i es
    cases hr
    obtain ⟨a, cap, rfl, hc, hes⟩ := vr_sl hv
    refine ⟨rfl, fun s m hm hs => ?_⟩
    rcases hes with rfl | ⟨b, off, s0, rfl, hz, hst, hcl, _⟩
    · have hm0 : m = 0 := by simpa using hm
      subst hm0
      refine ⟨[], ?_, ⟨by simp, by simp, by simp⟩⟩
      cases a with
      | none => simp [Builtin.firstCells]
      | some a => simp [Builtin.firstCells, run_load0]
    · obtain ⟨h1, h2⟩ := cellsAt_flat es off (fun i e he => (hst i e he).2) hcl
      by_cases h0 : es.length = 0
      · have hm0 : m = 0 := by omega
        subst hm0
        exact ⟨[], by simp [Builtin.firstCells, run_load0], ⟨by simp, by simp, by simp⟩⟩
      · have hss : s0 = s := Nat.eq_of_mul_eq_mul_left (by omega) (h2.symm.trans hs)
        subst hss
        obtain ⟨us, hu1, hu2⟩ := (h1.take (m * s0)).lr P
        have hle : m * s0 ≤ (es.flatMap D.cells).length := by rw [h2]; exact Nat.mul_le_mul_right _ hm
        rw [List.length_take, Nat.min_eq_left hle] at hu1
        exact ⟨us, hu1, hu2⟩
  · cases hr
    rw [vr_nul hv]
    refine ⟨rfl, fun s m hm hs => ⟨[], by simp [Builtin.firstCells], ⟨by simp, by simp, by simp⟩⟩⟩
  · rename_i k ver off len sz
    obtain ⟨⟨a, c⟩, hm, hr⟩ := Option.bind_eq_some_iff.1 hr
    dsimp only at hr
    split at hr
    · rename_i hle
      cases hr
      obtain ⟨ad, cap, rfl, hc, hk, _, hat⟩ := vr_win hv
      obtain ⟨b, base, sz', hb, hsz, had⟩ := hat (mem_spec hm).2
      have hcl := ((h.cells hm hb).drop off).take (n * sz)
      have hlen : ((c.drop off).take (n * sz)).length = n * sz := by simp; omega
      refine ⟨rfl, fun s m hmn hs => ?_⟩
      rcases had with rfl | ⟨rfl, _⟩
      · have hm0 : m = 0 := by omega
        subst hm0
        exact ⟨[], by simp [Builtin.firstCells, run_load0], ⟨by simp, by simp, by simp⟩⟩
      · obtain ⟨us, hu1, hu2⟩ := (hcl.take (m * s)).lr P
        have hle : m * s ≤ ((c.drop off).take (n * sz)).length := by rw [hs]; exact Nat.mul_le_mul_right _ hmn
        rw [List.length_take, Nat.min_eq_left hle] at hu1
        exact ⟨us, hu1, hu2⟩
    · cases hr
  · rename_i l
    cases hr
    rw [vr_str hv]
    refine ⟨by simp [Builtin.lenOf, ByteArray.size], fun s m hm hs => ?_⟩
    simp only [List.length_map] at hs
    by_cases h0 : l.length = 0
    · have hm0 : m = 0 := by omega
      subst hm0
      have hl : l = [] := List.length_eq_zero_iff.1 h0
      subst hl
      exact ⟨[], by simp [Builtin.firstCells], ⟨by simp, by simp, by simp⟩⟩
    · have hss : s = 1 := by
        have : l.length * 1 = l.length * s := by omega
        exact (Nat.eq_of_mul_eq_mul_left (by omega) this).symm
      subst hss
      refine ⟨(l.take m).map fun b => .int .u8 b.toNat, ?_, ?_⟩
      · simp only [Builtin.firstCells, Sem.run_pure]
        congr 1
        apply Array.ext'
        simp [ByteArray.data_extract]
      · have := (bytes_lr w (st.x β Z) l).take (m * 1)
        simpa [← List.map_take] using this
  · cases hr

/-- cells of the model's, written over -/
def setV (c : Array Value) (off : Nat) : List Value → Array Value
  | [] => c
  | v :: vs => setV (c.setIfInBounds off v) (off + 1) vs

theorem setV_size : ∀ (vs : List Value) (c : Array Value) (off : Nat), (setV c off vs).size = c.size
  | [], c, off => rfl
  | v :: vs, c, off => by simp only [setV]; rw [setV_size vs]; simp

theorem setV_get : ∀ (vs : List Value) (c : Array Value) (off j : Nat), off + vs.length ≤ c.size → (setV c off vs)[j]? = if off ≤ j ∧ j < off + vs.length then vs[j - off]? else c[j]?
  | [], c, off, j, _ => by simp only [setV, List.length_nil, Nat.add_zero]; rw [if_neg (by omega)]
  | v :: vs, c, off, j, h => by
    simp only [List.length_cons] at h
    simp only [setV, List.length_cons]
    rw [setV_get vs _ (off + 1) j (by simp; omega)]
    by_cases h1 : off + 1 ≤ j ∧ j < off + 1 + vs.length
    · rw [if_pos h1, if_pos (by omega), show j - off = (j - (off + 1)) + 1 by omega, List.getElem?_cons_succ]
    · rw [if_neg h1]
      by_cases h2 : j = off
      · subst h2; rw [if_pos (by omega), Nat.sub_self, Array.getElem?_setIfInBounds_self_of_lt (by omega)]; rfl
      · rw [if_neg (by omega), Array.getElem?_setIfInBounds_ne (by omega)]

theorem run_storeRow {P : Program} {b : Nat} {el : TypeId} {fr : Nat × Nat} : ∀ (vs : List Value) (i o : Nat) (w : World) (c : Array Value), w.heap[b]? = some (.cells c el fr) → o + i + vs.length ≤ c.size → (∀ q, q < c.size → ¬ (fr.1 ≤ q ∧ q < fr.2)) →
    (∀ v ∈ vs, v.oneCell' = true) → (storeCells ⟨b, o, none⟩ vs i).run P w = .ok () (match vs with | [] => w | _ => wput w b (.cells (setV c (o + i) vs) el fr))
  | [], i, o, w, c, _, _, _, _ => rfl
  | v :: vs, i, o, w, c, hw, hl, hf, h1 => by
    simp only [List.length_cons] at hl
    have hadd : (⟨b, o, none⟩ : Addr).add i = ⟨b, o + i, none⟩ := by
      unfold Addr.add; split
      · rename_i e; subst e; rfl
      · rfl
    have hcell : w.cell? ⟨b, o + i, none⟩ = some (c[o + i]'(by omega)) := by
      simp [World.cell?, hw, Array.getElem?_eq_getElem (show o + i < c.size by omega)]
    have hfr : w.frozen? ⟨b, o + i, none⟩ = false := by
      have := hf (o + i) (by omega)
      simp only [World.frozen?, hw]
      simp only [Bool.and_eq_false_iff, decide_eq_false_iff_not]
      omega
    have hset : w.setCell ⟨b, o + i, none⟩ v = wput w b (.cells (c.setIfInBounds (o + i) v) el fr) := by
      simp only [World.setCell, wput]
      congr 1
      apply Array.ext_getElem?
      intro j
      rw [Array.getElem?_modify]
      by_cases hj : b = j
      · subst hj
        have hb : b < w.heap.size := by
          rcases Nat.lt_or_ge b w.heap.size with h' | h'
          · exact h'
          · rw [Array.getElem?_eq_none h'] at hw; cases hw
        rw [if_pos rfl, hw, Array.getElem?_setIfInBounds_self_of_lt hb]
        simp
      · rw [if_neg hj, Array.getElem?_setIfInBounds_ne hj]
    have hb : b < w.heap.size := by
      rcases Nat.lt_or_ge b w.heap.size with h' | h'
      · exact h'
      · rw [Array.getElem?_eq_none h'] at hw; cases hw
    have hw' : (wput w b (.cells (c.setIfInBounds (o + i) v) el fr)).heap[b]? = some (.cells (c.setIfInBounds (o + i) v) el fr) := by
      simp only [wput]; rw [Array.getElem?_setIfInBounds_self_of_lt hb]
    have ih := run_storeRow (P := P) vs (i + 1) o (wput w b (.cells (c.setIfInBounds (o + i) v) el fr)) _ hw' (by simp; omega) (by simpa using hf) (fun u hu => h1 u (List.mem_cons_of_mem _ hu))
    simp only [storeCells, Sem.run_bind, hadd, run_store P w _ v .plain (h1 v (List.mem_cons_self ..)), hcell, hfr, Bool.false_eq_true, if_false, Result.andThen_ok, hset, ih]
    cases vs with
    | nil => simp [setV]
    | cons v' vs =>
      simp only [setV]
      congr 1
      simp [wput, show o + (i + 1) = o + i + 1 by omega]
end Go.V
