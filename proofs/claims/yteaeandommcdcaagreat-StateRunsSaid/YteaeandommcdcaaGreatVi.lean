/-
  The operations that make values and memory.
-/
import Derived.Test.YteaeandommcdcaaGreatVh
namespace Go.V
set_option linter.unusedSimpArgs false
set_option linter.unusedVariables false
set_option linter.unusedSectionVars false
set_option linter.unnecessarySimpa false
open Go.RowKit

/-- lists of cells -/
structure LR (w : World) (x : X) (cs : List D) (us : List Value) : Prop where
  len : cs.length = us.length
  one : ∀ u ∈ us, u.oneCell' = true
  rel : ∀ (i : Nat) c u, cs[i]? = some c → us[i]? = some u → VR w x c u

theorem LR.mono {w w' : World} {x x' : X} {cs : List D} {us : List Value} (h : LR w x cs us) (hk : Keeps w x w' x') : LR w' x' cs us :=
  ⟨h.len, h.one, fun i c u hc hu => (h.rel i c u hc hu).mono hk⟩

theorem LR.at_ {w : World} {x : X} {cs : List D} {us : List Value} (h : LR w x cs us) {j : Nat} {d : D} (hd : cs[j]? = some d) : ∃ u, us[j]? = some u ∧ u.oneCell' = true ∧ VR w x d u := by
  have hj : j < cs.length := by
    rcases Nat.lt_or_ge j cs.length with h' | h'
    · exact h'
    · rw [List.getElem?_eq_none h'] at hd; cases hd
  have hj' : j < us.length := by rw [← h.len]; exact hj
  exact ⟨us[j], List.getElem?_eq_getElem hj', h.one _ (List.getElem_mem hj'), h.rel j d _ hd (List.getElem?_eq_getElem hj')⟩

theorem LR.agg {w : World} {x : X} {cs : List D} {us : List Value} (h : LR w x cs us) : VR w x (.agg cs) (.agg us.toArray) := .agg cs us h.len h.one h.rel

theorem vr_aggL {w : World} {x : X} {cs : List D} {v : Value} (h : VR w x (.agg cs) v) : ∃ us : List Value, v = .agg us.toArray ∧ LR w x cs us := by
  obtain ⟨us, rfl, h1, h2, h3⟩ := vr_agg h
  exact ⟨us, rfl, h1, h2, h3⟩

/-- the cells of a value -/
theorem cells_ok {w : World} {x : X} {d : D} {v : Value} {cs : List D} (h : VR w x d v) (hc : d.cells? = some cs) : LR w x cs v.cells.toList := by
  have one : ∀ u : Value, u.oneCell' = true → v = u → cs = [d] → LR w x cs v.cells.toList := by
    intro u hu e hcs
    subst e; subst hcs
    have : v.cells.toList = [v] := by cases v <;> first | rfl | simp [Value.oneCell'] at hu
    rw [this]
    refine ⟨rfl, by simpa using hu, fun i c u hc hu => ?_⟩
    cases i with
    | zero => simp at hc hu; subst hc; subst hu; exact h
    | succ i => simp at hc
  cases d with
  | agg l =>
    cases hc
    obtain ⟨us, rfl, hl⟩ := vr_aggL h
    simpa [Value.cells] using hl
  | tup l => cases hc
  | junk => cases hc
  | bool b => cases hc; exact one _ rfl (vr_bool h) rfl
  | int k n => cases hc; exact one _ rfl (vr_int h) rfl
  | str s => cases hc; exact one _ rfl (vr_str h) rfl
  | nul => cases hc; exact one _ rfl (vr_nul h) rfl
  | pnil => cases hc; exact one _ rfl (vr_pnil h) rfl
  | sl es => cases hc; obtain ⟨_, _, e, _⟩ := vr_sl h; exact one _ rfl e rfl
  | win k v o l s => cases hc; obtain ⟨_, _, e, _⟩ := vr_win h; exact one _ rfl e rfl
  | ptr k v o => cases hc; obtain ⟨_, e, _⟩ := vr_pointer h; exact one _ rfl e rfl
  | mp k => cases hc; obtain ⟨_, e, _⟩ := vr_mp h; exact one _ rfl e rfl
  | ep c => cases hc; obtain ⟨_, _, e, _⟩ := vr_ep h; exact one _ rfl e rfl
  | fn f c => cases hc; obtain ⟨_, e, _⟩ := vr_fn h; exact one _ rfl e rfl
  | nilfn => cases hc; exact one .nilFunc rfl (by cases h with | im _ _ h => cases h; rfl) rfl
  | nilif => cases hc; exact one .nilIface rfl (by cases h with | im _ _ h => cases h; rfl) rfl

theorem cells_of {d : D} {cs : List D} (h : d.cells? = some cs) : d.cells = cs := by cases d <;> simp [D.cells?, D.cells] at * <;> exact h

/-- the model's fill, place by place -/
theorem foldl_set (off : Nat) : ∀ (l : List Value) (n : Nat) (cells : Array Value) (k : Nat), off + n + l.length ≤ cells.size →
    ((l.zipIdx n).foldl (fun cs (p : Value × Nat) => cs.setIfInBounds (off + p.2) p.1) cells)[k]? = if off + n ≤ k ∧ k < off + n + l.length then l[k - (off + n)]? else cells[k]?
  | [], n, cells, k, _ => by simp only [List.zipIdx_nil, List.foldl_nil, List.length_nil, Nat.add_zero]; rw [if_neg (by omega)]
  | v :: l, n, cells, k, h => by
    simp only [List.length_cons] at h
    simp only [List.zipIdx_cons, List.foldl_cons]
    rw [foldl_set off l (n + 1) _ k (by simp; omega)]
    simp only [List.length_cons]
    by_cases h1 : off + (n + 1) ≤ k ∧ k < off + (n + 1) + l.length
    · rw [if_pos h1, if_pos (by omega), show k - (off + n) = (k - (off + (n + 1))) + 1 by omega, List.getElem?_cons_succ]
    · rw [if_neg h1]
      by_cases h2 : k = off + n
      · subst h2
        rw [if_pos (by omega), Nat.sub_self, Array.getElem?_setIfInBounds_self_of_lt (by omega)]; rfl
      · rw [if_neg (by omega), Array.getElem?_setIfInBounds_ne (by omega)]

theorem foldl_size (off : Nat) : ∀ (l : List (Value × Nat)) (cells : Array Value), (l.foldl (fun cs (p : Value × Nat) => cs.setIfInBounds (off + p.2) p.1) cells).size = cells.size
  | [], cells => rfl
  | p :: l, cells => by simp only [List.foldl_cons]; rw [foldl_size off l]; simp

theorem zip_fold (off : Nat) (c cells : Array Value) : (c.zipIdx.foldl (fun cs (c, j) => cs.setIfInBounds (off + j) c) cells) = ((c.toList.zipIdx 0).foldl (fun cs (p : Value × Nat) => cs.setIfInBounds (off + p.2) p.1) cells) := by
  rw [← Array.foldl_toList, Array.toList_zipIdx]

theorem LR.setMany {w : World} {x : X} {cs ds : List D} {us vs : List Value} (h : LR w x cs us) (g : LR w x ds vs) (off : Nat) (hl : off + ds.length ≤ cs.length) :
    LR w x (setMany cs off ds) (((vs.zipIdx 0).foldl (fun (cs : Array Value) (p : Value × Nat) => cs.setIfInBounds (off + p.2) p.1) us.toArray)).toList := by
  have hg := fun k => foldl_set off vs 0 us.toArray k (by simp; have := h.len; have := g.len; omega)
  simp only [Nat.add_zero] at hg
  have hs := foldl_size off (vs.zipIdx 0) us.toArray
  have hgl : ∀ k u, ((((vs.zipIdx 0).foldl (fun (cs : Array Value) (p : Value × Nat) => cs.setIfInBounds (off + p.2) p.1) us.toArray)).toList)[k]? = some u →
      (off ≤ k ∧ k < off + vs.length ∧ vs[k - off]? = some u) ∨ (¬ (off ≤ k ∧ k < off + vs.length) ∧ us[k]? = some u) := by
    intro k u hk
    rw [Array.getElem?_toList, hg k] at hk
    split at hk
    · rename_i hc; exact .inl ⟨hc.1, hc.2, hk⟩
    · rename_i hc; exact .inr ⟨hc, by simpa using hk⟩
  refine ⟨?_, fun u hu => ?_, fun i c u hc hu => ?_⟩
  · exact (setMany_length ds cs off).trans (h.len.trans (List.size_toArray.symm.trans (hs.symm.trans Array.length_toList.symm)))
  · obtain ⟨k, hk⟩ := List.getElem?_of_mem hu
    rcases hgl k u hk with ⟨_, _, h'⟩ | ⟨_, h'⟩
    · exact g.one u (List.mem_of_getElem? h')
    · exact h.one u (List.mem_of_getElem? h')
  · rw [setMany_get ds cs off i hl] at hc
    rcases hgl i u hu with ⟨h1, h2, h'⟩ | ⟨h1, h'⟩
    · rw [if_pos ⟨h1, by rw [g.len]; exact h2⟩] at hc
      exact g.rel _ c u hc h'
    · rw [if_neg (by rw [g.len]; exact h1)] at hc
      exact h.rel _ c u hc h'

theorem fill_ok {w : World} {x : X} {place place' : Nat → Option (Nat × Nat)} (hp : ∀ i r, place i = some r → place' i = some r) : ∀ (parts : List (Nat × D)) (parts' : List (Nat × Value)) {cs r : List D} {us : List Value},
    parts.length = parts'.length → (∀ (i : Nat) p q, parts[i]? = some p → parts'[i]? = some q → p.1 = q.1 ∧ VR w x p.2 q.2) → LR w x cs us → fillD place cs parts = some r →
    ∃ rs : List Value, Instr.fill place' us.toArray parts' = some rs.toArray ∧ LR w x r rs
  | [], [], cs, r, us, _, _, h, hf => by simp [fillD] at hf; subst hf; exact ⟨us, rfl, h⟩
  | [], _ :: _, _, _, _, hl, _, _, _ => by simp at hl
  | _ :: _, [], _, _, _, hl, _, _, _ => by simp at hl
  | (i, d) :: parts, (i', v) :: parts', cs, r, us, hl, hr, h, hf => by
    obtain ⟨rfl, hv⟩ := hr 0 _ _ rfl rfl
    simp only [fillD] at hf
    split at hf
    · rename_i off size ds hpl hcs
      split at hf
      · cases hf
      · rename_i hn
        have hds := cells_ok hv hcs
        simp only [not_or] at hn
        obtain ⟨hn1, hn2⟩ := hn
        have hn1 : ds.length = size := Decidable.not_not.1 hn1
        have hlen : off + ds.length ≤ cs.length := by omega
        have hsz : v.cells.size = ds.length := by rw [hds.len]; simp
        obtain ⟨rs, h1, h2⟩ := fill_ok hp parts parts' (by simpa using hl) (fun j p q hp hq => hr (j + 1) p q hp hq) (h.setMany hds off hlen) hf
        refine ⟨rs, ?_, h2⟩
        simp only [Instr.fill, hp _ _ hpl]
        rw [if_neg (by simp [hsz, hn1]; have := h.len; omega), zip_fold]
        simpa using h1
    · cases hf

section
variable {pv : Pv} {P : Program} (ok : pv.Ok P)
include ok

theorem places_ok (w : World) : ∀ (fs : List Field) {ps : List (Nat × Nat)}, placesD pv fs = some ps → (fs.mapM (fun f => (do pure (f.offset, ← sizeOf f.type) : Sem (Nat × Nat)))).run P w = .ok ps w
  | [], ps, h => by simp [placesD] at h; subst h; simp
  | f :: fs, ps, h => by
    simp only [placesD] at h
    split at h
    · rename_i s hs
      split at h
      · rename_i r hr
        cases h
        have := places_ok w fs hr
        simp only [List.mapM_cons, Sem.run_bind, run_size ok hs, Result.andThen_ok, Sem.run_pure]
        rw [this]
        rfl
      · cases h
    · cases h

theorem zero_cells (w : World) (x : X) {t : Nat} {cs : List D} (h : zeroC pv t = some cs) : ∃ v, (zeroValue t).run P w = .ok v w ∧ LR w x cs v.cells.toList := by
  unfold zeroC at h
  split at h
  · rename_i z hz
    obtain ⟨v, hv, rfl⟩ := run_zero ok hz w
    exact ⟨v, hv, cells_ok (.im _ _ (ofVal_ir _ _ v)) h⟩
  · cases h

theorem build_ok {w : World} {x : X} {t : Nat} {parts : List (Nat × D)} {parts' : List (Nat × Value)} {d : D} (hl : parts.length = parts'.length)
    (hr : ∀ (i : Nat) p q, parts[i]? = some p → parts'[i]? = some q → p.1 = q.1 ∧ VR w x p.2 q.2) (h : buildD pv t parts = some d) :
    ∃ v, (Instr.build t parts'.toArray).run P w = .ok v w ∧ VR w x d v := by
  unfold buildD at h
  split at h
  · rename_i z hz
    obtain ⟨v, hv, hc⟩ := zero_cells ok w x hz
    have base : ∀ {r : List D} {place place' : Nat → Option (Nat × Nat)}, (∀ i r, place i = some r → place' i = some r) → fillD place z parts = some r →
        ∃ rs : List Value, Instr.fill place' v.cells parts' = some rs.toArray ∧ LR w x r rs := by
      intro r place place' hp hf
      obtain ⟨rs, h2, h3⟩ := fill_ok hp parts parts' hl hr hc hf
      exact ⟨rs, by simpa using h2, h3⟩
    split at h
    · rename_i fields hu
      split at h
      · rename_i ps hps
        obtain ⟨r, hf, rfl⟩ := Option.map_eq_some_iff.1 h
        obtain ⟨rs, h1, h2⟩ := base (place' := fun i => ps[i]?) (by simp) hf
        refine ⟨.agg rs.toArray, ?_, h2.agg⟩
        have hm := places_ok ok w _ hps
        simp only [Instr.build, Sem.run_bind, hv, Result.andThen_ok, run_und ok hu, Array.mapM_eq_mapM_toList, Sem.run_map]
        rw [hm]
        simp [h1]
      · cases h
    · rename_i n e hu
      split at h
      · rename_i s hs
        obtain ⟨r, hf, rfl⟩ := Option.map_eq_some_iff.1 h
        obtain ⟨rs, h1, h2⟩ := base (place' := fun i => some (i * s, s)) (by simp) hf
        refine ⟨.agg rs.toArray, ?_, h2.agg⟩
        simp [Instr.build, hv, run_und ok hu, run_size ok hs, h1]
      · cases h
    · cases h
  · cases h
end
end Go.V
