/-
  What makes new memory: variables, literals, make, text to bytes; iterators.
-/
import Derived.Test.YteaeandommcdcaaGreatVm
namespace Go.V
set_option linter.unusedSimpArgs false
set_option linter.unusedVariables false
set_option linter.unusedSectionVars false
set_option linter.unnecessarySimpa false
open Go.RowKit

theorem wrap_small {n : Int} (h0 : 0 ≤ n) (h1 : n ≤ 9223372036854775807) : IntKind.i64.wrap n = n := by
  rw [← wrapD_eq]
  obtain ⟨m, rfl⟩ := Int.eq_ofNat_of_zero_le h0
  have : Nat.ble m (maxN .i64) = true := Nat.ble_eq_true_of_le (by simp [maxN]; omega)
  simp [wrapD, this]

theorem repl_len (z : List D) : ∀ n, (repl n z).length = n * z.length
  | 0 => by simp [repl]
  | n + 1 => by
    have := repl_len z n
    simp only [repl, List.replicate_succ, List.flatten_cons, List.length_append] at *
    rw [this, Nat.add_mul]; omega

theorem repl_get (z : List D) : ∀ (n j : Nat), j < n * z.length → (repl n z)[j]? = z[j % z.length]?
  | 0, j, h => by simp at h
  | n + 1, j, h => by
    have ih := repl_get z n
    simp only [repl, List.replicate_succ, List.flatten_cons] at *
    rw [List.getElem?_append]
    split
    · rename_i hj; rw [Nat.mod_eq_of_lt hj]
    · rename_i hj
      rw [Nat.add_mul] at h
      rw [ih _ (by omega), ← Nat.mod_eq_sub_mod (by omega)]

/-- nothing that was there is written -/
def Quiet (w w' : World) : Prop := ∀ b, b < w.heap.size → w'.heap[b]? = w.heap[b]?

theorem Quiet.refl (w : World) : Quiet w w := fun _ _ => rfl

theorem Quiet.push {w w' : World} {o : Obj} (h : w'.heap = w.heap.push o) : Quiet w w' := fun b hb => by rw [h, Array.getElem?_push, if_neg (by omega)]

/-- the model's row of zero values -/
theorem zeros_lr {w : World} {x : X} {s : Nat} {z : List D} {us : List Value} (h : LR w x z us) (n m : Nat) (hm : m ≤ n) (hz : us.length = s) (cells : Array Value) (hc : cells = (Array.range (n * s)).map (us.toArray[· % us.toArray.size]!)) :
    cells.size = n * s ∧ ∀ (j : Nat) d, (repl m z)[j]? = some d → ∃ u, cells[j]? = some u ∧ u.oneCell' = true ∧ VR w x d u := by
  subst hc
  refine ⟨by simp, fun j d hd => ?_⟩
  have hj : j < m * z.length := by
    rcases Nat.lt_or_ge j (m * z.length) with h' | h'
    · exact h'
    · rw [List.getElem?_eq_none (by rw [repl_len]; exact h')] at hd; cases hd
  rw [repl_get z m j hj] at hd
  obtain ⟨u, hu1, hu2, hu3⟩ := h.at_ hd
  have hl := h.len
  have hj' : j < n * s := by
    have := Nat.mul_le_mul_right z.length hm
    rw [← hz, ← hl]; omega
  refine ⟨u, ?_, hu2, hu3⟩
  have hu1' : us[j % us.length]? = some u := by rw [← hl]; exact hu1
  have hlt : j % us.length < us.length := by
    rcases Nat.lt_or_ge (j % us.length) us.length with h' | h'
    · exact h'
    · rw [List.getElem?_eq_none h'] at hu1'; cases hu1'
  rw [List.getElem?_eq_getElem hlt] at hu1'
  simp only [Option.some.injEq] at hu1'
  simp [hj', hlt, hu1']

section
variable {pv : Pv} {P : Program} (ok : pv.Ok P)
include ok

omit ok in
/-- a variable of its own -/
theorem new_ok {w : World} {st : St} {β : Nat → Option (Nat × Nat)} {Z : Nat → Prop} (h : Sim w st β Z) {cs : List D} {v : Value} (hv : LR w (st.x β Z) cs v.cells.toList) (e : TypeId) :
    ∃ z w' β', ((do pure (.pointer (some (← newVar e v))) : Sem Value)).run P w = .ok z w' ∧ Nx w st β Z w' (st.push (.mem 0 false cs)) β' Z ∧ VR w' ((st.push (.mem 0 false cs)).x β' Z) (.ptr st.bs.length 0 0) z ∧ Quiet w w' := by
  obtain ⟨hx, h1, h2, h3⟩ := Nx.push_mem (w' := w.alloc (.cells v.cells e)) h false cs v.cells e (0, 0) rfl rfl rfl rfl (by rw [hv.len]; simp) (FrOk.zero _) (fun j d hd => by
    obtain ⟨u, hu1, hu2, hu3⟩ := hv.at_ hd
    exact ⟨u, by simpa using hu1, hu2, hu3⟩)
  refine ⟨.pointer (some ⟨w.heap.size, 0, none⟩), _, _, ?_, hx, ?_, Quiet.push rfl⟩
  · simp only [newVar, newRow, Sem.run_bind, run_newObj, Result.andThen_ok, Sem.run_pure]; rfl
  · refine .ptr _ _ _ _ ⟨_, by simp [St.x, bpush]; rfl⟩ (fun c hc => ?_) fun _ => ⟨w.heap.size, 0, by simp [St.x, bpush], rfl⟩
    simp only [St.x] at hc; rw [h2] at hc; cases hc; exact Nat.le_refl _

theorem alloc_ok {w : World} {st : St} {β : Nat → Option (Nat × Nat)} {Z : Nat → Prop} (h : Sim w st β Z) {e : Nat} {cs : List D} (hz : zeroC pv e = some cs) :
    ∃ z w' β', (Instr.alloc e true (.tuple #[])).run P w = .ok z w' ∧ Nx w st β Z w' (st.push (.mem 0 false cs)) β' Z ∧ VR w' ((st.push (.mem 0 false cs)).x β' Z) (.ptr st.bs.length 0 0) z ∧ Quiet w w' := by
  obtain ⟨v, hv, hc⟩ := zero_cells ok w (st.x β Z) hz
  obtain ⟨z, w', β', h1, h2, h3, h4⟩ := new_ok (P := P) h hc e
  refine ⟨z, w', β', ?_, h2, h3, h4⟩
  simp only [Instr.alloc, Sem.run_bind, hv, Result.andThen_ok] at *
  exact h1

theorem buildSlice_ok {w : World} {st st' : St} {β : Nat → Option (Nat × Nat)} {Z : Nat → Prop} (h : Sim w st β Z) {t len : Nat} {parts : List (Nat × D)} {parts' : List (Nat × Value)} {r : D} (hl : parts.length = parts'.length)
    (hr : ∀ (i : Nat) p q, parts[i]? = some p → parts'[i]? = some q → p.1 = q.1 ∧ VR w (st.x β Z) p.2 q.2) (hs : buildSliceD pv t len parts st = some (r, st')) :
    ∃ z w' β', (Instr.buildSlice t len parts'.toArray).run P w = .ok z w' ∧ Nx w st β Z w' st' β' Z ∧ VR w' (st'.x β' Z) r z ∧ Quiet w w' := by
  unfold buildSliceD at hs
  split at hs
  · rename_i e ht
    obtain ⟨s, hsz, hs⟩ := Option.bind_eq_some_iff.1 hs
    obtain ⟨z, hz, hs⟩ := Option.bind_eq_some_iff.1 hs
    split at hs
    · rename_i hck
      obtain ⟨hzl, hbig⟩ := hck
      obtain ⟨cs, hf, hs⟩ := Option.map_eq_some_iff.1 hs
      cases hs
      obtain ⟨v, hv, hc⟩ := zero_cells ok w (st.x β Z) hz
      have hvs : v.cells.toList.length = s := by rw [← hc.len, hzl]
      have hzero : ∃ us : List Value, (if len * s = 0 then #[] else v.cells : Array Value) = us.toArray ∧ ((Array.range (len * s)).map ((if len * s = 0 then #[] else v.cells : Array Value)[· % (if len * s = 0 then #[] else v.cells : Array Value).size]!)).toList.length = len * s ∧
          LR w (st.x β Z) (repl len z) ((Array.range (len * s)).map ((if len * s = 0 then #[] else v.cells : Array Value)[· % (if len * s = 0 then #[] else v.cells : Array Value).size]!)).toList := by
        by_cases h0 : len * s = 0
        · refine ⟨[], by simp [h0], by simp, ?_⟩
          have : repl len z = [] := List.length_eq_zero_iff.1 (by rw [repl_len, hzl]; exact h0)
          rw [this, h0]
          exact ⟨by simp, by simp, by simp⟩
        · obtain ⟨q1, q2⟩ := zeros_lr hc len len (Nat.le_refl _) hvs _ rfl
          simp only [h0, if_false]
          have e1 : v.cells.toList.toArray = v.cells := by simp
          rw [e1] at q1 q2
          refine ⟨v.cells.toList, by simp, by simp, ⟨by rw [repl_len, hzl]; simp, fun u hu => ?_, fun i c u hc' hu => ?_⟩⟩
          · obtain ⟨j, hj⟩ := List.getElem?_of_mem hu
            have hjl : j < len * s := by
              rcases Nat.lt_or_ge j (len * s) with h' | h'
              · exact h'
              · rw [List.getElem?_eq_none (by simpa using h')] at hj; cases hj
            obtain ⟨u', hu1, hu2, _⟩ := q2 j _ (List.getElem?_eq_getElem (by rw [repl_len, hzl]; exact hjl))
            rw [Array.getElem?_toList] at hj
            rw [hj] at hu1; cases hu1; exact hu2
          · obtain ⟨u', hu1, _, hu3⟩ := q2 i c hc'
            rw [Array.getElem?_toList] at hu
            rw [hu] at hu1; cases hu1; exact hu3
      obtain ⟨us, hus, _, hlr⟩ := hzero
      obtain ⟨rs, f1, f2⟩ := fill_ok (place' := fun i => some (i * s, s)) (fun _ _ e => e) parts parts' hl hr hlr hf
      have hcl : cs.length = len * s := by
        have hfl : ∀ (ps : List (Nat × D)) (a b : List D), fillD (fun i => some (i * s, s)) a ps = some b → b.length = a.length := by
          intro ps
          induction ps with
          | nil => intro a b e; simp [fillD] at e; rw [e]
          | cons p ps ih =>
            intro a b e
            obtain ⟨pi, pd⟩ := p
            simp only [fillD] at e
            split at e
            · split at e
              · cases e
              · rw [ih _ _ e, setMany_length]
            · cases e
        rw [hfl _ _ _ hf, repl_len, hzl]
      obtain ⟨hx, x1, x2, x3⟩ := Nx.push_mem (w' := w.alloc (.cells rs.toArray e)) h true cs rs.toArray e (0, 0) rfl rfl rfl rfl (by rw [f2.len]; simp) (FrOk.zero _) (fun j d hd => by
        obtain ⟨u, hu1, hu2, hu3⟩ := f2.at_ hd
        exact ⟨u, by simpa using hu1, hu2, hu3⟩)
      refine ⟨.slice (some ⟨w.heap.size, 0, none⟩) len len, _, _, ?_, hx, win_fresh x2 x3 x1 (Nat.le_refl _) (by simp only [List.size_toArray]; rw [← f2.len, hcl]; exact Nat.le_refl _), Quiet.push rfl⟩
      have hbig' : ¬ len * s > 2 ^ 24 := by omega
      simp only [Instr.buildSlice, Sem.run_bind, run_und ok ht, Result.andThen_ok, run_size ok hsz, Sem.run_ite, if_neg hbig', Sem.run_pure]
      by_cases h0 : len * s = 0
      · simp only [h0, if_true, Result.andThen_ok] at f1 ⊢
        simp only [Array.toArray_toList] at f1
        rw [f1]
        simp only [newRow, Sem.run_bind, run_newObj, Result.andThen_ok, Sem.run_pure]; rfl
      · simp only [h0, if_false, Result.andThen_ok, hv, Sem.run_bind] at f1 ⊢
        simp only [Array.toArray_toList] at f1
        rw [f1]
        simp only [newRow, Sem.run_bind, run_newObj, Result.andThen_ok, Sem.run_pure]; rfl
    · cases hs
  · cases hs

theorem makeSlice_ok {w : World} {st st' : St} {β : Nat → Option (Nat × Nat)} {Z : Nat → Prop} (h : Sim w st β Z) {t : Nat} {l c r : D} {u v : Value} (hu : VR w (st.x β Z) l u) (hv : VR w (st.x β Z) c v) (hs : makeSliceD pv t l c st = some (r, st')) :
    ∃ z w' β', (Instr.makeSlice t u v).run P w = .ok z w' ∧ Nx w st β Z w' st' β' Z ∧ VR w' (st'.x β' Z) r z ∧ Quiet w w' := by
  unfold makeSliceD at hs
  split at hs
  · rename_i e k l k' c ht
    obtain ⟨i, hi, hs⟩ := Option.bind_eq_some_iff.1 hs
    obtain ⟨z, hz, hs⟩ := Option.bind_eq_some_iff.1 hs
    split at hs
    · rename_i hck
      obtain ⟨hzl, hl0, hlc, hcb, hroom⟩ := hck
      cases hs
      rw [vr_int hu, vr_int hv]
      obtain ⟨zv, hzv, hzc⟩ := zero_cells ok w (st.x β Z) hz
      have hvs : zv.cells.toList.length = i.size := by rw [← hzc.len, hzl]
      have hwl : IntKind.i64.wrap l = l := wrap_small hl0 (by omega)
      have hwc : IntKind.i64.wrap c = c := wrap_small (by omega) hcb
      have hfin : ∃ cells : Array Value, cells = (Array.range (c.toNat * i.size)).map ((if c.toNat * i.size = 0 then #[] else zv.cells : Array Value)[· % (if c.toNat * i.size = 0 then #[] else zv.cells : Array Value).size]!) ∧ cells.size = c.toNat * i.size ∧
          ∀ (j : Nat) d, (repl l.toNat z)[j]? = some d → ∃ u, cells[j]? = some u ∧ u.oneCell' = true ∧ VR w (st.x β Z) d u := by
        refine ⟨_, rfl, by simp, ?_⟩
        by_cases h0 : c.toNat * i.size = 0
        · intro j d hd
          have : repl l.toNat z = [] := List.length_eq_zero_iff.1 (by
            rw [repl_len, hzl]
            have := Nat.mul_le_mul_right i.size (show l.toNat ≤ c.toNat by omega)
            omega)
          rw [this] at hd; simp at hd
        · simp only [h0, if_false]
          have := (zeros_lr hzc c.toNat l.toNat (by omega) hvs _ rfl).2
          simpa using this
      obtain ⟨cells, hcells, hsz, hrel⟩ := hfin
      have hlen : (repl l.toNat z).length ≤ cells.size := by
        rw [repl_len, hzl, hsz]; exact Nat.mul_le_mul_right _ (by omega)
      obtain ⟨hx, x1, x2, x3⟩ := Nx.push_mem (w' := w.alloc (.cells cells e)) h true (repl l.toNat z) cells e (0, 0) rfl rfl rfl rfl hlen (FrOk.zero _) hrel
      refine ⟨.slice (some ⟨w.heap.size, 0, none⟩) l.toNat c.toNat, _, _, ?_, hx, win_fresh x2 x3 x1 (by omega) (by rw [hsz]; exact Nat.le_refl _), Quiet.push rfl⟩
      have ht1 : (decide (c < 0) || decide ((i.bytes : Int) * c > 2 ^ 48)) = false := by
        have : ¬ c < 0 := by omega
        have h2 : (i.bytes : Int) * c = c * i.bytes := Int.mul_comm _ _
        simp only [this, decide_false, Bool.false_or, decide_eq_false_iff_not, h2]
        omega
      have hl1 : ¬ l < 0 := by omega
      have hl2 : ¬ l > c := by omega
      simp only [Instr.makeSlice, Sem.run_bind, run_und ok ht, Result.andThen_ok, asInt, asIntOf, Sem.run_pure, run_info ok hi, hwl, hwc, ht1, hl1, hl2, decide_false, Bool.or_self, Bool.false_eq_true, or_self, if_false, Sem.run_ite, run_askRoom, run_size ok (size_of_info hi)]
      by_cases h0 : c.toNat * i.size = 0
      · simp only [h0, if_true, Result.andThen_ok] at hcells ⊢
        simp only [newRow, Sem.run_bind, run_newObj, Result.andThen_ok, Sem.run_pure, hcells]; rfl
      · simp only [h0, if_false, Result.andThen_ok, hzv, Sem.run_bind] at hcells ⊢
        simp only [newRow, Sem.run_bind, run_newObj, Result.andThen_ok, Sem.run_pure, hcells]; rfl
    · cases hs
  · cases hs
end
end Go.V
