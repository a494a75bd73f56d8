/-
  Operators, equality, slices' bounds, addresses.
-/
import Derived.Test.YteaeandommcdcaaGreatVd
namespace Go.V
set_option linter.unusedSimpArgs false
set_option linter.unusedVariables false
set_option linter.unusedSectionVars false
set_option linter.unnecessarySimpa false
open Go.RowKit

theorem run_bytes_eq (s t : List UInt8) : ((⟨s.toArray⟩ : ByteArray).toList == (⟨t.toArray⟩ : ByteArray).toList) = (s == t) := by
  rw [ByteArray.toList_eq, ByteArray.toList_eq]

theorem vr_pointer {w : World} {x : X} {k vr off : Nat} {v : Value} (h : VR w x (.ptr k vr off) v) : ∃ a, v = .pointer (some a) ∧ (∃ p, x.β k = some p) ∧
    (x.ver k = some vr → ∃ b base, x.β k = some (b, base) ∧ a = ⟨b, base + off, none⟩) := by
  cases h with
  | im _ _ h => cases h
  | ptr _ _ _ a hk hm h => exact ⟨a, rfl, hk, h⟩

theorem vr_mp {w : World} {x : X} {k : Nat} {v : Value} (h : VR w x (.mp k) v) : ∃ r, v = .map (some r) ∧ (x.ver k = some 0 → ∃ base, x.β k = some (r, base)) := by
  cases h with
  | im _ _ h => cases h
  | mp _ r hk h => exact ⟨r, rfl, h⟩

theorem vr_win {w : World} {x : X} {k vr off len s : Nat} {v : Value} (h : VR w x (.win k vr off len s) v) : ∃ a cap, v = .slice (some a) len cap ∧ len ≤ cap ∧ (∃ p, x.β k = some p) ∧
    (∀ c, x.ver k = some c → vr ≤ c) ∧
    (x.ver k = some vr → ∃ b base sz, x.β k = some (b, base) ∧ rowSize w b = some sz ∧ (cap = 0 ∨ (a = ⟨b, base + off, none⟩ ∧ base + off + cap * s ≤ sz))) := by
  cases h with
  | im _ _ h => cases h
  | win _ _ _ _ _ a cap hc hk hm h => exact ⟨a, cap, rfl, hc, hk, hm, h⟩

theorem vr_sl {w : World} {x : X} {es : List D} {v : Value} (h : VR w x (.sl es) v) : ∃ a cap, v = .slice a es.length cap ∧ es.length ≤ cap ∧
    (es = [] ∨ ∃ b off s, a = some ⟨b, off, none⟩ ∧ x.Z b ∧ (∀ (i : Nat) e, es[i]? = some e → e.cells? = some e.cells ∧ e.cells.length = s) ∧
      (∀ (i : Nat) e, es[i]? = some e → CellsAt w x b (off + i * s) e.cells) ∧
      ∃ f : Nat → Nat → Value, (∀ (i : Nat) e (j : Nat) c, es[i]? = some e → e.cells[j]? = some c → w.cell? ⟨b, off + (i * s + j), none⟩ = some (f i j) ∧ (f i j).oneCell' = true) ∧
        ∀ (i : Nat) e (j : Nat) c, es[i]? = some e → e.cells[j]? = some c → IR w x.Z c (f i j)) := by
  cases h with
  | im _ _ h =>
    cases h with
    | emp a cap => exact ⟨a, cap, rfl, by simp, .inl rfl⟩
    | sl _ b off cap s f hz hc hs hv hr =>
      refine ⟨_, cap, rfl, hc, .inr ⟨b, off, s, rfl, hz, hs, ?_, f, hv, hr⟩⟩
      intro i e he j d hd
      obtain ⟨h1, h2⟩ := hv i e j d he hd
      exact ⟨f i j, by rw [← h1]; congr 2; omega, h2, .im _ _ (hr i e j d he hd)⟩

theorem vr_ep {w : World} {x : X} {cs : List D} {v : Value} (h : VR w x (.ep cs) v) : ∃ b off, v = .pointer (some ⟨b, off, none⟩) ∧ x.Z b ∧ CellsAt w x b off cs ∧
    ∃ f : Nat → Value, (∀ (j : Nat) c, cs[j]? = some c → w.cell? ⟨b, off + j, none⟩ = some (f j) ∧ (f j).oneCell' = true) ∧ ∀ (j : Nat) c, cs[j]? = some c → IR w x.Z c (f j) := by
  cases h with
  | im _ _ h =>
    cases h with
    | ep _ b off f hz hv hr =>
      exact ⟨b, off, rfl, hz, fun j d hd => ⟨f j, (hv j d hd).1, (hv j d hd).2, .im _ _ (hr j d hd)⟩, f, hv, hr⟩

section
variable {pv : Pv} {P : Program} (ok : pv.Ok P)
include ok

theorem eq_ok (n : Nat) : (∀ {w : World} {x : X} {t : Nat} {d e : D} {u v : Value} {b : Bool}, VR w x d u → VR w x e v → eqD pv n t d e = some b → ∀ m, n ≤ m → (Op.equalIn m t u v).run P w = .ok b w) ∧
    (∀ {w : World} {x : X} {xs ys : List D} {us vs : List Value} {fs : List Field} {b : Bool}, xs.length = us.length → ys.length = vs.length → (∀ u ∈ us, u.oneCell' = true) → (∀ u ∈ vs, u.oneCell' = true) →
      (∀ (i : Nat) c u, xs[i]? = some c → us[i]? = some u → VR w x c u) → (∀ (i : Nat) c u, ys[i]? = some c → vs[i]? = some u → VR w x c u) →
      eqFields pv n xs ys fs = some b → ∀ m, n ≤ m → (Op.eqFields m us.toArray vs.toArray fs).run P w = .ok b w) ∧
    (∀ {w : World} {x : X} {t sz : Nat} {xs ys : List D} {us vs : List Value} {left i : Nat} {b : Bool}, szOf pv t = some sz → xs.length = us.length → ys.length = vs.length → (∀ u ∈ us, u.oneCell' = true) → (∀ u ∈ vs, u.oneCell' = true) →
      (∀ (i : Nat) c u, xs[i]? = some c → us[i]? = some u → VR w x c u) → (∀ (i : Nat) c u, ys[i]? = some c → vs[i]? = some u → VR w x c u) →
      eqElems pv n t sz xs ys left i = some b → ∀ m, n ≤ m →
      ((do
        for j in List.range' i left do
          if !(← Op.equalIn m t (← part t us.toArray (j * sz)) (← part t vs.toArray (j * sz))) then return false
        pure true : Sem Bool)).run P w = .ok b w) := by
  induction n with
  | zero => refine ⟨?_, ?_, ?_⟩ <;> intros <;> rename_i h _ _ <;> simp [eqD, eqFields, eqElems] at h
  | succ n ih =>
    obtain ⟨ih1, ih2, ih3⟩ := ih
    refine ⟨?_, ?_, ?_⟩
    · intro w x t d e u v b hu hv h m hm
      obtain ⟨m, rfl⟩ : ∃ m', m = m' + 1 := ⟨m - 1, by omega⟩
      unfold eqD at h
      split at h
      · rename_i ht
        rw [vr_bool hu, vr_bool hv]
        simp only [Option.some.injEq] at h; subst h
        simp [Op.equalIn, run_und ok ht]
      · rename_i ht
        rw [vr_int hu, vr_int hv]
        split at h
        · rename_i hk; subst hk
          simp only [Option.some.injEq] at h; subst h
          simp [Op.equalIn, run_und ok ht]
        · cases h
      · rename_i ht
        rw [vr_str hu, vr_str hv]
        simp only [Option.some.injEq] at h; subst h
        simp only [Op.equalIn, Sem.run_bind, run_und ok ht, Result.andThen_ok, Sem.run_pure, beq_toListBytes, run_bytes_eq]
      · rename_i ht
        rw [vr_pnil hu, vr_pnil hv]
        simp only [Option.some.injEq] at h; subst h
        simp [Op.equalIn, run_und ok ht]
      · rename_i ht
        rw [vr_pnil hu]
        obtain ⟨a, rfl, _⟩ := vr_pointer hv
        simp only [Option.some.injEq] at h; subst h
        simp [Op.equalIn, run_und ok ht]
      · rename_i ht
        rw [vr_pnil hv]
        obtain ⟨a, rfl, _⟩ := vr_pointer hu
        simp only [Option.some.injEq] at h; subst h
        simp [Op.equalIn, run_und ok ht]
      · rename_i ht
        rw [vr_nul hu, vr_nul hv]
        simp only [Option.some.injEq] at h; subst h
        simp [Op.equalIn, run_und ok ht]
      · rename_i ht
        rw [vr_nul hv]
        obtain ⟨a, cap, rfl, _⟩ := vr_win hu
        simp only [Option.some.injEq] at h; subst h
        simp [Op.equalIn, run_und ok ht]
      · rename_i ht
        rw [vr_nul hv]
        obtain ⟨a, cap, rfl, _, h' | ⟨bb, off, s, rfl, _⟩⟩ := vr_sl hu
        · cases h'
        simp only [Option.some.injEq] at h; subst h
        simp [Op.equalIn, run_und ok ht]
      · rename_i fields xs ys ht
        obtain ⟨us, rfl, hl1, ho1, hr1⟩ := vr_agg hu
        obtain ⟨vs, rfl, hl2, ho2, hr2⟩ := vr_agg hv
        split at h
        · rename_i hq
          have hp := (ok.eqb t hq).1
          have hf : P.underlying t = some (.struct (P.fieldsOf t)) := by simp [Program.fieldsOf, und_ok ok ht]
          have hff : P.fieldsOf t = fields := by simp [Program.fieldsOf, und_ok ok ht]
          rw [run_equalIn_struct w m t _ _ hf hp, hff]
          exact ih2 hl1 hl2 ho1 ho2 hr1 hr2 h m (by omega)
        · cases h
      · rename_i len el xs ys ht
        obtain ⟨us, rfl, hl1, ho1, hr1⟩ := vr_agg hu
        obtain ⟨vs, rfl, hl2, ho2, hr2⟩ := vr_agg hv
        cases hs : szOf pv el with
        | none => simp [hs] at h
        | some sz =>
          simp only [hs, Option.bind_some] at h
          have := ih3 hs hl1 hl2 ho1 ho2 hr1 hr2 h m (by omega)
          simp only [Op.equalIn, Sem.run_bind, run_und ok ht, Result.andThen_ok, run_size ok hs]
          rw [Std.Legacy.Range.forIn_eq_forIn_range']
          simpa [Std.Legacy.Range.size] using this
      · cases h
    · intro w x xs ys us vs fs b hl1 hl2 ho1 ho2 hr1 hr2 h m hm
      cases fs with
      | nil => simp [eqFields] at h; subst h; simp [Op.eqFields]
      | cons f fs =>
        unfold eqFields at h
        unfold Op.eqFields
        split at h
        · rename_i hn
          simp only [hn, ne_eq, not_true_eq_false, if_false]
          exact ih2 hl1 hl2 ho1 ho2 hr1 hr2 h m (by omega)
        · rename_i hn
          simp only [ne_eq, hn, not_false_eq_true, if_true]
          split at h
          · rename_i d e hd he
            obtain ⟨u, hu1, hu2⟩ := part_ok ok hl1 ho1 hr1 hd
            obtain ⟨v, hv1, hv2⟩ := part_ok ok hl2 ho2 hr2 he
            simp only [Sem.run_bind, hu1, hv1, Result.andThen_ok]
            split at h
            · rename_i hq
              rw [ih1 hu2 hv2 hq m (by omega)]
              simpa using ih2 hl1 hl2 ho1 ho2 hr1 hr2 h m (by omega)
            · rename_i hq
              rw [ih1 hu2 hv2 hq m (by omega)]
              simp only [Option.some.injEq] at h; subst h
              simp
            · cases h
          · cases h
    · intro w x t sz xs ys us vs left i b hsz hl1 hl2 ho1 ho2 hr1 hr2 h m hm
      cases left with
      | zero => simp [eqElems] at h; subst h; simp
      | succ left =>
        unfold eqElems at h
        split at h
        · rename_i d e hd he
          obtain ⟨u, hu1, hu2⟩ := part_ok ok hl1 ho1 hr1 hd
          obtain ⟨v, hv1, hv2⟩ := part_ok ok hl2 ho2 hr2 he
          simp only [List.range'_succ, List.forIn_cons, Sem.run_bind, hu1, hv1, Result.andThen_ok]
          split at h
          · rename_i hq
            rw [ih1 hu2 hv2 hq m (by omega)]
            have := ih3 hsz hl1 hl2 ho1 ho2 hr1 hr2 h m (by omega)
            simpa using this
          · rename_i hq
            rw [ih1 hu2 hv2 hq m (by omega)]
            simp only [Option.some.injEq] at h; subst h
            simp
          · cases h
        · cases h
end
end Go.V
