/-
  Addresses, slices, conversions, makes: V's and the model's.
-/
import Derived.Test.YteaeandommcdcaaGreatVl
namespace Go.V
set_option linter.unusedSimpArgs false
set_option linter.unusedVariables false
set_option linter.unusedSectionVars false
set_option linter.unnecessarySimpa false
open Go.RowKit

theorem add_mk (b o n : Nat) : (⟨b, o, none⟩ : Addr).add n = ⟨b, o + n, none⟩ := by
  unfold Addr.add; split
  · rename_i e; subst e; rfl
  · rfl

theorem IR.epDrop {w : World} {Z : Nat → Prop} {cs : List D} {b off : Nat} {f : Nat → Value} (hz : Z b) (hv : ∀ (j : Nat) c, cs[j]? = some c → w.cell? ⟨b, off + j, none⟩ = some (f j) ∧ (f j).oneCell' = true)
    (hr : ∀ (j : Nat) c, cs[j]? = some c → IR w Z c (f j)) (n : Nat) : IR w Z (.ep (cs.drop n)) (.pointer (some ⟨b, off + n, none⟩)) := by
  refine .ep _ b (off + n) (fun j => f (n + j)) hz (fun j c hj => ?_) (fun j c hj => ?_)
  · rw [List.getElem?_drop] at hj
    have := hv _ c hj
    rwa [show off + (n + j) = off + n + j by omega] at this
  · rw [List.getElem?_drop] at hj
    exact hr _ c hj

theorem VR.ptrAdd {w : World} {x : X} {k vr off : Nat} {a : Addr} (h : VR w x (.ptr k vr off) (.pointer (some a))) (n : Nat) : VR w x (.ptr k vr (off + n)) (.pointer (some (a.add n))) := by
  cases h with
  | im _ _ h => cases h
  | ptr _ _ _ _ hk hm h =>
    refine .ptr k vr (off + n) _ hk hm fun hv => ?_
    obtain ⟨b, base, hb, rfl⟩ := h hv
    exact ⟨b, base, hb, by rw [add_mk, Nat.add_assoc]⟩

theorem extract_bytes (s : List UInt8) (l h : Nat) : (⟨s.toArray⟩ : ByteArray).extract l h = ⟨((s.take h).drop l).toArray⟩ := by
  apply ByteArray.ext
  simp [ByteArray.data_extract, List.extract_eq_take_drop, List.drop_take]

section
variable {pv : Pv} {P : Program} (ok : pv.Ok P)
include ok

theorem fieldAddr_ok {w : World} {x : X} {t i : Nat} {d r : D} {u : Value} (hu : VR w x d u) (h : fieldAddrD pv t d i = some r) : ∃ z, (Instr.fieldAt t u i).run P w = .ok z w ∧ VR w x r z := by
  unfold fieldAddrD at h
  split at h
  · rename_i fields ht
    obtain ⟨f, hf, h⟩ := Option.bind_eq_some_iff.1 h
    split at h
    · cases h
    · rename_i h0
      obtain ⟨s, hs, h⟩ := Option.bind_eq_some_iff.1 h
      have hs0 : ¬ s = 0 := by intro e; subst e; exact h0 hs
      split at h
      · cases h
        obtain ⟨a, rfl, _⟩ := vr_pointer hu
        refine ⟨.pointer (some (a.add f.offset)), ?_, hu.ptrAdd _⟩
        simp [Instr.fieldAt, run_und ok ht, hf, Instr.sureAddr, fieldPlace, run_size ok hs, hs0]
      · cases h
        obtain ⟨b, off, rfl, hz, _, g, hv, hr⟩ := vr_ep hu
        refine ⟨.pointer (some ((⟨b, off, none⟩ : Addr).add f.offset)), ?_, .im _ _ ?_⟩
        · simp [Instr.fieldAt, run_und ok ht, hf, Instr.sureAddr, fieldPlace, run_size ok hs, hs0]
        · rw [add_mk]; exact IR.epDrop hz hv hr _
      · cases h
  · cases h

theorem field_ok {w : World} {x : X} {t i : Nat} {d r : D} {u : Value} (hu : VR w x d u) (h : fieldD pv t d i = some r) : ∃ z, (Instr.field t u i).run P w = .ok z w ∧ VR w x r z := by
  unfold fieldD at h
  split at h
  · rename_i fields cs ht
    obtain ⟨f, hf, h⟩ := Option.bind_eq_some_iff.1 h
    obtain ⟨us, rfl, hl, h1, hr⟩ := vr_agg hu
    obtain ⟨z, hz, hz'⟩ := part_ok ok hl h1 hr h
    exact ⟨z, by simp [Instr.field, run_und ok ht, hf, asAgg, hz], hz'⟩
  · cases h

theorem index_ok {w : World} {x : X} {t : Nat} {d e r : D} {u v : Value} (hu : VR w x d u) (hv : VR w x e v) (h : indexD pv t d e = some r) : ∃ z, (Instr.index t u v).run P w = .ok z w ∧ VR w x r z := by
  unfold indexD at h
  split at h
  · rename_i k i
    rw [vr_int hv]
    split at h
    · rename_i len el cs ht
      obtain ⟨s, hs, h⟩ := Option.bind_eq_some_iff.1 h
      split at h
      · rename_i hi
        obtain ⟨us, rfl, hl, h1, hr⟩ := vr_agg hu
        obtain ⟨z, hz, hz'⟩ := part_ok ok hl h1 hr h
        exact ⟨z, by simp [Instr.index, asIntOf, run_und ok ht, hi, run_size ok hs, hz], hz'⟩
      · cases h
    · rename_i l ht
      split at h
      · rename_i hi
        obtain ⟨b, hb, rfl⟩ := Option.map_eq_some_iff.1 h
        rw [vr_str hu]
        refine ⟨.int .u8 b.toNat, ?_, .im _ _ (.int _ _)⟩
        have : (⟨l.toArray⟩ : ByteArray)[i.toNat]? = some b := by
          have hlt : i.toNat < l.length := by
            rcases Nat.lt_or_ge i.toNat l.length with h' | h'
            · exact h'
            · rw [List.getElem?_eq_none h'] at hb; cases hb
          rw [getElem?_pos (⟨l.toArray⟩ : ByteArray) i.toNat (by simpa [ByteArray.size] using hlt)]
          rw [List.getElem?_eq_getElem hlt] at hb
          cases hb
          rfl
        simp [Instr.index, asIntOf, run_und ok ht, hi, this]
      · cases h
    · cases h
  · cases h

theorem indexAddr_ok {w : World} {st : St} {β : Nat → Option (Nat × Nat)} {Z : Nat → Prop} {t : Nat} {d e r : D} {u v : Value} (hu : VR w (st.x β Z) d u) (hv : VR w (st.x β Z) e v) (h : indexAddrD pv t d e st = some r) :
    ∃ z, (Instr.indexAt t u v).run P w = .ok z w ∧ VR w (st.x β Z) r z := by
  unfold indexAddrD at h
  split at h
  · rename_i k i
    rw [vr_int hv]
    split at h
    · rename_i len el k ver off ht
      obtain ⟨s, hs, h⟩ := Option.bind_eq_some_iff.1 h
      split at h
      · rename_i hi
        cases h
        obtain ⟨a, rfl, _⟩ := vr_pointer hu
        exact ⟨.pointer (some (a.add (i.toNat * s))), by simp [Instr.indexAt, asIntOf, run_und ok ht, Instr.sureAddr, hi, run_size ok hs], hu.ptrAdd _⟩
      · cases h
    · rename_i len el c ht
      obtain ⟨s, hs, h⟩ := Option.bind_eq_some_iff.1 h
      split at h
      · rename_i hi
        cases h
        obtain ⟨b, off, rfl, hz, _, g, hv, hr⟩ := vr_ep hu
        refine ⟨.pointer (some ((⟨b, off, none⟩ : Addr).add (i.toNat * s))), by simp [Instr.indexAt, asIntOf, run_und ok ht, Instr.sureAddr, hi, run_size ok hs], .im _ _ ?_⟩
        rw [add_mk]; exact IR.epDrop hz hv hr _
      · cases h
    · rename_i el es ht
      obtain ⟨s, hs, h⟩ := Option.bind_eq_some_iff.1 h
      split at h
      · rename_i hi
        obtain ⟨d, hd, h⟩ := Option.bind_eq_some_iff.1 h
        obtain ⟨cs, hcs, h⟩ := Option.bind_eq_some_iff.1 h
        split at h
        · rename_i hlen
          cases h
          have hlt : i.toNat < es.length := by
            rcases Nat.lt_or_ge i.toNat es.length with h' | h'
            · exact h'
            · rw [List.getElem?_eq_none h'] at hd; cases hd
          obtain ⟨a, cap, rfl, hc, h' | ⟨b, off, s0, rfl, hz, hst, _, f, hv, hr⟩⟩ := vr_sl hu
          · subst h'; simp at hlt
          · obtain ⟨hd1, hd2⟩ := hst _ d hd
            have hcd := cells_of hcs
            rw [hcd, hlen] at hd2; subst hd2
            refine ⟨.pointer (some ((⟨b, off, none⟩ : Addr).add (i.toNat * s))), ?_, .im _ _ ?_⟩
            · have : (0 : Int) ≤ i ∧ i < (es.length : Int) := by omega
              simp [Instr.indexAt, asIntOf, run_und ok ht, this, run_size ok hs]
            · rw [add_mk]
              refine .ep cs b _ (f i.toNat) hz (fun j c hj => ?_) (fun j c hj => hr _ d j c hd (by rw [hcd]; exact hj))
              have := hv _ d j c hd (by rw [hcd]; exact hj)
              rwa [← Nat.add_assoc] at this
        · cases h
      · cases h
    · rename_i el k ver off len sz ht
      obtain ⟨s, hs, h⟩ := Option.bind_eq_some_iff.1 h
      split at h
      · rename_i hi
        obtain ⟨rfl, h0, h1, hm⟩ := hi
        cases h
        obtain ⟨a, cap, rfl, hc, hk, hmx, hat⟩ := vr_win hu
        refine ⟨.pointer (some (a.add (i.toNat * s))), by simp [Instr.indexAt, asIntOf, run_und ok ht, h0, h1, run_size ok hs], ?_⟩
        refine .ptr k ver _ _ hk hmx fun hver => ?_
        obtain ⟨b, base, sz', hb, _, h' | ⟨rfl, _⟩⟩ := hat hver
        · omega
        · exact ⟨b, base, hb, by rw [add_mk, Nat.add_assoc]⟩
      · cases h
    · cases h
  · cases h

theorem slice_ok {w : World} {st : St} {β : Nat → Option (Nat × Nat)} {Z : Nat → Prop} (h : Sim w st β Z) {t : Nat} {d r : D} {u : Value} {lo hi : Option D} {lo' hi' : Option Value} (hu : VR w (st.x β Z) d u)
    (hlo : ∀ d v, lo = some d → lo' = some v → VR w (st.x β Z) d v) (hhi : ∀ d v, hi = some d → hi' = some v → VR w (st.x β Z) d v) (el : lo.isSome = lo'.isSome) (eh : hi.isSome = hi'.isSome)
    (hs : sliceD pv t d lo hi st = some r) : ∃ z, (Instr.sliceAt t u lo' hi' none).run P w = .ok z w ∧ VR w (st.x β Z) r z := by
  unfold sliceD at hs
  split at hs
  · rename_i s ht
    obtain ⟨⟨l, hh⟩, hb, hr⟩ := Option.map_eq_some_iff.1 hs
    try dsimp only at hr
    subst hr
    rw [vr_str hu]
    have hsz : (⟨s.toArray⟩ : ByteArray).size = s.length := by simp [ByteArray.size]
    obtain ⟨h1, h2, h3⟩ := bounds_ok (P := P) (w := w) (x := st.x β Z) false (Nat.le_refl _) hlo hhi el eh hb
    refine ⟨.string ⟨((s.take hh).drop l).toArray⟩, ?_, .im _ _ (.str _)⟩
    simp [Instr.sliceAt, Instr.slice, run_und ok ht, hsz, h1, extract_bytes]
  · rename_i e ht
    obtain ⟨s, hsz, hs⟩ := Option.bind_eq_some_iff.1 hs
    obtain ⟨⟨l, hh⟩, hb, hr⟩ := Option.map_eq_some_iff.1 hs
    try dsimp only at hr
    subst hr
    rw [vr_nul hu]
    obtain ⟨h1, h2, h3⟩ := bounds_ok (P := P) (w := w) (x := st.x β Z) true (Nat.le_refl _) hlo hhi el eh hb
    have hl0 : l = 0 := by omega
    have hh0 : hh = 0 := by omega
    subst hl0; subst hh0
    refine ⟨.slice none 0 0, ?_, .im _ _ .nul⟩
    simp [Instr.sliceAt, Instr.slice, run_und ok ht, h1, run_size ok hsz]
  · rename_i e es ht
    obtain ⟨s, hsz, hs⟩ := Option.bind_eq_some_iff.1 hs
    split at hs
    · rename_i hhd
      obtain ⟨⟨l, hh⟩, hb, hr⟩ := Option.map_eq_some_iff.1 hs
      try dsimp only at hr
      subst hr
      obtain ⟨a, cap, rfl, hc, hes⟩ := vr_sl hu
      obtain ⟨h1, h2, h3⟩ := bounds_ok (P := P) (w := w) (x := st.x β Z) true hc hlo hhi el eh hb
      refine ⟨.slice (if cap = l then a else a.map (·.add (l * s))) (hh - l) (cap - l), by simp [Instr.sliceAt, Instr.slice, run_und ok ht, h1, run_size ok hsz], .im _ _ ?_⟩
      have hlen : ((es.take hh).drop l).length = hh - l := by simp; omega
      by_cases hz0 : hh - l = 0
      · have : (es.take hh).drop l = [] := List.length_eq_zero_iff.1 (by rw [hlen]; exact hz0)
        rw [this, hz0]; exact .emp _ _
      · rw [if_neg (by omega)]
        rcases hes with rfl | ⟨b, off, s0, rfl, hz, hst, _, f, hv, hr⟩
        · simp at h3; omega
        · have hs0 : s0 = s := by
            cases es with
            | nil => simp at h3; omega
            | cons e0 es =>
              obtain ⟨q1, q2⟩ := hst 0 e0 rfl
              simp only [headOk, List.head?_cons, q1, beq_iff_eq] at hhd
              omega
          subst hs0
          have hget : ∀ (i : Nat) y, ((es.take hh).drop l)[i]? = some y → es[l + i]? = some y := by
            intro i y hy
            rw [List.getElem?_drop, List.getElem?_take] at hy
            split at hy
            · exact hy
            · cases hy
          have := IR.sl (w := w) (Z := (st.x β Z).Z) ((es.take hh).drop l) b (off + l * s0) (cap - l) s0 (fun i j => f (l + i) j) hz (by rw [hlen]; omega) (fun i y hy => hst _ y (hget i y hy)) (fun i y j c hy hj => by
            have := hv _ y j c (hget i y hy) hj
            rwa [show off + ((l + i) * s0 + j) = off + l * s0 + (i * s0 + j) by rw [Nat.add_mul]; omega] at this) (fun i y j c hy hj => hr _ y j c (hget i y hy) hj)
          rw [hlen] at this
          simpa [add_mk] using this
    · cases hs
  · rename_i e k ver off len sz ht
    obtain ⟨s, hsz, hs⟩ := Option.bind_eq_some_iff.1 hs
    split at hs
    · rename_i hss; subst hss
      obtain ⟨⟨l, hh⟩, hb, hr⟩ := Option.map_eq_some_iff.1 hs
      try dsimp only at hr
      subst hr
      obtain ⟨a, cap, rfl, hc, hk, hmx, hat⟩ := vr_win hu
      obtain ⟨h1, h2, h3⟩ := bounds_ok (P := P) (w := w) (x := st.x β Z) true hc hlo hhi el eh hb
      refine ⟨.slice (some (if cap = l then a else a.add (l * s))) (hh - l) (cap - l), ?_, ?_⟩
      · simp only [Instr.sliceAt, Instr.slice, Sem.run_bind, run_und ok ht, Result.andThen_ok, h1, run_size ok hsz, Sem.run_pure]
        split <;> rfl
      · refine .win k ver _ _ s _ _ (by omega) hk hmx fun hver => ?_
        obtain ⟨b, base, sz', hb', hrs, had⟩ := hat hver
        refine ⟨b, base, sz', hb', hrs, ?_⟩
        by_cases hcl : cap = l
        · left; omega
        · right
          rcases had with h' | ⟨rfl, hfit⟩
          · omega
          · rw [if_neg hcl, add_mk]
            refine ⟨by rw [Nat.add_assoc], ?_⟩
            have hle : l ≤ cap := by omega
            have : base + (off + l * s) + (cap - l) * s = base + off + cap * s := by
              rw [Nat.sub_mul]
              have := Nat.mul_le_mul_right s hle
              omega
            omega
    · cases hs
  · rename_i n e k ver off ht
    obtain ⟨s, hsz, hs⟩ := Option.bind_eq_some_iff.1 hs
    obtain ⟨⟨ar, c⟩, hm, hs⟩ := Option.bind_eq_some_iff.1 hs
    dsimp only at hs
    split at hs
    · rename_i hfit
      obtain ⟨⟨l, hh⟩, hb, hr⟩ := Option.map_eq_some_iff.1 hs
      try dsimp only at hr
      subst hr
      cases hu with
      | im _ _ hu => cases hu
      | ptr _ _ _ a hk hmx hat =>
        obtain ⟨b, base, hb', rfl⟩ := hat (mem_spec hm).2
        obtain ⟨cs, el', fr, r1, r2, _⟩ := h.row hm hb'
        obtain ⟨h1, h2, h3⟩ := bounds_ok (P := P) (w := w) (x := st.x β Z) false (Nat.le_refl n) hlo hhi el eh hb
        refine ⟨.slice (some (if n = l then ⟨b, base + off, none⟩ else (⟨b, base + off, none⟩ : Addr).add (l * s))) (hh - l) (n - l), ?_, ?_⟩
        · simp [Instr.sliceAt, run_und ok ht, Instr.sureAddr, h1, run_size ok hsz]
        · refine .win k ver _ _ s _ _ (by omega) hk hmx fun hver => ⟨b, base, cs.size, hb', by simp [rowSize, r1], ?_⟩
          by_cases hcl : n = l
          · left; omega
          · right
            rw [if_neg hcl, add_mk]
            refine ⟨by rw [Nat.add_assoc], ?_⟩
            have hle : l ≤ n := by omega
            have : base + (off + l * s) + (n - l) * s = base + off + n * s := by
              rw [Nat.sub_mul]
              have := Nat.mul_le_mul_right s hle
              omega
            omega
    · cases hs
  · cases hs
end
end Go.V
