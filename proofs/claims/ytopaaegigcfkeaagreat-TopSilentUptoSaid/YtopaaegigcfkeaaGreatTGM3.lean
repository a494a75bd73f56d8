/- own -/
import Derived.Test.YtopaaegigcfkeaaGreatTM2
import Derived.DataReads
import Derived.ChangeOld
import GoSem.ClaimChange
import Derived.Below
import Derived.Test.YtopaaegigcfkeaaGreatTGInw
import Derived.Deep.RegionLaw
set_option linter.unusedSimpArgs false
set_option linter.unusedVariables false
set_option linter.unusedSectionVars false
set_option linter.unnecessarySimpa false
set_option maxRecDepth 100000
set_option maxHeartbeats 4000000
namespace Go.V
open Go.RowKit
def isAggW {H : Type} : DataW H → Bool
  | .agg _ => true
  | _ => false
mutual
def dcs {H : Type} : DataW H → List D
  | .lit (.bool b) => [.bool b]
  | .lit (.int k n) => [.int k n]
  | .lit (.string l) => [.str l]
  | .lit _ => [.junk]
  | .nil => [.nul]
  | .slice elems _ => [.sl (dels elems)]
  | .agg parts => dparts parts
  | .ptr _ => [.junk]
  | .iface _ _ => [.junk]
  | .map _ => [.junk]
  | .held _ => [.junk]
def dels {H : Type} : List (DataW H) → List D
  | [] => []
  | d :: r => (if isAggW d then .agg (dcs d) else (dcs d).headD .junk) :: dels r
def dparts {H : Type} : List (DataW H) → List D
  | [] => []
  | d :: r => dcs d ++ dparts r
end
def dval {H : Type} (d : DataW H) : D := if isAggW d then .agg (dcs d) else (dcs d).headD .junk
theorem dels_map {H : Type} : ∀ l : List (DataW H), dels l = l.map dval
  | [] => rfl
  | d :: r => by simp only [dels, List.map_cons, dels_map r]; rfl
def contig (P : Program) : Nat → List Field → Option Nat
  | o, [] => some o
  | o, f :: fs => if f.offset = o then contig P (o + P.cellsOf f.type) fs else none
def okT (P : Program) : Nat → TypeId → Bool
  | 0, _ => false
  | n + 1, t => match P.underlying t with
    | some .bool => true
    | some (.int _) => true
    | some .string => true
    | some (.slice e) => okT P n e && decide (0 < P.cellsOf e)
    | some (.struct fs) => (contig P 0 fs.toList == some (P.cellsOf t)) && fs.toList.all fun f => okT P n f.type
    | some (.array m e) => okT P n e && (P.cellsOf t == m * P.cellsOf e)
    | _ => false
structure CR (w : World) (Z : Nat → Prop) (cs : List D) (vs : List Value) : Prop where
  len : cs.length = vs.length
  one : ∀ v ∈ vs, v.oneCell' = true
  onec : ∀ c ∈ cs, c.cells? = some [c]
  rel : ∀ (i : Nat) c v, cs[i]? = some c → vs[i]? = some v → IR w Z c v
theorem CR.nil {w : World} {Z : Nat → Prop} : CR w Z [] [] := ⟨rfl, by simp, by simp, by simp⟩
theorem CR.single {w : World} {Z : Nat → Prop} {c : D} {v : Value} (h : IR w Z c v) (h1 : v.oneCell' = true) (h2 : c.cells? = some [c]) : CR w Z [c] [v] :=
  ⟨rfl, by simpa using h1, by simpa using h2, fun i c' v' hc hv => by
    cases i with
    | zero => simp at hc hv; subst hc; subst hv; exact h
    | succ i => simp at hc⟩
theorem CR.append {w : World} {Z : Nat → Prop} {cs cs' : List D} {vs vs' : List Value} (h : CR w Z cs vs) (g : CR w Z cs' vs') : CR w Z (cs ++ cs') (vs ++ vs') := by
  refine ⟨by simp [h.len, g.len], fun v hv => ?_, fun c hc => ?_, fun i c v hc hv => ?_⟩
  · rcases List.mem_append.1 hv with hv | hv
    · exact h.one v hv
    · exact g.one v hv
  · rcases List.mem_append.1 hc with hc | hc
    · exact h.onec c hc
    · exact g.onec c hc
  · rw [List.getElem?_append] at hc hv
    have := h.len
    split at hc
    · rw [if_pos (by omega)] at hv; exact h.rel i c v hc hv
    · rw [if_neg (by omega)] at hv; rw [← this] at hv; exact g.rel _ c v hc hv
theorem parts_cr {H : Type} {P : Program} {w : World} {Z : Nat → Prop} {f : Field → Option (DataW H × List MemPlace)} {cs : List Value} : ∀ {fs : List Field} {o e : Nat} {xs : List (DataW H × List MemPlace)}, contig P o fs = some e → e ≤ cs.length → fs.mapM f = some xs →
    (∀ g ∈ fs, ∀ x, f g = some x → CR w Z (dcs x.1) ((cs.drop g.offset).take (P.cellsOf g.type))) → CR w Z (dparts (xs.map (·.1))) ((cs.drop o).take (e - o)) ∧ o ≤ e
  | [], o, e, xs, hc, _, hm, _ => by
    simp [contig] at hc; subst hc
    simp at hm; subst hm
    simp [dparts]; exact CR.nil
  | g :: fs, o, e, xs, hc, he, hm, hx => by
    simp only [contig] at hc
    split at hc
    · rename_i ho
      rw [List.mapM_cons] at hm
      cases h1 : f g with
      | none => rw [h1] at hm; simp at hm
      | some x =>
        rw [h1] at hm
        cases h2 : fs.mapM f with
        | none => rw [h2] at hm; simp at hm
        | some ys =>
          rw [h2] at hm
          simp at hm; subst hm
          obtain ⟨ih, hle⟩ := parts_cr hc he h2 fun g' hg' => hx g' (List.mem_cons_of_mem _ hg')
          have hg := hx g (List.mem_cons_self ..) x h1
          rw [ho] at hg
          refine ⟨?_, by omega⟩
          simp only [List.map_cons, dparts]
          have : (cs.drop o).take (e - o) = (cs.drop o).take (P.cellsOf g.type) ++ (cs.drop (o + P.cellsOf g.type)).take (e - (o + P.cellsOf g.type)) := by
            rw [← List.drop_drop, show e - o = P.cellsOf g.type + (e - (o + P.cellsOf g.type)) by omega, List.take_add]
          rw [this]
          exact hg.append ih
    · cases hc
theorem elems_cr {H : Type} {w : World} {Z : Nat → Prop} {s : Nat} {f : Nat → Option (DataW H × List MemPlace)} {cs : List Value} : ∀ {m k : Nat} {xs : List (DataW H × List MemPlace)}, (List.range' k m).mapM f = some xs → (k + m) * s ≤ cs.length →
    (∀ i x, f i = some x → CR w Z (dcs x.1) ((cs.drop (i * s)).take s)) → CR w Z (dparts (xs.map (·.1))) ((cs.drop (k * s)).take (m * s))
  | 0, k, xs, hm, _, _ => by simp at hm; subst hm; simp [dparts]; exact CR.nil
  | m + 1, k, xs, hm, hl, hx => by
    rw [List.range'_succ, List.mapM_cons] at hm
    cases h1 : f k with
    | none => rw [h1] at hm; simp at hm
    | some x =>
      rw [h1] at hm
      cases h2 : (List.range' (k + 1) m).mapM f with
      | none => rw [h2] at hm; simp at hm
      | some ys =>
        rw [h2] at hm
        simp at hm; subst hm
        have ih := elems_cr h2 (by rw [show k + 1 + m = k + (m + 1) by omega]; exact hl) hx
        simp only [List.map_cons, dparts]
        rw [show (m + 1) * s = s + m * s by rw [Nat.add_mul]; omega, List.take_add, List.drop_drop, show k * s + s = (k + 1) * s by rw [Nat.add_mul]; omega]
        exact (hx k x h1).append ih
theorem cells_one {c : D} (h : c.cells? = some [c]) : c.cells = [c] := by
  cases c <;> first | rfl | cases h | (simp only [D.cells?, Option.some.injEq] at h; simpa only [D.cells] using h)
theorem add_none (b off n : Nat) : (⟨b, off, none⟩ : Addr).add n = ⟨b, off + n, none⟩ := by
  cases n <;> simp [Addr.add]
theorem trod_cr {H : Type} {enc : TypeId × Value → H} {P : Program} {w : World} {spare : Nat → Bool} {held : Bool} : ∀ (fuel : Nat) (t : TypeId) (cs : List Value) (d : DataW H) (ps : List MemPlace) (n : Nat), DataW.trod enc P w 0 spare held fuel t cs = some (d, ps) → okT P n t = true →
    CR w (fun b => b < w.heap.size) (dcs d) cs ∧ cs.length = (match P.underlying t with | some (.struct _) | some (.array _ _) => P.cellsOf t | _ => 1) ∧ (isAggW d = (match P.underlying t with | some (.struct _) | some (.array _ _) => true | _ => false))
  | 0, t, cs, d, ps, n, h, _ => by simp [DataW.trod] at h
  | fuel + 1, t, cs, d, ps, 0, h, ht => by simp [okT] at ht
  | fuel + 1, t, cs, d, ps, n + 1, h, ht => by
    simp only [okT] at ht
    unfold DataW.trod at h
    cases hu : P.underlying t with
    | none => rw [hu] at ht; simp at ht
    | some u =>
      rw [hu] at h ht
      cases u with
      | bool =>
        rcases cs with _ | ⟨v, _ | ⟨v2, cs⟩⟩ <;> try (simp at h; done)
        cases v <;> simp at h
        obtain ⟨rfl, rfl⟩ := h
        exact ⟨CR.single (.bool _) rfl rfl, rfl, rfl⟩
      | int k =>
        rcases cs with _ | ⟨v, _ | ⟨v2, cs⟩⟩ <;> try (simp at h; done)
        cases v <;> simp at h
        obtain ⟨⟨rfl, _⟩, rfl, rfl⟩ := h
        exact ⟨CR.single (.int _ _) rfl rfl, rfl, rfl⟩
      | string =>
        rcases cs with _ | ⟨v, _ | ⟨v2, cs⟩⟩ <;> try (simp at h; done)
        cases v <;> simp at h
        rename_i b
        obtain ⟨_, rfl, rfl⟩ := h
        refine ⟨CR.single ?_ rfl rfl, rfl, rfl⟩
        have := IR.str (w := w) (Z := fun b => b < w.heap.size) b.data.toList
        simpa using this
      | slice e =>
        simp only [Bool.and_eq_true, decide_eq_true_eq] at ht
        rcases cs with _ | ⟨v, _ | ⟨v2, cs⟩⟩ <;> try (simp at h; done)
        cases v <;> try (simp at h; done)
        rename_i a len cap
        cases a with
        | none =>
          cases len <;> cases cap <;> simp at h
          obtain ⟨rfl, rfl⟩ := h
          exact ⟨CR.single .nul rfl rfl, rfl, rfl⟩
        | some a =>
          simp only at h
          split at h
          · rename_i hc
            simp only [Option.bind_eq_some_iff, Option.map_eq_some_iff] at h
            obtain ⟨elems, he, rest, hr, hd⟩ := h
            cases hd
            refine ⟨?_, rfl, rfl⟩
            have hlen : elems.length = len := by simpa using mapM_some_length he
            have hget := mapM_some_get he
            have each : ∀ (i : Nat), i < len → ∃ x cs, elems[i]? = some x ∧ w.cells? 0 (a.add (i * P.cellsOf e)) (P.cellsOf e) = some cs ∧ CR w (fun b => b < w.heap.size) (dcs x.1) cs ∧ cs.length = P.cellsOf e ∧ (isAggW x.1 = (match P.underlying e with | some (.struct _) | some (.array _ _) => true | _ => false)) ∧ cs.length = (match P.underlying e with | some (.struct _) | some (.array _ _) => P.cellsOf e | _ => 1) := by
              intro i hi
              have h1 := hget i i (by simp [hi])
              have h2 : elems[i]? = some (elems[i]'(by omega)) := List.getElem?_eq_getElem _
              rw [h2] at h1
              obtain ⟨cs, hcs, hx⟩ := Option.bind_eq_some_iff.1 h1
              obtain ⟨q1, q2, q3⟩ := trod_cr fuel e cs _ _ n hx ht.1
              exact ⟨_, cs, h2, hcs, q1, (World.cells?_some hcs).2.1, q3, q2⟩
            refine CR.single ?_ rfl rfl
            cases len with
            | zero =>
              have : elems = [] := by cases elems with | nil => rfl | cons _ _ => simp at hlen
              subst this
              exact .emp _ _
            | succ m =>
              have hsp : a.spot = none ∧ a.block < w.heap.size := by
                obtain ⟨x, cs, _, h2, _, _⟩ := each 0 (by omega)
                refine ⟨?_, ?_⟩
                · have := (World.cells?_some h2).2.2 0 ht.2
                  have hl := (World.cells?_some h2).2.1
                  obtain ⟨c0, hc0⟩ : ∃ c0, cs[0]? = some c0 := ⟨cs[0]'(by omega), List.getElem?_eq_getElem _⟩
                  rw [hc0] at this
                  simpa [Addr.add] using World.cell?_spot this
                · simpa [Addr.add] using World.cells?_block h2 ht.2
              obtain ⟨b, off, spot⟩ := a
              simp only at hsp
              obtain ⟨rfl, hb⟩ := hsp
              have hcell : ∀ (i j : Nat), i < m + 1 → j < P.cellsOf e → ∃ x cs v, elems[i]? = some x ∧ cs[j]? = some v ∧ w.cell? ⟨b, off + (i * P.cellsOf e + j), none⟩ = some v ∧ CR w (fun b => b < w.heap.size) (dcs x.1) cs := by
                intro i j hi hj
                obtain ⟨x, cs, h1, h2, h3, h4, _⟩ := each i hi
                have := (World.cells?_some h2).2.2 j hj
                obtain ⟨v, hv⟩ : ∃ v, cs[j]? = some v := ⟨cs[j]'(by omega), List.getElem?_eq_getElem _⟩
                rw [hv] at this
                refine ⟨x, cs, v, h1, hv, ?_, h3⟩
                rw [← this, add_none, add_none, Nat.add_assoc]
              have hes : (dels (elems.map (·.1))) = elems.map fun x => dval x.1 := by rw [dels_map, List.map_map]; rfl
              have hE : ∀ (i : Nat) q, (dels (elems.map (·.1)))[i]? = some q → ∃ x cs, i < m + 1 ∧ elems[i]? = some x ∧ q.cells? = some q.cells ∧ q.cells = dcs x.1 ∧ CR w (fun b => b < w.heap.size) (dcs x.1) cs ∧ cs.length = P.cellsOf e := by
                intro i q hq
                rw [hes, List.getElem?_map] at hq
                obtain ⟨x, hx, rfl⟩ := Option.map_eq_some_iff.1 hq
                have hi : i < m + 1 := by
                  rcases Nat.lt_or_ge i (m + 1) with h' | h'
                  · exact h'
                  · rw [List.getElem?_eq_none (by omega)] at hx; cases hx
                obtain ⟨x', cs, h1, h2, h3, h4, h5, h6⟩ := each i hi
                rw [hx] at h1; cases h1
                refine ⟨x, cs, hi, hx, ?_, ?_, h3, h4⟩
                · unfold dval
                  split
                  · rfl
                  · rename_i hna
                    have hl1 : (dcs x.1).length = 1 := by
                      rw [h3.len, h6]
                      rw [h5] at hna
                      revert hna
                      split <;> simp
                    match hd : dcs x.1, hl1 with
                    | [c], _ => have := h3.onec c (by rw [hd]; simp); simp only [List.headD_cons]; rw [cells_one this]; exact this
                · unfold dval
                  split
                  · rfl
                  · rename_i hna
                    have hl1 : (dcs x.1).length = 1 := by
                      rw [h3.len, h6]
                      rw [h5] at hna
                      revert hna
                      split <;> simp
                    match hd : dcs x.1, hl1 with
                    | [c], _ => have := h3.onec c (by rw [hd]; simp); simp only [List.headD_cons]; exact cells_one this
              have hL : (dels (elems.map (·.1))).length = m + 1 := by rw [hes]; simp [hlen]
              have hf := fun (i j : Nat) (hi : i < m + 1) (hj : j < P.cellsOf e) => hcell i j hi hj
              have := IR.sl (w := w) (Z := fun b => b < w.heap.size) (dels (elems.map (·.1))) b off cap (P.cellsOf e) (fun i j => (w.cell? ⟨b, off + (i * P.cellsOf e + j), none⟩).getD undef) hb (by rw [hL]; exact hc.2.1)
                (fun i q hq => by
                  obtain ⟨x, cs, h1, h2, h3, h4, h5, h6⟩ := hE i q hq
                  exact ⟨h3, by rw [h4, h5.len, h6]⟩)
                (fun i q j c hq hj => by
                  obtain ⟨x, cs, h1, h2, h3, h4, h5, h6⟩ := hE i q hq
                  have hjl : j < P.cellsOf e := by
                    rcases Nat.lt_or_ge j (P.cellsOf e) with h' | h'
                    · exact h'
                    · rw [h4, List.getElem?_eq_none (by rw [h5.len, h6]; exact h')] at hj; cases hj
                  obtain ⟨x', cs', v, g1, g2, g3, g4⟩ := hf i j h1 hjl
                  rw [g3]
                  exact ⟨rfl, g4.one v (List.mem_of_getElem? g2)⟩)
                (fun i q j c hq hj => by
                  obtain ⟨x, cs, h1, h2, h3, h4, h5, h6⟩ := hE i q hq
                  have hjl : j < P.cellsOf e := by
                    rcases Nat.lt_or_ge j (P.cellsOf e) with h' | h'
                    · exact h'
                    · rw [h4, List.getElem?_eq_none (by rw [h5.len, h6]; exact h')] at hj; cases hj
                  obtain ⟨x', cs', v, g1, g2, g3, g4⟩ := hf i j h1 hjl
                  rw [g3]
                  rw [h2] at g1; cases g1
                  exact g4.rel j c v (by rw [← h4]; exact hj) g2)
              rw [hL] at this
              exact this
          · cases h
      | struct fs =>
        simp only [Bool.and_eq_true, beq_iff_eq, List.all_eq_true] at ht
        simp only at h
        split at h
        · rename_i hl
          obtain ⟨xs, hx, hd⟩ := Option.map_eq_some_iff.1 h
          cases hd
          refine ⟨?_, hl, rfl⟩
          obtain ⟨h1, _⟩ := parts_cr (w := w) (Z := fun b => b < w.heap.size) (cs := cs) ht.1 (by omega) hx fun g hg x hgx => (trod_cr fuel g.type _ _ _ n hgx (ht.2 g hg)).1
          rw [List.drop_zero, Nat.sub_zero, ← hl, List.take_length] at h1
          exact h1
        · cases h
      | array m e =>
        simp only [Bool.and_eq_true, beq_iff_eq] at ht
        simp only at h
        split at h
        · rename_i hl
          obtain ⟨xs, hx, hd⟩ := Option.map_eq_some_iff.1 h
          cases hd
          refine ⟨?_, hl, rfl⟩
          rw [List.range_eq_range'] at hx
          have h1 := elems_cr (w := w) (Z := fun b => b < w.heap.size) (s := P.cellsOf e) (cs := cs) hx (by rw [Nat.zero_add, ← ht.2, hl]; exact Nat.le_refl _) fun i x hix => (trod_cr fuel e _ _ _ n hix ht.1).1
          rw [Nat.zero_mul, List.drop_zero, ← ht.2, ← hl, List.take_length] at h1
          exact h1
        · cases h
      | _ => simp at ht
theorem trod_ir {H : Type} {enc : TypeId × Value → H} {P : Program} {w : World} {spare : Nat → Bool} {held : Bool} {r : Reach} {base : Nat} {t : TypeId} {v : Value} {d : DataW H} {ps : List MemPlace} {n : Nat} (h : DataW.Trod enc P w 0 spare held t v d ps) (ht : okT P n t = true) (hv : Value.okWide P w r base t v) :
    IR w (fun b => b < w.heap.size) (dval d) v := by
  obtain ⟨fuel, hf⟩ := h
  obtain ⟨h1, h2, h3⟩ := trod_cr fuel t _ d ps n hf ht
  have hu : ∃ u, P.underlying t = some u := by
    cases n with
    | zero => simp [okT] at ht
    | succ n =>
      simp only [okT] at ht
      cases hu : P.underlying t with
      | none => rw [hu] at ht; simp at ht
      | some u => exact ⟨u, rfl⟩
  obtain ⟨u, hu⟩ := hu
  unfold Value.okWide at hv
  rw [hu] at hv h2 h3
  have hagg : (∃ cs : Array Value, v = .agg cs) → isAggW d = true → IR w (fun b => b < w.heap.size) (dval d) v := by
    rintro ⟨cs, rfl⟩ hd
    unfold dval
    rw [if_pos hd]
    have := IR.agg (w := w) (Z := fun b => b < w.heap.size) (dcs d) cs.toList (by simpa [Value.cells] using h1.len) (by simpa [Value.cells] using h1.one) (by simpa [Value.cells] using h1.rel)
    simpa using this
  have hone : isAggW d = false → v.cells.toList.length = 1 → (∀ cs, v ≠ .agg cs) → IR w (fun b => b < w.heap.size) (dval d) v := by
    intro hd hl hna
    unfold dval
    rw [if_neg (by rw [hd]; simp)]
    have hc : v.cells.toList = [v] := by cases v <;> first | rfl | exact absurd rfl (hna _)
    rw [hc] at h1
    match hq : dcs d, h1.len with
    | [c], _ => exact h1.rel 0 c v (by rw [hq]; rfl) rfl
  have hcell : Cell.okWide P w r base t v → ∀ cs, v ≠ .agg cs := by
    rintro hc cs rfl
    unfold Cell.okWide at hc
    rw [hu] at hc
    cases u <;> simp [Cell.ok, hu] at hc
  cases u with
  | struct fs => obtain ⟨cs, h, _⟩ := hv; exact hagg ⟨cs, h⟩ h3
  | array m e => obtain ⟨cs, h, _⟩ := hv; exact hagg ⟨cs, h⟩ h3
  | _ => exact hone h3 h2 (hcell hv)
end Go.V
namespace Go.V
open Go.RowKit
theorem wf_u8 {n : Int} (h : (Lit.int .u8 n).wf = true) : ∃ y : UInt8, n = (y.toNat : Nat) := by
  have : 0 ≤ n ∧ n ≤ 255 := by simpa [Lit.wf, IntKind.min, IntKind.max, IntKind.signed, IntKind.bits] using h
  refine ⟨UInt8.ofNat n.toNat, ?_⟩
  rw [show (UInt8.ofNat n.toNat).toNat = n.toNat % 256 from rfl]
  omega
theorem law_calls {pv : Pv} {P : Program} (h : pv.Ok P ∧ pv.codes ∧ CfOk P pv (primF pv)) {f : Nat} {ds : List D} {st' : St} (hs : Ev pv f ds ⟨[], 0, 0⟩ (.bool true) st') {w : World} {us : List Value} (hl : ds.length = us.length)
    (hr : ∀ (i : Nat) c v, ds[i]? = some c → us[i]? = some v → IR w (fun b => b < w.heap.size) c v) : Calls P f us.toArray w fun e w' => e = .returned (.bool true) ∧ Below w.heap.size w w' := by
  obtain ⟨N, hN⟩ := Ev.out hs
  refine (sound h (hN N (Nat.le_refl _)) (w := w) (Z := fun b => b < w.heap.size) (fun _ h => h) hl hr).mono fun e w' => ?_
  rintro ⟨v, β', Z', rfl, he, hv⟩
  rw [vr_bool hv]
  exact ⟨rfl, ⟨he.os, he.tape, he.output, he.size, fun k hk => he.block k hk fun f => f⟩⟩
end Go.V
namespace Go.V
open Go.RowKit
def Rd {H : Type} (enc : TypeId × Value → H) (P : Program) (w : World) (spare : Nat → Bool) (held : Bool) (t : TypeId) (d : DataW H) : Prop :=
  ∃ fuel cs ps, DataW.trod enc P w 0 spare held fuel t cs = some (d, ps)
section
variable {H : Type} {enc : TypeId × Value → H} {P : Program} {w : World} {spare : Nat → Bool} {held : Bool} {t e : TypeId} {d : DataW H}
theorem Rd.of {v : Value} {ps : List MemPlace} (h : DataW.Trod enc P w 0 spare held t v d ps) : Rd enc P w spare held t d := by
  obtain ⟨fuel, h⟩ := h
  exact ⟨fuel, _, _, h⟩
theorem Rd.int {k : IntKind} (h : Rd enc P w spare held t d) (ht : P.underlying t = some (.int k)) : ∃ n : Int, d = .lit (.int k n) ∧ (Lit.int k n).wf = true := by
  obtain ⟨fuel, cs, ps, h⟩ := h
  cases fuel with
  | zero => simp [DataW.trod] at h
  | succ fuel =>
    unfold DataW.trod at h
    rw [ht] at h
    rcases cs with _ | ⟨v, _ | ⟨v2, cs⟩⟩ <;> try (simp at h; done)
    cases v <;> simp at h
    obtain ⟨⟨rfl, hw⟩, rfl, _⟩ := h
    exact ⟨_, rfl, hw⟩
theorem Rd.bool (h : Rd enc P w spare held t d) (ht : P.underlying t = some .bool) : ∃ b : Bool, d = .lit (.bool b) := by
  obtain ⟨fuel, cs, ps, h⟩ := h
  cases fuel with
  | zero => simp [DataW.trod] at h
  | succ fuel =>
    unfold DataW.trod at h
    rw [ht] at h
    rcases cs with _ | ⟨v, _ | ⟨v2, cs⟩⟩ <;> try (simp at h; done)
    cases v <;> simp at h
    obtain ⟨rfl, _⟩ := h
    exact ⟨_, rfl⟩
theorem Rd.string (h : Rd enc P w spare held t d) (ht : P.underlying t = some .string) : ∃ l : List UInt8, d = .lit (.string l) := by
  obtain ⟨fuel, cs, ps, h⟩ := h
  cases fuel with
  | zero => simp [DataW.trod] at h
  | succ fuel =>
    unfold DataW.trod at h
    rw [ht] at h
    rcases cs with _ | ⟨v, _ | ⟨v2, cs⟩⟩ <;> try (simp at h; done)
    cases v <;> simp at h
    obtain ⟨_, rfl, _⟩ := h
    exact ⟨_, rfl⟩
theorem Rd.slice (h : Rd enc P w spare held t d) (ht : P.underlying t = some (.slice e)) : d = .nil ∨ ∃ elems rest, d = .slice elems rest ∧ ∀ x ∈ elems, Rd enc P w spare held e x := by
  obtain ⟨fuel, cs, ps, h⟩ := h
  cases fuel with
  | zero => simp [DataW.trod] at h
  | succ fuel =>
    unfold DataW.trod at h
    rw [ht] at h
    rcases cs with _ | ⟨v, _ | ⟨v2, cs⟩⟩ <;> try (simp at h; done)
    cases v <;> try (simp at h; done)
    rename_i a len cap
    cases a with
    | none =>
      cases len <;> cases cap <;> simp at h
      obtain ⟨rfl, rfl⟩ := h
      exact .inl rfl
    | some a =>
      simp only at h
      split at h
      · simp only [Option.bind_eq_some_iff, Option.map_eq_some_iff] at h
        obtain ⟨elems, hm, rest, hr, hd⟩ := h
        cases hd
        refine .inr ⟨_, _, rfl, fun x hx => ?_⟩
        obtain ⟨y, hy, rfl⟩ := List.mem_map.1 hx
        have hlen : elems.length = len := by simpa using mapM_some_length hm
        have hget := mapM_some_get hm
        obtain ⟨i, hi⟩ := List.getElem?_of_mem hy
        have hil : i < len := by have := lt_get hi; omega
        have h1 := hget i i (by simp [hil])
        rw [hi] at h1
        obtain ⟨cs, _, hx⟩ := Option.bind_eq_some_iff.1 h1
        exact ⟨fuel, cs, y.2, hx⟩
      · cases h
theorem mapM_all2 {α β : Type} {f : α → Option β} : ∀ {l : List α} {m : List β}, l.mapM f = some m → All2 (fun a b => f a = some b) l m
  | [], m, h => by simp at h; subst h; exact .nil
  | a :: l, m, h => by
    rw [List.mapM_cons] at h
    cases h1 : f a with
    | none => rw [h1] at h; simp at h
    | some b =>
      rw [h1] at h
      cases h2 : l.mapM f with
      | none => rw [h2] at h; simp at h
      | some ys => rw [h2] at h; simp at h; subst h; exact .cons h1 (mapM_all2 h2)
theorem All2.mapR {α β γ : Type} {R : α → γ → Prop} {f : β → γ} : ∀ {l : List α} {m : List β}, All2 (fun a b => R a (f b)) l m → All2 R l (m.map f)
  | _, _, .nil => .nil
  | _, _, .cons a t => .cons a t.mapR
theorem Rd.struct {fs : Array Field} (h : Rd enc P w spare held t d) (ht : P.underlying t = some (.struct fs)) : ∃ parts, d = .agg parts ∧ All2 (fun (f : Field) x => Rd enc P w spare held f.type x) fs.toList parts := by
  obtain ⟨fuel, cs, ps, h⟩ := h
  cases fuel with
  | zero => simp [DataW.trod] at h
  | succ fuel =>
    unfold DataW.trod at h
    rw [ht] at h
    simp only at h
    split at h
    · obtain ⟨xs, hx, hd⟩ := Option.map_eq_some_iff.1 h
      cases hd
      refine ⟨_, rfl, ?_⟩
      exact ((mapM_all2 hx).mono fun f x hfx => (⟨fuel, _, _, hfx⟩ : Rd enc P w spare held f.type x.1)).mapR
    · cases h
theorem Rd.array {n : Nat} (h : Rd enc P w spare held t d) (ht : P.underlying t = some (.array n e)) : ∃ parts, d = .agg parts ∧ parts.length = n ∧ ∀ x ∈ parts, Rd enc P w spare held e x := by
  obtain ⟨fuel, cs, ps, h⟩ := h
  cases fuel with
  | zero => simp [DataW.trod] at h
  | succ fuel =>
    unfold DataW.trod at h
    rw [ht] at h
    simp only at h
    split at h
    · obtain ⟨xs, hx, hd⟩ := Option.map_eq_some_iff.1 h
      cases hd
      have h1 := mapM_all2 hx
      refine ⟨_, rfl, by have := h1.len; simp at this; simp [← this], fun x hx' => ?_⟩
      obtain ⟨y, hy, rfl⟩ := List.mem_map.1 hx'
      have key : ∀ {l : List Nat} {m : List (DataW H × List MemPlace)}, All2 (fun i x => DataW.trod enc P w 0 spare held fuel e ((cs.drop (i * P.cellsOf e)).take (P.cellsOf e)) = some x) l m → ∀ y ∈ m, Rd enc P w spare held e y.1 := by
        intro l m h
        induction h with
        | nil => intro y hy; cases hy
        | cons a t ih =>
          intro y hy
          rcases List.mem_cons.1 hy with rfl | hy
          · exact ⟨fuel, _, _, a⟩
          · exact ih y hy
      exact key h1 y hy
    · cases h
end
theorem sl_of {H α : Type} {s : Nat} {f : α → List D} {Q : α → DataW H → Prop} {elems rest : List (DataW H)} (h : ∀ x ∈ elems, ∃ a, (dval x).cells? = some (dval x).cells ∧ (dval x).cells = f a ∧ (f a).length = s ∧ Q a x) :
    ∃ ws : List α, SlD (dval (.slice elems rest)) s (ws.map f) ∧ ws.length = elems.length ∧ ∀ a ∈ ws, ∃ x ∈ elems, Q a x := by
  have key : ∃ ws : List α, (elems.map dval).map D.cells = ws.map f ∧ (∀ d ∈ elems.map dval, d.cells? = some d.cells ∧ d.cells.length = s) ∧ ws.length = elems.length ∧ ∀ a ∈ ws, ∃ x ∈ elems, Q a x := by
    induction elems with
    | nil => exact ⟨[], rfl, fun d hd => (by cases hd), rfl, fun a ha => by cases ha⟩
    | cons x l ih =>
      obtain ⟨ws, h1, h2, h3, h4⟩ := ih fun y hy => h y (List.mem_cons_of_mem _ hy)
      obtain ⟨a, g1, g2, g3, g4⟩ := h x (List.mem_cons_self ..)
      refine ⟨a :: ws, by simp only [List.map_cons, h1, g2], fun d hd => ?_, by simp [h3], fun b hb => ?_⟩
      · simp only [List.map_cons, List.mem_cons] at hd
        rcases hd with rfl | hd
        · exact ⟨g1, by rw [g2]; exact g3⟩
        · exact h2 d hd
      · rcases List.mem_cons.1 hb with rfl | hb
        · exact ⟨x, List.mem_cons_self .., g4⟩
        · obtain ⟨y, hy, hq⟩ := h4 b hb
          exact ⟨y, List.mem_cons_of_mem _ hy, hq⟩
  obtain ⟨ws, h1, h2, h3, h4⟩ := key
  refine ⟨ws, .inr ⟨elems.map dval, ?_, h1, h2⟩, h3, h4⟩
  show D.sl (dels elems) = _
  rw [dels_map]
end Go.V
namespace Go.Proofs.YtopaaegigcfkeaaGreat
open Go.V Go
def ixF_Ftf (fr : Go.V.Fr) (k : Nat) : Go.V.D := Go.V.nth .junk fr.loc k
theorem fi0_72 : pv0.fi 72 = some ⟨Tryz.f72, 9, .ro, true, none, []⟩ := by kernel_rfl
theorem quoT_op (n : Nat) (hn : n < 9223372036854775808) (st : St) : (binD pv0 .quo 3 (.int .i64 (n : Nat)) (.int .i64 2)).map (fun d => (d, st)) = some (.int .i64 ((n / 2 : Nat) : Int), st) := by
  show Option.map _ (if (2 : Int) = 0 then none else some (D.int .i64 (wrapD .i64 (((n : Nat) : Int).tdiv 2)))) = _
  rw [if_neg (by decide), show ((n : Nat) : Int).tdiv 2 = ((n / 2 : Nat) : Int) from (Int.ofNat_tdiv n 2).symm, wrap_nat (by simp only [maxN]; omega)]; rfl
theorem fl_len (l : List Fl) : ∀ e ∈ l.map flC, e.length = 3 := by
  intro e he; obtain ⟨r, _, rfl⟩ := List.mem_map.1 he; rfl
theorem fl_get {l : List Fl} {i : Nat} {r : Fl} (h : l[i]? = some r) : (l.map flC)[i]? = some (flC r) := by rw [List.getElem?_map, h]; rfl
theorem tab_rows {st : St} {x : D} {l : List Fl} (h : tabD st x = some l) : V.Rows st 3 x (l.map flC) ∧ l.length < 1000000 := by
  rcases tabD_some h with ⟨rfl, rfl⟩ | ⟨kl, vl, ol, c, rfl, hm, hf, hl, hr⟩
  · exact ⟨.nul, by simp⟩
  · refine ⟨?_, hl⟩
    have := V.Rows.win (st := st) (s := 3) kl vl ol (l.map flC) true c hm (by rw [List.length_map]; exact hf) (fun i e he => by
      have hil : i < l.length := by have := (List.getElem?_eq_some_iff.1 he).1; simpa using this
      have h1 := flat_at (fl_len l) i e he
      rw [← hr, List.drop_take, List.drop_drop, List.take_take, Nat.min_eq_left (by omega)] at h1
      exact h1)
    rw [List.length_map] at this
    exact this
theorem findLo_end (ks : List Int) (key : Int) : ∀ (f lo hi : Nat), ¬ lo < hi → findLo ks key f lo hi = lo
  | 0, lo, hi, _ => rfl
  | f + 1, lo, hi, h => by unfold findLo; rw [if_neg h]
theorem findLo_step {ks : List Int} {key : Int} {f lo hi : Nat} (h : lo < hi) (hf : hi - lo ≤ f) : ∃ f', (if decide (ks.getD ((lo + hi) / 2) 0 < key) = true then hi - ((lo + hi) / 2 + 1) else (lo + hi) / 2 - lo) ≤ f' ∧ findLo ks key f lo hi = (if decide (ks.getD ((lo + hi) / 2) 0 < key) = true then findLo ks key f' ((lo + hi) / 2 + 1) hi else findLo ks key f' lo ((lo + hi) / 2)) := by
  cases f with
  | zero => omega
  | succ f =>
    refine ⟨f, ?_, ?_⟩
    · split <;> omega
    · rw [findLo, if_pos h]
theorem key_at {l : List Fl} {i : Nat} {r : Fl} (h : l[i]? = some r) : (l.map (·.k)).getD i 0 = r.k := by
  rw [List.getD_eq_getElem?_getD, List.getElem?_map, h]; rfl
theorem find0_ev {s0 : St} {k ver off : Nat} {key : Int} {ar : Bool} {ct : List D} {x : D} {l : List Fl} (hm : s0.mem? k ver = some (ar, ct)) (hx : ct[off]? = some x) (ht : tabD s0 x = some l) : Ev pv0 72 [.ptr k ver off, .int .i64 key] s0 (.tup [.int .i64 (findT l key : Nat), .bool (thereT l key)]) s0 := by
  obtain ⟨hr, hll⟩ := tab_rows ht
  have hkl : k < s0.bs.length := (List.getElem?_eq_some_iff.1 (mem_spec hm).1).1
  have hofl : off < ct.length := (List.getElem?_eq_some_iff.1 hx).1
  have hcx : x.cells? = some [x] := by rcases tabD_some ht with ⟨rfl, _⟩ | ⟨kl, vl, ol, c, rfl, _⟩ <;> rfl
  refine Ev.mk1 rfl fi0_72 rfl rfl rfl ?_
  dsimp only [List.cons_append, List.nil_append, List.length, Nat.reduceSub, Nat.reduceAdd, List.replicate_succ, List.replicate_zero]
  have hSb : (enterSt .ro s0).bs = s0.bs := rfl
  have hF : (enterSt .ro s0).flr ≤ s0.bs.length := Nat.le_refl _
  have hH : Has s0.bs.length (enterSt .ro s0) (enterSt .ro s0) [] := Has.start (Nat.le_refl _) (Nat.le_refl _)
  generalize enterSt .ro s0 = S at *
  have hxa := Arg.of hr hSb
  have hpt : ∀ {st : St} {H : List Ent}, Has s0.bs.length S st H → PtTo st (.ptr k ver off) [x] := fun {st H} h => by
    refine .inl ⟨k, ver, off, ar, ct, rfl, ?_, ?_⟩
    · have h1 := (mem_spec hm).1
      unfold St.mem?
      rw [h.ex.low k hkl, hSb, h1]; simp
    · rw [List.drop_eq_getElem_cons hofl]
      rw [List.getElem?_eq_getElem hofl] at hx
      rw [Option.some.inj hx]; rfl
  try change EvC _ _ _ _ _ _
  repeat refine EvC.seq ?_
  try generalize hK : SeqQ _ _ _ _ = K
  refine EvC.reg ?_
  refine EvO.mv (.inr rfl) rfl (ev rfl) (by dsimp only [Fr.put, List.set_cons_succ, List.set_cons_zero] <;> rfl) ?_
  refine EvO.mv (.inr rfl) rfl (ev rfl) (by dsimp only [Fr.put, List.set_cons_succ, List.set_cons_zero] <;> rfl) ?_
  refine EvO.nil ?_
  try subst hK
  try change EvC _ _ _ _ _ _
  have hp1 := hpt hH
  try change EvC _ _ _ _ _ _
  repeat refine EvC.seq ?_
  try generalize hK : SeqQ _ _ _ _ = K
  refine EvC.reg ?_
  refine EvO.mv (.inl rfl) rfl (ev rfl) (put_T rfl _) ?_
  refine EvO.go (d := .ptr k ver off) (st1 := _) rfl rfl rfl (put_T rfl _) ?_
  refine EvO.pfield (fo := 0) (m := 0) (o := off) rfl (ev rfl) rfl rfl (Nat.add_zero _) (put_T rfl _) ?_
  first | refine EvO.hload hH rfl (ev rfl) (by first | exact at0 | exact at1 | exact at2 | exact at3 | exact at4 | exact at5 | exact at6 | exact at7) rfl (put_T rfl _) ?_ | refine EvO.rload rfl (ev rfl) (by assumption) rfl (put_T rfl _) ?_ | refine EvO.oload hH rfl (ev rfl) (by assumption) (by first | exact at0 | exact at1 | exact at2 | exact at3 | exact at4 | exact at5 | exact at6 | exact at7) (by assumption) rfl (put_T rfl _) ?_
  first | refine EvO.rlen rfl (ev rfl) (Arg.rows (by assumption) hH) rfl (put_T rfl _) ?_ | refine EvO.rlen rfl (ev rfl) (hH.rows (by first | exact at0 | exact at1 | exact at2 | exact at3 | exact at4 | exact at5 | exact at6 | exact at7)) rfl (put_T rfl _) ?_ | refine EvO.slen rfl rfl rfl (put_T rfl _) ?_ | refine EvO.go rfl rfl rfl (put_T rfl _) ?_
  try simp only [List.length_map, List.length_append, List.length_cons, List.length_nil, List.length_set, List.length_replicate, List.length_reverse]
  refine EvO.mv (.inr rfl) rfl (ev rfl) (by dsimp only [Fr.put, List.set_cons_succ, List.set_cons_zero] <;> rfl) ?_
  refine EvO.mv (.inr rfl) rfl (ev rfl) (by dsimp only [Fr.put, List.set_cons_succ, List.set_cons_zero] <;> rfl) ?_
  refine EvO.nil ?_
  try subst hK
  try change EvC _ _ _ _ _ _
  try change EvC _ _ _ _ _ _
  repeat refine EvC.seq ?_
  refine EvC.block ?_
  refine EvC.loop (fun mm fr st => ∃ (lo hi : Nat), fr.clean = ⟨9, [.ptr k ver off, .int .i64 key, ixF_Ftf fr 2, ixF_Ftf fr 3, ixF_Ftf fr 4, ixF_Ftf fr 5, .int .i64 (lo : Nat), .int .i64 (hi : Nat), ixF_Ftf fr 8], []⟩ ∧ Has s0.bs.length S st [] ∧ (hi - lo ≤ mm) ∧ (lo ≤ hi) ∧ (hi ≤ l.length) ∧ (∃ f, hi - lo ≤ f ∧ findLo (l.map (·.k)) key f lo hi = findT l key)) (l.length) ?_ ?_
  · exact ⟨0, l.length, rfl, hH, by omega, by omega, by omega, ⟨l.length, by omega, rfl⟩⟩
  rintro mm fr st ⟨lo, hi, hfr, hH, hmm, hlh, hhl, hfd⟩
  rw [hfr]
  clear hfr
  try generalize ixF_Ftf fr = ee
  clear fr
  try change EvC _ _ _ _ _ _
  try change EvC _ _ _ _ _ _
  repeat refine EvC.seq ?_
  try generalize hK : SeqQ _ _ _ _ = K
  refine EvC.reg ?_
  refine EvO.mv (.inl rfl) rfl (ev rfl) (put_T rfl _) ?_
  refine EvO.mv (.inl rfl) rfl (ev rfl) (put_T rfl _) ?_
  refine EvO.go rfl rfl rfl (put_T rfl _) ?_
  refine EvO.nil ?_
  try subst hK
  try change EvC _ _ _ _ _ _
  try change EvC _ _ _ _ _ _
  repeat refine EvC.seq ?_
  refine EvC.cond (by first | rfl | assumption) (fun hlt => ?_) (fun hlt => ?_) <;> try simp only [decide_eq_true_eq, decide_eq_false_iff_not, beq_iff_eq, beq_eq_false_iff_ne, bne_iff_ne, bne_eq_false_iff_eq, ne_eq, Bool.not_eq_true', Bool.not_eq_false', Bool.not_eq_true, Bool.not_eq_false] at hlt
  · have hlt : lo < hi := by omega
    obtain ⟨f, hf1, hf2⟩ := hfd
    obtain ⟨f', hg1, hg2⟩ := findLo_step (ks := l.map (·.k)) (key := key) hlt hf1
    obtain ⟨r, hr0⟩ : ∃ r, l[(lo + hi) / 2]? = some r := ⟨l[(lo + hi) / 2]'(by omega), List.getElem?_eq_getElem _⟩
    have hr1 := fl_get hr0
    rw [key_at hr0] at hg1 hg2
    refine EvC.skip ?_
    try change EvC _ _ _ _ _ _
    try change EvC _ _ _ _ _ _
    repeat refine EvC.seq ?_
    refine EvC.block ?_
    try change EvC _ _ _ _ _ _
    repeat refine EvC.seq ?_
    try generalize hK : SeqQ _ _ _ _ = K
    refine EvC.reg ?_
    refine EvO.mv (.inl rfl) rfl (ev rfl) (put_T rfl _) ?_
    refine EvO.mv (.inl rfl) rfl (ev rfl) (put_T rfl _) ?_
    refine EvO.addZ (z := ((lo + hi : Nat) : Int)) rfl (ev rfl) (ev rfl) (by (try simp only [List.length_reverse, List.length_cons, List.length_nil, List.length_append, List.length_map, List.length_set]); first | (rw [wrap_i64 (by omega) (by omega)] <;> omega) | (rw [wrap_i32 (by omega) (by omega)] <;> omega)) (put_T rfl _) ?_
    refine EvO.go (d := .int .i64 (((lo + hi) / 2 : Nat) : Int)) (st1 := _) rfl rfl (by exact quoT_op _ (by omega) _) (put_T rfl _) ?_
    refine EvO.mv (.inr rfl) rfl (ev rfl) (by dsimp only [Fr.put, List.set_cons_succ, List.set_cons_zero] <;> rfl) ?_
    refine EvO.nil ?_
    try subst hK
    try change EvC _ _ _ _ _ _
    have hp1 := hpt hH
    try change EvC _ _ _ _ _ _
    repeat refine EvC.seq ?_
    try generalize hK : SeqQ _ _ _ _ = K
    refine EvC.reg ?_
    refine EvO.mv (.inl rfl) rfl (ev rfl) (put_T rfl _) ?_
    refine EvO.go (d := .ptr k ver off) (st1 := _) rfl rfl rfl (put_T rfl _) ?_
    refine EvO.pfield (fo := 0) (m := 0) (o := off) rfl (ev rfl) rfl rfl (Nat.add_zero _) (put_T rfl _) ?_
    first | refine EvO.hload hH rfl (ev rfl) (by first | exact at0 | exact at1 | exact at2 | exact at3 | exact at4 | exact at5 | exact at6 | exact at7) rfl (put_T rfl _) ?_ | refine EvO.rload rfl (ev rfl) (by assumption) rfl (put_T rfl _) ?_ | refine EvO.oload hH rfl (ev rfl) (by assumption) (by first | exact at0 | exact at1 | exact at2 | exact at3 | exact at4 | exact at5 | exact at6 | exact at7) (by assumption) rfl (put_T rfl _) ?_
    refine EvO.mv (.inl rfl) rfl (ev rfl) (put_T rfl _) ?_
    first | refine EvO.ridx rfl (ev rfl) (ev rfl) (Arg.rows (by assumption) hH) rfl rfl (by assumption) (fun _ => (put_T rfl _)) (fun p26 hp26 => ?_) | refine EvO.oidx hH rfl (ev rfl) (ev rfl) (by first | exact at0 | exact at1 | exact at2 | exact at3 | exact at4 | exact at5 | exact at6 | exact at7) rfl rfl (by first | exact lt_get (by assumption) | omega | (simp only [List.length_map, List.length_append, List.length_cons, List.length_nil, List.length_set, List.length_replicate] <;> omega)) (fun _ => (put_T rfl _)) (fun p26 hp26 => ?_)
    first | refine EvO.rfieldN (fo := 0) (m := 0) rfl (ev rfl) (by assumption) rfl rfl (fun _ => (put_T rfl _)) (fun p27 hp27 => ?_) | refine EvO.ofieldN (fo := 0) (m := 0) (o2 := 0) rfl (ev rfl) (by assumption) rfl rfl rfl (fun _ => (put_T rfl _)) (fun p27 hp27 => ?_)
    first | refine EvO.rload rfl (ev rfl) (by assumption) rfl (put_T rfl _) ?_ | refine EvO.oload hH rfl (ev rfl) (by assumption) (by first | exact at0 | exact at1 | exact at2 | exact at3 | exact at4 | exact at5 | exact at6 | exact at7) (by assumption) rfl (put_T rfl _) ?_ | refine EvO.hload hH rfl (ev rfl) (by first | exact at0 | exact at1 | exact at2 | exact at3 | exact at4 | exact at5 | exact at6 | exact at7) rfl (put_T rfl _) ?_
    refine EvO.mv (.inl rfl) rfl (ev rfl) (put_T rfl _) ?_
    refine EvO.go (d := .bool (decide (r.k < key))) (st1 := _) rfl rfl rfl (put_T rfl _) ?_
    refine EvO.nil ?_
    try subst hK
    try change EvC _ _ _ _ _ _
    cases hb : decide (r.k < key) with
    | true =>
      rw [hb, if_pos rfl] at hg1
      rw [hb, if_pos rfl] at hg2
      try change EvC _ _ _ _ _ _
      repeat refine EvC.seq ?_
      refine EvC.cond (v := true) (by first | assumption | (dsimp only [Fr.ev, Fr.get, nth, Go.V.look]; done)) (fun _ => ?_) (fun h => by cases h)
      try change EvC _ _ _ _ _ _
      try change EvC _ _ _ _ _ _
      repeat refine EvC.seq ?_
      try generalize hK : SeqQ _ _ _ _ = K
      refine EvC.reg ?_
      refine EvO.mv (.inl rfl) rfl (ev rfl) (put_T rfl _) ?_
      refine EvO.addZ (z := (((lo + hi) / 2 + 1 : Nat) : Int)) rfl (ev rfl) (ev rfl) (by (try simp only [List.length_reverse, List.length_cons, List.length_nil, List.length_append, List.length_map, List.length_set]); first | (rw [wrap_i64 (by omega) (by omega)] <;> omega) | (rw [wrap_i32 (by omega) (by omega)] <;> omega)) (put_T rfl _) ?_
      refine EvO.mv (.inr rfl) rfl (ev rfl) (by dsimp only [Fr.put, List.set_cons_succ, List.set_cons_zero] <;> rfl) ?_
      refine EvO.nil ?_
      try subst hK
      try change EvC _ _ _ _ _ _
      exact ⟨mm - 1, by omega, ⟨(lo + hi) / 2 + 1, hi, rfl, hH, by omega, by omega, by omega, ⟨f', hg1, by rw [← hg2]; exact hf2⟩⟩⟩
    | false =>
      rw [hb, if_neg (by simp)] at hg1
      rw [hb, if_neg (by simp)] at hg2
      try change EvC _ _ _ _ _ _
      repeat refine EvC.seq ?_
      refine EvC.cond (v := false) (by first | assumption | (dsimp only [Fr.ev, Fr.get, nth, Go.V.look]; done)) (fun h => by cases h) (fun _ => ?_)
      try change EvC _ _ _ _ _ _
      try change EvC _ _ _ _ _ _
      repeat refine EvC.seq ?_
      try generalize hK : SeqQ _ _ _ _ = K
      refine EvC.reg ?_
      refine EvO.mv (.inl rfl) rfl (ev rfl) (put_T rfl _) ?_
      refine EvO.mv (.inr rfl) rfl (ev rfl) (by dsimp only [Fr.put, List.set_cons_succ, List.set_cons_zero] <;> rfl) ?_
      refine EvO.nil ?_
      try subst hK
      try change EvC _ _ _ _ _ _
      exact ⟨mm - 1, by omega, ⟨lo, (lo + hi) / 2, rfl, hH, by omega, by omega, by omega, ⟨f', hg1, by rw [← hg2]; exact hf2⟩⟩⟩
  · try change EvC _ _ _ _ _ _
    refine EvC.exit ?_
    try change EvC _ _ _ _ _ _
    obtain ⟨f, hf1, hf2⟩ := hfd
    rw [findLo_end _ _ _ _ _ (by omega)] at hf2
    subst hf2
    have hp1 := hpt hH
    by_cases hin : findT l key < l.length
    · have hg8 : decide (((findT l key : Nat) : Int) < ((l.length : Nat) : Int)) = true := by rw [decide_eq_true_eq]; omega
      obtain ⟨r, hr0⟩ : ∃ r, l[findT l key]? = some r := ⟨l[findT l key]'hin, List.getElem?_eq_getElem _⟩
      have hr1 := fl_get hr0
      have hth : thereT l key = (r.k == key) := by unfold thereT; rw [decide_eq_true hin, key_at hr0]; rfl
      rw [hth]
      try change EvC _ _ _ _ _ _
      repeat refine EvC.seq ?_
      try generalize hK : SeqQ _ _ _ _ = K
      refine EvC.reg ?_
      refine EvO.mv (.inl rfl) rfl (ev rfl) (put_T rfl _) ?_
      refine EvO.mv (.inl rfl) rfl (ev rfl) (put_T rfl _) ?_
      refine EvO.mv (.inl rfl) rfl (ev rfl) (put_T rfl _) ?_
      refine EvO.go (d := .ptr k ver off) (st1 := _) rfl rfl rfl (put_T rfl _) ?_
      refine EvO.pfield (fo := 0) (m := 0) (o := off) rfl (ev rfl) rfl rfl (Nat.add_zero _) (put_T rfl _) ?_
      first | refine EvO.hload hH rfl (ev rfl) (by first | exact at0 | exact at1 | exact at2 | exact at3 | exact at4 | exact at5 | exact at6 | exact at7) rfl (put_T rfl _) ?_ | refine EvO.rload rfl (ev rfl) (by assumption) rfl (put_T rfl _) ?_ | refine EvO.oload hH rfl (ev rfl) (by assumption) (by first | exact at0 | exact at1 | exact at2 | exact at3 | exact at4 | exact at5 | exact at6 | exact at7) (by assumption) rfl (put_T rfl _) ?_
      first | refine EvO.rlen rfl (ev rfl) (Arg.rows (by assumption) hH) rfl (put_T rfl _) ?_ | refine EvO.rlen rfl (ev rfl) (hH.rows (by first | exact at0 | exact at1 | exact at2 | exact at3 | exact at4 | exact at5 | exact at6 | exact at7)) rfl (put_T rfl _) ?_ | refine EvO.slen rfl rfl rfl (put_T rfl _) ?_ | refine EvO.go rfl rfl rfl (put_T rfl _) ?_
      try simp only [List.length_map, List.length_append, List.length_cons, List.length_nil, List.length_set, List.length_replicate, List.length_reverse]
      refine EvO.go rfl rfl rfl (put_T rfl _) ?_
      refine EvO.mv (.inl rfl) rfl (ev rfl) (put_T rfl _) ?_
      refine EvO.mv (.inl rfl) (wantD_is rfl rfl rfl hg8) (ev rfl) (put_T rfl _) ?_
      refine EvO.go (d := .ptr k ver off) (st1 := _) (wantD_is rfl rfl rfl hg8) rfl rfl (put_T rfl _) ?_
      refine EvO.pfield (fo := 0) (m := 0) (o := off) (wantD_is rfl rfl rfl hg8) (ev rfl) rfl rfl (Nat.add_zero _) (put_T rfl _) ?_
      first | refine EvO.hload hH (wantD_is rfl rfl rfl hg8) (ev rfl) (by first | exact at0 | exact at1 | exact at2 | exact at3 | exact at4 | exact at5 | exact at6 | exact at7) rfl (put_T rfl _) ?_ | refine EvO.rload (wantD_is rfl rfl rfl hg8) (ev rfl) (by assumption) rfl (put_T rfl _) ?_ | refine EvO.oload hH (wantD_is rfl rfl rfl hg8) (ev rfl) (by assumption) (by first | exact at0 | exact at1 | exact at2 | exact at3 | exact at4 | exact at5 | exact at6 | exact at7) (by assumption) rfl (put_T rfl _) ?_
      refine EvO.mv (.inl rfl) (wantD_is rfl rfl rfl hg8) (ev rfl) (put_T rfl _) ?_
      first | refine EvO.ridx (wantD_is rfl rfl rfl hg8) (ev rfl) (ev rfl) (Arg.rows (by assumption) hH) rfl rfl (by assumption) (fun _ => (put_T rfl _)) (fun p48 hp48 => ?_) | refine EvO.oidx hH (wantD_is rfl rfl rfl hg8) (ev rfl) (ev rfl) (by first | exact at0 | exact at1 | exact at2 | exact at3 | exact at4 | exact at5 | exact at6 | exact at7) rfl rfl (by first | exact lt_get (by assumption) | omega | (simp only [List.length_map, List.length_append, List.length_cons, List.length_nil, List.length_set, List.length_replicate] <;> omega)) (fun _ => (put_T rfl _)) (fun p48 hp48 => ?_)
      first | refine EvO.rfieldN (fo := 0) (m := 0) (wantD_is rfl rfl rfl hg8) (ev rfl) (by assumption) rfl rfl (fun _ => (put_T rfl _)) (fun p49 hp49 => ?_) | refine EvO.ofieldN (fo := 0) (m := 0) (o2 := 0) (wantD_is rfl rfl rfl hg8) (ev rfl) (by assumption) rfl rfl rfl (fun _ => (put_T rfl _)) (fun p49 hp49 => ?_)
      first | refine EvO.rload (wantD_is rfl rfl rfl hg8) (ev rfl) (by assumption) rfl (put_T rfl _) ?_ | refine EvO.oload hH (wantD_is rfl rfl rfl hg8) (ev rfl) (by assumption) (by first | exact at0 | exact at1 | exact at2 | exact at3 | exact at4 | exact at5 | exact at6 | exact at7) (by assumption) rfl (put_T rfl _) ?_ | refine EvO.hload hH (wantD_is rfl rfl rfl hg8) (ev rfl) (by first | exact at0 | exact at1 | exact at2 | exact at3 | exact at4 | exact at5 | exact at6 | exact at7) rfl (put_T rfl _) ?_
      refine EvO.mv (.inl rfl) (wantD_is rfl rfl rfl hg8) (ev rfl) (put_T rfl _) ?_
      refine EvO.go (wantD_is rfl rfl rfl hg8) rfl rfl (put_T rfl _) ?_
      refine EvO.pickT rfl rfl hg8 (put_T rfl _) ?_
      refine EvO.mv (.inr rfl) rfl (ev rfl) (by dsimp only [Fr.put, List.set_cons_succ, List.set_cons_zero] <;> rfl) ?_
      refine EvO.mv (.inr rfl) rfl (ev rfl) (by dsimp only [Fr.put, List.set_cons_succ, List.set_cons_zero] <;> rfl) ?_
      refine EvO.nil ?_
      try subst hK
      try change EvC _ _ _ _ _ _
      refine EvC.ret ⟨fun i h => (by cases h), _, rfl, leave_ro (by simp) hSb hH (rfl)⟩
    · have hg8 : decide (((findT l key : Nat) : Int) < ((l.length : Nat) : Int)) = false := by rw [decide_eq_false_iff_not]; omega
      have hth : thereT l key = false := by unfold thereT; rw [decide_eq_false hin]; rfl
      rw [hth]
      try change EvC _ _ _ _ _ _
      repeat refine EvC.seq ?_
      try generalize hK : SeqQ _ _ _ _ = K
      refine EvC.reg ?_
      refine EvO.mv (.inl rfl) rfl (ev rfl) (put_T rfl _) ?_
      refine EvO.mv (.inl rfl) rfl (ev rfl) (put_T rfl _) ?_
      refine EvO.mv (.inl rfl) rfl (ev rfl) (put_T rfl _) ?_
      refine EvO.go (d := .ptr k ver off) (st1 := _) rfl rfl rfl (put_T rfl _) ?_
      refine EvO.pfield (fo := 0) (m := 0) (o := off) rfl (ev rfl) rfl rfl (Nat.add_zero _) (put_T rfl _) ?_
      first | refine EvO.hload hH rfl (ev rfl) (by first | exact at0 | exact at1 | exact at2 | exact at3 | exact at4 | exact at5 | exact at6 | exact at7) rfl (put_T rfl _) ?_ | refine EvO.rload rfl (ev rfl) (by assumption) rfl (put_T rfl _) ?_ | refine EvO.oload hH rfl (ev rfl) (by assumption) (by first | exact at0 | exact at1 | exact at2 | exact at3 | exact at4 | exact at5 | exact at6 | exact at7) (by assumption) rfl (put_T rfl _) ?_
      first | refine EvO.rlen rfl (ev rfl) (Arg.rows (by assumption) hH) rfl (put_T rfl _) ?_ | refine EvO.rlen rfl (ev rfl) (hH.rows (by first | exact at0 | exact at1 | exact at2 | exact at3 | exact at4 | exact at5 | exact at6 | exact at7)) rfl (put_T rfl _) ?_ | refine EvO.slen rfl rfl rfl (put_T rfl _) ?_ | refine EvO.go rfl rfl rfl (put_T rfl _) ?_
      try simp only [List.length_map, List.length_append, List.length_cons, List.length_nil, List.length_set, List.length_replicate, List.length_reverse]
      refine EvO.go rfl rfl rfl (put_T rfl _) ?_
      refine EvO.mv (.inl rfl) rfl (ev rfl) (put_T rfl _) ?_
      refine EvO.skip (wantD_not rfl rfl rfl hg8) (put_T rfl _) ?_
      refine EvO.skip (wantD_not rfl rfl rfl hg8) (put_T rfl _) ?_
      refine EvO.skip (wantD_not rfl rfl rfl hg8) (put_T rfl _) ?_
      refine EvO.skip (wantD_not rfl rfl rfl hg8) (put_T rfl _) ?_
      refine EvO.skip (wantD_not rfl rfl rfl hg8) (put_T rfl _) ?_
      refine EvO.skip (wantD_not rfl rfl rfl hg8) (put_T rfl _) ?_
      refine EvO.skip (wantD_not rfl rfl rfl hg8) (put_T rfl _) ?_
      refine EvO.skip (wantD_not rfl rfl rfl hg8) (put_T rfl _) ?_
      refine EvO.skip (wantD_not rfl rfl rfl hg8) (put_T rfl _) ?_
      refine EvO.skip (wantD_not rfl rfl rfl hg8) (put_T rfl _) ?_
      refine EvO.pickF rfl rfl hg8 (put_T rfl _) ?_
      refine EvO.mv (.inr rfl) rfl (ev rfl) (by dsimp only [Fr.put, List.set_cons_succ, List.set_cons_zero] <;> rfl) ?_
      refine EvO.mv (.inr rfl) rfl (ev rfl) (by dsimp only [Fr.put, List.set_cons_succ, List.set_cons_zero] <;> rfl) ?_
      refine EvO.nil ?_
      try subst hK
      try change EvC _ _ _ _ _ _
      refine EvC.ret ⟨fun i h => (by cases h), _, rfl, leave_ro (by simp) hSb hH (rfl)⟩
end Go.Proofs.YtopaaegigcfkeaaGreat
namespace Go.Proofs.YtopaaegigcfkeaaGreat
open Go.Shelf Go.RowKit Go.Lib
def zrow : List Value := [.int .i64 0, .string ⟨#[]⟩, .slice none 0 0]
theorem rowZero : (Tryz.prog.info? 185).map (fun i => i.zero.map fun z => z.cells.toList) = some (some zrow) := by kernel_rfl
theorem run_clear3 (w : World) (ty : TypeId) (b o c : Nat) (hc : ∀ j, j < 3 → (w.cell? ⟨b, o + j, none⟩).isSome = true) (hf : ∀ j, j < 3 → w.frozen? ⟨b, o + j, none⟩ = false) :
    (Builtin.clear_ #[165] ty #[.slice (some ⟨b, o, none⟩) 1 c]).run Tryz.prog w = .ok (.tuple #[]) (w.setCells b o zrow) := by
  have hr := rowZero
  cases hi : Tryz.prog.info? 185 with
  | none => rw [hi] at hr; cases hr
  | some i =>
    rw [hi] at hr
    simp only [Option.map_some, Option.some.injEq] at hr
    cases hz : i.zero with
    | none => rw [hz] at hr; cases hr
    | some z =>
      rw [hz] at hr
      simp only [Option.map_some, Option.some.injEq] at hr
      have hzs : z.cells.size = 3 := by have := congrArg List.length hr; simpa [zrow] using this
      have hzc : (Builtin.zeroCells z.cells 1).toList = zrow := by
        rw [← hr]
        simp only [Builtin.zeroCells]
        apply List.ext_getElem
        · simp
        · intro j h1 h2
          have hj : j < z.cells.size := by simpa using h2
          simp [Nat.mod_eq_of_lt hj, getElem!_pos z.cells j hj]
      have hst := run_storeCells_cells (P := Tryz.prog) b o zrow 0 w (by simpa [zrow] using hc) (by simpa [zrow] using hf) (by intro v hv; simp only [zrow, List.mem_cons, List.not_mem_nil, or_false] at hv; rcases hv with rfl | rfl | rfl <;> rfl)
      simp only [Nat.add_zero] at hst
      have hzv : (zeroValue 185).run Tryz.prog w = .ok z w := by simp [zeroValue, typeInfo, hi, hz]
      simp [Builtin.clear_, run_underlying Tryz.underlying165, hzv, hzc, hst]
set_option maxHeartbeats 4000000 in
set_option maxRecDepth 1000000 in
theorem del_walk (b off n c i : Nat) (cs : List Value) (w : World) (hi : i < n) (hnc : n ≤ c) (hcl : cs.length = n * 3)
    (hcs : ∀ (j : Nat) v, cs[j]? = some v → w.cell? ⟨b, off + j, none⟩ = some v) (hfz : ∀ j, j < n * 3 → w.frozen? ⟨b, off + j, none⟩ = false) (h1c : ∀ v ∈ cs, v.oneCell' = true) :
    Calls Tryz.prog 74 #[.slice (some ⟨b, off, none⟩) n c, .int .i64 i, .int .i64 ((i : Int) + 1)] w fun e w' =>
      e = .returned (.slice (some ⟨b, off, none⟩) (n - 1) c) ∧ w' = (w.drew.setCells b (off + i * 3) (cs.drop ((i + 1) * 3))).setCells b (off + (n - 1) * 3) zrow := by
  have mixed : Tryz.prog.follows Departure.mixedOrders = true := by kernel_rfl
  have u1 := run_underlying Tryz.underlying165
  have u3 := run_underlying Tryz.underlying3
  have z1 := Tryz.sizeOf185
  obtain ⟨i0, hi0, hz1⟩ : ∃ i0, Tryz.prog.info? 185 = some i0 ∧ i0.size = 3 := by
    have := rowInfo
    cases h : Tryz.prog.info? 185 with
    | none => rw [h] at this; cases this
    | some i => rw [h] at this; exact ⟨i, rfl, by simpa using this⟩
  have hdl : (cs.drop ((i + 1) * 3)).length = (n - (i + 1)) * 3 := by rw [List.length_drop, hcl, Nat.sub_mul]
  have hcell : ∀ j, j < n * 3 → (w.cell? ⟨b, off + j, none⟩).isSome = true := fun j hj => by
    rw [hcs j _ (List.getElem?_eq_getElem (by omega))]; rfl
  obtain ⟨A, hA, hsrc⟩ : ∃ A : Addr, (if c = i + 1 then some (⟨b, off, none⟩ : Addr) else some ⟨b, off + (i + 1) * 3, none⟩) = some A ∧ (∀ t u, (cs.drop ((i + 1) * 3))[t]? = some u → w.drew.cell? (A.add t) = some u) := by
    by_cases h : c = i + 1
    · refine ⟨⟨b, off, none⟩, by simp [h], fun t u hu => ?_⟩
      have h0 : (cs.drop ((i + 1) * 3)).length = 0 := by rw [hdl]; omega
      rw [List.length_eq_zero_iff.1 h0] at hu
      simp at hu
    · refine ⟨⟨b, off + (i + 1) * 3, none⟩, by simp [h], fun t u hu => ?_⟩
      rw [List.getElem?_drop] at hu
      rw [Addr.add_lit, Nat.add_assoc]
      exact hcs _ u hu
  have hs2 : ∀ u ∈ cs.drop ((i + 1) * 3), u.oneCell' = true := fun u hu => h1c u (List.mem_of_mem_drop hu)
  have hs3 : ∀ t, t < (cs.drop ((i + 1) * 3)).length → (w.drew.cell? ⟨b, off + i * 3 + t, none⟩).isSome = true ∧ w.drew.frozen? ⟨b, off + i * 3 + t, none⟩ = false := fun t ht => by
    rw [hdl] at ht
    rw [Nat.add_assoc]
    exact ⟨hcell _ (by omega), hfz _ (by omega)⟩
  obtain ⟨W1, hW1⟩ : ∃ W1, W1 = w.drew.setCells b (off + i * 3) (cs.drop ((i + 1) * 3)) := ⟨_, rfl⟩
  have hn1 : i + (n - (i + 1)) = n - 1 := by omega
  have hcl1 : ∀ ty cc, (Builtin.clear_ #[165] ty #[.slice (some ⟨b, off + (n - 1) * 3, none⟩) 1 cc]).run Tryz.prog W1 = .ok (.tuple #[]) (W1.setCells b (off + (n - 1) * 3) zrow) := fun ty cc =>
    run_clear3 W1 ty b (off + (n - 1) * 3) cc (fun j hj => by rw [hW1, Nat.add_assoc]; exact isSome_set2 b _ _ _ (fun t ht => by rw [hdl] at ht; rw [Nat.add_assoc]; exact hcell _ (by omega)) _ (hcell _ (by omega)))
      (fun j hj => by rw [hW1, World.frozen?_setCells, Nat.add_assoc]; exact hfz _ (by omega))
  have hic : i ≤ c := by omega
  have hjc : i + 1 ≤ c := by omega
  have hne : ¬ ((i : Int) = (i : Int) + 1) := by omega
  have hb1 : (0 : Int) ≤ (i : Int) + 1 := by omega
  have htn : ((i : Int) + 1).toNat = i + 1 := by omega
  have hcn : ¬ (c = n - 1) := by omega
  have hij : (i : Int) + 1 ≤ (n : Int) := by omega
  have hin1 : n - 1 ≤ n := by omega
  have hnn : n - (n - 1) = 1 := by omega
  have hW : Hid (W1 = w.drew.setCells b (off + i * 3) (cs.drop ((i + 1) * 3))) := hW1
  clear hW1
  go_enter Tryz.func74, Tryz.ntmps74
  go_wp2_with fail
  go_region_law_o (refine step_append_room rfl (.tmp 22) (.tmp 25) 165 rfl 185 i0 3 Tryz.underlying165 hi0 hz1 b off i c (by simp [Act.eval, Act.put]) A (n - (i + 1)) (c - (i + 1)) (cs.drop ((i + 1) * 3)) (by simp [Act.eval, Act.put]) hdl hsrc hs2 (by omega) hs3 ?_; rw [← hW.out])
  go_wp2
  go_ret
  exact ⟨rfl, by rw [hW.out]⟩
end Go.Proofs.YtopaaegigcfkeaaGreat
namespace Go.Proofs.YtopaaegigcfkeaaGreat
open Go.V Go Go.RowKit
def zrowD : List D := [.int .i64 0, .str [], .nul]
def delF (kl vl ol n : Nat) (i : Int) (c : List D) (st : St) : Option (D × St) :=
  if 0 ≤ i ∧ i < n ∧ ol + n * 3 ≤ c.length ∧ n < 1000000 then
    (st.wr kl vl (ol + i.toNat * 3) (((c.drop ol).take (n * 3)).drop ((i.toNat + 1) * 3) ++ zrowD)).map fun st' => (.win kl vl ol (n - 1) 3, st')
  else none
def delP : List D → St → Option (D × St)
  | [.win kl vl ol n 3, .int .i64 i, .int .i64 j], st =>
    if j = i + 1 then (match st.mem? kl vl with
      | some (_, c) => delF kl vl ol n i c st
      | none => none) else none
  | _, _ => none
theorem delP_some {ds : List D} {st : St} {r : D × St} (h : delP ds st = some r) : ∃ kl vl ol n, ∃ i : Nat, ∃ ar c, ds = [.win kl vl ol n 3, .int .i64 i, .int .i64 ((i : Int) + 1)] ∧ st.mem? kl vl = some (ar, c) ∧ i < n ∧ ol + n * 3 ≤ c.length ∧ n < 1000000 ∧
    st.wr kl vl (ol + i * 3) (((c.drop ol).take (n * 3)).drop ((i + 1) * 3) ++ zrowD) = some r.2 ∧ r.1 = .win kl vl ol (n - 1) 3 := by
  unfold delP at h
  split at h
  · rename_i kl vl ol n i j
    split at h
    · rename_i hj
      subst hj
      split at h
      · rename_i ar c hm
        unfold delF at h
        split at h
        · rename_i hc
          obtain ⟨h0, h1, h2, h3⟩ := hc
          obtain ⟨k, rfl⟩ : ∃ k : Nat, i = k := ⟨i.toNat, by omega⟩
          obtain ⟨st', h4, h5⟩ := Option.map_eq_some_iff.1 h
          subst h5
          exact ⟨kl, vl, ol, n, k, ar, c, rfl, hm, by omega, h2, h3, h4, rfl⟩
        · cases h
      · cases h
    · cases h
  · cases h
theorem setCells_app {b : Nat} : ∀ (xs ys : List Value) (o : Nat) (w : World), w.setCells b o (xs ++ ys) = (w.setCells b o xs).setCells b (o + xs.length) ys
  | [], ys, o, w => rfl
  | x :: xs, ys, o, w => by
    show (w.setCell _ x).setCells b (o + 1) (xs ++ ys) = ((w.setCell _ x).setCells b (o + 1) xs).setCells b (o + (xs.length + 1)) ys
    rw [setCells_app xs ys (o + 1)]
    congr 1; omega
theorem lr_zrow {w : World} {x : X} : LR w x zrowD zrow := by
  refine ⟨rfl, ?_, ?_⟩
  · intro u hu; simp only [zrow, List.mem_cons, List.not_mem_nil, or_false] at hu; rcases hu with rfl | rfl | rfl <;> rfl
  · intro i c u hc hu
    match i, hc, hu with
    | 0, hc, hu => cases hc; cases hu; exact .im _ _ (.int _ _)
    | 1, hc, hu => cases hc; cases hu; exact .im _ _ (.str [])
    | 2, hc, hu => cases hc; cases hu; exact .im _ _ .nul
    | i + 3, hc, hu => simp [zrowD] at hc
theorem delP_ok {pv : Pv} (hro : isRo pv 74 = false) : PrimOk Tryz.prog pv 74 delP := by
  refine ⟨fun ds st r hp => ⟨Tryz.f74, _, Tryz.func74, rfl, by decide⟩, fun ds st d st' hp w β Z us hsim hle hargs => ?_, fun ds st d st' hp hr => (by rw [hro] at hr; cases hr), fun ds st d st' hp => ?_⟩
  · obtain ⟨kl, vl, ol, n, i, ar, c, rfl, hm, hi, hfit, hn, hw, hd⟩ := delP_some hp
    simp only at hw hd
    subst hd
    obtain ⟨u0, u1, u2, rfl⟩ : ∃ u0 u1 u2, us = [u0, u1, u2] := by
      match us, hle with
      | [a, b, c], _ => exact ⟨a, b, c, rfl⟩
    have e1 := vr_int (hargs 1 _ u1 rfl rfl)
    have e2 := vr_int (hargs 2 _ u2 rfl rfl)
    subst e1 e2
    obtain ⟨a, cap, rfl, hc, ⟨p, hp0⟩, hmx, hat⟩ := vr_win (hargs 0 _ u0 rfl rfl)
    obtain ⟨bl, basel, sz, hbl, hrs, had⟩ := hat (mem_spec hm).2
    obtain ⟨rfl, hsz⟩ := had.resolve_left (by omega)
    have hbl : β kl = some (bl, basel) := hbl
    obtain ⟨cl, el, fr, l1, l2, l3, l4⟩ := hsim.row hm hbl
    have hsz2 : sz = cl.size := by simp only [rowSize, l1] at hrs; cases hrs; rfl
    have hcs : ∀ (j : Nat) u, ((cl.toList.drop (basel + ol)).take (n * 3))[j]? = some u → j < n * 3 ∧ cl[basel + ol + j]? = some u := fun j u hj => by
      rw [List.getElem?_take] at hj
      split at hj
      · rw [List.getElem?_drop] at hj; exact ⟨by assumption, by simpa using hj⟩
      · cases hj
    have hcl : ((cl.toList.drop (basel + ol)).take (n * 3)).length = n * 3 := by simp; omega
    have h1c : ∀ v ∈ (cl.toList.drop (basel + ol)).take (n * 3), v.oneCell' = true := fun u hu => by
      obtain ⟨j, hj⟩ := List.getElem?_of_mem hu
      obtain ⟨h1, h2⟩ := hcs j u hj
      obtain ⟨u', h3, h4, _⟩ := l4 (ol + j) _ (List.getElem?_eq_getElem (by omega))
      rw [← Nat.add_assoc, h2] at h3
      cases h3; exact h4
    have hcell : ∀ (j : Nat) v, ((cl.toList.drop (basel + ol)).take (n * 3))[j]? = some v → w.cell? ⟨bl, basel + ol + j, none⟩ = some v := fun j v hj => by
      simp only [World.cell?, l1]
      rw [if_neg (by simp)]
      exact (hcs j v hj).2
    have hfz : ∀ j, j < n * 3 → w.frozen? ⟨bl, basel + ol + j, none⟩ = false := fun j hj => by
      simp only [World.frozen?, l1]
      have := l3.2 (basel + ol + j) (by omega)
      simpa using this
    have hrel : ∀ (j : Nat) d u, ((c.drop ol).take (n * 3))[j]? = some d → ((cl.toList.drop (basel + ol)).take (n * 3))[j]? = some u → VR w (st.x β Z) d u := fun j d u hd hu => by
      obtain ⟨h1, h2⟩ := hcs j u hu
      rw [List.getElem?_take, if_pos h1, List.getElem?_drop] at hd
      obtain ⟨u', h3, _, h5⟩ := l4 (ol + j) d hd
      rw [← Nat.add_assoc, h2] at h3
      cases h3; exact h5
    generalize hcsE : (cl.toList.drop (basel + ol)).take (n * 3) = cs at *
    have holdl : ((c.drop ol).take (n * 3)).length = n * 3 := by simp; omega
    generalize (c.drop ol).take (n * 3) = old at *
    have hlr : LR w.drew (st.x β Z) (old.drop ((i + 1) * 3) ++ zrowD) (cs.drop ((i + 1) * 3) ++ zrow) := by
      have hs : Nx w st β Z w.drew st β Z := Nx.still hsim rfl rfl rfl rfl
      refine (LR.mono (⟨by simp [holdl, hcl], fun u hu => h1c u (List.mem_of_mem_drop hu), fun j d u hd hu => ?_⟩ : LR w (st.x β Z) _ _) hs.keeps).append lr_zrow
      rw [List.getElem?_drop] at hd hu
      exact hrel _ d u hd hu
    have hs : Nx w st β Z w.drew st β Z := Nx.still hsim rfl rfl rfl rfl
    have h9 := wr_nx hs.sim hlr hw hbl
    rw [setCells_app] at h9
    have e3 : basel + (ol + i * 3) = basel + ol + i * 3 := by omega
    have e4 : basel + ol + i * 3 + (cs.drop ((i + 1) * 3)).length = basel + ol + (n - 1) * 3 := by rw [List.length_drop, hcl]; omega
    rw [e3, e4] at h9
    refine (del_walk bl (basel + ol) n cap i cs w hi hc hcl hcell hfz h1c).mono fun e w' => ?_
    rintro ⟨rfl, rfl⟩
    refine ⟨_, β, Z, rfl, hs.trans h9, ?_, fun h => by rw [hro] at h; cases h⟩
    have hver : st'.ver kl = some vl := by
      unfold St.wr at hw
      rw [hm] at hw
      simp only at hw
      split at hw
      · cases hw
        have hk := (List.getElem?_eq_some_iff.1 (mem_spec hm).1).1
        simp [St.ver, hk, boxVer]
      · cases hw
    refine .win kl vl ol (n - 1) 3 _ cap (by omega) ⟨p, hp0⟩ (fun q hq => ?_) fun _ => ⟨bl, basel, sz, hbl, ?_, .inr ⟨rfl, hsz⟩⟩
    · have hq : st'.ver kl = some q := hq
      rw [hver] at hq; cases hq; exact Nat.le_refl _
    · rw [← hrs]
      have := (hs.trans h9).keeps.at_ kl vl hver (mem_spec hm).2 bl basel hbl
      exact this.2
  · obtain ⟨kl, vl, ol, n, i, ar, c, rfl, hm, hi, hfit, hn, hw, hd⟩ := delP_some hp
    exact wr_goes hw
end Go.Proofs.YtopaaegigcfkeaaGreat
