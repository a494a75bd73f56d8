/-
  Calls; a region in the text's order.
-/
import Derived.Test.YteaeandommcdcaaGreatVp
namespace Go.V
set_option linter.unusedSimpArgs false
set_option linter.unusedVariables false
set_option linter.unusedSectionVars false
set_option linter.unnecessarySimpa false
open Go.RowKit

theorem ref_le_refs {d : D} : ∀ {ds : List D}, d ∈ ds → d.ref ≤ refs ds
  | e :: ds, h => by
    rcases List.mem_cons.1 h with rfl | h
    · simp only [refs]; exact Nat.le_max_left _ _
    · have := ref_le_refs h
      simp only [refs]; exact Nat.le_trans this (Nat.le_max_right _ _)

theorem refs_le {N : Nat} : ∀ {ds : List D}, (∀ d ∈ ds, d.ref ≤ N) → refs ds ≤ N
  | [], _ => by simp [refs]
  | d :: ds, h => by
    simp only [refs]
    exact Nat.max_le.2 ⟨h d (List.mem_cons_self ..), refs_le fun e he => h e (List.mem_cons_of_mem _ he)⟩

/-- what every step leaves: no fewer boxes, the lowest ones untouched, no word of a new box in an old one -/
structure Goes (st st' : St) : Prop where
  len : st.bs.length ≤ st'.bs.length
  flr : st'.flr = st.flr
  ro : st'.ro = st.ro
  low : ∀ k, k < st.ro → k < st.bs.length → st'.bs[k]? = st.bs[k]?
  fl : ∀ k bx bx', k < st.flr → st.bs[k]? = some bx → st'.bs[k]? = some bx' → ∀ d ∈ bx'.cells, d.ref ≤ max (k + 1) (refs bx.cells)

theorem Goes.refl (st : St) : Goes st st := ⟨Nat.le_refl _, rfl, rfl, fun _ _ _ => rfl, fun _ _ _ _ h h' d hd => by rw [h] at h'; cases h'; exact Nat.le_trans (ref_le_refs hd) (Nat.le_max_right _ _)⟩

theorem lt_of_some {α : Type} {l : List α} {k : Nat} {x : α} (h : l[k]? = some x) : k < l.length := by
  rcases Nat.lt_or_ge k l.length with h' | h'
  · exact h'
  · rw [List.getElem?_eq_none h'] at h; cases h

theorem Goes.trans {a b c : St} (h : Goes a b) (g : Goes b c) : Goes a c :=
  ⟨Nat.le_trans h.len g.len, g.flr.trans h.flr, g.ro.trans h.ro, fun k hk hl => (g.low k (by rw [h.ro]; exact hk) (Nat.lt_of_lt_of_le hl h.len)).trans (h.low k hk hl), fun k bx bx' hk h1 h2 d hd => by
    have hb : k < b.bs.length := Nat.lt_of_lt_of_le (lt_of_some h1) h.len
    have h3 := g.fl k _ bx' (by rw [h.flr]; exact hk) (List.getElem?_eq_getElem hb) h2 d hd
    have h4 : refs (b.bs[k]).cells ≤ max (k + 1) (refs bx.cells) := refs_le fun e he => h.fl k bx _ hk h1 (List.getElem?_eq_getElem hb) e he
    omega⟩

theorem Goes.push (st : St) (b : Box) : Goes st (st.push b) :=
  ⟨by simp [St.push], rfl, rfl, fun k _ hl => by simp [St.push, List.getElem?_append_left hl], fun k bx bx' _ h1 h2 d hd => by
    simp only [St.push, List.getElem?_append_left (lt_of_some h1)] at h2
    rw [h1] at h2; cases h2; exact Nat.le_trans (ref_le_refs hd) (Nat.le_max_right _ _)⟩

theorem Goes.set (st : St) (k : Nat) (b b0 : Box) (h : st.ro ≤ k) (h0 : st.bs[k]? = some b0) (hc : st.flr ≤ k ∨ ∀ d ∈ b.cells, d ∈ b0.cells ∨ d.ref ≤ max (k + 1) (refs b0.cells)) : Goes st { st with bs := st.bs.set k b } :=
  ⟨by simp, rfl, rfl, fun i hi _ => by simp only; rw [List.getElem?_set_ne (by omega)], fun i bx bx' hi h1 h2 d hd => by
    by_cases hik : k = i
    · subst hik
      rw [h0] at h1; cases h1
      simp only at h2
      rw [List.getElem?_set_self (lt_of_some h0)] at h2; cases h2
      rcases hc with hc | hc
      · omega
      · rcases hc d hd with h | h
        · exact Nat.le_trans (ref_le_refs h) (Nat.le_max_right _ _)
        · exact h
    · simp only at h2
      rw [List.getElem?_set_ne hik, h1] at h2; cases h2
      exact Nat.le_trans (ref_le_refs hd) (Nat.le_max_right _ _)⟩

theorem mem_setMany {d : D} : ∀ (cs c : List D) (off : Nat), d ∈ setMany c off cs → d ∈ c ∨ d ∈ cs
  | [], c, off, h => .inl h
  | x :: xs, c, off, h => by
    rcases mem_setMany xs _ _ h with h | h
    · rcases List.mem_or_eq_of_mem_set h with h | rfl
      · exact .inl h
      · exact .inr (List.mem_cons_self ..)
    · exact .inr (List.mem_cons_of_mem _ h)

theorem mem?_bs {st : St} {k ver : Nat} {a : Bool} {c : List D} (h : st.mem? k ver = some (a, c)) : st.bs[k]? = some (.mem ver a c) := by
  unfold St.mem? at h
  split at h
  · rename_i v a' c' hb
    split at h
    · rename_i hv; cases h; rw [hb, hv]
    · cases h
  · cases h

theorem canW_fl {st : St} {k r : Nat} (h : st.canW k r = true) : st.flr ≤ k ∨ r ≤ max (k + 1) (st.refsAt k) := by
  simp only [St.canW, Bool.and_eq_true, Bool.or_eq_true, decide_eq_true_eq] at h
  omega

theorem refsAt_eq {st : St} {k : Nat} {b : Box} (h : st.bs[k]? = some b) : st.refsAt k = refs b.cells := by simp only [St.refsAt, h]

/-- more boxes, or none -/
def Adds (st st' : St) : Prop := ∃ l, st' = ⟨st.bs ++ l, st.flr, st.ro⟩

theorem Adds.rfl (st : St) : Adds st st := ⟨[], by simp⟩
theorem Adds.push (st : St) (b : Box) : Adds st (st.push b) := ⟨[b], by simp [St.push]⟩

theorem Adds.goes {st st' : St} (h : Adds st st') : Goes st st' := by
  obtain ⟨l, rfl⟩ := h
  exact ⟨by simp, Eq.refl _, Eq.refl _, fun k _ hl => by simp only; rw [List.getElem?_append_left hl], fun k bx bx' _ h1 h2 d hd => by
    simp only at h2
    rw [List.getElem?_append_left (lt_of_some h1), h1] at h2
    cases h2
    exact Nat.le_trans (ref_le_refs hd) (Nat.le_max_right _ _)⟩

/-- what V's calls are good for -/
structure CfOk (P : Program) (pv : Pv) (cf : CallF) : Prop where
  fn : ∀ f ds st r, cf f ds st = some r → ∃ fn b, P.funcs[f]? = some fn ∧ fn.body = some b ∧ fn.name ≠ "runtime.NumGoroutine"
  calls : ∀ f ds st d st', cf f ds st = some (d, st') → ∀ w β Z (us : List Value), Sim w st β Z → ds.length = us.length → (∀ (i : Nat) c v, ds[i]? = some c → us[i]? = some v → VR w (st.x β Z) c v) →
    Calls P f us.toArray w fun e w' => ∃ v β' Z', e = .returned v ∧ Nx w st β Z w' st' β' Z' ∧ VR w' (st'.x β' Z') d v ∧ (isRo pv f = true → Quiet w w')
  ro : ∀ f ds st d st', cf f ds st = some (d, st') → isRo pv f = true → Adds st st'
  len : ∀ f ds st d st', cf f ds st = some (d, st') → Goes st st'

section
variable {pv : Pv} {P : Program} (ok : pv.Ok P) {cf : CallF} (hcf : CfOk P pv cf)
include ok hcf

theorem oper_ok {w : World} {st st' : St} {β : Nat → Option (Nat × Nat)} {Z : Nat → Prop} (h : Sim w st β Z) {fr : Fr} {a : Act} (hf : FrR w (st.x β Z) fr a.tmps) {o : Oper} {d : D} (hs : operD pv cf fr st o = some (d, st'))
    {next : Act → World → Prop} {Q : Exit → Act → World → Prop} (K : ∀ v w' β' Z', Nx w st β Z w' st' β' Z' → VR w' (st'.x β' Z') d v → (effB pv o = false → Quiet w w') → next (a.put o.dst v) w') : o.wp P a w next Q := by
  unfold operD at hs
  split at hs
  · rename_i f args ats hop
    split at hs
    · rename_i g caps hev
      have hv := ev_ok hf f
      rw [hev] at hv
      obtain ⟨vs, he, hl, hr⟩ := vr_fn hv
      obtain ⟨fn, b, hfn, hb, hname⟩ := hcf.fn _ _ _ _ hs
      have hargs := evs_ok hf args.toList
      have hrel : ∀ (i : Nat) c v, (args.toList.map fr.ev ++ caps)[i]? = some c → (args.toList.map a.eval ++ vs)[i]? = some v → VR w (st.x β Z) c v := by
        intro i c v hc hv
        rw [List.getElem?_append] at hc hv
        simp only [List.length_map] at hc hv
        split at hc
        · rename_i hi; rw [if_pos hi] at hv; exact hargs i c v hc hv
        · rename_i hi; rw [if_neg hi] at hv; exact hr _ c v hc hv
      have hcall := hcf.calls _ _ _ _ _ hs w β Z (args.toList.map a.eval ++ vs) h (by simp [hl]) hrel
      have hrun : (execOp a.eval o).run P w = .ok (.enter g (args.toList.map a.eval ++ vs).toArray) w := by
        obtain ⟨dst, op, ty, pos, after, guard⟩ := o
        simp only at hop
        subst hop
        have hbn : fn.body.isNone = false := by simp [hb]
        have hn : (fn.name == "runtime.NumGoroutine") = false := by simpa using hname
        have harr : args.map a.eval ++ vs.toArray = (args.toList.map a.eval ++ vs).toArray := by
          apply Array.ext'; simp
        simp only [execOp, resolve, he, Deferred.ofValue, Sem.run_bind, Sem.run_pure, Result.andThen_ok, invoke, callFunc, run_program, hfn, hn, hbn, Bool.false_eq_true, if_false, Array.empty_append, harr]
      unfold Oper.wp
      rw [hrun, Oper.upon_enter]
      refine hcall.mono fun e w' ⟨v, β', Z', he, hn, hv, hro⟩ => ?_
      subst he
      refine K v w' β' Z' hn hv ?_
      intro he
      simp only [effB, hop] at he
      cases f with
      | func g' =>
        simp only [Fr.ev] at hev
        cases hev
        exact hro (by simpa using he)
      | _ => simp at he
    · cases hs
  · rename_i op hop
    obtain ⟨v, w', β', hd, hn, hv, hq⟩ := op_ok ok h hf (o := o) hs
    have hK : next (a.put o.dst v) w' := K v w' β' Z hn hv hq
    unfold Oper.wp
    rcases hd with hd | ⟨hd, rfl⟩
    · rw [hd, Oper.upon_value]; exact hK
    · rw [hd, Oper.upon_skip]; exact hK

omit ok hcf in
theorem want_ok {w : World} {x : X} {ops : Array Oper} {fr : Fr} {a : Act} (hf : FrR w x fr a.tmps) {o : Oper} {b : Bool} (h : wantD ops fr o = some b) : Region.wanted o (yielded ops a.tmps) = b := by
  unfold wantD at h
  unfold Region.wanted
  split at h
  · rename_i hg; rw [hg]; cases h; rfl
  · rename_i j want hg
    rw [hg]
    split at h
    · cases h
    · rename_i t ht
      have hv := hf t
      show (yielded ops a.tmps j == some want) = b
      have hy : ∀ u, a.tmps[t]? = u → yielded ops a.tmps j = match u with | some (.bool b) => some b | _ => none := by
        intro u hu
        simp only [yielded, ht, Option.bind_some, hu]
        cases u with
        | none => rfl
        | some v => cases v <;> rfl
      split at h
      · rename_i b' hb
        rw [hb] at hv
        have hv := vr_bool hv
        cases h
        have : a.tmps[t]? = some (.bool b') := by
          rw [Array.getD_eq_getD_getElem?] at hv
          cases ht' : a.tmps[t]? with
          | none => rw [ht'] at hv; simp [undef] at hv
          | some v => rw [ht'] at hv; simp at hv; rw [hv]
        rw [hy _ this]
        cases b' <;> cases want <;> rfl
      · rename_i ds hb
        rw [hb] at hv
        obtain ⟨vs, hv, _⟩ := vr_tup hv
        cases h
        rw [Array.getD_eq_getD_getElem?] at hv
        cases ht' : a.tmps[t]? with
        | none => rw [hy _ ht']; cases want <;> rfl
        | some v => rw [ht'] at hv; simp at hv; rw [hv] at ht'; rw [hy _ ht']; cases want <;> rfl
      · cases h

omit ok hcf in
theorem put_size (a : Act) (dst : Option Nat) (v : Value) : (a.put dst v).tmps.size = a.tmps.size := by
  cases dst <;> simp [Act.put]

omit ok hcf in
theorem put_defers (a : Act) (dst : Option Nat) (v : Value) : (a.put dst v).defers = a.defers := by
  cases dst <;> simp [Act.put]

/-- the operations' places fit the frame -/
def dstOk (ops : List Oper) (n : Nat) : Prop := ∀ o ∈ ops, ∀ t, o.dst = some t → t < n

theorem ops_ok {ops : Array Oper} {Q : Exit → Act → World → Prop} : ∀ (l : List Oper) (i : Nat) (fr fr' : Fr) (st st' : St) (β : Nat → Option (Nat × Nat)) (Z : Nat → Prop) (a : Act) (w : World), (∀ j, l[j]? = ops[i + j]?) →
    opsD pv cf ops l fr st = some (fr', st') → Sim w st β Z → FrR w (st.x β Z) fr a.tmps → dstOk l a.tmps.size →
    (∀ a' w' β' Z', Nx w st β Z w' st' β' Z' → FrR w' (st'.x β' Z') fr' a'.tmps → a'.defers = a.defers → a'.tmps.size = a.tmps.size → Q .normal a' w') → wpOps P ops Q (List.range' i l.length) a w
  | [], i, fr, fr', st, st', β, Z, a, w, _, hs, h, hf, _, K => by
    simp only [opsD] at hs; cases hs
    exact K a w β Z (Nx.same h) hf rfl rfl
  | o :: l, i, fr, fr', st, st', β, Z, a, w, hl, hs, h, hf, hd, K => by
    have ho : ops[i]? = some o := by have := hl 0; simpa using this.symm
    have hl' : ∀ j, l[j]? = ops[i + 1 + j]? := fun j => by have := hl (j + 1); simpa [Nat.add_assoc, Nat.add_comm 1 j] using this
    have hdl : dstOk l a.tmps.size := fun p hp => hd p (List.mem_cons_of_mem _ hp)
    simp only [List.length_cons, List.range'_succ, wpOps, ho]
    simp only [opsD] at hs
    split at hs
    · rename_i hw
      rw [want_ok hf hw]
      simp only [if_true]
      left
      split at hs
      · rename_i d st1 hop
        refine oper_ok ok hcf h hf hop fun v w' β' Z' hn hv _ => ?_
        refine ops_ok l (i + 1) _ fr' st1 st' β' Z' _ w' hl' hs hn.sim (put_ok (hf.mono hn.keeps) hv o.dst fun t ht => hd o (List.mem_cons_self ..) t ht) (by rw [put_size]; exact hdl) fun a' w'' β'' Z'' hn' hf' hdf hsz => ?_
        exact K a' w'' β'' Z'' (hn.trans hn') hf' (by rw [hdf, put_defers]) (by rw [hsz, put_size])
      · cases hs
    · rename_i hw
      rw [want_ok hf hw]
      simp only [Bool.false_eq_true, if_false]
      refine ops_ok l (i + 1) _ fr' st st' β Z _ w hl' hs h (put_ok hf (.im _ _ (.tup [] [] rfl (by simp))) o.dst fun t ht => hd o (List.mem_cons_self ..) t ht) (by rw [put_size]; exact hdl) fun a' w'' β'' Z'' hn' hf' hdf hsz => ?_
      exact K a' w'' β'' Z'' hn' hf' (by rw [hdf, put_defers]) (by rw [hsz, put_size])
    · cases hs
end
end Go.V
