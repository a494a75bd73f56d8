/-
  A region that draws its order, whole.
-/
import Derived.Test.YteaeandommcdcaaGreatVv
namespace Go.V
set_option linter.unusedSimpArgs false
set_option linter.unusedVariables false
set_option linter.unusedSectionVars false
set_option linter.unnecessarySimpa false
open Go.RowKit

theorem count_set : ∀ (l : List Bool) (i : Nat), l[i]? = some false → (l.set i true).count false + 1 = l.count false
  | [], i, h => by simp at h
  | b :: l, 0, h => by simp at h; subst h; simp
  | b :: l, i + 1, h => by
    have := count_set l i (by simpa using h)
    simp only [List.set_cons_succ, List.count_cons]
    omega

theorem count_zero {l : List Bool} (h : l.count false = 0) (i : Nat) (hi : i < l.length) : l[i]? = some true := by
  rw [List.count_eq_zero] at h
  rw [List.getElem?_eq_getElem hi]
  cases hb : l[i] with
  | true => rfl
  | false => exact absurd (hb ▸ List.getElem_mem hi) h

section
variable {pv : Pv} {P : Program} (ok : pv.Ok P) {cf : CallF} (hcf : CfOk P pv cf) {ops : Array Oper} {F : Nat → Fr} {S : Nat → St} {dd : Nat → D} (ht : Trace pv cf ops ops.toList F S dd) {dy : List (Nat × Nat)} (hreg : okReg pv ops dy = true) (hst : Still dy ops F S)
include hcf ht

theorem DI.start {a : Act} {w : World} {β : Nat → Option (Nat × Nat)} {Z : Nat → Prop} (h : Sim w (S 0) β Z) (hf : FrR w ((S 0).x β Z) (F 0) a.tmps) {E : Nat → Bool} (hE : ∀ k, E k = false) : DI pv ops F S dd a w β Z E a w β Z (fun _ => 0) := by
  have ne : ∀ {k : Nat}, E k = true → False := fun hk => by rw [hE] at hk; cases hk
  have kp : ∀ m, m ≤ ops.size → Keeps w ((S 0).x β Z) w (Xm S (fun _ => 0) β Z m) := by
    intro m hm
    have hl := (tr_mono hcf ht m 0 (by omega) hm).len
    have key : ∀ k p, β k = some p → (Xm S (fun _ => 0) β Z m).β k = some p := by
      intro k p hp
      have := h.dom k p.1 p.2 hp
      simp only [Xm]; rw [if_pos (by omega)]; exact hp
    refine ⟨fun k p hp => ⟨p, key k p hp⟩, fun b hb => ⟨hb, rfl⟩, fun k c p hp hc => ⟨c, ?_, Nat.le_refl _⟩, fun k c _ _ b base hb => ⟨key k _ hb, rfl⟩⟩
    simp only [Xm, Hs] at hc
    simp only [St.x, St.ver]
    cases hk : (S 0).bs[k]? with
    | none => rw [hk] at hc; cases hc
    | some bx => rw [hk] at hc; exact hc
  have lw : ∀ t, lastW ops E t ops.size = none := by
    intro t
    have s := lastW_spec ops E t ops.size
    cases hl : lastW ops E t ops.size with
    | none => rfl
    | some j => rw [hl] at s; exact (ne s.2.1).elim
  refine ⟨rfl, rfl, fun k o hk => (ne hk).elim, fun k hk => (ne hk).elim, fun k p hp => ⟨h.dom k p.1 p.2 hp, Nat.zero_le _, .inl rfl⟩, fun k p hp i hi h1 h2 => ?_, fun k p _ j hj => (ne hj).elim, fun k _ j hj => (ne hj).elim, h.lt, h.inj, h.zd, h.zl, fun k b base hb => ?_, fun t => ?_, Evo.refl _ _, kp _ (Nat.le_refl _),
    fun k b base hb => .inl ⟨base, hb⟩, fun b hb => .inl hb, fun _ _ => rfl, fun _ _ h => h⟩
  · have h3 := h.dom k p.1 p.2 hp
    have := (tr_mono hcf ht i 0 (by omega) (by omega)).len
    omega
  · have hk := h.dom k b base hb
    refine (h.box k b base _ hb ?_).keep (kp 0 (Nat.zero_le _)) rfl
    simp only [Hs]
    rw [List.getElem?_eq_getElem hk]; rfl
  · simp only [stg, val, lw t]
    exact (hf t).mono (kp 0 (Nat.zero_le _))

theorem DI.finish {a0 a : Act} {w0 w : World} {β0 β : Nat → Option (Nat × Nat)} {Z0 Z : Nat → Prop} {E : Nat → Bool} {sg : Nat → Nat} (h : DI pv ops F S dd a0 w0 β0 Z0 E a w β Z sg) (h0 : Sim w0 (S 0) β0 Z0) (hE : ∀ k, k < ops.size → E k = true) :
    Nx w0 (S 0) β0 Z0 w (S ops.size) β Z ∧ FrR w ((S ops.size).x β Z) (F ops.size) a.tmps := by
  have hg := tr_mono hcf ht ops.size 0 (Nat.zero_le _) (Nat.le_refl _)
  have effn : ∀ j, effI pv ops F j → j < ops.size := by
    rintro j ⟨o, ho, _⟩
    rcases Nat.lt_or_ge j ops.size with h' | h'
    · exact h'
    · rw [Array.getElem?_eq_none h'] at ho; cases ho
  have hdm : ∀ k p, β k = some p → k < (S ops.size).bs.length := by
    intro k p hp
    obtain ⟨h1, h2, _⟩ := h.dom k p hp
    exact Nat.lt_of_lt_of_le h1 (tr_mono hcf ht ops.size (sg k) h2 (Nat.le_refl _)).len
  have sb : ∀ k p, β k = some p → sg k ≤ ops.size ∧ Hs S sg k = ((S ops.size).bs[k]?).getD .dead ∧ (S ops.size).bs[k]? = some (Hs S sg k) := fun k p hk =>
    seen_box hcf ht h (Nat.le_refl _) (fun j hj _ => hE j hj) (fun j hj he => by have := effn j he; omega) hk (hdm k p hk)
  have kx : ∀ m, m ≤ ops.size → Keeps w (Xm S sg β Z m) w ((S ops.size).x β Z) := by
    intro m hm
    have key : ∀ k p, (Xm S sg β Z m).β k = some p → β k = some p := by
      intro k p hp
      simp only [Xm] at hp
      split at hp
      · exact hp
      · cases hp
    refine ⟨fun k p hp => ⟨p, key k p hp⟩, fun b hb => ⟨hb, rfl⟩, fun k c p hp hc => ⟨c, ?_, Nat.le_refl _⟩, fun k c _ _ b base hb => ⟨key k _ hb, rfl⟩⟩
    simp only [St.x, St.ver, (sb k p (key k p hp)).2.2, Option.bind_some] at hc
    exact hc
  refine ⟨⟨⟨fun k b base hb => hdm k _ hb, h.lt, h.inj, h.zd, h.zl, fun k b base bx hb hbx => ?_, ?_, ?_⟩, h.keeps.trans (kx _ (Nat.le_refl _)), h.evo, h.fresh, h.zfresh, hg.len, hg.flr, hg.ro, fun k hk => ⟨hg.low k hk (Nat.lt_of_lt_of_le hk h0.ro), h.low k hk⟩, fun k hk hk0 => ⟨h.old k hk hk0, ?_⟩⟩, fun t => ?_⟩
  · obtain ⟨s1, _, s3⟩ := sb k _ hb
    rw [s3] at hbx; cases hbx
    exact (h.box k b base hb).keep (kx _ s1) rfl
  · rw [hg.flr]; exact Nat.le_trans h0.flr hg.len
  · rw [hg.ro]; exact Nat.le_trans h0.ro hg.len
  · refine tr_still hcf ht ops.size (Nat.zero_le _) (Nat.le_refl _) k hk fun q _ hq => ?_
    by_cases he : effI pv ops F q
    · exact .inr (h.ph k (h.old k hk hk0) q (hE q hq) he (Nat.lt_of_lt_of_le hk (tr_mono hcf ht q 0 (by omega) (by omega)).len))
    · exact .inl he
  · have hl : lastW ops E t ops.size = lastW ops (fun _ => true) t ops.size := lastW_eq fun i o h1 _ => ⟨fun ⟨hi, _⟩ => ⟨hi, rfl⟩, fun ⟨hi, _⟩ => ⟨hi, hE i hi⟩⟩
    have hf := h.frame t
    have htg := (trace_get ht t ops.size (Nat.le_refl _)).1
    have s := lastW_spec ops (fun _ => true) t ops.size
    simp only [val, stg, hl] at hf
    rw [htg]
    cases hq : lastW ops (fun _ => true) t ops.size with
    | none => rw [hq] at hf; exact hf.mono (kx 0 (Nat.zero_le _))
    | some i => rw [hq] at hf s; exact hf.mono (kx (i + 1) s.1)

include ok hreg hst

theorem DI.all {Q : Exit → Act → World → Prop} {a0 : Act} {w0 : World} {β0 : Nat → Option (Nat × Nat)} {Z0 : Nat → Prop} (h0 : Sim w0 (S 0) β0 Z0) (hdst : dstOk ops.toList a0.tmps.size)
    (K : ∀ a' w' β' Z', Nx w0 (S 0) β0 Z0 w' (S ops.size) β' Z' → FrR w' ((S ops.size).x β' Z') (F ops.size) a'.tmps → a'.defers = a0.defers → a'.tmps.size = a0.tmps.size → Q .normal a' w') :
    ∀ (fuel : Nat) (listed : Array Bool) (a : Act) (w : World) (β : Nat → Option (Nat × Nat)) (Z : Nat → Prop) (sg : Nat → Nat), listed.size = ops.size → listed.toList.count false = fuel →
      DI pv ops F S dd a0 w0 β0 Z0 (fun k => listed.getD k false) a w β Z sg → wpAny P .any ops Q fuel listed a w := by
  have fin : ∀ (listed : Array Bool) (a : Act) (w : World) (β : Nat → Option (Nat × Nat)) (Z : Nat → Prop) (sg : Nat → Nat), DI pv ops F S dd a0 w0 β0 Z0 (fun k => listed.getD k false) a w β Z sg → (∀ k, k < ops.size → listed.getD k false = true) → Q .normal a w := by
    intro listed a w β Z sg h hall
    obtain ⟨h1, h2⟩ := h.finish hcf ht h0 hall
    exact K a w β Z h1 h2 h.defers h.size
  intro fuel
  induction fuel with
  | zero =>
    intro listed a w β Z sg hsz hc h
    have hall : ∀ k, k < ops.size → listed.getD k false = true := by
      intro k hk
      have := count_zero hc k (by simpa [hsz] using hk)
      rw [Array.getElem?_toList] at this
      simp [Array.getD_eq_getD_getElem?, this]
    refine ⟨?_, fin listed a w β Z sg h hall⟩
    rw [List.eq_nil_iff_forall_not_mem]
    intro j hj
    rw [mem_ready] at hj
    obtain ⟨h1, o, ho, _⟩ := hj
    have hjn := (Array.getElem?_eq_some_iff.1 ho).1
    have := hall j hjn
    have hjl : j < listed.size := by omega
    simp only [Array.getD_eq_getD_getElem?, Array.getElem?_eq_getElem hjl, Option.getD_some] at h1 this
    rw [h1] at this; cases this
  | succ fuel ih =>
    intro listed a w β Z sg hsz hc h
    refine ⟨fun hnil => fin listed a w β Z sg h ?_, fun j hj => ?_⟩
    · intro k
      induction k using Nat.strongRecOn with
      | _ k ihk =>
        intro hk
        cases hb : listed.getD k false with
        | true => rfl
        | false =>
          have hkl : k < listed.size := by omega
          have : k ∈ Region.ready .any ops listed := by
            rw [mem_ready]
            refine ⟨by simp only [Array.getD_eq_getD_getElem?, Array.getElem?_eq_getElem hkl, Option.getD_some] at hb ⊢; exact hb, ops[k], Array.getElem?_eq_getElem hk, fun e he hbd => ?_⟩
            have hlt := okReg_edge hreg (Array.getElem?_eq_getElem hk) (by simpa using he) hbd
            exact ihk e.on hlt (by omega)
          rw [hnil] at this; cases this
    · rw [mem_ready] at hj
      obtain ⟨h1, o, ho, h2⟩ := hj
      have hjn := (Array.getElem?_eq_some_iff.1 ho).1
      have hjl : j < listed.size := by omega
      have hjf : listed[j]? = some false := by
        simp only [Array.getD_eq_getD_getElem?, Array.getElem?_eq_getElem hjl, Option.getD_some] at h1
        rw [Array.getElem?_eq_getElem hjl, h1]
      refine h.step ok hcf ht hreg hst h0 ho (by simp [Array.getD_eq_getD_getElem?, hjf]) (fun e he hb => h2 e (by simpa using he) hb) hdst fun a' w' β' Z' sg' h' => ?_
      refine ih _ a' w' β' Z' sg' (by simp [hsz]) ?_ ?_
      · have := count_set listed.toList j (by rw [Array.getElem?_toList]; exact hjf)
        rw [Array.toList_setIfInBounds]
        omega
      · have he : (fun k => (listed.setIfInBounds j true).getD k false) = addE (fun k => listed.getD k false) j := by
          funext k
          by_cases hkj : j = k
          · subst hkj
            simp [addE, hjl]
          · rw [getD_set_ne false hkj]
            have : Nat.beq k j = false := by
              cases hb : Nat.beq k j with
              | false => rfl
              | true => exact absurd (Nat.eq_of_beq_eq_true hb).symm hkj
            simp [addE, this]
        rw [he]; exact h'
end

theorem still_nil {ops : Array Oper} {F : Nat → Fr} {S : Nat → St} : Still [] ops F S := by
  intro r q y a k x hy ha hw hk hx hxr hwx h1 h2
  rcases Nat.lt_trichotomy q r with h' | h' | h'
  · have := h1 h'; simp [listed] at this
  · subst h'; rw [hx] at hy; cases hy
    unfold rdB at hxr; rw [ha] at hxr; cases hxr
  · have := h2 h'; simp [listed] at this

theorem reg_trace {pv : Pv} {cf : CallF} {ops : Array Oper} {dy : List (Nat × Nat)} {fr fr' : Fr} {st st' : St} (h : regD pv cf ops dy fr st = some (fr', st')) :
    ∃ (F : Nat → Fr) (S : Nat → St) (dd : Nat → D), F 0 = fr ∧ S 0 = st ∧ F ops.size = fr' ∧ S ops.size = st' ∧ Trace pv cf ops ops.toList F S dd ∧ Still dy ops F S := by
  unfold regD at h
  split at h
  · obtain ⟨F, S, dd, hF0, hS0, hFn, hSn, ht⟩ := trace ops.toList fr st fr' st' h
    rw [Array.length_toList] at hFn hSn
    exact ⟨F, S, dd, hF0, hS0, hFn, hSn, ht, still_nil⟩
  · obtain ⟨F, S, dd, hF0, hS0, hFn, hSn, ht, hl⟩ := traceY ops.toList 0 [] fr st fr' st' rfl h
    rw [Array.length_toList] at hFn hSn
    exact ⟨F, S, dd, hF0, hS0, hFn, hSn, ht, still_of hl⟩

theorem opsY_ops {pv : Pv} {cf : CallF} {ops : Array Oper} {dy : List (Nat × Nat)} : ∀ (l : List Oper) (j : Nat) (log : Log) (fr : Fr) (st : St) (r : Fr × St), opsY pv cf ops dy j log l fr st = some r → opsD pv cf ops l fr st = some r
  | [], j, log, fr, st, r, h => by simpa only [opsY, opsD] using h
  | o :: l, j, log, fr, st, r, h => by
    simp only [opsY] at h
    simp only [opsD]
    cases hw : wantD ops fr o with
    | none => rw [hw] at h; cases h
    | some b =>
      rw [hw] at h
      cases b with
      | true =>
        simp only at h ⊢
        cases hop : operD pv cf fr st o with
        | none => rw [hop] at h; cases h
        | some q =>
          obtain ⟨d, st1⟩ := q
          rw [hop] at h
          simp only at h ⊢
          cases hc : chkY dy j log o fr st st1 with
          | true => rw [hc] at h; exact opsY_ops l _ _ _ _ _ h
          | false => rw [hc] at h; cases h
      | false => simp only at h ⊢; exact opsY_ops l _ _ _ _ _ h

theorem regD_ops {pv : Pv} {cf : CallF} {ops : Array Oper} {dy : List (Nat × Nat)} {fr : Fr} {st : St} {r : Fr × St} (h : regD pv cf ops dy fr st = some r) : opsD pv cf ops ops.toList fr st = some r := by
  unfold regD at h
  split at h
  · exact h
  · exact opsY_ops _ _ _ _ _ _ h

/-- a region that draws its order does what V does -/
theorem draw_ok {pv : Pv} {P : Program} (ok : pv.Ok P) {cf : CallF} (hcf : CfOk P pv cf) {id : Nat} {ops : Array Oper} {dy : List (Nat × Nat)} (hreg : okReg pv ops dy = true) {fr fr' : Fr} {st st' : St} (hs : regD pv cf ops dy fr st = some (fr', st'))
    {w : World} {β : Nat → Option (Nat × Nat)} {Z : Nat → Prop} (h : Sim w st β Z) {a : Act} (hf : FrR w (st.x β Z) fr a.tmps) (hd : dstOk ops.toList a.tmps.size) {Q : Exit → Act → World → Prop}
    (K : ∀ a' w' β' Z', Nx w st β Z w' st' β' Z' → FrR w' (st'.x β' Z') fr' a'.tmps → a'.defers = a.defers → a'.tmps.size = a.tmps.size → Q .normal a' w') : (Code.region id ops true).wp P Q a w := by
  obtain ⟨F, S, dd, hF0, hS0, hFn, hSn, ht, hst⟩ := reg_trace hs
  refine wp_region_any ok.mixed ?_
  have hn : Nx w st β Z { w with drawn := w.drawn + 1 } st β Z := Nx.still h rfl rfl rfl rfl
  have h0 : Sim { w with drawn := w.drawn + 1 } (S 0) β Z := by rw [hS0]; exact hn.sim
  have hf0 : FrR { w with drawn := w.drawn + 1 } ((S 0).x β Z) (F 0) a.tmps := by rw [hS0, hF0]; exact hf.mono hn.keeps
  refine DI.all ok hcf ht hreg hst h0 hd (fun a' w' β' Z' hn' hf' h1 h2 => ?_) ops.size _ a _ β Z (fun _ => 0) (by simp) (by simp) (DI.start hcf ht h0 hf0 fun k => ?_)
  · rw [hSn] at hn' hf'
    rw [hFn] at hf'
    rw [hS0] at hn'
    exact K a' w' β' Z' (hn.trans hn') hf' h1 h2
  · simp only [Array.getD_eq_getD_getElem?, Array.getElem?_replicate]
    split <;> rfl
end Go.V
