/-
  A region that draws its order: any ready operation next.
-/
import Derived.Test.YteaeandommcdcaaGreatVu
namespace Go.V
set_option linter.unusedSimpArgs false
set_option linter.unusedVariables false
set_option linter.unusedSectionVars false
set_option linter.unnecessarySimpa false
open Go.RowKit

theorem pa_eff {pv : Pv} {o : Oper} (h : paB o = true) : effB pv o = false := by
  obtain ⟨dst, op, ty, pos, after, guard⟩ := o
  cases op <;> simp only [paB, Bool.false_eq_true] at h <;> try rfl
  rename_i c
  obtain ⟨callee, args, ats⟩ := c
  cases callee <;> simp only [Bool.false_eq_true] at h
  rename_i b
  cases b <;> simp at h <;> rfl

theorem eff_no {pv : Pv} {o : Oper} (h : effB pv o = true) : paB o = false ∧ rdB o = false := by
  refine ⟨?_, ?_⟩
  · cases hp : paB o with
    | false => rfl
    | true => rw [pa_eff hp] at h; cases h
  · obtain ⟨dst, op, ty, pos, after, guard⟩ := o
    cases op <;> first | rfl | (simp [effB] at h)

theorem rd_pa {o : Oper} (h : rdB o = true) : paB o = false := by
  obtain ⟨dst, op, ty, pos, after, guard⟩ := o
  cases op <;> first | rfl | (simp [rdB, rdOp?] at h)

theorem mem?_eq {a b : St} {k : Nat} (h : a.bs[k]? = b.bs[k]?) (v : Nat) : a.mem? k v = b.mem? k v := by
  simp only [St.mem?, h]

/-- a reading looks into one box -/
theorem opD_rd {pv : Pv} {fr : Fr} {st st' : St} {op : Op} {ty : TypeId} {a : Operand} {d : D} (ha : rdOp? op = some a) (h : opD pv fr st op ty = some (d, st')) : st' = st ∧ ∀ T : St, (∀ k, (fr.ev a).box? = some k → T.bs[k]? = st.bs[k]?) → opD pv fr T op ty = some (d, T) := by
  cases op <;> simp only [rdOp?, Option.some.injEq, reduceCtorEq] at ha
  case load t x =>
    subst ha
    simp only [opD] at h ⊢
    obtain ⟨r, hz, hs⟩ := Option.map_eq_some_iff.1 h
    cases hs
    refine ⟨rfl, fun T hT => ?_⟩
    have : loadD pv t (fr.ev x) T = loadD pv t (fr.ev x) st := by
      cases hx : fr.ev x <;> first | rfl | skip
      rename_i k v off
      simp only [loadD]
      rw [mem?_eq (hT k (by rw [hx]; rfl))]
    rw [this, hz]; rfl
  case indexAddr t x i =>
    subst ha
    simp only [opD] at h ⊢
    obtain ⟨r, hz, hs⟩ := Option.map_eq_some_iff.1 h
    cases hs
    refine ⟨rfl, fun T hT => ?_⟩
    have : indexAddrD pv t (fr.ev x) (fr.ev i) T = indexAddrD pv t (fr.ev x) (fr.ev i) st := by
      cases hx : fr.ev x with
      | win k v off len sz =>
        have hm := mem?_eq (hT k (by rw [hx]; rfl)) v
        simp only [indexAddrD]
        cases fr.ev i <;> try rfl
        cases pv.und t with
        | none => rfl
        | some td => cases td <;> first | rfl | (simp only [hm])
      | _ =>
        simp only [indexAddrD]
        cases fr.ev i <;> try rfl
        cases pv.und t with
        | none => rfl
        | some td => cases td <;> rfl
    rw [this, hz]; rfl

theorem rd_operD {pv : Pv} {cf : CallF} {fr : Fr} {st : St} {o : Oper} (h : rdB o = true) : operD pv cf fr st o = opD pv fr st o.op o.type := by
  unfold operD
  split
  · rename_i hop
    simp [rdB, hop, rdOp?] at h
  · rfl

theorem pa_operD {pv : Pv} {cf : CallF} {fr : Fr} {st : St} {o : Oper} (h : paB o = true) : operD pv cf fr st o = opD pv fr st o.op o.type := by
  unfold operD
  split
  · rename_i hop
    simp only [paB, hop, Bool.false_eq_true] at h
  · rfl

/-- the frame cut to the slots looked at -/
def cutF (fr : Fr) (ts : List Nat) : Fr := ⟨0, [], ts.map fun t => (t, fr.get t)⟩

theorem look_map (f : Nat → D) (t : Nat) : ∀ (ts : List Nat), look t (ts.map fun t => (t, f t)) = if t ∈ ts then f t else .junk
  | [] => rfl
  | u :: l => by
    simp only [List.map_cons, look]
    by_cases h : t = u
    · subst h; simp
    · have : Nat.beq t u = false := by
        cases hb : Nat.beq t u with
        | false => rfl
        | true => exact absurd (Nat.eq_of_beq_eq_true hb) h
      rw [this, look_map f t l]
      simp [h]

theorem cutF_get (fr : Fr) (ts : List Nat) (t : Nat) : (cutF fr ts).get t = if t ∈ ts then fr.get t else .junk := by
  simp only [cutF, Fr.get, Nat.ble]
  exact look_map fr.get t ts

/-- a box with nothing in it -/
def hol (p : Option (Nat × Nat)) (bx : Box) : Box :=
  match p, bx with
  | some _, .mem v a _ => .mem v a []
  | some _, .iter s q => .iter s q
  | some _, .map es => .map es
  | _, _ => .dead

def holT (st : St) (β : Nat → Option (Nat × Nat)) (H : Nat → Box) : St := ⟨(List.range st.bs.length).map fun k => hol (β k) (H k), st.flr, st.ro⟩

theorem holT_get {st : St} {β : Nat → Option (Nat × Nat)} {H : Nat → Box} {k : Nat} (h : k < st.bs.length) : (holT st β H).bs[k]? = some (hol (β k) (H k)) := by
  simp [holT, h]

theorem holT_len (st : St) (β : Nat → Option (Nat × Nat)) (H : Nat → Box) : (holT st β H).bs.length = st.bs.length := by simp [holT]

theorem hol_ok {w : World} {x x' : X} {b base : Nat} {bx : Box} (h : BoxOk w x b base bx) (p : Nat × Nat) : BoxOk w x' b base (hol (some p) bx) ∧ boxVer (hol (some p) bx) = boxVer bx := by
  cases bx with
  | mem v a c =>
    obtain ⟨c', el, fr, h1, h2, h3, _⟩ := h
    exact ⟨⟨c', el, fr, h1, by simp; omega, h3, fun j d hd => by simp at hd⟩, rfl⟩
  | iter s q => exact ⟨h, rfl⟩
  | map e => exact ⟨h, rfl⟩
  | dead => exact h.elim

def addE (E : Nat → Bool) (j : Nat) : Nat → Bool := fun k => E k || Nat.beq k j

theorem addE_iff (E : Nat → Bool) (j k : Nat) : addE E j k = true ↔ (E k = true ∨ k = j) := by
  simp [addE]

theorem VR.cutV {w : World} {x x' : X} {N : Nat} (hZ : ∀ b, x.Z b → x'.Z b) (hv : ∀ k, x'.ver k = x.ver k) (hβ : ∀ k p, k < N → x.β k = some p → x'.β k = some p) {d : D} {v : Value} (h : VR w x d v) (hr : d.ref ≤ N) : VR w x' d v := by
  induction h with
  | im d v h => exact .im _ _ (h.mono fun b hb => ⟨hZ b hb, rfl⟩)
  | win k vr off len s a cap hc hk hm h =>
    simp only [D.ref] at hr
    refine .win k vr off len s a cap hc (by obtain ⟨p, hp⟩ := hk; exact ⟨p, hβ k p (by omega) hp⟩) (fun c hc => hm c (by rw [← hv]; exact hc)) fun hc => ?_
    obtain ⟨b, base, sz, h1, h2⟩ := h (by rw [← hv]; exact hc)
    exact ⟨b, base, sz, hβ k _ (by omega) h1, h2⟩
  | ptr k vr off a hk hm h =>
    simp only [D.ref] at hr
    refine .ptr k vr off a (by obtain ⟨p, hp⟩ := hk; exact ⟨p, hβ k p (by omega) hp⟩) (fun c hc => hm c (by rw [← hv]; exact hc)) fun hc => ?_
    obtain ⟨b, base, h1, h2⟩ := h (by rw [← hv]; exact hc)
    exact ⟨b, base, hβ k _ (by omega) h1, h2⟩
  | mp k r hk h =>
    simp only [D.ref] at hr
    refine .mp k r (by obtain ⟨p, hp⟩ := hk; exact ⟨p, hβ k p (by omega) hp⟩) fun hc => ?_
    obtain ⟨base, h1⟩ := h (by rw [← hv]; exact hc)
    exact ⟨base, hβ k _ (by omega) h1⟩
  | fn f cs vs hl hr' ih => simp only [D.ref] at hr; exact .fn f cs vs hl fun i c v hc hv => ih i c v hc hv (Nat.le_trans (ref_le_refs (List.mem_of_getElem? hc)) hr)
  | agg cs vs hl h1 hr' ih => simp only [D.ref] at hr; exact .agg cs vs hl h1 fun i c v hc hv => ih i c v hc hv (Nat.le_trans (ref_le_refs (List.mem_of_getElem? hc)) hr)
  | tup cs vs hl hr' ih => simp only [D.ref] at hr; exact .tup cs vs hl fun i c v hc hv => ih i c v hc hv (Nat.le_trans (ref_le_refs (List.mem_of_getElem? hc)) hr)

section
variable {pv : Pv} {P : Program} {cf : CallF} (hcf : CfOk P pv cf) {ops : Array Oper} {F : Nat → Fr} {S : Nat → St} {dd : Nat → D} (ht : Trace pv cf ops ops.toList F S dd)
include hcf ht
theorem cut_box {w : World} {sg : Nat → Nat} {β : Nat → Option (Nat × Nat)} {Z : Nat → Prop} {j m k b base : Nat} (hjm : j ≤ m) (hm : m ≤ ops.size) (h : BoxOk w (Xm S sg β Z m) b base (Hs S sg k)) (he : (S j).bs[k]? = some (Hs S sg k)) (hs : smallB (some k) (S j) (S m) = true) : BoxOk w (Xm S sg β Z j) b base (Hs S sg k) := by
  have hl := (tr_mono hcf ht m j hjm hm).len
  unfold smallB at hs
  simp only at hs
  split at hs
  · rename_i hb
    have hle := Nat.eq_of_beq_eq_true hb
    have : Xm S sg β Z j = Xm S sg β Z m := by simp only [Xm, hle]
    rw [this]; exact h
  · rw [he] at hs
    split at hs
    · rename_i v ar c hc
      cases hc2 : Hs S sg k with
      | mem v' ar' c' =>
        rw [hc2] at hc h; cases hc
        have hr := Nat.le_of_ble_eq_true hs
        obtain ⟨c', el, fr, h1, h2, h3, h4⟩ := h
        refine ⟨c', el, fr, h1, h2, h3, fun i d hd => ?_⟩
        obtain ⟨v, v1, v3, v2⟩ := h4 i d hd
        refine ⟨v, v1, v3, v2.cutV (x := Xm S sg β Z m) (x' := Xm S sg β Z j) (N := (S j).bs.length) (fun _ hb => hb) (fun _ => rfl) (fun k' p hk' hp => ?_) (Nat.le_trans (ref_le_refs (List.mem_of_getElem? hd)) hr)⟩
        simp only [Xm] at hp ⊢
        rw [if_pos hk']
        split at hp
        · exact hp
        · cases hp
      | _ => rw [hc2] at hc; cases hc
    · cases hs
end

section
variable {pv : Pv} {P : Program} (ok : pv.Ok P) {cf : CallF} (hcf : CfOk P pv cf) {ops : Array Oper} {F : Nat → Fr} {S : Nat → St} {dd : Nat → D} (ht : Trace pv cf ops ops.toList F S dd) {dy : List (Nat × Nat)} (hreg : okReg pv ops dy = true) (hst : Still dy ops F S)
include ok hcf ht hreg hst

theorem DI.step {Q : Exit → Act → World → Prop} {a0 a : Act} {w0 w : World} {β0 β : Nat → Option (Nat × Nat)} {Z0 Z : Nat → Prop} {E : Nat → Bool} {sg : Nat → Nat} (h : DI pv ops F S dd a0 w0 β0 Z0 E a w β Z sg) (h0 : Sim w0 (S 0) β0 Z0)
    {j : Nat} {o : Oper} (ho : ops[j]? = some o) (hj : E j = false) (hrd : ∀ e ∈ o.after.toList, Region.binds .any e = true → E e.on = true) (hdst : dstOk ops.toList a0.tmps.size)
    {K : Act → World → Prop} (hK : ∀ a' w' β' Z' sg', DI pv ops F S dd a0 w0 β0 Z0 (addE E j) a' w' β' Z' sg' → K a' w') : wpOp P ops Q j K a w := by
  have hjn : j < ops.size := by
    rcases Nat.lt_or_ge j ops.size with h' | h'
    · exact h'
    · rw [Array.getElem?_eq_none h'] at ho; cases ho
  have hcl : Closed ops (addE E j) := by
    intro k o' hk ho' e he hb
    rcases (addE_iff E j k).1 hk with hk | rfl
    · exact (addE_iff E j _).2 (.inl (h.clo k o' hk ho' e he hb))
    · rw [ho] at ho'; cases ho'
      exact (addE_iff E _ _).2 (.inl (hrd e he hb))
  have C1 : ∀ i x, i < j → ops[i]? = some x → conf pv ops (listed dy i j) x o = true → E i = true := by
    intro i x hi hx hc
    rcases (addE_iff E j i).1 (okReg_anc hreg hi hx ho hc hcl ((addE_iff E j j).2 (.inr rfl))) with h' | h'
    · exact h'
    · omega
  have C2 : ∀ i x, j < i → ops[i]? = some x → conf pv ops (listed dy j i) o x = true → E i = false := by
    intro i x hi hx hc
    cases hE : E i with
    | false => rfl
    | true => have := okReg_anc hreg hi ho hx hc h.clo hE; rw [hj] at this; cases this
  have hlate : ∀ i o' t, j < i → ops[i]? = some o' → o.dst = some t → o'.dst = some t → E i = false := by
    intro i o' t hi ho' h1 h2
    refine C2 i o' hi ho' ?_
    simp [conf, sameDst, h1, h2]
  have hdj : ∀ t, o.dst = some t → t < a.tmps.size := fun t hd => by
    rw [h.size]; exact hdst o (by rw [← Array.getElem?_toList] at ho; exact List.mem_of_getElem? ho) t hd
  have hlw : ∀ t ∈ looks ops o, lastW ops E t ops.size = lastW ops (fun _ => true) t j := by
    intro t htl
    refine lastW_eq fun i o' h1 h2 => ⟨fun ⟨_, hE⟩ => ⟨?_, rfl⟩, fun ⟨hi, _⟩ => ⟨by omega, C1 i o' hi h1 (by simp [conf, dstHit, h2, htl])⟩⟩
    rcases Nat.lt_trichotomy i j with h' | h' | h'
    · exact h'
    · subst h'; rw [hj] at hE; cases hE
    · have := C2 i o' h' h1 (by simp [conf, dstHit, h2, htl]); rw [this] at hE; cases hE
  have hN0 := (tr_mono hcf ht j 0 (by omega) (by omega))
  have hNj := (tr_goes hcf ht j hjn).1
  -- what was drawn, read against any state with these versions
  have toT : ∀ (T : St) (m : Nat), m ≤ j → T.bs.length = (S j).bs.length → (∀ k p, k < (S j).bs.length → β k = some p → T.ver k = boxVer (Hs S sg k)) →
      Keeps w (Xm S sg β Z m) w (T.x (fun k => if k < (S j).bs.length then β k else none) Z) := by
    intro T m hm hT hv
    refine (Xm_mono hcf ht hm (by omega)).trans ⟨fun k p hp => ⟨p, hp⟩, fun b hb => ⟨hb, rfl⟩, fun k c p hp hc => ⟨c, ?_, Nat.le_refl _⟩, fun k c _ _ b base hb => ⟨hb, rfl⟩⟩
    simp only [Xm] at hp ⊢
    split at hp
    · rename_i hk; rw [← hv k p hk hp]; exact hc
    · cases hp
  have hG : ∀ (T : St), T.bs.length = (S j).bs.length → (∀ k p, k < (S j).bs.length → β k = some p → T.ver k = boxVer (Hs S sg k)) →
      FrR w (T.x (fun k => if k < (S j).bs.length then β k else none) Z) (cutF (F j) (looks ops o)) a.tmps := by
    intro T hT hv t
    rw [cutF_get]
    split
    · rename_i htl
      have hf := h.frame t
      have htg := (trace_get ht t j (by omega)).1
      have hl := hlw t htl
      simp only [val, stg, hl] at hf
      rw [htg]
      have s := lastW_spec ops (fun _ => true) t j
      cases hq : lastW ops (fun _ => true) t j with
      | none => rw [hq] at hf; exact hf.mono (toT T 0 (by omega) hT hv)
      | some i => rw [hq] at hf s; exact hf.mono (toT T (i + 1) s.1 hT hv)
    · exact .junk _ _ _
  have hGw : wantD ops (F j) o = wantD ops (cutF (F j) (looks ops o)) o := wantD_congr fun t htl => by rw [cutF_get, if_pos htl]
  have hGo : ∀ st, operD pv cf (F j) st o = operD pv cf (cutF (F j) (looks ops o)) st o := fun st => operD_congr fun t htl => by rw [cutF_get, if_pos htl]
  have mkSim : ∀ (T : St), T.bs.length = (S j).bs.length → T.flr = (S j).flr → T.ro = (S j).ro → (∀ k p, k < (S j).bs.length → β k = some p → T.ver k = boxVer (Hs S sg k)) →
      (∀ k b base bx, k < (S j).bs.length → β k = some (b, base) → T.bs[k]? = some bx → BoxOk w (T.x (fun k => if k < (S j).bs.length then β k else none) Z) b base bx) →
      Sim w T (fun k => if k < (S j).bs.length then β k else none) Z := by
    intro T hT hfl hr hv hb
    have cut : ∀ k p, (if k < (S j).bs.length then β k else none) = some p → k < (S j).bs.length ∧ β k = some p := by
      intro k p hp
      split at hp
      · exact ⟨by assumption, hp⟩
      · cases hp
    refine ⟨fun k b base hk => by rw [hT]; exact (cut k _ hk).1, fun k b base hk => h.lt k b base (cut k _ hk).2, fun k k' b x x' h1 h2 => h.inj k k' b x x' (cut k _ h1).2 (cut k' _ h2).2, fun k b base hk => h.zd k b base (cut k _ hk).2, h.zl,
      fun k b base bx hk hbx => hb k b base bx (cut k _ hk).1 (cut k _ hk).2 hbx, ?_, ?_⟩
    · rw [hfl, hT, hN0.flr]; exact Nat.le_trans h0.flr hN0.len
    · rw [hr, hT, hN0.ro]; exact Nat.le_trans h0.ro hN0.len
  -- the hollow state
  have hTv : ∀ k p, k < (S j).bs.length → β k = some p → (holT (S j) β (Hs S sg)).ver k = boxVer (Hs S sg k) := by
    intro k p hk hp
    simp only [St.ver, holT_get hk, Option.bind_some, hp]
    exact (hol_ok (x' := Xm S sg β Z 0) (h.box k p.1 p.2 hp) p).2
  have hTs := mkSim (holT (S j) β (Hs S sg)) (holT_len _ _ _) rfl rfl hTv fun k b base bx hk hp hbx => by
    rw [holT_get hk] at hbx; cases hbx
    rw [hp]; exact (hol_ok (h.box k b base hp) _).1
  have hollow : ∀ (T T' : St) (w' : World) (βl : Nat → Option (Nat × Nat)) (Zl : Nat → Prop) (v : Value), T.bs.length = (S j).bs.length → T.ro = (S j).ro → (∀ k p, k < (S j).bs.length → β k = some p → T.ver k = boxVer (Hs S sg k)) → ¬ effI pv ops F j →
      ((S (j + 1) = S j ∧ T' = T) ∨ ∃ ar cs, S (j + 1) = (S j).push (.mem 0 ar cs) ∧ T' = T.push (.mem 0 ar cs)) →
      Nx w T (fun k => if k < (S j).bs.length then β k else none) Z w' T' βl Zl → VR w' (T'.x βl Zl) (dd j) v → Quiet w w' → K (a.put o.dst v) w' := by
    intro T T' w' βl Zl v hTlen hTro hTv hne hST hn hv hq
    obtain ⟨m, hm1, hm2, hm3⟩ := maxEff (fun i => E i = true ∧ effI pv ops F i) (j + 1) ops.size
    have hmn : m ≤ ops.size := by rcases hm3 with rfl | ⟨i, q1, _, rfl⟩ <;> omega
    have hl' : T'.bs.length = (S (j + 1)).bs.length := by
      rcases hST with ⟨e1, e2⟩ | ⟨ar, cs, e1, e2⟩
      · rw [e1, e2, hTlen]
      · rw [e1, e2]; simp [St.push, hTlen]
    have lk : ∀ k p, βl k = some p → k < (S (j + 1)).bs.length := fun k p hp => by rw [← hl']; exact hn.sim.dom k p.1 p.2 hp
    have oldk : ∀ k p, k < (S j).bs.length → βl k = some p → ∃ q, β k = some q := by
      intro k p hk hp
      cases hβ : β k with
      | some q => exact ⟨q, rfl⟩
      | none =>
        have := (hn.old k (by rw [hTlen]; exact hk) (by simp only [if_pos hk]; exact hβ)).1
        rw [hp] at this; cases this
    have newk : ∀ k p, βl k = some p → (S j).bs.length ≤ k → T'.bs[k]? = some (Hs S (sgNew pv ops F S j m sg) k) := by
      intro k p hp hk
      have hk1 := lk k p hp
      have hβ : β k = none := by
        cases hb : β k with
        | none => rfl
        | some q => have := h.cr k q hb j hjn hk hk1; rw [hj] at this; cases this
      have hsg : sgNew pv ops F S j m sg k = m := by simp only [sgNew]; rw [if_pos ⟨hk1, .inr hk⟩]
      have hst := tr_still hcf ht m hm1 hmn k hk1 fun q hq1 hq2 => by
        by_cases he : effI pv ops F q
        · right
          refine h.ph k hβ q ?_ he (Nat.lt_of_lt_of_le hk1 (tr_mono hcf ht q (j + 1) hq1 (by omega)).len)
          rcases hm3 with rfl | ⟨i, q1, ⟨q2, q3⟩, rfl⟩
          · omega
          · rcases Nat.lt_or_ge q i with h' | h'
            · obtain ⟨o1, p1, p2, _⟩ := he
              obtain ⟨o2, r1, r2, _⟩ := q3
              obtain ⟨hpa, hrd2⟩ := eff_no r2
              exact okReg_anc hreg h' p1 r1 (by simp [conf, p2, hpa, hrd2]) h.clo q2
            · have : q = i := by omega
              rw [this]; exact q2
        · exact .inl he
      rcases hST with ⟨e1, e2⟩ | ⟨ar, cs, e1, e2⟩
      · rw [e1] at hk1; omega
      · have hkk : k = (S j).bs.length := by rw [e1] at hk1; simp [St.push] at hk1; omega
        have g1 : (S (j + 1)).bs[k]? = some (.mem 0 ar cs) := by rw [e1, hkk]; simp [St.push]
        have g2 : T'.bs[k]? = some (.mem 0 ar cs) := by rw [e2, hkk]; simp [St.push, hTlen]
        simp only [Hs, hsg]
        rw [g2, hst, g1]; rfl
    refine hK _ _ _ _ _ (h.put hcf ht hj ho (addE_iff E j) hrd hlate hdj h0.ro hn hTlen hl' hTro hv hTv hm1 hmn (fun i h1 h2 => hm2 i (h.bnd i h1) ⟨h1, h2⟩) ?_ ?_ ?_ (fun _ => hq) fun he => absurd he hne)
    · rcases hm3 with h' | ⟨i, _, ⟨q2, q3⟩, q4⟩
      · exact .inl h'
      · exact .inr ⟨i, q2, q3, q4⟩
    · intro k p hp
      by_cases hk : k < (S j).bs.length
      · obtain ⟨q, hq'⟩ := oldk k p hk hp
        have hsg : sgNew pv ops F S j m sg k = sg k := by
          simp only [sgNew]; rw [if_neg]; rintro ⟨_, h' | h'⟩
          · exact hne h'
          · omega
        simp only [Hs, hsg]
        have := hTv k q hk hq'
        simp only [Hs] at this
        rw [← this]
        have hg : T'.bs[k]? = T.bs[k]? := by
          rcases hST with ⟨_, e2⟩ | ⟨ar, cs, _, e2⟩
          · rw [e2]
          · rw [e2]; simp only [St.push]; rw [List.getElem?_append_left (by rw [hTlen]; exact hk)]
        simp only [St.ver, hg]
      · have := newk k p hp (by omega)
        simp only [St.ver, this, Option.bind_some]
    · intro k b base hp hc
      rcases hc with hc | hc
      · exact absurd hc hne
      · exact hn.sim.box k b base _ hp (newk k _ hp hc)
  unfold wpOp
  simp only [ho]
  rcases ht.step j o (by simpa using ho) with ⟨hw, hop⟩ | ⟨hw, hd, hs⟩
  · rw [hGw] at hw
    rw [want_ok (hG _ (holT_len _ _ _) hTv) hw]
    simp only [if_true]
    left
    rw [hGo] at hop
    cases hpa : paB o with
    | true =>
      have he := pa_eff (pv := pv) hpa
      have hne : ¬ effI pv ops F j := by
        rintro ⟨o', h1, h2, _⟩
        rw [ho] at h1; cases h1; rw [he] at h2; cases h2
      rw [pa_operD hpa] at hop
      obtain ⟨T', hT', hST⟩ := opD_pa hpa hop (holT (S j) β (Hs S sg)) (holT_len _ _ _)
      rw [← pa_operD (cf := cf) hpa] at hT'
      exact oper_ok ok hcf hTs (hG _ (holT_len _ _ _) hTv) hT' fun v w' β' Z' hn hv hq => hollow (holT (S j) β (Hs S sg)) T' w' β' Z' v (holT_len _ _ _) rfl hTv hne hST hn hv (hq he)
    | false =>
      cases hrd' : rdB o with
      | true =>
        have hne : ¬ effI pv ops F j := by
          rintro ⟨o', h1, h2, _⟩
          rw [ho] at h1; cases h1; rw [(eff_no h2).2] at hrd'; cases hrd'
        obtain ⟨ad, had⟩ : ∃ ad, rdOp? o.op = some ad := by
          unfold rdB at hrd'
          cases hq : rdOp? o.op with
          | none => rw [hq] at hrd'; cases hrd'
          | some x => exact ⟨x, rfl⟩
        have hjw : wantD ops (F j) o = some true := by rw [hGw]; exact hw
        have hada : (cutF (F j) (looks ops o)).ev ad = (F j).ev ad := by
          refine (ev_congr (ts := looks ops o) (fun t htl => by rw [cutF_get, if_pos htl]) fun t e => ?_)
          subst e
          refine List.mem_append_right _ (mem_tmpsOf ?_)
          cases hop2 : o.op <;> rw [hop2] at had <;> simp only [rdOp?, Option.some.injEq, reduceCtorEq] at had <;> subst had <;> simp [Op.operands]
        -- the box that is looked into is here and as it is with V
        have place : ∀ k, ((F j).ev ad).box? = some k → ∃ p, β k = some p ∧ k < (S j).bs.length := by
          intro k hk
          have hv := ev_ok (hG _ (holT_len _ _ _) hTv) ad
          rw [hada] at hv
          have cut : (∃ p, (if k < (S j).bs.length then β k else none) = some p) → ∃ p, β k = some p ∧ k < (S j).bs.length := by
            rintro ⟨p, hp⟩
            split at hp
            · exact ⟨p, hp, by assumption⟩
            · cases hp
          cases hd : (F j).ev ad with
          | ptr k' v off =>
            rw [hd] at hk hv
            simp only [D.box?, Option.some.injEq] at hk; subst hk
            obtain ⟨_, _, hp, _⟩ := vr_pointer hv
            exact cut hp
          | win k' v off len sz =>
            rw [hd] at hk hv
            simp only [D.box?, Option.some.injEq] at hk; subst hk
            obtain ⟨_, _, _, _, hp, _⟩ := vr_win hv
            exact cut hp
          | _ => rw [hd] at hk; simp [D.box?] at hk
        have same : ∀ k, ((F j).ev ad).box? = some k → (S j).bs[k]? = some (Hs S sg k) ∧ (sg k ≤ j ∨ smallB (some k) (S j) (S (sg k)) = true) := by
          intro k hk
          obtain ⟨p, hp, hkj⟩ := place k hk
          obtain ⟨d1, d2, d3⟩ := h.dom k p hp
          have fin : (S j).bs[k]? = (S (sg k)).bs[k]? := by
            rcases Nat.le_total (sg k) j with hle | hle
            · refine tr_still hcf ht j hle (by omega) k d1 fun q hq1 hq2 => ?_
              by_cases he : effI pv ops F q
              · right
                have hkq : k < (S q).bs.length := Nat.lt_of_lt_of_le d1 (tr_mono hcf ht q (sg k) hq1 (by omega)).len
                have hEq : E q = false := by
                  cases hE : E q with
                  | false => rfl
                  | true => have := h.sg2 k p hp q hE he hkq; omega
                obtain ⟨x, x1, x2, x3⟩ := he
                have hl : listed dy q j = true := by
                  cases hl : listed dy q j with
                  | true => rfl
                  | false => have := C1 q x hq2 x1 (by simp [conf, x2, hpa, hl]); rw [hEq] at this; cases this
                exact (hst j q o ad k x ho had hjw hk x1 (eff_no x2).2 x3 (fun _ => hl) (fun h' => by omega)).1
              · exact .inl he
            · rcases Nat.eq_or_lt_of_le hle with heq | hlt
              · rw [heq]
              rcases d3 with d3 | ⟨j', q1, q2, q3⟩
              · omega
              have hj' : effI pv ops F j' := by
                rcases q3 with q3 | q3
                · exact q3
                · have := (tr_mono hcf ht j' j (by omega) (by have := h.bnd j' q1; omega)).len
                  omega
              symm
              refine tr_still hcf ht (sg k) hle d2 k hkj fun q hq1 hq2 => ?_
              by_cases he : effI pv ops F q
              · right
                have hqj : j < q := by
                  rcases Nat.eq_or_lt_of_le hq1 with h' | h'
                  · subst h'; exact absurd he hne
                  · exact h'
                have hEq : E q = true := by
                  rcases Nat.lt_or_ge q j' with h' | h'
                  · obtain ⟨x, x1, x2, _⟩ := he
                    obtain ⟨y, y1, y2, _⟩ := hj'
                    obtain ⟨n1, n2⟩ := eff_no y2
                    exact okReg_anc hreg h' x1 y1 (by simp [conf, x2, n1, n2]) h.clo q1
                  · have : q = j' := by omega
                    rw [this]; exact q1
                obtain ⟨x, x1, x2, x3⟩ := he
                have hl : listed dy j q = true := by
                  cases hl : listed dy j q with
                  | true => rfl
                  | false => have := C2 q x hqj x1 (by simp [conf, x2, hpa, hl]); rw [hEq] at this; cases this
                exact (hst j q o ad k x ho had hjw hk x1 (eff_no x2).2 x3 (fun h' => by omega) (fun _ => hl)).1
              · exact .inl he
          refine ⟨?_, ?_⟩
          · rw [fin, List.getElem?_eq_getElem d1]
            simp only [Hs]
            rw [List.getElem?_eq_getElem d1]; rfl
          · rcases Nat.lt_or_ge j (sg k) with hlt | hge
            · right
              rcases d3 with d3 | ⟨j', q1, q2, q3⟩
              · omega
              have hj' : effI pv ops F j' := by
                rcases q3 with q3 | q3
                · exact q3
                · have := (tr_mono hcf ht j' j (by omega) (by have := h.bnd j' q1; omega)).len
                  omega
              have hjj : j < j' := by
                rcases Nat.lt_or_ge j j' with h' | h'
                · exact h'
                · have : j = j' := by omega
                  subst this; exact absurd hj' hne
              obtain ⟨x, x1, x2, x3⟩ := hj'
              have hl : listed dy j j' = true := by
                cases hl : listed dy j j' with
                | true => rfl
                | false => have := C2 j' x hjj x1 (by simp [conf, x2, hpa, hl]); rw [q1] at this; cases this
              have := (hst j j' o ad k x ho had hjw hk x1 (eff_no x2).2 x3 (fun h' => by omega) (fun _ => hl)).2 hjj
              rw [q2]; exact this
            · exact .inl hge
        -- hollow but for that box
        let T : St := ⟨(List.range (S j).bs.length).map fun k => if ((F j).ev ad).box? = some k then Hs S sg k else hol (β k) (Hs S sg k), (S j).flr, (S j).ro⟩
        have Tl : T.bs.length = (S j).bs.length := by simp [T]
        have Tg : ∀ k, k < (S j).bs.length → T.bs[k]? = some (if ((F j).ev ad).box? = some k then Hs S sg k else hol (β k) (Hs S sg k)) := by
          intro k hk; simp [T, hk]
        have Tv : ∀ k p, k < (S j).bs.length → β k = some p → T.ver k = boxVer (Hs S sg k) := by
          intro k p hk hp
          simp only [St.ver, Tg k hk, Option.bind_some]
          split
          · rfl
          · rw [hp]; exact (hol_ok (x' := Xm S sg β Z 0) (h.box k p.1 p.2 hp) p).2
        have Ts := mkSim T Tl rfl rfl Tv fun k b base bx hk hp hbx => by
          rw [Tg k hk] at hbx; cases hbx
          split
          · rename_i hbk
            obtain ⟨e1, e2⟩ := same k hbk
            have hbx := h.box k b base hp
            rcases Nat.lt_or_ge j (sg k) with hlt | hge
            · refine BoxOk.keep ?_ (toT T j (Nat.le_refl _) Tl Tv) rfl
              exact cut_box hcf ht (by omega) (h.dom k _ hp).2.1 hbx e1 (e2.resolve_left (by omega))
            · exact hbx.keep (toT T (sg k) hge Tl Tv) rfl
          · rw [hp]; exact (hol_ok (h.box k b base hp) _).1
        rw [rd_operD hrd'] at hop
        obtain ⟨hSS, hTT⟩ := opD_rd had hop
        have hT' := hTT T fun k hk => by
          rw [hada] at hk
          obtain ⟨p, hp, hkj⟩ := place k hk
          rw [Tg k hkj, if_pos hk, (same k hk).1]
        rw [← rd_operD (cf := cf) hrd'] at hT'
        exact oper_ok ok hcf Ts (hG _ Tl Tv) hT' fun v w' β' Z' hn hv hq => hollow T T w' β' Z' v Tl rfl Tv hne (.inl ⟨hSS, rfl⟩) hn hv (hq (by
          cases he : effB pv o with
          | false => rfl
          | true => rw [(eff_no he).2] at hrd'; cases hrd'))
      | false =>
        have sb : ∀ k p, β k = some p → k < (S j).bs.length → sg k ≤ j ∧ Hs S sg k = ((S j).bs[k]?).getD .dead ∧ (S j).bs[k]? = some (Hs S sg k) := by
          intro k p hk hkj
          refine seen_box hcf ht h (by omega) (fun i hi he => ?_) (fun i hi he => ?_) hk hkj
          · obtain ⟨x, h1, h2, _⟩ := he
            exact C1 i x hi h1 (by simp [conf, h2, hpa, hrd'])
          · rcases Nat.lt_or_ge j i with h' | h'
            · obtain ⟨x, h1, h2, _⟩ := he
              exact C2 i x h' h1 (by simp [conf, h2, hpa, hrd'])
            · have : i = j := by omega
              rw [this]; exact hj
        have hSv : ∀ k p, k < (S j).bs.length → β k = some p → (S j).ver k = boxVer (Hs S sg k) := fun k p hk hp => by simp only [St.ver, (sb k p hp hk).2.2, Option.bind_some]
        have hSs := mkSim (S j) rfl rfl rfl hSv fun k b base bx hk hp hbx => by
          obtain ⟨s1, _, s3⟩ := sb k _ hp hk
          rw [s3] at hbx; cases hbx
          exact (h.box k b base hp).keep (toT (S j) (sg k) s1 rfl hSv) rfl
        refine oper_ok ok hcf hSs (hG _ rfl hSv) hop fun v w' β' Z' hn hv hq => ?_
        have lk : ∀ k p, β' k = some p → k < (S (j + 1)).bs.length := fun k p hp => hn.sim.dom k p.1 p.2 hp
        have oldk : ∀ k p, k < (S j).bs.length → β' k = some p → ∃ q, β k = some q := by
          intro k p hk hp
          cases hβ : β k with
          | some q => exact ⟨q, rfl⟩
          | none =>
            have := (hn.old k hk (by simp only [if_pos hk]; exact hβ)).1
            rw [hp] at this; cases this
        have same : ∀ k p, β' k = some p → (S (j + 1)).bs[k]? = some (Hs S (sgNew pv ops F S j (j + 1) sg) k) := by
          intro k p hp
          have hk1 := lk k p hp
          by_cases hc : effI pv ops F j ∨ (S j).bs.length ≤ k
          · have hsg : sgNew pv ops F S j (j + 1) sg k = j + 1 := by simp only [sgNew]; rw [if_pos ⟨hk1, hc⟩]
            simp only [Hs, hsg]
            rw [List.getElem?_eq_getElem hk1]; rfl
          · have hsg : sgNew pv ops F S j (j + 1) sg k = sg k := by simp only [sgNew]; rw [if_neg fun h' => hc h'.2]
            have hk : k < (S j).bs.length := by
              rcases Nat.lt_or_ge k (S j).bs.length with h' | h'
              · exact h'
              · exact absurd (.inr h') hc
            obtain ⟨q, hq'⟩ := oldk k p hk hp
            have := (tr_goes hcf ht j hjn).2 (fun h' => hc (.inl h')) k hk
            rw [this, (sb k q hq' hk).2.2]
            simp only [Hs, hsg]
        refine hK _ _ _ _ _ (h.put hcf ht hj ho (addE_iff E j) hrd hlate hdj h0.ro hn rfl rfl rfl hv hSv (Nat.le_refl _) (by omega) (fun i h1 h2 => ?_) (.inl rfl) (fun k p hp => by simp only [St.ver, same k p hp, Option.bind_some]) (fun k b base hp _ => hn.sim.box k b base _ hp (same k _ hp)) (fun hne => hq ?_) fun _ => ⟨rfl, rfl⟩)
        · rcases Nat.lt_or_ge j i with h' | h'
          · obtain ⟨x, p1, p2, _⟩ := h2
            have := C2 i x h' p1 (by simp [conf, p2, hpa, hrd']); rw [this] at h1; cases h1
          · omega
        · cases he : effB pv o with
          | false => rfl
          | true => exact absurd ⟨o, ho, he, by rw [hGw]; exact hw⟩ hne
  · have hw' := hw
    rw [hGw] at hw
    rw [want_ok (hG _ (holT_len _ _ _) hTv) hw]
    simp only [Bool.false_eq_true, if_false]
    have hne : ¬ effI pv ops F j := by
      rintro ⟨o', h1, _, h3⟩
      rw [ho] at h1; cases h1; rw [hw'] at h3; cases h3
    exact hollow (holT (S j) β (Hs S sg)) _ w _ Z undef (holT_len _ _ _) rfl hTv hne (.inl ⟨hs, rfl⟩) (Nx.same hTs) (by rw [hd]; exact .im _ _ (.tup [] [] rfl (by simp))) (Quiet.refl _)
end
end Go.V
