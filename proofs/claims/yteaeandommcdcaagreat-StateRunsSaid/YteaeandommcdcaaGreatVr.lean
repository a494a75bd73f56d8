/-
  V's operations by themselves: what they look at, what they leave.
-/
import Derived.Test.YteaeandommcdcaaGreatVq
namespace Go.V
set_option linter.unusedSimpArgs false
set_option linter.unusedVariables false
set_option linter.unusedSectionVars false
set_option linter.unnecessarySimpa false
open Go.RowKit

theorem map_ev {fr fr' : Fr} {l : List Operand} (h : ∀ x ∈ l, fr.ev x = fr'.ev x) : l.map fr.ev = l.map fr'.ev := List.map_congr_left h

theorem parts_ev {fr fr' : Fr} {l : List (Nat × Operand)} (h : ∀ p ∈ l, fr.ev p.2 = fr'.ev p.2) : l.map (fun p => (p.1, fr.ev p.2)) = l.map (fun p => (p.1, fr'.ev p.2)) :=
  List.map_congr_left fun p hp => by rw [h p hp]

theorem opD_congr {pv : Pv} {fr fr' : Fr} {st : St} {op : Op} {ty : TypeId} (h : ∀ x ∈ op.operands.toList, fr.ev x = fr'.ev x) : opD pv fr st op ty = opD pv fr' st op ty := by
  unfold opD
  cases op with
  | build t ps => simp only; rw [parts_ev fun p hp => h p.2 (by simp [Op.operands]; exact ⟨p.1, by simpa using hp⟩)]
  | buildSlice t len ps => simp only; rw [parts_ev fun p hp => h p.2 (by simp [Op.operands]; exact ⟨p.1, by simpa using hp⟩)]
  | makeFunc f first captured =>
    cases f <;> simp only
    have : captured.toList.map fr.ev = captured.toList.map fr'.ev := map_ev fun x hx => h x (by simp [Op.operands]; right; simpa using hx)
    rw [this]
  | slice t x lo hi mx =>
    cases mx <;> simp only
    have hx : fr.ev x = fr'.ev x := h x (by simp [Op.operands])
    have hlo : lo.map fr.ev = lo.map fr'.ev := by
      cases lo with
      | none => rfl
      | some l => simp only [Option.map_some]; rw [h l (by simp [Op.operands])]
    have hhi : hi.map fr.ev = hi.map fr'.ev := by
      cases hi with
      | none => rfl
      | some l => simp only [Option.map_some]; rw [h l (by simp [Op.operands])]
    rw [hx, hlo, hhi]
  | makeMap t r =>
    cases r with
    | none => rfl
    | some x => simp only [Option.map_some]; rw [h x (by simp [Op.operands])]
  | lookup t x i ok =>
    simp only [Op.operands, List.mem_cons, List.not_mem_nil, or_false, forall_eq_or_imp, forall_eq, List.toList_toArray] at h
    cases ok
    · simp only [h]
    · rfl
  | call c =>
    obtain ⟨callee, args, ats⟩ := c
    cases callee <;> simp only
    have : args.toList.map fr.ev = args.toList.map fr'.ev := map_ev fun x hx => h x (by simp [Op.operands, Call.operands]; simpa using hx)
    rw [this]
  | _ => simp only [Op.operands, List.mem_cons, List.not_mem_nil, or_false, forall_eq_or_imp, forall_eq, List.toList_toArray] at h <;> simp only [h]

def tmpsOf : List Operand → List Nat
  | [] => []
  | .tmp t :: l => t :: tmpsOf l
  | _ :: l => tmpsOf l

theorem mem_tmpsOf {t : Nat} : ∀ {l : List Operand}, .tmp t ∈ l → t ∈ tmpsOf l
  | x :: l, h => by
    rcases List.mem_cons.1 h with rfl | h
    · simp [tmpsOf]
    · have := mem_tmpsOf h
      cases x <;> simp [tmpsOf, this]

/-- the slots that an operation looks at -/
def looks (ops : Array Oper) (o : Oper) : List Nat :=
  (match o.guard with
   | some (j, _) => match (ops[j]?).bind (·.dst) with
     | some t => [t]
     | none => []
   | none => []) ++ tmpsOf o.op.operands.toList

theorem ev_congr {fr fr' : Fr} {ts : List Nat} (h : ∀ t ∈ ts, fr.get t = fr'.get t) {x : Operand} (hx : ∀ t, x = .tmp t → t ∈ ts) : fr.ev x = fr'.ev x := by
  cases x <;> first | rfl | exact h _ (hx _ rfl)

theorem operD_congr {pv : Pv} {cf : CallF} {ops : Array Oper} {fr fr' : Fr} {st : St} {o : Oper} (h : ∀ t ∈ looks ops o, fr.get t = fr'.get t) : operD pv cf fr st o = operD pv cf fr' st o := by
  have he : ∀ x ∈ o.op.operands.toList, fr.ev x = fr'.ev x := fun x hx => ev_congr h fun t e => by subst e; exact List.mem_append_right _ (mem_tmpsOf hx)
  unfold operD
  split
  · rename_i f args ats hop
    rw [hop] at he
    have hf : fr.ev f = fr'.ev f := he f (by simp [Op.operands, Call.operands])
    have ha : args.toList.map fr.ev = args.toList.map fr'.ev := map_ev fun x hx => he x (by simp [Op.operands, Call.operands]; right; simpa using hx)
    rw [hf, ha]
  · exact opD_congr he

theorem wantD_congr {ops : Array Oper} {fr fr' : Fr} {o : Oper} (h : ∀ t ∈ looks ops o, fr.get t = fr'.get t) : wantD ops fr o = wantD ops fr' o := by
  unfold wantD
  cases hg : o.guard with
  | none => rfl
  | some p =>
    obtain ⟨j, want⟩ := p
    simp only
    cases ht : (ops[j]?).bind (·.dst) with
    | none => rfl
    | some t =>
      simp only
      rw [h t (by simp [looks, hg, ht])]

/-- does an operation give what it gives whatever the boxes hold? -/
def paB (o : Oper) : Bool :=
  match o.op with
  | .move _ | .assign _ | .pick _ _ _ | .alloc _ | .box _ _ | .build _ _ | .buildSlice _ _ _ | .nilCheck _ | .binOp _ _ _ _ _ | .unOp _ _ _ | .makeFunc _ _ _ | .makeSlice _ _ _
  | .fieldAddr _ _ _ | .field _ _ _ | .index _ _ _ | .extract _ _ => true
  | .call ⟨.builtin b, _, _⟩ => match b with
    | .len | .min | .max => true
    | _ => false
  | _ => false

theorem builtin_pa {pv : Pv} {b : Builtin} {ats : List TypeId} {args : List D} {st st' : St} {d : D} (hb : b = .len ∨ b = .min ∨ b = .max) (h : builtinD pv b ats args st = some (d, st')) (T : St) : st' = st ∧ builtinD pv b ats args T = some (d, T) := by
  rcases hb with rfl | rfl | rfl
  · match args, h with
    | [x], h =>
      simp only [builtinD] at h ⊢
      split at h
      · split at h
        · split at h
          · cases h; exact ⟨rfl, rfl⟩
          · cases h
        · cases x with
          | str s => cases h
          | _ =>
            simp only at h ⊢
            split at h
            · rename_i n hn; cases h; exact ⟨rfl, by simp only [hn]⟩
            · cases h
        · cases h; exact ⟨rfl, rfl⟩
        · cases h
      · cases h
    | [], h => simp [builtinD] at h
    | _ :: _ :: _, h => simp [builtinD] at h
  · match args, h with
    | [], h => simp [builtinD] at h
    | x :: l, h =>
      simp only [builtinD] at h ⊢
      obtain ⟨r, hz, hs⟩ := Option.map_eq_some_iff.1 h
      cases hs
      exact ⟨rfl, by rw [hz]; rfl⟩
  · match args, h with
    | [], h => simp [builtinD] at h
    | x :: l, h =>
      simp only [builtinD] at h ⊢
      obtain ⟨r, hz, hs⟩ := Option.map_eq_some_iff.1 h
      cases hs
      exact ⟨rfl, by rw [hz]; rfl⟩

theorem opD_pa {pv : Pv} {fr : Fr} {st st' : St} {o : Oper} {d : D} (hp : paB o = true) (h : opD pv fr st o.op o.type = some (d, st')) (T : St) (hT : T.bs.length = st.bs.length) :
    ∃ T', opD pv fr T o.op o.type = some (d, T') ∧ ((st' = st ∧ T' = T) ∨ ∃ ar cs, st' = st.push (.mem 0 ar cs) ∧ T' = T.push (.mem 0 ar cs)) := by
  obtain ⟨dst, op, ty, pos, after, guard⟩ := o
  simp only at h ⊢
  cases op <;> simp only [paB, Bool.false_eq_true] at hp <;> simp only [opD] at h ⊢
  case move x => cases h; exact ⟨T, rfl, .inl ⟨rfl, rfl⟩⟩
  case assign x => cases h; exact ⟨T, rfl, .inl ⟨rfl, rfl⟩⟩
  case pick c p q => split at h <;> first | (cases h; exact ⟨T, rfl, .inl ⟨rfl, rfl⟩⟩) | cases h
  case alloc e =>
    obtain ⟨cs, hz, hs⟩ := Option.map_eq_some_iff.1 h
    cases hs
    exact ⟨_, by rw [hz, hT]; rfl, .inr ⟨_, _, rfl, rfl⟩⟩
  case box e x =>
    obtain ⟨cs, hz, hs⟩ := Option.map_eq_some_iff.1 h
    cases hs
    exact ⟨_, by rw [hz, hT]; rfl, .inr ⟨_, _, rfl, rfl⟩⟩
  case build t ps =>
    obtain ⟨r, hz, hs⟩ := Option.map_eq_some_iff.1 h
    cases hs
    exact ⟨_, by rw [hz]; rfl, .inl ⟨rfl, rfl⟩⟩
  case buildSlice t len ps =>
    unfold buildSliceD at h ⊢
    split at h
    · rename_i e ht
      obtain ⟨s, hsz, h⟩ := Option.bind_eq_some_iff.1 h
      obtain ⟨z, hz, h⟩ := Option.bind_eq_some_iff.1 h
      split at h
      · rename_i hck
        obtain ⟨cs, hf, hs⟩ := Option.map_eq_some_iff.1 h
        cases hs
        exact ⟨_, by simp only [hsz, hz, Option.bind_some, hck, and_self, if_true, hf, Option.map_some, hT], .inr ⟨_, _, rfl, rfl⟩⟩
      · cases h
    · cases h
  case nilCheck x => split at h <;> first | (cases h; exact ⟨T, rfl, .inl ⟨rfl, rfl⟩⟩) | cases h
  case binOp a b c d e =>
    obtain ⟨r, hz, hs⟩ := Option.map_eq_some_iff.1 h
    cases hs
    exact ⟨_, by rw [hz]; rfl, .inl ⟨rfl, rfl⟩⟩
  case unOp a b c =>
    obtain ⟨r, hz, hs⟩ := Option.map_eq_some_iff.1 h
    cases hs
    exact ⟨_, by rw [hz]; rfl, .inl ⟨rfl, rfl⟩⟩
  case makeFunc f first captured =>
    cases f <;> simp only at h ⊢ <;> first | cases h | skip
    split at h
    · rename_i hfe; cases h; exact ⟨T, by rw [if_pos hfe], .inl ⟨rfl, rfl⟩⟩
    · cases h
  case makeSlice t l c =>
    unfold makeSliceD at h ⊢
    split at h
    · rename_i e k l k' c ht hl hc
      obtain ⟨i, hi, h⟩ := Option.bind_eq_some_iff.1 h
      obtain ⟨z, hz, h⟩ := Option.bind_eq_some_iff.1 h
      split at h
      · rename_i hck
        cases h
        simp only [hi, hz, Option.bind_some]
        rw [if_pos hck, hT]
        exact ⟨_, rfl, .inr ⟨_, _, rfl, rfl⟩⟩
      · cases h
    · cases h
  case fieldAddr a b c =>
    obtain ⟨r, hz, hs⟩ := Option.map_eq_some_iff.1 h
    cases hs
    exact ⟨_, by rw [hz]; rfl, .inl ⟨rfl, rfl⟩⟩
  case field a b c =>
    obtain ⟨r, hz, hs⟩ := Option.map_eq_some_iff.1 h
    cases hs
    exact ⟨_, by rw [hz]; rfl, .inl ⟨rfl, rfl⟩⟩
  case index a b c =>
    obtain ⟨r, hz, hs⟩ := Option.map_eq_some_iff.1 h
    cases hs
    exact ⟨_, by rw [hz]; rfl, .inl ⟨rfl, rfl⟩⟩
  case extract t i =>
    split at h
    · obtain ⟨r, hz, hs⟩ := Option.map_eq_some_iff.1 h
      cases hs
      exact ⟨_, by rw [hz]; rfl, .inl ⟨rfl, rfl⟩⟩
    · cases h
  case call c =>
    obtain ⟨callee, args, ats⟩ := c
    cases callee <;> simp only [Bool.false_eq_true] at hp h ⊢
    rename_i b
    have hb : b = .len ∨ b = .min ∨ b = .max := by cases b <;> simp at hp ⊢
    obtain ⟨rfl, h2⟩ := builtin_pa hb h T
    exact ⟨T, h2, .inl ⟨rfl, rfl⟩⟩

theorem wr_goes {st st' : St} {k ver off : Nat} {cs : List D} (h : st.wr k ver off cs = some st') : Goes st st' := by
  unfold St.wr at h
  split at h
  · split at h
    · rename_i a c hm hc
      cases h
      exact Goes.set st k _ _ (canW_ro hc.2) (mem?_bs hm) ((canW_fl hc.2).imp id fun hr d hd => (mem_setMany _ _ _ hd).imp id fun hd => Nat.le_trans (ref_le_refs hd) (by rw [refsAt_eq (mem?_bs hm)] at hr; exact hr))
    · cases h
  · cases h

theorem append_goes {pv : Pv} {ats : List TypeId} {s x d : D} {st st' : St} (h : appendD pv ats s x st = some (d, st')) : Goes st st' := by
  unfold appendD at h
  split at h
  · split at h
    · split at h
      · cases h
      · obtain ⟨i, hi, h⟩ := Option.bind_eq_some_iff.1 h
        obtain ⟨z, hz, h⟩ := Option.bind_eq_some_iff.1 h
        obtain ⟨⟨n, ys⟩, hrow, h⟩ := Option.bind_eq_some_iff.1 h
        dsimp only at h
        split at h
        · cases h
        · cases s with
          | nul =>
            simp only at h
            split at h
            · cases h; exact .refl _
            · split at h
              · cases h; exact .push _ _
              · cases h
          | win k ver off len sz =>
            simp only at h
            split at h
            · split at h
              · cases h
              · split at h
                · cases h; exact .refl _
                · split at h
                  · rename_i hc
                    cases h
                    have hbk := mem?_bs (by assumption)
                    refine Goes.set st k _ _ (canW_ro hc.2) hbk ((canW_fl hc.2).imp id fun hr d hd => ?_)
                    rw [refsAt_eq hbk] at hr
                    rcases List.mem_append.1 hd with hd | hd
                    · exact .inl (List.mem_of_mem_take (List.mem_of_mem_drop hd))
                    · exact .inr (Nat.le_trans (ref_le_refs hd) hr)
                  · cases h
            · cases h
          | _ => cases h
    · cases h
  · cases h

theorem copy_goes {pv : Pv} {ats : List TypeId} {s x d : D} {st st' : St} (h : copyD pv ats s x st = some (d, st')) : Goes st st' := by
  unfold copyD at h
  split at h
  · split at h
    · obtain ⟨i, hi, h⟩ := Option.bind_eq_some_iff.1 h
      obtain ⟨⟨n, ys⟩, hrow, h⟩ := Option.bind_eq_some_iff.1 h
      dsimp only at h
      split at h
      · cases h
      · cases s with
        | nul => cases h; exact .refl _
        | win k ver off len sz =>
          simp only at h
          split at h
          · cases h
          · obtain ⟨r, hz, hs⟩ := Option.map_eq_some_iff.1 h
            cases hs; exact wr_goes hz
        | _ => cases h
    · cases h
  · cases h

theorem clear_goes {pv : Pv} {ats : List TypeId} {s d : D} {st st' : St} (h : clearD pv ats s st = some (d, st')) : Goes st st' := by
  unfold clearD at h
  split at h
  · split at h
    · cases s with
      | nul => cases h; exact .refl _
      | win k ver off len sz =>
        simp only at h
        obtain ⟨i, hi, h⟩ := Option.bind_eq_some_iff.1 h
        split at h
        · obtain ⟨r, hz, hs⟩ := Option.map_eq_some_iff.1 h
          cases hs; exact wr_goes hz
        · cases h
      | _ => cases h
    · cases h
  · cases h

theorem next_goes {x d : D} {b : Bool} {st st' : St} (h : nextD x b st = some (d, st')) : Goes st st' := by
  unfold nextD at h
  split at h
  · split at h
    · split at h
      · split at h
        · rename_i hc
          cases h
          exact Goes.set st _ _ _ (canW_ro hc) (by assumption) (.inr fun d hd => by simp [Box.cells] at hd)
        · cases h
      · cases h; exact .refl _
    · cases h
  · cases h

theorem mapSet_goes {pv : Pv} {t : TypeId} {m key v : D} {st st' : St} (h : mapSetD pv t m key v st = some st') : Goes st st' := by
  unfold mapSetD at h
  split at h
  · split at h
    · rename_i hb
      split at h
      · rename_i hc
        split at h
        · cases h; exact Goes.set st _ _ _ (canW_ro hc) hb (.inr fun d hd => by simp [Box.cells] at hd)
        · cases h; exact Goes.set st _ _ _ (canW_ro hc) hb (.inr fun d hd => by simp [Box.cells] at hd)
        · cases h
      · cases h
    · cases h
  · cases h

theorem opD_goes {pv : Pv} {fr : Fr} {st st' : St} {o : Oper} {d : D} (h : opD pv fr st o.op o.type = some (d, st')) : Goes st st' ∧ (effB pv o = false → Adds st st') := by
  by_cases hp : paB o = true
  · obtain ⟨T', _, ⟨rfl, _⟩ | ⟨ar, cs, rfl, _⟩⟩ := opD_pa hp h st rfl
    · exact ⟨.refl _, fun _ => .rfl _⟩
    · exact ⟨.push _ _, fun _ => .push _ _⟩
  · obtain ⟨dst, op, ty, pos, after, guard⟩ := o
    simp only at h
    have ad : Adds st st' → Goes st st' ∧ (effB pv ⟨dst, op, ty, pos, after, guard⟩ = false → Adds st st') := fun ha => ⟨ha.goes, fun _ => ha⟩
    cases op <;> simp only [paB, not_true_eq_false, Bool.false_eq_true, not_false_eq_true] at hp <;> simp only [opD] at h
    case load t a => obtain ⟨r, hz, hs⟩ := Option.map_eq_some_iff.1 h; cases hs; exact ad (.rfl _)
    case store t a x =>
      obtain ⟨r, hz, hs⟩ := Option.map_eq_some_iff.1 h; cases hs
      refine ⟨?_, fun e => by simp [effB] at e⟩
      unfold storeD at hz
      split at hz
      · split at hz
        · exact wr_goes hz
        · cases hz
      · cases hz
    case convert s t x =>
      refine ad ?_
      unfold convD at h
      split at h
      · cases h; exact .rfl _
      · cases h; exact .rfl _
      · cases h; exact .rfl _
      · split at h
        · split at h
          · cases h; exact .push _ _
          · cases h
        · cases h
      · split at h
        · split at h
          · cases h; exact .rfl _
          · cases h
        · cases h
      · split at h
        · split at h
          · cases h
          · split at h
            · obtain ⟨r, hz, hs⟩ := Option.map_eq_some_iff.1 h; cases hs; exact .rfl _
            · cases h
        · cases h
      · cases h
    case slice t x lo hi mx =>
      cases mx <;> simp only at h <;> first | cases h | skip
      obtain ⟨r, hz, hs⟩ := Option.map_eq_some_iff.1 h; cases hs; exact ad (.rfl _)
    case indexAddr t x i => obtain ⟨r, hz, hs⟩ := Option.map_eq_some_iff.1 h; cases hs; exact ad (.rfl _)
    case range t x =>
      refine ad ?_
      unfold rangeD at h
      split at h
      · cases h; exact .push _ _
      · cases h
    case next it s => exact ⟨next_goes h, fun e => by simp [effB] at e⟩
    case makeMap t r =>
      refine ad ?_
      unfold makeMapD at h
      split at h
      · cases h; exact .push _ _
      · split at h
        · cases h; exact .push _ _
        · cases h
      · cases h
    case insert t m k x =>
      obtain ⟨r, hz, hs⟩ := Option.map_eq_some_iff.1 h; cases hs
      exact ⟨mapSet_goes hz, fun e => by simp [effB] at e⟩
    case mapUpdate t m k x =>
      obtain ⟨r, hz, hs⟩ := Option.map_eq_some_iff.1 h; cases hs
      exact ⟨mapSet_goes hz, fun e => by simp [effB] at e⟩
    case lookup t x i ok =>
      cases ok <;> simp only at h <;> first | cases h | skip
      obtain ⟨r, hz, hs⟩ := Option.map_eq_some_iff.1 h; cases hs; exact ad (.rfl _)
    case call c =>
      obtain ⟨callee, args, ats⟩ := c
      cases callee <;> simp only at h <;> first | cases h | skip
      rename_i b
      unfold builtinD at h
      refine ⟨?_, fun e => ?_⟩
      · split at h
        · exact absurd hp (by simp)
        · exact append_goes h
        · exact copy_goes h
        · exact clear_goes h
        · exact absurd hp (by simp)
        · exact absurd hp (by simp)
        · cases h
      · cases b <;> simp [effB] at e <;> simp at hp
    all_goals cases h

theorem operD_goes {P : Program} {pv : Pv} {cf : CallF} (hcf : CfOk P pv cf) {fr : Fr} {st st' : St} {o : Oper} {d : D} (h : operD pv cf fr st o = some (d, st')) : Goes st st' ∧ (effB pv o = false → Adds st st') := by
  unfold operD at h
  split at h
  · rename_i f args ats hop
    split at h
    · rename_i g caps hev
      refine ⟨hcf.len _ _ _ _ _ h, fun e => ?_⟩
      simp only [effB, hop] at e
      cases f with
      | func g' =>
        simp only [Fr.ev] at hev
        cases hev
        exact hcf.ro _ _ _ _ _ h (by simpa using e)
      | _ => simp at e
    · cases h
  · exact opD_goes h
end Go.V
