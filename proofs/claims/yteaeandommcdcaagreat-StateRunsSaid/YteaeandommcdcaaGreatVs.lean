/-
  A region that draws its order: the static look, the run in the text's order.
-/
import Derived.Test.YteaeandommcdcaaGreatVr
import Derived.Orders
namespace Go.V
set_option linter.unusedSimpArgs false
set_option linter.unusedVariables false
set_option linter.unusedSectionVars false
set_option linter.unnecessarySimpa false
open Go.RowKit

def maskOf (acc : List Nat) : List Edge → Nat
  | [] => 0
  | e :: l => match Region.binds .any e with
    | true => maskOf acc l ||| (1 <<< e.on) ||| acc.getD e.on 0
    | false => maskOf acc l

def masks : List Oper → List Nat → List Nat
  | [], acc => acc
  | o :: l, acc => masks l (acc ++ [maskOf acc o.after.toList])

def dstHit (d : Option Nat) (l : List Nat) : Bool :=
  match d with
  | some t => l.contains t
  | none => false

def sameDst : Option Nat → Option Nat → Bool
  | some a, some b => a == b
  | _, _ => false

/-- is it a reading through a pointer or a slice? -/
def rdB (o : Oper) : Bool := (rdOp? o.op).isSome

/-- may two operations not change places? b: what one reads is looked at while the region runs -/
def conf (pv : Pv) (ops : Array Oper) (b : Bool) (x y : Oper) : Bool :=
  dstHit x.dst (looks ops y) || dstHit y.dst (looks ops x) || sameDst x.dst y.dst || (effB pv x && !paB y && !(rdB y && b)) || (effB pv y && !paB x && !(rdB x && b))

def listed (dy : List (Nat × Nat)) (i j : Nat) : Bool := dy.any fun p => Nat.beq p.1 i && Nat.beq p.2 j

def okAt (pv : Pv) (ops : Array Oper) (dy : List (Nat × Nat)) (ms : List Nat) (j : Nat) : Bool :=
  match ops[j]? with
  | some y => (y.after.toList.all fun e => !Region.binds .any e || Nat.blt e.on j) && (List.range j).all fun i => match ops[i]? with
    | some x => !conf pv ops (listed dy i j) x y || (ms.getD j 0).testBit i
    | none => true
  | none => true

/-- may a region be run in whatever order its edges allow? -/
def okReg (pv : Pv) (ops : Array Oper) (dy : List (Nat × Nat)) : Bool := (List.range ops.size).all (okAt pv ops dy (masks ops.toList []))

/-- closed under the edges -/
def Closed (ops : Array Oper) (E : Nat → Bool) : Prop := ∀ k o, E k = true → ops[k]? = some o → ∀ e ∈ o.after.toList, Region.binds .any e = true → E e.on = true

def AncOk (E : Nat → Bool) (acc : List Nat) : Prop := ∀ k i, (acc.getD k 0).testBit i = true → E k = true → E i = true

theorem mask_ok {E : Nat → Bool} {acc : List Nat} (ha : AncOk E acc) {i : Nat} : ∀ (l : List Edge), (maskOf acc l).testBit i = true → (∀ e ∈ l, Region.binds .any e = true → E e.on = true) → E i = true
  | [], h, _ => by simp [maskOf] at h
  | e :: l, h, he => by
    have he' : ∀ e ∈ l, Region.binds .any e = true → E e.on = true := fun e h => he e (List.mem_cons_of_mem _ h)
    unfold maskOf at h
    cases hb : Region.binds .any e with
    | false => rw [hb] at h; exact mask_ok ha l h he'
    | true =>
      rw [hb] at h
      simp only [Nat.testBit_or, Bool.or_eq_true] at h
      have hon := he e (List.mem_cons_self ..) hb
      rcases h with (h | h) | h
      · exact mask_ok ha l h he'
      · rw [Nat.one_shiftLeft, Nat.testBit_two_pow] at h
        have : e.on = i := by simpa using h
        rw [← this]; exact hon
      · exact ha _ _ h hon

theorem masks_ok {E : Nat → Bool} {ops : Array Oper} (hc : Closed ops E) : ∀ (l : List Oper) (acc : List Nat), (∀ j, l[j]? = ops[acc.length + j]?) → AncOk E acc → AncOk E (masks l acc)
  | [], acc, _, h => h
  | o :: l, acc, hl, h => by
    have h0 := hl 0
    simp only [List.getElem?_cons_zero, Nat.add_zero] at h0
    refine masks_ok hc l _ (fun j => ?_) fun k i hk hE => ?_
    · have := hl (j + 1)
      simp only [List.getElem?_cons_succ] at this
      rw [this]; simp [Nat.add_assoc, Nat.add_comm 1 j]
    · rcases Nat.lt_trichotomy k acc.length with hlt | heq | hgt
      · simp only [List.getD_eq_getElem?_getD, List.getElem?_append_left hlt] at hk
        exact h k i (by simpa only [List.getD_eq_getElem?_getD] using hk) hE
      · subst heq
        simp only [List.getD_eq_getElem?_getD] at hk
        simp at hk
        exact mask_ok h _ hk (hc _ o hE h0.symm)
      · simp only [List.getD_eq_getElem?_getD] at hk
        rw [List.getElem?_eq_none (by simp; omega)] at hk
        simp at hk

/-- what the static look gives -/
theorem okReg_anc {pv : Pv} {ops : Array Oper} {dy : List (Nat × Nat)} (h : okReg pv ops dy = true) {i j : Nat} {x y : Oper} (hij : i < j) (hx : ops[i]? = some x) (hy : ops[j]? = some y) (hc : conf pv ops (listed dy i j) x y = true) {E : Nat → Bool} (hE : Closed ops E) (hj : E j = true) : E i = true := by
  have hjn : j < ops.size := by
    rcases Nat.lt_or_ge j ops.size with h' | h'
    · exact h'
    · rw [Array.getElem?_eq_none h'] at hy; cases hy
  have h1 := List.all_eq_true.1 h j (List.mem_range.2 hjn)
  unfold okAt at h1
  rw [hy] at h1
  simp only [Bool.and_eq_true] at h1
  have h2 := List.all_eq_true.1 h1.2 i (List.mem_range.2 hij)
  rw [hx] at h2
  simp only [hc, Bool.not_true, Bool.false_or] at h2
  exact masks_ok hE ops.toList [] (fun j => by simp) (fun k i hk _ => by simp at hk) j i h2 hj

theorem okReg_edge {pv : Pv} {ops : Array Oper} {dy : List (Nat × Nat)} (h : okReg pv ops dy = true) {j : Nat} {y : Oper} (hy : ops[j]? = some y) {e : Edge} (he : e ∈ y.after.toList) (hb : Region.binds .any e = true) : e.on < j := by
  have hjn : j < ops.size := by
    rcases Nat.lt_or_ge j ops.size with h' | h'
    · exact h'
    · rw [Array.getElem?_eq_none h'] at hy; cases hy
  have h1 := List.all_eq_true.1 h j (List.mem_range.2 hjn)
  unfold okAt at h1
  rw [hy] at h1
  simp only [Bool.and_eq_true] at h1
  have := List.all_eq_true.1 h1.1 e he
  simp only [hb, Bool.not_true, Bool.false_or] at this
  have := Nat.le_of_ble_eq_true this
  omega

/-- the run in the text's order, step by step -/
structure Trace (pv : Pv) (cf : CallF) (ops : Array Oper) (l : List Oper) (F : Nat → Fr) (S : Nat → St) (dd : Nat → D) : Prop where
  put : ∀ i o, l[i]? = some o → F (i + 1) = (F i).putO o.dst (dd i)
  step : ∀ i o, l[i]? = some o → (wantD ops (F i) o = some true ∧ operD pv cf (F i) (S i) o = some (dd i, S (i + 1))) ∨ (wantD ops (F i) o = some false ∧ dd i = .tup [] ∧ S (i + 1) = S i)

theorem trace {pv : Pv} {cf : CallF} {ops : Array Oper} : ∀ (l : List Oper) (fr : Fr) (st : St) (fr' : Fr) (st' : St), opsD pv cf ops l fr st = some (fr', st') →
    ∃ (F : Nat → Fr) (S : Nat → St) (dd : Nat → D), F 0 = fr ∧ S 0 = st ∧ F l.length = fr' ∧ S l.length = st' ∧ Trace pv cf ops l F S dd
  | [], fr, st, fr', st', h => by
    simp only [opsD] at h; cases h
    exact ⟨fun _ => fr, fun _ => st, fun _ => .junk, rfl, rfl, rfl, rfl, by intro i o h; simp at h, by intro i o h; simp at h⟩
  | o :: l, fr, st, fr', st', h => by
    simp only [opsD] at h
    have mk : ∀ (d : D) (st1 : St), ((wantD ops fr o = some true ∧ operD pv cf fr st o = some (d, st1)) ∨ (wantD ops fr o = some false ∧ d = .tup [] ∧ st1 = st)) → opsD pv cf ops l (fr.putO o.dst d) st1 = some (fr', st') →
        ∃ (F : Nat → Fr) (S : Nat → St) (dd : Nat → D), F 0 = fr ∧ S 0 = st ∧ F (o :: l).length = fr' ∧ S (o :: l).length = st' ∧ Trace pv cf ops (o :: l) F S dd := by
      intro d st1 hst hr
      obtain ⟨F, S, dd, h1, h2, h3, h4, h5⟩ := trace l _ _ _ _ hr
      refine ⟨fun | 0 => fr | i + 1 => F i, fun | 0 => st | i + 1 => S i, fun | 0 => d | i + 1 => dd i, rfl, rfl, h3, h4, ⟨fun i p hp => ?_, fun i p hp => ?_⟩⟩
      · cases i with
        | zero => simp at hp; subst hp; exact h1
        | succ i => exact h5.put i p (by simpa using hp)
      · cases i with
        | zero => simp at hp; subst hp; simp only [h2]; exact hst
        | succ i => exact h5.step i p (by simpa using hp)
    split at h
    · rename_i hw
      split at h
      · rename_i d st1 hop; exact mk d st1 (.inl ⟨hw, hop⟩) h
      · cases h
    · rename_i hw; exact mk _ st (.inr ⟨hw, rfl, rfl⟩) h
    · cases h

/-- the last of the first k operations, of those in E, that writes slot t -/
def lastW (ops : Array Oper) (E : Nat → Bool) (t : Nat) : Nat → Option Nat
  | 0 => none
  | k + 1 => match ops[k]? with
    | some o => if E k = true ∧ o.dst = some t then some k else lastW ops E t k
    | none => lastW ops E t k

theorem lastW_spec (ops : Array Oper) (E : Nat → Bool) (t : Nat) : ∀ (n : Nat), match lastW ops E t n with
    | some j => j < n ∧ E j = true ∧ (∃ o, ops[j]? = some o ∧ o.dst = some t) ∧ ∀ i o, j < i → i < n → ops[i]? = some o → o.dst = some t → E i = false
    | none => ∀ i o, i < n → ops[i]? = some o → o.dst = some t → E i = false
  | 0 => by intro i o h; omega
  | n + 1 => by
    have ih := lastW_spec ops E t n
    unfold lastW
    cases hn : ops[n]? with
    | none =>
      simp only
      cases hl : lastW ops E t n with
      | none =>
        rw [hl] at ih
        intro i o hi ho hd
        rcases Nat.lt_or_ge i n with h' | h'
        · exact ih i o h' ho hd
        · have : i = n := by omega
          subst this; rw [hn] at ho; cases ho
      | some j =>
        rw [hl] at ih
        refine ⟨by omega, ih.2.1, ih.2.2.1, fun i o hj hi ho hd => ?_⟩
        rcases Nat.lt_or_ge i n with h' | h'
        · exact ih.2.2.2 i o hj h' ho hd
        · have : i = n := by omega
          subst this; rw [hn] at ho; cases ho
    | some p =>
      simp only
      by_cases hc : E n = true ∧ p.dst = some t
      · rw [if_pos hc]
        exact ⟨by omega, hc.1, ⟨p, hn, hc.2⟩, fun i o hj hi => by omega⟩
      · rw [if_neg hc]
        have hE : ∀ o, ops[n]? = some o → o.dst = some t → E n = false := by
          intro o ho hd
          rw [hn] at ho; cases ho
          cases hq : E n with
          | false => rfl
          | true => exact absurd ⟨hq, hd⟩ hc
        cases hl : lastW ops E t n with
        | none =>
          rw [hl] at ih
          intro i o hi ho hd
          rcases Nat.lt_or_ge i n with h' | h'
          · exact ih i o h' ho hd
          · have : i = n := by omega
            subst this; exact hE o ho hd
        | some j =>
          rw [hl] at ih
          refine ⟨by omega, ih.2.1, ih.2.2.1, fun i o hj hi ho hd => ?_⟩
          rcases Nat.lt_or_ge i n with h' | h'
          · exact ih.2.2.2 i o hj h' ho hd
          · have : i = n := by omega
            subst this; exact hE o ho hd

theorem lastW_eq {ops : Array Oper} {E E' : Nat → Bool} {t a b : Nat} (h1 : ∀ i o, ops[i]? = some o → o.dst = some t → ((i < a ∧ E i = true) ↔ (i < b ∧ E' i = true))) : lastW ops E t a = lastW ops E' t b := by
  have s1 := lastW_spec ops E t a
  have s2 := lastW_spec ops E' t b
  cases h : lastW ops E t a with
  | none =>
    rw [h] at s1
    cases h' : lastW ops E' t b with
    | none => rfl
    | some j =>
      rw [h'] at s2
      obtain ⟨q1, q2, ⟨o, q3, q4⟩, _⟩ := s2
      obtain ⟨r1, r2⟩ := (h1 j o q3 q4).2 ⟨q1, q2⟩
      have := s1 j o r1 q3 q4
      rw [this] at r2; cases r2
  | some j =>
    rw [h] at s1
    obtain ⟨p1, p2, ⟨o, p3, p4⟩, p5⟩ := s1
    obtain ⟨r1, r2⟩ := (h1 j o p3 p4).1 ⟨p1, p2⟩
    cases h' : lastW ops E' t b with
    | none =>
      rw [h'] at s2
      have := s2 j o r1 p3 p4
      rw [this] at r2; cases r2
    | some k =>
      rw [h'] at s2
      obtain ⟨q1, q2, ⟨o', q3, q4⟩, q5⟩ := s2
      obtain ⟨u1, u2⟩ := (h1 k o' q3 q4).2 ⟨q1, q2⟩
      congr 1
      rcases Nat.lt_trichotomy j k with hlt | heq | hgt
      · have := p5 k o' hlt u1 q3 q4
        rw [this] at u2; cases u2
      · exact heq
      · have := q5 j o hgt r1 p3 p4
        rw [this] at r2; cases r2

/-- what V's frame holds in a slot that was written -/
def cput (fr : Fr) (t : Nat) (d : D) : D := if Nat.ble fr.n t = false ∧ fr.loc.length ≤ t then .junk else d

theorem putO_get (fr : Fr) (dst : Option Nat) (d : D) (u : Nat) : (fr.putO dst d).get u = if dst = some u then cput fr u d else fr.get u := by
  cases dst with
  | none => simp [Fr.putO]
  | some t =>
    simp only [Fr.putO, get_put, cput]
    by_cases h : u = t
    · subst h; simp
    · rw [if_neg h, if_neg (by simpa using fun e => h e.symm)]

theorem putO_shape (fr : Fr) (dst : Option Nat) (d : D) (t : Nat) (e : D) : cput (fr.putO dst d) t e = cput fr t e := by
  cases dst with
  | none => rfl
  | some u =>
    have h1 : (fr.put u d).n = fr.n := by unfold Fr.put; split <;> rfl
    have h2 : (fr.put u d).loc.length = fr.loc.length := by unfold Fr.put; split <;> simp
    simp only [Fr.putO, cput, h1, h2]

theorem trace_get {pv : Pv} {cf : CallF} {ops : Array Oper} {F : Nat → Fr} {S : Nat → St} {dd : Nat → D} (h : Trace pv cf ops ops.toList F S dd) (t : Nat) : ∀ (i : Nat), i ≤ ops.size →
    (F i).get t = (match lastW ops (fun _ => true) t i with | some j => cput (F 0) t (dd j) | none => (F 0).get t) ∧ ∀ e, cput (F i) t e = cput (F 0) t e
  | 0, _ => ⟨rfl, fun _ => rfl⟩
  | i + 1, hi => by
    obtain ⟨ih1, ih2⟩ := trace_get h t i (by omega)
    have ho : ops[i]? = some ops[i] := Array.getElem?_eq_getElem (by omega)
    have hp := h.put i ops[i] (by simpa using ho)
    rw [hp]
    refine ⟨?_, fun e => by rw [putO_shape]; exact ih2 e⟩
    rw [putO_get]
    unfold lastW
    rw [ho]
    simp only [true_and]
    split
    · exact ih2 _
    · exact ih1

/-- the i-th entry: of the log, or of what is run -/
def entry (j : Nat) (log : Log) (l : List Oper) (F : Nat → Fr) (S : Nat → St) (i : Nat) : Option (Oper × Fr × St × St) :=
  if i < j then log[j - 1 - i]? else (l[i - j]?).map fun x => (x, F (i - j), S (i - j), S (i - j + 1))

/-- what was looked at while the region ran -/
def Looked (dy : List (Nat × Nat)) (ops : Array Oper) (j : Nat) (log : Log) (l : List Oper) (F : Nat → Fr) (S : Nat → St) : Prop :=
  ∀ q o, l[q]? = some o → wantD ops (F q) o = some true → ∀ i, i < j + q → listed dy i (j + q) = true → ∃ x fi si si', entry j log l F S i = some (x, fi, si, si') ∧ pairOk x fi si si' o (F q) (S q) (S (q + 1)) = true

theorem chk_spec {dy : List (Nat × Nat)} {j : Nat} {log : Log} {o : Oper} {fr : Fr} {st st' : St} (h : chkY dy j log o fr st st' = true) {i : Nat} (hi : i < j) (hl : listed dy i j = true) : ∃ x fi si si', log[j - 1 - i]? = some (x, fi, si, si') ∧ pairOk x fi si si' o fr st st' = true := by
  unfold listed at hl
  obtain ⟨p, hp, he⟩ := List.any_eq_true.1 hl
  simp only [Bool.and_eq_true] at he
  have h1 := Nat.eq_of_beq_eq_true he.1
  have h2 := Nat.eq_of_beq_eq_true he.2
  have := List.all_eq_true.1 h p hp
  have hb : (Nat.beq p.2 j && Nat.blt p.1 j) = true := by
    rw [he.2, h1]; simp [Nat.blt]; omega
  rw [hb] at this
  simp only [h1] at this
  split at this
  · rename_i x fi si si' hx; exact ⟨x, fi, si, si', hx, this⟩
  · cases this

theorem traceY {pv : Pv} {cf : CallF} {ops : Array Oper} {dy : List (Nat × Nat)} : ∀ (l : List Oper) (j : Nat) (log : Log) (fr : Fr) (st : St) (fr' : Fr) (st' : St), log.length = j → opsY pv cf ops dy j log l fr st = some (fr', st') →
    ∃ (F : Nat → Fr) (S : Nat → St) (dd : Nat → D), F 0 = fr ∧ S 0 = st ∧ F l.length = fr' ∧ S l.length = st' ∧ Trace pv cf ops l F S dd ∧ Looked dy ops j log l F S
  | [], j, log, fr, st, fr', st', hj, h => by
    simp only [opsY] at h; cases h
    exact ⟨fun _ => fr, fun _ => st, fun _ => .junk, rfl, rfl, rfl, rfl, ⟨by intro i o h; simp at h, by intro i o h; simp at h⟩, by intro q o h; simp at h⟩
  | o :: l, j, log, fr, st, fr', st', hj, h => by
    simp only [opsY] at h
    have mk : ∀ (d : D) (st1 : St), ((wantD ops fr o = some true ∧ operD pv cf fr st o = some (d, st1) ∧ chkY dy j log o fr st st1 = true) ∨ (wantD ops fr o = some false ∧ d = .tup [] ∧ st1 = st)) → opsY pv cf ops dy (j + 1) ((o, fr, st, st1) :: log) l (fr.putO o.dst d) st1 = some (fr', st') →
        ∃ (F : Nat → Fr) (S : Nat → St) (dd : Nat → D), F 0 = fr ∧ S 0 = st ∧ F (o :: l).length = fr' ∧ S (o :: l).length = st' ∧ Trace pv cf ops (o :: l) F S dd ∧ Looked dy ops j log (o :: l) F S := by
      intro d st1 hst hr
      obtain ⟨F, S, dd, h1, h2, h3, h4, h5, h6⟩ := traceY l (j + 1) _ _ _ _ _ (by simp [hj]) hr
      refine ⟨fun | 0 => fr | i + 1 => F i, fun | 0 => st | i + 1 => S i, fun | 0 => d | i + 1 => dd i, rfl, rfl, h3, h4, ⟨fun i p hp => ?_, fun i p hp => ?_⟩, fun q p hp hw i hi hl => ?_⟩
      · cases i with
        | zero => simp at hp; subst hp; exact h1
        | succ i => exact h5.put i p (by simpa using hp)
      · cases i with
        | zero =>
          simp at hp; subst hp; simp only [h2]
          rcases hst with ⟨a, b, _⟩ | h
          · exact .inl ⟨a, b⟩
          · exact .inr h
        | succ i => exact h5.step i p (by simpa using hp)
      · cases q with
        | zero =>
          simp at hp; subst hp
          simp only at hw ⊢
          rcases hst with ⟨_, _, hc⟩ | ⟨hn, _, _⟩
          · obtain ⟨x, fi, si, si', e1, e2⟩ := chk_spec hc (i := i) (by omega) hl
            refine ⟨x, fi, si, si', ?_, by simp only [h2]; exact e2⟩
            unfold entry; rw [if_pos (by omega)]; exact e1
          · rw [hn] at hw; cases hw
        | succ q =>
          obtain ⟨x, fi, si, si', e1, e2⟩ := h6 q p (by simpa using hp) hw i (by omega) (by rw [show j + 1 + q = j + (q + 1) by omega]; exact hl)
          refine ⟨x, fi, si, si', ?_, e2⟩
          unfold entry at e1 ⊢
          rcases Nat.lt_trichotomy i j with h' | h' | h'
          · rw [if_pos (by omega)] at e1
            rw [if_pos h']
            rw [show j + 1 - 1 - i = (j - 1 - i) + 1 by omega] at e1
            simpa using e1
          · subst h'
            rw [if_pos (by omega)] at e1
            rw [if_neg (by omega)]
            simp at e1
            simp [h2]
            exact e1
          · rw [if_neg (by omega)] at e1
            rw [if_neg (by omega)]
            obtain ⟨m, hm⟩ : ∃ m, i = j + 1 + m := ⟨i - (j + 1), by omega⟩
            subst hm
            rw [show j + 1 + m - (j + 1) = m by omega] at e1
            rw [show j + 1 + m - j = m + 1 by omega]
            simpa using e1
    split at h
    · rename_i hw
      split at h
      · rename_i d st1 hop
        split at h
        · rename_i hc; exact mk d st1 (.inl ⟨hw, hop, hc⟩) h
        · cases h
      · cases h
    · rename_i hw; exact mk _ st (.inr ⟨hw, rfl, rfl⟩) h
    · cases h

/-- what another one, listed with a reading, leaves -/
def Still (dy : List (Nat × Nat)) (ops : Array Oper) (F : Nat → Fr) (S : Nat → St) : Prop :=
  ∀ r q y a k x, ops[r]? = some y → rdOp? y.op = some a → wantD ops (F r) y = some true → ((F r).ev a).box? = some k → ops[q]? = some x → rdB x = false → wantD ops (F q) x = some true → (q < r → listed dy q r = true) → (r < q → listed dy r q = true) →
    (S (q + 1)).bs[k]? = (S q).bs[k]? ∧ (r < q → smallB (some k) (S r) (S (q + 1)) = true)

theorem still_of {ops : Array Oper} {dy : List (Nat × Nat)} {F : Nat → Fr} {S : Nat → St} (hl : Looked dy ops 0 [] ops.toList F S) : Still dy ops F S := by
  intro r q y a k x hy ha hw hk hx hxr hwx h1 h2
  have hxa : rdOp? x.op = none := by
    unfold rdB at hxr
    cases h : rdOp? x.op with
    | none => rfl
    | some _ => rw [h] at hxr; cases hxr
  rcases Nat.lt_trichotomy q r with h' | h' | h'
  · obtain ⟨x', fi, si, si', e1, e2⟩ := hl r y (by simpa using hy) hw q (by omega) (by rw [Nat.zero_add]; exact h1 h')
    simp only [entry, Nat.not_lt_zero, if_false, Nat.sub_zero, Array.getElem?_toList, hx, Option.map_some, Option.some.injEq, Prod.mk.injEq] at e1
    obtain ⟨rfl, rfl, rfl, rfl⟩ := e1
    simp only [pairOk, ha, hk] at e2
    exact ⟨stillB_eq e2, fun h => by omega⟩
  · subst h'; rw [hx] at hy; cases hy; rw [hxa] at ha; cases ha
  · obtain ⟨x', fi, si, si', e1, e2⟩ := hl q x (by simpa using hx) hwx r (by omega) (by rw [Nat.zero_add]; exact h2 h')
    simp only [entry, Nat.not_lt_zero, if_false, Nat.sub_zero, Array.getElem?_toList, hy, Option.map_some, Option.some.injEq, Prod.mk.injEq] at e1
    obtain ⟨rfl, rfl, rfl, rfl⟩ := e1
    simp only [pairOk, hxa, ha, hk, Bool.and_eq_true] at e2
    exact ⟨stillB_eq e2.1, fun _ => e2.2⟩
end Go.V
