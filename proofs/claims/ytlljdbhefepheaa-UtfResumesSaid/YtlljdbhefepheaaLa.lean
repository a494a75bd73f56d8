/-
  A logic over V: what a call, code, a region answers from some fuel on.
-/
import Derived.Test.YtlljdbhefepheaaVa
namespace Go.V
set_option linter.unusedSimpArgs false
set_option linter.unusedVariables false
set_option linter.unusedSectionVars false

section
variable (P : Pv)

def Ev (f : Nat) (args : List D) (st : St) (d : D) (st' : St) : Prop :=
  ∃ N, ∀ n, N ≤ n → callD P n f args st = some (d, st')

abbrev Dy := List (Nat × List (Nat × Nat))

def EvC (dy : Dy) (c : Code) (fr : Fr) (st : St) (Q : Out → Fr → St → Prop) : Prop :=
  ∃ o fr' st', (∃ N, ∀ n, N ≤ n → codeD P (callD P n) dy n c fr st = some (o, fr', st')) ∧ Q o fr' st'

def EvO (ops : Array Oper) (l : List Oper) (fr : Fr) (st : St) (Q : Fr → St → Prop) : Prop :=
  ∃ fr' st', (∃ N, ∀ n, N ≤ n → opsD P (callD P n) ops l fr st = some (fr', st')) ∧ Q fr' st'

def SeqQ (dy : Dy) (b : Code) (Q : Out → Fr → St → Prop) : Out → Fr → St → Prop
  | .next, fr, st => EvC P dy b fr st Q
  | .exit i, fr, st => Q (.exit i) fr st
  | .ret, fr, st => Q .ret fr st

def BlockQ (id : Nat) (Q : Out → Fr → St → Prop) : Out → Fr → St → Prop
  | .next, fr, st => Q .next fr st
  | .exit i, fr, st => if i = id then Q .next fr st else Q (.exit i) fr st
  | .ret, fr, st => Q .ret fr st

def LoopQ (I : Nat → Fr → St → Prop) (k : Nat) (Q : Out → Fr → St → Prop) : Out → Fr → St → Prop
  | .next, fr, st => ∃ j, j < k ∧ I j fr st
  | .exit i, fr, st => Q (.exit i) fr st
  | .ret, fr, st => Q .ret fr st

/-- a region that is looked at while it runs -/
def EvY (ops : Array Oper) (dy : List (Nat × Nat)) (j : Nat) (log : Log) (l : List Oper) (fr : Fr) (st : St) (Q : Fr → St → Prop) : Prop :=
  ∃ fr' st', (∃ N, ∀ n, N ≤ n → opsY P (callD P n) ops dy j log l fr st = some (fr', st')) ∧ Q fr' st'

variable {P} {dy : Dy}

theorem EvC.mono {c : Code} {fr st} {Q Q' : Out → Fr → St → Prop} (h : EvC P dy c fr st Q) (hq : ∀ o fr' st', Q o fr' st' → Q' o fr' st') : EvC P dy c fr st Q' := by
  obtain ⟨o, fr', st', h1, h2⟩ := h
  exact ⟨o, fr', st', h1, hq _ _ _ h2⟩

theorem EvC.skip {fr st} {Q : Out → Fr → St → Prop} (h : Q .next fr st) : EvC P dy .skip fr st Q := ⟨_, _, _, ⟨0, fun n _ => by simp only [codeD]⟩, h⟩
theorem EvC.exit {fr st i} {Q : Out → Fr → St → Prop} (h : Q (.exit i) fr st) : EvC P dy (.exit i) fr st Q := ⟨_, _, _, ⟨0, fun n _ => by simp only [codeD]⟩, h⟩
theorem EvC.ret {fr st} {Q : Out → Fr → St → Prop} (h : Q .ret fr st) : EvC P dy .ret fr st Q := ⟨_, _, _, ⟨0, fun n _ => by simp only [codeD]⟩, h⟩

theorem EvC.region {i ops d fr st} {Q : Out → Fr → St → Prop} (h : EvO P ops ops.toList fr.clean st (Q .next)) (h0 : lookDy i dy = [] := by rfl) : EvC P dy (.region i ops d) fr st Q := by
  obtain ⟨fr', st', ⟨N, hN⟩, hq⟩ := h
  exact ⟨_, fr', st', ⟨N, fun n hn => by simp only [codeD, h0, regD, hN n hn]⟩, hq⟩

theorem EvC.regionY {i ops d fr st} {Q : Out → Fr → St → Prop} {p : Nat × Nat} {ps : List (Nat × Nat)} (h0 : lookDy i dy = p :: ps) (h : EvY P ops (p :: ps) 0 [] ops.toList fr.clean st (Q .next)) : EvC P dy (.region i ops d) fr st Q := by
  obtain ⟨fr', st', ⟨N, hN⟩, hq⟩ := h
  exact ⟨_, fr', st', ⟨N, fun n hn => by simp only [codeD, h0, regD, hN n hn]⟩, hq⟩

theorem EvC.seq {a b fr st} {Q : Out → Fr → St → Prop} (h : EvC P dy a fr st (SeqQ P dy b Q)) : EvC P dy (.seq a b) fr st Q := by
  obtain ⟨o, fr', st', ⟨N, hN⟩, hq⟩ := h
  cases o with
  | next =>
    obtain ⟨o, fr2, st2, ⟨M, hM⟩, hq⟩ := hq
    exact ⟨o, fr2, st2, ⟨max N M, fun n hn => by simp only [codeD, hN n (by omega), hM n (by omega)]⟩, hq⟩
  | exit i => exact ⟨_, fr', st', ⟨N, fun n hn => by simp only [codeD, hN n hn]⟩, hq⟩
  | ret => exact ⟨_, fr', st', ⟨N, fun n hn => by simp only [codeD, hN n hn]⟩, hq⟩

theorem EvC.cond {c a b fr st v} {Q : Out → Fr → St → Prop} (hv : fr.ev c = .bool v) (h1 : v = true → EvC P dy a fr st Q) (h2 : v = false → EvC P dy b fr st Q) : EvC P dy (.cond c a b) fr st Q := by
  cases v with
  | true =>
    obtain ⟨o, fr', st', ⟨N, hN⟩, hq⟩ := h1 rfl
    exact ⟨o, fr', st', ⟨N, fun n hn => by simp only [codeD, hv, hN n hn]⟩, hq⟩
  | false =>
    obtain ⟨o, fr', st', ⟨N, hN⟩, hq⟩ := h2 rfl
    exact ⟨o, fr', st', ⟨N, fun n hn => by simp only [codeD, hv, hN n hn]⟩, hq⟩

theorem EvC.block {id c fr st} {Q : Out → Fr → St → Prop} (h : EvC P dy c fr st (BlockQ id Q)) : EvC P dy (.block id c) fr st Q := by
  obtain ⟨o, fr', st', ⟨N, hN⟩, hq⟩ := h
  cases o with
  | next => exact ⟨_, fr', st', ⟨N, fun n hn => by simp only [codeD, hN n hn]⟩, hq⟩
  | exit i =>
    simp only [BlockQ] at hq
    split at hq
    · rename_i hi
      exact ⟨_, fr', st', ⟨N, fun n hn => by simp only [codeD, hN n hn, if_pos hi]⟩, hq⟩
    · rename_i hi
      exact ⟨_, fr', st', ⟨N, fun n hn => by simp only [codeD, hN n hn, if_neg hi]⟩, hq⟩
  | ret => exact ⟨_, fr', st', ⟨N, fun n hn => by simp only [codeD, hN n hn]⟩, hq⟩

theorem EvC.loop {c : Code} {fr st} {Q : Out → Fr → St → Prop} (I : Nat → Fr → St → Prop) (k : Nat) (h0 : I k fr st) (h : ∀ k fr st, I k fr st → EvC P dy c fr.clean st (LoopQ I k Q)) : EvC P dy (.loop c) fr st Q := by
  have key : ∀ k fr st, I k fr st → ∃ o fr' st', (∃ N, ∀ n, N ≤ n → ∀ m, N ≤ m → iter (codeD P (callD P n) dy n c) m fr st = some (o, fr', st')) ∧ (Q o fr' st') := by
    intro k
    induction k using Nat.strongRecOn with
    | ind k ih =>
      intro fr st hi
      obtain ⟨o, fr', st', ⟨N, hN⟩, hq⟩ := h k fr st hi
      cases o with
      | next =>
        obtain ⟨j, hj, hi'⟩ := hq
        obtain ⟨o, fr2, st2, ⟨M, hM⟩, hq⟩ := ih j hj fr' st' hi'
        refine ⟨o, fr2, st2, ⟨max N M + 1, fun n hn m hm => ?_⟩, hq⟩
        obtain ⟨m, rfl⟩ : ∃ m', m = m' + 1 := ⟨m - 1, by omega⟩
        simp only [iter, hN n (by omega), hM n (by omega) m (by omega)]
      | exit i =>
        refine ⟨_, fr', st', ⟨N + 1, fun n hn m hm => ?_⟩, hq⟩
        obtain ⟨m, rfl⟩ : ∃ m', m = m' + 1 := ⟨m - 1, by omega⟩
        simp only [iter, hN n (by omega)]
      | ret =>
        refine ⟨_, fr', st', ⟨N + 1, fun n hn m hm => ?_⟩, hq⟩
        obtain ⟨m, rfl⟩ : ∃ m', m = m' + 1 := ⟨m - 1, by omega⟩
        simp only [iter, hN n (by omega)]
  obtain ⟨o, fr', st', ⟨N, hN⟩, hq⟩ := key k fr st h0
  exact ⟨o, fr', st', ⟨N, fun n hn => by simp only [codeD, hN n hn n hn]⟩, hq⟩

theorem Ev.of {f x body args st d st'} (hq : lookP f P.prm = none) (hf : P.fi f = some x) (hp : x.prim = none) (hb : x.fn.body = some body)
    (h : EvC P x.dyn body (pad x.nloc args) (enterSt x.mode st) fun o fr st1 => (∀ i, o ≠ .exit i) ∧ ∃ ds, resD P fr st1 x.fn.results.toList = some ds ∧ leaveD x.mode x.knul st st1 (tupD ds) = some (d, st')) : Ev P f args st d st' := by
  obtain ⟨o, fr', st1, ⟨N, hN⟩, ho, ds, hr, hl⟩ := h
  refine ⟨N + 1, fun n hn => ?_⟩
  obtain ⟨m, rfl⟩ : ∃ m', n = m' + 1 := ⟨n - 1, by omega⟩
  simp only [callD, hq, hf, hp, hb, bodyD]
  rw [hN m (by omega)]
  cases o with
  | next => simp only [hr, hl]
  | exit i => exact absurd rfl (ho i)
  | ret => simp only [hr, hl]

theorem EvO.nil {ops fr st} {Q : Fr → St → Prop} (h : Q fr st) : EvO P ops [] fr st Q := ⟨fr, st, ⟨0, fun n _ => rfl⟩, h⟩

/-- is an operation a call of a value? -/
def isCall : Op → Bool
  | .call ⟨.value _, _, _⟩ => true
  | _ => false

theorem operD_op {cf fr st} {o : Oper} (h : isCall o.op = false) : operD P cf fr st o = opD P fr st o.op o.type := by
  unfold operD
  split
  · rename_i heq; rw [heq] at h; simp [isCall] at h
  · rfl

theorem EvO.op {ops o rest fr st d st1} {Q : Fr → St → Prop} (hg : wantD ops fr o = some true) (hc : isCall o.op = false) (h1 : opD P fr st o.op o.type = some (d, st1))
    (h : EvO P ops rest (fr.putO o.dst d) st1 Q) : EvO P ops (o :: rest) fr st Q := by
  obtain ⟨fr', st', ⟨N, hN⟩, hq⟩ := h
  exact ⟨fr', st', ⟨N, fun n hn => by simp only [opsD, hg, operD_op hc, h1, hN n hn]⟩, hq⟩

theorem EvO.off {ops o rest fr st} {Q : Fr → St → Prop} (hg : wantD ops fr o = some false)
    (h : EvO P ops rest (fr.putO o.dst (.tup [])) st Q) : EvO P ops (o :: rest) fr st Q := by
  obtain ⟨fr', st', ⟨N, hN⟩, hq⟩ := h
  exact ⟨fr', st', ⟨N, fun n hn => by simp only [opsD, hg, hN n hn]⟩, hq⟩

theorem EvO.call {ops rest fr st d st1 f g caps args tys dst type pos} {after guard} {Q : Fr → St → Prop} (hg : wantD ops fr ⟨dst, .call ⟨.value f, args, tys⟩, type, pos, after, guard⟩ = some true) (hf : fr.ev f = .fn g caps)
    (h1 : Ev P g (args.toList.map fr.ev ++ caps) st d st1)
    (h : EvO P ops rest (fr.putO dst d) st1 Q) : EvO P ops (⟨dst, .call ⟨.value f, args, tys⟩, type, pos, after, guard⟩ :: rest) fr st Q := by
  obtain ⟨fr', st', ⟨N, hN⟩, hq⟩ := h
  obtain ⟨M, hM⟩ := h1
  exact ⟨fr', st', ⟨max N M, fun n hn => by simp only [opsD, hg, operD, hf, hM n (by omega), hN n (by omega)]⟩, hq⟩
theorem EvY.nil {ops ys j log fr st} {Q : Fr → St → Prop} (h : Q fr st) : EvY P ops ys j log [] fr st Q := ⟨fr, st, ⟨0, fun n _ => rfl⟩, h⟩

theorem EvY.cons {ops ys j log o rest fr st} {Q : Fr → St → Prop} (h : EvO P ops [o] fr st fun fr' st' => chkY ys j log o fr st st' = true ∧ EvY P ops ys (j + 1) ((o, fr, st, st') :: log) rest fr' st' Q) : EvY P ops ys j log (o :: rest) fr st Q := by
  obtain ⟨fr1, st1, ⟨N, hN⟩, hc, fr2, st2, ⟨M, hM⟩, hq⟩ := h
  refine ⟨fr2, st2, ⟨max N M, fun n hn => ?_⟩, hq⟩
  have h1 := hN n (by omega)
  have h2 := hM n (by omega)
  simp only [opsD] at h1
  simp only [opsY]
  split at h1
  · rename_i hw
    split at h1
    · rename_i d st' hop
      cases h1
      simp only [hop, hc, h2]
    · cases h1
  · rename_i hw; cases h1; exact h2
  · cases h1

theorem Ev.out {f args st d st'} (h : Ev P f args st d st') : ∃ N, ∀ n, N ≤ n → callD P n f args st = some (d, st') := h

/-- what is reckoned is so at every greater depth: for functions given by prims -/
theorem Ev.prim {f args st d st' p} (hq : lookP f P.prm = some p) (h : p args st = some (d, st')) : Ev P f args st d st' :=
  ⟨1, fun n hn => by
    obtain ⟨m, rfl⟩ : ∃ m', n = m' + 1 := ⟨n - 1, by omega⟩
    simp only [callD, hq, h]⟩
end
attribute [irreducible] Ev EvC EvO EvY
end Go.V
