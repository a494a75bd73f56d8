/- own -/
import Derived.Test.YtopaaegigcfkeaaGreatTM4
import Derived.Test.YtopaaegigcfkeaaGreatTM1
set_option linter.unusedSimpArgs false
set_option linter.unusedVariables false
set_option linter.unusedSectionVars false
set_option linter.unnecessarySimpa false
namespace Go.V
open Go.RowKit
structure PrimOk (P : Program) (pv : Pv) (f : Nat) (p : List D → St → Option (D × St)) : Prop where
  fn : ∀ ds st r, p ds st = some r → ∃ fn b, P.funcs[f]? = some fn ∧ fn.body = some b ∧ fn.name ≠ "runtime.NumGoroutine"
  calls : ∀ ds st d st', p ds st = some (d, st') → ∀ w β Z (us : List Value), Sim w st β Z → ds.length = us.length → (∀ (i : Nat) c v, ds[i]? = some c → us[i]? = some v → VR w (st.x β Z) c v) →
    Calls P f us.toArray w fun e w' => ∃ v β' Z', e = .returned v ∧ Nx w st β Z w' st' β' Z' ∧ VR w' (st'.x β' Z') d v ∧ (isRo pv f = true → Quiet w w')
  ro : ∀ ds st d st', p ds st = some (d, st') → isRo pv f = true → Adds st st'
  len : ∀ ds st d st', p ds st = some (d, st') → Goes st st'
theorem conf_congr {pv pv' : Pv} (h : ∀ f, isRo pv f = isRo pv' f) (hm : ∀ s t, markB pv s t = markB pv' s t) (ops : Array Oper) (b : Bool) (x y : Oper) : conf pv ops b x y = conf pv' ops b x y := by
  have he : ∀ o, effB pv o = effB pv' o := by
    intro o
    unfold effB
    split <;> first | rfl | exact hm _ _ | skip
    rw [h]
  simp only [conf, he]
theorem okReg_congr {pv pv' : Pv} (h : ∀ f, isRo pv f = isRo pv' f) (hm : ∀ s t, markB pv s t = markB pv' s t) (ops : Array Oper) (dy : List (Nat × Nat)) : okReg pv ops dy = okReg pv' ops dy := by
  unfold okReg
  congr 1
  funext j
  unfold okAt
  split
  · simp only [conf_congr h hm]
  · rfl
theorem codeOk_congr {pv pv' : Pv} (h : ∀ f, isRo pv f = isRo pv' f) (hm : ∀ s t, markB pv s t = markB pv' s t) (dyn : List (Nat × List (Nat × Nat))) (n : Nat) : ∀ c : Code, codeOk pv dyn n c = codeOk pv' dyn n c
  | .region _ ops d => by simp only [codeOk, okReg_congr h hm]
  | .seq a b => by simp only [codeOk, codeOk_congr h hm dyn n a, codeOk_congr h hm dyn n b]
  | .cond _ a b => by simp only [codeOk, codeOk_congr h hm dyn n a, codeOk_congr h hm dyn n b]
  | .block _ c => by simp only [codeOk, codeOk_congr h hm dyn n c]
  | .loop c => by simp only [codeOk, codeOk_congr h hm dyn n c]
  | .skip | .rangeFunc .. | .exit _ | .scope _ | .label _ | .goto _ | .ret | .refuse _ => by simp only [codeOk]
def Pv.over (pv : Pv) (l : List (Nat × (List D → St → Option (D × St)))) : Pv := ⟨pv.ty, pv.nty, pv.fs, pv.nfs, pv.eqb, l⟩
theorem isRo_over (pv : Pv) (l) (f : Nat) : isRo (pv.over l) f = isRo pv f := rfl
theorem lookP_mem {f : Nat} {p} : ∀ {l : List (Nat × (List D → St → Option (D × St)))}, lookP f l = some p → (f, p) ∈ l
  | (g, q) :: l, h => by
    simp only [lookP] at h
    split at h
    · rename_i hb
      cases h
      rw [Nat.eq_of_beq_eq_true hb]; exact List.mem_cons_self ..
    · exact List.mem_cons_of_mem _ (lookP_mem h)
theorem view_over {pv : Pv} {P : Program} (h : pv.Ok P ∧ pv.codes ∧ CfOk P pv (primF pv)) (hpr : pv.prm = []) {l : List (Nat × (List D → St → Option (D × St)))} (hl : ∀ q ∈ l, PrimOk P pv q.1 q.2) :
    (pv.over l).Ok P ∧ (pv.over l).codes ∧ CfOk P (pv.over l) (primF (pv.over l)) := by
  obtain ⟨h1, h2, h3⟩ := h
  refine ⟨⟨h1.ty, h1.fs, h1.eqb, h1.mixed⟩, fun f x b hx hp hb => ?_, ?_⟩
  · rw [codeOk_congr (isRo_over pv l) (fun _ _ => rfl)]; exact h2 f x b hx hp hb
  · have key : ∀ f ds st r, primF (pv.over l) f ds st = some r → (∃ p, PrimOk P pv f p ∧ p ds st = some r) ∨ primF pv f ds st = some r := by
      intro f ds st r h
      unfold primF at h
      split at h
      · rename_i p hp
        exact .inl ⟨p, hl _ (lookP_mem hp), h⟩
      · right
        unfold primF
        rw [hpr]
        exact h
    refine ⟨fun f ds st r h => ?_, fun f ds st d st' h => ?_, fun f ds st d st' h => ?_, fun f ds st d st' h => ?_⟩
    · rcases key f ds st r h with ⟨p, hp, h⟩ | h
      · exact hp.fn ds st r h
      · exact h3.fn f ds st r h
    · rcases key f ds st _ h with ⟨p, hp, h⟩ | h
      · exact hp.calls ds st d st' h
      · exact h3.calls f ds st d st' h
    · rcases key f ds st _ h with ⟨p, hp, h⟩ | h
      · exact hp.ro ds st d st' h
      · exact h3.ro f ds st d st' h
    · rcases key f ds st _ h with ⟨p, hp, h⟩ | h
      · exact hp.len ds st d st' h
      · exact h3.len f ds st d st' h
theorem Sim.nil {w : World} {Z : Nat → Prop} (hZ : ∀ b, Z b → b < w.heap.size) : Sim w ⟨[], 0, 0⟩ (fun _ => none) Z :=
  ⟨fun _ _ _ h => (by cases h), fun _ _ _ h => (by cases h), fun _ _ _ _ _ h => (by cases h), fun _ _ _ h => (by cases h), hZ, fun _ _ _ _ h => (by cases h), Nat.le_refl _, Nat.le_refl _⟩
theorem memo_calls {pv : Pv} {P : Program} (h : pv.Ok P ∧ pv.codes ∧ CfOk P pv (primF pv)) {n f : Nat} {ds : List D} {d : D} {st0 : St} (hs : callD pv n f ds ⟨[], 0, 0⟩ = some (d, st0)) (h0 : st0.bs = []) (hr : refs ds = 0)
    (st : St) (w : World) (β : Nat → Option (Nat × Nat)) (Z : Nat → Prop) (us : List Value) (hsim : Sim w st β Z) (hl : ds.length = us.length) (ha : ∀ (i : Nat) c v, ds[i]? = some c → us[i]? = some v → VR w (st.x β Z) c v) :
    Calls P f us.toArray w fun e w' => ∃ v β' Z', e = .returned v ∧ Nx w st β Z w' st β' Z' ∧ VR w' (st.x β' Z') d v ∧ Quiet w w' := by
  have hrefs : ∀ (l : List D), refs l = 0 → ∀ c ∈ l, c.ref ≤ 0 := by
    intro l
    induction l with
    | nil => intro _ c hc; simp at hc
    | cons x l ih =>
      intro h c hc
      simp only [refs] at h
      rcases List.mem_cons.1 hc with rfl | hc
      · omega
      · exact ih (by omega) c hc
  refine ((call_ok h.1 h.2.1 h.2.2 n).calls f ds _ d st0 hs w (fun _ => none) Z us (Sim.nil hsim.zl) hl fun i c v hc hv => ?_).mono fun e w' => ?_
  · exact VR.cut (x := st.x β Z) (x' := (⟨[], 0, 0⟩ : St).x (fun _ => none) Z) (N := 0) (fun k hk => absurd hk (Nat.not_lt_zero _)) (fun k hk => absurd hk (Nat.not_lt_zero _)) (fun b hb => hb) (ha i c v hc hv) (hrefs ds hr c (List.mem_of_getElem? hc))
  · rintro ⟨v, β', Z', rfl, hn, hv, _⟩
    have hno : ∀ k p, β' k = some p → False := fun k p hk => by
      have := hn.sim.dom k p.1 p.2 hk
      rw [h0] at this; simp at this
    have hq : Quiet w w' := by
      intro c hc
      refine hn.evo.block c hc ?_
      rintro ⟨k, base, h5, _⟩; cases h5
    have hzz : ∀ b, Z b → Z' b ∧ w'.heap[b]? = w.heap[b]? := fun b hb => ⟨(hn.keeps.z b hb).1, hq b (hsim.zl b hb)⟩
    have hk : Keeps w (st.x β Z) w' (st.x β Z') := ⟨fun k p hp => ⟨p, hp⟩, hzz, fun k c p _ hc => ⟨c, hc, Nat.le_refl _⟩, fun k c _ _ b base hb => ⟨hb, rowSize_eq (hq b (hsim.lt k b base hb))⟩⟩
    refine ⟨v, β, Z', rfl, ⟨⟨hsim.dom, fun k b base hb => Nat.lt_of_lt_of_le (hsim.lt k b base hb) hn.evo.size, hsim.inj, fun k b base hb hz => ?_, hn.sim.zl, fun k b base bx hb hbx => (hsim.box k b base bx hb hbx).keep hk (hq b (hsim.lt k b base hb)), hsim.flr, hsim.ro⟩, hk,
      ⟨hn.evo.os, hn.evo.tape, hn.evo.output, hn.evo.size, fun b hb _ => hq b hb⟩, fun k b base hb => .inl ⟨base, hb⟩, hn.zfresh, Nat.le_refl _, rfl, rfl, fun k _ => ⟨rfl, rfl⟩, fun k _ hk => ⟨hk, rfl⟩⟩, ?_, hq⟩
    · rcases hn.zfresh b hz with hz | hz
      · exact hsim.zd k b base hb hz
      · have := hsim.lt k b base hb; omega
    · exact VR.cut (x := st0.x β' Z') (x' := st.x β Z') (N := 0) (fun k hk => absurd hk (Nat.not_lt_zero _)) (fun k hk => absurd hk (Nat.not_lt_zero _)) (fun b hb => hb) hv (VR.ref (fun k p hk => (hno k p hk).elim) hv)
def memo0 (d : D) : List D → St → Option (D × St)
  | [], st => some (d, st)
  | _ :: _, _ => none
theorem memo0_ok {pv : Pv} {P : Program} (h : pv.Ok P ∧ pv.codes ∧ CfOk P pv (primF pv)) {n f : Nat} {d : D} {st0 : St} (hs : callD pv n f [] ⟨[], 0, 0⟩ = some (d, st0)) (h0 : st0.bs = []) : PrimOk P pv f (memo0 d) := by
  have hc := call_ok h.1 h.2.1 h.2.2 n
  refine ⟨fun ds st r _ => hc.fn f [] _ _ hs, fun ds st d' st' hp w β Z us hsim hl ha => ?_, fun ds st d' st' hp _ => ?_, fun ds st d' st' hp => ?_⟩ <;> cases ds <;> simp only [memo0, Option.some.injEq, Prod.mk.injEq, reduceCtorEq] at hp
  · obtain ⟨rfl, rfl⟩ := hp
    refine (memo_calls h hs h0 rfl st w β Z us hsim hl ha).mono fun e w' => ?_
    rintro ⟨v, β', Z', h1, h2, h3, h4⟩
    exact ⟨v, β', Z', h1, h2, h3, fun _ => h4⟩
  · rw [← hp.2]; exact .rfl _
  · rw [← hp.2]; exact Goes.refl _
def memoL : List (List D × D) → List D → St → Option (D × St)
  | [], _, _ => none
  | (as, d) :: l, ds, st => match beqDs as ds with
    | true => some (d, st)
    | false => memoL l ds st
theorem memoL_mem : ∀ {l : List (List D × D)} {ds : List D} {st st' : St} {d : D}, memoL l ds st = some (d, st') → (ds, d) ∈ l ∧ st' = st
  | (as, e) :: l, ds, st, st', d, h => by
    simp only [memoL] at h
    split at h
    · rename_i hb
      cases h
      rw [beqDs_eq _ _ hb]
      exact ⟨List.mem_cons_self .., rfl⟩
    · obtain ⟨h1, h2⟩ := memoL_mem h
      exact ⟨List.mem_cons_of_mem _ h1, h2⟩
theorem memoL_ok {pv : Pv} {P : Program} (h : pv.Ok P ∧ pv.codes ∧ CfOk P pv (primF pv)) {f : Nat} {l : List (List D × D)} (hl : ∀ q ∈ l, refs q.1 = 0 ∧ ∃ n st0, callD pv n f q.1 ⟨[], 0, 0⟩ = some (q.2, st0) ∧ st0.bs = []) : PrimOk P pv f (memoL l) := by
  refine ⟨fun ds st r hp => ?_, fun ds st d st' hp w β Z us hsim hle ha => ?_, fun ds st d st' hp _ => by rw [(memoL_mem hp).2]; exact .rfl _, fun ds st d st' hp => ?_⟩
  · obtain ⟨hm, _⟩ := memoL_mem (d := r.1) (st' := r.2) hp
    obtain ⟨_, n, st0, hs, _⟩ := hl _ hm
    exact (call_ok h.1 h.2.1 h.2.2 n).fn f _ _ _ hs
  · obtain ⟨hm, rfl⟩ := memoL_mem hp
    obtain ⟨hr, n, st0, hs, h0⟩ := hl _ hm
    refine (memo_calls h hs h0 hr st' w β Z us hsim hle ha).mono fun e w' => ?_
    rintro ⟨v, β', Z', h1, h2, h3, h4⟩
    exact ⟨v, β', Z', h1, h2, h3, fun _ => h4⟩
  · rw [(memoL_mem hp).2]; exact Goes.refl _
def beqBoxes : List Box → List Box → Bool
  | [], [] => true
  | a :: l, b :: m => beqBox a b && beqBoxes l m
  | _, _ => false
def beqSt (a b : St) : Bool := Nat.beq a.flr b.flr && Nat.beq a.ro b.ro && beqBoxes a.bs b.bs
theorem beqBoxes_eq : ∀ {a b : List Box}, beqBoxes a b = true → a = b
  | [], [], _ => rfl
  | a :: l, b :: m, h => by
    simp only [beqBoxes, Bool.and_eq_true] at h
    rw [beqBox_eq h.1, beqBoxes_eq h.2]
  | [], _ :: _, h => by cases h
  | _ :: _, [], h => by cases h
theorem beqSt_eq {a b : St} (h : beqSt a b = true) : a = b := by
  obtain ⟨x, y, z⟩ := a
  obtain ⟨x', y', z'⟩ := b
  simp only [beqSt, Bool.and_eq_true] at h
  have h1 := Nat.eq_of_beq_eq_true h.1.1
  have h2 := Nat.eq_of_beq_eq_true h.1.2
  have h3 := beqBoxes_eq h.2
  rw [h1, h2, h3]
def isS (d : D) (st : St) : Option (D × St) → Bool
  | some (e, st') => beqD e d && beqSt st' st
  | none => false
theorem isS_some {d : D} {st : St} {r : Option (D × St)} (h : isS d st r = true) : r = some (d, st) := by
  match r, h with
  | some (e, st'), h =>
    simp only [isS, Bool.and_eq_true] at h
    rw [beqD_eq e d h.1, beqSt_eq h.2]
def memoS : List ((List D × St) × (D × St)) → List D → St → Option (D × St)
  | [], _, _ => none
  | (k, r) :: l, ds, st => match beqDs k.1 ds && beqSt k.2 st with
    | true => some r
    | false => memoS l ds st
theorem memoS_mem : ∀ {l : List ((List D × St) × (D × St))} {ds : List D} {st : St} {r : D × St}, memoS l ds st = some r → ((ds, st), r) ∈ l
  | (k, r') :: l, ds, st, r, h => by
    simp only [memoS] at h
    split at h
    · rename_i hb
      simp only [Bool.and_eq_true] at hb
      cases h
      obtain ⟨k1, k2⟩ := k
      rw [← beqDs_eq _ _ hb.1, ← beqSt_eq hb.2]
      exact List.mem_cons_self ..
    · exact List.mem_cons_of_mem _ (memoS_mem h)
theorem memoS_ok {pv pv' : Pv} {P : Program} (h : pv'.Ok P ∧ pv'.codes ∧ CfOk P pv' (primF pv')) (hro : ∀ f, isRo pv' f = isRo pv f) {f : Nat} {l : List ((List D × St) × (D × St))} (hl : ∀ q ∈ l, ∃ n, callD pv' n f q.1.1 q.1.2 = some q.2) : PrimOk P pv f (memoS l) := by
  refine ⟨fun ds st r hp => ?_, fun ds st d st' hp w β Z us hsim hle ha => ?_, fun ds st d st' hp hr => ?_, fun ds st d st' hp => ?_⟩
  · obtain ⟨n, hn⟩ := hl _ (memoS_mem hp)
    exact (call_ok h.1 h.2.1 h.2.2 n).fn f _ _ _ hn
  · obtain ⟨n, hn⟩ := hl _ (memoS_mem hp)
    have := (call_ok h.1 h.2.1 h.2.2 n).calls f _ _ _ _ hn w β Z us hsim hle ha
    rw [hro] at this
    exact this
  · obtain ⟨n, hn⟩ := hl _ (memoS_mem hp)
    exact (call_ok h.1 h.2.1 h.2.2 n).ro f _ _ _ _ hn (by rw [hro]; exact hr)
  · obtain ⟨n, hn⟩ := hl _ (memoS_mem hp)
    exact (call_ok h.1 h.2.1 h.2.2 n).len f _ _ _ _ hn
end Go.V
namespace Go.V
section
variable (P : Pv)
def Ev (f : Nat) (args : List D) (st : St) (d : D) (st' : St) : Prop :=
  ∃ N, ∀ n, N ≤ n → callD P n f args st = some (d, st')
abbrev Dy := List (Nat × List (Nat × Nat))
def EvC (dy : Dy) (c : Code) (fr : Fr) (st : St) (Q : Out → Fr → St → Prop) : Prop :=
  ∃ o fr' st', (∃ N, ∀ n, N ≤ n → codeD P (callD P n) dy n c fr st = some (o, fr', st')) ∧ Q o fr' st'
def EvO (ops : Array Oper) (l : List Oper) (fr : Fr) (st : St) (Q : Fr → St → Prop) : Prop :=
  ∃ fr' st', (∃ N, ∀ n, N ≤ n → opsD P (callD P n) ops l fr st = some (fr', st')) ∧ Q fr' st'
def SeqQ (dy : Dy) (b : Code) (Q : Out → Fr → St → Prop) : Out → Fr → St → Prop
  | .next, fr, st => EvC P dy b fr st Q
  | .exit i, fr, st => Q (.exit i) fr st
  | .ret, fr, st => Q .ret fr st
def BlockQ (id : Nat) (Q : Out → Fr → St → Prop) : Out → Fr → St → Prop
  | .next, fr, st => Q .next fr st
  | .exit i, fr, st => if i = id then Q .next fr st else Q (.exit i) fr st
  | .ret, fr, st => Q .ret fr st
def LoopQ (I : Nat → Fr → St → Prop) (k : Nat) (Q : Out → Fr → St → Prop) : Out → Fr → St → Prop
  | .next, fr, st => ∃ j, j < k ∧ I j fr st
  | .exit i, fr, st => Q (.exit i) fr st
  | .ret, fr, st => Q .ret fr st
def EvY (ops : Array Oper) (dy : List (Nat × Nat)) (j : Nat) (log : Log) (l : List Oper) (fr : Fr) (st : St) (Q : Fr → St → Prop) : Prop :=
  ∃ fr' st', (∃ N, ∀ n, N ≤ n → opsY P (callD P n) ops dy j log l fr st = some (fr', st')) ∧ Q fr' st'
variable {P} {dy : Dy}
theorem EvC.mono {c : Code} {fr st} {Q Q' : Out → Fr → St → Prop} (h : EvC P dy c fr st Q) (hq : ∀ o fr' st', Q o fr' st' → Q' o fr' st') : EvC P dy c fr st Q' := by
  obtain ⟨o, fr', st', h1, h2⟩ := h
  exact ⟨o, fr', st', h1, hq _ _ _ h2⟩
theorem EvC.skip {fr st} {Q : Out → Fr → St → Prop} (h : Q .next fr st) : EvC P dy .skip fr st Q := ⟨_, _, _, ⟨0, fun n _ => by simp only [codeD]⟩, h⟩
theorem EvC.exit {fr st i} {Q : Out → Fr → St → Prop} (h : Q (.exit i) fr st) : EvC P dy (.exit i) fr st Q := ⟨_, _, _, ⟨0, fun n _ => by simp only [codeD]⟩, h⟩
theorem EvC.ret {fr st} {Q : Out → Fr → St → Prop} (h : Q .ret fr st) : EvC P dy .ret fr st Q := ⟨_, _, _, ⟨0, fun n _ => by simp only [codeD]⟩, h⟩
theorem EvC.region {i ops d fr st} {Q : Out → Fr → St → Prop} (h : EvO P ops ops.toList fr.clean st (Q .next)) (h0 : lookDy i dy = [] := by rfl) : EvC P dy (.region i ops d) fr st Q := by
  obtain ⟨fr', st', ⟨N, hN⟩, hq⟩ := h
  exact ⟨_, fr', st', ⟨N, fun n hn => by simp only [codeD, h0, regD, hN n hn]⟩, hq⟩
theorem EvC.seq {a b fr st} {Q : Out → Fr → St → Prop} (h : EvC P dy a fr st (SeqQ P dy b Q)) : EvC P dy (.seq a b) fr st Q := by
  obtain ⟨o, fr', st', ⟨N, hN⟩, hq⟩ := h
  cases o with
  | next =>
    obtain ⟨o, fr2, st2, ⟨M, hM⟩, hq⟩ := hq
    exact ⟨o, fr2, st2, ⟨max N M, fun n hn => by simp only [codeD, hN n (by omega), hM n (by omega)]⟩, hq⟩
  | exit i => exact ⟨_, fr', st', ⟨N, fun n hn => by simp only [codeD, hN n hn]⟩, hq⟩
  | ret => exact ⟨_, fr', st', ⟨N, fun n hn => by simp only [codeD, hN n hn]⟩, hq⟩
theorem EvC.cond {c a b fr st v} {Q : Out → Fr → St → Prop} (hv : fr.ev c = .bool v) (h1 : v = true → EvC P dy a fr st Q) (h2 : v = false → EvC P dy b fr st Q) : EvC P dy (.cond c a b) fr st Q := by
  cases v with
  | true =>
    obtain ⟨o, fr', st', ⟨N, hN⟩, hq⟩ := h1 rfl
    exact ⟨o, fr', st', ⟨N, fun n hn => by simp only [codeD, hv, hN n hn]⟩, hq⟩
  | false =>
    obtain ⟨o, fr', st', ⟨N, hN⟩, hq⟩ := h2 rfl
    exact ⟨o, fr', st', ⟨N, fun n hn => by simp only [codeD, hv, hN n hn]⟩, hq⟩
theorem EvC.block {id c fr st} {Q : Out → Fr → St → Prop} (h : EvC P dy c fr st (BlockQ id Q)) : EvC P dy (.block id c) fr st Q := by
  obtain ⟨o, fr', st', ⟨N, hN⟩, hq⟩ := h
  cases o with
  | next => exact ⟨_, fr', st', ⟨N, fun n hn => by simp only [codeD, hN n hn]⟩, hq⟩
  | exit i =>
    simp only [BlockQ] at hq
    split at hq
    · rename_i hi
      exact ⟨_, fr', st', ⟨N, fun n hn => by simp only [codeD, hN n hn, if_pos hi]⟩, hq⟩
    · rename_i hi
      exact ⟨_, fr', st', ⟨N, fun n hn => by simp only [codeD, hN n hn, if_neg hi]⟩, hq⟩
  | ret => exact ⟨_, fr', st', ⟨N, fun n hn => by simp only [codeD, hN n hn]⟩, hq⟩
theorem EvC.loop {c : Code} {fr st} {Q : Out → Fr → St → Prop} (I : Nat → Fr → St → Prop) (k : Nat) (h0 : I k fr st) (h : ∀ k fr st, I k fr st → EvC P dy c fr.clean st (LoopQ I k Q)) : EvC P dy (.loop c) fr st Q := by
  have key : ∀ k fr st, I k fr st → ∃ o fr' st', (∃ N, ∀ n, N ≤ n → ∀ m, N ≤ m → iter (codeD P (callD P n) dy n c) m fr st = some (o, fr', st')) ∧ (Q o fr' st') := by
    intro k
    induction k using Nat.strongRecOn with
    | ind k ih =>
      intro fr st hi
      obtain ⟨o, fr', st', ⟨N, hN⟩, hq⟩ := h k fr st hi
      cases o with
      | next =>
        obtain ⟨j, hj, hi'⟩ := hq
        obtain ⟨o, fr2, st2, ⟨M, hM⟩, hq⟩ := ih j hj fr' st' hi'
        refine ⟨o, fr2, st2, ⟨max N M + 1, fun n hn m hm => ?_⟩, hq⟩
        obtain ⟨m, rfl⟩ : ∃ m', m = m' + 1 := ⟨m - 1, by omega⟩
        simp only [iter, hN n (by omega), hM n (by omega) m (by omega)]
      | exit i =>
        refine ⟨_, fr', st', ⟨N + 1, fun n hn m hm => ?_⟩, hq⟩
        obtain ⟨m, rfl⟩ : ∃ m', m = m' + 1 := ⟨m - 1, by omega⟩
        simp only [iter, hN n (by omega)]
      | ret =>
        refine ⟨_, fr', st', ⟨N + 1, fun n hn m hm => ?_⟩, hq⟩
        obtain ⟨m, rfl⟩ : ∃ m', m = m' + 1 := ⟨m - 1, by omega⟩
        simp only [iter, hN n (by omega)]
  obtain ⟨o, fr', st', ⟨N, hN⟩, hq⟩ := key k fr st h0
  exact ⟨o, fr', st', ⟨N, fun n hn => by simp only [codeD, hN n hn n hn]⟩, hq⟩
theorem Ev.of {f x body args st d st'} (hq : lookP f P.prm = none) (hf : P.fi f = some x) (hp : x.prim = none) (hb : x.fn.body = some body)
    (h : EvC P x.dyn body (pad x.nloc args) (enterSt x.mode st) fun o fr st1 => (∀ i, o ≠ .exit i) ∧ ∃ ds, resD P fr st1 x.fn.results.toList = some ds ∧ leaveD x.mode x.knul st st1 (tupD ds) = some (d, st')) : Ev P f args st d st' := by
  obtain ⟨o, fr', st1, ⟨N, hN⟩, ho, ds, hr, hl⟩ := h
  refine ⟨N + 1, fun n hn => ?_⟩
  obtain ⟨m, rfl⟩ : ∃ m', n = m' + 1 := ⟨n - 1, by omega⟩
  simp only [callD, hq, hf, hp, hb, bodyD]
  rw [hN m (by omega)]
  cases o with
  | next => simp only [hr, hl]
  | exit i => exact absurd rfl (ho i)
  | ret => simp only [hr, hl]
theorem EvO.nil {ops fr st} {Q : Fr → St → Prop} (h : Q fr st) : EvO P ops [] fr st Q := ⟨fr, st, ⟨0, fun n _ => rfl⟩, h⟩
def isCall : Op → Bool
  | .call ⟨.value _, _, _⟩ => true
  | _ => false
theorem operD_op {cf fr st} {o : Oper} (h : isCall o.op = false) : operD P cf fr st o = opD P fr st o.op o.type := by
  unfold operD
  split
  · rename_i heq; rw [heq] at h; simp [isCall] at h
  · rfl
theorem EvO.op {ops o rest fr st d st1} {Q : Fr → St → Prop} (hg : wantD ops fr o = some true) (hc : isCall o.op = false) (h1 : opD P fr st o.op o.type = some (d, st1))
    (h : EvO P ops rest (fr.putO o.dst d) st1 Q) : EvO P ops (o :: rest) fr st Q := by
  obtain ⟨fr', st', ⟨N, hN⟩, hq⟩ := h
  exact ⟨fr', st', ⟨N, fun n hn => by simp only [opsD, hg, operD_op hc, h1, hN n hn]⟩, hq⟩
theorem EvO.off {ops o rest fr st} {Q : Fr → St → Prop} (hg : wantD ops fr o = some false)
    (h : EvO P ops rest (fr.putO o.dst (.tup [])) st Q) : EvO P ops (o :: rest) fr st Q := by
  obtain ⟨fr', st', ⟨N, hN⟩, hq⟩ := h
  exact ⟨fr', st', ⟨N, fun n hn => by simp only [opsD, hg, hN n hn]⟩, hq⟩
theorem EvO.call {ops rest fr st d st1 f g caps args tys dst type pos} {after guard} {Q : Fr → St → Prop} (hg : wantD ops fr ⟨dst, .call ⟨.value f, args, tys⟩, type, pos, after, guard⟩ = some true) (hf : fr.ev f = .fn g caps)
    (h1 : Ev P g (args.toList.map fr.ev ++ caps) st d st1)
    (h : EvO P ops rest (fr.putO dst d) st1 Q) : EvO P ops (⟨dst, .call ⟨.value f, args, tys⟩, type, pos, after, guard⟩ :: rest) fr st Q := by
  obtain ⟨fr', st', ⟨N, hN⟩, hq⟩ := h
  obtain ⟨M, hM⟩ := h1
  exact ⟨fr', st', ⟨max N M, fun n hn => by simp only [opsD, hg, operD, hf, hM n (by omega), hN n (by omega)]⟩, hq⟩
theorem EvY.nil {ops ys j log fr st} {Q : Fr → St → Prop} (h : Q fr st) : EvY P ops ys j log [] fr st Q := ⟨fr, st, ⟨0, fun n _ => rfl⟩, h⟩
theorem EvY.cons {ops ys j log o rest fr st} {Q : Fr → St → Prop} (h : EvO P ops [o] fr st fun fr' st' => chkY ys j log o fr st st' = true ∧ EvY P ops ys (j + 1) ((o, fr, st, st') :: log) rest fr' st' Q) : EvY P ops ys j log (o :: rest) fr st Q := by
  obtain ⟨fr1, st1, ⟨N, hN⟩, hc, fr2, st2, ⟨M, hM⟩, hq⟩ := h
  refine ⟨fr2, st2, ⟨max N M, fun n hn => ?_⟩, hq⟩
  have h1 := hN n (by omega)
  have h2 := hM n (by omega)
  simp only [opsD] at h1
  simp only [opsY]
  split at h1
  · rename_i hw
    split at h1
    · rename_i d st' hop
      cases h1
      simp only [hop, hc, h2]
    · cases h1
  · rename_i hw; cases h1; exact h2
  · cases h1
theorem Ev.out {f args st d st'} (h : Ev P f args st d st') : ∃ N, ∀ n, N ≤ n → callD P n f args st = some (d, st') := h
theorem Ev.prim {f args st d st' p} (hq : lookP f P.prm = some p) (h : p args st = some (d, st')) : Ev P f args st d st' :=
  ⟨1, fun n hn => by
    obtain ⟨m, rfl⟩ : ∃ m', n = m' + 1 := ⟨n - 1, by omega⟩
    simp only [callD, hq, h]⟩
end
attribute [irreducible] Ev EvC EvO EvY
end Go.V
namespace Go.V
theorem EvC.reg {P : Pv} {dy : Dy} {i : Nat} {l : List Oper} {d n loc tmp st} {Q : Out → Fr → St → Prop} (h : EvO P l.toArray l ⟨n, loc, []⟩ st (Q .next)) (h0 : lookDy i dy = [] := by rfl) : EvC P dy (.region i l.toArray d) ⟨n, loc, tmp⟩ st Q := EvC.region h h0
theorem Ev.mk1 {P : Pv} {f x body args st d st' n loc} (hq : lookP f P.prm = none) (hf : P.fi f = some x) (hp : x.prim = none) (hb : x.fn.body = some body) (hpad : pad x.nloc args = ⟨n, loc, []⟩)
    (h : EvC P x.dyn body ⟨n, loc, []⟩ (enterSt x.mode st) fun o fr st1 => (∀ i, o ≠ .exit i) ∧ ∃ ds, resD P fr st1 x.fn.results.toList = some ds ∧ leaveD x.mode x.knul st st1 (tupD ds) = some (d, st')) : Ev P f args st d st' :=
  Ev.of hq hf hp hb (by rw [hpad]; exact h)
theorem ofVal_int (k : IntKind) (n : Int) : ofVal (.int k n) = .int k n := rfl
theorem ofVal_bool (b : Bool) : ofVal (.bool b) = .bool b := rfl
theorem ofVal_str (s : ByteArray) : ofVal (.string s) = .str s.data.toList := rfl
theorem ofVal_nul : ofVal (.slice none 0 0) = .nul := rfl
theorem ofVal_pnil : ofVal (.pointer none) = .pnil := rfl
theorem ofVal_nilfn : ofVal .nilFunc = .nilfn := rfl
theorem ofVal_nilif : ofVal .nilIface = .nilif := rfl
section
variable {P : Pv} {ops : Array Oper} {rest : List Oper} {n : Nat} {loc : List D} {tmp : List (Nat × D)} {st st1 : St} {Q : Fr → St → Prop} {op : Op} {ty : TypeId} {p : String} {a : Array Edge} {g : Option (Nat × Bool)} {t : Nat} {d : D}
theorem put_T (hb : Nat.ble n t = true) (d : D) : Fr.put ⟨n, loc, tmp⟩ t d = ⟨n, loc, (t, d) :: tmp⟩ := by
  simp only [Fr.put, hb]
theorem put_L (hb : Nat.ble n t = false) (d : D) : Fr.put ⟨n, loc, tmp⟩ t d = ⟨n, loc.set t d, tmp⟩ := by
  simp only [Fr.put, hb]
theorem EvO.T (hb : Nat.ble n t = true) (hg : wantD ops ⟨n, loc, tmp⟩ ⟨some t, op, ty, p, a, g⟩ = some true) (hc : isCall op = false) (h1 : opD P ⟨n, loc, tmp⟩ st op ty = some (d, st1))
    (h : EvO P ops rest ⟨n, loc, (t, d) :: tmp⟩ st1 Q) : EvO P ops (⟨some t, op, ty, p, a, g⟩ :: rest) ⟨n, loc, tmp⟩ st Q :=
  EvO.op hg hc h1 (by show EvO P ops rest (Fr.put _ t d) st1 Q; rw [put_T hb]; exact h)
theorem EvO.L (hb : Nat.ble n t = false) (hg : wantD ops ⟨n, loc, tmp⟩ ⟨some t, op, ty, p, a, g⟩ = some true) (hc : isCall op = false) (h1 : opD P ⟨n, loc, tmp⟩ st op ty = some (d, st1))
    (h : EvO P ops rest ⟨n, loc.set t d, tmp⟩ st1 Q) : EvO P ops (⟨some t, op, ty, p, a, g⟩ :: rest) ⟨n, loc, tmp⟩ st Q :=
  EvO.op hg hc h1 (by show EvO P ops rest (Fr.put _ t d) st1 Q; rw [put_L hb]; exact h)
theorem EvO.N {fr : Fr} (hg : wantD ops fr ⟨none, op, ty, p, a, g⟩ = some true) (hc : isCall op = false) (h1 : opD P fr st op ty = some (d, st1))
    (h : EvO P ops rest fr st1 Q) : EvO P ops (⟨none, op, ty, p, a, g⟩ :: rest) fr st Q := EvO.op hg hc h1 h
theorem EvO.offT (hb : Nat.ble n t = true) (hg : wantD ops ⟨n, loc, tmp⟩ ⟨some t, op, ty, p, a, g⟩ = some false)
    (h : EvO P ops rest ⟨n, loc, (t, .tup []) :: tmp⟩ st Q) : EvO P ops (⟨some t, op, ty, p, a, g⟩ :: rest) ⟨n, loc, tmp⟩ st Q :=
  EvO.off hg (by show EvO P ops rest (Fr.put _ t _) st Q; rw [put_T hb]; exact h)
end
inductive Rows (st : St) (s : Nat) : D → List (List D) → Prop where
  | nul : Rows st s .nul []
  | sl (es : List D) (h : ∀ e ∈ es, e.cells? = some e.cells ∧ e.cells.length = s) : Rows st s (.sl es) (es.map D.cells)
  | win (k ver off : Nat) (es : List (List D)) (ar : Bool) (c : List D) (hm : st.mem? k ver = some (ar, c)) (hl : off + es.length * s ≤ c.length)
      (he : ∀ (i : Nat) e, es[i]? = some e → (c.drop (off + i * s)).take s = e) : Rows st s (.win k ver off es.length s) es
theorem Rows.elen {st : St} {s : Nat} {x : D} {es : List (List D)} (h : Rows st s x es) : ∀ (i : Nat) e, es[i]? = some e → e.length = s := by
  cases h with
  | nul => intro i e h; simp at h
  | sl es h =>
    intro i e hi
    rw [List.getElem?_map] at hi
    obtain ⟨d, hd, rfl⟩ := Option.map_eq_some_iff.1 hi
    exact (h d (List.mem_of_getElem? hd)).2
  | win k ver off es ar c hm hl he =>
    intro i e hi
    have hlt : i < es.length := by
      rcases Nat.lt_or_ge i es.length with h' | h'
      · exact h'
      · rw [List.getElem?_eq_none h'] at hi; cases hi
    rw [← he i e hi]
    have : (i + 1) * s ≤ es.length * s := Nat.mul_le_mul_right s hlt
    rw [Nat.add_mul] at this
    simp; omega
theorem Rows.len {st : St} {s : Nat} {x : D} {es : List (List D)} (h : Rows st s x es) : lenD x = some es.length ∧ ∀ b, x ≠ .str b := by
  cases h with
  | nul => exact ⟨rfl, fun b h => by cases h⟩
  | sl es h => exact ⟨by simp [lenD], fun b h => by cases h⟩
  | win k ver off es ar c hm hl he => exact ⟨rfl, fun b h => by cases h⟩
theorem Rows.opLen {P : Pv} {st : St} {s : Nat} {x : D} {es : List (List D)} (h : Rows st s x es) {t e : TypeId} (ht : P.und t = some (.slice e)) :
    builtinD P .len [t] [x] st = some (.int .i64 (es.length : Nat), st) := by
  obtain ⟨h1, h2⟩ := h.len
  simp only [builtinD, ht]
  cases x with
  | str b => exact absurd rfl (h2 b)
  | _ => simp only [h1]; rfl
def byteCells (b : List UInt8) : List (List D) := b.map fun y => [.int .u8 (y.toNat : Nat)]
theorem leave_same {m : Mode} {kn : Bool} {st st1 : St} {d d' : D} (hm : m ≠ .keep ∧ m ≠ .nw) (h1 : st1.bs.take st.bs.length = st.bs) (hd : freezeD st1 st.bs.length kn 16 d = some d') : leaveD m kn st st1 d = some (d', st) := by
  cases m with
  | keep => exact absurd rfl hm.1
  | nw => exact absurd rfl hm.2
  | _ => simp only [leaveD, hd, h1]
end Go.V
namespace Go.V
structure Ex (N : Nat) (st st' : St) : Prop where
  low : ∀ k, k < N → st'.bs[k]? = st.bs[k]?
  len : st.bs.length ≤ st'.bs.length
  flr : st'.flr = st.flr
  ro : st'.ro = st.ro
theorem Ex.refl (N : Nat) (st : St) : Ex N st st := ⟨fun _ _ => rfl, Nat.le_refl _, rfl, rfl⟩
theorem Ex.trans {N : Nat} {a b c : St} (h : Ex N a b) (g : Ex N b c) : Ex N a c :=
  ⟨fun k hk => (g.low k hk).trans (h.low k hk), Nat.le_trans h.len g.len, g.flr.trans h.flr, g.ro.trans h.ro⟩
theorem Ex.push {N : Nat} {st : St} (h : N ≤ st.bs.length) (b : Box) : Ex N st (st.push b) :=
  ⟨fun k hk => by simp only [St.push]; rw [List.getElem?_append_left (by omega)], by simp [St.push], rfl, rfl⟩
theorem Ex.set {N : Nat} {st : St} {k : Nat} (h : N ≤ k) (b : Box) : Ex N st { st with bs := st.bs.set k b } :=
  ⟨fun j hj => by simp only; rw [List.getElem?_set_ne (by omega)], by simp, rfl, rfl⟩
theorem Ex.take {N : Nat} {st st' : St} (h : Ex N st st') (hN : N = st.bs.length) : st'.bs.take N = st.bs := by
  apply List.ext_getElem?
  intro k
  rw [List.getElem?_take]
  split
  · exact h.low k (by assumption)
  · rw [List.getElem?_eq_none (by omega)]
theorem Ex.mem {N : Nat} {st st' : St} (h : Ex N st st') {k v : Nat} (hk : k < N) : st'.mem? k v = st.mem? k v := by
  simp only [St.mem?, h.low k hk]
theorem Rows.ex {N : Nat} {st st' : St} (h : Ex N st st') {s : Nat} {x : D} {es : List (List D)} (hr : Rows st s x es) (hx : x.ref ≤ N) : Rows st' s x es := by
  cases hr with
  | nul => exact .nul
  | sl es h => exact .sl es h
  | win k ver off es ar c hm hl he => exact .win k ver off es ar c (by rw [h.mem (by simp only [D.ref] at hx; omega)]; exact hm) hl he
theorem Rows.slice {P : Pv} {st : St} {s : Nat} {x : D} {es : List (List D)} (h : Rows st s x es) {t e : TypeId} (ht : P.und t = some (.slice e)) (hs : szOf P e = some s) {lo hi : Option D} {l r : Nat} (hb : boundsD es.length lo hi = some (l, r)) (hlr : l ≤ r ∧ r ≤ es.length) :
    ∃ y, sliceD P t x lo hi st = some y ∧ Rows st s y ((es.take r).drop l) ∧ y.ref ≤ x.ref := by
  cases h with
  | nul =>
    refine ⟨.nul, ?_, ?_, Nat.le_refl _⟩
    · simp only [sliceD, ht, hs, Option.bind_some]
      simp only [List.length_nil] at hb
      rw [hb]; rfl
    · simp; exact .nul
  | sl es h =>
    refine ⟨.sl ((es.take r).drop l), ?_, ?_, by simp [D.ref]⟩
    · simp only [sliceD, ht, hs, Option.bind_some]
      have : headOk s es = true := by
        cases es with
        | nil => rfl
        | cons e es => obtain ⟨h1, h2⟩ := h e (List.mem_cons_self ..); simp [headOk, h1, h2]
      rw [if_pos this]
      simp only [List.length_map] at hb
      rw [hb]; rfl
    · have := Rows.sl (st := st) (s := s) ((es.take r).drop l) fun e he => h e (List.mem_of_mem_take (List.mem_of_mem_drop he))
      simpa [List.map_drop, List.map_take] using this
  | win k ver off es ar c hm hl he =>
    have hlen : ((es.take r).drop l).length = r - l := by simp; omega
    refine ⟨.win k ver (off + l * s) (r - l) s, ?_, ?_, by simp [D.ref]⟩
    · simp only [sliceD, ht, hs, Option.bind_some, if_true, hb]; rfl
    · have h1 : l * s + (r - l) * s ≤ es.length * s := by rw [← Nat.add_mul]; exact Nat.mul_le_mul_right s (by omega)
      have := Rows.win (st := st) (s := s) k ver (off + l * s) ((es.take r).drop l) ar c hm (by rw [hlen]; omega) (fun i e hi => by
        rw [List.getElem?_drop, List.getElem?_take] at hi
        split at hi
        · have := he _ _ hi
          rw [← this, Nat.add_mul]; congr 2; omega
        · cases hi)
      rwa [hlen] at this
inductive Acc (N : Nat) (st : St) (s : Nat) : D → List (List D) → Prop where
  | nul : Acc N st s .nul []
  | win (k ver : Nat) (es : List (List D)) (hN : N ≤ k) (hm : st.bs[k]? = some (.mem ver true es.flatten)) (he : ∀ e ∈ es, e.length = s) : Acc N st s (.win k ver 0 es.length s) es
theorem flat_len {s : Nat} : ∀ {es : List (List D)}, (∀ e ∈ es, e.length = s) → es.flatten.length = es.length * s
  | [], _ => by simp
  | e :: es, h => by
    have := flat_len (s := s) (es := es) fun x hx => h x (List.mem_cons_of_mem _ hx)
    simp only [List.flatten_cons, List.length_append, List.length_cons, this, h e (List.mem_cons_self ..)]
    rw [Nat.add_mul]; omega
theorem flat_at {s : Nat} : ∀ {es : List (List D)}, (∀ e ∈ es, e.length = s) → ∀ (i : Nat) e, es[i]? = some e → (es.flatten.drop (i * s)).take s = e
  | [], _, i, e, h => by simp at h
  | x :: es, h, 0, e, hi => by
    simp at hi; subst hi
    have := h x (List.mem_cons_self ..)
    simp [List.take_left' this]
  | x :: es, h, i + 1, e, hi => by
    simp only [List.getElem?_cons_succ] at hi
    have hx := h x (List.mem_cons_self ..)
    have := flat_at (s := s) (es := es) (fun y hy => h y (List.mem_cons_of_mem _ hy)) i e hi
    rw [← this, List.flatten_cons, Nat.add_mul, Nat.one_mul, Nat.add_comm, ← hx, ← List.drop_drop, List.drop_left]
theorem St.mem_of {st : St} {k ver : Nat} {ar : Bool} {c : List D} (h : st.bs[k]? = some (.mem ver ar c)) : st.mem? k ver = some (ar, c) := by
  simp only [St.mem?, h, if_true]
theorem Acc.rows {N : Nat} {st : St} {s : Nat} {x : D} {es : List (List D)} (h : Acc N st s x es) : Rows st s x es := by
  cases h with
  | nul => exact .nul
  | win k ver es hN hm he =>
    exact .win k ver 0 es true es.flatten (St.mem_of hm) (by rw [flat_len he]; omega) fun i e hi => by rw [Nat.zero_add]; exact flat_at he i e hi
theorem Acc.ex {N M : Nat} {st st' : St} (h : Ex M st st') {s : Nat} {x : D} {es : List (List D)} (hr : Acc N st s x es) (hx : x.ref ≤ M) : Acc N st' s x es := by
  cases hr with
  | nul => exact .nul
  | win k ver es hN hm he => exact .win k ver es hN (by rw [h.low k (by simp only [D.ref] at hx; omega)]; exact hm) he
theorem Acc.push {N : Nat} {st : St} {s : Nat} {x : D} {es : List (List D)} (hr : Acc N st s x es) (b : Box) : Acc N (st.push b) s x es := by
  cases hr with
  | nul => exact .nul
  | win k ver es hN hm he =>
    refine .win k ver es hN ?_ he
    simp only [St.push]
    rw [List.getElem?_append_left]; exact hm
    rcases Nat.lt_or_ge k st.bs.length with h' | h'
    · exact h'
    · rw [List.getElem?_eq_none h'] at hm; cases hm
theorem Rows.row {st : St} {s : Nat} {x : D} {es : List (List D)} (h : Rows st s x es) : rowD st x = some (es.length, es.flatten) := by
  have hl := h.elen
  cases h with
  | nul => rfl
  | sl es h =>
    simp only [rowD, List.length_map]
    rw [List.flatMap_def]
  | win k ver off es ar c hm hl' he =>
    simp only [rowD, hm, Option.bind_some, if_pos hl']
    congr 2
    have key : ∀ (es : List (List D)) (c : List D), es.length * s ≤ c.length → (∀ (i : Nat) e, es[i]? = some e → (c.drop (i * s)).take s = e) → c.take (es.length * s) = es.flatten := by
      intro es
      induction es with
      | nil => intro c _ _; simp
      | cons e es ih =>
        intro c hc hx
        have h0 := hx 0 e rfl
        simp only [Nat.zero_mul, List.drop_zero] at h0
        rw [List.flatten_cons, List.length_cons, Nat.add_mul, Nat.one_mul, Nat.add_comm, List.take_add, h0]
        congr 1
        simp only [List.length_cons, Nat.add_mul, Nat.one_mul] at hc
        refine ih (c.drop s) (by simp; omega) fun i e hi => ?_
        rw [List.drop_drop, ← hx (i + 1) e (by simpa using hi), Nat.add_mul, Nat.one_mul, Nat.add_comm]
    refine key es (c.drop off) (by simp; omega) fun i e hi => ?_
    rw [List.drop_drop]; exact he i e hi
theorem Acc.append {P : Pv} {N : Nat} {st : St} {s : Nat} {x y : D} {es ys : List (List D)} (hr : Acc N st s x es) (hy : Rows st s y ys) {t1 t2 e : TypeId} {td : TypeDesc} {inf : TypeInfo} {z : List D}
    (h1 : P.und t1 = some (.slice e)) (h2 : P.und t2 = some td) (h3 : isIntT td = false) (h4 : P.info e = some inf) (h5 : zeroC P e = some z) (h6 : inf.size = s) (h7 : z.length = s) (h8 : inf.bytes ≠ 0)
    (hN : N ≤ st.bs.length) (hf : st.flr ≤ N) (hro : st.ro ≤ N) (hb : (es.length + ys.length) * inf.bytes ≤ 1099511627776) :
    ∃ x' st', builtinD P .append [t1, t2] [x, y] st = some (x', st') ∧ Acc N st' s x' (es ++ ys) ∧ Ex N st st' ∧ x'.ref ≤ st'.bs.length ∧ (∀ k, k < st.bs.length → k + 1 ≠ x.ref → st'.bs[k]? = st.bs[k]?) ∧ (x'.ref = x.ref ∨ st.bs.length < x'.ref) := by
  have hrow := hy.row
  have hyl : ∀ e ∈ ys, e.length = s := fun e he => by
    obtain ⟨i, hi⟩ := List.getElem?_of_mem he
    exact hy.elen i e hi
  have hfl := flat_len hyl
  subst h6
  simp only [builtinD, appendD, h1, h2, h3, Bool.false_eq_true, if_false, h4, h5, hrow, Option.bind_some]
  rw [if_neg (by rintro (h | h | h); exact h hfl; exact h8 h; exact h h7)]
  cases hr with
  | nul =>
    simp only [List.nil_append]
    by_cases h0 : ys.length = 0
    · rw [if_pos h0]
      have : ys = [] := by cases ys with | nil => rfl | cons _ _ => simp at h0
      subst this
      exact ⟨.nul, st, rfl, .nul, Ex.refl _ _, by simp [D.ref], fun _ _ _ => rfl, .inl rfl⟩
    · rw [if_neg h0, if_pos (by simpa using hb)]
      refine ⟨_, _, rfl, ?_, Ex.push hN _, by simp [D.ref, St.push], fun k hk _ => by simp only [St.push]; rw [List.getElem?_append_left hk], .inr (by simp [D.ref])⟩
      exact .win _ _ ys hN (by simp [St.push]) hyl
  | win k ver es hk hm he =>
    have hkl : k < st.bs.length := by
      rcases Nat.lt_or_ge k st.bs.length with h' | h'
      · exact h'
      · rw [List.getElem?_eq_none h'] at hm; cases hm
    simp only [St.mem_of hm]
    rw [if_neg (by rintro (h | h); exact h rfl; rw [flat_len he] at h; omega)]
    by_cases h0 : ys.length = 0
    · rw [if_pos h0]
      have : ys = [] := by cases ys with | nil => rfl | cons _ _ => simp at h0
      subst this
      simp only [List.append_nil]
      exact ⟨_, st, rfl, .win k ver es hk hm he, Ex.refl _ _, by simp only [D.ref]; omega, fun _ _ _ => rfl, .inl rfl⟩
    · rw [if_neg h0, if_pos ⟨hb, by simp only [St.canW, Bool.and_eq_true, Bool.or_eq_true, decide_eq_true_eq]; exact ⟨by omega, .inl (by omega)⟩⟩]
      refine ⟨_, _, rfl, ?_, Ex.set hk _, by simp only [D.ref, List.length_set]; omega, fun j hj hne => by simp only; rw [List.getElem?_set_ne (by simp only [D.ref] at hne; omega)], .inl rfl⟩
      have : (es.flatten.take (0 + es.length * inf.size)).drop 0 ++ ys.flatten = (es ++ ys).flatten := by
        rw [Nat.zero_add, ← flat_len he, List.take_length, List.drop_zero, List.flatten_append]
      rw [this]
      have hll : es.length + ys.length = (es ++ ys).length := by simp
      rw [hll]
      exact .win k (ver + 1) (es ++ ys) hk (by simp [hkl]) fun e h => by
        rcases List.mem_append.1 h with h | h
        · exact he e h
        · exact hyl e h
def plainC : D → Bool
  | .bool _ | .int _ _ | .str _ | .sl _ => true
  | _ => false
theorem mapO_plain {st : St} {N n : Nat} : ∀ {l : List D}, (∀ d ∈ l, plainC d = true) → mapO (pureD st N (n + 1)) l = some l
  | [], _ => rfl
  | d :: l, h => by
    have h1 := h d (List.mem_cons_self ..)
    have h2 := mapO_plain (st := st) (N := N) (n := n) fun x hx => h x (List.mem_cons_of_mem _ hx)
    have h3 : pureD st N (n + 1) d = some d := by cases d <;> simp [plainC] at h1 <;> rfl
    simp only [mapO, h3, h2]
def elD (s : Nat) (e : List D) : D := match s with | 1 => e.headD .junk | _ => .agg e
theorem chunk_flat {s : Nat} : ∀ {es : List (List D)}, (∀ e ∈ es, e.length = s) → chunk s es.length es.flatten = es.map (elD s)
  | [], _ => rfl
  | e :: es, h => by
    have he := h e (List.mem_cons_self ..)
    have ih := chunk_flat (s := s) (es := es) fun x hx => h x (List.mem_cons_of_mem _ hx)
    simp only [List.length_cons, chunk, List.flatten_cons, List.map_cons]
    congr 1
    · by_cases hs : s = 1
      · subst hs
        cases e with
        | nil => simp at he
        | cons x xs => simp [elD]
      · have h1 : elD s e = .agg e := by unfold elD; split; exact absurd rfl hs; rfl
        have h2 : (match s with | 1 => (e ++ es.flatten).headD .junk | _ => D.agg ((e ++ es.flatten).take s)) = .agg e := by
          split
          · exact absurd rfl hs
          · rw [List.take_left' he]
        rw [h1]; exact h2
    · rw [List.drop_left' he]; exact ih
theorem Acc.freeze {N : Nat} {st : St} {s : Nat} {x : D} {es : List (List D)} (h : Acc N st s x es) (hp : ∀ e ∈ es, ∀ d ∈ e, plainC d = true) {n : Nat} (hn : 2 ≤ n) : freezeD st N false (n + 1) x = some (.sl (es.map (elD s))) := by
  obtain ⟨n, rfl⟩ : ∃ m, n = m + 2 := ⟨n - 2, by omega⟩
  cases h with
  | nul => rfl
  | win k ver es hN hm he =>
    show (if k < N then some (D.win k ver 0 es.length s) else pureD st N (n + 2) (.win k ver 0 es.length s)) = _
    rw [if_neg (show ¬ k < N by omega), pureD]
    simp only [if_neg (show ¬ k < N by omega), St.mem_of hm, Option.bind_some]
    rw [if_pos (by rw [flat_len he]; omega)]
    have : (es.flatten.drop 0).take (es.length * s) = es.flatten := by rw [List.drop_zero, ← flat_len he, List.take_length]
    rw [this, mapO_plain (fun d hd => by
      obtain ⟨e, he', hd'⟩ := List.mem_flatten.1 hd
      exact hp e he' d hd')]
    simp only [Option.map_some, chunk_flat he]
theorem elD_cells {s : Nat} {e : List D} (h : e.length = s) (hp : ∀ d ∈ e, plainC d = true) : (elD s e).cells? = some (elD s e).cells ∧ (elD s e).cells = e := by
  by_cases hs : s = 1
  · subst hs
    match e, h with
    | [x], _ =>
      have := hp x (List.mem_cons_self ..)
      cases x <;> simp [plainC] at this <;> exact ⟨rfl, rfl⟩
  · have : elD s e = .agg e := by unfold elD; split; exact absurd rfl hs; rfl
    rw [this]; exact ⟨rfl, rfl⟩
theorem Rows.bs {st st' : St} (h : st'.bs = st.bs) {s : Nat} {x : D} {es : List (List D)} (hr : Rows st s x es) : Rows st' s x es := by
  cases hr with
  | nul => exact .nul
  | sl es h => exact .sl es h
  | win k ver off es ar c hm hl he => exact .win k ver off es ar c (by simp only [St.mem?, h] at hm ⊢; exact hm) hl he
theorem enter_bs (m : Mode) (st : St) : (enterSt m st).bs = st.bs := by cases m <;> rfl
theorem Rows.enter {st : St} {s : Nat} {x : D} {es : List (List D)} (m : Mode) (hr : Rows st s x es) : Rows (enterSt m st) s x es := hr.bs (enter_bs m st)
theorem wrap_nat {k : IntKind} {m : Nat} (h : m ≤ maxN k) : wrapD k (m : Int) = m := by
  show wrapD k (.ofNat m) = _
  unfold wrapD
  simp only [Nat.ble_eq_true_of_le h]; rfl
theorem wrap_i64 {n : Int} (h1 : -9223372036854775808 ≤ n) (h2 : n ≤ 9223372036854775807) : wrapD .i64 n = n := by
  cases n with
  | ofNat m => exact wrap_nat (k := .i64) (m := m) (by simp only [maxN]; have : (Int.ofNat m) = (m : Int) := rfl; omega)
  | negSucc m =>
    unfold wrapD
    have : Nat.ble (minN .i64) m = false := by
      cases hb : Nat.ble (minN .i64) m with
      | false => rfl
      | true => have := Nat.le_of_ble_eq_true hb; simp only [minN] at this; have : Int.negSucc m = -(m : Int) - 1 := by omega
                omega
    simp only [this]
end Go.V
namespace Go.V
variable {P : Pv} {ops : Array Oper} {rest : List Oper} {n : Nat} {loc : List D} {tmp : List (Nat × D)} {st : St} {Q : Fr → St → Prop} {ty : TypeId} {p : String} {a : Array Edge} {g : Option (Nat × Bool)} {dst : Nat}
theorem EvO.len {t e : TypeId} {xo : Operand} {x : D} {s : Nat} {es : List (List D)} (hb0 : Nat.ble n dst = true) (hg : wantD ops ⟨n, loc, tmp⟩ ⟨some dst, .call ⟨.builtin .len, #[xo], #[t]⟩, ty, p, a, g⟩ = some true) (hx : Fr.ev ⟨n, loc, tmp⟩ xo = x) (hR : Rows st s x es) (ht : P.und t = some (.slice e))
    (h : EvO P ops rest ⟨n, loc, (dst, (.int .i64 (es.length : Nat))) :: tmp⟩ st Q) : EvO P ops (⟨some dst, .call ⟨.builtin .len, #[xo], #[t]⟩, ty, p, a, g⟩ :: rest) ⟨n, loc, tmp⟩ st Q := by
  refine EvO.T hb0 hg rfl (d := .int .i64 (es.length : Nat)) (st1 := st) ?_ h
  simp only [opD, List.map_cons, List.map_nil, hx]
  exact hR.opLen ht
theorem EvO.slice {t e : TypeId} {xo : Operand} {lo hi : Option Operand} {x : D} {s : Nat} {es : List (List D)} {l r : Nat} (hb0 : Nat.ble n dst = true) (hg : wantD ops ⟨n, loc, tmp⟩ ⟨some dst, .slice t xo lo hi none, ty, p, a, g⟩ = some true) (hx : Fr.ev ⟨n, loc, tmp⟩ xo = x) (hR : Rows st s x es) (ht : P.und t = some (.slice e)) (hs : szOf P e = some s)
    (hb : boundsD es.length (lo.map (Fr.ev ⟨n, loc, tmp⟩)) (hi.map (Fr.ev ⟨n, loc, tmp⟩)) = some (l, r)) (hlr : l ≤ r ∧ r ≤ es.length)
    (h : ∀ y, Rows st s y ((es.take r).drop l) → y.ref ≤ x.ref → EvO P ops rest ⟨n, loc, (dst, y) :: tmp⟩ st Q) : EvO P ops (⟨some dst, .slice t xo lo hi none, ty, p, a, g⟩ :: rest) ⟨n, loc, tmp⟩ st Q := by
  obtain ⟨y, h1, h2, h3⟩ := hR.slice ht hs hb hlr
  refine EvO.T hb0 hg rfl (d := y) (st1 := st) ?_ (h y h2 h3)
  simp only [opD, hx, h1, Option.map_some]
theorem EvO.append {N : Nat} {t1 t2 e : TypeId} {td : TypeDesc} {inf : TypeInfo} {z : List D} {xo yo : Operand} {x y : D} {s : Nat} {es ys : List (List D)} (hb0 : Nat.ble n dst = true) (hg : wantD ops ⟨n, loc, tmp⟩ ⟨some dst, .call ⟨.builtin .append, #[xo, yo], #[t1, t2]⟩, ty, p, a, g⟩ = some true)
    (hx : Fr.ev ⟨n, loc, tmp⟩ xo = x) (hy : Fr.ev ⟨n, loc, tmp⟩ yo = y) (hr : Acc N st s x es) (hys : Rows st s y ys)
    (h1 : P.und t1 = some (.slice e)) (h2 : P.und t2 = some td) (h3 : isIntT td = false) (h4 : P.info e = some inf) (h5 : zeroC P e = some z) (h6 : inf.size = s) (h7 : z.length = s) (h8 : inf.bytes ≠ 0)
    (hN : N ≤ st.bs.length) (hf : st.flr ≤ N) (hro : st.ro ≤ N) (hb : (es.length + ys.length) * inf.bytes ≤ 1099511627776)
    (h : ∀ x' st', Acc N st' s x' (es ++ ys) → Ex N st st' → x'.ref ≤ st'.bs.length → (∀ k, k < st.bs.length → k + 1 ≠ x.ref → st'.bs[k]? = st.bs[k]?) → (x'.ref = x.ref ∨ st.bs.length < x'.ref) → EvO P ops rest ⟨n, loc, (dst, x') :: tmp⟩ st' Q) :
    EvO P ops (⟨some dst, .call ⟨.builtin .append, #[xo, yo], #[t1, t2]⟩, ty, p, a, g⟩ :: rest) ⟨n, loc, tmp⟩ st Q := by
  obtain ⟨x', st', q1, q2, q3, q4, q5, q6⟩ := hr.append hys h1 h2 h3 h4 h5 h6 h7 h8 hN hf hro hb
  refine EvO.T hb0 hg rfl (d := x') (st1 := st') ?_ (h x' st' q2 q3 q4 q5 q6)
  simp only [opD, List.map_cons, List.map_nil, hx, hy]
  exact q1
theorem Rows.one {st : St} {s : Nat} {c : List D} (hc : c.length = s) : Rows (st.push (.mem 0 true c)) s (.win st.bs.length 0 0 1 s) [c] := by
  have := Rows.win (st := st.push (.mem 0 true c)) (s := s) st.bs.length 0 0 [c] true c (St.mem_of (by simp [St.push])) (by simp [hc]) fun i e hi => by
    cases i with
    | zero => simp at hi; subst hi; simp [← hc]
    | succ i => simp at hi
  exact this
theorem Rows.ref {st : St} {s : Nat} {x : D} {es : List (List D)} (h : Rows st s x es) : x.ref ≤ st.bs.length := by
  cases h with
  | nul => simp [D.ref]
  | sl es h => simp [D.ref]
  | win k ver off es ar c hm hl he =>
    simp only [D.ref]
    rcases Nat.lt_or_ge k st.bs.length with h' | h'
    · exact h'
    · simp only [St.mem?, List.getElem?_eq_none h'] at hm; cases hm
theorem Acc.ref {N : Nat} {st : St} {s : Nat} {x : D} {es : List (List D)} (h : Acc N st s x es) : x.ref ≤ st.bs.length := h.rows.ref
end Go.V
namespace Go.V
theorem setMany_eq : ∀ (xs c : List D) (off : Nat), off + xs.length ≤ c.length → setMany c off xs = c.take off ++ xs ++ c.drop (off + xs.length)
  | [], c, off, h => by simp [setMany]
  | x :: xs, c, off, h => by
    simp only [setMany]
    simp only [List.length_cons] at h
    rw [setMany_eq xs (c.set off x) (off + 1) (by simp; omega)]
    have h1 : (c.set off x).take (off + 1) = c.take off ++ [x] := by
      rw [List.take_set, List.take_add_one, List.getElem?_eq_getElem (by omega : off < c.length)]
      simp only [Option.toList_some]
      rw [List.set_append_right _ _ (by simp; omega)]
      have : off - (c.take off).length = 0 := by simp; omega
      rw [this]; rfl
    have h2 : (c.set off x).drop (off + 1 + xs.length) = c.drop (off + (xs.length + 1)) := by
      rw [List.drop_set_of_lt (by omega)]; congr 1; omega
    rw [h1, h2]; simp [List.length_cons]
theorem push_at (st : St) (b : Box) : (st.push b).bs[st.bs.length]? = some b := by simp [St.push]
variable {P : Pv} {ops : Array Oper} {rest : List Oper} {n : Nat} {loc : List D} {tmp : List (Nat × D)} {st : St} {Q : Fr → St → Prop} {ty : TypeId} {p : String} {a : Array Edge} {g : Option (Nat × Bool)} {dst : Nat}
theorem EvO.makeSlice {t e : TypeId} {lo co : Operand} {k1 k2 : IntKind} {m : Nat} {inf : TypeInfo} {z : List D} (hb0 : Nat.ble n dst = true) (hg : wantD ops ⟨n, loc, tmp⟩ ⟨some dst, .makeSlice t lo co, ty, p, a, g⟩ = some true)
    (hl : Fr.ev ⟨n, loc, tmp⟩ lo = .int k1 (m : Nat)) (hc : Fr.ev ⟨n, loc, tmp⟩ co = .int k2 (m : Nat)) (ht : P.und t = some (.slice e)) (hi : P.info e = some inf) (hz : zeroC P e = some z) (hzl : z.length = inf.size) (hm : m * inf.bytes ≤ 140737488355328) (hm2 : m ≤ 9223372036854775807)
    (h : EvO P ops rest ⟨n, loc, (dst, .win st.bs.length 0 0 m inf.size) :: tmp⟩ (st.push (.mem 0 true (repl m z))) Q) : EvO P ops (⟨some dst, .makeSlice t lo co, ty, p, a, g⟩ :: rest) ⟨n, loc, tmp⟩ st Q := by
  refine EvO.T hb0 hg rfl (d := .win st.bs.length 0 0 m inf.size) (st1 := st.push (.mem 0 true (repl m z))) ?_ h
  simp only [opD, hl, hc, makeSliceD, ht, hi, hz, Option.bind_some]
  rw [if_pos ⟨hzl, by omega, by omega, by omega, by rw [← Int.natCast_mul]; omega⟩]
  rfl
theorem wr_own {k ver off : Nat} {ar : Bool} {c cs : List D} (hm : st.bs[k]? = some (.mem ver ar c)) (hl : off + cs.length ≤ c.length) (hw : st.canW k (refs cs) = true) : st.wr k ver off cs = some { st with bs := st.bs.set k (.mem ver ar (c.take off ++ cs ++ c.drop (off + cs.length))) } := by
  simp only [St.wr, St.mem_of hm]
  rw [if_pos ⟨hl, hw⟩, setMany_eq _ _ _ hl]
theorem EvO.copy {t1 t2 e : TypeId} {do_ so : Operand} {k ver off len s : Nat} {y : D} {ys : List (List D)} {ar : Bool} {c : List D} (hb0 : Nat.ble n dst = true) (hg : wantD ops ⟨n, loc, tmp⟩ ⟨some dst, .call ⟨.builtin .copy, #[do_, so], #[t1, t2]⟩, ty, p, a, g⟩ = some true)
    (hd : Fr.ev ⟨n, loc, tmp⟩ do_ = .win k ver off len s) (hy : Fr.ev ⟨n, loc, tmp⟩ so = y) (hR : Rows st s y ys) (ht : P.und t1 = some (.slice e)) (hs : szOf P e = some s) (hm : st.bs[k]? = some (.mem ver ar c)) (hl : off + len * s ≤ c.length)
    (hw : st.canW k (refs (ys.flatten.take (min ys.length len * s))) = true)
    (h : EvO P ops rest ⟨n, loc, (dst, .int .i64 (min ys.length len : Nat)) :: tmp⟩ { st with bs := st.bs.set k (.mem ver ar (c.take off ++ ys.flatten.take (min ys.length len * s) ++ c.drop (off + min ys.length len * s))) } Q) :
    EvO P ops (⟨some dst, .call ⟨.builtin .copy, #[do_, so], #[t1, t2]⟩, ty, p, a, g⟩ :: rest) ⟨n, loc, tmp⟩ st Q := by
  have hyl : ∀ e ∈ ys, e.length = s := fun e he => by
    obtain ⟨i, hi⟩ := List.getElem?_of_mem he
    exact hR.elen i e hi
  have hfl := flat_len hyl
  have hmin : min ys.length len * s ≤ ys.length * s := Nat.mul_le_mul_right s (Nat.min_le_left _ _)
  have hmin2 : min ys.length len * s ≤ len * s := Nat.mul_le_mul_right s (Nat.min_le_right _ _)
  have htl : (ys.flatten.take (min ys.length len * s)).length = min ys.length len * s := by rw [List.length_take, hfl]; omega
  refine EvO.T hb0 hg rfl (d := .int .i64 (min ys.length len : Nat)) (st1 := { st with bs := st.bs.set k (.mem ver ar (c.take off ++ ys.flatten.take (min ys.length len * s) ++ c.drop (off + min ys.length len * s))) }) ?_ h
  simp only [opD, List.map_cons, List.map_nil, hd, hy, builtinD, copyD, ht, hs, Option.bind_some, hR.row]
  rw [if_neg (by simp [hfl])]
  simp only [ne_eq, not_true_eq_false, if_false]
  have := wr_own (st := st) hm (cs := ys.flatten.take (min ys.length len * s)) (off := off) (by rw [htl]; omega) hw
  rw [this, htl]; rfl
theorem EvO.store {fr : Fr} {t : TypeId} {ao vo : Operand} {k ver off : Nat} {v : D} {cs : List D} {ar : Bool} {c : List D} (hg : wantD ops fr ⟨none, .store t ao vo, ty, p, a, g⟩ = some true) (ha : fr.ev ao = .ptr k ver off) (hv : fr.ev vo = v)
    (hcs : v.cells? = some cs) (hs : szOf P t = some cs.length) (hm : st.bs[k]? = some (.mem ver ar c)) (hl : off + cs.length ≤ c.length) (hw : st.canW k (refs cs) = true)
    (h : EvO P ops rest fr { st with bs := st.bs.set k (.mem ver ar (c.take off ++ cs ++ c.drop (off + cs.length))) } Q) : EvO P ops (⟨none, .store t ao vo, ty, p, a, g⟩ :: rest) fr st Q := by
  refine EvO.N hg rfl (d := .tup []) (st1 := _) ?_ h
  simp only [opD, ha, hv, storeD, hcs, hs]
  rw [if_pos trivial, wr_own hm hl hw]; rfl
theorem EvO.load {t : TypeId} {ao : Operand} {k ver off : Nat} {d : D} {ar : Bool} {c : List D} (hb0 : Nat.ble n dst = true) (hg : wantD ops ⟨n, loc, tmp⟩ ⟨some dst, .load t ao, ty, p, a, g⟩ = some true) (ha : Fr.ev ⟨n, loc, tmp⟩ ao = .ptr k ver off)
    (hm : st.bs[k]? = some (.mem ver ar c)) (hd : takeD P t (c.drop off) = some d)
    (h : EvO P ops rest ⟨n, loc, (dst, d) :: tmp⟩ st Q) : EvO P ops (⟨some dst, .load t ao, ty, p, a, g⟩ :: rest) ⟨n, loc, tmp⟩ st Q := by
  refine EvO.T hb0 hg rfl (d := d) (st1 := st) ?_ h
  simp only [opD, ha, loadD, St.mem_of hm, Option.bind_some, hd, Option.map_some]
theorem EvO.next {io : Operand} {k pos : Nat} {b : List UInt8} (hb0 : Nat.ble n dst = true) (hg : wantD ops ⟨n, loc, tmp⟩ ⟨some dst, .next io true, ty, p, a, g⟩ = some true) (hx : Fr.ev ⟨n, loc, tmp⟩ io = .ptr k 0 0) (hm : st.bs[k]? = some (.iter b pos)) (hp : pos < b.length) (hw : st.canW k 0 = true)
    (h : EvO P ops rest ⟨n, loc, (dst, .tup [.bool true, .int .i64 (pos : Nat), .int .i32 ((Utf8.decode ⟨b.toArray⟩ pos).1 : Nat)]) :: tmp⟩ { st with bs := st.bs.set k (.iter b (pos + (Utf8.decode ⟨b.toArray⟩ pos).2)) } Q) : EvO P ops (⟨some dst, .next io true, ty, p, a, g⟩ :: rest) ⟨n, loc, tmp⟩ st Q := by
  refine EvO.T hb0 hg rfl (d := .tup [.bool true, .int .i64 (pos : Nat), .int .i32 ((Utf8.decode ⟨b.toArray⟩ pos).1 : Nat)]) (st1 := { st with bs := st.bs.set k (.iter b (pos + (Utf8.decode ⟨b.toArray⟩ pos).2)) }) ?_ h
  simp only [opD, hx, nextD, hm, if_pos hp, hw, if_true]
structure Exk (N k : Nat) (st st' : St) : Prop where
  low : ∀ i, i < N → i ≠ k → st'.bs[i]? = st.bs[i]?
  len : st.bs.length ≤ st'.bs.length
  flr : st'.flr = st.flr
  ro : st'.ro = st.ro
theorem Exk.of {N k : Nat} {a b c : St} (h : Exk N k a b) (g : Ex N b c) : Exk N k a c :=
  ⟨fun i hi hk => (g.low i hi).trans (h.low i hi hk), Nat.le_trans h.len g.len, g.flr.trans h.flr, g.ro.trans h.ro⟩
theorem Exk.put {N k : Nat} {a b : St} (h : Exk N k a b) (bx : Box) : Exk N k a ⟨b.bs.set k bx, b.flr, b.ro⟩ :=
  ⟨fun i hi hk => by simp only; rw [List.getElem?_set_ne (fun e => hk e.symm)]; exact h.low i hi hk, by simp only [List.length_set]; exact h.len, h.flr, h.ro⟩
theorem Exk.take {k : Nat} {a b : St} (h : Exk a.bs.length k a b) (hk : k < a.bs.length) {bx : Box} (hb : b.bs[k]? = some bx) : b.bs.take a.bs.length = a.bs.set k bx := by
  apply List.ext_getElem?
  intro i
  rw [List.getElem?_take]
  by_cases hi : i < a.bs.length
  · rw [if_pos hi]
    by_cases he : i = k
    · subst he; rw [hb, List.getElem?_set_self hk]
    · rw [h.low i hi he, List.getElem?_set_ne (fun e => he e.symm)]
  · rw [if_neg hi, List.getElem?_eq_none (by simp; omega)]
end Go.V
namespace Go.V
variable {P : Pv} {ops : Array Oper} {rest : List Oper} {n : Nat} {loc : List D} {tmp : List (Nat × D)} {st : St} {Q : Fr → St → Prop} {ty : TypeId} {p : String} {a : Array Edge} {g : Option (Nat × Bool)} {dst : Nat}
end Go.V
namespace Go.V
structure Ent where
  K : Nat → Prop
  P : St → Prop
  loc : ∀ {st st' : St}, (∀ k, K k → st'.bs[k]? = st.bs[k]?) → P st → P st'
def Ent.box (k : Nat) (b : Box) : Ent := ⟨fun j => j = k, fun st => st.bs[k]? = some b, fun h p => (h k rfl).trans p⟩
inductive OwnP (st : St) (s : Nat) : D → List (List D) → Prop where
  | nul : OwnP st s .nul []
  | win (k ver off : Nat) (es : List (List D)) (c : List D) (hm : st.bs[k]? = some (.mem ver true c)) (hl : off + es.length * s ≤ c.length) (hc : (c.drop off).take (es.length * s) = es.flatten) (he : ∀ e ∈ es, e.length = s) : OwnP st s (.win k ver off es.length s) es
theorem OwnP.move {st st' : St} {s : Nat} {x : D} {es : List (List D)} (h : ∀ k, x.ref = k + 1 → st'.bs[k]? = st.bs[k]?) (p : OwnP st s x es) : OwnP st' s x es := by
  cases p with
  | nul => exact .nul
  | win k ver off es c hm hl hc he => exact .win k ver off es c ((h k (by simp only [D.ref])).trans hm) hl hc he
def Ent.lst (x : D) (s : Nat) (es : List (List D)) : Ent := ⟨fun j => x.ref = j + 1, fun st => OwnP st s x es, fun h p => OwnP.move h p⟩
theorem OwnP.elen {st : St} {s : Nat} {x : D} {es : List (List D)} (p : OwnP st s x es) : ∀ e ∈ es, e.length = s := by
  cases p with
  | nul => intro e he; cases he
  | win k ver off es c hm hl hc he => exact he
theorem OwnP.rows {st : St} {s : Nat} {x : D} {es : List (List D)} (p : OwnP st s x es) : Rows st s x es := by
  cases p with
  | nul => exact .nul
  | win k ver off es c hm hl hc he =>
    refine .win k ver off es true c (St.mem_of hm) hl fun i e hi => ?_
    have hil : i < es.length := by
      rcases Nat.lt_or_ge i es.length with h' | h'
      · exact h'
      · rw [List.getElem?_eq_none h'] at hi; cases hi
    have h1 := flat_at he i e hi
    rw [← hc, List.drop_take, List.take_take, List.drop_drop] at h1
    have h2 : (i + 1) * s ≤ es.length * s := Nat.mul_le_mul_right s hil
    rw [Nat.add_mul, Nat.one_mul] at h2
    rwa [Nat.min_eq_left (by omega)] at h1
structure Has (N : Nat) (S st : St) (H : List Ent) : Prop where
  ex : Ex N S st
  hN : N ≤ S.bs.length
  hro : S.ro ≤ N
  ok : ∀ (i : Nat) e, H[i]? = some e → e.P st ∧ ∀ k, e.K k → N ≤ k ∧ k < st.bs.length
  dis : ∀ (i j : Nat) a b, i ≠ j → H[i]? = some a → H[j]? = some b → ∀ k, a.K k → b.K k → False
theorem Has.start {N : Nat} {S : St} (hN : N ≤ S.bs.length) (hro : S.ro ≤ N) : Has N S S [] :=
  ⟨Ex.refl _ _, hN, hro, fun i e h => by simp at h, fun i j a b _ h => by simp at h⟩
theorem Has.len {N : Nat} {S st : St} {H : List Ent} (h : Has N S st H) : S.bs.length ≤ st.bs.length := h.ex.len
theorem Has.upd {N : Nat} {S st st' : St} {H : List Ent} {j : Nat} {e e' : Ent} (h : Has N S st H) (hj : H[j]? = some e)
    (hlow : ∀ k, k < st.bs.length → ¬ e.K k → st'.bs[k]? = st.bs[k]?) (hlen : st.bs.length ≤ st'.bs.length) (hf : st'.flr = st.flr) (hr : st'.ro = st.ro)
    (hP : e'.P st') (hK : ∀ k, e'.K k → e.K k ∨ st.bs.length ≤ k) (hup : ∀ k, e'.K k → k < st'.bs.length) : Has N S st' (H.set j e') := by
  have hjl : j < H.length := by
    rcases Nat.lt_or_ge j H.length with h' | h'
    · exact h'
    · rw [List.getElem?_eq_none h'] at hj; cases hj
  have hl := h.ex.len
  have hN := h.hN
  refine ⟨⟨fun k hk => ?_, Nat.le_trans hl hlen, hf.trans h.ex.flr, hr.trans h.ex.ro⟩, h.hN, h.hro, fun i e0 hi => ?_, fun i i' a b hii ha hb k hka hkb => ?_⟩
  · rw [hlow k (by omega) fun hk' => by have := ((h.ok j e hj).2 k hk').1; omega]
    exact h.ex.low k hk
  · by_cases hij : i = j
    · subst hij
      rw [List.getElem?_set_self hjl] at hi
      cases hi
      refine ⟨hP, fun k hk => ⟨?_, hup k hk⟩⟩
      rcases hK k hk with h1 | h1
      · exact ((h.ok i e hj).2 k h1).1
      · omega
    · rw [List.getElem?_set_ne (fun e => hij e.symm)] at hi
      obtain ⟨h1, h2⟩ := h.ok i e0 hi
      refine ⟨e0.loc (fun k hk => hlow k (h2 k hk).2 fun hk' => h.dis i j e0 e hij hi hj k hk hk') h1, fun k hk => ⟨(h2 k hk).1, Nat.lt_of_lt_of_le (h2 k hk).2 hlen⟩⟩
  · have key : ∀ i a, i ≠ j → (H.set j e')[i]? = some a → a.K k → e'.K k → False := by
      intro i a hij ha hka hke
      rw [List.getElem?_set_ne (fun e => hij e.symm)] at ha
      rcases hK k hke with h1 | h1
      · exact h.dis i j a e hij ha hj k hka h1
      · have := ((h.ok i a ha).2 k hka).2; omega
    by_cases hij : i = j
    · subst hij
      have hb' := hb
      rw [List.getElem?_set_self hjl] at ha
      cases ha
      exact key i' b (fun e => hii e.symm) hb hkb hka
    · by_cases hij' : i' = j
      · subst hij'
        rw [List.getElem?_set_self hjl] at hb
        cases hb
        exact key i a hij ha hka hkb
      · rw [List.getElem?_set_ne (fun e => hij e.symm)] at ha
        rw [List.getElem?_set_ne (fun e => hij' e.symm)] at hb
        exact h.dis i i' a b hii ha hb k hka hkb
theorem Has.add {N : Nat} {S st st' : St} {H : List Ent} {e' : Ent} (h : Has N S st H)
    (hlow : ∀ k, k < st.bs.length → st'.bs[k]? = st.bs[k]?) (hlen : st.bs.length ≤ st'.bs.length) (hf : st'.flr = st.flr) (hr : st'.ro = st.ro)
    (hP : e'.P st') (hK : ∀ k, e'.K k → st.bs.length ≤ k ∧ k < st'.bs.length) : Has N S st' (e' :: H) := by
  have hl := h.ex.len
  have hN := h.hN
  refine ⟨⟨fun k hk => ?_, Nat.le_trans hl hlen, hf.trans h.ex.flr, hr.trans h.ex.ro⟩, h.hN, h.hro, fun i e0 hi => ?_, fun i i' a b hii ha hb k hka hkb => ?_⟩
  · rw [hlow k (by omega)]; exact h.ex.low k hk
  · cases i with
    | zero =>
      simp only [List.getElem?_cons_zero, Option.some.injEq] at hi
      subst hi
      exact ⟨hP, fun k hk => ⟨by have := (hK k hk).1; omega, (hK k hk).2⟩⟩
    | succ i =>
      rw [List.getElem?_cons_succ] at hi
      obtain ⟨h1, h2⟩ := h.ok i e0 hi
      exact ⟨e0.loc (fun k hk => hlow k (h2 k hk).2) h1, fun k hk => ⟨(h2 k hk).1, Nat.lt_of_lt_of_le (h2 k hk).2 hlen⟩⟩
  · cases i with
    | zero =>
      simp only [List.getElem?_cons_zero, Option.some.injEq] at ha
      subst ha
      cases i' with
      | zero => exact hii rfl
      | succ i' =>
        rw [List.getElem?_cons_succ] at hb
        have := ((h.ok i' b hb).2 k hkb).2
        have := (hK k hka).1; omega
    | succ i =>
      rw [List.getElem?_cons_succ] at ha
      cases i' with
      | zero =>
        simp only [List.getElem?_cons_zero, Option.some.injEq] at hb
        subst hb
        have := ((h.ok i a ha).2 k hka).2
        have := (hK k hkb).1; omega
      | succ i' =>
        rw [List.getElem?_cons_succ] at hb
        exact h.dis i i' a b (fun e => hii (by rw [e])) ha hb k hka hkb
theorem Has.sub {N : Nat} {S st : St} {H H' : List Ent} (h : Has N S st H) (f : Nat → Nat) (hf : ∀ i j, f i = f j → i = j) (hs : ∀ i e, H'[i]? = some e → H[f i]? = some e) : Has N S st H' :=
  ⟨h.ex, h.hN, h.hro, fun i e hi => h.ok _ e (hs i e hi), fun i j a b hij ha hb => h.dis (f i) (f j) a b (fun e => hij (hf i j e)) (hs i a ha) (hs j b hb)⟩
theorem Has.erase {N : Nat} {S st : St} {H : List Ent} (h : Has N S st H) (j : Nat) : Has N S st (H.eraseIdx j) := by
  refine h.sub (fun i => if i < j then i else i + 1) (fun a b e => ?_) fun i e hi => ?_
  · show a = b
    have e' : (if a < j then a else a + 1) = (if b < j then b else b + 1) := e
    split at e' <;> split at e' <;> omega
  · show H[if i < j then i else i + 1]? = some e
    rw [List.getElem?_eraseIdx] at hi
    split at hi <;> rename_i h' <;> simp [h', hi]
theorem Has.take {N : Nat} {S st : St} {H : List Ent} (h : Has N S st H) (n : Nat) : Has N S st (H.take n) := by
  refine h.sub id (fun a b e => e) fun i e hi => ?_
  rw [List.getElem?_take] at hi; split at hi; exact hi; cases hi
theorem Has.drop {N : Nat} {S st : St} {H : List Ent} (h : Has N S st H) (n : Nat) : Has N S st (H.drop n) := by
  refine h.sub (fun i => n + i) (fun a b e => by omega) fun i e hi => ?_
  rw [List.getElem?_drop] at hi; exact hi
theorem Has.back {N : Nat} {S st : St} {H : List Ent} {j : Nat} {e : Ent} (h : Has N S st (e :: H.eraseIdx j)) (hj : j < H.length) : Has N S st (H.set j e) := by
  refine h.sub (fun i => if i = j then 0 else if i < j then i + 1 else i) (fun a b e => ?_) fun i e' hi => ?_
  · have e' : (if a = j then 0 else if a < j then a + 1 else a) = (if b = j then 0 else if b < j then b + 1 else b) := e
    repeat' split at e'
    all_goals omega
  · show (e :: H.eraseIdx j)[if i = j then 0 else if i < j then i + 1 else i]? = some e'
    by_cases hij : i = j
    · subst hij
      rw [List.getElem?_set_self hj] at hi
      rw [if_pos rfl]; simpa using hi
    · rw [List.getElem?_set_ne (fun e => hij e.symm)] at hi
      rw [if_neg hij]
      by_cases hlt : i < j
      · rw [if_pos hlt, List.getElem?_cons_succ, List.getElem?_eraseIdx, if_pos hlt]; exact hi
      · rw [if_neg hlt]
        obtain ⟨i', rfl⟩ : ∃ i', i = i' + 1 := ⟨i - 1, by omega⟩
        rw [List.getElem?_cons_succ, List.getElem?_eraseIdx, if_neg (by omega)]; exact hi
theorem Has.nulE {N : Nat} {S st : St} {H : List Ent} (h : Has N S st H) (s : Nat) : Has N S st (.lst .nul s [] :: H) :=
  h.add (fun _ _ => rfl) (Nat.le_refl _) rfl rfl .nul fun k hk => by simp only [Ent.lst, D.ref] at hk; omega
theorem Has.own {N : Nat} {S st : St} {H : List Ent} (h : Has N S st H) {j : Nat} {x : D} {s : Nat} {es : List (List D)} (hj : H[j]? = some (.lst x s es)) : OwnP st s x es := (h.ok j _ hj).1
theorem Has.rows {N : Nat} {S st : St} {H : List Ent} (h : Has N S st H) {j : Nat} {x : D} {s : Nat} {es : List (List D)} (hj : H[j]? = some (.lst x s es)) : Rows st s x es := (h.own hj).rows
theorem Has.at {N : Nat} {S st : St} {H : List Ent} (h : Has N S st H) {j k : Nat} {b : Box} (hj : H[j]? = some (.box k b)) : st.bs[k]? = some b := (h.ok j _ hj).1
theorem Has.ge {N : Nat} {S st : St} {H : List Ent} (h : Has N S st H) {j k : Nat} {b : Box} (hj : H[j]? = some (.box k b)) : N ≤ k ∧ k < st.bs.length := (h.ok j _ hj).2 k rfl
def Arg (N : Nat) (S : St) (s : Nat) (x : D) (es : List (List D)) : Prop := Rows S s x es ∧ x.ref ≤ N
theorem Arg.rows {N : Nat} {S st : St} {H : List Ent} {s : Nat} {x : D} {es : List (List D)} (hx : Arg N S s x es) (h : Has N S st H) : Rows st s x es := hx.1.ex h.ex hx.2
theorem Arg.of {st S : St} {s : Nat} {x : D} {es : List (List D)} (hx : Rows st s x es) (hS : S.bs = st.bs) : Arg st.bs.length S s x es := ⟨hx.bs hS, hx.ref⟩
theorem Arg.pure {N : Nat} {S : St} {s : Nat} {es : List D} {rs : List (List D)} (hx : ∀ st, Rows st s (.sl es) rs) : Arg N S s (.sl es) rs := ⟨hx S, by simp [D.ref]⟩
theorem canW_has {N : Nat} {S st : St} {H : List Ent} (h : Has N S st H) {k : Nat} {cs : List D} (hk : N ≤ k) (hw : S.flr ≤ N ∨ refs cs = 0) : st.canW k (refs cs) = true := by
  have h1 := h.ex.ro
  have h2 := h.ex.flr
  have h3 := h.hro
  simp only [St.canW, Bool.and_eq_true, Bool.or_eq_true, decide_eq_true_eq]
  refine ⟨by omega, ?_⟩
  rcases hw with hw | hw
  · exact .inl (by omega)
  · exact .inr (.inl (by omega))
theorem Has.setBox {N : Nat} {S st : St} {H : List Ent} (h : Has N S st H) {j k ver : Nat} {b b' : Box} (hj : H[j]? = some (.box k b)) : Has N S ⟨st.bs.set k b', st.flr, st.ro⟩ (H.set j (.box k b')) := by
  have hk := (h.ge hj).2
  refine h.upd hj (fun i hi hne => ?_) (by simp) rfl rfl ?_ (fun i hi => .inl hi) fun i hi => ?_
  · simp only; rw [List.getElem?_set_ne (fun e => hne e.symm)]
  · show (st.bs.set k b')[k]? = _
    rw [List.getElem?_set_self hk]
  · cases hi; simpa using hk
theorem Has.pushBox {N : Nat} {S st : St} {H : List Ent} (h : Has N S st H) (b : Box) : Has N S (st.push b) (.box st.bs.length b :: H) := by
  refine h.add (fun i hi => ?_) (by simp [St.push]) rfl rfl ?_ fun i hi => ?_
  · simp only [St.push]; rw [List.getElem?_append_left hi]
  · exact push_at st b
  · cases hi; simp [St.push]
theorem Has.pushLst {N : Nat} {S st : St} {H : List Ent} (h : Has N S st H) {s : Nat} {es : List (List D)} {cs : List D} {m : Nat} (hm : es.length = m) (hc : es.flatten = cs) (he : ∀ e ∈ es, e.length = s) : Has N S (st.push (.mem 0 true cs)) (.lst (.win st.bs.length 0 0 m s) s es :: H) := by
  subst hm hc
  refine h.add (fun i hi => ?_) (by simp [St.push]) rfl rfl ?_ fun i hi => ?_
  · simp only [St.push]; rw [List.getElem?_append_left hi]
  · have hfl := flat_len he
    exact OwnP.win _ 0 0 es es.flatten (push_at st _) (by rw [hfl]; omega) (by rw [List.drop_zero, ← hfl, List.take_length]) he
  · simp only [Ent.lst, D.ref] at hi; simp only [St.push, List.length_append, List.length_cons, List.length_nil]; omega
theorem setMany_len : ∀ (xs c : List D) (off : Nat), (setMany c off xs).length = c.length
  | [], c, off => rfl
  | x :: xs, c, off => by simp only [setMany]; rw [setMany_len xs]; simp
theorem flatten_set {s : Nat} : ∀ {es : List (List D)} {i : Nat} {e e' : List D}, (∀ e ∈ es, e.length = s) → es[i]? = some e → e'.length = s → (es.set i e').flatten = es.flatten.take (i * s) ++ e' ++ es.flatten.drop (i * s + s)
  | [], i, e, e', _, hi, _ => by simp at hi
  | x :: es, 0, e, e', h, hi, he => by
    simp at hi; subst hi
    have := h x (List.mem_cons_self ..)
    simp [List.set_cons_zero, List.drop_left' this]
  | x :: es, i + 1, e, e', h, hi, he => by
    have hx := h x (List.mem_cons_self ..)
    have ih := flatten_set (s := s) (es := es) (i := i) (e := e) (e' := e') (fun y hy => h y (List.mem_cons_of_mem _ hy)) (by simpa using hi) he
    rw [List.set_cons_succ, List.flatten_cons, ih, List.flatten_cons, Nat.add_mul, Nat.one_mul, Nat.add_comm (i * s) s, ← hx, List.take_length_add_append, Nat.add_assoc, List.drop_length_add_append]
    simp only [List.append_assoc]
    rw [Nat.add_comm (i * x.length) x.length]
theorem Has.setElem {N : Nat} {S st : St} {H : List Ent} (h : Has N S st H) {j k ver off len s : Nat} {es : List (List D)} {i o : Nat} {e cs : List D} (hj : H[j]? = some (.lst (.win k ver off len s) s es)) (hi : es[i]? = some e) (hl : o + cs.length ≤ s) (hw : S.flr ≤ N ∨ refs cs = 0) :
    ∃ st', st.wr k ver (off + i * s + o) cs = some st' ∧ Has N S st' (H.set j (.lst (.win k ver off len s) s (es.set i (setMany e o cs)))) := by
  have hk := (h.ok j _ hj).2 k (by simp only [Ent.lst, D.ref])
  have hown := h.own hj
  cases hown with
  | win k ver off es c hm hle hc he =>
    have hil : i < es.length := by
      rcases Nat.lt_or_ge i es.length with h' | h'
      · exact h'
      · rw [List.getElem?_eq_none h'] at hi; cases hi
    have hel := he e (List.mem_of_getElem? hi)
    have h2 : (i + 1) * s ≤ es.length * s := Nat.mul_le_mul_right s hil
    rw [Nat.add_mul, Nat.one_mul] at h2
    refine ⟨_, wr_own hm (by omega) (canW_has h hk.1 hw), ?_⟩
    refine h.upd hj (fun n hn hne => ?_) (by simp) rfl rfl ?_ (fun n hn => .inl hn) fun n hn => ?_
    · simp only; rw [List.getElem?_set_ne (fun e => hne (by simp only [Ent.lst, D.ref]; omega))]
    · have hlen' : ∀ e' ∈ es.set i (setMany e o cs), e'.length = s := by
        intro e' he'
        rcases List.mem_or_eq_of_mem_set he' with h' | h'
        · exact he e' h'
        · rw [h', setMany_len]; exact hel
      have hfl : es.flatten.length = es.length * s := flat_len he
      have := OwnP.win (st := ⟨st.bs.set k (.mem ver true (c.take (off + i * s + o) ++ cs ++ c.drop (off + i * s + o + cs.length))), st.flr, st.ro⟩) (s := s) k ver off (es.set i (setMany e o cs)) (c.take (off + i * s + o) ++ cs ++ c.drop (off + i * s + o + cs.length))
        (by simp only; rw [List.getElem?_set_self hk.2]) (by simp; omega) ?_ hlen'
      · rw [List.length_set] at this; exact this
      · rw [List.length_set, flatten_set he hi (by rw [setMany_len]; exact hel), setMany_eq cs e o (by omega)]
        have e1 : (c.take (off + i * s + o) ++ cs ++ c.drop (off + i * s + o + cs.length)).drop off = (c.drop off).take (i * s + o) ++ cs ++ (c.drop off).drop (i * s + o + cs.length) := by
          rw [List.append_assoc, List.drop_append_of_le_length (by simp; omega), List.drop_take, List.append_assoc, List.drop_drop]
          congr 3 <;> omega
        rw [e1]
        have e2 : (c.drop off).take (i * s + o) = es.flatten.take (i * s) ++ e.take o := by
          have : (c.drop off).take (i * s + o) = es.flatten.take (i * s + o) := by
            rw [← hc, List.take_take, Nat.min_eq_left (by omega)]
          rw [this, List.take_add]
          congr 1
          have := flat_at he i e hi
          rw [← this, List.take_take, Nat.min_eq_left (by omega)]
        have e3 : (List.drop (i * s + o + cs.length) (c.drop off)).take (es.length * s - (i * s + o + cs.length)) = e.drop (o + cs.length) ++ es.flatten.drop (i * s + s) := by
          have : (List.drop (i * s + o + cs.length) (c.drop off)).take (es.length * s - (i * s + o + cs.length)) = es.flatten.drop (i * s + o + cs.length) := by
            rw [← hc, List.drop_take]
          rw [this]
          have h4 := flat_at he i e hi
          rw [← h4, List.drop_take]
          have : es.flatten.drop (i * s + o + cs.length) = (es.flatten.drop (i * s + o + cs.length)).take (s - (o + cs.length)) ++ (es.flatten.drop (i * s + o + cs.length)).drop (s - (o + cs.length)) := (List.take_append_drop ..).symm
          rw [this, List.drop_drop, List.drop_drop]
          congr 2
          · congr 1; omega
          · omega
        rw [e2]
        have hlen2 : (es.flatten.take (i * s) ++ e.take o ++ cs).length = i * s + o + cs.length := by
          simp only [List.length_append, List.length_take, hfl, hel]; omega
        rw [List.take_append, hlen2, e3, List.take_of_length_le (by rw [hlen2]; omega)]
        simp [List.append_assoc]
    · simp only [Ent.lst, D.ref] at hn; simp only [List.length_set]; omega
end Go.V
namespace Go.V
theorem at0 {α : Type} {a : α} {l : List α} : (a :: l)[0]? = some a := rfl
theorem at1 {α : Type} {a b : α} {l : List α} : (a :: b :: l)[1]? = some b := rfl
theorem at2 {α : Type} {a b c : α} {l : List α} : (a :: b :: c :: l)[2]? = some c := rfl
theorem at3 {α : Type} {a b c d : α} {l : List α} : (a :: b :: c :: d :: l)[3]? = some d := rfl
theorem at4 {α : Type} {a b c d e : α} {l : List α} : (a :: b :: c :: d :: e :: l)[4]? = some e := rfl
theorem at5 {α : Type} {a b c d e f : α} {l : List α} : (a :: b :: c :: d :: e :: f :: l)[5]? = some f := rfl
theorem at6 {α : Type} {a b c d e f g : α} {l : List α} : (a :: b :: c :: d :: e :: f :: g :: l)[6]? = some g := rfl
theorem at7 {α : Type} {a b c d e f g h : α} {l : List α} : (a :: b :: c :: d :: e :: f :: g :: h :: l)[7]? = some h := rfl
def lookO (t : Nat) : List (Nat × D) → Option D
  | [] => none
  | (u, d) :: l => match Nat.beq t u with
    | true => some d
    | false => lookO t l
def ofValO : Value → Option D
  | .int k n => some (.int k n)
  | .bool b => some (.bool b)
  | .string s => some (.str s.data.toList)
  | .slice none 0 0 => some .nul
  | .pointer none => some .pnil
  | .nilFunc => some .nilfn
  | .nilIface => some .nilif
  | _ => none
def Fr.evO (f : Fr) : Operand → Option D
  | .tmp t => match Nat.ble f.n t with
    | false => f.loc[t]?
    | true => lookO t f.tmp
  | .const v => ofValO v
  | .func g => some (.fn g [])
  | .global _ => none
theorem lookO_look {t : Nat} {d : D} : ∀ {l : List (Nat × D)}, lookO t l = some d → look t l = d
  | (u, e) :: l, h => by
    unfold lookO at h
    unfold look
    split at h
    · rename_i hb; cases h; simp only [hb]
    · rename_i hb; simp only [hb]; exact lookO_look h
theorem nth_get {d e : D} : ∀ {l : List D} {i : Nat}, l[i]? = some d → nth e l i = d
  | x :: l, 0, h => by simpa [nth] using h
  | x :: l, i + 1, h => by rw [List.getElem?_cons_succ] at h; exact nth_get (l := l) h
  | [], i, h => by simp at h
theorem ev {fr : Fr} {o : Operand} {d : D} (h : fr.evO o = some d) : fr.ev o = d := by
  unfold Fr.evO at h
  unfold Fr.ev
  split at h
  · unfold Fr.get
    split at h
    · rename_i hb; simp only [hb]; exact nth_get h
    · rename_i hb; simp only [hb]; exact lookO_look h
  · unfold ofValO at h
    split at h <;> cases h <;> rfl
  · cases h; rfl
  · cases h
def PtTo (st : St) (p : D) (r : List D) : Prop :=
  (∃ k ver off ar c, p = .ptr k ver off ∧ st.mem? k ver = some (ar, c) ∧ (c.drop off).take r.length = r) ∨ ∃ c, p = .ep c ∧ c.take r.length = r
def EPtr (x : D) (s : Nat) (i o : Nat) (p : D) : Prop := ∃ k ver off len, x = .win k ver off len s ∧ p = .ptr k ver (off + i * s + o)
theorem takeD_pre {P : Pv} {t : TypeId} {r c : List D} {d : D} (hc : c.take r.length = r) (h : takeD P t r = some d) : takeD P t c = some d := by
  have hlen : r.length ≤ c.length := by have := congrArg List.length hc; simp at this; omega
  unfold takeD at h ⊢
  cases hu : P.und t with
  | none => rw [hu] at h; cases h
  | some u =>
    rw [hu] at h
    have key : ∀ n, n ≤ r.length → c.take n = r.take n := fun n hn => by rw [← hc, List.take_take, Nat.min_eq_left hn]
    cases u with
    | struct f =>
      simp only at h ⊢
      cases hs : szOf P t with
      | none => rw [hs] at h; cases h
      | some n =>
        rw [hs] at h
        simp only [Option.bind_some] at h ⊢
        split at h
        · rename_i hn; rw [if_pos (by omega), key n hn]; exact h
        · cases h
    | array m f =>
      simp only at h ⊢
      cases hs : szOf P t with
      | none => rw [hs] at h; cases h
      | some n =>
        rw [hs] at h
        simp only [Option.bind_some] at h ⊢
        split at h
        · rename_i hn; rw [if_pos (by omega), key n hn]; exact h
        · cases h
    | _ =>
      simp only at h ⊢
      cases r with
      | nil => cases h
      | cons y r =>
        cases c with
        | nil => simp at hlen
        | cons z c =>
          simp only [List.length_cons, List.take_succ_cons, List.cons.injEq] at hc
          rw [← h]; simp [hc.1]
theorem PtTo.load {P : Pv} {st : St} {p : D} {r : List D} (h : PtTo st p r) {t : TypeId} {d : D} (hd : takeD P t r = some d) : loadD P t p st = some d := by
  rcases h with ⟨k, ver, off, ar, c, rfl, hm, hc⟩ | ⟨c, rfl, hc⟩
  · simp only [loadD, hm, Option.bind_some]; exact takeD_pre hc hd
  · simp only [loadD]; exact takeD_pre hc hd
theorem PtTo.field {P : Pv} {st : St} {p : D} {r : List D} (h : PtTo st p r) {t : TypeId} {fields : Array Field} {f : Nat} {fd : Field} {m : Nat} (ht : P.und t = some (.struct fields)) (hf : fields[f]? = some fd) (hm : szOf P fd.type = some m) (hm0 : m ≠ 0) :
    ∃ p', fieldAddrD P t p f = some p' ∧ PtTo st p' (r.drop fd.offset) := by
  have key : ∀ c : List D, c.take r.length = r → (c.drop fd.offset).take (r.drop fd.offset).length = r.drop fd.offset := by
    intro c hc
    rw [List.length_drop, ← List.drop_take, hc]
  rcases h with ⟨k, ver, off, ar, c, rfl, hmm, hc⟩ | ⟨c, rfl, hc⟩
  · refine ⟨.ptr k ver (off + fd.offset), ?_, .inl ⟨k, ver, off + fd.offset, ar, c, rfl, hmm, ?_⟩⟩
    · simp only [fieldAddrD, ht, hf, Option.bind_some, hm]
      rw [if_neg (by simp only [Option.some.injEq]; exact hm0)]
    · rw [← List.drop_drop]; exact key _ hc
  · refine ⟨.ep (c.drop fd.offset), ?_, .inr ⟨_, rfl, key _ hc⟩⟩
    simp only [fieldAddrD, ht, hf, Option.bind_some, hm]
    rw [if_neg (by simp only [Option.some.injEq]; exact hm0)]
theorem Rows.ptTo {P : Pv} {st : St} {s : Nat} {x : D} {es : List (List D)} (h : Rows st s x es) {t e : TypeId} (ht : P.und t = some (.slice e)) (hs : szOf P e = some s) {k : IntKind} {i : Nat} {r : List D} (hi : es[i]? = some r) :
    ∃ p, indexAddrD P t x (.int k (i : Nat)) st = some p ∧ PtTo st p r := by
  have hrl := h.elen _ _ hi
  cases h with
  | nul => simp at hi
  | sl es h =>
    rw [List.getElem?_map] at hi
    obtain ⟨d, hd, rfl⟩ := Option.map_eq_some_iff.1 hi
    obtain ⟨h1, h2⟩ := h d (List.mem_of_getElem? hd)
    refine ⟨.ep d.cells, ?_, .inr ⟨_, rfl, List.take_length ..⟩⟩
    simp only [indexAddrD, ht, hs, Option.bind_some, if_pos (show (0 : Int) ≤ (i : Nat) by omega), Int.toNat_natCast, hd, h1, if_pos h2]
  | win k ver off es ar c hm hl he =>
    have hlt : i < es.length := by
      rcases Nat.lt_or_ge i es.length with h' | h'
      · exact h'
      · rw [List.getElem?_eq_none h'] at hi; cases hi
    refine ⟨.ptr k ver (off + i * s), ?_, .inl ⟨k, ver, _, ar, c, rfl, hm, by rw [hrl]; exact he _ _ hi⟩⟩
    simp only [indexAddrD, ht, hs, Option.bind_some, hm, Option.isSome_some]
    rw [if_pos ⟨trivial, by omega, by omega, trivial⟩]; rfl
variable {P : Pv} {ops : Array Oper} {rest : List Oper} {fr fr' : Fr} {st : St} {Q : Fr → St → Prop} {ty : TypeId} {pp : String} {a : Array Edge} {g : Option (Nat × Bool)} {dst : Nat} {N : Nat} {S : St} {H : List Ent}
theorem EvO.go {op : Op} {d : D} {st1 : St} (hg : wantD ops fr ⟨some dst, op, ty, pp, a, g⟩ = some true) (hc : isCall op = false) (h1 : opD P fr st op ty = some (d, st1)) (hp : fr.put dst d = fr')
    (h : EvO P ops rest fr' st1 Q) : EvO P ops (⟨some dst, op, ty, pp, a, g⟩ :: rest) fr st Q :=
  EvO.op hg hc h1 (by show EvO P ops rest (fr.put dst d) st1 Q; rw [hp]; exact h)
theorem EvO.hload {j k ver off : Nat} {ar : Bool} {c : List D} {d : D} {t : TypeId} {ao : Operand} (hH : Has N S st H) (hg : wantD ops fr ⟨some dst, .load t ao, ty, pp, a, g⟩ = some true) (ha : fr.ev ao = .ptr k ver off) (hj : H[j]? = some (.box k (.mem ver ar c))) (hd : takeD P t (c.drop off) = some d) (hp : fr.put dst d = fr')
    (h : EvO P ops rest fr' st Q) : EvO P ops (⟨some dst, .load t ao, ty, pp, a, g⟩ :: rest) fr st Q := by
  refine EvO.go hg rfl (d := d) (st1 := st) ?_ hp h
  simp only [opD, ha, loadD, St.mem_of (hH.at hj), Option.bind_some, hd, Option.map_some]
theorem EvO.hstore {j k ver off : Nat} {ar : Bool} {c cs : List D} {v : D} {t : TypeId} {ao vo : Operand} (hH : Has N S st H) (hg : wantD ops fr ⟨none, .store t ao vo, ty, pp, a, g⟩ = some true) (ha : fr.ev ao = .ptr k ver off) (hv : fr.ev vo = v) (hcs : v.cells? = some cs) (hs : szOf P t = some cs.length) (hj : H[j]? = some (.box k (.mem ver ar c))) (hl : off + cs.length ≤ c.length) (hw : S.flr ≤ N ∨ refs cs = 0)
    (h : ∀ st', Has N S st' (H.set j (.box k (.mem ver ar (setMany c off cs)))) → EvO P ops rest fr st' Q) : EvO P ops (⟨none, .store t ao vo, ty, pp, a, g⟩ :: rest) fr st Q := by
  refine EvO.N hg rfl (d := .tup []) (st1 := ⟨st.bs.set k (.mem ver ar (setMany c off cs)), st.flr, st.ro⟩) ?_ (h _ (hH.setBox (ver := ver) hj))
  simp only [opD, ha, hv, storeD, hcs, hs, if_pos trivial]
  rw [wr_own (hH.at hj) hl (canW_has hH (hH.ge hj).1 hw), setMany_eq _ _ _ hl]; rfl
theorem EvO.halloc {e : TypeId} {cs : List D} {fr' : Nat → Fr} (hH : Has N S st H) (hg : wantD ops fr ⟨some dst, .alloc e, ty, pp, a, g⟩ = some true) (hz : zeroC P e = some cs) (hp : ∀ k, fr.put dst (.ptr k 0 0) = fr' k)
    (h : ∀ k st', S.bs.length ≤ k → Has N S st' (.box k (.mem 0 false cs) :: H) → EvO P ops rest (fr' k) st' Q) : EvO P ops (⟨some dst, .alloc e, ty, pp, a, g⟩ :: rest) fr st Q := by
  refine EvO.go hg rfl (d := .ptr st.bs.length 0 0) (st1 := st.push (.mem 0 false cs)) ?_ (hp _) (h _ _ hH.len (hH.pushBox _))
  simp only [opD, hz, Option.map_some]
theorem EvO.hbox {e : TypeId} {xo : Operand} {cs : List D} {fr' : Nat → Fr} (hH : Has N S st H) (hg : wantD ops fr ⟨some dst, .box e xo, ty, pp, a, g⟩ = some true) (hz : (fr.ev xo).cells? = some cs) (hp : ∀ k, fr.put dst (.ptr k 0 0) = fr' k)
    (h : ∀ k st', S.bs.length ≤ k → Has N S st' (.box k (.mem 0 false cs) :: H) → EvO P ops rest (fr' k) st' Q) : EvO P ops (⟨some dst, .box e xo, ty, pp, a, g⟩ :: rest) fr st Q := by
  refine EvO.go hg rfl (d := .ptr st.bs.length 0 0) (st1 := st.push (.mem 0 false cs)) ?_ (hp _) (h _ _ hH.len (hH.pushBox _))
  simp only [opD, hz, Option.map_some]
theorem Has.append {j : Nat} {x y : D} {s : Nat} {es ys : List (List D)} (hH : Has N S st H) (hj : H[j]? = some (.lst x s es)) (hy : Rows st s y ys) {t1 t2 e : TypeId} {td : TypeDesc} {inf : TypeInfo} {z : List D}
    (h1 : P.und t1 = some (.slice e)) (h2 : P.und t2 = some td) (h3 : isIntT td = false) (h4 : P.info e = some inf) (h5 : zeroC P e = some z) (h6 : inf.size = s) (h7 : z.length = s) (h8 : 0 < inf.bytes ∧ inf.bytes ≤ 1024)
    (hb0 : es.length + ys.length ≤ 1073741824) (hw : S.flr ≤ N ∨ refs ys.flatten = 0) :
    ∃ x' st', builtinD P .append [t1, t2] [x, y] st = some (x', st') ∧ Has N S st' (H.set j (.lst x' s (es ++ ys))) ∧ (ys = [] → x' = x) := by
  have hb : (es.length + ys.length) * inf.bytes ≤ 1099511627776 := Nat.le_trans (Nat.mul_le_mul hb0 h8.2) (by decide)
  have hrow := hy.row
  have hyl : ∀ e ∈ ys, e.length = s := fun e he => by
    obtain ⟨i, hi⟩ := List.getElem?_of_mem he
    exact hy.elen i e hi
  have hfl := flat_len hyl
  have hown := hH.own hj
  have hkk := (hH.ok j _ hj).2
  have hS := hH.len
  have hNS := hH.hN
  subst h6
  simp only [builtinD, appendD, h1, h2, h3, Bool.false_eq_true, if_false, h4, h5, hrow, Option.bind_some]
  rw [if_neg (by rintro (h | h | h); exact h hfl; exact absurd h (by omega); exact h h7)]
  have hset : ∀ e, H[j]? = some e → H.set j e = H := fun e he => by
    apply List.ext_getElem?
    intro i
    by_cases hij : i = j
    · subst hij
      have : i < H.length := by
        rcases Nat.lt_or_ge i H.length with h' | h'
        · exact h'
        · rw [List.getElem?_eq_none h'] at he; cases he
      rw [List.getElem?_set_self this, he]
    · rw [List.getElem?_set_ne (fun e => hij e.symm)]
  cases hown with
  | nul =>
    simp only [List.nil_append]
    by_cases h0 : ys.length = 0
    · rw [if_pos h0]
      have : ys = [] := by cases ys with | nil => rfl | cons _ _ => simp at h0
      subst this
      exact ⟨.nul, st, rfl, by rw [hset _ hj]; exact hH, fun _ => rfl⟩
    · rw [if_neg h0, if_pos (by simpa using hb)]
      refine ⟨_, _, rfl, ?_, fun e => absurd (by rw [e]; rfl) h0⟩
      refine hH.upd hj (fun k hk _ => by simp only [St.push]; rw [List.getElem?_append_left hk]) (by simp [St.push]) rfl rfl ?_ (fun k hk => ?_) fun k hk => ?_
      · exact OwnP.win _ 0 0 ys ys.flatten (push_at st _) (by rw [hfl]; omega) (by rw [List.drop_zero, ← hfl, List.take_length]) hyl
      · simp only [Ent.lst, D.ref] at hk; right; omega
      · simp only [Ent.lst, D.ref] at hk; simp only [St.push, List.length_append, List.length_cons, List.length_nil]; omega
  | win k ver off es c hm hl hc he =>
    have hk := hkk k (by simp only [Ent.lst, D.ref])
    simp only [St.mem_of hm]
    rw [if_neg (by rintro (h | h); exact h rfl; omega)]
    by_cases h0 : ys.length = 0
    · rw [if_pos h0]
      have : ys = [] := by cases ys with | nil => rfl | cons _ _ => simp at h0
      subst this
      simp only [List.append_nil]
      exact ⟨_, st, rfl, by rw [hset _ hj]; exact hH, fun _ => rfl⟩
    · rw [if_neg h0, if_pos ⟨hb, canW_has hH hk.1 hw⟩]
      refine ⟨_, _, rfl, ?_, fun e => absurd (by rw [e]; rfl) h0⟩
      have hll : es.length + ys.length = (es ++ ys).length := by simp
      have hcc : (c.take (off + es.length * inf.size)).drop off = es.flatten := by rw [List.drop_take, ← hc]; congr 1; omega
      rw [hll, hcc]
      refine hH.upd hj (fun n hn hne => by simp only; rw [List.getElem?_set_ne (fun e => hne (by simp only [Ent.lst, D.ref]; omega))]) (by simp) rfl rfl ?_ (fun n hn => ?_) fun n hn => ?_
      · have hel : ∀ e ∈ es ++ ys, e.length = inf.size := fun e h => by
          rcases List.mem_append.1 h with h | h
          · exact he e h
          · exact hyl e h
        have hfl2 := flat_len hel
        refine OwnP.win k (ver + 1) 0 (es ++ ys) (es ++ ys).flatten ?_ (by rw [hfl2]; omega) (by rw [List.drop_zero, ← hfl2, List.take_length]) hel
        simp only; rw [List.getElem?_set_self hk.2, List.flatten_append]
      · simp only [Ent.lst, D.ref] at hn ⊢; left; omega
      · simp only [Ent.lst, D.ref] at hn; simp only [List.length_set]; omega
theorem EvO.happend {j : Nat} {x y : D} {s : Nat} {es ys : List (List D)} {t1 t2 e : TypeId} {td : TypeDesc} {inf : TypeInfo} {z : List D} {xo yo : Operand} {fr' : D → Fr} (hH : Has N S st H) (hg : wantD ops fr ⟨some dst, .call ⟨.builtin .append, #[xo, yo], #[t1, t2]⟩, ty, pp, a, g⟩ = some true)
    (hx : fr.ev xo = x) (hy : fr.ev yo = y) (hj : H[j]? = some (.lst x s es)) (hys : Rows st s y ys)
    (h1 : P.und t1 = some (.slice e)) (h2 : P.und t2 = some td) (h3 : isIntT td = false) (h4 : P.info e = some inf) (h5 : zeroC P e = some z) (h6 : inf.size = s) (h7 : z.length = s) (h8 : 0 < inf.bytes ∧ inf.bytes ≤ 1024)
    (hp : ∀ x', fr.put dst x' = fr' x') (hb : es.length + ys.length ≤ 1073741824) (hw : S.flr ≤ N ∨ refs ys.flatten = 0)
    (h : ∀ x' st', Has N S st' (H.set j (.lst x' s (es ++ ys))) → EvO P ops rest (fr' x') st' Q) :
    EvO P ops (⟨some dst, .call ⟨.builtin .append, #[xo, yo], #[t1, t2]⟩, ty, pp, a, g⟩ :: rest) fr st Q := by
  obtain ⟨x', st', q1, q2, q3⟩ := hH.append hj hys h1 h2 h3 h4 h5 h6 h7 h8 hb hw
  refine EvO.go hg rfl (d := x') (st1 := st') ?_ (hp _) (h x' st' q2)
  simp only [opD, List.map_cons, List.map_nil, hx, hy]
  exact q1
theorem EvO.rlen {t e : TypeId} {xo : Operand} {x : D} {s : Nat} {es : List (List D)} (hg : wantD ops fr ⟨some dst, .call ⟨.builtin .len, #[xo], #[t]⟩, ty, pp, a, g⟩ = some true) (hx : fr.ev xo = x) (hR : Rows st s x es) (ht : P.und t = some (.slice e)) (hp : fr.put dst (.int .i64 (es.length : Nat)) = fr')
    (h : EvO P ops rest fr' st Q) : EvO P ops (⟨some dst, .call ⟨.builtin .len, #[xo], #[t]⟩, ty, pp, a, g⟩ :: rest) fr st Q := by
  refine EvO.go hg rfl (d := .int .i64 (es.length : Nat)) (st1 := st) ?_ hp h
  simp only [opD, List.map_cons, List.map_nil, hx]
  exact hR.opLen ht
theorem EvO.slen {t : TypeId} {xo : Operand} {b : List UInt8} (hg : wantD ops fr ⟨some dst, .call ⟨.builtin .len, #[xo], #[t]⟩, ty, pp, a, g⟩ = some true) (hx : fr.ev xo = .str b) (ht : P.und t = some .string) (hp : fr.put dst (.int .i64 (b.length : Nat)) = fr')
    (h : EvO P ops rest fr' st Q) : EvO P ops (⟨some dst, .call ⟨.builtin .len, #[xo], #[t]⟩, ty, pp, a, g⟩ :: rest) fr st Q := by
  refine EvO.go hg rfl (d := .int .i64 (b.length : Nat)) (st1 := st) ?_ hp h
  simp only [opD, List.map_cons, List.map_nil, hx, builtinD, ht]
theorem EvO.ridx {t e : TypeId} {xo io : Operand} {x : D} {s i : Nat} {kk : IntKind} {es : List (List D)} {r : List D} {fr' : D → Fr} (hg : wantD ops fr ⟨some dst, .indexAddr t xo io, ty, pp, a, g⟩ = some true) (hx : fr.ev xo = x) (hi : fr.ev io = .int kk (i : Nat)) (hR : Rows st s x es) (ht : P.und t = some (.slice e)) (hs : szOf P e = some s) (hr : es[i]? = some r) (hp : ∀ p, fr.put dst p = fr' p)
    (h : ∀ p, PtTo st p r → EvO P ops rest (fr' p) st Q) : EvO P ops (⟨some dst, .indexAddr t xo io, ty, pp, a, g⟩ :: rest) fr st Q := by
  obtain ⟨p, h1, h2⟩ := hR.ptTo ht hs (k := kk) hr
  refine EvO.go hg rfl (d := p) (st1 := st) ?_ (hp p) (h p h2)
  simp only [opD, hx, hi, h1, Option.map_some]
theorem EvO.rfield {t : TypeId} {xo : Operand} {x : D} {r : List D} {f m : Nat} {fields : Array Field} {fd : Field} {fr' : D → Fr} (hg : wantD ops fr ⟨some dst, .fieldAddr t xo f, ty, pp, a, g⟩ = some true) (hx : fr.ev xo = x) (hR : PtTo st x r) (ht : P.und t = some (.struct fields)) (hf : fields[f]? = some fd) (hm : szOf P fd.type = some m) (hm0 : m ≠ 0) (hp : ∀ p, fr.put dst p = fr' p)
    (h : ∀ p, PtTo st p (r.drop fd.offset) → EvO P ops rest (fr' p) st Q) : EvO P ops (⟨some dst, .fieldAddr t xo f, ty, pp, a, g⟩ :: rest) fr st Q := by
  obtain ⟨p, h1, h2⟩ := hR.field ht hf hm hm0
  refine EvO.go hg rfl (d := p) (st1 := st) ?_ (hp p) (h p h2)
  simp only [opD, hx, h1, Option.map_some]
theorem EvO.rload {t : TypeId} {ao : Operand} {x d : D} {r : List D} (hg : wantD ops fr ⟨some dst, .load t ao, ty, pp, a, g⟩ = some true) (ha : fr.ev ao = x) (hR : PtTo st x r) (hd : takeD P t r = some d) (hp : fr.put dst d = fr')
    (h : EvO P ops rest fr' st Q) : EvO P ops (⟨some dst, .load t ao, ty, pp, a, g⟩ :: rest) fr st Q := by
  refine EvO.go hg rfl (d := d) (st1 := st) ?_ hp h
  simp only [opD, ha, hR.load hd, Option.map_some]
theorem EvO.oidx {t e : TypeId} {xo io : Operand} {x : D} {s i j : Nat} {kk : IntKind} {es : List (List D)} {fr' : D → Fr} (hH : Has N S st H) (hg : wantD ops fr ⟨some dst, .indexAddr t xo io, ty, pp, a, g⟩ = some true) (hx : fr.ev xo = x) (hi : fr.ev io = .int kk (i : Nat)) (hj : H[j]? = some (.lst x s es)) (ht : P.und t = some (.slice e)) (hs : szOf P e = some s) (hr : i < es.length) (hp : ∀ p, fr.put dst p = fr' p)
    (h : ∀ p, EPtr x s i 0 p → EvO P ops rest (fr' p) st Q) : EvO P ops (⟨some dst, .indexAddr t xo io, ty, pp, a, g⟩ :: rest) fr st Q := by
  have hown := hH.own hj
  cases hown with
  | nul => simp at hr
  | win k ver off es c hm hl hc he =>
    refine EvO.go hg rfl (d := .ptr k ver (off + i * s)) (st1 := st) ?_ (hp _) (h _ ⟨k, ver, off, _, rfl, rfl⟩)
    simp only [opD, hx, hi, indexAddrD, ht, hs, Option.bind_some, St.mem_of hm, Option.isSome_some]
    rw [if_pos ⟨trivial, by omega, by omega, trivial⟩]; rfl
theorem EvO.ofield {t : TypeId} {xo : Operand} {x y : D} {s i o : Nat} {f m : Nat} {fields : Array Field} {fd : Field} {fr' : D → Fr} (hg : wantD ops fr ⟨some dst, .fieldAddr t xo f, ty, pp, a, g⟩ = some true) (hx : fr.ev xo = y) (hR : EPtr x s i o y) (ht : P.und t = some (.struct fields)) (hf : fields[f]? = some fd) (hm : szOf P fd.type = some m) (hm0 : m ≠ 0) (hp : ∀ p, fr.put dst p = fr' p)
    (h : ∀ p, EPtr x s i (o + fd.offset) p → EvO P ops rest (fr' p) st Q) : EvO P ops (⟨some dst, .fieldAddr t xo f, ty, pp, a, g⟩ :: rest) fr st Q := by
  obtain ⟨k, ver, off, len, h1, h2⟩ := hR
  refine EvO.go hg rfl (d := .ptr k ver (off + i * s + (o + fd.offset))) (st1 := st) ?_ (hp _) (h _ ⟨k, ver, off, len, h1, rfl⟩)
  simp only [opD, hx, h2, fieldAddrD, ht, hf, Option.bind_some, hm]
  rw [if_neg (by simp only [Option.some.injEq]; exact hm0), ← Nat.add_assoc]; rfl
theorem EvO.oload {t : TypeId} {ao : Operand} {x y d : D} {s i o j : Nat} {es : List (List D)} {r : List D} (hH : Has N S st H) (hg : wantD ops fr ⟨some dst, .load t ao, ty, pp, a, g⟩ = some true) (ha : fr.ev ao = y) (hR : EPtr x s i o y) (hj : H[j]? = some (.lst x s es)) (hr : es[i]? = some r) (hd : takeD P t (r.drop o) = some d) (hp : fr.put dst d = fr')
    (h : EvO P ops rest fr' st Q) : EvO P ops (⟨some dst, .load t ao, ty, pp, a, g⟩ :: rest) fr st Q := by
  obtain ⟨k, ver, off, len, rfl, rfl⟩ := hR
  have hown := hH.own hj
  cases hown with
  | win k ver off es c hm hl hc he =>
    refine EvO.go hg rfl (d := d) (st1 := st) ?_ hp h
    have h1 := flat_at he i r hr
    have hil : i < es.length := by
      rcases Nat.lt_or_ge i es.length with h' | h'
      · exact h'
      · rw [List.getElem?_eq_none h'] at hr; cases hr
    have h2 : (i + 1) * s ≤ es.length * s := Nat.mul_le_mul_right s hil
    rw [Nat.add_mul, Nat.one_mul] at h2
    rw [← hc, List.drop_take, List.take_take, List.drop_drop, Nat.min_eq_left (by omega)] at h1
    have hrl := he r (List.mem_of_getElem? hr)
    simp only [opD, ha, loadD, St.mem_of hm, Option.bind_some]
    rw [takeD_pre (r := r.drop o) ?_ hd]; rfl
    rw [List.length_drop, hrl, ← h1, List.drop_take, List.drop_drop]
theorem EvO.rslice {t e : TypeId} {xo : Operand} {lo hi : Option Operand} {x : D} {s : Nat} {es : List (List D)} {l r : Nat} {fr' : D → Fr} (hg : wantD ops fr ⟨some dst, .slice t xo lo hi none, ty, pp, a, g⟩ = some true) (hx : fr.ev xo = x) (hR : Arg N S s x es) (hH : Has N S st H) (ht : P.und t = some (.slice e)) (hs : szOf P e = some s)
    (hb : boundsD es.length (lo.map fr.ev) (hi.map fr.ev) = some (l, r)) (hlr : l ≤ r ∧ r ≤ es.length) (hp : ∀ y, fr.put dst y = fr' y)
    (h : ∀ y, Arg N S s y ((es.take r).drop l) → EvO P ops rest (fr' y) st Q) : EvO P ops (⟨some dst, .slice t xo lo hi none, ty, pp, a, g⟩ :: rest) fr st Q := by
  obtain ⟨y, h1, h2, h3⟩ := hR.1.slice ht hs hb hlr
  refine EvO.go hg rfl (d := y) (st1 := st) ?_ (hp y) (h y ⟨h2, Nat.le_trans h3 hR.2⟩)
  have : sliceD P t x (lo.map fr.ev) (hi.map fr.ev) st = sliceD P t x (lo.map fr.ev) (hi.map fr.ev) S := by
    have := hR.1
    cases this <;> simp only [sliceD, ht]
  simp only [opD, hx, this, h1, Option.map_some]
theorem EvO.oslice {t e : TypeId} {xo : Operand} {lo hi : Option Operand} {x : D} {s j : Nat} {es : List (List D)} {l r : Nat} {fr' : D → Fr} (hH : Has N S st H) (hg : wantD ops fr ⟨some dst, .slice t xo lo hi none, ty, pp, a, g⟩ = some true) (hx : fr.ev xo = x) (hj : H[j]? = some (.lst x s es)) (ht : P.und t = some (.slice e)) (hs : szOf P e = some s)
    (hb : boundsD es.length (lo.map fr.ev) (hi.map fr.ev) = some (l, r)) (hlr : l ≤ r ∧ r ≤ es.length) (hp : ∀ y, fr.put dst y = fr' y)
    (h : ∀ y, Has N S st (H.set j (.lst y s ((es.take r).drop l))) → EvO P ops rest (fr' y) st Q) : EvO P ops (⟨some dst, .slice t xo lo hi none, ty, pp, a, g⟩ :: rest) fr st Q := by
  have hown := hH.own hj
  cases hown with
  | nul =>
    simp only [List.length_nil] at hb hlr
    have hy : Has N S st (H.set j (.lst .nul s (([].take r).drop l))) := by
      refine hH.upd hj (fun _ _ _ => rfl) (Nat.le_refl _) rfl rfl (by simp; exact .nul) (fun k hk => .inl hk) fun k hk => by simp only [Ent.lst, D.ref] at hk; omega
    refine EvO.go hg rfl (d := .nul) (st1 := st) ?_ (hp _) (h _ hy)
    simp only [opD, hx, sliceD, ht, hs, Option.bind_some, hb, Option.map_some]
  | win k ver off es c hm hl hc he =>
    have hlen : ((es.take r).drop l).length = r - l := by simp; omega
    have h1 : l * s + (r - l) * s ≤ es.length * s := by rw [← Nat.add_mul]; exact Nat.mul_le_mul_right s (by omega)
    have hk := (hH.ok j _ hj).2 k (by simp only [Ent.lst, D.ref])
    have hy : Has N S st (H.set j (.lst (.win k ver (off + l * s) (r - l) s) s ((es.take r).drop l))) := by
      refine hH.upd hj (fun _ _ _ => rfl) (Nat.le_refl _) rfl rfl ?_ (fun k' hk' => .inl ?_) fun k' hk' => ?_
      · have := OwnP.win (st := st) (s := s) k ver (off + l * s) ((es.take r).drop l) c hm (by rw [hlen]; omega) ?_ (fun e he' => he e (List.mem_of_mem_take (List.mem_of_mem_drop he')))
        · rw [hlen] at this; exact this
        · rw [hlen]
          have hfl := flat_len he
          have e1 : ∀ n, n ≤ es.length → (es.take n).flatten = es.flatten.take (n * s) := by
            intro n hn
            have : es.flatten = (es.take n).flatten ++ (es.drop n).flatten := by rw [← List.flatten_append, List.take_append_drop]
            rw [this, List.take_left']
            rw [flat_len (s := s) (fun e he' => he e (List.mem_of_mem_take he')), List.length_take, Nat.min_eq_left hn]
          have e2 : ((es.take r).drop l).flatten = (es.take r).flatten.drop (l * s) := by
            have h2 : (es.take r).flatten = ((es.take r).take l).flatten ++ ((es.take r).drop l).flatten := by rw [← List.flatten_append, List.take_append_drop]
            rw [h2, List.drop_left']
            rw [flat_len (s := s) (fun e he' => he e (List.mem_of_mem_take (List.mem_of_mem_take he'))), List.length_take, List.length_take, Nat.min_eq_left (by omega)]
          rw [e2, e1 r hlr.2, ← hc, List.take_take, List.drop_take, List.drop_drop, Nat.sub_mul]
          congr 1
          have : r * s ≤ es.length * s := Nat.mul_le_mul_right s hlr.2
          rw [Nat.min_eq_left this]
      · simp only [Ent.lst, D.ref] at hk' ⊢; exact hk'
      · simp only [Ent.lst, D.ref] at hk'; omega
    refine EvO.go hg rfl (d := .win k ver (off + l * s) (r - l) s) (st1 := st) ?_ (hp _) (h _ hy)
    simp only [opD, hx, sliceD, ht, hs, Option.bind_some, hb, if_true, Option.map_some]
theorem EvO.hcall {f : Operand} {gn : Nat} {caps : List D} {args : Array Operand} {tys : Array TypeId} {d : D} {st1 : St} (hg : wantD ops fr ⟨some dst, .call ⟨.value f, args, tys⟩, ty, pp, a, g⟩ = some true) (hf : fr.ev f = .fn gn caps)
    (h1 : Ev P gn (args.toList.map fr.ev ++ caps) st d st1) (hp : fr.put dst d = fr')
    (h : EvO P ops rest fr' st1 Q) : EvO P ops (⟨some dst, .call ⟨.value f, args, tys⟩, ty, pp, a, g⟩ :: rest) fr st Q :=
  EvO.call hg hf h1 (by show EvO P ops rest (fr.put dst d) st1 Q; rw [hp]; exact h)
theorem leave_ro {m : Mode} {kn : Bool} {st st1 : St} {d d' : D} (hm : m ≠ .keep ∧ m ≠ .nw) (hS : S.bs = st.bs) (hH : Has st.bs.length S st1 H) (hd : freezeD st1 st.bs.length kn 16 d = some d') : leaveD m kn st st1 d = some (d', st) :=
  leave_same hm ((hH.ex.take (by rw [hS])).trans hS) hd
theorem Has.freeze {j : Nat} {x : D} {s : Nat} {es : List (List D)} (hH : Has N S st H) (hj : H[j]? = some (.lst x s es)) (hp : ∀ e ∈ es, ∀ d ∈ e, plainC d = true) {n : Nat} (hn : 2 ≤ n) : freezeD st N false (n + 1) x = some (.sl (es.map (elD s))) := by
  obtain ⟨n, rfl⟩ : ∃ m, n = m + 2 := ⟨n - 2, by omega⟩
  have hown := hH.own hj
  have hkk := (hH.ok j _ hj).2
  cases hown with
  | nul => rfl
  | win k ver off es c hm hl hc he =>
    have hk := hkk k (by simp only [Ent.lst, D.ref])
    show (if k < N then some (D.win k ver off es.length s) else pureD st N (n + 2) (.win k ver off es.length s)) = _
    rw [if_neg (show ¬ k < N by omega), pureD]
    simp only [if_neg (show ¬ k < N by omega), St.mem_of hm, Option.bind_some]
    rw [if_pos hl, hc, mapO_plain (fun d hd => by
      obtain ⟨e, he', hd'⟩ := List.mem_flatten.1 hd
      exact hp e he' d hd')]
    simp only [Option.map_some, chunk_flat he]
end Go.V
namespace Go.V
variable {P : Pv} {ops : Array Oper} {rest : List Oper} {fr fr' : Fr} {st : St} {Q : Fr → St → Prop} {ty : TypeId} {pp : String} {a : Array Edge} {g : Option (Nat × Bool)} {dst : Nat}
theorem wantD_is {o : Oper} {j t : Nat} {w v : Bool} (h1 : o.guard = some (j, w)) (h2 : (ops[j]?).bind (·.dst) = some t) (h3 : fr.get t = .bool v) (h4 : v = w) : wantD ops fr o = some true := by
  unfold wantD; simp only [h1, h2, h3, h4, beq_self_eq_true]
theorem wantD_not {o : Oper} {j t : Nat} {w v : Bool} (h1 : o.guard = some (j, w)) (h2 : (ops[j]?).bind (·.dst) = some t) (h3 : fr.get t = .bool v) (h4 : v = !w) : wantD ops fr o = some false := by
  unfold wantD; simp only [h1, h2, h3, h4]
  cases w <;> rfl
theorem EvO.skip {op : Op} (hg : wantD ops fr ⟨some dst, op, ty, pp, a, g⟩ = some false) (hp : fr.put dst (.tup []) = fr')
    (h : EvO P ops rest fr' st Q) : EvO P ops (⟨some dst, op, ty, pp, a, g⟩ :: rest) fr st Q :=
  EvO.off hg (by show EvO P ops rest (fr.put dst _) st Q; rw [hp]; exact h)
theorem EvO.two {l : List Oper} (t : Nat) {v : Bool} (hv : fr.get t = .bool v) (h1 : v = true → EvO P ops l fr st Q) (h2 : v = false → EvO P ops l fr st Q) : EvO P ops l fr st Q := by
  cases v
  · exact h2 rfl
  · exact h1 rfl
theorem EvO.pickT {c x y : Operand} {v : Bool} (hg : wantD ops fr ⟨some dst, .pick c x y, ty, pp, a, g⟩ = some true) (hc : fr.ev c = .bool v) (hv : v = true) (hp : fr.put dst (fr.ev x) = fr')
    (h : EvO P ops rest fr' st Q) : EvO P ops (⟨some dst, .pick c x y, ty, pp, a, g⟩ :: rest) fr st Q :=
  EvO.go hg rfl (by simp only [opD, hc, hv]) hp h
theorem EvO.pickF {c x y : Operand} {v : Bool} (hg : wantD ops fr ⟨some dst, .pick c x y, ty, pp, a, g⟩ = some true) (hc : fr.ev c = .bool v) (hv : v = false) (hp : fr.put dst (fr.ev y) = fr')
    (h : EvO P ops rest fr' st Q) : EvO P ops (⟨some dst, .pick c x y, ty, pp, a, g⟩ :: rest) fr st Q :=
  EvO.go hg rfl (by simp only [opD, hc, hv]) hp h
theorem EvC.cut {dy : Dy} {i : Nat} {l : List Oper} {d n loc loc' tmp st} {Q : Out → Fr → St → Prop} (t : Nat) (v : D)
    (h1 : EvO P l.toArray l ⟨n, loc, []⟩ st fun fr' st' => ∃ tmp, fr' = ⟨n, loc', tmp⟩ ∧ st' = st ∧ look t tmp = v) (h2 : ∀ tmp, look t tmp = v → Q .next ⟨n, loc', tmp⟩ st) (h0 : lookDy i dy = [] := by rfl) : EvC P dy (.region i l.toArray d) ⟨n, loc, tmp⟩ st Q := by
  refine EvC.reg ?_ h0
  unfold EvO at h1 ⊢
  obtain ⟨fr', st', h3, tmp', rfl, rfl, h4⟩ := h1
  exact ⟨_, _, h3, h2 _ h4⟩
theorem bounds_to {len n : Nat} {k : IntKind} (h : n ≤ len) : boundsD len none (some (.int k (n : Nat))) = some (0, n) := by
  simp only [boundsD, optBound, boundD, Option.bind_some]
  rw [if_pos ⟨by omega, by omega⟩]; rfl
theorem wrap_i32 {n : Int} (h1 : -2147483648 ≤ n) (h2 : n ≤ 2147483647) : wrapD .i32 n = n := by
  cases n with
  | ofNat m => exact wrap_nat (k := .i32) (m := m) (by simp only [maxN]; have : (Int.ofNat m) = (m : Int) := rfl; omega)
  | negSucc m =>
    unfold wrapD
    have : Nat.ble (minN .i32) m = false := by
      cases hb : Nat.ble (minN .i32) m with
      | false => rfl
      | true => have := Nat.le_of_ble_eq_true hb; simp only [minN] at this; have : Int.negSucc m = -(m : Int) - 1 := by omega
                omega
    simp only [this]
theorem maxI (x y : Int) : (if y > x then y else x) = max x y := by split <;> omega
theorem minI (x y : Int) : (if y < x then y else x) = min x y := by split <;> omega
theorem EvO.maxS {t1 t2 : TypeId} {xo yo : Operand} {k k' : IntKind} {x y : Int} {tys : Array TypeId} (hg : wantD ops fr ⟨some dst, .call ⟨.builtin .max, #[xo, yo], tys⟩, ty, pp, a, g⟩ = some true) (hx : fr.ev xo = .int k x) (hy : fr.ev yo = .int k' y) (hp : fr.put dst (.int k (max x y)) = fr')
    (h : EvO P ops rest fr' st Q) : EvO P ops (⟨some dst, .call ⟨.builtin .max, #[xo, yo], tys⟩, ty, pp, a, g⟩ :: rest) fr st Q := by
  refine EvO.go hg rfl (d := .int k (max x y)) (st1 := st) ?_ hp h
  simp only [opD, List.map_cons, List.map_nil, hx, hy, builtinD, foldD, min2D, Option.bind_some, Option.map_some, ← maxI]; rfl
theorem EvO.minS {t1 t2 : TypeId} {xo yo : Operand} {k k' : IntKind} {x y : Int} {tys : Array TypeId} (hg : wantD ops fr ⟨some dst, .call ⟨.builtin .min, #[xo, yo], tys⟩, ty, pp, a, g⟩ = some true) (hx : fr.ev xo = .int k x) (hy : fr.ev yo = .int k' y) (hp : fr.put dst (.int k (min x y)) = fr')
    (h : EvO P ops rest fr' st Q) : EvO P ops (⟨some dst, .call ⟨.builtin .min, #[xo, yo], tys⟩, ty, pp, a, g⟩ :: rest) fr st Q := by
  refine EvO.go hg rfl (d := .int k (min x y)) (st1 := st) ?_ hp h
  simp only [opD, List.map_cons, List.map_nil, hx, hy, builtinD, foldD, min2D, Option.bind_some, Option.map_some, ← minI]; rfl
theorem EvO.addS64 {t ty2 : TypeId} {xo yo : Operand} {x y : Int} (hg : wantD ops fr ⟨some dst, .binOp .add t xo yo ty2, ty, pp, a, g⟩ = some true) (hx : fr.ev xo = .int .i64 x) (hy : fr.ev yo = .int .i64 y) (h1 : -9223372036854775808 ≤ x + y) (h2 : x + y ≤ 9223372036854775807) (hp : fr.put dst (.int .i64 (x + y)) = fr')
    (h : EvO P ops rest fr' st Q) : EvO P ops (⟨some dst, .binOp .add t xo yo ty2, ty, pp, a, g⟩ :: rest) fr st Q := by
  refine EvO.go hg rfl (d := .int .i64 (x + y)) (st1 := st) ?_ hp h
  simp only [opD, hx, hy, binD, intD, if_pos trivial, Option.map_some, wrap_i64 h1 h2, reduceIte]
theorem EvO.subS64 {t ty2 : TypeId} {xo yo : Operand} {x y : Int} (hg : wantD ops fr ⟨some dst, .binOp .sub t xo yo ty2, ty, pp, a, g⟩ = some true) (hx : fr.ev xo = .int .i64 x) (hy : fr.ev yo = .int .i64 y) (h1 : -9223372036854775808 ≤ x - y) (h2 : x - y ≤ 9223372036854775807) (hp : fr.put dst (.int .i64 (x - y)) = fr')
    (h : EvO P ops rest fr' st Q) : EvO P ops (⟨some dst, .binOp .sub t xo yo ty2, ty, pp, a, g⟩ :: rest) fr st Q := by
  refine EvO.go hg rfl (d := .int .i64 (x - y)) (st1 := st) ?_ hp h
  simp only [opD, hx, hy, binD, intD, if_pos trivial, Option.map_some, wrap_i64 h1 h2, reduceIte]
theorem EvO.addS32 {t ty2 : TypeId} {xo yo : Operand} {x y : Int} (hg : wantD ops fr ⟨some dst, .binOp .add t xo yo ty2, ty, pp, a, g⟩ = some true) (hx : fr.ev xo = .int .i32 x) (hy : fr.ev yo = .int .i32 y) (h1 : -2147483648 ≤ x + y) (h2 : x + y ≤ 2147483647) (hp : fr.put dst (.int .i32 (x + y)) = fr')
    (h : EvO P ops rest fr' st Q) : EvO P ops (⟨some dst, .binOp .add t xo yo ty2, ty, pp, a, g⟩ :: rest) fr st Q := by
  refine EvO.go hg rfl (d := .int .i32 (x + y)) (st1 := st) ?_ hp h
  simp only [opD, hx, hy, binD, intD, if_pos trivial, Option.map_some, wrap_i32 h1 h2, reduceIte]
theorem EvO.subS32 {t ty2 : TypeId} {xo yo : Operand} {x y : Int} (hg : wantD ops fr ⟨some dst, .binOp .sub t xo yo ty2, ty, pp, a, g⟩ = some true) (hx : fr.ev xo = .int .i32 x) (hy : fr.ev yo = .int .i32 y) (h1 : -2147483648 ≤ x - y) (h2 : x - y ≤ 2147483647) (hp : fr.put dst (.int .i32 (x - y)) = fr')
    (h : EvO P ops rest fr' st Q) : EvO P ops (⟨some dst, .binOp .sub t xo yo ty2, ty, pp, a, g⟩ :: rest) fr st Q := by
  refine EvO.go hg rfl (d := .int .i32 (x - y)) (st1 := st) ?_ hp h
  simp only [opD, hx, hy, binD, intD, if_pos trivial, Option.map_some, wrap_i32 h1 h2, reduceIte]
theorem EvO.mv {op : Op} {x : Operand} {d : D} (hop : op = .move x ∨ op = .assign x) (hg : wantD ops fr ⟨some dst, op, ty, pp, a, g⟩ = some true) (hx : fr.ev x = d) (hp : fr.put dst d = fr')
    (h : EvO P ops rest fr' st Q) : EvO P ops (⟨some dst, op, ty, pp, a, g⟩ :: rest) fr st Q := by
  refine EvO.go hg ?_ (d := d) (st1 := st) ?_ hp h <;> rcases hop with rfl | rfl <;> first | rfl | simp only [opD, hx]
def fieldK (P : Pv) (fields : Array Field) (f : Nat) : Option (Nat × Option Nat) := (fields[f]?).map fun fd => (fd.offset, szOf P fd.type)
theorem fieldK_some {P : Pv} {fields : Array Field} {f fo m : Nat} (h : fieldK P fields f = some (fo, some m)) : ∃ fd, fields[f]? = some fd ∧ fd.offset = fo ∧ szOf P fd.type = some m := by
  unfold fieldK at h
  obtain ⟨fd, h1, h2⟩ := Option.map_eq_some_iff.1 h
  simp only [Prod.mk.injEq] at h2
  exact ⟨fd, h1, h2.1, h2.2⟩
theorem EvO.pfield {t : TypeId} {xo : Operand} {k ver off o f fo m : Nat} {fields : Array Field} (hg : wantD ops fr ⟨some dst, .fieldAddr t xo f, ty, pp, a, g⟩ = some true) (hx : fr.ev xo = .ptr k ver off) (ht : P.und t = some (.struct fields)) (hf : fieldK P fields f = some (fo, some (m + 1))) (ho : off + fo = o) (hp : fr.put dst (.ptr k ver o) = fr')
    (h : EvO P ops rest fr' st Q) : EvO P ops (⟨some dst, .fieldAddr t xo f, ty, pp, a, g⟩ :: rest) fr st Q := by
  obtain ⟨fd, h1, h2, h3⟩ := fieldK_some hf
  subst ho
  refine EvO.go hg rfl (d := .ptr k ver (off + fo)) (st1 := st) ?_ hp h
  simp only [opD, hx, fieldAddrD, ht, h1, Option.bind_some, h3, h2]
  rw [if_neg (by simp)]; rfl
theorem EvO.rfieldN {t : TypeId} {xo : Operand} {x : D} {r : List D} {f fo m : Nat} {fields : Array Field} {fr' : D → Fr} (hg : wantD ops fr ⟨some dst, .fieldAddr t xo f, ty, pp, a, g⟩ = some true) (hx : fr.ev xo = x) (hR : PtTo st x r) (ht : P.und t = some (.struct fields)) (hf : fieldK P fields f = some (fo, some (m + 1))) (hp : ∀ p, fr.put dst p = fr' p)
    (h : ∀ p, PtTo st p (r.drop fo) → EvO P ops rest (fr' p) st Q) : EvO P ops (⟨some dst, .fieldAddr t xo f, ty, pp, a, g⟩ :: rest) fr st Q := by
  obtain ⟨fd, h1, h2, h3⟩ := fieldK_some hf
  exact EvO.rfield hg hx hR ht h1 h3 (by omega) hp (by rw [h2]; exact h)
theorem EvO.ofieldN {t : TypeId} {xo : Operand} {x y : D} {s i o o2 : Nat} {f fo m : Nat} {fields : Array Field} {fr' : D → Fr} (hg : wantD ops fr ⟨some dst, .fieldAddr t xo f, ty, pp, a, g⟩ = some true) (hx : fr.ev xo = y) (hR : EPtr x s i o y) (ht : P.und t = some (.struct fields)) (hf : fieldK P fields f = some (fo, some (m + 1))) (ho : o + fo = o2) (hp : ∀ p, fr.put dst p = fr' p)
    (h : ∀ p, EPtr x s i o2 p → EvO P ops rest (fr' p) st Q) : EvO P ops (⟨some dst, .fieldAddr t xo f, ty, pp, a, g⟩ :: rest) fr st Q := by
  obtain ⟨fd, h1, h2, h3⟩ := fieldK_some hf
  subst ho
  exact EvO.ofield hg hx hR ht h1 h3 (by omega) hp (by rw [h2]; exact h)
theorem setMany_all {c cs : List D} (h : cs.length = c.length) : setMany c 0 cs = cs := by
  rw [setMany_eq cs c 0 (by omega), List.take_zero, List.nil_append, Nat.zero_add, h, List.drop_length, List.append_nil]
variable {N : Nat} {S : St} {H : List Ent}
theorem EvO.hstoreA {j k ver : Nat} {ar : Bool} {c cs : List D} {v : D} {t : TypeId} {ao vo : Operand} (hH : Has N S st H) (hg : wantD ops fr ⟨none, .store t ao vo, ty, pp, a, g⟩ = some true) (ha : fr.ev ao = .ptr k ver 0) (hv : fr.ev vo = v) (hcs : v.cells? = some cs) (hs : szOf P t = some cs.length) (hj : H[j]? = some (.box k (.mem ver ar c))) (hl : cs.length = c.length) (hw : S.flr ≤ N ∨ refs cs = 0)
    (h : ∀ st', Has N S st' (H.set j (.box k (.mem ver ar cs))) → EvO P ops rest fr st' Q) : EvO P ops (⟨none, .store t ao vo, ty, pp, a, g⟩ :: rest) fr st Q :=
  EvO.hstore hH hg ha hv hcs hs hj (by omega) hw (by rw [setMany_all hl]; exact h)
theorem fillD_all {place : Nat → Option (Nat × Nat)} {s : Nat} (hpl : ∀ i, place i = some (i * s, s)) : ∀ (vs : List D) (n : Nat) (done rem : List D), done.length = n * s → rem.length = vs.length * s → (∀ v ∈ vs, v.cells? = some v.cells ∧ v.cells.length = s) →
    fillD place (done ++ rem) (vs.mapIdx fun i v => (n + i, v)) = some (done ++ (vs.map D.cells).flatten)
  | [], n, done, rem, hd, hr, _ => by
    have : rem = [] := by cases rem with | nil => rfl | cons _ _ => simp at hr
    subst this; simp [fillD]
  | v :: vs, n, done, rem, hd, hr, hv => by
    obtain ⟨h1, h2⟩ := hv v (List.mem_cons_self ..)
    simp only [List.length_cons, Nat.add_mul, Nat.one_mul] at hr
    simp only [List.mapIdx_cons, fillD, hpl, h1, Nat.add_zero]
    rw [if_neg (by simp only [h2, ne_eq, not_true_eq_false, List.length_append, false_or]; rw [hd, hr]; omega)]
    have e1 : setMany (done ++ rem) (n * s) v.cells = (done ++ v.cells) ++ rem.drop s := by
      rw [setMany_eq _ _ _ (by simp only [List.length_append]; omega), h2, ← hd, List.take_left, List.drop_length_add_append]
    have ih := fillD_all hpl vs (n + 1) (done ++ v.cells) (rem.drop s) (by rw [List.length_append, hd, h2, Nat.add_mul, Nat.one_mul]) (by rw [List.length_drop]; omega) fun w hw => hv w (List.mem_cons_of_mem _ hw)
    rw [e1]
    have e2 : (vs.mapIdx fun i v => (n + (i + 1), v)) = vs.mapIdx fun i v => (n + 1 + i, v) := by congr 1; funext i v; rw [show n + (i + 1) = n + 1 + i by omega]
    rw [e2, ih]; simp [List.append_assoc]
def evAll (fr : Fr) : Nat → List (Nat × Operand) → List D → Prop
  | _, [], [] => True
  | n, (i, o) :: ps, v :: vs => i = n ∧ fr.ev o = v ∧ evAll fr (n + 1) ps vs
  | _, _, _ => False
theorem evAll_eq {fr : Fr} : ∀ {ps : List (Nat × Operand)} {vs : List D} {n : Nat}, evAll fr n ps vs → (ps.map fun p => (p.1, fr.ev p.2)) = vs.mapIdx fun i v => (n + i, v)
  | [], [], _, _ => rfl
  | (i, o) :: ps, v :: vs, n, h => by
    obtain ⟨h1, h2, h3⟩ := h
    have ih := evAll_eq h3
    simp only [List.map_cons, List.mapIdx_cons, Nat.add_zero]
    rw [ih, h1, h2]
    congr 1
    congr 1; funext i v; rw [show n + (i + 1) = n + 1 + i by omega]
  | [], _ :: _, _, h => h.elim
  | _ :: _, [], _, h => h.elim
theorem EvO.hlist {t e : TypeId} {m s : Nat} {parts : Array (Nat × Operand)} {z : List D} {vs : List D} {fr' : Nat → Fr} (hH : Has N S st H) (hg : wantD ops fr ⟨some dst, .buildSlice t m parts, ty, pp, a, g⟩ = some true) (ht : P.und t = some (.slice e)) (hs : szOf P e = some s) (hz : zeroC P e = some z) (hzl : z.length = s) (hm : m * s ≤ 16777216)
    (hva : evAll fr 0 parts.toList vs) (hvl : vs.length = m) (hc : ∀ v ∈ vs, v.cells? = some v.cells ∧ v.cells.length = s) (hp : ∀ k, fr.put dst (.win k 0 0 m s) = fr' k)
    (h : ∀ k st', S.bs.length ≤ k → Has N S st' (.lst (.win k 0 0 m s) s (vs.map D.cells) :: H) → EvO P ops rest (fr' k) st' Q) : EvO P ops (⟨some dst, .buildSlice t m parts, ty, pp, a, g⟩ :: rest) fr st Q := by
  have hvs := evAll_eq hva
  have hf := fillD_all (place := fun i => some (i * s, s)) (fun _ => rfl) vs 0 [] (repl m z) (by simp) (by simp [repl, hvl, hzl]) hc
  refine EvO.go hg rfl (d := .win st.bs.length 0 0 m s) (st1 := st.push (.mem 0 true (vs.map D.cells).flatten)) ?_ (hp _) (h _ _ hH.len (hH.pushLst (by simpa using hvl) rfl (fun e he => by
    obtain ⟨v, hv, rfl⟩ := List.mem_map.1 he
    exact (hc v hv).2)))
  simp only [opD, buildSliceD, ht, hs, hz, Option.bind_some]
  rw [if_pos ⟨hzl, hm⟩, hvs]
  simp only [List.nil_append] at hf
  rw [hf]; rfl
theorem EvO.hloadS {j k ver off m : Nat} {ar : Bool} {c r : List D} {t : TypeId} {ao : Operand} (hH : Has N S st H) (hg : wantD ops fr ⟨some dst, .load t ao, ty, pp, a, g⟩ = some true) (ha : fr.ev ao = .ptr k ver off) (hj : H[j]? = some (.box k (.mem ver ar c))) (hr : (c.drop off).take m = r) (hd : takeD P t r = some (.agg r)) (hm : r.length = m) (hp : fr.put dst (.agg r) = fr')
    (h : EvO P ops rest fr' st Q) : EvO P ops (⟨some dst, .load t ao, ty, pp, a, g⟩ :: rest) fr st Q :=
  EvO.hload hH hg ha hj (takeD_pre (r := r) (by rw [hm]; exact hr) hd) hp h
theorem lt_get {α : Type} {l : List α} {i : Nat} {a : α} (h : l[i]? = some a) : i < l.length := by
  rcases Nat.lt_or_ge i l.length with h' | h'
  · exact h'
  · rw [List.getElem?_eq_none h'] at h; cases h
theorem EvO.rloadS {t : TypeId} {ao : Operand} {x : D} {r : List D} (hg : wantD ops fr ⟨some dst, .load t ao, ty, pp, a, g⟩ = some true) (ha : fr.ev ao = x) (hR : PtTo st x r) (hd : takeD P t r = some (.agg r)) (hp : fr.put dst (.agg r) = fr')
    (h : EvO P ops rest fr' st Q) : EvO P ops (⟨some dst, .load t ao, ty, pp, a, g⟩ :: rest) fr st Q := EvO.rload hg ha hR hd hp h
theorem EvO.oloadS {t : TypeId} {ao : Operand} {x y : D} {s i j : Nat} {es : List (List D)} {r : List D} (hH : Has N S st H) (hg : wantD ops fr ⟨some dst, .load t ao, ty, pp, a, g⟩ = some true) (ha : fr.ev ao = y) (hR : EPtr x s i 0 y) (hj : H[j]? = some (.lst x s es)) (hr : es[i]? = some r) (hd : takeD P t r = some (.agg r)) (hp : fr.put dst (.agg r) = fr')
    (h : EvO P ops rest fr' st Q) : EvO P ops (⟨some dst, .load t ao, ty, pp, a, g⟩ :: rest) fr st Q := EvO.oload hH hg ha hR hj hr (by rw [List.drop_zero]; exact hd) hp h
theorem EvO.addZ {t ty2 : TypeId} {xo yo : Operand} {x y z : Int} {k : IntKind} (hg : wantD ops fr ⟨some dst, .binOp .add t xo yo ty2, ty, pp, a, g⟩ = some true) (hx : fr.ev xo = .int k x) (hy : fr.ev yo = .int k y) (hz : wrapD k (x + y) = z) (hp : fr.put dst (.int k z) = fr')
    (h : EvO P ops rest fr' st Q) : EvO P ops (⟨some dst, .binOp .add t xo yo ty2, ty, pp, a, g⟩ :: rest) fr st Q := by
  refine EvO.go hg rfl (d := .int k z) (st1 := st) ?_ hp h
  simp only [opD, hx, hy, binD, intD, if_pos trivial, Option.map_some, hz, reduceIte]
theorem EvO.subZ {t ty2 : TypeId} {xo yo : Operand} {x y z : Int} {k : IntKind} (hg : wantD ops fr ⟨some dst, .binOp .sub t xo yo ty2, ty, pp, a, g⟩ = some true) (hx : fr.ev xo = .int k x) (hy : fr.ev yo = .int k y) (hz : wrapD k (x - y) = z) (hp : fr.put dst (.int k z) = fr')
    (h : EvO P ops rest fr' st Q) : EvO P ops (⟨some dst, .binOp .sub t xo yo ty2, ty, pp, a, g⟩ :: rest) fr st Q := by
  refine EvO.go hg rfl (d := .int k z) (st1 := st) ?_ hp h
  simp only [opD, hx, hy, binD, intD, if_pos trivial, Option.map_some, hz, reduceIte]
theorem Ev.mkE {f : Nat} {x : Fi} {body : Code} {args : List D} {st : St} {n : Nat} {loc : List D} {Post : D → St → Prop} (hq : lookP f P.prm = none) (hf : P.fi f = some x) (hp : x.prim = none) (hb : x.fn.body = some body) (hpad : pad x.nloc args = ⟨n, loc, []⟩)
    (h : EvC P x.dyn body ⟨n, loc, []⟩ (enterSt x.mode st) fun o fr st1 => (∀ i, o ≠ .exit i) ∧ ∃ ds d st', resD P fr st1 x.fn.results.toList = some ds ∧ leaveD x.mode x.knul st st1 (tupD ds) = some (d, st') ∧ Post d st') : ∃ d st', Ev P f args st d st' ∧ Post d st' := by
  unfold EvC at h
  obtain ⟨o, fr', st1, hN, ho, ds, d, st', hr, hl, hpost⟩ := h
  refine ⟨d, st', Ev.mk1 hq hf hp hb hpad ?_, hpost⟩
  unfold EvC
  exact ⟨o, fr', st1, hN, ho, ds, hr, hl⟩
def MergeQ (M : Fr → St → Prop) (Q : Out → Fr → St → Prop) : Out → Fr → St → Prop
  | .next, fr, st => M fr st
  | .exit i, fr, st => Q (.exit i) fr st
  | .ret, fr, st => Q .ret fr st
theorem EvC.merge {P : Pv} {dy : Dy} {c : Code} {fr : Fr} {st : St} {Q : Out → Fr → St → Prop} (M : Fr → St → Prop) (h1 : EvC P dy c fr st (MergeQ M Q)) (h2 : ∀ fr' st', M fr' st' → Q .next fr' st') : EvC P dy c fr st Q :=
  h1.mono fun o fr' st' h => by
    cases o with
    | next => exact h2 _ _ h
    | exit i => exact h
    | ret => exact h
theorem EvO.addN {t ty2 : TypeId} {xo yo : Operand} {x y : Nat} (hg : wantD ops fr ⟨some dst, .binOp .add t xo yo ty2, ty, pp, a, g⟩ = some true) (hx : fr.ev xo = .int .i64 (x : Nat)) (hy : fr.ev yo = .int .i64 (y : Nat)) (h2 : x + y ≤ 9223372036854775807) (hp : fr.put dst (.int .i64 ((x + y : Nat) : Int)) = fr')
    (h : EvO P ops rest fr' st Q) : EvO P ops (⟨some dst, .binOp .add t xo yo ty2, ty, pp, a, g⟩ :: rest) fr st Q :=
  EvO.addZ hg hx hy (by rw [wrap_i64 (by omega) (by omega)]; rfl) hp h
theorem EvO.subN {t ty2 : TypeId} {xo yo : Operand} {x y : Nat} (hg : wantD ops fr ⟨some dst, .binOp .sub t xo yo ty2, ty, pp, a, g⟩ = some true) (hx : fr.ev xo = .int .i64 (x : Nat)) (hy : fr.ev yo = .int .i64 (y : Nat)) (h2 : y ≤ x) (hm : x ≤ 9223372036854775807) (hp : fr.put dst (.int .i64 ((x - y : Nat) : Int)) = fr')
    (h : EvO P ops rest fr' st Q) : EvO P ops (⟨some dst, .binOp .sub t xo yo ty2, ty, pp, a, g⟩ :: rest) fr st Q :=
  EvO.subZ hg hx hy (by rw [wrap_i64 (by omega) (by omega)]; omega) hp h
theorem Ev.mkR {f : Nat} {x : Fi} {body : Code} {args : List D} {st : St} {n : Nat} {loc : List D} {Post : D → Prop} (hq : lookP f P.prm = none) (hf : P.fi f = some x) (hp : x.prim = none) (hb : x.fn.body = some body) (hpad : pad x.nloc args = ⟨n, loc, []⟩)
    (h : EvC P x.dyn body ⟨n, loc, []⟩ (enterSt x.mode st) fun o fr st1 => (∀ i, o ≠ .exit i) ∧ ∃ ds d, resD P fr st1 x.fn.results.toList = some ds ∧ leaveD x.mode x.knul st st1 (tupD ds) = some (d, st) ∧ Post d) : ∃ d, Ev P f args st d st ∧ Post d := by
  unfold EvC at h
  obtain ⟨o, fr', st1, hN, ho, ds, d, hr, hl, hpost⟩ := h
  refine ⟨d, Ev.mk1 hq hf hp hb hpad ?_, hpost⟩
  unfold EvC
  exact ⟨o, fr', st1, hN, ho, ds, hr, hl⟩
def setW (loc : List D) (ws : List Nat) (f : Nat → D) : List D := ws.foldl (fun l w => l.set w (f w)) loc
theorem EvC.cutL {P : Pv} {dy : Dy} {i : Nat} {l : List Oper} {d n loc tmp st} {Q : Out → Fr → St → Prop} (t : Nat) (v : D) (ws : List Nat)
    (h1 : EvO P l.toArray l ⟨n, loc, []⟩ st fun fr' st' => ∃ f tmp, fr' = ⟨n, (setW loc ws f).set t v, tmp⟩ ∧ st' = st) (h2 : ∀ f tmp, Q .next ⟨n, (setW loc ws f).set t v, tmp⟩ st) (h0 : lookDy i dy = [] := by rfl) : EvC P dy (.region i l.toArray d) ⟨n, loc, tmp⟩ st Q := by
  refine EvC.reg ?_ h0
  unfold EvO at h1 ⊢
  obtain ⟨fr', st', h3, f, tmp', rfl, rfl⟩ := h1
  exact ⟨_, _, h3, h2 _ _⟩
theorem EvC.cutT {P : Pv} {dy : Dy} {i : Nat} {l : List Oper} {d n loc tmp st} {Q : Out → Fr → St → Prop} (t : Nat) (v : D) (ws : List Nat)
    (h1 : EvO P l.toArray l ⟨n, loc, []⟩ st fun fr' st' => ∃ f tmp, fr' = ⟨n, setW loc ws f, tmp⟩ ∧ st' = st ∧ look t tmp = v) (h2 : ∀ f tmp, look t tmp = v → Q .next ⟨n, setW loc ws f, tmp⟩ st) (h0 : lookDy i dy = [] := by rfl) : EvC P dy (.region i l.toArray d) ⟨n, loc, tmp⟩ st Q := by
  refine EvC.reg ?_ h0
  unfold EvO at h1 ⊢
  obtain ⟨fr', st', h3, f, tmp', rfl, rfl, h4⟩ := h1
  exact ⟨_, _, h3, h2 _ _ h4⟩
theorem leafL {n : Nat} {L loc : List D} {tmp0 : List (Nat × D)} {ws : List Nat} {t : Nat} {v : D} {st : St} (h : L = (setW loc ws (fun k => nth .junk L k)).set t v) : ∃ (f : Nat → D) (tmp : List (Nat × D)), (⟨n, L, tmp0⟩ : Fr) = ⟨n, (setW loc ws f).set t v, tmp⟩ ∧ st = st := ⟨_, tmp0, by rw [← h], rfl⟩
theorem leafT {n : Nat} {L loc : List D} {tmp0 : List (Nat × D)} {ws : List Nat} {t : Nat} {v : D} {st : St} (h : L = setW loc ws (fun k => nth .junk L k)) (h2 : look t tmp0 = v) : ∃ (f : Nat → D) (tmp : List (Nat × D)), (⟨n, L, tmp0⟩ : Fr) = ⟨n, setW loc ws f, tmp⟩ ∧ st = st ∧ look t tmp = v := ⟨_, tmp0, by rw [← h], rfl, h2⟩
def SlD (x : D) (s : Nat) (es : List (List D)) : Prop := (x = .nul ∧ es = []) ∨ ∃ ds, x = .sl ds ∧ ds.map D.cells = es ∧ ∀ d ∈ ds, d.cells? = some d.cells ∧ d.cells.length = s
theorem SlD.rows {x : D} {s : Nat} {es : List (List D)} (h : SlD x s es) (st : St) : Rows st s x es := by
  rcases h with ⟨rfl, rfl⟩ | ⟨ds, rfl, rfl, h⟩
  · exact .nul
  · exact .sl ds h
theorem SlD.ref {x : D} {s : Nat} {es : List (List D)} (h : SlD x s es) : x.ref = 0 := by
  rcases h with ⟨rfl, rfl⟩ | ⟨ds, rfl, rfl, h⟩ <;> rfl
theorem SlD.arg {x : D} {s : Nat} {es : List (List D)} (h : SlD x s es) (N : Nat) (S : St) : Arg N S s x es := ⟨h.rows S, by rw [h.ref]; omega⟩
theorem SlD.cells {x : D} {s : Nat} {es : List (List D)} (h : SlD x s es) : x.cells? = some [x] ∧ x.cells = [x] := by
  rcases h with ⟨rfl, rfl⟩ | ⟨ds, rfl, rfl, h⟩ <;> exact ⟨rfl, rfl⟩
theorem SlD.freeze {x : D} {s : Nat} {es : List (List D)} (h : SlD x s es) (st : St) (N n : Nat) : ∃ y, freezeD st N false (n + 1) x = some y ∧ SlD y s es := by
  rcases h with ⟨rfl, rfl⟩ | ⟨ds, rfl, rfl, h⟩
  · exact ⟨.sl [], rfl, .inr ⟨[], rfl, rfl, fun d hd => by cases hd⟩⟩
  · exact ⟨.sl ds, rfl, .inr ⟨ds, rfl, rfl, h⟩⟩
theorem SlD.frozen {s : Nat} {es : List (List D)} (h : ∀ e ∈ es, e.length = s) (hp : ∀ e ∈ es, ∀ d ∈ e, plainC d = true) : SlD (.sl (es.map (elD s))) s es := by
  refine .inr ⟨_, rfl, ?_, fun d hd => ?_⟩
  · rw [List.map_map]
    conv => rhs; rw [← List.map_id es]
    refine List.map_congr_left fun e he => ?_
    exact (elD_cells (h e he) (hp e he)).2
  · obtain ⟨e, he, rfl⟩ := List.mem_map.1 hd
    obtain ⟨h1, h2⟩ := elD_cells (h e he) (hp e he)
    exact ⟨h1, by rw [h2]; exact h e he⟩
theorem SlD.part {P : Pv} {st : St} {t e : TypeId} {x : D} {s l r : Nat} {es : List (List D)} {lo hi : Option D} (h : SlD x s es) (ht : P.und t = some (.slice e)) (hs : szOf P e = some s) (hb : boundsD es.length lo hi = some (l, r)) : ∃ y, sliceD P t x lo hi st = some y ∧ SlD y s ((es.take r).drop l) := by
  rcases h with ⟨rfl, rfl⟩ | ⟨ds, rfl, rfl, h⟩
  · simp only [List.length_nil] at hb
    refine ⟨.nul, ?_, .inl ⟨rfl, by simp⟩⟩
    simp only [sliceD, ht, hs, Option.bind_some, hb, Option.map_some]
  · rw [List.length_map] at hb
    refine ⟨.sl ((ds.take r).drop l), ?_, .inr ⟨_, rfl, by rw [List.map_drop, List.map_take], fun d hd => h d (List.mem_of_mem_take (List.mem_of_mem_drop hd))⟩⟩
    simp only [sliceD, ht, hs, Option.bind_some]
    rw [if_pos (by
      cases ds with
      | nil => rfl
      | cons d ds => obtain ⟨h1, h2⟩ := h d (List.mem_cons_self ..); simp [headOk, h1, h2])]
    simp only [hb, Option.map_some]
theorem EvO.pslice {P : Pv} {ops : Array Oper} {rest : List Oper} {fr : Fr} {st : St} {Q : Fr → St → Prop} {ty : TypeId} {pp : String} {a : Array Edge} {g : Option (Nat × Bool)} {dst : Nat} {t e : TypeId} {xo : Operand} {lo hi : Option Operand} {x : D} {s : Nat} {es : List (List D)} {l r : Nat} {fr' : D → Fr} (hg : wantD ops fr ⟨some dst, .slice t xo lo hi none, ty, pp, a, g⟩ = some true) (hx : fr.ev xo = x) (hR : SlD x s es) (ht : P.und t = some (.slice e)) (hs : szOf P e = some s)
    (hb : boundsD es.length (lo.map fr.ev) (hi.map fr.ev) = some (l, r)) (hp : ∀ y, fr.put dst y = fr' y)
    (h : ∀ y, SlD y s ((es.take r).drop l) → EvO P ops rest (fr' y) st Q) : EvO P ops (⟨some dst, .slice t xo lo hi none, ty, pp, a, g⟩ :: rest) fr st Q := by
  obtain ⟨y, h1, h2⟩ := hR.part (st := st) ht hs hb
  refine EvO.go hg rfl (d := y) (st1 := st) ?_ (hp y) (h y h2)
  simp only [opD, hx, h1, Option.map_some]
end Go.V
namespace Go.V
inductive All2 {α β : Type} (R : α → β → Prop) : List α → List β → Prop where
  | nil : All2 R [] []
  | cons {a : α} {b : β} {l : List α} {m : List β} (h : R a b) (t : All2 R l m) : All2 R (a :: l) (b :: m)
theorem All2.mono {α β : Type} {R R' : α → β → Prop} (h : ∀ a b, R a b → R' a b) : ∀ {l : List α} {m : List β}, All2 R l m → All2 R' l m
  | _, _, .nil => .nil
  | _, _, .cons a t => .cons (h _ _ a) (t.mono h)
theorem All2.append {α β : Type} {R : α → β → Prop} : ∀ {l l' : List α} {m m' : List β}, All2 R l m → All2 R l' m' → All2 R (l ++ l') (m ++ m')
  | _, _, _, _, .nil, h => h
  | _, _, _, _, .cons a t, h => .cons a (t.append h)
theorem All2.len {α β : Type} {R : α → β → Prop} : ∀ {l : List α} {m : List β}, All2 R l m → l.length = m.length
  | _, _, .nil => rfl
  | _, _, .cons a t => by simp [t.len]
def isSlD : D → Bool
  | .sl _ => true
  | _ => false
inductive DeepG (bb : Bool) (st : St) (ks : Nat → Prop) : D → D → Prop where
  | plain (d : D) (h : plainC d = true) (h2 : (!(isSlD d) || bb) = true := by rfl) : DeepG bb st ks d d
  | lst (w : D) (s : Nat) (rs : List (List D)) (h : OwnP st s w rs) (hp : ∀ e ∈ rs, ∀ d ∈ e, plainC d = true) (hk : ∀ k, w.ref = k + 1 → ks k) : DeepG bb st ks w (.sl (rs.map (elD s)))
abbrev DeepC := DeepG true
variable {bb : Bool}
theorem DeepG.mono {st : St} {ks ks' : Nat → Prop} (h : ∀ k, ks k → ks' k) {d v : D} (p : DeepG bb st ks d v) : DeepG bb st ks' d v := by
  cases p with
  | plain h h2 => exact .plain d h h2
  | lst s rs h1 h2 h3 => exact .lst d s rs h1 h2 fun k hk => h k (h3 k hk)
theorem DeepG.move {st st' : St} {ks : Nat → Prop} (h : ∀ k, ks k → st'.bs[k]? = st.bs[k]?) {d v : D} (p : DeepG bb st ks d v) : DeepG bb st' ks d v := by
  cases p with
  | plain h h2 => exact .plain d h h2
  | lst s rs h1 h2 h3 => exact .lst d s rs (h1.move fun k hk => h k (h3 k hk)) h2 h3
theorem OwnP.pureN {st : St} {s N : Nat} {x : D} {es : List (List D)} (h : OwnP st s x es) (hN : ∀ k, x.ref = k + 1 → N ≤ k) (hp : ∀ e ∈ es, ∀ d ∈ e, plainC d = true) (n : Nat) : pureD st N (n + 2) x = some (.sl (es.map (elD s))) := by
  cases h with
  | nul => rfl
  | win k ver off es c hm hl hc he =>
    have := hN k (by simp only [D.ref])
    rw [pureD]
    simp only [if_neg (show ¬ k < N by omega), St.mem_of hm, Option.bind_some]
    rw [if_pos hl, hc, mapO_plain (fun d hd => by
      obtain ⟨e, he', hd'⟩ := List.mem_flatten.1 hd
      exact hp e he' d hd')]
    simp only [Option.map_some, chunk_flat he]
theorem DeepG.pure {st : St} {ks : Nat → Prop} {N : Nat} (hN : ∀ k, ks k → N ≤ k) {d v : D} (p : DeepG bb st ks d v) (n : Nat) : pureD st N (n + 2) d = some v := by
  cases p with
  | plain h h2 => cases d <;> simp [plainC] at h <;> rfl
  | lst s rs h1 h2 h3 => exact h1.pureN (fun k hk => hN k (h3 k hk)) h2 n
theorem All2.each {s : Nat} {R : D → D → Prop} : ∀ {l m : List (List D)}, All2 (All2 R) l m → (∀ e ∈ l, e.length = s) → ∀ e ∈ m, e.length = s
  | _, _, .nil, _, e, he => by cases he
  | _, _, .cons a t, h, e, he => by
    rcases List.mem_cons.1 he with rfl | he
    · rw [← a.len]; exact h _ (List.mem_cons_self ..)
    · exact t.each (fun x hx => h x (List.mem_cons_of_mem _ hx)) e he
def Ent.emp : Ent := ⟨fun _ => False, fun _ => True, fun _ p => p⟩
def Ent.deepG (bb : Bool) (ks : Nat → Prop) (x : D) (s : Nat) (vs : List (List D)) : Ent :=
  ⟨fun j => x.ref = j + 1 ∨ ks j, fun st => (∃ es, OwnP st s x es ∧ All2 (All2 (DeepG bb st ks)) es vs) ∧ ∀ k, x.ref = k + 1 → ¬ ks k, fun h p => by
    obtain ⟨⟨es, h1, h2⟩, h3⟩ := p
    exact ⟨⟨es, h1.move fun k hk => h k (.inl hk), h2.mono fun a b => All2.mono fun c d => DeepG.move fun k hk => h k (.inr hk)⟩, h3⟩⟩
variable {N : Nat} {S st : St} {H : List Ent}
theorem Has.freezeL {j : Nat} {x : D} {s : Nat} {es : List (List D)} (hH : Has N S st H) (hj : H[j]? = some (.lst x s es)) (hp : ∀ e ∈ es, ∀ d ∈ e, plainC d = true) {n : Nat} (hn : 3 ≤ n) : freezeD st N false n x = some (.sl (es.map (elD s))) := by
  obtain ⟨n, rfl⟩ : ∃ m, n = m + 1 := ⟨n - 1, by omega⟩
  exact hH.freeze hj hp (by omega)
theorem Has.resCell {P : Pv} {fr : Fr} {a k ver off j : Nat} {t : TypeId} {ar : Bool} {c : List D} {d : D} (hH : Has N S st H) (ha : fr.get a = .ptr k ver off) (hj : H[j]? = some (.box k (.mem ver ar c))) (hd : takeD P t (c.drop off) = some d) : resD P fr st [.cell a t] = some [d] := by
  simp only [resD, loadD, ha, St.mem_of (hH.at hj), Option.bind_some, hd, Option.map_some]
theorem OwnP.cells {s : Nat} {x : D} {es : List (List D)} (h : OwnP st s x es) : x.cells? = some [x] := by cases h <;> rfl
theorem Has.dcells {j : Nat} {x : D} {s : Nat} {ks : Nat → Prop} {vs : List (List D)} (hH : Has N S st H) (hj : H[j]? = some (.deepG bb ks x s vs)) : x.cells? = some [x] := by
  obtain ⟨⟨es, h1, _⟩, _⟩ := (hH.ok j _ hj).1
  exact h1.cells
theorem Has.ocells {j : Nat} {x : D} {s : Nat} {es : List (List D)} (hH : Has N S st H) (hj : H[j]? = some (.lst x s es)) : x.cells? = some [x] := (hH.own hj).cells
theorem Has.resCellT {P : Pv} {fr : Fr} {a k ver off j u : Nat} {t : TypeId} {ar : Bool} {c : List D} {d e : D} (hH : Has N S st H) (ha : fr.get a = .ptr k ver off) (hj : H[j]? = some (.box k (.mem ver ar c))) (hd : takeD P t (c.drop off) = some d) (he : fr.get u = e) : resD P fr st [.cell a t, .tmp u] = some [d, e] := by
  simp only [resD, loadD, ha, St.mem_of (hH.at hj), Option.bind_some, hd, Option.map_some, he]
theorem EvO.harr {P : Pv} {ops : Array Oper} {rest : List Oper} {fr fr' : Fr} {Q : Fr → St → Prop} {ty : TypeId} {pp : String} {a : Array Edge} {g : Option (Nat × Bool)} {dst : Nat} {t e : TypeId} {xo io : Operand} {k v off m s o : Nat} {kk : IntKind} {i : Nat} (hg : wantD ops fr ⟨some dst, .indexAddr t xo io, ty, pp, a, g⟩ = some true) (hx : fr.ev xo = .ptr k v off) (hi : fr.ev io = .int kk (i : Nat)) (ht : P.und t = some (.array m e)) (hs : szOf P e = some s) (hlt : i < m) (ho : off + i * s = o) (hp : fr.put dst (.ptr k v o) = fr')
    (h : EvO P ops rest fr' st Q) : EvO P ops (⟨some dst, .indexAddr t xo io, ty, pp, a, g⟩ :: rest) fr st Q := by
  subst ho
  refine EvO.go hg rfl (d := .ptr k v (off + i * s)) (st1 := st) ?_ hp h
  simp only [opD, hx, hi, indexAddrD, ht, hs, Option.bind_some]
  rw [if_pos ⟨by omega, by omega⟩]; rfl
theorem DeepC.mono {st : St} {ks ks' : Nat → Prop} (h : ∀ k, ks k → ks' k) {d v : D} (p : DeepC st ks d v) : DeepC st ks' d v := DeepG.mono h p
theorem DeepC.move {st st' : St} {ks : Nat → Prop} (h : ∀ k, ks k → st'.bs[k]? = st.bs[k]?) {d v : D} (p : DeepC st ks d v) : DeepC st' ks d v := DeepG.move h p
end Go.V
namespace Go.V
variable {P : Pv} {ops : Array Oper} {rest : List Oper} {fr fr' : Fr} {st st1 : St} {Q : Fr → St → Prop} {ty : TypeId} {pp : String} {a : Array Edge} {g : Option (Nat × Bool)} {dst : Nat} {N : Nat} {S : St} {H : List Ent} {d : D} {op : Op}
theorem qm {op : Op} {x : Operand} {d : D} (h : EvO P ops rest fr' st Q) (hop : op = .move x ∨ op = .assign x := by first | exact .inl rfl | exact .inr rfl) (hg : wantD ops fr ⟨some dst, op, ty, pp, a, g⟩ = some true := by exact rfl) (hx : fr.ev x = d := by exact ev rfl) (hp : fr.put dst d = fr' := by first | exact put_T rfl _ | (dsimp only [Fr.put, List.set_cons_succ, List.set_cons_zero] <;> rfl)) : EvO P ops (⟨some dst, op, ty, pp, a, g⟩ :: rest) fr st Q :=
  EvO.mv (hop := hop) (hg := hg) (hx := hx) (hp := hp) (h := h)
theorem qs {op : Op} (h : EvO P ops rest fr' st Q) (hg : wantD ops fr ⟨some dst, op, ty, pp, a, g⟩ = some false := by exact rfl) (hp : fr.put dst (.tup []) = fr' := by first | exact put_T rfl _ | (dsimp only [Fr.put, List.set_cons_succ, List.set_cons_zero] <;> rfl)) : EvO P ops (⟨some dst, op, ty, pp, a, g⟩ :: rest) fr st Q :=
  EvO.skip (hg := hg) (hp := hp) (h := h)
theorem qg {op : Op} {d : D} {st1 : St} (h : EvO P ops rest fr' st1 Q) (hg : wantD ops fr ⟨some dst, op, ty, pp, a, g⟩ = some true := by exact rfl) (hc : isCall op = false := by exact rfl) (h1 : opD P fr st op ty = some (d, st1) := by exact rfl) (hp : fr.put dst d = fr' := by first | exact put_T rfl _ | (dsimp only [Fr.put, List.set_cons_succ, List.set_cons_zero] <;> rfl)) : EvO P ops (⟨some dst, op, ty, pp, a, g⟩ :: rest) fr st Q :=
  EvO.go (hg := hg) (hc := hc) (h1 := h1) (hp := hp) (h := h)
theorem qR {t : TypeId} {ao : Operand} {x d : D} {r : List D} (h : EvO P ops rest fr' st Q) (hg : wantD ops fr ⟨some dst, .load t ao, ty, pp, a, g⟩ = some true := by exact rfl) (ha : fr.ev ao = x := by exact ev rfl) (hR : PtTo st x r := by assumption) (hd : takeD P t r = some d := by exact rfl) (hp : fr.put dst d = fr' := by first | exact put_T rfl _ | (dsimp only [Fr.put, List.set_cons_succ, List.set_cons_zero] <;> rfl)) : EvO P ops (⟨some dst, .load t ao, ty, pp, a, g⟩ :: rest) fr st Q :=
  EvO.rload (hg := hg) (ha := ha) (hR := hR) (hd := hd) (hp := hp) (h := h)
theorem qA {t ty2 : TypeId} {xo yo : Operand} {x y : Int} (h : EvO P ops rest fr' st Q) (hg : wantD ops fr ⟨some dst, .binOp .add t xo yo ty2, ty, pp, a, g⟩ = some true := by exact rfl) (hx : fr.ev xo = .int .i64 x := by exact ev rfl) (hy : fr.ev yo = .int .i64 y := by exact ev rfl) (h1 : -9223372036854775808 ≤ x + y := by omega) (h2 : x + y ≤ 9223372036854775807 := by omega) (hp : fr.put dst (.int .i64 (x + y)) = fr' := by first | exact put_T rfl _ | (dsimp only [Fr.put, List.set_cons_succ, List.set_cons_zero] <;> rfl)) : EvO P ops (⟨some dst, .binOp .add t xo yo ty2, ty, pp, a, g⟩ :: rest) fr st Q :=
  EvO.addS64 (hg := hg) (hx := hx) (hy := hy) (h1 := h1) (h2 := h2) (hp := hp) (h := h)
theorem qq {dy : Dy} {a b : Code} {Q : Out → Fr → St → Prop} (h : EvC P dy a fr st (SeqQ P dy b Q)) : EvC P dy (.seq a b) fr st Q := EvC.seq h
theorem qB {dy : Dy} {c : Operand} {a b : Code} {Q : Out → Fr → St → Prop} (h1 : EvC P dy a fr st Q) (hv : fr.ev c = .bool true := by first | rfl | assumption) : EvC P dy (.cond c a b) fr st Q := EvC.cond hv (fun _ => h1) (fun h => by cases h)
theorem qC {dy : Dy} {c : Operand} {a b : Code} {Q : Out → Fr → St → Prop} (h1 : EvC P dy b fr st Q) (hv : fr.ev c = .bool false := by first | rfl | assumption) : EvC P dy (.cond c a b) fr st Q := EvC.cond hv (fun h => by cases h) (fun _ => h1)
theorem w1 {α : Type} {n : Nat} {a : α} : List.replicate (n + 1) a = a :: List.replicate n a := rfl
theorem w2 {α : Type} {a : α} : List.replicate 0 a = [] := rfl
theorem u1 {α : Type} {x : α} {l : List α} {n : Nat} {a : α} : (x :: l).set (n + 1) a = x :: l.set n a := rfl
theorem u2 {α : Type} {x : α} {l : List α} {a : α} : (x :: l).set 0 a = a :: l := rfl
theorem u3 {α : Type} {x : α} {l m : List α} : (x :: l) ++ m = x :: (l ++ m) := rfl
theorem v1 (k : IntKind) (n : Int) : ofVal (.int k n) = .int k n := rfl
theorem v2 (b : Bool) : ofVal (.bool b) = .bool b := rfl
theorem v3 (s : ByteArray) : ofVal (.string s) = .str s.data.toList := rfl
theorem cs : (∀ (p : Prop) [Decidable p], (decide p = true) = p) ∧ (∀ (p : Prop) [Decidable p], (decide p = false) = ¬ p) ∧ (∀ (α : Type) [BEq α] [LawfulBEq α] (a b : α), ((a == b) = true) = (a = b)) ∧ (∀ (α : Type) [BEq α] [LawfulBEq α] (a b : α), ((a == b) = false) = ¬ a = b) ∧ (∀ (α : Type) [BEq α] [LawfulBEq α] (a b : α), ((a != b) = true) = ¬ a = b) ∧ (∀ (α : Type) [BEq α] [LawfulBEq α] (a b : α), ((a != b) = false) = (a = b)) ∧ (∀ b : Bool, ((!b) = true) = (b = false)) ∧ (∀ b : Bool, ((!b) = false) = (b = true)) ∧ (∀ b : Bool, (¬ b = true) = (b = false)) ∧ (∀ b : Bool, (¬ b = false) = (b = true)) := by
  refine ⟨fun p _ => by simp, fun p _ => by simp, fun α _ _ a b => by simp, fun α _ _ a b => by simp, fun α _ _ a b => by simp, fun α _ _ a b => by simp, fun b => by simp, fun b => by simp, fun b => by simp, fun b => by simp⟩
theorem xT {n t : Nat} {loc : List D} {tmp : List (Nat × D)} (h : EvO P ops rest ⟨n, loc, (t, d) :: tmp⟩ st1 Q) (hb : Nat.ble n t = true := by exact rfl) (hg : wantD ops ⟨n, loc, tmp⟩ ⟨some t, op, ty, pp, a, g⟩ = some true := by exact rfl) (hc : isCall op = false := by exact rfl) (h1 : opD P ⟨n, loc, tmp⟩ st op ty = some (d, st1) := by exact rfl) : EvO P ops (⟨some t, op, ty, pp, a, g⟩ :: rest) ⟨n, loc, tmp⟩ st Q := EvO.T hb hg hc h1 h
theorem xo {n t : Nat} {loc : List D} {tmp : List (Nat × D)} (h : EvO P ops rest ⟨n, loc, (t, .tup []) :: tmp⟩ st Q) (hb : Nat.ble n t = true := by exact rfl) (hg : wantD ops ⟨n, loc, tmp⟩ ⟨some t, op, ty, pp, a, g⟩ = some false := by exact rfl) : EvO P ops (⟨some t, op, ty, pp, a, g⟩ :: rest) ⟨n, loc, tmp⟩ st Q := EvO.offT hb hg h
end Go.V
