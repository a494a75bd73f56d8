/-
  Functions that are given by answers of V itself: what was reckoned once is looked up.
-/
import Derived.Test.YteaeandommcdcaaGreatWa
namespace Go.V
set_option linter.unusedSimpArgs false
set_option linter.unusedVariables false
set_option linter.unusedSectionVars false
set_option linter.unnecessarySimpa false
open Go.RowKit

/-- a prim is good for a function -/
structure PrimOk (P : Program) (pv : Pv) (f : Nat) (p : List D → St → Option (D × St)) : Prop where
  fn : ∀ ds st r, p ds st = some r → ∃ fn b, P.funcs[f]? = some fn ∧ fn.body = some b ∧ fn.name ≠ "runtime.NumGoroutine"
  calls : ∀ ds st d st', p ds st = some (d, st') → ∀ w β Z (us : List Value), Sim w st β Z → ds.length = us.length → (∀ (i : Nat) c v, ds[i]? = some c → us[i]? = some v → VR w (st.x β Z) c v) →
    Calls P f us.toArray w fun e w' => ∃ v β' Z', e = .returned v ∧ Nx w st β Z w' st' β' Z' ∧ VR w' (st'.x β' Z') d v ∧ (isRo pv f = true → Quiet w w')
  ro : ∀ ds st d st', p ds st = some (d, st') → isRo pv f = true → Adds st st'
  len : ∀ ds st d st', p ds st = some (d, st') → Goes st st'

theorem conf_congr {pv pv' : Pv} (h : ∀ f, isRo pv f = isRo pv' f) (hm : ∀ s t, markB pv s t = markB pv' s t) (ops : Array Oper) (b : Bool) (x y : Oper) : conf pv ops b x y = conf pv' ops b x y := by
  have he : ∀ o, effB pv o = effB pv' o := by
    intro o
    unfold effB
    split <;> first | rfl | exact hm _ _ | skip
    rw [h]
  simp only [conf, he]

theorem okReg_congr {pv pv' : Pv} (h : ∀ f, isRo pv f = isRo pv' f) (hm : ∀ s t, markB pv s t = markB pv' s t) (ops : Array Oper) (dy : List (Nat × Nat)) : okReg pv ops dy = okReg pv' ops dy := by
  unfold okReg
  congr 1
  funext j
  unfold okAt
  split
  · simp only [conf_congr h hm]
  · rfl

theorem codeOk_congr {pv pv' : Pv} (h : ∀ f, isRo pv f = isRo pv' f) (hm : ∀ s t, markB pv s t = markB pv' s t) (dyn : List (Nat × List (Nat × Nat))) (n : Nat) : ∀ c : Code, codeOk pv dyn n c = codeOk pv' dyn n c
  | .region _ ops d => by simp only [codeOk, okReg_congr h hm]
  | .seq a b => by simp only [codeOk, codeOk_congr h hm dyn n a, codeOk_congr h hm dyn n b]
  | .cond _ a b => by simp only [codeOk, codeOk_congr h hm dyn n a, codeOk_congr h hm dyn n b]
  | .block _ c => by simp only [codeOk, codeOk_congr h hm dyn n c]
  | .loop c => by simp only [codeOk, codeOk_congr h hm dyn n c]
  | .skip | .rangeFunc .. | .exit _ | .scope _ | .label _ | .goto _ | .ret | .refuse _ => by simp only [codeOk]

/-- the view with prims laid over it -/
def Pv.over (pv : Pv) (l : List (Nat × (List D → St → Option (D × St)))) : Pv := ⟨pv.ty, pv.nty, pv.fs, pv.nfs, pv.eqb, l⟩

theorem isRo_over (pv : Pv) (l) (f : Nat) : isRo (pv.over l) f = isRo pv f := rfl

theorem lookP_mem {f : Nat} {p} : ∀ {l : List (Nat × (List D → St → Option (D × St)))}, lookP f l = some p → (f, p) ∈ l
  | (g, q) :: l, h => by
    simp only [lookP] at h
    split at h
    · rename_i hb
      cases h
      rw [Nat.eq_of_beq_eq_true hb]; exact List.mem_cons_self ..
    · exact List.mem_cons_of_mem _ (lookP_mem h)

theorem view_over {pv : Pv} {P : Program} (h : pv.Ok P ∧ pv.codes ∧ CfOk P pv (primF pv)) (hpr : pv.prm = []) {l : List (Nat × (List D → St → Option (D × St)))} (hl : ∀ q ∈ l, PrimOk P pv q.1 q.2) :
    (pv.over l).Ok P ∧ (pv.over l).codes ∧ CfOk P (pv.over l) (primF (pv.over l)) := by
  obtain ⟨h1, h2, h3⟩ := h
  refine ⟨⟨h1.ty, h1.fs, h1.eqb, h1.mixed⟩, fun f x b hx hp hb => ?_, ?_⟩
  · rw [codeOk_congr (isRo_over pv l) (fun _ _ => rfl)]; exact h2 f x b hx hp hb
  · have key : ∀ f ds st r, primF (pv.over l) f ds st = some r → (∃ p, PrimOk P pv f p ∧ p ds st = some r) ∨ primF pv f ds st = some r := by
      intro f ds st r h
      unfold primF at h
      split at h
      · rename_i p hp
        exact .inl ⟨p, hl _ (lookP_mem hp), h⟩
      · right
        unfold primF
        rw [hpr]
        exact h
    refine ⟨fun f ds st r h => ?_, fun f ds st d st' h => ?_, fun f ds st d st' h => ?_, fun f ds st d st' h => ?_⟩
    · rcases key f ds st r h with ⟨p, hp, h⟩ | h
      · exact hp.fn ds st r h
      · exact h3.fn f ds st r h
    · rcases key f ds st _ h with ⟨p, hp, h⟩ | h
      · exact hp.calls ds st d st' h
      · exact h3.calls f ds st d st' h
    · rcases key f ds st _ h with ⟨p, hp, h⟩ | h
      · exact hp.ro ds st d st' h
      · exact h3.ro f ds st d st' h
    · rcases key f ds st _ h with ⟨p, hp, h⟩ | h
      · exact hp.len ds st d st' h
      · exact h3.len f ds st d st' h

theorem Sim.nil {w : World} {Z : Nat → Prop} (hZ : ∀ b, Z b → b < w.heap.size) : Sim w ⟨[], 0, 0⟩ (fun _ => none) Z :=
  ⟨fun _ _ _ h => (by cases h), fun _ _ _ h => (by cases h), fun _ _ _ _ _ h => (by cases h), fun _ _ _ h => (by cases h), hZ, fun _ _ _ _ h => (by cases h), Nat.le_refl _, Nat.le_refl _⟩

/-- what was reckoned from nothing holds in every state -/
theorem memo_calls {pv : Pv} {P : Program} (h : pv.Ok P ∧ pv.codes ∧ CfOk P pv (primF pv)) {n f : Nat} {ds : List D} {d : D} {st0 : St} (hs : callD pv n f ds ⟨[], 0, 0⟩ = some (d, st0)) (h0 : st0.bs = []) (hr : refs ds = 0)
    (st : St) (w : World) (β : Nat → Option (Nat × Nat)) (Z : Nat → Prop) (us : List Value) (hsim : Sim w st β Z) (hl : ds.length = us.length) (ha : ∀ (i : Nat) c v, ds[i]? = some c → us[i]? = some v → VR w (st.x β Z) c v) :
    Calls P f us.toArray w fun e w' => ∃ v β' Z', e = .returned v ∧ Nx w st β Z w' st β' Z' ∧ VR w' (st.x β' Z') d v ∧ Quiet w w' := by
  have hrefs : ∀ (l : List D), refs l = 0 → ∀ c ∈ l, c.ref ≤ 0 := by
    intro l
    induction l with
    | nil => intro _ c hc; simp at hc
    | cons x l ih =>
      intro h c hc
      simp only [refs] at h
      rcases List.mem_cons.1 hc with rfl | hc
      · omega
      · exact ih (by omega) c hc
  refine ((call_ok h.1 h.2.1 h.2.2 n).calls f ds _ d st0 hs w (fun _ => none) Z us (Sim.nil hsim.zl) hl fun i c v hc hv => ?_).mono fun e w' => ?_
  · exact VR.cut (x := st.x β Z) (x' := (⟨[], 0, 0⟩ : St).x (fun _ => none) Z) (N := 0) (fun k hk => absurd hk (Nat.not_lt_zero _)) (fun k hk => absurd hk (Nat.not_lt_zero _)) (fun b hb => hb) (ha i c v hc hv) (hrefs ds hr c (List.mem_of_getElem? hc))
  · rintro ⟨v, β', Z', rfl, hn, hv, _⟩
    have hno : ∀ k p, β' k = some p → False := fun k p hk => by
      have := hn.sim.dom k p.1 p.2 hk
      rw [h0] at this; simp at this
    have hq : Quiet w w' := by
      intro c hc
      refine hn.evo.block c hc ?_
      rintro ⟨k, base, h5, _⟩; cases h5
    have hzz : ∀ b, Z b → Z' b ∧ w'.heap[b]? = w.heap[b]? := fun b hb => ⟨(hn.keeps.z b hb).1, hq b (hsim.zl b hb)⟩
    have hk : Keeps w (st.x β Z) w' (st.x β Z') := ⟨fun k p hp => ⟨p, hp⟩, hzz, fun k c p _ hc => ⟨c, hc, Nat.le_refl _⟩, fun k c _ _ b base hb => ⟨hb, rowSize_eq (hq b (hsim.lt k b base hb))⟩⟩
    refine ⟨v, β, Z', rfl, ⟨⟨hsim.dom, fun k b base hb => Nat.lt_of_lt_of_le (hsim.lt k b base hb) hn.evo.size, hsim.inj, fun k b base hb hz => ?_, hn.sim.zl, fun k b base bx hb hbx => (hsim.box k b base bx hb hbx).keep hk (hq b (hsim.lt k b base hb)), hsim.flr, hsim.ro⟩, hk,
      ⟨hn.evo.os, hn.evo.tape, hn.evo.output, hn.evo.size, fun b hb _ => hq b hb⟩, fun k b base hb => .inl ⟨base, hb⟩, hn.zfresh, Nat.le_refl _, rfl, rfl, fun k _ => ⟨rfl, rfl⟩, fun k _ hk => ⟨hk, rfl⟩⟩, ?_, hq⟩
    · rcases hn.zfresh b hz with hz | hz
      · exact hsim.zd k b base hb hz
      · have := hsim.lt k b base hb; omega
    · exact VR.cut (x := st0.x β' Z') (x' := st.x β Z') (N := 0) (fun k hk => absurd hk (Nat.not_lt_zero _)) (fun k hk => absurd hk (Nat.not_lt_zero _)) (fun b hb => hb) hv (VR.ref (fun k p hk => (hno k p hk).elim) hv)

def memo0 (d : D) : List D → St → Option (D × St)
  | [], st => some (d, st)
  | _ :: _, _ => none

theorem memo0_ok {pv : Pv} {P : Program} (h : pv.Ok P ∧ pv.codes ∧ CfOk P pv (primF pv)) {n f : Nat} {d : D} {st0 : St} (hs : callD pv n f [] ⟨[], 0, 0⟩ = some (d, st0)) (h0 : st0.bs = []) : PrimOk P pv f (memo0 d) := by
  have hc := call_ok h.1 h.2.1 h.2.2 n
  refine ⟨fun ds st r _ => hc.fn f [] _ _ hs, fun ds st d' st' hp w β Z us hsim hl ha => ?_, fun ds st d' st' hp _ => ?_, fun ds st d' st' hp => ?_⟩ <;> cases ds <;> simp only [memo0, Option.some.injEq, Prod.mk.injEq, reduceCtorEq] at hp
  · obtain ⟨rfl, rfl⟩ := hp
    refine (memo_calls h hs h0 rfl st w β Z us hsim hl ha).mono fun e w' => ?_
    rintro ⟨v, β', Z', h1, h2, h3, h4⟩
    exact ⟨v, β', Z', h1, h2, h3, fun _ => h4⟩
  · rw [← hp.2]; exact .rfl _
  · rw [← hp.2]; exact Goes.refl _

/-- answers by their arguments -/
def memoL : List (List D × D) → List D → St → Option (D × St)
  | [], _, _ => none
  | (as, d) :: l, ds, st => match beqDs as ds with
    | true => some (d, st)
    | false => memoL l ds st

theorem memoL_mem : ∀ {l : List (List D × D)} {ds : List D} {st st' : St} {d : D}, memoL l ds st = some (d, st') → (ds, d) ∈ l ∧ st' = st
  | (as, e) :: l, ds, st, st', d, h => by
    simp only [memoL] at h
    split at h
    · rename_i hb
      cases h
      rw [beqDs_eq _ _ hb]
      exact ⟨List.mem_cons_self .., rfl⟩
    · obtain ⟨h1, h2⟩ := memoL_mem h
      exact ⟨List.mem_cons_of_mem _ h1, h2⟩

theorem memoL_ok {pv : Pv} {P : Program} (h : pv.Ok P ∧ pv.codes ∧ CfOk P pv (primF pv)) {f : Nat} {l : List (List D × D)} (hl : ∀ q ∈ l, refs q.1 = 0 ∧ ∃ n st0, callD pv n f q.1 ⟨[], 0, 0⟩ = some (q.2, st0) ∧ st0.bs = []) : PrimOk P pv f (memoL l) := by
  refine ⟨fun ds st r hp => ?_, fun ds st d st' hp w β Z us hsim hle ha => ?_, fun ds st d st' hp _ => by rw [(memoL_mem hp).2]; exact .rfl _, fun ds st d st' hp => ?_⟩
  · obtain ⟨hm, _⟩ := memoL_mem (d := r.1) (st' := r.2) hp
    obtain ⟨_, n, st0, hs, _⟩ := hl _ hm
    exact (call_ok h.1 h.2.1 h.2.2 n).fn f _ _ _ hs
  · obtain ⟨hm, rfl⟩ := memoL_mem hp
    obtain ⟨hr, n, st0, hs, h0⟩ := hl _ hm
    refine (memo_calls h hs h0 hr st' w β Z us hsim hle ha).mono fun e w' => ?_
    rintro ⟨v, β', Z', h1, h2, h3, h4⟩
    exact ⟨v, β', Z', h1, h2, h3, fun _ => h4⟩
  · rw [(memoL_mem hp).2]; exact Goes.refl _

/- answers by their arguments and the state -/
def beqBoxes : List Box → List Box → Bool
  | [], [] => true
  | a :: l, b :: m => beqBox a b && beqBoxes l m
  | _, _ => false

def beqSt (a b : St) : Bool := Nat.beq a.flr b.flr && Nat.beq a.ro b.ro && beqBoxes a.bs b.bs

theorem beqBoxes_eq : ∀ {a b : List Box}, beqBoxes a b = true → a = b
  | [], [], _ => rfl
  | a :: l, b :: m, h => by
    simp only [beqBoxes, Bool.and_eq_true] at h
    rw [beqBox_eq h.1, beqBoxes_eq h.2]
  | [], _ :: _, h => by cases h
  | _ :: _, [], h => by cases h

theorem beqSt_eq {a b : St} (h : beqSt a b = true) : a = b := by
  obtain ⟨x, y, z⟩ := a
  obtain ⟨x', y', z'⟩ := b
  simp only [beqSt, Bool.and_eq_true] at h
  have h1 := Nat.eq_of_beq_eq_true h.1.1
  have h2 := Nat.eq_of_beq_eq_true h.1.2
  have h3 := beqBoxes_eq h.2
  rw [h1, h2, h3]

def isS (d : D) (st : St) : Option (D × St) → Bool
  | some (e, st') => beqD e d && beqSt st' st
  | none => false

theorem isS_some {d : D} {st : St} {r : Option (D × St)} (h : isS d st r = true) : r = some (d, st) := by
  match r, h with
  | some (e, st'), h =>
    simp only [isS, Bool.and_eq_true] at h
    rw [beqD_eq e d h.1, beqSt_eq h.2]

def memoS : List ((List D × St) × (D × St)) → List D → St → Option (D × St)
  | [], _, _ => none
  | (k, r) :: l, ds, st => match beqDs k.1 ds && beqSt k.2 st with
    | true => some r
    | false => memoS l ds st

theorem memoS_mem : ∀ {l : List ((List D × St) × (D × St))} {ds : List D} {st : St} {r : D × St}, memoS l ds st = some r → ((ds, st), r) ∈ l
  | (k, r') :: l, ds, st, r, h => by
    simp only [memoS] at h
    split at h
    · rename_i hb
      simp only [Bool.and_eq_true] at hb
      cases h
      obtain ⟨k1, k2⟩ := k
      rw [← beqDs_eq _ _ hb.1, ← beqSt_eq hb.2]
      exact List.mem_cons_self ..
    · exact List.mem_cons_of_mem _ (memoS_mem h)

theorem memoS_ok {pv pv' : Pv} {P : Program} (h : pv'.Ok P ∧ pv'.codes ∧ CfOk P pv' (primF pv')) (hro : ∀ f, isRo pv' f = isRo pv f) {f : Nat} {l : List ((List D × St) × (D × St))} (hl : ∀ q ∈ l, ∃ n, callD pv' n f q.1.1 q.1.2 = some q.2) : PrimOk P pv f (memoS l) := by
  refine ⟨fun ds st r hp => ?_, fun ds st d st' hp w β Z us hsim hle ha => ?_, fun ds st d st' hp hr => ?_, fun ds st d st' hp => ?_⟩
  · obtain ⟨n, hn⟩ := hl _ (memoS_mem hp)
    exact (call_ok h.1 h.2.1 h.2.2 n).fn f _ _ _ hn
  · obtain ⟨n, hn⟩ := hl _ (memoS_mem hp)
    have := (call_ok h.1 h.2.1 h.2.2 n).calls f _ _ _ _ hn w β Z us hsim hle ha
    rw [hro] at this
    exact this
  · obtain ⟨n, hn⟩ := hl _ (memoS_mem hp)
    exact (call_ok h.1 h.2.1 h.2.2 n).ro f _ _ _ _ hn (by rw [hro]; exact hr)
  · obtain ⟨n, hn⟩ := hl _ (memoS_mem hp)
    exact (call_ok h.1 h.2.1 h.2.2 n).len f _ _ _ _ hn
end Go.V
