/-
 The plain law of the two searches: what was seen from an earlier place changes nothing.
-/
import Derived.Test.YtbdilgkfnacahaaGreatBe
namespace Go.Proofs.YtbdilgkfnacahaaGreat
open Go.V Go
set_option linter.unusedSimpArgs false
set_option linter.unusedVariables false

/-- what was come to -/
abbrev Sn := Nat → Nat → Bool
def updS (s : Sn) (t : Tr3) : Sn := fun a b => if a = t.pc ∧ b = t.at_ then true else s a b
theorem upd_self (s : Sn) (t : Tr3) : updS s t t.pc t.at_ = true := by unfold updS; rw [if_pos ⟨rfl, rfl⟩]
theorem upd_old {s : Sn} {t : Tr3} {a b : Nat} (h : s a b = true) : updS s t a b = true := by unfold updS; split <;> first | rfl | exact h
theorem upd_is {s : Sn} {t : Tr3} {a b : Nat} (h : updS s t a b = true) : (a = t.pc ∧ b = t.at_) ∨ s a b = true := by
 unfold updS at h
 split at h
 ·exact .inl (by assumption)
 ·exact .inr h

/-- a search, however long it is -/
inductive Run (stp : Tr3 → Res) : Sn → List Tr3 → Option Cps → Sn → Prop
 | nil {s : Sn} : Run stp s [] none s
 | old {s s' : Sn} {t : Tr3} {stk : List Tr3} {r : Option Cps} : s t.pc t.at_ = true → Run stp s stk r s' → Run stp s (t :: stk) r s'
 | found {s : Sn} {t : Tr3} {stk : List Tr3} : s t.pc t.at_ = false → stp t = .found → Run stp s (t :: stk) (some t.c) (updS s t)
 | more {s s' : Sn} {t : Tr3} {stk l : List Tr3} {r : Option Cps} : s t.pc t.at_ = false → stp t = .more l → Run stp (updS s t) (l ++ stk) r s' → Run stp s (t :: stk) r s'

theorem Run.one {stp : Tr3 → Res} {s s1 s2 : Sn} {stk : List Tr3} {r1 r2 : Option Cps} (h1 : Run stp s stk r1 s1) : Run stp s stk r2 s2 → r1 = r2 ∧ s1 = s2 := by
 induction h1 with
 | nil => intro h; cases h; exact ⟨rfl, rfl⟩
 | old h _ ih =>
  intro h2
  cases h2 with
  | old _ h' => exact ih h'
  | found h' _ => rw [h] at h'; cases h'
  | more h' _ _ => rw [h] at h'; cases h'
 | found h hf =>
  intro h2
  cases h2 with
  | old h' _ => rw [h] at h'; cases h'
  | found _ _ => exact ⟨rfl, rfl⟩
  | more _ h' _ => rw [hf] at h'; cases h'
 | more h hm _ ih =>
  intro h2
  cases h2 with
  | old h' _ => rw [h] at h'; cases h'
  | found _ h' => rw [hm] at h'; cases h'
  | more _ h' h'' =>
   rw [hm] at h'
   cases h'
   exact ih h''

/-- a list of what was come to -/
def RelS (idx : Nat → Nat → Nat) (ok : Nat → Nat → Prop) (arr : List Bool) (s : Sn) : Prop := ∀ a b, ok a b → arr[idx a b]? = some (s a b)
def InjS (idx : Nat → Nat → Nat) (ok : Nat → Nat → Prop) : Prop := ∀ a b a' b', ok a b → ok a' b' → idx a b = idx a' b' → a = a' ∧ b = b'
def KeepS (stp : Tr3 → Res) (ok : Nat → Nat → Prop) : Prop := ∀ t l, ok t.pc t.at_ → stp t = .more l → l.length ≤ 2 ∧ ∀ u ∈ l, ok u.pc u.at_

theorem RelS.upd {idx : Nat → Nat → Nat} {ok : Nat → Nat → Prop} {arr : List Bool} {s : Sn} {t : Tr3} (hI : InjS idx ok) (ht : ok t.pc t.at_) (h : RelS idx ok arr s) : RelS idx ok (arr.set (idx t.pc t.at_) true) (updS s t) := by
 intro a b hab
 unfold updS
 by_cases he : idx a b = idx t.pc t.at_
 ·rw [if_pos (hI _ _ _ _ hab ht he), he]
  have := lt_get (h _ _ ht)
  rw [List.getElem?_set_self this]
 ·rw [if_neg (by rintro ⟨rfl, rfl⟩; exact he rfl), List.getElem?_set_ne (fun e => he e.symm)]
  exact h a b hab

theorem dfsF_run {idx : Nat → Nat → Nat} {ok : Nat → Nat → Prop} {stp : Tr3 → Res} (hI : InjS idx ok) (hK : KeepS stp ok) : ∀ (f : Nat) (arr : List Bool) (stk : List Tr3) (s : Sn), 3 * arr.count false + stk.length ≤ f → RelS idx ok arr s → (∀ t ∈ stk, ok t.pc t.at_) → ∃ s', Run stp s stk (dfsF idx stp f arr stk).1 s' ∧ RelS idx ok (dfsF idx stp f arr stk).2 s' := by
 intro f
 induction f with
 | zero =>
  intro arr stk s h1 hr _
  have : stk = [] := List.length_eq_zero_iff.1 (by omega)
  subst this
  exact ⟨s, .nil, hr⟩
 | succ f ih =>
  intro arr stk s h1 hr hs
  cases stk with
  | nil => exact ⟨s, .nil, hr⟩
  | cons t stk =>
   have ht := hs t (List.mem_cons_self ..)
   have hs2 : ∀ u ∈ stk, ok u.pc u.at_ := fun u hu => hs u (List.mem_cons_of_mem _ hu)
   simp only [List.length_cons] at h1
   have hb := hr _ _ ht
   unfold dfsF
   rw [hb]
   cases hst : s t.pc t.at_ with
   | true =>
    obtain ⟨s', h2, h3⟩ := ih arr stk s (by omega) hr hs2
    exact ⟨s', .old hst h2, h3⟩
   | false =>
    rw [hst] at hb
    have hcnt := count_set hb
    simp only
    cases hS : stp t with
    | found => exact ⟨_, .found hst hS, hr.upd hI ht⟩
    | more l =>
     obtain ⟨hl, hok⟩ := hK t l ht hS
     obtain ⟨s', h2, h3⟩ := ih (arr.set (idx t.pc t.at_) true) (l ++ stk) (updS s t) (by rw [List.length_append]; omega) (hr.upd hI ht) (by
      intro u hu
      rcases List.mem_append.1 hu with hu | hu
      ·exact hok u hu
      ·exact hs2 u hu)
     exact ⟨s', .more hst hS h2, h3⟩

/-- closed, and nothing is found in it -/
def ClosedS (stp : Tr3 → Res) (V : Sn) : Prop := ∀ t, V t.pc t.at_ = true → ∃ l, stp t = .more l ∧ ∀ u ∈ l, V u.pc u.at_ = true
def outV (V : Sn) (t : Tr3) : Bool := !V t.pc t.at_

theorem run_pops {stp : Tr3 → Res} {V sP : Sn} (hV : ∀ a b, V a b = true → sP a b = true) : ∀ (stk : List Tr3), stk.filter (outV V) = [] → Run stp sP stk none sP := by
 intro stk
 induction stk with
 | nil => intro _; exact .nil
 | cons t stk ih =>
  intro h
  rw [List.filter_cons] at h
  split at h
  ·cases h
  ·rename_i hn
   simp only [outV, Bool.not_eq_true', Bool.not_eq_false] at hn
   exact .old (hV _ _ hn) (ih h)

theorem run_pop {stp : Tr3 → Res} {V : Sn} {t : Tr3} {rest : List Tr3} : ∀ (stk : List Tr3), stk.filter (outV V) = t :: rest → ∃ stk', stk'.filter (outV V) = rest ∧ ∀ (sP s' : Sn) (r : Option Cps), (∀ a b, V a b = true → sP a b = true) → Run stp sP (t :: stk') r s' → Run stp sP stk r s' := by
 intro stk
 induction stk with
 | nil => intro h; cases h
 | cons u stk ih =>
  intro h
  rw [List.filter_cons] at h
  split at h
  ·cases h
   exact ⟨stk, rfl, fun _ _ _ _ h => h⟩
  ·rename_i hn
   simp only [outV, Bool.not_eq_true', Bool.not_eq_false] at hn
   obtain ⟨stk', h1, h2⟩ := ih h
   exact ⟨stk', h1, fun sP s' r hV h => .old (hV _ _ hn) (h2 sP s' r hV h)⟩

theorem run_sim {stp : Tr3 → Res} {V : Sn} (hC : ClosedS stp V) {sR sR' : Sn} {stkR : List Tr3} {r : Option Cps} (h : Run stp sR stkR r sR') : ∀ (sP : Sn) (stkP : List Tr3), (∀ a b, sP a b = (sR a b || V a b)) → stkP.filter (outV V) = stkR.filter (outV V) → ∃ sP', Run stp sP stkP r sP' := by
 induction h with
 | @nil s =>
  intro sP stkP hs hk
  exact ⟨sP, run_pops (V := V) (fun a b h => by rw [hs, h, Bool.or_true]) stkP hk⟩
 | @old s s' t stk r ht _ ih =>
  intro sP stkP hs hk
  rw [List.filter_cons] at hk
  split at hk
  ·obtain ⟨stk', h1, h2⟩ := run_pop stkP hk
   obtain ⟨sP', h3⟩ := ih sP stk' hs h1
   exact ⟨sP', h2 sP sP' _ (fun a b h => by rw [hs, h, Bool.or_true]) (.old (by rw [hs, ht, Bool.true_or]) h3)⟩
  ·exact ih sP stkP hs hk
 | @found s t stk ht hf =>
  intro sP stkP hs hk
  rw [List.filter_cons] at hk
  split at hk
  ·rename_i ho
   simp only [outV, Bool.not_eq_true'] at ho
   obtain ⟨stk', h1, h2⟩ := run_pop stkP hk
   exact ⟨_, h2 sP _ _ (fun a b h => by rw [hs, h, Bool.or_true]) (.found (by rw [hs, ht, ho]; rfl) hf)⟩
  ·rename_i ho
   simp only [outV, Bool.not_eq_true', Bool.not_eq_false] at ho
   obtain ⟨l, hl, _⟩ := hC t ho
   rw [hf] at hl; cases hl
 | @more s s' t stk l r ht hm _ ih =>
  intro sP stkP hs hk
  rw [List.filter_cons] at hk
  split at hk
  ·rename_i ho
   simp only [outV, Bool.not_eq_true'] at ho
   obtain ⟨stk', h1, h2⟩ := run_pop stkP hk
   obtain ⟨sP', h3⟩ := ih (updS sP t) (l ++ stk') (by
    intro a b
    unfold updS
    split
    ·rfl
    ·exact hs a b) (by rw [List.filter_append, List.filter_append, h1])
   exact ⟨sP', h2 sP sP' _ (fun a b h => by rw [hs, h, Bool.or_true]) (.more (by rw [hs, ht, ho]; rfl) hm h3)⟩
  ·rename_i ho
   simp only [outV, Bool.not_eq_true', Bool.not_eq_false] at ho
   obtain ⟨l', hl, hcl⟩ := hC t ho
   rw [hm] at hl; cases hl
   refine ih sP stkP ?_ ?_
   ·intro a b
    unfold updS
    split
    ·rename_i he
     obtain ⟨rfl, rfl⟩ := he
     rw [hs, ho, Bool.or_true]; rfl
    ·exact hs a b
   ·rw [List.filter_append, hk]
    have : l.filter (outV V) = [] := by
     rw [List.filter_eq_nil_iff]
     intro u hu
     simp only [outV, hcl u hu, Bool.not_true, Bool.false_eq_true, not_false_eq_true]
    rw [this]; rfl

/-- all that was come to has been gone on from, or stands behind -/
def InvS (stp : Tr3 → Res) (s : Sn) (stk : List Tr3) : Prop := ∀ t, s t.pc t.at_ = true → ∃ l, stp t = .more l ∧ ∀ u ∈ l, s u.pc u.at_ = true ∨ ∃ w ∈ stk, w.pc = u.pc ∧ w.at_ = u.at_
/-- the places that a try carries do not matter -/
def FlatS (stp : Tr3 → Res) : Prop := ∀ t t' l, t.pc = t'.pc → t.at_ = t'.at_ → stp t = .more l → ∃ l', stp t' = .more l' ∧ ∀ u ∈ l', ∃ w ∈ l, w.pc = u.pc ∧ w.at_ = u.at_

theorem run_closed {stp : Tr3 → Res} (hU : FlatS stp) {s s' : Sn} {stk : List Tr3} {r : Option Cps} (h : Run stp s stk r s') : r = none → InvS stp s stk → ClosedS stp s' := by
 induction h with
 | nil =>
  intro _ h t ht
  obtain ⟨l, h1, h2⟩ := h t ht
  refine ⟨l, h1, fun u hu => ?_⟩
  rcases h2 u hu with h | ⟨w, hw, _⟩
  ·exact h
  ·cases hw
 | @old s s' t stk r ht _ ih =>
  intro hr h
  refine ih hr fun v hv => ?_
  obtain ⟨l, h1, h2⟩ := h v hv
  refine ⟨l, h1, fun u hu => ?_⟩
  rcases h2 u hu with h | ⟨w, hw, e1, e2⟩
  ·exact .inl h
  ·rcases List.mem_cons.1 hw with rfl | hw
   ·exact .inl (by rw [← e1, ← e2]; exact ht)
   ·exact .inr ⟨w, hw, e1, e2⟩
 | found _ _ => intro hr; cases hr
 | @more s s' t stk l r ht hm _ ih =>
  intro hr h
  refine ih hr fun v hv => ?_
  rcases upd_is hv with ⟨e1, e2⟩ | hv
  ·obtain ⟨l', h1, h2⟩ := hU t v l e1.symm e2.symm hm
   refine ⟨l', h1, fun u hu => ?_⟩
   obtain ⟨w, hw, e3⟩ := h2 u hu
   exact .inr ⟨w, List.mem_append_left _ hw, e3⟩
  ·obtain ⟨l', h1, h2⟩ := h v hv
   refine ⟨l', h1, fun u hu => ?_⟩
   rcases h2 u hu with h | ⟨w, hw, e1, e2⟩
   ·exact .inl (upd_old h)
   ·rcases List.mem_cons.1 hw with rfl | hw
    ·exact .inl (by rw [← e1, ← e2]; exact upd_self s w)
    ·exact .inr ⟨w, List.mem_append_right _ hw, e1, e2⟩

/-- from every place: kept or forgotten, the same is found -/
theorem find_eq {ok : Nat → Nat → Prop} {iP iR : Nat → Nat → Nat} {stp : Tr3 → Res} (hP : InjS iP ok) (hR : InjS iR ok) (hK : KeepS stp ok) (hU : FlatS stp) {fP fR start : Nat} {zero : List Bool} (hz : RelS iR ok zero (fun _ _ => false)) (hfR : 3 * zero.length + 1 ≤ fR) : ∀ (m i : Nat) (arr : List Bool) (V : Sn), RelS iP ok arr V → ClosedS stp V → (∀ j, j < i + m → ok start j) → 3 * arr.length + 1 ≤ fP → findP iP stp fP start m i arr = findR iR stp fR start zero m i := by
 intro m
 induction m with
 | zero => intro i arr V _ _ _ _; rfl
 | succ m ih =>
  intro i arr V hr hC hst hf
  have h0 : ∀ t ∈ [(⟨start, i, noCaps⟩ : Tr3)], ok t.pc t.at_ := by
   intro t ht
   simp only [List.mem_cons, List.not_mem_nil, or_false] at ht
   subst ht
   exact hst i (by omega)
  have hc1 := List.count_le_length (a := false) (l := arr)
  have hc2 := List.count_le_length (a := false) (l := zero)
  obtain ⟨sP, hrun, hrel⟩ := dfsF_run hP hK fP arr [⟨start, i, noCaps⟩] V (by simp only [List.length_cons, List.length_nil]; omega) hr h0
  obtain ⟨sR, hrun2, _⟩ := dfsF_run hR hK fR zero [⟨start, i, noCaps⟩] _ (by simp only [List.length_cons, List.length_nil]; omega) hz h0
  obtain ⟨sP2, hrun3⟩ := run_sim hC hrun2 V [⟨start, i, noCaps⟩] (fun a b => by rw [Bool.false_or]) rfl
  obtain ⟨he, _⟩ := hrun.one hrun3
  unfold findP findR
  rw [← he]
  cases hQ : (dfsF iP stp fP arr [⟨start, i, noCaps⟩]).1 with
  | some c => rfl
  | none =>
   rw [hQ] at hrun
   refine ih (i + 1) _ sP hrel (run_closed hU hrun rfl ?_) (fun j hj => hst j (by omega)) (by rw [dfsF_len]; exact hf)
   intro t ht
   obtain ⟨l, h1, h2⟩ := hC t ht
   exact ⟨l, h1, fun u hu => .inl (h2 u hu)⟩

theorem step_flat (code : List PIns) (gs : List (Nat × Nat)) (pl : List Int) : FlatS (stepS code gs pl) := by
 rintro ⟨pc, at_, c⟩ ⟨pc', at', c'⟩ l h1 h2 h
 simp only at h1 h2
 subst h1; subst h2
 unfold stepS at h ⊢
 simp only at h ⊢
 split at h
 ·cases h
  rename_i hn
  try rw [hn]
  exact ⟨[], rfl, fun u hu => by cases hu⟩
 ·rename_i i hi
  try rw [hi]
  try simp only
  have one : ∀ (v v' : Tr3), v.pc = v'.pc → v.at_ = v'.at_ → ∀ u ∈ [v'], ∃ w ∈ [v], w.pc = u.pc ∧ w.at_ = u.at_ := by
   intro v v' e1 e2 u hu
   simp only [List.mem_cons, List.not_mem_nil, or_false] at hu
   subst hu
   exact ⟨v, List.mem_cons_self .., e1, e2⟩
  have opt : ∀ (c : Prop) [Decidable c] (v v' : Tr3), v.pc = v'.pc → v.at_ = v'.at_ → ∀ u ∈ (if c then [v'] else []), ∃ w ∈ (if c then [v] else []), w.pc = u.pc ∧ w.at_ = u.at_ := by
   intro c _ v v' e1 e2 u hu
   by_cases hc : c
   ·rw [if_pos hc] at hu ⊢; exact one v v' e1 e2 u hu
   ·rw [if_neg hc] at hu; cases hu
  by_cases g1 : i.op = 7
  ·rw [if_pos g1] at h; cases h
  rw [if_neg g1] at h ⊢
  by_cases g2 : i.op = 2
  ·rw [if_pos g2] at h ⊢
   cases h
   refine ⟨_, rfl, fun u hu => ?_⟩
   simp only [List.mem_cons, List.not_mem_nil, or_false] at hu
   rcases hu with rfl | rfl
   ·exact ⟨_, List.mem_cons_self .., rfl, rfl⟩
   ·exact ⟨_, List.mem_cons_of_mem _ (List.mem_cons_self ..), rfl, rfl⟩
  rw [if_neg g2] at h ⊢
  by_cases g3 : i.op = 3
  ·rw [if_pos g3] at h ⊢
   cases h
   exact ⟨_, rfl, one _ _ rfl rfl⟩
  rw [if_neg g3] at h ⊢
  by_cases g4 : i.op = 4
  ·rw [if_pos g4] at h ⊢
   cases h
   exact ⟨_, rfl, one _ _ rfl rfl⟩
  rw [if_neg g4] at h ⊢
  by_cases g5 : i.op = 5
  ·rw [if_pos g5] at h ⊢
   cases h
   exact ⟨_, rfl, opt _ _ _ rfl rfl⟩
  rw [if_neg g5] at h ⊢
  by_cases g6 : i.op = 6
  ·rw [if_pos g6] at h ⊢
   cases h
   exact ⟨_, rfl, opt _ _ _ rfl rfl⟩
  rw [if_neg g6] at h ⊢
  cases h
  exact ⟨_, rfl, opt _ _ _ rfl rfl⟩

theorem mul_inj {n a b a' b' : Nat} (h1 : b < n) (h2 : b' < n) (h : a * n + b = a' * n + b') : a = a' ∧ b = b' := by
 have hb : b = b' := by
  have := congrArg (· % n) h
  simp only [Nat.mul_add_mod_self_right, Nat.mod_eq_of_lt h1, Nat.mod_eq_of_lt h2] at this
  exact this
 subst hb
 exact ⟨Nat.eq_of_mul_eq_mul_right (by omega) (by omega : a * n = a' * n), rfl⟩

theorem mul_lt {n m a b : Nat} (h1 : a < m) (h2 : b < n) : a * n + b < m * n := by
 have := Nat.mul_le_mul_right n (show a + 1 ≤ m by omega)
 rw [Nat.add_mul, Nat.one_mul] at this
 omega

/-- the two searches say the same -/
theorem find_same {p : Pg} (rule : Int) (b : List UInt8) : progFind p rule b = refFind p rule b := by
 unfold progFind refFind
 split
 ·rename_i h
  obtain ⟨h1, h2, h3⟩ := h
  have hR : RightQ p := dec_true h1
  generalize allS b = gs
  obtain ⟨ru, rfl⟩ := Int.eq_ofNat_of_zero_le h2
  obtain ⟨start, hs1⟩ : ∃ v, p.starts[ru]? = some v := ⟨p.starts[ru]'(by omega), List.getElem?_eq_getElem _⟩
  have hst := hR.st start (List.mem_of_getElem? hs1)
  have hgd : (p.starts.getD ((ru : Nat) : Int).toNat 0).toNat = start.toNat := by
   rw [Int.toNat_natCast, List.getD_eq_getElem?_getD, hs1]; rfl
  rw [hgd]
  refine find_eq (ok := fun a b => a < p.code.length ∧ b ≤ gs.length) ?_ ?_ ?_ (step_flat _ _ _) ?_ ?_ _ _ _ (fun _ _ => false) ?_ ?_ ?_ ?_
  ·rintro a b a' b' ⟨q1, q2⟩ ⟨q3, q4⟩ he
   obtain ⟨r1, r2⟩ := mul_inj q1 q3 he
   exact ⟨r2, r1⟩
  ·rintro a b a' b' ⟨q1, q2⟩ ⟨q3, q4⟩ he
   exact mul_inj (by omega) (by omega) he
  ·intro t l ht hl
   exact ⟨step_len _ _ _ _ _ hl, fun u hu => step_ok (p := p) hR ht l hl u hu⟩
  ·rintro a b ⟨q1, q2⟩
   unfold idxR
   rw [List.getElem?_replicate, if_pos (mul_lt q1 (by omega))]
  ·rw [List.length_replicate]; exact Nat.le_refl _
  ·rintro a b ⟨q1, q2⟩
   unfold idxP
   rw [List.getElem?_replicate, if_pos (mul_lt (by omega) q1)]
  ·intro t ht; cases ht
  ·intro j hj
   exact ⟨by omega, by omega⟩
  ·rw [List.length_replicate]; exact Nat.le_refl _
 ·rfl
end Go.Proofs.YtbdilgkfnacahaaGreat
