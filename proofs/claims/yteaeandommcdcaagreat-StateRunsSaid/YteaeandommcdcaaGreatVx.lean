/-
  Code: V's way through it is the model's.
-/
import Derived.Test.YteaeandommcdcaaGreatVw
namespace Go.V
set_option linter.unusedSimpArgs false
set_option linter.unusedVariables false
set_option linter.unusedSectionVars false
set_option linter.unnecessarySimpa false
open Go.RowKit

def Out.ex : Out → Exit
  | .next => .normal
  | .exit id => .exit id
  | .ret => .ret

/-- the static look at code, for a frame of n slots -/
def codeOk (pv : Pv) (dyn : List (Nat × List (Nat × Nat))) (n : Nat) : Code → Bool
  | .region id ops d => (ops.toList.all fun o => match o.dst with | some t => Nat.blt t n | none => true) && (!d || okReg pv ops (lookDy id dyn))
  | .seq a b => codeOk pv dyn n a && codeOk pv dyn n b
  | .cond _ a b => codeOk pv dyn n a && codeOk pv dyn n b
  | .block _ c => codeOk pv dyn n c
  | .loop c => codeOk pv dyn n c
  | _ => true

theorem dstOk_of {l : List Oper} {n : Nat} (h : (l.all fun o => match o.dst with | some t => Nat.blt t n | none => true) = true) : dstOk l n := by
  intro o ho t hd
  have := List.all_eq_true.1 h o ho
  rw [hd] at this
  simp only at this
  exact Nat.le_of_ble_eq_true this

theorem least (p : Nat → Prop) : ∀ n, p n → ∃ m, p m ∧ ∀ k, p k → m ≤ k := by
  intro n
  induction n using Nat.strongRecOn with
  | _ n ih =>
    intro hn
    by_cases h : ∃ k, k < n ∧ p k
    · obtain ⟨k, hk, hp⟩ := h
      exact ih k hk hp
    · refine ⟨n, hn, fun k hk => ?_⟩
      rcases Nat.lt_or_ge k n with h' | h'
      · exact absurd ⟨k, h', hk⟩ h
      · exact h'

open Classical in
noncomputable def mu (p : Nat → Prop) : Nat := if h : ∃ m, p m ∧ ∀ k, p k → m ≤ k then Classical.choose h else 0

theorem mu_spec {p : Nat → Prop} {n : Nat} (h : p n) : p (mu p) ∧ ∀ k, p k → mu p ≤ k := by
  have he := least p n h
  unfold mu
  rw [dif_pos he]
  exact Classical.choose_spec he

theorem clean_ok {w : World} {x : X} {fr : Fr} {tmps : Array Value} (h : FrR w x fr tmps) : FrR w x fr.clean tmps := by
  intro t
  have := h t
  simp only [Fr.clean, Fr.get] at this ⊢
  cases hb : Nat.ble fr.n t with
  | false => rw [hb] at this; exact this
  | true => exact .junk _ _ _

section
variable {pv : Pv} {P : Program} (ok : pv.Ok P) {cf : CallF} (hcf : CfOk P pv cf)
include hcf

theorem opsD_goes {ops : Array Oper} : ∀ {l : List Oper} {fr fr' : Fr} {st st' : St}, opsD pv cf ops l fr st = some (fr', st') → Goes st st'
  | [], fr, fr', st, st', h => by simp only [opsD] at h; cases h; exact .refl _
  | o :: l, fr, fr', st, st', h => by
    simp only [opsD] at h
    split at h
    · split at h
      · rename_i hop; exact (operD_goes hcf hop).1.trans (opsD_goes h)
      · cases h
    · exact opsD_goes h
    · cases h

omit hcf in
theorem iter_goes {step : Fr → St → Option (Out × Fr × St)} (hs : ∀ fr st out fr' st', step fr st = some (out, fr', st') → Goes st st') : ∀ (m : Nat) {fr fr' : Fr} {st st' : St} {out : Out}, iter step m fr st = some (out, fr', st') → Goes st st'
  | 0, _, _, _, _, _, h => by cases h
  | m + 1, fr, fr', st, st', out, h => by
    simp only [iter] at h
    split at h
    · rename_i h1; exact (hs _ _ _ _ _ h1).trans (iter_goes hs m h)
    · exact hs _ _ _ _ _ h

theorem code_goes (dyn : List (Nat × List (Nat × Nat))) (n : Nat) : ∀ (c : Code) {fr fr' : Fr} {st st' : St} {out : Out}, codeD pv cf dyn n c fr st = some (out, fr', st') → Goes st st' := by
  intro c
  induction c with
  | skip => intro fr fr' st st' out h; simp only [codeD] at h; cases h; exact .refl _
  | region id ops d =>
    intro fr fr' st st' out h
    simp only [codeD] at h
    split at h
    · rename_i hop; cases h; exact opsD_goes hcf (regD_ops hop)
    · cases h
  | seq a b iha ihb =>
    intro fr fr' st st' out h
    simp only [codeD] at h
    split at h
    · rename_i h1; exact (iha h1).trans (ihb h)
    · exact iha h
  | cond c a b iha ihb =>
    intro fr fr' st st' out h
    simp only [codeD] at h
    split at h
    · exact iha h
    · exact ihb h
    · cases h
  | block id c ih =>
    intro fr fr' st st' out h
    simp only [codeD] at h
    split at h
    · rename_i h1
      split at h <;> cases h <;> exact ih h1
    · exact ih h
  | loop c ih =>
    intro fr fr' st st' out h
    simp only [codeD] at h
    exact iter_goes (fun _ _ _ _ _ => ih) n h
  | exit id => intro fr fr' st st' out h; simp only [codeD] at h; cases h; exact .refl _
  | ret => intro fr fr' st st' out h; simp only [codeD] at h; cases h; exact .refl _
  | _ => intro fr fr' st st' out h; simp only [codeD] at h; cases h

include ok

theorem code_ok (dyn : List (Nat × List (Nat × Nat))) (n sz : Nat) : ∀ (c : Code), codeOk pv dyn sz c = true → ∀ {fr fr' : Fr} {st st' : St} {out : Out}, codeD pv cf dyn n c fr st = some (out, fr', st') →
    ∀ {w : World} {β : Nat → Option (Nat × Nat)} {Z : Nat → Prop} {a : Act} {Q : Exit → Act → World → Prop}, Sim w st β Z → FrR w (st.x β Z) fr a.tmps → a.tmps.size = sz →
    (∀ a' w' β' Z', Nx w st β Z w' st' β' Z' → FrR w' (st'.x β' Z') fr' a'.tmps → a'.defers = a.defers → a'.tmps.size = sz → Q out.ex a' w') → c.wp P Q a w := by
  intro c
  induction c with
  | skip =>
    intro _ fr fr' st st' out h w β Z a Q hs hf hz K
    simp only [codeD] at h; cases h
    exact wp_skip (K a w β Z (Nx.same hs) hf rfl hz)
  | region id ops d =>
    intro hc fr fr' st st' out h w β Z a Q hs hf hz K
    simp only [codeD] at h
    simp only [codeOk, Bool.and_eq_true] at hc
    have hd := dstOk_of hc.1
    split at h
    · rename_i fr1 st1 hop
      cases h
      cases d with
      | true =>
        have hreg : okReg pv ops (lookDy id dyn) = true := by simpa using hc.2
        exact draw_ok ok hcf hreg hop hs (clean_ok hf) (by rw [hz]; exact hd) fun a' w' β' Z' h1 h2 h3 h4 => K a' w' β' Z' h1 h2 h3 (h4.trans hz)
      | false =>
        refine wp_region ?_
        have := ops_ok ok hcf (ops := ops) (Q := Q) ops.toList 0 _ _ st _ β Z a w (fun j => by simp) (regD_ops hop) hs (clean_ok hf) (by rw [hz]; exact hd) fun a' w' β' Z' h1 h2 h3 h4 => K a' w' β' Z' h1 h2 h3 (h4.trans hz)
        rw [List.range_eq_range']
        simpa using this
    · cases h
  | seq x y ihx ihy =>
    intro hc fr fr' st st' out h w β Z a Q hs hf hz K
    simp only [codeOk, Bool.and_eq_true] at hc
    simp only [codeD] at h
    refine wp_seq ?_
    split at h
    · rename_i fr1 st1 h1
      refine ihx hc.1 h1 hs hf hz fun a' w' β' Z' hn hf' hd hz' => ?_
      exact ihy hc.2 h hn.sim hf' hz' fun a'' w'' β'' Z'' hn' hf'' hd' hz'' => K a'' w'' β'' Z'' (hn.trans hn') hf'' (hd'.trans hd) hz''
    · rename_i hne
      refine ihx hc.1 h hs hf hz fun a' w' β' Z' hn hf' hd hz' => ?_
      have hK := K a' w' β' Z' hn hf' hd hz'
      cases out with
      | next => exact (hne _ _ h).elim
      | exit id => exact hK
      | ret => exact hK
  | cond c x y ihx ihy =>
    intro hc fr fr' st st' out h w β Z a Q hs hf hz K
    simp only [codeOk, Bool.and_eq_true] at hc
    simp only [codeD] at h
    have hv := ev_ok hf c
    split at h
    · rename_i hb; rw [hb] at hv; exact wp_cond_true (vr_bool hv) (ihx hc.1 h hs hf hz K)
    · rename_i hb; rw [hb] at hv; exact wp_cond_false (vr_bool hv) (ihy hc.2 h hs hf hz K)
    · cases h
  | block id c ih =>
    intro hc fr fr' st st' out h w β Z a Q hs hf hz K
    simp only [codeOk] at hc
    simp only [codeD] at h
    refine wp_block ?_
    split at h
    · rename_i i fr1 st1 h1
      refine ih hc h1 hs hf hz fun a' w' β' Z' hn hf' hd hz' => ?_
      simp only [Out.ex, Exit.inBlock]
      split at h
      · rename_i hi; cases h; rw [if_pos hi]; exact K a' w' β' Z' hn hf' hd hz'
      · rename_i hi; cases h; rw [if_neg hi]; exact K a' w' β' Z' hn hf' hd hz'
    · rename_i hne
      refine ih hc h hs hf hz fun a' w' β' Z' hn hf' hd hz' => ?_
      have hK := K a' w' β' Z' hn hf' hd hz'
      cases out with
      | next => exact hK
      | exit id => exact (hne _ _ _ h).elim
      | ret => exact hK
  | loop c ih =>
    intro hc fr fr' st st' out h w β Z a Q hs hf hz K
    simp only [codeOk] at hc
    simp only [codeD] at h
    let J : Nat → Act → World → Prop := fun m a1 w1 => ∃ fr1 st1 β1 Z1, iter (codeD pv cf dyn n c) m fr1 st1 = some (out, fr', st') ∧ Nx w st β Z w1 st1 β1 Z1 ∧ FrR w1 (st1.x β1 Z1) fr1 a1.tmps ∧ a1.defers = a.defers ∧ a1.tmps.size = sz
    refine wp_loop (fun a1 w1 => ∃ m, J m a1 w1) (fun a1 w1 => mu fun m => J m a1 w1) ⟨n, fr, st, β, Z, h, Nx.same hs, hf, rfl, hz⟩ ?_
    rintro a1 w1 ⟨m0, hm0⟩
    obtain ⟨⟨fr1, st1, β1, Z1, h1, hn1, hf1, hd1, hz1⟩, _⟩ := mu_spec (p := fun m => J m a1 w1) hm0
    generalize hmu : mu (fun m => J m a1 w1) = m at h1
    cases m with
    | zero => cases h1
    | succ m =>
      simp only [iter] at h1
      split at h1
      · rename_i fr2 st2 h2
        refine ih hc h2 hn1.sim (clean_ok hf1) hz1 fun a' w' β' Z' hn hf' hd hz' => ?_
        have hJ : J m a' w' := ⟨fr2, st2, β', Z', h1, hn1.trans hn, hf', hd.trans hd1, hz'⟩
        have := (mu_spec (p := fun m => J m a' w') hJ).2 m hJ
        exact ⟨⟨m, hJ⟩, by omega⟩
      · rename_i hne
        refine ih hc h1 hn1.sim (clean_ok hf1) hz1 fun a' w' β' Z' hn hf' hd hz' => ?_
        have hK := K a' w' β' Z' (hn1.trans hn) hf' (hd.trans hd1) hz'
        cases out with
        | next => exact (hne _ _ h1).elim
        | exit id => exact hK
        | ret => exact hK
  | exit id =>
    intro _ fr fr' st st' out h w β Z a Q hs hf hz K
    simp only [codeD] at h; cases h
    exact wp_exit (K a w β Z (Nx.same hs) hf rfl hz)
  | ret =>
    intro _ fr fr' st st' out h w β Z a Q hs hf hz K
    simp only [codeD] at h; cases h
    exact wp_ret (K a w β Z (Nx.same hs) hf rfl hz)
  | _ => intro _ fr fr' st st' out h; simp only [codeD] at h; cases h
end
end Go.V
