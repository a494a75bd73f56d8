/-
  Each operation of V is one of the model's: reading, computing.
-/
import Derived.Test.YteaeandommcdcaaGreatVb
import Derived.WalkLawsBesides
namespace Go.V
set_option linter.unusedSimpArgs false
set_option linter.unusedVariables false
set_option linter.unusedSectionVars false
set_option linter.unnecessarySimpa false
open Go.RowKit

structure Pv.Ok (pv : Pv) (P : Program) : Prop where
  ty : ∀ t i, pv.info t = some i → P.info? t = some i
  fs : ∀ f x, pv.fi f = some x → x.prim = none → P.funcs[f]? = some x.fn ∧ ∀ b, x.fn.body = some b → x.fn.name ≠ "runtime.NumGoroutine"
  eqb : ∀ t, pv.eqb.contains t = true → P.stoodInHeld t = false ∧ P.eqGuardType P.depth t = false
  mixed : P.follows .mixedOrders = true

section
variable {pv : Pv} {P : Program} (ok : pv.Ok P)
include ok

theorem und_ok {t : Nat} {d : TypeDesc} (h : pv.und t = some d) : P.underlying t = some d := by
  unfold Pv.und at h
  unfold Program.underlying
  cases hi : pv.info t with
  | none => simp [hi] at h
  | some i =>
    rw [ok.ty t i hi]
    simp only [hi] at h
    obtain ⟨desc, str, size, bytes, hp, al, fa, z, cmp, ms⟩ := i
    cases desc with
    | named nm u =>
      simp only at h
      cases hu : pv.info u with
      | none => simp [hu] at h
      | some j => rw [hu] at h; simp only [ok.ty u j hu]; simpa using h
    | _ => simpa using h

theorem run_und {t : Nat} {d : TypeDesc} (h : pv.und t = some d) (w : World) : (underlying t).run P w = .ok d w := by
  simp [underlying, und_ok ok h]

theorem run_info {t : Nat} {i : TypeInfo} (h : pv.info t = some i) (w : World) : (typeInfo t).run P w = .ok i w := by
  simp [typeInfo, ok.ty t i h]

theorem run_size {t n : Nat} (h : szOf pv t = some n) (w : World) : (sizeOf t).run P w = .ok n w := by
  unfold szOf at h
  cases hi : pv.info t with
  | none => simp [hi] at h
  | some i => simp only [hi, Option.some.injEq] at h; simp [sizeOf, run_info ok hi, h]

omit ok in
theorem size_of_info {t : Nat} {i : TypeInfo} (h : pv.info t = some i) : szOf pv t = some i.size := by simp [szOf, h]

def isAggD (d : TypeDesc) : Bool :=
  match d with
  | .struct _ | .array _ _ => true
  | _ => false

theorem run_agg {t : Nat} {d : TypeDesc} (h : pv.und t = some d) (w : World) : (isAgg t).run P w = .ok (isAggD d) w := by
  simp only [isAgg, Sem.run_bind, run_und ok h, Result.andThen_ok]
  cases d <;> rfl

theorem run_zero {t : Nat} {z : D} (h : zeroD pv t = some z) (w : World) : ∃ v, (zeroValue t).run P w = .ok v w ∧ z = ofVal v := by
  unfold zeroD at h
  cases hi : pv.info t with
  | none => simp [hi] at h
  | some i =>
    rw [hi] at h
    cases hz : i.zero with
    | none => simp [hz] at h
    | some v => simp [hz] at h; exact ⟨v, by simp [zeroValue, run_info ok hi, hz], h.symm⟩
end

theorem oneC_eq (v : Value) : oneC v = v.oneCell' := by cases v <;> rfl

theorem ofCell_ir (w : World) (Z : Nat → Prop) (v : Value) (h : oneC v = true) : IR w Z (ofCell v) v := by
  cases v with
  | bool b => exact .bool b
  | int k n => exact .int k n
  | string s =>
    have := IR.str (w := w) (Z := Z) s.data.toList
    simpa [ofCell] using this
  | pointer a => cases a with
    | none => exact .pnil
    | some a => exact .junk _
  | slice a l c =>
    unfold ofCell
    split <;> first | contradiction | skip
    all_goals first | (rename_i h; cases h; exact .nul) | exact .junk _
  | nilFunc => exact .nilfn
  | nilIface => exact .nilif
  | _ => exact .junk _

theorem ofCells_spec {l : List Value} : ∀ {r : List D}, ofCells l = some r → r.length = l.length ∧ (∀ v ∈ l, v.oneCell' = true) ∧ ∀ (w : World) (Z : Nat → Prop) (i : Nat) c v, r[i]? = some c → l[i]? = some v → IR w Z c v := by
  induction l with
  | nil => intro r h; simp [ofCells] at h; subst h; simp
  | cons v l ih =>
    intro r h
    unfold ofCells at h
    cases h1 : oneC v with
    | false => simp [h1] at h
    | true =>
      simp only [h1] at h
      cases hr : ofCells l with
      | none => simp [hr] at h
      | some r' =>
        simp only [hr, Option.some.injEq] at h
        subst h
        obtain ⟨hl, ho, hi⟩ := ih hr
        refine ⟨by simp [hl], ?_, ?_⟩
        · intro u hu
          rcases List.mem_cons.1 hu with rfl | hu
          · rw [← oneC_eq]; exact h1
          · exact ho u hu
        · intro w Z i c u hc hu
          cases i with
          | zero => simp at hc hu; subst hc; subst hu; exact ofCell_ir w Z _ h1
          | succ i => simp at hc hu; exact hi w Z i c u hc hu

theorem ofVal_ir (w : World) (Z : Nat → Prop) (v : Value) : IR w Z (ofVal v) v := by
  unfold ofVal
  split
  · rename_i cs
    split
    · rename_i l hl
      obtain ⟨h1, h2, h3⟩ := ofCells_spec hl
      have := IR.agg (w := w) (Z := Z) l cs.toList h1 h2 (h3 w Z)
      simpa using this
    · exact .junk _
  · rename_i hn
    by_cases h : oneC v = true
    · exact ofCell_ir w Z v h
    · cases v with
      | agg cs => exact absurd rfl (hn cs)
      | tuple vs => exact .junk _
      | _ => simp [oneC] at h

theorem ev_ok {w : World} {x : X} {fr : Fr} {a : Act} (h : FrR w x fr a.tmps) (o : Operand) : VR w x (fr.ev o) (a.eval o) := by
  cases o with
  | tmp t => exact h t
  | const v => exact .im _ _ (ofVal_ir _ _ v)
  | global g => exact .junk _ _ _
  | func f => exact .fn f [] [] rfl (by simp)

theorem nth_set (d e : D) : ∀ (l : List D) (t u : Nat), nth d (l.set t e) u = if u = t ∧ t < l.length then e else nth d l u
  | [], t, u => by simp
  | x :: l, 0, u => by cases u <;> simp [nth]
  | x :: l, t + 1, u => by
    cases u with
    | zero => simp [nth]
    | succ u => simp only [List.set_cons_succ, nth, List.length_cons, Nat.add_lt_add_iff_right, Nat.add_right_cancel_iff]; exact nth_set d e l t u

theorem nth_out (d : D) : ∀ (l : List D) (t : Nat), l.length ≤ t → nth d l t = d
  | [], t, _ => by cases t <;> rfl
  | x :: l, 0, h => by simp at h
  | x :: l, t + 1, h => nth_out d l t (by simpa using h)

theorem get_put (fr : Fr) (t u : Nat) (d : D) : (fr.put t d).get u = (if u = t then (if Nat.ble fr.n t = false ∧ fr.loc.length ≤ t then .junk else d) else fr.get u) := by
  unfold Fr.put
  by_cases hut : u = t
  · subst hut
    simp only [if_true]
    cases hb : Nat.ble fr.n u with
    | false =>
      simp only [Fr.get, hb, nth_set, true_and]
      by_cases hl : u < fr.loc.length
      · rw [if_pos hl, if_neg (by omega)]
      · rw [if_neg hl, if_pos (by omega)]; exact nth_out _ _ _ (by omega)
    | true => simp [Fr.get, hb, look, Nat.beq_refl]
  · simp only [hut, if_false]
    have hq : Nat.beq u t = false := by
      cases hq : Nat.beq u t with
      | false => rfl
      | true => exact absurd (Nat.eq_of_beq_eq_true hq) hut
    cases hb : Nat.ble fr.n t <;> cases hbu : Nat.ble fr.n u <;> simp [Fr.get, hbu, look, hq, nth_set, hut]

theorem put_ok {w : World} {x : X} {fr : Fr} {a : Act} {d : D} {v : Value} (h : FrR w x fr a.tmps) (hd : VR w x d v) (dst : Option Nat)
    (hs : ∀ t, dst = some t → t < a.tmps.size) : FrR w x (fr.putO dst d) (a.put dst v).tmps := by
  cases dst with
  | none => exact h
  | some t =>
    intro u
    have hu := h u
    have hs := hs t rfl
    simp only [Fr.putO, Act.put, get_put]
    have hreal : (a.tmps.setIfInBounds t v).getD u undef = if u = t then v else a.tmps.getD u undef := by
      simp only [Array.getD_eq_getD_getElem?, Array.getElem?_setIfInBounds]
      by_cases hut : t = u
      · subst hut; simp [hs]
      · have : ¬ u = t := fun e => hut e.symm
        simp [hut, this]
    rw [hreal]
    by_cases hut : u = t
    · simp only [hut, if_true]
      split
      · exact .junk _ _ _
      · exact hd
    · simp only [hut, if_false]; exact hu

theorem putO_loc (fr : Fr) (dst : Option Nat) (d : D) : (fr.putO dst d).n = fr.n := by
  cases dst with
  | none => rfl
  | some t => unfold Fr.putO Fr.put; dsimp only; split <;> rfl
end Go.V
