/-
  The relation between V's values and the model's: what it means, and that it is kept.
-/
import Derived.Test.YteaeandommcdcaaGreatVa
import Derived.WalkKit
namespace Go.V
set_option linter.unusedSimpArgs false
set_option linter.unusedVariables false
set_option linter.unusedSectionVars false
set_option linter.unnecessarySimpa false
open Go.RowKit

/-- what a value is read against: the boxes' versions, where they lie (none: nothing may name the box), which blocks nobody writes -/
structure X where
  ver : Nat → Option Nat
  β : Nat → Option (Nat × Nat)
  Z : Nat → Prop

def boxVer : Box → Option Nat
  | .mem v _ _ => some v
  | .iter _ _ => some 0
  | .map _ => some 0
  | _ => none

def St.ver (st : St) (k : Nat) : Option Nat := (st.bs[k]?).bind boxVer

def St.x (st : St) (β : Nat → Option (Nat × Nat)) (Z : Nat → Prop) : X := ⟨st.ver, β, Z⟩

def rowSize (w : World) (b : Nat) : Option Nat :=
  match w.heap[b]? with
  | some (.cells c _ _) => some c.size
  | _ => none

/-- without references -/
inductive IR (w : World) (Z : Nat → Prop) : D → Value → Prop where
  | bool (b : Bool) : IR w Z (.bool b) (.bool b)
  | int (k : IntKind) (n : Int) : IR w Z (.int k n) (.int k n)
  | str (s : List UInt8) : IR w Z (.str s) (.string ⟨s.toArray⟩)
  | nul : IR w Z .nul (.slice none 0 0)
  | pnil : IR w Z .pnil (.pointer none)
  | nilfn : IR w Z .nilfn .nilFunc
  | nilif : IR w Z .nilif .nilIface
  | emp (a : Option Addr) (cap : Nat) : IR w Z (.sl []) (.slice a 0 cap)
  | sl (es : List D) (b off cap s : Nat) (f : Nat → Nat → Value) (hz : Z b) (hc : es.length ≤ cap)
      (hs : ∀ (i : Nat) e, es[i]? = some e → e.cells? = some e.cells ∧ e.cells.length = s)
      (hv : ∀ (i : Nat) e (j : Nat) c, es[i]? = some e → e.cells[j]? = some c → w.cell? ⟨b, off + (i * s + j), none⟩ = some (f i j) ∧ (f i j).oneCell' = true)
      (hr : ∀ (i : Nat) e (j : Nat) c, es[i]? = some e → e.cells[j]? = some c → IR w Z c (f i j)) : IR w Z (.sl es) (.slice (some ⟨b, off, none⟩) es.length cap)
  | ep (cs : List D) (b off : Nat) (f : Nat → Value) (hz : Z b)
      (hv : ∀ (j : Nat) c, cs[j]? = some c → w.cell? ⟨b, off + j, none⟩ = some (f j) ∧ (f j).oneCell' = true)
      (hr : ∀ (j : Nat) c, cs[j]? = some c → IR w Z c (f j)) : IR w Z (.ep cs) (.pointer (some ⟨b, off, none⟩))
  | agg (cs : List D) (vs : List Value) (hl : cs.length = vs.length) (h1 : ∀ v ∈ vs, v.oneCell' = true)
      (hr : ∀ (i : Nat) c v, cs[i]? = some c → vs[i]? = some v → IR w Z c v) : IR w Z (.agg cs) (.agg vs.toArray)
  | tup (cs : List D) (vs : List Value) (hl : cs.length = vs.length)
      (hr : ∀ (i : Nat) c v, cs[i]? = some c → vs[i]? = some v → IR w Z c v) : IR w Z (.tup cs) (.tuple vs.toArray)
  | junk (v : Value) : IR w Z .junk v

inductive VR (w : World) (x : X) : D → Value → Prop where
  | im (d : D) (v : Value) (h : IR w x.Z d v) : VR w x d v
  | win (k vr off len s : Nat) (a : Addr) (cap : Nat) (hc : len ≤ cap) (hk : ∃ p, x.β k = some p) (hm : ∀ c, x.ver k = some c → vr ≤ c)
      (h : x.ver k = some vr → ∃ b base sz, x.β k = some (b, base) ∧ rowSize w b = some sz ∧ (cap = 0 ∨ (a = ⟨b, base + off, none⟩ ∧ base + off + cap * s ≤ sz))) :
      VR w x (.win k vr off len s) (.slice (some a) len cap)
  | ptr (k vr off : Nat) (a : Addr) (hk : ∃ p, x.β k = some p) (hm : ∀ c, x.ver k = some c → vr ≤ c)
      (h : x.ver k = some vr → ∃ b base, x.β k = some (b, base) ∧ a = ⟨b, base + off, none⟩) : VR w x (.ptr k vr off) (.pointer (some a))
  | mp (k r : Nat) (hk : ∃ p, x.β k = some p) (h : x.ver k = some 0 → ∃ base, x.β k = some (r, base)) : VR w x (.mp k) (.map (some r))
  | fn (f : Nat) (cs : List D) (vs : List Value) (hl : cs.length = vs.length)
      (hr : ∀ (i : Nat) c v, cs[i]? = some c → vs[i]? = some v → VR w x c v) : VR w x (.fn f cs) (.func (.func f) #[] vs.toArray)
  | agg (cs : List D) (vs : List Value) (hl : cs.length = vs.length) (h1 : ∀ v ∈ vs, v.oneCell' = true)
      (hr : ∀ (i : Nat) c v, cs[i]? = some c → vs[i]? = some v → VR w x c v) : VR w x (.agg cs) (.agg vs.toArray)
  | tup (cs : List D) (vs : List Value) (hl : cs.length = vs.length)
      (hr : ∀ (i : Nat) c v, cs[i]? = some c → vs[i]? = some v → VR w x c v) : VR w x (.tup cs) (.tuple vs.toArray)

theorem cell?_eq {w w' : World} {b o : Nat} (h : w'.heap[b]? = w.heap[b]?) : w'.cell? ⟨b, o, none⟩ = w.cell? ⟨b, o, none⟩ := by
  simp only [World.cell?, h]

theorem IR.mono {w w' : World} {Z Z' : Nat → Prop} (hz : ∀ b, Z b → Z' b ∧ w'.heap[b]? = w.heap[b]?) {d : D} {v : Value} (h : IR w Z d v) : IR w' Z' d v := by
  induction h with
  | bool b => exact .bool b
  | int k n => exact .int k n
  | str s => exact .str s
  | nul => exact .nul
  | pnil => exact .pnil
  | nilfn => exact .nilfn
  | nilif => exact .nilif
  | emp a cap => exact .emp a cap
  | sl es b off cap s f hb hc hs hv hr ih =>
    exact .sl es b off cap s f (hz b hb).1 hc hs (fun i e j c he hj => by rw [cell?_eq (hz b hb).2]; exact hv i e j c he hj) ih
  | ep cs b off f hb hv hr ih => exact .ep cs b off f (hz b hb).1 (fun j c hj => by rw [cell?_eq (hz b hb).2]; exact hv j c hj) ih
  | agg cs vs hl h1 hr ih => exact .agg cs vs hl h1 ih
  | tup cs vs hl hr ih => exact .tup cs vs hl ih
  | junk v => exact .junk v

/-- old values read on -/
structure Keeps (w : World) (x : X) (w' : World) (x' : X) : Prop where
  dm : ∀ k p, x.β k = some p → ∃ p', x'.β k = some p'
  z : ∀ b, x.Z b → x'.Z b ∧ w'.heap[b]? = w.heap[b]?
  ver : ∀ k c p, x.β k = some p → x'.ver k = some c → ∃ o, x.ver k = some o ∧ o ≤ c
  at_ : ∀ k c, x'.ver k = some c → x.ver k = some c → ∀ b base, x.β k = some (b, base) → x'.β k = some (b, base) ∧ rowSize w' b = rowSize w b

theorem Keeps.refl (w : World) (x : X) : Keeps w x w x :=
  ⟨fun _ p h => ⟨p, h⟩, fun _ h => ⟨h, rfl⟩, fun _ c _ _ h => ⟨c, h, Nat.le_refl _⟩, fun _ _ _ _ _ _ h => ⟨h, rfl⟩⟩

theorem Keeps.trans {w1 w2 w3 : World} {x1 x2 x3 : X} (h : Keeps w1 x1 w2 x2) (g : Keeps w2 x2 w3 x3) : Keeps w1 x1 w3 x3 where
  dm k p hp := by obtain ⟨p', hp'⟩ := h.dm k p hp; exact g.dm k p' hp'
  z b hb := ⟨(g.z b (h.z b hb).1).1, ((g.z b (h.z b hb).1).2).trans (h.z b hb).2⟩
  ver k c p hk hc := by
    obtain ⟨p', hp'⟩ := h.dm k p hk
    obtain ⟨o, ho, hle⟩ := g.ver k c p' hp' hc
    obtain ⟨q, hq, hle'⟩ := h.ver k o p hk ho
    exact ⟨q, hq, Nat.le_trans hle' hle⟩
  at_ k c h3 h1 b base hb := by
    obtain ⟨p', hp'⟩ := h.dm k _ hb
    obtain ⟨o, ho, hle⟩ := g.ver k c p' hp' h3
    obtain ⟨p, hp, hle'⟩ := h.ver k o _ hb ho
    rw [h1] at hp; cases hp
    have : o = c := Nat.le_antisymm hle hle'
    subst this
    obtain ⟨hb2, hs2⟩ := h.at_ k _ ho h1 b base hb
    obtain ⟨hb3, hs3⟩ := g.at_ k _ h3 ho b base hb2
    exact ⟨hb3, hs3.trans hs2⟩

theorem VR.mono {w w' : World} {x x' : X} (hk : Keeps w x w' x') {d : D} {v : Value} (h : VR w x d v) : VR w' x' d v := by
  induction h with
  | im d v h => exact .im d v (h.mono hk.z)
  | win k vr off len s a cap hc hkn hm h =>
    obtain ⟨p, hp⟩ := hkn
    refine .win k vr off len s a cap hc (hk.dm k p hp) ?_ ?_
    · intro c hcv
      obtain ⟨o, ho, hle⟩ := hk.ver k c p hp hcv
      exact Nat.le_trans (hm o ho) hle
    · intro hv
      obtain ⟨o, ho, hle⟩ := hk.ver k vr p hp hv
      have : o = vr := Nat.le_antisymm hle (hm o ho)
      subst this
      obtain ⟨b, base, sz, hb, hs, hr⟩ := h ho
      obtain ⟨hb', hs'⟩ := hk.at_ k _ hv ho b base hb
      exact ⟨b, base, sz, hb', hs'.trans hs, hr⟩
  | ptr k vr off a hkn hm h =>
    obtain ⟨p, hp⟩ := hkn
    refine .ptr k vr off a (hk.dm k p hp) ?_ ?_
    · intro c hcv
      obtain ⟨o, ho, hle⟩ := hk.ver k c p hp hcv
      exact Nat.le_trans (hm o ho) hle
    · intro hv
      obtain ⟨o, ho, hle⟩ := hk.ver k vr p hp hv
      have : o = vr := Nat.le_antisymm hle (hm o ho)
      subst this
      obtain ⟨b, base, hb, hr⟩ := h ho
      exact ⟨b, base, (hk.at_ k _ hv ho b base hb).1, hr⟩
  | mp k r hkn h =>
    obtain ⟨p, hp⟩ := hkn
    refine .mp k r (hk.dm k p hp) fun hv => ?_
    obtain ⟨o, ho, hle⟩ := hk.ver k 0 p hp hv
    have : o = 0 := by omega
    subst this
    obtain ⟨base, hb⟩ := h ho
    exact ⟨base, (hk.at_ k _ hv ho r base hb).1⟩
  | fn f cs vs hl hr ih => exact .fn f cs vs hl ih
  | agg cs vs hl h1 hr ih => exact .agg cs vs hl h1 ih
  | tup cs vs hl hr ih => exact .tup cs vs hl ih

theorem VR.junk (w : World) (x : X) (v : Value) : VR w x .junk v := .im _ _ (.junk v)

/-- nothing of a row is frozen -/
def FrOk (n : Nat) (fr : Nat × Nat) : Prop := fr.1 ≤ fr.2 ∧ ∀ o, o < n → ¬ (fr.1 ≤ o ∧ o < fr.2)

theorem FrOk.zero (n : Nat) : FrOk n (0, 0) := ⟨Nat.le_refl _, fun o _ => by omega⟩

/-- a box and its block -/
def BoxOk (w : World) (x : X) (b base : Nat) : Box → Prop
  | .mem _ _ cells => ∃ c el fr, w.heap[b]? = some (.cells c el fr) ∧ base + cells.length ≤ c.size ∧ FrOk c.size fr ∧
      ∀ (j : Nat) d, cells[j]? = some d → ∃ u, c[base + j]? = some u ∧ u.oneCell' = true ∧ VR w x d u
  | .iter s pos => base = 0 ∧ w.heap[b]? = some (.stringIter ⟨s.toArray⟩ pos)
  | .map es => base = 0 ∧ ∃ entries clock, w.heap[b]? = some (.map entries clock) ∧ entries.size = es.length ∧ ∀ (i : Nat) p, es[i]? = some p → ∃ kk n vk x e, p = (.int kk n, .int vk x) ∧ entries[i]? = some e ∧ e.key = .int kk n ∧ e.val = .int vk x
  | .dead => False

structure Sim (w : World) (st : St) (β : Nat → Option (Nat × Nat)) (Z : Nat → Prop) : Prop where
  dom : ∀ k b base, β k = some (b, base) → k < st.bs.length
  lt : ∀ k b base, β k = some (b, base) → b < w.heap.size
  inj : ∀ k k' b x x', β k = some (b, x) → β k' = some (b, x') → k = k'
  zd : ∀ k b base, β k = some (b, base) → ¬ Z b
  zl : ∀ b, Z b → b < w.heap.size
  box : ∀ k b base bx, β k = some (b, base) → st.bs[k]? = some bx → BoxOk w (st.x β Z) b base bx
  flr : st.flr ≤ st.bs.length
  ro : st.ro ≤ st.bs.length

/-- what is not in a box (that may be written) stays -/
structure Evo (M : Nat → Prop) (w w' : World) : Prop where
  os : w'.os = w.os
  tape : w'.tape = w.tape
  output : w'.output = w.output
  size : w.heap.size ≤ w'.heap.size
  block : ∀ b, b < w.heap.size → ¬ M b → w'.heap[b]? = w.heap[b]?

theorem Evo.refl (M : Nat → Prop) (w : World) : Evo M w w := ⟨rfl, rfl, rfl, Nat.le_refl _, fun _ _ _ => rfl⟩

theorem Evo.trans {M M' M'' : Nat → Prop} {w1 w2 w3 : World} (h : Evo M w1 w2) (g : Evo M' w2 w3) (hM : ∀ b, M b → M'' b) (hM' : ∀ b, b < w1.heap.size → M' b → M'' b) : Evo M'' w1 w3 :=
  ⟨g.os.trans h.os, g.tape.trans h.tape, g.output.trans h.output, Nat.le_trans h.size g.size, fun b hb hn =>
    (g.block b (Nat.lt_of_lt_of_le hb h.size) fun hm => hn (hM' b hb hm)).trans (h.block b hb fun hm => hn (hM b hm))⟩

theorem Evo.mono {M M' : Nat → Prop} {w w' : World} (h : Evo M w w') (hM : ∀ b, M b → M' b) : Evo M' w w' :=
  ⟨h.os, h.tape, h.output, h.size, fun b hb hn => h.block b hb fun hm => hn (hM b hm)⟩

/-- the blocks that may be written -/
def wrt (st : St) (β : Nat → Option (Nat × Nat)) (b : Nat) : Prop := ∃ k base, β k = some (b, base) ∧ st.ro ≤ k

/-- the frame -/
def FrR (w : World) (x : X) (fr : Fr) (tmps : Array Value) : Prop := ∀ t, VR w x (fr.get t) (tmps.getD t undef)

theorem FrR.mono {w w' : World} {x x' : X} {fr : Fr} {tmps : Array Value} (h : FrR w x fr tmps) (hk : Keeps w x w' x') : FrR w' x' fr tmps := fun t => (h t).mono hk

end Go.V
