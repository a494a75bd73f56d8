/-
 Nodes as arguments.
-/
import Derived.Test.YtbdilgkfnacahaaAr
import Derived.Test.YtbdilgkfnacahaaQa
namespace Go.Proofs.Ytbdilgkfnacahaa
open Go.V Go Go.RowKit
set_option maxRecDepth 100000
set_option linter.unusedSimpArgs false
set_option linter.unusedVariables false

variable {H : Type} {enc : TypeId × Value → H} {w : World} {spare : Nat → Bool} {held : Bool} {d : DataW H}

theorem wf_i64 {n : Int} (h : (Lit.int .i64 n).wf = true) : -9223372036854775808 ≤ n ∧ n ≤ 9223372036854775807 := by
 have : -9223372036854775808 ≤ n ∧ n ≤ 9223372036854775807 := by simpa [Lit.wf, IntKind.min, IntKind.max, IntKind.signed, IntKind.bits] using h
 exact this

theorem arg_nod (h : Rd enc Try.prog w spare held 72 d) : ∃ n : Nod, (dval d).cells? = some (dval d).cells ∧ (dval d).cells = nodC n ∧ SlD n.rd 2 (n.rs.map rangeC) ∧ n.rs.length ≤ Rows.uptoBulk d ∧ n.kids ≤ 9223372036854775807 := by
 obtain ⟨parts, rfl, hp⟩ := h.struct Try.underlying72
 cases hp with
 | cons a hp => cases hp with
  | cons b hp => cases hp with
   | cons c hp => cases hp with
    | cons e hp => cases hp with
     | cons f hp => cases hp with
      | cons g hp => cases hp with
       | cons i hp => cases hp with
        | nil =>
         rename_i d1 d2 d3 d4 d5 d6 d7
         obtain ⟨x, rfl, _⟩ := a.int Try.underlying3
         obtain ⟨rs, h1, h2⟩ := arg_ranges b
         obtain ⟨y, rfl, _⟩ := c.int Try.underlying3
         obtain ⟨z, rfl, _⟩ := e.int Try.underlying3
         obtain ⟨u, rfl⟩ := f.bool Try.underlying4
         obtain ⟨v, rfl, _⟩ := g.int Try.underlying3
         obtain ⟨q, rfl, hq⟩ := i.int Try.underlying3
         refine ⟨⟨x, dval d2, rs, y, z, u, v, q⟩, rfl, ?_, h1, ?_, (wf_i64 hq).2⟩
         ·have h3 : dcs d2 = [dval d2] := by
           rcases b.slice Try.underlying36 with rfl | ⟨elems, rest, rfl, he⟩ <;> rfl
          show dcs _ ++ (dcs d2 ++ (dcs _ ++ (dcs _ ++ (dcs _ ++ (dcs _ ++ (dcs _ ++ [])))))) = _
          rw [h3]; rfl
         ·simp only [Rows.uptoBulk, Rows.uptoBulkAll]; omega

theorem arg_nodes (h : Rd enc Try.prog w spare held 24 d) : ∃ x : Nl, dval d = x.d ∧ (Rows.uptoBulk d ≤ 1048576 → x.ok) := by
 rcases h.slice Try.underlying24 with rfl | ⟨elems, rest, rfl, he⟩
 ·exact ⟨⟨_, []⟩, rfl, fun _ => ⟨.inl ⟨rfl, rfl⟩, fun n hn => (by cases hn), by simp⟩⟩
 ·obtain ⟨l, h1, h2, h3⟩ := sl_of (s := 7) (f := nodC) (Q := fun (n : Nod) x => SlD n.rd 2 (n.rs.map rangeC) ∧ n.rs.length ≤ Rows.uptoBulk x ∧ n.kids ≤ 9223372036854775807) (rest := rest) fun x hx => by
   obtain ⟨a, h1, h2, h3, h4, h5⟩ := arg_nod (he x hx)
   exact ⟨a, h1, h2, rfl, h3, h4, h5⟩
  refine ⟨⟨_, l⟩, rfl, fun hb => ⟨h1, fun n hn => ?_, ?_⟩⟩
  ·obtain ⟨x, hx, h4, h5, h6⟩ := h3 n hn
   have := bulk_all hx
   simp only [Rows.uptoBulk] at hb
   exact ⟨h4, by omega, h6⟩
  ·have := bulk_len elems
   simp only [Rows.uptoBulk] at hb
   show l.length ≤ _; omega
end Go.Proofs.Ytbdilgkfnacahaa
