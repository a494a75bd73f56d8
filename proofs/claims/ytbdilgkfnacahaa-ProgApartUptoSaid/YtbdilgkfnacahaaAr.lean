/-
 Programs as arguments.
-/
import Derived.Test.YtbdilgkfnacahaaJn
import Derived.Test.YtbdilgkfnacahaaM3
import Derived.Test.YtbdilgkfnacahaaBulk
namespace Go.Proofs.Ytbdilgkfnacahaa
open Go.V Go Go.RowKit
set_option maxRecDepth 100000
set_option linter.unusedSimpArgs false
set_option linter.unusedVariables false

variable {H : Type} {enc : TypeId × Value → H} {w : World} {spare : Nat → Bool} {held : Bool} {d : DataW H}

theorem bulk_all {H : Type} {l : List (DataW H)} {x : DataW H} (h : x ∈ l) : Rows.uptoBulk x ≤ Rows.uptoBulkAll l := by
 induction l with
 | nil => cases h
 | cons y l ih =>
  simp only [Rows.uptoBulkAll]
  rcases List.mem_cons.1 h with rfl | h
  ·omega
  ·have := ih h; omega

theorem arg_range (h : Rd enc Try.prog w spare held 40 d) : ∃ a : Rg, (dval d).cells? = some (dval d).cells ∧ (dval d).cells = rangeC a := by
 obtain ⟨parts, rfl, hp⟩ := h.struct Try.underlying40
 cases hp with
 | cons a hp => cases hp with
  | cons b hp => cases hp with
   | nil =>
    obtain ⟨x, rfl, _⟩ := a.int Try.underlying21
    obtain ⟨y, rfl, _⟩ := b.int Try.underlying21
    exact ⟨(x, y), rfl, rfl⟩

theorem arg_ranges (h : Rd enc Try.prog w spare held 36 d) : ∃ rs : List Rg, SlD (dval d) 2 (rs.map rangeC) ∧ rs.length ≤ Rows.uptoBulk d := by
 rcases h.slice Try.underlying36 with rfl | ⟨elems, rest, rfl, he⟩
 ·exact ⟨[], sl_nil, by simp⟩
 ·obtain ⟨rs, h1, h2, _⟩ := sl_of (s := 2) (f := rangeC) (Q := fun _ _ => True) (rest := rest) fun x hx => by
   obtain ⟨a, h1, h2⟩ := arg_range (he x hx)
   exact ⟨a, h1, h2, rfl, trivial⟩
  refine ⟨rs, h1, ?_⟩
  have := bulk_len elems
  simp only [Rows.uptoBulk]; omega

theorem arg_ints (h : Rd enc Try.prog w spare held 27 d) : ∃ l : List Int, SlD (dval d) 1 (l.map intC) ∧ l.length ≤ Rows.uptoBulk d := by
 rcases h.slice Try.underlying27 with rfl | ⟨elems, rest, rfl, he⟩
 ·exact ⟨[], sl_nil, by simp⟩
 ·obtain ⟨rs, h1, h2, _⟩ := sl_of (s := 1) (f := intC) (Q := fun _ _ => True) (rest := rest) fun x hx => by
   obtain ⟨a, rfl, _⟩ := (he x hx).int Try.underlying3
   exact ⟨a, rfl, rfl, rfl, trivial⟩
  refine ⟨rs, h1, ?_⟩
  have := bulk_len elems
  simp only [Rows.uptoBulk]; omega

theorem arg_ins (h : Rd enc Try.prog w spare held 38 d) : ∃ i : PIns, (dval d).cells? = some (dval d).cells ∧ (dval d).cells = insC i ∧ SlD i.rd 2 (i.rs.map rangeC) ∧ i.rs.length ≤ Rows.uptoBulk d := by
 obtain ⟨parts, rfl, hp⟩ := h.struct Try.underlying38
 cases hp with
 | cons a hp => cases hp with
  | cons b hp => cases hp with
   | cons c hp => cases hp with
    | cons e hp => cases hp with
     | nil =>
      rename_i d1 d2 d3 d4
      obtain ⟨x, rfl, _⟩ := a.int Try.underlying3
      obtain ⟨y, rfl, _⟩ := b.int Try.underlying3
      obtain ⟨z, rfl, hz⟩ := c.int Try.underlying3
      obtain ⟨rs, h1, h2⟩ := arg_ranges e
      refine ⟨⟨x, y, z, dval d4, rs⟩, rfl, ?_, h1, ?_⟩
      ·have h3 : dcs d4 = [dval d4] := by
        rcases e.slice Try.underlying36 with rfl | ⟨elems, rest, rfl, he⟩ <;> rfl
       show dcs _ ++ (dcs _ ++ (dcs _ ++ (dcs d4 ++ []))) = _
       rw [h3]; rfl
      ·simp only [Rows.uptoBulk, Rows.uptoBulkAll]; omega

theorem arg_code (h : Rd enc Try.prog w spare held 26 d) : ∃ code : List PIns, SlD (dval d) 4 (code.map insC) ∧ code.length ≤ Rows.uptoBulk d ∧ ∀ i ∈ code, SlD i.rd 2 (i.rs.map rangeC) ∧ i.rs.length ≤ Rows.uptoBulk d := by
 rcases h.slice Try.underlying26 with rfl | ⟨elems, rest, rfl, he⟩
 ·exact ⟨[], sl_nil, by simp, fun i hi => by cases hi⟩
 ·obtain ⟨code, h1, h2, h3⟩ := sl_of (s := 4) (f := insC) (Q := fun (i : PIns) x => SlD i.rd 2 (i.rs.map rangeC) ∧ i.rs.length ≤ Rows.uptoBulk x) (rest := rest) fun x hx => by
   obtain ⟨a, h1, h2, h3, h4⟩ := arg_ins (he x hx)
   exact ⟨a, h1, h2, rfl, h3, h4⟩
  refine ⟨code, h1, ?_, fun i hi => ?_⟩
  ·have := bulk_len elems
   simp only [Rows.uptoBulk]; omega
  ·obtain ⟨x, hx, h4, h5⟩ := h3 i hi
   have := bulk_all hx
   exact ⟨h4, by simp only [Rows.uptoBulk]; omega⟩

theorem arg_prog (h : Rd enc Try.prog w spare held 29 d) : ∃ p : Pg, dval d = p.d ∧ (Rows.uptoBulk d ≤ 1048576 → p.ok) := by
 obtain ⟨parts, rfl, hp⟩ := h.struct Try.underlying29
 cases hp with
 | cons a hp => cases hp with
  | cons b hp => cases hp with
   | nil =>
    rename_i d1 d2
    obtain ⟨code, h1, h2, h3⟩ := arg_code a
    obtain ⟨l, h4, h5⟩ := arg_ints b
    have e1 : dcs d1 = [dval d1] := by
     rcases a.slice Try.underlying26 with rfl | ⟨elems, rest, rfl, he⟩ <;> rfl
    have e2 : dcs d2 = [dval d2] := by
     rcases b.slice Try.underlying27 with rfl | ⟨elems, rest, rfl, he⟩ <;> rfl
    refine ⟨⟨dval d1, code, dval d2, l⟩, ?_, fun hb => ?_⟩
    ·show D.agg (dcs d1 ++ (dcs d2 ++ [])) = _
     rw [e1, e2]; rfl
    ·simp only [Rows.uptoBulk, Rows.uptoBulkAll] at hb
     exact ⟨h1, h4, fun i hi => ⟨(h3 i hi).1, by have := (h3 i hi).2; omega⟩, by show code.length ≤ _; omega, by show l.length ≤ _; omega⟩
end Go.Proofs.Ytbdilgkfnacahaa
