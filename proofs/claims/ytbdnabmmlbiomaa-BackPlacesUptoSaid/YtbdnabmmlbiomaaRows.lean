/-
  No cell of these rows narrows 'for every input' (looked for: loops, veiled, ifaces, maps, wideKeys, modest, calm, conditions, laid).
  DERIVED. THE GIVEN ROWS OF THIS SEAT. 5 by the template 'for every input the law returns true; each argument reads behind the call as it read before'; 0 by the template 'total and deterministic' (their statements: YtbdnabmmlbiomaaTotals.lean).
  GIVEN WITH THE SEED: the statements are not yours to turn. If you find one false, say at which input.
  Laid BY PROGRAM, IN A SANDBOX (cutbox-rows.mjs): the forced cells as the released guide's own fill.sh prints them over the translation 428b9ffdf602bda4… (all of the seat's roots in one cut). By AI agents, Wed Nov 11 2026. No macro, syntax, notation, axiom, sorry.
-/
import Derived.Test.YtbdnabmmlbiomaaChecked
import GoSem.Claim
import GoSem.ClaimJoined
import GoSem.ClaimMapViews
import Derived.JoinedTies
import Derived.KernelRfl
namespace Go.Proofs.Ytbdnabmmlbiomaa
/- THE CELL 'sum', in the pinned program and in every row, IS THE sha256 OF THE DUMP (.gsa) THAT YtbdnabmmlbiomaaProg.lean LOADS. Nothing in Lean hashes anything: it is a label: what it is worth is what the hold of that sum in a sandbox is worth. -/
noncomputable def Try.pinned : Pinned := { name := "ytbdnabmmlbiomaa", sum := "428b9ffdf602bda4eb1d068f1287f911dd11b839469e31d7caf1a4467042f871", checked := Try.checked }
namespace Rows
def none {H : Type} : Left H := { results := [], args := [] }

/-- 'spoorlaw15.VmEnds': WHATEVER THE INPUT: true; the input reads as it did. -/
def vmEndsSpec : ChangeSpec := { name := "vmEnds", fn := fun _ => fun
  | [d1, d2] => { results := [.lit (.bool true)], args := [d1, d2] }
  | _ => none }
def vmEndsRow : OpenClaim := { program := "ytbdnabmmlbiomaa", sum := "428b9ffdf602bda4eb1d068f1287f911dd11b839469e31d7caf1a4467042f871", func := "spoor/spoorlaw15.VmEnds", spec := "vmEnds", inPlace := ["internal/abi.NoEscape"], unfollowed := true, recurses := true, apart := false }
def VmEndsSaid : Prop := vmEndsRow.holds Try.pinned (OpenSpec.ofChange vmEndsSpec)

/-- ITS FALSE NEIGHBOUR: 'it returns false'. Refute it at one input. -/
def vmEndsWrong : ChangeSpec := { name := "vmEnds", fn := fun _ => fun
  | [d1, d2] => { results := [.lit (.bool false)], args := [d1, d2] }
  | _ => none }
def VmEndsWrongFalsely : Prop := vmEndsRow.holds Try.pinned (OpenSpec.ofChange vmEndsWrong)

/-- 'spoorlaw15.VmFinds': WHATEVER THE INPUT: true; the input reads as it did. -/
def vmFindsSpec : ChangeSpec := { name := "vmFinds", fn := fun _ => fun
  | [d1, d2] => { results := [.lit (.bool true)], args := [d1, d2] }
  | _ => none }
def vmFindsRow : OpenClaim := { program := "ytbdnabmmlbiomaa", sum := "428b9ffdf602bda4eb1d068f1287f911dd11b839469e31d7caf1a4467042f871", func := "spoor/spoorlaw15.VmFinds", spec := "vmFinds", inPlace := ["internal/abi.NoEscape"], unfollowed := true, recurses := true, apart := false }
def VmFindsSaid : Prop := vmFindsRow.holds Try.pinned (OpenSpec.ofChange vmFindsSpec)

/-- ITS FALSE NEIGHBOUR: 'it returns false'. Refute it at one input. -/
def vmFindsWrong : ChangeSpec := { name := "vmFinds", fn := fun _ => fun
  | [d1, d2] => { results := [.lit (.bool false)], args := [d1, d2] }
  | _ => none }
def VmFindsWrongFalsely : Prop := vmFindsRow.holds Try.pinned (OpenSpec.ofChange vmFindsWrong)

/-- 'spoorlaw15.VmApart': WHATEVER THE INPUT: true; the input reads as it did. -/
def vmApartSpec : ChangeSpec := { name := "vmApart", fn := fun _ => fun
  | [d1, d2, d3] => { results := [.lit (.bool true)], args := [d1, d2, d3] }
  | _ => none }
def vmApartRow : OpenClaim := { program := "ytbdnabmmlbiomaa", sum := "428b9ffdf602bda4eb1d068f1287f911dd11b839469e31d7caf1a4467042f871", func := "spoor/spoorlaw15.VmApart", spec := "vmApart", inPlace := ["internal/abi.NoEscape"], unfollowed := true, recurses := true, apart := false }
def VmApartSaid : Prop := vmApartRow.holds Try.pinned (OpenSpec.ofChange vmApartSpec)

/-- ITS FALSE NEIGHBOUR: 'it returns false'. Refute it at one input. -/
def vmApartWrong : ChangeSpec := { name := "vmApart", fn := fun _ => fun
  | [d1, d2, d3] => { results := [.lit (.bool false)], args := [d1, d2, d3] }
  | _ => none }
def VmApartWrongFalsely : Prop := vmApartRow.holds Try.pinned (OpenSpec.ofChange vmApartWrong)

/-- 'spoorlaw14.BackPlaces': WHATEVER THE INPUT: true; the input reads as it did. -/
def backPlacesSpec : ChangeSpec := { name := "backPlaces", fn := fun _ => fun
  | [d1, d2] => { results := [.lit (.bool true)], args := [d1, d2] }
  | _ => none }
def backPlacesRow : OpenClaim := { program := "ytbdnabmmlbiomaa", sum := "428b9ffdf602bda4eb1d068f1287f911dd11b839469e31d7caf1a4467042f871", func := "spoor/spoorlaw14.BackPlaces", spec := "backPlaces", inPlace := ["internal/abi.NoEscape"], unfollowed := true, recurses := true, apart := false }
def BackPlacesSaid : Prop := backPlacesRow.holds Try.pinned (OpenSpec.ofChange backPlacesSpec)

/-- ITS FALSE NEIGHBOUR: 'it returns false'. Refute it at one input. -/
def backPlacesWrong : ChangeSpec := { name := "backPlaces", fn := fun _ => fun
  | [d1, d2] => { results := [.lit (.bool false)], args := [d1, d2] }
  | _ => none }
def BackPlacesWrongFalsely : Prop := backPlacesRow.holds Try.pinned (OpenSpec.ofChange backPlacesWrong)

/-- 'spoorlaw14.BackWords': WHATEVER THE INPUT: true; the input reads as it did. -/
def backWordsSpec : ChangeSpec := { name := "backWords", fn := fun _ => fun
  | [d1, d2] => { results := [.lit (.bool true)], args := [d1, d2] }
  | _ => none }
def backWordsRow : OpenClaim := { program := "ytbdnabmmlbiomaa", sum := "428b9ffdf602bda4eb1d068f1287f911dd11b839469e31d7caf1a4467042f871", func := "spoor/spoorlaw14.BackWords", spec := "backWords", inPlace := ["internal/abi.NoEscape", "internal/bytealg.IndexByteString", "internal/bytealg.IndexString"], unfollowed := true, recurses := true, named := ["internal/bytealg.MaxLen"], apart := false }
def BackWordsSaid : Prop := backWordsRow.holds Try.pinned (OpenSpec.ofChange backWordsSpec)

/-- ITS FALSE NEIGHBOUR: 'it returns false'. Refute it at one input. -/
def backWordsWrong : ChangeSpec := { name := "backWords", fn := fun _ => fun
  | [d1, d2] => { results := [.lit (.bool false)], args := [d1, d2] }
  | _ => none }
def BackWordsWrongFalsely : Prop := backWordsRow.holds Try.pinned (OpenSpec.ofChange backWordsWrong)

/- THE SECOND FORM. 'bulk': how many values and letters a reading holds, each counted each time it is reached (what is shared counts as often as it is met; a slice's spare places count too). A statement '..UptoSaid' is the law's where the arguments, and the package variables that the reading takes, are together of bulk at most 1048576: NARROWER than '..Said'. Prove '..Said' where nothing that the law and all that it calls make is longer than what came in: it says more and counts as full. Else prove '..UptoSaid'. A law counts once. -/
mutual
def uptoBulk {H : Type} : DataW H → Nat
  | .lit (.string bytes) => bytes.length + 1
  | .lit _ => 1
  | .nil => 1
  | .ptr d => uptoBulk d + 1
  | .slice elems spare => uptoBulkAll elems + uptoBulkAll spare + 1
  | .agg parts => uptoBulkAll parts + 1
  | .iface _ d => uptoBulk d + 1
  | .map entries => uptoBulkEntries entries + 1
  | .held _ => 1
def uptoBulkAll {H : Type} : List (DataW H) → Nat
  | [] => 0
  | d :: r => uptoBulk d + uptoBulkAll r
def uptoBulkEntries {H : Type} : List (Lit × DataW H) → Nat
  | [] => 0
  | x :: r => uptoBulkEntry x + uptoBulkEntries r
def uptoBulkEntry {H : Type} : Lit × DataW H → Nat
  | (.string bytes, d) => bytes.length + uptoBulk d + 1
  | (_, d) => uptoBulk d + 1
 end
def uptoSmall : (H : Type) → List (DataW H) → Bool := fun _ ds => decide (uptoBulkAll ds ≤ 1048576)
def OpenSpec.upto (s : _root_.Go.ChangeSpec) : _root_.Go.OpenSpec := { _root_.Go.OpenSpec.ofChange s with cond := some uptoSmall }

/-- 'spoorlaw15.VmEnds', WHERE WHAT IT READS IS OF BULK AT MOST 1048576: true; the input reads as it did. -/
def vmEndsUptoRow : OpenClaim := { program := "ytbdnabmmlbiomaa", sum := "428b9ffdf602bda4eb1d068f1287f911dd11b839469e31d7caf1a4467042f871", func := "spoor/spoorlaw15.VmEnds", spec := "vmEnds", inPlace := ["internal/abi.NoEscape"], unfollowed := true, recurses := true, apart := false, narrowed := true }
def VmEndsUptoSaid : Prop := vmEndsUptoRow.holds Try.pinned (OpenSpec.upto vmEndsSpec)

/-- 'spoorlaw15.VmFinds', WHERE WHAT IT READS IS OF BULK AT MOST 1048576: true; the input reads as it did. -/
def vmFindsUptoRow : OpenClaim := { program := "ytbdnabmmlbiomaa", sum := "428b9ffdf602bda4eb1d068f1287f911dd11b839469e31d7caf1a4467042f871", func := "spoor/spoorlaw15.VmFinds", spec := "vmFinds", inPlace := ["internal/abi.NoEscape"], unfollowed := true, recurses := true, apart := false, narrowed := true }
def VmFindsUptoSaid : Prop := vmFindsUptoRow.holds Try.pinned (OpenSpec.upto vmFindsSpec)

/-- 'spoorlaw15.VmApart', WHERE WHAT IT READS IS OF BULK AT MOST 1048576: true; the input reads as it did. -/
def vmApartUptoRow : OpenClaim := { program := "ytbdnabmmlbiomaa", sum := "428b9ffdf602bda4eb1d068f1287f911dd11b839469e31d7caf1a4467042f871", func := "spoor/spoorlaw15.VmApart", spec := "vmApart", inPlace := ["internal/abi.NoEscape"], unfollowed := true, recurses := true, apart := false, narrowed := true }
def VmApartUptoSaid : Prop := vmApartUptoRow.holds Try.pinned (OpenSpec.upto vmApartSpec)

/-- 'spoorlaw14.BackPlaces', WHERE WHAT IT READS IS OF BULK AT MOST 1048576: true; the input reads as it did. -/
def backPlacesUptoRow : OpenClaim := { program := "ytbdnabmmlbiomaa", sum := "428b9ffdf602bda4eb1d068f1287f911dd11b839469e31d7caf1a4467042f871", func := "spoor/spoorlaw14.BackPlaces", spec := "backPlaces", inPlace := ["internal/abi.NoEscape"], unfollowed := true, recurses := true, apart := false, narrowed := true }
def BackPlacesUptoSaid : Prop := backPlacesUptoRow.holds Try.pinned (OpenSpec.upto backPlacesSpec)

/-- 'spoorlaw14.BackWords', WHERE WHAT IT READS IS OF BULK AT MOST 1048576: true; the input reads as it did. -/
def backWordsUptoRow : OpenClaim := { program := "ytbdnabmmlbiomaa", sum := "428b9ffdf602bda4eb1d068f1287f911dd11b839469e31d7caf1a4467042f871", func := "spoor/spoorlaw14.BackWords", spec := "backWords", inPlace := ["internal/abi.NoEscape", "internal/bytealg.IndexByteString", "internal/bytealg.IndexString"], unfollowed := true, recurses := true, named := ["internal/bytealg.MaxLen"], apart := false, narrowed := true }
def BackWordsUptoSaid : Prop := backWordsUptoRow.holds Try.pinned (OpenSpec.upto backWordsSpec)

end Rows
end Go.Proofs.Ytbdnabmmlbiomaa
