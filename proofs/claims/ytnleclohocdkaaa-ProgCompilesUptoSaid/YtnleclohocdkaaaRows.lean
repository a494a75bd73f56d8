/-
  No cell of these rows narrows 'for every input' (looked for: loops, veiled, ifaces, maps, wideKeys, modest, calm, conditions, laid).
  DERIVED. THE GIVEN ROWS OF THIS SEAT. 8 by the template 'for every input the law returns true; each argument reads behind the call as it read before'; 0 by the template 'total and deterministic' (their statements: YtnleclohocdkaaaTotals.lean).
  GIVEN WITH THE SEED: the statements are not yours to turn. If you find one false, say at which input.
  Laid BY PROGRAM, IN A SANDBOX (cutbox-rows.mjs): the forced cells as the released guide's own fill.sh prints them over the translation 9504175de1771264… (all of the seat's roots in one cut). By AI agents, Wed Nov 11 2026. No macro, syntax, notation, axiom, sorry.
-/
import Derived.Test.YtnleclohocdkaaaChecked
import GoSem.Claim
import GoSem.ClaimJoined
import GoSem.ClaimMapViews
import Derived.JoinedTies
import Derived.KernelRfl
namespace Go.Proofs.Ytnleclohocdkaaa
/- THE CELL 'sum', in the pinned program and in every row, IS THE sha256 OF THE DUMP (.gsa) THAT YtnleclohocdkaaaProg.lean LOADS. Nothing in Lean hashes anything: it is a label: what it is worth is what the hold of that sum in a sandbox is worth. -/
noncomputable def Try.pinned : Pinned := { name := "ytnleclohocdkaaa", sum := "9504175de17712646eda0c9136625674624be30c5427299c3afbd327c772a6e1", checked := Try.checked }
namespace Rows
def none {H : Type} : Left H := { results := [], args := [] }

/-- 'spoorlaw13.CheckTurned': WHATEVER THE INPUT: true; the input reads as it did. -/
def checkTurnedSpec : ChangeSpec := { name := "checkTurned", fn := fun _ => fun
  | [d1, d2, d3, d4] => { results := [.lit (.bool true)], args := [d1, d2, d3, d4] }
  | _ => none }
def checkTurnedRow : OpenClaim := { program := "ytnleclohocdkaaa", sum := "9504175de17712646eda0c9136625674624be30c5427299c3afbd327c772a6e1", func := "spoor/spoorlaw13.CheckTurned", spec := "checkTurned", inPlace := ["internal/abi.NoEscape"], unfollowed := true, recurses := true, apart := false }
def CheckTurnedSaid : Prop := checkTurnedRow.holds Try.pinned (OpenSpec.ofChange checkTurnedSpec)

/-- ITS FALSE NEIGHBOUR: 'it returns false'. Refute it at one input. -/
def checkTurnedWrong : ChangeSpec := { name := "checkTurned", fn := fun _ => fun
  | [d1, d2, d3, d4] => { results := [.lit (.bool false)], args := [d1, d2, d3, d4] }
  | _ => none }
def CheckTurnedWrongFalsely : Prop := checkTurnedRow.holds Try.pinned (OpenSpec.ofChange checkTurnedWrong)

/-- 'spoorlaw12.ProgCompiles': WHATEVER THE INPUT: true; the input reads as it did. -/
def progCompilesSpec : ChangeSpec := { name := "progCompiles", fn := fun _ => fun
  | [d] => { results := [.lit (.bool true)], args := [d] }
  | _ => none }
def progCompilesRow : OpenClaim := { program := "ytnleclohocdkaaa", sum := "9504175de17712646eda0c9136625674624be30c5427299c3afbd327c772a6e1", func := "spoor/spoorlaw12.ProgCompiles", spec := "progCompiles", inPlace := ["internal/abi.NoEscape"], unfollowed := true, recurses := true, apart := false }
def ProgCompilesSaid : Prop := progCompilesRow.holds Try.pinned (OpenSpec.ofChange progCompilesSpec)

/-- ITS FALSE NEIGHBOUR: 'it returns false'. Refute it at one input. -/
def progCompilesWrong : ChangeSpec := { name := "progCompiles", fn := fun _ => fun
  | [d] => { results := [.lit (.bool false)], args := [d] }
  | _ => none }
def ProgCompilesWrongFalsely : Prop := progCompilesRow.holds Try.pinned (OpenSpec.ofChange progCompilesWrong)

/-- 'spoorlaw14.BackPlaces': WHATEVER THE INPUT: true; the input reads as it did. -/
def backPlacesSpec : ChangeSpec := { name := "backPlaces", fn := fun _ => fun
  | [d1, d2] => { results := [.lit (.bool true)], args := [d1, d2] }
  | _ => none }
def backPlacesRow : OpenClaim := { program := "ytnleclohocdkaaa", sum := "9504175de17712646eda0c9136625674624be30c5427299c3afbd327c772a6e1", func := "spoor/spoorlaw14.BackPlaces", spec := "backPlaces", inPlace := ["internal/abi.NoEscape"], unfollowed := true, recurses := true, apart := false }
def BackPlacesSaid : Prop := backPlacesRow.holds Try.pinned (OpenSpec.ofChange backPlacesSpec)

/-- ITS FALSE NEIGHBOUR: 'it returns false'. Refute it at one input. -/
def backPlacesWrong : ChangeSpec := { name := "backPlaces", fn := fun _ => fun
  | [d1, d2] => { results := [.lit (.bool false)], args := [d1, d2] }
  | _ => none }
def BackPlacesWrongFalsely : Prop := backPlacesRow.holds Try.pinned (OpenSpec.ofChange backPlacesWrong)

/-- 'spoorlaw14.BackApart': WHATEVER THE INPUT: true; the input reads as it did. -/
def backApartSpec : ChangeSpec := { name := "backApart", fn := fun _ => fun
  | [d1, d2, d3] => { results := [.lit (.bool true)], args := [d1, d2, d3] }
  | _ => none }
def backApartRow : OpenClaim := { program := "ytnleclohocdkaaa", sum := "9504175de17712646eda0c9136625674624be30c5427299c3afbd327c772a6e1", func := "spoor/spoorlaw14.BackApart", spec := "backApart", inPlace := ["internal/abi.NoEscape"], unfollowed := true, recurses := true, apart := false }
def BackApartSaid : Prop := backApartRow.holds Try.pinned (OpenSpec.ofChange backApartSpec)

/-- ITS FALSE NEIGHBOUR: 'it returns false'. Refute it at one input. -/
def backApartWrong : ChangeSpec := { name := "backApart", fn := fun _ => fun
  | [d1, d2, d3] => { results := [.lit (.bool false)], args := [d1, d2, d3] }
  | _ => none }
def BackApartWrongFalsely : Prop := backApartRow.holds Try.pinned (OpenSpec.ofChange backApartWrong)

/-- 'spoorlaw14.BackEither': WHATEVER THE INPUT: true; the input reads as it did. -/
def backEitherSpec : ChangeSpec := { name := "backEither", fn := fun _ => fun
  | [d1, d2, d3] => { results := [.lit (.bool true)], args := [d1, d2, d3] }
  | _ => none }
def backEitherRow : OpenClaim := { program := "ytnleclohocdkaaa", sum := "9504175de17712646eda0c9136625674624be30c5427299c3afbd327c772a6e1", func := "spoor/spoorlaw14.BackEither", spec := "backEither", inPlace := ["internal/abi.NoEscape"], unfollowed := true, recurses := true, apart := false }
def BackEitherSaid : Prop := backEitherRow.holds Try.pinned (OpenSpec.ofChange backEitherSpec)

/-- ITS FALSE NEIGHBOUR: 'it returns false'. Refute it at one input. -/
def backEitherWrong : ChangeSpec := { name := "backEither", fn := fun _ => fun
  | [d1, d2, d3] => { results := [.lit (.bool false)], args := [d1, d2, d3] }
  | _ => none }
def BackEitherWrongFalsely : Prop := backEitherRow.holds Try.pinned (OpenSpec.ofChange backEitherWrong)

/-- 'spoorlaw14.BackUnrolled': WHATEVER THE INPUT: true; the input reads as it did. -/
def backUnrolledSpec : ChangeSpec := { name := "backUnrolled", fn := fun _ => fun
  | [d1, d2] => { results := [.lit (.bool true)], args := [d1, d2] }
  | _ => none }
def backUnrolledRow : OpenClaim := { program := "ytnleclohocdkaaa", sum := "9504175de17712646eda0c9136625674624be30c5427299c3afbd327c772a6e1", func := "spoor/spoorlaw14.BackUnrolled", spec := "backUnrolled", inPlace := ["internal/abi.NoEscape"], unfollowed := true, recurses := true, apart := false }
def BackUnrolledSaid : Prop := backUnrolledRow.holds Try.pinned (OpenSpec.ofChange backUnrolledSpec)

/-- ITS FALSE NEIGHBOUR: 'it returns false'. Refute it at one input. -/
def backUnrolledWrong : ChangeSpec := { name := "backUnrolled", fn := fun _ => fun
  | [d1, d2] => { results := [.lit (.bool false)], args := [d1, d2] }
  | _ => none }
def BackUnrolledWrongFalsely : Prop := backUnrolledRow.holds Try.pinned (OpenSpec.ofChange backUnrolledWrong)

/-- 'spoorlaw14.BackWords': WHATEVER THE INPUT: true; the input reads as it did. -/
def backWordsSpec : ChangeSpec := { name := "backWords", fn := fun _ => fun
  | [d1, d2] => { results := [.lit (.bool true)], args := [d1, d2] }
  | _ => none }
def backWordsRow : OpenClaim := { program := "ytnleclohocdkaaa", sum := "9504175de17712646eda0c9136625674624be30c5427299c3afbd327c772a6e1", func := "spoor/spoorlaw14.BackWords", spec := "backWords", inPlace := ["internal/abi.NoEscape", "internal/bytealg.IndexByteString", "internal/bytealg.IndexString"], unfollowed := true, recurses := true, named := ["internal/bytealg.MaxLen"], apart := false }
def BackWordsSaid : Prop := backWordsRow.holds Try.pinned (OpenSpec.ofChange backWordsSpec)

/-- ITS FALSE NEIGHBOUR: 'it returns false'. Refute it at one input. -/
def backWordsWrong : ChangeSpec := { name := "backWords", fn := fun _ => fun
  | [d1, d2] => { results := [.lit (.bool false)], args := [d1, d2] }
  | _ => none }
def BackWordsWrongFalsely : Prop := backWordsRow.holds Try.pinned (OpenSpec.ofChange backWordsWrong)

/-- 'spoorlaw15.VmApart': WHATEVER THE INPUT: true; the input reads as it did. -/
def vmApartSpec : ChangeSpec := { name := "vmApart", fn := fun _ => fun
  | [d1, d2, d3] => { results := [.lit (.bool true)], args := [d1, d2, d3] }
  | _ => none }
def vmApartRow : OpenClaim := { program := "ytnleclohocdkaaa", sum := "9504175de17712646eda0c9136625674624be30c5427299c3afbd327c772a6e1", func := "spoor/spoorlaw15.VmApart", spec := "vmApart", inPlace := ["internal/abi.NoEscape"], unfollowed := true, recurses := true, apart := false }
def VmApartSaid : Prop := vmApartRow.holds Try.pinned (OpenSpec.ofChange vmApartSpec)

/-- ITS FALSE NEIGHBOUR: 'it returns false'. Refute it at one input. -/
def vmApartWrong : ChangeSpec := { name := "vmApart", fn := fun _ => fun
  | [d1, d2, d3] => { results := [.lit (.bool false)], args := [d1, d2, d3] }
  | _ => none }
def VmApartWrongFalsely : Prop := vmApartRow.holds Try.pinned (OpenSpec.ofChange vmApartWrong)

/- THE SECOND FORM. 'bulk': how many values and letters a reading holds, each counted each time it is reached (what is shared counts as often as it is met; a slice's spare places count too). A statement '..UptoSaid' is the law's where the arguments, and the package variables that the reading takes, are together of bulk at most 1048576: NARROWER than '..Said'. Prove '..Said' where nothing that the law and all that it calls make is longer than what came in: it says more and counts as full. Else prove '..UptoSaid'. A law counts once. -/
mutual
def uptoBulk {H : Type} : DataW H → Nat
  | .lit (.string bytes) => bytes.length + 1
  | .lit _ => 1
  | .nil => 1
  | .ptr d => uptoBulk d + 1
  | .slice elems spare => uptoBulkAll elems + uptoBulkAll spare + 1
  | .agg parts => uptoBulkAll parts + 1
  | .iface _ d => uptoBulk d + 1
  | .map entries => uptoBulkEntries entries + 1
  | .held _ => 1
def uptoBulkAll {H : Type} : List (DataW H) → Nat
  | [] => 0
  | d :: r => uptoBulk d + uptoBulkAll r
def uptoBulkEntries {H : Type} : List (Lit × DataW H) → Nat
  | [] => 0
  | x :: r => uptoBulkEntry x + uptoBulkEntries r
def uptoBulkEntry {H : Type} : Lit × DataW H → Nat
  | (.string bytes, d) => bytes.length + uptoBulk d + 1
  | (_, d) => uptoBulk d + 1
 end
def uptoSmall : (H : Type) → List (DataW H) → Bool := fun _ ds => decide (uptoBulkAll ds ≤ 1048576)
def OpenSpec.upto (s : _root_.Go.ChangeSpec) : _root_.Go.OpenSpec := { _root_.Go.OpenSpec.ofChange s with cond := some uptoSmall }

/-- 'spoorlaw13.CheckTurned', WHERE WHAT IT READS IS OF BULK AT MOST 1048576: true; the input reads as it did. -/
def checkTurnedUptoRow : OpenClaim := { program := "ytnleclohocdkaaa", sum := "9504175de17712646eda0c9136625674624be30c5427299c3afbd327c772a6e1", func := "spoor/spoorlaw13.CheckTurned", spec := "checkTurned", inPlace := ["internal/abi.NoEscape"], unfollowed := true, recurses := true, apart := false, narrowed := true }
def CheckTurnedUptoSaid : Prop := checkTurnedUptoRow.holds Try.pinned (OpenSpec.upto checkTurnedSpec)

/-- 'spoorlaw12.ProgCompiles', WHERE WHAT IT READS IS OF BULK AT MOST 1048576: true; the input reads as it did. -/
def progCompilesUptoRow : OpenClaim := { program := "ytnleclohocdkaaa", sum := "9504175de17712646eda0c9136625674624be30c5427299c3afbd327c772a6e1", func := "spoor/spoorlaw12.ProgCompiles", spec := "progCompiles", inPlace := ["internal/abi.NoEscape"], unfollowed := true, recurses := true, apart := false, narrowed := true }
def ProgCompilesUptoSaid : Prop := progCompilesUptoRow.holds Try.pinned (OpenSpec.upto progCompilesSpec)

/-- 'spoorlaw14.BackPlaces', WHERE WHAT IT READS IS OF BULK AT MOST 1048576: true; the input reads as it did. -/
def backPlacesUptoRow : OpenClaim := { program := "ytnleclohocdkaaa", sum := "9504175de17712646eda0c9136625674624be30c5427299c3afbd327c772a6e1", func := "spoor/spoorlaw14.BackPlaces", spec := "backPlaces", inPlace := ["internal/abi.NoEscape"], unfollowed := true, recurses := true, apart := false, narrowed := true }
def BackPlacesUptoSaid : Prop := backPlacesUptoRow.holds Try.pinned (OpenSpec.upto backPlacesSpec)

/-- 'spoorlaw14.BackApart', WHERE WHAT IT READS IS OF BULK AT MOST 1048576: true; the input reads as it did. -/
def backApartUptoRow : OpenClaim := { program := "ytnleclohocdkaaa", sum := "9504175de17712646eda0c9136625674624be30c5427299c3afbd327c772a6e1", func := "spoor/spoorlaw14.BackApart", spec := "backApart", inPlace := ["internal/abi.NoEscape"], unfollowed := true, recurses := true, apart := false, narrowed := true }
def BackApartUptoSaid : Prop := backApartUptoRow.holds Try.pinned (OpenSpec.upto backApartSpec)

/-- 'spoorlaw14.BackEither', WHERE WHAT IT READS IS OF BULK AT MOST 1048576: true; the input reads as it did. -/
def backEitherUptoRow : OpenClaim := { program := "ytnleclohocdkaaa", sum := "9504175de17712646eda0c9136625674624be30c5427299c3afbd327c772a6e1", func := "spoor/spoorlaw14.BackEither", spec := "backEither", inPlace := ["internal/abi.NoEscape"], unfollowed := true, recurses := true, apart := false, narrowed := true }
def BackEitherUptoSaid : Prop := backEitherUptoRow.holds Try.pinned (OpenSpec.upto backEitherSpec)

/-- 'spoorlaw14.BackUnrolled', WHERE WHAT IT READS IS OF BULK AT MOST 1048576: true; the input reads as it did. -/
def backUnrolledUptoRow : OpenClaim := { program := "ytnleclohocdkaaa", sum := "9504175de17712646eda0c9136625674624be30c5427299c3afbd327c772a6e1", func := "spoor/spoorlaw14.BackUnrolled", spec := "backUnrolled", inPlace := ["internal/abi.NoEscape"], unfollowed := true, recurses := true, apart := false, narrowed := true }
def BackUnrolledUptoSaid : Prop := backUnrolledUptoRow.holds Try.pinned (OpenSpec.upto backUnrolledSpec)

/-- 'spoorlaw14.BackWords', WHERE WHAT IT READS IS OF BULK AT MOST 1048576: true; the input reads as it did. -/
def backWordsUptoRow : OpenClaim := { program := "ytnleclohocdkaaa", sum := "9504175de17712646eda0c9136625674624be30c5427299c3afbd327c772a6e1", func := "spoor/spoorlaw14.BackWords", spec := "backWords", inPlace := ["internal/abi.NoEscape", "internal/bytealg.IndexByteString", "internal/bytealg.IndexString"], unfollowed := true, recurses := true, named := ["internal/bytealg.MaxLen"], apart := false, narrowed := true }
def BackWordsUptoSaid : Prop := backWordsUptoRow.holds Try.pinned (OpenSpec.upto backWordsSpec)

/-- 'spoorlaw15.VmApart', WHERE WHAT IT READS IS OF BULK AT MOST 1048576: true; the input reads as it did. -/
def vmApartUptoRow : OpenClaim := { program := "ytnleclohocdkaaa", sum := "9504175de17712646eda0c9136625674624be30c5427299c3afbd327c772a6e1", func := "spoor/spoorlaw15.VmApart", spec := "vmApart", inPlace := ["internal/abi.NoEscape"], unfollowed := true, recurses := true, apart := false, narrowed := true }
def VmApartUptoSaid : Prop := vmApartUptoRow.holds Try.pinned (OpenSpec.upto vmApartSpec)

end Rows
end Go.Proofs.Ytnleclohocdkaaa
