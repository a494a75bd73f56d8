/-
  No cell of these rows narrows 'for every input' (looked for: loops, veiled, ifaces, maps, wideKeys, modest, calm, conditions, laid).
  DERIVED. THE GIVEN ROWS OF THIS SEAT. 9 by the template 'for every input the law returns true; each argument reads behind the call as it read before'; 0 by the template 'total and deterministic' (their statements: YtbdilgkfnacahaaTotals.lean).
  GIVEN WITH THE SEED: the statements are not yours to turn. If you find one false, say at which input.
  Laid BY PROGRAM, IN A SANDBOX (cutbox-rows.mjs): the forced cells as the released guide's own fill.sh prints them over the translation ff2846c9d1390b62… (all of the seat's roots in one cut). By AI agents, Wed Nov 11 2026. No macro, syntax, notation, axiom, sorry.
-/
import Derived.Test.YtbdilgkfnacahaaChecked
import GoSem.Claim
import GoSem.ClaimJoined
import GoSem.ClaimMapViews
import Derived.JoinedTies
import Derived.KernelRfl
namespace Go.Proofs.Ytbdilgkfnacahaa
/- THE CELL 'sum', in the pinned program and in every row, IS THE sha256 OF THE DUMP (.gsa) THAT YtbdilgkfnacahaaProg.lean LOADS. Nothing in Lean hashes anything: it is a label: what it is worth is what the hold of that sum in a sandbox is worth. -/
noncomputable def Try.pinned : Pinned := { name := "ytbdilgkfnacahaa", sum := "ff2846c9d1390b62bffed7df31298374aa436bd2b7e819cd2f1b0a2dd82c78ab", checked := Try.checked }
namespace Rows
def none {H : Type} : Left H := { results := [], args := [] }

/-- 'spoorlaw12.ProgCompiles': WHATEVER THE INPUT: true; the input reads as it did. -/
def progCompilesSpec : ChangeSpec := { name := "progCompiles", fn := fun _ => fun
  | [d] => { results := [.lit (.bool true)], args := [d] }
  | _ => none }
def progCompilesRow : OpenClaim := { program := "ytbdilgkfnacahaa", sum := "ff2846c9d1390b62bffed7df31298374aa436bd2b7e819cd2f1b0a2dd82c78ab", func := "spoor/spoorlaw12.ProgCompiles", spec := "progCompiles", inPlace := ["internal/abi.NoEscape"], unfollowed := true, recurses := true, apart := false }
def ProgCompilesSaid : Prop := progCompilesRow.holds Try.pinned (OpenSpec.ofChange progCompilesSpec)

/-- ITS FALSE NEIGHBOUR: 'it returns false'. Refute it at one input. -/
def progCompilesWrong : ChangeSpec := { name := "progCompiles", fn := fun _ => fun
  | [d] => { results := [.lit (.bool false)], args := [d] }
  | _ => none }
def ProgCompilesWrongFalsely : Prop := progCompilesRow.holds Try.pinned (OpenSpec.ofChange progCompilesWrong)

/-- 'spoorlaw12.ProgApart': WHATEVER THE INPUT: true; the input reads as it did. -/
def progApartSpec : ChangeSpec := { name := "progApart", fn := fun _ => fun
  | [d1, d2] => { results := [.lit (.bool true)], args := [d1, d2] }
  | _ => none }
def progApartRow : OpenClaim := { program := "ytbdilgkfnacahaa", sum := "ff2846c9d1390b62bffed7df31298374aa436bd2b7e819cd2f1b0a2dd82c78ab", func := "spoor/spoorlaw12.ProgApart", spec := "progApart", inPlace := ["internal/abi.NoEscape"], unfollowed := true, recurses := true, apart := false }
def ProgApartSaid : Prop := progApartRow.holds Try.pinned (OpenSpec.ofChange progApartSpec)

/-- ITS FALSE NEIGHBOUR: 'it returns false'. Refute it at one input. -/
def progApartWrong : ChangeSpec := { name := "progApart", fn := fun _ => fun
  | [d1, d2] => { results := [.lit (.bool false)], args := [d1, d2] }
  | _ => none }
def ProgApartWrongFalsely : Prop := progApartRow.holds Try.pinned (OpenSpec.ofChange progApartWrong)

/-- 'spoorlaw12.ProgSizes': WHATEVER THE INPUT: true; the input reads as it did. -/
def progSizesSpec : ChangeSpec := { name := "progSizes", fn := fun _ => fun
  | [d] => { results := [.lit (.bool true)], args := [d] }
  | _ => none }
def progSizesRow : OpenClaim := { program := "ytbdilgkfnacahaa", sum := "ff2846c9d1390b62bffed7df31298374aa436bd2b7e819cd2f1b0a2dd82c78ab", func := "spoor/spoorlaw12.ProgSizes", spec := "progSizes", inPlace := ["internal/abi.NoEscape"], unfollowed := true, recurses := true, apart := false }
def ProgSizesSaid : Prop := progSizesRow.holds Try.pinned (OpenSpec.ofChange progSizesSpec)

/-- ITS FALSE NEIGHBOUR: 'it returns false'. Refute it at one input. -/
def progSizesWrong : ChangeSpec := { name := "progSizes", fn := fun _ => fun
  | [d] => { results := [.lit (.bool false)], args := [d] }
  | _ => none }
def ProgSizesWrongFalsely : Prop := progSizesRow.holds Try.pinned (OpenSpec.ofChange progSizesWrong)

/-- 'spoorlaw13.CheckRight': WHATEVER THE INPUT: true; the input reads as it did. -/
def checkRightSpec : ChangeSpec := { name := "checkRight", fn := fun _ => fun
  | [d1, d2] => { results := [.lit (.bool true)], args := [d1, d2] }
  | _ => none }
def checkRightRow : OpenClaim := { program := "ytbdilgkfnacahaa", sum := "ff2846c9d1390b62bffed7df31298374aa436bd2b7e819cd2f1b0a2dd82c78ab", func := "spoor/spoorlaw13.CheckRight", spec := "checkRight", inPlace := ["internal/abi.NoEscape"], unfollowed := true, recurses := true, apart := false }
def CheckRightSaid : Prop := checkRightRow.holds Try.pinned (OpenSpec.ofChange checkRightSpec)

/-- ITS FALSE NEIGHBOUR: 'it returns false'. Refute it at one input. -/
def checkRightWrong : ChangeSpec := { name := "checkRight", fn := fun _ => fun
  | [d1, d2] => { results := [.lit (.bool false)], args := [d1, d2] }
  | _ => none }
def CheckRightWrongFalsely : Prop := checkRightRow.holds Try.pinned (OpenSpec.ofChange checkRightWrong)

/-- 'spoorlaw13.CheckMade': WHATEVER THE INPUT: true; the input reads as it did. -/
def checkMadeSpec : ChangeSpec := { name := "checkMade", fn := fun _ => fun
  | [d] => { results := [.lit (.bool true)], args := [d] }
  | _ => none }
def checkMadeRow : OpenClaim := { program := "ytbdilgkfnacahaa", sum := "ff2846c9d1390b62bffed7df31298374aa436bd2b7e819cd2f1b0a2dd82c78ab", func := "spoor/spoorlaw13.CheckMade", spec := "checkMade", inPlace := ["internal/abi.NoEscape"], unfollowed := true, recurses := true, apart := false }
def CheckMadeSaid : Prop := checkMadeRow.holds Try.pinned (OpenSpec.ofChange checkMadeSpec)

/-- ITS FALSE NEIGHBOUR: 'it returns false'. Refute it at one input. -/
def checkMadeWrong : ChangeSpec := { name := "checkMade", fn := fun _ => fun
  | [d] => { results := [.lit (.bool false)], args := [d] }
  | _ => none }
def CheckMadeWrongFalsely : Prop := checkMadeRow.holds Try.pinned (OpenSpec.ofChange checkMadeWrong)

/-- 'spoorlaw13.CheckTurned': WHATEVER THE INPUT: true; the input reads as it did. -/
def checkTurnedSpec : ChangeSpec := { name := "checkTurned", fn := fun _ => fun
  | [d1, d2, d3, d4] => { results := [.lit (.bool true)], args := [d1, d2, d3, d4] }
  | _ => none }
def checkTurnedRow : OpenClaim := { program := "ytbdilgkfnacahaa", sum := "ff2846c9d1390b62bffed7df31298374aa436bd2b7e819cd2f1b0a2dd82c78ab", func := "spoor/spoorlaw13.CheckTurned", spec := "checkTurned", inPlace := ["internal/abi.NoEscape"], unfollowed := true, recurses := true, apart := false }
def CheckTurnedSaid : Prop := checkTurnedRow.holds Try.pinned (OpenSpec.ofChange checkTurnedSpec)

/-- ITS FALSE NEIGHBOUR: 'it returns false'. Refute it at one input. -/
def checkTurnedWrong : ChangeSpec := { name := "checkTurned", fn := fun _ => fun
  | [d1, d2, d3, d4] => { results := [.lit (.bool false)], args := [d1, d2, d3, d4] }
  | _ => none }
def CheckTurnedWrongFalsely : Prop := checkTurnedRow.holds Try.pinned (OpenSpec.ofChange checkTurnedWrong)

/-- 'spoorlaw13.CheckClosed': WHATEVER THE INPUT: true; the input reads as it did. -/
def checkClosedSpec : ChangeSpec := { name := "checkClosed", fn := fun _ => fun
  | [d1, d2] => { results := [.lit (.bool true)], args := [d1, d2] }
  | _ => none }
def checkClosedRow : OpenClaim := { program := "ytbdilgkfnacahaa", sum := "ff2846c9d1390b62bffed7df31298374aa436bd2b7e819cd2f1b0a2dd82c78ab", func := "spoor/spoorlaw13.CheckClosed", spec := "checkClosed", inPlace := ["internal/abi.NoEscape"], unfollowed := true, recurses := true, apart := false }
def CheckClosedSaid : Prop := checkClosedRow.holds Try.pinned (OpenSpec.ofChange checkClosedSpec)

/-- ITS FALSE NEIGHBOUR: 'it returns false'. Refute it at one input. -/
def checkClosedWrong : ChangeSpec := { name := "checkClosed", fn := fun _ => fun
  | [d1, d2] => { results := [.lit (.bool false)], args := [d1, d2] }
  | _ => none }
def CheckClosedWrongFalsely : Prop := checkClosedRow.holds Try.pinned (OpenSpec.ofChange checkClosedWrong)

/-- 'spoorlaw14.BackTexts': WHATEVER THE INPUT: true; the input reads as it did. -/
def backTextsSpec : ChangeSpec := { name := "backTexts", fn := fun _ => fun
  | [d1, d2, d3] => { results := [.lit (.bool true)], args := [d1, d2, d3] }
  | _ => none }
def backTextsRow : OpenClaim := { program := "ytbdilgkfnacahaa", sum := "ff2846c9d1390b62bffed7df31298374aa436bd2b7e819cd2f1b0a2dd82c78ab", func := "spoor/spoorlaw14.BackTexts", spec := "backTexts", inPlace := ["internal/abi.NoEscape"], unfollowed := true, recurses := true, apart := false }
def BackTextsSaid : Prop := backTextsRow.holds Try.pinned (OpenSpec.ofChange backTextsSpec)

/-- ITS FALSE NEIGHBOUR: 'it returns false'. Refute it at one input. -/
def backTextsWrong : ChangeSpec := { name := "backTexts", fn := fun _ => fun
  | [d1, d2, d3] => { results := [.lit (.bool false)], args := [d1, d2, d3] }
  | _ => none }
def BackTextsWrongFalsely : Prop := backTextsRow.holds Try.pinned (OpenSpec.ofChange backTextsWrong)

/-- 'spoorlaw14.BackApart': WHATEVER THE INPUT: true; the input reads as it did. -/
def backApartSpec : ChangeSpec := { name := "backApart", fn := fun _ => fun
  | [d1, d2, d3] => { results := [.lit (.bool true)], args := [d1, d2, d3] }
  | _ => none }
def backApartRow : OpenClaim := { program := "ytbdilgkfnacahaa", sum := "ff2846c9d1390b62bffed7df31298374aa436bd2b7e819cd2f1b0a2dd82c78ab", func := "spoor/spoorlaw14.BackApart", spec := "backApart", inPlace := ["internal/abi.NoEscape"], unfollowed := true, recurses := true, apart := false }
def BackApartSaid : Prop := backApartRow.holds Try.pinned (OpenSpec.ofChange backApartSpec)

/-- ITS FALSE NEIGHBOUR: 'it returns false'. Refute it at one input. -/
def backApartWrong : ChangeSpec := { name := "backApart", fn := fun _ => fun
  | [d1, d2, d3] => { results := [.lit (.bool false)], args := [d1, d2, d3] }
  | _ => none }
def BackApartWrongFalsely : Prop := backApartRow.holds Try.pinned (OpenSpec.ofChange backApartWrong)

/- THE SECOND FORM. 'bulk': how many values and letters a reading holds, each counted each time it is reached (what is shared counts as often as it is met; a slice's spare places count too). A statement '..UptoSaid' is the law's where the arguments, and the package variables that the reading takes, are together of bulk at most 1048576: NARROWER than '..Said'. Prove '..Said' where nothing that the law and all that it calls make is longer than what came in: it says more and counts as full. Else prove '..UptoSaid'. A law counts once. -/
mutual
def uptoBulk {H : Type} : DataW H → Nat
  | .lit (.string bytes) => bytes.length + 1
  | .lit _ => 1
  | .nil => 1
  | .ptr d => uptoBulk d + 1
  | .slice elems spare => uptoBulkAll elems + uptoBulkAll spare + 1
  | .agg parts => uptoBulkAll parts + 1
  | .iface _ d => uptoBulk d + 1
  | .map entries => uptoBulkEntries entries + 1
  | .held _ => 1
def uptoBulkAll {H : Type} : List (DataW H) → Nat
  | [] => 0
  | d :: r => uptoBulk d + uptoBulkAll r
def uptoBulkEntries {H : Type} : List (Lit × DataW H) → Nat
  | [] => 0
  | x :: r => uptoBulkEntry x + uptoBulkEntries r
def uptoBulkEntry {H : Type} : Lit × DataW H → Nat
  | (.string bytes, d) => bytes.length + uptoBulk d + 1
  | (_, d) => uptoBulk d + 1
 end
def uptoSmall : (H : Type) → List (DataW H) → Bool := fun _ ds => decide (uptoBulkAll ds ≤ 1048576)
def OpenSpec.upto (s : _root_.Go.ChangeSpec) : _root_.Go.OpenSpec := { _root_.Go.OpenSpec.ofChange s with cond := some uptoSmall }

/-- 'spoorlaw12.ProgCompiles', WHERE WHAT IT READS IS OF BULK AT MOST 1048576: true; the input reads as it did. -/
def progCompilesUptoRow : OpenClaim := { program := "ytbdilgkfnacahaa", sum := "ff2846c9d1390b62bffed7df31298374aa436bd2b7e819cd2f1b0a2dd82c78ab", func := "spoor/spoorlaw12.ProgCompiles", spec := "progCompiles", inPlace := ["internal/abi.NoEscape"], unfollowed := true, recurses := true, apart := false, narrowed := true }
def ProgCompilesUptoSaid : Prop := progCompilesUptoRow.holds Try.pinned (OpenSpec.upto progCompilesSpec)

/-- 'spoorlaw12.ProgApart', WHERE WHAT IT READS IS OF BULK AT MOST 1048576: true; the input reads as it did. -/
def progApartUptoRow : OpenClaim := { program := "ytbdilgkfnacahaa", sum := "ff2846c9d1390b62bffed7df31298374aa436bd2b7e819cd2f1b0a2dd82c78ab", func := "spoor/spoorlaw12.ProgApart", spec := "progApart", inPlace := ["internal/abi.NoEscape"], unfollowed := true, recurses := true, apart := false, narrowed := true }
def ProgApartUptoSaid : Prop := progApartUptoRow.holds Try.pinned (OpenSpec.upto progApartSpec)

/-- 'spoorlaw12.ProgSizes', WHERE WHAT IT READS IS OF BULK AT MOST 1048576: true; the input reads as it did. -/
def progSizesUptoRow : OpenClaim := { program := "ytbdilgkfnacahaa", sum := "ff2846c9d1390b62bffed7df31298374aa436bd2b7e819cd2f1b0a2dd82c78ab", func := "spoor/spoorlaw12.ProgSizes", spec := "progSizes", inPlace := ["internal/abi.NoEscape"], unfollowed := true, recurses := true, apart := false, narrowed := true }
def ProgSizesUptoSaid : Prop := progSizesUptoRow.holds Try.pinned (OpenSpec.upto progSizesSpec)

/-- 'spoorlaw13.CheckRight', WHERE WHAT IT READS IS OF BULK AT MOST 1048576: true; the input reads as it did. -/
def checkRightUptoRow : OpenClaim := { program := "ytbdilgkfnacahaa", sum := "ff2846c9d1390b62bffed7df31298374aa436bd2b7e819cd2f1b0a2dd82c78ab", func := "spoor/spoorlaw13.CheckRight", spec := "checkRight", inPlace := ["internal/abi.NoEscape"], unfollowed := true, recurses := true, apart := false, narrowed := true }
def CheckRightUptoSaid : Prop := checkRightUptoRow.holds Try.pinned (OpenSpec.upto checkRightSpec)

/-- 'spoorlaw13.CheckMade', WHERE WHAT IT READS IS OF BULK AT MOST 1048576: true; the input reads as it did. -/
def checkMadeUptoRow : OpenClaim := { program := "ytbdilgkfnacahaa", sum := "ff2846c9d1390b62bffed7df31298374aa436bd2b7e819cd2f1b0a2dd82c78ab", func := "spoor/spoorlaw13.CheckMade", spec := "checkMade", inPlace := ["internal/abi.NoEscape"], unfollowed := true, recurses := true, apart := false, narrowed := true }
def CheckMadeUptoSaid : Prop := checkMadeUptoRow.holds Try.pinned (OpenSpec.upto checkMadeSpec)

/-- 'spoorlaw13.CheckTurned', WHERE WHAT IT READS IS OF BULK AT MOST 1048576: true; the input reads as it did. -/
def checkTurnedUptoRow : OpenClaim := { program := "ytbdilgkfnacahaa", sum := "ff2846c9d1390b62bffed7df31298374aa436bd2b7e819cd2f1b0a2dd82c78ab", func := "spoor/spoorlaw13.CheckTurned", spec := "checkTurned", inPlace := ["internal/abi.NoEscape"], unfollowed := true, recurses := true, apart := false, narrowed := true }
def CheckTurnedUptoSaid : Prop := checkTurnedUptoRow.holds Try.pinned (OpenSpec.upto checkTurnedSpec)

/-- 'spoorlaw13.CheckClosed', WHERE WHAT IT READS IS OF BULK AT MOST 1048576: true; the input reads as it did. -/
def checkClosedUptoRow : OpenClaim := { program := "ytbdilgkfnacahaa", sum := "ff2846c9d1390b62bffed7df31298374aa436bd2b7e819cd2f1b0a2dd82c78ab", func := "spoor/spoorlaw13.CheckClosed", spec := "checkClosed", inPlace := ["internal/abi.NoEscape"], unfollowed := true, recurses := true, apart := false, narrowed := true }
def CheckClosedUptoSaid : Prop := checkClosedUptoRow.holds Try.pinned (OpenSpec.upto checkClosedSpec)

/-- 'spoorlaw14.BackTexts', WHERE WHAT IT READS IS OF BULK AT MOST 1048576: true; the input reads as it did. -/
def backTextsUptoRow : OpenClaim := { program := "ytbdilgkfnacahaa", sum := "ff2846c9d1390b62bffed7df31298374aa436bd2b7e819cd2f1b0a2dd82c78ab", func := "spoor/spoorlaw14.BackTexts", spec := "backTexts", inPlace := ["internal/abi.NoEscape"], unfollowed := true, recurses := true, apart := false, narrowed := true }
def BackTextsUptoSaid : Prop := backTextsUptoRow.holds Try.pinned (OpenSpec.upto backTextsSpec)

/-- 'spoorlaw14.BackApart', WHERE WHAT IT READS IS OF BULK AT MOST 1048576: true; the input reads as it did. -/
def backApartUptoRow : OpenClaim := { program := "ytbdilgkfnacahaa", sum := "ff2846c9d1390b62bffed7df31298374aa436bd2b7e819cd2f1b0a2dd82c78ab", func := "spoor/spoorlaw14.BackApart", spec := "backApart", inPlace := ["internal/abi.NoEscape"], unfollowed := true, recurses := true, apart := false, narrowed := true }
def BackApartUptoSaid : Prop := backApartUptoRow.holds Try.pinned (OpenSpec.upto backApartSpec)

end Rows
end Go.Proofs.Ytbdilgkfnacahaa
