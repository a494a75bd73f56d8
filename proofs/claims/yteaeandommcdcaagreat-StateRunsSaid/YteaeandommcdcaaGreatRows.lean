/-
  No cell of these rows narrows 'for every input' (looked for: loops, veiled, ifaces, maps, wideKeys, modest, calm, conditions, laid).
  DERIVED. THE GIVEN ROWS OF THIS SEAT. 4 by the template 'for every input the law returns true; each argument reads behind the call as it read before'; 0 by the template 'total and deterministic' (their statements: YteaeandommcdcaaGreatTotals.lean).
  GIVEN WITH THE SEED: the statements are not yours to turn. If you find one false, say at which input.
  Laid BY PROGRAM, IN A SANDBOX (cutbox-rows.mjs): the forced cells as the released guide's own fill.sh prints them over the translation fda43d6a0aef21f5… (all of the seat's roots in one cut). By AI agents, Wed Nov 11 2026. No macro, syntax, notation, axiom, sorry.
-/
import Derived.Test.YteaeandommcdcaaGreatChecked
import GoSem.Claim
import GoSem.ClaimJoined
import GoSem.ClaimMapViews
import Derived.JoinedTies
import Derived.KernelRfl
namespace Go.Proofs.YteaeandommcdcaaGreat
/- THE CELL 'sum', in the pinned program and in every row, IS THE sha256 OF THE DUMP (.gsa) THAT YteaeandommcdcaaGreatProg.lean LOADS. Nothing in Lean hashes anything: it is a label: what it is worth is what the hold of that sum in a sandbox is worth. -/
noncomputable def Tryz.pinned : Pinned := { name := "yteaeandommcdcaagreat", sum := "fda43d6a0aef21f5af4aaf91150afe6f842ecb6c4163cfd1ea6ae9f2f1945cb7", checked := Tryz.checked }
namespace Rows
def none {H : Type} : Left H := { results := [], args := [] }

/-- 'spoorlaw16.ScanRuns': WHATEVER THE INPUT: true; the input reads as it did. -/
def scanRunsSpec : ChangeSpec := { name := "scanRuns", fn := fun _ => fun
  | [] => { results := [.lit (.bool true)], args := [] }
  | _ => none }
def scanRunsRow : OpenClaim := { program := "yteaeandommcdcaagreat", sum := "fda43d6a0aef21f5af4aaf91150afe6f842ecb6c4163cfd1ea6ae9f2f1945cb7", func := "spoor/spoorlaw16.ScanRuns", spec := "scanRuns", inPlace := ["internal/abi.NoEscape"], unfollowed := true, recurses := true, apart := false }
def ScanRunsSaid : Prop := scanRunsRow.holds Tryz.pinned (OpenSpec.ofChange scanRunsSpec)

/-- ITS FALSE NEIGHBOUR: 'it returns false'. Refute it at one input. -/
def scanRunsWrong : ChangeSpec := { name := "scanRuns", fn := fun _ => fun
  | [] => { results := [.lit (.bool false)], args := [] }
  | _ => none }
def ScanRunsWrongFalsely : Prop := scanRunsRow.holds Tryz.pinned (OpenSpec.ofChange scanRunsWrong)

/-- 'spoorlaw18.RulesRuns': WHATEVER THE INPUT: true; the input reads as it did. -/
def rulesRunsSpec : ChangeSpec := { name := "rulesRuns", fn := fun _ => fun
  | [] => { results := [.lit (.bool true)], args := [] }
  | _ => none }
def rulesRunsRow : OpenClaim := { program := "yteaeandommcdcaagreat", sum := "fda43d6a0aef21f5af4aaf91150afe6f842ecb6c4163cfd1ea6ae9f2f1945cb7", func := "spoor/spoorlaw18.RulesRuns", spec := "rulesRuns", inPlace := ["slices.overlaps[spoor/table.row[string, int]]", "internal/abi.NoEscape"], unfollowed := true, recurses := true, apart := false }
def RulesRunsSaid : Prop := rulesRunsRow.holds Tryz.pinned (OpenSpec.ofChange rulesRunsSpec)

/-- ITS FALSE NEIGHBOUR: 'it returns false'. Refute it at one input. -/
def rulesRunsWrong : ChangeSpec := { name := "rulesRuns", fn := fun _ => fun
  | [] => { results := [.lit (.bool false)], args := [] }
  | _ => none }
def RulesRunsWrongFalsely : Prop := rulesRunsRow.holds Tryz.pinned (OpenSpec.ofChange rulesRunsWrong)

/-- 'spoorlaw17.StateRuns': WHATEVER THE INPUT: true; the input reads as it did. -/
def stateRunsSpec : ChangeSpec := { name := "stateRuns", fn := fun _ => fun
  | [] => { results := [.lit (.bool true)], args := [] }
  | _ => none }
def stateRunsRow : OpenClaim := { program := "yteaeandommcdcaagreat", sum := "fda43d6a0aef21f5af4aaf91150afe6f842ecb6c4163cfd1ea6ae9f2f1945cb7", func := "spoor/spoorlaw17.StateRuns", spec := "stateRuns", inPlace := ["internal/abi.NoEscape"], unfollowed := true, recurses := true, apart := false }
def StateRunsSaid : Prop := stateRunsRow.holds Tryz.pinned (OpenSpec.ofChange stateRunsSpec)

/-- ITS FALSE NEIGHBOUR: 'it returns false'. Refute it at one input. -/
def stateRunsWrong : ChangeSpec := { name := "stateRuns", fn := fun _ => fun
  | [] => { results := [.lit (.bool false)], args := [] }
  | _ => none }
def StateRunsWrongFalsely : Prop := stateRunsRow.holds Tryz.pinned (OpenSpec.ofChange stateRunsWrong)

/-- 'spoorlaw19.EventRuns': WHATEVER THE INPUT: true; the input reads as it did. -/
def eventRunsSpec : ChangeSpec := { name := "eventRuns", fn := fun _ => fun
  | [] => { results := [.lit (.bool true)], args := [] }
  | _ => none }
def eventRunsRow : OpenClaim := { program := "yteaeandommcdcaagreat", sum := "fda43d6a0aef21f5af4aaf91150afe6f842ecb6c4163cfd1ea6ae9f2f1945cb7", func := "spoor/spoorlaw19.EventRuns", spec := "eventRuns", inPlace := ["slices.overlaps[spoor/table.row[string, int]]", "internal/abi.NoEscape"], unfollowed := true, recurses := true, apart := false }
def EventRunsSaid : Prop := eventRunsRow.holds Tryz.pinned (OpenSpec.ofChange eventRunsSpec)

/-- ITS FALSE NEIGHBOUR: 'it returns false'. Refute it at one input. -/
def eventRunsWrong : ChangeSpec := { name := "eventRuns", fn := fun _ => fun
  | [] => { results := [.lit (.bool false)], args := [] }
  | _ => none }
def EventRunsWrongFalsely : Prop := eventRunsRow.holds Tryz.pinned (OpenSpec.ofChange eventRunsWrong)

/- THE SECOND FORM. 'bulk': how many values and letters a reading holds, each counted each time it is reached (what is shared counts as often as it is met; a slice's spare places count too). A statement '..UptoSaid' is the law's where the arguments, and the package variables that the reading takes, are together of bulk at most 1048576: NARROWER than '..Said'. Prove '..Said' where nothing that the law and all that it calls make is longer than what came in: it says more and counts as full. Else prove '..UptoSaid'. A law counts once. -/
mutual
def uptoBulk {H : Type} : DataW H → Nat
  | .lit (.string bytes) => bytes.length + 1
  | .lit _ => 1
  | .nil => 1
  | .ptr d => uptoBulk d + 1
  | .slice elems spare => uptoBulkAll elems + uptoBulkAll spare + 1
  | .agg parts => uptoBulkAll parts + 1
  | .iface _ d => uptoBulk d + 1
  | .map entries => uptoBulkEntries entries + 1
  | .held _ => 1
def uptoBulkAll {H : Type} : List (DataW H) → Nat
  | [] => 0
  | d :: r => uptoBulk d + uptoBulkAll r
def uptoBulkEntries {H : Type} : List (Lit × DataW H) → Nat
  | [] => 0
  | x :: r => uptoBulkEntry x + uptoBulkEntries r
def uptoBulkEntry {H : Type} : Lit × DataW H → Nat
  | (.string bytes, d) => bytes.length + uptoBulk d + 1
  | (_, d) => uptoBulk d + 1
 end
def uptoSmall : (H : Type) → List (DataW H) → Bool := fun _ ds => decide (uptoBulkAll ds ≤ 1048576)
def OpenSpec.upto (s : _root_.Go.ChangeSpec) : _root_.Go.OpenSpec := { _root_.Go.OpenSpec.ofChange s with cond := some uptoSmall }

/-- 'spoorlaw16.ScanRuns', WHERE WHAT IT READS IS OF BULK AT MOST 1048576: true; the input reads as it did. -/
def scanRunsUptoRow : OpenClaim := { program := "yteaeandommcdcaagreat", sum := "fda43d6a0aef21f5af4aaf91150afe6f842ecb6c4163cfd1ea6ae9f2f1945cb7", func := "spoor/spoorlaw16.ScanRuns", spec := "scanRuns", inPlace := ["internal/abi.NoEscape"], unfollowed := true, recurses := true, apart := false, narrowed := true }
def ScanRunsUptoSaid : Prop := scanRunsUptoRow.holds Tryz.pinned (OpenSpec.upto scanRunsSpec)

/-- 'spoorlaw18.RulesRuns', WHERE WHAT IT READS IS OF BULK AT MOST 1048576: true; the input reads as it did. -/
def rulesRunsUptoRow : OpenClaim := { program := "yteaeandommcdcaagreat", sum := "fda43d6a0aef21f5af4aaf91150afe6f842ecb6c4163cfd1ea6ae9f2f1945cb7", func := "spoor/spoorlaw18.RulesRuns", spec := "rulesRuns", inPlace := ["slices.overlaps[spoor/table.row[string, int]]", "internal/abi.NoEscape"], unfollowed := true, recurses := true, apart := false, narrowed := true }
def RulesRunsUptoSaid : Prop := rulesRunsUptoRow.holds Tryz.pinned (OpenSpec.upto rulesRunsSpec)

/-- 'spoorlaw17.StateRuns', WHERE WHAT IT READS IS OF BULK AT MOST 1048576: true; the input reads as it did. -/
def stateRunsUptoRow : OpenClaim := { program := "yteaeandommcdcaagreat", sum := "fda43d6a0aef21f5af4aaf91150afe6f842ecb6c4163cfd1ea6ae9f2f1945cb7", func := "spoor/spoorlaw17.StateRuns", spec := "stateRuns", inPlace := ["internal/abi.NoEscape"], unfollowed := true, recurses := true, apart := false, narrowed := true }
def StateRunsUptoSaid : Prop := stateRunsUptoRow.holds Tryz.pinned (OpenSpec.upto stateRunsSpec)

/-- 'spoorlaw19.EventRuns', WHERE WHAT IT READS IS OF BULK AT MOST 1048576: true; the input reads as it did. -/
def eventRunsUptoRow : OpenClaim := { program := "yteaeandommcdcaagreat", sum := "fda43d6a0aef21f5af4aaf91150afe6f842ecb6c4163cfd1ea6ae9f2f1945cb7", func := "spoor/spoorlaw19.EventRuns", spec := "eventRuns", inPlace := ["slices.overlaps[spoor/table.row[string, int]]", "internal/abi.NoEscape"], unfollowed := true, recurses := true, apart := false, narrowed := true }
def EventRunsUptoSaid : Prop := eventRunsUptoRow.holds Tryz.pinned (OpenSpec.upto eventRunsSpec)

end Rows
end Go.Proofs.YteaeandommcdcaaGreat
