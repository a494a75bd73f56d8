/-
  No cell of these rows narrows 'for every input' (looked for: loops, veiled, ifaces, maps, wideKeys, modest, calm, conditions, laid).
  DERIVED. THE GIVEN ROWS OF THIS SEAT. 11 by the template 'for every input the law returns true; each argument reads behind the call as it read before'; 0 by the template 'total and deterministic' (their statements: YtecjacicdpejaaaGreatTotals.lean).
  GIVEN WITH THE SEED: the statements are not yours to turn. If you find one false, say at which input.
  Laid BY PROGRAM, IN A SANDBOX (cutbox-rows.mjs): the forced cells as the released guide's own fill.sh prints them over the translation de8690f50352ffef… (all of the seat's roots in one cut). By AI agents, Wed Nov 11 2026. No macro, syntax, notation, axiom, sorry.
-/
import Derived.Test.YtecjacicdpejaaaGreatChecked
import GoSem.Claim
import GoSem.ClaimJoined
import GoSem.ClaimMapViews
import Derived.JoinedTies
import Derived.KernelRfl
namespace Go.Proofs.YtecjacicdpejaaaGreat
/- THE CELL 'sum', in the pinned program and in every row, IS THE sha256 OF THE DUMP (.gsa) THAT YtecjacicdpejaaaGreatProg.lean LOADS. Nothing in Lean hashes anything: it is a label: what it is worth is what the hold of that sum in a sandbox is worth. -/
noncomputable def Tryz.pinned : Pinned := { name := "ytecjacicdpejaaagreat", sum := "de8690f50352ffefcb8367f89f1ed66f0a6be04412aaf87e73e6eb38d59f432a", checked := Tryz.checked }
namespace Rows
def none {H : Type} : Left H := { results := [], args := [] }

/-- 'spoorlaw17.StateWrites': WHATEVER THE INPUT: true; the input reads as it did. -/
def stateWritesSpec : ChangeSpec := { name := "stateWrites", fn := fun _ => fun
  | [d1, d2, d3] => { results := [.lit (.bool true)], args := [d1, d2, d3] }
  | _ => none }
def stateWritesRow : OpenClaim := { program := "ytecjacicdpejaaagreat", sum := "de8690f50352ffefcb8367f89f1ed66f0a6be04412aaf87e73e6eb38d59f432a", func := "spoor/spoorlaw17.StateWrites", spec := "stateWrites", inPlace := ["internal/abi.NoEscape"], unfollowed := true, recurses := true, apart := false }
def StateWritesSaid : Prop := stateWritesRow.holds Tryz.pinned (OpenSpec.ofChange stateWritesSpec)

/-- ITS FALSE NEIGHBOUR: 'it returns false'. Refute it at one input. -/
def stateWritesWrong : ChangeSpec := { name := "stateWrites", fn := fun _ => fun
  | [d1, d2, d3] => { results := [.lit (.bool false)], args := [d1, d2, d3] }
  | _ => none }
def StateWritesWrongFalsely : Prop := stateWritesRow.holds Tryz.pinned (OpenSpec.ofChange stateWritesWrong)

/-- 'spoorlaw17.StateAny': WHATEVER THE INPUT: true; the input reads as it did. -/
def stateAnySpec : ChangeSpec := { name := "stateAny", fn := fun _ => fun
  | [d1, d2, d3] => { results := [.lit (.bool true)], args := [d1, d2, d3] }
  | _ => none }
def stateAnyRow : OpenClaim := { program := "ytecjacicdpejaaagreat", sum := "de8690f50352ffefcb8367f89f1ed66f0a6be04412aaf87e73e6eb38d59f432a", func := "spoor/spoorlaw17.StateAny", spec := "stateAny", inPlace := ["internal/abi.NoEscape"], unfollowed := true, recurses := true, apart := false }
def StateAnySaid : Prop := stateAnyRow.holds Tryz.pinned (OpenSpec.ofChange stateAnySpec)

/-- ITS FALSE NEIGHBOUR: 'it returns false'. Refute it at one input. -/
def stateAnyWrong : ChangeSpec := { name := "stateAny", fn := fun _ => fun
  | [d1, d2, d3] => { results := [.lit (.bool false)], args := [d1, d2, d3] }
  | _ => none }
def StateAnyWrongFalsely : Prop := stateAnyRow.holds Tryz.pinned (OpenSpec.ofChange stateAnyWrong)

/-- 'spoorlaw17.StateReads': WHATEVER THE INPUT: true; the input reads as it did. -/
def stateReadsSpec : ChangeSpec := { name := "stateReads", fn := fun _ => fun
  | [d1, d2] => { results := [.lit (.bool true)], args := [d1, d2] }
  | _ => none }
def stateReadsRow : OpenClaim := { program := "ytecjacicdpejaaagreat", sum := "de8690f50352ffefcb8367f89f1ed66f0a6be04412aaf87e73e6eb38d59f432a", func := "spoor/spoorlaw17.StateReads", spec := "stateReads", inPlace := ["internal/abi.NoEscape"], unfollowed := true, recurses := true, apart := false }
def StateReadsSaid : Prop := stateReadsRow.holds Tryz.pinned (OpenSpec.ofChange stateReadsSpec)

/-- ITS FALSE NEIGHBOUR: 'it returns false'. Refute it at one input. -/
def stateReadsWrong : ChangeSpec := { name := "stateReads", fn := fun _ => fun
  | [d1, d2] => { results := [.lit (.bool false)], args := [d1, d2] }
  | _ => none }
def StateReadsWrongFalsely : Prop := stateReadsRow.holds Tryz.pinned (OpenSpec.ofChange stateReadsWrong)

/-- 'spoorlaw17.StateTurned': WHATEVER THE INPUT: true; the input reads as it did. -/
def stateTurnedSpec : ChangeSpec := { name := "stateTurned", fn := fun _ => fun
  | [d1, d2, d3, d4, d5] => { results := [.lit (.bool true)], args := [d1, d2, d3, d4, d5] }
  | _ => none }
def stateTurnedRow : OpenClaim := { program := "ytecjacicdpejaaagreat", sum := "de8690f50352ffefcb8367f89f1ed66f0a6be04412aaf87e73e6eb38d59f432a", func := "spoor/spoorlaw17.StateTurned", spec := "stateTurned", inPlace := ["internal/abi.NoEscape"], unfollowed := true, recurses := true, apart := false }
def StateTurnedSaid : Prop := stateTurnedRow.holds Tryz.pinned (OpenSpec.ofChange stateTurnedSpec)

/-- ITS FALSE NEIGHBOUR: 'it returns false'. Refute it at one input. -/
def stateTurnedWrong : ChangeSpec := { name := "stateTurned", fn := fun _ => fun
  | [d1, d2, d3, d4, d5] => { results := [.lit (.bool false)], args := [d1, d2, d3, d4, d5] }
  | _ => none }
def StateTurnedWrongFalsely : Prop := stateTurnedRow.holds Tryz.pinned (OpenSpec.ofChange stateTurnedWrong)

/-- 'spoorlaw17.StateStale': WHATEVER THE INPUT: true; the input reads as it did. -/
def stateStaleSpec : ChangeSpec := { name := "stateStale", fn := fun _ => fun
  | [d1, d2, d3, d4] => { results := [.lit (.bool true)], args := [d1, d2, d3, d4] }
  | _ => none }
def stateStaleRow : OpenClaim := { program := "ytecjacicdpejaaagreat", sum := "de8690f50352ffefcb8367f89f1ed66f0a6be04412aaf87e73e6eb38d59f432a", func := "spoor/spoorlaw17.StateStale", spec := "stateStale", inPlace := ["internal/abi.NoEscape"], unfollowed := true, recurses := true, apart := false }
def StateStaleSaid : Prop := stateStaleRow.holds Tryz.pinned (OpenSpec.ofChange stateStaleSpec)

/-- ITS FALSE NEIGHBOUR: 'it returns false'. Refute it at one input. -/
def stateStaleWrong : ChangeSpec := { name := "stateStale", fn := fun _ => fun
  | [d1, d2, d3, d4] => { results := [.lit (.bool false)], args := [d1, d2, d3, d4] }
  | _ => none }
def StateStaleWrongFalsely : Prop := stateStaleRow.holds Tryz.pinned (OpenSpec.ofChange stateStaleWrong)

/-- 'spoorlaw17.StateGets': WHATEVER THE INPUT: true; the input reads as it did. -/
def stateGetsSpec : ChangeSpec := { name := "stateGets", fn := fun _ => fun
  | [d1, d2, d3, d4, d5] => { results := [.lit (.bool true)], args := [d1, d2, d3, d4, d5] }
  | _ => none }
def stateGetsRow : OpenClaim := { program := "ytecjacicdpejaaagreat", sum := "de8690f50352ffefcb8367f89f1ed66f0a6be04412aaf87e73e6eb38d59f432a", func := "spoor/spoorlaw17.StateGets", spec := "stateGets", inPlace := ["internal/abi.NoEscape"], unfollowed := true, recurses := true, apart := false }
def StateGetsSaid : Prop := stateGetsRow.holds Tryz.pinned (OpenSpec.ofChange stateGetsSpec)

/-- ITS FALSE NEIGHBOUR: 'it returns false'. Refute it at one input. -/
def stateGetsWrong : ChangeSpec := { name := "stateGets", fn := fun _ => fun
  | [d1, d2, d3, d4, d5] => { results := [.lit (.bool false)], args := [d1, d2, d3, d4, d5] }
  | _ => none }
def StateGetsWrongFalsely : Prop := stateGetsRow.holds Tryz.pinned (OpenSpec.ofChange stateGetsWrong)

/-- 'spoorlaw17.StateBack': WHATEVER THE INPUT: true; the input reads as it did. -/
def stateBackSpec : ChangeSpec := { name := "stateBack", fn := fun _ => fun
  | [d1, d2, d3] => { results := [.lit (.bool true)], args := [d1, d2, d3] }
  | _ => none }
def stateBackRow : OpenClaim := { program := "ytecjacicdpejaaagreat", sum := "de8690f50352ffefcb8367f89f1ed66f0a6be04412aaf87e73e6eb38d59f432a", func := "spoor/spoorlaw17.StateBack", spec := "stateBack", inPlace := ["internal/abi.NoEscape"], unfollowed := true, recurses := true, apart := false }
def StateBackSaid : Prop := stateBackRow.holds Tryz.pinned (OpenSpec.ofChange stateBackSpec)

/-- ITS FALSE NEIGHBOUR: 'it returns false'. Refute it at one input. -/
def stateBackWrong : ChangeSpec := { name := "stateBack", fn := fun _ => fun
  | [d1, d2, d3] => { results := [.lit (.bool false)], args := [d1, d2, d3] }
  | _ => none }
def StateBackWrongFalsely : Prop := stateBackRow.holds Tryz.pinned (OpenSpec.ofChange stateBackWrong)

/-- 'spoorlaw18.RulesNames': WHATEVER THE INPUT: true; the input reads as it did. -/
def rulesNamesSpec : ChangeSpec := { name := "rulesNames", fn := fun _ => fun
  | [d1, d2, d3] => { results := [.lit (.bool true)], args := [d1, d2, d3] }
  | _ => none }
def rulesNamesRow : OpenClaim := { program := "ytecjacicdpejaaagreat", sum := "de8690f50352ffefcb8367f89f1ed66f0a6be04412aaf87e73e6eb38d59f432a", func := "spoor/spoorlaw18.RulesNames", spec := "rulesNames", inPlace := ["slices.overlaps[spoor/table.row[string, int]]", "internal/abi.NoEscape"], unfollowed := true, recurses := true, apart := false }
def RulesNamesSaid : Prop := rulesNamesRow.holds Tryz.pinned (OpenSpec.ofChange rulesNamesSpec)

/-- ITS FALSE NEIGHBOUR: 'it returns false'. Refute it at one input. -/
def rulesNamesWrong : ChangeSpec := { name := "rulesNames", fn := fun _ => fun
  | [d1, d2, d3] => { results := [.lit (.bool false)], args := [d1, d2, d3] }
  | _ => none }
def RulesNamesWrongFalsely : Prop := rulesNamesRow.holds Tryz.pinned (OpenSpec.ofChange rulesNamesWrong)

/-- 'spoorlaw18.RulesLoad': WHATEVER THE INPUT: true; the input reads as it did. -/
def rulesLoadSpec : ChangeSpec := { name := "rulesLoad", fn := fun _ => fun
  | [d] => { results := [.lit (.bool true)], args := [d] }
  | _ => none }
def rulesLoadRow : OpenClaim := { program := "ytecjacicdpejaaagreat", sum := "de8690f50352ffefcb8367f89f1ed66f0a6be04412aaf87e73e6eb38d59f432a", func := "spoor/spoorlaw18.RulesLoad", spec := "rulesLoad", inPlace := ["slices.overlaps[spoor/table.row[string, int]]", "internal/abi.NoEscape"], unfollowed := true, recurses := true, apart := false }
def RulesLoadSaid : Prop := rulesLoadRow.holds Tryz.pinned (OpenSpec.ofChange rulesLoadSpec)

/-- ITS FALSE NEIGHBOUR: 'it returns false'. Refute it at one input. -/
def rulesLoadWrong : ChangeSpec := { name := "rulesLoad", fn := fun _ => fun
  | [d] => { results := [.lit (.bool false)], args := [d] }
  | _ => none }
def RulesLoadWrongFalsely : Prop := rulesLoadRow.holds Tryz.pinned (OpenSpec.ofChange rulesLoadWrong)

/-- 'spoorlaw18.RulesBytes': WHATEVER THE INPUT: true; the input reads as it did. -/
def rulesBytesSpec : ChangeSpec := { name := "rulesBytes", fn := fun _ => fun
  | [d1, d2, d3] => { results := [.lit (.bool true)], args := [d1, d2, d3] }
  | _ => none }
def rulesBytesRow : OpenClaim := { program := "ytecjacicdpejaaagreat", sum := "de8690f50352ffefcb8367f89f1ed66f0a6be04412aaf87e73e6eb38d59f432a", func := "spoor/spoorlaw18.RulesBytes", spec := "rulesBytes", inPlace := ["slices.overlaps[spoor/table.row[string, int]]", "internal/abi.NoEscape"], unfollowed := true, recurses := true, apart := false }
def RulesBytesSaid : Prop := rulesBytesRow.holds Tryz.pinned (OpenSpec.ofChange rulesBytesSpec)

/-- ITS FALSE NEIGHBOUR: 'it returns false'. Refute it at one input. -/
def rulesBytesWrong : ChangeSpec := { name := "rulesBytes", fn := fun _ => fun
  | [d1, d2, d3] => { results := [.lit (.bool false)], args := [d1, d2, d3] }
  | _ => none }
def RulesBytesWrongFalsely : Prop := rulesBytesRow.holds Tryz.pinned (OpenSpec.ofChange rulesBytesWrong)

/-- 'spoorlaw18.RulesBack': WHATEVER THE INPUT: true; the input reads as it did. -/
def rulesBackSpec : ChangeSpec := { name := "rulesBack", fn := fun _ => fun
  | [d] => { results := [.lit (.bool true)], args := [d] }
  | _ => none }
def rulesBackRow : OpenClaim := { program := "ytecjacicdpejaaagreat", sum := "de8690f50352ffefcb8367f89f1ed66f0a6be04412aaf87e73e6eb38d59f432a", func := "spoor/spoorlaw18.RulesBack", spec := "rulesBack", inPlace := ["slices.overlaps[spoor/table.row[string, int]]", "internal/abi.NoEscape"], unfollowed := true, recurses := true, apart := false }
def RulesBackSaid : Prop := rulesBackRow.holds Tryz.pinned (OpenSpec.ofChange rulesBackSpec)

/-- ITS FALSE NEIGHBOUR: 'it returns false'. Refute it at one input. -/
def rulesBackWrong : ChangeSpec := { name := "rulesBack", fn := fun _ => fun
  | [d] => { results := [.lit (.bool false)], args := [d] }
  | _ => none }
def RulesBackWrongFalsely : Prop := rulesBackRow.holds Tryz.pinned (OpenSpec.ofChange rulesBackWrong)

/- THE SECOND FORM. 'bulk': how many values and letters a reading holds, each counted each time it is reached (what is shared counts as often as it is met; a slice's spare places count too). A statement '..UptoSaid' is the law's where the arguments, and the package variables that the reading takes, are together of bulk at most 1048576: NARROWER than '..Said'. Prove '..Said' where nothing that the law and all that it calls make is longer than what came in: it says more and counts as full. Else prove '..UptoSaid'. A law counts once. -/
mutual
def uptoBulk {H : Type} : DataW H → Nat
  | .lit (.string bytes) => bytes.length + 1
  | .lit _ => 1
  | .nil => 1
  | .ptr d => uptoBulk d + 1
  | .slice elems spare => uptoBulkAll elems + uptoBulkAll spare + 1
  | .agg parts => uptoBulkAll parts + 1
  | .iface _ d => uptoBulk d + 1
  | .map entries => uptoBulkEntries entries + 1
  | .held _ => 1
def uptoBulkAll {H : Type} : List (DataW H) → Nat
  | [] => 0
  | d :: r => uptoBulk d + uptoBulkAll r
def uptoBulkEntries {H : Type} : List (Lit × DataW H) → Nat
  | [] => 0
  | x :: r => uptoBulkEntry x + uptoBulkEntries r
def uptoBulkEntry {H : Type} : Lit × DataW H → Nat
  | (.string bytes, d) => bytes.length + uptoBulk d + 1
  | (_, d) => uptoBulk d + 1
 end
def uptoSmall : (H : Type) → List (DataW H) → Bool := fun _ ds => decide (uptoBulkAll ds ≤ 1048576)
def OpenSpec.upto (s : _root_.Go.ChangeSpec) : _root_.Go.OpenSpec := { _root_.Go.OpenSpec.ofChange s with cond := some uptoSmall }

/-- 'spoorlaw17.StateWrites', WHERE WHAT IT READS IS OF BULK AT MOST 1048576: true; the input reads as it did. -/
def stateWritesUptoRow : OpenClaim := { program := "ytecjacicdpejaaagreat", sum := "de8690f50352ffefcb8367f89f1ed66f0a6be04412aaf87e73e6eb38d59f432a", func := "spoor/spoorlaw17.StateWrites", spec := "stateWrites", inPlace := ["internal/abi.NoEscape"], unfollowed := true, recurses := true, apart := false, narrowed := true }
def StateWritesUptoSaid : Prop := stateWritesUptoRow.holds Tryz.pinned (OpenSpec.upto stateWritesSpec)

/-- 'spoorlaw17.StateAny', WHERE WHAT IT READS IS OF BULK AT MOST 1048576: true; the input reads as it did. -/
def stateAnyUptoRow : OpenClaim := { program := "ytecjacicdpejaaagreat", sum := "de8690f50352ffefcb8367f89f1ed66f0a6be04412aaf87e73e6eb38d59f432a", func := "spoor/spoorlaw17.StateAny", spec := "stateAny", inPlace := ["internal/abi.NoEscape"], unfollowed := true, recurses := true, apart := false, narrowed := true }
def StateAnyUptoSaid : Prop := stateAnyUptoRow.holds Tryz.pinned (OpenSpec.upto stateAnySpec)

/-- 'spoorlaw17.StateReads', WHERE WHAT IT READS IS OF BULK AT MOST 1048576: true; the input reads as it did. -/
def stateReadsUptoRow : OpenClaim := { program := "ytecjacicdpejaaagreat", sum := "de8690f50352ffefcb8367f89f1ed66f0a6be04412aaf87e73e6eb38d59f432a", func := "spoor/spoorlaw17.StateReads", spec := "stateReads", inPlace := ["internal/abi.NoEscape"], unfollowed := true, recurses := true, apart := false, narrowed := true }
def StateReadsUptoSaid : Prop := stateReadsUptoRow.holds Tryz.pinned (OpenSpec.upto stateReadsSpec)

/-- 'spoorlaw17.StateTurned', WHERE WHAT IT READS IS OF BULK AT MOST 1048576: true; the input reads as it did. -/
def stateTurnedUptoRow : OpenClaim := { program := "ytecjacicdpejaaagreat", sum := "de8690f50352ffefcb8367f89f1ed66f0a6be04412aaf87e73e6eb38d59f432a", func := "spoor/spoorlaw17.StateTurned", spec := "stateTurned", inPlace := ["internal/abi.NoEscape"], unfollowed := true, recurses := true, apart := false, narrowed := true }
def StateTurnedUptoSaid : Prop := stateTurnedUptoRow.holds Tryz.pinned (OpenSpec.upto stateTurnedSpec)

/-- 'spoorlaw17.StateStale', WHERE WHAT IT READS IS OF BULK AT MOST 1048576: true; the input reads as it did. -/
def stateStaleUptoRow : OpenClaim := { program := "ytecjacicdpejaaagreat", sum := "de8690f50352ffefcb8367f89f1ed66f0a6be04412aaf87e73e6eb38d59f432a", func := "spoor/spoorlaw17.StateStale", spec := "stateStale", inPlace := ["internal/abi.NoEscape"], unfollowed := true, recurses := true, apart := false, narrowed := true }
def StateStaleUptoSaid : Prop := stateStaleUptoRow.holds Tryz.pinned (OpenSpec.upto stateStaleSpec)

/-- 'spoorlaw17.StateGets', WHERE WHAT IT READS IS OF BULK AT MOST 1048576: true; the input reads as it did. -/
def stateGetsUptoRow : OpenClaim := { program := "ytecjacicdpejaaagreat", sum := "de8690f50352ffefcb8367f89f1ed66f0a6be04412aaf87e73e6eb38d59f432a", func := "spoor/spoorlaw17.StateGets", spec := "stateGets", inPlace := ["internal/abi.NoEscape"], unfollowed := true, recurses := true, apart := false, narrowed := true }
def StateGetsUptoSaid : Prop := stateGetsUptoRow.holds Tryz.pinned (OpenSpec.upto stateGetsSpec)

/-- 'spoorlaw17.StateBack', WHERE WHAT IT READS IS OF BULK AT MOST 1048576: true; the input reads as it did. -/
def stateBackUptoRow : OpenClaim := { program := "ytecjacicdpejaaagreat", sum := "de8690f50352ffefcb8367f89f1ed66f0a6be04412aaf87e73e6eb38d59f432a", func := "spoor/spoorlaw17.StateBack", spec := "stateBack", inPlace := ["internal/abi.NoEscape"], unfollowed := true, recurses := true, apart := false, narrowed := true }
def StateBackUptoSaid : Prop := stateBackUptoRow.holds Tryz.pinned (OpenSpec.upto stateBackSpec)

/-- 'spoorlaw18.RulesNames', WHERE WHAT IT READS IS OF BULK AT MOST 1048576: true; the input reads as it did. -/
def rulesNamesUptoRow : OpenClaim := { program := "ytecjacicdpejaaagreat", sum := "de8690f50352ffefcb8367f89f1ed66f0a6be04412aaf87e73e6eb38d59f432a", func := "spoor/spoorlaw18.RulesNames", spec := "rulesNames", inPlace := ["slices.overlaps[spoor/table.row[string, int]]", "internal/abi.NoEscape"], unfollowed := true, recurses := true, apart := false, narrowed := true }
def RulesNamesUptoSaid : Prop := rulesNamesUptoRow.holds Tryz.pinned (OpenSpec.upto rulesNamesSpec)

/-- 'spoorlaw18.RulesLoad', WHERE WHAT IT READS IS OF BULK AT MOST 1048576: true; the input reads as it did. -/
def rulesLoadUptoRow : OpenClaim := { program := "ytecjacicdpejaaagreat", sum := "de8690f50352ffefcb8367f89f1ed66f0a6be04412aaf87e73e6eb38d59f432a", func := "spoor/spoorlaw18.RulesLoad", spec := "rulesLoad", inPlace := ["slices.overlaps[spoor/table.row[string, int]]", "internal/abi.NoEscape"], unfollowed := true, recurses := true, apart := false, narrowed := true }
def RulesLoadUptoSaid : Prop := rulesLoadUptoRow.holds Tryz.pinned (OpenSpec.upto rulesLoadSpec)

/-- 'spoorlaw18.RulesBytes', WHERE WHAT IT READS IS OF BULK AT MOST 1048576: true; the input reads as it did. -/
def rulesBytesUptoRow : OpenClaim := { program := "ytecjacicdpejaaagreat", sum := "de8690f50352ffefcb8367f89f1ed66f0a6be04412aaf87e73e6eb38d59f432a", func := "spoor/spoorlaw18.RulesBytes", spec := "rulesBytes", inPlace := ["slices.overlaps[spoor/table.row[string, int]]", "internal/abi.NoEscape"], unfollowed := true, recurses := true, apart := false, narrowed := true }
def RulesBytesUptoSaid : Prop := rulesBytesUptoRow.holds Tryz.pinned (OpenSpec.upto rulesBytesSpec)

/-- 'spoorlaw18.RulesBack', WHERE WHAT IT READS IS OF BULK AT MOST 1048576: true; the input reads as it did. -/
def rulesBackUptoRow : OpenClaim := { program := "ytecjacicdpejaaagreat", sum := "de8690f50352ffefcb8367f89f1ed66f0a6be04412aaf87e73e6eb38d59f432a", func := "spoor/spoorlaw18.RulesBack", spec := "rulesBack", inPlace := ["slices.overlaps[spoor/table.row[string, int]]", "internal/abi.NoEscape"], unfollowed := true, recurses := true, apart := false, narrowed := true }
def RulesBackUptoSaid : Prop := rulesBackUptoRow.holds Tryz.pinned (OpenSpec.upto rulesBackSpec)

end Rows
end Go.Proofs.YtecjacicdpejaaaGreat
