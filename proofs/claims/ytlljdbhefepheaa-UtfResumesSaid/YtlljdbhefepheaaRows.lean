/-
  No cell of these rows narrows 'for every input' (looked for: loops, veiled, ifaces, maps, wideKeys, modest, calm, conditions, laid).
  DERIVED. THE GIVEN ROWS OF THIS SEAT. 7 by the template 'for every input the law returns true; each argument reads behind the call as it read before'; 0 by the template 'total and deterministic' (their statements: YtlljdbhefepheaaTotals.lean).
  GIVEN WITH THE SEED: the statements are not yours to turn. If you find one false, say at which input.
  Laid BY PROGRAM, IN A SANDBOX (cutbox-rows.mjs): the forced cells as the released guide's own fill.sh prints them over the translation 5f94aba6bf8f045c… (all of the seat's roots in one cut). By AI agents, Wed Nov 11 2026. No macro, syntax, notation, axiom, sorry.
-/
import Derived.Test.YtlljdbhefepheaaChecked
import GoSem.Claim
import GoSem.ClaimJoined
import GoSem.ClaimMapViews
import Derived.JoinedTies
import Derived.KernelRfl
namespace Go.Proofs.Ytlljdbhefepheaa
/- THE CELL 'sum', in the pinned program and in every row, IS THE sha256 OF THE DUMP (.gsa) THAT YtlljdbhefepheaaProg.lean LOADS. Nothing in Lean hashes anything: it is a label: what it is worth is what the hold of that sum in a sandbox is worth. -/
noncomputable def Try.pinned : Pinned := { name := "ytlljdbhefepheaa", sum := "5f94aba6bf8f045c9abf7ed141865dd9934f2a7145ef2635f63d0bf1c7b15167", checked := Try.checked }
namespace Rows
def none {H : Type} : Left H := { results := [], args := [] }

/-- 'spoorlaw7.UtfRuns': WHATEVER THE INPUT: true; the input reads as it did. -/
def utfRunsSpec : ChangeSpec := { name := "utfRuns", fn := fun _ => fun
  | [] => { results := [.lit (.bool true)], args := [] }
  | _ => none }
def utfRunsRow : OpenClaim := { program := "ytlljdbhefepheaa", sum := "5f94aba6bf8f045c9abf7ed141865dd9934f2a7145ef2635f63d0bf1c7b15167", func := "spoor/spoorlaw7.UtfRuns", spec := "utfRuns", apart := false }
def UtfRunsSaid : Prop := utfRunsRow.holds Try.pinned (OpenSpec.ofChange utfRunsSpec)

/-- ITS FALSE NEIGHBOUR: 'it returns false'. Refute it at one input. -/
def utfRunsWrong : ChangeSpec := { name := "utfRuns", fn := fun _ => fun
  | [] => { results := [.lit (.bool false)], args := [] }
  | _ => none }
def UtfRunsWrongFalsely : Prop := utfRunsRow.holds Try.pinned (OpenSpec.ofChange utfRunsWrong)

/-- 'spoorlaw7.UtfAll': WHATEVER THE INPUT: true; the input reads as it did. -/
def utfAllSpec : ChangeSpec := { name := "utfAll", fn := fun _ => fun
  | [d] => { results := [.lit (.bool true)], args := [d] }
  | _ => none }
def utfAllRow : OpenClaim := { program := "ytlljdbhefepheaa", sum := "5f94aba6bf8f045c9abf7ed141865dd9934f2a7145ef2635f63d0bf1c7b15167", func := "spoor/spoorlaw7.UtfAll", spec := "utfAll", apart := false }
def UtfAllSaid : Prop := utfAllRow.holds Try.pinned (OpenSpec.ofChange utfAllSpec)

/-- ITS FALSE NEIGHBOUR: 'it returns false'. Refute it at one input. -/
def utfAllWrong : ChangeSpec := { name := "utfAll", fn := fun _ => fun
  | [d] => { results := [.lit (.bool false)], args := [d] }
  | _ => none }
def UtfAllWrongFalsely : Prop := utfAllRow.holds Try.pinned (OpenSpec.ofChange utfAllWrong)

/-- 'spoorlaw7.UtfGo': WHATEVER THE INPUT: true; the input reads as it did. -/
def utfGoSpec : ChangeSpec := { name := "utfGo", fn := fun _ => fun
  | [d] => { results := [.lit (.bool true)], args := [d] }
  | _ => none }
def utfGoRow : OpenClaim := { program := "ytlljdbhefepheaa", sum := "5f94aba6bf8f045c9abf7ed141865dd9934f2a7145ef2635f63d0bf1c7b15167", func := "spoor/spoorlaw7.UtfGo", spec := "utfGo", apart := false }
def UtfGoSaid : Prop := utfGoRow.holds Try.pinned (OpenSpec.ofChange utfGoSpec)

/-- ITS FALSE NEIGHBOUR: 'it returns false'. Refute it at one input. -/
def utfGoWrong : ChangeSpec := { name := "utfGo", fn := fun _ => fun
  | [d] => { results := [.lit (.bool false)], args := [d] }
  | _ => none }
def UtfGoWrongFalsely : Prop := utfGoRow.holds Try.pinned (OpenSpec.ofChange utfGoWrong)

/-- 'spoorlaw7.UtfBack': WHATEVER THE INPUT: true; the input reads as it did. -/
def utfBackSpec : ChangeSpec := { name := "utfBack", fn := fun _ => fun
  | [d] => { results := [.lit (.bool true)], args := [d] }
  | _ => none }
def utfBackRow : OpenClaim := { program := "ytlljdbhefepheaa", sum := "5f94aba6bf8f045c9abf7ed141865dd9934f2a7145ef2635f63d0bf1c7b15167", func := "spoor/spoorlaw7.UtfBack", spec := "utfBack", apart := false }
def UtfBackSaid : Prop := utfBackRow.holds Try.pinned (OpenSpec.ofChange utfBackSpec)

/-- ITS FALSE NEIGHBOUR: 'it returns false'. Refute it at one input. -/
def utfBackWrong : ChangeSpec := { name := "utfBack", fn := fun _ => fun
  | [d] => { results := [.lit (.bool false)], args := [d] }
  | _ => none }
def UtfBackWrongFalsely : Prop := utfBackRow.holds Try.pinned (OpenSpec.ofChange utfBackWrong)

/-- 'spoorlaw7.UtfSteps': WHATEVER THE INPUT: true; the input reads as it did. -/
def utfStepsSpec : ChangeSpec := { name := "utfSteps", fn := fun _ => fun
  | [d] => { results := [.lit (.bool true)], args := [d] }
  | _ => none }
def utfStepsRow : OpenClaim := { program := "ytlljdbhefepheaa", sum := "5f94aba6bf8f045c9abf7ed141865dd9934f2a7145ef2635f63d0bf1c7b15167", func := "spoor/spoorlaw7.UtfSteps", spec := "utfSteps", apart := false }
def UtfStepsSaid : Prop := utfStepsRow.holds Try.pinned (OpenSpec.ofChange utfStepsSpec)

/-- ITS FALSE NEIGHBOUR: 'it returns false'. Refute it at one input. -/
def utfStepsWrong : ChangeSpec := { name := "utfSteps", fn := fun _ => fun
  | [d] => { results := [.lit (.bool false)], args := [d] }
  | _ => none }
def UtfStepsWrongFalsely : Prop := utfStepsRow.holds Try.pinned (OpenSpec.ofChange utfStepsWrong)

/-- 'spoorlaw7.UtfWhole': WHATEVER THE INPUT: true; the input reads as it did. -/
def utfWholeSpec : ChangeSpec := { name := "utfWhole", fn := fun _ => fun
  | [d] => { results := [.lit (.bool true)], args := [d] }
  | _ => none }
def utfWholeRow : OpenClaim := { program := "ytlljdbhefepheaa", sum := "5f94aba6bf8f045c9abf7ed141865dd9934f2a7145ef2635f63d0bf1c7b15167", func := "spoor/spoorlaw7.UtfWhole", spec := "utfWhole", apart := false }
def UtfWholeSaid : Prop := utfWholeRow.holds Try.pinned (OpenSpec.ofChange utfWholeSpec)

/-- ITS FALSE NEIGHBOUR: 'it returns false'. Refute it at one input. -/
def utfWholeWrong : ChangeSpec := { name := "utfWhole", fn := fun _ => fun
  | [d] => { results := [.lit (.bool false)], args := [d] }
  | _ => none }
def UtfWholeWrongFalsely : Prop := utfWholeRow.holds Try.pinned (OpenSpec.ofChange utfWholeWrong)

/-- 'spoorlaw7.UtfResumes': WHATEVER THE INPUT: true; the input reads as it did. -/
def utfResumesSpec : ChangeSpec := { name := "utfResumes", fn := fun _ => fun
  | [d1, d2, d3] => { results := [.lit (.bool true)], args := [d1, d2, d3] }
  | _ => none }
def utfResumesRow : OpenClaim := { program := "ytlljdbhefepheaa", sum := "5f94aba6bf8f045c9abf7ed141865dd9934f2a7145ef2635f63d0bf1c7b15167", func := "spoor/spoorlaw7.UtfResumes", spec := "utfResumes", apart := false }
def UtfResumesSaid : Prop := utfResumesRow.holds Try.pinned (OpenSpec.ofChange utfResumesSpec)

/-- ITS FALSE NEIGHBOUR: 'it returns false'. Refute it at one input. -/
def utfResumesWrong : ChangeSpec := { name := "utfResumes", fn := fun _ => fun
  | [d1, d2, d3] => { results := [.lit (.bool false)], args := [d1, d2, d3] }
  | _ => none }
def UtfResumesWrongFalsely : Prop := utfResumesRow.holds Try.pinned (OpenSpec.ofChange utfResumesWrong)

/- THE SECOND FORM. 'bulk': how many values and letters a reading holds, each counted each time it is reached (what is shared counts as often as it is met; a slice's spare places count too). A statement '..UptoSaid' is the law's where the arguments, and the package variables that the reading takes, are together of bulk at most 1048576: NARROWER than '..Said'. Prove '..Said' where nothing that the law and all that it calls make is longer than what came in: it says more and counts as full. Else prove '..UptoSaid'. A law counts once. -/
mutual
def uptoBulk {H : Type} : DataW H → Nat
  | .lit (.string bytes) => bytes.length + 1
  | .lit _ => 1
  | .nil => 1
  | .ptr d => uptoBulk d + 1
  | .slice elems spare => uptoBulkAll elems + uptoBulkAll spare + 1
  | .agg parts => uptoBulkAll parts + 1
  | .iface _ d => uptoBulk d + 1
  | .map entries => uptoBulkEntries entries + 1
  | .held _ => 1
def uptoBulkAll {H : Type} : List (DataW H) → Nat
  | [] => 0
  | d :: r => uptoBulk d + uptoBulkAll r
def uptoBulkEntries {H : Type} : List (Lit × DataW H) → Nat
  | [] => 0
  | x :: r => uptoBulkEntry x + uptoBulkEntries r
def uptoBulkEntry {H : Type} : Lit × DataW H → Nat
  | (.string bytes, d) => bytes.length + uptoBulk d + 1
  | (_, d) => uptoBulk d + 1
 end
def uptoSmall : (H : Type) → List (DataW H) → Bool := fun _ ds => decide (uptoBulkAll ds ≤ 1048576)
def OpenSpec.upto (s : _root_.Go.ChangeSpec) : _root_.Go.OpenSpec := { _root_.Go.OpenSpec.ofChange s with cond := some uptoSmall }

/-- 'spoorlaw7.UtfRuns', WHERE WHAT IT READS IS OF BULK AT MOST 1048576: true; the input reads as it did. -/
def utfRunsUptoRow : OpenClaim := { program := "ytlljdbhefepheaa", sum := "5f94aba6bf8f045c9abf7ed141865dd9934f2a7145ef2635f63d0bf1c7b15167", func := "spoor/spoorlaw7.UtfRuns", spec := "utfRuns", apart := false, narrowed := true }
def UtfRunsUptoSaid : Prop := utfRunsUptoRow.holds Try.pinned (OpenSpec.upto utfRunsSpec)

/-- 'spoorlaw7.UtfAll', WHERE WHAT IT READS IS OF BULK AT MOST 1048576: true; the input reads as it did. -/
def utfAllUptoRow : OpenClaim := { program := "ytlljdbhefepheaa", sum := "5f94aba6bf8f045c9abf7ed141865dd9934f2a7145ef2635f63d0bf1c7b15167", func := "spoor/spoorlaw7.UtfAll", spec := "utfAll", apart := false, narrowed := true }
def UtfAllUptoSaid : Prop := utfAllUptoRow.holds Try.pinned (OpenSpec.upto utfAllSpec)

/-- 'spoorlaw7.UtfGo', WHERE WHAT IT READS IS OF BULK AT MOST 1048576: true; the input reads as it did. -/
def utfGoUptoRow : OpenClaim := { program := "ytlljdbhefepheaa", sum := "5f94aba6bf8f045c9abf7ed141865dd9934f2a7145ef2635f63d0bf1c7b15167", func := "spoor/spoorlaw7.UtfGo", spec := "utfGo", apart := false, narrowed := true }
def UtfGoUptoSaid : Prop := utfGoUptoRow.holds Try.pinned (OpenSpec.upto utfGoSpec)

/-- 'spoorlaw7.UtfBack', WHERE WHAT IT READS IS OF BULK AT MOST 1048576: true; the input reads as it did. -/
def utfBackUptoRow : OpenClaim := { program := "ytlljdbhefepheaa", sum := "5f94aba6bf8f045c9abf7ed141865dd9934f2a7145ef2635f63d0bf1c7b15167", func := "spoor/spoorlaw7.UtfBack", spec := "utfBack", apart := false, narrowed := true }
def UtfBackUptoSaid : Prop := utfBackUptoRow.holds Try.pinned (OpenSpec.upto utfBackSpec)

/-- 'spoorlaw7.UtfSteps', WHERE WHAT IT READS IS OF BULK AT MOST 1048576: true; the input reads as it did. -/
def utfStepsUptoRow : OpenClaim := { program := "ytlljdbhefepheaa", sum := "5f94aba6bf8f045c9abf7ed141865dd9934f2a7145ef2635f63d0bf1c7b15167", func := "spoor/spoorlaw7.UtfSteps", spec := "utfSteps", apart := false, narrowed := true }
def UtfStepsUptoSaid : Prop := utfStepsUptoRow.holds Try.pinned (OpenSpec.upto utfStepsSpec)

/-- 'spoorlaw7.UtfWhole', WHERE WHAT IT READS IS OF BULK AT MOST 1048576: true; the input reads as it did. -/
def utfWholeUptoRow : OpenClaim := { program := "ytlljdbhefepheaa", sum := "5f94aba6bf8f045c9abf7ed141865dd9934f2a7145ef2635f63d0bf1c7b15167", func := "spoor/spoorlaw7.UtfWhole", spec := "utfWhole", apart := false, narrowed := true }
def UtfWholeUptoSaid : Prop := utfWholeUptoRow.holds Try.pinned (OpenSpec.upto utfWholeSpec)

/-- 'spoorlaw7.UtfResumes', WHERE WHAT IT READS IS OF BULK AT MOST 1048576: true; the input reads as it did. -/
def utfResumesUptoRow : OpenClaim := { program := "ytlljdbhefepheaa", sum := "5f94aba6bf8f045c9abf7ed141865dd9934f2a7145ef2635f63d0bf1c7b15167", func := "spoor/spoorlaw7.UtfResumes", spec := "utfResumes", apart := false, narrowed := true }
def UtfResumesUptoSaid : Prop := utfResumesUptoRow.holds Try.pinned (OpenSpec.upto utfResumesSpec)

end Rows
end Go.Proofs.Ytlljdbhefepheaa
