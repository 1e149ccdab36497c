/-
  No cell of these rows narrows 'for every input' (looked for: loops, veiled, ifaces, maps, wideKeys, modest, calm, conditions, laid).
  DERIVED. THE GIVEN ROWS OF THIS SEAT. 12 by the template 'for every input the law returns true; each argument reads behind the call as it read before'; 0 by the template 'total and deterministic' (their statements: YtjcflbhaapcjbaaTotals.lean).
  GIVEN WITH THE SEED: the statements are not yours to turn. If you find one false, say at which input.
  Laid BY PROGRAM, IN A SANDBOX (cutbox-rows.mjs): the forced cells as the released guide's own fill.sh prints them over the translation 9fc458a53413167a… (all of the seat's roots in one cut). By AI agents, Wed Nov 11 2026. No macro, syntax, notation, axiom, sorry.
-/
import Derived.Test.YtjcflbhaapcjbaaChecked
import GoSem.Claim
import GoSem.ClaimJoined
import GoSem.ClaimMapViews
import Derived.JoinedTies
import Derived.KernelRfl
namespace Go.Proofs.Ytjcflbhaapcjbaa
/- THE CELL 'sum', in the pinned program and in every row, IS THE sha256 OF THE DUMP (.gsa) THAT YtjcflbhaapcjbaaProg.lean LOADS. Nothing in Lean hashes anything: it is a label: what it is worth is what the hold of that sum in a sandbox is worth. -/
noncomputable def Try.pinned : Pinned := { name := "ytjcflbhaapcjbaa", sum := "9fc458a53413167ad4570d7aa6c72127863d6898267f0fb3b1a97506cdbb482f", checked := Try.checked }
namespace Rows
def none {H : Type} : Left H := { results := [], args := [] }

/-- 'laws.FnExactSceneOf': WHATEVER THE INPUT: true; the input reads as it did. -/
def fnExactSceneOfSpec : ChangeSpec := { name := "fnExactSceneOf", fn := fun _ => fun
  | [d1, d2, d3, d4] => { results := [.lit (.bool true)], args := [d1, d2, d3, d4] }
  | _ => none }
def fnExactSceneOfRow : OpenClaim := { program := "ytjcflbhaapcjbaa", sum := "9fc458a53413167ad4570d7aa6c72127863d6898267f0fb3b1a97506cdbb482f", func := "loop.example/g00960/laws.FnExactSceneOf", spec := "fnExactSceneOf", apart := false }
def FnExactSceneOfSaid : Prop := fnExactSceneOfRow.holds Try.pinned (OpenSpec.ofChange fnExactSceneOfSpec)

/-- ITS FALSE NEIGHBOUR: 'it returns false'. Refute it at one input. -/
def fnExactSceneOfWrong : ChangeSpec := { name := "fnExactSceneOf", fn := fun _ => fun
  | [d1, d2, d3, d4] => { results := [.lit (.bool false)], args := [d1, d2, d3, d4] }
  | _ => none }
def FnExactSceneOfWrongFalsely : Prop := fnExactSceneOfRow.holds Try.pinned (OpenSpec.ofChange fnExactSceneOfWrong)

/-- 'laws.FnExactTellText': WHATEVER THE INPUT: true; the input reads as it did. -/
def fnExactTellTextSpec : ChangeSpec := { name := "fnExactTellText", fn := fun _ => fun
  | [d] => { results := [.lit (.bool true)], args := [d] }
  | _ => none }
def fnExactTellTextRow : OpenClaim := { program := "ytjcflbhaapcjbaa", sum := "9fc458a53413167ad4570d7aa6c72127863d6898267f0fb3b1a97506cdbb482f", func := "loop.example/g00960/laws.FnExactTellText", spec := "fnExactTellText", apart := false }
def FnExactTellTextSaid : Prop := fnExactTellTextRow.holds Try.pinned (OpenSpec.ofChange fnExactTellTextSpec)

/-- ITS FALSE NEIGHBOUR: 'it returns false'. Refute it at one input. -/
def fnExactTellTextWrong : ChangeSpec := { name := "fnExactTellText", fn := fun _ => fun
  | [d] => { results := [.lit (.bool false)], args := [d] }
  | _ => none }
def FnExactTellTextWrongFalsely : Prop := fnExactTellTextRow.holds Try.pinned (OpenSpec.ofChange fnExactTellTextWrong)

/-- 'laws.FnScenes': WHATEVER THE INPUT: true; the input reads as it did. -/
def fnScenesSpec : ChangeSpec := { name := "fnScenes", fn := fun _ => fun
  | [d] => { results := [.lit (.bool true)], args := [d] }
  | _ => none }
def fnScenesRow : OpenClaim := { program := "ytjcflbhaapcjbaa", sum := "9fc458a53413167ad4570d7aa6c72127863d6898267f0fb3b1a97506cdbb482f", func := "loop.example/g00960/laws.FnScenes", spec := "fnScenes", apart := false }
def FnScenesSaid : Prop := fnScenesRow.holds Try.pinned (OpenSpec.ofChange fnScenesSpec)

/-- ITS FALSE NEIGHBOUR: 'it returns false'. Refute it at one input. -/
def fnScenesWrong : ChangeSpec := { name := "fnScenes", fn := fun _ => fun
  | [d] => { results := [.lit (.bool false)], args := [d] }
  | _ => none }
def FnScenesWrongFalsely : Prop := fnScenesRow.holds Try.pinned (OpenSpec.ofChange fnScenesWrong)

/-- 'laws.FnExactEventText': WHATEVER THE INPUT: true; the input reads as it did. -/
def fnExactEventTextSpec : ChangeSpec := { name := "fnExactEventText", fn := fun _ => fun
  | [d] => { results := [.lit (.bool true)], args := [d] }
  | _ => none }
def fnExactEventTextRow : OpenClaim := { program := "ytjcflbhaapcjbaa", sum := "9fc458a53413167ad4570d7aa6c72127863d6898267f0fb3b1a97506cdbb482f", func := "loop.example/g00960/laws.FnExactEventText", spec := "fnExactEventText", apart := false }
def FnExactEventTextSaid : Prop := fnExactEventTextRow.holds Try.pinned (OpenSpec.ofChange fnExactEventTextSpec)

/-- ITS FALSE NEIGHBOUR: 'it returns false'. Refute it at one input. -/
def fnExactEventTextWrong : ChangeSpec := { name := "fnExactEventText", fn := fun _ => fun
  | [d] => { results := [.lit (.bool false)], args := [d] }
  | _ => none }
def FnExactEventTextWrongFalsely : Prop := fnExactEventTextRow.holds Try.pinned (OpenSpec.ofChange fnExactEventTextWrong)

/-- 'laws.FnExactCellOf': WHATEVER THE INPUT: true; the input reads as it did. -/
def fnExactCellOfSpec : ChangeSpec := { name := "fnExactCellOf", fn := fun _ => fun
  | [d1, d2] => { results := [.lit (.bool true)], args := [d1, d2] }
  | _ => none }
def fnExactCellOfRow : OpenClaim := { program := "ytjcflbhaapcjbaa", sum := "9fc458a53413167ad4570d7aa6c72127863d6898267f0fb3b1a97506cdbb482f", func := "loop.example/g00960/laws.FnExactCellOf", spec := "fnExactCellOf", apart := false }
def FnExactCellOfSaid : Prop := fnExactCellOfRow.holds Try.pinned (OpenSpec.ofChange fnExactCellOfSpec)

/-- ITS FALSE NEIGHBOUR: 'it returns false'. Refute it at one input. -/
def fnExactCellOfWrong : ChangeSpec := { name := "fnExactCellOf", fn := fun _ => fun
  | [d1, d2] => { results := [.lit (.bool false)], args := [d1, d2] }
  | _ => none }
def FnExactCellOfWrongFalsely : Prop := fnExactCellOfRow.holds Try.pinned (OpenSpec.ofChange fnExactCellOfWrong)

/-- 'laws.FnExactKept': WHATEVER THE INPUT: true; the input reads as it did. -/
def fnExactKeptSpec : ChangeSpec := { name := "fnExactKept", fn := fun _ => fun
  | [d1, d2] => { results := [.lit (.bool true)], args := [d1, d2] }
  | _ => none }
def fnExactKeptRow : OpenClaim := { program := "ytjcflbhaapcjbaa", sum := "9fc458a53413167ad4570d7aa6c72127863d6898267f0fb3b1a97506cdbb482f", func := "loop.example/g00960/laws.FnExactKept", spec := "fnExactKept", apart := false }
def FnExactKeptSaid : Prop := fnExactKeptRow.holds Try.pinned (OpenSpec.ofChange fnExactKeptSpec)

/-- ITS FALSE NEIGHBOUR: 'it returns false'. Refute it at one input. -/
def fnExactKeptWrong : ChangeSpec := { name := "fnExactKept", fn := fun _ => fun
  | [d1, d2] => { results := [.lit (.bool false)], args := [d1, d2] }
  | _ => none }
def FnExactKeptWrongFalsely : Prop := fnExactKeptRow.holds Try.pinned (OpenSpec.ofChange fnExactKeptWrong)

/-- 'laws.FnEventsTold': WHATEVER THE INPUT: true; the input reads as it did. -/
def fnEventsToldSpec : ChangeSpec := { name := "fnEventsTold", fn := fun _ => fun
  | [d] => { results := [.lit (.bool true)], args := [d] }
  | _ => none }
def fnEventsToldRow : OpenClaim := { program := "ytjcflbhaapcjbaa", sum := "9fc458a53413167ad4570d7aa6c72127863d6898267f0fb3b1a97506cdbb482f", func := "loop.example/g00960/laws.FnEventsTold", spec := "fnEventsTold", apart := false }
def FnEventsToldSaid : Prop := fnEventsToldRow.holds Try.pinned (OpenSpec.ofChange fnEventsToldSpec)

/-- ITS FALSE NEIGHBOUR: 'it returns false'. Refute it at one input. -/
def fnEventsToldWrong : ChangeSpec := { name := "fnEventsTold", fn := fun _ => fun
  | [d] => { results := [.lit (.bool false)], args := [d] }
  | _ => none }
def FnEventsToldWrongFalsely : Prop := fnEventsToldRow.holds Try.pinned (OpenSpec.ofChange fnEventsToldWrong)

/-- 'laws.FnExactReadEvent': WHATEVER THE INPUT: true; the input reads as it did. -/
def fnExactReadEventSpec : ChangeSpec := { name := "fnExactReadEvent", fn := fun _ => fun
  | [d] => { results := [.lit (.bool true)], args := [d] }
  | _ => none }
def fnExactReadEventRow : OpenClaim := { program := "ytjcflbhaapcjbaa", sum := "9fc458a53413167ad4570d7aa6c72127863d6898267f0fb3b1a97506cdbb482f", func := "loop.example/g00960/laws.FnExactReadEvent", spec := "fnExactReadEvent", apart := false }
def FnExactReadEventSaid : Prop := fnExactReadEventRow.holds Try.pinned (OpenSpec.ofChange fnExactReadEventSpec)

/-- ITS FALSE NEIGHBOUR: 'it returns false'. Refute it at one input. -/
def fnExactReadEventWrong : ChangeSpec := { name := "fnExactReadEvent", fn := fun _ => fun
  | [d] => { results := [.lit (.bool false)], args := [d] }
  | _ => none }
def FnExactReadEventWrongFalsely : Prop := fnExactReadEventRow.holds Try.pinned (OpenSpec.ofChange fnExactReadEventWrong)

/-- 'laws.FnExactLayoutSeq': WHATEVER THE INPUT: true; the input reads as it did. -/
def fnExactLayoutSeqSpec : ChangeSpec := { name := "fnExactLayoutSeq", fn := fun _ => fun
  | [d1, d2] => { results := [.lit (.bool true)], args := [d1, d2] }
  | _ => none }
def fnExactLayoutSeqRow : OpenClaim := { program := "ytjcflbhaapcjbaa", sum := "9fc458a53413167ad4570d7aa6c72127863d6898267f0fb3b1a97506cdbb482f", func := "loop.example/g00960/laws.FnExactLayoutSeq", spec := "fnExactLayoutSeq", apart := false }
def FnExactLayoutSeqSaid : Prop := fnExactLayoutSeqRow.holds Try.pinned (OpenSpec.ofChange fnExactLayoutSeqSpec)

/-- ITS FALSE NEIGHBOUR: 'it returns false'. Refute it at one input. -/
def fnExactLayoutSeqWrong : ChangeSpec := { name := "fnExactLayoutSeq", fn := fun _ => fun
  | [d1, d2] => { results := [.lit (.bool false)], args := [d1, d2] }
  | _ => none }
def FnExactLayoutSeqWrongFalsely : Prop := fnExactLayoutSeqRow.holds Try.pinned (OpenSpec.ofChange fnExactLayoutSeqWrong)

/-- 'laws.FnLayouts': WHATEVER THE INPUT: true; the input reads as it did. -/
def fnLayoutsSpec : ChangeSpec := { name := "fnLayouts", fn := fun _ => fun
  | [d] => { results := [.lit (.bool true)], args := [d] }
  | _ => none }
def fnLayoutsRow : OpenClaim := { program := "ytjcflbhaapcjbaa", sum := "9fc458a53413167ad4570d7aa6c72127863d6898267f0fb3b1a97506cdbb482f", func := "loop.example/g00960/laws.FnLayouts", spec := "fnLayouts", apart := false }
def FnLayoutsSaid : Prop := fnLayoutsRow.holds Try.pinned (OpenSpec.ofChange fnLayoutsSpec)

/-- ITS FALSE NEIGHBOUR: 'it returns false'. Refute it at one input. -/
def fnLayoutsWrong : ChangeSpec := { name := "fnLayouts", fn := fun _ => fun
  | [d] => { results := [.lit (.bool false)], args := [d] }
  | _ => none }
def FnLayoutsWrongFalsely : Prop := fnLayoutsRow.holds Try.pinned (OpenSpec.ofChange fnLayoutsWrong)

/-- 'laws.FnExactLayoutText': WHATEVER THE INPUT: true; the input reads as it did. -/
def fnExactLayoutTextSpec : ChangeSpec := { name := "fnExactLayoutText", fn := fun _ => fun
  | [d] => { results := [.lit (.bool true)], args := [d] }
  | _ => none }
def fnExactLayoutTextRow : OpenClaim := { program := "ytjcflbhaapcjbaa", sum := "9fc458a53413167ad4570d7aa6c72127863d6898267f0fb3b1a97506cdbb482f", func := "loop.example/g00960/laws.FnExactLayoutText", spec := "fnExactLayoutText", apart := false }
def FnExactLayoutTextSaid : Prop := fnExactLayoutTextRow.holds Try.pinned (OpenSpec.ofChange fnExactLayoutTextSpec)

/-- ITS FALSE NEIGHBOUR: 'it returns false'. Refute it at one input. -/
def fnExactLayoutTextWrong : ChangeSpec := { name := "fnExactLayoutText", fn := fun _ => fun
  | [d] => { results := [.lit (.bool false)], args := [d] }
  | _ => none }
def FnExactLayoutTextWrongFalsely : Prop := fnExactLayoutTextRow.holds Try.pinned (OpenSpec.ofChange fnExactLayoutTextWrong)

/-- 'laws.FnExactReadScript': WHATEVER THE INPUT: true; the input reads as it did. -/
def fnExactReadScriptSpec : ChangeSpec := { name := "fnExactReadScript", fn := fun _ => fun
  | [d] => { results := [.lit (.bool true)], args := [d] }
  | _ => none }
def fnExactReadScriptRow : OpenClaim := { program := "ytjcflbhaapcjbaa", sum := "9fc458a53413167ad4570d7aa6c72127863d6898267f0fb3b1a97506cdbb482f", func := "loop.example/g00960/laws.FnExactReadScript", spec := "fnExactReadScript", apart := false }
def FnExactReadScriptSaid : Prop := fnExactReadScriptRow.holds Try.pinned (OpenSpec.ofChange fnExactReadScriptSpec)

/-- ITS FALSE NEIGHBOUR: 'it returns false'. Refute it at one input. -/
def fnExactReadScriptWrong : ChangeSpec := { name := "fnExactReadScript", fn := fun _ => fun
  | [d] => { results := [.lit (.bool false)], args := [d] }
  | _ => none }
def FnExactReadScriptWrongFalsely : Prop := fnExactReadScriptRow.holds Try.pinned (OpenSpec.ofChange fnExactReadScriptWrong)

/- THE SECOND FORM. 'bulk': how many values and letters a reading holds, each counted each time it is reached (what is shared counts as often as it is met; a slice's spare places count too). A statement '..UptoSaid' is the law's where the arguments, and the package variables that the reading takes, are together of bulk at most 1048576: NARROWER than '..Said'. Prove '..Said' where nothing that the law and all that it calls make is longer than what came in: it says more and counts as full. Else prove '..UptoSaid'. A law counts once. -/
mutual
def uptoBulk {H : Type} : DataW H → Nat
  | .lit (.string bytes) => bytes.length + 1
  | .lit _ => 1
  | .nil => 1
  | .ptr d => uptoBulk d + 1
  | .slice elems spare => uptoBulkAll elems + uptoBulkAll spare + 1
  | .agg parts => uptoBulkAll parts + 1
  | .iface _ d => uptoBulk d + 1
  | .map entries => uptoBulkEntries entries + 1
  | .held _ => 1
def uptoBulkAll {H : Type} : List (DataW H) → Nat
  | [] => 0
  | d :: r => uptoBulk d + uptoBulkAll r
def uptoBulkEntries {H : Type} : List (Lit × DataW H) → Nat
  | [] => 0
  | x :: r => uptoBulkEntry x + uptoBulkEntries r
def uptoBulkEntry {H : Type} : Lit × DataW H → Nat
  | (.string bytes, d) => bytes.length + uptoBulk d + 1
  | (_, d) => uptoBulk d + 1
 end
def uptoSmall : (H : Type) → List (DataW H) → Bool := fun _ ds => decide (uptoBulkAll ds ≤ 1048576)
def OpenSpec.upto (s : _root_.Go.ChangeSpec) : _root_.Go.OpenSpec := { _root_.Go.OpenSpec.ofChange s with cond := some uptoSmall }

/-- 'laws.FnExactSceneOf', WHERE WHAT IT READS IS OF BULK AT MOST 1048576: true; the input reads as it did. -/
def fnExactSceneOfUptoRow : OpenClaim := { program := "ytjcflbhaapcjbaa", sum := "9fc458a53413167ad4570d7aa6c72127863d6898267f0fb3b1a97506cdbb482f", func := "loop.example/g00960/laws.FnExactSceneOf", spec := "fnExactSceneOf", apart := false, narrowed := true }
def FnExactSceneOfUptoSaid : Prop := fnExactSceneOfUptoRow.holds Try.pinned (OpenSpec.upto fnExactSceneOfSpec)

/-- 'laws.FnExactTellText', WHERE WHAT IT READS IS OF BULK AT MOST 1048576: true; the input reads as it did. -/
def fnExactTellTextUptoRow : OpenClaim := { program := "ytjcflbhaapcjbaa", sum := "9fc458a53413167ad4570d7aa6c72127863d6898267f0fb3b1a97506cdbb482f", func := "loop.example/g00960/laws.FnExactTellText", spec := "fnExactTellText", apart := false, narrowed := true }
def FnExactTellTextUptoSaid : Prop := fnExactTellTextUptoRow.holds Try.pinned (OpenSpec.upto fnExactTellTextSpec)

/-- 'laws.FnScenes', WHERE WHAT IT READS IS OF BULK AT MOST 1048576: true; the input reads as it did. -/
def fnScenesUptoRow : OpenClaim := { program := "ytjcflbhaapcjbaa", sum := "9fc458a53413167ad4570d7aa6c72127863d6898267f0fb3b1a97506cdbb482f", func := "loop.example/g00960/laws.FnScenes", spec := "fnScenes", apart := false, narrowed := true }
def FnScenesUptoSaid : Prop := fnScenesUptoRow.holds Try.pinned (OpenSpec.upto fnScenesSpec)

/-- 'laws.FnExactEventText', WHERE WHAT IT READS IS OF BULK AT MOST 1048576: true; the input reads as it did. -/
def fnExactEventTextUptoRow : OpenClaim := { program := "ytjcflbhaapcjbaa", sum := "9fc458a53413167ad4570d7aa6c72127863d6898267f0fb3b1a97506cdbb482f", func := "loop.example/g00960/laws.FnExactEventText", spec := "fnExactEventText", apart := false, narrowed := true }
def FnExactEventTextUptoSaid : Prop := fnExactEventTextUptoRow.holds Try.pinned (OpenSpec.upto fnExactEventTextSpec)

/-- 'laws.FnExactCellOf', WHERE WHAT IT READS IS OF BULK AT MOST 1048576: true; the input reads as it did. -/
def fnExactCellOfUptoRow : OpenClaim := { program := "ytjcflbhaapcjbaa", sum := "9fc458a53413167ad4570d7aa6c72127863d6898267f0fb3b1a97506cdbb482f", func := "loop.example/g00960/laws.FnExactCellOf", spec := "fnExactCellOf", apart := false, narrowed := true }
def FnExactCellOfUptoSaid : Prop := fnExactCellOfUptoRow.holds Try.pinned (OpenSpec.upto fnExactCellOfSpec)

/-- 'laws.FnExactKept', WHERE WHAT IT READS IS OF BULK AT MOST 1048576: true; the input reads as it did. -/
def fnExactKeptUptoRow : OpenClaim := { program := "ytjcflbhaapcjbaa", sum := "9fc458a53413167ad4570d7aa6c72127863d6898267f0fb3b1a97506cdbb482f", func := "loop.example/g00960/laws.FnExactKept", spec := "fnExactKept", apart := false, narrowed := true }
def FnExactKeptUptoSaid : Prop := fnExactKeptUptoRow.holds Try.pinned (OpenSpec.upto fnExactKeptSpec)

/-- 'laws.FnEventsTold', WHERE WHAT IT READS IS OF BULK AT MOST 1048576: true; the input reads as it did. -/
def fnEventsToldUptoRow : OpenClaim := { program := "ytjcflbhaapcjbaa", sum := "9fc458a53413167ad4570d7aa6c72127863d6898267f0fb3b1a97506cdbb482f", func := "loop.example/g00960/laws.FnEventsTold", spec := "fnEventsTold", apart := false, narrowed := true }
def FnEventsToldUptoSaid : Prop := fnEventsToldUptoRow.holds Try.pinned (OpenSpec.upto fnEventsToldSpec)

/-- 'laws.FnExactReadEvent', WHERE WHAT IT READS IS OF BULK AT MOST 1048576: true; the input reads as it did. -/
def fnExactReadEventUptoRow : OpenClaim := { program := "ytjcflbhaapcjbaa", sum := "9fc458a53413167ad4570d7aa6c72127863d6898267f0fb3b1a97506cdbb482f", func := "loop.example/g00960/laws.FnExactReadEvent", spec := "fnExactReadEvent", apart := false, narrowed := true }
def FnExactReadEventUptoSaid : Prop := fnExactReadEventUptoRow.holds Try.pinned (OpenSpec.upto fnExactReadEventSpec)

/-- 'laws.FnExactLayoutSeq', WHERE WHAT IT READS IS OF BULK AT MOST 1048576: true; the input reads as it did. -/
def fnExactLayoutSeqUptoRow : OpenClaim := { program := "ytjcflbhaapcjbaa", sum := "9fc458a53413167ad4570d7aa6c72127863d6898267f0fb3b1a97506cdbb482f", func := "loop.example/g00960/laws.FnExactLayoutSeq", spec := "fnExactLayoutSeq", apart := false, narrowed := true }
def FnExactLayoutSeqUptoSaid : Prop := fnExactLayoutSeqUptoRow.holds Try.pinned (OpenSpec.upto fnExactLayoutSeqSpec)

/-- 'laws.FnLayouts', WHERE WHAT IT READS IS OF BULK AT MOST 1048576: true; the input reads as it did. -/
def fnLayoutsUptoRow : OpenClaim := { program := "ytjcflbhaapcjbaa", sum := "9fc458a53413167ad4570d7aa6c72127863d6898267f0fb3b1a97506cdbb482f", func := "loop.example/g00960/laws.FnLayouts", spec := "fnLayouts", apart := false, narrowed := true }
def FnLayoutsUptoSaid : Prop := fnLayoutsUptoRow.holds Try.pinned (OpenSpec.upto fnLayoutsSpec)

/-- 'laws.FnExactLayoutText', WHERE WHAT IT READS IS OF BULK AT MOST 1048576: true; the input reads as it did. -/
def fnExactLayoutTextUptoRow : OpenClaim := { program := "ytjcflbhaapcjbaa", sum := "9fc458a53413167ad4570d7aa6c72127863d6898267f0fb3b1a97506cdbb482f", func := "loop.example/g00960/laws.FnExactLayoutText", spec := "fnExactLayoutText", apart := false, narrowed := true }
def FnExactLayoutTextUptoSaid : Prop := fnExactLayoutTextUptoRow.holds Try.pinned (OpenSpec.upto fnExactLayoutTextSpec)

/-- 'laws.FnExactReadScript', WHERE WHAT IT READS IS OF BULK AT MOST 1048576: true; the input reads as it did. -/
def fnExactReadScriptUptoRow : OpenClaim := { program := "ytjcflbhaapcjbaa", sum := "9fc458a53413167ad4570d7aa6c72127863d6898267f0fb3b1a97506cdbb482f", func := "loop.example/g00960/laws.FnExactReadScript", spec := "fnExactReadScript", apart := false, narrowed := true }
def FnExactReadScriptUptoSaid : Prop := fnExactReadScriptUptoRow.holds Try.pinned (OpenSpec.upto fnExactReadScriptSpec)

end Rows
end Go.Proofs.Ytjcflbhaapcjbaa
