/-
  No cell of these rows narrows 'for every input' (looked for: loops, veiled, ifaces, maps, wideKeys, modest, calm, conditions, laid).
  DERIVED. THE GIVEN ROWS OF THIS SEAT. 10 by the template 'for every input the law returns true; each argument reads behind the call as it read before'; 0 by the template 'total and deterministic' (their statements: YtfcjjkfjdecakaaTotals.lean).
  GIVEN WITH THE SEED: the statements are not yours to turn. If you find one false, say at which input.
  Laid BY PROGRAM, IN A SANDBOX (cutbox-rows.mjs): the forced cells as the released guide's own fill.sh prints them over the translation ed70bfdfde75a57b… (all of the seat's roots in one cut). By AI agents, Wed Nov 11 2026. No macro, syntax, notation, axiom, sorry.
-/
import Derived.Test.YtfcjjkfjdecakaaChecked
import GoSem.Claim
import GoSem.ClaimJoined
import GoSem.ClaimMapViews
import Derived.JoinedTies
import Derived.KernelRfl
namespace Go.Proofs.Ytfcjjkfjdecakaa
/- THE CELL 'sum', in the pinned program and in every row, IS THE sha256 OF THE DUMP (.gsa) THAT YtfcjjkfjdecakaaProg.lean LOADS. Nothing in Lean hashes anything: it is a label: what it is worth is what the hold of that sum in a sandbox is worth. -/
noncomputable def Try.pinned : Pinned := { name := "ytfcjjkfjdecakaa", sum := "ed70bfdfde75a57bd4b63b4bd531dfcdd46cfe2f8b4b4c8a74775e082b4fb5f8", checked := Try.checked }
namespace Rows
def none {H : Type} : Left H := { results := [], args := [] }

/-- 'laws.FnExactSliceOf': WHATEVER THE INPUT: true; the input reads as it did. -/
def fnExactSliceOfSpec : ChangeSpec := { name := "fnExactSliceOf", fn := fun _ => fun
  | [d1, d2, d3, d4, d5] => { results := [.lit (.bool true)], args := [d1, d2, d3, d4, d5] }
  | _ => none }
def fnExactSliceOfRow : OpenClaim := { program := "ytfcjjkfjdecakaa", sum := "ed70bfdfde75a57bd4b63b4bd531dfcdd46cfe2f8b4b4c8a74775e082b4fb5f8", func := "loop.example/g00960/laws.FnExactSliceOf", spec := "fnExactSliceOf", apart := false }
def FnExactSliceOfSaid : Prop := fnExactSliceOfRow.holds Try.pinned (OpenSpec.ofChange fnExactSliceOfSpec)

/-- ITS FALSE NEIGHBOUR: 'it returns false'. Refute it at one input. -/
def fnExactSliceOfWrong : ChangeSpec := { name := "fnExactSliceOf", fn := fun _ => fun
  | [d1, d2, d3, d4, d5] => { results := [.lit (.bool false)], args := [d1, d2, d3, d4, d5] }
  | _ => none }
def FnExactSliceOfWrongFalsely : Prop := fnExactSliceOfRow.holds Try.pinned (OpenSpec.ofChange fnExactSliceOfWrong)

/-- 'laws.FnExactPartIn': WHATEVER THE INPUT: true; the input reads as it did. -/
def fnExactPartInSpec : ChangeSpec := { name := "fnExactPartIn", fn := fun _ => fun
  | [d1, d2, d3] => { results := [.lit (.bool true)], args := [d1, d2, d3] }
  | _ => none }
def fnExactPartInRow : OpenClaim := { program := "ytfcjjkfjdecakaa", sum := "ed70bfdfde75a57bd4b63b4bd531dfcdd46cfe2f8b4b4c8a74775e082b4fb5f8", func := "loop.example/g00960/laws.FnExactPartIn", spec := "fnExactPartIn", apart := false }
def FnExactPartInSaid : Prop := fnExactPartInRow.holds Try.pinned (OpenSpec.ofChange fnExactPartInSpec)

/-- ITS FALSE NEIGHBOUR: 'it returns false'. Refute it at one input. -/
def fnExactPartInWrong : ChangeSpec := { name := "fnExactPartIn", fn := fun _ => fun
  | [d1, d2, d3] => { results := [.lit (.bool false)], args := [d1, d2, d3] }
  | _ => none }
def FnExactPartInWrongFalsely : Prop := fnExactPartInRow.holds Try.pinned (OpenSpec.ofChange fnExactPartInWrong)

/-- 'laws.FnEventsTold': WHATEVER THE INPUT: true; the input reads as it did. -/
def fnEventsToldSpec : ChangeSpec := { name := "fnEventsTold", fn := fun _ => fun
  | [d] => { results := [.lit (.bool true)], args := [d] }
  | _ => none }
def fnEventsToldRow : OpenClaim := { program := "ytfcjjkfjdecakaa", sum := "ed70bfdfde75a57bd4b63b4bd531dfcdd46cfe2f8b4b4c8a74775e082b4fb5f8", func := "loop.example/g00960/laws.FnEventsTold", spec := "fnEventsTold", apart := false }
def FnEventsToldSaid : Prop := fnEventsToldRow.holds Try.pinned (OpenSpec.ofChange fnEventsToldSpec)

/-- ITS FALSE NEIGHBOUR: 'it returns false'. Refute it at one input. -/
def fnEventsToldWrong : ChangeSpec := { name := "fnEventsTold", fn := fun _ => fun
  | [d] => { results := [.lit (.bool false)], args := [d] }
  | _ => none }
def FnEventsToldWrongFalsely : Prop := fnEventsToldRow.holds Try.pinned (OpenSpec.ofChange fnEventsToldWrong)

/-- 'laws.FnLayouts': WHATEVER THE INPUT: true; the input reads as it did. -/
def fnLayoutsSpec : ChangeSpec := { name := "fnLayouts", fn := fun _ => fun
  | [d] => { results := [.lit (.bool true)], args := [d] }
  | _ => none }
def fnLayoutsRow : OpenClaim := { program := "ytfcjjkfjdecakaa", sum := "ed70bfdfde75a57bd4b63b4bd531dfcdd46cfe2f8b4b4c8a74775e082b4fb5f8", func := "loop.example/g00960/laws.FnLayouts", spec := "fnLayouts", apart := false }
def FnLayoutsSaid : Prop := fnLayoutsRow.holds Try.pinned (OpenSpec.ofChange fnLayoutsSpec)

/-- ITS FALSE NEIGHBOUR: 'it returns false'. Refute it at one input. -/
def fnLayoutsWrong : ChangeSpec := { name := "fnLayouts", fn := fun _ => fun
  | [d] => { results := [.lit (.bool false)], args := [d] }
  | _ => none }
def FnLayoutsWrongFalsely : Prop := fnLayoutsRow.holds Try.pinned (OpenSpec.ofChange fnLayoutsWrong)

/-- 'laws.FnExactCalmRound': WHATEVER THE INPUT: true; the input reads as it did. -/
def fnExactCalmRoundSpec : ChangeSpec := { name := "fnExactCalmRound", fn := fun _ => fun
  | [d1, d2] => { results := [.lit (.bool true)], args := [d1, d2] }
  | _ => none }
def fnExactCalmRoundRow : OpenClaim := { program := "ytfcjjkfjdecakaa", sum := "ed70bfdfde75a57bd4b63b4bd531dfcdd46cfe2f8b4b4c8a74775e082b4fb5f8", func := "loop.example/g00960/laws.FnExactCalmRound", spec := "fnExactCalmRound", apart := false }
def FnExactCalmRoundSaid : Prop := fnExactCalmRoundRow.holds Try.pinned (OpenSpec.ofChange fnExactCalmRoundSpec)

/-- ITS FALSE NEIGHBOUR: 'it returns false'. Refute it at one input. -/
def fnExactCalmRoundWrong : ChangeSpec := { name := "fnExactCalmRound", fn := fun _ => fun
  | [d1, d2] => { results := [.lit (.bool false)], args := [d1, d2] }
  | _ => none }
def FnExactCalmRoundWrongFalsely : Prop := fnExactCalmRoundRow.holds Try.pinned (OpenSpec.ofChange fnExactCalmRoundWrong)

/-- 'laws.FnExactCalmEvents': WHATEVER THE INPUT: true; the input reads as it did. -/
def fnExactCalmEventsSpec : ChangeSpec := { name := "fnExactCalmEvents", fn := fun _ => fun
  | [d1, d2] => { results := [.lit (.bool true)], args := [d1, d2] }
  | _ => none }
def fnExactCalmEventsRow : OpenClaim := { program := "ytfcjjkfjdecakaa", sum := "ed70bfdfde75a57bd4b63b4bd531dfcdd46cfe2f8b4b4c8a74775e082b4fb5f8", func := "loop.example/g00960/laws.FnExactCalmEvents", spec := "fnExactCalmEvents", apart := false }
def FnExactCalmEventsSaid : Prop := fnExactCalmEventsRow.holds Try.pinned (OpenSpec.ofChange fnExactCalmEventsSpec)

/-- ITS FALSE NEIGHBOUR: 'it returns false'. Refute it at one input. -/
def fnExactCalmEventsWrong : ChangeSpec := { name := "fnExactCalmEvents", fn := fun _ => fun
  | [d1, d2] => { results := [.lit (.bool false)], args := [d1, d2] }
  | _ => none }
def FnExactCalmEventsWrongFalsely : Prop := fnExactCalmEventsRow.holds Try.pinned (OpenSpec.ofChange fnExactCalmEventsWrong)

/-- 'laws.FnExactLossEvents': WHATEVER THE INPUT: true; the input reads as it did. -/
def fnExactLossEventsSpec : ChangeSpec := { name := "fnExactLossEvents", fn := fun _ => fun
  | [d1, d2, d3, d4] => { results := [.lit (.bool true)], args := [d1, d2, d3, d4] }
  | _ => none }
def fnExactLossEventsRow : OpenClaim := { program := "ytfcjjkfjdecakaa", sum := "ed70bfdfde75a57bd4b63b4bd531dfcdd46cfe2f8b4b4c8a74775e082b4fb5f8", func := "loop.example/g00960/laws.FnExactLossEvents", spec := "fnExactLossEvents", apart := false }
def FnExactLossEventsSaid : Prop := fnExactLossEventsRow.holds Try.pinned (OpenSpec.ofChange fnExactLossEventsSpec)

/-- ITS FALSE NEIGHBOUR: 'it returns false'. Refute it at one input. -/
def fnExactLossEventsWrong : ChangeSpec := { name := "fnExactLossEvents", fn := fun _ => fun
  | [d1, d2, d3, d4] => { results := [.lit (.bool false)], args := [d1, d2, d3, d4] }
  | _ => none }
def FnExactLossEventsWrongFalsely : Prop := fnExactLossEventsRow.holds Try.pinned (OpenSpec.ofChange fnExactLossEventsWrong)

/-- 'laws.FnExactPictureParts': WHATEVER THE INPUT: true; the input reads as it did. -/
def fnExactPicturePartsSpec : ChangeSpec := { name := "fnExactPictureParts", fn := fun _ => fun
  | [d1, d2, d3] => { results := [.lit (.bool true)], args := [d1, d2, d3] }
  | _ => none }
def fnExactPicturePartsRow : OpenClaim := { program := "ytfcjjkfjdecakaa", sum := "ed70bfdfde75a57bd4b63b4bd531dfcdd46cfe2f8b4b4c8a74775e082b4fb5f8", func := "loop.example/g00960/laws.FnExactPictureParts", spec := "fnExactPictureParts", apart := false }
def FnExactPicturePartsSaid : Prop := fnExactPicturePartsRow.holds Try.pinned (OpenSpec.ofChange fnExactPicturePartsSpec)

/-- ITS FALSE NEIGHBOUR: 'it returns false'. Refute it at one input. -/
def fnExactPicturePartsWrong : ChangeSpec := { name := "fnExactPictureParts", fn := fun _ => fun
  | [d1, d2, d3] => { results := [.lit (.bool false)], args := [d1, d2, d3] }
  | _ => none }
def FnExactPicturePartsWrongFalsely : Prop := fnExactPicturePartsRow.holds Try.pinned (OpenSpec.ofChange fnExactPicturePartsWrong)

/-- 'laws.FnExactPictureUnits': WHATEVER THE INPUT: true; the input reads as it did. -/
def fnExactPictureUnitsSpec : ChangeSpec := { name := "fnExactPictureUnits", fn := fun _ => fun
  | [d1, d2, d3, d4, d5] => { results := [.lit (.bool true)], args := [d1, d2, d3, d4, d5] }
  | _ => none }
def fnExactPictureUnitsRow : OpenClaim := { program := "ytfcjjkfjdecakaa", sum := "ed70bfdfde75a57bd4b63b4bd531dfcdd46cfe2f8b4b4c8a74775e082b4fb5f8", func := "loop.example/g00960/laws.FnExactPictureUnits", spec := "fnExactPictureUnits", apart := false }
def FnExactPictureUnitsSaid : Prop := fnExactPictureUnitsRow.holds Try.pinned (OpenSpec.ofChange fnExactPictureUnitsSpec)

/-- ITS FALSE NEIGHBOUR: 'it returns false'. Refute it at one input. -/
def fnExactPictureUnitsWrong : ChangeSpec := { name := "fnExactPictureUnits", fn := fun _ => fun
  | [d1, d2, d3, d4, d5] => { results := [.lit (.bool false)], args := [d1, d2, d3, d4, d5] }
  | _ => none }
def FnExactPictureUnitsWrongFalsely : Prop := fnExactPictureUnitsRow.holds Try.pinned (OpenSpec.ofChange fnExactPictureUnitsWrong)

/-- 'laws.FnExactConforms': WHATEVER THE INPUT: true; the input reads as it did. -/
def fnExactConformsSpec : ChangeSpec := { name := "fnExactConforms", fn := fun _ => fun
  | [d] => { results := [.lit (.bool true)], args := [d] }
  | _ => none }
def fnExactConformsRow : OpenClaim := { program := "ytfcjjkfjdecakaa", sum := "ed70bfdfde75a57bd4b63b4bd531dfcdd46cfe2f8b4b4c8a74775e082b4fb5f8", func := "loop.example/g00960/laws.FnExactConforms", spec := "fnExactConforms", apart := false }
def FnExactConformsSaid : Prop := fnExactConformsRow.holds Try.pinned (OpenSpec.ofChange fnExactConformsSpec)

/-- ITS FALSE NEIGHBOUR: 'it returns false'. Refute it at one input. -/
def fnExactConformsWrong : ChangeSpec := { name := "fnExactConforms", fn := fun _ => fun
  | [d] => { results := [.lit (.bool false)], args := [d] }
  | _ => none }
def FnExactConformsWrongFalsely : Prop := fnExactConformsRow.holds Try.pinned (OpenSpec.ofChange fnExactConformsWrong)

/- THE SECOND FORM. 'bulk': how many values and letters a reading holds, each counted each time it is reached (what is shared counts as often as it is met; a slice's spare places count too). A statement '..UptoSaid' is the law's where the arguments, and the package variables that the reading takes, are together of bulk at most 1048576: NARROWER than '..Said'. Prove '..Said' where nothing that the law and all that it calls make is longer than what came in: it says more and counts as full. Else prove '..UptoSaid'. A law counts once. -/
mutual
def uptoBulk {H : Type} : DataW H → Nat
  | .lit (.string bytes) => bytes.length + 1
  | .lit _ => 1
  | .nil => 1
  | .ptr d => uptoBulk d + 1
  | .slice elems spare => uptoBulkAll elems + uptoBulkAll spare + 1
  | .agg parts => uptoBulkAll parts + 1
  | .iface _ d => uptoBulk d + 1
  | .map entries => uptoBulkEntries entries + 1
  | .held _ => 1
def uptoBulkAll {H : Type} : List (DataW H) → Nat
  | [] => 0
  | d :: r => uptoBulk d + uptoBulkAll r
def uptoBulkEntries {H : Type} : List (Lit × DataW H) → Nat
  | [] => 0
  | x :: r => uptoBulkEntry x + uptoBulkEntries r
def uptoBulkEntry {H : Type} : Lit × DataW H → Nat
  | (.string bytes, d) => bytes.length + uptoBulk d + 1
  | (_, d) => uptoBulk d + 1
 end
def uptoSmall : (H : Type) → List (DataW H) → Bool := fun _ ds => decide (uptoBulkAll ds ≤ 1048576)
def OpenSpec.upto (s : _root_.Go.ChangeSpec) : _root_.Go.OpenSpec := { _root_.Go.OpenSpec.ofChange s with cond := some uptoSmall }

/-- 'laws.FnExactSliceOf', WHERE WHAT IT READS IS OF BULK AT MOST 1048576: true; the input reads as it did. -/
def fnExactSliceOfUptoRow : OpenClaim := { program := "ytfcjjkfjdecakaa", sum := "ed70bfdfde75a57bd4b63b4bd531dfcdd46cfe2f8b4b4c8a74775e082b4fb5f8", func := "loop.example/g00960/laws.FnExactSliceOf", spec := "fnExactSliceOf", apart := false, narrowed := true }
def FnExactSliceOfUptoSaid : Prop := fnExactSliceOfUptoRow.holds Try.pinned (OpenSpec.upto fnExactSliceOfSpec)

/-- 'laws.FnExactPartIn', WHERE WHAT IT READS IS OF BULK AT MOST 1048576: true; the input reads as it did. -/
def fnExactPartInUptoRow : OpenClaim := { program := "ytfcjjkfjdecakaa", sum := "ed70bfdfde75a57bd4b63b4bd531dfcdd46cfe2f8b4b4c8a74775e082b4fb5f8", func := "loop.example/g00960/laws.FnExactPartIn", spec := "fnExactPartIn", apart := false, narrowed := true }
def FnExactPartInUptoSaid : Prop := fnExactPartInUptoRow.holds Try.pinned (OpenSpec.upto fnExactPartInSpec)

/-- 'laws.FnEventsTold', WHERE WHAT IT READS IS OF BULK AT MOST 1048576: true; the input reads as it did. -/
def fnEventsToldUptoRow : OpenClaim := { program := "ytfcjjkfjdecakaa", sum := "ed70bfdfde75a57bd4b63b4bd531dfcdd46cfe2f8b4b4c8a74775e082b4fb5f8", func := "loop.example/g00960/laws.FnEventsTold", spec := "fnEventsTold", apart := false, narrowed := true }
def FnEventsToldUptoSaid : Prop := fnEventsToldUptoRow.holds Try.pinned (OpenSpec.upto fnEventsToldSpec)

/-- 'laws.FnLayouts', WHERE WHAT IT READS IS OF BULK AT MOST 1048576: true; the input reads as it did. -/
def fnLayoutsUptoRow : OpenClaim := { program := "ytfcjjkfjdecakaa", sum := "ed70bfdfde75a57bd4b63b4bd531dfcdd46cfe2f8b4b4c8a74775e082b4fb5f8", func := "loop.example/g00960/laws.FnLayouts", spec := "fnLayouts", apart := false, narrowed := true }
def FnLayoutsUptoSaid : Prop := fnLayoutsUptoRow.holds Try.pinned (OpenSpec.upto fnLayoutsSpec)

/-- 'laws.FnExactCalmRound', WHERE WHAT IT READS IS OF BULK AT MOST 1048576: true; the input reads as it did. -/
def fnExactCalmRoundUptoRow : OpenClaim := { program := "ytfcjjkfjdecakaa", sum := "ed70bfdfde75a57bd4b63b4bd531dfcdd46cfe2f8b4b4c8a74775e082b4fb5f8", func := "loop.example/g00960/laws.FnExactCalmRound", spec := "fnExactCalmRound", apart := false, narrowed := true }
def FnExactCalmRoundUptoSaid : Prop := fnExactCalmRoundUptoRow.holds Try.pinned (OpenSpec.upto fnExactCalmRoundSpec)

/-- 'laws.FnExactCalmEvents', WHERE WHAT IT READS IS OF BULK AT MOST 1048576: true; the input reads as it did. -/
def fnExactCalmEventsUptoRow : OpenClaim := { program := "ytfcjjkfjdecakaa", sum := "ed70bfdfde75a57bd4b63b4bd531dfcdd46cfe2f8b4b4c8a74775e082b4fb5f8", func := "loop.example/g00960/laws.FnExactCalmEvents", spec := "fnExactCalmEvents", apart := false, narrowed := true }
def FnExactCalmEventsUptoSaid : Prop := fnExactCalmEventsUptoRow.holds Try.pinned (OpenSpec.upto fnExactCalmEventsSpec)

/-- 'laws.FnExactLossEvents', WHERE WHAT IT READS IS OF BULK AT MOST 1048576: true; the input reads as it did. -/
def fnExactLossEventsUptoRow : OpenClaim := { program := "ytfcjjkfjdecakaa", sum := "ed70bfdfde75a57bd4b63b4bd531dfcdd46cfe2f8b4b4c8a74775e082b4fb5f8", func := "loop.example/g00960/laws.FnExactLossEvents", spec := "fnExactLossEvents", apart := false, narrowed := true }
def FnExactLossEventsUptoSaid : Prop := fnExactLossEventsUptoRow.holds Try.pinned (OpenSpec.upto fnExactLossEventsSpec)

/-- 'laws.FnExactPictureParts', WHERE WHAT IT READS IS OF BULK AT MOST 1048576: true; the input reads as it did. -/
def fnExactPicturePartsUptoRow : OpenClaim := { program := "ytfcjjkfjdecakaa", sum := "ed70bfdfde75a57bd4b63b4bd531dfcdd46cfe2f8b4b4c8a74775e082b4fb5f8", func := "loop.example/g00960/laws.FnExactPictureParts", spec := "fnExactPictureParts", apart := false, narrowed := true }
def FnExactPicturePartsUptoSaid : Prop := fnExactPicturePartsUptoRow.holds Try.pinned (OpenSpec.upto fnExactPicturePartsSpec)

/-- 'laws.FnExactPictureUnits', WHERE WHAT IT READS IS OF BULK AT MOST 1048576: true; the input reads as it did. -/
def fnExactPictureUnitsUptoRow : OpenClaim := { program := "ytfcjjkfjdecakaa", sum := "ed70bfdfde75a57bd4b63b4bd531dfcdd46cfe2f8b4b4c8a74775e082b4fb5f8", func := "loop.example/g00960/laws.FnExactPictureUnits", spec := "fnExactPictureUnits", apart := false, narrowed := true }
def FnExactPictureUnitsUptoSaid : Prop := fnExactPictureUnitsUptoRow.holds Try.pinned (OpenSpec.upto fnExactPictureUnitsSpec)

/-- 'laws.FnExactConforms', WHERE WHAT IT READS IS OF BULK AT MOST 1048576: true; the input reads as it did. -/
def fnExactConformsUptoRow : OpenClaim := { program := "ytfcjjkfjdecakaa", sum := "ed70bfdfde75a57bd4b63b4bd531dfcdd46cfe2f8b4b4c8a74775e082b4fb5f8", func := "loop.example/g00960/laws.FnExactConforms", spec := "fnExactConforms", apart := false, narrowed := true }
def FnExactConformsUptoSaid : Prop := fnExactConformsUptoRow.holds Try.pinned (OpenSpec.upto fnExactConformsSpec)

end Rows
end Go.Proofs.Ytfcjjkfjdecakaa
