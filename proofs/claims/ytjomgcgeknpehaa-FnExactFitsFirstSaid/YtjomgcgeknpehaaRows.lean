/-
  No cell of these rows narrows 'for every input' (looked for: loops, veiled, ifaces, maps, wideKeys, modest, calm, conditions, laid).
  DERIVED. THE GIVEN ROWS OF THIS SEAT. 6 by the template 'for every input the law returns true; each argument reads behind the call as it read before'; 0 by the template 'total and deterministic' (their statements: YtjomgcgeknpehaaTotals.lean).
  GIVEN WITH THE SEED: the statements are not yours to turn. If you find one false, say at which input.
  Laid BY PROGRAM, IN A SANDBOX (cutbox-rows.mjs): the forced cells as the released guide's own fill.sh prints them over the translation ef7cd1288e082789… (all of the seat's roots in one cut). By AI agents, Wed Nov 11 2026. No macro, syntax, notation, axiom, sorry.
-/
import Derived.Test.YtjomgcgeknpehaaChecked
import GoSem.Claim
import GoSem.ClaimJoined
import GoSem.ClaimMapViews
import Derived.JoinedTies
import Derived.KernelRfl
namespace Go.Proofs.Ytjomgcgeknpehaa
/- THE CELL 'sum', in the pinned program and in every row, IS THE sha256 OF THE DUMP (.gsa) THAT YtjomgcgeknpehaaProg.lean LOADS. Nothing in Lean hashes anything: it is a label: what it is worth is what the hold of that sum in a sandbox is worth. -/
noncomputable def Try.pinned : Pinned := { name := "ytjomgcgeknpehaa", sum := "ef7cd1288e082789c40789765ed2832fec13e1a2624c31cafb83ddcffea37089", checked := Try.checked }
namespace Rows
def none {H : Type} : Left H := { results := [], args := [] }

/-- 'laws.FnExactPlanOk': WHATEVER THE INPUT: true; the input reads as it did. -/
def fnExactPlanOkSpec : ChangeSpec := { name := "fnExactPlanOk", fn := fun _ => fun
  | [d] => { results := [.lit (.bool true)], args := [d] }
  | _ => none }
def fnExactPlanOkRow : OpenClaim := { program := "ytjomgcgeknpehaa", sum := "ef7cd1288e082789c40789765ed2832fec13e1a2624c31cafb83ddcffea37089", func := "loop.example/g00960/laws.FnExactPlanOk", spec := "fnExactPlanOk", apart := false }
def FnExactPlanOkSaid : Prop := fnExactPlanOkRow.holds Try.pinned (OpenSpec.ofChange fnExactPlanOkSpec)

/-- ITS FALSE NEIGHBOUR: 'it returns false'. Refute it at one input. -/
def fnExactPlanOkWrong : ChangeSpec := { name := "fnExactPlanOk", fn := fun _ => fun
  | [d] => { results := [.lit (.bool false)], args := [d] }
  | _ => none }
def FnExactPlanOkWrongFalsely : Prop := fnExactPlanOkRow.holds Try.pinned (OpenSpec.ofChange fnExactPlanOkWrong)

/-- 'laws.FnExactFitsFirst': WHATEVER THE INPUT: true; the input reads as it did. -/
def fnExactFitsFirstSpec : ChangeSpec := { name := "fnExactFitsFirst", fn := fun _ => fun
  | [d1, d2] => { results := [.lit (.bool true)], args := [d1, d2] }
  | _ => none }
def fnExactFitsFirstRow : OpenClaim := { program := "ytjomgcgeknpehaa", sum := "ef7cd1288e082789c40789765ed2832fec13e1a2624c31cafb83ddcffea37089", func := "loop.example/g00960/laws.FnExactFitsFirst", spec := "fnExactFitsFirst", apart := false }
def FnExactFitsFirstSaid : Prop := fnExactFitsFirstRow.holds Try.pinned (OpenSpec.ofChange fnExactFitsFirstSpec)

/-- ITS FALSE NEIGHBOUR: 'it returns false'. Refute it at one input. -/
def fnExactFitsFirstWrong : ChangeSpec := { name := "fnExactFitsFirst", fn := fun _ => fun
  | [d1, d2] => { results := [.lit (.bool false)], args := [d1, d2] }
  | _ => none }
def FnExactFitsFirstWrongFalsely : Prop := fnExactFitsFirstRow.holds Try.pinned (OpenSpec.ofChange fnExactFitsFirstWrong)

/-- 'laws.FnExactMixerNew': WHATEVER THE INPUT: true; the input reads as it did. -/
def fnExactMixerNewSpec : ChangeSpec := { name := "fnExactMixerNew", fn := fun _ => fun
  | [d1, d2, d3, d4, d5, d6] => { results := [.lit (.bool true)], args := [d1, d2, d3, d4, d5, d6] }
  | _ => none }
def fnExactMixerNewRow : OpenClaim := { program := "ytjomgcgeknpehaa", sum := "ef7cd1288e082789c40789765ed2832fec13e1a2624c31cafb83ddcffea37089", func := "loop.example/g00960/laws.FnExactMixerNew", spec := "fnExactMixerNew", apart := false }
def FnExactMixerNewSaid : Prop := fnExactMixerNewRow.holds Try.pinned (OpenSpec.ofChange fnExactMixerNewSpec)

/-- ITS FALSE NEIGHBOUR: 'it returns false'. Refute it at one input. -/
def fnExactMixerNewWrong : ChangeSpec := { name := "fnExactMixerNew", fn := fun _ => fun
  | [d1, d2, d3, d4, d5, d6] => { results := [.lit (.bool false)], args := [d1, d2, d3, d4, d5, d6] }
  | _ => none }
def FnExactMixerNewWrongFalsely : Prop := fnExactMixerNewRow.holds Try.pinned (OpenSpec.ofChange fnExactMixerNewWrong)

/-- 'laws.FnExactConforms': WHATEVER THE INPUT: true; the input reads as it did. -/
def fnExactConformsSpec : ChangeSpec := { name := "fnExactConforms", fn := fun _ => fun
  | [d] => { results := [.lit (.bool true)], args := [d] }
  | _ => none }
def fnExactConformsRow : OpenClaim := { program := "ytjomgcgeknpehaa", sum := "ef7cd1288e082789c40789765ed2832fec13e1a2624c31cafb83ddcffea37089", func := "loop.example/g00960/laws.FnExactConforms", spec := "fnExactConforms", apart := false }
def FnExactConformsSaid : Prop := fnExactConformsRow.holds Try.pinned (OpenSpec.ofChange fnExactConformsSpec)

/-- ITS FALSE NEIGHBOUR: 'it returns false'. Refute it at one input. -/
def fnExactConformsWrong : ChangeSpec := { name := "fnExactConforms", fn := fun _ => fun
  | [d] => { results := [.lit (.bool false)], args := [d] }
  | _ => none }
def FnExactConformsWrongFalsely : Prop := fnExactConformsRow.holds Try.pinned (OpenSpec.ofChange fnExactConformsWrong)

/-- 'laws.FnExactEpochsOf': WHATEVER THE INPUT: true; the input reads as it did. -/
def fnExactEpochsOfSpec : ChangeSpec := { name := "fnExactEpochsOf", fn := fun _ => fun
  | [d] => { results := [.lit (.bool true)], args := [d] }
  | _ => none }
def fnExactEpochsOfRow : OpenClaim := { program := "ytjomgcgeknpehaa", sum := "ef7cd1288e082789c40789765ed2832fec13e1a2624c31cafb83ddcffea37089", func := "loop.example/g00960/laws.FnExactEpochsOf", spec := "fnExactEpochsOf", apart := false }
def FnExactEpochsOfSaid : Prop := fnExactEpochsOfRow.holds Try.pinned (OpenSpec.ofChange fnExactEpochsOfSpec)

/-- ITS FALSE NEIGHBOUR: 'it returns false'. Refute it at one input. -/
def fnExactEpochsOfWrong : ChangeSpec := { name := "fnExactEpochsOf", fn := fun _ => fun
  | [d] => { results := [.lit (.bool false)], args := [d] }
  | _ => none }
def FnExactEpochsOfWrongFalsely : Prop := fnExactEpochsOfRow.holds Try.pinned (OpenSpec.ofChange fnExactEpochsOfWrong)

/-- 'laws.FnExactMixerLay': WHATEVER THE INPUT: true; the input reads as it did. -/
def fnExactMixerLaySpec : ChangeSpec := { name := "fnExactMixerLay", fn := fun _ => fun
  | [d1, d2] => { results := [.lit (.bool true)], args := [d1, d2] }
  | _ => none }
def fnExactMixerLayRow : OpenClaim := { program := "ytjomgcgeknpehaa", sum := "ef7cd1288e082789c40789765ed2832fec13e1a2624c31cafb83ddcffea37089", func := "loop.example/g00960/laws.FnExactMixerLay", spec := "fnExactMixerLay", apart := false }
def FnExactMixerLaySaid : Prop := fnExactMixerLayRow.holds Try.pinned (OpenSpec.ofChange fnExactMixerLaySpec)

/-- ITS FALSE NEIGHBOUR: 'it returns false'. Refute it at one input. -/
def fnExactMixerLayWrong : ChangeSpec := { name := "fnExactMixerLay", fn := fun _ => fun
  | [d1, d2] => { results := [.lit (.bool false)], args := [d1, d2] }
  | _ => none }
def FnExactMixerLayWrongFalsely : Prop := fnExactMixerLayRow.holds Try.pinned (OpenSpec.ofChange fnExactMixerLayWrong)

/- THE SECOND FORM. 'bulk': how many values and letters a reading holds, each counted each time it is reached (what is shared counts as often as it is met; a slice's spare places count too). A statement '..UptoSaid' is the law's where the arguments, and the package variables that the reading takes, are together of bulk at most 1048576: NARROWER than '..Said'. Prove '..Said' where nothing that the law and all that it calls make is longer than what came in: it says more and counts as full. Else prove '..UptoSaid'. A law counts once. -/
mutual
def uptoBulk {H : Type} : DataW H → Nat
  | .lit (.string bytes) => bytes.length + 1
  | .lit _ => 1
  | .nil => 1
  | .ptr d => uptoBulk d + 1
  | .slice elems spare => uptoBulkAll elems + uptoBulkAll spare + 1
  | .agg parts => uptoBulkAll parts + 1
  | .iface _ d => uptoBulk d + 1
  | .map entries => uptoBulkEntries entries + 1
  | .held _ => 1
def uptoBulkAll {H : Type} : List (DataW H) → Nat
  | [] => 0
  | d :: r => uptoBulk d + uptoBulkAll r
def uptoBulkEntries {H : Type} : List (Lit × DataW H) → Nat
  | [] => 0
  | x :: r => uptoBulkEntry x + uptoBulkEntries r
def uptoBulkEntry {H : Type} : Lit × DataW H → Nat
  | (.string bytes, d) => bytes.length + uptoBulk d + 1
  | (_, d) => uptoBulk d + 1
 end
def uptoSmall : (H : Type) → List (DataW H) → Bool := fun _ ds => decide (uptoBulkAll ds ≤ 1048576)
def OpenSpec.upto (s : _root_.Go.ChangeSpec) : _root_.Go.OpenSpec := { _root_.Go.OpenSpec.ofChange s with cond := some uptoSmall }

/-- 'laws.FnExactPlanOk', WHERE WHAT IT READS IS OF BULK AT MOST 1048576: true; the input reads as it did. -/
def fnExactPlanOkUptoRow : OpenClaim := { program := "ytjomgcgeknpehaa", sum := "ef7cd1288e082789c40789765ed2832fec13e1a2624c31cafb83ddcffea37089", func := "loop.example/g00960/laws.FnExactPlanOk", spec := "fnExactPlanOk", apart := false, narrowed := true }
def FnExactPlanOkUptoSaid : Prop := fnExactPlanOkUptoRow.holds Try.pinned (OpenSpec.upto fnExactPlanOkSpec)

/-- 'laws.FnExactFitsFirst', WHERE WHAT IT READS IS OF BULK AT MOST 1048576: true; the input reads as it did. -/
def fnExactFitsFirstUptoRow : OpenClaim := { program := "ytjomgcgeknpehaa", sum := "ef7cd1288e082789c40789765ed2832fec13e1a2624c31cafb83ddcffea37089", func := "loop.example/g00960/laws.FnExactFitsFirst", spec := "fnExactFitsFirst", apart := false, narrowed := true }
def FnExactFitsFirstUptoSaid : Prop := fnExactFitsFirstUptoRow.holds Try.pinned (OpenSpec.upto fnExactFitsFirstSpec)

/-- 'laws.FnExactMixerNew', WHERE WHAT IT READS IS OF BULK AT MOST 1048576: true; the input reads as it did. -/
def fnExactMixerNewUptoRow : OpenClaim := { program := "ytjomgcgeknpehaa", sum := "ef7cd1288e082789c40789765ed2832fec13e1a2624c31cafb83ddcffea37089", func := "loop.example/g00960/laws.FnExactMixerNew", spec := "fnExactMixerNew", apart := false, narrowed := true }
def FnExactMixerNewUptoSaid : Prop := fnExactMixerNewUptoRow.holds Try.pinned (OpenSpec.upto fnExactMixerNewSpec)

/-- 'laws.FnExactConforms', WHERE WHAT IT READS IS OF BULK AT MOST 1048576: true; the input reads as it did. -/
def fnExactConformsUptoRow : OpenClaim := { program := "ytjomgcgeknpehaa", sum := "ef7cd1288e082789c40789765ed2832fec13e1a2624c31cafb83ddcffea37089", func := "loop.example/g00960/laws.FnExactConforms", spec := "fnExactConforms", apart := false, narrowed := true }
def FnExactConformsUptoSaid : Prop := fnExactConformsUptoRow.holds Try.pinned (OpenSpec.upto fnExactConformsSpec)

/-- 'laws.FnExactEpochsOf', WHERE WHAT IT READS IS OF BULK AT MOST 1048576: true; the input reads as it did. -/
def fnExactEpochsOfUptoRow : OpenClaim := { program := "ytjomgcgeknpehaa", sum := "ef7cd1288e082789c40789765ed2832fec13e1a2624c31cafb83ddcffea37089", func := "loop.example/g00960/laws.FnExactEpochsOf", spec := "fnExactEpochsOf", apart := false, narrowed := true }
def FnExactEpochsOfUptoSaid : Prop := fnExactEpochsOfUptoRow.holds Try.pinned (OpenSpec.upto fnExactEpochsOfSpec)

/-- 'laws.FnExactMixerLay', WHERE WHAT IT READS IS OF BULK AT MOST 1048576: true; the input reads as it did. -/
def fnExactMixerLayUptoRow : OpenClaim := { program := "ytjomgcgeknpehaa", sum := "ef7cd1288e082789c40789765ed2832fec13e1a2624c31cafb83ddcffea37089", func := "loop.example/g00960/laws.FnExactMixerLay", spec := "fnExactMixerLay", apart := false, narrowed := true }
def FnExactMixerLayUptoSaid : Prop := fnExactMixerLayUptoRow.holds Try.pinned (OpenSpec.upto fnExactMixerLaySpec)

end Rows
end Go.Proofs.Ytjomgcgeknpehaa
