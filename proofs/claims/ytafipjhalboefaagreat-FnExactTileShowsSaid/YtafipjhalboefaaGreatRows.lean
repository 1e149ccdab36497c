/-
  No cell of these rows narrows 'for every input' (looked for: loops, veiled, ifaces, maps, wideKeys, modest, calm, conditions, laid).
  DERIVED. THE GIVEN ROWS OF THIS SEAT. 6 by the template 'for every input the law returns true; each argument reads behind the call as it read before'; 0 by the template 'total and deterministic' (their statements: YtafipjhalboefaaGreatTotals.lean).
  GIVEN WITH THE SEED: the statements are not yours to turn. If you find one false, say at which input.
  Laid BY PROGRAM, IN A SANDBOX (cutbox-rows.mjs): the forced cells as the released guide's own fill.sh prints them over the translation ecd360f852e510e7… (all of the seat's roots in one cut). By AI agents, Wed Nov 11 2026. No macro, syntax, notation, axiom, sorry.
-/
import Derived.Test.YtafipjhalboefaaGreatChecked
import GoSem.Claim
import GoSem.ClaimJoined
import GoSem.ClaimMapViews
import Derived.JoinedTies
import Derived.KernelRfl
namespace Go.Proofs.YtafipjhalboefaaGreat
/- THE CELL 'sum', in the pinned program and in every row, IS THE sha256 OF THE DUMP (.gsa) THAT YtafipjhalboefaaGreatProg.lean LOADS. Nothing in Lean hashes anything: it is a label: what it is worth is what the hold of that sum in a sandbox is worth. -/
noncomputable def Tryz.pinned : Pinned := { name := "ytafipjhalboefaagreat", sum := "ecd360f852e510e78478143a3d03ac4297274ffb50616780d6bf79a750358c68", checked := Tryz.checked }
namespace Rows
def none {H : Type} : Left H := { results := [], args := [] }

/-- 'laws.FnExactTileShows': WHATEVER THE INPUT: true; the input reads as it did. -/
def fnExactTileShowsSpec : ChangeSpec := { name := "fnExactTileShows", fn := fun _ => fun
  | [d1, d2, d3] => { results := [.lit (.bool true)], args := [d1, d2, d3] }
  | _ => none }
def fnExactTileShowsRow : OpenClaim := { program := "ytafipjhalboefaagreat", sum := "ecd360f852e510e78478143a3d03ac4297274ffb50616780d6bf79a750358c68", func := "loop.example/g00960/laws.FnExactTileShows", spec := "fnExactTileShows", apart := false }
def FnExactTileShowsSaid : Prop := fnExactTileShowsRow.holds Tryz.pinned (OpenSpec.ofChange fnExactTileShowsSpec)

/-- ITS FALSE NEIGHBOUR: 'it returns false'. Refute it at one input. -/
def fnExactTileShowsWrong : ChangeSpec := { name := "fnExactTileShows", fn := fun _ => fun
  | [d1, d2, d3] => { results := [.lit (.bool false)], args := [d1, d2, d3] }
  | _ => none }
def FnExactTileShowsWrongFalsely : Prop := fnExactTileShowsRow.holds Tryz.pinned (OpenSpec.ofChange fnExactTileShowsWrong)

/-- 'laws.FnExactTileTrue': WHATEVER THE INPUT: true; the input reads as it did. -/
def fnExactTileTrueSpec : ChangeSpec := { name := "fnExactTileTrue", fn := fun _ => fun
  | [d1, d2, d3] => { results := [.lit (.bool true)], args := [d1, d2, d3] }
  | _ => none }
def fnExactTileTrueRow : OpenClaim := { program := "ytafipjhalboefaagreat", sum := "ecd360f852e510e78478143a3d03ac4297274ffb50616780d6bf79a750358c68", func := "loop.example/g00960/laws.FnExactTileTrue", spec := "fnExactTileTrue", apart := false }
def FnExactTileTrueSaid : Prop := fnExactTileTrueRow.holds Tryz.pinned (OpenSpec.ofChange fnExactTileTrueSpec)

/-- ITS FALSE NEIGHBOUR: 'it returns false'. Refute it at one input. -/
def fnExactTileTrueWrong : ChangeSpec := { name := "fnExactTileTrue", fn := fun _ => fun
  | [d1, d2, d3] => { results := [.lit (.bool false)], args := [d1, d2, d3] }
  | _ => none }
def FnExactTileTrueWrongFalsely : Prop := fnExactTileTrueRow.holds Tryz.pinned (OpenSpec.ofChange fnExactTileTrueWrong)

/-- 'laws.FnExactLookTrue': WHATEVER THE INPUT: true; the input reads as it did. -/
def fnExactLookTrueSpec : ChangeSpec := { name := "fnExactLookTrue", fn := fun _ => fun
  | [d1, d2] => { results := [.lit (.bool true)], args := [d1, d2] }
  | _ => none }
def fnExactLookTrueRow : OpenClaim := { program := "ytafipjhalboefaagreat", sum := "ecd360f852e510e78478143a3d03ac4297274ffb50616780d6bf79a750358c68", func := "loop.example/g00960/laws.FnExactLookTrue", spec := "fnExactLookTrue", apart := false }
def FnExactLookTrueSaid : Prop := fnExactLookTrueRow.holds Tryz.pinned (OpenSpec.ofChange fnExactLookTrueSpec)

/-- ITS FALSE NEIGHBOUR: 'it returns false'. Refute it at one input. -/
def fnExactLookTrueWrong : ChangeSpec := { name := "fnExactLookTrue", fn := fun _ => fun
  | [d1, d2] => { results := [.lit (.bool false)], args := [d1, d2] }
  | _ => none }
def FnExactLookTrueWrongFalsely : Prop := fnExactLookTrueRow.holds Tryz.pinned (OpenSpec.ofChange fnExactLookTrueWrong)

/-- 'laws.FnExactTrueWorld': WHATEVER THE INPUT: true; the input reads as it did. -/
def fnExactTrueWorldSpec : ChangeSpec := { name := "fnExactTrueWorld", fn := fun _ => fun
  | [d] => { results := [.lit (.bool true)], args := [d] }
  | _ => none }
def fnExactTrueWorldRow : OpenClaim := { program := "ytafipjhalboefaagreat", sum := "ecd360f852e510e78478143a3d03ac4297274ffb50616780d6bf79a750358c68", func := "loop.example/g00960/laws.FnExactTrueWorld", spec := "fnExactTrueWorld", apart := false }
def FnExactTrueWorldSaid : Prop := fnExactTrueWorldRow.holds Tryz.pinned (OpenSpec.ofChange fnExactTrueWorldSpec)

/-- ITS FALSE NEIGHBOUR: 'it returns false'. Refute it at one input. -/
def fnExactTrueWorldWrong : ChangeSpec := { name := "fnExactTrueWorld", fn := fun _ => fun
  | [d] => { results := [.lit (.bool false)], args := [d] }
  | _ => none }
def FnExactTrueWorldWrongFalsely : Prop := fnExactTrueWorldRow.holds Tryz.pinned (OpenSpec.ofChange fnExactTrueWorldWrong)

/-- 'laws.FnExactWallUnits': WHATEVER THE INPUT: true; the input reads as it did. -/
def fnExactWallUnitsSpec : ChangeSpec := { name := "fnExactWallUnits", fn := fun _ => fun
  | [d] => { results := [.lit (.bool true)], args := [d] }
  | _ => none }
def fnExactWallUnitsRow : OpenClaim := { program := "ytafipjhalboefaagreat", sum := "ecd360f852e510e78478143a3d03ac4297274ffb50616780d6bf79a750358c68", func := "loop.example/g00960/laws.FnExactWallUnits", spec := "fnExactWallUnits", apart := false }
def FnExactWallUnitsSaid : Prop := fnExactWallUnitsRow.holds Tryz.pinned (OpenSpec.ofChange fnExactWallUnitsSpec)

/-- ITS FALSE NEIGHBOUR: 'it returns false'. Refute it at one input. -/
def fnExactWallUnitsWrong : ChangeSpec := { name := "fnExactWallUnits", fn := fun _ => fun
  | [d] => { results := [.lit (.bool false)], args := [d] }
  | _ => none }
def FnExactWallUnitsWrongFalsely : Prop := fnExactWallUnitsRow.holds Tryz.pinned (OpenSpec.ofChange fnExactWallUnitsWrong)

/-- 'laws.FnExactReport': WHATEVER THE INPUT: true; the input reads as it did. -/
def fnExactReportSpec : ChangeSpec := { name := "fnExactReport", fn := fun _ => fun
  | [d] => { results := [.lit (.bool true)], args := [d] }
  | _ => none }
def fnExactReportRow : OpenClaim := { program := "ytafipjhalboefaagreat", sum := "ecd360f852e510e78478143a3d03ac4297274ffb50616780d6bf79a750358c68", func := "loop.example/g00960/laws.FnExactReport", spec := "fnExactReport", apart := false }
def FnExactReportSaid : Prop := fnExactReportRow.holds Tryz.pinned (OpenSpec.ofChange fnExactReportSpec)

/-- ITS FALSE NEIGHBOUR: 'it returns false'. Refute it at one input. -/
def fnExactReportWrong : ChangeSpec := { name := "fnExactReport", fn := fun _ => fun
  | [d] => { results := [.lit (.bool false)], args := [d] }
  | _ => none }
def FnExactReportWrongFalsely : Prop := fnExactReportRow.holds Tryz.pinned (OpenSpec.ofChange fnExactReportWrong)

/- THE SECOND FORM. 'bulk': how many values and letters a reading holds, each counted each time it is reached (what is shared counts as often as it is met; a slice's spare places count too). A statement '..UptoSaid' is the law's where the arguments, and the package variables that the reading takes, are together of bulk at most 1048576: NARROWER than '..Said'. Prove '..Said' where nothing that the law and all that it calls make is longer than what came in: it says more and counts as full. Else prove '..UptoSaid'. A law counts once. -/
mutual
def uptoBulk {H : Type} : DataW H → Nat
  | .lit (.string bytes) => bytes.length + 1
  | .lit _ => 1
  | .nil => 1
  | .ptr d => uptoBulk d + 1
  | .slice elems spare => uptoBulkAll elems + uptoBulkAll spare + 1
  | .agg parts => uptoBulkAll parts + 1
  | .iface _ d => uptoBulk d + 1
  | .map entries => uptoBulkEntries entries + 1
  | .held _ => 1
def uptoBulkAll {H : Type} : List (DataW H) → Nat
  | [] => 0
  | d :: r => uptoBulk d + uptoBulkAll r
def uptoBulkEntries {H : Type} : List (Lit × DataW H) → Nat
  | [] => 0
  | x :: r => uptoBulkEntry x + uptoBulkEntries r
def uptoBulkEntry {H : Type} : Lit × DataW H → Nat
  | (.string bytes, d) => bytes.length + uptoBulk d + 1
  | (_, d) => uptoBulk d + 1
 end
def uptoSmall : (H : Type) → List (DataW H) → Bool := fun _ ds => decide (uptoBulkAll ds ≤ 1048576)
def OpenSpec.upto (s : _root_.Go.ChangeSpec) : _root_.Go.OpenSpec := { _root_.Go.OpenSpec.ofChange s with cond := some uptoSmall }

/-- 'laws.FnExactTileShows', WHERE WHAT IT READS IS OF BULK AT MOST 1048576: true; the input reads as it did. -/
def fnExactTileShowsUptoRow : OpenClaim := { program := "ytafipjhalboefaagreat", sum := "ecd360f852e510e78478143a3d03ac4297274ffb50616780d6bf79a750358c68", func := "loop.example/g00960/laws.FnExactTileShows", spec := "fnExactTileShows", apart := false, narrowed := true }
def FnExactTileShowsUptoSaid : Prop := fnExactTileShowsUptoRow.holds Tryz.pinned (OpenSpec.upto fnExactTileShowsSpec)

/-- 'laws.FnExactTileTrue', WHERE WHAT IT READS IS OF BULK AT MOST 1048576: true; the input reads as it did. -/
def fnExactTileTrueUptoRow : OpenClaim := { program := "ytafipjhalboefaagreat", sum := "ecd360f852e510e78478143a3d03ac4297274ffb50616780d6bf79a750358c68", func := "loop.example/g00960/laws.FnExactTileTrue", spec := "fnExactTileTrue", apart := false, narrowed := true }
def FnExactTileTrueUptoSaid : Prop := fnExactTileTrueUptoRow.holds Tryz.pinned (OpenSpec.upto fnExactTileTrueSpec)

/-- 'laws.FnExactLookTrue', WHERE WHAT IT READS IS OF BULK AT MOST 1048576: true; the input reads as it did. -/
def fnExactLookTrueUptoRow : OpenClaim := { program := "ytafipjhalboefaagreat", sum := "ecd360f852e510e78478143a3d03ac4297274ffb50616780d6bf79a750358c68", func := "loop.example/g00960/laws.FnExactLookTrue", spec := "fnExactLookTrue", apart := false, narrowed := true }
def FnExactLookTrueUptoSaid : Prop := fnExactLookTrueUptoRow.holds Tryz.pinned (OpenSpec.upto fnExactLookTrueSpec)

/-- 'laws.FnExactTrueWorld', WHERE WHAT IT READS IS OF BULK AT MOST 1048576: true; the input reads as it did. -/
def fnExactTrueWorldUptoRow : OpenClaim := { program := "ytafipjhalboefaagreat", sum := "ecd360f852e510e78478143a3d03ac4297274ffb50616780d6bf79a750358c68", func := "loop.example/g00960/laws.FnExactTrueWorld", spec := "fnExactTrueWorld", apart := false, narrowed := true }
def FnExactTrueWorldUptoSaid : Prop := fnExactTrueWorldUptoRow.holds Tryz.pinned (OpenSpec.upto fnExactTrueWorldSpec)

/-- 'laws.FnExactWallUnits', WHERE WHAT IT READS IS OF BULK AT MOST 1048576: true; the input reads as it did. -/
def fnExactWallUnitsUptoRow : OpenClaim := { program := "ytafipjhalboefaagreat", sum := "ecd360f852e510e78478143a3d03ac4297274ffb50616780d6bf79a750358c68", func := "loop.example/g00960/laws.FnExactWallUnits", spec := "fnExactWallUnits", apart := false, narrowed := true }
def FnExactWallUnitsUptoSaid : Prop := fnExactWallUnitsUptoRow.holds Tryz.pinned (OpenSpec.upto fnExactWallUnitsSpec)

/-- 'laws.FnExactReport', WHERE WHAT IT READS IS OF BULK AT MOST 1048576: true; the input reads as it did. -/
def fnExactReportUptoRow : OpenClaim := { program := "ytafipjhalboefaagreat", sum := "ecd360f852e510e78478143a3d03ac4297274ffb50616780d6bf79a750358c68", func := "loop.example/g00960/laws.FnExactReport", spec := "fnExactReport", apart := false, narrowed := true }
def FnExactReportUptoSaid : Prop := fnExactReportUptoRow.holds Tryz.pinned (OpenSpec.upto fnExactReportSpec)

end Rows
end Go.Proofs.YtafipjhalboefaaGreat
