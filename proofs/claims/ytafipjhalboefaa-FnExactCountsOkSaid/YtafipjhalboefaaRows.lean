/-
  No cell of these rows narrows 'for every input' (looked for: loops, veiled, ifaces, maps, wideKeys, modest, calm, conditions, laid).
  DERIVED. THE GIVEN ROWS OF THIS SEAT. 3 by the template 'for every input the law returns true; each argument reads behind the call as it read before'; 0 by the template 'total and deterministic' (their statements: YtafipjhalboefaaTotals.lean).
  GIVEN WITH THE SEED: the statements are not yours to turn. If you find one false, say at which input.
  Laid BY PROGRAM, IN A SANDBOX (cutbox-rows.mjs): the forced cells as the released guide's own fill.sh prints them over the translation e1f327d3003e47e4… (all of the seat's roots in one cut). By AI agents, Wed Nov 11 2026. No macro, syntax, notation, axiom, sorry.
-/
import Derived.Test.YtafipjhalboefaaChecked
import GoSem.Claim
import GoSem.ClaimJoined
import GoSem.ClaimMapViews
import Derived.JoinedTies
import Derived.KernelRfl
namespace Go.Proofs.Ytafipjhalboefaa
/- THE CELL 'sum', in the pinned program and in every row, IS THE sha256 OF THE DUMP (.gsa) THAT YtafipjhalboefaaProg.lean LOADS. Nothing in Lean hashes anything: it is a label: what it is worth is what the hold of that sum in a sandbox is worth. -/
noncomputable def Try.pinned : Pinned := { name := "ytafipjhalboefaa", sum := "e1f327d3003e47e44263202cb3c4e7ae4e61dd44e99207d4199bc35afc30a68b", checked := Try.checked }
namespace Rows
def none {H : Type} : Left H := { results := [], args := [] }

/-- 'laws.FnExactLiveAt': WHATEVER THE INPUT: true; the input reads as it did. -/
def fnExactLiveAtSpec : ChangeSpec := { name := "fnExactLiveAt", fn := fun _ => fun
  | [d1, d2, d3] => { results := [.lit (.bool true)], args := [d1, d2, d3] }
  | _ => none }
def fnExactLiveAtRow : OpenClaim := { program := "ytafipjhalboefaa", sum := "e1f327d3003e47e44263202cb3c4e7ae4e61dd44e99207d4199bc35afc30a68b", func := "loop.example/g00960/laws.FnExactLiveAt", spec := "fnExactLiveAt", apart := false }
def FnExactLiveAtSaid : Prop := fnExactLiveAtRow.holds Try.pinned (OpenSpec.ofChange fnExactLiveAtSpec)

/-- ITS FALSE NEIGHBOUR: 'it returns false'. Refute it at one input. -/
def fnExactLiveAtWrong : ChangeSpec := { name := "fnExactLiveAt", fn := fun _ => fun
  | [d1, d2, d3] => { results := [.lit (.bool false)], args := [d1, d2, d3] }
  | _ => none }
def FnExactLiveAtWrongFalsely : Prop := fnExactLiveAtRow.holds Try.pinned (OpenSpec.ofChange fnExactLiveAtWrong)

/-- 'laws.FnExactSightOf': WHATEVER THE INPUT: true; the input reads as it did. -/
def fnExactSightOfSpec : ChangeSpec := { name := "fnExactSightOf", fn := fun _ => fun
  | [d1, d2, d3] => { results := [.lit (.bool true)], args := [d1, d2, d3] }
  | _ => none }
def fnExactSightOfRow : OpenClaim := { program := "ytafipjhalboefaa", sum := "e1f327d3003e47e44263202cb3c4e7ae4e61dd44e99207d4199bc35afc30a68b", func := "loop.example/g00960/laws.FnExactSightOf", spec := "fnExactSightOf", apart := false }
def FnExactSightOfSaid : Prop := fnExactSightOfRow.holds Try.pinned (OpenSpec.ofChange fnExactSightOfSpec)

/-- ITS FALSE NEIGHBOUR: 'it returns false'. Refute it at one input. -/
def fnExactSightOfWrong : ChangeSpec := { name := "fnExactSightOf", fn := fun _ => fun
  | [d1, d2, d3] => { results := [.lit (.bool false)], args := [d1, d2, d3] }
  | _ => none }
def FnExactSightOfWrongFalsely : Prop := fnExactSightOfRow.holds Try.pinned (OpenSpec.ofChange fnExactSightOfWrong)

/-- 'laws.FnExactCountsOk': WHATEVER THE INPUT: true; the input reads as it did. -/
def fnExactCountsOkSpec : ChangeSpec := { name := "fnExactCountsOk", fn := fun _ => fun
  | [d1, d2] => { results := [.lit (.bool true)], args := [d1, d2] }
  | _ => none }
def fnExactCountsOkRow : OpenClaim := { program := "ytafipjhalboefaa", sum := "e1f327d3003e47e44263202cb3c4e7ae4e61dd44e99207d4199bc35afc30a68b", func := "loop.example/g00960/laws.FnExactCountsOk", spec := "fnExactCountsOk", apart := false }
def FnExactCountsOkSaid : Prop := fnExactCountsOkRow.holds Try.pinned (OpenSpec.ofChange fnExactCountsOkSpec)

/-- ITS FALSE NEIGHBOUR: 'it returns false'. Refute it at one input. -/
def fnExactCountsOkWrong : ChangeSpec := { name := "fnExactCountsOk", fn := fun _ => fun
  | [d1, d2] => { results := [.lit (.bool false)], args := [d1, d2] }
  | _ => none }
def FnExactCountsOkWrongFalsely : Prop := fnExactCountsOkRow.holds Try.pinned (OpenSpec.ofChange fnExactCountsOkWrong)

/- THE SECOND FORM. 'bulk': how many values and letters a reading holds, each counted each time it is reached (what is shared counts as often as it is met; a slice's spare places count too). A statement '..UptoSaid' is the law's where the arguments, and the package variables that the reading takes, are together of bulk at most 1048576: NARROWER than '..Said'. Prove '..Said' where nothing that the law and all that it calls make is longer than what came in: it says more and counts as full. Else prove '..UptoSaid'. A law counts once. -/
mutual
def uptoBulk {H : Type} : DataW H → Nat
  | .lit (.string bytes) => bytes.length + 1
  | .lit _ => 1
  | .nil => 1
  | .ptr d => uptoBulk d + 1
  | .slice elems spare => uptoBulkAll elems + uptoBulkAll spare + 1
  | .agg parts => uptoBulkAll parts + 1
  | .iface _ d => uptoBulk d + 1
  | .map entries => uptoBulkEntries entries + 1
  | .held _ => 1
def uptoBulkAll {H : Type} : List (DataW H) → Nat
  | [] => 0
  | d :: r => uptoBulk d + uptoBulkAll r
def uptoBulkEntries {H : Type} : List (Lit × DataW H) → Nat
  | [] => 0
  | x :: r => uptoBulkEntry x + uptoBulkEntries r
def uptoBulkEntry {H : Type} : Lit × DataW H → Nat
  | (.string bytes, d) => bytes.length + uptoBulk d + 1
  | (_, d) => uptoBulk d + 1
 end
def uptoSmall : (H : Type) → List (DataW H) → Bool := fun _ ds => decide (uptoBulkAll ds ≤ 1048576)
def OpenSpec.upto (s : _root_.Go.ChangeSpec) : _root_.Go.OpenSpec := { _root_.Go.OpenSpec.ofChange s with cond := some uptoSmall }

/-- 'laws.FnExactLiveAt', WHERE WHAT IT READS IS OF BULK AT MOST 1048576: true; the input reads as it did. -/
def fnExactLiveAtUptoRow : OpenClaim := { program := "ytafipjhalboefaa", sum := "e1f327d3003e47e44263202cb3c4e7ae4e61dd44e99207d4199bc35afc30a68b", func := "loop.example/g00960/laws.FnExactLiveAt", spec := "fnExactLiveAt", apart := false, narrowed := true }
def FnExactLiveAtUptoSaid : Prop := fnExactLiveAtUptoRow.holds Try.pinned (OpenSpec.upto fnExactLiveAtSpec)

/-- 'laws.FnExactSightOf', WHERE WHAT IT READS IS OF BULK AT MOST 1048576: true; the input reads as it did. -/
def fnExactSightOfUptoRow : OpenClaim := { program := "ytafipjhalboefaa", sum := "e1f327d3003e47e44263202cb3c4e7ae4e61dd44e99207d4199bc35afc30a68b", func := "loop.example/g00960/laws.FnExactSightOf", spec := "fnExactSightOf", apart := false, narrowed := true }
def FnExactSightOfUptoSaid : Prop := fnExactSightOfUptoRow.holds Try.pinned (OpenSpec.upto fnExactSightOfSpec)

/-- 'laws.FnExactCountsOk', WHERE WHAT IT READS IS OF BULK AT MOST 1048576: true; the input reads as it did. -/
def fnExactCountsOkUptoRow : OpenClaim := { program := "ytafipjhalboefaa", sum := "e1f327d3003e47e44263202cb3c4e7ae4e61dd44e99207d4199bc35afc30a68b", func := "loop.example/g00960/laws.FnExactCountsOk", spec := "fnExactCountsOk", apart := false, narrowed := true }
def FnExactCountsOkUptoSaid : Prop := fnExactCountsOkUptoRow.holds Try.pinned (OpenSpec.upto fnExactCountsOkSpec)

end Rows
end Go.Proofs.Ytafipjhalboefaa
