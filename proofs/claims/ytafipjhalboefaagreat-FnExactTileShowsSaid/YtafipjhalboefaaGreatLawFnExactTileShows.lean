/- The row of FnExactTileShows: the law holds for all that comes in. No condition. -/
import Derived.Test.YtafipjhalboefaaGreatGk
import Derived.Test.YtafipjhalboefaaGreatVD
import Derived.Test.YtafipjhalboefaaGreatRows
import Derived.WalkKit
import Derived.ProofKit
import Derived.OpenShut
import Derived.ShutString
import Derived.ChangeOld
import Derived.Below
import Derived.SizedLaws
import Derived.Carry
namespace Go.Proofs.YtafipjhalboefaaGreat.fnExactTileShows
open Go.ChangeShapes Go.WideShapes Go.ChangeAt Go.RowKit Go.Vx
open Go.ChangeMaps (open_string shut_string)
set_option linter.unusedVariables false
theorem own : ownKnob Tryz.prog.godebug = none := by kernel_rfl
theorem laidOut : laidOutB Tryz.prog = true := by kernel_rfl
set_option maxRecDepth 100000 in
theorem lifted (os : Os) (started : os.Started) (H : Type) (enc : TypeId × Value → H) :
    ReturnsInHanded {} Tryz.checked os 3 .any (Rows.fnExactTileShowsSpec.pre6 enc Tryz.prog Tryz.f3 Rows.fnExactTileShowsRow.domain false) (Rows.fnExactTileShowsSpec.post enc Tryz.prog Tryz.f3 false true false false) := by
  refine returnsInHanded_of_change_sized (C := Tryz.checked) own started (by kernel_rfl) Tryz.func3
    (ChangeSpec.witness6 (enc := enc) (C := Tryz.checked) false ⟨#[], #[.agg #[.int .i64 0, .bool false, .bool false, .bool false, .int .i64 0, .int .i64 0, .int .i64 0, .int .i64 0, .slice none 0 0, .slice none 0 0, .slice none 0 0, .slice none 0 0, .slice none 0 0, .slice none 0 0, .int .i64 0, .int .i64 0, .bool false, .slice none 0 0, .slice none 0 0, .slice none 0 0, .bool false, .bool false, .bool false, .int .i64 0, .int .i64 0, .slice none 0 0, .slice none 0 0, .int .i64 0, .bool false, .bool false, .bool false, .int .i64 0, .int .i64 0, .int .i64 0, .int .i64 0, .string ByteArray.empty, .int .i64 0, .int .i64 0, .string ByteArray.empty, .slice none 0 0, .slice none 0 0, .slice none 0 0, .slice none 0 0], .int .i64 0, .int .i64 0], []⟩ 8 (by kernel_rfl) (by kernel_rfl) (by kernel_rfl) (by kernel_rfl)) ?_
  intro W base args ds gs before hval0 hW hcnd hsz0 _
  have hval : ∀ (j : Nat) t v, Tryz.f3.params[j]? = some t → args[j]? = some v → Value.okWide Tryz.prog W .any base t v := hval0
  have hW' := hW
  obtain ⟨p, q, hA0, hV, rfl, hfz, hnd⟩ := hW
  have hA : DataW.TrodAll enc Tryz.prog W 0 (fun _ => true) true Tryz.f3.params.toList args.toList ds p := hA0
  rw [Tryz.params3] at hA hval
  obtain ⟨v0, vs0, d0, ds0, p0, q0, hargs, rfl, rfl, h0, r0⟩ := trodAll_cons hA
  obtain ⟨v1, vs1, d1, ds1, p1, q1, rfl, rfl, rfl, h1, r1⟩ := trodAll_cons r0
  obtain ⟨v2, vs2, d2, ds2, p2, q2, rfl, rfl, rfl, h2, r2⟩ := trodAll_cons r1
  obtain ⟨rfl, rfl, rfl⟩ := trodAll_nil r2
  obtain rfl : args = #[v0, v1, v2] := by cases args; simp_all
  obtain ⟨rfl, rfl⟩ := trodVars_none hV
  have lt0 : ∀ x ∈ p0, x.block < W.heap.size := by obtain ⟨m, hm⟩ := h0; exact DataW.trod_lt m _ _ _ hm
  obtain ⟨x0, e0, m0⟩ := open_st 20 (show shapeOf Tryz.prog 20 42 = some worldK from by kernel_rfl) (by kernel_rfl) (hval 0 42 v0 rfl rfl) h0
  have lt1 : ∀ x ∈ p1, x.block < W.heap.size := by obtain ⟨m, hm⟩ := h1; exact DataW.trod_lt m _ _ _ hm
  obtain ⟨x1, e1, m1⟩ := open_one 20 (show shapeOf Tryz.prog 20 3 = some [.int .i64] from by kernel_rfl) (by kernel_rfl) (hval 1 3 v1 rfl rfl) h1
  have lt2 : ∀ x ∈ p2, x.block < W.heap.size := by obtain ⟨m, hm⟩ := h2; exact DataW.trod_lt m _ _ _ hm
  obtain ⟨x2, e2, m2⟩ := open_one 20 (show shapeOf Tryz.prog 20 3 = some [.int .i64] from by kernel_rfl) (by kernel_rfl) (hval 2 3 v2 rfl rfl) h2
  clear hA0 hval0 hsz0
  refine (vow_true (law_tileShows e0 e1 e2) W #[v0, v1, v2] rfl ?_).mono fun e W' ⟨he, bel⟩ => ?_
  · intro j x c hx hc
    match j, hx, hc with
    | 0, hx, hc => cases hx; cases hc; exact m0 _
    | 1, hx, hc => cases hx; cases hc; exact m1 _
    | 2, hx, hc => cases hx; cases hc; exact m2 _
  · subst he
    exact ⟨_, rfl, _, _, _, [], _, [], hW', trodAll_mk1 (shut_bool Tryz.underlying4 _), (trodAll_cons_mk (Below.trod laidOut (by kernel_rfl) (of_decide_eq_true (by kernel_rfl)) h0 bel lt0) (trodAll_cons_mk (Below.trod laidOut (by kernel_rfl) (of_decide_eq_true (by kernel_rfl)) h1 bel lt1) (trodAll_cons_mk (Below.trod laidOut (by kernel_rfl) (of_decide_eq_true (by kernel_rfl)) h2 bel lt2) trodAll_mk0))), rfl, bel.frame _, fun h => by cases h⟩
theorem q1 : Tryz.pinned.checked.prog.funcNamed Rows.fnExactTileShowsRow.func = some 3 := by kernel_rfl
theorem q3 : joinedFacts Tryz.pinned.checked.prog 3 Tryz.f3 Rows.fnExactTileShowsSpec Rows.fnExactTileShowsRow = true := by kernel_rfl
theorem q4 : Tryz.f3.isInstance Tryz.pinned.checked.prog Rows.fnExactTileShowsRow.origin Rows.fnExactTileShowsRow.targs := of_decide_eq_true (by kernel_rfl)
theorem q5 : Tryz.f3.isWrapper Tryz.pinned.checked.prog Rows.fnExactTileShowsRow.wrapper Rows.fnExactTileShowsRow.mainSum := by unfold Func.isWrapper; first | (rw [if_pos (by decide +kernel)]; kernel_rfl) | (rw [if_neg (by decide +kernel)]; exact ⟨rfl, rfl⟩)
theorem over : Rows.fnExactTileShowsRow.holds Tryz.pinned (OpenSpec.ofChange Rows.fnExactTileShowsSpec) :=
  OpenClaim.holds_of_wide 3 Tryz.f3 rfl rfl rfl rfl rfl rfl rfl ⟨rfl, rfl, rfl, rfl, rfl⟩ rfl rfl rfl rfl rfl q1 Tryz.func3 q3 q4 q5 (fun os started H enc _ => lifted os started H enc)
theorem proved : Rows.FnExactTileShowsSaid := over
#print axioms proved
end Go.Proofs.YtafipjhalboefaaGreat.fnExactTileShows
namespace Go.Proofs.YtafipjhalboefaaGreat
theorem fnExactTileShows_holds : Rows.FnExactTileShowsSaid := fnExactTileShows.proved
end Go.Proofs.YtafipjhalboefaaGreat
