/- The row of FnExactCountsOk: the law holds for all that comes in. No condition. -/
import Derived.Test.YtafipjhalboefaaGg
import Derived.Test.YtafipjhalboefaaVD
import Derived.Test.YtafipjhalboefaaRows
import Derived.WalkKit
import Derived.ProofKit
import Derived.OpenShut
import Derived.ShutString
import Derived.ChangeOld
import Derived.Below
import Derived.SizedLaws
import Derived.Carry
namespace Go.Proofs.Ytafipjhalboefaa.fnExactCountsOk
open Go.ChangeShapes Go.WideShapes Go.ChangeAt Go.RowKit Go.Vx
open Go.ChangeMaps (open_string shut_string)
set_option linter.unusedVariables false
theorem own : ownKnob Try.prog.godebug = none := by kernel_rfl
theorem laidOut : laidOutB Try.prog = true := by kernel_rfl
set_option maxRecDepth 100000 in
theorem lifted (os : Os) (started : os.Started) (H : Type) (enc : TypeId × Value → H) :
    ReturnsInHanded {} Try.checked os 5 .any (Rows.fnExactCountsOkSpec.pre6 enc Try.prog Try.f5 Rows.fnExactCountsOkRow.domain false) (Rows.fnExactCountsOkSpec.post enc Try.prog Try.f5 false true false false) := by
  refine returnsInHanded_of_change_sized (C := Try.checked) own started (by kernel_rfl) Try.func5
    (ChangeSpec.witness6 (enc := enc) (C := Try.checked) false ⟨#[], #[.agg #[.int .i64 0, .bool false, .bool false, .bool false, .int .i64 0, .int .i64 0, .int .i64 0, .int .i64 0, .slice none 0 0, .slice none 0 0, .slice none 0 0, .slice none 0 0, .slice none 0 0, .slice none 0 0, .int .i64 0, .int .i64 0, .bool false, .slice none 0 0, .slice none 0 0, .slice none 0 0, .bool false, .bool false, .bool false, .int .i64 0, .int .i64 0, .slice none 0 0, .slice none 0 0, .int .i64 0, .bool false, .bool false, .bool false, .int .i64 0, .int .i64 0, .int .i64 0, .int .i64 0, .string ByteArray.empty, .int .i64 0, .int .i64 0, .string ByteArray.empty, .slice none 0 0, .slice none 0 0, .slice none 0 0, .slice none 0 0], .int .i64 0], []⟩ 8 (by kernel_rfl) (by kernel_rfl) (by kernel_rfl) (by kernel_rfl)) ?_
  intro W base args ds gs before hval0 hW hcnd hsz0 _
  have hval : ∀ (j : Nat) t v, Try.f5.params[j]? = some t → args[j]? = some v → Value.okWide Try.prog W .any base t v := hval0
  have hW' := hW
  obtain ⟨p, q, hA0, hV, rfl, hfz, hnd⟩ := hW
  have hA : DataW.TrodAll enc Try.prog W 0 (fun _ => true) true Try.f5.params.toList args.toList ds p := hA0
  rw [Try.params5] at hA hval
  obtain ⟨v0, vs0, d0, ds0, p0, q0, hargs, rfl, rfl, h0, r0⟩ := trodAll_cons hA
  obtain ⟨v1, vs1, d1, ds1, p1, q1, rfl, rfl, rfl, h1, r1⟩ := trodAll_cons r0
  obtain ⟨rfl, rfl, rfl⟩ := trodAll_nil r1
  obtain rfl : args = #[v0, v1] := by cases args; simp_all
  obtain ⟨rfl, rfl⟩ := trodVars_none hV
  have lt0 : ∀ x ∈ p0, x.block < W.heap.size := by obtain ⟨m, hm⟩ := h0; exact DataW.trod_lt m _ _ _ hm
  obtain ⟨x0, e0, m0⟩ := open_st 20 (show shapeOf Try.prog 20 42 = some worldK from by kernel_rfl) (by kernel_rfl) (hval 0 42 v0 rfl rfl) h0
  have lt1 : ∀ x ∈ p1, x.block < W.heap.size := by obtain ⟨m, hm⟩ := h1; exact DataW.trod_lt m _ _ _ hm
  obtain ⟨x1, e1, m1⟩ := open_one 20 (show shapeOf Try.prog 20 3 = some [.int .i64] from by kernel_rfl) (by kernel_rfl) (hval 1 3 v1 rfl rfl) h1
  clear hA0 hval0 hsz0
  refine (vow_true (law_countsOk e0 e1) W #[v0, v1] rfl ?_).mono fun e W' ⟨he, bel⟩ => ?_
  · intro j x c hx hc
    match j, hx, hc with
    | 0, hx, hc => cases hx; cases hc; exact m0 _
    | 1, hx, hc => cases hx; cases hc; exact m1 _
  · subst he
    exact ⟨_, rfl, _, _, _, [], _, [], hW', trodAll_mk1 (shut_bool Try.underlying4 _), (trodAll_cons_mk (Below.trod laidOut (by kernel_rfl) (of_decide_eq_true (by kernel_rfl)) h0 bel lt0) (trodAll_cons_mk (Below.trod laidOut (by kernel_rfl) (of_decide_eq_true (by kernel_rfl)) h1 bel lt1) trodAll_mk0)), rfl, bel.frame _, fun h => by cases h⟩
theorem q1 : Try.pinned.checked.prog.funcNamed Rows.fnExactCountsOkRow.func = some 5 := by kernel_rfl
theorem q3 : joinedFacts Try.pinned.checked.prog 5 Try.f5 Rows.fnExactCountsOkSpec Rows.fnExactCountsOkRow = true := by kernel_rfl
theorem q4 : Try.f5.isInstance Try.pinned.checked.prog Rows.fnExactCountsOkRow.origin Rows.fnExactCountsOkRow.targs := of_decide_eq_true (by kernel_rfl)
theorem q5 : Try.f5.isWrapper Try.pinned.checked.prog Rows.fnExactCountsOkRow.wrapper Rows.fnExactCountsOkRow.mainSum := by unfold Func.isWrapper; first | (rw [if_pos (by decide +kernel)]; kernel_rfl) | (rw [if_neg (by decide +kernel)]; exact ⟨rfl, rfl⟩)
theorem over : Rows.fnExactCountsOkRow.holds Try.pinned (OpenSpec.ofChange Rows.fnExactCountsOkSpec) :=
  OpenClaim.holds_of_wide 5 Try.f5 rfl rfl rfl rfl rfl rfl rfl ⟨rfl, rfl, rfl, rfl, rfl⟩ rfl rfl rfl rfl rfl q1 Try.func5 q3 q4 q5 (fun os started H enc _ => lifted os started H enc)
theorem proved : Rows.FnExactCountsOkSaid := over
#print axioms proved
end Go.Proofs.Ytafipjhalboefaa.fnExactCountsOk
namespace Go.Proofs.Ytafipjhalboefaa
theorem fnExactCountsOk_holds : Rows.FnExactCountsOkSaid := fnExactCountsOk.proved
end Go.Proofs.Ytafipjhalboefaa
