/- The row of FnExactPictureParts: the law holds for all that comes in. No condition. -/
import Derived.Test.YtfcjjkfjdecakaaUk
import Derived.Test.YtfcjjkfjdecakaaRows
import Derived.WalkKit
import Derived.ProofKit
import Derived.OpenShut
import Derived.ShutString
import Derived.ChangeOld
import Derived.Below
import Derived.SizedLaws
import Derived.Carry
namespace Go.Proofs.Ytfcjjkfjdecakaa.fnExactPictureParts
open Go.ChangeShapes Go.WideShapes Go.ChangeAt Go.RowKit Go.Vx
open Go.ChangeMaps (open_string shut_string)
set_option linter.unusedVariables false
theorem own : ownKnob Try.prog.godebug = none := by kernel_rfl
theorem laidOut : laidOutB Try.prog = true := by kernel_rfl
set_option maxRecDepth 100000 in
theorem lifted (os : Os) (started : os.Started) (H : Type) (enc : TypeId × Value → H) :
    ReturnsInHanded {} Try.checked os 10 .any (Rows.fnExactPicturePartsSpec.pre6 enc Try.prog Try.f10 Rows.fnExactPicturePartsRow.domain false) (Rows.fnExactPicturePartsSpec.post enc Try.prog Try.f10 false true false false) := by
  refine returnsInHanded_of_change_sized (C := Try.checked) own started (by kernel_rfl) Try.func10
    (ChangeSpec.witness6 (enc := enc) (C := Try.checked) false ⟨#[], #[.agg #[.int .i64 0, .int .i64 0, .slice none 0 0, .slice none 0 0], .agg #[.int .i64 0, .bool false, .bool false, .bool false], .slice none 0 0], []⟩ 8 (by kernel_rfl) (by kernel_rfl) (by kernel_rfl) (by kernel_rfl)) ?_
  intro W base args ds gs before hval0 hW hcnd hsz0 _
  have hsz : (DataW.weightsEach Try.prog (Try.f10.params.toList ++ Rows.fnExactPicturePartsSpec.plain.varTypes Try.prog) (ds ++ gs)).all (· ≤ reachBytes) = true := hsz0
  have hval : ∀ (j : Nat) t v, Try.f10.params[j]? = some t → args[j]? = some v → Value.okWide Try.prog W .any base t v := hval0
  have hW' := hW
  obtain ⟨p, q, hA0, hV, rfl, hfz, hnd⟩ := hW
  have hA : DataW.TrodAll enc Try.prog W 0 (fun _ => true) true Try.f10.params.toList args.toList ds p := hA0
  rw [Try.params10] at hA hval hsz
  obtain ⟨v0, vs0, d0, ds0, p0, q0, hargs, rfl, rfl, h0, r0⟩ := trodAll_cons hA
  obtain ⟨v1, vs1, d1, ds1, p1, q1, rfl, rfl, rfl, h1, r1⟩ := trodAll_cons r0
  obtain ⟨v2, vs2, d2, ds2, p2, q2, rfl, rfl, rfl, h2, r2⟩ := trodAll_cons r1
  obtain ⟨rfl, rfl, rfl⟩ := trodAll_nil r2
  obtain rfl : args = #[v0, v1, v2] := by cases args; simp_all
  obtain ⟨rfl, rfl⟩ := trodVars_none hV
  have k0 := h0
  have lt0 : ∀ x ∈ p0, x.block < W.heap.size := by obtain ⟨m, hm⟩ := k0; exact DataW.trod_lt m _ _ _ hm
  obtain ⟨xs0, hl0, lf0, m0⟩ := struct_open (lks := [.int .i64, .int .i64, .ints .i64, .ints .i64]) Try.underlying24 rfl (fun j f lk hf hl => match j, hf, hl with | 0, hf, hl => by cases hf; cases hl; exact ⟨Try.underlying3, rfl, by kernel_rfl⟩ | 1, hf, hl => by cases hf; cases hl; exact ⟨Try.underlying3, rfl, by kernel_rfl⟩ | 2, hf, hl => by cases hf; cases hl; exact ⟨⟨3, Try.underlying22, Try.underlying3, by kernel_rfl⟩, rfl, by kernel_rfl⟩ | 3, hf, hl => by cases hf; cases hl; exact ⟨⟨3, Try.underlying22, Try.underlying3, by kernel_rfl⟩, rfl, by kernel_rfl⟩) (by kernel_rfl) (hval 0 24 v0 rfl rfl) h0 [2]
  obtain ⟨x0_0, x0_1, x0_2, x0_3, rfl⟩ : ∃ x0_0 x0_1 x0_2 x0_3, xs0 = [x0_0, x0_1, x0_2, x0_3] := by
    match xs0, hl0 with
    | [x0_0, x0_1, x0_2, x0_3], _ => exact ⟨_, _, _, _, rfl⟩
  obtain ⟨n0_0, rfl, e0_0⟩ := (lf0 0 _ _ rfl rfl).int_inv
  obtain ⟨n0_1, rfl, e0_1⟩ := (lf0 1 _ _ rfl rfl).int_inv
  obtain ⟨n0_2, rfl, e0_2, el0_2⟩ := (lf0 2 _ _ rfl rfl).ints_inv
  obtain ⟨n0_3, rfl, e0_3, el0_3⟩ := (lf0 3 _ _ rfl rfl).ints_inv
  have k1 := h1
  have lt1 : ∀ x ∈ p1, x.block < W.heap.size := by obtain ⟨m, hm⟩ := k1; exact DataW.trod_lt m _ _ _ hm
  obtain ⟨xs1, hl1, lf1, m1⟩ := struct_open (lks := [.int .i64, .bool, .bool, .bool]) Try.underlying26 rfl (fun j f lk hf hl => match j, hf, hl with | 0, hf, hl => by cases hf; cases hl; exact ⟨Try.underlying3, rfl, by kernel_rfl⟩ | 1, hf, hl => by cases hf; cases hl; exact ⟨Try.underlying4, rfl, by kernel_rfl⟩ | 2, hf, hl => by cases hf; cases hl; exact ⟨Try.underlying4, rfl, by kernel_rfl⟩ | 3, hf, hl => by cases hf; cases hl; exact ⟨Try.underlying4, rfl, by kernel_rfl⟩) (by kernel_rfl) (hval 1 26 v1 rfl rfl) h1 [3]
  obtain ⟨x1_0, x1_1, x1_2, x1_3, rfl⟩ : ∃ x1_0 x1_1 x1_2 x1_3, xs1 = [x1_0, x1_1, x1_2, x1_3] := by
    match xs1, hl1 with
    | [x1_0, x1_1, x1_2, x1_3], _ => exact ⟨_, _, _, _, rfl⟩
  obtain ⟨n1_0, rfl, e1_0⟩ := (lf1 0 _ _ rfl rfl).int_inv
  obtain ⟨n1_1, rfl⟩ := (lf1 1 _ _ rfl rfl).bool_inv
  obtain ⟨n1_2, rfl⟩ := (lf1 2 _ _ rfl rfl).bool_inv
  obtain ⟨n1_3, rfl⟩ := (lf1 3 _ _ rfl rfl).bool_inv
  have k2 := h2
  have lt2 : ∀ x ∈ p2, x.block < W.heap.size := by obtain ⟨m, hm⟩ := k2; exact DataW.trod_lt m _ _ _ hm
  obtain ⟨a2, len2, cap2, rfl⟩ := okWide_slice Try.underlying94 (hval 2 94 v2 rfl rfl)
  obtain ⟨x2, lf2, m2⟩ := cell_open (lk := .rows [.str] false) (show (LK.rows [.str] false).ok Try.prog 94 from ⟨_, _, Try.underlying94, rfl, Try.underlying9, by kernel_rfl⟩) rfl ⟨94, okWide_cell Try.underlying94 (hval 2 94 _ rfl rfl)⟩ h2 [4]
  obtain ⟨n2, rfl, e2, el2⟩ := lf2.rows_inv
  clear hA0 hval0 hsz0 hsz
  refine (vow_true (law_pictureParts_row n0_0 n0_1 n0_2 n0_3 ⟨n1_0, n1_1, n1_2, n1_3⟩ n2 el0_2 el0_3 e2 el2) W #[v0, v1, (.slice a2 len2 cap2)] rfl ?_).mono fun e W' ⟨he, bel⟩ => ?_
  · intro j x c hx hc
    match j, hx, hc with
    | 0, hx, hc => cases hx; cases hc; exact m0
    | 1, hx, hc => cases hx; cases hc; exact m1
    | 2, hx, hc => cases hx; cases hc; exact m2
  · subst he
    exact ⟨_, rfl, _, _, _, [], _, [], hW', trodAll_mk1 (shut_bool Try.underlying4 _), (trodAll_cons_mk (Below.trod laidOut (by kernel_rfl) (of_decide_eq_true (by kernel_rfl)) k0 bel lt0) (trodAll_cons_mk (Below.trod laidOut (by kernel_rfl) (of_decide_eq_true (by kernel_rfl)) k1 bel lt1) (trodAll_cons_mk (Below.trod laidOut (by kernel_rfl) (of_decide_eq_true (by kernel_rfl)) k2 bel lt2) trodAll_mk0))), rfl, bel.frame _, fun h => by cases h⟩
theorem over : Rows.fnExactPicturePartsRow.holds Try.pinned (OpenSpec.ofChange Rows.fnExactPicturePartsSpec) :=
  OpenClaim.holds_of_wide 10 Try.f10 rfl rfl rfl rfl rfl rfl rfl ⟨rfl, rfl, rfl, rfl, rfl⟩ rfl rfl rfl rfl rfl (by kernel_rfl) Try.func10 (by kernel_rfl)
    (of_decide_eq_true (by kernel_rfl)) (by unfold Func.isWrapper; first | (rw [if_pos (by decide +kernel)]; kernel_rfl) | (rw [if_neg (by decide +kernel)]; exact ⟨rfl, rfl⟩))
    (fun os started H enc _ => lifted os started H enc)
theorem proved : Rows.FnExactPicturePartsSaid := over
#print axioms proved
end Go.Proofs.Ytfcjjkfjdecakaa.fnExactPictureParts
namespace Go.Proofs.Ytfcjjkfjdecakaa
theorem fnExactPictureParts_holds : Rows.FnExactPicturePartsSaid := fnExactPictureParts.proved
end Go.Proofs.Ytfcjjkfjdecakaa
