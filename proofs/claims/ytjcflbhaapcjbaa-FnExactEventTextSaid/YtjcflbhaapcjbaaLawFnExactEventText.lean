/- The row of FnExactEventText: the law holds for all that comes in. No condition. -/
import Derived.Test.YtjcflbhaapcjbaaSd
import Derived.Test.YtjcflbhaapcjbaaRows
import Derived.WalkKit
import Derived.ProofKit
import Derived.OpenShut
import Derived.ShutString
import Derived.ChangeOld
import Derived.Below
import Derived.SizedLaws
import Derived.Carry
namespace Go.Proofs.Ytjcflbhaapcjbaa.fnExactEventText
open Go.ChangeShapes Go.WideShapes Go.ChangeAt Go.RowKit Go.Vx
open Go.ChangeMaps (open_string shut_string)
set_option linter.unusedVariables false
theorem own : ownKnob Try.prog.godebug = none := by kernel_rfl
theorem laidOut : laidOutB Try.prog = true := by kernel_rfl
set_option maxRecDepth 100000 in
theorem lifted (os : Os) (started : os.Started) (H : Type) (enc : TypeId × Value → H) :
    ReturnsInHanded {} Try.checked os 6 .any (Rows.fnExactEventTextSpec.pre6 enc Try.prog Try.f6 Rows.fnExactEventTextRow.domain false) (Rows.fnExactEventTextSpec.post enc Try.prog Try.f6 false true false false) := by
  refine returnsInHanded_of_change_sized (C := Try.checked) own started (by kernel_rfl) Try.func6
    (ChangeSpec.witness6 (enc := enc) (C := Try.checked) false ⟨#[], #[.agg #[.int .i64 0, .int .i64 0, .int .i64 0, .int .i64 0]], []⟩ 8 (by kernel_rfl) (by kernel_rfl) (by kernel_rfl) (by kernel_rfl)) ?_
  intro W base args ds gs before hval0 hW hcnd hsz0 _
  have hsz : (DataW.weightsEach Try.prog (Try.f6.params.toList ++ Rows.fnExactEventTextSpec.plain.varTypes Try.prog) (ds ++ gs)).all (· ≤ reachBytes) = true := hsz0
  have hval : ∀ (j : Nat) t v, Try.f6.params[j]? = some t → args[j]? = some v → Value.okWide Try.prog W .any base t v := hval0
  have hW' := hW
  obtain ⟨p, q, hA0, hV, rfl, hfz, hnd⟩ := hW
  have hA : DataW.TrodAll enc Try.prog W 0 (fun _ => true) true Try.f6.params.toList args.toList ds p := hA0
  rw [Try.params6] at hA hval hsz
  obtain ⟨v0, vs0, d0, ds0, p0, q0, hargs, rfl, rfl, h0, r0⟩ := trodAll_cons hA
  obtain ⟨rfl, rfl, rfl⟩ := trodAll_nil r0
  obtain rfl : args = #[v0] := by cases args; simp_all
  obtain ⟨rfl, rfl⟩ := trodVars_none hV
  have k0 := h0
  have lt0 : ∀ x ∈ p0, x.block < W.heap.size := by obtain ⟨m, hm⟩ := k0; exact DataW.trod_lt m _ _ _ hm
  obtain ⟨xs0, hl0, lf0, m0⟩ := struct_open (lks := [.int .i64, .int .i64, .int .i64, .int .i64]) Try.underlying41 rfl (fun j f lk hf hl => match j, hf, hl with | 0, hf, hl => by cases hf; cases hl; exact ⟨Try.underlying3, rfl, by kernel_rfl⟩ | 1, hf, hl => by cases hf; cases hl; exact ⟨Try.underlying3, rfl, by kernel_rfl⟩ | 2, hf, hl => by cases hf; cases hl; exact ⟨Try.underlying3, rfl, by kernel_rfl⟩ | 3, hf, hl => by cases hf; cases hl; exact ⟨Try.underlying3, rfl, by kernel_rfl⟩) (by kernel_rfl) (hval 0 41 v0 rfl rfl) h0 [2]
  obtain ⟨x0_0, x0_1, x0_2, x0_3, rfl⟩ : ∃ x0_0 x0_1 x0_2 x0_3, xs0 = [x0_0, x0_1, x0_2, x0_3] := by
    match xs0, hl0 with
    | [x0_0, x0_1, x0_2, x0_3], _ => exact ⟨_, _, _, _, rfl⟩
  obtain ⟨n0_0, rfl, e0_0⟩ := (lf0 0 _ _ rfl rfl).int_inv
  obtain ⟨n0_1, rfl, e0_1⟩ := (lf0 1 _ _ rfl rfl).int_inv
  obtain ⟨n0_2, rfl, e0_2⟩ := (lf0 2 _ _ rfl rfl).int_inv
  obtain ⟨n0_3, rfl, e0_3⟩ := (lf0 3 _ _ rfl rfl).int_inv
  clear hA0 hval0 hsz0 hsz
  refine (vow_true (law_eventText ⟨n0_0, n0_1, n0_2, n0_3⟩ ⟨e0_0, e0_1, e0_2, e0_3⟩) W #[v0] rfl ?_).mono fun e W' ⟨he, bel⟩ => ?_
  · intro j x c hx hc
    match j, hx, hc with
    | 0, hx, hc => cases hx; cases hc; exact m0
  · subst he
    exact ⟨_, rfl, _, _, _, [], _, [], hW', trodAll_mk1 (shut_bool Try.underlying4 _), (trodAll_cons_mk (Below.trod laidOut (by kernel_rfl) (of_decide_eq_true (by kernel_rfl)) k0 bel lt0) trodAll_mk0), rfl, bel.frame _, fun h => by cases h⟩
theorem over : Rows.fnExactEventTextRow.holds Try.pinned (OpenSpec.ofChange Rows.fnExactEventTextSpec) :=
  OpenClaim.holds_of_wide 6 Try.f6 rfl rfl rfl rfl rfl rfl rfl ⟨rfl, rfl, rfl, rfl, rfl⟩ rfl rfl rfl rfl rfl (by kernel_rfl) Try.func6 (by kernel_rfl)
    (of_decide_eq_true (by kernel_rfl)) (by unfold Func.isWrapper; first | (rw [if_pos (by decide +kernel)]; kernel_rfl) | (rw [if_neg (by decide +kernel)]; exact ⟨rfl, rfl⟩))
    (fun os started H enc _ => lifted os started H enc)
theorem proved : Rows.FnExactEventTextSaid := over
#print axioms proved
end Go.Proofs.Ytjcflbhaapcjbaa.fnExactEventText
namespace Go.Proofs.Ytjcflbhaapcjbaa
theorem fnExactEventText_holds : Rows.FnExactEventTextSaid := fnExactEventText.proved
end Go.Proofs.Ytjcflbhaapcjbaa
