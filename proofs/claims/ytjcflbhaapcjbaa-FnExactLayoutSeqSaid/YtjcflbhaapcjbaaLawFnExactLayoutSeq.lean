/- The row of FnExactLayoutSeq: the law holds for all that comes in. No condition. -/
import Derived.Test.YtjcflbhaapcjbaaSl
import Derived.Test.YtjcflbhaapcjbaaRows
import Derived.WalkKit
import Derived.ProofKit
import Derived.OpenShut
import Derived.ShutString
import Derived.ChangeOld
import Derived.Below
import Derived.SizedLaws
import Derived.Carry
namespace Go.Proofs.Ytjcflbhaapcjbaa.fnExactLayoutSeq
open Go.ChangeShapes Go.WideShapes Go.ChangeAt Go.RowKit Go.Vx
open Go.ChangeMaps (open_string shut_string)
set_option linter.unusedVariables false
theorem own : ownKnob Try.prog.godebug = none := by kernel_rfl
theorem laidOut : laidOutB Try.prog = true := by kernel_rfl
set_option maxRecDepth 100000 in
theorem lifted (os : Os) (started : os.Started) (H : Type) (enc : TypeId × Value → H) :
    ReturnsInHanded {} Try.checked os 11 .any (Rows.fnExactLayoutSeqSpec.pre6 enc Try.prog Try.f11 Rows.fnExactLayoutSeqRow.domain false) (Rows.fnExactLayoutSeqSpec.post enc Try.prog Try.f11 false true false false) := by
  refine returnsInHanded_of_change_sized (C := Try.checked) own started (by kernel_rfl) Try.func11
    (ChangeSpec.witness6 (enc := enc) (C := Try.checked) false ⟨#[], #[.agg #[.slice none 0 0, .slice none 0 0, .slice none 0 0], .int .i64 0], []⟩ 8 (by kernel_rfl) (by kernel_rfl) (by kernel_rfl) (by kernel_rfl)) ?_
  intro W base args ds gs before hval0 hW hcnd hsz0 _
  have hsz : (DataW.weightsEach Try.prog (Try.f11.params.toList ++ Rows.fnExactLayoutSeqSpec.plain.varTypes Try.prog) (ds ++ gs)).all (· ≤ reachBytes) = true := hsz0
  have hval : ∀ (j : Nat) t v, Try.f11.params[j]? = some t → args[j]? = some v → Value.okWide Try.prog W .any base t v := hval0
  have hW' := hW
  obtain ⟨p, q, hA0, hV, rfl, hfz, hnd⟩ := hW
  have hA : DataW.TrodAll enc Try.prog W 0 (fun _ => true) true Try.f11.params.toList args.toList ds p := hA0
  rw [Try.params11] at hA hval hsz
  obtain ⟨v0, vs0, d0, ds0, p0, q0, hargs, rfl, rfl, h0, r0⟩ := trodAll_cons hA
  obtain ⟨v1, vs1, d1, ds1, p1, q1, rfl, rfl, rfl, h1, r1⟩ := trodAll_cons r0
  obtain ⟨rfl, rfl, rfl⟩ := trodAll_nil r1
  obtain rfl : args = #[v0, v1] := by cases args; simp_all
  obtain ⟨rfl, rfl⟩ := trodVars_none hV
  have k0 := h0
  have lt0 : ∀ x ∈ p0, x.block < W.heap.size := by obtain ⟨m, hm⟩ := k0; exact DataW.trod_lt m _ _ _ hm
  obtain ⟨xs0, hl0, lf0, m0⟩ := struct_open (lks := [.ints .i64, .ints .i64, .ints .i64]) Try.underlying48 rfl (fun j f lk hf hl => match j, hf, hl with | 0, hf, hl => by cases hf; cases hl; exact ⟨⟨3, Try.underlying35, Try.underlying3, by kernel_rfl⟩, rfl, by kernel_rfl⟩ | 1, hf, hl => by cases hf; cases hl; exact ⟨⟨3, Try.underlying35, Try.underlying3, by kernel_rfl⟩, rfl, by kernel_rfl⟩ | 2, hf, hl => by cases hf; cases hl; exact ⟨⟨3, Try.underlying35, Try.underlying3, by kernel_rfl⟩, rfl, by kernel_rfl⟩) (by kernel_rfl) (hval 0 48 v0 rfl rfl) h0 [2]
  obtain ⟨x0_0, x0_1, x0_2, rfl⟩ : ∃ x0_0 x0_1 x0_2, xs0 = [x0_0, x0_1, x0_2] := by
    match xs0, hl0 with
    | [x0_0, x0_1, x0_2], _ => exact ⟨_, _, _, rfl⟩
  obtain ⟨n0_0, rfl, e0_0, el0_0⟩ := (lf0 0 _ _ rfl rfl).ints_inv
  obtain ⟨n0_1, rfl, e0_1, el0_1⟩ := (lf0 1 _ _ rfl rfl).ints_inv
  obtain ⟨n0_2, rfl, e0_2, el0_2⟩ := (lf0 2 _ _ rfl rfl).ints_inv
  obtain ⟨n1, rfl, rfl, rfl, w1⟩ := open_int Try.underlying3 (hval 1 3 v1 rfl rfl) h1
  have e1 := has_of_wf w1
  clear hA0 hval0 hsz0 hsz
  refine (vow_true (law_layoutSeq ⟨n0_0, n0_1, n0_2⟩ n1 ⟨el0_0, el0_1, el0_2⟩) W #[v0, (.int .i64 n1)] rfl ?_).mono fun e W' ⟨he, bel⟩ => ?_
  · intro j x c hx hc
    match j, hx, hc with
    | 0, hx, hc => cases hx; cases hc; exact m0
    | 1, hx, hc => cases hx; cases hc; exact RepS.i_mk _ _ _ _ _
  · subst he
    exact ⟨_, rfl, _, _, _, [], _, [], hW', trodAll_mk1 (shut_bool Try.underlying4 _), (trodAll_cons_mk (Below.trod laidOut (by kernel_rfl) (of_decide_eq_true (by kernel_rfl)) k0 bel lt0) (trodAll_cons_mk (shut_int Try.underlying3 w1) trodAll_mk0)), rfl, bel.frame _, fun h => by cases h⟩
theorem over : Rows.fnExactLayoutSeqRow.holds Try.pinned (OpenSpec.ofChange Rows.fnExactLayoutSeqSpec) :=
  OpenClaim.holds_of_wide 11 Try.f11 rfl rfl rfl rfl rfl rfl rfl ⟨rfl, rfl, rfl, rfl, rfl⟩ rfl rfl rfl rfl rfl (by kernel_rfl) Try.func11 (by kernel_rfl)
    (of_decide_eq_true (by kernel_rfl)) (by unfold Func.isWrapper; first | (rw [if_pos (by decide +kernel)]; kernel_rfl) | (rw [if_neg (by decide +kernel)]; exact ⟨rfl, rfl⟩))
    (fun os started H enc _ => lifted os started H enc)
theorem proved : Rows.FnExactLayoutSeqSaid := over
#print axioms proved
end Go.Proofs.Ytjcflbhaapcjbaa.fnExactLayoutSeq
namespace Go.Proofs.Ytjcflbhaapcjbaa
theorem fnExactLayoutSeq_holds : Rows.FnExactLayoutSeqSaid := fnExactLayoutSeq.proved
end Go.Proofs.Ytjcflbhaapcjbaa
