/- The law of a script of events. No condition. -/
import Derived.Test.YtffphhklnbfedaaSr
namespace Go.Proofs.Ytffphhklnbfedaa
open Go Go.Vx
set_option linter.unusedVariables false
set_option linter.unusedSimpArgs false
set_option maxHeartbeats 600000
set_option maxRecDepth 100000

theorem scan_len {ls : List (List UInt8)} : ∀ (f i : Nat) (out : List Event), (scan ls f i out).1.length ≤ 60
  | 0, i, out => by
    simp only [scan]; split
    · simp
    · simp; omega
  | f + 1, i, out => by
    simp only [scan]
    split
    · exact scan_len f _ _
    · split
      · exact scan_len f _ _
      · simp
theorem readScript_len (t : List UInt8) : (readScript t).1.length ≤ 60 := by
  unfold readScript
  split
  · simp
  · exact scan_len _ _ _

set_option maxHeartbeats 6000000 in
theorem law_readScript (t : List UInt8) : Vow Try.prog 8 [.s t] (.b true) [] := by
  have hl := readScript_len t
  have hq := heldE_mark (readScript t).1.length 1
  have m1 : (markE (readScript t).1.length 1).length ≤ 17592186044416 := by rw [markE_len]; omega
  refine vow_of_ev (fn := Try.f8) [] [(0, 0), (14, 16), (0, 0), (17, 23), (23, 29), (29, 42), (0, 0), (0, 0), (43, 46), (0, 0), (46, 49), (49, 50), (0, 0), (51, 53), (0, 0), (54, 60), (60, 73), (0, 0), (0, 0), (74, 77), (77, 78), (0, 0), (79, 81), (0, 0), (0, 0)] tt_ok Try.func8 (by decide) rfl (Nat.le_of_ble_eq_true rfl) rfl rfl rfl ?_
  repeat' (conv => whnf); first | refine CallP.re (readScript_spec t) (by first | with_reducible rfl | (simp only [imm_i, imm_s, imm_b, wV, evS, evO, own_ev, imm_ev]; first | done | fail)) rfl rfl rfl (by first | rfl | exact own_i _ _ | exact own_s _ | exact own_b _ | (simp [V.noSl, V.noSl.go, own_i, own_s, own_b, wV, evS, evO, own_ev, imm_ev]; first | done | fail)) ?_ | refine DCall.re (readScript_spec t) (by first | with_reducible rfl | (simp only [imm_i, imm_s, imm_b, wV, evS, evO, own_ev, imm_ev]; first | done | fail)) rfl (by first | rfl | exact own_i _ _ | exact own_s _ | exact own_b _ | (simp [V.noSl, V.noSl.go, own_i, own_s, own_b, wV, evS, evO, own_ev, imm_ev]; first | done | fail)) ?_ | refine CallP.re (readScript_impl t) (by first | with_reducible rfl | (simp only [imm_i, imm_s, imm_b, wV, evS, evO, own_ev, imm_ev]; first | done | fail)) rfl rfl rfl (by first | rfl | exact own_i _ _ | exact own_s _ | exact own_b _ | (simp [V.noSl, V.noSl.go, own_i, own_s, own_b, wV, evS, evO, own_ev, imm_ev]; first | done | fail)) ?_ | refine DCall.re (readScript_impl t) (by first | with_reducible rfl | (simp only [imm_i, imm_s, imm_b, wV, evS, evO, own_ev, imm_ev]; first | done | fail)) rfl (by first | rfl | exact own_i _ _ | exact own_s _ | exact own_b _ | (simp [V.noSl, V.noSl.go, own_i, own_s, own_b, wV, evS, evO, own_ev, imm_ev]; first | done | fail)) ?_ | refine CallP.re (eqEventS_vow (readScript t).1 (readScript t).1 (by omega) (by omega)) (by first | with_reducible rfl | (simp only [imm_i, imm_s, imm_b, wV, evS, evO, own_ev, imm_ev]; first | done | fail)) rfl rfl rfl (by first | rfl | exact own_i _ _ | exact own_s _ | exact own_b _ | (simp [V.noSl, V.noSl.go, own_i, own_s, own_b, wV, evS, evO, own_ev, imm_ev]; first | done | fail)) ?_ | refine DCall.re (eqEventS_vow (readScript t).1 (readScript t).1 (by omega) (by omega)) (by first | with_reducible rfl | (simp only [imm_i, imm_s, imm_b, wV, evS, evO, own_ev, imm_ev]; first | done | fail)) rfl (by first | rfl | exact own_i _ _ | exact own_s _ | exact own_b _ | (simp [V.noSl, V.noSl.go, own_i, own_s, own_b, wV, evS, evO, own_ev, imm_ev]; first | done | fail)) ?_ | refine CallP.re (heldEventS_vow (markE (readScript t).1.length 1) 1 m1 (by omega)) (by first | with_reducible rfl | (simp only [imm_i, imm_s, imm_b, wV, evS, evO, own_ev, imm_ev]; first | done | fail)) rfl rfl rfl (by first | rfl | exact own_i _ _ | exact own_s _ | exact own_b _ | (simp [V.noSl, V.noSl.go, own_i, own_s, own_b, wV, evS, evO, own_ev, imm_ev]; first | done | fail)) ?_ | refine DCall.re (heldEventS_vow (markE (readScript t).1.length 1) 1 m1 (by omega)) (by first | with_reducible rfl | (simp only [imm_i, imm_s, imm_b, wV, evS, evO, own_ev, imm_ev]; first | done | fail)) rfl (by first | rfl | exact own_i _ _ | exact own_s _ | exact own_b _ | (simp [V.noSl, V.noSl.go, own_i, own_s, own_b, wV, evS, evO, own_ev, imm_ev]; first | done | fail)) ?_ | refine CallP.ho [([27, 0], [2])] (markEventS_vow (readScript t).1 1 (by omega) (by omega)) rfl rfl ?_ | refine Br.tt ?_ | refine Br.ff ?_ | refine Br.not ?_ | refine Br.dand (fun _ => ?_) (fun _ => ?_) | refine Br.dec (fun _ => ?_) (fun _ => ?_) | refine Br.beq (fun _ => ?_) (fun _ => ?_) | refine Br.bne (fun _ => ?_) (fun _ => ?_) | refine Br.seq (fun _ => ?_) (fun _ => ?_) | refine Elt.i (by omega) ?_ | refine EltN.i (by omega) ?_ | refine Nt.cast ?_ | refine Nt.mk _ rfl ?_ | refine EltN.mk _ rfl ?_ | refine Mx.mk _ rfl ?_ | refine Br.mk (fun _ => ?_) (fun _ => ?_) | refine EndP.mk ?_ trivial | refine EndP.mk ?_ ⟨.inr ⟨List.mem_cons_self .., ?_, rfl⟩, trivial⟩ | refine Ar.i64 (by omega) ?_ | refine Ar.u8 (by omega) ?_ | refine Quo.pos (by omega) ?_ | refine Rem.pos (by omega) ?_ | refine Ob.mk ⟨rfl, rfl⟩ ?_ | refine Ob.mk (flat_i _ _).1 ?_ | refine Ob.mk (flat_i _ _) ?_ | refine Ob.mk (flat_s _) ?_ | refine Ob.mk (by first | omega | (simp; first | done | fail) | (simp; omega)) ?_ | fail
  all_goals (conv => whnf)
  all_goals first | rfl | omega | (exfalso; simp_all; first | done | fail)
end Go.Proofs.Ytffphhklnbfedaa
