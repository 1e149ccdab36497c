/- The set of a layout. No condition. -/
import Derived.Test.YtafipjhalboefaaSi
namespace Go.Proofs.Ytafipjhalboefaa
open Go Go.Vx
set_option linter.unusedVariables false
set_option linter.unusedSimpArgs false
set_option maxHeartbeats 600000
set_option maxRecDepth 100000

def seqO (lvl bits : Int) (c r : List Int) : V := .ag [.i .i64 lvl, .i .i64 bits, iO c, iO r]
def seqN : V := .ag [.i .i64 0, .i .i64 0, .nl, .nl]

def seqFine (l : Layout) (bits : Int) : Prop := layoutOk l ∧ 3 ≤ bits ∧ bits ≤ 8
instance (l : Layout) (bits : Int) : Decidable (seqFine l bits) := by unfold seqFine; infer_instance

theorem sides_len {l : Layout} (h : layoutOk l) : l.cols.length ≤ 17592186044416 ∧ l.rows.length ≤ 17592186044416 := by
  obtain ⟨k1, k2⟩ := levelFor_sides h.1
  have a1 := k1.1
  have a2 := k2.1
  omega

theorem eqSeq_vow (v1 b1 v2 b2 : Int) (c1 r1 c2 r2 : List Int) (h1 : c1.length ≤ 17592186044416) (h2 : r1.length ≤ 17592186044416) (h3 : c2.length ≤ 17592186044416) (h4 : r2.length ≤ 17592186044416) :
    Vow Try.prog 65 [seqV v1 b1 c1 r1, seqV v2 b2 c2 r2] (.b (decide (v1 = v2 ∧ b1 = b2 ∧ c1 = c2 ∧ r1 = r2))) [] := by
  refine vow_of_ev (fn := Try.f65) [] [(0, 0), (5, 9), (0, 0), (10, 14), (0, 0), (15, 20), (0, 0), (21, 26), (0, 0), (0, 0)] tt_ok Try.func65 (by decide) rfl (Nat.le_of_ble_eq_true rfl) rfl rfl rfl ?_
  repeat' (conv => whnf); first | refine CallP.rd (eqIntS_vow c1 c2 h1 h3) rfl rfl rfl rfl ?_ | refine CallP.rd (eqIntS_vow r1 r2 h2 h4) rfl rfl rfl rfl ?_ | refine Br.tt ?_ | refine Br.ff ?_ | refine Br.not ?_ | refine Br.dand (fun _ => ?_) (fun _ => ?_) | refine Br.dec (fun _ => ?_) (fun _ => ?_) | refine Br.beq (fun _ => ?_) (fun _ => ?_) | refine Br.bne (fun _ => ?_) (fun _ => ?_) | refine Br.seq (fun _ => ?_) (fun _ => ?_) | refine Elt.i (by omega) ?_ | refine EltN.i (by omega) ?_ | refine Nt.cast ?_ | refine Nt.mk _ rfl ?_ | refine EltN.mk _ rfl ?_ | refine Mx.mk _ rfl ?_ | refine Br.mk (fun _ => ?_) (fun _ => ?_) | refine EndP.mk ?_ trivial | refine EndP.mk ?_ ⟨.inr ⟨List.mem_cons_self .., ?_, rfl⟩, trivial⟩ | refine Ar.i64 (by omega) ?_ | refine Ar.u8 (by omega) ?_ | refine Quo.pos (by omega) ?_ | refine Rem.pos (by omega) ?_ | refine BsP.own ?_ | refine SetN.two ?_ | refine SetN.one ?_ | refine Ob.mk ⟨rfl, rfl⟩ ?_ | refine Ob.mk (flat_i _ _).1 ?_ | refine Ob.mk (flat_i _ _) ?_ | refine Ob.mk (flat_s _) ?_ | refine Ob.mk (by first | omega | (simp; first | done | fail) | (simp; omega)) ?_ | fail
  all_goals simp_all [resOf]

def heldS (c r : List Int) (k : Int) : Int := if held c k < 0 then -1 else if held r (held c k) < 0 then -1 else held r (held c k)
theorem held_fit (c : List Int) (k : Int) (hk : 0 ≤ k) (hc : c.length ≤ 17592186044416) : held c k = -1 ∨ (0 ≤ held c k ∧ held c k ≤ k + 17592186044416) := by
  unfold held; split <;> omega
theorem held_mark (n : Nat) (k : Int) : held (markL n k) k = k + n := by unfold held; rw [markL_len, if_pos rfl]
theorem heldS_mark (n m : Nat) (k : Int) (hk : 0 ≤ k) : heldS (markL n k) (markL m (k + n)) k = k + n + m := by
  unfold heldS
  rw [held_mark, held_mark, if_neg (by omega), if_neg (by omega)]
theorem heldS_nil (k : Int) (hk : 0 ≤ k) : heldS [] [] k = k := by
  have := heldS_mark 0 0 k hk
  simpa [markL] using this

theorem eqSeq_nil : Vow Try.prog 65 [.ag [.i .i64 0, .i .i64 0, .sl [], .sl []], .ag [.i .i64 0, .i .i64 0, .sl [], .sl []]] (.b true) [] := by
  have h := eqSeq_vow 0 0 0 0 [] [] [] [] (by decide) (by decide) (by decide) (by decide)
  exact h
end Go.Proofs.Ytafipjhalboefaa
