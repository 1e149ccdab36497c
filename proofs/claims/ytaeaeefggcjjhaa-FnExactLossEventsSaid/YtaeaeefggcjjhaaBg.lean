/- Calm events, and events with losses. Condition: a plan has no more than 1048576 cameras. -/
import Derived.Test.YtaeaeefggcjjhaaBf
namespace Go.Proofs.Ytaeaeefggcjjhaa
open Go Go.Vx
set_option linter.unusedVariables false
set_option linter.unusedSimpArgs false
set_option maxHeartbeats 600000
set_option maxRecDepth 100000


theorem flat_ev (l : List Event) : V.allW 4 (l.map eventV) = true ∧ V.allFlat (l.map eventV) = true := ⟨allW_map (f := eventV) (fun _ => rfl) l, flat_map (f := eventV) (fun _ => rfl) l⟩
def rounds (n : Nat) (w : Bool) : Nat → List Event
  | 0 => []
  | i + 1 => rounds n w i ++ calm n w
theorem rounds_len (n : Nat) (w : Bool) : ∀ i, (rounds n w i).length = i * (n + 2)
  | 0 => by simp [rounds]
  | i + 1 => by rw [rounds, List.length_append, rounds_len n w i, calm_len, Nat.add_mul]; omega
theorem rounds_le {n i : Nat} {w : Bool} (h : n ≤ 1048576) (hi : i ≤ 20) : (rounds n w i).length ≤ 20 * 1048578 := by
  rw [rounds_len]; exact Nat.mul_le_mul hi (by omega)
def calmEvents (n : Nat) (r : Int) : List Event := if 0 ≤ r ∧ r ≤ 20 then rounds n false r.toNat else []
theorem calmEvents_impl (a : PlanD) (r : Int) (h : a.cams.length ≤ 1048576) : Vow Try.prog 23 [planS a, .i .i64 r] (.ow 4 ((calmEvents a.cams.length r).map eventV)) [] := by
  refine vow_of_ev (fn := Try.f23) [] [(0, 0), (6, 7), (7, 9), (10, 11), (0, 0), (0, 0), (14, 18), (18, 19), (19, 20)] tt_ok Try.func23 (by decide) rfl (Nat.le_of_ble_eq_true rfl) rfl rfl rfl ?_
  by_cases hr : 0 ≤ r ∧ r ≤ 20
  · obtain ⟨n, rfl⟩ : ∃ n : Nat, r = n := ⟨r.toNat, by omega⟩
    have hw := within_vow (n : Int) 0 20
    repeat' (conv => whnf); first | refine CallP.rd (hw) rfl rfl rfl rfl ?_ | refine Br.tt ?_ | refine Br.ff ?_ | refine Br.not ?_ | refine Br.dand (fun _ => ?_) (fun _ => ?_) | refine Br.dec (fun _ => ?_) (fun _ => ?_) | refine Br.beq (fun _ => ?_) (fun _ => ?_) | refine Br.bne (fun _ => ?_) (fun _ => ?_) | refine Br.seq (fun _ => ?_) (fun _ => ?_) | refine Elt.i (by omega) ?_ | refine EltN.i (by omega) ?_ | refine Nt.cast ?_ | refine Nt.mk _ rfl ?_ | refine EltN.mk _ rfl ?_ | refine Mx.mk _ rfl ?_ | refine Br.mk (fun _ => ?_) (fun _ => ?_) | refine EndP.mk ?_ trivial | refine EndP.mk ?_ ⟨.inr ⟨List.mem_cons_self .., ?_, rfl⟩, trivial⟩ | refine Ar.i64 (by omega) ?_ | refine Ar.u8 (by omega) ?_ | refine Quo.pos (by omega) ?_ | refine Rem.pos (by omega) ?_ | refine BsP.own ?_ | refine Ob.mk ⟨rfl, rfl⟩ ?_ | refine Ob.mk (flat_i _ _).1 ?_ | refine Ob.mk (flat_i _ _) ?_ | refine Ob.mk (flat_s _) ?_ | refine Ob.mk (by first | omega | (simp; first | done | fail) | (simp; omega)) ?_ | fail
    all_goals try (exfalso; omega)
    conv => whnf
    refine LoopP.mk [2,4,5,11,12] (fun i : Nat => [(2, planB a), (4, .nl), (5, .ow 4 ((rounds a.cams.length false i).map eventV)), (11, .i .i64 n), (12, .i .i64 i)]) (fun i => n - i) (fun i => i ≤ n) ?_ ?_
    · conv => whnf
      exact ⟨0, by omega, rfl⟩
    · intro i hi
      have hl := rounds_le (w := false) h (show i ≤ 20 by omega)
      have hl1 : ((rounds a.cams.length false i).map eventV).length = (rounds a.cams.length false i).length := by simp
      have hl2 := calm_len a.cams.length false
      have hl3 : ((calm a.cams.length false).map eventV).length = a.cams.length + 2 := by simp [hl2]
      by_cases hlt : i < n
      · repeat' (conv => whnf); first | refine CallP.re (calmRound_impl a false h) (by first | with_reducible rfl | (simp only [imm_i, imm_s, imm_b, iO, iS, imm_iO, parV, layV, layO, imm_layO, own_layO, immR_layO, ownR_layO, planV, immR_planV, ownR_planV, planS, planO, imm_planO, own_planO, immR_eventV, ownR_eventV]; first | done | fail)) rfl rfl rfl (by first | rfl | exact own_i _ _ | exact own_s _ | exact own_b _ | (simp [V.noSl, V.noSl.go, own_i, own_s, own_b, iO, iS, imm_iO, parV, layV, layO, imm_layO, own_layO, immR_layO, ownR_layO, planV, immR_planV, ownR_planV, planS, planO, imm_planO, own_planO, immR_eventV, ownR_eventV]; first | done | fail)) ?_ | refine Ob.mk (flat_ev _) ?_ | refine Br.tt ?_ | refine Br.ff ?_ | refine Br.not ?_ | refine Br.dand (fun _ => ?_) (fun _ => ?_) | refine Br.dec (fun _ => ?_) (fun _ => ?_) | refine Br.beq (fun _ => ?_) (fun _ => ?_) | refine Br.bne (fun _ => ?_) (fun _ => ?_) | refine Br.seq (fun _ => ?_) (fun _ => ?_) | refine Elt.i (by omega) ?_ | refine EltN.i (by omega) ?_ | refine Nt.cast ?_ | refine Nt.mk _ rfl ?_ | refine EltN.mk _ rfl ?_ | refine Mx.mk _ rfl ?_ | refine Br.mk (fun _ => ?_) (fun _ => ?_) | refine EndP.mk ?_ trivial | refine EndP.mk ?_ ⟨.inr ⟨List.mem_cons_self .., ?_, rfl⟩, trivial⟩ | refine Ar.i64 (by omega) ?_ | refine Ar.u8 (by omega) ?_ | refine Quo.pos (by omega) ?_ | refine Rem.pos (by omega) ?_ | refine BsP.own ?_ | refine Ob.mk ⟨rfl, rfl⟩ ?_ | refine Ob.mk (flat_i _ _).1 ?_ | refine Ob.mk (flat_i _ _) ?_ | refine Ob.mk (flat_s _) ?_ | refine Ob.mk (by first | omega | (simp; first | done | fail) | (simp; omega)) ?_ | fail
        all_goals first
          | (exfalso; omega)
          | (conv => whnf
             refine ⟨i + 1, by omega, by omega, ?_⟩
             rw [rounds, List.map_append]
             rfl)
      · obtain rfl : i = n := by omega
        repeat' (conv => whnf); first | refine Br.tt ?_ | refine Br.ff ?_ | refine Br.not ?_ | refine Br.dand (fun _ => ?_) (fun _ => ?_) | refine Br.dec (fun _ => ?_) (fun _ => ?_) | refine Br.beq (fun _ => ?_) (fun _ => ?_) | refine Br.bne (fun _ => ?_) (fun _ => ?_) | refine Br.seq (fun _ => ?_) (fun _ => ?_) | refine Elt.i (by omega) ?_ | refine EltN.i (by omega) ?_ | refine Nt.cast ?_ | refine Nt.mk _ rfl ?_ | refine EltN.mk _ rfl ?_ | refine Mx.mk _ rfl ?_ | refine Br.mk (fun _ => ?_) (fun _ => ?_) | refine EndP.mk ?_ trivial | refine EndP.mk ?_ ⟨.inr ⟨List.mem_cons_self .., ?_, rfl⟩, trivial⟩ | refine Ar.i64 (by omega) ?_ | refine Ar.u8 (by omega) ?_ | refine Quo.pos (by omega) ?_ | refine Rem.pos (by omega) ?_ | refine BsP.own ?_ | refine Ob.mk ⟨rfl, rfl⟩ ?_ | refine Ob.mk (flat_i _ _).1 ?_ | refine Ob.mk (flat_i _ _) ?_ | refine Ob.mk (flat_s _) ?_ | refine Ob.mk (by first | omega | (simp; first | done | fail) | (simp; omega)) ?_ | fail
        all_goals first
          | (exfalso; omega)
          | (rw [calmEvents, if_pos hr, Int.toNat_natCast]; rfl)
  · have hw := within_vow r 0 20
    repeat' (conv => whnf); first | refine CallP.rd (hw) rfl rfl rfl rfl ?_ | refine Br.tt ?_ | refine Br.ff ?_ | refine Br.not ?_ | refine Br.dand (fun _ => ?_) (fun _ => ?_) | refine Br.dec (fun _ => ?_) (fun _ => ?_) | refine Br.beq (fun _ => ?_) (fun _ => ?_) | refine Br.bne (fun _ => ?_) (fun _ => ?_) | refine Br.seq (fun _ => ?_) (fun _ => ?_) | refine Elt.i (by omega) ?_ | refine EltN.i (by omega) ?_ | refine Nt.cast ?_ | refine Nt.mk _ rfl ?_ | refine EltN.mk _ rfl ?_ | refine Mx.mk _ rfl ?_ | refine Br.mk (fun _ => ?_) (fun _ => ?_) | refine EndP.mk ?_ trivial | refine EndP.mk ?_ ⟨.inr ⟨List.mem_cons_self .., ?_, rfl⟩, trivial⟩ | refine Ar.i64 (by omega) ?_ | refine Ar.u8 (by omega) ?_ | refine Quo.pos (by omega) ?_ | refine Rem.pos (by omega) ?_ | refine BsP.own ?_ | refine Ob.mk ⟨rfl, rfl⟩ ?_ | refine Ob.mk (flat_i _ _).1 ?_ | refine Ob.mk (flat_i _ _) ?_ | refine Ob.mk (flat_s _) ?_ | refine Ob.mk (by first | omega | (simp; first | done | fail) | (simp; omega)) ?_ | fail
    all_goals first
      | (exfalso; omega)
      | (rw [calmEvents, if_neg hr]; rfl)
theorem calmEvents_spec (a : PlanD) (r : Int) (h : a.cams.length ≤ 1048576) : Vow Try.prog 22 [planS a, .i .i64 r] (.ow 4 ((calmEvents a.cams.length r).map eventV)) [] := by
  refine vow_of_ev (fn := Try.f22) [] [(0, 0), (7, 8), (8, 10), (11, 12), (0, 0), (12, 14), (15, 17), (17, 21), (21, 22)] tt_ok Try.func22 (by decide) rfl (Nat.le_of_ble_eq_true rfl) rfl rfl rfl ?_
  by_cases hr : 0 ≤ r ∧ r ≤ 20
  · obtain ⟨n, rfl⟩ : ∃ n : Nat, r = n := ⟨r.toNat, by omega⟩
    have hw := l01In_vow (n : Int) 0 20
    repeat' (conv => whnf); first | refine CallP.rd (hw) rfl rfl rfl rfl ?_ | refine Br.tt ?_ | refine Br.ff ?_ | refine Br.not ?_ | refine Br.dand (fun _ => ?_) (fun _ => ?_) | refine Br.dec (fun _ => ?_) (fun _ => ?_) | refine Br.beq (fun _ => ?_) (fun _ => ?_) | refine Br.bne (fun _ => ?_) (fun _ => ?_) | refine Br.seq (fun _ => ?_) (fun _ => ?_) | refine Elt.i (by omega) ?_ | refine EltN.i (by omega) ?_ | refine Nt.cast ?_ | refine Nt.mk _ rfl ?_ | refine EltN.mk _ rfl ?_ | refine Mx.mk _ rfl ?_ | refine Br.mk (fun _ => ?_) (fun _ => ?_) | refine EndP.mk ?_ trivial | refine EndP.mk ?_ ⟨.inr ⟨List.mem_cons_self .., ?_, rfl⟩, trivial⟩ | refine Ar.i64 (by omega) ?_ | refine Ar.u8 (by omega) ?_ | refine Quo.pos (by omega) ?_ | refine Rem.pos (by omega) ?_ | refine BsP.own ?_ | refine Ob.mk ⟨rfl, rfl⟩ ?_ | refine Ob.mk (flat_i _ _).1 ?_ | refine Ob.mk (flat_i _ _) ?_ | refine Ob.mk (flat_s _) ?_ | refine Ob.mk (by first | omega | (simp; first | done | fail) | (simp; omega)) ?_ | fail
    all_goals try (exfalso; omega)
    conv => whnf
    refine LoopP.mk [1,2,4,5,6] (fun i : Nat => [(1, .i .i64 n), (2, planB a), (4, .nl), (5, .ow 4 ((rounds a.cams.length false i).map eventV)), (6, .i .i64 i)]) (fun i => n - i) (fun i => i ≤ n) ?_ ?_
    · conv => whnf
      exact ⟨0, by omega, rfl⟩
    · intro i hi
      have hl := rounds_le (w := false) h (show i ≤ 20 by omega)
      have hl1 : ((rounds a.cams.length false i).map eventV).length = (rounds a.cams.length false i).length := by simp
      have hl2 := calm_len a.cams.length false
      have hl3 : ((calm a.cams.length false).map eventV).length = a.cams.length + 2 := by simp [hl2]
      by_cases hlt : i < n
      · repeat' (conv => whnf); first | refine CallP.re (calmRound_spec a false h) (by first | with_reducible rfl | (simp only [imm_i, imm_s, imm_b, iO, iS, imm_iO, parV, layV, layO, imm_layO, own_layO, immR_layO, ownR_layO, planV, immR_planV, ownR_planV, planS, planO, imm_planO, own_planO, immR_eventV, ownR_eventV]; first | done | fail)) rfl rfl rfl (by first | rfl | exact own_i _ _ | exact own_s _ | exact own_b _ | (simp [V.noSl, V.noSl.go, own_i, own_s, own_b, iO, iS, imm_iO, parV, layV, layO, imm_layO, own_layO, immR_layO, ownR_layO, planV, immR_planV, ownR_planV, planS, planO, imm_planO, own_planO, immR_eventV, ownR_eventV]; first | done | fail)) ?_ | refine Ob.mk (flat_ev _) ?_ | refine Br.tt ?_ | refine Br.ff ?_ | refine Br.not ?_ | refine Br.dand (fun _ => ?_) (fun _ => ?_) | refine Br.dec (fun _ => ?_) (fun _ => ?_) | refine Br.beq (fun _ => ?_) (fun _ => ?_) | refine Br.bne (fun _ => ?_) (fun _ => ?_) | refine Br.seq (fun _ => ?_) (fun _ => ?_) | refine Elt.i (by omega) ?_ | refine EltN.i (by omega) ?_ | refine Nt.cast ?_ | refine Nt.mk _ rfl ?_ | refine EltN.mk _ rfl ?_ | refine Mx.mk _ rfl ?_ | refine Br.mk (fun _ => ?_) (fun _ => ?_) | refine EndP.mk ?_ trivial | refine EndP.mk ?_ ⟨.inr ⟨List.mem_cons_self .., ?_, rfl⟩, trivial⟩ | refine Ar.i64 (by omega) ?_ | refine Ar.u8 (by omega) ?_ | refine Quo.pos (by omega) ?_ | refine Rem.pos (by omega) ?_ | refine BsP.own ?_ | refine Ob.mk ⟨rfl, rfl⟩ ?_ | refine Ob.mk (flat_i _ _).1 ?_ | refine Ob.mk (flat_i _ _) ?_ | refine Ob.mk (flat_s _) ?_ | refine Ob.mk (by first | omega | (simp; first | done | fail) | (simp; omega)) ?_ | fail
        all_goals first
          | (exfalso; omega)
          | (conv => whnf
             refine ⟨i + 1, by omega, by omega, ?_⟩
             rw [rounds, List.map_append]
             rfl)
      · obtain rfl : i = n := by omega
        repeat' (conv => whnf); first | refine Br.tt ?_ | refine Br.ff ?_ | refine Br.not ?_ | refine Br.dand (fun _ => ?_) (fun _ => ?_) | refine Br.dec (fun _ => ?_) (fun _ => ?_) | refine Br.beq (fun _ => ?_) (fun _ => ?_) | refine Br.bne (fun _ => ?_) (fun _ => ?_) | refine Br.seq (fun _ => ?_) (fun _ => ?_) | refine Elt.i (by omega) ?_ | refine EltN.i (by omega) ?_ | refine Nt.cast ?_ | refine Nt.mk _ rfl ?_ | refine EltN.mk _ rfl ?_ | refine Mx.mk _ rfl ?_ | refine Br.mk (fun _ => ?_) (fun _ => ?_) | refine EndP.mk ?_ trivial | refine EndP.mk ?_ ⟨.inr ⟨List.mem_cons_self .., ?_, rfl⟩, trivial⟩ | refine Ar.i64 (by omega) ?_ | refine Ar.u8 (by omega) ?_ | refine Quo.pos (by omega) ?_ | refine Rem.pos (by omega) ?_ | refine BsP.own ?_ | refine Ob.mk ⟨rfl, rfl⟩ ?_ | refine Ob.mk (flat_i _ _).1 ?_ | refine Ob.mk (flat_i _ _) ?_ | refine Ob.mk (flat_s _) ?_ | refine Ob.mk (by first | omega | (simp; first | done | fail) | (simp; omega)) ?_ | fail
        all_goals first
          | (exfalso; omega)
          | (rw [calmEvents, if_pos hr, Int.toNat_natCast]; rfl)
  · have hw := l01In_vow r 0 20
    repeat' (conv => whnf); first | refine CallP.rd (hw) rfl rfl rfl rfl ?_ | refine Br.tt ?_ | refine Br.ff ?_ | refine Br.not ?_ | refine Br.dand (fun _ => ?_) (fun _ => ?_) | refine Br.dec (fun _ => ?_) (fun _ => ?_) | refine Br.beq (fun _ => ?_) (fun _ => ?_) | refine Br.bne (fun _ => ?_) (fun _ => ?_) | refine Br.seq (fun _ => ?_) (fun _ => ?_) | refine Elt.i (by omega) ?_ | refine EltN.i (by omega) ?_ | refine Nt.cast ?_ | refine Nt.mk _ rfl ?_ | refine EltN.mk _ rfl ?_ | refine Mx.mk _ rfl ?_ | refine Br.mk (fun _ => ?_) (fun _ => ?_) | refine EndP.mk ?_ trivial | refine EndP.mk ?_ ⟨.inr ⟨List.mem_cons_self .., ?_, rfl⟩, trivial⟩ | refine Ar.i64 (by omega) ?_ | refine Ar.u8 (by omega) ?_ | refine Quo.pos (by omega) ?_ | refine Rem.pos (by omega) ?_ | refine BsP.own ?_ | refine Ob.mk ⟨rfl, rfl⟩ ?_ | refine Ob.mk (flat_i _ _).1 ?_ | refine Ob.mk (flat_i _ _) ?_ | refine Ob.mk (flat_s _) ?_ | refine Ob.mk (by first | omega | (simp; first | done | fail) | (simp; omega)) ?_ | fail
    all_goals first
      | (exfalso; omega)
      | (rw [calmEvents, if_neg hr]; rfl)
end Go.Proofs.Ytaeaeefggcjjhaa
