/- Events with losses. Condition: a plan has no more than 1048576 cameras. -/
import Derived.Test.YtaeaeefggcjjhaaBg
namespace Go.Proofs.Ytaeaeefggcjjhaa
open Go Go.Vx
set_option linter.unusedVariables false
set_option linter.unusedSimpArgs false
set_option maxHeartbeats 600000
set_option maxRecDepth 100000


def lostBit (m : Int) (j : Nat) : Int := IntKind.i64.wrap (BitVec.ofInt IntKind.i64.bits (m.fdiv (2 ^ min (7 - (j : Int)).toNat IntKind.i64.bits)) &&& BitVec.ofInt IntKind.i64.bits 1).toNat
def loses (m : Int) : Nat → List Event
  | 0 => []
  | j + 1 => if lostBit m j = 1 then loses m j ++ [⟨4, 7 - (j : Int), 0, 0⟩] else loses m j
theorem loses_len (m : Int) : ∀ j, (loses m j).length ≤ j
  | 0 => by simp [loses]
  | j + 1 => by
    have := loses_len m j
    unfold loses
    split
    · simp; omega
    · omega
def lossHead (n : Nat) (who m : Int) (j : Nat) : List Event := rounds n false 2 ++ [⟨1, who, 0, 0⟩] ++ loses m j
def lossMid (n : Nat) (who m : Int) (i : Nat) : List Event := lossHead n who m 8 ++ [⟨7, 0, 0, 0⟩, ⟨8, 0, 0, 0⟩] ++ rounds n true i
def lossOk (n : Nat) (who m r : Int) : Prop := (0 ≤ who ∧ who < n) ∧ (0 ≤ m ∧ m ≤ 255) ∧ (0 ≤ r ∧ r ≤ 20)
instance (n : Nat) (who m r : Int) : Decidable (lossOk n who m r) := by unfold lossOk; infer_instance
def lossEvents (n : Nat) (who m r : Int) : List Event := if lossOk n who m r then lossMid n who m r.toNat else []
theorem lossHead_len {n : Nat} (h : n ≤ 1048576) (who m : Int) (j : Nat) : (lossHead n who m j).length ≤ 20971561 + j := by
  have h1 := rounds_le (w := false) h (show 2 ≤ 20 by omega)
  have h2 := loses_len m j
  simp only [lossHead, List.length_append, List.length_cons, List.length_nil]
  omega
theorem lossMid_len {n : Nat} (h : n ≤ 1048576) (who m : Int) {i : Nat} (hi : i ≤ 20) : (lossMid n who m i).length ≤ 60000000 := by
  have h1 := rounds_le (w := true) h hi
  have h2 := lossHead_len h who m 8
  simp only [lossMid, List.length_append, List.length_cons, List.length_nil]
  omega

set_option maxHeartbeats 8000000 in
theorem loss_impl (a : PlanD) (who m r : Int) (h : a.cams.length ≤ 1048576) : Vow Try.prog 25 [planS a, .i .i64 who, .i .i64 m, .i .i64 r] (.ow 4 ((lossEvents a.cams.length who m r).map eventV)) [] := by
  have hm : (a.cams.map planV).length = a.cams.length := by simp
  have w1 := within_vow who 0 ((a.cams.length : Nat) - 1)
  rw [← hm] at w1
  have w2 := within_vow m 0 255
  have w3 := within_vow r 0 20
  refine vow_of_ev (fn := Try.f25) [] [(0, 0), (11, 27), (28, 29), (29, 35), (0, 0), (35, 36), (37, 39), (39, 43), (44, 49), (49, 54), (0, 0), (0, 0), (57, 61), (61, 62), (62, 63)] tt_ok Try.func25 (by decide) rfl (Nat.le_of_ble_eq_true rfl) rfl rfl rfl ?_
  by_cases hr : lossOk a.cams.length who m r
  · have hr' := hr
    obtain ⟨hr1, hr2, hr3⟩ := hr'
    obtain ⟨n, rfl⟩ : ∃ n : Nat, r = n := ⟨r.toNat, by omega⟩
    have c1 := calmEvents_impl a 2 h
    rw [show calmEvents a.cams.length 2 = rounds a.cams.length false 2 from rfl] at c1
    have hl1 := rounds_le (w := false) h (show 2 ≤ 20 by omega)
    have hl2 : ((rounds a.cams.length false 2).map eventV).length = (rounds a.cams.length false 2).length := by simp
    obtain ⟨R, hR⟩ : ∃ R, R = rounds a.cams.length false 2 := ⟨_, rfl⟩
    rw [← hR] at c1 hl1 hl2
    repeat' (conv => whnf); first | refine CallP.rd (w1) rfl rfl rfl rfl ?_ | refine DCall.rd (w1) rfl rfl ?_ | refine CallP.rd (w2) rfl rfl rfl rfl ?_ | refine DCall.rd (w2) rfl rfl ?_ | refine CallP.rd (w3) rfl rfl rfl rfl ?_ | refine DCall.rd (w3) rfl rfl ?_ | refine CallP.re (c1) (by first | with_reducible rfl | (simp only [imm_i, imm_s, imm_b, iO, iS, imm_iO, parV, layV, layO, imm_layO, own_layO, immR_layO, ownR_layO, planV, immR_planV, ownR_planV, planS, planO, imm_planO, own_planO, immR_eventV, ownR_eventV]; first | done | fail)) rfl rfl rfl (by first | rfl | exact own_i _ _ | exact own_s _ | exact own_b _ | (simp [V.noSl, V.noSl.go, own_i, own_s, own_b, iO, iS, imm_iO, parV, layV, layO, imm_layO, own_layO, immR_layO, ownR_layO, planV, immR_planV, ownR_planV, planS, planO, imm_planO, own_planO, immR_eventV, ownR_eventV]; first | done | fail)) ?_ | refine DCall.re (c1) (by first | with_reducible rfl | (simp only [imm_i, imm_s, imm_b, iO, iS, imm_iO, parV, layV, layO, imm_layO, own_layO, immR_layO, ownR_layO, planV, immR_planV, ownR_planV, planS, planO, imm_planO, own_planO, immR_eventV, ownR_eventV]; first | done | fail)) rfl (by first | rfl | exact own_i _ _ | exact own_s _ | exact own_b _ | (simp [V.noSl, V.noSl.go, own_i, own_s, own_b, iO, iS, imm_iO, parV, layV, layO, imm_layO, own_layO, immR_layO, ownR_layO, planV, immR_planV, ownR_planV, planS, planO, imm_planO, own_planO, immR_eventV, ownR_eventV]; first | done | fail)) ?_ | refine Br.tt ?_ | refine Br.ff ?_ | refine Br.not ?_ | refine Br.dand (fun _ => ?_) (fun _ => ?_) | refine Br.dec (fun _ => ?_) (fun _ => ?_) | refine Br.beq (fun _ => ?_) (fun _ => ?_) | refine Br.bne (fun _ => ?_) (fun _ => ?_) | refine Br.seq (fun _ => ?_) (fun _ => ?_) | refine Elt.i (by omega) ?_ | refine EltN.i (by omega) ?_ | refine Nt.cast ?_ | refine Nt.mk _ rfl ?_ | refine EltN.mk _ rfl ?_ | refine Mx.mk _ rfl ?_ | refine Br.mk (fun _ => ?_) (fun _ => ?_) | refine EndP.mk ?_ trivial | refine EndP.mk ?_ ⟨.inr ⟨List.mem_cons_self .., ?_, rfl⟩, trivial⟩ | refine Ar.i64 (by omega) ?_ | refine Ar.u8 (by omega) ?_ | refine Quo.pos (by omega) ?_ | refine Rem.pos (by omega) ?_ | refine BsP.own ?_ | refine Ob.mk ⟨rfl, rfl⟩ ?_ | refine Ob.mk (flat_i _ _).1 ?_ | refine Ob.mk (flat_i _ _) ?_ | refine Ob.mk (flat_s _) ?_ | refine Ob.mk (by first | omega | (simp; first | done | fail) | (simp; omega)) ?_ | fail
    all_goals try (exfalso; omega)
    all_goals (conv => whnf)
    refine LoopP.mk [2,3,4,8,9,10] (fun j : Nat => [(2, .i .i64 m), (3, .i .i64 n), (4, planB a), (8, .nl), (9, .ow 4 ((lossHead a.cams.length who m j).map eventV)), (10, .i .i64 (7 - (j : Nat)))]) (fun j => 8 - j) (fun j => j ≤ 8) ?_ ?_
    · conv => whnf
      refine ⟨0, by omega, ?_⟩
      rw [show (lossHead a.cams.length who m 0).map eventV = R.map eventV ++ [.ag [.i .i64 1, .i .i64 who, .i .i64 0, .i .i64 0]] by simp [lossHead, loses, hR, eventV, rounds]]
      rfl
    · intro j hj
      have hh := lossHead_len h who m j
      have hh2 : ((lossHead a.cams.length who m j).map eventV).length = (lossHead a.cams.length who m j).length := by simp
      by_cases hj8 : j < 8
      · have hs : (lossHead a.cams.length who m (j + 1)).map eventV = if lostBit m j = 1 then (lossHead a.cams.length who m j).map eventV ++ [.ag [.i .i64 4, .i .i64 (7 - (j : Int)), .i .i64 0, .i .i64 0]] else (lossHead a.cams.length who m j).map eventV := by
          unfold lossHead
          rw [loses]
          split <;> simp [eventV]
        repeat' (conv => whnf); first | refine Shr.mk (by omega) ?_ | refine Ar.fit (IntWalk.u64_in _ (by omega)) ?_ | refine Br.tt ?_ | refine Br.ff ?_ | refine Br.not ?_ | refine Br.dand (fun _ => ?_) (fun _ => ?_) | refine Br.dec (fun _ => ?_) (fun _ => ?_) | refine Br.beq (fun _ => ?_) (fun _ => ?_) | refine Br.bne (fun _ => ?_) (fun _ => ?_) | refine Br.seq (fun _ => ?_) (fun _ => ?_) | refine Elt.i (by omega) ?_ | refine EltN.i (by omega) ?_ | refine Nt.cast ?_ | refine Nt.mk _ rfl ?_ | refine EltN.mk _ rfl ?_ | refine Mx.mk _ rfl ?_ | refine Br.mk (fun _ => ?_) (fun _ => ?_) | refine EndP.mk ?_ trivial | refine EndP.mk ?_ ⟨.inr ⟨List.mem_cons_self .., ?_, rfl⟩, trivial⟩ | refine Ar.i64 (by omega) ?_ | refine Ar.u8 (by omega) ?_ | refine Quo.pos (by omega) ?_ | refine Rem.pos (by omega) ?_ | refine BsP.own ?_ | refine Ob.mk ⟨rfl, rfl⟩ ?_ | refine Ob.mk (flat_i _ _).1 ?_ | refine Ob.mk (flat_i _ _) ?_ | refine Ob.mk (flat_s _) ?_ | refine Ob.mk (by first | omega | (simp; first | done | fail) | (simp; omega)) ?_ | fail
        all_goals first
          | (exfalso; omega)
          | (conv => whnf
             refine ⟨j + 1, by omega, by omega, ?_⟩
             rw [hs]
             first
               | rw [if_pos (by assumption)]
               | rw [if_neg (by assumption)]
             rw [show (7 : Int) - ((j + 1 : Nat) : Int) = 7 - (j : Int) - 1 by omega]
             try rfl)
      · obtain rfl : j = 8 := by omega
        repeat' (conv => whnf); first | refine Br.tt ?_ | refine Br.ff ?_ | refine Br.not ?_ | refine Br.dand (fun _ => ?_) (fun _ => ?_) | refine Br.dec (fun _ => ?_) (fun _ => ?_) | refine Br.beq (fun _ => ?_) (fun _ => ?_) | refine Br.bne (fun _ => ?_) (fun _ => ?_) | refine Br.seq (fun _ => ?_) (fun _ => ?_) | refine Elt.i (by omega) ?_ | refine EltN.i (by omega) ?_ | refine Nt.cast ?_ | refine Nt.mk _ rfl ?_ | refine EltN.mk _ rfl ?_ | refine Mx.mk _ rfl ?_ | refine Br.mk (fun _ => ?_) (fun _ => ?_) | refine EndP.mk ?_ trivial | refine EndP.mk ?_ ⟨.inr ⟨List.mem_cons_self .., ?_, rfl⟩, trivial⟩ | refine Ar.i64 (by omega) ?_ | refine Ar.u8 (by omega) ?_ | refine Quo.pos (by omega) ?_ | refine Rem.pos (by omega) ?_ | refine BsP.own ?_ | refine Ob.mk ⟨rfl, rfl⟩ ?_ | refine Ob.mk (flat_i _ _).1 ?_ | refine Ob.mk (flat_i _ _) ?_ | refine Ob.mk (flat_s _) ?_ | refine Ob.mk (by first | omega | (simp; first | done | fail) | (simp; omega)) ?_ | fail
        all_goals try (exfalso; omega)
        all_goals (conv => whnf)
        refine LoopP.mk [4,8,9,54,55] (fun i : Nat => [(4, planB a), (8, .nl), (9, .ow 4 ((lossMid a.cams.length who m i).map eventV)), (54, .i .i64 n), (55, .i .i64 i)]) (fun i => n - i) (fun i => i ≤ n) ?_ ?_
        · conv => whnf
          refine ⟨0, by omega, ?_⟩
          rw [show (lossMid a.cams.length who m 0).map eventV = (lossHead a.cams.length who m 8).map eventV ++ [.ag [.i .i64 7, .i .i64 0, .i .i64 0, .i .i64 0], .ag [.i .i64 8, .i .i64 0, .i .i64 0, .i .i64 0]] by simp [lossMid, rounds, eventV]]
          rfl
        · intro i hi
          have hi1 := lossMid_len h who m (show i ≤ 20 by omega)
          have hi2 : ((lossMid a.cams.length who m i).map eventV).length = (lossMid a.cams.length who m i).length := by simp
          have hc2 := calm_len a.cams.length true
          have hc3 : ((calm a.cams.length true).map eventV).length = a.cams.length + 2 := by simp [hc2]
          by_cases hlt : i < n
          · repeat' (conv => whnf); first | refine CallP.re (calmRound_impl a true h) (by first | with_reducible rfl | (simp only [imm_i, imm_s, imm_b, iO, iS, imm_iO, parV, layV, layO, imm_layO, own_layO, immR_layO, ownR_layO, planV, immR_planV, ownR_planV, planS, planO, imm_planO, own_planO, immR_eventV, ownR_eventV]; first | done | fail)) rfl rfl rfl (by first | rfl | exact own_i _ _ | exact own_s _ | exact own_b _ | (simp [V.noSl, V.noSl.go, own_i, own_s, own_b, iO, iS, imm_iO, parV, layV, layO, imm_layO, own_layO, immR_layO, ownR_layO, planV, immR_planV, ownR_planV, planS, planO, imm_planO, own_planO, immR_eventV, ownR_eventV]; first | done | fail)) ?_ | refine Ob.mk (flat_ev _) ?_ | refine Br.tt ?_ | refine Br.ff ?_ | refine Br.not ?_ | refine Br.dand (fun _ => ?_) (fun _ => ?_) | refine Br.dec (fun _ => ?_) (fun _ => ?_) | refine Br.beq (fun _ => ?_) (fun _ => ?_) | refine Br.bne (fun _ => ?_) (fun _ => ?_) | refine Br.seq (fun _ => ?_) (fun _ => ?_) | refine Elt.i (by omega) ?_ | refine EltN.i (by omega) ?_ | refine Nt.cast ?_ | refine Nt.mk _ rfl ?_ | refine EltN.mk _ rfl ?_ | refine Mx.mk _ rfl ?_ | refine Br.mk (fun _ => ?_) (fun _ => ?_) | refine EndP.mk ?_ trivial | refine EndP.mk ?_ ⟨.inr ⟨List.mem_cons_self .., ?_, rfl⟩, trivial⟩ | refine Ar.i64 (by omega) ?_ | refine Ar.u8 (by omega) ?_ | refine Quo.pos (by omega) ?_ | refine Rem.pos (by omega) ?_ | refine BsP.own ?_ | refine Ob.mk ⟨rfl, rfl⟩ ?_ | refine Ob.mk (flat_i _ _).1 ?_ | refine Ob.mk (flat_i _ _) ?_ | refine Ob.mk (flat_s _) ?_ | refine Ob.mk (by first | omega | (simp; first | done | fail) | (simp; omega)) ?_ | fail
            all_goals first
              | (exfalso; omega)
              | (conv => whnf
                 refine ⟨i + 1, by omega, by omega, ?_⟩
                 rw [show (lossMid a.cams.length who m (i + 1)).map eventV = (lossMid a.cams.length who m i).map eventV ++ (calm a.cams.length true).map eventV by simp [lossMid, rounds]]
                 rfl)
          · obtain rfl : i = n := by omega
            repeat' (conv => whnf); first | refine Br.tt ?_ | refine Br.ff ?_ | refine Br.not ?_ | refine Br.dand (fun _ => ?_) (fun _ => ?_) | refine Br.dec (fun _ => ?_) (fun _ => ?_) | refine Br.beq (fun _ => ?_) (fun _ => ?_) | refine Br.bne (fun _ => ?_) (fun _ => ?_) | refine Br.seq (fun _ => ?_) (fun _ => ?_) | refine Elt.i (by omega) ?_ | refine EltN.i (by omega) ?_ | refine Nt.cast ?_ | refine Nt.mk _ rfl ?_ | refine EltN.mk _ rfl ?_ | refine Mx.mk _ rfl ?_ | refine Br.mk (fun _ => ?_) (fun _ => ?_) | refine EndP.mk ?_ trivial | refine EndP.mk ?_ ⟨.inr ⟨List.mem_cons_self .., ?_, rfl⟩, trivial⟩ | refine Ar.i64 (by omega) ?_ | refine Ar.u8 (by omega) ?_ | refine Quo.pos (by omega) ?_ | refine Rem.pos (by omega) ?_ | refine BsP.own ?_ | refine Ob.mk ⟨rfl, rfl⟩ ?_ | refine Ob.mk (flat_i _ _).1 ?_ | refine Ob.mk (flat_i _ _) ?_ | refine Ob.mk (flat_s _) ?_ | refine Ob.mk (by first | omega | (simp; first | done | fail) | (simp; omega)) ?_ | fail
            all_goals first
              | (exfalso; omega)
              | (rw [lossEvents, if_pos hr, Int.toNat_natCast]; rfl)
  · have hr' := hr
    unfold lossOk at hr'
    repeat' (conv => whnf); first | refine CallP.rd (w1) rfl rfl rfl rfl ?_ | refine DCall.rd (w1) rfl rfl ?_ | refine CallP.rd (w2) rfl rfl rfl rfl ?_ | refine DCall.rd (w2) rfl rfl ?_ | refine CallP.rd (w3) rfl rfl rfl rfl ?_ | refine DCall.rd (w3) rfl rfl ?_ | refine Br.tt ?_ | refine Br.ff ?_ | refine Br.not ?_ | refine Br.dand (fun _ => ?_) (fun _ => ?_) | refine Br.dec (fun _ => ?_) (fun _ => ?_) | refine Br.beq (fun _ => ?_) (fun _ => ?_) | refine Br.bne (fun _ => ?_) (fun _ => ?_) | refine Br.seq (fun _ => ?_) (fun _ => ?_) | refine Elt.i (by omega) ?_ | refine EltN.i (by omega) ?_ | refine Nt.cast ?_ | refine Nt.mk _ rfl ?_ | refine EltN.mk _ rfl ?_ | refine Mx.mk _ rfl ?_ | refine Br.mk (fun _ => ?_) (fun _ => ?_) | refine EndP.mk ?_ trivial | refine EndP.mk ?_ ⟨.inr ⟨List.mem_cons_self .., ?_, rfl⟩, trivial⟩ | refine Ar.i64 (by omega) ?_ | refine Ar.u8 (by omega) ?_ | refine Quo.pos (by omega) ?_ | refine Rem.pos (by omega) ?_ | refine BsP.own ?_ | refine Ob.mk ⟨rfl, rfl⟩ ?_ | refine Ob.mk (flat_i _ _).1 ?_ | refine Ob.mk (flat_i _ _) ?_ | refine Ob.mk (flat_s _) ?_ | refine Ob.mk (by first | omega | (simp; first | done | fail) | (simp; omega)) ?_ | fail
    all_goals first
      | (exfalso; omega)
      | (rw [lossEvents, if_neg hr]; rfl)
set_option maxHeartbeats 8000000 in
theorem loss_spec (a : PlanD) (who m r : Int) (h : a.cams.length ≤ 1048576) : Vow Try.prog 24 [planS a, .i .i64 who, .i .i64 m, .i .i64 r] (.ow 4 ((lossEvents a.cams.length who m r).map eventV)) [] := by
  have hm : (a.cams.map planV).length = a.cams.length := by simp
  have w2 := l01In_vow m 0 255
  have w3 := l01In_vow r 0 20
  refine vow_of_ev (fn := Try.f24) [] [(0, 0), (12, 13), (13, 31), (32, 33), (33, 38), (38, 43), (0, 0), (43, 44), (45, 47), (47, 52), (53, 58), (58, 63), (0, 0), (63, 65), (66, 68), (68, 72), (72, 73)] tt_ok Try.func24 (by decide) rfl (Nat.le_of_ble_eq_true rfl) rfl rfl rfl ?_
  by_cases hr : lossOk a.cams.length who m r
  · have hr' := hr
    obtain ⟨hr1, hr2, hr3⟩ := hr'
    obtain ⟨n, rfl⟩ : ∃ n : Nat, r = n := ⟨r.toNat, by omega⟩
    have c1 := calmRound_spec a false h
    have hl2 := calm_len a.cams.length false
    have hl3 : ((calm a.cams.length false).map eventV).length = a.cams.length + 2 := by simp [hl2]
    obtain ⟨R, hR⟩ : ∃ R, R = calm a.cams.length false := ⟨_, rfl⟩
    rw [← hR] at c1 hl2 hl3
    repeat' (conv => whnf); first | refine CallP.rd (w2) rfl rfl rfl rfl ?_ | refine DCall.rd (w2) rfl rfl ?_ | refine CallP.rd (w3) rfl rfl rfl rfl ?_ | refine DCall.rd (w3) rfl rfl ?_ | refine CallP.re (c1) (by first | with_reducible rfl | (simp only [imm_i, imm_s, imm_b, iO, iS, imm_iO, parV, layV, layO, imm_layO, own_layO, immR_layO, ownR_layO, planV, immR_planV, ownR_planV, planS, planO, imm_planO, own_planO, immR_eventV, ownR_eventV]; first | done | fail)) rfl rfl rfl (by first | rfl | exact own_i _ _ | exact own_s _ | exact own_b _ | (simp [V.noSl, V.noSl.go, own_i, own_s, own_b, iO, iS, imm_iO, parV, layV, layO, imm_layO, own_layO, immR_layO, ownR_layO, planV, immR_planV, ownR_planV, planS, planO, imm_planO, own_planO, immR_eventV, ownR_eventV]; first | done | fail)) ?_ | refine DCall.re (c1) (by first | with_reducible rfl | (simp only [imm_i, imm_s, imm_b, iO, iS, imm_iO, parV, layV, layO, imm_layO, own_layO, immR_layO, ownR_layO, planV, immR_planV, ownR_planV, planS, planO, imm_planO, own_planO, immR_eventV, ownR_eventV]; first | done | fail)) rfl (by first | rfl | exact own_i _ _ | exact own_s _ | exact own_b _ | (simp [V.noSl, V.noSl.go, own_i, own_s, own_b, iO, iS, imm_iO, parV, layV, layO, imm_layO, own_layO, immR_layO, ownR_layO, planV, immR_planV, ownR_planV, planS, planO, imm_planO, own_planO, immR_eventV, ownR_eventV]; first | done | fail)) ?_ | refine Ob.mk (flat_ev _) ?_ | refine Br.tt ?_ | refine Br.ff ?_ | refine Br.not ?_ | refine Br.dand (fun _ => ?_) (fun _ => ?_) | refine Br.dec (fun _ => ?_) (fun _ => ?_) | refine Br.beq (fun _ => ?_) (fun _ => ?_) | refine Br.bne (fun _ => ?_) (fun _ => ?_) | refine Br.seq (fun _ => ?_) (fun _ => ?_) | refine Elt.i (by omega) ?_ | refine EltN.i (by omega) ?_ | refine Nt.cast ?_ | refine Nt.mk _ rfl ?_ | refine EltN.mk _ rfl ?_ | refine Mx.mk _ rfl ?_ | refine Br.mk (fun _ => ?_) (fun _ => ?_) | refine EndP.mk ?_ trivial | refine EndP.mk ?_ ⟨.inr ⟨List.mem_cons_self .., ?_, rfl⟩, trivial⟩ | refine Ar.i64 (by omega) ?_ | refine Ar.u8 (by omega) ?_ | refine Quo.pos (by omega) ?_ | refine Rem.pos (by omega) ?_ | refine BsP.own ?_ | refine Ob.mk ⟨rfl, rfl⟩ ?_ | refine Ob.mk (flat_i _ _).1 ?_ | refine Ob.mk (flat_i _ _) ?_ | refine Ob.mk (flat_s _) ?_ | refine Ob.mk (by first | omega | (simp; first | done | fail) | (simp; omega)) ?_ | fail
    all_goals try (exfalso; omega)
    all_goals (conv => whnf)
    refine LoopP.mk [2,3,4,8,9,10] (fun j : Nat => [(2, .i .i64 m), (3, .i .i64 n), (4, planB a), (8, .nl), (9, .ow 4 ((lossHead a.cams.length who m j).map eventV)), (10, .i .i64 (7 - (j : Nat)))]) (fun j => 8 - j) (fun j => j ≤ 8) ?_ ?_
    · conv => whnf
      refine ⟨0, by omega, ?_⟩
      rw [show (lossHead a.cams.length who m 0).map eventV = (R.map eventV ++ R.map eventV) ++ [.ag [.i .i64 1, .i .i64 who, .i .i64 0, .i .i64 0]] by simp [lossHead, loses, hR, eventV, rounds]]
      rfl
    · intro j hj
      have hh := lossHead_len h who m j
      have hh2 : ((lossHead a.cams.length who m j).map eventV).length = (lossHead a.cams.length who m j).length := by simp
      by_cases hj8 : j < 8
      · have hs : (lossHead a.cams.length who m (j + 1)).map eventV = if lostBit m j = 1 then (lossHead a.cams.length who m j).map eventV ++ [.ag [.i .i64 4, .i .i64 (7 - (j : Int)), .i .i64 0, .i .i64 0]] else (lossHead a.cams.length who m j).map eventV := by
          unfold lossHead
          rw [loses]
          split <;> simp [eventV]
        repeat' (conv => whnf); first | refine Shr.mk (by omega) ?_ | refine Ar.fit (IntWalk.u64_in _ (by omega)) ?_ | refine Br.tt ?_ | refine Br.ff ?_ | refine Br.not ?_ | refine Br.dand (fun _ => ?_) (fun _ => ?_) | refine Br.dec (fun _ => ?_) (fun _ => ?_) | refine Br.beq (fun _ => ?_) (fun _ => ?_) | refine Br.bne (fun _ => ?_) (fun _ => ?_) | refine Br.seq (fun _ => ?_) (fun _ => ?_) | refine Elt.i (by omega) ?_ | refine EltN.i (by omega) ?_ | refine Nt.cast ?_ | refine Nt.mk _ rfl ?_ | refine EltN.mk _ rfl ?_ | refine Mx.mk _ rfl ?_ | refine Br.mk (fun _ => ?_) (fun _ => ?_) | refine EndP.mk ?_ trivial | refine EndP.mk ?_ ⟨.inr ⟨List.mem_cons_self .., ?_, rfl⟩, trivial⟩ | refine Ar.i64 (by omega) ?_ | refine Ar.u8 (by omega) ?_ | refine Quo.pos (by omega) ?_ | refine Rem.pos (by omega) ?_ | refine BsP.own ?_ | refine Ob.mk ⟨rfl, rfl⟩ ?_ | refine Ob.mk (flat_i _ _).1 ?_ | refine Ob.mk (flat_i _ _) ?_ | refine Ob.mk (flat_s _) ?_ | refine Ob.mk (by first | omega | (simp; first | done | fail) | (simp; omega)) ?_ | fail
        all_goals first
          | (exfalso; omega)
          | (conv => whnf
             refine ⟨j + 1, by omega, by omega, ?_⟩
             rw [hs]
             first
               | rw [if_pos (by assumption)]
               | rw [if_neg (by assumption)]
             rw [show (7 : Int) - ((j + 1 : Nat) : Int) = 7 - (j : Int) - 1 by omega]
             try rfl)
      · obtain rfl : j = 8 := by omega
        repeat' (conv => whnf); first | refine Br.tt ?_ | refine Br.ff ?_ | refine Br.not ?_ | refine Br.dand (fun _ => ?_) (fun _ => ?_) | refine Br.dec (fun _ => ?_) (fun _ => ?_) | refine Br.beq (fun _ => ?_) (fun _ => ?_) | refine Br.bne (fun _ => ?_) (fun _ => ?_) | refine Br.seq (fun _ => ?_) (fun _ => ?_) | refine Elt.i (by omega) ?_ | refine EltN.i (by omega) ?_ | refine Nt.cast ?_ | refine Nt.mk _ rfl ?_ | refine EltN.mk _ rfl ?_ | refine Mx.mk _ rfl ?_ | refine Br.mk (fun _ => ?_) (fun _ => ?_) | refine EndP.mk ?_ trivial | refine EndP.mk ?_ ⟨.inr ⟨List.mem_cons_self .., ?_, rfl⟩, trivial⟩ | refine Ar.i64 (by omega) ?_ | refine Ar.u8 (by omega) ?_ | refine Quo.pos (by omega) ?_ | refine Rem.pos (by omega) ?_ | refine BsP.own ?_ | refine Ob.mk ⟨rfl, rfl⟩ ?_ | refine Ob.mk (flat_i _ _).1 ?_ | refine Ob.mk (flat_i _ _) ?_ | refine Ob.mk (flat_s _) ?_ | refine Ob.mk (by first | omega | (simp; first | done | fail) | (simp; omega)) ?_ | fail
        all_goals try (exfalso; omega)
        all_goals (conv => whnf)
        refine LoopP.mk [3,4,8,9,11] (fun i : Nat => [(3, .i .i64 n), (4, planB a), (8, .nl), (9, .ow 4 ((lossMid a.cams.length who m i).map eventV)), (11, .i .i64 i)]) (fun i => n - i) (fun i => i ≤ n) ?_ ?_
        · conv => whnf
          refine ⟨0, by omega, ?_⟩
          rw [show (lossMid a.cams.length who m 0).map eventV = (lossHead a.cams.length who m 8).map eventV ++ [.ag [.i .i64 7, .i .i64 0, .i .i64 0, .i .i64 0], .ag [.i .i64 8, .i .i64 0, .i .i64 0, .i .i64 0]] by simp [lossMid, rounds, eventV]]
          rfl
        · intro i hi
          have hi1 := lossMid_len h who m (show i ≤ 20 by omega)
          have hi2 : ((lossMid a.cams.length who m i).map eventV).length = (lossMid a.cams.length who m i).length := by simp
          have hc2 := calm_len a.cams.length true
          have hc3 : ((calm a.cams.length true).map eventV).length = a.cams.length + 2 := by simp [hc2]
          by_cases hlt : i < n
          · repeat' (conv => whnf); first | refine CallP.re (calmRound_spec a true h) (by first | with_reducible rfl | (simp only [imm_i, imm_s, imm_b, iO, iS, imm_iO, parV, layV, layO, imm_layO, own_layO, immR_layO, ownR_layO, planV, immR_planV, ownR_planV, planS, planO, imm_planO, own_planO, immR_eventV, ownR_eventV]; first | done | fail)) rfl rfl rfl (by first | rfl | exact own_i _ _ | exact own_s _ | exact own_b _ | (simp [V.noSl, V.noSl.go, own_i, own_s, own_b, iO, iS, imm_iO, parV, layV, layO, imm_layO, own_layO, immR_layO, ownR_layO, planV, immR_planV, ownR_planV, planS, planO, imm_planO, own_planO, immR_eventV, ownR_eventV]; first | done | fail)) ?_ | refine Ob.mk (flat_ev _) ?_ | refine Br.tt ?_ | refine Br.ff ?_ | refine Br.not ?_ | refine Br.dand (fun _ => ?_) (fun _ => ?_) | refine Br.dec (fun _ => ?_) (fun _ => ?_) | refine Br.beq (fun _ => ?_) (fun _ => ?_) | refine Br.bne (fun _ => ?_) (fun _ => ?_) | refine Br.seq (fun _ => ?_) (fun _ => ?_) | refine Elt.i (by omega) ?_ | refine EltN.i (by omega) ?_ | refine Nt.cast ?_ | refine Nt.mk _ rfl ?_ | refine EltN.mk _ rfl ?_ | refine Mx.mk _ rfl ?_ | refine Br.mk (fun _ => ?_) (fun _ => ?_) | refine EndP.mk ?_ trivial | refine EndP.mk ?_ ⟨.inr ⟨List.mem_cons_self .., ?_, rfl⟩, trivial⟩ | refine Ar.i64 (by omega) ?_ | refine Ar.u8 (by omega) ?_ | refine Quo.pos (by omega) ?_ | refine Rem.pos (by omega) ?_ | refine BsP.own ?_ | refine Ob.mk ⟨rfl, rfl⟩ ?_ | refine Ob.mk (flat_i _ _).1 ?_ | refine Ob.mk (flat_i _ _) ?_ | refine Ob.mk (flat_s _) ?_ | refine Ob.mk (by first | omega | (simp; first | done | fail) | (simp; omega)) ?_ | fail
            all_goals first
              | (exfalso; omega)
              | (conv => whnf
                 refine ⟨i + 1, by omega, by omega, ?_⟩
                 rw [show (lossMid a.cams.length who m (i + 1)).map eventV = (lossMid a.cams.length who m i).map eventV ++ (calm a.cams.length true).map eventV by simp [lossMid, rounds]]
                 rfl)
          · obtain rfl : i = n := by omega
            repeat' (conv => whnf); first | refine Br.tt ?_ | refine Br.ff ?_ | refine Br.not ?_ | refine Br.dand (fun _ => ?_) (fun _ => ?_) | refine Br.dec (fun _ => ?_) (fun _ => ?_) | refine Br.beq (fun _ => ?_) (fun _ => ?_) | refine Br.bne (fun _ => ?_) (fun _ => ?_) | refine Br.seq (fun _ => ?_) (fun _ => ?_) | refine Elt.i (by omega) ?_ | refine EltN.i (by omega) ?_ | refine Nt.cast ?_ | refine Nt.mk _ rfl ?_ | refine EltN.mk _ rfl ?_ | refine Mx.mk _ rfl ?_ | refine Br.mk (fun _ => ?_) (fun _ => ?_) | refine EndP.mk ?_ trivial | refine EndP.mk ?_ ⟨.inr ⟨List.mem_cons_self .., ?_, rfl⟩, trivial⟩ | refine Ar.i64 (by omega) ?_ | refine Ar.u8 (by omega) ?_ | refine Quo.pos (by omega) ?_ | refine Rem.pos (by omega) ?_ | refine BsP.own ?_ | refine Ob.mk ⟨rfl, rfl⟩ ?_ | refine Ob.mk (flat_i _ _).1 ?_ | refine Ob.mk (flat_i _ _) ?_ | refine Ob.mk (flat_s _) ?_ | refine Ob.mk (by first | omega | (simp; first | done | fail) | (simp; omega)) ?_ | fail
            all_goals first
              | (exfalso; omega)
              | (rw [lossEvents, if_pos hr, Int.toNat_natCast]; rfl)
  · have hr' := hr
    unfold lossOk at hr'
    repeat' (conv => whnf); first | refine CallP.rd (w2) rfl rfl rfl rfl ?_ | refine DCall.rd (w2) rfl rfl ?_ | refine CallP.rd (w3) rfl rfl rfl rfl ?_ | refine DCall.rd (w3) rfl rfl ?_ | refine Br.tt ?_ | refine Br.ff ?_ | refine Br.not ?_ | refine Br.dand (fun _ => ?_) (fun _ => ?_) | refine Br.dec (fun _ => ?_) (fun _ => ?_) | refine Br.beq (fun _ => ?_) (fun _ => ?_) | refine Br.bne (fun _ => ?_) (fun _ => ?_) | refine Br.seq (fun _ => ?_) (fun _ => ?_) | refine Elt.i (by omega) ?_ | refine EltN.i (by omega) ?_ | refine Nt.cast ?_ | refine Nt.mk _ rfl ?_ | refine EltN.mk _ rfl ?_ | refine Mx.mk _ rfl ?_ | refine Br.mk (fun _ => ?_) (fun _ => ?_) | refine EndP.mk ?_ trivial | refine EndP.mk ?_ ⟨.inr ⟨List.mem_cons_self .., ?_, rfl⟩, trivial⟩ | refine Ar.i64 (by omega) ?_ | refine Ar.u8 (by omega) ?_ | refine Quo.pos (by omega) ?_ | refine Rem.pos (by omega) ?_ | refine BsP.own ?_ | refine Ob.mk ⟨rfl, rfl⟩ ?_ | refine Ob.mk (flat_i _ _).1 ?_ | refine Ob.mk (flat_i _ _) ?_ | refine Ob.mk (flat_s _) ?_ | refine Ob.mk (by first | omega | (simp; first | done | fail) | (simp; omega)) ?_ | fail
    all_goals first
      | (exfalso; omega)
      | (rw [lossEvents, if_neg hr]; rfl)
end Go.Proofs.Ytaeaeefggcjjhaa
