/- Queues that are right. No condition. -/
import Derived.Test.YtjomgcgeknpehaaBl
namespace Go.Proofs.Ytjomgcgeknpehaa
open Go Go.Vx
set_option linter.unusedVariables false
set_option linter.unusedSimpArgs false
set_option maxHeartbeats 600000
set_option maxRecDepth 100000


def gapAt (q : QueueD) (i : Nat) : Int := gap q.next (gt packetD q.held i).seq
def lastG (q : QueueD) : Nat → Int
  | 0 => -1
  | i + 1 => gapAt q i
def heldOk (q : QueueD) (i : Nat) : Prop := pktOk (gt packetD q.held i) ∧ lastG q i < gapAt q i ∧ gapAt q i < 40
instance (q : QueueD) (i : Nat) : Decidable (heldOk q i) := by unfold heldOk; infer_instance
def cnt9 (n : Int) : Prop := 0 ≤ n ∧ n ≤ 1000000000
instance (n : Int) : Decidable (cnt9 n) := by unfold cnt9; infer_instance
def qOff (q : QueueD) : Prop := q.next = 0 ∧ q.age = 0 ∧ q.held.length = 0 ∧ q.late = 0 ∧ q.far = 0 ∧ q.twice = 0 ∧ q.over = 0 ∧ q.lost = 0
instance (q : QueueD) : Decidable (qOff q) := by unfold qOff; infer_instance
def qHead (q : QueueD) : Prop := num q.next ∧ (0 ≤ q.age ∧ q.age ≤ 20) ∧ q.held.length ≤ 24
instance (q : QueueD) : Decidable (qHead q) := by unfold qHead; infer_instance
def qOn (q : QueueD) : Prop := qHead q ∧ (∀ i, i < q.held.length → heldOk q i) ∧ cnt9 q.late ∧ cnt9 q.far ∧ cnt9 q.twice ∧ cnt9 q.over ∧ cnt9 q.lost
instance (q : QueueD) : Decidable (qOn q) := by unfold qOn; infer_instance
def queueOk (q : QueueD) : Bool := if q.begun then decide (qOn q) else decide (qOff q)
theorem qOn_bad {q : QueueD} {i : Nat} (hi : i < q.held.length) (h : ¬ heldOk q i) : decide (qOn q) = false := decide_eq_false fun k => h (k.2.1 i hi)
theorem gapAt_fit (q : QueueD) (i : Nat) : -32768 ≤ gapAt q i ∧ gapAt q i ≤ 32767 := gap_fit _ _
theorem lastG_fit (q : QueueD) : ∀ i, -32768 ≤ lastG q i ∧ lastG q i ≤ 32767
  | 0 => by simp [lastG]
  | i + 1 => gapAt_fit q i
theorem l23Count_vow (n : Int) : Vow Try.prog 164 [.i .i64 n] (.b (decide (0 ≤ n) && decide (n ≤ 1000000000))) [] := by
  refine vow_of_ev (fn := Try.f164) [] [(0, 0), (3, 5)] tt_ok Try.func164 (by decide) rfl (Nat.le_of_ble_eq_true rfl) rfl rfl rfl ?_
  repeat' (conv => whnf); first | refine CallP.rd (l01In_vow _ _ _) rfl rfl rfl rfl ?_ | refine Br.tt ?_ | refine Br.ff ?_ | refine Br.not ?_ | refine Br.dand (fun _ => ?_) (fun _ => ?_) | refine Br.dec (fun _ => ?_) (fun _ => ?_) | refine Br.beq (fun _ => ?_) (fun _ => ?_) | refine Br.bne (fun _ => ?_) (fun _ => ?_) | refine Br.seq (fun _ => ?_) (fun _ => ?_) | refine Elt.i (by omega) ?_ | refine EltN.i (by omega) ?_ | refine Nt.cast ?_ | refine Nt.mk _ rfl ?_ | refine EltN.mk _ rfl ?_ | refine Mx.mk _ rfl ?_ | refine Br.mk (fun _ => ?_) (fun _ => ?_) | refine EndP.mk ?_ trivial | refine EndP.mk ?_ ⟨.inr ⟨List.mem_cons_self .., ?_, rfl⟩, trivial⟩ | refine Ar.i64 (by omega) ?_ | refine Ar.u8 (by omega) ?_ | refine Quo.pos (by omega) ?_ | refine Rem.pos (by omega) ?_ | refine BsP.own ?_ | refine SetN.two ?_ | refine SetN.one ?_ | refine Ob.mk ⟨rfl, rfl⟩ ?_ | refine Ob.mk (flat_i _ _).1 ?_ | refine Ob.mk (flat_i _ _) ?_ | refine Ob.mk (flat_s _) ?_ | refine Ob.mk (by first | omega | (simp; first | done | fail) | (simp; omega)) ?_ | fail
  rfl

set_option maxHeartbeats 8000000 in
theorem queueOk_impl (q : QueueD) : Vow Try.prog 100 [queueVs q] (.b (queueOk q)) [] := by
  have hm : (q.held.map packetVs).length = q.held.length := by simp
  unfold queueVs
  generalize hb : q.begun = b
  refine vow_of_ev (fn := Try.f100) [] [(0, 0), (9, 11), (12, 51), (51, 66), (0, 0), (0, 0), (67, 68), (0, 0), (72, 74), (74, 79), (79, 88), (0, 0), (89, 90), (90, 91), (91, 101), (0, 0), (105, 107), (107, 109), (0, 0), (110, 111), (0, 0)] tt_ok Try.func100 (by decide) rfl (Nat.le_of_ble_eq_true rfl) rfl rfl rfl ?_
  cases b
  · rw [show queueOk q = decide (qOff q) by unfold queueOk; rw [hb]; rfl]
    have hiff : qOff q ↔ q.next = 0 ∧ q.age = 0 ∧ q.held.length = 0 ∧ q.late = 0 ∧ q.far = 0 ∧ q.twice = 0 ∧ q.over = 0 ∧ q.lost = 0 := Iff.rfl
    repeat' (conv => whnf); first | refine Br.tt ?_ | refine Br.ff ?_ | refine Br.not ?_ | refine Br.dand (fun _ => ?_) (fun _ => ?_) | refine Br.dec (fun _ => ?_) (fun _ => ?_) | refine Br.beq (fun _ => ?_) (fun _ => ?_) | refine Br.bne (fun _ => ?_) (fun _ => ?_) | refine Br.seq (fun _ => ?_) (fun _ => ?_) | refine Elt.i (by omega) ?_ | refine EltN.i (by omega) ?_ | refine Nt.cast ?_ | refine Nt.mk _ rfl ?_ | refine EltN.mk _ rfl ?_ | refine Mx.mk _ rfl ?_ | refine Br.mk (fun _ => ?_) (fun _ => ?_) | refine EndP.mk ?_ trivial | refine EndP.mk ?_ ⟨.inr ⟨List.mem_cons_self .., ?_, rfl⟩, trivial⟩ | refine Ar.i64 (by omega) ?_ | refine Ar.u8 (by omega) ?_ | refine Quo.pos (by omega) ?_ | refine Rem.pos (by omega) ?_ | refine BsP.own ?_ | refine SetN.two ?_ | refine SetN.one ?_ | refine Ob.mk ⟨rfl, rfl⟩ ?_ | refine Ob.mk (flat_i _ _).1 ?_ | refine Ob.mk (flat_i _ _) ?_ | refine Ob.mk (flat_s _) ?_ | refine Ob.mk (by first | omega | (simp; first | done | fail) | (simp; omega)) ?_ | fail
    all_goals first
      | (exfalso; omega)
      | (rw [decide_eq_true (by rw [hiff]; omega)]; rfl)
      | (rw [decide_eq_false (by rw [hiff]; omega)]; rfl)
      | (refine congrArg V.b ?_; rw [Bool.eq_iff_iff]; simp only [Bool.and_eq_true, decide_eq_true_eq, beq_iff_eq]; rw [hiff]; omega)
  · rw [show queueOk q = decide (qOn q) by unfold queueOk; rw [hb]; rfl]
    have hh : qHead q ↔ (0 ≤ q.next ∧ q.next ≤ 65535) ∧ (0 ≤ q.age ∧ q.age ≤ 20) ∧ q.held.length ≤ 24 := Iff.rfl
    by_cases hhd : qHead q
    · have hhd' := hh.1 hhd
      repeat' (conv => whnf); first | refine CallP.rd (isNum_vow _) rfl rfl rfl rfl ?_ | refine DCall.rd (isNum_vow _) rfl rfl ?_ | refine CallP.rd (within_vow _ _ _) rfl rfl rfl rfl ?_ | refine DCall.rd (within_vow _ _ _) rfl rfl ?_ | refine Br.tt ?_ | refine Br.ff ?_ | refine Br.not ?_ | refine Br.dand (fun _ => ?_) (fun _ => ?_) | refine Br.dec (fun _ => ?_) (fun _ => ?_) | refine Br.beq (fun _ => ?_) (fun _ => ?_) | refine Br.bne (fun _ => ?_) (fun _ => ?_) | refine Br.seq (fun _ => ?_) (fun _ => ?_) | refine Elt.i (by omega) ?_ | refine EltN.i (by omega) ?_ | refine Nt.cast ?_ | refine Nt.mk _ rfl ?_ | refine EltN.mk _ rfl ?_ | refine Mx.mk _ rfl ?_ | refine Br.mk (fun _ => ?_) (fun _ => ?_) | refine EndP.mk ?_ trivial | refine EndP.mk ?_ ⟨.inr ⟨List.mem_cons_self .., ?_, rfl⟩, trivial⟩ | refine Ar.i64 (by omega) ?_ | refine Ar.u8 (by omega) ?_ | refine Quo.pos (by omega) ?_ | refine Rem.pos (by omega) ?_ | refine BsP.own ?_ | refine SetN.two ?_ | refine SetN.one ?_ | refine Ob.mk ⟨rfl, rfl⟩ ?_ | refine Ob.mk (flat_i _ _).1 ?_ | refine Ob.mk (flat_i _ _) ?_ | refine Ob.mk (flat_s _) ?_ | refine Ob.mk (by first | omega | (simp; first | done | fail) | (simp; omega)) ?_ | fail
      all_goals try (exfalso; omega)
      all_goals (conv => whnf)
      refine LoopP.mk [1,2,3,68,69,70] (fun i : Nat => [(1, .bx [.b true, .i .i64 q.next, .i .i64 q.age, .sl (q.held.map packetVs), .i .i64 q.late, .i .i64 q.far, .i .i64 q.twice, .i .i64 q.over, .i .i64 q.lost]), (2, .b false), (3, .i .i64 (lastG q i)), (68, .sl (q.held.map packetVs)), (69, .i .i64 (q.held.length : Nat)), (70, .i .i64 i)])
        (fun i => q.held.length - i) (fun i => i ≤ q.held.length ∧ ∀ j, j < i → heldOk q j) ?_ ?_
      · conv => whnf
        refine ⟨0, ⟨by omega, fun j hj => by omega⟩, ?_⟩
        try rw [hm]
        rfl
      · rintro i ⟨hi, ha⟩
        have hl := lastG_fit q i
        have hg := gapAt_fit q i
        by_cases hlt : i < q.held.length
        · have ga := gap_impl q.next (gt packetD q.held i).seq
          rw [show gap q.next (gt packetD q.held i).seq = gapAt q i from rfl] at ga
          have hdf : heldOk q i ↔ pktOk (gt packetD q.held i) ∧ lastG q i < gapAt q i ∧ gapAt q i < 40 := Iff.rfl
          have pk := pktOk_impl (gt packetD q.held i)
          have wi := within_vow (gapAt q i) (lastG q i + 1) 39
          by_cases hp : pktOk (gt packetD q.held i)
          · rw [decide_eq_true hp] at pk
            repeat' (conv => whnf); first | refine Elt.gt packetD hlt ?_ | refine EltN.gt packetD hlt ?_ | refine CallP.rd (ga) rfl rfl rfl rfl ?_ | refine DCall.rd (ga) rfl rfl ?_ | refine CallP.rd (pk) rfl rfl rfl rfl ?_ | refine DCall.rd (pk) rfl rfl ?_ | refine CallP.rd (wi) rfl rfl rfl rfl ?_ | refine DCall.rd (wi) rfl rfl ?_ | refine Br.tt ?_ | refine Br.ff ?_ | refine Br.not ?_ | refine Br.dand (fun _ => ?_) (fun _ => ?_) | refine Br.dec (fun _ => ?_) (fun _ => ?_) | refine Br.beq (fun _ => ?_) (fun _ => ?_) | refine Br.bne (fun _ => ?_) (fun _ => ?_) | refine Br.seq (fun _ => ?_) (fun _ => ?_) | refine Elt.i (by omega) ?_ | refine EltN.i (by omega) ?_ | refine Nt.cast ?_ | refine Nt.mk _ rfl ?_ | refine EltN.mk _ rfl ?_ | refine Mx.mk _ rfl ?_ | refine Br.mk (fun _ => ?_) (fun _ => ?_) | refine EndP.mk ?_ trivial | refine EndP.mk ?_ ⟨.inr ⟨List.mem_cons_self .., ?_, rfl⟩, trivial⟩ | refine Ar.i64 (by omega) ?_ | refine Ar.u8 (by omega) ?_ | refine Quo.pos (by omega) ?_ | refine Rem.pos (by omega) ?_ | refine BsP.own ?_ | refine SetN.two ?_ | refine SetN.one ?_ | refine Ob.mk ⟨rfl, rfl⟩ ?_ | refine Ob.mk (flat_i _ _).1 ?_ | refine Ob.mk (flat_i _ _) ?_ | refine Ob.mk (flat_s _) ?_ | refine Ob.mk (by first | omega | (simp; first | done | fail) | (simp; omega)) ?_ | fail
            all_goals first
              | (exfalso; omega)
              | (rw [qOn_bad (i := i) hlt (fun h => by have := hdf.1 h; omega)]; rfl)
              | (conv => whnf
                 exact ⟨i + 1, ⟨by omega, all_next ha (hdf.2 ⟨hp, by omega, by omega⟩)⟩, by omega, rfl⟩)
          · rw [decide_eq_false hp] at pk
            repeat' (conv => whnf); first | refine Elt.gt packetD hlt ?_ | refine EltN.gt packetD hlt ?_ | refine CallP.rd (ga) rfl rfl rfl rfl ?_ | refine DCall.rd (ga) rfl rfl ?_ | refine CallP.rd (pk) rfl rfl rfl rfl ?_ | refine DCall.rd (pk) rfl rfl ?_ | refine CallP.rd (wi) rfl rfl rfl rfl ?_ | refine DCall.rd (wi) rfl rfl ?_ | refine Br.tt ?_ | refine Br.ff ?_ | refine Br.not ?_ | refine Br.dand (fun _ => ?_) (fun _ => ?_) | refine Br.dec (fun _ => ?_) (fun _ => ?_) | refine Br.beq (fun _ => ?_) (fun _ => ?_) | refine Br.bne (fun _ => ?_) (fun _ => ?_) | refine Br.seq (fun _ => ?_) (fun _ => ?_) | refine Elt.i (by omega) ?_ | refine EltN.i (by omega) ?_ | refine Nt.cast ?_ | refine Nt.mk _ rfl ?_ | refine EltN.mk _ rfl ?_ | refine Mx.mk _ rfl ?_ | refine Br.mk (fun _ => ?_) (fun _ => ?_) | refine EndP.mk ?_ trivial | refine EndP.mk ?_ ⟨.inr ⟨List.mem_cons_self .., ?_, rfl⟩, trivial⟩ | refine Ar.i64 (by omega) ?_ | refine Ar.u8 (by omega) ?_ | refine Quo.pos (by omega) ?_ | refine Rem.pos (by omega) ?_ | refine BsP.own ?_ | refine SetN.two ?_ | refine SetN.one ?_ | refine Ob.mk ⟨rfl, rfl⟩ ?_ | refine Ob.mk (flat_i _ _).1 ?_ | refine Ob.mk (flat_i _ _) ?_ | refine Ob.mk (flat_s _) ?_ | refine Ob.mk (by first | omega | (simp; first | done | fail) | (simp; omega)) ?_ | fail
            all_goals first
              | (exfalso; omega)
              | (rw [qOn_bad (i := i) hlt (fun h => hp (hdf.1 h).1)]; rfl)
        · obtain rfl : i = q.held.length := by omega
          repeat' (conv => whnf); first | refine Br.tt ?_ | refine Br.ff ?_ | refine Br.not ?_ | refine Br.dand (fun _ => ?_) (fun _ => ?_) | refine Br.dec (fun _ => ?_) (fun _ => ?_) | refine Br.beq (fun _ => ?_) (fun _ => ?_) | refine Br.bne (fun _ => ?_) (fun _ => ?_) | refine Br.seq (fun _ => ?_) (fun _ => ?_) | refine Elt.i (by omega) ?_ | refine EltN.i (by omega) ?_ | refine Nt.cast ?_ | refine Nt.mk _ rfl ?_ | refine EltN.mk _ rfl ?_ | refine Mx.mk _ rfl ?_ | refine Br.mk (fun _ => ?_) (fun _ => ?_) | refine EndP.mk ?_ trivial | refine EndP.mk ?_ ⟨.inr ⟨List.mem_cons_self .., ?_, rfl⟩, trivial⟩ | refine Ar.i64 (by omega) ?_ | refine Ar.u8 (by omega) ?_ | refine Quo.pos (by omega) ?_ | refine Rem.pos (by omega) ?_ | refine BsP.own ?_ | refine SetN.two ?_ | refine SetN.one ?_ | refine Ob.mk ⟨rfl, rfl⟩ ?_ | refine Ob.mk (flat_i _ _).1 ?_ | refine Ob.mk (flat_i _ _) ?_ | refine Ob.mk (flat_s _) ?_ | refine Ob.mk (by first | omega | (simp; first | done | fail) | (simp; omega)) ?_ | fail
          all_goals try (exfalso; omega)
          all_goals (conv => whnf)
          refine LoopP.mk [2,101,102,103] (fun i : Nat => [(2, .b false), (101, .ow 1 ([q.late, q.far, q.twice, q.over, q.lost].map (.i .i64))), (102, .i .i64 5), (103, .i .i64 i)]) (fun i => 5 - i) (fun i => i ≤ 5 ∧ ∀ j, j < i → cnt9 (rd [q.late, q.far, q.twice, q.over, q.lost] j)) ?_ ?_
          · conv => whnf
            exact ⟨0, ⟨by omega, fun j hj => by omega⟩, rfl⟩
          · rintro i ⟨hi, hb⟩
            by_cases hlt : i < 5
            · repeat' (conv => whnf); first | refine Elt.i (by exact hlt) ?_ | refine EltN.i (by exact hlt) ?_ | refine CallP.rd (within_vow _ _ _) rfl rfl rfl rfl ?_ | refine Br.tt ?_ | refine Br.ff ?_ | refine Br.not ?_ | refine Br.dand (fun _ => ?_) (fun _ => ?_) | refine Br.dec (fun _ => ?_) (fun _ => ?_) | refine Br.beq (fun _ => ?_) (fun _ => ?_) | refine Br.bne (fun _ => ?_) (fun _ => ?_) | refine Br.seq (fun _ => ?_) (fun _ => ?_) | refine Elt.i (by omega) ?_ | refine EltN.i (by omega) ?_ | refine Nt.cast ?_ | refine Nt.mk _ rfl ?_ | refine EltN.mk _ rfl ?_ | refine Mx.mk _ rfl ?_ | refine Br.mk (fun _ => ?_) (fun _ => ?_) | refine EndP.mk ?_ trivial | refine EndP.mk ?_ ⟨.inr ⟨List.mem_cons_self .., ?_, rfl⟩, trivial⟩ | refine Ar.i64 (by omega) ?_ | refine Ar.u8 (by omega) ?_ | refine Quo.pos (by omega) ?_ | refine Rem.pos (by omega) ?_ | refine BsP.own ?_ | refine SetN.two ?_ | refine SetN.one ?_ | refine Ob.mk ⟨rfl, rfl⟩ ?_ | refine Ob.mk (flat_i _ _).1 ?_ | refine Ob.mk (flat_i _ _) ?_ | refine Ob.mk (flat_s _) ?_ | refine Ob.mk (by first | omega | (simp; first | done | fail) | (simp; omega)) ?_ | fail
              all_goals first
                | (exfalso; omega)
                | (conv => whnf
                   exact ⟨i + 1, ⟨by omega, all_next hb (by assumption)⟩, by omega, rfl⟩)
                | (have hn : ¬ cnt9 (rd [q.late, q.far, q.twice, q.over, q.lost] i) := by assumption
                   rw [decide_eq_false (fun k : qOn q => hn (by
                     obtain ⟨_, _, k1, k2, k3, k4, k5⟩ := k
                     match i, hlt with
                     | 0, _ => exact k1
                     | 1, _ => exact k2
                     | 2, _ => exact k3
                     | 3, _ => exact k4
                     | 4, _ => exact k5))]
                   rfl)
            · obtain rfl : i = 5 := by omega
              repeat' (conv => whnf); first | refine Br.tt ?_ | refine Br.ff ?_ | refine Br.not ?_ | refine Br.dand (fun _ => ?_) (fun _ => ?_) | refine Br.dec (fun _ => ?_) (fun _ => ?_) | refine Br.beq (fun _ => ?_) (fun _ => ?_) | refine Br.bne (fun _ => ?_) (fun _ => ?_) | refine Br.seq (fun _ => ?_) (fun _ => ?_) | refine Elt.i (by omega) ?_ | refine EltN.i (by omega) ?_ | refine Nt.cast ?_ | refine Nt.mk _ rfl ?_ | refine EltN.mk _ rfl ?_ | refine Mx.mk _ rfl ?_ | refine Br.mk (fun _ => ?_) (fun _ => ?_) | refine EndP.mk ?_ trivial | refine EndP.mk ?_ ⟨.inr ⟨List.mem_cons_self .., ?_, rfl⟩, trivial⟩ | refine Ar.i64 (by omega) ?_ | refine Ar.u8 (by omega) ?_ | refine Quo.pos (by omega) ?_ | refine Rem.pos (by omega) ?_ | refine BsP.own ?_ | refine SetN.two ?_ | refine SetN.one ?_ | refine Ob.mk ⟨rfl, rfl⟩ ?_ | refine Ob.mk (flat_i _ _).1 ?_ | refine Ob.mk (flat_i _ _) ?_ | refine Ob.mk (flat_s _) ?_ | refine Ob.mk (by first | omega | (simp; first | done | fail) | (simp; omega)) ?_ | fail
              all_goals first
                | (exfalso; omega)
                | (rw [decide_eq_true (show qOn q from ⟨hhd, ha, hb 0 (by omega), hb 1 (by omega), hb 2 (by omega), hb 3 (by omega), hb 4 (by omega)⟩)]; rfl)
    · rw [decide_eq_false (fun k : qOn q => hhd k.1)]
      have hhd' := fun h => hhd (hh.2 h)
      repeat' (conv => whnf); first | refine CallP.rd (isNum_vow _) rfl rfl rfl rfl ?_ | refine DCall.rd (isNum_vow _) rfl rfl ?_ | refine CallP.rd (within_vow _ _ _) rfl rfl rfl rfl ?_ | refine DCall.rd (within_vow _ _ _) rfl rfl ?_ | refine Br.tt ?_ | refine Br.ff ?_ | refine Br.not ?_ | refine Br.dand (fun _ => ?_) (fun _ => ?_) | refine Br.dec (fun _ => ?_) (fun _ => ?_) | refine Br.beq (fun _ => ?_) (fun _ => ?_) | refine Br.bne (fun _ => ?_) (fun _ => ?_) | refine Br.seq (fun _ => ?_) (fun _ => ?_) | refine Elt.i (by omega) ?_ | refine EltN.i (by omega) ?_ | refine Nt.cast ?_ | refine Nt.mk _ rfl ?_ | refine EltN.mk _ rfl ?_ | refine Mx.mk _ rfl ?_ | refine Br.mk (fun _ => ?_) (fun _ => ?_) | refine EndP.mk ?_ trivial | refine EndP.mk ?_ ⟨.inr ⟨List.mem_cons_self .., ?_, rfl⟩, trivial⟩ | refine Ar.i64 (by omega) ?_ | refine Ar.u8 (by omega) ?_ | refine Quo.pos (by omega) ?_ | refine Rem.pos (by omega) ?_ | refine BsP.own ?_ | refine SetN.two ?_ | refine SetN.one ?_ | refine Ob.mk ⟨rfl, rfl⟩ ?_ | refine Ob.mk (flat_i _ _).1 ?_ | refine Ob.mk (flat_i _ _) ?_ | refine Ob.mk (flat_s _) ?_ | refine Ob.mk (by first | omega | (simp; first | done | fail) | (simp; omega)) ?_ | fail
      all_goals first
        | rfl
        | exact (hhd' ⟨by assumption, by assumption, by omega⟩).elim
set_option maxHeartbeats 8000000 in
theorem queueOk_spec (q : QueueD) : Vow Try.prog 129 [queueVs q] (.b (queueOk q)) [] := by
  have hm : (q.held.map packetVs).length = q.held.length := by simp
  unfold queueVs
  generalize hb : q.begun = b
  refine vow_of_ev (fn := Try.f129) [] [(0, 0), (6, 8), (9, 48), (48, 63), (0, 0), (0, 0), (0, 0), (64, 68), (69, 71), (71, 80), (80, 95), (0, 0), (96, 97), (97, 120)] tt_ok Try.func129 (by decide) rfl (Nat.le_of_ble_eq_true rfl) rfl rfl rfl ?_
  cases b
  · rw [show queueOk q = decide (qOff q) by unfold queueOk; rw [hb]; rfl]
    have hiff : qOff q ↔ q.next = 0 ∧ q.age = 0 ∧ q.held.length = 0 ∧ q.late = 0 ∧ q.far = 0 ∧ q.twice = 0 ∧ q.over = 0 ∧ q.lost = 0 := Iff.rfl
    repeat' (conv => whnf); first | refine Br.tt ?_ | refine Br.ff ?_ | refine Br.not ?_ | refine Br.dand (fun _ => ?_) (fun _ => ?_) | refine Br.dec (fun _ => ?_) (fun _ => ?_) | refine Br.beq (fun _ => ?_) (fun _ => ?_) | refine Br.bne (fun _ => ?_) (fun _ => ?_) | refine Br.seq (fun _ => ?_) (fun _ => ?_) | refine Elt.i (by omega) ?_ | refine EltN.i (by omega) ?_ | refine Nt.cast ?_ | refine Nt.mk _ rfl ?_ | refine EltN.mk _ rfl ?_ | refine Mx.mk _ rfl ?_ | refine Br.mk (fun _ => ?_) (fun _ => ?_) | refine EndP.mk ?_ trivial | refine EndP.mk ?_ ⟨.inr ⟨List.mem_cons_self .., ?_, rfl⟩, trivial⟩ | refine Ar.i64 (by omega) ?_ | refine Ar.u8 (by omega) ?_ | refine Quo.pos (by omega) ?_ | refine Rem.pos (by omega) ?_ | refine BsP.own ?_ | refine SetN.two ?_ | refine SetN.one ?_ | refine Ob.mk ⟨rfl, rfl⟩ ?_ | refine Ob.mk (flat_i _ _).1 ?_ | refine Ob.mk (flat_i _ _) ?_ | refine Ob.mk (flat_s _) ?_ | refine Ob.mk (by first | omega | (simp; first | done | fail) | (simp; omega)) ?_ | fail
    all_goals first
      | (exfalso; omega)
      | (rw [decide_eq_true (by rw [hiff]; omega)]; rfl)
      | (rw [decide_eq_false (by rw [hiff]; omega)]; rfl)
      | (refine congrArg V.b ?_; rw [Bool.eq_iff_iff]; simp only [Bool.and_eq_true, decide_eq_true_eq, beq_iff_eq]; rw [hiff]; omega)
  · rw [show queueOk q = decide (qOn q) by unfold queueOk; rw [hb]; rfl]
    have hh : qHead q ↔ (0 ≤ q.next ∧ q.next ≤ 65535) ∧ (0 ≤ q.age ∧ q.age ≤ 20) ∧ q.held.length ≤ 24 := Iff.rfl
    by_cases hhd : qHead q
    · have hhd' := hh.1 hhd
      repeat' (conv => whnf); first | refine CallP.rd (l01In_vow _ _ _) rfl rfl rfl rfl ?_ | refine DCall.rd (l01In_vow _ _ _) rfl rfl ?_ | refine Br.tt ?_ | refine Br.ff ?_ | refine Br.not ?_ | refine Br.dand (fun _ => ?_) (fun _ => ?_) | refine Br.dec (fun _ => ?_) (fun _ => ?_) | refine Br.beq (fun _ => ?_) (fun _ => ?_) | refine Br.bne (fun _ => ?_) (fun _ => ?_) | refine Br.seq (fun _ => ?_) (fun _ => ?_) | refine Elt.i (by omega) ?_ | refine EltN.i (by omega) ?_ | refine Nt.cast ?_ | refine Nt.mk _ rfl ?_ | refine EltN.mk _ rfl ?_ | refine Mx.mk _ rfl ?_ | refine Br.mk (fun _ => ?_) (fun _ => ?_) | refine EndP.mk ?_ trivial | refine EndP.mk ?_ ⟨.inr ⟨List.mem_cons_self .., ?_, rfl⟩, trivial⟩ | refine Ar.i64 (by omega) ?_ | refine Ar.u8 (by omega) ?_ | refine Quo.pos (by omega) ?_ | refine Rem.pos (by omega) ?_ | refine BsP.own ?_ | refine SetN.two ?_ | refine SetN.one ?_ | refine Ob.mk ⟨rfl, rfl⟩ ?_ | refine Ob.mk (flat_i _ _).1 ?_ | refine Ob.mk (flat_i _ _) ?_ | refine Ob.mk (flat_s _) ?_ | refine Ob.mk (by first | omega | (simp; first | done | fail) | (simp; omega)) ?_ | fail
      all_goals try (exfalso; omega)
      all_goals (conv => whnf)
      refine LoopP.mk [1,2,3,4] (fun i : Nat => [(1, .bx [.b true, .i .i64 q.next, .i .i64 q.age, .sl (q.held.map packetVs), .i .i64 q.late, .i .i64 q.far, .i .i64 q.twice, .i .i64 q.over, .i .i64 q.lost]), (2, .b false), (3, .i .i64 (lastG q i)), (4, .i .i64 i)])
        (fun i => q.held.length - i) (fun i => i ≤ q.held.length ∧ ∀ j, j < i → heldOk q j) ?_ ?_
      · conv => whnf
        refine ⟨0, ⟨by omega, fun j hj => by omega⟩, ?_⟩
        try rw [hm]
        rfl
      · rintro i ⟨hi, ha⟩
        have hl := lastG_fit q i
        have hg := gapAt_fit q i
        by_cases hlt : i < q.held.length
        · have ga := gap_spec q.next (gt packetD q.held i).seq
          rw [show gap q.next (gt packetD q.held i).seq = gapAt q i from rfl] at ga
          have hdf : heldOk q i ↔ pktOk (gt packetD q.held i) ∧ lastG q i < gapAt q i ∧ gapAt q i < 40 := Iff.rfl
          have pk := pktOk_spec (gt packetD q.held i)
          have wi := trivial
          by_cases hp : pktOk (gt packetD q.held i)
          · rw [decide_eq_true hp] at pk
            repeat' (conv => whnf); first | refine Elt.gt packetD hlt ?_ | refine EltN.gt packetD hlt ?_ | refine CallP.rd (ga) rfl rfl rfl rfl ?_ | refine DCall.rd (ga) rfl rfl ?_ | refine CallP.rd (pk) rfl rfl rfl rfl ?_ | refine DCall.rd (pk) rfl rfl ?_ | refine Br.tt ?_ | refine Br.ff ?_ | refine Br.not ?_ | refine Br.dand (fun _ => ?_) (fun _ => ?_) | refine Br.dec (fun _ => ?_) (fun _ => ?_) | refine Br.beq (fun _ => ?_) (fun _ => ?_) | refine Br.bne (fun _ => ?_) (fun _ => ?_) | refine Br.seq (fun _ => ?_) (fun _ => ?_) | refine Elt.i (by omega) ?_ | refine EltN.i (by omega) ?_ | refine Nt.cast ?_ | refine Nt.mk _ rfl ?_ | refine EltN.mk _ rfl ?_ | refine Mx.mk _ rfl ?_ | refine Br.mk (fun _ => ?_) (fun _ => ?_) | refine EndP.mk ?_ trivial | refine EndP.mk ?_ ⟨.inr ⟨List.mem_cons_self .., ?_, rfl⟩, trivial⟩ | refine Ar.i64 (by omega) ?_ | refine Ar.u8 (by omega) ?_ | refine Quo.pos (by omega) ?_ | refine Rem.pos (by omega) ?_ | refine BsP.own ?_ | refine SetN.two ?_ | refine SetN.one ?_ | refine Ob.mk ⟨rfl, rfl⟩ ?_ | refine Ob.mk (flat_i _ _).1 ?_ | refine Ob.mk (flat_i _ _) ?_ | refine Ob.mk (flat_s _) ?_ | refine Ob.mk (by first | omega | (simp; first | done | fail) | (simp; omega)) ?_ | fail
            all_goals first
              | (exfalso; omega)
              | (rw [qOn_bad (i := i) hlt (fun h => by have := hdf.1 h; omega)]; rfl)
              | (conv => whnf
                 exact ⟨i + 1, ⟨by omega, all_next ha (hdf.2 ⟨hp, by omega, by omega⟩)⟩, by omega, rfl⟩)
          · rw [decide_eq_false hp] at pk
            repeat' (conv => whnf); first | refine Elt.gt packetD hlt ?_ | refine EltN.gt packetD hlt ?_ | refine CallP.rd (ga) rfl rfl rfl rfl ?_ | refine DCall.rd (ga) rfl rfl ?_ | refine CallP.rd (pk) rfl rfl rfl rfl ?_ | refine DCall.rd (pk) rfl rfl ?_ | refine Br.tt ?_ | refine Br.ff ?_ | refine Br.not ?_ | refine Br.dand (fun _ => ?_) (fun _ => ?_) | refine Br.dec (fun _ => ?_) (fun _ => ?_) | refine Br.beq (fun _ => ?_) (fun _ => ?_) | refine Br.bne (fun _ => ?_) (fun _ => ?_) | refine Br.seq (fun _ => ?_) (fun _ => ?_) | refine Elt.i (by omega) ?_ | refine EltN.i (by omega) ?_ | refine Nt.cast ?_ | refine Nt.mk _ rfl ?_ | refine EltN.mk _ rfl ?_ | refine Mx.mk _ rfl ?_ | refine Br.mk (fun _ => ?_) (fun _ => ?_) | refine EndP.mk ?_ trivial | refine EndP.mk ?_ ⟨.inr ⟨List.mem_cons_self .., ?_, rfl⟩, trivial⟩ | refine Ar.i64 (by omega) ?_ | refine Ar.u8 (by omega) ?_ | refine Quo.pos (by omega) ?_ | refine Rem.pos (by omega) ?_ | refine BsP.own ?_ | refine SetN.two ?_ | refine SetN.one ?_ | refine Ob.mk ⟨rfl, rfl⟩ ?_ | refine Ob.mk (flat_i _ _).1 ?_ | refine Ob.mk (flat_i _ _) ?_ | refine Ob.mk (flat_s _) ?_ | refine Ob.mk (by first | omega | (simp; first | done | fail) | (simp; omega)) ?_ | fail
            all_goals first
              | (exfalso; omega)
              | (rw [qOn_bad (i := i) hlt (fun h => hp (hdf.1 h).1)]; rfl)
        · obtain rfl : i = q.held.length := by omega
          have hiff : qOn q ↔ (0 ≤ q.late ∧ q.late ≤ 1000000000) ∧ (0 ≤ q.far ∧ q.far ≤ 1000000000) ∧ (0 ≤ q.twice ∧ q.twice ≤ 1000000000) ∧ (0 ≤ q.over ∧ q.over ≤ 1000000000) ∧ (0 ≤ q.lost ∧ q.lost ≤ 1000000000) :=
            ⟨fun k => k.2.2, fun k => ⟨hhd, ha, k⟩⟩
          repeat' (conv => whnf); first | refine CallP.rd (l23Count_vow _) rfl rfl rfl rfl ?_ | refine DCall.rd (l23Count_vow _) rfl rfl ?_ | refine Br.tt ?_ | refine Br.ff ?_ | refine Br.not ?_ | refine Br.dand (fun _ => ?_) (fun _ => ?_) | refine Br.dec (fun _ => ?_) (fun _ => ?_) | refine Br.beq (fun _ => ?_) (fun _ => ?_) | refine Br.bne (fun _ => ?_) (fun _ => ?_) | refine Br.seq (fun _ => ?_) (fun _ => ?_) | refine Elt.i (by omega) ?_ | refine EltN.i (by omega) ?_ | refine Nt.cast ?_ | refine Nt.mk _ rfl ?_ | refine EltN.mk _ rfl ?_ | refine Mx.mk _ rfl ?_ | refine Br.mk (fun _ => ?_) (fun _ => ?_) | refine EndP.mk ?_ trivial | refine EndP.mk ?_ ⟨.inr ⟨List.mem_cons_self .., ?_, rfl⟩, trivial⟩ | refine Ar.i64 (by omega) ?_ | refine Ar.u8 (by omega) ?_ | refine Quo.pos (by omega) ?_ | refine Rem.pos (by omega) ?_ | refine BsP.own ?_ | refine SetN.two ?_ | refine SetN.one ?_ | refine Ob.mk ⟨rfl, rfl⟩ ?_ | refine Ob.mk (flat_i _ _).1 ?_ | refine Ob.mk (flat_i _ _) ?_ | refine Ob.mk (flat_s _) ?_ | refine Ob.mk (by first | omega | (simp; first | done | fail) | (simp; omega)) ?_ | fail
          all_goals first
            | (exfalso; omega)
            | (rw [decide_eq_true (by rw [hiff]; omega)]; rfl)
            | (rw [decide_eq_false (by rw [hiff]; omega)]; rfl)
            | (refine congrArg V.b ?_; rw [Bool.eq_iff_iff]; simp only [Bool.and_eq_true, decide_eq_true_eq]; rw [hiff]; omega)
    · rw [decide_eq_false (fun k : qOn q => hhd k.1)]
      have hhd' := fun h => hhd (hh.2 h)
      repeat' (conv => whnf); first | refine CallP.rd (l01In_vow _ _ _) rfl rfl rfl rfl ?_ | refine DCall.rd (l01In_vow _ _ _) rfl rfl ?_ | refine Br.tt ?_ | refine Br.ff ?_ | refine Br.not ?_ | refine Br.dand (fun _ => ?_) (fun _ => ?_) | refine Br.dec (fun _ => ?_) (fun _ => ?_) | refine Br.beq (fun _ => ?_) (fun _ => ?_) | refine Br.bne (fun _ => ?_) (fun _ => ?_) | refine Br.seq (fun _ => ?_) (fun _ => ?_) | refine Elt.i (by omega) ?_ | refine EltN.i (by omega) ?_ | refine Nt.cast ?_ | refine Nt.mk _ rfl ?_ | refine EltN.mk _ rfl ?_ | refine Mx.mk _ rfl ?_ | refine Br.mk (fun _ => ?_) (fun _ => ?_) | refine EndP.mk ?_ trivial | refine EndP.mk ?_ ⟨.inr ⟨List.mem_cons_self .., ?_, rfl⟩, trivial⟩ | refine Ar.i64 (by omega) ?_ | refine Ar.u8 (by omega) ?_ | refine Quo.pos (by omega) ?_ | refine Rem.pos (by omega) ?_ | refine BsP.own ?_ | refine SetN.two ?_ | refine SetN.one ?_ | refine Ob.mk ⟨rfl, rfl⟩ ?_ | refine Ob.mk (flat_i _ _).1 ?_ | refine Ob.mk (flat_i _ _) ?_ | refine Ob.mk (flat_s _) ?_ | refine Ob.mk (by first | omega | (simp; first | done | fail) | (simp; omega)) ?_ | fail
      all_goals first
        | rfl
        | exact (hhd' ⟨by assumption, by assumption, by omega⟩).elim
end Go.Proofs.Ytjomgcgeknpehaa
