/- Packets' numbers and queues that are right. No condition. -/
import Derived.Test.YtjomgcgeknpehaaBj
import Derived.Test.YtjomgcgeknpehaaTe
namespace Go.Proofs.Ytjomgcgeknpehaa
open Go Go.Vx
set_option linter.unusedVariables false
set_option linter.unusedSimpArgs false
set_option maxHeartbeats 600000
set_option maxRecDepth 100000


def num (n : Int) : Prop := 0 ≤ n ∧ n ≤ 65535
instance (n : Int) : Decidable (num n) := by unfold num; infer_instance
def gap (a b : Int) : Int := if num a ∧ num b then if b - a > 32767 then b - a - 65536 else if b - a < -32768 then b - a + 65536 else b - a else 0
theorem isNum_vow (n : Int) : Vow Try.prog 90 [.i .i64 n] (.b (decide (0 ≤ n) && decide (n ≤ 65535))) [] := by
  refine vow_of_ev (fn := Try.f90) [] [(0, 0), (3, 5)] tt_ok Try.func90 (by decide) rfl (Nat.le_of_ble_eq_true rfl) rfl rfl rfl ?_
  repeat' (conv => whnf); first | refine CallP.rd (within_vow _ _ _) rfl rfl rfl rfl ?_ | refine Br.tt ?_ | refine Br.ff ?_ | refine Br.not ?_ | refine Br.dand (fun _ => ?_) (fun _ => ?_) | refine Br.dec (fun _ => ?_) (fun _ => ?_) | refine Br.beq (fun _ => ?_) (fun _ => ?_) | refine Br.bne (fun _ => ?_) (fun _ => ?_) | refine Br.seq (fun _ => ?_) (fun _ => ?_) | refine Elt.i (by omega) ?_ | refine EltN.i (by omega) ?_ | refine Nt.cast ?_ | refine Nt.mk _ rfl ?_ | refine EltN.mk _ rfl ?_ | refine Mx.mk _ rfl ?_ | refine Br.mk (fun _ => ?_) (fun _ => ?_) | refine EndP.mk ?_ trivial | refine EndP.mk ?_ ⟨.inr ⟨List.mem_cons_self .., ?_, rfl⟩, trivial⟩ | refine Ar.i64 (by omega) ?_ | refine Ar.u8 (by omega) ?_ | refine Quo.pos (by omega) ?_ | refine Rem.pos (by omega) ?_ | refine BsP.own ?_ | refine SetN.two ?_ | refine SetN.one ?_ | refine Ob.mk ⟨rfl, rfl⟩ ?_ | refine Ob.mk (flat_i _ _).1 ?_ | refine Ob.mk (flat_i _ _) ?_ | refine Ob.mk (flat_s _) ?_ | refine Ob.mk (by first | omega | (simp; first | done | fail) | (simp; omega)) ?_ | fail
  rfl
theorem gap_impl (a b : Int) : Vow Try.prog 132 [.i .i64 a, .i .i64 b] (.i .i64 (gap a b)) [] := by
  refine vow_of_ev (fn := Try.f132) [] [(0, 0), (6, 13), (0, 0), (14, 19), (19, 20), (21, 23), (23, 24)] tt_ok Try.func132 (by decide) rfl (Nat.le_of_ble_eq_true rfl) rfl rfl rfl ?_
  repeat' (conv => whnf); first | refine CallP.rd (isNum_vow _) rfl rfl rfl rfl ?_ | refine DCall.rd (isNum_vow _) rfl rfl ?_ | refine Br.tt ?_ | refine Br.ff ?_ | refine Br.not ?_ | refine Br.dand (fun _ => ?_) (fun _ => ?_) | refine Br.dec (fun _ => ?_) (fun _ => ?_) | refine Br.beq (fun _ => ?_) (fun _ => ?_) | refine Br.bne (fun _ => ?_) (fun _ => ?_) | refine Br.seq (fun _ => ?_) (fun _ => ?_) | refine Elt.i (by omega) ?_ | refine EltN.i (by omega) ?_ | refine Nt.cast ?_ | refine Nt.mk _ rfl ?_ | refine EltN.mk _ rfl ?_ | refine Mx.mk _ rfl ?_ | refine Br.mk (fun _ => ?_) (fun _ => ?_) | refine EndP.mk ?_ trivial | refine EndP.mk ?_ ⟨.inr ⟨List.mem_cons_self .., ?_, rfl⟩, trivial⟩ | refine Ar.i64 (by omega) ?_ | refine Ar.u8 (by omega) ?_ | refine Quo.pos (by omega) ?_ | refine Rem.pos (by omega) ?_ | refine BsP.own ?_ | refine SetN.two ?_ | refine SetN.one ?_ | refine Ob.mk ⟨rfl, rfl⟩ ?_ | refine Ob.mk (flat_i _ _).1 ?_ | refine Ob.mk (flat_i _ _) ?_ | refine Ob.mk (flat_s _) ?_ | refine Ob.mk (by first | omega | (simp; first | done | fail) | (simp; omega)) ?_ | fail
  all_goals first
    | (exfalso; omega)
    | (rw [show gap a b = 0 by unfold gap num; rw [if_neg (by omega)]]; rfl)
    | (rw [show gap a b = (b - a + 65536) % 65536 by unfold gap num; rw [if_pos (by omega)]; split <;> (try split) <;> omega]; rfl)
    | (rw [show gap a b = (b - a + 65536) % 65536 - 65536 by unfold gap num; rw [if_pos (by omega)]; split <;> (try split) <;> omega]; rfl)
theorem gap_spec (a b : Int) : Vow Try.prog 162 [.i .i64 a, .i .i64 b] (.i .i64 (gap a b)) [] := by
  refine vow_of_ev (fn := Try.f162) [] [(0, 0), (6, 13), (0, 0), (14, 17), (17, 18), (19, 21), (21, 22), (23, 25), (25, 26)] tt_ok Try.func162 (by decide) rfl (Nat.le_of_ble_eq_true rfl) rfl rfl rfl ?_
  repeat' (conv => whnf); first | refine CallP.rd (l01In_vow _ _ _) rfl rfl rfl rfl ?_ | refine DCall.rd (l01In_vow _ _ _) rfl rfl ?_ | refine Br.tt ?_ | refine Br.ff ?_ | refine Br.not ?_ | refine Br.dand (fun _ => ?_) (fun _ => ?_) | refine Br.dec (fun _ => ?_) (fun _ => ?_) | refine Br.beq (fun _ => ?_) (fun _ => ?_) | refine Br.bne (fun _ => ?_) (fun _ => ?_) | refine Br.seq (fun _ => ?_) (fun _ => ?_) | refine Elt.i (by omega) ?_ | refine EltN.i (by omega) ?_ | refine Nt.cast ?_ | refine Nt.mk _ rfl ?_ | refine EltN.mk _ rfl ?_ | refine Mx.mk _ rfl ?_ | refine Br.mk (fun _ => ?_) (fun _ => ?_) | refine EndP.mk ?_ trivial | refine EndP.mk ?_ ⟨.inr ⟨List.mem_cons_self .., ?_, rfl⟩, trivial⟩ | refine Ar.i64 (by omega) ?_ | refine Ar.u8 (by omega) ?_ | refine Quo.pos (by omega) ?_ | refine Rem.pos (by omega) ?_ | refine BsP.own ?_ | refine SetN.two ?_ | refine SetN.one ?_ | refine Ob.mk ⟨rfl, rfl⟩ ?_ | refine Ob.mk (flat_i _ _).1 ?_ | refine Ob.mk (flat_i _ _) ?_ | refine Ob.mk (flat_s _) ?_ | refine Ob.mk (by first | omega | (simp; first | done | fail) | (simp; omega)) ?_ | fail
  all_goals first
    | (exfalso; omega)
    | (rw [show gap a b = 0 by unfold gap num; rw [if_neg (by omega)]]; rfl)
    | (rw [show gap a b = b - a by unfold gap num; rw [if_pos (by omega)]; split <;> (try split) <;> omega]; rfl)
    | (rw [show gap a b = b - a - 65536 by unfold gap num; rw [if_pos (by omega)]; split <;> (try split) <;> omega]; rfl)
    | (rw [show gap a b = b - a + 65536 by unfold gap num; rw [if_pos (by omega)]; split <;> (try split) <;> omega]; rfl)
theorem gap_fit (a b : Int) : -32768 ≤ gap a b ∧ gap a b ≤ 32767 := by
  unfold gap num
  split
  · split
    · omega
    · split <;> omega
  · omega
def pktOk (p : PacketD) : Prop := num p.seq ∧ 1 ≤ p.bytes.length ∧ p.bytes.length ≤ 400
instance (p : PacketD) : Decidable (pktOk p) := by unfold pktOk; infer_instance
theorem pktOk_impl (p : PacketD) : Vow Try.prog 133 [packetVs p] (.b (decide (pktOk p))) [] := by
  refine vow_of_ev (fn := Try.f133) [] [(0, 0), (3, 12)] tt_ok Try.func133 (by decide) rfl (Nat.le_of_ble_eq_true rfl) rfl rfl rfl ?_
  repeat' (conv => whnf); first | refine CallP.rd (isNum_vow _) rfl rfl rfl rfl ?_ | refine DCall.rd (isNum_vow _) rfl rfl ?_ | refine CallP.rd (within_vow _ _ _) rfl rfl rfl rfl ?_ | refine DCall.rd (within_vow _ _ _) rfl rfl ?_ | refine Br.tt ?_ | refine Br.ff ?_ | refine Br.not ?_ | refine Br.dand (fun _ => ?_) (fun _ => ?_) | refine Br.dec (fun _ => ?_) (fun _ => ?_) | refine Br.beq (fun _ => ?_) (fun _ => ?_) | refine Br.bne (fun _ => ?_) (fun _ => ?_) | refine Br.seq (fun _ => ?_) (fun _ => ?_) | refine Elt.i (by omega) ?_ | refine EltN.i (by omega) ?_ | refine Nt.cast ?_ | refine Nt.mk _ rfl ?_ | refine EltN.mk _ rfl ?_ | refine Mx.mk _ rfl ?_ | refine Br.mk (fun _ => ?_) (fun _ => ?_) | refine EndP.mk ?_ trivial | refine EndP.mk ?_ ⟨.inr ⟨List.mem_cons_self .., ?_, rfl⟩, trivial⟩ | refine Ar.i64 (by omega) ?_ | refine Ar.u8 (by omega) ?_ | refine Quo.pos (by omega) ?_ | refine Rem.pos (by omega) ?_ | refine BsP.own ?_ | refine SetN.two ?_ | refine SetN.one ?_ | refine Ob.mk ⟨rfl, rfl⟩ ?_ | refine Ob.mk (flat_i _ _).1 ?_ | refine Ob.mk (flat_i _ _) ?_ | refine Ob.mk (flat_s _) ?_ | refine Ob.mk (by first | omega | (simp; first | done | fail) | (simp; omega)) ?_ | fail
  all_goals first
    | (exfalso; omega)
    | (refine congrArg V.b ?_; rw [Bool.eq_iff_iff]; simp only [Bool.and_eq_true, decide_eq_true_eq]; unfold pktOk num; omega)
    | (rw [decide_eq_true (show pktOk p by unfold pktOk num; omega)]; rfl)
    | (rw [decide_eq_false (show ¬ pktOk p by unfold pktOk num; omega)]; rfl)
theorem pktOk_spec (p : PacketD) : Vow Try.prog 163 [packetVs p] (.b (decide (pktOk p))) [] := by
  refine vow_of_ev (fn := Try.f163) [] [(0, 0), (3, 12)] tt_ok Try.func163 (by decide) rfl (Nat.le_of_ble_eq_true rfl) rfl rfl rfl ?_
  repeat' (conv => whnf); first | refine CallP.rd (l01In_vow _ _ _) rfl rfl rfl rfl ?_ | refine DCall.rd (l01In_vow _ _ _) rfl rfl ?_ | refine Br.tt ?_ | refine Br.ff ?_ | refine Br.not ?_ | refine Br.dand (fun _ => ?_) (fun _ => ?_) | refine Br.dec (fun _ => ?_) (fun _ => ?_) | refine Br.beq (fun _ => ?_) (fun _ => ?_) | refine Br.bne (fun _ => ?_) (fun _ => ?_) | refine Br.seq (fun _ => ?_) (fun _ => ?_) | refine Elt.i (by omega) ?_ | refine EltN.i (by omega) ?_ | refine Nt.cast ?_ | refine Nt.mk _ rfl ?_ | refine EltN.mk _ rfl ?_ | refine Mx.mk _ rfl ?_ | refine Br.mk (fun _ => ?_) (fun _ => ?_) | refine EndP.mk ?_ trivial | refine EndP.mk ?_ ⟨.inr ⟨List.mem_cons_self .., ?_, rfl⟩, trivial⟩ | refine Ar.i64 (by omega) ?_ | refine Ar.u8 (by omega) ?_ | refine Quo.pos (by omega) ?_ | refine Rem.pos (by omega) ?_ | refine BsP.own ?_ | refine SetN.two ?_ | refine SetN.one ?_ | refine Ob.mk ⟨rfl, rfl⟩ ?_ | refine Ob.mk (flat_i _ _).1 ?_ | refine Ob.mk (flat_i _ _) ?_ | refine Ob.mk (flat_s _) ?_ | refine Ob.mk (by first | omega | (simp; first | done | fail) | (simp; omega)) ?_ | fail
  all_goals first
    | (exfalso; omega)
    | (refine congrArg V.b ?_; rw [Bool.eq_iff_iff]; simp only [Bool.and_eq_true, decide_eq_true_eq]; unfold pktOk num; omega)
    | (rw [decide_eq_true (show pktOk p by unfold pktOk num; omega)]; rfl)
    | (rw [decide_eq_false (show ¬ pktOk p by unfold pktOk num; omega)]; rfl)
end Go.Proofs.Ytjomgcgeknpehaa
