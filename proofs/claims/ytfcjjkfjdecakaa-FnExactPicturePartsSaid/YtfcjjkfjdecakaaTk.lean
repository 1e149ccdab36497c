/- Rows of signs. No condition. -/
import Derived.Test.YtfcjjkfjdecakaaSm
namespace Go.Proofs.Ytfcjjkfjdecakaa
open Go Go.Vx
set_option linter.unusedVariables false
set_option linter.unusedSimpArgs false
set_option maxHeartbeats 600000
set_option maxRecDepth 100000

def signAt (t : List UInt8) (j : Nat) : Prop := (rb t j).toNat = 48 ∨ (rb t j).toNat = 49
instance (t : List UInt8) (j : Nat) : Decidable (signAt t j) := by unfold signAt; infer_instance
def allSigns (t : List UInt8) : Prop := ∀ j, j < t.length → signAt t j
instance (t : List UInt8) : Decidable (allSigns t) := by unfold allSigns; infer_instance
def rowOk (t : List UInt8) : Prop := t.length ≤ 400000 ∧ allSigns t
instance (t : List UInt8) : Decidable (rowOk t) := by unfold rowOk; infer_instance
theorem sign_next {t : List UInt8} {i : Nat} (h : ∀ j, j < i → signAt t j) (hi : signAt t i) : ∀ j, j < i + 1 → signAt t j := fun j hj => by
  rcases Nat.lt_or_eq_of_le (Nat.le_of_lt_succ hj) with h1 | h1
  · exact h j h1
  · subst h1; exact hi

theorem l02Row_vow (t : List UInt8) (hl : t.length ≤ 9000000000000000000) : Vow Try.prog 131 [.s t] (.b (decide (allSigns t))) [] := by
  refine vow_of_ev (fn := Try.f131) [] [(0, 0), (0, 0), (4, 7), (8, 10), (10, 19), (0, 0), (0, 0)] tt_ok Try.func131 (by decide) rfl (Nat.le_of_ble_eq_true rfl) rfl rfl rfl ?_
  repeat' (conv => whnf); first | refine Br.tt ?_ | refine Br.ff ?_ | refine Br.not ?_ | refine Br.dand (fun _ => ?_) (fun _ => ?_) | refine Br.dec (fun _ => ?_) (fun _ => ?_) | refine Br.beq (fun _ => ?_) (fun _ => ?_) | refine Br.bne (fun _ => ?_) (fun _ => ?_) | refine Br.seq (fun _ => ?_) (fun _ => ?_) | refine Elt.i (by omega) ?_ | refine EltN.i (by omega) ?_ | refine Nt.cast ?_ | refine Nt.mk _ rfl ?_ | refine EltN.mk _ rfl ?_ | refine Mx.mk _ rfl ?_ | refine Br.mk (fun _ => ?_) (fun _ => ?_) | refine EndP.mk ?_ trivial | refine EndP.mk ?_ ⟨.inr ⟨List.mem_cons_self .., ?_, rfl⟩, trivial⟩ | refine Ar.i64 (by omega) ?_ | refine Ar.u8 (by omega) ?_ | refine Quo.pos (by omega) ?_ | refine Rem.pos (by omega) ?_ | refine BsP.own ?_ | refine Ob.mk ⟨rfl, rfl⟩ ?_ | refine Ob.mk (flat_i _ _).1 ?_ | refine Ob.mk (flat_i _ _) ?_ | refine Ob.mk (flat_s _) ?_ | refine Ob.mk (by first | omega | (simp; first | done | fail) | (simp; omega)) ?_ | fail
  · conv => whnf
    refine LoopP.mk [0,2,3] (fun i : Nat => [(0, .s t), (2, .b false), (3, .i .i64 i)]) (fun i => t.length - i) (fun i => i ≤ t.length ∧ ∀ j, j < i → signAt t j) ?_ ?_
    · conv => whnf
      exact ⟨0, ⟨by omega, fun j hj => by omega⟩, rfl⟩
    · rintro i ⟨hi, ha⟩
      have hb := (rb t i).toNat_lt
      repeat' (conv => whnf); first | refine Chr.at (by omega) ?_ | refine Br.tt ?_ | refine Br.ff ?_ | refine Br.not ?_ | refine Br.dand (fun _ => ?_) (fun _ => ?_) | refine Br.dec (fun _ => ?_) (fun _ => ?_) | refine Br.beq (fun _ => ?_) (fun _ => ?_) | refine Br.bne (fun _ => ?_) (fun _ => ?_) | refine Br.seq (fun _ => ?_) (fun _ => ?_) | refine Elt.i (by omega) ?_ | refine EltN.i (by omega) ?_ | refine Nt.cast ?_ | refine Nt.mk _ rfl ?_ | refine EltN.mk _ rfl ?_ | refine Mx.mk _ rfl ?_ | refine Br.mk (fun _ => ?_) (fun _ => ?_) | refine EndP.mk ?_ trivial | refine EndP.mk ?_ ⟨.inr ⟨List.mem_cons_self .., ?_, rfl⟩, trivial⟩ | refine Ar.i64 (by omega) ?_ | refine Ar.u8 (by omega) ?_ | refine Quo.pos (by omega) ?_ | refine Rem.pos (by omega) ?_ | refine BsP.own ?_ | refine Ob.mk ⟨rfl, rfl⟩ ?_ | refine Ob.mk (flat_i _ _).1 ?_ | refine Ob.mk (flat_i _ _) ?_ | refine Ob.mk (flat_s _) ?_ | refine Ob.mk (by first | omega | (simp; first | done | fail) | (simp; omega)) ?_ | fail
      all_goals first
        | (conv => whnf
           exact ⟨i + 1, ⟨by omega, sign_next ha (by unfold signAt; omega)⟩, by omega, rfl⟩)
        | (rw [decide_eq_false (show ¬ allSigns t from fun k => by have := k i (by omega); unfold signAt at this; omega)]; rfl)
        | (rw [decide_eq_true (show allSigns t from fun j hj => ha j (by omega))]; rfl)
theorem rowOk_spec (t : List UInt8) (hl : t.length ≤ 9000000000000000000) : Vow Try.prog 72 [.s t] (.b (decide (rowOk t))) [] := by
  refine vow_of_ev (fn := Try.f72) [] [(0, 0), (3, 10)] tt_ok Try.func72 (by decide) rfl (Nat.le_of_ble_eq_true rfl) rfl rfl rfl ?_
  repeat' (conv => whnf); first | refine CallP.rd (l02Row_vow t hl) rfl rfl rfl rfl ?_ | refine DCall.rd (l02Row_vow t hl) rfl rfl ?_ | refine Br.tt ?_ | refine Br.ff ?_ | refine Br.not ?_ | refine Br.dand (fun _ => ?_) (fun _ => ?_) | refine Br.dec (fun _ => ?_) (fun _ => ?_) | refine Br.beq (fun _ => ?_) (fun _ => ?_) | refine Br.bne (fun _ => ?_) (fun _ => ?_) | refine Br.seq (fun _ => ?_) (fun _ => ?_) | refine Elt.i (by omega) ?_ | refine EltN.i (by omega) ?_ | refine Nt.cast ?_ | refine Nt.mk _ rfl ?_ | refine EltN.mk _ rfl ?_ | refine Mx.mk _ rfl ?_ | refine Br.mk (fun _ => ?_) (fun _ => ?_) | refine EndP.mk ?_ trivial | refine EndP.mk ?_ ⟨.inr ⟨List.mem_cons_self .., ?_, rfl⟩, trivial⟩ | refine Ar.i64 (by omega) ?_ | refine Ar.u8 (by omega) ?_ | refine Quo.pos (by omega) ?_ | refine Rem.pos (by omega) ?_ | refine BsP.own ?_ | refine Ob.mk ⟨rfl, rfl⟩ ?_ | refine Ob.mk (flat_i _ _).1 ?_ | refine Ob.mk (flat_i _ _) ?_ | refine Ob.mk (flat_s _) ?_ | refine Ob.mk (by first | omega | (simp; first | done | fail) | (simp; omega)) ?_ | fail
  all_goals first
    | (rw [decide_eq_false (show ¬ rowOk t from fun k => by have := k.1; omega)]; rfl)
    | (by_cases hs : allSigns t
       · rw [decide_eq_true hs, decide_eq_true (show rowOk t from ⟨by omega, hs⟩)]; rfl
       · rw [decide_eq_false hs, decide_eq_false (show ¬ rowOk t from fun k => hs k.2)]; rfl)
theorem rowOk_impl (t : List UInt8) : Vow Try.prog 76 [.s t] (.b (decide (rowOk t))) [] := by
  refine vow_of_ev (fn := Try.f76) [] [(0, 0), (4, 6), (0, 0), (0, 0), (7, 10), (11, 13), (13, 22), (0, 0), (0, 0)] tt_ok Try.func76 (by decide) rfl (Nat.le_of_ble_eq_true rfl) rfl rfl rfl ?_
  repeat' (conv => whnf); first | refine Br.tt ?_ | refine Br.ff ?_ | refine Br.not ?_ | refine Br.dand (fun _ => ?_) (fun _ => ?_) | refine Br.dec (fun _ => ?_) (fun _ => ?_) | refine Br.beq (fun _ => ?_) (fun _ => ?_) | refine Br.bne (fun _ => ?_) (fun _ => ?_) | refine Br.seq (fun _ => ?_) (fun _ => ?_) | refine Elt.i (by omega) ?_ | refine EltN.i (by omega) ?_ | refine Nt.cast ?_ | refine Nt.mk _ rfl ?_ | refine EltN.mk _ rfl ?_ | refine Mx.mk _ rfl ?_ | refine Br.mk (fun _ => ?_) (fun _ => ?_) | refine EndP.mk ?_ trivial | refine EndP.mk ?_ ⟨.inr ⟨List.mem_cons_self .., ?_, rfl⟩, trivial⟩ | refine Ar.i64 (by omega) ?_ | refine Ar.u8 (by omega) ?_ | refine Quo.pos (by omega) ?_ | refine Rem.pos (by omega) ?_ | refine BsP.own ?_ | refine Ob.mk ⟨rfl, rfl⟩ ?_ | refine Ob.mk (flat_i _ _).1 ?_ | refine Ob.mk (flat_i _ _) ?_ | refine Ob.mk (flat_s _) ?_ | refine Ob.mk (by first | omega | (simp; first | done | fail) | (simp; omega)) ?_ | fail
  · rw [decide_eq_false (show ¬ rowOk t from fun k => by have := k.1; omega)]; rfl
  · conv => whnf
    refine LoopP.mk [0,2,3] (fun i : Nat => [(0, .s t), (2, .b false), (3, .i .i64 i)]) (fun i => t.length - i) (fun i => i ≤ t.length ∧ ∀ j, j < i → signAt t j) ?_ ?_
    · conv => whnf
      exact ⟨0, ⟨by omega, fun j hj => by omega⟩, rfl⟩
    · rintro i ⟨hi, ha⟩
      have hb := (rb t i).toNat_lt
      repeat' (conv => whnf); first | refine Chr.at (by omega) ?_ | refine Br.tt ?_ | refine Br.ff ?_ | refine Br.not ?_ | refine Br.dand (fun _ => ?_) (fun _ => ?_) | refine Br.dec (fun _ => ?_) (fun _ => ?_) | refine Br.beq (fun _ => ?_) (fun _ => ?_) | refine Br.bne (fun _ => ?_) (fun _ => ?_) | refine Br.seq (fun _ => ?_) (fun _ => ?_) | refine Elt.i (by omega) ?_ | refine EltN.i (by omega) ?_ | refine Nt.cast ?_ | refine Nt.mk _ rfl ?_ | refine EltN.mk _ rfl ?_ | refine Mx.mk _ rfl ?_ | refine Br.mk (fun _ => ?_) (fun _ => ?_) | refine EndP.mk ?_ trivial | refine EndP.mk ?_ ⟨.inr ⟨List.mem_cons_self .., ?_, rfl⟩, trivial⟩ | refine Ar.i64 (by omega) ?_ | refine Ar.u8 (by omega) ?_ | refine Quo.pos (by omega) ?_ | refine Rem.pos (by omega) ?_ | refine BsP.own ?_ | refine Ob.mk ⟨rfl, rfl⟩ ?_ | refine Ob.mk (flat_i _ _).1 ?_ | refine Ob.mk (flat_i _ _) ?_ | refine Ob.mk (flat_s _) ?_ | refine Ob.mk (by first | omega | (simp; first | done | fail) | (simp; omega)) ?_ | fail
      all_goals first
        | (conv => whnf
           exact ⟨i + 1, ⟨by omega, sign_next ha (by unfold signAt; omega)⟩, by omega, rfl⟩)
        | (rw [decide_eq_false (show ¬ rowOk t from fun k => by have := k.2 i (by omega); unfold signAt at this; omega)]; rfl)
        | (rw [decide_eq_true (show rowOk t from ⟨by omega, fun j hj => ha j (by omega)⟩)]; rfl)

/-- A number in so many signs. -/
def fixS : Nat → Nat → List UInt8
  | 0, _ => []
  | w + 1, n => fixS w (n / 2) ++ [UInt8.ofNat (48 + n % 2)]
theorem fixS_len : ∀ (w n : Nat), (fixS w n).length = w
  | 0, _ => rfl
  | w + 1, n => by simp [fixS, fixS_len w]
def fixRow (w : Nat) (tail : List UInt8) : List V := List.replicate w (.i .u8 0) ++ tail.map byteV
theorem fixRow_len (w : Nat) (tail : List UInt8) : (fixRow w tail).length = w + tail.length := by simp [fixRow]
theorem fixRow_set (w : Nat) (tail : List UInt8) (b : Nat) (hb : b < 256) : (fixRow (w + 1) tail).set w (.i .u8 (b : Int)) = fixRow w (UInt8.ofNat b :: tail) := by
  unfold fixRow
  rw [List.replicate_succ', List.append_assoc, List.set_append_right _ _ (by simp)]
  simp [byteV]
  omega
theorem fixRow_at (w : Nat) (tail : List UInt8) : (fixRow (w + 1) tail)[w]? = some (.i .u8 0) := by
  unfold fixRow
  rw [List.getElem?_append_left (by simp), List.getElem?_replicate, if_pos (by omega)]
theorem byt_tail (l : List UInt8) : allB (l.map byteV) = some l := by
  induction l with
  | nil => rfl
  | cons x r ih =>
    simp only [List.map_cons, allB, ih]
    simp [byteV, toB]

theorem _root_.Go.Vx.Nt.of {x : Int} {κ : Nat → Prop} (j : Nat) (h : x = (j : Int)) (g : κ j) : Nt x κ := .mk j (by omega) g
theorem fix_spec (n w : Nat) (hn : n ≤ 9000000000000000000) (hw : w ≤ 100) : Vow Try.prog 129 [.i .i64 n, .i .i64 w] (.s (fixS w n)) [] := by
  refine vow_of_ev (fn := Try.f129) [] [(0, 0), (7, 9), (9, 11), (11, 12), (13, 15), (15, 22), (22, 24), (24, 26)] tt_ok Try.func129 (by decide) rfl (Nat.le_of_ble_eq_true rfl) rfl rfl rfl ?_
  repeat' (conv => whnf); first | refine Br.tt ?_ | refine Br.ff ?_ | refine Br.not ?_ | refine Br.dand (fun _ => ?_) (fun _ => ?_) | refine Br.dec (fun _ => ?_) (fun _ => ?_) | refine Br.beq (fun _ => ?_) (fun _ => ?_) | refine Br.bne (fun _ => ?_) (fun _ => ?_) | refine Br.seq (fun _ => ?_) (fun _ => ?_) | refine Elt.i (by omega) ?_ | refine EltN.i (by omega) ?_ | refine Nt.cast ?_ | refine Nt.mk _ rfl ?_ | refine EltN.mk _ rfl ?_ | refine Mx.mk _ rfl ?_ | refine Br.mk (fun _ => ?_) (fun _ => ?_) | refine EndP.mk ?_ trivial | refine EndP.mk ?_ ⟨.inr ⟨List.mem_cons_self .., ?_, rfl⟩, trivial⟩ | refine Ar.i64 (by omega) ?_ | refine Ar.u8 (by omega) ?_ | refine Quo.pos (by omega) ?_ | refine Rem.pos (by omega) ?_ | refine BsP.own ?_ | refine Ob.mk ⟨rfl, rfl⟩ ?_ | refine Ob.mk (flat_i _ _).1 ?_ | refine Ob.mk (flat_i _ _) ?_ | refine Ob.mk (flat_s _) ?_ | refine Ob.mk (by first | omega | (simp; first | done | fail) | (simp; omega)) ?_ | fail
  · conv => whnf
    refine LoopP.mk [0,1,4,5,6] (fun ((i, m, tail) : Nat × Nat × List UInt8) => [(0, .i .i64 m), (1, .i .i64 w), (4, .s []), (5, .ow 1 (fixRow i tail)), (6, .i .i64 ((i : Int) - 1))]) (fun s => s.1)
      (fun (i, m, tail) => i ≤ w ∧ tail.length = w - i ∧ m ≤ 9000000000000000000 ∧ fixS i m ++ tail = fixS w n) ?_ ?_
    · conv => whnf
      refine ⟨(w, n, []), ⟨Nat.le_refl _, by simp, hn, by simp⟩, ?_⟩
      rw [show List.replicate (w : Int).toNat (V.i .u8 0) = fixRow w [] by simp [fixRow]]
    · rintro ⟨i, m, tail⟩ ⟨hi, ht, hm, he⟩
      have hl := fixRow_len i tail
      cases i with
      | zero =>
        repeat' (conv => whnf); first | refine Byt.mk tail (by simp [fixRow, byt_tail]) ?_ | refine Br.tt ?_ | refine Br.ff ?_ | refine Br.not ?_ | refine Br.dand (fun _ => ?_) (fun _ => ?_) | refine Br.dec (fun _ => ?_) (fun _ => ?_) | refine Br.beq (fun _ => ?_) (fun _ => ?_) | refine Br.bne (fun _ => ?_) (fun _ => ?_) | refine Br.seq (fun _ => ?_) (fun _ => ?_) | refine Elt.i (by omega) ?_ | refine EltN.i (by omega) ?_ | refine Nt.cast ?_ | refine Nt.mk _ rfl ?_ | refine EltN.mk _ rfl ?_ | refine Mx.mk _ rfl ?_ | refine Br.mk (fun _ => ?_) (fun _ => ?_) | refine EndP.mk ?_ trivial | refine EndP.mk ?_ ⟨.inr ⟨List.mem_cons_self .., ?_, rfl⟩, trivial⟩ | refine Ar.i64 (by omega) ?_ | refine Ar.u8 (by omega) ?_ | refine Quo.pos (by omega) ?_ | refine Rem.pos (by omega) ?_ | refine BsP.own ?_ | refine Ob.mk ⟨rfl, rfl⟩ ?_ | refine Ob.mk (flat_i _ _).1 ?_ | refine Ob.mk (flat_i _ _) ?_ | refine Ob.mk (flat_s _) ?_ | refine Ob.mk (by first | omega | (simp; first | done | fail) | (simp; omega)) ?_ | fail
        all_goals first
          | (exfalso; omega)
          | (rw [← he]; simp [fixS]; rfl)
      | succ j =>
        repeat' (conv => whnf); first | refine Nt.of j (by omega) ?_ | refine EltN.mk (.i .u8 0) (fixRow_at j tail) ?_ | refine Br.tt ?_ | refine Br.ff ?_ | refine Br.not ?_ | refine Br.dand (fun _ => ?_) (fun _ => ?_) | refine Br.dec (fun _ => ?_) (fun _ => ?_) | refine Br.beq (fun _ => ?_) (fun _ => ?_) | refine Br.bne (fun _ => ?_) (fun _ => ?_) | refine Br.seq (fun _ => ?_) (fun _ => ?_) | refine Elt.i (by omega) ?_ | refine EltN.i (by omega) ?_ | refine Nt.cast ?_ | refine Nt.mk _ rfl ?_ | refine EltN.mk _ rfl ?_ | refine Mx.mk _ rfl ?_ | refine Br.mk (fun _ => ?_) (fun _ => ?_) | refine EndP.mk ?_ trivial | refine EndP.mk ?_ ⟨.inr ⟨List.mem_cons_self .., ?_, rfl⟩, trivial⟩ | refine Ar.i64 (by omega) ?_ | refine Ar.u8 (by omega) ?_ | refine Quo.pos (by omega) ?_ | refine Rem.pos (by omega) ?_ | refine BsP.own ?_ | refine Ob.mk ⟨rfl, rfl⟩ ?_ | refine Ob.mk (flat_i _ _).1 ?_ | refine Ob.mk (flat_i _ _) ?_ | refine Ob.mk (flat_s _) ?_ | refine Ob.mk (by first | omega | (simp; first | done | fail) | (simp; omega)) ?_ | fail
        all_goals first
          | (exfalso; omega)
          | (conv => whnf
             refine ⟨(j, m / 2, UInt8.ofNat (48 + m % 2) :: tail), ⟨by omega, by simp; omega, by omega, by rw [← he]; simp [fixS]⟩, by show j < j + 1; omega, ?_⟩
             rw [show ((j + 1 : Nat) : Int) - 1 - 1 = (j : Int) - 1 by omega, show (48 + (m : Int) % 2) = ((48 + m % 2 : Nat) : Int) by omega, show (m : Int) / 2 = ((m / 2 : Nat) : Int) by omega, fixRow_set _ _ _ (by omega)])

def and1 (m : Nat) : Int := IntKind.i64.wrap (BitVec.ofInt IntKind.i64.bits (m : Int) &&& BitVec.ofInt IntKind.i64.bits 1).toNat
theorem and1_eq (m : Nat) (hm : m ≤ 9000000000000000000) : and1 m = ((m % 2 : Nat) : Int) := by
  unfold and1
  have h : (BitVec.ofInt IntKind.i64.bits (m : Int) &&& BitVec.ofInt IntKind.i64.bits 1).toNat = m % 2 := by
    rw [BitVec.toNat_and, BitVec.ofInt_natCast, BitVec.toNat_ofNat, show (1 : Int) = ((1 : Nat) : Int) from rfl, BitVec.ofInt_natCast, BitVec.toNat_ofNat]
    have e1 : m % 2 ^ IntKind.i64.bits = m := Nat.mod_eq_of_lt (by simp [IntKind.bits]; omega)
    have e2 : 1 % 2 ^ IntKind.i64.bits = 1 := by decide
    rw [e1, e2, Nat.and_one_is_mod]
  rw [h, IntWalk.i64_in _ (by omega)]
theorem shr1_eq (m : Nat) : (m : Int).fdiv (2 ^ min (1 : Int).toNat IntKind.i64.bits) = ((m / 2 : Nat) : Int) := by
  have : (2 : Int) ^ min (1 : Int).toNat IntKind.i64.bits = 2 := by decide
  rw [this, Int.fdiv_eq_ediv_of_nonneg _ (by omega)]
  omega
theorem fix_impl (n w : Nat) (hn : n ≤ 9000000000000000000) (hw : w ≤ 100) : Vow Try.prog 137 [.i .i64 n, .i .i64 w] (.s (fixS w n)) [] := by
  refine vow_of_ev (fn := Try.f137) [] [(0, 0), (7, 9), (9, 11), (11, 12), (13, 15), (15, 22), (22, 24), (24, 26)] tt_ok Try.func137 (by decide) rfl (Nat.le_of_ble_eq_true rfl) rfl rfl rfl ?_
  repeat' (conv => whnf); first | refine Br.tt ?_ | refine Br.ff ?_ | refine Br.not ?_ | refine Br.dand (fun _ => ?_) (fun _ => ?_) | refine Br.dec (fun _ => ?_) (fun _ => ?_) | refine Br.beq (fun _ => ?_) (fun _ => ?_) | refine Br.bne (fun _ => ?_) (fun _ => ?_) | refine Br.seq (fun _ => ?_) (fun _ => ?_) | refine Elt.i (by omega) ?_ | refine EltN.i (by omega) ?_ | refine Nt.cast ?_ | refine Nt.mk _ rfl ?_ | refine EltN.mk _ rfl ?_ | refine Mx.mk _ rfl ?_ | refine Br.mk (fun _ => ?_) (fun _ => ?_) | refine EndP.mk ?_ trivial | refine EndP.mk ?_ ⟨.inr ⟨List.mem_cons_self .., ?_, rfl⟩, trivial⟩ | refine Ar.i64 (by omega) ?_ | refine Ar.u8 (by omega) ?_ | refine Quo.pos (by omega) ?_ | refine Rem.pos (by omega) ?_ | refine BsP.own ?_ | refine Ob.mk ⟨rfl, rfl⟩ ?_ | refine Ob.mk (flat_i _ _).1 ?_ | refine Ob.mk (flat_i _ _) ?_ | refine Ob.mk (flat_s _) ?_ | refine Ob.mk (by first | omega | (simp; first | done | fail) | (simp; omega)) ?_ | fail
  · conv => whnf
    refine LoopP.mk [0,1,4,5,6] (fun ((i, m, tail) : Nat × Nat × List UInt8) => [(0, .i .i64 m), (1, .i .i64 w), (4, .s []), (5, .ow 1 (fixRow i tail)), (6, .i .i64 ((i : Int) - 1))]) (fun s => s.1)
      (fun (i, m, tail) => i ≤ w ∧ tail.length = w - i ∧ m ≤ 9000000000000000000 ∧ fixS i m ++ tail = fixS w n) ?_ ?_
    · conv => whnf
      refine ⟨(w, n, []), ⟨Nat.le_refl _, by simp, hn, by simp⟩, ?_⟩
      rw [show List.replicate (w : Int).toNat (V.i .u8 0) = fixRow w [] by simp [fixRow]]
    · rintro ⟨i, m, tail⟩ ⟨hi, ht, hm, he⟩
      have hl := fixRow_len i tail
      cases i with
      | zero =>
        repeat' (conv => whnf); first | refine Byt.mk tail (by simp [fixRow, byt_tail]) ?_ | refine Br.tt ?_ | refine Br.ff ?_ | refine Br.not ?_ | refine Br.dand (fun _ => ?_) (fun _ => ?_) | refine Br.dec (fun _ => ?_) (fun _ => ?_) | refine Br.beq (fun _ => ?_) (fun _ => ?_) | refine Br.bne (fun _ => ?_) (fun _ => ?_) | refine Br.seq (fun _ => ?_) (fun _ => ?_) | refine Elt.i (by omega) ?_ | refine EltN.i (by omega) ?_ | refine Nt.cast ?_ | refine Nt.mk _ rfl ?_ | refine EltN.mk _ rfl ?_ | refine Mx.mk _ rfl ?_ | refine Br.mk (fun _ => ?_) (fun _ => ?_) | refine EndP.mk ?_ trivial | refine EndP.mk ?_ ⟨.inr ⟨List.mem_cons_self .., ?_, rfl⟩, trivial⟩ | refine Ar.i64 (by omega) ?_ | refine Ar.u8 (by omega) ?_ | refine Quo.pos (by omega) ?_ | refine Rem.pos (by omega) ?_ | refine BsP.own ?_ | refine Ob.mk ⟨rfl, rfl⟩ ?_ | refine Ob.mk (flat_i _ _).1 ?_ | refine Ob.mk (flat_i _ _) ?_ | refine Ob.mk (flat_s _) ?_ | refine Ob.mk (by first | omega | (simp; first | done | fail) | (simp; omega)) ?_ | fail
        all_goals first
          | (exfalso; omega)
          | (rw [← he]; simp [fixS]; rfl)
      | succ j =>
        have ea := and1_eq m hm
        have eb : 0 ≤ and1 m ∧ and1 m ≤ 1 := by omega
        repeat' (conv => whnf); first | refine Nt.of j (by omega) ?_ | refine EltN.mk (.i .u8 0) (fixRow_at j tail) ?_ | refine Shr.mk (by decide) ?_ | refine Ar.i64 (x := 48 + and1 m) (by omega) ?_ | refine Ar.u8 (x := 48 + and1 m) (by omega) ?_ | refine Br.tt ?_ | refine Br.ff ?_ | refine Br.not ?_ | refine Br.dand (fun _ => ?_) (fun _ => ?_) | refine Br.dec (fun _ => ?_) (fun _ => ?_) | refine Br.beq (fun _ => ?_) (fun _ => ?_) | refine Br.bne (fun _ => ?_) (fun _ => ?_) | refine Br.seq (fun _ => ?_) (fun _ => ?_) | refine Elt.i (by omega) ?_ | refine EltN.i (by omega) ?_ | refine Nt.cast ?_ | refine Nt.mk _ rfl ?_ | refine EltN.mk _ rfl ?_ | refine Mx.mk _ rfl ?_ | refine Br.mk (fun _ => ?_) (fun _ => ?_) | refine EndP.mk ?_ trivial | refine EndP.mk ?_ ⟨.inr ⟨List.mem_cons_self .., ?_, rfl⟩, trivial⟩ | refine Ar.i64 (by omega) ?_ | refine Ar.u8 (by omega) ?_ | refine Quo.pos (by omega) ?_ | refine Rem.pos (by omega) ?_ | refine BsP.own ?_ | refine Ob.mk ⟨rfl, rfl⟩ ?_ | refine Ob.mk (flat_i _ _).1 ?_ | refine Ob.mk (flat_i _ _) ?_ | refine Ob.mk (flat_s _) ?_ | refine Ob.mk (by first | omega | (simp; first | done | fail) | (simp; omega)) ?_ | fail
        all_goals first
          | (exfalso; omega)
          | (conv => whnf
             refine ⟨(j, m / 2, UInt8.ofNat (48 + m % 2) :: tail), ⟨by omega, by simp; omega, by omega, by rw [← he]; simp [fixS]⟩, by show j < j + 1; omega, ?_⟩
             rw [show ((j + 1 : Nat) : Int) - 1 - 1 = (j : Int) - 1 by omega, show (48 + and1 m) = ((48 + m % 2 : Nat) : Int) by omega, shr1_eq m, fixRow_set _ _ _ (by omega)])
end Go.Proofs.Ytfcjjkfjdecakaa
