/- A scan of a row of signs: the program's side. No condition. -/
import Derived.Test.YtfcjjkfjdecakaaTv
namespace Go.Proofs.Ytfcjjkfjdecakaa
open Go Go.Vx
set_option linter.unusedVariables false
set_option linter.unusedSimpArgs false
set_option maxHeartbeats 600000
set_option maxRecDepth 100000

def scanV (t : List UInt8) (a : Nat) (b : Bool) : V := .bx [.s t, .i .i64 a, .b b]

theorem opened_vow (t : List UInt8) : Vow Try.prog 145 [.s t, .i .i64 0] (scanV t 0 (!decide (rowOk t))) [] := by
  have f1 := rowOk_impl t
  by_cases h : rowOk t
  · rw [decide_eq_true h] at f1 ⊢
    have h1 := h.1
    refine vow_of_ev (fn := Try.f145) [] [(0, 0), (5, 19)] tt_ok Try.func145 (by decide) rfl (Nat.le_of_ble_eq_true rfl) rfl rfl rfl ?_
    have hb : decide ((0 : Int) ≤ (t.length : Int)) = true := by simp
    repeat' (conv => whnf); first | refine CallP.rd (f1) rfl rfl rfl rfl ?_ | refine DCall.rd (f1) rfl rfl ?_ | refine CallP.rd (within_vow _ _ _) rfl rfl rfl rfl ?_ | refine DCall.rd (within_vow _ _ _) rfl rfl ?_ | refine Br.tt ?_ | refine Br.ff ?_ | refine Br.not ?_ | refine Br.dand (fun _ => ?_) (fun _ => ?_) | refine Br.dec (fun _ => ?_) (fun _ => ?_) | refine Br.beq (fun _ => ?_) (fun _ => ?_) | refine Br.bne (fun _ => ?_) (fun _ => ?_) | refine Br.seq (fun _ => ?_) (fun _ => ?_) | refine Elt.i (by omega) ?_ | refine EltN.i (by omega) ?_ | refine Nt.cast ?_ | refine Nt.mk _ rfl ?_ | refine EltN.mk _ rfl ?_ | refine Mx.mk _ rfl ?_ | refine Br.mk (fun _ => ?_) (fun _ => ?_) | refine EndP.mk ?_ trivial | refine EndP.mk ?_ ⟨.inr ⟨List.mem_cons_self .., ?_, rfl⟩, trivial⟩ | refine Ar.i64 (by omega) ?_ | refine Ar.u8 (by omega) ?_ | refine Quo.pos (by omega) ?_ | refine Rem.pos (by omega) ?_ | refine BsP.own ?_ | refine Ob.mk ⟨rfl, rfl⟩ ?_ | refine Ob.mk (flat_i _ _).1 ?_ | refine Ob.mk (flat_i _ _) ?_ | refine Ob.mk (flat_s _) ?_ | refine Ob.mk (by first | omega | (simp; first | done | fail) | (simp; omega)) ?_ | fail
    rw [hb]
    rfl
  · rw [decide_eq_false h] at f1 ⊢
    refine vow_of_ev (fn := Try.f145) [] [(0, 0), (5, 19)] tt_ok Try.func145 (by decide) rfl (Nat.le_of_ble_eq_true rfl) rfl rfl rfl ?_
    repeat' (conv => whnf); first | refine CallP.rd (f1) rfl rfl rfl rfl ?_ | refine DCall.rd (f1) rfl rfl ?_ | refine Br.tt ?_ | refine Br.ff ?_ | refine Br.not ?_ | refine Br.dand (fun _ => ?_) (fun _ => ?_) | refine Br.dec (fun _ => ?_) (fun _ => ?_) | refine Br.beq (fun _ => ?_) (fun _ => ?_) | refine Br.bne (fun _ => ?_) (fun _ => ?_) | refine Br.seq (fun _ => ?_) (fun _ => ?_) | refine Elt.i (by omega) ?_ | refine EltN.i (by omega) ?_ | refine Nt.cast ?_ | refine Nt.mk _ rfl ?_ | refine EltN.mk _ rfl ?_ | refine Mx.mk _ rfl ?_ | refine Br.mk (fun _ => ?_) (fun _ => ?_) | refine EndP.mk ?_ trivial | refine EndP.mk ?_ ⟨.inr ⟨List.mem_cons_self .., ?_, rfl⟩, trivial⟩ | refine Ar.i64 (by omega) ?_ | refine Ar.u8 (by omega) ?_ | refine Quo.pos (by omega) ?_ | refine Rem.pos (by omega) ?_ | refine BsP.own ?_ | refine Ob.mk ⟨rfl, rfl⟩ ?_ | refine Ob.mk (flat_i _ _).1 ?_ | refine Ob.mk (flat_i _ _) ?_ | refine Ob.mk (flat_s _) ?_ | refine Ob.mk (by first | omega | (simp; first | done | fail) | (simp; omega)) ?_ | fail
    rfl

def or64 (a b : Int) : Int := IntKind.i64.wrap (BitVec.ofInt IntKind.i64.bits a ||| BitVec.ofInt IntKind.i64.bits b).toNat
theorem or64_bit {n b : Nat} (hn : n ≤ 4000000000000000000) (hb : b ≤ 1) : or64 ((2 * n : Nat) : Int) (b : Int) = ((2 * n + b : Nat) : Int) := by
  have hB : IntKind.i64.bits = 64 := rfl
  have h1 : (BitVec.ofInt 64 ((2 * n : Nat) : Int) ||| BitVec.ofInt 64 (b : Int)).toNat = 2 * n + b := by
    rw [BitVec.toNat_or, BitVec.ofInt_natCast, BitVec.ofInt_natCast, BitVec.toNat_ofNat, BitVec.toNat_ofNat, Nat.mod_eq_of_lt (by omega), Nat.mod_eq_of_lt (by omega)]
    have := Nat.shiftLeft_add_eq_or_of_lt (show b < 2 ^ 1 by omega) n
    rw [Nat.shiftLeft_eq] at this
    rw [show 2 * n = n * 2 ^ 1 by omega, ← this]
  unfold or64
  rw [hB, h1, IntWalk.i64_in _ (by omega)]

theorem shl1_to {n : Nat} (h : n ≤ 4000000000000000000) : IntKind.i64.wrap ((n : Int) * 2 ^ min (1 : Int).toNat IntKind.i64.bits) = ((2 * n : Nat) : Int) := by
  have hB : IntKind.i64.bits = 64 := rfl
  rw [hB, show min (1 : Int).toNat 64 = 1 from rfl]
  rw [show (n : Int) * 2 ^ 1 = ((2 * n : Nat) : Int) by omega, IntWalk.i64_in _ (by omega)]

theorem fix_bad (t : List UInt8) (a : Nat) (w : Int) : Vow Try.prog 147 [scanV t a true, .i .i64 w] (.i .i64 0) [scanV t a true] := by
  refine vow_of_ev (fn := Try.f147) [0] [(0, 0), (7, 24), (25, 28), (0, 0), (0, 0), (0, 0), (28, 30), (31, 33), (33, 49), (49, 58), (58, 59)] tt_ok Try.func147 (by decide) rfl (Nat.le_of_ble_eq_true rfl) rfl rfl rfl ?_
  repeat' (conv => whnf); first | refine Br.tt ?_ | refine Br.ff ?_ | refine Br.not ?_ | refine Br.dand (fun _ => ?_) (fun _ => ?_) | refine Br.dec (fun _ => ?_) (fun _ => ?_) | refine Br.beq (fun _ => ?_) (fun _ => ?_) | refine Br.bne (fun _ => ?_) (fun _ => ?_) | refine Br.seq (fun _ => ?_) (fun _ => ?_) | refine Elt.i (by omega) ?_ | refine EltN.i (by omega) ?_ | refine Nt.cast ?_ | refine Nt.mk _ rfl ?_ | refine EltN.mk _ rfl ?_ | refine Mx.mk _ rfl ?_ | refine Br.mk (fun _ => ?_) (fun _ => ?_) | refine EndP.mk ?_ trivial | refine EndP.mk ?_ ⟨.inr ⟨List.mem_cons_self .., ?_, rfl⟩, trivial⟩ | refine Ar.i64 (by omega) ?_ | refine Ar.u8 (by omega) ?_ | refine Quo.pos (by omega) ?_ | refine Rem.pos (by omega) ?_ | refine BsP.own ?_ | refine Ob.mk ⟨rfl, rfl⟩ ?_ | refine Ob.mk (flat_i _ _).1 ?_ | refine Ob.mk (flat_i _ _) ?_ | refine Ob.mk (flat_s _) ?_ | refine Ob.mk (by first | omega | (simp; first | done | fail) | (simp; omega)) ?_ | fail
  all_goals rfl
theorem fix_short (t : List UInt8) (hl : t.length ≤ 1000000) (a w : Nat) (ha : a ≤ t.length) (hw : w ≤ 2000100) (h : ¬ a + w ≤ t.length) : Vow Try.prog 147 [scanV t a false, .i .i64 w] (.i .i64 0) [scanV t a true] := by
  refine vow_of_ev (fn := Try.f147) [0] [(0, 0), (7, 24), (25, 28), (0, 0), (0, 0), (0, 0), (28, 30), (31, 33), (33, 49), (49, 58), (58, 59)] tt_ok Try.func147 (by decide) rfl (Nat.le_of_ble_eq_true rfl) rfl rfl rfl ?_
  repeat' (conv => whnf); first | refine Br.tt ?_ | refine Br.ff ?_ | refine Br.not ?_ | refine Br.dand (fun _ => ?_) (fun _ => ?_) | refine Br.dec (fun _ => ?_) (fun _ => ?_) | refine Br.beq (fun _ => ?_) (fun _ => ?_) | refine Br.bne (fun _ => ?_) (fun _ => ?_) | refine Br.seq (fun _ => ?_) (fun _ => ?_) | refine Elt.i (by omega) ?_ | refine EltN.i (by omega) ?_ | refine Nt.cast ?_ | refine Nt.mk _ rfl ?_ | refine EltN.mk _ rfl ?_ | refine Mx.mk _ rfl ?_ | refine Br.mk (fun _ => ?_) (fun _ => ?_) | refine EndP.mk ?_ trivial | refine EndP.mk ?_ ⟨.inr ⟨List.mem_cons_self .., ?_, rfl⟩, trivial⟩ | refine Ar.i64 (by omega) ?_ | refine Ar.u8 (by omega) ?_ | refine Quo.pos (by omega) ?_ | refine Rem.pos (by omega) ?_ | refine BsP.own ?_ | refine Ob.mk ⟨rfl, rfl⟩ ?_ | refine Ob.mk (flat_i _ _).1 ?_ | refine Ob.mk (flat_i _ _) ?_ | refine Ob.mk (flat_s _) ?_ | refine Ob.mk (by first | omega | (simp; first | done | fail) | (simp; omega)) ?_ | fail
  all_goals first
    | (exfalso; omega)
    | rfl
theorem fix_ok (t : List UInt8) (hs : allSigns t) (hl : t.length ≤ 1000000) (a w : Nat) (hw : w ≤ 50) (h : a + w ≤ t.length) : Vow Try.prog 147 [scanV t a false, .i .i64 w] (.i .i64 (rdN t a w : Nat)) [scanV t (a + w) false] := by
  refine vow_of_ev (fn := Try.f147) [0] [(0, 0), (7, 24), (25, 28), (0, 0), (0, 0), (0, 0), (28, 30), (31, 33), (33, 49), (49, 58), (58, 59)] tt_ok Try.func147 (by decide) rfl (Nat.le_of_ble_eq_true rfl) rfl rfl rfl ?_
  repeat' (conv => whnf); first | refine Br.tt ?_ | refine Br.ff ?_ | refine Br.not ?_ | refine Br.dand (fun _ => ?_) (fun _ => ?_) | refine Br.dec (fun _ => ?_) (fun _ => ?_) | refine Br.beq (fun _ => ?_) (fun _ => ?_) | refine Br.bne (fun _ => ?_) (fun _ => ?_) | refine Br.seq (fun _ => ?_) (fun _ => ?_) | refine Elt.i (by omega) ?_ | refine EltN.i (by omega) ?_ | refine Nt.cast ?_ | refine Nt.mk _ rfl ?_ | refine EltN.mk _ rfl ?_ | refine Mx.mk _ rfl ?_ | refine Br.mk (fun _ => ?_) (fun _ => ?_) | refine EndP.mk ?_ trivial | refine EndP.mk ?_ ⟨.inr ⟨List.mem_cons_self .., ?_, rfl⟩, trivial⟩ | refine Ar.i64 (by omega) ?_ | refine Ar.u8 (by omega) ?_ | refine Quo.pos (by omega) ?_ | refine Rem.pos (by omega) ?_ | refine BsP.own ?_ | refine Ob.mk ⟨rfl, rfl⟩ ?_ | refine Ob.mk (flat_i _ _).1 ?_ | refine Ob.mk (flat_i _ _) ?_ | refine Ob.mk (flat_s _) ?_ | refine Ob.mk (by first | omega | (simp; first | done | fail) | (simp; omega)) ?_ | fail
  · exfalso; omega
  · exfalso; omega
  · conv => whnf
    refine LoopP.mk [0,1,4,5,6] (fun m : Nat => [(0, scanV t a false), (1, .i .i64 w), (4, .i .i64 0), (5, .i .i64 (rdN t a m : Nat)), (6, .i .i64 m)]) (fun m => w - m) (fun m => m ≤ w) ?_ ?_
    · conv => whnf
      exact ⟨0, by omega, rfl⟩
    · intro m hm
      have hp := pow_le60 (show m ≤ 60 by omega)
      have hv := rdN_lt hs a m (by omega)
      by_cases hmw : m < w
      · have hb := bitAt_or hs (show a + m < t.length by omega)
        have ho := or64_bit (n := rdN t a m) (b := bitAt t (a + m)) (by omega) hb.2
        repeat' (conv => whnf); first | refine Chr.at (i := a + m) (by omega) ?_ | refine Shl.to (shl1_to (n := rdN t a m) (by omega)) (by decide) ?_ | refine Br.tt ?_ | refine Br.ff ?_ | refine Br.not ?_ | refine Br.dand (fun _ => ?_) (fun _ => ?_) | refine Br.dec (fun _ => ?_) (fun _ => ?_) | refine Br.beq (fun _ => ?_) (fun _ => ?_) | refine Br.bne (fun _ => ?_) (fun _ => ?_) | refine Br.seq (fun _ => ?_) (fun _ => ?_) | refine Elt.i (by omega) ?_ | refine EltN.i (by omega) ?_ | refine Nt.cast ?_ | refine Nt.mk _ rfl ?_ | refine EltN.mk _ rfl ?_ | refine Mx.mk _ rfl ?_ | refine Br.mk (fun _ => ?_) (fun _ => ?_) | refine EndP.mk ?_ trivial | refine EndP.mk ?_ ⟨.inr ⟨List.mem_cons_self .., ?_, rfl⟩, trivial⟩ | refine Ar.i64 (by omega) ?_ | refine Ar.u8 (by omega) ?_ | refine Quo.pos (by omega) ?_ | refine Rem.pos (by omega) ?_ | refine BsP.own ?_ | refine Ob.mk ⟨rfl, rfl⟩ ?_ | refine Ob.mk (flat_i _ _).1 ?_ | refine Ob.mk (flat_i _ _) ?_ | refine Ob.mk (flat_s _) ?_ | refine Ob.mk (by first | omega | (simp; first | done | fail) | (simp; omega)) ?_ | fail
        all_goals first
          | (exfalso; omega)
          | (conv => whnf
             refine ⟨m + 1, by omega, by omega, ?_⟩
             rw [show (((rb t (a + m)).toNat : Int) - 48) = ((bitAt t (a + m) : Nat) : Int) by rw [hb.1]; omega]
             rw [show rdN t a (m + 1) = 2 * rdN t a m + bitAt t (a + m) from rfl, ← ho]
             rfl)
      · obtain rfl : m = w := by omega
        repeat' (conv => whnf); first | refine Br.tt ?_ | refine Br.ff ?_ | refine Br.not ?_ | refine Br.dand (fun _ => ?_) (fun _ => ?_) | refine Br.dec (fun _ => ?_) (fun _ => ?_) | refine Br.beq (fun _ => ?_) (fun _ => ?_) | refine Br.bne (fun _ => ?_) (fun _ => ?_) | refine Br.seq (fun _ => ?_) (fun _ => ?_) | refine Elt.i (by omega) ?_ | refine EltN.i (by omega) ?_ | refine Nt.cast ?_ | refine Nt.mk _ rfl ?_ | refine EltN.mk _ rfl ?_ | refine Mx.mk _ rfl ?_ | refine Br.mk (fun _ => ?_) (fun _ => ?_) | refine EndP.mk ?_ trivial | refine EndP.mk ?_ ⟨.inr ⟨List.mem_cons_self .., ?_, rfl⟩, trivial⟩ | refine Ar.i64 (by omega) ?_ | refine Ar.u8 (by omega) ?_ | refine Quo.pos (by omega) ?_ | refine Rem.pos (by omega) ?_ | refine BsP.own ?_ | refine Ob.mk ⟨rfl, rfl⟩ ?_ | refine Ob.mk (flat_i _ _).1 ?_ | refine Ob.mk (flat_i _ _) ?_ | refine Ob.mk (flat_s _) ?_ | refine Ob.mk (by first | omega | (simp; first | done | fail) | (simp; omega)) ?_ | fail
        all_goals first
          | (exfalso; omega)
          | rfl

theorem ue_bad (t : List UInt8) (a : Nat) : Vow Try.prog 146 [scanV t a true] (.i .i64 0) [scanV t a true] := by
  refine vow_of_ev (fn := Try.f146) [0] [(0, 0), (0, 0), (5, 37), (38, 40), (40, 41), (42, 45), (45, 51), (51, 58), (59, 62), (0, 0), (62, 63)] tt_ok Try.func146 (by decide) rfl (Nat.le_of_ble_eq_true rfl) rfl rfl rfl ?_
  repeat' (conv => whnf); first | refine Br.tt ?_ | refine Br.ff ?_ | refine Br.not ?_ | refine Br.dand (fun _ => ?_) (fun _ => ?_) | refine Br.dec (fun _ => ?_) (fun _ => ?_) | refine Br.beq (fun _ => ?_) (fun _ => ?_) | refine Br.bne (fun _ => ?_) (fun _ => ?_) | refine Br.seq (fun _ => ?_) (fun _ => ?_) | refine Elt.i (by omega) ?_ | refine EltN.i (by omega) ?_ | refine Nt.cast ?_ | refine Nt.mk _ rfl ?_ | refine EltN.mk _ rfl ?_ | refine Mx.mk _ rfl ?_ | refine Br.mk (fun _ => ?_) (fun _ => ?_) | refine EndP.mk ?_ trivial | refine EndP.mk ?_ ⟨.inr ⟨List.mem_cons_self .., ?_, rfl⟩, trivial⟩ | refine Ar.i64 (by omega) ?_ | refine Ar.u8 (by omega) ?_ | refine Quo.pos (by omega) ?_ | refine Rem.pos (by omega) ?_ | refine BsP.own ?_ | refine Ob.mk ⟨rfl, rfl⟩ ?_ | refine Ob.mk (flat_i _ _).1 ?_ | refine Ob.mk (flat_i _ _) ?_ | refine Ob.mk (flat_s _) ?_ | refine Ob.mk (by first | omega | (simp; first | done | fail) | (simp; omega)) ?_ | fail
  · conv => whnf
    refine LoopP.mk [0,2,3] (fun _ : Unit => [(0, scanV t a true), (2, .i .i64 0), (3, .i .i64 0)]) (fun _ => 0) (fun _ => True) ?_ ?_
    · conv => whnf
      exact ⟨(), trivial, rfl⟩
    · intro _ _
      repeat' (conv => whnf); first | refine CallP.ho [([2], [2])] (fix_bad t a 1) rfl rfl ?_ | refine Br.tt ?_ | refine Br.ff ?_ | refine Br.not ?_ | refine Br.dand (fun _ => ?_) (fun _ => ?_) | refine Br.dec (fun _ => ?_) (fun _ => ?_) | refine Br.beq (fun _ => ?_) (fun _ => ?_) | refine Br.bne (fun _ => ?_) (fun _ => ?_) | refine Br.seq (fun _ => ?_) (fun _ => ?_) | refine Elt.i (by omega) ?_ | refine EltN.i (by omega) ?_ | refine Nt.cast ?_ | refine Nt.mk _ rfl ?_ | refine EltN.mk _ rfl ?_ | refine Mx.mk _ rfl ?_ | refine Br.mk (fun _ => ?_) (fun _ => ?_) | refine EndP.mk ?_ trivial | refine EndP.mk ?_ ⟨.inr ⟨List.mem_cons_self .., ?_, rfl⟩, trivial⟩ | refine Ar.i64 (by omega) ?_ | refine Ar.u8 (by omega) ?_ | refine Quo.pos (by omega) ?_ | refine Rem.pos (by omega) ?_ | refine BsP.own ?_ | refine Ob.mk ⟨rfl, rfl⟩ ?_ | refine Ob.mk (flat_i _ _).1 ?_ | refine Ob.mk (flat_i _ _) ?_ | refine Ob.mk (flat_s _) ?_ | refine Ob.mk (by first | omega | (simp; first | done | fail) | (simp; omega)) ?_ | fail
      all_goals rfl

/-- What is left of a scan that did not find a number. -/
def ueAt (t : List UInt8) (a : Nat) : Nat := if zAt t a ≤ 20 ∧ a + (2 * zAt t a + 1) ≤ t.length then a + (2 * zAt t a + 1) else a
set_option maxHeartbeats 6000000 in
theorem ue_scan (t : List UInt8) (hs : allSigns t) (hl : t.length ≤ 1000000) (a : Nat) (ha : a ≤ t.length) :
    Vow Try.prog 146 [scanV t a false] (.i .i64 (if ueOk t a then ((ueV t a - 1 : Nat) : Int) else 0)) [scanV t (ueAt t a) (!decide (ueOk t a))] := by
  refine vow_of_ev (fn := Try.f146) [0] [(0, 0), (0, 0), (5, 37), (38, 40), (40, 41), (42, 45), (45, 51), (51, 58), (59, 62), (0, 0), (62, 63)] tt_ok Try.func146 (by decide) rfl (Nat.le_of_ble_eq_true rfl) rfl rfl rfl ?_
  repeat' (conv => whnf); first | refine Br.tt ?_ | refine Br.ff ?_ | refine Br.not ?_ | refine Br.dand (fun _ => ?_) (fun _ => ?_) | refine Br.dec (fun _ => ?_) (fun _ => ?_) | refine Br.beq (fun _ => ?_) (fun _ => ?_) | refine Br.bne (fun _ => ?_) (fun _ => ?_) | refine Br.seq (fun _ => ?_) (fun _ => ?_) | refine Elt.i (by omega) ?_ | refine EltN.i (by omega) ?_ | refine Nt.cast ?_ | refine Nt.mk _ rfl ?_ | refine EltN.mk _ rfl ?_ | refine Mx.mk _ rfl ?_ | refine Br.mk (fun _ => ?_) (fun _ => ?_) | refine EndP.mk ?_ trivial | refine EndP.mk ?_ ⟨.inr ⟨List.mem_cons_self .., ?_, rfl⟩, trivial⟩ | refine Ar.i64 (by omega) ?_ | refine Ar.u8 (by omega) ?_ | refine Quo.pos (by omega) ?_ | refine Rem.pos (by omega) ?_ | refine BsP.own ?_ | refine Ob.mk ⟨rfl, rfl⟩ ?_ | refine Ob.mk (flat_i _ _).1 ?_ | refine Ob.mk (flat_i _ _) ?_ | refine Ob.mk (flat_s _) ?_ | refine Ob.mk (by first | omega | (simp; first | done | fail) | (simp; omega)) ?_ | fail
  · conv => whnf
    refine LoopP.mk [0,2,3] (fun z : Nat => [(0, scanV t a false), (2, .i .i64 0), (3, .i .i64 z)]) (fun z => t.length - z) (fun z => a + z ≤ t.length ∧ Zr t a z) ?_ ?_
    · conv => whnf
      exact ⟨0, ⟨by omega, fun j hj => by omega⟩, rfl⟩
    · rintro z ⟨haz, hr⟩
      by_cases hgo : a + z < t.length ∧ (rb t (a + z)).toNat = 48
      · repeat' (conv => whnf); first | refine Chr.at (i := a + z) (by omega) ?_ | refine Br.tt ?_ | refine Br.ff ?_ | refine Br.not ?_ | refine Br.dand (fun _ => ?_) (fun _ => ?_) | refine Br.dec (fun _ => ?_) (fun _ => ?_) | refine Br.beq (fun _ => ?_) (fun _ => ?_) | refine Br.bne (fun _ => ?_) (fun _ => ?_) | refine Br.seq (fun _ => ?_) (fun _ => ?_) | refine Elt.i (by omega) ?_ | refine EltN.i (by omega) ?_ | refine Nt.cast ?_ | refine Nt.mk _ rfl ?_ | refine EltN.mk _ rfl ?_ | refine Mx.mk _ rfl ?_ | refine Br.mk (fun _ => ?_) (fun _ => ?_) | refine EndP.mk ?_ trivial | refine EndP.mk ?_ ⟨.inr ⟨List.mem_cons_self .., ?_, rfl⟩, trivial⟩ | refine Ar.i64 (by omega) ?_ | refine Ar.u8 (by omega) ?_ | refine Quo.pos (by omega) ?_ | refine Rem.pos (by omega) ?_ | refine BsP.own ?_ | refine Ob.mk ⟨rfl, rfl⟩ ?_ | refine Ob.mk (flat_i _ _).1 ?_ | refine Ob.mk (flat_i _ _) ?_ | refine Ob.mk (flat_s _) ?_ | refine Ob.mk (by first | omega | (simp; first | done | fail) | (simp; omega)) ?_ | fail
        all_goals first
          | (exfalso; omega)
          | (conv => whnf
             exact ⟨z + 1, ⟨by omega, hr.next hgo.1 hgo.2⟩, by omega, rfl⟩)
      · by_cases hz : z ≤ 20
        · have hzz : zAt t a = z := zcount_is 21 a z (by omega) hr (.inr hgo)
          by_cases hfit : a + (2 * z + 1) ≤ t.length
          · have h48 : ¬ (rb t (a + z)).toNat = 48 := by omega
            have h1 := ue_one hs (show a + z < t.length by omega) h48
            have hp1 : 1 ≤ 2 ^ z := Nat.one_le_two_pow
            have hv : ueV t a = rdN t (a + z) (z + 1) := by unfold ueV; rw [hzz]
            have hrd : rdN t a (2 * z + 1) = rdN t (a + z) (z + 1) := by rw [show 2 * z + 1 = z + (z + 1) by omega, rdN_zeros z a _ hr]
            have f1 := fix_ok t hs hl a (2 * z + 1) (by omega) hfit
            rw [show ((2 * z + 1 : Nat) : Int) = 2 * (z : Int) + 1 by omega, hrd, ← hv] at f1
            have hat : ueAt t a = a + (2 * z + 1) := by unfold ueAt; rw [hzz, if_pos ⟨hz, hfit⟩]
            have hp := pow_le60 (show z + 1 ≤ 60 by omega)
            have hlt := rdN_lt hs (a + z) (z + 1) (by omega)
            rw [hat]
            repeat' (conv => whnf); first | refine Chr.at (i := a + z) (by omega) ?_ | refine CallP.ho [([2], [2])] f1 rfl rfl ?_ | refine Br.tt ?_ | refine Br.ff ?_ | refine Br.not ?_ | refine Br.dand (fun _ => ?_) (fun _ => ?_) | refine Br.dec (fun _ => ?_) (fun _ => ?_) | refine Br.beq (fun _ => ?_) (fun _ => ?_) | refine Br.bne (fun _ => ?_) (fun _ => ?_) | refine Br.seq (fun _ => ?_) (fun _ => ?_) | refine Elt.i (by omega) ?_ | refine EltN.i (by omega) ?_ | refine Nt.cast ?_ | refine Nt.mk _ rfl ?_ | refine EltN.mk _ rfl ?_ | refine Mx.mk _ rfl ?_ | refine Br.mk (fun _ => ?_) (fun _ => ?_) | refine EndP.mk ?_ trivial | refine EndP.mk ?_ ⟨.inr ⟨List.mem_cons_self .., ?_, rfl⟩, trivial⟩ | refine Ar.i64 (by omega) ?_ | refine Ar.u8 (by omega) ?_ | refine Quo.pos (by omega) ?_ | refine Rem.pos (by omega) ?_ | refine BsP.own ?_ | refine Ob.mk ⟨rfl, rfl⟩ ?_ | refine Ob.mk (flat_i _ _).1 ?_ | refine Ob.mk (flat_i _ _) ?_ | refine Ob.mk (flat_s _) ?_ | refine Ob.mk (by first | omega | (simp; first | done | fail) | (simp; omega)) ?_ | fail
            all_goals first
              | (exfalso; omega)
              | (rw [if_neg (fun k : ueOk t a => by have := k.2.2; omega)]; rfl)
              | (rw [decide_eq_false (fun k : ueOk t a => by have := k.2.2; omega)]; rfl)
              | (rw [if_pos (show ueOk t a from ⟨by omega, by omega, by omega⟩), show ((ueV t a - 1 : Nat) : Int) = (ueV t a : Int) - 1 by omega]; rfl)
              | (rw [decide_eq_true (show ueOk t a from ⟨by omega, by omega, by omega⟩)]; rfl)
          · have hno : ¬ ueOk t a := fun k => by have := k.2.1; rw [hzz] at this; omega
            have f1 := fix_short t hl a (2 * z + 1) ha (by omega) hfit
            rw [show ((2 * z + 1 : Nat) : Int) = 2 * (z : Int) + 1 by omega] at f1
            have hat : ueAt t a = a := by unfold ueAt; rw [hzz, if_neg (fun k => hfit k.2)]
            rw [hat, if_neg hno, decide_eq_false hno]
            repeat' (conv => whnf); first | refine Chr.at (i := a + z) (by omega) ?_ | refine CallP.ho [([2], [2])] f1 rfl rfl ?_ | refine Br.tt ?_ | refine Br.ff ?_ | refine Br.not ?_ | refine Br.dand (fun _ => ?_) (fun _ => ?_) | refine Br.dec (fun _ => ?_) (fun _ => ?_) | refine Br.beq (fun _ => ?_) (fun _ => ?_) | refine Br.bne (fun _ => ?_) (fun _ => ?_) | refine Br.seq (fun _ => ?_) (fun _ => ?_) | refine Elt.i (by omega) ?_ | refine EltN.i (by omega) ?_ | refine Nt.cast ?_ | refine Nt.mk _ rfl ?_ | refine EltN.mk _ rfl ?_ | refine Mx.mk _ rfl ?_ | refine Br.mk (fun _ => ?_) (fun _ => ?_) | refine EndP.mk ?_ trivial | refine EndP.mk ?_ ⟨.inr ⟨List.mem_cons_self .., ?_, rfl⟩, trivial⟩ | refine Ar.i64 (by omega) ?_ | refine Ar.u8 (by omega) ?_ | refine Quo.pos (by omega) ?_ | refine Rem.pos (by omega) ?_ | refine BsP.own ?_ | refine Ob.mk ⟨rfl, rfl⟩ ?_ | refine Ob.mk (flat_i _ _).1 ?_ | refine Ob.mk (flat_i _ _) ?_ | refine Ob.mk (flat_s _) ?_ | refine Ob.mk (by first | omega | (simp; first | done | fail) | (simp; omega)) ?_ | fail
            all_goals first
              | (exfalso; omega)
              | rfl
        · have h21 : zAt t a = 21 := zcount_is 21 a 21 (by omega) (fun j hj => hr j (by omega)) (.inl rfl)
          have hno : ¬ ueOk t a := fun k => by have := k.1; omega
          have hat : ueAt t a = a := by unfold ueAt; rw [h21, if_neg (by omega)]
          have f1 := fix_bad t a (2 * (z : Int) + 1)
          rw [hat, if_neg hno, decide_eq_false hno]
          repeat' (conv => whnf); first | refine Chr.at (i := a + z) (by omega) ?_ | refine CallP.ho [([2], [2])] f1 rfl rfl ?_ | refine Br.tt ?_ | refine Br.ff ?_ | refine Br.not ?_ | refine Br.dand (fun _ => ?_) (fun _ => ?_) | refine Br.dec (fun _ => ?_) (fun _ => ?_) | refine Br.beq (fun _ => ?_) (fun _ => ?_) | refine Br.bne (fun _ => ?_) (fun _ => ?_) | refine Br.seq (fun _ => ?_) (fun _ => ?_) | refine Elt.i (by omega) ?_ | refine EltN.i (by omega) ?_ | refine Nt.cast ?_ | refine Nt.mk _ rfl ?_ | refine EltN.mk _ rfl ?_ | refine Mx.mk _ rfl ?_ | refine Br.mk (fun _ => ?_) (fun _ => ?_) | refine EndP.mk ?_ trivial | refine EndP.mk ?_ ⟨.inr ⟨List.mem_cons_self .., ?_, rfl⟩, trivial⟩ | refine Ar.i64 (by omega) ?_ | refine Ar.u8 (by omega) ?_ | refine Quo.pos (by omega) ?_ | refine Rem.pos (by omega) ?_ | refine BsP.own ?_ | refine Ob.mk ⟨rfl, rfl⟩ ?_ | refine Ob.mk (flat_i _ _).1 ?_ | refine Ob.mk (flat_i _ _) ?_ | refine Ob.mk (flat_s _) ?_ | refine Ob.mk (by first | omega | (simp; first | done | fail) | (simp; omega)) ?_ | fail
          all_goals first
            | (exfalso; omega)
            | rfl

theorem se_bad (t : List UInt8) (a : Nat) : Vow Try.prog 148 [scanV t a true] (.i .i64 0) [scanV t a true] := by
  have f2 := openSe_impl 0 (by omega)
  rw [show openN 0 = 0 from rfl] at f2
  refine vow_of_ev (fn := Try.f148) [0] [(0, 0), (5, 11), (11, 22), (22, 23)] tt_ok Try.func148 (by decide) rfl (Nat.le_of_ble_eq_true rfl) rfl rfl rfl ?_
  repeat' (conv => whnf); first | refine CallP.ho [([2], [2])] (ue_bad t a) rfl rfl ?_ | refine CallP.rd (f2) rfl rfl rfl rfl ?_ | refine Br.tt ?_ | refine Br.ff ?_ | refine Br.not ?_ | refine Br.dand (fun _ => ?_) (fun _ => ?_) | refine Br.dec (fun _ => ?_) (fun _ => ?_) | refine Br.beq (fun _ => ?_) (fun _ => ?_) | refine Br.bne (fun _ => ?_) (fun _ => ?_) | refine Br.seq (fun _ => ?_) (fun _ => ?_) | refine Elt.i (by omega) ?_ | refine EltN.i (by omega) ?_ | refine Nt.cast ?_ | refine Nt.mk _ rfl ?_ | refine EltN.mk _ rfl ?_ | refine Mx.mk _ rfl ?_ | refine Br.mk (fun _ => ?_) (fun _ => ?_) | refine EndP.mk ?_ trivial | refine EndP.mk ?_ ⟨.inr ⟨List.mem_cons_self .., ?_, rfl⟩, trivial⟩ | refine Ar.i64 (by omega) ?_ | refine Ar.u8 (by omega) ?_ | refine Quo.pos (by omega) ?_ | refine Rem.pos (by omega) ?_ | refine BsP.own ?_ | refine Ob.mk ⟨rfl, rfl⟩ ?_ | refine Ob.mk (flat_i _ _).1 ?_ | refine Ob.mk (flat_i _ _) ?_ | refine Ob.mk (flat_s _) ?_ | refine Ob.mk (by first | omega | (simp; first | done | fail) | (simp; omega)) ?_ | fail
  all_goals rfl
theorem se_scan (t : List UInt8) (hs : allSigns t) (hl : t.length ≤ 1000000) (a : Nat) (ha : a ≤ t.length) :
    Vow Try.prog 148 [scanV t a false] (.i .i64 (if ueOk t a then openN (ueV t a - 1) else 0)) [scanV t (ueAt t a) (!decide (ueOk t a))] := by
  have f1 := ue_scan t hs hl a ha
  by_cases hk : ueOk t a
  · have f2 := openSe_impl (ueV t a - 1) (by have := hk.2.2; omega)
    rw [if_pos hk, decide_eq_true hk] at f1 ⊢
    refine vow_of_ev (fn := Try.f148) [0] [(0, 0), (5, 11), (11, 22), (22, 23)] tt_ok Try.func148 (by decide) rfl (Nat.le_of_ble_eq_true rfl) rfl rfl rfl ?_
    repeat' (conv => whnf); first | refine CallP.ho [([2], [2])] f1 rfl rfl ?_ | refine CallP.rd (f2) rfl rfl rfl rfl ?_ | refine Br.tt ?_ | refine Br.ff ?_ | refine Br.not ?_ | refine Br.dand (fun _ => ?_) (fun _ => ?_) | refine Br.dec (fun _ => ?_) (fun _ => ?_) | refine Br.beq (fun _ => ?_) (fun _ => ?_) | refine Br.bne (fun _ => ?_) (fun _ => ?_) | refine Br.seq (fun _ => ?_) (fun _ => ?_) | refine Elt.i (by omega) ?_ | refine EltN.i (by omega) ?_ | refine Nt.cast ?_ | refine Nt.mk _ rfl ?_ | refine EltN.mk _ rfl ?_ | refine Mx.mk _ rfl ?_ | refine Br.mk (fun _ => ?_) (fun _ => ?_) | refine EndP.mk ?_ trivial | refine EndP.mk ?_ ⟨.inr ⟨List.mem_cons_self .., ?_, rfl⟩, trivial⟩ | refine Ar.i64 (by omega) ?_ | refine Ar.u8 (by omega) ?_ | refine Quo.pos (by omega) ?_ | refine Rem.pos (by omega) ?_ | refine BsP.own ?_ | refine Ob.mk ⟨rfl, rfl⟩ ?_ | refine Ob.mk (flat_i _ _).1 ?_ | refine Ob.mk (flat_i _ _) ?_ | refine Ob.mk (flat_s _) ?_ | refine Ob.mk (by first | omega | (simp; first | done | fail) | (simp; omega)) ?_ | fail
    all_goals rfl
  · have f2 := openSe_impl 0 (by omega)
    rw [show openN 0 = 0 from rfl] at f2
    rw [if_neg hk, decide_eq_false hk] at f1 ⊢
    refine vow_of_ev (fn := Try.f148) [0] [(0, 0), (5, 11), (11, 22), (22, 23)] tt_ok Try.func148 (by decide) rfl (Nat.le_of_ble_eq_true rfl) rfl rfl rfl ?_
    repeat' (conv => whnf); first | refine CallP.ho [([2], [2])] f1 rfl rfl ?_ | refine CallP.rd (f2) rfl rfl rfl rfl ?_ | refine Br.tt ?_ | refine Br.ff ?_ | refine Br.not ?_ | refine Br.dand (fun _ => ?_) (fun _ => ?_) | refine Br.dec (fun _ => ?_) (fun _ => ?_) | refine Br.beq (fun _ => ?_) (fun _ => ?_) | refine Br.bne (fun _ => ?_) (fun _ => ?_) | refine Br.seq (fun _ => ?_) (fun _ => ?_) | refine Elt.i (by omega) ?_ | refine EltN.i (by omega) ?_ | refine Nt.cast ?_ | refine Nt.mk _ rfl ?_ | refine EltN.mk _ rfl ?_ | refine Mx.mk _ rfl ?_ | refine Br.mk (fun _ => ?_) (fun _ => ?_) | refine EndP.mk ?_ trivial | refine EndP.mk ?_ ⟨.inr ⟨List.mem_cons_self .., ?_, rfl⟩, trivial⟩ | refine Ar.i64 (by omega) ?_ | refine Ar.u8 (by omega) ?_ | refine Quo.pos (by omega) ?_ | refine Rem.pos (by omega) ?_ | refine BsP.own ?_ | refine Ob.mk ⟨rfl, rfl⟩ ?_ | refine Ob.mk (flat_i _ _).1 ?_ | refine Ob.mk (flat_i _ _) ?_ | refine Ob.mk (flat_s _) ?_ | refine Ob.mk (by first | omega | (simp; first | done | fail) | (simp; omega)) ?_ | fail
    all_goals rfl
end Go.Proofs.Ytfcjjkfjdecakaa
