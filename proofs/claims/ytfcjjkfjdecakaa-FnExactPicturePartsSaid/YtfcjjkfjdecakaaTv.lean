/- Numbers read out of rows of signs: both sides. No condition. -/
import Derived.Test.YtfcjjkfjdecakaaTm
namespace Go.Proofs.Ytfcjjkfjdecakaa
open Go Go.Vx
set_option linter.unusedVariables false
set_option linter.unusedSimpArgs false
set_option maxHeartbeats 600000
set_option maxRecDepth 100000

def bitAt (t : List UInt8) (i : Nat) : Nat := (rb t i).toNat - 48
theorem bitAt_or {t : List UInt8} (h : allSigns t) {i : Nat} (hi : i < t.length) : (rb t i).toNat = 48 + bitAt t i ∧ bitAt t i ≤ 1 := by
  have := h i hi
  unfold signAt at this
  unfold bitAt
  omega
/-- k signs from a on as a number. -/
def rdN (t : List UInt8) (a : Nat) : Nat → Nat
  | 0 => 0
  | k + 1 => 2 * rdN t a k + bitAt t (a + k)
theorem rdN_lt {t : List UInt8} (h : allSigns t) (a : Nat) : ∀ k, a + k ≤ t.length → rdN t a k < 2 ^ k
  | 0, _ => by simp [rdN]
  | k + 1, hk => by
    have h1 := rdN_lt h a k (by omega)
    have h2 := (bitAt_or h (show a + k < t.length by omega)).2
    simp only [rdN]
    rw [Nat.pow_succ]
    omega
theorem rdN_top (t : List UInt8) (a : Nat) : ∀ k, rdN t a (k + 1) = 2 ^ k * bitAt t a + rdN t (a + 1) k
  | 0 => by simp [rdN]
  | k + 1 => by
    have ih := rdN_top t a k
    rw [rdN, ih, rdN, Nat.pow_succ, show a + 1 + k = a + (k + 1) by omega, Nat.mul_add, Nat.mul_comm (2 ^ k) 2, Nat.mul_assoc]
    omega
def Zr (t : List UInt8) (a z : Nat) : Prop := ∀ j, j < z → a + j < t.length ∧ (rb t (a + j)).toNat = 48
theorem rdN_zeros {t : List UInt8} : ∀ (z a k : Nat), Zr t a z → rdN t a (z + k) = rdN t (a + z) k
  | 0, a, k, _ => by simp
  | z + 1, a, k, h => by
    have h0 := (h 0 (by omega)).2
    rw [Nat.add_zero] at h0
    have hb : bitAt t a = 0 := by unfold bitAt; omega
    rw [show z + 1 + k = (z + k) + 1 by omega, rdN_top, hb, Nat.mul_zero, Nat.zero_add]
    have := rdN_zeros z (a + 1) k (fun j hj => by
      have := h (j + 1) (by omega)
      rw [show a + 1 + j = a + (j + 1) by omega]; exact this)
    rw [this, show a + 1 + z = a + (z + 1) by omega]
theorem Zr.next {t : List UInt8} {a z : Nat} (h : Zr t a z) (h1 : a + z < t.length) (h2 : (rb t (a + z)).toNat = 48) : Zr t a (z + 1) := fun j hj => by
  rcases Nat.lt_or_eq_of_le (Nat.le_of_lt_succ hj) with h3 | h3
  · exact h j h3
  · subst h3; exact ⟨h1, h2⟩

def rdO (t : List UInt8) (a w : Nat) : Nat × Nat × Bool := if a + w ≤ t.length then (rdN t a w, a + w, true) else (0, 0, false)
def rdV (x : Nat × Nat × Bool) : V := .tp [.i .i64 x.1, .i .i64 x.2.1, .b x.2.2]

theorem pow_le60 {k : Nat} (h : k ≤ 60) : (2 : Nat) ^ k ≤ 1152921504606846976 := by
  have : (2 : Nat) ^ k ≤ 2 ^ 60 := Nat.pow_le_pow_right (by omega) h
  omega
theorem l02Read_vow (t : List UInt8) (h : allSigns t) (hl : t.length ≤ 1000000) (a w : Nat) (ha : a ≤ t.length) (hw : w ≤ 50) : Vow Try.prog 142 [.s t, .i .i64 a, .i .i64 w] (rdV (rdO t a w)) [] := by
  refine vow_of_ev (fn := Try.f142) [] [(0, 0), (11, 16), (0, 0), (0, 0), (17, 18), (18, 22), (23, 25), (25, 33), (33, 37)] tt_ok Try.func142 (by decide) rfl (Nat.le_of_ble_eq_true rfl) rfl rfl rfl ?_
  repeat' (conv => whnf); first | refine Br.tt ?_ | refine Br.ff ?_ | refine Br.not ?_ | refine Br.dand (fun _ => ?_) (fun _ => ?_) | refine Br.dec (fun _ => ?_) (fun _ => ?_) | refine Br.beq (fun _ => ?_) (fun _ => ?_) | refine Br.bne (fun _ => ?_) (fun _ => ?_) | refine Br.seq (fun _ => ?_) (fun _ => ?_) | refine Elt.i (by omega) ?_ | refine EltN.i (by omega) ?_ | refine Nt.cast ?_ | refine Nt.mk _ rfl ?_ | refine EltN.mk _ rfl ?_ | refine Mx.mk _ rfl ?_ | refine Br.mk (fun _ => ?_) (fun _ => ?_) | refine EndP.mk ?_ trivial | refine EndP.mk ?_ ⟨.inr ⟨List.mem_cons_self .., ?_, rfl⟩, trivial⟩ | refine Ar.i64 (by omega) ?_ | refine Ar.u8 (by omega) ?_ | refine Quo.pos (by omega) ?_ | refine Rem.pos (by omega) ?_ | refine BsP.own ?_ | refine Ob.mk ⟨rfl, rfl⟩ ?_ | refine Ob.mk (flat_i _ _).1 ?_ | refine Ob.mk (flat_i _ _) ?_ | refine Ob.mk (flat_s _) ?_ | refine Ob.mk (by first | omega | (simp; first | done | fail) | (simp; omega)) ?_ | fail
  · rw [rdO, if_neg (by omega)]; rfl
  · conv => whnf
    refine LoopP.mk [0,1,2,6,7,8,9,10] (fun m : Nat => [(0, .s t), (1, .i .i64 a), (2, .i .i64 w), (6, .i .i64 0), (7, .i .i64 0), (8, .b false), (9, .i .i64 (rdN t a m)), (10, .i .i64 (a + m : Nat))]) (fun m => w - m) (fun m => m ≤ w) ?_ ?_
    · conv => whnf
      exact ⟨0, by omega, rfl⟩
    · intro m hm
      have hp := pow_le60 (show m ≤ 60 by omega)
      have hv := rdN_lt h a m (by omega)
      by_cases hmw : m < w
      · have hb := bitAt_or h (show a + m < t.length by omega)
        repeat' (conv => whnf); first | refine Chr.at (i := a + m) (by omega) ?_ | refine Br.tt ?_ | refine Br.ff ?_ | refine Br.not ?_ | refine Br.dand (fun _ => ?_) (fun _ => ?_) | refine Br.dec (fun _ => ?_) (fun _ => ?_) | refine Br.beq (fun _ => ?_) (fun _ => ?_) | refine Br.bne (fun _ => ?_) (fun _ => ?_) | refine Br.seq (fun _ => ?_) (fun _ => ?_) | refine Elt.i (by omega) ?_ | refine EltN.i (by omega) ?_ | refine Nt.cast ?_ | refine Nt.mk _ rfl ?_ | refine EltN.mk _ rfl ?_ | refine Mx.mk _ rfl ?_ | refine Br.mk (fun _ => ?_) (fun _ => ?_) | refine EndP.mk ?_ trivial | refine EndP.mk ?_ ⟨.inr ⟨List.mem_cons_self .., ?_, rfl⟩, trivial⟩ | refine Ar.i64 (by omega) ?_ | refine Ar.u8 (by omega) ?_ | refine Quo.pos (by omega) ?_ | refine Rem.pos (by omega) ?_ | refine BsP.own ?_ | refine Ob.mk ⟨rfl, rfl⟩ ?_ | refine Ob.mk (flat_i _ _).1 ?_ | refine Ob.mk (flat_i _ _) ?_ | refine Ob.mk (flat_s _) ?_ | refine Ob.mk (by first | omega | (simp; first | done | fail) | (simp; omega)) ?_ | fail
        all_goals first
          | (exfalso; omega)
          | (conv => whnf
             refine ⟨m + 1, by omega, by omega, ?_⟩
             rw [show (2 * (rdN t a m : Int) + ((rb t (a + m)).toNat : Int) - 48) = ((rdN t a (m + 1) : Nat) : Int) by rw [hb.1, rdN]; omega]
             rfl)
      · obtain rfl : m = w := by omega
        repeat' (conv => whnf); first | refine Br.tt ?_ | refine Br.ff ?_ | refine Br.not ?_ | refine Br.dand (fun _ => ?_) (fun _ => ?_) | refine Br.dec (fun _ => ?_) (fun _ => ?_) | refine Br.beq (fun _ => ?_) (fun _ => ?_) | refine Br.bne (fun _ => ?_) (fun _ => ?_) | refine Br.seq (fun _ => ?_) (fun _ => ?_) | refine Elt.i (by omega) ?_ | refine EltN.i (by omega) ?_ | refine Nt.cast ?_ | refine Nt.mk _ rfl ?_ | refine EltN.mk _ rfl ?_ | refine Mx.mk _ rfl ?_ | refine Br.mk (fun _ => ?_) (fun _ => ?_) | refine EndP.mk ?_ trivial | refine EndP.mk ?_ ⟨.inr ⟨List.mem_cons_self .., ?_, rfl⟩, trivial⟩ | refine Ar.i64 (by omega) ?_ | refine Ar.u8 (by omega) ?_ | refine Quo.pos (by omega) ?_ | refine Rem.pos (by omega) ?_ | refine BsP.own ?_ | refine Ob.mk ⟨rfl, rfl⟩ ?_ | refine Ob.mk (flat_i _ _).1 ?_ | refine Ob.mk (flat_i _ _) ?_ | refine Ob.mk (flat_s _) ?_ | refine Ob.mk (by first | omega | (simp; first | done | fail) | (simp; omega)) ?_ | fail
        all_goals first
          | (exfalso; omega)
          | (rw [rdO, if_pos (by omega)]; rfl)

/-- How many zeros stand from a on, but no more than told. -/
def zcount (t : List UInt8) : Nat → Nat → Nat
  | 0, _ => 0
  | f + 1, a => if a < t.length ∧ (rb t a).toNat = 48 then zcount t f (a + 1) + 1 else 0
theorem zcount_is {t : List UInt8} : ∀ (f a z : Nat), z ≤ f → Zr t a z → (z = f ∨ ¬ (a + z < t.length ∧ (rb t (a + z)).toNat = 48)) → zcount t f a = z
  | 0, a, z, hz, _, _ => by simp [zcount]; omega
  | f + 1, a, 0, _, _, h => by
    rw [zcount, if_neg]
    rcases h with h | h
    · omega
    · simpa using h
  | f + 1, a, z + 1, hz, hr, h => by
    have h0 := hr 0 (by omega)
    rw [Nat.add_zero] at h0
    rw [zcount, if_pos h0, zcount_is f (a + 1) z (by omega) (fun j hj => by
      have := hr (j + 1) (by omega)
      rw [show a + 1 + j = a + (j + 1) by omega]; exact this) (h.imp (by omega) (by rw [show a + 1 + z = a + (z + 1) by omega]; exact id))]
def zAt (t : List UInt8) (a : Nat) : Nat := zcount t 21 a
def ueV (t : List UInt8) (a : Nat) : Nat := rdN t (a + zAt t a) (zAt t a + 1)
def ueOk (t : List UInt8) (a : Nat) : Prop := zAt t a ≤ 20 ∧ a + (2 * zAt t a + 1) ≤ t.length ∧ ueV t a ≤ 1000001
instance (t : List UInt8) (a : Nat) : Decidable (ueOk t a) := by unfold ueOk; infer_instance
def ueR (t : List UInt8) (a : Nat) : Nat × Nat × Bool := if ueOk t a then (ueV t a - 1, a + (2 * zAt t a + 1), true) else (0, 0, false)
theorem ueR_no {t : List UInt8} {a : Nat} (h : ¬ ueOk t a) : ueR t a = (0, 0, false) := by rw [ueR, if_neg h]
theorem ueR_yes {t : List UInt8} {a : Nat} (h : ueOk t a) : ueR t a = (ueV t a - 1, a + (2 * zAt t a + 1), true) := by rw [ueR, if_pos h]
theorem ue_one {t : List UInt8} (h : allSigns t) {a z : Nat} (h1 : a + z < t.length) (h2 : ¬ (rb t (a + z)).toNat = 48) : 2 ^ z ≤ rdN t (a + z) (z + 1) := by
  have := bitAt_or h h1
  rw [rdN_top, show bitAt t (a + z) = 1 by omega]
  omega

def shlU (z : Int) : Int := IntKind.i64.wrap (1 * 2 ^ min z.toNat IntKind.i64.bits)
theorem shlU_at {z : Nat} (h : z ≤ 60) : shlU (z : Int) = ((2 ^ z : Nat) : Int) := by
  have hp := pow_le60 h
  have hb : IntKind.i64.bits = 64 := rfl
  unfold shlU
  rw [Int.toNat_natCast, hb, Nat.min_eq_left (by omega), Int.one_mul]
  have : ((2 : Int) ^ z) = ((2 ^ z : Nat) : Int) := by simp
  rw [this]
  obtain ⟨q, hq⟩ : ∃ q, q = 2 ^ z := ⟨_, rfl⟩
  rw [← hq] at hp ⊢
  rw [IntWalk.i64_in _ (by omega)]
theorem l03ReadUe_vow (t : List UInt8) (h : allSigns t) (hl : t.length ≤ 1000000) (a : Nat) (ha : a ≤ t.length) : Vow Try.prog 141 [.s t, .i .i64 a] (rdV (ueR t a)) [] := by
  refine vow_of_ev (fn := Try.f141) [] [(0, 0), (0, 0), (11, 28), (29, 31), (31, 42), (42, 55), (0, 0), (56, 59)] tt_ok Try.func141 (by decide) rfl (Nat.le_of_ble_eq_true rfl) rfl rfl rfl ?_
  repeat' (conv => whnf); first | refine Br.tt ?_ | refine Br.ff ?_ | refine Br.not ?_ | refine Br.dand (fun _ => ?_) (fun _ => ?_) | refine Br.dec (fun _ => ?_) (fun _ => ?_) | refine Br.beq (fun _ => ?_) (fun _ => ?_) | refine Br.bne (fun _ => ?_) (fun _ => ?_) | refine Br.seq (fun _ => ?_) (fun _ => ?_) | refine Elt.i (by omega) ?_ | refine EltN.i (by omega) ?_ | refine Nt.cast ?_ | refine Nt.mk _ rfl ?_ | refine EltN.mk _ rfl ?_ | refine Mx.mk _ rfl ?_ | refine Br.mk (fun _ => ?_) (fun _ => ?_) | refine EndP.mk ?_ trivial | refine EndP.mk ?_ ⟨.inr ⟨List.mem_cons_self .., ?_, rfl⟩, trivial⟩ | refine Ar.i64 (by omega) ?_ | refine Ar.u8 (by omega) ?_ | refine Quo.pos (by omega) ?_ | refine Rem.pos (by omega) ?_ | refine BsP.own ?_ | refine Ob.mk ⟨rfl, rfl⟩ ?_ | refine Ob.mk (flat_i _ _).1 ?_ | refine Ob.mk (flat_i _ _) ?_ | refine Ob.mk (flat_s _) ?_ | refine Ob.mk (by first | omega | (simp; first | done | fail) | (simp; omega)) ?_ | fail
  · conv => whnf
    refine LoopP.mk [0,1,4,5,6,7] (fun z : Nat => [(0, .s t), (1, .i .i64 a), (4, .i .i64 0), (5, .i .i64 0), (6, .b false), (7, .i .i64 z)]) (fun z => 21 - z) (fun z => z ≤ 21 ∧ Zr t a z) ?_ ?_
    · conv => whnf
      exact ⟨0, ⟨by omega, fun j hj => by omega⟩, rfl⟩
    · rintro z ⟨hz, hr⟩
      have haz : a + z ≤ t.length := by
        rcases Nat.eq_zero_or_pos z with h0 | h0
        · omega
        · have := hr (z - 1) (by omega); omega
      by_cases hgo : a + z < t.length ∧ (rb t (a + z)).toNat = 48 ∧ z < 21
      · repeat' (conv => whnf); first | refine Chr.at (i := a + z) (by omega) ?_ | refine Br.tt ?_ | refine Br.ff ?_ | refine Br.not ?_ | refine Br.dand (fun _ => ?_) (fun _ => ?_) | refine Br.dec (fun _ => ?_) (fun _ => ?_) | refine Br.beq (fun _ => ?_) (fun _ => ?_) | refine Br.bne (fun _ => ?_) (fun _ => ?_) | refine Br.seq (fun _ => ?_) (fun _ => ?_) | refine Elt.i (by omega) ?_ | refine EltN.i (by omega) ?_ | refine Nt.cast ?_ | refine Nt.mk _ rfl ?_ | refine EltN.mk _ rfl ?_ | refine Mx.mk _ rfl ?_ | refine Br.mk (fun _ => ?_) (fun _ => ?_) | refine EndP.mk ?_ trivial | refine EndP.mk ?_ ⟨.inr ⟨List.mem_cons_self .., ?_, rfl⟩, trivial⟩ | refine Ar.i64 (by omega) ?_ | refine Ar.u8 (by omega) ?_ | refine Quo.pos (by omega) ?_ | refine Rem.pos (by omega) ?_ | refine BsP.own ?_ | refine Ob.mk ⟨rfl, rfl⟩ ?_ | refine Ob.mk (flat_i _ _).1 ?_ | refine Ob.mk (flat_i _ _) ?_ | refine Ob.mk (flat_s _) ?_ | refine Ob.mk (by first | omega | (simp; first | done | fail) | (simp; omega)) ?_ | fail
        all_goals first
          | (exfalso; omega)
          | (conv => whnf
             exact ⟨z + 1, ⟨by omega, hr.next hgo.1 hgo.2.1⟩, by omega, rfl⟩)
      · have hzz : zAt t a = z := zcount_is 21 a z hz hr (by omega)
        have f1 := l02Read_vow t h hl (a + z) (z + 1) haz (by omega)
        have hs := shlU_at (show z ≤ 60 by omega)
        have hp := pow_le60 (show z ≤ 60 by omega)
        by_cases hfit : a + z + (z + 1) ≤ t.length
        · simp only [rdO, if_pos hfit, rdV] at f1
          have hlt := rdN_lt h (a + z) (z + 1) hfit
          rw [Nat.pow_succ] at hlt
          by_cases hz20 : z ≤ 20
          · have h48 : ¬ (rb t (a + z)).toNat = 48 := by omega
            have h1 := ue_one h (show a + z < t.length by omega) h48
            have hp1 : 1 ≤ 2 ^ z := Nat.one_le_two_pow
            have hv : ueV t a = rdN t (a + z) (z + 1) := by unfold ueV; rw [hzz]
            repeat' (conv => whnf); first | refine Chr.at (i := a + z) (by omega) ?_ | refine CallP.rd (f1) rfl rfl rfl rfl ?_ | refine Ar.u64 (by omega) ?_ | refine Shl.to (m := shlU (z : Int)) rfl (by omega) ?_ | refine Br.tt ?_ | refine Br.ff ?_ | refine Br.not ?_ | refine Br.dand (fun _ => ?_) (fun _ => ?_) | refine Br.dec (fun _ => ?_) (fun _ => ?_) | refine Br.beq (fun _ => ?_) (fun _ => ?_) | refine Br.bne (fun _ => ?_) (fun _ => ?_) | refine Br.seq (fun _ => ?_) (fun _ => ?_) | refine Elt.i (by omega) ?_ | refine EltN.i (by omega) ?_ | refine Nt.cast ?_ | refine Nt.mk _ rfl ?_ | refine EltN.mk _ rfl ?_ | refine Mx.mk _ rfl ?_ | refine Br.mk (fun _ => ?_) (fun _ => ?_) | refine EndP.mk ?_ trivial | refine EndP.mk ?_ ⟨.inr ⟨List.mem_cons_self .., ?_, rfl⟩, trivial⟩ | refine Ar.i64 (by omega) ?_ | refine Ar.u8 (by omega) ?_ | refine Quo.pos (by omega) ?_ | refine Rem.pos (by omega) ?_ | refine BsP.own ?_ | refine Ob.mk ⟨rfl, rfl⟩ ?_ | refine Ob.mk (flat_i _ _).1 ?_ | refine Ob.mk (flat_i _ _) ?_ | refine Ob.mk (flat_s _) ?_ | refine Ob.mk (by first | omega | (simp; first | done | fail) | (simp; omega)) ?_ | fail
            all_goals first
              | (exfalso; omega)
              | (rw [ueR_no (fun k => by have := k.2.2; omega)]; rfl)
              | (rw [ueR_yes ⟨by omega, by omega, by omega⟩, hv, hzz]
                 simp only [rdV]
                 rw [show ((rdN t (a + z) (z + 1) - 1 : Nat) : Int) = (rdN t (a + z) (z + 1) : Int) - 1 by omega, show a + (2 * z + 1) = a + z + (z + 1) by omega]
                 rfl)
          · have hz21 : z = 21 := by omega
            have hno : ¬ ueOk t a := fun k => by have := k.1; omega
            have hv21 : (2 : Nat) ^ z = 2097152 := by rw [hz21]
            rw [hv21] at hs hlt
            repeat' (conv => whnf); first | refine Chr.at (i := a + z) (by omega) ?_ | refine CallP.rd (f1) rfl rfl rfl rfl ?_ | refine Ar.u64 (by omega) ?_ | refine Shl.to (m := shlU (z : Int)) rfl (by omega) ?_ | refine Br.tt ?_ | refine Br.ff ?_ | refine Br.not ?_ | refine Br.dand (fun _ => ?_) (fun _ => ?_) | refine Br.dec (fun _ => ?_) (fun _ => ?_) | refine Br.beq (fun _ => ?_) (fun _ => ?_) | refine Br.bne (fun _ => ?_) (fun _ => ?_) | refine Br.seq (fun _ => ?_) (fun _ => ?_) | refine Elt.i (by omega) ?_ | refine EltN.i (by omega) ?_ | refine Nt.cast ?_ | refine Nt.mk _ rfl ?_ | refine EltN.mk _ rfl ?_ | refine Mx.mk _ rfl ?_ | refine Br.mk (fun _ => ?_) (fun _ => ?_) | refine EndP.mk ?_ trivial | refine EndP.mk ?_ ⟨.inr ⟨List.mem_cons_self .., ?_, rfl⟩, trivial⟩ | refine Ar.i64 (by omega) ?_ | refine Ar.u8 (by omega) ?_ | refine Quo.pos (by omega) ?_ | refine Rem.pos (by omega) ?_ | refine BsP.own ?_ | refine Ob.mk ⟨rfl, rfl⟩ ?_ | refine Ob.mk (flat_i _ _).1 ?_ | refine Ob.mk (flat_i _ _) ?_ | refine Ob.mk (flat_s _) ?_ | refine Ob.mk (by first | omega | (simp; first | done | fail) | (simp; omega)) ?_ | fail
            all_goals first
              | (exfalso; omega)
              | (rw [ueR_no hno]; rfl)
        · rw [rdO, if_neg hfit] at f1
          have hno : ¬ ueOk t a := fun k => by have := k.2.1; rw [hzz] at this; omega
          repeat' (conv => whnf); first | refine Chr.at (i := a + z) (by omega) ?_ | refine CallP.rd (f1) rfl rfl rfl rfl ?_ | refine Br.tt ?_ | refine Br.ff ?_ | refine Br.not ?_ | refine Br.dand (fun _ => ?_) (fun _ => ?_) | refine Br.dec (fun _ => ?_) (fun _ => ?_) | refine Br.beq (fun _ => ?_) (fun _ => ?_) | refine Br.bne (fun _ => ?_) (fun _ => ?_) | refine Br.seq (fun _ => ?_) (fun _ => ?_) | refine Elt.i (by omega) ?_ | refine EltN.i (by omega) ?_ | refine Nt.cast ?_ | refine Nt.mk _ rfl ?_ | refine EltN.mk _ rfl ?_ | refine Mx.mk _ rfl ?_ | refine Br.mk (fun _ => ?_) (fun _ => ?_) | refine EndP.mk ?_ trivial | refine EndP.mk ?_ ⟨.inr ⟨List.mem_cons_self .., ?_, rfl⟩, trivial⟩ | refine Ar.i64 (by omega) ?_ | refine Ar.u8 (by omega) ?_ | refine Quo.pos (by omega) ?_ | refine Rem.pos (by omega) ?_ | refine BsP.own ?_ | refine Ob.mk ⟨rfl, rfl⟩ ?_ | refine Ob.mk (flat_i _ _).1 ?_ | refine Ob.mk (flat_i _ _) ?_ | refine Ob.mk (flat_s _) ?_ | refine Ob.mk (by first | omega | (simp; first | done | fail) | (simp; omega)) ?_ | fail
          all_goals first
            | (exfalso; omega)
            | (rw [ueR_no hno]; rfl)

theorem _root_.Go.Vx.Quo.to {a b m : Int} {κ : Int → Prop} (e : a.tdiv b = m) (h : b ≠ 0 ∧ -9223372036854775808 ≤ m ∧ m ≤ 9223372036854775807) (g : κ m) : Quo .i64 a b κ := by
  refine .mk h.1 ?_
  rw [e, IntWalk.i64_in _ (by omega)]
  exact g
def openN (u : Nat) : Int := if u % 2 = 1 then ((u + 1) / 2 : Nat) else -((u / 2 : Nat) : Int)
theorem openSe_spec (u : Nat) (h : u ≤ 1000000) : Vow Try.prog 168 [.i .i64 u] (.tp [.i .i64 (openN u), .b true]) [] := by
  refine vow_of_ev (fn := Try.f168) [] [(0, 0), (4, 6), (0, 0), (7, 9), (10, 13), (13, 16)] tt_ok Try.func168 (by decide) rfl (Nat.le_of_ble_eq_true rfl) rfl rfl rfl ?_
  repeat' (conv => whnf); first | refine CallP.rd (l01In_vow _ _ _) rfl rfl rfl rfl ?_ | refine Br.tt ?_ | refine Br.ff ?_ | refine Br.not ?_ | refine Br.dand (fun _ => ?_) (fun _ => ?_) | refine Br.dec (fun _ => ?_) (fun _ => ?_) | refine Br.beq (fun _ => ?_) (fun _ => ?_) | refine Br.bne (fun _ => ?_) (fun _ => ?_) | refine Br.seq (fun _ => ?_) (fun _ => ?_) | refine Elt.i (by omega) ?_ | refine EltN.i (by omega) ?_ | refine Nt.cast ?_ | refine Nt.mk _ rfl ?_ | refine EltN.mk _ rfl ?_ | refine Mx.mk _ rfl ?_ | refine Br.mk (fun _ => ?_) (fun _ => ?_) | refine EndP.mk ?_ trivial | refine EndP.mk ?_ ⟨.inr ⟨List.mem_cons_self .., ?_, rfl⟩, trivial⟩ | refine Ar.i64 (by omega) ?_ | refine Ar.u8 (by omega) ?_ | refine Quo.pos (by omega) ?_ | refine Rem.pos (by omega) ?_ | refine BsP.own ?_ | refine Ob.mk ⟨rfl, rfl⟩ ?_ | refine Ob.mk (flat_i _ _).1 ?_ | refine Ob.mk (flat_i _ _) ?_ | refine Ob.mk (flat_s _) ?_ | refine Ob.mk (by first | omega | (simp; first | done | fail) | (simp; omega)) ?_ | fail
  all_goals first
    | (exfalso; simp_all; first | done | omega)
    | (exfalso; omega)
    | (rw [openN, if_pos (by omega), show (((u + 1) / 2 : Nat) : Int) = ((u : Int) + 1) / 2 by omega]; rfl)
    | (rw [openN, if_neg (by omega), show -((u / 2 : Nat) : Int) = 0 - (u : Int) / 2 by omega]; rfl)
theorem openSe_impl (u : Nat) (h : u ≤ 1000000) : Vow Try.prog 169 [.i .i64 u] (.tp [.i .i64 (openN u), .b true]) [] := by
  refine vow_of_ev (fn := Try.f169) [] [(0, 0), (5, 8), (0, 0), (9, 12), (12, 15), (15, 18)] tt_ok Try.func169 (by decide) rfl (Nat.le_of_ble_eq_true rfl) rfl rfl rfl ?_
  have ht : ((0 : Int) - (u : Int)).tdiv 2 = -((u / 2 : Nat) : Int) := by
    rw [Int.zero_sub, Int.neg_tdiv, Int.tdiv_eq_ediv_of_nonneg (by omega)]
    omega
  repeat' (conv => whnf); first | refine CallP.rd (within_vow _ _ _) rfl rfl rfl rfl ?_ | refine Quo.to ht (by omega) ?_ | refine Br.tt ?_ | refine Br.ff ?_ | refine Br.not ?_ | refine Br.dand (fun _ => ?_) (fun _ => ?_) | refine Br.dec (fun _ => ?_) (fun _ => ?_) | refine Br.beq (fun _ => ?_) (fun _ => ?_) | refine Br.bne (fun _ => ?_) (fun _ => ?_) | refine Br.seq (fun _ => ?_) (fun _ => ?_) | refine Elt.i (by omega) ?_ | refine EltN.i (by omega) ?_ | refine Nt.cast ?_ | refine Nt.mk _ rfl ?_ | refine EltN.mk _ rfl ?_ | refine Mx.mk _ rfl ?_ | refine Br.mk (fun _ => ?_) (fun _ => ?_) | refine EndP.mk ?_ trivial | refine EndP.mk ?_ ⟨.inr ⟨List.mem_cons_self .., ?_, rfl⟩, trivial⟩ | refine Ar.i64 (by omega) ?_ | refine Ar.u8 (by omega) ?_ | refine Quo.pos (by omega) ?_ | refine Rem.pos (by omega) ?_ | refine BsP.own ?_ | refine Ob.mk ⟨rfl, rfl⟩ ?_ | refine Ob.mk (flat_i _ _).1 ?_ | refine Ob.mk (flat_i _ _) ?_ | refine Ob.mk (flat_s _) ?_ | refine Ob.mk (by first | omega | (simp; first | done | fail) | (simp; omega)) ?_ | fail
  all_goals first
    | (exfalso; simp_all; first | done | omega)
    | (exfalso; omega)
    | (rw [openN, if_pos (by omega), show (((u + 1) / 2 : Nat) : Int) = ((u : Int) + 1) / 2 by omega]; rfl)
    | (rw [openN, if_neg (by omega)]; rfl)
def seR (t : List UInt8) (a : Nat) : V := if ueOk t a then .tp [.i .i64 (openN (ueV t a - 1)), .i .i64 (a + (2 * zAt t a + 1) : Nat), .b true] else .tp [.i .i64 0, .i .i64 0, .b false]
theorem l03ReadSe_vow (t : List UInt8) (h : allSigns t) (hl : t.length ≤ 1000000) (a : Nat) (ha : a ≤ t.length) : Vow Try.prog 143 [.s t, .i .i64 a] (seR t a) [] := by
  have f1 := l03ReadUe_vow t h hl a ha
  by_cases hk : ueOk t a
  · have f2 := openSe_spec (ueV t a - 1) (by have := hk.2.2; omega)
    rw [ueR_yes hk] at f1
    rw [seR, if_pos hk]
    refine vow_of_ev (fn := Try.f143) [] [(0, 0), (12, 19), (19, 20), (0, 0), (21, 26), (26, 28)] tt_ok Try.func143 (by decide) rfl (Nat.le_of_ble_eq_true rfl) rfl rfl rfl ?_
    repeat' (conv => whnf); first | refine CallP.rd (f1) rfl rfl rfl rfl ?_ | refine CallP.rd (f2) rfl rfl rfl rfl ?_ | refine Br.tt ?_ | refine Br.ff ?_ | refine Br.not ?_ | refine Br.dand (fun _ => ?_) (fun _ => ?_) | refine Br.dec (fun _ => ?_) (fun _ => ?_) | refine Br.beq (fun _ => ?_) (fun _ => ?_) | refine Br.bne (fun _ => ?_) (fun _ => ?_) | refine Br.seq (fun _ => ?_) (fun _ => ?_) | refine Elt.i (by omega) ?_ | refine EltN.i (by omega) ?_ | refine Nt.cast ?_ | refine Nt.mk _ rfl ?_ | refine EltN.mk _ rfl ?_ | refine Mx.mk _ rfl ?_ | refine Br.mk (fun _ => ?_) (fun _ => ?_) | refine EndP.mk ?_ trivial | refine EndP.mk ?_ ⟨.inr ⟨List.mem_cons_self .., ?_, rfl⟩, trivial⟩ | refine Ar.i64 (by omega) ?_ | refine Ar.u8 (by omega) ?_ | refine Quo.pos (by omega) ?_ | refine Rem.pos (by omega) ?_ | refine BsP.own ?_ | refine Ob.mk ⟨rfl, rfl⟩ ?_ | refine Ob.mk (flat_i _ _).1 ?_ | refine Ob.mk (flat_i _ _) ?_ | refine Ob.mk (flat_s _) ?_ | refine Ob.mk (by first | omega | (simp; first | done | fail) | (simp; omega)) ?_ | fail
    rfl
  · rw [ueR_no hk] at f1
    rw [seR, if_neg hk]
    refine vow_of_ev (fn := Try.f143) [] [(0, 0), (12, 19), (19, 20), (0, 0), (21, 26), (26, 28)] tt_ok Try.func143 (by decide) rfl (Nat.le_of_ble_eq_true rfl) rfl rfl rfl ?_
    repeat' (conv => whnf); first | refine CallP.rd (f1) rfl rfl rfl rfl ?_ | refine Br.tt ?_ | refine Br.ff ?_ | refine Br.not ?_ | refine Br.dand (fun _ => ?_) (fun _ => ?_) | refine Br.dec (fun _ => ?_) (fun _ => ?_) | refine Br.beq (fun _ => ?_) (fun _ => ?_) | refine Br.bne (fun _ => ?_) (fun _ => ?_) | refine Br.seq (fun _ => ?_) (fun _ => ?_) | refine Elt.i (by omega) ?_ | refine EltN.i (by omega) ?_ | refine Nt.cast ?_ | refine Nt.mk _ rfl ?_ | refine EltN.mk _ rfl ?_ | refine Mx.mk _ rfl ?_ | refine Br.mk (fun _ => ?_) (fun _ => ?_) | refine EndP.mk ?_ trivial | refine EndP.mk ?_ ⟨.inr ⟨List.mem_cons_self .., ?_, rfl⟩, trivial⟩ | refine Ar.i64 (by omega) ?_ | refine Ar.u8 (by omega) ?_ | refine Quo.pos (by omega) ?_ | refine Rem.pos (by omega) ?_ | refine BsP.own ?_ | refine Ob.mk ⟨rfl, rfl⟩ ?_ | refine Ob.mk (flat_i _ _).1 ?_ | refine Ob.mk (flat_i _ _) ?_ | refine Ob.mk (flat_s _) ?_ | refine Ob.mk (by first | omega | (simp; first | done | fail) | (simp; omega)) ?_ | fail
    rfl
end Go.Proofs.Ytfcjjkfjdecakaa
