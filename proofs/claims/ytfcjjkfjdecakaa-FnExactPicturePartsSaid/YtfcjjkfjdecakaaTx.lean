/- Rows of signs out of bytes, and units read: both sides. No condition. -/
import Derived.Test.YtfcjjkfjdecakaaTw
import Derived.Test.YtfcjjkfjdecakaaTq
namespace Go.Proofs.Ytfcjjkfjdecakaa
open Go Go.Vx
set_option linter.unusedVariables false
set_option linter.unusedSimpArgs false
set_option maxHeartbeats 600000
set_option maxRecDepth 100000

/-- Bit i of a text, the high ones of a byte first. -/
def bitB (t : List UInt8) (i : Nat) : Nat := (rb t (i / 8)).toNat / 2 ^ (7 - i % 8) % 2
theorem bitB_le (t : List UInt8) (i : Nat) : bitB t i ≤ 1 := by unfold bitB; omega
def blS (t : List UInt8) (n : Nat) : List UInt8 := (List.range n).map fun i => UInt8.ofNat (48 + bitB t i)
theorem blS_len (t : List UInt8) (n : Nat) : (blS t n).length = n := by simp [blS]
theorem blS_succ (t : List UInt8) (n : Nat) : blS t (n + 1) = blS t n ++ [UInt8.ofNat (48 + bitB t n)] := by simp [blS, List.range_succ]
theorem blS_at (t : List UInt8) {n i : Nat} (h : i < n) : (rb (blS t n) i).toNat = 48 + bitB t i := by
  have hb := bitB_le t i
  have : rb (blS t n) i = UInt8.ofNat (48 + bitB t i) := by simp [rb, blS, h]
  rw [this, UInt8.toNat_ofNat']
  omega
theorem blS_signs (t : List UInt8) (n : Nat) : allSigns (blS t n) := fun j hj => by
  rw [blS_len] at hj
  have := blS_at t hj
  have hb := bitB_le t j
  unfold signAt
  omega
theorem fix8 (n : Nat) : fixS 8 n = [UInt8.ofNat (48 + n / 128 % 2), UInt8.ofNat (48 + n / 64 % 2), UInt8.ofNat (48 + n / 32 % 2), UInt8.ofNat (48 + n / 16 % 2), UInt8.ofNat (48 + n / 8 % 2), UInt8.ofNat (48 + n / 4 % 2), UInt8.ofNat (48 + n / 2 % 2), UInt8.ofNat (48 + n % 2)] := by
  simp [fixS, Nat.div_div_eq_div_mul]
theorem bitB_in (t : List UInt8) (m j : Nat) (hj : j < 8) : bitB t (8 * m + j) = (rb t m).toNat / 2 ^ (7 - j) % 2 := by
  unfold bitB
  rw [show (8 * m + j) / 8 = m by omega, show (8 * m + j) % 8 = j by omega]
theorem blS_byte (t : List UInt8) (m : Nat) : blS t (8 * m) ++ fixS 8 (rb t m).toNat = blS t (8 * (m + 1)) := by
  rw [fix8, show 8 * (m + 1) = 8 * m + 7 + 1 by omega, blS_succ, blS_succ, blS_succ, blS_succ, blS_succ, blS_succ, blS_succ, blS_succ,
    bitB_in t m 7 (by omega), bitB_in t m 6 (by omega), bitB_in t m 5 (by omega), bitB_in t m 4 (by omega), bitB_in t m 3 (by omega), bitB_in t m 2 (by omega), bitB_in t m 1 (by omega), show bitB t (8 * m) = (rb t m).toNat / 2 ^ (7 - 0) % 2 from bitB_in t m 0 (by omega)]
  simp

/-- Up to behind the last one. -/
def stN (t : List UInt8) : Nat → Nat
  | 0 => 0
  | n + 1 => if bitB t n = 0 then stN t n else n + 1
theorem stN_le (t : List UInt8) : ∀ n, stN t n ≤ n
  | 0 => Nat.le_refl _
  | n + 1 => by
    have := stN_le t n
    simp only [stN]
    split <;> omega
theorem stN_zero (t : List UInt8) : ∀ n, stN t n = 0 → ∀ i, i < n → bitB t i = 0
  | 0, _, i, hi => by omega
  | n + 1, h, i, hi => by
    simp only [stN] at h
    split at h
    · rename_i hb
      rcases Nat.lt_or_eq_of_le (Nat.le_of_lt_succ hi) with h1 | h1
      · exact stN_zero t n h i h1
      · subst h1; exact hb
    · omega
theorem stN_one {t : List UInt8} {n : Nat} (h : ¬ bitB t n = 0) : stN t (n + 1) = n + 1 := by rw [stN, if_neg h]
theorem stN_skip {t : List UInt8} {n : Nat} (h : bitB t n = 0) : stN t (n + 1) = stN t n := by rw [stN, if_pos h]
theorem byte_zero : ∀ n : Fin 256, (∀ j : Fin 8, n.val / 2 ^ (7 - j.val) % 2 = 0) → n.val = 0 := by decide +kernel
def brN (t : List UInt8) : Nat := stN t (8 * t.length)
theorem brN_pos {t : List UInt8} (h : 0 < t.length) (hl : ¬ (rb t (t.length - 1)).toNat = 0) : 1 ≤ brN t := by
  rcases Nat.eq_zero_or_pos (brN t) with h0 | h0
  · refine (hl ?_).elim
    have hz := stN_zero t _ h0
    refine byte_zero ⟨(rb t (t.length - 1)).toNat, (rb t (t.length - 1)).toNat_lt⟩ (fun j => ?_)
    have := hz (8 * (t.length - 1) + j.val) (by omega)
    rw [bitB_in t _ j.val j.isLt] at this
    exact this
  · exact h0
def brPre (t : List UInt8) : Prop := (0 < t.length ∧ t.length ≤ 50001) ∧ ¬ (rb t (t.length - 1)).toNat = 0
instance (t : List UInt8) : Decidable (brPre t) := by unfold brPre; infer_instance
def brOk (t : List UInt8) : Prop := brPre t ∧ brN t ≤ 400001
instance (t : List UInt8) : Decidable (brOk t) := by unfold brOk; infer_instance
def brS (t : List UInt8) : List UInt8 := blS t (brN t - 1)
def brV (t : List UInt8) : V := if brOk t then .tp [.s (brS t), .b true] else .tp [.s [], .b false]
theorem brV_no {t : List UInt8} (h : ¬ brOk t) : brV t = .tp [.s [], .b false] := by rw [brV, if_neg h]
theorem brV_yes {t : List UInt8} (h : brOk t) : brV t = .tp [.s (brS t), .b true] := by rw [brV, if_pos h]
theorem blS_take (t : List UInt8) {n m : Nat} (h : m ≤ n) : ((blS t n).map byteV).take m = (blS t m).map byteV := by
  rw [← List.map_take]
  congr 1
  simp only [blS, ← List.map_take, List.take_range, Nat.min_eq_left h]

theorem _root_.Go.Vx.Cut.upto {n b : Nat} {x : Int} {k : IntKind} {κ : Nat → Nat → Prop} (h : x = (b : Int) ∧ b ≤ n) (g : κ 0 b) : Cut n none (some (.i k x)) κ := by
  obtain ⟨rfl, h⟩ := h
  refine .mk 0 b ?_ g
  simp only [boundsOf]
  rw [if_pos (by omega)]
  simp

def andU (x : Int) : Int := IntKind.u8.wrap (BitVec.ofInt IntKind.u8.bits x &&& BitVec.ofInt IntKind.u8.bits 1).toNat
theorem andU_bit : ∀ b : Fin 256, ∀ r : Fin 8, andU ((b.val : Int).fdiv (2 ^ min ((7 : Int) - (r.val : Int)).toNat IntKind.u8.bits)) = ((b.val / 2 ^ (7 - r.val) % 2 : Nat) : Int) := by decide +kernel
theorem andU_at (t : List UInt8) (i : Nat) : andU (((rb t (i / 8)).toNat : Int).fdiv (2 ^ min ((7 : Int) - (i : Int) % 8).toNat IntKind.u8.bits)) = ((bitB t i : Nat) : Int) := by
  have := andU_bit ⟨(rb t (i / 8)).toNat, (rb t (i / 8)).toNat_lt⟩ ⟨i % 8, by omega⟩
  simp only at this
  rw [show ((i : Int) % 8) = ((i % 8 : Nat) : Int) by omega]
  exact this

theorem bl_push (t : List UInt8) (i : Nat) : (blS t i).map byteV ++ [V.i .u8 ((48 + bitB t i : Nat) : Int)] = (blS t (i + 1)).map byteV := by
  have hb := bitB_le t i
  rw [blS_succ, List.map_append]
  congr 1
  simp only [List.map_cons, List.map_nil, byteV, UInt8.toNat_ofNat']
  rw [Nat.mod_eq_of_lt (by omega)]
theorem _root_.Go.Vx.Chr.ax {l : List UInt8} (j : Nat) {x : Int} {κ : UInt8 → Prop} (h : x = (j : Int) ∧ j < l.length) (g : κ (rb l j)) : Chr l x κ := by
  obtain ⟨rfl, h⟩ := h; exact Chr.at h g

set_option maxHeartbeats 6000000 in
theorem bytesRow_impl (t : List UInt8) (hl : t.length ≤ 2000000) : Vow Try.prog 144 [.s t] (brV t) [] := by
  refine vow_of_ev (fn := Try.f144) [] [(0, 0), (7, 10), (10, 23), (0, 0), (24, 26), (0, 0), (26, 28), (29, 31), (31, 44), (44, 49), (50, 52), (52, 54), (0, 0), (55, 60)] tt_ok Try.func144 (by decide) rfl (Nat.le_of_ble_eq_true rfl) rfl rfl rfl ?_
  by_cases hp : brPre t
  · have hn := brN_pos hp.1.1 hp.2
    have hp' := hp
    obtain ⟨⟨hp1, hp2⟩, hp3⟩ := hp
    have hN := stN_le t (8 * t.length)
    repeat' (conv => whnf); first | refine Chr.ax (t.length - 1) (by omega) ?_ | refine Br.tt ?_ | refine Br.ff ?_ | refine Br.not ?_ | refine Br.dand (fun _ => ?_) (fun _ => ?_) | refine Br.dec (fun _ => ?_) (fun _ => ?_) | refine Br.beq (fun _ => ?_) (fun _ => ?_) | refine Br.bne (fun _ => ?_) (fun _ => ?_) | refine Br.seq (fun _ => ?_) (fun _ => ?_) | refine Elt.i (by omega) ?_ | refine EltN.i (by omega) ?_ | refine Nt.cast ?_ | refine Nt.mk _ rfl ?_ | refine EltN.mk _ rfl ?_ | refine Mx.mk _ rfl ?_ | refine Br.mk (fun _ => ?_) (fun _ => ?_) | refine EndP.mk ?_ trivial | refine EndP.mk ?_ ⟨.inr ⟨List.mem_cons_self .., ?_, rfl⟩, trivial⟩ | refine Ar.i64 (by omega) ?_ | refine Ar.u8 (by omega) ?_ | refine Quo.pos (by omega) ?_ | refine Rem.pos (by omega) ?_ | refine BsP.own ?_ | refine Ob.mk ⟨rfl, rfl⟩ ?_ | refine Ob.mk (flat_i _ _).1 ?_ | refine Ob.mk (flat_i _ _) ?_ | refine Ob.mk (flat_s _) ?_ | refine Ob.mk (by first | omega | (simp; first | done | fail) | (simp; omega)) ?_ | fail
    all_goals first
      | (exfalso; omega)
      | skip
    conv => whnf
    refine LoopP.mk [0,2,3,4,5,6] (fun i : Nat => [(0, .s t), (2, .s []), (3, .b false), (4, .i .i64 (8 * (t.length : Int))), (5, .ow 1 ((blS t i).map byteV)), (6, .i .i64 i)]) (fun i => 8 * t.length - i) (fun i => i ≤ 8 * t.length) ?_ ?_
    · conv => whnf
      exact ⟨0, by omega, rfl⟩
    · intro i hi
      have hbl := blS_len t i
      have hbm : ((blS t i).map byteV).length = i := by rw [List.length_map, hbl]
      have hb1 := bitB_le t i
      have ea := andU_at t i
      by_cases hlt : i < 8 * t.length
      · repeat' (conv => whnf); first | refine Chr.ax (i / 8) (by omega) ?_ | refine Shr.mk (by omega) ?_ | refine Ar.u8 (x := 48 + andU (((rb t (i / 8)).toNat : Int).fdiv (2 ^ min ((7 : Int) - (i : Int) % 8).toNat IntKind.u8.bits))) (by omega) ?_ | refine Br.tt ?_ | refine Br.ff ?_ | refine Br.not ?_ | refine Br.dand (fun _ => ?_) (fun _ => ?_) | refine Br.dec (fun _ => ?_) (fun _ => ?_) | refine Br.beq (fun _ => ?_) (fun _ => ?_) | refine Br.bne (fun _ => ?_) (fun _ => ?_) | refine Br.seq (fun _ => ?_) (fun _ => ?_) | refine Elt.i (by omega) ?_ | refine EltN.i (by omega) ?_ | refine Nt.cast ?_ | refine Nt.mk _ rfl ?_ | refine EltN.mk _ rfl ?_ | refine Mx.mk _ rfl ?_ | refine Br.mk (fun _ => ?_) (fun _ => ?_) | refine EndP.mk ?_ trivial | refine EndP.mk ?_ ⟨.inr ⟨List.mem_cons_self .., ?_, rfl⟩, trivial⟩ | refine Ar.i64 (by omega) ?_ | refine Ar.u8 (by omega) ?_ | refine Quo.pos (by omega) ?_ | refine Rem.pos (by omega) ?_ | refine BsP.own ?_ | refine Ob.mk ⟨rfl, rfl⟩ ?_ | refine Ob.mk (flat_i _ _).1 ?_ | refine Ob.mk (flat_i _ _) ?_ | refine Ob.mk (flat_s _) ?_ | refine Ob.mk (by first | omega | (simp; first | done | fail) | (simp; omega)) ?_ | fail
        all_goals first
          | (exfalso; omega)
          | (conv => whnf
             refine ⟨i + 1, by omega, by omega, ?_⟩
             rw [show (48 + andU (((rb t (i / 8)).toNat : Int).fdiv (2 ^ min ((7 : Int) - (i : Int) % 8).toNat IntKind.u8.bits))) = ((48 + bitB t i : Nat) : Int) by omega, bl_push]
             rfl)
      · obtain rfl : i = 8 * t.length := by omega
        repeat' (conv => whnf); first | refine Br.tt ?_ | refine Br.ff ?_ | refine Br.not ?_ | refine Br.dand (fun _ => ?_) (fun _ => ?_) | refine Br.dec (fun _ => ?_) (fun _ => ?_) | refine Br.beq (fun _ => ?_) (fun _ => ?_) | refine Br.bne (fun _ => ?_) (fun _ => ?_) | refine Br.seq (fun _ => ?_) (fun _ => ?_) | refine Elt.i (by omega) ?_ | refine EltN.i (by omega) ?_ | refine Nt.cast ?_ | refine Nt.mk _ rfl ?_ | refine EltN.mk _ rfl ?_ | refine Mx.mk _ rfl ?_ | refine Br.mk (fun _ => ?_) (fun _ => ?_) | refine EndP.mk ?_ trivial | refine EndP.mk ?_ ⟨.inr ⟨List.mem_cons_self .., ?_, rfl⟩, trivial⟩ | refine Ar.i64 (by omega) ?_ | refine Ar.u8 (by omega) ?_ | refine Quo.pos (by omega) ?_ | refine Rem.pos (by omega) ?_ | refine BsP.own ?_ | refine Ob.mk ⟨rfl, rfl⟩ ?_ | refine Ob.mk (flat_i _ _).1 ?_ | refine Ob.mk (flat_i _ _) ?_ | refine Ob.mk (flat_s _) ?_ | refine Ob.mk (by first | omega | (simp; first | done | fail) | (simp; omega)) ?_ | fail
        all_goals first
          | (exfalso; omega)
          | skip
        conv => whnf
        refine LoopP.mk [2,3,4,5] (fun n : Nat => [(2, .s []), (3, .b false), (4, .i .i64 n), (5, .ow 1 ((blS t (8 * t.length)).map byteV))]) (fun n => n) (fun n => 1 ≤ n ∧ n ≤ 8 * t.length ∧ stN t n = brN t) ?_ ?_
        · conv => whnf
          refine ⟨8 * t.length, ⟨by omega, by omega, rfl⟩, ?_⟩
          rw [show (8 * (t.length : Int)) = ((8 * t.length : Nat) : Int) by omega]
        · rintro n ⟨hn1, hn2, hst⟩
          obtain ⟨m, rfl⟩ : ∃ m, n = m + 1 := ⟨n - 1, by omega⟩
          have hat := blS_at t (show m < 8 * t.length by omega)
          have hbm1 := bitB_le t m
          have hskip : bitB t m = 0 → stN t m = brN t := fun hb => by rw [← hst, stN_skip hb]
          have hone : ¬ bitB t m = 0 → m + 1 = brN t := fun hb => by rw [← hst, stN_one hb]
          have hle := stN_le t m
          have hB : allB ((((blS t (8 * t.length)).map byteV).drop 0).take m) = some (blS t m) := by
            rw [List.drop_zero, blS_take t (by omega)]; exact byt_tail _
          repeat' (conv => whnf); first | refine Nt.of m (by omega) ?_ | refine EltN.mk _ (byte_at2 (show m < (blS t (8 * t.length)).length by omega)) ?_ | refine Cut.upto (b := m) (by omega) ?_ | refine Byt.mk _ hB ?_ | refine Br.tt ?_ | refine Br.ff ?_ | refine Br.not ?_ | refine Br.dand (fun _ => ?_) (fun _ => ?_) | refine Br.dec (fun _ => ?_) (fun _ => ?_) | refine Br.beq (fun _ => ?_) (fun _ => ?_) | refine Br.bne (fun _ => ?_) (fun _ => ?_) | refine Br.seq (fun _ => ?_) (fun _ => ?_) | refine Elt.i (by omega) ?_ | refine EltN.i (by omega) ?_ | refine Nt.cast ?_ | refine Nt.mk _ rfl ?_ | refine EltN.mk _ rfl ?_ | refine Mx.mk _ rfl ?_ | refine Br.mk (fun _ => ?_) (fun _ => ?_) | refine EndP.mk ?_ trivial | refine EndP.mk ?_ ⟨.inr ⟨List.mem_cons_self .., ?_, rfl⟩, trivial⟩ | refine Ar.i64 (by omega) ?_ | refine Ar.u8 (by omega) ?_ | refine Quo.pos (by omega) ?_ | refine Rem.pos (by omega) ?_ | refine BsP.own ?_ | refine Ob.mk ⟨rfl, rfl⟩ ?_ | refine Ob.mk (flat_i _ _).1 ?_ | refine Ob.mk (flat_i _ _) ?_ | refine Ob.mk (flat_s _) ?_ | refine Ob.mk (by first | omega | (simp; first | done | fail) | (simp; omega)) ?_ | fail
          all_goals first
            | (exfalso; omega)
            | (conv => whnf
               have hb0 := hskip (by omega)
               refine ⟨m, ⟨by omega, by omega, hb0⟩, by omega, ?_⟩
               rw [show ((m + 1 : Nat) : Int) - 1 = (m : Int) by omega])
            | (have hb0 := hone (by omega)
               rw [brV_no (fun k => by have := k.2; omega)]; rfl)
            | (have hb0 := hone (by omega)
               rw [brV_yes ⟨hp', by omega⟩, brS, show brN t - 1 = m by omega]; rfl)
  · have hno : ¬ brOk t := fun k => hp k.1
    rw [brV_no hno]
    unfold brPre at hp
    repeat' (conv => whnf); first | refine Chr.ax (t.length - 1) (by omega) ?_ | refine Br.tt ?_ | refine Br.ff ?_ | refine Br.not ?_ | refine Br.dand (fun _ => ?_) (fun _ => ?_) | refine Br.dec (fun _ => ?_) (fun _ => ?_) | refine Br.beq (fun _ => ?_) (fun _ => ?_) | refine Br.bne (fun _ => ?_) (fun _ => ?_) | refine Br.seq (fun _ => ?_) (fun _ => ?_) | refine Elt.i (by omega) ?_ | refine EltN.i (by omega) ?_ | refine Nt.cast ?_ | refine Nt.mk _ rfl ?_ | refine EltN.mk _ rfl ?_ | refine Mx.mk _ rfl ?_ | refine Br.mk (fun _ => ?_) (fun _ => ?_) | refine EndP.mk ?_ trivial | refine EndP.mk ?_ ⟨.inr ⟨List.mem_cons_self .., ?_, rfl⟩, trivial⟩ | refine Ar.i64 (by omega) ?_ | refine Ar.u8 (by omega) ?_ | refine Quo.pos (by omega) ?_ | refine Rem.pos (by omega) ?_ | refine BsP.own ?_ | refine Ob.mk ⟨rfl, rfl⟩ ?_ | refine Ob.mk (flat_i _ _).1 ?_ | refine Ob.mk (flat_i _ _) ?_ | refine Ob.mk (flat_s _) ?_ | refine Ob.mk (by first | omega | (simp; first | done | fail) | (simp; omega)) ?_ | fail
    all_goals first
      | (exfalso; omega)
      | rfl

set_option maxHeartbeats 6000000 in
theorem bytesRow_spec (t : List UInt8) (hl : t.length ≤ 2000000) : Vow Try.prog 140 [.s t] (brV t) [] := by
  refine vow_of_ev (fn := Try.f140) [] [(0, 0), (7, 22), (0, 0), (23, 24), (0, 0), (24, 27), (28, 30), (30, 37), (37, 39), (39, 48), (49, 51), (51, 53), (0, 0), (54, 59)] tt_ok Try.func140 (by decide) rfl (Nat.le_of_ble_eq_true rfl) rfl rfl rfl ?_
  by_cases hp : brPre t
  · have hn := brN_pos hp.1.1 hp.2
    have hp' := hp
    obtain ⟨⟨hp1, hp2⟩, hp3⟩ := hp
    have hN := stN_le t (8 * t.length)
    repeat' (conv => whnf); first | refine Chr.ax (t.length - 1) (by omega) ?_ | refine Br.tt ?_ | refine Br.ff ?_ | refine Br.not ?_ | refine Br.dand (fun _ => ?_) (fun _ => ?_) | refine Br.dec (fun _ => ?_) (fun _ => ?_) | refine Br.beq (fun _ => ?_) (fun _ => ?_) | refine Br.bne (fun _ => ?_) (fun _ => ?_) | refine Br.seq (fun _ => ?_) (fun _ => ?_) | refine Elt.i (by omega) ?_ | refine EltN.i (by omega) ?_ | refine Nt.cast ?_ | refine Nt.mk _ rfl ?_ | refine EltN.mk _ rfl ?_ | refine Mx.mk _ rfl ?_ | refine Br.mk (fun _ => ?_) (fun _ => ?_) | refine EndP.mk ?_ trivial | refine EndP.mk ?_ ⟨.inr ⟨List.mem_cons_self .., ?_, rfl⟩, trivial⟩ | refine Ar.i64 (by omega) ?_ | refine Ar.u8 (by omega) ?_ | refine Quo.pos (by omega) ?_ | refine Rem.pos (by omega) ?_ | refine BsP.own ?_ | refine Ob.mk ⟨rfl, rfl⟩ ?_ | refine Ob.mk (flat_i _ _).1 ?_ | refine Ob.mk (flat_i _ _) ?_ | refine Ob.mk (flat_s _) ?_ | refine Ob.mk (by first | omega | (simp; first | done | fail) | (simp; omega)) ?_ | fail
    all_goals first
      | (exfalso; omega)
      | skip
    conv => whnf
    refine LoopP.mk [0,2,3,4,5] (fun i : Nat => [(0, .s t), (2, .s []), (3, .b false), (4, .ow 1 ((blS t (8 * i)).map byteV)), (5, .i .i64 i)]) (fun i => t.length - i) (fun i => i ≤ t.length) ?_ ?_
    · conv => whnf
      exact ⟨0, by omega, rfl⟩
    · intro i hi
      have hbl := blS_len t (8 * i)
      have hbm : ((blS t (8 * i)).map byteV).length = 8 * i := by rw [List.length_map, hbl]
      have hb := (rb t i).toNat_lt
      have hf8 : (fixS 8 (rb t i).toNat).length = 8 := by rw [fix8]; rfl
      have f1 : Vow Try.prog 129 [.i .i64 ((rb t i).toNat : Nat), .i .i64 8] (.s (fixS 8 (rb t i).toNat)) [] := fix_spec (rb t i).toNat 8 (by omega) (by omega)
      by_cases hlt : i < t.length
      · repeat' (conv => whnf); first | refine Chr.at (i := i) (by omega) ?_ | refine CallP.rd (f1) rfl rfl rfl rfl ?_ | refine Br.tt ?_ | refine Br.ff ?_ | refine Br.not ?_ | refine Br.dand (fun _ => ?_) (fun _ => ?_) | refine Br.dec (fun _ => ?_) (fun _ => ?_) | refine Br.beq (fun _ => ?_) (fun _ => ?_) | refine Br.bne (fun _ => ?_) (fun _ => ?_) | refine Br.seq (fun _ => ?_) (fun _ => ?_) | refine Elt.i (by omega) ?_ | refine EltN.i (by omega) ?_ | refine Nt.cast ?_ | refine Nt.mk _ rfl ?_ | refine EltN.mk _ rfl ?_ | refine Mx.mk _ rfl ?_ | refine Br.mk (fun _ => ?_) (fun _ => ?_) | refine EndP.mk ?_ trivial | refine EndP.mk ?_ ⟨.inr ⟨List.mem_cons_self .., ?_, rfl⟩, trivial⟩ | refine Ar.i64 (by omega) ?_ | refine Ar.u8 (by omega) ?_ | refine Quo.pos (by omega) ?_ | refine Rem.pos (by omega) ?_ | refine BsP.own ?_ | refine Ob.mk ⟨rfl, rfl⟩ ?_ | refine Ob.mk (flat_i _ _).1 ?_ | refine Ob.mk (flat_i _ _) ?_ | refine Ob.mk (flat_s _) ?_ | refine Ob.mk (by first | omega | (simp; first | done | fail) | (simp; omega)) ?_ | fail
        all_goals first
          | (exfalso; omega)
          | (conv => whnf
             refine ⟨i + 1, by omega, by omega, ?_⟩
             rw [← List.map_append, blS_byte]
             rfl)
      · obtain rfl : i = t.length := by omega
        repeat' (conv => whnf); first | refine Br.tt ?_ | refine Br.ff ?_ | refine Br.not ?_ | refine Br.dand (fun _ => ?_) (fun _ => ?_) | refine Br.dec (fun _ => ?_) (fun _ => ?_) | refine Br.beq (fun _ => ?_) (fun _ => ?_) | refine Br.bne (fun _ => ?_) (fun _ => ?_) | refine Br.seq (fun _ => ?_) (fun _ => ?_) | refine Elt.i (by omega) ?_ | refine EltN.i (by omega) ?_ | refine Nt.cast ?_ | refine Nt.mk _ rfl ?_ | refine EltN.mk _ rfl ?_ | refine Mx.mk _ rfl ?_ | refine Br.mk (fun _ => ?_) (fun _ => ?_) | refine EndP.mk ?_ trivial | refine EndP.mk ?_ ⟨.inr ⟨List.mem_cons_self .., ?_, rfl⟩, trivial⟩ | refine Ar.i64 (by omega) ?_ | refine Ar.u8 (by omega) ?_ | refine Quo.pos (by omega) ?_ | refine Rem.pos (by omega) ?_ | refine BsP.own ?_ | refine Ob.mk ⟨rfl, rfl⟩ ?_ | refine Ob.mk (flat_i _ _).1 ?_ | refine Ob.mk (flat_i _ _) ?_ | refine Ob.mk (flat_s _) ?_ | refine Ob.mk (by first | omega | (simp; first | done | fail) | (simp; omega)) ?_ | fail
        all_goals first
          | (exfalso; omega)
          | skip
        conv => whnf
        refine LoopP.mk [2,3,4,6] (fun n : Nat => [(2, .s []), (3, .b false), (4, .ow 1 ((blS t (8 * t.length)).map byteV)), (6, .i .i64 n)]) (fun n => n) (fun n => 1 ≤ n ∧ n ≤ 8 * t.length ∧ stN t n = brN t) ?_ ?_
        · conv => whnf
          refine ⟨8 * t.length, ⟨by omega, by omega, rfl⟩, ?_⟩
          rw [hbm]
        · rintro n ⟨hn1, hn2, hst⟩
          obtain ⟨m, rfl⟩ : ∃ m, n = m + 1 := ⟨n - 1, by omega⟩
          have hat := blS_at t (show m < 8 * t.length by omega)
          have hbm1 := bitB_le t m
          have hskip : bitB t m = 0 → stN t m = brN t := fun hb => by rw [← hst, stN_skip hb]
          have hone : ¬ bitB t m = 0 → m + 1 = brN t := fun hb => by rw [← hst, stN_one hb]
          have hle := stN_le t m
          have hB : allB ((((blS t (8 * t.length)).map byteV).drop 0).take m) = some (blS t m) := by
            rw [List.drop_zero, blS_take t (by omega)]; exact byt_tail _
          repeat' (conv => whnf); first | refine Nt.of m (by omega) ?_ | refine EltN.mk _ (byte_at2 (show m < (blS t (8 * t.length)).length by omega)) ?_ | refine Cut.upto (b := m) (by omega) ?_ | refine Byt.mk _ hB ?_ | refine Br.tt ?_ | refine Br.ff ?_ | refine Br.not ?_ | refine Br.dand (fun _ => ?_) (fun _ => ?_) | refine Br.dec (fun _ => ?_) (fun _ => ?_) | refine Br.beq (fun _ => ?_) (fun _ => ?_) | refine Br.bne (fun _ => ?_) (fun _ => ?_) | refine Br.seq (fun _ => ?_) (fun _ => ?_) | refine Elt.i (by omega) ?_ | refine EltN.i (by omega) ?_ | refine Nt.cast ?_ | refine Nt.mk _ rfl ?_ | refine EltN.mk _ rfl ?_ | refine Mx.mk _ rfl ?_ | refine Br.mk (fun _ => ?_) (fun _ => ?_) | refine EndP.mk ?_ trivial | refine EndP.mk ?_ ⟨.inr ⟨List.mem_cons_self .., ?_, rfl⟩, trivial⟩ | refine Ar.i64 (by omega) ?_ | refine Ar.u8 (by omega) ?_ | refine Quo.pos (by omega) ?_ | refine Rem.pos (by omega) ?_ | refine BsP.own ?_ | refine Ob.mk ⟨rfl, rfl⟩ ?_ | refine Ob.mk (flat_i _ _).1 ?_ | refine Ob.mk (flat_i _ _) ?_ | refine Ob.mk (flat_s _) ?_ | refine Ob.mk (by first | omega | (simp; first | done | fail) | (simp; omega)) ?_ | fail
          all_goals first
            | (exfalso; omega)
            | (conv => whnf
               have hb0 := hskip (by omega)
               refine ⟨m, ⟨by omega, by omega, hb0⟩, by omega, ?_⟩
               rw [show ((m + 1 : Nat) : Int) - 1 = (m : Int) by omega])
            | (have hb0 := hone (by omega)
               rw [brV_no (fun k => by have := k.2; omega)]; rfl)
            | (have hb0 := hone (by omega)
               rw [brV_yes ⟨hp', by omega⟩, brS, show brN t - 1 = m by omega]; rfl)
  · have hno : ¬ brOk t := fun k => hp k.1
    rw [brV_no hno]
    unfold brPre at hp
    repeat' (conv => whnf); first | refine Chr.ax (t.length - 1) (by omega) ?_ | refine Br.tt ?_ | refine Br.ff ?_ | refine Br.not ?_ | refine Br.dand (fun _ => ?_) (fun _ => ?_) | refine Br.dec (fun _ => ?_) (fun _ => ?_) | refine Br.beq (fun _ => ?_) (fun _ => ?_) | refine Br.bne (fun _ => ?_) (fun _ => ?_) | refine Br.seq (fun _ => ?_) (fun _ => ?_) | refine Elt.i (by omega) ?_ | refine EltN.i (by omega) ?_ | refine Nt.cast ?_ | refine Nt.mk _ rfl ?_ | refine EltN.mk _ rfl ?_ | refine Mx.mk _ rfl ?_ | refine Br.mk (fun _ => ?_) (fun _ => ?_) | refine EndP.mk ?_ trivial | refine EndP.mk ?_ ⟨.inr ⟨List.mem_cons_self .., ?_, rfl⟩, trivial⟩ | refine Ar.i64 (by omega) ?_ | refine Ar.u8 (by omega) ?_ | refine Quo.pos (by omega) ?_ | refine Rem.pos (by omega) ?_ | refine BsP.own ?_ | refine Ob.mk ⟨rfl, rfl⟩ ?_ | refine Ob.mk (flat_i _ _).1 ?_ | refine Ob.mk (flat_i _ _) ?_ | refine Ob.mk (flat_s _) ?_ | refine Ob.mk (by first | omega | (simp; first | done | fail) | (simp; omega)) ?_ | fail
    all_goals first
      | (exfalso; omega)
      | rfl

def uiOk (u : List UInt8) : Prop := 0 < u.length ∧ isKind ((rb u 0).toNat : Int) ∧ brOk (u.drop 1)
instance (u : List UInt8) : Decidable (uiOk u) := by unfold uiOk; infer_instance
def uiV (u : List UInt8) : V := if uiOk u then .tp [.i .i64 ((rb u 0).toNat : Nat), .s (brS (u.drop 1)), .b true] else .tp [.i .i64 0, .s [], .b false]
theorem uiV_no {u : List UInt8} (h : ¬ uiOk u) : uiV u = .tp [.i .i64 0, .s [], .b false] := by rw [uiV, if_neg h]
theorem uiV_yes {u : List UInt8} (h : uiOk u) : uiV u = .tp [.i .i64 ((rb u 0).toNat : Nat), .s (brS (u.drop 1)), .b true] := by rw [uiV, if_pos h]
theorem _root_.Go.Vx.Cut.one {n : Nat} {k : IntKind} {κ : Nat → Nat → Prop} (h : 1 ≤ n) (g : κ 1 n) : Cut n (some (.i k 1)) none κ := by
  refine .mk 1 n ?_ g
  simp only [boundsOf]
  rw [if_pos (by omega)]
  rfl

set_option maxHeartbeats 6000000 in
theorem unitIn_impl (u : List UInt8) (hl : u.length ≤ 2000000) : Vow Try.prog 81 [.s u] (uiV u) [] := by
  have hb := (rb u 0).toNat_lt
  by_cases h0 : 0 < u.length
  · have f1 := isKind_impl ((rb u 0).toNat : Int)
    have f2 := bytesRow_impl (u.drop 1) (by simp; omega)
    have hd : (u.drop 1).take (u.length - 1) = u.drop 1 := List.take_of_length_le (by simp)
    by_cases hk : isKind ((rb u 0).toNat : Int)
    · rw [decide_eq_true hk] at f1
      by_cases hr : brOk (u.drop 1)
      · rw [brV_yes hr] at f2
        have f3 : Vow Try.prog 144 [.s ((u.drop 1).take (u.length - 1))] (.tp [.s (brS (u.drop 1)), .b true]) [] := by rw [hd]; exact f2
        rw [uiV_yes ⟨h0, hk, hr⟩]
        refine vow_of_ev (fn := Try.f81) [] [(0, 0), (7, 15), (0, 0), (16, 22), (22, 23), (0, 0), (24, 28)] tt_ok Try.func81 (by decide) rfl (Nat.le_of_ble_eq_true rfl) rfl rfl rfl ?_
        repeat' (conv => whnf); first | refine Chr.ax 0 ⟨rfl, h0⟩ ?_ | refine CallP.rd (f1) rfl rfl rfl rfl ?_ | refine CallP.rd (f3) rfl rfl rfl rfl ?_ | refine Cut.one (by omega) ?_ | refine Br.tt ?_ | refine Br.ff ?_ | refine Br.not ?_ | refine Br.dand (fun _ => ?_) (fun _ => ?_) | refine Br.dec (fun _ => ?_) (fun _ => ?_) | refine Br.beq (fun _ => ?_) (fun _ => ?_) | refine Br.bne (fun _ => ?_) (fun _ => ?_) | refine Br.seq (fun _ => ?_) (fun _ => ?_) | refine Elt.i (by omega) ?_ | refine EltN.i (by omega) ?_ | refine Nt.cast ?_ | refine Nt.mk _ rfl ?_ | refine EltN.mk _ rfl ?_ | refine Mx.mk _ rfl ?_ | refine Br.mk (fun _ => ?_) (fun _ => ?_) | refine EndP.mk ?_ trivial | refine EndP.mk ?_ ⟨.inr ⟨List.mem_cons_self .., ?_, rfl⟩, trivial⟩ | refine Ar.i64 (by omega) ?_ | refine Ar.u8 (by omega) ?_ | refine Quo.pos (by omega) ?_ | refine Rem.pos (by omega) ?_ | refine BsP.own ?_ | refine Ob.mk ⟨rfl, rfl⟩ ?_ | refine Ob.mk (flat_i _ _).1 ?_ | refine Ob.mk (flat_i _ _) ?_ | refine Ob.mk (flat_s _) ?_ | refine Ob.mk (by first | omega | (simp; first | done | fail) | (simp; omega)) ?_ | fail
        all_goals first
          | (exfalso; omega)
          | (exfalso; rename_i hx; rw [hx] at h0; exact absurd h0 (by decide))
          | rfl
      · rw [brV_no hr] at f2
        have f3 : Vow Try.prog 144 [.s ((u.drop 1).take (u.length - 1))] (.tp [.s [], .b false]) [] := by rw [hd]; exact f2
        rw [uiV_no (fun k => hr k.2.2)]
        refine vow_of_ev (fn := Try.f81) [] [(0, 0), (7, 15), (0, 0), (16, 22), (22, 23), (0, 0), (24, 28)] tt_ok Try.func81 (by decide) rfl (Nat.le_of_ble_eq_true rfl) rfl rfl rfl ?_
        repeat' (conv => whnf); first | refine Chr.ax 0 ⟨rfl, h0⟩ ?_ | refine CallP.rd (f1) rfl rfl rfl rfl ?_ | refine CallP.rd (f3) rfl rfl rfl rfl ?_ | refine Cut.one (by omega) ?_ | refine Br.tt ?_ | refine Br.ff ?_ | refine Br.not ?_ | refine Br.dand (fun _ => ?_) (fun _ => ?_) | refine Br.dec (fun _ => ?_) (fun _ => ?_) | refine Br.beq (fun _ => ?_) (fun _ => ?_) | refine Br.bne (fun _ => ?_) (fun _ => ?_) | refine Br.seq (fun _ => ?_) (fun _ => ?_) | refine Elt.i (by omega) ?_ | refine EltN.i (by omega) ?_ | refine Nt.cast ?_ | refine Nt.mk _ rfl ?_ | refine EltN.mk _ rfl ?_ | refine Mx.mk _ rfl ?_ | refine Br.mk (fun _ => ?_) (fun _ => ?_) | refine EndP.mk ?_ trivial | refine EndP.mk ?_ ⟨.inr ⟨List.mem_cons_self .., ?_, rfl⟩, trivial⟩ | refine Ar.i64 (by omega) ?_ | refine Ar.u8 (by omega) ?_ | refine Quo.pos (by omega) ?_ | refine Rem.pos (by omega) ?_ | refine BsP.own ?_ | refine Ob.mk ⟨rfl, rfl⟩ ?_ | refine Ob.mk (flat_i _ _).1 ?_ | refine Ob.mk (flat_i _ _) ?_ | refine Ob.mk (flat_s _) ?_ | refine Ob.mk (by first | omega | (simp; first | done | fail) | (simp; omega)) ?_ | fail
        all_goals first
          | (exfalso; omega)
          | (exfalso; rename_i hx; rw [hx] at h0; exact absurd h0 (by decide))
          | rfl
    · rw [decide_eq_false hk] at f1
      rw [uiV_no (fun k => hk k.2.1)]
      refine vow_of_ev (fn := Try.f81) [] [(0, 0), (7, 15), (0, 0), (16, 22), (22, 23), (0, 0), (24, 28)] tt_ok Try.func81 (by decide) rfl (Nat.le_of_ble_eq_true rfl) rfl rfl rfl ?_
      repeat' (conv => whnf); first | refine Chr.ax 0 ⟨rfl, h0⟩ ?_ | refine CallP.rd (f1) rfl rfl rfl rfl ?_ | refine Br.tt ?_ | refine Br.ff ?_ | refine Br.not ?_ | refine Br.dand (fun _ => ?_) (fun _ => ?_) | refine Br.dec (fun _ => ?_) (fun _ => ?_) | refine Br.beq (fun _ => ?_) (fun _ => ?_) | refine Br.bne (fun _ => ?_) (fun _ => ?_) | refine Br.seq (fun _ => ?_) (fun _ => ?_) | refine Elt.i (by omega) ?_ | refine EltN.i (by omega) ?_ | refine Nt.cast ?_ | refine Nt.mk _ rfl ?_ | refine EltN.mk _ rfl ?_ | refine Mx.mk _ rfl ?_ | refine Br.mk (fun _ => ?_) (fun _ => ?_) | refine EndP.mk ?_ trivial | refine EndP.mk ?_ ⟨.inr ⟨List.mem_cons_self .., ?_, rfl⟩, trivial⟩ | refine Ar.i64 (by omega) ?_ | refine Ar.u8 (by omega) ?_ | refine Quo.pos (by omega) ?_ | refine Rem.pos (by omega) ?_ | refine BsP.own ?_ | refine Ob.mk ⟨rfl, rfl⟩ ?_ | refine Ob.mk (flat_i _ _).1 ?_ | refine Ob.mk (flat_i _ _) ?_ | refine Ob.mk (flat_s _) ?_ | refine Ob.mk (by first | omega | (simp; first | done | fail) | (simp; omega)) ?_ | fail
      all_goals first
          | (exfalso; omega)
          | (exfalso; rename_i hx; rw [hx] at h0; exact absurd h0 (by decide))
          | rfl
  · obtain rfl : u = [] := by cases u <;> first | rfl | (simp at h0)
    rw [uiV_no (fun k => h0 k.1)]
    refine vow_of_ev (fn := Try.f81) [] [(0, 0), (7, 15), (0, 0), (16, 22), (22, 23), (0, 0), (24, 28)] tt_ok Try.func81 (by decide) rfl (Nat.le_of_ble_eq_true rfl) rfl rfl rfl ?_
    repeat' (conv => whnf); first | refine Br.tt ?_ | refine Br.ff ?_ | refine Br.not ?_ | refine Br.dand (fun _ => ?_) (fun _ => ?_) | refine Br.dec (fun _ => ?_) (fun _ => ?_) | refine Br.beq (fun _ => ?_) (fun _ => ?_) | refine Br.bne (fun _ => ?_) (fun _ => ?_) | refine Br.seq (fun _ => ?_) (fun _ => ?_) | refine Elt.i (by omega) ?_ | refine EltN.i (by omega) ?_ | refine Nt.cast ?_ | refine Nt.mk _ rfl ?_ | refine EltN.mk _ rfl ?_ | refine Mx.mk _ rfl ?_ | refine Br.mk (fun _ => ?_) (fun _ => ?_) | refine EndP.mk ?_ trivial | refine EndP.mk ?_ ⟨.inr ⟨List.mem_cons_self .., ?_, rfl⟩, trivial⟩ | refine Ar.i64 (by omega) ?_ | refine Ar.u8 (by omega) ?_ | refine Quo.pos (by omega) ?_ | refine Rem.pos (by omega) ?_ | refine BsP.own ?_ | refine Ob.mk ⟨rfl, rfl⟩ ?_ | refine Ob.mk (flat_i _ _).1 ?_ | refine Ob.mk (flat_i _ _) ?_ | refine Ob.mk (flat_s _) ?_ | refine Ob.mk (by first | omega | (simp; first | done | fail) | (simp; omega)) ?_ | fail
    all_goals first
      | (exfalso; omega)
      | (exfalso; exact absurd rfl ‹¬ _ = _›)
      | rfl
set_option maxHeartbeats 6000000 in
theorem unitIn_spec (u : List UInt8) (hl : u.length ≤ 2000000) : Vow Try.prog 79 [.s u] (uiV u) [] := by
  have hb := (rb u 0).toNat_lt
  by_cases h0 : 0 < u.length
  · have f1 := isKind_spec ((rb u 0).toNat : Int)
    have f2 := bytesRow_spec (u.drop 1) (by simp; omega)
    have hd : (u.drop 1).take (u.length - 1) = u.drop 1 := List.take_of_length_le (by simp)
    by_cases hk : isKind ((rb u 0).toNat : Int)
    · rw [decide_eq_true hk] at f1
      by_cases hr : brOk (u.drop 1)
      · rw [brV_yes hr] at f2
        have f3 : Vow Try.prog 140 [.s ((u.drop 1).take (u.length - 1))] (.tp [.s (brS (u.drop 1)), .b true]) [] := by rw [hd]; exact f2
        rw [uiV_yes ⟨h0, hk, hr⟩]
        refine vow_of_ev (fn := Try.f79) [] [(0, 0), (7, 16), (0, 0), (17, 23), (23, 24), (0, 0), (25, 29)] tt_ok Try.func79 (by decide) rfl (Nat.le_of_ble_eq_true rfl) rfl rfl rfl ?_
        repeat' (conv => whnf); first | refine Chr.ax 0 ⟨rfl, h0⟩ ?_ | refine CallP.rd (f1) rfl rfl rfl rfl ?_ | refine CallP.rd (f3) rfl rfl rfl rfl ?_ | refine Cut.one (by omega) ?_ | refine Br.tt ?_ | refine Br.ff ?_ | refine Br.not ?_ | refine Br.dand (fun _ => ?_) (fun _ => ?_) | refine Br.dec (fun _ => ?_) (fun _ => ?_) | refine Br.beq (fun _ => ?_) (fun _ => ?_) | refine Br.bne (fun _ => ?_) (fun _ => ?_) | refine Br.seq (fun _ => ?_) (fun _ => ?_) | refine Elt.i (by omega) ?_ | refine EltN.i (by omega) ?_ | refine Nt.cast ?_ | refine Nt.mk _ rfl ?_ | refine EltN.mk _ rfl ?_ | refine Mx.mk _ rfl ?_ | refine Br.mk (fun _ => ?_) (fun _ => ?_) | refine EndP.mk ?_ trivial | refine EndP.mk ?_ ⟨.inr ⟨List.mem_cons_self .., ?_, rfl⟩, trivial⟩ | refine Ar.i64 (by omega) ?_ | refine Ar.u8 (by omega) ?_ | refine Quo.pos (by omega) ?_ | refine Rem.pos (by omega) ?_ | refine BsP.own ?_ | refine Ob.mk ⟨rfl, rfl⟩ ?_ | refine Ob.mk (flat_i _ _).1 ?_ | refine Ob.mk (flat_i _ _) ?_ | refine Ob.mk (flat_s _) ?_ | refine Ob.mk (by first | omega | (simp; first | done | fail) | (simp; omega)) ?_ | fail
        all_goals first
          | (exfalso; omega)
          | (exfalso; rename_i hx; rw [hx] at h0; exact absurd h0 (by decide))
          | rfl
      · rw [brV_no hr] at f2
        have f3 : Vow Try.prog 140 [.s ((u.drop 1).take (u.length - 1))] (.tp [.s [], .b false]) [] := by rw [hd]; exact f2
        rw [uiV_no (fun k => hr k.2.2)]
        refine vow_of_ev (fn := Try.f79) [] [(0, 0), (7, 16), (0, 0), (17, 23), (23, 24), (0, 0), (25, 29)] tt_ok Try.func79 (by decide) rfl (Nat.le_of_ble_eq_true rfl) rfl rfl rfl ?_
        repeat' (conv => whnf); first | refine Chr.ax 0 ⟨rfl, h0⟩ ?_ | refine CallP.rd (f1) rfl rfl rfl rfl ?_ | refine CallP.rd (f3) rfl rfl rfl rfl ?_ | refine Cut.one (by omega) ?_ | refine Br.tt ?_ | refine Br.ff ?_ | refine Br.not ?_ | refine Br.dand (fun _ => ?_) (fun _ => ?_) | refine Br.dec (fun _ => ?_) (fun _ => ?_) | refine Br.beq (fun _ => ?_) (fun _ => ?_) | refine Br.bne (fun _ => ?_) (fun _ => ?_) | refine Br.seq (fun _ => ?_) (fun _ => ?_) | refine Elt.i (by omega) ?_ | refine EltN.i (by omega) ?_ | refine Nt.cast ?_ | refine Nt.mk _ rfl ?_ | refine EltN.mk _ rfl ?_ | refine Mx.mk _ rfl ?_ | refine Br.mk (fun _ => ?_) (fun _ => ?_) | refine EndP.mk ?_ trivial | refine EndP.mk ?_ ⟨.inr ⟨List.mem_cons_self .., ?_, rfl⟩, trivial⟩ | refine Ar.i64 (by omega) ?_ | refine Ar.u8 (by omega) ?_ | refine Quo.pos (by omega) ?_ | refine Rem.pos (by omega) ?_ | refine BsP.own ?_ | refine Ob.mk ⟨rfl, rfl⟩ ?_ | refine Ob.mk (flat_i _ _).1 ?_ | refine Ob.mk (flat_i _ _) ?_ | refine Ob.mk (flat_s _) ?_ | refine Ob.mk (by first | omega | (simp; first | done | fail) | (simp; omega)) ?_ | fail
        all_goals first
          | (exfalso; omega)
          | (exfalso; rename_i hx; rw [hx] at h0; exact absurd h0 (by decide))
          | rfl
    · rw [decide_eq_false hk] at f1
      rw [uiV_no (fun k => hk k.2.1)]
      refine vow_of_ev (fn := Try.f79) [] [(0, 0), (7, 16), (0, 0), (17, 23), (23, 24), (0, 0), (25, 29)] tt_ok Try.func79 (by decide) rfl (Nat.le_of_ble_eq_true rfl) rfl rfl rfl ?_
      repeat' (conv => whnf); first | refine Chr.ax 0 ⟨rfl, h0⟩ ?_ | refine CallP.rd (f1) rfl rfl rfl rfl ?_ | refine Br.tt ?_ | refine Br.ff ?_ | refine Br.not ?_ | refine Br.dand (fun _ => ?_) (fun _ => ?_) | refine Br.dec (fun _ => ?_) (fun _ => ?_) | refine Br.beq (fun _ => ?_) (fun _ => ?_) | refine Br.bne (fun _ => ?_) (fun _ => ?_) | refine Br.seq (fun _ => ?_) (fun _ => ?_) | refine Elt.i (by omega) ?_ | refine EltN.i (by omega) ?_ | refine Nt.cast ?_ | refine Nt.mk _ rfl ?_ | refine EltN.mk _ rfl ?_ | refine Mx.mk _ rfl ?_ | refine Br.mk (fun _ => ?_) (fun _ => ?_) | refine EndP.mk ?_ trivial | refine EndP.mk ?_ ⟨.inr ⟨List.mem_cons_self .., ?_, rfl⟩, trivial⟩ | refine Ar.i64 (by omega) ?_ | refine Ar.u8 (by omega) ?_ | refine Quo.pos (by omega) ?_ | refine Rem.pos (by omega) ?_ | refine BsP.own ?_ | refine Ob.mk ⟨rfl, rfl⟩ ?_ | refine Ob.mk (flat_i _ _).1 ?_ | refine Ob.mk (flat_i _ _) ?_ | refine Ob.mk (flat_s _) ?_ | refine Ob.mk (by first | omega | (simp; first | done | fail) | (simp; omega)) ?_ | fail
      all_goals first
          | (exfalso; omega)
          | (exfalso; rename_i hx; rw [hx] at h0; exact absurd h0 (by decide))
          | rfl
  · obtain rfl : u = [] := by cases u <;> first | rfl | (simp at h0)
    rw [uiV_no (fun k => h0 k.1)]
    refine vow_of_ev (fn := Try.f79) [] [(0, 0), (7, 16), (0, 0), (17, 23), (23, 24), (0, 0), (25, 29)] tt_ok Try.func79 (by decide) rfl (Nat.le_of_ble_eq_true rfl) rfl rfl rfl ?_
    repeat' (conv => whnf); first | refine Br.tt ?_ | refine Br.ff ?_ | refine Br.not ?_ | refine Br.dand (fun _ => ?_) (fun _ => ?_) | refine Br.dec (fun _ => ?_) (fun _ => ?_) | refine Br.beq (fun _ => ?_) (fun _ => ?_) | refine Br.bne (fun _ => ?_) (fun _ => ?_) | refine Br.seq (fun _ => ?_) (fun _ => ?_) | refine Elt.i (by omega) ?_ | refine EltN.i (by omega) ?_ | refine Nt.cast ?_ | refine Nt.mk _ rfl ?_ | refine EltN.mk _ rfl ?_ | refine Mx.mk _ rfl ?_ | refine Br.mk (fun _ => ?_) (fun _ => ?_) | refine EndP.mk ?_ trivial | refine EndP.mk ?_ ⟨.inr ⟨List.mem_cons_self .., ?_, rfl⟩, trivial⟩ | refine Ar.i64 (by omega) ?_ | refine Ar.u8 (by omega) ?_ | refine Quo.pos (by omega) ?_ | refine Rem.pos (by omega) ?_ | refine BsP.own ?_ | refine Ob.mk ⟨rfl, rfl⟩ ?_ | refine Ob.mk (flat_i _ _).1 ?_ | refine Ob.mk (flat_i _ _) ?_ | refine Ob.mk (flat_s _) ?_ | refine Ob.mk (by first | omega | (simp; first | done | fail) | (simp; omega)) ?_ | fail
    all_goals first
      | (exfalso; omega)
      | (exfalso; exact absurd rfl ‹¬ _ = _›)
      | rfl
end Go.Proofs.Ytfcjjkfjdecakaa
