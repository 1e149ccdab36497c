/- Rows of signs packed into bytes: the reference's side. No condition. -/
import Derived.Test.YtfcjjkfjdecakaaTr
namespace Go.Proofs.Ytfcjjkfjdecakaa
open Go Go.Vx
set_option linter.unusedVariables false
set_option linter.unusedSimpArgs false
set_option maxHeartbeats 600000
set_option maxRecDepth 100000

def padN (t : List UInt8) : Nat := 7 - t.length % 8
def padS (t : List UInt8) (k : Nat) : List UInt8 := t ++ 49 :: List.replicate k 48
theorem padS_len (t : List UInt8) (k : Nat) : (padS t k).length = t.length + 1 + k := by simp [padS]; omega
theorem padS_succ (t : List UInt8) (k : Nat) : (padS t k).map byteV ++ [V.i .u8 48] = (padS t (k + 1)).map byteV := by
  have : List.replicate (k + 1) (48 : UInt8) = List.replicate k 48 ++ [48] := by rw [List.replicate_succ']
  simp [padS, this]
  rfl
theorem padS_at {t : List UInt8} (h : allSigns t) (k i : Nat) (hi : i < (padS t k).length) : (rb (padS t k) i).toNat = bitN t i + 48 := by
  unfold padS bitN
  by_cases h1 : i < t.length
  · have : rb (t ++ 49 :: List.replicate k 48) i = rb t i := by simp [rb, List.getElem?_append_left h1]
    rw [this, if_pos h1]
    have := h i h1
    unfold signAt at this
    omega
  · rw [if_neg h1]
    have : rb (t ++ 49 :: List.replicate k 48) i = rb (49 :: List.replicate k 48) (i - t.length) := by simp [rb, List.getElem?_append_right (show t.length ≤ i by omega)]
    rw [this]
    by_cases h2 : i = t.length
    · rw [if_pos h2, h2]; simp [rb]
    · rw [if_neg h2]
      rw [padS_len] at hi
      obtain ⟨m, hm⟩ : ∃ m, i - t.length = m + 1 := ⟨i - t.length - 1, by omega⟩
      rw [hm]
      have hmk : m < k := by omega
      simp [rb, hmk]

theorem take_packS {t : List UInt8} (h : allSigns t) {m : Nat} (hm : m < t.length / 8 + 1) :
    ((packS t).take m).map byteV ++ [V.i .u8 (val8 t m 8 : Nat)] = ((packS t).take (m + 1)).map byteV := by
  have hl : m < (packS t).length := by rw [packS_len]; exact hm
  rw [List.take_add_one, List.getElem?_eq_getElem hl, List.map_append]
  congr 1
  have : (rb (packS t) m).toNat = val8 t m 8 := packS_byte h m hm
  rw [← this]
  simp [rb, hl, byteV]

theorem l02Bytes_vow (t : List UInt8) (hs : allSigns t) (hl : t.length ≤ 1000000) : Vow Try.prog 133 [.s t] (.s (packS t)) [] := by
  have hpl := packS_len t
  have hpd := padS_len t (padN t)
  have hpd2 : ((padS t (padN t)).map byteV).length = t.length + 1 + padN t := by rw [List.length_map, hpd]
  have hpn : padN t = 7 - t.length % 8 := rfl
  refine vow_of_ev (fn := Try.f133) [] [(0, 0), (8, 12), (12, 15), (16, 19), (19, 20), (0, 0), (20, 23), (24, 26), (0, 0), (0, 0), (26, 27), (28, 30), (30, 41), (41, 46), (46, 48)] tt_ok Try.func133 (by decide) rfl (Nat.le_of_ble_eq_true rfl) rfl rfl rfl ?_
  repeat' (conv => whnf); first | refine Br.tt ?_ | refine Br.ff ?_ | refine Br.not ?_ | refine Br.dand (fun _ => ?_) (fun _ => ?_) | refine Br.dec (fun _ => ?_) (fun _ => ?_) | refine Br.beq (fun _ => ?_) (fun _ => ?_) | refine Br.bne (fun _ => ?_) (fun _ => ?_) | refine Br.seq (fun _ => ?_) (fun _ => ?_) | refine Elt.i (by omega) ?_ | refine EltN.i (by omega) ?_ | refine Nt.cast ?_ | refine Nt.mk _ rfl ?_ | refine EltN.mk _ rfl ?_ | refine Mx.mk _ rfl ?_ | refine Br.mk (fun _ => ?_) (fun _ => ?_) | refine EndP.mk ?_ trivial | refine EndP.mk ?_ ⟨.inr ⟨List.mem_cons_self .., ?_, rfl⟩, trivial⟩ | refine Ar.i64 (by omega) ?_ | refine Ar.u8 (by omega) ?_ | refine Quo.pos (by omega) ?_ | refine Rem.pos (by omega) ?_ | refine BsP.own ?_ | refine Ob.mk ⟨rfl, rfl⟩ ?_ | refine Ob.mk (flat_i _ _).1 ?_ | refine Ob.mk (flat_i _ _) ?_ | refine Ob.mk (flat_s _) ?_ | refine Ob.mk (by first | omega | (simp; first | done | fail) | (simp; omega)) ?_ | fail
  · conv => whnf
    refine LoopP.mk [0,2,3] (fun k : Nat => [(0, .s t), (2, .s []), (3, .ow 1 ((padS t k).map byteV))]) (fun k => padN t - k) (fun k => k ≤ padN t) ?_ ?_
    · conv => whnf
      refine ⟨0, by omega, ?_⟩
      rw [show t.map byteV ++ [V.i .u8 49] = (padS t 0).map byteV by simp [padS]; rfl]
    · intro k hk
      have hlk := padS_len t k
      have hlk2 : ((padS t k).map byteV).length = t.length + 1 + k := by rw [List.length_map, padS_len]
      repeat' (conv => whnf); first | refine Br.tt ?_ | refine Br.ff ?_ | refine Br.not ?_ | refine Br.dand (fun _ => ?_) (fun _ => ?_) | refine Br.dec (fun _ => ?_) (fun _ => ?_) | refine Br.beq (fun _ => ?_) (fun _ => ?_) | refine Br.bne (fun _ => ?_) (fun _ => ?_) | refine Br.seq (fun _ => ?_) (fun _ => ?_) | refine Elt.i (by omega) ?_ | refine EltN.i (by omega) ?_ | refine Nt.cast ?_ | refine Nt.mk _ rfl ?_ | refine EltN.mk _ rfl ?_ | refine Mx.mk _ rfl ?_ | refine Br.mk (fun _ => ?_) (fun _ => ?_) | refine EndP.mk ?_ trivial | refine EndP.mk ?_ ⟨.inr ⟨List.mem_cons_self .., ?_, rfl⟩, trivial⟩ | refine Ar.i64 (by omega) ?_ | refine Ar.u8 (by omega) ?_ | refine Quo.pos (by omega) ?_ | refine Rem.pos (by omega) ?_ | refine BsP.own ?_ | refine Ob.mk ⟨rfl, rfl⟩ ?_ | refine Ob.mk (flat_i _ _).1 ?_ | refine Ob.mk (flat_i _ _) ?_ | refine Ob.mk (flat_s _) ?_ | refine Ob.mk (by first | omega | (simp; first | done | fail) | (simp; omega)) ?_ | fail
      · obtain rfl : k = padN t := by omega
        repeat' (conv => whnf); first | refine Br.tt ?_ | refine Br.ff ?_ | refine Br.not ?_ | refine Br.dand (fun _ => ?_) (fun _ => ?_) | refine Br.dec (fun _ => ?_) (fun _ => ?_) | refine Br.beq (fun _ => ?_) (fun _ => ?_) | refine Br.bne (fun _ => ?_) (fun _ => ?_) | refine Br.seq (fun _ => ?_) (fun _ => ?_) | refine Elt.i (by omega) ?_ | refine EltN.i (by omega) ?_ | refine Nt.cast ?_ | refine Nt.mk _ rfl ?_ | refine EltN.mk _ rfl ?_ | refine Mx.mk _ rfl ?_ | refine Br.mk (fun _ => ?_) (fun _ => ?_) | refine EndP.mk ?_ trivial | refine EndP.mk ?_ ⟨.inr ⟨List.mem_cons_self .., ?_, rfl⟩, trivial⟩ | refine Ar.i64 (by omega) ?_ | refine Ar.u8 (by omega) ?_ | refine Quo.pos (by omega) ?_ | refine Rem.pos (by omega) ?_ | refine BsP.own ?_ | refine Ob.mk ⟨rfl, rfl⟩ ?_ | refine Ob.mk (flat_i _ _).1 ?_ | refine Ob.mk (flat_i _ _) ?_ | refine Ob.mk (flat_s _) ?_ | refine Ob.mk (by first | omega | (simp; first | done | fail) | (simp; omega)) ?_ | fail
        conv => whnf
        refine LoopP.mk [0,2,3,4,5] (fun m : Nat => [(0, .s t), (2, .s []), (3, .ow 1 ((padS t (padN t)).map byteV)), (4, .ow 1 (((packS t).take m).map byteV)), (5, .i .i64 (8 * m : Nat))]) (fun m => t.length / 8 + 1 - m) (fun m => m ≤ t.length / 8 + 1) ?_ ?_
        · conv => whnf
          refine ⟨0, by omega, ?_⟩
          rfl
        · intro m hm
          have hlm : ((packS t).take m).length = m := by rw [List.length_take]; omega
          have hlm2 : (((packS t).take m).map byteV).length = m := by rw [List.length_map, hlm]
          repeat' (conv => whnf); first | refine Br.tt ?_ | refine Br.ff ?_ | refine Br.not ?_ | refine Br.dand (fun _ => ?_) (fun _ => ?_) | refine Br.dec (fun _ => ?_) (fun _ => ?_) | refine Br.beq (fun _ => ?_) (fun _ => ?_) | refine Br.bne (fun _ => ?_) (fun _ => ?_) | refine Br.seq (fun _ => ?_) (fun _ => ?_) | refine Elt.i (by omega) ?_ | refine EltN.i (by omega) ?_ | refine Nt.cast ?_ | refine Nt.mk _ rfl ?_ | refine EltN.mk _ rfl ?_ | refine Mx.mk _ rfl ?_ | refine Br.mk (fun _ => ?_) (fun _ => ?_) | refine EndP.mk ?_ trivial | refine EndP.mk ?_ ⟨.inr ⟨List.mem_cons_self .., ?_, rfl⟩, trivial⟩ | refine Ar.i64 (by omega) ?_ | refine Ar.u8 (by omega) ?_ | refine Quo.pos (by omega) ?_ | refine Rem.pos (by omega) ?_ | refine BsP.own ?_ | refine Ob.mk ⟨rfl, rfl⟩ ?_ | refine Ob.mk (flat_i _ _).1 ?_ | refine Ob.mk (flat_i _ _) ?_ | refine Ob.mk (flat_s _) ?_ | refine Ob.mk (by first | omega | (simp; first | done | fail) | (simp; omega)) ?_ | fail
          · conv => whnf
            refine LoopP.mk [0,2,3,4,5,6,7] (fun j : Nat => [(0, .s t), (2, .s []), (3, .ow 1 ((padS t (padN t)).map byteV)), (4, .ow 1 (((packS t).take m).map byteV)), (5, .i .i64 (8 * m : Nat)), (6, .i .i64 (val8 t m j : Nat)), (7, .i .i64 j)]) (fun j => 8 - j) (fun j => j ≤ 8) ?_ ?_
            · conv => whnf
              exact ⟨0, by omega, rfl⟩
            · intro j hj
              have hv := val8_lt hs m j
              have hv8 : (2 : Nat) ^ j ≤ 256 := Nat.pow_le_pow_right (by omega) hj
              by_cases hj8 : j < 8
              · have hb := padS_at hs (padN t) (8 * m + j) (by omega)
                have hb1 := bitN_le hs (8 * m + j)
                repeat' (conv => whnf); first | refine Nt.of (8 * m + j) (by omega) ?_ | refine EltN.mk _ (byte_at2 (show 8 * m + j < (padS t (padN t)).length by omega)) ?_ | refine Br.tt ?_ | refine Br.ff ?_ | refine Br.not ?_ | refine Br.dand (fun _ => ?_) (fun _ => ?_) | refine Br.dec (fun _ => ?_) (fun _ => ?_) | refine Br.beq (fun _ => ?_) (fun _ => ?_) | refine Br.bne (fun _ => ?_) (fun _ => ?_) | refine Br.seq (fun _ => ?_) (fun _ => ?_) | refine Elt.i (by omega) ?_ | refine EltN.i (by omega) ?_ | refine Nt.cast ?_ | refine Nt.mk _ rfl ?_ | refine EltN.mk _ rfl ?_ | refine Mx.mk _ rfl ?_ | refine Br.mk (fun _ => ?_) (fun _ => ?_) | refine EndP.mk ?_ trivial | refine EndP.mk ?_ ⟨.inr ⟨List.mem_cons_self .., ?_, rfl⟩, trivial⟩ | refine Ar.i64 (by omega) ?_ | refine Ar.u8 (by omega) ?_ | refine Quo.pos (by omega) ?_ | refine Rem.pos (by omega) ?_ | refine BsP.own ?_ | refine Ob.mk ⟨rfl, rfl⟩ ?_ | refine Ob.mk (flat_i _ _).1 ?_ | refine Ob.mk (flat_i _ _) ?_ | refine Ob.mk (flat_s _) ?_ | refine Ob.mk (by first | omega | (simp; first | done | fail) | (simp; omega)) ?_ | fail
                all_goals first
                  | (exfalso; omega)
                  | (conv => whnf
                     refine ⟨j + 1, by omega, by omega, ?_⟩
                     rw [show (2 * (val8 t m j : Int) + ((rb (padS t (padN t)) (8 * m + j)).toNat : Int) - 48) = ((val8 t m (j + 1) : Nat) : Int) by rw [hb, val8]; omega]
                     rfl)
              · obtain rfl : j = 8 := by omega
                repeat' (conv => whnf); first | refine Br.tt ?_ | refine Br.ff ?_ | refine Br.not ?_ | refine Br.dand (fun _ => ?_) (fun _ => ?_) | refine Br.dec (fun _ => ?_) (fun _ => ?_) | refine Br.beq (fun _ => ?_) (fun _ => ?_) | refine Br.bne (fun _ => ?_) (fun _ => ?_) | refine Br.seq (fun _ => ?_) (fun _ => ?_) | refine Elt.i (by omega) ?_ | refine EltN.i (by omega) ?_ | refine Nt.cast ?_ | refine Nt.mk _ rfl ?_ | refine EltN.mk _ rfl ?_ | refine Mx.mk _ rfl ?_ | refine Br.mk (fun _ => ?_) (fun _ => ?_) | refine EndP.mk ?_ trivial | refine EndP.mk ?_ ⟨.inr ⟨List.mem_cons_self .., ?_, rfl⟩, trivial⟩ | refine Ar.i64 (by omega) ?_ | refine Ar.u8 (by omega) ?_ | refine Quo.pos (by omega) ?_ | refine Rem.pos (by omega) ?_ | refine BsP.own ?_ | refine Ob.mk ⟨rfl, rfl⟩ ?_ | refine Ob.mk (flat_i _ _).1 ?_ | refine Ob.mk (flat_i _ _) ?_ | refine Ob.mk (flat_s _) ?_ | refine Ob.mk (by first | omega | (simp; first | done | fail) | (simp; omega)) ?_ | fail
                all_goals first
                  | (exfalso; omega)
                  | (conv => whnf
                     refine ⟨m + 1, by omega, by omega, ?_⟩
                     rw [take_packS hs (by omega), show ((8 * m : Nat) : Int) + 8 = ((8 * (m + 1) : Nat) : Int) by omega])
          · obtain rfl : m = t.length / 8 + 1 := by omega
            have hB : allB (((packS t).take (t.length / 8 + 1)).map byteV) = some (packS t) := by
              rw [List.take_of_length_le (by omega)]; exact byt_tail _
            repeat' (conv => whnf); first | refine Byt.mk _ hB ?_ | refine Br.tt ?_ | refine Br.ff ?_ | refine Br.not ?_ | refine Br.dand (fun _ => ?_) (fun _ => ?_) | refine Br.dec (fun _ => ?_) (fun _ => ?_) | refine Br.beq (fun _ => ?_) (fun _ => ?_) | refine Br.bne (fun _ => ?_) (fun _ => ?_) | refine Br.seq (fun _ => ?_) (fun _ => ?_) | refine Elt.i (by omega) ?_ | refine EltN.i (by omega) ?_ | refine Nt.cast ?_ | refine Nt.mk _ rfl ?_ | refine EltN.mk _ rfl ?_ | refine Mx.mk _ rfl ?_ | refine Br.mk (fun _ => ?_) (fun _ => ?_) | refine EndP.mk ?_ trivial | refine EndP.mk ?_ ⟨.inr ⟨List.mem_cons_self .., ?_, rfl⟩, trivial⟩ | refine Ar.i64 (by omega) ?_ | refine Ar.u8 (by omega) ?_ | refine Quo.pos (by omega) ?_ | refine Rem.pos (by omega) ?_ | refine BsP.own ?_ | refine Ob.mk ⟨rfl, rfl⟩ ?_ | refine Ob.mk (flat_i _ _).1 ?_ | refine Ob.mk (flat_i _ _) ?_ | refine Ob.mk (flat_s _) ?_ | refine Ob.mk (by first | omega | (simp; first | done | fail) | (simp; omega)) ?_ | fail
            rfl
      · all_goals first
          | (exfalso; omega)
          | (conv => whnf
             refine ⟨k + 1, by omega, by omega, ?_⟩
             rw [padS_succ])
end Go.Proofs.Ytfcjjkfjdecakaa
