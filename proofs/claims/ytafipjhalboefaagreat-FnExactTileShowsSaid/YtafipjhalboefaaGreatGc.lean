/- Decoders in the laws. No condition. -/
import Derived.Test.YtafipjhalboefaaGreatGa
namespace Go.Proofs.YtafipjhalboefaaGreat
open Go Go.Vx
set_option linter.unusedVariables false
set_option linter.unusedSimpArgs false
set_option maxHeartbeats 600000
set_option maxRecDepth 100000

set_option maxHeartbeats 40000000 in
theorem toDecoder_w (a : DecoderD) (h : znDecoder a ≤ 1000000000) : Vow Tryz.prog 42 [decoderVs a] (decoderVo a) [] := by
  have ht : znDecoder a = znSeq a.seq + znPic a.now + znPic a.ref := rfl
  refine vow_of_ev (fn := Tryz.f42) [] [(0, 0), (0, 0), (4, 7), (7, 10), (10, 13), (13, 17), (17, 21), (21, 24), (24, 27), (27, 31), (31, 35), (35, 36)] tt_ok Tryz.func42 (by decide) rfl (Nat.le_of_ble_eq_true rfl) rfl rfl rfl ?_
  repeat' (conv => whnf); first | refine CallP.re (toSeq_w a.seq (by omega)) (by first | with_reducible rfl | (simp only [imm_i, imm_s, imm_b, iO, iS, imm_iO, seqVs, seqVo, imm_seqVo, own_seqVo, immR_seqVo, ownR_seqVo, parV, imm_parV, own_parV, immR_parV, ownR_parV, picV, imm_picV, own_picV, immR_picV, ownR_picV, decoderVs, decoderVo, imm_decoderVo, own_decoderVo, immR_decoderVo, ownR_decoderVo]; first | done | fail)) rfl rfl rfl (by first | rfl | exact own_i _ _ | exact own_s _ | exact own_b _ | (simp [V.noSl, V.noSl.go, own_i, own_s, own_b, iO, iS, imm_iO, seqVs, seqVo, imm_seqVo, own_seqVo, immR_seqVo, ownR_seqVo, parV, imm_parV, own_parV, immR_parV, ownR_parV, picV, imm_picV, own_picV, immR_picV, ownR_picV, decoderVs, decoderVo, imm_decoderVo, own_decoderVo, immR_decoderVo, ownR_decoderVo]; first | done | fail)) ?_ | refine CallP.rd (toPar_w a.par) rfl rfl rfl rfl ?_ | refine CallP.rd (toPic_w a.now (by omega)) rfl rfl rfl rfl ?_ | refine CallP.rd (toPic_w a.ref (by omega)) rfl rfl rfl rfl ?_ | refine Br.tt ?_ | refine Br.ff ?_ | refine Br.not ?_ | refine Br.dand (fun _ => ?_) (fun _ => ?_) | refine Br.dec (fun _ => ?_) (fun _ => ?_) | refine Br.beq (fun _ => ?_) (fun _ => ?_) | refine Br.bne (fun _ => ?_) (fun _ => ?_) | refine Br.seq (fun _ => ?_) (fun _ => ?_) | refine Elt.i (by omega) ?_ | refine EltN.i (by omega) ?_ | refine Nt.cast ?_ | refine Nt.mk _ rfl ?_ | refine EltN.mk _ rfl ?_ | refine Mx.mk _ rfl ?_ | refine Br.mk (fun _ => ?_) (fun _ => ?_) | refine EndP.mk ?_ trivial | refine EndP.mk ?_ ⟨.inr ⟨List.mem_cons_self .., ?_, rfl⟩, trivial⟩ | refine Ar.i64 (by omega) ?_ | refine Ar.u8 (by omega) ?_ | refine Quo.pos (by omega) ?_ | refine Rem.pos (by omega) ?_ | refine BsP.own ?_ | refine SetN.two ?_ | refine SetN.one ?_ | refine Ob.mk ⟨rfl, rfl⟩ ?_ | refine Ob.mk (flat_i _ _).1 ?_ | refine Ob.mk (flat_i _ _) ?_ | refine Ob.mk (flat_s _) ?_ | refine Ob.mk (by first | omega | (simp; first | done | fail) | (simp; omega)) ?_ | fail
  all_goals rfl

set_option maxHeartbeats 40000000 in
theorem eqDecoder_w (a : DecoderD) (h : znDecoder a ≤ 1000000000) : Vow Tryz.prog 53 [decoderVs a, decoderVs a] (.b true) [] := by
  have ht : znDecoder a = znSeq a.seq + znPic a.now + znPic a.ref := rfl
  refine vow_of_ev (fn := Tryz.f53) [] [(0, 0), (5, 9), (0, 0), (10, 14), (0, 0), (15, 19), (0, 0), (20, 25), (0, 0), (26, 31), (0, 0), (32, 36), (0, 0), (37, 41), (0, 0), (42, 47), (0, 0), (48, 53), (0, 0), (0, 0)] tt_ok Tryz.func53 (by decide) rfl (Nat.le_of_ble_eq_true rfl) rfl rfl rfl ?_
  repeat' (conv => whnf); first | refine Br.ne_self ?_ | refine Br.eq_self ?_ | refine Br.deq ?_ | refine CallP.rd (eqSeq_w a.seq (by omega)) rfl rfl rfl rfl ?_ | refine CallP.rd (eqPar_w a.par) rfl rfl rfl rfl ?_ | refine CallP.rd (eqPic_w a.now (by omega)) rfl rfl rfl rfl ?_ | refine CallP.rd (eqPic_w a.ref (by omega)) rfl rfl rfl rfl ?_ | refine Br.tt ?_ | refine Br.ff ?_ | refine Br.not ?_ | refine Br.dand (fun _ => ?_) (fun _ => ?_) | refine Br.dec (fun _ => ?_) (fun _ => ?_) | refine Br.beq (fun _ => ?_) (fun _ => ?_) | refine Br.bne (fun _ => ?_) (fun _ => ?_) | refine Br.seq (fun _ => ?_) (fun _ => ?_) | refine Elt.i (by omega) ?_ | refine EltN.i (by omega) ?_ | refine Nt.cast ?_ | refine Nt.mk _ rfl ?_ | refine EltN.mk _ rfl ?_ | refine Mx.mk _ rfl ?_ | refine Br.mk (fun _ => ?_) (fun _ => ?_) | refine EndP.mk ?_ trivial | refine EndP.mk ?_ ⟨.inr ⟨List.mem_cons_self .., ?_, rfl⟩, trivial⟩ | refine Ar.i64 (by omega) ?_ | refine Ar.u8 (by omega) ?_ | refine Quo.pos (by omega) ?_ | refine Rem.pos (by omega) ?_ | refine BsP.own ?_ | refine SetN.two ?_ | refine SetN.one ?_ | refine Ob.mk ⟨rfl, rfl⟩ ?_ | refine Ob.mk (flat_i _ _).1 ?_ | refine Ob.mk (flat_i _ _) ?_ | refine Ob.mk (flat_s _) ?_ | refine Ob.mk (by first | omega | (simp; first | done | fail) | (simp; omega)) ?_ | fail
  all_goals rfl
set_option maxHeartbeats 40000000 in
theorem szDecoder_w (a : DecoderD) (h : HasDecoder a) (left : Int) (hl : 0 ≤ left ∧ left ≤ 1048576) : Vow Tryz.prog 32 [decoderVs a, .i .i64 left] (.i .i64 (szL (znDecoder a) left)) [] := by
  have ht : znDecoder a = znSeq a.seq + znPic a.now + znPic a.ref := rfl
  have hm : maxLen ≤ 9223372036854775807 := by decide
  have c := szL_le (znDecoder a) left
  have c0 := szL_le (znSeq a.seq) (left)
  have c1 := szL_le (znPic a.now) (szL (znSeq a.seq) (left))
  have c2 := szL_le (znPic a.ref) (szL (znPic a.now) (szL (znSeq a.seq) (left)))
  refine vow_of_ev (fn := Tryz.f32) [] [(0, 0), (5, 9), (9, 10), (0, 0), (11, 15), (15, 16), (0, 0), (17, 21), (21, 22), (0, 0), (23, 24)] tt_ok Tryz.func32 (by decide) rfl (Nat.le_of_ble_eq_true rfl) rfl rfl rfl ?_
  repeat' (conv => whnf); first | refine CallP.rd (szSeq_w a.seq h.seq (left) (by omega)) rfl rfl rfl rfl ?_ | refine CallP.rd (szPic_w a.now h.now (szL (znSeq a.seq) (left)) (by omega)) rfl rfl rfl rfl ?_ | refine CallP.rd (szPic_w a.ref h.ref (szL (znPic a.now) (szL (znSeq a.seq) (left))) (by omega)) rfl rfl rfl rfl ?_ | refine Br.tt ?_ | refine Br.ff ?_ | refine Br.not ?_ | refine Br.dand (fun _ => ?_) (fun _ => ?_) | refine Br.dec (fun _ => ?_) (fun _ => ?_) | refine Br.beq (fun _ => ?_) (fun _ => ?_) | refine Br.bne (fun _ => ?_) (fun _ => ?_) | refine Br.seq (fun _ => ?_) (fun _ => ?_) | refine Elt.i (by omega) ?_ | refine EltN.i (by omega) ?_ | refine Nt.cast ?_ | refine Nt.mk _ rfl ?_ | refine EltN.mk _ rfl ?_ | refine Mx.mk _ rfl ?_ | refine Br.mk (fun _ => ?_) (fun _ => ?_) | refine EndP.mk ?_ trivial | refine EndP.mk ?_ ⟨.inr ⟨List.mem_cons_self .., ?_, rfl⟩, trivial⟩ | refine Ar.i64 (by omega) ?_ | refine Ar.u8 (by omega) ?_ | refine Quo.pos (by omega) ?_ | refine Rem.pos (by omega) ?_ | refine BsP.own ?_ | refine SetN.two ?_ | refine SetN.one ?_ | refine Ob.mk ⟨rfl, rfl⟩ ?_ | refine Ob.mk (flat_i _ _).1 ?_ | refine Ob.mk (flat_i _ _) ?_ | refine Ob.mk (flat_s _) ?_ | refine Ob.mk (by first | omega | (simp; first | done | fail) | (simp; omega)) ?_ | fail
  all_goals first
    | (exfalso; omega)
    | (rw [show szL (znDecoder a) left = -1 by omega]; rfl)
    | (rw [show szL (znDecoder a) left = szL (znPic a.ref) (szL (znPic a.now) (szL (znSeq a.seq) (left))) by omega]; rfl)

set_option maxHeartbeats 40000000 in
theorem toDecoderS_w (l : List DecoderD) (h : l.length + sumR decoderD znDecoder l l.length ≤ 1000000000) : Vow Tryz.prog 43 [.sl (l.map decoderVs)] (.ow 19 (l.map decoderVo)) [] := by
  have hm : (l.map decoderVs).length = l.length := by simp
  refine vow_of_ev (fn := Tryz.f43) [] [(0, 0), (5, 8), (0, 0), (8, 11), (12, 14), (14, 22), (22, 23)] tt_ok Tryz.func43 (by decide) rfl (Nat.le_of_ble_eq_true rfl) rfl rfl rfl ?_
  repeat' (conv => whnf); first | refine Br.tt ?_ | refine Br.ff ?_ | refine Br.not ?_ | refine Br.dand (fun _ => ?_) (fun _ => ?_) | refine Br.dec (fun _ => ?_) (fun _ => ?_) | refine Br.beq (fun _ => ?_) (fun _ => ?_) | refine Br.bne (fun _ => ?_) (fun _ => ?_) | refine Br.seq (fun _ => ?_) (fun _ => ?_) | refine Elt.i (by omega) ?_ | refine EltN.i (by omega) ?_ | refine Nt.cast ?_ | refine Nt.mk _ rfl ?_ | refine EltN.mk _ rfl ?_ | refine Mx.mk _ rfl ?_ | refine Br.mk (fun _ => ?_) (fun _ => ?_) | refine EndP.mk ?_ trivial | refine EndP.mk ?_ ⟨.inr ⟨List.mem_cons_self .., ?_, rfl⟩, trivial⟩ | refine Ar.i64 (by omega) ?_ | refine Ar.u8 (by omega) ?_ | refine Quo.pos (by omega) ?_ | refine Rem.pos (by omega) ?_ | refine BsP.own ?_ | refine SetN.two ?_ | refine SetN.one ?_ | refine Ob.mk ⟨rfl, rfl⟩ ?_ | refine Ob.mk (flat_i _ _).1 ?_ | refine Ob.mk (flat_i _ _) ?_ | refine Ob.mk (flat_s _) ?_ | refine Ob.mk (by first | omega | (simp; first | done | fail) | (simp; omega)) ?_ | fail
  · conv => whnf
    refine LoopP.mk [0,2,3,4] (fun i : Nat => [(0, .sl (l.map decoderVs)), (2, .nl), (3, .ow 19 (cpR decoderVo (.ag [.b false, .b false, .b false, .i .i64 0, .i .i64 0, .nl, .nl, .i .i64 0, .b false, .b false, .b false, .i .i64 0, .i .i64 0, .i .i64 0, .i .i64 0, .s [], .i .i64 0, .i .i64 0, .s []]) l i)), (4, .i .i64 i)]) (fun i => l.length - i) (fun i => i ≤ l.length) ?_ ?_
    · conv => whnf
      refine ⟨0, by omega, ?_⟩
      rw [hm, Int.toNat_natCast, show List.replicate l.length (V.ag [.b false, .b false, .b false, .i .i64 0, .i .i64 0, .nl, .nl, .i .i64 0, .b false, .b false, .b false, .i .i64 0, .i .i64 0, .i .i64 0, .i .i64 0, .s [], .i .i64 0, .i .i64 0, .s []]) = _ from cpR_0 decoderVo (.ag [.b false, .b false, .b false, .i .i64 0, .i .i64 0, .nl, .nl, .i .i64 0, .b false, .b false, .b false, .i .i64 0, .i .i64 0, .i .i64 0, .i .i64 0, .s [], .i .i64 0, .i .i64 0, .s []]) l]
      rfl
    · intro i hi
      have hc := cpR_len decoderVo (.ag [.b false, .b false, .b false, .i .i64 0, .i .i64 0, .nl, .nl, .i .i64 0, .b false, .b false, .b false, .i .i64 0, .i .i64 0, .i .i64 0, .i .i64 0, .s [], .i .i64 0, .i .i64 0, .s []]) l hi
      by_cases hlt : i < l.length
      · have hcl := cpR_at decoderVo (.ag [.b false, .b false, .b false, .i .i64 0, .i .i64 0, .nl, .nl, .i .i64 0, .b false, .b false, .b false, .i .i64 0, .i .i64 0, .i .i64 0, .i .i64 0, .s [], .i .i64 0, .i .i64 0, .s []]) l hlt
        have he := sumR_elem decoderD znDecoder l hlt
        repeat' (conv => whnf); first | refine Elt.gt decoderD hlt ?_ | refine EltN.gt decoderD hlt ?_ | refine EltN.mk _ hcl ?_ | refine CallP.re (toDecoder_w (gt decoderD l i) (by omega)) (by first | with_reducible rfl | (simp only [imm_i, imm_s, imm_b, iO, iS, imm_iO, seqVs, seqVo, imm_seqVo, own_seqVo, immR_seqVo, ownR_seqVo, parV, imm_parV, own_parV, immR_parV, ownR_parV, picV, imm_picV, own_picV, immR_picV, ownR_picV, decoderVs, decoderVo, imm_decoderVo, own_decoderVo, immR_decoderVo, ownR_decoderVo]; first | done | fail)) rfl rfl rfl (by first | rfl | exact own_i _ _ | exact own_s _ | exact own_b _ | (simp [V.noSl, V.noSl.go, own_i, own_s, own_b, iO, iS, imm_iO, seqVs, seqVo, imm_seqVo, own_seqVo, immR_seqVo, ownR_seqVo, parV, imm_parV, own_parV, immR_parV, ownR_parV, picV, imm_picV, own_picV, immR_picV, ownR_picV, decoderVs, decoderVo, imm_decoderVo, own_decoderVo, immR_decoderVo, ownR_decoderVo]; first | done | fail)) ?_ | refine DCall.re (toDecoder_w (gt decoderD l i) (by omega)) (by first | with_reducible rfl | (simp only [imm_i, imm_s, imm_b, iO, iS, imm_iO, seqVs, seqVo, imm_seqVo, own_seqVo, immR_seqVo, ownR_seqVo, parV, imm_parV, own_parV, immR_parV, ownR_parV, picV, imm_picV, own_picV, immR_picV, ownR_picV, decoderVs, decoderVo, imm_decoderVo, own_decoderVo, immR_decoderVo, ownR_decoderVo]; first | done | fail)) rfl (by first | rfl | exact own_i _ _ | exact own_s _ | exact own_b _ | (simp [V.noSl, V.noSl.go, own_i, own_s, own_b, iO, iS, imm_iO, seqVs, seqVo, imm_seqVo, own_seqVo, immR_seqVo, ownR_seqVo, parV, imm_parV, own_parV, immR_parV, ownR_parV, picV, imm_picV, own_picV, immR_picV, ownR_picV, decoderVs, decoderVo, imm_decoderVo, own_decoderVo, immR_decoderVo, ownR_decoderVo]; first | done | fail)) ?_ | refine Br.tt ?_ | refine Br.ff ?_ | refine Br.not ?_ | refine Br.dand (fun _ => ?_) (fun _ => ?_) | refine Br.dec (fun _ => ?_) (fun _ => ?_) | refine Br.beq (fun _ => ?_) (fun _ => ?_) | refine Br.bne (fun _ => ?_) (fun _ => ?_) | refine Br.seq (fun _ => ?_) (fun _ => ?_) | refine Elt.i (by omega) ?_ | refine EltN.i (by omega) ?_ | refine Nt.cast ?_ | refine Nt.mk _ rfl ?_ | refine EltN.mk _ rfl ?_ | refine Mx.mk _ rfl ?_ | refine Br.mk (fun _ => ?_) (fun _ => ?_) | refine EndP.mk ?_ trivial | refine EndP.mk ?_ ⟨.inr ⟨List.mem_cons_self .., ?_, rfl⟩, trivial⟩ | refine Ar.i64 (by omega) ?_ | refine Ar.u8 (by omega) ?_ | refine Quo.pos (by omega) ?_ | refine Rem.pos (by omega) ?_ | refine BsP.own ?_ | refine SetN.two ?_ | refine SetN.one ?_ | refine Ob.mk ⟨rfl, rfl⟩ ?_ | refine Ob.mk (flat_i _ _).1 ?_ | refine Ob.mk (flat_i _ _) ?_ | refine Ob.mk (flat_s _) ?_ | refine Ob.mk (by first | omega | (simp; first | done | fail) | (simp; omega)) ?_ | fail
        all_goals first
          | (exfalso; omega)
          | (conv => whnf
             refine ⟨i + 1, by omega, by omega, ?_⟩
             rw [← cpR_set decoderD decoderVo (.ag [.b false, .b false, .b false, .i .i64 0, .i .i64 0, .nl, .nl, .i .i64 0, .b false, .b false, .b false, .i .i64 0, .i .i64 0, .i .i64 0, .i .i64 0, .s [], .i .i64 0, .i .i64 0, .s []]) l hlt]
             rfl)
      · obtain rfl : i = l.length := by omega
        repeat' (conv => whnf); first | refine Br.tt ?_ | refine Br.ff ?_ | refine Br.not ?_ | refine Br.dand (fun _ => ?_) (fun _ => ?_) | refine Br.dec (fun _ => ?_) (fun _ => ?_) | refine Br.beq (fun _ => ?_) (fun _ => ?_) | refine Br.bne (fun _ => ?_) (fun _ => ?_) | refine Br.seq (fun _ => ?_) (fun _ => ?_) | refine Elt.i (by omega) ?_ | refine EltN.i (by omega) ?_ | refine Nt.cast ?_ | refine Nt.mk _ rfl ?_ | refine EltN.mk _ rfl ?_ | refine Mx.mk _ rfl ?_ | refine Br.mk (fun _ => ?_) (fun _ => ?_) | refine EndP.mk ?_ trivial | refine EndP.mk ?_ ⟨.inr ⟨List.mem_cons_self .., ?_, rfl⟩, trivial⟩ | refine Ar.i64 (by omega) ?_ | refine Ar.u8 (by omega) ?_ | refine Quo.pos (by omega) ?_ | refine Rem.pos (by omega) ?_ | refine BsP.own ?_ | refine SetN.two ?_ | refine SetN.one ?_ | refine Ob.mk ⟨rfl, rfl⟩ ?_ | refine Ob.mk (flat_i _ _).1 ?_ | refine Ob.mk (flat_i _ _) ?_ | refine Ob.mk (flat_s _) ?_ | refine Ob.mk (by first | omega | (simp; first | done | fail) | (simp; omega)) ?_ | fail
        all_goals first
          | (exfalso; omega)
          | (rw [cpR_all]; rfl)

set_option maxHeartbeats 40000000 in
theorem eqDecoderS_w (l : List DecoderD) (h : l.length + sumR decoderD znDecoder l l.length ≤ 1000000000) : Vow Tryz.prog 54 [.sl (l.map decoderVs), .sl (l.map decoderVs)] (.b true) [] := by
  have hm : (l.map decoderVs).length = l.length := by simp
  refine vow_of_ev (fn := Tryz.f54) [] [(0, 0), (6, 10), (0, 0), (0, 0), (11, 14), (15, 17), (17, 26), (0, 0), (0, 0)] tt_ok Tryz.func54 (by decide) rfl (Nat.le_of_ble_eq_true rfl) rfl rfl rfl ?_
  repeat' (conv => whnf); first | refine Br.ne_self ?_ | refine Br.eq_self ?_ | refine Br.deq ?_ | refine Br.tt ?_ | refine Br.ff ?_ | refine Br.not ?_ | refine Br.dand (fun _ => ?_) (fun _ => ?_) | refine Br.dec (fun _ => ?_) (fun _ => ?_) | refine Br.beq (fun _ => ?_) (fun _ => ?_) | refine Br.bne (fun _ => ?_) (fun _ => ?_) | refine Br.seq (fun _ => ?_) (fun _ => ?_) | refine Elt.i (by omega) ?_ | refine EltN.i (by omega) ?_ | refine Nt.cast ?_ | refine Nt.mk _ rfl ?_ | refine EltN.mk _ rfl ?_ | refine Mx.mk _ rfl ?_ | refine Br.mk (fun _ => ?_) (fun _ => ?_) | refine EndP.mk ?_ trivial | refine EndP.mk ?_ ⟨.inr ⟨List.mem_cons_self .., ?_, rfl⟩, trivial⟩ | refine Ar.i64 (by omega) ?_ | refine Ar.u8 (by omega) ?_ | refine Quo.pos (by omega) ?_ | refine Rem.pos (by omega) ?_ | refine BsP.own ?_ | refine SetN.two ?_ | refine SetN.one ?_ | refine Ob.mk ⟨rfl, rfl⟩ ?_ | refine Ob.mk (flat_i _ _).1 ?_ | refine Ob.mk (flat_i _ _) ?_ | refine Ob.mk (flat_s _) ?_ | refine Ob.mk (by first | omega | (simp; first | done | fail) | (simp; omega)) ?_ | fail
  · conv => whnf
    refine LoopP.mk [0,1,4,5] (fun i : Nat => [(0, .sl (l.map decoderVs)), (1, .sl (l.map decoderVs)), (4, .b false), (5, .i .i64 i)]) (fun i => l.length - i) (fun i => i ≤ l.length) ?_ ?_
    · conv => whnf
      exact ⟨0, by omega, rfl⟩
    · intro i hi
      by_cases hlt : i < l.length
      · have hlt2 := hlt
        have he := sumR_elem decoderD znDecoder l hlt
        have f1 := eqDecoder_w (gt decoderD l i) (by omega)
        repeat' (conv => whnf); first | refine Elt.gt decoderD hlt ?_ | refine EltN.gt decoderD hlt ?_ | refine CallP.rd (f1) rfl rfl rfl rfl ?_ | refine DCall.rd (f1) rfl rfl ?_ | refine Br.tt ?_ | refine Br.ff ?_ | refine Br.not ?_ | refine Br.dand (fun _ => ?_) (fun _ => ?_) | refine Br.dec (fun _ => ?_) (fun _ => ?_) | refine Br.beq (fun _ => ?_) (fun _ => ?_) | refine Br.bne (fun _ => ?_) (fun _ => ?_) | refine Br.seq (fun _ => ?_) (fun _ => ?_) | refine Elt.i (by omega) ?_ | refine EltN.i (by omega) ?_ | refine Nt.cast ?_ | refine Nt.mk _ rfl ?_ | refine EltN.mk _ rfl ?_ | refine Mx.mk _ rfl ?_ | refine Br.mk (fun _ => ?_) (fun _ => ?_) | refine EndP.mk ?_ trivial | refine EndP.mk ?_ ⟨.inr ⟨List.mem_cons_self .., ?_, rfl⟩, trivial⟩ | refine Ar.i64 (by omega) ?_ | refine Ar.u8 (by omega) ?_ | refine Quo.pos (by omega) ?_ | refine Rem.pos (by omega) ?_ | refine BsP.own ?_ | refine SetN.two ?_ | refine SetN.one ?_ | refine Ob.mk ⟨rfl, rfl⟩ ?_ | refine Ob.mk (flat_i _ _).1 ?_ | refine Ob.mk (flat_i _ _) ?_ | refine Ob.mk (flat_s _) ?_ | refine Ob.mk (by first | omega | (simp; first | done | fail) | (simp; omega)) ?_ | fail
        all_goals first
          | (exfalso; omega)
          | rfl
          | (conv => whnf
             exact ⟨i + 1, by omega, by omega, rfl⟩)
      · obtain rfl : i = l.length := by omega
        repeat' (conv => whnf); first | refine Br.tt ?_ | refine Br.ff ?_ | refine Br.not ?_ | refine Br.dand (fun _ => ?_) (fun _ => ?_) | refine Br.dec (fun _ => ?_) (fun _ => ?_) | refine Br.beq (fun _ => ?_) (fun _ => ?_) | refine Br.bne (fun _ => ?_) (fun _ => ?_) | refine Br.seq (fun _ => ?_) (fun _ => ?_) | refine Elt.i (by omega) ?_ | refine EltN.i (by omega) ?_ | refine Nt.cast ?_ | refine Nt.mk _ rfl ?_ | refine EltN.mk _ rfl ?_ | refine Mx.mk _ rfl ?_ | refine Br.mk (fun _ => ?_) (fun _ => ?_) | refine EndP.mk ?_ trivial | refine EndP.mk ?_ ⟨.inr ⟨List.mem_cons_self .., ?_, rfl⟩, trivial⟩ | refine Ar.i64 (by omega) ?_ | refine Ar.u8 (by omega) ?_ | refine Quo.pos (by omega) ?_ | refine Rem.pos (by omega) ?_ | refine BsP.own ?_ | refine SetN.two ?_ | refine SetN.one ?_ | refine Ob.mk ⟨rfl, rfl⟩ ?_ | refine Ob.mk (flat_i _ _).1 ?_ | refine Ob.mk (flat_i _ _) ?_ | refine Ob.mk (flat_s _) ?_ | refine Ob.mk (by first | omega | (simp; first | done | fail) | (simp; omega)) ?_ | fail
        all_goals first
          | (exfalso; omega)
          | rfl
set_option maxHeartbeats 40000000 in
theorem szDecoderS_w (l : List DecoderD) (left : Int) (hz : l.length ≤ maxLen) (hf : ∀ x ∈ l, HasDecoder x) (hl : 0 ≤ left ∧ left ≤ 1048576) : Vow Tryz.prog 33 [.sl (l.map decoderVs), .i .i64 left] (.i .i64 (szL (l.length + sumR decoderD znDecoder l l.length) left)) [] := by
  have hm : (l.map decoderVs).length = l.length := by simp
  have hx : maxLen ≤ 9223372036854775807 := by decide
  have c := szL_le (l.length + sumR decoderD znDecoder l l.length) left
  refine vow_of_ev (fn := Tryz.f33) [] [(0, 0), (6, 10), (10, 11), (0, 0), (0, 0), (12, 15), (16, 18), (18, 24), (24, 25), (0, 0), (26, 27)] tt_ok Tryz.func33 (by decide) rfl (Nat.le_of_ble_eq_true rfl) rfl rfl rfl ?_
  repeat' (conv => whnf); first | refine Br.tt ?_ | refine Br.ff ?_ | refine Br.not ?_ | refine Br.dand (fun _ => ?_) (fun _ => ?_) | refine Br.dec (fun _ => ?_) (fun _ => ?_) | refine Br.beq (fun _ => ?_) (fun _ => ?_) | refine Br.bne (fun _ => ?_) (fun _ => ?_) | refine Br.seq (fun _ => ?_) (fun _ => ?_) | refine Elt.i (by omega) ?_ | refine EltN.i (by omega) ?_ | refine Nt.cast ?_ | refine Nt.mk _ rfl ?_ | refine EltN.mk _ rfl ?_ | refine Mx.mk _ rfl ?_ | refine Br.mk (fun _ => ?_) (fun _ => ?_) | refine EndP.mk ?_ trivial | refine EndP.mk ?_ ⟨.inr ⟨List.mem_cons_self .., ?_, rfl⟩, trivial⟩ | refine Ar.i64 (by omega) ?_ | refine Ar.u8 (by omega) ?_ | refine Quo.pos (by omega) ?_ | refine Rem.pos (by omega) ?_ | refine BsP.own ?_ | refine SetN.two ?_ | refine SetN.one ?_ | refine Ob.mk ⟨rfl, rfl⟩ ?_ | refine Ob.mk (flat_i _ _).1 ?_ | refine Ob.mk (flat_i _ _) ?_ | refine Ob.mk (flat_s _) ?_ | refine Ob.mk (by first | omega | (simp; first | done | fail) | (simp; omega)) ?_ | fail
  · rw [show szL (l.length + sumR decoderD znDecoder l l.length) left = -1 by omega]; rfl
  · conv => whnf
    refine LoopP.mk [0,1,4,5] (fun i : Nat => [(0, .sl (l.map decoderVs)), (1, .i .i64 (left - (l.length : Nat) - (sumR decoderD znDecoder l i : Nat))), (4, .i .i64 0), (5, .i .i64 i)]) (fun i => l.length - i) (fun i => i ≤ l.length ∧ 0 ≤ left - (l.length : Nat) - (sumR decoderD znDecoder l i : Nat)) ?_ ?_
    · conv => whnf
      refine ⟨0, ⟨by omega, by simp only [sumR]; omega⟩, ?_⟩
      rw [hm, show left - ((l.length : Nat) : Int) - ((sumR decoderD znDecoder l 0 : Nat) : Int) = left - ((l.length : Nat) : Int) by simp [sumR]]
      rfl
    · rintro i ⟨hi, hs⟩
      by_cases hlt : i < l.length
      · have he := sumR_elem decoderD znDecoder l hlt
        have hst : sumR decoderD znDecoder l (i + 1) = sumR decoderD znDecoder l i + znDecoder (gt decoderD l i) := rfl
        have c3 := szL_le (znDecoder (gt decoderD l i)) (left - (l.length : Nat) - (sumR decoderD znDecoder l i : Nat))
        have f1 := szDecoder_w (gt decoderD l i) (hf _ (gt_mem hlt)) (left - (l.length : Nat) - (sumR decoderD znDecoder l i : Nat)) (by omega)
        repeat' (conv => whnf); first | refine Elt.gt decoderD hlt ?_ | refine EltN.gt decoderD hlt ?_ | refine CallP.rd (f1) rfl rfl rfl rfl ?_ | refine DCall.rd (f1) rfl rfl ?_ | refine Br.tt ?_ | refine Br.ff ?_ | refine Br.not ?_ | refine Br.dand (fun _ => ?_) (fun _ => ?_) | refine Br.dec (fun _ => ?_) (fun _ => ?_) | refine Br.beq (fun _ => ?_) (fun _ => ?_) | refine Br.bne (fun _ => ?_) (fun _ => ?_) | refine Br.seq (fun _ => ?_) (fun _ => ?_) | refine Elt.i (by omega) ?_ | refine EltN.i (by omega) ?_ | refine Nt.cast ?_ | refine Nt.mk _ rfl ?_ | refine EltN.mk _ rfl ?_ | refine Mx.mk _ rfl ?_ | refine Br.mk (fun _ => ?_) (fun _ => ?_) | refine EndP.mk ?_ trivial | refine EndP.mk ?_ ⟨.inr ⟨List.mem_cons_self .., ?_, rfl⟩, trivial⟩ | refine Ar.i64 (by omega) ?_ | refine Ar.u8 (by omega) ?_ | refine Quo.pos (by omega) ?_ | refine Rem.pos (by omega) ?_ | refine BsP.own ?_ | refine SetN.two ?_ | refine SetN.one ?_ | refine Ob.mk ⟨rfl, rfl⟩ ?_ | refine Ob.mk (flat_i _ _).1 ?_ | refine Ob.mk (flat_i _ _) ?_ | refine Ob.mk (flat_s _) ?_ | refine Ob.mk (by first | omega | (simp; first | done | fail) | (simp; omega)) ?_ | fail
        all_goals first
          | (exfalso; omega)
          | (rw [show szL (l.length + sumR decoderD znDecoder l l.length) left = -1 by omega]; rfl)
          | (conv => whnf
             refine ⟨i + 1, ⟨by omega, by omega⟩, by omega, ?_⟩
             rw [show szL (znDecoder (gt decoderD l i)) (left - (l.length : Nat) - (sumR decoderD znDecoder l i : Nat)) = left - (l.length : Nat) - (sumR decoderD znDecoder l (i + 1) : Nat) by omega]
             rfl)
      · obtain rfl : i = l.length := by omega
        repeat' (conv => whnf); first | refine Br.tt ?_ | refine Br.ff ?_ | refine Br.not ?_ | refine Br.dand (fun _ => ?_) (fun _ => ?_) | refine Br.dec (fun _ => ?_) (fun _ => ?_) | refine Br.beq (fun _ => ?_) (fun _ => ?_) | refine Br.bne (fun _ => ?_) (fun _ => ?_) | refine Br.seq (fun _ => ?_) (fun _ => ?_) | refine Elt.i (by omega) ?_ | refine EltN.i (by omega) ?_ | refine Nt.cast ?_ | refine Nt.mk _ rfl ?_ | refine EltN.mk _ rfl ?_ | refine Mx.mk _ rfl ?_ | refine Br.mk (fun _ => ?_) (fun _ => ?_) | refine EndP.mk ?_ trivial | refine EndP.mk ?_ ⟨.inr ⟨List.mem_cons_self .., ?_, rfl⟩, trivial⟩ | refine Ar.i64 (by omega) ?_ | refine Ar.u8 (by omega) ?_ | refine Quo.pos (by omega) ?_ | refine Rem.pos (by omega) ?_ | refine BsP.own ?_ | refine SetN.two ?_ | refine SetN.one ?_ | refine Ob.mk ⟨rfl, rfl⟩ ?_ | refine Ob.mk (flat_i _ _).1 ?_ | refine Ob.mk (flat_i _ _) ?_ | refine Ob.mk (flat_s _) ?_ | refine Ob.mk (by first | omega | (simp; first | done | fail) | (simp; omega)) ?_ | fail
        all_goals first
          | (exfalso; omega)
          | (rw [show szL (l.length + sumR decoderD znDecoder l l.length) left = left - (l.length : Nat) - (sumR decoderD znDecoder l l.length : Nat) by omega]; rfl)
end Go.Proofs.YtafipjhalboefaaGreat
