/- Mixers that are right, as the reference has it. Condition: rows of no more than 1000000000. -/
import Derived.Test.YtjomgcgeknpehaaBp
namespace Go.Proofs.Ytjomgcgeknpehaa
open Go Go.Vx
set_option linter.unusedVariables false
set_option linter.unusedSimpArgs false
set_option maxHeartbeats 600000
set_option maxRecDepth 100000


theorem l27Seq_vow (l : Layout) (bits : Int) (h : seqFine l bits) : Vow Try.prog 55 [layV l, .i .i64 bits] (seqO (levelFor l.cols l.rows) bits l.cols l.rows) [] := by
  have ls := layoutSeq_spec l bits h
  refine vow_of_ev (fn := Try.f55) [] [(0, 0), (6, 13), (13, 14)] tt_ok Try.func55 (by decide) rfl (Nat.le_of_ble_eq_true rfl) rfl rfl rfl ?_
  repeat' (conv => whnf); first | refine CallP.re (ls) (by first | with_reducible rfl | (simp only [imm_i, imm_s, imm_b, iO, iS, imm_iO, layV, layO, seqV, seqO, seqN, parV, seqVs, admitVs, queueVs, inputVs, mixerVs, immR_packetVs]; first | done | fail)) rfl rfl rfl (by first | rfl | exact own_i _ _ | exact own_s _ | exact own_b _ | (simp [V.noSl, V.noSl.go, own_i, own_s, own_b, iO, iS, imm_iO, layV, layO, seqV, seqO, seqN, parV, seqVs, admitVs, queueVs, inputVs, mixerVs, immR_packetVs]; first | done | fail)) ?_ | refine DCall.re (ls) (by first | with_reducible rfl | (simp only [imm_i, imm_s, imm_b, iO, iS, imm_iO, layV, layO, seqV, seqO, seqN, parV, seqVs, admitVs, queueVs, inputVs, mixerVs, immR_packetVs]; first | done | fail)) rfl (by first | rfl | exact own_i _ _ | exact own_s _ | exact own_b _ | (simp [V.noSl, V.noSl.go, own_i, own_s, own_b, iO, iS, imm_iO, layV, layO, seqV, seqO, seqN, parV, seqVs, admitVs, queueVs, inputVs, mixerVs, immR_packetVs]; first | done | fail)) ?_ | refine Br.tt ?_ | refine Br.ff ?_ | refine Br.not ?_ | refine Br.dand (fun _ => ?_) (fun _ => ?_) | refine Br.dec (fun _ => ?_) (fun _ => ?_) | refine Br.beq (fun _ => ?_) (fun _ => ?_) | refine Br.bne (fun _ => ?_) (fun _ => ?_) | refine Br.seq (fun _ => ?_) (fun _ => ?_) | refine Elt.i (by omega) ?_ | refine EltN.i (by omega) ?_ | refine Nt.cast ?_ | refine Nt.mk _ rfl ?_ | refine EltN.mk _ rfl ?_ | refine Mx.mk _ rfl ?_ | refine Br.mk (fun _ => ?_) (fun _ => ?_) | refine EndP.mk ?_ trivial | refine EndP.mk ?_ ⟨.inr ⟨List.mem_cons_self .., ?_, rfl⟩, trivial⟩ | refine Ar.i64 (by omega) ?_ | refine Ar.u8 (by omega) ?_ | refine Quo.pos (by omega) ?_ | refine Rem.pos (by omega) ?_ | refine BsP.own ?_ | refine SetN.two ?_ | refine SetN.one ?_ | refine Ob.mk ⟨rfl, rfl⟩ ?_ | refine Ob.mk (flat_i _ _).1 ?_ | refine Ob.mk (flat_i _ _) ?_ | refine Ob.mk (flat_s _) ?_ | refine Ob.mk (by first | omega | (simp; first | done | fail) | (simp; omega)) ?_ | fail
  all_goals rfl
set_option maxHeartbeats 20000000 in
theorem l27Input_vow (m : MixerD) (i : Nat) (hz : znMixer m ≤ 1000000000) (hi : i < m.inputs.length) (hf : seqFine m.layout m.bits) : Vow Try.prog 98 [mixerVs m, .i .i64 i] (.b (decide (inOk m i))) [] := by
  have hw := mx_sizes hz
  have hm : (m.inputs.map inputVs).length = m.inputs.length := by simp
  have hin : inOk m i ↔ queueOk (gt inputD m.inputs i).queue = true ∧ admitOk (gt inputD m.inputs i).admit = true ∧ (0 ≤ (gt inputD m.inputs i).holds ∧ (gt inputD m.inputs i).holds ≤ m.hold) ∧
    ((gt inputD m.inputs i).shown = true → m.begun = true ∧ (gt inputD m.inputs i).admit.live = true ∧ admitFits (gt inputD m.inputs i).admit (levelFor m.layout.cols m.layout.rows) m.bits m.layout.cols m.layout.rows (cellOf m.layout i) = true) := Iff.rfl
  have u1 := queueOk_spec (gt inputD m.inputs i).queue
  have u2 := admitOk_spec (gt inputD m.inputs i).admit
  have u3 := l01In_vow (gt inputD m.inputs i).holds 0 m.hold
  have u4 := cellOf_spec m.layout i (by omega)
  have u5 := admitFits_spec (gt inputD m.inputs i).admit (levelFor m.layout.cols m.layout.rows) m.bits m.layout.cols m.layout.rows (cellOf m.layout i)
  have u6 := l27Seq_vow m.layout m.bits hf
  refine vow_of_ev (fn := Try.f98) [] [(0, 0), (6, 11), (11, 28), (0, 0), (29, 55)] tt_ok Try.func98 (by decide) rfl (Nat.le_of_ble_eq_true rfl) rfl rfl rfl ?_
  repeat' (conv => whnf); first | refine Elt.gt inputD hi ?_ | refine EltN.gt inputD hi ?_ | refine CallP.rd (u1) rfl rfl rfl rfl ?_ | refine DCall.rd (u1) rfl rfl ?_ | refine CallP.rd (u2) rfl rfl rfl rfl ?_ | refine DCall.rd (u2) rfl rfl ?_ | refine CallP.rd (u3) rfl rfl rfl rfl ?_ | refine DCall.rd (u3) rfl rfl ?_ | refine CallP.rd (u4) rfl rfl rfl rfl ?_ | refine DCall.rd (u4) rfl rfl ?_ | refine CallP.re (u6) (by first | with_reducible rfl | (simp only [imm_i, imm_s, imm_b, iO, iS, imm_iO, layV, layO, seqV, seqO, seqN, parV, seqVs, admitVs, queueVs, inputVs, mixerVs, immR_packetVs]; first | done | fail)) rfl rfl rfl (by first | rfl | exact own_i _ _ | exact own_s _ | exact own_b _ | (simp [V.noSl, V.noSl.go, own_i, own_s, own_b, iO, iS, imm_iO, layV, layO, seqV, seqO, seqN, parV, seqVs, admitVs, queueVs, inputVs, mixerVs, immR_packetVs]; first | done | fail)) ?_ | refine DCall.re (u6) (by first | with_reducible rfl | (simp only [imm_i, imm_s, imm_b, iO, iS, imm_iO, layV, layO, seqV, seqO, seqN, parV, seqVs, admitVs, queueVs, inputVs, mixerVs, immR_packetVs]; first | done | fail)) rfl (by first | rfl | exact own_i _ _ | exact own_s _ | exact own_b _ | (simp [V.noSl, V.noSl.go, own_i, own_s, own_b, iO, iS, imm_iO, layV, layO, seqV, seqO, seqN, parV, seqVs, admitVs, queueVs, inputVs, mixerVs, immR_packetVs]; first | done | fail)) ?_ | refine CallP.re (u5) (by first | with_reducible rfl | (simp only [imm_i, imm_s, imm_b, iO, iS, imm_iO, layV, layO, seqV, seqO, seqN, parV, seqVs, admitVs, queueVs, inputVs, mixerVs, immR_packetVs]; first | done | fail)) rfl rfl rfl (by first | rfl | exact own_i _ _ | exact own_s _ | exact own_b _ | (simp [V.noSl, V.noSl.go, own_i, own_s, own_b, iO, iS, imm_iO, layV, layO, seqV, seqO, seqN, parV, seqVs, admitVs, queueVs, inputVs, mixerVs, immR_packetVs]; first | done | fail)) ?_ | refine DCall.re (u5) (by first | with_reducible rfl | (simp only [imm_i, imm_s, imm_b, iO, iS, imm_iO, layV, layO, seqV, seqO, seqN, parV, seqVs, admitVs, queueVs, inputVs, mixerVs, immR_packetVs]; first | done | fail)) rfl (by first | rfl | exact own_i _ _ | exact own_s _ | exact own_b _ | (simp [V.noSl, V.noSl.go, own_i, own_s, own_b, iO, iS, imm_iO, layV, layO, seqV, seqO, seqN, parV, seqVs, admitVs, queueVs, inputVs, mixerVs, immR_packetVs]; first | done | fail)) ?_ | refine Br.tt ?_ | refine Br.ff ?_ | refine Br.not ?_ | refine Br.dand (fun _ => ?_) (fun _ => ?_) | refine Br.dec (fun _ => ?_) (fun _ => ?_) | refine Br.beq (fun _ => ?_) (fun _ => ?_) | refine Br.bne (fun _ => ?_) (fun _ => ?_) | refine Br.seq (fun _ => ?_) (fun _ => ?_) | refine Elt.i (by omega) ?_ | refine EltN.i (by omega) ?_ | refine Nt.cast ?_ | refine Nt.mk _ rfl ?_ | refine EltN.mk _ rfl ?_ | refine Mx.mk _ rfl ?_ | refine Br.mk (fun _ => ?_) (fun _ => ?_) | refine EndP.mk ?_ trivial | refine EndP.mk ?_ ⟨.inr ⟨List.mem_cons_self .., ?_, rfl⟩, trivial⟩ | refine Ar.i64 (by omega) ?_ | refine Ar.u8 (by omega) ?_ | refine Quo.pos (by omega) ?_ | refine Rem.pos (by omega) ?_ | refine BsP.own ?_ | refine SetN.two ?_ | refine SetN.one ?_ | refine Ob.mk ⟨rfl, rfl⟩ ?_ | refine Ob.mk (flat_i _ _).1 ?_ | refine Ob.mk (flat_i _ _) ?_ | refine Ob.mk (flat_s _) ?_ | refine Ob.mk (by first | omega | (simp; first | done | fail) | (simp; omega)) ?_ | fail
  all_goals first
    | (exfalso; omega)
    | (rw [decide_eq_true (hin.2 ⟨by assumption, by assumption, by assumption, fun hs => by first | exact ⟨by assumption, by assumption, by assumption⟩ | simp_all⟩)]; rfl)
    | (rw [decide_eq_false (fun k => by have k' := hin.1 k; first | omega | simp_all)]; rfl)
    | (refine congrArg V.b ?_; rw [Bool.eq_iff_iff]; simp only [decide_eq_true_eq]; rw [hin]; simp_all; first | done | omega)
set_option maxHeartbeats 40000000 in
theorem mixerOk_spec (m : MixerD) (hz : znMixer m ≤ 1000000000) : Vow Try.prog 62 [mixerVs m] (.b (decide (mixerOk m))) [] := by
  have hw := mx_sizes hz
  have hm : (m.inputs.map inputVs).length = m.inputs.length := by simp
  have p1 := parOk_spec m.par
  have y1 := layoutOk_spec m.layout
  have y2 := layoutOk_spec m.next
  have hh : mxHead m ↔ parOk m.par ∧ m.par.confined = true ∧ (3 ≤ m.bits ∧ m.bits ≤ 8) ∧ (0 ≤ m.wait ∧ m.wait ≤ 20) ∧ (0 ≤ m.hold ∧ m.hold ≤ 100) ∧ (1 ≤ m.limit ∧ m.limit ≤ 100) ∧ layoutOk m.layout ∧ 0 ≤ m.left ∧ m.left ≤ m.limit := Iff.rfl
  have hn : mxNext m ↔ (0 < m.left → layoutOk m.next) ∧ (m.left = 0 → m.next.cols.length + m.next.rows.length + m.next.who.length = 0) := Iff.rfl
  have hl : mxLen m ↔ (0 ≤ m.frame ∧ m.frame < shlF m.bits) ∧ m.inputs.length = 6 := Iff.rfl
  have n1 : (m.next.cols.map (V.i .i64)).length = m.next.cols.length := by simp
  have n2 : (m.next.rows.map (V.i .i64)).length = m.next.rows.length := by simp
  have n3 : (m.next.who.map (V.i .i64)).length = m.next.who.length := by simp
  by_cases hhd : mxHead m
  · obtain ⟨q1, q2, q3, q4, q5, q6, q7, q8⟩ := hh.1 hhd
    rw [decide_eq_true q1] at p1
    rw [decide_eq_true q7] at y1
    obtain ⟨s, m1, m2, m3⟩ := shl_fit q3
    have hsm : shlF m.bits = s := m3
    rw [hsm] at hl
    by_cases hnx : mxNext m
    · have hnx1 := (hn.1 hnx).1
      have hnx2 : ¬ m.left = 0 ∨ m.left = 0 ∧ m.next.cols.length + m.next.rows.length + m.next.who.length = 0 := by
        by_cases h0 : m.left = 0
        · exact .inr ⟨h0, (hn.1 hnx).2 h0⟩
        · exact .inl h0
      by_cases hle : mxLen m
      · obtain ⟨f1, f2⟩ := hl.1 hle
        refine vow_of_ev (fn := Try.f62) [] [(0, 0), (4, 37), (0, 0), (38, 69), (0, 0), (70, 104), (0, 0), (0, 0), (105, 106), (107, 109), (109, 112), (0, 0), (0, 0)] tt_ok Try.func62 (by decide) rfl (Nat.le_of_ble_eq_true rfl) rfl rfl rfl ?_
        repeat' (conv => whnf); first | refine CallP.rd (p1) rfl rfl rfl rfl ?_ | refine DCall.rd (p1) rfl rfl ?_ | refine CallP.rd (y1) rfl rfl rfl rfl ?_ | refine DCall.rd (y1) rfl rfl ?_ | refine CallP.rd (y2) rfl rfl rfl rfl ?_ | refine DCall.rd (y2) rfl rfl ?_ | refine CallP.rd (in_t (by omega)) rfl rfl rfl rfl ?_ | refine DCall.rd (in_t (by omega)) rfl rfl ?_ | refine Shl.to m3 (by omega) ?_ | refine Ar.u64 (by omega) ?_ | refine Br.tt ?_ | refine Br.ff ?_ | refine Br.not ?_ | refine Br.dand (fun _ => ?_) (fun _ => ?_) | refine Br.dec (fun _ => ?_) (fun _ => ?_) | refine Br.beq (fun _ => ?_) (fun _ => ?_) | refine Br.bne (fun _ => ?_) (fun _ => ?_) | refine Br.seq (fun _ => ?_) (fun _ => ?_) | refine Elt.i (by omega) ?_ | refine EltN.i (by omega) ?_ | refine Nt.cast ?_ | refine Nt.mk _ rfl ?_ | refine EltN.mk _ rfl ?_ | refine Mx.mk _ rfl ?_ | refine Br.mk (fun _ => ?_) (fun _ => ?_) | refine EndP.mk ?_ trivial | refine EndP.mk ?_ ⟨.inr ⟨List.mem_cons_self .., ?_, rfl⟩, trivial⟩ | refine Ar.i64 (by omega) ?_ | refine Ar.u8 (by omega) ?_ | refine Quo.pos (by omega) ?_ | refine Rem.pos (by omega) ?_ | refine BsP.own ?_ | refine SetN.two ?_ | refine SetN.one ?_ | refine Ob.mk ⟨rfl, rfl⟩ ?_ | refine Ob.mk (flat_i _ _).1 ?_ | refine Ob.mk (flat_i _ _) ?_ | refine Ob.mk (flat_s _) ?_ | refine Ob.mk (by first | omega | (simp; first | done | fail) | (simp; omega)) ?_ | fail
        all_goals try (exfalso; omega)
        all_goals try (exfalso; exact Bool.noConfusion (q2.symm.trans (by assumption)))
        all_goals try (exfalso; exact absurd (hnx1 (by assumption)) (by assumption))
        all_goals (conv => whnf)
        all_goals
          refine LoopP.mk [1,2,3] (fun i : Nat => [(1, mixerB m), (2, .b false), (3, .i .i64 i)])
            (fun i => 6 - i) (fun i => i ≤ 6 ∧ ∀ j, j < i → inOk m j) ?_ ?_
          · conv => whnf
            exact ⟨0, ⟨by omega, fun j hj => by omega⟩, rfl⟩
          · rintro i ⟨hi, ha⟩
            by_cases hlt : i < 6
            · have hlt6 : i < m.inputs.length := by omega
              have u1 := l27Input_vow m i hz hlt6 ⟨q7, q3⟩
              repeat' (conv => whnf); first | refine CallP.rd (u1) rfl rfl rfl rfl ?_ | refine DCall.rd (u1) rfl rfl ?_ | refine Br.tt ?_ | refine Br.ff ?_ | refine Br.not ?_ | refine Br.dand (fun _ => ?_) (fun _ => ?_) | refine Br.dec (fun _ => ?_) (fun _ => ?_) | refine Br.beq (fun _ => ?_) (fun _ => ?_) | refine Br.bne (fun _ => ?_) (fun _ => ?_) | refine Br.seq (fun _ => ?_) (fun _ => ?_) | refine Elt.i (by omega) ?_ | refine EltN.i (by omega) ?_ | refine Nt.cast ?_ | refine Nt.mk _ rfl ?_ | refine EltN.mk _ rfl ?_ | refine Mx.mk _ rfl ?_ | refine Br.mk (fun _ => ?_) (fun _ => ?_) | refine EndP.mk ?_ trivial | refine EndP.mk ?_ ⟨.inr ⟨List.mem_cons_self .., ?_, rfl⟩, trivial⟩ | refine Ar.i64 (by omega) ?_ | refine Ar.u8 (by omega) ?_ | refine Quo.pos (by omega) ?_ | refine Rem.pos (by omega) ?_ | refine BsP.own ?_ | refine SetN.two ?_ | refine SetN.one ?_ | refine Ob.mk ⟨rfl, rfl⟩ ?_ | refine Ob.mk (flat_i _ _).1 ?_ | refine Ob.mk (flat_i _ _) ?_ | refine Ob.mk (flat_s _) ?_ | refine Ob.mk (by first | omega | (simp; first | done | fail) | (simp; omega)) ?_ | fail
              all_goals first
                | (exfalso; omega)
                | (rw [mixerOk_at hlt (by assumption)]; rfl)
                | (conv => whnf
                   exact ⟨i + 1, ⟨by omega, all_next ha (by assumption)⟩, by omega, rfl⟩)
            · obtain rfl : i = 6 := by omega
              repeat' (conv => whnf); first | refine Br.tt ?_ | refine Br.ff ?_ | refine Br.not ?_ | refine Br.dand (fun _ => ?_) (fun _ => ?_) | refine Br.dec (fun _ => ?_) (fun _ => ?_) | refine Br.beq (fun _ => ?_) (fun _ => ?_) | refine Br.bne (fun _ => ?_) (fun _ => ?_) | refine Br.seq (fun _ => ?_) (fun _ => ?_) | refine Elt.i (by omega) ?_ | refine EltN.i (by omega) ?_ | refine Nt.cast ?_ | refine Nt.mk _ rfl ?_ | refine EltN.mk _ rfl ?_ | refine Mx.mk _ rfl ?_ | refine Br.mk (fun _ => ?_) (fun _ => ?_) | refine EndP.mk ?_ trivial | refine EndP.mk ?_ ⟨.inr ⟨List.mem_cons_self .., ?_, rfl⟩, trivial⟩ | refine Ar.i64 (by omega) ?_ | refine Ar.u8 (by omega) ?_ | refine Quo.pos (by omega) ?_ | refine Rem.pos (by omega) ?_ | refine BsP.own ?_ | refine SetN.two ?_ | refine SetN.one ?_ | refine Ob.mk ⟨rfl, rfl⟩ ?_ | refine Ob.mk (flat_i _ _).1 ?_ | refine Ob.mk (flat_i _ _) ?_ | refine Ob.mk (flat_s _) ?_ | refine Ob.mk (by first | omega | (simp; first | done | fail) | (simp; omega)) ?_ | fail
              all_goals first
                | (exfalso; omega)
                | (rw [decide_eq_true (show mixerOk m from ⟨hhd, hnx, hle, ha⟩)]; rfl)
      · rw [decide_eq_false (fun k : mixerOk m => hle k.2.2.1)]
        have hle' := fun h => hle (hl.2 h)
        refine vow_of_ev (fn := Try.f62) [] [(0, 0), (4, 37), (0, 0), (38, 69), (0, 0), (70, 104), (0, 0), (0, 0), (105, 106), (107, 109), (109, 112), (0, 0), (0, 0)] tt_ok Try.func62 (by decide) rfl (Nat.le_of_ble_eq_true rfl) rfl rfl rfl ?_
        repeat' (conv => whnf); first | refine CallP.rd (p1) rfl rfl rfl rfl ?_ | refine DCall.rd (p1) rfl rfl ?_ | refine CallP.rd (y1) rfl rfl rfl rfl ?_ | refine DCall.rd (y1) rfl rfl ?_ | refine CallP.rd (y2) rfl rfl rfl rfl ?_ | refine DCall.rd (y2) rfl rfl ?_ | refine CallP.rd (in_t (by omega)) rfl rfl rfl rfl ?_ | refine DCall.rd (in_t (by omega)) rfl rfl ?_ | refine Shl.to m3 (by omega) ?_ | refine Ar.u64 (by omega) ?_ | refine Br.tt ?_ | refine Br.ff ?_ | refine Br.not ?_ | refine Br.dand (fun _ => ?_) (fun _ => ?_) | refine Br.dec (fun _ => ?_) (fun _ => ?_) | refine Br.beq (fun _ => ?_) (fun _ => ?_) | refine Br.bne (fun _ => ?_) (fun _ => ?_) | refine Br.seq (fun _ => ?_) (fun _ => ?_) | refine Elt.i (by omega) ?_ | refine EltN.i (by omega) ?_ | refine Nt.cast ?_ | refine Nt.mk _ rfl ?_ | refine EltN.mk _ rfl ?_ | refine Mx.mk _ rfl ?_ | refine Br.mk (fun _ => ?_) (fun _ => ?_) | refine EndP.mk ?_ trivial | refine EndP.mk ?_ ⟨.inr ⟨List.mem_cons_self .., ?_, rfl⟩, trivial⟩ | refine Ar.i64 (by omega) ?_ | refine Ar.u8 (by omega) ?_ | refine Quo.pos (by omega) ?_ | refine Rem.pos (by omega) ?_ | refine BsP.own ?_ | refine SetN.two ?_ | refine SetN.one ?_ | refine Ob.mk ⟨rfl, rfl⟩ ?_ | refine Ob.mk (flat_i _ _).1 ?_ | refine Ob.mk (flat_i _ _) ?_ | refine Ob.mk (flat_s _) ?_ | refine Ob.mk (by first | omega | (simp; first | done | fail) | (simp; omega)) ?_ | fail
        all_goals first
          | (exfalso; omega)
          | rfl
          | (exfalso; exact Bool.noConfusion (q2.symm.trans (by assumption)))
          | (exfalso; exact absurd (hnx1 (by assumption)) (by assumption))
          | (exfalso; exact hle' ⟨by omega, by omega⟩)
    · rw [decide_eq_false (fun k : mixerOk m => hnx k.2.1)]
      have hnx' := fun h => hnx (hn.2 h)
      refine vow_of_ev (fn := Try.f62) [] [(0, 0), (4, 37), (0, 0), (38, 69), (0, 0), (70, 104), (0, 0), (0, 0), (105, 106), (107, 109), (109, 112), (0, 0), (0, 0)] tt_ok Try.func62 (by decide) rfl (Nat.le_of_ble_eq_true rfl) rfl rfl rfl ?_
      repeat' (conv => whnf); first | refine CallP.rd (p1) rfl rfl rfl rfl ?_ | refine DCall.rd (p1) rfl rfl ?_ | refine CallP.rd (y1) rfl rfl rfl rfl ?_ | refine DCall.rd (y1) rfl rfl ?_ | refine CallP.rd (y2) rfl rfl rfl rfl ?_ | refine DCall.rd (y2) rfl rfl ?_ | refine CallP.rd (in_t (by omega)) rfl rfl rfl rfl ?_ | refine DCall.rd (in_t (by omega)) rfl rfl ?_ | refine Shl.to m3 (by omega) ?_ | refine Ar.u64 (by omega) ?_ | refine Br.tt ?_ | refine Br.ff ?_ | refine Br.not ?_ | refine Br.dand (fun _ => ?_) (fun _ => ?_) | refine Br.dec (fun _ => ?_) (fun _ => ?_) | refine Br.beq (fun _ => ?_) (fun _ => ?_) | refine Br.bne (fun _ => ?_) (fun _ => ?_) | refine Br.seq (fun _ => ?_) (fun _ => ?_) | refine Elt.i (by omega) ?_ | refine EltN.i (by omega) ?_ | refine Nt.cast ?_ | refine Nt.mk _ rfl ?_ | refine EltN.mk _ rfl ?_ | refine Mx.mk _ rfl ?_ | refine Br.mk (fun _ => ?_) (fun _ => ?_) | refine EndP.mk ?_ trivial | refine EndP.mk ?_ ⟨.inr ⟨List.mem_cons_self .., ?_, rfl⟩, trivial⟩ | refine Ar.i64 (by omega) ?_ | refine Ar.u8 (by omega) ?_ | refine Quo.pos (by omega) ?_ | refine Rem.pos (by omega) ?_ | refine BsP.own ?_ | refine SetN.two ?_ | refine SetN.one ?_ | refine Ob.mk ⟨rfl, rfl⟩ ?_ | refine Ob.mk (flat_i _ _).1 ?_ | refine Ob.mk (flat_i _ _) ?_ | refine Ob.mk (flat_s _) ?_ | refine Ob.mk (by first | omega | (simp; first | done | fail) | (simp; omega)) ?_ | fail
      all_goals first
        | (exfalso; omega)
        | rfl
        | (exfalso; exact Bool.noConfusion (q2.symm.trans (by assumption)))
        | (exfalso; exact hnx' ⟨fun h => by first | assumption | omega, fun h => by omega⟩)
  · rw [decide_eq_false (fun k : mixerOk m => hhd k.1)]
    have hhd' := fun h => hhd (hh.2 h)
    refine vow_of_ev (fn := Try.f62) [] [(0, 0), (4, 37), (0, 0), (38, 69), (0, 0), (70, 104), (0, 0), (0, 0), (105, 106), (107, 109), (109, 112), (0, 0), (0, 0)] tt_ok Try.func62 (by decide) rfl (Nat.le_of_ble_eq_true rfl) rfl rfl rfl ?_
    by_cases hb : 3 ≤ m.bits ∧ m.bits ≤ 8
    · obtain ⟨s, m1, m2, m3⟩ := shl_fit hb
      repeat' (conv => whnf); first | refine CallP.rd (p1) rfl rfl rfl rfl ?_ | refine DCall.rd (p1) rfl rfl ?_ | refine CallP.rd (y1) rfl rfl rfl rfl ?_ | refine DCall.rd (y1) rfl rfl ?_ | refine CallP.rd (l01In_vow _ _ _) rfl rfl rfl rfl ?_ | refine DCall.rd (l01In_vow _ _ _) rfl rfl ?_ | refine Shl.to m3 (by omega) ?_ | refine Ar.u64 (by omega) ?_ | refine Br.tt ?_ | refine Br.ff ?_ | refine Br.not ?_ | refine Br.dand (fun _ => ?_) (fun _ => ?_) | refine Br.dec (fun _ => ?_) (fun _ => ?_) | refine Br.beq (fun _ => ?_) (fun _ => ?_) | refine Br.bne (fun _ => ?_) (fun _ => ?_) | refine Br.seq (fun _ => ?_) (fun _ => ?_) | refine Elt.i (by omega) ?_ | refine EltN.i (by omega) ?_ | refine Nt.cast ?_ | refine Nt.mk _ rfl ?_ | refine EltN.mk _ rfl ?_ | refine Mx.mk _ rfl ?_ | refine Br.mk (fun _ => ?_) (fun _ => ?_) | refine EndP.mk ?_ trivial | refine EndP.mk ?_ ⟨.inr ⟨List.mem_cons_self .., ?_, rfl⟩, trivial⟩ | refine Ar.i64 (by omega) ?_ | refine Ar.u8 (by omega) ?_ | refine Quo.pos (by omega) ?_ | refine Rem.pos (by omega) ?_ | refine BsP.own ?_ | refine SetN.two ?_ | refine SetN.one ?_ | refine Ob.mk ⟨rfl, rfl⟩ ?_ | refine Ob.mk (flat_i _ _).1 ?_ | refine Ob.mk (flat_i _ _) ?_ | refine Ob.mk (flat_s _) ?_ | refine Ob.mk (by first | omega | (simp; first | done | fail) | (simp; omega)) ?_ | fail
      all_goals first
        | (exfalso; omega)
        | rfl
        | (exfalso; exact hhd' ⟨by assumption, by assumption, by assumption, by assumption, by assumption, by assumption, by assumption, by assumption⟩)
    · repeat' (conv => whnf); first | refine CallP.rd (p1) rfl rfl rfl rfl ?_ | refine DCall.rd (p1) rfl rfl ?_ | refine CallP.rd (y1) rfl rfl rfl rfl ?_ | refine DCall.rd (y1) rfl rfl ?_ | refine CallP.rd (l01In_vow _ _ _) rfl rfl rfl rfl ?_ | refine DCall.rd (l01In_vow _ _ _) rfl rfl ?_ | refine Br.tt ?_ | refine Br.ff ?_ | refine Br.not ?_ | refine Br.dand (fun _ => ?_) (fun _ => ?_) | refine Br.dec (fun _ => ?_) (fun _ => ?_) | refine Br.beq (fun _ => ?_) (fun _ => ?_) | refine Br.bne (fun _ => ?_) (fun _ => ?_) | refine Br.seq (fun _ => ?_) (fun _ => ?_) | refine Elt.i (by omega) ?_ | refine EltN.i (by omega) ?_ | refine Nt.cast ?_ | refine Nt.mk _ rfl ?_ | refine EltN.mk _ rfl ?_ | refine Mx.mk _ rfl ?_ | refine Br.mk (fun _ => ?_) (fun _ => ?_) | refine EndP.mk ?_ trivial | refine EndP.mk ?_ ⟨.inr ⟨List.mem_cons_self .., ?_, rfl⟩, trivial⟩ | refine Ar.i64 (by omega) ?_ | refine Ar.u8 (by omega) ?_ | refine Quo.pos (by omega) ?_ | refine Rem.pos (by omega) ?_ | refine BsP.own ?_ | refine SetN.two ?_ | refine SetN.one ?_ | refine Ob.mk ⟨rfl, rfl⟩ ?_ | refine Ob.mk (flat_i _ _).1 ?_ | refine Ob.mk (flat_i _ _) ?_ | refine Ob.mk (flat_s _) ?_ | refine Ob.mk (by first | omega | (simp; first | done | fail) | (simp; omega)) ?_ | fail
      all_goals first
        | (exfalso; omega)
        | rfl
end Go.Proofs.Ytjomgcgeknpehaa
