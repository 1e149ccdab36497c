/- The law of layouts. No condition. -/
import Derived.Test.YtfcjjkfjdecakaaUe
import Derived.Test.YtfcjjkfjdecakaaSl
namespace Go.Proofs.Ytfcjjkfjdecakaa
open Go Go.Vx
set_option linter.unusedVariables false
set_option linter.unusedSimpArgs false
set_option maxHeartbeats 600000
set_option maxRecDepth 100000


theorem sameInts_vow (xs : List Int) (hl : xs.length ≤ 1000000) : Vow Try.prog 98 [iS xs, iS xs] (.b true) [] := by
  have hm : (xs.map (V.i .i64)).length = xs.length := by simp
  refine vow_of_ev (fn := Try.f98) [] [(0, 0), (6, 10), (0, 0), (0, 0), (11, 14), (15, 17), (17, 25), (0, 0), (0, 0)] tt_ok Try.func98 (by decide) rfl (Nat.le_of_ble_eq_true rfl) rfl rfl rfl ?_
  repeat' (conv => whnf); first | refine Br.tt ?_ | refine Br.ff ?_ | refine Br.not ?_ | refine Br.dand (fun _ => ?_) (fun _ => ?_) | refine Br.dec (fun _ => ?_) (fun _ => ?_) | refine Br.beq (fun _ => ?_) (fun _ => ?_) | refine Br.bne (fun _ => ?_) (fun _ => ?_) | refine Br.seq (fun _ => ?_) (fun _ => ?_) | refine Elt.i (by omega) ?_ | refine EltN.i (by omega) ?_ | refine Nt.cast ?_ | refine Nt.mk _ rfl ?_ | refine EltN.mk _ rfl ?_ | refine Mx.mk _ rfl ?_ | refine Br.mk (fun _ => ?_) (fun _ => ?_) | refine EndP.mk ?_ trivial | refine EndP.mk ?_ ⟨.inr ⟨List.mem_cons_self .., ?_, rfl⟩, trivial⟩ | refine Ar.i64 (by omega) ?_ | refine Ar.u8 (by omega) ?_ | refine Quo.pos (by omega) ?_ | refine Rem.pos (by omega) ?_ | refine BsP.own ?_ | refine Ob.mk ⟨rfl, rfl⟩ ?_ | refine Ob.mk (flat_i _ _).1 ?_ | refine Ob.mk (flat_i _ _) ?_ | refine Ob.mk (flat_s _) ?_ | refine Ob.mk (by first | omega | (simp; first | done | fail) | (simp; omega)) ?_ | fail
  rotate_left
  · exfalso; omega
  · conv => whnf
    refine LoopP.mk [0,1,4,5] (fun i : Nat => [(0, iS xs), (1, iS xs), (4, .b false), (5, .i .i64 i)]) (fun i => xs.length - i) (fun i => i ≤ xs.length) ?_ ?_
    · conv => whnf
      exact ⟨0, by omega, rfl⟩
    · intro i hi
      repeat' (conv => whnf); first | refine Br.tt ?_ | refine Br.ff ?_ | refine Br.not ?_ | refine Br.dand (fun _ => ?_) (fun _ => ?_) | refine Br.dec (fun _ => ?_) (fun _ => ?_) | refine Br.beq (fun _ => ?_) (fun _ => ?_) | refine Br.bne (fun _ => ?_) (fun _ => ?_) | refine Br.seq (fun _ => ?_) (fun _ => ?_) | refine Elt.i (by omega) ?_ | refine EltN.i (by omega) ?_ | refine Nt.cast ?_ | refine Nt.mk _ rfl ?_ | refine EltN.mk _ rfl ?_ | refine Mx.mk _ rfl ?_ | refine Br.mk (fun _ => ?_) (fun _ => ?_) | refine EndP.mk ?_ trivial | refine EndP.mk ?_ ⟨.inr ⟨List.mem_cons_self .., ?_, rfl⟩, trivial⟩ | refine Ar.i64 (by omega) ?_ | refine Ar.u8 (by omega) ?_ | refine Quo.pos (by omega) ?_ | refine Rem.pos (by omega) ?_ | refine BsP.own ?_ | refine Ob.mk ⟨rfl, rfl⟩ ?_ | refine Ob.mk (flat_i _ _).1 ?_ | refine Ob.mk (flat_i _ _) ?_ | refine Ob.mk (flat_s _) ?_ | refine Ob.mk (by first | omega | (simp; first | done | fail) | (simp; omega)) ?_ | fail
      all_goals first
        | (exfalso; omega)
        | exact absurd rfl ‹¬ _ = _›
        | rfl
        | (conv => whnf
           exact ⟨i + 1, by omega, by omega, rfl⟩)
theorem sameLayout_vow (l : Layout) (h : l.cols.length ≤ 1000000 ∧ l.rows.length ≤ 1000000 ∧ l.who.length ≤ 1000000) : Vow Try.prog 36 [layV l, layV l] (.b true) [] := by
  refine vow_of_ev (fn := Try.f36) [] [(0, 0), (5, 24)] tt_ok Try.func36 (by decide) rfl (Nat.le_of_ble_eq_true rfl) rfl rfl rfl ?_
  repeat' (conv => whnf); first | refine CallP.re (sameInts_vow l.cols h.1) (by first | with_reducible rfl | (simp only [imm_i, imm_s, imm_b, curV, iO, iS, layO, layV, seqV, seqO]; first | done | fail)) rfl rfl rfl (by first | rfl | exact own_i _ _ | exact own_s _ | exact own_b _ | (simp [V.noSl, V.noSl.go, own_i, own_s, own_b, curV, iO, iS, layO, layV, seqV, seqO]; first | done | fail)) ?_ | refine DCall.re (sameInts_vow l.cols h.1) (by first | with_reducible rfl | (simp only [imm_i, imm_s, imm_b, curV, iO, iS, layO, layV, seqV, seqO]; first | done | fail)) rfl (by first | rfl | exact own_i _ _ | exact own_s _ | exact own_b _ | (simp [V.noSl, V.noSl.go, own_i, own_s, own_b, curV, iO, iS, layO, layV, seqV, seqO]; first | done | fail)) ?_ | refine CallP.re (sameInts_vow l.rows h.2.1) (by first | with_reducible rfl | (simp only [imm_i, imm_s, imm_b, curV, iO, iS, layO, layV, seqV, seqO]; first | done | fail)) rfl rfl rfl (by first | rfl | exact own_i _ _ | exact own_s _ | exact own_b _ | (simp [V.noSl, V.noSl.go, own_i, own_s, own_b, curV, iO, iS, layO, layV, seqV, seqO]; first | done | fail)) ?_ | refine DCall.re (sameInts_vow l.rows h.2.1) (by first | with_reducible rfl | (simp only [imm_i, imm_s, imm_b, curV, iO, iS, layO, layV, seqV, seqO]; first | done | fail)) rfl (by first | rfl | exact own_i _ _ | exact own_s _ | exact own_b _ | (simp [V.noSl, V.noSl.go, own_i, own_s, own_b, curV, iO, iS, layO, layV, seqV, seqO]; first | done | fail)) ?_ | refine CallP.re (sameInts_vow l.who h.2.2) (by first | with_reducible rfl | (simp only [imm_i, imm_s, imm_b, curV, iO, iS, layO, layV, seqV, seqO]; first | done | fail)) rfl rfl rfl (by first | rfl | exact own_i _ _ | exact own_s _ | exact own_b _ | (simp [V.noSl, V.noSl.go, own_i, own_s, own_b, curV, iO, iS, layO, layV, seqV, seqO]; first | done | fail)) ?_ | refine DCall.re (sameInts_vow l.who h.2.2) (by first | with_reducible rfl | (simp only [imm_i, imm_s, imm_b, curV, iO, iS, layO, layV, seqV, seqO]; first | done | fail)) rfl (by first | rfl | exact own_i _ _ | exact own_s _ | exact own_b _ | (simp [V.noSl, V.noSl.go, own_i, own_s, own_b, curV, iO, iS, layO, layV, seqV, seqO]; first | done | fail)) ?_ | refine Br.tt ?_ | refine Br.ff ?_ | refine Br.not ?_ | refine Br.dand (fun _ => ?_) (fun _ => ?_) | refine Br.dec (fun _ => ?_) (fun _ => ?_) | refine Br.beq (fun _ => ?_) (fun _ => ?_) | refine Br.bne (fun _ => ?_) (fun _ => ?_) | refine Br.seq (fun _ => ?_) (fun _ => ?_) | refine Elt.i (by omega) ?_ | refine EltN.i (by omega) ?_ | refine Nt.cast ?_ | refine Nt.mk _ rfl ?_ | refine EltN.mk _ rfl ?_ | refine Mx.mk _ rfl ?_ | refine Br.mk (fun _ => ?_) (fun _ => ?_) | refine EndP.mk ?_ trivial | refine EndP.mk ?_ ⟨.inr ⟨List.mem_cons_self .., ?_, rfl⟩, trivial⟩ | refine Ar.i64 (by omega) ?_ | refine Ar.u8 (by omega) ?_ | refine Quo.pos (by omega) ?_ | refine Rem.pos (by omega) ?_ | refine BsP.own ?_ | refine Ob.mk ⟨rfl, rfl⟩ ?_ | refine Ob.mk (flat_i _ _).1 ?_ | refine Ob.mk (flat_i _ _) ?_ | refine Ob.mk (flat_s _) ?_ | refine Ob.mk (by first | omega | (simp; first | done | fail) | (simp; omega)) ?_ | fail
  all_goals rfl
theorem drawLayouts_vow (l : List UInt8) (h : l.length ≤ 2000000) : Vow Try.prog 31 [.sl (l.map byteV)] (.tp [layO (rightL (curNew l)).1, layO (rightL (rightL (curNew l)).2).1]) [] := by
  have o0 := curNew_ok h
  have o1 := (rightL_good o0).2
  have n := l01New_vow l h
  have p := l25Right_vow (curNew l) o0
  have q := l25Right_vow (rightL (curNew l)).2 o1
  generalize rightL (rightL (curNew l)).2 = r2 at *
  generalize rightL (curNew l) = r1 at *
  generalize curNew l = c0 at *
  obtain ⟨a, c1⟩ := r1
  obtain ⟨b, c2⟩ := r2
  simp only at p q
  simp only
  refine vow_of_ev (fn := Try.f31) [] [(0, 0), (5, 7), (7, 11)] tt_ok Try.func31 (by decide) rfl (Nat.le_of_ble_eq_true rfl) rfl rfl rfl ?_
  repeat' (conv => whnf); first | refine CallP.rd (n) rfl rfl rfl rfl ?_ | refine CallP.ho [([8], [2])] p rfl rfl ?_ | refine CallP.ho [([8], [2])] q rfl rfl ?_ | refine Br.tt ?_ | refine Br.ff ?_ | refine Br.not ?_ | refine Br.dand (fun _ => ?_) (fun _ => ?_) | refine Br.dec (fun _ => ?_) (fun _ => ?_) | refine Br.beq (fun _ => ?_) (fun _ => ?_) | refine Br.bne (fun _ => ?_) (fun _ => ?_) | refine Br.seq (fun _ => ?_) (fun _ => ?_) | refine Elt.i (by omega) ?_ | refine EltN.i (by omega) ?_ | refine Nt.cast ?_ | refine Nt.mk _ rfl ?_ | refine EltN.mk _ rfl ?_ | refine Mx.mk _ rfl ?_ | refine Br.mk (fun _ => ?_) (fun _ => ?_) | refine EndP.mk ?_ trivial | refine EndP.mk ?_ ⟨.inr ⟨List.mem_cons_self .., ?_, rfl⟩, trivial⟩ | refine Ar.i64 (by omega) ?_ | refine Ar.u8 (by omega) ?_ | refine Quo.pos (by omega) ?_ | refine Rem.pos (by omega) ?_ | refine BsP.own ?_ | refine Ob.mk ⟨rfl, rfl⟩ ?_ | refine Ob.mk (flat_i _ _).1 ?_ | refine Ob.mk (flat_i _ _) ?_ | refine Ob.mk (flat_s _) ?_ | refine Ob.mk (by first | omega | (simp; first | done | fail) | (simp; omega)) ?_ | fail
  all_goals first
    | rfl
    | trace_state

theorem layout_lens {l : Layout} (h : layoutOk l) : (l.cols.length ≤ 4 ∧ l.rows.length ≤ 4) ∧ l.who.length ≤ 16 := by
  obtain ⟨h1, h2, h3⟩ := h
  obtain ⟨k1, k2⟩ := levelFor_sides h1
  have a1 := k1.1
  have a2 := k2.1
  have a3 : l.cols.length * l.rows.length ≤ 4 * 4 := Nat.mul_le_mul a1.2 a2.2
  omega

set_option maxHeartbeats 6000000 in
theorem law_layouts (b : List UInt8) : Vow Try.prog 6 [.sl (b.map byteV)] (.b true) [] := by
  by_cases hb : 1048576 < b.length
  · refine vow_of_ev (fn := Try.f6) [] [(0, 0), (17, 18), (0, 0), (19, 24), (24, 29), (29, 34), (34, 39), (39, 44), (44, 47), (47, 75), (0, 0), (0, 0), (76, 80), (81, 83), (83, 99), (0, 0), (0, 0), (0, 0), (100, 101), (102, 104), (104, 113), (114, 125), (0, 0), (126, 128), (128, 132)] tt_ok Try.func6 (by decide) rfl (Nat.le_of_ble_eq_true rfl) rfl rfl rfl ?_
    repeat' (conv => whnf); first | refine CallP.rd (big2_vow b) rfl rfl rfl rfl ?_ | refine Br.tt ?_ | refine Br.ff ?_ | refine Br.not ?_ | refine Br.dand (fun _ => ?_) (fun _ => ?_) | refine Br.dec (fun _ => ?_) (fun _ => ?_) | refine Br.beq (fun _ => ?_) (fun _ => ?_) | refine Br.bne (fun _ => ?_) (fun _ => ?_) | refine Br.seq (fun _ => ?_) (fun _ => ?_) | refine Elt.i (by omega) ?_ | refine EltN.i (by omega) ?_ | refine Nt.cast ?_ | refine Nt.mk _ rfl ?_ | refine EltN.mk _ rfl ?_ | refine Mx.mk _ rfl ?_ | refine Br.mk (fun _ => ?_) (fun _ => ?_) | refine EndP.mk ?_ trivial | refine EndP.mk ?_ ⟨.inr ⟨List.mem_cons_self .., ?_, rfl⟩, trivial⟩ | refine Ar.i64 (by omega) ?_ | refine Ar.u8 (by omega) ?_ | refine Quo.pos (by omega) ?_ | refine Rem.pos (by omega) ?_ | refine BsP.own ?_ | refine Ob.mk ⟨rfl, rfl⟩ ?_ | refine Ob.mk (flat_i _ _).1 ?_ | refine Ob.mk (flat_i _ _) ?_ | refine Ob.mk (flat_s _) ?_ | refine Ob.mk (by first | omega | (simp; first | done | fail) | (simp; omega)) ?_ | fail
    all_goals first | rfl | (exfalso; omega)
  have o0 := curNew_ok (l := b) (by omega)
  obtain ⟨g0, o1⟩ := rightL_good o0
  obtain ⟨g1, o2⟩ := rightL_good o1
  have f0 := drawLayouts_vow b (by omega)
  generalize (rightL (curNew b)).1 = l at *
  generalize (rightL (rightL (curNew b)).2).1 = m at *
  have hl := layout_lens g0
  have hm := layout_lens g1
  have f1 := layoutText_impl l
  rw [show (layoutText l).2 = true by rw [layoutText, if_pos g0]] at f1
  obtain ⟨t1, t2⟩ := layText_back g0
  have hts := layoutText_small l
  have f2 := readLayout_impl (layoutText l).1 (by omega) t1
  rw [t2] at f2
  have f3 := layoutSeq_impl l 4 ⟨g0, by omega, by omega⟩
  have f4 := kept_impl l m (by omega) (by omega)
  have f5 := sameLayout_vow l (by omega)
  obtain ⟨q1, q2⟩ := tiles_who g0
  have f6 := seqOk_impl (levelFor l.cols l.rows) 4 l.cols l.rows
  have f7 := tilesOf_impl (levelFor l.cols l.rows) 4 l.cols l.rows
  rw [q1] at f6
  rw [q2] at f7
  have hwm : (l.who.map (V.i .i64)).length = l.who.length := by simp
  have hk6 := keptN_len l m 6
  have hkm : ((kept l m).map (V.i .i64)).length = (kept l m).length := by simp
  refine vow_of_ev (fn := Try.f6) [] [(0, 0), (17, 18), (0, 0), (19, 24), (24, 29), (29, 34), (34, 39), (39, 44), (44, 47), (47, 75), (0, 0), (0, 0), (76, 80), (81, 83), (83, 99), (0, 0), (0, 0), (0, 0), (100, 101), (102, 104), (104, 113), (114, 125), (0, 0), (126, 128), (128, 132)] tt_ok Try.func6 (by decide) rfl (Nat.le_of_ble_eq_true rfl) rfl rfl rfl ?_
  repeat' (conv => whnf); first | refine CallP.rd (big2_vow b) rfl rfl rfl rfl ?_ | refine DCall.rd (big2_vow b) rfl rfl ?_ | refine CallP.re (f0) (by first | with_reducible rfl | (simp only [imm_i, imm_s, imm_b, curV, iO, iS, layO, layV, seqV, seqO]; first | done | fail)) rfl rfl rfl (by first | rfl | exact own_i _ _ | exact own_s _ | exact own_b _ | (simp [V.noSl, V.noSl.go, own_i, own_s, own_b, curV, iO, iS, layO, layV, seqV, seqO]; first | done | fail)) ?_ | refine DCall.re (f0) (by first | with_reducible rfl | (simp only [imm_i, imm_s, imm_b, curV, iO, iS, layO, layV, seqV, seqO]; first | done | fail)) rfl (by first | rfl | exact own_i _ _ | exact own_s _ | exact own_b _ | (simp [V.noSl, V.noSl.go, own_i, own_s, own_b, curV, iO, iS, layO, layV, seqV, seqO]; first | done | fail)) ?_ | refine CallP.re (f1) (by first | with_reducible rfl | (simp only [imm_i, imm_s, imm_b, curV, iO, iS, layO, layV, seqV, seqO]; first | done | fail)) rfl rfl rfl (by first | rfl | exact own_i _ _ | exact own_s _ | exact own_b _ | (simp [V.noSl, V.noSl.go, own_i, own_s, own_b, curV, iO, iS, layO, layV, seqV, seqO]; first | done | fail)) ?_ | refine DCall.re (f1) (by first | with_reducible rfl | (simp only [imm_i, imm_s, imm_b, curV, iO, iS, layO, layV, seqV, seqO]; first | done | fail)) rfl (by first | rfl | exact own_i _ _ | exact own_s _ | exact own_b _ | (simp [V.noSl, V.noSl.go, own_i, own_s, own_b, curV, iO, iS, layO, layV, seqV, seqO]; first | done | fail)) ?_ | refine CallP.re (f2) (by first | with_reducible rfl | (simp only [imm_i, imm_s, imm_b, curV, iO, iS, layO, layV, seqV, seqO]; first | done | fail)) rfl rfl rfl (by first | rfl | exact own_i _ _ | exact own_s _ | exact own_b _ | (simp [V.noSl, V.noSl.go, own_i, own_s, own_b, curV, iO, iS, layO, layV, seqV, seqO]; first | done | fail)) ?_ | refine DCall.re (f2) (by first | with_reducible rfl | (simp only [imm_i, imm_s, imm_b, curV, iO, iS, layO, layV, seqV, seqO]; first | done | fail)) rfl (by first | rfl | exact own_i _ _ | exact own_s _ | exact own_b _ | (simp [V.noSl, V.noSl.go, own_i, own_s, own_b, curV, iO, iS, layO, layV, seqV, seqO]; first | done | fail)) ?_ | refine CallP.re (f3) (by first | with_reducible rfl | (simp only [imm_i, imm_s, imm_b, curV, iO, iS, layO, layV, seqV, seqO]; first | done | fail)) rfl rfl rfl (by first | rfl | exact own_i _ _ | exact own_s _ | exact own_b _ | (simp [V.noSl, V.noSl.go, own_i, own_s, own_b, curV, iO, iS, layO, layV, seqV, seqO]; first | done | fail)) ?_ | refine DCall.re (f3) (by first | with_reducible rfl | (simp only [imm_i, imm_s, imm_b, curV, iO, iS, layO, layV, seqV, seqO]; first | done | fail)) rfl (by first | rfl | exact own_i _ _ | exact own_s _ | exact own_b _ | (simp [V.noSl, V.noSl.go, own_i, own_s, own_b, curV, iO, iS, layO, layV, seqV, seqO]; first | done | fail)) ?_ | refine CallP.re (f4) (by first | with_reducible rfl | (simp only [imm_i, imm_s, imm_b, curV, iO, iS, layO, layV, seqV, seqO]; first | done | fail)) rfl rfl rfl (by first | rfl | exact own_i _ _ | exact own_s _ | exact own_b _ | (simp [V.noSl, V.noSl.go, own_i, own_s, own_b, curV, iO, iS, layO, layV, seqV, seqO]; first | done | fail)) ?_ | refine DCall.re (f4) (by first | with_reducible rfl | (simp only [imm_i, imm_s, imm_b, curV, iO, iS, layO, layV, seqV, seqO]; first | done | fail)) rfl (by first | rfl | exact own_i _ _ | exact own_s _ | exact own_b _ | (simp [V.noSl, V.noSl.go, own_i, own_s, own_b, curV, iO, iS, layO, layV, seqV, seqO]; first | done | fail)) ?_ | refine CallP.re (f5) (by first | with_reducible rfl | (simp only [imm_i, imm_s, imm_b, curV, iO, iS, layO, layV, seqV, seqO]; first | done | fail)) rfl rfl rfl (by first | rfl | exact own_i _ _ | exact own_s _ | exact own_b _ | (simp [V.noSl, V.noSl.go, own_i, own_s, own_b, curV, iO, iS, layO, layV, seqV, seqO]; first | done | fail)) ?_ | refine DCall.re (f5) (by first | with_reducible rfl | (simp only [imm_i, imm_s, imm_b, curV, iO, iS, layO, layV, seqV, seqO]; first | done | fail)) rfl (by first | rfl | exact own_i _ _ | exact own_s _ | exact own_b _ | (simp [V.noSl, V.noSl.go, own_i, own_s, own_b, curV, iO, iS, layO, layV, seqV, seqO]; first | done | fail)) ?_ | refine CallP.re (f6) (by first | with_reducible rfl | (simp only [imm_i, imm_s, imm_b, curV, iO, iS, layO, layV, seqV, seqO]; first | done | fail)) rfl rfl rfl (by first | rfl | exact own_i _ _ | exact own_s _ | exact own_b _ | (simp [V.noSl, V.noSl.go, own_i, own_s, own_b, curV, iO, iS, layO, layV, seqV, seqO]; first | done | fail)) ?_ | refine DCall.re (f6) (by first | with_reducible rfl | (simp only [imm_i, imm_s, imm_b, curV, iO, iS, layO, layV, seqV, seqO]; first | done | fail)) rfl (by first | rfl | exact own_i _ _ | exact own_s _ | exact own_b _ | (simp [V.noSl, V.noSl.go, own_i, own_s, own_b, curV, iO, iS, layO, layV, seqV, seqO]; first | done | fail)) ?_ | refine CallP.re (f7) (by first | with_reducible rfl | (simp only [imm_i, imm_s, imm_b, curV, iO, iS, layO, layV, seqV, seqO]; first | done | fail)) rfl rfl rfl (by first | rfl | exact own_i _ _ | exact own_s _ | exact own_b _ | (simp [V.noSl, V.noSl.go, own_i, own_s, own_b, curV, iO, iS, layO, layV, seqV, seqO]; first | done | fail)) ?_ | refine DCall.re (f7) (by first | with_reducible rfl | (simp only [imm_i, imm_s, imm_b, curV, iO, iS, layO, layV, seqV, seqO]; first | done | fail)) rfl (by first | rfl | exact own_i _ _ | exact own_s _ | exact own_b _ | (simp [V.noSl, V.noSl.go, own_i, own_s, own_b, curV, iO, iS, layO, layV, seqV, seqO]; first | done | fail)) ?_ | refine Br.tt ?_ | refine Br.ff ?_ | refine Br.not ?_ | refine Br.dand (fun _ => ?_) (fun _ => ?_) | refine Br.dec (fun _ => ?_) (fun _ => ?_) | refine Br.beq (fun _ => ?_) (fun _ => ?_) | refine Br.bne (fun _ => ?_) (fun _ => ?_) | refine Br.seq (fun _ => ?_) (fun _ => ?_) | refine Elt.i (by omega) ?_ | refine EltN.i (by omega) ?_ | refine Nt.cast ?_ | refine Nt.mk _ rfl ?_ | refine EltN.mk _ rfl ?_ | refine Mx.mk _ rfl ?_ | refine Br.mk (fun _ => ?_) (fun _ => ?_) | refine EndP.mk ?_ trivial | refine EndP.mk ?_ ⟨.inr ⟨List.mem_cons_self .., ?_, rfl⟩, trivial⟩ | refine Ar.i64 (by omega) ?_ | refine Ar.u8 (by omega) ?_ | refine Quo.pos (by omega) ?_ | refine Rem.pos (by omega) ?_ | refine BsP.own ?_ | refine Ob.mk ⟨rfl, rfl⟩ ?_ | refine Ob.mk (flat_i _ _).1 ?_ | refine Ob.mk (flat_i _ _) ?_ | refine Ob.mk (flat_s _) ?_ | refine Ob.mk (by first | omega | (simp; first | done | fail) | (simp; omega)) ?_ | fail
  · rfl
  · conv => whnf
    refine LoopP.mk [2,3,4,5,13,14] (fun t : Nat => [(2, .b false), (3, .bx [iO l.cols, iO l.rows, iO l.who]), (4, .bx [iO m.cols, iO m.rows, iO m.who]), (5, .bx [iO l.cols, iO l.rows, iO l.who]), (13, iO (kept l m)), (14, .i .i64 t)]) (fun t => l.who.length - t) (fun t => t ≤ l.who.length) ?_ ?_
    · conv => whnf
      exact ⟨0, by omega, rfl⟩
    · intro t ht
      by_cases hlt : t < l.who.length
      · have fc := cellOf_impl l (rd l.who t) (by omega)
        by_cases h0 : 0 ≤ rd l.who t
        · rw [cell_who g0 hlt h0] at fc
          repeat' (conv => whnf); first | refine CallP.re (fc) (by first | with_reducible rfl | (simp only [imm_i, imm_s, imm_b, curV, iO, iS, layO, layV, seqV, seqO]; first | done | fail)) rfl rfl rfl (by first | rfl | exact own_i _ _ | exact own_s _ | exact own_b _ | (simp [V.noSl, V.noSl.go, own_i, own_s, own_b, curV, iO, iS, layO, layV, seqV, seqO]; first | done | fail)) ?_ | refine DCall.re (fc) (by first | with_reducible rfl | (simp only [imm_i, imm_s, imm_b, curV, iO, iS, layO, layV, seqV, seqO]; first | done | fail)) rfl (by first | rfl | exact own_i _ _ | exact own_s _ | exact own_b _ | (simp [V.noSl, V.noSl.go, own_i, own_s, own_b, curV, iO, iS, layO, layV, seqV, seqO]; first | done | fail)) ?_ | refine Br.tt ?_ | refine Br.ff ?_ | refine Br.not ?_ | refine Br.dand (fun _ => ?_) (fun _ => ?_) | refine Br.dec (fun _ => ?_) (fun _ => ?_) | refine Br.beq (fun _ => ?_) (fun _ => ?_) | refine Br.bne (fun _ => ?_) (fun _ => ?_) | refine Br.seq (fun _ => ?_) (fun _ => ?_) | refine Elt.i (by omega) ?_ | refine EltN.i (by omega) ?_ | refine Nt.cast ?_ | refine Nt.mk _ rfl ?_ | refine EltN.mk _ rfl ?_ | refine Mx.mk _ rfl ?_ | refine Br.mk (fun _ => ?_) (fun _ => ?_) | refine EndP.mk ?_ trivial | refine EndP.mk ?_ ⟨.inr ⟨List.mem_cons_self .., ?_, rfl⟩, trivial⟩ | refine Ar.i64 (by omega) ?_ | refine Ar.u8 (by omega) ?_ | refine Quo.pos (by omega) ?_ | refine Rem.pos (by omega) ?_ | refine BsP.own ?_ | refine Ob.mk ⟨rfl, rfl⟩ ?_ | refine Ob.mk (flat_i _ _).1 ?_ | refine Ob.mk (flat_i _ _) ?_ | refine Ob.mk (flat_s _) ?_ | refine Ob.mk (by first | omega | (simp; first | done | fail) | (simp; omega)) ?_ | fail
          all_goals first
            | (exfalso; omega)
            | exact absurd rfl ‹¬ _ = _›
            | (conv => whnf
               exact ⟨t + 1, by omega, by omega, rfl⟩)
        · repeat' (conv => whnf); first | refine CallP.re (fc) (by first | with_reducible rfl | (simp only [imm_i, imm_s, imm_b, curV, iO, iS, layO, layV, seqV, seqO]; first | done | fail)) rfl rfl rfl (by first | rfl | exact own_i _ _ | exact own_s _ | exact own_b _ | (simp [V.noSl, V.noSl.go, own_i, own_s, own_b, curV, iO, iS, layO, layV, seqV, seqO]; first | done | fail)) ?_ | refine DCall.re (fc) (by first | with_reducible rfl | (simp only [imm_i, imm_s, imm_b, curV, iO, iS, layO, layV, seqV, seqO]; first | done | fail)) rfl (by first | rfl | exact own_i _ _ | exact own_s _ | exact own_b _ | (simp [V.noSl, V.noSl.go, own_i, own_s, own_b, curV, iO, iS, layO, layV, seqV, seqO]; first | done | fail)) ?_ | refine Br.tt ?_ | refine Br.ff ?_ | refine Br.not ?_ | refine Br.dand (fun _ => ?_) (fun _ => ?_) | refine Br.dec (fun _ => ?_) (fun _ => ?_) | refine Br.beq (fun _ => ?_) (fun _ => ?_) | refine Br.bne (fun _ => ?_) (fun _ => ?_) | refine Br.seq (fun _ => ?_) (fun _ => ?_) | refine Elt.i (by omega) ?_ | refine EltN.i (by omega) ?_ | refine Nt.cast ?_ | refine Nt.mk _ rfl ?_ | refine EltN.mk _ rfl ?_ | refine Mx.mk _ rfl ?_ | refine Br.mk (fun _ => ?_) (fun _ => ?_) | refine EndP.mk ?_ trivial | refine EndP.mk ?_ ⟨.inr ⟨List.mem_cons_self .., ?_, rfl⟩, trivial⟩ | refine Ar.i64 (by omega) ?_ | refine Ar.u8 (by omega) ?_ | refine Quo.pos (by omega) ?_ | refine Rem.pos (by omega) ?_ | refine BsP.own ?_ | refine Ob.mk ⟨rfl, rfl⟩ ?_ | refine Ob.mk (flat_i _ _).1 ?_ | refine Ob.mk (flat_i _ _) ?_ | refine Ob.mk (flat_s _) ?_ | refine Ob.mk (by first | omega | (simp; first | done | fail) | (simp; omega)) ?_ | fail
          all_goals first
            | (exfalso; omega)
            | exact absurd rfl ‹¬ _ = _›
            | (conv => whnf
               exact ⟨t + 1, by omega, by omega, rfl⟩)
      · obtain rfl : t = l.who.length := by omega
        repeat' (conv => whnf); first | refine Br.tt ?_ | refine Br.ff ?_ | refine Br.not ?_ | refine Br.dand (fun _ => ?_) (fun _ => ?_) | refine Br.dec (fun _ => ?_) (fun _ => ?_) | refine Br.beq (fun _ => ?_) (fun _ => ?_) | refine Br.bne (fun _ => ?_) (fun _ => ?_) | refine Br.seq (fun _ => ?_) (fun _ => ?_) | refine Elt.i (by omega) ?_ | refine EltN.i (by omega) ?_ | refine Nt.cast ?_ | refine Nt.mk _ rfl ?_ | refine EltN.mk _ rfl ?_ | refine Mx.mk _ rfl ?_ | refine Br.mk (fun _ => ?_) (fun _ => ?_) | refine EndP.mk ?_ trivial | refine EndP.mk ?_ ⟨.inr ⟨List.mem_cons_self .., ?_, rfl⟩, trivial⟩ | refine Ar.i64 (by omega) ?_ | refine Ar.u8 (by omega) ?_ | refine Quo.pos (by omega) ?_ | refine Rem.pos (by omega) ?_ | refine BsP.own ?_ | refine Ob.mk ⟨rfl, rfl⟩ ?_ | refine Ob.mk (flat_i _ _).1 ?_ | refine Ob.mk (flat_i _ _) ?_ | refine Ob.mk (flat_s _) ?_ | refine Ob.mk (by first | omega | (simp; first | done | fail) | (simp; omega)) ?_ | fail
        all_goals first
          | (exfalso; omega)
          | skip
        conv => whnf
        refine LoopP.mk [2,3,4,13,15,16] (fun w : Nat => [(2, .b false), (3, .bx [iO l.cols, iO l.rows, iO l.who]), (4, .bx [iO m.cols, iO m.rows, iO m.who]), (13, iO (kept l m)), (15, .i .i64 (keptN l m w).length), (16, .i .i64 w)]) (fun w => 6 - w) (fun w => w ≤ 6) ?_ ?_
        · conv => whnf
          exact ⟨0, by omega, rfl⟩
        · intro w hw
          have hkw := keptN_len l m w
          by_cases hw6 : w < 6
          · have c1 := cellOf_impl l w (by omega)
            have c2 := cellOf_impl m w (by omega)
            by_cases hc : 0 ≤ cellOf l w ∧ 0 ≤ cellOf m w
            · obtain ⟨k1, k2⟩ := kept_at hw6 hc
              have hn : (keptN l m (w + 1)).length = (keptN l m w).length + 1 := by rw [keptN, if_pos hc]; simp
              repeat' (conv => whnf); first | refine CallP.re (c1) (by first | with_reducible rfl | (simp only [imm_i, imm_s, imm_b, curV, iO, iS, layO, layV, seqV, seqO]; first | done | fail)) rfl rfl rfl (by first | rfl | exact own_i _ _ | exact own_s _ | exact own_b _ | (simp [V.noSl, V.noSl.go, own_i, own_s, own_b, curV, iO, iS, layO, layV, seqV, seqO]; first | done | fail)) ?_ | refine DCall.re (c1) (by first | with_reducible rfl | (simp only [imm_i, imm_s, imm_b, curV, iO, iS, layO, layV, seqV, seqO]; first | done | fail)) rfl (by first | rfl | exact own_i _ _ | exact own_s _ | exact own_b _ | (simp [V.noSl, V.noSl.go, own_i, own_s, own_b, curV, iO, iS, layO, layV, seqV, seqO]; first | done | fail)) ?_ | refine CallP.re (c2) (by first | with_reducible rfl | (simp only [imm_i, imm_s, imm_b, curV, iO, iS, layO, layV, seqV, seqO]; first | done | fail)) rfl rfl rfl (by first | rfl | exact own_i _ _ | exact own_s _ | exact own_b _ | (simp [V.noSl, V.noSl.go, own_i, own_s, own_b, curV, iO, iS, layO, layV, seqV, seqO]; first | done | fail)) ?_ | refine DCall.re (c2) (by first | with_reducible rfl | (simp only [imm_i, imm_s, imm_b, curV, iO, iS, layO, layV, seqV, seqO]; first | done | fail)) rfl (by first | rfl | exact own_i _ _ | exact own_s _ | exact own_b _ | (simp [V.noSl, V.noSl.go, own_i, own_s, own_b, curV, iO, iS, layO, layV, seqV, seqO]; first | done | fail)) ?_ | refine Br.tt ?_ | refine Br.ff ?_ | refine Br.not ?_ | refine Br.dand (fun _ => ?_) (fun _ => ?_) | refine Br.dec (fun _ => ?_) (fun _ => ?_) | refine Br.beq (fun _ => ?_) (fun _ => ?_) | refine Br.bne (fun _ => ?_) (fun _ => ?_) | refine Br.seq (fun _ => ?_) (fun _ => ?_) | refine Elt.i (by omega) ?_ | refine EltN.i (by omega) ?_ | refine Nt.cast ?_ | refine Nt.mk _ rfl ?_ | refine EltN.mk _ rfl ?_ | refine Mx.mk _ rfl ?_ | refine Br.mk (fun _ => ?_) (fun _ => ?_) | refine EndP.mk ?_ trivial | refine EndP.mk ?_ ⟨.inr ⟨List.mem_cons_self .., ?_, rfl⟩, trivial⟩ | refine Ar.i64 (by omega) ?_ | refine Ar.u8 (by omega) ?_ | refine Quo.pos (by omega) ?_ | refine Rem.pos (by omega) ?_ | refine BsP.own ?_ | refine Ob.mk ⟨rfl, rfl⟩ ?_ | refine Ob.mk (flat_i _ _).1 ?_ | refine Ob.mk (flat_i _ _) ?_ | refine Ob.mk (flat_s _) ?_ | refine Ob.mk (by first | omega | (simp; first | done | fail) | (simp; omega)) ?_ | fail
              all_goals first
                | (exfalso; omega)
                | (conv => whnf
                   refine ⟨w + 1, by omega, by omega, ?_⟩
                   rw [hn]
                   rfl)
            · have hn : keptN l m (w + 1) = keptN l m w := by rw [keptN, if_neg hc]
              repeat' (conv => whnf); first | refine CallP.re (c1) (by first | with_reducible rfl | (simp only [imm_i, imm_s, imm_b, curV, iO, iS, layO, layV, seqV, seqO]; first | done | fail)) rfl rfl rfl (by first | rfl | exact own_i _ _ | exact own_s _ | exact own_b _ | (simp [V.noSl, V.noSl.go, own_i, own_s, own_b, curV, iO, iS, layO, layV, seqV, seqO]; first | done | fail)) ?_ | refine DCall.re (c1) (by first | with_reducible rfl | (simp only [imm_i, imm_s, imm_b, curV, iO, iS, layO, layV, seqV, seqO]; first | done | fail)) rfl (by first | rfl | exact own_i _ _ | exact own_s _ | exact own_b _ | (simp [V.noSl, V.noSl.go, own_i, own_s, own_b, curV, iO, iS, layO, layV, seqV, seqO]; first | done | fail)) ?_ | refine CallP.re (c2) (by first | with_reducible rfl | (simp only [imm_i, imm_s, imm_b, curV, iO, iS, layO, layV, seqV, seqO]; first | done | fail)) rfl rfl rfl (by first | rfl | exact own_i _ _ | exact own_s _ | exact own_b _ | (simp [V.noSl, V.noSl.go, own_i, own_s, own_b, curV, iO, iS, layO, layV, seqV, seqO]; first | done | fail)) ?_ | refine DCall.re (c2) (by first | with_reducible rfl | (simp only [imm_i, imm_s, imm_b, curV, iO, iS, layO, layV, seqV, seqO]; first | done | fail)) rfl (by first | rfl | exact own_i _ _ | exact own_s _ | exact own_b _ | (simp [V.noSl, V.noSl.go, own_i, own_s, own_b, curV, iO, iS, layO, layV, seqV, seqO]; first | done | fail)) ?_ | refine Br.tt ?_ | refine Br.ff ?_ | refine Br.not ?_ | refine Br.dand (fun _ => ?_) (fun _ => ?_) | refine Br.dec (fun _ => ?_) (fun _ => ?_) | refine Br.beq (fun _ => ?_) (fun _ => ?_) | refine Br.bne (fun _ => ?_) (fun _ => ?_) | refine Br.seq (fun _ => ?_) (fun _ => ?_) | refine Elt.i (by omega) ?_ | refine EltN.i (by omega) ?_ | refine Nt.cast ?_ | refine Nt.mk _ rfl ?_ | refine EltN.mk _ rfl ?_ | refine Mx.mk _ rfl ?_ | refine Br.mk (fun _ => ?_) (fun _ => ?_) | refine EndP.mk ?_ trivial | refine EndP.mk ?_ ⟨.inr ⟨List.mem_cons_self .., ?_, rfl⟩, trivial⟩ | refine Ar.i64 (by omega) ?_ | refine Ar.u8 (by omega) ?_ | refine Quo.pos (by omega) ?_ | refine Rem.pos (by omega) ?_ | refine BsP.own ?_ | refine Ob.mk ⟨rfl, rfl⟩ ?_ | refine Ob.mk (flat_i _ _).1 ?_ | refine Ob.mk (flat_i _ _) ?_ | refine Ob.mk (flat_s _) ?_ | refine Ob.mk (by first | omega | (simp; first | done | fail) | (simp; omega)) ?_ | fail
              all_goals first
                | (exfalso; omega)
                | (conv => whnf
                   refine ⟨w + 1, by omega, by omega, ?_⟩
                   rw [hn]
                   rfl)
          · obtain rfl : w = 6 := by omega
            repeat' (conv => whnf); first | refine Br.tt ?_ | refine Br.ff ?_ | refine Br.not ?_ | refine Br.dand (fun _ => ?_) (fun _ => ?_) | refine Br.dec (fun _ => ?_) (fun _ => ?_) | refine Br.beq (fun _ => ?_) (fun _ => ?_) | refine Br.bne (fun _ => ?_) (fun _ => ?_) | refine Br.seq (fun _ => ?_) (fun _ => ?_) | refine Elt.i (by omega) ?_ | refine EltN.i (by omega) ?_ | refine Nt.cast ?_ | refine Nt.mk _ rfl ?_ | refine EltN.mk _ rfl ?_ | refine Mx.mk _ rfl ?_ | refine Br.mk (fun _ => ?_) (fun _ => ?_) | refine EndP.mk ?_ trivial | refine EndP.mk ?_ ⟨.inr ⟨List.mem_cons_self .., ?_, rfl⟩, trivial⟩ | refine Ar.i64 (by omega) ?_ | refine Ar.u8 (by omega) ?_ | refine Quo.pos (by omega) ?_ | refine Rem.pos (by omega) ?_ | refine BsP.own ?_ | refine Ob.mk ⟨rfl, rfl⟩ ?_ | refine Ob.mk (flat_i _ _).1 ?_ | refine Ob.mk (flat_i _ _) ?_ | refine Ob.mk (flat_s _) ?_ | refine Ob.mk (by first | omega | (simp; first | done | fail) | (simp; omega)) ?_ | fail
            all_goals first
              | (exfalso; omega)
              | (rw [hkm]; simp [resOf, kept]; first | done | fail)
              | rfl
  · exfalso; omega
theorem bytesOf3 (n : List Int) (h : ∀ z ∈ n, IntKind.u8.has z) : ∃ l : List UInt8, n.map (V.i .u8) = l.map byteV := by
  refine ⟨n.map fun z => UInt8.ofNat z.toNat, ?_⟩
  rw [List.map_map]
  refine List.map_congr_left fun z hz => ?_
  have hh := h z hz
  have : 0 ≤ z ∧ z ≤ 255 := by
    unfold IntKind.has IntKind.min IntKind.max at hh
    simpa [IntKind.bits, IntKind.signed] using hh
  show V.i .u8 z = byteV (UInt8.ofNat z.toNat)
  unfold byteV
  congr 1
  rw [UInt8.toNat_ofNat']
  omega
theorem law_layouts_row (n : List Int) (h : ∀ z ∈ n, IntKind.u8.has z) : Vow Try.prog 6 [.sl (n.map (.i .u8))] (.b true) [] := by
  obtain ⟨l, hl⟩ := bytesOf3 n h
  rw [hl]
  exact law_layouts l
end Go.Proofs.Ytfcjjkfjdecakaa
