/- The law of layouts read from text. No condition. -/
import Derived.Test.YtffphhklnbfedaaSt
namespace Go.Proofs.Ytffphhklnbfedaa
open Go Go.Vx
set_option linter.unusedVariables false
set_option linter.unusedSimpArgs false
set_option maxHeartbeats 600000
set_option maxRecDepth 100000


def heldN (l : List Int) (k : Int) : Int := if k < 0 then -1 else held l k
theorem heldN_fit (c : List Int) (k : Int) (hc : c.length ≤ 17592186044416) : heldN c k = -1 ∨ (0 ≤ heldN c k ∧ heldN c k ≤ k + 17592186044416) := by
  unfold heldN held; split
  · exact .inl rfl
  · split <;> omega
theorem heldI_fit (c : List Int) (k : Int) (hk : 0 ≤ k) (hc : c.length ≤ 17592186044416) : held c k = -1 ∨ (0 ≤ held c k ∧ held c k ≤ k + 17592186044416) := by
  unfold held; split <;> omega
def heldL (l : Layout) (k : Int) : Int :=
  if held l.cols k < 0 then -1 else if held l.rows (held l.cols k) < 0 then -1 else if held l.who (held l.rows (held l.cols k)) < 0 then -1 else held l.who (held l.rows (held l.cols k))
theorem heldI_mark (n : Nat) (k : Int) : held (markL n k) k = k + n := by unfold held; rw [markL_len, if_pos rfl]
theorem heldL_mark (a b c : Nat) (k : Int) (hk : 0 ≤ k) : heldL ⟨markL a k, markL b (k + a), markL c (k + a + b)⟩ k = k + a + b + c := by
  unfold heldL
  simp only
  rw [heldI_mark, heldI_mark, heldI_mark, if_neg (by omega), if_neg (by omega), if_neg (by omega)]

theorem heldLayout_vow (l : Layout) (h : l.fit) (k : Int) (hk : 0 ≤ k ∧ k ≤ 100000000000000000) : Vow Try.prog 52 [layV l, .i .i64 k] (.i .i64 (heldL l k)) [] := by
  have hu := h
  unfold Layout.fit at hu
  refine vow_of_ev (fn := Try.f52) [] [(0, 0), (5, 9), (9, 10), (0, 0), (11, 15), (15, 16), (0, 0), (17, 21), (21, 22), (0, 0), (23, 24)] tt_ok Try.func52 (by decide) rfl (Nat.le_of_ble_eq_true rfl) rfl rfl rfl ?_
  have h1 := heldI_fit l.cols k hk.1 h.1
  have h2 : ¬ held l.cols k < 0 → held l.rows (held l.cols k) = -1 ∨ (0 ≤ held l.rows (held l.cols k) ∧ held l.rows (held l.cols k) ≤ held l.cols k + 17592186044416) := fun a => heldI_fit _ _ (by omega) h.2.1
  repeat' (conv => whnf); first | refine CallP.rd (heldIntS_vow l.cols k h.1 (by omega)) rfl rfl rfl rfl ?_ | refine CallP.rd (heldIntS_vow l.rows (held l.cols k) h.2.1 (by omega)) rfl rfl rfl rfl ?_ | refine CallP.rd (heldIntS_vow l.who (held l.rows (held l.cols k)) h.2.2 (by omega)) rfl rfl rfl rfl ?_ | refine Br.tt ?_ | refine Br.ff ?_ | refine Br.not ?_ | refine Br.dand (fun _ => ?_) (fun _ => ?_) | refine Br.dec (fun _ => ?_) (fun _ => ?_) | refine Br.beq (fun _ => ?_) (fun _ => ?_) | refine Br.bne (fun _ => ?_) (fun _ => ?_) | refine Br.seq (fun _ => ?_) (fun _ => ?_) | refine Elt.i (by omega) ?_ | refine EltN.i (by omega) ?_ | refine Nt.cast ?_ | refine Nt.mk _ rfl ?_ | refine EltN.mk _ rfl ?_ | refine Mx.mk _ rfl ?_ | refine Br.mk (fun _ => ?_) (fun _ => ?_) | refine EndP.mk ?_ trivial | refine EndP.mk ?_ ⟨.inr ⟨List.mem_cons_self .., ?_, rfl⟩, trivial⟩ | refine Ar.i64 (by omega) ?_ | refine Ar.u8 (by omega) ?_ | refine Quo.pos (by omega) ?_ | refine Rem.pos (by omega) ?_ | refine Ob.mk ⟨rfl, rfl⟩ ?_ | refine Ob.mk (flat_i _ _).1 ?_ | refine Ob.mk (flat_i _ _) ?_ | refine Ob.mk (flat_s _) ?_ | refine Ob.mk (by first | omega | (simp; first | done | fail) | (simp; omega)) ?_ | fail
  · rw [heldL, if_pos (by omega)]; rfl
  · rw [heldL, if_neg (by omega), if_pos (by omega)]; rfl
  · rw [heldL, if_neg (by omega), if_neg (by omega), if_pos (by omega)]; rfl
  · rw [heldL, if_neg (by omega), if_neg (by omega), if_neg (by omega)]; rfl

theorem markIntS_nil0 (k : Int) : Vow Try.prog 108 [iS [], .i .i64 k] (.i .i64 k) [] := by
  refine vow_of_ev (fn := Try.f108) [] [(0, 0), (0, 0), (6, 9), (10, 12), (12, 16), (16, 18), (18, 19)] tt_ok Try.func108 (by decide) rfl (Nat.le_of_ble_eq_true rfl) rfl rfl rfl ?_
  repeat' (conv => whnf); first | refine Br.tt ?_ | refine Br.ff ?_ | refine Br.not ?_ | refine Br.dand (fun _ => ?_) (fun _ => ?_) | refine Br.dec (fun _ => ?_) (fun _ => ?_) | refine Br.beq (fun _ => ?_) (fun _ => ?_) | refine Br.bne (fun _ => ?_) (fun _ => ?_) | refine Br.seq (fun _ => ?_) (fun _ => ?_) | refine Elt.i (by omega) ?_ | refine EltN.i (by omega) ?_ | refine Nt.cast ?_ | refine Nt.mk _ rfl ?_ | refine EltN.mk _ rfl ?_ | refine Mx.mk _ rfl ?_ | refine Br.mk (fun _ => ?_) (fun _ => ?_) | refine EndP.mk ?_ trivial | refine EndP.mk ?_ ⟨.inr ⟨List.mem_cons_self .., ?_, rfl⟩, trivial⟩ | refine Ar.i64 (by omega) ?_ | refine Ar.u8 (by omega) ?_ | refine Quo.pos (by omega) ?_ | refine Rem.pos (by omega) ?_ | refine Ob.mk ⟨rfl, rfl⟩ ?_ | refine Ob.mk (flat_i _ _).1 ?_ | refine Ob.mk (flat_i _ _) ?_ | refine Ob.mk (flat_s _) ?_ | refine Ob.mk (by first | omega | (simp; first | done | fail) | (simp; omega)) ?_ | fail
  · conv => whnf
    refine LoopP.mk [0,1,4,5] (fun _ : Unit => [(0, iS []), (1, .i .i64 k), (4, .i .i64 0), (5, .i .i64 0)]) (fun _ => 0) (fun _ => True) ?_ ?_
    · conv => whnf
      exact ⟨(), trivial, rfl⟩
    · intro _ _
      repeat' (conv => whnf); first | refine Br.tt ?_ | refine Br.ff ?_ | refine Br.not ?_ | refine Br.dand (fun _ => ?_) (fun _ => ?_) | refine Br.dec (fun _ => ?_) (fun _ => ?_) | refine Br.beq (fun _ => ?_) (fun _ => ?_) | refine Br.bne (fun _ => ?_) (fun _ => ?_) | refine Br.seq (fun _ => ?_) (fun _ => ?_) | refine Elt.i (by omega) ?_ | refine EltN.i (by omega) ?_ | refine Nt.cast ?_ | refine Nt.mk _ rfl ?_ | refine EltN.mk _ rfl ?_ | refine Mx.mk _ rfl ?_ | refine Br.mk (fun _ => ?_) (fun _ => ?_) | refine EndP.mk ?_ trivial | refine EndP.mk ?_ ⟨.inr ⟨List.mem_cons_self .., ?_, rfl⟩, trivial⟩ | refine Ar.i64 (by omega) ?_ | refine Ar.u8 (by omega) ?_ | refine Quo.pos (by omega) ?_ | refine Rem.pos (by omega) ?_ | refine Ob.mk ⟨rfl, rfl⟩ ?_ | refine Ob.mk (flat_i _ _).1 ?_ | refine Ob.mk (flat_i _ _) ?_ | refine Ob.mk (flat_s _) ?_ | refine Ob.mk (by first | omega | (simp; first | done | fail) | (simp; omega)) ?_ | fail
      · rfl
theorem markLayout_nil : Vow Try.prog 51 [.ag [.sl [], .sl [], .sl []], .i .i64 1] (.i .i64 1) [] := by
  refine vow_of_ev (fn := Try.f51) [] [(0, 0), (5, 9), (9, 13), (13, 17), (17, 18)] tt_ok Try.func51 (by decide) rfl (Nat.le_of_ble_eq_true rfl) rfl rfl rfl ?_
  repeat' (conv => whnf); first | refine CallP.rd (markIntS_nil0 1) rfl rfl rfl rfl ?_ | refine Br.tt ?_ | refine Br.ff ?_ | refine Br.not ?_ | refine Br.dand (fun _ => ?_) (fun _ => ?_) | refine Br.dec (fun _ => ?_) (fun _ => ?_) | refine Br.beq (fun _ => ?_) (fun _ => ?_) | refine Br.bne (fun _ => ?_) (fun _ => ?_) | refine Br.seq (fun _ => ?_) (fun _ => ?_) | refine Elt.i (by omega) ?_ | refine EltN.i (by omega) ?_ | refine Nt.cast ?_ | refine Nt.mk _ rfl ?_ | refine EltN.mk _ rfl ?_ | refine Mx.mk _ rfl ?_ | refine Br.mk (fun _ => ?_) (fun _ => ?_) | refine EndP.mk ?_ trivial | refine EndP.mk ?_ ⟨.inr ⟨List.mem_cons_self .., ?_, rfl⟩, trivial⟩ | refine Ar.i64 (by omega) ?_ | refine Ar.u8 (by omega) ?_ | refine Quo.pos (by omega) ?_ | refine Rem.pos (by omega) ?_ | refine Ob.mk ⟨rfl, rfl⟩ ?_ | refine Ob.mk (flat_i _ _).1 ?_ | refine Ob.mk (flat_i _ _) ?_ | refine Ob.mk (flat_s _) ?_ | refine Ob.mk (by first | omega | (simp; first | done | fail) | (simp; omega)) ?_ | fail
  rfl
theorem heldLayout_nil : Vow Try.prog 52 [.ag [.sl [], .sl [], .sl []], .i .i64 1] (.i .i64 1) [] := by
  have h := heldLayout_vow ⟨[], [], []⟩ ⟨by decide, by decide, by decide⟩ 1 (by omega)
  have h2 := heldL_mark 0 0 0 1 (by omega)
  rw [show heldL ⟨[], [], []⟩ 1 = 1 from h2] at h
  exact h
theorem eqLayout_nil : Vow Try.prog 50 [.ag [.sl [], .sl [], .sl []], .ag [.sl [], .sl [], .sl []]] (.b true) [] := by
  have h := eqLayout_vow ⟨[], [], []⟩ ⟨[], [], []⟩ ⟨by decide, by decide, by decide⟩ ⟨by decide, by decide, by decide⟩
  exact h

theorem numsT_len (t : List UInt8) : (numsT t).length ≤ t.length + 1 := by
  rw [numsT, numsTo_len]; exact (cutT_len2 t 44).2
set_option maxHeartbeats 6000000 in
theorem law_readLayout (t : List UInt8) : Vow Try.prog 9 [.s t] (.b true) [] := by
  refine vow_of_ev (fn := Try.f9) [] [(0, 0), (11, 13), (0, 0), (14, 19), (19, 24), (24, 32), (0, 0), (0, 0), (33, 36), (0, 0), (36, 39), (39, 40), (0, 0), (41, 43), (0, 0), (44, 49), (49, 57), (0, 0), (0, 0), (58, 61), (61, 62), (0, 0), (63, 65), (0, 0), (0, 0)] tt_ok Try.func9 (by decide) rfl (Nat.le_of_ble_eq_true rfl) rfl rfl rfl ?_
  by_cases hb : 1048576 < t.length
  · repeat' (conv => whnf); first | refine Br.tt ?_ | refine Br.ff ?_ | refine Br.not ?_ | refine Br.dand (fun _ => ?_) (fun _ => ?_) | refine Br.dec (fun _ => ?_) (fun _ => ?_) | refine Br.beq (fun _ => ?_) (fun _ => ?_) | refine Br.bne (fun _ => ?_) (fun _ => ?_) | refine Br.seq (fun _ => ?_) (fun _ => ?_) | refine Elt.i (by omega) ?_ | refine EltN.i (by omega) ?_ | refine Nt.cast ?_ | refine Nt.mk _ rfl ?_ | refine EltN.mk _ rfl ?_ | refine Mx.mk _ rfl ?_ | refine Br.mk (fun _ => ?_) (fun _ => ?_) | refine EndP.mk ?_ trivial | refine EndP.mk ?_ ⟨.inr ⟨List.mem_cons_self .., ?_, rfl⟩, trivial⟩ | refine Ar.i64 (by omega) ?_ | refine Ar.u8 (by omega) ?_ | refine Quo.pos (by omega) ?_ | refine Rem.pos (by omega) ?_ | refine Ob.mk ⟨rfl, rfl⟩ ?_ | refine Ob.mk (flat_i _ _).1 ?_ | refine Ob.mk (flat_i _ _) ?_ | refine Ob.mk (flat_s _) ?_ | refine Ob.mk (by first | omega | (simp; first | done | fail) | (simp; omega)) ?_ | fail
    all_goals first | rfl | (exfalso; omega)
  by_cases hg : layGood t
  · have fl : (lay3 t).fit := by
      have p0 := ln_le (t := t) (b := 47) 0
      have p1 := ln_le (t := t) (b := 47) 1
      have p2 := ln_le (t := t) (b := 47) 2
      have q0 := numsT_len (ln (cutT t 47) 0)
      have q1 := numsT_len (ln (cutT t 47) 1)
      have q2 := numsT_len (ln (cutT t 47) 2)
      refine ⟨?_, ?_, ?_⟩
      · show (numsT _).length ≤ _; omega
      · show (numsT _).length ≤ _; omega
      · show (numsT _).length ≤ _; omega
    generalize hl : lay3 t = l at fl
    have s1 := readLayout_spec t (by omega) hg
    have s2 := readLayout_impl t (by omega) hg
    rw [hl] at s1 s2
    have hu := fl
    unfold Layout.fit at hu
    have hq := heldL_mark l.cols.length l.rows.length l.who.length 1 (by omega)
    have fm : (Layout.mk (markL l.cols.length 1) (markL l.rows.length (1 + l.cols.length)) (markL l.who.length (1 + l.cols.length + l.rows.length))).fit := by
      refine ⟨?_, ?_, ?_⟩
      · show (markL _ _).length ≤ _; rw [markL_len]; omega
      · show (markL _ _).length ≤ _; rw [markL_len]; omega
      · show (markL _ _).length ≤ _; rw [markL_len]; omega
    repeat' (conv => whnf); first | refine CallP.re (s1) (by first | with_reducible rfl | (simp only [imm_i, imm_s, imm_b, iO, layO, iS, layV, lay3]; first | done | fail)) rfl rfl rfl (by first | rfl | exact own_i _ _ | exact own_s _ | exact own_b _ | (simp [V.noSl, V.noSl.go, own_i, own_s, own_b, iO, layO, iS, layV, lay3]; first | done | fail)) ?_ | refine DCall.re (s1) (by first | with_reducible rfl | (simp only [imm_i, imm_s, imm_b, iO, layO, iS, layV, lay3]; first | done | fail)) rfl (by first | rfl | exact own_i _ _ | exact own_s _ | exact own_b _ | (simp [V.noSl, V.noSl.go, own_i, own_s, own_b, iO, layO, iS, layV, lay3]; first | done | fail)) ?_ | refine CallP.re (s2) (by first | with_reducible rfl | (simp only [imm_i, imm_s, imm_b, iO, layO, iS, layV, lay3]; first | done | fail)) rfl rfl rfl (by first | rfl | exact own_i _ _ | exact own_s _ | exact own_b _ | (simp [V.noSl, V.noSl.go, own_i, own_s, own_b, iO, layO, iS, layV, lay3]; first | done | fail)) ?_ | refine DCall.re (s2) (by first | with_reducible rfl | (simp only [imm_i, imm_s, imm_b, iO, layO, iS, layV, lay3]; first | done | fail)) rfl (by first | rfl | exact own_i _ _ | exact own_s _ | exact own_b _ | (simp [V.noSl, V.noSl.go, own_i, own_s, own_b, iO, layO, iS, layV, lay3]; first | done | fail)) ?_ | refine CallP.re (eqLayout_vow l l fl fl) (by first | with_reducible rfl | (simp only [imm_i, imm_s, imm_b, iO, layO, iS, layV, lay3]; first | done | fail)) rfl rfl rfl (by first | rfl | exact own_i _ _ | exact own_s _ | exact own_b _ | (simp [V.noSl, V.noSl.go, own_i, own_s, own_b, iO, layO, iS, layV, lay3]; first | done | fail)) ?_ | refine DCall.re (eqLayout_vow l l fl fl) (by first | with_reducible rfl | (simp only [imm_i, imm_s, imm_b, iO, layO, iS, layV, lay3]; first | done | fail)) rfl (by first | rfl | exact own_i _ _ | exact own_s _ | exact own_b _ | (simp [V.noSl, V.noSl.go, own_i, own_s, own_b, iO, layO, iS, layV, lay3]; first | done | fail)) ?_ | refine CallP.re (heldLayout_vow ⟨markL l.cols.length 1, markL l.rows.length (1 + l.cols.length), markL l.who.length (1 + l.cols.length + l.rows.length)⟩ fm 1 (by omega)) (by first | with_reducible rfl | (simp only [imm_i, imm_s, imm_b, iO, layO, iS, layV, lay3]; first | done | fail)) rfl rfl rfl (by first | rfl | exact own_i _ _ | exact own_s _ | exact own_b _ | (simp [V.noSl, V.noSl.go, own_i, own_s, own_b, iO, layO, iS, layV, lay3]; first | done | fail)) ?_ | refine DCall.re (heldLayout_vow ⟨markL l.cols.length 1, markL l.rows.length (1 + l.cols.length), markL l.who.length (1 + l.cols.length + l.rows.length)⟩ fm 1 (by omega)) (by first | with_reducible rfl | (simp only [imm_i, imm_s, imm_b, iO, layO, iS, layV, lay3]; first | done | fail)) rfl (by first | rfl | exact own_i _ _ | exact own_s _ | exact own_b _ | (simp [V.noSl, V.noSl.go, own_i, own_s, own_b, iO, layO, iS, layV, lay3]; first | done | fail)) ?_ | refine CallP.ho [([23, 0, 0], [2, 0]), ([23, 0, 1], [2, 1]), ([23, 0, 2], [2, 2])] (markLayout_vow l fl 1 (by omega)) rfl rfl ?_ | refine Br.tt ?_ | refine Br.ff ?_ | refine Br.not ?_ | refine Br.dand (fun _ => ?_) (fun _ => ?_) | refine Br.dec (fun _ => ?_) (fun _ => ?_) | refine Br.beq (fun _ => ?_) (fun _ => ?_) | refine Br.bne (fun _ => ?_) (fun _ => ?_) | refine Br.seq (fun _ => ?_) (fun _ => ?_) | refine Elt.i (by omega) ?_ | refine EltN.i (by omega) ?_ | refine Nt.cast ?_ | refine Nt.mk _ rfl ?_ | refine EltN.mk _ rfl ?_ | refine Mx.mk _ rfl ?_ | refine Br.mk (fun _ => ?_) (fun _ => ?_) | refine EndP.mk ?_ trivial | refine EndP.mk ?_ ⟨.inr ⟨List.mem_cons_self .., ?_, rfl⟩, trivial⟩ | refine Ar.i64 (by omega) ?_ | refine Ar.u8 (by omega) ?_ | refine Quo.pos (by omega) ?_ | refine Rem.pos (by omega) ?_ | refine Ob.mk ⟨rfl, rfl⟩ ?_ | refine Ob.mk (flat_i _ _).1 ?_ | refine Ob.mk (flat_i _ _) ?_ | refine Ob.mk (flat_s _) ?_ | refine Ob.mk (by first | omega | (simp; first | done | fail) | (simp; omega)) ?_ | fail
    all_goals (conv => whnf)
    all_goals first | rfl | omega | (exfalso; simp_all; first | done | fail)
  · repeat' (conv => whnf); first | refine CallP.re (readLayout_specN t (by omega) hg) (by first | with_reducible rfl | (simp only [imm_i, imm_s, imm_b, iO, layO, iS, layV, lay3]; first | done | fail)) rfl rfl rfl (by first | rfl | exact own_i _ _ | exact own_s _ | exact own_b _ | (simp [V.noSl, V.noSl.go, own_i, own_s, own_b, iO, layO, iS, layV, lay3]; first | done | fail)) ?_ | refine DCall.re (readLayout_specN t (by omega) hg) (by first | with_reducible rfl | (simp only [imm_i, imm_s, imm_b, iO, layO, iS, layV, lay3]; first | done | fail)) rfl (by first | rfl | exact own_i _ _ | exact own_s _ | exact own_b _ | (simp [V.noSl, V.noSl.go, own_i, own_s, own_b, iO, layO, iS, layV, lay3]; first | done | fail)) ?_ | refine CallP.re (readLayout_implN t (by omega) hg) (by first | with_reducible rfl | (simp only [imm_i, imm_s, imm_b, iO, layO, iS, layV, lay3]; first | done | fail)) rfl rfl rfl (by first | rfl | exact own_i _ _ | exact own_s _ | exact own_b _ | (simp [V.noSl, V.noSl.go, own_i, own_s, own_b, iO, layO, iS, layV, lay3]; first | done | fail)) ?_ | refine DCall.re (readLayout_implN t (by omega) hg) (by first | with_reducible rfl | (simp only [imm_i, imm_s, imm_b, iO, layO, iS, layV, lay3]; first | done | fail)) rfl (by first | rfl | exact own_i _ _ | exact own_s _ | exact own_b _ | (simp [V.noSl, V.noSl.go, own_i, own_s, own_b, iO, layO, iS, layV, lay3]; first | done | fail)) ?_ | refine CallP.re (eqLayout_nil) (by first | with_reducible rfl | (simp only [imm_i, imm_s, imm_b, iO, layO, iS, layV, lay3]; first | done | fail)) rfl rfl rfl (by first | rfl | exact own_i _ _ | exact own_s _ | exact own_b _ | (simp [V.noSl, V.noSl.go, own_i, own_s, own_b, iO, layO, iS, layV, lay3]; first | done | fail)) ?_ | refine DCall.re (eqLayout_nil) (by first | with_reducible rfl | (simp only [imm_i, imm_s, imm_b, iO, layO, iS, layV, lay3]; first | done | fail)) rfl (by first | rfl | exact own_i _ _ | exact own_s _ | exact own_b _ | (simp [V.noSl, V.noSl.go, own_i, own_s, own_b, iO, layO, iS, layV, lay3]; first | done | fail)) ?_ | refine CallP.re (heldLayout_nil) (by first | with_reducible rfl | (simp only [imm_i, imm_s, imm_b, iO, layO, iS, layV, lay3]; first | done | fail)) rfl rfl rfl (by first | rfl | exact own_i _ _ | exact own_s _ | exact own_b _ | (simp [V.noSl, V.noSl.go, own_i, own_s, own_b, iO, layO, iS, layV, lay3]; first | done | fail)) ?_ | refine DCall.re (heldLayout_nil) (by first | with_reducible rfl | (simp only [imm_i, imm_s, imm_b, iO, layO, iS, layV, lay3]; first | done | fail)) rfl (by first | rfl | exact own_i _ _ | exact own_s _ | exact own_b _ | (simp [V.noSl, V.noSl.go, own_i, own_s, own_b, iO, layO, iS, layV, lay3]; first | done | fail)) ?_ | refine CallP.re (markLayout_nil) (by first | with_reducible rfl | (simp only [imm_i, imm_s, imm_b, iO, layO, iS, layV, lay3]; first | done | fail)) rfl rfl rfl (by first | rfl | exact own_i _ _ | exact own_s _ | exact own_b _ | (simp [V.noSl, V.noSl.go, own_i, own_s, own_b, iO, layO, iS, layV, lay3]; first | done | fail)) ?_ | refine DCall.re (markLayout_nil) (by first | with_reducible rfl | (simp only [imm_i, imm_s, imm_b, iO, layO, iS, layV, lay3]; first | done | fail)) rfl (by first | rfl | exact own_i _ _ | exact own_s _ | exact own_b _ | (simp [V.noSl, V.noSl.go, own_i, own_s, own_b, iO, layO, iS, layV, lay3]; first | done | fail)) ?_ | refine Br.tt ?_ | refine Br.ff ?_ | refine Br.not ?_ | refine Br.dand (fun _ => ?_) (fun _ => ?_) | refine Br.dec (fun _ => ?_) (fun _ => ?_) | refine Br.beq (fun _ => ?_) (fun _ => ?_) | refine Br.bne (fun _ => ?_) (fun _ => ?_) | refine Br.seq (fun _ => ?_) (fun _ => ?_) | refine Elt.i (by omega) ?_ | refine EltN.i (by omega) ?_ | refine Nt.cast ?_ | refine Nt.mk _ rfl ?_ | refine EltN.mk _ rfl ?_ | refine Mx.mk _ rfl ?_ | refine Br.mk (fun _ => ?_) (fun _ => ?_) | refine EndP.mk ?_ trivial | refine EndP.mk ?_ ⟨.inr ⟨List.mem_cons_self .., ?_, rfl⟩, trivial⟩ | refine Ar.i64 (by omega) ?_ | refine Ar.u8 (by omega) ?_ | refine Quo.pos (by omega) ?_ | refine Rem.pos (by omega) ?_ | refine Ob.mk ⟨rfl, rfl⟩ ?_ | refine Ob.mk (flat_i _ _).1 ?_ | refine Ob.mk (flat_i _ _) ?_ | refine Ob.mk (flat_s _) ?_ | refine Ob.mk (by first | omega | (simp; first | done | fail) | (simp; omega)) ?_ | fail
    all_goals (conv => whnf)
    all_goals first | rfl | omega | (exfalso; simp_all; first | done | fail)
end Go.Proofs.Ytffphhklnbfedaa
