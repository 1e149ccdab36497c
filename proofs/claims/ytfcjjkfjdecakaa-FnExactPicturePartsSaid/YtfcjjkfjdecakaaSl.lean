/- The set of a layout. No condition. -/
import Derived.Test.YtfcjjkfjdecakaaSi
namespace Go.Proofs.Ytfcjjkfjdecakaa
open Go Go.Vx
set_option linter.unusedVariables false
set_option linter.unusedSimpArgs false
set_option maxHeartbeats 600000
set_option maxRecDepth 100000

def seqO (lvl bits : Int) (c r : List Int) : V := .ag [.i .i64 lvl, .i .i64 bits, iO c, iO r]
def seqN : V := .ag [.i .i64 0, .i .i64 0, .nl, .nl]

theorem copyInts_vow (l : List Int) (h : l.length ≤ 17592186044416) : Vow Try.prog 97 [iS l] (iO l) [] := by
  refine vow_of_ev (fn := Try.f97) [] [(0, 0), (3, 6)] tt_ok Try.func97 (by decide) rfl (Nat.le_of_ble_eq_true rfl) rfl rfl rfl ?_
  repeat' (conv => whnf); first | refine Br.tt ?_ | refine Br.ff ?_ | refine Br.not ?_ | refine Br.dand (fun _ => ?_) (fun _ => ?_) | refine Br.dec (fun _ => ?_) (fun _ => ?_) | refine Br.beq (fun _ => ?_) (fun _ => ?_) | refine Br.bne (fun _ => ?_) (fun _ => ?_) | refine Br.seq (fun _ => ?_) (fun _ => ?_) | refine Elt.i (by omega) ?_ | refine EltN.i (by omega) ?_ | refine Nt.cast ?_ | refine Nt.mk _ rfl ?_ | refine EltN.mk _ rfl ?_ | refine Mx.mk _ rfl ?_ | refine Br.mk (fun _ => ?_) (fun _ => ?_) | refine EndP.mk ?_ trivial | refine EndP.mk ?_ ⟨.inr ⟨List.mem_cons_self .., ?_, rfl⟩, trivial⟩ | refine Ar.i64 (by omega) ?_ | refine Ar.u8 (by omega) ?_ | refine Quo.pos (by omega) ?_ | refine Rem.pos (by omega) ?_ | refine BsP.own ?_ | refine Ob.mk ⟨rfl, rfl⟩ ?_ | refine Ob.mk (flat_i _ _).1 ?_ | refine Ob.mk (flat_i _ _) ?_ | refine Ob.mk (flat_s _) ?_ | refine Ob.mk (by first | omega | (simp; first | done | fail) | (simp; omega)) ?_ | fail
  rfl

def seqFine (l : Layout) (bits : Int) : Prop := layoutOk l ∧ 3 ≤ bits ∧ bits ≤ 8
instance (l : Layout) (bits : Int) : Decidable (seqFine l bits) := by unfold seqFine; infer_instance

theorem sides_len {l : Layout} (h : layoutOk l) : l.cols.length ≤ 17592186044416 ∧ l.rows.length ≤ 17592186044416 := by
  obtain ⟨k1, k2⟩ := levelFor_sides h.1
  have a1 := k1.1
  have a2 := k2.1
  omega

theorem layoutSeq_impl (l : Layout) (bits : Int) (h : seqFine l bits) : Vow Try.prog 34 [layV l, .i .i64 bits] (.tp [seqO (levelFor l.cols l.rows) bits l.cols l.rows, .b true]) [] := by
  have hs := sides_len h.1
  have hb := h.2
  refine vow_of_ev (fn := Try.f34) [] [(0, 0), (6, 13), (14, 15), (15, 28)] tt_ok Try.func34 (by decide) rfl (Nat.le_of_ble_eq_true rfl) rfl rfl rfl ?_
  repeat' (conv => whnf); first | refine CallP.rd (layoutOk_impl l) rfl rfl rfl rfl ?_ | refine DCall.rd (layoutOk_impl l) rfl rfl ?_ | refine CallP.rd (within_vow _ _ _) rfl rfl rfl rfl ?_ | refine DCall.rd (within_vow _ _ _) rfl rfl ?_ | refine CallP.rd (levelFor_impl l.cols l.rows) rfl rfl rfl rfl ?_ | refine DCall.rd (levelFor_impl l.cols l.rows) rfl rfl ?_ | refine CallP.re (copyInts_vow l.cols hs.1) (by first | with_reducible rfl | (simp only [imm_i, imm_s, imm_b, iO, layO, iS, layV, seqV, seqO, seqN]; first | done | fail)) rfl rfl rfl (by first | rfl | exact own_i _ _ | exact own_s _ | exact own_b _ | (simp [V.noSl, V.noSl.go, own_i, own_s, own_b, iO, layO, iS, layV, seqV, seqO, seqN]; first | done | fail)) ?_ | refine DCall.re (copyInts_vow l.cols hs.1) (by first | with_reducible rfl | (simp only [imm_i, imm_s, imm_b, iO, layO, iS, layV, seqV, seqO, seqN]; first | done | fail)) rfl (by first | rfl | exact own_i _ _ | exact own_s _ | exact own_b _ | (simp [V.noSl, V.noSl.go, own_i, own_s, own_b, iO, layO, iS, layV, seqV, seqO, seqN]; first | done | fail)) ?_ | refine CallP.re (copyInts_vow l.rows hs.2) (by first | with_reducible rfl | (simp only [imm_i, imm_s, imm_b, iO, layO, iS, layV, seqV, seqO, seqN]; first | done | fail)) rfl rfl rfl (by first | rfl | exact own_i _ _ | exact own_s _ | exact own_b _ | (simp [V.noSl, V.noSl.go, own_i, own_s, own_b, iO, layO, iS, layV, seqV, seqO, seqN]; first | done | fail)) ?_ | refine DCall.re (copyInts_vow l.rows hs.2) (by first | with_reducible rfl | (simp only [imm_i, imm_s, imm_b, iO, layO, iS, layV, seqV, seqO, seqN]; first | done | fail)) rfl (by first | rfl | exact own_i _ _ | exact own_s _ | exact own_b _ | (simp [V.noSl, V.noSl.go, own_i, own_s, own_b, iO, layO, iS, layV, seqV, seqO, seqN]; first | done | fail)) ?_ | refine Br.tt ?_ | refine Br.ff ?_ | refine Br.not ?_ | refine Br.dand (fun _ => ?_) (fun _ => ?_) | refine Br.dec (fun _ => ?_) (fun _ => ?_) | refine Br.beq (fun _ => ?_) (fun _ => ?_) | refine Br.bne (fun _ => ?_) (fun _ => ?_) | refine Br.seq (fun _ => ?_) (fun _ => ?_) | refine Elt.i (by omega) ?_ | refine EltN.i (by omega) ?_ | refine Nt.cast ?_ | refine Nt.mk _ rfl ?_ | refine EltN.mk _ rfl ?_ | refine Mx.mk _ rfl ?_ | refine Br.mk (fun _ => ?_) (fun _ => ?_) | refine EndP.mk ?_ trivial | refine EndP.mk ?_ ⟨.inr ⟨List.mem_cons_self .., ?_, rfl⟩, trivial⟩ | refine Ar.i64 (by omega) ?_ | refine Ar.u8 (by omega) ?_ | refine Quo.pos (by omega) ?_ | refine Rem.pos (by omega) ?_ | refine BsP.own ?_ | refine Ob.mk ⟨rfl, rfl⟩ ?_ | refine Ob.mk (flat_i _ _).1 ?_ | refine Ob.mk (flat_i _ _) ?_ | refine Ob.mk (flat_s _) ?_ | refine Ob.mk (by first | omega | (simp; first | done | fail) | (simp; omega)) ?_ | fail
  all_goals first | rfl | omega | exact absurd h.1 (by assumption)
theorem layoutSeq_implN (l : Layout) (bits : Int) (h : ¬ seqFine l bits) : Vow Try.prog 34 [layV l, .i .i64 bits] (.tp [seqN, .b false]) [] := by
  refine vow_of_ev (fn := Try.f34) [] [(0, 0), (6, 13), (14, 15), (15, 28)] tt_ok Try.func34 (by decide) rfl (Nat.le_of_ble_eq_true rfl) rfl rfl rfl ?_
  by_cases hl : layoutOk l
  · have hb : ¬ (3 ≤ bits ∧ bits ≤ 8) := fun k => h ⟨hl, k.1, k.2⟩
    repeat' (conv => whnf); first | refine CallP.rd (layoutOk_impl l) rfl rfl rfl rfl ?_ | refine CallP.rd (within_vow _ _ _) rfl rfl rfl rfl ?_ | refine Br.tt ?_ | refine Br.ff ?_ | refine Br.not ?_ | refine Br.dand (fun _ => ?_) (fun _ => ?_) | refine Br.dec (fun _ => ?_) (fun _ => ?_) | refine Br.beq (fun _ => ?_) (fun _ => ?_) | refine Br.bne (fun _ => ?_) (fun _ => ?_) | refine Br.seq (fun _ => ?_) (fun _ => ?_) | refine Elt.i (by omega) ?_ | refine EltN.i (by omega) ?_ | refine Nt.cast ?_ | refine Nt.mk _ rfl ?_ | refine EltN.mk _ rfl ?_ | refine Mx.mk _ rfl ?_ | refine Br.mk (fun _ => ?_) (fun _ => ?_) | refine EndP.mk ?_ trivial | refine EndP.mk ?_ ⟨.inr ⟨List.mem_cons_self .., ?_, rfl⟩, trivial⟩ | refine Ar.i64 (by omega) ?_ | refine Ar.u8 (by omega) ?_ | refine Quo.pos (by omega) ?_ | refine Rem.pos (by omega) ?_ | refine BsP.own ?_ | refine Ob.mk ⟨rfl, rfl⟩ ?_ | refine Ob.mk (flat_i _ _).1 ?_ | refine Ob.mk (flat_i _ _) ?_ | refine Ob.mk (flat_s _) ?_ | refine Ob.mk (by first | omega | (simp; first | done | fail) | (simp; omega)) ?_ | fail
    all_goals first | rfl | omega | exact absurd hl (by assumption)
  · repeat' (conv => whnf); first | refine CallP.rd (layoutOk_impl l) rfl rfl rfl rfl ?_ | refine CallP.rd (within_vow _ _ _) rfl rfl rfl rfl ?_ | refine Br.tt ?_ | refine Br.ff ?_ | refine Br.not ?_ | refine Br.dand (fun _ => ?_) (fun _ => ?_) | refine Br.dec (fun _ => ?_) (fun _ => ?_) | refine Br.beq (fun _ => ?_) (fun _ => ?_) | refine Br.bne (fun _ => ?_) (fun _ => ?_) | refine Br.seq (fun _ => ?_) (fun _ => ?_) | refine Elt.i (by omega) ?_ | refine EltN.i (by omega) ?_ | refine Nt.cast ?_ | refine Nt.mk _ rfl ?_ | refine EltN.mk _ rfl ?_ | refine Mx.mk _ rfl ?_ | refine Br.mk (fun _ => ?_) (fun _ => ?_) | refine EndP.mk ?_ trivial | refine EndP.mk ?_ ⟨.inr ⟨List.mem_cons_self .., ?_, rfl⟩, trivial⟩ | refine Ar.i64 (by omega) ?_ | refine Ar.u8 (by omega) ?_ | refine Quo.pos (by omega) ?_ | refine Rem.pos (by omega) ?_ | refine BsP.own ?_ | refine Ob.mk ⟨rfl, rfl⟩ ?_ | refine Ob.mk (flat_i _ _).1 ?_ | refine Ob.mk (flat_i _ _) ?_ | refine Ob.mk (flat_s _) ?_ | refine Ob.mk (by first | omega | (simp; first | done | fail) | (simp; omega)) ?_ | fail
    all_goals first | rfl | exact absurd (by assumption) hl
theorem eqSeq_vow (v1 b1 v2 b2 : Int) (c1 r1 c2 r2 : List Int) (h1 : c1.length ≤ 17592186044416) (h2 : r1.length ≤ 17592186044416) (h3 : c2.length ≤ 17592186044416) (h4 : r2.length ≤ 17592186044416) :
    Vow Try.prog 20 [seqV v1 b1 c1 r1, seqV v2 b2 c2 r2] (.b (decide (v1 = v2 ∧ b1 = b2 ∧ c1 = c2 ∧ r1 = r2))) [] := by
  refine vow_of_ev (fn := Try.f20) [] [(0, 0), (5, 9), (0, 0), (10, 14), (0, 0), (15, 20), (0, 0), (21, 26), (0, 0), (0, 0)] tt_ok Try.func20 (by decide) rfl (Nat.le_of_ble_eq_true rfl) rfl rfl rfl ?_
  repeat' (conv => whnf); first | refine CallP.rd (eqIntS_vow c1 c2 h1 h3) rfl rfl rfl rfl ?_ | refine CallP.rd (eqIntS_vow r1 r2 h2 h4) rfl rfl rfl rfl ?_ | refine Br.tt ?_ | refine Br.ff ?_ | refine Br.not ?_ | refine Br.dand (fun _ => ?_) (fun _ => ?_) | refine Br.dec (fun _ => ?_) (fun _ => ?_) | refine Br.beq (fun _ => ?_) (fun _ => ?_) | refine Br.bne (fun _ => ?_) (fun _ => ?_) | refine Br.seq (fun _ => ?_) (fun _ => ?_) | refine Elt.i (by omega) ?_ | refine EltN.i (by omega) ?_ | refine Nt.cast ?_ | refine Nt.mk _ rfl ?_ | refine EltN.mk _ rfl ?_ | refine Mx.mk _ rfl ?_ | refine Br.mk (fun _ => ?_) (fun _ => ?_) | refine EndP.mk ?_ trivial | refine EndP.mk ?_ ⟨.inr ⟨List.mem_cons_self .., ?_, rfl⟩, trivial⟩ | refine Ar.i64 (by omega) ?_ | refine Ar.u8 (by omega) ?_ | refine Quo.pos (by omega) ?_ | refine Rem.pos (by omega) ?_ | refine BsP.own ?_ | refine Ob.mk ⟨rfl, rfl⟩ ?_ | refine Ob.mk (flat_i _ _).1 ?_ | refine Ob.mk (flat_i _ _) ?_ | refine Ob.mk (flat_s _) ?_ | refine Ob.mk (by first | omega | (simp; first | done | fail) | (simp; omega)) ?_ | fail
  all_goals simp_all [resOf]

theorem markSeq_vow (v b : Int) (c r : List Int) (hc : c.length ≤ 17592186044416) (hr : r.length ≤ 17592186044416) (k : Int) (hk : 0 ≤ k ∧ k ≤ 100000000000000000) :
    Vow Try.prog 59 [seqO v b c r, .i .i64 k] (.i .i64 (k + c.length + r.length)) [seqO v b (markL c.length k) (markL r.length (k + c.length))] := by
  refine vow_of_ev (fn := Try.f59) [0] [(0, 0), (5, 9), (9, 13), (13, 14)] tt_ok Try.func59 (by decide) rfl (Nat.le_of_ble_eq_true rfl) rfl rfl rfl ?_
  repeat' (conv => whnf); first | refine CallP.ho [([2, 2], [2])] (markIntS_vow c k hc (by omega)) rfl rfl ?_ | refine CallP.ho [([2, 3], [2])] (markIntS_vow r (k + c.length) hr (by omega)) rfl rfl ?_ | refine Br.tt ?_ | refine Br.ff ?_ | refine Br.not ?_ | refine Br.dand (fun _ => ?_) (fun _ => ?_) | refine Br.dec (fun _ => ?_) (fun _ => ?_) | refine Br.beq (fun _ => ?_) (fun _ => ?_) | refine Br.bne (fun _ => ?_) (fun _ => ?_) | refine Br.seq (fun _ => ?_) (fun _ => ?_) | refine Elt.i (by omega) ?_ | refine EltN.i (by omega) ?_ | refine Nt.cast ?_ | refine Nt.mk _ rfl ?_ | refine EltN.mk _ rfl ?_ | refine Mx.mk _ rfl ?_ | refine Br.mk (fun _ => ?_) (fun _ => ?_) | refine EndP.mk ?_ trivial | refine EndP.mk ?_ ⟨.inr ⟨List.mem_cons_self .., ?_, rfl⟩, trivial⟩ | refine Ar.i64 (by omega) ?_ | refine Ar.u8 (by omega) ?_ | refine Quo.pos (by omega) ?_ | refine Rem.pos (by omega) ?_ | refine BsP.own ?_ | refine Ob.mk ⟨rfl, rfl⟩ ?_ | refine Ob.mk (flat_i _ _).1 ?_ | refine Ob.mk (flat_i _ _) ?_ | refine Ob.mk (flat_s _) ?_ | refine Ob.mk (by first | omega | (simp; first | done | fail) | (simp; omega)) ?_ | fail
  · rfl
  · rfl

theorem markIntS_nil (k : Int) : Vow Try.prog 118 [iS [], .i .i64 k] (.i .i64 k) [] := by
  refine vow_of_ev (fn := Try.f118) [] [(0, 0), (0, 0), (6, 9), (10, 12), (12, 16), (16, 18), (18, 19)] tt_ok Try.func118 (by decide) rfl (Nat.le_of_ble_eq_true rfl) rfl rfl rfl ?_
  repeat' (conv => whnf); first | refine Br.tt ?_ | refine Br.ff ?_ | refine Br.not ?_ | refine Br.dand (fun _ => ?_) (fun _ => ?_) | refine Br.dec (fun _ => ?_) (fun _ => ?_) | refine Br.beq (fun _ => ?_) (fun _ => ?_) | refine Br.bne (fun _ => ?_) (fun _ => ?_) | refine Br.seq (fun _ => ?_) (fun _ => ?_) | refine Elt.i (by omega) ?_ | refine EltN.i (by omega) ?_ | refine Nt.cast ?_ | refine Nt.mk _ rfl ?_ | refine EltN.mk _ rfl ?_ | refine Mx.mk _ rfl ?_ | refine Br.mk (fun _ => ?_) (fun _ => ?_) | refine EndP.mk ?_ trivial | refine EndP.mk ?_ ⟨.inr ⟨List.mem_cons_self .., ?_, rfl⟩, trivial⟩ | refine Ar.i64 (by omega) ?_ | refine Ar.u8 (by omega) ?_ | refine Quo.pos (by omega) ?_ | refine Rem.pos (by omega) ?_ | refine BsP.own ?_ | refine Ob.mk ⟨rfl, rfl⟩ ?_ | refine Ob.mk (flat_i _ _).1 ?_ | refine Ob.mk (flat_i _ _) ?_ | refine Ob.mk (flat_s _) ?_ | refine Ob.mk (by first | omega | (simp; first | done | fail) | (simp; omega)) ?_ | fail
  · conv => whnf
    refine LoopP.mk [0,1,4,5] (fun _ : Unit => [(0, iS []), (1, .i .i64 k), (4, .i .i64 0), (5, .i .i64 0)]) (fun _ => 0) (fun _ => True) ?_ ?_
    · conv => whnf
      exact ⟨(), trivial, rfl⟩
    · intro _ _
      repeat' (conv => whnf); first | refine Br.tt ?_ | refine Br.ff ?_ | refine Br.not ?_ | refine Br.dand (fun _ => ?_) (fun _ => ?_) | refine Br.dec (fun _ => ?_) (fun _ => ?_) | refine Br.beq (fun _ => ?_) (fun _ => ?_) | refine Br.bne (fun _ => ?_) (fun _ => ?_) | refine Br.seq (fun _ => ?_) (fun _ => ?_) | refine Elt.i (by omega) ?_ | refine EltN.i (by omega) ?_ | refine Nt.cast ?_ | refine Nt.mk _ rfl ?_ | refine EltN.mk _ rfl ?_ | refine Mx.mk _ rfl ?_ | refine Br.mk (fun _ => ?_) (fun _ => ?_) | refine EndP.mk ?_ trivial | refine EndP.mk ?_ ⟨.inr ⟨List.mem_cons_self .., ?_, rfl⟩, trivial⟩ | refine Ar.i64 (by omega) ?_ | refine Ar.u8 (by omega) ?_ | refine Quo.pos (by omega) ?_ | refine Rem.pos (by omega) ?_ | refine BsP.own ?_ | refine Ob.mk ⟨rfl, rfl⟩ ?_ | refine Ob.mk (flat_i _ _).1 ?_ | refine Ob.mk (flat_i _ _) ?_ | refine Ob.mk (flat_s _) ?_ | refine Ob.mk (by first | omega | (simp; first | done | fail) | (simp; omega)) ?_ | fail
      · rfl
theorem markSeq_nil (k : Int) : Vow Try.prog 59 [seqV 0 0 [] [], .i .i64 k] (.i .i64 k) [] := by
  refine vow_of_ev (fn := Try.f59) [] [(0, 0), (5, 9), (9, 13), (13, 14)] tt_ok Try.func59 (by decide) rfl (Nat.le_of_ble_eq_true rfl) rfl rfl rfl ?_
  repeat' (conv => whnf); first | refine CallP.rd (markIntS_nil k) rfl rfl rfl rfl ?_ | refine Br.tt ?_ | refine Br.ff ?_ | refine Br.not ?_ | refine Br.dand (fun _ => ?_) (fun _ => ?_) | refine Br.dec (fun _ => ?_) (fun _ => ?_) | refine Br.beq (fun _ => ?_) (fun _ => ?_) | refine Br.bne (fun _ => ?_) (fun _ => ?_) | refine Br.seq (fun _ => ?_) (fun _ => ?_) | refine Elt.i (by omega) ?_ | refine EltN.i (by omega) ?_ | refine Nt.cast ?_ | refine Nt.mk _ rfl ?_ | refine EltN.mk _ rfl ?_ | refine Mx.mk _ rfl ?_ | refine Br.mk (fun _ => ?_) (fun _ => ?_) | refine EndP.mk ?_ trivial | refine EndP.mk ?_ ⟨.inr ⟨List.mem_cons_self .., ?_, rfl⟩, trivial⟩ | refine Ar.i64 (by omega) ?_ | refine Ar.u8 (by omega) ?_ | refine Quo.pos (by omega) ?_ | refine Rem.pos (by omega) ?_ | refine BsP.own ?_ | refine Ob.mk ⟨rfl, rfl⟩ ?_ | refine Ob.mk (flat_i _ _).1 ?_ | refine Ob.mk (flat_i _ _) ?_ | refine Ob.mk (flat_s _) ?_ | refine Ob.mk (by first | omega | (simp; first | done | fail) | (simp; omega)) ?_ | fail
  rfl

def heldS (c r : List Int) (k : Int) : Int := if held c k < 0 then -1 else if held r (held c k) < 0 then -1 else held r (held c k)
theorem held_fit (c : List Int) (k : Int) (hk : 0 ≤ k) (hc : c.length ≤ 17592186044416) : held c k = -1 ∨ (0 ≤ held c k ∧ held c k ≤ k + 17592186044416) := by
  unfold held; split <;> omega
theorem held_mark (n : Nat) (k : Int) : held (markL n k) k = k + n := by unfold held; rw [markL_len, if_pos rfl]
theorem heldS_mark (n m : Nat) (k : Int) (hk : 0 ≤ k) : heldS (markL n k) (markL m (k + n)) k = k + n + m := by
  unfold heldS
  rw [held_mark, held_mark, if_neg (by omega), if_neg (by omega)]
theorem heldS_nil (k : Int) (hk : 0 ≤ k) : heldS [] [] k = k := by
  have := heldS_mark 0 0 k hk
  simpa [markL] using this

theorem eqSeq_nil : Vow Try.prog 20 [.ag [.i .i64 0, .i .i64 0, .sl [], .sl []], .ag [.i .i64 0, .i .i64 0, .sl [], .sl []]] (.b true) [] := by
  have h := eqSeq_vow 0 0 0 0 [] [] [] [] (by decide) (by decide) (by decide) (by decide)
  exact h
theorem markSeq_nil' : Vow Try.prog 59 [.ag [.i .i64 0, .i .i64 0, .sl [], .sl []], .i .i64 1] (.i .i64 1) [] := by
  have h := markSeq_nil 1
  exact h
end Go.Proofs.Ytfcjjkfjdecakaa