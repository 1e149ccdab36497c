/- The law of the units of a picture. No condition. -/
import Derived.Test.YtfcjjkfjdecakaaUl
namespace Go.Proofs.Ytfcjjkfjdecakaa
open Go Go.Vx
set_option linter.unusedVariables false
set_option linter.unusedSimpArgs false
set_option maxHeartbeats 600000
set_option maxRecDepth 100000


def PuI (c r : List Int) (ps : List Part) : Prop := (c.length ≤ 9223372036854775807 ∧ r.length ≤ 9223372036854775807) ∧ ps.length ≤ 9223372036854775807 ∧ ∀ x ∈ ps, x.row.length ≤ 9223372036854775807
theorem sumP_ge (ps : List Part) {j : Nat} (h : j < ps.length) : (pt ps j).row.length ≤ sumP ps ps.length := by
  have h1 := sumP_mono ps (j + 1) (ps.length - (j + 1))
  rw [show j + 1 + (ps.length - (j + 1)) = ps.length by omega] at h1
  have h2 : sumP ps (j + 1) = sumP ps j + (pt ps j).row.length := rfl
  omega
theorem puR_len {lvl bits : Int} {c r : List Int} {p : Par} {frame : Int} {ps : List Part} {begin : Bool} (h : ps.length ≤ 1048570) : (puR lvl bits c r p frame ps begin).1.length ≤ 1048576 := by
  by_cases hk : puOk lvl bits c r p frame ps
  · rw [puR_yes hk]
    have := puT_len lvl bits c r p frame ps begin ps.length
    show (puT _ _ _ _ _ _ _ _ _).length ≤ _
    omega
  · rw [puR_no hk]; simp
set_option maxHeartbeats 12000000 in
theorem law_pictureUnits (lvl bits : Int) (c r : List Int) (p : Par) (frame : Int) (ps : List Part) (begin : Bool) (hi : PuI c r ps) :
    Vow Try.prog 11 [seqV lvl bits c r, parV p, .i .i64 frame, ptS ps, .b begin] (.b true) [] := by
  obtain ⟨⟨i1, i2⟩, i3, i4⟩ := hi
  by_cases hs : szSeq c r 1048576 < 0
  · refine vow_of_ev (fn := Try.f11) [] [(0, 0), (0, 0), (23, 26), (26, 27), (0, 0), (28, 31), (31, 32), (0, 0), (33, 45), (45, 47), (47, 49), (49, 59), (59, 67), (0, 0), (68, 72), (0, 0), (73, 77), (0, 0), (0, 0), (78, 81), (81, 84), (84, 96), (0, 0), (0, 0), (97, 100), (0, 0), (100, 103), (103, 104), (0, 0), (105, 107), (0, 0), (108, 120), (120, 128), (0, 0), (0, 0), (129, 132), (132, 133), (0, 0), (134, 136), (0, 0), (0, 0)] tt_ok Try.func11 (by decide) rfl (Nat.le_of_ble_eq_true rfl) rfl rfl rfl ?_
    repeat' (conv => whnf); first | refine CallP.rd (szSeq_vow lvl bits c r i1 i2 1048576 (by omega)) rfl rfl rfl rfl ?_ | refine Br.tt ?_ | refine Br.ff ?_ | refine Br.not ?_ | refine Br.dand (fun _ => ?_) (fun _ => ?_) | refine Br.dec (fun _ => ?_) (fun _ => ?_) | refine Br.beq (fun _ => ?_) (fun _ => ?_) | refine Br.bne (fun _ => ?_) (fun _ => ?_) | refine Br.seq (fun _ => ?_) (fun _ => ?_) | refine Elt.i (by omega) ?_ | refine EltN.i (by omega) ?_ | refine Nt.cast ?_ | refine Nt.mk _ rfl ?_ | refine EltN.mk _ rfl ?_ | refine Mx.mk _ rfl ?_ | refine Br.mk (fun _ => ?_) (fun _ => ?_) | refine EndP.mk ?_ trivial | refine EndP.mk ?_ ⟨.inr ⟨List.mem_cons_self .., ?_, rfl⟩, trivial⟩ | refine Ar.i64 (by omega) ?_ | refine Ar.u8 (by omega) ?_ | refine Quo.pos (by omega) ?_ | refine Rem.pos (by omega) ?_ | refine BsP.own ?_ | refine Ob.mk ⟨rfl, rfl⟩ ?_ | refine Ob.mk (flat_i _ _).1 ?_ | refine Ob.mk (flat_i _ _) ?_ | refine Ob.mk (flat_s _) ?_ | refine Ob.mk (by first | omega | (simp; first | done | fail) | (simp; omega)) ?_ | fail
    all_goals first | rfl | exact absurd hs (by assumption)
  have c1 := sz1_le c.length 1048576
  have c2 := sz1_le r.length (sz1 c.length 1048576)
  have hc : szSeq c r 1048576 = 1048576 - c.length - r.length ∧ 0 ≤ szSeq c r 1048576 := by
    unfold szSeq at hs ⊢
    split at hs
    · omega
    · split at hs
      · omega
      · rename_i k1 k2
        rw [if_neg k1, if_neg k2]
        omega
  obtain ⟨hc, hc0⟩ := hc
  have z2 := szPartS_vow ps (szSeq c r 1048576) (by omega) i3 i4
  by_cases hs2 : 0 ≤ szP ps (szSeq c r 1048576)
  · have hz := hs2
    unfold szP at hz
    have l1 : c.length ≤ 17592186044416 := by omega
    have l2 : r.length ≤ 17592186044416 := by omega
    have hn : ps.length ≤ 1048576 := by omega
    have hx : ∀ x ∈ ps, x.row.length ≤ 2000000 := fun x hx => by
      obtain ⟨j, hj, rfl⟩ := List.getElem_of_mem hx
      have := sumP_ge ps hj
      have e : pt ps j = ps[j] := by unfold pt; rw [List.getD_eq_getElem?_getD, List.getElem?_eq_getElem hj]; rfl
      rw [e] at this
      omega
    rw [szPR, if_pos hs2] at z2
    have z1 := szSeq_vow lvl bits c r i1 i2 1048576 (by omega)
    generalize szSeq c r 1048576 = L1 at *
    generalize szP ps L1 = L2 at *
    have f1 := pictureUnits_spec lvl bits c r p frame ps begin hx hn
    have f2 := pictureUnits_impl lvl bits c r p frame ps begin hx hn
    have hpl : (puR lvl bits c r p frame ps begin).1.length ≤ 1048576 := by
      by_cases hk : puOk lvl bits c r p frame ps
      · have h1 := hk.1.2.2
        have h2 := tilesOf_fit (lvl := lvl) (bits := bits) (c := c) (r := r)
        exact puR_len (by omega)
      · rw [puR_no hk]; simp
    generalize puR lvl bits c r p frame ps begin = R at *
    obtain ⟨P, B⟩ := R
    simp only [puV] at f1 f2 hpl
    have e1 := eqStringS_vow P hpl
    have e2 := eqSeq_vow lvl bits lvl bits c r c r l1 l2 l1 l2
    rw [decide_eq_true ⟨rfl, rfl, rfl, rfl⟩] at e2
    have e3 := eqPartS_vow ps hn
    have m1 := markSeq_vow lvl bits c r l1 l2 1 (by omega)
    have m2 := markPartS_vow ps (1 + c.length + r.length) hn (by omega)
    have m3 := markStringS_vow P 1 hpl (by omega)
    have h3 := heldStringS_vow P.length 1 hpl (by omega)
    have t1 := toSeq_vow lvl bits c r l1 l2
    have t2 := toPar2_vow p
    have t3 := toPartS_vow ps hn
    refine vow_of_ev (fn := Try.f11) [] [(0, 0), (0, 0), (23, 26), (26, 27), (0, 0), (28, 31), (31, 32), (0, 0), (33, 45), (45, 47), (47, 49), (49, 59), (59, 67), (0, 0), (68, 72), (0, 0), (73, 77), (0, 0), (0, 0), (78, 81), (81, 84), (84, 96), (0, 0), (0, 0), (97, 100), (0, 0), (100, 103), (103, 104), (0, 0), (105, 107), (0, 0), (108, 120), (120, 128), (0, 0), (0, 0), (129, 132), (132, 133), (0, 0), (134, 136), (0, 0), (0, 0)] tt_ok Try.func11 (by decide) rfl (Nat.le_of_ble_eq_true rfl) rfl rfl rfl ?_
    cases B
    all_goals (repeat' (conv => whnf); first | refine CallP.rd (z1) rfl rfl rfl rfl ?_ | refine DCall.rd (z1) rfl rfl ?_ | refine CallP.re (z2) (by first | with_reducible rfl | (simp only [imm_i, imm_s, imm_b, ptS, ptO, imm_pt, own_pt, txS, txO, imm_tx, own_tx, partV, iO, iS, seqV, seqO, parV]; first | done | fail)) rfl rfl rfl (by first | rfl | exact own_i _ _ | exact own_s _ | exact own_b _ | (simp [V.noSl, V.noSl.go, own_i, own_s, own_b, ptS, ptO, imm_pt, own_pt, txS, txO, imm_tx, own_tx, partV, iO, iS, seqV, seqO, parV]; first | done | fail)) ?_ | refine DCall.re (z2) (by first | with_reducible rfl | (simp only [imm_i, imm_s, imm_b, ptS, ptO, imm_pt, own_pt, txS, txO, imm_tx, own_tx, partV, iO, iS, seqV, seqO, parV]; first | done | fail)) rfl (by first | rfl | exact own_i _ _ | exact own_s _ | exact own_b _ | (simp [V.noSl, V.noSl.go, own_i, own_s, own_b, ptS, ptO, imm_pt, own_pt, txS, txO, imm_tx, own_tx, partV, iO, iS, seqV, seqO, parV]; first | done | fail)) ?_ | refine CallP.re (t1) (by first | with_reducible rfl | (simp only [imm_i, imm_s, imm_b, ptS, ptO, imm_pt, own_pt, txS, txO, imm_tx, own_tx, partV, iO, iS, seqV, seqO, parV]; first | done | fail)) rfl rfl rfl (by first | rfl | exact own_i _ _ | exact own_s _ | exact own_b _ | (simp [V.noSl, V.noSl.go, own_i, own_s, own_b, ptS, ptO, imm_pt, own_pt, txS, txO, imm_tx, own_tx, partV, iO, iS, seqV, seqO, parV]; first | done | fail)) ?_ | refine DCall.re (t1) (by first | with_reducible rfl | (simp only [imm_i, imm_s, imm_b, ptS, ptO, imm_pt, own_pt, txS, txO, imm_tx, own_tx, partV, iO, iS, seqV, seqO, parV]; first | done | fail)) rfl (by first | rfl | exact own_i _ _ | exact own_s _ | exact own_b _ | (simp [V.noSl, V.noSl.go, own_i, own_s, own_b, ptS, ptO, imm_pt, own_pt, txS, txO, imm_tx, own_tx, partV, iO, iS, seqV, seqO, parV]; first | done | fail)) ?_ | refine CallP.rd (t2) rfl rfl rfl rfl ?_ | refine DCall.rd (t2) rfl rfl ?_ | refine CallP.re (t3) (by first | with_reducible rfl | (simp only [imm_i, imm_s, imm_b, ptS, ptO, imm_pt, own_pt, txS, txO, imm_tx, own_tx, partV, iO, iS, seqV, seqO, parV]; first | done | fail)) rfl rfl rfl (by first | rfl | exact own_i _ _ | exact own_s _ | exact own_b _ | (simp [V.noSl, V.noSl.go, own_i, own_s, own_b, ptS, ptO, imm_pt, own_pt, txS, txO, imm_tx, own_tx, partV, iO, iS, seqV, seqO, parV]; first | done | fail)) ?_ | refine DCall.re (t3) (by first | with_reducible rfl | (simp only [imm_i, imm_s, imm_b, ptS, ptO, imm_pt, own_pt, txS, txO, imm_tx, own_tx, partV, iO, iS, seqV, seqO, parV]; first | done | fail)) rfl (by first | rfl | exact own_i _ _ | exact own_s _ | exact own_b _ | (simp [V.noSl, V.noSl.go, own_i, own_s, own_b, ptS, ptO, imm_pt, own_pt, txS, txO, imm_tx, own_tx, partV, iO, iS, seqV, seqO, parV]; first | done | fail)) ?_ | refine CallP.re (f1) (by first | with_reducible rfl | (simp only [imm_i, imm_s, imm_b, ptS, ptO, imm_pt, own_pt, txS, txO, imm_tx, own_tx, partV, iO, iS, seqV, seqO, parV]; first | done | fail)) rfl rfl rfl (by first | rfl | exact own_i _ _ | exact own_s _ | exact own_b _ | (simp [V.noSl, V.noSl.go, own_i, own_s, own_b, ptS, ptO, imm_pt, own_pt, txS, txO, imm_tx, own_tx, partV, iO, iS, seqV, seqO, parV]; first | done | fail)) ?_ | refine DCall.re (f1) (by first | with_reducible rfl | (simp only [imm_i, imm_s, imm_b, ptS, ptO, imm_pt, own_pt, txS, txO, imm_tx, own_tx, partV, iO, iS, seqV, seqO, parV]; first | done | fail)) rfl (by first | rfl | exact own_i _ _ | exact own_s _ | exact own_b _ | (simp [V.noSl, V.noSl.go, own_i, own_s, own_b, ptS, ptO, imm_pt, own_pt, txS, txO, imm_tx, own_tx, partV, iO, iS, seqV, seqO, parV]; first | done | fail)) ?_ | refine CallP.re (f2) (by first | with_reducible rfl | (simp only [imm_i, imm_s, imm_b, ptS, ptO, imm_pt, own_pt, txS, txO, imm_tx, own_tx, partV, iO, iS, seqV, seqO, parV]; first | done | fail)) rfl rfl rfl (by first | rfl | exact own_i _ _ | exact own_s _ | exact own_b _ | (simp [V.noSl, V.noSl.go, own_i, own_s, own_b, ptS, ptO, imm_pt, own_pt, txS, txO, imm_tx, own_tx, partV, iO, iS, seqV, seqO, parV]; first | done | fail)) ?_ | refine DCall.re (f2) (by first | with_reducible rfl | (simp only [imm_i, imm_s, imm_b, ptS, ptO, imm_pt, own_pt, txS, txO, imm_tx, own_tx, partV, iO, iS, seqV, seqO, parV]; first | done | fail)) rfl (by first | rfl | exact own_i _ _ | exact own_s _ | exact own_b _ | (simp [V.noSl, V.noSl.go, own_i, own_s, own_b, ptS, ptO, imm_pt, own_pt, txS, txO, imm_tx, own_tx, partV, iO, iS, seqV, seqO, parV]; first | done | fail)) ?_ | refine CallP.re (e1) (by first | with_reducible rfl | (simp only [imm_i, imm_s, imm_b, ptS, ptO, imm_pt, own_pt, txS, txO, imm_tx, own_tx, partV, iO, iS, seqV, seqO, parV]; first | done | fail)) rfl rfl rfl (by first | rfl | exact own_i _ _ | exact own_s _ | exact own_b _ | (simp [V.noSl, V.noSl.go, own_i, own_s, own_b, ptS, ptO, imm_pt, own_pt, txS, txO, imm_tx, own_tx, partV, iO, iS, seqV, seqO, parV]; first | done | fail)) ?_ | refine DCall.re (e1) (by first | with_reducible rfl | (simp only [imm_i, imm_s, imm_b, ptS, ptO, imm_pt, own_pt, txS, txO, imm_tx, own_tx, partV, iO, iS, seqV, seqO, parV]; first | done | fail)) rfl (by first | rfl | exact own_i _ _ | exact own_s _ | exact own_b _ | (simp [V.noSl, V.noSl.go, own_i, own_s, own_b, ptS, ptO, imm_pt, own_pt, txS, txO, imm_tx, own_tx, partV, iO, iS, seqV, seqO, parV]; first | done | fail)) ?_ | refine CallP.re (e2) (by first | with_reducible rfl | (simp only [imm_i, imm_s, imm_b, ptS, ptO, imm_pt, own_pt, txS, txO, imm_tx, own_tx, partV, iO, iS, seqV, seqO, parV]; first | done | fail)) rfl rfl rfl (by first | rfl | exact own_i _ _ | exact own_s _ | exact own_b _ | (simp [V.noSl, V.noSl.go, own_i, own_s, own_b, ptS, ptO, imm_pt, own_pt, txS, txO, imm_tx, own_tx, partV, iO, iS, seqV, seqO, parV]; first | done | fail)) ?_ | refine DCall.re (e2) (by first | with_reducible rfl | (simp only [imm_i, imm_s, imm_b, ptS, ptO, imm_pt, own_pt, txS, txO, imm_tx, own_tx, partV, iO, iS, seqV, seqO, parV]; first | done | fail)) rfl (by first | rfl | exact own_i _ _ | exact own_s _ | exact own_b _ | (simp [V.noSl, V.noSl.go, own_i, own_s, own_b, ptS, ptO, imm_pt, own_pt, txS, txO, imm_tx, own_tx, partV, iO, iS, seqV, seqO, parV]; first | done | fail)) ?_ | refine CallP.re (e3) (by first | with_reducible rfl | (simp only [imm_i, imm_s, imm_b, ptS, ptO, imm_pt, own_pt, txS, txO, imm_tx, own_tx, partV, iO, iS, seqV, seqO, parV]; first | done | fail)) rfl rfl rfl (by first | rfl | exact own_i _ _ | exact own_s _ | exact own_b _ | (simp [V.noSl, V.noSl.go, own_i, own_s, own_b, ptS, ptO, imm_pt, own_pt, txS, txO, imm_tx, own_tx, partV, iO, iS, seqV, seqO, parV]; first | done | fail)) ?_ | refine DCall.re (e3) (by first | with_reducible rfl | (simp only [imm_i, imm_s, imm_b, ptS, ptO, imm_pt, own_pt, txS, txO, imm_tx, own_tx, partV, iO, iS, seqV, seqO, parV]; first | done | fail)) rfl (by first | rfl | exact own_i _ _ | exact own_s _ | exact own_b _ | (simp [V.noSl, V.noSl.go, own_i, own_s, own_b, ptS, ptO, imm_pt, own_pt, txS, txO, imm_tx, own_tx, partV, iO, iS, seqV, seqO, parV]; first | done | fail)) ?_ | refine CallP.ho [([48, 2], [2, 2]), ([48, 3], [2, 3])] m1 rfl rfl ?_ | refine CallP.ho [([50], [2])] m2 rfl rfl ?_ | refine CallP.ho [([58, 0], [2])] m3 rfl rfl ?_ | refine CallP.re (h3) (by first | with_reducible rfl | (simp only [imm_i, imm_s, imm_b, ptS, ptO, imm_pt, own_pt, txS, txO, imm_tx, own_tx, partV, iO, iS, seqV, seqO, parV]; first | done | fail)) rfl rfl rfl (by first | rfl | exact own_i _ _ | exact own_s _ | exact own_b _ | (simp [V.noSl, V.noSl.go, own_i, own_s, own_b, ptS, ptO, imm_pt, own_pt, txS, txO, imm_tx, own_tx, partV, iO, iS, seqV, seqO, parV]; first | done | fail)) ?_ | refine DCall.re (h3) (by first | with_reducible rfl | (simp only [imm_i, imm_s, imm_b, ptS, ptO, imm_pt, own_pt, txS, txO, imm_tx, own_tx, partV, iO, iS, seqV, seqO, parV]; first | done | fail)) rfl (by first | rfl | exact own_i _ _ | exact own_s _ | exact own_b _ | (simp [V.noSl, V.noSl.go, own_i, own_s, own_b, ptS, ptO, imm_pt, own_pt, txS, txO, imm_tx, own_tx, partV, iO, iS, seqV, seqO, parV]; first | done | fail)) ?_ | refine Br.tt ?_ | refine Br.ff ?_ | refine Br.not ?_ | refine Br.dand (fun _ => ?_) (fun _ => ?_) | refine Br.dec (fun _ => ?_) (fun _ => ?_) | refine Br.beq (fun _ => ?_) (fun _ => ?_) | refine Br.bne (fun _ => ?_) (fun _ => ?_) | refine Br.seq (fun _ => ?_) (fun _ => ?_) | refine Elt.i (by omega) ?_ | refine EltN.i (by omega) ?_ | refine Nt.cast ?_ | refine Nt.mk _ rfl ?_ | refine EltN.mk _ rfl ?_ | refine Mx.mk _ rfl ?_ | refine Br.mk (fun _ => ?_) (fun _ => ?_) | refine EndP.mk ?_ trivial | refine EndP.mk ?_ ⟨.inr ⟨List.mem_cons_self .., ?_, rfl⟩, trivial⟩ | refine Ar.i64 (by omega) ?_ | refine Ar.u8 (by omega) ?_ | refine Quo.pos (by omega) ?_ | refine Rem.pos (by omega) ?_ | refine BsP.own ?_ | refine Ob.mk ⟨rfl, rfl⟩ ?_ | refine Ob.mk (flat_i _ _).1 ?_ | refine Ob.mk (flat_i _ _) ?_ | refine Ob.mk (flat_s _) ?_ | refine Ob.mk (by first | omega | (simp; first | done | fail) | (simp; omega)) ?_ | fail)
    all_goals first
      | (exfalso; omega)
      | exact absurd rfl ‹¬ _ = _›
      | rfl
      | trace_state
  · rw [szPR, if_neg hs2] at z2
    have z1 := szSeq_vow lvl bits c r i1 i2 1048576 (by omega)
    generalize szSeq c r 1048576 = L1 at *
    refine vow_of_ev (fn := Try.f11) [] [(0, 0), (0, 0), (23, 26), (26, 27), (0, 0), (28, 31), (31, 32), (0, 0), (33, 45), (45, 47), (47, 49), (49, 59), (59, 67), (0, 0), (68, 72), (0, 0), (73, 77), (0, 0), (0, 0), (78, 81), (81, 84), (84, 96), (0, 0), (0, 0), (97, 100), (0, 0), (100, 103), (103, 104), (0, 0), (105, 107), (0, 0), (108, 120), (120, 128), (0, 0), (0, 0), (129, 132), (132, 133), (0, 0), (134, 136), (0, 0), (0, 0)] tt_ok Try.func11 (by decide) rfl (Nat.le_of_ble_eq_true rfl) rfl rfl rfl ?_
    repeat' (conv => whnf); first | refine CallP.rd (z1) rfl rfl rfl rfl ?_ | refine CallP.re (z2) (by first | with_reducible rfl | (simp only [imm_i, imm_s, imm_b, ptS, ptO, imm_pt, own_pt, txS, txO, imm_tx, own_tx, partV, iO, iS, seqV, seqO, parV]; first | done | fail)) rfl rfl rfl (by first | rfl | exact own_i _ _ | exact own_s _ | exact own_b _ | (simp [V.noSl, V.noSl.go, own_i, own_s, own_b, ptS, ptO, imm_pt, own_pt, txS, txO, imm_tx, own_tx, partV, iO, iS, seqV, seqO, parV]; first | done | fail)) ?_ | refine Br.tt ?_ | refine Br.ff ?_ | refine Br.not ?_ | refine Br.dand (fun _ => ?_) (fun _ => ?_) | refine Br.dec (fun _ => ?_) (fun _ => ?_) | refine Br.beq (fun _ => ?_) (fun _ => ?_) | refine Br.bne (fun _ => ?_) (fun _ => ?_) | refine Br.seq (fun _ => ?_) (fun _ => ?_) | refine Elt.i (by omega) ?_ | refine EltN.i (by omega) ?_ | refine Nt.cast ?_ | refine Nt.mk _ rfl ?_ | refine EltN.mk _ rfl ?_ | refine Mx.mk _ rfl ?_ | refine Br.mk (fun _ => ?_) (fun _ => ?_) | refine EndP.mk ?_ trivial | refine EndP.mk ?_ ⟨.inr ⟨List.mem_cons_self .., ?_, rfl⟩, trivial⟩ | refine Ar.i64 (by omega) ?_ | refine Ar.u8 (by omega) ?_ | refine Quo.pos (by omega) ?_ | refine Rem.pos (by omega) ?_ | refine BsP.own ?_ | refine Ob.mk ⟨rfl, rfl⟩ ?_ | refine Ob.mk (flat_i _ _).1 ?_ | refine Ob.mk (flat_i _ _) ?_ | refine Ob.mk (flat_s _) ?_ | refine Ob.mk (by first | omega | (simp; first | done | fail) | (simp; omega)) ?_ | fail
    all_goals first | rfl | (exfalso; omega)
theorem parts_of {n : List V} (h : ∀ x ∈ n, FElem [.bool, .int .i64, .str] true x) : ∃ ps : List Part, n = ps.map partV ∧ ∀ x ∈ ps, x.row.length ≤ 9223372036854775807 := by
  refine rows_of (p := fun x : Part => x.row.length ≤ 9223372036854775807) (fun x hx => ?_) h
  obtain ⟨h1, h2, h3⟩ := hx
  cases x with
  | ag cs =>
    match cs, h2, h3 with
    | [a, b, d], _, h3 =>
      obtain ⟨k, hk⟩ := (h3 0 _ a rfl rfl).bool_inv
      obtain ⟨q, hq, _⟩ := (h3 1 _ b rfl rfl).int_inv
      obtain ⟨w, hw, hl⟩ := (h3 2 _ d rfl rfl).str_inv
      exact ⟨⟨k, q, w⟩, by rw [hk, hq, hw]; rfl, hl⟩
  | _ => cases h1
theorem law_pictureUnits_row (lvl bits : Int) (c r : List Int) (p : Par) (frame : Int) (n : List V) (begin : Bool) (hc : c.length ≤ 9223372036854775807) (hr : r.length ≤ 9223372036854775807)
    (h : ∀ x ∈ n, FElem [.bool, .int .i64, .str] true x) (hn : n.length ≤ 9223372036854775807) :
    Vow Try.prog 11 [seqV lvl bits c r, parV p, .i .i64 frame, .sl n, .b begin] (.b true) [] := by
  obtain ⟨ps, rfl, hp⟩ := parts_of h
  exact law_pictureUnits lvl bits c r p frame ps begin ⟨⟨hc, hr⟩, by simpa using hn, hp⟩
end Go.Proofs.Ytfcjjkfjdecakaa
