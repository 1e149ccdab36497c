/- The law of the parts of a picture. No condition. -/
import Derived.Test.YtfcjjkfjdecakaaUi
namespace Go.Proofs.Ytfcjjkfjdecakaa
open Go Go.Vx
set_option linter.unusedVariables false
set_option linter.unusedSimpArgs false
set_option maxHeartbeats 600000
set_option maxRecDepth 100000


def PpI (c r : List Int) (us : List (List UInt8)) : Prop := (c.length ≤ 9223372036854775807 ∧ r.length ≤ 9223372036854775807) ∧ us.length ≤ 9223372036854775807 ∧ ∀ x ∈ us, x.length ≤ 9223372036854775807
theorem sumT_ge (us : List (List UInt8)) {j : Nat} (h : j < us.length) : (ln us j).length ≤ sumT us us.length := by
  have h1 := sumT_mono us (j + 1) (us.length - (j + 1))
  rw [show j + 1 + (us.length - (j + 1)) = us.length by omega] at h1
  have h2 : sumT us (j + 1) = sumT us j + (ln us j).length := rfl
  omega
theorem ppR_len {lvl bits : Int} {c r : List Int} {p : Par} {us : List (List UInt8)} (h : us.length ≤ 1048576) : (ppR lvl bits c r p us).1.length ≤ 1048576 := by
  by_cases hk : ppOk lvl bits c r p us
  · rw [ppR_yes hk]; show (ppL _ _ _ _).length ≤ _; rw [ppL_len]; exact h
  · rw [ppR_no hk]; simp
set_option maxHeartbeats 12000000 in
theorem law_pictureParts (lvl bits : Int) (c r : List Int) (p : Par) (us : List (List UInt8)) (hi : PpI c r us) :
    Vow Try.prog 10 [seqV lvl bits c r, parV p, txS us] (.b true) [] := by
  obtain ⟨⟨i1, i2⟩, i3, i4⟩ := hi
  by_cases hs : szSeq c r 1048576 < 0
  · refine vow_of_ev (fn := Try.f10) [] [(0, 0), (0, 0), (22, 25), (25, 26), (0, 0), (27, 30), (30, 31), (0, 0), (32, 43), (43, 45), (45, 47), (47, 56), (56, 69), (0, 0), (70, 74), (0, 0), (75, 79), (0, 0), (0, 0), (80, 83), (83, 86), (86, 103), (0, 0), (0, 0), (104, 107), (0, 0), (107, 110), (110, 111), (0, 0), (112, 114), (0, 0), (115, 126), (126, 139), (0, 0), (0, 0), (140, 143), (143, 144), (0, 0), (145, 147), (0, 0), (0, 0)] tt_ok Try.func10 (by decide) rfl (Nat.le_of_ble_eq_true rfl) rfl rfl rfl ?_
    repeat' (conv => whnf); first | refine CallP.rd (szSeq_vow lvl bits c r i1 i2 1048576 (by omega)) rfl rfl rfl rfl ?_ | refine Br.tt ?_ | refine Br.ff ?_ | refine Br.not ?_ | refine Br.dand (fun _ => ?_) (fun _ => ?_) | refine Br.dec (fun _ => ?_) (fun _ => ?_) | refine Br.beq (fun _ => ?_) (fun _ => ?_) | refine Br.bne (fun _ => ?_) (fun _ => ?_) | refine Br.seq (fun _ => ?_) (fun _ => ?_) | refine Elt.i (by omega) ?_ | refine EltN.i (by omega) ?_ | refine Nt.cast ?_ | refine Nt.mk _ rfl ?_ | refine EltN.mk _ rfl ?_ | refine Mx.mk _ rfl ?_ | refine Br.mk (fun _ => ?_) (fun _ => ?_) | refine EndP.mk ?_ trivial | refine EndP.mk ?_ ⟨.inr ⟨List.mem_cons_self .., ?_, rfl⟩, trivial⟩ | refine Ar.i64 (by omega) ?_ | refine Ar.u8 (by omega) ?_ | refine Quo.pos (by omega) ?_ | refine Rem.pos (by omega) ?_ | refine BsP.own ?_ | refine Ob.mk ⟨rfl, rfl⟩ ?_ | refine Ob.mk (flat_i _ _).1 ?_ | refine Ob.mk (flat_i _ _) ?_ | refine Ob.mk (flat_s _) ?_ | refine Ob.mk (by first | omega | (simp; first | done | fail) | (simp; omega)) ?_ | fail
    all_goals first | rfl | exact absurd hs (by assumption)
  have c1 := sz1_le c.length 1048576
  have c2 := sz1_le r.length (sz1 c.length 1048576)
  have hc : szSeq c r 1048576 = 1048576 - c.length - r.length ∧ 0 ≤ szSeq c r 1048576 := by
    unfold szSeq at hs ⊢
    split at hs
    · omega
    · split at hs
      · omega
      · rename_i k1 k2
        rw [if_neg k1, if_neg k2]
        omega
  obtain ⟨hc, hc0⟩ := hc
  have z2 := szStringS_vow us (szSeq c r 1048576) (by omega) i3 i4
  by_cases hs2 : 0 ≤ szT us (szSeq c r 1048576)
  · have hz := hs2
    unfold szT at hz
    have l1 : c.length ≤ 17592186044416 := by omega
    have l2 : r.length ≤ 17592186044416 := by omega
    have hn : us.length ≤ 1048576 := by omega
    have hx : ∀ x ∈ us, x.length ≤ 2000000 := fun x hx => by
      obtain ⟨j, hj, rfl⟩ := List.getElem_of_mem hx
      have := sumT_ge us hj
      have e : ln us j = us[j] := by unfold ln; rw [List.getD_eq_getElem?_getD, List.getElem?_eq_getElem hj]; rfl
      rw [e] at this
      omega
    rw [szTR, if_pos hs2] at z2
    have z1 := szSeq_vow lvl bits c r i1 i2 1048576 (by omega)
    generalize szSeq c r 1048576 = L1 at *
    generalize szT us L1 = L2 at *
    have f1 := pictureParts_spec lvl bits c r p us hx hn
    have f2 := pictureParts_impl lvl bits c r p us hx hn
    have hpl := ppR_len (lvl := lvl) (bits := bits) (c := c) (r := r) (p := p) hn
    generalize ppR lvl bits c r p us = R at *
    obtain ⟨P, F, B⟩ := R
    simp only [ppV] at f1 f2 hpl
    have e1 := eqPartS_vow P hpl
    have e2 := eqSeq_vow lvl bits lvl bits c r c r l1 l2 l1 l2
    rw [decide_eq_true ⟨rfl, rfl, rfl, rfl⟩] at e2
    have e3 := eqStringS_vow us hn
    have m1 := markSeq_vow lvl bits c r l1 l2 1 (by omega)
    have m2 := markStringS_vow us (1 + c.length + r.length) hn (by omega)
    have m3 := markPartS_vow P 1 hpl (by omega)
    have h3 := heldPartS_vow P.length 1 hpl (by omega)
    have t1 := toSeq_vow lvl bits c r l1 l2
    have t2 := toPar2_vow p
    have t3 := toStringS_vow us hn
    refine vow_of_ev (fn := Try.f10) [] [(0, 0), (0, 0), (22, 25), (25, 26), (0, 0), (27, 30), (30, 31), (0, 0), (32, 43), (43, 45), (45, 47), (47, 56), (56, 69), (0, 0), (70, 74), (0, 0), (75, 79), (0, 0), (0, 0), (80, 83), (83, 86), (86, 103), (0, 0), (0, 0), (104, 107), (0, 0), (107, 110), (110, 111), (0, 0), (112, 114), (0, 0), (115, 126), (126, 139), (0, 0), (0, 0), (140, 143), (143, 144), (0, 0), (145, 147), (0, 0), (0, 0)] tt_ok Try.func10 (by decide) rfl (Nat.le_of_ble_eq_true rfl) rfl rfl rfl ?_
    cases B
    all_goals (repeat' (conv => whnf); first | refine CallP.rd (z1) rfl rfl rfl rfl ?_ | refine DCall.rd (z1) rfl rfl ?_ | refine CallP.re (z2) (by first | with_reducible rfl | (simp only [imm_i, imm_s, imm_b, ptS, ptO, imm_pt, own_pt, txS, txO, imm_tx, own_tx, partV, headV, iO, iS, seqV, seqO, parV]; first | done | fail)) rfl rfl rfl (by first | rfl | exact own_i _ _ | exact own_s _ | exact own_b _ | (simp [V.noSl, V.noSl.go, own_i, own_s, own_b, ptS, ptO, imm_pt, own_pt, txS, txO, imm_tx, own_tx, partV, headV, iO, iS, seqV, seqO, parV]; first | done | fail)) ?_ | refine DCall.re (z2) (by first | with_reducible rfl | (simp only [imm_i, imm_s, imm_b, ptS, ptO, imm_pt, own_pt, txS, txO, imm_tx, own_tx, partV, headV, iO, iS, seqV, seqO, parV]; first | done | fail)) rfl (by first | rfl | exact own_i _ _ | exact own_s _ | exact own_b _ | (simp [V.noSl, V.noSl.go, own_i, own_s, own_b, ptS, ptO, imm_pt, own_pt, txS, txO, imm_tx, own_tx, partV, headV, iO, iS, seqV, seqO, parV]; first | done | fail)) ?_ | refine CallP.re (t1) (by first | with_reducible rfl | (simp only [imm_i, imm_s, imm_b, ptS, ptO, imm_pt, own_pt, txS, txO, imm_tx, own_tx, partV, headV, iO, iS, seqV, seqO, parV]; first | done | fail)) rfl rfl rfl (by first | rfl | exact own_i _ _ | exact own_s _ | exact own_b _ | (simp [V.noSl, V.noSl.go, own_i, own_s, own_b, ptS, ptO, imm_pt, own_pt, txS, txO, imm_tx, own_tx, partV, headV, iO, iS, seqV, seqO, parV]; first | done | fail)) ?_ | refine DCall.re (t1) (by first | with_reducible rfl | (simp only [imm_i, imm_s, imm_b, ptS, ptO, imm_pt, own_pt, txS, txO, imm_tx, own_tx, partV, headV, iO, iS, seqV, seqO, parV]; first | done | fail)) rfl (by first | rfl | exact own_i _ _ | exact own_s _ | exact own_b _ | (simp [V.noSl, V.noSl.go, own_i, own_s, own_b, ptS, ptO, imm_pt, own_pt, txS, txO, imm_tx, own_tx, partV, headV, iO, iS, seqV, seqO, parV]; first | done | fail)) ?_ | refine CallP.rd (t2) rfl rfl rfl rfl ?_ | refine DCall.rd (t2) rfl rfl ?_ | refine CallP.re (t3) (by first | with_reducible rfl | (simp only [imm_i, imm_s, imm_b, ptS, ptO, imm_pt, own_pt, txS, txO, imm_tx, own_tx, partV, headV, iO, iS, seqV, seqO, parV]; first | done | fail)) rfl rfl rfl (by first | rfl | exact own_i _ _ | exact own_s _ | exact own_b _ | (simp [V.noSl, V.noSl.go, own_i, own_s, own_b, ptS, ptO, imm_pt, own_pt, txS, txO, imm_tx, own_tx, partV, headV, iO, iS, seqV, seqO, parV]; first | done | fail)) ?_ | refine DCall.re (t3) (by first | with_reducible rfl | (simp only [imm_i, imm_s, imm_b, ptS, ptO, imm_pt, own_pt, txS, txO, imm_tx, own_tx, partV, headV, iO, iS, seqV, seqO, parV]; first | done | fail)) rfl (by first | rfl | exact own_i _ _ | exact own_s _ | exact own_b _ | (simp [V.noSl, V.noSl.go, own_i, own_s, own_b, ptS, ptO, imm_pt, own_pt, txS, txO, imm_tx, own_tx, partV, headV, iO, iS, seqV, seqO, parV]; first | done | fail)) ?_ | refine CallP.re (f1) (by first | with_reducible rfl | (simp only [imm_i, imm_s, imm_b, ptS, ptO, imm_pt, own_pt, txS, txO, imm_tx, own_tx, partV, headV, iO, iS, seqV, seqO, parV]; first | done | fail)) rfl rfl rfl (by first | rfl | exact own_i _ _ | exact own_s _ | exact own_b _ | (simp [V.noSl, V.noSl.go, own_i, own_s, own_b, ptS, ptO, imm_pt, own_pt, txS, txO, imm_tx, own_tx, partV, headV, iO, iS, seqV, seqO, parV]; first | done | fail)) ?_ | refine DCall.re (f1) (by first | with_reducible rfl | (simp only [imm_i, imm_s, imm_b, ptS, ptO, imm_pt, own_pt, txS, txO, imm_tx, own_tx, partV, headV, iO, iS, seqV, seqO, parV]; first | done | fail)) rfl (by first | rfl | exact own_i _ _ | exact own_s _ | exact own_b _ | (simp [V.noSl, V.noSl.go, own_i, own_s, own_b, ptS, ptO, imm_pt, own_pt, txS, txO, imm_tx, own_tx, partV, headV, iO, iS, seqV, seqO, parV]; first | done | fail)) ?_ | refine CallP.re (f2) (by first | with_reducible rfl | (simp only [imm_i, imm_s, imm_b, ptS, ptO, imm_pt, own_pt, txS, txO, imm_tx, own_tx, partV, headV, iO, iS, seqV, seqO, parV]; first | done | fail)) rfl rfl rfl (by first | rfl | exact own_i _ _ | exact own_s _ | exact own_b _ | (simp [V.noSl, V.noSl.go, own_i, own_s, own_b, ptS, ptO, imm_pt, own_pt, txS, txO, imm_tx, own_tx, partV, headV, iO, iS, seqV, seqO, parV]; first | done | fail)) ?_ | refine DCall.re (f2) (by first | with_reducible rfl | (simp only [imm_i, imm_s, imm_b, ptS, ptO, imm_pt, own_pt, txS, txO, imm_tx, own_tx, partV, headV, iO, iS, seqV, seqO, parV]; first | done | fail)) rfl (by first | rfl | exact own_i _ _ | exact own_s _ | exact own_b _ | (simp [V.noSl, V.noSl.go, own_i, own_s, own_b, ptS, ptO, imm_pt, own_pt, txS, txO, imm_tx, own_tx, partV, headV, iO, iS, seqV, seqO, parV]; first | done | fail)) ?_ | refine CallP.re (e1) (by first | with_reducible rfl | (simp only [imm_i, imm_s, imm_b, ptS, ptO, imm_pt, own_pt, txS, txO, imm_tx, own_tx, partV, headV, iO, iS, seqV, seqO, parV]; first | done | fail)) rfl rfl rfl (by first | rfl | exact own_i _ _ | exact own_s _ | exact own_b _ | (simp [V.noSl, V.noSl.go, own_i, own_s, own_b, ptS, ptO, imm_pt, own_pt, txS, txO, imm_tx, own_tx, partV, headV, iO, iS, seqV, seqO, parV]; first | done | fail)) ?_ | refine DCall.re (e1) (by first | with_reducible rfl | (simp only [imm_i, imm_s, imm_b, ptS, ptO, imm_pt, own_pt, txS, txO, imm_tx, own_tx, partV, headV, iO, iS, seqV, seqO, parV]; first | done | fail)) rfl (by first | rfl | exact own_i _ _ | exact own_s _ | exact own_b _ | (simp [V.noSl, V.noSl.go, own_i, own_s, own_b, ptS, ptO, imm_pt, own_pt, txS, txO, imm_tx, own_tx, partV, headV, iO, iS, seqV, seqO, parV]; first | done | fail)) ?_ | refine CallP.re (e2) (by first | with_reducible rfl | (simp only [imm_i, imm_s, imm_b, ptS, ptO, imm_pt, own_pt, txS, txO, imm_tx, own_tx, partV, headV, iO, iS, seqV, seqO, parV]; first | done | fail)) rfl rfl rfl (by first | rfl | exact own_i _ _ | exact own_s _ | exact own_b _ | (simp [V.noSl, V.noSl.go, own_i, own_s, own_b, ptS, ptO, imm_pt, own_pt, txS, txO, imm_tx, own_tx, partV, headV, iO, iS, seqV, seqO, parV]; first | done | fail)) ?_ | refine DCall.re (e2) (by first | with_reducible rfl | (simp only [imm_i, imm_s, imm_b, ptS, ptO, imm_pt, own_pt, txS, txO, imm_tx, own_tx, partV, headV, iO, iS, seqV, seqO, parV]; first | done | fail)) rfl (by first | rfl | exact own_i _ _ | exact own_s _ | exact own_b _ | (simp [V.noSl, V.noSl.go, own_i, own_s, own_b, ptS, ptO, imm_pt, own_pt, txS, txO, imm_tx, own_tx, partV, headV, iO, iS, seqV, seqO, parV]; first | done | fail)) ?_ | refine CallP.re (e3) (by first | with_reducible rfl | (simp only [imm_i, imm_s, imm_b, ptS, ptO, imm_pt, own_pt, txS, txO, imm_tx, own_tx, partV, headV, iO, iS, seqV, seqO, parV]; first | done | fail)) rfl rfl rfl (by first | rfl | exact own_i _ _ | exact own_s _ | exact own_b _ | (simp [V.noSl, V.noSl.go, own_i, own_s, own_b, ptS, ptO, imm_pt, own_pt, txS, txO, imm_tx, own_tx, partV, headV, iO, iS, seqV, seqO, parV]; first | done | fail)) ?_ | refine DCall.re (e3) (by first | with_reducible rfl | (simp only [imm_i, imm_s, imm_b, ptS, ptO, imm_pt, own_pt, txS, txO, imm_tx, own_tx, partV, headV, iO, iS, seqV, seqO, parV]; first | done | fail)) rfl (by first | rfl | exact own_i _ _ | exact own_s _ | exact own_b _ | (simp [V.noSl, V.noSl.go, own_i, own_s, own_b, ptS, ptO, imm_pt, own_pt, txS, txO, imm_tx, own_tx, partV, headV, iO, iS, seqV, seqO, parV]; first | done | fail)) ?_ | refine CallP.ho [([46, 2], [2, 2]), ([46, 3], [2, 3])] m1 rfl rfl ?_ | refine CallP.ho [([48], [2])] m2 rfl rfl ?_ | refine CallP.ho [([54, 0], [2])] m3 rfl rfl ?_ | refine CallP.re (h3) (by first | with_reducible rfl | (simp only [imm_i, imm_s, imm_b, ptS, ptO, imm_pt, own_pt, txS, txO, imm_tx, own_tx, partV, headV, iO, iS, seqV, seqO, parV]; first | done | fail)) rfl rfl rfl (by first | rfl | exact own_i _ _ | exact own_s _ | exact own_b _ | (simp [V.noSl, V.noSl.go, own_i, own_s, own_b, ptS, ptO, imm_pt, own_pt, txS, txO, imm_tx, own_tx, partV, headV, iO, iS, seqV, seqO, parV]; first | done | fail)) ?_ | refine DCall.re (h3) (by first | with_reducible rfl | (simp only [imm_i, imm_s, imm_b, ptS, ptO, imm_pt, own_pt, txS, txO, imm_tx, own_tx, partV, headV, iO, iS, seqV, seqO, parV]; first | done | fail)) rfl (by first | rfl | exact own_i _ _ | exact own_s _ | exact own_b _ | (simp [V.noSl, V.noSl.go, own_i, own_s, own_b, ptS, ptO, imm_pt, own_pt, txS, txO, imm_tx, own_tx, partV, headV, iO, iS, seqV, seqO, parV]; first | done | fail)) ?_ | refine Br.tt ?_ | refine Br.ff ?_ | refine Br.not ?_ | refine Br.dand (fun _ => ?_) (fun _ => ?_) | refine Br.dec (fun _ => ?_) (fun _ => ?_) | refine Br.beq (fun _ => ?_) (fun _ => ?_) | refine Br.bne (fun _ => ?_) (fun _ => ?_) | refine Br.seq (fun _ => ?_) (fun _ => ?_) | refine Elt.i (by omega) ?_ | refine EltN.i (by omega) ?_ | refine Nt.cast ?_ | refine Nt.mk _ rfl ?_ | refine EltN.mk _ rfl ?_ | refine Mx.mk _ rfl ?_ | refine Br.mk (fun _ => ?_) (fun _ => ?_) | refine EndP.mk ?_ trivial | refine EndP.mk ?_ ⟨.inr ⟨List.mem_cons_self .., ?_, rfl⟩, trivial⟩ | refine Ar.i64 (by omega) ?_ | refine Ar.u8 (by omega) ?_ | refine Quo.pos (by omega) ?_ | refine Rem.pos (by omega) ?_ | refine BsP.own ?_ | refine Ob.mk ⟨rfl, rfl⟩ ?_ | refine Ob.mk (flat_i _ _).1 ?_ | refine Ob.mk (flat_i _ _) ?_ | refine Ob.mk (flat_s _) ?_ | refine Ob.mk (by first | omega | (simp; first | done | fail) | (simp; omega)) ?_ | fail)
    all_goals first
      | (exfalso; omega)
      | exact absurd rfl ‹¬ _ = _›
      | rfl
      | trace_state
  · rw [szTR, if_neg hs2] at z2
    have z1 := szSeq_vow lvl bits c r i1 i2 1048576 (by omega)
    generalize szSeq c r 1048576 = L1 at *
    refine vow_of_ev (fn := Try.f10) [] [(0, 0), (0, 0), (22, 25), (25, 26), (0, 0), (27, 30), (30, 31), (0, 0), (32, 43), (43, 45), (45, 47), (47, 56), (56, 69), (0, 0), (70, 74), (0, 0), (75, 79), (0, 0), (0, 0), (80, 83), (83, 86), (86, 103), (0, 0), (0, 0), (104, 107), (0, 0), (107, 110), (110, 111), (0, 0), (112, 114), (0, 0), (115, 126), (126, 139), (0, 0), (0, 0), (140, 143), (143, 144), (0, 0), (145, 147), (0, 0), (0, 0)] tt_ok Try.func10 (by decide) rfl (Nat.le_of_ble_eq_true rfl) rfl rfl rfl ?_
    repeat' (conv => whnf); first | refine CallP.rd (z1) rfl rfl rfl rfl ?_ | refine CallP.re (z2) (by first | with_reducible rfl | (simp only [imm_i, imm_s, imm_b, ptS, ptO, imm_pt, own_pt, txS, txO, imm_tx, own_tx, partV, headV, iO, iS, seqV, seqO, parV]; first | done | fail)) rfl rfl rfl (by first | rfl | exact own_i _ _ | exact own_s _ | exact own_b _ | (simp [V.noSl, V.noSl.go, own_i, own_s, own_b, ptS, ptO, imm_pt, own_pt, txS, txO, imm_tx, own_tx, partV, headV, iO, iS, seqV, seqO, parV]; first | done | fail)) ?_ | refine Br.tt ?_ | refine Br.ff ?_ | refine Br.not ?_ | refine Br.dand (fun _ => ?_) (fun _ => ?_) | refine Br.dec (fun _ => ?_) (fun _ => ?_) | refine Br.beq (fun _ => ?_) (fun _ => ?_) | refine Br.bne (fun _ => ?_) (fun _ => ?_) | refine Br.seq (fun _ => ?_) (fun _ => ?_) | refine Elt.i (by omega) ?_ | refine EltN.i (by omega) ?_ | refine Nt.cast ?_ | refine Nt.mk _ rfl ?_ | refine EltN.mk _ rfl ?_ | refine Mx.mk _ rfl ?_ | refine Br.mk (fun _ => ?_) (fun _ => ?_) | refine EndP.mk ?_ trivial | refine EndP.mk ?_ ⟨.inr ⟨List.mem_cons_self .., ?_, rfl⟩, trivial⟩ | refine Ar.i64 (by omega) ?_ | refine Ar.u8 (by omega) ?_ | refine Quo.pos (by omega) ?_ | refine Rem.pos (by omega) ?_ | refine BsP.own ?_ | refine Ob.mk ⟨rfl, rfl⟩ ?_ | refine Ob.mk (flat_i _ _).1 ?_ | refine Ob.mk (flat_i _ _) ?_ | refine Ob.mk (flat_s _) ?_ | refine Ob.mk (by first | omega | (simp; first | done | fail) | (simp; omega)) ?_ | fail
    all_goals first | rfl | (exfalso; omega)
theorem texts_of {n : List V} (h : ∀ x ∈ n, FElem [.str] false x) : ∃ us : List (List UInt8), n = us.map V.s ∧ ∀ x ∈ us, x.length ≤ 9223372036854775807 := by
  refine rows_of (p := fun x : List UInt8 => x.length ≤ 9223372036854775807) (fun x hx => ?_) h
  obtain ⟨h1, h2, h3⟩ := hx
  have hc : x.cs = [x] := by cases x <;> first | rfl | cases h1
  obtain ⟨w, hw, hl⟩ := (h3 0 _ x rfl (by rw [hc]; rfl)).str_inv
  exact ⟨w, hw, hl⟩
theorem law_pictureParts_row (lvl bits : Int) (c r : List Int) (p : Par) (n : List V) (hc : c.length ≤ 9223372036854775807) (hr : r.length ≤ 9223372036854775807)
    (h : ∀ x ∈ n, FElem [.str] false x) (hn : n.length ≤ 9223372036854775807) :
    Vow Try.prog 10 [seqV lvl bits c r, parV p, .sl n] (.b true) [] := by
  obtain ⟨us, rfl, hp⟩ := texts_of h
  exact law_pictureParts lvl bits c r p us ⟨⟨hc, hr⟩, by simpa using hn, hp⟩
end Go.Proofs.Ytfcjjkfjdecakaa
