/- The parts of a picture out of its units: both sides, and the law. No condition. -/
import Derived.Test.YtfcjjkfjdecakaaTz
import Derived.Test.YtfcjjkfjdecakaaUh
namespace Go.Proofs.Ytfcjjkfjdecakaa
open Go Go.Vx
set_option linter.unusedVariables false
set_option linter.unusedSimpArgs false
set_option maxHeartbeats 600000
set_option maxRecDepth 100000


section
variable (lvl bits : Int) (c r : List Int) (p : Par) (us : List (List UInt8))
def ppH (i : Nat) : Head := rhH bits p (piT (ln us i))
def ppP (i : Nat) : Part := piPart bits p (ln us i)
def ppAt (i : Nat) : Prop := piOk lvl bits c r p (ln us i) ∧ (ppH bits p us i).tile = (i : Int) ∧ (ppH bits p us i).frame = (ppH bits p us 0).frame
instance (i : Nat) : Decidable (ppAt lvl bits c r p us i) := by unfold ppAt; infer_instance
def ppOk : Prop := (seqOk lvl bits c r = true ∧ parOk p ∧ (us.length : Int) = tilesOf lvl bits c r) ∧ ∀ i, i < us.length → ppAt lvl bits c r p us i
instance : Decidable (ppOk lvl bits c r p us) := by unfold ppOk; infer_instance
def ppL (n : Nat) : List Part := (List.range n).map (ppP bits p us)
def ppR : List Part × Int × Bool := if ppOk lvl bits c r p us then (ppL bits p us us.length, (ppH bits p us 0).frame, true) else ([], 0, false)
end
theorem ppL_len (bits : Int) (p : Par) (us : List (List UInt8)) (n : Nat) : (ppL bits p us n).length = n := by simp [ppL]
theorem ppL_succ (bits : Int) (p : Par) (us : List (List UInt8)) (n : Nat) : ppL bits p us (n + 1) = ppL bits p us n ++ [ppP bits p us n] := by simp [ppL, List.range_succ]
theorem ppR_no {lvl bits : Int} {c r : List Int} {p : Par} {us : List (List UInt8)} (h : ¬ ppOk lvl bits c r p us) : ppR lvl bits c r p us = ([], 0, false) := by rw [ppR, if_neg h]
theorem ppR_yes {lvl bits : Int} {c r : List Int} {p : Par} {us : List (List UInt8)} (h : ppOk lvl bits c r p us) : ppR lvl bits c r p us = (ppL bits p us us.length, (ppH bits p us 0).frame, true) := by rw [ppR, if_pos h]
def frI (bits : Int) (p : Par) (us : List (List UInt8)) (i : Nat) : Int := if i = 0 then 0 else (ppH bits p us 0).frame
theorem frI_0 (bits : Int) (p : Par) (us : List (List UInt8)) : frI bits p us 0 = 0 := rfl
theorem frI_s (bits : Int) (p : Par) (us : List (List UInt8)) {i : Nat} (h : 0 < i) : frI bits p us i = (ppH bits p us 0).frame := by rw [frI, if_neg (by omega)]
theorem pp_all {lvl bits : Int} {c r : List Int} {p : Par} {us : List (List UInt8)} {i : Nat} (h : ∀ j, j < i → ppAt lvl bits c r p us j) (hi : ppAt lvl bits c r p us i) : ∀ j, j < i + 1 → ppAt lvl bits c r p us j := fun j hj => by
  rcases Nat.lt_or_eq_of_le (Nat.le_of_lt_succ hj) with h1 | h1
  · exact h j h1
  · subst h1; exact hi

def ppV (x : List Part × Int × Bool) : V := .tp [ptO x.1, .i .i64 x.2.1, .b x.2.2]
set_option maxHeartbeats 6000000 in
theorem pictureParts_spec (lvl bits : Int) (c r : List Int) (p : Par) (us : List (List UInt8)) (hu : ∀ x ∈ us, x.length ≤ 2000000) (hn : us.length ≤ 1048576) :
    Vow Try.prog 54 [seqV lvl bits c r, parV p, txS us] (ppV (ppR lvl bits c r p us)) [] := by
  have ht := tilesOf_fit (lvl := lvl) (bits := bits) (c := c) (r := r)
  have hm : (us.map V.s).length = us.length := by simp
  have hln : ∀ j, j < us.length → (ln us j).length ≤ 2000000 := fun j hj => hu _ (by
    unfold ln; rw [List.getD_eq_getElem?_getD, List.getElem?_eq_getElem hj]; exact List.getElem_mem _)
  refine vow_of_ev (fn := Try.f54) [] [(0, 0), (15, 16), (0, 0), (16, 25), (26, 27), (0, 0), (27, 30), (31, 33), (33, 44), (44, 61), (62, 63), (63, 65), (65, 69), (69, 71)] tt_ok Try.func54 (by decide) rfl (Nat.le_of_ble_eq_true rfl) rfl rfl rfl ?_
  by_cases hpre : (us.length : Int) = tilesOf lvl bits c r ∧ 0 < us.length
  · obtain ⟨hp1, hp2⟩ := hpre
    repeat' (conv => whnf); first | refine CallP.rd (tilesOf_spec lvl bits c r) rfl rfl rfl rfl ?_ | refine DCall.rd (tilesOf_spec lvl bits c r) rfl rfl ?_ | refine Br.tt ?_ | refine Br.ff ?_ | refine Br.not ?_ | refine Br.dand (fun _ => ?_) (fun _ => ?_) | refine Br.dec (fun _ => ?_) (fun _ => ?_) | refine Br.beq (fun _ => ?_) (fun _ => ?_) | refine Br.bne (fun _ => ?_) (fun _ => ?_) | refine Br.seq (fun _ => ?_) (fun _ => ?_) | refine Elt.i (by omega) ?_ | refine EltN.i (by omega) ?_ | refine Nt.cast ?_ | refine Nt.mk _ rfl ?_ | refine EltN.mk _ rfl ?_ | refine Mx.mk _ rfl ?_ | refine Br.mk (fun _ => ?_) (fun _ => ?_) | refine EndP.mk ?_ trivial | refine EndP.mk ?_ ⟨.inr ⟨List.mem_cons_self .., ?_, rfl⟩, trivial⟩ | refine Ar.i64 (by omega) ?_ | refine Ar.u8 (by omega) ?_ | refine Quo.pos (by omega) ?_ | refine Rem.pos (by omega) ?_ | refine BsP.own ?_ | refine Ob.mk ⟨rfl, rfl⟩ ?_ | refine Ob.mk (flat_i _ _).1 ?_ | refine Ob.mk (flat_i _ _) ?_ | refine Ob.mk (flat_s _) ?_ | refine Ob.mk (by first | omega | (simp; first | done | fail) | (simp; omega)) ?_ | fail
    all_goals first
      | (exfalso; omega)
      | skip
    conv => whnf
    refine LoopP.mk [2,3,4,6,7,8,9,10,11] (fun i : Nat => [(2, txS us), (3, .bx [.i .i64 lvl, .i .i64 bits, .sl (c.map (.i .i64)), .sl (r.map (.i .i64))]), (4, .bx [.i .i64 p.qp, .b p.large, .b p.exact, .b p.confined]), (6, .nl), (7, .i .i64 0), (8, .b false), (9, .ow 3 ((ppL bits p us i).map partV)), (10, .i .i64 (frI bits p us i)), (11, .i .i64 i)]) (fun i => us.length - i) (fun i => i ≤ us.length ∧ ∀ j, j < i → ppAt lvl bits c r p us j) ?_ ?_
    · conv => whnf
      refine ⟨0, ⟨by omega, fun j hj => by omega⟩, ?_⟩
      first
        | rfl
        | (rw [hm]; rfl)
    · rintro i ⟨hi, ha⟩
      have hpl := ppL_len bits p us i
      have hplm : ((ppL bits p us i).map partV).length = i := by rw [List.length_map, hpl]
      by_cases hlt : i < us.length
      · have f1 := partIn_spec lvl bits c r p (ln us i) (hln i hlt)
        by_cases hk : piOk lvl bits c r p (ln us i)
        · rw [piV_yes hk] at f1
          have e1 : ppH bits p us i = rhH bits p (piT (ln us i)) := rfl
          have e2 : ppP bits p us i = piPart bits p (ln us i) := rfl
          generalize rhH bits p (piT (ln us i)) = H at f1 e1
          generalize piPart bits p (ln us i) = P at f1 e2
          have hfr : (i = 0 ∧ (ppH bits p us 0).frame = H.frame) ∨ (0 < i ∧ frI bits p us i = (ppH bits p us 0).frame) := by
            rcases Nat.eq_zero_or_pos i with h | h
            · subst h; exact .inl ⟨rfl, by rw [e1]⟩
            · exact .inr ⟨h, frI_s bits p us h⟩
          have hfs := frI_s bits p us (show 0 < i + 1 by omega)
          by_cases hat : H.tile = (i : Int) ∧ H.frame = (ppH bits p us 0).frame
          · have hAt : ppAt lvl bits c r p us i := ⟨hk, by rw [e1]; exact hat.1, by rw [e1]; exact hat.2⟩
            obtain ⟨t1, t2⟩ := hat
            generalize (ppH bits p us 0).frame = F at *
            generalize frI bits p us i = G at *
            repeat' (conv => whnf); first | refine Elt.ln (by omega) ?_ | refine EltN.ln (by omega) ?_ | refine CallP.rd (f1) rfl rfl rfl rfl ?_ | refine DCall.rd (f1) rfl rfl ?_ | refine Br.tt ?_ | refine Br.ff ?_ | refine Br.not ?_ | refine Br.dand (fun _ => ?_) (fun _ => ?_) | refine Br.dec (fun _ => ?_) (fun _ => ?_) | refine Br.beq (fun _ => ?_) (fun _ => ?_) | refine Br.bne (fun _ => ?_) (fun _ => ?_) | refine Br.seq (fun _ => ?_) (fun _ => ?_) | refine Elt.i (by omega) ?_ | refine EltN.i (by omega) ?_ | refine Nt.cast ?_ | refine Nt.mk _ rfl ?_ | refine EltN.mk _ rfl ?_ | refine Mx.mk _ rfl ?_ | refine Br.mk (fun _ => ?_) (fun _ => ?_) | refine EndP.mk ?_ trivial | refine EndP.mk ?_ ⟨.inr ⟨List.mem_cons_self .., ?_, rfl⟩, trivial⟩ | refine Ar.i64 (by omega) ?_ | refine Ar.u8 (by omega) ?_ | refine Quo.pos (by omega) ?_ | refine Rem.pos (by omega) ?_ | refine BsP.own ?_ | refine Ob.mk ⟨rfl, rfl⟩ ?_ | refine Ob.mk (flat_i _ _).1 ?_ | refine Ob.mk (flat_i _ _) ?_ | refine Ob.mk (flat_s _) ?_ | refine Ob.mk (by first | omega | (simp; first | done | fail) | (simp; omega)) ?_ | fail
            all_goals first
              | (exfalso; omega)
              | (conv => whnf
                 refine ⟨i + 1, ⟨by omega, pp_all ha hAt⟩, by omega, ?_⟩
                 rw [ppL_succ, hfs, e2, List.map_append]
                 first
                   | (rw [t2]; rfl)
                   | (rw [show G = F by omega]; rfl))
          · have hno : ¬ ppOk lvl bits c r p us := fun k => hat ⟨by have := (k.2 i hlt).2.1; rwa [e1] at this, by have := (k.2 i hlt).2.2; rwa [e1] at this⟩
            rw [ppR_no hno]
            generalize (ppH bits p us 0).frame = F at *
            generalize frI bits p us i = G at *
            repeat' (conv => whnf); first | refine Elt.ln (by omega) ?_ | refine EltN.ln (by omega) ?_ | refine CallP.rd (f1) rfl rfl rfl rfl ?_ | refine DCall.rd (f1) rfl rfl ?_ | refine Br.tt ?_ | refine Br.ff ?_ | refine Br.not ?_ | refine Br.dand (fun _ => ?_) (fun _ => ?_) | refine Br.dec (fun _ => ?_) (fun _ => ?_) | refine Br.beq (fun _ => ?_) (fun _ => ?_) | refine Br.bne (fun _ => ?_) (fun _ => ?_) | refine Br.seq (fun _ => ?_) (fun _ => ?_) | refine Elt.i (by omega) ?_ | refine EltN.i (by omega) ?_ | refine Nt.cast ?_ | refine Nt.mk _ rfl ?_ | refine EltN.mk _ rfl ?_ | refine Mx.mk _ rfl ?_ | refine Br.mk (fun _ => ?_) (fun _ => ?_) | refine EndP.mk ?_ trivial | refine EndP.mk ?_ ⟨.inr ⟨List.mem_cons_self .., ?_, rfl⟩, trivial⟩ | refine Ar.i64 (by omega) ?_ | refine Ar.u8 (by omega) ?_ | refine Quo.pos (by omega) ?_ | refine Rem.pos (by omega) ?_ | refine BsP.own ?_ | refine Ob.mk ⟨rfl, rfl⟩ ?_ | refine Ob.mk (flat_i _ _).1 ?_ | refine Ob.mk (flat_i _ _) ?_ | refine Ob.mk (flat_s _) ?_ | refine Ob.mk (by first | omega | (simp; first | done | fail) | (simp; omega)) ?_ | fail
            all_goals first
              | (exfalso; omega)
              | rfl
        · rw [piV_no hk] at f1
          have hno : ¬ ppOk lvl bits c r p us := fun k => hk (k.2 i hlt).1
          rw [ppR_no hno]
          repeat' (conv => whnf); first | refine Elt.ln (by omega) ?_ | refine EltN.ln (by omega) ?_ | refine CallP.rd (f1) rfl rfl rfl rfl ?_ | refine DCall.rd (f1) rfl rfl ?_ | refine Br.tt ?_ | refine Br.ff ?_ | refine Br.not ?_ | refine Br.dand (fun _ => ?_) (fun _ => ?_) | refine Br.dec (fun _ => ?_) (fun _ => ?_) | refine Br.beq (fun _ => ?_) (fun _ => ?_) | refine Br.bne (fun _ => ?_) (fun _ => ?_) | refine Br.seq (fun _ => ?_) (fun _ => ?_) | refine Elt.i (by omega) ?_ | refine EltN.i (by omega) ?_ | refine Nt.cast ?_ | refine Nt.mk _ rfl ?_ | refine EltN.mk _ rfl ?_ | refine Mx.mk _ rfl ?_ | refine Br.mk (fun _ => ?_) (fun _ => ?_) | refine EndP.mk ?_ trivial | refine EndP.mk ?_ ⟨.inr ⟨List.mem_cons_self .., ?_, rfl⟩, trivial⟩ | refine Ar.i64 (by omega) ?_ | refine Ar.u8 (by omega) ?_ | refine Quo.pos (by omega) ?_ | refine Rem.pos (by omega) ?_ | refine BsP.own ?_ | refine Ob.mk ⟨rfl, rfl⟩ ?_ | refine Ob.mk (flat_i _ _).1 ?_ | refine Ob.mk (flat_i _ _) ?_ | refine Ob.mk (flat_s _) ?_ | refine Ob.mk (by first | omega | (simp; first | done | fail) | (simp; omega)) ?_ | fail
          all_goals first
            | (exfalso; omega)
            | rfl
      · obtain rfl : i = us.length := by omega
        have hsq : seqOk lvl bits c r = true := Classical.byContradiction fun hn => by
          have := tilesOf_no hn
          omega
        have hok : ppOk lvl bits c r p us := ⟨⟨hsq, (ha 0 hp2).1.2.2.1.2.2, hp1⟩, ha⟩
        rw [ppR_yes hok]
        have hfs := frI_s bits p us hp2
        repeat' (conv => whnf); first | refine Br.tt ?_ | refine Br.ff ?_ | refine Br.not ?_ | refine Br.dand (fun _ => ?_) (fun _ => ?_) | refine Br.dec (fun _ => ?_) (fun _ => ?_) | refine Br.beq (fun _ => ?_) (fun _ => ?_) | refine Br.bne (fun _ => ?_) (fun _ => ?_) | refine Br.seq (fun _ => ?_) (fun _ => ?_) | refine Elt.i (by omega) ?_ | refine EltN.i (by omega) ?_ | refine Nt.cast ?_ | refine Nt.mk _ rfl ?_ | refine EltN.mk _ rfl ?_ | refine Mx.mk _ rfl ?_ | refine Br.mk (fun _ => ?_) (fun _ => ?_) | refine EndP.mk ?_ trivial | refine EndP.mk ?_ ⟨.inr ⟨List.mem_cons_self .., ?_, rfl⟩, trivial⟩ | refine Ar.i64 (by omega) ?_ | refine Ar.u8 (by omega) ?_ | refine Quo.pos (by omega) ?_ | refine Rem.pos (by omega) ?_ | refine BsP.own ?_ | refine Ob.mk ⟨rfl, rfl⟩ ?_ | refine Ob.mk (flat_i _ _).1 ?_ | refine Ob.mk (flat_i _ _) ?_ | refine Ob.mk (flat_s _) ?_ | refine Ob.mk (by first | omega | (simp; first | done | fail) | (simp; omega)) ?_ | fail
        all_goals first
          | (exfalso; omega)
          | (rw [hfs]; rfl)
  · have hno : ¬ ppOk lvl bits c r p us := fun k => hpre ⟨k.1.2.2, by
      have h1 := k.1.2.2
      have h2 := k.1.1
      have h3 := (seqOk_sides h2).1
      have a1 := h3.1.1
      have a2 := h3.2.1
      have : 1 * 1 ≤ c.length * r.length := Nat.mul_le_mul a1.1 a2.1
      rw [tilesOf, if_pos h2, ← Int.natCast_mul] at h1
      omega⟩
    rw [ppR_no hno]
    repeat' (conv => whnf); first | refine CallP.rd (tilesOf_spec lvl bits c r) rfl rfl rfl rfl ?_ | refine DCall.rd (tilesOf_spec lvl bits c r) rfl rfl ?_ | refine Br.tt ?_ | refine Br.ff ?_ | refine Br.not ?_ | refine Br.dand (fun _ => ?_) (fun _ => ?_) | refine Br.dec (fun _ => ?_) (fun _ => ?_) | refine Br.beq (fun _ => ?_) (fun _ => ?_) | refine Br.bne (fun _ => ?_) (fun _ => ?_) | refine Br.seq (fun _ => ?_) (fun _ => ?_) | refine Elt.i (by omega) ?_ | refine EltN.i (by omega) ?_ | refine Nt.cast ?_ | refine Nt.mk _ rfl ?_ | refine EltN.mk _ rfl ?_ | refine Mx.mk _ rfl ?_ | refine Br.mk (fun _ => ?_) (fun _ => ?_) | refine EndP.mk ?_ trivial | refine EndP.mk ?_ ⟨.inr ⟨List.mem_cons_self .., ?_, rfl⟩, trivial⟩ | refine Ar.i64 (by omega) ?_ | refine Ar.u8 (by omega) ?_ | refine Quo.pos (by omega) ?_ | refine Rem.pos (by omega) ?_ | refine BsP.own ?_ | refine Ob.mk ⟨rfl, rfl⟩ ?_ | refine Ob.mk (flat_i _ _).1 ?_ | refine Ob.mk (flat_i _ _) ?_ | refine Ob.mk (flat_s _) ?_ | refine Ob.mk (by first | omega | (simp; first | done | fail) | (simp; omega)) ?_ | fail
    all_goals first
      | (exfalso; omega)
      | rfl

set_option maxHeartbeats 6000000 in
theorem pictureParts_impl (lvl bits : Int) (c r : List Int) (p : Par) (us : List (List UInt8)) (hu : ∀ x ∈ us, x.length ≤ 2000000) (hn : us.length ≤ 1048576) :
    Vow Try.prog 56 [seqV lvl bits c r, parV p, txS us] (ppV (ppR lvl bits c r p us)) [] := by
  have ht := tilesOf_fit (lvl := lvl) (bits := bits) (c := c) (r := r)
  have hm : (us.map V.s).length = us.length := by simp
  have hln : ∀ j, j < us.length → (ln us j).length ≤ 2000000 := fun j hj => hu _ (by
    unfold ln; rw [List.getD_eq_getElem?_getD, List.getElem?_eq_getElem hj]; exact List.getElem_mem _)
  have g1 := seqOk_impl lvl bits c r
  have g2 := parOk_impl p
  refine vow_of_ev (fn := Try.f56) [] [(0, 0), (16, 17), (0, 0), (17, 31), (32, 33), (0, 0), (0, 0), (37, 40), (40, 48), (48, 49), (50, 52), (52, 65), (66, 67), (67, 71), (71, 72), (72, 74)] tt_ok Try.func56 (by decide) rfl (Nat.le_of_ble_eq_true rfl) rfl rfl rfl ?_
  by_cases hpre : seqOk lvl bits c r = true ∧ parOk p ∧ (us.length : Int) = tilesOf lvl bits c r
  · obtain ⟨hp0, hp1, hp3⟩ := hpre
    have hp2 : 0 < us.length := by
      have h3 := (seqOk_sides hp0).1
      have a1 := h3.1.1
      have a2 := h3.2.1
      have : 1 * 1 ≤ c.length * r.length := Nat.mul_le_mul a1.1 a2.1
      rw [tilesOf, if_pos hp0, ← Int.natCast_mul] at hp3
      omega
    rw [hp0] at g1
    rw [decide_eq_true hp1] at g2
    repeat' (conv => whnf); first | refine CallP.rd (g1) rfl rfl rfl rfl ?_ | refine DCall.rd (g1) rfl rfl ?_ | refine CallP.rd (g2) rfl rfl rfl rfl ?_ | refine DCall.rd (g2) rfl rfl ?_ | refine CallP.rd (tilesOf_impl lvl bits c r) rfl rfl rfl rfl ?_ | refine DCall.rd (tilesOf_impl lvl bits c r) rfl rfl ?_ | refine Br.tt ?_ | refine Br.ff ?_ | refine Br.not ?_ | refine Br.dand (fun _ => ?_) (fun _ => ?_) | refine Br.dec (fun _ => ?_) (fun _ => ?_) | refine Br.beq (fun _ => ?_) (fun _ => ?_) | refine Br.bne (fun _ => ?_) (fun _ => ?_) | refine Br.seq (fun _ => ?_) (fun _ => ?_) | refine Elt.i (by omega) ?_ | refine EltN.i (by omega) ?_ | refine Nt.cast ?_ | refine Nt.mk _ rfl ?_ | refine EltN.mk _ rfl ?_ | refine Mx.mk _ rfl ?_ | refine Br.mk (fun _ => ?_) (fun _ => ?_) | refine EndP.mk ?_ trivial | refine EndP.mk ?_ ⟨.inr ⟨List.mem_cons_self .., ?_, rfl⟩, trivial⟩ | refine Ar.i64 (by omega) ?_ | refine Ar.u8 (by omega) ?_ | refine Quo.pos (by omega) ?_ | refine Rem.pos (by omega) ?_ | refine BsP.own ?_ | refine Ob.mk ⟨rfl, rfl⟩ ?_ | refine Ob.mk (flat_i _ _).1 ?_ | refine Ob.mk (flat_i _ _) ?_ | refine Ob.mk (flat_s _) ?_ | refine Ob.mk (by first | omega | (simp; first | done | fail) | (simp; omega)) ?_ | fail
    all_goals first
      | (exfalso; omega)
      | skip
    conv => whnf
    refine LoopP.mk [3,4,6,7,8,9,10,33,34,35] (fun i : Nat => [(3, .bx [.i .i64 lvl, .i .i64 bits, .sl (c.map (.i .i64)), .sl (r.map (.i .i64))]), (4, .bx [.i .i64 p.qp, .b p.large, .b p.exact, .b p.confined]), (6, .nl), (7, .i .i64 0), (8, .b false), (9, .ow 3 ((ppL bits p us i).map partV)), (10, .i .i64 (frI bits p us i)), (33, txS us), (34, .i .i64 us.length), (35, .i .i64 i)]) (fun i => us.length - i) (fun i => i ≤ us.length ∧ ∀ j, j < i → ppAt lvl bits c r p us j) ?_ ?_
    · conv => whnf
      refine ⟨0, ⟨by omega, fun j hj => by omega⟩, ?_⟩
      first
        | rfl
        | (rw [hm]; rfl)
    · rintro i ⟨hi, ha⟩
      have hpl := ppL_len bits p us i
      have hplm : ((ppL bits p us i).map partV).length = i := by rw [List.length_map, hpl]
      by_cases hlt : i < us.length
      · have f1 := partIn_impl lvl bits c r p (ln us i) (hln i hlt)
        by_cases hk : piOk lvl bits c r p (ln us i)
        · rw [piV_yes hk] at f1
          have e1 : ppH bits p us i = rhH bits p (piT (ln us i)) := rfl
          have e2 : ppP bits p us i = piPart bits p (ln us i) := rfl
          generalize rhH bits p (piT (ln us i)) = H at f1 e1
          generalize piPart bits p (ln us i) = P at f1 e2
          have hfr : (i = 0 ∧ (ppH bits p us 0).frame = H.frame) ∨ (0 < i ∧ frI bits p us i = (ppH bits p us 0).frame) := by
            rcases Nat.eq_zero_or_pos i with h | h
            · subst h; exact .inl ⟨rfl, by rw [e1]⟩
            · exact .inr ⟨h, frI_s bits p us h⟩
          have hfs := frI_s bits p us (show 0 < i + 1 by omega)
          by_cases hat : H.tile = (i : Int) ∧ H.frame = (ppH bits p us 0).frame
          · have hAt : ppAt lvl bits c r p us i := ⟨hk, by rw [e1]; exact hat.1, by rw [e1]; exact hat.2⟩
            obtain ⟨t1, t2⟩ := hat
            generalize (ppH bits p us 0).frame = F at *
            generalize frI bits p us i = G at *
            repeat' (conv => whnf); first | refine Elt.ln (by omega) ?_ | refine EltN.ln (by omega) ?_ | refine CallP.rd (f1) rfl rfl rfl rfl ?_ | refine DCall.rd (f1) rfl rfl ?_ | refine Br.tt ?_ | refine Br.ff ?_ | refine Br.not ?_ | refine Br.dand (fun _ => ?_) (fun _ => ?_) | refine Br.dec (fun _ => ?_) (fun _ => ?_) | refine Br.beq (fun _ => ?_) (fun _ => ?_) | refine Br.bne (fun _ => ?_) (fun _ => ?_) | refine Br.seq (fun _ => ?_) (fun _ => ?_) | refine Elt.i (by omega) ?_ | refine EltN.i (by omega) ?_ | refine Nt.cast ?_ | refine Nt.mk _ rfl ?_ | refine EltN.mk _ rfl ?_ | refine Mx.mk _ rfl ?_ | refine Br.mk (fun _ => ?_) (fun _ => ?_) | refine EndP.mk ?_ trivial | refine EndP.mk ?_ ⟨.inr ⟨List.mem_cons_self .., ?_, rfl⟩, trivial⟩ | refine Ar.i64 (by omega) ?_ | refine Ar.u8 (by omega) ?_ | refine Quo.pos (by omega) ?_ | refine Rem.pos (by omega) ?_ | refine BsP.own ?_ | refine Ob.mk ⟨rfl, rfl⟩ ?_ | refine Ob.mk (flat_i _ _).1 ?_ | refine Ob.mk (flat_i _ _) ?_ | refine Ob.mk (flat_s _) ?_ | refine Ob.mk (by first | omega | (simp; first | done | fail) | (simp; omega)) ?_ | fail
            all_goals first
              | (exfalso; omega)
              | (conv => whnf
                 refine ⟨i + 1, ⟨by omega, pp_all ha hAt⟩, by omega, ?_⟩
                 rw [ppL_succ, hfs, e2, List.map_append]
                 first
                   | (rw [t2]; rfl)
                   | (rw [show G = F by omega]; rfl))
          · have hno : ¬ ppOk lvl bits c r p us := fun k => hat ⟨by have := (k.2 i hlt).2.1; rwa [e1] at this, by have := (k.2 i hlt).2.2; rwa [e1] at this⟩
            rw [ppR_no hno]
            generalize (ppH bits p us 0).frame = F at *
            generalize frI bits p us i = G at *
            repeat' (conv => whnf); first | refine Elt.ln (by omega) ?_ | refine EltN.ln (by omega) ?_ | refine CallP.rd (f1) rfl rfl rfl rfl ?_ | refine DCall.rd (f1) rfl rfl ?_ | refine Br.tt ?_ | refine Br.ff ?_ | refine Br.not ?_ | refine Br.dand (fun _ => ?_) (fun _ => ?_) | refine Br.dec (fun _ => ?_) (fun _ => ?_) | refine Br.beq (fun _ => ?_) (fun _ => ?_) | refine Br.bne (fun _ => ?_) (fun _ => ?_) | refine Br.seq (fun _ => ?_) (fun _ => ?_) | refine Elt.i (by omega) ?_ | refine EltN.i (by omega) ?_ | refine Nt.cast ?_ | refine Nt.mk _ rfl ?_ | refine EltN.mk _ rfl ?_ | refine Mx.mk _ rfl ?_ | refine Br.mk (fun _ => ?_) (fun _ => ?_) | refine EndP.mk ?_ trivial | refine EndP.mk ?_ ⟨.inr ⟨List.mem_cons_self .., ?_, rfl⟩, trivial⟩ | refine Ar.i64 (by omega) ?_ | refine Ar.u8 (by omega) ?_ | refine Quo.pos (by omega) ?_ | refine Rem.pos (by omega) ?_ | refine BsP.own ?_ | refine Ob.mk ⟨rfl, rfl⟩ ?_ | refine Ob.mk (flat_i _ _).1 ?_ | refine Ob.mk (flat_i _ _) ?_ | refine Ob.mk (flat_s _) ?_ | refine Ob.mk (by first | omega | (simp; first | done | fail) | (simp; omega)) ?_ | fail
            all_goals first
              | (exfalso; omega)
              | rfl
        · rw [piV_no hk] at f1
          have hno : ¬ ppOk lvl bits c r p us := fun k => hk (k.2 i hlt).1
          rw [ppR_no hno]
          repeat' (conv => whnf); first | refine Elt.ln (by omega) ?_ | refine EltN.ln (by omega) ?_ | refine CallP.rd (f1) rfl rfl rfl rfl ?_ | refine DCall.rd (f1) rfl rfl ?_ | refine Br.tt ?_ | refine Br.ff ?_ | refine Br.not ?_ | refine Br.dand (fun _ => ?_) (fun _ => ?_) | refine Br.dec (fun _ => ?_) (fun _ => ?_) | refine Br.beq (fun _ => ?_) (fun _ => ?_) | refine Br.bne (fun _ => ?_) (fun _ => ?_) | refine Br.seq (fun _ => ?_) (fun _ => ?_) | refine Elt.i (by omega) ?_ | refine EltN.i (by omega) ?_ | refine Nt.cast ?_ | refine Nt.mk _ rfl ?_ | refine EltN.mk _ rfl ?_ | refine Mx.mk _ rfl ?_ | refine Br.mk (fun _ => ?_) (fun _ => ?_) | refine EndP.mk ?_ trivial | refine EndP.mk ?_ ⟨.inr ⟨List.mem_cons_self .., ?_, rfl⟩, trivial⟩ | refine Ar.i64 (by omega) ?_ | refine Ar.u8 (by omega) ?_ | refine Quo.pos (by omega) ?_ | refine Rem.pos (by omega) ?_ | refine BsP.own ?_ | refine Ob.mk ⟨rfl, rfl⟩ ?_ | refine Ob.mk (flat_i _ _).1 ?_ | refine Ob.mk (flat_i _ _) ?_ | refine Ob.mk (flat_s _) ?_ | refine Ob.mk (by first | omega | (simp; first | done | fail) | (simp; omega)) ?_ | fail
          all_goals first
            | (exfalso; omega)
            | rfl
      · obtain rfl : i = us.length := by omega
        have hok : ppOk lvl bits c r p us := ⟨⟨hp0, hp1, hp3⟩, ha⟩
        rw [ppR_yes hok]
        have hfs := frI_s bits p us hp2
        repeat' (conv => whnf); first | refine Br.tt ?_ | refine Br.ff ?_ | refine Br.not ?_ | refine Br.dand (fun _ => ?_) (fun _ => ?_) | refine Br.dec (fun _ => ?_) (fun _ => ?_) | refine Br.beq (fun _ => ?_) (fun _ => ?_) | refine Br.bne (fun _ => ?_) (fun _ => ?_) | refine Br.seq (fun _ => ?_) (fun _ => ?_) | refine Elt.i (by omega) ?_ | refine EltN.i (by omega) ?_ | refine Nt.cast ?_ | refine Nt.mk _ rfl ?_ | refine EltN.mk _ rfl ?_ | refine Mx.mk _ rfl ?_ | refine Br.mk (fun _ => ?_) (fun _ => ?_) | refine EndP.mk ?_ trivial | refine EndP.mk ?_ ⟨.inr ⟨List.mem_cons_self .., ?_, rfl⟩, trivial⟩ | refine Ar.i64 (by omega) ?_ | refine Ar.u8 (by omega) ?_ | refine Quo.pos (by omega) ?_ | refine Rem.pos (by omega) ?_ | refine BsP.own ?_ | refine Ob.mk ⟨rfl, rfl⟩ ?_ | refine Ob.mk (flat_i _ _).1 ?_ | refine Ob.mk (flat_i _ _) ?_ | refine Ob.mk (flat_s _) ?_ | refine Ob.mk (by first | omega | (simp; first | done | fail) | (simp; omega)) ?_ | fail
        all_goals first
          | (exfalso; omega)
          | (rw [hfs]; rfl)
  · have hno : ¬ ppOk lvl bits c r p us := fun k => hpre k.1
    rw [ppR_no hno]
    by_cases q1 : seqOk lvl bits c r = true
    · rw [q1] at g1
      by_cases q2 : parOk p
      · rw [decide_eq_true q2] at g2
        have q3 : ¬ (us.length : Int) = tilesOf lvl bits c r := fun k => hpre ⟨q1, q2, k⟩
        repeat' (conv => whnf); first | refine CallP.rd (g1) rfl rfl rfl rfl ?_ | refine DCall.rd (g1) rfl rfl ?_ | refine CallP.rd (g2) rfl rfl rfl rfl ?_ | refine DCall.rd (g2) rfl rfl ?_ | refine CallP.rd (tilesOf_impl lvl bits c r) rfl rfl rfl rfl ?_ | refine DCall.rd (tilesOf_impl lvl bits c r) rfl rfl ?_ | refine Br.tt ?_ | refine Br.ff ?_ | refine Br.not ?_ | refine Br.dand (fun _ => ?_) (fun _ => ?_) | refine Br.dec (fun _ => ?_) (fun _ => ?_) | refine Br.beq (fun _ => ?_) (fun _ => ?_) | refine Br.bne (fun _ => ?_) (fun _ => ?_) | refine Br.seq (fun _ => ?_) (fun _ => ?_) | refine Elt.i (by omega) ?_ | refine EltN.i (by omega) ?_ | refine Nt.cast ?_ | refine Nt.mk _ rfl ?_ | refine EltN.mk _ rfl ?_ | refine Mx.mk _ rfl ?_ | refine Br.mk (fun _ => ?_) (fun _ => ?_) | refine EndP.mk ?_ trivial | refine EndP.mk ?_ ⟨.inr ⟨List.mem_cons_self .., ?_, rfl⟩, trivial⟩ | refine Ar.i64 (by omega) ?_ | refine Ar.u8 (by omega) ?_ | refine Quo.pos (by omega) ?_ | refine Rem.pos (by omega) ?_ | refine BsP.own ?_ | refine Ob.mk ⟨rfl, rfl⟩ ?_ | refine Ob.mk (flat_i _ _).1 ?_ | refine Ob.mk (flat_i _ _) ?_ | refine Ob.mk (flat_s _) ?_ | refine Ob.mk (by first | omega | (simp; first | done | fail) | (simp; omega)) ?_ | fail
        all_goals first
          | (exfalso; omega)
          | rfl
      · rw [decide_eq_false q2] at g2
        repeat' (conv => whnf); first | refine CallP.rd (g1) rfl rfl rfl rfl ?_ | refine DCall.rd (g1) rfl rfl ?_ | refine CallP.rd (g2) rfl rfl rfl rfl ?_ | refine DCall.rd (g2) rfl rfl ?_ | refine Br.tt ?_ | refine Br.ff ?_ | refine Br.not ?_ | refine Br.dand (fun _ => ?_) (fun _ => ?_) | refine Br.dec (fun _ => ?_) (fun _ => ?_) | refine Br.beq (fun _ => ?_) (fun _ => ?_) | refine Br.bne (fun _ => ?_) (fun _ => ?_) | refine Br.seq (fun _ => ?_) (fun _ => ?_) | refine Elt.i (by omega) ?_ | refine EltN.i (by omega) ?_ | refine Nt.cast ?_ | refine Nt.mk _ rfl ?_ | refine EltN.mk _ rfl ?_ | refine Mx.mk _ rfl ?_ | refine Br.mk (fun _ => ?_) (fun _ => ?_) | refine EndP.mk ?_ trivial | refine EndP.mk ?_ ⟨.inr ⟨List.mem_cons_self .., ?_, rfl⟩, trivial⟩ | refine Ar.i64 (by omega) ?_ | refine Ar.u8 (by omega) ?_ | refine Quo.pos (by omega) ?_ | refine Rem.pos (by omega) ?_ | refine BsP.own ?_ | refine Ob.mk ⟨rfl, rfl⟩ ?_ | refine Ob.mk (flat_i _ _).1 ?_ | refine Ob.mk (flat_i _ _) ?_ | refine Ob.mk (flat_s _) ?_ | refine Ob.mk (by first | omega | (simp; first | done | fail) | (simp; omega)) ?_ | fail
        all_goals rfl
    · rw [show seqOk lvl bits c r = false by simpa using q1] at g1
      repeat' (conv => whnf); first | refine CallP.rd (g1) rfl rfl rfl rfl ?_ | refine DCall.rd (g1) rfl rfl ?_ | refine Br.tt ?_ | refine Br.ff ?_ | refine Br.not ?_ | refine Br.dand (fun _ => ?_) (fun _ => ?_) | refine Br.dec (fun _ => ?_) (fun _ => ?_) | refine Br.beq (fun _ => ?_) (fun _ => ?_) | refine Br.bne (fun _ => ?_) (fun _ => ?_) | refine Br.seq (fun _ => ?_) (fun _ => ?_) | refine Elt.i (by omega) ?_ | refine EltN.i (by omega) ?_ | refine Nt.cast ?_ | refine Nt.mk _ rfl ?_ | refine EltN.mk _ rfl ?_ | refine Mx.mk _ rfl ?_ | refine Br.mk (fun _ => ?_) (fun _ => ?_) | refine EndP.mk ?_ trivial | refine EndP.mk ?_ ⟨.inr ⟨List.mem_cons_self .., ?_, rfl⟩, trivial⟩ | refine Ar.i64 (by omega) ?_ | refine Ar.u8 (by omega) ?_ | refine Quo.pos (by omega) ?_ | refine Rem.pos (by omega) ?_ | refine BsP.own ?_ | refine Ob.mk ⟨rfl, rfl⟩ ?_ | refine Ob.mk (flat_i _ _).1 ?_ | refine Ob.mk (flat_i _ _) ?_ | refine Ob.mk (flat_s _) ?_ | refine Ob.mk (by first | omega | (simp; first | done | fail) | (simp; omega)) ?_ | fail
      all_goals rfl

end Go.Proofs.Ytfcjjkfjdecakaa
