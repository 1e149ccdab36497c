/- Parts out of units: both sides, and the law. No condition. -/
import Derived.Test.YtfcjjkfjdecakaaTy
import Derived.Test.YtfcjjkfjdecakaaTu
namespace Go.Proofs.Ytfcjjkfjdecakaa
open Go Go.Vx
set_option linter.unusedVariables false
set_option linter.unusedSimpArgs false
set_option maxHeartbeats 600000
set_option maxRecDepth 100000


def piT (u : List UInt8) : List UInt8 := brS (u.drop 1)
def piOk (lvl bits : Int) (c r : List Int) (p : Par) (u : List UInt8) : Prop := uiOk u ∧ (((rb u 0).toNat : Int) = 5 ∨ ((rb u 0).toNat : Int) = 1) ∧ rhOk lvl bits c r p (piT u)
instance (lvl bits : Int) (c r : List Int) (p : Par) (u : List UInt8) : Decidable (piOk lvl bits c r p u) := by unfold piOk; infer_instance
def piPart (bits : Int) (p : Par) (u : List UInt8) : Part :=
  ⟨((rb u 0).toNat : Int) == 5, (rhH bits p (piT u)).qp, ((piT u).drop (rhC bits (piT u))).take ((piT u).length - rhC bits (piT u))⟩
def partZ : Part := ⟨false, 0, []⟩
def piV (lvl bits : Int) (c r : List Int) (p : Par) (u : List UInt8) : V :=
  if piOk lvl bits c r p u then .tp [headV (rhH bits p (piT u)), partV (piPart bits p u), .b true] else .tp [headV headZ, partV partZ, .b false]
theorem piV_no {lvl bits : Int} {c r : List Int} {p : Par} {u : List UInt8} (h : ¬ piOk lvl bits c r p u) : piV lvl bits c r p u = .tp [headV headZ, partV partZ, .b false] := by rw [piV, if_neg h]
theorem piV_yes {lvl bits : Int} {c r : List Int} {p : Par} {u : List UInt8} (h : piOk lvl bits c r p u) : piV lvl bits c r p u = .tp [headV (rhH bits p (piT u)), partV (piPart bits p u), .b true] := by rw [piV, if_pos h]
theorem _root_.Go.Vx.Cut.rs {n : Nat} (a : Nat) {x : Int} {k : IntKind} {κ : Nat → Nat → Prop} (h : x = (a : Int) ∧ a ≤ n) (g : κ a n) : Cut n (some (.i k x)) none κ := by
  obtain ⟨rfl, h⟩ := h
  refine .mk a n ?_ g
  simp only [boundsOf]
  rw [if_pos (by omega)]
  simp

set_option maxHeartbeats 6000000 in
theorem partIn_spec (lvl bits : Int) (c r : List Int) (p : Par) (u : List UInt8) (hl : u.length ≤ 2000000) :
    Vow Try.prog 21 [seqV lvl bits c r, parV p, .s u] (piV lvl bits c r p u) [] := by
  have f1 := unitIn_spec u hl
  by_cases h1 : uiOk u
  · rw [uiV_yes h1] at f1
    have hlen : (piT u).length ≤ 2000000 := by
      have := h1.2.2.2
      unfold piT brS
      rw [blS_len]; omega
    by_cases h2 : ((rb u 0).toNat : Int) = 5 ∨ ((rb u 0).toNat : Int) = 1
    · have f2 : Vow Try.prog 80 [seqV lvl bits c r, parV p, .s (brS (u.drop 1))] (rhV lvl bits c r p (piT u)) [] := readHead_spec lvl bits c r p (piT u) hlen
      by_cases h3 : rhOk lvl bits c r p (piT u)
      · rw [rhV_yes h3] at f2
        have hC : rhC bits (piT u) ≤ (piT u).length := h3.2.2.2.1.2.1
        rw [piV_yes ⟨h1, h2, h3⟩]
        refine vow_of_ev (fn := Try.f21) [] [(0, 0), (15, 21), (21, 30), (31, 33), (33, 41), (41, 42), (43, 45), (45, 54)] tt_ok Try.func21 (by decide) rfl (Nat.le_of_ble_eq_true rfl) rfl rfl rfl ?_
        repeat' (conv => whnf); first | refine CallP.rd (f1) rfl rfl rfl rfl ?_ | refine DCall.rd (f1) rfl rfl ?_ | refine CallP.rd (f2) rfl rfl rfl rfl ?_ | refine DCall.rd (f2) rfl rfl ?_ | refine Cut.rs (rhC bits (piT u)) ⟨rfl, hC⟩ ?_ | refine Br.tt ?_ | refine Br.ff ?_ | refine Br.not ?_ | refine Br.dand (fun _ => ?_) (fun _ => ?_) | refine Br.dec (fun _ => ?_) (fun _ => ?_) | refine Br.beq (fun _ => ?_) (fun _ => ?_) | refine Br.bne (fun _ => ?_) (fun _ => ?_) | refine Br.seq (fun _ => ?_) (fun _ => ?_) | refine Elt.i (by omega) ?_ | refine EltN.i (by omega) ?_ | refine Nt.cast ?_ | refine Nt.mk _ rfl ?_ | refine EltN.mk _ rfl ?_ | refine Mx.mk _ rfl ?_ | refine Br.mk (fun _ => ?_) (fun _ => ?_) | refine EndP.mk ?_ trivial | refine EndP.mk ?_ ⟨.inr ⟨List.mem_cons_self .., ?_, rfl⟩, trivial⟩ | refine Ar.i64 (by omega) ?_ | refine Ar.u8 (by omega) ?_ | refine Quo.pos (by omega) ?_ | refine Rem.pos (by omega) ?_ | refine BsP.own ?_ | refine Ob.mk ⟨rfl, rfl⟩ ?_ | refine Ob.mk (flat_i _ _).1 ?_ | refine Ob.mk (flat_i _ _) ?_ | refine Ob.mk (flat_s _) ?_ | refine Ob.mk (by first | omega | (simp; first | done | fail) | (simp; omega)) ?_ | fail
        all_goals first
          | (exfalso; omega)
          | rfl
      · rw [rhV_no h3] at f2
        rw [piV_no (fun k => h3 k.2.2)]
        refine vow_of_ev (fn := Try.f21) [] [(0, 0), (15, 21), (21, 30), (31, 33), (33, 41), (41, 42), (43, 45), (45, 54)] tt_ok Try.func21 (by decide) rfl (Nat.le_of_ble_eq_true rfl) rfl rfl rfl ?_
        repeat' (conv => whnf); first | refine CallP.rd (f1) rfl rfl rfl rfl ?_ | refine DCall.rd (f1) rfl rfl ?_ | refine CallP.rd (f2) rfl rfl rfl rfl ?_ | refine DCall.rd (f2) rfl rfl ?_ | refine Br.tt ?_ | refine Br.ff ?_ | refine Br.not ?_ | refine Br.dand (fun _ => ?_) (fun _ => ?_) | refine Br.dec (fun _ => ?_) (fun _ => ?_) | refine Br.beq (fun _ => ?_) (fun _ => ?_) | refine Br.bne (fun _ => ?_) (fun _ => ?_) | refine Br.seq (fun _ => ?_) (fun _ => ?_) | refine Elt.i (by omega) ?_ | refine EltN.i (by omega) ?_ | refine Nt.cast ?_ | refine Nt.mk _ rfl ?_ | refine EltN.mk _ rfl ?_ | refine Mx.mk _ rfl ?_ | refine Br.mk (fun _ => ?_) (fun _ => ?_) | refine EndP.mk ?_ trivial | refine EndP.mk ?_ ⟨.inr ⟨List.mem_cons_self .., ?_, rfl⟩, trivial⟩ | refine Ar.i64 (by omega) ?_ | refine Ar.u8 (by omega) ?_ | refine Quo.pos (by omega) ?_ | refine Rem.pos (by omega) ?_ | refine BsP.own ?_ | refine Ob.mk ⟨rfl, rfl⟩ ?_ | refine Ob.mk (flat_i _ _).1 ?_ | refine Ob.mk (flat_i _ _) ?_ | refine Ob.mk (flat_s _) ?_ | refine Ob.mk (by first | omega | (simp; first | done | fail) | (simp; omega)) ?_ | fail
        all_goals first
          | (exfalso; omega)
          | rfl
    · rw [piV_no (fun k => h2 k.2.1)]
      refine vow_of_ev (fn := Try.f21) [] [(0, 0), (15, 21), (21, 30), (31, 33), (33, 41), (41, 42), (43, 45), (45, 54)] tt_ok Try.func21 (by decide) rfl (Nat.le_of_ble_eq_true rfl) rfl rfl rfl ?_
      repeat' (conv => whnf); first | refine CallP.rd (f1) rfl rfl rfl rfl ?_ | refine DCall.rd (f1) rfl rfl ?_ | refine Br.tt ?_ | refine Br.ff ?_ | refine Br.not ?_ | refine Br.dand (fun _ => ?_) (fun _ => ?_) | refine Br.dec (fun _ => ?_) (fun _ => ?_) | refine Br.beq (fun _ => ?_) (fun _ => ?_) | refine Br.bne (fun _ => ?_) (fun _ => ?_) | refine Br.seq (fun _ => ?_) (fun _ => ?_) | refine Elt.i (by omega) ?_ | refine EltN.i (by omega) ?_ | refine Nt.cast ?_ | refine Nt.mk _ rfl ?_ | refine EltN.mk _ rfl ?_ | refine Mx.mk _ rfl ?_ | refine Br.mk (fun _ => ?_) (fun _ => ?_) | refine EndP.mk ?_ trivial | refine EndP.mk ?_ ⟨.inr ⟨List.mem_cons_self .., ?_, rfl⟩, trivial⟩ | refine Ar.i64 (by omega) ?_ | refine Ar.u8 (by omega) ?_ | refine Quo.pos (by omega) ?_ | refine Rem.pos (by omega) ?_ | refine BsP.own ?_ | refine Ob.mk ⟨rfl, rfl⟩ ?_ | refine Ob.mk (flat_i _ _).1 ?_ | refine Ob.mk (flat_i _ _) ?_ | refine Ob.mk (flat_s _) ?_ | refine Ob.mk (by first | omega | (simp; first | done | fail) | (simp; omega)) ?_ | fail
      all_goals first
        | (exfalso; omega)
        | rfl
  · rw [uiV_no h1] at f1
    rw [piV_no (fun k => h1 k.1)]
    refine vow_of_ev (fn := Try.f21) [] [(0, 0), (15, 21), (21, 30), (31, 33), (33, 41), (41, 42), (43, 45), (45, 54)] tt_ok Try.func21 (by decide) rfl (Nat.le_of_ble_eq_true rfl) rfl rfl rfl ?_
    repeat' (conv => whnf); first | refine CallP.rd (f1) rfl rfl rfl rfl ?_ | refine DCall.rd (f1) rfl rfl ?_ | refine Br.tt ?_ | refine Br.ff ?_ | refine Br.not ?_ | refine Br.dand (fun _ => ?_) (fun _ => ?_) | refine Br.dec (fun _ => ?_) (fun _ => ?_) | refine Br.beq (fun _ => ?_) (fun _ => ?_) | refine Br.bne (fun _ => ?_) (fun _ => ?_) | refine Br.seq (fun _ => ?_) (fun _ => ?_) | refine Elt.i (by omega) ?_ | refine EltN.i (by omega) ?_ | refine Nt.cast ?_ | refine Nt.mk _ rfl ?_ | refine EltN.mk _ rfl ?_ | refine Mx.mk _ rfl ?_ | refine Br.mk (fun _ => ?_) (fun _ => ?_) | refine EndP.mk ?_ trivial | refine EndP.mk ?_ ⟨.inr ⟨List.mem_cons_self .., ?_, rfl⟩, trivial⟩ | refine Ar.i64 (by omega) ?_ | refine Ar.u8 (by omega) ?_ | refine Quo.pos (by omega) ?_ | refine Rem.pos (by omega) ?_ | refine BsP.own ?_ | refine Ob.mk ⟨rfl, rfl⟩ ?_ | refine Ob.mk (flat_i _ _).1 ?_ | refine Ob.mk (flat_i _ _) ?_ | refine Ob.mk (flat_s _) ?_ | refine Ob.mk (by first | omega | (simp; first | done | fail) | (simp; omega)) ?_ | fail
    all_goals first
      | (exfalso; omega)
      | rfl

set_option maxHeartbeats 6000000 in
theorem partIn_impl (lvl bits : Int) (c r : List Int) (p : Par) (u : List UInt8) (hl : u.length ≤ 2000000) :
    Vow Try.prog 22 [seqV lvl bits c r, parV p, .s u] (piV lvl bits c r p u) [] := by
  have f1 := unitIn_impl u hl
  by_cases h1 : uiOk u
  · rw [uiV_yes h1] at f1
    have hlen : (piT u).length ≤ 2000000 := by
      have := h1.2.2.2
      unfold piT brS
      rw [blS_len]; omega
    have f2 : Vow Try.prog 82 [seqV lvl bits c r, parV p, .s (brS (u.drop 1))] (rhV lvl bits c r p (piT u)) [] := readHead_impl lvl bits c r p (piT u) hlen
    by_cases h3 : rhOk lvl bits c r p (piT u)
    · rw [rhV_yes h3] at f2
      have hC : rhC bits (piT u) ≤ (piT u).length := h3.2.2.2.1.2.1
      by_cases h2 : ((rb u 0).toNat : Int) = 5 ∨ ((rb u 0).toNat : Int) = 1
      · rw [piV_yes ⟨h1, h2, h3⟩]
        refine vow_of_ev (fn := Try.f22) [] [(0, 0), (15, 21), (21, 29), (29, 42), (43, 45), (45, 54)] tt_ok Try.func22 (by decide) rfl (Nat.le_of_ble_eq_true rfl) rfl rfl rfl ?_
        repeat' (conv => whnf); first | refine CallP.rd (f1) rfl rfl rfl rfl ?_ | refine DCall.rd (f1) rfl rfl ?_ | refine CallP.rd (f2) rfl rfl rfl rfl ?_ | refine DCall.rd (f2) rfl rfl ?_ | refine Cut.rs (rhC bits (piT u)) ⟨rfl, hC⟩ ?_ | refine Br.tt ?_ | refine Br.ff ?_ | refine Br.not ?_ | refine Br.dand (fun _ => ?_) (fun _ => ?_) | refine Br.dec (fun _ => ?_) (fun _ => ?_) | refine Br.beq (fun _ => ?_) (fun _ => ?_) | refine Br.bne (fun _ => ?_) (fun _ => ?_) | refine Br.seq (fun _ => ?_) (fun _ => ?_) | refine Elt.i (by omega) ?_ | refine EltN.i (by omega) ?_ | refine Nt.cast ?_ | refine Nt.mk _ rfl ?_ | refine EltN.mk _ rfl ?_ | refine Mx.mk _ rfl ?_ | refine Br.mk (fun _ => ?_) (fun _ => ?_) | refine EndP.mk ?_ trivial | refine EndP.mk ?_ ⟨.inr ⟨List.mem_cons_self .., ?_, rfl⟩, trivial⟩ | refine Ar.i64 (by omega) ?_ | refine Ar.u8 (by omega) ?_ | refine Quo.pos (by omega) ?_ | refine Rem.pos (by omega) ?_ | refine BsP.own ?_ | refine Ob.mk ⟨rfl, rfl⟩ ?_ | refine Ob.mk (flat_i _ _).1 ?_ | refine Ob.mk (flat_i _ _) ?_ | refine Ob.mk (flat_s _) ?_ | refine Ob.mk (by first | omega | (simp; first | done | fail) | (simp; omega)) ?_ | fail
        all_goals first
          | (exfalso; omega)
          | rfl
      · rw [piV_no (fun k => h2 k.2.1)]
        refine vow_of_ev (fn := Try.f22) [] [(0, 0), (15, 21), (21, 29), (29, 42), (43, 45), (45, 54)] tt_ok Try.func22 (by decide) rfl (Nat.le_of_ble_eq_true rfl) rfl rfl rfl ?_
        repeat' (conv => whnf); first | refine CallP.rd (f1) rfl rfl rfl rfl ?_ | refine DCall.rd (f1) rfl rfl ?_ | refine CallP.rd (f2) rfl rfl rfl rfl ?_ | refine DCall.rd (f2) rfl rfl ?_ | refine Br.tt ?_ | refine Br.ff ?_ | refine Br.not ?_ | refine Br.dand (fun _ => ?_) (fun _ => ?_) | refine Br.dec (fun _ => ?_) (fun _ => ?_) | refine Br.beq (fun _ => ?_) (fun _ => ?_) | refine Br.bne (fun _ => ?_) (fun _ => ?_) | refine Br.seq (fun _ => ?_) (fun _ => ?_) | refine Elt.i (by omega) ?_ | refine EltN.i (by omega) ?_ | refine Nt.cast ?_ | refine Nt.mk _ rfl ?_ | refine EltN.mk _ rfl ?_ | refine Mx.mk _ rfl ?_ | refine Br.mk (fun _ => ?_) (fun _ => ?_) | refine EndP.mk ?_ trivial | refine EndP.mk ?_ ⟨.inr ⟨List.mem_cons_self .., ?_, rfl⟩, trivial⟩ | refine Ar.i64 (by omega) ?_ | refine Ar.u8 (by omega) ?_ | refine Quo.pos (by omega) ?_ | refine Rem.pos (by omega) ?_ | refine BsP.own ?_ | refine Ob.mk ⟨rfl, rfl⟩ ?_ | refine Ob.mk (flat_i _ _).1 ?_ | refine Ob.mk (flat_i _ _) ?_ | refine Ob.mk (flat_s _) ?_ | refine Ob.mk (by first | omega | (simp; first | done | fail) | (simp; omega)) ?_ | fail
        all_goals first
          | (exfalso; omega)
          | rfl
    · rw [rhV_no h3] at f2
      rw [piV_no (fun k => h3 k.2.2)]
      refine vow_of_ev (fn := Try.f22) [] [(0, 0), (15, 21), (21, 29), (29, 42), (43, 45), (45, 54)] tt_ok Try.func22 (by decide) rfl (Nat.le_of_ble_eq_true rfl) rfl rfl rfl ?_
      repeat' (conv => whnf); first | refine CallP.rd (f1) rfl rfl rfl rfl ?_ | refine DCall.rd (f1) rfl rfl ?_ | refine CallP.rd (f2) rfl rfl rfl rfl ?_ | refine DCall.rd (f2) rfl rfl ?_ | refine Br.tt ?_ | refine Br.ff ?_ | refine Br.not ?_ | refine Br.dand (fun _ => ?_) (fun _ => ?_) | refine Br.dec (fun _ => ?_) (fun _ => ?_) | refine Br.beq (fun _ => ?_) (fun _ => ?_) | refine Br.bne (fun _ => ?_) (fun _ => ?_) | refine Br.seq (fun _ => ?_) (fun _ => ?_) | refine Elt.i (by omega) ?_ | refine EltN.i (by omega) ?_ | refine Nt.cast ?_ | refine Nt.mk _ rfl ?_ | refine EltN.mk _ rfl ?_ | refine Mx.mk _ rfl ?_ | refine Br.mk (fun _ => ?_) (fun _ => ?_) | refine EndP.mk ?_ trivial | refine EndP.mk ?_ ⟨.inr ⟨List.mem_cons_self .., ?_, rfl⟩, trivial⟩ | refine Ar.i64 (by omega) ?_ | refine Ar.u8 (by omega) ?_ | refine Quo.pos (by omega) ?_ | refine Rem.pos (by omega) ?_ | refine BsP.own ?_ | refine Ob.mk ⟨rfl, rfl⟩ ?_ | refine Ob.mk (flat_i _ _).1 ?_ | refine Ob.mk (flat_i _ _) ?_ | refine Ob.mk (flat_s _) ?_ | refine Ob.mk (by first | omega | (simp; first | done | fail) | (simp; omega)) ?_ | fail
      all_goals first
        | (exfalso; omega)
        | rfl
  · rw [uiV_no h1] at f1
    rw [piV_no (fun k => h1 k.1)]
    have f2 := readHead_impl lvl bits c r p [] (by simp)
    by_cases h3 : rhOk lvl bits c r p []
    · rw [rhV_yes h3] at f2
      refine vow_of_ev (fn := Try.f22) [] [(0, 0), (15, 21), (21, 29), (29, 42), (43, 45), (45, 54)] tt_ok Try.func22 (by decide) rfl (Nat.le_of_ble_eq_true rfl) rfl rfl rfl ?_
      repeat' (conv => whnf); first | refine CallP.rd (f1) rfl rfl rfl rfl ?_ | refine DCall.rd (f1) rfl rfl ?_ | refine CallP.rd (f2) rfl rfl rfl rfl ?_ | refine DCall.rd (f2) rfl rfl ?_ | refine Br.tt ?_ | refine Br.ff ?_ | refine Br.not ?_ | refine Br.dand (fun _ => ?_) (fun _ => ?_) | refine Br.dec (fun _ => ?_) (fun _ => ?_) | refine Br.beq (fun _ => ?_) (fun _ => ?_) | refine Br.bne (fun _ => ?_) (fun _ => ?_) | refine Br.seq (fun _ => ?_) (fun _ => ?_) | refine Elt.i (by omega) ?_ | refine EltN.i (by omega) ?_ | refine Nt.cast ?_ | refine Nt.mk _ rfl ?_ | refine EltN.mk _ rfl ?_ | refine Mx.mk _ rfl ?_ | refine Br.mk (fun _ => ?_) (fun _ => ?_) | refine EndP.mk ?_ trivial | refine EndP.mk ?_ ⟨.inr ⟨List.mem_cons_self .., ?_, rfl⟩, trivial⟩ | refine Ar.i64 (by omega) ?_ | refine Ar.u8 (by omega) ?_ | refine Quo.pos (by omega) ?_ | refine Rem.pos (by omega) ?_ | refine BsP.own ?_ | refine Ob.mk ⟨rfl, rfl⟩ ?_ | refine Ob.mk (flat_i _ _).1 ?_ | refine Ob.mk (flat_i _ _) ?_ | refine Ob.mk (flat_s _) ?_ | refine Ob.mk (by first | omega | (simp; first | done | fail) | (simp; omega)) ?_ | fail
      all_goals first
        | (exfalso; omega)
        | rfl
    · rw [rhV_no h3] at f2
      refine vow_of_ev (fn := Try.f22) [] [(0, 0), (15, 21), (21, 29), (29, 42), (43, 45), (45, 54)] tt_ok Try.func22 (by decide) rfl (Nat.le_of_ble_eq_true rfl) rfl rfl rfl ?_
      repeat' (conv => whnf); first | refine CallP.rd (f1) rfl rfl rfl rfl ?_ | refine DCall.rd (f1) rfl rfl ?_ | refine CallP.rd (f2) rfl rfl rfl rfl ?_ | refine DCall.rd (f2) rfl rfl ?_ | refine Br.tt ?_ | refine Br.ff ?_ | refine Br.not ?_ | refine Br.dand (fun _ => ?_) (fun _ => ?_) | refine Br.dec (fun _ => ?_) (fun _ => ?_) | refine Br.beq (fun _ => ?_) (fun _ => ?_) | refine Br.bne (fun _ => ?_) (fun _ => ?_) | refine Br.seq (fun _ => ?_) (fun _ => ?_) | refine Elt.i (by omega) ?_ | refine EltN.i (by omega) ?_ | refine Nt.cast ?_ | refine Nt.mk _ rfl ?_ | refine EltN.mk _ rfl ?_ | refine Mx.mk _ rfl ?_ | refine Br.mk (fun _ => ?_) (fun _ => ?_) | refine EndP.mk ?_ trivial | refine EndP.mk ?_ ⟨.inr ⟨List.mem_cons_self .., ?_, rfl⟩, trivial⟩ | refine Ar.i64 (by omega) ?_ | refine Ar.u8 (by omega) ?_ | refine Quo.pos (by omega) ?_ | refine Rem.pos (by omega) ?_ | refine BsP.own ?_ | refine Ob.mk ⟨rfl, rfl⟩ ?_ | refine Ob.mk (flat_i _ _).1 ?_ | refine Ob.mk (flat_i _ _) ?_ | refine Ob.mk (flat_s _) ?_ | refine Ob.mk (by first | omega | (simp; first | done | fail) | (simp; omega)) ?_ | fail
      all_goals first
        | (exfalso; omega)
        | rfl

theorem eqHead_vow (h : Head) : Vow Try.prog 23 [headV h, headV h] (.b true) [] := by
  refine vow_of_ev (fn := Try.f23) [] [(0, 0), (5, 9), (0, 0), (10, 14), (0, 0), (15, 19), (0, 0), (0, 0)] tt_ok Try.func23 (by decide) rfl (Nat.le_of_ble_eq_true rfl) rfl rfl rfl ?_
  repeat' (conv => whnf); first | refine Br.tt ?_ | refine Br.ff ?_ | refine Br.not ?_ | refine Br.dand (fun _ => ?_) (fun _ => ?_) | refine Br.dec (fun _ => ?_) (fun _ => ?_) | refine Br.beq (fun _ => ?_) (fun _ => ?_) | refine Br.bne (fun _ => ?_) (fun _ => ?_) | refine Br.seq (fun _ => ?_) (fun _ => ?_) | refine Elt.i (by omega) ?_ | refine EltN.i (by omega) ?_ | refine Nt.cast ?_ | refine Nt.mk _ rfl ?_ | refine EltN.mk _ rfl ?_ | refine Mx.mk _ rfl ?_ | refine Br.mk (fun _ => ?_) (fun _ => ?_) | refine EndP.mk ?_ trivial | refine EndP.mk ?_ ⟨.inr ⟨List.mem_cons_self .., ?_, rfl⟩, trivial⟩ | refine Ar.i64 (by omega) ?_ | refine Ar.u8 (by omega) ?_ | refine Quo.pos (by omega) ?_ | refine Rem.pos (by omega) ?_ | refine BsP.own ?_ | refine Ob.mk ⟨rfl, rfl⟩ ?_ | refine Ob.mk (flat_i _ _).1 ?_ | refine Ob.mk (flat_i _ _) ?_ | refine Ob.mk (flat_s _) ?_ | refine Ob.mk (by first | omega | (simp; first | done | fail) | (simp; omega)) ?_ | fail
  all_goals first | rfl | exact absurd rfl ‹¬ _ = _›
theorem eqPart_vow (x : Part) : Vow Try.prog 24 [partV x, partV x] (.b true) [] := by
  obtain ⟨k, q, w⟩ := x
  refine vow_of_ev (fn := Try.f24) [] [(0, 0), (5, 9), (0, 0), (10, 14), (0, 0), (15, 19), (0, 0), (0, 0)] tt_ok Try.func24 (by decide) rfl (Nat.le_of_ble_eq_true rfl) rfl rfl rfl ?_
  cases k
  all_goals (repeat' (conv => whnf); first | refine Br.tt ?_ | refine Br.ff ?_ | refine Br.not ?_ | refine Br.dand (fun _ => ?_) (fun _ => ?_) | refine Br.dec (fun _ => ?_) (fun _ => ?_) | refine Br.beq (fun _ => ?_) (fun _ => ?_) | refine Br.bne (fun _ => ?_) (fun _ => ?_) | refine Br.seq (fun _ => ?_) (fun _ => ?_) | refine Elt.i (by omega) ?_ | refine EltN.i (by omega) ?_ | refine Nt.cast ?_ | refine Nt.mk _ rfl ?_ | refine EltN.mk _ rfl ?_ | refine Mx.mk _ rfl ?_ | refine Br.mk (fun _ => ?_) (fun _ => ?_) | refine EndP.mk ?_ trivial | refine EndP.mk ?_ ⟨.inr ⟨List.mem_cons_self .., ?_, rfl⟩, trivial⟩ | refine Ar.i64 (by omega) ?_ | refine Ar.u8 (by omega) ?_ | refine Quo.pos (by omega) ?_ | refine Rem.pos (by omega) ?_ | refine BsP.own ?_ | refine Ob.mk ⟨rfl, rfl⟩ ?_ | refine Ob.mk (flat_i _ _).1 ?_ | refine Ob.mk (flat_i _ _) ?_ | refine Ob.mk (flat_s _) ?_ | refine Ob.mk (by first | omega | (simp; first | done | fail) | (simp; omega)) ?_ | fail)
  all_goals first | rfl | exact absurd rfl ‹¬ _ = _›

def PiI (c r : List Int) : Prop := c.length ≤ 9223372036854775807 ∧ r.length ≤ 9223372036854775807
set_option maxHeartbeats 6000000 in
theorem law_partIn (lvl bits : Int) (c r : List Int) (p : Par) (u : List UInt8) (hi : PiI c r) :
    Vow Try.prog 4 [seqV lvl bits c r, parV p, .s u] (.b true) [] := by
  obtain ⟨i1, i2⟩ := hi
  by_cases hu : u.length ≤ 1048576
  · by_cases hs : szSeq c r 1048576 < 0
    · refine vow_of_ev (fn := Try.f4) [] [(0, 0), (15, 17), (0, 0), (0, 0), (18, 21), (21, 22), (0, 0), (23, 33), (33, 35), (35, 44), (44, 58), (0, 0), (59, 63), (0, 0), (0, 0)] tt_ok Try.func4 (by decide) rfl (Nat.le_of_ble_eq_true rfl) rfl rfl rfl ?_
      repeat' (conv => whnf); first | refine CallP.rd (szSeq_vow lvl bits c r i1 i2 1048576 (by omega)) rfl rfl rfl rfl ?_ | refine Br.tt ?_ | refine Br.ff ?_ | refine Br.not ?_ | refine Br.dand (fun _ => ?_) (fun _ => ?_) | refine Br.dec (fun _ => ?_) (fun _ => ?_) | refine Br.beq (fun _ => ?_) (fun _ => ?_) | refine Br.bne (fun _ => ?_) (fun _ => ?_) | refine Br.seq (fun _ => ?_) (fun _ => ?_) | refine Elt.i (by omega) ?_ | refine EltN.i (by omega) ?_ | refine Nt.cast ?_ | refine Nt.mk _ rfl ?_ | refine EltN.mk _ rfl ?_ | refine Mx.mk _ rfl ?_ | refine Br.mk (fun _ => ?_) (fun _ => ?_) | refine EndP.mk ?_ trivial | refine EndP.mk ?_ ⟨.inr ⟨List.mem_cons_self .., ?_, rfl⟩, trivial⟩ | refine Ar.i64 (by omega) ?_ | refine Ar.u8 (by omega) ?_ | refine Quo.pos (by omega) ?_ | refine Rem.pos (by omega) ?_ | refine BsP.own ?_ | refine Ob.mk ⟨rfl, rfl⟩ ?_ | refine Ob.mk (flat_i _ _).1 ?_ | refine Ob.mk (flat_i _ _) ?_ | refine Ob.mk (flat_s _) ?_ | refine Ob.mk (by first | omega | (simp; first | done | fail) | (simp; omega)) ?_ | fail
      all_goals first | rfl | exact absurd hs (by assumption)
    have c1 := sz1_le c.length 1048576
    have c2 := sz1_le r.length (sz1 c.length 1048576)
    have hc : szSeq c r 1048576 = 1048576 - c.length - r.length ∧ 0 ≤ szSeq c r 1048576 := by
      unfold szSeq at hs ⊢
      split at hs
      · omega
      · split at hs
        · omega
        · rename_i k1 k2
          rw [if_neg k1, if_neg k2]
          omega
    obtain ⟨hc, hc0⟩ := hc
    have l1 : c.length ≤ 17592186044416 := by omega
    have l2 : r.length ≤ 17592186044416 := by omega
    have f1 := partIn_spec lvl bits c r p u (by omega)
    have f2 := partIn_impl lvl bits c r p u (by omega)
    by_cases hk : piOk lvl bits c r p u
    · rw [piV_yes hk] at f1 f2
      refine vow_of_ev (fn := Try.f4) [] [(0, 0), (15, 17), (0, 0), (0, 0), (18, 21), (21, 22), (0, 0), (23, 33), (33, 35), (35, 44), (44, 58), (0, 0), (59, 63), (0, 0), (0, 0)] tt_ok Try.func4 (by decide) rfl (Nat.le_of_ble_eq_true rfl) rfl rfl rfl ?_
      repeat' (conv => whnf); first | refine CallP.rd (szSeq_vow lvl bits c r i1 i2 1048576 (by omega)) rfl rfl rfl rfl ?_ | refine DCall.rd (szSeq_vow lvl bits c r i1 i2 1048576 (by omega)) rfl rfl ?_ | refine CallP.re (toSeq_vow lvl bits c r l1 l2) (by first | with_reducible rfl | (simp only [imm_i, imm_s, imm_b, iO, iS, seqV, seqO, parV, headV, partV]; first | done | fail)) rfl rfl rfl (by first | rfl | exact own_i _ _ | exact own_s _ | exact own_b _ | (simp [V.noSl, V.noSl.go, own_i, own_s, own_b, iO, iS, seqV, seqO, parV, headV, partV]; first | done | fail)) ?_ | refine DCall.re (toSeq_vow lvl bits c r l1 l2) (by first | with_reducible rfl | (simp only [imm_i, imm_s, imm_b, iO, iS, seqV, seqO, parV, headV, partV]; first | done | fail)) rfl (by first | rfl | exact own_i _ _ | exact own_s _ | exact own_b _ | (simp [V.noSl, V.noSl.go, own_i, own_s, own_b, iO, iS, seqV, seqO, parV, headV, partV]; first | done | fail)) ?_ | refine CallP.rd (toPar2_vow p) rfl rfl rfl rfl ?_ | refine DCall.rd (toPar2_vow p) rfl rfl ?_ | refine CallP.re (f1) (by first | with_reducible rfl | (simp only [imm_i, imm_s, imm_b, iO, iS, seqV, seqO, parV, headV, partV]; first | done | fail)) rfl rfl rfl (by first | rfl | exact own_i _ _ | exact own_s _ | exact own_b _ | (simp [V.noSl, V.noSl.go, own_i, own_s, own_b, iO, iS, seqV, seqO, parV, headV, partV]; first | done | fail)) ?_ | refine DCall.re (f1) (by first | with_reducible rfl | (simp only [imm_i, imm_s, imm_b, iO, iS, seqV, seqO, parV, headV, partV]; first | done | fail)) rfl (by first | rfl | exact own_i _ _ | exact own_s _ | exact own_b _ | (simp [V.noSl, V.noSl.go, own_i, own_s, own_b, iO, iS, seqV, seqO, parV, headV, partV]; first | done | fail)) ?_ | refine CallP.re (f2) (by first | with_reducible rfl | (simp only [imm_i, imm_s, imm_b, iO, iS, seqV, seqO, parV, headV, partV]; first | done | fail)) rfl rfl rfl (by first | rfl | exact own_i _ _ | exact own_s _ | exact own_b _ | (simp [V.noSl, V.noSl.go, own_i, own_s, own_b, iO, iS, seqV, seqO, parV, headV, partV]; first | done | fail)) ?_ | refine DCall.re (f2) (by first | with_reducible rfl | (simp only [imm_i, imm_s, imm_b, iO, iS, seqV, seqO, parV, headV, partV]; first | done | fail)) rfl (by first | rfl | exact own_i _ _ | exact own_s _ | exact own_b _ | (simp [V.noSl, V.noSl.go, own_i, own_s, own_b, iO, iS, seqV, seqO, parV, headV, partV]; first | done | fail)) ?_ | refine CallP.rd (eqHead_vow (rhH bits p (piT u))) rfl rfl rfl rfl ?_ | refine DCall.rd (eqHead_vow (rhH bits p (piT u))) rfl rfl ?_ | refine CallP.rd (eqPart_vow (piPart bits p u)) rfl rfl rfl rfl ?_ | refine DCall.rd (eqPart_vow (piPart bits p u)) rfl rfl ?_ | refine CallP.re (eqSeq_vow lvl bits lvl bits c r c r l1 l2 l1 l2) (by first | with_reducible rfl | (simp only [imm_i, imm_s, imm_b, iO, iS, seqV, seqO, parV, headV, partV]; first | done | fail)) rfl rfl rfl (by first | rfl | exact own_i _ _ | exact own_s _ | exact own_b _ | (simp [V.noSl, V.noSl.go, own_i, own_s, own_b, iO, iS, seqV, seqO, parV, headV, partV]; first | done | fail)) ?_ | refine DCall.re (eqSeq_vow lvl bits lvl bits c r c r l1 l2 l1 l2) (by first | with_reducible rfl | (simp only [imm_i, imm_s, imm_b, iO, iS, seqV, seqO, parV, headV, partV]; first | done | fail)) rfl (by first | rfl | exact own_i _ _ | exact own_s _ | exact own_b _ | (simp [V.noSl, V.noSl.go, own_i, own_s, own_b, iO, iS, seqV, seqO, parV, headV, partV]; first | done | fail)) ?_ | refine Br.tt ?_ | refine Br.ff ?_ | refine Br.not ?_ | refine Br.dand (fun _ => ?_) (fun _ => ?_) | refine Br.dec (fun _ => ?_) (fun _ => ?_) | refine Br.beq (fun _ => ?_) (fun _ => ?_) | refine Br.bne (fun _ => ?_) (fun _ => ?_) | refine Br.seq (fun _ => ?_) (fun _ => ?_) | refine Elt.i (by omega) ?_ | refine EltN.i (by omega) ?_ | refine Nt.cast ?_ | refine Nt.mk _ rfl ?_ | refine EltN.mk _ rfl ?_ | refine Mx.mk _ rfl ?_ | refine Br.mk (fun _ => ?_) (fun _ => ?_) | refine EndP.mk ?_ trivial | refine EndP.mk ?_ ⟨.inr ⟨List.mem_cons_self .., ?_, rfl⟩, trivial⟩ | refine Ar.i64 (by omega) ?_ | refine Ar.u8 (by omega) ?_ | refine Quo.pos (by omega) ?_ | refine Rem.pos (by omega) ?_ | refine BsP.own ?_ | refine Ob.mk ⟨rfl, rfl⟩ ?_ | refine Ob.mk (flat_i _ _).1 ?_ | refine Ob.mk (flat_i _ _) ?_ | refine Ob.mk (flat_s _) ?_ | refine Ob.mk (by first | omega | (simp; first | done | fail) | (simp; omega)) ?_ | fail
      all_goals first
        | (exfalso; omega)
        | (exfalso; simp_all; first | done | fail)
        | rfl
    · rw [piV_no hk] at f1 f2
      refine vow_of_ev (fn := Try.f4) [] [(0, 0), (15, 17), (0, 0), (0, 0), (18, 21), (21, 22), (0, 0), (23, 33), (33, 35), (35, 44), (44, 58), (0, 0), (59, 63), (0, 0), (0, 0)] tt_ok Try.func4 (by decide) rfl (Nat.le_of_ble_eq_true rfl) rfl rfl rfl ?_
      repeat' (conv => whnf); first | refine CallP.rd (szSeq_vow lvl bits c r i1 i2 1048576 (by omega)) rfl rfl rfl rfl ?_ | refine DCall.rd (szSeq_vow lvl bits c r i1 i2 1048576 (by omega)) rfl rfl ?_ | refine CallP.re (toSeq_vow lvl bits c r l1 l2) (by first | with_reducible rfl | (simp only [imm_i, imm_s, imm_b, iO, iS, seqV, seqO, parV, headV, partV]; first | done | fail)) rfl rfl rfl (by first | rfl | exact own_i _ _ | exact own_s _ | exact own_b _ | (simp [V.noSl, V.noSl.go, own_i, own_s, own_b, iO, iS, seqV, seqO, parV, headV, partV]; first | done | fail)) ?_ | refine DCall.re (toSeq_vow lvl bits c r l1 l2) (by first | with_reducible rfl | (simp only [imm_i, imm_s, imm_b, iO, iS, seqV, seqO, parV, headV, partV]; first | done | fail)) rfl (by first | rfl | exact own_i _ _ | exact own_s _ | exact own_b _ | (simp [V.noSl, V.noSl.go, own_i, own_s, own_b, iO, iS, seqV, seqO, parV, headV, partV]; first | done | fail)) ?_ | refine CallP.rd (toPar2_vow p) rfl rfl rfl rfl ?_ | refine DCall.rd (toPar2_vow p) rfl rfl ?_ | refine CallP.re (f1) (by first | with_reducible rfl | (simp only [imm_i, imm_s, imm_b, iO, iS, seqV, seqO, parV, headV, partV]; first | done | fail)) rfl rfl rfl (by first | rfl | exact own_i _ _ | exact own_s _ | exact own_b _ | (simp [V.noSl, V.noSl.go, own_i, own_s, own_b, iO, iS, seqV, seqO, parV, headV, partV]; first | done | fail)) ?_ | refine DCall.re (f1) (by first | with_reducible rfl | (simp only [imm_i, imm_s, imm_b, iO, iS, seqV, seqO, parV, headV, partV]; first | done | fail)) rfl (by first | rfl | exact own_i _ _ | exact own_s _ | exact own_b _ | (simp [V.noSl, V.noSl.go, own_i, own_s, own_b, iO, iS, seqV, seqO, parV, headV, partV]; first | done | fail)) ?_ | refine CallP.re (f2) (by first | with_reducible rfl | (simp only [imm_i, imm_s, imm_b, iO, iS, seqV, seqO, parV, headV, partV]; first | done | fail)) rfl rfl rfl (by first | rfl | exact own_i _ _ | exact own_s _ | exact own_b _ | (simp [V.noSl, V.noSl.go, own_i, own_s, own_b, iO, iS, seqV, seqO, parV, headV, partV]; first | done | fail)) ?_ | refine DCall.re (f2) (by first | with_reducible rfl | (simp only [imm_i, imm_s, imm_b, iO, iS, seqV, seqO, parV, headV, partV]; first | done | fail)) rfl (by first | rfl | exact own_i _ _ | exact own_s _ | exact own_b _ | (simp [V.noSl, V.noSl.go, own_i, own_s, own_b, iO, iS, seqV, seqO, parV, headV, partV]; first | done | fail)) ?_ | refine CallP.rd (eqHead_vow headZ) rfl rfl rfl rfl ?_ | refine DCall.rd (eqHead_vow headZ) rfl rfl ?_ | refine CallP.rd (eqPart_vow partZ) rfl rfl rfl rfl ?_ | refine DCall.rd (eqPart_vow partZ) rfl rfl ?_ | refine CallP.re (eqSeq_vow lvl bits lvl bits c r c r l1 l2 l1 l2) (by first | with_reducible rfl | (simp only [imm_i, imm_s, imm_b, iO, iS, seqV, seqO, parV, headV, partV]; first | done | fail)) rfl rfl rfl (by first | rfl | exact own_i _ _ | exact own_s _ | exact own_b _ | (simp [V.noSl, V.noSl.go, own_i, own_s, own_b, iO, iS, seqV, seqO, parV, headV, partV]; first | done | fail)) ?_ | refine DCall.re (eqSeq_vow lvl bits lvl bits c r c r l1 l2 l1 l2) (by first | with_reducible rfl | (simp only [imm_i, imm_s, imm_b, iO, iS, seqV, seqO, parV, headV, partV]; first | done | fail)) rfl (by first | rfl | exact own_i _ _ | exact own_s _ | exact own_b _ | (simp [V.noSl, V.noSl.go, own_i, own_s, own_b, iO, iS, seqV, seqO, parV, headV, partV]; first | done | fail)) ?_ | refine Br.tt ?_ | refine Br.ff ?_ | refine Br.not ?_ | refine Br.dand (fun _ => ?_) (fun _ => ?_) | refine Br.dec (fun _ => ?_) (fun _ => ?_) | refine Br.beq (fun _ => ?_) (fun _ => ?_) | refine Br.bne (fun _ => ?_) (fun _ => ?_) | refine Br.seq (fun _ => ?_) (fun _ => ?_) | refine Elt.i (by omega) ?_ | refine EltN.i (by omega) ?_ | refine Nt.cast ?_ | refine Nt.mk _ rfl ?_ | refine EltN.mk _ rfl ?_ | refine Mx.mk _ rfl ?_ | refine Br.mk (fun _ => ?_) (fun _ => ?_) | refine EndP.mk ?_ trivial | refine EndP.mk ?_ ⟨.inr ⟨List.mem_cons_self .., ?_, rfl⟩, trivial⟩ | refine Ar.i64 (by omega) ?_ | refine Ar.u8 (by omega) ?_ | refine Quo.pos (by omega) ?_ | refine Rem.pos (by omega) ?_ | refine BsP.own ?_ | refine Ob.mk ⟨rfl, rfl⟩ ?_ | refine Ob.mk (flat_i _ _).1 ?_ | refine Ob.mk (flat_i _ _) ?_ | refine Ob.mk (flat_s _) ?_ | refine Ob.mk (by first | omega | (simp; first | done | fail) | (simp; omega)) ?_ | fail
      all_goals first
        | (exfalso; omega)
        | (exfalso; simp_all; first | done | fail)
        | rfl
  · refine vow_of_ev (fn := Try.f4) [] [(0, 0), (15, 17), (0, 0), (0, 0), (18, 21), (21, 22), (0, 0), (23, 33), (33, 35), (35, 44), (44, 58), (0, 0), (59, 63), (0, 0), (0, 0)] tt_ok Try.func4 (by decide) rfl (Nat.le_of_ble_eq_true rfl) rfl rfl rfl ?_
    repeat' (conv => whnf); first | refine Br.tt ?_ | refine Br.ff ?_ | refine Br.not ?_ | refine Br.dand (fun _ => ?_) (fun _ => ?_) | refine Br.dec (fun _ => ?_) (fun _ => ?_) | refine Br.beq (fun _ => ?_) (fun _ => ?_) | refine Br.bne (fun _ => ?_) (fun _ => ?_) | refine Br.seq (fun _ => ?_) (fun _ => ?_) | refine Elt.i (by omega) ?_ | refine EltN.i (by omega) ?_ | refine Nt.cast ?_ | refine Nt.mk _ rfl ?_ | refine EltN.mk _ rfl ?_ | refine Mx.mk _ rfl ?_ | refine Br.mk (fun _ => ?_) (fun _ => ?_) | refine EndP.mk ?_ trivial | refine EndP.mk ?_ ⟨.inr ⟨List.mem_cons_self .., ?_, rfl⟩, trivial⟩ | refine Ar.i64 (by omega) ?_ | refine Ar.u8 (by omega) ?_ | refine Quo.pos (by omega) ?_ | refine Rem.pos (by omega) ?_ | refine BsP.own ?_ | refine Ob.mk ⟨rfl, rfl⟩ ?_ | refine Ob.mk (flat_i _ _).1 ?_ | refine Ob.mk (flat_i _ _) ?_ | refine Ob.mk (flat_s _) ?_ | refine Ob.mk (by first | omega | (simp; first | done | fail) | (simp; omega)) ?_ | fail
    all_goals first
      | (exfalso; omega)
      | rfl
end Go.Proofs.Ytfcjjkfjdecakaa
