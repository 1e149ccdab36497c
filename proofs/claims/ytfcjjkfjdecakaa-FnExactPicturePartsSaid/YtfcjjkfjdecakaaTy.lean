/- Heads read, and parts out of units: both sides. No condition. -/
import Derived.Test.YtfcjjkfjdecakaaTx
namespace Go.Proofs.Ytfcjjkfjdecakaa
open Go Go.Vx
set_option linter.unusedVariables false
set_option linter.unusedSimpArgs false
set_option maxHeartbeats 600000
set_option maxRecDepth 100000


def rhA (t : List UInt8) : Nat := 0 + (2 * zAt t 0 + 1)
def rhF (bits : Int) (t : List UInt8) : Nat := rdN t (rhA t) bits.toNat
def rhB (bits : Int) (t : List UInt8) : Nat := rhA t + bits.toNat
def rhC (bits : Int) (t : List UInt8) : Nat := rhB bits t + (2 * zAt t (rhB bits t) + 1)
def rhQ (bits : Int) (t : List UInt8) : Int := openN (ueV t (rhB bits t) - 1)
def rhH (bits : Int) (p : Par) (t : List UInt8) : Head := ⟨(ueV t 0 - 1 : Nat), rhF bits t, p.qp + rhQ bits t⟩
def headZ : Head := ⟨0, 0, 0⟩
def rhOk (lvl bits : Int) (c r : List Int) (p : Par) (t : List UInt8) : Prop :=
  (rowOk t ∧ seqOk lvl bits c r = true ∧ parOk p) ∧ ueOk t 0 ∧ rhB bits t ≤ t.length ∧ ueOk t (rhB bits t) ∧ headOk lvl bits c r p (rhH bits p t)
instance (lvl bits : Int) (c r : List Int) (p : Par) (t : List UInt8) : Decidable (rhOk lvl bits c r p t) := by unfold rhOk; infer_instance
def rhV (lvl bits : Int) (c r : List Int) (p : Par) (t : List UInt8) : V :=
  if rhOk lvl bits c r p t then .tp [headV (rhH bits p t), .i .i64 (rhC bits t : Nat), .b true] else .tp [headV headZ, .i .i64 0, .b false]
theorem rhV_no {lvl bits : Int} {c r : List Int} {p : Par} {t : List UInt8} (h : ¬ rhOk lvl bits c r p t) : rhV lvl bits c r p t = .tp [headV headZ, .i .i64 0, .b false] := by rw [rhV, if_neg h]
theorem rhV_yes {lvl bits : Int} {c r : List Int} {p : Par} {t : List UInt8} (h : rhOk lvl bits c r p t) : rhV lvl bits c r p t = .tp [headV (rhH bits p t), .i .i64 (rhC bits t : Nat), .b true] := by rw [rhV, if_pos h]
theorem openN_fit {u : Nat} (h : u ≤ 1000000) : -500000 ≤ openN u ∧ openN u ≤ 500001 := by
  unfold openN
  split <;> omega

set_option maxHeartbeats 6000000 in
theorem readHead_spec (lvl bits : Int) (c r : List Int) (p : Par) (t : List UInt8) (hl : t.length ≤ 2000000) :
    Vow Try.prog 80 [seqV lvl bits c r, parV p, .s t] (rhV lvl bits c r p t) [] := by
  have g1 := rowOk_spec t (by omega)
  have g2 := seqOk_spec lvl bits c r
  have g3 := parOk_spec p
  by_cases h1 : rowOk t
  · rw [decide_eq_true h1] at g1
    have hl4 := h1.1
    by_cases h2 : seqOk lvl bits c r = true
    · rw [h2] at g2
      have hb := (seqOk_sides h2).2
      by_cases h3 : parOk p
      · rw [decide_eq_true h3] at g3
        have hq : 0 ≤ p.qp ∧ p.qp ≤ 40 := h3.1
        have f1 : Vow Try.prog 141 [.s t, .i .i64 0] (rdV (ueR t 0)) [] := l03ReadUe_vow t h1.2 (by omega) 0 (by omega)
        by_cases h4 : ueOk t 0
        · simp only [ueR_yes h4, rdV] at f1
          have h4' := h4.2.1
          have f2 := l02Read_vow t h1.2 (by omega) (rhA t) bits.toNat (by unfold rhA; omega) (by omega)
          rw [show ((bits.toNat : Nat) : Int) = bits by omega] at f2
          by_cases h5 : rhB bits t ≤ t.length
          · have h5' : rhA t + bits.toNat ≤ t.length := h5
            simp only [rdO, if_pos h5', rdV] at f2
            have f3 := l03ReadSe_vow t h1.2 (by omega) (rhB bits t) h5
            by_cases h6 : ueOk t (rhB bits t)
            · rw [seR, if_pos h6] at f3
              have hu := openN_fit (u := ueV t (rhB bits t) - 1) (by have := h6.2.2; omega)
              have f4 := headOk_spec lvl bits c r p (rhH bits p t)
              by_cases h7 : headOk lvl bits c r p (rhH bits p t)
              · rw [decide_eq_true h7] at f4
                rw [rhV_yes ⟨⟨h1, h2, h3⟩, h4, h5, h6, h7⟩]
                refine vow_of_ev (fn := Try.f80) [] [(0, 0), (19, 31), (32, 33), (33, 39), (39, 40), (41, 42), (42, 51), (51, 52), (53, 54), (54, 61), (61, 68), (68, 76), (77, 78), (78, 80)] tt_ok Try.func80 (by decide) rfl (Nat.le_of_ble_eq_true rfl) rfl rfl rfl ?_
                repeat' (conv => whnf); first | refine CallP.rd (g1) rfl rfl rfl rfl ?_ | refine DCall.rd (g1) rfl rfl ?_ | refine CallP.rd (g2) rfl rfl rfl rfl ?_ | refine DCall.rd (g2) rfl rfl ?_ | refine CallP.rd (g3) rfl rfl rfl rfl ?_ | refine DCall.rd (g3) rfl rfl ?_ | refine CallP.rd (f1) rfl rfl rfl rfl ?_ | refine DCall.rd (f1) rfl rfl ?_ | refine CallP.rd (f2) rfl rfl rfl rfl ?_ | refine DCall.rd (f2) rfl rfl ?_ | refine CallP.rd (f3) rfl rfl rfl rfl ?_ | refine DCall.rd (f3) rfl rfl ?_ | refine CallP.rd (f4) rfl rfl rfl rfl ?_ | refine DCall.rd (f4) rfl rfl ?_ | refine Br.tt ?_ | refine Br.ff ?_ | refine Br.not ?_ | refine Br.dand (fun _ => ?_) (fun _ => ?_) | refine Br.dec (fun _ => ?_) (fun _ => ?_) | refine Br.beq (fun _ => ?_) (fun _ => ?_) | refine Br.bne (fun _ => ?_) (fun _ => ?_) | refine Br.seq (fun _ => ?_) (fun _ => ?_) | refine Elt.i (by omega) ?_ | refine EltN.i (by omega) ?_ | refine Nt.cast ?_ | refine Nt.mk _ rfl ?_ | refine EltN.mk _ rfl ?_ | refine Mx.mk _ rfl ?_ | refine Br.mk (fun _ => ?_) (fun _ => ?_) | refine EndP.mk ?_ trivial | refine EndP.mk ?_ ⟨.inr ⟨List.mem_cons_self .., ?_, rfl⟩, trivial⟩ | refine Ar.i64 (by omega) ?_ | refine Ar.u8 (by omega) ?_ | refine Quo.pos (by omega) ?_ | refine Rem.pos (by omega) ?_ | refine BsP.own ?_ | refine Ob.mk ⟨rfl, rfl⟩ ?_ | refine Ob.mk (flat_i _ _).1 ?_ | refine Ob.mk (flat_i _ _) ?_ | refine Ob.mk (flat_s _) ?_ | refine Ob.mk (by first | omega | (simp; first | done | fail) | (simp; omega)) ?_ | fail
                all_goals first
                  | (exfalso; omega)
                  | rfl
              · rw [decide_eq_false h7] at f4
                rw [rhV_no (fun k => h7 k.2.2.2.2)]
                refine vow_of_ev (fn := Try.f80) [] [(0, 0), (19, 31), (32, 33), (33, 39), (39, 40), (41, 42), (42, 51), (51, 52), (53, 54), (54, 61), (61, 68), (68, 76), (77, 78), (78, 80)] tt_ok Try.func80 (by decide) rfl (Nat.le_of_ble_eq_true rfl) rfl rfl rfl ?_
                repeat' (conv => whnf); first | refine CallP.rd (g1) rfl rfl rfl rfl ?_ | refine DCall.rd (g1) rfl rfl ?_ | refine CallP.rd (g2) rfl rfl rfl rfl ?_ | refine DCall.rd (g2) rfl rfl ?_ | refine CallP.rd (g3) rfl rfl rfl rfl ?_ | refine DCall.rd (g3) rfl rfl ?_ | refine CallP.rd (f1) rfl rfl rfl rfl ?_ | refine DCall.rd (f1) rfl rfl ?_ | refine CallP.rd (f2) rfl rfl rfl rfl ?_ | refine DCall.rd (f2) rfl rfl ?_ | refine CallP.rd (f3) rfl rfl rfl rfl ?_ | refine DCall.rd (f3) rfl rfl ?_ | refine CallP.rd (f4) rfl rfl rfl rfl ?_ | refine DCall.rd (f4) rfl rfl ?_ | refine Br.tt ?_ | refine Br.ff ?_ | refine Br.not ?_ | refine Br.dand (fun _ => ?_) (fun _ => ?_) | refine Br.dec (fun _ => ?_) (fun _ => ?_) | refine Br.beq (fun _ => ?_) (fun _ => ?_) | refine Br.bne (fun _ => ?_) (fun _ => ?_) | refine Br.seq (fun _ => ?_) (fun _ => ?_) | refine Elt.i (by omega) ?_ | refine EltN.i (by omega) ?_ | refine Nt.cast ?_ | refine Nt.mk _ rfl ?_ | refine EltN.mk _ rfl ?_ | refine Mx.mk _ rfl ?_ | refine Br.mk (fun _ => ?_) (fun _ => ?_) | refine EndP.mk ?_ trivial | refine EndP.mk ?_ ⟨.inr ⟨List.mem_cons_self .., ?_, rfl⟩, trivial⟩ | refine Ar.i64 (by omega) ?_ | refine Ar.u8 (by omega) ?_ | refine Quo.pos (by omega) ?_ | refine Rem.pos (by omega) ?_ | refine BsP.own ?_ | refine Ob.mk ⟨rfl, rfl⟩ ?_ | refine Ob.mk (flat_i _ _).1 ?_ | refine Ob.mk (flat_i _ _) ?_ | refine Ob.mk (flat_s _) ?_ | refine Ob.mk (by first | omega | (simp; first | done | fail) | (simp; omega)) ?_ | fail
                all_goals first
                  | (exfalso; omega)
                  | rfl
            · rw [seR, if_neg h6] at f3
              rw [rhV_no (fun k => h6 k.2.2.2.1)]
              refine vow_of_ev (fn := Try.f80) [] [(0, 0), (19, 31), (32, 33), (33, 39), (39, 40), (41, 42), (42, 51), (51, 52), (53, 54), (54, 61), (61, 68), (68, 76), (77, 78), (78, 80)] tt_ok Try.func80 (by decide) rfl (Nat.le_of_ble_eq_true rfl) rfl rfl rfl ?_
              repeat' (conv => whnf); first | refine CallP.rd (g1) rfl rfl rfl rfl ?_ | refine DCall.rd (g1) rfl rfl ?_ | refine CallP.rd (g2) rfl rfl rfl rfl ?_ | refine DCall.rd (g2) rfl rfl ?_ | refine CallP.rd (g3) rfl rfl rfl rfl ?_ | refine DCall.rd (g3) rfl rfl ?_ | refine CallP.rd (f1) rfl rfl rfl rfl ?_ | refine DCall.rd (f1) rfl rfl ?_ | refine CallP.rd (f2) rfl rfl rfl rfl ?_ | refine DCall.rd (f2) rfl rfl ?_ | refine CallP.rd (f3) rfl rfl rfl rfl ?_ | refine DCall.rd (f3) rfl rfl ?_ | refine Br.tt ?_ | refine Br.ff ?_ | refine Br.not ?_ | refine Br.dand (fun _ => ?_) (fun _ => ?_) | refine Br.dec (fun _ => ?_) (fun _ => ?_) | refine Br.beq (fun _ => ?_) (fun _ => ?_) | refine Br.bne (fun _ => ?_) (fun _ => ?_) | refine Br.seq (fun _ => ?_) (fun _ => ?_) | refine Elt.i (by omega) ?_ | refine EltN.i (by omega) ?_ | refine Nt.cast ?_ | refine Nt.mk _ rfl ?_ | refine EltN.mk _ rfl ?_ | refine Mx.mk _ rfl ?_ | refine Br.mk (fun _ => ?_) (fun _ => ?_) | refine EndP.mk ?_ trivial | refine EndP.mk ?_ ⟨.inr ⟨List.mem_cons_self .., ?_, rfl⟩, trivial⟩ | refine Ar.i64 (by omega) ?_ | refine Ar.u8 (by omega) ?_ | refine Quo.pos (by omega) ?_ | refine Rem.pos (by omega) ?_ | refine BsP.own ?_ | refine Ob.mk ⟨rfl, rfl⟩ ?_ | refine Ob.mk (flat_i _ _).1 ?_ | refine Ob.mk (flat_i _ _) ?_ | refine Ob.mk (flat_s _) ?_ | refine Ob.mk (by first | omega | (simp; first | done | fail) | (simp; omega)) ?_ | fail
              all_goals first
                | (exfalso; omega)
                | rfl
          · have h5' : ¬ rhA t + bits.toNat ≤ t.length := h5
            simp only [rdO, if_neg h5', rdV] at f2
            rw [rhV_no (fun k => h5 k.2.2.1)]
            refine vow_of_ev (fn := Try.f80) [] [(0, 0), (19, 31), (32, 33), (33, 39), (39, 40), (41, 42), (42, 51), (51, 52), (53, 54), (54, 61), (61, 68), (68, 76), (77, 78), (78, 80)] tt_ok Try.func80 (by decide) rfl (Nat.le_of_ble_eq_true rfl) rfl rfl rfl ?_
            repeat' (conv => whnf); first | refine CallP.rd (g1) rfl rfl rfl rfl ?_ | refine DCall.rd (g1) rfl rfl ?_ | refine CallP.rd (g2) rfl rfl rfl rfl ?_ | refine DCall.rd (g2) rfl rfl ?_ | refine CallP.rd (g3) rfl rfl rfl rfl ?_ | refine DCall.rd (g3) rfl rfl ?_ | refine CallP.rd (f1) rfl rfl rfl rfl ?_ | refine DCall.rd (f1) rfl rfl ?_ | refine CallP.rd (f2) rfl rfl rfl rfl ?_ | refine DCall.rd (f2) rfl rfl ?_ | refine Br.tt ?_ | refine Br.ff ?_ | refine Br.not ?_ | refine Br.dand (fun _ => ?_) (fun _ => ?_) | refine Br.dec (fun _ => ?_) (fun _ => ?_) | refine Br.beq (fun _ => ?_) (fun _ => ?_) | refine Br.bne (fun _ => ?_) (fun _ => ?_) | refine Br.seq (fun _ => ?_) (fun _ => ?_) | refine Elt.i (by omega) ?_ | refine EltN.i (by omega) ?_ | refine Nt.cast ?_ | refine Nt.mk _ rfl ?_ | refine EltN.mk _ rfl ?_ | refine Mx.mk _ rfl ?_ | refine Br.mk (fun _ => ?_) (fun _ => ?_) | refine EndP.mk ?_ trivial | refine EndP.mk ?_ ⟨.inr ⟨List.mem_cons_self .., ?_, rfl⟩, trivial⟩ | refine Ar.i64 (by omega) ?_ | refine Ar.u8 (by omega) ?_ | refine Quo.pos (by omega) ?_ | refine Rem.pos (by omega) ?_ | refine BsP.own ?_ | refine Ob.mk ⟨rfl, rfl⟩ ?_ | refine Ob.mk (flat_i _ _).1 ?_ | refine Ob.mk (flat_i _ _) ?_ | refine Ob.mk (flat_s _) ?_ | refine Ob.mk (by first | omega | (simp; first | done | fail) | (simp; omega)) ?_ | fail
            all_goals first
              | (exfalso; omega)
              | rfl
        · simp only [ueR_no h4, rdV] at f1
          rw [rhV_no (fun k => h4 k.2.1)]
          refine vow_of_ev (fn := Try.f80) [] [(0, 0), (19, 31), (32, 33), (33, 39), (39, 40), (41, 42), (42, 51), (51, 52), (53, 54), (54, 61), (61, 68), (68, 76), (77, 78), (78, 80)] tt_ok Try.func80 (by decide) rfl (Nat.le_of_ble_eq_true rfl) rfl rfl rfl ?_
          repeat' (conv => whnf); first | refine CallP.rd (g1) rfl rfl rfl rfl ?_ | refine DCall.rd (g1) rfl rfl ?_ | refine CallP.rd (g2) rfl rfl rfl rfl ?_ | refine DCall.rd (g2) rfl rfl ?_ | refine CallP.rd (g3) rfl rfl rfl rfl ?_ | refine DCall.rd (g3) rfl rfl ?_ | refine CallP.rd (f1) rfl rfl rfl rfl ?_ | refine DCall.rd (f1) rfl rfl ?_ | refine Br.tt ?_ | refine Br.ff ?_ | refine Br.not ?_ | refine Br.dand (fun _ => ?_) (fun _ => ?_) | refine Br.dec (fun _ => ?_) (fun _ => ?_) | refine Br.beq (fun _ => ?_) (fun _ => ?_) | refine Br.bne (fun _ => ?_) (fun _ => ?_) | refine Br.seq (fun _ => ?_) (fun _ => ?_) | refine Elt.i (by omega) ?_ | refine EltN.i (by omega) ?_ | refine Nt.cast ?_ | refine Nt.mk _ rfl ?_ | refine EltN.mk _ rfl ?_ | refine Mx.mk _ rfl ?_ | refine Br.mk (fun _ => ?_) (fun _ => ?_) | refine EndP.mk ?_ trivial | refine EndP.mk ?_ ⟨.inr ⟨List.mem_cons_self .., ?_, rfl⟩, trivial⟩ | refine Ar.i64 (by omega) ?_ | refine Ar.u8 (by omega) ?_ | refine Quo.pos (by omega) ?_ | refine Rem.pos (by omega) ?_ | refine BsP.own ?_ | refine Ob.mk ⟨rfl, rfl⟩ ?_ | refine Ob.mk (flat_i _ _).1 ?_ | refine Ob.mk (flat_i _ _) ?_ | refine Ob.mk (flat_s _) ?_ | refine Ob.mk (by first | omega | (simp; first | done | fail) | (simp; omega)) ?_ | fail
          all_goals first
            | (exfalso; omega)
            | rfl
      · rw [decide_eq_false h3] at g3
        rw [rhV_no (fun k => h3 k.1.2.2)]
        refine vow_of_ev (fn := Try.f80) [] [(0, 0), (19, 31), (32, 33), (33, 39), (39, 40), (41, 42), (42, 51), (51, 52), (53, 54), (54, 61), (61, 68), (68, 76), (77, 78), (78, 80)] tt_ok Try.func80 (by decide) rfl (Nat.le_of_ble_eq_true rfl) rfl rfl rfl ?_
        repeat' (conv => whnf); first | refine CallP.rd (g1) rfl rfl rfl rfl ?_ | refine DCall.rd (g1) rfl rfl ?_ | refine CallP.rd (g2) rfl rfl rfl rfl ?_ | refine DCall.rd (g2) rfl rfl ?_ | refine CallP.rd (g3) rfl rfl rfl rfl ?_ | refine DCall.rd (g3) rfl rfl ?_ | refine Br.tt ?_ | refine Br.ff ?_ | refine Br.not ?_ | refine Br.dand (fun _ => ?_) (fun _ => ?_) | refine Br.dec (fun _ => ?_) (fun _ => ?_) | refine Br.beq (fun _ => ?_) (fun _ => ?_) | refine Br.bne (fun _ => ?_) (fun _ => ?_) | refine Br.seq (fun _ => ?_) (fun _ => ?_) | refine Elt.i (by omega) ?_ | refine EltN.i (by omega) ?_ | refine Nt.cast ?_ | refine Nt.mk _ rfl ?_ | refine EltN.mk _ rfl ?_ | refine Mx.mk _ rfl ?_ | refine Br.mk (fun _ => ?_) (fun _ => ?_) | refine EndP.mk ?_ trivial | refine EndP.mk ?_ ⟨.inr ⟨List.mem_cons_self .., ?_, rfl⟩, trivial⟩ | refine Ar.i64 (by omega) ?_ | refine Ar.u8 (by omega) ?_ | refine Quo.pos (by omega) ?_ | refine Rem.pos (by omega) ?_ | refine BsP.own ?_ | refine Ob.mk ⟨rfl, rfl⟩ ?_ | refine Ob.mk (flat_i _ _).1 ?_ | refine Ob.mk (flat_i _ _) ?_ | refine Ob.mk (flat_s _) ?_ | refine Ob.mk (by first | omega | (simp; first | done | fail) | (simp; omega)) ?_ | fail
        all_goals rfl
    · rw [show seqOk lvl bits c r = false by simpa using h2] at g2
      rw [rhV_no (fun k => h2 k.1.2.1)]
      refine vow_of_ev (fn := Try.f80) [] [(0, 0), (19, 31), (32, 33), (33, 39), (39, 40), (41, 42), (42, 51), (51, 52), (53, 54), (54, 61), (61, 68), (68, 76), (77, 78), (78, 80)] tt_ok Try.func80 (by decide) rfl (Nat.le_of_ble_eq_true rfl) rfl rfl rfl ?_
      repeat' (conv => whnf); first | refine CallP.rd (g1) rfl rfl rfl rfl ?_ | refine DCall.rd (g1) rfl rfl ?_ | refine CallP.rd (g2) rfl rfl rfl rfl ?_ | refine DCall.rd (g2) rfl rfl ?_ | refine Br.tt ?_ | refine Br.ff ?_ | refine Br.not ?_ | refine Br.dand (fun _ => ?_) (fun _ => ?_) | refine Br.dec (fun _ => ?_) (fun _ => ?_) | refine Br.beq (fun _ => ?_) (fun _ => ?_) | refine Br.bne (fun _ => ?_) (fun _ => ?_) | refine Br.seq (fun _ => ?_) (fun _ => ?_) | refine Elt.i (by omega) ?_ | refine EltN.i (by omega) ?_ | refine Nt.cast ?_ | refine Nt.mk _ rfl ?_ | refine EltN.mk _ rfl ?_ | refine Mx.mk _ rfl ?_ | refine Br.mk (fun _ => ?_) (fun _ => ?_) | refine EndP.mk ?_ trivial | refine EndP.mk ?_ ⟨.inr ⟨List.mem_cons_self .., ?_, rfl⟩, trivial⟩ | refine Ar.i64 (by omega) ?_ | refine Ar.u8 (by omega) ?_ | refine Quo.pos (by omega) ?_ | refine Rem.pos (by omega) ?_ | refine BsP.own ?_ | refine Ob.mk ⟨rfl, rfl⟩ ?_ | refine Ob.mk (flat_i _ _).1 ?_ | refine Ob.mk (flat_i _ _) ?_ | refine Ob.mk (flat_s _) ?_ | refine Ob.mk (by first | omega | (simp; first | done | fail) | (simp; omega)) ?_ | fail
      all_goals rfl
  · rw [decide_eq_false h1] at g1
    rw [rhV_no (fun k => h1 k.1.1)]
    refine vow_of_ev (fn := Try.f80) [] [(0, 0), (19, 31), (32, 33), (33, 39), (39, 40), (41, 42), (42, 51), (51, 52), (53, 54), (54, 61), (61, 68), (68, 76), (77, 78), (78, 80)] tt_ok Try.func80 (by decide) rfl (Nat.le_of_ble_eq_true rfl) rfl rfl rfl ?_
    repeat' (conv => whnf); first | refine CallP.rd (g1) rfl rfl rfl rfl ?_ | refine DCall.rd (g1) rfl rfl ?_ | refine Br.tt ?_ | refine Br.ff ?_ | refine Br.not ?_ | refine Br.dand (fun _ => ?_) (fun _ => ?_) | refine Br.dec (fun _ => ?_) (fun _ => ?_) | refine Br.beq (fun _ => ?_) (fun _ => ?_) | refine Br.bne (fun _ => ?_) (fun _ => ?_) | refine Br.seq (fun _ => ?_) (fun _ => ?_) | refine Elt.i (by omega) ?_ | refine EltN.i (by omega) ?_ | refine Nt.cast ?_ | refine Nt.mk _ rfl ?_ | refine EltN.mk _ rfl ?_ | refine Mx.mk _ rfl ?_ | refine Br.mk (fun _ => ?_) (fun _ => ?_) | refine EndP.mk ?_ trivial | refine EndP.mk ?_ ⟨.inr ⟨List.mem_cons_self .., ?_, rfl⟩, trivial⟩ | refine Ar.i64 (by omega) ?_ | refine Ar.u8 (by omega) ?_ | refine Quo.pos (by omega) ?_ | refine Rem.pos (by omega) ?_ | refine BsP.own ?_ | refine Ob.mk ⟨rfl, rfl⟩ ?_ | refine Ob.mk (flat_i _ _).1 ?_ | refine Ob.mk (flat_i _ _) ?_ | refine Ob.mk (flat_s _) ?_ | refine Ob.mk (by first | omega | (simp; first | done | fail) | (simp; omega)) ?_ | fail
    all_goals rfl

set_option maxHeartbeats 6000000 in
theorem readHead_impl (lvl bits : Int) (c r : List Int) (p : Par) (t : List UInt8) (hl : t.length ≤ 2000000) :
    Vow Try.prog 82 [seqV lvl bits c r, parV p, .s t] (rhV lvl bits c r p t) [] := by
  have g1 := opened_vow t
  have g2 := seqOk_impl lvl bits c r
  have g3 := parOk_impl p
  by_cases h2 : seqOk lvl bits c r = true
  · rw [h2] at g2
    have hb := (seqOk_sides h2).2
    by_cases h3 : parOk p
    · rw [decide_eq_true h3] at g3
      have hq : 0 ≤ p.qp ∧ p.qp ≤ 40 := h3.1
      by_cases h1 : rowOk t
      · rw [decide_eq_true h1] at g1
        have hl4 := h1.1
        have f1 := ue_scan t h1.2 (by omega) 0 (by omega)
        by_cases h4 : ueOk t 0
        · rw [if_pos h4, decide_eq_true h4, show ueAt t 0 = rhA t by unfold ueAt; rw [if_pos ⟨h4.1, h4.2.1⟩]; rfl] at f1
          have h4' := h4.2.1
          have hu1 := h4.2.2
          by_cases h5 : rhB bits t ≤ t.length
          · have f2 := fix_ok t h1.2 (by omega) (rhA t) bits.toNat (by omega) h5
            rw [show ((bits.toNat : Nat) : Int) = bits by omega] at f2
            have f3 := se_scan t h1.2 (by omega) (rhB bits t) h5
            by_cases h6 : ueOk t (rhB bits t)
            · rw [if_pos h6, decide_eq_true h6, show ueAt t (rhB bits t) = rhC bits t by unfold ueAt; rw [if_pos ⟨h6.1, h6.2.1⟩]; rfl] at f3
              have hu := openN_fit (u := ueV t (rhB bits t) - 1) (by have := h6.2.2; omega)
              have hh : (⟨(ueV t 0 - 1 : Nat), rhF bits t, rhQ bits t + p.qp⟩ : Head) = rhH bits p t := by unfold rhH; rw [Int.add_comm]
              have f4 := headOk_impl lvl bits c r p (rhH bits p t)
              by_cases h7 : headOk lvl bits c r p (rhH bits p t)
              · rw [decide_eq_true h7, ← hh] at f4
                rw [rhV_yes ⟨⟨h1, h2, h3⟩, h4, h5, h6, h7⟩, ← hh]
                refine vow_of_ev (fn := Try.f82) [] [(0, 0), (11, 13), (13, 20), (21, 22), (22, 25), (25, 30), (30, 33), (33, 39), (39, 49), (50, 51), (51, 56)] tt_ok Try.func82 (by decide) rfl (Nat.le_of_ble_eq_true rfl) rfl rfl rfl ?_
                repeat' (conv => whnf); first | refine CallP.rd (g1) rfl rfl rfl rfl ?_ | refine DCall.rd (g1) rfl rfl ?_ | refine CallP.rd (g2) rfl rfl rfl rfl ?_ | refine DCall.rd (g2) rfl rfl ?_ | refine CallP.rd (g3) rfl rfl rfl rfl ?_ | refine DCall.rd (g3) rfl rfl ?_ | refine CallP.ho [([14], [2])] (f1) rfl rfl ?_ | refine CallP.ho [([11], [2])] (f1) rfl rfl ?_ | refine CallP.ho [([14], [2])] (f2) rfl rfl ?_ | refine CallP.ho [([11], [2])] (f2) rfl rfl ?_ | refine CallP.ho [([14], [2])] (f3) rfl rfl ?_ | refine CallP.ho [([11], [2])] (f3) rfl rfl ?_ | refine CallP.rd (f4) rfl rfl rfl rfl ?_ | refine DCall.rd (f4) rfl rfl ?_ | refine Br.tt ?_ | refine Br.ff ?_ | refine Br.not ?_ | refine Br.dand (fun _ => ?_) (fun _ => ?_) | refine Br.dec (fun _ => ?_) (fun _ => ?_) | refine Br.beq (fun _ => ?_) (fun _ => ?_) | refine Br.bne (fun _ => ?_) (fun _ => ?_) | refine Br.seq (fun _ => ?_) (fun _ => ?_) | refine Elt.i (by omega) ?_ | refine EltN.i (by omega) ?_ | refine Nt.cast ?_ | refine Nt.mk _ rfl ?_ | refine EltN.mk _ rfl ?_ | refine Mx.mk _ rfl ?_ | refine Br.mk (fun _ => ?_) (fun _ => ?_) | refine EndP.mk ?_ trivial | refine EndP.mk ?_ ⟨.inr ⟨List.mem_cons_self .., ?_, rfl⟩, trivial⟩ | refine Ar.i64 (by omega) ?_ | refine Ar.u8 (by omega) ?_ | refine Quo.pos (by omega) ?_ | refine Rem.pos (by omega) ?_ | refine BsP.own ?_ | refine Ob.mk ⟨rfl, rfl⟩ ?_ | refine Ob.mk (flat_i _ _).1 ?_ | refine Ob.mk (flat_i _ _) ?_ | refine Ob.mk (flat_s _) ?_ | refine Ob.mk (by first | omega | (simp; first | done | fail) | (simp; omega)) ?_ | fail
                all_goals first
                  | (exfalso; omega)
                  | rfl
              · rw [decide_eq_false h7, ← hh] at f4
                rw [rhV_no (fun k => h7 k.2.2.2.2)]
                refine vow_of_ev (fn := Try.f82) [] [(0, 0), (11, 13), (13, 20), (21, 22), (22, 25), (25, 30), (30, 33), (33, 39), (39, 49), (50, 51), (51, 56)] tt_ok Try.func82 (by decide) rfl (Nat.le_of_ble_eq_true rfl) rfl rfl rfl ?_
                repeat' (conv => whnf); first | refine CallP.rd (g1) rfl rfl rfl rfl ?_ | refine DCall.rd (g1) rfl rfl ?_ | refine CallP.rd (g2) rfl rfl rfl rfl ?_ | refine DCall.rd (g2) rfl rfl ?_ | refine CallP.rd (g3) rfl rfl rfl rfl ?_ | refine DCall.rd (g3) rfl rfl ?_ | refine CallP.ho [([14], [2])] (f1) rfl rfl ?_ | refine CallP.ho [([11], [2])] (f1) rfl rfl ?_ | refine CallP.ho [([14], [2])] (f2) rfl rfl ?_ | refine CallP.ho [([11], [2])] (f2) rfl rfl ?_ | refine CallP.ho [([14], [2])] (f3) rfl rfl ?_ | refine CallP.ho [([11], [2])] (f3) rfl rfl ?_ | refine CallP.rd (f4) rfl rfl rfl rfl ?_ | refine DCall.rd (f4) rfl rfl ?_ | refine Br.tt ?_ | refine Br.ff ?_ | refine Br.not ?_ | refine Br.dand (fun _ => ?_) (fun _ => ?_) | refine Br.dec (fun _ => ?_) (fun _ => ?_) | refine Br.beq (fun _ => ?_) (fun _ => ?_) | refine Br.bne (fun _ => ?_) (fun _ => ?_) | refine Br.seq (fun _ => ?_) (fun _ => ?_) | refine Elt.i (by omega) ?_ | refine EltN.i (by omega) ?_ | refine Nt.cast ?_ | refine Nt.mk _ rfl ?_ | refine EltN.mk _ rfl ?_ | refine Mx.mk _ rfl ?_ | refine Br.mk (fun _ => ?_) (fun _ => ?_) | refine EndP.mk ?_ trivial | refine EndP.mk ?_ ⟨.inr ⟨List.mem_cons_self .., ?_, rfl⟩, trivial⟩ | refine Ar.i64 (by omega) ?_ | refine Ar.u8 (by omega) ?_ | refine Quo.pos (by omega) ?_ | refine Rem.pos (by omega) ?_ | refine BsP.own ?_ | refine Ob.mk ⟨rfl, rfl⟩ ?_ | refine Ob.mk (flat_i _ _).1 ?_ | refine Ob.mk (flat_i _ _) ?_ | refine Ob.mk (flat_s _) ?_ | refine Ob.mk (by first | omega | (simp; first | done | fail) | (simp; omega)) ?_ | fail
                all_goals first
                  | (exfalso; omega)
                  | rfl
            · rw [if_neg h6, decide_eq_false h6] at f3
              rw [rhV_no (fun k => h6 k.2.2.2.1)]
              refine vow_of_ev (fn := Try.f82) [] [(0, 0), (11, 13), (13, 20), (21, 22), (22, 25), (25, 30), (30, 33), (33, 39), (39, 49), (50, 51), (51, 56)] tt_ok Try.func82 (by decide) rfl (Nat.le_of_ble_eq_true rfl) rfl rfl rfl ?_
              repeat' (conv => whnf); first | refine CallP.rd (g1) rfl rfl rfl rfl ?_ | refine DCall.rd (g1) rfl rfl ?_ | refine CallP.rd (g2) rfl rfl rfl rfl ?_ | refine DCall.rd (g2) rfl rfl ?_ | refine CallP.rd (g3) rfl rfl rfl rfl ?_ | refine DCall.rd (g3) rfl rfl ?_ | refine CallP.ho [([14], [2])] (f1) rfl rfl ?_ | refine CallP.ho [([11], [2])] (f1) rfl rfl ?_ | refine CallP.ho [([14], [2])] (f2) rfl rfl ?_ | refine CallP.ho [([11], [2])] (f2) rfl rfl ?_ | refine CallP.ho [([14], [2])] (f3) rfl rfl ?_ | refine CallP.ho [([11], [2])] (f3) rfl rfl ?_ | refine Br.tt ?_ | refine Br.ff ?_ | refine Br.not ?_ | refine Br.dand (fun _ => ?_) (fun _ => ?_) | refine Br.dec (fun _ => ?_) (fun _ => ?_) | refine Br.beq (fun _ => ?_) (fun _ => ?_) | refine Br.bne (fun _ => ?_) (fun _ => ?_) | refine Br.seq (fun _ => ?_) (fun _ => ?_) | refine Elt.i (by omega) ?_ | refine EltN.i (by omega) ?_ | refine Nt.cast ?_ | refine Nt.mk _ rfl ?_ | refine EltN.mk _ rfl ?_ | refine Mx.mk _ rfl ?_ | refine Br.mk (fun _ => ?_) (fun _ => ?_) | refine EndP.mk ?_ trivial | refine EndP.mk ?_ ⟨.inr ⟨List.mem_cons_self .., ?_, rfl⟩, trivial⟩ | refine Ar.i64 (by omega) ?_ | refine Ar.u8 (by omega) ?_ | refine Quo.pos (by omega) ?_ | refine Rem.pos (by omega) ?_ | refine BsP.own ?_ | refine Ob.mk ⟨rfl, rfl⟩ ?_ | refine Ob.mk (flat_i _ _).1 ?_ | refine Ob.mk (flat_i _ _) ?_ | refine Ob.mk (flat_s _) ?_ | refine Ob.mk (by first | omega | (simp; first | done | fail) | (simp; omega)) ?_ | fail
              all_goals first
                | (exfalso; omega)
                | rfl
          · have f2 := fix_short t (by omega) (rhA t) bits.toNat (by unfold rhA; omega) (by omega) h5
            rw [show ((bits.toNat : Nat) : Int) = bits by omega] at f2
            have f3 := se_bad t (rhA t)
            rw [rhV_no (fun k => h5 k.2.2.1)]
            refine vow_of_ev (fn := Try.f82) [] [(0, 0), (11, 13), (13, 20), (21, 22), (22, 25), (25, 30), (30, 33), (33, 39), (39, 49), (50, 51), (51, 56)] tt_ok Try.func82 (by decide) rfl (Nat.le_of_ble_eq_true rfl) rfl rfl rfl ?_
            repeat' (conv => whnf); first | refine CallP.rd (g1) rfl rfl rfl rfl ?_ | refine DCall.rd (g1) rfl rfl ?_ | refine CallP.rd (g2) rfl rfl rfl rfl ?_ | refine DCall.rd (g2) rfl rfl ?_ | refine CallP.rd (g3) rfl rfl rfl rfl ?_ | refine DCall.rd (g3) rfl rfl ?_ | refine CallP.ho [([14], [2])] (f1) rfl rfl ?_ | refine CallP.ho [([11], [2])] (f1) rfl rfl ?_ | refine CallP.ho [([14], [2])] (f2) rfl rfl ?_ | refine CallP.ho [([11], [2])] (f2) rfl rfl ?_ | refine CallP.ho [([14], [2])] (f3) rfl rfl ?_ | refine CallP.ho [([11], [2])] (f3) rfl rfl ?_ | refine Br.tt ?_ | refine Br.ff ?_ | refine Br.not ?_ | refine Br.dand (fun _ => ?_) (fun _ => ?_) | refine Br.dec (fun _ => ?_) (fun _ => ?_) | refine Br.beq (fun _ => ?_) (fun _ => ?_) | refine Br.bne (fun _ => ?_) (fun _ => ?_) | refine Br.seq (fun _ => ?_) (fun _ => ?_) | refine Elt.i (by omega) ?_ | refine EltN.i (by omega) ?_ | refine Nt.cast ?_ | refine Nt.mk _ rfl ?_ | refine EltN.mk _ rfl ?_ | refine Mx.mk _ rfl ?_ | refine Br.mk (fun _ => ?_) (fun _ => ?_) | refine EndP.mk ?_ trivial | refine EndP.mk ?_ ⟨.inr ⟨List.mem_cons_self .., ?_, rfl⟩, trivial⟩ | refine Ar.i64 (by omega) ?_ | refine Ar.u8 (by omega) ?_ | refine Quo.pos (by omega) ?_ | refine Rem.pos (by omega) ?_ | refine BsP.own ?_ | refine Ob.mk ⟨rfl, rfl⟩ ?_ | refine Ob.mk (flat_i _ _).1 ?_ | refine Ob.mk (flat_i _ _) ?_ | refine Ob.mk (flat_s _) ?_ | refine Ob.mk (by first | omega | (simp; first | done | fail) | (simp; omega)) ?_ | fail
            all_goals first
              | (exfalso; omega)
              | rfl
        · rw [if_neg h4, decide_eq_false h4] at f1
          have f2 := fix_bad t (ueAt t 0) bits
          have f3 := se_bad t (ueAt t 0)
          rw [rhV_no (fun k => h4 k.2.1)]
          refine vow_of_ev (fn := Try.f82) [] [(0, 0), (11, 13), (13, 20), (21, 22), (22, 25), (25, 30), (30, 33), (33, 39), (39, 49), (50, 51), (51, 56)] tt_ok Try.func82 (by decide) rfl (Nat.le_of_ble_eq_true rfl) rfl rfl rfl ?_
          repeat' (conv => whnf); first | refine CallP.rd (g1) rfl rfl rfl rfl ?_ | refine DCall.rd (g1) rfl rfl ?_ | refine CallP.rd (g2) rfl rfl rfl rfl ?_ | refine DCall.rd (g2) rfl rfl ?_ | refine CallP.rd (g3) rfl rfl rfl rfl ?_ | refine DCall.rd (g3) rfl rfl ?_ | refine CallP.ho [([14], [2])] (f1) rfl rfl ?_ | refine CallP.ho [([11], [2])] (f1) rfl rfl ?_ | refine CallP.ho [([14], [2])] (f2) rfl rfl ?_ | refine CallP.ho [([11], [2])] (f2) rfl rfl ?_ | refine CallP.ho [([14], [2])] (f3) rfl rfl ?_ | refine CallP.ho [([11], [2])] (f3) rfl rfl ?_ | refine Br.tt ?_ | refine Br.ff ?_ | refine Br.not ?_ | refine Br.dand (fun _ => ?_) (fun _ => ?_) | refine Br.dec (fun _ => ?_) (fun _ => ?_) | refine Br.beq (fun _ => ?_) (fun _ => ?_) | refine Br.bne (fun _ => ?_) (fun _ => ?_) | refine Br.seq (fun _ => ?_) (fun _ => ?_) | refine Elt.i (by omega) ?_ | refine EltN.i (by omega) ?_ | refine Nt.cast ?_ | refine Nt.mk _ rfl ?_ | refine EltN.mk _ rfl ?_ | refine Mx.mk _ rfl ?_ | refine Br.mk (fun _ => ?_) (fun _ => ?_) | refine EndP.mk ?_ trivial | refine EndP.mk ?_ ⟨.inr ⟨List.mem_cons_self .., ?_, rfl⟩, trivial⟩ | refine Ar.i64 (by omega) ?_ | refine Ar.u8 (by omega) ?_ | refine Quo.pos (by omega) ?_ | refine Rem.pos (by omega) ?_ | refine BsP.own ?_ | refine Ob.mk ⟨rfl, rfl⟩ ?_ | refine Ob.mk (flat_i _ _).1 ?_ | refine Ob.mk (flat_i _ _) ?_ | refine Ob.mk (flat_s _) ?_ | refine Ob.mk (by first | omega | (simp; first | done | fail) | (simp; omega)) ?_ | fail
          all_goals first
            | (exfalso; omega)
            | rfl
      · rw [decide_eq_false h1] at g1
        have f1 := ue_bad t 0
        have f2 := fix_bad t 0 bits
        have f3 := se_bad t 0
        rw [rhV_no (fun k => h1 k.1.1)]
        refine vow_of_ev (fn := Try.f82) [] [(0, 0), (11, 13), (13, 20), (21, 22), (22, 25), (25, 30), (30, 33), (33, 39), (39, 49), (50, 51), (51, 56)] tt_ok Try.func82 (by decide) rfl (Nat.le_of_ble_eq_true rfl) rfl rfl rfl ?_
        repeat' (conv => whnf); first | refine CallP.rd (g1) rfl rfl rfl rfl ?_ | refine DCall.rd (g1) rfl rfl ?_ | refine CallP.rd (g2) rfl rfl rfl rfl ?_ | refine DCall.rd (g2) rfl rfl ?_ | refine CallP.rd (g3) rfl rfl rfl rfl ?_ | refine DCall.rd (g3) rfl rfl ?_ | refine CallP.ho [([14], [2])] (f1) rfl rfl ?_ | refine CallP.ho [([11], [2])] (f1) rfl rfl ?_ | refine CallP.ho [([14], [2])] (f2) rfl rfl ?_ | refine CallP.ho [([11], [2])] (f2) rfl rfl ?_ | refine CallP.ho [([14], [2])] (f3) rfl rfl ?_ | refine CallP.ho [([11], [2])] (f3) rfl rfl ?_ | refine Br.tt ?_ | refine Br.ff ?_ | refine Br.not ?_ | refine Br.dand (fun _ => ?_) (fun _ => ?_) | refine Br.dec (fun _ => ?_) (fun _ => ?_) | refine Br.beq (fun _ => ?_) (fun _ => ?_) | refine Br.bne (fun _ => ?_) (fun _ => ?_) | refine Br.seq (fun _ => ?_) (fun _ => ?_) | refine Elt.i (by omega) ?_ | refine EltN.i (by omega) ?_ | refine Nt.cast ?_ | refine Nt.mk _ rfl ?_ | refine EltN.mk _ rfl ?_ | refine Mx.mk _ rfl ?_ | refine Br.mk (fun _ => ?_) (fun _ => ?_) | refine EndP.mk ?_ trivial | refine EndP.mk ?_ ⟨.inr ⟨List.mem_cons_self .., ?_, rfl⟩, trivial⟩ | refine Ar.i64 (by omega) ?_ | refine Ar.u8 (by omega) ?_ | refine Quo.pos (by omega) ?_ | refine Rem.pos (by omega) ?_ | refine BsP.own ?_ | refine Ob.mk ⟨rfl, rfl⟩ ?_ | refine Ob.mk (flat_i _ _).1 ?_ | refine Ob.mk (flat_i _ _) ?_ | refine Ob.mk (flat_s _) ?_ | refine Ob.mk (by first | omega | (simp; first | done | fail) | (simp; omega)) ?_ | fail
        all_goals first
          | (exfalso; omega)
          | rfl
    · rw [decide_eq_false h3] at g3
      rw [rhV_no (fun k => h3 k.1.2.2)]
      refine vow_of_ev (fn := Try.f82) [] [(0, 0), (11, 13), (13, 20), (21, 22), (22, 25), (25, 30), (30, 33), (33, 39), (39, 49), (50, 51), (51, 56)] tt_ok Try.func82 (by decide) rfl (Nat.le_of_ble_eq_true rfl) rfl rfl rfl ?_
      repeat' (conv => whnf); first | refine CallP.rd (g1) rfl rfl rfl rfl ?_ | refine DCall.rd (g1) rfl rfl ?_ | refine CallP.rd (g2) rfl rfl rfl rfl ?_ | refine DCall.rd (g2) rfl rfl ?_ | refine CallP.rd (g3) rfl rfl rfl rfl ?_ | refine DCall.rd (g3) rfl rfl ?_ | refine Br.tt ?_ | refine Br.ff ?_ | refine Br.not ?_ | refine Br.dand (fun _ => ?_) (fun _ => ?_) | refine Br.dec (fun _ => ?_) (fun _ => ?_) | refine Br.beq (fun _ => ?_) (fun _ => ?_) | refine Br.bne (fun _ => ?_) (fun _ => ?_) | refine Br.seq (fun _ => ?_) (fun _ => ?_) | refine Elt.i (by omega) ?_ | refine EltN.i (by omega) ?_ | refine Nt.cast ?_ | refine Nt.mk _ rfl ?_ | refine EltN.mk _ rfl ?_ | refine Mx.mk _ rfl ?_ | refine Br.mk (fun _ => ?_) (fun _ => ?_) | refine EndP.mk ?_ trivial | refine EndP.mk ?_ ⟨.inr ⟨List.mem_cons_self .., ?_, rfl⟩, trivial⟩ | refine Ar.i64 (by omega) ?_ | refine Ar.u8 (by omega) ?_ | refine Quo.pos (by omega) ?_ | refine Rem.pos (by omega) ?_ | refine BsP.own ?_ | refine Ob.mk ⟨rfl, rfl⟩ ?_ | refine Ob.mk (flat_i _ _).1 ?_ | refine Ob.mk (flat_i _ _) ?_ | refine Ob.mk (flat_s _) ?_ | refine Ob.mk (by first | omega | (simp; first | done | fail) | (simp; omega)) ?_ | fail
      all_goals rfl
  · rw [show seqOk lvl bits c r = false by simpa using h2] at g2
    rw [rhV_no (fun k => h2 k.1.2.1)]
    refine vow_of_ev (fn := Try.f82) [] [(0, 0), (11, 13), (13, 20), (21, 22), (22, 25), (25, 30), (30, 33), (33, 39), (39, 49), (50, 51), (51, 56)] tt_ok Try.func82 (by decide) rfl (Nat.le_of_ble_eq_true rfl) rfl rfl rfl ?_
    repeat' (conv => whnf); first | refine CallP.rd (g1) rfl rfl rfl rfl ?_ | refine DCall.rd (g1) rfl rfl ?_ | refine CallP.rd (g2) rfl rfl rfl rfl ?_ | refine DCall.rd (g2) rfl rfl ?_ | refine Br.tt ?_ | refine Br.ff ?_ | refine Br.not ?_ | refine Br.dand (fun _ => ?_) (fun _ => ?_) | refine Br.dec (fun _ => ?_) (fun _ => ?_) | refine Br.beq (fun _ => ?_) (fun _ => ?_) | refine Br.bne (fun _ => ?_) (fun _ => ?_) | refine Br.seq (fun _ => ?_) (fun _ => ?_) | refine Elt.i (by omega) ?_ | refine EltN.i (by omega) ?_ | refine Nt.cast ?_ | refine Nt.mk _ rfl ?_ | refine EltN.mk _ rfl ?_ | refine Mx.mk _ rfl ?_ | refine Br.mk (fun _ => ?_) (fun _ => ?_) | refine EndP.mk ?_ trivial | refine EndP.mk ?_ ⟨.inr ⟨List.mem_cons_self .., ?_, rfl⟩, trivial⟩ | refine Ar.i64 (by omega) ?_ | refine Ar.u8 (by omega) ?_ | refine Quo.pos (by omega) ?_ | refine Rem.pos (by omega) ?_ | refine BsP.own ?_ | refine Ob.mk ⟨rfl, rfl⟩ ?_ | refine Ob.mk (flat_i _ _).1 ?_ | refine Ob.mk (flat_i _ _) ?_ | refine Ob.mk (flat_s _) ?_ | refine Ob.mk (by first | omega | (simp; first | done | fail) | (simp; omega)) ?_ | fail
    all_goals rfl
end Go.Proofs.Ytfcjjkfjdecakaa
