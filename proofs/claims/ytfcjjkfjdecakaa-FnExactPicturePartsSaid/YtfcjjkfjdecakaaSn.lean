/- The words of a line. No condition. -/
import Derived.Test.YtfcjjkfjdecakaaSm
namespace Go.Proofs.Ytfcjjkfjdecakaa
open Go Go.Vx
set_option linter.unusedVariables false
set_option linter.unusedSimpArgs false
set_option maxHeartbeats 600000
set_option maxRecDepth 100000

/-- The words before place i, and where the next one begins. -/
def pS (t : List UInt8) : Nat → List (List UInt8) × Nat
  | 0 => ([], 0)
  | i + 1 => if i < t.length ∧ rb t i ≠ 32 then pS t i else
      (if (pS t i).2 < i then (pS t i).1 ++ [(t.drop (pS t i).2).take (i - (pS t i).2)] else (pS t i).1, i + 1)
def plain (t : List UInt8) (j : Nat) : Prop := 32 ≤ (rb t j).toNat ∧ (rb t j).toNat ≤ 126
instance (t : List UInt8) (j : Nat) : Decidable (plain t j) := by unfold plain; infer_instance
def partsOk (t : List UInt8) : Prop := t.length ≤ 600 ∧ (∀ j, j < t.length → plain t j) ∧ (pS t (t.length + 1)).1.length ≤ 12
instance (t : List UInt8) : Decidable (partsOk t) := by unfold partsOk; infer_instance
def partsO (t : List UInt8) : List (List UInt8) × Bool := if partsOk t then ((pS t (t.length + 1)).1, true) else ([], false)
theorem partsO_no {t : List UInt8} (h : ¬ partsOk t) : partsO t = ([], false) := by rw [partsO, if_neg h]
theorem partsO_yes {t : List UInt8} (h : partsOk t) : partsO t = ((pS t (t.length + 1)).1, true) := by rw [partsO, if_pos h]
theorem partsO_at {t : List UInt8} {i : Nat} (hi : i < t.length) (h : ¬ plain t i) : partsO t = ([], false) := partsO_no (fun k => h (k.2.1 i hi))

theorem pS_fit (t : List UInt8) : ∀ (i : Nat), (pS t i).2 ≤ i ∧ (pS t i).1.length ≤ i
  | 0 => ⟨Nat.le_refl _, Nat.le_refl _⟩
  | i + 1 => by
    have h := pS_fit t i
    simp only [pS]
    split
    · omega
    · split
      · simp; omega
      · simp; omega
theorem pS_stay {t : List UInt8} {i : Nat} (h : i < t.length ∧ rb t i ≠ 32) : pS t (i + 1) = pS t i := by simp only [pS]; rw [if_pos h]
theorem pS_word {t : List UInt8} {i : Nat} (h : ¬ (i < t.length ∧ rb t i ≠ 32)) (hb : (pS t i).2 < i) : pS t (i + 1) = ((pS t i).1 ++ [(t.drop (pS t i).2).take (i - (pS t i).2)], i + 1) := by
  simp only [pS]; rw [if_neg h, if_pos hb]
theorem pS_blank {t : List UInt8} {i : Nat} (h : ¬ (i < t.length ∧ rb t i ≠ 32)) (hb : ¬ (pS t i).2 < i) : pS t (i + 1) = ((pS t i).1, i + 1) := by
  simp only [pS]; rw [if_neg h, if_neg hb]
theorem rb_ne {t : List UInt8} {i : Nat} (h : (rb t i).toNat ≠ 32) : rb t i ≠ 32 := fun k => h (by rw [k]; rfl)
theorem rb_eq {t : List UInt8} {i : Nat} (h : (rb t i).toNat = 32) : rb t i = 32 := UInt8.toNat_inj.mp (by rw [h]; rfl)
theorem plain_next {t : List UInt8} {i : Nat} (h : ∀ j, j < i → j < t.length → plain t j) (hi : i < t.length → plain t i) : ∀ j, j < i + 1 → j < t.length → plain t j := fun j hj hl => by
  rcases Nat.lt_or_eq_of_le (Nat.le_of_lt_succ hj) with h1 | h1
  · exact h j h1 hl
  · subst h1; exact hi hl
theorem _root_.Go.Vx.Cut.mid {n a b : Nat} {k : IntKind} {κ : Nat → Nat → Prop} (h : a ≤ b ∧ b ≤ n) (g : κ a b) : Cut n (some (.i k (a : Int))) (some (.i k (b : Int))) κ := by
  refine .mk a b ?_ g
  simp only [boundsOf]
  rw [if_pos (by omega)]
  simp

theorem not_word {t : List UInt8} {i : Nat} (h : (rb t i).toNat = 32 ∨ ¬ i < t.length) : ¬ (i < t.length ∧ rb t i ≠ 32) := fun k => by
  rcases h with h | h
  · exact k.2 (rb_eq h)
  · exact h k.1

def wV (l : List (List UInt8)) : List V := l.map V.s


def frm (t : List UInt8) (i : Nat) : Int := if (pS t i).2 < i then ((pS t i).2 : Int) else -1
theorem frm_or (t : List UInt8) (i : Nat) : (frm t i = ((pS t i).2 : Int) ∧ (pS t i).2 < i) ∨ (frm t i = -1 ∧ ¬ (pS t i).2 < i) := by
  unfold frm; split
  · exact .inl ⟨rfl, by assumption⟩
  · exact .inr ⟨rfl, by assumption⟩
theorem frm_in {t : List UInt8} {i : Nat} (h : i < t.length ∧ rb t i ≠ 32) (hb : (pS t i).2 < i) : frm t (i + 1) = frm t i := by
  unfold frm; rw [pS_stay h, if_pos (by omega), if_pos hb]
theorem frm_new {t : List UInt8} {i : Nat} (h : i < t.length ∧ rb t i ≠ 32) (hb : (pS t i).2 = i) : frm t (i + 1) = (i : Int) := by
  unfold frm; rw [pS_stay h, if_pos (by omega), hb]
theorem frm_end {t : List UInt8} {i : Nat} (h : ¬ (i < t.length ∧ rb t i ≠ 32)) : frm t (i + 1) = -1 := by
  have : (pS t (i + 1)).2 = i + 1 := by simp only [pS]; rw [if_neg h]
  unfold frm; rw [this, if_neg (by omega)]
theorem frm_none {t : List UInt8} {i : Nat} (h : ¬ (i < t.length ∧ rb t i ≠ 32)) (hb : frm t i = -1) : frm t (i + 1) = frm t i := by rw [frm_end h, hb]
theorem _root_.Go.Vx.Cut.from {n : Nat} (a : Nat) {b : Nat} {x : Int} {k : IntKind} {κ : Nat → Nat → Prop} (h : x = (a : Int) ∧ a ≤ b ∧ b ≤ n) (g : κ a b) : Cut n (some (.i k x)) (some (.i k (b : Int))) κ := by
  obtain ⟨rfl, h⟩ := h
  exact Cut.mid h g

theorem parts_impl (t : List UInt8) : Vow Try.prog 89 [.s t] (.tp [.ow 1 (wV (partsO t).1), .b (partsO t).2]) [] := by
  refine vow_of_ev (fn := Try.f89) [] [(0, 0), (8, 10), (11, 12), (12, 13), (0, 0), (0, 0), (13, 16), (17, 19), (19, 30), (31, 32), (32, 42), (42, 47), (48, 49), (49, 53), (54, 61), (0, 0), (61, 63), (64, 65), (65, 66)] tt_ok Try.func89 (by decide) rfl (Nat.le_of_ble_eq_true rfl) rfl rfl rfl ?_
  repeat' (conv => whnf); first | refine Br.tt ?_ | refine Br.ff ?_ | refine Br.not ?_ | refine Br.dand (fun _ => ?_) (fun _ => ?_) | refine Br.dec (fun _ => ?_) (fun _ => ?_) | refine Br.beq (fun _ => ?_) (fun _ => ?_) | refine Br.bne (fun _ => ?_) (fun _ => ?_) | refine Br.seq (fun _ => ?_) (fun _ => ?_) | refine Elt.i (by omega) ?_ | refine EltN.i (by omega) ?_ | refine Nt.cast ?_ | refine Nt.mk _ rfl ?_ | refine EltN.mk _ rfl ?_ | refine Mx.mk _ rfl ?_ | refine Br.mk (fun _ => ?_) (fun _ => ?_) | refine EndP.mk ?_ trivial | refine EndP.mk ?_ ⟨.inr ⟨List.mem_cons_self .., ?_, rfl⟩, trivial⟩ | refine Ar.i64 (by omega) ?_ | refine Ar.u8 (by omega) ?_ | refine Quo.pos (by omega) ?_ | refine Rem.pos (by omega) ?_ | refine BsP.own ?_ | refine Ob.mk ⟨rfl, rfl⟩ ?_ | refine Ob.mk (flat_i _ _).1 ?_ | refine Ob.mk (flat_i _ _) ?_ | refine Ob.mk (flat_s _) ?_ | refine Ob.mk (by first | omega | (simp; first | done | fail) | (simp; omega)) ?_ | fail
  · rw [partsO_no (fun k => by have := k.1; omega)]; rfl
  · conv => whnf
    refine LoopP.mk [0,2,3,4,5,6] (fun i : Nat => [(0, .s t), (2, .nl), (3, .b false), (4, .ow 1 ((pS t i).1.map .s)), (5, .i .i64 (frm t i)), (6, .i .i64 i)]) (fun i => t.length + 1 - i) (fun i => i ≤ t.length + 1 ∧ ∀ j, j < i → j < t.length → plain t j) ?_ ?_
    · conv => whnf
      exact ⟨0, ⟨by omega, fun j hj => by omega⟩, rfl⟩
    · rintro i ⟨hi, ha⟩
      have hf := pS_fit t i
      have hfr := frm_or t i
      have hw : ((pS t i).1.map V.s).length = (pS t i).1.length := by simp
      have hb := (rb t i).toNat_lt
      repeat' (conv => whnf); first | refine CallP.rd (within_vow _ _ _) rfl rfl rfl rfl ?_ | refine Chr.at (by omega) ?_ | refine Cut.from (pS t i).2 (by omega) ?_ | refine Br.tt ?_ | refine Br.ff ?_ | refine Br.not ?_ | refine Br.dand (fun _ => ?_) (fun _ => ?_) | refine Br.dec (fun _ => ?_) (fun _ => ?_) | refine Br.beq (fun _ => ?_) (fun _ => ?_) | refine Br.bne (fun _ => ?_) (fun _ => ?_) | refine Br.seq (fun _ => ?_) (fun _ => ?_) | refine Elt.i (by omega) ?_ | refine EltN.i (by omega) ?_ | refine Nt.cast ?_ | refine Nt.mk _ rfl ?_ | refine EltN.mk _ rfl ?_ | refine Mx.mk _ rfl ?_ | refine Br.mk (fun _ => ?_) (fun _ => ?_) | refine EndP.mk ?_ trivial | refine EndP.mk ?_ ⟨.inr ⟨List.mem_cons_self .., ?_, rfl⟩, trivial⟩ | refine Ar.i64 (by omega) ?_ | refine Ar.u8 (by omega) ?_ | refine Quo.pos (by omega) ?_ | refine Rem.pos (by omega) ?_ | refine BsP.own ?_ | refine Ob.mk ⟨rfl, rfl⟩ ?_ | refine Ob.mk (flat_i _ _).1 ?_ | refine Ob.mk (flat_i _ _) ?_ | refine Ob.mk (flat_s _) ?_ | refine Ob.mk (by first | omega | (simp; first | done | fail) | (simp; omega)) ?_ | fail
      all_goals first
        | (exfalso; omega)
        | (conv => whnf
           refine ⟨i + 1, ⟨by omega, plain_next ha (fun _ => by unfold plain; omega)⟩, by omega, ?_⟩
           first
             | (rw [frm_in ⟨by omega, rb_ne (by omega)⟩ (by omega), pS_stay ⟨by omega, rb_ne (by omega)⟩]; rfl)
             | (rw [frm_new ⟨by omega, rb_ne (by omega)⟩ (by omega), pS_stay ⟨by omega, rb_ne (by omega)⟩]; rfl)
             | (rw [frm_end (not_word (by omega)), pS_word (not_word (by omega)) (by omega)]; simp only [List.map_append, List.map_cons, List.map_nil]; rfl)
             | (rw [frm_none (not_word (by omega)) (by omega), pS_blank (not_word (by omega)) (by omega)]; rfl))
        | (rw [partsO_at (i := i) (by omega) (by unfold plain; omega)]; rfl)
        | (obtain rfl : i = t.length + 1 := by omega
           first
             | (rw [partsO_no (fun k => absurd k.2.2 (by omega))]; rfl)
             | (rw [partsO_yes ⟨by omega, fun j hj => ha j (by omega) hj, by omega⟩]; rfl))
end Go.Proofs.Ytfcjjkfjdecakaa
