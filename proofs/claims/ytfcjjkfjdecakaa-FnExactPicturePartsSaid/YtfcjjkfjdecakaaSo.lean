/- The parts of a text between bytes of one kind. Condition: the text is no longer than 2000000 bytes. -/
import Derived.Test.YtfcjjkfjdecakaaSn
namespace Go.Proofs.Ytfcjjkfjdecakaa
open Go Go.Vx
set_option linter.unusedVariables false
set_option linter.unusedSimpArgs false
set_option maxHeartbeats 600000
set_option maxRecDepth 100000

/-- The parts before place i, and where the next one begins. -/
def cS (t : List UInt8) (b : Int) : Nat → List (List UInt8) × Nat
  | 0 => ([], 0)
  | i + 1 => if ((rb t i).toNat : Int) = b then ((cS t b i).1 ++ [(t.drop (cS t b i).2).take (i - (cS t b i).2)], i + 1) else cS t b i
def cutT (t : List UInt8) (b : Int) : List (List UInt8) := (cS t b t.length).1 ++ [t.drop (cS t b t.length).2]
theorem cS_fit (t : List UInt8) (b : Int) : ∀ (i : Nat), (cS t b i).2 ≤ i ∧ (cS t b i).1.length ≤ i
  | 0 => ⟨Nat.le_refl _, Nat.le_refl _⟩
  | i + 1 => by
    have h := cS_fit t b i
    simp only [cS]
    split
    · simp; omega
    · omega
theorem cS_at {t : List UInt8} {b : Int} {i : Nat} (h : ((rb t i).toNat : Int) = b) : cS t b (i + 1) = ((cS t b i).1 ++ [(t.drop (cS t b i).2).take (i - (cS t b i).2)], i + 1) := by
  simp only [cS]; rw [if_pos h]
theorem cS_no {t : List UInt8} {b : Int} {i : Nat} (h : ¬ ((rb t i).toNat : Int) = b) : cS t b (i + 1) = cS t b i := by
  simp only [cS]; rw [if_neg h]
theorem _root_.Go.Vx.Cut.rest {n a : Nat} {k : IntKind} {κ : Nat → Nat → Prop} (h : a ≤ n) (g : κ a n) : Cut n (some (.i k (a : Int))) none κ := by
  refine .mk a n ?_ g
  simp only [boundsOf]
  rw [if_pos (by omega)]
  simp

theorem cut_impl (t : List UInt8) (b : Int) (h : t.length ≤ 2000000) : Vow Try.prog 91 [.s t, .i .u8 b] (.ow 1 ((cutT t b).map .s)) [] := by
  refine vow_of_ev (fn := Try.f91) [] [(0, 0), (8, 9), (0, 0), (0, 0), (9, 12), (13, 15), (15, 19), (20, 27), (27, 29), (29, 35)] tt_ok Try.func91 (by decide) rfl (Nat.le_of_ble_eq_true rfl) rfl rfl rfl ?_
  repeat' (conv => whnf); first | refine Br.tt ?_ | refine Br.ff ?_ | refine Br.not ?_ | refine Br.dand (fun _ => ?_) (fun _ => ?_) | refine Br.dec (fun _ => ?_) (fun _ => ?_) | refine Br.beq (fun _ => ?_) (fun _ => ?_) | refine Br.bne (fun _ => ?_) (fun _ => ?_) | refine Br.seq (fun _ => ?_) (fun _ => ?_) | refine Elt.i (by omega) ?_ | refine EltN.i (by omega) ?_ | refine Nt.cast ?_ | refine Nt.mk _ rfl ?_ | refine EltN.mk _ rfl ?_ | refine Mx.mk _ rfl ?_ | refine Br.mk (fun _ => ?_) (fun _ => ?_) | refine EndP.mk ?_ trivial | refine EndP.mk ?_ ⟨.inr ⟨List.mem_cons_self .., ?_, rfl⟩, trivial⟩ | refine Ar.i64 (by omega) ?_ | refine Ar.u8 (by omega) ?_ | refine Quo.pos (by omega) ?_ | refine Rem.pos (by omega) ?_ | refine BsP.own ?_ | refine Ob.mk ⟨rfl, rfl⟩ ?_ | refine Ob.mk (flat_i _ _).1 ?_ | refine Ob.mk (flat_i _ _) ?_ | refine Ob.mk (flat_s _) ?_ | refine Ob.mk (by first | omega | (simp; first | done | fail) | (simp; omega)) ?_ | fail
  · conv => whnf
    refine LoopP.mk [0,1,4,5,6,7] (fun i : Nat => [(0, .s t), (1, .i .u8 b), (4, .nl), (5, .ow 1 ((cS t b i).1.map .s)), (6, .i .i64 (cS t b i).2), (7, .i .i64 i)]) (fun i => t.length - i) (fun i => i ≤ t.length) ?_ ?_
    · conv => whnf
      exact ⟨0, by omega, rfl⟩
    · intro i hi
      have hf := cS_fit t b i
      have hw : ((cS t b i).1.map V.s).length = (cS t b i).1.length := by simp
      have hb := (rb t i).toNat_lt
      repeat' (conv => whnf); first | refine Chr.at (by omega) ?_ | refine Cut.mid (by omega) ?_ | refine Cut.rest (by omega) ?_ | refine Br.tt ?_ | refine Br.ff ?_ | refine Br.not ?_ | refine Br.dand (fun _ => ?_) (fun _ => ?_) | refine Br.dec (fun _ => ?_) (fun _ => ?_) | refine Br.beq (fun _ => ?_) (fun _ => ?_) | refine Br.bne (fun _ => ?_) (fun _ => ?_) | refine Br.seq (fun _ => ?_) (fun _ => ?_) | refine Elt.i (by omega) ?_ | refine EltN.i (by omega) ?_ | refine Nt.cast ?_ | refine Nt.mk _ rfl ?_ | refine EltN.mk _ rfl ?_ | refine Mx.mk _ rfl ?_ | refine Br.mk (fun _ => ?_) (fun _ => ?_) | refine EndP.mk ?_ trivial | refine EndP.mk ?_ ⟨.inr ⟨List.mem_cons_self .., ?_, rfl⟩, trivial⟩ | refine Ar.i64 (by omega) ?_ | refine Ar.u8 (by omega) ?_ | refine Quo.pos (by omega) ?_ | refine Rem.pos (by omega) ?_ | refine BsP.own ?_ | refine Ob.mk ⟨rfl, rfl⟩ ?_ | refine Ob.mk (flat_i _ _).1 ?_ | refine Ob.mk (flat_i _ _) ?_ | refine Ob.mk (flat_s _) ?_ | refine Ob.mk (by first | omega | (simp; first | done | fail) | (simp; omega)) ?_ | fail
      all_goals first
        | (conv => whnf
           refine ⟨i + 1, by omega, by omega, ?_⟩
           first
             | (rw [cS_at (by assumption)]; simp only [List.map_append, List.map_cons, List.map_nil]; rfl)
             | (rw [cS_no (by assumption)]; rfl))
        | (obtain rfl : i = t.length := by omega
           unfold cutT
           rw [List.take_of_length_le (by simp)]
           simp only [List.map_append, List.map_cons, List.map_nil]
           rfl)

/-- The same with the end of the text as one more place. -/
def cE (t : List UInt8) (b : Int) (i : Nat) : List (List UInt8) × Nat := if i ≤ t.length then cS t b i else (cutT t b, i)
theorem cE_in {t : List UInt8} {b : Int} {i : Nat} (h : i ≤ t.length) : cE t b i = cS t b i := by rw [cE, if_pos h]
theorem cE_end (t : List UInt8) (b : Int) : cE t b (t.length + 1) = (cutT t b, t.length + 1) := by rw [cE, if_neg (by omega)]
theorem cE_at {t : List UInt8} {b : Int} {i : Nat} (hi : i < t.length) (h : ((rb t i).toNat : Int) = b) : cE t b (i + 1) = ((cE t b i).1 ++ [(t.drop (cE t b i).2).take (i - (cE t b i).2)], i + 1) := by
  rw [cE_in (by omega), cE_in (by omega), cS_at h]
theorem cE_no {t : List UInt8} {b : Int} {i : Nat} (hi : i < t.length) (h : ¬ ((rb t i).toNat : Int) = b) : cE t b (i + 1) = cE t b i := by
  rw [cE_in (by omega), cE_in (by omega), cS_no h]
theorem cE_last {t : List UInt8} {b : Int} {i : Nat} (hi : i = t.length) : cE t b (i + 1) = ((cE t b i).1 ++ [(t.drop (cE t b i).2).take (i - (cE t b i).2)], i + 1) := by
  subst hi
  rw [cE_end, cE_in (by omega), cutT, List.take_of_length_le (by simp)]
theorem cE_fit (t : List UInt8) (b : Int) {i : Nat} (h : i ≤ t.length + 1) : (cE t b i).2 ≤ i ∧ (cE t b i).1.length ≤ i := by
  unfold cE
  split
  · exact cS_fit t b i
  · have := cS_fit t b t.length
    have hc : (cutT t b).length = (cS t b t.length).1.length + 1 := by simp [cutT]
    refine ⟨Nat.le_refl _, ?_⟩
    show (cutT t b).length ≤ i
    omega

def ln (ls : List (List UInt8)) (i : Nat) : List UInt8 := ls.getD i []
theorem ln_at {ls : List (List UInt8)} {i : Nat} (h : i < ls.length) : (ls.map V.s)[i]? = some (.s (ln ls i)) := by simp [ln, h]
theorem _root_.Go.Vx.Elt.ln {ls : List (List UInt8)} {j : Nat} {κ : V → Prop} (h : j < ls.length) (g : κ (.s (ln ls j))) : Elt (ls.map V.s) (j : Int) κ :=
  .mk _ (by omega) (by rw [Int.toNat_natCast]; exact ln_at h) g
theorem _root_.Go.Vx.EltN.ln {ls : List (List UInt8)} {j : Nat} {κ : V → Prop} (h : j < ls.length) (g : κ (.s (ln ls j))) : EltN (ls.map V.s) j κ := .mk _ (ln_at h) g
theorem _root_.Go.Vx.EltN.lnk {ls : List (List UInt8)} (j : Nat) {x : Nat} {κ : V → Prop} (h : x = j ∧ j < ls.length) (g : κ (.s (ln ls j))) : EltN (ls.map V.s) x κ := by
  obtain ⟨rfl, h⟩ := h; exact EltN.ln h g
end Go.Proofs.Ytfcjjkfjdecakaa
