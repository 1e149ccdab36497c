/- Events read from lines. No condition. -/
import Derived.Test.YtfcjjkfjdecakaaSo
import Derived.Test.YtfcjjkfjdecakaaSd
namespace Go.Proofs.Ytfcjjkfjdecakaa
open Go Go.Vx
set_option linter.unusedVariables false
set_option linter.unusedSimpArgs false
set_option maxHeartbeats 600000
set_option maxRecDepth 100000

def wd (t : List UInt8) (j : Nat) : List UInt8 := (partsO t).1.getD j []
theorem wd_at {t : List UInt8} {j : Nat} (h : j < (partsO t).1.length) : (wV (partsO t).1)[j]? = some (.s (wd t j)) := by simp [wV, wd, h]
theorem _root_.Go.Vx.Elt.wd {t : List UInt8} {j : Nat} {κ : V → Prop} (h : j < (partsO t).1.length) (g : κ (.s (wd t j))) : Elt (wV (partsO t).1) (j : Int) κ :=
  .mk _ (by omega) (by rw [Int.toNat_natCast]; exact wd_at h) g
theorem _root_.Go.Vx.EltN.wd {t : List UInt8} {j : Nat} {κ : V → Prop} (h : j < (partsO t).1.length) (g : κ (.s (wd t j))) : EltN (wV (partsO t).1) j κ :=
  .mk _ (wd_at h) g
theorem _root_.Go.Vx.Elt.wdx {t : List UInt8} (j : Nat) {x : Int} {κ : V → Prop} (h : x = (j : Int) ∧ j < (partsO t).1.length) (g : κ (.s (wd t j))) : Elt (wV (partsO t).1) x κ := by
  obtain ⟨rfl, h⟩ := h; exact Elt.wd h g
theorem _root_.Go.Vx.EltN.wdx {t : List UInt8} (j : Nat) {x : Nat} {κ : V → Prop} (h : x = j ∧ j < (partsO t).1.length) (g : κ (.s (wd t j))) : EltN (wV (partsO t).1) x κ := by
  obtain ⟨rfl, h⟩ := h; exact EltN.wd h g
theorem _root_.Go.Vx.Cut.restx {n : Nat} (a : Nat) {x : Int} {k : IntKind} {κ : Nat → Nat → Prop} (h : x = (a : Int) ∧ a ≤ n) (g : κ a n) : Cut n (some (.i k x)) none κ := by
  obtain ⟨rfl, h⟩ := h; exact Cut.rest h g
theorem _root_.Go.Vx.Nt.of {x : Int} {κ : Nat → Prop} (j : Nat) (h : x = (j : Int)) (g : κ j) : Nt x κ := .mk j (by omega) g

/-- The word of this kind stands first, and so many numbers stand behind it. -/
def hit (t : List UInt8) (k : Nat) : Prop := (evWord k).1 = wd t 0 ∧ (evWord k).2 + 1 = ((partsO t).1.length : Int)
instance (t : List UInt8) (k : Nat) : Decidable (hit t k) := by unfold hit; infer_instance
def nums (t : List UInt8) (i : Nat) : Prop := ∀ j, j < i → (readDec (wd t (j + 1))).2 = true
instance (t : List UInt8) (i : Nat) : Decidable (nums t i) := by unfold nums; infer_instance
def evNum (t : List UInt8) (i j : Nat) : Int := if j < i then (readDec (wd t (j + 1))).1 else 0
def evZero : Event := ⟨0, 0, 0, 0⟩
def evTo (t : List UInt8) (k i : Nat) : Event := ⟨k, evNum t i 0, evNum t i 1, evNum t i 2⟩
def evTry (t : List UInt8) (k : Nat) : Event × Bool := if nums t ((partsO t).1.length - 1) then (evTo t k ((partsO t).1.length - 1), true) else (evZero, false)
def evScan (t : List UInt8) : Nat → Nat → Event × Bool
  | 0, _ => (evZero, false)
  | f + 1, k => if hit t k then evTry t k else evScan t f (k + 1)
def readEv (t : List UInt8) : Event × Bool := if (partsO t).2 = true ∧ 0 < (partsO t).1.length then evScan t 9 1 else (evZero, false)

theorem readEv_no {t : List UInt8} (h : ¬ ((partsO t).2 = true ∧ 0 < (partsO t).1.length)) : readEv t = (evZero, false) := by rw [readEv, if_neg h]
theorem readEv_yes {t : List UInt8} (h : (partsO t).2 = true ∧ 0 < (partsO t).1.length) : readEv t = evScan t (10 - 1) 1 := by rw [readEv, if_pos h]
theorem evScan_next {t : List UInt8} {k : Nat} (hk : k < 10) (h : ¬ hit t k) : evScan t (10 - k) k = evScan t (10 - (k + 1)) (k + 1) := by
  obtain ⟨f, hf⟩ : ∃ f, 10 - k = f + 1 := ⟨10 - k - 1, by omega⟩
  rw [hf, show 10 - (k + 1) = f by omega, evScan, if_neg h]
theorem evScan_hit {t : List UInt8} {k : Nat} (hk : k < 10) (h : hit t k) : evScan t (10 - k) k = evTry t k := by
  obtain ⟨f, hf⟩ : ∃ f, 10 - k = f + 1 := ⟨10 - k - 1, by omega⟩
  rw [hf, evScan, if_pos h]
theorem evScan_end {t : List UInt8} {k : Nat} (hk : k = 10) : evScan t (10 - k) k = (evZero, false) := by subst hk; rfl
theorem nums_next {t : List UInt8} {i : Nat} (h : nums t i) (hi : (readDec (wd t (i + 1))).2 = true) : nums t (i + 1) := fun j hj => by
  rcases Nat.lt_or_eq_of_le (Nat.le_of_lt_succ hj) with h1 | h1
  · exact h j h1
  · subst h1; exact hi
theorem evTry_no {t : List UInt8} {k i : Nat} (hi : i < (partsO t).1.length - 1) (h : (readDec (wd t (i + 1))).2 = false) : evTry t k = (evZero, false) := by
  rw [evTry, if_neg (fun hn => by have := hn i hi; rw [h] at this; cases this)]
theorem evTry_yes {t : List UInt8} {k : Nat} (h : nums t ((partsO t).1.length - 1)) : evTry t k = (evTo t k ((partsO t).1.length - 1), true) := by rw [evTry, if_pos h]
theorem readDec_fit (t : List UInt8) : 0 ≤ (readDec t).1 ∧ (readDec t).1 ≤ 1000000000 := by
  by_cases h : readOk t
  · rw [readDec_yes h]
    exact ⟨(valTo_le h.1.2 h.2.1).1, h.2.2.1⟩
  · rw [readDec_no h]; exact ⟨by omega, by show (0 : Int) ≤ 1000000000; omega⟩
theorem partsO_len (t : List UInt8) : (partsO t).1.length ≤ 12 := by
  by_cases h : partsOk t
  · rw [partsO_yes h]; exact h.2.2
  · rw [partsO_no h]; exact Nat.zero_le _
theorem hit_n {t : List UInt8} {k : Nat} (h : hit t k) : (evWord k).2 = (((partsO t).1.length - 1 : Nat) : Int) ∧ (partsO t).1.length - 1 ≤ 3 ∧ 1 ≤ (partsO t).1.length := by
  have := evWord_fit (k : Int)
  have := h.2
  omega


set_option maxHeartbeats 6000000 in
theorem readEv_impl (t : List UInt8) : Vow Try.prog 28 [.s t] (.tp [eventV (readEv t).1, .b (readEv t).2]) [] := by
  have hw : (wV (partsO t).1).length = (partsO t).1.length := by simp [wV]
  refine vow_of_ev (fn := Try.f28) [] [(0, 0), (14, 19), (19, 25), (26, 27), (0, 0), (27, 28), (29, 31), (31, 36), (36, 47), (0, 0), (48, 49), (0, 0), (53, 56), (56, 61), (61, 62), (63, 64), (64, 67), (67, 68), (68, 76), (76, 77)] tt_ok Try.func28 (by decide) rfl (Nat.le_of_ble_eq_true rfl) rfl rfl rfl ?_
  repeat' (conv => whnf); first | refine CallP.re (parts_impl t) (by first | with_reducible rfl | (simp only [imm_i, imm_s, imm_b, wV]; first | done | fail)) rfl rfl rfl (by first | rfl | exact own_i _ _ | exact own_s _ | exact own_b _ | (simp [V.noSl, V.noSl.go, own_i, own_s, own_b, wV]; first | done | fail)) ?_ | refine Br.tt ?_ | refine Br.ff ?_ | refine Br.not ?_ | refine Br.dand (fun _ => ?_) (fun _ => ?_) | refine Br.dec (fun _ => ?_) (fun _ => ?_) | refine Br.beq (fun _ => ?_) (fun _ => ?_) | refine Br.bne (fun _ => ?_) (fun _ => ?_) | refine Br.seq (fun _ => ?_) (fun _ => ?_) | refine Elt.i (by omega) ?_ | refine EltN.i (by omega) ?_ | refine Nt.cast ?_ | refine Nt.mk _ rfl ?_ | refine EltN.mk _ rfl ?_ | refine Mx.mk _ rfl ?_ | refine Br.mk (fun _ => ?_) (fun _ => ?_) | refine EndP.mk ?_ trivial | refine EndP.mk ?_ ⟨.inr ⟨List.mem_cons_self .., ?_, rfl⟩, trivial⟩ | refine Ar.i64 (by omega) ?_ | refine Ar.u8 (by omega) ?_ | refine Quo.pos (by omega) ?_ | refine Rem.pos (by omega) ?_ | refine BsP.own ?_ | refine Ob.mk ⟨rfl, rfl⟩ ?_ | refine Ob.mk (flat_i _ _).1 ?_ | refine Ob.mk (flat_i _ _) ?_ | refine Ob.mk (flat_s _) ?_ | refine Ob.mk (by first | omega | (simp; first | done | fail) | (simp; omega)) ?_ | fail
  · rw [readEv_no (fun k => by have := k.2; omega)]; rfl
  · have hn : 0 < (partsO t).1.length := by have : ¬ ((wV (partsO t).1).length : Int) = 0 := by assumption
                                            omega
    have hp : (partsO t).2 = true := by assumption
    rw [readEv_yes ⟨hp, hn⟩]
    conv => whnf
    refine LoopP.mk [2,3,4,5,6] (fun k : Nat => [(2, .bx [.i .i64 0, .i .i64 0, .i .i64 0, .i .i64 0]), (3, .b false), (4, .ow 1 (wV (partsO t).1)), (5, .b true), (6, .i .i64 k)]) (fun k => 10 - k) (fun k => 1 ≤ k ∧ k ≤ 10 ∧ evScan t (10 - 1) 1 = evScan t (10 - k) k) ?_ ?_
    · conv => whnf
      exact ⟨1, ⟨by omega, by omega, rfl⟩, by rw [hp]; rfl⟩
    · rintro k ⟨hk1, hk2, hk⟩
      have he := evWord_fit (k : Int)
      rw [hk]
      have hlen := partsO_len t
      repeat' (conv => whnf); first | refine CallP.rd (wordOf_impl k) rfl rfl rfl rfl ?_ | refine Elt.wd hn ?_ | refine EltN.wd hn ?_ | refine Cut.restx 1 (by omega) ?_ | refine Br.tt ?_ | refine Br.ff ?_ | refine Br.not ?_ | refine Br.dand (fun _ => ?_) (fun _ => ?_) | refine Br.dec (fun _ => ?_) (fun _ => ?_) | refine Br.beq (fun _ => ?_) (fun _ => ?_) | refine Br.bne (fun _ => ?_) (fun _ => ?_) | refine Br.seq (fun _ => ?_) (fun _ => ?_) | refine Elt.i (by omega) ?_ | refine EltN.i (by omega) ?_ | refine Nt.cast ?_ | refine Nt.mk _ rfl ?_ | refine EltN.mk _ rfl ?_ | refine Mx.mk _ rfl ?_ | refine Br.mk (fun _ => ?_) (fun _ => ?_) | refine EndP.mk ?_ trivial | refine EndP.mk ?_ ⟨.inr ⟨List.mem_cons_self .., ?_, rfl⟩, trivial⟩ | refine Ar.i64 (by omega) ?_ | refine Ar.u8 (by omega) ?_ | refine Quo.pos (by omega) ?_ | refine Rem.pos (by omega) ?_ | refine BsP.own ?_ | refine Ob.mk ⟨rfl, rfl⟩ ?_ | refine Ob.mk (flat_i _ _).1 ?_ | refine Ob.mk (flat_i _ _) ?_ | refine Ob.mk (flat_s _) ?_ | refine Ob.mk (by first | omega | (simp; first | done | fail) | (simp; omega)) ?_ | fail
      · have hh : hit t k := ⟨by assumption, by omega⟩
        obtain ⟨h1, h2, h3⟩ := hit_n hh
        rw [evScan_hit (by omega) hh]
        conv => whnf
        refine LoopP.mk [2,3,4,5,6,9,49,50,51] (fun i : Nat => [(2, .bx [.i .i64 0, .i .i64 0, .i .i64 0, .i .i64 0]), (3, .b false), (4, .ow 1 (wV (partsO t).1)), (5, .b true), (6, .i .i64 k), (9, .bx [.i .i64 (evNum t i 0), .i .i64 (evNum t i 1), .i .i64 (evNum t i 2)]), (49, .hd [6] 1 1 ((wV (partsO t).1).length - 1)), (50, .i .i64 ((partsO t).1.length - 1 : Nat)), (51, .i .i64 i)]) (fun i => 3 - i) (fun i => i ≤ (partsO t).1.length - 1 ∧ nums t i) ?_ ?_
        · conv => whnf
          refine ⟨0, ⟨by omega, fun j hj => by omega⟩, ?_⟩
          rw [show (List.take ((wV (partsO t).1).length - 1) (List.drop 1 (wV (partsO t).1))).length = (partsO t).1.length - 1 by simp [hw]]
          rfl
        · rintro i ⟨hi, hn⟩
          obtain rfl | rfl | rfl | rfl : i = 0 ∨ i = 1 ∨ i = 2 ∨ i = 3 := by omega
          · repeat' (conv => whnf); first | refine CallP.rd (readDec_impl (wd t 1)) rfl rfl rfl rfl ?_ | refine EltN.wdx 1 (by omega) ?_ | refine Br.tt ?_ | refine Br.ff ?_ | refine Br.not ?_ | refine Br.dand (fun _ => ?_) (fun _ => ?_) | refine Br.dec (fun _ => ?_) (fun _ => ?_) | refine Br.beq (fun _ => ?_) (fun _ => ?_) | refine Br.bne (fun _ => ?_) (fun _ => ?_) | refine Br.seq (fun _ => ?_) (fun _ => ?_) | refine Elt.i (by omega) ?_ | refine EltN.i (by omega) ?_ | refine Nt.cast ?_ | refine Nt.mk _ rfl ?_ | refine EltN.mk _ rfl ?_ | refine Mx.mk _ rfl ?_ | refine Br.mk (fun _ => ?_) (fun _ => ?_) | refine EndP.mk ?_ trivial | refine EndP.mk ?_ ⟨.inr ⟨List.mem_cons_self .., ?_, rfl⟩, trivial⟩ | refine Ar.i64 (by omega) ?_ | refine Ar.u8 (by omega) ?_ | refine Quo.pos (by omega) ?_ | refine Rem.pos (by omega) ?_ | refine BsP.own ?_ | refine Ob.mk ⟨rfl, rfl⟩ ?_ | refine Ob.mk (flat_i _ _).1 ?_ | refine Ob.mk (flat_i _ _) ?_ | refine Ob.mk (flat_s _) ?_ | refine Ob.mk (by first | omega | (simp; first | done | fail) | (simp; omega)) ?_ | fail
            all_goals first
              | (conv => whnf
                 refine ⟨1, ⟨by omega, nums_next hn (by assumption)⟩, by omega, ?_⟩
                 rfl)
              | (rw [evTry_no (i := 0) (by omega) (by assumption)]; rfl)
              | (have hl : (partsO t).1.length - 1 = 0 := by omega
                 rw [← hl] at hn
                 rw [evTry_yes hn, hl]; rfl)
          · repeat' (conv => whnf); first | refine CallP.rd (readDec_impl (wd t 2)) rfl rfl rfl rfl ?_ | refine EltN.wdx 2 (by omega) ?_ | refine Br.tt ?_ | refine Br.ff ?_ | refine Br.not ?_ | refine Br.dand (fun _ => ?_) (fun _ => ?_) | refine Br.dec (fun _ => ?_) (fun _ => ?_) | refine Br.beq (fun _ => ?_) (fun _ => ?_) | refine Br.bne (fun _ => ?_) (fun _ => ?_) | refine Br.seq (fun _ => ?_) (fun _ => ?_) | refine Elt.i (by omega) ?_ | refine EltN.i (by omega) ?_ | refine Nt.cast ?_ | refine Nt.mk _ rfl ?_ | refine EltN.mk _ rfl ?_ | refine Mx.mk _ rfl ?_ | refine Br.mk (fun _ => ?_) (fun _ => ?_) | refine EndP.mk ?_ trivial | refine EndP.mk ?_ ⟨.inr ⟨List.mem_cons_self .., ?_, rfl⟩, trivial⟩ | refine Ar.i64 (by omega) ?_ | refine Ar.u8 (by omega) ?_ | refine Quo.pos (by omega) ?_ | refine Rem.pos (by omega) ?_ | refine BsP.own ?_ | refine Ob.mk ⟨rfl, rfl⟩ ?_ | refine Ob.mk (flat_i _ _).1 ?_ | refine Ob.mk (flat_i _ _) ?_ | refine Ob.mk (flat_s _) ?_ | refine Ob.mk (by first | omega | (simp; first | done | fail) | (simp; omega)) ?_ | fail
            all_goals first
              | (conv => whnf
                 refine ⟨2, ⟨by omega, nums_next hn (by assumption)⟩, by omega, ?_⟩
                 rfl)
              | (rw [evTry_no (i := 1) (by omega) (by assumption)]; rfl)
              | (have hl : (partsO t).1.length - 1 = 1 := by omega
                 rw [← hl] at hn
                 rw [evTry_yes hn, hl]; rfl)
          · repeat' (conv => whnf); first | refine CallP.rd (readDec_impl (wd t 3)) rfl rfl rfl rfl ?_ | refine EltN.wdx 3 (by omega) ?_ | refine Br.tt ?_ | refine Br.ff ?_ | refine Br.not ?_ | refine Br.dand (fun _ => ?_) (fun _ => ?_) | refine Br.dec (fun _ => ?_) (fun _ => ?_) | refine Br.beq (fun _ => ?_) (fun _ => ?_) | refine Br.bne (fun _ => ?_) (fun _ => ?_) | refine Br.seq (fun _ => ?_) (fun _ => ?_) | refine Elt.i (by omega) ?_ | refine EltN.i (by omega) ?_ | refine Nt.cast ?_ | refine Nt.mk _ rfl ?_ | refine EltN.mk _ rfl ?_ | refine Mx.mk _ rfl ?_ | refine Br.mk (fun _ => ?_) (fun _ => ?_) | refine EndP.mk ?_ trivial | refine EndP.mk ?_ ⟨.inr ⟨List.mem_cons_self .., ?_, rfl⟩, trivial⟩ | refine Ar.i64 (by omega) ?_ | refine Ar.u8 (by omega) ?_ | refine Quo.pos (by omega) ?_ | refine Rem.pos (by omega) ?_ | refine BsP.own ?_ | refine Ob.mk ⟨rfl, rfl⟩ ?_ | refine Ob.mk (flat_i _ _).1 ?_ | refine Ob.mk (flat_i _ _) ?_ | refine Ob.mk (flat_s _) ?_ | refine Ob.mk (by first | omega | (simp; first | done | fail) | (simp; omega)) ?_ | fail
            all_goals first
              | (conv => whnf
                 refine ⟨3, ⟨by omega, nums_next hn (by assumption)⟩, by omega, ?_⟩
                 rfl)
              | (rw [evTry_no (i := 2) (by omega) (by assumption)]; rfl)
              | (have hl : (partsO t).1.length - 1 = 2 := by omega
                 rw [← hl] at hn
                 rw [evTry_yes hn, hl]; rfl)
          · repeat' (conv => whnf); first | refine Br.tt ?_ | refine Br.ff ?_ | refine Br.not ?_ | refine Br.dand (fun _ => ?_) (fun _ => ?_) | refine Br.dec (fun _ => ?_) (fun _ => ?_) | refine Br.beq (fun _ => ?_) (fun _ => ?_) | refine Br.bne (fun _ => ?_) (fun _ => ?_) | refine Br.seq (fun _ => ?_) (fun _ => ?_) | refine Elt.i (by omega) ?_ | refine EltN.i (by omega) ?_ | refine Nt.cast ?_ | refine Nt.mk _ rfl ?_ | refine EltN.mk _ rfl ?_ | refine Mx.mk _ rfl ?_ | refine Br.mk (fun _ => ?_) (fun _ => ?_) | refine EndP.mk ?_ trivial | refine EndP.mk ?_ ⟨.inr ⟨List.mem_cons_self .., ?_, rfl⟩, trivial⟩ | refine Ar.i64 (by omega) ?_ | refine Ar.u8 (by omega) ?_ | refine Quo.pos (by omega) ?_ | refine Rem.pos (by omega) ?_ | refine BsP.own ?_ | refine Ob.mk ⟨rfl, rfl⟩ ?_ | refine Ob.mk (flat_i _ _).1 ?_ | refine Ob.mk (flat_i _ _) ?_ | refine Ob.mk (flat_s _) ?_ | refine Ob.mk (by first | omega | (simp; first | done | fail) | (simp; omega)) ?_ | fail
            all_goals first
              | (exfalso; omega)
              | (have hl : (partsO t).1.length - 1 = 3 := by omega
                 rw [← hl] at hn
                 rw [evTry_yes hn, hl]; rfl)
      · conv => whnf
        exact ⟨k + 1, ⟨by omega, by omega, evScan_next (by omega) (fun h => by have := h.2; omega)⟩, by omega, rfl⟩
      · conv => whnf
        exact ⟨k + 1, ⟨by omega, by omega, evScan_next (by omega) (fun h => absurd h.1 (by assumption))⟩, by omega, rfl⟩
      · rw [evScan_end (by omega)]; rfl
  · rw [readEv_no (fun k => by have := k.1; simp_all)]; rfl
end Go.Proofs.Ytfcjjkfjdecakaa
