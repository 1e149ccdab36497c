/- Whether a layout is right, and where one stands in it. No condition. -/
import Derived.Test.YtjomgcgeknpehaaSg
namespace Go.Proofs.Ytjomgcgeknpehaa
open Go Go.Vx
set_option linter.unusedVariables false
set_option linter.unusedSimpArgs false
set_option maxHeartbeats 600000
set_option maxRecDepth 100000

def whoOk (w : List Int) (i : Nat) : Prop := (-1 ≤ rd w i ∧ rd w i ≤ 5) ∧ ∀ k, k < i → ¬ (0 ≤ rd w i ∧ rd w k = rd w i)
instance (w : List Int) (i : Nat) : Decidable (whoOk w i) := by unfold whoOk; infer_instance
def layoutOk (l : Layout) : Prop := ¬ levelFor l.cols l.rows = 0 ∧ l.who.length = l.cols.length * l.rows.length ∧ ∀ i, i < l.who.length → whoOk l.who i
instance (l : Layout) : Decidable (layoutOk l) := by unfold layoutOk; infer_instance

theorem lens_fit (l : Layout) : levelFor l.cols l.rows = 0 ∨ (0 ≤ (((l.cols.map (V.i .i64)).length : Nat) : Int) * ((l.rows.map (V.i .i64)).length : Nat) ∧ (((l.cols.map (V.i .i64)).length : Nat) : Int) * ((l.rows.map (V.i .i64)).length : Nat) ≤ 16
    ∧ (((l.cols.map (V.i .i64)).length : Nat) : Int) * ((l.rows.map (V.i .i64)).length : Nat) = (l.cols.length * l.rows.length : Nat)) := by
  by_cases h : levelFor l.cols l.rows = 0
  · exact .inl h
  · right
    obtain ⟨h1, h2⟩ := levelFor_sides h
    rw [List.length_map, List.length_map]
    have := mul_fit (a := l.cols.length) (b := l.rows.length) (A := 4) (B := 4) (by have := h1.1; omega) (by have := h2.1; omega)
    exact ⟨this.1, this.2, by rw [Int.natCast_mul]⟩

theorem _root_.Go.Vx.Cut.to {i n : Nat} {k : IntKind} {κ : Nat → Nat → Prop} (h : i ≤ n) (g : κ 0 i) : Cut n none (some (.i k (i : Int))) κ := by
  refine .mk 0 i ?_ g
  simp only [boundsOf]
  rw [if_pos (by omega)]
  simp
theorem take_at {l : List Int} {m j : Nat} (k : IntKind) (h : j < m) (hl : j < l.length) : ((l.map (V.i k)).take m)[j]? = some (.i k (rd l j)) := by
  rw [List.getElem?_take_of_lt h]; exact rd_at k hl
theorem _root_.Go.Vx.Elt.t {k : IntKind} {l : List Int} {m j : Nat} {κ : V → Prop} (h : j < m ∧ j < l.length) (g : κ (.i k (rd l j))) : Elt ((l.map (V.i k)).take m) (j : Int) κ :=
  .mk _ (by omega) (by rw [Int.toNat_natCast]; exact take_at k h.1 h.2) g

theorem layoutOk_bad {l : Layout} {i : Nat} (hi : i < l.who.length) (h : ¬ whoOk l.who i) : decide (layoutOk l) = false := by
  rw [decide_eq_false_iff_not]; exact fun k => h (k.2.2 i hi)

theorem layoutOk_impl (l : Layout) : Vow Try.prog 49 [layV l] (.b (decide (layoutOk l))) [] := by
  refine vow_of_ev (fn := Try.f49) [] [(0, 0), (7, 25), (0, 0), (26, 27), (0, 0), (31, 34), (34, 36), (0, 0), (37, 40), (0, 0), (44, 46), (46, 52), (0, 0), (53, 54), (54, 55), (0, 0)] tt_ok Try.func49 (by decide) rfl (Nat.le_of_ble_eq_true rfl) rfl rfl rfl ?_
  have lw : (l.who.map (V.i .i64)).length = l.who.length := by simp
  have hm := lens_fit l
  repeat' (conv => whnf); first | refine CallP.rd (levelFor_impl l.cols l.rows) rfl rfl rfl rfl ?_ | refine Br.tt ?_ | refine Br.ff ?_ | refine Br.not ?_ | refine Br.dand (fun _ => ?_) (fun _ => ?_) | refine Br.dec (fun _ => ?_) (fun _ => ?_) | refine Br.beq (fun _ => ?_) (fun _ => ?_) | refine Br.bne (fun _ => ?_) (fun _ => ?_) | refine Br.seq (fun _ => ?_) (fun _ => ?_) | refine Elt.i (by omega) ?_ | refine EltN.i (by omega) ?_ | refine Nt.cast ?_ | refine Nt.mk _ rfl ?_ | refine EltN.mk _ rfl ?_ | refine Mx.mk _ rfl ?_ | refine Br.mk (fun _ => ?_) (fun _ => ?_) | refine EndP.mk ?_ trivial | refine EndP.mk ?_ ⟨.inr ⟨List.mem_cons_self .., ?_, rfl⟩, trivial⟩ | refine Ar.i64 (by omega) ?_ | refine Ar.u8 (by omega) ?_ | refine Quo.pos (by omega) ?_ | refine Rem.pos (by omega) ?_ | refine BsP.own ?_ | refine SetN.two ?_ | refine SetN.one ?_ | refine Ob.mk ⟨rfl, rfl⟩ ?_ | refine Ob.mk (flat_i _ _).1 ?_ | refine Ob.mk (flat_i _ _) ?_ | refine Ob.mk (flat_s _) ?_ | refine Ob.mk (by first | omega | (simp; first | done | fail) | (simp; omega)) ?_ | fail
  · have : decide (layoutOk l) = false := by rw [decide_eq_false_iff_not]; exact fun k => k.1 (by assumption)
    rw [this]; rfl
  · conv => whnf
    refine LoopP.mk [1,2,27,28,29] (fun i : Nat => [(1, .bx [iS l.cols, iS l.rows, iS l.who]), (2, .b false), (27, iS l.who), (28, .i .i64 l.who.length), (29, .i .i64 i)]) (fun i => l.who.length - i) (fun i => i ≤ l.who.length ∧ ∀ j, j < i → whoOk l.who j) ?_ ?_
    · conv => whnf
      exact ⟨0, ⟨by omega, fun j hj => by omega⟩, by rw [lw]; rfl⟩
    · rintro i ⟨hi, ha⟩
      repeat' (conv => whnf); first | refine CallP.rd (within_vow _ _ _) rfl rfl rfl rfl ?_ | refine Cut.to (by omega) ?_ | refine Br.tt ?_ | refine Br.ff ?_ | refine Br.not ?_ | refine Br.dand (fun _ => ?_) (fun _ => ?_) | refine Br.dec (fun _ => ?_) (fun _ => ?_) | refine Br.beq (fun _ => ?_) (fun _ => ?_) | refine Br.bne (fun _ => ?_) (fun _ => ?_) | refine Br.seq (fun _ => ?_) (fun _ => ?_) | refine Elt.i (by omega) ?_ | refine EltN.i (by omega) ?_ | refine Nt.cast ?_ | refine Nt.mk _ rfl ?_ | refine EltN.mk _ rfl ?_ | refine Mx.mk _ rfl ?_ | refine Br.mk (fun _ => ?_) (fun _ => ?_) | refine EndP.mk ?_ trivial | refine EndP.mk ?_ ⟨.inr ⟨List.mem_cons_self .., ?_, rfl⟩, trivial⟩ | refine Ar.i64 (by omega) ?_ | refine Ar.u8 (by omega) ?_ | refine Quo.pos (by omega) ?_ | refine Rem.pos (by omega) ?_ | refine BsP.own ?_ | refine SetN.two ?_ | refine SetN.one ?_ | refine Ob.mk ⟨rfl, rfl⟩ ?_ | refine Ob.mk (flat_i _ _).1 ?_ | refine Ob.mk (flat_i _ _) ?_ | refine Ob.mk (flat_s _) ?_ | refine Ob.mk (by first | omega | (simp; first | done | fail) | (simp; omega)) ?_ | fail
      · conv => whnf
        have lt : ((l.who.map (V.i .i64)).take i).length = i := by simp; omega
        refine LoopP.mk [1,2,27,28,29,3,4,40,41,42] (fun k : Nat => [(1, .bx [iS l.cols, iS l.rows, iS l.who]), (2, .b false), (27, iS l.who), (28, .i .i64 l.who.length), (29, .i .i64 i), (3, .i .i64 i), (4, .i .i64 (rd l.who i)), (40, .sl ((l.who.map (V.i .i64)).take i)), (41, .i .i64 ((l.who.map (V.i .i64)).take i).length), (42, .i .i64 k)]) (fun k => i - k)
          (fun k => k ≤ i ∧ ∀ j, j < k → ¬ (0 ≤ rd l.who i ∧ rd l.who j = rd l.who i)) ?_ ?_
        · conv => whnf
          exact ⟨0, ⟨by omega, fun j hj => by omega⟩, rfl⟩
        · rintro k ⟨hk, hb⟩
          repeat' (conv => whnf); first | refine Elt.t (by omega) ?_ | refine Br.tt ?_ | refine Br.ff ?_ | refine Br.not ?_ | refine Br.dand (fun _ => ?_) (fun _ => ?_) | refine Br.dec (fun _ => ?_) (fun _ => ?_) | refine Br.beq (fun _ => ?_) (fun _ => ?_) | refine Br.bne (fun _ => ?_) (fun _ => ?_) | refine Br.seq (fun _ => ?_) (fun _ => ?_) | refine Elt.i (by omega) ?_ | refine EltN.i (by omega) ?_ | refine Nt.cast ?_ | refine Nt.mk _ rfl ?_ | refine EltN.mk _ rfl ?_ | refine Mx.mk _ rfl ?_ | refine Br.mk (fun _ => ?_) (fun _ => ?_) | refine EndP.mk ?_ trivial | refine EndP.mk ?_ ⟨.inr ⟨List.mem_cons_self .., ?_, rfl⟩, trivial⟩ | refine Ar.i64 (by omega) ?_ | refine Ar.u8 (by omega) ?_ | refine Quo.pos (by omega) ?_ | refine Rem.pos (by omega) ?_ | refine BsP.own ?_ | refine SetN.two ?_ | refine SetN.one ?_ | refine Ob.mk ⟨rfl, rfl⟩ ?_ | refine Ob.mk (flat_i _ _).1 ?_ | refine Ob.mk (flat_i _ _) ?_ | refine Ob.mk (flat_s _) ?_ | refine Ob.mk (by first | omega | (simp; first | done | fail) | (simp; omega)) ?_ | fail
          · rw [layoutOk_bad (i := i) (by omega) (fun w => w.2 k (by omega) ⟨by assumption, by assumption⟩)]; rfl
          · conv => whnf
            exact ⟨k + 1, ⟨by omega, all_next hb (fun h => by omega)⟩, by omega, rfl⟩
          · conv => whnf
            exact ⟨k + 1, ⟨by omega, all_next hb (fun h => by omega)⟩, by omega, rfl⟩
          · conv => whnf
            exact ⟨i + 1, ⟨by omega, all_next ha ⟨by assumption, fun j hj => hb j (by omega)⟩⟩, by omega, rfl⟩
      · rw [layoutOk_bad (i := i) (by omega) (fun k => absurd k.1 (by assumption))]; rfl
      · have : decide (layoutOk l) = true := by
          rw [decide_eq_true_eq]
          refine ⟨by assumption, by omega, fun j hj => ha j (by omega)⟩
        rw [this]; rfl
  · have : decide (layoutOk l) = false := by rw [decide_eq_false_iff_not]; exact fun k => absurd k.2.1 (by omega)
    rw [this]; rfl

theorem layoutOk_spec (l : Layout) : Vow Try.prog 44 [layV l] (.b (decide (layoutOk l))) [] := by
  refine vow_of_ev (fn := Try.f44) [] [(0, 0), (5, 23), (0, 0), (0, 0), (24, 28), (29, 31), (31, 37), (0, 0), (0, 0), (38, 40), (41, 43), (43, 61), (0, 0), (0, 0)] tt_ok Try.func44 (by decide) rfl (Nat.le_of_ble_eq_true rfl) rfl rfl rfl ?_
  have lw : (l.who.map (V.i .i64)).length = l.who.length := by simp
  have hm := lens_fit l
  repeat' (conv => whnf); first | refine CallP.rd (levelFor_spec l.cols l.rows) rfl rfl rfl rfl ?_ | refine Br.tt ?_ | refine Br.ff ?_ | refine Br.not ?_ | refine Br.dand (fun _ => ?_) (fun _ => ?_) | refine Br.dec (fun _ => ?_) (fun _ => ?_) | refine Br.beq (fun _ => ?_) (fun _ => ?_) | refine Br.bne (fun _ => ?_) (fun _ => ?_) | refine Br.seq (fun _ => ?_) (fun _ => ?_) | refine Elt.i (by omega) ?_ | refine EltN.i (by omega) ?_ | refine Nt.cast ?_ | refine Nt.mk _ rfl ?_ | refine EltN.mk _ rfl ?_ | refine Mx.mk _ rfl ?_ | refine Br.mk (fun _ => ?_) (fun _ => ?_) | refine EndP.mk ?_ trivial | refine EndP.mk ?_ ⟨.inr ⟨List.mem_cons_self .., ?_, rfl⟩, trivial⟩ | refine Ar.i64 (by omega) ?_ | refine Ar.u8 (by omega) ?_ | refine Quo.pos (by omega) ?_ | refine Rem.pos (by omega) ?_ | refine BsP.own ?_ | refine SetN.two ?_ | refine SetN.one ?_ | refine Ob.mk ⟨rfl, rfl⟩ ?_ | refine Ob.mk (flat_i _ _).1 ?_ | refine Ob.mk (flat_i _ _) ?_ | refine Ob.mk (flat_s _) ?_ | refine Ob.mk (by first | omega | (simp; first | done | fail) | (simp; omega)) ?_ | fail
  · have : decide (layoutOk l) = false := by rw [decide_eq_false_iff_not]; exact fun k => k.1 (by assumption)
    rw [this]; rfl
  · conv => whnf
    refine LoopP.mk [1,2,3] (fun i : Nat => [(1, .bx [iS l.cols, iS l.rows, iS l.who]), (2, .b false), (3, .i .i64 i)]) (fun i => l.who.length - i) (fun i => i ≤ l.who.length ∧ ∀ j, j < i → whoOk l.who j) ?_ ?_
    · conv => whnf
      exact ⟨0, ⟨by omega, fun j hj => by omega⟩, rfl⟩
    · rintro i ⟨hi, ha⟩
      repeat' (conv => whnf); first | refine CallP.rd (l01In_vow _ _ _) rfl rfl rfl rfl ?_ | refine Br.tt ?_ | refine Br.ff ?_ | refine Br.not ?_ | refine Br.dand (fun _ => ?_) (fun _ => ?_) | refine Br.dec (fun _ => ?_) (fun _ => ?_) | refine Br.beq (fun _ => ?_) (fun _ => ?_) | refine Br.bne (fun _ => ?_) (fun _ => ?_) | refine Br.seq (fun _ => ?_) (fun _ => ?_) | refine Elt.i (by omega) ?_ | refine EltN.i (by omega) ?_ | refine Nt.cast ?_ | refine Nt.mk _ rfl ?_ | refine EltN.mk _ rfl ?_ | refine Mx.mk _ rfl ?_ | refine Br.mk (fun _ => ?_) (fun _ => ?_) | refine EndP.mk ?_ trivial | refine EndP.mk ?_ ⟨.inr ⟨List.mem_cons_self .., ?_, rfl⟩, trivial⟩ | refine Ar.i64 (by omega) ?_ | refine Ar.u8 (by omega) ?_ | refine Quo.pos (by omega) ?_ | refine Rem.pos (by omega) ?_ | refine BsP.own ?_ | refine SetN.two ?_ | refine SetN.one ?_ | refine Ob.mk ⟨rfl, rfl⟩ ?_ | refine Ob.mk (flat_i _ _).1 ?_ | refine Ob.mk (flat_i _ _) ?_ | refine Ob.mk (flat_s _) ?_ | refine Ob.mk (by first | omega | (simp; first | done | fail) | (simp; omega)) ?_ | fail
      · conv => whnf
        refine LoopP.mk [1,2,3,4] (fun k : Nat => [(1, .bx [iS l.cols, iS l.rows, iS l.who]), (2, .b false), (3, .i .i64 i), (4, .i .i64 k)]) (fun k => i - k)
          (fun k => k ≤ i ∧ ∀ j, j < k → ¬ (0 ≤ rd l.who i ∧ rd l.who j = rd l.who i)) ?_ ?_
        · conv => whnf
          exact ⟨0, ⟨by omega, fun j hj => by omega⟩, rfl⟩
        · rintro k ⟨hk, hb⟩
          repeat' (conv => whnf); first | refine Br.tt ?_ | refine Br.ff ?_ | refine Br.not ?_ | refine Br.dand (fun _ => ?_) (fun _ => ?_) | refine Br.dec (fun _ => ?_) (fun _ => ?_) | refine Br.beq (fun _ => ?_) (fun _ => ?_) | refine Br.bne (fun _ => ?_) (fun _ => ?_) | refine Br.seq (fun _ => ?_) (fun _ => ?_) | refine Elt.i (by omega) ?_ | refine EltN.i (by omega) ?_ | refine Nt.cast ?_ | refine Nt.mk _ rfl ?_ | refine EltN.mk _ rfl ?_ | refine Mx.mk _ rfl ?_ | refine Br.mk (fun _ => ?_) (fun _ => ?_) | refine EndP.mk ?_ trivial | refine EndP.mk ?_ ⟨.inr ⟨List.mem_cons_self .., ?_, rfl⟩, trivial⟩ | refine Ar.i64 (by omega) ?_ | refine Ar.u8 (by omega) ?_ | refine Quo.pos (by omega) ?_ | refine Rem.pos (by omega) ?_ | refine BsP.own ?_ | refine SetN.two ?_ | refine SetN.one ?_ | refine Ob.mk ⟨rfl, rfl⟩ ?_ | refine Ob.mk (flat_i _ _).1 ?_ | refine Ob.mk (flat_i _ _) ?_ | refine Ob.mk (flat_s _) ?_ | refine Ob.mk (by first | omega | (simp; first | done | fail) | (simp; omega)) ?_ | fail
          all_goals first
            | (conv => whnf
               exact ⟨k + 1, ⟨by omega, all_next hb (fun h => by omega)⟩, by omega, rfl⟩)
            | (conv => whnf
               exact ⟨i + 1, ⟨by omega, all_next ha ⟨by assumption, fun j hj => hb j (by omega)⟩⟩, by omega, rfl⟩)
            | (rw [layoutOk_bad (i := i) (by omega) (fun w => w.2 k (by omega) ⟨by assumption, by assumption⟩)]; rfl)
      · rw [layoutOk_bad (i := i) (by omega) (fun k => absurd k.1 (by assumption))]; rfl
      · have : decide (layoutOk l) = true := by
          rw [decide_eq_true_eq]
          refine ⟨by assumption, by omega, fun j hj => ha j (by omega)⟩
        rw [this]; rfl
  · have : decide (layoutOk l) = false := by rw [decide_eq_false_iff_not]; exact fun k => absurd k.2.1 (by omega)
    rw [this]; rfl
end Go.Proofs.Ytjomgcgeknpehaa
