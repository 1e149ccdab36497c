/- Where one stands in a layout. No condition. -/
import Derived.Test.YtjomgcgeknpehaaSh
namespace Go.Proofs.Ytjomgcgeknpehaa
open Go Go.Vx
set_option linter.unusedVariables false
set_option linter.unusedSimpArgs false
set_option maxHeartbeats 600000
set_option maxRecDepth 100000

def firstGo (w : List Int) (x : Int) : Nat → Nat → Int
  | 0, _ => -1
  | n + 1, i => if rd w i = x then i else firstGo w x n (i + 1)
def first (w : List Int) (x : Int) : Int := firstGo w x w.length 0
theorem first_at {w : List Int} {x : Int} {i : Nat} (h : firstGo w x (w.length - i) i = first w x) (hi : i < w.length) (he : rd w i = x) : first w x = i := by
  rw [← h, show w.length - i = (w.length - (i + 1)) + 1 by omega, firstGo, if_pos he]
theorem first_next {w : List Int} {x : Int} {i : Nat} (h : firstGo w x (w.length - i) i = first w x) (hi : i < w.length) (he : ¬ rd w i = x) : firstGo w x (w.length - (i + 1)) (i + 1) = first w x := by
  rw [← h, show w.length - i = (w.length - (i + 1)) + 1 by omega, firstGo, if_neg he]
theorem first_no {w : List Int} {x : Int} {i : Nat} (h : firstGo w x (w.length - i) i = first w x) (hi : ¬ i < w.length) : first w x = -1 := by
  rw [← h, show w.length - i = 0 by omega, firstGo]

def cellOf (l : Layout) (who : Int) : Int := if layoutOk l ∧ 0 ≤ who then first l.who who else -1

theorem cellOf_impl (l : Layout) (who : Int) (hf : l.who.length ≤ 17592186044416) : Vow Try.prog 59 [layV l, .i .i64 who] (.i .i64 (cellOf l who)) [] := by
  refine vow_of_ev (fn := Try.f59) [] [(0, 0), (7, 13), (0, 0), (14, 15), (0, 0), (19, 22), (22, 24), (25, 26), (26, 27), (0, 0)] tt_ok Try.func59 (by decide) rfl (Nat.le_of_ble_eq_true rfl) rfl rfl rfl ?_
  have lw : (l.who.map (V.i .i64)).length = l.who.length := by simp
  repeat' (conv => whnf); first | refine CallP.rd (layoutOk_impl l) rfl rfl rfl rfl ?_ | refine Br.tt ?_ | refine Br.ff ?_ | refine Br.not ?_ | refine Br.dand (fun _ => ?_) (fun _ => ?_) | refine Br.dec (fun _ => ?_) (fun _ => ?_) | refine Br.beq (fun _ => ?_) (fun _ => ?_) | refine Br.bne (fun _ => ?_) (fun _ => ?_) | refine Br.seq (fun _ => ?_) (fun _ => ?_) | refine Elt.i (by omega) ?_ | refine EltN.i (by omega) ?_ | refine Nt.cast ?_ | refine Nt.mk _ rfl ?_ | refine EltN.mk _ rfl ?_ | refine Mx.mk _ rfl ?_ | refine Br.mk (fun _ => ?_) (fun _ => ?_) | refine EndP.mk ?_ trivial | refine EndP.mk ?_ ⟨.inr ⟨List.mem_cons_self .., ?_, rfl⟩, trivial⟩ | refine Ar.i64 (by omega) ?_ | refine Ar.u8 (by omega) ?_ | refine Quo.pos (by omega) ?_ | refine Rem.pos (by omega) ?_ | refine BsP.own ?_ | refine SetN.two ?_ | refine SetN.one ?_ | refine Ob.mk ⟨rfl, rfl⟩ ?_ | refine Ob.mk (flat_i _ _).1 ?_ | refine Ob.mk (flat_i _ _) ?_ | refine Ob.mk (flat_s _) ?_ | refine Ob.mk (by first | omega | (simp; first | done | fail) | (simp; omega)) ?_ | fail
  · rw [cellOf, if_neg (fun k => by omega)]; rfl
  · conv => whnf
    refine LoopP.mk [1,2,4,15,16,17] (fun i : Nat => [(1, .i .i64 who), (2, .bx [iS l.cols, iS l.rows, iS l.who]), (4, .i .i64 0), (15, iS l.who), (16, .i .i64 ((l.who.map (V.i .i64)).length)), (17, .i .i64 i)]) (fun i => l.who.length - i) (fun i => i ≤ l.who.length ∧ firstGo l.who who (l.who.length - i) i = first l.who who) ?_ ?_
    · conv => whnf
      exact ⟨0, ⟨by omega, rfl⟩, rfl⟩
    · rintro i ⟨hi, ha⟩
      repeat' (conv => whnf); first | refine Br.tt ?_ | refine Br.ff ?_ | refine Br.not ?_ | refine Br.dand (fun _ => ?_) (fun _ => ?_) | refine Br.dec (fun _ => ?_) (fun _ => ?_) | refine Br.beq (fun _ => ?_) (fun _ => ?_) | refine Br.bne (fun _ => ?_) (fun _ => ?_) | refine Br.seq (fun _ => ?_) (fun _ => ?_) | refine Elt.i (by omega) ?_ | refine EltN.i (by omega) ?_ | refine Nt.cast ?_ | refine Nt.mk _ rfl ?_ | refine EltN.mk _ rfl ?_ | refine Mx.mk _ rfl ?_ | refine Br.mk (fun _ => ?_) (fun _ => ?_) | refine EndP.mk ?_ trivial | refine EndP.mk ?_ ⟨.inr ⟨List.mem_cons_self .., ?_, rfl⟩, trivial⟩ | refine Ar.i64 (by omega) ?_ | refine Ar.u8 (by omega) ?_ | refine Quo.pos (by omega) ?_ | refine Rem.pos (by omega) ?_ | refine BsP.own ?_ | refine SetN.two ?_ | refine SetN.one ?_ | refine Ob.mk ⟨rfl, rfl⟩ ?_ | refine Ob.mk (flat_i _ _).1 ?_ | refine Ob.mk (flat_i _ _) ?_ | refine Ob.mk (flat_s _) ?_ | refine Ob.mk (by first | omega | (simp; first | done | fail) | (simp; omega)) ?_ | fail
      · rw [cellOf, if_pos ⟨by assumption, by omega⟩, first_at ha (by omega) (by assumption)]; rfl
      · conv => whnf
        exact ⟨i + 1, ⟨by omega, first_next ha (by omega) (by assumption)⟩, by omega, rfl⟩
      · rw [cellOf, if_pos ⟨by assumption, by omega⟩, first_no ha (by omega)]; rfl
  · rw [cellOf, if_neg (fun k => absurd k.1 (by assumption))]; rfl

theorem cellOf_spec (l : Layout) (who : Int) (hf : l.who.length ≤ 17592186044416) : Vow Try.prog 56 [layV l, .i .i64 who] (.i .i64 (cellOf l who)) [] := by
  refine vow_of_ev (fn := Try.f56) [] [(0, 0), (6, 12), (0, 0), (0, 0), (13, 17), (18, 20), (20, 26), (27, 28), (0, 0)] tt_ok Try.func56 (by decide) rfl (Nat.le_of_ble_eq_true rfl) rfl rfl rfl ?_
  have lw : (l.who.map (V.i .i64)).length = l.who.length := by simp
  repeat' (conv => whnf); first | refine CallP.rd (layoutOk_spec l) rfl rfl rfl rfl ?_ | refine Br.tt ?_ | refine Br.ff ?_ | refine Br.not ?_ | refine Br.dand (fun _ => ?_) (fun _ => ?_) | refine Br.dec (fun _ => ?_) (fun _ => ?_) | refine Br.beq (fun _ => ?_) (fun _ => ?_) | refine Br.bne (fun _ => ?_) (fun _ => ?_) | refine Br.seq (fun _ => ?_) (fun _ => ?_) | refine Elt.i (by omega) ?_ | refine EltN.i (by omega) ?_ | refine Nt.cast ?_ | refine Nt.mk _ rfl ?_ | refine EltN.mk _ rfl ?_ | refine Mx.mk _ rfl ?_ | refine Br.mk (fun _ => ?_) (fun _ => ?_) | refine EndP.mk ?_ trivial | refine EndP.mk ?_ ⟨.inr ⟨List.mem_cons_self .., ?_, rfl⟩, trivial⟩ | refine Ar.i64 (by omega) ?_ | refine Ar.u8 (by omega) ?_ | refine Quo.pos (by omega) ?_ | refine Rem.pos (by omega) ?_ | refine BsP.own ?_ | refine SetN.two ?_ | refine SetN.one ?_ | refine Ob.mk ⟨rfl, rfl⟩ ?_ | refine Ob.mk (flat_i _ _).1 ?_ | refine Ob.mk (flat_i _ _) ?_ | refine Ob.mk (flat_s _) ?_ | refine Ob.mk (by first | omega | (simp; first | done | fail) | (simp; omega)) ?_ | fail
  · rw [cellOf, if_neg (fun k => by omega)]; rfl
  · conv => whnf
    refine LoopP.mk [1,2,4,5] (fun i : Nat => [(1, .i .i64 who), (2, .bx [iS l.cols, iS l.rows, iS l.who]), (4, .i .i64 0), (5, .i .i64 i)]) (fun i => l.who.length - i) (fun i => i ≤ l.who.length ∧ firstGo l.who who (l.who.length - i) i = first l.who who) ?_ ?_
    · conv => whnf
      exact ⟨0, ⟨by omega, rfl⟩, rfl⟩
    · rintro i ⟨hi, ha⟩
      repeat' (conv => whnf); first | refine Br.tt ?_ | refine Br.ff ?_ | refine Br.not ?_ | refine Br.dand (fun _ => ?_) (fun _ => ?_) | refine Br.dec (fun _ => ?_) (fun _ => ?_) | refine Br.beq (fun _ => ?_) (fun _ => ?_) | refine Br.bne (fun _ => ?_) (fun _ => ?_) | refine Br.seq (fun _ => ?_) (fun _ => ?_) | refine Elt.i (by omega) ?_ | refine EltN.i (by omega) ?_ | refine Nt.cast ?_ | refine Nt.mk _ rfl ?_ | refine EltN.mk _ rfl ?_ | refine Mx.mk _ rfl ?_ | refine Br.mk (fun _ => ?_) (fun _ => ?_) | refine EndP.mk ?_ trivial | refine EndP.mk ?_ ⟨.inr ⟨List.mem_cons_self .., ?_, rfl⟩, trivial⟩ | refine Ar.i64 (by omega) ?_ | refine Ar.u8 (by omega) ?_ | refine Quo.pos (by omega) ?_ | refine Rem.pos (by omega) ?_ | refine BsP.own ?_ | refine SetN.two ?_ | refine SetN.one ?_ | refine Ob.mk ⟨rfl, rfl⟩ ?_ | refine Ob.mk (flat_i _ _).1 ?_ | refine Ob.mk (flat_i _ _) ?_ | refine Ob.mk (flat_s _) ?_ | refine Ob.mk (by first | omega | (simp; first | done | fail) | (simp; omega)) ?_ | fail
      · rw [cellOf, if_pos ⟨by assumption, by omega⟩, first_at ha (by omega) (by assumption)]; rfl
      · conv => whnf
        exact ⟨i + 1, ⟨by omega, first_next ha (by omega) (by assumption)⟩, by omega, rfl⟩
      · rw [cellOf, if_pos ⟨by assumption, by omega⟩, first_no ha (by omega)]; rfl
  · rw [cellOf, if_neg (fun k => absurd k.1 (by assumption))]; rfl

theorem szLayout_ge {l : Layout} {x : Int} (h : ¬ szLayout l x < 0) : szLayout l x ≤ x ∧ (l.cols.length : Int) ≤ x ∧ (l.rows.length : Int) ≤ x ∧ (l.who.length : Int) ≤ x := by
  have c1 := sz1_le l.cols.length x
  have c2 := sz1_le l.rows.length (sz1 l.cols.length x)
  have c3 := sz1_le l.who.length (sz1 l.rows.length (sz1 l.cols.length x))
  unfold szLayout at h ⊢
  split at h
  · omega
  · rw [if_neg (by assumption)]
    split at h
    · omega
    · rw [if_neg (by assumption)]
      split at h
      · omega
      · rw [if_neg (by assumption)]; omega

end Go.Proofs.Ytjomgcgeknpehaa
