/- Whether a camera is live at a look; the law. No condition. -/
import Derived.Test.YtafipjhalboefaaGa
namespace Go.Proofs.Ytafipjhalboefaa
open Go Go.Vx
set_option linter.unusedVariables false
set_option linter.unusedSimpArgs false
set_option maxHeartbeats 600000
set_option maxRecDepth 100000


def tellsAt (w : WorldD) (k : Nat) : List Tell := (gt lookD w.looks k).tells
def liveIn (ts : List Tell) (who : Int) : Bool := ts.any fun t => decide (t.what = 1 ∧ t.who = who)
def liveAt (w : WorldD) (k who : Int) : Bool := if 0 ≤ k ∧ k < w.looks.length then liveIn (tellsAt w k.toNat) who else false
theorem gt_of_mem {α : Type} {d : α} {l : List α} {x : α} (h : x ∈ l) : ∃ i, i < l.length ∧ x = gt d l i := by
  obtain ⟨i, hi, rfl⟩ := List.mem_iff_getElem.1 h
  refine ⟨i, hi, ?_⟩
  have := gt_some (d := d) hi
  rw [List.getElem?_eq_getElem hi] at this
  exact Option.some.inj this
theorem liveIn_hit {ts : List Tell} {who : Int} {i : Nat} (h : i < ts.length) (h1 : (gt tellD ts i).what = 1 ∧ (gt tellD ts i).who = who) : liveIn ts who = true := by
  unfold liveIn
  rw [List.any_eq_true]
  exact ⟨_, gt_mem h, by simpa using h1⟩
theorem liveIn_no {ts : List Tell} {who : Int} (h : ∀ i, i < ts.length → ¬ ((gt tellD ts i).what = 1 ∧ (gt tellD ts i).who = who)) : liveIn ts who = false := by
  unfold liveIn
  rw [List.any_eq_false]
  intro x hx
  obtain ⟨i, hi, rfl⟩ := gt_of_mem (d := tellD) hx
  simpa using h i hi
set_option maxHeartbeats 40000000 in
theorem liveAt_impl (w : WorldD) (k who : Int) (hz : w.looks.length ≤ 1000000000) (hz2 : ∀ n, n < w.looks.length → (tellsAt w n).length ≤ 1000000000) : Vow Try.prog 9 [worldVs w, .i .i64 k, .i .i64 who] (.b (liveAt w k who)) [] := by
  have hm : (w.looks.map lookVs).length = w.looks.length := by simp
  refine vow_of_ev (fn := Try.f9) [] [(0, 0), (9, 15), (0, 0), (16, 21), (0, 0), (25, 27), (27, 35), (0, 0), (36, 37), (0, 0)] tt_ok Try.func9 (by decide) rfl (Nat.le_of_ble_eq_true rfl) rfl rfl rfl ?_
  by_cases hk : 0 ≤ k ∧ k < w.looks.length
  · obtain ⟨n, rfl⟩ : ∃ n : Nat, k = n := ⟨k.toNat, by omega⟩
    have hn : n < w.looks.length := by omega
    have hr : liveAt w (n : Int) who = liveIn (tellsAt w n) who := by rw [liveAt, if_pos hk, Int.toNat_natCast]
    rw [hr]
    have ht := hz2 n hn
    have hm2 : ((tellsAt w n).map tellV).length = (tellsAt w n).length := by simp
    have w1 := within_vow (n : Int) 0 (((w.looks.map lookVs).length : Nat) - 1)
    repeat' (conv => whnf); first | refine CallP.rd (w1) rfl rfl rfl rfl ?_ | refine Elt.gt lookD hn ?_ | refine EltN.gt lookD hn ?_ | refine Br.tt ?_ | refine Br.ff ?_ | refine Br.not ?_ | refine Br.dand (fun _ => ?_) (fun _ => ?_) | refine Br.dec (fun _ => ?_) (fun _ => ?_) | refine Br.beq (fun _ => ?_) (fun _ => ?_) | refine Br.bne (fun _ => ?_) (fun _ => ?_) | refine Br.seq (fun _ => ?_) (fun _ => ?_) | refine Elt.i (by omega) ?_ | refine EltN.i (by omega) ?_ | refine Nt.cast ?_ | refine Nt.mk _ rfl ?_ | refine EltN.mk _ rfl ?_ | refine Mx.mk _ rfl ?_ | refine Br.mk (fun _ => ?_) (fun _ => ?_) | refine EndP.mk ?_ trivial | refine EndP.mk ?_ ⟨.inr ⟨List.mem_cons_self .., ?_, rfl⟩, trivial⟩ | refine Ar.i64 (by omega) ?_ | refine Ar.u8 (by omega) ?_ | refine Quo.pos (by omega) ?_ | refine Rem.pos (by omega) ?_ | refine BsP.own ?_ | refine SetN.two ?_ | refine SetN.one ?_ | refine Ob.mk ⟨rfl, rfl⟩ ?_ | refine Ob.mk (flat_i _ _).1 ?_ | refine Ob.mk (flat_i _ _) ?_ | refine Ob.mk (flat_s _) ?_ | refine Ob.mk (by first | omega | (simp; first | done | fail) | (simp; omega)) ?_ | fail
    all_goals try (exfalso; omega)
    all_goals (conv => whnf)
    refine LoopP.mk [2,6,21,22,23] (fun i : Nat => [(2, .i .i64 who), (6, .b false), (21, .sl ((tellsAt w n).map tellV)), (22, .i .i64 ((tellsAt w n).length : Nat)), (23, .i .i64 i)]) (fun i => (tellsAt w n).length - i)
      (fun i => i ≤ (tellsAt w n).length ∧ ∀ j, j < i → ¬ ((gt tellD (tellsAt w n) j).what = 1 ∧ (gt tellD (tellsAt w n) j).who = who)) ?_ ?_
    · conv => whnf
      refine ⟨0, ⟨by omega, fun j hj => by omega⟩, ?_⟩
      rw [show (((gt lookD w.looks n).tells.map tellV).length : Nat) = (tellsAt w n).length from hm2]
      rfl
    · rintro i ⟨hi, ha⟩
      by_cases hlt : i < (tellsAt w n).length
      · repeat' (conv => whnf); first | refine Elt.gt tellD hlt ?_ | refine EltN.gt tellD hlt ?_ | refine Br.tt ?_ | refine Br.ff ?_ | refine Br.not ?_ | refine Br.dand (fun _ => ?_) (fun _ => ?_) | refine Br.dec (fun _ => ?_) (fun _ => ?_) | refine Br.beq (fun _ => ?_) (fun _ => ?_) | refine Br.bne (fun _ => ?_) (fun _ => ?_) | refine Br.seq (fun _ => ?_) (fun _ => ?_) | refine Elt.i (by omega) ?_ | refine EltN.i (by omega) ?_ | refine Nt.cast ?_ | refine Nt.mk _ rfl ?_ | refine EltN.mk _ rfl ?_ | refine Mx.mk _ rfl ?_ | refine Br.mk (fun _ => ?_) (fun _ => ?_) | refine EndP.mk ?_ trivial | refine EndP.mk ?_ ⟨.inr ⟨List.mem_cons_self .., ?_, rfl⟩, trivial⟩ | refine Ar.i64 (by omega) ?_ | refine Ar.u8 (by omega) ?_ | refine Quo.pos (by omega) ?_ | refine Rem.pos (by omega) ?_ | refine BsP.own ?_ | refine SetN.two ?_ | refine SetN.one ?_ | refine Ob.mk ⟨rfl, rfl⟩ ?_ | refine Ob.mk (flat_i _ _).1 ?_ | refine Ob.mk (flat_i _ _) ?_ | refine Ob.mk (flat_s _) ?_ | refine Ob.mk (by first | omega | (simp; first | done | fail) | (simp; omega)) ?_ | fail
        all_goals first
          | (exfalso; omega)
          | (rw [liveIn_hit hlt ⟨by assumption, by assumption⟩]; rfl)
          | (conv => whnf
             exact ⟨i + 1, ⟨by omega, all_next ha (by omega)⟩, by omega, rfl⟩)
      · obtain rfl : i = (tellsAt w n).length := by omega
        repeat' (conv => whnf); first | refine Br.tt ?_ | refine Br.ff ?_ | refine Br.not ?_ | refine Br.dand (fun _ => ?_) (fun _ => ?_) | refine Br.dec (fun _ => ?_) (fun _ => ?_) | refine Br.beq (fun _ => ?_) (fun _ => ?_) | refine Br.bne (fun _ => ?_) (fun _ => ?_) | refine Br.seq (fun _ => ?_) (fun _ => ?_) | refine Elt.i (by omega) ?_ | refine EltN.i (by omega) ?_ | refine Nt.cast ?_ | refine Nt.mk _ rfl ?_ | refine EltN.mk _ rfl ?_ | refine Mx.mk _ rfl ?_ | refine Br.mk (fun _ => ?_) (fun _ => ?_) | refine EndP.mk ?_ trivial | refine EndP.mk ?_ ⟨.inr ⟨List.mem_cons_self .., ?_, rfl⟩, trivial⟩ | refine Ar.i64 (by omega) ?_ | refine Ar.u8 (by omega) ?_ | refine Quo.pos (by omega) ?_ | refine Rem.pos (by omega) ?_ | refine BsP.own ?_ | refine SetN.two ?_ | refine SetN.one ?_ | refine Ob.mk ⟨rfl, rfl⟩ ?_ | refine Ob.mk (flat_i _ _).1 ?_ | refine Ob.mk (flat_i _ _) ?_ | refine Ob.mk (flat_s _) ?_ | refine Ob.mk (by first | omega | (simp; first | done | fail) | (simp; omega)) ?_ | fail
        all_goals first
          | (exfalso; omega)
          | (rw [liveIn_no ha]; rfl)
  · rw [liveAt, if_neg hk]
    have w1 := within_vow k 0 (((w.looks.map lookVs).length : Nat) - 1)
    repeat' (conv => whnf); first | refine CallP.rd (w1) rfl rfl rfl rfl ?_ | refine Br.tt ?_ | refine Br.ff ?_ | refine Br.not ?_ | refine Br.dand (fun _ => ?_) (fun _ => ?_) | refine Br.dec (fun _ => ?_) (fun _ => ?_) | refine Br.beq (fun _ => ?_) (fun _ => ?_) | refine Br.bne (fun _ => ?_) (fun _ => ?_) | refine Br.seq (fun _ => ?_) (fun _ => ?_) | refine Elt.i (by omega) ?_ | refine EltN.i (by omega) ?_ | refine Nt.cast ?_ | refine Nt.mk _ rfl ?_ | refine EltN.mk _ rfl ?_ | refine Mx.mk _ rfl ?_ | refine Br.mk (fun _ => ?_) (fun _ => ?_) | refine EndP.mk ?_ trivial | refine EndP.mk ?_ ⟨.inr ⟨List.mem_cons_self .., ?_, rfl⟩, trivial⟩ | refine Ar.i64 (by omega) ?_ | refine Ar.u8 (by omega) ?_ | refine Quo.pos (by omega) ?_ | refine Rem.pos (by omega) ?_ | refine BsP.own ?_ | refine SetN.two ?_ | refine SetN.one ?_ | refine Ob.mk ⟨rfl, rfl⟩ ?_ | refine Ob.mk (flat_i _ _).1 ?_ | refine Ob.mk (flat_i _ _) ?_ | refine Ob.mk (flat_s _) ?_ | refine Ob.mk (by first | omega | (simp; first | done | fail) | (simp; omega)) ?_ | fail
    all_goals first
      | (exfalso; omega)
      | rfl
set_option maxHeartbeats 40000000 in
theorem liveAt_spec (w : WorldD) (k who : Int) (hz : w.looks.length ≤ 1000000000) (hz2 : ∀ n, n < w.looks.length → (tellsAt w n).length ≤ 1000000000) : Vow Try.prog 7 [worldVs w, .i .i64 k, .i .i64 who] (.b (liveAt w k who)) [] := by
  have hm : (w.looks.map lookVs).length = w.looks.length := by simp
  refine vow_of_ev (fn := Try.f7) [] [(0, 0), (8, 16), (0, 0), (0, 0), (17, 25), (26, 28), (28, 52), (0, 0), (0, 0)] tt_ok Try.func7 (by decide) rfl (Nat.le_of_ble_eq_true rfl) rfl rfl rfl ?_
  by_cases hk : 0 ≤ k ∧ k < w.looks.length
  · obtain ⟨n, rfl⟩ : ∃ n : Nat, k = n := ⟨k.toNat, by omega⟩
    have hn : n < w.looks.length := by omega
    have hr : liveAt w (n : Int) who = liveIn (tellsAt w n) who := by rw [liveAt, if_pos hk, Int.toNat_natCast]
    rw [hr]
    have ht := hz2 n hn
    have hm2 : ((gt lookD w.looks n).tells.map tellV).length = (tellsAt w n).length := by simp [tellsAt]
    repeat' (conv => whnf); first | refine Br.tt ?_ | refine Br.ff ?_ | refine Br.not ?_ | refine Br.dand (fun _ => ?_) (fun _ => ?_) | refine Br.dec (fun _ => ?_) (fun _ => ?_) | refine Br.beq (fun _ => ?_) (fun _ => ?_) | refine Br.bne (fun _ => ?_) (fun _ => ?_) | refine Br.seq (fun _ => ?_) (fun _ => ?_) | refine Elt.i (by omega) ?_ | refine EltN.i (by omega) ?_ | refine Nt.cast ?_ | refine Nt.mk _ rfl ?_ | refine EltN.mk _ rfl ?_ | refine Mx.mk _ rfl ?_ | refine Br.mk (fun _ => ?_) (fun _ => ?_) | refine EndP.mk ?_ trivial | refine EndP.mk ?_ ⟨.inr ⟨List.mem_cons_self .., ?_, rfl⟩, trivial⟩ | refine Ar.i64 (by omega) ?_ | refine Ar.u8 (by omega) ?_ | refine Quo.pos (by omega) ?_ | refine Rem.pos (by omega) ?_ | refine BsP.own ?_ | refine SetN.two ?_ | refine SetN.one ?_ | refine Ob.mk ⟨rfl, rfl⟩ ?_ | refine Ob.mk (flat_i _ _).1 ?_ | refine Ob.mk (flat_i _ _) ?_ | refine Ob.mk (flat_s _) ?_ | refine Ob.mk (by first | omega | (simp; first | done | fail) | (simp; omega)) ?_ | fail
    all_goals try (exfalso; omega)
    all_goals (conv => whnf)
    refine LoopP.mk [1,2,3,6,7] (fun i : Nat => [(1, .i .i64 n), (2, .i .i64 who), (3, worldB w), (6, .b false), (7, .i .i64 i)]) (fun i => (tellsAt w n).length - i)
      (fun i => i ≤ (tellsAt w n).length ∧ ∀ j, j < i → ¬ ((gt tellD (tellsAt w n) j).what = 1 ∧ (gt tellD (tellsAt w n) j).who = who)) ?_ ?_
    · conv => whnf
      exact ⟨0, ⟨by omega, fun j hj => by omega⟩, rfl⟩
    · rintro i ⟨hi, ha⟩
      by_cases hlt : i < (tellsAt w n).length
      · have hlt' : i < (gt lookD w.looks n).tells.length := hlt
        repeat' (conv => whnf); first | refine Elt.gt lookD hn ?_ | refine EltN.gt lookD hn ?_ | refine Elt.gt tellD hlt' ?_ | refine EltN.gt tellD hlt' ?_ | refine Br.tt ?_ | refine Br.ff ?_ | refine Br.not ?_ | refine Br.dand (fun _ => ?_) (fun _ => ?_) | refine Br.dec (fun _ => ?_) (fun _ => ?_) | refine Br.beq (fun _ => ?_) (fun _ => ?_) | refine Br.bne (fun _ => ?_) (fun _ => ?_) | refine Br.seq (fun _ => ?_) (fun _ => ?_) | refine Elt.i (by omega) ?_ | refine EltN.i (by omega) ?_ | refine Nt.cast ?_ | refine Nt.mk _ rfl ?_ | refine EltN.mk _ rfl ?_ | refine Mx.mk _ rfl ?_ | refine Br.mk (fun _ => ?_) (fun _ => ?_) | refine EndP.mk ?_ trivial | refine EndP.mk ?_ ⟨.inr ⟨List.mem_cons_self .., ?_, rfl⟩, trivial⟩ | refine Ar.i64 (by omega) ?_ | refine Ar.u8 (by omega) ?_ | refine Quo.pos (by omega) ?_ | refine Rem.pos (by omega) ?_ | refine BsP.own ?_ | refine SetN.two ?_ | refine SetN.one ?_ | refine Ob.mk ⟨rfl, rfl⟩ ?_ | refine Ob.mk (flat_i _ _).1 ?_ | refine Ob.mk (flat_i _ _) ?_ | refine Ob.mk (flat_s _) ?_ | refine Ob.mk (by first | omega | (simp; first | done | fail) | (simp; omega)) ?_ | fail
        all_goals first
          | (exfalso; omega)
          | (rw [liveIn_hit hlt ⟨by assumption, by assumption⟩]; rfl)
          | (conv => whnf
             exact ⟨i + 1, ⟨by omega, all_next ha (fun h => by have h1 := h.1; have h2 := h.2; first | exact absurd h1 (by assumption) | exact absurd h2 (by assumption))⟩, by omega, rfl⟩)
      · obtain rfl : i = (tellsAt w n).length := by omega
        repeat' (conv => whnf); first | refine Elt.gt lookD hn ?_ | refine EltN.gt lookD hn ?_ | refine Br.tt ?_ | refine Br.ff ?_ | refine Br.not ?_ | refine Br.dand (fun _ => ?_) (fun _ => ?_) | refine Br.dec (fun _ => ?_) (fun _ => ?_) | refine Br.beq (fun _ => ?_) (fun _ => ?_) | refine Br.bne (fun _ => ?_) (fun _ => ?_) | refine Br.seq (fun _ => ?_) (fun _ => ?_) | refine Elt.i (by omega) ?_ | refine EltN.i (by omega) ?_ | refine Nt.cast ?_ | refine Nt.mk _ rfl ?_ | refine EltN.mk _ rfl ?_ | refine Mx.mk _ rfl ?_ | refine Br.mk (fun _ => ?_) (fun _ => ?_) | refine EndP.mk ?_ trivial | refine EndP.mk ?_ ⟨.inr ⟨List.mem_cons_self .., ?_, rfl⟩, trivial⟩ | refine Ar.i64 (by omega) ?_ | refine Ar.u8 (by omega) ?_ | refine Quo.pos (by omega) ?_ | refine Rem.pos (by omega) ?_ | refine BsP.own ?_ | refine SetN.two ?_ | refine SetN.one ?_ | refine Ob.mk ⟨rfl, rfl⟩ ?_ | refine Ob.mk (flat_i _ _).1 ?_ | refine Ob.mk (flat_i _ _) ?_ | refine Ob.mk (flat_s _) ?_ | refine Ob.mk (by first | omega | (simp; first | done | fail) | (simp; omega)) ?_ | fail
        all_goals first
          | (exfalso; omega)
          | (rw [liveIn_no ha]; rfl)
  · rw [liveAt, if_neg hk]
    repeat' (conv => whnf); first | refine Br.tt ?_ | refine Br.ff ?_ | refine Br.not ?_ | refine Br.dand (fun _ => ?_) (fun _ => ?_) | refine Br.dec (fun _ => ?_) (fun _ => ?_) | refine Br.beq (fun _ => ?_) (fun _ => ?_) | refine Br.bne (fun _ => ?_) (fun _ => ?_) | refine Br.seq (fun _ => ?_) (fun _ => ?_) | refine Elt.i (by omega) ?_ | refine EltN.i (by omega) ?_ | refine Nt.cast ?_ | refine Nt.mk _ rfl ?_ | refine EltN.mk _ rfl ?_ | refine Mx.mk _ rfl ?_ | refine Br.mk (fun _ => ?_) (fun _ => ?_) | refine EndP.mk ?_ trivial | refine EndP.mk ?_ ⟨.inr ⟨List.mem_cons_self .., ?_, rfl⟩, trivial⟩ | refine Ar.i64 (by omega) ?_ | refine Ar.u8 (by omega) ?_ | refine Quo.pos (by omega) ?_ | refine Rem.pos (by omega) ?_ | refine BsP.own ?_ | refine SetN.two ?_ | refine SetN.one ?_ | refine Ob.mk ⟨rfl, rfl⟩ ?_ | refine Ob.mk (flat_i _ _).1 ?_ | refine Ob.mk (flat_i _ _) ?_ | refine Ob.mk (flat_s _) ?_ | refine Ob.mk (by first | omega | (simp; first | done | fail) | (simp; omega)) ?_ | fail
    all_goals first
      | (exfalso; omega)
      | rfl
end Go.Proofs.Ytafipjhalboefaa
