/- Worlds: what a tile shows, and whether it is true: both sides. No condition. -/
import Derived.Test.YtafipjhalboefaaGreatGh
import Derived.Test.YtafipjhalboefaaGreatGf
namespace Go.Vx
theorem Elt.gtk {α : Type} (d : α) {f : α → V} {l : List α} (j : Nat) {x : Int} {κ : V → Prop} (h : x = (j : Int) ∧ j < l.length) (g : κ (f (Vx.gt d l j))) : Elt (l.map f) x κ := by
  obtain ⟨rfl, h⟩ := h; exact Elt.gt d h g
theorem EltN.gtk {α : Type} (d : α) {f : α → V} {l : List α} (j : Nat) {x : Nat} {κ : V → Prop} (h : x = j ∧ j < l.length) (g : κ (f (Vx.gt d l j))) : EltN (l.map f) x κ := by
  obtain ⟨rfl, h⟩ := h; exact EltN.gt d h g
end Go.Vx
namespace Go.Proofs.YtafipjhalboefaaGreat
open Go Go.Vx
set_option linter.unusedVariables false
set_option linter.unusedSimpArgs false
set_option maxHeartbeats 600000
set_option maxRecDepth 100000
def lkAt (a : WorldD) (k : Int) : LookD := gt lookD a.looks k.toNat
def lkPic (a : WorldD) (k : Int) : Pic := gt picD (lkAt a k).pics 0
def lkRect (a : WorldD) (k t : Int) : Rect4 := tileR (lkAt a k).seq.level (lkAt a k).seq.bits (lkAt a k).seq.cols (lkAt a k).seq.rows t
def lkIn (a : WorldD) (k t : Int) : Prop := tileIn (lkAt a k).seq.level (lkAt a k).seq.bits (lkAt a k).seq.cols (lkAt a k).seq.rows t
instance (a : WorldD) (k t : Int) : Decidable (lkIn a k t) := by unfold lkIn; infer_instance
def shOk (a : WorldD) (k t : Int) : Prop := (0 ≤ k ∧ k < a.looks.length) ∧ 0 < (lkAt a k).pics.length ∧ lkIn a k t ∧ cutOk (lkPic a k) (lkRect a k t)
instance (a : WorldD) (k t : Int) : Decidable (shOk a k t) := by unfold shOk; infer_instance
def tileShows (a : WorldD) (k t : Int) : Option Pic := if shOk a k t then some (cutP (lkPic a k) (lkRect a k t)) else none
def shV : Option Pic → V
  | some p => .tp [picV p, .b true]
  | none => .tp [.ag [.i .i64 0, .i .i64 0, .s []], .b false]
theorem sh_yes {a : WorldD} {k t : Int} (h : shOk a k t) : shV (tileShows a k t) = .tp [picV (cutP (lkPic a k) (lkRect a k t)), .b true] := by unfold tileShows; rw [if_pos h]; rfl
theorem sh_no {a : WorldD} {k t : Int} (h : ¬ shOk a k t) : shV (tileShows a k t) = .tp [.ag [.i .i64 0, .i .i64 0, .s []], .b false] := by unfold tileShows; rw [if_neg h]; rfl
structure WoFit (a : WorldD) : Prop where
  looks : a.looks.length ≤ 1000000000
  sights : a.sights.length ≤ 1000000000
  look : ∀ n, n < a.looks.length → (gt lookD a.looks n).tells.length ≤ 1000000000 ∧ (gt lookD a.looks n).pics.length ≤ 1000000000 ∧ (gt lookD a.looks n).codes.length ≤ 1000000000 ∧ (gt lookD a.looks n).units.length ≤ 1000000000

set_option maxHeartbeats 16000000 in
theorem tileShows_impl (a : WorldD) (k t : Int) (hz : WoFit a) : Vow Tryz.prog 12 [worldVs a, .i .i64 k, .i .i64 t] (shV (tileShows a k t)) [] := by
  have hm : (a.looks.map lookVs).length = a.looks.length := by simp
  have hzl := hz.looks
  have w1 := within_vow k 0 ((a.looks.length : Nat) - 1)
  rw [← hm] at w1
  refine vow_of_ev (fn := Tryz.f12) [] [(0, 0), (10, 26), (27, 28), (28, 39), (39, 40), (41, 42), (42, 54)] tt_ok Tryz.func12 (by decide) rfl (Nat.le_of_ble_eq_true rfl) rfl rfl rfl ?_
  by_cases hk : 0 ≤ k ∧ k < a.looks.length
  · obtain ⟨n, rfl⟩ : ∃ n : Nat, k = n := ⟨k.toNat, by omega⟩
    have hn : n < a.looks.length := by omega
    have hlk : lkAt a (n : Int) = gt lookD a.looks n := by unfold lkAt; rw [Int.toNat_natCast]
    obtain ⟨_, hpl, _, _⟩ := hz.look n hn
    have hmp : ((gt lookD a.looks n).pics.map picV).length = (gt lookD a.looks n).pics.length := by simp
    by_cases hp : 0 < (lkAt a (n : Int)).pics.length
    · have t1 := tileRect_impl (lkAt a (n : Int)).seq.level (lkAt a (n : Int)).seq.bits (lkAt a (n : Int)).seq.cols (lkAt a (n : Int)).seq.rows t
      rw [show tileR (lkAt a (n : Int)).seq.level (lkAt a (n : Int)).seq.bits (lkAt a (n : Int)).seq.cols (lkAt a (n : Int)).seq.rows t = lkRect a n t from rfl] at t1
      by_cases ht : lkIn a n t
      · rw [show decide (tileIn (lkAt a (n : Int)).seq.level (lkAt a (n : Int)).seq.bits (lkAt a (n : Int)).seq.cols (lkAt a (n : Int)).seq.rows t) = true from decide_eq_true ht] at t1
        have c1 := cutOf_impl (lkPic a n) (lkRect a n t)
        by_cases hc : cutOk (lkPic a n) (lkRect a n t)
        · rw [if_pos hc] at c1
          rw [sh_yes ⟨by omega, hp, ht, hc⟩]
          generalize cutP (lkPic a n) (lkRect a n t) = C at *
          generalize lkRect a n t = R at *
          unfold lkPic at c1
          rw [hlk] at *
          repeat' (conv => whnf); first | refine CallP.rd (w1) rfl rfl rfl rfl ?_ | refine DCall.rd (w1) rfl rfl ?_ | refine Elt.gt lookD hn ?_ | refine EltN.gt lookD hn ?_ | refine Elt.gtk picD 0 (by omega) ?_ | refine EltN.gtk picD 0 (by omega) ?_ | refine CallP.re (t1) (by first | with_reducible rfl | (simp only [imm_i, imm_s, imm_b, iO, iS, imm_iO, seqV, seqVs, rectV, picV, lookVs, worldVs, tellV, sightVs]; first | done | fail)) rfl rfl rfl (by first | rfl | exact own_i _ _ | exact own_s _ | exact own_b _ | (simp [V.noSl, V.noSl.go, own_i, own_s, own_b, iO, iS, imm_iO, seqV, seqVs, rectV, picV, lookVs, worldVs, tellV, sightVs]; first | done | fail)) ?_ | refine DCall.re (t1) (by first | with_reducible rfl | (simp only [imm_i, imm_s, imm_b, iO, iS, imm_iO, seqV, seqVs, rectV, picV, lookVs, worldVs, tellV, sightVs]; first | done | fail)) rfl (by first | rfl | exact own_i _ _ | exact own_s _ | exact own_b _ | (simp [V.noSl, V.noSl.go, own_i, own_s, own_b, iO, iS, imm_iO, seqV, seqVs, rectV, picV, lookVs, worldVs, tellV, sightVs]; first | done | fail)) ?_ | refine CallP.rd (c1) rfl rfl rfl rfl ?_ | refine DCall.rd (c1) rfl rfl ?_ | refine Br.tt ?_ | refine Br.ff ?_ | refine Br.not ?_ | refine Br.dand (fun _ => ?_) (fun _ => ?_) | refine Br.dec (fun _ => ?_) (fun _ => ?_) | refine Br.beq (fun _ => ?_) (fun _ => ?_) | refine Br.bne (fun _ => ?_) (fun _ => ?_) | refine Br.seq (fun _ => ?_) (fun _ => ?_) | refine Elt.i (by omega) ?_ | refine EltN.i (by omega) ?_ | refine Nt.cast ?_ | refine Nt.mk _ rfl ?_ | refine EltN.mk _ rfl ?_ | refine Mx.mk _ rfl ?_ | refine Br.mk (fun _ => ?_) (fun _ => ?_) | refine EndP.mk ?_ trivial | refine EndP.mk ?_ ⟨.inr ⟨List.mem_cons_self .., ?_, rfl⟩, trivial⟩ | refine Ar.i64 (by omega) ?_ | refine Ar.u8 (by omega) ?_ | refine Quo.pos (by omega) ?_ | refine Rem.pos (by omega) ?_ | refine BsP.own ?_ | refine SetN.two ?_ | refine SetN.one ?_ | refine Ob.mk ⟨rfl, rfl⟩ ?_ | refine Ob.mk (flat_i _ _).1 ?_ | refine Ob.mk (flat_i _ _) ?_ | refine Ob.mk (flat_s _) ?_ | refine Ob.mk (by first | omega | (simp; first | done | fail) | (simp; omega)) ?_ | fail
          all_goals first
            | (exfalso; omega)
            | rfl
        · rw [if_neg hc] at c1
          rw [sh_no (fun k => hc k.2.2.2)]
          generalize lkRect a n t = R at *
          unfold lkPic at c1
          rw [hlk] at *
          repeat' (conv => whnf); first | refine CallP.rd (w1) rfl rfl rfl rfl ?_ | refine DCall.rd (w1) rfl rfl ?_ | refine Elt.gt lookD hn ?_ | refine EltN.gt lookD hn ?_ | refine Elt.gtk picD 0 (by omega) ?_ | refine EltN.gtk picD 0 (by omega) ?_ | refine CallP.re (t1) (by first | with_reducible rfl | (simp only [imm_i, imm_s, imm_b, iO, iS, imm_iO, seqV, seqVs, rectV, picV, lookVs, worldVs, tellV, sightVs]; first | done | fail)) rfl rfl rfl (by first | rfl | exact own_i _ _ | exact own_s _ | exact own_b _ | (simp [V.noSl, V.noSl.go, own_i, own_s, own_b, iO, iS, imm_iO, seqV, seqVs, rectV, picV, lookVs, worldVs, tellV, sightVs]; first | done | fail)) ?_ | refine DCall.re (t1) (by first | with_reducible rfl | (simp only [imm_i, imm_s, imm_b, iO, iS, imm_iO, seqV, seqVs, rectV, picV, lookVs, worldVs, tellV, sightVs]; first | done | fail)) rfl (by first | rfl | exact own_i _ _ | exact own_s _ | exact own_b _ | (simp [V.noSl, V.noSl.go, own_i, own_s, own_b, iO, iS, imm_iO, seqV, seqVs, rectV, picV, lookVs, worldVs, tellV, sightVs]; first | done | fail)) ?_ | refine CallP.rd (c1) rfl rfl rfl rfl ?_ | refine DCall.rd (c1) rfl rfl ?_ | refine Br.tt ?_ | refine Br.ff ?_ | refine Br.not ?_ | refine Br.dand (fun _ => ?_) (fun _ => ?_) | refine Br.dec (fun _ => ?_) (fun _ => ?_) | refine Br.beq (fun _ => ?_) (fun _ => ?_) | refine Br.bne (fun _ => ?_) (fun _ => ?_) | refine Br.seq (fun _ => ?_) (fun _ => ?_) | refine Elt.i (by omega) ?_ | refine EltN.i (by omega) ?_ | refine Nt.cast ?_ | refine Nt.mk _ rfl ?_ | refine EltN.mk _ rfl ?_ | refine Mx.mk _ rfl ?_ | refine Br.mk (fun _ => ?_) (fun _ => ?_) | refine EndP.mk ?_ trivial | refine EndP.mk ?_ ⟨.inr ⟨List.mem_cons_self .., ?_, rfl⟩, trivial⟩ | refine Ar.i64 (by omega) ?_ | refine Ar.u8 (by omega) ?_ | refine Quo.pos (by omega) ?_ | refine Rem.pos (by omega) ?_ | refine BsP.own ?_ | refine SetN.two ?_ | refine SetN.one ?_ | refine Ob.mk ⟨rfl, rfl⟩ ?_ | refine Ob.mk (flat_i _ _).1 ?_ | refine Ob.mk (flat_i _ _) ?_ | refine Ob.mk (flat_s _) ?_ | refine Ob.mk (by first | omega | (simp; first | done | fail) | (simp; omega)) ?_ | fail
          all_goals first
            | (exfalso; omega)
            | rfl
      · rw [show decide (tileIn (lkAt a (n : Int)).seq.level (lkAt a (n : Int)).seq.bits (lkAt a (n : Int)).seq.cols (lkAt a (n : Int)).seq.rows t) = false from decide_eq_false ht] at t1
        rw [sh_no (fun k => ht k.2.2.1)]
        generalize lkRect a n t = R at *
        rw [hlk] at *
        repeat' (conv => whnf); first | refine CallP.rd (w1) rfl rfl rfl rfl ?_ | refine DCall.rd (w1) rfl rfl ?_ | refine Elt.gt lookD hn ?_ | refine EltN.gt lookD hn ?_ | refine CallP.re (t1) (by first | with_reducible rfl | (simp only [imm_i, imm_s, imm_b, iO, iS, imm_iO, seqV, seqVs, rectV, picV, lookVs, worldVs, tellV, sightVs]; first | done | fail)) rfl rfl rfl (by first | rfl | exact own_i _ _ | exact own_s _ | exact own_b _ | (simp [V.noSl, V.noSl.go, own_i, own_s, own_b, iO, iS, imm_iO, seqV, seqVs, rectV, picV, lookVs, worldVs, tellV, sightVs]; first | done | fail)) ?_ | refine DCall.re (t1) (by first | with_reducible rfl | (simp only [imm_i, imm_s, imm_b, iO, iS, imm_iO, seqV, seqVs, rectV, picV, lookVs, worldVs, tellV, sightVs]; first | done | fail)) rfl (by first | rfl | exact own_i _ _ | exact own_s _ | exact own_b _ | (simp [V.noSl, V.noSl.go, own_i, own_s, own_b, iO, iS, imm_iO, seqV, seqVs, rectV, picV, lookVs, worldVs, tellV, sightVs]; first | done | fail)) ?_ | refine Br.tt ?_ | refine Br.ff ?_ | refine Br.not ?_ | refine Br.dand (fun _ => ?_) (fun _ => ?_) | refine Br.dec (fun _ => ?_) (fun _ => ?_) | refine Br.beq (fun _ => ?_) (fun _ => ?_) | refine Br.bne (fun _ => ?_) (fun _ => ?_) | refine Br.seq (fun _ => ?_) (fun _ => ?_) | refine Elt.i (by omega) ?_ | refine EltN.i (by omega) ?_ | refine Nt.cast ?_ | refine Nt.mk _ rfl ?_ | refine EltN.mk _ rfl ?_ | refine Mx.mk _ rfl ?_ | refine Br.mk (fun _ => ?_) (fun _ => ?_) | refine EndP.mk ?_ trivial | refine EndP.mk ?_ ⟨.inr ⟨List.mem_cons_self .., ?_, rfl⟩, trivial⟩ | refine Ar.i64 (by omega) ?_ | refine Ar.u8 (by omega) ?_ | refine Quo.pos (by omega) ?_ | refine Rem.pos (by omega) ?_ | refine BsP.own ?_ | refine SetN.two ?_ | refine SetN.one ?_ | refine Ob.mk ⟨rfl, rfl⟩ ?_ | refine Ob.mk (flat_i _ _).1 ?_ | refine Ob.mk (flat_i _ _) ?_ | refine Ob.mk (flat_s _) ?_ | refine Ob.mk (by first | omega | (simp; first | done | fail) | (simp; omega)) ?_ | fail
        all_goals first
          | (exfalso; omega)
          | rfl
    · rw [sh_no (fun k => hp k.2.1)]
      rw [hlk] at hp
      repeat' (conv => whnf); first | refine CallP.rd (w1) rfl rfl rfl rfl ?_ | refine DCall.rd (w1) rfl rfl ?_ | refine Elt.gt lookD hn ?_ | refine EltN.gt lookD hn ?_ | refine Br.tt ?_ | refine Br.ff ?_ | refine Br.not ?_ | refine Br.dand (fun _ => ?_) (fun _ => ?_) | refine Br.dec (fun _ => ?_) (fun _ => ?_) | refine Br.beq (fun _ => ?_) (fun _ => ?_) | refine Br.bne (fun _ => ?_) (fun _ => ?_) | refine Br.seq (fun _ => ?_) (fun _ => ?_) | refine Elt.i (by omega) ?_ | refine EltN.i (by omega) ?_ | refine Nt.cast ?_ | refine Nt.mk _ rfl ?_ | refine EltN.mk _ rfl ?_ | refine Mx.mk _ rfl ?_ | refine Br.mk (fun _ => ?_) (fun _ => ?_) | refine EndP.mk ?_ trivial | refine EndP.mk ?_ ⟨.inr ⟨List.mem_cons_self .., ?_, rfl⟩, trivial⟩ | refine Ar.i64 (by omega) ?_ | refine Ar.u8 (by omega) ?_ | refine Quo.pos (by omega) ?_ | refine Rem.pos (by omega) ?_ | refine BsP.own ?_ | refine SetN.two ?_ | refine SetN.one ?_ | refine Ob.mk ⟨rfl, rfl⟩ ?_ | refine Ob.mk (flat_i _ _).1 ?_ | refine Ob.mk (flat_i _ _) ?_ | refine Ob.mk (flat_s _) ?_ | refine Ob.mk (by first | omega | (simp; first | done | fail) | (simp; omega)) ?_ | fail
      all_goals first
        | (exfalso; omega)
        | rfl
  · rw [sh_no (fun k => hk k.1)]
    repeat' (conv => whnf); first | refine CallP.rd (w1) rfl rfl rfl rfl ?_ | refine DCall.rd (w1) rfl rfl ?_ | refine Br.tt ?_ | refine Br.ff ?_ | refine Br.not ?_ | refine Br.dand (fun _ => ?_) (fun _ => ?_) | refine Br.dec (fun _ => ?_) (fun _ => ?_) | refine Br.beq (fun _ => ?_) (fun _ => ?_) | refine Br.bne (fun _ => ?_) (fun _ => ?_) | refine Br.seq (fun _ => ?_) (fun _ => ?_) | refine Elt.i (by omega) ?_ | refine EltN.i (by omega) ?_ | refine Nt.cast ?_ | refine Nt.mk _ rfl ?_ | refine EltN.mk _ rfl ?_ | refine Mx.mk _ rfl ?_ | refine Br.mk (fun _ => ?_) (fun _ => ?_) | refine EndP.mk ?_ trivial | refine EndP.mk ?_ ⟨.inr ⟨List.mem_cons_self .., ?_, rfl⟩, trivial⟩ | refine Ar.i64 (by omega) ?_ | refine Ar.u8 (by omega) ?_ | refine Quo.pos (by omega) ?_ | refine Rem.pos (by omega) ?_ | refine BsP.own ?_ | refine SetN.two ?_ | refine SetN.one ?_ | refine Ob.mk ⟨rfl, rfl⟩ ?_ | refine Ob.mk (flat_i _ _).1 ?_ | refine Ob.mk (flat_i _ _) ?_ | refine Ob.mk (flat_s _) ?_ | refine Ob.mk (by first | omega | (simp; first | done | fail) | (simp; omega)) ?_ | fail
    all_goals first
      | (exfalso; omega)
      | rfl
set_option maxHeartbeats 16000000 in
theorem tileShows_spec (a : WorldD) (k t : Int) (hz : WoFit a) : Vow Tryz.prog 10 [worldVs a, .i .i64 k, .i .i64 t] (shV (tileShows a k t)) [] := by
  have hm : (a.looks.map lookVs).length = a.looks.length := by simp
  have hzl := hz.looks
  refine vow_of_ev (fn := Tryz.f10) [] [(0, 0), (10, 28), (29, 30), (30, 41), (41, 42), (43, 44), (44, 56)] tt_ok Tryz.func10 (by decide) rfl (Nat.le_of_ble_eq_true rfl) rfl rfl rfl ?_
  by_cases hk : 0 ≤ k ∧ k < a.looks.length
  · obtain ⟨n, rfl⟩ : ∃ n : Nat, k = n := ⟨k.toNat, by omega⟩
    have hn : n < a.looks.length := by omega
    have hlk : lkAt a (n : Int) = gt lookD a.looks n := by unfold lkAt; rw [Int.toNat_natCast]
    obtain ⟨_, hpl, _, _⟩ := hz.look n hn
    have hmp : ((gt lookD a.looks n).pics.map picV).length = (gt lookD a.looks n).pics.length := by simp
    by_cases hp : 0 < (lkAt a (n : Int)).pics.length
    · have t1 := tileRect_spec (lkAt a (n : Int)).seq.level (lkAt a (n : Int)).seq.bits (lkAt a (n : Int)).seq.cols (lkAt a (n : Int)).seq.rows t
      rw [show tileR (lkAt a (n : Int)).seq.level (lkAt a (n : Int)).seq.bits (lkAt a (n : Int)).seq.cols (lkAt a (n : Int)).seq.rows t = lkRect a n t from rfl] at t1
      by_cases ht : lkIn a n t
      · rw [show decide (tileIn (lkAt a (n : Int)).seq.level (lkAt a (n : Int)).seq.bits (lkAt a (n : Int)).seq.cols (lkAt a (n : Int)).seq.rows t) = true from decide_eq_true ht] at t1
        have c1 := cutOf_spec (lkPic a n) (lkRect a n t)
        by_cases hc : cutOk (lkPic a n) (lkRect a n t)
        · rw [if_pos hc] at c1
          rw [sh_yes ⟨by omega, hp, ht, hc⟩]
          generalize cutP (lkPic a n) (lkRect a n t) = C at *
          generalize lkRect a n t = R at *
          unfold lkPic at c1
          rw [hlk] at *
          repeat' (conv => whnf); first | refine Elt.gt lookD hn ?_ | refine EltN.gt lookD hn ?_ | refine Elt.gtk picD 0 (by omega) ?_ | refine EltN.gtk picD 0 (by omega) ?_ | refine CallP.re (t1) (by first | with_reducible rfl | (simp only [imm_i, imm_s, imm_b, iO, iS, imm_iO, seqV, seqVs, rectV, picV, lookVs, worldVs, tellV, sightVs]; first | done | fail)) rfl rfl rfl (by first | rfl | exact own_i _ _ | exact own_s _ | exact own_b _ | (simp [V.noSl, V.noSl.go, own_i, own_s, own_b, iO, iS, imm_iO, seqV, seqVs, rectV, picV, lookVs, worldVs, tellV, sightVs]; first | done | fail)) ?_ | refine DCall.re (t1) (by first | with_reducible rfl | (simp only [imm_i, imm_s, imm_b, iO, iS, imm_iO, seqV, seqVs, rectV, picV, lookVs, worldVs, tellV, sightVs]; first | done | fail)) rfl (by first | rfl | exact own_i _ _ | exact own_s _ | exact own_b _ | (simp [V.noSl, V.noSl.go, own_i, own_s, own_b, iO, iS, imm_iO, seqV, seqVs, rectV, picV, lookVs, worldVs, tellV, sightVs]; first | done | fail)) ?_ | refine CallP.rd (c1) rfl rfl rfl rfl ?_ | refine DCall.rd (c1) rfl rfl ?_ | refine Br.tt ?_ | refine Br.ff ?_ | refine Br.not ?_ | refine Br.dand (fun _ => ?_) (fun _ => ?_) | refine Br.dec (fun _ => ?_) (fun _ => ?_) | refine Br.beq (fun _ => ?_) (fun _ => ?_) | refine Br.bne (fun _ => ?_) (fun _ => ?_) | refine Br.seq (fun _ => ?_) (fun _ => ?_) | refine Elt.i (by omega) ?_ | refine EltN.i (by omega) ?_ | refine Nt.cast ?_ | refine Nt.mk _ rfl ?_ | refine EltN.mk _ rfl ?_ | refine Mx.mk _ rfl ?_ | refine Br.mk (fun _ => ?_) (fun _ => ?_) | refine EndP.mk ?_ trivial | refine EndP.mk ?_ ⟨.inr ⟨List.mem_cons_self .., ?_, rfl⟩, trivial⟩ | refine Ar.i64 (by omega) ?_ | refine Ar.u8 (by omega) ?_ | refine Quo.pos (by omega) ?_ | refine Rem.pos (by omega) ?_ | refine BsP.own ?_ | refine SetN.two ?_ | refine SetN.one ?_ | refine Ob.mk ⟨rfl, rfl⟩ ?_ | refine Ob.mk (flat_i _ _).1 ?_ | refine Ob.mk (flat_i _ _) ?_ | refine Ob.mk (flat_s _) ?_ | refine Ob.mk (by first | omega | (simp; first | done | fail) | (simp; omega)) ?_ | fail
          all_goals first
            | (exfalso; omega)
            | rfl
        · rw [if_neg hc] at c1
          rw [sh_no (fun k => hc k.2.2.2)]
          generalize lkRect a n t = R at *
          unfold lkPic at c1
          rw [hlk] at *
          repeat' (conv => whnf); first | refine Elt.gt lookD hn ?_ | refine EltN.gt lookD hn ?_ | refine Elt.gtk picD 0 (by omega) ?_ | refine EltN.gtk picD 0 (by omega) ?_ | refine CallP.re (t1) (by first | with_reducible rfl | (simp only [imm_i, imm_s, imm_b, iO, iS, imm_iO, seqV, seqVs, rectV, picV, lookVs, worldVs, tellV, sightVs]; first | done | fail)) rfl rfl rfl (by first | rfl | exact own_i _ _ | exact own_s _ | exact own_b _ | (simp [V.noSl, V.noSl.go, own_i, own_s, own_b, iO, iS, imm_iO, seqV, seqVs, rectV, picV, lookVs, worldVs, tellV, sightVs]; first | done | fail)) ?_ | refine DCall.re (t1) (by first | with_reducible rfl | (simp only [imm_i, imm_s, imm_b, iO, iS, imm_iO, seqV, seqVs, rectV, picV, lookVs, worldVs, tellV, sightVs]; first | done | fail)) rfl (by first | rfl | exact own_i _ _ | exact own_s _ | exact own_b _ | (simp [V.noSl, V.noSl.go, own_i, own_s, own_b, iO, iS, imm_iO, seqV, seqVs, rectV, picV, lookVs, worldVs, tellV, sightVs]; first | done | fail)) ?_ | refine CallP.rd (c1) rfl rfl rfl rfl ?_ | refine DCall.rd (c1) rfl rfl ?_ | refine Br.tt ?_ | refine Br.ff ?_ | refine Br.not ?_ | refine Br.dand (fun _ => ?_) (fun _ => ?_) | refine Br.dec (fun _ => ?_) (fun _ => ?_) | refine Br.beq (fun _ => ?_) (fun _ => ?_) | refine Br.bne (fun _ => ?_) (fun _ => ?_) | refine Br.seq (fun _ => ?_) (fun _ => ?_) | refine Elt.i (by omega) ?_ | refine EltN.i (by omega) ?_ | refine Nt.cast ?_ | refine Nt.mk _ rfl ?_ | refine EltN.mk _ rfl ?_ | refine Mx.mk _ rfl ?_ | refine Br.mk (fun _ => ?_) (fun _ => ?_) | refine EndP.mk ?_ trivial | refine EndP.mk ?_ ⟨.inr ⟨List.mem_cons_self .., ?_, rfl⟩, trivial⟩ | refine Ar.i64 (by omega) ?_ | refine Ar.u8 (by omega) ?_ | refine Quo.pos (by omega) ?_ | refine Rem.pos (by omega) ?_ | refine BsP.own ?_ | refine SetN.two ?_ | refine SetN.one ?_ | refine Ob.mk ⟨rfl, rfl⟩ ?_ | refine Ob.mk (flat_i _ _).1 ?_ | refine Ob.mk (flat_i _ _) ?_ | refine Ob.mk (flat_s _) ?_ | refine Ob.mk (by first | omega | (simp; first | done | fail) | (simp; omega)) ?_ | fail
          all_goals first
            | (exfalso; omega)
            | rfl
      · rw [show decide (tileIn (lkAt a (n : Int)).seq.level (lkAt a (n : Int)).seq.bits (lkAt a (n : Int)).seq.cols (lkAt a (n : Int)).seq.rows t) = false from decide_eq_false ht] at t1
        rw [sh_no (fun k => ht k.2.2.1)]
        generalize lkRect a n t = R at *
        rw [hlk] at *
        repeat' (conv => whnf); first | refine Elt.gt lookD hn ?_ | refine EltN.gt lookD hn ?_ | refine CallP.re (t1) (by first | with_reducible rfl | (simp only [imm_i, imm_s, imm_b, iO, iS, imm_iO, seqV, seqVs, rectV, picV, lookVs, worldVs, tellV, sightVs]; first | done | fail)) rfl rfl rfl (by first | rfl | exact own_i _ _ | exact own_s _ | exact own_b _ | (simp [V.noSl, V.noSl.go, own_i, own_s, own_b, iO, iS, imm_iO, seqV, seqVs, rectV, picV, lookVs, worldVs, tellV, sightVs]; first | done | fail)) ?_ | refine DCall.re (t1) (by first | with_reducible rfl | (simp only [imm_i, imm_s, imm_b, iO, iS, imm_iO, seqV, seqVs, rectV, picV, lookVs, worldVs, tellV, sightVs]; first | done | fail)) rfl (by first | rfl | exact own_i _ _ | exact own_s _ | exact own_b _ | (simp [V.noSl, V.noSl.go, own_i, own_s, own_b, iO, iS, imm_iO, seqV, seqVs, rectV, picV, lookVs, worldVs, tellV, sightVs]; first | done | fail)) ?_ | refine Br.tt ?_ | refine Br.ff ?_ | refine Br.not ?_ | refine Br.dand (fun _ => ?_) (fun _ => ?_) | refine Br.dec (fun _ => ?_) (fun _ => ?_) | refine Br.beq (fun _ => ?_) (fun _ => ?_) | refine Br.bne (fun _ => ?_) (fun _ => ?_) | refine Br.seq (fun _ => ?_) (fun _ => ?_) | refine Elt.i (by omega) ?_ | refine EltN.i (by omega) ?_ | refine Nt.cast ?_ | refine Nt.mk _ rfl ?_ | refine EltN.mk _ rfl ?_ | refine Mx.mk _ rfl ?_ | refine Br.mk (fun _ => ?_) (fun _ => ?_) | refine EndP.mk ?_ trivial | refine EndP.mk ?_ ⟨.inr ⟨List.mem_cons_self .., ?_, rfl⟩, trivial⟩ | refine Ar.i64 (by omega) ?_ | refine Ar.u8 (by omega) ?_ | refine Quo.pos (by omega) ?_ | refine Rem.pos (by omega) ?_ | refine BsP.own ?_ | refine SetN.two ?_ | refine SetN.one ?_ | refine Ob.mk ⟨rfl, rfl⟩ ?_ | refine Ob.mk (flat_i _ _).1 ?_ | refine Ob.mk (flat_i _ _) ?_ | refine Ob.mk (flat_s _) ?_ | refine Ob.mk (by first | omega | (simp; first | done | fail) | (simp; omega)) ?_ | fail
        all_goals first
          | (exfalso; omega)
          | rfl
    · rw [sh_no (fun k => hp k.2.1)]
      rw [hlk] at hp
      repeat' (conv => whnf); first | refine Elt.gt lookD hn ?_ | refine EltN.gt lookD hn ?_ | refine Br.tt ?_ | refine Br.ff ?_ | refine Br.not ?_ | refine Br.dand (fun _ => ?_) (fun _ => ?_) | refine Br.dec (fun _ => ?_) (fun _ => ?_) | refine Br.beq (fun _ => ?_) (fun _ => ?_) | refine Br.bne (fun _ => ?_) (fun _ => ?_) | refine Br.seq (fun _ => ?_) (fun _ => ?_) | refine Elt.i (by omega) ?_ | refine EltN.i (by omega) ?_ | refine Nt.cast ?_ | refine Nt.mk _ rfl ?_ | refine EltN.mk _ rfl ?_ | refine Mx.mk _ rfl ?_ | refine Br.mk (fun _ => ?_) (fun _ => ?_) | refine EndP.mk ?_ trivial | refine EndP.mk ?_ ⟨.inr ⟨List.mem_cons_self .., ?_, rfl⟩, trivial⟩ | refine Ar.i64 (by omega) ?_ | refine Ar.u8 (by omega) ?_ | refine Quo.pos (by omega) ?_ | refine Rem.pos (by omega) ?_ | refine BsP.own ?_ | refine SetN.two ?_ | refine SetN.one ?_ | refine Ob.mk ⟨rfl, rfl⟩ ?_ | refine Ob.mk (flat_i _ _).1 ?_ | refine Ob.mk (flat_i _ _) ?_ | refine Ob.mk (flat_s _) ?_ | refine Ob.mk (by first | omega | (simp; first | done | fail) | (simp; omega)) ?_ | fail
      all_goals first
        | (exfalso; omega)
        | rfl
  · rw [sh_no (fun k => hk k.1)]
    repeat' (conv => whnf); first | refine Br.tt ?_ | refine Br.ff ?_ | refine Br.not ?_ | refine Br.dand (fun _ => ?_) (fun _ => ?_) | refine Br.dec (fun _ => ?_) (fun _ => ?_) | refine Br.beq (fun _ => ?_) (fun _ => ?_) | refine Br.bne (fun _ => ?_) (fun _ => ?_) | refine Br.seq (fun _ => ?_) (fun _ => ?_) | refine Elt.i (by omega) ?_ | refine EltN.i (by omega) ?_ | refine Nt.cast ?_ | refine Nt.mk _ rfl ?_ | refine EltN.mk _ rfl ?_ | refine Mx.mk _ rfl ?_ | refine Br.mk (fun _ => ?_) (fun _ => ?_) | refine EndP.mk ?_ trivial | refine EndP.mk ?_ ⟨.inr ⟨List.mem_cons_self .., ?_, rfl⟩, trivial⟩ | refine Ar.i64 (by omega) ?_ | refine Ar.u8 (by omega) ?_ | refine Quo.pos (by omega) ?_ | refine Rem.pos (by omega) ?_ | refine BsP.own ?_ | refine SetN.two ?_ | refine SetN.one ?_ | refine Ob.mk ⟨rfl, rfl⟩ ?_ | refine Ob.mk (flat_i _ _).1 ?_ | refine Ob.mk (flat_i _ _) ?_ | refine Ob.mk (flat_s _) ?_ | refine Ob.mk (by first | omega | (simp; first | done | fail) | (simp; omega)) ?_ | fail
    all_goals first
      | (exfalso; omega)
      | rfl

end Go.Proofs.YtafipjhalboefaaGreat
