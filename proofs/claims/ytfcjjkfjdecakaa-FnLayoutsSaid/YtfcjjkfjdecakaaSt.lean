/- Layouts read from text. No condition. -/
import Derived.Test.YtfcjjkfjdecakaaSo
import Derived.Test.YtfcjjkfjdecakaaSk
namespace Go.Proofs.Ytfcjjkfjdecakaa
open Go Go.Vx
set_option linter.unusedVariables false
set_option linter.unusedSimpArgs false
set_option maxHeartbeats 600000
set_option maxRecDepth 100000


theorem cutT_len2 (t : List UInt8) (b : Int) : 1 ≤ (cutT t b).length ∧ (cutT t b).length ≤ t.length + 1 := by
  have := (cS_fit t b t.length).2
  have hc : (cutT t b).length = (cS t b t.length).1.length + 1 := by simp [cutT]
  omega
def numT (w : List UInt8) : Int := if (readDec w).2 = true then (readDec w).1 else -1
def numsTo (ls : List (List UInt8)) : Nat → List Int
  | 0 => []
  | i + 1 => numsTo ls i ++ [numT (ln ls i)]
theorem numsTo_len (ls : List (List UInt8)) : ∀ i, (numsTo ls i).length = i
  | 0 => rfl
  | i + 1 => by simp [numsTo, numsTo_len ls i]
def numsT (t : List UInt8) : List Int := numsTo (cutT t 44) (cutT t 44).length
theorem numsTo_yes {ls : List (List UInt8)} {i : Nat} (h : (readDec (ln ls i)).2 = true) : numsTo ls (i + 1) = numsTo ls i ++ [(readDec (ln ls i)).1] := by rw [numsTo, numT, if_pos h]
theorem numsTo_no {ls : List (List UInt8)} {i : Nat} (h : (readDec (ln ls i)).2 = false) : numsTo ls (i + 1) = numsTo ls i ++ [-1] := by rw [numsTo, numT, if_neg (by rw [h]; simp)]

theorem uncommas_vow (t : List UInt8) (h : t.length ≤ 2000000) : Vow Try.prog 95 [.s t] (iO (numsT t)) [] := by
  have hc := cutT_len2 t 44
  have hcl : ((cutT t 44).map V.s).length = (cutT t 44).length := by simp
  refine vow_of_ev (fn := Try.f95) [] [(0, 0), (8, 9), (9, 10), (0, 0), (14, 16), (16, 21), (21, 22), (0, 0), (23, 27), (27, 28), (28, 29)] tt_ok Try.func95 (by decide) rfl (Nat.le_of_ble_eq_true rfl) rfl rfl rfl ?_
  repeat' (conv => whnf); first | refine CallP.re (cut_impl t 44 h) (by first | with_reducible rfl | (simp only [imm_i, imm_s, imm_b, iO, layO, iS, layV]; first | done | fail)) rfl rfl rfl (by first | rfl | exact own_i _ _ | exact own_s _ | exact own_b _ | (simp [V.noSl, V.noSl.go, own_i, own_s, own_b, iO, layO, iS, layV]; first | done | fail)) ?_ | refine Br.tt ?_ | refine Br.ff ?_ | refine Br.not ?_ | refine Br.dand (fun _ => ?_) (fun _ => ?_) | refine Br.dec (fun _ => ?_) (fun _ => ?_) | refine Br.beq (fun _ => ?_) (fun _ => ?_) | refine Br.bne (fun _ => ?_) (fun _ => ?_) | refine Br.seq (fun _ => ?_) (fun _ => ?_) | refine Elt.i (by omega) ?_ | refine EltN.i (by omega) ?_ | refine Nt.cast ?_ | refine Nt.mk _ rfl ?_ | refine EltN.mk _ rfl ?_ | refine Mx.mk _ rfl ?_ | refine Br.mk (fun _ => ?_) (fun _ => ?_) | refine EndP.mk ?_ trivial | refine EndP.mk ?_ ⟨.inr ⟨List.mem_cons_self .., ?_, rfl⟩, trivial⟩ | refine Ar.i64 (by omega) ?_ | refine Ar.u8 (by omega) ?_ | refine Quo.pos (by omega) ?_ | refine Rem.pos (by omega) ?_ | refine BsP.own ?_ | refine Ob.mk ⟨rfl, rfl⟩ ?_ | refine Ob.mk (flat_i _ _).1 ?_ | refine Ob.mk (flat_i _ _) ?_ | refine Ob.mk (flat_s _) ?_ | refine Ob.mk (by first | omega | (simp; first | done | fail) | (simp; omega)) ?_ | fail
  · conv => whnf
    refine LoopP.mk [2,3,10,11,12] (fun i : Nat => [(2, .nl), (3, iO (numsTo (cutT t 44) i)), (10, .ow 1 ((cutT t 44).map .s)), (11, .i .i64 (cutT t 44).length), (12, .i .i64 i)]) (fun i => (cutT t 44).length - i) (fun i => i ≤ (cutT t 44).length) ?_ ?_
    · conv => whnf
      exact ⟨0, by omega, by rw [hcl]; rfl⟩
    · intro i hi
      have hn : ((numsTo (cutT t 44) i).map (V.i .i64)).length = i := by simp [numsTo_len]
      have hn2 := numsTo_len (cutT t 44) i
      repeat' (conv => whnf); first | refine Elt.ln (by omega) ?_ | refine EltN.ln (by omega) ?_ | refine CallP.rd (readDec_impl (ln (cutT t 44) i)) rfl rfl rfl rfl ?_ | refine Br.tt ?_ | refine Br.ff ?_ | refine Br.not ?_ | refine Br.dand (fun _ => ?_) (fun _ => ?_) | refine Br.dec (fun _ => ?_) (fun _ => ?_) | refine Br.beq (fun _ => ?_) (fun _ => ?_) | refine Br.bne (fun _ => ?_) (fun _ => ?_) | refine Br.seq (fun _ => ?_) (fun _ => ?_) | refine Elt.i (by omega) ?_ | refine EltN.i (by omega) ?_ | refine Nt.cast ?_ | refine Nt.mk _ rfl ?_ | refine EltN.mk _ rfl ?_ | refine Mx.mk _ rfl ?_ | refine Br.mk (fun _ => ?_) (fun _ => ?_) | refine EndP.mk ?_ trivial | refine EndP.mk ?_ ⟨.inr ⟨List.mem_cons_self .., ?_, rfl⟩, trivial⟩ | refine Ar.i64 (by omega) ?_ | refine Ar.u8 (by omega) ?_ | refine Quo.pos (by omega) ?_ | refine Rem.pos (by omega) ?_ | refine BsP.own ?_ | refine Ob.mk ⟨rfl, rfl⟩ ?_ | refine Ob.mk (flat_i _ _).1 ?_ | refine Ob.mk (flat_i _ _) ?_ | refine Ob.mk (flat_s _) ?_ | refine Ob.mk (by first | omega | (simp; first | done | fail) | (simp; omega)) ?_ | fail
      all_goals first
        | (conv => whnf
           refine ⟨i + 1, by omega, by omega, ?_⟩
           first
             | (rw [numsTo_yes (by assumption)]; simp only [iO, List.map_append, List.map_cons, List.map_nil]; rfl)
             | (rw [numsTo_no (by assumption)]; simp only [iO, List.map_append, List.map_cons, List.map_nil]; rfl))
        | (obtain rfl : i = (cutT t 44).length := by omega
           rfl)

def lay3 (t : List UInt8) : Layout := ⟨numsT (ln (cutT t 47) 0), numsT (ln (cutT t 47) 1), numsT (ln (cutT t 47) 2)⟩
/-- The text is that of a layout. -/
def layGood (t : List UInt8) : Prop := (cutT t 47).length = 3 ∧ (layoutText (lay3 t)).2 = true ∧ (layoutText (lay3 t)).1 = t
instance (t : List UInt8) : Decidable (layGood t) := by unfold layGood; infer_instance
theorem cS_le (t : List UInt8) (b : Int) : ∀ (i : Nat), ∀ w ∈ (cS t b i).1, w.length ≤ t.length
  | 0, w, hw => by simp [cS] at hw
  | i + 1, w, hw => by
    simp only [cS] at hw
    split at hw
    · simp only [List.mem_append, List.mem_singleton] at hw
      rcases hw with hw | rfl
      · exact cS_le t b i w hw
      · simp; omega
    · exact cS_le t b i w hw
theorem ln_le {t : List UInt8} {b : Int} (j : Nat) : (ln (cutT t b) j).length ≤ t.length := by
  by_cases h : j < (cutT t b).length
  · have : ln (cutT t b) j ∈ cutT t b := by
      unfold ln; rw [List.getD_eq_getElem?_getD, List.getElem?_eq_getElem h]; exact List.getElem_mem _
    generalize ln (cutT t b) j = w at this
    unfold cutT at this
    simp only [List.mem_append, List.mem_singleton] at this
    rcases this with hw | rfl
    · exact cS_le t b _ _ hw
    · simp
  · unfold ln; rw [List.getD_eq_getElem?_getD, List.getElem?_eq_none (by omega)]; simp


theorem dec1 {n : Int} (h : 0 ≤ n ∧ n ≤ 9) : (decimal n).length = 1 := by
  unfold decimal
  split
  · rfl
  · rw [if_neg (by omega), digitsN_step (by omega), show n.natAbs / 10 = 0 by omega, digitsN_zero]; rfl
theorem listTo_small {l : List Int} : ∀ (i : Nat), (∀ j, j < i → rd l j ≤ 9) → (listTo l i).length ≤ 2 * i
  | 0, _ => by simp [listTo]
  | i + 1, h => by
    have h1 := listTo_small i (fun j hj => h j (by omega))
    have h2 := h i (by omega)
    simp only [listTo]
    split
    · split
      · simp; omega
      · have := dec1 (n := rd l i) (by omega)
        simp; omega
    · split
      · simp; omega
      · have := dec1 (n := rd l i) (by omega)
        simp; omega
theorem layoutText_small (l : Layout) : (layoutText l).1.length ≤ 200 := by
  by_cases h : layoutOk l
  · rw [layoutText, if_pos h]
    obtain ⟨h1, h2, h3⟩ := h
    obtain ⟨k1, k2⟩ := levelFor_sides h1
    have a1 := k1.1
    have a2 := k2.1
    have a3 : l.cols.length * l.rows.length ≤ 4 * 4 := Nat.mul_le_mul a1.2 a2.2
    have b1 := listTo_small (l := l.cols) l.cols.length (fun j hj => by have := k1.2 j hj; omega)
    have b2 := listTo_small (l := l.rows) l.rows.length (fun j hj => by have := k2.2 j hj; omega)
    have b3 := listTo_small (l := l.who) l.who.length (fun j hj => by have := (h3 j hj).1; omega)
    unfold listText
    simp
    omega
  · rw [layoutText, if_neg h]; simp
theorem layGood_small {t : List UInt8} (h : layGood t) : t.length ≤ 200 := by
  have := layoutText_small (lay3 t)
  rwa [h.2.2] at this

set_option maxHeartbeats 6000000 in
theorem readLayout_impl (t : List UInt8) (h : t.length ≤ 2000000) (hg : layGood t) : Vow Try.prog 33 [.s t] (.tp [layO (lay3 t), .b true]) [] := by
  obtain ⟨h3, h4, h5⟩ := hg
  have hcl : ((cutT t 47).map V.s).length = 3 := by simp [h3]
  have p0 := ln_le (t := t) (b := 47) 0
  have p1 := ln_le (t := t) (b := 47) 1
  have p2 := ln_le (t := t) (b := 47) 2
  refine vow_of_ev (fn := Try.f33) [] [(0, 0), (8, 10), (10, 12), (13, 14), (14, 27), (27, 32), (32, 38), (39, 40), (40, 41)] tt_ok Try.func33 (by decide) rfl (Nat.le_of_ble_eq_true rfl) rfl rfl rfl ?_
  repeat' (conv => whnf); first | refine CallP.re (cut_impl t 47 h) (by first | with_reducible rfl | (simp only [imm_i, imm_s, imm_b, iO, layO, iS, layV, lay3]; first | done | fail)) rfl rfl rfl (by first | rfl | exact own_i _ _ | exact own_s _ | exact own_b _ | (simp [V.noSl, V.noSl.go, own_i, own_s, own_b, iO, layO, iS, layV, lay3]; first | done | fail)) ?_ | refine DCall.re (cut_impl t 47 h) (by first | with_reducible rfl | (simp only [imm_i, imm_s, imm_b, iO, layO, iS, layV, lay3]; first | done | fail)) rfl (by first | rfl | exact own_i _ _ | exact own_s _ | exact own_b _ | (simp [V.noSl, V.noSl.go, own_i, own_s, own_b, iO, layO, iS, layV, lay3]; first | done | fail)) ?_ | refine EltN.lnk 0 ⟨rfl, by omega⟩ ?_ | refine EltN.lnk 1 ⟨rfl, by omega⟩ ?_ | refine EltN.lnk 2 ⟨rfl, by omega⟩ ?_ | refine CallP.re (uncommas_vow (ln (cutT t 47) 0) (by omega)) (by first | with_reducible rfl | (simp only [imm_i, imm_s, imm_b, iO, layO, iS, layV, lay3]; first | done | fail)) rfl rfl rfl (by first | rfl | exact own_i _ _ | exact own_s _ | exact own_b _ | (simp [V.noSl, V.noSl.go, own_i, own_s, own_b, iO, layO, iS, layV, lay3]; first | done | fail)) ?_ | refine DCall.re (uncommas_vow (ln (cutT t 47) 0) (by omega)) (by first | with_reducible rfl | (simp only [imm_i, imm_s, imm_b, iO, layO, iS, layV, lay3]; first | done | fail)) rfl (by first | rfl | exact own_i _ _ | exact own_s _ | exact own_b _ | (simp [V.noSl, V.noSl.go, own_i, own_s, own_b, iO, layO, iS, layV, lay3]; first | done | fail)) ?_ | refine CallP.re (uncommas_vow (ln (cutT t 47) 1) (by omega)) (by first | with_reducible rfl | (simp only [imm_i, imm_s, imm_b, iO, layO, iS, layV, lay3]; first | done | fail)) rfl rfl rfl (by first | rfl | exact own_i _ _ | exact own_s _ | exact own_b _ | (simp [V.noSl, V.noSl.go, own_i, own_s, own_b, iO, layO, iS, layV, lay3]; first | done | fail)) ?_ | refine DCall.re (uncommas_vow (ln (cutT t 47) 1) (by omega)) (by first | with_reducible rfl | (simp only [imm_i, imm_s, imm_b, iO, layO, iS, layV, lay3]; first | done | fail)) rfl (by first | rfl | exact own_i _ _ | exact own_s _ | exact own_b _ | (simp [V.noSl, V.noSl.go, own_i, own_s, own_b, iO, layO, iS, layV, lay3]; first | done | fail)) ?_ | refine CallP.re (uncommas_vow (ln (cutT t 47) 2) (by omega)) (by first | with_reducible rfl | (simp only [imm_i, imm_s, imm_b, iO, layO, iS, layV, lay3]; first | done | fail)) rfl rfl rfl (by first | rfl | exact own_i _ _ | exact own_s _ | exact own_b _ | (simp [V.noSl, V.noSl.go, own_i, own_s, own_b, iO, layO, iS, layV, lay3]; first | done | fail)) ?_ | refine DCall.re (uncommas_vow (ln (cutT t 47) 2) (by omega)) (by first | with_reducible rfl | (simp only [imm_i, imm_s, imm_b, iO, layO, iS, layV, lay3]; first | done | fail)) rfl (by first | rfl | exact own_i _ _ | exact own_s _ | exact own_b _ | (simp [V.noSl, V.noSl.go, own_i, own_s, own_b, iO, layO, iS, layV, lay3]; first | done | fail)) ?_ | refine CallP.re (layoutText_impl (lay3 t)) (by first | with_reducible rfl | (simp only [imm_i, imm_s, imm_b, iO, layO, iS, layV, lay3]; first | done | fail)) rfl rfl rfl (by first | rfl | exact own_i _ _ | exact own_s _ | exact own_b _ | (simp [V.noSl, V.noSl.go, own_i, own_s, own_b, iO, layO, iS, layV, lay3]; first | done | fail)) ?_ | refine DCall.re (layoutText_impl (lay3 t)) (by first | with_reducible rfl | (simp only [imm_i, imm_s, imm_b, iO, layO, iS, layV, lay3]; first | done | fail)) rfl (by first | rfl | exact own_i _ _ | exact own_s _ | exact own_b _ | (simp [V.noSl, V.noSl.go, own_i, own_s, own_b, iO, layO, iS, layV, lay3]; first | done | fail)) ?_ | refine Br.tt ?_ | refine Br.ff ?_ | refine Br.not ?_ | refine Br.dand (fun _ => ?_) (fun _ => ?_) | refine Br.dec (fun _ => ?_) (fun _ => ?_) | refine Br.beq (fun _ => ?_) (fun _ => ?_) | refine Br.bne (fun _ => ?_) (fun _ => ?_) | refine Br.seq (fun _ => ?_) (fun _ => ?_) | refine Elt.i (by omega) ?_ | refine EltN.i (by omega) ?_ | refine Nt.cast ?_ | refine Nt.mk _ rfl ?_ | refine EltN.mk _ rfl ?_ | refine Mx.mk _ rfl ?_ | refine Br.mk (fun _ => ?_) (fun _ => ?_) | refine EndP.mk ?_ trivial | refine EndP.mk ?_ ⟨.inr ⟨List.mem_cons_self .., ?_, rfl⟩, trivial⟩ | refine Ar.i64 (by omega) ?_ | refine Ar.u8 (by omega) ?_ | refine Quo.pos (by omega) ?_ | refine Rem.pos (by omega) ?_ | refine BsP.own ?_ | refine Ob.mk ⟨rfl, rfl⟩ ?_ | refine Ob.mk (flat_i _ _).1 ?_ | refine Ob.mk (flat_i _ _) ?_ | refine Ob.mk (flat_s _) ?_ | refine Ob.mk (by first | omega | (simp; first | done | fail) | (simp; omega)) ?_ | fail
  all_goals (conv => whnf)
  all_goals first | rfl | omega | (exfalso; simp_all; first | done | fail)
set_option maxHeartbeats 6000000 in
theorem readLayout_implN (t : List UInt8) (h : t.length ≤ 2000000) (hg : ¬ layGood t) : Vow Try.prog 33 [.s t] (.tp [.ag [.nl, .nl, .nl], .b false]) [] := by
  have hcl : ((cutT t 47).map V.s).length = (cutT t 47).length := by simp
  have p0 := ln_le (t := t) (b := 47) 0
  have p1 := ln_le (t := t) (b := 47) 1
  have p2 := ln_le (t := t) (b := 47) 2
  refine vow_of_ev (fn := Try.f33) [] [(0, 0), (8, 10), (10, 12), (13, 14), (14, 27), (27, 32), (32, 38), (39, 40), (40, 41)] tt_ok Try.func33 (by decide) rfl (Nat.le_of_ble_eq_true rfl) rfl rfl rfl ?_
  repeat' (conv => whnf); first | refine CallP.re (cut_impl t 47 h) (by first | with_reducible rfl | (simp only [imm_i, imm_s, imm_b, iO, layO, iS, layV, lay3]; first | done | fail)) rfl rfl rfl (by first | rfl | exact own_i _ _ | exact own_s _ | exact own_b _ | (simp [V.noSl, V.noSl.go, own_i, own_s, own_b, iO, layO, iS, layV, lay3]; first | done | fail)) ?_ | refine DCall.re (cut_impl t 47 h) (by first | with_reducible rfl | (simp only [imm_i, imm_s, imm_b, iO, layO, iS, layV, lay3]; first | done | fail)) rfl (by first | rfl | exact own_i _ _ | exact own_s _ | exact own_b _ | (simp [V.noSl, V.noSl.go, own_i, own_s, own_b, iO, layO, iS, layV, lay3]; first | done | fail)) ?_ | refine EltN.lnk 0 ⟨rfl, by omega⟩ ?_ | refine EltN.lnk 1 ⟨rfl, by omega⟩ ?_ | refine EltN.lnk 2 ⟨rfl, by omega⟩ ?_ | refine CallP.re (uncommas_vow (ln (cutT t 47) 0) (by omega)) (by first | with_reducible rfl | (simp only [imm_i, imm_s, imm_b, iO, layO, iS, layV, lay3]; first | done | fail)) rfl rfl rfl (by first | rfl | exact own_i _ _ | exact own_s _ | exact own_b _ | (simp [V.noSl, V.noSl.go, own_i, own_s, own_b, iO, layO, iS, layV, lay3]; first | done | fail)) ?_ | refine DCall.re (uncommas_vow (ln (cutT t 47) 0) (by omega)) (by first | with_reducible rfl | (simp only [imm_i, imm_s, imm_b, iO, layO, iS, layV, lay3]; first | done | fail)) rfl (by first | rfl | exact own_i _ _ | exact own_s _ | exact own_b _ | (simp [V.noSl, V.noSl.go, own_i, own_s, own_b, iO, layO, iS, layV, lay3]; first | done | fail)) ?_ | refine CallP.re (uncommas_vow (ln (cutT t 47) 1) (by omega)) (by first | with_reducible rfl | (simp only [imm_i, imm_s, imm_b, iO, layO, iS, layV, lay3]; first | done | fail)) rfl rfl rfl (by first | rfl | exact own_i _ _ | exact own_s _ | exact own_b _ | (simp [V.noSl, V.noSl.go, own_i, own_s, own_b, iO, layO, iS, layV, lay3]; first | done | fail)) ?_ | refine DCall.re (uncommas_vow (ln (cutT t 47) 1) (by omega)) (by first | with_reducible rfl | (simp only [imm_i, imm_s, imm_b, iO, layO, iS, layV, lay3]; first | done | fail)) rfl (by first | rfl | exact own_i _ _ | exact own_s _ | exact own_b _ | (simp [V.noSl, V.noSl.go, own_i, own_s, own_b, iO, layO, iS, layV, lay3]; first | done | fail)) ?_ | refine CallP.re (uncommas_vow (ln (cutT t 47) 2) (by omega)) (by first | with_reducible rfl | (simp only [imm_i, imm_s, imm_b, iO, layO, iS, layV, lay3]; first | done | fail)) rfl rfl rfl (by first | rfl | exact own_i _ _ | exact own_s _ | exact own_b _ | (simp [V.noSl, V.noSl.go, own_i, own_s, own_b, iO, layO, iS, layV, lay3]; first | done | fail)) ?_ | refine DCall.re (uncommas_vow (ln (cutT t 47) 2) (by omega)) (by first | with_reducible rfl | (simp only [imm_i, imm_s, imm_b, iO, layO, iS, layV, lay3]; first | done | fail)) rfl (by first | rfl | exact own_i _ _ | exact own_s _ | exact own_b _ | (simp [V.noSl, V.noSl.go, own_i, own_s, own_b, iO, layO, iS, layV, lay3]; first | done | fail)) ?_ | refine CallP.re (layoutText_impl (lay3 t)) (by first | with_reducible rfl | (simp only [imm_i, imm_s, imm_b, iO, layO, iS, layV, lay3]; first | done | fail)) rfl rfl rfl (by first | rfl | exact own_i _ _ | exact own_s _ | exact own_b _ | (simp [V.noSl, V.noSl.go, own_i, own_s, own_b, iO, layO, iS, layV, lay3]; first | done | fail)) ?_ | refine DCall.re (layoutText_impl (lay3 t)) (by first | with_reducible rfl | (simp only [imm_i, imm_s, imm_b, iO, layO, iS, layV, lay3]; first | done | fail)) rfl (by first | rfl | exact own_i _ _ | exact own_s _ | exact own_b _ | (simp [V.noSl, V.noSl.go, own_i, own_s, own_b, iO, layO, iS, layV, lay3]; first | done | fail)) ?_ | refine Br.tt ?_ | refine Br.ff ?_ | refine Br.not ?_ | refine Br.dand (fun _ => ?_) (fun _ => ?_) | refine Br.dec (fun _ => ?_) (fun _ => ?_) | refine Br.beq (fun _ => ?_) (fun _ => ?_) | refine Br.bne (fun _ => ?_) (fun _ => ?_) | refine Br.seq (fun _ => ?_) (fun _ => ?_) | refine Elt.i (by omega) ?_ | refine EltN.i (by omega) ?_ | refine Nt.cast ?_ | refine Nt.mk _ rfl ?_ | refine EltN.mk _ rfl ?_ | refine Mx.mk _ rfl ?_ | refine Br.mk (fun _ => ?_) (fun _ => ?_) | refine EndP.mk ?_ trivial | refine EndP.mk ?_ ⟨.inr ⟨List.mem_cons_self .., ?_, rfl⟩, trivial⟩ | refine Ar.i64 (by omega) ?_ | refine Ar.u8 (by omega) ?_ | refine Quo.pos (by omega) ?_ | refine Rem.pos (by omega) ?_ | refine BsP.own ?_ | refine Ob.mk ⟨rfl, rfl⟩ ?_ | refine Ob.mk (flat_i _ _).1 ?_ | refine Ob.mk (flat_i _ _) ?_ | refine Ob.mk (flat_s _) ?_ | refine Ob.mk (by first | omega | (simp; first | done | fail) | (simp; omega)) ?_ | fail
  all_goals (conv => whnf)
  all_goals first | rfl | exact absurd ⟨by omega, by assumption, by assumption⟩ hg
end Go.Proofs.Ytfcjjkfjdecakaa