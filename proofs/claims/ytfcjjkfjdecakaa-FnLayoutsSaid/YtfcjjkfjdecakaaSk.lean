/- A layout as text. No condition. -/
import Derived.Test.YtfcjjkfjdecakaaSi
namespace Go.Proofs.Ytfcjjkfjdecakaa
open Go Go.Vx
set_option linter.unusedVariables false
set_option linter.unusedSimpArgs false
set_option maxHeartbeats 600000
set_option maxRecDepth 100000

def listTo (l : List Int) : Nat → List UInt8
  | 0 => []
  | i + 1 => (if 0 < i then listTo l i ++ [44] else listTo l i) ++ (if rd l i < 0 then [120] else decimal (rd l i))
def listText (l : List Int) : List UInt8 := listTo l l.length
def numsOk (l : List Int) : Prop := l.length ≤ 1048576 ∧ ∀ j, j < l.length → I64 (rd l j)

theorem listTo_len {l : List Int} : ∀ (i : Nat), (∀ j, j < i → I64 (rd l j)) → (listTo l i).length ≤ 22 * i
  | 0, _ => by simp [listTo]
  | i + 1, h => by
    have h1 := listTo_len i (fun j hj => h j (by omega))
    have h2 := decimal_len (rd l i) (h i (by omega))
    simp only [listTo]
    split <;> split <;> simp <;> omega

theorem listTo_cx {l : List Int} {i : Nat} (h : 0 < i) (hx : rd l i < 0) : listTo l (i + 1) = listTo l i ++ [44] ++ [120] := by rw [listTo, if_pos h, if_pos hx]
theorem listTo_cd {l : List Int} {i : Nat} (h : 0 < i) (hx : ¬ rd l i < 0) : listTo l (i + 1) = listTo l i ++ [44] ++ decimal (rd l i) := by rw [listTo, if_pos h, if_neg hx]
theorem listTo_x {l : List Int} {i : Nat} (h : ¬ 0 < i) (hx : rd l i < 0) : listTo l (i + 1) = listTo l i ++ [120] := by rw [listTo, if_neg h, if_pos hx]
theorem listTo_d {l : List Int} {i : Nat} (h : ¬ 0 < i) (hx : ¬ rd l i < 0) : listTo l (i + 1) = listTo l i ++ decimal (rd l i) := by rw [listTo, if_neg h, if_neg hx]

theorem commas_vow (l : List Int) (h : numsOk l) : Vow Try.prog 94 [iS l] (.s (listText l)) [] := by
  refine vow_of_ev (fn := Try.f94) [] [(0, 0), (0, 0), (0, 0), (0, 0), (10, 13), (13, 14), (15, 17), (17, 18), (19, 21), (21, 25), (25, 26), (26, 27)] tt_ok Try.func94 (by decide) rfl (Nat.le_of_ble_eq_true rfl) rfl rfl rfl ?_
  have lw : (l.map (V.i .i64)).length = l.length := by simp
  have h1 := h.1
  repeat' (conv => whnf); first | refine Br.tt ?_ | refine Br.ff ?_ | refine Br.not ?_ | refine Br.dand (fun _ => ?_) (fun _ => ?_) | refine Br.dec (fun _ => ?_) (fun _ => ?_) | refine Br.beq (fun _ => ?_) (fun _ => ?_) | refine Br.bne (fun _ => ?_) (fun _ => ?_) | refine Br.seq (fun _ => ?_) (fun _ => ?_) | refine Elt.i (by omega) ?_ | refine EltN.i (by omega) ?_ | refine Nt.cast ?_ | refine Nt.mk _ rfl ?_ | refine EltN.mk _ rfl ?_ | refine Mx.mk _ rfl ?_ | refine Br.mk (fun _ => ?_) (fun _ => ?_) | refine EndP.mk ?_ trivial | refine EndP.mk ?_ ⟨.inr ⟨List.mem_cons_self .., ?_, rfl⟩, trivial⟩ | refine Ar.i64 (by omega) ?_ | refine Ar.u8 (by omega) ?_ | refine Quo.pos (by omega) ?_ | refine Rem.pos (by omega) ?_ | refine BsP.own ?_ | refine Ob.mk ⟨rfl, rfl⟩ ?_ | refine Ob.mk (flat_i _ _).1 ?_ | refine Ob.mk (flat_i _ _) ?_ | refine Ob.mk (flat_s _) ?_ | refine Ob.mk (by first | omega | (simp; first | done | fail) | (simp; omega)) ?_ | fail
  · conv => whnf
    refine LoopP.mk [0,2,3,6,7,8] (fun i : Nat => [(0, iS l), (2, .s []), (3, .s (listTo l i)), (6, iS l), (7, .i .i64 ((l.map (V.i .i64)).length)), (8, .i .i64 i)]) (fun i => l.length - i) (fun i => i ≤ l.length) ?_ ?_
    · conv => whnf
      exact ⟨0, by omega, rfl⟩
    · intro i hi
      have hs := listTo_len i (fun j hj => h.2 j (by omega))
      have hd : i < l.length → (decimal (rd l i)).length ≤ 20 := fun k => decimal_len _ (h.2 i k)
      repeat' (conv => whnf); first | refine CallP.rd (decimal_impl (rd l i) (h.2 i (by omega))) rfl rfl rfl rfl ?_ | refine Br.tt ?_ | refine Br.ff ?_ | refine Br.not ?_ | refine Br.dand (fun _ => ?_) (fun _ => ?_) | refine Br.dec (fun _ => ?_) (fun _ => ?_) | refine Br.beq (fun _ => ?_) (fun _ => ?_) | refine Br.bne (fun _ => ?_) (fun _ => ?_) | refine Br.seq (fun _ => ?_) (fun _ => ?_) | refine Elt.i (by omega) ?_ | refine EltN.i (by omega) ?_ | refine Nt.cast ?_ | refine Nt.mk _ rfl ?_ | refine EltN.mk _ rfl ?_ | refine Mx.mk _ rfl ?_ | refine Br.mk (fun _ => ?_) (fun _ => ?_) | refine EndP.mk ?_ trivial | refine EndP.mk ?_ ⟨.inr ⟨List.mem_cons_self .., ?_, rfl⟩, trivial⟩ | refine Ar.i64 (by omega) ?_ | refine Ar.u8 (by omega) ?_ | refine Quo.pos (by omega) ?_ | refine Rem.pos (by omega) ?_ | refine BsP.own ?_ | refine Ob.mk ⟨rfl, rfl⟩ ?_ | refine Ob.mk (flat_i _ _).1 ?_ | refine Ob.mk (flat_i _ _) ?_ | refine Ob.mk (flat_s _) ?_ | refine Ob.mk (by first | omega | (simp; first | done | fail) | (simp; omega)) ?_ | fail
      all_goals first
        | (conv => whnf
           refine ⟨i + 1, by omega, by omega, ?_⟩
           first
             | (rw [listTo_cx (by omega) (by omega)]; rfl)
             | (rw [listTo_cd (by omega) (by omega)]; rfl)
             | (rw [listTo_x (by omega) (by omega)]; rfl)
             | (rw [listTo_d (by omega) (by omega)]; rfl))
        | (obtain rfl : i = l.length := by omega
           rfl)

def layoutText (l : Layout) : List UInt8 × Bool := if layoutOk l then (listText l.cols ++ [47] ++ listText l.rows ++ [47] ++ listText l.who, true) else ([], false)

theorem layout_nums {l : Layout} (h : layoutOk l) : numsOk l.cols ∧ numsOk l.rows ∧ numsOk l.who := by
  obtain ⟨h1, h2, h3⟩ := h
  obtain ⟨k1, k2⟩ := levelFor_sides h1
  have a1 := k1.1
  have a2 := k2.1
  have a3 : l.cols.length * l.rows.length ≤ 4 * 4 := Nat.mul_le_mul a1.2 a2.2
  refine ⟨⟨by omega, fun j hj => ?_⟩, ⟨by omega, fun j hj => ?_⟩, ⟨by omega, fun j hj => ?_⟩⟩
  · have := k1.2 j hj; unfold I64; omega
  · have := k2.2 j hj; unfold I64; omega
  · have := (h3 j hj).1; unfold I64; omega

theorem listText_len {l : List Int} (h : numsOk l) : (listText l).length ≤ 23068672 := by
  have := listTo_len l.length h.2
  have := h.1
  unfold listText
  omega

theorem layoutText_impl (l : Layout) : Vow Try.prog 32 [layV l] (.tp [.s (layoutText l).1, .b (layoutText l).2]) [] := by
  refine vow_of_ev (fn := Try.f32) [] [(0, 0), (4, 6), (0, 0), (7, 20)] tt_ok Try.func32 (by decide) rfl (Nat.le_of_ble_eq_true rfl) rfl rfl rfl ?_
  by_cases h : layoutOk l
  · obtain ⟨n1, n2, n3⟩ := layout_nums h
    have m1 := listText_len n1
    have m2 := listText_len n2
    have m3 := listText_len n3
    repeat' (conv => whnf); first | refine CallP.rd (layoutOk_impl l) rfl rfl rfl rfl ?_ | refine DCall.rd (layoutOk_impl l) rfl rfl ?_ | refine CallP.rd (commas_vow l.cols n1) rfl rfl rfl rfl ?_ | refine DCall.rd (commas_vow l.cols n1) rfl rfl ?_ | refine CallP.rd (commas_vow l.rows n2) rfl rfl rfl rfl ?_ | refine DCall.rd (commas_vow l.rows n2) rfl rfl ?_ | refine CallP.rd (commas_vow l.who n3) rfl rfl rfl rfl ?_ | refine DCall.rd (commas_vow l.who n3) rfl rfl ?_ | refine Br.tt ?_ | refine Br.ff ?_ | refine Br.not ?_ | refine Br.dand (fun _ => ?_) (fun _ => ?_) | refine Br.dec (fun _ => ?_) (fun _ => ?_) | refine Br.beq (fun _ => ?_) (fun _ => ?_) | refine Br.bne (fun _ => ?_) (fun _ => ?_) | refine Br.seq (fun _ => ?_) (fun _ => ?_) | refine Elt.i (by omega) ?_ | refine EltN.i (by omega) ?_ | refine Nt.cast ?_ | refine Nt.mk _ rfl ?_ | refine EltN.mk _ rfl ?_ | refine Mx.mk _ rfl ?_ | refine Br.mk (fun _ => ?_) (fun _ => ?_) | refine EndP.mk ?_ trivial | refine EndP.mk ?_ ⟨.inr ⟨List.mem_cons_self .., ?_, rfl⟩, trivial⟩ | refine Ar.i64 (by omega) ?_ | refine Ar.u8 (by omega) ?_ | refine Quo.pos (by omega) ?_ | refine Rem.pos (by omega) ?_ | refine BsP.own ?_ | refine Ob.mk ⟨rfl, rfl⟩ ?_ | refine Ob.mk (flat_i _ _).1 ?_ | refine Ob.mk (flat_i _ _) ?_ | refine Ob.mk (flat_s _) ?_ | refine Ob.mk (by first | omega | (simp; first | done | fail) | (simp; omega)) ?_ | fail
    all_goals first | (rw [layoutText, if_pos h]; rfl) | exact absurd h (by assumption)
  · repeat' (conv => whnf); first | refine CallP.rd (layoutOk_impl l) rfl rfl rfl rfl ?_ | refine Br.tt ?_ | refine Br.ff ?_ | refine Br.not ?_ | refine Br.dand (fun _ => ?_) (fun _ => ?_) | refine Br.dec (fun _ => ?_) (fun _ => ?_) | refine Br.beq (fun _ => ?_) (fun _ => ?_) | refine Br.bne (fun _ => ?_) (fun _ => ?_) | refine Br.seq (fun _ => ?_) (fun _ => ?_) | refine Elt.i (by omega) ?_ | refine EltN.i (by omega) ?_ | refine Nt.cast ?_ | refine Nt.mk _ rfl ?_ | refine EltN.mk _ rfl ?_ | refine Mx.mk _ rfl ?_ | refine Br.mk (fun _ => ?_) (fun _ => ?_) | refine EndP.mk ?_ trivial | refine EndP.mk ?_ ⟨.inr ⟨List.mem_cons_self .., ?_, rfl⟩, trivial⟩ | refine Ar.i64 (by omega) ?_ | refine Ar.u8 (by omega) ?_ | refine Quo.pos (by omega) ?_ | refine Rem.pos (by omega) ?_ | refine BsP.own ?_ | refine Ob.mk ⟨rfl, rfl⟩ ?_ | refine Ob.mk (flat_i _ _).1 ?_ | refine Ob.mk (flat_i _ _) ?_ | refine Ob.mk (flat_s _) ?_ | refine Ob.mk (by first | omega | (simp; first | done | fail) | (simp; omega)) ?_ | fail
    all_goals first | (rw [layoutText, if_neg h]; rfl) | exact absurd (by assumption) h

end Go.Proofs.Ytfcjjkfjdecakaa