/- Who is in both of two layouts. No condition. -/
import Derived.Test.YtfcjjkfjdecakaaSi
namespace Go.Proofs.Ytfcjjkfjdecakaa
open Go Go.Vx
set_option linter.unusedVariables false
set_option linter.unusedSimpArgs false
set_option maxHeartbeats 600000
set_option maxRecDepth 100000

def keptN (l m : Layout) : Nat → List Int
  | 0 => []
  | n + 1 => if 0 ≤ cellOf l n ∧ 0 ≤ cellOf m n then keptN l m n ++ [(n : Int)] else keptN l m n
def kept (l m : Layout) : List Int := keptN l m 6
theorem keptN_len (l m : Layout) : ∀ n, (keptN l m n).length ≤ n
  | 0 => by simp [keptN]
  | n + 1 => by have := keptN_len l m n; simp only [keptN]; split <;> simp <;> omega
theorem cellOf_ok {l : Layout} {w : Int} (h : 0 ≤ cellOf l w) : layoutOk l := Classical.byContradiction fun hn => by
  rw [cellOf, if_neg (fun k => hn k.1)] at h; omega

theorem keptN_map {l m : Layout} {i : Nat} (h : 0 ≤ cellOf l i ∧ 0 ≤ cellOf m i) : (keptN l m i).map (V.i .i64) ++ [V.i .i64 (i : Int)] = (keptN l m (i + 1)).map (V.i .i64) := by
  rw [keptN, if_pos h]; simp
theorem keptN_same {l m : Layout} {i : Nat} (h : ¬ (0 ≤ cellOf l i ∧ 0 ≤ cellOf m i)) : keptN l m (i + 1) = keptN l m i := by
  rw [keptN, if_neg h]

theorem kept_impl (l m : Layout) (hl : l.who.length ≤ 17592186044416) (hm : m.who.length ≤ 17592186044416) : Vow Try.prog 35 [layV l, layV m] (iO (kept l m)) [] := by
  refine vow_of_ev (fn := Try.f35) [] [(0, 0), (7, 8), (0, 0), (0, 0), (10, 11), (11, 20), (21, 25), (25, 26), (26, 27)] tt_ok Try.func35 (by decide) rfl (Nat.le_of_ble_eq_true rfl) rfl rfl rfl ?_
  repeat' (conv => whnf); first | refine Br.tt ?_ | refine Br.ff ?_ | refine Br.not ?_ | refine Br.dand (fun _ => ?_) (fun _ => ?_) | refine Br.dec (fun _ => ?_) (fun _ => ?_) | refine Br.beq (fun _ => ?_) (fun _ => ?_) | refine Br.bne (fun _ => ?_) (fun _ => ?_) | refine Br.seq (fun _ => ?_) (fun _ => ?_) | refine Elt.i (by omega) ?_ | refine EltN.i (by omega) ?_ | refine Nt.cast ?_ | refine Nt.mk _ rfl ?_ | refine EltN.mk _ rfl ?_ | refine Mx.mk _ rfl ?_ | refine Br.mk (fun _ => ?_) (fun _ => ?_) | refine EndP.mk ?_ trivial | refine EndP.mk ?_ ⟨.inr ⟨List.mem_cons_self .., ?_, rfl⟩, trivial⟩ | refine Ar.i64 (by omega) ?_ | refine Ar.u8 (by omega) ?_ | refine Quo.pos (by omega) ?_ | refine Rem.pos (by omega) ?_ | refine BsP.own ?_ | refine Ob.mk ⟨rfl, rfl⟩ ?_ | refine Ob.mk (flat_i _ _).1 ?_ | refine Ob.mk (flat_i _ _) ?_ | refine Ob.mk (flat_s _) ?_ | refine Ob.mk (by first | omega | (simp; first | done | fail) | (simp; omega)) ?_ | fail
  · conv => whnf
    refine LoopP.mk [2,3,4,5,8] (fun i : Nat => [(2, .bx [iS l.cols, iS l.rows, iS l.who]), (3, .bx [iS m.cols, iS m.rows, iS m.who]), (4, .nl), (5, .ow 1 ((keptN l m i).map (V.i .i64))), (8, .i .i64 i)]) (fun i => 6 - i) (fun i => i ≤ 6) ?_ ?_
    · conv => whnf
      exact ⟨0, by omega, rfl⟩
    · intro i hi
      have hk := keptN_len l m i
      have hk2 : ((keptN l m i).map (V.i .i64)).length ≤ 6 := by simp; omega
      repeat' (conv => whnf); first | refine CallP.rd (cellOf_impl l i hl) rfl rfl rfl rfl ?_ | refine CallP.rd (cellOf_impl m i hm) rfl rfl rfl rfl ?_ | refine Br.tt ?_ | refine Br.ff ?_ | refine Br.not ?_ | refine Br.dand (fun _ => ?_) (fun _ => ?_) | refine Br.dec (fun _ => ?_) (fun _ => ?_) | refine Br.beq (fun _ => ?_) (fun _ => ?_) | refine Br.bne (fun _ => ?_) (fun _ => ?_) | refine Br.seq (fun _ => ?_) (fun _ => ?_) | refine Elt.i (by omega) ?_ | refine EltN.i (by omega) ?_ | refine Nt.cast ?_ | refine Nt.mk _ rfl ?_ | refine EltN.mk _ rfl ?_ | refine Mx.mk _ rfl ?_ | refine Br.mk (fun _ => ?_) (fun _ => ?_) | refine EndP.mk ?_ trivial | refine EndP.mk ?_ ⟨.inr ⟨List.mem_cons_self .., ?_, rfl⟩, trivial⟩ | refine Ar.i64 (by omega) ?_ | refine Ar.u8 (by omega) ?_ | refine Quo.pos (by omega) ?_ | refine Rem.pos (by omega) ?_ | refine BsP.own ?_ | refine Ob.mk ⟨rfl, rfl⟩ ?_ | refine Ob.mk (flat_i _ _).1 ?_ | refine Ob.mk (flat_i _ _) ?_ | refine Ob.mk (flat_s _) ?_ | refine Ob.mk (by first | omega | (simp; first | done | fail) | (simp; omega)) ?_ | fail
      all_goals first
        | (conv => whnf
           refine ⟨i + 1, by omega, by omega, ?_⟩
           first
             | (rw [keptN_map ⟨by omega, by omega⟩]; rfl)
             | (rw [keptN_same (by omega)]; rfl))
        | (obtain rfl : i = 6 := by omega
           rfl)

end Go.Proofs.Ytfcjjkfjdecakaa