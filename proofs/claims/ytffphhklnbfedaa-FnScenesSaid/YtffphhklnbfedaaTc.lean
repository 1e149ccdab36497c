/- The law of scenes. No condition. -/
import Derived.Test.YtffphhklnbfedaaTb
namespace Go.Proofs.Ytffphhklnbfedaa
open Go Go.Vx
set_option linter.unusedVariables false
set_option linter.unusedSimpArgs false
set_option maxHeartbeats 600000
set_option maxRecDepth 100000

theorem big_vow (l : List UInt8) : Vow Try.prog 15 [.sl (l.map byteV)] (.b (decide (1048576 < (l.length : Int)))) [] := by
  have hl : (l.map byteV).length = l.length := by simp
  refine vow_of_ev (fn := Try.f15) [] [(0, 0), (3, 6)] tt_ok Try.func15 (by decide) rfl (Nat.le_of_ble_eq_true rfl) rfl rfl rfl ?_
  repeat' (conv => whnf); first | refine Br.tt ?_ | refine Br.ff ?_ | refine Br.not ?_ | refine Br.dand (fun _ => ?_) (fun _ => ?_) | refine Br.dec (fun _ => ?_) (fun _ => ?_) | refine Br.beq (fun _ => ?_) (fun _ => ?_) | refine Br.bne (fun _ => ?_) (fun _ => ?_) | refine Br.seq (fun _ => ?_) (fun _ => ?_) | refine Elt.i (by omega) ?_ | refine EltN.i (by omega) ?_ | refine Nt.cast ?_ | refine Nt.mk _ rfl ?_ | refine EltN.mk _ rfl ?_ | refine Mx.mk _ rfl ?_ | refine Br.mk (fun _ => ?_) (fun _ => ?_) | refine EndP.mk ?_ trivial | refine EndP.mk ?_ ⟨.inr ⟨List.mem_cons_self .., ?_, rfl⟩, trivial⟩ | refine Ar.i64 (by omega) ?_ | refine Ar.u8 (by omega) ?_ | refine Quo.pos (by omega) ?_ | refine Rem.pos (by omega) ?_ | refine Ob.mk ⟨rfl, rfl⟩ ?_ | refine Ob.mk (flat_i _ _).1 ?_ | refine Ob.mk (flat_i _ _) ?_ | refine Ob.mk (flat_s _) ?_ | refine Ob.mk (by first | omega | (simp; first | done | fail) | (simp; omega)) ?_ | fail
  rw [hl]; rfl


theorem dotAt_scene {seed t wide high : Int} (h : sceneOk seed t wide high) (x y : Int) (hx : 0 ≤ x ∧ x < wide) (hy : 0 ≤ y ∧ y < high) :
    Vow Try.prog 19 [picV ⟨wide, high, sceneDots seed t wide high⟩, .i .i64 x, .i .i64 y] (.i .i64 (dot seed t x y)) [] := by
  obtain ⟨x, rfl⟩ := Int.eq_ofNat_of_zero_le hx.1
  obtain ⟨y, rfl⟩ := Int.eq_ofNat_of_zero_le hy.1
  obtain ⟨h1, h2, h3⟩ := scene_dot h hx.2 hy.2
  have hs : sceneOf seed t wide high = ⟨wide, high, sceneDots seed t wide high⟩ := by rw [sceneOf, if_pos h]
  rw [hs] at h1 h2
  have := dotAt_vow _ h1 x y hx.2 hy.2
  rw [← h2]
  exact this

set_option maxHeartbeats 6000000 in
theorem law_scenes (l : List UInt8) : Vow Try.prog 3 [.sl (l.map byteV)] (.b true) [] := by
  refine vow_of_ev (fn := Try.f3) [] [(0, 0), (9, 10), (0, 0), (11, 13), (13, 18), (18, 23), (23, 33), (33, 38), (38, 43), (43, 87)] tt_ok Try.func3 (by decide) rfl (Nat.le_of_ble_eq_true rfl) rfl rfl rfl ?_
  by_cases hb : 1048576 < l.length
  · repeat' (conv => whnf); first | refine CallP.rd (big_vow l) rfl rfl rfl rfl ?_ | refine Br.tt ?_ | refine Br.ff ?_ | refine Br.not ?_ | refine Br.dand (fun _ => ?_) (fun _ => ?_) | refine Br.dec (fun _ => ?_) (fun _ => ?_) | refine Br.beq (fun _ => ?_) (fun _ => ?_) | refine Br.bne (fun _ => ?_) (fun _ => ?_) | refine Br.seq (fun _ => ?_) (fun _ => ?_) | refine Elt.i (by omega) ?_ | refine EltN.i (by omega) ?_ | refine Nt.cast ?_ | refine Nt.mk _ rfl ?_ | refine EltN.mk _ rfl ?_ | refine Mx.mk _ rfl ?_ | refine Br.mk (fun _ => ?_) (fun _ => ?_) | refine EndP.mk ?_ trivial | refine EndP.mk ?_ ⟨.inr ⟨List.mem_cons_self .., ?_, rfl⟩, trivial⟩ | refine Ar.i64 (by omega) ?_ | refine Ar.u8 (by omega) ?_ | refine Quo.pos (by omega) ?_ | refine Rem.pos (by omega) ?_ | refine Ob.mk ⟨rfl, rfl⟩ ?_ | refine Ob.mk (flat_i _ _).1 ?_ | refine Ob.mk (flat_i _ _) ?_ | refine Ob.mk (flat_s _) ?_ | refine Ob.mk (by first | omega | (simp; first | done | fail) | (simp; omega)) ?_ | fail
    all_goals first | rfl | (exfalso; omega)
  obtain ⟨hl, hp⟩ := places_at l (by omega)
  have hl2 : ((places l).map (V.i .i64)).length = 12 := by simp [hl]
  have p0 := hp 0 (by omega)
  have p1 := hp 1 (by omega)
  have p2 := hp 2 (by omega)
  have p3 := hp 3 (by omega)
  have p4 := hp 4 (by omega)
  have p5 := hp 5 (by omega)
  have ok : sceneOk (rd (places l) 0 % 1000) (rd (places l) 1) (1 + rd (places l) 2 % 40) (1 + rd (places l) 3 % 40) := by unfold sceneOk; omega
  have x1 := Int.emod_nonneg (rd (places l) 4) (show (1 + rd (places l) 2 % 40) ≠ 0 by omega)
  have x2 := Int.emod_lt_of_pos (rd (places l) 4) (show 0 < (1 + rd (places l) 2 % 40) by omega)
  have y1 := Int.emod_nonneg (rd (places l) 5) (show (1 + rd (places l) 3 % 40) ≠ 0 by omega)
  have y2 := Int.emod_lt_of_pos (rd (places l) 5) (show 0 < (1 + rd (places l) 3 % 40) by omega)
  have hd := dot_fit (rd (places l) 0 % 1000) (rd (places l) 1) (rd (places l) 4 % (1 + rd (places l) 2 % 40)) (rd (places l) 5 % (1 + rd (places l) 3 % 40))
  have c1 := sceneOf_impl (rd (places l) 0 % 1000) (rd (places l) 1) (1 + rd (places l) 2 % 40) (1 + rd (places l) 3 % 40)
  have c2 := dotAt_scene ok _ _ ⟨x1, x2⟩ ⟨y1, y2⟩
  have hpk : picOk ⟨1 + rd (places l) 2 % 40, 1 + rd (places l) 3 % 40, sceneDots (rd (places l) 0 % 1000) (rd (places l) 1) (1 + rd (places l) 2 % 40) (1 + rd (places l) 3 % 40)⟩ := by
    have := (scene_dot (x := 0) (y := 0) ok (by omega) (by omega)).1
    rw [sceneOf, if_pos ok] at this
    exact this
  rw [sceneOf, if_pos ok] at c1
  have c3 := picOk_vow _ hpk
  have hd2 : 0 ≤ dot (rd (places l) 0 % 1000) (rd (places l) 1) (rd (places l) 4 % (1 + rd (places l) 2 % 40)) (rd (places l) 5 % (1 + rd (places l) 3 % 40)) := by omega
  repeat' (conv => whnf); first | refine CallP.rd (big_vow l) rfl rfl rfl rfl ?_ | refine DCall.rd (big_vow l) rfl rfl ?_ | refine CallP.rd (drawPlaces_vow l (by omega)) rfl rfl rfl rfl ?_ | refine DCall.rd (drawPlaces_vow l (by omega)) rfl rfl ?_ | refine EltN.ik 0 ⟨rfl, by omega⟩ ?_ | refine EltN.ik 1 ⟨rfl, by omega⟩ ?_ | refine EltN.ik 2 ⟨rfl, by omega⟩ ?_ | refine EltN.ik 3 ⟨rfl, by omega⟩ ?_ | refine EltN.ik 4 ⟨rfl, by omega⟩ ?_ | refine EltN.ik 5 ⟨rfl, by omega⟩ ?_ | refine CallP.rd (c1) rfl rfl rfl rfl ?_ | refine DCall.rd (c1) rfl rfl ?_ | refine CallP.rd (c2) rfl rfl rfl rfl ?_ | refine DCall.rd (c2) rfl rfl ?_ | refine CallP.rd (c3) rfl rfl rfl rfl ?_ | refine DCall.rd (c3) rfl rfl ?_ | refine CallP.rd (dot_vow _ _ _ _) rfl rfl rfl rfl ?_ | refine DCall.rd (dot_vow _ _ _ _) rfl rfl ?_ | refine Br.tt ?_ | refine Br.ff ?_ | refine Br.not ?_ | refine Br.dand (fun _ => ?_) (fun _ => ?_) | refine Br.dec (fun _ => ?_) (fun _ => ?_) | refine Br.beq (fun _ => ?_) (fun _ => ?_) | refine Br.bne (fun _ => ?_) (fun _ => ?_) | refine Br.seq (fun _ => ?_) (fun _ => ?_) | refine Elt.i (by omega) ?_ | refine EltN.i (by omega) ?_ | refine Nt.cast ?_ | refine Nt.mk _ rfl ?_ | refine EltN.mk _ rfl ?_ | refine Mx.mk _ rfl ?_ | refine Br.mk (fun _ => ?_) (fun _ => ?_) | refine EndP.mk ?_ trivial | refine EndP.mk ?_ ⟨.inr ⟨List.mem_cons_self .., ?_, rfl⟩, trivial⟩ | refine Ar.i64 (by omega) ?_ | refine Ar.u8 (by omega) ?_ | refine Quo.pos (by omega) ?_ | refine Rem.pos (by omega) ?_ | refine Ob.mk ⟨rfl, rfl⟩ ?_ | refine Ob.mk (flat_i _ _).1 ?_ | refine Ob.mk (flat_i _ _) ?_ | refine Ob.mk (flat_s _) ?_ | refine Ob.mk (by first | omega | (simp; first | done | fail) | (simp; omega)) ?_ | fail
  all_goals first | rfl | (exfalso; omega) | (rw [decide_eq_true hd2]; rfl) | exact absurd rfl ‹¬ _ = _›
end Go.Proofs.Ytffphhklnbfedaa
