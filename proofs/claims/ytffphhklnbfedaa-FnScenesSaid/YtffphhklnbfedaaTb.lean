/- Scenes: a filmed scene is right and has the dots that are told. No condition. -/
import Derived.Test.YtffphhklnbfedaaTa
namespace Go.Proofs.Ytffphhklnbfedaa
open Go Go.Vx
set_option linter.unusedVariables false
set_option linter.unusedSimpArgs false
set_option maxHeartbeats 600000
set_option maxRecDepth 100000

def placesTo (c : Cur) : Nat → List Int × Cur
  | 0 => ([], c)
  | i + 1 => ((placesTo c i).1 ++ [below (placesTo c i).2 10000], belowNext (placesTo c i).2 10000)
theorem placesTo_ok {c : Cur} (h : c.ok) : ∀ i, (placesTo c i).2.ok ∧ (placesTo c i).1.length = i ∧ ∀ j, j < i → 0 ≤ rd (placesTo c i).1 j ∧ rd (placesTo c i).1 j ≤ 9999
  | 0 => ⟨h, rfl, fun j hj => by omega⟩
  | i + 1 => by
    obtain ⟨h1, h2, h3⟩ := placesTo_ok h i
    have hb := below_fit (placesTo c i).2 (n := 10000) (by omega)
    refine ⟨belowNext_ok h1 _, by simp [placesTo, h2], fun j hj => ?_⟩
    by_cases hji : j < i
    · have := h3 j hji
      simpa [placesTo, rd, List.getElem?_append_left (show j < (placesTo c i).1.length by omega)] using this
    · obtain rfl : j = i := by omega
      have : rd (placesTo c (j + 1)).1 j = below (placesTo c j).2 10000 := by simp [placesTo, rd, h2]
      omega
def places (l : List UInt8) : List Int := (placesTo (curNext (curNew l)) 12).1


theorem drawPlaces_vow (l : List UInt8) (h : l.length ≤ 2000000) : Vow Try.prog 16 [.sl (l.map byteV)] (.ow 1 ((places l).map (.i .i64))) [] := by
  have hn := curNew_ok h
  have hn2 := curNext_ok hn
  refine vow_of_ev (fn := Try.f16) [] [(0, 0), (6, 8), (8, 10), (10, 11), (0, 0), (11, 12), (13, 15), (15, 20), (20, 21)] tt_ok Try.func16 (by decide) rfl (Nat.le_of_ble_eq_true rfl) rfl rfl rfl ?_
  repeat' (conv => whnf); first | refine CallP.rd (l01New_vow l h) rfl rfl rfl rfl ?_ | refine CallP.ho [([9], [2])] (l01Byte_vow (curNew l) hn) rfl rfl ?_ | refine Br.tt ?_ | refine Br.ff ?_ | refine Br.not ?_ | refine Br.dand (fun _ => ?_) (fun _ => ?_) | refine Br.dec (fun _ => ?_) (fun _ => ?_) | refine Br.beq (fun _ => ?_) (fun _ => ?_) | refine Br.bne (fun _ => ?_) (fun _ => ?_) | refine Br.seq (fun _ => ?_) (fun _ => ?_) | refine Elt.i (by omega) ?_ | refine EltN.i (by omega) ?_ | refine Nt.cast ?_ | refine Nt.mk _ rfl ?_ | refine EltN.mk _ rfl ?_ | refine Mx.mk _ rfl ?_ | refine Br.mk (fun _ => ?_) (fun _ => ?_) | refine EndP.mk ?_ trivial | refine EndP.mk ?_ ⟨.inr ⟨List.mem_cons_self .., ?_, rfl⟩, trivial⟩ | refine Ar.i64 (by omega) ?_ | refine Ar.u8 (by omega) ?_ | refine Quo.pos (by omega) ?_ | refine Rem.pos (by omega) ?_ | refine Ob.mk ⟨rfl, rfl⟩ ?_ | refine Ob.mk (flat_i _ _).1 ?_ | refine Ob.mk (flat_i _ _) ?_ | refine Ob.mk (flat_s _) ?_ | refine Ob.mk (by first | omega | (simp; first | done | fail) | (simp; omega)) ?_ | fail
  · conv => whnf
    refine LoopP.mk [2,3,4,5] (fun i : Nat => [(2, .nl), (3, curV (placesTo (curNext (curNew l)) i).2), (4, .ow 1 ((placesTo (curNext (curNew l)) i).1.map (.i .i64))), (5, .i .i64 i)]) (fun i => 12 - i) (fun i => i ≤ 12) ?_ ?_
    · conv => whnf
      exact ⟨0, by omega, rfl⟩
    · intro i hi
      obtain ⟨o1, o2, o3⟩ := placesTo_ok hn2 i
      have hl : ((placesTo (curNext (curNew l)) i).1.map (V.i .i64)).length = i := by simp [o2]
      repeat' (conv => whnf); first | refine CallP.ho [([5], [2])] (l01Below_vow (placesTo (curNext (curNew l)) i).2 o1 10000) rfl rfl ?_ | refine Br.tt ?_ | refine Br.ff ?_ | refine Br.not ?_ | refine Br.dand (fun _ => ?_) (fun _ => ?_) | refine Br.dec (fun _ => ?_) (fun _ => ?_) | refine Br.beq (fun _ => ?_) (fun _ => ?_) | refine Br.bne (fun _ => ?_) (fun _ => ?_) | refine Br.seq (fun _ => ?_) (fun _ => ?_) | refine Elt.i (by omega) ?_ | refine EltN.i (by omega) ?_ | refine Nt.cast ?_ | refine Nt.mk _ rfl ?_ | refine EltN.mk _ rfl ?_ | refine Mx.mk _ rfl ?_ | refine Br.mk (fun _ => ?_) (fun _ => ?_) | refine EndP.mk ?_ trivial | refine EndP.mk ?_ ⟨.inr ⟨List.mem_cons_self .., ?_, rfl⟩, trivial⟩ | refine Ar.i64 (by omega) ?_ | refine Ar.u8 (by omega) ?_ | refine Quo.pos (by omega) ?_ | refine Rem.pos (by omega) ?_ | refine Ob.mk ⟨rfl, rfl⟩ ?_ | refine Ob.mk (flat_i _ _).1 ?_ | refine Ob.mk (flat_i _ _) ?_ | refine Ob.mk (flat_s _) ?_ | refine Ob.mk (by first | omega | (simp; first | done | fail) | (simp; omega)) ?_ | fail
      · conv => whnf
        refine ⟨i + 1, by omega, by omega, ?_⟩
        simp only [placesTo, List.map_append, List.map_cons, List.map_nil]
        rfl
      · obtain rfl : i = 12 := by omega
        rfl
theorem places_at (l : List UInt8) (h : l.length ≤ 2000000) : (places l).length = 12 ∧ ∀ j, j < 12 → 0 ≤ rd (places l) j ∧ rd (places l) j ≤ 9999 := (placesTo_ok (curNext_ok (curNew_ok h)) 12).2

theorem _root_.Go.Vx.Chr.atx {l : List UInt8} (j : Nat) {x : Int} {κ : UInt8 → Prop} (h : x = (j : Int) ∧ j < l.length) (g : κ (rb l j)) : Chr l x κ := by
  obtain ⟨rfl, h⟩ := h; exact Chr.at h g
theorem _root_.Go.Vx.EltN.ik {k : IntKind} {l : List Int} (j : Nat) {x : Nat} {κ : V → Prop} (h : x = j ∧ j < l.length) (g : κ (.i k (rd l j))) : EltN (l.map (V.i k)) x κ := by
  obtain ⟨rfl, h⟩ := h; exact EltN.i h g

def picOk (p : Pic) : Prop := (1 ≤ p.wide ∧ p.wide ≤ 256) ∧ (1 ≤ p.high ∧ p.high ≤ 256) ∧ (p.dots.length : Int) = p.wide * p.high
instance (p : Pic) : Decidable (picOk p) := by unfold picOk; infer_instance

theorem picOk_vow (p : Pic) (h : picOk p) : Vow Try.prog 18 [picV p] (.b true) [] := by
  obtain ⟨h1, h2, h3⟩ := h
  have m := wh_fit p.wide p.high
  refine vow_of_ev (fn := Try.f18) [] [(0, 0), (3, 22)] tt_ok Try.func18 (by decide) rfl (Nat.le_of_ble_eq_true rfl) rfl rfl rfl ?_
  repeat' (conv => whnf); first | refine CallP.rd (within_vow _ _ _) rfl rfl rfl rfl ?_ | refine DCall.rd (within_vow _ _ _) rfl rfl ?_ | refine Br.tt ?_ | refine Br.ff ?_ | refine Br.not ?_ | refine Br.dand (fun _ => ?_) (fun _ => ?_) | refine Br.dec (fun _ => ?_) (fun _ => ?_) | refine Br.beq (fun _ => ?_) (fun _ => ?_) | refine Br.bne (fun _ => ?_) (fun _ => ?_) | refine Br.seq (fun _ => ?_) (fun _ => ?_) | refine Elt.i (by omega) ?_ | refine EltN.i (by omega) ?_ | refine Nt.cast ?_ | refine Nt.mk _ rfl ?_ | refine EltN.mk _ rfl ?_ | refine Mx.mk _ rfl ?_ | refine Br.mk (fun _ => ?_) (fun _ => ?_) | refine EndP.mk ?_ trivial | refine EndP.mk ?_ ⟨.inr ⟨List.mem_cons_self .., ?_, rfl⟩, trivial⟩ | refine Ar.i64 (by omega) ?_ | refine Ar.u8 (by omega) ?_ | refine Quo.pos (by omega) ?_ | refine Rem.pos (by omega) ?_ | refine Ob.mk ⟨rfl, rfl⟩ ?_ | refine Ob.mk (flat_i _ _).1 ?_ | refine Ob.mk (flat_i _ _) ?_ | refine Ob.mk (flat_s _) ?_ | refine Ob.mk (by first | omega | (simp; first | done | fail) | (simp; omega)) ?_ | fail
  all_goals first | rfl | (exfalso; omega) | (rw [h3]; simp [resOf])

theorem brought_vow (n lo hi : Int) (h : lo ≤ n ∧ n ≤ hi) : Vow Try.prog 132 [.i .i64 n, .i .i64 lo, .i .i64 hi] (.i .i64 n) [] := by
  refine vow_of_ev (fn := Try.f132) [] [(0, 0), (7, 12)] tt_ok Try.func132 (by decide) rfl (Nat.le_of_ble_eq_true rfl) rfl rfl rfl ?_
  repeat' (conv => whnf); first | refine Br.tt ?_ | refine Br.ff ?_ | refine Br.not ?_ | refine Br.dand (fun _ => ?_) (fun _ => ?_) | refine Br.dec (fun _ => ?_) (fun _ => ?_) | refine Br.beq (fun _ => ?_) (fun _ => ?_) | refine Br.bne (fun _ => ?_) (fun _ => ?_) | refine Br.seq (fun _ => ?_) (fun _ => ?_) | refine Elt.i (by omega) ?_ | refine EltN.i (by omega) ?_ | refine Nt.cast ?_ | refine Nt.mk _ rfl ?_ | refine EltN.mk _ rfl ?_ | refine Mx.mk _ rfl ?_ | refine Br.mk (fun _ => ?_) (fun _ => ?_) | refine EndP.mk ?_ trivial | refine EndP.mk ?_ ⟨.inr ⟨List.mem_cons_self .., ?_, rfl⟩, trivial⟩ | refine Ar.i64 (by omega) ?_ | refine Ar.u8 (by omega) ?_ | refine Quo.pos (by omega) ?_ | refine Rem.pos (by omega) ?_ | refine Ob.mk ⟨rfl, rfl⟩ ?_ | refine Ob.mk (flat_i _ _).1 ?_ | refine Ob.mk (flat_i _ _) ?_ | refine Ob.mk (flat_s _) ?_ | refine Ob.mk (by first | omega | (simp; first | done | fail) | (simp; omega)) ?_ | fail
  have e : (if (if hi < n then hi else n) > lo then if hi < n then hi else n else lo) = n := by split <;> split <;> omega
  rw [e]; rfl

theorem picDot_vow (p : Pic) (h : picOk p) (x y : Nat) (hx : (x : Int) < p.wide) (hy : (y : Int) < p.high) : Vow Try.prog 77 [picV p, .i .i64 x, .i .i64 y] (.i .i64 (rb p.dots (y * p.wide.toNat + x)).toNat) [] := by
  obtain ⟨h1, h2, h3⟩ := h
  have hb := (rb p.dots (y * p.wide.toNat + x)).toNat_lt
  have m1 := mul_fit (a := (y : Int)) (b := p.wide) (A := 255) (B := 256) (by omega) (by omega)
  obtain ⟨e1, e2⟩ : (y : Int) * p.wide + x = ((y * p.wide.toNat + x : Nat) : Int) ∧ y * p.wide.toNat + x < p.dots.length := by
    obtain ⟨w, hw⟩ := Int.eq_ofNat_of_zero_le (show 0 ≤ p.wide by omega)
    obtain ⟨k, hk⟩ := Int.eq_ofNat_of_zero_le (show 0 ≤ p.high by omega)
    rw [hw] at hx h3 ⊢
    rw [hk] at hy h3
    rw [Int.toNat_natCast]
    refine ⟨by simp, ?_⟩
    have h4 : p.dots.length = w * k := by rw [← Int.natCast_mul] at h3; omega
    have h5 : y * w + x < k * w := by
      have : (y + 1) * w ≤ k * w := Nat.mul_le_mul_right w (by omega)
      rw [Nat.add_mul] at this
      omega
    rw [h4, Nat.mul_comm w k]
    exact h5
  refine vow_of_ev (fn := Try.f77) [] [(0, 0), (7, 25)] tt_ok Try.func77 (by decide) rfl (Nat.le_of_ble_eq_true rfl) rfl rfl rfl ?_
  repeat' (conv => whnf); first | refine CallP.rd (brought_vow (y : Int) 0 (p.high - 1) (by omega)) rfl rfl rfl rfl ?_ | refine DCall.rd (brought_vow (y : Int) 0 (p.high - 1) (by omega)) rfl rfl ?_ | refine CallP.rd (brought_vow (x : Int) 0 (p.wide - 1) (by omega)) rfl rfl rfl rfl ?_ | refine DCall.rd (brought_vow (x : Int) 0 (p.wide - 1) (by omega)) rfl rfl ?_ | refine Chr.atx _ ⟨e1, e2⟩ ?_ | refine Br.tt ?_ | refine Br.ff ?_ | refine Br.not ?_ | refine Br.dand (fun _ => ?_) (fun _ => ?_) | refine Br.dec (fun _ => ?_) (fun _ => ?_) | refine Br.beq (fun _ => ?_) (fun _ => ?_) | refine Br.bne (fun _ => ?_) (fun _ => ?_) | refine Br.seq (fun _ => ?_) (fun _ => ?_) | refine Elt.i (by omega) ?_ | refine EltN.i (by omega) ?_ | refine Nt.cast ?_ | refine Nt.mk _ rfl ?_ | refine EltN.mk _ rfl ?_ | refine Mx.mk _ rfl ?_ | refine Br.mk (fun _ => ?_) (fun _ => ?_) | refine EndP.mk ?_ trivial | refine EndP.mk ?_ ⟨.inr ⟨List.mem_cons_self .., ?_, rfl⟩, trivial⟩ | refine Ar.i64 (by omega) ?_ | refine Ar.u8 (by omega) ?_ | refine Quo.pos (by omega) ?_ | refine Rem.pos (by omega) ?_ | refine Ob.mk ⟨rfl, rfl⟩ ?_ | refine Ob.mk (flat_i _ _).1 ?_ | refine Ob.mk (flat_i _ _) ?_ | refine Ob.mk (flat_s _) ?_ | refine Ob.mk (by first | omega | (simp; first | done | fail) | (simp; omega)) ?_ | fail
  all_goals first | rfl | (conv => whnf; trace_state)

theorem dotAt_vow (p : Pic) (h : picOk p) (x y : Nat) (hx : (x : Int) < p.wide) (hy : (y : Int) < p.high) : Vow Try.prog 19 [picV p, .i .i64 x, .i .i64 y] (.i .i64 (rb p.dots (y * p.wide.toNat + x)).toNat) [] := by
  refine vow_of_ev (fn := Try.f19) [] [(0, 0), (7, 9), (0, 0), (10, 14)] tt_ok Try.func19 (by decide) rfl (Nat.le_of_ble_eq_true rfl) rfl rfl rfl ?_
  repeat' (conv => whnf); first | refine CallP.rd (picOk_vow p h) rfl rfl rfl rfl ?_ | refine DCall.rd (picOk_vow p h) rfl rfl ?_ | refine CallP.rd (picDot_vow p h x y hx hy) rfl rfl rfl rfl ?_ | refine DCall.rd (picDot_vow p h x y hx hy) rfl rfl ?_ | refine Br.tt ?_ | refine Br.ff ?_ | refine Br.not ?_ | refine Br.dand (fun _ => ?_) (fun _ => ?_) | refine Br.dec (fun _ => ?_) (fun _ => ?_) | refine Br.beq (fun _ => ?_) (fun _ => ?_) | refine Br.bne (fun _ => ?_) (fun _ => ?_) | refine Br.seq (fun _ => ?_) (fun _ => ?_) | refine Elt.i (by omega) ?_ | refine EltN.i (by omega) ?_ | refine Nt.cast ?_ | refine Nt.mk _ rfl ?_ | refine EltN.mk _ rfl ?_ | refine Mx.mk _ rfl ?_ | refine Br.mk (fun _ => ?_) (fun _ => ?_) | refine EndP.mk ?_ trivial | refine EndP.mk ?_ ⟨.inr ⟨List.mem_cons_self .., ?_, rfl⟩, trivial⟩ | refine Ar.i64 (by omega) ?_ | refine Ar.u8 (by omega) ?_ | refine Quo.pos (by omega) ?_ | refine Rem.pos (by omega) ?_ | refine Ob.mk ⟨rfl, rfl⟩ ?_ | refine Ob.mk (flat_i _ _).1 ?_ | refine Ob.mk (flat_i _ _) ?_ | refine Ob.mk (flat_s _) ?_ | refine Ob.mk (by first | omega | (simp; first | done | fail) | (simp; omega)) ?_ | fail
  all_goals first | rfl | (conv => whnf; trace_state)

theorem scene_dot {seed t wide high : Int} {x y : Nat} (h : sceneOk seed t wide high) (hx : (x : Int) < wide) (hy : (y : Int) < high) :
    picOk (sceneOf seed t wide high) ∧ (((rb (sceneOf seed t wide high).dots (y * wide.toNat + x)).toNat : Nat) : Int) = dot seed t x y ∧ 0 ≤ dot seed t x y := by
  have hs : sceneOf seed t wide high = ⟨wide, high, sceneDots seed t wide high⟩ := by rw [sceneOf, if_pos h]
  obtain ⟨h1, h2, h3, h4⟩ := h
  have m := wh_fit wide high
  have hd := dot_fit seed t x y
  have hd2 : 0 ≤ dot seed t x y ∧ dot seed t x y ≤ 255 := by omega
  rw [hs]
  refine ⟨⟨h3, h4, ?_⟩, ?_, hd2.1⟩
  · show ((sceneDots seed t wide high).length : Int) = wide * high
    simp only [sceneDots, List.length_map, List.length_range]
    omega
  · show (((rb (sceneDots seed t wide high) (y * wide.toNat + x)).toNat : Nat) : Int) = dot seed t x y
    obtain ⟨w, rfl⟩ := Int.eq_ofNat_of_zero_le (show 0 ≤ wide by omega)
    obtain ⟨k, rfl⟩ := Int.eq_ofNat_of_zero_le (show 0 ≤ high by omega)
    have h5 : y * w + x < w * k := by
      have : (y + 1) * w ≤ k * w := Nat.mul_le_mul_right w (by omega)
      rw [Nat.add_mul] at this
      rw [Nat.mul_comm w k]
      omega
    have hr := row_at (y := y) (x := x) (w := w) (by omega)
    have : rb (sceneDots seed t (w : Int) (k : Int)) (y * (w : Int).toNat + x) = UInt8.ofNat (dot seed t x y).toNat := by
      rw [Int.toNat_natCast]
      simp only [rb, sceneDots]
      rw [List.getD_eq_getElem?_getD, List.getElem?_map, List.getElem?_range (by rw [← Int.natCast_mul, Int.toNat_natCast]; exact h5)]
      simp only [Option.map_some, Option.getD_some]
      rw [hr.1, hr.2]
    rw [this, UInt8.toNat_ofNat']
    omega
end Go.Proofs.Ytffphhklnbfedaa
