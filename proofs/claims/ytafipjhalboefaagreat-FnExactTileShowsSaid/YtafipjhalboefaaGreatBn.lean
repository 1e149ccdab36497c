/- The places of tiles, and what a picture's size is. No condition. -/
import Derived.Test.YtafipjhalboefaaGreatTe
namespace Go.Vx
theorem Rem.nat {a b : Nat} {κ : Int → Prop} (h : 0 < b) (g : κ ((a % b : Nat) : Int)) : Rem (a : Int) (b : Int) κ := .pos (by omega) (by rw [← Int.natCast_emod]; exact g)
theorem Quo.nat {a b : Nat} {κ : Int → Prop} (h : 0 < b ∧ a ≤ 9000000000000000000) (g : κ ((a / b : Nat) : Int)) : Quo .i64 (a : Int) (b : Int) κ := .pos (by omega) (by rw [← Int.natCast_ediv]; exact g)
end Go.Vx
namespace Go.Proofs.YtafipjhalboefaaGreat
open Go Go.Vx
set_option linter.unusedVariables false
set_option linter.unusedSimpArgs false
set_option maxHeartbeats 600000
set_option maxRecDepth 100000

theorem sumI_take (l : List Int) (n : Nat) : ∀ i, i ≤ n → sumI (l.take n) i = sumI l i
  | 0, _ => rfl
  | i + 1, h => by
    show sumI (l.take n) i + rd (l.take n) i = sumI l i + rd l i
    rw [sumI_take l n i (by omega)]
    congr 1
    simp [rd, List.getD_eq_getElem?_getD, List.getElem?_take, show i < n by omega]
theorem sumOf_any (l : List Int) (h : ∀ j, j < l.length → 1 ≤ rd l j ∧ rd l j ≤ 8) (h4 : l.length ≤ 4) : Vow Tryz.prog 103 [iS l] (.i .i64 (sumI l l.length)) [] := by
  refine vow_of_ev (fn := Tryz.f103) [] [(0, 0), (0, 0), (0, 0), (0, 0), (10, 12), (12, 15), (15, 16), (16, 17)] tt_ok Tryz.func103 (by decide) rfl (Nat.le_of_ble_eq_true rfl) rfl rfl rfl ?_
  have hl : (l.map (V.i .i64)).length = l.length := by simp
  repeat' (conv => whnf); first | refine Br.tt ?_ | refine Br.ff ?_ | refine Br.not ?_ | refine Br.dand (fun _ => ?_) (fun _ => ?_) | refine Br.dec (fun _ => ?_) (fun _ => ?_) | refine Br.beq (fun _ => ?_) (fun _ => ?_) | refine Br.bne (fun _ => ?_) (fun _ => ?_) | refine Br.seq (fun _ => ?_) (fun _ => ?_) | refine Elt.i (by omega) ?_ | refine EltN.i (by omega) ?_ | refine Nt.cast ?_ | refine Nt.mk _ rfl ?_ | refine EltN.mk _ rfl ?_ | refine Mx.mk _ rfl ?_ | refine Br.mk (fun _ => ?_) (fun _ => ?_) | refine EndP.mk ?_ trivial | refine EndP.mk ?_ ⟨.inr ⟨List.mem_cons_self .., ?_, rfl⟩, trivial⟩ | refine Ar.i64 (by omega) ?_ | refine Ar.u8 (by omega) ?_ | refine Quo.pos (by omega) ?_ | refine Rem.pos (by omega) ?_ | refine BsP.own ?_ | refine SetN.two ?_ | refine SetN.one ?_ | refine Ob.mk ⟨rfl, rfl⟩ ?_ | refine Ob.mk (flat_i _ _).1 ?_ | refine Ob.mk (flat_i _ _) ?_ | refine Ob.mk (flat_s _) ?_ | refine Ob.mk (by first | omega | (simp; first | done | fail) | (simp; omega)) ?_ | fail
  · conv => whnf
    refine LoopP.mk [0,2,3,6,7,8] (fun i : Nat => [(0, iS l), (2, .i .i64 0), (3, .i .i64 (sumI l i)), (6, iS l), (7, .i .i64 l.length), (8, .i .i64 i)]) (fun i => l.length - i) (fun i => i ≤ l.length) ?_ ?_
    · conv => whnf
      exact ⟨0, by omega, by rw [hl]; rfl⟩
    · intro i hi
      have hs := sumI_fit i (fun j hj => h j (by omega))
      have hs2 : i < l.length → 1 ≤ rd l i ∧ rd l i ≤ 8 := h i
      repeat' (conv => whnf); first | refine Br.tt ?_ | refine Br.ff ?_ | refine Br.not ?_ | refine Br.dand (fun _ => ?_) (fun _ => ?_) | refine Br.dec (fun _ => ?_) (fun _ => ?_) | refine Br.beq (fun _ => ?_) (fun _ => ?_) | refine Br.bne (fun _ => ?_) (fun _ => ?_) | refine Br.seq (fun _ => ?_) (fun _ => ?_) | refine Elt.i (by omega) ?_ | refine EltN.i (by omega) ?_ | refine Nt.cast ?_ | refine Nt.mk _ rfl ?_ | refine EltN.mk _ rfl ?_ | refine Mx.mk _ rfl ?_ | refine Br.mk (fun _ => ?_) (fun _ => ?_) | refine EndP.mk ?_ trivial | refine EndP.mk ?_ ⟨.inr ⟨List.mem_cons_self .., ?_, rfl⟩, trivial⟩ | refine Ar.i64 (by omega) ?_ | refine Ar.u8 (by omega) ?_ | refine Quo.pos (by omega) ?_ | refine Rem.pos (by omega) ?_ | refine BsP.own ?_ | refine SetN.two ?_ | refine SetN.one ?_ | refine Ob.mk ⟨rfl, rfl⟩ ?_ | refine Ob.mk (flat_i _ _).1 ?_ | refine Ob.mk (flat_i _ _) ?_ | refine Ob.mk (flat_s _) ?_ | refine Ob.mk (by first | omega | (simp; first | done | fail) | (simp; omega)) ?_ | fail
      · conv => whnf
        exact ⟨i + 1, by omega, by omega, rfl⟩
      · obtain rfl : i = l.length := by omega
        rfl
theorem sumOf_take (l : List Int) (i : Nat) (h : sidesOk l) (hi : i ≤ l.length) : Vow Tryz.prog 103 [.sl ((l.map (V.i .i64)).take i)] (.i .i64 (sumI l i)) [] := by
  have e : (l.take i).length = i := by simp; omega
  have := sumOf_any (l.take i) (fun j hj => by
    have h1 := h.2 j (by omega)
    rw [e] at hj
    have : rd (l.take i) j = rd l j := by simp [rd, List.getD_eq_getElem?_getD, List.getElem?_take, hj]
    rw [this]; exact h1) (by have := h.1; omega)
  rw [e, sumI_take l i i (Nat.le_refl _)] at this
  rw [← List.map_take]
  exact this
theorem before_spec (l : List Int) (i : Nat) (h : sidesOk l) (hi : i ≤ l.length) : Vow Tryz.prog 92 [iS l, .i .i64 i] (.i .i64 (sumI l i)) [] := by
  refine vow_of_ev (fn := Tryz.f92) [] [(0, 0), (0, 0), (0, 0), (7, 9), (10, 12), (12, 18), (18, 19)] tt_ok Tryz.func92 (by decide) rfl (Nat.le_of_ble_eq_true rfl) rfl rfl rfl ?_
  have h4 := h.1
  repeat' (conv => whnf); first | refine Br.tt ?_ | refine Br.ff ?_ | refine Br.not ?_ | refine Br.dand (fun _ => ?_) (fun _ => ?_) | refine Br.dec (fun _ => ?_) (fun _ => ?_) | refine Br.beq (fun _ => ?_) (fun _ => ?_) | refine Br.bne (fun _ => ?_) (fun _ => ?_) | refine Br.seq (fun _ => ?_) (fun _ => ?_) | refine Elt.i (by omega) ?_ | refine EltN.i (by omega) ?_ | refine Nt.cast ?_ | refine Nt.mk _ rfl ?_ | refine EltN.mk _ rfl ?_ | refine Mx.mk _ rfl ?_ | refine Br.mk (fun _ => ?_) (fun _ => ?_) | refine EndP.mk ?_ trivial | refine EndP.mk ?_ ⟨.inr ⟨List.mem_cons_self .., ?_, rfl⟩, trivial⟩ | refine Ar.i64 (by omega) ?_ | refine Ar.u8 (by omega) ?_ | refine Quo.pos (by omega) ?_ | refine Rem.pos (by omega) ?_ | refine BsP.own ?_ | refine SetN.two ?_ | refine SetN.one ?_ | refine Ob.mk ⟨rfl, rfl⟩ ?_ | refine Ob.mk (flat_i _ _).1 ?_ | refine Ob.mk (flat_i _ _) ?_ | refine Ob.mk (flat_s _) ?_ | refine Ob.mk (by first | omega | (simp; first | done | fail) | (simp; omega)) ?_ | fail
  conv => whnf
  refine LoopP.mk [0,1,4,5,6] (fun j : Nat => [(0, iS l), (1, .i .i64 i), (4, .i .i64 0), (5, .i .i64 (sumI l j)), (6, .i .i64 j)]) (fun j => i - j) (fun j => j ≤ i) ?_ ?_
  · conv => whnf
    exact ⟨0, by omega, rfl⟩
  · intro j hj
    have hs := sumI_fit j (fun k hk => h.2 k (by omega))
    by_cases hlt : j < i
    · have hs2 := h.2 j (by omega)
      repeat' (conv => whnf); first | refine Br.tt ?_ | refine Br.ff ?_ | refine Br.not ?_ | refine Br.dand (fun _ => ?_) (fun _ => ?_) | refine Br.dec (fun _ => ?_) (fun _ => ?_) | refine Br.beq (fun _ => ?_) (fun _ => ?_) | refine Br.bne (fun _ => ?_) (fun _ => ?_) | refine Br.seq (fun _ => ?_) (fun _ => ?_) | refine Elt.i (by omega) ?_ | refine EltN.i (by omega) ?_ | refine Nt.cast ?_ | refine Nt.mk _ rfl ?_ | refine EltN.mk _ rfl ?_ | refine Mx.mk _ rfl ?_ | refine Br.mk (fun _ => ?_) (fun _ => ?_) | refine EndP.mk ?_ trivial | refine EndP.mk ?_ ⟨.inr ⟨List.mem_cons_self .., ?_, rfl⟩, trivial⟩ | refine Ar.i64 (by omega) ?_ | refine Ar.u8 (by omega) ?_ | refine Quo.pos (by omega) ?_ | refine Rem.pos (by omega) ?_ | refine BsP.own ?_ | refine SetN.two ?_ | refine SetN.one ?_ | refine Ob.mk ⟨rfl, rfl⟩ ?_ | refine Ob.mk (flat_i _ _).1 ?_ | refine Ob.mk (flat_i _ _) ?_ | refine Ob.mk (flat_s _) ?_ | refine Ob.mk (by first | omega | (simp; first | done | fail) | (simp; omega)) ?_ | fail
      all_goals first
        | (exfalso; omega)
        | (conv => whnf
           exact ⟨j + 1, by omega, by omega, rfl⟩)
    · obtain rfl : j = i := by omega
      repeat' (conv => whnf); first | refine Br.tt ?_ | refine Br.ff ?_ | refine Br.not ?_ | refine Br.dand (fun _ => ?_) (fun _ => ?_) | refine Br.dec (fun _ => ?_) (fun _ => ?_) | refine Br.beq (fun _ => ?_) (fun _ => ?_) | refine Br.bne (fun _ => ?_) (fun _ => ?_) | refine Br.seq (fun _ => ?_) (fun _ => ?_) | refine Elt.i (by omega) ?_ | refine EltN.i (by omega) ?_ | refine Nt.cast ?_ | refine Nt.mk _ rfl ?_ | refine EltN.mk _ rfl ?_ | refine Mx.mk _ rfl ?_ | refine Br.mk (fun _ => ?_) (fun _ => ?_) | refine EndP.mk ?_ trivial | refine EndP.mk ?_ ⟨.inr ⟨List.mem_cons_self .., ?_, rfl⟩, trivial⟩ | refine Ar.i64 (by omega) ?_ | refine Ar.u8 (by omega) ?_ | refine Quo.pos (by omega) ?_ | refine Rem.pos (by omega) ?_ | refine BsP.own ?_ | refine SetN.two ?_ | refine SetN.one ?_ | refine Ob.mk ⟨rfl, rfl⟩ ?_ | refine Ob.mk (flat_i _ _).1 ?_ | refine Ob.mk (flat_i _ _) ?_ | refine Ob.mk (flat_s _) ?_ | refine Ob.mk (by first | omega | (simp; first | done | fail) | (simp; omega)) ?_ | fail
      all_goals first
        | (exfalso; omega)
        | rfl

structure Rect4 where
  left : Int
  top : Int
  wide : Int
  high : Int
def rectV (a : Rect4) : V := .ag [.i .i64 a.left, .i .i64 a.top, .i .i64 a.wide, .i .i64 a.high]
def tileIn (lvl bits : Int) (c r : List Int) (t : Int) : Prop := 0 ≤ t ∧ t < tilesOf lvl bits c r
instance (lvl bits : Int) (c r : List Int) (t : Int) : Decidable (tileIn lvl bits c r t) := by unfold tileIn; infer_instance
def tRect (c r : List Int) (t : Nat) : Rect4 := ⟨8 * sumI c (t % c.length), 8 * sumI r (t / c.length), 8 * rd c (t % c.length), 8 * rd r (t / c.length)⟩
def tileR (lvl bits : Int) (c r : List Int) (t : Int) : Rect4 := if tileIn lvl bits c r t then tRect c r t.toNat else ⟨0, 0, 0, 0⟩
theorem tile_fit {lvl bits : Int} {c r : List Int} {t : Nat} (h : tileIn lvl bits c r t) : (sidesOk c ∧ sidesOk r) ∧ t % c.length < c.length ∧ t / c.length < r.length ∧ t < 16 := by
  unfold tileIn tilesOf at h
  split at h
  · rename_i hs
    have hk := (seqOk_sides hs).1
    have h1 := hk.1.1
    have h2 := hk.2.1
    have h3 : t < c.length * r.length := by
      have := h.2
      rw [← Int.natCast_mul] at this
      omega
    refine ⟨hk, Nat.mod_lt _ (by omega), Nat.div_lt_of_lt_mul h3, ?_⟩
    have : c.length * r.length ≤ 4 * 4 := Nat.mul_le_mul h1.2 h2.2
    omega
  · omega
theorem tileRect_impl (lvl bits : Int) (c r : List Int) (t : Int) : Vow Tryz.prog 48 [seqV lvl bits c r, .i .i64 t] (.tp [rectV (tileR lvl bits c r t), .b (decide (tileIn lvl bits c r t))]) [] := by
  have w := within_vow t 0 (tilesOf lvl bits c r - 1)
  have t1 := tilesOf_impl lvl bits c r
  have hb : 0 ≤ tilesOf lvl bits c r ∧ tilesOf lvl bits c r ≤ 16 := by
    unfold tilesOf
    split
    · rename_i hs
      have m := tiles_fit (seqOk_sides hs).1
      rw [List.length_map, List.length_map] at m
      exact m
    · omega
  have hti : tileIn lvl bits c r t ↔ 0 ≤ t ∧ t < tilesOf lvl bits c r := Iff.rfl
  have l1 : (c.map (V.i .i64)).length = c.length := by simp
  refine vow_of_ev (fn := Tryz.f48) [] [(0, 0), (8, 13), (14, 15), (15, 25), (25, 50)] tt_ok Tryz.func48 (by decide) rfl (Nat.le_of_ble_eq_true rfl) rfl rfl rfl ?_
  by_cases h : tileIn lvl bits c r t
  · obtain ⟨n, rfl⟩ : ∃ n : Nat, t = n := ⟨t.toNat, by have := h.1; omega⟩
    obtain ⟨⟨k1, k2⟩, k3, k4, k5⟩ := tile_fit h
    have s1 := sumOf_take c (n % c.length) k1 (by omega)
    have s2 := sumOf_take r (n / c.length) k2 (by omega)
    rw [← l1] at s1 s2 k3 k4
    have e1 := sumI_fit (l := c) (n % (c.map (V.i .i64)).length) (fun j hj => k1.2 j (by omega))
    have e2 := sumI_fit (l := r) (n / (c.map (V.i .i64)).length) (fun j hj => k2.2 j (by omega))
    have e3 := k1.2 _ (show n % (c.map (V.i .i64)).length < c.length by omega)
    have e4 := k2.2 _ k4
    have l2 : (r.map (V.i .i64)).length = r.length := by simp
    have hres : tileR lvl bits c r (n : Int) = tRect c r n := by rw [tileR, if_pos h, Int.toNat_natCast]
    rw [hres, decide_eq_true h]
    have hcpos : 0 < (c.map (V.i .i64)).length := by have := k1.1; omega
    have hc4 := k1.1
    have hr4 := k2.1
    have hin := hti.1 h
    repeat' (conv => whnf); first | refine CallP.rd (t1) rfl rfl rfl rfl ?_ | refine DCall.rd (t1) rfl rfl ?_ | refine CallP.rd (w) rfl rfl rfl rfl ?_ | refine DCall.rd (w) rfl rfl ?_ | refine Rem.nat hcpos ?_ | refine Quo.nat ⟨hcpos, by omega⟩ ?_ | refine Cut.to (by omega) ?_ | refine CallP.rd (s1) rfl rfl rfl rfl ?_ | refine DCall.rd (s1) rfl rfl ?_ | refine CallP.rd (s2) rfl rfl rfl rfl ?_ | refine DCall.rd (s2) rfl rfl ?_ | refine Elt.i (by omega) ?_ | refine EltN.i (by omega) ?_ | refine Br.tt ?_ | refine Br.ff ?_ | refine Br.not ?_ | refine Br.dand (fun _ => ?_) (fun _ => ?_) | refine Br.dec (fun _ => ?_) (fun _ => ?_) | refine Br.beq (fun _ => ?_) (fun _ => ?_) | refine Br.bne (fun _ => ?_) (fun _ => ?_) | refine Br.seq (fun _ => ?_) (fun _ => ?_) | refine Elt.i (by omega) ?_ | refine EltN.i (by omega) ?_ | refine Nt.cast ?_ | refine Nt.mk _ rfl ?_ | refine EltN.mk _ rfl ?_ | refine Mx.mk _ rfl ?_ | refine Br.mk (fun _ => ?_) (fun _ => ?_) | refine EndP.mk ?_ trivial | refine EndP.mk ?_ ⟨.inr ⟨List.mem_cons_self .., ?_, rfl⟩, trivial⟩ | refine Ar.i64 (by omega) ?_ | refine Ar.u8 (by omega) ?_ | refine Quo.pos (by omega) ?_ | refine Rem.pos (by omega) ?_ | refine BsP.own ?_ | refine SetN.two ?_ | refine SetN.one ?_ | refine Ob.mk ⟨rfl, rfl⟩ ?_ | refine Ob.mk (flat_i _ _).1 ?_ | refine Ob.mk (flat_i _ _) ?_ | refine Ob.mk (flat_s _) ?_ | refine Ob.mk (by first | omega | (simp; first | done | fail) | (simp; omega)) ?_ | fail
    all_goals first
      | (exfalso; omega)
      | (rw [tRect, ← l1]; rfl)
  · have hres : tileR lvl bits c r t = ⟨0, 0, 0, 0⟩ := by rw [tileR, if_neg h]
    rw [hres, decide_eq_false h]
    rw [hti] at h
    repeat' (conv => whnf); first | refine CallP.rd (t1) rfl rfl rfl rfl ?_ | refine DCall.rd (t1) rfl rfl ?_ | refine CallP.rd (w) rfl rfl rfl rfl ?_ | refine DCall.rd (w) rfl rfl ?_ | refine Br.tt ?_ | refine Br.ff ?_ | refine Br.not ?_ | refine Br.dand (fun _ => ?_) (fun _ => ?_) | refine Br.dec (fun _ => ?_) (fun _ => ?_) | refine Br.beq (fun _ => ?_) (fun _ => ?_) | refine Br.bne (fun _ => ?_) (fun _ => ?_) | refine Br.seq (fun _ => ?_) (fun _ => ?_) | refine Elt.i (by omega) ?_ | refine EltN.i (by omega) ?_ | refine Nt.cast ?_ | refine Nt.mk _ rfl ?_ | refine EltN.mk _ rfl ?_ | refine Mx.mk _ rfl ?_ | refine Br.mk (fun _ => ?_) (fun _ => ?_) | refine EndP.mk ?_ trivial | refine EndP.mk ?_ ⟨.inr ⟨List.mem_cons_self .., ?_, rfl⟩, trivial⟩ | refine Ar.i64 (by omega) ?_ | refine Ar.u8 (by omega) ?_ | refine Quo.pos (by omega) ?_ | refine Rem.pos (by omega) ?_ | refine BsP.own ?_ | refine SetN.two ?_ | refine SetN.one ?_ | refine Ob.mk ⟨rfl, rfl⟩ ?_ | refine Ob.mk (flat_i _ _).1 ?_ | refine Ob.mk (flat_i _ _) ?_ | refine Ob.mk (flat_s _) ?_ | refine Ob.mk (by first | omega | (simp; first | done | fail) | (simp; omega)) ?_ | fail
    all_goals first
      | (exfalso; omega)
      | rfl
theorem tileRect_spec (lvl bits : Int) (c r : List Int) (t : Int) : Vow Tryz.prog 37 [seqV lvl bits c r, .i .i64 t] (.tp [rectV (tileR lvl bits c r t), .b (decide (tileIn lvl bits c r t))]) [] := by
  have t1 := tilesOf_spec lvl bits c r
  have hb : 0 ≤ tilesOf lvl bits c r ∧ tilesOf lvl bits c r ≤ 16 := by
    unfold tilesOf
    split
    · rename_i hs
      have m := tiles_fit (seqOk_sides hs).1
      rw [List.length_map, List.length_map] at m
      exact m
    · omega
  have hti : tileIn lvl bits c r t ↔ 0 ≤ t ∧ t < tilesOf lvl bits c r := Iff.rfl
  have l1 : (c.map (V.i .i64)).length = c.length := by simp
  refine vow_of_ev (fn := Tryz.f37) [] [(0, 0), (8, 15), (16, 17), (17, 22), (22, 27), (27, 50)] tt_ok Tryz.func37 (by decide) rfl (Nat.le_of_ble_eq_true rfl) rfl rfl rfl ?_
  by_cases h : tileIn lvl bits c r t
  · obtain ⟨n, rfl⟩ : ∃ n : Nat, t = n := ⟨t.toNat, by have := h.1; omega⟩
    obtain ⟨⟨k1, k2⟩, k3, k4, k5⟩ := tile_fit h
    have s1 := before_spec c (n % c.length) k1 (by omega)
    have s2 := before_spec r (n / c.length) k2 (by omega)
    rw [← l1] at s1 s2 k3 k4
    have e1 := sumI_fit (l := c) (n % (c.map (V.i .i64)).length) (fun j hj => k1.2 j (by omega))
    have e2 := sumI_fit (l := r) (n / (c.map (V.i .i64)).length) (fun j hj => k2.2 j (by omega))
    have e3 := k1.2 _ (show n % (c.map (V.i .i64)).length < c.length by omega)
    have e4 := k2.2 _ k4
    have l2 : (r.map (V.i .i64)).length = r.length := by simp
    have hres : tileR lvl bits c r (n : Int) = tRect c r n := by rw [tileR, if_pos h, Int.toNat_natCast]
    rw [hres, decide_eq_true h]
    have hcpos : 0 < (c.map (V.i .i64)).length := by have := k1.1; omega
    have hc4 := k1.1
    have hr4 := k2.1
    have hin := hti.1 h
    repeat' (conv => whnf); first | refine CallP.rd (t1) rfl rfl rfl rfl ?_ | refine DCall.rd (t1) rfl rfl ?_ | refine Rem.nat hcpos ?_ | refine Quo.nat ⟨hcpos, by omega⟩ ?_ | refine CallP.rd (s1) rfl rfl rfl rfl ?_ | refine DCall.rd (s1) rfl rfl ?_ | refine CallP.rd (s2) rfl rfl rfl rfl ?_ | refine DCall.rd (s2) rfl rfl ?_ | refine Elt.i (by omega) ?_ | refine EltN.i (by omega) ?_ | refine Br.tt ?_ | refine Br.ff ?_ | refine Br.not ?_ | refine Br.dand (fun _ => ?_) (fun _ => ?_) | refine Br.dec (fun _ => ?_) (fun _ => ?_) | refine Br.beq (fun _ => ?_) (fun _ => ?_) | refine Br.bne (fun _ => ?_) (fun _ => ?_) | refine Br.seq (fun _ => ?_) (fun _ => ?_) | refine Elt.i (by omega) ?_ | refine EltN.i (by omega) ?_ | refine Nt.cast ?_ | refine Nt.mk _ rfl ?_ | refine EltN.mk _ rfl ?_ | refine Mx.mk _ rfl ?_ | refine Br.mk (fun _ => ?_) (fun _ => ?_) | refine EndP.mk ?_ trivial | refine EndP.mk ?_ ⟨.inr ⟨List.mem_cons_self .., ?_, rfl⟩, trivial⟩ | refine Ar.i64 (by omega) ?_ | refine Ar.u8 (by omega) ?_ | refine Quo.pos (by omega) ?_ | refine Rem.pos (by omega) ?_ | refine BsP.own ?_ | refine SetN.two ?_ | refine SetN.one ?_ | refine Ob.mk ⟨rfl, rfl⟩ ?_ | refine Ob.mk (flat_i _ _).1 ?_ | refine Ob.mk (flat_i _ _) ?_ | refine Ob.mk (flat_s _) ?_ | refine Ob.mk (by first | omega | (simp; first | done | fail) | (simp; omega)) ?_ | fail
    all_goals first
      | (exfalso; omega)
      | (rw [tRect, ← l1]; rfl)
  · have hres : tileR lvl bits c r t = ⟨0, 0, 0, 0⟩ := by rw [tileR, if_neg h]
    rw [hres, decide_eq_false h]
    rw [hti] at h
    repeat' (conv => whnf); first | refine CallP.rd (t1) rfl rfl rfl rfl ?_ | refine DCall.rd (t1) rfl rfl ?_ | refine Br.tt ?_ | refine Br.ff ?_ | refine Br.not ?_ | refine Br.dand (fun _ => ?_) (fun _ => ?_) | refine Br.dec (fun _ => ?_) (fun _ => ?_) | refine Br.beq (fun _ => ?_) (fun _ => ?_) | refine Br.bne (fun _ => ?_) (fun _ => ?_) | refine Br.seq (fun _ => ?_) (fun _ => ?_) | refine Elt.i (by omega) ?_ | refine EltN.i (by omega) ?_ | refine Nt.cast ?_ | refine Nt.mk _ rfl ?_ | refine EltN.mk _ rfl ?_ | refine Mx.mk _ rfl ?_ | refine Br.mk (fun _ => ?_) (fun _ => ?_) | refine EndP.mk ?_ trivial | refine EndP.mk ?_ ⟨.inr ⟨List.mem_cons_self .., ?_, rfl⟩, trivial⟩ | refine Ar.i64 (by omega) ?_ | refine Ar.u8 (by omega) ?_ | refine Quo.pos (by omega) ?_ | refine Rem.pos (by omega) ?_ | refine BsP.own ?_ | refine SetN.two ?_ | refine SetN.one ?_ | refine Ob.mk ⟨rfl, rfl⟩ ?_ | refine Ob.mk (flat_i _ _).1 ?_ | refine Ob.mk (flat_i _ _) ?_ | refine Ob.mk (flat_s _) ?_ | refine Ob.mk (by first | omega | (simp; first | done | fail) | (simp; omega)) ?_ | fail
    all_goals first
      | (exfalso; omega)
      | rfl
end Go.Proofs.YtafipjhalboefaaGreat
