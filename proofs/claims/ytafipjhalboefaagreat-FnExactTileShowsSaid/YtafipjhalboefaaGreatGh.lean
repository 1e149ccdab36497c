/- Pictures that are right, cut and grey: both sides. No condition. -/
import Derived.Test.YtafipjhalboefaaGreatTb
import Derived.Test.YtafipjhalboefaaGreatBa
import Derived.Test.YtafipjhalboefaaGreatBn
import Derived.Test.YtafipjhalboefaaGreatTl
import Derived.Test.YtafipjhalboefaaGreatSn
namespace Go.Vx
theorem Cut.eq {n : Nat} (a b : Nat) {x y : Int} {k : IntKind} {κ : Nat → Nat → Prop} (hx : x = (a : Int)) (hy : y = (b : Int)) (h : a ≤ b ∧ b ≤ n) (g : κ a b) : Cut n (some (.i k x)) (some (.i k y)) κ := by
  subst hx; subst hy; exact Cut.mid h g
end Go.Vx
namespace Go.Proofs.YtafipjhalboefaaGreat
open Go Go.Vx
set_option linter.unusedVariables false
set_option linter.unusedSimpArgs false
set_option maxHeartbeats 600000
set_option maxRecDepth 100000

theorem picOk_impl (p : Pic) : Vow Tryz.prog 104 [picV p] (.b (decide (picOk p))) [] := by
  have m := wh_fit p.wide p.high
  have hiff : picOk p ↔ (1 ≤ p.wide ∧ p.wide ≤ 256) ∧ (1 ≤ p.high ∧ p.high ≤ 256) ∧ (p.dots.length : Int) = p.wide * p.high := Iff.rfl
  refine vow_of_ev (fn := Tryz.f104) [] [(0, 0), (3, 22)] tt_ok Tryz.func104 (by decide) rfl (Nat.le_of_ble_eq_true rfl) rfl rfl rfl ?_
  repeat' (conv => whnf); first | refine CallP.rd (within_vow _ _ _) rfl rfl rfl rfl ?_ | refine DCall.rd (within_vow _ _ _) rfl rfl ?_ | refine Br.tt ?_ | refine Br.ff ?_ | refine Br.not ?_ | refine Br.dand (fun _ => ?_) (fun _ => ?_) | refine Br.dec (fun _ => ?_) (fun _ => ?_) | refine Br.beq (fun _ => ?_) (fun _ => ?_) | refine Br.bne (fun _ => ?_) (fun _ => ?_) | refine Br.seq (fun _ => ?_) (fun _ => ?_) | refine Elt.i (by omega) ?_ | refine EltN.i (by omega) ?_ | refine Nt.cast ?_ | refine Nt.mk _ rfl ?_ | refine EltN.mk _ rfl ?_ | refine Mx.mk _ rfl ?_ | refine Br.mk (fun _ => ?_) (fun _ => ?_) | refine EndP.mk ?_ trivial | refine EndP.mk ?_ ⟨.inr ⟨List.mem_cons_self .., ?_, rfl⟩, trivial⟩ | refine Ar.i64 (by omega) ?_ | refine Ar.u8 (by omega) ?_ | refine Quo.pos (by omega) ?_ | refine Rem.pos (by omega) ?_ | refine BsP.own ?_ | refine SetN.two ?_ | refine SetN.one ?_ | refine Ob.mk ⟨rfl, rfl⟩ ?_ | refine Ob.mk (flat_i _ _).1 ?_ | refine Ob.mk (flat_i _ _) ?_ | refine Ob.mk (flat_s _) ?_ | refine Ob.mk (by first | omega | (simp; first | done | fail) | (simp; omega)) ?_ | fail
  all_goals first
    | (exfalso; omega)
    | (rw [decide_eq_true (hiff.2 (by omega))]; rfl)
    | (rw [decide_eq_false (fun k => by have := hiff.1 k; omega)]; rfl)
    | (refine congrArg V.b ?_; rw [Bool.eq_iff_iff]; simp only [Bool.and_eq_true, decide_eq_true_eq, beq_iff_eq]; rw [hiff]; omega)
theorem picOk_spec (p : Pic) : Vow Tryz.prog 119 [picV p] (.b (decide (picOk p))) [] := by
  have m := wh_fit p.wide p.high
  have hiff : picOk p ↔ (1 ≤ p.wide ∧ p.wide ≤ 256) ∧ (1 ≤ p.high ∧ p.high ≤ 256) ∧ (p.dots.length : Int) = p.wide * p.high := Iff.rfl
  refine vow_of_ev (fn := Tryz.f119) [] [(0, 0), (3, 22)] tt_ok Tryz.func119 (by decide) rfl (Nat.le_of_ble_eq_true rfl) rfl rfl rfl ?_
  repeat' (conv => whnf); first | refine CallP.rd (l01In_vow _ _ _) rfl rfl rfl rfl ?_ | refine DCall.rd (l01In_vow _ _ _) rfl rfl ?_ | refine Br.tt ?_ | refine Br.ff ?_ | refine Br.not ?_ | refine Br.dand (fun _ => ?_) (fun _ => ?_) | refine Br.dec (fun _ => ?_) (fun _ => ?_) | refine Br.beq (fun _ => ?_) (fun _ => ?_) | refine Br.bne (fun _ => ?_) (fun _ => ?_) | refine Br.seq (fun _ => ?_) (fun _ => ?_) | refine Elt.i (by omega) ?_ | refine EltN.i (by omega) ?_ | refine Nt.cast ?_ | refine Nt.mk _ rfl ?_ | refine EltN.mk _ rfl ?_ | refine Mx.mk _ rfl ?_ | refine Br.mk (fun _ => ?_) (fun _ => ?_) | refine EndP.mk ?_ trivial | refine EndP.mk ?_ ⟨.inr ⟨List.mem_cons_self .., ?_, rfl⟩, trivial⟩ | refine Ar.i64 (by omega) ?_ | refine Ar.u8 (by omega) ?_ | refine Quo.pos (by omega) ?_ | refine Rem.pos (by omega) ?_ | refine BsP.own ?_ | refine SetN.two ?_ | refine SetN.one ?_ | refine Ob.mk ⟨rfl, rfl⟩ ?_ | refine Ob.mk (flat_i _ _).1 ?_ | refine Ob.mk (flat_i _ _) ?_ | refine Ob.mk (flat_s _) ?_ | refine Ob.mk (by first | omega | (simp; first | done | fail) | (simp; omega)) ?_ | fail
  all_goals first
    | (exfalso; omega)
    | (rw [decide_eq_true (hiff.2 (by omega))]; rfl)
    | (rw [decide_eq_false (fun k => by have := hiff.1 k; omega)]; rfl)
    | (refine congrArg V.b ?_; rw [Bool.eq_iff_iff]; simp only [Bool.and_eq_true, decide_eq_true_eq, beq_iff_eq]; rw [hiff]; omega)

def inPic (p : Pic) (r : Rect4) : Prop := (1 ≤ r.wide ∧ r.wide ≤ p.wide) ∧ (1 ≤ r.high ∧ r.high ≤ p.high) ∧ (0 ≤ r.left ∧ r.left ≤ p.wide - r.wide) ∧ (0 ≤ r.top ∧ r.top ≤ p.high - r.high)
instance (p : Pic) (r : Rect4) : Decidable (inPic p r) := by unfold inPic; infer_instance
def cutOk (p : Pic) (r : Rect4) : Prop := picOk p ∧ inPic p r
instance (p : Pic) (r : Rect4) : Decidable (cutOk p r) := by unfold cutOk; infer_instance
theorem holds_vow (p : Pic) (r : Rect4) (h : picOk p) : Vow Tryz.prog 105 [picV p, rectV r] (.b (decide (inPic p r))) [] := by
  have h1 := h.1
  have h2 := h.2.1
  have hiff : inPic p r ↔ (1 ≤ r.wide ∧ r.wide ≤ p.wide) ∧ (1 ≤ r.high ∧ r.high ≤ p.high) ∧ (0 ≤ r.left ∧ r.left ≤ p.wide - r.wide) ∧ (0 ≤ r.top ∧ r.top ≤ p.high - r.high) := Iff.rfl
  refine vow_of_ev (fn := Tryz.f105) [] [(0, 0), (5, 37)] tt_ok Tryz.func105 (by decide) rfl (Nat.le_of_ble_eq_true rfl) rfl rfl rfl ?_
  repeat' (conv => whnf); first | refine CallP.rd (within_vow _ _ _) rfl rfl rfl rfl ?_ | refine DCall.rd (within_vow _ _ _) rfl rfl ?_ | refine Br.tt ?_ | refine Br.ff ?_ | refine Br.not ?_ | refine Br.dand (fun _ => ?_) (fun _ => ?_) | refine Br.dec (fun _ => ?_) (fun _ => ?_) | refine Br.beq (fun _ => ?_) (fun _ => ?_) | refine Br.bne (fun _ => ?_) (fun _ => ?_) | refine Br.seq (fun _ => ?_) (fun _ => ?_) | refine Elt.i (by omega) ?_ | refine EltN.i (by omega) ?_ | refine Nt.cast ?_ | refine Nt.mk _ rfl ?_ | refine EltN.mk _ rfl ?_ | refine Mx.mk _ rfl ?_ | refine Br.mk (fun _ => ?_) (fun _ => ?_) | refine EndP.mk ?_ trivial | refine EndP.mk ?_ ⟨.inr ⟨List.mem_cons_self .., ?_, rfl⟩, trivial⟩ | refine Ar.i64 (by omega) ?_ | refine Ar.u8 (by omega) ?_ | refine Quo.pos (by omega) ?_ | refine Rem.pos (by omega) ?_ | refine BsP.own ?_ | refine SetN.two ?_ | refine SetN.one ?_ | refine Ob.mk ⟨rfl, rfl⟩ ?_ | refine Ob.mk (flat_i _ _).1 ?_ | refine Ob.mk (flat_i _ _) ?_ | refine Ob.mk (flat_s _) ?_ | refine Ob.mk (by first | omega | (simp; first | done | fail) | (simp; omega)) ?_ | fail
  all_goals first
    | (exfalso; omega)
    | (rw [decide_eq_true (hiff.2 (by omega))]; rfl)
    | (rw [decide_eq_false (fun k => by have := hiff.1 k; omega)]; rfl)
    | (refine congrArg V.b ?_; rw [Bool.eq_iff_iff]; simp only [Bool.and_eq_true, decide_eq_true_eq, beq_iff_eq]; rw [hiff]; omega)
theorem l12Within_vow (p : Pic) (r : Rect4) : Vow Tryz.prog 93 [picV p, .i .i64 r.left, .i .i64 r.top, .i .i64 r.wide, .i .i64 r.high] (.b (decide (cutOk p r))) [] := by
  have k := picOk_spec p
  have hiff : inPic p r ↔ (1 ≤ r.wide ∧ r.wide ≤ p.wide) ∧ (1 ≤ r.high ∧ r.high ≤ p.high) ∧ (0 ≤ r.left ∧ r.left ≤ p.wide - r.wide) ∧ (0 ≤ r.top ∧ r.top ≤ p.high - r.high) := Iff.rfl
  by_cases h : picOk p
  · have h1 := h.1
    have h2 := h.2.1
    rw [decide_eq_true h] at k
    rw [show decide (cutOk p r) = decide (inPic p r) by rw [Bool.eq_iff_iff]; simp only [decide_eq_true_eq]; exact ⟨fun x => x.2, fun x => ⟨h, x⟩⟩]
    refine vow_of_ev (fn := Tryz.f93) [] [(0, 0), (11, 41)] tt_ok Tryz.func93 (by decide) rfl (Nat.le_of_ble_eq_true rfl) rfl rfl rfl ?_
    repeat' (conv => whnf); first | refine CallP.rd (k) rfl rfl rfl rfl ?_ | refine DCall.rd (k) rfl rfl ?_ | refine CallP.rd (l01In_vow _ _ _) rfl rfl rfl rfl ?_ | refine DCall.rd (l01In_vow _ _ _) rfl rfl ?_ | refine Br.tt ?_ | refine Br.ff ?_ | refine Br.not ?_ | refine Br.dand (fun _ => ?_) (fun _ => ?_) | refine Br.dec (fun _ => ?_) (fun _ => ?_) | refine Br.beq (fun _ => ?_) (fun _ => ?_) | refine Br.bne (fun _ => ?_) (fun _ => ?_) | refine Br.seq (fun _ => ?_) (fun _ => ?_) | refine Elt.i (by omega) ?_ | refine EltN.i (by omega) ?_ | refine Nt.cast ?_ | refine Nt.mk _ rfl ?_ | refine EltN.mk _ rfl ?_ | refine Mx.mk _ rfl ?_ | refine Br.mk (fun _ => ?_) (fun _ => ?_) | refine EndP.mk ?_ trivial | refine EndP.mk ?_ ⟨.inr ⟨List.mem_cons_self .., ?_, rfl⟩, trivial⟩ | refine Ar.i64 (by omega) ?_ | refine Ar.u8 (by omega) ?_ | refine Quo.pos (by omega) ?_ | refine Rem.pos (by omega) ?_ | refine BsP.own ?_ | refine SetN.two ?_ | refine SetN.one ?_ | refine Ob.mk ⟨rfl, rfl⟩ ?_ | refine Ob.mk (flat_i _ _).1 ?_ | refine Ob.mk (flat_i _ _) ?_ | refine Ob.mk (flat_s _) ?_ | refine Ob.mk (by first | omega | (simp; first | done | fail) | (simp; omega)) ?_ | fail
    all_goals first
      | (exfalso; omega)
      | (rw [decide_eq_true (hiff.2 (by omega))]; rfl)
      | (rw [decide_eq_false (fun k => by have := hiff.1 k; omega)]; rfl)
      | (refine congrArg V.b ?_; rw [Bool.eq_iff_iff]; simp only [Bool.and_eq_true, decide_eq_true_eq, beq_iff_eq]; rw [hiff]; omega)
  · rw [decide_eq_false h] at k
    rw [decide_eq_false (fun x : cutOk p r => h x.1)]
    refine vow_of_ev (fn := Tryz.f93) [] [(0, 0), (11, 41)] tt_ok Tryz.func93 (by decide) rfl (Nat.le_of_ble_eq_true rfl) rfl rfl rfl ?_
    repeat' (conv => whnf); first | refine CallP.rd (k) rfl rfl rfl rfl ?_ | refine DCall.rd (k) rfl rfl ?_ | refine Br.tt ?_ | refine Br.ff ?_ | refine Br.not ?_ | refine Br.dand (fun _ => ?_) (fun _ => ?_) | refine Br.dec (fun _ => ?_) (fun _ => ?_) | refine Br.beq (fun _ => ?_) (fun _ => ?_) | refine Br.bne (fun _ => ?_) (fun _ => ?_) | refine Br.seq (fun _ => ?_) (fun _ => ?_) | refine Elt.i (by omega) ?_ | refine EltN.i (by omega) ?_ | refine Nt.cast ?_ | refine Nt.mk _ rfl ?_ | refine EltN.mk _ rfl ?_ | refine Mx.mk _ rfl ?_ | refine Br.mk (fun _ => ?_) (fun _ => ?_) | refine EndP.mk ?_ trivial | refine EndP.mk ?_ ⟨.inr ⟨List.mem_cons_self .., ?_, rfl⟩, trivial⟩ | refine Ar.i64 (by omega) ?_ | refine Ar.u8 (by omega) ?_ | refine Quo.pos (by omega) ?_ | refine Rem.pos (by omega) ?_ | refine BsP.own ?_ | refine SetN.two ?_ | refine SetN.one ?_ | refine Ob.mk ⟨rfl, rfl⟩ ?_ | refine Ob.mk (flat_i _ _).1 ?_ | refine Ob.mk (flat_i _ _) ?_ | refine Ob.mk (flat_s _) ?_ | refine Ob.mk (by first | omega | (simp; first | done | fail) | (simp; omega)) ?_ | fail
    all_goals rfl

/-- The lines of a cut, from its top. -/
def cutAt (p : Pic) (r : Rect4) (i : Nat) : Nat := (r.top.toNat + i) * p.wide.toNat + r.left.toNat
def cutN (p : Pic) (r : Rect4) : Nat → List UInt8
  | 0 => []
  | i + 1 => cutN p r i ++ (p.dots.drop (cutAt p r i)).take (cutAt p r i + r.wide.toNat - cutAt p r i)
def cutP (p : Pic) (r : Rect4) : Pic := ⟨r.wide, r.high, cutN p r r.high.toNat⟩
theorem cutN_len (p : Pic) (r : Rect4) (h : r.wide ≤ 256) : ∀ i, (cutN p r i).length ≤ 256 * i
  | 0 => by simp [cutN]
  | i + 1 => by
    have := cutN_len p r h i
    simp only [cutN, List.length_append, List.length_take]
    omega
structure CutF (p : Pic) (r : Rect4) : Prop where
  w : r.wide = (r.wide.toNat : Int) ∧ 1 ≤ r.wide ∧ r.wide ≤ 256
  h : r.high = (r.high.toNat : Int) ∧ 1 ≤ r.high ∧ r.high ≤ 256
  t : r.top = (r.top.toNat : Int) ∧ r.top + r.high ≤ 256
  l : r.left = (r.left.toNat : Int) ∧ r.left + r.wide ≤ 256
  pw : p.wide = (p.wide.toNat : Int) ∧ 1 ≤ p.wide ∧ p.wide ≤ 256
  at_ : ∀ i, i < r.high.toNat → cutAt p r i + r.wide.toNat ≤ p.dots.length ∧ ((r.top.toNat + i : Nat) : Int) * p.wide + r.left = (cutAt p r i : Int) ∧ ((r.top.toNat + i : Nat) : Int) * p.wide ≤ 65536 ∧ 0 ≤ ((r.top.toNat + i : Nat) : Int) * p.wide
theorem cut_facts {p : Pic} {r : Rect4} (h : cutOk p r) : CutF p r := by
  obtain ⟨⟨h1, h2, h3⟩, h4, h5, h6, h7⟩ := h
  refine ⟨⟨by omega, by omega, by omega⟩, ⟨by omega, by omega, by omega⟩, ⟨by omega, by omega⟩, ⟨by omega, by omega⟩, ⟨by omega, by omega, by omega⟩, fun i hi => ?_⟩
  obtain ⟨pw, ph, D⟩ := p
  obtain ⟨rl, rt, rv, rh⟩ := r
  dsimp only at *
  obtain ⟨W, rfl⟩ : ∃ W : Nat, pw = W := ⟨pw.toNat, by omega⟩
  obtain ⟨H, rfl⟩ : ∃ H : Nat, ph = H := ⟨ph.toNat, by omega⟩
  obtain ⟨T, rfl⟩ : ∃ T : Nat, rt = T := ⟨rt.toNat, by omega⟩
  obtain ⟨L, rfl⟩ : ∃ L : Nat, rl = L := ⟨rl.toNat, by omega⟩
  obtain ⟨w, rfl⟩ : ∃ w : Nat, rv = w := ⟨rv.toNat, by omega⟩
  obtain ⟨hh, rfl⟩ : ∃ hh : Nat, rh = hh := ⟨rh.toNat, by omega⟩
  simp only [cutAt, Int.toNat_natCast] at hi ⊢
  rw [← Int.natCast_mul] at h3
  have h3' : D.length = W * H := by omega
  have m1 : (T + i) * W + W ≤ W * H := by
    have := Nat.mul_le_mul_right W (show T + i + 1 ≤ H by omega)
    rw [Nat.add_mul, Nat.one_mul, Nat.mul_comm H W] at this
    exact this
  have m2 : W * H ≤ 256 * 256 := Nat.mul_le_mul (by omega) (by omega)
  rw [← Int.natCast_mul]
  refine ⟨by omega, by omega, by omega, by omega⟩
def greyOk (w h : Int) : Prop := (1 ≤ w ∧ w ≤ 256) ∧ 1 ≤ h ∧ h ≤ 256
instance (w h : Int) : Decidable (greyOk w h) := by unfold greyOk; infer_instance
set_option maxHeartbeats 8000000 in
theorem cutOf_impl (p : Pic) (r : Rect4) : Vow Tryz.prog 49 [picV p, rectV r] (if cutOk p r then .tp [picV (cutP p r), .b true] else .tp [.ag [.i .i64 0, .i .i64 0, .s []], .b false]) [] := by
  have k1 := picOk_impl p
  by_cases h : cutOk p r
  · rw [if_pos h]
    have f := cut_facts h
    obtain ⟨f1, f2, f3, f4, f5, f6⟩ := f
    have k2 := holds_vow p r h.1
    rw [decide_eq_true h.1] at k1
    rw [decide_eq_true h.2] at k2
    have m := mul_fit (a := r.wide) (b := r.high) (A := 256) (B := 256) (by omega) (by omega)
    have m0 := Int.mul_pos (show 0 < r.wide by omega) (show 0 < r.high by omega)
    unfold cutP
    refine vow_of_ev (fn := Tryz.f49) [] [(0, 0), (8, 16), (17, 18), (18, 24), (24, 26), (26, 32), (33, 35), (35, 57), (57, 64)] tt_ok Tryz.func49 (by decide) rfl (Nat.le_of_ble_eq_true rfl) rfl rfl rfl ?_
    repeat' (conv => whnf); first | refine CallP.rd (k1) rfl rfl rfl rfl ?_ | refine DCall.rd (k1) rfl rfl ?_ | refine CallP.rd (k2) rfl rfl rfl rfl ?_ | refine DCall.rd (k2) rfl rfl ?_ | refine Br.tt ?_ | refine Br.ff ?_ | refine Br.not ?_ | refine Br.dand (fun _ => ?_) (fun _ => ?_) | refine Br.dec (fun _ => ?_) (fun _ => ?_) | refine Br.beq (fun _ => ?_) (fun _ => ?_) | refine Br.bne (fun _ => ?_) (fun _ => ?_) | refine Br.seq (fun _ => ?_) (fun _ => ?_) | refine Elt.i (by omega) ?_ | refine EltN.i (by omega) ?_ | refine Nt.cast ?_ | refine Nt.mk _ rfl ?_ | refine EltN.mk _ rfl ?_ | refine Mx.mk _ rfl ?_ | refine Br.mk (fun _ => ?_) (fun _ => ?_) | refine EndP.mk ?_ trivial | refine EndP.mk ?_ ⟨.inr ⟨List.mem_cons_self .., ?_, rfl⟩, trivial⟩ | refine Ar.i64 (by omega) ?_ | refine Ar.u8 (by omega) ?_ | refine Quo.pos (by omega) ?_ | refine Rem.pos (by omega) ?_ | refine BsP.own ?_ | refine SetN.two ?_ | refine SetN.one ?_ | refine Ob.mk ⟨rfl, rfl⟩ ?_ | refine Ob.mk (flat_i _ _).1 ?_ | refine Ob.mk (flat_i _ _) ?_ | refine Ob.mk (flat_s _) ?_ | refine Ob.mk (by first | omega | (simp; first | done | fail) | (simp; omega)) ?_ | fail
    all_goals try (exfalso; omega)
    all_goals (conv => whnf)
    refine LoopP.mk [2,3,4,5,6,7] (fun i : Nat => [(2, .bx [.i .i64 p.wide, .i .i64 p.high, .s p.dots]), (3, .bx [.i .i64 r.left, .i .i64 r.top, .i .i64 r.wide, .i .i64 r.high]), (4, .bx [.i .i64 0, .i .i64 0, .s []]), (5, .b false), (6, .ow 1 ((cutN p r i).map byteV)), (7, .i .i64 ((r.top.toNat + i : Nat) : Int))])
      (fun i => r.high.toNat - i) (fun i => i ≤ r.high.toNat) ?_ ?_
    · conv => whnf
      refine ⟨0, by omega, ?_⟩
      rw [show ((r.top.toNat + 0 : Nat) : Int) = r.top by omega]
      all_goals rfl
    · intro i hi
      have hl := cutN_len p r f1.2.2 i
      have hlm : ((cutN p r i).map byteV).length = (cutN p r i).length := by simp
      by_cases hlt : i < r.high.toNat
      · obtain ⟨g1, g2, g3, g4⟩ := f6 i hlt
        have hlen : (((p.dots.drop (cutAt p r i)).take (cutAt p r i + r.wide.toNat - cutAt p r i)).map byteV).length ≤ 256 := by simp; omega
        repeat' (conv => whnf); first | refine Cut.eq (cutAt p r i) (cutAt p r i + r.wide.toNat) (by omega) (by omega) (by omega) ?_ | refine Ob.mk (by simp only [List.length_map] at *; omega) ?_ | refine Br.tt ?_ | refine Br.ff ?_ | refine Br.not ?_ | refine Br.dand (fun _ => ?_) (fun _ => ?_) | refine Br.dec (fun _ => ?_) (fun _ => ?_) | refine Br.beq (fun _ => ?_) (fun _ => ?_) | refine Br.bne (fun _ => ?_) (fun _ => ?_) | refine Br.seq (fun _ => ?_) (fun _ => ?_) | refine Elt.i (by omega) ?_ | refine EltN.i (by omega) ?_ | refine Nt.cast ?_ | refine Nt.mk _ rfl ?_ | refine EltN.mk _ rfl ?_ | refine Mx.mk _ rfl ?_ | refine Br.mk (fun _ => ?_) (fun _ => ?_) | refine EndP.mk ?_ trivial | refine EndP.mk ?_ ⟨.inr ⟨List.mem_cons_self .., ?_, rfl⟩, trivial⟩ | refine Ar.i64 (by omega) ?_ | refine Ar.u8 (by omega) ?_ | refine Quo.pos (by omega) ?_ | refine Rem.pos (by omega) ?_ | refine BsP.own ?_ | refine SetN.two ?_ | refine SetN.one ?_ | refine Ob.mk ⟨rfl, rfl⟩ ?_ | refine Ob.mk (flat_i _ _).1 ?_ | refine Ob.mk (flat_i _ _) ?_ | refine Ob.mk (flat_s _) ?_ | refine Ob.mk (by first | omega | (simp; first | done | fail) | (simp; omega)) ?_ | fail
        all_goals first
          | (exfalso; omega)
          | (conv => whnf
             refine ⟨i + 1, by omega, by omega, ?_⟩
             rw [show ((r.top.toNat + (i + 1) : Nat) : Int) = ((r.top.toNat + i : Nat) : Int) + 1 by omega]
             simp only [cutN, List.map_append]
             all_goals rfl)
      · obtain rfl : i = r.high.toNat := by omega
        repeat' (conv => whnf); first | refine Byt.mk _ (allB_byteV _) ?_ | refine Br.tt ?_ | refine Br.ff ?_ | refine Br.not ?_ | refine Br.dand (fun _ => ?_) (fun _ => ?_) | refine Br.dec (fun _ => ?_) (fun _ => ?_) | refine Br.beq (fun _ => ?_) (fun _ => ?_) | refine Br.bne (fun _ => ?_) (fun _ => ?_) | refine Br.seq (fun _ => ?_) (fun _ => ?_) | refine Elt.i (by omega) ?_ | refine EltN.i (by omega) ?_ | refine Nt.cast ?_ | refine Nt.mk _ rfl ?_ | refine EltN.mk _ rfl ?_ | refine Mx.mk _ rfl ?_ | refine Br.mk (fun _ => ?_) (fun _ => ?_) | refine EndP.mk ?_ trivial | refine EndP.mk ?_ ⟨.inr ⟨List.mem_cons_self .., ?_, rfl⟩, trivial⟩ | refine Ar.i64 (by omega) ?_ | refine Ar.u8 (by omega) ?_ | refine Quo.pos (by omega) ?_ | refine Rem.pos (by omega) ?_ | refine BsP.own ?_ | refine SetN.two ?_ | refine SetN.one ?_ | refine Ob.mk ⟨rfl, rfl⟩ ?_ | refine Ob.mk (flat_i _ _).1 ?_ | refine Ob.mk (flat_i _ _) ?_ | refine Ob.mk (flat_s _) ?_ | refine Ob.mk (by first | omega | (simp; first | done | fail) | (simp; omega)) ?_ | fail
        all_goals first
          | (exfalso; omega)
          | rfl
  · rw [if_neg h]
    by_cases h1 : picOk p
    · have k2 := holds_vow p r h1
      rw [decide_eq_true h1] at k1
      rw [decide_eq_false (fun k => h ⟨h1, k⟩)] at k2
      refine vow_of_ev (fn := Tryz.f49) [] [(0, 0), (8, 16), (17, 18), (18, 24), (24, 26), (26, 32), (33, 35), (35, 57), (57, 64)] tt_ok Tryz.func49 (by decide) rfl (Nat.le_of_ble_eq_true rfl) rfl rfl rfl ?_
      repeat' (conv => whnf); first | refine CallP.rd (k1) rfl rfl rfl rfl ?_ | refine DCall.rd (k1) rfl rfl ?_ | refine CallP.rd (k2) rfl rfl rfl rfl ?_ | refine DCall.rd (k2) rfl rfl ?_ | refine Br.tt ?_ | refine Br.ff ?_ | refine Br.not ?_ | refine Br.dand (fun _ => ?_) (fun _ => ?_) | refine Br.dec (fun _ => ?_) (fun _ => ?_) | refine Br.beq (fun _ => ?_) (fun _ => ?_) | refine Br.bne (fun _ => ?_) (fun _ => ?_) | refine Br.seq (fun _ => ?_) (fun _ => ?_) | refine Elt.i (by omega) ?_ | refine EltN.i (by omega) ?_ | refine Nt.cast ?_ | refine Nt.mk _ rfl ?_ | refine EltN.mk _ rfl ?_ | refine Mx.mk _ rfl ?_ | refine Br.mk (fun _ => ?_) (fun _ => ?_) | refine EndP.mk ?_ trivial | refine EndP.mk ?_ ⟨.inr ⟨List.mem_cons_self .., ?_, rfl⟩, trivial⟩ | refine Ar.i64 (by omega) ?_ | refine Ar.u8 (by omega) ?_ | refine Quo.pos (by omega) ?_ | refine Rem.pos (by omega) ?_ | refine BsP.own ?_ | refine SetN.two ?_ | refine SetN.one ?_ | refine Ob.mk ⟨rfl, rfl⟩ ?_ | refine Ob.mk (flat_i _ _).1 ?_ | refine Ob.mk (flat_i _ _) ?_ | refine Ob.mk (flat_s _) ?_ | refine Ob.mk (by first | omega | (simp; first | done | fail) | (simp; omega)) ?_ | fail
      all_goals rfl
    · rw [decide_eq_false h1] at k1
      refine vow_of_ev (fn := Tryz.f49) [] [(0, 0), (8, 16), (17, 18), (18, 24), (24, 26), (26, 32), (33, 35), (35, 57), (57, 64)] tt_ok Tryz.func49 (by decide) rfl (Nat.le_of_ble_eq_true rfl) rfl rfl rfl ?_
      repeat' (conv => whnf); first | refine CallP.rd (k1) rfl rfl rfl rfl ?_ | refine DCall.rd (k1) rfl rfl ?_ | refine Br.tt ?_ | refine Br.ff ?_ | refine Br.not ?_ | refine Br.dand (fun _ => ?_) (fun _ => ?_) | refine Br.dec (fun _ => ?_) (fun _ => ?_) | refine Br.beq (fun _ => ?_) (fun _ => ?_) | refine Br.bne (fun _ => ?_) (fun _ => ?_) | refine Br.seq (fun _ => ?_) (fun _ => ?_) | refine Elt.i (by omega) ?_ | refine EltN.i (by omega) ?_ | refine Nt.cast ?_ | refine Nt.mk _ rfl ?_ | refine EltN.mk _ rfl ?_ | refine Mx.mk _ rfl ?_ | refine Br.mk (fun _ => ?_) (fun _ => ?_) | refine EndP.mk ?_ trivial | refine EndP.mk ?_ ⟨.inr ⟨List.mem_cons_self .., ?_, rfl⟩, trivial⟩ | refine Ar.i64 (by omega) ?_ | refine Ar.u8 (by omega) ?_ | refine Quo.pos (by omega) ?_ | refine Rem.pos (by omega) ?_ | refine BsP.own ?_ | refine SetN.two ?_ | refine SetN.one ?_ | refine Ob.mk ⟨rfl, rfl⟩ ?_ | refine Ob.mk (flat_i _ _).1 ?_ | refine Ob.mk (flat_i _ _) ?_ | refine Ob.mk (flat_s _) ?_ | refine Ob.mk (by first | omega | (simp; first | done | fail) | (simp; omega)) ?_ | fail
      all_goals rfl
set_option maxHeartbeats 8000000 in
theorem cutOf_spec (p : Pic) (r : Rect4) : Vow Tryz.prog 38 [picV p, rectV r] (if cutOk p r then .tp [picV (cutP p r), .b true] else .tp [.ag [.i .i64 0, .i .i64 0, .s []], .b false]) [] := by
  have k1 := l12Within_vow p r
  by_cases h : cutOk p r
  · rw [if_pos h]
    have f := cut_facts h
    obtain ⟨f1, f2, f3, f4, f5, f6⟩ := f
    rw [decide_eq_true h] at k1
    unfold cutP
    refine vow_of_ev (fn := Tryz.f38) [] [(0, 0), (8, 18), (19, 20), (20, 21), (21, 23), (23, 29), (30, 32), (32, 54), (54, 61)] tt_ok Tryz.func38 (by decide) rfl (Nat.le_of_ble_eq_true rfl) rfl rfl rfl ?_
    repeat' (conv => whnf); first | refine CallP.rd (k1) rfl rfl rfl rfl ?_ | refine DCall.rd (k1) rfl rfl ?_ | refine Br.tt ?_ | refine Br.ff ?_ | refine Br.not ?_ | refine Br.dand (fun _ => ?_) (fun _ => ?_) | refine Br.dec (fun _ => ?_) (fun _ => ?_) | refine Br.beq (fun _ => ?_) (fun _ => ?_) | refine Br.bne (fun _ => ?_) (fun _ => ?_) | refine Br.seq (fun _ => ?_) (fun _ => ?_) | refine Elt.i (by omega) ?_ | refine EltN.i (by omega) ?_ | refine Nt.cast ?_ | refine Nt.mk _ rfl ?_ | refine EltN.mk _ rfl ?_ | refine Mx.mk _ rfl ?_ | refine Br.mk (fun _ => ?_) (fun _ => ?_) | refine EndP.mk ?_ trivial | refine EndP.mk ?_ ⟨.inr ⟨List.mem_cons_self .., ?_, rfl⟩, trivial⟩ | refine Ar.i64 (by omega) ?_ | refine Ar.u8 (by omega) ?_ | refine Quo.pos (by omega) ?_ | refine Rem.pos (by omega) ?_ | refine BsP.own ?_ | refine SetN.two ?_ | refine SetN.one ?_ | refine Ob.mk ⟨rfl, rfl⟩ ?_ | refine Ob.mk (flat_i _ _).1 ?_ | refine Ob.mk (flat_i _ _) ?_ | refine Ob.mk (flat_s _) ?_ | refine Ob.mk (by first | omega | (simp; first | done | fail) | (simp; omega)) ?_ | fail
    all_goals try (exfalso; omega)
    all_goals (conv => whnf)
    refine LoopP.mk [2,3,4,5,6,7] (fun i : Nat => [(2, .bx [.i .i64 p.wide, .i .i64 p.high, .s p.dots]), (3, .bx [.i .i64 r.left, .i .i64 r.top, .i .i64 r.wide, .i .i64 r.high]), (4, .bx [.i .i64 0, .i .i64 0, .s []]), (5, .b false), (6, .ow 1 ((cutN p r i).map byteV)), (7, .i .i64 ((r.top.toNat + i : Nat) : Int))])
      (fun i => r.high.toNat - i) (fun i => i ≤ r.high.toNat) ?_ ?_
    · conv => whnf
      refine ⟨0, by omega, ?_⟩
      rw [show ((r.top.toNat + 0 : Nat) : Int) = r.top by omega]
      all_goals rfl
    · intro i hi
      have hl := cutN_len p r f1.2.2 i
      have hlm : ((cutN p r i).map byteV).length = (cutN p r i).length := by simp
      by_cases hlt : i < r.high.toNat
      · obtain ⟨g1, g2, g3, g4⟩ := f6 i hlt
        have hlen : (((p.dots.drop (cutAt p r i)).take (cutAt p r i + r.wide.toNat - cutAt p r i)).map byteV).length ≤ 256 := by simp; omega
        repeat' (conv => whnf); first | refine Cut.eq (cutAt p r i) (cutAt p r i + r.wide.toNat) (by omega) (by omega) (by omega) ?_ | refine Ob.mk (by simp only [List.length_map] at *; omega) ?_ | refine Br.tt ?_ | refine Br.ff ?_ | refine Br.not ?_ | refine Br.dand (fun _ => ?_) (fun _ => ?_) | refine Br.dec (fun _ => ?_) (fun _ => ?_) | refine Br.beq (fun _ => ?_) (fun _ => ?_) | refine Br.bne (fun _ => ?_) (fun _ => ?_) | refine Br.seq (fun _ => ?_) (fun _ => ?_) | refine Elt.i (by omega) ?_ | refine EltN.i (by omega) ?_ | refine Nt.cast ?_ | refine Nt.mk _ rfl ?_ | refine EltN.mk _ rfl ?_ | refine Mx.mk _ rfl ?_ | refine Br.mk (fun _ => ?_) (fun _ => ?_) | refine EndP.mk ?_ trivial | refine EndP.mk ?_ ⟨.inr ⟨List.mem_cons_self .., ?_, rfl⟩, trivial⟩ | refine Ar.i64 (by omega) ?_ | refine Ar.u8 (by omega) ?_ | refine Quo.pos (by omega) ?_ | refine Rem.pos (by omega) ?_ | refine BsP.own ?_ | refine SetN.two ?_ | refine SetN.one ?_ | refine Ob.mk ⟨rfl, rfl⟩ ?_ | refine Ob.mk (flat_i _ _).1 ?_ | refine Ob.mk (flat_i _ _) ?_ | refine Ob.mk (flat_s _) ?_ | refine Ob.mk (by first | omega | (simp; first | done | fail) | (simp; omega)) ?_ | fail
        all_goals first
          | (exfalso; omega)
          | (conv => whnf
             refine ⟨i + 1, by omega, by omega, ?_⟩
             rw [show ((r.top.toNat + (i + 1) : Nat) : Int) = ((r.top.toNat + i : Nat) : Int) + 1 by omega]
             simp only [cutN, List.map_append]
             all_goals rfl)
      · obtain rfl : i = r.high.toNat := by omega
        repeat' (conv => whnf); first | refine Byt.mk _ (allB_byteV _) ?_ | refine Br.tt ?_ | refine Br.ff ?_ | refine Br.not ?_ | refine Br.dand (fun _ => ?_) (fun _ => ?_) | refine Br.dec (fun _ => ?_) (fun _ => ?_) | refine Br.beq (fun _ => ?_) (fun _ => ?_) | refine Br.bne (fun _ => ?_) (fun _ => ?_) | refine Br.seq (fun _ => ?_) (fun _ => ?_) | refine Elt.i (by omega) ?_ | refine EltN.i (by omega) ?_ | refine Nt.cast ?_ | refine Nt.mk _ rfl ?_ | refine EltN.mk _ rfl ?_ | refine Mx.mk _ rfl ?_ | refine Br.mk (fun _ => ?_) (fun _ => ?_) | refine EndP.mk ?_ trivial | refine EndP.mk ?_ ⟨.inr ⟨List.mem_cons_self .., ?_, rfl⟩, trivial⟩ | refine Ar.i64 (by omega) ?_ | refine Ar.u8 (by omega) ?_ | refine Quo.pos (by omega) ?_ | refine Rem.pos (by omega) ?_ | refine BsP.own ?_ | refine SetN.two ?_ | refine SetN.one ?_ | refine Ob.mk ⟨rfl, rfl⟩ ?_ | refine Ob.mk (flat_i _ _).1 ?_ | refine Ob.mk (flat_i _ _) ?_ | refine Ob.mk (flat_s _) ?_ | refine Ob.mk (by first | omega | (simp; first | done | fail) | (simp; omega)) ?_ | fail
        all_goals first
          | (exfalso; omega)
          | rfl
  · rw [if_neg h]
    rw [decide_eq_false h] at k1
    refine vow_of_ev (fn := Tryz.f38) [] [(0, 0), (8, 18), (19, 20), (20, 21), (21, 23), (23, 29), (30, 32), (32, 54), (54, 61)] tt_ok Tryz.func38 (by decide) rfl (Nat.le_of_ble_eq_true rfl) rfl rfl rfl ?_
    repeat' (conv => whnf); first | refine CallP.rd (k1) rfl rfl rfl rfl ?_ | refine DCall.rd (k1) rfl rfl ?_ | refine Br.tt ?_ | refine Br.ff ?_ | refine Br.not ?_ | refine Br.dand (fun _ => ?_) (fun _ => ?_) | refine Br.dec (fun _ => ?_) (fun _ => ?_) | refine Br.beq (fun _ => ?_) (fun _ => ?_) | refine Br.bne (fun _ => ?_) (fun _ => ?_) | refine Br.seq (fun _ => ?_) (fun _ => ?_) | refine Elt.i (by omega) ?_ | refine EltN.i (by omega) ?_ | refine Nt.cast ?_ | refine Nt.mk _ rfl ?_ | refine EltN.mk _ rfl ?_ | refine Mx.mk _ rfl ?_ | refine Br.mk (fun _ => ?_) (fun _ => ?_) | refine EndP.mk ?_ trivial | refine EndP.mk ?_ ⟨.inr ⟨List.mem_cons_self .., ?_, rfl⟩, trivial⟩ | refine Ar.i64 (by omega) ?_ | refine Ar.u8 (by omega) ?_ | refine Quo.pos (by omega) ?_ | refine Rem.pos (by omega) ?_ | refine BsP.own ?_ | refine SetN.two ?_ | refine SetN.one ?_ | refine Ob.mk ⟨rfl, rfl⟩ ?_ | refine Ob.mk (flat_i _ _).1 ?_ | refine Ob.mk (flat_i _ _) ?_ | refine Ob.mk (flat_s _) ?_ | refine Ob.mk (by first | omega | (simp; first | done | fail) | (simp; omega)) ?_ | fail
    all_goals rfl
end Go.Proofs.YtafipjhalboefaaGreat
