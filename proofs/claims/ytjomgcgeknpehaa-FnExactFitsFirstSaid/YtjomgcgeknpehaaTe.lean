/- Cameras and their sources. No condition. -/
import Derived.Test.YtjomgcgeknpehaaSl
import Derived.Test.YtjomgcgeknpehaaSb
namespace Go.Proofs.Ytjomgcgeknpehaa
open Go Go.Vx
set_option linter.unusedVariables false
set_option linter.unusedSimpArgs false
set_option maxHeartbeats 600000
set_option maxRecDepth 100000


theorem _root_.Go.Vx.Shl.to {k : IntKind} {a b m : Int} {κ : Int → Prop} (e : k.wrap (a * 2 ^ min b.toNat k.bits) = m) (h : ¬ b < 0) (g : κ m) : Shl k a b κ := .mk h (by rw [e]; exact g)
theorem _root_.Go.Vx.Ar.u64 {x : Int} {κ : Int → Prop} (h : 0 ≤ x ∧ x ≤ 18446744073709551615) (g : κ x) : Ar .u64 x κ := by
  refine .fit ?_ g
  unfold IntKind.wrap
  simp [IntKind.bits, IntKind.signed]
  omega
theorem shl_fit {b : Int} (h : 3 ≤ b ∧ b ≤ 8) : ∃ m : Int, 8 ≤ m ∧ m ≤ 256 ∧ IntKind.i64.wrap (1 * 2 ^ min b.toNat IntKind.i64.bits) = m := by
  obtain rfl | rfl | rfl | rfl | rfl | rfl : b = 3 ∨ b = 4 ∨ b = 5 ∨ b = 6 ∨ b = 7 ∨ b = 8 := by omega
  · exact ⟨8, by omega, by omega, by decide⟩
  · exact ⟨16, by omega, by omega, by decide⟩
  · exact ⟨32, by omega, by omega, by decide⟩
  · exact ⟨64, by omega, by omega, by decide⟩
  · exact ⟨128, by omega, by omega, by decide⟩
  · exact ⟨256, by omega, by omega, by decide⟩

theorem seqOk_sides {lvl bits : Int} {c r : List Int} (h : seqOk lvl bits c r = true) : (sidesOk c ∧ sidesOk r) ∧ 3 ≤ bits ∧ bits ≤ 8 := by
  simp only [seqOk, Bool.and_eq_true, decide_eq_true_eq] at h
  exact ⟨squares_sides (by omega), h.2⟩
theorem seqOk_iff {lvl bits : Int} {c r : List Int} : seqOk lvl bits c r = true ↔ (1 ≤ squares c r ∧ squares c r ≤ levelSq lvl) ∧ 3 ≤ bits ∧ bits ≤ 8 := by
  simp only [seqOk, Bool.and_eq_true, decide_eq_true_eq]
theorem tiles_fit {c r : List Int} (h : sidesOk c ∧ sidesOk r) : 0 ≤ ((c.map (V.i .i64)).length : Int) * ((r.map (V.i .i64)).length : Int) ∧ ((c.map (V.i .i64)).length : Int) * ((r.map (V.i .i64)).length : Int) ≤ 4 * 4 := by
  have a1 := h.1.1
  have a2 := h.2.1
  rw [List.length_map, List.length_map]
  exact mul_fit (by omega) (by omega)
def tilesOf (lvl bits : Int) (c r : List Int) : Int := if seqOk lvl bits c r = true then (c.length : Int) * (r.length : Int) else 0
theorem tilesOf_impl (lvl bits : Int) (c r : List Int) : Vow Try.prog 95 [seqV lvl bits c r] (.i .i64 (tilesOf lvl bits c r)) [] := by
  refine vow_of_ev (fn := Try.f95) [] [(0, 0), (3, 5), (0, 0), (6, 13)] tt_ok Try.func95 (by decide) rfl (Nat.le_of_ble_eq_true rfl) rfl rfl rfl ?_
  by_cases h : seqOk lvl bits c r = true
  · have m := tiles_fit (seqOk_sides h).1
    have e1 : (c.map (V.i .i64)).length = c.length := by simp
    have e2 : (r.map (V.i .i64)).length = r.length := by simp
    repeat' (conv => whnf); first | refine CallP.rd (seqOk_impl lvl bits c r) rfl rfl rfl rfl ?_ | refine DCall.rd (seqOk_impl lvl bits c r) rfl rfl ?_ | refine Br.tt ?_ | refine Br.ff ?_ | refine Br.not ?_ | refine Br.dand (fun _ => ?_) (fun _ => ?_) | refine Br.dec (fun _ => ?_) (fun _ => ?_) | refine Br.beq (fun _ => ?_) (fun _ => ?_) | refine Br.bne (fun _ => ?_) (fun _ => ?_) | refine Br.seq (fun _ => ?_) (fun _ => ?_) | refine Elt.i (by omega) ?_ | refine EltN.i (by omega) ?_ | refine Nt.cast ?_ | refine Nt.mk _ rfl ?_ | refine EltN.mk _ rfl ?_ | refine Mx.mk _ rfl ?_ | refine Br.mk (fun _ => ?_) (fun _ => ?_) | refine EndP.mk ?_ trivial | refine EndP.mk ?_ ⟨.inr ⟨List.mem_cons_self .., ?_, rfl⟩, trivial⟩ | refine Ar.i64 (by omega) ?_ | refine Ar.u8 (by omega) ?_ | refine Quo.pos (by omega) ?_ | refine Rem.pos (by omega) ?_ | refine BsP.own ?_ | refine SetN.two ?_ | refine SetN.one ?_ | refine Ob.mk ⟨rfl, rfl⟩ ?_ | refine Ob.mk (flat_i _ _).1 ?_ | refine Ob.mk (flat_i _ _) ?_ | refine Ob.mk (flat_s _) ?_ | refine Ob.mk (by first | omega | (simp; first | done | fail) | (simp; omega)) ?_ | fail
    all_goals first | (rw [tilesOf, if_pos h, ← e1, ← e2]; rfl) | exact absurd (seqOk_iff.1 h) (by assumption)
  · repeat' (conv => whnf); first | refine CallP.rd (seqOk_impl lvl bits c r) rfl rfl rfl rfl ?_ | refine DCall.rd (seqOk_impl lvl bits c r) rfl rfl ?_ | refine Br.tt ?_ | refine Br.ff ?_ | refine Br.not ?_ | refine Br.dand (fun _ => ?_) (fun _ => ?_) | refine Br.dec (fun _ => ?_) (fun _ => ?_) | refine Br.beq (fun _ => ?_) (fun _ => ?_) | refine Br.bne (fun _ => ?_) (fun _ => ?_) | refine Br.seq (fun _ => ?_) (fun _ => ?_) | refine Elt.i (by omega) ?_ | refine EltN.i (by omega) ?_ | refine Nt.cast ?_ | refine Nt.mk _ rfl ?_ | refine EltN.mk _ rfl ?_ | refine Mx.mk _ rfl ?_ | refine Br.mk (fun _ => ?_) (fun _ => ?_) | refine EndP.mk ?_ trivial | refine EndP.mk ?_ ⟨.inr ⟨List.mem_cons_self .., ?_, rfl⟩, trivial⟩ | refine Ar.i64 (by omega) ?_ | refine Ar.u8 (by omega) ?_ | refine Quo.pos (by omega) ?_ | refine Rem.pos (by omega) ?_ | refine BsP.own ?_ | refine SetN.two ?_ | refine SetN.one ?_ | refine Ob.mk ⟨rfl, rfl⟩ ?_ | refine Ob.mk (flat_i _ _).1 ?_ | refine Ob.mk (flat_i _ _) ?_ | refine Ob.mk (flat_s _) ?_ | refine Ob.mk (by first | omega | (simp; first | done | fail) | (simp; omega)) ?_ | fail
    all_goals first | (rw [tilesOf, if_neg h]; rfl) | exact absurd (seqOk_iff.2 (by assumption)) h
theorem tilesOf_spec (lvl bits : Int) (c r : List Int) : Vow Try.prog 73 [seqV lvl bits c r] (.i .i64 (tilesOf lvl bits c r)) [] := by
  refine vow_of_ev (fn := Try.f73) [] [(0, 0), (3, 5), (0, 0), (6, 13)] tt_ok Try.func73 (by decide) rfl (Nat.le_of_ble_eq_true rfl) rfl rfl rfl ?_
  by_cases h : seqOk lvl bits c r = true
  · have m := tiles_fit (seqOk_sides h).1
    have e1 : (c.map (V.i .i64)).length = c.length := by simp
    have e2 : (r.map (V.i .i64)).length = r.length := by simp
    repeat' (conv => whnf); first | refine CallP.rd (seqOk_spec lvl bits c r) rfl rfl rfl rfl ?_ | refine DCall.rd (seqOk_spec lvl bits c r) rfl rfl ?_ | refine Br.tt ?_ | refine Br.ff ?_ | refine Br.not ?_ | refine Br.dand (fun _ => ?_) (fun _ => ?_) | refine Br.dec (fun _ => ?_) (fun _ => ?_) | refine Br.beq (fun _ => ?_) (fun _ => ?_) | refine Br.bne (fun _ => ?_) (fun _ => ?_) | refine Br.seq (fun _ => ?_) (fun _ => ?_) | refine Elt.i (by omega) ?_ | refine EltN.i (by omega) ?_ | refine Nt.cast ?_ | refine Nt.mk _ rfl ?_ | refine EltN.mk _ rfl ?_ | refine Mx.mk _ rfl ?_ | refine Br.mk (fun _ => ?_) (fun _ => ?_) | refine EndP.mk ?_ trivial | refine EndP.mk ?_ ⟨.inr ⟨List.mem_cons_self .., ?_, rfl⟩, trivial⟩ | refine Ar.i64 (by omega) ?_ | refine Ar.u8 (by omega) ?_ | refine Quo.pos (by omega) ?_ | refine Rem.pos (by omega) ?_ | refine BsP.own ?_ | refine SetN.two ?_ | refine SetN.one ?_ | refine Ob.mk ⟨rfl, rfl⟩ ?_ | refine Ob.mk (flat_i _ _).1 ?_ | refine Ob.mk (flat_i _ _) ?_ | refine Ob.mk (flat_s _) ?_ | refine Ob.mk (by first | omega | (simp; first | done | fail) | (simp; omega)) ?_ | fail
    all_goals first | (rw [tilesOf, if_pos h, ← e1, ← e2]; rfl) | exact absurd (seqOk_iff.1 h) (by assumption)
  · repeat' (conv => whnf); first | refine CallP.rd (seqOk_spec lvl bits c r) rfl rfl rfl rfl ?_ | refine DCall.rd (seqOk_spec lvl bits c r) rfl rfl ?_ | refine Br.tt ?_ | refine Br.ff ?_ | refine Br.not ?_ | refine Br.dand (fun _ => ?_) (fun _ => ?_) | refine Br.dec (fun _ => ?_) (fun _ => ?_) | refine Br.beq (fun _ => ?_) (fun _ => ?_) | refine Br.bne (fun _ => ?_) (fun _ => ?_) | refine Br.seq (fun _ => ?_) (fun _ => ?_) | refine Elt.i (by omega) ?_ | refine EltN.i (by omega) ?_ | refine Nt.cast ?_ | refine Nt.mk _ rfl ?_ | refine EltN.mk _ rfl ?_ | refine Mx.mk _ rfl ?_ | refine Br.mk (fun _ => ?_) (fun _ => ?_) | refine EndP.mk ?_ trivial | refine EndP.mk ?_ ⟨.inr ⟨List.mem_cons_self .., ?_, rfl⟩, trivial⟩ | refine Ar.i64 (by omega) ?_ | refine Ar.u8 (by omega) ?_ | refine Quo.pos (by omega) ?_ | refine Rem.pos (by omega) ?_ | refine BsP.own ?_ | refine SetN.two ?_ | refine SetN.one ?_ | refine Ob.mk ⟨rfl, rfl⟩ ?_ | refine Ob.mk (flat_i _ _).1 ?_ | refine Ob.mk (flat_i _ _) ?_ | refine Ob.mk (flat_s _) ?_ | refine Ob.mk (by first | omega | (simp; first | done | fail) | (simp; omega)) ?_ | fail
    all_goals first | (rw [tilesOf, if_neg h]; rfl) | exact absurd (seqOk_iff.2 (by assumption)) h

structure Par where
  qp : Int
  large : Bool
  exact : Bool
  confined : Bool
  deriving DecidableEq
def parV (p : Par) : V := .ag [.i .i64 p.qp, .b p.large, .b p.exact, .b p.confined]
def parOk (p : Par) : Prop := (0 ≤ p.qp ∧ p.qp ≤ 40) ∧ ¬ (p.large = true ∧ p.exact = true)
instance (p : Par) : Decidable (parOk p) := by unfold parOk; infer_instance
theorem parOk_impl (p : Par) : Vow Try.prog 99 [parV p] (.b (decide (parOk p))) [] := by
  refine vow_of_ev (fn := Try.f99) [] [(0, 0), (3, 15)] tt_ok Try.func99 (by decide) rfl (Nat.le_of_ble_eq_true rfl) rfl rfl rfl ?_
  obtain ⟨q, l, e, c⟩ := p
  cases l <;> cases e
  all_goals (repeat' (conv => whnf); first | refine CallP.rd (within_vow _ _ _) rfl rfl rfl rfl ?_ | refine DCall.rd (within_vow _ _ _) rfl rfl ?_ | refine Br.tt ?_ | refine Br.ff ?_ | refine Br.not ?_ | refine Br.dand (fun _ => ?_) (fun _ => ?_) | refine Br.dec (fun _ => ?_) (fun _ => ?_) | refine Br.beq (fun _ => ?_) (fun _ => ?_) | refine Br.bne (fun _ => ?_) (fun _ => ?_) | refine Br.seq (fun _ => ?_) (fun _ => ?_) | refine Elt.i (by omega) ?_ | refine EltN.i (by omega) ?_ | refine Nt.cast ?_ | refine Nt.mk _ rfl ?_ | refine EltN.mk _ rfl ?_ | refine Mx.mk _ rfl ?_ | refine Br.mk (fun _ => ?_) (fun _ => ?_) | refine EndP.mk ?_ trivial | refine EndP.mk ?_ ⟨.inr ⟨List.mem_cons_self .., ?_, rfl⟩, trivial⟩ | refine Ar.i64 (by omega) ?_ | refine Ar.u8 (by omega) ?_ | refine Quo.pos (by omega) ?_ | refine Rem.pos (by omega) ?_ | refine BsP.own ?_ | refine SetN.two ?_ | refine SetN.one ?_ | refine Ob.mk ⟨rfl, rfl⟩ ?_ | refine Ob.mk (flat_i _ _).1 ?_ | refine Ob.mk (flat_i _ _) ?_ | refine Ob.mk (flat_s _) ?_ | refine Ob.mk (by first | omega | (simp; first | done | fail) | (simp; omega)) ?_ | fail)
  all_goals first
    | (rw [decide_eq_true (show parOk _ from ⟨by assumption, by simp⟩)]; rfl)
    | (rw [decide_eq_false (show ¬ parOk _ from fun k => k.2 ⟨rfl, rfl⟩)]; rfl)
    | (rw [decide_eq_false (show ¬ parOk _ from fun k => absurd k.1 (by assumption))]; rfl)
theorem parOk_spec (p : Par) : Vow Try.prog 97 [parV p] (.b (decide (parOk p))) [] := by
  refine vow_of_ev (fn := Try.f97) [] [(0, 0), (3, 15)] tt_ok Try.func97 (by decide) rfl (Nat.le_of_ble_eq_true rfl) rfl rfl rfl ?_
  obtain ⟨q, l, e, c⟩ := p
  cases l <;> cases e
  all_goals (repeat' (conv => whnf); first | refine CallP.rd (l01In_vow _ _ _) rfl rfl rfl rfl ?_ | refine DCall.rd (l01In_vow _ _ _) rfl rfl ?_ | refine Br.tt ?_ | refine Br.ff ?_ | refine Br.not ?_ | refine Br.dand (fun _ => ?_) (fun _ => ?_) | refine Br.dec (fun _ => ?_) (fun _ => ?_) | refine Br.beq (fun _ => ?_) (fun _ => ?_) | refine Br.bne (fun _ => ?_) (fun _ => ?_) | refine Br.seq (fun _ => ?_) (fun _ => ?_) | refine Elt.i (by omega) ?_ | refine EltN.i (by omega) ?_ | refine Nt.cast ?_ | refine Nt.mk _ rfl ?_ | refine EltN.mk _ rfl ?_ | refine Mx.mk _ rfl ?_ | refine Br.mk (fun _ => ?_) (fun _ => ?_) | refine EndP.mk ?_ trivial | refine EndP.mk ?_ ⟨.inr ⟨List.mem_cons_self .., ?_, rfl⟩, trivial⟩ | refine Ar.i64 (by omega) ?_ | refine Ar.u8 (by omega) ?_ | refine Quo.pos (by omega) ?_ | refine Rem.pos (by omega) ?_ | refine BsP.own ?_ | refine SetN.two ?_ | refine SetN.one ?_ | refine Ob.mk ⟨rfl, rfl⟩ ?_ | refine Ob.mk (flat_i _ _).1 ?_ | refine Ob.mk (flat_i _ _) ?_ | refine Ob.mk (flat_s _) ?_ | refine Ob.mk (by first | omega | (simp; first | done | fail) | (simp; omega)) ?_ | fail)
  all_goals first
    | (rw [decide_eq_true (show parOk _ from ⟨by assumption, by simp⟩)]; rfl)
    | (rw [decide_eq_false (show ¬ parOk _ from fun k => k.2 ⟨rfl, rfl⟩)]; rfl)
    | (rw [decide_eq_false (show ¬ parOk _ from fun k => absurd k.1 (by assumption))]; rfl)
def rateOk (q t : Int) : Prop := (0 ≤ q ∧ q ≤ 40) ∧ 1 ≤ t ∧ t ≤ 100000
instance (q t : Int) : Decidable (rateOk q t) := by unfold rateOk; infer_instance
theorem rateOk_impl (q t : Int) : Vow Try.prog 160 [.ag [.i .i64 q, .i .i64 t, .i .i64 0]] (.b (decide (rateOk q t))) [] := by
  refine vow_of_ev (fn := Try.f160) [] [(0, 0), (3, 22)] tt_ok Try.func160 (by decide) rfl (Nat.le_of_ble_eq_true rfl) rfl rfl rfl ?_
  repeat' (conv => whnf); first | refine CallP.rd (within_vow _ _ _) rfl rfl rfl rfl ?_ | refine DCall.rd (within_vow _ _ _) rfl rfl ?_ | refine Br.tt ?_ | refine Br.ff ?_ | refine Br.not ?_ | refine Br.dand (fun _ => ?_) (fun _ => ?_) | refine Br.dec (fun _ => ?_) (fun _ => ?_) | refine Br.beq (fun _ => ?_) (fun _ => ?_) | refine Br.bne (fun _ => ?_) (fun _ => ?_) | refine Br.seq (fun _ => ?_) (fun _ => ?_) | refine Elt.i (by omega) ?_ | refine EltN.i (by omega) ?_ | refine Nt.cast ?_ | refine Nt.mk _ rfl ?_ | refine EltN.mk _ rfl ?_ | refine Mx.mk _ rfl ?_ | refine Br.mk (fun _ => ?_) (fun _ => ?_) | refine EndP.mk ?_ trivial | refine EndP.mk ?_ ⟨.inr ⟨List.mem_cons_self .., ?_, rfl⟩, trivial⟩ | refine Ar.i64 (by omega) ?_ | refine Ar.u8 (by omega) ?_ | refine Quo.pos (by omega) ?_ | refine Rem.pos (by omega) ?_ | refine BsP.own ?_ | refine SetN.two ?_ | refine SetN.one ?_ | refine Ob.mk ⟨rfl, rfl⟩ ?_ | refine Ob.mk (flat_i _ _).1 ?_ | refine Ob.mk (flat_i _ _) ?_ | refine Ob.mk (flat_s _) ?_ | refine Ob.mk (by first | omega | (simp; first | done | fail) | (simp; omega)) ?_ | fail
  all_goals first
    | (rw [decide_eq_false (show ¬ rateOk q t from fun k => by have := k.1; have := k.2; omega)]; rfl)
    | (rw [decide_eq_true (show rateOk q t from ⟨by omega, by omega⟩)]; simp [resOf]; omega)
theorem rateOk_spec (q t : Int) : Vow Try.prog 155 [.ag [.i .i64 q, .i .i64 t, .i .i64 0]] (.b (decide (rateOk q t))) [] := by
  refine vow_of_ev (fn := Try.f155) [] [(0, 0), (3, 22)] tt_ok Try.func155 (by decide) rfl (Nat.le_of_ble_eq_true rfl) rfl rfl rfl ?_
  repeat' (conv => whnf); first | refine CallP.rd (l01In_vow _ _ _) rfl rfl rfl rfl ?_ | refine DCall.rd (l01In_vow _ _ _) rfl rfl ?_ | refine Br.tt ?_ | refine Br.ff ?_ | refine Br.not ?_ | refine Br.dand (fun _ => ?_) (fun _ => ?_) | refine Br.dec (fun _ => ?_) (fun _ => ?_) | refine Br.beq (fun _ => ?_) (fun _ => ?_) | refine Br.bne (fun _ => ?_) (fun _ => ?_) | refine Br.seq (fun _ => ?_) (fun _ => ?_) | refine Elt.i (by omega) ?_ | refine EltN.i (by omega) ?_ | refine Nt.cast ?_ | refine Nt.mk _ rfl ?_ | refine EltN.mk _ rfl ?_ | refine Mx.mk _ rfl ?_ | refine Br.mk (fun _ => ?_) (fun _ => ?_) | refine EndP.mk ?_ trivial | refine EndP.mk ?_ ⟨.inr ⟨List.mem_cons_self .., ?_, rfl⟩, trivial⟩ | refine Ar.i64 (by omega) ?_ | refine Ar.u8 (by omega) ?_ | refine Quo.pos (by omega) ?_ | refine Rem.pos (by omega) ?_ | refine BsP.own ?_ | refine SetN.two ?_ | refine SetN.one ?_ | refine Ob.mk ⟨rfl, rfl⟩ ?_ | refine Ob.mk (flat_i _ _).1 ?_ | refine Ob.mk (flat_i _ _) ?_ | refine Ob.mk (flat_s _) ?_ | refine Ob.mk (by first | omega | (simp; first | done | fail) | (simp; omega)) ?_ | fail
  all_goals first
    | (rw [decide_eq_false (show ¬ rateOk q t from fun k => by have := k.1; have := k.2; omega)]; rfl)
    | (rw [decide_eq_true (show rateOk q t from ⟨by omega, by omega⟩)]; simp [resOf]; omega)

/-- A new source's cells. -/
def srcR (lvl bits w h : Int) (p : Par) (rq rt ev re : Int) (c r : V) : List V :=
  [.i .i64 lvl, .i .i64 bits, c, r, .i .i64 p.qp, .b p.large, .b p.exact, .b p.confined, .i .i64 rq, .i .i64 rt, .i .i64 0, .i .i64 0, .i .i64 0, .i .i64 ev, .i .i64 re, .b false, .i .i64 0, .i .i64 0, .s []]
def sourceOk (lvl bits w h : Int) (p : Par) (rq rt ev re : Int) : Prop :=
  tilesOf lvl bits [w] [h] = 1 ∧ parOk p ∧ rateOk rq rt ∧ (1 ≤ ev ∧ ev ≤ 1000) ∧ (0 ≤ re ∧ re ≤ 4)
instance (lvl bits w h : Int) (p : Par) (rq rt ev re : Int) : Decidable (sourceOk lvl bits w h p rq rt ev re) := by unfold sourceOk; infer_instance
theorem tiles1 {lvl bits : Int} {c r : List Int} (h : tilesOf lvl bits c r = 1) : 3 ≤ bits ∧ bits ≤ 8 := by
  unfold tilesOf at h
  split at h
  · rename_i hq; exact (seqOk_sides hq).2
  · omega

set_option maxHeartbeats 6000000 in
theorem sourceOk_impl (lvl bits w h : Int) (p : Par) (rq rt ev re : Int) :
    Vow Try.prog 128 [.ag (srcR lvl bits w h p rq rt ev re (iS [w]) (iS [h]))] (.b (decide (sourceOk lvl bits w h p rq rt ev re))) [] := by
  refine vow_of_ev (fn := Try.f128) [] [(0, 0), (3, 47), (0, 0), (48, 49), (50, 55), (55, 59)] tt_ok Try.func128 (by decide) rfl (Nat.le_of_ble_eq_true rfl) rfl rfl rfl ?_
  by_cases ht : tilesOf lvl bits [w] [h] = 1
  · have hb := tiles1 ht
    obtain ⟨m, m1, m2, m3⟩ := shl_fit hb
    repeat' (conv => whnf); first | refine CallP.rd (tilesOf_impl lvl bits [w] [h]) rfl rfl rfl rfl ?_ | refine DCall.rd (tilesOf_impl lvl bits [w] [h]) rfl rfl ?_ | refine CallP.rd (parOk_impl p) rfl rfl rfl rfl ?_ | refine DCall.rd (parOk_impl p) rfl rfl ?_ | refine CallP.rd (rateOk_impl rq rt) rfl rfl rfl rfl ?_ | refine DCall.rd (rateOk_impl rq rt) rfl rfl ?_ | refine CallP.rd (within_vow _ _ _) rfl rfl rfl rfl ?_ | refine DCall.rd (within_vow _ _ _) rfl rfl ?_ | refine Shl.to m3 (by omega) ?_ | refine Br.and ?_ | refine Br.tt ?_ | refine Br.ff ?_ | refine Br.not ?_ | refine Br.dand (fun _ => ?_) (fun _ => ?_) | refine Br.dec (fun _ => ?_) (fun _ => ?_) | refine Br.beq (fun _ => ?_) (fun _ => ?_) | refine Br.bne (fun _ => ?_) (fun _ => ?_) | refine Br.seq (fun _ => ?_) (fun _ => ?_) | refine Elt.i (by omega) ?_ | refine EltN.i (by omega) ?_ | refine Nt.cast ?_ | refine Nt.mk _ rfl ?_ | refine EltN.mk _ rfl ?_ | refine Mx.mk _ rfl ?_ | refine Br.mk (fun _ => ?_) (fun _ => ?_) | refine EndP.mk ?_ trivial | refine EndP.mk ?_ ⟨.inr ⟨List.mem_cons_self .., ?_, rfl⟩, trivial⟩ | refine Ar.i64 (by omega) ?_ | refine Ar.u8 (by omega) ?_ | refine Quo.pos (by omega) ?_ | refine Rem.pos (by omega) ?_ | refine BsP.own ?_ | refine SetN.two ?_ | refine SetN.one ?_ | refine Ob.mk ⟨rfl, rfl⟩ ?_ | refine Ob.mk (flat_i _ _).1 ?_ | refine Ob.mk (flat_i _ _) ?_ | refine Ob.mk (flat_s _) ?_ | refine Ob.mk (by first | omega | (simp; first | done | fail) | (simp; omega)) ?_ | fail
    all_goals first
      | (exfalso; exact absurd (by assumption) ht)
      | (exfalso; exact absurd ht (by assumption))
      | (rw [decide_eq_true (show sourceOk lvl bits w h p rq rt ev re from ⟨ht, by assumption, by assumption, by omega, by omega⟩)]; first | rfl | (simp [resOf]; first | done | fail))
      | (rw [decide_eq_false (show ¬ sourceOk lvl bits w h p rq rt ev re from fun k => absurd k.2.1 (by assumption))]; rfl)
      | (rw [decide_eq_false (show ¬ sourceOk lvl bits w h p rq rt ev re from fun k => absurd k.2.2.1 (by assumption))]; rfl)
      | (rw [decide_eq_false (show ¬ sourceOk lvl bits w h p rq rt ev re from fun k => absurd k.1 ht)]; rfl)
      | (rw [decide_eq_false (show ¬ sourceOk lvl bits w h p rq rt ev re from fun k => by have := k.2.2.2; omega)]; rfl)
  · repeat' (conv => whnf); first | refine CallP.rd (tilesOf_impl lvl bits [w] [h]) rfl rfl rfl rfl ?_ | refine DCall.rd (tilesOf_impl lvl bits [w] [h]) rfl rfl ?_ | refine Br.tt ?_ | refine Br.ff ?_ | refine Br.not ?_ | refine Br.dand (fun _ => ?_) (fun _ => ?_) | refine Br.dec (fun _ => ?_) (fun _ => ?_) | refine Br.beq (fun _ => ?_) (fun _ => ?_) | refine Br.bne (fun _ => ?_) (fun _ => ?_) | refine Br.seq (fun _ => ?_) (fun _ => ?_) | refine Elt.i (by omega) ?_ | refine EltN.i (by omega) ?_ | refine Nt.cast ?_ | refine Nt.mk _ rfl ?_ | refine EltN.mk _ rfl ?_ | refine Mx.mk _ rfl ?_ | refine Br.mk (fun _ => ?_) (fun _ => ?_) | refine EndP.mk ?_ trivial | refine EndP.mk ?_ ⟨.inr ⟨List.mem_cons_self .., ?_, rfl⟩, trivial⟩ | refine Ar.i64 (by omega) ?_ | refine Ar.u8 (by omega) ?_ | refine Quo.pos (by omega) ?_ | refine Rem.pos (by omega) ?_ | refine BsP.own ?_ | refine SetN.two ?_ | refine SetN.one ?_ | refine Ob.mk ⟨rfl, rfl⟩ ?_ | refine Ob.mk (flat_i _ _).1 ?_ | refine Ob.mk (flat_i _ _) ?_ | refine Ob.mk (flat_s _) ?_ | refine Ob.mk (by first | omega | (simp; first | done | fail) | (simp; omega)) ?_ | fail
    all_goals first
      | (exfalso; exact absurd (by assumption) ht)
      | (exfalso; exact absurd ht (by assumption))
      | (rw [decide_eq_true (show sourceOk lvl bits w h p rq rt ev re from ⟨ht, by assumption, by assumption, by omega, by omega⟩)]; first | rfl | (simp [resOf]; first | done | fail))
      | (rw [decide_eq_false (show ¬ sourceOk lvl bits w h p rq rt ev re from fun k => absurd k.2.1 (by assumption))]; rfl)
      | (rw [decide_eq_false (show ¬ sourceOk lvl bits w h p rq rt ev re from fun k => absurd k.2.2.1 (by assumption))]; rfl)
      | (rw [decide_eq_false (show ¬ sourceOk lvl bits w h p rq rt ev re from fun k => absurd k.1 ht)]; rfl)
      | (rw [decide_eq_false (show ¬ sourceOk lvl bits w h p rq rt ev re from fun k => by have := k.2.2.2; omega)]; rfl)

theorem sizeOf_spec (lvl bits : Int) (c r : List Int) : Vow Try.prog 156 [seqV lvl bits c r] (.tp [.i .i64 (if seqOk lvl bits c r = true then 8 * sideSum c else 0), .i .i64 (if seqOk lvl bits c r = true then 8 * sideSum r else 0)]) [] := by
  refine vow_of_ev (fn := Try.f156) [] [(0, 0), (4, 6), (0, 0), (7, 15)] tt_ok Try.func156 (by decide) rfl (Nat.le_of_ble_eq_true rfl) rfl rfl rfl ?_
  have f1 := sideSum_fit c
  have f2 := sideSum_fit r
  by_cases h : seqOk lvl bits c r = true
  · repeat' (conv => whnf); first | refine CallP.rd (seqOk_spec lvl bits c r) rfl rfl rfl rfl ?_ | refine DCall.rd (seqOk_spec lvl bits c r) rfl rfl ?_ | refine CallP.rd (l05Sum_vow c) rfl rfl rfl rfl ?_ | refine DCall.rd (l05Sum_vow c) rfl rfl ?_ | refine CallP.rd (l05Sum_vow r) rfl rfl rfl rfl ?_ | refine DCall.rd (l05Sum_vow r) rfl rfl ?_ | refine Br.tt ?_ | refine Br.ff ?_ | refine Br.not ?_ | refine Br.dand (fun _ => ?_) (fun _ => ?_) | refine Br.dec (fun _ => ?_) (fun _ => ?_) | refine Br.beq (fun _ => ?_) (fun _ => ?_) | refine Br.bne (fun _ => ?_) (fun _ => ?_) | refine Br.seq (fun _ => ?_) (fun _ => ?_) | refine Elt.i (by omega) ?_ | refine EltN.i (by omega) ?_ | refine Nt.cast ?_ | refine Nt.mk _ rfl ?_ | refine EltN.mk _ rfl ?_ | refine Mx.mk _ rfl ?_ | refine Br.mk (fun _ => ?_) (fun _ => ?_) | refine EndP.mk ?_ trivial | refine EndP.mk ?_ ⟨.inr ⟨List.mem_cons_self .., ?_, rfl⟩, trivial⟩ | refine Ar.i64 (by omega) ?_ | refine Ar.u8 (by omega) ?_ | refine Quo.pos (by omega) ?_ | refine Rem.pos (by omega) ?_ | refine BsP.own ?_ | refine SetN.two ?_ | refine SetN.one ?_ | refine Ob.mk ⟨rfl, rfl⟩ ?_ | refine Ob.mk (flat_i _ _).1 ?_ | refine Ob.mk (flat_i _ _) ?_ | refine Ob.mk (flat_s _) ?_ | refine Ob.mk (by first | omega | (simp; first | done | fail) | (simp; omega)) ?_ | fail
    all_goals first | (simp only [h, if_true]; rfl) | exact absurd (seqOk_iff.1 h) (by assumption)
  · repeat' (conv => whnf); first | refine CallP.rd (seqOk_spec lvl bits c r) rfl rfl rfl rfl ?_ | refine DCall.rd (seqOk_spec lvl bits c r) rfl rfl ?_ | refine Br.tt ?_ | refine Br.ff ?_ | refine Br.not ?_ | refine Br.dand (fun _ => ?_) (fun _ => ?_) | refine Br.dec (fun _ => ?_) (fun _ => ?_) | refine Br.beq (fun _ => ?_) (fun _ => ?_) | refine Br.bne (fun _ => ?_) (fun _ => ?_) | refine Br.seq (fun _ => ?_) (fun _ => ?_) | refine Elt.i (by omega) ?_ | refine EltN.i (by omega) ?_ | refine Nt.cast ?_ | refine Nt.mk _ rfl ?_ | refine EltN.mk _ rfl ?_ | refine Mx.mk _ rfl ?_ | refine Br.mk (fun _ => ?_) (fun _ => ?_) | refine EndP.mk ?_ trivial | refine EndP.mk ?_ ⟨.inr ⟨List.mem_cons_self .., ?_, rfl⟩, trivial⟩ | refine Ar.i64 (by omega) ?_ | refine Ar.u8 (by omega) ?_ | refine Quo.pos (by omega) ?_ | refine Rem.pos (by omega) ?_ | refine BsP.own ?_ | refine SetN.two ?_ | refine SetN.one ?_ | refine Ob.mk ⟨rfl, rfl⟩ ?_ | refine Ob.mk (flat_i _ _).1 ?_ | refine Ob.mk (flat_i _ _) ?_ | refine Ob.mk (flat_s _) ?_ | refine Ob.mk (by first | omega | (simp; first | done | fail) | (simp; omega)) ?_ | fail
    all_goals first | (simp only [h, if_false]; rfl) | (rw [if_neg h]; rfl) | (rw [if_neg h, if_neg h]; rfl) | exact absurd (seqOk_iff.2 (by assumption)) h

set_option maxHeartbeats 6000000 in
theorem sourceOk_spec (lvl bits w h : Int) (p : Par) (rq rt ev re : Int) :
    Vow Try.prog 126 [.ag (srcR lvl bits w h p rq rt ev re (iS [w]) (iS [h]))] (.b (decide (sourceOk lvl bits w h p rq rt ev re))) [] := by
  refine vow_of_ev (fn := Try.f126) [] [(0, 0), (5, 35), (0, 0), (36, 51), (0, 0), (52, 58), (58, 59), (60, 77), (77, 94)] tt_ok Try.func126 (by decide) rfl (Nat.le_of_ble_eq_true rfl) rfl rfl rfl ?_
  by_cases ht : tilesOf lvl bits [w] [h] = 1
  · have hb := tiles1 ht
    obtain ⟨m, m1, m2, m3⟩ := shl_fit hb
    repeat' (conv => whnf); first | refine CallP.rd (tilesOf_spec lvl bits [w] [h]) rfl rfl rfl rfl ?_ | refine DCall.rd (tilesOf_spec lvl bits [w] [h]) rfl rfl ?_ | refine CallP.rd (parOk_spec p) rfl rfl rfl rfl ?_ | refine DCall.rd (parOk_spec p) rfl rfl ?_ | refine CallP.rd (rateOk_spec rq rt) rfl rfl rfl rfl ?_ | refine DCall.rd (rateOk_spec rq rt) rfl rfl ?_ | refine CallP.rd (l01In_vow _ _ _) rfl rfl rfl rfl ?_ | refine DCall.rd (l01In_vow _ _ _) rfl rfl ?_ | refine Ar.u64 (by omega) ?_ | refine Shl.to m3 (by omega) ?_ | refine CallP.rd (sizeOf_spec lvl bits [w] [h]) rfl rfl rfl rfl ?_ | refine DCall.rd (sizeOf_spec lvl bits [w] [h]) rfl rfl ?_ | refine Br.tt ?_ | refine Br.ff ?_ | refine Br.not ?_ | refine Br.dand (fun _ => ?_) (fun _ => ?_) | refine Br.dec (fun _ => ?_) (fun _ => ?_) | refine Br.beq (fun _ => ?_) (fun _ => ?_) | refine Br.bne (fun _ => ?_) (fun _ => ?_) | refine Br.seq (fun _ => ?_) (fun _ => ?_) | refine Elt.i (by omega) ?_ | refine EltN.i (by omega) ?_ | refine Nt.cast ?_ | refine Nt.mk _ rfl ?_ | refine EltN.mk _ rfl ?_ | refine Mx.mk _ rfl ?_ | refine Br.mk (fun _ => ?_) (fun _ => ?_) | refine EndP.mk ?_ trivial | refine EndP.mk ?_ ⟨.inr ⟨List.mem_cons_self .., ?_, rfl⟩, trivial⟩ | refine Ar.i64 (by omega) ?_ | refine Ar.u8 (by omega) ?_ | refine Quo.pos (by omega) ?_ | refine Rem.pos (by omega) ?_ | refine BsP.own ?_ | refine SetN.two ?_ | refine SetN.one ?_ | refine Ob.mk ⟨rfl, rfl⟩ ?_ | refine Ob.mk (flat_i _ _).1 ?_ | refine Ob.mk (flat_i _ _) ?_ | refine Ob.mk (flat_s _) ?_ | refine Ob.mk (by first | omega | (simp; first | done | fail) | (simp; omega)) ?_ | fail
    all_goals first
      | (exfalso; omega)
      | (exfalso; exact absurd (by assumption) ht)
      | (exfalso; exact absurd ht (by assumption))
      | (rw [decide_eq_true (show sourceOk lvl bits w h p rq rt ev re from ⟨ht, by assumption, by assumption, by omega, by omega⟩)]; first | rfl | (simp [resOf]; first | done | fail))
      | (rw [decide_eq_false (show ¬ sourceOk lvl bits w h p rq rt ev re from fun k => absurd k.2.1 (by assumption))]; rfl)
      | (rw [decide_eq_false (show ¬ sourceOk lvl bits w h p rq rt ev re from fun k => absurd k.2.2.1 (by assumption))]; rfl)
      | (rw [decide_eq_false (show ¬ sourceOk lvl bits w h p rq rt ev re from fun k => absurd k.1 ht)]; rfl)
      | (rw [decide_eq_false (show ¬ sourceOk lvl bits w h p rq rt ev re from fun k => by have := k.2.2.2; omega)]; rfl)
  · repeat' (conv => whnf); first | refine CallP.rd (tilesOf_spec lvl bits [w] [h]) rfl rfl rfl rfl ?_ | refine DCall.rd (tilesOf_spec lvl bits [w] [h]) rfl rfl ?_ | refine Br.tt ?_ | refine Br.ff ?_ | refine Br.not ?_ | refine Br.dand (fun _ => ?_) (fun _ => ?_) | refine Br.dec (fun _ => ?_) (fun _ => ?_) | refine Br.beq (fun _ => ?_) (fun _ => ?_) | refine Br.bne (fun _ => ?_) (fun _ => ?_) | refine Br.seq (fun _ => ?_) (fun _ => ?_) | refine Elt.i (by omega) ?_ | refine EltN.i (by omega) ?_ | refine Nt.cast ?_ | refine Nt.mk _ rfl ?_ | refine EltN.mk _ rfl ?_ | refine Mx.mk _ rfl ?_ | refine Br.mk (fun _ => ?_) (fun _ => ?_) | refine EndP.mk ?_ trivial | refine EndP.mk ?_ ⟨.inr ⟨List.mem_cons_self .., ?_, rfl⟩, trivial⟩ | refine Ar.i64 (by omega) ?_ | refine Ar.u8 (by omega) ?_ | refine Quo.pos (by omega) ?_ | refine Rem.pos (by omega) ?_ | refine BsP.own ?_ | refine SetN.two ?_ | refine SetN.one ?_ | refine Ob.mk ⟨rfl, rfl⟩ ?_ | refine Ob.mk (flat_i _ _).1 ?_ | refine Ob.mk (flat_i _ _) ?_ | refine Ob.mk (flat_s _) ?_ | refine Ob.mk (by first | omega | (simp; first | done | fail) | (simp; omega)) ?_ | fail
    all_goals first
      | (exfalso; exact absurd (by assumption) ht)
      | (exfalso; exact absurd ht (by assumption))
      | (rw [decide_eq_true (show sourceOk lvl bits w h p rq rt ev re from ⟨ht, by assumption, by assumption, by omega, by omega⟩)]; first | rfl | (simp [resOf]; first | done | fail))
      | (rw [decide_eq_false (show ¬ sourceOk lvl bits w h p rq rt ev re from fun k => absurd k.2.1 (by assumption))]; rfl)
      | (rw [decide_eq_false (show ¬ sourceOk lvl bits w h p rq rt ev re from fun k => absurd k.2.2.1 (by assumption))]; rfl)
      | (rw [decide_eq_false (show ¬ sourceOk lvl bits w h p rq rt ev re from fun k => absurd k.1 ht)]; rfl)
      | (rw [decide_eq_false (show ¬ sourceOk lvl bits w h p rq rt ev re from fun k => by have := k.2.2.2; omega)]; rfl)
end Go.Proofs.Ytjomgcgeknpehaa
