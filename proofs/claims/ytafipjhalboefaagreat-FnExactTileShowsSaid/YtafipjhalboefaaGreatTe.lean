/- Cameras and their sources. No condition. -/
import Derived.Test.YtafipjhalboefaaGreatSl
import Derived.Test.YtafipjhalboefaaGreatSb
namespace Go.Proofs.YtafipjhalboefaaGreat
open Go Go.Vx
set_option linter.unusedVariables false
set_option linter.unusedSimpArgs false
set_option maxHeartbeats 600000
set_option maxRecDepth 100000

theorem _root_.Go.Vx.Shl.to {k : IntKind} {a b m : Int} {κ : Int → Prop} (e : k.wrap (a * 2 ^ min b.toNat k.bits) = m) (h : ¬ b < 0) (g : κ m) : Shl k a b κ := .mk h (by rw [e]; exact g)
theorem seqOk_sides {lvl bits : Int} {c r : List Int} (h : seqOk lvl bits c r = true) : (sidesOk c ∧ sidesOk r) ∧ 3 ≤ bits ∧ bits ≤ 8 := by
  simp only [seqOk, Bool.and_eq_true, decide_eq_true_eq] at h
  exact ⟨squares_sides (by omega), h.2⟩
theorem seqOk_iff {lvl bits : Int} {c r : List Int} : seqOk lvl bits c r = true ↔ (1 ≤ squares c r ∧ squares c r ≤ levelSq lvl) ∧ 3 ≤ bits ∧ bits ≤ 8 := by
  simp only [seqOk, Bool.and_eq_true, decide_eq_true_eq]
theorem tiles_fit {c r : List Int} (h : sidesOk c ∧ sidesOk r) : 0 ≤ ((c.map (V.i .i64)).length : Int) * ((r.map (V.i .i64)).length : Int) ∧ ((c.map (V.i .i64)).length : Int) * ((r.map (V.i .i64)).length : Int) ≤ 4 * 4 := by
  have a1 := h.1.1
  have a2 := h.2.1
  rw [List.length_map, List.length_map]
  exact mul_fit (by omega) (by omega)
def tilesOf (lvl bits : Int) (c r : List Int) : Int := if seqOk lvl bits c r = true then (c.length : Int) * (r.length : Int) else 0
theorem tilesOf_impl (lvl bits : Int) (c r : List Int) : Vow Tryz.prog 68 [seqV lvl bits c r] (.i .i64 (tilesOf lvl bits c r)) [] := by
  refine vow_of_ev (fn := Tryz.f68) [] [(0, 0), (3, 5), (0, 0), (6, 13)] tt_ok Tryz.func68 (by decide) rfl (Nat.le_of_ble_eq_true rfl) rfl rfl rfl ?_
  by_cases h : seqOk lvl bits c r = true
  · have m := tiles_fit (seqOk_sides h).1
    have e1 : (c.map (V.i .i64)).length = c.length := by simp
    have e2 : (r.map (V.i .i64)).length = r.length := by simp
    repeat' (conv => whnf); first | refine CallP.rd (seqOk_impl lvl bits c r) rfl rfl rfl rfl ?_ | refine DCall.rd (seqOk_impl lvl bits c r) rfl rfl ?_ | refine Br.tt ?_ | refine Br.ff ?_ | refine Br.not ?_ | refine Br.dand (fun _ => ?_) (fun _ => ?_) | refine Br.dec (fun _ => ?_) (fun _ => ?_) | refine Br.beq (fun _ => ?_) (fun _ => ?_) | refine Br.bne (fun _ => ?_) (fun _ => ?_) | refine Br.seq (fun _ => ?_) (fun _ => ?_) | refine Elt.i (by omega) ?_ | refine EltN.i (by omega) ?_ | refine Nt.cast ?_ | refine Nt.mk _ rfl ?_ | refine EltN.mk _ rfl ?_ | refine Mx.mk _ rfl ?_ | refine Br.mk (fun _ => ?_) (fun _ => ?_) | refine EndP.mk ?_ trivial | refine EndP.mk ?_ ⟨.inr ⟨List.mem_cons_self .., ?_, rfl⟩, trivial⟩ | refine Ar.i64 (by omega) ?_ | refine Ar.u8 (by omega) ?_ | refine Quo.pos (by omega) ?_ | refine Rem.pos (by omega) ?_ | refine BsP.own ?_ | refine SetN.two ?_ | refine SetN.one ?_ | refine Ob.mk ⟨rfl, rfl⟩ ?_ | refine Ob.mk (flat_i _ _).1 ?_ | refine Ob.mk (flat_i _ _) ?_ | refine Ob.mk (flat_s _) ?_ | refine Ob.mk (by first | omega | (simp; first | done | fail) | (simp; omega)) ?_ | fail
    all_goals first | (rw [tilesOf, if_pos h, ← e1, ← e2]; rfl) | exact absurd (seqOk_iff.1 h) (by assumption)
  · repeat' (conv => whnf); first | refine CallP.rd (seqOk_impl lvl bits c r) rfl rfl rfl rfl ?_ | refine DCall.rd (seqOk_impl lvl bits c r) rfl rfl ?_ | refine Br.tt ?_ | refine Br.ff ?_ | refine Br.not ?_ | refine Br.dand (fun _ => ?_) (fun _ => ?_) | refine Br.dec (fun _ => ?_) (fun _ => ?_) | refine Br.beq (fun _ => ?_) (fun _ => ?_) | refine Br.bne (fun _ => ?_) (fun _ => ?_) | refine Br.seq (fun _ => ?_) (fun _ => ?_) | refine Elt.i (by omega) ?_ | refine EltN.i (by omega) ?_ | refine Nt.cast ?_ | refine Nt.mk _ rfl ?_ | refine EltN.mk _ rfl ?_ | refine Mx.mk _ rfl ?_ | refine Br.mk (fun _ => ?_) (fun _ => ?_) | refine EndP.mk ?_ trivial | refine EndP.mk ?_ ⟨.inr ⟨List.mem_cons_self .., ?_, rfl⟩, trivial⟩ | refine Ar.i64 (by omega) ?_ | refine Ar.u8 (by omega) ?_ | refine Quo.pos (by omega) ?_ | refine Rem.pos (by omega) ?_ | refine BsP.own ?_ | refine SetN.two ?_ | refine SetN.one ?_ | refine Ob.mk ⟨rfl, rfl⟩ ?_ | refine Ob.mk (flat_i _ _).1 ?_ | refine Ob.mk (flat_i _ _) ?_ | refine Ob.mk (flat_s _) ?_ | refine Ob.mk (by first | omega | (simp; first | done | fail) | (simp; omega)) ?_ | fail
    all_goals first | (rw [tilesOf, if_neg h]; rfl) | exact absurd (seqOk_iff.2 (by assumption)) h
theorem tilesOf_spec (lvl bits : Int) (c r : List Int) : Vow Tryz.prog 65 [seqV lvl bits c r] (.i .i64 (tilesOf lvl bits c r)) [] := by
  refine vow_of_ev (fn := Tryz.f65) [] [(0, 0), (3, 5), (0, 0), (6, 13)] tt_ok Tryz.func65 (by decide) rfl (Nat.le_of_ble_eq_true rfl) rfl rfl rfl ?_
  by_cases h : seqOk lvl bits c r = true
  · have m := tiles_fit (seqOk_sides h).1
    have e1 : (c.map (V.i .i64)).length = c.length := by simp
    have e2 : (r.map (V.i .i64)).length = r.length := by simp
    repeat' (conv => whnf); first | refine CallP.rd (seqOk_spec lvl bits c r) rfl rfl rfl rfl ?_ | refine DCall.rd (seqOk_spec lvl bits c r) rfl rfl ?_ | refine Br.tt ?_ | refine Br.ff ?_ | refine Br.not ?_ | refine Br.dand (fun _ => ?_) (fun _ => ?_) | refine Br.dec (fun _ => ?_) (fun _ => ?_) | refine Br.beq (fun _ => ?_) (fun _ => ?_) | refine Br.bne (fun _ => ?_) (fun _ => ?_) | refine Br.seq (fun _ => ?_) (fun _ => ?_) | refine Elt.i (by omega) ?_ | refine EltN.i (by omega) ?_ | refine Nt.cast ?_ | refine Nt.mk _ rfl ?_ | refine EltN.mk _ rfl ?_ | refine Mx.mk _ rfl ?_ | refine Br.mk (fun _ => ?_) (fun _ => ?_) | refine EndP.mk ?_ trivial | refine EndP.mk ?_ ⟨.inr ⟨List.mem_cons_self .., ?_, rfl⟩, trivial⟩ | refine Ar.i64 (by omega) ?_ | refine Ar.u8 (by omega) ?_ | refine Quo.pos (by omega) ?_ | refine Rem.pos (by omega) ?_ | refine BsP.own ?_ | refine SetN.two ?_ | refine SetN.one ?_ | refine Ob.mk ⟨rfl, rfl⟩ ?_ | refine Ob.mk (flat_i _ _).1 ?_ | refine Ob.mk (flat_i _ _) ?_ | refine Ob.mk (flat_s _) ?_ | refine Ob.mk (by first | omega | (simp; first | done | fail) | (simp; omega)) ?_ | fail
    all_goals first | (rw [tilesOf, if_pos h, ← e1, ← e2]; rfl) | exact absurd (seqOk_iff.1 h) (by assumption)
  · repeat' (conv => whnf); first | refine CallP.rd (seqOk_spec lvl bits c r) rfl rfl rfl rfl ?_ | refine DCall.rd (seqOk_spec lvl bits c r) rfl rfl ?_ | refine Br.tt ?_ | refine Br.ff ?_ | refine Br.not ?_ | refine Br.dand (fun _ => ?_) (fun _ => ?_) | refine Br.dec (fun _ => ?_) (fun _ => ?_) | refine Br.beq (fun _ => ?_) (fun _ => ?_) | refine Br.bne (fun _ => ?_) (fun _ => ?_) | refine Br.seq (fun _ => ?_) (fun _ => ?_) | refine Elt.i (by omega) ?_ | refine EltN.i (by omega) ?_ | refine Nt.cast ?_ | refine Nt.mk _ rfl ?_ | refine EltN.mk _ rfl ?_ | refine Mx.mk _ rfl ?_ | refine Br.mk (fun _ => ?_) (fun _ => ?_) | refine EndP.mk ?_ trivial | refine EndP.mk ?_ ⟨.inr ⟨List.mem_cons_self .., ?_, rfl⟩, trivial⟩ | refine Ar.i64 (by omega) ?_ | refine Ar.u8 (by omega) ?_ | refine Quo.pos (by omega) ?_ | refine Rem.pos (by omega) ?_ | refine BsP.own ?_ | refine SetN.two ?_ | refine SetN.one ?_ | refine Ob.mk ⟨rfl, rfl⟩ ?_ | refine Ob.mk (flat_i _ _).1 ?_ | refine Ob.mk (flat_i _ _) ?_ | refine Ob.mk (flat_s _) ?_ | refine Ob.mk (by first | omega | (simp; first | done | fail) | (simp; omega)) ?_ | fail
    all_goals first | (rw [tilesOf, if_neg h]; rfl) | exact absurd (seqOk_iff.2 (by assumption)) h

structure Par where
  qp : Int
  large : Bool
  exact : Bool
  confined : Bool
  deriving DecidableEq
def parV (p : Par) : V := .ag [.i .i64 p.qp, .b p.large, .b p.exact, .b p.confined]
def parOk (p : Par) : Prop := (0 ≤ p.qp ∧ p.qp ≤ 40) ∧ ¬ (p.large = true ∧ p.exact = true)
instance (p : Par) : Decidable (parOk p) := by unfold parOk; infer_instance
def rateOk (q t : Int) : Prop := (0 ≤ q ∧ q ≤ 40) ∧ 1 ≤ t ∧ t ≤ 100000
instance (q t : Int) : Decidable (rateOk q t) := by unfold rateOk; infer_instance
def sourceOk (lvl bits w h : Int) (p : Par) (rq rt ev re : Int) : Prop :=
  tilesOf lvl bits [w] [h] = 1 ∧ parOk p ∧ rateOk rq rt ∧ (1 ≤ ev ∧ ev ≤ 1000) ∧ (0 ≤ re ∧ re ≤ 4)
instance (lvl bits w h : Int) (p : Par) (rq rt ev re : Int) : Decidable (sourceOk lvl bits w h p rq rt ev re) := by unfold sourceOk; infer_instance
end Go.Proofs.YtafipjhalboefaaGreat
