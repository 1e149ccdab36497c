/- Plans in the laws. No condition. -/
import Derived.Test.YtafipjhalboefaaGreatBa
import Derived.Test.YtafipjhalboefaaGreatTh
namespace Go.Proofs.YtafipjhalboefaaGreat
open Go Go.Vx
set_option linter.unusedVariables false
set_option linter.unusedSimpArgs false
set_option maxHeartbeats 600000
set_option maxRecDepth 100000
def znLayout (a : Layout) : Nat := a.cols.length + a.rows.length + a.who.length
structure HasLayout (x0 : Layout) : Prop where
  cols : x0.cols.length ≤ maxLen ∧ ∀ z ∈ x0.cols, IntKind.i64.has z
  rows : x0.rows.length ≤ maxLen ∧ ∀ z ∈ x0.rows, IntKind.i64.has z
  who : x0.who.length ≤ maxLen ∧ ∀ z ∈ x0.who, IntKind.i64.has z
theorem imm_layO (a : Layout) : (layO a).toImm = layV a := by simp [layO, layV, V.toImm, V.toImm.go, imm_iO]
theorem own_layO (a : Layout) : (layO a).noSl = true := by simp [layO, iO, V.noSl, V.noSl.go, own_i]
theorem immR_layO (l : List Layout) : (l.map layO).map V.toImm = l.map layV := immR imm_layO l
theorem ownR_layO (l : List Layout) : V.noSl.go (l.map layO) = true := noSl_map own_layO l
def parD : Par := ⟨0, false, false, false⟩
structure HasPar (x0 : Par) : Prop where
  qp : IntKind.i64.has x0.qp
theorem imm_parV (a : Par) : (parV a).toImm = parV a := rfl
theorem own_parV (a : Par) : (parV a).noSl = true := rfl
theorem immR_parV (l : List Par) : (l.map parV).map V.toImm = l.map parV := immR imm_parV l
theorem ownR_parV (l : List Par) : V.noSl.go (l.map parV) = true := noSl_map own_parV l
theorem toLayout_w (a : Layout) (h : znLayout a ≤ 1000000000) : Vow Tryz.prog 95 [layV a] (layO a) [] := by
  have ht : znLayout a = a.cols.length + a.rows.length + a.who.length := rfl
  refine vow_of_ev (fn := Tryz.f95) [] [(0, 0), (0, 0), (4, 8), (8, 12), (12, 16), (16, 17)] tt_ok Tryz.func95 (by decide) rfl (Nat.le_of_ble_eq_true rfl) rfl rfl rfl ?_
  repeat' (conv => whnf); first | refine CallP.re (toIntS_vow a.cols (by omega)) (by first | with_reducible rfl | (simp only [imm_i, imm_s, imm_b, iO, iS, imm_iO, layV, layO, imm_layO, own_layO, immR_layO, ownR_layO]; first | done | fail)) rfl rfl rfl (by first | rfl | exact own_i _ _ | exact own_s _ | exact own_b _ | (simp [V.noSl, V.noSl.go, own_i, own_s, own_b, iO, iS, imm_iO, layV, layO, imm_layO, own_layO, immR_layO, ownR_layO]; first | done | fail)) ?_ | refine CallP.re (toIntS_vow a.rows (by omega)) (by first | with_reducible rfl | (simp only [imm_i, imm_s, imm_b, iO, iS, imm_iO, layV, layO, imm_layO, own_layO, immR_layO, ownR_layO]; first | done | fail)) rfl rfl rfl (by first | rfl | exact own_i _ _ | exact own_s _ | exact own_b _ | (simp [V.noSl, V.noSl.go, own_i, own_s, own_b, iO, iS, imm_iO, layV, layO, imm_layO, own_layO, immR_layO, ownR_layO]; first | done | fail)) ?_ | refine CallP.re (toIntS_vow a.who (by omega)) (by first | with_reducible rfl | (simp only [imm_i, imm_s, imm_b, iO, iS, imm_iO, layV, layO, imm_layO, own_layO, immR_layO, ownR_layO]; first | done | fail)) rfl rfl rfl (by first | rfl | exact own_i _ _ | exact own_s _ | exact own_b _ | (simp [V.noSl, V.noSl.go, own_i, own_s, own_b, iO, iS, imm_iO, layV, layO, imm_layO, own_layO, immR_layO, ownR_layO]; first | done | fail)) ?_ | refine Br.tt ?_ | refine Br.ff ?_ | refine Br.not ?_ | refine Br.dand (fun _ => ?_) (fun _ => ?_) | refine Br.dec (fun _ => ?_) (fun _ => ?_) | refine Br.beq (fun _ => ?_) (fun _ => ?_) | refine Br.bne (fun _ => ?_) (fun _ => ?_) | refine Br.seq (fun _ => ?_) (fun _ => ?_) | refine Elt.i (by omega) ?_ | refine EltN.i (by omega) ?_ | refine Nt.cast ?_ | refine Nt.mk _ rfl ?_ | refine EltN.mk _ rfl ?_ | refine Mx.mk _ rfl ?_ | refine Br.mk (fun _ => ?_) (fun _ => ?_) | refine EndP.mk ?_ trivial | refine EndP.mk ?_ ⟨.inr ⟨List.mem_cons_self .., ?_, rfl⟩, trivial⟩ | refine Ar.i64 (by omega) ?_ | refine Ar.u8 (by omega) ?_ | refine Quo.pos (by omega) ?_ | refine Rem.pos (by omega) ?_ | refine BsP.own ?_ | refine SetN.two ?_ | refine SetN.one ?_ | refine Ob.mk ⟨rfl, rfl⟩ ?_ | refine Ob.mk (flat_i _ _).1 ?_ | refine Ob.mk (flat_i _ _) ?_ | refine Ob.mk (flat_s _) ?_ | refine Ob.mk (by first | omega | (simp; first | done | fail) | (simp; omega)) ?_ | fail
  all_goals rfl

theorem eqLayout_w (a : Layout) (h : znLayout a ≤ 1000000000) : Vow Tryz.prog 107 [layV a, layV a] (.b true) [] := by
  have ht : znLayout a = a.cols.length + a.rows.length + a.who.length := rfl
  refine vow_of_ev (fn := Tryz.f107) [] [(0, 0), (5, 10), (0, 0), (11, 16), (0, 0), (17, 22), (0, 0), (0, 0)] tt_ok Tryz.func107 (by decide) rfl (Nat.le_of_ble_eq_true rfl) rfl rfl rfl ?_
  repeat' (conv => whnf); first | refine Br.ne_self ?_ | refine Br.eq_self ?_ | refine Br.deq ?_ | refine CallP.rd (eqIntS_w a.cols (by omega)) rfl rfl rfl rfl ?_ | refine CallP.rd (eqIntS_w a.rows (by omega)) rfl rfl rfl rfl ?_ | refine CallP.rd (eqIntS_w a.who (by omega)) rfl rfl rfl rfl ?_ | refine Br.tt ?_ | refine Br.ff ?_ | refine Br.not ?_ | refine Br.dand (fun _ => ?_) (fun _ => ?_) | refine Br.dec (fun _ => ?_) (fun _ => ?_) | refine Br.beq (fun _ => ?_) (fun _ => ?_) | refine Br.bne (fun _ => ?_) (fun _ => ?_) | refine Br.seq (fun _ => ?_) (fun _ => ?_) | refine Elt.i (by omega) ?_ | refine EltN.i (by omega) ?_ | refine Nt.cast ?_ | refine Nt.mk _ rfl ?_ | refine EltN.mk _ rfl ?_ | refine Mx.mk _ rfl ?_ | refine Br.mk (fun _ => ?_) (fun _ => ?_) | refine EndP.mk ?_ trivial | refine EndP.mk ?_ ⟨.inr ⟨List.mem_cons_self .., ?_, rfl⟩, trivial⟩ | refine Ar.i64 (by omega) ?_ | refine Ar.u8 (by omega) ?_ | refine Quo.pos (by omega) ?_ | refine Rem.pos (by omega) ?_ | refine BsP.own ?_ | refine SetN.two ?_ | refine SetN.one ?_ | refine Ob.mk ⟨rfl, rfl⟩ ?_ | refine Ob.mk (flat_i _ _).1 ?_ | refine Ob.mk (flat_i _ _) ?_ | refine Ob.mk (flat_s _) ?_ | refine Ob.mk (by first | omega | (simp; first | done | fail) | (simp; omega)) ?_ | fail
  all_goals rfl
theorem szLayout_w (a : Layout) (h : HasLayout a) (left : Int) (hl : 0 ≤ left ∧ left ≤ 1048576) : Vow Tryz.prog 84 [layV a, .i .i64 left] (.i .i64 (szL (znLayout a) left)) [] := by
  have ht : znLayout a = a.cols.length + a.rows.length + a.who.length := rfl
  have hm : maxLen ≤ 9223372036854775807 := by decide
  have c := szL_le (znLayout a) left
  have c0 := szL_le (a.cols.length) (left)
  have c1 := szL_le (a.rows.length) (szL (a.cols.length) (left))
  have c2 := szL_le (a.who.length) (szL (a.rows.length) (szL (a.cols.length) (left)))
  refine vow_of_ev (fn := Tryz.f84) [] [(0, 0), (5, 9), (9, 10), (0, 0), (11, 15), (15, 16), (0, 0), (17, 21), (21, 22), (0, 0), (23, 24)] tt_ok Tryz.func84 (by decide) rfl (Nat.le_of_ble_eq_true rfl) rfl rfl rfl ?_
  repeat' (conv => whnf); first | refine CallP.rd (szIntS_w a.cols (left) h.cols.1 (by omega)) rfl rfl rfl rfl ?_ | refine CallP.rd (szIntS_w a.rows (szL (a.cols.length) (left)) h.rows.1 (by omega)) rfl rfl rfl rfl ?_ | refine CallP.rd (szIntS_w a.who (szL (a.rows.length) (szL (a.cols.length) (left))) h.who.1 (by omega)) rfl rfl rfl rfl ?_ | refine Br.tt ?_ | refine Br.ff ?_ | refine Br.not ?_ | refine Br.dand (fun _ => ?_) (fun _ => ?_) | refine Br.dec (fun _ => ?_) (fun _ => ?_) | refine Br.beq (fun _ => ?_) (fun _ => ?_) | refine Br.bne (fun _ => ?_) (fun _ => ?_) | refine Br.seq (fun _ => ?_) (fun _ => ?_) | refine Elt.i (by omega) ?_ | refine EltN.i (by omega) ?_ | refine Nt.cast ?_ | refine Nt.mk _ rfl ?_ | refine EltN.mk _ rfl ?_ | refine Mx.mk _ rfl ?_ | refine Br.mk (fun _ => ?_) (fun _ => ?_) | refine EndP.mk ?_ trivial | refine EndP.mk ?_ ⟨.inr ⟨List.mem_cons_self .., ?_, rfl⟩, trivial⟩ | refine Ar.i64 (by omega) ?_ | refine Ar.u8 (by omega) ?_ | refine Quo.pos (by omega) ?_ | refine Rem.pos (by omega) ?_ | refine BsP.own ?_ | refine SetN.two ?_ | refine SetN.one ?_ | refine Ob.mk ⟨rfl, rfl⟩ ?_ | refine Ob.mk (flat_i _ _).1 ?_ | refine Ob.mk (flat_i _ _) ?_ | refine Ob.mk (flat_s _) ?_ | refine Ob.mk (by first | omega | (simp; first | done | fail) | (simp; omega)) ?_ | fail
  all_goals first
    | (exfalso; omega)
    | (rw [show szL (znLayout a) left = -1 by omega]; rfl)
    | (rw [show szL (znLayout a) left = szL (a.who.length) (szL (a.rows.length) (szL (a.cols.length) (left))) by omega]; rfl)
theorem toPar_w (a : Par) : Vow Tryz.prog 94 [parV a] (parV a) [] := by
  refine vow_of_ev (fn := Tryz.f94) [] [(0, 0), (0, 0), (4, 7), (7, 10), (10, 13), (13, 16), (16, 17)] tt_ok Tryz.func94 (by decide) rfl (Nat.le_of_ble_eq_true rfl) rfl rfl rfl ?_
  repeat' (conv => whnf); first | refine Br.tt ?_ | refine Br.ff ?_ | refine Br.not ?_ | refine Br.dand (fun _ => ?_) (fun _ => ?_) | refine Br.dec (fun _ => ?_) (fun _ => ?_) | refine Br.beq (fun _ => ?_) (fun _ => ?_) | refine Br.bne (fun _ => ?_) (fun _ => ?_) | refine Br.seq (fun _ => ?_) (fun _ => ?_) | refine Elt.i (by omega) ?_ | refine EltN.i (by omega) ?_ | refine Nt.cast ?_ | refine Nt.mk _ rfl ?_ | refine EltN.mk _ rfl ?_ | refine Mx.mk _ rfl ?_ | refine Br.mk (fun _ => ?_) (fun _ => ?_) | refine EndP.mk ?_ trivial | refine EndP.mk ?_ ⟨.inr ⟨List.mem_cons_self .., ?_, rfl⟩, trivial⟩ | refine Ar.i64 (by omega) ?_ | refine Ar.u8 (by omega) ?_ | refine Quo.pos (by omega) ?_ | refine Rem.pos (by omega) ?_ | refine BsP.own ?_ | refine SetN.two ?_ | refine SetN.one ?_ | refine Ob.mk ⟨rfl, rfl⟩ ?_ | refine Ob.mk (flat_i _ _).1 ?_ | refine Ob.mk (flat_i _ _) ?_ | refine Ob.mk (flat_s _) ?_ | refine Ob.mk (by first | omega | (simp; first | done | fail) | (simp; omega)) ?_ | fail
  all_goals rfl

theorem eqPar_w (a : Par) : Vow Tryz.prog 106 [parV a, parV a] (.b true) [] := by
  refine vow_of_ev (fn := Tryz.f106) [] [(0, 0), (5, 9), (0, 0), (10, 14), (0, 0), (15, 19), (0, 0), (20, 24), (0, 0), (0, 0)] tt_ok Tryz.func106 (by decide) rfl (Nat.le_of_ble_eq_true rfl) rfl rfl rfl ?_
  repeat' (conv => whnf); first | refine Br.ne_self ?_ | refine Br.eq_self ?_ | refine Br.deq ?_ | refine Br.tt ?_ | refine Br.ff ?_ | refine Br.not ?_ | refine Br.dand (fun _ => ?_) (fun _ => ?_) | refine Br.dec (fun _ => ?_) (fun _ => ?_) | refine Br.beq (fun _ => ?_) (fun _ => ?_) | refine Br.bne (fun _ => ?_) (fun _ => ?_) | refine Br.seq (fun _ => ?_) (fun _ => ?_) | refine Elt.i (by omega) ?_ | refine EltN.i (by omega) ?_ | refine Nt.cast ?_ | refine Nt.mk _ rfl ?_ | refine EltN.mk _ rfl ?_ | refine Mx.mk _ rfl ?_ | refine Br.mk (fun _ => ?_) (fun _ => ?_) | refine EndP.mk ?_ trivial | refine EndP.mk ?_ ⟨.inr ⟨List.mem_cons_self .., ?_, rfl⟩, trivial⟩ | refine Ar.i64 (by omega) ?_ | refine Ar.u8 (by omega) ?_ | refine Quo.pos (by omega) ?_ | refine Rem.pos (by omega) ?_ | refine BsP.own ?_ | refine SetN.two ?_ | refine SetN.one ?_ | refine Ob.mk ⟨rfl, rfl⟩ ?_ | refine Ob.mk (flat_i _ _).1 ?_ | refine Ob.mk (flat_i _ _) ?_ | refine Ob.mk (flat_s _) ?_ | refine Ob.mk (by first | omega | (simp; first | done | fail) | (simp; omega)) ?_ | fail
  all_goals rfl

end Go.Proofs.YtafipjhalboefaaGreat
