/- Cameras in the laws: copied, compared, marked, held. No condition. -/
import Derived.Test.YtafipjhalboefaaTe
namespace Go.Proofs.Ytafipjhalboefaa
open Go Go.Vx
set_option linter.unusedVariables false
set_option linter.unusedSimpArgs false
set_option maxHeartbeats 600000
set_option maxRecDepth 100000


structure CamPlan where
  wide : Int
  high : Int
  bits : Int
  qp : Int
  target : Int
  every : Int
  reach : Int
  seed : Int
  seq : Int
  size : Int
def planV (c : CamPlan) : V := .ag [.i .i64 c.wide, .i .i64 c.high, .i .i64 c.bits, .i .i64 c.qp, .i .i64 c.target, .i .i64 c.every, .i .i64 c.reach, .i .i64 c.seed, .i .i64 c.seq, .i .i64 c.size]
def camR (p : Par) (c : CamPlan) (x y : V) : List V := srcR (levelFor [c.wide] [c.high]) c.bits c.wide c.high ⟨c.qp, p.large, p.exact, p.confined⟩ c.qp c.target c.every c.reach x y ++ [.i .i64 0, .i .i64 c.seq]
def camO (p : Par) (c : CamPlan) : V := .ag (camR p c (.ow 1 [.i .i64 c.wide]) (.ow 1 [.i .i64 c.high]))
def camN : V := .ag (srcR 0 0 0 0 ⟨0, false, false, false⟩ 0 0 0 0 .nl .nl ++ [.i .i64 0, .i .i64 0])

theorem toPar_vow (p : Par) : Vow Try.prog 51 [parV p] (parV p) [] := by
  refine vow_of_ev (fn := Try.f51) [] [(0, 0), (0, 0), (4, 7), (7, 10), (10, 13), (13, 16), (16, 17)] tt_ok Try.func51 (by decide) rfl (Nat.le_of_ble_eq_true rfl) rfl rfl rfl ?_
  repeat' (conv => whnf); first | refine Br.tt ?_ | refine Br.ff ?_ | refine Br.not ?_ | refine Br.dand (fun _ => ?_) (fun _ => ?_) | refine Br.dec (fun _ => ?_) (fun _ => ?_) | refine Br.beq (fun _ => ?_) (fun _ => ?_) | refine Br.bne (fun _ => ?_) (fun _ => ?_) | refine Br.seq (fun _ => ?_) (fun _ => ?_) | refine Elt.i (by omega) ?_ | refine EltN.i (by omega) ?_ | refine Nt.cast ?_ | refine Nt.mk _ rfl ?_ | refine EltN.mk _ rfl ?_ | refine Mx.mk _ rfl ?_ | refine Br.mk (fun _ => ?_) (fun _ => ?_) | refine EndP.mk ?_ trivial | refine EndP.mk ?_ ⟨.inr ⟨List.mem_cons_self .., ?_, rfl⟩, trivial⟩ | refine Ar.i64 (by omega) ?_ | refine Ar.u8 (by omega) ?_ | refine Quo.pos (by omega) ?_ | refine Rem.pos (by omega) ?_ | refine BsP.own ?_ | refine SetN.two ?_ | refine SetN.one ?_ | refine Ob.mk ⟨rfl, rfl⟩ ?_ | refine Ob.mk (flat_i _ _).1 ?_ | refine Ob.mk (flat_i _ _) ?_ | refine Ob.mk (flat_s _) ?_ | refine Ob.mk (by first | omega | (simp; first | done | fail) | (simp; omega)) ?_ | fail
  rfl
theorem eqPar_vow (p : Par) : Vow Try.prog 60 [parV p, parV p] (.b true) [] := by
  obtain ⟨q, l, e, c⟩ := p
  refine vow_of_ev (fn := Try.f60) [] [(0, 0), (5, 9), (0, 0), (10, 14), (0, 0), (15, 19), (0, 0), (20, 24), (0, 0), (0, 0)] tt_ok Try.func60 (by decide) rfl (Nat.le_of_ble_eq_true rfl) rfl rfl rfl ?_
  cases l <;> cases e <;> cases c
  all_goals (repeat' (conv => whnf); first | refine Br.tt ?_ | refine Br.ff ?_ | refine Br.not ?_ | refine Br.dand (fun _ => ?_) (fun _ => ?_) | refine Br.dec (fun _ => ?_) (fun _ => ?_) | refine Br.beq (fun _ => ?_) (fun _ => ?_) | refine Br.bne (fun _ => ?_) (fun _ => ?_) | refine Br.seq (fun _ => ?_) (fun _ => ?_) | refine Elt.i (by omega) ?_ | refine EltN.i (by omega) ?_ | refine Nt.cast ?_ | refine Nt.mk _ rfl ?_ | refine EltN.mk _ rfl ?_ | refine Mx.mk _ rfl ?_ | refine Br.mk (fun _ => ?_) (fun _ => ?_) | refine EndP.mk ?_ trivial | refine EndP.mk ?_ ⟨.inr ⟨List.mem_cons_self .., ?_, rfl⟩, trivial⟩ | refine Ar.i64 (by omega) ?_ | refine Ar.u8 (by omega) ?_ | refine Quo.pos (by omega) ?_ | refine Rem.pos (by omega) ?_ | refine BsP.own ?_ | refine SetN.two ?_ | refine SetN.one ?_ | refine Ob.mk ⟨rfl, rfl⟩ ?_ | refine Ob.mk (flat_i _ _).1 ?_ | refine Ob.mk (flat_i _ _) ?_ | refine Ob.mk (flat_s _) ?_ | refine Ob.mk (by first | omega | (simp; first | done | fail) | (simp; omega)) ?_ | fail)
  all_goals first | rfl | exact absurd rfl ‹¬ _ = _›
theorem eqRate_vow (q t d : Int) : Vow Try.prog 95 [.ag [.i .i64 q, .i .i64 t, .i .i64 d], .ag [.i .i64 q, .i .i64 t, .i .i64 d]] (.b true) [] := by
  refine vow_of_ev (fn := Try.f95) [] [(0, 0), (5, 9), (0, 0), (10, 14), (0, 0), (15, 19), (0, 0), (0, 0)] tt_ok Try.func95 (by decide) rfl (Nat.le_of_ble_eq_true rfl) rfl rfl rfl ?_
  repeat' (conv => whnf); first | refine Br.tt ?_ | refine Br.ff ?_ | refine Br.not ?_ | refine Br.dand (fun _ => ?_) (fun _ => ?_) | refine Br.dec (fun _ => ?_) (fun _ => ?_) | refine Br.beq (fun _ => ?_) (fun _ => ?_) | refine Br.bne (fun _ => ?_) (fun _ => ?_) | refine Br.seq (fun _ => ?_) (fun _ => ?_) | refine Elt.i (by omega) ?_ | refine EltN.i (by omega) ?_ | refine Nt.cast ?_ | refine Nt.mk _ rfl ?_ | refine EltN.mk _ rfl ?_ | refine Mx.mk _ rfl ?_ | refine Br.mk (fun _ => ?_) (fun _ => ?_) | refine EndP.mk ?_ trivial | refine EndP.mk ?_ ⟨.inr ⟨List.mem_cons_self .., ?_, rfl⟩, trivial⟩ | refine Ar.i64 (by omega) ?_ | refine Ar.u8 (by omega) ?_ | refine Quo.pos (by omega) ?_ | refine Rem.pos (by omega) ?_ | refine BsP.own ?_ | refine SetN.two ?_ | refine SetN.one ?_ | refine Ob.mk ⟨rfl, rfl⟩ ?_ | refine Ob.mk (flat_i _ _).1 ?_ | refine Ob.mk (flat_i _ _) ?_ | refine Ob.mk (flat_s _) ?_ | refine Ob.mk (by first | omega | (simp; first | done | fail) | (simp; omega)) ?_ | fail
  all_goals first | rfl | exact absurd rfl ‹¬ _ = _›

set_option maxHeartbeats 6000000 in
theorem eqSource_vow (v b w h : Int) (p : Par) (rq rt ev re : Int) (c r : List Int) (hc : c.length ≤ 17592186044416) (hr : r.length ≤ 17592186044416) :
    Vow Try.prog 82 [.ag (srcR v b w h p rq rt ev re (iS c) (iS r)), .ag (srcR v b w h p rq rt ev re (iS c) (iS r))] (.b true) [] := by
  refine vow_of_ev (fn := Try.f82) [] [(0, 0), (5, 10), (0, 0), (11, 16), (0, 0), (17, 22), (0, 0), (23, 27), (0, 0), (28, 32), (0, 0), (33, 37), (0, 0), (38, 42), (0, 0), (43, 47), (0, 0), (48, 53), (0, 0), (0, 0)] tt_ok Try.func82 (by decide) rfl (Nat.le_of_ble_eq_true rfl) rfl rfl rfl ?_
  have hs := eqSeq_vow v b v b c r c r hc hr hc hr
  rw [decide_eq_true (show v = v ∧ b = b ∧ c = c ∧ r = r from ⟨rfl, rfl, rfl, rfl⟩)] at hs
  have hq := eqPic_vow ⟨0, 0, []⟩ ⟨0, 0, []⟩
  rw [decide_eq_true rfl] at hq
  repeat' (conv => whnf); first | refine CallP.rd (hs) rfl rfl rfl rfl ?_ | refine DCall.rd (hs) rfl rfl ?_ | refine CallP.rd (eqPar_vow p) rfl rfl rfl rfl ?_ | refine DCall.rd (eqPar_vow p) rfl rfl ?_ | refine CallP.rd (eqRate_vow rq rt 0) rfl rfl rfl rfl ?_ | refine DCall.rd (eqRate_vow rq rt 0) rfl rfl ?_ | refine CallP.rd (hq) rfl rfl rfl rfl ?_ | refine DCall.rd (hq) rfl rfl ?_ | refine Br.tt ?_ | refine Br.ff ?_ | refine Br.not ?_ | refine Br.dand (fun _ => ?_) (fun _ => ?_) | refine Br.dec (fun _ => ?_) (fun _ => ?_) | refine Br.beq (fun _ => ?_) (fun _ => ?_) | refine Br.bne (fun _ => ?_) (fun _ => ?_) | refine Br.seq (fun _ => ?_) (fun _ => ?_) | refine Elt.i (by omega) ?_ | refine EltN.i (by omega) ?_ | refine Nt.cast ?_ | refine Nt.mk _ rfl ?_ | refine EltN.mk _ rfl ?_ | refine Mx.mk _ rfl ?_ | refine Br.mk (fun _ => ?_) (fun _ => ?_) | refine EndP.mk ?_ trivial | refine EndP.mk ?_ ⟨.inr ⟨List.mem_cons_self .., ?_, rfl⟩, trivial⟩ | refine Ar.i64 (by omega) ?_ | refine Ar.u8 (by omega) ?_ | refine Quo.pos (by omega) ?_ | refine Rem.pos (by omega) ?_ | refine BsP.own ?_ | refine SetN.two ?_ | refine SetN.one ?_ | refine Ob.mk ⟨rfl, rfl⟩ ?_ | refine Ob.mk (flat_i _ _).1 ?_ | refine Ob.mk (flat_i _ _) ?_ | refine Ob.mk (flat_s _) ?_ | refine Ob.mk (by first | omega | (simp; first | done | fail) | (simp; omega)) ?_ | fail
  all_goals first | exact absurd rfl ‹¬ _ = _› | rfl
set_option maxHeartbeats 6000000 in
theorem eqCam_vow (v b w h : Int) (p : Par) (rq rt ev re sq : Int) (c r : List Int) (hc : c.length ≤ 17592186044416) (hr : r.length ≤ 17592186044416) :
    Vow Try.prog 63 [.ag (srcR v b w h p rq rt ev re (iS c) (iS r) ++ [.i .i64 0, .i .i64 sq]), .ag (srcR v b w h p rq rt ev re (iS c) (iS r) ++ [.i .i64 0, .i .i64 sq])] (.b true) [] := by
  refine vow_of_ev (fn := Try.f63) [] [(0, 0), (5, 10), (0, 0), (11, 15), (0, 0), (16, 20), (0, 0), (0, 0)] tt_ok Try.func63 (by decide) rfl (Nat.le_of_ble_eq_true rfl) rfl rfl rfl ?_
  repeat' (conv => whnf); first | refine CallP.rd (eqSource_vow v b w h p rq rt ev re c r hc hr) rfl rfl rfl rfl ?_ | refine DCall.rd (eqSource_vow v b w h p rq rt ev re c r hc hr) rfl rfl ?_ | refine Br.tt ?_ | refine Br.ff ?_ | refine Br.not ?_ | refine Br.dand (fun _ => ?_) (fun _ => ?_) | refine Br.dec (fun _ => ?_) (fun _ => ?_) | refine Br.beq (fun _ => ?_) (fun _ => ?_) | refine Br.bne (fun _ => ?_) (fun _ => ?_) | refine Br.seq (fun _ => ?_) (fun _ => ?_) | refine Elt.i (by omega) ?_ | refine EltN.i (by omega) ?_ | refine Nt.cast ?_ | refine Nt.mk _ rfl ?_ | refine EltN.mk _ rfl ?_ | refine Mx.mk _ rfl ?_ | refine Br.mk (fun _ => ?_) (fun _ => ?_) | refine EndP.mk ?_ trivial | refine EndP.mk ?_ ⟨.inr ⟨List.mem_cons_self .., ?_, rfl⟩, trivial⟩ | refine Ar.i64 (by omega) ?_ | refine Ar.u8 (by omega) ?_ | refine Quo.pos (by omega) ?_ | refine Rem.pos (by omega) ?_ | refine BsP.own ?_ | refine SetN.two ?_ | refine SetN.one ?_ | refine Ob.mk ⟨rfl, rfl⟩ ?_ | refine Ob.mk (flat_i _ _).1 ?_ | refine Ob.mk (flat_i _ _) ?_ | refine Ob.mk (flat_s _) ?_ | refine Ob.mk (by first | omega | (simp; first | done | fail) | (simp; omega)) ?_ | fail
  all_goals first | exact absurd rfl ‹¬ _ = _› | rfl
end Go.Proofs.Ytafipjhalboefaa
