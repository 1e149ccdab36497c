/- Plans in the laws. No condition. -/
import Derived.Test.YtafipjhalboefaaBa
import Derived.Test.YtafipjhalboefaaTh
namespace Go.Proofs.Ytafipjhalboefaa
open Go Go.Vx
set_option linter.unusedVariables false
set_option linter.unusedSimpArgs false
set_option maxHeartbeats 600000
set_option maxRecDepth 100000
def layoutB (a : Layout) : V := .bx [iS a.cols, iS a.rows, iS a.who]
def layoutD : Layout := ⟨[], [], []⟩
def znLayout (a : Layout) : Nat := a.cols.length + a.rows.length + a.who.length
structure HasLayout (x0 : Layout) : Prop where
  cols : x0.cols.length ≤ maxLen ∧ ∀ z ∈ x0.cols, IntKind.i64.has z
  rows : x0.rows.length ≤ maxLen ∧ ∀ z ∈ x0.rows, IntKind.i64.has z
  who : x0.who.length ≤ maxLen ∧ ∀ z ∈ x0.who, IntKind.i64.has z
def layoutK : List NK := [.row [.int .i64] false, .row [.int .i64] false, .row [.int .i64] false]
theorem layoutW (vs : List V) (h : NLeafs layoutK vs) : ∃ a : Layout, V.ag vs = layV a ∧ HasLayout a := by
  obtain ⟨v0, r0, rfl, h0, h⟩ := h.cons_inv
  obtain ⟨v1, r1, rfl, h1, h⟩ := h.cons_inv
  obtain ⟨v2, r2, rfl, h2, h⟩ := h.cons_inv
  obtain rfl := h.nil_inv
  obtain ⟨n0, rfl, e0⟩ := h0.ints
  obtain ⟨n1, rfl, e1⟩ := h1.ints
  obtain ⟨n2, rfl, e2⟩ := h2.ints
  exact ⟨⟨n0, n1, n2⟩, rfl, ⟨e0, e1, e2⟩⟩

theorem imm_layO (a : Layout) : (layO a).toImm = layV a := by simp [layO, layV, V.toImm, V.toImm.go, imm_iO]
theorem own_layO (a : Layout) : (layO a).noSl = true := by simp [layO, iO, V.noSl, V.noSl.go, own_i]
theorem immR_layO (l : List Layout) : (l.map layO).map V.toImm = l.map layV := immR imm_layO l
theorem ownR_layO (l : List Layout) : V.noSl.go (l.map layO) = true := noSl_map own_layO l
def meLayout (a : Layout) (k : Int) : Layout := ⟨markL a.cols.length (k), markL a.rows.length (k + (a.cols.length : Nat)), markL a.who.length (k + (a.cols.length : Nat) + (a.rows.length : Nat))⟩
def ceLayout (a : Layout) : Nat := a.cols.length + a.rows.length + a.who.length
def mkLayout (a : Layout) (k : Int) : Layout := ⟨markL a.cols.length (k), markL a.rows.length (k + (a.cols.length : Nat)), markL a.who.length (k + (a.cols.length : Nat) + (a.rows.length : Nat))⟩
def cnLayout (a : Layout) : Nat := a.cols.length + a.rows.length + a.who.length
def parB (a : Par) : V := .bx [.i .i64 a.qp, .b a.large, .b a.exact, .b a.confined]
def parD : Par := ⟨0, false, false, false⟩
structure HasPar (x0 : Par) : Prop where
  qp : IntKind.i64.has x0.qp
def parK : List NK := [.int .i64, .bool, .bool, .bool]
theorem parW (vs : List V) (h : NLeafs parK vs) : ∃ a : Par, V.ag vs = parV a ∧ HasPar a := by
  obtain ⟨v0, r0, rfl, h0, h⟩ := h.cons_inv
  obtain ⟨v1, r1, rfl, h1, h⟩ := h.cons_inv
  obtain ⟨v2, r2, rfl, h2, h⟩ := h.cons_inv
  obtain ⟨v3, r3, rfl, h3, h⟩ := h.cons_inv
  obtain rfl := h.nil_inv
  obtain ⟨n0, rfl, e0⟩ := h0.int_inv
  obtain ⟨n1, rfl⟩ := h1.bool_inv
  obtain ⟨n2, rfl⟩ := h2.bool_inv
  obtain ⟨n3, rfl⟩ := h3.bool_inv
  exact ⟨⟨n0, n1, n2, n3⟩, rfl, ⟨e0⟩⟩
theorem imm_parV (a : Par) : (parV a).toImm = parV a := rfl
theorem own_parV (a : Par) : (parV a).noSl = true := rfl
theorem flat_parV (l : List Par) : V.allW 4 (l.map parV) = true ∧ V.allFlat (l.map parV) = true := ⟨allW_map (f := parV) (fun _ => rfl) l, flat_map (f := parV) (fun _ => rfl) l⟩
theorem immR_parV (l : List Par) : (l.map parV).map V.toImm = l.map parV := immR imm_parV l
theorem ownR_parV (l : List Par) : V.noSl.go (l.map parV) = true := noSl_map own_parV l
def mePar (a : Par) (k : Int) : Par := ⟨k, ((k + 1) % 3 == 0), ((k + 1 + 1) % 3 == 0), ((k + 1 + 1 + 1) % 3 == 0)⟩
def cePar (a : Par) : Nat := 4
def camPlanB (a : CamPlan) : V := .bx [.i .i64 a.wide, .i .i64 a.high, .i .i64 a.bits, .i .i64 a.qp, .i .i64 a.target, .i .i64 a.every, .i .i64 a.reach, .i .i64 a.seed, .i .i64 a.seq, .i .i64 a.size]
def camPlanD : CamPlan := ⟨0, 0, 0, 0, 0, 0, 0, 0, 0, 0⟩
structure HasCamPlan (x0 : CamPlan) : Prop where
  wide : IntKind.i64.has x0.wide
  high : IntKind.i64.has x0.high
  bits : IntKind.i64.has x0.bits
  qp : IntKind.i64.has x0.qp
  target : IntKind.i64.has x0.target
  every : IntKind.i64.has x0.every
  reach : IntKind.i64.has x0.reach
  seed : IntKind.i64.has x0.seed
  seq : IntKind.i64.has x0.seq
  size : IntKind.i64.has x0.size
def camPlanK : List NK := [.int .i64, .int .i64, .int .i64, .int .i64, .int .i64, .int .i64, .int .i64, .int .i64, .int .i64, .int .i64]
theorem camPlanW (vs : List V) (h : NLeafs camPlanK vs) : ∃ a : CamPlan, V.ag vs = planV a ∧ HasCamPlan a := by
  obtain ⟨v0, r0, rfl, h0, h⟩ := h.cons_inv
  obtain ⟨v1, r1, rfl, h1, h⟩ := h.cons_inv
  obtain ⟨v2, r2, rfl, h2, h⟩ := h.cons_inv
  obtain ⟨v3, r3, rfl, h3, h⟩ := h.cons_inv
  obtain ⟨v4, r4, rfl, h4, h⟩ := h.cons_inv
  obtain ⟨v5, r5, rfl, h5, h⟩ := h.cons_inv
  obtain ⟨v6, r6, rfl, h6, h⟩ := h.cons_inv
  obtain ⟨v7, r7, rfl, h7, h⟩ := h.cons_inv
  obtain ⟨v8, r8, rfl, h8, h⟩ := h.cons_inv
  obtain ⟨v9, r9, rfl, h9, h⟩ := h.cons_inv
  obtain rfl := h.nil_inv
  obtain ⟨n0, rfl, e0⟩ := h0.int_inv
  obtain ⟨n1, rfl, e1⟩ := h1.int_inv
  obtain ⟨n2, rfl, e2⟩ := h2.int_inv
  obtain ⟨n3, rfl, e3⟩ := h3.int_inv
  obtain ⟨n4, rfl, e4⟩ := h4.int_inv
  obtain ⟨n5, rfl, e5⟩ := h5.int_inv
  obtain ⟨n6, rfl, e6⟩ := h6.int_inv
  obtain ⟨n7, rfl, e7⟩ := h7.int_inv
  obtain ⟨n8, rfl, e8⟩ := h8.int_inv
  obtain ⟨n9, rfl, e9⟩ := h9.int_inv
  exact ⟨⟨n0, n1, n2, n3, n4, n5, n6, n7, n8, n9⟩, rfl, ⟨e0, e1, e2, e3, e4, e5, e6, e7, e8, e9⟩⟩
theorem imm_planV (a : CamPlan) : (planV a).toImm = planV a := rfl
theorem own_planV (a : CamPlan) : (planV a).noSl = true := rfl
theorem flat_planV (l : List CamPlan) : V.allW 10 (l.map planV) = true ∧ V.allFlat (l.map planV) = true := ⟨allW_map (f := planV) (fun _ => rfl) l, flat_map (f := planV) (fun _ => rfl) l⟩
theorem immR_planV (l : List CamPlan) : (l.map planV).map V.toImm = l.map planV := immR imm_planV l
theorem ownR_planV (l : List CamPlan) : V.noSl.go (l.map planV) = true := noSl_map own_planV l
def meCamPlan (a : CamPlan) (k : Int) : CamPlan := ⟨k, k + 1, k + 1 + 1, k + 1 + 1 + 1, k + 1 + 1 + 1 + 1, k + 1 + 1 + 1 + 1 + 1, k + 1 + 1 + 1 + 1 + 1 + 1, k + 1 + 1 + 1 + 1 + 1 + 1 + 1, k + 1 + 1 + 1 + 1 + 1 + 1 + 1 + 1, k + 1 + 1 + 1 + 1 + 1 + 1 + 1 + 1 + 1⟩
def ceCamPlan (a : CamPlan) : Nat := 10
structure PlanD where
  par : Par
  bits : Int
  wait : Int
  hold : Int
  limit : Int
  first : Layout
  others : List Layout
  cams : List CamPlan
def planS (a : PlanD) : V := .ag [.i .i64 a.par.qp, .b a.par.large, .b a.par.exact, .b a.par.confined, .i .i64 a.bits, .i .i64 a.wait, .i .i64 a.hold, .i .i64 a.limit, iS a.first.cols, iS a.first.rows, iS a.first.who, .sl (a.others.map layV), .sl (a.cams.map planV)]
def planO (a : PlanD) : V := .ag [.i .i64 a.par.qp, .b a.par.large, .b a.par.exact, .b a.par.confined, .i .i64 a.bits, .i .i64 a.wait, .i .i64 a.hold, .i .i64 a.limit, iO a.first.cols, iO a.first.rows, iO a.first.who, .ow 3 (a.others.map layO), .ow 10 (a.cams.map planV)]
def planB (a : PlanD) : V := .bx [.i .i64 a.par.qp, .b a.par.large, .b a.par.exact, .b a.par.confined, .i .i64 a.bits, .i .i64 a.wait, .i .i64 a.hold, .i .i64 a.limit, iS a.first.cols, iS a.first.rows, iS a.first.who, .sl (a.others.map layV), .sl (a.cams.map planV)]
def planD : PlanD := ⟨parD, 0, 0, 0, 0, layoutD, [], []⟩
def znPlan (a : PlanD) : Nat := znLayout a.first + (a.others.length + sumR layoutD znLayout a.others a.others.length) + a.cams.length
structure HasPlan (x0 : PlanD) : Prop where
  par : HasPar x0.par
  bits : IntKind.i64.has x0.bits
  wait : IntKind.i64.has x0.wait
  hold : IntKind.i64.has x0.hold
  limit : IntKind.i64.has x0.limit
  first : HasLayout x0.first
  others : x0.others.length ≤ maxLen ∧ ∀ x ∈ x0.others, HasLayout x
  cams : x0.cams.length ≤ maxLen ∧ ∀ x ∈ x0.cams, HasCamPlan x
def planK : List NK := [.int .i64, .bool, .bool, .bool, .int .i64, .int .i64, .int .i64, .int .i64, .row [.int .i64] false, .row [.int .i64] false, .row [.int .i64] false, .row layoutK true, .row camPlanK true]
theorem planW (vs : List V) (h : NLeafs planK vs) : ∃ a : PlanD, V.ag vs = planS a ∧ HasPlan a := by
  obtain ⟨v0, r0, rfl, h0, h⟩ := h.cons_inv
  obtain ⟨v1, r1, rfl, h1, h⟩ := h.cons_inv
  obtain ⟨v2, r2, rfl, h2, h⟩ := h.cons_inv
  obtain ⟨v3, r3, rfl, h3, h⟩ := h.cons_inv
  obtain ⟨v4, r4, rfl, h4, h⟩ := h.cons_inv
  obtain ⟨v5, r5, rfl, h5, h⟩ := h.cons_inv
  obtain ⟨v6, r6, rfl, h6, h⟩ := h.cons_inv
  obtain ⟨v7, r7, rfl, h7, h⟩ := h.cons_inv
  obtain ⟨v8, r8, rfl, h8, h⟩ := h.cons_inv
  obtain ⟨v9, r9, rfl, h9, h⟩ := h.cons_inv
  obtain ⟨v10, r10, rfl, h10, h⟩ := h.cons_inv
  obtain ⟨v11, r11, rfl, h11, h⟩ := h.cons_inv
  obtain ⟨v12, r12, rfl, h12, h⟩ := h.cons_inv
  obtain rfl := h.nil_inv
  obtain ⟨n0, rfl, e0⟩ := h0.int_inv
  obtain ⟨n1, rfl⟩ := h1.bool_inv
  obtain ⟨n2, rfl⟩ := h2.bool_inv
  obtain ⟨n3, rfl⟩ := h3.bool_inv
  obtain ⟨n4, rfl, e4⟩ := h4.int_inv
  obtain ⟨n5, rfl, e5⟩ := h5.int_inv
  obtain ⟨n6, rfl, e6⟩ := h6.int_inv
  obtain ⟨n7, rfl, e7⟩ := h7.int_inv
  obtain ⟨n8, rfl, e8⟩ := h8.ints
  obtain ⟨n9, rfl, e9⟩ := h9.ints
  obtain ⟨n10, rfl, e10⟩ := h10.ints
  obtain ⟨n11, rfl, e11⟩ := h11.rowW layoutW
  obtain ⟨n12, rfl, e12⟩ := h12.rowW camPlanW
  exact ⟨⟨⟨n0, n1, n2, n3⟩, n4, n5, n6, n7, ⟨n8, n9, n10⟩, n11, n12⟩, rfl, ⟨⟨e0⟩, e4, e5, e6, e7, ⟨e8, e9, e10⟩, e11, e12⟩⟩

theorem imm_planO (a : PlanD) : (planO a).toImm = planS a := by simp [planO, planS, V.toImm, V.toImm.go, imm_iO, V.toImm_go, immR imm_layO, V.toImm_go, immR imm_planV]
theorem own_planO (a : PlanD) : (planO a).noSl = true := by simp [planO, iO, V.noSl, V.noSl.go, own_i, noSl_map own_layO, noSl_map own_planV]
theorem immR_planO (l : List PlanD) : (l.map planO).map V.toImm = l.map planS := immR imm_planO l
theorem ownR_planO (l : List PlanD) : V.noSl.go (l.map planO) = true := noSl_map own_planO l
def mePlan (a : PlanD) (k : Int) : PlanD := ⟨⟨k, ((k + 1) % 3 == 0), ((k + 1 + 1) % 3 == 0), ((k + 1 + 1 + 1) % 3 == 0)⟩, k + 1 + 1 + 1 + 1, k + 1 + 1 + 1 + 1 + 1, k + 1 + 1 + 1 + 1 + 1 + 1, k + 1 + 1 + 1 + 1 + 1 + 1 + 1, ⟨markL a.first.cols.length (k + 1 + 1 + 1 + 1 + 1 + 1 + 1 + 1), markL a.first.rows.length (k + 1 + 1 + 1 + 1 + 1 + 1 + 1 + 1 + (a.first.cols.length : Nat)), markL a.first.who.length (k + 1 + 1 + 1 + 1 + 1 + 1 + 1 + 1 + (a.first.cols.length : Nat) + (a.first.rows.length : Nat))⟩, mkR layoutD meLayout ceLayout a.others (k + 1 + 1 + 1 + 1 + 1 + 1 + 1 + 1 + (a.first.cols.length : Nat) + (a.first.rows.length : Nat) + (a.first.who.length : Nat)) a.others.length, mkR camPlanD meCamPlan ceCamPlan a.cams (k + 1 + 1 + 1 + 1 + 1 + 1 + 1 + 1 + (a.first.cols.length : Nat) + (a.first.rows.length : Nat) + (a.first.who.length : Nat) + (sumR layoutD ceLayout a.others a.others.length : Nat)) a.cams.length⟩
def cePlan (a : PlanD) : Nat := 8 + a.first.cols.length + a.first.rows.length + a.first.who.length + sumR layoutD ceLayout a.others a.others.length + sumR camPlanD ceCamPlan a.cams a.cams.length
def mkPlan (a : PlanD) (k : Int) : PlanD := ⟨a.par, a.bits, a.wait, a.hold, a.limit, mkLayout a.first (k), mkR layoutD meLayout ceLayout a.others (k + (cnLayout a.first : Nat)) a.others.length, mkR camPlanD meCamPlan ceCamPlan a.cams (k + (cnLayout a.first : Nat) + (sumR layoutD ceLayout a.others a.others.length : Nat)) a.cams.length⟩
def cnPlan (a : PlanD) : Nat := cnLayout a.first + sumR layoutD ceLayout a.others a.others.length + sumR camPlanD ceCamPlan a.cams a.cams.length

theorem toLayout_w (a : Layout) (h : znLayout a ≤ 1000000000) : Vow Try.prog 52 [layV a] (layO a) [] := by
  have ht : znLayout a = a.cols.length + a.rows.length + a.who.length := rfl
  refine vow_of_ev (fn := Try.f52) [] [(0, 0), (0, 0), (4, 8), (8, 12), (12, 16), (16, 17)] tt_ok Try.func52 (by decide) rfl (Nat.le_of_ble_eq_true rfl) rfl rfl rfl ?_
  repeat' (conv => whnf); first | refine CallP.re (toIntS_vow a.cols (by omega)) (by first | with_reducible rfl | (simp only [imm_i, imm_s, imm_b, iO, iS, imm_iO, layV, layO, imm_layO, own_layO, immR_layO, ownR_layO]; first | done | fail)) rfl rfl rfl (by first | rfl | exact own_i _ _ | exact own_s _ | exact own_b _ | (simp [V.noSl, V.noSl.go, own_i, own_s, own_b, iO, iS, imm_iO, layV, layO, imm_layO, own_layO, immR_layO, ownR_layO]; first | done | fail)) ?_ | refine CallP.re (toIntS_vow a.rows (by omega)) (by first | with_reducible rfl | (simp only [imm_i, imm_s, imm_b, iO, iS, imm_iO, layV, layO, imm_layO, own_layO, immR_layO, ownR_layO]; first | done | fail)) rfl rfl rfl (by first | rfl | exact own_i _ _ | exact own_s _ | exact own_b _ | (simp [V.noSl, V.noSl.go, own_i, own_s, own_b, iO, iS, imm_iO, layV, layO, imm_layO, own_layO, immR_layO, ownR_layO]; first | done | fail)) ?_ | refine CallP.re (toIntS_vow a.who (by omega)) (by first | with_reducible rfl | (simp only [imm_i, imm_s, imm_b, iO, iS, imm_iO, layV, layO, imm_layO, own_layO, immR_layO, ownR_layO]; first | done | fail)) rfl rfl rfl (by first | rfl | exact own_i _ _ | exact own_s _ | exact own_b _ | (simp [V.noSl, V.noSl.go, own_i, own_s, own_b, iO, iS, imm_iO, layV, layO, imm_layO, own_layO, immR_layO, ownR_layO]; first | done | fail)) ?_ | refine Br.tt ?_ | refine Br.ff ?_ | refine Br.not ?_ | refine Br.dand (fun _ => ?_) (fun _ => ?_) | refine Br.dec (fun _ => ?_) (fun _ => ?_) | refine Br.beq (fun _ => ?_) (fun _ => ?_) | refine Br.bne (fun _ => ?_) (fun _ => ?_) | refine Br.seq (fun _ => ?_) (fun _ => ?_) | refine Elt.i (by omega) ?_ | refine EltN.i (by omega) ?_ | refine Nt.cast ?_ | refine Nt.mk _ rfl ?_ | refine EltN.mk _ rfl ?_ | refine Mx.mk _ rfl ?_ | refine Br.mk (fun _ => ?_) (fun _ => ?_) | refine EndP.mk ?_ trivial | refine EndP.mk ?_ ⟨.inr ⟨List.mem_cons_self .., ?_, rfl⟩, trivial⟩ | refine Ar.i64 (by omega) ?_ | refine Ar.u8 (by omega) ?_ | refine Quo.pos (by omega) ?_ | refine Rem.pos (by omega) ?_ | refine BsP.own ?_ | refine SetN.two ?_ | refine SetN.one ?_ | refine Ob.mk ⟨rfl, rfl⟩ ?_ | refine Ob.mk (flat_i _ _).1 ?_ | refine Ob.mk (flat_i _ _) ?_ | refine Ob.mk (flat_s _) ?_ | refine Ob.mk (by first | omega | (simp; first | done | fail) | (simp; omega)) ?_ | fail
  all_goals rfl

theorem eqLayout_w (a : Layout) (h : znLayout a ≤ 1000000000) : Vow Try.prog 61 [layV a, layV a] (.b true) [] := by
  have ht : znLayout a = a.cols.length + a.rows.length + a.who.length := rfl
  refine vow_of_ev (fn := Try.f61) [] [(0, 0), (5, 10), (0, 0), (11, 16), (0, 0), (17, 22), (0, 0), (0, 0)] tt_ok Try.func61 (by decide) rfl (Nat.le_of_ble_eq_true rfl) rfl rfl rfl ?_
  repeat' (conv => whnf); first | refine Br.ne_self ?_ | refine Br.eq_self ?_ | refine Br.deq ?_ | refine CallP.rd (eqIntS_w a.cols (by omega)) rfl rfl rfl rfl ?_ | refine CallP.rd (eqIntS_w a.rows (by omega)) rfl rfl rfl rfl ?_ | refine CallP.rd (eqIntS_w a.who (by omega)) rfl rfl rfl rfl ?_ | refine Br.tt ?_ | refine Br.ff ?_ | refine Br.not ?_ | refine Br.dand (fun _ => ?_) (fun _ => ?_) | refine Br.dec (fun _ => ?_) (fun _ => ?_) | refine Br.beq (fun _ => ?_) (fun _ => ?_) | refine Br.bne (fun _ => ?_) (fun _ => ?_) | refine Br.seq (fun _ => ?_) (fun _ => ?_) | refine Elt.i (by omega) ?_ | refine EltN.i (by omega) ?_ | refine Nt.cast ?_ | refine Nt.mk _ rfl ?_ | refine EltN.mk _ rfl ?_ | refine Mx.mk _ rfl ?_ | refine Br.mk (fun _ => ?_) (fun _ => ?_) | refine EndP.mk ?_ trivial | refine EndP.mk ?_ ⟨.inr ⟨List.mem_cons_self .., ?_, rfl⟩, trivial⟩ | refine Ar.i64 (by omega) ?_ | refine Ar.u8 (by omega) ?_ | refine Quo.pos (by omega) ?_ | refine Rem.pos (by omega) ?_ | refine BsP.own ?_ | refine SetN.two ?_ | refine SetN.one ?_ | refine Ob.mk ⟨rfl, rfl⟩ ?_ | refine Ob.mk (flat_i _ _).1 ?_ | refine Ob.mk (flat_i _ _) ?_ | refine Ob.mk (flat_s _) ?_ | refine Ob.mk (by first | omega | (simp; first | done | fail) | (simp; omega)) ?_ | fail
  all_goals rfl
theorem szLayout_w (a : Layout) (h : HasLayout a) (left : Int) (hl : 0 ≤ left ∧ left ≤ 1048576) : Vow Try.prog 43 [layV a, .i .i64 left] (.i .i64 (szL (znLayout a) left)) [] := by
  have ht : znLayout a = a.cols.length + a.rows.length + a.who.length := rfl
  have hm : maxLen ≤ 9223372036854775807 := by decide
  have c := szL_le (znLayout a) left
  have c0 := szL_le (a.cols.length) (left)
  have c1 := szL_le (a.rows.length) (szL (a.cols.length) (left))
  have c2 := szL_le (a.who.length) (szL (a.rows.length) (szL (a.cols.length) (left)))
  refine vow_of_ev (fn := Try.f43) [] [(0, 0), (5, 9), (9, 10), (0, 0), (11, 15), (15, 16), (0, 0), (17, 21), (21, 22), (0, 0), (23, 24)] tt_ok Try.func43 (by decide) rfl (Nat.le_of_ble_eq_true rfl) rfl rfl rfl ?_
  repeat' (conv => whnf); first | refine CallP.rd (szIntS_w a.cols (left) h.cols.1 (by omega)) rfl rfl rfl rfl ?_ | refine CallP.rd (szIntS_w a.rows (szL (a.cols.length) (left)) h.rows.1 (by omega)) rfl rfl rfl rfl ?_ | refine CallP.rd (szIntS_w a.who (szL (a.rows.length) (szL (a.cols.length) (left))) h.who.1 (by omega)) rfl rfl rfl rfl ?_ | refine Br.tt ?_ | refine Br.ff ?_ | refine Br.not ?_ | refine Br.dand (fun _ => ?_) (fun _ => ?_) | refine Br.dec (fun _ => ?_) (fun _ => ?_) | refine Br.beq (fun _ => ?_) (fun _ => ?_) | refine Br.bne (fun _ => ?_) (fun _ => ?_) | refine Br.seq (fun _ => ?_) (fun _ => ?_) | refine Elt.i (by omega) ?_ | refine EltN.i (by omega) ?_ | refine Nt.cast ?_ | refine Nt.mk _ rfl ?_ | refine EltN.mk _ rfl ?_ | refine Mx.mk _ rfl ?_ | refine Br.mk (fun _ => ?_) (fun _ => ?_) | refine EndP.mk ?_ trivial | refine EndP.mk ?_ ⟨.inr ⟨List.mem_cons_self .., ?_, rfl⟩, trivial⟩ | refine Ar.i64 (by omega) ?_ | refine Ar.u8 (by omega) ?_ | refine Quo.pos (by omega) ?_ | refine Rem.pos (by omega) ?_ | refine BsP.own ?_ | refine SetN.two ?_ | refine SetN.one ?_ | refine Ob.mk ⟨rfl, rfl⟩ ?_ | refine Ob.mk (flat_i _ _).1 ?_ | refine Ob.mk (flat_i _ _) ?_ | refine Ob.mk (flat_s _) ?_ | refine Ob.mk (by first | omega | (simp; first | done | fail) | (simp; omega)) ?_ | fail
  all_goals first
    | (exfalso; omega)
    | (rw [show szL (znLayout a) left = -1 by omega]; rfl)
    | (rw [show szL (znLayout a) left = szL (a.who.length) (szL (a.rows.length) (szL (a.cols.length) (left))) by omega]; rfl)




theorem toPar_w (a : Par) : Vow Try.prog 51 [parV a] (parV a) [] := by
  refine vow_of_ev (fn := Try.f51) [] [(0, 0), (0, 0), (4, 7), (7, 10), (10, 13), (13, 16), (16, 17)] tt_ok Try.func51 (by decide) rfl (Nat.le_of_ble_eq_true rfl) rfl rfl rfl ?_
  repeat' (conv => whnf); first | refine Br.tt ?_ | refine Br.ff ?_ | refine Br.not ?_ | refine Br.dand (fun _ => ?_) (fun _ => ?_) | refine Br.dec (fun _ => ?_) (fun _ => ?_) | refine Br.beq (fun _ => ?_) (fun _ => ?_) | refine Br.bne (fun _ => ?_) (fun _ => ?_) | refine Br.seq (fun _ => ?_) (fun _ => ?_) | refine Elt.i (by omega) ?_ | refine EltN.i (by omega) ?_ | refine Nt.cast ?_ | refine Nt.mk _ rfl ?_ | refine EltN.mk _ rfl ?_ | refine Mx.mk _ rfl ?_ | refine Br.mk (fun _ => ?_) (fun _ => ?_) | refine EndP.mk ?_ trivial | refine EndP.mk ?_ ⟨.inr ⟨List.mem_cons_self .., ?_, rfl⟩, trivial⟩ | refine Ar.i64 (by omega) ?_ | refine Ar.u8 (by omega) ?_ | refine Quo.pos (by omega) ?_ | refine Rem.pos (by omega) ?_ | refine BsP.own ?_ | refine SetN.two ?_ | refine SetN.one ?_ | refine Ob.mk ⟨rfl, rfl⟩ ?_ | refine Ob.mk (flat_i _ _).1 ?_ | refine Ob.mk (flat_i _ _) ?_ | refine Ob.mk (flat_s _) ?_ | refine Ob.mk (by first | omega | (simp; first | done | fail) | (simp; omega)) ?_ | fail
  all_goals rfl

theorem eqPar_w (a : Par) : Vow Try.prog 60 [parV a, parV a] (.b true) [] := by
  refine vow_of_ev (fn := Try.f60) [] [(0, 0), (5, 9), (0, 0), (10, 14), (0, 0), (15, 19), (0, 0), (20, 24), (0, 0), (0, 0)] tt_ok Try.func60 (by decide) rfl (Nat.le_of_ble_eq_true rfl) rfl rfl rfl ?_
  repeat' (conv => whnf); first | refine Br.ne_self ?_ | refine Br.eq_self ?_ | refine Br.deq ?_ | refine Br.tt ?_ | refine Br.ff ?_ | refine Br.not ?_ | refine Br.dand (fun _ => ?_) (fun _ => ?_) | refine Br.dec (fun _ => ?_) (fun _ => ?_) | refine Br.beq (fun _ => ?_) (fun _ => ?_) | refine Br.bne (fun _ => ?_) (fun _ => ?_) | refine Br.seq (fun _ => ?_) (fun _ => ?_) | refine Elt.i (by omega) ?_ | refine EltN.i (by omega) ?_ | refine Nt.cast ?_ | refine Nt.mk _ rfl ?_ | refine EltN.mk _ rfl ?_ | refine Mx.mk _ rfl ?_ | refine Br.mk (fun _ => ?_) (fun _ => ?_) | refine EndP.mk ?_ trivial | refine EndP.mk ?_ ⟨.inr ⟨List.mem_cons_self .., ?_, rfl⟩, trivial⟩ | refine Ar.i64 (by omega) ?_ | refine Ar.u8 (by omega) ?_ | refine Quo.pos (by omega) ?_ | refine Rem.pos (by omega) ?_ | refine BsP.own ?_ | refine SetN.two ?_ | refine SetN.one ?_ | refine Ob.mk ⟨rfl, rfl⟩ ?_ | refine Ob.mk (flat_i _ _).1 ?_ | refine Ob.mk (flat_i _ _) ?_ | refine Ob.mk (flat_s _) ?_ | refine Ob.mk (by first | omega | (simp; first | done | fail) | (simp; omega)) ?_ | fail
  all_goals rfl







end Go.Proofs.Ytafipjhalboefaa
