/- Plans that are right, and cameras that fit. Condition: a plan's rows of no more than 1000000 in all. -/
import Derived.Test.YtjomgcgeknpehaaBt
import Derived.Test.YtjomgcgeknpehaaTg
namespace Go.Proofs.Ytjomgcgeknpehaa
open Go Go.Vx
set_option linter.unusedVariables false
set_option linter.unusedSimpArgs false
set_option maxHeartbeats 600000
set_option maxRecDepth 100000


theorem own_new (p : Par) (bits wait hold limit : Int) (l : Layout) : (V.tp [mixNV p bits wait hold limit l, .b true]).noSl = true := by
  simp [mixNV, iO, inZ, V.noSl, V.noSl.go, own_i, List.replicate]
def plMix (a : PlanD) : Prop := mixerOk (mixN a.par a.bits a.wait a.hold a.limit a.first)
instance (a : PlanD) : Decidable (plMix a) := by unfold plMix; infer_instance
def plCnt (a : PlanD) : Prop := a.others.length ≤ 4 ∧ 1 ≤ a.cams.length ∧ a.cams.length ≤ 6
instance (a : PlanD) : Decidable (plCnt a) := by unfold plCnt; infer_instance
def planOk (a : PlanD) : Prop := plMix a ∧ plCnt a ∧ (∀ i, i < a.others.length → layoutOk (gt layoutD a.others i)) ∧ ∀ i, i < a.cams.length → camOk a.par (gt camPlanD a.cams i)
instance (a : PlanD) : Decidable (planOk a) := by unfold planOk; infer_instance
theorem pl_sizes {a : PlanD} (h : znPlan a ≤ 1048576) : znLayout a.first ≤ 1048576 ∧ a.first.who.length ≤ 1048576 ∧ a.others.length ≤ 1048576 ∧ a.cams.length ≤ 1048576 := by
  have ht : znPlan a = znLayout a.first + (a.others.length + sumR layoutD znLayout a.others a.others.length) + a.cams.length := rfl
  have h2 : znLayout a.first = a.first.cols.length + a.first.rows.length + a.first.who.length := rfl
  omega
set_option maxHeartbeats 40000000 in
theorem planOk_impl (a : PlanD) (hz : znPlan a ≤ 1048576) : Vow Try.prog 12 [planS a] (.b (decide (planOk a))) [] := by
  have hw := pl_sizes hz
  have hm1 : (a.others.map layV).length = a.others.length := by simp
  have hm2 : (a.cams.map planV).length = a.cams.length := by simp
  refine vow_of_ev (fn := Try.f12) [] [(0, 0), (11, 27), (27, 41), (0, 0), (42, 43), (0, 0), (47, 49), (49, 51), (0, 0), (52, 53), (53, 54), (0, 0), (58, 60), (60, 67), (67, 68), (0, 0), (69, 70), (0, 0)] tt_ok Try.func12 (by decide) rfl (Nat.le_of_ble_eq_true rfl) rfl rfl rfl ?_
  by_cases hmx : plMix a
  · have k := mixerNew_impl a.par a.bits a.wait a.hold a.limit a.first (by omega) hmx
    by_cases hc : plCnt a
    · have hc' : a.others.length ≤ 4 ∧ 1 ≤ a.cams.length ∧ a.cams.length ≤ 6 := hc
      repeat' (conv => whnf); first | refine CallP.re k rfl rfl rfl rfl (own_new _ _ _ _ _ _) ?_ | refine CallP.rd (within_t (by omega)) rfl rfl rfl rfl ?_ | refine DCall.rd (within_t (by omega)) rfl rfl ?_ | refine Br.tt ?_ | refine Br.ff ?_ | refine Br.not ?_ | refine Br.dand (fun _ => ?_) (fun _ => ?_) | refine Br.dec (fun _ => ?_) (fun _ => ?_) | refine Br.beq (fun _ => ?_) (fun _ => ?_) | refine Br.bne (fun _ => ?_) (fun _ => ?_) | refine Br.seq (fun _ => ?_) (fun _ => ?_) | refine Elt.i (by omega) ?_ | refine EltN.i (by omega) ?_ | refine Nt.cast ?_ | refine Nt.mk _ rfl ?_ | refine EltN.mk _ rfl ?_ | refine Mx.mk _ rfl ?_ | refine Br.mk (fun _ => ?_) (fun _ => ?_) | refine EndP.mk ?_ trivial | refine EndP.mk ?_ ⟨.inr ⟨List.mem_cons_self .., ?_, rfl⟩, trivial⟩ | refine Ar.i64 (by omega) ?_ | refine Ar.u8 (by omega) ?_ | refine Quo.pos (by omega) ?_ | refine Rem.pos (by omega) ?_ | refine BsP.own ?_ | refine SetN.two ?_ | refine SetN.one ?_ | refine Ob.mk ⟨rfl, rfl⟩ ?_ | refine Ob.mk (flat_i _ _).1 ?_ | refine Ob.mk (flat_i _ _) ?_ | refine Ob.mk (flat_s _) ?_ | refine Ob.mk (by first | omega | (simp; first | done | fail) | (simp; omega)) ?_ | fail
      all_goals try (exfalso; omega)
      all_goals (conv => whnf)
      refine LoopP.mk [1,2,43,44,45] (fun i : Nat => [(1, planB a), (2, .b false), (43, .sl (a.others.map layV)), (44, .i .i64 (a.others.length : Nat)), (45, .i .i64 i)]) (fun i => a.others.length - i) (fun i => i ≤ a.others.length ∧ ∀ j, j < i → layoutOk (gt layoutD a.others j)) ?_ ?_
      · conv => whnf
        refine ⟨0, ⟨by omega, fun j hj => by omega⟩, ?_⟩
        try rw [hm1]
        rfl
      · rintro i ⟨hi, ho⟩
        by_cases hlt : i < a.others.length
        · have y := layoutOk_impl (gt layoutD a.others i)
          repeat' (conv => whnf); first | refine Elt.gt layoutD hlt ?_ | refine EltN.gt layoutD hlt ?_ | refine CallP.rd (y) rfl rfl rfl rfl ?_ | refine DCall.rd (y) rfl rfl ?_ | refine Br.tt ?_ | refine Br.ff ?_ | refine Br.not ?_ | refine Br.dand (fun _ => ?_) (fun _ => ?_) | refine Br.dec (fun _ => ?_) (fun _ => ?_) | refine Br.beq (fun _ => ?_) (fun _ => ?_) | refine Br.bne (fun _ => ?_) (fun _ => ?_) | refine Br.seq (fun _ => ?_) (fun _ => ?_) | refine Elt.i (by omega) ?_ | refine EltN.i (by omega) ?_ | refine Nt.cast ?_ | refine Nt.mk _ rfl ?_ | refine EltN.mk _ rfl ?_ | refine Mx.mk _ rfl ?_ | refine Br.mk (fun _ => ?_) (fun _ => ?_) | refine EndP.mk ?_ trivial | refine EndP.mk ?_ ⟨.inr ⟨List.mem_cons_self .., ?_, rfl⟩, trivial⟩ | refine Ar.i64 (by omega) ?_ | refine Ar.u8 (by omega) ?_ | refine Quo.pos (by omega) ?_ | refine Rem.pos (by omega) ?_ | refine BsP.own ?_ | refine SetN.two ?_ | refine SetN.one ?_ | refine Ob.mk ⟨rfl, rfl⟩ ?_ | refine Ob.mk (flat_i _ _).1 ?_ | refine Ob.mk (flat_i _ _) ?_ | refine Ob.mk (flat_s _) ?_ | refine Ob.mk (by first | omega | (simp; first | done | fail) | (simp; omega)) ?_ | fail
          all_goals first
            | (exfalso; omega)
            | (conv => whnf
               exact ⟨i + 1, ⟨by omega, all_next ho (by assumption)⟩, by omega, rfl⟩)
            | (rw [decide_eq_false (fun k : planOk a => absurd (k.2.2.1 i hlt) (by assumption))]; rfl)
        · obtain rfl : i = a.others.length := by omega
          repeat' (conv => whnf); first | refine Br.tt ?_ | refine Br.ff ?_ | refine Br.not ?_ | refine Br.dand (fun _ => ?_) (fun _ => ?_) | refine Br.dec (fun _ => ?_) (fun _ => ?_) | refine Br.beq (fun _ => ?_) (fun _ => ?_) | refine Br.bne (fun _ => ?_) (fun _ => ?_) | refine Br.seq (fun _ => ?_) (fun _ => ?_) | refine Elt.i (by omega) ?_ | refine EltN.i (by omega) ?_ | refine Nt.cast ?_ | refine Nt.mk _ rfl ?_ | refine EltN.mk _ rfl ?_ | refine Mx.mk _ rfl ?_ | refine Br.mk (fun _ => ?_) (fun _ => ?_) | refine EndP.mk ?_ trivial | refine EndP.mk ?_ ⟨.inr ⟨List.mem_cons_self .., ?_, rfl⟩, trivial⟩ | refine Ar.i64 (by omega) ?_ | refine Ar.u8 (by omega) ?_ | refine Quo.pos (by omega) ?_ | refine Rem.pos (by omega) ?_ | refine BsP.own ?_ | refine SetN.two ?_ | refine SetN.one ?_ | refine Ob.mk ⟨rfl, rfl⟩ ?_ | refine Ob.mk (flat_i _ _).1 ?_ | refine Ob.mk (flat_i _ _) ?_ | refine Ob.mk (flat_s _) ?_ | refine Ob.mk (by first | omega | (simp; first | done | fail) | (simp; omega)) ?_ | fail
          all_goals try (exfalso; omega)
          all_goals (conv => whnf)
          refine LoopP.mk [1,2,54,55,56] (fun i : Nat => [(1, planB a), (2, .b false), (54, .sl (a.cams.map planV)), (55, .i .i64 (a.cams.length : Nat)), (56, .i .i64 i)]) (fun i => a.cams.length - i) (fun i => i ≤ a.cams.length ∧ ∀ j, j < i → camOk a.par (gt camPlanD a.cams j)) ?_ ?_
          · conv => whnf
            refine ⟨0, ⟨by omega, fun j hj => by omega⟩, ?_⟩
            try rw [hm2]
            rfl
          · rintro i ⟨hi, hcs⟩
            by_cases hlt : i < a.cams.length
            · by_cases hck : camOk a.par (gt camPlanD a.cams i)
              · have y := camOf_impl a.par (gt camPlanD a.cams i) hck
                unfold camO camR at y
                generalize levelFor [(gt camPlanD a.cams i).wide] [(gt camPlanD a.cams i).high] = lv at y
                repeat' (conv => whnf); first | refine Elt.gt camPlanD hlt ?_ | refine EltN.gt camPlanD hlt ?_ | refine CallP.re (y) (by first | with_reducible rfl | (simp only [imm_i, imm_s, imm_b, iO, iS, imm_iO, layV, layO, parV, planV, camO, camN, camR, srcR, List.cons_append, List.nil_append]; first | done | fail)) rfl rfl rfl (by first | rfl | exact own_i _ _ | exact own_s _ | exact own_b _ | (simp [V.noSl, V.noSl.go, own_i, own_s, own_b, iO, iS, imm_iO, layV, layO, parV, planV, camO, camN, camR, srcR, List.cons_append, List.nil_append]; first | done | fail)) ?_ | refine DCall.re (y) (by first | with_reducible rfl | (simp only [imm_i, imm_s, imm_b, iO, iS, imm_iO, layV, layO, parV, planV, camO, camN, camR, srcR, List.cons_append, List.nil_append]; first | done | fail)) rfl (by first | rfl | exact own_i _ _ | exact own_s _ | exact own_b _ | (simp [V.noSl, V.noSl.go, own_i, own_s, own_b, iO, iS, imm_iO, layV, layO, parV, planV, camO, camN, camR, srcR, List.cons_append, List.nil_append]; first | done | fail)) ?_ | refine Br.tt ?_ | refine Br.ff ?_ | refine Br.not ?_ | refine Br.dand (fun _ => ?_) (fun _ => ?_) | refine Br.dec (fun _ => ?_) (fun _ => ?_) | refine Br.beq (fun _ => ?_) (fun _ => ?_) | refine Br.bne (fun _ => ?_) (fun _ => ?_) | refine Br.seq (fun _ => ?_) (fun _ => ?_) | refine Elt.i (by omega) ?_ | refine EltN.i (by omega) ?_ | refine Nt.cast ?_ | refine Nt.mk _ rfl ?_ | refine EltN.mk _ rfl ?_ | refine Mx.mk _ rfl ?_ | refine Br.mk (fun _ => ?_) (fun _ => ?_) | refine EndP.mk ?_ trivial | refine EndP.mk ?_ ⟨.inr ⟨List.mem_cons_self .., ?_, rfl⟩, trivial⟩ | refine Ar.i64 (by omega) ?_ | refine Ar.u8 (by omega) ?_ | refine Quo.pos (by omega) ?_ | refine Rem.pos (by omega) ?_ | refine BsP.own ?_ | refine SetN.two ?_ | refine SetN.one ?_ | refine Ob.mk ⟨rfl, rfl⟩ ?_ | refine Ob.mk (flat_i _ _).1 ?_ | refine Ob.mk (flat_i _ _) ?_ | refine Ob.mk (flat_s _) ?_ | refine Ob.mk (by first | omega | (simp; first | done | fail) | (simp; omega)) ?_ | fail
                all_goals first
                  | (exfalso; omega)
                  | (conv => whnf
                     exact ⟨i + 1, ⟨by omega, all_next hcs hck⟩, by omega, rfl⟩)
              · have y := camOf_implN a.par (gt camPlanD a.cams i) hck
                rw [decide_eq_false (fun k : planOk a => hck (k.2.2.2 i hlt))]
                repeat' (conv => whnf); first | refine Elt.gt camPlanD hlt ?_ | refine EltN.gt camPlanD hlt ?_ | refine CallP.re (y) (by first | with_reducible rfl | (simp only [imm_i, imm_s, imm_b, iO, iS, imm_iO, layV, layO, parV, planV, camO, camN, camR, srcR, List.cons_append, List.nil_append]; first | done | fail)) rfl rfl rfl (by first | rfl | exact own_i _ _ | exact own_s _ | exact own_b _ | (simp [V.noSl, V.noSl.go, own_i, own_s, own_b, iO, iS, imm_iO, layV, layO, parV, planV, camO, camN, camR, srcR, List.cons_append, List.nil_append]; first | done | fail)) ?_ | refine DCall.re (y) (by first | with_reducible rfl | (simp only [imm_i, imm_s, imm_b, iO, iS, imm_iO, layV, layO, parV, planV, camO, camN, camR, srcR, List.cons_append, List.nil_append]; first | done | fail)) rfl (by first | rfl | exact own_i _ _ | exact own_s _ | exact own_b _ | (simp [V.noSl, V.noSl.go, own_i, own_s, own_b, iO, iS, imm_iO, layV, layO, parV, planV, camO, camN, camR, srcR, List.cons_append, List.nil_append]; first | done | fail)) ?_ | refine Br.tt ?_ | refine Br.ff ?_ | refine Br.not ?_ | refine Br.dand (fun _ => ?_) (fun _ => ?_) | refine Br.dec (fun _ => ?_) (fun _ => ?_) | refine Br.beq (fun _ => ?_) (fun _ => ?_) | refine Br.bne (fun _ => ?_) (fun _ => ?_) | refine Br.seq (fun _ => ?_) (fun _ => ?_) | refine Elt.i (by omega) ?_ | refine EltN.i (by omega) ?_ | refine Nt.cast ?_ | refine Nt.mk _ rfl ?_ | refine EltN.mk _ rfl ?_ | refine Mx.mk _ rfl ?_ | refine Br.mk (fun _ => ?_) (fun _ => ?_) | refine EndP.mk ?_ trivial | refine EndP.mk ?_ ⟨.inr ⟨List.mem_cons_self .., ?_, rfl⟩, trivial⟩ | refine Ar.i64 (by omega) ?_ | refine Ar.u8 (by omega) ?_ | refine Quo.pos (by omega) ?_ | refine Rem.pos (by omega) ?_ | refine BsP.own ?_ | refine SetN.two ?_ | refine SetN.one ?_ | refine Ob.mk ⟨rfl, rfl⟩ ?_ | refine Ob.mk (flat_i _ _).1 ?_ | refine Ob.mk (flat_i _ _) ?_ | refine Ob.mk (flat_s _) ?_ | refine Ob.mk (by first | omega | (simp; first | done | fail) | (simp; omega)) ?_ | fail
                all_goals first
                  | (exfalso; omega)
                  | rfl
            · obtain rfl : i = a.cams.length := by omega
              repeat' (conv => whnf); first | refine Br.tt ?_ | refine Br.ff ?_ | refine Br.not ?_ | refine Br.dand (fun _ => ?_) (fun _ => ?_) | refine Br.dec (fun _ => ?_) (fun _ => ?_) | refine Br.beq (fun _ => ?_) (fun _ => ?_) | refine Br.bne (fun _ => ?_) (fun _ => ?_) | refine Br.seq (fun _ => ?_) (fun _ => ?_) | refine Elt.i (by omega) ?_ | refine EltN.i (by omega) ?_ | refine Nt.cast ?_ | refine Nt.mk _ rfl ?_ | refine EltN.mk _ rfl ?_ | refine Mx.mk _ rfl ?_ | refine Br.mk (fun _ => ?_) (fun _ => ?_) | refine EndP.mk ?_ trivial | refine EndP.mk ?_ ⟨.inr ⟨List.mem_cons_self .., ?_, rfl⟩, trivial⟩ | refine Ar.i64 (by omega) ?_ | refine Ar.u8 (by omega) ?_ | refine Quo.pos (by omega) ?_ | refine Rem.pos (by omega) ?_ | refine BsP.own ?_ | refine SetN.two ?_ | refine SetN.one ?_ | refine Ob.mk ⟨rfl, rfl⟩ ?_ | refine Ob.mk (flat_i _ _).1 ?_ | refine Ob.mk (flat_i _ _) ?_ | refine Ob.mk (flat_s _) ?_ | refine Ob.mk (by first | omega | (simp; first | done | fail) | (simp; omega)) ?_ | fail
              all_goals first
                | (exfalso; omega)
                | (rw [decide_eq_true (show planOk a from ⟨hmx, hc, ho, hcs⟩)]; rfl)
    · rw [decide_eq_false (fun k : planOk a => hc k.2.1)]
      have hc' : ¬ (a.others.length ≤ 4 ∧ 1 ≤ a.cams.length ∧ a.cams.length ≤ 6) := hc
      repeat' (conv => whnf); first | refine CallP.re k rfl rfl rfl rfl (own_new _ _ _ _ _ _) ?_ | refine CallP.rd (within_vow _ _ _) rfl rfl rfl rfl ?_ | refine DCall.rd (within_vow _ _ _) rfl rfl ?_ | refine Br.tt ?_ | refine Br.ff ?_ | refine Br.not ?_ | refine Br.dand (fun _ => ?_) (fun _ => ?_) | refine Br.dec (fun _ => ?_) (fun _ => ?_) | refine Br.beq (fun _ => ?_) (fun _ => ?_) | refine Br.bne (fun _ => ?_) (fun _ => ?_) | refine Br.seq (fun _ => ?_) (fun _ => ?_) | refine Elt.i (by omega) ?_ | refine EltN.i (by omega) ?_ | refine Nt.cast ?_ | refine Nt.mk _ rfl ?_ | refine EltN.mk _ rfl ?_ | refine Mx.mk _ rfl ?_ | refine Br.mk (fun _ => ?_) (fun _ => ?_) | refine EndP.mk ?_ trivial | refine EndP.mk ?_ ⟨.inr ⟨List.mem_cons_self .., ?_, rfl⟩, trivial⟩ | refine Ar.i64 (by omega) ?_ | refine Ar.u8 (by omega) ?_ | refine Quo.pos (by omega) ?_ | refine Rem.pos (by omega) ?_ | refine BsP.own ?_ | refine SetN.two ?_ | refine SetN.one ?_ | refine Ob.mk ⟨rfl, rfl⟩ ?_ | refine Ob.mk (flat_i _ _).1 ?_ | refine Ob.mk (flat_i _ _) ?_ | refine Ob.mk (flat_s _) ?_ | refine Ob.mk (by first | omega | (simp; first | done | fail) | (simp; omega)) ?_ | fail
      all_goals first
        | (exfalso; omega)
        | rfl
  · rw [decide_eq_false (fun k : planOk a => hmx k.1)]
    have k := mixerNew_implN a.par a.bits a.wait a.hold a.limit a.first (by omega) hmx
    repeat' (conv => whnf); first | refine CallP.re k rfl rfl rfl rfl rfl ?_ | refine CallP.rd (within_vow _ _ _) rfl rfl rfl rfl ?_ | refine DCall.rd (within_vow _ _ _) rfl rfl ?_ | refine Br.tt ?_ | refine Br.ff ?_ | refine Br.not ?_ | refine Br.dand (fun _ => ?_) (fun _ => ?_) | refine Br.dec (fun _ => ?_) (fun _ => ?_) | refine Br.beq (fun _ => ?_) (fun _ => ?_) | refine Br.bne (fun _ => ?_) (fun _ => ?_) | refine Br.seq (fun _ => ?_) (fun _ => ?_) | refine Elt.i (by omega) ?_ | refine EltN.i (by omega) ?_ | refine Nt.cast ?_ | refine Nt.mk _ rfl ?_ | refine EltN.mk _ rfl ?_ | refine Mx.mk _ rfl ?_ | refine Br.mk (fun _ => ?_) (fun _ => ?_) | refine EndP.mk ?_ trivial | refine EndP.mk ?_ ⟨.inr ⟨List.mem_cons_self .., ?_, rfl⟩, trivial⟩ | refine Ar.i64 (by omega) ?_ | refine Ar.u8 (by omega) ?_ | refine Quo.pos (by omega) ?_ | refine Rem.pos (by omega) ?_ | refine BsP.own ?_ | refine SetN.two ?_ | refine SetN.one ?_ | refine Ob.mk ⟨rfl, rfl⟩ ?_ | refine Ob.mk (flat_i _ _).1 ?_ | refine Ob.mk (flat_i _ _) ?_ | refine Ob.mk (flat_s _) ?_ | refine Ob.mk (by first | omega | (simp; first | done | fail) | (simp; omega)) ?_ | fail
    all_goals rfl
set_option maxHeartbeats 40000000 in
theorem planOk_spec (a : PlanD) (hz : znPlan a ≤ 1048576) : Vow Try.prog 10 [planS a] (.b (decide (planOk a))) [] := by
  have hw := pl_sizes hz
  have hm1 : (a.others.map layV).length = a.others.length := by simp
  have hm2 : (a.cams.map planV).length = a.cams.length := by simp
  refine vow_of_ev (fn := Try.f10) [] [(0, 0), (9, 25), (25, 39), (0, 0), (0, 0), (40, 44), (45, 47), (47, 53), (0, 0), (0, 0), (54, 58), (59, 61), (61, 72), (72, 73), (0, 0), (0, 0)] tt_ok Try.func10 (by decide) rfl (Nat.le_of_ble_eq_true rfl) rfl rfl rfl ?_
  by_cases hmx : plMix a
  · have k := mixerNew_spec a.par a.bits a.wait a.hold a.limit a.first (by omega) hmx
    by_cases hc : plCnt a
    · have hc' : a.others.length ≤ 4 ∧ 1 ≤ a.cams.length ∧ a.cams.length ≤ 6 := hc
      repeat' (conv => whnf); first | refine CallP.re k rfl rfl rfl rfl (own_new _ _ _ _ _ _) ?_ | refine CallP.rd (in_t (by omega)) rfl rfl rfl rfl ?_ | refine DCall.rd (in_t (by omega)) rfl rfl ?_ | refine Br.tt ?_ | refine Br.ff ?_ | refine Br.not ?_ | refine Br.dand (fun _ => ?_) (fun _ => ?_) | refine Br.dec (fun _ => ?_) (fun _ => ?_) | refine Br.beq (fun _ => ?_) (fun _ => ?_) | refine Br.bne (fun _ => ?_) (fun _ => ?_) | refine Br.seq (fun _ => ?_) (fun _ => ?_) | refine Elt.i (by omega) ?_ | refine EltN.i (by omega) ?_ | refine Nt.cast ?_ | refine Nt.mk _ rfl ?_ | refine EltN.mk _ rfl ?_ | refine Mx.mk _ rfl ?_ | refine Br.mk (fun _ => ?_) (fun _ => ?_) | refine EndP.mk ?_ trivial | refine EndP.mk ?_ ⟨.inr ⟨List.mem_cons_self .., ?_, rfl⟩, trivial⟩ | refine Ar.i64 (by omega) ?_ | refine Ar.u8 (by omega) ?_ | refine Quo.pos (by omega) ?_ | refine Rem.pos (by omega) ?_ | refine BsP.own ?_ | refine SetN.two ?_ | refine SetN.one ?_ | refine Ob.mk ⟨rfl, rfl⟩ ?_ | refine Ob.mk (flat_i _ _).1 ?_ | refine Ob.mk (flat_i _ _) ?_ | refine Ob.mk (flat_s _) ?_ | refine Ob.mk (by first | omega | (simp; first | done | fail) | (simp; omega)) ?_ | fail
      all_goals try (exfalso; omega)
      all_goals (conv => whnf)
      refine LoopP.mk [1,2,5] (fun i : Nat => [(1, planB a), (2, .b false), (5, .i .i64 i)]) (fun i => a.others.length - i) (fun i => i ≤ a.others.length ∧ ∀ j, j < i → layoutOk (gt layoutD a.others j)) ?_ ?_
      · conv => whnf
        refine ⟨0, ⟨by omega, fun j hj => by omega⟩, ?_⟩
        try rw [hm1]
        rfl
      · rintro i ⟨hi, ho⟩
        by_cases hlt : i < a.others.length
        · have y := layoutOk_spec (gt layoutD a.others i)
          repeat' (conv => whnf); first | refine Elt.gt layoutD hlt ?_ | refine EltN.gt layoutD hlt ?_ | refine CallP.rd (y) rfl rfl rfl rfl ?_ | refine DCall.rd (y) rfl rfl ?_ | refine Br.tt ?_ | refine Br.ff ?_ | refine Br.not ?_ | refine Br.dand (fun _ => ?_) (fun _ => ?_) | refine Br.dec (fun _ => ?_) (fun _ => ?_) | refine Br.beq (fun _ => ?_) (fun _ => ?_) | refine Br.bne (fun _ => ?_) (fun _ => ?_) | refine Br.seq (fun _ => ?_) (fun _ => ?_) | refine Elt.i (by omega) ?_ | refine EltN.i (by omega) ?_ | refine Nt.cast ?_ | refine Nt.mk _ rfl ?_ | refine EltN.mk _ rfl ?_ | refine Mx.mk _ rfl ?_ | refine Br.mk (fun _ => ?_) (fun _ => ?_) | refine EndP.mk ?_ trivial | refine EndP.mk ?_ ⟨.inr ⟨List.mem_cons_self .., ?_, rfl⟩, trivial⟩ | refine Ar.i64 (by omega) ?_ | refine Ar.u8 (by omega) ?_ | refine Quo.pos (by omega) ?_ | refine Rem.pos (by omega) ?_ | refine BsP.own ?_ | refine SetN.two ?_ | refine SetN.one ?_ | refine Ob.mk ⟨rfl, rfl⟩ ?_ | refine Ob.mk (flat_i _ _).1 ?_ | refine Ob.mk (flat_i _ _) ?_ | refine Ob.mk (flat_s _) ?_ | refine Ob.mk (by first | omega | (simp; first | done | fail) | (simp; omega)) ?_ | fail
          all_goals first
            | (exfalso; omega)
            | (conv => whnf
               exact ⟨i + 1, ⟨by omega, all_next ho (by assumption)⟩, by omega, rfl⟩)
            | (rw [decide_eq_false (fun k : planOk a => absurd (k.2.2.1 i hlt) (by assumption))]; rfl)
        · obtain rfl : i = a.others.length := by omega
          repeat' (conv => whnf); first | refine Br.tt ?_ | refine Br.ff ?_ | refine Br.not ?_ | refine Br.dand (fun _ => ?_) (fun _ => ?_) | refine Br.dec (fun _ => ?_) (fun _ => ?_) | refine Br.beq (fun _ => ?_) (fun _ => ?_) | refine Br.bne (fun _ => ?_) (fun _ => ?_) | refine Br.seq (fun _ => ?_) (fun _ => ?_) | refine Elt.i (by omega) ?_ | refine EltN.i (by omega) ?_ | refine Nt.cast ?_ | refine Nt.mk _ rfl ?_ | refine EltN.mk _ rfl ?_ | refine Mx.mk _ rfl ?_ | refine Br.mk (fun _ => ?_) (fun _ => ?_) | refine EndP.mk ?_ trivial | refine EndP.mk ?_ ⟨.inr ⟨List.mem_cons_self .., ?_, rfl⟩, trivial⟩ | refine Ar.i64 (by omega) ?_ | refine Ar.u8 (by omega) ?_ | refine Quo.pos (by omega) ?_ | refine Rem.pos (by omega) ?_ | refine BsP.own ?_ | refine SetN.two ?_ | refine SetN.one ?_ | refine Ob.mk ⟨rfl, rfl⟩ ?_ | refine Ob.mk (flat_i _ _).1 ?_ | refine Ob.mk (flat_i _ _) ?_ | refine Ob.mk (flat_s _) ?_ | refine Ob.mk (by first | omega | (simp; first | done | fail) | (simp; omega)) ?_ | fail
          all_goals try (exfalso; omega)
          all_goals (conv => whnf)
          refine LoopP.mk [1,2,6] (fun i : Nat => [(1, planB a), (2, .b false), (6, .i .i64 i)]) (fun i => a.cams.length - i) (fun i => i ≤ a.cams.length ∧ ∀ j, j < i → camOk a.par (gt camPlanD a.cams j)) ?_ ?_
          · conv => whnf
            refine ⟨0, ⟨by omega, fun j hj => by omega⟩, ?_⟩
            try rw [hm2]
            rfl
          · rintro i ⟨hi, hcs⟩
            by_cases hlt : i < a.cams.length
            · by_cases hck : camOk a.par (gt camPlanD a.cams i)
              · have y := camOf_spec a.par (gt camPlanD a.cams i) hck
                unfold camO camR at y
                generalize levelFor [(gt camPlanD a.cams i).wide] [(gt camPlanD a.cams i).high] = lv at y
                repeat' (conv => whnf); first | refine Elt.gt camPlanD hlt ?_ | refine EltN.gt camPlanD hlt ?_ | refine CallP.re (y) (by first | with_reducible rfl | (simp only [imm_i, imm_s, imm_b, iO, iS, imm_iO, layV, layO, parV, planV, camO, camN, camR, srcR, List.cons_append, List.nil_append]; first | done | fail)) rfl rfl rfl (by first | rfl | exact own_i _ _ | exact own_s _ | exact own_b _ | (simp [V.noSl, V.noSl.go, own_i, own_s, own_b, iO, iS, imm_iO, layV, layO, parV, planV, camO, camN, camR, srcR, List.cons_append, List.nil_append]; first | done | fail)) ?_ | refine DCall.re (y) (by first | with_reducible rfl | (simp only [imm_i, imm_s, imm_b, iO, iS, imm_iO, layV, layO, parV, planV, camO, camN, camR, srcR, List.cons_append, List.nil_append]; first | done | fail)) rfl (by first | rfl | exact own_i _ _ | exact own_s _ | exact own_b _ | (simp [V.noSl, V.noSl.go, own_i, own_s, own_b, iO, iS, imm_iO, layV, layO, parV, planV, camO, camN, camR, srcR, List.cons_append, List.nil_append]; first | done | fail)) ?_ | refine Br.tt ?_ | refine Br.ff ?_ | refine Br.not ?_ | refine Br.dand (fun _ => ?_) (fun _ => ?_) | refine Br.dec (fun _ => ?_) (fun _ => ?_) | refine Br.beq (fun _ => ?_) (fun _ => ?_) | refine Br.bne (fun _ => ?_) (fun _ => ?_) | refine Br.seq (fun _ => ?_) (fun _ => ?_) | refine Elt.i (by omega) ?_ | refine EltN.i (by omega) ?_ | refine Nt.cast ?_ | refine Nt.mk _ rfl ?_ | refine EltN.mk _ rfl ?_ | refine Mx.mk _ rfl ?_ | refine Br.mk (fun _ => ?_) (fun _ => ?_) | refine EndP.mk ?_ trivial | refine EndP.mk ?_ ⟨.inr ⟨List.mem_cons_self .., ?_, rfl⟩, trivial⟩ | refine Ar.i64 (by omega) ?_ | refine Ar.u8 (by omega) ?_ | refine Quo.pos (by omega) ?_ | refine Rem.pos (by omega) ?_ | refine BsP.own ?_ | refine SetN.two ?_ | refine SetN.one ?_ | refine Ob.mk ⟨rfl, rfl⟩ ?_ | refine Ob.mk (flat_i _ _).1 ?_ | refine Ob.mk (flat_i _ _) ?_ | refine Ob.mk (flat_s _) ?_ | refine Ob.mk (by first | omega | (simp; first | done | fail) | (simp; omega)) ?_ | fail
                all_goals first
                  | (exfalso; omega)
                  | (conv => whnf
                     exact ⟨i + 1, ⟨by omega, all_next hcs hck⟩, by omega, rfl⟩)
              · have y := camOf_specN a.par (gt camPlanD a.cams i) hck
                rw [decide_eq_false (fun k : planOk a => hck (k.2.2.2 i hlt))]
                repeat' (conv => whnf); first | refine Elt.gt camPlanD hlt ?_ | refine EltN.gt camPlanD hlt ?_ | refine CallP.re (y) (by first | with_reducible rfl | (simp only [imm_i, imm_s, imm_b, iO, iS, imm_iO, layV, layO, parV, planV, camO, camN, camR, srcR, List.cons_append, List.nil_append]; first | done | fail)) rfl rfl rfl (by first | rfl | exact own_i _ _ | exact own_s _ | exact own_b _ | (simp [V.noSl, V.noSl.go, own_i, own_s, own_b, iO, iS, imm_iO, layV, layO, parV, planV, camO, camN, camR, srcR, List.cons_append, List.nil_append]; first | done | fail)) ?_ | refine DCall.re (y) (by first | with_reducible rfl | (simp only [imm_i, imm_s, imm_b, iO, iS, imm_iO, layV, layO, parV, planV, camO, camN, camR, srcR, List.cons_append, List.nil_append]; first | done | fail)) rfl (by first | rfl | exact own_i _ _ | exact own_s _ | exact own_b _ | (simp [V.noSl, V.noSl.go, own_i, own_s, own_b, iO, iS, imm_iO, layV, layO, parV, planV, camO, camN, camR, srcR, List.cons_append, List.nil_append]; first | done | fail)) ?_ | refine Br.tt ?_ | refine Br.ff ?_ | refine Br.not ?_ | refine Br.dand (fun _ => ?_) (fun _ => ?_) | refine Br.dec (fun _ => ?_) (fun _ => ?_) | refine Br.beq (fun _ => ?_) (fun _ => ?_) | refine Br.bne (fun _ => ?_) (fun _ => ?_) | refine Br.seq (fun _ => ?_) (fun _ => ?_) | refine Elt.i (by omega) ?_ | refine EltN.i (by omega) ?_ | refine Nt.cast ?_ | refine Nt.mk _ rfl ?_ | refine EltN.mk _ rfl ?_ | refine Mx.mk _ rfl ?_ | refine Br.mk (fun _ => ?_) (fun _ => ?_) | refine EndP.mk ?_ trivial | refine EndP.mk ?_ ⟨.inr ⟨List.mem_cons_self .., ?_, rfl⟩, trivial⟩ | refine Ar.i64 (by omega) ?_ | refine Ar.u8 (by omega) ?_ | refine Quo.pos (by omega) ?_ | refine Rem.pos (by omega) ?_ | refine BsP.own ?_ | refine SetN.two ?_ | refine SetN.one ?_ | refine Ob.mk ⟨rfl, rfl⟩ ?_ | refine Ob.mk (flat_i _ _).1 ?_ | refine Ob.mk (flat_i _ _) ?_ | refine Ob.mk (flat_s _) ?_ | refine Ob.mk (by first | omega | (simp; first | done | fail) | (simp; omega)) ?_ | fail
                all_goals first
                  | (exfalso; omega)
                  | rfl
            · obtain rfl : i = a.cams.length := by omega
              repeat' (conv => whnf); first | refine Br.tt ?_ | refine Br.ff ?_ | refine Br.not ?_ | refine Br.dand (fun _ => ?_) (fun _ => ?_) | refine Br.dec (fun _ => ?_) (fun _ => ?_) | refine Br.beq (fun _ => ?_) (fun _ => ?_) | refine Br.bne (fun _ => ?_) (fun _ => ?_) | refine Br.seq (fun _ => ?_) (fun _ => ?_) | refine Elt.i (by omega) ?_ | refine EltN.i (by omega) ?_ | refine Nt.cast ?_ | refine Nt.mk _ rfl ?_ | refine EltN.mk _ rfl ?_ | refine Mx.mk _ rfl ?_ | refine Br.mk (fun _ => ?_) (fun _ => ?_) | refine EndP.mk ?_ trivial | refine EndP.mk ?_ ⟨.inr ⟨List.mem_cons_self .., ?_, rfl⟩, trivial⟩ | refine Ar.i64 (by omega) ?_ | refine Ar.u8 (by omega) ?_ | refine Quo.pos (by omega) ?_ | refine Rem.pos (by omega) ?_ | refine BsP.own ?_ | refine SetN.two ?_ | refine SetN.one ?_ | refine Ob.mk ⟨rfl, rfl⟩ ?_ | refine Ob.mk (flat_i _ _).1 ?_ | refine Ob.mk (flat_i _ _) ?_ | refine Ob.mk (flat_s _) ?_ | refine Ob.mk (by first | omega | (simp; first | done | fail) | (simp; omega)) ?_ | fail
              all_goals first
                | (exfalso; omega)
                | (rw [decide_eq_true (show planOk a from ⟨hmx, hc, ho, hcs⟩)]; rfl)
    · rw [decide_eq_false (fun k : planOk a => hc k.2.1)]
      have hc' : ¬ (a.others.length ≤ 4 ∧ 1 ≤ a.cams.length ∧ a.cams.length ≤ 6) := hc
      repeat' (conv => whnf); first | refine CallP.re k rfl rfl rfl rfl (own_new _ _ _ _ _ _) ?_ | refine CallP.rd (l01In_vow _ _ _) rfl rfl rfl rfl ?_ | refine DCall.rd (l01In_vow _ _ _) rfl rfl ?_ | refine Br.tt ?_ | refine Br.ff ?_ | refine Br.not ?_ | refine Br.dand (fun _ => ?_) (fun _ => ?_) | refine Br.dec (fun _ => ?_) (fun _ => ?_) | refine Br.beq (fun _ => ?_) (fun _ => ?_) | refine Br.bne (fun _ => ?_) (fun _ => ?_) | refine Br.seq (fun _ => ?_) (fun _ => ?_) | refine Elt.i (by omega) ?_ | refine EltN.i (by omega) ?_ | refine Nt.cast ?_ | refine Nt.mk _ rfl ?_ | refine EltN.mk _ rfl ?_ | refine Mx.mk _ rfl ?_ | refine Br.mk (fun _ => ?_) (fun _ => ?_) | refine EndP.mk ?_ trivial | refine EndP.mk ?_ ⟨.inr ⟨List.mem_cons_self .., ?_, rfl⟩, trivial⟩ | refine Ar.i64 (by omega) ?_ | refine Ar.u8 (by omega) ?_ | refine Quo.pos (by omega) ?_ | refine Rem.pos (by omega) ?_ | refine BsP.own ?_ | refine SetN.two ?_ | refine SetN.one ?_ | refine Ob.mk ⟨rfl, rfl⟩ ?_ | refine Ob.mk (flat_i _ _).1 ?_ | refine Ob.mk (flat_i _ _) ?_ | refine Ob.mk (flat_s _) ?_ | refine Ob.mk (by first | omega | (simp; first | done | fail) | (simp; omega)) ?_ | fail
      all_goals first
        | (exfalso; omega)
        | rfl
  · rw [decide_eq_false (fun k : planOk a => hmx k.1)]
    have k := mixerNew_specN a.par a.bits a.wait a.hold a.limit a.first (by omega) hmx
    repeat' (conv => whnf); first | refine CallP.re k rfl rfl rfl rfl rfl ?_ | refine CallP.rd (l01In_vow _ _ _) rfl rfl rfl rfl ?_ | refine DCall.rd (l01In_vow _ _ _) rfl rfl ?_ | refine Br.tt ?_ | refine Br.ff ?_ | refine Br.not ?_ | refine Br.dand (fun _ => ?_) (fun _ => ?_) | refine Br.dec (fun _ => ?_) (fun _ => ?_) | refine Br.beq (fun _ => ?_) (fun _ => ?_) | refine Br.bne (fun _ => ?_) (fun _ => ?_) | refine Br.seq (fun _ => ?_) (fun _ => ?_) | refine Elt.i (by omega) ?_ | refine EltN.i (by omega) ?_ | refine Nt.cast ?_ | refine Nt.mk _ rfl ?_ | refine EltN.mk _ rfl ?_ | refine Mx.mk _ rfl ?_ | refine Br.mk (fun _ => ?_) (fun _ => ?_) | refine EndP.mk ?_ trivial | refine EndP.mk ?_ ⟨.inr ⟨List.mem_cons_self .., ?_, rfl⟩, trivial⟩ | refine Ar.i64 (by omega) ?_ | refine Ar.u8 (by omega) ?_ | refine Quo.pos (by omega) ?_ | refine Rem.pos (by omega) ?_ | refine BsP.own ?_ | refine SetN.two ?_ | refine SetN.one ?_ | refine Ob.mk ⟨rfl, rfl⟩ ?_ | refine Ob.mk (flat_i _ _).1 ?_ | refine Ob.mk (flat_i _ _) ?_ | refine Ob.mk (flat_s _) ?_ | refine Ob.mk (by first | omega | (simp; first | done | fail) | (simp; omega)) ?_ | fail
    all_goals rfl
end Go.Proofs.Ytjomgcgeknpehaa
