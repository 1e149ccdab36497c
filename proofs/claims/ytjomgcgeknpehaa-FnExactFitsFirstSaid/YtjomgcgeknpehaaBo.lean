/- Admissions that are right, and those that fit a tile. No condition. -/
import Derived.Test.YtjomgcgeknpehaaBm
import Derived.Test.YtjomgcgeknpehaaBn
namespace Go.Vx
theorem Br.bf {b : Bool} {A B : Prop} (h1 : b = false → A) (h2 : b = true → B) : Br (b == false) A B := .mk (fun h => h1 (by simpa using h)) (fun h => h2 (by simpa using h))
end Go.Vx
namespace Go.Proofs.Ytjomgcgeknpehaa
open Go Go.Vx
set_option linter.unusedVariables false
set_option linter.unusedSimpArgs false
set_option maxHeartbeats 600000
set_option maxRecDepth 100000


def noSeq (lvl bits : Int) (c r : List Int) : Prop := lvl = 0 ∧ bits = 0 ∧ c.length = 0 ∧ r.length = 0
instance (lvl bits : Int) (c r : List Int) : Decidable (noSeq lvl bits c r) := by unfold noSeq; infer_instance
theorem noSeq_vow (lvl bits : Int) (c r : List Int) : Vow Try.prog 134 [seqV lvl bits c r] (.b (decide (noSeq lvl bits c r))) [] := by
  have l1 : (c.map (V.i .i64)).length = c.length := by simp
  have l2 : (r.map (V.i .i64)).length = r.length := by simp
  refine vow_of_ev (fn := Try.f134) [] [(0, 0), (3, 23)] tt_ok Try.func134 (by decide) rfl (Nat.le_of_ble_eq_true rfl) rfl rfl rfl ?_
  repeat' (conv => whnf); first | refine Br.tt ?_ | refine Br.ff ?_ | refine Br.not ?_ | refine Br.dand (fun _ => ?_) (fun _ => ?_) | refine Br.dec (fun _ => ?_) (fun _ => ?_) | refine Br.beq (fun _ => ?_) (fun _ => ?_) | refine Br.bne (fun _ => ?_) (fun _ => ?_) | refine Br.seq (fun _ => ?_) (fun _ => ?_) | refine Elt.i (by omega) ?_ | refine EltN.i (by omega) ?_ | refine Nt.cast ?_ | refine Nt.mk _ rfl ?_ | refine EltN.mk _ rfl ?_ | refine Mx.mk _ rfl ?_ | refine Br.mk (fun _ => ?_) (fun _ => ?_) | refine EndP.mk ?_ trivial | refine EndP.mk ?_ ⟨.inr ⟨List.mem_cons_self .., ?_, rfl⟩, trivial⟩ | refine Ar.i64 (by omega) ?_ | refine Ar.u8 (by omega) ?_ | refine Quo.pos (by omega) ?_ | refine Rem.pos (by omega) ?_ | refine BsP.own ?_ | refine SetN.two ?_ | refine SetN.one ?_ | refine Ob.mk ⟨rfl, rfl⟩ ?_ | refine Ob.mk (flat_i _ _).1 ?_ | refine Ob.mk (flat_i _ _) ?_ | refine Ob.mk (flat_s _) ?_ | refine Ob.mk (by first | omega | (simp; first | done | fail) | (simp; omega)) ?_ | fail
  all_goals first
    | (exfalso; omega)
    | (rw [decide_eq_true (by unfold noSeq; omega)]; rfl)
    | (rw [decide_eq_false (by unfold noSeq; omega)]; rfl)
    | (refine congrArg V.b ?_; rw [Bool.eq_iff_iff]; simp only [Bool.and_eq_true, decide_eq_true_eq, beq_iff_eq]; unfold noSeq; omega)
def shlF (b : Int) : Int := IntKind.i64.wrap (1 * 2 ^ min b.toNat IntKind.i64.bits)
def aOff (a : AdmitD) : Prop := a.live = false ∧ noSeq a.seq.level a.seq.bits a.seq.cols a.seq.rows ∧ (a.par.qp = 0 ∧ a.par.large = false ∧ a.par.exact = false ∧ a.par.confined = false) ∧ a.frame = 0
instance (a : AdmitD) : Decidable (aOff a) := by unfold aOff; infer_instance
def aOn (a : AdmitD) : Prop := tilesOf a.seq.level a.seq.bits a.seq.cols a.seq.rows = 1 ∧ parOk a.par ∧ 0 ≤ a.frame ∧ a.frame < shlF a.seq.bits
instance (a : AdmitD) : Decidable (aOn a) := by unfold aOn; infer_instance
def aCnt (a : AdmitD) : Prop := cnt9 a.count ∧ cnt9 a.gone
instance (a : AdmitD) : Decidable (aCnt a) := by unfold aCnt; infer_instance
def admitOk (a : AdmitD) : Bool := decide (aCnt a) && (if a.has then decide (aOn a) else decide (aOff a))

set_option maxHeartbeats 8000000 in
theorem admitOk_impl (a : AdmitD) : Vow Try.prog 101 [admitVs a] (.b (admitOk a)) [] := by
  have l1 : (a.seq.cols.map (V.i .i64)).length = a.seq.cols.length := by simp
  have l2 : (a.seq.rows.map (V.i .i64)).length = a.seq.rows.length := by simp
  have w1 := within_vow a.count 0 1000000000
  have w2 := within_vow a.gone 0 1000000000
  have hc : aCnt a ↔ (0 ≤ a.count ∧ a.count ≤ 1000000000) ∧ 0 ≤ a.gone ∧ a.gone ≤ 1000000000 := Iff.rfl
  by_cases hcn : aCnt a
  · have hc' := hc.1 hcn
    cases hh : a.has
    · have hd : admitOk a = decide (aOff a) := by unfold admitOk; rw [decide_eq_true hcn, hh]; rfl
      rw [hd]
      have hoff : aOff a ↔ a.live = false ∧ noSeq a.seq.level a.seq.bits a.seq.cols a.seq.rows ∧ (a.par.qp = 0 ∧ a.par.large = false ∧ a.par.exact = false ∧ a.par.confined = false) ∧ a.frame = 0 := Iff.rfl
      have ns := noSeq_vow a.seq.level a.seq.bits a.seq.cols a.seq.rows
      unfold admitVs
      rw [hh]
      refine vow_of_ev (fn := Try.f101) [] [(0, 0), (3, 12), (0, 0), (13, 15), (16, 35), (35, 54)] tt_ok Try.func101 (by decide) rfl (Nat.le_of_ble_eq_true rfl) rfl rfl rfl ?_
      repeat' (conv => whnf); first | refine CallP.rd (w1) rfl rfl rfl rfl ?_ | refine DCall.rd (w1) rfl rfl ?_ | refine CallP.rd (w2) rfl rfl rfl rfl ?_ | refine DCall.rd (w2) rfl rfl ?_ | refine CallP.rd (ns) rfl rfl rfl rfl ?_ | refine DCall.rd (ns) rfl rfl ?_ | refine Br.and ?_ | refine Br.bf (fun _ => ?_) (fun _ => ?_) | refine Br.tt ?_ | refine Br.ff ?_ | refine Br.not ?_ | refine Br.dand (fun _ => ?_) (fun _ => ?_) | refine Br.dec (fun _ => ?_) (fun _ => ?_) | refine Br.beq (fun _ => ?_) (fun _ => ?_) | refine Br.bne (fun _ => ?_) (fun _ => ?_) | refine Br.seq (fun _ => ?_) (fun _ => ?_) | refine Elt.i (by omega) ?_ | refine EltN.i (by omega) ?_ | refine Nt.cast ?_ | refine Nt.mk _ rfl ?_ | refine EltN.mk _ rfl ?_ | refine Mx.mk _ rfl ?_ | refine Br.mk (fun _ => ?_) (fun _ => ?_) | refine EndP.mk ?_ trivial | refine EndP.mk ?_ ⟨.inr ⟨List.mem_cons_self .., ?_, rfl⟩, trivial⟩ | refine Ar.i64 (by omega) ?_ | refine Ar.u8 (by omega) ?_ | refine Quo.pos (by omega) ?_ | refine Rem.pos (by omega) ?_ | refine BsP.own ?_ | refine SetN.two ?_ | refine SetN.one ?_ | refine Ob.mk ⟨rfl, rfl⟩ ?_ | refine Ob.mk (flat_i _ _).1 ?_ | refine Ob.mk (flat_i _ _) ?_ | refine Ob.mk (flat_s _) ?_ | refine Ob.mk (by first | omega | (simp; first | done | fail) | (simp; omega)) ?_ | fail
      all_goals first
        | (exfalso; omega)
        | (rw [decide_eq_true (hoff.2 ⟨by assumption, by assumption, ⟨by assumption, by assumption, by assumption, by assumption⟩, by omega⟩)]; rfl)
        | (rw [decide_eq_false (fun k => by have k' := hoff.1 k; first | omega | simp_all)]; rfl)
        | (refine congrArg V.b ?_; rw [Bool.eq_iff_iff]; simp only [decide_eq_true_eq, beq_iff_eq]; rw [hoff]; simp_all; first | done | omega)
    · have hd : admitOk a = decide (aOn a) := by unfold admitOk; rw [decide_eq_true hcn, hh]; rfl
      rw [hd]
      have hon : aOn a ↔ tilesOf a.seq.level a.seq.bits a.seq.cols a.seq.rows = 1 ∧ parOk a.par ∧ 0 ≤ a.frame ∧ a.frame < shlF a.seq.bits := Iff.rfl
      have t1 := tilesOf_impl a.seq.level a.seq.bits a.seq.cols a.seq.rows
      have p1 := parOk_impl a.par
      unfold admitVs
      rw [hh]
      refine vow_of_ev (fn := Try.f101) [] [(0, 0), (3, 12), (0, 0), (13, 15), (16, 35), (35, 54)] tt_ok Try.func101 (by decide) rfl (Nat.le_of_ble_eq_true rfl) rfl rfl rfl ?_
      by_cases ht : tilesOf a.seq.level a.seq.bits a.seq.cols a.seq.rows = 1
      · obtain ⟨m, m1, m2, m3⟩ := shl_fit (tiles1 ht)
        have hb := tiles1 ht
        have hm : shlF a.seq.bits = m := m3
        rw [hm] at hon
        have w3 := within_vow a.frame 0 (m - 1)
        repeat' (conv => whnf); first | refine CallP.rd (w1) rfl rfl rfl rfl ?_ | refine DCall.rd (w1) rfl rfl ?_ | refine CallP.rd (w2) rfl rfl rfl rfl ?_ | refine DCall.rd (w2) rfl rfl ?_ | refine CallP.rd (t1) rfl rfl rfl rfl ?_ | refine DCall.rd (t1) rfl rfl ?_ | refine CallP.rd (p1) rfl rfl rfl rfl ?_ | refine DCall.rd (p1) rfl rfl ?_ | refine CallP.rd (w3) rfl rfl rfl rfl ?_ | refine DCall.rd (w3) rfl rfl ?_ | refine Shl.to m3 (by omega) ?_ | refine Br.tt ?_ | refine Br.ff ?_ | refine Br.not ?_ | refine Br.dand (fun _ => ?_) (fun _ => ?_) | refine Br.dec (fun _ => ?_) (fun _ => ?_) | refine Br.beq (fun _ => ?_) (fun _ => ?_) | refine Br.bne (fun _ => ?_) (fun _ => ?_) | refine Br.seq (fun _ => ?_) (fun _ => ?_) | refine Elt.i (by omega) ?_ | refine EltN.i (by omega) ?_ | refine Nt.cast ?_ | refine Nt.mk _ rfl ?_ | refine EltN.mk _ rfl ?_ | refine Mx.mk _ rfl ?_ | refine Br.mk (fun _ => ?_) (fun _ => ?_) | refine EndP.mk ?_ trivial | refine EndP.mk ?_ ⟨.inr ⟨List.mem_cons_self .., ?_, rfl⟩, trivial⟩ | refine Ar.i64 (by omega) ?_ | refine Ar.u8 (by omega) ?_ | refine Quo.pos (by omega) ?_ | refine Rem.pos (by omega) ?_ | refine BsP.own ?_ | refine SetN.two ?_ | refine SetN.one ?_ | refine Ob.mk ⟨rfl, rfl⟩ ?_ | refine Ob.mk (flat_i _ _).1 ?_ | refine Ob.mk (flat_i _ _) ?_ | refine Ob.mk (flat_s _) ?_ | refine Ob.mk (by first | omega | (simp; first | done | fail) | (simp; omega)) ?_ | fail
        all_goals first
          | (exfalso; omega)
          | (rw [decide_eq_true (hon.2 ⟨ht, by assumption, by omega, by omega⟩)]; rfl)
          | (rw [decide_eq_false (fun k => by have k' := hon.1 k; first | omega | simp_all)]; rfl)
          | (refine congrArg V.b ?_; rw [Bool.eq_iff_iff]; simp only [Bool.and_eq_true, decide_eq_true_eq]; rw [hon]; simp_all; first | done | omega)
      · rw [decide_eq_false (fun k => ht (hon.1 k).1)]
        repeat' (conv => whnf); first | refine CallP.rd (w1) rfl rfl rfl rfl ?_ | refine DCall.rd (w1) rfl rfl ?_ | refine CallP.rd (w2) rfl rfl rfl rfl ?_ | refine DCall.rd (w2) rfl rfl ?_ | refine CallP.rd (t1) rfl rfl rfl rfl ?_ | refine DCall.rd (t1) rfl rfl ?_ | refine CallP.rd (p1) rfl rfl rfl rfl ?_ | refine DCall.rd (p1) rfl rfl ?_ | refine Br.tt ?_ | refine Br.ff ?_ | refine Br.not ?_ | refine Br.dand (fun _ => ?_) (fun _ => ?_) | refine Br.dec (fun _ => ?_) (fun _ => ?_) | refine Br.beq (fun _ => ?_) (fun _ => ?_) | refine Br.bne (fun _ => ?_) (fun _ => ?_) | refine Br.seq (fun _ => ?_) (fun _ => ?_) | refine Elt.i (by omega) ?_ | refine EltN.i (by omega) ?_ | refine Nt.cast ?_ | refine Nt.mk _ rfl ?_ | refine EltN.mk _ rfl ?_ | refine Mx.mk _ rfl ?_ | refine Br.mk (fun _ => ?_) (fun _ => ?_) | refine EndP.mk ?_ trivial | refine EndP.mk ?_ ⟨.inr ⟨List.mem_cons_self .., ?_, rfl⟩, trivial⟩ | refine Ar.i64 (by omega) ?_ | refine Ar.u8 (by omega) ?_ | refine Quo.pos (by omega) ?_ | refine Rem.pos (by omega) ?_ | refine BsP.own ?_ | refine SetN.two ?_ | refine SetN.one ?_ | refine Ob.mk ⟨rfl, rfl⟩ ?_ | refine Ob.mk (flat_i _ _).1 ?_ | refine Ob.mk (flat_i _ _) ?_ | refine Ob.mk (flat_s _) ?_ | refine Ob.mk (by first | omega | (simp; first | done | fail) | (simp; omega)) ?_ | fail
        all_goals first
          | (exfalso; omega)
          | rfl
  · have hd : admitOk a = false := by unfold admitOk; rw [decide_eq_false hcn]; rfl
    rw [hd]
    rw [hc] at hcn
    unfold admitVs
    refine vow_of_ev (fn := Try.f101) [] [(0, 0), (3, 12), (0, 0), (13, 15), (16, 35), (35, 54)] tt_ok Try.func101 (by decide) rfl (Nat.le_of_ble_eq_true rfl) rfl rfl rfl ?_
    repeat' (conv => whnf); first | refine CallP.rd (w1) rfl rfl rfl rfl ?_ | refine DCall.rd (w1) rfl rfl ?_ | refine CallP.rd (w2) rfl rfl rfl rfl ?_ | refine DCall.rd (w2) rfl rfl ?_ | refine Br.tt ?_ | refine Br.ff ?_ | refine Br.not ?_ | refine Br.dand (fun _ => ?_) (fun _ => ?_) | refine Br.dec (fun _ => ?_) (fun _ => ?_) | refine Br.beq (fun _ => ?_) (fun _ => ?_) | refine Br.bne (fun _ => ?_) (fun _ => ?_) | refine Br.seq (fun _ => ?_) (fun _ => ?_) | refine Elt.i (by omega) ?_ | refine EltN.i (by omega) ?_ | refine Nt.cast ?_ | refine Nt.mk _ rfl ?_ | refine EltN.mk _ rfl ?_ | refine Mx.mk _ rfl ?_ | refine Br.mk (fun _ => ?_) (fun _ => ?_) | refine EndP.mk ?_ trivial | refine EndP.mk ?_ ⟨.inr ⟨List.mem_cons_self .., ?_, rfl⟩, trivial⟩ | refine Ar.i64 (by omega) ?_ | refine Ar.u8 (by omega) ?_ | refine Quo.pos (by omega) ?_ | refine Rem.pos (by omega) ?_ | refine BsP.own ?_ | refine SetN.two ?_ | refine SetN.one ?_ | refine Ob.mk ⟨rfl, rfl⟩ ?_ | refine Ob.mk (flat_i _ _).1 ?_ | refine Ob.mk (flat_i _ _) ?_ | refine Ob.mk (flat_s _) ?_ | refine Ob.mk (by first | omega | (simp; first | done | fail) | (simp; omega)) ?_ | fail
    all_goals first
      | (exfalso; omega)
      | rfl
set_option maxHeartbeats 8000000 in
theorem admitOk_spec (a : AdmitD) : Vow Try.prog 130 [admitVs a] (.b (admitOk a)) [] := by
  have l1 : (a.seq.cols.map (V.i .i64)).length = a.seq.cols.length := by simp
  have l2 : (a.seq.rows.map (V.i .i64)).length = a.seq.rows.length := by simp
  have w1 := l23Count_vow a.count
  have w2 := l23Count_vow a.gone
  have hc : aCnt a ↔ (0 ≤ a.count ∧ a.count ≤ 1000000000) ∧ 0 ≤ a.gone ∧ a.gone ≤ 1000000000 := Iff.rfl
  by_cases hcn : aCnt a
  · have hc' := hc.1 hcn
    cases hh : a.has
    · have hd : admitOk a = decide (aOff a) := by unfold admitOk; rw [decide_eq_true hcn, hh]; rfl
      rw [hd]
      have hoff : aOff a ↔ a.live = false ∧ noSeq a.seq.level a.seq.bits a.seq.cols a.seq.rows ∧ (a.par.qp = 0 ∧ a.par.large = false ∧ a.par.exact = false ∧ a.par.confined = false) ∧ a.frame = 0 := Iff.rfl
      have hns : noSeq a.seq.level a.seq.bits a.seq.cols a.seq.rows ↔ a.seq.level = 0 ∧ a.seq.bits = 0 ∧ a.seq.cols.length = 0 ∧ a.seq.rows.length = 0 := Iff.rfl
      rw [hns] at hoff
      unfold admitVs
      rw [hh]
      refine vow_of_ev (fn := Try.f130) [] [(0, 0), (3, 12), (0, 0), (13, 15), (16, 56), (56, 80)] tt_ok Try.func130 (by decide) rfl (Nat.le_of_ble_eq_true rfl) rfl rfl rfl ?_
      repeat' (conv => whnf); first | refine CallP.rd (w1) rfl rfl rfl rfl ?_ | refine DCall.rd (w1) rfl rfl ?_ | refine CallP.rd (w2) rfl rfl rfl rfl ?_ | refine DCall.rd (w2) rfl rfl ?_ | refine Br.and ?_ | refine Br.bf (fun _ => ?_) (fun _ => ?_) | refine Br.tt ?_ | refine Br.ff ?_ | refine Br.not ?_ | refine Br.dand (fun _ => ?_) (fun _ => ?_) | refine Br.dec (fun _ => ?_) (fun _ => ?_) | refine Br.beq (fun _ => ?_) (fun _ => ?_) | refine Br.bne (fun _ => ?_) (fun _ => ?_) | refine Br.seq (fun _ => ?_) (fun _ => ?_) | refine Elt.i (by omega) ?_ | refine EltN.i (by omega) ?_ | refine Nt.cast ?_ | refine Nt.mk _ rfl ?_ | refine EltN.mk _ rfl ?_ | refine Mx.mk _ rfl ?_ | refine Br.mk (fun _ => ?_) (fun _ => ?_) | refine EndP.mk ?_ trivial | refine EndP.mk ?_ ⟨.inr ⟨List.mem_cons_self .., ?_, rfl⟩, trivial⟩ | refine Ar.i64 (by omega) ?_ | refine Ar.u8 (by omega) ?_ | refine Quo.pos (by omega) ?_ | refine Rem.pos (by omega) ?_ | refine BsP.own ?_ | refine SetN.two ?_ | refine SetN.one ?_ | refine Ob.mk ⟨rfl, rfl⟩ ?_ | refine Ob.mk (flat_i _ _).1 ?_ | refine Ob.mk (flat_i _ _) ?_ | refine Ob.mk (flat_s _) ?_ | refine Ob.mk (by first | omega | (simp; first | done | fail) | (simp; omega)) ?_ | fail
      all_goals first
        | (exfalso; omega)
        | (rw [decide_eq_true (hoff.2 ⟨by assumption, by omega, ⟨by assumption, by assumption, by assumption, by assumption⟩, by omega⟩)]; rfl)
        | (rw [decide_eq_false (fun k => by have k' := hoff.1 k; first | omega | simp_all)]; rfl)
        | (refine congrArg V.b ?_; rw [Bool.eq_iff_iff]; simp only [decide_eq_true_eq, beq_iff_eq]; rw [hoff]; simp_all; first | done | omega)
    · have hd : admitOk a = decide (aOn a) := by unfold admitOk; rw [decide_eq_true hcn, hh]; rfl
      rw [hd]
      have hon : aOn a ↔ tilesOf a.seq.level a.seq.bits a.seq.cols a.seq.rows = 1 ∧ parOk a.par ∧ 0 ≤ a.frame ∧ a.frame < shlF a.seq.bits := Iff.rfl
      have t1 := tilesOf_spec a.seq.level a.seq.bits a.seq.cols a.seq.rows
      have p1 := parOk_spec a.par
      unfold admitVs
      rw [hh]
      refine vow_of_ev (fn := Try.f130) [] [(0, 0), (3, 12), (0, 0), (13, 15), (16, 56), (56, 80)] tt_ok Try.func130 (by decide) rfl (Nat.le_of_ble_eq_true rfl) rfl rfl rfl ?_
      by_cases ht : tilesOf a.seq.level a.seq.bits a.seq.cols a.seq.rows = 1
      · obtain ⟨m, m1, m2, m3⟩ := shl_fit (tiles1 ht)
        have hb := tiles1 ht
        have hm : shlF a.seq.bits = m := m3
        rw [hm] at hon
        repeat' (conv => whnf); first | refine CallP.rd (w1) rfl rfl rfl rfl ?_ | refine DCall.rd (w1) rfl rfl ?_ | refine CallP.rd (w2) rfl rfl rfl rfl ?_ | refine DCall.rd (w2) rfl rfl ?_ | refine CallP.rd (t1) rfl rfl rfl rfl ?_ | refine DCall.rd (t1) rfl rfl ?_ | refine CallP.rd (p1) rfl rfl rfl rfl ?_ | refine DCall.rd (p1) rfl rfl ?_ | refine Shl.to m3 (by omega) ?_ | refine Ar.u64 (by omega) ?_ | refine Br.tt ?_ | refine Br.ff ?_ | refine Br.not ?_ | refine Br.dand (fun _ => ?_) (fun _ => ?_) | refine Br.dec (fun _ => ?_) (fun _ => ?_) | refine Br.beq (fun _ => ?_) (fun _ => ?_) | refine Br.bne (fun _ => ?_) (fun _ => ?_) | refine Br.seq (fun _ => ?_) (fun _ => ?_) | refine Elt.i (by omega) ?_ | refine EltN.i (by omega) ?_ | refine Nt.cast ?_ | refine Nt.mk _ rfl ?_ | refine EltN.mk _ rfl ?_ | refine Mx.mk _ rfl ?_ | refine Br.mk (fun _ => ?_) (fun _ => ?_) | refine EndP.mk ?_ trivial | refine EndP.mk ?_ ⟨.inr ⟨List.mem_cons_self .., ?_, rfl⟩, trivial⟩ | refine Ar.i64 (by omega) ?_ | refine Ar.u8 (by omega) ?_ | refine Quo.pos (by omega) ?_ | refine Rem.pos (by omega) ?_ | refine BsP.own ?_ | refine SetN.two ?_ | refine SetN.one ?_ | refine Ob.mk ⟨rfl, rfl⟩ ?_ | refine Ob.mk (flat_i _ _).1 ?_ | refine Ob.mk (flat_i _ _) ?_ | refine Ob.mk (flat_s _) ?_ | refine Ob.mk (by first | omega | (simp; first | done | fail) | (simp; omega)) ?_ | fail
        all_goals first
          | (exfalso; omega)
          | (rw [decide_eq_true (hon.2 ⟨ht, by assumption, by omega, by omega⟩)]; rfl)
          | (rw [decide_eq_false (fun k => by have k' := hon.1 k; first | omega | simp_all)]; rfl)
          | (refine congrArg V.b ?_; rw [Bool.eq_iff_iff]; simp only [Bool.and_eq_true, decide_eq_true_eq]; rw [hon]; simp_all; first | done | omega)
      · rw [decide_eq_false (fun k => ht (hon.1 k).1)]
        repeat' (conv => whnf); first | refine CallP.rd (w1) rfl rfl rfl rfl ?_ | refine DCall.rd (w1) rfl rfl ?_ | refine CallP.rd (w2) rfl rfl rfl rfl ?_ | refine DCall.rd (w2) rfl rfl ?_ | refine CallP.rd (t1) rfl rfl rfl rfl ?_ | refine DCall.rd (t1) rfl rfl ?_ | refine CallP.rd (p1) rfl rfl rfl rfl ?_ | refine DCall.rd (p1) rfl rfl ?_ | refine Br.tt ?_ | refine Br.ff ?_ | refine Br.not ?_ | refine Br.dand (fun _ => ?_) (fun _ => ?_) | refine Br.dec (fun _ => ?_) (fun _ => ?_) | refine Br.beq (fun _ => ?_) (fun _ => ?_) | refine Br.bne (fun _ => ?_) (fun _ => ?_) | refine Br.seq (fun _ => ?_) (fun _ => ?_) | refine Elt.i (by omega) ?_ | refine EltN.i (by omega) ?_ | refine Nt.cast ?_ | refine Nt.mk _ rfl ?_ | refine EltN.mk _ rfl ?_ | refine Mx.mk _ rfl ?_ | refine Br.mk (fun _ => ?_) (fun _ => ?_) | refine EndP.mk ?_ trivial | refine EndP.mk ?_ ⟨.inr ⟨List.mem_cons_self .., ?_, rfl⟩, trivial⟩ | refine Ar.i64 (by omega) ?_ | refine Ar.u8 (by omega) ?_ | refine Quo.pos (by omega) ?_ | refine Rem.pos (by omega) ?_ | refine BsP.own ?_ | refine SetN.two ?_ | refine SetN.one ?_ | refine Ob.mk ⟨rfl, rfl⟩ ?_ | refine Ob.mk (flat_i _ _).1 ?_ | refine Ob.mk (flat_i _ _) ?_ | refine Ob.mk (flat_s _) ?_ | refine Ob.mk (by first | omega | (simp; first | done | fail) | (simp; omega)) ?_ | fail
        all_goals first
          | (exfalso; omega)
          | rfl
  · have hd : admitOk a = false := by unfold admitOk; rw [decide_eq_false hcn]; rfl
    rw [hd]
    rw [hc] at hcn
    unfold admitVs
    refine vow_of_ev (fn := Try.f130) [] [(0, 0), (3, 12), (0, 0), (13, 15), (16, 56), (56, 80)] tt_ok Try.func130 (by decide) rfl (Nat.le_of_ble_eq_true rfl) rfl rfl rfl ?_
    repeat' (conv => whnf); first | refine CallP.rd (w1) rfl rfl rfl rfl ?_ | refine DCall.rd (w1) rfl rfl ?_ | refine CallP.rd (w2) rfl rfl rfl rfl ?_ | refine DCall.rd (w2) rfl rfl ?_ | refine Br.tt ?_ | refine Br.ff ?_ | refine Br.not ?_ | refine Br.dand (fun _ => ?_) (fun _ => ?_) | refine Br.dec (fun _ => ?_) (fun _ => ?_) | refine Br.beq (fun _ => ?_) (fun _ => ?_) | refine Br.bne (fun _ => ?_) (fun _ => ?_) | refine Br.seq (fun _ => ?_) (fun _ => ?_) | refine Elt.i (by omega) ?_ | refine EltN.i (by omega) ?_ | refine Nt.cast ?_ | refine Nt.mk _ rfl ?_ | refine EltN.mk _ rfl ?_ | refine Mx.mk _ rfl ?_ | refine Br.mk (fun _ => ?_) (fun _ => ?_) | refine EndP.mk ?_ trivial | refine EndP.mk ?_ ⟨.inr ⟨List.mem_cons_self .., ?_, rfl⟩, trivial⟩ | refine Ar.i64 (by omega) ?_ | refine Ar.u8 (by omega) ?_ | refine Quo.pos (by omega) ?_ | refine Rem.pos (by omega) ?_ | refine BsP.own ?_ | refine SetN.two ?_ | refine SetN.one ?_ | refine Ob.mk ⟨rfl, rfl⟩ ?_ | refine Ob.mk (flat_i _ _).1 ?_ | refine Ob.mk (flat_i _ _) ?_ | refine Ob.mk (flat_s _) ?_ | refine Ob.mk (by first | omega | (simp; first | done | fail) | (simp; omega)) ?_ | fail
    all_goals first
      | (exfalso; omega)
      | rfl

def sizeOf (lvl bits : Int) (c r : List Int) : Int × Int := (if seqOk lvl bits c r = true then 8 * sideSum c else 0, if seqOk lvl bits c r = true then 8 * sideSum r else 0)
def admitFits (a : AdmitD) (lvl bits : Int) (c r : List Int) (t : Int) : Bool :=
  decide (tileIn lvl bits c r t) && (admitOk a && (a.has && decide ((sizeOf a.seq.level a.seq.bits a.seq.cols a.seq.rows).1 = (tileR lvl bits c r t).wide ∧ (sizeOf a.seq.level a.seq.bits a.seq.cols a.seq.rows).2 = (tileR lvl bits c r t).high)))
theorem admitFits_iff (a : AdmitD) (lvl bits : Int) (c r : List Int) (t : Int) : admitFits a lvl bits c r t = true ↔ tileIn lvl bits c r t ∧ admitOk a = true ∧ a.has = true ∧
    (sizeOf a.seq.level a.seq.bits a.seq.cols a.seq.rows).1 = (tileR lvl bits c r t).wide ∧ (sizeOf a.seq.level a.seq.bits a.seq.cols a.seq.rows).2 = (tileR lvl bits c r t).high := by
  simp only [admitFits, Bool.and_eq_true, decide_eq_true_eq]

set_option maxHeartbeats 8000000 in
theorem admitFits_impl (a : AdmitD) (lvl bits : Int) (c r : List Int) (t : Int) : Vow Try.prog 102 [admitVs a, seqV lvl bits c r, .i .i64 t] (.b (admitFits a lvl bits c r t)) [] := by
  have t1 := tileRect_impl lvl bits c r t
  have z1 := sizeOf_impl a.seq.level a.seq.bits a.seq.cols a.seq.rows
  have k1 := admitOk_impl a
  have hfit := admitFits_iff a lvl bits c r t
  rw [show (V.tp [.i .i64 (if seqOk a.seq.level a.seq.bits a.seq.cols a.seq.rows = true then 8 * sideSum a.seq.cols else 0), .i .i64 (if seqOk a.seq.level a.seq.bits a.seq.cols a.seq.rows = true then 8 * sideSum a.seq.rows else 0)]) = V.tp [.i .i64 (sizeOf a.seq.level a.seq.bits a.seq.cols a.seq.rows).1, .i .i64 (sizeOf a.seq.level a.seq.bits a.seq.cols a.seq.rows).2] from rfl] at z1
  generalize sizeOf a.seq.level a.seq.bits a.seq.cols a.seq.rows = Z at z1 hfit
  generalize tileR lvl bits c r t = R at t1 hfit
  generalize admitFits a lvl bits c r t = F at hfit ⊢
  refine vow_of_ev (fn := Try.f102) [] [(0, 0), (11, 17), (17, 23), (23, 44)] tt_ok Try.func102 (by decide) rfl (Nat.le_of_ble_eq_true rfl) rfl rfl rfl ?_
  repeat' (conv => whnf); first | refine CallP.rd (t1) rfl rfl rfl rfl ?_ | refine DCall.rd (t1) rfl rfl ?_ | refine CallP.rd (z1) rfl rfl rfl rfl ?_ | refine DCall.rd (z1) rfl rfl ?_ | refine CallP.rd (k1) rfl rfl rfl rfl ?_ | refine DCall.rd (k1) rfl rfl ?_ | refine Br.tt ?_ | refine Br.ff ?_ | refine Br.not ?_ | refine Br.dand (fun _ => ?_) (fun _ => ?_) | refine Br.dec (fun _ => ?_) (fun _ => ?_) | refine Br.beq (fun _ => ?_) (fun _ => ?_) | refine Br.bne (fun _ => ?_) (fun _ => ?_) | refine Br.seq (fun _ => ?_) (fun _ => ?_) | refine Elt.i (by omega) ?_ | refine EltN.i (by omega) ?_ | refine Nt.cast ?_ | refine Nt.mk _ rfl ?_ | refine EltN.mk _ rfl ?_ | refine Mx.mk _ rfl ?_ | refine Br.mk (fun _ => ?_) (fun _ => ?_) | refine EndP.mk ?_ trivial | refine EndP.mk ?_ ⟨.inr ⟨List.mem_cons_self .., ?_, rfl⟩, trivial⟩ | refine Ar.i64 (by omega) ?_ | refine Ar.u8 (by omega) ?_ | refine Quo.pos (by omega) ?_ | refine Rem.pos (by omega) ?_ | refine BsP.own ?_ | refine SetN.two ?_ | refine SetN.one ?_ | refine Ob.mk ⟨rfl, rfl⟩ ?_ | refine Ob.mk (flat_i _ _).1 ?_ | refine Ob.mk (flat_i _ _) ?_ | refine Ob.mk (flat_s _) ?_ | refine Ob.mk (by first | omega | (simp; first | done | fail) | (simp; omega)) ?_ | fail
  all_goals first
    | (rw [hfit.2 ⟨by assumption, by assumption, by assumption, by assumption, by assumption⟩]; rfl)
    | (rw [Bool.eq_false_iff.2 (fun k => by have k' := hfit.1 k; simp_all)]; rfl)
    | (refine congrArg V.b ?_; rw [Bool.eq_iff_iff]; rw [hfit]; simp_all; first | done | omega)
set_option maxHeartbeats 8000000 in
theorem admitFits_spec (a : AdmitD) (lvl bits : Int) (c r : List Int) (t : Int) : Vow Try.prog 131 [admitVs a, seqV lvl bits c r, .i .i64 t] (.b (admitFits a lvl bits c r t)) [] := by
  have t1 := tileRect_spec lvl bits c r t
  have z1 := sizeOf_spec a.seq.level a.seq.bits a.seq.cols a.seq.rows
  have k1 := admitOk_spec a
  have hfit := admitFits_iff a lvl bits c r t
  rw [show (V.tp [.i .i64 (if seqOk a.seq.level a.seq.bits a.seq.cols a.seq.rows = true then 8 * sideSum a.seq.cols else 0), .i .i64 (if seqOk a.seq.level a.seq.bits a.seq.cols a.seq.rows = true then 8 * sideSum a.seq.rows else 0)]) = V.tp [.i .i64 (sizeOf a.seq.level a.seq.bits a.seq.cols a.seq.rows).1, .i .i64 (sizeOf a.seq.level a.seq.bits a.seq.cols a.seq.rows).2] from rfl] at z1
  generalize sizeOf a.seq.level a.seq.bits a.seq.cols a.seq.rows = Z at z1 hfit
  generalize tileR lvl bits c r t = R at t1 hfit
  generalize admitFits a lvl bits c r t = F at hfit ⊢
  refine vow_of_ev (fn := Try.f131) [] [(0, 0), (11, 17), (17, 28), (0, 0), (29, 35), (35, 45)] tt_ok Try.func131 (by decide) rfl (Nat.le_of_ble_eq_true rfl) rfl rfl rfl ?_
  repeat' (conv => whnf); first | refine CallP.rd (t1) rfl rfl rfl rfl ?_ | refine DCall.rd (t1) rfl rfl ?_ | refine CallP.rd (z1) rfl rfl rfl rfl ?_ | refine DCall.rd (z1) rfl rfl ?_ | refine CallP.rd (k1) rfl rfl rfl rfl ?_ | refine DCall.rd (k1) rfl rfl ?_ | refine Br.tt ?_ | refine Br.ff ?_ | refine Br.not ?_ | refine Br.dand (fun _ => ?_) (fun _ => ?_) | refine Br.dec (fun _ => ?_) (fun _ => ?_) | refine Br.beq (fun _ => ?_) (fun _ => ?_) | refine Br.bne (fun _ => ?_) (fun _ => ?_) | refine Br.seq (fun _ => ?_) (fun _ => ?_) | refine Elt.i (by omega) ?_ | refine EltN.i (by omega) ?_ | refine Nt.cast ?_ | refine Nt.mk _ rfl ?_ | refine EltN.mk _ rfl ?_ | refine Mx.mk _ rfl ?_ | refine Br.mk (fun _ => ?_) (fun _ => ?_) | refine EndP.mk ?_ trivial | refine EndP.mk ?_ ⟨.inr ⟨List.mem_cons_self .., ?_, rfl⟩, trivial⟩ | refine Ar.i64 (by omega) ?_ | refine Ar.u8 (by omega) ?_ | refine Quo.pos (by omega) ?_ | refine Rem.pos (by omega) ?_ | refine BsP.own ?_ | refine SetN.two ?_ | refine SetN.one ?_ | refine Ob.mk ⟨rfl, rfl⟩ ?_ | refine Ob.mk (flat_i _ _).1 ?_ | refine Ob.mk (flat_i _ _) ?_ | refine Ob.mk (flat_s _) ?_ | refine Ob.mk (by first | omega | (simp; first | done | fail) | (simp; omega)) ?_ | fail
  all_goals first
    | (rw [hfit.2 ⟨by assumption, by assumption, by assumption, by assumption, by assumption⟩]; rfl)
    | (rw [Bool.eq_false_iff.2 (fun k => by have k' := hfit.1 k; simp_all)]; rfl)
    | (refine congrArg V.b ?_; rw [Bool.eq_iff_iff]; rw [hfit]; simp_all; first | done | omega)
end Go.Proofs.Ytjomgcgeknpehaa
