/- Levels of a layout. No condition. -/
import Derived.Test.YtafipjhalboefaaGreatSf
namespace Go.Proofs.YtafipjhalboefaaGreat
open Go Go.Vx
set_option linter.unusedVariables false
set_option linter.unusedSimpArgs false
set_option maxHeartbeats 600000
set_option maxRecDepth 100000

def seqV (lvl bits : Int) (c r : List Int) : V := .ag [.i .i64 lvl, .i .i64 bits, iS c, iS r]
def squares (c r : List Int) : Int := sideSum c * sideSum r
theorem squares_fit (c r : List Int) : 0 ≤ squares c r ∧ squares c r ≤ 1024 := mul_fit (sideSum_fit c) (sideSum_fit r)
theorem squares_bad1 {c r : List Int} (h : sideSum c = 0) : squares c r = 0 := by unfold squares; rw [h, Int.zero_mul]
theorem squares_bad2 {c r : List Int} (h : sideSum r = 0) : squares c r = 0 := by unfold squares; rw [h, Int.mul_zero]

theorem squares_spec (lvl bits : Int) (c r : List Int) : Vow Tryz.prog 116 [seqV lvl bits c r] (.i .i64 (squares c r)) [] := by
  refine vow_of_ev (fn := Tryz.f116) [] [(0, 0), (3, 10)] tt_ok Tryz.func116 (by decide) rfl (Nat.le_of_ble_eq_true rfl) rfl rfl rfl ?_
  have h1 := squares_fit c r
  unfold squares at h1
  repeat' (conv => whnf); first | refine CallP.rd (l05Sum_vow c) rfl rfl rfl rfl ?_ | refine DCall.rd (l05Sum_vow c) rfl rfl ?_ | refine CallP.rd (l05Sum_vow r) rfl rfl rfl rfl ?_ | refine DCall.rd (l05Sum_vow r) rfl rfl ?_ | refine Br.tt ?_ | refine Br.ff ?_ | refine Br.not ?_ | refine Br.dand (fun _ => ?_) (fun _ => ?_) | refine Br.dec (fun _ => ?_) (fun _ => ?_) | refine Br.beq (fun _ => ?_) (fun _ => ?_) | refine Br.bne (fun _ => ?_) (fun _ => ?_) | refine Br.seq (fun _ => ?_) (fun _ => ?_) | refine Elt.i (by omega) ?_ | refine EltN.i (by omega) ?_ | refine Nt.cast ?_ | refine Nt.mk _ rfl ?_ | refine EltN.mk _ rfl ?_ | refine Mx.mk _ rfl ?_ | refine Br.mk (fun _ => ?_) (fun _ => ?_) | refine EndP.mk ?_ trivial | refine EndP.mk ?_ ⟨.inr ⟨List.mem_cons_self .., ?_, rfl⟩, trivial⟩ | refine Ar.i64 (by omega) ?_ | refine Ar.u8 (by omega) ?_ | refine Quo.pos (by omega) ?_ | refine Rem.pos (by omega) ?_ | refine BsP.own ?_ | refine SetN.two ?_ | refine SetN.one ?_ | refine Ob.mk ⟨rfl, rfl⟩ ?_ | refine Ob.mk (flat_i _ _).1 ?_ | refine Ob.mk (flat_i _ _) ?_ | refine Ob.mk (flat_s _) ?_ | refine Ob.mk (by first | omega | (simp; first | done | fail) | (simp; omega)) ?_ | fail
  rfl

theorem squares_impl (lvl bits : Int) (c r : List Int) : Vow Tryz.prog 120 [seqV lvl bits c r] (.i .i64 (squares c r)) [] := by
  refine vow_of_ev (fn := Tryz.f120) [] [(0, 0), (7, 11), (0, 0), (15, 17), (17, 20), (0, 0), (0, 0), (0, 0), (25, 27), (27, 29), (0, 0), (30, 31), (31, 32), (32, 39)] tt_ok Tryz.func120 (by decide) rfl (Nat.le_of_ble_eq_true rfl) rfl rfl rfl ?_
  have h1 := squares_fit c r
  unfold squares at h1
  have lc : (c.map (V.i .i64)).length = c.length := by simp
  have lr : (r.map (V.i .i64)).length = r.length := by simp
  repeat' (conv => whnf); first | refine Br.tt ?_ | refine Br.ff ?_ | refine Br.not ?_ | refine Br.dand (fun _ => ?_) (fun _ => ?_) | refine Br.dec (fun _ => ?_) (fun _ => ?_) | refine Br.beq (fun _ => ?_) (fun _ => ?_) | refine Br.bne (fun _ => ?_) (fun _ => ?_) | refine Br.seq (fun _ => ?_) (fun _ => ?_) | refine Elt.i (by omega) ?_ | refine EltN.i (by omega) ?_ | refine Nt.cast ?_ | refine Nt.mk _ rfl ?_ | refine EltN.mk _ rfl ?_ | refine Mx.mk _ rfl ?_ | refine Br.mk (fun _ => ?_) (fun _ => ?_) | refine EndP.mk ?_ trivial | refine EndP.mk ?_ ⟨.inr ⟨List.mem_cons_self .., ?_, rfl⟩, trivial⟩ | refine Ar.i64 (by omega) ?_ | refine Ar.u8 (by omega) ?_ | refine Quo.pos (by omega) ?_ | refine Rem.pos (by omega) ?_ | refine BsP.own ?_ | refine SetN.two ?_ | refine SetN.one ?_ | refine Ob.mk ⟨rfl, rfl⟩ ?_ | refine Ob.mk (flat_i _ _).1 ?_ | refine Ob.mk (flat_i _ _) ?_ | refine Ob.mk (flat_s _) ?_ | refine Ob.mk (by first | omega | (simp; first | done | fail) | (simp; omega)) ?_ | fail
  · conv => whnf
    refine LoopP.mk [1,2,11,12,13] (fun k : Nat => [(1, .bx [.i .i64 lvl, .i .i64 bits, iS c, iS r]), (2, .i .i64 0), (11, .ow 1 [iS c, iS r]), (12, .i .i64 2), (13, .i .i64 k)]) (fun k => 2 - k)
      (fun k => k ≤ 2 ∧ (1 ≤ k → sidesOk c) ∧ (2 ≤ k → sidesOk r)) ?_ ?_
    · conv => whnf
      exact ⟨0, ⟨by omega, by omega, by omega⟩, rfl⟩
    · rintro k ⟨hk, hc, hr⟩
      obtain rfl | rfl | rfl : k = 0 ∨ k = 1 ∨ k = 2 := by omega
      · repeat' (conv => whnf); first | refine CallP.rd (within_vow _ _ _) rfl rfl rfl rfl ?_ | refine Br.tt ?_ | refine Br.ff ?_ | refine Br.not ?_ | refine Br.dand (fun _ => ?_) (fun _ => ?_) | refine Br.dec (fun _ => ?_) (fun _ => ?_) | refine Br.beq (fun _ => ?_) (fun _ => ?_) | refine Br.bne (fun _ => ?_) (fun _ => ?_) | refine Br.seq (fun _ => ?_) (fun _ => ?_) | refine Elt.i (by omega) ?_ | refine EltN.i (by omega) ?_ | refine Nt.cast ?_ | refine Nt.mk _ rfl ?_ | refine EltN.mk _ rfl ?_ | refine Mx.mk _ rfl ?_ | refine Br.mk (fun _ => ?_) (fun _ => ?_) | refine EndP.mk ?_ trivial | refine EndP.mk ?_ ⟨.inr ⟨List.mem_cons_self .., ?_, rfl⟩, trivial⟩ | refine Ar.i64 (by omega) ?_ | refine Ar.u8 (by omega) ?_ | refine Quo.pos (by omega) ?_ | refine Rem.pos (by omega) ?_ | refine BsP.own ?_ | refine SetN.two ?_ | refine SetN.one ?_ | refine Ob.mk ⟨rfl, rfl⟩ ?_ | refine Ob.mk (flat_i _ _).1 ?_ | refine Ob.mk (flat_i _ _) ?_ | refine Ob.mk (flat_s _) ?_ | refine Ob.mk (by first | omega | (simp; first | done | fail) | (simp; omega)) ?_ | fail
        · conv => whnf
          refine LoopP.mk [1,2,11,12,13,21,22,23] (fun i : Nat => [(1, .bx [.i .i64 lvl, .i .i64 bits, iS c, iS r]), (2, .i .i64 0), (11, .ow 1 [iS c, iS r]), (12, .i .i64 2), (13, .i .i64 0), (21, iS c), (22, .i .i64 c.length), (23, .i .i64 i)]) (fun i => c.length - i) (fun i => i ≤ c.length ∧ ∀ j, j < i → 1 ≤ rd c j ∧ rd c j ≤ 8) ?_ ?_
          · conv => whnf
            exact ⟨0, ⟨by omega, fun j hj => by omega⟩, by rw [lc]; rfl⟩
          · rintro i ⟨hi, ha⟩
            repeat' (conv => whnf); first | refine CallP.rd (within_vow _ _ _) rfl rfl rfl rfl ?_ | refine Br.tt ?_ | refine Br.ff ?_ | refine Br.not ?_ | refine Br.dand (fun _ => ?_) (fun _ => ?_) | refine Br.dec (fun _ => ?_) (fun _ => ?_) | refine Br.beq (fun _ => ?_) (fun _ => ?_) | refine Br.bne (fun _ => ?_) (fun _ => ?_) | refine Br.seq (fun _ => ?_) (fun _ => ?_) | refine Elt.i (by omega) ?_ | refine EltN.i (by omega) ?_ | refine Nt.cast ?_ | refine Nt.mk _ rfl ?_ | refine EltN.mk _ rfl ?_ | refine Mx.mk _ rfl ?_ | refine Br.mk (fun _ => ?_) (fun _ => ?_) | refine EndP.mk ?_ trivial | refine EndP.mk ?_ ⟨.inr ⟨List.mem_cons_self .., ?_, rfl⟩, trivial⟩ | refine Ar.i64 (by omega) ?_ | refine Ar.u8 (by omega) ?_ | refine Quo.pos (by omega) ?_ | refine Rem.pos (by omega) ?_ | refine BsP.own ?_ | refine SetN.two ?_ | refine SetN.one ?_ | refine Ob.mk ⟨rfl, rfl⟩ ?_ | refine Ob.mk (flat_i _ _).1 ?_ | refine Ob.mk (flat_i _ _) ?_ | refine Ob.mk (flat_s _) ?_ | refine Ob.mk (by first | omega | (simp; first | done | fail) | (simp; omega)) ?_ | fail
            · conv => whnf
              exact ⟨i + 1, ⟨by omega, all_next ha (by assumption)⟩, by omega, rfl⟩
            · rw [squares_bad1 (sideSum_bad (i := i) (by omega) (by assumption))]; rfl
            · conv => whnf
              exact ⟨1, ⟨by omega, fun _ => ⟨by omega, fun j hj => ha j (by omega)⟩, by omega⟩, by omega, rfl⟩
        · rw [squares_bad1 (sideSum_len (by omega))]; rfl
      · have hc := hc (by omega)
        repeat' (conv => whnf); first | refine CallP.rd (within_vow _ _ _) rfl rfl rfl rfl ?_ | refine Br.tt ?_ | refine Br.ff ?_ | refine Br.not ?_ | refine Br.dand (fun _ => ?_) (fun _ => ?_) | refine Br.dec (fun _ => ?_) (fun _ => ?_) | refine Br.beq (fun _ => ?_) (fun _ => ?_) | refine Br.bne (fun _ => ?_) (fun _ => ?_) | refine Br.seq (fun _ => ?_) (fun _ => ?_) | refine Elt.i (by omega) ?_ | refine EltN.i (by omega) ?_ | refine Nt.cast ?_ | refine Nt.mk _ rfl ?_ | refine EltN.mk _ rfl ?_ | refine Mx.mk _ rfl ?_ | refine Br.mk (fun _ => ?_) (fun _ => ?_) | refine EndP.mk ?_ trivial | refine EndP.mk ?_ ⟨.inr ⟨List.mem_cons_self .., ?_, rfl⟩, trivial⟩ | refine Ar.i64 (by omega) ?_ | refine Ar.u8 (by omega) ?_ | refine Quo.pos (by omega) ?_ | refine Rem.pos (by omega) ?_ | refine BsP.own ?_ | refine SetN.two ?_ | refine SetN.one ?_ | refine Ob.mk ⟨rfl, rfl⟩ ?_ | refine Ob.mk (flat_i _ _).1 ?_ | refine Ob.mk (flat_i _ _) ?_ | refine Ob.mk (flat_s _) ?_ | refine Ob.mk (by first | omega | (simp; first | done | fail) | (simp; omega)) ?_ | fail
        · conv => whnf
          refine LoopP.mk [1,2,11,12,13,21,22,23] (fun i : Nat => [(1, .bx [.i .i64 lvl, .i .i64 bits, iS c, iS r]), (2, .i .i64 0), (11, .ow 1 [iS c, iS r]), (12, .i .i64 2), (13, .i .i64 1), (21, iS r), (22, .i .i64 r.length), (23, .i .i64 i)]) (fun i => r.length - i) (fun i => i ≤ r.length ∧ ∀ j, j < i → 1 ≤ rd r j ∧ rd r j ≤ 8) ?_ ?_
          · conv => whnf
            exact ⟨0, ⟨by omega, fun j hj => by omega⟩, by rw [lr]; rfl⟩
          · rintro i ⟨hi, ha⟩
            repeat' (conv => whnf); first | refine CallP.rd (within_vow _ _ _) rfl rfl rfl rfl ?_ | refine Br.tt ?_ | refine Br.ff ?_ | refine Br.not ?_ | refine Br.dand (fun _ => ?_) (fun _ => ?_) | refine Br.dec (fun _ => ?_) (fun _ => ?_) | refine Br.beq (fun _ => ?_) (fun _ => ?_) | refine Br.bne (fun _ => ?_) (fun _ => ?_) | refine Br.seq (fun _ => ?_) (fun _ => ?_) | refine Elt.i (by omega) ?_ | refine EltN.i (by omega) ?_ | refine Nt.cast ?_ | refine Nt.mk _ rfl ?_ | refine EltN.mk _ rfl ?_ | refine Mx.mk _ rfl ?_ | refine Br.mk (fun _ => ?_) (fun _ => ?_) | refine EndP.mk ?_ trivial | refine EndP.mk ?_ ⟨.inr ⟨List.mem_cons_self .., ?_, rfl⟩, trivial⟩ | refine Ar.i64 (by omega) ?_ | refine Ar.u8 (by omega) ?_ | refine Quo.pos (by omega) ?_ | refine Rem.pos (by omega) ?_ | refine BsP.own ?_ | refine SetN.two ?_ | refine SetN.one ?_ | refine Ob.mk ⟨rfl, rfl⟩ ?_ | refine Ob.mk (flat_i _ _).1 ?_ | refine Ob.mk (flat_i _ _) ?_ | refine Ob.mk (flat_s _) ?_ | refine Ob.mk (by first | omega | (simp; first | done | fail) | (simp; omega)) ?_ | fail
            · conv => whnf
              exact ⟨i + 1, ⟨by omega, all_next ha (by assumption)⟩, by omega, rfl⟩
            · rw [squares_bad2 (sideSum_bad (i := i) (by omega) (by assumption))]; rfl
            · conv => whnf
              exact ⟨2, ⟨by omega, fun _ => hc, fun _ => ⟨by omega, fun j hj => ha j (by omega)⟩⟩, by omega, rfl⟩
        · rw [squares_bad2 (sideSum_len (by omega))]; rfl
      · have hc := hc (by omega)
        have hr := hr (by omega)
        repeat' (conv => whnf); first | refine CallP.rd (sumOf_vow c hc) rfl rfl rfl rfl ?_ | refine DCall.rd (sumOf_vow c hc) rfl rfl ?_ | refine CallP.rd (sumOf_vow r hr) rfl rfl rfl rfl ?_ | refine DCall.rd (sumOf_vow r hr) rfl rfl ?_ | refine Br.tt ?_ | refine Br.ff ?_ | refine Br.not ?_ | refine Br.dand (fun _ => ?_) (fun _ => ?_) | refine Br.dec (fun _ => ?_) (fun _ => ?_) | refine Br.beq (fun _ => ?_) (fun _ => ?_) | refine Br.bne (fun _ => ?_) (fun _ => ?_) | refine Br.seq (fun _ => ?_) (fun _ => ?_) | refine Elt.i (by omega) ?_ | refine EltN.i (by omega) ?_ | refine Nt.cast ?_ | refine Nt.mk _ rfl ?_ | refine EltN.mk _ rfl ?_ | refine Mx.mk _ rfl ?_ | refine Br.mk (fun _ => ?_) (fun _ => ?_) | refine EndP.mk ?_ trivial | refine EndP.mk ?_ ⟨.inr ⟨List.mem_cons_self .., ?_, rfl⟩, trivial⟩ | refine Ar.i64 (by omega) ?_ | refine Ar.u8 (by omega) ?_ | refine Quo.pos (by omega) ?_ | refine Rem.pos (by omega) ?_ | refine BsP.own ?_ | refine SetN.two ?_ | refine SetN.one ?_ | refine Ob.mk ⟨rfl, rfl⟩ ?_ | refine Ob.mk (flat_i _ _).1 ?_ | refine Ob.mk (flat_i _ _) ?_ | refine Ob.mk (flat_s _) ?_ | refine Ob.mk (by first | omega | (simp; first | done | fail) | (simp; omega)) ?_ | fail
        rfl

def seqOk (lvl bits : Int) (c r : List Int) : Bool := decide (1 ≤ squares c r ∧ squares c r ≤ levelSq lvl) && decide (3 ≤ bits ∧ bits ≤ 8)

theorem seqOk_impl (lvl bits : Int) (c r : List Int) : Vow Tryz.prog 66 [seqV lvl bits c r] (.b (seqOk lvl bits c r)) [] := by
  refine vow_of_ev (fn := Tryz.f66) [] [(0, 0), (3, 14)] tt_ok Tryz.func66 (by decide) rfl (Nat.le_of_ble_eq_true rfl) rfl rfl rfl ?_
  repeat' (conv => whnf); first | refine CallP.rd (squares_impl lvl bits c r) rfl rfl rfl rfl ?_ | refine DCall.rd (squares_impl lvl bits c r) rfl rfl ?_ | refine CallP.rd (levelSq_impl lvl) rfl rfl rfl rfl ?_ | refine DCall.rd (levelSq_impl lvl) rfl rfl ?_ | refine CallP.rd (within_vow _ _ _) rfl rfl rfl rfl ?_ | refine DCall.rd (within_vow _ _ _) rfl rfl ?_ | refine Br.tt ?_ | refine Br.ff ?_ | refine Br.not ?_ | refine Br.dand (fun _ => ?_) (fun _ => ?_) | refine Br.dec (fun _ => ?_) (fun _ => ?_) | refine Br.beq (fun _ => ?_) (fun _ => ?_) | refine Br.bne (fun _ => ?_) (fun _ => ?_) | refine Br.seq (fun _ => ?_) (fun _ => ?_) | refine Elt.i (by omega) ?_ | refine EltN.i (by omega) ?_ | refine Nt.cast ?_ | refine Nt.mk _ rfl ?_ | refine EltN.mk _ rfl ?_ | refine Mx.mk _ rfl ?_ | refine Br.mk (fun _ => ?_) (fun _ => ?_) | refine EndP.mk ?_ trivial | refine EndP.mk ?_ ⟨.inr ⟨List.mem_cons_self .., ?_, rfl⟩, trivial⟩ | refine Ar.i64 (by omega) ?_ | refine Ar.u8 (by omega) ?_ | refine Quo.pos (by omega) ?_ | refine Rem.pos (by omega) ?_ | refine BsP.own ?_ | refine SetN.two ?_ | refine SetN.one ?_ | refine Ob.mk ⟨rfl, rfl⟩ ?_ | refine Ob.mk (flat_i _ _).1 ?_ | refine Ob.mk (flat_i _ _) ?_ | refine Ob.mk (flat_s _) ?_ | refine Ob.mk (by first | omega | (simp; first | done | fail) | (simp; omega)) ?_ | fail
  all_goals simp [resOf, seqOk, *]
theorem seqOk_spec (lvl bits : Int) (c r : List Int) : Vow Tryz.prog 63 [seqV lvl bits c r] (.b (seqOk lvl bits c r)) [] := by
  refine vow_of_ev (fn := Tryz.f63) [] [(0, 0), (3, 14)] tt_ok Tryz.func63 (by decide) rfl (Nat.le_of_ble_eq_true rfl) rfl rfl rfl ?_
  repeat' (conv => whnf); first | refine CallP.rd (squares_spec lvl bits c r) rfl rfl rfl rfl ?_ | refine DCall.rd (squares_spec lvl bits c r) rfl rfl ?_ | refine CallP.rd (levelSq_spec lvl) rfl rfl rfl rfl ?_ | refine DCall.rd (levelSq_spec lvl) rfl rfl ?_ | refine CallP.rd (l01In_vow _ _ _) rfl rfl rfl rfl ?_ | refine DCall.rd (l01In_vow _ _ _) rfl rfl ?_ | refine Br.tt ?_ | refine Br.ff ?_ | refine Br.not ?_ | refine Br.dand (fun _ => ?_) (fun _ => ?_) | refine Br.dec (fun _ => ?_) (fun _ => ?_) | refine Br.beq (fun _ => ?_) (fun _ => ?_) | refine Br.bne (fun _ => ?_) (fun _ => ?_) | refine Br.seq (fun _ => ?_) (fun _ => ?_) | refine Elt.i (by omega) ?_ | refine EltN.i (by omega) ?_ | refine Nt.cast ?_ | refine Nt.mk _ rfl ?_ | refine EltN.mk _ rfl ?_ | refine Mx.mk _ rfl ?_ | refine Br.mk (fun _ => ?_) (fun _ => ?_) | refine EndP.mk ?_ trivial | refine EndP.mk ?_ ⟨.inr ⟨List.mem_cons_self .., ?_, rfl⟩, trivial⟩ | refine Ar.i64 (by omega) ?_ | refine Ar.u8 (by omega) ?_ | refine Quo.pos (by omega) ?_ | refine Rem.pos (by omega) ?_ | refine BsP.own ?_ | refine SetN.two ?_ | refine SetN.one ?_ | refine Ob.mk ⟨rfl, rfl⟩ ?_ | refine Ob.mk (flat_i _ _).1 ?_ | refine Ob.mk (flat_i _ _) ?_ | refine Ob.mk (flat_s _) ?_ | refine Ob.mk (by first | omega | (simp; first | done | fail) | (simp; omega)) ?_ | fail
  all_goals simp [resOf, seqOk, *]

def levelFor (c r : List Int) : Int := if seqOk 1 3 c r then 1 else if seqOk 2 3 c r then 2 else if seqOk 3 3 c r then 3 else 0
def LvI (c r : List Int) (i : Int) : Prop := (1 ≤ i ∧ i ≤ 4) ∧ (2 ≤ i → seqOk 1 3 c r = false) ∧ (3 ≤ i → seqOk 2 3 c r = false) ∧ (4 ≤ i → seqOk 3 3 c r = false)
theorem LvI.next {c r : List Int} {i : Int} (h : LvI c r i) (hi : i ≤ 3) (hf : seqOk i 3 c r = false) : LvI c r (i + 1) := by
  obtain ⟨h1, h2, h3, h4⟩ := h
  refine ⟨by omega, fun k => ?_, fun k => ?_, fun k => ?_⟩
  · by_cases h : i = 1
    · subst h; exact hf
    · exact h2 (by omega)
  · by_cases h : i = 2
    · subst h; exact hf
    · exact h3 (by omega)
  · by_cases h : i = 3
    · subst h; exact hf
    · exact h4 (by omega)
theorem LvI.at {c r : List Int} {i : Int} (h : LvI c r i) (hi : i ≤ 3) (hf : seqOk i 3 c r = true) : levelFor c r = i := by
  obtain ⟨h1, h2, h3, h4⟩ := h
  obtain rfl | rfl | rfl : i = 1 ∨ i = 2 ∨ i = 3 := by omega
  · simp [levelFor, hf]
  · simp [levelFor, hf, h2 (by omega)]
  · simp [levelFor, hf, h2 (by omega), h3 (by omega)]
theorem LvI.no {c r : List Int} {i : Int} (h : LvI c r i) (hi : ¬ i ≤ 3) : levelFor c r = 0 := by
  obtain ⟨h1, h2, h3, h4⟩ := h
  simp [levelFor, h2 (by omega), h3 (by omega), h4 (by omega)]

theorem sidesOk_of {l : List Int} (h : ¬ sideSum l = 0) : sidesOk l := Classical.byContradiction fun hn => h (by unfold sideSum; rw [if_neg hn])
theorem squares_sides {c r : List Int} (h : ¬ squares c r = 0) : sidesOk c ∧ sidesOk r :=
  ⟨sidesOk_of fun k => h (squares_bad1 k), sidesOk_of fun k => h (squares_bad2 k)⟩
end Go.Proofs.YtafipjhalboefaaGreat
