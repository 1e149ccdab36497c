/- Folded numbers, and the heads of slices, as signs. No condition. -/
import Derived.Test.YtfcjjkfjdecakaaTl
import Derived.Test.YtfcjjkfjdecakaaTe
namespace Go.Proofs.Ytfcjjkfjdecakaa
open Go Go.Vx
set_option linter.unusedVariables false
set_option linter.unusedSimpArgs false
set_option maxHeartbeats 600000
set_option maxRecDepth 100000


/-- A number with a sign as one without. -/
def foldN (d : Int) : Nat := (if 0 < d then 2 * d - 1 else -2 * d).toNat
theorem foldN_fit {d : Int} (h : -40 ≤ d ∧ d ≤ 40) : foldN d ≤ 80 ∧ ((foldN d : Nat) : Int) = if 0 < d then 2 * d - 1 else -2 * d := by
  unfold foldN; split <;> omega
theorem foldSe_impl (d : Int) (h : -40 ≤ d ∧ d ≤ 40) : Vow Try.prog 165 [.i .i64 d] (.tp [.i .i64 (foldN d), .b true]) [] := by
  have hf := (foldN_fit h).2
  refine vow_of_ev (fn := Try.f165) [] [(0, 0), (5, 8), (0, 0), (9, 11), (11, 14), (14, 16)] tt_ok Try.func165 (by decide) rfl (Nat.le_of_ble_eq_true rfl) rfl rfl rfl ?_
  repeat' (conv => whnf); first | refine CallP.rd (within_vow _ _ _) rfl rfl rfl rfl ?_ | refine Br.tt ?_ | refine Br.ff ?_ | refine Br.not ?_ | refine Br.dand (fun _ => ?_) (fun _ => ?_) | refine Br.dec (fun _ => ?_) (fun _ => ?_) | refine Br.beq (fun _ => ?_) (fun _ => ?_) | refine Br.bne (fun _ => ?_) (fun _ => ?_) | refine Br.seq (fun _ => ?_) (fun _ => ?_) | refine Elt.i (by omega) ?_ | refine EltN.i (by omega) ?_ | refine Nt.cast ?_ | refine Nt.mk _ rfl ?_ | refine EltN.mk _ rfl ?_ | refine Mx.mk _ rfl ?_ | refine Br.mk (fun _ => ?_) (fun _ => ?_) | refine EndP.mk ?_ trivial | refine EndP.mk ?_ ⟨.inr ⟨List.mem_cons_self .., ?_, rfl⟩, trivial⟩ | refine Ar.i64 (by omega) ?_ | refine Ar.u8 (by omega) ?_ | refine Quo.pos (by omega) ?_ | refine Rem.pos (by omega) ?_ | refine BsP.own ?_ | refine Ob.mk ⟨rfl, rfl⟩ ?_ | refine Ob.mk (flat_i _ _).1 ?_ | refine Ob.mk (flat_i _ _) ?_ | refine Ob.mk (flat_s _) ?_ | refine Ob.mk (by first | omega | (simp; first | done | fail) | (simp; omega)) ?_ | fail
  all_goals first
    | (exfalso; omega)
    | (rw [hf, if_pos (by omega)]; rfl)
    | (rw [hf, if_neg (by omega)]; rfl)
theorem foldSe_spec (d : Int) (h : -40 ≤ d ∧ d ≤ 40) : Vow Try.prog 164 [.i .i64 d] (.tp [.i .i64 (foldN d), .b true]) [] := by
  have hf := (foldN_fit h).2
  refine vow_of_ev (fn := Try.f164) [] [(0, 0), (4, 6), (0, 0), (7, 8), (9, 12), (12, 14)] tt_ok Try.func164 (by decide) rfl (Nat.le_of_ble_eq_true rfl) rfl rfl rfl ?_
  repeat' (conv => whnf); first | refine CallP.rd (l01In_vow _ _ _) rfl rfl rfl rfl ?_ | refine Br.tt ?_ | refine Br.ff ?_ | refine Br.not ?_ | refine Br.dand (fun _ => ?_) (fun _ => ?_) | refine Br.dec (fun _ => ?_) (fun _ => ?_) | refine Br.beq (fun _ => ?_) (fun _ => ?_) | refine Br.bne (fun _ => ?_) (fun _ => ?_) | refine Br.seq (fun _ => ?_) (fun _ => ?_) | refine Elt.i (by omega) ?_ | refine EltN.i (by omega) ?_ | refine Nt.cast ?_ | refine Nt.mk _ rfl ?_ | refine EltN.mk _ rfl ?_ | refine Mx.mk _ rfl ?_ | refine Br.mk (fun _ => ?_) (fun _ => ?_) | refine EndP.mk ?_ trivial | refine EndP.mk ?_ ⟨.inr ⟨List.mem_cons_self .., ?_, rfl⟩, trivial⟩ | refine Ar.i64 (by omega) ?_ | refine Ar.u8 (by omega) ?_ | refine Quo.pos (by omega) ?_ | refine Rem.pos (by omega) ?_ | refine BsP.own ?_ | refine Ob.mk ⟨rfl, rfl⟩ ?_ | refine Ob.mk (flat_i _ _).1 ?_ | refine Ob.mk (flat_i _ _) ?_ | refine Ob.mk (flat_s _) ?_ | refine Ob.mk (by first | omega | (simp; first | done | fail) | (simp; omega)) ?_ | fail
  all_goals first
    | (exfalso; omega)
    | (rw [hf, if_pos (by omega)]; rfl)
    | (rw [hf, if_neg (by omega)]; rfl)
theorem ueRow_impl (n : Nat) (hn : n ≤ 1000000) : Vow Try.prog 166 [.i .i64 n] (.tp [.s (ueS n), .b true]) [] := by
  have f := ue_impl n (by omega)
  refine vow_of_ev (fn := Try.f166) [] [(0, 0), (4, 6), (0, 0), (7, 9)] tt_ok Try.func166 (by decide) rfl (Nat.le_of_ble_eq_true rfl) rfl rfl rfl ?_
  repeat' (conv => whnf); first | refine CallP.rd (within_vow _ _ _) rfl rfl rfl rfl ?_ | refine DCall.rd (within_vow _ _ _) rfl rfl ?_ | refine CallP.rd (f) rfl rfl rfl rfl ?_ | refine DCall.rd (f) rfl rfl ?_ | refine Br.tt ?_ | refine Br.ff ?_ | refine Br.not ?_ | refine Br.dand (fun _ => ?_) (fun _ => ?_) | refine Br.dec (fun _ => ?_) (fun _ => ?_) | refine Br.beq (fun _ => ?_) (fun _ => ?_) | refine Br.bne (fun _ => ?_) (fun _ => ?_) | refine Br.seq (fun _ => ?_) (fun _ => ?_) | refine Elt.i (by omega) ?_ | refine EltN.i (by omega) ?_ | refine Nt.cast ?_ | refine Nt.mk _ rfl ?_ | refine EltN.mk _ rfl ?_ | refine Mx.mk _ rfl ?_ | refine Br.mk (fun _ => ?_) (fun _ => ?_) | refine EndP.mk ?_ trivial | refine EndP.mk ?_ ⟨.inr ⟨List.mem_cons_self .., ?_, rfl⟩, trivial⟩ | refine Ar.i64 (by omega) ?_ | refine Ar.u8 (by omega) ?_ | refine Quo.pos (by omega) ?_ | refine Rem.pos (by omega) ?_ | refine BsP.own ?_ | refine Ob.mk ⟨rfl, rfl⟩ ?_ | refine Ob.mk (flat_i _ _).1 ?_ | refine Ob.mk (flat_i _ _) ?_ | refine Ob.mk (flat_s _) ?_ | refine Ob.mk (by first | omega | (simp; first | done | fail) | (simp; omega)) ?_ | fail
  all_goals first
    | (exfalso; omega)
    | rfl
theorem seRow_impl (d : Int) (h : -40 ≤ d ∧ d ≤ 40) : Vow Try.prog 135 [.i .i64 d] (.tp [.s (ueS (foldN d)), .b true]) [] := by
  have hf := (foldN_fit h).1
  have f1 := foldSe_impl d h
  have f2 := ueRow_impl (foldN d) (by omega)
  refine vow_of_ev (fn := Try.f135) [] [(0, 0), (6, 11), (11, 12), (0, 0), (13, 17)] tt_ok Try.func135 (by decide) rfl (Nat.le_of_ble_eq_true rfl) rfl rfl rfl ?_
  repeat' (conv => whnf); first | refine CallP.rd (f1) rfl rfl rfl rfl ?_ | refine DCall.rd (f1) rfl rfl ?_ | refine CallP.rd (f2) rfl rfl rfl rfl ?_ | refine DCall.rd (f2) rfl rfl ?_ | refine Br.tt ?_ | refine Br.ff ?_ | refine Br.not ?_ | refine Br.dand (fun _ => ?_) (fun _ => ?_) | refine Br.dec (fun _ => ?_) (fun _ => ?_) | refine Br.beq (fun _ => ?_) (fun _ => ?_) | refine Br.bne (fun _ => ?_) (fun _ => ?_) | refine Br.seq (fun _ => ?_) (fun _ => ?_) | refine Elt.i (by omega) ?_ | refine EltN.i (by omega) ?_ | refine Nt.cast ?_ | refine Nt.mk _ rfl ?_ | refine EltN.mk _ rfl ?_ | refine Mx.mk _ rfl ?_ | refine Br.mk (fun _ => ?_) (fun _ => ?_) | refine EndP.mk ?_ trivial | refine EndP.mk ?_ ⟨.inr ⟨List.mem_cons_self .., ?_, rfl⟩, trivial⟩ | refine Ar.i64 (by omega) ?_ | refine Ar.u8 (by omega) ?_ | refine Quo.pos (by omega) ?_ | refine Rem.pos (by omega) ?_ | refine BsP.own ?_ | refine Ob.mk ⟨rfl, rfl⟩ ?_ | refine Ob.mk (flat_i _ _).1 ?_ | refine Ob.mk (flat_i _ _) ?_ | refine Ob.mk (flat_s _) ?_ | refine Ob.mk (by first | omega | (simp; first | done | fail) | (simp; omega)) ?_ | fail
  all_goals rfl
theorem se_spec (d : Int) (h : -40 ≤ d ∧ d ≤ 40) : Vow Try.prog 130 [.i .i64 d] (.s (ueS (foldN d))) [] := by
  have hf := (foldN_fit h).1
  have f1 := foldSe_spec d h
  have f2 := ue_spec (foldN d) (by omega)
  refine vow_of_ev (fn := Try.f130) [] [(0, 0), (4, 10), (10, 12)] tt_ok Try.func130 (by decide) rfl (Nat.le_of_ble_eq_true rfl) rfl rfl rfl ?_
  repeat' (conv => whnf); first | refine CallP.rd (f1) rfl rfl rfl rfl ?_ | refine DCall.rd (f1) rfl rfl ?_ | refine CallP.rd (f2) rfl rfl rfl rfl ?_ | refine DCall.rd (f2) rfl rfl ?_ | refine Br.tt ?_ | refine Br.ff ?_ | refine Br.not ?_ | refine Br.dand (fun _ => ?_) (fun _ => ?_) | refine Br.dec (fun _ => ?_) (fun _ => ?_) | refine Br.beq (fun _ => ?_) (fun _ => ?_) | refine Br.bne (fun _ => ?_) (fun _ => ?_) | refine Br.seq (fun _ => ?_) (fun _ => ?_) | refine Elt.i (by omega) ?_ | refine EltN.i (by omega) ?_ | refine Nt.cast ?_ | refine Nt.mk _ rfl ?_ | refine EltN.mk _ rfl ?_ | refine Mx.mk _ rfl ?_ | refine Br.mk (fun _ => ?_) (fun _ => ?_) | refine EndP.mk ?_ trivial | refine EndP.mk ?_ ⟨.inr ⟨List.mem_cons_self .., ?_, rfl⟩, trivial⟩ | refine Ar.i64 (by omega) ?_ | refine Ar.u8 (by omega) ?_ | refine Quo.pos (by omega) ?_ | refine Rem.pos (by omega) ?_ | refine BsP.own ?_ | refine Ob.mk ⟨rfl, rfl⟩ ?_ | refine Ob.mk (flat_i _ _).1 ?_ | refine Ob.mk (flat_i _ _) ?_ | refine Ob.mk (flat_s _) ?_ | refine Ob.mk (by first | omega | (simp; first | done | fail) | (simp; omega)) ?_ | fail
  all_goals rfl

structure Head where
  tile : Int
  frame : Int
  qp : Int
  deriving DecidableEq
def headV (h : Head) : V := .ag [.i .i64 h.tile, .i .i64 h.frame, .i .i64 h.qp]
def shlI (b : Int) : Int := IntKind.i64.wrap (1 * 2 ^ min b.toNat IntKind.i64.bits)
def headOk (lvl bits : Int) (c r : List Int) (p : Par) (h : Head) : Prop :=
  seqOk lvl bits c r = true ∧ parOk p ∧ (0 ≤ h.tile ∧ h.tile < tilesOf lvl bits c r) ∧ (0 ≤ h.frame ∧ h.frame < shlI bits) ∧ (0 ≤ h.qp ∧ h.qp ≤ 40)
instance (lvl bits : Int) (c r : List Int) (p : Par) (h : Head) : Decidable (headOk lvl bits c r p h) := by unfold headOk; infer_instance
theorem tilesOf_no {lvl bits : Int} {c r : List Int} (h : ¬ seqOk lvl bits c r = true) : tilesOf lvl bits c r = 0 := by rw [tilesOf, if_neg h]
theorem tilesOf_fit {lvl bits : Int} {c r : List Int} : 0 ≤ tilesOf lvl bits c r ∧ tilesOf lvl bits c r ≤ 16 := by
  unfold tilesOf
  split
  · rename_i h
    have := tiles_fit (seqOk_sides h).1
    simpa using this
  · omega
theorem shlI_fit {b : Int} (h : 3 ≤ b ∧ b ≤ 8) : 8 ≤ shlI b ∧ shlI b ≤ 256 := by
  obtain ⟨m, h1, h2, h3⟩ := shl_fit h
  unfold shlI
  rw [h3]; omega

set_option maxHeartbeats 6000000 in
theorem headOk_impl (lvl bits : Int) (c r : List Int) (p : Par) (h : Head) : Vow Try.prog 134 [seqV lvl bits c r, parV p, headV h] (.b (decide (headOk lvl bits c r p h))) [] := by
  refine vow_of_ev (fn := Try.f134) [] [(0, 0), (7, 35)] tt_ok Try.func134 (by decide) rfl (Nat.le_of_ble_eq_true rfl) rfl rfl rfl ?_
  have ht := tilesOf_fit (lvl := lvl) (bits := bits) (c := c) (r := r)
  by_cases hs : seqOk lvl bits c r = true
  · have hb := shlI_fit (seqOk_sides hs).2
    have hbb := (seqOk_sides hs).2
    have hq := seqOk_impl lvl bits c r
    rw [hs] at hq
    repeat' (conv => whnf); first | refine CallP.rd (hq) rfl rfl rfl rfl ?_ | refine DCall.rd (hq) rfl rfl ?_ | refine CallP.rd (parOk_impl p) rfl rfl rfl rfl ?_ | refine DCall.rd (parOk_impl p) rfl rfl ?_ | refine CallP.rd (tilesOf_impl lvl bits c r) rfl rfl rfl rfl ?_ | refine DCall.rd (tilesOf_impl lvl bits c r) rfl rfl ?_ | refine CallP.rd (within_vow _ _ _) rfl rfl rfl rfl ?_ | refine DCall.rd (within_vow _ _ _) rfl rfl ?_ | refine Shl.to (m := shlI bits) rfl (by omega) ?_ | refine Br.tt ?_ | refine Br.ff ?_ | refine Br.not ?_ | refine Br.dand (fun _ => ?_) (fun _ => ?_) | refine Br.dec (fun _ => ?_) (fun _ => ?_) | refine Br.beq (fun _ => ?_) (fun _ => ?_) | refine Br.bne (fun _ => ?_) (fun _ => ?_) | refine Br.seq (fun _ => ?_) (fun _ => ?_) | refine Elt.i (by omega) ?_ | refine EltN.i (by omega) ?_ | refine Nt.cast ?_ | refine Nt.mk _ rfl ?_ | refine EltN.mk _ rfl ?_ | refine Mx.mk _ rfl ?_ | refine Br.mk (fun _ => ?_) (fun _ => ?_) | refine EndP.mk ?_ trivial | refine EndP.mk ?_ ⟨.inr ⟨List.mem_cons_self .., ?_, rfl⟩, trivial⟩ | refine Ar.i64 (by omega) ?_ | refine Ar.u8 (by omega) ?_ | refine Quo.pos (by omega) ?_ | refine Rem.pos (by omega) ?_ | refine BsP.own ?_ | refine Ob.mk ⟨rfl, rfl⟩ ?_ | refine Ob.mk (flat_i _ _).1 ?_ | refine Ob.mk (flat_i _ _) ?_ | refine Ob.mk (flat_s _) ?_ | refine Ob.mk (by first | omega | (simp; first | done | fail) | (simp; omega)) ?_ | fail
    all_goals first
      | (exfalso; omega)
      | (rw [decide_eq_false (show ¬ headOk lvl bits c r p h from fun k => absurd k.2.1 (by assumption))]; rfl)
      | (rw [decide_eq_false (show ¬ headOk lvl bits c r p h from fun k => by have := k.2.2; omega)]; rfl)
      | (by_cases hqp : 0 ≤ h.qp ∧ h.qp ≤ 40
         · rw [decide_eq_true (show headOk lvl bits c r p h from ⟨hs, by assumption, by omega, by omega, hqp⟩)]; simp [resOf]; omega
         · rw [decide_eq_false (show ¬ headOk lvl bits c r p h from fun k => hqp k.2.2.2.2)]; simp [resOf]; omega)
  · have hq := seqOk_impl lvl bits c r
    rw [show seqOk lvl bits c r = false by simpa using hs] at hq
    repeat' (conv => whnf); first | refine CallP.rd (hq) rfl rfl rfl rfl ?_ | refine DCall.rd (hq) rfl rfl ?_ | refine Br.tt ?_ | refine Br.ff ?_ | refine Br.not ?_ | refine Br.dand (fun _ => ?_) (fun _ => ?_) | refine Br.dec (fun _ => ?_) (fun _ => ?_) | refine Br.beq (fun _ => ?_) (fun _ => ?_) | refine Br.bne (fun _ => ?_) (fun _ => ?_) | refine Br.seq (fun _ => ?_) (fun _ => ?_) | refine Elt.i (by omega) ?_ | refine EltN.i (by omega) ?_ | refine Nt.cast ?_ | refine Nt.mk _ rfl ?_ | refine EltN.mk _ rfl ?_ | refine Mx.mk _ rfl ?_ | refine Br.mk (fun _ => ?_) (fun _ => ?_) | refine EndP.mk ?_ trivial | refine EndP.mk ?_ ⟨.inr ⟨List.mem_cons_self .., ?_, rfl⟩, trivial⟩ | refine Ar.i64 (by omega) ?_ | refine Ar.u8 (by omega) ?_ | refine Quo.pos (by omega) ?_ | refine Rem.pos (by omega) ?_ | refine BsP.own ?_ | refine Ob.mk ⟨rfl, rfl⟩ ?_ | refine Ob.mk (flat_i _ _).1 ?_ | refine Ob.mk (flat_i _ _) ?_ | refine Ob.mk (flat_s _) ?_ | refine Ob.mk (by first | omega | (simp; first | done | fail) | (simp; omega)) ?_ | fail
    all_goals first
      | (rw [decide_eq_false (show ¬ headOk lvl bits c r p h from fun k => hs k.1)]; rfl)

set_option maxHeartbeats 6000000 in
theorem headOk_spec (lvl bits : Int) (c r : List Int) (p : Par) (h : Head) : Vow Try.prog 127 [seqV lvl bits c r, parV p, headV h] (.b (decide (headOk lvl bits c r p h))) [] := by
  refine vow_of_ev (fn := Try.f127) [] [(0, 0), (7, 40)] tt_ok Try.func127 (by decide) rfl (Nat.le_of_ble_eq_true rfl) rfl rfl rfl ?_
  have ht := tilesOf_fit (lvl := lvl) (bits := bits) (c := c) (r := r)
  by_cases hs : seqOk lvl bits c r = true
  · have hb := shlI_fit (seqOk_sides hs).2
    have hbb := (seqOk_sides hs).2
    repeat' (conv => whnf); first | refine CallP.rd (parOk_spec p) rfl rfl rfl rfl ?_ | refine DCall.rd (parOk_spec p) rfl rfl ?_ | refine CallP.rd (tilesOf_spec lvl bits c r) rfl rfl rfl rfl ?_ | refine DCall.rd (tilesOf_spec lvl bits c r) rfl rfl ?_ | refine CallP.rd (l01In_vow _ _ _) rfl rfl rfl rfl ?_ | refine DCall.rd (l01In_vow _ _ _) rfl rfl ?_ | refine Ar.u64 (by omega) ?_ | refine Shl.to (m := shlI bits) rfl (by omega) ?_ | refine Br.tt ?_ | refine Br.ff ?_ | refine Br.not ?_ | refine Br.dand (fun _ => ?_) (fun _ => ?_) | refine Br.dec (fun _ => ?_) (fun _ => ?_) | refine Br.beq (fun _ => ?_) (fun _ => ?_) | refine Br.bne (fun _ => ?_) (fun _ => ?_) | refine Br.seq (fun _ => ?_) (fun _ => ?_) | refine Elt.i (by omega) ?_ | refine EltN.i (by omega) ?_ | refine Nt.cast ?_ | refine Nt.mk _ rfl ?_ | refine EltN.mk _ rfl ?_ | refine Mx.mk _ rfl ?_ | refine Br.mk (fun _ => ?_) (fun _ => ?_) | refine EndP.mk ?_ trivial | refine EndP.mk ?_ ⟨.inr ⟨List.mem_cons_self .., ?_, rfl⟩, trivial⟩ | refine Ar.i64 (by omega) ?_ | refine Ar.u8 (by omega) ?_ | refine Quo.pos (by omega) ?_ | refine Rem.pos (by omega) ?_ | refine BsP.own ?_ | refine Ob.mk ⟨rfl, rfl⟩ ?_ | refine Ob.mk (flat_i _ _).1 ?_ | refine Ob.mk (flat_i _ _) ?_ | refine Ob.mk (flat_s _) ?_ | refine Ob.mk (by first | omega | (simp; first | done | fail) | (simp; omega)) ?_ | fail
    all_goals first
      | (exfalso; omega)
      | (rw [decide_eq_false (show ¬ headOk lvl bits c r p h from fun k => absurd k.2.1 (by assumption))]; rfl)
      | (rw [decide_eq_false (show ¬ headOk lvl bits c r p h from fun k => by have := k.2.2; omega)]; rfl)
      | (by_cases hqp : 0 ≤ h.qp ∧ h.qp ≤ 40
         · rw [decide_eq_true (show headOk lvl bits c r p h from ⟨hs, by assumption, by omega, by omega, hqp⟩)]; simp [resOf]; omega
         · rw [decide_eq_false (show ¬ headOk lvl bits c r p h from fun k => hqp k.2.2.2.2)]; simp [resOf]; omega)
  · have h0 := tilesOf_no hs
    repeat' (conv => whnf); first | refine CallP.rd (parOk_spec p) rfl rfl rfl rfl ?_ | refine DCall.rd (parOk_spec p) rfl rfl ?_ | refine CallP.rd (tilesOf_spec lvl bits c r) rfl rfl rfl rfl ?_ | refine DCall.rd (tilesOf_spec lvl bits c r) rfl rfl ?_ | refine Br.tt ?_ | refine Br.ff ?_ | refine Br.not ?_ | refine Br.dand (fun _ => ?_) (fun _ => ?_) | refine Br.dec (fun _ => ?_) (fun _ => ?_) | refine Br.beq (fun _ => ?_) (fun _ => ?_) | refine Br.bne (fun _ => ?_) (fun _ => ?_) | refine Br.seq (fun _ => ?_) (fun _ => ?_) | refine Elt.i (by omega) ?_ | refine EltN.i (by omega) ?_ | refine Nt.cast ?_ | refine Nt.mk _ rfl ?_ | refine EltN.mk _ rfl ?_ | refine Mx.mk _ rfl ?_ | refine Br.mk (fun _ => ?_) (fun _ => ?_) | refine EndP.mk ?_ trivial | refine EndP.mk ?_ ⟨.inr ⟨List.mem_cons_self .., ?_, rfl⟩, trivial⟩ | refine Ar.i64 (by omega) ?_ | refine Ar.u8 (by omega) ?_ | refine Quo.pos (by omega) ?_ | refine Rem.pos (by omega) ?_ | refine BsP.own ?_ | refine Ob.mk ⟨rfl, rfl⟩ ?_ | refine Ob.mk (flat_i _ _).1 ?_ | refine Ob.mk (flat_i _ _) ?_ | refine Ob.mk (flat_s _) ?_ | refine Ob.mk (by first | omega | (simp; first | done | fail) | (simp; omega)) ?_ | fail
    all_goals first
      | (exfalso; omega)
      | (rw [decide_eq_false (show ¬ headOk lvl bits c r p h from fun k => hs k.1)]; rfl)

def headS (bits : Int) (p : Par) (h : Head) : List UInt8 := ueS h.tile.toNat ++ fixS bits.toNat h.frame.toNat ++ ueS (foldN (h.qp - p.qp))
end Go.Proofs.Ytfcjjkfjdecakaa
