/- Heads of slices as signs. No condition. -/
import Derived.Test.YtfcjjkfjdecakaaTm
namespace Go.Proofs.Ytfcjjkfjdecakaa
open Go Go.Vx
set_option linter.unusedVariables false
set_option linter.unusedSimpArgs false
set_option maxHeartbeats 600000
set_option maxRecDepth 100000


theorem headS_len {lvl bits : Int} {c r : List Int} {p : Par} {h : Head} (hk : headOk lvl bits c r p h) : (headS bits p h).length ≤ 90 := by
  obtain ⟨h1, h2, h3, h4, h5⟩ := hk
  have ht := tilesOf_fit (lvl := lvl) (bits := bits) (c := c) (r := r)
  have hb := (seqOk_sides h1).2
  have hp := h2.1
  have l1 := ueS_len (n := h.tile.toNat) (by omega)
  have hf := (foldN_fit (d := h.qp - p.qp) (by omega)).1
  have l3 := ueS_len (n := foldN (h.qp - p.qp)) (by omega)
  unfold headS
  rw [List.length_append, List.length_append, fixS_len]
  omega

set_option maxHeartbeats 6000000 in
theorem headRow_impl (lvl bits : Int) (c r : List Int) (p : Par) (h : Head) (hk : headOk lvl bits c r p h) : Vow Try.prog 75 [seqV lvl bits c r, parV p, headV h] (.tp [.s (headS bits p h), .b true]) [] := by
  have hq := headOk_impl lvl bits c r p h
  rw [decide_eq_true hk] at hq
  obtain ⟨h1, h2, h3, h4, h5⟩ := hk
  have ht := tilesOf_fit (lvl := lvl) (bits := bits) (c := c) (r := r)
  have hb := (seqOk_sides h1).2
  have hsh := shlI_fit hb
  have hp := h2.1
  have hf := (foldN_fit (d := h.qp - p.qp) (by omega)).1
  have f1 := seRow_impl (h.qp - p.qp) (by omega)
  have f2 := ue_impl h.tile.toNat (by omega)
  have f3 := fix_impl h.frame.toNat bits.toNat (by omega) (by omega)
  rw [Int.toNat_of_nonneg (by omega)] at f2
  rw [Int.toNat_of_nonneg (by omega), Int.toNat_of_nonneg (by omega)] at f3
  have l1 := ueS_len (n := h.tile.toNat) (by omega)
  have l2 := fixS_len bits.toNat h.frame.toNat
  have l3 := ueS_len (n := foldN (h.qp - p.qp)) (by omega)
  refine vow_of_ev (fn := Try.f75) [] [(0, 0), (10, 14), (0, 0), (15, 24), (24, 35)] tt_ok Try.func75 (by decide) rfl (Nat.le_of_ble_eq_true rfl) rfl rfl rfl ?_
  repeat' (conv => whnf); first | refine CallP.rd (hq) rfl rfl rfl rfl ?_ | refine DCall.rd (hq) rfl rfl ?_ | refine CallP.rd (f1) rfl rfl rfl rfl ?_ | refine DCall.rd (f1) rfl rfl ?_ | refine CallP.rd (f2) rfl rfl rfl rfl ?_ | refine DCall.rd (f2) rfl rfl ?_ | refine CallP.rd (f3) rfl rfl rfl rfl ?_ | refine DCall.rd (f3) rfl rfl ?_ | refine Br.tt ?_ | refine Br.ff ?_ | refine Br.not ?_ | refine Br.dand (fun _ => ?_) (fun _ => ?_) | refine Br.dec (fun _ => ?_) (fun _ => ?_) | refine Br.beq (fun _ => ?_) (fun _ => ?_) | refine Br.bne (fun _ => ?_) (fun _ => ?_) | refine Br.seq (fun _ => ?_) (fun _ => ?_) | refine Elt.i (by omega) ?_ | refine EltN.i (by omega) ?_ | refine Nt.cast ?_ | refine Nt.mk _ rfl ?_ | refine EltN.mk _ rfl ?_ | refine Mx.mk _ rfl ?_ | refine Br.mk (fun _ => ?_) (fun _ => ?_) | refine EndP.mk ?_ trivial | refine EndP.mk ?_ ⟨.inr ⟨List.mem_cons_self .., ?_, rfl⟩, trivial⟩ | refine Ar.i64 (by omega) ?_ | refine Ar.u8 (by omega) ?_ | refine Quo.pos (by omega) ?_ | refine Rem.pos (by omega) ?_ | refine BsP.own ?_ | refine Ob.mk ⟨rfl, rfl⟩ ?_ | refine Ob.mk (flat_i _ _).1 ?_ | refine Ob.mk (flat_i _ _) ?_ | refine Ob.mk (flat_s _) ?_ | refine Ob.mk (by first | omega | (simp; first | done | fail) | (simp; omega)) ?_ | fail
  all_goals rfl
set_option maxHeartbeats 6000000 in
theorem headRow_spec (lvl bits : Int) (c r : List Int) (p : Par) (h : Head) (hk : headOk lvl bits c r p h) : Vow Try.prog 71 [seqV lvl bits c r, parV p, headV h] (.tp [.s (headS bits p h), .b true]) [] := by
  have hq := headOk_spec lvl bits c r p h
  rw [decide_eq_true hk] at hq
  obtain ⟨h1, h2, h3, h4, h5⟩ := hk
  have ht := tilesOf_fit (lvl := lvl) (bits := bits) (c := c) (r := r)
  have hb := (seqOk_sides h1).2
  have hsh := shlI_fit hb
  have hp := h2.1
  have hf := (foldN_fit (d := h.qp - p.qp) (by omega)).1
  have f1 := se_spec (h.qp - p.qp) (by omega)
  have f2 := ue_spec h.tile.toNat (by omega)
  have f3 := fix_spec h.frame.toNat bits.toNat (by omega) (by omega)
  rw [Int.toNat_of_nonneg (by omega)] at f2
  rw [Int.toNat_of_nonneg (by omega), Int.toNat_of_nonneg (by omega)] at f3
  have l1 := ueS_len (n := h.tile.toNat) (by omega)
  have l2 := fixS_len bits.toNat h.frame.toNat
  have l3 := ueS_len (n := foldN (h.qp - p.qp)) (by omega)
  refine vow_of_ev (fn := Try.f71) [] [(0, 0), (8, 12), (0, 0), (13, 29)] tt_ok Try.func71 (by decide) rfl (Nat.le_of_ble_eq_true rfl) rfl rfl rfl ?_
  repeat' (conv => whnf); first | refine CallP.rd (hq) rfl rfl rfl rfl ?_ | refine DCall.rd (hq) rfl rfl ?_ | refine CallP.rd (f1) rfl rfl rfl rfl ?_ | refine DCall.rd (f1) rfl rfl ?_ | refine CallP.rd (f2) rfl rfl rfl rfl ?_ | refine DCall.rd (f2) rfl rfl ?_ | refine CallP.rd (f3) rfl rfl rfl rfl ?_ | refine DCall.rd (f3) rfl rfl ?_ | refine Br.tt ?_ | refine Br.ff ?_ | refine Br.not ?_ | refine Br.dand (fun _ => ?_) (fun _ => ?_) | refine Br.dec (fun _ => ?_) (fun _ => ?_) | refine Br.beq (fun _ => ?_) (fun _ => ?_) | refine Br.bne (fun _ => ?_) (fun _ => ?_) | refine Br.seq (fun _ => ?_) (fun _ => ?_) | refine Elt.i (by omega) ?_ | refine EltN.i (by omega) ?_ | refine Nt.cast ?_ | refine Nt.mk _ rfl ?_ | refine EltN.mk _ rfl ?_ | refine Mx.mk _ rfl ?_ | refine Br.mk (fun _ => ?_) (fun _ => ?_) | refine EndP.mk ?_ trivial | refine EndP.mk ?_ ⟨.inr ⟨List.mem_cons_self .., ?_, rfl⟩, trivial⟩ | refine Ar.i64 (by omega) ?_ | refine Ar.u8 (by omega) ?_ | refine Quo.pos (by omega) ?_ | refine Rem.pos (by omega) ?_ | refine BsP.own ?_ | refine Ob.mk ⟨rfl, rfl⟩ ?_ | refine Ob.mk (flat_i _ _).1 ?_ | refine Ob.mk (flat_i _ _) ?_ | refine Ob.mk (flat_s _) ?_ | refine Ob.mk (by first | omega | (simp; first | done | fail) | (simp; omega)) ?_ | fail
  all_goals rfl
theorem headRow_implN (lvl bits : Int) (c r : List Int) (p : Par) (h : Head) (hk : ¬ headOk lvl bits c r p h) : Vow Try.prog 75 [seqV lvl bits c r, parV p, headV h] (.tp [.s [], .b false]) [] := by
  have hq := headOk_impl lvl bits c r p h
  rw [decide_eq_false hk] at hq
  refine vow_of_ev (fn := Try.f75) [] [(0, 0), (10, 14), (0, 0), (15, 24), (24, 35)] tt_ok Try.func75 (by decide) rfl (Nat.le_of_ble_eq_true rfl) rfl rfl rfl ?_
  repeat' (conv => whnf); first | refine CallP.rd (hq) rfl rfl rfl rfl ?_ | refine DCall.rd (hq) rfl rfl ?_ | refine Br.tt ?_ | refine Br.ff ?_ | refine Br.not ?_ | refine Br.dand (fun _ => ?_) (fun _ => ?_) | refine Br.dec (fun _ => ?_) (fun _ => ?_) | refine Br.beq (fun _ => ?_) (fun _ => ?_) | refine Br.bne (fun _ => ?_) (fun _ => ?_) | refine Br.seq (fun _ => ?_) (fun _ => ?_) | refine Elt.i (by omega) ?_ | refine EltN.i (by omega) ?_ | refine Nt.cast ?_ | refine Nt.mk _ rfl ?_ | refine EltN.mk _ rfl ?_ | refine Mx.mk _ rfl ?_ | refine Br.mk (fun _ => ?_) (fun _ => ?_) | refine EndP.mk ?_ trivial | refine EndP.mk ?_ ⟨.inr ⟨List.mem_cons_self .., ?_, rfl⟩, trivial⟩ | refine Ar.i64 (by omega) ?_ | refine Ar.u8 (by omega) ?_ | refine Quo.pos (by omega) ?_ | refine Rem.pos (by omega) ?_ | refine BsP.own ?_ | refine Ob.mk ⟨rfl, rfl⟩ ?_ | refine Ob.mk (flat_i _ _).1 ?_ | refine Ob.mk (flat_i _ _) ?_ | refine Ob.mk (flat_s _) ?_ | refine Ob.mk (by first | omega | (simp; first | done | fail) | (simp; omega)) ?_ | fail
  all_goals rfl
theorem headRow_specN (lvl bits : Int) (c r : List Int) (p : Par) (h : Head) (hk : ¬ headOk lvl bits c r p h) : Vow Try.prog 71 [seqV lvl bits c r, parV p, headV h] (.tp [.s [], .b false]) [] := by
  have hq := headOk_spec lvl bits c r p h
  rw [decide_eq_false hk] at hq
  refine vow_of_ev (fn := Try.f71) [] [(0, 0), (8, 12), (0, 0), (13, 29)] tt_ok Try.func71 (by decide) rfl (Nat.le_of_ble_eq_true rfl) rfl rfl rfl ?_
  repeat' (conv => whnf); first | refine CallP.rd (hq) rfl rfl rfl rfl ?_ | refine DCall.rd (hq) rfl rfl ?_ | refine Br.tt ?_ | refine Br.ff ?_ | refine Br.not ?_ | refine Br.dand (fun _ => ?_) (fun _ => ?_) | refine Br.dec (fun _ => ?_) (fun _ => ?_) | refine Br.beq (fun _ => ?_) (fun _ => ?_) | refine Br.bne (fun _ => ?_) (fun _ => ?_) | refine Br.seq (fun _ => ?_) (fun _ => ?_) | refine Elt.i (by omega) ?_ | refine EltN.i (by omega) ?_ | refine Nt.cast ?_ | refine Nt.mk _ rfl ?_ | refine EltN.mk _ rfl ?_ | refine Mx.mk _ rfl ?_ | refine Br.mk (fun _ => ?_) (fun _ => ?_) | refine EndP.mk ?_ trivial | refine EndP.mk ?_ ⟨.inr ⟨List.mem_cons_self .., ?_, rfl⟩, trivial⟩ | refine Ar.i64 (by omega) ?_ | refine Ar.u8 (by omega) ?_ | refine Quo.pos (by omega) ?_ | refine Rem.pos (by omega) ?_ | refine BsP.own ?_ | refine Ob.mk ⟨rfl, rfl⟩ ?_ | refine Ob.mk (flat_i _ _).1 ?_ | refine Ob.mk (flat_i _ _) ?_ | refine Ob.mk (flat_s _) ?_ | refine Ob.mk (by first | omega | (simp; first | done | fail) | (simp; omega)) ?_ | fail
  all_goals rfl
end Go.Proofs.Ytfcjjkfjdecakaa
