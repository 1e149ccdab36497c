/- The units of a picture: both sides. No condition. -/
import Derived.Test.YtfcjjkfjdecakaaUj
import Derived.Test.YtfcjjkfjdecakaaUh
namespace Go.Proofs.Ytfcjjkfjdecakaa
open Go Go.Vx
set_option linter.unusedVariables false
set_option linter.unusedSimpArgs false
set_option maxHeartbeats 600000
set_option maxRecDepth 100000


theorem unitOfK_impl (k : Int) (hk : isKind k) (t : List UInt8) (h : rowOk t) : Vow Try.prog 77 [.i .i64 k, .s t] (.tp [.s (unitS k t), .b true]) [] := by
  have f1 := rowBytes_impl t h
  have f2 := isKind_impl k
  rw [decide_eq_true hk] at f2
  have hl := packS_len t
  have h1 := h.1
  have hk2 : 0 ≤ k ∧ k ≤ 8 := by unfold isKind at hk; omega
  have hB : allB [V.i .u8 k] = some [UInt8.ofNat k.toNat] := by
    unfold isKind at hk
    rcases hk with rfl | rfl | rfl | rfl <;> rfl
  refine vow_of_ev (fn := Try.f77) [] [(0, 0), (8, 13), (13, 19), (0, 0), (20, 26)] tt_ok Try.func77 (by decide) rfl (Nat.le_of_ble_eq_true rfl) rfl rfl rfl ?_
  repeat' (conv => whnf); first | refine CallP.rd (f1) rfl rfl rfl rfl ?_ | refine DCall.rd (f1) rfl rfl ?_ | refine CallP.rd (f2) rfl rfl rfl rfl ?_ | refine DCall.rd (f2) rfl rfl ?_ | refine Byt.mk _ hB ?_ | refine Br.tt ?_ | refine Br.ff ?_ | refine Br.not ?_ | refine Br.dand (fun _ => ?_) (fun _ => ?_) | refine Br.dec (fun _ => ?_) (fun _ => ?_) | refine Br.beq (fun _ => ?_) (fun _ => ?_) | refine Br.bne (fun _ => ?_) (fun _ => ?_) | refine Br.seq (fun _ => ?_) (fun _ => ?_) | refine Elt.i (by omega) ?_ | refine EltN.i (by omega) ?_ | refine Nt.cast ?_ | refine Nt.mk _ rfl ?_ | refine EltN.mk _ rfl ?_ | refine Mx.mk _ rfl ?_ | refine Br.mk (fun _ => ?_) (fun _ => ?_) | refine EndP.mk ?_ trivial | refine EndP.mk ?_ ⟨.inr ⟨List.mem_cons_self .., ?_, rfl⟩, trivial⟩ | refine Ar.i64 (by omega) ?_ | refine Ar.u8 (by omega) ?_ | refine Quo.pos (by omega) ?_ | refine Rem.pos (by omega) ?_ | refine BsP.own ?_ | refine Ob.mk ⟨rfl, rfl⟩ ?_ | refine Ob.mk (flat_i _ _).1 ?_ | refine Ob.mk (flat_i _ _) ?_ | refine Ob.mk (flat_s _) ?_ | refine Ob.mk (by first | omega | (simp; first | done | fail) | (simp; omega)) ?_ | fail
  all_goals first
    | (exfalso; omega)
    | rfl
theorem unitOfK_spec (k : Int) (hk : isKind k) (t : List UInt8) (h : rowOk t) : Vow Try.prog 73 [.i .i64 k, .s t] (.tp [.s (unitS k t), .b true]) [] := by
  have f1 := rowOk_spec t (by have := h.1; omega)
  rw [decide_eq_true h] at f1
  have f2 := isKind_spec k
  rw [decide_eq_true hk] at f2
  have hl := packS_len t
  have h1 := h.1
  have f3 := l02Bytes_vow t h.2 (by omega)
  have hk2 : 0 ≤ k ∧ k ≤ 8 := by unfold isKind at hk; omega
  have hB : allB [V.i .u8 k] = some [UInt8.ofNat k.toNat] := by
    unfold isKind at hk
    rcases hk with rfl | rfl | rfl | rfl <;> rfl
  refine vow_of_ev (fn := Try.f73) [] [(0, 0), (6, 13), (0, 0), (14, 21)] tt_ok Try.func73 (by decide) rfl (Nat.le_of_ble_eq_true rfl) rfl rfl rfl ?_
  repeat' (conv => whnf); first | refine CallP.rd (f1) rfl rfl rfl rfl ?_ | refine DCall.rd (f1) rfl rfl ?_ | refine CallP.rd (f2) rfl rfl rfl rfl ?_ | refine DCall.rd (f2) rfl rfl ?_ | refine CallP.rd (f3) rfl rfl rfl rfl ?_ | refine DCall.rd (f3) rfl rfl ?_ | refine Byt.mk _ hB ?_ | refine Br.tt ?_ | refine Br.ff ?_ | refine Br.not ?_ | refine Br.dand (fun _ => ?_) (fun _ => ?_) | refine Br.dec (fun _ => ?_) (fun _ => ?_) | refine Br.beq (fun _ => ?_) (fun _ => ?_) | refine Br.bne (fun _ => ?_) (fun _ => ?_) | refine Br.seq (fun _ => ?_) (fun _ => ?_) | refine Elt.i (by omega) ?_ | refine EltN.i (by omega) ?_ | refine Nt.cast ?_ | refine Nt.mk _ rfl ?_ | refine EltN.mk _ rfl ?_ | refine Mx.mk _ rfl ?_ | refine Br.mk (fun _ => ?_) (fun _ => ?_) | refine EndP.mk ?_ trivial | refine EndP.mk ?_ ⟨.inr ⟨List.mem_cons_self .., ?_, rfl⟩, trivial⟩ | refine Ar.i64 (by omega) ?_ | refine Ar.u8 (by omega) ?_ | refine Quo.pos (by omega) ?_ | refine Rem.pos (by omega) ?_ | refine BsP.own ?_ | refine Ob.mk ⟨rfl, rfl⟩ ?_ | refine Ob.mk (flat_i _ _).1 ?_ | refine Ob.mk (flat_i _ _) ?_ | refine Ob.mk (flat_s _) ?_ | refine Ob.mk (by first | omega | (simp; first | done | fail) | (simp; omega)) ?_ | fail
  all_goals first
    | (exfalso; omega)
    | rfl

def setsS (lvl bits : Int) (c r : List Int) (p : Par) : List (List UInt8) := [unitS 7 (seqS lvl bits c r), unitS 8 (parS p)]
theorem l26Sets_vow (lvl bits : Int) (c r : List Int) (p : Par) (h : seqOk lvl bits c r = true) (hp : parOk p) : Vow Try.prog 122 [seqV lvl bits c r, parV p] (txO (setsS lvl bits c r p)) [] := by
  have hl := level_fit h
  have f1 := l05Seq_vow lvl bits c r h
  have f2 := l05Par_vow p hp
  have f3 := unitOfK_spec 7 (by unfold isKind; omega) _ (seqS_row h (by omega))
  have f4 := unitOfK_spec 8 (by unfold isKind; omega) _ (parS_row p)
  refine vow_of_ev (fn := Try.f122) [] [(0, 0), (9, 15), (15, 21), (21, 24)] tt_ok Try.func122 (by decide) rfl (Nat.le_of_ble_eq_true rfl) rfl rfl rfl ?_
  repeat' (conv => whnf); first | refine CallP.re (f1) (by first | with_reducible rfl | (simp only [imm_i, imm_s, imm_b, ptS, ptO, imm_pt, own_pt, txS, txO, imm_tx, own_tx, partV, headV, iO, iS, seqV, seqO, parV]; first | done | fail)) rfl rfl rfl (by first | rfl | exact own_i _ _ | exact own_s _ | exact own_b _ | (simp [V.noSl, V.noSl.go, own_i, own_s, own_b, ptS, ptO, imm_pt, own_pt, txS, txO, imm_tx, own_tx, partV, headV, iO, iS, seqV, seqO, parV]; first | done | fail)) ?_ | refine DCall.re (f1) (by first | with_reducible rfl | (simp only [imm_i, imm_s, imm_b, ptS, ptO, imm_pt, own_pt, txS, txO, imm_tx, own_tx, partV, headV, iO, iS, seqV, seqO, parV]; first | done | fail)) rfl (by first | rfl | exact own_i _ _ | exact own_s _ | exact own_b _ | (simp [V.noSl, V.noSl.go, own_i, own_s, own_b, ptS, ptO, imm_pt, own_pt, txS, txO, imm_tx, own_tx, partV, headV, iO, iS, seqV, seqO, parV]; first | done | fail)) ?_ | refine CallP.rd (f2) rfl rfl rfl rfl ?_ | refine DCall.rd (f2) rfl rfl ?_ | refine CallP.rd (f3) rfl rfl rfl rfl ?_ | refine DCall.rd (f3) rfl rfl ?_ | refine CallP.rd (f4) rfl rfl rfl rfl ?_ | refine DCall.rd (f4) rfl rfl ?_ | refine Br.tt ?_ | refine Br.ff ?_ | refine Br.not ?_ | refine Br.dand (fun _ => ?_) (fun _ => ?_) | refine Br.dec (fun _ => ?_) (fun _ => ?_) | refine Br.beq (fun _ => ?_) (fun _ => ?_) | refine Br.bne (fun _ => ?_) (fun _ => ?_) | refine Br.seq (fun _ => ?_) (fun _ => ?_) | refine Elt.i (by omega) ?_ | refine EltN.i (by omega) ?_ | refine Nt.cast ?_ | refine Nt.mk _ rfl ?_ | refine EltN.mk _ rfl ?_ | refine Mx.mk _ rfl ?_ | refine Br.mk (fun _ => ?_) (fun _ => ?_) | refine EndP.mk ?_ trivial | refine EndP.mk ?_ ⟨.inr ⟨List.mem_cons_self .., ?_, rfl⟩, trivial⟩ | refine Ar.i64 (by omega) ?_ | refine Ar.u8 (by omega) ?_ | refine Quo.pos (by omega) ?_ | refine Rem.pos (by omega) ?_ | refine BsP.own ?_ | refine Ob.mk ⟨rfl, rfl⟩ ?_ | refine Ob.mk (flat_i _ _).1 ?_ | refine Ob.mk (flat_i _ _) ?_ | refine Ob.mk (flat_s _) ?_ | refine Ob.mk (by first | omega | (simp; first | done | fail) | (simp; omega)) ?_ | fail
  all_goals rfl

section
variable (lvl bits : Int) (c r : List Int) (p : Par) (frame : Int) (ps : List Part) (begin : Bool)
def puOk : Prop := (seqOk lvl bits c r = true ∧ parOk p ∧ (ps.length : Int) = tilesOf lvl bits c r) ∧ ∀ i, i < ps.length → sliceOk lvl bits c r p (i : Int) frame (pt ps i)
instance : Decidable (puOk lvl bits c r p frame ps) := by unfold puOk; infer_instance
def puT (n : Nat) : List (List UInt8) := (if begin = true then setsS lvl bits c r p else []) ++ (List.range n).map fun (i : Nat) => sliceS bits p (i : Int) frame (pt ps i)
def puR : List (List UInt8) × Bool := if puOk lvl bits c r p frame ps then (puT lvl bits c r p frame ps begin ps.length, true) else ([], false)
end
theorem puT_len (lvl bits : Int) (c r : List Int) (p : Par) (frame : Int) (ps : List Part) (begin : Bool) (n : Nat) : (puT lvl bits c r p frame ps begin n).length ≤ n + 2 := by
  unfold puT setsS
  split <;> simp <;> omega
theorem puT_succ (lvl bits : Int) (c r : List Int) (p : Par) (frame : Int) (ps : List Part) (begin : Bool) (n : Nat) :
    puT lvl bits c r p frame ps begin (n + 1) = puT lvl bits c r p frame ps begin n ++ [sliceS bits p (n : Int) frame (pt ps n)] := by simp [puT, List.range_succ]
theorem puR_no {lvl bits : Int} {c r : List Int} {p : Par} {frame : Int} {ps : List Part} {begin : Bool} (h : ¬ puOk lvl bits c r p frame ps) : puR lvl bits c r p frame ps begin = ([], false) := by rw [puR, if_neg h]
theorem puR_yes {lvl bits : Int} {c r : List Int} {p : Par} {frame : Int} {ps : List Part} {begin : Bool} (h : puOk lvl bits c r p frame ps) :
    puR lvl bits c r p frame ps begin = (puT lvl bits c r p frame ps begin ps.length, true) := by rw [puR, if_pos h]
def puV (x : List (List UInt8) × Bool) : V := .tp [txO x.1, .b x.2]
theorem pu_all {lvl bits : Int} {c r : List Int} {p : Par} {frame : Int} {ps : List Part} {i : Nat} (h : ∀ j, j < i → sliceOk lvl bits c r p (j : Int) frame (pt ps j)) (hi : sliceOk lvl bits c r p (i : Int) frame (pt ps i)) :
    ∀ j, j < i + 1 → sliceOk lvl bits c r p (j : Int) frame (pt ps j) := fun j hj => by
  rcases Nat.lt_or_eq_of_le (Nat.le_of_lt_succ hj) with h1 | h1
  · exact h j h1
  · subst h1; exact hi

set_option maxHeartbeats 6000000 in
theorem pictureUnits_spec (lvl bits : Int) (c r : List Int) (p : Par) (frame : Int) (ps : List Part) (begin : Bool) (hx : ∀ x ∈ ps, x.row.length ≤ 2000000) (hn : ps.length ≤ 1048576) :
    Vow Try.prog 64 [seqV lvl bits c r, parV p, .i .i64 frame, ptS ps, .b begin] (puV (puR lvl bits c r p frame ps begin)) [] := by
  have ht := tilesOf_fit (lvl := lvl) (bits := bits) (c := c) (r := r)
  have hm : (ps.map partV).length = ps.length := by simp
  have hpt : ∀ j, j < ps.length → (pt ps j).row.length ≤ 2000000 := fun j hj => hx _ (by
    unfold pt; rw [List.getD_eq_getElem?_getD, List.getElem?_eq_getElem hj]; exact List.getElem_mem _)
  have g1 := seqOk_spec lvl bits c r
  have g2 := parOk_spec p
  refine vow_of_ev (fn := Try.f64) [] [(0, 0), (16, 17), (17, 31), (32, 33), (0, 0), (34, 37), (0, 0), (37, 40), (41, 43), (43, 55), (55, 56), (57, 58), (58, 62), (62, 63)] tt_ok Try.func64 (by decide) rfl (Nat.le_of_ble_eq_true rfl) rfl rfl rfl ?_
  by_cases hpre : seqOk lvl bits c r = true ∧ parOk p ∧ (ps.length : Int) = tilesOf lvl bits c r
  · obtain ⟨hp0, hp1, hp3⟩ := hpre
    have hlv := level_fit hp0
    rw [hp0] at g1
    rw [decide_eq_true hp1] at g2
    have s1 := l26Sets_vow lvl bits c r p hp0 hp1
    cases hbe : begin
    all_goals (repeat' (conv => whnf); first | refine CallP.rd (g1) rfl rfl rfl rfl ?_ | refine DCall.rd (g1) rfl rfl ?_ | refine CallP.rd (g2) rfl rfl rfl rfl ?_ | refine DCall.rd (g2) rfl rfl ?_ | refine CallP.rd (tilesOf_spec lvl bits c r) rfl rfl rfl rfl ?_ | refine DCall.rd (tilesOf_spec lvl bits c r) rfl rfl ?_ | refine CallP.re (s1) (by first | with_reducible rfl | (simp only [imm_i, imm_s, imm_b, ptS, ptO, imm_pt, own_pt, txS, txO, imm_tx, own_tx, partV, headV, iO, iS, seqV, seqO, parV]; first | done | fail)) rfl rfl rfl (by first | rfl | exact own_i _ _ | exact own_s _ | exact own_b _ | (simp [V.noSl, V.noSl.go, own_i, own_s, own_b, ptS, ptO, imm_pt, own_pt, txS, txO, imm_tx, own_tx, partV, headV, iO, iS, seqV, seqO, parV]; first | done | fail)) ?_ | refine DCall.re (s1) (by first | with_reducible rfl | (simp only [imm_i, imm_s, imm_b, ptS, ptO, imm_pt, own_pt, txS, txO, imm_tx, own_tx, partV, headV, iO, iS, seqV, seqO, parV]; first | done | fail)) rfl (by first | rfl | exact own_i _ _ | exact own_s _ | exact own_b _ | (simp [V.noSl, V.noSl.go, own_i, own_s, own_b, ptS, ptO, imm_pt, own_pt, txS, txO, imm_tx, own_tx, partV, headV, iO, iS, seqV, seqO, parV]; first | done | fail)) ?_ | refine Br.tt ?_ | refine Br.ff ?_ | refine Br.not ?_ | refine Br.dand (fun _ => ?_) (fun _ => ?_) | refine Br.dec (fun _ => ?_) (fun _ => ?_) | refine Br.beq (fun _ => ?_) (fun _ => ?_) | refine Br.bne (fun _ => ?_) (fun _ => ?_) | refine Br.seq (fun _ => ?_) (fun _ => ?_) | refine Elt.i (by omega) ?_ | refine EltN.i (by omega) ?_ | refine Nt.cast ?_ | refine Nt.mk _ rfl ?_ | refine EltN.mk _ rfl ?_ | refine Mx.mk _ rfl ?_ | refine Br.mk (fun _ => ?_) (fun _ => ?_) | refine EndP.mk ?_ trivial | refine EndP.mk ?_ ⟨.inr ⟨List.mem_cons_self .., ?_, rfl⟩, trivial⟩ | refine Ar.i64 (by omega) ?_ | refine Ar.u8 (by omega) ?_ | refine Quo.pos (by omega) ?_ | refine Rem.pos (by omega) ?_ | refine BsP.own ?_ | refine Ob.mk ⟨rfl, rfl⟩ ?_ | refine Ob.mk (flat_i _ _).1 ?_ | refine Ob.mk (flat_i _ _) ?_ | refine Ob.mk (flat_s _) ?_ | refine Ob.mk (by first | omega | (simp; first | done | fail) | (simp; omega)) ?_ | fail)
    all_goals first
      | (exfalso; omega)
      | skip
    all_goals (conv => whnf)
    all_goals (refine LoopP.mk [2,3,5,6,10,11,12,13] (fun i : Nat => [(2, .i .i64 frame), (3, ptS ps), (5, .bx [.i .i64 lvl, .i .i64 bits, .sl (c.map (.i .i64)), .sl (r.map (.i .i64))]), (6, .bx [.i .i64 p.qp, .b p.large, .b p.exact, .b p.confined]), (10, .nl), (11, .b false), (12, txO (puT lvl bits c r p frame ps begin i)), (13, .i .i64 i)]) (fun i => ps.length - i) (fun i => i ≤ ps.length ∧ ∀ j, j < i → sliceOk lvl bits c r p (j : Int) frame (pt ps j)) ?_ ?_)
    all_goals first
      | (conv => whnf
         refine ⟨0, ⟨by omega, fun j hj => by omega⟩, ?_⟩
         rw [hbe]
         first
           | rfl
           | (rw [hm]; rfl))
      | (rintro i ⟨hi, ha⟩
         have hpl := puT_len lvl bits c r p frame ps begin i
         have hplm : ((puT lvl bits c r p frame ps begin i).map V.s).length = (puT lvl bits c r p frame ps begin i).length := by rw [List.length_map]
         by_cases hlt : i < ps.length
         · by_cases hk : sliceOk lvl bits c r p (i : Int) frame (pt ps i)
           · have f1 := sliceOf_spec lvl bits c r p (i : Int) frame (pt ps i) hk
             repeat' (conv => whnf); first | refine Elt.pt (by omega) ?_ | refine EltN.pt (by omega) ?_ | refine CallP.rd (f1) rfl rfl rfl rfl ?_ | refine DCall.rd (f1) rfl rfl ?_ | refine Br.tt ?_ | refine Br.ff ?_ | refine Br.not ?_ | refine Br.dand (fun _ => ?_) (fun _ => ?_) | refine Br.dec (fun _ => ?_) (fun _ => ?_) | refine Br.beq (fun _ => ?_) (fun _ => ?_) | refine Br.bne (fun _ => ?_) (fun _ => ?_) | refine Br.seq (fun _ => ?_) (fun _ => ?_) | refine Elt.i (by omega) ?_ | refine EltN.i (by omega) ?_ | refine Nt.cast ?_ | refine Nt.mk _ rfl ?_ | refine EltN.mk _ rfl ?_ | refine Mx.mk _ rfl ?_ | refine Br.mk (fun _ => ?_) (fun _ => ?_) | refine EndP.mk ?_ trivial | refine EndP.mk ?_ ⟨.inr ⟨List.mem_cons_self .., ?_, rfl⟩, trivial⟩ | refine Ar.i64 (by omega) ?_ | refine Ar.u8 (by omega) ?_ | refine Quo.pos (by omega) ?_ | refine Rem.pos (by omega) ?_ | refine BsP.own ?_ | refine Ob.mk ⟨rfl, rfl⟩ ?_ | refine Ob.mk (flat_i _ _).1 ?_ | refine Ob.mk (flat_i _ _) ?_ | refine Ob.mk (flat_s _) ?_ | refine Ob.mk (by first | omega | (simp; first | done | fail) | (simp; omega)) ?_ | fail
             all_goals first
               | (exfalso; omega)
               | (conv => whnf
                  refine ⟨i + 1, ⟨by omega, pu_all ha hk⟩, by omega, ?_⟩
                  rw [puT_succ]
                  simp only [txO, List.map_append]
                  rfl)
           · have hno : ¬ puOk lvl bits c r p frame ps := fun k => hk (k.2 i hlt)
             have f1 := sliceOf_specN lvl bits c r p (i : Int) frame (pt ps i) (hpt i hlt) hk
             rw [puR_no hno]
             repeat' (conv => whnf); first | refine Elt.pt (by omega) ?_ | refine EltN.pt (by omega) ?_ | refine CallP.rd (f1) rfl rfl rfl rfl ?_ | refine DCall.rd (f1) rfl rfl ?_ | refine Br.tt ?_ | refine Br.ff ?_ | refine Br.not ?_ | refine Br.dand (fun _ => ?_) (fun _ => ?_) | refine Br.dec (fun _ => ?_) (fun _ => ?_) | refine Br.beq (fun _ => ?_) (fun _ => ?_) | refine Br.bne (fun _ => ?_) (fun _ => ?_) | refine Br.seq (fun _ => ?_) (fun _ => ?_) | refine Elt.i (by omega) ?_ | refine EltN.i (by omega) ?_ | refine Nt.cast ?_ | refine Nt.mk _ rfl ?_ | refine EltN.mk _ rfl ?_ | refine Mx.mk _ rfl ?_ | refine Br.mk (fun _ => ?_) (fun _ => ?_) | refine EndP.mk ?_ trivial | refine EndP.mk ?_ ⟨.inr ⟨List.mem_cons_self .., ?_, rfl⟩, trivial⟩ | refine Ar.i64 (by omega) ?_ | refine Ar.u8 (by omega) ?_ | refine Quo.pos (by omega) ?_ | refine Rem.pos (by omega) ?_ | refine BsP.own ?_ | refine Ob.mk ⟨rfl, rfl⟩ ?_ | refine Ob.mk (flat_i _ _).1 ?_ | refine Ob.mk (flat_i _ _) ?_ | refine Ob.mk (flat_s _) ?_ | refine Ob.mk (by first | omega | (simp; first | done | fail) | (simp; omega)) ?_ | fail
             all_goals first
               | (exfalso; omega)
               | rfl
         · obtain rfl : i = ps.length := by omega
           rw [puR_yes ⟨⟨hp0, hp1, hp3⟩, ha⟩]
           repeat' (conv => whnf); first | refine Br.tt ?_ | refine Br.ff ?_ | refine Br.not ?_ | refine Br.dand (fun _ => ?_) (fun _ => ?_) | refine Br.dec (fun _ => ?_) (fun _ => ?_) | refine Br.beq (fun _ => ?_) (fun _ => ?_) | refine Br.bne (fun _ => ?_) (fun _ => ?_) | refine Br.seq (fun _ => ?_) (fun _ => ?_) | refine Elt.i (by omega) ?_ | refine EltN.i (by omega) ?_ | refine Nt.cast ?_ | refine Nt.mk _ rfl ?_ | refine EltN.mk _ rfl ?_ | refine Mx.mk _ rfl ?_ | refine Br.mk (fun _ => ?_) (fun _ => ?_) | refine EndP.mk ?_ trivial | refine EndP.mk ?_ ⟨.inr ⟨List.mem_cons_self .., ?_, rfl⟩, trivial⟩ | refine Ar.i64 (by omega) ?_ | refine Ar.u8 (by omega) ?_ | refine Quo.pos (by omega) ?_ | refine Rem.pos (by omega) ?_ | refine BsP.own ?_ | refine Ob.mk ⟨rfl, rfl⟩ ?_ | refine Ob.mk (flat_i _ _).1 ?_ | refine Ob.mk (flat_i _ _) ?_ | refine Ob.mk (flat_s _) ?_ | refine Ob.mk (by first | omega | (simp; first | done | fail) | (simp; omega)) ?_ | fail
           all_goals first
             | (exfalso; omega)
             | (rw [hbe]; rfl)
             | rfl)
  · have hno : ¬ puOk lvl bits c r p frame ps := fun k => hpre k.1
    rw [puR_no hno]
    by_cases q1 : seqOk lvl bits c r = true
    · rw [q1] at g1
      by_cases q2 : parOk p
      · rw [decide_eq_true q2] at g2
        have q3 : ¬ (ps.length : Int) = tilesOf lvl bits c r := fun k => hpre ⟨q1, q2, k⟩
        repeat' (conv => whnf); first | refine CallP.rd (g1) rfl rfl rfl rfl ?_ | refine DCall.rd (g1) rfl rfl ?_ | refine CallP.rd (g2) rfl rfl rfl rfl ?_ | refine DCall.rd (g2) rfl rfl ?_ | refine CallP.rd (tilesOf_spec lvl bits c r) rfl rfl rfl rfl ?_ | refine DCall.rd (tilesOf_spec lvl bits c r) rfl rfl ?_ | refine Br.tt ?_ | refine Br.ff ?_ | refine Br.not ?_ | refine Br.dand (fun _ => ?_) (fun _ => ?_) | refine Br.dec (fun _ => ?_) (fun _ => ?_) | refine Br.beq (fun _ => ?_) (fun _ => ?_) | refine Br.bne (fun _ => ?_) (fun _ => ?_) | refine Br.seq (fun _ => ?_) (fun _ => ?_) | refine Elt.i (by omega) ?_ | refine EltN.i (by omega) ?_ | refine Nt.cast ?_ | refine Nt.mk _ rfl ?_ | refine EltN.mk _ rfl ?_ | refine Mx.mk _ rfl ?_ | refine Br.mk (fun _ => ?_) (fun _ => ?_) | refine EndP.mk ?_ trivial | refine EndP.mk ?_ ⟨.inr ⟨List.mem_cons_self .., ?_, rfl⟩, trivial⟩ | refine Ar.i64 (by omega) ?_ | refine Ar.u8 (by omega) ?_ | refine Quo.pos (by omega) ?_ | refine Rem.pos (by omega) ?_ | refine BsP.own ?_ | refine Ob.mk ⟨rfl, rfl⟩ ?_ | refine Ob.mk (flat_i _ _).1 ?_ | refine Ob.mk (flat_i _ _) ?_ | refine Ob.mk (flat_s _) ?_ | refine Ob.mk (by first | omega | (simp; first | done | fail) | (simp; omega)) ?_ | fail
        all_goals first
          | (exfalso; omega)
          | rfl
      · rw [decide_eq_false q2] at g2
        repeat' (conv => whnf); first | refine CallP.rd (g1) rfl rfl rfl rfl ?_ | refine DCall.rd (g1) rfl rfl ?_ | refine CallP.rd (g2) rfl rfl rfl rfl ?_ | refine DCall.rd (g2) rfl rfl ?_ | refine Br.tt ?_ | refine Br.ff ?_ | refine Br.not ?_ | refine Br.dand (fun _ => ?_) (fun _ => ?_) | refine Br.dec (fun _ => ?_) (fun _ => ?_) | refine Br.beq (fun _ => ?_) (fun _ => ?_) | refine Br.bne (fun _ => ?_) (fun _ => ?_) | refine Br.seq (fun _ => ?_) (fun _ => ?_) | refine Elt.i (by omega) ?_ | refine EltN.i (by omega) ?_ | refine Nt.cast ?_ | refine Nt.mk _ rfl ?_ | refine EltN.mk _ rfl ?_ | refine Mx.mk _ rfl ?_ | refine Br.mk (fun _ => ?_) (fun _ => ?_) | refine EndP.mk ?_ trivial | refine EndP.mk ?_ ⟨.inr ⟨List.mem_cons_self .., ?_, rfl⟩, trivial⟩ | refine Ar.i64 (by omega) ?_ | refine Ar.u8 (by omega) ?_ | refine Quo.pos (by omega) ?_ | refine Rem.pos (by omega) ?_ | refine BsP.own ?_ | refine Ob.mk ⟨rfl, rfl⟩ ?_ | refine Ob.mk (flat_i _ _).1 ?_ | refine Ob.mk (flat_i _ _) ?_ | refine Ob.mk (flat_s _) ?_ | refine Ob.mk (by first | omega | (simp; first | done | fail) | (simp; omega)) ?_ | fail
        all_goals rfl
    · rw [show seqOk lvl bits c r = false by simpa using q1] at g1
      repeat' (conv => whnf); first | refine CallP.rd (g1) rfl rfl rfl rfl ?_ | refine DCall.rd (g1) rfl rfl ?_ | refine Br.tt ?_ | refine Br.ff ?_ | refine Br.not ?_ | refine Br.dand (fun _ => ?_) (fun _ => ?_) | refine Br.dec (fun _ => ?_) (fun _ => ?_) | refine Br.beq (fun _ => ?_) (fun _ => ?_) | refine Br.bne (fun _ => ?_) (fun _ => ?_) | refine Br.seq (fun _ => ?_) (fun _ => ?_) | refine Elt.i (by omega) ?_ | refine EltN.i (by omega) ?_ | refine Nt.cast ?_ | refine Nt.mk _ rfl ?_ | refine EltN.mk _ rfl ?_ | refine Mx.mk _ rfl ?_ | refine Br.mk (fun _ => ?_) (fun _ => ?_) | refine EndP.mk ?_ trivial | refine EndP.mk ?_ ⟨.inr ⟨List.mem_cons_self .., ?_, rfl⟩, trivial⟩ | refine Ar.i64 (by omega) ?_ | refine Ar.u8 (by omega) ?_ | refine Quo.pos (by omega) ?_ | refine Rem.pos (by omega) ?_ | refine BsP.own ?_ | refine Ob.mk ⟨rfl, rfl⟩ ?_ | refine Ob.mk (flat_i _ _).1 ?_ | refine Ob.mk (flat_i _ _) ?_ | refine Ob.mk (flat_s _) ?_ | refine Ob.mk (by first | omega | (simp; first | done | fail) | (simp; omega)) ?_ | fail
      all_goals rfl

set_option maxHeartbeats 6000000 in
theorem pictureUnits_impl (lvl bits : Int) (c r : List Int) (p : Par) (frame : Int) (ps : List Part) (begin : Bool) (hx : ∀ x ∈ ps, x.row.length ≤ 2000000) (hn : ps.length ≤ 1048576) :
    Vow Try.prog 66 [seqV lvl bits c r, parV p, .i .i64 frame, ptS ps, .b begin] (puV (puR lvl bits c r p frame ps begin)) [] := by
  have ht := tilesOf_fit (lvl := lvl) (bits := bits) (c := c) (r := r)
  have hm : (ps.map partV).length = ps.length := by simp
  have hpt : ∀ j, j < ps.length → (pt ps j).row.length ≤ 2000000 := fun j hj => hx _ (by
    unfold pt; rw [List.getD_eq_getElem?_getD, List.getElem?_eq_getElem hj]; exact List.getElem_mem _)
  have g1 := seqOk_impl lvl bits c r
  have g2 := parOk_impl p
  refine vow_of_ev (fn := Try.f66) [] [(0, 0), (25, 26), (26, 40), (41, 42), (0, 0), (43, 48), (48, 53), (53, 58), (58, 63), (63, 68), (0, 0), (0, 0), (72, 75), (75, 84), (84, 85), (86, 87), (87, 91), (91, 92), (92, 93)] tt_ok Try.func66 (by decide) rfl (Nat.le_of_ble_eq_true rfl) rfl rfl rfl ?_
  by_cases hpre : seqOk lvl bits c r = true ∧ parOk p ∧ (ps.length : Int) = tilesOf lvl bits c r
  · obtain ⟨hp0, hp1, hp3⟩ := hpre
    have hlv := level_fit hp0
    rw [hp0] at g1
    rw [decide_eq_true hp1] at g2
    have s1 := seqRow_impl lvl bits c r hp0
    have s2 := parRow_impl p hp1
    have s3 := unitOfK_impl 7 (by unfold isKind; omega) _ (seqS_row hp0 (by omega))
    have s4 := unitOfK_impl 8 (by unfold isKind; omega) _ (parS_row p)
    cases hbe : begin
    all_goals (repeat' (conv => whnf); first | refine CallP.rd (g1) rfl rfl rfl rfl ?_ | refine DCall.rd (g1) rfl rfl ?_ | refine CallP.rd (g2) rfl rfl rfl rfl ?_ | refine DCall.rd (g2) rfl rfl ?_ | refine CallP.rd (tilesOf_impl lvl bits c r) rfl rfl rfl rfl ?_ | refine DCall.rd (tilesOf_impl lvl bits c r) rfl rfl ?_ | refine CallP.re (s1) (by first | with_reducible rfl | (simp only [imm_i, imm_s, imm_b, ptS, ptO, imm_pt, own_pt, txS, txO, imm_tx, own_tx, partV, headV, iO, iS, seqV, seqO, parV]; first | done | fail)) rfl rfl rfl (by first | rfl | exact own_i _ _ | exact own_s _ | exact own_b _ | (simp [V.noSl, V.noSl.go, own_i, own_s, own_b, ptS, ptO, imm_pt, own_pt, txS, txO, imm_tx, own_tx, partV, headV, iO, iS, seqV, seqO, parV]; first | done | fail)) ?_ | refine DCall.re (s1) (by first | with_reducible rfl | (simp only [imm_i, imm_s, imm_b, ptS, ptO, imm_pt, own_pt, txS, txO, imm_tx, own_tx, partV, headV, iO, iS, seqV, seqO, parV]; first | done | fail)) rfl (by first | rfl | exact own_i _ _ | exact own_s _ | exact own_b _ | (simp [V.noSl, V.noSl.go, own_i, own_s, own_b, ptS, ptO, imm_pt, own_pt, txS, txO, imm_tx, own_tx, partV, headV, iO, iS, seqV, seqO, parV]; first | done | fail)) ?_ | refine CallP.rd (s2) rfl rfl rfl rfl ?_ | refine DCall.rd (s2) rfl rfl ?_ | refine CallP.rd (s3) rfl rfl rfl rfl ?_ | refine DCall.rd (s3) rfl rfl ?_ | refine CallP.rd (s4) rfl rfl rfl rfl ?_ | refine DCall.rd (s4) rfl rfl ?_ | refine Br.tt ?_ | refine Br.ff ?_ | refine Br.not ?_ | refine Br.dand (fun _ => ?_) (fun _ => ?_) | refine Br.dec (fun _ => ?_) (fun _ => ?_) | refine Br.beq (fun _ => ?_) (fun _ => ?_) | refine Br.bne (fun _ => ?_) (fun _ => ?_) | refine Br.seq (fun _ => ?_) (fun _ => ?_) | refine Elt.i (by omega) ?_ | refine EltN.i (by omega) ?_ | refine Nt.cast ?_ | refine Nt.mk _ rfl ?_ | refine EltN.mk _ rfl ?_ | refine Mx.mk _ rfl ?_ | refine Br.mk (fun _ => ?_) (fun _ => ?_) | refine EndP.mk ?_ trivial | refine EndP.mk ?_ ⟨.inr ⟨List.mem_cons_self .., ?_, rfl⟩, trivial⟩ | refine Ar.i64 (by omega) ?_ | refine Ar.u8 (by omega) ?_ | refine Quo.pos (by omega) ?_ | refine Rem.pos (by omega) ?_ | refine BsP.own ?_ | refine Ob.mk ⟨rfl, rfl⟩ ?_ | refine Ob.mk (flat_i _ _).1 ?_ | refine Ob.mk (flat_i _ _) ?_ | refine Ob.mk (flat_s _) ?_ | refine Ob.mk (by first | omega | (simp; first | done | fail) | (simp; omega)) ?_ | fail)
    all_goals first
      | (exfalso; omega)
      | skip
    all_goals (conv => whnf)
    all_goals (refine LoopP.mk [2,5,6,10,11,12,68,69,70] (fun i : Nat => [(2, .i .i64 frame), (5, .bx [.i .i64 lvl, .i .i64 bits, .sl (c.map (.i .i64)), .sl (r.map (.i .i64))]), (6, .bx [.i .i64 p.qp, .b p.large, .b p.exact, .b p.confined]), (10, .nl), (11, .b false), (12, txO (puT lvl bits c r p frame ps begin i)), (68, ptS ps), (69, .i .i64 ps.length), (70, .i .i64 i)]) (fun i => ps.length - i) (fun i => i ≤ ps.length ∧ ∀ j, j < i → sliceOk lvl bits c r p (j : Int) frame (pt ps j)) ?_ ?_)
    all_goals first
      | (conv => whnf
         refine ⟨0, ⟨by omega, fun j hj => by omega⟩, ?_⟩
         rw [hbe]
         first
           | rfl
           | (rw [hm]; rfl))
      | (rintro i ⟨hi, ha⟩
         have hpl := puT_len lvl bits c r p frame ps begin i
         have hplm : ((puT lvl bits c r p frame ps begin i).map V.s).length = (puT lvl bits c r p frame ps begin i).length := by rw [List.length_map]
         by_cases hlt : i < ps.length
         · by_cases hk : sliceOk lvl bits c r p (i : Int) frame (pt ps i)
           · have f1 := sliceOf_impl lvl bits c r p (i : Int) frame (pt ps i) hk
             repeat' (conv => whnf); first | refine Elt.pt (by omega) ?_ | refine EltN.pt (by omega) ?_ | refine CallP.rd (f1) rfl rfl rfl rfl ?_ | refine DCall.rd (f1) rfl rfl ?_ | refine Br.tt ?_ | refine Br.ff ?_ | refine Br.not ?_ | refine Br.dand (fun _ => ?_) (fun _ => ?_) | refine Br.dec (fun _ => ?_) (fun _ => ?_) | refine Br.beq (fun _ => ?_) (fun _ => ?_) | refine Br.bne (fun _ => ?_) (fun _ => ?_) | refine Br.seq (fun _ => ?_) (fun _ => ?_) | refine Elt.i (by omega) ?_ | refine EltN.i (by omega) ?_ | refine Nt.cast ?_ | refine Nt.mk _ rfl ?_ | refine EltN.mk _ rfl ?_ | refine Mx.mk _ rfl ?_ | refine Br.mk (fun _ => ?_) (fun _ => ?_) | refine EndP.mk ?_ trivial | refine EndP.mk ?_ ⟨.inr ⟨List.mem_cons_self .., ?_, rfl⟩, trivial⟩ | refine Ar.i64 (by omega) ?_ | refine Ar.u8 (by omega) ?_ | refine Quo.pos (by omega) ?_ | refine Rem.pos (by omega) ?_ | refine BsP.own ?_ | refine Ob.mk ⟨rfl, rfl⟩ ?_ | refine Ob.mk (flat_i _ _).1 ?_ | refine Ob.mk (flat_i _ _) ?_ | refine Ob.mk (flat_s _) ?_ | refine Ob.mk (by first | omega | (simp; first | done | fail) | (simp; omega)) ?_ | fail
             all_goals first
               | (exfalso; omega)
               | (conv => whnf
                  refine ⟨i + 1, ⟨by omega, pu_all ha hk⟩, by omega, ?_⟩
                  rw [puT_succ]
                  simp only [txO, List.map_append]
                  rfl)
           · have hno : ¬ puOk lvl bits c r p frame ps := fun k => hk (k.2 i hlt)
             have f1 := sliceOf_implN lvl bits c r p (i : Int) frame (pt ps i) (hpt i hlt) hk
             rw [puR_no hno]
             repeat' (conv => whnf); first | refine Elt.pt (by omega) ?_ | refine EltN.pt (by omega) ?_ | refine CallP.rd (f1) rfl rfl rfl rfl ?_ | refine DCall.rd (f1) rfl rfl ?_ | refine Br.tt ?_ | refine Br.ff ?_ | refine Br.not ?_ | refine Br.dand (fun _ => ?_) (fun _ => ?_) | refine Br.dec (fun _ => ?_) (fun _ => ?_) | refine Br.beq (fun _ => ?_) (fun _ => ?_) | refine Br.bne (fun _ => ?_) (fun _ => ?_) | refine Br.seq (fun _ => ?_) (fun _ => ?_) | refine Elt.i (by omega) ?_ | refine EltN.i (by omega) ?_ | refine Nt.cast ?_ | refine Nt.mk _ rfl ?_ | refine EltN.mk _ rfl ?_ | refine Mx.mk _ rfl ?_ | refine Br.mk (fun _ => ?_) (fun _ => ?_) | refine EndP.mk ?_ trivial | refine EndP.mk ?_ ⟨.inr ⟨List.mem_cons_self .., ?_, rfl⟩, trivial⟩ | refine Ar.i64 (by omega) ?_ | refine Ar.u8 (by omega) ?_ | refine Quo.pos (by omega) ?_ | refine Rem.pos (by omega) ?_ | refine BsP.own ?_ | refine Ob.mk ⟨rfl, rfl⟩ ?_ | refine Ob.mk (flat_i _ _).1 ?_ | refine Ob.mk (flat_i _ _) ?_ | refine Ob.mk (flat_s _) ?_ | refine Ob.mk (by first | omega | (simp; first | done | fail) | (simp; omega)) ?_ | fail
             all_goals first
               | (exfalso; omega)
               | rfl
         · obtain rfl : i = ps.length := by omega
           rw [puR_yes ⟨⟨hp0, hp1, hp3⟩, ha⟩]
           repeat' (conv => whnf); first | refine Br.tt ?_ | refine Br.ff ?_ | refine Br.not ?_ | refine Br.dand (fun _ => ?_) (fun _ => ?_) | refine Br.dec (fun _ => ?_) (fun _ => ?_) | refine Br.beq (fun _ => ?_) (fun _ => ?_) | refine Br.bne (fun _ => ?_) (fun _ => ?_) | refine Br.seq (fun _ => ?_) (fun _ => ?_) | refine Elt.i (by omega) ?_ | refine EltN.i (by omega) ?_ | refine Nt.cast ?_ | refine Nt.mk _ rfl ?_ | refine EltN.mk _ rfl ?_ | refine Mx.mk _ rfl ?_ | refine Br.mk (fun _ => ?_) (fun _ => ?_) | refine EndP.mk ?_ trivial | refine EndP.mk ?_ ⟨.inr ⟨List.mem_cons_self .., ?_, rfl⟩, trivial⟩ | refine Ar.i64 (by omega) ?_ | refine Ar.u8 (by omega) ?_ | refine Quo.pos (by omega) ?_ | refine Rem.pos (by omega) ?_ | refine BsP.own ?_ | refine Ob.mk ⟨rfl, rfl⟩ ?_ | refine Ob.mk (flat_i _ _).1 ?_ | refine Ob.mk (flat_i _ _) ?_ | refine Ob.mk (flat_s _) ?_ | refine Ob.mk (by first | omega | (simp; first | done | fail) | (simp; omega)) ?_ | fail
           all_goals first
             | (exfalso; omega)
             | (rw [hbe]; rfl)
             | rfl)
  · have hno : ¬ puOk lvl bits c r p frame ps := fun k => hpre k.1
    rw [puR_no hno]
    by_cases q1 : seqOk lvl bits c r = true
    · rw [q1] at g1
      by_cases q2 : parOk p
      · rw [decide_eq_true q2] at g2
        have q3 : ¬ (ps.length : Int) = tilesOf lvl bits c r := fun k => hpre ⟨q1, q2, k⟩
        repeat' (conv => whnf); first | refine CallP.rd (g1) rfl rfl rfl rfl ?_ | refine DCall.rd (g1) rfl rfl ?_ | refine CallP.rd (g2) rfl rfl rfl rfl ?_ | refine DCall.rd (g2) rfl rfl ?_ | refine CallP.rd (tilesOf_impl lvl bits c r) rfl rfl rfl rfl ?_ | refine DCall.rd (tilesOf_impl lvl bits c r) rfl rfl ?_ | refine Br.tt ?_ | refine Br.ff ?_ | refine Br.not ?_ | refine Br.dand (fun _ => ?_) (fun _ => ?_) | refine Br.dec (fun _ => ?_) (fun _ => ?_) | refine Br.beq (fun _ => ?_) (fun _ => ?_) | refine Br.bne (fun _ => ?_) (fun _ => ?_) | refine Br.seq (fun _ => ?_) (fun _ => ?_) | refine Elt.i (by omega) ?_ | refine EltN.i (by omega) ?_ | refine Nt.cast ?_ | refine Nt.mk _ rfl ?_ | refine EltN.mk _ rfl ?_ | refine Mx.mk _ rfl ?_ | refine Br.mk (fun _ => ?_) (fun _ => ?_) | refine EndP.mk ?_ trivial | refine EndP.mk ?_ ⟨.inr ⟨List.mem_cons_self .., ?_, rfl⟩, trivial⟩ | refine Ar.i64 (by omega) ?_ | refine Ar.u8 (by omega) ?_ | refine Quo.pos (by omega) ?_ | refine Rem.pos (by omega) ?_ | refine BsP.own ?_ | refine Ob.mk ⟨rfl, rfl⟩ ?_ | refine Ob.mk (flat_i _ _).1 ?_ | refine Ob.mk (flat_i _ _) ?_ | refine Ob.mk (flat_s _) ?_ | refine Ob.mk (by first | omega | (simp; first | done | fail) | (simp; omega)) ?_ | fail
        all_goals first
          | (exfalso; omega)
          | rfl
      · rw [decide_eq_false q2] at g2
        repeat' (conv => whnf); first | refine CallP.rd (g1) rfl rfl rfl rfl ?_ | refine DCall.rd (g1) rfl rfl ?_ | refine CallP.rd (g2) rfl rfl rfl rfl ?_ | refine DCall.rd (g2) rfl rfl ?_ | refine Br.tt ?_ | refine Br.ff ?_ | refine Br.not ?_ | refine Br.dand (fun _ => ?_) (fun _ => ?_) | refine Br.dec (fun _ => ?_) (fun _ => ?_) | refine Br.beq (fun _ => ?_) (fun _ => ?_) | refine Br.bne (fun _ => ?_) (fun _ => ?_) | refine Br.seq (fun _ => ?_) (fun _ => ?_) | refine Elt.i (by omega) ?_ | refine EltN.i (by omega) ?_ | refine Nt.cast ?_ | refine Nt.mk _ rfl ?_ | refine EltN.mk _ rfl ?_ | refine Mx.mk _ rfl ?_ | refine Br.mk (fun _ => ?_) (fun _ => ?_) | refine EndP.mk ?_ trivial | refine EndP.mk ?_ ⟨.inr ⟨List.mem_cons_self .., ?_, rfl⟩, trivial⟩ | refine Ar.i64 (by omega) ?_ | refine Ar.u8 (by omega) ?_ | refine Quo.pos (by omega) ?_ | refine Rem.pos (by omega) ?_ | refine BsP.own ?_ | refine Ob.mk ⟨rfl, rfl⟩ ?_ | refine Ob.mk (flat_i _ _).1 ?_ | refine Ob.mk (flat_i _ _) ?_ | refine Ob.mk (flat_s _) ?_ | refine Ob.mk (by first | omega | (simp; first | done | fail) | (simp; omega)) ?_ | fail
        all_goals rfl
    · rw [show seqOk lvl bits c r = false by simpa using q1] at g1
      repeat' (conv => whnf); first | refine CallP.rd (g1) rfl rfl rfl rfl ?_ | refine DCall.rd (g1) rfl rfl ?_ | refine Br.tt ?_ | refine Br.ff ?_ | refine Br.not ?_ | refine Br.dand (fun _ => ?_) (fun _ => ?_) | refine Br.dec (fun _ => ?_) (fun _ => ?_) | refine Br.beq (fun _ => ?_) (fun _ => ?_) | refine Br.bne (fun _ => ?_) (fun _ => ?_) | refine Br.seq (fun _ => ?_) (fun _ => ?_) | refine Elt.i (by omega) ?_ | refine EltN.i (by omega) ?_ | refine Nt.cast ?_ | refine Nt.mk _ rfl ?_ | refine EltN.mk _ rfl ?_ | refine Mx.mk _ rfl ?_ | refine Br.mk (fun _ => ?_) (fun _ => ?_) | refine EndP.mk ?_ trivial | refine EndP.mk ?_ ⟨.inr ⟨List.mem_cons_self .., ?_, rfl⟩, trivial⟩ | refine Ar.i64 (by omega) ?_ | refine Ar.u8 (by omega) ?_ | refine Quo.pos (by omega) ?_ | refine Rem.pos (by omega) ?_ | refine BsP.own ?_ | refine Ob.mk ⟨rfl, rfl⟩ ?_ | refine Ob.mk (flat_i _ _).1 ?_ | refine Ob.mk (flat_i _ _) ?_ | refine Ob.mk (flat_s _) ?_ | refine Ob.mk (by first | omega | (simp; first | done | fail) | (simp; omega)) ?_ | fail
      all_goals rfl
end Go.Proofs.Ytfcjjkfjdecakaa
