/- Slices as units: the program's side. No condition. -/
import Derived.Test.YtfcjjkfjdecakaaTo
import Derived.Test.YtfcjjkfjdecakaaTp
namespace Go.Proofs.Ytfcjjkfjdecakaa
open Go Go.Vx
set_option linter.unusedVariables false
set_option linter.unusedSimpArgs false
set_option maxHeartbeats 600000
set_option maxRecDepth 100000


theorem signs_app {a b : List UInt8} (ha : allSigns a) (hb : allSigns b) : allSigns (a ++ b) := by
  intro j hj
  unfold signAt
  by_cases h : j < a.length
  · have : rb (a ++ b) j = rb a j := by simp [rb, List.getElem?_append_left h]
    rw [this]; exact ha j h
  · have h2 : j - a.length < b.length := by rw [List.length_append] at hj; omega
    have : rb (a ++ b) j = rb b (j - a.length) := by simp [rb, List.getElem?_append_right (show a.length ≤ j by omega)]
    rw [this]; exact hb _ h2
theorem signs_fix : ∀ (w n : Nat), allSigns (fixS w n)
  | 0, _ => fun j hj => by simp [fixS] at hj
  | w + 1, n => by
    rw [fixS]
    refine signs_app (signs_fix w (n / 2)) (fun j hj => ?_)
    have h0 : j = 0 := by simp at hj; omega
    subst h0
    show (UInt8.ofNat (48 + n % 2)).toNat = 48 ∨ (UInt8.ofNat (48 + n % 2)).toNat = 49
    rw [UInt8.toNat_ofNat']
    omega
theorem signs_head (bits : Int) (p : Par) (h : Head) : allSigns (headS bits p h) := signs_app (signs_app (signs_fix _ _) (signs_fix _ _)) (signs_fix _ _)

def unitS (k : Int) (t : List UInt8) : List UInt8 := UInt8.ofNat k.toNat :: packS t
theorem unitOf_impl (k : Int) (hk : k = 1 ∨ k = 5) (t : List UInt8) (h : rowOk t) : Vow Try.prog 77 [.i .i64 k, .s t] (.tp [.s (unitS k t), .b true]) [] := by
  have f1 := rowBytes_impl t h
  have f2 := isKind_impl k
  rw [decide_eq_true (show isKind k by unfold isKind; omega)] at f2
  have hl := packS_len t
  have h1 := h.1
  have hB : allB [V.i .u8 k] = some [UInt8.ofNat k.toNat] := by
    rcases hk with rfl | rfl <;> rfl
  refine vow_of_ev (fn := Try.f77) [] [(0, 0), (8, 13), (13, 19), (0, 0), (20, 26)] tt_ok Try.func77 (by decide) rfl (Nat.le_of_ble_eq_true rfl) rfl rfl rfl ?_
  repeat' (conv => whnf); first | refine CallP.rd (f1) rfl rfl rfl rfl ?_ | refine DCall.rd (f1) rfl rfl ?_ | refine CallP.rd (f2) rfl rfl rfl rfl ?_ | refine DCall.rd (f2) rfl rfl ?_ | refine Byt.mk _ hB ?_ | refine Br.tt ?_ | refine Br.ff ?_ | refine Br.not ?_ | refine Br.dand (fun _ => ?_) (fun _ => ?_) | refine Br.dec (fun _ => ?_) (fun _ => ?_) | refine Br.beq (fun _ => ?_) (fun _ => ?_) | refine Br.bne (fun _ => ?_) (fun _ => ?_) | refine Br.seq (fun _ => ?_) (fun _ => ?_) | refine Elt.i (by omega) ?_ | refine EltN.i (by omega) ?_ | refine Nt.cast ?_ | refine Nt.mk _ rfl ?_ | refine EltN.mk _ rfl ?_ | refine Mx.mk _ rfl ?_ | refine Br.mk (fun _ => ?_) (fun _ => ?_) | refine EndP.mk ?_ trivial | refine EndP.mk ?_ ⟨.inr ⟨List.mem_cons_self .., ?_, rfl⟩, trivial⟩ | refine Ar.i64 (by omega) ?_ | refine Ar.u8 (by omega) ?_ | refine Quo.pos (by omega) ?_ | refine Rem.pos (by omega) ?_ | refine BsP.own ?_ | refine Ob.mk ⟨rfl, rfl⟩ ?_ | refine Ob.mk (flat_i _ _).1 ?_ | refine Ob.mk (flat_i _ _) ?_ | refine Ob.mk (flat_s _) ?_ | refine Ob.mk (by first | omega | (simp; first | done | fail) | (simp; omega)) ?_ | fail
  all_goals first
    | (exfalso; omega)
    | rfl

def sliceOk (lvl bits : Int) (c r : List Int) (p : Par) (tile frame : Int) (x : Part) : Prop :=
  headOk lvl bits c r p ⟨tile, frame, x.qp⟩ ∧ rowOk x.row ∧ (headS bits p ⟨tile, frame, x.qp⟩).length + x.row.length ≤ 400000
instance (lvl bits : Int) (c r : List Int) (p : Par) (tile frame : Int) (x : Part) : Decidable (sliceOk lvl bits c r p tile frame x) := by unfold sliceOk; infer_instance
def sliceS (bits : Int) (p : Par) (tile frame : Int) (x : Part) : List UInt8 := unitS (if x.key = true then 5 else 1) (headS bits p ⟨tile, frame, x.qp⟩ ++ x.row)

set_option maxHeartbeats 6000000 in
theorem sliceOf_impl (lvl bits : Int) (c r : List Int) (p : Par) (tile frame : Int) (x : Part) (hk : sliceOk lvl bits c r p tile frame x) :
    Vow Try.prog 19 [seqV lvl bits c r, parV p, .i .i64 tile, .i .i64 frame, partV x] (.tp [.s (sliceS bits p tile frame x), .b true]) [] := by
  obtain ⟨h1, h2, h3⟩ := hk
  have f1 := headRow_impl lvl bits c r p ⟨tile, frame, x.qp⟩ h1
  have f2 := rowOk_impl x.row
  rw [decide_eq_true h2] at f2
  have hr : rowOk (headS bits p ⟨tile, frame, x.qp⟩ ++ x.row) := ⟨by rw [List.length_append]; omega, signs_app (signs_head _ _ _) h2.2⟩
  obtain ⟨key, qp, row⟩ := x
  cases key
  · have f3 := unitOf_impl 1 (.inl rfl) _ hr
    refine vow_of_ev (fn := Try.f19) [] [(0, 0), (15, 26), (26, 42), (0, 0), (0, 0), (43, 44), (0, 0), (45, 53)] tt_ok Try.func19 (by decide) rfl (Nat.le_of_ble_eq_true rfl) rfl rfl rfl ?_
    repeat' (conv => whnf); first | refine CallP.rd (f1) rfl rfl rfl rfl ?_ | refine DCall.rd (f1) rfl rfl ?_ | refine CallP.rd (f2) rfl rfl rfl rfl ?_ | refine DCall.rd (f2) rfl rfl ?_ | refine CallP.rd (f3) rfl rfl rfl rfl ?_ | refine DCall.rd (f3) rfl rfl ?_ | refine Br.tt ?_ | refine Br.ff ?_ | refine Br.not ?_ | refine Br.dand (fun _ => ?_) (fun _ => ?_) | refine Br.dec (fun _ => ?_) (fun _ => ?_) | refine Br.beq (fun _ => ?_) (fun _ => ?_) | refine Br.bne (fun _ => ?_) (fun _ => ?_) | refine Br.seq (fun _ => ?_) (fun _ => ?_) | refine Elt.i (by omega) ?_ | refine EltN.i (by omega) ?_ | refine Nt.cast ?_ | refine Nt.mk _ rfl ?_ | refine EltN.mk _ rfl ?_ | refine Mx.mk _ rfl ?_ | refine Br.mk (fun _ => ?_) (fun _ => ?_) | refine EndP.mk ?_ trivial | refine EndP.mk ?_ ⟨.inr ⟨List.mem_cons_self .., ?_, rfl⟩, trivial⟩ | refine Ar.i64 (by omega) ?_ | refine Ar.u8 (by omega) ?_ | refine Quo.pos (by omega) ?_ | refine Rem.pos (by omega) ?_ | refine BsP.own ?_ | refine Ob.mk ⟨rfl, rfl⟩ ?_ | refine Ob.mk (flat_i _ _).1 ?_ | refine Ob.mk (flat_i _ _) ?_ | refine Ob.mk (flat_s _) ?_ | refine Ob.mk (by first | omega | (simp; first | done | fail) | (simp; omega)) ?_ | fail
    all_goals first
      | (exfalso; omega)
      | rfl
  · have f3 := unitOf_impl 5 (.inr rfl) _ hr
    refine vow_of_ev (fn := Try.f19) [] [(0, 0), (15, 26), (26, 42), (0, 0), (0, 0), (43, 44), (0, 0), (45, 53)] tt_ok Try.func19 (by decide) rfl (Nat.le_of_ble_eq_true rfl) rfl rfl rfl ?_
    repeat' (conv => whnf); first | refine CallP.rd (f1) rfl rfl rfl rfl ?_ | refine DCall.rd (f1) rfl rfl ?_ | refine CallP.rd (f2) rfl rfl rfl rfl ?_ | refine DCall.rd (f2) rfl rfl ?_ | refine CallP.rd (f3) rfl rfl rfl rfl ?_ | refine DCall.rd (f3) rfl rfl ?_ | refine Br.tt ?_ | refine Br.ff ?_ | refine Br.not ?_ | refine Br.dand (fun _ => ?_) (fun _ => ?_) | refine Br.dec (fun _ => ?_) (fun _ => ?_) | refine Br.beq (fun _ => ?_) (fun _ => ?_) | refine Br.bne (fun _ => ?_) (fun _ => ?_) | refine Br.seq (fun _ => ?_) (fun _ => ?_) | refine Elt.i (by omega) ?_ | refine EltN.i (by omega) ?_ | refine Nt.cast ?_ | refine Nt.mk _ rfl ?_ | refine EltN.mk _ rfl ?_ | refine Mx.mk _ rfl ?_ | refine Br.mk (fun _ => ?_) (fun _ => ?_) | refine EndP.mk ?_ trivial | refine EndP.mk ?_ ⟨.inr ⟨List.mem_cons_self .., ?_, rfl⟩, trivial⟩ | refine Ar.i64 (by omega) ?_ | refine Ar.u8 (by omega) ?_ | refine Quo.pos (by omega) ?_ | refine Rem.pos (by omega) ?_ | refine BsP.own ?_ | refine Ob.mk ⟨rfl, rfl⟩ ?_ | refine Ob.mk (flat_i _ _).1 ?_ | refine Ob.mk (flat_i _ _) ?_ | refine Ob.mk (flat_s _) ?_ | refine Ob.mk (by first | omega | (simp; first | done | fail) | (simp; omega)) ?_ | fail
    all_goals first
      | (exfalso; omega)
      | rfl
set_option maxHeartbeats 6000000 in
theorem sliceOf_implN (lvl bits : Int) (c r : List Int) (p : Par) (tile frame : Int) (x : Part) (hx : x.row.length ≤ 2000000) (hk : ¬ sliceOk lvl bits c r p tile frame x) :
    Vow Try.prog 19 [seqV lvl bits c r, parV p, .i .i64 tile, .i .i64 frame, partV x] (.tp [.s [], .b false]) [] := by
  have f2 := rowOk_impl x.row
  by_cases h1 : headOk lvl bits c r p ⟨tile, frame, x.qp⟩
  · have f1 := headRow_impl lvl bits c r p ⟨tile, frame, x.qp⟩ h1
    have hl := headS_len h1
    by_cases h2 : rowOk x.row
    · rw [decide_eq_true h2] at f2
      have h3 : ¬ (headS bits p ⟨tile, frame, x.qp⟩).length + x.row.length ≤ 400000 := fun k => hk ⟨h1, h2, k⟩
      refine vow_of_ev (fn := Try.f19) [] [(0, 0), (15, 26), (26, 42), (0, 0), (0, 0), (43, 44), (0, 0), (45, 53)] tt_ok Try.func19 (by decide) rfl (Nat.le_of_ble_eq_true rfl) rfl rfl rfl ?_
      repeat' (conv => whnf); first | refine CallP.rd (f1) rfl rfl rfl rfl ?_ | refine DCall.rd (f1) rfl rfl ?_ | refine CallP.rd (f2) rfl rfl rfl rfl ?_ | refine DCall.rd (f2) rfl rfl ?_ | refine Br.tt ?_ | refine Br.ff ?_ | refine Br.not ?_ | refine Br.dand (fun _ => ?_) (fun _ => ?_) | refine Br.dec (fun _ => ?_) (fun _ => ?_) | refine Br.beq (fun _ => ?_) (fun _ => ?_) | refine Br.bne (fun _ => ?_) (fun _ => ?_) | refine Br.seq (fun _ => ?_) (fun _ => ?_) | refine Elt.i (by omega) ?_ | refine EltN.i (by omega) ?_ | refine Nt.cast ?_ | refine Nt.mk _ rfl ?_ | refine EltN.mk _ rfl ?_ | refine Mx.mk _ rfl ?_ | refine Br.mk (fun _ => ?_) (fun _ => ?_) | refine EndP.mk ?_ trivial | refine EndP.mk ?_ ⟨.inr ⟨List.mem_cons_self .., ?_, rfl⟩, trivial⟩ | refine Ar.i64 (by omega) ?_ | refine Ar.u8 (by omega) ?_ | refine Quo.pos (by omega) ?_ | refine Rem.pos (by omega) ?_ | refine BsP.own ?_ | refine Ob.mk ⟨rfl, rfl⟩ ?_ | refine Ob.mk (flat_i _ _).1 ?_ | refine Ob.mk (flat_i _ _) ?_ | refine Ob.mk (flat_s _) ?_ | refine Ob.mk (by first | omega | (simp; first | done | fail) | (simp; omega)) ?_ | fail
      all_goals first
        | (exfalso; omega)
        | rfl
    · rw [decide_eq_false h2] at f2
      refine vow_of_ev (fn := Try.f19) [] [(0, 0), (15, 26), (26, 42), (0, 0), (0, 0), (43, 44), (0, 0), (45, 53)] tt_ok Try.func19 (by decide) rfl (Nat.le_of_ble_eq_true rfl) rfl rfl rfl ?_
      repeat' (conv => whnf); first | refine CallP.rd (f1) rfl rfl rfl rfl ?_ | refine DCall.rd (f1) rfl rfl ?_ | refine CallP.rd (f2) rfl rfl rfl rfl ?_ | refine DCall.rd (f2) rfl rfl ?_ | refine Br.tt ?_ | refine Br.ff ?_ | refine Br.not ?_ | refine Br.dand (fun _ => ?_) (fun _ => ?_) | refine Br.dec (fun _ => ?_) (fun _ => ?_) | refine Br.beq (fun _ => ?_) (fun _ => ?_) | refine Br.bne (fun _ => ?_) (fun _ => ?_) | refine Br.seq (fun _ => ?_) (fun _ => ?_) | refine Elt.i (by omega) ?_ | refine EltN.i (by omega) ?_ | refine Nt.cast ?_ | refine Nt.mk _ rfl ?_ | refine EltN.mk _ rfl ?_ | refine Mx.mk _ rfl ?_ | refine Br.mk (fun _ => ?_) (fun _ => ?_) | refine EndP.mk ?_ trivial | refine EndP.mk ?_ ⟨.inr ⟨List.mem_cons_self .., ?_, rfl⟩, trivial⟩ | refine Ar.i64 (by omega) ?_ | refine Ar.u8 (by omega) ?_ | refine Quo.pos (by omega) ?_ | refine Rem.pos (by omega) ?_ | refine BsP.own ?_ | refine Ob.mk ⟨rfl, rfl⟩ ?_ | refine Ob.mk (flat_i _ _).1 ?_ | refine Ob.mk (flat_i _ _) ?_ | refine Ob.mk (flat_s _) ?_ | refine Ob.mk (by first | omega | (simp; first | done | fail) | (simp; omega)) ?_ | fail
      all_goals rfl
  · have f1 := headRow_implN lvl bits c r p ⟨tile, frame, x.qp⟩ h1
    refine vow_of_ev (fn := Try.f19) [] [(0, 0), (15, 26), (26, 42), (0, 0), (0, 0), (43, 44), (0, 0), (45, 53)] tt_ok Try.func19 (by decide) rfl (Nat.le_of_ble_eq_true rfl) rfl rfl rfl ?_
    repeat' (conv => whnf); first | refine CallP.rd (f1) rfl rfl rfl rfl ?_ | refine DCall.rd (f1) rfl rfl ?_ | refine Br.tt ?_ | refine Br.ff ?_ | refine Br.not ?_ | refine Br.dand (fun _ => ?_) (fun _ => ?_) | refine Br.dec (fun _ => ?_) (fun _ => ?_) | refine Br.beq (fun _ => ?_) (fun _ => ?_) | refine Br.bne (fun _ => ?_) (fun _ => ?_) | refine Br.seq (fun _ => ?_) (fun _ => ?_) | refine Elt.i (by omega) ?_ | refine EltN.i (by omega) ?_ | refine Nt.cast ?_ | refine Nt.mk _ rfl ?_ | refine EltN.mk _ rfl ?_ | refine Mx.mk _ rfl ?_ | refine Br.mk (fun _ => ?_) (fun _ => ?_) | refine EndP.mk ?_ trivial | refine EndP.mk ?_ ⟨.inr ⟨List.mem_cons_self .., ?_, rfl⟩, trivial⟩ | refine Ar.i64 (by omega) ?_ | refine Ar.u8 (by omega) ?_ | refine Quo.pos (by omega) ?_ | refine Rem.pos (by omega) ?_ | refine BsP.own ?_ | refine Ob.mk ⟨rfl, rfl⟩ ?_ | refine Ob.mk (flat_i _ _).1 ?_ | refine Ob.mk (flat_i _ _) ?_ | refine Ob.mk (flat_s _) ?_ | refine Ob.mk (by first | omega | (simp; first | done | fail) | (simp; omega)) ?_ | fail
    all_goals rfl
end Go.Proofs.Ytfcjjkfjdecakaa
