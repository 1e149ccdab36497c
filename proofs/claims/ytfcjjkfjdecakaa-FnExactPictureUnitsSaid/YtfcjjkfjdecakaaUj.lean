/- Sets as rows of signs: both sides. No condition. -/
import Derived.Test.YtfcjjkfjdecakaaTu
namespace Go.Proofs.Ytfcjjkfjdecakaa
open Go Go.Vx
set_option linter.unusedVariables false
set_option linter.unusedSimpArgs false
set_option maxHeartbeats 600000
set_option maxRecDepth 100000


def ueI (n : Int) : List UInt8 := ueS n.toNat
theorem ueI_impl {n : Int} (h : 0 ≤ n ∧ n ≤ 1000) : Vow Try.prog 136 [.i .i64 n] (.s (ueI n)) [] := by
  have := ue_impl n.toNat (by omega)
  rw [show ((n.toNat : Nat) : Int) = n by omega] at this
  exact this
theorem ueI_spec {n : Int} (h : 0 ≤ n ∧ n ≤ 1000) : Vow Try.prog 128 [.i .i64 n] (.s (ueI n)) [] := by
  have := ue_spec n.toNat (by omega)
  rw [show ((n.toNat : Nat) : Int) = n by omega] at this
  exact this
/-- A list's numbers, each counted. -/
def lsT (l : List Int) : Nat → List UInt8
  | 0 => ueI l.length
  | i + 1 => lsT l i ++ ueI (rd l i)
def lsS (l : List Int) : List UInt8 := lsT l l.length
def bS (b : Bool) : List UInt8 := if b = true then [49] else [48]
def parS (p : Par) : List UInt8 := fixS 6 p.qp.toNat ++ bS p.large ++ bS p.exact ++ bS p.confined
def seqS (lvl bits : Int) (c r : List Int) : List UInt8 := ueI lvl ++ fixS 4 bits.toNat ++ lsS c ++ lsS r

theorem ueI_len {n : Int} (h : 0 ≤ n ∧ n ≤ 1000) : (ueI n).length ≤ 41 := ueS_len (by omega)
theorem signs_ueI (n : Int) : allSigns (ueI n) := signs_fix _ _
theorem signs_nil : allSigns [] := fun j hj => by simp at hj
theorem signs_b (b : Bool) : allSigns (bS b) := fun j hj => by
  cases b
  · have : j = 0 := by simpa [bS] using hj
    subst this; exact .inl rfl
  · have : j = 0 := by simpa [bS] using hj
    subst this; exact .inr rfl
theorem signs_ls (l : List Int) : ∀ i, allSigns (lsT l i)
  | 0 => signs_ueI _
  | i + 1 => signs_app (signs_ls l i) (signs_ueI _)
theorem lsT_len {l : List Int} (h : sidesOk l) : ∀ i, i ≤ l.length → (lsT l i).length ≤ 41 * (i + 1)
  | 0, _ => by
    have := ueI_len (n := l.length) (by have := h.1; omega)
    simp only [lsT]; omega
  | i + 1, hi => by
    have ih := lsT_len h i (by omega)
    have h1 := ueI_len (n := rd l i) (by have := h.2 i (by omega); omega)
    simp only [lsT, List.length_append]
    omega
theorem seqS_row {lvl bits : Int} {c r : List Int} (h : seqOk lvl bits c r = true) (hl : 0 ≤ lvl ∧ lvl ≤ 3) : rowOk (seqS lvl bits c r) := by
  obtain ⟨⟨hc, hr⟩, hb⟩ := seqOk_sides h
  refine ⟨?_, signs_app (signs_app (signs_app (signs_ueI _) (signs_fix _ _)) (signs_ls _ _)) (signs_ls _ _)⟩
  have h1 := ueI_len (n := lvl) (by omega)
  have h2 := fixS_len 4 bits.toNat
  have h3 := lsT_len hc c.length (Nat.le_refl _)
  have h4 := lsT_len hr r.length (Nat.le_refl _)
  have h5 := hc.1
  have h6 := hr.1
  unfold seqS lsS
  simp only [List.length_append]
  omega
theorem parS_row (p : Par) : rowOk (parS p) := by
  refine ⟨?_, signs_app (signs_app (signs_app (signs_fix _ _) (signs_b _)) (signs_b _)) (signs_b _)⟩
  have h2 := fixS_len 6 p.qp.toNat
  unfold parS bS
  simp only [List.length_append]
  split <;> split <;> split <;> simp <;> omega
theorem level_fit {lvl bits : Int} {c r : List Int} (h : seqOk lvl bits c r = true) : 1 ≤ lvl ∧ lvl ≤ 3 := by
  have h1 := (seqOk_iff.1 h).1
  unfold levelSq at h1
  split at h1
  · omega
  · split at h1
    · omega
    · split at h1
      · omega
      · omega

theorem l05List_vow (l : List Int) (h : sidesOk l) : Vow Try.prog 172 [iS l] (.s (lsS l)) [] := by
  have hm : (l.map (V.i .i64)).length = l.length := by simp
  have hl := h.1
  have f0 : Vow Try.prog 128 [.i .i64 ((l.map (V.i .i64)).length : Nat)] (.s (ueI l.length)) [] := by rw [hm]; exact ueI_spec (by omega)
  have hz := lsT_len h
  refine vow_of_ev (fn := Try.f172) [] [(0, 0), (5, 8), (0, 0), (8, 11), (12, 14), (14, 21), (21, 22)] tt_ok Try.func172 (by decide) rfl (Nat.le_of_ble_eq_true rfl) rfl rfl rfl ?_
  repeat' (conv => whnf); first | refine CallP.rd (f0) rfl rfl rfl rfl ?_ | refine Br.tt ?_ | refine Br.ff ?_ | refine Br.not ?_ | refine Br.dand (fun _ => ?_) (fun _ => ?_) | refine Br.dec (fun _ => ?_) (fun _ => ?_) | refine Br.beq (fun _ => ?_) (fun _ => ?_) | refine Br.bne (fun _ => ?_) (fun _ => ?_) | refine Br.seq (fun _ => ?_) (fun _ => ?_) | refine Elt.i (by omega) ?_ | refine EltN.i (by omega) ?_ | refine Nt.cast ?_ | refine Nt.mk _ rfl ?_ | refine EltN.mk _ rfl ?_ | refine Mx.mk _ rfl ?_ | refine Br.mk (fun _ => ?_) (fun _ => ?_) | refine EndP.mk ?_ trivial | refine EndP.mk ?_ ⟨.inr ⟨List.mem_cons_self .., ?_, rfl⟩, trivial⟩ | refine Ar.i64 (by omega) ?_ | refine Ar.u8 (by omega) ?_ | refine Quo.pos (by omega) ?_ | refine Rem.pos (by omega) ?_ | refine BsP.own ?_ | refine Ob.mk ⟨rfl, rfl⟩ ?_ | refine Ob.mk (flat_i _ _).1 ?_ | refine Ob.mk (flat_i _ _) ?_ | refine Ob.mk (flat_s _) ?_ | refine Ob.mk (by first | omega | (simp; first | done | fail) | (simp; omega)) ?_ | fail
  · conv => whnf
    refine LoopP.mk [0,2,3,4] (fun i : Nat => [(0, iS l), (2, .s []), (3, .s (lsT l i)), (4, .i .i64 i)]) (fun i => l.length - i) (fun i => i ≤ l.length) ?_ ?_
    · conv => whnf
      exact ⟨0, by omega, rfl⟩
    · intro i hi
      have hzi := hz i hi
      by_cases hlt : i < l.length
      · have hx := h.2 i hlt
        have hu := ueI_len (n := rd l i) (by omega)
        repeat' (conv => whnf); first | refine CallP.rd (ueI_spec (n := rd l i) (by omega)) rfl rfl rfl rfl ?_ | refine DCall.rd (ueI_spec (n := rd l i) (by omega)) rfl rfl ?_ | refine Br.tt ?_ | refine Br.ff ?_ | refine Br.not ?_ | refine Br.dand (fun _ => ?_) (fun _ => ?_) | refine Br.dec (fun _ => ?_) (fun _ => ?_) | refine Br.beq (fun _ => ?_) (fun _ => ?_) | refine Br.bne (fun _ => ?_) (fun _ => ?_) | refine Br.seq (fun _ => ?_) (fun _ => ?_) | refine Elt.i (by omega) ?_ | refine EltN.i (by omega) ?_ | refine Nt.cast ?_ | refine Nt.mk _ rfl ?_ | refine EltN.mk _ rfl ?_ | refine Mx.mk _ rfl ?_ | refine Br.mk (fun _ => ?_) (fun _ => ?_) | refine EndP.mk ?_ trivial | refine EndP.mk ?_ ⟨.inr ⟨List.mem_cons_self .., ?_, rfl⟩, trivial⟩ | refine Ar.i64 (by omega) ?_ | refine Ar.u8 (by omega) ?_ | refine Quo.pos (by omega) ?_ | refine Rem.pos (by omega) ?_ | refine BsP.own ?_ | refine Ob.mk ⟨rfl, rfl⟩ ?_ | refine Ob.mk (flat_i _ _).1 ?_ | refine Ob.mk (flat_i _ _) ?_ | refine Ob.mk (flat_s _) ?_ | refine Ob.mk (by first | omega | (simp; first | done | fail) | (simp; omega)) ?_ | fail
        all_goals first
          | (exfalso; omega)
          | (conv => whnf
             exact ⟨i + 1, by omega, by omega, rfl⟩)
      · obtain rfl : i = l.length := by omega
        repeat' (conv => whnf); first | refine Br.tt ?_ | refine Br.ff ?_ | refine Br.not ?_ | refine Br.dand (fun _ => ?_) (fun _ => ?_) | refine Br.dec (fun _ => ?_) (fun _ => ?_) | refine Br.beq (fun _ => ?_) (fun _ => ?_) | refine Br.bne (fun _ => ?_) (fun _ => ?_) | refine Br.seq (fun _ => ?_) (fun _ => ?_) | refine Elt.i (by omega) ?_ | refine EltN.i (by omega) ?_ | refine Nt.cast ?_ | refine Nt.mk _ rfl ?_ | refine EltN.mk _ rfl ?_ | refine Mx.mk _ rfl ?_ | refine Br.mk (fun _ => ?_) (fun _ => ?_) | refine EndP.mk ?_ trivial | refine EndP.mk ?_ ⟨.inr ⟨List.mem_cons_self .., ?_, rfl⟩, trivial⟩ | refine Ar.i64 (by omega) ?_ | refine Ar.u8 (by omega) ?_ | refine Quo.pos (by omega) ?_ | refine Rem.pos (by omega) ?_ | refine BsP.own ?_ | refine Ob.mk ⟨rfl, rfl⟩ ?_ | refine Ob.mk (flat_i _ _).1 ?_ | refine Ob.mk (flat_i _ _) ?_ | refine Ob.mk (flat_s _) ?_ | refine Ob.mk (by first | omega | (simp; first | done | fail) | (simp; omega)) ?_ | fail
        all_goals first
          | (exfalso; omega)
          | rfl
theorem l05Seq_vow (lvl bits : Int) (c r : List Int) (h : seqOk lvl bits c r = true) : Vow Try.prog 158 [seqV lvl bits c r] (.s (seqS lvl bits c r)) [] := by
  obtain ⟨⟨hc, hr⟩, hb⟩ := seqOk_sides h
  have hl := level_fit h
  have f1 := ueI_spec (n := lvl) (by omega)
  have f2 : Vow Try.prog 129 [.i .i64 bits, .i .i64 4] (.s (fixS 4 bits.toNat)) [] := by
    have := fix_spec bits.toNat 4 (by omega) (by omega)
    rwa [show ((bits.toNat : Nat) : Int) = bits by omega] at this
  have f3 := l05List_vow c hc
  have f4 := l05List_vow r hr
  have h1 := ueI_len (n := lvl) (by omega)
  have h2 := fixS_len 4 bits.toNat
  have h3 := lsT_len hc c.length (Nat.le_refl _)
  have h4 := lsT_len hr r.length (Nat.le_refl _)
  have h5 := hc.1
  have h6 := hr.1
  have k3 : (lsS c).length = (lsT c c.length).length := rfl
  have k4 : (lsS r).length = (lsT r r.length).length := rfl
  refine vow_of_ev (fn := Try.f158) [] [(0, 0), (3, 18)] tt_ok Try.func158 (by decide) rfl (Nat.le_of_ble_eq_true rfl) rfl rfl rfl ?_
  repeat' (conv => whnf); first | refine CallP.rd (f1) rfl rfl rfl rfl ?_ | refine DCall.rd (f1) rfl rfl ?_ | refine CallP.rd (f2) rfl rfl rfl rfl ?_ | refine DCall.rd (f2) rfl rfl ?_ | refine CallP.re (f3) (by first | with_reducible rfl | (simp only [imm_i, imm_s, imm_b, iO, iS, seqV, seqO, parV]; first | done | fail)) rfl rfl rfl (by first | rfl | exact own_i _ _ | exact own_s _ | exact own_b _ | (simp [V.noSl, V.noSl.go, own_i, own_s, own_b, iO, iS, seqV, seqO, parV]; first | done | fail)) ?_ | refine DCall.re (f3) (by first | with_reducible rfl | (simp only [imm_i, imm_s, imm_b, iO, iS, seqV, seqO, parV]; first | done | fail)) rfl (by first | rfl | exact own_i _ _ | exact own_s _ | exact own_b _ | (simp [V.noSl, V.noSl.go, own_i, own_s, own_b, iO, iS, seqV, seqO, parV]; first | done | fail)) ?_ | refine CallP.re (f4) (by first | with_reducible rfl | (simp only [imm_i, imm_s, imm_b, iO, iS, seqV, seqO, parV]; first | done | fail)) rfl rfl rfl (by first | rfl | exact own_i _ _ | exact own_s _ | exact own_b _ | (simp [V.noSl, V.noSl.go, own_i, own_s, own_b, iO, iS, seqV, seqO, parV]; first | done | fail)) ?_ | refine DCall.re (f4) (by first | with_reducible rfl | (simp only [imm_i, imm_s, imm_b, iO, iS, seqV, seqO, parV]; first | done | fail)) rfl (by first | rfl | exact own_i _ _ | exact own_s _ | exact own_b _ | (simp [V.noSl, V.noSl.go, own_i, own_s, own_b, iO, iS, seqV, seqO, parV]; first | done | fail)) ?_ | refine Br.tt ?_ | refine Br.ff ?_ | refine Br.not ?_ | refine Br.dand (fun _ => ?_) (fun _ => ?_) | refine Br.dec (fun _ => ?_) (fun _ => ?_) | refine Br.beq (fun _ => ?_) (fun _ => ?_) | refine Br.bne (fun _ => ?_) (fun _ => ?_) | refine Br.seq (fun _ => ?_) (fun _ => ?_) | refine Elt.i (by omega) ?_ | refine EltN.i (by omega) ?_ | refine Nt.cast ?_ | refine Nt.mk _ rfl ?_ | refine EltN.mk _ rfl ?_ | refine Mx.mk _ rfl ?_ | refine Br.mk (fun _ => ?_) (fun _ => ?_) | refine EndP.mk ?_ trivial | refine EndP.mk ?_ ⟨.inr ⟨List.mem_cons_self .., ?_, rfl⟩, trivial⟩ | refine Ar.i64 (by omega) ?_ | refine Ar.u8 (by omega) ?_ | refine Quo.pos (by omega) ?_ | refine Rem.pos (by omega) ?_ | refine BsP.own ?_ | refine Ob.mk ⟨rfl, rfl⟩ ?_ | refine Ob.mk (flat_i _ _).1 ?_ | refine Ob.mk (flat_i _ _) ?_ | refine Ob.mk (flat_s _) ?_ | refine Ob.mk (by first | omega | (simp; first | done | fail) | (simp; omega)) ?_ | fail
  all_goals rfl
theorem l05Flag_vow (b : Bool) : Vow Try.prog 173 [.b b] (.s (bS b)) [] := by
  refine vow_of_ev (fn := Try.f173) [] [(0, 0), (0, 0), (0, 0), (0, 0)] tt_ok Try.func173 (by decide) rfl (Nat.le_of_ble_eq_true rfl) rfl rfl rfl ?_
  cases b
  all_goals (repeat' (conv => whnf); first | refine Br.tt ?_ | refine Br.ff ?_ | refine Br.not ?_ | refine Br.dand (fun _ => ?_) (fun _ => ?_) | refine Br.dec (fun _ => ?_) (fun _ => ?_) | refine Br.beq (fun _ => ?_) (fun _ => ?_) | refine Br.bne (fun _ => ?_) (fun _ => ?_) | refine Br.seq (fun _ => ?_) (fun _ => ?_) | refine Elt.i (by omega) ?_ | refine EltN.i (by omega) ?_ | refine Nt.cast ?_ | refine Nt.mk _ rfl ?_ | refine EltN.mk _ rfl ?_ | refine Mx.mk _ rfl ?_ | refine Br.mk (fun _ => ?_) (fun _ => ?_) | refine EndP.mk ?_ trivial | refine EndP.mk ?_ ⟨.inr ⟨List.mem_cons_self .., ?_, rfl⟩, trivial⟩ | refine Ar.i64 (by omega) ?_ | refine Ar.u8 (by omega) ?_ | refine Quo.pos (by omega) ?_ | refine Rem.pos (by omega) ?_ | refine BsP.own ?_ | refine Ob.mk ⟨rfl, rfl⟩ ?_ | refine Ob.mk (flat_i _ _).1 ?_ | refine Ob.mk (flat_i _ _) ?_ | refine Ob.mk (flat_s _) ?_ | refine Ob.mk (by first | omega | (simp; first | done | fail) | (simp; omega)) ?_ | fail)
  all_goals rfl
theorem sign_vow (b : Bool) : Vow Try.prog 160 [.b b] (.s (bS b)) [] := by
  refine vow_of_ev (fn := Try.f160) [] [(0, 0), (0, 0), (0, 0), (0, 0)] tt_ok Try.func160 (by decide) rfl (Nat.le_of_ble_eq_true rfl) rfl rfl rfl ?_
  cases b
  all_goals (repeat' (conv => whnf); first | refine Br.tt ?_ | refine Br.ff ?_ | refine Br.not ?_ | refine Br.dand (fun _ => ?_) (fun _ => ?_) | refine Br.dec (fun _ => ?_) (fun _ => ?_) | refine Br.beq (fun _ => ?_) (fun _ => ?_) | refine Br.bne (fun _ => ?_) (fun _ => ?_) | refine Br.seq (fun _ => ?_) (fun _ => ?_) | refine Elt.i (by omega) ?_ | refine EltN.i (by omega) ?_ | refine Nt.cast ?_ | refine Nt.mk _ rfl ?_ | refine EltN.mk _ rfl ?_ | refine Mx.mk _ rfl ?_ | refine Br.mk (fun _ => ?_) (fun _ => ?_) | refine EndP.mk ?_ trivial | refine EndP.mk ?_ ⟨.inr ⟨List.mem_cons_self .., ?_, rfl⟩, trivial⟩ | refine Ar.i64 (by omega) ?_ | refine Ar.u8 (by omega) ?_ | refine Quo.pos (by omega) ?_ | refine Rem.pos (by omega) ?_ | refine BsP.own ?_ | refine Ob.mk ⟨rfl, rfl⟩ ?_ | refine Ob.mk (flat_i _ _).1 ?_ | refine Ob.mk (flat_i _ _) ?_ | refine Ob.mk (flat_s _) ?_ | refine Ob.mk (by first | omega | (simp; first | done | fail) | (simp; omega)) ?_ | fail)
  all_goals rfl
theorem bS_len (b : Bool) : (bS b).length = 1 := by cases b <;> rfl
theorem l05Par_vow (p : Par) (h : parOk p) : Vow Try.prog 159 [parV p] (.s (parS p)) [] := by
  have hq : 0 ≤ p.qp ∧ p.qp ≤ 40 := h.1
  have f2 : Vow Try.prog 129 [.i .i64 p.qp, .i .i64 6] (.s (fixS 6 p.qp.toNat)) [] := by
    have := fix_spec p.qp.toNat 6 (by omega) (by omega)
    rwa [show ((p.qp.toNat : Nat) : Int) = p.qp by omega] at this
  have h2 := fixS_len 6 p.qp.toNat
  have b1 := bS_len p.large
  have b2 := bS_len p.exact
  have b3 := bS_len p.confined
  refine vow_of_ev (fn := Try.f159) [] [(0, 0), (3, 18)] tt_ok Try.func159 (by decide) rfl (Nat.le_of_ble_eq_true rfl) rfl rfl rfl ?_
  repeat' (conv => whnf); first | refine CallP.rd (f2) rfl rfl rfl rfl ?_ | refine DCall.rd (f2) rfl rfl ?_ | refine CallP.rd (l05Flag_vow p.large) rfl rfl rfl rfl ?_ | refine DCall.rd (l05Flag_vow p.large) rfl rfl ?_ | refine CallP.rd (l05Flag_vow p.exact) rfl rfl rfl rfl ?_ | refine DCall.rd (l05Flag_vow p.exact) rfl rfl ?_ | refine CallP.rd (l05Flag_vow p.confined) rfl rfl rfl rfl ?_ | refine DCall.rd (l05Flag_vow p.confined) rfl rfl ?_ | refine Br.tt ?_ | refine Br.ff ?_ | refine Br.not ?_ | refine Br.dand (fun _ => ?_) (fun _ => ?_) | refine Br.dec (fun _ => ?_) (fun _ => ?_) | refine Br.beq (fun _ => ?_) (fun _ => ?_) | refine Br.bne (fun _ => ?_) (fun _ => ?_) | refine Br.seq (fun _ => ?_) (fun _ => ?_) | refine Elt.i (by omega) ?_ | refine EltN.i (by omega) ?_ | refine Nt.cast ?_ | refine Nt.mk _ rfl ?_ | refine EltN.mk _ rfl ?_ | refine Mx.mk _ rfl ?_ | refine Br.mk (fun _ => ?_) (fun _ => ?_) | refine EndP.mk ?_ trivial | refine EndP.mk ?_ ⟨.inr ⟨List.mem_cons_self .., ?_, rfl⟩, trivial⟩ | refine Ar.i64 (by omega) ?_ | refine Ar.u8 (by omega) ?_ | refine Quo.pos (by omega) ?_ | refine Rem.pos (by omega) ?_ | refine BsP.own ?_ | refine Ob.mk ⟨rfl, rfl⟩ ?_ | refine Ob.mk (flat_i _ _).1 ?_ | refine Ob.mk (flat_i _ _) ?_ | refine Ob.mk (flat_s _) ?_ | refine Ob.mk (by first | omega | (simp; first | done | fail) | (simp; omega)) ?_ | fail
  all_goals rfl
theorem parRow_impl (p : Par) (h : parOk p) : Vow Try.prog 124 [parV p] (.tp [.s (parS p), .b true]) [] := by
  have hq : 0 ≤ p.qp ∧ p.qp ≤ 40 := h.1
  have f1 := parOk_impl p
  rw [decide_eq_true h] at f1
  have f2 : Vow Try.prog 137 [.i .i64 p.qp, .i .i64 6] (.s (fixS 6 p.qp.toNat)) [] := by
    have := fix_impl p.qp.toNat 6 (by omega) (by omega)
    rwa [show ((p.qp.toNat : Nat) : Int) = p.qp by omega] at this
  have h2 := fixS_len 6 p.qp.toNat
  have b1 := bS_len p.large
  have b2 := bS_len p.exact
  have b3 := bS_len p.confined
  refine vow_of_ev (fn := Try.f124) [] [(0, 0), (4, 6), (0, 0), (7, 22)] tt_ok Try.func124 (by decide) rfl (Nat.le_of_ble_eq_true rfl) rfl rfl rfl ?_
  repeat' (conv => whnf); first | refine CallP.rd (f1) rfl rfl rfl rfl ?_ | refine DCall.rd (f1) rfl rfl ?_ | refine CallP.rd (f2) rfl rfl rfl rfl ?_ | refine DCall.rd (f2) rfl rfl ?_ | refine CallP.rd (sign_vow p.large) rfl rfl rfl rfl ?_ | refine DCall.rd (sign_vow p.large) rfl rfl ?_ | refine CallP.rd (sign_vow p.exact) rfl rfl rfl rfl ?_ | refine DCall.rd (sign_vow p.exact) rfl rfl ?_ | refine CallP.rd (sign_vow p.confined) rfl rfl rfl rfl ?_ | refine DCall.rd (sign_vow p.confined) rfl rfl ?_ | refine Br.tt ?_ | refine Br.ff ?_ | refine Br.not ?_ | refine Br.dand (fun _ => ?_) (fun _ => ?_) | refine Br.dec (fun _ => ?_) (fun _ => ?_) | refine Br.beq (fun _ => ?_) (fun _ => ?_) | refine Br.bne (fun _ => ?_) (fun _ => ?_) | refine Br.seq (fun _ => ?_) (fun _ => ?_) | refine Elt.i (by omega) ?_ | refine EltN.i (by omega) ?_ | refine Nt.cast ?_ | refine Nt.mk _ rfl ?_ | refine EltN.mk _ rfl ?_ | refine Mx.mk _ rfl ?_ | refine Br.mk (fun _ => ?_) (fun _ => ?_) | refine EndP.mk ?_ trivial | refine EndP.mk ?_ ⟨.inr ⟨List.mem_cons_self .., ?_, rfl⟩, trivial⟩ | refine Ar.i64 (by omega) ?_ | refine Ar.u8 (by omega) ?_ | refine Quo.pos (by omega) ?_ | refine Rem.pos (by omega) ?_ | refine BsP.own ?_ | refine Ob.mk ⟨rfl, rfl⟩ ?_ | refine Ob.mk (flat_i _ _).1 ?_ | refine Ob.mk (flat_i _ _) ?_ | refine Ob.mk (flat_s _) ?_ | refine Ob.mk (by first | omega | (simp; first | done | fail) | (simp; omega)) ?_ | fail
  all_goals rfl

set_option maxHeartbeats 6000000 in
theorem seqRow_impl (lvl bits : Int) (c r : List Int) (h : seqOk lvl bits c r = true) : Vow Try.prog 123 [seqV lvl bits c r] (.tp [.s (seqS lvl bits c r), .b true]) [] := by
  obtain ⟨⟨hc, hr⟩, hb⟩ := seqOk_sides h
  have hl := level_fit h
  have f0 := seqOk_impl lvl bits c r
  rw [h] at f0
  have f1 := ueI_impl (n := lvl) (by omega)
  have f2 : Vow Try.prog 137 [.i .i64 bits, .i .i64 4] (.s (fixS 4 bits.toNat)) [] := by
    have := fix_impl bits.toNat 4 (by omega) (by omega)
    rwa [show ((bits.toNat : Nat) : Int) = bits by omega] at this
  have h1 := ueI_len (n := lvl) (by omega)
  have h2 := fixS_len 4 bits.toNat
  have h3 := lsT_len hc
  have h4 := lsT_len hr
  have h5 := hc.1
  have h6 := hr.1
  have lc : (c.map (V.i .i64)).length = c.length := by simp
  have lr : (r.map (V.i .i64)).length = r.length := by simp
  have g1 : Vow Try.prog 136 [.i .i64 ((c.map (V.i .i64)).length : Nat)] (.s (ueI c.length)) [] := by rw [lc]; exact ueI_impl (by omega)
  have g2 : Vow Try.prog 136 [.i .i64 ((r.map (V.i .i64)).length : Nat)] (.s (ueI r.length)) [] := by rw [lr]; exact ueI_impl (by omega)
  have q1 := ueI_len (n := c.length) (by omega)
  have q2 := ueI_len (n := r.length) (by omega)
  have h3n := h3 c.length (Nat.le_refl _)
  have k3 : (lsS c).length = (lsT c c.length).length := rfl
  refine vow_of_ev (fn := Try.f123) [] [(0, 0), (9, 11), (0, 0), (12, 19), (19, 23), (0, 0), (27, 29), (29, 34), (0, 0), (0, 0), (38, 40), (40, 44), (44, 45), (45, 46), (46, 47)] tt_ok Try.func123 (by decide) rfl (Nat.le_of_ble_eq_true rfl) rfl rfl rfl ?_
  repeat' (conv => whnf); first | refine CallP.rd (f0) rfl rfl rfl rfl ?_ | refine DCall.rd (f0) rfl rfl ?_ | refine CallP.rd (f1) rfl rfl rfl rfl ?_ | refine DCall.rd (f1) rfl rfl ?_ | refine CallP.rd (f2) rfl rfl rfl rfl ?_ | refine DCall.rd (f2) rfl rfl ?_ | refine Br.tt ?_ | refine Br.ff ?_ | refine Br.not ?_ | refine Br.dand (fun _ => ?_) (fun _ => ?_) | refine Br.dec (fun _ => ?_) (fun _ => ?_) | refine Br.beq (fun _ => ?_) (fun _ => ?_) | refine Br.bne (fun _ => ?_) (fun _ => ?_) | refine Br.seq (fun _ => ?_) (fun _ => ?_) | refine Elt.i (by omega) ?_ | refine EltN.i (by omega) ?_ | refine Nt.cast ?_ | refine Nt.mk _ rfl ?_ | refine EltN.mk _ rfl ?_ | refine Mx.mk _ rfl ?_ | refine Br.mk (fun _ => ?_) (fun _ => ?_) | refine EndP.mk ?_ trivial | refine EndP.mk ?_ ⟨.inr ⟨List.mem_cons_self .., ?_, rfl⟩, trivial⟩ | refine Ar.i64 (by omega) ?_ | refine Ar.u8 (by omega) ?_ | refine Quo.pos (by omega) ?_ | refine Rem.pos (by omega) ?_ | refine BsP.own ?_ | refine Ob.mk ⟨rfl, rfl⟩ ?_ | refine Ob.mk (flat_i _ _).1 ?_ | refine Ob.mk (flat_i _ _) ?_ | refine Ob.mk (flat_s _) ?_ | refine Ob.mk (by first | omega | (simp; first | done | fail) | (simp; omega)) ?_ | fail
  conv => whnf
  refine LoopP.mk [2,3,4,23,24,25] (fun k : Nat => [(2, .s []), (3, .b false), (4, .s (if k = 0 then ueI lvl ++ fixS 4 bits.toNat else if k = 1 then ueI lvl ++ fixS 4 bits.toNat ++ lsS c else seqS lvl bits c r)), (23, .ow 1 [iS c, iS r]), (24, .i .i64 2), (25, .i .i64 k)]) (fun k => 2 - k) (fun k => k ≤ 2) ?_ ?_
  · conv => whnf
    exact ⟨0, by omega, rfl⟩
  · intro k hk
    obtain rfl | rfl | rfl : k = 0 ∨ k = 1 ∨ k = 2 := by omega
    · rw [if_pos rfl]
      repeat' (conv => whnf); first | refine CallP.rd (g1) rfl rfl rfl rfl ?_ | refine DCall.rd (g1) rfl rfl ?_ | refine Br.tt ?_ | refine Br.ff ?_ | refine Br.not ?_ | refine Br.dand (fun _ => ?_) (fun _ => ?_) | refine Br.dec (fun _ => ?_) (fun _ => ?_) | refine Br.beq (fun _ => ?_) (fun _ => ?_) | refine Br.bne (fun _ => ?_) (fun _ => ?_) | refine Br.seq (fun _ => ?_) (fun _ => ?_) | refine Elt.i (by omega) ?_ | refine EltN.i (by omega) ?_ | refine Nt.cast ?_ | refine Nt.mk _ rfl ?_ | refine EltN.mk _ rfl ?_ | refine Mx.mk _ rfl ?_ | refine Br.mk (fun _ => ?_) (fun _ => ?_) | refine EndP.mk ?_ trivial | refine EndP.mk ?_ ⟨.inr ⟨List.mem_cons_self .., ?_, rfl⟩, trivial⟩ | refine Ar.i64 (by omega) ?_ | refine Ar.u8 (by omega) ?_ | refine Quo.pos (by omega) ?_ | refine Rem.pos (by omega) ?_ | refine BsP.own ?_ | refine Ob.mk ⟨rfl, rfl⟩ ?_ | refine Ob.mk (flat_i _ _).1 ?_ | refine Ob.mk (flat_i _ _) ?_ | refine Ob.mk (flat_s _) ?_ | refine Ob.mk (by first | omega | (simp; first | done | fail) | (simp; omega)) ?_ | fail
      conv => whnf
      refine LoopP.mk [2,3,4,23,24,25,34,35,36] (fun i : Nat => [(2, .s []), (3, .b false), (4, .s (ueI lvl ++ fixS 4 bits.toNat ++ lsT c i)), (23, .ow 1 [iS c, iS r]), (24, .i .i64 2), (25, .i .i64 0), (34, iS c), (35, .i .i64 c.length), (36, .i .i64 i)]) (fun i => c.length - i) (fun i => i ≤ c.length) ?_ ?_
      · conv => whnf
        exact ⟨0, by omega, by rw [lc]; rfl⟩
      · intro i hi
        have h3i := h3 i hi
        by_cases hlt : i < c.length
        · have hx := hc.2 i hlt
          have hu := ueI_len (n := rd c i) (by omega)
          repeat' (conv => whnf); first | refine CallP.rd (ueI_impl (n := rd c i) (by omega)) rfl rfl rfl rfl ?_ | refine DCall.rd (ueI_impl (n := rd c i) (by omega)) rfl rfl ?_ | refine Br.tt ?_ | refine Br.ff ?_ | refine Br.not ?_ | refine Br.dand (fun _ => ?_) (fun _ => ?_) | refine Br.dec (fun _ => ?_) (fun _ => ?_) | refine Br.beq (fun _ => ?_) (fun _ => ?_) | refine Br.bne (fun _ => ?_) (fun _ => ?_) | refine Br.seq (fun _ => ?_) (fun _ => ?_) | refine Elt.i (by omega) ?_ | refine EltN.i (by omega) ?_ | refine Nt.cast ?_ | refine Nt.mk _ rfl ?_ | refine EltN.mk _ rfl ?_ | refine Mx.mk _ rfl ?_ | refine Br.mk (fun _ => ?_) (fun _ => ?_) | refine EndP.mk ?_ trivial | refine EndP.mk ?_ ⟨.inr ⟨List.mem_cons_self .., ?_, rfl⟩, trivial⟩ | refine Ar.i64 (by omega) ?_ | refine Ar.u8 (by omega) ?_ | refine Quo.pos (by omega) ?_ | refine Rem.pos (by omega) ?_ | refine BsP.own ?_ | refine Ob.mk ⟨rfl, rfl⟩ ?_ | refine Ob.mk (flat_i _ _).1 ?_ | refine Ob.mk (flat_i _ _) ?_ | refine Ob.mk (flat_s _) ?_ | refine Ob.mk (by first | omega | (simp; first | done | fail) | (simp; omega)) ?_ | fail
          all_goals first
            | (exfalso; omega)
            | (conv => whnf
               refine ⟨i + 1, by omega, by omega, ?_⟩
               rw [show ueI lvl ++ fixS 4 bits.toNat ++ lsT c (i + 1) = ueI lvl ++ fixS 4 bits.toNat ++ lsT c i ++ ueI (rd c i) by simp only [lsT, List.append_assoc]]
               rfl)
        · obtain rfl : i = c.length := by omega
          repeat' (conv => whnf); first | refine Br.tt ?_ | refine Br.ff ?_ | refine Br.not ?_ | refine Br.dand (fun _ => ?_) (fun _ => ?_) | refine Br.dec (fun _ => ?_) (fun _ => ?_) | refine Br.beq (fun _ => ?_) (fun _ => ?_) | refine Br.bne (fun _ => ?_) (fun _ => ?_) | refine Br.seq (fun _ => ?_) (fun _ => ?_) | refine Elt.i (by omega) ?_ | refine EltN.i (by omega) ?_ | refine Nt.cast ?_ | refine Nt.mk _ rfl ?_ | refine EltN.mk _ rfl ?_ | refine Mx.mk _ rfl ?_ | refine Br.mk (fun _ => ?_) (fun _ => ?_) | refine EndP.mk ?_ trivial | refine EndP.mk ?_ ⟨.inr ⟨List.mem_cons_self .., ?_, rfl⟩, trivial⟩ | refine Ar.i64 (by omega) ?_ | refine Ar.u8 (by omega) ?_ | refine Quo.pos (by omega) ?_ | refine Rem.pos (by omega) ?_ | refine BsP.own ?_ | refine Ob.mk ⟨rfl, rfl⟩ ?_ | refine Ob.mk (flat_i _ _).1 ?_ | refine Ob.mk (flat_i _ _) ?_ | refine Ob.mk (flat_s _) ?_ | refine Ob.mk (by first | omega | (simp; first | done | fail) | (simp; omega)) ?_ | fail
          all_goals first
            | (exfalso; omega)
            | (conv => whnf
               exact ⟨1, by omega, by omega, rfl⟩)
    · rw [if_neg (by omega), if_pos rfl]
      repeat' (conv => whnf); first | refine CallP.rd (g2) rfl rfl rfl rfl ?_ | refine DCall.rd (g2) rfl rfl ?_ | refine Br.tt ?_ | refine Br.ff ?_ | refine Br.not ?_ | refine Br.dand (fun _ => ?_) (fun _ => ?_) | refine Br.dec (fun _ => ?_) (fun _ => ?_) | refine Br.beq (fun _ => ?_) (fun _ => ?_) | refine Br.bne (fun _ => ?_) (fun _ => ?_) | refine Br.seq (fun _ => ?_) (fun _ => ?_) | refine Elt.i (by omega) ?_ | refine EltN.i (by omega) ?_ | refine Nt.cast ?_ | refine Nt.mk _ rfl ?_ | refine EltN.mk _ rfl ?_ | refine Mx.mk _ rfl ?_ | refine Br.mk (fun _ => ?_) (fun _ => ?_) | refine EndP.mk ?_ trivial | refine EndP.mk ?_ ⟨.inr ⟨List.mem_cons_self .., ?_, rfl⟩, trivial⟩ | refine Ar.i64 (by omega) ?_ | refine Ar.u8 (by omega) ?_ | refine Quo.pos (by omega) ?_ | refine Rem.pos (by omega) ?_ | refine BsP.own ?_ | refine Ob.mk ⟨rfl, rfl⟩ ?_ | refine Ob.mk (flat_i _ _).1 ?_ | refine Ob.mk (flat_i _ _) ?_ | refine Ob.mk (flat_s _) ?_ | refine Ob.mk (by first | omega | (simp; first | done | fail) | (simp; omega)) ?_ | fail
      conv => whnf
      refine LoopP.mk [2,3,4,23,24,25,34,35,36] (fun i : Nat => [(2, .s []), (3, .b false), (4, .s (ueI lvl ++ fixS 4 bits.toNat ++ lsS c ++ lsT r i)), (23, .ow 1 [iS c, iS r]), (24, .i .i64 2), (25, .i .i64 1), (34, iS r), (35, .i .i64 r.length), (36, .i .i64 i)]) (fun i => r.length - i) (fun i => i ≤ r.length) ?_ ?_
      · conv => whnf
        exact ⟨0, by omega, by rw [lr]; rfl⟩
      · intro i hi
        have h4i := h4 i hi
        by_cases hlt : i < r.length
        · have hx := hr.2 i hlt
          have hu := ueI_len (n := rd r i) (by omega)
          repeat' (conv => whnf); first | refine CallP.rd (ueI_impl (n := rd r i) (by omega)) rfl rfl rfl rfl ?_ | refine DCall.rd (ueI_impl (n := rd r i) (by omega)) rfl rfl ?_ | refine Br.tt ?_ | refine Br.ff ?_ | refine Br.not ?_ | refine Br.dand (fun _ => ?_) (fun _ => ?_) | refine Br.dec (fun _ => ?_) (fun _ => ?_) | refine Br.beq (fun _ => ?_) (fun _ => ?_) | refine Br.bne (fun _ => ?_) (fun _ => ?_) | refine Br.seq (fun _ => ?_) (fun _ => ?_) | refine Elt.i (by omega) ?_ | refine EltN.i (by omega) ?_ | refine Nt.cast ?_ | refine Nt.mk _ rfl ?_ | refine EltN.mk _ rfl ?_ | refine Mx.mk _ rfl ?_ | refine Br.mk (fun _ => ?_) (fun _ => ?_) | refine EndP.mk ?_ trivial | refine EndP.mk ?_ ⟨.inr ⟨List.mem_cons_self .., ?_, rfl⟩, trivial⟩ | refine Ar.i64 (by omega) ?_ | refine Ar.u8 (by omega) ?_ | refine Quo.pos (by omega) ?_ | refine Rem.pos (by omega) ?_ | refine BsP.own ?_ | refine Ob.mk ⟨rfl, rfl⟩ ?_ | refine Ob.mk (flat_i _ _).1 ?_ | refine Ob.mk (flat_i _ _) ?_ | refine Ob.mk (flat_s _) ?_ | refine Ob.mk (by first | omega | (simp; first | done | fail) | (simp; omega)) ?_ | fail
          all_goals first
            | (exfalso; omega)
            | (conv => whnf
               refine ⟨i + 1, by omega, by omega, ?_⟩
               rw [show ueI lvl ++ fixS 4 bits.toNat ++ lsS c ++ lsT r (i + 1) = ueI lvl ++ fixS 4 bits.toNat ++ lsS c ++ lsT r i ++ ueI (rd r i) by simp only [lsT, List.append_assoc]]
               rfl)
        · obtain rfl : i = r.length := by omega
          repeat' (conv => whnf); first | refine Br.tt ?_ | refine Br.ff ?_ | refine Br.not ?_ | refine Br.dand (fun _ => ?_) (fun _ => ?_) | refine Br.dec (fun _ => ?_) (fun _ => ?_) | refine Br.beq (fun _ => ?_) (fun _ => ?_) | refine Br.bne (fun _ => ?_) (fun _ => ?_) | refine Br.seq (fun _ => ?_) (fun _ => ?_) | refine Elt.i (by omega) ?_ | refine EltN.i (by omega) ?_ | refine Nt.cast ?_ | refine Nt.mk _ rfl ?_ | refine EltN.mk _ rfl ?_ | refine Mx.mk _ rfl ?_ | refine Br.mk (fun _ => ?_) (fun _ => ?_) | refine EndP.mk ?_ trivial | refine EndP.mk ?_ ⟨.inr ⟨List.mem_cons_self .., ?_, rfl⟩, trivial⟩ | refine Ar.i64 (by omega) ?_ | refine Ar.u8 (by omega) ?_ | refine Quo.pos (by omega) ?_ | refine Rem.pos (by omega) ?_ | refine BsP.own ?_ | refine Ob.mk ⟨rfl, rfl⟩ ?_ | refine Ob.mk (flat_i _ _).1 ?_ | refine Ob.mk (flat_i _ _) ?_ | refine Ob.mk (flat_s _) ?_ | refine Ob.mk (by first | omega | (simp; first | done | fail) | (simp; omega)) ?_ | fail
          all_goals first
            | (exfalso; omega)
            | (conv => whnf
               exact ⟨2, by omega, by omega, rfl⟩)
    · rw [if_neg (by omega), if_neg (by omega)]
      repeat' (conv => whnf); first | refine Br.tt ?_ | refine Br.ff ?_ | refine Br.not ?_ | refine Br.dand (fun _ => ?_) (fun _ => ?_) | refine Br.dec (fun _ => ?_) (fun _ => ?_) | refine Br.beq (fun _ => ?_) (fun _ => ?_) | refine Br.bne (fun _ => ?_) (fun _ => ?_) | refine Br.seq (fun _ => ?_) (fun _ => ?_) | refine Elt.i (by omega) ?_ | refine EltN.i (by omega) ?_ | refine Nt.cast ?_ | refine Nt.mk _ rfl ?_ | refine EltN.mk _ rfl ?_ | refine Mx.mk _ rfl ?_ | refine Br.mk (fun _ => ?_) (fun _ => ?_) | refine EndP.mk ?_ trivial | refine EndP.mk ?_ ⟨.inr ⟨List.mem_cons_self .., ?_, rfl⟩, trivial⟩ | refine Ar.i64 (by omega) ?_ | refine Ar.u8 (by omega) ?_ | refine Quo.pos (by omega) ?_ | refine Rem.pos (by omega) ?_ | refine BsP.own ?_ | refine Ob.mk ⟨rfl, rfl⟩ ?_ | refine Ob.mk (flat_i _ _).1 ?_ | refine Ob.mk (flat_i _ _) ?_ | refine Ob.mk (flat_s _) ?_ | refine Ob.mk (by first | omega | (simp; first | done | fail) | (simp; omega)) ?_ | fail
      all_goals first
        | (exfalso; omega)
        | rfl
end Go.Proofs.Ytfcjjkfjdecakaa
