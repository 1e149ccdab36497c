/- Rows of parts and of texts in the laws. No condition. -/
import Derived.Test.YtfcjjkfjdecakaaTo
import Derived.Test.YtfcjjkfjdecakaaSo
namespace Go.Proofs.Ytfcjjkfjdecakaa
open Go Go.Vx
set_option linter.unusedVariables false
set_option linter.unusedSimpArgs false
set_option maxHeartbeats 600000
set_option maxRecDepth 100000

/-! A mark as text. -/
def mtext (k : Int) : List UInt8 := 109 :: (if k ≤ 0 then [48] else digitsN k.toNat [])
theorem markText_vow (k : Int) (h : 0 ≤ k ∧ k ≤ 1000000000000000) : Vow Try.prog 119 [.i .i64 k] (.s (mtext k)) [] := by
  refine vow_of_ev (fn := Try.f119) [] [(0, 0), (4, 5), (0, 0), (0, 0), (6, 7), (8, 16), (16, 18), (18, 20)] tt_ok Try.func119 (by decide) rfl (Nat.le_of_ble_eq_true rfl) rfl rfl rfl ?_
  repeat' (conv => whnf); first | refine Br.tt ?_ | refine Br.ff ?_ | refine Br.not ?_ | refine Br.dand (fun _ => ?_) (fun _ => ?_) | refine Br.dec (fun _ => ?_) (fun _ => ?_) | refine Br.beq (fun _ => ?_) (fun _ => ?_) | refine Br.bne (fun _ => ?_) (fun _ => ?_) | refine Br.seq (fun _ => ?_) (fun _ => ?_) | refine Elt.i (by omega) ?_ | refine EltN.i (by omega) ?_ | refine Nt.cast ?_ | refine Nt.mk _ rfl ?_ | refine EltN.mk _ rfl ?_ | refine Mx.mk _ rfl ?_ | refine Br.mk (fun _ => ?_) (fun _ => ?_) | refine EndP.mk ?_ trivial | refine EndP.mk ?_ ⟨.inr ⟨List.mem_cons_self .., ?_, rfl⟩, trivial⟩ | refine Ar.i64 (by omega) ?_ | refine Ar.u8 (by omega) ?_ | refine Quo.pos (by omega) ?_ | refine Rem.pos (by omega) ?_ | refine BsP.own ?_ | refine Ob.mk ⟨rfl, rfl⟩ ?_ | refine Ob.mk (flat_i _ _).1 ?_ | refine Ob.mk (flat_i _ _) ?_ | refine Ob.mk (flat_s _) ?_ | refine Ob.mk (by first | omega | (simp; first | done | fail) | (simp; omega)) ?_ | fail
  · rw [mtext, if_pos (by omega)]; rfl
  · have htot := digitsN_len k.toNat 16 [] (by omega)
    simp only [List.length_nil, Nat.add_zero] at htot
    conv => whnf
    refine LoopP.mk [0,2,3] (fun s : Nat × List UInt8 => [(0, .i .i64 s.1), (2, .s []), (3, .s s.2)]) (fun s => s.1) (fun s => s.1 ≤ 1000000000000000 ∧ digitsN s.1 s.2 = digitsN k.toNat []) ?_ ?_
    · conv => whnf
      refine ⟨(k.toNat, []), ⟨by simp only; omega, rfl⟩, ?_⟩
      rw [show k = ((k.toNat : Nat) : Int) by omega]
      rfl
    · rintro ⟨n, out⟩ ⟨hn, hd⟩
      simp only at hn hd
      have hge := digitsN_ge n out
      rw [hd] at hge
      have hB : allB [V.i .u8 (48 + (n : Int) % 10)] = some [UInt8.ofNat (48 + n % 10)] := by
        simp only [allB, toB]
        rw [show (48 + (n : Int) % 10).toNat = 48 + n % 10 by omega]
      repeat' (conv => whnf); first | refine Byt.mk _ hB ?_ | refine Br.tt ?_ | refine Br.ff ?_ | refine Br.not ?_ | refine Br.dand (fun _ => ?_) (fun _ => ?_) | refine Br.dec (fun _ => ?_) (fun _ => ?_) | refine Br.beq (fun _ => ?_) (fun _ => ?_) | refine Br.bne (fun _ => ?_) (fun _ => ?_) | refine Br.seq (fun _ => ?_) (fun _ => ?_) | refine Elt.i (by omega) ?_ | refine EltN.i (by omega) ?_ | refine Nt.cast ?_ | refine Nt.mk _ rfl ?_ | refine EltN.mk _ rfl ?_ | refine Mx.mk _ rfl ?_ | refine Br.mk (fun _ => ?_) (fun _ => ?_) | refine EndP.mk ?_ trivial | refine EndP.mk ?_ ⟨.inr ⟨List.mem_cons_self .., ?_, rfl⟩, trivial⟩ | refine Ar.i64 (by omega) ?_ | refine Ar.u8 (by omega) ?_ | refine Quo.pos (by omega) ?_ | refine Rem.pos (by omega) ?_ | refine BsP.own ?_ | refine Ob.mk ⟨rfl, rfl⟩ ?_ | refine Ob.mk (flat_i _ _).1 ?_ | refine Ob.mk (flat_i _ _) ?_ | refine Ob.mk (flat_s _) ?_ | refine Ob.mk (by first | omega | (simp; first | done | fail) | (simp; omega)) ?_ | fail
      all_goals first
        | (exfalso; omega)
        | (conv => whnf
           refine ⟨(n / 10, UInt8.ofNat (48 + n % 10) :: out), ⟨by simp only; omega, ?_⟩, by simp only; omega, ?_⟩
           · simp only
             rw [← digitsN_step (by omega)]; exact hd
           · rw [show ((n : Int) / 10) = ((n / 10 : Nat) : Int) by omega]
             rfl)
        | (have hn0 : n = 0 := by omega
           rw [hn0, digitsN_zero] at hd
           rw [mtext, if_neg (by omega), ← hd]
           rfl)

/-! Rows of texts. -/
def txS (xs : List (List UInt8)) : V := .sl (xs.map V.s)
def txO (xs : List (List UInt8)) : V := .ow 1 (xs.map V.s)
theorem imm_tx (l : List (List UInt8)) : (l.map V.s).map V.toImm = l.map V.s := map_toImm (fun _ => rfl) l
theorem own_tx (l : List (List UInt8)) : V.noSl.go (l.map V.s) = true := noSl_map (fun _ => rfl) l

def cpT (xs : List (List UInt8)) (i : Nat) : List (List UInt8) := xs.take i ++ List.replicate (xs.length - i) []
theorem cpT_len (xs : List (List UInt8)) {i : Nat} (h : i ≤ xs.length) : ((cpT xs i).map V.s).length = xs.length := by simp [cpT]; omega
theorem take_ln {xs : List (List UInt8)} {i : Nat} (h : i < xs.length) : xs.take (i + 1) = xs.take i ++ [ln xs i] := by
  rw [List.take_add_one]
  congr 1
  unfold ln
  rw [List.getD_eq_getElem?_getD, List.getElem?_eq_getElem h]
  rfl
theorem cpT_set (xs : List (List UInt8)) {i : Nat} (h : i < xs.length) : ((cpT xs i).map V.s).set i (.s (ln xs i)) = (cpT xs (i + 1)).map V.s := by
  have h1 : (xs.take i).length = i := by simp; omega
  obtain ⟨d, hd⟩ : ∃ d, xs.length - i = d + 1 := ⟨xs.length - i - 1, by omega⟩
  unfold cpT
  rw [hd, show xs.length - (i + 1) = d by omega, take_ln h, List.replicate_succ, ← List.map_set]
  rw [List.set_append_right _ _ (by omega), h1, Nat.sub_self]
  simp
theorem cpT_at (xs : List (List UInt8)) {i : Nat} (h : i < xs.length) : ((cpT xs i).map V.s)[i]? = some (.s []) := by
  have h1 : (xs.take i).length = i := by simp; omega
  obtain ⟨d, hd⟩ : ∃ d, xs.length - i = d + 1 := ⟨xs.length - i - 1, by omega⟩
  unfold cpT
  rw [hd, List.replicate_succ, List.map_append, List.getElem?_append_right (by simp; omega)]
  simp
  rw [show i - min i xs.length = 0 by omega]
  rfl
theorem cpT_all (xs : List (List UInt8)) : cpT xs xs.length = xs := by simp [cpT]
theorem toStringS_vow (xs : List (List UInt8)) (h : xs.length ≤ 1048576) : Vow Try.prog 55 [txS xs] (txO xs) [] := by
  have hm : (xs.map V.s).length = xs.length := by simp
  refine vow_of_ev (fn := Try.f55) [] [(0, 0), (5, 8), (0, 0), (8, 11), (12, 14), (14, 21), (21, 22)] tt_ok Try.func55 (by decide) rfl (Nat.le_of_ble_eq_true rfl) rfl rfl rfl ?_
  repeat' (conv => whnf); first | refine Br.tt ?_ | refine Br.ff ?_ | refine Br.not ?_ | refine Br.dand (fun _ => ?_) (fun _ => ?_) | refine Br.dec (fun _ => ?_) (fun _ => ?_) | refine Br.beq (fun _ => ?_) (fun _ => ?_) | refine Br.bne (fun _ => ?_) (fun _ => ?_) | refine Br.seq (fun _ => ?_) (fun _ => ?_) | refine Elt.i (by omega) ?_ | refine EltN.i (by omega) ?_ | refine Nt.cast ?_ | refine Nt.mk _ rfl ?_ | refine EltN.mk _ rfl ?_ | refine Mx.mk _ rfl ?_ | refine Br.mk (fun _ => ?_) (fun _ => ?_) | refine EndP.mk ?_ trivial | refine EndP.mk ?_ ⟨.inr ⟨List.mem_cons_self .., ?_, rfl⟩, trivial⟩ | refine Ar.i64 (by omega) ?_ | refine Ar.u8 (by omega) ?_ | refine Quo.pos (by omega) ?_ | refine Rem.pos (by omega) ?_ | refine BsP.own ?_ | refine Ob.mk ⟨rfl, rfl⟩ ?_ | refine Ob.mk (flat_i _ _).1 ?_ | refine Ob.mk (flat_i _ _) ?_ | refine Ob.mk (flat_s _) ?_ | refine Ob.mk (by first | omega | (simp; first | done | fail) | (simp; omega)) ?_ | fail
  · conv => whnf
    refine LoopP.mk [0,2,3,4] (fun i : Nat => [(0, txS xs), (2, .nl), (3, .ow 1 ((cpT xs i).map V.s)), (4, .i .i64 i)]) (fun i => xs.length - i) (fun i => i ≤ xs.length) ?_ ?_
    · conv => whnf
      refine ⟨0, by omega, ?_⟩
      rw [hm, Int.toNat_natCast, show List.replicate xs.length (V.s []) = (cpT xs 0).map V.s by simp [cpT]]
      rfl
    · intro i hi
      have hc := cpT_len xs hi
      have hcl := cpT_len xs hi
      repeat' (conv => whnf); first | refine Elt.ln (by omega) ?_ | refine EltN.ln (by omega) ?_ | refine EltN.mk _ (cpT_at xs (by omega)) ?_ | refine Br.tt ?_ | refine Br.ff ?_ | refine Br.not ?_ | refine Br.dand (fun _ => ?_) (fun _ => ?_) | refine Br.dec (fun _ => ?_) (fun _ => ?_) | refine Br.beq (fun _ => ?_) (fun _ => ?_) | refine Br.bne (fun _ => ?_) (fun _ => ?_) | refine Br.seq (fun _ => ?_) (fun _ => ?_) | refine Elt.i (by omega) ?_ | refine EltN.i (by omega) ?_ | refine Nt.cast ?_ | refine Nt.mk _ rfl ?_ | refine EltN.mk _ rfl ?_ | refine Mx.mk _ rfl ?_ | refine Br.mk (fun _ => ?_) (fun _ => ?_) | refine EndP.mk ?_ trivial | refine EndP.mk ?_ ⟨.inr ⟨List.mem_cons_self .., ?_, rfl⟩, trivial⟩ | refine Ar.i64 (by omega) ?_ | refine Ar.u8 (by omega) ?_ | refine Quo.pos (by omega) ?_ | refine Rem.pos (by omega) ?_ | refine BsP.own ?_ | refine Ob.mk ⟨rfl, rfl⟩ ?_ | refine Ob.mk (flat_i _ _).1 ?_ | refine Ob.mk (flat_i _ _) ?_ | refine Ob.mk (flat_s _) ?_ | refine Ob.mk (by first | omega | (simp; first | done | fail) | (simp; omega)) ?_ | fail
      · conv => whnf
        refine ⟨i + 1, by omega, by omega, ?_⟩
        rw [cpT_set xs (by omega)]
        rfl
      · obtain rfl : i = xs.length := by omega
        rw [cpT_all]
        rfl

theorem eqStringS_vow (xs : List (List UInt8)) (h : xs.length ≤ 1048576) : Vow Try.prog 58 [txS xs, txS xs] (.b true) [] := by
  have hm : (xs.map V.s).length = xs.length := by simp
  refine vow_of_ev (fn := Try.f58) [] [(0, 0), (6, 10), (0, 0), (0, 0), (11, 14), (15, 17), (17, 25), (0, 0), (0, 0)] tt_ok Try.func58 (by decide) rfl (Nat.le_of_ble_eq_true rfl) rfl rfl rfl ?_
  repeat' (conv => whnf); first | refine Br.tt ?_ | refine Br.ff ?_ | refine Br.not ?_ | refine Br.dand (fun _ => ?_) (fun _ => ?_) | refine Br.dec (fun _ => ?_) (fun _ => ?_) | refine Br.beq (fun _ => ?_) (fun _ => ?_) | refine Br.bne (fun _ => ?_) (fun _ => ?_) | refine Br.seq (fun _ => ?_) (fun _ => ?_) | refine Elt.i (by omega) ?_ | refine EltN.i (by omega) ?_ | refine Nt.cast ?_ | refine Nt.mk _ rfl ?_ | refine EltN.mk _ rfl ?_ | refine Mx.mk _ rfl ?_ | refine Br.mk (fun _ => ?_) (fun _ => ?_) | refine EndP.mk ?_ trivial | refine EndP.mk ?_ ⟨.inr ⟨List.mem_cons_self .., ?_, rfl⟩, trivial⟩ | refine Ar.i64 (by omega) ?_ | refine Ar.u8 (by omega) ?_ | refine Quo.pos (by omega) ?_ | refine Rem.pos (by omega) ?_ | refine BsP.own ?_ | refine Ob.mk ⟨rfl, rfl⟩ ?_ | refine Ob.mk (flat_i _ _).1 ?_ | refine Ob.mk (flat_i _ _) ?_ | refine Ob.mk (flat_s _) ?_ | refine Ob.mk (by first | omega | (simp; first | done | fail) | (simp; omega)) ?_ | fail
  rotate_left
  · exfalso; omega
  · conv => whnf
    refine LoopP.mk [0,1,4,5] (fun i : Nat => [(0, txS xs), (1, txS xs), (4, .b false), (5, .i .i64 i)]) (fun i => xs.length - i) (fun i => i ≤ xs.length) ?_ ?_
    · conv => whnf
      exact ⟨0, by omega, rfl⟩
    · intro i hi
      repeat' (conv => whnf); first | refine Elt.ln (by omega) ?_ | refine EltN.ln (by omega) ?_ | refine Br.tt ?_ | refine Br.ff ?_ | refine Br.not ?_ | refine Br.dand (fun _ => ?_) (fun _ => ?_) | refine Br.dec (fun _ => ?_) (fun _ => ?_) | refine Br.beq (fun _ => ?_) (fun _ => ?_) | refine Br.bne (fun _ => ?_) (fun _ => ?_) | refine Br.seq (fun _ => ?_) (fun _ => ?_) | refine Elt.i (by omega) ?_ | refine EltN.i (by omega) ?_ | refine Nt.cast ?_ | refine Nt.mk _ rfl ?_ | refine EltN.mk _ rfl ?_ | refine Mx.mk _ rfl ?_ | refine Br.mk (fun _ => ?_) (fun _ => ?_) | refine EndP.mk ?_ trivial | refine EndP.mk ?_ ⟨.inr ⟨List.mem_cons_self .., ?_, rfl⟩, trivial⟩ | refine Ar.i64 (by omega) ?_ | refine Ar.u8 (by omega) ?_ | refine Quo.pos (by omega) ?_ | refine Rem.pos (by omega) ?_ | refine BsP.own ?_ | refine Ob.mk ⟨rfl, rfl⟩ ?_ | refine Ob.mk (flat_i _ _).1 ?_ | refine Ob.mk (flat_i _ _) ?_ | refine Ob.mk (flat_s _) ?_ | refine Ob.mk (by first | omega | (simp; first | done | fail) | (simp; omega)) ?_ | fail
      all_goals first
        | (exfalso; omega)
        | exact absurd rfl ‹¬ _ = _›
        | rfl
        | (conv => whnf
           exact ⟨i + 1, by omega, by omega, rfl⟩)

def sumT (xs : List (List UInt8)) : Nat → Nat
  | 0 => 0
  | i + 1 => sumT xs i + (ln xs i).length
theorem sumT_mono (xs : List (List UInt8)) (i : Nat) : ∀ d, sumT xs i ≤ sumT xs (i + d)
  | 0 => Nat.le_refl _
  | d + 1 => by
    have := sumT_mono xs i d
    show sumT xs i ≤ sumT xs (i + d) + _
    omega
def szT (xs : List (List UInt8)) (left : Int) : Int := left - xs.length - sumT xs xs.length
def szTR (xs : List (List UInt8)) (left : Int) : Int := if 0 ≤ szT xs left then szT xs left else -1
theorem szStringS_vow (xs : List (List UInt8)) (left : Int) (hl : 0 ≤ left ∧ left ≤ 1048576) (hz : xs.length ≤ 9223372036854775807) (hx : ∀ x ∈ xs, x.length ≤ 9223372036854775807) :
    Vow Try.prog 53 [txS xs, .i .i64 left] (.i .i64 (szTR xs left)) [] := by
  have hm : (xs.map V.s).length = xs.length := by simp
  have hlen : ∀ j, j < xs.length → (ln xs j).length ≤ 9223372036854775807 := fun j hj => hx _ (by
    unfold ln; rw [List.getD_eq_getElem?_getD, List.getElem?_eq_getElem hj]; exact List.getElem_mem _)
  refine vow_of_ev (fn := Try.f53) [] [(0, 0), (6, 10), (10, 11), (0, 0), (0, 0), (12, 15), (16, 18), (18, 25), (25, 26), (0, 0), (27, 28)] tt_ok Try.func53 (by decide) rfl (Nat.le_of_ble_eq_true rfl) rfl rfl rfl ?_
  repeat' (conv => whnf); first | refine Br.tt ?_ | refine Br.ff ?_ | refine Br.not ?_ | refine Br.dand (fun _ => ?_) (fun _ => ?_) | refine Br.dec (fun _ => ?_) (fun _ => ?_) | refine Br.beq (fun _ => ?_) (fun _ => ?_) | refine Br.bne (fun _ => ?_) (fun _ => ?_) | refine Br.seq (fun _ => ?_) (fun _ => ?_) | refine Elt.i (by omega) ?_ | refine EltN.i (by omega) ?_ | refine Nt.cast ?_ | refine Nt.mk _ rfl ?_ | refine EltN.mk _ rfl ?_ | refine Mx.mk _ rfl ?_ | refine Br.mk (fun _ => ?_) (fun _ => ?_) | refine EndP.mk ?_ trivial | refine EndP.mk ?_ ⟨.inr ⟨List.mem_cons_self .., ?_, rfl⟩, trivial⟩ | refine Ar.i64 (by omega) ?_ | refine Ar.u8 (by omega) ?_ | refine Quo.pos (by omega) ?_ | refine Rem.pos (by omega) ?_ | refine BsP.own ?_ | refine Ob.mk ⟨rfl, rfl⟩ ?_ | refine Ob.mk (flat_i _ _).1 ?_ | refine Ob.mk (flat_i _ _) ?_ | refine Ob.mk (flat_s _) ?_ | refine Ob.mk (by first | omega | (simp; first | done | fail) | (simp; omega)) ?_ | fail
  · rw [szTR, if_neg (by unfold szT; omega)]; rfl
  · conv => whnf
    refine LoopP.mk [0,1,4,5] (fun i : Nat => [(0, txS xs), (1, .i .i64 (left - xs.length - sumT xs i)), (4, .i .i64 0), (5, .i .i64 i)]) (fun i => xs.length - i) (fun i => i ≤ xs.length ∧ 0 ≤ left - (xs.length : Int) - sumT xs i) ?_ ?_
    · conv => whnf
      refine ⟨0, ⟨by omega, by simp only [sumT]; omega⟩, ?_⟩
      rw [hm, show left - (xs.length : Int) - ((sumT xs 0 : Nat) : Int) = left - (xs.length : Int) by simp [sumT]]
      rfl
    · rintro i ⟨hi, hs⟩
      by_cases hlt : i < xs.length
      · have hli := hlen i hlt
        have hmono := sumT_mono xs (i + 1) (xs.length - (i + 1))
        rw [show i + 1 + (xs.length - (i + 1)) = xs.length by omega] at hmono
        have hstep : sumT xs (i + 1) = sumT xs i + (ln xs i).length := rfl
        repeat' (conv => whnf); first | refine Elt.ln (by omega) ?_ | refine EltN.ln (by omega) ?_ | refine Br.tt ?_ | refine Br.ff ?_ | refine Br.not ?_ | refine Br.dand (fun _ => ?_) (fun _ => ?_) | refine Br.dec (fun _ => ?_) (fun _ => ?_) | refine Br.beq (fun _ => ?_) (fun _ => ?_) | refine Br.bne (fun _ => ?_) (fun _ => ?_) | refine Br.seq (fun _ => ?_) (fun _ => ?_) | refine Elt.i (by omega) ?_ | refine EltN.i (by omega) ?_ | refine Nt.cast ?_ | refine Nt.mk _ rfl ?_ | refine EltN.mk _ rfl ?_ | refine Mx.mk _ rfl ?_ | refine Br.mk (fun _ => ?_) (fun _ => ?_) | refine EndP.mk ?_ trivial | refine EndP.mk ?_ ⟨.inr ⟨List.mem_cons_self .., ?_, rfl⟩, trivial⟩ | refine Ar.i64 (by omega) ?_ | refine Ar.u8 (by omega) ?_ | refine Quo.pos (by omega) ?_ | refine Rem.pos (by omega) ?_ | refine BsP.own ?_ | refine Ob.mk ⟨rfl, rfl⟩ ?_ | refine Ob.mk (flat_i _ _).1 ?_ | refine Ob.mk (flat_i _ _) ?_ | refine Ob.mk (flat_s _) ?_ | refine Ob.mk (by first | omega | (simp; first | done | fail) | (simp; omega)) ?_ | fail
        all_goals first
          | (exfalso; omega)
          | (rw [szTR, if_neg (by unfold szT; omega)]; rfl)
          | (conv => whnf
             refine ⟨i + 1, ⟨by omega, by omega⟩, by omega, ?_⟩
             rw [show left - (xs.length : Int) - (sumT xs i : Nat) - ((ln xs i).length : Nat) = left - (xs.length : Int) - (sumT xs (i + 1) : Nat) by omega]
             rfl)
      · obtain rfl : i = xs.length := by omega
        repeat' (conv => whnf); first | refine Br.tt ?_ | refine Br.ff ?_ | refine Br.not ?_ | refine Br.dand (fun _ => ?_) (fun _ => ?_) | refine Br.dec (fun _ => ?_) (fun _ => ?_) | refine Br.beq (fun _ => ?_) (fun _ => ?_) | refine Br.bne (fun _ => ?_) (fun _ => ?_) | refine Br.seq (fun _ => ?_) (fun _ => ?_) | refine Elt.i (by omega) ?_ | refine EltN.i (by omega) ?_ | refine Nt.cast ?_ | refine Nt.mk _ rfl ?_ | refine EltN.mk _ rfl ?_ | refine Mx.mk _ rfl ?_ | refine Br.mk (fun _ => ?_) (fun _ => ?_) | refine EndP.mk ?_ trivial | refine EndP.mk ?_ ⟨.inr ⟨List.mem_cons_self .., ?_, rfl⟩, trivial⟩ | refine Ar.i64 (by omega) ?_ | refine Ar.u8 (by omega) ?_ | refine Quo.pos (by omega) ?_ | refine Rem.pos (by omega) ?_ | refine BsP.own ?_ | refine Ob.mk ⟨rfl, rfl⟩ ?_ | refine Ob.mk (flat_i _ _).1 ?_ | refine Ob.mk (flat_i _ _) ?_ | refine Ob.mk (flat_s _) ?_ | refine Ob.mk (by first | omega | (simp; first | done | fail) | (simp; omega)) ?_ | fail
        all_goals first
          | (exfalso; omega)
          | (rw [szTR, if_pos (show 0 ≤ szT xs left from hs)]; rfl)

def mkT (n : Nat) (k : Int) : List (List UInt8) := (List.range n).map fun j => mtext (k + (j : Nat))
theorem mkT_len (n : Nat) (k : Int) : (mkT n k).length = n := by simp [mkT]
theorem mkT_succ (n : Nat) (k : Int) : mkT (n + 1) k = mkT n k ++ [mtext (k + (n : Nat))] := by simp [mkT, List.range_succ]
theorem mkT_at {n : Nat} {k : Int} {j : Nat} (h : j < n) : ln (mkT n k) j = mtext (k + (j : Nat)) := by simp [ln, mkT, h]
def mkTAt (xs : List (List UInt8)) (k : Int) (i : Nat) : List (List UInt8) := mkT i k ++ xs.drop i
theorem mkTAt_len (xs : List (List UInt8)) (k : Int) {i : Nat} (h : i ≤ xs.length) : ((mkTAt xs k i).map V.s).length = xs.length := by simp [mkTAt, mkT_len]; omega
theorem mkTAt_at (xs : List (List UInt8)) (k : Int) {i : Nat} (h : i < xs.length) : ((mkTAt xs k i).map V.s)[i]? = some (.s (ln xs i)) := by
  unfold mkTAt
  rw [List.map_append, List.getElem?_append_right (by simp [mkT_len]), List.length_map, mkT_len, Nat.sub_self]
  simp [ln, h]
theorem mkTAt_set (xs : List (List UInt8)) (k : Int) {i : Nat} (h : i < xs.length) : ((mkTAt xs k i).map V.s).set i (.s (mtext (k + (i : Nat)))) = (mkTAt xs k (i + 1)).map V.s := by
  unfold mkTAt
  rw [← List.map_set, List.set_append_right _ _ (by rw [mkT_len]; omega), mkT_len, Nat.sub_self, mkT_succ, List.drop_eq_getElem_cons h, List.set_cons_zero, List.append_assoc]
  rfl
theorem mkTAt_all (xs : List (List UInt8)) (k : Int) : mkTAt xs k xs.length = mkT xs.length k := by simp [mkTAt]
theorem markStringS_vow (xs : List (List UInt8)) (k : Int) (hz : xs.length ≤ 1048576) (hk : 0 ≤ k ∧ k ≤ 100000000000000) :
    Vow Try.prog 60 [txO xs, .i .i64 k] (.i .i64 (k + xs.length)) [txO (mkT xs.length k)] := by
  refine vow_of_ev (fn := Try.f60) [0] [(0, 0), (0, 0), (6, 9), (10, 12), (12, 17), (17, 19), (19, 20)] tt_ok Try.func60 (by decide) rfl (Nat.le_of_ble_eq_true rfl) rfl rfl rfl ?_
  repeat' (conv => whnf); first | refine Br.tt ?_ | refine Br.ff ?_ | refine Br.not ?_ | refine Br.dand (fun _ => ?_) (fun _ => ?_) | refine Br.dec (fun _ => ?_) (fun _ => ?_) | refine Br.beq (fun _ => ?_) (fun _ => ?_) | refine Br.bne (fun _ => ?_) (fun _ => ?_) | refine Br.seq (fun _ => ?_) (fun _ => ?_) | refine Elt.i (by omega) ?_ | refine EltN.i (by omega) ?_ | refine Nt.cast ?_ | refine Nt.mk _ rfl ?_ | refine EltN.mk _ rfl ?_ | refine Mx.mk _ rfl ?_ | refine Br.mk (fun _ => ?_) (fun _ => ?_) | refine EndP.mk ?_ trivial | refine EndP.mk ?_ ⟨.inr ⟨List.mem_cons_self .., ?_, rfl⟩, trivial⟩ | refine Ar.i64 (by omega) ?_ | refine Ar.u8 (by omega) ?_ | refine Quo.pos (by omega) ?_ | refine Rem.pos (by omega) ?_ | refine BsP.own ?_ | refine Ob.mk ⟨rfl, rfl⟩ ?_ | refine Ob.mk (flat_i _ _).1 ?_ | refine Ob.mk (flat_i _ _) ?_ | refine Ob.mk (flat_s _) ?_ | refine Ob.mk (by first | omega | (simp; first | done | fail) | (simp; omega)) ?_ | fail
  · conv => whnf
    refine LoopP.mk [0,1,4,5] (fun i : Nat => [(0, txO (mkTAt xs k i)), (1, .i .i64 (k + i)), (4, .i .i64 0), (5, .i .i64 i)]) (fun i => xs.length - i) (fun i => i ≤ xs.length) ?_ ?_
    · conv => whnf
      exact ⟨0, by omega, by simp [mkTAt, mkT] <;> rfl⟩
    · intro i hi
      have hl := mkTAt_len xs k hi
      have hl2 : (mkTAt xs k i).length = xs.length := by simpa using hl
      by_cases hlt : i < xs.length
      · have f1 := markText_vow (k + i) (by omega)
        repeat' (conv => whnf); first | refine CallP.rd (f1) rfl rfl rfl rfl ?_ | refine EltN.mk _ (mkTAt_at xs k (by omega)) ?_ | refine Br.tt ?_ | refine Br.ff ?_ | refine Br.not ?_ | refine Br.dand (fun _ => ?_) (fun _ => ?_) | refine Br.dec (fun _ => ?_) (fun _ => ?_) | refine Br.beq (fun _ => ?_) (fun _ => ?_) | refine Br.bne (fun _ => ?_) (fun _ => ?_) | refine Br.seq (fun _ => ?_) (fun _ => ?_) | refine Elt.i (by omega) ?_ | refine EltN.i (by omega) ?_ | refine Nt.cast ?_ | refine Nt.mk _ rfl ?_ | refine EltN.mk _ rfl ?_ | refine Mx.mk _ rfl ?_ | refine Br.mk (fun _ => ?_) (fun _ => ?_) | refine EndP.mk ?_ trivial | refine EndP.mk ?_ ⟨.inr ⟨List.mem_cons_self .., ?_, rfl⟩, trivial⟩ | refine Ar.i64 (by omega) ?_ | refine Ar.u8 (by omega) ?_ | refine Quo.pos (by omega) ?_ | refine Rem.pos (by omega) ?_ | refine BsP.own ?_ | refine Ob.mk ⟨rfl, rfl⟩ ?_ | refine Ob.mk (flat_i _ _).1 ?_ | refine Ob.mk (flat_i _ _) ?_ | refine Ob.mk (flat_s _) ?_ | refine Ob.mk (by first | omega | (simp; first | done | fail) | (simp; omega)) ?_ | fail
        all_goals first
          | (exfalso; omega)
          | (conv => whnf
             refine ⟨i + 1, by omega, by omega, ?_⟩
             rw [show k + (i : Int) + 1 = k + ((i + 1 : Nat) : Int) by omega, mkTAt_set xs k hlt]
             rfl)
      · obtain rfl : i = xs.length := by omega
        repeat' (conv => whnf); first | refine Br.tt ?_ | refine Br.ff ?_ | refine Br.not ?_ | refine Br.dand (fun _ => ?_) (fun _ => ?_) | refine Br.dec (fun _ => ?_) (fun _ => ?_) | refine Br.beq (fun _ => ?_) (fun _ => ?_) | refine Br.bne (fun _ => ?_) (fun _ => ?_) | refine Br.seq (fun _ => ?_) (fun _ => ?_) | refine Elt.i (by omega) ?_ | refine EltN.i (by omega) ?_ | refine Nt.cast ?_ | refine Nt.mk _ rfl ?_ | refine EltN.mk _ rfl ?_ | refine Mx.mk _ rfl ?_ | refine Br.mk (fun _ => ?_) (fun _ => ?_) | refine EndP.mk ?_ trivial | refine EndP.mk ?_ ⟨.inr ⟨List.mem_cons_self .., ?_, rfl⟩, trivial⟩ | refine Ar.i64 (by omega) ?_ | refine Ar.u8 (by omega) ?_ | refine Quo.pos (by omega) ?_ | refine Rem.pos (by omega) ?_ | refine BsP.own ?_ | refine Ob.mk ⟨rfl, rfl⟩ ?_ | refine Ob.mk (flat_i _ _).1 ?_ | refine Ob.mk (flat_i _ _) ?_ | refine Ob.mk (flat_s _) ?_ | refine Ob.mk (by first | omega | (simp; first | done | fail) | (simp; omega)) ?_ | fail
        all_goals first
          | (exfalso; omega)
          | rfl
          | (rw [← mkTAt_all]; rfl)
theorem heldStringS_vow (n : Nat) (k : Int) (hz : n ≤ 1048576) (hk : 0 ≤ k ∧ k ≤ 100000000000000) : Vow Try.prog 67 [txS (mkT n k), .i .i64 k] (.i .i64 (k + n)) [] := by
  have hl := mkT_len n k
  have hm : ((mkT n k).map V.s).length = n := by rw [List.length_map, hl]
  refine vow_of_ev (fn := Try.f67) [] [(0, 0), (0, 0), (6, 9), (10, 12), (12, 18), (0, 0), (19, 21), (21, 22)] tt_ok Try.func67 (by decide) rfl (Nat.le_of_ble_eq_true rfl) rfl rfl rfl ?_
  repeat' (conv => whnf); first | refine Br.tt ?_ | refine Br.ff ?_ | refine Br.not ?_ | refine Br.dand (fun _ => ?_) (fun _ => ?_) | refine Br.dec (fun _ => ?_) (fun _ => ?_) | refine Br.beq (fun _ => ?_) (fun _ => ?_) | refine Br.bne (fun _ => ?_) (fun _ => ?_) | refine Br.seq (fun _ => ?_) (fun _ => ?_) | refine Elt.i (by omega) ?_ | refine EltN.i (by omega) ?_ | refine Nt.cast ?_ | refine Nt.mk _ rfl ?_ | refine EltN.mk _ rfl ?_ | refine Mx.mk _ rfl ?_ | refine Br.mk (fun _ => ?_) (fun _ => ?_) | refine EndP.mk ?_ trivial | refine EndP.mk ?_ ⟨.inr ⟨List.mem_cons_self .., ?_, rfl⟩, trivial⟩ | refine Ar.i64 (by omega) ?_ | refine Ar.u8 (by omega) ?_ | refine Quo.pos (by omega) ?_ | refine Rem.pos (by omega) ?_ | refine BsP.own ?_ | refine Ob.mk ⟨rfl, rfl⟩ ?_ | refine Ob.mk (flat_i _ _).1 ?_ | refine Ob.mk (flat_i _ _) ?_ | refine Ob.mk (flat_s _) ?_ | refine Ob.mk (by first | omega | (simp; first | done | fail) | (simp; omega)) ?_ | fail
  · conv => whnf
    refine LoopP.mk [0,1,4,5] (fun i : Nat => [(0, txS (mkT n k)), (1, .i .i64 (k + i)), (4, .i .i64 0), (5, .i .i64 i)]) (fun i => n - i) (fun i => i ≤ n) ?_ ?_
    · conv => whnf
      exact ⟨0, by omega, by simp <;> rfl⟩
    · intro i hi
      by_cases hlt : i < n
      · have f1 := markText_vow (k + i) (by omega)
        have ha := mkT_at (k := k) hlt
        repeat' (conv => whnf); first | refine CallP.rd (f1) rfl rfl rfl rfl ?_ | refine DCall.rd (f1) rfl rfl ?_ | refine Elt.ln (by omega) ?_ | refine EltN.ln (by omega) ?_ | refine Br.tt ?_ | refine Br.ff ?_ | refine Br.not ?_ | refine Br.dand (fun _ => ?_) (fun _ => ?_) | refine Br.dec (fun _ => ?_) (fun _ => ?_) | refine Br.beq (fun _ => ?_) (fun _ => ?_) | refine Br.bne (fun _ => ?_) (fun _ => ?_) | refine Br.seq (fun _ => ?_) (fun _ => ?_) | refine Elt.i (by omega) ?_ | refine EltN.i (by omega) ?_ | refine Nt.cast ?_ | refine Nt.mk _ rfl ?_ | refine EltN.mk _ rfl ?_ | refine Mx.mk _ rfl ?_ | refine Br.mk (fun _ => ?_) (fun _ => ?_) | refine EndP.mk ?_ trivial | refine EndP.mk ?_ ⟨.inr ⟨List.mem_cons_self .., ?_, rfl⟩, trivial⟩ | refine Ar.i64 (by omega) ?_ | refine Ar.u8 (by omega) ?_ | refine Quo.pos (by omega) ?_ | refine Rem.pos (by omega) ?_ | refine BsP.own ?_ | refine Ob.mk ⟨rfl, rfl⟩ ?_ | refine Ob.mk (flat_i _ _).1 ?_ | refine Ob.mk (flat_i _ _) ?_ | refine Ob.mk (flat_s _) ?_ | refine Ob.mk (by first | omega | (simp; first | done | fail) | (simp; omega)) ?_ | fail
        all_goals first
          | (exfalso; omega)
          | (exfalso; exact absurd ha (by assumption))
          | (conv => whnf
             refine ⟨i + 1, by omega, by omega, ?_⟩
             rw [show k + (i : Int) + 1 = k + ((i + 1 : Nat) : Int) by omega]
             rfl)
      · obtain rfl : i = n := by omega
        repeat' (conv => whnf); first | refine Br.tt ?_ | refine Br.ff ?_ | refine Br.not ?_ | refine Br.dand (fun _ => ?_) (fun _ => ?_) | refine Br.dec (fun _ => ?_) (fun _ => ?_) | refine Br.beq (fun _ => ?_) (fun _ => ?_) | refine Br.bne (fun _ => ?_) (fun _ => ?_) | refine Br.seq (fun _ => ?_) (fun _ => ?_) | refine Elt.i (by omega) ?_ | refine EltN.i (by omega) ?_ | refine Nt.cast ?_ | refine Nt.mk _ rfl ?_ | refine EltN.mk _ rfl ?_ | refine Mx.mk _ rfl ?_ | refine Br.mk (fun _ => ?_) (fun _ => ?_) | refine EndP.mk ?_ trivial | refine EndP.mk ?_ ⟨.inr ⟨List.mem_cons_self .., ?_, rfl⟩, trivial⟩ | refine Ar.i64 (by omega) ?_ | refine Ar.u8 (by omega) ?_ | refine Quo.pos (by omega) ?_ | refine Rem.pos (by omega) ?_ | refine BsP.own ?_ | refine Ob.mk ⟨rfl, rfl⟩ ?_ | refine Ob.mk (flat_i _ _).1 ?_ | refine Ob.mk (flat_i _ _) ?_ | refine Ob.mk (flat_s _) ?_ | refine Ob.mk (by first | omega | (simp; first | done | fail) | (simp; omega)) ?_ | fail
        all_goals first
          | (exfalso; omega)
          | rfl
end Go.Proofs.Ytfcjjkfjdecakaa
