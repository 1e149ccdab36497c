/- Counted numbers as signs. No condition. -/
import Derived.Test.YtfcjjkfjdecakaaTk
namespace Go.Proofs.Ytfcjjkfjdecakaa
open Go Go.Vx
set_option linter.unusedVariables false
set_option linter.unusedSimpArgs false
set_option maxHeartbeats 600000
set_option maxRecDepth 100000

/-- How many binary figures. -/
def figs (x : Nat) : Nat := if x = 0 then 0 else figs (x / 2) + 1
theorem figs_zero : figs 0 = 0 := by rw [figs]; simp
theorem figs_step {x : Nat} (h : 0 < x) : figs x = figs (x / 2) + 1 := by rw [figs, if_neg (by omega)]
theorem figs_le : ∀ (k x : Nat), x < 2 ^ k → figs x ≤ k
  | 0, x, h => by obtain rfl : x = 0 := by simpa using h
                  rw [figs_zero]; omega
  | k + 1, x, h => by
    by_cases hx : x = 0
    · subst hx; rw [figs_zero]; omega
    · rw [figs_step (by omega)]
      have := figs_le k (x / 2) (by rw [Nat.pow_succ] at h; omega)
      omega
theorem fix_zero : ∀ a, fixS a 0 = List.replicate a 48
  | 0 => rfl
  | a + 1 => by
    rw [fixS, Nat.zero_div, fix_zero a, List.replicate_succ']
    rfl
theorem fix_pad : ∀ (k x a : Nat), x < 2 ^ k → fixS (a + figs x) x = List.replicate a 48 ++ fixS (figs x) x
  | 0, x, a, h => by
    obtain rfl : x = 0 := by simpa using h
    rw [figs_zero, Nat.add_zero, fix_zero]; simp [fixS]
  | k + 1, x, a, h => by
    by_cases hx : x = 0
    · subst hx; rw [figs_zero, Nat.add_zero, fix_zero]; simp [fixS]
    · have ih := fix_pad k (x / 2) a (by rw [Nat.pow_succ] at h; omega)
      rw [figs_step (by omega), ← Nat.add_assoc, fixS, fixS, ih, List.append_assoc]
def ueS (n : Nat) : List UInt8 := fixS (2 * figs (n + 1) - 1) (n + 1)
theorem figs_pos {n : Nat} : 1 ≤ figs (n + 1) := by rw [figs_step (by omega)]; omega
theorem figs_small {n : Nat} (h : n ≤ 2000000) : figs (n + 1) ≤ 21 := figs_le 21 _ (by omega)
theorem ueS_pad {n : Nat} (h : n ≤ 2000000) : ueS n = List.replicate (figs (n + 1) - 1) 48 ++ fixS (figs (n + 1)) (n + 1) := by
  have hp := figs_pos (n := n)
  unfold ueS
  rw [show 2 * figs (n + 1) - 1 = (figs (n + 1) - 1) + figs (n + 1) by omega]
  exact fix_pad 21 (n + 1) _ (by omega)
theorem ueS_len {n : Nat} (h : n ≤ 2000000) : (ueS n).length ≤ 41 := by
  have := figs_small h
  unfold ueS
  rw [fixS_len]; omega

theorem figures_vow (n : Nat) (hn : n < 2 ^ 40) : Vow Try.prog 167 [.i .i64 n] (.i .i64 (figs n)) [] := by
  have hf := figs_le 40 n hn
  refine vow_of_ev (fn := Try.f167) [] [(0, 0), (0, 0), (4, 5), (6, 8), (8, 10), (10, 11)] tt_ok Try.func167 (by decide) rfl (Nat.le_of_ble_eq_true rfl) rfl rfl rfl ?_
  repeat' (conv => whnf); first | refine Br.tt ?_ | refine Br.ff ?_ | refine Br.not ?_ | refine Br.dand (fun _ => ?_) (fun _ => ?_) | refine Br.dec (fun _ => ?_) (fun _ => ?_) | refine Br.beq (fun _ => ?_) (fun _ => ?_) | refine Br.bne (fun _ => ?_) (fun _ => ?_) | refine Br.seq (fun _ => ?_) (fun _ => ?_) | refine Elt.i (by omega) ?_ | refine EltN.i (by omega) ?_ | refine Nt.cast ?_ | refine Nt.mk _ rfl ?_ | refine EltN.mk _ rfl ?_ | refine Mx.mk _ rfl ?_ | refine Br.mk (fun _ => ?_) (fun _ => ?_) | refine EndP.mk ?_ trivial | refine EndP.mk ?_ ⟨.inr ⟨List.mem_cons_self .., ?_, rfl⟩, trivial⟩ | refine Ar.i64 (by omega) ?_ | refine Ar.u8 (by omega) ?_ | refine Quo.pos (by omega) ?_ | refine Rem.pos (by omega) ?_ | refine BsP.own ?_ | refine Ob.mk ⟨rfl, rfl⟩ ?_ | refine Ob.mk (flat_i _ _).1 ?_ | refine Ob.mk (flat_i _ _) ?_ | refine Ob.mk (flat_s _) ?_ | refine Ob.mk (by first | omega | (simp; first | done | fail) | (simp; omega)) ?_ | fail
  · conv => whnf
    refine LoopP.mk [0,2,3] (fun ((m, k) : Nat × Nat) => [(0, .i .i64 m), (2, .i .i64 0), (3, .i .i64 k)]) (fun s => s.1) (fun (m, k) => figs m + k = figs n) ?_ ?_
    · conv => whnf
      exact ⟨(n, 0), by simp, rfl⟩
    · rintro ⟨m, k⟩ (hk : figs m + k = figs n)
      repeat' (conv => whnf); first | refine Shr.mk (by decide) ?_ | refine Br.tt ?_ | refine Br.ff ?_ | refine Br.not ?_ | refine Br.dand (fun _ => ?_) (fun _ => ?_) | refine Br.dec (fun _ => ?_) (fun _ => ?_) | refine Br.beq (fun _ => ?_) (fun _ => ?_) | refine Br.bne (fun _ => ?_) (fun _ => ?_) | refine Br.seq (fun _ => ?_) (fun _ => ?_) | refine Elt.i (by omega) ?_ | refine EltN.i (by omega) ?_ | refine Nt.cast ?_ | refine Nt.mk _ rfl ?_ | refine EltN.mk _ rfl ?_ | refine Mx.mk _ rfl ?_ | refine Br.mk (fun _ => ?_) (fun _ => ?_) | refine EndP.mk ?_ trivial | refine EndP.mk ?_ ⟨.inr ⟨List.mem_cons_self .., ?_, rfl⟩, trivial⟩ | refine Ar.i64 (by omega) ?_ | refine Ar.u8 (by omega) ?_ | refine Quo.pos (by omega) ?_ | refine Rem.pos (by omega) ?_ | refine BsP.own ?_ | refine Ob.mk ⟨rfl, rfl⟩ ?_ | refine Ob.mk (flat_i _ _).1 ?_ | refine Ob.mk (flat_i _ _) ?_ | refine Ob.mk (flat_s _) ?_ | refine Ob.mk (by first | omega | (simp; first | done | fail) | (simp; omega)) ?_ | fail
      all_goals first
        | (conv => whnf
           refine ⟨(m / 2, k + 1), by show figs (m / 2) + (k + 1) = figs n; rw [figs_step (by omega)] at hk; omega, by show m / 2 < m; omega, ?_⟩
           rw [shr1_eq m]
           rfl)
        | (obtain rfl : m = 0 := by omega
           rw [figs_zero, Nat.zero_add] at hk
           rw [← hk]; rfl)

theorem ue_impl (n : Nat) (hn : n ≤ 2000000) : Vow Try.prog 136 [.i .i64 n] (.s (ueS n)) [] := by
  have hf := figs_small hn
  have hp := figs_pos (n := n)
  have f1 := figures_vow (n + 1) (by omega)
  have f2 := fix_impl (n + 1) (2 * figs (n + 1) - 1) (by omega) (by omega)
  rw [show ((n + 1 : Nat) : Int) = (n : Int) + 1 by omega] at f1 f2
  rw [show ((2 * figs (n + 1) - 1 : Nat) : Int) = 2 * (figs (n + 1) : Int) - 1 by omega] at f2
  refine vow_of_ev (fn := Try.f136) [] [(0, 0), (3, 11)] tt_ok Try.func136 (by decide) rfl (Nat.le_of_ble_eq_true rfl) rfl rfl rfl ?_
  repeat' (conv => whnf); first | refine CallP.rd (f1) rfl rfl rfl rfl ?_ | refine DCall.rd (f1) rfl rfl ?_ | refine CallP.rd (f2) rfl rfl rfl rfl ?_ | refine DCall.rd (f2) rfl rfl ?_ | refine Br.tt ?_ | refine Br.ff ?_ | refine Br.not ?_ | refine Br.dand (fun _ => ?_) (fun _ => ?_) | refine Br.dec (fun _ => ?_) (fun _ => ?_) | refine Br.beq (fun _ => ?_) (fun _ => ?_) | refine Br.bne (fun _ => ?_) (fun _ => ?_) | refine Br.seq (fun _ => ?_) (fun _ => ?_) | refine Elt.i (by omega) ?_ | refine EltN.i (by omega) ?_ | refine Nt.cast ?_ | refine Nt.mk _ rfl ?_ | refine EltN.mk _ rfl ?_ | refine Mx.mk _ rfl ?_ | refine Br.mk (fun _ => ?_) (fun _ => ?_) | refine EndP.mk ?_ trivial | refine EndP.mk ?_ ⟨.inr ⟨List.mem_cons_self .., ?_, rfl⟩, trivial⟩ | refine Ar.i64 (by omega) ?_ | refine Ar.u8 (by omega) ?_ | refine Quo.pos (by omega) ?_ | refine Rem.pos (by omega) ?_ | refine BsP.own ?_ | refine Ob.mk ⟨rfl, rfl⟩ ?_ | refine Ob.mk (flat_i _ _).1 ?_ | refine Ob.mk (flat_i _ _) ?_ | refine Ob.mk (flat_s _) ?_ | refine Ob.mk (by first | omega | (simp; first | done | fail) | (simp; omega)) ?_ | fail
  all_goals rfl

theorem rep_set {i n : Nat} (h : i < n) (a b : V) : (List.replicate i a ++ List.replicate (n - i) b).set i a = List.replicate (i + 1) a ++ List.replicate (n - (i + 1)) b := by
  obtain ⟨m, rfl⟩ : ∃ m, n = i + 1 + m := ⟨n - (i + 1), by omega⟩
  rw [List.set_append_right _ _ (by simp), List.length_replicate, Nat.sub_self, show i + 1 + m - i = m + 1 by omega, show i + 1 + m - (i + 1) = m by omega, List.replicate_succ, List.set_cons_zero, List.replicate_succ', List.append_assoc]
  rfl
theorem long_vow (n : Nat) (x : UInt8) (hn : n ≤ 1000000) : Vow Try.prog 163 [.i .i64 n, .i .u8 x.toNat] (.s (List.replicate n x)) [] := by
  refine vow_of_ev (fn := Try.f163) [] [(0, 0), (7, 9), (0, 0), (9, 11), (12, 14), (14, 18), (18, 20)] tt_ok Try.func163 (by decide) rfl (Nat.le_of_ble_eq_true rfl) rfl rfl rfl ?_
  repeat' (conv => whnf); first | refine Br.tt ?_ | refine Br.ff ?_ | refine Br.not ?_ | refine Br.dand (fun _ => ?_) (fun _ => ?_) | refine Br.dec (fun _ => ?_) (fun _ => ?_) | refine Br.beq (fun _ => ?_) (fun _ => ?_) | refine Br.bne (fun _ => ?_) (fun _ => ?_) | refine Br.seq (fun _ => ?_) (fun _ => ?_) | refine Elt.i (by omega) ?_ | refine EltN.i (by omega) ?_ | refine Nt.cast ?_ | refine Nt.mk _ rfl ?_ | refine EltN.mk _ rfl ?_ | refine Mx.mk _ rfl ?_ | refine Br.mk (fun _ => ?_) (fun _ => ?_) | refine EndP.mk ?_ trivial | refine EndP.mk ?_ ⟨.inr ⟨List.mem_cons_self .., ?_, rfl⟩, trivial⟩ | refine Ar.i64 (by omega) ?_ | refine Ar.u8 (by omega) ?_ | refine Quo.pos (by omega) ?_ | refine Rem.pos (by omega) ?_ | refine BsP.own ?_ | refine Ob.mk ⟨rfl, rfl⟩ ?_ | refine Ob.mk (flat_i _ _).1 ?_ | refine Ob.mk (flat_i _ _) ?_ | refine Ob.mk (flat_s _) ?_ | refine Ob.mk (by first | omega | (simp; first | done | fail) | (simp; omega)) ?_ | fail
  · conv => whnf
    refine LoopP.mk [0,1,4,5,6] (fun i : Nat => [(0, .i .i64 n), (1, .i .u8 x.toNat), (4, .s []), (5, .ow 1 (List.replicate i (.i .u8 x.toNat) ++ List.replicate (n - i) (.i .u8 0))), (6, .i .i64 i)]) (fun i => n - i) (fun i => i ≤ n) ?_ ?_
    · conv => whnf
      refine ⟨0, by omega, ?_⟩
      rw [show List.replicate (n : Int).toNat (V.i .u8 0) = List.replicate 0 (.i .u8 x.toNat) ++ List.replicate (n - 0) (.i .u8 0) by simp]
      rfl
    · intro i hi
      have hl : (List.replicate i (V.i .u8 x.toNat) ++ List.replicate (n - i) (V.i .u8 0)).length = n := by simp; omega
      by_cases hin : i < n
      · have ha : (List.replicate i (V.i .u8 x.toNat) ++ List.replicate (n - i) (V.i .u8 0))[i]? = some (.i .u8 0) := by
          rw [List.getElem?_append_right (by simp), List.length_replicate, Nat.sub_self, List.getElem?_replicate, if_pos (by omega)]
        repeat' (conv => whnf); first | refine EltN.mk (.i .u8 0) ha ?_ | refine Br.tt ?_ | refine Br.ff ?_ | refine Br.not ?_ | refine Br.dand (fun _ => ?_) (fun _ => ?_) | refine Br.dec (fun _ => ?_) (fun _ => ?_) | refine Br.beq (fun _ => ?_) (fun _ => ?_) | refine Br.bne (fun _ => ?_) (fun _ => ?_) | refine Br.seq (fun _ => ?_) (fun _ => ?_) | refine Elt.i (by omega) ?_ | refine EltN.i (by omega) ?_ | refine Nt.cast ?_ | refine Nt.mk _ rfl ?_ | refine EltN.mk _ rfl ?_ | refine Mx.mk _ rfl ?_ | refine Br.mk (fun _ => ?_) (fun _ => ?_) | refine EndP.mk ?_ trivial | refine EndP.mk ?_ ⟨.inr ⟨List.mem_cons_self .., ?_, rfl⟩, trivial⟩ | refine Ar.i64 (by omega) ?_ | refine Ar.u8 (by omega) ?_ | refine Quo.pos (by omega) ?_ | refine Rem.pos (by omega) ?_ | refine BsP.own ?_ | refine Ob.mk ⟨rfl, rfl⟩ ?_ | refine Ob.mk (flat_i _ _).1 ?_ | refine Ob.mk (flat_i _ _) ?_ | refine Ob.mk (flat_s _) ?_ | refine Ob.mk (by first | omega | (simp; first | done | fail) | (simp; omega)) ?_ | fail
        all_goals first
          | (exfalso; omega)
          | (conv => whnf
             refine ⟨i + 1, by omega, by omega, ?_⟩
             rw [rep_set hin (.i .u8 x.toNat) (.i .u8 0)]
             rfl)
      · obtain rfl : i = n := by omega
        have hB : allB (List.replicate i (V.i .u8 x.toNat) ++ List.replicate (i - i) (V.i .u8 0)) = some (List.replicate i x) := by
          rw [Nat.sub_self]; simpa [byteV] using byt_tail (List.replicate i x)
        repeat' (conv => whnf); first | refine Byt.mk _ hB ?_ | refine Br.tt ?_ | refine Br.ff ?_ | refine Br.not ?_ | refine Br.dand (fun _ => ?_) (fun _ => ?_) | refine Br.dec (fun _ => ?_) (fun _ => ?_) | refine Br.beq (fun _ => ?_) (fun _ => ?_) | refine Br.bne (fun _ => ?_) (fun _ => ?_) | refine Br.seq (fun _ => ?_) (fun _ => ?_) | refine Elt.i (by omega) ?_ | refine EltN.i (by omega) ?_ | refine Nt.cast ?_ | refine Nt.mk _ rfl ?_ | refine EltN.mk _ rfl ?_ | refine Mx.mk _ rfl ?_ | refine Br.mk (fun _ => ?_) (fun _ => ?_) | refine EndP.mk ?_ trivial | refine EndP.mk ?_ ⟨.inr ⟨List.mem_cons_self .., ?_, rfl⟩, trivial⟩ | refine Ar.i64 (by omega) ?_ | refine Ar.u8 (by omega) ?_ | refine Quo.pos (by omega) ?_ | refine Rem.pos (by omega) ?_ | refine BsP.own ?_ | refine Ob.mk ⟨rfl, rfl⟩ ?_ | refine Ob.mk (flat_i _ _).1 ?_ | refine Ob.mk (flat_i _ _) ?_ | refine Ob.mk (flat_s _) ?_ | refine Ob.mk (by first | omega | (simp; first | done | fail) | (simp; omega)) ?_ | fail
        all_goals first
          | (exfalso; omega)
          | rfl

theorem ue_spec (n : Nat) (hn : n ≤ 2000000) : Vow Try.prog 128 [.i .i64 n] (.s (ueS n)) [] := by
  have hf := figs_small hn
  have hp := figs_pos (n := n)
  refine vow_of_ev (fn := Try.f128) [] [(0, 0), (5, 7), (0, 0), (7, 8), (9, 17), (17, 19), (19, 25)] tt_ok Try.func128 (by decide) rfl (Nat.le_of_ble_eq_true rfl) rfl rfl rfl ?_
  repeat' (conv => whnf); first | refine Br.tt ?_ | refine Br.ff ?_ | refine Br.not ?_ | refine Br.dand (fun _ => ?_) (fun _ => ?_) | refine Br.dec (fun _ => ?_) (fun _ => ?_) | refine Br.beq (fun _ => ?_) (fun _ => ?_) | refine Br.bne (fun _ => ?_) (fun _ => ?_) | refine Br.seq (fun _ => ?_) (fun _ => ?_) | refine Elt.i (by omega) ?_ | refine EltN.i (by omega) ?_ | refine Nt.cast ?_ | refine Nt.mk _ rfl ?_ | refine EltN.mk _ rfl ?_ | refine Mx.mk _ rfl ?_ | refine Br.mk (fun _ => ?_) (fun _ => ?_) | refine EndP.mk ?_ trivial | refine EndP.mk ?_ ⟨.inr ⟨List.mem_cons_self .., ?_, rfl⟩, trivial⟩ | refine Ar.i64 (by omega) ?_ | refine Ar.u8 (by omega) ?_ | refine Quo.pos (by omega) ?_ | refine Rem.pos (by omega) ?_ | refine BsP.own ?_ | refine Ob.mk ⟨rfl, rfl⟩ ?_ | refine Ob.mk (flat_i _ _).1 ?_ | refine Ob.mk (flat_i _ _) ?_ | refine Ob.mk (flat_s _) ?_ | refine Ob.mk (by first | omega | (simp; first | done | fail) | (simp; omega)) ?_ | fail
  · conv => whnf
    refine LoopP.mk [0,2,3,4] (fun ((m, s) : Nat × List UInt8) => [(0, .i .i64 n), (2, .s []), (3, .i .i64 m), (4, .s s)]) (fun s => s.1) (fun (m, s) => m ≤ n + 1 ∧ fixS (figs m) m ++ s = fixS (figs (n + 1)) (n + 1)) ?_ ?_
    · conv => whnf
      refine ⟨(n + 1, []), ⟨Nat.le_refl _, by simp⟩, ?_⟩
      rw [show (n : Int) + 1 = ((n + 1 : Nat) : Int) by omega]
    · rintro ⟨m, s⟩ ⟨hm, hs⟩
      have hlen : s.length ≤ 21 := by
        have := congrArg List.length hs
        rw [List.length_append, fixS_len, fixS_len] at this
        omega
      by_cases h0 : m = 0
      · subst h0
        rw [figs_zero] at hs
        have hs2 : s = fixS (figs (n + 1)) (n + 1) := hs
        have hl2 : s.length = figs (n + 1) := by rw [hs2, fixS_len]
        have f3 := long_vow (s.length - 1) 48 (by omega)
        rw [show ((s.length - 1 : Nat) : Int) = (s.length : Int) - 1 by omega] at f3
        repeat' (conv => whnf); first | refine CallP.rd (f3) rfl rfl rfl rfl ?_ | refine DCall.rd (f3) rfl rfl ?_ | refine Br.tt ?_ | refine Br.ff ?_ | refine Br.not ?_ | refine Br.dand (fun _ => ?_) (fun _ => ?_) | refine Br.dec (fun _ => ?_) (fun _ => ?_) | refine Br.beq (fun _ => ?_) (fun _ => ?_) | refine Br.bne (fun _ => ?_) (fun _ => ?_) | refine Br.seq (fun _ => ?_) (fun _ => ?_) | refine Elt.i (by omega) ?_ | refine EltN.i (by omega) ?_ | refine Nt.cast ?_ | refine Nt.mk _ rfl ?_ | refine EltN.mk _ rfl ?_ | refine Mx.mk _ rfl ?_ | refine Br.mk (fun _ => ?_) (fun _ => ?_) | refine EndP.mk ?_ trivial | refine EndP.mk ?_ ⟨.inr ⟨List.mem_cons_self .., ?_, rfl⟩, trivial⟩ | refine Ar.i64 (by omega) ?_ | refine Ar.u8 (by omega) ?_ | refine Quo.pos (by omega) ?_ | refine Rem.pos (by omega) ?_ | refine BsP.own ?_ | refine Ob.mk ⟨rfl, rfl⟩ ?_ | refine Ob.mk (flat_i _ _).1 ?_ | refine Ob.mk (flat_i _ _) ?_ | refine Ob.mk (flat_s _) ?_ | refine Ob.mk (by first | omega | (simp; first | done | fail) | (simp; omega)) ?_ | fail
        all_goals first
          | (exfalso; omega)
          | (rw [ueS_pad hn, ← hs2, ← hl2]; rfl)
      · have hB : allB [V.i .u8 (48 + (m : Int) % 2)] = some [UInt8.ofNat (48 + m % 2)] := by
          have := byt_tail [UInt8.ofNat (48 + m % 2)]
          rw [show [UInt8.ofNat (48 + m % 2)].map byteV = [V.i .u8 (48 + (m : Int) % 2)] by simp [byteV]; omega] at this
          exact this
        repeat' (conv => whnf); first | refine Byt.mk _ hB ?_ | refine Br.tt ?_ | refine Br.ff ?_ | refine Br.not ?_ | refine Br.dand (fun _ => ?_) (fun _ => ?_) | refine Br.dec (fun _ => ?_) (fun _ => ?_) | refine Br.beq (fun _ => ?_) (fun _ => ?_) | refine Br.bne (fun _ => ?_) (fun _ => ?_) | refine Br.seq (fun _ => ?_) (fun _ => ?_) | refine Elt.i (by omega) ?_ | refine EltN.i (by omega) ?_ | refine Nt.cast ?_ | refine Nt.mk _ rfl ?_ | refine EltN.mk _ rfl ?_ | refine Mx.mk _ rfl ?_ | refine Br.mk (fun _ => ?_) (fun _ => ?_) | refine EndP.mk ?_ trivial | refine EndP.mk ?_ ⟨.inr ⟨List.mem_cons_self .., ?_, rfl⟩, trivial⟩ | refine Ar.i64 (by omega) ?_ | refine Ar.u8 (by omega) ?_ | refine Quo.pos (by omega) ?_ | refine Rem.pos (by omega) ?_ | refine BsP.own ?_ | refine Ob.mk ⟨rfl, rfl⟩ ?_ | refine Ob.mk (flat_i _ _).1 ?_ | refine Ob.mk (flat_i _ _) ?_ | refine Ob.mk (flat_s _) ?_ | refine Ob.mk (by first | omega | (simp; first | done | fail) | (simp; omega)) ?_ | fail
        all_goals first
          | (exfalso; omega)
          | (conv => whnf
             refine ⟨(m / 2, UInt8.ofNat (48 + m % 2) :: s), ⟨by omega, by rw [← hs, figs_step (x := m) (by omega)]; simp [fixS]⟩, by show m / 2 < m; omega, ?_⟩
             rw [show (m : Int) / 2 = ((m / 2 : Nat) : Int) by omega]
             rfl)
end Go.Proofs.Ytfcjjkfjdecakaa
