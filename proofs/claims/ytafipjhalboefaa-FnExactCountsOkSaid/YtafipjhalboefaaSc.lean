/- Numbers as text, and what is told of a tile. No condition. -/
import Derived.Test.YtafipjhalboefaaSa
namespace Go.Proofs.Ytafipjhalboefaa
open Go Go.Vx
set_option linter.unusedVariables false
set_option linter.unusedSimpArgs false
set_option maxHeartbeats 600000
set_option maxRecDepth 100000

/-- The figures of a number, ahead of what is there. -/
def digitsN (n : Nat) (out : List UInt8) : List UInt8 := if h : n = 0 then out else digitsN (n / 10) (UInt8.ofNat (48 + n % 10) :: out)
termination_by n
decreasing_by omega

def decimal (n : Int) : List UInt8 := if n = 0 then [48] else if n < 0 then 45 :: digitsN n.natAbs [] else digitsN n.natAbs []

def sg (n : Int) (k : Nat) : Int := if n < 0 then -(k : Int) else k

theorem sg_tdiv (n : Int) (k : Nat) : (sg n k).tdiv 10 = sg n (k / 10) := by
  unfold sg
  split
  · rw [Int.neg_tdiv, Int.tdiv_eq_ediv_of_nonneg (by omega)]; omega
  · rw [Int.tdiv_eq_ediv_of_nonneg (by omega)]; omega
theorem sg_tmod (n : Int) (k : Nat) : (sg n k).tmod 10 = sg n (k % 10) := by
  unfold sg
  split
  · rw [Int.neg_tmod, Int.tmod_eq_emod_of_nonneg (by omega)]; omega
  · rw [Int.tmod_eq_emod_of_nonneg (by omega)]; omega
theorem sg_zero (n : Int) (k : Nat) : sg n k = 0 ↔ k = 0 := by unfold sg; split <;> omega
theorem sg_self (n : Int) : sg n n.natAbs = n := by unfold sg; split <;> omega
theorem sg_le (n : Int) (k : Nat) : -(k : Int) ≤ sg n k ∧ sg n k ≤ k := by unfold sg; split <;> omega
theorem sg_max (n : Int) (k : Nat) : (if 0 - sg n k > sg n k then 0 - sg n k else sg n k) = k := by unfold sg; split <;> split <;> omega
theorem sg_pos (n : Int) (k : Nat) : 0 ≤ sg n k → sg n k = k := by unfold sg; split <;> omega
theorem sg_neg (n : Int) (k : Nat) : sg n k < 0 → 0 - sg n k = k := by unfold sg; split <;> omega

theorem pow_lt {k L : Nat} (h : 0 < k) (hk : k * 10 ^ L ≤ 9223372036854775808) : L ≤ 18 := by
  refine Classical.byContradiction fun hn => ?_
  have h1 : 10 ^ 19 ≤ 10 ^ L := Nat.pow_le_pow_right (by omega) (by omega)
  have h2 : 1 * 10 ^ L ≤ k * 10 ^ L := Nat.mul_le_mul_right _ h
  omega

theorem pow_next {k L N : Nat} (hk : k * 10 ^ L ≤ N) : k / 10 * 10 ^ (L + 1) ≤ N := by
  have : k / 10 * 10 ≤ k := Nat.div_mul_le_self k 10
  have h2 := Nat.mul_le_mul_right (10 ^ L) this
  rw [Nat.pow_succ]
  exact calc k / 10 * (10 ^ L * 10) = k / 10 * 10 * 10 ^ L := by rw [Nat.mul_assoc, Nat.mul_comm 10]
    _ ≤ _ := h2
    _ ≤ N := hk

theorem digitsN_step {k : Nat} (h : ¬ k = 0) (out : List UInt8) : digitsN k out = digitsN (k / 10) (UInt8.ofNat (48 + k % 10) :: out) := by
  rw [digitsN]; simp [h]
theorem digitsN_zero (out : List UInt8) : digitsN 0 out = out := by rw [digitsN]; simp

theorem figure (d : Nat) (h : d < 10) : (([48, 49, 50, 51, 52, 53, 54, 55, 56, 57, 97, 98, 99, 100, 101, 102] : List UInt8).drop d).take 1 = [UInt8.ofNat (48 + d)] := by
  match d, h with
  | 0, _ | 1, _ | 2, _ | 3, _ | 4, _ | 5, _ | 6, _ | 7, _ | 8, _ | 9, _ => rfl

/-- What the loop keeps: the figures to come and those that are there make up the number. -/
structure DecI (n : Int) (s : Nat × List UInt8) : Prop where
  same : digitsN s.1 s.2 = digitsN n.natAbs []
  fit : s.1 * 10 ^ s.2.length ≤ n.natAbs
  len : s.2.length ≤ 19
  le : s.1 ≤ n.natAbs

theorem DecI.next {n : Int} {s : Nat × List UInt8} (h : DecI n s) (hn : n.natAbs ≤ 9223372036854775808) (h0 : ¬ s.1 = 0) : DecI n (s.1 / 10, UInt8.ofNat (48 + s.1 % 10) :: s.2) := by
  have h1 := h.fit
  have h2 := pow_lt (by omega) (Nat.le_trans h1 hn)
  exact ⟨by rw [← digitsN_step h0]; exact h.same, pow_next h1, by simp; omega, by have := h.le; simp; omega⟩

theorem _root_.Go.Vx.Rem.sg {n : Int} {k : Nat} {κ : Int → Prop} (g : κ (sg n (k % 10))) : Rem (sg n k) 10 κ := .mk (by decide) (by rw [sg_tmod]; exact g)
theorem _root_.Go.Vx.Quo.sg {n : Int} {k : Nat} {κ : Int → Prop} (h : k ≤ 9223372036854775808 ∧ ¬ k = 0) (g : κ (sg n (k / 10))) : Quo .i64 (sg n k) 10 κ := by
  refine .mk (by decide) ?_
  rw [sg_tdiv, Go.IntWalk.i64_in _ (by have := sg_le n (k / 10); omega)]
  exact g
theorem _root_.Go.Vx.Cut.fig {d : Nat} {κ : Nat → Nat → Prop} {N : Nat} (h : d < 10 ∧ N = 16) (g : κ d (d + 1)) : Cut N (some (.i .i64 (d : Int))) (some (.i .i64 ((d : Int) + 1))) κ := by
  refine .mk d (d + 1) ?_ g
  simp only [boundsOf]
  rw [if_pos (by omega)]
  congr 2

theorem _root_.Go.Vx.Byt.one {b : UInt8} {κ : List UInt8 → Prop} (g : κ [b]) : Byt [.i .u8 ((b.toNat : Nat) : Int)] κ := .mk [b] (allB_byteV [b]) g

theorem digitsN_len : ∀ (n L : Nat) (out : List UInt8), n < 10 ^ L → (digitsN n out).length ≤ L + out.length
  | n, 0, out, h => by
    have : n = 0 := by simp at h; exact h
    subst this
    rw [digitsN_zero]; omega
  | n, L + 1, out, h => by
    by_cases h0 : n = 0
    · subst h0; rw [digitsN_zero]; omega
    · rw [digitsN_step h0]
      have := digitsN_len (n / 10) L (UInt8.ofNat (48 + n % 10) :: out) (by rw [Nat.pow_succ] at h; omega)
      simp only [List.length_cons] at this
      omega

theorem decimal_len (n : Int) (hn : -9223372036854775808 ≤ n ∧ n ≤ 9223372036854775807) : (decimal n).length ≤ 20 := by
  have := digitsN_len n.natAbs 19 [] (by omega)
  unfold decimal
  split
  · simp
  · split
    · simp only [List.length_cons]; simp at this; omega
    · simp at this; omega

def word (what : Int) : List UInt8 := if what = 1 then [108, 105, 118, 101] else if what = 2 then [104, 111, 108, 100] else if what = 3 then [103, 114, 101, 121] else [63]
structure Tell where
  what : Int
  who : Int
  count : Int
def I64 (n : Int) : Prop := -9223372036854775808 ≤ n ∧ n ≤ 9223372036854775807
def Tell.ok (t : Tell) : Prop := I64 t.what ∧ I64 t.who ∧ I64 t.count
def tellV (t : Tell) : V := .ag [.i .i64 t.what, .i .i64 t.who, .i .i64 t.count]
def tellText (t : Tell) : List UInt8 := word t.what ++ [32] ++ decimal t.who ++ [32] ++ decimal t.count

theorem toTell_vow (t : Tell) : Vow Try.prog 92 [tellV t] (tellV t) [] := by
  refine vow_of_ev (fn := Try.f92) [] [(0, 0), (0, 0), (4, 7), (7, 10), (10, 13), (13, 14)] tt_ok Try.func92 (by decide) rfl (Nat.le_of_ble_eq_true rfl) rfl rfl rfl ?_
  repeat' (conv => whnf); first | refine Br.tt ?_ | refine Br.ff ?_ | refine Br.not ?_ | refine Br.dand (fun _ => ?_) (fun _ => ?_) | refine Br.dec (fun _ => ?_) (fun _ => ?_) | refine Br.beq (fun _ => ?_) (fun _ => ?_) | refine Br.bne (fun _ => ?_) (fun _ => ?_) | refine Br.seq (fun _ => ?_) (fun _ => ?_) | refine Elt.i (by omega) ?_ | refine EltN.i (by omega) ?_ | refine Nt.cast ?_ | refine Nt.mk _ rfl ?_ | refine EltN.mk _ rfl ?_ | refine Mx.mk _ rfl ?_ | refine Br.mk (fun _ => ?_) (fun _ => ?_) | refine EndP.mk ?_ trivial | refine EndP.mk ?_ ⟨.inr ⟨List.mem_cons_self .., ?_, rfl⟩, trivial⟩ | refine Ar.i64 (by omega) ?_ | refine Ar.u8 (by omega) ?_ | refine Quo.pos (by omega) ?_ | refine Rem.pos (by omega) ?_ | refine BsP.own ?_ | refine SetN.two ?_ | refine SetN.one ?_ | refine Ob.mk ⟨rfl, rfl⟩ ?_ | refine Ob.mk (flat_i _ _).1 ?_ | refine Ob.mk (flat_i _ _) ?_ | refine Ob.mk (flat_s _) ?_ | refine Ob.mk (by first | omega | (simp; first | done | fail) | (simp; omega)) ?_ | fail
  rfl

end Go.Proofs.Ytafipjhalboefaa
