/- Scenes, whole. No condition. -/
import Derived.Test.YtafipjhalboefaaSa
namespace Go.Proofs.Ytafipjhalboefaa
open Go Go.Vx
set_option linter.unusedVariables false
set_option linter.unusedSimpArgs false
set_option maxHeartbeats 600000
set_option maxRecDepth 100000

/-- The dots of a scene, row by row. -/
def sceneRow (seed t wide : Int) (n : Nat) : List V := (List.range n).map fun (i : Nat) => .i .u8 (dot seed t ((i : Int) % wide) ((i : Int) / wide))

theorem sceneRow_succ (seed t wide : Int) (n : Nat) : sceneRow seed t wide n ++ [.i .u8 (dot seed t ((n : Int) % wide) ((n : Int) / wide))] = sceneRow seed t wide (n + 1) := by
  simp [sceneRow, List.range_succ]

def sceneOk (seed t wide high : Int) : Prop := (0 ≤ seed ∧ seed ≤ 999) ∧ (0 ≤ t ∧ t ≤ 9999) ∧ (1 ≤ wide ∧ wide ≤ 256) ∧ (1 ≤ high ∧ high ≤ 256)
instance (seed t wide high : Int) : Decidable (sceneOk seed t wide high) := by unfold sceneOk; infer_instance

def sceneDots (seed t wide high : Int) : List UInt8 := (List.range (wide * high).toNat).map fun (i : Nat) => UInt8.ofNat (dot seed t ((i : Int) % wide) ((i : Int) / wide)).toNat

structure Pic where
  wide : Int
  high : Int
  dots : List UInt8
  deriving DecidableEq
def picV (p : Pic) : V := .ag [.i .i64 p.wide, .i .i64 p.high, .s p.dots]

def sceneOf (seed t wide high : Int) : Pic := if sceneOk seed t wide high then ⟨wide, high, sceneDots seed t wide high⟩ else ⟨0, 0, []⟩

theorem wh_fit (wide high : Int) : ¬ (1 ≤ wide ∧ wide ≤ 256) ∨ ¬ (1 ≤ high ∧ high ≤ 256) ∨ 1 ≤ wide * high ∧ wide * high ≤ 65536 := by
  by_cases h : 1 ≤ wide ∧ wide ≤ 256
  · by_cases k : 1 ≤ high ∧ high ≤ 256
    · have := mul_fit (a := wide) (b := high) (A := 256) (B := 256) (by omega) (by omega)
      have h2 : 0 < wide * high := Int.mul_pos (by omega) (by omega)
      omega
    · exact .inr (.inl k)
  · exact .inl h

theorem dot_fit (seed t x y : Int) : ¬ (0 ≤ seed ∧ seed ≤ 999) ∨ ¬ (0 ≤ t ∧ t ≤ 9999) ∨ ¬ (0 ≤ x ∧ x ≤ 255) ∨ ¬ (0 ≤ y ∧ y ≤ 255) ∨ 0 ≤ dot seed t x y ∧ dot seed t x y ≤ 255 := by
  unfold dot
  split
  · omega
  · split <;> omega

theorem row_at {y x w : Nat} (h : x < w) : ((y * w + x : Nat) : Int) % (w : Int) = x ∧ ((y * w + x : Nat) : Int) / (w : Int) = y := by
  constructor
  · have : (y * w + x) % w = x := by rw [Nat.mul_comm, Nat.mul_add_mod, Nat.mod_eq_of_lt h]
    omega
  · have : (y * w + x) / w = y := by rw [Nat.mul_comm, Nat.mul_add_div (by omega), Nat.div_eq_of_lt h]; omega
    omega

theorem sceneRow_at (seed t wide : Int) {y x : Nat} (hw : 0 ≤ wide) (h : (x : Int) < wide) :
    sceneRow seed t wide (y * wide.toNat + x) ++ [.i .u8 (dot seed t x y)] = sceneRow seed t wide (y * wide.toNat + (x + 1)) := by
  obtain ⟨w, rfl⟩ := Int.eq_ofNat_of_zero_le hw
  rw [← Nat.add_assoc, ← sceneRow_succ]
  simp only [Int.toNat_natCast]
  have h2 := row_at (y := y) (x := x) (w := w) (by omega)
  rw [h2.1, h2.2]

theorem sceneRow_len (seed t wide : Int) (n : Nat) : (sceneRow seed t wide n).length = n := by simp [sceneRow]

theorem allB_map (g : Nat → Int) (hg : ∀ i, 0 ≤ g i ∧ g i ≤ 255) : ∀ l : List Nat, allB (l.map fun i => .i .u8 (g i)) = some (l.map fun i => UInt8.ofNat (g i).toNat)
  | [] => rfl
  | x :: r => by simp only [List.map_cons, allB, toB, allB_map g hg r]

theorem yw_le {y x w : Nat} (hy : y ≤ 255) (hx : x ≤ 256) (hw : w ≤ 256) : y * w + x ≤ 65536 := by
  have := Nat.mul_le_mul hy hw; omega

theorem byt_row (seed t wide : Int) (n : Nat) (h : ∀ i : Nat, i < n → 0 ≤ dot seed t ((i : Int) % wide) ((i : Int) / wide) ∧ dot seed t ((i : Int) % wide) ((i : Int) / wide) ≤ 255) :
    allB (sceneRow seed t wide n) = some ((List.range n).map fun (i : Nat) => UInt8.ofNat (dot seed t ((i : Int) % wide) ((i : Int) / wide)).toNat) := by
  unfold sceneRow
  generalize List.range n = l
  clear h
  induction l with
  | nil => rfl
  | cons x r ih => simp only [List.map_cons, allB, toB, ih]



theorem eqPic_vow (a b : Pic) : Vow Try.prog 42 [picV a, picV b] (.b (decide (a = b))) [] := by
  obtain ⟨a1, a2, a3⟩ := a
  obtain ⟨b1, b2, b3⟩ := b
  refine vow_of_ev (fn := Try.f42) [] [(0, 0), (5, 9), (0, 0), (10, 14), (0, 0), (15, 19), (0, 0), (0, 0)] tt_ok Try.func42 (by decide) rfl (Nat.le_of_ble_eq_true rfl) rfl rfl rfl ?_
  repeat' (conv => whnf); first | refine Br.tt ?_ | refine Br.ff ?_ | refine Br.not ?_ | refine Br.dand (fun _ => ?_) (fun _ => ?_) | refine Br.dec (fun _ => ?_) (fun _ => ?_) | refine Br.beq (fun _ => ?_) (fun _ => ?_) | refine Br.bne (fun _ => ?_) (fun _ => ?_) | refine Br.seq (fun _ => ?_) (fun _ => ?_) | refine Elt.i (by omega) ?_ | refine EltN.i (by omega) ?_ | refine Nt.cast ?_ | refine Nt.mk _ rfl ?_ | refine EltN.mk _ rfl ?_ | refine Mx.mk _ rfl ?_ | refine Br.mk (fun _ => ?_) (fun _ => ?_) | refine EndP.mk ?_ trivial | refine EndP.mk ?_ ⟨.inr ⟨List.mem_cons_self .., ?_, rfl⟩, trivial⟩ | refine Ar.i64 (by omega) ?_ | refine Ar.u8 (by omega) ?_ | refine Quo.pos (by omega) ?_ | refine Rem.pos (by omega) ?_ | refine BsP.own ?_ | refine SetN.two ?_ | refine SetN.one ?_ | refine Ob.mk ⟨rfl, rfl⟩ ?_ | refine Ob.mk (flat_i _ _).1 ?_ | refine Ob.mk (flat_i _ _) ?_ | refine Ob.mk (flat_s _) ?_ | refine Ob.mk (by first | omega | (simp; first | done | fail) | (simp; omega)) ?_ | fail
  all_goals simp_all [resOf]

end Go.Proofs.Ytafipjhalboefaa
