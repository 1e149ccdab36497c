/- Rows of numbers in the laws: copied, counted, compared, marked. No condition. -/
import Derived.Test.YtafipjhalboefaaGreatSc
namespace Go.Proofs.YtafipjhalboefaaGreat
open Go Go.Vx
set_option linter.unusedVariables false
set_option linter.unusedSimpArgs false
set_option maxHeartbeats 600000
set_option maxRecDepth 100000

def iS (zs : List Int) : V := .sl (zs.map (.i .i64))
def iO (zs : List Int) : V := .ow 1 (zs.map (.i .i64))

/-- A row that is filled from the front. -/
def fillRow (zs : List Int) (i : Nat) : List V := (zs.take i).map (.i .i64) ++ List.replicate (zs.length - i) (.i .i64 0)
theorem fillRow_len (zs : List Int) (i : Nat) (h : i ≤ zs.length) : (fillRow zs i).length = zs.length := by simp [fillRow]; omega
theorem fillRow_all (zs : List Int) : fillRow zs zs.length = zs.map (.i .i64) := by simp [fillRow]
theorem fillRow_at (zs : List Int) {i : Nat} (h : i < zs.length) : (fillRow zs i)[i]? = some (.i .i64 0) := by
  unfold fillRow
  have hl : ((zs.take i).map (V.i .i64)).length = i := by simp; omega
  rw [List.getElem?_append_right (by omega), hl, Nat.sub_self, List.getElem?_replicate, if_pos (by omega)]
theorem fillRow_set (zs : List Int) {i : Nat} (h : i < zs.length) : (fillRow zs i).set i (.i .i64 (rd zs i)) = fillRow zs (i + 1) := by
  unfold fillRow
  have hl : ((zs.take i).map (V.i .i64)).length = i := by simp; omega
  rw [List.set_append_right _ _ (by omega), hl, Nat.sub_self, show zs.length - i = (zs.length - (i + 1)) + 1 by omega, List.replicate_succ, List.set_cons_zero, List.take_add_one]
  have hz : zs[i]?.toList = [rd zs i] := by simp [rd, h]
  rw [hz]
  simp

theorem toIntS_vow (zs : List Int) (hz : zs.length ≤ 17592186044416) : Vow Tryz.prog 46 [iS zs] (iO zs) [] := by
  refine vow_of_ev (fn := Tryz.f46) [] [(0, 0), (5, 8), (0, 0), (8, 11), (12, 14), (14, 21), (21, 22)] tt_ok Tryz.func46 (by decide) rfl (Nat.le_of_ble_eq_true rfl) rfl rfl rfl ?_
  have hl0 : (zs.map (V.i .i64)).length = zs.length := by simp
  repeat' (conv => whnf); first | refine Br.tt ?_ | refine Br.ff ?_ | refine Br.not ?_ | refine Br.dand (fun _ => ?_) (fun _ => ?_) | refine Br.dec (fun _ => ?_) (fun _ => ?_) | refine Br.beq (fun _ => ?_) (fun _ => ?_) | refine Br.bne (fun _ => ?_) (fun _ => ?_) | refine Br.seq (fun _ => ?_) (fun _ => ?_) | refine Elt.i (by omega) ?_ | refine EltN.i (by omega) ?_ | refine Nt.cast ?_ | refine Nt.mk _ rfl ?_ | refine EltN.mk _ rfl ?_ | refine Mx.mk _ rfl ?_ | refine Br.mk (fun _ => ?_) (fun _ => ?_) | refine EndP.mk ?_ trivial | refine EndP.mk ?_ ⟨.inr ⟨List.mem_cons_self .., ?_, rfl⟩, trivial⟩ | refine Ar.i64 (by omega) ?_ | refine Ar.u8 (by omega) ?_ | refine Quo.pos (by omega) ?_ | refine Rem.pos (by omega) ?_ | refine BsP.own ?_ | refine SetN.two ?_ | refine SetN.one ?_ | refine Ob.mk ⟨rfl, rfl⟩ ?_ | refine Ob.mk (flat_i _ _).1 ?_ | refine Ob.mk (flat_i _ _) ?_ | refine Ob.mk (flat_s _) ?_ | refine Ob.mk (by first | omega | (simp; first | done | fail) | (simp; omega)) ?_ | fail
  · conv => whnf
    refine LoopP.mk [0,2,3,4] (fun i : Nat => [(0, iS zs), (2, .nl), (3, .ow 1 (fillRow zs i)), (4, .i .i64 i)]) (fun i => zs.length - i) (fun i => i ≤ zs.length) ?_ ?_
    · conv => whnf
      exact ⟨0, by omega, by simp [fillRow] <;> rfl⟩
    · intro i hi
      have hl := fillRow_len zs i hi
      repeat' (conv => whnf); first | refine EltN.mk _ (fillRow_at zs (by omega)) ?_ | refine Br.tt ?_ | refine Br.ff ?_ | refine Br.not ?_ | refine Br.dand (fun _ => ?_) (fun _ => ?_) | refine Br.dec (fun _ => ?_) (fun _ => ?_) | refine Br.beq (fun _ => ?_) (fun _ => ?_) | refine Br.bne (fun _ => ?_) (fun _ => ?_) | refine Br.seq (fun _ => ?_) (fun _ => ?_) | refine Elt.i (by omega) ?_ | refine EltN.i (by omega) ?_ | refine Nt.cast ?_ | refine Nt.mk _ rfl ?_ | refine EltN.mk _ rfl ?_ | refine Mx.mk _ rfl ?_ | refine Br.mk (fun _ => ?_) (fun _ => ?_) | refine EndP.mk ?_ trivial | refine EndP.mk ?_ ⟨.inr ⟨List.mem_cons_self .., ?_, rfl⟩, trivial⟩ | refine Ar.i64 (by omega) ?_ | refine Ar.u8 (by omega) ?_ | refine Quo.pos (by omega) ?_ | refine Rem.pos (by omega) ?_ | refine BsP.own ?_ | refine SetN.two ?_ | refine SetN.one ?_ | refine Ob.mk ⟨rfl, rfl⟩ ?_ | refine Ob.mk (flat_i _ _).1 ?_ | refine Ob.mk (flat_i _ _) ?_ | refine Ob.mk (flat_s _) ?_ | refine Ob.mk (by first | omega | (simp; first | done | fail) | (simp; omega)) ?_ | fail
      · conv => whnf
        refine ⟨i + 1, by omega, by omega, ?_⟩
        rw [fillRow_set zs (by omega)]
        rfl
      · obtain rfl : i = zs.length := by omega
        rw [fillRow_all]
        rfl

def sz1 (n : Nat) (left : Int) : Int := if left - n < 0 then -1 else left - n
theorem sz1_le (n : Nat) (left : Int) : (sz1 n left = -1 ∧ left - n < 0) ∨ (sz1 n left = left - n ∧ 0 ≤ left - n) := by unfold sz1; split <;> omega

theorem szIntS_vow (zs : List Int) (left : Int) (hz : zs.length ≤ 9223372036854775807) (hl : 0 ≤ left ∧ left ≤ 9000000000000000000) :
    Vow Tryz.prog 36 [iS zs, .i .i64 left] (.i .i64 (sz1 zs.length left)) [] := by
  have c := sz1_le zs.length left
  refine vow_of_ev (fn := Tryz.f36) [] [(0, 0), (5, 9), (9, 10), (0, 0), (11, 12)] tt_ok Tryz.func36 (by decide) rfl (Nat.le_of_ble_eq_true rfl) rfl rfl rfl ?_
  have hl0 : (zs.map (V.i .i64)).length = zs.length := by simp
  repeat' (conv => whnf); first | refine Br.tt ?_ | refine Br.ff ?_ | refine Br.not ?_ | refine Br.dand (fun _ => ?_) (fun _ => ?_) | refine Br.dec (fun _ => ?_) (fun _ => ?_) | refine Br.beq (fun _ => ?_) (fun _ => ?_) | refine Br.bne (fun _ => ?_) (fun _ => ?_) | refine Br.seq (fun _ => ?_) (fun _ => ?_) | refine Elt.i (by omega) ?_ | refine EltN.i (by omega) ?_ | refine Nt.cast ?_ | refine Nt.mk _ rfl ?_ | refine EltN.mk _ rfl ?_ | refine Mx.mk _ rfl ?_ | refine Br.mk (fun _ => ?_) (fun _ => ?_) | refine EndP.mk ?_ trivial | refine EndP.mk ?_ ⟨.inr ⟨List.mem_cons_self .., ?_, rfl⟩, trivial⟩ | refine Ar.i64 (by omega) ?_ | refine Ar.u8 (by omega) ?_ | refine Quo.pos (by omega) ?_ | refine Rem.pos (by omega) ?_ | refine BsP.own ?_ | refine SetN.two ?_ | refine SetN.one ?_ | refine Ob.mk ⟨rfl, rfl⟩ ?_ | refine Ob.mk (flat_i _ _).1 ?_ | refine Ob.mk (flat_i _ _) ?_ | refine Ob.mk (flat_s _) ?_ | refine Ob.mk (by first | omega | (simp; first | done | fail) | (simp; omega)) ?_ | fail
  · rw [show sz1 zs.length left = -1 by omega]; rfl
  · rw [show sz1 zs.length left = left - zs.length by omega, hl0]; rfl

def markL (n : Nat) (k : Int) : List Int := (List.range n).map fun (j : Nat) => k + j
theorem eq_next {a b : List Int} {i : Nat} (hl : a.length = b.length) (h : a.take i = b.take i) (hi : i < a.length) (he : rd a i = rd b i) : a.take (i + 1) = b.take (i + 1) := by
  rw [List.take_add_one, List.take_add_one, h]
  congr 1
  have h1 : a[i]? = some (rd a i) := by simp [rd, hi]
  have h2 : b[i]? = some (rd b i) := by simp [rd, show i < b.length by omega]
  rw [h1, h2, he]
theorem ne_at {a b : List Int} {i : Nat} (he : ¬ rd a i = rd b i) : ¬ a = b := fun h => he (by rw [h])

theorem eqIntS_vow (a b : List Int) (ha : a.length ≤ 17592186044416) (hb : b.length ≤ 17592186044416) : Vow Tryz.prog 57 [iS a, iS b] (.b (decide (a = b))) [] := by
  refine vow_of_ev (fn := Tryz.f57) [] [(0, 0), (6, 10), (0, 0), (0, 0), (11, 14), (15, 17), (17, 25), (0, 0), (0, 0)] tt_ok Tryz.func57 (by decide) rfl (Nat.le_of_ble_eq_true rfl) rfl rfl rfl ?_
  have l1 : (a.map (V.i .i64)).length = a.length := by simp
  have l2 : (b.map (V.i .i64)).length = b.length := by simp
  repeat' (conv => whnf); first | refine Br.tt ?_ | refine Br.ff ?_ | refine Br.not ?_ | refine Br.dand (fun _ => ?_) (fun _ => ?_) | refine Br.dec (fun _ => ?_) (fun _ => ?_) | refine Br.beq (fun _ => ?_) (fun _ => ?_) | refine Br.bne (fun _ => ?_) (fun _ => ?_) | refine Br.seq (fun _ => ?_) (fun _ => ?_) | refine Elt.i (by omega) ?_ | refine EltN.i (by omega) ?_ | refine Nt.cast ?_ | refine Nt.mk _ rfl ?_ | refine EltN.mk _ rfl ?_ | refine Mx.mk _ rfl ?_ | refine Br.mk (fun _ => ?_) (fun _ => ?_) | refine EndP.mk ?_ trivial | refine EndP.mk ?_ ⟨.inr ⟨List.mem_cons_self .., ?_, rfl⟩, trivial⟩ | refine Ar.i64 (by omega) ?_ | refine Ar.u8 (by omega) ?_ | refine Quo.pos (by omega) ?_ | refine Rem.pos (by omega) ?_ | refine BsP.own ?_ | refine SetN.two ?_ | refine SetN.one ?_ | refine Ob.mk ⟨rfl, rfl⟩ ?_ | refine Ob.mk (flat_i _ _).1 ?_ | refine Ob.mk (flat_i _ _) ?_ | refine Ob.mk (flat_s _) ?_ | refine Ob.mk (by first | omega | (simp; first | done | fail) | (simp; omega)) ?_ | fail
  · conv => whnf
    refine LoopP.mk [0,1,4,5] (fun i : Nat => [(0, iS a), (1, iS b), (4, .b false), (5, .i .i64 i)]) (fun i => a.length - i) (fun i => i ≤ a.length ∧ a.take i = b.take i) ?_ ?_
    · conv => whnf
      exact ⟨0, ⟨by omega, by simp⟩, rfl⟩
    · rintro i ⟨hi, ht⟩
      repeat' (conv => whnf); first | refine Br.tt ?_ | refine Br.ff ?_ | refine Br.not ?_ | refine Br.dand (fun _ => ?_) (fun _ => ?_) | refine Br.dec (fun _ => ?_) (fun _ => ?_) | refine Br.beq (fun _ => ?_) (fun _ => ?_) | refine Br.bne (fun _ => ?_) (fun _ => ?_) | refine Br.seq (fun _ => ?_) (fun _ => ?_) | refine Elt.i (by omega) ?_ | refine EltN.i (by omega) ?_ | refine Nt.cast ?_ | refine Nt.mk _ rfl ?_ | refine EltN.mk _ rfl ?_ | refine Mx.mk _ rfl ?_ | refine Br.mk (fun _ => ?_) (fun _ => ?_) | refine EndP.mk ?_ trivial | refine EndP.mk ?_ ⟨.inr ⟨List.mem_cons_self .., ?_, rfl⟩, trivial⟩ | refine Ar.i64 (by omega) ?_ | refine Ar.u8 (by omega) ?_ | refine Quo.pos (by omega) ?_ | refine Rem.pos (by omega) ?_ | refine BsP.own ?_ | refine SetN.two ?_ | refine SetN.one ?_ | refine Ob.mk ⟨rfl, rfl⟩ ?_ | refine Ob.mk (flat_i _ _).1 ?_ | refine Ob.mk (flat_i _ _) ?_ | refine Ob.mk (flat_s _) ?_ | refine Ob.mk (by first | omega | (simp; first | done | fail) | (simp; omega)) ?_ | fail
      · conv => whnf
        exact ⟨i + 1, ⟨by omega, eq_next (by omega) ht (by omega) (by assumption)⟩, by omega, rfl⟩
      · simp [resOf, ne_at (by assumption)]
      · obtain rfl : i = a.length := by omega
        have : a = b := by
          rw [List.take_length, show a.length = b.length by omega, List.take_length] at ht
          exact ht
        simp [resOf, this]
  · have : ¬ a = b := fun h => by subst h; omega
    simp [resOf, this]

def held (zs : List Int) (k : Int) : Int := if zs = markL zs.length k then k + zs.length else -1

structure Layout where
  cols : List Int
  rows : List Int
  who : List Int
  deriving DecidableEq
def layV (l : Layout) : V := .ag [iS l.cols, iS l.rows, iS l.who]
def layO (l : Layout) : V := .ag [iO l.cols, iO l.rows, iO l.who]
def Layout.fit (l : Layout) : Prop := l.cols.length ≤ 17592186044416 ∧ l.rows.length ≤ 17592186044416 ∧ l.who.length ≤ 17592186044416

end Go.Proofs.YtafipjhalboefaaGreat
