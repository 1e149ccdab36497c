/- Rows of numbers in the laws: copied, counted, compared, marked. No condition. -/
import Derived.Test.YtafipjhalboefaaSc
namespace Go.Proofs.Ytafipjhalboefaa
open Go Go.Vx
set_option linter.unusedVariables false
set_option linter.unusedSimpArgs false
set_option maxHeartbeats 600000
set_option maxRecDepth 100000

def iS (zs : List Int) : V := .sl (zs.map (.i .i64))
def iO (zs : List Int) : V := .ow 1 (zs.map (.i .i64))

/-- A row that is filled from the front. -/
def fillRow (zs : List Int) (i : Nat) : List V := (zs.take i).map (.i .i64) ++ List.replicate (zs.length - i) (.i .i64 0)
theorem fillRow_len (zs : List Int) (i : Nat) (h : i ≤ zs.length) : (fillRow zs i).length = zs.length := by simp [fillRow]; omega
theorem fillRow_all (zs : List Int) : fillRow zs zs.length = zs.map (.i .i64) := by simp [fillRow]
theorem fillRow_at (zs : List Int) {i : Nat} (h : i < zs.length) : (fillRow zs i)[i]? = some (.i .i64 0) := by
  unfold fillRow
  have hl : ((zs.take i).map (V.i .i64)).length = i := by simp; omega
  rw [List.getElem?_append_right (by omega), hl, Nat.sub_self, List.getElem?_replicate, if_pos (by omega)]
theorem fillRow_set (zs : List Int) {i : Nat} (h : i < zs.length) : (fillRow zs i).set i (.i .i64 (rd zs i)) = fillRow zs (i + 1) := by
  unfold fillRow
  have hl : ((zs.take i).map (V.i .i64)).length = i := by simp; omega
  rw [List.set_append_right _ _ (by omega), hl, Nat.sub_self, show zs.length - i = (zs.length - (i + 1)) + 1 by omega, List.replicate_succ, List.set_cons_zero, List.take_add_one]
  have hz : zs[i]?.toList = [rd zs i] := by simp [rd, h]
  rw [hz]
  simp

theorem toIntS_vow (zs : List Int) (hz : zs.length ≤ 17592186044416) : Vow Try.prog 31 [iS zs] (iO zs) [] := by
  refine vow_of_ev (fn := Try.f31) [] [(0, 0), (5, 8), (0, 0), (8, 11), (12, 14), (14, 21), (21, 22)] tt_ok Try.func31 (by decide) rfl (Nat.le_of_ble_eq_true rfl) rfl rfl rfl ?_
  have hl0 : (zs.map (V.i .i64)).length = zs.length := by simp
  repeat' (conv => whnf); first | refine Br.tt ?_ | refine Br.ff ?_ | refine Br.not ?_ | refine Br.dand (fun _ => ?_) (fun _ => ?_) | refine Br.dec (fun _ => ?_) (fun _ => ?_) | refine Br.beq (fun _ => ?_) (fun _ => ?_) | refine Br.bne (fun _ => ?_) (fun _ => ?_) | refine Br.seq (fun _ => ?_) (fun _ => ?_) | refine Elt.i (by omega) ?_ | refine EltN.i (by omega) ?_ | refine Nt.cast ?_ | refine Nt.mk _ rfl ?_ | refine EltN.mk _ rfl ?_ | refine Mx.mk _ rfl ?_ | refine Br.mk (fun _ => ?_) (fun _ => ?_) | refine EndP.mk ?_ trivial | refine EndP.mk ?_ ⟨.inr ⟨List.mem_cons_self .., ?_, rfl⟩, trivial⟩ | refine Ar.i64 (by omega) ?_ | refine Ar.u8 (by omega) ?_ | refine Quo.pos (by omega) ?_ | refine Rem.pos (by omega) ?_ | refine BsP.own ?_ | refine SetN.two ?_ | refine SetN.one ?_ | refine Ob.mk ⟨rfl, rfl⟩ ?_ | refine Ob.mk (flat_i _ _).1 ?_ | refine Ob.mk (flat_i _ _) ?_ | refine Ob.mk (flat_s _) ?_ | refine Ob.mk (by first | omega | (simp; first | done | fail) | (simp; omega)) ?_ | fail
  · conv => whnf
    refine LoopP.mk [0,2,3,4] (fun i : Nat => [(0, iS zs), (2, .nl), (3, .ow 1 (fillRow zs i)), (4, .i .i64 i)]) (fun i => zs.length - i) (fun i => i ≤ zs.length) ?_ ?_
    · conv => whnf
      exact ⟨0, by omega, by simp [fillRow] <;> rfl⟩
    · intro i hi
      have hl := fillRow_len zs i hi
      repeat' (conv => whnf); first | refine EltN.mk _ (fillRow_at zs (by omega)) ?_ | refine Br.tt ?_ | refine Br.ff ?_ | refine Br.not ?_ | refine Br.dand (fun _ => ?_) (fun _ => ?_) | refine Br.dec (fun _ => ?_) (fun _ => ?_) | refine Br.beq (fun _ => ?_) (fun _ => ?_) | refine Br.bne (fun _ => ?_) (fun _ => ?_) | refine Br.seq (fun _ => ?_) (fun _ => ?_) | refine Elt.i (by omega) ?_ | refine EltN.i (by omega) ?_ | refine Nt.cast ?_ | refine Nt.mk _ rfl ?_ | refine EltN.mk _ rfl ?_ | refine Mx.mk _ rfl ?_ | refine Br.mk (fun _ => ?_) (fun _ => ?_) | refine EndP.mk ?_ trivial | refine EndP.mk ?_ ⟨.inr ⟨List.mem_cons_self .., ?_, rfl⟩, trivial⟩ | refine Ar.i64 (by omega) ?_ | refine Ar.u8 (by omega) ?_ | refine Quo.pos (by omega) ?_ | refine Rem.pos (by omega) ?_ | refine BsP.own ?_ | refine SetN.two ?_ | refine SetN.one ?_ | refine Ob.mk ⟨rfl, rfl⟩ ?_ | refine Ob.mk (flat_i _ _).1 ?_ | refine Ob.mk (flat_i _ _) ?_ | refine Ob.mk (flat_s _) ?_ | refine Ob.mk (by first | omega | (simp; first | done | fail) | (simp; omega)) ?_ | fail
      · conv => whnf
        refine ⟨i + 1, by omega, by omega, ?_⟩
        rw [fillRow_set zs (by omega)]
        rfl
      · obtain rfl : i = zs.length := by omega
        rw [fillRow_all]
        rfl

def sz1 (n : Nat) (left : Int) : Int := if left - n < 0 then -1 else left - n
theorem sz1_le (n : Nat) (left : Int) : (sz1 n left = -1 ∧ left - n < 0) ∨ (sz1 n left = left - n ∧ 0 ≤ left - n) := by unfold sz1; split <;> omega

theorem szIntS_vow (zs : List Int) (left : Int) (hz : zs.length ≤ 9223372036854775807) (hl : 0 ≤ left ∧ left ≤ 9000000000000000000) :
    Vow Try.prog 23 [iS zs, .i .i64 left] (.i .i64 (sz1 zs.length left)) [] := by
  have c := sz1_le zs.length left
  refine vow_of_ev (fn := Try.f23) [] [(0, 0), (5, 9), (9, 10), (0, 0), (11, 12)] tt_ok Try.func23 (by decide) rfl (Nat.le_of_ble_eq_true rfl) rfl rfl rfl ?_
  have hl0 : (zs.map (V.i .i64)).length = zs.length := by simp
  repeat' (conv => whnf); first | refine Br.tt ?_ | refine Br.ff ?_ | refine Br.not ?_ | refine Br.dand (fun _ => ?_) (fun _ => ?_) | refine Br.dec (fun _ => ?_) (fun _ => ?_) | refine Br.beq (fun _ => ?_) (fun _ => ?_) | refine Br.bne (fun _ => ?_) (fun _ => ?_) | refine Br.seq (fun _ => ?_) (fun _ => ?_) | refine Elt.i (by omega) ?_ | refine EltN.i (by omega) ?_ | refine Nt.cast ?_ | refine Nt.mk _ rfl ?_ | refine EltN.mk _ rfl ?_ | refine Mx.mk _ rfl ?_ | refine Br.mk (fun _ => ?_) (fun _ => ?_) | refine EndP.mk ?_ trivial | refine EndP.mk ?_ ⟨.inr ⟨List.mem_cons_self .., ?_, rfl⟩, trivial⟩ | refine Ar.i64 (by omega) ?_ | refine Ar.u8 (by omega) ?_ | refine Quo.pos (by omega) ?_ | refine Rem.pos (by omega) ?_ | refine BsP.own ?_ | refine SetN.two ?_ | refine SetN.one ?_ | refine Ob.mk ⟨rfl, rfl⟩ ?_ | refine Ob.mk (flat_i _ _).1 ?_ | refine Ob.mk (flat_i _ _) ?_ | refine Ob.mk (flat_s _) ?_ | refine Ob.mk (by first | omega | (simp; first | done | fail) | (simp; omega)) ?_ | fail
  · rw [show sz1 zs.length left = -1 by omega]; rfl
  · rw [show sz1 zs.length left = left - zs.length by omega, hl0]; rfl

def markL (n : Nat) (k : Int) : List Int := (List.range n).map fun (j : Nat) => k + j
theorem markL_len (n : Nat) (k : Int) : (markL n k).length = n := by simp [markL]
theorem markL_succ (n : Nat) (k : Int) : markL (n + 1) k = markL n k ++ [k + n] := by simp [markL, List.range_succ]
def markAt (zs : List Int) (k : Int) (i : Nat) : List Int := markL i k ++ zs.drop i
theorem markAt_len (zs : List Int) (k : Int) {i : Nat} (h : i ≤ zs.length) : ((markAt zs k i).map (V.i .i64)).length = zs.length := by simp [markAt, markL_len]; omega
theorem markAt_set (zs : List Int) (k : Int) {i : Nat} (h : i < zs.length) : ((markAt zs k i).map (V.i .i64)).set i (.i .i64 (k + i)) = (markAt zs k (i + 1)).map (V.i .i64) := by
  rw [← List.map_set (f := V.i .i64) (a := k + i)]
  congr 1
  unfold markAt
  rw [List.set_append_right _ _ (by rw [markL_len]; omega), markL_len, Nat.sub_self, List.drop_eq_getElem_cons h, List.set_cons_zero, markL_succ]
  simp
theorem markAt_all (zs : List Int) (k : Int) : markAt zs k zs.length = markL zs.length k := by simp [markAt]

theorem eq_next {a b : List Int} {i : Nat} (hl : a.length = b.length) (h : a.take i = b.take i) (hi : i < a.length) (he : rd a i = rd b i) : a.take (i + 1) = b.take (i + 1) := by
  rw [List.take_add_one, List.take_add_one, h]
  congr 1
  have h1 : a[i]? = some (rd a i) := by simp [rd, hi]
  have h2 : b[i]? = some (rd b i) := by simp [rd, show i < b.length by omega]
  rw [h1, h2, he]
theorem ne_at {a b : List Int} {i : Nat} (he : ¬ rd a i = rd b i) : ¬ a = b := fun h => he (by rw [h])

theorem eqIntS_vow (a b : List Int) (ha : a.length ≤ 17592186044416) (hb : b.length ≤ 17592186044416) : Vow Try.prog 40 [iS a, iS b] (.b (decide (a = b))) [] := by
  refine vow_of_ev (fn := Try.f40) [] [(0, 0), (6, 10), (0, 0), (0, 0), (11, 14), (15, 17), (17, 25), (0, 0), (0, 0)] tt_ok Try.func40 (by decide) rfl (Nat.le_of_ble_eq_true rfl) rfl rfl rfl ?_
  have l1 : (a.map (V.i .i64)).length = a.length := by simp
  have l2 : (b.map (V.i .i64)).length = b.length := by simp
  repeat' (conv => whnf); first | refine Br.tt ?_ | refine Br.ff ?_ | refine Br.not ?_ | refine Br.dand (fun _ => ?_) (fun _ => ?_) | refine Br.dec (fun _ => ?_) (fun _ => ?_) | refine Br.beq (fun _ => ?_) (fun _ => ?_) | refine Br.bne (fun _ => ?_) (fun _ => ?_) | refine Br.seq (fun _ => ?_) (fun _ => ?_) | refine Elt.i (by omega) ?_ | refine EltN.i (by omega) ?_ | refine Nt.cast ?_ | refine Nt.mk _ rfl ?_ | refine EltN.mk _ rfl ?_ | refine Mx.mk _ rfl ?_ | refine Br.mk (fun _ => ?_) (fun _ => ?_) | refine EndP.mk ?_ trivial | refine EndP.mk ?_ ⟨.inr ⟨List.mem_cons_self .., ?_, rfl⟩, trivial⟩ | refine Ar.i64 (by omega) ?_ | refine Ar.u8 (by omega) ?_ | refine Quo.pos (by omega) ?_ | refine Rem.pos (by omega) ?_ | refine BsP.own ?_ | refine SetN.two ?_ | refine SetN.one ?_ | refine Ob.mk ⟨rfl, rfl⟩ ?_ | refine Ob.mk (flat_i _ _).1 ?_ | refine Ob.mk (flat_i _ _) ?_ | refine Ob.mk (flat_s _) ?_ | refine Ob.mk (by first | omega | (simp; first | done | fail) | (simp; omega)) ?_ | fail
  · conv => whnf
    refine LoopP.mk [0,1,4,5] (fun i : Nat => [(0, iS a), (1, iS b), (4, .b false), (5, .i .i64 i)]) (fun i => a.length - i) (fun i => i ≤ a.length ∧ a.take i = b.take i) ?_ ?_
    · conv => whnf
      exact ⟨0, ⟨by omega, by simp⟩, rfl⟩
    · rintro i ⟨hi, ht⟩
      repeat' (conv => whnf); first | refine Br.tt ?_ | refine Br.ff ?_ | refine Br.not ?_ | refine Br.dand (fun _ => ?_) (fun _ => ?_) | refine Br.dec (fun _ => ?_) (fun _ => ?_) | refine Br.beq (fun _ => ?_) (fun _ => ?_) | refine Br.bne (fun _ => ?_) (fun _ => ?_) | refine Br.seq (fun _ => ?_) (fun _ => ?_) | refine Elt.i (by omega) ?_ | refine EltN.i (by omega) ?_ | refine Nt.cast ?_ | refine Nt.mk _ rfl ?_ | refine EltN.mk _ rfl ?_ | refine Mx.mk _ rfl ?_ | refine Br.mk (fun _ => ?_) (fun _ => ?_) | refine EndP.mk ?_ trivial | refine EndP.mk ?_ ⟨.inr ⟨List.mem_cons_self .., ?_, rfl⟩, trivial⟩ | refine Ar.i64 (by omega) ?_ | refine Ar.u8 (by omega) ?_ | refine Quo.pos (by omega) ?_ | refine Rem.pos (by omega) ?_ | refine BsP.own ?_ | refine SetN.two ?_ | refine SetN.one ?_ | refine Ob.mk ⟨rfl, rfl⟩ ?_ | refine Ob.mk (flat_i _ _).1 ?_ | refine Ob.mk (flat_i _ _) ?_ | refine Ob.mk (flat_s _) ?_ | refine Ob.mk (by first | omega | (simp; first | done | fail) | (simp; omega)) ?_ | fail
      · conv => whnf
        exact ⟨i + 1, ⟨by omega, eq_next (by omega) ht (by omega) (by assumption)⟩, by omega, rfl⟩
      · simp [resOf, ne_at (by assumption)]
      · obtain rfl : i = a.length := by omega
        have : a = b := by
          rw [List.take_length, show a.length = b.length by omega, List.take_length] at ht
          exact ht
        simp [resOf, this]
  · have : ¬ a = b := fun h => by subst h; omega
    simp [resOf, this]

def held (zs : List Int) (k : Int) : Int := if zs = markL zs.length k then k + zs.length else -1

theorem held_next {zs : List Int} {k : Int} {i : Nat} (h : zs.take i = markL i k) (hi : i < zs.length) (he : rd zs i = k + i) : zs.take (i + 1) = markL (i + 1) k := by
  rw [List.take_add_one, h, markL_succ]
  congr 1
  have h1 : zs[i]? = some (rd zs i) := by simp [rd, hi]
  rw [h1, he]; rfl
theorem held_ne {zs : List Int} {k : Int} {i : Nat} (hi : i < zs.length) (he : ¬ rd zs i = k + i) : held zs k = -1 := by
  unfold held
  rw [if_neg]
  intro h
  apply he
  have : rd (markL zs.length k) i = k + i := by simp [rd, markL, hi]
  rw [← h] at this
  exact this

structure Layout where
  cols : List Int
  rows : List Int
  who : List Int
  deriving DecidableEq
def layV (l : Layout) : V := .ag [iS l.cols, iS l.rows, iS l.who]
def layO (l : Layout) : V := .ag [iO l.cols, iO l.rows, iO l.who]
def Layout.fit (l : Layout) : Prop := l.cols.length ≤ 17592186044416 ∧ l.rows.length ≤ 17592186044416 ∧ l.who.length ≤ 17592186044416


def Layout.fit0 (l : Layout) : Prop := l.cols.length ≤ 9223372036854775807 ∧ l.rows.length ≤ 9223372036854775807 ∧ l.who.length ≤ 9223372036854775807

theorem toLayout_vow (l : Layout) (h : l.fit) : Vow Try.prog 52 [layV l] (layO l) [] := by
  refine vow_of_ev (fn := Try.f52) [] [(0, 0), (0, 0), (4, 8), (8, 12), (12, 16), (16, 17)] tt_ok Try.func52 (by decide) rfl (Nat.le_of_ble_eq_true rfl) rfl rfl rfl ?_
  repeat' (conv => whnf); first | refine CallP.re (toIntS_vow l.cols h.1) (by first | with_reducible rfl | (simp only [imm_i, imm_s, imm_b, iO, layO, iS, layV]; first | done | fail)) rfl rfl rfl (by first | rfl | exact own_i _ _ | exact own_s _ | exact own_b _ | (simp [V.noSl, V.noSl.go, own_i, own_s, own_b, iO, layO, iS, layV]; first | done | fail)) ?_ | refine CallP.re (toIntS_vow l.rows h.2.1) (by first | with_reducible rfl | (simp only [imm_i, imm_s, imm_b, iO, layO, iS, layV]; first | done | fail)) rfl rfl rfl (by first | rfl | exact own_i _ _ | exact own_s _ | exact own_b _ | (simp [V.noSl, V.noSl.go, own_i, own_s, own_b, iO, layO, iS, layV]; first | done | fail)) ?_ | refine CallP.re (toIntS_vow l.who h.2.2) (by first | with_reducible rfl | (simp only [imm_i, imm_s, imm_b, iO, layO, iS, layV]; first | done | fail)) rfl rfl rfl (by first | rfl | exact own_i _ _ | exact own_s _ | exact own_b _ | (simp [V.noSl, V.noSl.go, own_i, own_s, own_b, iO, layO, iS, layV]; first | done | fail)) ?_ | refine Br.tt ?_ | refine Br.ff ?_ | refine Br.not ?_ | refine Br.dand (fun _ => ?_) (fun _ => ?_) | refine Br.dec (fun _ => ?_) (fun _ => ?_) | refine Br.beq (fun _ => ?_) (fun _ => ?_) | refine Br.bne (fun _ => ?_) (fun _ => ?_) | refine Br.seq (fun _ => ?_) (fun _ => ?_) | refine Elt.i (by omega) ?_ | refine EltN.i (by omega) ?_ | refine Nt.cast ?_ | refine Nt.mk _ rfl ?_ | refine EltN.mk _ rfl ?_ | refine Mx.mk _ rfl ?_ | refine Br.mk (fun _ => ?_) (fun _ => ?_) | refine EndP.mk ?_ trivial | refine EndP.mk ?_ ⟨.inr ⟨List.mem_cons_self .., ?_, rfl⟩, trivial⟩ | refine Ar.i64 (by omega) ?_ | refine Ar.u8 (by omega) ?_ | refine Quo.pos (by omega) ?_ | refine Rem.pos (by omega) ?_ | refine BsP.own ?_ | refine SetN.two ?_ | refine SetN.one ?_ | refine Ob.mk ⟨rfl, rfl⟩ ?_ | refine Ob.mk (flat_i _ _).1 ?_ | refine Ob.mk (flat_i _ _) ?_ | refine Ob.mk (flat_s _) ?_ | refine Ob.mk (by first | omega | (simp; first | done | fail) | (simp; omega)) ?_ | fail
  rfl

def szLayout (l : Layout) (left : Int) : Int :=
  if sz1 l.cols.length left < 0 then -1 else if sz1 l.rows.length (sz1 l.cols.length left) < 0 then -1
  else if sz1 l.who.length (sz1 l.rows.length (sz1 l.cols.length left)) < 0 then -1 else sz1 l.who.length (sz1 l.rows.length (sz1 l.cols.length left))

theorem szLayout_fit {l : Layout} (h : ¬ szLayout l 1048576 < 0) : l.fit := by
  have c1 := sz1_le l.cols.length 1048576
  have c2 := sz1_le l.rows.length (sz1 l.cols.length 1048576)
  have c3 := sz1_le l.who.length (sz1 l.rows.length (sz1 l.cols.length 1048576))
  unfold szLayout at h
  unfold Layout.fit
  split at h
  · omega
  · split at h
    · omega
    · split at h
      · omega
      · omega

theorem szLayout_vow (l : Layout) (h : l.fit0) (left : Int) (hl : 0 ≤ left ∧ left ≤ 9000000000000000000) : Vow Try.prog 43 [layV l, .i .i64 left] (.i .i64 (szLayout l left)) [] := by
  have hu := h
  unfold Layout.fit0 at hu
  refine vow_of_ev (fn := Try.f43) [] [(0, 0), (5, 9), (9, 10), (0, 0), (11, 15), (15, 16), (0, 0), (17, 21), (21, 22), (0, 0), (23, 24)] tt_ok Try.func43 (by decide) rfl (Nat.le_of_ble_eq_true rfl) rfl rfl rfl ?_
  have c1 := sz1_le l.cols.length left
  have c2 := sz1_le l.rows.length (sz1 l.cols.length left)
  have c3 := sz1_le l.who.length (sz1 l.rows.length (sz1 l.cols.length left))
  repeat' (conv => whnf); first | refine CallP.rd (szIntS_vow l.cols left h.1 (by omega)) rfl rfl rfl rfl ?_ | refine CallP.rd (szIntS_vow l.rows (sz1 l.cols.length left) h.2.1 (by omega)) rfl rfl rfl rfl ?_ | refine CallP.rd (szIntS_vow l.who (sz1 l.rows.length (sz1 l.cols.length left)) h.2.2 (by omega)) rfl rfl rfl rfl ?_ | refine Br.tt ?_ | refine Br.ff ?_ | refine Br.not ?_ | refine Br.dand (fun _ => ?_) (fun _ => ?_) | refine Br.dec (fun _ => ?_) (fun _ => ?_) | refine Br.beq (fun _ => ?_) (fun _ => ?_) | refine Br.bne (fun _ => ?_) (fun _ => ?_) | refine Br.seq (fun _ => ?_) (fun _ => ?_) | refine Elt.i (by omega) ?_ | refine EltN.i (by omega) ?_ | refine Nt.cast ?_ | refine Nt.mk _ rfl ?_ | refine EltN.mk _ rfl ?_ | refine Mx.mk _ rfl ?_ | refine Br.mk (fun _ => ?_) (fun _ => ?_) | refine EndP.mk ?_ trivial | refine EndP.mk ?_ ⟨.inr ⟨List.mem_cons_self .., ?_, rfl⟩, trivial⟩ | refine Ar.i64 (by omega) ?_ | refine Ar.u8 (by omega) ?_ | refine Quo.pos (by omega) ?_ | refine Rem.pos (by omega) ?_ | refine BsP.own ?_ | refine SetN.two ?_ | refine SetN.one ?_ | refine Ob.mk ⟨rfl, rfl⟩ ?_ | refine Ob.mk (flat_i _ _).1 ?_ | refine Ob.mk (flat_i _ _) ?_ | refine Ob.mk (flat_s _) ?_ | refine Ob.mk (by first | omega | (simp; first | done | fail) | (simp; omega)) ?_ | fail
  · rw [show szLayout l left = -1 by unfold szLayout; rw [if_pos (by omega)]]; rfl
  · rw [show szLayout l left = -1 by unfold szLayout; rw [if_neg (by omega), if_pos (by omega)]]; rfl
  · rw [show szLayout l left = -1 by unfold szLayout; rw [if_neg (by omega), if_neg (by omega), if_pos (by omega)]]; rfl
  · rw [show szLayout l left = sz1 l.who.length (sz1 l.rows.length (sz1 l.cols.length left)) by unfold szLayout; rw [if_neg (by omega), if_neg (by omega), if_neg (by omega)]]; rfl

theorem eqLayout_vow (a b : Layout) (ha : a.fit) (hb : b.fit) : Vow Try.prog 61 [layV a, layV b] (.b (decide (a = b))) [] := by
  obtain ⟨a1, a2, a3⟩ := a
  obtain ⟨b1, b2, b3⟩ := b
  refine vow_of_ev (fn := Try.f61) [] [(0, 0), (5, 10), (0, 0), (11, 16), (0, 0), (17, 22), (0, 0), (0, 0)] tt_ok Try.func61 (by decide) rfl (Nat.le_of_ble_eq_true rfl) rfl rfl rfl ?_
  repeat' (conv => whnf); first | refine CallP.rd (eqIntS_vow a1 b1 ha.1 hb.1) rfl rfl rfl rfl ?_ | refine CallP.rd (eqIntS_vow a2 b2 ha.2.1 hb.2.1) rfl rfl rfl rfl ?_ | refine CallP.rd (eqIntS_vow a3 b3 ha.2.2 hb.2.2) rfl rfl rfl rfl ?_ | refine Br.tt ?_ | refine Br.ff ?_ | refine Br.not ?_ | refine Br.dand (fun _ => ?_) (fun _ => ?_) | refine Br.dec (fun _ => ?_) (fun _ => ?_) | refine Br.beq (fun _ => ?_) (fun _ => ?_) | refine Br.bne (fun _ => ?_) (fun _ => ?_) | refine Br.seq (fun _ => ?_) (fun _ => ?_) | refine Elt.i (by omega) ?_ | refine EltN.i (by omega) ?_ | refine Nt.cast ?_ | refine Nt.mk _ rfl ?_ | refine EltN.mk _ rfl ?_ | refine Mx.mk _ rfl ?_ | refine Br.mk (fun _ => ?_) (fun _ => ?_) | refine EndP.mk ?_ trivial | refine EndP.mk ?_ ⟨.inr ⟨List.mem_cons_self .., ?_, rfl⟩, trivial⟩ | refine Ar.i64 (by omega) ?_ | refine Ar.u8 (by omega) ?_ | refine Quo.pos (by omega) ?_ | refine Rem.pos (by omega) ?_ | refine BsP.own ?_ | refine SetN.two ?_ | refine SetN.one ?_ | refine Ob.mk ⟨rfl, rfl⟩ ?_ | refine Ob.mk (flat_i _ _).1 ?_ | refine Ob.mk (flat_i _ _) ?_ | refine Ob.mk (flat_s _) ?_ | refine Ob.mk (by first | omega | (simp; first | done | fail) | (simp; omega)) ?_ | fail
  all_goals simp_all [resOf]

end Go.Proofs.Ytafipjhalboefaa
