/- Drawn layouts. Condition: no more than 2000000 bytes. -/
import Derived.Test.YtfcjjkfjdecakaaUd
import Derived.Test.YtfcjjkfjdecakaaUb
namespace Go.Proofs.Ytfcjjkfjdecakaa
open Go Go.Vx
set_option linter.unusedVariables false
set_option linter.unusedSimpArgs false
set_option maxHeartbeats 600000
set_option maxRecDepth 100000

def sideGo : Nat → Nat → Cur → List Int → List Int × Cur
  | 0, _, c, out => (out, c)
  | f + 1, i, c, out => if (i : Int) ≤ below c 3 then sideGo f (i + 1) (belowNext (belowNext c 3) 2) (out ++ [1 + below (belowNext c 3) 2]) else (out, belowNext c 3)
def sides (c : Cur) : List Int × Cur := sideGo 4 0 c []
def side2 (l : List Int) : Prop := (1 ≤ l.length ∧ l.length ≤ 3) ∧ ∀ j, j < l.length → 1 ≤ rd l j ∧ rd l j ≤ 2
theorem rd_app (a : List Int) (x : Int) : ∀ j, rd (a ++ [x]) j = if j < a.length then rd a j else if j = a.length then x else 0 := fun j => by
  unfold rd
  by_cases h : j < a.length
  · rw [if_pos h]; simp [List.getElem?_append_left h]
  · rw [if_neg h]
    by_cases h2 : j = a.length
    · rw [if_pos h2, h2]; simp
    · rw [if_neg h2, List.getD_eq_getElem?_getD, List.getElem?_eq_none (by simp; omega)]; rfl
theorem sideGo_good : ∀ (f i : Nat) (c : Cur) (out : List Int), f + i = 4 → i ≤ 3 → out.length = i → c.ok → (∀ j, j < out.length → 1 ≤ rd out j ∧ rd out j ≤ 2) → side2 (sideGo f i c out).1 ∧ (sideGo f i c out).2.ok
  | 0, i, c, out, hf, hi, _, _, _ => by omega
  | f + 1, i, c, out, hf, hi, hl, hc, hg => by
    have hb := below_fit c (n := 3) (by omega)
    have hb2 := below_fit (belowNext c 3) (n := 2) (by omega)
    have o1 := belowNext_ok hc 3
    simp only [sideGo]
    split
    · refine sideGo_good f (i + 1) _ _ (by omega) (by omega) (by simp [hl]) (belowNext_ok o1 2) (fun j hj => ?_)
      rw [rd_app]
      split
      · exact hg j (by assumption)
      · split
        · omega
        · simp at hj; omega
    · exact ⟨⟨⟨by simp only; omega, by simp only; omega⟩, hg⟩, o1⟩
theorem sides_good {c : Cur} (h : c.ok) : side2 (sides c).1 ∧ (sides c).2.ok := sideGo_good 4 0 c [] rfl (by omega) rfl h (by simp)


theorem l05Sides_vow (c : Cur) (h : c.ok) : Vow Try.prog 152 [curV c] (iO (sides c).1) [curV (sides c).2] := by
  refine vow_of_ev (fn := Try.f152) [0] [(0, 0), (5, 6), (0, 0), (6, 9), (10, 12), (12, 18), (18, 19)] tt_ok Try.func152 (by decide) rfl (Nat.le_of_ble_eq_true rfl) rfl rfl rfl ?_
  repeat' (conv => whnf); first | refine Br.tt ?_ | refine Br.ff ?_ | refine Br.not ?_ | refine Br.dand (fun _ => ?_) (fun _ => ?_) | refine Br.dec (fun _ => ?_) (fun _ => ?_) | refine Br.beq (fun _ => ?_) (fun _ => ?_) | refine Br.bne (fun _ => ?_) (fun _ => ?_) | refine Br.seq (fun _ => ?_) (fun _ => ?_) | refine Elt.i (by omega) ?_ | refine EltN.i (by omega) ?_ | refine Nt.cast ?_ | refine Nt.mk _ rfl ?_ | refine EltN.mk _ rfl ?_ | refine Mx.mk _ rfl ?_ | refine Br.mk (fun _ => ?_) (fun _ => ?_) | refine EndP.mk ?_ trivial | refine EndP.mk ?_ ⟨.inr ⟨List.mem_cons_self .., ?_, rfl⟩, trivial⟩ | refine Ar.i64 (by omega) ?_ | refine Ar.u8 (by omega) ?_ | refine Quo.pos (by omega) ?_ | refine Rem.pos (by omega) ?_ | refine BsP.own ?_ | refine Ob.mk ⟨rfl, rfl⟩ ?_ | refine Ob.mk (flat_i _ _).1 ?_ | refine Ob.mk (flat_i _ _) ?_ | refine Ob.mk (flat_s _) ?_ | refine Ob.mk (by first | omega | (simp; first | done | fail) | (simp; omega)) ?_ | fail
  · conv => whnf
    refine LoopP.mk [0,2,3,4] (fun s : Nat × Cur × List Int => [(0, curV s.2.1), (2, .nl), (3, iO s.2.2), (4, .i .i64 s.1)]) (fun s => 3 - s.1) (fun s => s.2.1.ok ∧ s.1 ≤ 3 ∧ s.2.2.length = s.1 ∧ sideGo (4 - s.1) s.1 s.2.1 s.2.2 = sides c) ?_ ?_
    · conv => whnf
      exact ⟨(0, c, []), ⟨h, by omega, rfl, rfl⟩, rfl⟩
    · rintro ⟨i, d, out⟩ ⟨hc, hi, hlen, hrun⟩
      simp only at hc hi hlen hrun
      have hb := below_fit d (n := 3) (by omega)
      have hb2 := below_fit (belowNext d 3) (n := 2) (by omega)
      have o1 := belowNext_ok hc 3
      have o2 := belowNext_ok o1 2
      have hmap : (out.map (V.i .i64)).length = out.length := by simp
      obtain ⟨f, hf⟩ : ∃ f, 4 - i = f + 1 := ⟨3 - i, by omega⟩
      repeat' (conv => whnf); first | refine CallP.ho [([2], [2])] (l01Below_vow d hc 3) rfl rfl ?_ | refine CallP.ho [([2], [2])] (l01Below_vow (belowNext d 3) o1 2) rfl rfl ?_ | refine Br.tt ?_ | refine Br.ff ?_ | refine Br.not ?_ | refine Br.dand (fun _ => ?_) (fun _ => ?_) | refine Br.dec (fun _ => ?_) (fun _ => ?_) | refine Br.beq (fun _ => ?_) (fun _ => ?_) | refine Br.bne (fun _ => ?_) (fun _ => ?_) | refine Br.seq (fun _ => ?_) (fun _ => ?_) | refine Elt.i (by omega) ?_ | refine EltN.i (by omega) ?_ | refine Nt.cast ?_ | refine Nt.mk _ rfl ?_ | refine EltN.mk _ rfl ?_ | refine Mx.mk _ rfl ?_ | refine Br.mk (fun _ => ?_) (fun _ => ?_) | refine EndP.mk ?_ trivial | refine EndP.mk ?_ ⟨.inr ⟨List.mem_cons_self .., ?_, rfl⟩, trivial⟩ | refine Ar.i64 (by omega) ?_ | refine Ar.u8 (by omega) ?_ | refine Quo.pos (by omega) ?_ | refine Rem.pos (by omega) ?_ | refine BsP.own ?_ | refine Ob.mk ⟨rfl, rfl⟩ ?_ | refine Ob.mk (flat_i _ _).1 ?_ | refine Ob.mk (flat_i _ _) ?_ | refine Ob.mk (flat_s _) ?_ | refine Ob.mk (by first | omega | (simp; first | done | fail) | (simp; omega)) ?_ | fail
      · conv => whnf
        refine ⟨(i + 1, belowNext (belowNext d 3) 2, out ++ [1 + below (belowNext d 3) 2]), ⟨o2, by omega, by simp [hlen], ?_⟩, by simp only; omega, ?_⟩
        · simp only
          rw [show 4 - (i + 1) = f by omega, ← hrun, hf, sideGo, if_pos (by omega)]
        · simp only [iO, List.map_append]
          rfl
      · rw [show sides c = (out, belowNext d 3) by rw [← hrun, hf, sideGo, if_neg (by omega)]]
        rfl
      · rw [show sides c = (out, belowNext d 3) by rw [← hrun, hf, sideGo, if_neg (by omega)]]
        rfl

def whoGo (n first : Int) : Nat → Nat → Cur → List Int → List Int × Cur
  | 0, _, c, ws => (ws, c)
  | f + 1, i, c, ws => if (i : Int) < n then (if i < 6 then whoGo n first f (i + 1) (belowNext c 5) (ws ++ [if below c 5 = 0 then -1 else (first + i) % 6]) else whoGo n first f (i + 1) c (ws ++ [-1])) else (ws, c)
def whoV : List Int → V
  | [] => .nl
  | x :: r => .ow 1 ((x :: r).map (.i .i64))
def whoE (first : Int) (ws : List Int) : Prop := ∀ j, j < ws.length → rd ws j = -1 ∨ (j < 6 ∧ rd ws j = (first + j) % 6)
theorem whoE_app {first : Int} {ws : List Int} {x : Int} (h : whoE first ws) (hx : x = -1 ∨ (ws.length < 6 ∧ x = (first + ws.length) % 6)) : whoE first (ws ++ [x]) := fun j hj => by
  rw [rd_app]
  split
  · exact h j (by assumption)
  · rw [List.length_append, List.length_singleton] at hj
    have : j = ws.length := by omega
    rw [if_pos this, this]; exact hx
theorem whoGo_good (n first : Int) : ∀ (f i : Nat) (c : Cur) (ws : List Int), n ≤ (f : Int) + i → (i : Int) ≤ n → ws.length = i → c.ok → whoE first ws → whoE first (whoGo n first f i c ws).1 ∧ ((whoGo n first f i c ws).1.length : Int) = n ∧ (whoGo n first f i c ws).2.ok
  | 0, i, c, ws, hf, hi, hl, hc, hg => ⟨hg, by simp only [whoGo]; omega, hc⟩
  | f + 1, i, c, ws, hf, hi, hl, hc, hg => by
    simp only [whoGo]
    split
    · split
      · refine whoGo_good n first f (i + 1) _ _ (by omega) (by omega) (by simp [hl]) (belowNext_ok hc 5) (whoE_app hg ?_)
        split
        · exact .inl rfl
        · exact .inr ⟨by omega, by rw [hl]⟩
      · exact whoGo_good n first f (i + 1) _ _ (by omega) (by omega) (by simp [hl]) hc (whoE_app hg (.inl rfl))
    · exact ⟨hg, by show (ws.length : Int) = n; omega, hc⟩

/-- A drawn layout's sides, and the cursor behind them. -/
def rightS (c : Cur) : List Int × List Int × Cur :=
  ((sides c).1, if below (sides (sides c).2).2 2 = 0 then [1] else (sides (sides c).2).1, belowNext (sides (sides c).2).2 2)
def rightL (c : Cur) : Layout × Cur :=
  let n : Int := ((rightS c).1.length : Int) * ((rightS c).2.1.length : Int)
  let w := whoGo n (below (rightS c).2.2 6) 10 0 (belowNext (rightS c).2.2 6) []
  (⟨(rightS c).1, (rightS c).2.1, w.1⟩, w.2)
theorem rightS_good {c : Cur} (h : c.ok) : side2 (rightS c).1 ∧ side2 (rightS c).2.1 ∧ (rightS c).2.2.ok := by
  obtain ⟨h1, h2⟩ := sides_good h
  obtain ⟨h3, h4⟩ := sides_good h2
  refine ⟨h1, ?_, belowNext_ok h4 2⟩
  unfold rightS
  simp only
  split
  · exact ⟨by decide, fun j hj => by
      have : j = 0 := by simpa using hj
      subst this
      decide⟩
  · exact h3
theorem sum2 {l : List Int} : ∀ (i : Nat), (∀ j, j < i → 1 ≤ rd l j ∧ rd l j ≤ 2) → (i : Int) ≤ sumI l i ∧ sumI l i ≤ 2 * i
  | 0, _ => by simp [sumI]
  | i + 1, h => by
    have h1 := sum2 i (fun j hj => h j (by omega))
    have h2 := h i (by omega)
    simp only [sumI]
    omega
theorem side2_sum {l : List Int} (h : side2 l) : 1 ≤ sideSum l ∧ sideSum l ≤ 6 := by
  have h2 := sum2 l.length h.2
  have h3 := h.1
  rw [sideSum, if_pos ⟨⟨h.1.1, by omega⟩, fun j hj => by have := h.2 j hj; omega⟩]
  omega
theorem level_2 {c r : List Int} (hc : side2 c) (hr : side2 r) : ¬ levelFor c r = 0 := by
  have h1 := side2_sum hc
  have h2 := side2_sum hr
  have h3 : 1 ≤ squares c r := by
    unfold squares
    have := Int.mul_le_mul h1.1 h2.1 (by omega) (by omega)
    omega
  have h4 : squares c r ≤ 36 := by
    unfold squares
    have := Int.mul_le_mul h1.2 h2.2 (by omega) (by omega)
    omega
  have hs : seqOk 2 3 c r = true := by
    rw [seqOk_iff]
    have : levelSq 2 = 64 := rfl
    omega
  unfold levelFor
  split
  · omega
  · first
      | omega
      | (rw [if_pos hs]; omega)
theorem len_9 {a b : Nat} (ha : a ≤ 3) (hb : b ≤ 3) : a * b ≤ 9 := Nat.mul_le_mul ha hb
theorem rightL_good {c : Cur} (h : c.ok) : layoutOk (rightL c).1 ∧ (rightL c).2.ok := by
  obtain ⟨h1, h2, h3⟩ := rightS_good h
  have hn := len_9 h1.1.2 h2.1.2
  have hf := below_fit (rightS c).2.2 (n := 6) (by omega)
  have hcast : (((rightS c).1.length : Int) * ((rightS c).2.1.length : Int)) = (((rightS c).1.length * (rightS c).2.1.length : Nat) : Int) := by simp
  obtain ⟨w1, w2, w3⟩ := whoGo_good (((rightS c).1.length : Int) * ((rightS c).2.1.length : Int)) (below (rightS c).2.2 6) 10 0 (belowNext (rightS c).2.2 6) [] (by rw [hcast]; omega) (by rw [hcast]; omega) rfl (belowNext_ok h3 6) (fun j hj => by simp at hj)
  refine ⟨⟨level_2 h1 h2, ?_, fun i hi => ?_⟩, w3⟩
  · show (whoGo _ _ 10 0 _ []).1.length = _
    rw [hcast] at w2
    rw [hcast]
    exact Int.ofNat.inj w2
  · have hwi := w1 i hi
    refine ⟨by show -1 ≤ rd (whoGo _ _ 10 0 _ []).1 i ∧ rd (whoGo _ _ 10 0 _ []).1 i ≤ 5; omega, fun k hk hh => ?_⟩
    have hwk := w1 k (by have : i < (whoGo _ _ 10 0 _ []).1.length := hi; omega)
    have e1 : rd (rightL c).1.who i = rd (whoGo (((rightS c).1.length : Int) * ((rightS c).2.1.length : Int)) (below (rightS c).2.2 6) 10 0 (belowNext (rightS c).2.2 6) []).1 i := rfl
    have e2 : rd (rightL c).1.who k = rd (whoGo (((rightS c).1.length : Int) * ((rightS c).2.1.length : Int)) (below (rightS c).2.2 6) 10 0 (belowNext (rightS c).2.2 6) []).1 k := rfl
    rw [e1, e2] at hh
    omega


theorem layO_of (l : Layout) : layO l = .ag [iO l.cols, iO l.rows, iO l.who] := rfl
set_option maxHeartbeats 6000000 in
theorem l25Right_vow (c : Cur) (h : c.ok) : Vow Try.prog 92 [curV c] (layO (rightL c).1) [curV (rightL c).2] := by
  obtain ⟨s1, o1⟩ := sides_good h
  obtain ⟨s2, o2⟩ := sides_good o1
  have o3 := belowNext_ok o2 2
  have o4 := belowNext_ok o3 6
  have hf := below_fit (belowNext (sides (sides c).2).2 2) (n := 6) (by omega)
  refine vow_of_ev (fn := Try.f92) [0] [(0, 0), (6, 11), (11, 12), (13, 15), (15, 17), (0, 0), (17, 25), (26, 28), (28, 34), (35, 44), (44, 49), (49, 50)] tt_ok Try.func92 (by decide) rfl (Nat.le_of_ble_eq_true rfl) rfl rfl rfl ?_
  repeat' (conv => whnf); first | refine CallP.ho [([2], [2])] (l05Sides_vow c h) rfl rfl ?_ | refine CallP.ho [([2], [2])] (l05Sides_vow (sides c).2 o1) rfl rfl ?_ | refine CallP.ho [([2], [2])] (l01Once_vow (sides (sides c).2).2 o2 2) rfl rfl ?_ | refine Br.tt ?_ | refine Br.ff ?_ | refine Br.not ?_ | refine Br.dand (fun _ => ?_) (fun _ => ?_) | refine Br.dec (fun _ => ?_) (fun _ => ?_) | refine Br.beq (fun _ => ?_) (fun _ => ?_) | refine Br.bne (fun _ => ?_) (fun _ => ?_) | refine Br.seq (fun _ => ?_) (fun _ => ?_) | refine Elt.i (by omega) ?_ | refine EltN.i (by omega) ?_ | refine Nt.cast ?_ | refine Nt.mk _ rfl ?_ | refine EltN.mk _ rfl ?_ | refine Mx.mk _ rfl ?_ | refine Br.mk (fun _ => ?_) (fun _ => ?_) | refine EndP.mk ?_ trivial | refine EndP.mk ?_ ⟨.inr ⟨List.mem_cons_self .., ?_, rfl⟩, trivial⟩ | refine Ar.i64 (by omega) ?_ | refine Ar.u8 (by omega) ?_ | refine Quo.pos (by omega) ?_ | refine Rem.pos (by omega) ?_ | refine BsP.own ?_ | refine Ob.mk ⟨rfl, rfl⟩ ?_ | refine Ob.mk (flat_i _ _).1 ?_ | refine Ob.mk (flat_i _ _) ?_ | refine Ob.mk (flat_s _) ?_ | refine Ob.mk (by first | omega | (simp; first | done | fail) | (simp; omega)) ?_ | fail
  · have hR : rightS c = ((sides c).1, [1], belowNext (sides (sides c).2).2 2) := by unfold rightS; rw [if_pos (by assumption)]
    obtain ⟨rows, hrows⟩ : ∃ r : List Int, r = [1] := ⟨_, rfl⟩
    have s3 : side2 rows := by have := (rightS_good h).2.1; rw [hR] at this; rw [hrows]; exact this
    rw [← hrows] at hR
    have hL : rightL c = (⟨(sides c).1, rows, (whoGo (((sides c).1.length : Int) * (rows.length : Int)) (below (belowNext (sides (sides c).2).2 2) 6) 10 0 (belowNext (belowNext (sides (sides c).2).2 2) 6) []).1⟩, (whoGo (((sides c).1.length : Int) * (rows.length : Int)) (below (belowNext (sides (sides c).2).2 2) 6) 10 0 (belowNext (belowNext (sides (sides c).2).2 2) 6) []).2) := by
      unfold rightL; rw [hR]
    rw [hL]
    clear hL hR
    generalize hcols : (sides c).1 = cols at *
    generalize hfirst : below (belowNext (sides (sides c).2).2 2) 6 = first at *
    have m1 : (cols.map (V.i .i64)).length = cols.length := by simp
    have m2 : (rows.map (V.i .i64)).length = rows.length := by simp
    have hprod : (((cols.map (V.i .i64)).length : Int) * ((rows.map (V.i .i64)).length : Int)) = ((cols.length * rows.length : Nat) : Int) := by rw [m1, m2]; simp
    have hprod2 : ((cols.length : Int) * (rows.length : Int)) = ((cols.length * rows.length : Nat) : Int) := by simp
    have hn9 := len_9 s1.1.2 s3.1.2
    have hn1 : 1 * 1 ≤ cols.length * rows.length := Nat.mul_le_mul s1.1.1 s3.1.1
    repeat' (conv => whnf); first | refine CallP.ho [([2], [2])] (l01Below_vow (belowNext (sides (sides c).2).2 2) o3 6) rfl rfl ?_ | refine Br.tt ?_ | refine Br.ff ?_ | refine Br.not ?_ | refine Br.dand (fun _ => ?_) (fun _ => ?_) | refine Br.dec (fun _ => ?_) (fun _ => ?_) | refine Br.beq (fun _ => ?_) (fun _ => ?_) | refine Br.bne (fun _ => ?_) (fun _ => ?_) | refine Br.seq (fun _ => ?_) (fun _ => ?_) | refine Elt.i (by omega) ?_ | refine EltN.i (by omega) ?_ | refine Nt.cast ?_ | refine Nt.mk _ rfl ?_ | refine EltN.mk _ rfl ?_ | refine Mx.mk _ rfl ?_ | refine Br.mk (fun _ => ?_) (fun _ => ?_) | refine EndP.mk ?_ trivial | refine EndP.mk ?_ ⟨.inr ⟨List.mem_cons_self .., ?_, rfl⟩, trivial⟩ | refine Ar.i64 (by omega) ?_ | refine Ar.u8 (by omega) ?_ | refine Quo.pos (by omega) ?_ | refine Rem.pos (by omega) ?_ | refine BsP.own ?_ | refine Ob.mk ⟨rfl, rfl⟩ ?_ | refine Ob.mk (flat_i _ _).1 ?_ | refine Ob.mk (flat_i _ _) ?_ | refine Ob.mk (flat_s _) ?_ | refine Ob.mk (by first | omega | (simp; first | done | fail) | (simp; omega)) ?_ | fail
    conv => whnf
    refine LoopP.mk [0,2,3,4,5] (fun s : Nat × Cur × List Int => [(0, curV s.2.1), (2, .bx [.nl, .nl, .nl]), (3, .bx [iO cols, iO rows, whoV s.2.2]), (4, .i .i64 first), (5, .i .i64 s.1)]) (fun s => 9 - s.1)
      (fun s => s.2.1.ok ∧ s.2.2.length = s.1 ∧ s.1 ≤ 9 ∧ (s.1 : Int) ≤ (cols.length : Int) * (rows.length : Int) ∧ whoGo ((cols.length : Int) * (rows.length : Int)) first (10 - s.1) s.1 s.2.1 s.2.2 = whoGo ((cols.length : Int) * (rows.length : Int)) first 10 0 (belowNext (belowNext (sides (sides c).2).2 2) 6) []) ?_ ?_
    · conv => whnf
      refine ⟨(0, belowNext (belowNext (sides (sides c).2).2 2) 6, []), ⟨o4, rfl, by simp only; omega, by simp only; omega, rfl⟩, ?_⟩
      rw [hrows, hfirst]
      rfl
    · rintro ⟨i, d, ws⟩ ⟨hd, hlen, hi, hin, hrun⟩
      simp only at hd hlen hi hin hrun
      obtain ⟨f, hf2⟩ : ∃ f, 10 - i = f + 1 := ⟨9 - i, by omega⟩
      by_cases hlt : (i : Int) < (cols.length : Int) * (rows.length : Int)
      · cases ws with
        | nil =>
          simp only [List.length_nil] at hlen
          repeat' (conv => whnf); first | refine CallP.ho [([2], [2])] (l01Once_vow d hd 5) rfl rfl ?_ | refine Br.tt ?_ | refine Br.ff ?_ | refine Br.not ?_ | refine Br.dand (fun _ => ?_) (fun _ => ?_) | refine Br.dec (fun _ => ?_) (fun _ => ?_) | refine Br.beq (fun _ => ?_) (fun _ => ?_) | refine Br.bne (fun _ => ?_) (fun _ => ?_) | refine Br.seq (fun _ => ?_) (fun _ => ?_) | refine Elt.i (by omega) ?_ | refine EltN.i (by omega) ?_ | refine Nt.cast ?_ | refine Nt.mk _ rfl ?_ | refine EltN.mk _ rfl ?_ | refine Mx.mk _ rfl ?_ | refine Br.mk (fun _ => ?_) (fun _ => ?_) | refine EndP.mk ?_ trivial | refine EndP.mk ?_ ⟨.inr ⟨List.mem_cons_self .., ?_, rfl⟩, trivial⟩ | refine Ar.i64 (by omega) ?_ | refine Ar.u8 (by omega) ?_ | refine Quo.pos (by omega) ?_ | refine Rem.pos (by omega) ?_ | refine BsP.own ?_ | refine Ob.mk ⟨rfl, rfl⟩ ?_ | refine Ob.mk (flat_i _ _).1 ?_ | refine Ob.mk (flat_i _ _) ?_ | refine Ob.mk (flat_s _) ?_ | refine Ob.mk (by first | omega | (simp; first | done | fail) | (simp; omega)) ?_ | fail
          all_goals first
            | (exfalso; omega)
            | (conv => whnf
               refine ⟨(i + 1, belowNext d 5, ([] : List Int) ++ [(first + i) % 6]), ⟨belowNext_ok hd 5, by simp; omega, by simp only; omega, by simp only; omega, ?_⟩, by simp only; omega, ?_⟩
               · simp only
                 rw [show 10 - (i + 1) = f by omega, ← hrun, hf2, whoGo, if_pos (by omega), if_pos (by omega), if_neg (by omega)]
               · simp only [whoV, iO, List.map_append, List.map_cons, List.map_nil, List.cons_append, List.nil_append]
                 rfl)
            | (conv => whnf
               refine ⟨(i + 1, belowNext d 5, ([] : List Int) ++ [-1]), ⟨belowNext_ok hd 5, by simp; omega, by simp only; omega, by simp only; omega, ?_⟩, by simp only; omega, ?_⟩
               · simp only
                 rw [show 10 - (i + 1) = f by omega, ← hrun, hf2, whoGo, if_pos (by omega), if_pos (by omega), if_pos (by omega)]
               · simp only [whoV, iO, List.map_append, List.map_cons, List.map_nil, List.cons_append, List.nil_append]
                 rfl)
            | (conv => whnf
               refine ⟨(i + 1, d, ([] : List Int) ++ [-1]), ⟨hd, by simp; omega, by simp only; omega, by simp only; omega, ?_⟩, by simp only; omega, ?_⟩
               · simp only
                 rw [show 10 - (i + 1) = f by omega, ← hrun, hf2, whoGo, if_pos (by omega), if_neg (by omega)]
               · simp only [whoV, iO, List.map_append, List.map_cons, List.map_nil, List.cons_append, List.nil_append]
                 rfl)
        | cons x ws =>
          have hwl : (List.map (V.i .i64) ws).length = ws.length := by simp
          simp only [List.length_cons] at hlen
          repeat' (conv => whnf); first | refine CallP.ho [([2], [2])] (l01Once_vow d hd 5) rfl rfl ?_ | refine Br.tt ?_ | refine Br.ff ?_ | refine Br.not ?_ | refine Br.dand (fun _ => ?_) (fun _ => ?_) | refine Br.dec (fun _ => ?_) (fun _ => ?_) | refine Br.beq (fun _ => ?_) (fun _ => ?_) | refine Br.bne (fun _ => ?_) (fun _ => ?_) | refine Br.seq (fun _ => ?_) (fun _ => ?_) | refine Elt.i (by omega) ?_ | refine EltN.i (by omega) ?_ | refine Nt.cast ?_ | refine Nt.mk _ rfl ?_ | refine EltN.mk _ rfl ?_ | refine Mx.mk _ rfl ?_ | refine Br.mk (fun _ => ?_) (fun _ => ?_) | refine EndP.mk ?_ trivial | refine EndP.mk ?_ ⟨.inr ⟨List.mem_cons_self .., ?_, rfl⟩, trivial⟩ | refine Ar.i64 (by omega) ?_ | refine Ar.u8 (by omega) ?_ | refine Quo.pos (by omega) ?_ | refine Rem.pos (by omega) ?_ | refine BsP.own ?_ | refine Ob.mk ⟨rfl, rfl⟩ ?_ | refine Ob.mk (flat_i _ _).1 ?_ | refine Ob.mk (flat_i _ _) ?_ | refine Ob.mk (flat_s _) ?_ | refine Ob.mk (by first | omega | (simp; first | done | fail) | (simp; omega)) ?_ | fail
          all_goals first
            | (exfalso; omega)
            | (conv => whnf
               refine ⟨(i + 1, belowNext d 5, (x :: ws) ++ [(first + i) % 6]), ⟨belowNext_ok hd 5, by simp; omega, by simp only; omega, by simp only; omega, ?_⟩, by simp only; omega, ?_⟩
               · simp only
                 rw [show 10 - (i + 1) = f by omega, ← hrun, hf2, whoGo, if_pos (by omega), if_pos (by omega), if_neg (by omega)]
               · simp only [whoV, iO, List.map_append, List.map_cons, List.map_nil, List.cons_append, List.nil_append]
                 rfl)
            | (conv => whnf
               refine ⟨(i + 1, belowNext d 5, (x :: ws) ++ [-1]), ⟨belowNext_ok hd 5, by simp; omega, by simp only; omega, by simp only; omega, ?_⟩, by simp only; omega, ?_⟩
               · simp only
                 rw [show 10 - (i + 1) = f by omega, ← hrun, hf2, whoGo, if_pos (by omega), if_pos (by omega), if_pos (by omega)]
               · simp only [whoV, iO, List.map_append, List.map_cons, List.map_nil, List.cons_append, List.nil_append]
                 rfl)
            | (conv => whnf
               refine ⟨(i + 1, d, (x :: ws) ++ [-1]), ⟨hd, by simp; omega, by simp only; omega, by simp only; omega, ?_⟩, by simp only; omega, ?_⟩
               · simp only
                 rw [show 10 - (i + 1) = f by omega, ← hrun, hf2, whoGo, if_pos (by omega), if_neg (by omega)]
               · simp only [whoV, iO, List.map_append, List.map_cons, List.map_nil, List.cons_append, List.nil_append]
                 rfl)
      · have hdone : whoGo ((cols.length : Int) * (rows.length : Int)) first 10 0 (belowNext (belowNext (sides (sides c).2).2 2) 6) [] = (ws, d) := by rw [← hrun, hf2, whoGo, if_neg hlt]
        rw [hdone]
        cases ws with
        | nil => exfalso; simp at hlen; omega
        | cons x ws =>
          repeat' (conv => whnf); first | refine Br.tt ?_ | refine Br.ff ?_ | refine Br.not ?_ | refine Br.dand (fun _ => ?_) (fun _ => ?_) | refine Br.dec (fun _ => ?_) (fun _ => ?_) | refine Br.beq (fun _ => ?_) (fun _ => ?_) | refine Br.bne (fun _ => ?_) (fun _ => ?_) | refine Br.seq (fun _ => ?_) (fun _ => ?_) | refine Elt.i (by omega) ?_ | refine EltN.i (by omega) ?_ | refine Nt.cast ?_ | refine Nt.mk _ rfl ?_ | refine EltN.mk _ rfl ?_ | refine Mx.mk _ rfl ?_ | refine Br.mk (fun _ => ?_) (fun _ => ?_) | refine EndP.mk ?_ trivial | refine EndP.mk ?_ ⟨.inr ⟨List.mem_cons_self .., ?_, rfl⟩, trivial⟩ | refine Ar.i64 (by omega) ?_ | refine Ar.u8 (by omega) ?_ | refine Quo.pos (by omega) ?_ | refine Rem.pos (by omega) ?_ | refine BsP.own ?_ | refine Ob.mk ⟨rfl, rfl⟩ ?_ | refine Ob.mk (flat_i _ _).1 ?_ | refine Ob.mk (flat_i _ _) ?_ | refine Ob.mk (flat_s _) ?_ | refine Ob.mk (by first | omega | (simp; first | done | fail) | (simp; omega)) ?_ | fail
          all_goals first
            | (exfalso; omega)
            | rfl
  · have hR : rightS c = ((sides c).1, (sides (sides c).2).1, belowNext (sides (sides c).2).2 2) := by unfold rightS; rw [if_neg (by assumption)]
    obtain ⟨rows, hrows⟩ : ∃ r : List Int, r = (sides (sides c).2).1 := ⟨_, rfl⟩
    have s3 : side2 rows := by have := (rightS_good h).2.1; rw [hR] at this; rw [hrows]; exact this
    rw [← hrows] at hR
    have hL : rightL c = (⟨(sides c).1, rows, (whoGo (((sides c).1.length : Int) * (rows.length : Int)) (below (belowNext (sides (sides c).2).2 2) 6) 10 0 (belowNext (belowNext (sides (sides c).2).2 2) 6) []).1⟩, (whoGo (((sides c).1.length : Int) * (rows.length : Int)) (below (belowNext (sides (sides c).2).2 2) 6) 10 0 (belowNext (belowNext (sides (sides c).2).2 2) 6) []).2) := by
      unfold rightL; rw [hR]
    rw [hL]
    clear hL hR
    generalize hcols : (sides c).1 = cols at *
    generalize hfirst : below (belowNext (sides (sides c).2).2 2) 6 = first at *
    have m1 : (cols.map (V.i .i64)).length = cols.length := by simp
    have m2 : (rows.map (V.i .i64)).length = rows.length := by simp
    have hprod : (((cols.map (V.i .i64)).length : Int) * ((rows.map (V.i .i64)).length : Int)) = ((cols.length * rows.length : Nat) : Int) := by rw [m1, m2]; simp
    have hprod2 : ((cols.length : Int) * (rows.length : Int)) = ((cols.length * rows.length : Nat) : Int) := by simp
    have hn9 := len_9 s1.1.2 s3.1.2
    have hn1 : 1 * 1 ≤ cols.length * rows.length := Nat.mul_le_mul s1.1.1 s3.1.1
    repeat' (conv => whnf); first | refine CallP.ho [([2], [2])] (l01Below_vow (belowNext (sides (sides c).2).2 2) o3 6) rfl rfl ?_ | refine Br.tt ?_ | refine Br.ff ?_ | refine Br.not ?_ | refine Br.dand (fun _ => ?_) (fun _ => ?_) | refine Br.dec (fun _ => ?_) (fun _ => ?_) | refine Br.beq (fun _ => ?_) (fun _ => ?_) | refine Br.bne (fun _ => ?_) (fun _ => ?_) | refine Br.seq (fun _ => ?_) (fun _ => ?_) | refine Elt.i (by omega) ?_ | refine EltN.i (by omega) ?_ | refine Nt.cast ?_ | refine Nt.mk _ rfl ?_ | refine EltN.mk _ rfl ?_ | refine Mx.mk _ rfl ?_ | refine Br.mk (fun _ => ?_) (fun _ => ?_) | refine EndP.mk ?_ trivial | refine EndP.mk ?_ ⟨.inr ⟨List.mem_cons_self .., ?_, rfl⟩, trivial⟩ | refine Ar.i64 (by omega) ?_ | refine Ar.u8 (by omega) ?_ | refine Quo.pos (by omega) ?_ | refine Rem.pos (by omega) ?_ | refine BsP.own ?_ | refine Ob.mk ⟨rfl, rfl⟩ ?_ | refine Ob.mk (flat_i _ _).1 ?_ | refine Ob.mk (flat_i _ _) ?_ | refine Ob.mk (flat_s _) ?_ | refine Ob.mk (by first | omega | (simp; first | done | fail) | (simp; omega)) ?_ | fail
    conv => whnf
    refine LoopP.mk [0,2,3,4,5] (fun s : Nat × Cur × List Int => [(0, curV s.2.1), (2, .bx [.nl, .nl, .nl]), (3, .bx [iO cols, iO rows, whoV s.2.2]), (4, .i .i64 first), (5, .i .i64 s.1)]) (fun s => 9 - s.1)
      (fun s => s.2.1.ok ∧ s.2.2.length = s.1 ∧ s.1 ≤ 9 ∧ (s.1 : Int) ≤ (cols.length : Int) * (rows.length : Int) ∧ whoGo ((cols.length : Int) * (rows.length : Int)) first (10 - s.1) s.1 s.2.1 s.2.2 = whoGo ((cols.length : Int) * (rows.length : Int)) first 10 0 (belowNext (belowNext (sides (sides c).2).2 2) 6) []) ?_ ?_
    · conv => whnf
      refine ⟨(0, belowNext (belowNext (sides (sides c).2).2 2) 6, []), ⟨o4, rfl, by simp only; omega, by simp only; omega, rfl⟩, ?_⟩
      rw [hrows, hfirst]
      rfl
    · rintro ⟨i, d, ws⟩ ⟨hd, hlen, hi, hin, hrun⟩
      simp only at hd hlen hi hin hrun
      obtain ⟨f, hf2⟩ : ∃ f, 10 - i = f + 1 := ⟨9 - i, by omega⟩
      by_cases hlt : (i : Int) < (cols.length : Int) * (rows.length : Int)
      · cases ws with
        | nil =>
          simp only [List.length_nil] at hlen
          repeat' (conv => whnf); first | refine CallP.ho [([2], [2])] (l01Once_vow d hd 5) rfl rfl ?_ | refine Br.tt ?_ | refine Br.ff ?_ | refine Br.not ?_ | refine Br.dand (fun _ => ?_) (fun _ => ?_) | refine Br.dec (fun _ => ?_) (fun _ => ?_) | refine Br.beq (fun _ => ?_) (fun _ => ?_) | refine Br.bne (fun _ => ?_) (fun _ => ?_) | refine Br.seq (fun _ => ?_) (fun _ => ?_) | refine Elt.i (by omega) ?_ | refine EltN.i (by omega) ?_ | refine Nt.cast ?_ | refine Nt.mk _ rfl ?_ | refine EltN.mk _ rfl ?_ | refine Mx.mk _ rfl ?_ | refine Br.mk (fun _ => ?_) (fun _ => ?_) | refine EndP.mk ?_ trivial | refine EndP.mk ?_ ⟨.inr ⟨List.mem_cons_self .., ?_, rfl⟩, trivial⟩ | refine Ar.i64 (by omega) ?_ | refine Ar.u8 (by omega) ?_ | refine Quo.pos (by omega) ?_ | refine Rem.pos (by omega) ?_ | refine BsP.own ?_ | refine Ob.mk ⟨rfl, rfl⟩ ?_ | refine Ob.mk (flat_i _ _).1 ?_ | refine Ob.mk (flat_i _ _) ?_ | refine Ob.mk (flat_s _) ?_ | refine Ob.mk (by first | omega | (simp; first | done | fail) | (simp; omega)) ?_ | fail
          all_goals first
            | (exfalso; omega)
            | (conv => whnf
               refine ⟨(i + 1, belowNext d 5, ([] : List Int) ++ [(first + i) % 6]), ⟨belowNext_ok hd 5, by simp; omega, by simp only; omega, by simp only; omega, ?_⟩, by simp only; omega, ?_⟩
               · simp only
                 rw [show 10 - (i + 1) = f by omega, ← hrun, hf2, whoGo, if_pos (by omega), if_pos (by omega), if_neg (by omega)]
               · simp only [whoV, iO, List.map_append, List.map_cons, List.map_nil, List.cons_append, List.nil_append]
                 rfl)
            | (conv => whnf
               refine ⟨(i + 1, belowNext d 5, ([] : List Int) ++ [-1]), ⟨belowNext_ok hd 5, by simp; omega, by simp only; omega, by simp only; omega, ?_⟩, by simp only; omega, ?_⟩
               · simp only
                 rw [show 10 - (i + 1) = f by omega, ← hrun, hf2, whoGo, if_pos (by omega), if_pos (by omega), if_pos (by omega)]
               · simp only [whoV, iO, List.map_append, List.map_cons, List.map_nil, List.cons_append, List.nil_append]
                 rfl)
            | (conv => whnf
               refine ⟨(i + 1, d, ([] : List Int) ++ [-1]), ⟨hd, by simp; omega, by simp only; omega, by simp only; omega, ?_⟩, by simp only; omega, ?_⟩
               · simp only
                 rw [show 10 - (i + 1) = f by omega, ← hrun, hf2, whoGo, if_pos (by omega), if_neg (by omega)]
               · simp only [whoV, iO, List.map_append, List.map_cons, List.map_nil, List.cons_append, List.nil_append]
                 rfl)
        | cons x ws =>
          have hwl : (List.map (V.i .i64) ws).length = ws.length := by simp
          simp only [List.length_cons] at hlen
          repeat' (conv => whnf); first | refine CallP.ho [([2], [2])] (l01Once_vow d hd 5) rfl rfl ?_ | refine Br.tt ?_ | refine Br.ff ?_ | refine Br.not ?_ | refine Br.dand (fun _ => ?_) (fun _ => ?_) | refine Br.dec (fun _ => ?_) (fun _ => ?_) | refine Br.beq (fun _ => ?_) (fun _ => ?_) | refine Br.bne (fun _ => ?_) (fun _ => ?_) | refine Br.seq (fun _ => ?_) (fun _ => ?_) | refine Elt.i (by omega) ?_ | refine EltN.i (by omega) ?_ | refine Nt.cast ?_ | refine Nt.mk _ rfl ?_ | refine EltN.mk _ rfl ?_ | refine Mx.mk _ rfl ?_ | refine Br.mk (fun _ => ?_) (fun _ => ?_) | refine EndP.mk ?_ trivial | refine EndP.mk ?_ ⟨.inr ⟨List.mem_cons_self .., ?_, rfl⟩, trivial⟩ | refine Ar.i64 (by omega) ?_ | refine Ar.u8 (by omega) ?_ | refine Quo.pos (by omega) ?_ | refine Rem.pos (by omega) ?_ | refine BsP.own ?_ | refine Ob.mk ⟨rfl, rfl⟩ ?_ | refine Ob.mk (flat_i _ _).1 ?_ | refine Ob.mk (flat_i _ _) ?_ | refine Ob.mk (flat_s _) ?_ | refine Ob.mk (by first | omega | (simp; first | done | fail) | (simp; omega)) ?_ | fail
          all_goals first
            | (exfalso; omega)
            | (conv => whnf
               refine ⟨(i + 1, belowNext d 5, (x :: ws) ++ [(first + i) % 6]), ⟨belowNext_ok hd 5, by simp; omega, by simp only; omega, by simp only; omega, ?_⟩, by simp only; omega, ?_⟩
               · simp only
                 rw [show 10 - (i + 1) = f by omega, ← hrun, hf2, whoGo, if_pos (by omega), if_pos (by omega), if_neg (by omega)]
               · simp only [whoV, iO, List.map_append, List.map_cons, List.map_nil, List.cons_append, List.nil_append]
                 rfl)
            | (conv => whnf
               refine ⟨(i + 1, belowNext d 5, (x :: ws) ++ [-1]), ⟨belowNext_ok hd 5, by simp; omega, by simp only; omega, by simp only; omega, ?_⟩, by simp only; omega, ?_⟩
               · simp only
                 rw [show 10 - (i + 1) = f by omega, ← hrun, hf2, whoGo, if_pos (by omega), if_pos (by omega), if_pos (by omega)]
               · simp only [whoV, iO, List.map_append, List.map_cons, List.map_nil, List.cons_append, List.nil_append]
                 rfl)
            | (conv => whnf
               refine ⟨(i + 1, d, (x :: ws) ++ [-1]), ⟨hd, by simp; omega, by simp only; omega, by simp only; omega, ?_⟩, by simp only; omega, ?_⟩
               · simp only
                 rw [show 10 - (i + 1) = f by omega, ← hrun, hf2, whoGo, if_pos (by omega), if_neg (by omega)]
               · simp only [whoV, iO, List.map_append, List.map_cons, List.map_nil, List.cons_append, List.nil_append]
                 rfl)
      · have hdone : whoGo ((cols.length : Int) * (rows.length : Int)) first 10 0 (belowNext (belowNext (sides (sides c).2).2 2) 6) [] = (ws, d) := by rw [← hrun, hf2, whoGo, if_neg hlt]
        rw [hdone]
        cases ws with
        | nil => exfalso; simp at hlen; omega
        | cons x ws =>
          repeat' (conv => whnf); first | refine Br.tt ?_ | refine Br.ff ?_ | refine Br.not ?_ | refine Br.dand (fun _ => ?_) (fun _ => ?_) | refine Br.dec (fun _ => ?_) (fun _ => ?_) | refine Br.beq (fun _ => ?_) (fun _ => ?_) | refine Br.bne (fun _ => ?_) (fun _ => ?_) | refine Br.seq (fun _ => ?_) (fun _ => ?_) | refine Elt.i (by omega) ?_ | refine EltN.i (by omega) ?_ | refine Nt.cast ?_ | refine Nt.mk _ rfl ?_ | refine EltN.mk _ rfl ?_ | refine Mx.mk _ rfl ?_ | refine Br.mk (fun _ => ?_) (fun _ => ?_) | refine EndP.mk ?_ trivial | refine EndP.mk ?_ ⟨.inr ⟨List.mem_cons_self .., ?_, rfl⟩, trivial⟩ | refine Ar.i64 (by omega) ?_ | refine Ar.u8 (by omega) ?_ | refine Quo.pos (by omega) ?_ | refine Rem.pos (by omega) ?_ | refine BsP.own ?_ | refine Ob.mk ⟨rfl, rfl⟩ ?_ | refine Ob.mk (flat_i _ _).1 ?_ | refine Ob.mk (flat_i _ _) ?_ | refine Ob.mk (flat_s _) ?_ | refine Ob.mk (by first | omega | (simp; first | done | fail) | (simp; omega)) ?_ | fail
          all_goals first
            | (exfalso; omega)
            | rfl
end Go.Proofs.Ytfcjjkfjdecakaa
