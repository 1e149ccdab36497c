/- Layouts come back from their texts: plain. No condition. -/
import Derived.Test.YtfcjjkfjdecakaaUa
import Derived.Test.YtfcjjkfjdecakaaSt
import Derived.Test.YtfcjjkfjdecakaaTe
import Derived.Test.YtfcjjkfjdecakaaSj
namespace Go.Proofs.Ytfcjjkfjdecakaa
open Go Go.Vx
set_option linter.unusedVariables false
set_option linter.unusedSimpArgs false
set_option maxHeartbeats 600000
set_option maxRecDepth 100000

def lnsB (b : UInt8) : List (List UInt8) → List UInt8
  | [] => []
  | l :: r => l ++ b :: lnsB b r
theorem lnsB_app (b : UInt8) : ∀ (a : List (List UInt8)) (l : List UInt8), lnsB b (a ++ [l]) = lnsB b a ++ l ++ [b]
  | [], l => by simp [lnsB]
  | x :: a, l => by simp only [List.cons_append, lnsB, lnsB_app b a l]; simp
def noB (b : UInt8) (l : List UInt8) : Prop := ∀ j, j < l.length → ¬ ((rb l j).toNat : Int) = (b.toNat : Int)
theorem cS_linesB (b : UInt8) : ∀ (ls : List (List UInt8)) (a : List UInt8) (W : List (List UInt8)) (z : List UInt8), (∀ l ∈ ls, noB b l) → cS (a ++ lnsB b ls ++ z) b.toNat a.length = (W, a.length) →
    cS (a ++ lnsB b ls ++ z) b.toNat (a.length + (lnsB b ls).length) = (W ++ ls, a.length + (lnsB b ls).length)
  | [], a, W, z, _, h => by simpa [lnsB] using h
  | l :: r, a, W, z, hw, h => by
    have ht : a ++ lnsB b (l :: r) ++ z = (a ++ l ++ [b]) ++ lnsB b r ++ z := by simp [lnsB]
    have hl1 := hw l (List.mem_cons_self ..)
    have hlen : (lnsB b (l :: r)).length = l.length + 1 + (lnsB b r).length := by simp [lnsB]; omega
    have hin : ∀ m, m < l.length → rb (a ++ lnsB b (l :: r) ++ z) (a.length + m) = rb l m := fun m hm => by
      rw [List.append_assoc, rb_r (by omega), show a.length + m - a.length = m by omega]
      show rb (l ++ b :: lnsB b r ++ z) m = _
      rw [List.append_assoc, rb_l hm]
    have stay : ∀ m, m ≤ l.length → cS (a ++ lnsB b (l :: r) ++ z) b.toNat (a.length + m) = (W, a.length) := by
      intro m
      induction m with
      | zero => intro _; simpa using h
      | succ m ih =>
        intro hm
        rw [← Nat.add_assoc, cS_no (by rw [hin m (by omega)]; exact hl1 m (by omega))]
        exact ih (by omega)
    have hend : rb (a ++ lnsB b (l :: r) ++ z) (a.length + l.length) = b := by
      rw [List.append_assoc, rb_r (by omega), show a.length + l.length - a.length = l.length by omega]
      show rb (l ++ b :: lnsB b r ++ z) l.length = _
      rw [List.append_assoc, rb_r (Nat.le_refl _), Nat.sub_self]
      rfl
    have hst := stay l.length (Nat.le_refl _)
    have hat := cS_at (t := a ++ lnsB b (l :: r) ++ z) (b := b.toNat) (i := a.length + l.length) (by rw [hend])
    rw [hst] at hat
    simp only at hat
    rw [show ((a ++ lnsB b (l :: r) ++ z).drop a.length).take (a.length + l.length - a.length) = l by
      rw [List.append_assoc, List.drop_left, show a.length + l.length - a.length = l.length by omega]
      show (l ++ b :: lnsB b r ++ z).take l.length = l
      rw [List.append_assoc, List.take_left]] at hat
    have hal : (a ++ l ++ [b]).length = a.length + l.length + 1 := by simp; omega
    have ih := cS_linesB b r (a ++ l ++ [b]) (W ++ [l]) z (fun x hx => hw x (List.mem_cons_of_mem _ hx)) (by rw [← ht, hal]; exact hat)
    rw [← ht, hal] at ih
    rw [hlen, show a.length + (l.length + 1 + (lnsB b r).length) = a.length + l.length + 1 + (lnsB b r).length by omega, ih]
    simp
theorem cut_lnsB {b : UInt8} {ls : List (List UInt8)} {z : List UInt8} (hl : ∀ l ∈ ls, noB b l) (hz : noB b z) : cutT (lnsB b ls ++ z) b.toNat = ls ++ [z] := by
  have h1 := cS_linesB b ls [] [] z hl rfl
  simp only [List.nil_append, List.length_nil, Nat.zero_add] at h1
  have stay : ∀ m, m ≤ z.length → cS (lnsB b ls ++ z) b.toNat ((lnsB b ls).length + m) = (ls, (lnsB b ls).length) := by
    intro m
    induction m with
    | zero => intro _; simpa using h1
    | succ m ih =>
      intro hm
      rw [← Nat.add_assoc, cS_no (by rw [rb_r (by omega), show (lnsB b ls).length + m - (lnsB b ls).length = m by omega]; exact hz m (by omega))]
      exact ih (by omega)
  have h2 := stay z.length (Nat.le_refl _)
  unfold cutT
  rw [List.length_append, h2]
  simp

/-! Rows of numbers as text. -/
def tok (n : Int) : List UInt8 := if n < 0 then [120] else decimal n
theorem tok_bytes {n : Int} (h : n ≤ 1000000000) : ∀ j, j < (tok n).length → (rb (tok n) j).toNat = 120 ∨ digitAt (tok n) j := by
  intro j hj
  unfold tok at hj ⊢
  split at hj
  · rename_i hn
    left
    obtain rfl : j = 0 := by simpa using hj
    rw [if_pos hn]
    decide
  · rename_i hn
    right
    rw [if_neg hn]
    exact (decimal_val (show 0 ≤ n by omega)).1 j hj
theorem tok_noB {n : Int} (h : n ≤ 1000000000) {b : UInt8} (hb : b = 44 ∨ b = 47) : noB b (tok n) := fun j hj => by
  have := tok_bytes h j hj
  unfold digitAt at this
  rcases hb with rfl | rfl
  · show ¬ ((rb (tok n) j).toNat : Int) = 44
    omega
  · show ¬ ((rb (tok n) j).toNat : Int) = 47
    omega
theorem numT_tok {n : Int} (h : -1 ≤ n ∧ n ≤ 1000000000) : numT (tok n) = n := by
  unfold tok
  by_cases hn : n < 0
  · rw [if_pos hn]
    have : readDec [120] = (0, false) := by decide +kernel
    unfold numT
    rw [this, if_neg (by simp)]
    omega
  · rw [if_neg hn]
    unfold numT
    rw [readDec_decimal (by omega)]
    rfl
def toks (l : List Int) (i : Nat) : List (List UInt8) := (List.range i).map fun j => tok (rd l j)
theorem toks_succ (l : List Int) (i : Nat) : toks l (i + 1) = toks l i ++ [tok (rd l i)] := by simp [toks, List.range_succ]
theorem listTo_lns (l : List Int) : ∀ i, listTo l (i + 1) = lnsB 44 (toks l i) ++ tok (rd l i)
  | 0 => by simp [listTo, toks, lnsB, tok]
  | i + 1 => by
    rw [listTo, if_pos (by omega), listTo_lns l i, toks_succ, lnsB_app]
    rfl
theorem numsTo_map (ls : List (List UInt8)) : ∀ i, numsTo ls i = (List.range i).map fun j => numT (ln ls j)
  | 0 => rfl
  | i + 1 => by rw [numsTo, numsTo_map ls i, List.range_succ, List.map_append]; rfl
theorem list_rd (l : List Int) : (List.range l.length).map (fun j => rd l j) = l := by
  apply List.ext_getElem
  · simp
  · intro i h1 h2
    simp [rd, h2]
def small (l : List Int) : Prop := 1 ≤ l.length ∧ ∀ j, j < l.length → -1 ≤ rd l j ∧ rd l j ≤ 1000000000
theorem listText_cut {l : List Int} (h : small l) : cutT (listText l) 44 = toks l l.length := by
  obtain ⟨n, hn⟩ : ∃ n, l.length = n + 1 := ⟨l.length - 1, by have := h.1; omega⟩
  unfold listText
  rw [hn, listTo_lns, show (44 : Int) = ((44 : UInt8).toNat : Int) from rfl, cut_lnsB (fun w hw => ?_) (tok_noB (h.2 n (by omega)).2 (.inl rfl)), toks_succ]
  obtain ⟨j, hj, rfl⟩ := List.mem_map.1 hw
  exact tok_noB (h.2 j (by simp at hj; omega)).2 (.inl rfl)
theorem numsT_text {l : List Int} (h : small l) : numsT (listText l) = l := by
  unfold numsT
  rw [listText_cut h, numsTo_map]
  have hl : (toks l l.length).length = l.length := by simp [toks]
  rw [hl]
  have : (List.range l.length).map (fun j => numT (ln (toks l l.length) j)) = (List.range l.length).map (fun j => rd l j) := by
    refine List.map_congr_left (fun j hj => ?_)
    have hjl : j < l.length := by simpa using hj
    have : ln (toks l l.length) j = tok (rd l j) := by simp [ln, toks, hjl]
    rw [this, numT_tok (h.2 j hjl)]
  rw [this, list_rd]
theorem listTo_no47 (l : List Int) : ∀ i, (∀ j, j < i → rd l j ≤ 1000000000) → noB 47 (listTo l i)
  | 0, _ => fun j hj => by simp [listTo] at hj
  | i + 1, h => by
    have ih := listTo_no47 l i (fun j hj => h j (by omega))
    have ht := tok_noB (h i (by omega)) (b := 47) (.inr rfl)
    intro j hj
    rw [listTo] at hj ⊢
    have key : ∀ (a : List UInt8), noB 47 a → ∀ j, j < (a ++ tok (rd l i)).length → ¬ ((rb (a ++ tok (rd l i)) j).toNat : Int) = ((47 : UInt8).toNat : Int) := by
      intro a ha j hj
      by_cases h1 : j < a.length
      · rw [rb_l h1]; exact ha j h1
      · rw [rb_r (by omega)]; exact ht _ (by rw [List.length_append] at hj; omega)
    refine key _ ?_ j hj
    split
    · intro k hk
      by_cases h1 : k < (listTo l i).length
      · rw [rb_l h1]; exact ih k h1
      · rw [rb_r (by omega)]
        have : k - (listTo l i).length = 0 := by simp at hk; omega
        rw [this]
        decide
    · exact ih

theorem layout_small {l : Layout} (h : layoutOk l) : small l.cols ∧ small l.rows ∧ small l.who := by
  obtain ⟨h1, h2, h3⟩ := h
  obtain ⟨k1, k2⟩ := levelFor_sides h1
  have a1 := k1.1
  have a2 := k2.1
  have a3 : 1 * 1 ≤ l.cols.length * l.rows.length := Nat.mul_le_mul a1.1 a2.1
  exact ⟨⟨a1.1, fun j hj => by have := k1.2 j hj; omega⟩, ⟨a2.1, fun j hj => by have := k2.2 j hj; omega⟩, ⟨by omega, fun j hj => by have := (h3 j hj).1; omega⟩⟩
theorem layText_back {l : Layout} (h : layoutOk l) : layGood (layoutText l).1 ∧ lay3 (layoutText l).1 = l := by
  obtain ⟨s1, s2, s3⟩ := layout_small h
  have ht : (layoutText l).1 = lnsB 47 [listText l.cols, listText l.rows] ++ listText l.who := by
    rw [layoutText, if_pos h]; simp [lnsB]
  have n1 := listTo_no47 l.cols l.cols.length (fun j hj => (s1.2 j hj).2)
  have n2 := listTo_no47 l.rows l.rows.length (fun j hj => (s2.2 j hj).2)
  have n3 := listTo_no47 l.who l.who.length (fun j hj => (s3.2 j hj).2)
  have hc : cutT (layoutText l).1 47 = [listText l.cols, listText l.rows] ++ [listText l.who] := by
    rw [ht]
    refine cut_lnsB (b := 47) (ls := [listText l.cols, listText l.rows]) (z := listText l.who) (fun w hw => ?_) n3
    simp only [List.mem_cons, List.not_mem_nil, or_false] at hw
    rcases hw with rfl | rfl
    · exact n1
    · exact n2
  have h3 : lay3 (layoutText l).1 = l := by
    unfold lay3
    rw [hc]
    show (⟨numsT (listText l.cols), numsT (listText l.rows), numsT (listText l.who)⟩ : Layout) = l
    rw [numsT_text s1, numsT_text s2, numsT_text s3]
  refine ⟨⟨by rw [hc]; rfl, ?_, ?_⟩, h3⟩
  · rw [h3, layoutText, if_pos h]
  · rw [h3]
theorem tiles_who {l : Layout} (h : layoutOk l) : seqOk (levelFor l.cols l.rows) 4 l.cols l.rows = true ∧ tilesOf (levelFor l.cols l.rows) 4 l.cols l.rows = (l.who.length : Int) := by
  obtain ⟨h1, h2, h3⟩ := h
  have hs : seqOk (levelFor l.cols l.rows) 4 l.cols l.rows = true := by
    rw [seqOk_iff]
    refine ⟨?_, by omega, by omega⟩
    unfold levelFor at h1 ⊢
    split
    · rename_i k; exact (seqOk_iff.1 k).1
    · split
      · rename_i k; exact (seqOk_iff.1 k).1
      · split
        · rename_i k; exact (seqOk_iff.1 k).1
        · rename_i k1 k2 k3
          rw [if_neg k1, if_neg k2, if_neg k3] at h1
          exact (h1 rfl).elim
  refine ⟨hs, ?_⟩
  rw [tilesOf, if_pos hs, h2]
  simp
theorem first_who {w : List Int} (h : ∀ i, i < w.length → whoOk w i) {t : Nat} (ht : t < w.length) (h0 : 0 ≤ rd w t) : first w (rd w t) = t := by
  have step : ∀ i, i ≤ t → firstGo w (rd w t) (w.length - i) i = first w (rd w t) := by
    intro i
    induction i with
    | zero => intro _; rfl
    | succ i ih =>
      intro hi
      refine first_next (ih (by omega)) (by omega) (fun he => ?_)
      exact (h t ht).2 i (by omega) ⟨h0, he⟩
  exact first_at (step t (Nat.le_refl _)) ht rfl
theorem cell_who {l : Layout} (h : layoutOk l) {t : Nat} (ht : t < l.who.length) (h0 : 0 ≤ rd l.who t) : cellOf l (rd l.who t) = t := by
  rw [cellOf, if_pos ⟨h, h0⟩, first_who h.2.2 ht h0]
theorem keptN_pre (l m : Layout) : ∀ (d n : Nat), ∃ z, keptN l m (n + d) = keptN l m n ++ z
  | 0, n => ⟨[], by simp⟩
  | d + 1, n => by
    obtain ⟨z, hz⟩ := keptN_pre l m d n
    rw [← Nat.add_assoc, keptN, hz]
    split
    · exact ⟨z ++ [((n + d : Nat) : Int)], by simp⟩
    · exact ⟨z, rfl⟩
theorem kept_at {l m : Layout} {n : Nat} (hn : n < 6) (h : 0 ≤ cellOf l n ∧ 0 ≤ cellOf m n) : (keptN l m n).length < (kept l m).length ∧ rd (kept l m) (keptN l m n).length = n := by
  obtain ⟨z, hz⟩ := keptN_pre l m (6 - (n + 1)) (n + 1)
  rw [show n + 1 + (6 - (n + 1)) = 6 by omega, show keptN l m (n + 1) = keptN l m n ++ [(n : Int)] by rw [keptN, if_pos h]] at hz
  have hk : kept l m = keptN l m n ++ ((n : Int) :: z) := by unfold kept; rw [hz]; simp
  rw [hk]
  refine ⟨by simp, ?_⟩
  simp [rd]
end Go.Proofs.Ytfcjjkfjdecakaa
