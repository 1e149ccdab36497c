/- Words that were laid out are found again; numbers and events come back from their texts. No condition. -/
import Derived.Test.YtfcjjkfjdecakaaSr
namespace Go.Proofs.Ytfcjjkfjdecakaa
open Go Go.Vx
set_option linter.unusedVariables false
set_option linter.unusedSimpArgs false
set_option maxHeartbeats 600000
set_option maxRecDepth 100000

theorem rb_l {a b : List UInt8} {i : Nat} (h : i < a.length) : rb (a ++ b) i = rb a i := by simp [rb, List.getElem?_append_left h]
theorem rb_r {a b : List UInt8} {i : Nat} (h : a.length ≤ i) : rb (a ++ b) i = rb b (i - a.length) := by simp [rb, List.getElem?_append_right h]

def Word (w : List UInt8) : Prop := 0 < w.length ∧ ∀ j, j < w.length → 33 ≤ (rb w j).toNat ∧ (rb w j).toNat ≤ 126
/-- Words, each with a blank behind it. -/
def laid : List (List UInt8) → List UInt8
  | [] => []
  | w :: r => w ++ 32 :: laid r

theorem pS_laid : ∀ (ws : List (List UInt8)) (a : List UInt8) (W : List (List UInt8)), (∀ w ∈ ws, Word w) → pS (a ++ laid ws) a.length = (W, a.length) →
    pS (a ++ laid ws) (a ++ laid ws).length = (W ++ ws, (a ++ laid ws).length)
  | [], a, W, _, h => by simpa [laid] using h
  | w :: r, a, W, hw, h => by
    have ht : a ++ laid (w :: r) = (a ++ w ++ [32]) ++ laid r := by simp [laid]
    obtain ⟨hw1, hw2⟩ := hw w (List.mem_cons_self ..)
    have hl : (a ++ laid (w :: r)).length = a.length + w.length + 1 + (laid r).length := by simp [laid]; omega
    have hin : ∀ m, m < w.length → rb (a ++ laid (w :: r)) (a.length + m) = rb w m := fun m hm => by
      rw [rb_r (by omega), show a.length + m - a.length = m by omega]
      show rb (w ++ 32 :: laid r) m = _
      rw [rb_l hm]
    have stay : ∀ m, m ≤ w.length → pS (a ++ laid (w :: r)) (a.length + m) = (W, a.length) := by
      intro m
      induction m with
      | zero => intro _; simpa using h
      | succ m ih =>
        intro hm
        have := hw2 m (by omega)
        rw [← Nat.add_assoc, pS_stay ⟨by omega, rb_ne (by rw [hin m (by omega)]; omega)⟩]
        exact ih (by omega)
    have hend : rb (a ++ laid (w :: r)) (a.length + w.length) = 32 := by
      rw [rb_r (by omega), show a.length + w.length - a.length = w.length by omega]
      show rb (w ++ 32 :: laid r) w.length = _
      rw [rb_r (Nat.le_refl _), Nat.sub_self]
      rfl
    have hst := stay w.length (Nat.le_refl _)
    have hwd := pS_word (t := a ++ laid (w :: r)) (i := a.length + w.length) (fun k => k.2 hend) (by rw [hst]; show a.length < _; omega)
    rw [hst] at hwd
    simp only at hwd
    rw [show ((a ++ laid (w :: r)).drop a.length).take (a.length + w.length - a.length) = w by
      rw [List.drop_left, show a.length + w.length - a.length = w.length by omega]
      show (w ++ 32 :: laid r).take w.length = w
      rw [List.take_left]] at hwd
    have hal : (a ++ w ++ [32]).length = a.length + w.length + 1 := by simp; omega
    have ih := pS_laid r (a ++ w ++ [32]) (W ++ [w]) (fun x hx => hw x (List.mem_cons_of_mem _ hx)) (by rw [← ht, hal]; exact hwd)
    rw [← ht] at ih
    rw [ih]
    simp

theorem pS_tail (t : List UInt8) : ∀ i, i ≤ t.length + 1 → pS t i = pS (t ++ [32]) i
  | 0, _ => rfl
  | i + 1, hi => by
    have ih := pS_tail t i (by omega)
    have hf := (pS_fit t i).1
    have hc : (i < t.length ∧ rb t i ≠ 32) ↔ (i < (t ++ [32]).length ∧ rb (t ++ [32]) i ≠ 32) := by
      by_cases h : i < t.length
      · rw [rb_l h]; simp; omega
      · obtain rfl : i = t.length := by omega
        constructor
        · intro k; omega
        · intro k
          refine (k.2 ?_).elim
          rw [rb_r (Nat.le_refl _), Nat.sub_self]; rfl
    by_cases h1 : i < t.length ∧ rb t i ≠ 32
    · rw [pS_stay h1, pS_stay (hc.1 h1), ih]
    · have h2 : ¬ (i < (t ++ [32]).length ∧ rb (t ++ [32]) i ≠ 32) := fun k => h1 (hc.2 k)
      by_cases hb : (pS t i).2 < i
      · rw [pS_word h1 hb, pS_word h2 (by rw [← ih]; exact hb), ← ih]
        congr 2
        rw [List.drop_append_of_le_length (by omega), List.take_append_of_le_length (by simp; omega)]
      · rw [pS_blank h1 hb, pS_blank h2 (by rw [← ih]; exact hb), ← ih]

theorem plain_laid : ∀ (ws : List (List UInt8)), (∀ w ∈ ws, Word w) → ∀ j, j < (laid ws).length → plain (laid ws) j
  | [], _, j, hj => by simp [laid] at hj
  | w :: r, hw, j, hj => by
    have h1 := (hw w (List.mem_cons_self ..)).2
    have ih := plain_laid r (fun x hx => hw x (List.mem_cons_of_mem _ hx))
    unfold plain
    show 32 ≤ (rb (w ++ 32 :: laid r) j).toNat ∧ _
    by_cases h : j < w.length
    · have := h1 j h
      rw [show rb (laid (w :: r)) j = rb (w ++ 32 :: laid r) j from rfl, rb_l h]; omega
    · rw [show rb (laid (w :: r)) j = rb (w ++ 32 :: laid r) j from rfl, rb_r (by omega)]
      by_cases h2 : j = w.length
      · subst h2
        rw [Nat.sub_self]
        show 32 ≤ (32 : UInt8).toNat ∧ (32 : UInt8).toNat ≤ 126
        decide
      · obtain ⟨m, hm⟩ : ∃ m, j - w.length = m + 1 := ⟨j - w.length - 1, by omega⟩
        rw [hm]
        have := ih m (by simp [laid] at hj; omega)
        unfold plain at this
        exact this

/-- Words behind blanks. -/
theorem parts_laid {ws : List (List UInt8)} (n : Nat) (hw : ∀ w ∈ ws, Word w) (hn : ws.length ≤ 12) (hl : n + (laid ws).length ≤ 600) : partsO (List.replicate n 32 ++ laid ws) = (ws, true) := by
  have hs : ∀ i, i ≤ n → pS (List.replicate n 32 ++ laid ws) i = ([], i) := by
    intro i
    induction i with
    | zero => intro _; rfl
    | succ i ih =>
      intro hi
      have h := ih (by omega)
      have hin : i < n := by omega
      rw [pS_blank (fun k => k.2 (by rw [rb_l (by simpa using hin)]; simp [rb, hin])) (by rw [h]; show ¬ i < i; omega), h]
  have h1 := pS_laid ws (List.replicate n 32) [] hw (by simpa using hs n (Nat.le_refl _))
  have h2 : pS (List.replicate n 32 ++ laid ws) ((List.replicate n 32 ++ laid ws).length + 1) = (ws, (List.replicate n 32 ++ laid ws).length + 1) := by
    rw [pS_blank (fun k => by omega) (by rw [h1]; show ¬ _ < _; omega), h1]; rfl
  have hok : partsOk (List.replicate n 32 ++ laid ws) := by
    refine ⟨by simp; omega, fun j hj => ?_, by rw [h2]; exact hn⟩
    by_cases h : j < n
    · unfold plain; rw [rb_l (by simpa using h)]; simp [rb, h]
    · have := plain_laid ws hw (j - n) (by simp at hj; omega)
      unfold plain at this ⊢
      rw [rb_r (by simp; omega)]
      simpa using this
  rw [partsO_yes hok, h2]
theorem parts_tail {t : List UInt8} {ws : List (List UInt8)} (ht : t ++ [32] = laid ws) (hw : ∀ w ∈ ws, Word w) (hn : ws.length ≤ 12) (hl : (laid ws).length ≤ 600) : partsO t = (ws, true) := by
  have h0 := parts_laid 0 hw hn (by omega)
  simp only [List.replicate_zero, List.nil_append] at h0
  rw [← ht] at h0
  have hok : partsOk (t ++ [32]) := by
    by_cases h : partsOk (t ++ [32])
    · exact h
    · rw [partsO_no h] at h0; simp at h0
  rw [partsO_yes hok] at h0
  have hlt : (t ++ [32]).length = t.length + 1 := by simp
  have h3 : pS (t ++ [32]) (t.length + 1) = (ws, t.length + 1) := by
    have := pS_laid ws [] [] hw rfl
    simp only [List.nil_append] at this
    rw [← ht, hlt] at this
    exact this
  have h4 := pS_tail t (t.length + 1) (Nat.le_refl _)
  rw [h3] at h4
  have hk : partsOk t := by
    refine ⟨by have := hok.1; omega, fun j hj => ?_, by rw [h4]; exact hn⟩
    have := hok.2.1 j (by omega)
    unfold plain at this ⊢
    rwa [rb_l hj] at this
  rw [partsO_yes hk, h4]

/-! Numbers. -/
theorem digitsN_app : ∀ (n : Nat) (out : List UInt8), digitsN n out = digitsN n [] ++ out := by
  intro n
  induction n using Nat.strongRecOn with
  | _ n ih =>
    intro out
    by_cases h : n = 0
    · subst h; rw [digitsN_zero, digitsN_zero]; rfl
    · rw [digitsN_step h, digitsN_step h [], ih (n / 10) (by omega) (_ :: out), ih (n / 10) (by omega) [_]]
      simp
theorem digitsN_last {n : Nat} (h : ¬ n = 0) : digitsN n [] = digitsN (n / 10) [] ++ [UInt8.ofNat (48 + n % 10)] := by
  rw [digitsN_step h, digitsN_app]
theorem valTo_app (a b : List UInt8) : ∀ i, i ≤ a.length → valTo (a ++ b) i = valTo a i
  | 0, _ => rfl
  | i + 1, h => by
    simp only [valTo]
    rw [valTo_app a b i (by omega), rb_l (by omega)]
theorem digitsN_val : ∀ (n : Nat), (∀ j, j < (digitsN n []).length → digitAt (digitsN n []) j) ∧ valTo (digitsN n []) (digitsN n []).length = n := by
  intro n
  induction n using Nat.strongRecOn with
  | _ n ih =>
    by_cases h : n = 0
    · subst h
      rw [digitsN_zero]
      exact ⟨fun j hj => by simp at hj, rfl⟩
    · obtain ⟨h1, h2⟩ := ih (n / 10) (by omega)
      rw [digitsN_last h]
      have hx : (UInt8.ofNat (48 + n % 10)).toNat = 48 + n % 10 := by rw [UInt8.toNat_ofNat']; omega
      have hlast : rb (digitsN (n / 10) [] ++ [UInt8.ofNat (48 + n % 10)]) (digitsN (n / 10) []).length = UInt8.ofNat (48 + n % 10) := by
        rw [rb_r (Nat.le_refl _), Nat.sub_self]; rfl
      constructor
      · intro j hj
        unfold digitAt
        by_cases hj2 : j < (digitsN (n / 10) []).length
        · rw [rb_l hj2]; exact h1 j hj2
        · rw [List.length_append, List.length_singleton] at hj
          obtain rfl : j = (digitsN (n / 10) []).length := by omega
          rw [hlast, hx]; omega
      · rw [List.length_append, List.length_singleton]
        simp only [valTo]
        rw [valTo_app _ _ _ (Nat.le_refl _), h2, hlast, hx]
        omega
theorem decimal_val {x : Int} (h : 0 ≤ x) : (∀ j, j < (decimal x).length → digitAt (decimal x) j) ∧ valTo (decimal x) (decimal x).length = x := by
  unfold decimal
  by_cases h0 : x = 0
  · subst h0
    rw [if_pos rfl]
    refine ⟨fun j hj => ?_, by decide⟩
    obtain rfl : j = 0 := by simpa using hj
    decide
  · rw [if_neg h0, if_neg (by omega)]
    have := digitsN_val x.natAbs
    exact ⟨this.1, by rw [this.2]; omega⟩
theorem decimal_short {x : Int} (h : 0 ≤ x ∧ x ≤ 1000000000) : 1 ≤ (decimal x).length ∧ (decimal x).length ≤ 10 := by
  refine ⟨?_, ?_⟩
  · have := decimal_ne x
    exact List.length_pos_iff.2 this
  · unfold decimal
    by_cases h0 : x = 0
    · rw [if_pos h0]; simp
    · rw [if_neg h0, if_neg (by omega)]
      have := digitsN_len x.natAbs 10 [] (by omega)
      simpa using this
theorem readDec_decimal {x : Int} (h : 0 ≤ x ∧ x ≤ 1000000000) : readDec (decimal x) = (x, true) := by
  have h1 := decimal_val h.1
  have h2 := decimal_short h
  rw [readDec_yes ⟨h2, h1.1, by rw [h1.2]; exact h.2, by rw [h1.2]⟩, h1.2]
theorem word_decimal {x : Int} (h : 0 ≤ x ∧ x ≤ 1000000000) : Word (decimal x) := by
  have h1 := (decimal_val h.1).1
  have h2 := decimal_short h
  refine ⟨by omega, fun j hj => ?_⟩
  have := h1 j hj
  unfold digitAt at this
  omega

/-! Events. -/
def num9 (x : Int) : Prop := 0 ≤ x ∧ x ≤ 1000000000
structure EvGood (e : Event) : Prop where
  kind : 1 ≤ e.kind ∧ e.kind ≤ 9
  a : num9 e.a
  b : num9 e.b
  c : num9 e.c
  a0 : (evWord e.kind).2 ≤ 0 → e.a = 0
  b0 : (evWord e.kind).2 ≤ 1 → e.b = 0
  c0 : (evWord e.kind).2 ≤ 2 → e.c = 0
def evWords (e : Event) : List (List UInt8) := (evWord e.kind).1 :: (([e.a, e.b, e.c].take (evWord e.kind).2.toNat).map decimal)
theorem evWord_word {k : Int} (h : 1 ≤ k ∧ k ≤ 9) : Word (evWord k).1 := by
  obtain ⟨n, hn, rfl⟩ : ∃ n : Nat, n < 9 ∧ k = (n : Int) + 1 := ⟨(k - 1).toNat, by omega, by omega⟩
  have : ∀ n : Fin 9, 0 < (evWord ((n.val : Int) + 1)).1.length ∧ ∀ j, j < (evWord ((n.val : Int) + 1)).1.length → 33 ≤ (rb (evWord ((n.val : Int) + 1)).1 j).toNat ∧ (rb (evWord ((n.val : Int) + 1)).1 j).toNat ≤ 126 := by decide
  exact this ⟨n, hn⟩
theorem evWord_inj {j k : Int} (hj : 1 ≤ j ∧ j ≤ 9) (hk : 1 ≤ k ∧ k ≤ 9) (h : (evWord j).1 = (evWord k).1) : j = k := by
  obtain ⟨m, hm, rfl⟩ : ∃ n : Nat, n < 9 ∧ j = (n : Int) + 1 := ⟨(j - 1).toNat, by omega, by omega⟩
  obtain ⟨n, hn, rfl⟩ : ∃ n : Nat, n < 9 ∧ k = (n : Int) + 1 := ⟨(k - 1).toNat, by omega, by omega⟩
  have : ∀ m n : Fin 9, (evWord ((m.val : Int) + 1)).1 = (evWord ((n.val : Int) + 1)).1 → m.val = n.val := by decide
  have := this ⟨m, hm⟩ ⟨n, hn⟩ h
  simp only at this
  omega
theorem eventText_laid {e : Event} (h : EvGood e) : ∃ s, eventText e = (s, true) ∧ s ++ [32] = laid (evWords e) ∧ s.length ≤ 40 := by
  have hw := (evWord_word h.kind).1
  have hne : ¬ (evWord e.kind).1 = [] := fun k => by rw [k] at hw; simp at hw
  obtain ⟨f1, f2, f3⟩ := evWord_fit e.kind
  have la := (decimal_short h.a).2
  have lb := (decimal_short h.b).2
  have lc := (decimal_short h.c).2
  obtain ⟨a1, a2⟩ := h.a
  obtain ⟨b1, b2⟩ := h.b
  obtain ⟨c1, c2⟩ := h.c
  have hn : (evWord e.kind).2 = 0 ∨ (evWord e.kind).2 = 1 ∨ (evWord e.kind).2 = 2 ∨ (evWord e.kind).2 = 3 := by omega
  rcases hn with hn | hn | hn | hn
  · have ha := h.a0 (by omega)
    have hb := h.b0 (by omega)
    have hc := h.c0 (by omega)
    refine ⟨(evWord e.kind).1, eventText_some e _ hne ?_, ?_, by omega⟩
    · rw [hn, ha, hb, hc]; simp [evArgs]
    · simp [evWords, laid, hn]
  · have hb := h.b0 (by omega)
    have hc := h.c0 (by omega)
    refine ⟨(evWord e.kind).1 ++ [32] ++ decimal e.a, eventText_some e _ hne ?_, ?_, by simp; omega⟩
    · rw [hn, hb, hc]; simp [evArgs, a1, a2]
    · simp [evWords, laid, hn]
  · have hc := h.c0 (by omega)
    refine ⟨(evWord e.kind).1 ++ [32] ++ decimal e.a ++ [32] ++ decimal e.b, eventText_some e _ hne ?_, ?_, by simp; omega⟩
    · rw [hn, hc]; simp [evArgs, a1, a2, b1, b2]
    · simp [evWords, laid, hn]
  · refine ⟨(evWord e.kind).1 ++ [32] ++ decimal e.a ++ [32] ++ decimal e.b ++ [32] ++ decimal e.c, eventText_some e _ hne ?_, ?_, by simp; omega⟩
    · rw [hn]; simp [evArgs, a1, a2, b1, b2, c1, c2]
    · simp [evWords, laid, hn]
theorem evWords_word {e : Event} (h : EvGood e) : ∀ w ∈ evWords e, Word w := by
  intro w hw
  simp only [evWords, List.mem_cons] at hw
  rcases hw with rfl | hw
  · exact evWord_word h.kind
  · obtain ⟨x, hx, rfl⟩ := List.mem_map.1 hw
    have := List.mem_of_mem_take hx
    simp only [List.mem_cons, List.not_mem_nil, or_false] at this
    rcases this with rfl | rfl | rfl
    · exact word_decimal h.a
    · exact word_decimal h.b
    · exact word_decimal h.c
theorem evWords_len {e : Event} : (evWords e).length = (evWord e.kind).2.toNat + 1 := by
  have := evWord_fit e.kind
  simp [evWords]
  omega
theorem readEv_words {t : List UInt8} {e : Event} (h : EvGood e) (ht : partsO t = (evWords e, true)) : readEv t = (e, true) := by
  have hf := evWord_fit e.kind
  have hlen := evWords_len (e := e)
  have hw0 : wd t 0 = (evWord e.kind).1 := by unfold wd; rw [ht]; rfl
  have hhit : ∀ k : Nat, 1 ≤ k ∧ k ≤ 9 → (hit t k ↔ (k : Int) = e.kind) := by
    intro k hk
    unfold hit
    rw [hw0, ht, hlen]
    constructor
    · intro k2; exact evWord_inj (by omega) h.kind k2.1
    · intro k2; rw [k2]; exact ⟨rfl, by omega⟩
  obtain ⟨K, hK⟩ : ∃ K : Nat, (K : Int) = e.kind := ⟨e.kind.toNat, by have := h.kind; omega⟩
  have hk1 := h.kind
  have hscan : ∀ d k : Nat, k + d = K → 1 ≤ k → evScan t (10 - k) k = evTry t K := by
    intro d
    induction d with
    | zero => intro k hk _; obtain rfl : k = K := by omega
              exact evScan_hit (by omega) ((hhit k (by omega)).2 hK)
    | succ d ih =>
      intro k hk h1
      rw [evScan_next (by omega) (fun k2 => by have := (hhit k (by omega)).1 k2; omega)]
      exact ih (k + 1) (by omega) (by omega)
  rw [readEv_yes (by rw [ht]; exact ⟨rfl, by show 0 < (evWords e).length; omega⟩), hscan (K - 1) 1 (by omega) (by omega)]
  have hl1 : (partsO t).1.length - 1 = (evWord e.kind).2.toNat := by rw [ht]; show (evWords e).length - 1 = _; omega
  have hwd : ∀ j, wd t j = (evWords e).getD j [] := fun j => by unfold wd; rw [ht]
  have ra := readDec_decimal h.a
  have rb' := readDec_decimal h.b
  have rc := readDec_decimal h.c
  have hn : (evWord e.kind).2 = 0 ∨ (evWord e.kind).2 = 1 ∨ (evWord e.kind).2 = 2 ∨ (evWord e.kind).2 = 3 := by omega
  have w1 : 1 ≤ (evWord e.kind).2 → wd t 1 = decimal e.a := fun k => by
    rw [hwd]; rcases hn with hn | hn | hn | hn <;> simp [evWords, hn] <;> omega
  have w2 : 2 ≤ (evWord e.kind).2 → wd t 2 = decimal e.b := fun k => by
    rw [hwd]; rcases hn with hn | hn | hn | hn <;> simp [evWords, hn] <;> omega
  have w3 : 3 ≤ (evWord e.kind).2 → wd t 3 = decimal e.c := fun k => by
    rw [hwd]; rcases hn with hn | hn | hn | hn <;> simp [evWords, hn] <;> omega
  have hnums : nums t ((partsO t).1.length - 1) := by
    rw [hl1]
    intro j hj
    have hj3 : j = 0 ∨ j = 1 ∨ j = 2 := by omega
    rcases hj3 with rfl | rfl | rfl
    · rw [w1 (by omega), ra]
    · rw [w2 (by omega), rb']
    · rw [w3 (by omega), rc]
  rw [evTry_yes hnums, hl1]
  have h0 := h.a0
  have h1 := h.b0
  have h2 := h.c0
  obtain ⟨ek, ea, eb, ec⟩ := e
  simp only at *
  congr 1
  unfold evTo evNum
  congr 1
  · split
    · rw [w1 (by omega), ra]
    · exact (h0 (by omega)).symm
  · split
    · rw [w2 (by omega), rb']
    · exact (h1 (by omega)).symm
  · split
    · rw [w3 (by omega), rc]
    · exact (h2 (by omega)).symm
end Go.Proofs.Ytfcjjkfjdecakaa
