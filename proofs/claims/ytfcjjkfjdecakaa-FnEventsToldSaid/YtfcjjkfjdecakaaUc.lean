/- A script of events, and the law of events told. No condition. -/
import Derived.Test.YtfcjjkfjdecakaaUb
namespace Go.Proofs.Ytfcjjkfjdecakaa
open Go Go.Vx
set_option linter.unusedVariables false
set_option linter.unusedSimpArgs false
set_option maxHeartbeats 600000
set_option maxRecDepth 100000

def lns : List (List UInt8) → List UInt8
  | [] => []
  | l :: r => l ++ 10 :: lns r
theorem lns_app : ∀ (a : List (List UInt8)) (l : List UInt8), lns (a ++ [l]) = lns a ++ l ++ [10]
  | [], l => by simp [lns]
  | x :: a, l => by simp only [List.cons_append, lns, lns_app a l]; simp
def noNl (l : List UInt8) : Prop := ∀ j, j < l.length → ¬ ((rb l j).toNat : Int) = 10
theorem cS_lines : ∀ (ls : List (List UInt8)) (a : List UInt8) (W : List (List UInt8)) (z : List UInt8), (∀ l ∈ ls, noNl l) → cS (a ++ lns ls ++ z) 10 a.length = (W, a.length) →
    cS (a ++ lns ls ++ z) 10 (a.length + (lns ls).length) = (W ++ ls, a.length + (lns ls).length)
  | [], a, W, z, _, h => by simpa [lns] using h
  | l :: r, a, W, z, hw, h => by
    have ht : a ++ lns (l :: r) ++ z = (a ++ l ++ [10]) ++ lns r ++ z := by simp [lns]
    have hl1 := hw l (List.mem_cons_self ..)
    have hlen : (lns (l :: r)).length = l.length + 1 + (lns r).length := by simp [lns]; omega
    have hin : ∀ m, m < l.length → rb (a ++ lns (l :: r) ++ z) (a.length + m) = rb l m := fun m hm => by
      rw [List.append_assoc, rb_r (by omega), show a.length + m - a.length = m by omega]
      show rb (l ++ 10 :: lns r ++ z) m = _
      rw [List.append_assoc, rb_l hm]
    have stay : ∀ m, m ≤ l.length → cS (a ++ lns (l :: r) ++ z) 10 (a.length + m) = (W, a.length) := by
      intro m
      induction m with
      | zero => intro _; simpa using h
      | succ m ih =>
        intro hm
        rw [← Nat.add_assoc, cS_no (by rw [hin m (by omega)]; exact hl1 m (by omega))]
        exact ih (by omega)
    have hend : rb (a ++ lns (l :: r) ++ z) (a.length + l.length) = 10 := by
      rw [List.append_assoc, rb_r (by omega), show a.length + l.length - a.length = l.length by omega]
      show rb (l ++ 10 :: lns r ++ z) l.length = _
      rw [List.append_assoc, rb_r (Nat.le_refl _), Nat.sub_self]
      rfl
    have hst := stay l.length (Nat.le_refl _)
    have hat := cS_at (t := a ++ lns (l :: r) ++ z) (b := 10) (i := a.length + l.length) (by rw [hend]; rfl)
    rw [hst] at hat
    simp only at hat
    rw [show ((a ++ lns (l :: r) ++ z).drop a.length).take (a.length + l.length - a.length) = l by
      rw [List.append_assoc, List.drop_left, show a.length + l.length - a.length = l.length by omega]
      show (l ++ 10 :: lns r ++ z).take l.length = l
      rw [List.append_assoc, List.take_left]] at hat
    have hal : (a ++ l ++ [10]).length = a.length + l.length + 1 := by simp; omega
    have ih := cS_lines r (a ++ l ++ [10]) (W ++ [l]) z (fun x hx => hw x (List.mem_cons_of_mem _ hx)) (by rw [← ht, hal]; exact hat)
    rw [← ht, hal] at ih
    rw [hlen, show a.length + (l.length + 1 + (lns r).length) = a.length + l.length + 1 + (lns r).length by omega, ih]
    simp
theorem cut_lns {ls : List (List UInt8)} {z : List UInt8} (hl : ∀ l ∈ ls, noNl l) (hz : noNl z) : cutT (lns ls ++ z) 10 = ls ++ [z] := by
  have h1 := cS_lines ls [] [] z hl rfl
  simp only [List.nil_append, List.length_nil, Nat.zero_add] at h1
  have stay : ∀ m, m ≤ z.length → cS (lns ls ++ z) 10 ((lns ls).length + m) = (ls, (lns ls).length) := by
    intro m
    induction m with
    | zero => intro _; simpa using h1
    | succ m ih =>
      intro hm
      rw [← Nat.add_assoc, cS_no (by rw [rb_r (by omega), show (lns ls).length + m - (lns ls).length = m by omega]; exact hz m (by omega))]
      exact ih (by omega)
  have h2 := stay z.length (Nat.le_refl _)
  unfold cutT
  rw [List.length_append, h2]
  simp

/-! A script. -/
def hdr : List UInt8 := [35, 32, 97, 32, 115, 99, 114, 105, 112, 116]
def tock : List UInt8 := [116, 111, 99, 107]
def evTxt (e : Event) : List UInt8 := (eventText e).1
theorem evTxt_at {e : Event} (h : EvGood e) : eventText e = (evTxt e, true) ∧ evTxt e ++ [32] = laid (evWords e) ∧ (evTxt e).length ≤ 40 := by
  obtain ⟨s, h1, h2, h3⟩ := eventText_laid h
  have : evTxt e = s := by unfold evTxt; rw [h1]
  rw [this]; exact ⟨h1, h2, h3⟩
theorem evWords_12 (e : Event) : (evWords e).length ≤ 12 := by
  have := evWord_fit e.kind
  rw [evWords_len]; omega
theorem evTxt_parts {e : Event} (h : EvGood e) : partsO (evTxt e) = (evWords e, true) := by
  obtain ⟨_, h2, h3⟩ := evTxt_at h
  exact parts_tail h2 (evWords_word h) (evWords_12 e) (by rw [← h2]; simp; omega)
theorem evTxt_wide {e : Event} (h : EvGood e) : partsO ([32, 32] ++ evTxt e ++ [32]) = (evWords e, true) := by
  obtain ⟨_, h2, h3⟩ := evTxt_at h
  have := parts_laid 2 (evWords_word h) (evWords_12 e) (by rw [← h2]; simp; omega)
  rw [← h2] at this
  rw [← this]
  simp
theorem evTxt_line {e : Event} (h : EvGood e) : noNl (evTxt e) := fun j hj => by
  obtain ⟨_, h2, _⟩ := evTxt_at h
  have hp := plain_laid _ (evWords_word h) j (by rw [← h2]; simp; omega)
  rw [← h2] at hp
  unfold plain at hp
  rw [rb_l hj] at hp
  omega
theorem evWord_sharp {k : Int} (h : 1 ≤ k ∧ k ≤ 9) : ¬ (rb (evWord k).1 0).toNat = 35 := by
  obtain ⟨n, hn, rfl⟩ : ∃ n : Nat, n < 9 ∧ k = (n : Int) + 1 := ⟨(k - 1).toNat, by omega, by omega⟩
  have : ∀ n : Fin 9, ¬ (rb (evWord ((n.val : Int) + 1)).1 0).toNat = 35 := by decide
  exact this ⟨n, hn⟩
theorem evTxt_note {e : Event} (h : EvGood e) : ¬ note (evTxt e) := fun k => by
  have hp := evTxt_parts h
  have hl := evWords_len (e := e)
  rcases k.2 with k | k
  · rw [hp] at k
    have k' : (evWords e).length = 0 := k
    omega
  · have : wd (evTxt e) 0 = (evWord e.kind).1 := by unfold wd; rw [hp]; rfl
    rw [this] at k
    exact evWord_sharp h.kind k
theorem note_hdr : note hdr := by decide +kernel
theorem note_nil : note [] := by decide +kernel
theorem tock_no : ¬ note tock ∧ (readEv tock).2 = false := by decide +kernel

def lines (es : List Event) (z : List UInt8) : List (List UInt8) := hdr :: [] :: (es.map evTxt ++ [z])
theorem lines_len (es : List Event) (z : List UInt8) : (lines es z).length = es.length + 3 := by simp [lines]
theorem lines_ev (es : List Event) (z : List UInt8) {k : Nat} (h : k < es.length) : ln (lines es z) (2 + k) = evTxt (evAtI es k) := by
  unfold ln lines evAtI
  rw [show 2 + k = k + 1 + 1 by omega]
  simp [List.getElem?_append_left, h]
theorem lines_end (es : List Event) (z : List UInt8) : ln (lines es z) (2 + es.length) = z := by
  unfold ln lines
  rw [show 2 + es.length = es.length + 1 + 1 by omega]
  simp
theorem scan_run {es : List Event} (z : List UInt8) (hg : ∀ e ∈ es, EvGood e) : ∀ k, k ≤ es.length →
    scan (lines es z) ((lines es z).length - (2 + k)) (2 + k) (es.take k) = scan (lines es z) (lines es z).length 0 []
  | 0, _ => by
    have hl := lines_len es z
    have h0 := scan_note (ls := lines es z) (i := 0) (out := []) (by omega) note_hdr
    have h1 := scan_note (ls := lines es z) (i := 1) (out := []) (by omega) note_nil
    rw [Nat.sub_zero] at h0
    rw [h0, h1]
    rfl
  | k + 1, hk => by
    have hl := lines_len es z
    have ih := scan_run z hg k (by omega)
    have hmem : evAtI es k ∈ es := by
      unfold evAtI
      rw [List.getD_eq_getElem?_getD, List.getElem?_eq_getElem (by omega)]
      exact List.getElem_mem _
    have hge := hg _ hmem
    have hline := lines_ev es z (k := k) (by omega)
    have hr := readEv_words hge (evTxt_parts hge)
    have hs := scan_ev (ls := lines es z) (i := 2 + k) (out := es.take k) (by omega) (by rw [hline]; exact evTxt_note hge) (by rw [hline, hr])
    rw [hline, hr] at hs
    rw [← ih, hs, show 2 + k + 1 = 2 + (k + 1) by omega]
    congr 1
    rw [List.take_add_one]
    congr 1
    unfold evAtI
    rw [List.getD_eq_getElem?_getD, List.getElem?_eq_getElem (by omega)]
    rfl

def scr (es : List Event) (i : Nat) : List UInt8 := lns (hdr :: [] :: (es.take i).map evTxt)
theorem evAtI_mem {es : List Event} {k : Nat} (h : k < es.length) : evAtI es k ∈ es := by
  unfold evAtI
  rw [List.getD_eq_getElem?_getD, List.getElem?_eq_getElem h]
  exact List.getElem_mem _
theorem scr_succ {es : List Event} {i : Nat} (h : i < es.length) : scr es i ++ evTxt (evAtI es i) ++ [10] = scr es (i + 1) := by
  unfold scr
  rw [List.take_add_one, List.map_append, show (es[i]?).toList.map evTxt = [evTxt (evAtI es i)] by
    unfold evAtI; rw [List.getD_eq_getElem?_getD, List.getElem?_eq_getElem h]; rfl]
  rw [← List.cons_append, ← List.cons_append, lns_app]
theorem scr_len {es : List Event} (hg : ∀ e ∈ es, EvGood e) : ∀ i, i ≤ es.length → (scr es i).length ≤ 12 + 41 * i
  | 0, _ => by simp [scr, lns, hdr]
  | i + 1, h => by
    have ih := scr_len hg i (by omega)
    have h3 := (evTxt_at (hg _ (evAtI_mem (show i < es.length by omega)))).2.2
    rw [← scr_succ (by omega)]
    simp only [List.length_append, List.length_singleton]
    omega
theorem scr_cut {es : List Event} (hg : ∀ e ∈ es, EvGood e) {z : List UInt8} (hz : noNl z) : cutT (scr es es.length ++ z) 10 = lines es z := by
  unfold scr
  rw [List.take_length, cut_lns (fun l hl => ?_) hz]
  · simp [lines]
  · simp only [List.mem_cons, List.mem_map] at hl
    rcases hl with rfl | rfl | ⟨e, he, rfl⟩
    · intro j hj
      have : ∀ j : Fin 10, ¬ ((rb hdr j.val).toNat : Int) = 10 := by decide
      exact this ⟨j, hj⟩
    · intro j hj; simp at hj
    · exact evTxt_line (hg e he)
theorem script_all {es : List Event} (hg : ∀ e ∈ es, EvGood e) (hn : es.length ≤ 60) : readScript (scr es es.length) = (es, (es.length : Int) + 3, true) := by
  have hl := scr_len hg es.length (Nat.le_refl _)
  have hc := scr_cut hg (z := []) (fun j hj => by simp at hj)
  rw [List.append_nil] at hc
  have hL := lines_len es []
  have hr := scan_run [] hg es.length (Nat.le_refl _)
  rw [List.take_length] at hr
  rw [scan_of (by omega), hc, ← hr, scan_note (by omega) (by rw [lines_end]; exact note_nil), scan_end (by omega), if_neg (by omega), hL]
  rfl
theorem script_bad {es : List Event} (hg : ∀ e ∈ es, EvGood e) (hn : es.length ≤ 60) : readScript (scr es es.length ++ tock) = ([], (es.length : Int) + 3, false) := by
  have hl := scr_len hg es.length (Nat.le_refl _)
  have hc := scr_cut hg (z := tock) (fun j hj => by
    have : ∀ j : Fin 4, ¬ ((rb tock j.val).toNat : Int) = 10 := by decide
    exact this ⟨j, hj⟩)
  have hL := lines_len es tock
  have hr := scan_run tock hg es.length (Nat.le_refl _)
  rw [List.take_length] at hr
  rw [scan_of (by simp [tock]; omega), hc, ← hr, scan_bad (by omega) (by rw [lines_end]; exact tock_no.1) (by rw [lines_end]; exact tock_no.2)]
  congr 2
  omega

/-! The draw. -/
def evLoop : Nat → Nat → Cur → List Event → List Event
  | 0, _, _, out => out
  | f + 1, i, c, out => if (i : Int) < 1 + below c 9 then evLoop f (i + 1) (evDraw (belowNext c 9)).2 (out ++ [(evDraw (belowNext c 9)).1]) else out
def drawEvs (l : List UInt8) : List Event := evLoop 10 0 (curNew l) []
theorem evLoop_good : ∀ (f i : Nat) (c : Cur) (out : List Event), (∀ e ∈ out, EvGood e) → out.length = i → i ≤ 9 → (∀ e ∈ evLoop f i c out, EvGood e) ∧ (evLoop f i c out).length ≤ 9
  | 0, i, c, out, hg, hl, hi => ⟨hg, by simp only [evLoop]; omega⟩
  | f + 1, i, c, out, hg, hl, hi => by
    simp only [evLoop]
    split
    · rename_i h
      have hb := below_fit c (n := 9) (by omega)
      refine evLoop_good f (i + 1) _ _ (fun e he => ?_) (by simp [hl]) (by omega)
      rcases List.mem_append.1 he with he | he
      · exact hg e he
      · obtain rfl := List.mem_singleton.1 he
        exact evDraw_good _
    · exact ⟨hg, by omega⟩
theorem drawEvs_good (l : List UInt8) : (∀ e ∈ drawEvs l, EvGood e) ∧ (drawEvs l).length ≤ 9 := evLoop_good 10 0 (curNew l) [] (by simp) rfl (by omega)

theorem drawEvents_vow (l : List UInt8) (h : l.length ≤ 2000000) : Vow Try.prog 26 [.sl (l.map byteV)] (evO (drawEvs l)) [] := by
  have hn := curNew_ok h
  refine vow_of_ev (fn := Try.f26) [] [(0, 0), (6, 8), (8, 9), (0, 0), (9, 13), (14, 16), (16, 21), (21, 22)] tt_ok Try.func26 (by decide) rfl (Nat.le_of_ble_eq_true rfl) rfl rfl rfl ?_
  repeat' (conv => whnf); first | refine CallP.rd (l01New_vow l h) rfl rfl rfl rfl ?_ | refine Br.tt ?_ | refine Br.ff ?_ | refine Br.not ?_ | refine Br.dand (fun _ => ?_) (fun _ => ?_) | refine Br.dec (fun _ => ?_) (fun _ => ?_) | refine Br.beq (fun _ => ?_) (fun _ => ?_) | refine Br.bne (fun _ => ?_) (fun _ => ?_) | refine Br.seq (fun _ => ?_) (fun _ => ?_) | refine Elt.i (by omega) ?_ | refine EltN.i (by omega) ?_ | refine Nt.cast ?_ | refine Nt.mk _ rfl ?_ | refine EltN.mk _ rfl ?_ | refine Mx.mk _ rfl ?_ | refine Br.mk (fun _ => ?_) (fun _ => ?_) | refine EndP.mk ?_ trivial | refine EndP.mk ?_ ⟨.inr ⟨List.mem_cons_self .., ?_, rfl⟩, trivial⟩ | refine Ar.i64 (by omega) ?_ | refine Ar.u8 (by omega) ?_ | refine Quo.pos (by omega) ?_ | refine Rem.pos (by omega) ?_ | refine BsP.own ?_ | refine Ob.mk ⟨rfl, rfl⟩ ?_ | refine Ob.mk (flat_i _ _).1 ?_ | refine Ob.mk (flat_i _ _) ?_ | refine Ob.mk (flat_s _) ?_ | refine Ob.mk (by first | omega | (simp; first | done | fail) | (simp; omega)) ?_ | fail
  · conv => whnf
    refine LoopP.mk [2,3,4,5] (fun s : Nat × Cur × List Event => [(2, .nl), (3, curV s.2.1), (4, evO s.2.2), (5, .i .i64 s.1)]) (fun s => 9 - s.1) (fun s => s.2.1.ok ∧ s.1 ≤ 9 ∧ s.2.2.length = s.1 ∧ evLoop (10 - s.1) s.1 s.2.1 s.2.2 = drawEvs l) ?_ ?_
    · conv => whnf
      exact ⟨(0, curNew l, []), ⟨hn, by omega, rfl, rfl⟩, rfl⟩
    · rintro ⟨i, c, out⟩ ⟨hc, hi, hlen, hrun⟩
      simp only at hc hi hlen hrun
      have hb := below_fit c (n := 9) (by omega)
      have o1 := belowNext_ok hc 9
      have o2 := evDraw_ok o1
      have hmap : (out.map eventV).length = out.length := by simp
      obtain ⟨f, hf⟩ : ∃ f, 10 - i = f + 1 := ⟨9 - i, by omega⟩
      repeat' (conv => whnf); first | refine CallP.ho [([5], [2])] (l01Below_vow c hc 9) rfl rfl ?_ | refine CallP.ho [([5], [2])] (l29Event_vow (belowNext c 9) o1) rfl rfl ?_ | refine Br.tt ?_ | refine Br.ff ?_ | refine Br.not ?_ | refine Br.dand (fun _ => ?_) (fun _ => ?_) | refine Br.dec (fun _ => ?_) (fun _ => ?_) | refine Br.beq (fun _ => ?_) (fun _ => ?_) | refine Br.bne (fun _ => ?_) (fun _ => ?_) | refine Br.seq (fun _ => ?_) (fun _ => ?_) | refine Elt.i (by omega) ?_ | refine EltN.i (by omega) ?_ | refine Nt.cast ?_ | refine Nt.mk _ rfl ?_ | refine EltN.mk _ rfl ?_ | refine Mx.mk _ rfl ?_ | refine Br.mk (fun _ => ?_) (fun _ => ?_) | refine EndP.mk ?_ trivial | refine EndP.mk ?_ ⟨.inr ⟨List.mem_cons_self .., ?_, rfl⟩, trivial⟩ | refine Ar.i64 (by omega) ?_ | refine Ar.u8 (by omega) ?_ | refine Quo.pos (by omega) ?_ | refine Rem.pos (by omega) ?_ | refine BsP.own ?_ | refine Ob.mk ⟨rfl, rfl⟩ ?_ | refine Ob.mk (flat_i _ _).1 ?_ | refine Ob.mk (flat_i _ _) ?_ | refine Ob.mk (flat_s _) ?_ | refine Ob.mk (by first | omega | (simp; first | done | fail) | (simp; omega)) ?_ | fail
      · conv => whnf
        refine ⟨(i + 1, (evDraw (belowNext c 9)).2, out ++ [(evDraw (belowNext c 9)).1]), ⟨o2, by omega, by simp [hlen], ?_⟩, by simp only; omega, ?_⟩
        · simp only
          rw [show 10 - (i + 1) = f by omega, ← hrun, hf, evLoop, if_pos (by omega)]
        · simp only [evO, List.map_append]
          rfl
      · rw [show drawEvs l = out by rw [← hrun, hf, evLoop, if_neg (by omega)]]
        rfl

theorem sameEvents_vow (es : List Event) (hl : es.length ≤ 1000) : Vow Try.prog 30 [evS es, evS es] (.b true) [] := by
  have hm : (es.map eventV).length = es.length := by simp
  refine vow_of_ev (fn := Try.f30) [] [(0, 0), (6, 10), (0, 0), (0, 0), (11, 14), (15, 17), (17, 25), (0, 0), (0, 0)] tt_ok Try.func30 (by decide) rfl (Nat.le_of_ble_eq_true rfl) rfl rfl rfl ?_
  repeat' (conv => whnf); first | refine Br.tt ?_ | refine Br.ff ?_ | refine Br.not ?_ | refine Br.dand (fun _ => ?_) (fun _ => ?_) | refine Br.dec (fun _ => ?_) (fun _ => ?_) | refine Br.beq (fun _ => ?_) (fun _ => ?_) | refine Br.bne (fun _ => ?_) (fun _ => ?_) | refine Br.seq (fun _ => ?_) (fun _ => ?_) | refine Elt.i (by omega) ?_ | refine EltN.i (by omega) ?_ | refine Nt.cast ?_ | refine Nt.mk _ rfl ?_ | refine EltN.mk _ rfl ?_ | refine Mx.mk _ rfl ?_ | refine Br.mk (fun _ => ?_) (fun _ => ?_) | refine EndP.mk ?_ trivial | refine EndP.mk ?_ ⟨.inr ⟨List.mem_cons_self .., ?_, rfl⟩, trivial⟩ | refine Ar.i64 (by omega) ?_ | refine Ar.u8 (by omega) ?_ | refine Quo.pos (by omega) ?_ | refine Rem.pos (by omega) ?_ | refine BsP.own ?_ | refine Ob.mk ⟨rfl, rfl⟩ ?_ | refine Ob.mk (flat_i _ _).1 ?_ | refine Ob.mk (flat_i _ _) ?_ | refine Ob.mk (flat_s _) ?_ | refine Ob.mk (by first | omega | (simp; first | done | fail) | (simp; omega)) ?_ | fail
  rotate_left
  · exfalso; omega
  · conv => whnf
    refine LoopP.mk [0,1,4,5] (fun i : Nat => [(0, evS es), (1, evS es), (4, .b false), (5, .i .i64 i)]) (fun i => es.length - i) (fun i => i ≤ es.length) ?_ ?_
    · conv => whnf
      exact ⟨0, by omega, rfl⟩
    · intro i hi
      repeat' (conv => whnf); first | refine Elt.ev (by omega) ?_ | refine EltN.ev (by omega) ?_ | refine Br.and ?_ | refine Br.tt ?_ | refine Br.ff ?_ | refine Br.not ?_ | refine Br.dand (fun _ => ?_) (fun _ => ?_) | refine Br.dec (fun _ => ?_) (fun _ => ?_) | refine Br.beq (fun _ => ?_) (fun _ => ?_) | refine Br.bne (fun _ => ?_) (fun _ => ?_) | refine Br.seq (fun _ => ?_) (fun _ => ?_) | refine Elt.i (by omega) ?_ | refine EltN.i (by omega) ?_ | refine Nt.cast ?_ | refine Nt.mk _ rfl ?_ | refine EltN.mk _ rfl ?_ | refine Mx.mk _ rfl ?_ | refine Br.mk (fun _ => ?_) (fun _ => ?_) | refine EndP.mk ?_ trivial | refine EndP.mk ?_ ⟨.inr ⟨List.mem_cons_self .., ?_, rfl⟩, trivial⟩ | refine Ar.i64 (by omega) ?_ | refine Ar.u8 (by omega) ?_ | refine Quo.pos (by omega) ?_ | refine Rem.pos (by omega) ?_ | refine BsP.own ?_ | refine Ob.mk ⟨rfl, rfl⟩ ?_ | refine Ob.mk (flat_i _ _).1 ?_ | refine Ob.mk (flat_i _ _) ?_ | refine Ob.mk (flat_s _) ?_ | refine Ob.mk (by first | omega | (simp; first | done | fail) | (simp; omega)) ?_ | fail
      all_goals first
        | (exfalso; omega)
        | exact absurd rfl ‹¬ _ = _›
        | rfl
        | (conv => whnf
           exact ⟨i + 1, by omega, by omega, rfl⟩)

set_option maxHeartbeats 6000000 in
theorem law_eventsTold (l : List UInt8) : Vow Try.prog 5 [.sl (l.map byteV)] (.b true) [] := by
  by_cases hb : 1048576 < l.length
  · refine vow_of_ev (fn := Try.f5) [] [(0, 0), (16, 17), (0, 0), (18, 20), (0, 0), (0, 0), (20, 23), (24, 26), (26, 34), (34, 41), (41, 54), (0, 0), (55, 59), (59, 65), (65, 72), (72, 96)] tt_ok Try.func5 (by decide) rfl (Nat.le_of_ble_eq_true rfl) rfl rfl rfl ?_
    repeat' (conv => whnf); first | refine CallP.rd (big2_vow l) rfl rfl rfl rfl ?_ | refine Br.tt ?_ | refine Br.ff ?_ | refine Br.not ?_ | refine Br.dand (fun _ => ?_) (fun _ => ?_) | refine Br.dec (fun _ => ?_) (fun _ => ?_) | refine Br.beq (fun _ => ?_) (fun _ => ?_) | refine Br.bne (fun _ => ?_) (fun _ => ?_) | refine Br.seq (fun _ => ?_) (fun _ => ?_) | refine Elt.i (by omega) ?_ | refine EltN.i (by omega) ?_ | refine Nt.cast ?_ | refine Nt.mk _ rfl ?_ | refine EltN.mk _ rfl ?_ | refine Mx.mk _ rfl ?_ | refine Br.mk (fun _ => ?_) (fun _ => ?_) | refine EndP.mk ?_ trivial | refine EndP.mk ?_ ⟨.inr ⟨List.mem_cons_self .., ?_, rfl⟩, trivial⟩ | refine Ar.i64 (by omega) ?_ | refine Ar.u8 (by omega) ?_ | refine Quo.pos (by omega) ?_ | refine Rem.pos (by omega) ?_ | refine BsP.own ?_ | refine Ob.mk ⟨rfl, rfl⟩ ?_ | refine Ob.mk (flat_i _ _).1 ?_ | refine Ob.mk (flat_i _ _) ?_ | refine Ob.mk (flat_s _) ?_ | refine Ob.mk (by first | omega | (simp; first | done | fail) | (simp; omega)) ?_ | fail
    all_goals first | rfl | (exfalso; omega)
  obtain ⟨hg, h9⟩ := drawEvs_good l
  have f0 := drawEvents_vow l (by omega)
  have f3 := readScript_impl (scr (drawEvs l) (drawEvs l).length)
  have f4 := readScript_impl (scr (drawEvs l) (drawEvs l).length ++ tock)
  rw [script_all hg (by omega)] at f3
  rw [script_bad hg (by omega)] at f4
  simp only at f3 f4
  unfold tock at f4
  have f5 := sameEvents_vow (drawEvs l) (by omega)
  generalize drawEvs l = es at *
  have hm : (es.map eventV).length = es.length := by simp
  refine vow_of_ev (fn := Try.f5) [] [(0, 0), (16, 17), (0, 0), (18, 20), (0, 0), (0, 0), (20, 23), (24, 26), (26, 34), (34, 41), (41, 54), (0, 0), (55, 59), (59, 65), (65, 72), (72, 96)] tt_ok Try.func5 (by decide) rfl (Nat.le_of_ble_eq_true rfl) rfl rfl rfl ?_
  repeat' (conv => whnf); first | refine CallP.rd (big2_vow l) rfl rfl rfl rfl ?_ | refine CallP.re (f0) (by first | with_reducible rfl | (simp only [imm_i, imm_s, imm_b, curV, evO, evS, own_ev, imm_ev]; first | done | fail)) rfl rfl rfl (by first | rfl | exact own_i _ _ | exact own_s _ | exact own_b _ | (simp [V.noSl, V.noSl.go, own_i, own_s, own_b, curV, evO, evS, own_ev, imm_ev]; first | done | fail)) ?_ | refine Br.tt ?_ | refine Br.ff ?_ | refine Br.not ?_ | refine Br.dand (fun _ => ?_) (fun _ => ?_) | refine Br.dec (fun _ => ?_) (fun _ => ?_) | refine Br.beq (fun _ => ?_) (fun _ => ?_) | refine Br.bne (fun _ => ?_) (fun _ => ?_) | refine Br.seq (fun _ => ?_) (fun _ => ?_) | refine Elt.i (by omega) ?_ | refine EltN.i (by omega) ?_ | refine Nt.cast ?_ | refine Nt.mk _ rfl ?_ | refine EltN.mk _ rfl ?_ | refine Mx.mk _ rfl ?_ | refine Br.mk (fun _ => ?_) (fun _ => ?_) | refine EndP.mk ?_ trivial | refine EndP.mk ?_ ⟨.inr ⟨List.mem_cons_self .., ?_, rfl⟩, trivial⟩ | refine Ar.i64 (by omega) ?_ | refine Ar.u8 (by omega) ?_ | refine Quo.pos (by omega) ?_ | refine Rem.pos (by omega) ?_ | refine BsP.own ?_ | refine Ob.mk ⟨rfl, rfl⟩ ?_ | refine Ob.mk (flat_i _ _).1 ?_ | refine Ob.mk (flat_i _ _) ?_ | refine Ob.mk (flat_s _) ?_ | refine Ob.mk (by first | omega | (simp; first | done | fail) | (simp; omega)) ?_ | fail
  · exfalso; omega
  · conv => whnf
    refine LoopP.mk [0,2,3,4,5] (fun i : Nat => [(0, .sl (l.map byteV)), (2, .b false), (3, evO es), (4, .s (scr es i)), (5, .i .i64 i)]) (fun i => es.length - i) (fun i => i ≤ es.length) ?_ ?_
    · conv => whnf
      exact ⟨0, by omega, rfl⟩
    · intro i hi
      have hsl := scr_len hg i hi
      by_cases hin : i < es.length
      · have hge := hg _ (evAtI_mem hin)
        obtain ⟨t1, t2, t3⟩ := evTxt_at hge
        have hok : (evAtI es i).ok := ⟨by have := hge.kind; unfold I64; omega, by have := hge.a; unfold num9 at this; unfold I64; omega, by have := hge.b; unfold num9 at this; unfold I64; omega, by have := hge.c; unfold num9 at this; unfold I64; omega⟩
        have f1 := eventText_impl (evAtI es i) hok
        rw [t1] at f1
        have f2 := readEv_impl ([32, 32] ++ evTxt (evAtI es i) ++ [32])
        rw [readEv_words hge (evTxt_wide hge)] at f2
        repeat' (conv => whnf); first | refine Elt.ev (by omega) ?_ | refine EltN.ev (by omega) ?_ | refine CallP.rd (f1) rfl rfl rfl rfl ?_ | refine CallP.rd (f2) rfl rfl rfl rfl ?_ | refine Br.and ?_ | refine Br.tt ?_ | refine Br.ff ?_ | refine Br.not ?_ | refine Br.dand (fun _ => ?_) (fun _ => ?_) | refine Br.dec (fun _ => ?_) (fun _ => ?_) | refine Br.beq (fun _ => ?_) (fun _ => ?_) | refine Br.bne (fun _ => ?_) (fun _ => ?_) | refine Br.seq (fun _ => ?_) (fun _ => ?_) | refine Elt.i (by omega) ?_ | refine EltN.i (by omega) ?_ | refine Nt.cast ?_ | refine Nt.mk _ rfl ?_ | refine EltN.mk _ rfl ?_ | refine Mx.mk _ rfl ?_ | refine Br.mk (fun _ => ?_) (fun _ => ?_) | refine EndP.mk ?_ trivial | refine EndP.mk ?_ ⟨.inr ⟨List.mem_cons_self .., ?_, rfl⟩, trivial⟩ | refine Ar.i64 (by omega) ?_ | refine Ar.u8 (by omega) ?_ | refine Quo.pos (by omega) ?_ | refine Rem.pos (by omega) ?_ | refine BsP.own ?_ | refine Ob.mk ⟨rfl, rfl⟩ ?_ | refine Ob.mk (flat_i _ _).1 ?_ | refine Ob.mk (flat_i _ _) ?_ | refine Ob.mk (flat_s _) ?_ | refine Ob.mk (by first | omega | (simp; first | done | fail) | (simp; omega)) ?_ | fail
        all_goals first
          | (exfalso; omega)
          | exact absurd rfl ‹¬ _ = _›
          | (conv => whnf
             refine ⟨i + 1, by omega, by omega, ?_⟩
             rw [scr_succ hin]
             rfl)
      · obtain rfl : i = es.length := by omega
        repeat' (conv => whnf); first | refine CallP.re (f3) (by first | with_reducible rfl | (simp only [imm_i, imm_s, imm_b, curV, evO, evS, own_ev, imm_ev]; first | done | fail)) rfl rfl rfl (by first | rfl | exact own_i _ _ | exact own_s _ | exact own_b _ | (simp [V.noSl, V.noSl.go, own_i, own_s, own_b, curV, evO, evS, own_ev, imm_ev]; first | done | fail)) ?_ | refine CallP.re (f4) (by first | with_reducible rfl | (simp only [imm_i, imm_s, imm_b, curV, evO, evS, own_ev, imm_ev]; first | done | fail)) rfl rfl rfl (by first | rfl | exact own_i _ _ | exact own_s _ | exact own_b _ | (simp [V.noSl, V.noSl.go, own_i, own_s, own_b, curV, evO, evS, own_ev, imm_ev]; first | done | fail)) ?_ | refine CallP.re (f5) (by first | with_reducible rfl | (simp only [imm_i, imm_s, imm_b, curV, evO, evS, own_ev, imm_ev]; first | done | fail)) rfl rfl rfl (by first | rfl | exact own_i _ _ | exact own_s _ | exact own_b _ | (simp [V.noSl, V.noSl.go, own_i, own_s, own_b, curV, evO, evS, own_ev, imm_ev]; first | done | fail)) ?_ | refine Br.tt ?_ | refine Br.ff ?_ | refine Br.not ?_ | refine Br.dand (fun _ => ?_) (fun _ => ?_) | refine Br.dec (fun _ => ?_) (fun _ => ?_) | refine Br.beq (fun _ => ?_) (fun _ => ?_) | refine Br.bne (fun _ => ?_) (fun _ => ?_) | refine Br.seq (fun _ => ?_) (fun _ => ?_) | refine Elt.i (by omega) ?_ | refine EltN.i (by omega) ?_ | refine Nt.cast ?_ | refine Nt.mk _ rfl ?_ | refine EltN.mk _ rfl ?_ | refine Mx.mk _ rfl ?_ | refine Br.mk (fun _ => ?_) (fun _ => ?_) | refine EndP.mk ?_ trivial | refine EndP.mk ?_ ⟨.inr ⟨List.mem_cons_self .., ?_, rfl⟩, trivial⟩ | refine Ar.i64 (by omega) ?_ | refine Ar.u8 (by omega) ?_ | refine Quo.pos (by omega) ?_ | refine Rem.pos (by omega) ?_ | refine BsP.own ?_ | refine Ob.mk ⟨rfl, rfl⟩ ?_ | refine Ob.mk (flat_i _ _).1 ?_ | refine Ob.mk (flat_i _ _) ?_ | refine Ob.mk (flat_s _) ?_ | refine Ob.mk (by first | omega | (simp; first | done | fail) | (simp; omega)) ?_ | fail
        all_goals first
          | (exfalso; omega)
          | exact absurd rfl ‹¬ _ = _›
          | (rw [hm]; simp [resOf]; first | done | fail)
          | rfl
theorem bytesOf2 (n : List Int) (h : ∀ z ∈ n, IntKind.u8.has z) : ∃ l : List UInt8, n.map (V.i .u8) = l.map byteV := by
  refine ⟨n.map fun z => UInt8.ofNat z.toNat, ?_⟩
  rw [List.map_map]
  refine List.map_congr_left fun z hz => ?_
  have hh := h z hz
  have : 0 ≤ z ∧ z ≤ 255 := by
    unfold IntKind.has IntKind.min IntKind.max at hh
    simpa [IntKind.bits, IntKind.signed] using hh
  show V.i .u8 z = byteV (UInt8.ofNat z.toNat)
  unfold byteV
  congr 1
  rw [UInt8.toNat_ofNat']
  omega
theorem law_eventsTold_row (n : List Int) (h : ∀ z ∈ n, IntKind.u8.has z) : Vow Try.prog 5 [.sl (n.map (.i .u8))] (.b true) [] := by
  obtain ⟨l, hl⟩ := bytesOf2 n h
  rw [hl]
  exact law_eventsTold l
end Go.Proofs.Ytfcjjkfjdecakaa
