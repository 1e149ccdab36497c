/- Events as text. No condition. -/
import Derived.Test.YtfcjjkfjdecakaaSc
namespace Go.Proofs.Ytfcjjkfjdecakaa
open Go Go.Vx
set_option linter.unusedVariables false
set_option linter.unusedSimpArgs false
set_option maxHeartbeats 600000
set_option maxRecDepth 100000

def evWord (k : Int) : List UInt8 × Int :=
  if k = 1 then ([115, 104, 111, 119], 2) else if k = 2 then ([103, 105, 118, 101], 1) else if k = 3 then ([116, 119, 105, 99, 101], 1)
  else if k = 4 then ([108, 111, 115, 101], 1) else if k = 5 then ([115, 112, 111, 105, 108], 3) else if k = 6 then ([106, 117, 110, 107], 3)
  else if k = 7 then ([97, 108, 108], 0) else if k = 8 then ([116, 105, 99, 107], 0) else if k = 9 then ([108, 97, 121], 1) else ([], 0)

theorem evWord_fit (k : Int) : (evWord k).1.length ≤ 5 ∧ 0 ≤ (evWord k).2 ∧ (evWord k).2 ≤ 3 := by
  unfold evWord
  repeat' split
  all_goals decide

theorem wordOf_impl (k : Int) : Vow Try.prog 86 [.i .i64 k] (.tp [.s (evWord k).1, .i .i64 (evWord k).2]) [] := by
  refine vow_of_ev (fn := Try.f86) [] [(0, 0), (0, 0), (6, 7), (0, 0), (8, 9), (0, 0), (10, 11), (0, 0), (12, 13), (0, 0), (14, 15), (0, 0), (16, 17), (0, 0), (18, 19), (0, 0), (20, 21), (0, 0), (22, 23), (0, 0), (0, 0)] tt_ok Try.func86 (by decide) rfl (Nat.le_of_ble_eq_true rfl) rfl rfl rfl ?_
  repeat' (conv => whnf); first | refine Br.tt ?_ | refine Br.ff ?_ | refine Br.not ?_ | refine Br.dand (fun _ => ?_) (fun _ => ?_) | refine Br.dec (fun _ => ?_) (fun _ => ?_) | refine Br.beq (fun _ => ?_) (fun _ => ?_) | refine Br.bne (fun _ => ?_) (fun _ => ?_) | refine Br.seq (fun _ => ?_) (fun _ => ?_) | refine Elt.i (by omega) ?_ | refine EltN.i (by omega) ?_ | refine Nt.cast ?_ | refine Nt.mk _ rfl ?_ | refine EltN.mk _ rfl ?_ | refine Mx.mk _ rfl ?_ | refine Br.mk (fun _ => ?_) (fun _ => ?_) | refine EndP.mk ?_ trivial | refine EndP.mk ?_ ⟨.inr ⟨List.mem_cons_self .., ?_, rfl⟩, trivial⟩ | refine Ar.i64 (by omega) ?_ | refine Ar.u8 (by omega) ?_ | refine Quo.pos (by omega) ?_ | refine Rem.pos (by omega) ?_ | refine BsP.own ?_ | refine Ob.mk ⟨rfl, rfl⟩ ?_ | refine Ob.mk (flat_i _ _).1 ?_ | refine Ob.mk (flat_i _ _) ?_ | refine Ob.mk (flat_s _) ?_ | refine Ob.mk (by first | omega | (simp; first | done | fail) | (simp; omega)) ?_ | fail
  all_goals simp [resOf, evWord, *]

structure Event where
  kind : Int
  a : Int
  b : Int
  c : Int
  deriving DecidableEq
def Event.ok (e : Event) : Prop := I64 e.kind ∧ I64 e.a ∧ I64 e.b ∧ I64 e.c
def eventV (e : Event) : V := .ag [.i .i64 e.kind, .i .i64 e.a, .i .i64 e.b, .i .i64 e.c]

/-- The numbers behind an event's word. -/
def evArgs (n : Int) : Int → List Int → List UInt8 → Option (List UInt8)
  | _, [], s => some s
  | i, x :: r, s => if (n ≤ i ∧ ¬ x = 0) ∨ ¬ (0 ≤ x ∧ x ≤ 1000000000) then none else evArgs n (i + 1) r (if i < n then s ++ [32] ++ decimal x else s)

theorem evArgs_cons (n i x : Int) (r : List Int) (s : List UInt8) : evArgs n i (x :: r) s = if (n ≤ i ∧ ¬ x = 0) ∨ ¬ (0 ≤ x ∧ x ≤ 1000000000) then none else evArgs n (i + 1) r (if i < n then s ++ [32] ++ decimal x else s) := rfl

def eventText (e : Event) : List UInt8 × Bool :=
  if (evWord e.kind).1 = [] then ([], false) else match evArgs (evWord e.kind).2 0 [e.a, e.b, e.c] (evWord e.kind).1 with
    | some s => (s, true)
    | none => ([], false)

def evTail (e : Event) (i : Nat) : List Int := [e.a, e.b, e.c].drop i

theorem eventText_none (e : Event) (h : evArgs (evWord e.kind).2 0 [e.a, e.b, e.c] (evWord e.kind).1 = none) : eventText e = ([], false) := by
  unfold eventText
  rw [h]
  split <;> rfl
theorem eventText_some (e : Event) (s : List UInt8) (hw : ¬ (evWord e.kind).1 = []) (h : evArgs (evWord e.kind).2 0 [e.a, e.b, e.c] (evWord e.kind).1 = some s) : eventText e = (s, true) := by
  unfold eventText
  rw [h, if_neg hw]

/-- What a round of the loop keeps. -/
def EvI (e : Event) (i : Nat) (s : List UInt8) : Prop :=
  i ≤ 3 ∧ s.length ≤ 10 + 22 * i ∧ evArgs (evWord e.kind).2 i (evTail e i) s = evArgs (evWord e.kind).2 0 [e.a, e.b, e.c] (evWord e.kind).1

theorem EvI.start (e : Event) : EvI e 0 (evWord e.kind).1 := ⟨by omega, by have := evWord_fit e.kind; omega, rfl⟩

def evAt (e : Event) (i : Nat) : Int := if i = 0 then e.a else if i = 1 then e.b else e.c

theorem evTail_at (e : Event) {i : Nat} (h : i < 3) : evTail e i = evAt e i :: evTail e (i + 1) := by
  match i, h with
  | 0, _ | 1, _ | 2, _ => rfl

theorem EvI.step {e : Event} {i : Nat} {s : List UInt8} (h : EvI e i s) (hi : i < 3) (hx : 0 ≤ evAt e i ∧ evAt e i ≤ 1000000000) (hn : ¬ ((evWord e.kind).2 ≤ i ∧ ¬ evAt e i = 0)) :
    EvI e (i + 1) (if (i : Int) < (evWord e.kind).2 then s ++ [32] ++ decimal (evAt e i) else s) := by
  obtain ⟨h1, h2, h3⟩ := h
  have hl := decimal_len (evAt e i) (by omega)
  refine ⟨by omega, ?_, ?_⟩
  · split
    · simp; omega
    · omega
  · rw [← h3, evTail_at e hi, evArgs_cons, if_neg (c := _ ∨ _) (by omega)]
    rfl

theorem EvI.none {e : Event} {i : Nat} {s : List UInt8} (h : EvI e i s) (hi : i < 3) (hx : ((evWord e.kind).2 ≤ i ∧ ¬ evAt e i = 0) ∨ ¬ (0 ≤ evAt e i ∧ evAt e i ≤ 1000000000)) : eventText e = ([], false) := by
  refine eventText_none e ?_
  rw [← h.2.2, evTail_at e hi, evArgs_cons, if_pos hx]

theorem EvI.done {e : Event} {i : Nat} {s : List UInt8} (h : EvI e i s) (hi : ¬ (i : Int) < 3) (hw : ¬ (evWord e.kind).1 = []) : eventText e = (s, true) := by
  refine eventText_some e s hw ?_
  obtain rfl : i = 3 := by have := h.1; omega
  rw [← h.2.2]
  rfl

theorem evRow_at (e : Event) {i : Nat} (h : i < 3) : [V.i .i64 e.a, V.i .i64 e.b, V.i .i64 e.c][i]? = some (.i .i64 (evAt e i)) := by
  match i, h with
  | 0, _ | 1, _ | 2, _ => rfl

theorem evAt_ok (e : Event) (h : e.ok) (i : Nat) : I64 (evAt e i) := by
  unfold evAt
  split
  · exact h.2.1
  · split
    · exact h.2.2.1
    · exact h.2.2.2

theorem eventText_impl (e : Event) (h : e.ok) : Vow Try.prog 27 [eventV e] (.tp [.s (eventText e).1, .b (eventText e).2]) [] := by
  refine vow_of_ev (fn := Try.f27) [] [(0, 0), (8, 14), (14, 15), (0, 0), (16, 22), (0, 0), (26, 29), (29, 40), (0, 0), (41, 43), (44, 49), (49, 50), (50, 51)] tt_ok Try.func27 (by decide) rfl (Nat.le_of_ble_eq_true rfl) rfl rfl rfl ?_
  have hw := evWord_fit e.kind
  repeat' (conv => whnf); first | refine CallP.rd (wordOf_impl _) rfl rfl rfl rfl ?_ | refine Br.tt ?_ | refine Br.ff ?_ | refine Br.not ?_ | refine Br.dand (fun _ => ?_) (fun _ => ?_) | refine Br.dec (fun _ => ?_) (fun _ => ?_) | refine Br.beq (fun _ => ?_) (fun _ => ?_) | refine Br.bne (fun _ => ?_) (fun _ => ?_) | refine Br.seq (fun _ => ?_) (fun _ => ?_) | refine Elt.i (by omega) ?_ | refine EltN.i (by omega) ?_ | refine Nt.cast ?_ | refine Nt.mk _ rfl ?_ | refine EltN.mk _ rfl ?_ | refine Mx.mk _ rfl ?_ | refine Br.mk (fun _ => ?_) (fun _ => ?_) | refine EndP.mk ?_ trivial | refine EndP.mk ?_ ⟨.inr ⟨List.mem_cons_self .., ?_, rfl⟩, trivial⟩ | refine Ar.i64 (by omega) ?_ | refine Ar.u8 (by omega) ?_ | refine Quo.pos (by omega) ?_ | refine Rem.pos (by omega) ?_ | refine BsP.own ?_ | refine Ob.mk ⟨rfl, rfl⟩ ?_ | refine Ob.mk (flat_i _ _).1 ?_ | refine Ob.mk (flat_i _ _) ?_ | refine Ob.mk (flat_s _) ?_ | refine Ob.mk (by first | omega | (simp; first | done | fail) | (simp; omega)) ?_ | fail
  · simp_all [resOf, eventText]
  · conv => whnf
    refine LoopP.mk [1,2,3,4,5,22,23,24] (fun ((i, s) : Nat × List UInt8) => [(1, .bx [.i .i64 e.kind, .i .i64 e.a, .i .i64 e.b, .i .i64 e.c]), (2, .s []), (3, .b false), (4, .s s), (5, .i .i64 (evWord e.kind).2), (22, .ow 1 [.i .i64 e.a, .i .i64 e.b, .i .i64 e.c]), (23, .i .i64 3), (24, .i .i64 i)])
      (fun s => 3 - s.1) (fun (i, s) => EvI e i s) ?_ ?_
    · conv => whnf
      exact ⟨(0, (evWord e.kind).1), EvI.start e, rfl⟩
    · rintro ⟨i, s⟩ (hI : EvI e i s)
      have h1 := hI.1
      have h2 := hI.2.1
      have hd := decimal_len (evAt e i) (evAt_ok e h i)
      repeat' (conv => whnf); first | refine CallP.rd (within_vow _ _ _) rfl rfl rfl rfl ?_ | refine CallP.rd (decimal_impl (evAt e i) (evAt_ok e h i)) rfl rfl rfl rfl ?_ | refine EltN.mk _ (evRow_at e (show i < 3 by omega)) ?_ | refine Br.tt ?_ | refine Br.ff ?_ | refine Br.not ?_ | refine Br.dand (fun _ => ?_) (fun _ => ?_) | refine Br.dec (fun _ => ?_) (fun _ => ?_) | refine Br.beq (fun _ => ?_) (fun _ => ?_) | refine Br.bne (fun _ => ?_) (fun _ => ?_) | refine Br.seq (fun _ => ?_) (fun _ => ?_) | refine Elt.i (by omega) ?_ | refine EltN.i (by omega) ?_ | refine Nt.cast ?_ | refine Nt.mk _ rfl ?_ | refine EltN.mk _ rfl ?_ | refine Mx.mk _ rfl ?_ | refine Br.mk (fun _ => ?_) (fun _ => ?_) | refine EndP.mk ?_ trivial | refine EndP.mk ?_ ⟨.inr ⟨List.mem_cons_self .., ?_, rfl⟩, trivial⟩ | refine Ar.i64 (by omega) ?_ | refine Ar.u8 (by omega) ?_ | refine Quo.pos (by omega) ?_ | refine Rem.pos (by omega) ?_ | refine BsP.own ?_ | refine Ob.mk ⟨rfl, rfl⟩ ?_ | refine Ob.mk (flat_i _ _).1 ?_ | refine Ob.mk (flat_i _ _) ?_ | refine Ob.mk (flat_s _) ?_ | refine Ob.mk (by first | omega | (simp; first | done | fail) | (simp; omega)) ?_ | fail
      all_goals first
        | (conv => whnf
           refine ⟨(i + 1, _), hI.step (by omega) (by omega) (by omega), by show 3 - (i + 1) < 3 - i; omega, ?_⟩
           first
             | (rw [if_pos (by omega)]; rfl)
             | (rw [if_neg (by omega)]; rfl))
        | (rw [hI.none (by omega) (by omega)]; rfl)
        | (rw [hI.done (by omega) (by assumption)]; rfl)

end Go.Proofs.Ytfcjjkfjdecakaa