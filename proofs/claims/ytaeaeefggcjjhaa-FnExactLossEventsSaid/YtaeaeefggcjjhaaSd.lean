/- Events as text. No condition. -/
import Derived.Test.YtaeaeefggcjjhaaSc
namespace Go.Proofs.Ytaeaeefggcjjhaa
open Go Go.Vx
set_option linter.unusedVariables false
set_option linter.unusedSimpArgs false
set_option maxHeartbeats 600000
set_option maxRecDepth 100000

def evWord (k : Int) : List UInt8 × Int :=
  if k = 1 then ([115, 104, 111, 119], 2) else if k = 2 then ([103, 105, 118, 101], 1) else if k = 3 then ([116, 119, 105, 99, 101], 1)
  else if k = 4 then ([108, 111, 115, 101], 1) else if k = 5 then ([115, 112, 111, 105, 108], 3) else if k = 6 then ([106, 117, 110, 107], 3)
  else if k = 7 then ([97, 108, 108], 0) else if k = 8 then ([116, 105, 99, 107], 0) else if k = 9 then ([108, 97, 121], 1) else ([], 0)

theorem evWord_fit (k : Int) : (evWord k).1.length ≤ 5 ∧ 0 ≤ (evWord k).2 ∧ (evWord k).2 ≤ 3 := by
  unfold evWord
  repeat' split
  all_goals decide

structure Event where
  kind : Int
  a : Int
  b : Int
  c : Int
  deriving DecidableEq
def Event.ok (e : Event) : Prop := I64 e.kind ∧ I64 e.a ∧ I64 e.b ∧ I64 e.c
def eventV (e : Event) : V := .ag [.i .i64 e.kind, .i .i64 e.a, .i .i64 e.b, .i .i64 e.c]

/-- The numbers behind an event's word. -/
def evArgs (n : Int) : Int → List Int → List UInt8 → Option (List UInt8)
  | _, [], s => some s
  | i, x :: r, s => if (n ≤ i ∧ ¬ x = 0) ∨ ¬ (0 ≤ x ∧ x ≤ 1000000000) then none else evArgs n (i + 1) r (if i < n then s ++ [32] ++ decimal x else s)

theorem evArgs_cons (n i x : Int) (r : List Int) (s : List UInt8) : evArgs n i (x :: r) s = if (n ≤ i ∧ ¬ x = 0) ∨ ¬ (0 ≤ x ∧ x ≤ 1000000000) then none else evArgs n (i + 1) r (if i < n then s ++ [32] ++ decimal x else s) := rfl

def eventText (e : Event) : List UInt8 × Bool :=
  if (evWord e.kind).1 = [] then ([], false) else match evArgs (evWord e.kind).2 0 [e.a, e.b, e.c] (evWord e.kind).1 with
    | some s => (s, true)
    | none => ([], false)

def evTail (e : Event) (i : Nat) : List Int := [e.a, e.b, e.c].drop i

theorem eventText_none (e : Event) (h : evArgs (evWord e.kind).2 0 [e.a, e.b, e.c] (evWord e.kind).1 = none) : eventText e = ([], false) := by
  unfold eventText
  rw [h]
  split <;> rfl
theorem eventText_some (e : Event) (s : List UInt8) (hw : ¬ (evWord e.kind).1 = []) (h : evArgs (evWord e.kind).2 0 [e.a, e.b, e.c] (evWord e.kind).1 = some s) : eventText e = (s, true) := by
  unfold eventText
  rw [h, if_neg hw]

/-- What a round of the loop keeps. -/
def EvI (e : Event) (i : Nat) (s : List UInt8) : Prop :=
  i ≤ 3 ∧ s.length ≤ 10 + 22 * i ∧ evArgs (evWord e.kind).2 i (evTail e i) s = evArgs (evWord e.kind).2 0 [e.a, e.b, e.c] (evWord e.kind).1

theorem EvI.start (e : Event) : EvI e 0 (evWord e.kind).1 := ⟨by omega, by have := evWord_fit e.kind; omega, rfl⟩

def evAt (e : Event) (i : Nat) : Int := if i = 0 then e.a else if i = 1 then e.b else e.c

theorem evTail_at (e : Event) {i : Nat} (h : i < 3) : evTail e i = evAt e i :: evTail e (i + 1) := by
  match i, h with
  | 0, _ | 1, _ | 2, _ => rfl

theorem EvI.step {e : Event} {i : Nat} {s : List UInt8} (h : EvI e i s) (hi : i < 3) (hx : 0 ≤ evAt e i ∧ evAt e i ≤ 1000000000) (hn : ¬ ((evWord e.kind).2 ≤ i ∧ ¬ evAt e i = 0)) :
    EvI e (i + 1) (if (i : Int) < (evWord e.kind).2 then s ++ [32] ++ decimal (evAt e i) else s) := by
  obtain ⟨h1, h2, h3⟩ := h
  have hl := decimal_len (evAt e i) (by omega)
  refine ⟨by omega, ?_, ?_⟩
  · split
    · simp; omega
    · omega
  · rw [← h3, evTail_at e hi, evArgs_cons, if_neg (c := _ ∨ _) (by omega)]
    rfl

theorem EvI.none {e : Event} {i : Nat} {s : List UInt8} (h : EvI e i s) (hi : i < 3) (hx : ((evWord e.kind).2 ≤ i ∧ ¬ evAt e i = 0) ∨ ¬ (0 ≤ evAt e i ∧ evAt e i ≤ 1000000000)) : eventText e = ([], false) := by
  refine eventText_none e ?_
  rw [← h.2.2, evTail_at e hi, evArgs_cons, if_pos hx]

theorem EvI.done {e : Event} {i : Nat} {s : List UInt8} (h : EvI e i s) (hi : ¬ (i : Int) < 3) (hw : ¬ (evWord e.kind).1 = []) : eventText e = (s, true) := by
  refine eventText_some e s hw ?_
  obtain rfl : i = 3 := by have := h.1; omega
  rw [← h.2.2]
  rfl

theorem evRow_at (e : Event) {i : Nat} (h : i < 3) : [V.i .i64 e.a, V.i .i64 e.b, V.i .i64 e.c][i]? = some (.i .i64 (evAt e i)) := by
  match i, h with
  | 0, _ | 1, _ | 2, _ => rfl

theorem evAt_ok (e : Event) (h : e.ok) (i : Nat) : I64 (evAt e i) := by
  unfold evAt
  split
  · exact h.2.1
  · split
    · exact h.2.2.1
    · exact h.2.2.2

end Go.Proofs.Ytaeaeefggcjjhaa