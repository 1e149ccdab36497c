/- A functional reading of Go memory: values, owners, and what each operation makes of them. No condition. -/
import Derived.Below
import Derived.WalkKit
import Derived.Deep.LoopGhost
import Derived.Laws.StructEq
import Derived.Laws.Entries
import Derived.Laws.Cells
import Derived.ChangeKeysEq
import Derived.Laws.Strings
import Derived.Laws.BytesString
import Derived.Laws.Small
import Derived.Laws.AppendOwn
import Derived.Great.FillDense
import Derived.Great.BuildSlice
import Derived.Laws.MakeOwn
import Derived.Laws.IdiomStrings
set_option linter.unusedVariables false
set_option linter.unusedSimpArgs false
namespace Go.Vx
open Go Go.RowKit

abbrev Path := List Nat

/-- Abstract values. `sl`: a slice that nobody writes any more; `ow`: a slice that its owner may write (z cells an element); `bx`: a pointer to an owned variable;
`al`, `hd`: a slice that is owned elsewhere, whole or in part; `ad`, `ae`: an address in what is owned elsewhere; `im`: an address of cells that nobody writes any more; `lit`: this very cell. -/
inductive V where
  | i (k : IntKind) (n : Int)
  | b (b : Bool)
  | s (s : List UInt8)
  | sl (xs : List V)
  | ow (z : Nat) (xs : List V)
  | ag (cs : List V)
  | tp (cs : List V)
  | bx (cs : List V)
  | al (p : Path)
  | hd (p : Path) (z off len : Nat)
  | ad (p : Path) (off : Nat)
  | ae (p : Path) (z j f : Nat)
  | im (cs : List V)
  | np
  | nl
  | fn (f : Nat)
  | lit (c : Value)
  | un
  deriving Inhabited

/-- Whose each block is, and the value of the pointer or slice that owns what stands at a path. -/
structure Gh where
  lab : Nat → Option Path
  vm : Path → Value

/-- No cell of a block of n cells bears a mark. -/
def FrOk (fr : Nat × Nat) (n : Nat) : Prop := fr.2 = 0 ∨ n ≤ fr.1

/-- A block of these cells, none of them marked. -/
def Lies (w : World) (blk : Nat) (cur : Array Value) (ty : TypeId) : Prop := ∃ fr, w.heap[blk]? = some (.cells cur ty fr) ∧ FrOk fr cur.size

theorem Lies.of {w w' : World} {blk : Nat} {cur : Array Value} {ty : TypeId} (h : Lies w blk cur ty) (e : w'.heap[blk]? = w.heap[blk]?) : Lies w' blk cur ty := by
  obtain ⟨fr, h1, h2⟩ := h
  exact ⟨fr, e.trans h1, h2⟩

theorem Lies.new {w : World} {blk : Nat} {cur : Array Value} {ty : TypeId} (h : w.heap[blk]? = some (.cells cur ty (0, 0))) : Lies w blk cur ty := ⟨_, h, .inl rfl⟩

theorem Lies.lt {w : World} {blk : Nat} {cur : Array Value} {ty : TypeId} (h : Lies w blk cur ty) : blk < w.heap.size := by
  obtain ⟨fr, h1, _⟩ := h
  exact (Array.getElem?_eq_some_iff.1 h1).1

theorem Lies.cell {w : World} {blk : Nat} {cur : Array Value} {ty : TypeId} (h : Lies w blk cur ty) (j : Nat) : w.cell? ⟨blk, j, none⟩ = cur[j]? := by
  obtain ⟨fr, h1, _⟩ := h
  simp [World.cell?, h1]

/-- What trees stand for. The path: where the tree's owner keeps it; none: nobody writes any of it. -/
inductive RepC (w : World) (g : Gh) : Option Path → V → List Value → Prop
  | i {π k n} : RepC w g π (.i k n) [.int k n]
  | b {π b} : RepC w g π (.b b) [.bool b]
  | s {π l} : RepC w g π (.s l) [.string ⟨l.toArray⟩]
  | np {π} : RepC w g π .np [.pointer none]
  | nl {π} : RepC w g π .nl [.slice none 0 0]
  | un {π c} : RepC w g π .un [c]
  | lit {π c} (h : c.oneCell' = true ∧ c.cells = #[c]) : RepC w g π (.lit c) [c]
  | fn {π f} : RepC w g π (.fn f) [.func (.func f) #[] #[]]
  | slnil {π a} : RepC w g π (.sl []) [.slice a 0 0]
  | sl {π xs} (blk o z cap : Nat) (ch : Nat → List Value) (hl : 0 < xs.length → g.lab blk = none) (hlt : 0 < xs.length → blk < w.heap.size) (hcap : xs.length ≤ cap)
      (hz : ∀ j, j < xs.length → (ch j).length = z)
      (hc : ∀ j, j < xs.length → ∀ q c, (ch j)[q]? = some c → w.cell? ⟨blk, o + j * z + q, none⟩ = some c)
      (hr : ∀ j x, xs[j]? = some x → RepC w g none x (ch j)) : RepC w g π (.sl xs) [.slice (some ⟨blk, o, none⟩) xs.length cap]
  | ownil {π z} (hv : g.vm π = .slice none 0 0) : RepC w g (some π) (.ow z []) [.slice none 0 0]
  | ow {π xs} (blk o z cap : Nat) (cur : Array Value) (ty : TypeId) (ch : Nat → List Value) (hl : g.lab blk = some π)
      (hv : g.vm π = .slice (some ⟨blk, o, none⟩) xs.length cap) (hb : Lies w blk cur ty)
      (hcap : xs.length ≤ cap) (hmax : cap ≤ maxLen) (hroom : o + cap * z ≤ cur.size)
      (hz : ∀ j, j < xs.length → (ch j).length = z)
      (hc : ∀ j, j < xs.length → ∀ q c, (ch j)[q]? = some c → cur[o + j * z + q]? = some c)
      (hr : ∀ j x, xs[j]? = some x → RepC w g (some (π ++ [j])) x (ch j)) : RepC w g (some π) (.ow z xs) [.slice (some ⟨blk, o, none⟩) xs.length cap]
  | ag {π cs vs} (hn : cs.length = vs.length) (h : ∀ f x c, cs[f]? = some x → vs[f]? = some c → RepC w g (π.map (· ++ [f])) x [c]) : RepC w g π (.ag cs) vs

/-- A slice's address: none, or whole. -/
def Shp (a : Option Addr) (cap : Nat) : Prop := (a = none ∧ cap = 0) ∨ ∃ blk o, a = some ⟨blk, o, none⟩

/-- What a part of a slice is, seen from the whole. -/
def SubSl (c0 : Value) (z off len : Nat) (c : Value) : Prop :=
  ∃ a n cap a' cap', c0 = .slice a n cap ∧ c = .slice a' len cap' ∧ len ≤ cap' ∧ off + len ≤ n ∧
    (0 < len → ∃ blk o, a = some ⟨blk, o, none⟩ ∧ a' = some ⟨blk, o + off * z, none⟩) ∧ Shp a' cap'

def baseOf : Value → Option (Nat × Nat)
  | .slice (some a) _ _ => if a.spot = none then some (a.block, a.off) else none
  | .pointer (some a) => if a.spot = none then some (a.block, a.off) else none
  | _ => none

inductive RepO (w : World) (g : Gh) : Path → V → List Value → Prop
  | c {π v cs} (h : RepC w g (some π) v cs) : RepO w g π v cs
  | ag {π cs vs} (hn : cs.length = vs.length) (h : ∀ f x c, cs[f]? = some x → vs[f]? = some c → RepO w g (π ++ [f]) x [c]) : RepO w g π (.ag cs) vs
  | bx {π cs} (blk : Nat) (cur : Array Value) (ty : TypeId) (hl : g.lab blk = some π) (hv : g.vm π = .pointer (some ⟨blk, 0, none⟩))
      (hb : w.heap[blk]? = some (.cells cur ty (0, 0))) (hn : cs.length = cur.size)
      (h : ∀ f x c, cs[f]? = some x → cur[f]? = some c → RepO w g (π ++ [f]) x [c]) : RepO w g π (.bx cs) [.pointer (some ⟨blk, 0, none⟩)]
  | al {π p} (hs : ∃ s n c, g.vm p = .slice s n c) : RepO w g π (.al p) [g.vm p]
  | hd {π p z off len c} (h : SubSl (g.vm p) z off len c) : RepO w g π (.hd p z off len) [c]
  | ad {π p off} (blk o : Nat) (h : baseOf (g.vm p) = some (blk, o)) : RepO w g π (.ad p off) [.pointer (some ⟨blk, o + off, none⟩)]
  | ae {π p z j f} (blk o : Nat) (h : baseOf (g.vm p) = some (blk, o)) : RepO w g π (.ae p z j f) [.pointer (some ⟨blk, o + (j * z + f), none⟩)]
  | im {π cs} (blk o : Nat) (vs : List Value) (hl : g.lab blk = none) (hlt : blk < w.heap.size) (hn : cs.length = vs.length)
      (hc : ∀ q c, vs[q]? = some c → w.cell? ⟨blk, o + q, none⟩ = some c) (h : RepC w g none (.ag cs) vs) : RepO w g π (.im cs) [.pointer (some ⟨blk, o, none⟩)]
  | un {π vs} : RepO w g π .un vs

/-- What a slot holds. -/
inductive RepS (w : World) (g : Gh) : Path → V → Value → Prop
  | one {π v c} (hv : ∀ cs, v ≠ .ag cs) (h : RepO w g π v [c]) : RepS w g π v c
  | agg {π cs arr} (h : RepO w g π (.ag cs) arr.toList) : RepS w g π (.ag cs) (.agg arr)
  | tup {π cs arr} (hn : cs.length = arr.size) (h : ∀ f x c, cs[f]? = some x → arr[f]? = some c → RepS w g (π ++ [f]) x c) : RepS w g π (.tp cs) (.tuple arr)
  | un {π c} : RepS w g π .un c

/-- The paths that a slot's value hangs on. -/
def V.refs : V → List Path
  | .al p => [p]
  | .hd p _ _ _ => [p]
  | .ad p _ => [p]
  | .ae p _ _ _ => [p]
  | .ag cs => go cs
  | .tp cs => go cs
  | .bx cs => go cs
  | _ => []
where go : List V → List Path
  | [] => []
  | c :: r => c.refs ++ go r

theorem V.mem_go {cs : List V} {f : Nat} {x : V} {p : Path} (h : cs[f]? = some x) (hp : p ∈ x.refs) : p ∈ V.refs.go cs := by
  induction cs generalizing f with
  | nil => simp at h
  | cons c r ih =>
    simp only [V.refs.go, List.mem_append]
    cases f with
    | zero => simp at h; subst h; exact .inl hp
    | succ f => simp at h; exact .inr (ih h)

/-- From (w, g) to (w', g'), what stands at π is found at ρ, and what nobody writes stays. -/
structure Moves (w : World) (g : Gh) (w' : World) (g' : Gh) (π ρ : Path) : Prop where
  size : w.heap.size ≤ w'.heap.size
  imm : ∀ b, b < w.heap.size → g.lab b = none → g'.lab b = none ∧ w'.heap[b]? = w.heap[b]?
  own : ∀ b p, g.lab b = some (π ++ p) → g'.lab b = some (ρ ++ p) ∧ w'.heap[b]? = w.heap[b]?
  vm : ∀ p, g'.vm (ρ ++ p) = g.vm (π ++ p)

theorem Moves.sub {w w' : World} {g g' : Gh} {π ρ : Path} (h : Moves w g w' g' π ρ) (q : Path) : Moves w g w' g' (π ++ q) (ρ ++ q) :=
  ⟨h.size, h.imm, fun b p hb => by have := h.own b (q ++ p) (by simpa using hb); simpa using this, fun p => by simpa using h.vm (q ++ p)⟩

theorem cell_same {w w' : World} {a : Addr} (h : w'.heap[a.block]? = w.heap[a.block]?) : w'.cell? a = w.cell? a := by simp [World.cell?, h]

/-- Only what nobody writes is asked to stay. -/
structure Keeps (w : World) (g : Gh) (w' : World) (g' : Gh) : Prop where
  size : w.heap.size ≤ w'.heap.size
  imm : ∀ b, b < w.heap.size → g.lab b = none → g'.lab b = none ∧ w'.heap[b]? = w.heap[b]?

theorem Moves.keeps {w w' : World} {g g' : Gh} {π ρ : Path} (h : Moves w g w' g' π ρ) : Keeps w g w' g' := ⟨h.size, h.imm⟩

theorem RepC.imm {w w' : World} {g g' : Gh} {o : Option Path} {v : V} {cs : List Value} (h : RepC w g o v cs) (ho : o = none) (m : Keeps w g w' g') :
    ∀ (o' : Option Path), RepC w' g' o' v cs := by
  induction h with
  | i => exact fun _ => .i
  | b => exact fun _ => .b
  | s => exact fun _ => .s
  | np => exact fun _ => .np
  | nl => exact fun _ => .nl
  | un => exact fun _ => .un
  | fn => exact fun _ => .fn
  | lit h => exact fun _ => .lit h
  | slnil => exact fun _ => .slnil
  | sl blk o z cap ch hl hlt hcap hz hc hr ih =>
    intro o'
    have hb := fun (h : 0 < _) => m.imm blk (hlt h) (hl h)
    exact .sl blk o z cap ch (fun h => (hb h).1) (fun h => Nat.lt_of_lt_of_le (hlt h) m.size) hcap hz (fun j hj q c hq => by rw [cell_same (by exact (hb (by omega)).2)]; exact hc j hj q c hq)
      (fun j x hx => ih j x hx rfl none)
  | ownil hv => cases ho
  | ow => cases ho
  | ag hn h ih => intro o'; exact .ag hn (fun f x c hx hc => ih f x c hx hc (by subst ho; rfl) _)

theorem RepC.moves {w w' : World} {g g' : Gh} {o : Option Path} {v : V} {cs : List Value} (h : RepC w g o v cs) :
    ∀ {π ρ : Path}, o = some π → Moves w g w' g' π ρ → RepC w' g' (some ρ) v cs := by
  induction h with
  | i => exact fun _ _ => .i
  | b => exact fun _ _ => .b
  | s => exact fun _ _ => .s
  | np => exact fun _ _ => .np
  | nl => exact fun _ _ => .nl
  | un => exact fun _ _ => .un
  | fn => exact fun _ _ => .fn
  | lit h => exact fun _ _ => .lit h
  | slnil => exact fun _ _ => .slnil
  | sl blk o z cap ch hl hlt hcap hz hc hr ih =>
    intro π ρ _ m
    have hb := fun (h : 0 < _) => m.imm blk (hlt h) (hl h)
    exact .sl blk o z cap ch (fun h => (hb h).1) (fun h => Nat.lt_of_lt_of_le (hlt h) m.size) hcap hz (fun j hj q c hq => by rw [cell_same (by exact (hb (by omega)).2)]; exact hc j hj q c hq)
      (fun j x hx => (hr j x hx).imm rfl m.keeps none)
  | ownil hv => intro π ρ e m; cases e; exact .ownil (by have := m.vm []; simp at this; rw [this]; exact hv)
  | ow blk o z cap cur ty ch hl hv hb hcap hmax hroom hz hc hr ih =>
    intro π ρ e m
    cases e
    have h1 := m.own blk [] (by simpa using hl)
    have h2 := m.vm []
    simp at h1 h2
    exact .ow blk o z cap cur ty ch h1.1 (by rw [h2]; exact hv) (hb.of h1.2) hcap hmax hroom hz hc (fun j x hx => ih j x hx rfl (m.sub [j]))
  | ag hn h ih => intro π ρ e m; cases e; exact .ag hn (fun f x c hx hc => ih f x c hx hc rfl (m.sub [f]))

theorem RepO.moves {w w' : World} {g g' : Gh} {π : Path} {v : V} {cs : List Value} (h : RepO w g π v cs) :
    ∀ {ρ : Path}, Moves w g w' g' π ρ → (∀ p ∈ v.refs, g'.vm p = g.vm p) → RepO w' g' ρ v cs := by
  induction h with
  | c h => exact fun m _ => .c (h.moves rfl m)
  | ag hn h ih => exact fun m hr => .ag hn (fun f x c hx hc => ih f x c hx hc (m.sub [f]) (fun p hp => hr p (V.mem_go hx hp)))
  | bx blk cur ty hl hv hb hn h ih =>
    intro ρ m hr
    have h1 := m.own blk [] (by simpa using hl)
    have h2 := m.vm []
    simp at h1 h2
    exact .bx blk cur ty h1.1 (by rw [h2]; exact hv) (by rw [h1.2]; exact hb) hn (fun f x c hx hc => ih f x c hx hc (m.sub [f]) (fun p hp => hr p (V.mem_go hx hp)))
  | @al π p hs => intro ρ m hr; rw [← hr p (by simp [V.refs])]; exact .al (by rw [hr p (by simp [V.refs])]; exact hs)
  | @hd π p z off len c h => intro ρ m hr; exact .hd (by rw [hr p (by simp [V.refs])]; exact h)
  | @ad π p off blk o h => intro ρ m hr; exact .ad blk o (by rw [hr p (by simp [V.refs])]; exact h)
  | @ae π p z j f blk o h => intro ρ m hr; exact .ae blk o (by rw [hr p (by simp [V.refs])]; exact h)
  | im blk o vs hl hlt hn hc h =>
    intro ρ m _
    have hb := m.imm blk hlt hl
    exact .im blk o vs hb.1 (Nat.lt_of_lt_of_le hlt m.size) hn (fun q c hq => by rw [cell_same (by exact hb.2)]; exact hc q c hq) (h.imm rfl m.keeps none)
  | un => exact fun _ _ => .un

theorem RepS.moves {w w' : World} {g g' : Gh} {π : Path} {v : V} {c : Value} (h : RepS w g π v c) :
    ∀ {ρ : Path}, Moves w g w' g' π ρ → (∀ p ∈ v.refs, g'.vm p = g.vm p) → RepS w' g' ρ v c := by
  induction h with
  | one hv h => exact fun m hr => .one hv (h.moves m hr)
  | agg h => exact fun m hr => .agg (h.moves m hr)
  | tup hn h ih => exact fun m hr => .tup hn (fun f x c hx hc => ih f x c hx hc (m.sub [f]) (fun p hp => hr p (V.mem_go hx hp)))
  | un => exact fun _ _ => .un

theorem RepC.cells_b {w : World} {g : Gh} {o : Option Path} {t : Bool} {cs : List Value} (h : RepC w g o (.b t) cs) : cs = [.bool t] := by cases h; rfl
theorem RepC.cells_i {w : World} {g : Gh} {o : Option Path} {k : IntKind} {n : Int} {cs : List Value} (h : RepC w g o (.i k n) cs) : cs = [.int k n] := by cases h; rfl
theorem RepC.cells_s {w : World} {g : Gh} {o : Option Path} {l : List UInt8} {cs : List Value} (h : RepC w g o (.s l) cs) : cs = [.string ⟨l.toArray⟩] := by cases h; rfl
theorem RepS.b_inv {w : World} {g : Gh} {π : Path} {t : Bool} {c : Value} (h : RepS w g π (.b t) c) : c = .bool t := by
  cases h with
  | one _ h => cases h with
    | c h => simpa using h.cells_b
theorem RepS.i_inv {w : World} {g : Gh} {π : Path} {k : IntKind} {n : Int} {c : Value} (h : RepS w g π (.i k n) c) : c = .int k n := by
  cases h with
  | one _ h => cases h with
    | c h => simpa using h.cells_i
theorem RepS.s_inv {w : World} {g : Gh} {π : Path} {l : List UInt8} {c : Value} (h : RepS w g π (.s l) c) : c = .string ⟨l.toArray⟩ := by
  cases h with
  | one _ h => cases h with
    | c h => simpa using h.cells_s
theorem RepS.b_mk (w : World) (g : Gh) (π : Path) (t : Bool) : RepS w g π (.b t) (.bool t) := .one (by simp) (.c .b)
theorem RepS.i_mk (w : World) (g : Gh) (π : Path) (k : IntKind) (n : Int) : RepS w g π (.i k n) (.int k n) := .one (by simp) (.c .i)
theorem RepS.s_mk (w : World) (g : Gh) (π : Path) (l : List UInt8) : RepS w g π (.s l) (.string ⟨l.toArray⟩) := .one (by simp) (.c .s)

end Go.Vx

namespace Go.Vx
open Go Go.RowKit

def V.kids : V → List V
  | .ag cs | .tp cs | .bx cs => cs
  | .ow _ xs => xs
  | _ => []

def V.withKids : V → List V → V
  | .ag _, cs => .ag cs
  | .tp _, cs => .tp cs
  | .bx _, cs => .bx cs
  | .ow z _, xs => .ow z xs
  | v, _ => v

def V.sub (v : V) : Path → Option V
  | [] => some v
  | f :: p => match v.kids[f]? with
    | some x => x.sub p
    | none => none

def V.put (v : V) : Path → V → V
  | [], u => u
  | f :: p, u => match v.kids[f]? with
    | some x => v.withKids (v.kids.set f (x.put p u))
    | none => v

theorem RepC.sub {w : World} {g : Gh} {u : V} : ∀ (p : Path) {π : Path} {v : V} {cs : List Value}, RepC w g (some π) v cs → v.sub p = some u → ∃ cs', RepC w g (some (π ++ p)) u cs'
  | [], π, v, cs, h, hs => by simp [V.sub] at hs; subst hs; exact ⟨cs, by simpa using h⟩
  | f :: p, π, v, cs, h, hs => by
    simp only [V.sub] at hs
    cases hk : v.kids[f]? with
    | none => simp [hk] at hs
    | some x =>
      simp only [hk] at hs
      have key : ∃ cs', RepC w g (some (π ++ [f])) x cs' := by
        cases h with
        | ow blk o z cap cur ty ch hl hv hb hcap hmax hroom hz hc hr => exact ⟨_, hr f x hk⟩
        | ag hn h =>
          have hf : f < cs.length := by
            rw [← hn]; exact (List.getElem?_eq_some_iff.1 hk).1
          exact ⟨_, h f x cs[f] hk (List.getElem?_eq_getElem hf)⟩
        | _ => simp [V.kids] at hk
      obtain ⟨cs', hx⟩ := key
      obtain ⟨cs2, h2⟩ := RepC.sub p hx hs
      exact ⟨cs2, by simpa using h2⟩

theorem RepO.sub {w : World} {g : Gh} {u : V} : ∀ (p : Path) {π : Path} {v : V} {cs : List Value}, RepO w g π v cs → v.sub p = some u → ∃ cs', RepO w g (π ++ p) u cs'
  | [], π, v, cs, h, hs => by simp [V.sub] at hs; subst hs; exact ⟨cs, by simpa using h⟩
  | f :: p, π, v, cs, h, hs => by
    cases h with
    | c h =>
      obtain ⟨cs', h'⟩ := RepC.sub (f :: p) h hs
      exact ⟨cs', .c h'⟩
    | @ag _ ks vs hn h =>
      simp only [V.sub, V.kids] at hs
      cases hk : ks[f]? with
      | none => simp [hk] at hs
      | some x =>
        simp only [hk] at hs
        have hf : f < cs.length := by rw [← hn]; exact (List.getElem?_eq_some_iff.1 hk).1
        obtain ⟨cs2, h2⟩ := RepO.sub p (h f x cs[f] hk (List.getElem?_eq_getElem hf)) hs
        exact ⟨cs2, by simpa using h2⟩
    | @bx _ ks blk cur ty hl hv hb hn h =>
      simp only [V.sub, V.kids] at hs
      cases hk : ks[f]? with
      | none => simp [hk] at hs
      | some x =>
        simp only [hk] at hs
        have hf : f < cur.size := by rw [← hn]; exact (List.getElem?_eq_some_iff.1 hk).1
        obtain ⟨cs2, h2⟩ := RepO.sub p (h f x cur[f] hk (Array.getElem?_eq_getElem hf)) hs
        exact ⟨cs2, by simpa using h2⟩
    | _ => simp [V.sub, V.kids] at hs

/-- What stands along a path in a slot is a slot's value (nothing deeper than a tuple) or cells. -/
theorem RepS.sub {w : World} {g : Gh} {u : V} : ∀ (p : Path) {π : Path} {v : V} {c : Value}, RepS w g π v c → v.sub p = some u →
    (∃ c', RepS w g (π ++ p) u c') ∨ ∃ cs', RepO w g (π ++ p) u cs'
  | [], π, v, c, h, hs => by simp [V.sub] at hs; subst hs; exact .inl ⟨c, by simpa using h⟩
  | f :: p, π, v, c, h, hs => by
    cases h with
    | one hv h => exact .inr (RepO.sub (f :: p) h hs)
    | agg h => exact .inr (RepO.sub (f :: p) h hs)
    | @tup _ ks arr hn h =>
      simp only [V.sub, V.kids] at hs
      cases hk : ks[f]? with
      | none => simp [hk] at hs
      | some x =>
        simp only [hk] at hs
        have hf : f < arr.size := by rw [← hn]; exact (List.getElem?_eq_some_iff.1 hk).1
        have := RepS.sub p (h f x arr[f] hk (Array.getElem?_eq_getElem hf)) hs
        simpa using this
    | un => simp [V.sub, V.kids] at hs

theorem RepS.sub_ow {w : World} {g : Gh} {z : Nat} {xs : List V} {p π : Path} {v : V} {c : Value} (h : RepS w g π v c) (hs : v.sub p = some (.ow z xs)) :
    ∃ c', RepC w g (some (π ++ p)) (.ow z xs) [c'] := by
  have key : ∀ cs, RepO w g (π ++ p) (.ow z xs) cs → ∃ c', RepC w g (some (π ++ p)) (.ow z xs) [c'] := by
    intro cs h
    cases h with
    | c h => cases h with
      | ownil hv => exact ⟨_, .ownil hv⟩
      | ow blk o z cap cur ty ch hl hv hb hcap hmax hroom hz hc hr => exact ⟨_, .ow blk o z cap cur ty ch hl hv hb hcap hmax hroom hz hc hr⟩
  rcases RepS.sub p h hs with ⟨c', h'⟩ | ⟨cs, h'⟩
  · cases h' with
    | one _ h' => exact key _ h'
  · exact key _ h'

theorem RepS.sub_bx {w : World} {g : Gh} {ks : List V} {p π : Path} {v : V} {c : Value} (h : RepS w g π v c) (hs : v.sub p = some (.bx ks)) :
    ∃ c', RepO w g (π ++ p) (.bx ks) [c'] := by
  rcases RepS.sub p h hs with ⟨c', h'⟩ | ⟨cs, h'⟩
  · cases h' with
    | one _ h' => exact ⟨_, h'⟩
  · cases h' with
    | c h' => cases h'
    | bx blk cur ty hl hv hb hn h => exact ⟨_, .bx blk cur ty hl hv hb hn h⟩

/-- All but what stands at τ or under it is as it was. -/
structure Turns (w : World) (g : Gh) (w' : World) (g' : Gh) (τ : Path) : Prop where
  size : w.heap.size ≤ w'.heap.size
  imm : ∀ b, b < w.heap.size → g.lab b = none → g'.lab b = none ∧ w'.heap[b]? = w.heap[b]?
  own : ∀ b p, g.lab b = some p → p.head? = τ.head? → ¬ τ <+: p → g'.lab b = some p ∧ w'.heap[b]? = w.heap[b]?
  vm : ∀ p, p.head? = τ.head? → ¬ τ <+: p → g'.vm p = g.vm p

theorem prefix_either {σ τ q : Path} (h : τ <+: σ ++ q) : τ <+: σ ∨ σ <+: τ := by
  by_cases hl : τ.length ≤ σ.length
  · exact .inl (List.prefix_of_prefix_length_le h (List.prefix_append σ q) hl)
  · exact .inr (List.prefix_of_prefix_length_le (List.prefix_append σ q) h (by omega))

theorem Turns.moves {w w' : World} {g g' : Gh} {τ : Path} (h : Turns w g w' g' τ) {σ : Path} (h1 : ¬ τ <+: σ) (h2 : ¬ σ <+: τ) (h3 : σ.head? = τ.head?) : Moves w g w' g' σ σ := by
  have hn : ∀ q, ¬ τ <+: σ ++ q := fun q hq => (prefix_either hq).elim h1 h2
  have hh : ∀ q, (σ ++ q).head? = τ.head? := fun q => by
    cases σ with
    | nil => exact (h2 (List.nil_prefix)).elim
    | cons x r => exact h3
  exact ⟨h.size, h.imm, fun b p hb => h.own b _ hb (hh p) (hn p), fun p => h.vm _ (hh p) (hn p)⟩

theorem head_app {π : Path} (hπ : π ≠ []) (p : Path) : (π ++ p).head? = π.head? := by
  cases π with
  | nil => exact (hπ rfl).elim
  | cons x r => rfl

theorem beside {π p : Path} {f f' : Nat} (h : f' ≠ f) : ¬ (π ++ f :: p) <+: (π ++ [f']) ∧ ¬ (π ++ [f']) <+: (π ++ f :: p) := by
  constructor
  · intro hp
    rw [List.prefix_append_right_inj] at hp
    obtain ⟨t, ht⟩ := hp
    simp at ht
    exact h ht.1.symm
  · intro hp
    rw [List.prefix_append_right_inj] at hp
    obtain ⟨t, ht⟩ := hp
    simp at ht
    exact h ht.1

theorem above {π p : Path} {f : Nat} : ¬ (π ++ f :: p) <+: π := by
  intro h
  have := h.length_le
  simp only [List.length_append, List.length_cons] at this
  omega

theorem kid_cases {l : List V} {f f' : Nat} {x u y : V} (hx : l[f]? = some x) (h : (l.set f u)[f']? = some y) : (f' = f ∧ y = u) ∨ (f' ≠ f ∧ l[f']? = some y) := by
  rw [List.getElem?_set] at h
  by_cases e : f = f'
  · subst e
    have hl := (List.getElem?_eq_some_iff.1 hx).1
    simp [hl] at h
    exact .inl ⟨rfl, h.symm⟩
  · simp [e] at h
    exact .inr ⟨fun e' => e e'.symm, h⟩

theorem RepC.put {w w' : World} {g g' : Gh} {u u' : V} : ∀ (p : Path) {π : Path} (_ : π ≠ []) {v : V} {cs : List Value}, RepC w g (some π) v cs → v.sub p = some u → Turns w g w' g' (π ++ p) →
    (∀ cs', RepC w g (some (π ++ p)) u cs' → RepC w' g' (some (π ++ p)) u' cs') → RepC w' g' (some π) (v.put p u') cs
  | [], π, hπ, v, cs, h, hs, ht, hu => by simp [V.sub] at hs; subst hs; simpa [V.put] using hu cs (by simpa using h)
  | f :: p, π, hπ, v, cs, h, hs, ht, hu => by
    simp only [V.sub] at hs
    cases hk : v.kids[f]? with
    | none => simp [hk] at hs
    | some x =>
      simp only [hk] at hs
      simp only [V.put, hk]
      have hp : ∀ cs', RepC w g (some (π ++ [f])) x cs' → RepC w' g' (some (π ++ [f])) (x.put p u') cs' := fun cs' hx =>
        RepC.put p (by simp) hx hs (by simpa using ht) (fun c2 h2 => by simpa using hu c2 (by simpa using h2))
      cases h with
      | @ow _ xs blk o z cap cur ty ch hl hv hb hcap hmax hroom hz hc hr =>
        have h1 := ht.own blk π hl (head_app hπ _).symm above
        have h2 := ht.vm π (head_app hπ _).symm above
        have hlen : (xs.set f (x.put p u')).length = xs.length := by simp
        show RepC w' g' (some π) (.ow z (xs.set f (x.put p u'))) _
        have := RepC.ow (w := w') (g := g') (π := π) (xs := xs.set f (x.put p u')) blk o z cap cur ty ch h1.1 (by rw [h2, hlen]; exact hv) (hb.of h1.2) (by rw [hlen]; exact hcap) hmax hroom
          (by rw [hlen]; exact hz) (by rw [hlen]; exact hc) (fun j y hy => by
            rcases kid_cases hk hy with ⟨rfl, rfl⟩ | ⟨hne, hy⟩
            · exact hp _ (hr _ _ hk)
            · exact (hr j y hy).moves rfl (ht.moves (beside hne).1 (beside hne).2 (by rw [head_app hπ, head_app hπ])))
        rw [hlen] at this
        exact this
      | @ag _ ks vs hn h =>
        show RepC w' g' (some π) (.ag (ks.set f (x.put p u'))) _
        exact .ag (by simpa using hn) (fun f' y c hy hc => by
          rcases kid_cases hk hy with ⟨rfl, rfl⟩ | ⟨hne, hy⟩
          · exact hp _ (h _ _ _ hk hc)
          · exact (h f' y c hy hc).moves rfl (ht.moves (beside hne).1 (beside hne).2 (by rw [head_app hπ, head_app hπ])))
      | _ => simp [V.kids] at hk

theorem RepO.put {w w' : World} {g g' : Gh} {u u' : V} : ∀ (p : Path) {π : Path} (_ : π ≠ []) {v : V} {cs : List Value}, RepO w g π v cs → v.sub p = some u → Turns w g w' g' (π ++ p) →
    (∀ r ∈ v.refs, g'.vm r = g.vm r) →
    (∀ cs', RepC w g (some (π ++ p)) u cs' → RepC w' g' (some (π ++ p)) u' cs') → (∀ cs', RepO w g (π ++ p) u cs' → RepO w' g' (π ++ p) u' cs') → RepO w' g' π (v.put p u') cs
  | [], π, hπ, v, cs, h, hs, ht, hr, hu, hu2 => by simp [V.sub] at hs; subst hs; simpa [V.put] using hu2 cs (by simpa using h)
  | f :: p, π, hπ, v, cs, h, hs, ht, hr, hu, hu2 => by
    cases h with
    | c h => exact .c (RepC.put (f :: p) hπ h hs ht hu)
    | @ag _ ks vs hn h =>
      simp only [V.sub, V.kids] at hs
      cases hk : ks[f]? with
      | none => simp [hk] at hs
      | some x =>
        simp only [hk] at hs
        simp only [V.put, V.kids, hk, V.withKids]
        exact .ag (by simpa using hn) (fun f' y c hy hc => by
          rcases kid_cases hk hy with ⟨rfl, rfl⟩ | ⟨hne, hy⟩
          · exact RepO.put p (by simp) (h _ _ _ hk hc) hs (by simpa using ht) (fun r hr' => hr r (V.mem_go hk hr')) (fun c2 h2 => by simpa using hu c2 (by simpa using h2)) (fun c2 h2 => by simpa using hu2 c2 (by simpa using h2))
          · exact (h f' y c hy hc).moves (ht.moves (beside hne).1 (beside hne).2 (by rw [head_app hπ, head_app hπ])) (fun r hr' => hr r (V.mem_go hy hr')))
    | @bx _ ks blk cur ty hl hv hb hn h =>
      simp only [V.sub, V.kids] at hs
      cases hk : ks[f]? with
      | none => simp [hk] at hs
      | some x =>
        simp only [hk] at hs
        simp only [V.put, V.kids, hk, V.withKids]
        have h1 := ht.own blk π hl (head_app hπ _).symm above
        have h2 := ht.vm π (head_app hπ _).symm above
        exact .bx blk cur ty h1.1 (by rw [h2]; exact hv) (by rw [h1.2]; exact hb) (by simpa using hn) (fun f' y c hy hc => by
          rcases kid_cases hk hy with ⟨rfl, rfl⟩ | ⟨hne, hy⟩
          · exact RepO.put p (by simp) (h _ _ _ hk hc) hs (by simpa using ht) (fun r hr' => hr r (V.mem_go hk hr')) (fun c2 h2 => by simpa using hu c2 (by simpa using h2)) (fun c2 h2 => by simpa using hu2 c2 (by simpa using h2))
          · exact (h f' y c hy hc).moves (ht.moves (beside hne).1 (beside hne).2 (by rw [head_app hπ, head_app hπ])) (fun r hr' => hr r (V.mem_go hy hr')))
    | _ => simp [V.sub, V.kids] at hs

theorem V.put_ag {v : V} {p : Path} {u u' : V} (hs : v.sub p = some u) (hp : p ≠ []) : (∃ cs, v = .ag cs) ↔ ∃ cs, v.put p u' = .ag cs := by
  cases p with
  | nil => exact (hp rfl).elim
  | cons f p =>
    cases v <;> simp [V.sub, V.kids] at hs <;> simp only [V.put, V.kids] <;> split at hs <;> simp_all [V.withKids]

theorem RepS.put {w w' : World} {g g' : Gh} {u u' : V} : ∀ (p : Path) {π : Path} (_ : π ≠ []) {v : V} {c : Value}, RepS w g π v c → v.sub p = some u → Turns w g w' g' (π ++ p) →
    (∀ r ∈ v.refs, g'.vm r = g.vm r) →
    (∀ cs', RepC w g (some (π ++ p)) u cs' → RepC w' g' (some (π ++ p)) u' cs') → (∀ cs', RepO w g (π ++ p) u cs' → RepO w' g' (π ++ p) u' cs') → (∀ c', RepS w g (π ++ p) u c' → RepS w' g' (π ++ p) u' c') →
    RepS w' g' π (v.put p u') c
  | [], π, hπ, v, c, h, hs, ht, hr, hu, hu2, hu3 => by simp [V.sub] at hs; subst hs; simpa [V.put] using hu3 c (by simpa using h)
  | f :: p, π, hπ, v, c, h, hs, ht, hr, hu, hu2, hu3 => by
    cases h with
    | one hv h =>
      refine .one ?_ (RepO.put (f :: p) hπ h hs ht hr hu hu2)
      intro cs e
      obtain ⟨cs', e'⟩ := (V.put_ag hs (by simp)).2 ⟨cs, e⟩
      exact hv cs' e'
    | @agg _ ks arr h =>
      obtain ⟨cs', e'⟩ := (V.put_ag (u' := u') hs (by simp)).1 ⟨ks, rfl⟩
      have := RepO.put (f :: p) hπ h hs ht hr hu hu2
      rw [e'] at this ⊢
      exact .agg this
    | @tup _ ks arr hn h =>
      simp only [V.sub, V.kids] at hs
      cases hk : ks[f]? with
      | none => simp [hk] at hs
      | some x =>
        simp only [hk] at hs
        simp only [V.put, V.kids, hk, V.withKids]
        exact .tup (by simpa using hn) (fun f' y c hy hc => by
          rcases kid_cases hk hy with ⟨rfl, rfl⟩ | ⟨hne, hy⟩
          · exact RepS.put p (by simp) (h _ _ _ hk hc) hs (by simpa using ht) (fun r hr' => hr r (V.mem_go hk hr')) (fun c2 h2 => by simpa using hu c2 (by simpa using h2)) (fun c2 h2 => by simpa using hu2 c2 (by simpa using h2))
              (fun c2 h2 => by simpa using hu3 c2 (by simpa using h2))
          · exact (h f' y c hy hc).moves (ht.moves (beside hne).1 (beside hne).2 (by rw [head_app hπ, head_app hπ])) (fun r hr' => hr r (V.mem_go hy hr')))
    | un => simp [V.sub, V.kids] at hs

end Go.Vx

namespace Go.Vx
open Go Go.RowKit

abbrev Env := List (Nat × V)

def Env.get : Env → Nat → V
  | [], _ => .un
  | (t, v) :: r, u => if t = u then v else Env.get r u

def Env.set : Env → Nat → V → Env
  | [], u, x => [(u, x)]
  | (t, v) :: r, u, x => if t = u then (t, x) :: r else (t, v) :: Env.set r u x

theorem Env.get_set (e : Env) (u : Nat) (x : V) (t : Nat) : (e.set u x).get t = if u = t then x else e.get t := by
  induction e with
  | nil => simp only [Env.set, Env.get]
  | cons p r ih =>
    obtain ⟨a, v⟩ := p
    simp only [Env.set]
    by_cases h : a = u
    · subst h; simp only [if_true, Env.get]; split <;> rfl
    · simp only [if_neg h, Env.get, ih]
      by_cases h2 : a = t
      · subst h2; simp [show ¬ u = a from fun e => h e.symm]
      · simp [h2]

/-- What stands at a path: its head is a slot's number and two. -/
def Env.at (e : Env) : Path → Option V
  | (t + 2) :: p => (e.get t).sub p
  | _ => none

def Env.putAt (e : Env) (p : Path) (u : V) : Env :=
  match p with
  | (t + 2) :: p => e.set t ((e.get t).put p u)
  | _ => e

/-- No slot hangs on what slot d owns. -/
def Env.free (e : Env) (d : Nat) : Bool := e.all fun q => q.2.refs.all fun p => p.head? != some (d + 2)

theorem Env.mem_get {e : Env} {t : Nat} (h : e.get t ≠ .un) : (t, e.get t) ∈ e := by
  induction e with
  | nil => simp [Env.get] at h
  | cons p r ih =>
    obtain ⟨a, v⟩ := p
    simp only [Env.get] at h ⊢
    by_cases h2 : a = t
    · subst h2; simp
    · simp only [h2, if_false] at h ⊢; exact List.mem_cons_of_mem _ (ih h)

theorem Env.free_refs {e : Env} {d t : Nat} (h : e.free d = true) : ∀ p ∈ (e.get t).refs, p.head? ≠ some (d + 2) := by
  intro p hp
  by_cases hu : e.get t = .un
  · rw [hu] at hp; simp [V.refs] at hp
  · have := List.all_eq_true.1 h _ (Env.mem_get hu)
    have := List.all_eq_true.1 this p hp
    simpa using this

def Inj (g : Gh) (w : World) : Prop :=
  (∀ b b' p, g.lab b = some p → g.lab b' = some p → b = b') ∧ ∀ b p, g.lab b = some p → b < w.heap.size

/-- Since the call began nothing has turned but what it owns. -/
structure Fr (w0 : World) (g0 : Gh) (w : World) (g : Gh) : Prop where
  os : w.os = w0.os
  tape : w.tape = w0.tape
  output : w.output = w0.output
  size : w0.heap.size ≤ w.heap.size
  keep : ∀ b, b < w0.heap.size → (g0.lab b = none ∨ ∃ p, g0.lab b = some (0 :: p)) → g.lab b = g0.lab b ∧ w.heap[b]? = w0.heap[b]?
  vm0 : ∀ p, g.vm (0 :: p) = g0.vm (0 :: p)

theorem Fr.refl (w : World) (g : Gh) : Fr w g w g := ⟨rfl, rfl, rfl, Nat.le_refl _, fun _ _ _ => ⟨rfl, rfl⟩, fun _ => rfl⟩

structure Sim (w0 : World) (g0 : Gh) (n : Nat) (e : Env) (a : Act) (w : World) : Prop where
  ex : ∃ g, Inj g w ∧ Fr w0 g0 w g ∧ ∀ t, RepS w g [t + 2] (e.get t) (a.tmps.getD t undef)
  defers : a.defers = []
  size : a.tmps.size = n

/-- What a walk leans on: the world and the marks at its begin, how many slots there are, and which slots keep which value. -/
structure Ctx where
  w0 : World
  g0 : Gh
  n : Nat
  pins : List Nat
  A : Nat → Value

def Ctx.sim (k : Ctx) (e : Env) (a : Act) (w : World) : Prop := Sim k.w0 k.g0 k.n e a w ∧ ∀ t ∈ k.pins, a.tmps.getD t undef = k.A t

def lift (k : Ctx) (Q : Exit → Env → Prop) : Exit → Act → World → Prop := fun x a w => ∃ e, Q x e ∧ k.sim e a w

/-- Wherever the state e stands for what is there, the code ends as Q tells. -/
def J (P : Program) (k : Ctx) (c : Code) (e : Env) (Q : Exit → Env → Prop) : Prop :=
  ∀ a w, k.sim e a w → c.wp P (lift k Q) a w

section
variable {P : Program} {k : Ctx} {w0 : World} {g0 : Gh} {n : Nat} {e : Env} {Q : Exit → Env → Prop}

theorem J.mono {c : Code} {Q' : Exit → Env → Prop} (h : J P k c e Q) (hq : ∀ x e, Q x e → Q' x e) : J P k c e Q' :=
  fun a w hs => wp_mono (h a w hs) fun x a w ⟨e, q, s⟩ => ⟨e, hq x e q, s⟩

theorem J.skip (h : Q .normal e) : J P k .skip e Q := fun _ _ hs => wp_skip ⟨e, h, hs⟩
theorem J.exit {id : Nat} (h : Q (.exit id) e) : J P k (.exit id) e Q := fun _ _ hs => wp_exit ⟨e, h, hs⟩
theorem J.ret (h : Q .ret e) : J P k .ret e Q := fun _ _ hs => wp_ret ⟨e, h, hs⟩

def thn (next : Env → Prop) (Q : Exit → Env → Prop) : Exit → Env → Prop
  | .normal, e => next e
  | x, e => Q x e

theorem J.seq {x y : Code} (h : J P k x e (thn (fun e' => J P k y e' Q) Q)) : J P k (.seq x y) e Q := by
  intro a w hs
  refine wp_seq (wp_mono (h a w hs) fun x a w ⟨e', q, s⟩ => ?_)
  cases x <;> first | exact q a w s | exact ⟨e', q, s⟩

def inB (id : Nat) (Q : Exit → Env → Prop) : Exit → Env → Prop
  | .exit id', e => if id' = id then Q .normal e else Q (.exit id') e
  | x, e => Q x e

theorem J.block {id : Nat} {c : Code} (h : J P k c e (inB id Q)) : J P k (.block id c) e Q := by
  intro a w hs
  refine wp_block (wp_mono (h a w hs) fun x a w ⟨e', q, s⟩ => ?_)
  cases x with
  | exit id' =>
    simp only [inB] at q
    simp only [Exit.inBlock]
    split at q
    · rename_i hid; rw [if_pos hid]; exact ⟨e', q, s⟩
    · rename_i hid; rw [if_neg hid]; exact ⟨e', q, s⟩
  | _ => exact ⟨e', q, s⟩

/-- Wherever e stands for what is there, so does e'. -/
def Norm (w0 : World) (g0 : Gh) (n : Nat) (e e' : Env) : Prop := ∀ a w, Sim w0 g0 n e a w → Sim w0 g0 n e' a w

theorem Norm.refl : Norm w0 g0 n e e := fun _ _ h => h
theorem Norm.trans {e1 e2 e3 : Env} (h : Norm w0 g0 n e1 e2) (k : Norm w0 g0 n e2 e3) : Norm w0 g0 n e1 e3 := fun a w s => k a w (h a w s)

/-- Slots may be forgotten. -/
theorem Norm.less {e' : Env} (h : ∀ t, e'.get t = .un ∨ e'.get t = e.get t) : Norm w0 g0 n e e' := by
  intro a w ⟨⟨g, hi, hf, hr⟩, hd, hs⟩
  refine ⟨⟨g, hi, hf, fun t => ?_⟩, hd, hs⟩
  rcases h t with h | h
  · rw [h]; exact .un
  · rw [h]; exact hr t

def Env.keep (e : Env) (ts : List Nat) : Env := e.filter fun q => ts.contains q.1

theorem Env.get_keep (e : Env) (ts : List Nat) (t : Nat) : (e.keep ts).get t = .un ∨ (e.keep ts).get t = e.get t := by
  induction e with
  | nil => exact .inl rfl
  | cons p r ih =>
    obtain ⟨a, v⟩ := p
    simp only [Env.keep, List.filter_cons]
    by_cases h : ts.contains a
    · simp only [h, if_true, Env.get]
      split
      · exact .inr rfl
      · exact ih
    · simp only [h, Bool.false_eq_true, if_false, Env.get]
      by_cases h2 : a = t
      · subst h2
        left
        have : ∀ (r : Env), (Env.get (r.filter fun q => ts.contains q.1) a) = .un := by
          intro r
          induction r with
          | nil => rfl
          | cons q r ih =>
            obtain ⟨b, v⟩ := q
            simp only [List.filter_cons]
            by_cases h3 : ts.contains b
            · have : ¬ b = a := fun e => h (e ▸ h3)
              simp only [h3, if_true, Env.get, this, if_false, ih]
            · simp only [h3, Bool.false_eq_true, if_false, ih]
        exact this r
      · simp only [h2, if_false]; exact ih

theorem Norm.keep (ts : List Nat) : Norm w0 g0 n e (e.keep ts) := Norm.less (Env.get_keep e ts)

theorem J.norm {e' : Env} {c : Code} (h : Norm k.w0 k.g0 k.n e e') (hj : J P k c e' Q) : J P k c e Q := fun a w s => hj a w ⟨h a w s.1, s.2⟩

theorem J.loop {c : Code} (I : Nat → Env → Prop) (m0 : Nat) (h0 : ∃ e', I m0 e' ∧ Norm k.w0 k.g0 k.n e e')
    (round : ∀ m e, I m e → J P k c e (thn (fun e' => ∃ m' e'', m' < m ∧ I m' e'' ∧ Norm k.w0 k.g0 k.n e' e'') Q)) : J P k (.loop c) e Q := by
  intro a w hs
  obtain ⟨e0, hI0, hN0⟩ := h0
  refine wp_loop_ghost (fun m a w => ∃ e, I m e ∧ k.sim e a w) m0 ⟨e0, hI0, hN0 a w hs.1, hs.2⟩ ?_
  intro m a w ⟨e, hI, hs⟩
  refine wp_mono (round m e hI a w hs) ?_
  intro x a w ⟨e', q, s⟩
  cases x with
  | normal => obtain ⟨m', e'', hm, hI', hN⟩ := q; exact ⟨m', hm, e'', hI', hN a w s.1, s.2⟩
  | _ => exact ⟨e', q, s⟩

theorem Sim.eval_tmp {a : Act} {w : World} (h : Sim w0 g0 n e a w) : ∃ g, Inj g w ∧ Fr w0 g0 w g ∧ ∀ t, RepS w g [t + 2] (e.get t) (a.eval (.tmp t)) := h.ex

theorem J.cond {c : Operand} {x y : Code} {t : Bool} (hc : match c with | .tmp u => e.get u = .b t | .const v => v = .bool t | _ => False)
    (h1 : t = true → J P k x e Q) (h2 : t = false → J P k y e Q) : J P k (.cond c x y) e Q := by
  intro a w hs
  have hv : a.eval c = .bool t := by
    cases c with
    | tmp u =>
      obtain ⟨g, _, _, hr⟩ := hs.1.ex
      have := hr u
      simp only at hc
      rw [hc] at this
      exact this.b_inv
    | const v => exact hc
    | _ => exact hc.elim
  exact wp_cond_split hv (fun ht => h1 ht a w hs) (fun ht => h2 ht a w hs)

/-- One operation: from the state e it goes on in a state of K. -/
def OpOk (P : Program) (w0 : World) (g0 : Gh) (n : Nat) (o : Oper) (e : Env) (K : Env → Prop) : Prop :=
  ∀ (a : Act) (w : World), Sim w0 g0 n e a w → ∀ (next : Act → World → Prop) (Q : Exit → Act → World → Prop),
    (∀ e' a' w', K e' → Sim w0 g0 n e' a' w' → next a' w') → o.wp P a w next Q

/-- An operation that is passed over leaves the empty tuple. -/
def Env.setd (e : Env) (d : Option Nat) (v : V) : Env := match d with | some d => e.set d v | none => e

end
end Go.Vx

namespace Go.Vx
open Go Go.RowKit

/-- A value as another slot sees it: what the first slot owns is named by its path. -/
def V.view (π : Path) : V → V
  | .ow _ _ => .al π
  | .bx _ => .ad π 0
  | .ag cs => .ag (go π 0 cs)
  | .tp cs => .tp (go π 0 cs)
  | v => v
where go (π : Path) (k : Nat) : List V → List V
  | [] => []
  | c :: r => c.view (π ++ [k]) :: go π (k + 1) r

/-- A constant's one cell. -/
def cvC : Value → V
  | .int k n => .i k n
  | .bool b => .b b
  | .string s => .s s.data.toList
  | .slice none 0 0 => .nl
  | .pointer none => .np
  | .func (.func f) a b => if a.size = 0 ∧ b.size = 0 then .fn f else .un
  | _ => .un

def cvV : Value → V
  | .agg cs => .ag (cs.toList.map cvC)
  | .tuple vs => if vs.size = 0 then .tp [] else .un
  | v => cvC v

def Env.rd (e : Env) : Operand → V
  | .tmp t => (e.get t).view [t + 2]
  | .const v => cvV v
  | .func f => .fn f
  | .global _ => .un

inductive TI where
  | sc | str | bad
  | slice (e z nb : Nat)
  | struct (fs : List (Nat × Nat)) (n : Nat)
  | arr (len z n : Nat)
  deriving Inhabited

def tinfo (P : Program) (t : TypeId) : TI :=
  match P.info? t with
  | none => .bad
  | some j =>
    match P.underlying t with
    | some (.slice e) => match P.info? e with
      | some i => .slice e i.size i.bytes
      | none => .bad
    | some (.struct fs) => if fs.all fun f => (P.info? f.type).isSome then .struct (fs.toList.map fun f => (f.offset, P.cellsOf f.type)) j.size else .bad
    | some (.array n e) => match P.info? e with
      | some i => .arr n i.size j.size
      | none => .bad
    | some .string => .str
    | some _ => .sc
    | none => .bad

/-- A type's zero value, cell by cell. -/
def zeroC (P : Program) (t : TypeId) : Option (List V) :=
  match P.info? t with
  | some i => match i.zero with
    | some v => some (v.cells.toList.map cvC)
    | none => none
  | none => none

/-- How many cells a value of this type has, if it is a struct or an array. -/
def TI.cells : TI → Option Nat
  | .struct _ n => some n
  | .arr _ _ n => some n
  | _ => none

/-- An element as its cells. -/
def V.cs : V → List V
  | .ag cs => cs
  | v => [v]

def V.plain : V → Bool
  | .i _ _ | .b _ | .s _ | .np | .nl | .sl _ | .fn _ => true
  | _ => false

/-- Each element has z cells. -/
def V.allW (z : Nat) (xs : List V) : Bool := xs.all fun x => x.cs.length == z

/-- The elements that a slice shows. -/
def Env.row (e : Env) : V → Option (List V)
  | .al p => match e.at p with
    | some (.ow _ xs) => some xs
    | _ => none
  | .hd p z off len => match e.at p with
    | some (.ow z' xs) => if z' = z then some ((xs.drop off).take len) else none
    | _ => none
  | .sl xs => some xs
  | .nl => some []
  | _ => none

def lenV (e : Env) : V → Option V
  | .s l => some (.i .i64 l.length)
  | v => (e.row v).map fun xs => .i .i64 xs.length

def binI (op : BinOp) (k : IntKind) (a b : Int) : Option V :=
  match op with
  | .add => some (.i k (k.wrap (a + b)))
  | .sub => some (.i k (k.wrap (a - b)))
  | .mul => some (.i k (k.wrap (a * b)))
  | .quo => if b = 0 then none else some (.i k (k.wrap (a.tdiv b)))
  | .rem => if b = 0 then none else some (.i k (a.tmod b))
  | .and => some (.i k (k.wrap (BitVec.ofInt k.bits a &&& BitVec.ofInt k.bits b).toNat))
  | .or => some (.i k (k.wrap (BitVec.ofInt k.bits a ||| BitVec.ofInt k.bits b).toNat))
  | .xor => some (.i k (k.wrap (BitVec.ofInt k.bits a ^^^ BitVec.ofInt k.bits b).toNat))
  | .eql => some (.b (a == b))
  | .neq => some (.b (a != b))
  | .lss => some (.b (decide (a < b)))
  | .leq => some (.b (decide (a ≤ b)))
  | .gtr => some (.b (decide (b < a)))
  | .geq => some (.b (decide (b ≤ a)))
  | _ => none

def binV (op : BinOp) (x y : V) : Option V :=
  match x, y with
  | .i k a, .i k' b =>
    match op with
    | .shl => if b < 0 then none else some (.i k (k.wrap (a * 2 ^ min b.toNat k.bits)))
    | .shr => if b < 0 then none else some (.i k (a.fdiv (2 ^ min b.toNat k.bits)))
    | _ => if k = k' then binI op k a b else none
  | .s a, .s b =>
    match op with
    | .add => if a.length + b.length ≤ 9223372036854775807 then some (.s (a ++ b)) else none
    | .eql => some (.b (a == b))
    | .neq => some (.b (!(a == b)))
    | _ => none
  | _, _ => none

/-- Equality of two plain cells. -/
def eq1 (P : Program) (t : TypeId) (x y : Option V) : Option Bool :=
  match P.underlying t, x, y with
  | some .bool, some (.b a), some (.b b) => some (a == b)
  | some (.int _), some (.i k a), some (.i k' b) => if k = k' then some (a == b) else none
  | some .string, some (.s a), some (.s b) => some (a == b)
  | _, _, _ => none

def eqF (P : Program) : List Field → List V → List V → Option Bool
  | [], _, _ => some true
  | f :: r, xs, ys => if f.name = "_" then none else match eq1 P f.type xs[f.offset]? ys[f.offset]?, eqF P r xs ys with
    | some b, some c => some (b && c)
    | _, _ => none

/-- Equality of two structs of plain cells. -/
def eqS (P : Program) (op : BinOp) (t : TypeId) (x y : V) : Option V :=
  match x, y with
  | .ag xs, .ag ys => if P.stoodInHeld t = false ∧ P.eqGuardType P.depth t = false then match eqF P (P.fieldsOf t).toList xs ys with
    | some b => match op with
      | .eql => some (.b b)
      | .neq => some (.b (!b))
      | _ => none
    | none => none
    else none
  | _, _ => none

/-- Equality of two bools. -/
def eqB (op : BinOp) (x y : V) : Option V :=
  match op, x, y with
  | .eql, .b a, .b b => some (.b (a == b))
  | .neq, .b a, .b b => some (.b (!(a == b)))
  | _, _, _ => none

def unV (op : UnOp) (x : V) : Option V :=
  match op, x with
  | .not, .b b => some (.b !b)
  | .neg, .i k n => some (.i k (k.wrap (0 - n)))
  | _, _ => none

/-- An address of an element of a slice. -/
def idxAd (P : Program) (e : Env) (t : TypeId) (x i : V) : Option V :=
  match tinfo P t, i with
  | .slice _ z _, .i _ n =>
    match x with
    | .al p => match e.at p with
      | some (.ow z' xs) => if z' = z ∧ 0 ≤ n ∧ n < xs.length then some (.ae p z n.toNat 0) else none
      | _ => none
    | .hd p z2 off len => match e.at p with
      | some (.ow z' xs) => if z' = z ∧ z2 = z ∧ 0 ≤ n ∧ n < len ∧ off + len ≤ xs.length then some (.ae p z (off + n.toNat) 0) else none
      | _ => none
    | .sl xs => if 0 ≤ n then match xs[n.toNat]? with
      | some x => if x.cs.length = z then some (.im x.cs) else none
      | none => none
      else none
    | _ => none
  | .arr len z _, .i _ n =>
    if 0 ≤ n ∧ n < len then
      match x with
      | .ad p off => some (.ad p (off + n.toNat * z))
      | .ae p z' j g => some (.ae p z' j (g + n.toNat * z))
      | .im cs => some (.im (cs.drop (n.toNat * z)))
      | _ => none
    else none
  | _, _ => none

def fldAd (P : Program) (t : TypeId) (x : V) (f : Nat) : Option V :=
  match tinfo P t with
  | .struct fs _ => match fs[f]? with
    | some (o, s) => if s = 0 then none else match x with
      | .ad p off => some (.ad p (off + o))
      | .ae p z j g => some (.ae p z j (g + o))
      | .im cs => some (.im (cs.drop o))
      | _ => none
    | none => none
  | _ => none

/-- The cells at an address, as they are seen from elsewhere. -/
def cellsAt (e : Env) (x : V) (n : Nat) : Option (List V) :=
  match x with
  | .ad p off => match e.at p with
    | some (.bx cs) => if off + n ≤ cs.length then some (V.view.go p off ((cs.drop off).take n)) else none
    | _ => none
  | .ae p z j f => match e.at p with
    | some (.ow z' xs) => if z' = z then match xs[j]? with
      | some (.ag cs) => if f + n ≤ cs.length ∧ cs.length = z then some (V.view.go (p ++ [j]) f ((cs.drop f).take n)) else none
      | some x => if f = 0 ∧ n = 1 ∧ z = 1 then some [x.view (p ++ [j])] else none
      | none => none
      else none
    | _ => none
  | .im cs => if n ≤ cs.length then some (cs.take n) else none
  | _ => none

def loadV (P : Program) (e : Env) (t : TypeId) (x : V) : Option V :=
  match tinfo P t with
  | .bad => none
  | ti => match ti.cells with
    | some n => (cellsAt e x n).map .ag
    | none => match cellsAt e x 1 with
      | some [.ag _] => none
      | some [c] => some c
      | _ => none

def V.isAg : V → Bool
  | .ag _ => true
  | _ => false

def V.isUn : V → Bool
  | .un => true
  | _ => false

/-- Every cell of it is known, and owns nothing. -/
def V.noUn (v : V) : Bool := v.cs.all fun | .un | .tp _ | .ow _ _ | .bx _ | .ag _ => false | _ => true

def setCells : List V → Nat → List V → List V
  | cs, _, [] => cs
  | cs, k, v :: r => setCells (cs.set k v) (k + 1) r

def storeV (P : Program) (e : Env) (t : TypeId) (x v : V) : Option Env :=
  match tinfo P t with
  | .bad => none
  | ti =>
    let vs := v.cs
    if vs.length = P.cellsOf t ∧ ti.cells.isSome = v.isAg ∧ v.noUn then
    match x with
    | .ad p off => match e.at p with
      | some (.bx cs) => if off + vs.length ≤ cs.length then some (e.putAt p (.bx (setCells cs off vs))) else none
      | _ => none
    | .ae p z j f => match e.at p with
      | some (.ow z' xs) => if z' = z ∧ vs.all V.plain then match xs[j]? with
        | some (.ag cs) => if f + vs.length ≤ cs.length ∧ cs.length = z then some (e.putAt p (.ow z (xs.set j (.ag (setCells cs f vs))))) else none
        | some _ => if f = 0 ∧ vs.length = 1 ∧ z = 1 then some (e.putAt p (.ow z (xs.set j (vs.getD 0 .un)))) else none
        | none => none
        else none
      | _ => none
    | _ => none
    else none

def boundsOf (len : Nat) (lo hi : Option V) : Option (Nat × Nat) :=
  match lo, hi with
  | none, none => some (0, len)
  | some (.i _ a), none => if 0 ≤ a ∧ a ≤ len then some (a.toNat, len) else none
  | none, some (.i _ b) => if 0 ≤ b ∧ b ≤ len then some (0, b.toNat) else none
  | some (.i _ a), some (.i _ b) => if 0 ≤ a ∧ a ≤ b ∧ b ≤ len then some (a.toNat, b.toNat) else none
  | _, _ => none

def sliceV (P : Program) (e : Env) (t : TypeId) (x : V) (lo hi : Option V) : Option V :=
  match tinfo P t, x with
  | .str, .s l => (boundsOf l.length lo hi).map fun (a, b) => .s ((l.drop a).take (b - a))
  | .slice _ z _, .al p => match e.at p with
    | some (.ow z' xs) => if z' = z then (boundsOf xs.length lo hi).map fun (a, b) => .hd p z a (b - a) else none
    | _ => none
  | .slice _ z _, .hd p z' off len => if z' = z then (boundsOf len lo hi).map fun (a, b) => .hd p z (off + a) (b - a) else none
  | .slice _ z _, .sl xs => if V.allW z xs then (boundsOf xs.length lo hi).map fun (a, b) => .sl ((xs.drop a).take (b - a)) else none
  | .slice _ _ _, .nl => (boundsOf 0 lo hi).map fun _ => .nl
  | _, _ => none

def byteV (b : UInt8) : V := .i .u8 b.toNat
def toB : V → Option UInt8
  | .i .u8 n => some (UInt8.ofNat n.toNat)
  | _ => none

def allB : List V → Option (List UInt8)
  | [] => some []
  | x :: r => match toB x, allB r with
    | some b, some l => some (b :: l)
    | _, _ => none

/-- What an operation puts into its slot, where it makes nothing and writes nothing. -/
def valF (P : Program) (e : Env) (o : Oper) : Option V :=
  match o.op with
  | .move x | .assign x => some (e.rd x)
  | .pick c a b => match e.rd c with
    | .b true => some (e.rd a)
    | .b false => some (e.rd b)
    | _ => none
  | .nilCheck x => match e.rd x with
    | .ad p f => some (.ad p f)
    | .ae p z j f => some (.ae p z j f)
    | .im cs => some (.im cs)
    | _ => none
  | .unOp op _ x => unV op (e.rd x)
  | .binOp op t x y _ => match P.underlying t with
    | some .bool => eqB op (e.rd x) (e.rd y)
    | some (.struct _) => eqS P op t (e.rd x) (e.rd y)
    | _ => binV op (e.rd x) (e.rd y)
  | .extract x i => match e.rd x with
    | .tp vs => vs[i]?
    | _ => none
  | .load t x => loadV P e t (e.rd x)
  | .fieldAddr t x f => fldAd P t (e.rd x) f
  | .indexAddr t x i => idxAd P e t (e.rd x) (e.rd i)
  | .slice t x lo hi none => sliceV P e t (e.rd x) (lo.map e.rd) (hi.map e.rd)
  | .index t x i => match tinfo P t, e.rd x, e.rd i with
    | .str, .s l, .i _ n => if 0 ≤ n then l[n.toNat]?.map byteV else none
    | _, _, _ => none
  | .field t x f => match tinfo P t, e.rd x with
    | .struct fs _, .ag cs => match fs[f]? with
      | some (off, s) => if s = 1 ∧ tyOne P t f then (match cs[off]? with
        | some (.ag _) => none
        | v => v) else none
      | none => none
    | _, _ => none
  | .convert src dst x => match e.rd x with
    | .i _ n => match P.underlying src, P.underlying dst with
      | some (.int _), some (.int k) => some (.i k (k.wrap n))
      | _, _ => none
    | .s l => match P.underlying src, P.underlying dst with
      | some .string, some .string => some (.s l)
      | _, _ => none
    | v => match tinfo P src, tinfo P dst with
      | .slice t 1 _, .str => match P.underlying t with
        | some (.int .u8) => match e.row v with
          | some xs => (allB xs).map .s
          | none => none
        | _ => none
      | _, _ => none
  | .call { callee := .builtin .len, args, argTypes := ts } => match args.toList, ts.toList with
    | [x], [t] => match tinfo P t with
      | .str => match e.rd x with
        | .s l => some (.i .i64 l.length)
        | _ => none
      | .slice _ _ _ => (e.row (e.rd x)).map fun xs => .i .i64 xs.length
      | _ => none
    | _, _ => none
  | .call { callee := .builtin .max, args, .. } => match args.toList.map e.rd with
    | [.i k a, .i k' b] => if k = k' then some (.i k (if b > a then b else a)) else none
    | _ => none
  | .call { callee := .builtin .min, args, .. } => match args.toList.map e.rd with
    | [.i k a, .i k' b] => if k = k' then some (.i k (if b < a then b else a)) else none
    | _ => none
  | _ => none
where tyOne (P : Program) (t : TypeId) (f : Nat) : Bool :=
  match P.underlying t with
  | some (.struct fs) => match fs[f]? with
    | some f => match tinfo P f.type with
      | .sc | .str | .slice _ _ _ => true
      | _ => false
    | none => false
  | _ => false

/-- A struct's cells out of its parts. -/
def buildC (fs : List (Nat × Nat)) : List V → List (Nat × V) → Option (List V)
  | cs, [] => some cs
  | cs, (i, x) :: r => match fs[i]? with
    | some (o, s) => if x.cs.length = s ∧ o + s ≤ cs.length ∧ x.noUn then buildC fs (setCells cs o x.cs) r else none
    | none => none

def buildV (P : Program) (e : Env) (t : TypeId) (parts : List (Nat × Operand)) : Option V :=
  match tinfo P t, zeroC P t with
  | .struct fs n, some zs => if zs.length = n then (buildC fs zs (parts.map fun p => (p.1, e.rd p.2))).map .ag else none
  | .arr len z n, some zs => if zs.length = n then (buildC ((List.range len).map fun i => (i * z, z)) zs (parts.map fun p => (p.1, e.rd p.2))).map .ag else none
  | _, _ => none

/-- Elements that own nothing and hang on nothing. -/
def V.allFlat (xs : List V) : Bool := xs.all fun v => v.cs.all V.plain

/-- What an operation makes that its slot then owns. -/
def newF (P : Program) (e : Env) (o : Oper) : Option V :=
  match o.op with
  | .alloc t => (zeroC P t).map .bx
  | .box _ x => if (e.rd x).noUn ∧ (e.rd x).refs.all (fun p => p.head? != o.dst.map (· + 2)) then some (.bx (e.rd x).cs) else none
  | .buildSlice t len parts => match tinfo P t with
    | .slice el z _ =>
      if parts.toList.map (·.1) = List.range len ∧ len * z ≤ 16777216 ∧ 0 < z ∧ (zeroC P el).isSome ∧
        V.allW z (parts.toList.map fun p => e.rd p.2) ∧ V.allFlat (parts.toList.map fun p => e.rd p.2) then some (.ow z (parts.toList.map fun p => e.rd p.2)) else none
    | _ => none
  | .makeSlice t l c => match tinfo P t, e.rd l, e.rd c with
    | .slice el z nb, .i _ a, .i _ b => if 0 ≤ a ∧ a ≤ b ∧ b * nb ≤ 140737488355328 ∧ b ≤ 140737488355328 then
        match zeroC P el, (tinfo P el).cells with
        | some zs, some n => if zs.length = z ∧ n = z ∧ zs.all V.plain ∧ 0 < z then some (.ow z (List.replicate a.toNat (.ag zs))) else none
        | some [x], none => if z = 1 ∧ x.plain then some (.ow 1 (List.replicate a.toNat x)) else none
        | _, _ => none
      else none
    | _, _, _ => none
  | .convert src dst x => match e.rd x, P.underlying src, tinfo P dst with
    | .s l, some .string, .slice el 1 _ => match P.underlying el with
      | some (.int .u8) => if l.length ≤ 140737488355328 then some (.ow 1 (l.map byteV)) else none
      | _ => none
    | _, _, _ => none
  | _ => none


/-- What is appended. -/
def srcOf (e : Env) (z : Nat) (v : V) : Option (List V) :=
  match v with
  | .s l => if z = 1 then some (l.map byteV) else none
  | v => match e.row v with
    | some ys => if V.allW z ys ∧ V.allFlat ys then some ys else none
    | none => none

def srcTy (P : Program) (t : TypeId) : Bool :=
  match tinfo P t with
  | .str | .slice _ _ _ => true
  | _ => false

/-- An append: its base is used up. -/
def appF (P : Program) (e : Env) (args : List Operand) (ts : List TypeId) : Option (Env × V) :=
  match args, ts with
  | [s, x], [t, t2] => match tinfo P t with
    | .slice el z nb => match srcOf e z (e.rd x) with
      | some ys => if 0 < z ∧ srcTy P t2 ∧ (zeroC P el).map List.length = some z then match e.rd s with
        | .al p => match e.at p with
          | some (.ow z' xs) => if z' = z ∧ (xs.length + ys.length) * nb ≤ 140737488355328 ∧ xs.length + ys.length ≤ 140737488355328 then some (e.putAt p .un, .ow z (xs ++ ys)) else none
          | _ => none
        | .nl => if ys.length * nb ≤ 140737488355328 ∧ ys.length ≤ 140737488355328 then some (e, .ow z ys) else none
        | _ => none
        else none
      | none => none
    | _ => none
  | _, _ => none

def dOk (n : Nat) : Option Nat → Bool
  | some d => d < n
  | none => true

def stepF (P : Program) (n : Nat) (e : Env) (o : Oper) : Option Env :=
  if dOk n o.dst then
    match o.op with
    | .store t a x => match o.dst with
      | none => storeV P e t (e.rd a) (e.rd x)
      | some _ => none
    | .alloc _ | .box _ _ | .buildSlice _ _ _ | .makeSlice _ _ _ => match newF P e o, o.dst with
      | some v, some d => if e.free d then some (e.set d v) else none
      | _, _ => none
    | .call { callee := .builtin .append, args, argTypes } => match appF P e args.toList argTypes.toList, o.dst with
      | some (e', v), some d => if e.free d ∧ e'.free d ∧ (e.get d).isUn then some (e'.set d v) else none
      | _, _ => none
    | .build t parts => (buildV P e t parts.toList).map fun v => e.setd o.dst v
    | .convert _ _ _ => match newF P e o, o.dst with
      | some v, some d => if e.free d then some (e.set d v) else none
      | _, _ => (valF P e o).map fun v => e.setd o.dst v
    | _ => (valF P e o).map fun v => e.setd o.dst v
  else none

inductive T where
  | ok (e : Env)
  | bad
  | br (c : Bool) (t f : T)
  | call (f : Nat) (vs : List V) (all rest : List Oper) (d : Option Nat) (e : Env)

/-- A row of operations, in the text's order, up to the next call. -/
def runT (P : Program) (n : Nat) (all : List Oper) : List Oper → Env → T
  | [], e => .ok e
  | o :: r, e =>
    let go (e : Env) : T :=
      match o.op with
      | .call { callee := .value (.func f), args, .. } => .call f (args.toList.map e.rd) all r o.dst e
      | _ => match stepF P n e o with
        | some e' => runT P n all r e'
        | none => .bad
    let skip (e : Env) : T := if dOk n o.dst then runT P n all r (e.setd o.dst (.tp [])) else .bad
    match o.guard with
    | none => go e
    | some (j, want) => match (all[j]?).bind (·.dst) with
      | some d => match e.get d with
        | .b c => if want then .br c (go (e.set d (.b true))) (skip (e.set d (.b false))) else .br c (skip (e.set d (.b true))) (go (e.set d (.b false)))
        | .tp [] => skip e
        | _ => .bad
      | none => .bad

end Go.Vx

namespace Go.Vx
open Go Go.RowKit

theorem V.view_go_get {π : Path} {cs : List V} : ∀ {k f : Nat} {y : V}, (V.view.go π k cs)[f]? = some y → ∃ x, cs[f]? = some x ∧ y = x.view (π ++ [k + f]) := by
  induction cs with
  | nil => intro k f y h; simp [V.view.go] at h
  | cons c r ih =>
    intro k f y h
    cases f with
    | zero => simp [V.view.go] at h; exact ⟨c, by simp, by simp [h]⟩
    | succ f =>
      simp only [V.view.go, List.getElem?_cons_succ] at h
      obtain ⟨x, hx, hy⟩ := ih h
      exact ⟨x, by simpa using hx, by rw [hy]; congr 2; simp; omega⟩

theorem V.view_go_length {π : Path} (cs : List V) : ∀ k, (V.view.go π k cs).length = cs.length := by
  induction cs with
  | nil => intro k; rfl
  | cons c r ih => intro k; simp [V.view.go, ih]

theorem RepC.view {w : World} {g : Gh} {o : Option Path} {v : V} {cs : List Value} (h : RepC w g o v cs) : ∀ {π : Path}, o = some π → ∀ ρ, RepO w g ρ (v.view π) cs := by
  induction h with
  | i => exact fun _ _ => .c .i
  | b => exact fun _ _ => .c .b
  | s => exact fun _ _ => .c .s
  | np => exact fun _ _ => .c .np
  | nl => exact fun _ _ => .c .nl
  | un => exact fun _ _ => .un
  | fn => exact fun _ _ => .c .fn
  | lit h => exact fun _ _ => .c (.lit h)
  | slnil => exact fun _ _ => .c .slnil
  | sl blk o z cap ch hl hlt hcap hz hc hr => exact fun _ _ => .c (.sl blk o z cap ch hl hlt hcap hz hc hr)
  | ownil hv => intro π e ρ; cases e; rw [← hv]; exact .al ⟨_, _, _, hv⟩
  | ow blk o z cap cur ty ch hl hv => intro π e ρ; cases e; rw [← hv]; exact .al ⟨_, _, _, hv⟩
  | @ag o cs vs hn h ih =>
    intro π e ρ
    cases e
    refine .ag (by rw [V.view_go_length]; exact hn) ?_
    intro f y c hy hc
    obtain ⟨x, hx, rfl⟩ := V.view_go_get hy
    simpa using ih f x c hx hc rfl (ρ ++ [f])

theorem RepO.view {w : World} {g : Gh} {π : Path} {v : V} {cs : List Value} (h : RepO w g π v cs) : ∀ ρ, RepO w g ρ (v.view π) cs := by
  induction h with
  | c h => exact h.view rfl
  | @ag π cs vs hn h ih =>
    intro ρ
    refine .ag (by rw [V.view_go_length]; exact hn) ?_
    intro f y c hy hc
    obtain ⟨x, hx, rfl⟩ := V.view_go_get hy
    simpa using ih f x c hx hc (ρ ++ [f])
  | bx blk cur ty hl hv hb hn h => intro ρ; exact .ad (off := 0) blk 0 (by rw [hv]; rfl)
  | al hs => exact fun _ => .al hs
  | hd h => exact fun _ => .hd h
  | ad blk o h => exact fun _ => .ad blk o h
  | ae blk o h => exact fun _ => .ae blk o h
  | im blk o vs hl hlt hn hc h => exact fun _ => .im blk o vs hl hlt hn hc h
  | un => exact fun _ => .un

theorem V.view_ag {v : V} {π : Path} : (∀ cs, v ≠ .ag cs) → ∀ cs, v.view π ≠ .ag cs := by
  intro h cs
  cases v <;> simp_all [V.view]

theorem RepS.view {w : World} {g : Gh} {π : Path} {v : V} {c : Value} (h : RepS w g π v c) : ∀ ρ, RepS w g ρ (v.view π) c := by
  induction h with
  | one hv h => exact fun ρ => .one (V.view_ag hv) (h.view ρ)
  | agg h => exact fun ρ => .agg (h.view ρ)
  | @tup π cs arr hn h ih =>
    intro ρ
    refine .tup (by rw [V.view_go_length]; exact hn) ?_
    intro f y c hy hc
    obtain ⟨x, hx, rfl⟩ := V.view_go_get hy
    simpa using ih f x c hx hc (ρ ++ [f])
  | un => exact fun _ => .un

theorem cvC_rep (w : World) (g : Gh) (v : Value) (ρ : Path) : RepO w g ρ (cvC v) [v] := by
  unfold cvC
  split
  · exact .c .i
  · exact .c .b
  · rename_i s; exact .c (by have := @RepC.s w g (some ρ) s.data.toList; simpa using this)
  · exact .c .nl
  · exact .c .np
  · rename_i f a b
    split
    · rename_i h
      obtain rfl : a = #[] := Array.eq_empty_of_size_eq_zero h.1
      obtain rfl : b = #[] := Array.eq_empty_of_size_eq_zero h.2
      exact .c .fn
    · exact .un
  · exact .un

theorem cvC_ag (v : Value) (cs : List V) : cvC v ≠ .ag cs := by
  unfold cvC
  split <;> (try split) <;> simp

theorem cvV_rep (w : World) (g : Gh) (v : Value) (ρ : Path) : RepS w g ρ (cvV v) v := by
  unfold cvV
  split
  · rename_i cs
    refine .agg (.ag (by simp) ?_)
    intro f x c hx hc
    simp only [List.getElem?_map, hc, Option.map_some, Option.some.injEq] at hx
    subst hx
    exact cvC_rep w g c _
  · rename_i vs
    split
    · rename_i h
      obtain rfl : vs = #[] := Array.eq_empty_of_size_eq_zero h
      exact .tup (by simp) (fun f x c hx _ => by simp at hx)
    · exact .un
  · exact .one (cvC_ag _) (cvC_rep w g _ ρ)

section
variable {P : Program} {w0 : World} {g0 : Gh} {n : Nat} {e : Env}

/-- The state stands for slots and world, by these marks. -/
structure Holds (w0 : World) (g0 : Gh) (e : Env) (a : Act) (w : World) (g : Gh) : Prop where
  inj : Inj g w
  fr : Fr w0 g0 w g
  rep : ∀ t, RepS w g [t + 2] (e.get t) (a.tmps.getD t undef)

theorem Holds.rd {a : Act} {w : World} {g : Gh} (h : Holds w0 g0 e a w g) (x : Operand) (ρ : Path) : RepS w g ρ (e.rd x) (a.eval x) := by
  cases x with
  | tmp t => exact (h.rep t).view ρ
  | const v => exact cvV_rep w g v ρ
  | global => exact .un
  | func f => exact .one (by simp [Env.rd]) (.c .fn)

theorem dOk_put {a : Act} {d : Option Nat} {n t : Nat} {c : Value} (hs : a.tmps.size = n) (hd : dOk n d = true) :
    (a.put d c).tmps.getD t undef = if d = some t then c else a.tmps.getD t undef := by
  cases d with
  | none => simp [Act.put]
  | some d =>
    have hd' : d < a.tmps.size := by simpa [dOk, hs] using hd
    simp only [Act.put]
    rw [Array.getD_eq_getD_getElem?, Array.getElem?_setIfInBounds, Array.getD_eq_getD_getElem?]
    by_cases h : d = t
    · subst h; simp [hd']
    · simp [h]

theorem put_size {a : Act} {d : Option Nat} {c : Value} : (a.put d c).tmps.size = a.tmps.size := by
  cases d <;> simp [Act.put]
theorem put_defers {a : Act} {d : Option Nat} {c : Value} : (a.put d c).defers = a.defers := by
  cases d <;> simp [Act.put]

theorem Env.get_setd (e : Env) (d : Option Nat) (v : V) (t : Nat) : (e.setd d v).get t = if d = some t then v else e.get t := by
  cases d with
  | none => simp [Env.setd]
  | some d => simp [Env.setd, Env.get_set]

/-- A slot takes what hangs on nothing of its own. -/
theorem Sim.setd {a : Act} {w : World} {g : Gh} {d : Option Nat} {v : V} {c : Value} (hs : Sim w0 g0 n e a w) (h : Holds w0 g0 e a w g) (hd : dOk n d = true)
    (hv : ∀ t, d = some t → RepS w g [t + 2] v c) : Sim w0 g0 n (e.setd d v) (a.put d c) w := by
  refine ⟨⟨g, h.inj, h.fr, fun t => ?_⟩, by rw [put_defers]; exact hs.defers, by rw [put_size]; exact hs.size⟩
  rw [Env.get_setd, dOk_put hs.size hd]
  by_cases ht : d = some t
  · simp only [ht, if_true]; exact hv t ht
  · simp only [ht, if_false]; exact h.rep t

theorem Sim.holds {a : Act} {w : World} (hs : Sim w0 g0 n e a w) : ∃ g, Holds w0 g0 e a w g := by
  obtain ⟨g, h1, h2, h3⟩ := hs.ex
  exact ⟨g, h1, h2, h3⟩

/-- An operation that only looks. -/
theorem OpOk.val {o : Oper} {v : V} {K : Env → Prop} (hd : dOk n o.dst = true)
    (h : ∀ a w g, Holds w0 g0 e a w g → ∃ c, (execOp a.eval o).run P w = .ok (.value c) w ∧ ∀ ρ, RepS w g ρ v c) (hK : K (e.setd o.dst v)) : OpOk P w0 g0 n o e K := by
  intro a w hs next Q hn
  obtain ⟨g, hh⟩ := hs.holds
  obtain ⟨c, hr, hv⟩ := h a w g hh
  unfold Oper.wp
  rw [hr]
  exact hn _ _ _ hK (hs.setd hh hd (fun t _ => hv _))

theorem RepS.tp_inv {w : World} {g : Gh} {π : Path} {vs : List V} {c : Value} (h : RepS w g π (.tp vs) c) :
    ∃ arr, c = .tuple arr ∧ vs.length = arr.size ∧ ∀ f x y, vs[f]? = some x → arr[f]? = some y → RepS w g (π ++ [f]) x y := by
  cases h with
  | one _ h => cases h with
    | c h => cases h
  | tup hn h => exact ⟨_, rfl, hn, h⟩

theorem RepS.ag_inv {w : World} {g : Gh} {π : Path} {cs : List V} {c : Value} (h : RepS w g π (.ag cs) c) : ∃ arr, c = .agg arr ∧ RepO w g π (.ag cs) arr.toList := by
  cases h with
  | one hv => exact (hv _ rfl).elim
  | agg h => exact ⟨_, rfl, h⟩

theorem RepO.ag_inv {w : World} {g : Gh} {π : Path} {cs : List V} {vs : List Value} (h : RepO w g π (.ag cs) vs) :
    cs.length = vs.length ∧ ∀ f x c, cs[f]? = some x → vs[f]? = some c → RepO w g (π ++ [f]) x [c] := by
  cases h with
  | c h => cases h with
    | ag hn h => exact ⟨hn, fun f x c hx hc => .c (by simpa using h f x c hx hc)⟩
  | ag hn h => exact ⟨hn, h⟩

/-- A slot's value that is one cell. -/
theorem RepS.cell {w : World} {g : Gh} {π : Path} {v : V} {c : Value} (h : RepS w g π v c) (h1 : ∀ cs, v ≠ .ag cs) (h2 : ∀ cs, v ≠ .tp cs) (h3 : v ≠ .un) : RepO w g π v [c] := by
  cases h with
  | one _ h => exact h
  | agg => exact (h1 _ rfl).elim
  | tup => exact (h2 _ rfl).elim
  | un => exact (h3 rfl).elim

end
end Go.Vx

namespace Go.Vx
open Go Go.RowKit

section
variable {P : Program} {w0 : World} {g0 : Gh} {n : Nat} {e : Env} {a : Act} {w : World} {g : Gh}

theorem Holds.at_ow (h : Holds w0 g0 e a w g) {p : Path} {z : Nat} {xs : List V} (hp : e.at p = some (.ow z xs)) : ∃ c, RepC w g (some p) (.ow z xs) [c] ∧ c = g.vm p := by
  match p, hp with
  | (t + 2) :: p, hp =>
    obtain ⟨c, hc⟩ := (h.rep t).sub_ow hp
    refine ⟨c, by simpa using hc, ?_⟩
    cases hc with
    | ownil hv => simpa using hv.symm
    | ow blk o z cap cur ty ch hl hv => simpa using hv.symm

theorem Holds.at_bx (h : Holds w0 g0 e a w g) {p : Path} {ks : List V} (hp : e.at p = some (.bx ks)) :
    ∃ blk cur ty, g.lab blk = some p ∧ g.vm p = .pointer (some ⟨blk, 0, none⟩) ∧ w.heap[blk]? = some (.cells cur ty (0, 0)) ∧ ks.length = cur.size ∧
      ∀ f x c, ks[f]? = some x → cur[f]? = some c → RepO w g (p ++ [f]) x [c] := by
  match p, hp with
  | (t + 2) :: p, hp =>
    obtain ⟨c, hc⟩ := (h.rep t).sub_bx hp
    cases hc with
    | c h => cases h
    | bx blk cur ty hl hv hb hn h => exact ⟨blk, cur, ty, by simpa using hl, by simpa using hv, hb, hn, by simpa using h⟩

/-- What an owned row is in memory. -/
theorem RepC.ow_inv {p : Path} {z : Nat} {xs : List V} {c : Value} (h : RepC w g (some p) (.ow z xs) [c]) :
    (xs = [] ∧ c = .slice none 0 0 ∧ g.vm p = c) ∨
    ∃ (blk o cap : Nat) (cur : Array Value) (ty : TypeId) (ch : Nat → List Value), c = .slice (some ⟨blk, o, none⟩) xs.length cap ∧ g.lab blk = some p ∧ g.vm p = c ∧ Lies w blk cur ty ∧
      xs.length ≤ cap ∧ cap ≤ maxLen ∧ o + cap * z ≤ cur.size ∧ (∀ j, j < xs.length → (ch j).length = z) ∧
      (∀ j, j < xs.length → ∀ q u, (ch j)[q]? = some u → cur[o + j * z + q]? = some u) ∧ ∀ j x, xs[j]? = some x → RepC w g (some (p ++ [j])) x (ch j) := by
  cases h with
  | ownil hv => exact .inl ⟨rfl, rfl, hv⟩
  | ow blk o z cap cur ty ch hl hv hb hcap hmax hroom hz hc hr => exact .inr ⟨blk, o, cap, cur, ty, ch, rfl, hl, hv, hb, hcap, hmax, hroom, hz, hc, hr⟩

theorem RepS.al_inv {π p : Path} {c : Value} (h : RepS w g π (.al p) c) : c = g.vm p := by
  cases h with
  | one _ h => cases h with
    | c h => cases h
    | al => rfl
theorem RepS.hd_inv {π p : Path} {z off len : Nat} {c : Value} (h : RepS w g π (.hd p z off len) c) : SubSl (g.vm p) z off len c := by
  cases h with
  | one _ h => cases h with
    | c h => cases h
    | hd h => exact h
theorem RepS.ad_inv {π p : Path} {off : Nat} {c : Value} (h : RepS w g π (.ad p off) c) : ∃ blk o, baseOf (g.vm p) = some (blk, o) ∧ c = .pointer (some ⟨blk, o + off, none⟩) := by
  cases h with
  | one _ h => cases h with
    | c h => cases h
    | ad blk o h => exact ⟨blk, o, h, rfl⟩
theorem RepS.ae_inv {π p : Path} {z j f : Nat} {c : Value} (h : RepS w g π (.ae p z j f) c) : ∃ blk o, baseOf (g.vm p) = some (blk, o) ∧ c = .pointer (some ⟨blk, o + (j * z + f), none⟩) := by
  cases h with
  | one _ h => cases h with
    | c h => cases h
    | ae blk o h => exact ⟨blk, o, h, rfl⟩
theorem RepS.im_inv {π : Path} {cs : List V} {c : Value} (h : RepS w g π (.im cs) c) : ∃ blk o vs, c = .pointer (some ⟨blk, o, none⟩) ∧ g.lab blk = none ∧ blk < w.heap.size ∧ cs.length = vs.length ∧
    (∀ q c, vs[q]? = some c → w.cell? ⟨blk, o + q, none⟩ = some c) ∧ RepC w g none (.ag cs) vs := by
  cases h with
  | one _ h => cases h with
    | c h => cases h
    | im blk o vs hl hlt hn hc h => exact ⟨blk, o, vs, rfl, hl, hlt, hn, hc, h⟩
theorem RepS.nl_inv {π : Path} {c : Value} (h : RepS w g π .nl c) : c = .slice none 0 0 := by
  cases h with
  | one _ h => cases h with
    | c h => cases h; rfl
theorem RepS.sl_inv {π : Path} {xs : List V} {c : Value} (h : RepS w g π (.sl xs) c) : RepC w g none (.sl xs) [c] := by
  cases h with
  | one _ h => cases h with
    | c h => cases h with
      | slnil => exact .slnil
      | sl blk o z cap ch hl hlt hcap hz hc hr => exact .sl blk o z cap ch hl hlt hcap hz hc hr

theorem cell_of_heap {blk o : Nat} {cur : Array Value} {ty : TypeId} {fr : Nat × Nat} (h : w.heap[blk]? = some (.cells cur ty fr)) : w.cell? ⟨blk, o, none⟩ = cur[o]? := by
  simp [World.cell?, h]

theorem slice_get {l : List V} {off n q : Nat} {x : V} (h : ((l.drop off).take n)[q]? = some x) : l[off + q]? = some x ∧ q < n := by
  rw [List.getElem?_take] at h
  split at h
  · rename_i hq; rw [List.getElem?_drop] at h; exact ⟨h, hq⟩
  · cases h

theorem sliceA_get {l : List Value} {off n q : Nat} {x : Value} (h : ((l.drop off).take n)[q]? = some x) : l[off + q]? = some x ∧ q < n := by
  rw [List.getElem?_take] at h
  split at h
  · rename_i hq; rw [List.getElem?_drop] at h; exact ⟨h, hq⟩
  · cases h

theorem RepC.ag_inv {o : Option Path} {cs : List V} {vs : List Value} (h : RepC w g o (.ag cs) vs) :
    cs.length = vs.length ∧ ∀ f x c, cs[f]? = some x → vs[f]? = some c → RepC w g (o.map (· ++ [f])) x [c] := by
  cases h with
  | ag hn h => exact ⟨hn, h⟩

theorem cellsAt_ok (h : Holds w0 g0 e a w g) {x : V} {c : Value} {ρ0 : Path} {k : Nat} {cs : List V} (hx : RepS w g ρ0 x c) (hc : cellsAt e x k = some cs) :
    ∃ (blk o : Nat) (vs : List Value), c = .pointer (some ⟨blk, o, none⟩) ∧ cs.length = k ∧ vs.length = k ∧ (∀ q u, vs[q]? = some u → w.cell? ⟨blk, o + q, none⟩ = some u) ∧
      ∀ (f : Nat) (x : V) (u : Value), cs[f]? = some x → vs[f]? = some u → ∀ ρ, RepO w g ρ x [u] := by
  unfold cellsAt at hc
  split at hc
  · rename_i p off
    split at hc
    · rename_i ks hp
      split at hc
      · rename_i hlen
        cases hc
        obtain ⟨blk, cur, ty, hl, hv, hb, hn, hr⟩ := h.at_bx hp
        obtain ⟨blk', o', hbase, rfl⟩ := hx.ad_inv
        rw [hv] at hbase
        simp [baseOf] at hbase
        obtain ⟨rfl, rfl⟩ := hbase
        refine ⟨blk, 0 + off, (cur.toList.drop off).take k, rfl, by rw [V.view_go_length]; simp; omega, by simp; omega, ?_, ?_⟩
        · intro q u hq
          have := sliceA_get hq
          rw [cell_of_heap hb]
          simpa using this.1
        · intro f y u hy hu ρ
          obtain ⟨x, hx, rfl⟩ := V.view_go_get hy
          have h1 := slice_get hx
          have h2 := sliceA_get hu
          exact (hr _ _ _ h1.1 (by simpa using h2.1)).view _
      · cases hc
    · cases hc
  · rename_i p z j f
    split at hc
    · rename_i z' xs hp
      split at hc
      · rename_i hz
        subst hz
        obtain ⟨c0, hrow, hvm⟩ := h.at_ow hp
        rcases hrow.ow_inv with ⟨rfl, _⟩ | ⟨blk, o, cap, cur, ty, ch, hc0, hl, hv, hb, hcap, hmax, hroom, hzz, hcc, hr⟩
        · simp at hc
        · obtain ⟨blk', o', hbase, rfl⟩ := hx.ae_inv
          rw [hv, hc0] at hbase
          simp [baseOf] at hbase
          obtain ⟨rfl, rfl⟩ := hbase
          split at hc
          · rename_i ks hj
            split at hc
            · rename_i hlen
              cases hc
              have hjl := (List.getElem?_eq_some_iff.1 hj).1
              obtain ⟨hn, hk⟩ := (hr j _ hj).ag_inv
              refine ⟨blk, o + (j * z' + f), ((ch j).drop f).take k, rfl, by rw [V.view_go_length]; simp; omega, by simp; omega, ?_, ?_⟩
              · intro q u hq
                have := sliceA_get hq
                rw [hb.cell]
                rw [← hcc j hjl _ _ this.1]
                congr 1; omega
              · intro q y u hy hu ρ
                obtain ⟨x, hx, rfl⟩ := V.view_go_get hy
                have h1 := slice_get hx
                have h2 := sliceA_get hu
                exact (hk _ _ _ h1.1 h2.1).view rfl _
            · cases hc
          · rename_i x hx1 hj
            split at hc
            · rename_i hlen
              obtain ⟨rfl, rfl, rfl⟩ := hlen
              cases hc
              have hjl := (List.getElem?_eq_some_iff.1 hj).1
              have hch := hzz j hjl
              match hcj : ch j, hch with
              | [u], _ =>
                have hrj := hr j _ hj
                rw [hcj] at hrj
                refine ⟨blk, o + (j * 1 + 0), [u], rfl, rfl, rfl, ?_, ?_⟩
                · intro q u' hq
                  have hq0 : q = 0 := by cases q <;> simp at hq ⊢
                  subst hq0
                  simp at hq
                  subst hq
                  rw [hb.cell]
                  have := hcc j hjl 0 u (by simp [hcj])
                  simpa using this
                · intro q y u' hy hu ρ
                  have hq0 : q = 0 := by cases q <;> simp at hy ⊢
                  subst hq0
                  simp at hy hu
                  subst hy hu
                  exact hrj.view rfl _
            · cases hc
          · cases hc
      · cases hc
    · cases hc
  · rename_i ks
    split at hc
    · rename_i hlen
      cases hc
      obtain ⟨blk, o, vs, rfl, hl, hlt, hn, hcell, hr⟩ := hx.im_inv
      refine ⟨blk, o, vs.take k, rfl, by simp; omega, by simp; omega, ?_, ?_⟩
      · intro q u hq
        rw [List.getElem?_take] at hq
        split at hq
        · exact hcell q u hq
        · cases hq
      · intro f x u hx hu ρ
        rw [List.getElem?_take] at hx hu
        split at hx
        · rename_i hf
          rw [if_pos hf] at hu
          exact .c ((hr.ag_inv.2 f x u hx hu).imm rfl ⟨Nat.le_refl _, fun b _ hb => ⟨hb, rfl⟩⟩ _)
        · cases hx
    · cases hc
  · cases hc

end
end Go.Vx

namespace Go.Vx
open Go Go.RowKit

theorem tinfo_slice {P : Program} {t el z nb : Nat} (h : tinfo P t = .slice el z nb) :
    P.underlying t = some (.slice el) ∧ ∃ i, P.info? el = some i ∧ i.size = z ∧ i.bytes = nb := by
  unfold tinfo at h
  split at h
  · cases h
  · split at h
    · rename_i e' he
      split at h
      · rename_i i hi; cases h; exact ⟨he, i, hi, rfl, rfl⟩
      · cases h
    · split at h <;> cases h
    · split at h <;> cases h
    all_goals cases h

theorem tinfo_struct {P : Program} {t n : Nat} {fs : List (Nat × Nat)} (h : tinfo P t = .struct fs n) :
    ∃ fields j, P.underlying t = some (.struct fields) ∧ P.info? t = some j ∧ j.size = n ∧ fs = fields.toList.map (fun f => (f.offset, P.cellsOf f.type)) ∧
      ∀ f ∈ fields, (P.info? f.type).isSome := by
  unfold tinfo at h
  split at h
  · cases h
  · rename_i j hj
    split at h
    · split at h <;> cases h
    · rename_i fields hf
      split at h
      · rename_i hall
        cases h
        refine ⟨fields, j, hf, hj, rfl, rfl, fun f hf' => ?_⟩
        have := Array.all_eq_true'.1 hall f hf'
        simpa using this
      · cases h
    · split at h <;> cases h
    all_goals cases h

theorem tinfo_arr {P : Program} {t len z n : Nat} (h : tinfo P t = .arr len z n) :
    ∃ el i j, P.underlying t = some (.array len el) ∧ P.info? el = some i ∧ i.size = z ∧ P.info? t = some j ∧ j.size = n := by
  unfold tinfo at h
  split at h
  · cases h
  · rename_i j hj
    split at h
    · split at h <;> cases h
    · split at h <;> cases h
    · rename_i l el hu
      split at h
      · rename_i i hi; cases h; exact ⟨el, i, j, hu, hi, rfl, hj, rfl⟩
      · cases h
    all_goals cases h

theorem tinfo_str {P : Program} {t : Nat} (h : tinfo P t = .str) : P.underlying t = some .string := by
  unfold tinfo at h
  split at h
  · cases h
  · split at h
    · split at h <;> cases h
    · split at h <;> cases h
    · split at h <;> cases h
    · assumption
    all_goals cases h

/-- A type is an aggregate just where the table says so. -/
theorem run_isAgg {P : Program} {t : Nat} (w : World) (h : tinfo P t ≠ .bad) : (isAgg t).run P w = .ok (tinfo P t).cells.isSome w := by
  have hu : ∃ d, P.underlying t = some d := by
    unfold tinfo at h
    split at h
    · exact (h rfl).elim
    · split at h <;> first | exact ⟨_, by assumption⟩ | exact (h rfl).elim
  obtain ⟨d, hd⟩ := hu
  unfold isAgg
  simp only [Sem.run_bind, run_underlying hd, Result.andThen_ok]
  unfold tinfo at h ⊢
  rw [hd] at h ⊢
  cases hj : P.info? t with
  | none => simp [hj] at h
  | some j =>
    rw [hj] at h
    cases d with
    | struct fs =>
      simp only at h ⊢
      split at h
      · rename_i hc; rw [if_pos hc]; rfl
      · exact (h rfl).elim
    | array n el =>
      simp only at h ⊢
      split at h
      · rfl
      · exact (h rfl).elim
    | slice el =>
      simp only at h ⊢
      split at h
      · rfl
      · exact (h rfl).elim
    | _ => rfl

theorem tinfo_cells {P : Program} {t k : Nat} (h : (tinfo P t).cells = some k) : ∃ j, P.info? t = some j ∧ j.size = k := by
  cases ht : tinfo P t <;> rw [ht] at h <;> simp [TI.cells] at h
  · obtain ⟨_, j, _, hj, hn, _⟩ := tinfo_struct ht; exact ⟨j, hj, by omega⟩
  · obtain ⟨_, _, j, _, _, _, hj, hn⟩ := tinfo_arr ht; exact ⟨j, hj, by omega⟩

section
variable {P : Program} {w0 : World} {g0 : Gh} {n : Nat} {e : Env} {a : Act} {w : World} {g : Gh}

theorem run_sizeOf' {t : Nat} {i : TypeInfo} (w : World) (h : P.info? t = some i) : (sizeOf t).run P w = .ok i.size w := by
  simp [sizeOf, typeInfo, program, h, Sem.run_bind, Sem.run]

theorem add_addr (blk o q : Nat) : (⟨blk, o, none⟩ : Addr).add q = ⟨blk, o + q, none⟩ := by unfold Addr.add; split <;> simp_all

theorem run_loadCells_at {blk o : Nat} {vs : List Value} (h : ∀ q u, vs[q]? = some u → w.cell? ⟨blk, o + q, none⟩ = some u) :
    (loadCells ⟨blk, o, none⟩ vs.length).run P w = .ok vs.toArray w :=
  run_loadCells_list w _ vs (fun j v hv => by rw [add_addr]; exact h j v hv)

theorem load_ok (h : Holds w0 g0 e a w g) {x : V} {c : Value} {ρ0 : Path} {t : Nat} {v : V} (hx : RepS w g ρ0 x c) (hl : loadV P e t x = some v) :
    ∃ u, (Instr.loadAt t c).run P w = .ok u w ∧ ∀ ρ, RepS w g ρ v u := by
  unfold loadV at hl
  split at hl
  · cases hl
  · rename_i ti hne
    have hbad : tinfo P t ≠ .bad := fun hb => hne hb
    split at hl
    · rename_i k hk
      obtain ⟨j, hj, hjk⟩ := tinfo_cells hk
      simp only [Option.map_eq_some_iff] at hl
      obtain ⟨cs, hcs, rfl⟩ := hl
      obtain ⟨blk, o, vs, rfl, hcl, hvl, hcell, hrep⟩ := cellsAt_ok h hx hcs
      refine ⟨.agg vs.toArray, ?_, fun ρ => .agg (.ag (by simp; omega) (fun f x u hx hu => hrep f x u hx (by simpa using hu) _))⟩
      have hL := run_loadCells_at (P := P) hcell
      rw [hvl] at hL
      simp only [Instr.loadAt, Instr.sureAddr, loadVar, Sem.run_bind, Sem.run_pure, Result.andThen_ok, run_isAgg w hbad, hk, Option.isSome_some, if_true, run_sizeOf' w hj, hjk, hL]
    · rename_i hk
      split at hl
      · cases hl
      · rename_i c1 hag hcs
        obtain rfl := Option.some.inj hl
        obtain ⟨blk, o, vs, rfl, hcl, hvl, hcell, hrep⟩ := cellsAt_ok h hx hcs
        match vs, hvl with
        | [u], _ =>
          have h0 := hcell 0 u rfl
          refine ⟨u, ?_, fun ρ => ?_⟩
          · simp only [Instr.loadAt, Instr.sureAddr, loadVar, Sem.run_bind, Sem.run_pure, Result.andThen_ok, run_isAgg w hbad, hk, Option.isSome_none, Bool.false_eq_true, if_false]
            rw [run_load]
            simp only [Nat.add_zero] at h0
            rw [h0]
          · exact .one (fun cs hcs => hag cs (by rw [hcs])) (hrep 0 c1 u rfl rfl ρ)
      · cases hl

end
end Go.Vx

namespace Go.Vx
open Go Go.RowKit

section
variable {P : Program} {w0 : World} {g0 : Gh} {n : Nat} {e : Env} {a : Act} {w : World} {g : Gh}

theorem RepC.len {o : Option Path} {v : V} {cs : List Value} (h : RepC w g o v cs) : cs.length = v.cs.length := by
  cases h <;> first | rfl | (rename_i hn _; simpa [V.cs] using hn.symm)

theorem RepC.width {o : Option Path} {v : V} {cs : List Value} (h : RepC w g o v cs) : (∀ c, v ≠ .ag c) → ∃ c, cs = [c] := by
  intro hv
  cases h <;> first | exact ⟨_, rfl⟩ | exact (hv _ rfl).elim

theorem baseOf_slice (blk o n c : Nat) : baseOf (.slice (some ⟨blk, o, none⟩) n c) = some (blk, o) := rfl

/-- What a slice that owns a row is as a value. -/
theorem Holds.row_al (h : Holds w0 g0 e a w g) {p : Path} {z : Nat} {xs : List V} (hp : e.at p = some (.ow z xs)) :
    ∃ s c, g.vm p = .slice s xs.length c ∧ xs.length ≤ c ∧ (0 < xs.length → ∃ blk o, s = some ⟨blk, o, none⟩) ∧ Shp s c := by
  obtain ⟨c0, hrow, hvm⟩ := h.at_ow hp
  rcases hrow.ow_inv with ⟨rfl, rfl, hv⟩ | ⟨blk, o, cap, cur, ty, ch, hc0, hl, hv, hb, hcap, _⟩
  · exact ⟨none, 0, by rw [hv]; rfl, by simp, fun h => by simp at h, .inl ⟨rfl, rfl⟩⟩
  · exact ⟨_, cap, by rw [hv, hc0], hcap, fun _ => ⟨blk, o, rfl⟩, .inr ⟨blk, o, rfl⟩⟩

theorem idx_ok (h : Holds w0 g0 e a w g) {x i v : V} {cx ci : Value} {ρ1 ρ2 : Path} {t : Nat} (hx : RepS w g ρ1 x cx) (hi : RepS w g ρ2 i ci) (hv : idxAd P e t x i = some v) :
    ∃ u, (Instr.indexAt t cx ci).run P w = .ok u w ∧ ∀ ρ, RepS w g ρ v u := by
  unfold idxAd at hv
  split at hv
  · rename_i el z nb k i ht
    obtain ⟨hu, inf, hinf, rfl, -⟩ := tinfo_slice ht
    obtain rfl := hi.i_inv
    have hrun : ∀ (blk o len cap : Nat), 0 ≤ i → i < len → (Instr.indexAt t (.slice (some ⟨blk, o, none⟩) len cap) (.int k i)).run P w = .ok (.pointer (some ⟨blk, o + i.toNat * inf.size, none⟩)) w := by
      intro blk o len cap h1 h2
      simp [Instr.indexAt, run_underlying hu, asIntOf, h1, h2, run_sizeOf' w hinf, add_addr]
    split at hv
    · rename_i p
      split at hv
      · rename_i z' xs hp
        split at hv
        · rename_i hc
          cases hv
          obtain ⟨rfl, h1, h2⟩ := hc
          obtain ⟨s, c, hvm, hcap, hne, hshp0⟩ := h.row_al hp
          obtain ⟨blk, o, rfl⟩ := hne (by omega)
          have := hx.al_inv
          subst this
          rw [hvm]
          refine ⟨_, hrun blk o _ _ h1 h2, fun ρ => .one (by simp) ?_⟩
          have := @RepO.ae w g ρ p inf.size i.toNat 0 blk o (by rw [hvm]; rfl)
          simpa using this
        · cases hv
      · cases hv
    · rename_i p z2 off len
      split at hv
      · rename_i z' xs hp
        split at hv
        · rename_i hc
          cases hv
          obtain ⟨rfl, rfl, h1, h2, h3⟩ := hc
          obtain ⟨s, c, hvm, hcap, hne, hshp0⟩ := h.row_al hp
          obtain ⟨blk, o, rfl⟩ := hne (by omega)
          obtain ⟨s', n', cap, s2, cap2, e1, rfl, hl2, hoff, hbase, hshp⟩ := hx.hd_inv
          rw [hvm] at e1
          simp at e1
          obtain ⟨rfl, rfl, rfl⟩ := e1
          obtain ⟨blk', o', hb1, rfl⟩ := hbase (by omega)
          simp at hb1
          obtain ⟨rfl, rfl⟩ := hb1
          refine ⟨_, hrun blk _ _ _ h1 h2, fun ρ => .one (by simp) ?_⟩
          have := @RepO.ae w g ρ p inf.size (off + i.toNat) 0 blk o (by rw [hvm]; rfl)
          have he : o + ((off + i.toNat) * inf.size + 0) = o + off * inf.size + i.toNat * inf.size := by rw [Nat.add_mul]; omega
          rw [he] at this
          exact this
        · cases hv
      · cases hv
    · rename_i xs
      split at hv
      · rename_i h1
        split at hv
        · rename_i x hxj
          split at hv
          · rename_i hz
            cases hv
            have hlt := (List.getElem?_eq_some_iff.1 hxj).1
            have hrow := hx.sl_inv
            cases hrow with
            | slnil => simp at hxj
            | sl blk o z' cap ch hl hlt' hcap hzz hcc hr =>
              have hlen := (hr _ _ hxj).len
              rw [hzz _ hlt] at hlen
              obtain rfl : z' = inf.size := by omega
              refine ⟨_, hrun blk o _ _ h1 (by omega), fun ρ => .one (by simp) ?_⟩
              refine .im blk _ (ch i.toNat) (hl (by omega)) (hlt' (by omega)) (by rw [hzz _ hlt]; exact hz) (fun q c hq => hcc _ hlt q c hq) ?_
              have hrj := hr _ _ hxj
              match x, hrj, hz with
              | .ag cs, hrj, _ => exact hrj
              | .i k n, hrj, _ | .b _, hrj, _ | .s _, hrj, _ | .np, hrj, _ | .nl, hrj, _ | .fn _, hrj, _ | .lit _, hrj, _ | .sl _, hrj, _ | .un, hrj, _ =>
                obtain ⟨c, hc⟩ := hrj.width (by simp)
                rw [hc] at hrj ⊢
                refine .ag rfl (fun f x' c' hx' hc' => ?_)
                have hf : f = 0 := by cases f <;> simp [V.cs] at hx' ⊢
                subst hf
                simp [V.cs] at hx' hc'
                subst hx' hc'
                exact hrj
              | .ow _ _, hrj, _ | .bx _, hrj, _ | .al _, hrj, _ | .hd _ _ _ _, hrj, _ | .ad _ _, hrj, _ | .ae _ _ _ _, hrj, _ | .im _, hrj, _ | .tp _, hrj, _ => cases hrj
          · cases hv
        · cases hv
      · cases hv
    · cases hv
  · rename_i len z nb k i ht
    obtain ⟨el, inf, j, hu, hinf, rfl, hj, -⟩ := tinfo_arr ht
    obtain rfl := hi.i_inv
    have hrun : ∀ (blk o : Nat), 0 ≤ i → i < len → (Instr.indexAt t (.pointer (some ⟨blk, o, none⟩)) (.int k i)).run P w = .ok (.pointer (some ⟨blk, o + i.toNat * inf.size, none⟩)) w := by
      intro blk o h1 h2
      simp [Instr.indexAt, Instr.sureAddr, run_underlying hu, asIntOf, h1, h2, run_sizeOf' w hinf, add_addr]
    split at hv
    · rename_i hc
      split at hv
      · rename_i p off
        cases hv
        obtain ⟨blk, o, hb, rfl⟩ := hx.ad_inv
        refine ⟨_, hrun blk _ hc.1 hc.2, fun ρ => .one (by simp) ?_⟩
        have := @RepO.ad w g ρ p (off + i.toNat * inf.size) blk o hb
        rw [← Nat.add_assoc] at this
        exact this
      · rename_i p z j' gg
        cases hv
        obtain ⟨blk, o, hb, rfl⟩ := hx.ae_inv
        refine ⟨_, hrun blk _ hc.1 hc.2, fun ρ => .one (by simp) ?_⟩
        have := @RepO.ae w g ρ p z j' (gg + i.toNat * inf.size) blk o hb
        have he : o + (j' * z + (gg + i.toNat * inf.size)) = o + (j' * z + gg) + i.toNat * inf.size := by omega
        rw [he] at this
        exact this
      · rename_i cs
        cases hv
        obtain ⟨blk, o, vs, rfl, hl, hlt, hn, hcc, hr⟩ := hx.im_inv
        refine ⟨_, hrun blk _ hc.1 hc.2, fun ρ => .one (by simp) ?_⟩
        refine .im blk _ (vs.drop (i.toNat * inf.size)) hl hlt (by simp [hn]) (fun q c hq => ?_) (.ag (by simp [hn]) (fun q x c hx hcx => ?_))
        · rw [List.getElem?_drop] at hq
          have := hcc _ _ hq
          rwa [← Nat.add_assoc] at this
        · rw [List.getElem?_drop] at hx hcx
          have := hr.ag_inv.2 _ _ _ hx hcx
          exact this
      · cases hv
    · cases hv
  · cases hv

theorem fld_ok {x v : V} {cx : Value} {ρ1 : Path} {t f : Nat} (hx : RepS w g ρ1 x cx) (hv : fldAd P t x f = some v) :
    ∃ u, (Instr.fieldAt t cx f).run P w = .ok u w ∧ ∀ ρ, RepS w g ρ v u := by
  unfold fldAd at hv
  split at hv
  · rename_i fs n ht
    obtain ⟨fields, j, hu, hj, hn, rfl, hall⟩ := tinfo_struct ht
    split at hv
    · rename_i o s hf
      simp only [List.getElem?_map, Option.map_eq_some_iff, Prod.mk.injEq] at hf
      obtain ⟨fld, hfld, rfl, rfl⟩ := hf
      have hfld' : fields[f]? = some fld := by simpa using hfld
      have hmem : fld ∈ fields := by
        have := List.mem_of_getElem? hfld
        simpa using this
      obtain ⟨inf, hinf⟩ := Option.isSome_iff_exists.1 (hall fld hmem)
      split at hv
      · cases hv
      · rename_i hs
        have hsz : inf.size ≠ 0 := by simpa [Program.cellsOf, hinf] using hs
        have hrun : ∀ (blk o : Nat), (Instr.fieldAt t (.pointer (some ⟨blk, o, none⟩)) f).run P w = .ok (.pointer (some ⟨blk, o + fld.offset, none⟩)) w := by
          intro blk o
          simp [Instr.fieldAt, run_underlying hu, hfld', Instr.sureAddr, fieldPlace, run_sizeOf' w hinf, hsz, add_addr]
        split at hv
        · cases hv
          obtain ⟨blk, o, hb, rfl⟩ := hx.ad_inv
          refine ⟨_, hrun blk _, fun ρ => .one (by simp) ?_⟩
          have := @RepO.ad w g ρ _ (by assumption) blk o hb
          rename_i p off
          have := @RepO.ad w g ρ p (off + fld.offset) blk o hb
          rw [← Nat.add_assoc] at this
          exact this
        · rename_i p z j' gg
          cases hv
          obtain ⟨blk, o, hb, rfl⟩ := hx.ae_inv
          refine ⟨_, hrun blk _, fun ρ => .one (by simp) ?_⟩
          have := @RepO.ae w g ρ p z j' (gg + fld.offset) blk o hb
          have he : o + (j' * z + (gg + fld.offset)) = o + (j' * z + gg) + fld.offset := by omega
          rw [he] at this
          exact this
        · rename_i cs
          cases hv
          obtain ⟨blk, o, vs, rfl, hl, hlt, hn, hc, hr⟩ := hx.im_inv
          refine ⟨_, hrun blk _, fun ρ => .one (by simp) ?_⟩
          refine .im blk _ (vs.drop fld.offset) hl hlt (by simp [hn]) (fun q c hq => ?_) (.ag (by simp [hn]) (fun q x c hx hc => ?_))
          · rw [List.getElem?_drop] at hq
            have := hc _ _ hq
            rwa [← Nat.add_assoc] at this
          · rw [List.getElem?_drop] at hx hc
            have := hr.ag_inv.2 _ _ _ hx hc
            exact this
        · cases hv
    · cases hv
  · cases hv

/-- What a slice shows is as long as the slice. -/
theorem row_len (h : Holds w0 g0 e a w g) {x : V} {cx : Value} {ρ1 : Path} {xs : List V} (hx : RepS w g ρ1 x cx) (hr : e.row x = some xs) : ∃ s c, cx = .slice s xs.length c := by
  unfold Env.row at hr
  split at hr
  · rename_i p
    split at hr
    · rename_i z ys hp
      cases hr
      obtain ⟨s, c, hvm, _⟩ := h.row_al hp
      exact ⟨s, c, by rw [hx.al_inv, hvm]⟩
    · cases hr
  · rename_i p z off len
    split at hr
    · rename_i z' ys hp
      split at hr
      · cases hr
        obtain ⟨s, c, hvm, _⟩ := h.row_al hp
        obtain ⟨s', n', cap, s2, cap2, e1, rfl, hl2, hoff, hbase, hshp⟩ := hx.hd_inv
        rw [hvm] at e1
        simp at e1
        obtain ⟨rfl, rfl, rfl⟩ := e1
        exact ⟨s2, cap2, by simp; omega⟩
      · cases hr
    · cases hr
  · cases hr
    have := hx.sl_inv
    cases this with
    | slnil => exact ⟨_, 0, rfl⟩
    | sl blk o z cap ch => exact ⟨_, cap, rfl⟩
  · cases hr
    exact ⟨none, 0, hx.nl_inv⟩
  · cases hr

theorem binI_ok {op : BinOp} {k : IntKind} {x y : Int} {t : Nat} {v : V} (hv : binI op k x y = some v) :
    ∃ u, (binOp op t (.int k x) (.int k y)).run P w = .ok u w ∧ ∀ ρ, RepS w g ρ v u := by
  have hi : ∀ m ρ, RepS w g ρ (.i k m) (.int k m) := fun m ρ => RepS.i_mk w g ρ k m
  have hb : ∀ b ρ, RepS w g ρ (.b b) (.bool b) := fun b ρ => RepS.b_mk w g ρ b
  unfold binI at hv
  split at hv <;> first
    | (cases hv; done)
    | (cases hv; refine ⟨.int k _, ?_, hi _⟩; simp [binOp, Op.intArith]; done)
    | (cases hv; refine ⟨.int k _, ?_, hi _⟩; simp [binOp, Op.intBits]; done)
    | (cases hv; refine ⟨.bool _, ?_, hb _⟩; simp [binOp, Op.intCmp]; done)
    | (split at hv
       · cases hv
       · rename_i hy; cases hv; refine ⟨.int k _, ?_, hi _⟩; simp [binOp, Op.intDiv, hy])

end
end Go.Vx

namespace Go.Vx
open Go Go.RowKit

theorem extract_mk (l : List UInt8) (a b : Nat) : (⟨l.toArray⟩ : ByteArray).extract a b = ⟨((l.drop a).take (b - a)).toArray⟩ := by
  apply ByteArray.ext
  rw [ByteArray.data_extract]
  simp [List.extract]

theorem append_mk (l m : List UInt8) : (⟨l.toArray⟩ : ByteArray) ++ ⟨m.toArray⟩ = ⟨(l ++ m).toArray⟩ := by
  apply ByteArray.ext
  simp

section
variable {P : Program} {w0 : World} {g0 : Gh} {n : Nat} {e : Env} {a : Act} {w : World} {g : Gh}

theorem binV_ok {op : BinOp} {x y v : V} {cx cy : Value} {ρ1 ρ2 : Path} {t : Nat} (hx : RepS w g ρ1 x cx) (hy : RepS w g ρ2 y cy) (hv : binV op x y = some v) :
    ∃ u, (binOp op t cx cy).run P w = .ok u w ∧ ∀ ρ, RepS w g ρ v u := by
  have hb : ∀ b ρ, RepS w g ρ (.b b) (.bool b) := fun b ρ => RepS.b_mk w g ρ b
  unfold binV at hv
  split at hv
  · rename_i k a k' b
    obtain rfl := hx.i_inv
    obtain rfl := hy.i_inv
    split at hv
    · split at hv
      · cases hv
      · rename_i hn; cases hv; exact ⟨_, by simp only [binOp, Op.shift, hn, if_false]; rfl, fun ρ => RepS.i_mk w g ρ _ _⟩
    · split at hv
      · cases hv
      · rename_i hn; cases hv; exact ⟨_, by simp only [binOp, Op.shift, hn, if_false]; rfl, fun ρ => RepS.i_mk w g ρ _ _⟩
    · split at hv
      · rename_i hk; subst hk; exact binI_ok hv
      · cases hv
  · rename_i a b
    obtain rfl := hx.s_inv
    obtain rfl := hy.s_inv
    have hsz : ∀ l : List UInt8, (⟨l.toArray⟩ : ByteArray).size = l.length := fun l => by simp [ByteArray.size]
    split at hv
    · split at hv
      · rename_i hl
        cases hv
        refine ⟨.string ⟨(a ++ b).toArray⟩, ?_, fun ρ => RepS.s_mk w g ρ _⟩
        have : ¬ (((⟨a.toArray⟩ : ByteArray).size + (⟨b.toArray⟩ : ByteArray).size : Nat) : Int) > IntKind.i64.max := by
          rw [hsz, hsz]; simp only [IntKind.max]; simp [IntKind.bits, IntKind.signed]; omega
        simp only [binOp, Op.stringOp, if_neg this, append_mk]
        rfl
      · cases hv
    · cases hv; refine ⟨.bool _, ?_, hb _⟩; simp [binOp, Op.stringOp]
    · cases hv; refine ⟨.bool _, ?_, hb _⟩; simp [binOp, Op.stringOp]
    · cases hv
  · cases hv

theorem eqB_ok {op : BinOp} {x y v : V} {cx cy : Value} {ρ1 ρ2 : Path} {t : Nat} (ht : P.underlying t = some .bool) (hx : RepS w g ρ1 x cx) (hy : RepS w g ρ2 y cy) (hv : eqB op x y = some v) :
    ∃ u, (binOp op t cx cy).run P w = .ok u w ∧ ∀ ρ, RepS w g ρ v u := by
  unfold eqB at hv
  split at hv
  · cases hv
    obtain rfl := hx.b_inv
    obtain rfl := hy.b_inv
    exact ⟨.bool _, run_eql_bool w t _ _ ht, fun ρ => RepS.b_mk w g ρ _⟩
  · cases hv
    obtain rfl := hx.b_inv
    obtain rfl := hy.b_inv
    exact ⟨.bool _, run_neq_bool w t _ _ ht, fun ρ => RepS.b_mk w g ρ _⟩
  · cases hv

theorem eq1_ok {t : Nat} {x y : V} {cx cy : Value} {ρ1 ρ2 : Path} {b : Bool} (hx : RepO w g ρ1 x [cx]) (hy : RepO w g ρ2 y [cy]) (hv : eq1 P t (some x) (some y) = some b) (d : Nat) :
    (isAgg t).run P w = .ok false w ∧ (Op.equalIn (d + 1) t cx cy).run P w = .ok b w := by
  unfold eq1 at hv
  split at hv
  · rename_i a a' hu h1 h2
    cases h1; cases h2; cases hv
    have e1 := (RepS.one (by simp) hx).b_inv
    have e2 := (RepS.one (by simp) hy).b_inv
    subst e1 e2
    exact ⟨by simp [isAgg, run_underlying hu], run_equalIn_bool' w d t _ _ hu⟩
  · rename_i k0 k a k' a' hu h1 h2
    cases h1; cases h2
    split at hv
    · rename_i hk
      subst hk
      cases hv
      have e1 := (RepS.one (by simp) hx).i_inv
      have e2 := (RepS.one (by simp) hy).i_inv
      subst e1 e2
      exact ⟨by simp [isAgg, run_underlying hu], run_equalIn_int w d t _ _ _ _ hu⟩
    · cases hv
  · rename_i a a' hu h1 h2
    cases h1; cases h2; cases hv
    have e1 := (RepS.one (by simp) hx).s_inv
    have e2 := (RepS.one (by simp) hy).s_inv
    subst e1 e2
    refine ⟨by simp [isAgg, run_underlying hu], ?_⟩
    rw [run_equalIn_string w d t _ _ hu, ByteArray.toList_eq, ByteArray.toList_eq]
  · cases hv

theorem eqF_ok {xs ys : List V} {ax ay : Array Value} {ρ1 ρ2 : Path} (hx : RepO w g ρ1 (.ag xs) ax.toList) (hy : RepO w g ρ2 (.ag ys) ay.toList) (d : Nat) :
    ∀ (fs : List Field) (b : Bool), eqF P fs xs ys = some b → (Op.eqFields (d + 1) ax ay fs).run P w = .ok b w
  | [], b, hv => by simp only [eqF] at hv; cases hv; rfl
  | f :: r, b, hv => by
    simp only [eqF] at hv
    split at hv
    · cases hv
    · rename_i hn
      split at hv
      · rename_i b1 b2 h1 h2
        cases hv
        have h1' := h1
        unfold eq1 at h1'
        obtain ⟨x, hxf⟩ : ∃ x, xs[f.offset]? = some x := by
          cases hq : xs[f.offset]? with
          | some x => exact ⟨x, rfl⟩
          | none => rw [hq] at h1'; split at h1' <;> simp_all
        obtain ⟨y, hyf⟩ : ∃ y, ys[f.offset]? = some y := by
          cases hq : ys[f.offset]? with
          | some y => exact ⟨y, rfl⟩
          | none => rw [hq] at h1'; split at h1' <;> simp_all
        obtain ⟨lx, kx⟩ := hx.ag_inv
        obtain ⟨ly, ky⟩ := hy.ag_inv
        have ix : f.offset < ax.size := by have := (List.getElem?_eq_some_iff.1 hxf).1; simpa [lx] using this
        have iy : f.offset < ay.size := by have := (List.getElem?_eq_some_iff.1 hyf).1; simpa [ly] using this
        have gx : ax[f.offset]? = some ax[f.offset] := Array.getElem?_eq_getElem ix
        have gy : ay[f.offset]? = some ay[f.offset] := Array.getElem?_eq_getElem iy
        rw [hxf, hyf] at h1
        obtain ⟨ha, he⟩ := eq1_ok (kx _ _ _ hxf (by rw [Array.getElem?_toList]; exact gx)) (ky _ _ _ hyf (by rw [Array.getElem?_toList]; exact gy)) h1 d
        simp only [Op.eqFields, hn, ne_eq, not_false_eq_true, if_true, Sem.run_bind, part, ha, Result.andThen_ok, Bool.false_eq_true, if_false, gx, gy, Sem.run_pure, he, Sem.run_ite]
        have ih := eqF_ok hx hy d r b2 h2
        cases b1
        · simp
        · simp [ih]
      · cases hv

theorem eqS_ok {op : BinOp} {x y v : V} {cx cy : Value} {ρ1 ρ2 : Path} {t : Nat} {fs : Array Field} {ox oy : Operand} (hu : P.underlying t = some (.struct fs)) (hx : RepS w g ρ1 x cx) (hy : RepS w g ρ2 y cy) (hv : eqS P op t x y = some v) :
    (eqGuard op t ox oy cx cy).run P w = .ok () w ∧ ∃ u, (binOp op t cx cy).run P w = .ok u w ∧ ∀ ρ, RepS w g ρ v u := by
  unfold eqS at hv
  split at hv
  · split at hv
    · rename_i hst
      split at hv
      · rename_i b hb
        obtain ⟨ax, rfl, rx⟩ := hx.ag_inv
        obtain ⟨ay, rfl, ry⟩ := hy.ag_inv
        have hf : P.underlying t = some (.struct (P.fieldsOf t)) := by unfold Program.fieldsOf; rw [hu]
        have hrun : (Op.equalIn 10000 t (.agg ax) (.agg ay)).run P w = .ok b w := by
          rw [show (10000 : Nat) = 9999 + 1 from rfl, run_equalIn_agg w 9999 t _ _ hf hst.1]
          exact eqF_ok rx ry 9998 _ b hb
        refine ⟨run_eqGuard_agg w op t ox oy ax ay hst.2, ?_⟩
        split at hv
        · cases hv; exact ⟨.bool b, by rw [run_eql_struct, hrun]; rfl, fun ρ => RepS.b_mk w g ρ _⟩
        · cases hv; exact ⟨.bool (!b), by rw [run_neq_struct, hrun]; rfl, fun ρ => RepS.b_mk w g ρ _⟩
        · cases hv
      · cases hv
    · cases hv
  · cases hv

theorem guard_ok {op : BinOp} {x y : V} {cx cy : Value} {ρ1 ρ2 : Path} {t : Nat} {ox oy : Operand} (hx : RepS w g ρ1 x cx) (hy : RepS w g ρ2 y cy)
    (hv : (∃ v, binV op x y = some v) ∨ ∃ v, eqB op x y = some v) : (eqGuard op t ox oy cx cy).run P w = .ok () w := by
  have key : (∀ cs, cx ≠ .agg cs) ∧ cx ≠ .nilIface := by
    rcases hv with ⟨v, hv⟩ | ⟨v, hv⟩
    · unfold binV at hv
      split at hv
      · rw [hx.i_inv]; simp
      · rw [hx.s_inv]; simp
      · cases hv
    · unfold eqB at hv
      split at hv
      · rw [hx.b_inv]; simp
      · rw [hx.b_inv]; simp
      · cases hv
  obtain ⟨h1, h2⟩ := key
  cases op <;> first
    | rfl
    | (cases cx <;> first | rfl | exact (h1 _ rfl).elim | exact (h2 rfl).elim)

theorem unV_ok {op : UnOp} {x v : V} {cx : Value} {ρ1 : Path} (hx : RepS w g ρ1 x cx) (hv : unV op x = some v) :
    ∃ u, (Op.unary op cx).run P w = .ok u w ∧ ∀ ρ, RepS w g ρ v u := by
  unfold unV at hv
  split at hv
  · cases hv; obtain rfl := hx.b_inv; exact ⟨_, rfl, fun ρ => RepS.b_mk w g ρ _⟩
  · cases hv; obtain rfl := hx.i_inv; exact ⟨_, rfl, fun ρ => RepS.i_mk w g ρ _ _⟩
  · cases hv

/-- The bounds of a part. -/
theorem bounds_ok {lo hi : Option V} {clo chi : Option Value} {len cap l h : Nat} {isS : Bool}
    (hlo : ∀ v, lo = some v → ∃ c, clo = some c ∧ ∃ ρ, RepS w g ρ v c) (hlo' : lo = none → clo = none)
    (hhi : ∀ v, hi = some v → ∃ c, chi = some c ∧ ∃ ρ, RepS w g ρ v c) (hhi' : hi = none → chi = none) (hcap : len ≤ cap)
    (hb : boundsOf len lo hi = some (l, h)) : (Instr.sliceBounds isS len cap clo chi none).run P w = .ok (l, h, cap) w ∧ l ≤ h ∧ h ≤ len := by
  unfold boundsOf at hb
  split at hb
  · cases hb
    rw [hlo' rfl, hhi' rfl]
    exact ⟨rfl, Nat.zero_le _, Nat.le_refl _⟩
  · split at hb
    · rename_i k a hc
      cases hb
      obtain ⟨c, rfl, ρ, hr⟩ := hlo _ rfl
      rw [hhi' rfl]
      obtain rfl := hr.i_inv
      refine ⟨?_, by omega, Nat.le_refl _⟩
      simp [Instr.sliceBounds, Instr.sliceBound, asIntOf, hc]
    · cases hb
  · split at hb
    · rename_i k b hc
      cases hb
      obtain ⟨c, rfl, ρ, hr⟩ := hhi _ rfl
      rw [hlo' rfl]
      obtain rfl := hr.i_inv
      have : b ≤ (cap : Int) := by omega
      refine ⟨?_, by omega, by omega⟩
      simp [Instr.sliceBounds, Instr.sliceBound, asIntOf, hc, this]
    · cases hb
  · split at hb
    · rename_i k1 a k2 b hc
      cases hb
      obtain ⟨c1, rfl, ρ1, hr1⟩ := hlo _ rfl
      obtain ⟨c2, rfl, ρ2, hr2⟩ := hhi _ rfl
      obtain rfl := hr1.i_inv
      obtain rfl := hr2.i_inv
      have h1 : b ≤ (cap : Int) := by omega
      have h2 : 0 ≤ b := by omega
      have h3 : a ≤ (b.toNat : Int) := by omega
      refine ⟨?_, by omega, by omega⟩
      simp [Instr.sliceBounds, Instr.sliceBound, asIntOf, hc, h1, h2, h3]
      omega
    · cases hb
  · cases hb

end
end Go.Vx

namespace Go.Vx
open Go Go.RowKit

section
variable {P : Program} {w0 : World} {g0 : Gh} {n : Nat} {e : Env} {a : Act} {w : World} {g : Gh}

/-- A row's elements, as they lie. -/
theorem row_read (h : Holds w0 g0 e a w g) {x : V} {cx : Value} {ρ1 : Path} {xs : List V} (hx : RepS w g ρ1 x cx) (hr : e.row x = some xs) :
    ∃ s c, cx = .slice s xs.length c ∧ (xs = [] ∨ ∃ (blk o z : Nat) (ch : Nat → List Value), s = some ⟨blk, o, none⟩ ∧
      ∀ (j : Nat) (x : V), xs[j]? = some x → (ch j).length = z ∧ (∀ (q : Nat) (u : Value), (ch j)[q]? = some u → w.cell? ⟨blk, o + j * z + q, none⟩ = some u) ∧ ∃ o', RepC w g o' x (ch j)) := by
  have owcase : ∀ {p : Path} {z : Nat} {ys : List V}, e.at p = some (.ow z ys) → ∃ s c, g.vm p = .slice s ys.length c ∧ ys.length ≤ c ∧ (ys = [] ∨ ∃ (blk o : Nat) (ch : Nat → List Value), s = some ⟨blk, o, none⟩ ∧
      ∀ (j : Nat) (x : V), ys[j]? = some x → (ch j).length = z ∧ (∀ (q : Nat) (u : Value), (ch j)[q]? = some u → w.cell? ⟨blk, o + j * z + q, none⟩ = some u) ∧ ∃ o', RepC w g o' x (ch j)) := by
    intro p z ys hp
    obtain ⟨c0, hrow, hvm⟩ := h.at_ow hp
    rcases hrow.ow_inv with ⟨rfl, rfl, hv⟩ | ⟨blk, o, cap, cur, ty, ch, hc0, hl, hv, hb, hcap, hmax, hroom, hzz, hcc, hrr⟩
    · exact ⟨none, 0, by rw [hv]; rfl, by simp, .inl rfl⟩
    · refine ⟨_, cap, by rw [hv, hc0], hcap, .inr ⟨blk, o, ch, rfl, fun j x hj => ?_⟩⟩
      have hjl := (List.getElem?_eq_some_iff.1 hj).1
      exact ⟨hzz j hjl, fun q u hq => by rw [hb.cell]; exact hcc j hjl q u hq, _, hrr j x hj⟩
  unfold Env.row at hr
  split at hr
  · rename_i p
    split at hr
    · rename_i z ys hp
      cases hr
      obtain ⟨s, c, hvm, _, hys⟩ := owcase hp
      refine ⟨s, c, by rw [hx.al_inv, hvm], ?_⟩
      rcases hys with h1 | ⟨blk, o, ch, h1, h2⟩
      · exact .inl h1
      · exact .inr ⟨blk, o, z, ch, h1, h2⟩
    · cases hr
  · rename_i p z off len
    split at hr
    · rename_i z' ys hp
      split at hr
      · rename_i hz
        subst hz
        cases hr
        obtain ⟨s, c, hvm, hcap, hys⟩ := owcase hp
        obtain ⟨s', n', cap, s2, cap2, e1, rfl, hl2, hoff, hbase, hshp⟩ := hx.hd_inv
        rw [hvm] at e1
        simp at e1
        obtain ⟨rfl, rfl, rfl⟩ := e1
        refine ⟨s2, cap2, by simp; omega, ?_⟩
        by_cases hlen : len = 0
        · left; subst hlen; simp
        · right
          obtain ⟨blk', o', rfl, rfl⟩ := hbase (by omega)
          rcases hys with rfl | ⟨blk, o, ch, h1, h2⟩
          · simp at hoff; omega
          · simp at h1
            obtain ⟨rfl, rfl⟩ := h1
            refine ⟨_, _, z', fun j => ch (off + j), rfl, fun j x hj => ?_⟩
            obtain ⟨hj1, hj2⟩ := slice_get hj
            obtain ⟨h3, h4, h5⟩ := h2 _ _ hj1
            refine ⟨h3, fun q u hq => ?_, h5⟩
            have := h4 q u hq
            have he : o' + off * z' + j * z' + q = o' + (off + j) * z' + q := by rw [Nat.add_mul]; omega
            rw [he]
            exact this
      · cases hr
    · cases hr
  · rename_i ys
    cases hr
    have := hx.sl_inv
    cases this with
    | slnil => exact ⟨_, 0, rfl, .inl rfl⟩
    | sl blk o z cap ch hl hlt hcap hzz hcc hrr =>
      refine ⟨_, cap, rfl, .inr ⟨blk, o, z, ch, rfl, fun j x hj => ?_⟩⟩
      have hjl := (List.getElem?_eq_some_iff.1 hj).1
      exact ⟨hzz j hjl, hcc j hjl, _, hrr j x hj⟩
  · cases hr
    exact ⟨none, 0, hx.nl_inv, .inl rfl⟩
  · cases hr

theorem shp_add {s : Option Addr} {c a k : Nat} (h : Shp s c) (hac : a ≤ c) : Shp (if c = a then s else s.map (·.add k)) (c - a) := by
  rcases h with ⟨rfl, rfl⟩ | ⟨blk, o, rfl⟩
  · left; exact ⟨by simp, by simp⟩
  · right
    split
    · exact ⟨blk, o, rfl⟩
    · exact ⟨blk, o + k, by simp [add_addr]⟩

theorem slice_ok (h : Holds w0 g0 e a w g) {x v : V} {cx : Value} {ρ1 : Path} {t : Nat} {lo hi : Option V} {clo chi : Option Value} (hx : RepS w g ρ1 x cx)
    (hlo : ∀ v, lo = some v → ∃ c, clo = some c ∧ ∃ ρ, RepS w g ρ v c) (hlo' : lo = none → clo = none)
    (hhi : ∀ v, hi = some v → ∃ c, chi = some c ∧ ∃ ρ, RepS w g ρ v c) (hhi' : hi = none → chi = none)
    (hv : sliceV P e t x lo hi = some v) : ∃ u, (Instr.sliceAt t cx clo chi none).run P w = .ok u w ∧ ∀ ρ, RepS w g ρ v u := by
  unfold sliceV at hv
  split at hv
  · rename_i l ht
    have hu := tinfo_str ht
    obtain rfl := hx.s_inv
    simp only [Option.map_eq_some_iff] at hv
    obtain ⟨⟨a, b⟩, hb, rfl⟩ := hv
    have hsz : (⟨l.toArray⟩ : ByteArray).size = l.length := by simp [ByteArray.size]
    obtain ⟨hrun, h1, h2⟩ := bounds_ok (P := P) (w := w) (g := g) (cap := l.length) (isS := false) hlo hlo' hhi hhi' (Nat.le_refl _) hb
    refine ⟨.string ⟨((l.drop a).take (b - a)).toArray⟩, ?_, fun ρ => RepS.s_mk w g ρ _⟩
    rw [← extract_mk]
    simp only [Instr.sliceAt, Sem.run_bind, run_underlying hu, Result.andThen_ok, Instr.slice, Option.isSome_none, Bool.false_eq_true, if_false, hsz, hrun, Sem.run_pure]
  · rename_i el z nb p ht
    obtain ⟨hu, inf, hinf, rfl, -⟩ := tinfo_slice ht
    split at hv
    · rename_i z' xs hp
      split at hv
      · rename_i hz
        subst hz
        simp only [Option.map_eq_some_iff] at hv
        obtain ⟨⟨a, b⟩, hb, rfl⟩ := hv
        obtain ⟨s, c, hvm, hcap, hne, hshp0⟩ := h.row_al hp
        obtain rfl := hx.al_inv
        obtain ⟨hrun, h1, h2⟩ := bounds_ok (P := P) (w := w) (g := g) (cap := c) (isS := true) hlo hlo' hhi hhi' hcap hb
        rw [hvm]
        refine ⟨.slice (if c = a then s else s.map (·.add (a * inf.size))) (b - a) (c - a), ?_, fun ρ => .one (by simp) (.hd ?_)⟩
        · simp only [Instr.sliceAt, Sem.run_bind, run_underlying hu, Result.andThen_ok, Instr.slice, hrun, run_sizeOf' w hinf, Sem.run_pure]
        · rw [hvm]
          refine ⟨s, _, c, _, _, rfl, rfl, by omega, by omega, fun hlt => ?_, shp_add hshp0 (by omega)⟩
          obtain ⟨blk, o, rfl⟩ := hne (by omega)
          refine ⟨blk, o, rfl, ?_⟩
          rw [if_neg (by omega)]
          simp [add_addr]
      · cases hv
    · cases hv
  · rename_i el z nb p z' off len ht
    obtain ⟨hu, inf, hinf, rfl, -⟩ := tinfo_slice ht
    split at hv
    · rename_i hz
      subst hz
      simp only [Option.map_eq_some_iff] at hv
      obtain ⟨⟨a, b⟩, hb, rfl⟩ := hv
      obtain ⟨s', n', cap, s2, cap2, e1, rfl, hl2, hoff, hbase, hshp⟩ := hx.hd_inv
      obtain ⟨hrun, h1, h2⟩ := bounds_ok (P := P) (w := w) (g := g) (cap := cap2) (isS := true) hlo hlo' hhi hhi' hl2 hb
      refine ⟨.slice (if cap2 = a then s2 else s2.map (·.add (a * inf.size))) (b - a) (cap2 - a), ?_, fun ρ => .one (by simp) (.hd ?_)⟩
      · simp only [Instr.sliceAt, Sem.run_bind, run_underlying hu, Result.andThen_ok, Instr.slice, hrun, run_sizeOf' w hinf, Sem.run_pure]
      · refine ⟨s', n', cap, _, _, e1, rfl, by omega, by omega, fun hlt => ?_, shp_add hshp (by omega)⟩
        obtain ⟨blk, o, rfl, rfl⟩ := hbase (by omega)
        refine ⟨blk, o, rfl, ?_⟩
        rw [if_neg (by omega)]
        simp only [Option.map_some, add_addr]
        congr 2
        rw [Nat.add_mul]; omega
    · cases hv
  · rename_i el z nb xs ht
    obtain ⟨hu, inf, hinf, rfl, -⟩ := tinfo_slice ht
    split at hv
    · rename_i hall
      simp only [Option.map_eq_some_iff] at hv
      obtain ⟨⟨a, b⟩, hb, rfl⟩ := hv
      have hrow := hx.sl_inv
      have hlen : ((xs.drop a).take (b - a)).length = min (b - a) (xs.length - a) := by simp
      cases hrow with
      | @slnil _ s0 =>
        obtain ⟨hrun, h1, h2⟩ := bounds_ok (P := P) (w := w) (g := g) (cap := 0) (isS := true) hlo hlo' hhi hhi' (by simp) hb
        refine ⟨.slice s0 0 0, ?_, fun ρ => .one (by simp) (.c (by simpa using .slnil))⟩
        simp only [List.length_nil, Nat.le_zero] at h2
        subst h2
        simp only [Nat.le_zero] at h1
        subst h1
        simp only [List.length_nil] at hrun
        simp [Instr.sliceAt, run_underlying hu, Instr.slice, hrun, run_sizeOf' w hinf]
      | sl blk o z' cap ch hl hlt hcap hzz hcc hrr =>
        obtain ⟨hrun, h1, h2⟩ := bounds_ok (P := P) (w := w) (g := g) (cap := cap) (isS := true) hlo hlo' hhi hhi' hcap hb
        have hl2 : ((xs.drop a).take (b - a)).length = b - a := by simp; omega
        refine ⟨.slice (if cap = a then some ⟨blk, o, none⟩ else some ⟨blk, o + a * inf.size, none⟩) (b - a) (cap - a), ?_, fun ρ => .one (by simp) (.c ?_)⟩
        · simp only [Instr.sliceAt, Sem.run_bind, run_underlying hu, Result.andThen_ok, Instr.slice, hrun, run_sizeOf' w hinf, Sem.run_pure, Option.map_some, add_addr]
        · by_cases hab : a = b
          · subst hab
            have hnil : (xs.drop a).take (a - a) = [] := by simp
            rw [hnil, Nat.sub_self]
            split
            · exact .sl blk o 0 _ (fun _ => []) (by simp) (by simp) (by simp) (by simp) (by simp) (by simp)
            · exact .sl blk _ 0 _ (fun _ => []) (by simp) (by simp) (by simp) (by simp) (by simp) (by simp)
          · have hw : z' = inf.size := by
              have hx0 : a < xs.length := by omega
              have hxa : xs[a]? = some xs[a] := List.getElem?_eq_getElem hx0
              have h3 := (hrr a _ hxa).len
              rw [hzz a hx0] at h3
              have := List.all_eq_true.1 hall xs[a] (List.getElem_mem hx0)
              simp at this
              omega
            subst hw
            rw [if_neg (by omega)]
            have key : RepC w g (some ρ) (.sl ((xs.drop a).take (b - a))) [.slice (some ⟨blk, o + a * inf.size, none⟩) ((xs.drop a).take (b - a)).length (cap - a)] := by
              refine .sl blk _ inf.size _ (fun j => ch (a + j)) (fun _ => hl (by omega)) (fun _ => hlt (by omega)) (by omega) (fun j hj => hzz _ (by omega)) (fun j hj q u hq => ?_) (fun j x hj => ?_)
              · have := hcc (a + j) (by omega) q u hq
                have he : o + a * inf.size + j * inf.size + q = o + (a + j) * inf.size + q := by rw [Nat.add_mul]; omega
                rw [he]; exact this
              · exact hrr _ _ (slice_get hj).1
            rw [hl2] at key
            exact key
    · cases hv
  · rename_i el z nb ht
    obtain ⟨hu, inf, hinf, rfl, -⟩ := tinfo_slice ht
    simp only [Option.map_eq_some_iff] at hv
    obtain ⟨⟨a, b⟩, hb, rfl⟩ := hv
    obtain rfl := hx.nl_inv
    obtain ⟨hrun, h1, h2⟩ := bounds_ok (P := P) (w := w) (g := g) (cap := 0) (isS := true) hlo hlo' hhi hhi' (Nat.le_refl _) hb
    refine ⟨.slice none 0 0, ?_, fun ρ => .one (by simp) (.c .nl)⟩
    simp only [Nat.le_zero] at h2
    subst h2
    simp only [Nat.le_zero] at h1
    subst h1
    simp [Instr.sliceAt, run_underlying hu, Instr.slice, hrun, run_sizeOf' w hinf]
  · cases hv

end
end Go.Vx

namespace Go.Vx
open Go Go.RowKit

theorem allB_inv : ∀ {xs : List V} {l : List UInt8}, allB xs = some l → ∃ ns : List Int, xs = ns.map (V.i .u8) ∧ l = ns.map fun m => UInt8.ofNat m.toNat
  | [], l, h => by simp [allB] at h; exact ⟨[], rfl, by simpa using h.symm⟩
  | x :: r, l, h => by
    simp only [allB] at h
    split at h
    · rename_i b l' hb hl
      cases h
      obtain ⟨ns, rfl, rfl⟩ := allB_inv hl
      unfold toB at hb
      split at hb
      · rename_i m
        cases hb
        exact ⟨m :: ns, rfl, rfl⟩
      · cases hb
    · cases h

theorem foldl_push (ns : List Int) : ∀ l : List UInt8, ns.foldl (fun r m => r.push (UInt8.ofNat m.toNat)) (⟨l.toArray⟩ : ByteArray) = ⟨(l ++ ns.map fun m => UInt8.ofNat m.toNat).toArray⟩ := by
  induction ns with
  | nil => intro l; simp
  | cons m ns ih =>
    intro l
    simp only [List.foldl_cons, List.map_cons]
    have : (⟨l.toArray⟩ : ByteArray).push (UInt8.ofNat m.toNat) = ⟨(l ++ [UInt8.ofNat m.toNat]).toArray⟩ := by
      apply ByteArray.ext
      simp [ByteArray.push]
    rw [this, ih]
    simp

section
variable {P : Program} {w0 : World} {g0 : Gh} {n : Nat} {e : Env} {a : Act} {w : World} {g : Gh}

theorem bytes_ok (h : Holds w0 g0 e a w g) {x : V} {cx : Value} {ρ1 : Path} {xs : List V} {l : List UInt8} (hx : RepS w g ρ1 x cx) (hr : e.row x = some xs) (hl : allB xs = some l) :
    (Conv.bytesToString cx).run P w = .ok (.string ⟨l.toArray⟩) w := by
  obtain ⟨ns, rfl, rfl⟩ := allB_inv hl
  obtain ⟨s, c, rfl, hxs⟩ := row_read h hx hr
  cases s with
  | none =>
    rcases hxs with h0 | ⟨blk, o, z, ch, h1, _⟩
    · obtain rfl : ns = [] := by simpa using h0
      simp [Conv.bytesToString]
      rfl
    · cases h1
  | some ad =>
    have hload : (loadCells ad (ns.map (V.i .u8)).length).run P w = .ok (ns.map (Value.int .u8)).toArray w := by
      rcases hxs with h0 | ⟨blk, o, z, ch, h1, h2⟩
      · obtain rfl : ns = [] := by simpa using h0
        simp [loadCells, loadCellsFrom]
      · cases h1
        have := run_loadCells_at (P := P) (w := w) (blk := blk) (o := o) (vs := ns.map (Value.int .u8)) (fun q u hq => by
          simp only [List.getElem?_map, Option.map_eq_some_iff] at hq
          obtain ⟨m, hm, rfl⟩ := hq
          obtain ⟨h3, h4, o', h5⟩ := h2 q (.i .u8 m) (by simp [hm])
          have h6 := h5.cells_i
          rw [h6] at h3 h4
          simp at h3
          subst h3
          have := h4 0 _ rfl
          simpa using this)
        simpa using this
    rw [run_bytesToString w ad _ c ns hload]
    have := foldl_push ns []
    simp only [List.nil_append] at this
    exact congrArg (fun s => Result.ok (Value.string s) w) this

/-- A value that owns nothing: it says the same wherever it stands. -/
def V.loose : V → Bool
  | .ow _ _ | .bx _ => false
  | .ag cs => go cs
  | .tp cs => go cs
  | _ => true
where go : List V → Bool
  | [] => true
  | c :: r => c.loose && go r

theorem V.loose_go {cs : List V} {f : Nat} {x : V} (h : V.loose.go cs = true) (hx : cs[f]? = some x) : x.loose = true := by
  induction cs generalizing f with
  | nil => simp at hx
  | cons c r ih =>
    simp only [V.loose.go, Bool.and_eq_true] at h
    cases f with
    | zero => simp at hx; subst hx; exact h.1
    | succ f => simp at hx; exact ih h.2 hx

theorem V.view_loose : ∀ (v : V) (π : Path), (v.view π).loose = true
  | .ag cs, π => golem cs π 0
  | .tp cs, π => golem cs π 0
  | .ow _ _, _ | .bx _, _ | .i _ _, _ | .b _, _ | .s _, _ | .sl _, _ | .al _, _ | .hd _ _ _ _, _ | .ad _ _, _ | .ae _ _ _ _, _ | .im _, _ | .np, _ | .nl, _ | .fn _, _ | .lit _, _ | .un, _ => rfl
where golem : ∀ (cs : List V) (π : Path) (k : Nat), V.loose.go (V.view.go π k cs) = true
  | [], _, _ => rfl
  | c :: r, π, k => by
    simp only [V.view.go, V.loose.go, Bool.and_eq_true]
    exact ⟨V.view_loose c _, golem r π (k + 1)⟩

theorem cvC_loose (v : Value) : (cvC v).loose = true := by
  unfold cvC
  split <;> (try split) <;> rfl

theorem cvV_loose (v : Value) : (cvV v).loose = true := by
  unfold cvV
  split
  · rename_i cs
    show V.loose.go _ = true
    induction cs.toList with
    | nil => rfl
    | cons c r ih => simp only [List.map_cons, V.loose.go, Bool.and_eq_true]; exact ⟨cvC_loose c, ih⟩
  · split <;> rfl
  · exact cvC_loose _

theorem Env.rd_loose (e : Env) (x : Operand) : (e.rd x).loose = true := by
  cases x with
  | tmp t => exact V.view_loose _ _
  | const v => exact cvV_loose v
  | global => rfl
  | func => rfl

theorem RepC.any {o : Option Path} {v : V} {cs : List Value} (h : RepC w g o v cs) : v.loose = true → ∀ o', RepC w g o' v cs := by
  induction h with
  | i => exact fun _ _ => .i
  | b => exact fun _ _ => .b
  | s => exact fun _ _ => .s
  | np => exact fun _ _ => .np
  | nl => exact fun _ _ => .nl
  | un => exact fun _ _ => .un
  | fn => exact fun _ _ => .fn
  | lit h => exact fun _ _ => .lit h
  | slnil => exact fun _ _ => .slnil
  | sl blk o z cap ch hl hlt hcap hz hc hr => exact fun _ _ => .sl blk o z cap ch hl hlt hcap hz hc hr
  | ownil => intro hl; simp [V.loose] at hl
  | ow => intro hl; simp [V.loose] at hl
  | ag hn h ih => exact fun hl o' => .ag hn (fun f x c hx hc => ih f x c hx hc (V.loose_go hl hx) _)

theorem RepO.any {π : Path} {v : V} {cs : List Value} (h : RepO w g π v cs) : v.loose = true → ∀ ρ, RepO w g ρ v cs := by
  induction h with
  | c h => exact fun hl ρ => .c (h.any hl _)
  | ag hn h ih => exact fun hl ρ => .ag hn (fun f x c hx hc => ih f x c hx hc (V.loose_go hl hx) _)
  | bx => intro hl; simp [V.loose] at hl
  | al hs => exact fun _ _ => .al hs
  | hd h => exact fun _ _ => .hd h
  | ad blk o h => exact fun _ _ => .ad blk o h
  | ae blk o h => exact fun _ _ => .ae blk o h
  | im blk o vs hl hlt hn hc h => exact fun _ _ => .im blk o vs hl hlt hn hc h
  | un => exact fun _ _ => .un

theorem RepS.any {π : Path} {v : V} {c : Value} (h : RepS w g π v c) : v.loose = true → ∀ ρ, RepS w g ρ v c := by
  induction h with
  | one hv h => exact fun hl ρ => .one hv (h.any hl ρ)
  | agg h => exact fun hl ρ => .agg (h.any hl ρ)
  | tup hn h ih => exact fun hl ρ => .tup hn (fun f x c hx hc => ih f x c hx hc (V.loose_go hl hx) _)
  | un => exact fun _ _ => .un

theorem byte_get (l : List UInt8) (k : Nat) : (⟨l.toArray⟩ : ByteArray)[k]? = l[k]? := by
  by_cases hk : k < l.length
  · rw [List.getElem?_eq_getElem hk, getElem?_pos (⟨l.toArray⟩ : ByteArray) k (by simpa [ByteArray.size] using hk)]
    rfl
  · rw [List.getElem?_eq_none (by omega), getElem?_neg]
    simpa [ByteArray.size] using hk

theorem bsize (l : List UInt8) : (⟨l.toArray⟩ : ByteArray).size = l.length := by simp [ByteArray.size]

theorem eval_rd {x : Operand} (h : Holds w0 g0 e a w g) : ∀ ρ, RepS w g ρ (e.rd x) (a.eval x) := fun ρ => h.rd x ρ

theorem RepS.of_any {v : V} {c : Value} (h : ∀ ρ, RepS w g ρ v c) : ∀ ρ, RepS w g ρ v c := h

theorem valF_ok {o : Oper} {v : V} (hv : valF P e o = some v) (h : Holds w0 g0 e a w g) : ∃ c, (execOp a.eval o).run P w = .ok (.value c) w ∧ ∀ ρ, RepS w g ρ v c := by
  have hval : ∀ {s : Sem Value} {c : Value}, s.run P w = .ok c w → ((do pure (.value (← s))) : Sem Next).run P w = .ok (.value c) w := by
    intro s c hs
    simp [hs]
  unfold valF at hv
  split at hv
  · rename_i x ho
    cases hv
    exact ⟨_, by simp only [execOp, ho]; rfl, fun ρ => h.rd x ρ⟩
  · rename_i x ho
    cases hv
    exact ⟨_, by simp only [execOp, ho]; rfl, fun ρ => h.rd x ρ⟩
  · rename_i c x y ho
    split at hv
    · rename_i hc
      cases hv
      have := h.rd c []
      rw [hc] at this
      refine ⟨a.eval x, ?_, fun ρ => h.rd x ρ⟩
      simp [execOp, ho, this.b_inv, asBool]
    · rename_i hc
      cases hv
      have := h.rd c []
      rw [hc] at this
      refine ⟨a.eval y, ?_, fun ρ => h.rd y ρ⟩
      simp [execOp, ho, this.b_inv, asBool]
    · cases hv
  · rename_i x ho
    split at hv
    · rename_i p f hx
      cases hv
      have hr := fun ρ => h.rd x ρ
      rw [hx] at hr
      obtain ⟨blk, o', _, hc⟩ := (hr []).ad_inv
      refine ⟨a.eval x, ?_, hr⟩
      simp [execOp, ho, hc]
    · rename_i p z j f hx
      cases hv
      have hr := fun ρ => h.rd x ρ
      rw [hx] at hr
      obtain ⟨blk, o', _, hc⟩ := (hr []).ae_inv
      refine ⟨a.eval x, ?_, hr⟩
      simp [execOp, ho, hc]
    · rename_i cs hx
      cases hv
      have hr := fun ρ => h.rd x ρ
      rw [hx] at hr
      obtain ⟨blk, o', vs, hc, _⟩ := (hr []).im_inv
      refine ⟨a.eval x, ?_, hr⟩
      simp [execOp, ho, hc]
    · cases hv
  · rename_i op t x ho
    obtain ⟨u, hu, hr⟩ := unV_ok (P := P) (h.rd x []) hv
    exact ⟨u, by simp only [execOp, ho]; exact hval hu, hr⟩
  · rename_i op t x y t2 ho
    split at hv
    · rename_i ht
      obtain ⟨u, hu, hr⟩ := eqB_ok ht (h.rd x []) (h.rd y []) hv
      have hg := guard_ok (P := P) (t := t) (ox := x) (oy := y) (h.rd x []) (h.rd y []) (.inr ⟨_, hv⟩)
      refine ⟨u, ?_, hr⟩
      simp only [execOp, ho]
      exact hval (by simp [hg, hu])
    · rename_i fs ht
      obtain ⟨hg, u, hu, hr⟩ := eqS_ok (ox := x) (oy := y) ht (h.rd x []) (h.rd y []) hv
      refine ⟨u, ?_, hr⟩
      simp only [execOp, ho]
      exact hval (by simp [hg, hu])
    · obtain ⟨u, hu, hr⟩ := binV_ok (P := P) (t := t) (h.rd x []) (h.rd y []) hv
      have hg := guard_ok (P := P) (t := t) (ox := x) (oy := y) (h.rd x []) (h.rd y []) (.inl ⟨_, hv⟩)
      refine ⟨u, ?_, hr⟩
      simp only [execOp, ho]
      exact hval (by simp [hg, hu])
  · rename_i x i ho
    split at hv
    · rename_i vs hx
      have hr := h.rd x []
      have hl := e.rd_loose x
      rw [hx] at hr hl
      obtain ⟨arr, hc, hn, hk⟩ := hr.tp_inv
      have hi := (List.getElem?_eq_some_iff.1 hv).1
      have hai : arr[i]? = some arr[i] := Array.getElem?_eq_getElem (by omega)
      refine ⟨arr[i], ?_, (hk i v _ hv hai).any (V.loose_go hl hv)⟩
      simp [execOp, ho, hc, Instr.extract, hai]
    · cases hv
  · rename_i t x ho
    obtain ⟨u, hu, hr⟩ := load_ok (P := P) h (h.rd x []) hv
    exact ⟨u, by simp only [execOp, ho]; exact hval hu, hr⟩
  · rename_i t x f ho
    obtain ⟨u, hu, hr⟩ := fld_ok (P := P) (h.rd x []) hv
    exact ⟨u, by simp only [execOp, ho]; exact hval hu, hr⟩
  · rename_i t x i ho
    obtain ⟨u, hu, hr⟩ := idx_ok (P := P) h (h.rd x []) (h.rd i []) hv
    exact ⟨u, by simp only [execOp, ho]; exact hval hu, hr⟩
  · rename_i t x lo hi ho
    obtain ⟨u, hu, hr⟩ := slice_ok (P := P) (clo := lo.map a.eval) (chi := hi.map a.eval) h (h.rd x [])
      (fun v hv => by
        cases lo with
        | none => simp at hv
        | some l => simp at hv; subst hv; exact ⟨_, rfl, [], h.rd l []⟩) (fun hn => by cases lo <;> simp at hn ⊢)
      (fun v hv => by
        cases hi with
        | none => simp at hv
        | some l => simp at hv; subst hv; exact ⟨_, rfl, [], h.rd l []⟩) (fun hn => by cases hi <;> simp at hn ⊢) hv
    exact ⟨u, by simp only [execOp, ho]; exact hval hu, hr⟩
  · rename_i t x i ho
    split at hv
    · rename_i l k m ht hx hi
      split at hv
      · rename_i hm
        simp only [Option.map_eq_some_iff] at hv
        obtain ⟨b, hb, rfl⟩ := hv
        have hu := tinfo_str ht
        have h1 := h.rd x []
        have h2 := h.rd i []
        rw [hx] at h1
        rw [hi] at h2
        refine ⟨.int .u8 b.toNat, ?_, fun ρ => RepS.i_mk w g ρ _ _⟩
        simp only [execOp, ho]
        refine hval ?_
        simp only [Instr.index, h1.s_inv, h2.i_inv, asIntOf, Sem.run_bind, Sem.run_pure, Result.andThen_ok, run_underlying hu, hm, if_true, byte_get, hb]
      · cases hv
    · cases hv
  · rename_i t x f ho
    split at hv
    · rename_i fs k cs ht hx
      split at hv
      · rename_i off s hf
        split at hv
        · rename_i hs
          obtain ⟨rfl, hone⟩ := hs
          obtain ⟨fields, j, hu, hj, hn, rfl, hall⟩ := tinfo_struct ht
          simp only [List.getElem?_map, Option.map_eq_some_iff, Prod.mk.injEq] at hf
          obtain ⟨fld, hfld, rfl, hsz⟩ := hf
          have hfld' : fields[f]? = some fld := by simpa using hfld
          have h1 := h.rd x []
          have hl := e.rd_loose x
          rw [hx] at h1 hl
          obtain ⟨arr, hc, hrep⟩ := h1.ag_inv
          obtain ⟨hlen, hk⟩ := hrep.ag_inv
          have hva : (∀ c, v ≠ .ag c) ∧ cs[fld.offset]? = some v := by
            split at hv
            · cases hv
            · rename_i hne
              exact ⟨fun c hc => hne c (by rw [hv, hc]), hv⟩
          obtain ⟨hva, hv⟩ := hva
          have hi := (List.getElem?_eq_some_iff.1 hv).1
          have hi' : fld.offset < arr.size := by simpa [hlen] using hi
          have hai : arr[fld.offset]? = some arr[fld.offset] := Array.getElem?_eq_getElem hi'
          have hvl := V.loose_go hl hv
          have hnag : tinfo P fld.type ≠ .bad ∧ (tinfo P fld.type).cells = none := by
            unfold valF.tyOne at hone
            rw [hu] at hone
            simp only [hfld'] at hone
            split at hone <;> simp_all [TI.cells]
          refine ⟨arr[fld.offset], ?_, fun ρ => ?_⟩
          · simp only [execOp, ho]
            refine hval ?_
            simp only [Instr.field, hc, Sem.run_bind, run_underlying hu, Result.andThen_ok, hfld', asAgg, Sem.run_pure, part, run_isAgg w hnag.1, hnag.2, Option.isSome_none, Bool.false_eq_true, if_false, hai]
          · exact .one hva ((hk fld.offset v arr[fld.offset] hv (by rw [Array.getElem?_toList]; exact hai)).any hvl ρ)
        · cases hv
      · cases hv
    · cases hv
  · rename_i src dst x ho
    split at hv
    · rename_i k m hx
      split at hv
      · rename_i k1 k2 hs hd
        cases hv
        have h1 := h.rd x []
        rw [hx] at h1
        refine ⟨.int k2 (k2.wrap m), ?_, fun ρ => RepS.i_mk w g ρ _ _⟩
        simp only [execOp, ho]
        refine hval ?_
        simp only [h1.i_inv, convert, Sem.run_bind, run_underlying hs, run_underlying hd, Result.andThen_ok, Conv.intToInt, Sem.run_pure]
      · cases hv
    · rename_i l hx
      split at hv
      · rename_i hs hd
        cases hv
        have h1 := h.rd x []
        rw [hx] at h1
        refine ⟨_, ?_, fun ρ => RepS.s_mk w g ρ l⟩
        simp only [execOp, ho]
        refine hval ?_
        simp only [h1.s_inv, convert, Sem.run_bind, run_underlying hs, run_underlying hd, Result.andThen_ok, Sem.run_pure]
      · cases hv
    · split at hv
      · rename_i el nb hts htd
        obtain ⟨hus, -⟩ := tinfo_slice hts
        have hud := tinfo_str htd
        split at hv
        · rename_i hel
          split at hv
          · rename_i xs hrow
            simp only [Option.map_eq_some_iff] at hv
            obtain ⟨l, hl, rfl⟩ := hv
            obtain ⟨s, c, hc, -⟩ := row_read h (h.rd x []) hrow
            have hb := bytes_ok (P := P) h (h.rd x []) hrow hl
            refine ⟨_, ?_, fun ρ => RepS.s_mk w g ρ l⟩
            simp only [execOp, ho]
            refine hval ?_
            rw [hc] at hb ⊢
            simp only [convert, Sem.run_bind, run_underlying hus, run_underlying hud, run_underlying hel, Result.andThen_ok, hb]
          · cases hv
        · cases hv
      · cases hv
  · rename_i args ts ho
    split at hv
    · rename_i x t hargs hts
      have hargs' : args = #[x] := by cases args; simp_all
      have hts' : ts = #[t] := by cases ts; simp_all
      subst hargs' hts'
      have hrun : ∀ {c : Value}, (Builtin.len_ #[t] o.type #[a.eval x]).run P w = .ok c w → (execOp a.eval o).run P w = .ok (.value c) w := by
        intro c hc
        simp only [execOp, ho, resolve, Sem.run_bind, Sem.run_pure, Result.andThen_ok, invoke, builtin, List.map_toArray, List.map_cons, List.map_nil, hc]
      split at hv
      · rename_i ht
        have hu := tinfo_str ht
        split at hv
        · rename_i l hx
          cases hv
          have h1 := h.rd x []
          rw [hx] at h1
          refine ⟨_, hrun ?_, fun ρ => RepS.i_mk w g ρ .i64 l.length⟩
          rw [h1.s_inv]
          simp only [Builtin.len_, Sem.run_bind, run_underlying hu, Result.andThen_ok, goInt, bsize, List.getElem?_toArray, List.getElem?_cons_zero, Sem.run_pure]
        · cases hv
      · rename_i el z nb ht
        obtain ⟨hu, -⟩ := tinfo_slice ht
        simp only [Option.map_eq_some_iff] at hv
        obtain ⟨xs, hrow, rfl⟩ := hv
        obtain ⟨s, c, hc⟩ := row_len h (h.rd x []) hrow
        refine ⟨_, hrun ?_, fun ρ => RepS.i_mk w g ρ .i64 xs.length⟩
        simp [Builtin.len_, run_underlying hu, hc, goInt]
      · cases hv
    · cases hv
  · rename_i args ts ho
    split at hv
    · rename_i k x k' y hargs
      split at hv
      · rename_i hk
        subst hk
        cases hv
        obtain ⟨l⟩ := args
        rcases l with _ | ⟨p, _ | ⟨q, _ | ⟨r, l⟩⟩⟩
        · simp at hargs
        · simp at hargs
        · simp at hargs
          have h1 := h.rd p []
          have h2 := h.rd q []
          rw [hargs.1] at h1
          rw [hargs.2] at h2
          refine ⟨_, ?_, fun ρ => RepS.i_mk w g ρ k _⟩
          simp only [execOp, ho, resolve, Sem.run_bind, Sem.run_pure, Result.andThen_ok, invoke, builtin, List.map_toArray, List.map_cons, List.map_nil, Builtin.max_, List.foldlM_cons, List.foldlM_nil, h1.i_inv, h2.i_inv, Builtin.max2]
        · simp at hargs
      · cases hv
    · cases hv
  · rename_i args ts ho
    split at hv
    · rename_i k x k' y hargs
      split at hv
      · rename_i hk
        subst hk
        cases hv
        obtain ⟨l⟩ := args
        rcases l with _ | ⟨p, _ | ⟨q, _ | ⟨r, l⟩⟩⟩
        · simp at hargs
        · simp at hargs
        · simp at hargs
          have h1 := h.rd p []
          have h2 := h.rd q []
          rw [hargs.1] at h1
          rw [hargs.2] at h2
          refine ⟨_, ?_, fun ρ => RepS.i_mk w g ρ k _⟩
          simp only [execOp, ho, resolve, Sem.run_bind, Sem.run_pure, Result.andThen_ok, invoke, builtin, List.map_toArray, List.map_cons, List.map_nil, Builtin.min_, List.foldlM_cons, List.foldlM_nil, h1.i_inv, h2.i_inv, Builtin.min2]
        · simp at hargs
      · cases hv
    · cases hv
  · cases hv

end
end Go.Vx

namespace Go.Vx
open Go Go.RowKit

section
variable {P : Program} {w0 : World} {g0 : Gh} {n : Nat} {e : Env} {a : Act} {w : World} {g : Gh}

/-- The marks, with what stands under slot d's path given anew. -/
noncomputable def Gh.anew (g : Gh) (size d : Nat) (lab' : Nat → Option Path) (vm' : Path → Value) : Gh :=
  open Classical in
  { lab := fun b => if b < size then (match g.lab b with
      | some p => if [d + 2] <+: p then none else some p
      | none => none) else lab' b
    vm := fun p => if [d + 2] <+: p then vm' p else g.vm p }

theorem Gh.anew_old {g : Gh} {size d : Nat} {lab' : Nat → Option Path} {vm' : Path → Value} {b : Nat} (hb : b < size) (h : ∀ p, g.lab b = some p → ¬ [d + 2] <+: p) :
    (g.anew size d lab' vm').lab b = g.lab b := by
  simp only [Gh.anew, hb, if_true]
  cases hp : g.lab b with
  | none => rfl
  | some p => simp [h p hp]

theorem Gh.anew_vm {g : Gh} {size d : Nat} {lab' : Nat → Option Path} {vm' : Path → Value} {p : Path} (h : ¬ [d + 2] <+: p) : (g.anew size d lab' vm').vm p = g.vm p := by
  simp [Gh.anew, h]
theorem Gh.anew_vm' {g : Gh} {size d : Nat} {lab' : Nat → Option Path} {vm' : Path → Value} {p : Path} (h : [d + 2] <+: p) : (g.anew size d lab' vm').vm p = vm' p := by
  simp [Gh.anew, h]
theorem Gh.anew_new {g : Gh} {size d : Nat} {lab' : Nat → Option Path} {vm' : Path → Value} {b : Nat} (hb : size ≤ b) : (g.anew size d lab' vm').lab b = lab' b := by
  have : ¬ b < size := by omega
  simp [Gh.anew, this]

theorem pre_one {d t : Nat} {p : Path} : [d] <+: (t :: p) ↔ d = t := by
  constructor
  · rintro ⟨q, hq⟩; simp at hq; exact hq.1
  · rintro rfl; exact ⟨p, rfl⟩

theorem not_pre_head {d : Nat} {p : Path} (h : p.head? ≠ some d) : ¬ [d] <+: p := by
  rintro ⟨q, rfl⟩
  simp at h

/-- Old memory stays, slot d's own is new. -/
theorem Holds.growH (hs : Sim w0 g0 n e a w) (h : Holds w0 g0 e a w g) {d : Nat} (hd : d < n) (hfree : e.free d = true) {w' : World} {v : V} {c : Value}
    {lab' : Nat → Option Path} {vm' : Path → Value}
    (hos : w'.os = w.os) (htape : w'.tape = w.tape) (hout : w'.output = w.output) (hsize : w.heap.size ≤ w'.heap.size)
    (hold : ∀ b, b < w.heap.size → w'.heap[b]? = w.heap[b]?)
    (hlab : ∀ b p, w.heap.size ≤ b → lab' b = some p → [d + 2] <+: p ∧ b < w'.heap.size)
    (hinj : ∀ b b' p, lab' b = some p → lab' b' = some p → b = b')
    (hv : RepS w' (g.anew w.heap.size d lab' vm') [d + 2] v c) : Holds w0 g0 (e.set d v) (a.put (some d) c) w' (g.anew w.heap.size d lab' vm') := by
  have hdk : dOk n (some d) = true := by simpa [dOk] using hd
  refine ⟨⟨?_, ?_⟩, ⟨?_, ?_, ?_, ?_, ?_, ?_⟩, fun t => ?_⟩
  · intro b b' p hb hb'
    by_cases h1 : b < w.heap.size
    · by_cases h2 : b' < w.heap.size
      · simp only [Gh.anew, h1, h2, if_true] at hb hb'
        cases hp : g.lab b with
        | none => simp [hp] at hb
        | some q =>
          cases hp' : g.lab b' with
          | none => simp [hp'] at hb'
          | some q' =>
            simp only [hp, hp'] at hb hb'
            split at hb
            · cases hb
            · split at hb'
              · cases hb'
              · cases hb; cases hb'; exact h.inj.1 b b' _ hp hp'
      · rw [Gh.anew_new (by omega)] at hb'
        have := (hlab b' p (by omega) hb').1
        simp only [Gh.anew, h1, if_true] at hb
        cases hp : g.lab b with
        | none => simp [hp] at hb
        | some q =>
          simp only [hp] at hb
          split at hb
          · cases hb
          · cases hb; contradiction
    · rw [Gh.anew_new (by omega)] at hb
      by_cases h2 : b' < w.heap.size
      · have := (hlab b p (by omega) hb).1
        simp only [Gh.anew, h2, if_true] at hb'
        cases hp : g.lab b' with
        | none => simp [hp] at hb'
        | some q =>
          simp only [hp] at hb'
          split at hb'
          · cases hb'
          · cases hb'; contradiction
      · rw [Gh.anew_new (by omega)] at hb'
        exact hinj b b' p hb hb'
  · intro b p hb
    by_cases h1 : b < w.heap.size
    · omega
    · rw [Gh.anew_new (by omega)] at hb
      exact (hlab b p (by omega) hb).2
  · exact hos.trans h.fr.os
  · exact htape.trans h.fr.tape
  · exact hout.trans h.fr.output
  · exact Nat.le_trans h.fr.size hsize
  · intro b hb hk
    have hlt := Nat.lt_of_lt_of_le hb h.fr.size
    obtain ⟨h1, h2⟩ := h.fr.keep b hb hk
    refine ⟨?_, (hold b hlt).trans h2⟩
    rw [Gh.anew_old hlt, h1]
    intro p hp
    rw [h1] at hp
    rcases hk with hk | ⟨q, hk⟩
    · rw [hk] at hp; cases hp
    · rw [hk] at hp; cases hp; rw [pre_one]; omega
  · intro p
    rw [Gh.anew_vm (by rw [pre_one]; omega)]
    exact h.fr.vm0 p
  · rw [Env.get_set, dOk_put hs.size hdk]
    by_cases ht : d = t
    · subst ht; simpa using hv
    · simp only [ht, if_false, Option.some.injEq]
      refine (h.rep t).moves ⟨hsize, ?_, ?_, ?_⟩ ?_
      · intro b hb hl
        rw [Gh.anew_old hb (by rw [hl]; simp)]
        exact ⟨hl, hold b hb⟩
      · intro b p hb
        have hlt := h.inj.2 b _ hb
        rw [Gh.anew_old hlt (by rw [hb]; intro q hq; cases hq; simp only [List.cons_append, List.nil_append]; rw [pre_one]; omega)]
        exact ⟨hb, hold b hlt⟩
      · intro p
        rw [Gh.anew_vm (by simp only [List.cons_append, List.nil_append]; rw [pre_one]; omega)]
      · intro p hp
        exact Gh.anew_vm (not_pre_head (Env.free_refs hfree p hp))

theorem Holds.grow (hs : Sim w0 g0 n e a w) (h : Holds w0 g0 e a w g) {d : Nat} (hd : d < n) (hfree : e.free d = true) {w' : World} {v : V} {c : Value}
    {lab' : Nat → Option Path} {vm' : Path → Value}
    (hos : w'.os = w.os) (htape : w'.tape = w.tape) (hout : w'.output = w.output) (hsize : w.heap.size ≤ w'.heap.size)
    (hold : ∀ b, b < w.heap.size → w'.heap[b]? = w.heap[b]?)
    (hlab : ∀ b p, w.heap.size ≤ b → lab' b = some p → [d + 2] <+: p ∧ b < w'.heap.size)
    (hinj : ∀ b b' p, lab' b = some p → lab' b' = some p → b = b')
    (hv : RepS w' (g.anew w.heap.size d lab' vm') [d + 2] v c) : Sim w0 g0 n (e.set d v) (a.put (some d) c) w' := by
  obtain ⟨h1, h2, h3⟩ := h.growH hs hd hfree hos htape hout hsize hold hlab hinj hv
  exact ⟨⟨_, h1, h2, h3⟩, by rw [put_defers]; exact hs.defers, by rw [put_size]; exact hs.size⟩

end
end Go.Vx

namespace Go.Vx
open Go Go.RowKit

section
variable {P : Program} {w0 : World} {g0 : Gh} {n : Nat} {e : Env} {a : Act} {w : World} {g : Gh}

theorem RepC.keep {w' : World} {g' : Gh} {o : Option Path} {v : V} {cs : List Value} (h : RepC w g o v cs) : v.loose = true → Keeps w g w' g' → ∀ o', RepC w' g' o' v cs := by
  induction h with
  | i => exact fun _ _ _ => .i
  | b => exact fun _ _ _ => .b
  | s => exact fun _ _ _ => .s
  | np => exact fun _ _ _ => .np
  | nl => exact fun _ _ _ => .nl
  | un => exact fun _ _ _ => .un
  | fn => exact fun _ _ _ => .fn
  | lit h => exact fun _ _ _ => .lit h
  | slnil => exact fun _ _ _ => .slnil
  | sl blk o z cap ch hl hlt hcap hz hc hr => exact fun _ m o' => (RepC.sl (π := none) blk o z cap ch hl hlt hcap hz hc hr).imm rfl m o'
  | ownil => intro hl; simp [V.loose] at hl
  | ow => intro hl; simp [V.loose] at hl
  | ag hn h ih => exact fun hl m o' => .ag hn (fun f x c hx hc => ih f x c hx hc (V.loose_go hl hx) m _)

theorem RepO.keep {w' : World} {g' : Gh} {π : Path} {v : V} {cs : List Value} (h : RepO w g π v cs) : v.loose = true → Keeps w g w' g' → (∀ p ∈ v.refs, g'.vm p = g.vm p) → ∀ ρ, RepO w' g' ρ v cs := by
  induction h with
  | c h => exact fun hl m _ ρ => .c (h.keep hl m _)
  | ag hn h ih => exact fun hl m hr ρ => .ag hn (fun f x c hx hc => ih f x c hx hc (V.loose_go hl hx) m (fun p hp => hr p (V.mem_go hx hp)) _)
  | bx => intro hl; simp [V.loose] at hl
  | @al π p hs => intro _ m hr ρ; rw [← hr p (by simp [V.refs])]; exact .al (by rw [hr p (by simp [V.refs])]; exact hs)
  | @hd π p z off len c h => intro _ m hr ρ; exact .hd (by rw [hr p (by simp [V.refs])]; exact h)
  | @ad π p off blk o h => intro _ m hr ρ; exact .ad blk o (by rw [hr p (by simp [V.refs])]; exact h)
  | @ae π p z j f blk o h => intro _ m hr ρ; exact .ae blk o (by rw [hr p (by simp [V.refs])]; exact h)
  | im blk o vs hl hlt hn hc h =>
    intro _ m _ ρ
    have hb := m.imm blk hlt hl
    exact .im blk o vs hb.1 (Nat.lt_of_lt_of_le hlt m.size) hn (fun q c hq => by rw [cell_same (by exact hb.2)]; exact hc q c hq) (h.imm rfl m none)
  | un => exact fun _ _ _ _ => .un

/-- One known cell. -/
theorem RepO.one {π : Path} {v : V} {c : Value} (h : RepO w g π v [c]) (h1 : ∀ cs, v ≠ .ag cs) (h2 : v ≠ .un) : c.oneCell' = true ∧ c.cells = #[c] := by
  cases h with
  | c h => cases h <;> first | exact ⟨rfl, rfl⟩ | assumption | exact (h1 _ rfl).elim | exact (h2 rfl).elim
  | ag => exact (h1 _ rfl).elim
  | bx => exact ⟨rfl, rfl⟩
  | al hs => obtain ⟨s, n, c, hc⟩ := hs; rw [hc]; exact ⟨rfl, rfl⟩
  | hd h => obtain ⟨_, _, _, _, _, _, rfl, _⟩ := h; exact ⟨rfl, rfl⟩
  | ad => exact ⟨rfl, rfl⟩
  | ae => exact ⟨rfl, rfl⟩
  | im => exact ⟨rfl, rfl⟩
  | un => exact (h2 rfl).elim

theorem noUn_cell {v x : V} {f : Nat} (h : v.noUn = true) (hx : v.cs[f]? = some x) : (∀ cs, x ≠ .ag cs) ∧ x ≠ .un := by
  have := List.all_eq_true.1 h x (List.mem_of_getElem? hx)
  constructor
  · rintro cs rfl; simp at this
  · rintro rfl; simp at this

theorem loose_cell {v x : V} {f : Nat} (h : v.loose = true) (hx : v.cs[f]? = some x) : x.loose = true := by
  cases v with
  | ag cs => exact V.loose_go h hx
  | _ =>
    have : f = 0 := by cases f <;> simp [V.cs] at hx ⊢
    subst this
    simp [V.cs] at hx
    subst hx
    exact h

theorem refs_cell {v x : V} {f : Nat} {p : Path} (hx : v.cs[f]? = some x) (hp : p ∈ x.refs) : p ∈ v.refs := by
  cases v with
  | ag cs => exact V.mem_go hx hp
  | _ =>
    have : f = 0 := by cases f <;> simp [V.cs] at hx ⊢
    subst this
    simp [V.cs] at hx
    subst hx
    exact hp

/-- A value's cells, one by one. -/
theorem cells_of {ρ : Path} {v : V} {c : Value} (h : RepS w g ρ v c) (hn : v.noUn = true) (hl : v.loose = true) :
    c.cells.toList.length = v.cs.length ∧ (∀ (f : Nat) (x : V) (u : Value), v.cs[f]? = some x → c.cells.toList[f]? = some u → (∀ ρ, RepO w g ρ x [u]) ∧ u.oneCell' = true) := by
  have single : ∀ {v : V} {c : Value} {ρ : Path}, RepO w g ρ v [c] → (∀ cs, v ≠ .ag cs) → v.noUn = true → v.loose = true →
      c.cells.toList.length = v.cs.length ∧ (∀ (f : Nat) (x : V) (u : Value), v.cs[f]? = some x → c.cells.toList[f]? = some u → (∀ ρ, RepO w g ρ x [u]) ∧ u.oneCell' = true) := by
    intro v c ρ h hna hn hl
    have hcs : v.cs = [v] := by cases v <;> first | rfl | exact (hna _ rfl).elim
    have hu : v ≠ .un := (noUn_cell (f := 0) hn (by rw [hcs]; rfl)).2
    obtain ⟨h1, h2⟩ := h.one hna hu
    rw [hcs, h2]
    refine ⟨rfl, fun f x u hx hu => ?_⟩
    have : f = 0 := by cases f <;> simp at hx ⊢
    subst this
    simp at hx hu
    subst hx hu
    exact ⟨fun ρ => h.any hl ρ, h1⟩
  cases h with
  | one hv h => exact single h hv hn hl
  | @agg _ cs arr h =>
    obtain ⟨hlen, hk⟩ := h.ag_inv
    refine ⟨hlen.symm, fun f x u hx hu => ?_⟩
    have hx' : cs[f]? = some x := hx
    have hr := hk f x u hx' hu
    obtain ⟨h1, h2⟩ := noUn_cell hn hx
    exact ⟨fun ρ => hr.any (loose_cell hl hx) ρ, (hr.one h1 h2).1⟩
  | tup => simp [V.noUn, V.cs] at hn
  | un => simp [V.noUn, V.cs] at hn

theorem all_one {vs : List V} {us : List Value} (hlen : us.length = vs.length) (h : ∀ (f : Nat) (x : V) (u : Value), vs[f]? = some x → us[f]? = some u → (∀ ρ, RepO w g ρ x [u]) ∧ u.oneCell' = true) :
    ∀ u ∈ us, u.oneCell' = true := by
  intro u hu
  obtain ⟨f, hf⟩ := List.mem_iff_getElem?.1 hu
  have hlt := (List.getElem?_eq_some_iff.1 hf).1
  exact (h f _ u (List.getElem?_eq_getElem (by omega)) hf).2

/-- A pushed block. -/
theorem push_old {w : World} {o : Obj} {b : Nat} (hb : b < w.heap.size) : (w.heap.push o)[b]? = w.heap[b]? := by
  rw [Array.getElem?_push, if_neg (by omega)]

theorem anew_keeps {size d : Nat} {lab' : Nat → Option Path} {vm' : Path → Value} {w' : World} (hsz : size = w.heap.size) (hsize : w.heap.size ≤ w'.heap.size)
    (hold : ∀ b, b < w.heap.size → w'.heap[b]? = w.heap[b]?) : Keeps w g w' (g.anew size d lab' vm') :=
  ⟨hsize, fun b hb hl => by subst hsz; rw [Gh.anew_old hb (by rw [hl]; simp)]; exact ⟨hl, hold b hb⟩⟩

/-- A new variable with these cells. -/
theorem Sim.newBox (hs : Sim w0 g0 n e a w) (h : Holds w0 g0 e a w g) {d : Nat} (hd : d < n) (hfree : e.free d = true) {vs : List V} {us : Array Value} {t : TypeId}
    (hlen : us.size = vs.length) (hcell : ∀ (f : Nat) (x : V) (u : Value), vs[f]? = some x → us[f]? = some u → x.loose = true ∧ (∀ p ∈ x.refs, p.head? ≠ some (d + 2)) ∧ RepO w g [0] x [u]) :
    Sim w0 g0 n (e.set d (.bx vs)) (a.put (some d) (.pointer (some ⟨w.heap.size, 0, none⟩))) { w with heap := w.heap.push (.cells us t) } := by
  refine h.grow hs hd hfree (lab' := fun b => if b = w.heap.size then some [d + 2] else none) (vm' := fun _ => .pointer (some ⟨w.heap.size, 0, none⟩)) rfl rfl rfl (by simp) (fun b hb => push_old hb) ?_ ?_ ?_
  · intro b p hb hp
    split at hp
    · rename_i he; cases hp; subst he; exact ⟨⟨[], rfl⟩, by simp⟩
    · cases hp
  · intro b b' p hb hb'
    split at hb
    · split at hb'
      · omega
      · cases hb'
    · cases hb
  · refine .one (by simp) (.bx w.heap.size us t ?_ ?_ ?_ hlen.symm ?_)
    · rw [Gh.anew_new (Nat.le_refl _)]; simp
    · rw [Gh.anew_vm' (pre_one.2 rfl)]
    · simp
    · intro f x u hx hu
      obtain ⟨h1, h2, h3⟩ := hcell f x u hx hu
      exact h3.keep h1 (anew_keeps rfl (by simp) (fun b hb => push_old hb)) (fun p hp => Gh.anew_vm (not_pre_head (h2 p hp))) _

end
end Go.Vx

namespace Go.Vx
open Go Go.RowKit Go.Great

section
variable {P : Program} {w0 : World} {g0 : Gh} {n : Nat} {e : Env} {a : Act} {w : World} {g : Gh}

/-- A new row with these elements and some room. -/
theorem Sim.newRow (hs : Sim w0 g0 n e a w) (h : Holds w0 g0 e a w g) {d : Nat} (hd : d < n) (hfree : e.free d = true) {z cap : Nat} {xs : List V} {us : Array Value} {t : TypeId} {w' : World}
    (hos : w'.os = w.os) (htape : w'.tape = w.tape) (hout : w'.output = w.output) {fr : Nat × Nat} (hheap : w'.heap = w.heap.push (.cells us t fr)) (hfr : FrOk fr us.size)
    (hcap : xs.length ≤ cap) (hmax : cap ≤ maxLen) (hroom : cap * z ≤ us.size) (ch : Nat → List Value)
    (hch : ∀ (j : Nat) (x : V), xs[j]? = some x → x.loose = true ∧ (∃ o, RepC w g o x (ch j)) ∧ (ch j).length = z ∧ ∀ (q : Nat) (u : Value), (ch j)[q]? = some u → us[j * z + q]? = some u) :
    Sim w0 g0 n (e.set d (.ow z xs)) (a.put (some d) (.slice (some ⟨w.heap.size, 0, none⟩) xs.length cap)) w' := by
  have hold : ∀ b, b < w.heap.size → w'.heap[b]? = w.heap[b]? := fun b hb => by rw [hheap]; exact push_old hb
  refine h.grow hs hd hfree (lab' := fun b => if b = w.heap.size then some [d + 2] else none) (vm' := fun _ => .slice (some ⟨w.heap.size, 0, none⟩) xs.length cap) hos htape hout (by rw [hheap]; simp) hold ?_ ?_ ?_
  · intro b p hb hp
    split at hp
    · rename_i he; cases hp; subst he; exact ⟨pre_one.2 rfl, by rw [hheap]; simp⟩
    · cases hp
  · intro b b' p hb hb'
    split at hb
    · split at hb'
      · omega
      · cases hb'
    · cases hb
  · refine .one (by simp) (.c (.ow w.heap.size 0 z cap us t ch ?_ ?_ ?_ hcap hmax (by omega) ?_ ?_ ?_))
    · rw [Gh.anew_new (Nat.le_refl _)]; simp
    · rw [Gh.anew_vm' (pre_one.2 rfl)]
    · exact ⟨fr, by rw [hheap]; simp, hfr⟩
    · intro j hj
      exact (hch j _ (List.getElem?_eq_getElem hj)).2.2.1
    · intro j hj q u hq
      have := (hch j _ (List.getElem?_eq_getElem hj)).2.2.2 q u hq
      simpa using this
    · intro j x hj
      obtain ⟨h1, ⟨o, h2⟩, _⟩ := hch j x hj
      exact h2.keep h1 (anew_keeps rfl (by rw [hheap]; simp) hold) _

/-- A new row with these elements, that nobody is to write. -/
theorem Sim.newImm (hs : Sim w0 g0 n e a w) (h : Holds w0 g0 e a w g) {d : Nat} (hd : d < n) (hfree : e.free d = true) {z cap : Nat} {xs : List V} {us : Array Value} {t : TypeId} {w' : World}
    (hos : w'.os = w.os) (htape : w'.tape = w.tape) (hout : w'.output = w.output) {fr : Nat × Nat} (hheap : w'.heap = w.heap.push (.cells us t fr))
    (hcap : xs.length ≤ cap) (ch : Nat → List Value)
    (hch : ∀ (j : Nat) (x : V), xs[j]? = some x → x.loose = true ∧ (∃ o, RepC w g o x (ch j)) ∧ (ch j).length = z ∧ ∀ (q : Nat) (u : Value), (ch j)[q]? = some u → us[j * z + q]? = some u) :
    Sim w0 g0 n (e.set d (.sl xs)) (a.put (some d) (.slice (some ⟨w.heap.size, 0, none⟩) xs.length cap)) w' := by
  have hold : ∀ b, b < w.heap.size → w'.heap[b]? = w.heap[b]? := fun b hb => by rw [hheap]; exact push_old hb
  have hnew : w'.heap[w.heap.size]? = some (.cells us t fr) := by rw [hheap]; simp
  refine h.grow hs hd hfree (lab' := fun _ => none) (vm' := fun _ => .slice none 0 0) hos htape hout (by rw [hheap]; simp) hold ?_ ?_ ?_
  · intro b p hb hp; cases hp
  · intro b b' p hb hb'; cases hb
  · refine .one (by simp) (.c (.sl w.heap.size 0 z cap ch ?_ ?_ hcap ?_ ?_ ?_))
    · intro _; rw [Gh.anew_new (Nat.le_refl _)]
    · intro _; rw [hheap]; simp
    · intro j hj
      exact (hch j _ (List.getElem?_eq_getElem hj)).2.2.1
    · intro j hj q u hq
      have := (hch j _ (List.getElem?_eq_getElem hj)).2.2.2 q u hq
      simp only [World.cell?, hnew, Nat.zero_add]
      exact this
    · intro j x hj
      obtain ⟨h1, ⟨o, h2⟩, _⟩ := hch j x hj
      exact h2.keep h1 (anew_keeps rfl (by rw [hheap]; simp) hold) _

theorem plain_loose {v : V} (h : v.cs.all V.plain = true) : v.loose = true := by
  cases v with
  | ag cs =>
    show V.loose.go cs = true
    simp only [V.cs] at h
    induction cs with
    | nil => rfl
    | cons c r ih =>
      simp only [List.all_cons, Bool.and_eq_true] at h
      simp only [V.loose.go, Bool.and_eq_true]
      refine ⟨?_, ih h.2⟩
      have := h.1
      cases c <;> simp [V.plain] at this <;> rfl
  | _ => simp [V.cs, V.plain] at h <;> rfl

/-- A plain cell is a tree. -/
theorem RepO.plain {π : Path} {v : V} {c : Value} (h : RepO w g π v [c]) (hp : v.plain = true) : RepC w g (some π) v [c] := by
  cases h with
  | c h => exact h
  | _ => simp [V.plain] at hp

/-- A plain value is a tree. -/
theorem RepS.plain {ρ : Path} {v : V} {c : Value} (h : RepS w g ρ v c) (hp : v.cs.all V.plain = true) :
    c.cells.toList.length = v.cs.length ∧ (∀ u ∈ c.cells.toList, u.oneCell' = true) ∧ RepC w g (some ρ) v c.cells.toList := by
  have hl := plain_loose hp
  have hn : v.noUn = true := by
    unfold V.noUn
    rw [List.all_eq_true] at hp ⊢
    intro x hx
    have := hp x hx
    cases x <;> simp [V.plain] at this ⊢
  obtain ⟨h1, h2⟩ := cells_of h hn hl
  refine ⟨h1, all_one h1 h2, ?_⟩
  cases h with
  | one hv h =>
    have hcs : v.cs = [v] := by cases v <;> first | rfl | exact (hv _ rfl).elim
    rw [hcs] at hp
    simp at hp
    rw [(h.one hv (by rintro rfl; simp [V.plain] at hp)).2]
    exact h.plain hp
  | @agg _ cs arr h =>
    obtain ⟨hlen, hk⟩ := h.ag_inv
    refine .ag hlen (fun f x c hx hc => ?_)
    have hpx : x.plain = true := List.all_eq_true.1 hp x (List.mem_of_getElem? hx)
    exact (hk f x c hx hc).plain hpx
  | tup => simp [V.cs, V.plain] at hp
  | un => simp [V.cs, V.plain] at hp

theorem zeroC_inv {t : TypeId} {zs : List V} (h : zeroC P t = some zs) : ∃ i v, P.info? t = some i ∧ i.zero = some v ∧ zs = v.cells.toList.map cvC := by
  unfold zeroC at h
  split at h
  · rename_i i hi
    split at h
    · rename_i v hv; cases h; exact ⟨i, v, hi, hv, rfl⟩
    · cases h
  · cases h

theorem zipIdx_parts (e : Env) (a : Act) (parts : List (Nat × Operand)) (k : Nat) (h : parts.map (·.1) = List.range' k parts.length) :
    parts.map (fun p => (p.1, a.eval p.2)) = ((parts.map fun p => a.eval p.2).zipIdx k).map fun x => (x.2, x.1) := by
  induction parts generalizing k with
  | nil => rfl
  | cons p r ih =>
    simp only [List.map_cons, List.length_cons, List.range'_succ, List.cons.injEq] at h
    simp only [List.map_cons, List.zipIdx_cons, List.map_cons, List.cons.injEq, Prod.mk.injEq]
    exact ⟨⟨h.1, trivial⟩, ih (k + 1) h.2⟩

theorem buildSlice_ok {o : Oper} {v : V} {t len d : Nat} {parts : Array (Nat × Operand)} {K : Env → Prop} (ho : o.op = .buildSlice t len parts) (hdst : o.dst = some d) (hd : d < n)
    (hfree : e.free d = true) (hv : newF P e o = some v) (hK : K (e.set d v)) : OpOk P w0 g0 n o e K := by
  intro a w hs next Q hn
  obtain ⟨g, h⟩ := hs.holds
  unfold newF at hv
  rw [ho] at hv
  simp only at hv
  split at hv
  · rename_i el z nb ht
    obtain ⟨hu, inf, hinf, rfl, -⟩ := tinfo_slice ht
    split at hv
    · rename_i hc
      cases hv
      obtain ⟨hidx, hsmall, hz, hzero, hw, hf⟩ := hc
      obtain ⟨zs, hzs⟩ := Option.isSome_iff_exists.1 hzero
      obtain ⟨i, zv, hi, hzv, -⟩ := zeroC_inv hzs
      rw [hinf] at hi
      cases hi
      have hlen : parts.toList.length = len := by have := congrArg List.length hidx; simpa using this
      have hel : ∀ (j : Nat) (p : Nat × Operand), parts.toList[j]? = some p → (a.eval p.2).cells.toList.length = inf.size ∧ RepC w g (some []) (e.rd p.2) (a.eval p.2).cells.toList := by
        intro j p hp
        have hmem : e.rd p.2 ∈ parts.toList.map fun p => e.rd p.2 := List.mem_map.2 ⟨p, List.mem_of_getElem? hp, rfl⟩
        have h1 := List.all_eq_true.1 hw _ hmem
        have h2 := List.all_eq_true.1 hf _ hmem
        obtain ⟨h3, _, h4⟩ := (h.rd p.2 []).plain h2
        simp at h1
        exact ⟨by omega, h4⟩
      have hsz : ∀ v ∈ parts.toList.map (fun p => a.eval p.2), v.cells.size = inf.size := by
        intro v hv
        obtain ⟨p, hp, rfl⟩ := List.mem_map.1 hv
        obtain ⟨j, hj⟩ := List.mem_iff_getElem?.1 hp
        have := (hel j p hj).1
        simpa using this
      have hrun : ∃ us : Array Value, (Instr.buildSlice t len (parts.map fun (i, x) => (i, a.eval x))).run P w = .ok (.slice (some ⟨w.heap.size, 0, none⟩) len len) (w.alloc (.cells us el)) ∧
          us = ((parts.toList.map fun p => a.eval p.2).flatMap fun v => v.cells.toList).toArray := by
        by_cases h0 : len = 0
        · subst h0
          have hp0 : parts = #[] := by
            apply Array.eq_empty_of_size_eq_zero
            simpa using hlen
          subst hp0
          refine ⟨#[], ?_, by simp⟩
          have : ∀ f : Nat → Value, (Array.range 0).map f = #[] := fun f => by apply Array.eq_empty_of_size_eq_zero; simp
          simp [Instr.buildSlice, run_underlying hu, sizeOf, typeInfo, hinf, Instr.fill, newRow]
          congr 2
          exact this _
        · have hfill := fill_whole hz (parts.toList.map fun p => a.eval p.2) ((Array.range (len * inf.size)).map (zv.cells[· % zv.cells.size]!)) hsz (by simp [hlen])
          refine ⟨_, run_buildSlice w t el len _ _ inf zv hu hinf hzv (by omega) (by have := Nat.mul_pos (Nat.pos_of_ne_zero h0) hz; omega) ?_, rfl⟩
          rw [← hfill]
          congr 1
          rw [Array.toList_map]
          have hx := zipIdx_parts e a parts.toList 0 (by rw [hidx, hlen, List.range_eq_range'])
          exact hx
      obtain ⟨us, hr, hus⟩ := hrun
      have hflat : ∀ k, us[k]? = ((parts.toList.map fun p => a.eval p.2)[k / inf.size]?).bind fun v => v.cells[k % inf.size]? := by
        intro k
        rw [hus]
        have := flat_get hz (parts.toList.map fun p => a.eval p.2) hsz k
        simpa using this
      unfold Oper.wp
      have hex : (execOp a.eval o).run P w = .ok (.value (.slice (some ⟨w.heap.size, 0, none⟩) len len)) (w.alloc (.cells us el)) := by
        simp only [execOp, ho, Sem.run_bind, Sem.run_pure, hr, Result.andThen_ok]
      rw [hex]
      show next (a.put o.dst _) _
      rw [hdst]
      have hus2 : us.size = len * inf.size := by
        rw [hus]
        have : ∀ l : List Value, (∀ v ∈ l, v.cells.size = inf.size) → (l.flatMap fun v => v.cells.toList).length = l.length * inf.size := by
          intro l hl
          induction l with
          | nil => simp
          | cons v r ih =>
            simp only [List.flatMap_cons, List.length_append, List.length_cons]
            rw [ih (fun u hu => hl u (List.mem_cons_of_mem _ hu))]
            have := hl v (by simp)
            simp only [Array.length_toList, this, Nat.add_mul]
            omega
        simpa [hlen] using this _ hsz
      have hmax : len ≤ maxLen := by
        have : len ≤ len * inf.size := Nat.le_mul_of_pos_right _ hz
        unfold maxLen
        omega
      have hsim := Sim.newRow hs h hd hfree (z := inf.size) (cap := len) (xs := parts.toList.map fun p => e.rd p.2) (us := us) (t := el) (w' := w.alloc (.cells us el)) rfl rfl rfl rfl (.inl rfl)
        (by simp only [List.length_map]; omega) hmax (by omega)
        (fun j => ((parts.toList[j]?).map fun p => (a.eval p.2).cells.toList).getD []) (by
          intro j x hj
          simp only [List.getElem?_map, Option.map_eq_some_iff] at hj
          obtain ⟨p, hp, rfl⟩ := hj
          obtain ⟨h1, h2⟩ := hel j p hp
          simp only [hp, Option.map_some, Option.getD_some]
          refine ⟨e.rd_loose p.2, ⟨_, h2⟩, h1, fun q u hq => ?_⟩
          have hq' : q < inf.size := by have := (List.getElem?_eq_some_iff.1 hq).1; omega
          rw [hflat]
          have e1 : (j * inf.size + q) / inf.size = j := by rw [Nat.mul_comm, Nat.mul_add_div hz, Nat.div_eq_of_lt hq']; rfl
          have e2 : (j * inf.size + q) % inf.size = q := by rw [Nat.mul_comm, Nat.mul_add_mod, Nat.mod_eq_of_lt hq']
          rw [e1, e2]
          simp only [List.getElem?_map, hp, Option.map_some, Option.bind_some]
          simpa using hq)
      rw [List.length_map, hlen] at hsim
      exact hn _ _ _ hK hsim
    · cases hv
  · cases hv

/-- What a row of its own becomes when nobody is to write it. -/
def V.immOf : V → V
  | .ow _ xs => .sl xs
  | v => v

theorem buildSliceI_ok {o : Oper} {v : V} {t len d : Nat} {parts : Array (Nat × Operand)} {K : Env → Prop} (ho : o.op = .buildSlice t len parts) (hdst : o.dst = some d) (hd : d < n)
    (hfree : e.free d = true) (hv : newF P e o = some v) (hK : K (e.set d v.immOf)) : OpOk P w0 g0 n o e K := by
  intro a w hs next Q hn
  obtain ⟨g, h⟩ := hs.holds
  unfold newF at hv
  rw [ho] at hv
  simp only at hv
  split at hv
  · rename_i el z nb ht
    obtain ⟨hu, inf, hinf, rfl, -⟩ := tinfo_slice ht
    split at hv
    · rename_i hc
      cases hv
      obtain ⟨hidx, hsmall, hz, hzero, hw, hf⟩ := hc
      obtain ⟨zs, hzs⟩ := Option.isSome_iff_exists.1 hzero
      obtain ⟨i, zv, hi, hzv, -⟩ := zeroC_inv hzs
      rw [hinf] at hi
      cases hi
      have hlen : parts.toList.length = len := by have := congrArg List.length hidx; simpa using this
      have hel : ∀ (j : Nat) (p : Nat × Operand), parts.toList[j]? = some p → (a.eval p.2).cells.toList.length = inf.size ∧ RepC w g (some []) (e.rd p.2) (a.eval p.2).cells.toList := by
        intro j p hp
        have hmem : e.rd p.2 ∈ parts.toList.map fun p => e.rd p.2 := List.mem_map.2 ⟨p, List.mem_of_getElem? hp, rfl⟩
        have h1 := List.all_eq_true.1 hw _ hmem
        have h2 := List.all_eq_true.1 hf _ hmem
        obtain ⟨h3, _, h4⟩ := (h.rd p.2 []).plain h2
        simp at h1
        exact ⟨by omega, h4⟩
      have hsz : ∀ v ∈ parts.toList.map (fun p => a.eval p.2), v.cells.size = inf.size := by
        intro v hv
        obtain ⟨p, hp, rfl⟩ := List.mem_map.1 hv
        obtain ⟨j, hj⟩ := List.mem_iff_getElem?.1 hp
        have := (hel j p hj).1
        simpa using this
      have hrun : ∃ us : Array Value, (Instr.buildSlice t len (parts.map fun (i, x) => (i, a.eval x))).run P w = .ok (.slice (some ⟨w.heap.size, 0, none⟩) len len) (w.alloc (.cells us el)) ∧
          us = ((parts.toList.map fun p => a.eval p.2).flatMap fun v => v.cells.toList).toArray := by
        by_cases h0 : len = 0
        · subst h0
          have hp0 : parts = #[] := by
            apply Array.eq_empty_of_size_eq_zero
            simpa using hlen
          subst hp0
          refine ⟨#[], ?_, by simp⟩
          have : ∀ f : Nat → Value, (Array.range 0).map f = #[] := fun f => by apply Array.eq_empty_of_size_eq_zero; simp
          simp [Instr.buildSlice, run_underlying hu, sizeOf, typeInfo, hinf, Instr.fill, newRow]
          congr 2
          exact this _
        · have hfill := fill_whole hz (parts.toList.map fun p => a.eval p.2) ((Array.range (len * inf.size)).map (zv.cells[· % zv.cells.size]!)) hsz (by simp [hlen])
          refine ⟨_, run_buildSlice w t el len _ _ inf zv hu hinf hzv (by omega) (by have := Nat.mul_pos (Nat.pos_of_ne_zero h0) hz; omega) ?_, rfl⟩
          rw [← hfill]
          congr 1
          rw [Array.toList_map]
          have hx := zipIdx_parts e a parts.toList 0 (by rw [hidx, hlen, List.range_eq_range'])
          exact hx
      obtain ⟨us, hr, hus⟩ := hrun
      have hflat : ∀ k, us[k]? = ((parts.toList.map fun p => a.eval p.2)[k / inf.size]?).bind fun v => v.cells[k % inf.size]? := by
        intro k
        rw [hus]
        have := flat_get hz (parts.toList.map fun p => a.eval p.2) hsz k
        simpa using this
      unfold Oper.wp
      have hex : (execOp a.eval o).run P w = .ok (.value (.slice (some ⟨w.heap.size, 0, none⟩) len len)) (w.alloc (.cells us el)) := by
        simp only [execOp, ho, Sem.run_bind, Sem.run_pure, hr, Result.andThen_ok]
      rw [hex]
      show next (a.put o.dst _) _
      rw [hdst]
      have hus2 : us.size = len * inf.size := by
        rw [hus]
        have : ∀ l : List Value, (∀ v ∈ l, v.cells.size = inf.size) → (l.flatMap fun v => v.cells.toList).length = l.length * inf.size := by
          intro l hl
          induction l with
          | nil => simp
          | cons v r ih =>
            simp only [List.flatMap_cons, List.length_append, List.length_cons]
            rw [ih (fun u hu => hl u (List.mem_cons_of_mem _ hu))]
            have := hl v (by simp)
            simp only [Array.length_toList, this, Nat.add_mul]
            omega
        simpa [hlen] using this _ hsz
      have hmax : len ≤ maxLen := by
        have : len ≤ len * inf.size := Nat.le_mul_of_pos_right _ hz
        unfold maxLen
        omega
      have hsim := Sim.newImm hs h hd hfree (z := inf.size) (cap := len) (xs := parts.toList.map fun p => e.rd p.2) (us := us) (t := el) (w' := w.alloc (.cells us el)) rfl rfl rfl rfl
        (by simp only [List.length_map]; omega)
        (fun j => ((parts.toList[j]?).map fun p => (a.eval p.2).cells.toList).getD []) (by
          intro j x hj
          simp only [List.getElem?_map, Option.map_eq_some_iff] at hj
          obtain ⟨p, hp, rfl⟩ := hj
          obtain ⟨h1, h2⟩ := hel j p hp
          simp only [hp, Option.map_some, Option.getD_some]
          refine ⟨e.rd_loose p.2, ⟨_, h2⟩, h1, fun q u hq => ?_⟩
          have hq' : q < inf.size := by have := (List.getElem?_eq_some_iff.1 hq).1; omega
          rw [hflat]
          have e1 : (j * inf.size + q) / inf.size = j := by rw [Nat.mul_comm, Nat.mul_add_div hz, Nat.div_eq_of_lt hq']; rfl
          have e2 : (j * inf.size + q) % inf.size = q := by rw [Nat.mul_comm, Nat.mul_add_mod, Nat.mod_eq_of_lt hq']
          rw [e1, e2]
          simp only [List.getElem?_map, hp, Option.map_some, Option.bind_some]
          simpa using hq)
      rw [List.length_map, hlen] at hsim
      exact hn _ _ _ hK hsim
    · cases hv
  · cases hv

end
end Go.Vx

namespace Go.Vx
open Go Go.RowKit

section
variable {P : Program} {w0 : World} {g0 : Gh} {n : Nat} {e : Env} {a : Act} {w : World} {g : Gh}

theorem Env.putAt_get {e : Env} {p : Path} {u : V} {t : Nat} : (e.putAt p u).get t = match p with
    | (s + 2) :: q => if s = t then (e.get s).put q u else e.get t
    | _ => e.get t := by
  unfold Env.putAt
  split
  · rw [Env.get_set]
  · rename_i hne
    match p, hne with
    | [], _ => rfl
    | [0], _ => rfl
    | [1], _ => rfl
    | 0 :: _ :: _, _ => rfl
    | 1 :: _ :: _, _ => rfl
    | (s + 2) :: q, hne => exact (hne s q rfl).elim

/-- No label stands under slot d's path. -/
theorem Holds.clear (h : Holds w0 g0 e a w g) (d : Nat) : ∃ g', Holds w0 g0 (e.set d .un) a w g' ∧ (∀ b q, g'.lab b = some q → ¬ [d + 2] <+: q) ∧ g'.vm = g.vm ∧
    (∀ b, g.lab b = none → g'.lab b = none) ∧ ∀ b q, g.lab b = some q → ¬ [d + 2] <+: q → g'.lab b = some q := by
  classical
  let lab' : Nat → Option Path := fun b => match g.lab b with
    | some q => if [d + 2] <+: q then none else some q
    | none => none
  have h1 : ∀ b q, lab' b = some q → g.lab b = some q ∧ ¬ [d + 2] <+: q := by
    intro b q hb
    simp only [lab'] at hb
    split at hb
    · rename_i q' hq
      split at hb
      · cases hb
      · cases hb; exact ⟨hq, by assumption⟩
    · cases hb
  have h2 : ∀ b, g.lab b = none → lab' b = none := fun b hb => by simp only [lab', hb]
  have h3 : ∀ b q, g.lab b = some q → ¬ [d + 2] <+: q → lab' b = some q := fun b q hb hq => by simp only [lab', hb, hq, if_false]
  refine ⟨⟨lab', g.vm⟩, ⟨⟨?_, ?_⟩, ⟨h.fr.os, h.fr.tape, h.fr.output, h.fr.size, ?_, h.fr.vm0⟩, fun t => ?_⟩, fun b q hb => (h1 b q hb).2, rfl, h2, h3⟩
  · intro b b' q hb hb'; exact h.inj.1 b b' q (h1 _ _ hb).1 (h1 _ _ hb').1
  · intro b q hb; exact h.inj.2 b q (h1 _ _ hb).1
  · intro b hb hk
    obtain ⟨k1, k2⟩ := h.fr.keep b hb hk
    refine ⟨?_, k2⟩
    show lab' b = _
    rcases hk with hk | ⟨q, hk⟩
    · rw [hk] at k1 ⊢; exact h2 b k1
    · rw [hk] at k1 ⊢; exact h3 b _ k1 (by rw [pre_one]; omega)
  · rw [Env.get_set]
    split
    · exact .un
    · rename_i hne
      refine (h.rep t).moves ⟨Nat.le_refl _, fun b _ hb => ⟨h2 b hb, rfl⟩, fun b p hb => ⟨h3 b _ hb ?_, rfl⟩, fun p => rfl⟩ (fun p _ => rfl)
      simp only [List.cons_append, List.nil_append]; rw [pre_one]; omega

theorem drop_pre {p q : Path} : (p ++ q).drop p.length = q := by simp

/-- The marks when what stands at p is found at slot d. -/
noncomputable def Gh.rehome (g : Gh) (p : Path) (d : Nat) : Gh :=
  open Classical in
  { lab := fun b => match g.lab b with
      | some q => if p <+: q then some ((d + 2) :: q.drop p.length) else some q
      | none => none
    vm := fun q => match q with
      | x :: r => if x = d + 2 then g.vm (p ++ r) else g.vm q
      | [] => g.vm [] }

theorem Gh.rehome_none {b : Nat} {p : Path} {d : Nat} (h : g.lab b = none) : (g.rehome p d).lab b = none := by simp [Gh.rehome, h]
theorem Gh.rehome_under {b : Nat} {p q : Path} {d : Nat} (h : g.lab b = some (p ++ q)) : (g.rehome p d).lab b = some ((d + 2) :: q) := by simp [Gh.rehome, h]
theorem Gh.rehome_other {b : Nat} {p q : Path} {d : Nat} (h : g.lab b = some q) (hq : ¬ p <+: q) : (g.rehome p d).lab b = some q := by simp [Gh.rehome, h, hq]
theorem Gh.rehome_vm {p q : Path} {d : Nat} (h : q.head? ≠ some (d + 2)) : (g.rehome p d).vm q = g.vm q := by
  cases q with
  | nil => rfl
  | cons x r => simp at h; simp [Gh.rehome, h]
theorem Gh.rehome_vm' {p r : Path} {d : Nat} : (g.rehome p d).vm ((d + 2) :: r) = g.vm (p ++ r) := by simp [Gh.rehome]
theorem Gh.rehome_inv {b : Nat} {p q : Path} {d : Nat} (h : (g.rehome p d).lab b = some q) : (∃ r, g.lab b = some (p ++ r) ∧ q = (d + 2) :: r) ∨ (g.lab b = some q ∧ ¬ p <+: q) := by
  simp only [Gh.rehome] at h
  split at h
  · rename_i q' hq
    split at h
    · rename_i hp
      obtain ⟨r, rfl⟩ := hp
      cases h
      exact .inl ⟨r, by rw [hq], by simp⟩
    · rename_i hp; cases h; exact .inr ⟨hq, hp⟩
  · cases h

/-- The owner at p hands what it owns to slot d, which held nothing that matters. -/
theorem Holds.rehome (h : Holds w0 g0 e a w g) {t d : Nat} {q : Path} {z : Nat} {xs : List V} (hat : e.at ((t + 2) :: q) = some (.ow z xs)) (hd : e.get d = .un) (hfree : e.free d = true)
    (hlab : ∀ b q, g.lab b = some q → ¬ [d + 2] <+: q) (hds : d < a.tmps.size) :
    Holds w0 g0 ((e.putAt ((t + 2) :: q) .un).set d (.ow z xs)) (a.put (some d) (g.vm ((t + 2) :: q))) w (g.rehome ((t + 2) :: q) d) ∧
      (g.rehome ((t + 2) :: q) d).vm [d + 2] = g.vm ((t + 2) :: q) := by
  have htd : t ≠ d := by
    rintro rfl
    simp only [Env.at, hd] at hat
    cases q <;> simp [V.sub, V.kids] at hat
  obtain ⟨c0, hrow, hvm⟩ := h.at_ow hat
  have hpre : ∀ r : Path, ¬ ((t + 2) :: q) <+: ((d + 2) :: r) := by
    rintro r ⟨s, hs⟩
    simp at hs
    omega
  have hk : ∀ b, g.lab b = none → (g.rehome ((t + 2) :: q) d).lab b = none := fun b hb => Gh.rehome_none hb
  refine ⟨⟨⟨?_, ?_⟩, ⟨h.fr.os, h.fr.tape, h.fr.output, h.fr.size, ?_, ?_⟩, fun s => ?_⟩, by rw [Gh.rehome_vm']; simp⟩
  · intro b b' p hb hb'
    rcases Gh.rehome_inv hb with ⟨r, h1, rfl⟩ | ⟨h1, h2⟩
    · rcases Gh.rehome_inv hb' with ⟨r', h1', e'⟩ | ⟨h1', h2'⟩
      · simp at e'; subst e'; exact h.inj.1 b b' _ h1 h1'
      · exact (hlab b' _ h1' (pre_one.2 rfl)).elim
    · rcases Gh.rehome_inv hb' with ⟨r', h1', rfl⟩ | ⟨h1', h2'⟩
      · exact (hlab b _ h1 (pre_one.2 rfl)).elim
      · exact h.inj.1 b b' _ h1 h1'
  · intro b p hb
    rcases Gh.rehome_inv hb with ⟨r, h1, rfl⟩ | ⟨h1, h2⟩ <;> exact h.inj.2 b _ h1
  · intro b hb hk'
    obtain ⟨k1, k2⟩ := h.fr.keep b hb hk'
    refine ⟨?_, k2⟩
    rcases hk' with hk' | ⟨r, hk'⟩
    · rw [hk'] at k1 ⊢; exact Gh.rehome_none k1
    · rw [hk'] at k1 ⊢; exact Gh.rehome_other k1 (by rintro ⟨s, hs⟩; simp at hs)
  · intro p
    rw [Gh.rehome_vm (by simp)]
    exact h.fr.vm0 p
  · have hdk : dOk a.tmps.size (some d) = true := by simpa [dOk] using hds
    rw [Env.get_set, dOk_put rfl hdk]
    by_cases hsd : d = s
    · subst hsd
      simp only [if_true]
      refine .one (by simp) (.c ?_)
      have hm : Moves w g w (g.rehome ((t + 2) :: q) d) ((t + 2) :: q) [d + 2] :=
        ⟨Nat.le_refl _, fun b _ hb => ⟨hk b hb, rfl⟩, fun b p hb => ⟨by simpa using Gh.rehome_under hb, rfl⟩, fun p => Gh.rehome_vm'⟩
      rw [← hvm]
      exact hrow.moves rfl hm
    · simp only [hsd, if_false, Option.some.injEq]
      rw [Env.putAt_get]
      simp only
      have href : ∀ p ∈ (e.get s).refs, (g.rehome ((t + 2) :: q) d).vm p = g.vm p := fun p hp => Gh.rehome_vm (Env.free_refs hfree p hp)
      by_cases hts : t = s
      · subst hts
        simp only [if_true]
        refine RepS.put q (by simp) (h.rep t) hat ?_ href (fun cs hcs => ?_) (fun cs hcs => .un) (fun c hc => .un)
        · refine ⟨Nat.le_refl _, fun b _ hb => ⟨hk b hb, rfl⟩, fun b p hb _ hp => ⟨Gh.rehome_other hb (by simpa using hp), rfl⟩, fun p hp _ => ?_⟩
          refine Gh.rehome_vm ?_
          rw [hp]
          simp
          omega
        · obtain ⟨c, rfl⟩ := hcs.width (by simp)
          exact .un
      · simp only [hts, if_false]
        refine (h.rep s).moves ⟨Nat.le_refl _, fun b _ hb => ⟨hk b hb, rfl⟩, fun b p hb => ⟨Gh.rehome_other hb ?_, rfl⟩, fun p => ?_⟩ href
        · rintro ⟨r, hr⟩; simp at hr; omega
        · rw [Gh.rehome_vm]; simp; omega

end
end Go.Vx

namespace Go.Vx
open Go Go.RowKit

section
variable {P : Program} {w0 : World} {g0 : Gh} {n : Nat} {e : Env} {a : Act} {w : World} {g : Gh}

/-- What is appended, as the machine reads it: m elements, these cells. -/
structure Src (P : Program) (w : World) (z : Nat) (cx : Value) (m : Nat) (news : List Value) : Prop where
  len : ∀ k, (Builtin.lenOf cx).run P { w with drawn := k } = .ok m { w with drawn := k }
  cells : ∀ k, (Builtin.firstCells z m cx).run P { w with drawn := k } = .ok news.toArray { w with drawn := k }
  size : news.length = m * z
  one : ∀ u ∈ news, u.oneCell' = true

def noInt (P : Program) (t : TypeId) : Prop := ∃ d, P.underlying t = some d ∧ ∀ k, d ≠ .int k

theorem run_zeros {t : TypeId} (h : noInt P t) (w : World) : (do pure ((← underlying t) matches .int _) : Sem Bool).run P w = .ok false w := by
  obtain ⟨d, hd, hk⟩ := h
  simp only [Sem.run_bind, run_underlying hd, Result.andThen_ok]
  cases d <;> first | rfl | exact (hk _ rfl).elim

theorem grow_fits {need cap nb : Nat} (hlt : cap < need) (h : need * nb ≤ 140737488355328) : Builtin.nextslicecap need cap * nb ≤ 281474976710656 :=
  growslice_fits hlt h

/-- A row that must grow: a new block. -/
theorem run_append_new {t t2 ty el : TypeId} {i : TypeInfo} {zv : Value} (ht : P.underlying t = some (.slice el)) (h2 : noInt P t2) (hi : P.info? el = some i) (hz : i.zero = some zv)
    {s : Option Addr} {sLen sCap m : Nat} {olds news : List Value} {cx : Value} (hs : (Builtin.firstCells i.size sLen (.slice s sLen sCap)).run P w.drew = .ok olds.toArray w.drew) (hsrc : Src P w i.size cx m news)
    (hg : sCap < sLen + m) (h63 : sLen + m ≤ maxLen) (hb : (sLen + m) * i.bytes ≤ 140737488355328) :
    (Builtin.append_ #[t, t2] ty #[.slice s sLen sCap, cx]).run P w =
      .ok (.slice (some ⟨w.heap.size, 0, none⟩) (sLen + m) (grownCap w (sLen + m) sCap el))
        (w.drew.alloc (.cells (olds.toArray ++ news.toArray ++ Builtin.zeroCells zv.cells (grownCap w (sLen + m) sCap el - (sLen + m))) el)) := by
  have hn : ¬ (sLen + m ≤ sCap) := by omega
  have h63' : ¬ (9223372036854775807 < ((sLen : Int) + (m : Int))) := by unfold maxLen at h63; omega
  have hfit := grow_fits hg hb
  have h48' : ¬ (281474976710656 < Builtin.nextslicecap (sLen + m) sCap * i.bytes) := by omega
  have hl := hsrc.len w.drawn
  have hc := hsrc.cells (w.drawn + 1)
  have hl' : (Builtin.lenOf cx).run P w = .ok m w := hl
  have hc' : (Builtin.firstCells i.size m cx).run P w.drew = .ok news.toArray w.drew := hc
  obtain ⟨d, hd, hk⟩ := h2
  have hm : (match d with | .int _ => true | _ => false) = false := by cases d <;> first | rfl | exact (hk _ rfl).elim
  simp [Builtin.append_, run_underlying ht, run_underlying hd, hm, sizeOf, typeInfo, zeroValue, hi, hz, hl', hn, h63', h48', Question.forced, hc', hs, newRow, grownCap]
  congr 2
  apply Array.ext'
  simp

theorem splice_size {cur : Array Value} {us : List Value} {k : Nat} (h : k + us.length ≤ cur.size) :
    (cur.toList.take k ++ us ++ cur.toList.drop (k + us.length)).toArray.size = cur.size := by simp; omega

theorem Lies.setRow {w : World} {blk : Nat} {cur cur' : Array Value} {ty : TypeId} (h : Lies w blk cur ty) (hn : cur'.size = cur.size) : Lies (w.setRow blk cur') blk cur' ty := by
  obtain ⟨fr, h1, h2⟩ := h
  exact ⟨fr, setRow_heap w blk cur cur' ty fr h1, by rw [hn]; exact h2⟩

/-- Cells are stored where no mark is. -/
theorem run_storeCells_atL (P : Program) (g o : Nat) (t : TypeId) : ∀ (vs : List Value) (i : Nat) (cur : Array Value) (w : World), Lies w g cur t → o + i + vs.length ≤ cur.size → (∀ v ∈ vs, v.oneCell' = true) →
    (storeCells ⟨g, o, none⟩ vs i).run P w = .ok () (w.setRow g (cur.toList.take (o + i) ++ vs ++ cur.toList.drop (o + i + vs.length)).toArray)
  | [], i, cur, w, hg, _, _ => by
    obtain ⟨fr, hg, _⟩ := hg
    simp only [storeCells, List.append_nil, List.length_nil, Nat.add_zero, List.take_append_drop, Array.toArray_toList]
    rw [setRow_self w g cur t fr hg]
    rfl
  | v :: rest, i, cur, w, hg, hl, h1 => by
    have hg0 := hg
    obtain ⟨fr, hg, hfr⟩ := hg
    have hi : o + i < cur.size := by simp at hl; omega
    have hadd : (⟨g, o, none⟩ : Addr).add i = ⟨g, o + i, none⟩ := by unfold Addr.add; split <;> simp_all
    have hcell : w.cell? ⟨g, o + i, none⟩ = some cur[o + i] := by simp [World.cell?, hg, hi]
    have hfro : w.frozen? ⟨g, o + i, none⟩ = false := by
      obtain ⟨lo, hi'⟩ := fr
      simp only [World.frozen?, hg, Bool.and_eq_false_iff, decide_eq_false_iff_not]
      rcases hfr with h | h <;> simp only at h
      · right; omega
      · left; omega
    have hst : (store ((⟨g, o, none⟩ : Addr).add i) v).run P w = .ok () (w.setRow g (cur.setIfInBounds (o + i) v)) := by
      rw [hadd, run_store P w _ v _ (h1 v (by simp)), hcell]
      simp [hfro, setCell_eq_setRow w g (o + i) cur t fr v hg]
    have ih := run_storeCells_atL P g o t rest (i + 1) (cur.setIfInBounds (o + i) v) (w.setRow g (cur.setIfInBounds (o + i) v)) (hg0.setRow (by simp)) (by simp at hl ⊢; omega) (fun x hx => h1 x (by simp [hx]))
    simp only [storeCells, Sem.run_bind, hst, Result.andThen_ok, ih, setRow_setRow]
    congr 3
    have e := list_seg_step cur.toList (o + i) v rest (by simp at hl ⊢; omega)
    simpa [Array.toList_setIfInBounds, Nat.add_assoc] using e

/-- A row with room. -/
theorem run_append_in {t t2 ty el : TypeId} {i : TypeInfo} (ht : P.underlying t = some (.slice el)) (h2 : noInt P t2) (hi : P.info? el = some i)
    {blk o sLen sCap m : Nat} {news : List Value} {cx : Value} {cur : Array Value} {tyb : TypeId} (hg : Lies w blk cur tyb) (hsrc : Src P w i.size cx m news)
    (hroom : sLen + m ≤ sCap) (hfit : o + sLen * i.size + news.length ≤ cur.size) :
    (Builtin.append_ #[t, t2] ty #[.slice (some ⟨blk, o, none⟩) sLen sCap, cx]).run P w =
      .ok (.slice (some ⟨blk, o, none⟩) (sLen + m) sCap)
        (w.setRow blk (cur.toList.take (o + sLen * i.size) ++ news ++ cur.toList.drop (o + sLen * i.size + news.length)).toArray) := by
  have hl := hsrc.len w.drawn
  have hc := hsrc.cells w.drawn
  have hl' : (Builtin.lenOf cx).run P w = .ok m w := hl
  have hc' : (Builtin.firstCells i.size m cx).run P w = .ok news.toArray w := hc
  have hst := run_storeCells_atL P blk (o + sLen * i.size) tyb news 0 cur w hg (by simpa using hfit) hsrc.one
  simp only [Nat.add_zero] at hst
  obtain ⟨d, hd, hk⟩ := h2
  have hm : (match d with | .int _ => true | _ => false) = false := by cases d <;> first | rfl | exact (hk _ rfl).elim
  simp [Builtin.append_, run_underlying ht, run_underlying hd, hm, sizeOf, typeInfo, hi, hl', hroom, hc', add_addr, hst]

/-- The marks when slot d's row lies in block blk, of value c. -/
noncomputable def Gh.reroot (g : Gh) (d blk : Nat) (c : Value) : Gh :=
  open Classical in
  { lab := fun b => if b = blk then some [d + 2] else if g.lab b = some [d + 2] then none else g.lab b
    vm := fun p => if p = [d + 2] then c else g.vm p }

/-- Slot d's row lies anew, with these elements; what else is owned, and what nobody writes, stays. -/
theorem Holds.reroot (hs : Sim w0 g0 n e a w) (h : Holds w0 g0 e a w g) {d : Nat} (hd : d < n) (hfree : e.free d = true) {z : Nat} {xs ys : List V} (hget : e.get d = .ow z xs) {w' : World}
    (hos : w'.os = w.os) (htape : w'.tape = w.tape) (hout : w'.output = w.output) (hsize : w.heap.size ≤ w'.heap.size)
    (hold : ∀ b, b < w.heap.size → g.lab b ≠ some [d + 2] → w'.heap[b]? = w.heap[b]?)
    {blk o cap : Nat} {us : Array Value} {ty : TypeId} {c : Value} (hblk : Lies w' blk us ty) (hnew : g.lab blk = some [d + 2] ∨ w.heap.size ≤ blk)
    (hc : c = .slice (some ⟨blk, o, none⟩) (xs ++ ys).length cap) (hcap : (xs ++ ys).length ≤ cap) (hmax : cap ≤ maxLen) (hroom : o + cap * z ≤ us.size) (ch : Nat → List Value)
    (hx : ∀ (j : Nat) (x : V), xs[j]? = some x → RepC w g (some ([d + 2] ++ [j])) x (ch j)) (hy : ∀ (j : Nat) (y : V), ys[j]? = some y → y.loose = true ∧ ∃ o, RepC w g o y (ch (xs.length + j)))
    (hz : ∀ j, j < (xs ++ ys).length → (ch j).length = z ∧ ∀ q u, (ch j)[q]? = some u → us[o + j * z + q]? = some u) :
    Sim w0 g0 n (e.set d (.ow z (xs ++ ys))) (a.put (some d) c) w' := by
  subst hc
  have hdk : dOk n (some d) = true := by simpa [dOk] using hd
  have hblt : blk < w'.heap.size := hblk.lt
  have l1 : ∀ b q, (g.reroot d blk (.slice (some ⟨blk, o, none⟩) (xs ++ ys).length cap)).lab b = some q → (b = blk ∧ q = [d + 2]) ∨ (b ≠ blk ∧ q ≠ [d + 2] ∧ g.lab b = some q) := by
    intro b q hb
    simp only [Gh.reroot] at hb
    split at hb
    · cases hb; exact .inl ⟨by assumption, rfl⟩
    · split at hb
      · cases hb
      · rename_i h1 h2; exact .inr ⟨h1, fun e => h2 (by rw [hb, e]), hb⟩
  have l2 : ∀ b, b < w.heap.size → g.lab b = none → (g.reroot d blk (.slice (some ⟨blk, o, none⟩) (xs ++ ys).length cap)).lab b = none := by
    intro b hb hl
    have : b ≠ blk := by
      rintro rfl
      rcases hnew with h1 | h1
      · rw [hl] at h1; cases h1
      · omega
    simp [Gh.reroot, this, hl]
  have l3 : ∀ b q, g.lab b = some q → q ≠ [d + 2] → (g.reroot d blk (.slice (some ⟨blk, o, none⟩) (xs ++ ys).length cap)).lab b = some q := by
    intro b q hb hq
    have : b ≠ blk := by
      rintro rfl
      rcases hnew with h1 | h1
      · rw [hb] at h1; cases h1; exact hq rfl
      · have := h.inj.2 _ _ hb; omega
    simp [Gh.reroot, this, hb, hq]
  have hkeeps : Keeps w g w' (g.reroot d blk (.slice (some ⟨blk, o, none⟩) (xs ++ ys).length cap)) := ⟨hsize, fun b hb hl => ⟨l2 b hb hl, hold b hb (by rw [hl]; simp)⟩⟩
  refine ⟨⟨g.reroot d blk (.slice (some ⟨blk, o, none⟩) (xs ++ ys).length cap), ⟨?_, ?_⟩, ⟨hos.trans h.fr.os, htape.trans h.fr.tape, hout.trans h.fr.output, Nat.le_trans h.fr.size hsize, ?_, ?_⟩, fun t => ?_⟩, by rw [put_defers]; exact hs.defers, by rw [put_size]; exact hs.size⟩
  · intro b b' q hb hb'
    rcases l1 b q hb with ⟨rfl, rfl⟩ | ⟨h1, h2, h3⟩
    · rcases l1 b' _ hb' with ⟨rfl, _⟩ | ⟨_, h2', _⟩
      · rfl
      · exact (h2' rfl).elim
    · rcases l1 b' _ hb' with ⟨_, rfl⟩ | ⟨_, _, h3'⟩
      · exact (h2 rfl).elim
      · exact h.inj.1 _ _ _ h3 h3'
  · intro b q hb
    rcases l1 b q hb with ⟨rfl, rfl⟩ | ⟨_, _, h3⟩
    · exact hblt
    · exact Nat.lt_of_lt_of_le (h.inj.2 _ _ h3) hsize
  · intro b hb hk
    have hlt := Nat.lt_of_lt_of_le hb h.fr.size
    obtain ⟨k1, k2⟩ := h.fr.keep b hb hk
    rcases hk with hk | ⟨q, hk⟩
    · rw [hk] at k1 ⊢; exact ⟨l2 b hlt k1, (hold b hlt (by rw [k1]; simp)).trans k2⟩
    · rw [hk] at k1 ⊢; exact ⟨l3 b _ k1 (by simp), (hold b hlt (by rw [k1]; simp)).trans k2⟩
  · intro p
    have : (0 :: p) ≠ [d + 2] := by simp
    simp only [Gh.reroot, this, if_false]
    exact h.fr.vm0 p
  · rw [Env.get_set, dOk_put hs.size hdk]
    by_cases ht : d = t
    · subst ht
      simp only [if_true]
      refine .one (by simp) (.c (.ow blk o z cap us ty ch (by simp [Gh.reroot]) (by simp [Gh.reroot]) hblk hcap hmax hroom (fun j hj => (hz j hj).1) (fun j hj => (hz j hj).2) ?_))
      intro j x hj
      rw [List.getElem?_append] at hj
      split at hj
      · refine (hx j x hj).moves rfl ⟨hsize, hkeeps.imm, fun b p hb => ⟨l3 b _ hb (by simp), hold b (h.inj.2 _ _ hb) (by rw [hb]; simp)⟩, fun p => ?_⟩
        simp [Gh.reroot]
      · rename_i hlt
        obtain ⟨h1, o', h2⟩ := hy _ x hj
        rw [show xs.length + (j - xs.length) = j by omega] at h2
        exact h2.keep h1 hkeeps _
    · simp only [ht, if_false, Option.some.injEq]
      refine (h.rep t).moves ⟨hsize, hkeeps.imm, fun b p hb => ⟨l3 b _ hb (by simp; omega), hold b (h.inj.2 _ _ hb) (by rw [hb]; simp; omega)⟩, fun p => ?_⟩ (fun p hp => ?_)
      · have : [t + 2] ++ p ≠ [d + 2] := by simp; omega
        simp only [Gh.reroot, this, if_false]
      · have h1 := Env.free_refs hfree p hp
        have : p ≠ [d + 2] := by rintro rfl; simp at h1
        simp only [Gh.reroot, this, if_false]

end
end Go.Vx

namespace Go.Vx
open Go Go.RowKit Go.Great

section
variable {P : Program} {w0 : World} {g0 : Gh} {n : Nat} {e : Env} {a : Act} {w : World} {g : Gh}

theorem RepC.one_plain {o : Option Path} {v : V} {cs : List Value} (h : RepC w g o v cs) (hp : v.cs.all V.plain = true) : ∀ u ∈ cs, u.oneCell' = true := by
  have cell : ∀ {o : Option Path} {v : V} {c : Value}, RepC w g o v [c] → v.plain = true → c.oneCell' = true := by
    intro o v c h hp
    cases h <;> first | rfl | (simp [V.plain] at hp)
  intro u hu
  cases v with
  | ag ks =>
    obtain ⟨hn, hk⟩ := h.ag_inv
    obtain ⟨f, hf⟩ := List.mem_iff_getElem?.1 hu
    have hlt := (List.getElem?_eq_some_iff.1 hf).1
    have hx : ks[f]? = some ks[f] := List.getElem?_eq_getElem (by omega)
    exact cell (hk f _ u hx hf) (List.all_eq_true.1 hp _ (List.mem_of_getElem? hx))
  | _ =>
    obtain ⟨c, rfl⟩ := h.width (by simp)
    simp at hu
    subst hu
    exact cell h (by simpa [V.cs] using hp)

theorem cell_drawn {k : Nat} {ad : Addr} : ({ w with drawn := k } : World).cell? ad = w.cell? ad := rfl

theorem flat_chunks {z : Nat} (hz : 0 < z) (m : Nat) (ch : Nat → List Value) (h : ∀ j, j < m → (ch j).length = z) :
    ((List.range m).flatMap ch).length = m * z ∧ ∀ j q, j < m → q < z → ((List.range m).flatMap ch)[j * z + q]? = (ch j)[q]? := by
  induction m with
  | zero => simp
  | succ m ih =>
    obtain ⟨h1, h2⟩ := ih (fun j hj => h j (by omega))
    have hm := h m (by omega)
    rw [List.range_succ, List.flatMap_append]
    constructor
    · simp [h1, hm, Nat.add_mul]
    · intro j q hj hq
      rw [List.getElem?_append]
      by_cases hjm : j < m
      · have : j * z + q < m * z := by
          have : j * z + z ≤ m * z := by rw [← Nat.succ_mul]; exact Nat.mul_le_mul_right _ hjm
          omega
        rw [if_pos (by rw [h1]; exact this)]
        exact h2 j q hjm hq
      · have hj' : j = m := by omega
        subst hj'
        rw [if_neg (by rw [h1]; omega), h1, show j * z + q - j * z = q by omega]
        simp

theorem src_ok (h : Holds w0 g0 e a w g) {z : Nat} (hz : 0 < z) {x : V} {cx : Value} {ρ : Path} {ys : List V} (hx : RepS w g ρ x cx) (hs : srcOf e z x = some ys) :
    ∃ ch : Nat → List Value, Src P w z cx ys.length ((List.range ys.length).flatMap ch) ∧
      ∀ (j : Nat) (y : V), ys[j]? = some y → y.loose = true ∧ (∃ o, RepC w g o y (ch j)) ∧ (ch j).length = z := by
  unfold srcOf at hs
  split at hs
  · rename_i l
    split at hs
    · rename_i hz1
      subst hz1
      cases hs
      obtain rfl := hx.s_inv
      have hfl := flat_chunks (z := 1) (by omega) (l.map byteV).length (fun j => ((l[j]?).map fun b => [Value.int .u8 b.toNat]).getD []) (fun j hj => by
        have hj' : j < l.length := by simpa using hj
        simp [List.getElem?_eq_getElem hj'])
      have hall : (List.range (l.map byteV).length).flatMap (fun j => ((l[j]?).map fun b => [Value.int .u8 b.toNat]).getD []) = l.map fun b => Value.int .u8 b.toNat := by
        apply List.ext_getElem?
        intro j
        by_cases hj : j < l.length
        · have := hfl.2 j 0 (by simpa using hj) (by omega)
          rw [show j * 1 + 0 = j by omega] at this
          rw [this]
          simp [List.getElem?_eq_getElem hj]
        · rw [List.getElem?_eq_none (by rw [hfl.1]; simp; omega), List.getElem?_eq_none (by simp; omega)]
      refine ⟨fun j => ((l[j]?).map fun b => [Value.int .u8 b.toNat]).getD [], ⟨fun k => ?_, fun k => ?_, hfl.1, ?_⟩, ?_⟩
      · simp [Builtin.lenOf, bsize]
      · rw [hall]
        have e2 : (⟨l.toArray⟩ : ByteArray).extract 0 (l.map byteV).length = ⟨l.toArray⟩ := by rw [extract_mk]; simp
        simp only [Builtin.firstCells, Sem.run_pure, e2]
        simp
      · intro u hu
        obtain ⟨j, hj, hu⟩ := List.mem_flatMap.1 hu
        simp at hj
        simp [List.getElem?_eq_getElem hj] at hu
        subst hu
        rfl
      · intro j y hj
        simp only [List.getElem?_map, Option.map_eq_some_iff] at hj
        obtain ⟨b, hb, rfl⟩ := hj
        simp only [hb, Option.map_some, Option.getD_some]
        exact ⟨rfl, ⟨none, .i⟩, rfl⟩
    · cases hs
  · split at hs
    · rename_i ys' hrow
      split at hs
      · rename_i hc
        cases hs
        obtain ⟨hw, hf⟩ := hc
        have hw' : ∀ (j : Nat) (y : V), ys[j]? = some y → y.cs.length = z := fun j y hj => by simpa using List.all_eq_true.1 hw y (List.mem_of_getElem? hj)
        have hf' : ∀ (j : Nat) (y : V), ys[j]? = some y → y.cs.all V.plain = true := fun j y hj => List.all_eq_true.1 hf y (List.mem_of_getElem? hj)
        obtain ⟨s, c, rfl, hys⟩ := row_read h hx hrow
        rcases hys with rfl | ⟨blk, o, zr, ch, rfl, hch⟩
        · refine ⟨fun _ => [], ⟨fun k => ?_, fun k => ?_, by simp, by simp⟩, fun j y hj => by simp at hj⟩
          · simp [Builtin.lenOf]
          · cases s <;> simp [Builtin.firstCells, loadCells, loadCellsFrom]
        · have hlen : ∀ j, j < ys.length → (ch j).length = z := by
            intro j hj
            obtain ⟨h1, _, o', h3⟩ := hch j _ (List.getElem?_eq_getElem hj)
            rw [h3.len, hw' j _ (List.getElem?_eq_getElem hj)]
          obtain ⟨f1, f2⟩ := flat_chunks hz ys.length ch hlen
          refine ⟨ch, ⟨fun k => ?_, fun k => ?_, f1, ?_⟩, ?_⟩
          · simp [Builtin.lenOf]
          · have := run_firstCells_some (P := P) ({ w with drawn := k } : World) z ys.length ⟨blk, o, none⟩ ys.length c ((List.range ys.length).flatMap ch) f1 (fun j v hv => by
              have hlt := (List.getElem?_eq_some_iff.1 hv).1
              rw [f1] at hlt
              have hj1 : j / z < ys.length := (Nat.div_lt_iff_lt_mul hz).2 hlt
              have hq := Nat.mod_lt j hz
              have hdm : j / z * z + j % z = j := by rw [Nat.mul_comm]; exact Nat.div_add_mod j z
              rw [← hdm, f2 _ _ hj1 hq] at hv
              obtain ⟨h1, h2, _⟩ := hch _ _ (List.getElem?_eq_getElem hj1)
              have hzr : zr = z := by rw [← h1]; exact hlen _ hj1
              subst hzr
              have := h2 _ _ hv
              rw [add_addr, cell_drawn]
              rw [show o + j = o + j / zr * zr + j % zr by omega]
              exact this)
            exact this
          · intro u hu
            obtain ⟨j, hj, hu⟩ := List.mem_flatMap.1 hu
            simp at hj
            obtain ⟨_, _, o', h3⟩ := hch j _ (List.getElem?_eq_getElem hj)
            exact h3.one_plain (hf' j _ (List.getElem?_eq_getElem hj)) u hu
          · intro j y hj
            have hlt := (List.getElem?_eq_some_iff.1 hj).1
            obtain ⟨_, _, h3⟩ := hch j y hj
            exact ⟨plain_loose (hf' j y hj), h3, hlen j hlt⟩
      · cases hs
    · cases hs

end
end Go.Vx

namespace Go.Vx
open Go Go.RowKit Go.Great

section
variable {P : Program} {w0 : World} {g0 : Gh} {n : Nat} {e : Env} {a : Act} {w : World} {g : Gh}

theorem Env.free_set {e : Env} {d t : Nat} {v : V} (h : e.free d = true) (hv : v.refs = []) : (e.set t v).free d = true := by
  induction e with
  | nil => simp [Env.set, Env.free, hv]
  | cons p r ih =>
    obtain ⟨b, x⟩ := p
    simp only [Env.free, List.all_cons, Bool.and_eq_true] at h
    simp only [Env.set]
    split
    · simp only [Env.free, List.all_cons, Bool.and_eq_true, hv]
      exact ⟨by simp, h.2⟩
    · simp only [Env.free, List.all_cons, Bool.and_eq_true]
      exact ⟨h.1, ih h.2⟩

theorem put_put {a : Act} {d : Nat} {c c' : Value} : (a.put (some d) c).put (some d) c' = a.put (some d) c' := by
  simp [Act.put]

theorem Sim.congr {e' : Env} (h : Sim w0 g0 n e a w) (he : ∀ t, e'.get t = e.get t) : Sim w0 g0 n e' a w := by
  obtain ⟨⟨g, h1, h2, h3⟩, h4, h5⟩ := h
  exact ⟨⟨g, h1, h2, fun t => by rw [he]; exact h3 t⟩, h4, h5⟩

theorem Env.set_set_get (e : Env) (d : Nat) (u v : V) (t : Nat) : ((e.set d u).set d v).get t = (e.set d v).get t := by
  simp only [Env.get_set]
  split <;> rfl

theorem isUn_eq {v : V} (h : v.isUn = true) : v = .un := by cases v <;> simp [V.isUn] at h <;> rfl

/-- From slot d's own row on: append, and slot d has it. -/
theorem append_own {t t2 ty el : TypeId} {i : TypeInfo} {zv : Value} (ht : P.underlying t = some (.slice el)) (h2 : noInt P t2) (hi : P.info? el = some i) (hzv : i.zero = some zv) (hzl : zv.cells.size = i.size)
    (hz : 0 < i.size) (hs : Sim w0 g0 n e a w) (h : Holds w0 g0 e a w g) {d : Nat} (hd : d < n) (hfree : e.free d = true) {xs ys : List V} (hget : e.get d = .ow i.size xs) {c cx : Value} (hc : c = g.vm [d + 2])
    {ch : Nat → List Value} (hsrc : Src P w i.size cx ys.length ((List.range ys.length).flatMap ch))
    (hch : ∀ (j : Nat) (y : V), ys[j]? = some y → y.loose = true ∧ (∃ o, RepC w g o y (ch j)) ∧ (ch j).length = i.size)
    (hlen : xs.length + ys.length ≤ maxLen) (hb : (xs.length + ys.length) * i.bytes ≤ 140737488355328) :
    ∃ v' w', (Builtin.append_ #[t, t2] ty #[c, cx]).run P w = .ok v' w' ∧ Sim w0 g0 n (e.set d (.ow i.size (xs ++ ys))) (a.put (some d) v') w' ∧ ∀ b, b < w.heap.size → g.lab b ≠ some [d + 2] → w'.heap[b]? = w.heap[b]? := by
  have hat : e.at [d + 2] = some (.ow i.size xs) := by simp [Env.at, hget, V.sub]
  obtain ⟨c0, hrow, hvm⟩ := h.at_ow hat
  rw [← hc] at hvm
  subst hvm
  have hchl : ∀ j, j < ys.length → (ch j).length = i.size := fun j hj => (hch j _ (List.getElem?_eq_getElem hj)).2.2
  obtain ⟨n1, n2⟩ := flat_chunks hz ys.length ch hchl
  -- a new block
  have fresh : ∀ (s : Option Addr) (sCap : Nat) (chO : Nat → List Value), c0 = .slice s xs.length sCap → sCap < xs.length + ys.length →
      (Builtin.firstCells i.size xs.length (.slice s xs.length sCap)).run P w.drew = .ok ((List.range xs.length).flatMap chO).toArray w.drew →
      (∀ j, j < xs.length → (chO j).length = i.size) → (∀ (j : Nat) (x : V), xs[j]? = some x → RepC w g (some ([d + 2] ++ [j])) x (chO j)) →
      ∃ v' w', (Builtin.append_ #[t, t2] ty #[c0, cx]).run P w = .ok v' w' ∧ Sim w0 g0 n (e.set d (.ow i.size (xs ++ ys))) (a.put (some d) v') w' ∧ ∀ b, b < w.heap.size → g.lab b ≠ some [d + 2] → w'.heap[b]? = w.heap[b]? := by
    intro s sCap chO hcs hlt hfc hcl hco
    obtain ⟨o1, o2⟩ := flat_chunks hz xs.length chO hcl
    have hrun := run_append_new (ty := ty) ht h2 hi hzv hfc hsrc hlt hlen hb
    rw [← hcs] at hrun
    refine ⟨_, _, hrun, ?_, fun b hb' _ => Below.heap_alloc w.drew _ b hb'⟩
    have hge := grownCap_ge w (xs.length + ys.length) sCap el
    have hcm := grownCap_le_maxLen w (xs.length + ys.length) sCap el hlen
    have hnewheap : (w.drew.alloc (.cells (((List.range xs.length).flatMap chO).toArray ++ ((List.range ys.length).flatMap ch).toArray ++ Builtin.zeroCells zv.cells (grownCap w (xs.length + ys.length) sCap el - (xs.length + ys.length))) el)).heap[w.heap.size]? =
        some (.cells (((List.range xs.length).flatMap chO).toArray ++ ((List.range ys.length).flatMap ch).toArray ++ Builtin.zeroCells zv.cells (grownCap w (xs.length + ys.length) sCap el - (xs.length + ys.length))) el (0, 0)) := heap_alloc_new w.drew _
    have hsz' : w.heap.size ≤ (w.drew.alloc (.cells (((List.range xs.length).flatMap chO).toArray ++ ((List.range ys.length).flatMap ch).toArray ++ Builtin.zeroCells zv.cells (grownCap w (xs.length + ys.length) sCap el - (xs.length + ys.length))) el)).heap.size := by simp
    refine Holds.reroot hs h hd hfree hget (w' := w.drew.alloc (.cells (((List.range xs.length).flatMap chO).toArray ++ ((List.range ys.length).flatMap ch).toArray ++ Builtin.zeroCells zv.cells (grownCap w (xs.length + ys.length) sCap el - (xs.length + ys.length))) el))
      (o := 0) (cap := grownCap w (xs.length + ys.length) sCap el) rfl rfl rfl hsz' (fun b hb' _ => Below.heap_alloc w.drew _ b hb') (.new hnewheap) (.inr (Nat.le_refl _)) (by simp) (by simpa using hge) hcm ?_
      (fun j => if j < xs.length then chO j else ch (j - xs.length)) ?_ ?_ ?_
    · simp only [Array.size_append, List.size_toArray, o1, n1, size_zeroCells, hzl, ← Nat.add_mul, Nat.zero_add]
      exact Nat.mul_le_mul_right _ (by omega)
    · intro j x hj
      have := (List.getElem?_eq_some_iff.1 hj).1
      simp only [this, if_true]
      exact hco j x hj
    · intro j y hj
      have : ¬ (xs.length + j < xs.length) := by omega
      simp only [this, if_false, show xs.length + j - xs.length = j by omega]
      exact ⟨(hch j y hj).1, (hch j y hj).2.1⟩
    · intro j hj
      simp only [List.length_append] at hj
      by_cases hjx : j < xs.length
      · simp only [hjx, if_true]
        refine ⟨hcl j hjx, fun q u hq => ?_⟩
        have hq' : q < i.size := by have := (List.getElem?_eq_some_iff.1 hq).1; rw [hcl j hjx] at this; exact this
        have h3 := o2 j q hjx hq'
        rw [hq] at h3
        have hl := (List.getElem?_eq_some_iff.1 h3).1
        have hjm : j * i.size + i.size ≤ xs.length * i.size := by rw [← Nat.succ_mul]; exact Nat.mul_le_mul_right _ hjx
        simp only [Nat.zero_add]
        rw [Array.getElem?_append_left (by rw [Array.size_append, List.size_toArray, List.size_toArray, o1, n1]; omega), Array.getElem?_append_left (by simpa using hl)]
        simpa using h3
      · simp only [hjx, if_false]
        have hjy : j - xs.length < ys.length := by omega
        refine ⟨hchl _ hjy, fun q u hq => ?_⟩
        have hq' : q < i.size := by have := (List.getElem?_eq_some_iff.1 hq).1; rw [hchl _ hjy] at this; exact this
        have h3 := n2 _ q hjy hq'
        rw [hq] at h3
        have hl := (List.getElem?_eq_some_iff.1 h3).1
        have hjj : j * i.size = xs.length * i.size + (j - xs.length) * i.size := by rw [← Nat.add_mul]; congr 1; omega
        simp only [Nat.zero_add]
        rw [n1] at hl
        rw [Array.getElem?_append_left (by rw [Array.size_append, List.size_toArray, List.size_toArray, o1, n1]; omega), Array.getElem?_append_right (by rw [List.size_toArray, o1]; omega)]
        rw [show j * i.size + q - ((List.range xs.length).flatMap chO).toArray.size = (j - xs.length) * i.size + q by rw [List.size_toArray, o1]; omega]
        simpa using h3
  rcases hrow.ow_inv with ⟨rfl, rfl, hv⟩ | ⟨blk, o, cap, cur, tyb, chO, hc0, hl, hv, hbk, hcap, hmax, hroom, hzz, hcc, hr⟩
  · by_cases hys : ys = []
    · subst hys
      refine ⟨.slice none 0 0, w, ?_, ?_, fun _ _ _ => rfl⟩
      · have hl := hsrc.len w.drawn
        have hcl := hsrc.cells w.drawn
        have hl' : (Builtin.lenOf cx).run P w = .ok 0 w := hl
        have hc' : (Builtin.firstCells i.size 0 cx).run P w = .ok #[] w := hcl
        obtain ⟨dd, hdd, hk⟩ := h2
        have hm : (match dd with | .int _ => true | _ => false) = false := by cases dd <;> first | rfl | exact (hk _ rfl).elim
        simp [Builtin.append_, run_underlying ht, run_underlying hdd, hm, sizeOf, typeInfo, hi, hl', hc']
      · have hdk : dOk n (some d) = true := by simpa [dOk] using hd
        exact hs.setd h hdk (fun t' ht' => by cases ht'; exact .one (by simp) (.c hrow))
    · exact fresh none 0 (fun _ => []) rfl (by have := List.length_pos_iff.2 hys; simpa using this) (by simp [Builtin.firstCells]) (by simp) (by simp)
  · by_cases hrm : xs.length + ys.length ≤ cap
    · have hmul : (xs.length + ys.length) * i.size ≤ cap * i.size := Nat.mul_le_mul_right _ hrm
      have hfit : o + xs.length * i.size + ((List.range ys.length).flatMap ch).length ≤ cur.size := by rw [n1]; rw [Nat.add_mul] at hmul; omega
      have hrun := run_append_in (ty := ty) ht h2 hi hbk hsrc hrm hfit
      rw [← hc0] at hrun
      refine ⟨_, _, hrun, ?_, fun b _ hb' => setRow_other w blk b _ (fun e => hb' (by rw [e]; exact hl))⟩
      have hoth : ∀ b, b ≠ blk → (w.setRow blk (cur.toList.take (o + xs.length * i.size) ++ ((List.range ys.length).flatMap ch) ++ cur.toList.drop (o + xs.length * i.size + ((List.range ys.length).flatMap ch).length)).toArray).heap[b]? = w.heap[b]? :=
        fun b hb' => setRow_other w blk b _ hb'
      refine Holds.reroot hs h hd hfree hget (w' := (w.setRow blk (cur.toList.take (o + xs.length * i.size) ++ ((List.range ys.length).flatMap ch) ++ cur.toList.drop (o + xs.length * i.size + ((List.range ys.length).flatMap ch).length)).toArray)) (blk := blk) (o := o) (cap := cap) (ty := tyb) rfl rfl rfl (by simp [World.setRow]) (fun b _ hb' => hoth b (fun e => hb' (by rw [e]; exact hl))) (hbk.setRow (splice_size hfit)) (.inl hl) (by simp) (by simpa using hrm) hmax ?_
        (fun j => if j < xs.length then chO j else ch (j - xs.length)) ?_ ?_ ?_
      · simp only [List.size_toArray, List.length_append, List.length_take, List.length_drop, Array.length_toList]; omega
      · intro j x hj
        have := (List.getElem?_eq_some_iff.1 hj).1
        simp only [this, if_true]
        exact hr j x hj
      · intro j y hj
        have : ¬ (xs.length + j < xs.length) := by omega
        simp only [this, if_false, show xs.length + j - xs.length = j by omega]
        exact ⟨(hch j y hj).1, (hch j y hj).2.1⟩
      · intro j hj
        simp only [List.length_append] at hj
        have htl : (cur.toList.take (o + xs.length * i.size)).length = o + xs.length * i.size := by simp; omega
        by_cases hjx : j < xs.length
        · simp only [hjx, if_true]
          refine ⟨hzz j hjx, fun q u hq => ?_⟩
          have hq' : q < i.size := by have := (List.getElem?_eq_some_iff.1 hq).1; rw [hzz j hjx] at this; exact this
          have h3 := hcc j hjx q u hq
          have hjm : j * i.size + i.size ≤ xs.length * i.size := by rw [← Nat.succ_mul]; exact Nat.mul_le_mul_right _ hjx
          simp only [List.getElem?_toArray]
          rw [List.append_assoc, List.getElem?_append_left (by rw [htl]; omega), List.getElem?_take, if_pos (by omega)]
          simpa using h3
        · simp only [hjx, if_false]
          have hjy : j - xs.length < ys.length := by omega
          refine ⟨hchl _ hjy, fun q u hq => ?_⟩
          have hq' : q < i.size := by have := (List.getElem?_eq_some_iff.1 hq).1; rw [hchl _ hjy] at this; exact this
          have h3 := n2 _ q hjy hq'
          rw [hq] at h3
          have hl2 := (List.getElem?_eq_some_iff.1 h3).1
          have hjj : j * i.size = xs.length * i.size + (j - xs.length) * i.size := by rw [← Nat.add_mul]; congr 1; omega
          simp only [List.getElem?_toArray]
          rw [List.getElem?_append_left (by rw [List.length_append, htl]; omega), List.getElem?_append_right (by rw [htl]; omega), htl]
          rw [show o + j * i.size + q - (o + xs.length * i.size) = (j - xs.length) * i.size + q by omega]
          exact h3
    · refine fresh _ cap chO hc0 (by omega) ?_ hzz hr
      obtain ⟨o1, o2⟩ := flat_chunks hz xs.length chO hzz
      refine run_firstCells_some w.drew i.size xs.length ⟨blk, o, none⟩ xs.length cap _ o1 (fun j v hv => ?_)
      have hlt := (List.getElem?_eq_some_iff.1 hv).1
      rw [o1] at hlt
      have hj1 : j / i.size < xs.length := (Nat.div_lt_iff_lt_mul hz).2 hlt
      have hq := Nat.mod_lt j hz
      have hdm : j / i.size * i.size + j % i.size = j := by rw [Nat.mul_comm]; exact Nat.div_add_mod j i.size
      rw [← hdm, o2 _ _ hj1 hq] at hv
      have := hcc _ hj1 _ _ hv
      rw [add_addr, show w.drew.cell? ⟨blk, o + j, none⟩ = cur[o + j]? from hbk.cell _, show o + j = o + j / i.size * i.size + j % i.size by omega]
      exact this

end
end Go.Vx

namespace Go.Vx
open Go Go.RowKit Go.Great

section
variable {P : Program} {w0 : World} {g0 : Gh} {n : Nat} {e : Env} {a : Act} {w : World} {g : Gh}

theorem Holds.of_get {e' : Env} (h : Holds w0 g0 e a w g) (he : ∀ t, e'.get t = e.get t) : Holds w0 g0 e' a w g := ⟨h.inj, h.fr, fun t => by rw [he]; exact h.rep t⟩

theorem Holds.sim (h : Holds w0 g0 e a w g) (hd : a.defers = []) (hs : a.tmps.size = n) : Sim w0 g0 n e a w := ⟨⟨g, h.inj, h.fr, h.rep⟩, hd, hs⟩

theorem srcTy_ok {t : TypeId} (h : srcTy P t = true) : noInt P t := by
  unfold srcTy at h
  split at h
  · rename_i ht; exact ⟨_, tinfo_str ht, by simp⟩
  · rename_i ht; exact ⟨_, (tinfo_slice ht).1, by simp⟩
  · cases h

theorem append_ok {o : Oper} {args : Array Operand} {ts : Array TypeId} {d : Nat} {e' : Env} {v : V} {K : Env → Prop} (ho : o.op = .call { callee := .builtin .append, args, argTypes := ts }) (hdst : o.dst = some d) (hd : d < n)
    (happ : appF P e args.toList ts.toList = some (e', v)) (hf1 : e.free d = true) (hf2 : e'.free d = true) (hun : (e.get d).isUn = true) (hK : K (e'.set d v)) : OpOk P w0 g0 n o e K := by
  intro a w hs next Q hn
  obtain ⟨g, h⟩ := hs.holds
  unfold appF at happ
  split at happ
  · rename_i s x t t2 hargs hts
    have hargs' : args = #[s, x] := by cases args; simp_all
    have hts' : ts = #[t, t2] := by cases ts; simp_all
    subst hargs' hts'
    split at happ
    · rename_i el z nb hti
      obtain ⟨hu, inf, hinf, rfl, rfl⟩ := tinfo_slice hti
      split at happ
      · rename_i ys hsrc
        split at happ
        · rename_i hc
          obtain ⟨hz, hst, hzl⟩ := hc
          simp only [Option.map_eq_some_iff] at hzl
          obtain ⟨zs, hzs, hzl⟩ := hzl
          obtain ⟨i, zv, hi, hzv, rfl⟩ := zeroC_inv hzs
          rw [hinf] at hi
          cases hi
          simp only [List.length_map, Array.length_toList] at hzl
          obtain ⟨ch, hS, hch⟩ := src_ok (P := P) h hz (h.rd x []) hsrc
          have hrun : ∀ {v' : Value} {w' : World}, (Builtin.append_ #[t, t2] o.type #[a.eval s, a.eval x]).run P w = .ok v' w' → Sim w0 g0 n (e'.set d v) (a.put (some d) v') w' → o.wp P a w next Q := by
            intro v' w' hr hsim
            have hex : (execOp a.eval o).run P w = .ok (.value v') w' := by
              simp only [execOp, ho, resolve, Sem.run_bind, Sem.run_pure, Result.andThen_ok, invoke, builtin, List.map_toArray, List.map_cons, List.map_nil, hr]
            unfold Oper.wp
            rw [hex]
            show next (a.put o.dst _) _
            rw [hdst]
            exact hn _ _ _ hK hsim
          have hds : d < a.tmps.size := by rw [hs.size]; exact hd
          obtain ⟨g1, h1, hl1, hv1, hn1, _⟩ := h.clear d
          have h1' : Holds w0 g0 e a w g1 := h1.of_get (fun t' => by
            rw [Env.get_set]
            split
            · rename_i ht'; subst ht'; exact isUn_eq hun
            · rfl)
          split at happ
          · rename_i p hsp
            split at happ
            · rename_i z' xs hp
              split at happ
              · rename_i hc2
                cases happ
                obtain ⟨rfl, hb, hl⟩ := hc2
                have hsv := h.rd s []
                rw [hsp] at hsv
                match p, hp, hsp, hsv with
                | (t0 + 2) :: q, hp, hsp, hsv =>
                  obtain ⟨h2, hvm2⟩ := h1'.rehome hp (isUn_eq hun) hf1 hl1 hds
                  have hs2 : Sim w0 g0 n ((e.putAt ((t0 + 2) :: q) .un).set d (.ow inf.size xs)) (a.put (some d) (g1.vm ((t0 + 2) :: q))) w :=
                    h2.sim (by rw [put_defers]; exact hs.defers) (by rw [put_size]; exact hs.size)
                  have hkeep : Keeps w g w (g1.rehome ((t0 + 2) :: q) d) := ⟨Nat.le_refl _, fun b _ hb => ⟨Gh.rehome_none (hn1 b hb), rfl⟩⟩
                  obtain ⟨v', w', hr, hsim, _⟩ := append_own (ty := o.type) hu (srcTy_ok hst) hinf hzv hzl hz hs2 h2 hd (Env.free_set hf2 rfl) (by rw [Env.get_set]; simp) (c := a.eval s) (cx := a.eval x)
                    (by rw [hvm2, hv1]; exact hsv.al_inv) hS (fun j y hy => by
                      obtain ⟨k1, ⟨o', k2⟩, k3⟩ := hch j y hy
                      exact ⟨k1, ⟨_, k2.keep k1 hkeep none⟩, k3⟩) (by unfold maxLen; omega) hb
                  rw [put_put] at hsim
                  exact hrun hr (hsim.congr (fun t' => (Env.set_set_get _ _ _ _ _).symm))
              · cases happ
            · cases happ
          · rename_i hsp
            split at happ
            · rename_i hc2
              cases happ
              have hsv := h.rd s []
              rw [hsp] at hsv
              have hnil := hsv.nl_inv
              -- slot d takes the nil row
              have hgr := Holds.growH (n := n) hs h hd hf1 (w' := w) (v := .ow inf.size []) (c := .slice none 0 0) (lab' := fun _ => none) (vm' := fun _ => .slice none 0 0) rfl rfl rfl (Nat.le_refl _) (fun _ _ => rfl)
                (fun b p _ hp => by cases hp) (fun b b' p hp => by cases hp) (.one (by simp) (.c (.ownil (Gh.anew_vm' (pre_one.2 rfl)))))
              have hs2 := hgr.sim (n := n) (by rw [put_defers]; exact hs.defers) (by rw [put_size]; exact hs.size)
              obtain ⟨v', w', hr, hsim, _⟩ := append_own (ty := o.type) hu (srcTy_ok hst) hinf hzv hzl hz hs2 hgr hd (Env.free_set hf1 rfl) (xs := []) (by rw [Env.get_set]; simp) (c := a.eval s) (cx := a.eval x)
                (by rw [hnil, Gh.anew_vm' (pre_one.2 rfl)]) hS (fun j y hy => by
                  obtain ⟨k1, ⟨o', k2⟩, k3⟩ := hch j y hy
                  exact ⟨k1, ⟨_, k2.keep k1 (anew_keeps rfl (Nat.le_refl _) (fun _ _ => rfl)) none⟩, k3⟩) (by unfold maxLen; simp; omega) (by simpa using hc2.1)
              rw [put_put] at hsim
              exact hrun hr (hsim.congr (fun t' => (Env.set_set_get _ _ _ _ _).symm))
            · cases happ
          · cases happ
        · cases happ
      · cases happ
    · cases happ
  · cases happ

end
end Go.Vx

namespace Go.Vx
open Go Go.RowKit Go.Great

theorem setCells_get : ∀ (vs cs : List V) (k f : Nat), k + vs.length ≤ cs.length → (setCells cs k vs)[f]? = if k ≤ f ∧ f < k + vs.length then vs[f - k]? else cs[f]?
  | [], cs, k, f, h => by
    have : ¬ (k ≤ f ∧ f < k + ([] : List V).length) := by simp
    rw [if_neg this]; rfl
  | v :: r, cs, k, f, h => by
    simp only [setCells]
    rw [setCells_get r (cs.set k v) (k + 1) f (by simp at h ⊢; omega)]
    simp only [List.length_cons] at h ⊢
    by_cases h1 : k = f
    · subst h1
      have hk : k < cs.length := by omega
      rw [if_neg (by omega), if_pos (by omega)]
      simp [hk]
    · by_cases h2 : k + 1 ≤ f ∧ f < k + 1 + r.length
      · rw [if_pos h2, if_pos (by omega)]
        rw [show f - k = (f - (k + 1)) + 1 by omega]
        simp
      · rw [if_neg h2, if_neg (by omega)]
        simp [h1]

theorem setCells_length : ∀ (vs cs : List V) (k : Nat), (setCells cs k vs).length = cs.length
  | [], _, _ => rfl
  | v :: r, cs, k => by simp [setCells, setCells_length r]

/-- Cells replaced in an array. -/
theorem splice_get {cur : Array Value} {us : List Value} {k f : Nat} (h : k + us.length ≤ cur.size) :
    ((cur.toList.take k ++ us ++ cur.toList.drop (k + us.length)).toArray)[f]? = if k ≤ f ∧ f < k + us.length then us[f - k]? else cur[f]? := by
  have htl : (cur.toList.take k).length = k := by simp; omega
  simp only [List.getElem?_toArray]
  rw [List.append_assoc]
  by_cases h1 : f < k
  · rw [List.getElem?_append_left (by omega), List.getElem?_take, if_pos h1, if_neg (by omega)]; simp
  · rw [List.getElem?_append_right (by omega), htl]
    by_cases h2 : f < k + us.length
    · rw [List.getElem?_append_left (by omega), if_pos (by omega)]
    · rw [List.getElem?_append_right (by omega), List.getElem?_drop, if_neg (by omega)]
      rw [show k + us.length + (f - k - us.length) = f by omega]; simp

section
variable {P : Program} {w0 : World} {g0 : Gh} {n : Nat} {e : Env} {a : Act} {w : World} {g : Gh}

/-- One owned block is written; the root's value turns along the path. -/
theorem Holds.write (hs : Sim w0 g0 n e a w) (h : Holds w0 g0 e a w g) {t0 : Nat} {q : Path} {u u' : V} {blk : Nat} {cur' : Array Value} (hat : e.at ((t0 + 2) :: q) = some u) (hl : g.lab blk = some ((t0 + 2) :: q))
    (hC : ∀ cs, RepC w g (some ((t0 + 2) :: q)) u cs → RepC (w.setRow blk cur') g (some ((t0 + 2) :: q)) u' cs)
    (hO : ∀ cs, RepO w g ((t0 + 2) :: q) u cs → RepO (w.setRow blk cur') g ((t0 + 2) :: q) u' cs) (h1 : ∀ cs, u ≠ .ag cs) (h2 : ∀ cs, u ≠ .tp cs) (h3 : u ≠ .un) (h4 : ∀ cs, u' ≠ .ag cs) :
    Sim w0 g0 n (e.putAt ((t0 + 2) :: q) u') a (w.setRow blk cur') := by
  have hother : ∀ b, b ≠ blk → (w.setRow blk cur').heap[b]? = w.heap[b]? := fun b hb => setRow_other w blk b _ hb
  have hsz : (w.setRow blk cur').heap.size = w.heap.size := by simp [World.setRow]
  have himm : ∀ b, b < w.heap.size → g.lab b = none → g.lab b = none ∧ (w.setRow blk cur').heap[b]? = w.heap[b]? := fun b _ hb => ⟨hb, hother b (by rintro rfl; rw [hl] at hb; cases hb)⟩
  refine ⟨⟨g, ⟨h.inj.1, fun b p hb => by rw [hsz]; exact h.inj.2 b p hb⟩, ⟨h.fr.os, h.fr.tape, h.fr.output, by rw [hsz]; exact h.fr.size, fun b hb hk => ?_, h.fr.vm0⟩, fun t => ?_⟩, hs.defers, hs.size⟩
  · obtain ⟨k1, k2⟩ := h.fr.keep b hb hk
    refine ⟨k1, (hother b ?_).trans k2⟩
    rintro rfl
    rw [hl] at k1
    rcases hk with hk | ⟨r, hk⟩ <;> rw [hk] at k1 <;> simp at k1
  · rw [Env.putAt_get]
    simp only
    by_cases ht : t0 = t
    · subst ht
      simp only [if_true]
      refine RepS.put q (by simp) (h.rep t0) hat ⟨by rw [hsz]; exact Nat.le_refl _, himm, fun b p hb _ hp => ⟨hb, hother b ?_⟩, fun p _ _ => rfl⟩ (fun _ _ => rfl) (by simpa using hC) (by simpa using hO) (fun c hc => ?_)
      · rintro rfl; rw [hl] at hb; cases hb; exact hp (by simp)
      · exact .one h4 (by simpa using hO _ (by simpa using hc.cell h1 h2 h3))
    · simp only [ht, if_false]
      refine (h.rep t).moves ⟨by rw [hsz]; exact Nat.le_refl _, himm, fun b p hb => ⟨hb, hother b ?_⟩, fun _ => rfl⟩ (fun _ _ => rfl)
      rintro rfl; rw [hl] at hb; simp at hb; omega

theorem run_storeAt_row {t : TypeId} {blk o : Nat} {cur : Array Value} {tyb : TypeId} {c : Value} {j : TypeInfo} (hj : P.info? t = some j) (hsz : c.cells.size = j.size) (hg : Lies w blk cur tyb)
    (hfit : o + c.cells.toList.length ≤ cur.size) (h1 : ∀ u ∈ c.cells.toList, u.oneCell' = true) :
    (Instr.storeAt t (.pointer (some ⟨blk, o, none⟩)) c).run P w = .ok () (w.setRow blk (cur.toList.take o ++ c.cells.toList ++ cur.toList.drop (o + c.cells.toList.length)).toArray) := by
  have hst := run_storeCells_atL P blk o tyb c.cells.toList 0 cur w hg (by simpa using hfit) h1
  simp only [Nat.add_zero] at hst
  simp only [Instr.storeAt, Instr.sureAddr, storeVar, Sem.run_bind, Sem.run_pure, Result.andThen_ok, run_sizeOf' w hj, hsz, ne_eq, not_true_eq_false, if_false, hst]

theorem setRow_keeps {blk : Nat} {cur' : Array Value} (h : g.lab blk ≠ none) : Keeps w g (w.setRow blk cur') g :=
  ⟨by simp [World.setRow], fun b _ hb => ⟨hb, setRow_other w blk b _ (by rintro rfl; exact h hb)⟩⟩

theorem info_of {t : TypeId} (h : tinfo P t ≠ .bad) : ∃ j, P.info? t = some j := by
  unfold tinfo at h
  split at h
  · exact (h rfl).elim
  · exact ⟨_, by assumption⟩

/-- A row's new elements, from its own and one that turns. -/
theorem row_write {p : Path} {z o cap blk j f : Nat} {xs : List V} {y y' : V} {cur : Array Value} {tyb : TypeId} {ch : Nat → List Value} {us : List Value}
    (hl : g.lab blk = some p) (hv : g.vm p = .slice (some ⟨blk, o, none⟩) xs.length cap) (hb : Lies w blk cur tyb) (hcap : xs.length ≤ cap) (hmax : cap ≤ maxLen) (hroom : o + cap * z ≤ cur.size)
    (hzz : ∀ j, j < xs.length → (ch j).length = z) (hcc : ∀ j, j < xs.length → ∀ q u, (ch j)[q]? = some u → cur[o + j * z + q]? = some u)
    (hr : ∀ j x, xs[j]? = some x → RepC w g (some (p ++ [j])) x (ch j)) (hj : xs[j]? = some y) (hf : f + us.length ≤ z)
    (hy : RepC (w.setRow blk (cur.toList.take (o + (j * z + f)) ++ us ++ cur.toList.drop (o + (j * z + f) + us.length)).toArray) g (some (p ++ [j])) y' ((ch j).take f ++ us ++ (ch j).drop (f + us.length))) :
    RepC (w.setRow blk (cur.toList.take (o + (j * z + f)) ++ us ++ cur.toList.drop (o + (j * z + f) + us.length)).toArray) g (some p) (.ow z (xs.set j y')) [.slice (some ⟨blk, o, none⟩) xs.length cap] := by
  have hjl := (List.getElem?_eq_some_iff.1 hj).1
  have hjm : j * z + z ≤ cap * z := by rw [← Nat.succ_mul]; exact Nat.mul_le_mul_right _ (by omega)
  have hfit : o + (j * z + f) + us.length ≤ cur.size := by omega
  have hlen : (xs.set j y').length = xs.length := by simp
  have hother : ∀ b, b ≠ blk → (w.setRow blk (cur.toList.take (o + (j * z + f)) ++ us ++ cur.toList.drop (o + (j * z + f) + us.length)).toArray).heap[b]? = w.heap[b]? := fun b hb => setRow_other w blk b _ hb
  have key := RepC.ow (w := w.setRow blk (cur.toList.take (o + (j * z + f)) ++ us ++ cur.toList.drop (o + (j * z + f) + us.length)).toArray) (g := g) (π := p) (xs := xs.set j y') blk o z cap _ tyb
    (fun i => if i = j then (ch j).take f ++ us ++ (ch j).drop (f + us.length) else ch i) hl (by rw [hlen]; exact hv) (hb.setRow (splice_size hfit)) (by rw [hlen]; exact hcap) hmax (by rw [splice_size hfit]; exact hroom)
    (fun i hi => by
      rw [hlen] at hi
      split
      · have := hzz j hjl; simp; omega
      · exact hzz i hi)
    (fun i hi q u hq => by
      rw [hlen] at hi
      rw [splice_get hfit]
      split at hq
      · rename_i hij
        subst hij
        have htl : ((ch i).take f).length = f := by have := hzz i hi; simp; omega
        rw [List.append_assoc] at hq
        by_cases h1 : q < f
        · rw [List.getElem?_append_left (by omega), List.getElem?_take, if_pos h1] at hq
          rw [if_neg (by omega)]
          exact hcc i hi q u hq
        · rw [List.getElem?_append_right (by omega), htl] at hq
          by_cases h2 : q < f + us.length
          · rw [List.getElem?_append_left (by omega)] at hq
            rw [if_pos (by omega)]
            rw [show o + i * z + q - (o + (i * z + f)) = q - f by omega]
            exact hq
          · rw [List.getElem?_append_right (by omega), List.getElem?_drop] at hq
            rw [if_neg (by omega)]
            rw [show f + us.length + (q - f - us.length) = q by omega] at hq
            exact hcc i hi q u hq
      · rename_i hij
        have hqz : q < z := by have := (List.getElem?_eq_some_iff.1 hq).1; rw [hzz i hi] at this; exact this
        rw [if_neg ?_]
        · exact hcc i hi q u hq
        · intro ⟨h1, h2⟩
          rcases Nat.lt_or_ge i j with h3 | h3
          · have : i * z + z ≤ j * z := by rw [← Nat.succ_mul]; exact Nat.mul_le_mul_right _ h3
            omega
          · have : j * z + z ≤ i * z := by rw [← Nat.succ_mul]; exact Nat.mul_le_mul_right _ (by omega)
            omega)
    (fun i x hi => by
      rcases kid_cases hj hi with ⟨rfl, rfl⟩ | ⟨hne, hi⟩
      · simp only [if_true]; exact hy
      · simp only [hne, if_false]
        refine (hr i x hi).moves rfl ⟨by simp [World.setRow], (setRow_keeps (by rw [hl]; simp)).imm, fun b q hbq => ⟨hbq, hother b ?_⟩, fun _ => rfl⟩
        rintro rfl; rw [hl] at hbq; simp at hbq)
  rw [hlen] at key
  exact key

theorem store_ok {o : Oper} {t : TypeId} {ad x : Operand} {e' : Env} {K : Env → Prop} (ho : o.op = .store t ad x) (hdst : o.dst = none) (hst : storeV P e t (e.rd ad) (e.rd x) = some e') (hK : K e') : OpOk P w0 g0 n o e K := by
  intro a w hs next Q hn
  obtain ⟨g, h⟩ := hs.holds
  unfold storeV at hst
  split at hst
  · cases hst
  · rename_i ti hne
    have hbad : tinfo P t ≠ .bad := hne
    obtain ⟨inf, hinf⟩ := info_of hbad
    simp only at hst
    split at hst
    · rename_i hc
      obtain ⟨hlen, hagg, hnu⟩ := hc
      obtain ⟨c1, c2⟩ := cells_of (h.rd x []) hnu (e.rd_loose x)
      have hone := all_one c1 c2
      have hsz : (a.eval x).cells.size = inf.size := by
        have h1 : (a.eval x).cells.size = (e.rd x).cs.length := by simpa using c1
        rw [h1, hlen]
        simp [Program.cellsOf, hinf]
      have hrun : ∀ {w' : World}, (Instr.storeAt t (a.eval ad) (a.eval x)).run P w = .ok () w' → Sim w0 g0 n e' a w' → o.wp P a w next Q := by
        intro w' hr hsim
        have hex : (execOp a.eval o).run P w = .ok .skip w' := by simp only [execOp, ho, Sem.run_bind, hr, Result.andThen_ok, Sem.run_pure]
        unfold Oper.wp
        rw [hex]
        show next (a.put o.dst undef) _
        rw [hdst]
        exact hn _ _ _ hK hsim
      split at hst
      · rename_i p off hadv
        have had := h.rd ad []
        rw [hadv] at had
        split at hst
        · rename_i cs hp
          split at hst
          · rename_i hoff
            cases hst
            obtain ⟨blk, cur, tyb, hl, hv, hb, hn', hr⟩ := h.at_bx hp
            obtain ⟨blk', o', hbase, hc⟩ := had.ad_inv
            rw [hv] at hbase
            simp [baseOf] at hbase
            obtain ⟨rfl, rfl⟩ := hbase
            have hfit : (0 + off) + (a.eval x).cells.toList.length ≤ cur.size := by rw [c1]; omega
            match p, hp, hl, hv, hr with
            | (t0 + 2) :: q, hp, hl, hv, hr =>
              refine hrun (by rw [hc]; exact run_storeAt_row hinf hsz (.new hb) hfit hone) ?_
              refine h.write hs hp hl (fun cs' hcs' => ?_) (fun cs' hcs' => ?_) (by simp) (by simp) (by simp) (by simp)
              · cases hcs'
              · cases hcs' with
                | c hcs' => cases hcs'
                | bx blk2 cur2 ty2 hl2 hv2 hb2 hn2 hr2 =>
                  obtain rfl : blk2 = blk := h.inj.1 _ _ _ hl2 hl
                  rw [hb] at hb2
                  cases hb2
                  refine .bx blk2 _ tyb hl hv (setRow_heap w blk2 cur _ tyb _ hb) (by rw [setCells_length, splice_size hfit]; exact hn2) (fun f y u hy hu => ?_)
                  rw [splice_get hfit] at hu
                  rw [setCells_get _ _ _ _ hoff] at hy
                  rw [Nat.zero_add, c1] at hu
                  split at hy
                  · rename_i hin
                    rw [if_pos hin] at hu
                    obtain ⟨k1, _⟩ := c2 _ y u hy hu
                    exact (k1 []).keep (loose_cell (e.rd_loose x) hy) (setRow_keeps (by rw [hl]; simp)) (fun _ _ => rfl) _
                  · rename_i hin
                    rw [if_neg hin] at hu
                    refine (hr2 f y u hy hu).moves ⟨by simp [World.setRow], (setRow_keeps (by rw [hl]; simp)).imm, fun b q' hbq => ⟨hbq, setRow_other w blk2 b _ ?_⟩, fun _ => rfl⟩ (fun _ _ => rfl)
                    rintro rfl; rw [hl] at hbq; simp at hbq
          · cases hst
        · cases hst
      · rename_i p z j f hadv
        have had := h.rd ad []
        rw [hadv] at had
        split at hst
        · rename_i z' xs hp
          split at hst
          · rename_i hc2
            obtain ⟨rfl, hpl⟩ := hc2
            obtain ⟨c0, hrow, hvm⟩ := h.at_ow hp
            rcases hrow.ow_inv with ⟨rfl, _⟩ | ⟨blk, ob, cap, cur, tyb, ch, hc0, hl, hv, hb, hcap, hmax, hroom, hzz, hcc, hr⟩
            · simp at hst
            · obtain ⟨blk', o', hbase, hc⟩ := had.ae_inv
              rw [hv, hc0] at hbase
              simp [baseOf] at hbase
              obtain ⟨rfl, rfl⟩ := hbase
              have hplain : ∀ (f : Nat) (y : V) (u : Value), (e.rd x).cs[f]? = some y → (a.eval x).cells.toList[f]? = some u → ∀ o' (w' : World), Keeps w g w' g → RepC w' g o' y [u] := by
                intro f y u hy hu o' w' hk
                have hp1 : y.plain = true := List.all_eq_true.1 hpl y (List.mem_of_getElem? hy)
                exact (((c2 f y u hy hu).1 []).plain hp1).keep (loose_cell (e.rd_loose x) hy) hk o'
              have step : ∀ {y y' : V}, xs[j]? = some y → f + (a.eval x).cells.toList.length ≤ z' →
                  RepC (w.setRow blk (cur.toList.take (ob + (j * z' + f)) ++ (a.eval x).cells.toList ++ cur.toList.drop (ob + (j * z' + f) + (a.eval x).cells.toList.length)).toArray) g (some (p ++ [j])) y'
                    ((ch j).take f ++ (a.eval x).cells.toList ++ (ch j).drop (f + (a.eval x).cells.toList.length)) → e.putAt p (.ow z' (xs.set j y')) = e' → o.wp P a w next Q := by
                intro y y' hj hf hy' hee
                have hjl := (List.getElem?_eq_some_iff.1 hj).1
                have hjm : j * z' + z' ≤ cap * z' := by rw [← Nat.succ_mul]; exact Nat.mul_le_mul_right _ (by omega)
                have hfit : ob + (j * z' + f) + (a.eval x).cells.toList.length ≤ cur.size := by omega
                have hwr := row_write hl (by rw [hv, hc0]) hb hcap hmax hroom hzz hcc hr hj hf hy'
                refine hrun (by rw [hc]; exact run_storeAt_row hinf hsz hb hfit hone) ?_
                rw [← hee]
                match p, hp, hl, hwr with
                | (t0 + 2) :: q, hp, hl, hwr =>
                  have hcs : ∀ {π : Option Path} {cs : List Value}, π = some ((t0 + 2) :: q) → RepC w g π (.ow z' xs) cs → cs = [c0] := by
                    intro π cs hπ hcs
                    cases hπ
                    obtain ⟨u, rfl⟩ := hcs.width (by simp)
                    have : u = g.vm ((t0 + 2) :: q) := by
                      rcases hcs.ow_inv with ⟨_, _, h3⟩ | ⟨_, _, _, _, _, _, _, _, h3, _⟩ <;> exact h3.symm
                    rw [this, hv]
                  refine h.write hs hp hl (fun cs' hcs' => ?_) (fun cs' hcs' => ?_) (by simp) (by simp) (by simp) (by simp)
                  · rw [hcs rfl hcs', hc0]; exact hwr
                  · cases hcs' with
                    | c hcs' => rw [hcs rfl hcs', hc0]; exact .c hwr
              split at hst
              · rename_i cs hj
                split at hst
                · rename_i hf
                  cases hst
                  have hjl := (List.getElem?_eq_some_iff.1 hj).1
                  have hchl := hzz j hjl
                  refine step hj (by rw [c1]; omega) ?_ rfl
                  obtain ⟨hn1, hk1⟩ := (hr j _ hj).ag_inv
                  have htl : ((ch j).take f).length = f := by simp; omega
                  refine .ag (by rw [setCells_length]; simp; rw [show (a.eval x).cells.size = (e.rd x).cs.length by simpa using c1]; omega) (fun q y u hy hu => ?_)
                  rw [setCells_get _ _ _ _ hf.1] at hy
                  rw [List.append_assoc] at hu
                  have hkp := setRow_keeps (w := w) (cur' := (cur.toList.take (ob + (j * z' + f)) ++ (a.eval x).cells.toList ++ cur.toList.drop (ob + (j * z' + f) + (a.eval x).cells.toList.length)).toArray) (g := g) (blk := blk) (by rw [hl]; simp)
                  by_cases h1 : q < f
                  · rw [if_neg (by omega)] at hy
                    rw [List.getElem?_append_left (by omega), List.getElem?_take, if_pos h1] at hu
                    refine (hk1 q y u hy hu).moves rfl ⟨by simp [World.setRow], hkp.imm, fun b q' hbq => ⟨hbq, setRow_other w blk b _ ?_⟩, fun _ => rfl⟩
                    rintro rfl; rw [hl] at hbq; simp at hbq
                  · rw [List.getElem?_append_right (by omega), htl] at hu
                    by_cases h2 : q < f + (e.rd x).cs.length
                    · rw [if_pos ⟨by omega, h2⟩] at hy
                      rw [List.getElem?_append_left (by rw [c1]; omega)] at hu
                      exact hplain _ y u hy hu _ _ hkp
                    · rw [if_neg (by omega)] at hy
                      rw [List.getElem?_append_right (by rw [c1]; omega), List.getElem?_drop, c1] at hu
                      rw [show f + (e.rd x).cs.length + (q - f - (e.rd x).cs.length) = q by omega] at hu
                      refine (hk1 q y u hy hu).moves rfl ⟨by simp [World.setRow], hkp.imm, fun b q' hbq => ⟨hbq, setRow_other w blk b _ ?_⟩, fun _ => rfl⟩
                      rintro rfl; rw [hl] at hbq; simp at hbq
                · cases hst
              · rename_i y hna hj
                split at hst
                · rename_i hf
                  obtain ⟨rfl, hv1, rfl⟩ := hf
                  cases hst
                  have hjl := (List.getElem?_eq_some_iff.1 hj).1
                  refine step hj (by rw [c1]; omega) ?_ rfl
                  have hchl := hzz j hjl
                  match hx1 : (e.rd x).cs, hv1 with
                  | [v1], _ =>
                    have hl1 : (a.eval x).cells.toList.length = 1 := by rw [c1, hx1]; rfl
                    match hx2 : (a.eval x).cells.toList, hl1 with
                    | [u1], _ =>
                      have h3 : (ch j).drop 1 = [] := List.drop_eq_nil_of_le (by omega)
                      simp only [List.take_zero, List.nil_append, List.length_singleton, Nat.zero_add, h3, List.append_nil, List.getD_cons_zero]
                      have := hplain 0 v1 u1 (by rw [hx1]; rfl) (by rw [hx2]; rfl) (some (p ++ [j])) _ (setRow_keeps (w := w) (cur' := (cur.toList.take (ob + (j * 1 + 0)) ++ [u1] ++ cur.toList.drop (ob + (j * 1 + 0) + 1)).toArray) (g := g) (blk := blk) (by rw [hl]; simp))
                      exact this
                · cases hst
              · cases hst
          · cases hst
        · cases hst
      · cases hst
    · cases hst

end
end Go.Vx

namespace Go.Vx
open Go Go.RowKit Go.Great

section
variable {P : Program} {w0 : World} {g0 : Gh} {n : Nat} {e : Env} {a : Act} {w : World} {g : Gh}

theorem made {o : Oper} {d : Nat} {K : Env → Prop} {e' : Env} (hdst : o.dst = some d) (hK : K e')
    (h : ∀ a w, Sim w0 g0 n e a w → ∃ v w', (execOp a.eval o).run P w = .ok (.value v) w' ∧ Sim w0 g0 n e' (a.put (some d) v) w') : OpOk P w0 g0 n o e K := by
  intro a w hs next Q hn
  obtain ⟨v, w', hr, hsim⟩ := h a w hs
  unfold Oper.wp
  rw [hr]
  show next (a.put o.dst _) _
  rw [hdst]
  exact hn _ _ _ hK hsim

theorem box_ok {o : Oper} {v : V} {t d : Nat} {x : Operand} {K : Env → Prop} (ho : o.op = .box t x) (hdst : o.dst = some d) (hd : d < n)
    (hfree : e.free d = true) (hv : newF P e o = some v) (hK : K (e.set d v)) : OpOk P w0 g0 n o e K := by
  refine made hdst hK fun a w hs => ?_
  obtain ⟨g, h⟩ := hs.holds
  unfold newF at hv
  rw [ho] at hv
  simp only at hv
  split at hv
  · rename_i hc
    cases hv
    obtain ⟨hnu, hrf⟩ := hc
    obtain ⟨c1, c2⟩ := cells_of (h.rd x []) hnu (e.rd_loose x)
    refine ⟨.pointer (some ⟨w.heap.size, 0, none⟩), { w with heap := w.heap.push (.cells (a.eval x).cells t) }, ?_, ?_⟩
    · simp only [execOp, ho, Instr.box, newVar, newRow, newObj, Sem.run_bind, Sem.run_pure]
      rfl
    · refine Sim.newBox hs h hd hfree (by simpa using c1) (fun f y u hy hu => ⟨loose_cell (e.rd_loose x) hy, fun p hp => ?_, (c2 f y u hy (by simpa using hu)).1 _⟩)
      have := List.all_eq_true.1 hrf p (refs_cell hy hp)
      rw [hdst] at this
      simpa using this
  · cases hv

theorem alloc_ok {o : Oper} {v : V} {t d : Nat} {K : Env → Prop} (ho : o.op = .alloc t) (hdst : o.dst = some d) (hd : d < n)
    (hfree : e.free d = true) (hv : newF P e o = some v) (hK : K (e.set d v)) : OpOk P w0 g0 n o e K := by
  refine made hdst hK fun a w hs => ?_
  obtain ⟨g, h⟩ := hs.holds
  unfold newF at hv
  rw [ho] at hv
  simp only [Option.map_eq_some_iff] at hv
  obtain ⟨zs, hzs, rfl⟩ := hv
  obtain ⟨i, zv, hi, hzv, rfl⟩ := zeroC_inv hzs
  refine ⟨.pointer (some ⟨w.heap.size, 0, none⟩), { w with heap := w.heap.push (.cells zv.cells t) }, ?_, ?_⟩
  · simp only [execOp, ho, Instr.alloc, zeroValue, typeInfo, newVar, newRow, newObj, Sem.run_bind, Sem.run_pure]
    simp [hi, hzv]
    rfl
  · refine Sim.newBox hs h hd hfree (by simp) (fun f y u hy hu => ?_)
    simp only [List.getElem?_map, Option.map_eq_some_iff] at hy
    obtain ⟨u', hu', rfl⟩ := hy
    have : u' = u := by rw [Array.getElem?_toList] at hu'; rw [hu] at hu'; exact (Option.some.inj hu').symm
    subst this
    refine ⟨cvC_loose _, fun p hp => ?_, cvC_rep w g u' [0]⟩
    unfold cvC at hp
    split at hp <;> (try split at hp) <;> simp [V.refs] at hp

theorem zeros_get (z : Array Value) (k j q : Nat) (hz : 0 < z.size) (hj : j < k) (hq : q < z.size) : ((Array.range (k * z.size)).map (z[· % z.size]!))[j * z.size + q]? = z[q]? := by
  have h1 : j * z.size + q < k * z.size := by
    have : j * z.size + z.size ≤ k * z.size := by rw [← Nat.succ_mul]; exact Nat.mul_le_mul_right _ hj
    omega
  have h2 : (j * z.size + q) % z.size = q := by rw [Nat.mul_comm, Nat.mul_add_mod, Nat.mod_eq_of_lt hq]
  simp [h1, h2, hq]

theorem makeSlice_ok {o : Oper} {v : V} {t d : Nat} {l c : Operand} {K : Env → Prop} (ho : o.op = .makeSlice t l c) (hdst : o.dst = some d) (hd : d < n)
    (hfree : e.free d = true) (hv : newF P e o = some v) (hK : K (e.set d v)) : OpOk P w0 g0 n o e K := by
  refine made hdst hK fun a w hs => ?_
  obtain ⟨g, h⟩ := hs.holds
  unfold newF at hv
  rw [ho] at hv
  simp only at hv
  split at hv
  · rename_i el z nb kl la kc ca ht hl hc
    obtain ⟨hu, inf, hinf, rfl, rfl⟩ := tinfo_slice ht
    have h1 := h.rd l []
    have h2 := h.rd c []
    rw [hl] at h1
    rw [hc] at h2
    split at hv
    · rename_i hb
      obtain ⟨b1, b2, b3, b4⟩ := hb
      have hbi : (inf.bytes : Int) * ca ≤ 281474976710656 := by rw [Int.mul_comm]; omega
      have key : ∀ {zv : Value} {x : V} {cells : List Value}, inf.zero = some zv → zv.cells.toList = cells → cells.length = inf.size → 0 < inf.size → x.loose = true → RepC w g none x cells →
          (∃ v' w', (execOp a.eval o).run P w = .ok (.value v') w' ∧ Sim w0 g0 n (e.set d (.ow inf.size (List.replicate la.toNat x))) (a.put (some d) v') w') := by
        intro zv x cells hzv hcs hcl hpos hxl hxr
        have hr := run_make (P := P) w t el inf zv hu hinf hzv kl kc la ca b1 b2 hbi (by omega)
        refine ⟨_, _, ?_, Sim.newRow hs h hd hfree (z := inf.size) (cap := ca.toNat) (xs := List.replicate la.toNat x) (us := madeCells zv.cells (ca.toNat * inf.size)) (t := el) (w' := w.alloc (.cells (madeCells zv.cells (ca.toNat * inf.size)) el)) rfl rfl rfl rfl (.inl rfl)
          (by simp; omega) (by unfold maxLen; omega) (by rw [size_madeCells]; exact Nat.le_refl _) (fun _ => cells) (fun j y hj => ?_)⟩
        · have hr' : (Instr.makeSlice t (a.eval l) (a.eval c)).run P w = .ok (.slice (some ⟨w.heap.size, 0, none⟩) (List.replicate la.toNat x).length ca.toNat) (w.alloc (.cells (madeCells zv.cells (ca.toNat * inf.size)) el)) := by
            rw [h1.i_inv, h2.i_inv, hr, List.length_replicate]
          simp only [execOp, ho, Sem.run_bind, hr', Result.andThen_ok, Sem.run_pure]
        · have hjl := (List.getElem?_eq_some_iff.1 hj).1
          simp only [List.length_replicate] at hjl
          rw [List.getElem?_replicate, if_pos hjl] at hj
          cases hj
          refine ⟨hxl, ⟨_, hxr⟩, hcl, fun q u hq => ?_⟩
          have hq' : q < inf.size := by have := (List.getElem?_eq_some_iff.1 hq).1; omega
          have hzs : zv.cells.size = inf.size := by have := congrArg List.length hcs; simp at this; omega
          have := zeros_get zv.cells ca.toNat j q (by omega) (by omega) (by omega)
          rw [hzs] at this
          unfold madeCells
          rw [hzs, this, ← Array.getElem?_toList, hcs]
          exact hq
      split at hv
      · rename_i zs k hzs htc
        split at hv
        · rename_i hc3
          cases hv
          obtain ⟨z1, z2, z3, z4⟩ := hc3
          obtain ⟨i, zv, hi, hzv, rfl⟩ := zeroC_inv hzs
          rw [hinf] at hi
          cases hi
          simp only [List.length_map] at z1
          refine key hzv rfl z1 z4 (plain_loose z3) (.ag (by simp) (fun f y u hy hu => ?_))
          simp only [List.getElem?_map, hu, Option.map_some, Option.some.injEq] at hy
          subst hy
          have hp : (cvC u).plain = true := List.all_eq_true.1 z3 _ (List.mem_map.2 ⟨u, List.mem_of_getElem? hu, rfl⟩)
          exact ((cvC_rep w g u []).plain hp).any (cvC_loose u) _
        · cases hv
      · rename_i x hzs htc
        split at hv
        · rename_i hc3
          obtain ⟨z1, z2⟩ := hc3
          cases hv
          obtain ⟨i, zv, hi, hzv, hx⟩ := zeroC_inv hzs
          rw [hinf] at hi
          cases hi
          match hcs : zv.cells.toList, hx with
          | [u], hx =>
            simp at hx
            subst hx
            have := key hzv hcs (by rw [z1]; rfl) (by omega) (cvC_loose u) (((cvC_rep w g u []).plain z2).any (cvC_loose u) _)
            rw [z1] at this
            exact this
        · cases hv
      · cases hv
    · cases hv
  · cases hv

/-- A string's bytes as a row of their own. -/
theorem bytesNew_ok {o : Oper} {v : V} {src dst d : Nat} {x : Operand} {K : Env → Prop} (ho : o.op = .convert src dst x) (hdst : o.dst = some d) (hd : d < n)
    (hfree : e.free d = true) (hv : newF P e o = some v) (hK : K (e.set d v)) : OpOk P w0 g0 n o e K := by
  refine made hdst hK fun a w hs => ?_
  obtain ⟨g, h⟩ := hs.holds
  unfold newF at hv
  rw [ho] at hv
  simp only at hv
  split at hv
  · rename_i l el nb hx hsrc hti
    split at hv
    · rename_i hel
      split at hv
      · rename_i hb
        cases hv
        obtain ⟨hu, inf, hinf, _, _⟩ := tinfo_slice hti
        have hrx := h.rd x []
        rw [hx] at hrx
        have hev := hrx.s_inv
        have hr := run_bytes_of_string (P := P) w src dst el ⟨l.toArray⟩ hsrc hu hel
        have hsz : (⟨l.toArray⟩ : ByteArray).size = l.length := rfl
        rw [hsz] at hr
        have hge := grownCap_ge w l.length 0 el
        have hcm := grownCap_le_maxLen w l.length 0 el (by unfold maxLen; omega)
        have hsz2 : (bytesRow ⟨l.toArray⟩ (grownCap w l.length 0 el)).size = grownCap w l.length 0 el := by
          simp only [bytesRow, Array.size_append, Array.size_map, Array.size_replicate, hsz]
          show l.length + _ = _
          omega
        refine ⟨_, _, ?_, Sim.newRow hs h hd hfree (z := 1) (cap := grownCap w l.length 0 el) (xs := l.map byteV) (us := bytesRow ⟨l.toArray⟩ (grownCap w l.length 0 el)) (t := el)
          (w' := w.drew.alloc (.cells (bytesRow ⟨l.toArray⟩ (grownCap w l.length 0 el)) el ((bytesRow ⟨l.toArray⟩ (grownCap w l.length 0 el)).size, (bytesRow ⟨l.toArray⟩ (grownCap w l.length 0 el)).size + 1)))
          rfl rfl rfl rfl (.inr (Nat.le_refl _)) (by simpa using hge) hcm (by rw [hsz2]; omega) (fun j => match l[j]? with
            | some b => [.int .u8 b.toNat]
            | none => []) (fun j y hj => ?_)⟩
        · simp only [execOp, ho, hev, Sem.run_bind, hr, Result.andThen_ok, Sem.run_pure, List.length_map]
        · simp only [List.getElem?_map, Option.map_eq_some_iff] at hj
          obtain ⟨b, hb', rfl⟩ := hj
          simp only [hb']
          refine ⟨rfl, ⟨none, .i⟩, rfl, fun q u hq => ?_⟩
          have hq0 : q = 0 := by cases q <;> simp at hq ⊢
          subst hq0
          simp at hq
          subst hq
          have hjl := (List.getElem?_eq_some_iff.1 hb').1
          simp only [bytesRow, Nat.mul_one, Nat.add_zero]
          rw [Array.getElem?_append_left (by simpa using hjl)]
          simp [hb']
      · cases hv
    · cases hv
  · cases hv

end
end Go.Vx

namespace Go.Vx
open Go Go.RowKit Go.Great

theorem foldl_set (off : Nat) : ∀ (us : List Value) (k : Nat) (cells : Array Value), off + k + us.length ≤ cells.size →
    ((us.zipIdx k).foldl (fun cs (p : Value × Nat) => cs.setIfInBounds (off + p.2) p.1) cells).size = cells.size ∧
    ∀ f, ((us.zipIdx k).foldl (fun cs (p : Value × Nat) => cs.setIfInBounds (off + p.2) p.1) cells)[f]? = if off + k ≤ f ∧ f < off + k + us.length then us[f - (off + k)]? else cells[f]?
  | [], k, cells, h => by
    refine ⟨rfl, fun f => ?_⟩
    rw [if_neg (by simp)]
    rfl
  | u :: r, k, cells, h => by
    simp only [List.zipIdx_cons, List.foldl_cons, List.length_cons] at h ⊢
    obtain ⟨h1, h2⟩ := foldl_set off r (k + 1) (cells.setIfInBounds (off + k) u) (by simp; omega)
    refine ⟨by rw [h1]; simp, fun f => ?_⟩
    rw [h2 f, Array.getElem?_setIfInBounds]
    by_cases e1 : off + k = f
    · subst e1
      rw [if_neg (by omega), if_pos (by omega)]
      have : off + k < cells.size := by omega
      simp [this]
    · by_cases e2 : off + (k + 1) ≤ f ∧ f < off + (k + 1) + r.length
      · rw [if_pos e2, if_pos (by omega), show f - (off + k) = (f - (off + (k + 1))) + 1 by omega]
        simp
      · rw [if_neg e2, if_neg e1, if_neg (by omega)]

section
variable {P : Program} {w0 : World} {g0 : Gh} {n : Nat} {e : Env} {a : Act} {w : World} {g : Gh}

/-- Cells, abstract and as they are. -/
def Cells (w : World) (g : Gh) (cs : List V) (us : Array Value) : Prop :=
  cs.length = us.size ∧ ∀ (f : Nat) (x : V) (u : Value), cs[f]? = some x → us[f]? = some u → ∀ ρ, RepO w g ρ x [u]

theorem fill_ok (h : Holds w0 g0 e a w g) {fs : List (Nat × Nat)} {place : Nat → Option (Nat × Nat)} (hpl : ∀ i p, fs[i]? = some p → place i = some p) :
    ∀ (parts : List (Nat × Operand)) (cs cs' : List V) (us : Array Value), Cells w g cs us → buildC fs cs (parts.map fun p => (p.1, e.rd p.2)) = some cs' →
      ∃ us', Instr.fill place us (parts.map fun p => (p.1, a.eval p.2)) = some us' ∧ Cells w g cs' us'
  | [], cs, cs', us, hc, hb => by
    simp [buildC] at hb
    subst hb
    exact ⟨us, rfl, hc⟩
  | (i, x) :: r, cs, cs', us, hc, hb => by
    simp only [List.map_cons, buildC] at hb
    split at hb
    · rename_i off s hi
      split at hb
      · rename_i hcond
        obtain ⟨k1, k2, k3⟩ := hcond
        obtain ⟨c1, c2⟩ := cells_of (h.rd x []) k3 (e.rd_loose x)
        have hsz : (a.eval x).cells.size = (e.rd x).cs.length := by simpa using c1
        have hfit : off + 0 + (a.eval x).cells.toList.length ≤ us.size := by rw [c1, ← hc.1]; omega
        obtain ⟨f1, f2⟩ := foldl_set off (a.eval x).cells.toList 0 us hfit
        simp only [List.map_cons, Instr.fill, hpl i _ hi]
        rw [if_neg (by simp [hsz, k1, ← hc.1]; omega)]
        have hfold : (a.eval x).cells.zipIdx.foldl (fun cs (p : Value × Nat) => cs.setIfInBounds (off + p.2) p.1) us = ((a.eval x).cells.toList.zipIdx 0).foldl (fun cs (p : Value × Nat) => cs.setIfInBounds (off + p.2) p.1) us := by
          rw [← Array.foldl_toList]
          simp
        refine fill_ok h hpl r _ cs' _ ?_ hb
        show Cells w g _ ((a.eval x).cells.zipIdx.foldl (fun cs (p : Value × Nat) => cs.setIfInBounds (off + p.2) p.1) us)
        rw [hfold]
        refine ⟨by rw [setCells_length, f1]; exact hc.1, fun f y u hy hu ρ => ?_⟩
        have k2' : off + (e.rd x).cs.length ≤ cs.length := by omega
        rw [setCells_get _ _ _ _ k2'] at hy
        rw [f2, Nat.add_zero, c1] at hu
        split at hy
        · rename_i hin
          rw [if_pos hin] at hu
          exact (c2 _ y u hy hu).1 ρ
        · rename_i hin
          rw [if_neg hin] at hu
          exact hc.2 f y u hy hu ρ
      · cases hb
    · cases hb

theorem zero_cells {t : TypeId} {zs : List V} {i : TypeInfo} {zv : Value} (hi : P.info? t = some i) (hzv : i.zero = some zv) (hz : zs = zv.cells.toList.map cvC) : Cells w g zs zv.cells := by
  subst hz
  refine ⟨by simp, fun f x u hx hu ρ => ?_⟩
  simp only [List.getElem?_map, Option.map_eq_some_iff] at hx
  obtain ⟨u', hu', rfl⟩ := hx
  rw [Array.getElem?_toList, hu] at hu'
  cases hu'
  exact cvC_rep w g u ρ

theorem run_places (w : World) : ∀ (l : List Field), (∀ f ∈ l, (P.info? f.type).isSome) → (l.mapM fun (f : Field) => (do pure (f.offset, ← sizeOf f.type) : Sem (Nat × Nat))).run P w = .ok (l.map fun f => (f.offset, P.cellsOf f.type)) w
  | [], _ => by simp
  | f :: r, h => by
    obtain ⟨i, hi⟩ := Option.isSome_iff_exists.1 (h f (by simp))
    have ih := run_places w r (fun f hf => h f (by simp [hf]))
    have e : P.cellsOf f.type = i.size := by simp [Program.cellsOf, hi]
    simp only [List.mapM_cons, Sem.run_bind, run_sizeOf' w hi, Result.andThen_ok, Sem.run_pure, ih, List.map_cons, e]

theorem build_ok {o : Oper} {v : V} {t : TypeId} {parts : Array (Nat × Operand)} (ho : o.op = .build t parts) (hv : buildV P e t parts.toList = some v) (h : Holds w0 g0 e a w g) :
    ∃ c, (execOp a.eval o).run P w = .ok (.value c) w ∧ ∀ ρ, RepS w g ρ v c := by
  have fin : ∀ {cs : List V} {us : Array Value}, Cells w g cs us → (Instr.build t (parts.map fun (i, x) => (i, a.eval x))).run P w = .ok (.agg us) w →
      ∃ c, (execOp a.eval o).run P w = .ok (.value c) w ∧ ∀ ρ, RepS w g ρ (.ag cs) c := by
    intro cs us hc hr
    refine ⟨.agg us, by simp only [execOp, ho, Sem.run_bind, hr, Result.andThen_ok, Sem.run_pure], fun ρ => .agg (.ag (by simpa using hc.1) (fun f x u hx hu => hc.2 f x u hx (by simpa using hu) _))⟩
  have hparts : (parts.map fun (i, x) => (i, a.eval x)).toList = parts.toList.map fun p => (p.1, a.eval p.2) := by simp
  unfold buildV at hv
  split at hv
  · rename_i fs k zs ht hz
    obtain ⟨fields, j, hu, hj, hn, rfl, hall⟩ := tinfo_struct ht
    obtain ⟨i, zv, hi, hzv, hzs⟩ := zeroC_inv hz
    split at hv
    · simp only [Option.map_eq_some_iff] at hv
      obtain ⟨cs, hb, rfl⟩ := hv
      obtain ⟨us, hf, hc⟩ := fill_ok h (place := fun i => (fields.map fun f => (f.offset, P.cellsOf f.type))[i]?) (fun i p hp => by simpa using hp) _ _ _ _ (zero_cells hi hzv hzs) hb
      refine fin hc ?_
      have hpl := run_places (P := P) w fields.toList (fun f hf => hall f (by simpa using hf))
      have hm : (fields.mapM fun (f : Field) => (do pure (f.offset, ← sizeOf f.type) : Sem (Nat × Nat))).run P w = .ok (fields.map fun f => (f.offset, P.cellsOf f.type)) w := by
        rw [Array.mapM_eq_mapM_toList]
        simp only [map_eq_pure_bind, Sem.run_bind]
        rw [hpl]
        simp
        apply Array.ext'
        simp
      have hm' : (Array.mapM (fun (f : Field) => Prod.mk f.offset <$> sizeOf f.type) fields).run P w = .ok (fields.map fun f => (f.offset, P.cellsOf f.type)) w := by simpa using hm
      simp [Instr.build, zeroValue, typeInfo, hi, hzv, run_underlying hu, hm']
      have hf' : Instr.fill (fun x => Option.map (fun (f : Field) => (f.offset, P.cellsOf f.type)) fields[x]?) zv.cells (List.map (fun p => (p.1, a.eval p.2)) parts.toList) = some us := by
        rw [← hf]
        congr 1
        funext i
        simp
      rw [hf']
      rfl
    · cases hv
  · rename_i len z k zs ht hz
    obtain ⟨el, i1, j, hu, hi1, rfl, hj, hn⟩ := tinfo_arr ht
    obtain ⟨i, zv, hi, hzv, hzs⟩ := zeroC_inv hz
    split at hv
    · simp only [Option.map_eq_some_iff] at hv
      obtain ⟨cs, hb, rfl⟩ := hv
      obtain ⟨us, hf, hc⟩ := fill_ok h (place := fun i => some (i * i1.size, i1.size)) (fun i p hp => by
        simp only [List.getElem?_map, Option.map_eq_some_iff] at hp
        obtain ⟨m, hm, rfl⟩ := hp
        have := List.getElem?_eq_some_iff.1 hm
        obtain ⟨h1, h2⟩ := this
        simp at h2
        subst h2
        rfl) _ _ _ _ (zero_cells hi hzv hzs) hb
      refine fin hc ?_
      simp [Instr.build, zeroValue, typeInfo, run_underlying hu, run_sizeOf' w hi1, hi, hzv, hf]
    · cases hv
  · cases hv

end
end Go.Vx

namespace Go.Vx
open Go Go.RowKit Go.Great

section
variable {P : Program} {w0 : World} {g0 : Gh} {n : Nat} {e : Env} {a : Act} {w : World} {g : Gh}

theorem stepF_ok {o : Oper} {e' : Env} {K : Env → Prop} (hst : stepF P n e o = some e') (hK : K e') : OpOk P w0 g0 n o e K := by
  unfold stepF at hst
  split at hst
  · rename_i hd
    split at hst
    · rename_i t ad x ho
      split at hst
      · rename_i hdst
        exact store_ok ho hdst hst hK
      · cases hst
    · rename_i t ho
      split at hst
      · rename_i v d hv hdst
        split at hst
        · rename_i hf
          cases hst
          rw [hdst] at hd
          exact alloc_ok ho hdst (by simpa [dOk] using hd) hf hv hK
        · cases hst
      · cases hst
    · rename_i t x ho
      split at hst
      · rename_i v d hv hdst
        split at hst
        · rename_i hf
          cases hst
          rw [hdst] at hd
          exact box_ok ho hdst (by simpa [dOk] using hd) hf hv hK
        · cases hst
      · cases hst
    · rename_i t len parts ho
      split at hst
      · rename_i v d hv hdst
        split at hst
        · rename_i hf
          cases hst
          rw [hdst] at hd
          exact buildSlice_ok ho hdst (by simpa [dOk] using hd) hf hv hK
        · cases hst
      · cases hst
    · rename_i t l c ho
      split at hst
      · rename_i v d hv hdst
        split at hst
        · rename_i hf
          cases hst
          rw [hdst] at hd
          exact makeSlice_ok ho hdst (by simpa [dOk] using hd) hf hv hK
        · cases hst
      · cases hst
    · rename_i args ts ho
      split at hst
      · rename_i e1 v d happ hdst
        split at hst
        · rename_i hc
          cases hst
          rw [hdst] at hd
          exact append_ok ho hdst (by simpa [dOk] using hd) happ hc.1 hc.2.1 hc.2.2 hK
        · cases hst
      · cases hst
    · rename_i t parts ho
      simp only [Option.map_eq_some_iff] at hst
      obtain ⟨v, hv, rfl⟩ := hst
      exact OpOk.val hd (fun a w g h => build_ok ho hv h) hK
    · rename_i s t x ho
      split at hst
      · rename_i v d hv hdst
        split at hst
        · rename_i hf
          cases hst
          rw [hdst] at hd
          exact bytesNew_ok ho hdst (by simpa [dOk] using hd) hf hv hK
        · cases hst
      · simp only [Option.map_eq_some_iff] at hst
        obtain ⟨v, hv, rfl⟩ := hst
        exact OpOk.val hd (fun a w g h => valF_ok hv h) hK
    · simp only [Option.map_eq_some_iff] at hst
      obtain ⟨v, hv, rfl⟩ := hst
      exact OpOk.val hd (fun a w g h => valF_ok hv h) hK
  · cases hst

/-- What a call of f with these arguments comes to: its result, its slices owned by whoever called; and what has become of the arguments that it was handed to be written. -/
def Does (P : Program) (f : FuncId) (ins : List V) (res : V) (outs : List V) : Prop :=
  ∀ (w : World) (g : Gh) (args : Array Value), Inj g w → args.size = ins.length → (∀ b p, g.lab b = some p → ∃ x r, p = x :: r ∧ (x = 0 ∨ 2 ≤ x ∧ x < ins.length + 2)) →
    (∀ (j : Nat) (x : V) (c : Value), ins[j]? = some x → args[j]? = some c → RepS w g [j + 2] x c) →
    Calls P f args w fun e w' => ∃ c g', e = .returned c ∧ Inj g' w' ∧ Fr w g w' g' ∧ RepS w' g' [1] res c ∧
      ∀ (j : Nat) (x : V) (c : Value), outs[j]? = some x → args[j]? = some c → RepS w' g' [j + 2] x c

/-- A tree that nobody writes. -/
def V.toImm : V → V
  | .ow _ xs => .sl (go xs)
  | .sl xs => .sl (go xs)
  | .ag cs => .ag (go cs)
  | .nl => .sl []
  | v => v
where go : List V → List V
  | [] => []
  | x :: r => x.toImm :: go r

theorem V.toImm_go (xs : List V) : V.toImm.go xs = xs.map V.toImm := by
  induction xs with
  | nil => rfl
  | cons x r ih => simp [V.toImm.go, ih]

/-- What a callee reads of a value: whole trees. -/
def Env.imm (e : Env) : V → V
  | .al p => match e.row (.al p) with
    | some xs => .sl (xs.map V.toImm)
    | none => .un
  | .hd p z off len => match e.row (.hd p z off len) with
    | some xs => .sl (xs.map V.toImm)
    | none => .un
  | .ow _ xs => .sl (xs.map V.toImm)
  | .sl xs => .sl xs
  | .ag cs => .ag (go cs)
  | .nl => .sl []
  | .i k n => .i k n
  | .b b => .b b
  | .s s => .s s
  | .np => .np
  | .fn f => .fn f
  | _ => .un
where go : List V → List V
  | [] => []
  | c :: r => Env.imm e c :: go r

end
end Go.Vx

namespace Go.Vx
open Go Go.RowKit Go.Great

section
variable {P : Program} {w0 : World} {g0 : Gh} {n : Nat} {e : Env} {a : Act} {w : World} {g : Gh}

/-- No part of it is memory that nobody writes. -/
def V.noSl : V → Bool
  | .sl xs => xs.isEmpty
  | .im _ => false
  | .ow _ xs => go xs
  | .ag cs => go cs
  | .tp cs => go cs
  | .bx cs => go cs
  | _ => true
where go : List V → Bool
  | [] => true
  | x :: r => x.noSl && go r

theorem V.noSl_get {xs : List V} {j : Nat} {x : V} (h : V.noSl.go xs = true) (hx : xs[j]? = some x) : x.noSl = true := by
  induction xs generalizing j with
  | nil => simp at hx
  | cons c r ih =>
    simp only [V.noSl.go, Bool.and_eq_true] at h
    cases j with
    | zero => simp at hx; subst hx; exact h.1
    | succ j => simp at hx; exact ih h.2 hx

theorem V.noSl_go (xs : List V) : V.noSl.go xs = xs.all V.noSl := by
  induction xs with
  | nil => rfl
  | cons x r ih => simp [V.noSl.go, ih]

/-- What is owned at π is found at ρ. -/
structure MovesOwn (w : World) (g : Gh) (w' : World) (g' : Gh) (π ρ : Path) : Prop where
  own : ∀ b p, g.lab b = some (π ++ p) → g'.lab b = some (ρ ++ p) ∧ w'.heap[b]? = w.heap[b]?
  vm : ∀ p, g'.vm (ρ ++ p) = g.vm (π ++ p)

theorem MovesOwn.sub {w w' : World} {g g' : Gh} {π ρ : Path} (h : MovesOwn w g w' g' π ρ) (q : Path) : MovesOwn w g w' g' (π ++ q) (ρ ++ q) :=
  ⟨fun b p hb => by have := h.own b (q ++ p) (by simpa using hb); simpa using this, fun p => by simpa using h.vm (q ++ p)⟩

theorem RepC.movesOwn {w w' : World} {g g' : Gh} {o : Option Path} {v : V} {cs : List Value} (h : RepC w g o v cs) :
    ∀ {π ρ : Path}, o = some π → v.noSl = true → MovesOwn w g w' g' π ρ → RepC w' g' (some ρ) v cs := by
  induction h with
  | i => intros; exact .i
  | b => intros; exact .b
  | s => intros; exact .s
  | np => intros; exact .np
  | nl => intros; exact .nl
  | un => intros; exact .un
  | fn => intros; exact .fn
  | lit h => intros; exact .lit h
  | slnil => intros; exact .slnil
  | @sl o xs blk ob z cap ch hl hlt hcap hz hc hr =>
    intro π ρ _ hn _
    have : xs = [] := by simpa [V.noSl] using hn
    subst this
    exact .sl blk ob z cap ch (by simp) (by simp) hcap hz (by simp) (by simp)
  | ownil hv => intro π ρ e _ m; cases e; exact .ownil (by have := m.vm []; simp at this; rw [this]; exact hv)
  | ow blk o z cap cur ty ch hl hv hb hcap hmax hroom hz hc hr ih =>
    intro π ρ e hn m
    cases e
    have h1 := m.own blk [] (by simpa using hl)
    have h2 := m.vm []
    simp at h1 h2
    exact .ow blk o z cap cur ty ch h1.1 (by rw [h2]; exact hv) (hb.of h1.2) hcap hmax hroom hz hc (fun j x hx => ih j x hx rfl (V.noSl_get hn hx) (m.sub [j]))
  | ag hn h ih => intro π ρ e hns m; cases e; exact .ag hn (fun f x c hx hc => ih f x c hx hc rfl (V.noSl_get hns hx) (m.sub [f]))

theorem refs_nil {cs : List V} {f : Nat} {x : V} (h : V.refs.go cs = []) (hx : cs[f]? = some x) : x.refs = [] := by
  cases hr : x.refs with
  | nil => rfl
  | cons p r => have := V.mem_go hx (p := p) (by rw [hr]; simp); rw [h] at this; cases this

theorem RepO.movesOwn {w w' : World} {g g' : Gh} {π : Path} {v : V} {cs : List Value} (h : RepO w g π v cs) :
    ∀ {ρ : Path}, v.noSl = true → v.refs = [] → MovesOwn w g w' g' π ρ → RepO w' g' ρ v cs := by
  induction h with
  | c h => intro ρ hn _ m; exact .c (h.movesOwn rfl hn m)
  | ag hn h ih => intro ρ hns hr m; exact .ag hn (fun f x c hx hc => ih f x c hx hc (V.noSl_get hns hx) (refs_nil hr hx) (m.sub [f]))
  | bx blk cur ty hl hv hb hn h ih =>
    intro ρ hns hr m
    have h1 := m.own blk [] (by simpa using hl)
    have h2 := m.vm []
    simp at h1 h2
    exact .bx blk cur ty h1.1 (by rw [h2]; exact hv) (by rw [h1.2]; exact hb) hn (fun f x c hx hc => ih f x c hx hc (V.noSl_get hns hx) (refs_nil hr hx) (m.sub [f]))
  | al => intro ρ _ hr; simp [V.refs] at hr
  | hd => intro ρ _ hr; simp [V.refs] at hr
  | ad => intro ρ _ hr; simp [V.refs] at hr
  | ae => intro ρ _ hr; simp [V.refs] at hr
  | im => intro ρ hn; simp [V.noSl] at hn
  | un => intros; exact .un

theorem RepS.movesOwn {w w' : World} {g g' : Gh} {π : Path} {v : V} {c : Value} (h : RepS w g π v c) :
    ∀ {ρ : Path}, v.noSl = true → v.refs = [] → MovesOwn w g w' g' π ρ → RepS w' g' ρ v c := by
  induction h with
  | one hv h => intro ρ hn hr m; exact .one hv (h.movesOwn hn hr m)
  | agg h => intro ρ hn hr m; exact .agg (h.movesOwn hn hr m)
  | tup hn h ih => intro ρ hns hr m; exact .tup hn (fun f x c hx hc => ih f x c hx hc (V.noSl_get hns hx) (refs_nil hr hx) (m.sub [f]))
  | un => intros; exact .un

/-- The marks as a callee meets them: what it reads of the caller's own is nobody's; the rest is another's. -/
noncomputable def Gh.lend (g : Gh) (R : List Path) : Gh :=
  open Classical in
  { lab := fun b => match g.lab b with
      | some q => if ∃ p ∈ R, p <+: q then none else some (0 :: q)
      | none => none
    vm := fun p => g.vm p.tail }

theorem Gh.lend_none {b : Nat} {R : List Path} (h : g.lab b = none) : (g.lend R).lab b = none := by simp [Gh.lend, h]
theorem Gh.lend_in {b : Nat} {R : List Path} {p q : Path} (h : g.lab b = some (p ++ q)) (hp : p ∈ R) : (g.lend R).lab b = none := by
  simp only [Gh.lend, h]
  rw [if_pos ⟨p, hp, List.prefix_append p q⟩]
theorem Gh.lend_inv {b : Nat} {R : List Path} {q : Path} (h : (g.lend R).lab b = some q) : ∃ r, q = 0 :: r ∧ g.lab b = some r := by
  simp only [Gh.lend] at h
  split at h
  · rename_i q' hq
    split at h
    · cases h
    · cases h; exact ⟨q', rfl, hq⟩
  · cases h

theorem V.toImm_get {xs : List V} {j : Nat} {x : V} (h : (V.toImm.go xs)[j]? = some x) : ∃ y, xs[j]? = some y ∧ x = y.toImm := by
  rw [V.toImm_go, List.getElem?_map, Option.map_eq_some_iff] at h
  obtain ⟨y, hy, rfl⟩ := h
  exact ⟨y, hy, rfl⟩

/-- A tree, seen as one that nobody writes. -/
theorem RepC.toImm {g' : Gh} {o : Option Path} {v : V} {cs : List Value} (h : RepC w g o v cs) : (∀ π, o = some π → ∀ b q, g.lab b = some (π ++ q) → g'.lab b = none) → (∀ b, g.lab b = none → g'.lab b = none) →
    ∀ o', RepC w g' o' v.toImm cs := by
  induction h with
  | i => intros; exact .i
  | b => intros; exact .b
  | s => intros; exact .s
  | np => intros; exact .np
  | nl => intros; exact .slnil
  | un => intros; exact .un
  | fn => intros; exact .fn
  | lit h => intros; exact .lit h
  | slnil => intros; exact .slnil
  | @sl o xs blk ob z cap ch hl hlt hcap hz hc hr ih =>
    intro h1 h2 o'
    have hlen : (V.toImm.go xs).length = xs.length := by rw [V.toImm_go]; simp
    have := RepC.sl (w := w) (g := g') (π := o') (xs := V.toImm.go xs) blk ob z cap ch (fun h => h2 _ (hl (by omega))) (fun h => hlt (by omega)) (by omega) (fun j hj => hz j (by omega)) (fun j hj => hc j (by omega))
      (fun j x hx => by obtain ⟨y, hy, rfl⟩ := V.toImm_get hx; exact ih j y hy (by simp) h2 none)
    rw [hlen] at this
    exact this
  | ownil hv => intros; exact .slnil
  | @ow π xs blk ob z cap cur ty ch hl hv hb hcap hmax hroom hz hc hr ih =>
    intro h1 h2 o'
    have hlen : (V.toImm.go xs).length = xs.length := by rw [V.toImm_go]; simp
    have hblt : blk < w.heap.size := hb.lt
    have := RepC.sl (w := w) (g := g') (π := o') (xs := V.toImm.go xs) blk ob z cap ch (fun h => h1 π rfl blk [] (by simpa using hl)) (fun h => hblt) (by omega) (fun j hj => hz j (by omega)) (fun j hj q c hq => by rw [hb.cell]; exact hc j (by omega) q c hq)
      (fun j x hx => by
        obtain ⟨y, hy, rfl⟩ := V.toImm_get hx
        exact ih j y hy (fun π' hπ' b q hb => by cases hπ'; exact h1 π rfl b (j :: q) (by simpa using hb)) h2 none)
    rw [hlen] at this
    exact this
  | @ag o cs vs hn h ih =>
    intro h1 h2 o'
    have hlen : (V.toImm.go cs).length = cs.length := by rw [V.toImm_go]; simp
    refine .ag (by rw [hlen]; exact hn) (fun f x c hx hc => ?_)
    obtain ⟨y, hy, rfl⟩ := V.toImm_get hx
    refine ih f y c hy hc (fun π' hπ' b q hb => ?_) h2 _
    cases o with
    | none => cases hπ'
    | some π => simp at hπ'; subst hπ'; exact h1 π rfl b (f :: q) (by simpa using hb)

end
end Go.Vx

namespace Go.Vx
open Go Go.RowKit Go.Great

/-- The marks when what stands at p is found at π. -/
noncomputable def Gh.move (g : Gh) (p π : Path) : Gh :=
  open Classical in
  { lab := fun b => match g.lab b with
      | some q => if p <+: q then some (π ++ q.drop p.length) else some q
      | none => none
    vm := fun q => if π <+: q then g.vm (p ++ q.drop π.length) else g.vm q }

section
variable {P : Program} {w0 : World} {g0 : Gh} {n : Nat} {e : Env} {a : Act} {w : World} {g : Gh}

theorem Gh.move_none {b : Nat} {p π : Path} (h : g.lab b = none) : (g.move p π).lab b = none := by simp [Gh.move, h]
theorem Gh.move_under {b : Nat} {p π q : Path} (h : g.lab b = some (p ++ q)) : (g.move p π).lab b = some (π ++ q) := by simp [Gh.move, h]
theorem Gh.move_other {b : Nat} {p π q : Path} (h : g.lab b = some q) (hq : ¬ p <+: q) : (g.move p π).lab b = some q := by simp [Gh.move, h, hq]
theorem Gh.move_vm {p π q : Path} (h : ¬ π <+: q) : (g.move p π).vm q = g.vm q := by simp [Gh.move, h]
theorem Gh.move_vm' {p π r : Path} : (g.move p π).vm (π ++ r) = g.vm (p ++ r) := by simp [Gh.move]
theorem Gh.move_inv {b : Nat} {p π q : Path} (h : (g.move p π).lab b = some q) : (∃ r, g.lab b = some (p ++ r) ∧ q = π ++ r) ∨ (g.lab b = some q ∧ ¬ p <+: q) := by
  simp only [Gh.move] at h
  split at h
  · rename_i q' hq
    split at h
    · rename_i hp
      obtain ⟨r, rfl⟩ := hp
      cases h
      exact .inl ⟨r, by rw [hq], by simp⟩
    · rename_i hp; cases h; exact .inr ⟨hq, hp⟩
  · cases h

/-- Nothing is marked with π or what lies under it. -/
def Gh.bare (g : Gh) (π : Path) : Prop := ∀ b q, g.lab b = some q → ¬ π <+: q

theorem Inj.move (h : Inj g w) {p π : Path} (hb : g.bare π) : Inj (g.move p π) w := by
  refine ⟨fun b b' q hb1 hb2 => ?_, fun b q hb1 => ?_⟩
  · rcases Gh.move_inv hb1 with ⟨r, h1, rfl⟩ | ⟨h1, h2⟩
    · rcases Gh.move_inv hb2 with ⟨r', h1', e'⟩ | ⟨h1', h2'⟩
      · rw [List.append_cancel_left_eq] at e'; subst e'; exact h.1 b b' _ h1 h1'
      · exact (hb b' _ h1' (List.prefix_append π r)).elim
    · rcases Gh.move_inv hb2 with ⟨r', h1', rfl⟩ | ⟨h1', h2'⟩
      · exact (hb b _ h1 (List.prefix_append π r')).elim
      · exact h.1 b b' _ h1 h1'
  · rcases Gh.move_inv hb1 with ⟨r, h1, rfl⟩ | ⟨h1, h2⟩ <;> exact h.2 b _ h1

theorem Gh.bare_move {p π ρ : Path} (h1 : g.bare ρ) (h2 : ¬ ρ <+: π) (h3 : ¬ π <+: ρ) : (g.move p π).bare ρ := by
  intro b q hb hq
  rcases Gh.move_inv hb with ⟨r, _, rfl⟩ | ⟨h, _⟩
  · exact (prefix_either hq).elim h2 h3
  · exact h1 b q h hq

theorem Gh.bare_moved {p π : Path} (h2 : ¬ p <+: π) (h3 : ¬ π <+: p) : (g.move p π).bare p := by
  intro b q hb hq
  rcases Gh.move_inv hb with ⟨r, _, rfl⟩ | ⟨h, hn⟩
  · exact (prefix_either hq).elim h2 h3
  · exact hn hq

theorem Fr.move (h : Fr w0 g0 w g) {p π : Path} (hp : ∀ q, ¬ p <+: 0 :: q) (hπ : ∀ q, ¬ π <+: 0 :: q) : Fr w0 g0 w (g.move p π) := by
  refine ⟨h.os, h.tape, h.output, h.size, fun b hb hk => ?_, fun q => ?_⟩
  · obtain ⟨k1, k2⟩ := h.keep b hb hk
    refine ⟨?_, k2⟩
    rcases hk with hk | ⟨q, hk⟩
    · rw [hk] at k1 ⊢; exact Gh.move_none k1
    · rw [hk] at k1 ⊢; exact Gh.move_other k1 (hp q)
  · rw [Gh.move_vm (hπ q)]; exact h.vm0 q

theorem not_pre0 {x : Nat} {p : Path} (h : x ≠ 0) (q : Path) : ¬ (x :: p) <+: 0 :: q := by
  rintro ⟨r, hr⟩; simp at hr; exact h hr.1

/-- What is set aside leaves its own value behind. -/
theorem Holds.stash (h : Holds w0 g0 e a w g) {t : Nat} {q : Path} {i : Nat} {u : V} {c : Value} (hat : e.at ((t + 2) :: q) = some u) (hu : RepO w g ((t + 2) :: q) u [c]) (hc : c.oneCell' = true ∧ c.cells = #[c])
    (h1 : ∀ cs, u ≠ .ag cs) (h2 : ∀ cs, u ≠ .tp cs) (h3 : u ≠ .un) (hrefs : u.refs = [])
    (huni : ∀ cs, RepO w g ((t + 2) :: q) u cs → cs = [c]) (hb : g.bare [1, i]) (hfree : ∀ s, ∀ r ∈ (e.get s).refs, r.head? ≠ some 1) :
    Holds w0 g0 (e.putAt ((t + 2) :: q) (.lit c)) a w (g.move ((t + 2) :: q) [1, i]) ∧ RepO w (g.move ((t + 2) :: q) [1, i]) [1, i] u [c] := by
  have hpre : ∀ x r, ¬ ((t + 2) :: q) <+: (x :: r) → True := fun _ _ _ => trivial
  have hvm : ∀ r : Path, r.head? ≠ some 1 → (g.move ((t + 2) :: q) [1, i]).vm r = g.vm r := fun r hr => Gh.move_vm (by rintro ⟨s, rfl⟩; simp at hr)
  have hk : ∀ b, g.lab b = none → (g.move ((t + 2) :: q) [1, i]).lab b = none := fun b hb => Gh.move_none hb
  refine ⟨⟨h.inj.move hb, h.fr.move (not_pre0 (by omega)) (not_pre0 (by omega)), fun s => ?_⟩, ?_⟩
  · rw [Env.putAt_get]
    simp only
    by_cases hts : t = s
    · subst hts
      simp only [if_true]
      refine RepS.put q (by simp) (h.rep t) hat ⟨Nat.le_refl _, fun b _ hb => ⟨hk b hb, rfl⟩, fun b p hb _ hp => ⟨Gh.move_other hb (by simpa using hp), rfl⟩, fun p hp _ => hvm p (by rw [hp]; simp)⟩
        (fun r hr => hvm r (hfree t r hr)) (fun cs hcs => ?_) (fun cs hcs => ?_) (fun c' hc' => ?_)
      · obtain rfl := huni _ (by simpa using RepO.c hcs); exact .lit hc
      · obtain rfl := huni _ (by simpa using hcs); exact .c (.lit hc)
      · have := huni _ (by simpa using hc'.cell h1 h2 h3)
        simp at this
        subst this
        exact .one (by simp) (.c (.lit hc))
    · simp only [hts, if_false]
      refine (h.rep s).moves ⟨Nat.le_refl _, fun b _ hb => ⟨hk b hb, rfl⟩, fun b p hb => ⟨Gh.move_other hb ?_, rfl⟩, fun p => hvm _ (by simp)⟩ (fun r hr => hvm r (hfree s r hr))
      rintro ⟨r, hr⟩; simp at hr; omega
  · refine hu.moves ⟨Nat.le_refl _, fun b _ hb => ⟨hk b hb, rfl⟩, fun b p hb => ⟨Gh.move_under hb, rfl⟩, fun p => Gh.move_vm'⟩ (fun r hr => ?_)
    rw [hrefs] at hr; cases hr

theorem RepO.vm_ow {π : Path} {z : Nat} {xs : List V} {c : Value} (h : RepO w g π (.ow z xs) [c]) : g.vm π = c ∧ RepC w g (some π) (.ow z xs) [c] := by
  cases h with
  | c h => exact ⟨by cases h <;> assumption, h⟩

theorem RepO.vm_bx {π : Path} {ks : List V} {c : Value} (h : RepO w g π (.bx ks) [c]) : g.vm π = c := by
  cases h with
  | c h => cases h
  | bx => assumption

theorem RepS.lit_inv {π : Path} {c u : Value} (h : RepS w g π (.lit c) u) : u = c := by
  cases h with
  | one _ h => cases h with
    | c h => cases h; rfl

/-- What was set aside is put back. -/
theorem Holds.unstash (h : Holds w0 g0 e a w g) {t : Nat} {q : Path} {i : Nat} {u : V} {c : Value} (hat : e.at ((t + 2) :: q) = some (.lit c)) (hu : RepO w g [1, i] u [c])
    (hform : (∃ z xs, u = .ow z xs) ∨ (q = [] ∧ ∃ ks, u = .bx ks)) (hrefs : u.refs = []) (hb : g.bare ((t + 2) :: q)) (hvm : g.vm ((t + 2) :: q) = c)
    (hfree : ∀ s, ∀ r ∈ (e.get s).refs, ((t + 2) :: q) <+: r → r = (t + 2) :: q) :
    Holds w0 g0 (e.putAt ((t + 2) :: q) u) a w (g.move [1, i] ((t + 2) :: q)) ∧ (g.move [1, i] ((t + 2) :: q)).vm ((t + 2) :: q) = c := by
  have hk : ∀ b, g.lab b = none → (g.move [1, i] ((t + 2) :: q)).lab b = none := fun b hb => Gh.move_none hb
  have hc1 : g.vm [1, i] = c := by
    rcases hform with ⟨z, xs, rfl⟩ | ⟨_, ks, rfl⟩
    · exact hu.vm_ow.1
    · exact hu.vm_bx
  have hvp : (g.move [1, i] ((t + 2) :: q)).vm ((t + 2) :: q) = c := by
    have := Gh.move_vm' (g := g) (p := [1, i]) (π := (t + 2) :: q) (r := [])
    simp only [List.append_nil] at this
    rw [this, hc1]
  have hvr : ∀ s, ∀ r ∈ (e.get s).refs, (g.move [1, i] ((t + 2) :: q)).vm r = g.vm r := by
    intro s r hr
    by_cases hp : ((t + 2) :: q) <+: r
    · rw [hfree s r hr hp, hvp, hvm]
    · exact Gh.move_vm hp
  have hmv : Moves w g w (g.move [1, i] ((t + 2) :: q)) [1, i] ((t + 2) :: q) :=
    ⟨Nat.le_refl _, fun b _ hb => ⟨hk b hb, rfl⟩, fun b p hb => ⟨Gh.move_under hb, rfl⟩, fun p => Gh.move_vm'⟩
  have hnew : RepO w (g.move [1, i] ((t + 2) :: q)) ((t + 2) :: q) u [c] := hu.moves hmv (fun r hr => by rw [hrefs] at hr; cases hr)
  have hag : ∀ cs, u ≠ .ag cs := by
    rcases hform with ⟨z, xs, rfl⟩ | ⟨_, ks, rfl⟩ <;> simp
  have hother : ∀ b p, g.lab b = some p → p.head? ≠ some 1 → (g.move [1, i] ((t + 2) :: q)).lab b = some p := by
    intro b p hb hp
    refine Gh.move_other hb ?_
    rintro ⟨r, rfl⟩
    simp at hp
  refine ⟨⟨h.inj.move hb, h.fr.move (not_pre0 (by omega)) (not_pre0 (by omega)), fun s => ?_⟩, hvp⟩
  rw [Env.putAt_get]
  simp only
  by_cases hts : t = s
  · subst hts
    simp only [if_true]
    have hrep := h.rep t
    cases q with
    | nil =>
      simp only [Env.at, V.sub, Option.some.injEq] at hat
      rw [hat] at hrep
      rw [hrep.lit_inv]
      simp only [V.put]
      exact .one hag hnew
    | cons f q =>
      rcases hform with ⟨z, xs, rfl⟩ | ⟨hq, _⟩
      · refine RepS.put (f :: q) (by simp) hrep hat ⟨Nat.le_refl _, fun b _ hb => ⟨hk b hb, rfl⟩, fun b p hb hp _ => ⟨hother b p hb (by rw [hp]; simp), rfl⟩, fun p hp hn => Gh.move_vm (by simpa using hn)⟩
          (hvr t) (fun cs hcs => ?_) (fun cs hcs => ?_) (fun c' hc' => ?_)
        · cases hcs; simpa using hnew.vm_ow.2
        · cases hcs with
          | c hcs => cases hcs; simpa using hnew
        · rw [hc'.lit_inv]; exact .one (by simp) (by simpa using hnew)
      · cases hq
  · simp only [hts, if_false]
    refine (h.rep s).moves ⟨Nat.le_refl _, fun b _ hb => ⟨hk b hb, rfl⟩, fun b p hb => ⟨hother b _ hb (by simp), rfl⟩, fun p => Gh.move_vm ?_⟩ (hvr s)
    rintro ⟨r, hr⟩; simp at hr; omega

end
end Go.Vx

namespace Go.Vx
open Go Go.RowKit Go.Great

/-- The callee's paths for what is handed over: none lies within another, and each is a parameter's. -/
structure Ways (k : Nat) (ρs : List Path) : Prop where
  apart : ∀ (i j : Nat) (ρ σ : Path), ρs[i]? = some ρ → ρs[j]? = some σ → ρ <+: σ → i = j
  head : ∀ (i : Nat) (ρ : Path), ρs[i]? = some ρ → ∃ x r, ρ = x :: r ∧ 2 ≤ x ∧ x < k + 2

/-- The marks as a callee meets them: what is handed over is its own; what it reads is nobody's; the rest is another's. -/
noncomputable def Gh.hand (g : Gh) (R ρs : List Path) : Gh :=
  open Classical in
  { lab := fun b => match g.lab b with
      | some q => if h : ∃ x : Nat × Path × Path, ρs[x.1]? = some x.2.1 ∧ q = 1 :: x.1 :: x.2.2 then some (h.choose.2.1 ++ h.choose.2.2)
          else if q.head? = some 1 ∨ ∃ p ∈ R, p <+: q then none else some (0 :: q)
      | none => none
    vm := fun p => if h : ∃ x : Nat × Path × Path, ρs[x.1]? = some x.2.1 ∧ p = x.2.1 ++ x.2.2 then g.vm (1 :: h.choose.1 :: h.choose.2.2) else g.vm p.tail }

/-- The marks as the caller meets them again. -/
noncomputable def Gh.back (g g' : Gh) (ρs : List Path) (d : Option Nat) : Gh :=
  open Classical in
  { lab := fun b =>
      if ∃ q, g.lab b = some q ∧ q.head? ≠ some 1 then (if ∃ x q, d = some x ∧ g.lab b = some ((x + 2) :: q) then none else g.lab b)
      else match g'.lab b with
        | some p => if p.head? = some 1 then d.map (fun x => (x + 2) :: p.tail)
          else if h : ∃ x : Nat × Path × Path, ρs[x.1]? = some x.2.1 ∧ p = x.2.1 ++ x.2.2 then some (1 :: h.choose.1 :: h.choose.2.2) else none
        | none => none
    vm := fun p => if ∃ x q, d = some x ∧ p = (x + 2) :: q then g'.vm (1 :: p.tail)
      else if h : ∃ x : Nat × Path × Path, ρs[x.1]? = some x.2.1 ∧ p = 1 :: x.1 :: x.2.2 then g'.vm (h.choose.2.1 ++ h.choose.2.2) else g.vm p }

section
variable {w w' : World} {g g' : Gh} {R ρs : List Path} {k : Nat} {d : Option Nat}

theorem Gh.hand_none {b : Nat} (h : g.lab b = none) : (g.hand R ρs).lab b = none := by simp [Gh.hand, h]

theorem ways_pick1 {i : Nat} {ρ r : Path} (hi : ρs[i]? = some ρ) (h : ∃ x : Nat × Path × Path, ρs[x.1]? = some x.2.1 ∧ (1 :: i :: r : Path) = 1 :: x.1 :: x.2.2) : h.choose = (i, ρ, r) := by
  have h1 := h.choose_spec
  generalize h.choose = y at h1
  obtain ⟨j, σ, s⟩ := y
  obtain ⟨h2, h3⟩ := h1
  simp at h2 h3
  obtain ⟨rfl, rfl⟩ := h3
  rw [hi] at h2
  cases h2
  rfl

theorem ways_pick (hw : Ways k ρs) {i : Nat} {ρ r : Path} (hi : ρs[i]? = some ρ) (h : ∃ x : Nat × Path × Path, ρs[x.1]? = some x.2.1 ∧ ρ ++ r = x.2.1 ++ x.2.2) : h.choose = (i, ρ, r) := by
  have h1 := h.choose_spec
  generalize h.choose = y at h1
  obtain ⟨j, σ, s⟩ := y
  obtain ⟨h2, h3⟩ := h1
  simp only at h2 h3
  have he : i = j := by
    have hp : ρ <+: σ ++ s := by rw [← h3]; exact List.prefix_append _ _
    rcases prefix_either hp with h4 | h4
    · exact hw.apart _ _ _ _ hi h2 h4
    · exact (hw.apart _ _ _ _ h2 hi h4).symm
  subst he
  rw [hi] at h2
  cases h2
  rw [List.append_cancel_left_eq] at h3
  subst h3
  rfl

theorem Gh.hand_io {b i : Nat} {ρ r : Path} (h : g.lab b = some (1 :: i :: r)) (hi : ρs[i]? = some ρ) : (g.hand R ρs).lab b = some (ρ ++ r) := by
  have hx : ∃ x : Nat × Path × Path, ρs[x.1]? = some x.2.1 ∧ (1 :: i :: r : Path) = 1 :: x.1 :: x.2.2 := ⟨(i, ρ, r), hi, rfl⟩
  simp only [Gh.hand, h]
  rw [dif_pos hx, ways_pick1 hi hx]

theorem Gh.hand_other {b : Nat} {q : Path} (h : g.lab b = some q) (hq : q.head? ≠ some 1) : (g.hand R ρs).lab b = if ∃ p ∈ R, p <+: q then none else some (0 :: q) := by
  have hx : ¬ ∃ x : Nat × Path × Path, ρs[x.1]? = some x.2.1 ∧ q = 1 :: x.1 :: x.2.2 := by
    rintro ⟨⟨j, σ, s⟩, _, rfl⟩
    exact hq rfl
  simp only [Gh.hand, h]
  rw [dif_neg hx]
  simp only [hq, false_or]

theorem Gh.hand_inv {b : Nat} {p : Path} (h : (g.hand R ρs).lab b = some p) : (∃ i ρ r, g.lab b = some (1 :: i :: r) ∧ ρs[i]? = some ρ ∧ p = ρ ++ r) ∨
    (∃ q, g.lab b = some q ∧ q.head? ≠ some 1 ∧ p = 0 :: q) := by
  cases hg : g.lab b with
  | none => rw [Gh.hand_none hg] at h; cases h
  | some q =>
    by_cases hq : q.head? = some 1
    · simp only [Gh.hand, hg] at h
      split at h
      · rename_i hx
        cases h
        have h1 := hx.choose_spec
        exact .inl ⟨_, _, _, congrArg some h1.2, h1.1, rfl⟩
      · simp [hq] at h
    · rw [Gh.hand_other hg hq] at h
      split at h
      · cases h
      · cases h; exact .inr ⟨q, rfl, hq, rfl⟩

theorem Gh.hand_vm (hw : Ways k ρs) {i : Nat} {ρ r : Path} (hi : ρs[i]? = some ρ) : (g.hand R ρs).vm (ρ ++ r) = g.vm (1 :: i :: r) := by
  have hx : ∃ x : Nat × Path × Path, ρs[x.1]? = some x.2.1 ∧ ρ ++ r = x.2.1 ++ x.2.2 := ⟨(i, ρ, r), hi, rfl⟩
  simp only [Gh.hand]
  rw [dif_pos hx, ways_pick hw hi hx]

theorem Gh.hand_inj (hw : Ways k ρs) (h : Inj g w) : Inj (g.hand R ρs) w := by
  refine ⟨fun b b' p hb hb' => ?_, fun b p hb => ?_⟩
  · rcases Gh.hand_inv hb with ⟨i, ρ, r, h1, h2, rfl⟩ | ⟨q, h1, h2, rfl⟩
    · rcases Gh.hand_inv hb' with ⟨j, σ, s, h1', h2', h3'⟩ | ⟨q, h1', h2', h3'⟩
      · have he : i = j := by
          have hp : ρ <+: σ ++ s := by rw [← h3']; exact List.prefix_append _ _
          rcases prefix_either hp with h4 | h4
          · exact hw.apart _ _ _ _ h2 h2' h4
          · exact (hw.apart _ _ _ _ h2' h2 h4).symm
        subst he
        rw [h2] at h2'
        cases h2'
        rw [List.append_cancel_left_eq] at h3'
        subst h3'
        exact h.1 _ _ _ h1 h1'
      · obtain ⟨x, r', hx, hx2, _⟩ := hw.head i ρ h2
        rw [hx] at h3'
        simp at h3'
        omega
    · rcases Gh.hand_inv hb' with ⟨j, σ, s, h1', h2', h3'⟩ | ⟨q', h1', h2', h3'⟩
      · obtain ⟨x, r', hx, hx2, _⟩ := hw.head j σ h2'
        rw [hx] at h3'
        simp at h3'
        omega
      · simp at h3'
        subst h3'
        exact h.1 _ _ _ h1 h1'
  · rcases Gh.hand_inv hb with ⟨i, ρ, r, h1, h2, rfl⟩ | ⟨q, h1, h2, rfl⟩ <;> exact h.2 _ _ h1

theorem Gh.hand_heads (hw : Ways k ρs) {b : Nat} {p : Path} (hb : (g.hand R ρs).lab b = some p) : ∃ x r, p = x :: r ∧ (x = 0 ∨ 2 ≤ x ∧ x < k + 2) := by
  rcases Gh.hand_inv hb with ⟨i, ρ, r, h1, h2, rfl⟩ | ⟨q, h1, h2, rfl⟩
  · obtain ⟨x, r', hx, hx2, hx3⟩ := hw.head i ρ h2
    exact ⟨x, r' ++ r, by rw [hx]; rfl, .inr ⟨hx2, hx3⟩⟩
  · exact ⟨0, q, rfl, .inl rfl⟩

/-- What is handed over stands at the callee's path. -/
theorem Gh.hand_moves (hw : Ways k ρs) {i : Nat} {ρ : Path} (hi : ρs[i]? = some ρ) : Moves w g w (g.hand R ρs) [1, i] ρ :=
  ⟨Nat.le_refl _, fun b _ hb => ⟨Gh.hand_none hb, rfl⟩, fun b p hb => ⟨Gh.hand_io hb hi, rfl⟩, fun p => Gh.hand_vm hw hi⟩

/-- What became of an old block of the caller's own. -/
theorem back_old (hf : Fr w (g.hand R ρs) w' g') (hin : Inj g w) {b : Nat} {q : Path} (h : g.lab b = some q) (hq : q.head? ≠ some 1) :
    w'.heap[b]? = w.heap[b]? ∧ (g'.lab b = none ∨ g'.lab b = some (0 :: q)) ∧ (R = [] → g'.lab b = some (0 :: q)) := by
  have h1 := Gh.hand_other (R := R) (ρs := ρs) h hq
  have hk : (g.hand R ρs).lab b = none ∨ ∃ p, (g.hand R ρs).lab b = some (0 :: p) := by
    rw [h1]
    split
    · exact .inl rfl
    · exact .inr ⟨q, rfl⟩
  obtain ⟨h2, h3⟩ := hf.keep b (hin.2 _ _ h) hk
  refine ⟨h3, ?_, fun hR => ?_⟩
  · rw [h2, h1]
    split
    · exact .inl rfl
    · exact .inr rfl
  · subst hR
    rw [h2, h1]
    simp

theorem back_none (hf : Fr w (g.hand R ρs) w' g') {b : Nat} (hb : b < w.heap.size) (h : g.lab b = none) : w'.heap[b]? = w.heap[b]? ∧ g'.lab b = none := by
  obtain ⟨h2, h3⟩ := hf.keep b hb (.inl (Gh.hand_none h))
  exact ⟨h3, h2.trans (Gh.hand_none h)⟩

theorem Gh.back_own {b : Nat} {q : Path} (h : g.lab b = some q) (hq : q.head? ≠ some 1) (hd : ∀ x, d = some x → q.head? ≠ some (x + 2)) : (g.back g' ρs d).lab b = some q := by
  simp only [Gh.back]
  rw [if_pos ⟨q, h, hq⟩, if_neg, h]
  rintro ⟨x, r, hx, hr⟩
  rw [h] at hr
  cases hr
  exact hd x hx rfl

theorem Gh.back_rest {b : Nat} (h : ∀ q, g.lab b = some q → q.head? = some 1) (h' : g'.lab b = none) : (g.back g' ρs d).lab b = none := by
  simp only [Gh.back]
  rw [if_neg]
  · rw [h']
  · rintro ⟨q, h1, h2⟩
    exact h2 (h q h1)

theorem Gh.back_res {b x : Nat} {q : Path} (h : ∀ q, g.lab b = some q → q.head? = some 1) (h' : g'.lab b = some (1 :: q)) : (g.back g' ρs (some x)).lab b = some ((x + 2) :: q) := by
  simp only [Gh.back]
  rw [if_neg]
  · rw [h']
    simp
  · rintro ⟨q, h1, h2⟩
    exact h2 (h q h1)

theorem Gh.back_io (hw : Ways k ρs) {b i : Nat} {ρ r : Path} (h : ∀ q, g.lab b = some q → q.head? = some 1) (hi : ρs[i]? = some ρ) (h' : g'.lab b = some (ρ ++ r)) :
    (g.back g' ρs d).lab b = some (1 :: i :: r) := by
  simp only [Gh.back]
  rw [if_neg]
  · rw [h']
    obtain ⟨x, r', hx, hx2, _⟩ := hw.head i ρ hi
    have h1 : ¬ (ρ ++ r).head? = some 1 := by rw [hx]; simp; omega
    have hx : ∃ x : Nat × Path × Path, ρs[x.1]? = some x.2.1 ∧ ρ ++ r = x.2.1 ++ x.2.2 := ⟨(i, ρ, r), hi, rfl⟩
    simp only [h1, if_false]
    rw [dif_pos hx, ways_pick hw hi hx]
  · rintro ⟨q, h1, h2⟩
    exact h2 (h q h1)

theorem Gh.back_inv {b : Nat} {p : Path} (h : (g.back g' ρs d).lab b = some p) :
    (g.lab b = some p ∧ p.head? ≠ some 1 ∧ ∀ x, d = some x → p.head? ≠ some (x + 2)) ∨
    ((∀ q, g.lab b = some q → q.head? = some 1) ∧ ((∃ x q, d = some x ∧ p = (x + 2) :: q ∧ g'.lab b = some (1 :: q)) ∨ ∃ i ρ r, ρs[i]? = some ρ ∧ p = 1 :: i :: r ∧ g'.lab b = some (ρ ++ r))) := by
  simp only [Gh.back] at h
  split at h
  · rename_i hx
    obtain ⟨q, h1, h2⟩ := hx
    split at h
    · cases h
    · rename_i hn
      rw [h1] at h
      cases h
      refine .inl ⟨h1, h2, fun x hx hh => hn ?_⟩
      cases p with
      | nil => simp at hh
      | cons y r => simp at hh; subst hh; exact ⟨x, r, hx, h1⟩
  · rename_i hx
    have hx' : ∀ q, g.lab b = some q → q.head? = some 1 := fun q hq => Classical.byContradiction fun hn => hx ⟨q, hq, hn⟩
    split at h
    · rename_i p' hp'
      split at h
      · rename_i h1
        cases d with
        | none => cases h
        | some x =>
          cases h
          refine .inr ⟨hx', .inl ⟨x, p'.tail, rfl, rfl, ?_⟩⟩
          rw [hp']
          cases p' with
          | nil => simp at h1
          | cons y r => simp at h1; subst h1; rfl
      · split at h
        · rename_i hh
          cases h
          have h2 := hh.choose_spec
          exact .inr ⟨hx', .inr ⟨_, _, _, h2.1, rfl, hp'.trans (congrArg some h2.2)⟩⟩
        · cases h
    · cases h

theorem Gh.back_vm_res {x : Nat} {q : Path} : (g.back g' ρs (some x)).vm ((x + 2) :: q) = g'.vm (1 :: q) := by
  simp only [Gh.back]
  rw [if_pos ⟨x, q, rfl, rfl⟩]
  rfl

theorem Gh.back_vm_io {i : Nat} {ρ r : Path} (hi : ρs[i]? = some ρ) : (g.back g' ρs d).vm (1 :: i :: r) = g'.vm (ρ ++ r) := by
  have hx : ∃ x : Nat × Path × Path, ρs[x.1]? = some x.2.1 ∧ (1 :: i :: r : Path) = 1 :: x.1 :: x.2.2 := ⟨(i, ρ, r), hi, rfl⟩
  simp only [Gh.back]
  rw [if_neg, dif_pos hx, ways_pick1 hi hx]
  rintro ⟨x, q, _, hq⟩
  simp at hq

theorem Gh.back_vm {p : Path} (h1 : p.head? ≠ some 1) (h2 : ∀ x, d = some x → p.head? ≠ some (x + 2)) : (g.back g' ρs d).vm p = g.vm p := by
  simp only [Gh.back]
  rw [if_neg, dif_neg]
  · rintro ⟨⟨i, ρ, r⟩, _, rfl⟩; exact h1 rfl
  · rintro ⟨x, q, hx, rfl⟩; exact h2 x hx rfl

theorem Gh.back_inj (hw : Ways k ρs) (hin : Inj g w) (hin' : Inj g' w') (hsz : w.heap.size ≤ w'.heap.size) : Inj (g.back g' ρs d) w' := by
  refine ⟨fun b b' p hb hb' => ?_, fun b p hb => ?_⟩
  · rcases Gh.back_inv hb with ⟨h1, h2, h3⟩ | ⟨h0, ⟨x, q, hx, rfl, h1⟩ | ⟨i, ρ, r, hi, rfl, h1⟩⟩
    · rcases Gh.back_inv hb' with ⟨h1', h2', h3'⟩ | ⟨h0', ⟨x, q, hx, rfl, h1'⟩ | ⟨i, ρ, r, hi, rfl, h1'⟩⟩
      · exact hin.1 _ _ _ h1 h1'
      · exact (h3 x hx rfl).elim
      · exact (h2 rfl).elim
    · rcases Gh.back_inv hb' with ⟨h1', h2', h3'⟩ | ⟨h0', ⟨x', q', hx', he, h1'⟩ | ⟨i, ρ, r, hi, he, h1'⟩⟩
      · exact (h3' x hx rfl).elim
      · simp at he; obtain ⟨_, rfl⟩ := he; exact hin'.1 _ _ _ h1 h1'
      · simp at he
    · rcases Gh.back_inv hb' with ⟨h1', h2', h3'⟩ | ⟨h0', ⟨x', q', hx', he, h1'⟩ | ⟨i', ρ', r', hi', he, h1'⟩⟩
      · exact (h2' rfl).elim
      · simp at he
      · simp at he
        obtain ⟨rfl, rfl⟩ := he
        rw [hi] at hi'
        cases hi'
        exact hin'.1 _ _ _ h1 h1'
  · rcases Gh.back_inv hb with ⟨h1, h2, h3⟩ | ⟨h0, ⟨x, q, hx, rfl, h1⟩ | ⟨i, ρ, r, hi, rfl, h1⟩⟩
    · exact Nat.lt_of_lt_of_le (hin.2 _ _ h1) hsz
    · exact hin'.2 _ _ h1
    · exact hin'.2 _ _ h1

end
end Go.Vx
