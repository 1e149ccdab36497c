/- What the arguments of a row stand for. No condition. -/
import Derived.Test.YtfcjjkfjdecakaaVC
import Derived.OpenShut
import Derived.ShutString
import Derived.ChangeOld
import Derived.SizedLaws
import Derived.Carry
import Derived.ChangeSlices
import Derived.ProofKit
set_option linter.unusedVariables false
set_option linter.unusedSimpArgs false
namespace Go.Vx
open Go Go.RowKit Go.Great Go.ChangeShapes Go.WideShapes

/-- The kinds of cells that hold no row. -/
inductive FK where
  | int (k : IntKind) | bool | str

/-- What a cell of such a kind is. -/
inductive FLeaf : FK → V → Prop
  | int {k n} (h : k.has n) : FLeaf (.int k) (.i k n)
  | bool {b} : FLeaf .bool (.b b)
  | str {l} (h : l.length ≤ maxLen) : FLeaf .str (.s l)
theorem FLeaf.int_inv {k : IntKind} {v : V} (h : FLeaf (.int k) v) : ∃ n, v = .i k n ∧ k.has n := by cases h; exact ⟨_, rfl, by assumption⟩
theorem FLeaf.bool_inv {v : V} (h : FLeaf .bool v) : ∃ b, v = .b b := by cases h; exact ⟨_, rfl⟩
theorem FLeaf.str_inv {v : V} (h : FLeaf .str v) : ∃ l, v = .s l ∧ l.length ≤ maxLen := by cases h; exact ⟨_, rfl, by assumption⟩

/-- The kinds of cells that are taken; rows: of structs of such fields, or of one. -/
inductive LK where
  | int (k : IntKind) | bool | str | ints (k : IntKind) | rows (fks : List FK) (st : Bool)

/-- An element of such a row. -/
def FElem (fks : List FK) (st : Bool) (x : V) : Prop := x.isAg = st ∧ x.cs.length = fks.length ∧ ∀ (i : Nat) (fk : FK) (v : V), fks[i]? = some fk → x.cs[i]? = some v → FLeaf fk v

/-- What a cell of such a kind is. -/
inductive Leaf : LK → V → Prop
  | int {k n} (h : k.has n) : Leaf (.int k) (.i k n)
  | bool {b} : Leaf .bool (.b b)
  | str {l} (h : l.length ≤ maxLen) : Leaf .str (.s l)
  | ints {k} {zs : List Int} (h : ∀ z ∈ zs, k.has z) (hl : zs.length ≤ maxLen) : Leaf (.ints k) (.sl (zs.map (.i k)))
  | rows {fks st} {xs : List V} (h : ∀ x ∈ xs, FElem fks st x) (hl : xs.length ≤ maxLen) : Leaf (.rows fks st) (.sl xs)

theorem Leaf.int_inv {k : IntKind} {v : V} (h : Leaf (.int k) v) : ∃ n, v = .i k n ∧ k.has n := by cases h; exact ⟨_, rfl, by assumption⟩
theorem Leaf.bool_inv {v : V} (h : Leaf .bool v) : ∃ b, v = .b b := by cases h; exact ⟨_, rfl⟩
theorem Leaf.str_inv {v : V} (h : Leaf .str v) : ∃ l, v = .s l ∧ l.length ≤ maxLen := by cases h; exact ⟨_, rfl, by assumption⟩
theorem Leaf.ints_inv {k : IntKind} {v : V} (h : Leaf (.ints k) v) : ∃ zs : List Int, v = .sl (zs.map (.i k)) ∧ (∀ z ∈ zs, k.has z) ∧ zs.length ≤ maxLen := by cases h; exact ⟨_, rfl, by assumption, by assumption⟩

theorem Leaf.rows_inv {fks : List FK} {st : Bool} {v : V} (h : Leaf (.rows fks st) v) : ∃ xs : List V, v = .sl xs ∧ (∀ x ∈ xs, FElem fks st x) ∧ xs.length ≤ maxLen := by cases h; exact ⟨_, rfl, by assumption, by assumption⟩
/-- A row, by what its elements stand for. -/
theorem rows_of {α : Type} {fks : List FK} {st : Bool} {f : α → V} {p : α → Prop} (h : ∀ x, FElem fks st x → ∃ a, x = f a ∧ p a) : ∀ {xs : List V}, (∀ x ∈ xs, FElem fks st x) → ∃ l : List α, xs = l.map f ∧ ∀ a ∈ l, p a
  | [], _ => ⟨[], rfl, by simp⟩
  | x :: xs, hx => by
    obtain ⟨a, rfl, ha⟩ := h x (hx x (List.mem_cons_self ..))
    obtain ⟨l, rfl, hl⟩ := rows_of h (fun y hy => hx y (List.mem_cons_of_mem _ hy))
    refine ⟨a :: l, rfl, fun b hb => ?_⟩
    rcases List.mem_cons.1 hb with rfl | hb
    · exact ha
    · exact hl b hb

theorem okWide_cell {P : Program} {w : World} {base : Nat} {t e : TypeId} {v : Value} (ht : P.underlying t = some (.slice e)) (h : Value.okWide P w .any base t v) : Cell.okWide P w .any base t v := by
  unfold Value.okWide at h
  rw [ht] at h
  exact h

def FK.ok (P : Program) (t : TypeId) : FK → Prop
  | .int k => P.underlying t = some (.int k)
  | .bool => P.underlying t = some .bool
  | .str => P.underlying t = some .string
def LK.ok (P : Program) (t : TypeId) : LK → Prop
  | .int k => P.underlying t = some (.int k)
  | .bool => P.underlying t = some .bool
  | .str => P.underlying t = some .string
  | .ints k => ∃ e, P.underlying t = some (.slice e) ∧ P.underlying e = some (.int k) ∧ P.cellsOf e = 1
  | .rows fks true => ∃ e fs, P.underlying t = some (.slice e) ∧ P.underlying e = some (.struct fs) ∧ fks.length = fs.size ∧ P.cellsOf e = fs.size ∧
      ∀ (i : Nat) (f : Field) (fk : FK), fs[i]? = some f → fks[i]? = some fk → fk.ok P f.type ∧ f.offset = i ∧ P.cellsOf f.type = 1
  | .rows fks false => ∃ e fk, P.underlying t = some (.slice e) ∧ fks = [fk] ∧ fk.ok P e ∧ P.cellsOf e = 1

theorem has_of_wf {k : IntKind} {n : Int} (h : (Lit.int k n).wf = true) : k.has n := by
  simp only [Lit.wf, decide_eq_true_eq, Bool.and_eq_true] at h
  exact h

section
variable {H : Type} {enc : TypeId × Value → H} {P : Program} {w : World}

theorem spot_of {base len cap : Nat} {u : TypeId} {a : Addr} (h : Cell.okWide P w .any base u (.slice (some a) len cap)) : a.spot = none ∧ a.block < w.heap.size := by
  unfold Cell.okWide at h
  split at h
  all_goals first
    | (rename_i h2; cases h2; done)
    | skip
  unfold Cell.ok at h
  split at h
  all_goals first
    | (rename_i h2; cases h2; done)
    | skip
  · rename_i h2
    cases h2
    obtain ⟨_, _, _, hs, r, cl, hsh, _⟩ := h
    refine ⟨hs, ?_⟩
    unfold World.shape? at hsh
    split at hsh
    · rename_i hb; exact (Array.getElem?_eq_some_iff.1 hb).1
    · cases hsh
  · cases h

theorem flat_open {t : TypeId} {fk : FK} {fuel : Nat} {sp : Nat → Bool} {hd : Bool} {cs : List Value} {x : DataW H × List MemPlace} (hk : fk.ok P t) (h : DataW.trod enc P w 0 sp hd fuel t cs = some x) :
    ∃ c, cs = [c] ∧ FLeaf fk (cvC c) := by
  cases fk with
  | int k =>
    obtain ⟨n, rfl, _, hw⟩ := DataW.trod_int hk h
    exact ⟨_, rfl, .int (has_of_wf hw)⟩
  | bool =>
    obtain ⟨b, rfl, _⟩ := DataW.trod_bool hk h
    exact ⟨_, rfl, .bool⟩
  | str =>
    obtain ⟨s, rfl, _, hs⟩ := DataW.trod_string hk h
    exact ⟨_, rfl, .str (by simpa using hs)⟩

/-- A row's elements, each out of its cells. -/
theorem row_open {t e : TypeId} {fuel base z : Nat} {sp : Nat → Bool} {hd : Bool} {c : Value} {x : DataW H × List MemPlace} (ht : P.underlying t = some (.slice e)) (hz : P.cellsOf e = z) (hval : ∃ u, Cell.okWide P w .any base u c)
    (h : DataW.trod enc P w 0 sp hd fuel t [c] = some x) (o : Option Path) (el : List Value → V) (good : V → Prop)
    (hel : ∀ (m : Nat) (cs : List Value) (y : DataW H × List MemPlace), cs.length = z → DataW.trod enc P w 0 sp hd m e cs = some y → good (el cs) ∧ RepC w gNone none (el cs) cs) :
    ∃ xs : List V, (∀ x ∈ xs, good x) ∧ xs.length ≤ maxLen ∧ RepC w gNone o (.sl xs) [c] := by
  rcases DataW.trod_slice ht h with ⟨h0, _⟩ | ⟨a, len, cap, elems, rest, n, _, h0, _, _, hlc, hcm, hlen, hget, _⟩
  · cases h0
    exact ⟨[], by simp, by simp, .slnil⟩
  · cases h0
    obtain ⟨u, hval⟩ := hval
    have hspot := spot_of hval
    obtain ⟨blk, off, spot⟩ := a
    simp only at hspot
    obtain ⟨rfl, hblk⟩ := hspot
    have key : ∀ i, i < len → ∃ cs, w.cells? 0 ((⟨blk, off, none⟩ : Addr).add (i * z)) z = some cs ∧ cs.length = z ∧ good (el cs) ∧ RepC w gNone none (el cs) cs ∧ ∀ q v, cs[q]? = some v → w.cell? ⟨blk, off + i * z + q, none⟩ = some v := by
      intro i hi
      have hg := hget i hi
      rw [hz, List.getElem?_eq_getElem (by omega), Option.bind_eq_some_iff] at hg
      obtain ⟨cs, h1, h2⟩ := hg
      obtain ⟨_, h3, h4⟩ := World.cells?_some h1
      obtain ⟨h5, h6⟩ := hel _ cs _ h3 h2
      refine ⟨cs, h1, h3, h5, h6, fun q v hq => ?_⟩
      have hql := (List.getElem?_eq_some_iff.1 hq).1
      have := h4 q (by omega)
      rw [hq] at this
      rw [add_addr, add_addr] at this
      exact this
    refine ⟨(List.range len).map fun i => el ((w.cells? 0 ((⟨blk, off, none⟩ : Addr).add (i * z)) z).getD []), fun x hx => ?_, by simp; omega, ?_⟩
    · obtain ⟨i, hi, rfl⟩ := List.mem_map.1 hx
      obtain ⟨cs, h1, _, h3, _⟩ := key i (by simpa using hi)
      rw [h1]; exact h3
    · have hl2 : ((List.range len).map fun i => el ((w.cells? 0 ((⟨blk, off, none⟩ : Addr).add (i * z)) z).getD [])).length = len := by simp
      have := RepC.sl (w := w) (g := gNone) (π := o) (xs := (List.range len).map fun i => el ((w.cells? 0 ((⟨blk, off, none⟩ : Addr).add (i * z)) z).getD [])) blk off z cap
        (fun i => (w.cells? 0 ((⟨blk, off, none⟩ : Addr).add (i * z)) z).getD []) (fun _ => rfl) (fun _ => hblk) (by omega)
        (fun j hj => by obtain ⟨cs, h1, h2, _⟩ := key j (by omega); simp only [h1, Option.getD_some]; exact h2)
        (fun j hj q v hq => by obtain ⟨cs, h1, _, _, _, h5⟩ := key j (by omega); simp only [h1, Option.getD_some] at hq; exact h5 q v hq)
        (fun j x hx => by
          simp only [List.getElem?_map, Option.map_eq_some_iff] at hx
          obtain ⟨i, hi, rfl⟩ := hx
          have hil := (List.getElem?_eq_some_iff.1 hi).1
          simp only [List.length_range] at hil
          rw [List.getElem?_range hil] at hi
          cases hi
          obtain ⟨cs, h1, _, _, h4, _⟩ := key j hil
          simp only [h1, Option.getD_some]
          exact h4)
      rw [hl2] at this
      exact this

theorem cvC_flat {fk : FK} {c : Value} (h : FLeaf fk (cvC c)) (g : Gh) (π : Option Path) : RepC w g π (cvC c) [c] := by
  have hp : (cvC c).plain = true := by
    cases fk with
    | int k => obtain ⟨n, hn, _⟩ := h.int_inv; rw [hn]; rfl
    | bool => obtain ⟨b, hb⟩ := h.bool_inv; rw [hb]; rfl
    | str => obtain ⟨l, hl, _⟩ := h.str_inv; rw [hl]; rfl
  exact ((cvC_rep w g c []).plain hp).any (cvC_loose c) _

theorem leaf_open {t : TypeId} {lk : LK} {fuel base : Nat} {sp : Nat → Bool} {hd : Bool} {c : Value} {x : DataW H × List MemPlace} (hk : lk.ok P t) (hval : ∃ u, Cell.okWide P w .any base u c)
    (h : DataW.trod enc P w 0 sp hd fuel t [c] = some x) (o : Option Path) : ∃ v, Leaf lk v ∧ RepC w gNone o v [c] := by
  cases lk with
  | int k =>
    cases fuel with
    | zero => cases h
    | succ fuel =>
      simp only [LK.ok] at hk
      unfold DataW.trod at h
      rw [hk] at h
      cases c <;> simp only [reduceCtorEq] at h
      rename_i k' n
      split at h
      · rename_i hw
        obtain ⟨rfl, hw⟩ := hw
        exact ⟨_, .int (has_of_wf hw), .i⟩
      · cases h
  | bool =>
    cases fuel with
    | zero => cases h
    | succ fuel =>
      simp only [LK.ok] at hk
      unfold DataW.trod at h
      rw [hk] at h
      cases c <;> simp only [reduceCtorEq] at h
      exact ⟨_, .bool, .b⟩
  | str =>
    cases fuel with
    | zero => cases h
    | succ fuel =>
      simp only [LK.ok] at hk
      unfold DataW.trod at h
      rw [hk] at h
      cases c <;> simp only [reduceCtorEq] at h
      rename_i s
      split at h
      · rename_i hs
        refine ⟨.s s.data.toList, .str (by simpa using hs), ?_⟩
        have := RepC.s (w := w) (g := gNone) (π := o) (l := s.data.toList)
        simpa using this
      · cases h
  | ints k =>
    obtain ⟨e, h1, h2, h3⟩ := hk
    rcases open_ints h1 h2 h3 h with ⟨hc, _⟩ | ⟨a, len, cap, zs, hc, _, hl, hm, hz, _, hcell, hwf⟩
    · cases hc
      exact ⟨.sl [], .ints (zs := []) (by simp) (by simp), .slnil⟩
    · cases hc
      obtain ⟨u, hval⟩ := hval
      have hspot := spot_of hval
      have hz' : len ≤ zs.length := by rw [hz]; split <;> omega
      obtain ⟨blk, off, spot⟩ := a
      simp only at hspot
      obtain ⟨rfl, hblk⟩ := hspot
      refine ⟨.sl ((zs.take len).map (.i k)), .ints (fun z hzm => has_of_wf (hwf z (List.mem_of_mem_take hzm))) (by rw [List.length_take]; omega), ?_⟩
      have hlen : ((zs.take len).map (V.i k)).length = len := by rw [List.length_map, List.length_take]; omega
      have := RepC.sl (w := w) (g := gNone) (π := o) (xs := (zs.take len).map (.i k)) blk off 1 cap (fun j => [.int k (zs.getD j 0)]) (fun _ => rfl) (fun _ => hblk) (by omega) (fun _ _ => rfl)
        (fun j hj q c hq => by
          cases q with
          | zero =>
            simp at hq
            subst hq
            have := hcell j (by omega)
            simp only [Addr.add] at this
            split at this
            · rename_i hj0; subst hj0; simpa using this
            · simpa using this
          | succ q => simp at hq)
        (fun j x hx => by
          simp only [List.getElem?_map, Option.map_eq_some_iff] at hx
          obtain ⟨z, hz', rfl⟩ := hx
          have hz2 : zs[j]? = some z := by
            rw [List.getElem?_take] at hz'
            split at hz'
            · exact hz'
            · cases hz'
          have : zs.getD j 0 = z := by rw [List.getD_eq_getElem?_getD, hz2]; rfl
          rw [this]
          exact .i)
      rw [hlen] at this
      exact this

  | rows fks st =>
    cases st with
    | true =>
      obtain ⟨e, fs, h1, h2, h3, h4, h5⟩ := hk
      obtain ⟨xs, hx, hl, hr⟩ := row_open h1 (h4.trans h3.symm) hval h o (fun cs => .ag (cs.map cvC)) (FElem fks true) (fun m cs y hcl hy => by
        have each : ∀ (i : Nat) (fk : FK) (c : Value), fks[i]? = some fk → cs[i]? = some c → FLeaf fk (cvC c) := by
          intro i fk c hfk hc
          obtain ⟨ys, n, _, _, hl, hyl, hf⟩ := DataW.trod_struct h2 hy
          have hil := (List.getElem?_eq_some_iff.1 hfk).1
          have hfi : fs[i]? = some fs[i] := Array.getElem?_eq_getElem (by omega)
          obtain ⟨k1, k2, k3⟩ := h5 i _ _ hfi hfk
          have ht := hf i _ hfi
          rw [k2, k3, List.getElem?_eq_getElem (by omega)] at ht
          obtain ⟨c', hc', hle⟩ := flat_open k1 ht
          have hil2 := (List.getElem?_eq_some_iff.1 hc).1
          rw [List.drop_eq_getElem_cons hil2] at hc'
          simp only [List.take_succ_cons, List.take_zero, List.cons.injEq, and_true] at hc'
          rw [← hc', (List.getElem?_eq_some_iff.1 hc).2] at hle
          exact hle
        refine ⟨⟨rfl, by simp [V.cs, hcl], fun i fk v hfk hv => ?_⟩, .ag (by simp) (fun f x c hx hc => ?_)⟩
        · simp only [V.cs, List.getElem?_map, Option.map_eq_some_iff] at hv
          obtain ⟨c, hc, rfl⟩ := hv
          exact each i fk c hfk hc
        · simp only [List.getElem?_map, hc, Option.map_some, Option.some.injEq] at hx
          subst hx
          have hfl := (List.getElem?_eq_some_iff.1 hc).1
          exact cvC_flat (each f _ c (List.getElem?_eq_getElem (by omega)) hc) _ _)
      exact ⟨.sl xs, .rows hx hl, hr⟩
    | false =>
      obtain ⟨e, fk, h1, rfl, h3, h4⟩ := hk
      obtain ⟨xs, hx, hl, hr⟩ := row_open h1 h4 hval h o (fun cs => cvC (cs.headD undef)) (FElem [fk] false) (fun m cs y hcl hy => by
        obtain ⟨c, rfl, hle⟩ := flat_open h3 hy
        have hna : (cvC c).cs = [cvC c] ∧ (cvC c).isAg = false := by
          cases fk with
          | int k => obtain ⟨n, hn, _⟩ := hle.int_inv; rw [hn]; exact ⟨rfl, rfl⟩
          | bool => obtain ⟨b, hb⟩ := hle.bool_inv; rw [hb]; exact ⟨rfl, rfl⟩
          | str => obtain ⟨l, hl, _⟩ := hle.str_inv; rw [hl]; exact ⟨rfl, rfl⟩
        refine ⟨⟨hna.2, by show (cvC c).cs.length = 1; rw [hna.1]; rfl, fun i fk' v hfk hv => ?_⟩, cvC_flat hle _ _⟩
        have hv' : (cvC c).cs[i]? = some v := hv
        rw [hna.1] at hv'
        cases i with
        | zero => simp at hfk hv'; subst hfk; subst hv'; exact hle
        | succ i => simp at hfk)
      exact ⟨.sl xs, .rows hx hl, hr⟩

/-- A struct whose fields are such cells. -/
theorem struct_open {t : TypeId} {fs : Array Field} {lks : List LK} {base : Nat} {sp : Nat → Bool} {hd : Bool} {v : Value} {d : DataW H} {ps : List MemPlace} (ht : P.underlying t = some (.struct fs)) (hlen : lks.length = fs.size)
    (hlk : ∀ (i : Nat) (f : Field) (lk : LK), fs[i]? = some f → lks[i]? = some lk → lk.ok P f.type ∧ f.offset = i ∧ P.cellsOf f.type = 1) (hn : P.cellsOf t = fs.size) (hval : Value.okWide P w .any base t v)
    (h : DataW.Trod enc P w 0 sp hd t v d ps) (π : Path) : ∃ vs : List V, vs.length = lks.length ∧ (∀ (i : Nat) (lk : LK) (x : V), lks[i]? = some lk → vs[i]? = some x → Leaf lk x) ∧ RepS w gNone π (.ag vs) v := by
  unfold Value.okWide at hval
  rw [ht] at hval
  obtain ⟨cs, rfl, hsz, ts, _, _, hcell⟩ := hval
  obtain ⟨fuel, h⟩ := h
  have hcells : (Value.agg cs).cells.toList = cs.toList := by simp [Value.cells]
  rw [hcells] at h
  obtain ⟨xs, n, _, _, hl, hxl, hf⟩ := DataW.trod_struct ht h
  have key : ∀ i, i < lks.length → ∃ x : V, (∀ lk, lks[i]? = some lk → Leaf lk x) ∧ ∀ c, cs.toList[i]? = some c → RepC w gNone (some (π ++ [i])) x [c] := by
    intro i hi
    have hfi : fs[i]? = some fs[i] := Array.getElem?_eq_getElem (by omega)
    have hli : lks[i]? = some lks[i] := List.getElem?_eq_getElem hi
    obtain ⟨k1, k2, k3⟩ := hlk i _ _ hfi hli
    have hci : cs.toList[i]? = some cs[i] := by rw [Array.getElem?_toList]; exact Array.getElem?_eq_getElem (by omega)
    have ht := hf i _ hfi
    rw [k2, k3] at ht
    have hdrop : (cs.toList.drop i).take 1 = [cs[i]] := by
      rw [List.drop_eq_getElem_cons (by simp; omega)]
      simp
    rw [hdrop] at ht
    obtain ⟨y, hy⟩ : ∃ y, xs[i]? = some y := ⟨_, List.getElem?_eq_getElem (by omega)⟩
    rw [hy] at ht
    obtain ⟨u, _, hu⟩ := hcell i cs[i] (Array.getElem?_eq_getElem (by omega))
    obtain ⟨x, hx1, hx2⟩ := leaf_open (base := base) k1 ⟨u, hu⟩ ht (some (π ++ [i]))
    refine ⟨x, fun lk hlk => by rw [hli] at hlk; cases hlk; exact hx1, fun c hc => by rw [hci] at hc; cases hc; exact hx2⟩
  have hex : ∃ vs : List V, vs.length = lks.length ∧ ∀ i x, vs[i]? = some x → (∀ lk, lks[i]? = some lk → Leaf lk x) ∧ ∀ c, cs.toList[i]? = some c → RepC w gNone (some (π ++ [i])) x [c] := by
    refine ⟨(List.range lks.length).map fun i => if h : i < lks.length then Classical.choose (key i h) else .un, by simp, fun i x hx => ?_⟩
    simp only [List.getElem?_map, Option.map_eq_some_iff] at hx
    obtain ⟨j, hj, rfl⟩ := hx
    have hjl := (List.getElem?_eq_some_iff.1 hj).1
    simp at hjl
    have : j = i := by rw [List.getElem?_range hjl] at hj; simpa using hj.symm
    subst this
    rw [dif_pos hjl]
    exact Classical.choose_spec (key j hjl)
  obtain ⟨vs, h1, h2⟩ := hex
  refine ⟨vs, h1, fun i lk x hlk hx => (h2 i x hx).1 lk hlk, .agg (.c (.ag (by rw [h1, hlen]; simp; omega) (fun f x c hx hc => ?_)))⟩
  exact (h2 f x hx).2 c hc

/-- An argument that is one such cell. -/
theorem cell_open {t : TypeId} {lk : LK} {base : Nat} {sp : Nat → Bool} {hd : Bool} {v : Value} {d : DataW H} {ps : List MemPlace} (hk : lk.ok P t) (h1 : v.cells = #[v]) (hval : ∃ u, Cell.okWide P w .any base u v)
    (h : DataW.Trod enc P w 0 sp hd t v d ps) (π : Path) : ∃ x, Leaf lk x ∧ RepS w gNone π x v := by
  obtain ⟨fuel, h⟩ := h
  rw [h1] at h
  obtain ⟨x, hx, hr⟩ := leaf_open hk hval h (some π)
  refine ⟨x, hx, .one (fun cs hcs => ?_) (.c hr)⟩
  subst hcs
  cases hx

end
end Go.Vx
