/- What the arguments of a row stand for. No condition. -/
import Derived.Test.YtafipjhalboefaaGreatVC
import Derived.OpenShut
import Derived.ShutString
import Derived.ChangeOld
import Derived.SizedLaws
import Derived.Carry
import Derived.ChangeSlices
import Derived.ProofKit
set_option linter.unusedVariables false
set_option linter.unusedSimpArgs false
namespace Go.Vx
open Go Go.RowKit Go.Great Go.ChangeShapes Go.WideShapes

/-- The kinds of cells; a row: of elements of such cells, structs or not. -/
inductive NK where
  | int (k : IntKind) | bool | str | row (el : List NK) (st : Bool)

/-- What a cell of such a kind is. -/
inductive NLeaf : NK → V → Prop
  | int {k n} (h : k.has n) : NLeaf (.int k) (.i k n)
  | bool {b} : NLeaf .bool (.b b)
  | str {l} (h : l.length ≤ maxLen) : NLeaf .str (.s l)
  | row {ks st} {xs : List V} (hs : ∀ x ∈ xs, x.isAg = st ∧ x.cs.length = ks.length)
      (h : ∀ x ∈ xs, ∀ (i : Nat) (k : NK) (v : V), ks[i]? = some k → x.cs[i]? = some v → NLeaf k v) (hl : xs.length ≤ maxLen) : NLeaf (.row ks st) (.sl xs)

def NLeafs : List NK → List V → Prop
  | [], [] => True
  | k :: ks, v :: vs => NLeaf k v ∧ NLeafs ks vs
  | _, _ => False

theorem NLeafs.len : ∀ {ks : List NK} {vs : List V}, NLeafs ks vs → vs.length = ks.length
  | [], [], _ => rfl
  | _ :: _, _ :: _, h => by simp [NLeafs.len h.2]
  | [], _ :: _, h => h.elim
  | _ :: _, [], h => h.elim
theorem NLeafs.at : ∀ {ks : List NK} {vs : List V}, NLeafs ks vs → ∀ (i : Nat) (k : NK) (v : V), ks[i]? = some k → vs[i]? = some v → NLeaf k v
  | [], [], _, _, _, _, h, _ => by simp at h
  | _ :: _, _ :: _, h, 0, _, _, h1, h2 => by simp at h1 h2; subst h1; subst h2; exact h.1
  | _ :: _, _ :: _, h, i + 1, _, _, h1, h2 => h.2.at i _ _ (by simpa using h1) (by simpa using h2)
theorem NLeafs.of : ∀ {ks : List NK} {vs : List V}, vs.length = ks.length → (∀ (i : Nat) (k : NK) (v : V), ks[i]? = some k → vs[i]? = some v → NLeaf k v) → NLeafs ks vs
  | [], [], _, _ => trivial
  | _ :: _, _ :: _, hl, h => ⟨h 0 _ _ rfl rfl, NLeafs.of (by simpa using hl) fun i k v h1 h2 => h (i + 1) k v (by simpa using h1) (by simpa using h2)⟩
  | [], _ :: _, hl, _ => by simp at hl
  | _ :: _, [], hl, _ => by simp at hl
theorem NLeafs.append : ∀ {ks ks' : List NK} {vs vs' : List V}, NLeafs ks vs → NLeafs ks' vs' → NLeafs (ks ++ ks') (vs ++ vs')
  | [], _, [], _, _, h' => h'
  | _ :: _, _, _ :: _, _, h, h' => ⟨h.1, h.2.append h'⟩
  | [], _, _ :: _, _, h, _ => h.elim
  | _ :: _, _, [], _, h, _ => h.elim

theorem NLeafs.cons_inv {k : NK} {ks : List NK} {vs : List V} (h : NLeafs (k :: ks) vs) : ∃ v r, vs = v :: r ∧ NLeaf k v ∧ NLeafs ks r := by
  match vs, h with
  | v :: r, h => exact ⟨v, r, rfl, h.1, h.2⟩
theorem NLeafs.nil_inv {vs : List V} (h : NLeafs [] vs) : vs = [] := by
  match vs, h with
  | [], _ => rfl
theorem NLeaf.int_inv {k : IntKind} {v : V} (h : NLeaf (.int k) v) : ∃ n, v = .i k n ∧ k.has n := by cases h; exact ⟨_, rfl, by assumption⟩
theorem NLeaf.bool_inv {v : V} (h : NLeaf .bool v) : ∃ b, v = .b b := by cases h; exact ⟨_, rfl⟩
theorem NLeaf.str_inv {v : V} (h : NLeaf .str v) : ∃ l, v = .s l ∧ l.length ≤ maxLen := by cases h; exact ⟨_, rfl, by assumption⟩
theorem NLeaf.row_inv {ks : List NK} {st : Bool} {v : V} (h : NLeaf (.row ks st) v) : ∃ xs : List V, v = .sl xs ∧ xs.length ≤ maxLen ∧ ∀ x ∈ xs, x.isAg = st ∧ NLeafs ks x.cs := by
  cases h with
  | row hs h hl => exact ⟨_, rfl, hl, fun x hx => ⟨(hs x hx).1, NLeafs.of (hs x hx).2 (h x hx)⟩⟩
/-- A row, by what its elements stand for. -/
theorem nrow_of {α : Type} {f : α → V} {p : α → Prop} {q : V → Prop} (h : ∀ x, q x → ∃ a, x = f a ∧ p a) : ∀ {xs : List V}, (∀ x ∈ xs, q x) → ∃ l : List α, xs = l.map f ∧ ∀ a ∈ l, p a
  | [], _ => ⟨[], rfl, by simp⟩
  | x :: xs, hx => by
    obtain ⟨a, rfl, ha⟩ := h x (hx x (List.mem_cons_self ..))
    obtain ⟨l, rfl, hl⟩ := nrow_of h (fun y hy => hx y (List.mem_cons_of_mem _ hy))
    refine ⟨a :: l, rfl, fun b hb => ?_⟩
    rcases List.mem_cons.1 hb with rfl | hb
    · exact ha
    · exact hl b hb
theorem NLeaf.rowW {α : Type} {f : α → V} {p : α → Prop} {ks : List NK} {v : V} (h : NLeaf (.row ks true) v) (hf : ∀ vs, NLeafs ks vs → ∃ a, V.ag vs = f a ∧ p a) :
    ∃ l : List α, v = .sl (l.map f) ∧ l.length ≤ maxLen ∧ ∀ a ∈ l, p a := by
  obtain ⟨xs, rfl, hl, hx⟩ := h.row_inv
  obtain ⟨l, rfl, hp⟩ := nrow_of (f := f) (p := p) (fun x hx => by
    obtain ⟨h1, h2⟩ := hx
    cases x <;> simp [V.isAg] at h1
    exact hf _ h2) hx
  exact ⟨l, rfl, by simpa using hl, hp⟩
theorem NLeaf.ints {k : IntKind} {v : V} (h : NLeaf (.row [.int k] false) v) : ∃ zs : List Int, v = .sl (zs.map (.i k)) ∧ zs.length ≤ maxLen ∧ ∀ z ∈ zs, k.has z := by
  obtain ⟨xs, rfl, hl, hx⟩ := h.row_inv
  obtain ⟨l, rfl, hp⟩ := nrow_of (f := V.i k) (p := k.has) (fun x hx => by
    obtain ⟨h1, h2⟩ := hx
    obtain ⟨c, hc⟩ : ∃ c, x.cs = [c] := by have := h2.len; match h3 : x.cs, this with | [c], _ => exact ⟨c, rfl⟩
    obtain ⟨n, hn, hh⟩ := (h2.at 0 _ c rfl (by rw [hc]; rfl)).int_inv
    refine ⟨n, ?_, hh⟩
    cases x <;> simp [V.isAg] at h1 <;> simp [V.cs] at hc <;> simp_all) hx
  exact ⟨l, rfl, by simpa using hl, hp⟩
theorem NLeaf.strs {v : V} (h : NLeaf (.row [.str] false) v) : ∃ zs : List (List UInt8), v = .sl (zs.map .s) ∧ zs.length ≤ maxLen ∧ ∀ z ∈ zs, z.length ≤ maxLen := by
  obtain ⟨xs, rfl, hl, hx⟩ := h.row_inv
  obtain ⟨l, rfl, hp⟩ := nrow_of (f := V.s) (p := fun z => z.length ≤ maxLen) (fun x hx => by
    obtain ⟨h1, h2⟩ := hx
    obtain ⟨c, hc⟩ : ∃ c, x.cs = [c] := by have := h2.len; match h3 : x.cs, this with | [c], _ => exact ⟨c, rfl⟩
    obtain ⟨n, hn, hh⟩ := (h2.at 0 _ c rfl (by rw [hc]; rfl)).str_inv
    refine ⟨n, ?_, hh⟩
    cases x <;> simp [V.isAg] at h1 <;> simp [V.cs] at hc <;> simp_all) hx
  exact ⟨l, rfl, by simpa using hl, hp⟩

/-- Whether a type's things are structs. -/
def isSt (P : Program) (t : TypeId) : Bool := match P.underlying t with
  | some (.struct _) => true
  | _ => false
def flds (sh : TypeId → Option (List NK)) (P : Program) : List Field → Nat → Option (List NK)
  | [], _ => some []
  | f :: r, o => match sh f.type with
    | some ks => if f.offset = o ∧ P.cellsOf f.type = ks.length then (flds sh P r (o + ks.length)).map (ks ++ ·) else none
    | none => none
/-- The kinds of a type's cells. -/
def shapeOf (P : Program) : Nat → TypeId → Option (List NK)
  | 0, _ => none
  | n + 1, t => match P.underlying t with
    | some (.int k) => some [.int k]
    | some .bool => some [.bool]
    | some .string => some [.str]
    | some (.slice e) => match shapeOf P n e with
      | some ks => if P.cellsOf e = ks.length ∧ 0 < ks.length ∧ (isSt P e = false → ks.length = 1) then some [.row ks (isSt P e)] else none
      | none => none
    | some (.struct fs) => match flds (shapeOf P n) P fs.toList 0 with
      | some ks => if P.cellsOf t = ks.length then some ks else none
      | none => none
    | _ => none

theorem has_of_wf {k : IntKind} {n : Int} (h : (Lit.int k n).wf = true) : k.has n := by
  simp only [Lit.wf, decide_eq_true_eq, Bool.and_eq_true] at h
  exact h

section
variable {H : Type} {enc : TypeId × Value → H} {P : Program} {w : World}

/-- What a type's cells open to. -/
def Opens (enc : TypeId × Value → H) (P : Program) (w : World) (hd : Bool) (t : TypeId) (ks : List NK) : Prop :=
  ∀ (fuel : Nat) (cs : List Value) (x : DataW H × List MemPlace), DataW.trod enc P w 0 (fun _ => true) hd fuel t cs = some x →
    ∃ vs : List V, NLeafs ks vs ∧ cs.length = ks.length ∧ ∀ (i : Nat) (v : V) (c : Value), vs[i]? = some v → cs[i]? = some c → ∀ (o : Option Path), RepC w gNone o v [c]

theorem opens_one {hd : Bool} {t : TypeId} {k : NK} (h : ∀ (fuel : Nat) (cs : List Value) (x : DataW H × List MemPlace), DataW.trod enc P w 0 (fun _ => true) hd fuel t cs = some x → ∃ v c, NLeaf k v ∧ cs = [c] ∧ ∀ (o : Option Path), RepC w gNone o v [c]) :
    Opens enc P w hd t [k] := by
  intro fuel cs x hx
  obtain ⟨v, c, h1, rfl, h2⟩ := h fuel cs x hx
  refine ⟨[v], ⟨h1, trivial⟩, rfl, fun i v' c' hv hc o => ?_⟩
  cases i with
  | zero => simp at hv hc; subst hv; subst hc; exact h2 o
  | succ i => simp at hv

theorem opens_flds {hd : Bool} {sh : TypeId → Option (List NK)} (hsh : ∀ t ks, sh t = some ks → Opens enc P w hd t ks) {cs : List Value} : ∀ (l : List Field) (o : Nat) (ks : List NK), flds sh P l o = some ks → o + ks.length = cs.length →
    (∀ f ∈ l, ∃ m x, DataW.trod enc P w 0 (fun _ => true) hd m f.type ((cs.drop f.offset).take (P.cellsOf f.type)) = some x) →
    ∃ vs : List V, NLeafs ks vs ∧ ∀ (i : Nat) (v : V) (c : Value), vs[i]? = some v → cs[o + i]? = some c → ∀ (o : Option Path), RepC w gNone o v [c]
  | [], o, ks, h, _, _ => by
    simp only [flds, Option.some.injEq] at h
    subst h
    exact ⟨[], trivial, fun i v c hv => by simp at hv⟩
  | f :: r, o, ks, h, hl, hf => by
    simp only [flds] at h
    split at h
    · rename_i k1 hk1
      split at h
      · rename_i hc
        obtain ⟨ho, hc⟩ := hc
        simp only [Option.map_eq_some_iff] at h
        obtain ⟨k2, h2, rfl⟩ := h
        simp only [List.length_append] at hl
        obtain ⟨v2, a1, a2⟩ := opens_flds hsh r _ _ h2 (by omega) (fun g hg => hf g (List.mem_cons_of_mem _ hg))
        obtain ⟨m, x, hx⟩ := hf f (List.mem_cons_self ..)
        obtain ⟨v1, b1, b2, b3⟩ := hsh _ _ hk1 _ _ _ hx
        refine ⟨v1 ++ v2, b1.append a1, fun i v c hv hcc => ?_⟩
        by_cases hi : i < v1.length
        · rw [List.getElem?_append_left hi] at hv
          refine b3 i v c hv ?_
          rw [List.getElem?_take_of_lt (by rw [hc, ← b1.len]; exact hi), List.getElem?_drop, ho]
          exact hcc
        · rw [List.getElem?_append_right (by omega)] at hv
          refine a2 _ v c hv ?_
          rw [← b1.len, show o + v1.length + (i - v1.length) = o + i by omega]
          exact hcc
      · cases h
    · cases h

theorem shape_opens {hd : Bool} : ∀ (n : Nat) (t : TypeId) (ks : List NK), shapeOf P n t = some ks → Opens enc P w hd t ks
  | 0, _, _, h => by simp [shapeOf] at h
  | n + 1, t, ks, h => by
    simp only [shapeOf] at h
    split at h
    · rename_i k ht
      cases h
      refine opens_one fun fuel cs x hx => ?_
      obtain ⟨n, rfl, _, hw⟩ := DataW.trod_int ht hx
      exact ⟨_, _, .int (has_of_wf hw), rfl, fun _ => .i⟩
    · rename_i ht
      cases h
      refine opens_one fun fuel cs x hx => ?_
      obtain ⟨b, rfl, _⟩ := DataW.trod_bool ht hx
      exact ⟨_, _, .bool, rfl, fun _ => .b⟩
    · rename_i ht
      cases h
      refine opens_one fun fuel cs x hx => ?_
      obtain ⟨s, rfl, _, hs⟩ := DataW.trod_string ht hx
      refine ⟨.s s.data.toList, _, .str (by simpa using hs), rfl, fun o => ?_⟩
      have := RepC.s (w := w) (g := gNone) (π := o) (l := s.data.toList)
      simpa using this
    · rename_i e ht
      split at h
      · rename_i ks' hks
        split at h
        · rename_i hc
          cases h
          obtain ⟨hz, hpos, hone⟩ := hc
          have ih := shape_opens (hd := hd) n e ks' hks
          refine opens_one fun fuel cs x hx => ?_
          rcases DataW.trod_slice ht hx with ⟨h0, _⟩ | ⟨a, len, cap, elems, rest, m, _, h0, _, _, hlc, hcm, hlen, hget, hrest, _⟩
          · subst h0
            exact ⟨.sl [], _, .row (by simp) (by simp) (by simp), rfl, fun _ => .slnil⟩
          · subst h0
            by_cases hcap : cap = 0
            · obtain rfl : len = 0 := by omega
              subst hcap
              exact ⟨.sl [], _, .row (by simp) (by simp) (by simp), rfl, fun _ => .slnil⟩
            · have hfirst : ∃ cs, w.cells? 0 (a.add 0) (P.cellsOf e) = some cs := by
                by_cases hl0 : 0 < len
                · have hg := hget 0 hl0
                  rw [List.getElem?_eq_getElem (by omega), Option.bind_eq_some_iff] at hg
                  obtain ⟨cs, h1, _⟩ := hg
                  exact ⟨cs, by simpa using h1⟩
                · obtain ⟨hr1, hr2⟩ := hrest rfl
                  have hg := hr2 0 (by omega)
                  rw [List.getElem?_eq_getElem (by omega), Option.bind_eq_some_iff] at hg
                  obtain ⟨cs, h1, _⟩ := hg
                  exact ⟨cs, by simpa [show len = 0 by omega] using h1⟩
              obtain ⟨cs0, hcs0⟩ := hfirst
              obtain ⟨_, hl0, hc0⟩ := World.cells?_some hcs0
              have hc0 := hc0 0 (by omega)
              obtain ⟨blk, off, spot⟩ := a
              have hsp : spot = none ∧ blk < w.heap.size := by
                rw [List.getElem?_eq_getElem (by omega)] at hc0
                simp only [Addr.add, if_true, World.cell?] at hc0
                split at hc0
                · rename_i hb
                  split at hc0
                  · cases hc0
                  · rename_i hs
                    exact ⟨by simpa using hs, (Array.getElem?_eq_some_iff.1 hb).1⟩
                · cases hc0
              obtain ⟨rfl, hblk⟩ := hsp
              have key : ∀ i, i < len → ∃ cs vs, w.cells? 0 ((⟨blk, off, none⟩ : Addr).add (i * P.cellsOf e)) (P.cellsOf e) = some cs ∧ cs.length = P.cellsOf e ∧ NLeafs ks' vs ∧
                  (∀ (i : Nat) (v : V) (c : Value), vs[i]? = some v → cs[i]? = some c → ∀ (o : Option Path), RepC w gNone o v [c]) ∧ ∀ q v, cs[q]? = some v → w.cell? ⟨blk, off + i * P.cellsOf e + q, none⟩ = some v := by
                intro i hi
                have hg := hget i hi
                rw [List.getElem?_eq_getElem (by omega), Option.bind_eq_some_iff] at hg
                obtain ⟨cs, h1, h2⟩ := hg
                obtain ⟨_, h3, h4⟩ := World.cells?_some h1
                obtain ⟨vs, h5, _, h6⟩ := ih _ _ _ h2
                refine ⟨cs, vs, h1, h3, h5, h6, fun q v hq => ?_⟩
                have hql := (List.getElem?_eq_some_iff.1 hq).1
                have := h4 q (by omega)
                rw [hq] at this
                rw [add_addr, add_addr] at this
                exact this
              have keyB : ∀ i, i < len → ∃ p : List Value × V, p.1.length = P.cellsOf e ∧ (p.2.isAg = isSt P e ∧ NLeafs ks' p.2.cs) ∧ RepC w gNone none p.2 p.1 ∧ ∀ q v, p.1[q]? = some v → w.cell? ⟨blk, off + i * P.cellsOf e + q, none⟩ = some v := by
                intro i hi
                obtain ⟨cs, vs, _, h2, h3, h4, h5⟩ := key i hi
                cases hst : isSt P e with
                | true => exact ⟨(cs, .ag vs), h2, ⟨rfl, h3⟩, .ag (by simp [h3.len, h2, hz]) (fun f x c hx hc => h4 f x c hx hc _), h5⟩
                | false =>
                  have h1 := hone hst
                  obtain ⟨c, rfl⟩ : ∃ c, cs = [c] := by match cs, h2.trans (hz.trans h1) with | [c], _ => exact ⟨c, rfl⟩
                  obtain ⟨v, rfl⟩ : ∃ v, vs = [v] := by match vs, h3.len.trans h1 with | [c], _ => exact ⟨c, rfl⟩
                  obtain ⟨k, rfl⟩ : ∃ k, ks' = [k] := by match ks', h1 with | [c], _ => exact ⟨c, rfl⟩
                  have hleaf : NLeaf k v := h3.1
                  have hcs : v.cs = [v] ∧ v.isAg = false := by cases hleaf <;> exact ⟨rfl, rfl⟩
                  exact ⟨([c], v), h2, ⟨hcs.2, by show NLeafs [k] v.cs; rw [hcs.1]; exact h3⟩, h4 0 v c rfl rfl none, h5⟩
              refine ⟨.sl ((List.range len).map fun i => if h : i < len then (Classical.choose (keyB i h)).2 else .un), _, .row (fun x hx => ?_) (fun x hx i k v hk hv => ?_) (by simp; omega), rfl, fun o => ?_⟩
              · obtain ⟨i, hi, rfl⟩ := List.mem_map.1 hx
                have hi' : i < len := by simpa using hi
                simp only [hi', dif_pos]
                obtain ⟨_, ⟨h2, h3⟩, _⟩ := Classical.choose_spec (keyB i hi')
                exact ⟨h2, h3.len⟩
              · obtain ⟨j, hj, rfl⟩ := List.mem_map.1 hx
                have hj' : j < len := by simpa using hj
                simp only [hj', dif_pos] at hv
                obtain ⟨_, ⟨h2, h3⟩, _⟩ := Classical.choose_spec (keyB j hj')
                exact h3.at i k v hk hv
              · have hl2 : ((List.range len).map fun i => if h : i < len then (Classical.choose (keyB i h)).2 else V.un).length = len := by simp
                have := RepC.sl (w := w) (g := gNone) (π := o) (xs := (List.range len).map fun i => if h : i < len then (Classical.choose (keyB i h)).2 else V.un) blk off (P.cellsOf e) cap
                  (fun i => if h : i < len then (Classical.choose (keyB i h)).1 else []) (fun _ => rfl) (fun _ => hblk) (by omega)
                  (fun j hj => by have hj' : j < len := by omega
                                  simp only [hj', dif_pos]; exact (Classical.choose_spec (keyB j hj')).1)
                  (fun j hj q v hq => by
                    have hj' : j < len := by omega
                    simp only [hj', dif_pos] at hq
                    exact (Classical.choose_spec (keyB j hj')).2.2.2 q v hq)
                  (fun j x hx => by
                    simp only [List.getElem?_map, Option.map_eq_some_iff] at hx
                    obtain ⟨i, hi, rfl⟩ := hx
                    have hil := (List.getElem?_eq_some_iff.1 hi).1
                    simp only [List.length_range] at hil
                    rw [List.getElem?_range hil] at hi
                    cases hi
                    simp only [hil, dif_pos]
                    exact (Classical.choose_spec (keyB j hil)).2.2.1)
                rw [hl2] at this
                exact this
        · cases h
      · cases h
    · rename_i fs ht
      split at h
      · rename_i ks' hks
        split at h
        · rename_i hc
          cases h
          intro fuel cs x hx
          obtain ⟨xs, m, _, _, hl, hxl, hf⟩ := DataW.trod_struct ht hx
          obtain ⟨vs, h1, h2⟩ := opens_flds (hd := hd) (enc := enc) (w := w) (cs := cs) (fun t ks hk => shape_opens n t ks hk) fs.toList 0 _ hks (by omega) (fun f hfm => by
            obtain ⟨i, hi, rfl⟩ := Array.mem_iff_getElem.1 (Array.mem_toList_iff.1 hfm)
            have := hf i fs[i] (Array.getElem?_eq_getElem hi)
            exact ⟨m, _, this.trans (List.getElem?_eq_getElem (by omega))⟩)
          exact ⟨vs, h1, by omega, fun i v c hv hc => h2 i v c hv (by simpa using hc)⟩
        · cases h
      · cases h
    · cases h

/-- An argument that is a struct. -/
theorem open_st {hd : Bool} {base : Nat} {t : TypeId} {ks : List NK} (n : Nat) {v : Value} {d : DataW H} {ps : List MemPlace} (hs : shapeOf P n t = some ks) (hst : isSt P t = true) (hval : Value.okWide P w .any base t v)
    (h : DataW.Trod enc P w 0 (fun _ => true) hd t v d ps) : ∃ vs, NLeafs ks vs ∧ ∀ π, RepS w gNone π (.ag vs) v := by
  unfold isSt at hst
  split at hst
  · rename_i fs ht
    unfold Value.okWide at hval
    rw [ht] at hval
    obtain ⟨cs, rfl, hsz, _⟩ := hval
    obtain ⟨fuel, h⟩ := h
    have hcells : (Value.agg cs).cells.toList = cs.toList := by simp [Value.cells]
    rw [hcells] at h
    obtain ⟨vs, h1, h2, h3⟩ := shape_opens n t ks hs _ _ _ h
    exact ⟨vs, h1, fun π => .agg (.c (.ag (by rw [h1.len, ← h2]) (fun f x c hx hc => h3 f x c hx hc _)))⟩
  · cases hst

theorem cells_one {base : Nat} {t : TypeId} {v : Value} (hst : isSt P t = false) (hna : ∀ n e, P.underlying t ≠ some (.array n e)) (hval : Value.okWide P w .any base t v) : v.cells = #[v] := by
  cases v with
  | agg cs =>
    unfold Value.okWide at hval
    unfold isSt at hst
    split at hval
    · rename_i ht; rw [ht] at hst; cases hst
    · rename_i ht; exact (hna _ _ ht).elim
    · unfold Cell.okWide at hval
      split at hval
      all_goals first
        | (rename_i h2; cases h2; done)
        | skip
      unfold Cell.ok at hval
      split at hval
      all_goals first
        | (rename_i h2; cases h2; done)
        | (cases hval; done)
        | skip
  | _ => rfl

/-- An argument of one cell. -/
theorem open_one {hd : Bool} {base : Nat} {t : TypeId} {k : NK} (n : Nat) {v : Value} {d : DataW H} {ps : List MemPlace} (hs : shapeOf P n t = some [k]) (hst : isSt P t = false) (hval : Value.okWide P w .any base t v)
    (h : DataW.Trod enc P w 0 (fun _ => true) hd t v d ps) : ∃ x, NLeaf k x ∧ ∀ π, RepS w gNone π x v := by
  have hc := cells_one hst (fun m e ht => by
    cases n with
    | zero => simp [shapeOf] at hs
    | succ n => simp [shapeOf, ht] at hs) hval
  obtain ⟨fuel, h⟩ := h
  rw [hc] at h
  obtain ⟨vs, h1, h2, h3⟩ := shape_opens n t _ hs _ _ _ h
  obtain ⟨x, rfl⟩ : ∃ x, vs = [x] := by match vs, h1.len with | [x], _ => exact ⟨x, rfl⟩
  have hleaf : NLeaf k x := h1.1
  refine ⟨x, hleaf, fun π => .one (fun cs hcs => by subst hcs; cases hleaf) (.c (h3 0 x v rfl rfl _))⟩

end
end Go.Vx
