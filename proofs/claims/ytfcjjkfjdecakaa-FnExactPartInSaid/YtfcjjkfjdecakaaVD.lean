/- What the arguments of a row stand for. No condition. -/
import Derived.Test.YtfcjjkfjdecakaaVC
import Derived.OpenShut
import Derived.ShutString
import Derived.ChangeOld
import Derived.SizedLaws
import Derived.Carry
import Derived.ChangeSlices
import Derived.ProofKit
set_option linter.unusedVariables false
set_option linter.unusedSimpArgs false
namespace Go.Vx
open Go Go.RowKit Go.Great Go.ChangeShapes Go.WideShapes

/-- The kinds of cells that are taken. -/
inductive LK where
  | int (k : IntKind) | bool | str | ints (k : IntKind)

/-- What a cell of such a kind is. -/
inductive Leaf : LK → V → Prop
  | int {k n} (h : k.has n) : Leaf (.int k) (.i k n)
  | bool {b} : Leaf .bool (.b b)
  | str {l} (h : l.length ≤ maxLen) : Leaf .str (.s l)
  | ints {k} {zs : List Int} (h : ∀ z ∈ zs, k.has z) (hl : zs.length ≤ maxLen) : Leaf (.ints k) (.sl (zs.map (.i k)))

theorem Leaf.int_inv {k : IntKind} {v : V} (h : Leaf (.int k) v) : ∃ n, v = .i k n ∧ k.has n := by cases h; exact ⟨_, rfl, by assumption⟩
theorem Leaf.bool_inv {v : V} (h : Leaf .bool v) : ∃ b, v = .b b := by cases h; exact ⟨_, rfl⟩
theorem Leaf.str_inv {v : V} (h : Leaf .str v) : ∃ l, v = .s l ∧ l.length ≤ maxLen := by cases h; exact ⟨_, rfl, by assumption⟩
theorem Leaf.ints_inv {k : IntKind} {v : V} (h : Leaf (.ints k) v) : ∃ zs : List Int, v = .sl (zs.map (.i k)) ∧ (∀ z ∈ zs, k.has z) ∧ zs.length ≤ maxLen := by cases h; exact ⟨_, rfl, by assumption, by assumption⟩

theorem okWide_cell {P : Program} {w : World} {base : Nat} {t e : TypeId} {v : Value} (ht : P.underlying t = some (.slice e)) (h : Value.okWide P w .any base t v) : Cell.okWide P w .any base t v := by
  unfold Value.okWide at h
  rw [ht] at h
  exact h

def LK.ok (P : Program) (t : TypeId) : LK → Prop
  | .int k => P.underlying t = some (.int k)
  | .bool => P.underlying t = some .bool
  | .str => P.underlying t = some .string
  | .ints k => ∃ e, P.underlying t = some (.slice e) ∧ P.underlying e = some (.int k) ∧ P.cellsOf e = 1

theorem has_of_wf {k : IntKind} {n : Int} (h : (Lit.int k n).wf = true) : k.has n := by
  simp only [Lit.wf, decide_eq_true_eq, Bool.and_eq_true] at h
  exact h

section
variable {H : Type} {enc : TypeId × Value → H} {P : Program} {w : World}

theorem spot_of {base len cap : Nat} {u : TypeId} {a : Addr} (h : Cell.okWide P w .any base u (.slice (some a) len cap)) : a.spot = none ∧ a.block < w.heap.size := by
  unfold Cell.okWide at h
  split at h
  all_goals first
    | (rename_i h2; cases h2; done)
    | skip
  unfold Cell.ok at h
  split at h
  all_goals first
    | (rename_i h2; cases h2; done)
    | skip
  · rename_i h2
    cases h2
    obtain ⟨_, _, _, hs, r, cl, hsh, _⟩ := h
    refine ⟨hs, ?_⟩
    unfold World.shape? at hsh
    split at hsh
    · rename_i hb; exact (Array.getElem?_eq_some_iff.1 hb).1
    · cases hsh
  · cases h

theorem leaf_open {t : TypeId} {lk : LK} {fuel base : Nat} {sp : Nat → Bool} {hd : Bool} {c : Value} {x : DataW H × List MemPlace} (hk : lk.ok P t) (hval : ∃ u, Cell.okWide P w .any base u c)
    (h : DataW.trod enc P w 0 sp hd fuel t [c] = some x) (o : Option Path) : ∃ v, Leaf lk v ∧ RepC w gNone o v [c] := by
  cases lk with
  | int k =>
    cases fuel with
    | zero => cases h
    | succ fuel =>
      simp only [LK.ok] at hk
      unfold DataW.trod at h
      rw [hk] at h
      cases c <;> simp only [reduceCtorEq] at h
      rename_i k' n
      split at h
      · rename_i hw
        obtain ⟨rfl, hw⟩ := hw
        exact ⟨_, .int (has_of_wf hw), .i⟩
      · cases h
  | bool =>
    cases fuel with
    | zero => cases h
    | succ fuel =>
      simp only [LK.ok] at hk
      unfold DataW.trod at h
      rw [hk] at h
      cases c <;> simp only [reduceCtorEq] at h
      exact ⟨_, .bool, .b⟩
  | str =>
    cases fuel with
    | zero => cases h
    | succ fuel =>
      simp only [LK.ok] at hk
      unfold DataW.trod at h
      rw [hk] at h
      cases c <;> simp only [reduceCtorEq] at h
      rename_i s
      split at h
      · rename_i hs
        refine ⟨.s s.data.toList, .str (by simpa using hs), ?_⟩
        have := RepC.s (w := w) (g := gNone) (π := o) (l := s.data.toList)
        simpa using this
      · cases h
  | ints k =>
    obtain ⟨e, h1, h2, h3⟩ := hk
    rcases open_ints h1 h2 h3 h with ⟨hc, _⟩ | ⟨a, len, cap, zs, hc, _, hl, hm, hz, _, hcell, hwf⟩
    · cases hc
      exact ⟨.sl [], .ints (zs := []) (by simp) (by simp), .slnil⟩
    · cases hc
      obtain ⟨u, hval⟩ := hval
      have hspot := spot_of hval
      have hz' : len ≤ zs.length := by rw [hz]; split <;> omega
      obtain ⟨blk, off, spot⟩ := a
      simp only at hspot
      obtain ⟨rfl, hblk⟩ := hspot
      refine ⟨.sl ((zs.take len).map (.i k)), .ints (fun z hzm => has_of_wf (hwf z (List.mem_of_mem_take hzm))) (by rw [List.length_take]; omega), ?_⟩
      have hlen : ((zs.take len).map (V.i k)).length = len := by rw [List.length_map, List.length_take]; omega
      have := RepC.sl (w := w) (g := gNone) (π := o) (xs := (zs.take len).map (.i k)) blk off 1 cap (fun j => [.int k (zs.getD j 0)]) (fun _ => rfl) (fun _ => hblk) (by omega) (fun _ _ => rfl)
        (fun j hj q c hq => by
          cases q with
          | zero =>
            simp at hq
            subst hq
            have := hcell j (by omega)
            simp only [Addr.add] at this
            split at this
            · rename_i hj0; subst hj0; simpa using this
            · simpa using this
          | succ q => simp at hq)
        (fun j x hx => by
          simp only [List.getElem?_map, Option.map_eq_some_iff] at hx
          obtain ⟨z, hz', rfl⟩ := hx
          have hz2 : zs[j]? = some z := by
            rw [List.getElem?_take] at hz'
            split at hz'
            · exact hz'
            · cases hz'
          have : zs.getD j 0 = z := by rw [List.getD_eq_getElem?_getD, hz2]; rfl
          rw [this]
          exact .i)
      rw [hlen] at this
      exact this

/-- A struct whose fields are such cells. -/
theorem struct_open {t : TypeId} {fs : Array Field} {lks : List LK} {base : Nat} {sp : Nat → Bool} {hd : Bool} {v : Value} {d : DataW H} {ps : List MemPlace} (ht : P.underlying t = some (.struct fs)) (hlen : lks.length = fs.size)
    (hlk : ∀ (i : Nat) (f : Field) (lk : LK), fs[i]? = some f → lks[i]? = some lk → lk.ok P f.type ∧ f.offset = i ∧ P.cellsOf f.type = 1) (hn : P.cellsOf t = fs.size) (hval : Value.okWide P w .any base t v)
    (h : DataW.Trod enc P w 0 sp hd t v d ps) (π : Path) : ∃ vs : List V, vs.length = lks.length ∧ (∀ (i : Nat) (lk : LK) (x : V), lks[i]? = some lk → vs[i]? = some x → Leaf lk x) ∧ RepS w gNone π (.ag vs) v := by
  unfold Value.okWide at hval
  rw [ht] at hval
  obtain ⟨cs, rfl, hsz, ts, _, _, hcell⟩ := hval
  obtain ⟨fuel, h⟩ := h
  have hcells : (Value.agg cs).cells.toList = cs.toList := by simp [Value.cells]
  rw [hcells] at h
  obtain ⟨xs, n, _, _, hl, hxl, hf⟩ := DataW.trod_struct ht h
  have key : ∀ i, i < lks.length → ∃ x : V, (∀ lk, lks[i]? = some lk → Leaf lk x) ∧ ∀ c, cs.toList[i]? = some c → RepC w gNone (some (π ++ [i])) x [c] := by
    intro i hi
    have hfi : fs[i]? = some fs[i] := Array.getElem?_eq_getElem (by omega)
    have hli : lks[i]? = some lks[i] := List.getElem?_eq_getElem hi
    obtain ⟨k1, k2, k3⟩ := hlk i _ _ hfi hli
    have hci : cs.toList[i]? = some cs[i] := by rw [Array.getElem?_toList]; exact Array.getElem?_eq_getElem (by omega)
    have ht := hf i _ hfi
    rw [k2, k3] at ht
    have hdrop : (cs.toList.drop i).take 1 = [cs[i]] := by
      rw [List.drop_eq_getElem_cons (by simp; omega)]
      simp
    rw [hdrop] at ht
    obtain ⟨y, hy⟩ : ∃ y, xs[i]? = some y := ⟨_, List.getElem?_eq_getElem (by omega)⟩
    rw [hy] at ht
    obtain ⟨u, _, hu⟩ := hcell i cs[i] (Array.getElem?_eq_getElem (by omega))
    obtain ⟨x, hx1, hx2⟩ := leaf_open (base := base) k1 ⟨u, hu⟩ ht (some (π ++ [i]))
    refine ⟨x, fun lk hlk => by rw [hli] at hlk; cases hlk; exact hx1, fun c hc => by rw [hci] at hc; cases hc; exact hx2⟩
  have hex : ∃ vs : List V, vs.length = lks.length ∧ ∀ i x, vs[i]? = some x → (∀ lk, lks[i]? = some lk → Leaf lk x) ∧ ∀ c, cs.toList[i]? = some c → RepC w gNone (some (π ++ [i])) x [c] := by
    refine ⟨(List.range lks.length).map fun i => if h : i < lks.length then Classical.choose (key i h) else .un, by simp, fun i x hx => ?_⟩
    simp only [List.getElem?_map, Option.map_eq_some_iff] at hx
    obtain ⟨j, hj, rfl⟩ := hx
    have hjl := (List.getElem?_eq_some_iff.1 hj).1
    simp at hjl
    have : j = i := by rw [List.getElem?_range hjl] at hj; simpa using hj.symm
    subst this
    rw [dif_pos hjl]
    exact Classical.choose_spec (key j hjl)
  obtain ⟨vs, h1, h2⟩ := hex
  refine ⟨vs, h1, fun i lk x hlk hx => (h2 i x hx).1 lk hlk, .agg (.c (.ag (by rw [h1, hlen]; simp; omega) (fun f x c hx hc => ?_)))⟩
  exact (h2 f x hx).2 c hc

/-- An argument that is one such cell. -/
theorem cell_open {t : TypeId} {lk : LK} {base : Nat} {sp : Nat → Bool} {hd : Bool} {v : Value} {d : DataW H} {ps : List MemPlace} (hk : lk.ok P t) (h1 : v.cells = #[v]) (hval : ∃ u, Cell.okWide P w .any base u v)
    (h : DataW.Trod enc P w 0 sp hd t v d ps) (π : Path) : ∃ x, Leaf lk x ∧ RepS w gNone π x v := by
  obtain ⟨fuel, h⟩ := h
  rw [h1] at h
  obtain ⟨x, hx, hr⟩ := leaf_open hk hval h (some π)
  refine ⟨x, hx, .one (fun cs hcs => ?_) (.c hr)⟩
  subst hcs
  cases hx

end
end Go.Vx
