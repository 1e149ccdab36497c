/- Calls, contracts, regions and code over that reading. No condition. -/
import Derived.Test.YtafipjhalboefaaGreatVA
import Derived.Orders
set_option linter.unusedVariables false
set_option linter.unusedSimpArgs false
namespace Go.Vx
open Go Go.RowKit Go.Great

section
variable {P : Program} {w0 w w' : World} {g0 g g' : Gh} {n k : Nat} {e : Env} {a : Act} {R ρs : List Path} {d : Option Nat}

theorem back_heads (hf : Fr w (g.hand R ρs) w' g') (hin : Inj g w) {b : Nat} {p : Path} (h : g'.lab b = some p) (hp : p.head? ≠ some 0) : ∀ q, g.lab b = some q → q.head? = some 1 := by
  intro q hq
  refine Classical.byContradiction fun hn => ?_
  obtain ⟨_, h2, _⟩ := back_old hf hin hq hn
  rcases h2 with h2 | h2
  · rw [h] at h2; cases h2
  · rw [h] at h2; cases h2; exact hp rfl

/-- From the callee's path to the caller's: what nobody writes may be there only if nothing was lent. -/
theorem back_rep (hw : Ways k ρs) (hf : Fr w (g.hand R ρs) w' g') (hin : Inj g w) {π ρ : Path} {v : V} (hrr : v.refs = []) (hns : v.noSl = true ∨ R = [])
    (hown : ∀ b p, g'.lab b = some (π ++ p) → (g.back g' ρs d).lab b = some (ρ ++ p)) (hvm : ∀ p, (g.back g' ρs d).vm (ρ ++ p) = g'.vm (π ++ p)) :
    (∀ cs, RepO w' g' π v cs → RepO w' (g.back g' ρs d) ρ v cs) ∧ (∀ c, RepS w' g' π v c → RepS w' (g.back g' ρs d) ρ v c) := by
  rcases hns with hns | hR
  · have m : MovesOwn w' g' w' (g.back g' ρs d) π ρ := ⟨fun b p hb => ⟨hown b p hb, rfl⟩, hvm⟩
    exact ⟨fun cs h => h.movesOwn hns hrr m, fun c h => h.movesOwn hns hrr m⟩
  · have m : Moves w' g' w' (g.back g' ρs d) π ρ := by
      refine ⟨Nat.le_refl _, fun b hb hl => ⟨?_, rfl⟩, fun b p hb => ⟨hown b p hb, rfl⟩, hvm⟩
      refine Gh.back_rest (fun q hq => Classical.byContradiction fun hn => ?_) hl
      obtain ⟨_, _, h3⟩ := back_old hf hin hq hn
      rw [h3 hR] at hl
      cases hl
    exact ⟨fun cs h => h.moves m (fun r hr => by rw [hrr] at hr; cases hr), fun c h => h.moves m (fun r hr => by rw [hrr] at hr; cases hr)⟩

theorem Holds.called (h : Holds w0 g0 e a w g) (hsz : a.tmps.size = n) (hd : dOk n d = true) (hw : Ways k ρs)
    (hfree : ∀ t, ∀ r ∈ (e.get t).refs, r.head? ≠ some 1 ∧ ∀ x, d = some x → r.head? ≠ some (x + 2))
    (hin' : Inj g' w') (hf : Fr w (g.hand R ρs) w' g') {res : V} {c : Value} (hres : RepS w' g' [1] res c) (hrr : res.refs = []) (hns : res.noSl = true ∨ R = []) :
    Holds w0 g0 (e.setd d res) (a.put d c) w' (g.back g' ρs d) := by
  refine ⟨Gh.back_inj hw h.inj hin' hf.size, ⟨hf.os.trans h.fr.os, hf.tape.trans h.fr.tape, hf.output.trans h.fr.output, Nat.le_trans h.fr.size hf.size, fun b hb hk => ?_, fun p => ?_⟩, fun t => ?_⟩
  · have hlt := Nat.lt_of_lt_of_le hb h.fr.size
    obtain ⟨k1, k2⟩ := h.fr.keep b hb hk
    rcases hk with hk | ⟨q, hk⟩
    · rw [hk] at k1 ⊢
      obtain ⟨h1, h2⟩ := back_none hf hlt k1
      exact ⟨Gh.back_rest (fun q hq => by rw [k1] at hq; cases hq) h2, h1.trans k2⟩
    · rw [hk] at k1 ⊢
      obtain ⟨h1, _⟩ := back_old hf h.inj k1 (by simp)
      exact ⟨Gh.back_own k1 (by simp) (by simp), h1.trans k2⟩
  · rw [Gh.back_vm (by simp) (by simp)]
    exact h.fr.vm0 p
  · rw [Env.get_setd, dOk_put hsz hd]
    by_cases ht : d = some t
    · subst ht
      simp only [if_true]
      refine (back_rep hw hf h.inj hrr hns (fun b p hb => ?_) (fun p => Gh.back_vm_res)).2 c hres
      exact Gh.back_res (back_heads hf h.inj hb (by simp)) hb
    · simp only [ht, if_false]
      have hne : ∀ x, d = some x → x ≠ t := fun x hx e => ht (by rw [hx, e])
      refine (h.rep t).moves ⟨hf.size, fun b hb hl => ?_, fun b p hb => ?_, fun p => ?_⟩ (fun r hr => ?_)
      · obtain ⟨h1, h2⟩ := back_none hf hb hl
        exact ⟨Gh.back_rest (fun q hq => by rw [hl] at hq; cases hq) h2, h1⟩
      · obtain ⟨h1, _⟩ := back_old hf h.inj hb (by simp)
        exact ⟨Gh.back_own hb (by simp) (fun x hx he => by simp at he; exact hne x hx he.symm), h1⟩
      · exact Gh.back_vm (by simp) (fun x hx he => by simp at he; exact hne x hx he.symm)
      · obtain ⟨h1, h2⟩ := hfree t r hr
        exact Gh.back_vm h1 h2

theorem called_io (hw : Ways k ρs) (hf : Fr w (g.hand R ρs) w' g') (hin : Inj g w) {i : Nat} {ρ : Path} {u : V} {cs : List Value} (hi : ρs[i]? = some ρ) (hu : RepO w' g' ρ u cs) (hrr : u.refs = []) (hns : u.noSl = true ∨ R = []) :
    RepO w' (g.back g' ρs d) [1, i] u cs := by
  refine (back_rep hw hf hin hrr hns (fun b p hb => ?_) (fun p => Gh.back_vm_io hi)).1 cs hu
  obtain ⟨x, r, hx, hx2, _⟩ := hw.head i ρ hi
  exact Gh.back_io hw (back_heads hf hin hb (by rw [hx]; simp; omega)) hi hb

theorem back_bare {p : Path} (h : g.bare p) (h1 : p.head? ≠ some 1) (h2 : ∀ x, d = some x → p.head? ≠ some (x + 2)) (h3 : p ≠ []) : (g.back g' ρs d).bare p := by
  intro b q hb hq
  have hh : p.head? = q.head? := by
    obtain ⟨r, rfl⟩ := hq
    exact (head_app h3 r).symm
  rcases Gh.back_inv hb with ⟨k1, _, _⟩ | ⟨_, ⟨x, r, hx, rfl, _⟩ | ⟨i, ρ, r, _, rfl, _⟩⟩
  · exact h b q k1 hq
  · exact h2 x hx hh
  · exact h1 hh

/-- A call's operation enters the function. -/
theorem run_enter {f : FuncId} {fn : Func} {o : Oper} {xs : Array Operand} {ts : Array TypeId} (ho : o.op = .call { callee := .value (.func f), args := xs, argTypes := ts })
    (hf : P.funcs[f]? = some fn) (hn : fn.name ≠ "runtime.NumGoroutine") {cd : Code} (hb : fn.body = some cd) (ρ : Operand → Value) (hρ : ρ (.func f) = .func (.func f) #[] #[]) (w : World) :
    (execOp ρ o).run P w = .ok (.enter f (xs.map ρ)) w := by
  simp [execOp, ho, resolve, Deferred.ofValue, hρ, invoke, callFunc, program, hf, hn, hb, Sem.run]

end
end Go.Vx

namespace Go.Vx
open Go Go.RowKit Go.Great

theorem V.kids_with (v : V) (cs : List V) (h : v.kids ≠ []) : (v.withKids cs).kids = cs := by
  cases v <;> simp [V.kids, V.withKids] at h ⊢

theorem V.with_with (v : V) (cs cs' : List V) : (v.withKids cs).withKids cs' = v.withKids cs' := by
  cases v <;> rfl

theorem V.put_cons {v x u : V} {f : Nat} {p : Path} (h : v.kids[f]? = some x) : v.put (f :: p) u = v.withKids (v.kids.set f (x.put p u)) := by simp [V.put, h]
theorem V.put_none {v u : V} {f : Nat} {p : Path} (h : v.kids[f]? = none) : v.put (f :: p) u = v := by simp [V.put, h]
theorem V.kids_ne {v x : V} {f : Nat} (h : v.kids[f]? = some x) : v.kids ≠ [] := by rintro e; rw [e] at h; simp at h

theorem V.kids_put {v x u : V} {f : Nat} {p : Path} (h : v.kids[f]? = some x) : (v.put (f :: p) u).kids = v.kids.set f (x.put p u) := by
  rw [V.put_cons h, V.kids_with _ _ (V.kids_ne h)]

theorem V.put_put : ∀ (p : Path) (v x y : V), (v.put p x).put p y = v.put p y
  | [], _, _, _ => rfl
  | f :: p, v, x, y => by
    cases hk : v.kids[f]? with
    | none => rw [V.put_none hk]
    | some u =>
      have hf := (List.getElem?_eq_some_iff.1 hk).1
      have h1 : (v.put (f :: p) x).kids[f]? = some (u.put p x) := by rw [V.kids_put hk]; simp [hf]
      rw [V.put_cons h1, V.kids_put hk, V.put_cons hk, V.put_cons hk, V.with_with, V.put_put p u x y]
      simp

theorem V.put_comm : ∀ (p q : Path) (v x y : V), ¬ p <+: q → ¬ q <+: p → (v.put p x).put q y = (v.put q y).put p x
  | [], q, _, _, _, h, _ => (h List.nil_prefix).elim
  | _ :: _, [], _, _, _, _, h => (h List.nil_prefix).elim
  | f :: p, g :: q, v, x, y, h1, h2 => by
    cases hf : v.kids[f]? with
    | none =>
      rw [V.put_none hf]
      cases hg : v.kids[g]? with
      | none => rw [V.put_none hg, V.put_none hf]
      | some u =>
        rw [V.put_none (p := p) (u := x) (v := v.put (g :: q) y) (f := f)]
        rw [V.kids_put hg]
        simp only [List.getElem?_eq_none_iff, List.length_set] at hf ⊢
        exact hf
    | some u =>
      have hfl := (List.getElem?_eq_some_iff.1 hf).1
      by_cases e : f = g
      · subst e
        have h1' : ¬ p <+: q := fun h => h1 (by obtain ⟨r, rfl⟩ := h; exact ⟨r, rfl⟩)
        have h2' : ¬ q <+: p := fun h => h2 (by obtain ⟨r, rfl⟩ := h; exact ⟨r, rfl⟩)
        have k1 : (v.put (f :: p) x).kids[f]? = some (u.put p x) := by rw [V.kids_put hf]; simp [hfl]
        have k2 : (v.put (f :: q) y).kids[f]? = some (u.put q y) := by rw [V.kids_put hf]; simp [hfl]
        rw [V.put_cons k1, V.put_cons k2, V.kids_put hf, V.kids_put hf, V.put_cons hf, V.put_cons hf, V.with_with, V.with_with, V.put_comm p q u x y h1' h2']
        simp
      · cases hg : v.kids[g]? with
        | none =>
          rw [V.put_none hg]
          rw [V.put_none (p := q) (u := y) (v := v.put (f :: p) x) (f := g)]
          rw [V.kids_put hf]
          simp only [List.getElem?_eq_none_iff, List.length_set] at hg ⊢
          exact hg
        | some u' =>
          have k1 : (v.put (f :: p) x).kids[g]? = some u' := by rw [V.kids_put hf, List.getElem?_set_ne e]; exact hg
          have k2 : (v.put (g :: q) y).kids[f]? = some u := by rw [V.kids_put hg, List.getElem?_set_ne (fun h => e h.symm)]; exact hf
          rw [V.put_cons k1, V.put_cons k2, V.kids_put hf, V.kids_put hg, V.put_cons hf, V.put_cons hg, V.with_with, V.with_with, List.set_comm _ _ e]

theorem V.sub_put : ∀ (p : Path) {v u x : V}, v.sub p = some u → (v.put p x).sub p = some x
  | [], _, _, _, _ => rfl
  | f :: p, v, u, x, h => by
    simp only [V.sub] at h ⊢
    cases hk : v.kids[f]? with
    | none => simp [hk] at h
    | some y =>
      simp only [hk] at h
      have hf := (List.getElem?_eq_some_iff.1 hk).1
      rw [V.kids_put hk]
      simp only [List.getElem?_set_self hf]
      exact V.sub_put p h

theorem V.sub_other : ∀ (p q : Path) {v x : V}, ¬ p <+: q → ¬ q <+: p → (v.put p x).sub q = v.sub q
  | [], q, _, _, h, _ => (h List.nil_prefix).elim
  | _ :: _, [], _, _, _, h => (h List.nil_prefix).elim
  | f :: p, g :: q, v, x, h1, h2 => by
    cases hf : v.kids[f]? with
    | none => rw [V.put_none hf]
    | some u =>
      have hfl := (List.getElem?_eq_some_iff.1 hf).1
      simp only [V.sub, V.kids_put hf]
      by_cases e : f = g
      · subst e
        have h1' : ¬ p <+: q := fun h => h1 (by obtain ⟨r, rfl⟩ := h; exact ⟨r, rfl⟩)
        have h2' : ¬ q <+: p := fun h => h2 (by obtain ⟨r, rfl⟩ := h; exact ⟨r, rfl⟩)
        simp only [List.getElem?_set_self hfl, hf]
        exact V.sub_other p q h1' h2'
      · rw [List.getElem?_set_ne e]

/-- Two rows of slots that say the same. -/
def Env.Eqv (e e' : Env) : Prop := ∀ t, e.get t = e'.get t

theorem Env.Eqv.at {e e' : Env} (h : e.Eqv e') (p : Path) : e.at p = e'.at p := by
  unfold Env.at
  split
  · rw [h]
  · rfl

theorem Env.Eqv.putAt {e e' : Env} (h : e.Eqv e') (p : Path) (u : V) : (e.putAt p u).Eqv (e'.putAt p u) := by
  intro t
  rw [Env.putAt_get, Env.putAt_get]
  split
  · rw [h, h]
  · exact h t

theorem Env.Eqv.setd {e e' : Env} (h : e.Eqv e') (d : Option Nat) (u : V) : (e.setd d u).Eqv (e'.setd d u) := by
  intro t
  rw [Env.get_setd, Env.get_setd, h]

theorem Env.putAt_putAt (e : Env) (p : Path) (x y : V) : ((e.putAt p x).putAt p y).Eqv (e.putAt p y) := by
  intro t
  match p with
  | (s + 2) :: q =>
    simp only [Env.putAt_get]
    by_cases hs : s = t
    · subst hs; simp only [if_true]; exact V.put_put _ _ _ _
    · simp only [if_neg hs]
  | [] => rfl
  | 0 :: q => rfl
  | 1 :: q => rfl

theorem cons_pre {x : Nat} {p q : Path} : x :: p <+: x :: q ↔ p <+: q := by
  constructor
  · rintro ⟨r, hr⟩; simp at hr; exact ⟨r, hr⟩
  · rintro ⟨r, rfl⟩; exact ⟨r, rfl⟩

theorem Env.putAt_comm (e : Env) {p q : Path} (x y : V) (h1 : ¬ p <+: q) (h2 : ¬ q <+: p) : ((e.putAt p x).putAt q y).Eqv ((e.putAt q y).putAt p x) := by
  intro t
  match p, q with
  | (s + 2) :: p, (s' + 2) :: q =>
    simp only [Env.putAt_get]
    by_cases e1 : s = t
    · subst e1
      by_cases e2 : s' = s
      · subst e2
        simp only [if_true]
        exact V.put_comm _ _ _ _ _ (fun h => h1 (cons_pre.2 h)) (fun h => h2 (cons_pre.2 h))
      · have e2' : ¬ s = s' := fun h => e2 h.symm
        simp only [if_neg e2, if_neg e2', if_true]
    · by_cases e2 : s' = t
      · subst e2
        have e1' : ¬ s' = s := fun h => e1 h.symm
        simp only [if_neg e1, if_neg e1', if_true]
      · simp only [if_neg e1, if_neg e2]
  | [], _ => exact (h1 List.nil_prefix).elim
  | _, [] => exact (h2 List.nil_prefix).elim
  | 0 :: p, (s' + 2) :: q => rfl
  | 1 :: p, (s' + 2) :: q => rfl
  | (s + 2) :: p, 0 :: q => rfl
  | (s + 2) :: p, 1 :: q => rfl
  | 0 :: p, 0 :: q => rfl
  | 0 :: p, 1 :: q => rfl
  | 1 :: p, 0 :: q => rfl
  | 1 :: p, 1 :: q => rfl

theorem Env.putAt_setd (e : Env) {t : Nat} {q : Path} {d : Option Nat} (x v : V) (h : d ≠ some t) : ((e.putAt ((t + 2) :: q) x).setd d v).Eqv ((e.setd d v).putAt ((t + 2) :: q) x) := by
  intro s
  simp only [Env.get_setd, Env.putAt_get]
  by_cases e1 : d = some s
  · subst e1
    have : ¬ t = s := fun e => h (by rw [e])
    simp only [if_true, if_neg this]
  · simp only [if_neg e1, if_neg h]

theorem Env.at_putAt {e : Env} {t : Nat} {q : Path} {u x : V} (h : e.at ((t + 2) :: q) = some u) : (e.putAt ((t + 2) :: q) x).at ((t + 2) :: q) = some x := by
  simp only [Env.at] at h ⊢
  rw [Env.putAt_get]
  simp only [if_true]
  exact V.sub_put q h

theorem Env.at_other {e : Env} {t s : Nat} {p q : Path} {x : V} (h1 : ¬ ((t + 2) :: p) <+: ((s + 2) :: q)) (h2 : ¬ ((s + 2) :: q) <+: ((t + 2) :: p)) : (e.putAt ((t + 2) :: p) x).at ((s + 2) :: q) = e.at ((s + 2) :: q) := by
  simp only [Env.at]
  rw [Env.putAt_get]
  simp only
  by_cases e1 : t = s
  · subst e1
    simp only [if_true]
    exact V.sub_other _ _ (fun h => h1 (cons_pre.2 h)) (fun h => h2 (cons_pre.2 h))
  · simp only [if_neg e1]

theorem Env.at_setd {e : Env} {t : Nat} {q : Path} {d : Option Nat} {v : V} (h : d ≠ some t) : (e.setd d v).at ((t + 2) :: q) = e.at ((t + 2) :: q) := by
  simp only [Env.at, Env.get_setd, if_neg h]

end Go.Vx

namespace Go.Vx
open Go Go.RowKit Go.Great

def Env.lits (vm : Path → Value) : List Path → Env → Env
  | [], e => e
  | p :: r, e => Env.lits vm r (e.putAt p (.lit (vm p)))

def Env.puts : List Path → List V → Env → Env
  | p :: r, u :: us, e => Env.puts r us (e.putAt p u)
  | _, _, e => e

/-- What may be handed over. -/
def V.handy (q : Path) : V → Bool
  | .ow _ _ => true
  | .bx cs => q.isEmpty && (V.refs.go cs).isEmpty
  | _ => false

theorem V.handy_inv {q : Path} {u : V} (h : u.handy q = true) : ((∃ z xs, u = .ow z xs) ∨ (q = [] ∧ ∃ ks, u = .bx ks)) ∧ u.refs = [] := by
  cases u <;> simp [V.handy] at h
  · exact ⟨.inl ⟨_, _, rfl⟩, rfl⟩
  · exact ⟨.inr ⟨h.1, _, rfl⟩, h.2⟩

def apart (p q : Path) : Bool := !(p.isPrefixOf q) && !(q.isPrefixOf p)

theorem apart_iff {p q : Path} : apart p q = true ↔ ¬ p <+: q ∧ ¬ q <+: p := by
  simp [apart, ← List.isPrefixOf_iff_prefix]

def Env.ioOk (e : Env) : List Path → Bool
  | [] => true
  | p :: r => (match p with
    | (t + 2) :: q => (match e.at ((t + 2) :: q) with
      | some u => u.handy q
      | none => false)
    | _ => false) && r.all (apart p) && e.ioOk r

theorem V.refs_set {cs : List V} {f : Nat} {u : V} {r : Path} (h : r ∈ V.refs.go (cs.set f u)) : r ∈ V.refs.go cs ∨ r ∈ u.refs := by
  induction cs generalizing f with
  | nil => simp [V.refs.go] at h
  | cons c cs ih =>
    cases f with
    | zero => simp only [List.set_cons_zero, V.refs.go, List.mem_append] at h ⊢; exact h.elim .inr (fun h => .inl (.inr h))
    | succ f =>
      simp only [List.set_cons_succ, V.refs.go, List.mem_append] at h ⊢
      rcases h with h | h
      · exact .inl (.inl h)
      · exact (ih h).elim (fun h => .inl (.inr h)) .inr

theorem V.refs_put : ∀ (p : Path) {v u : V} {r : Path}, r ∈ (v.put p u).refs → r ∈ v.refs ∨ r ∈ u.refs
  | [], _, _, _, h => .inr h
  | f :: p, v, u, r, h => by
    cases hk : v.kids[f]? with
    | none => rw [V.put_none hk] at h; exact .inl h
    | some x =>
      rw [V.put_cons hk] at h
      cases v with
      | ag cs | tp cs | bx cs =>
        simp only [V.withKids, V.refs, V.kids] at h hk ⊢
        rcases V.refs_set h with h | h
        · exact .inl h
        · exact (V.refs_put p h).elim (fun h => .inl (V.mem_go hk h)) .inr
      | _ => first | (simp [V.kids] at hk; done) | (simp [V.withKids, V.refs] at h)

theorem Env.refs_putAt {e : Env} {p : Path} {u : V} {s : Nat} {r : Path} (h : r ∈ ((e.putAt p u).get s).refs) : r ∈ (e.get s).refs ∨ r ∈ u.refs := by
  rw [Env.putAt_get] at h
  split at h
  · split at h
    · rename_i hs; subst hs; exact V.refs_put _ h
    · exact .inl h
  · exact .inl h

section
variable {P : Program} {w0 w : World} {g0 : Gh} {n : Nat} {a : Act}

theorem Holds.stashAll (vm0 : Path → Value) : ∀ (ps : List Path) (i0 : Nat) (e : Env) (g : Gh), Holds w0 g0 e a w g → e.ioOk ps = true → (∀ s, ∀ r ∈ (e.get s).refs, r.head? ≠ some 1) →
    (∀ i, i0 ≤ i → g.bare [1, i]) → (∀ p ∈ ps, g.vm p = vm0 p) →
    ∃ g', Holds w0 g0 (e.lits vm0 ps) a w g' ∧ (∀ b, g.lab b = none → g'.lab b = none) ∧ (∀ b q, g.lab b = some q → (∀ p ∈ ps, ¬ p <+: q) → g'.lab b = some q) ∧
      (∀ q, q.head? ≠ some 1 → g'.vm q = g.vm q) ∧ (∀ i p u, ps[i]? = some p → e.at p = some u → RepO w g' [1, i0 + i] u [vm0 p]) ∧ (∀ p ∈ ps, g'.bare p) ∧
      (∀ p, g.bare p → p.head? ≠ some 1 → p ≠ [] → g'.bare p) ∧ (∀ i u cs, i < i0 → u.refs = [] → RepO w g [1, i] u cs → RepO w g' [1, i] u cs)
  | [], i0, e, g, h, _, _, _, _ => ⟨g, h, fun _ h => h, fun _ _ h _ => h, fun _ _ => rfl, by simp, by simp, fun _ h _ _ => h, fun _ _ _ _ _ h => h⟩
  | p :: ps, i0, e, g, h, hok, hfree, hb, hvm0 => by
    simp only [Env.ioOk, Bool.and_eq_true, List.all_eq_true] at hok
    obtain ⟨⟨hp, hap⟩, hok⟩ := hok
    match p, hp, hap, hvm0 with
    | (t + 2) :: q, hp, hap, hvm0 =>
    simp only at hp
    cases hat : e.at ((t + 2) :: q) with
    | none => simp [hat] at hp
    | some u =>
      simp only [hat] at hp
      obtain ⟨hform, hrefs⟩ := V.handy_inv hp
      have hc0 := hvm0 _ (List.mem_cons_self ..)
      have hu : RepO w g ((t + 2) :: q) u [vm0 ((t + 2) :: q)] ∧ (vm0 ((t + 2) :: q)).oneCell' = true ∧ (vm0 ((t + 2) :: q)).cells = #[vm0 ((t + 2) :: q)] ∧ (∀ cs, RepO w g ((t + 2) :: q) u cs → cs = [vm0 ((t + 2) :: q)]) ∧ (∀ cs, u ≠ .ag cs) ∧ (∀ cs, u ≠ .tp cs) ∧ u ≠ .un := by
        rcases hform with ⟨z, xs, rfl⟩ | ⟨rfl, ks, rfl⟩
        · obtain ⟨c, hc, rfl⟩ := h.at_ow hat
          rw [← hc0]
          obtain ⟨k1, k2⟩ := (RepO.c hc).one (by simp) (by simp)
          exact ⟨.c hc, k1, k2, fun cs hcs => by
            cases hcs with
            | c h' =>
              obtain ⟨c', rfl⟩ := h'.width (by simp)
              rw [(RepO.c h').vm_ow.1], by simp, by simp, by simp⟩
        · have hrep := h.rep t
          simp only [Env.at, V.sub, Option.some.injEq] at hat
          rw [hat] at hrep
          have hO := hrep.cell (by simp) (by simp) (by simp)
          have hv := hO.vm_bx
          rw [hc0] at hv
          obtain ⟨k1, k2⟩ := hO.one (by simp) (by simp)
          rw [← hv] at hO k1 k2
          exact ⟨hO, k1, k2, fun cs hcs => by
            cases hcs with
            | c h' => cases h'
            | bx blk cur ty hl hv2 hb2 hn h' => rw [← hc0]; rw [show ([t + 2] : Path) = (t + 2) :: [] from rfl] at hv2; rw [hv2], by simp, by simp, by simp⟩
      obtain ⟨hu1, hc1, hc2, huni, ha1, ha2, ha3⟩ := hu
      obtain ⟨hH, hS⟩ := h.stash (i := i0) hat hu1 ⟨hc1, hc2⟩ ha1 ha2 ha3 hrefs huni (hb i0 (Nat.le_refl _)) hfree
      have hap' : ∀ p' ∈ ps, ¬ ((t + 2) :: q) <+: p' ∧ ¬ p' <+: ((t + 2) :: q) := fun p' hp' => apart_iff.1 (hap p' hp')
      have hhead : ∀ (ps : List Path) (e : Env), e.ioOk ps = true → ∀ p' ∈ ps, ∃ t' q', p' = (t' + 2) :: q' := by
        intro ps
        induction ps with
        | nil => simp
        | cons p0 ps ih =>
          intro e hok p' hp'
          simp only [Env.ioOk, Bool.and_eq_true] at hok
          rcases List.mem_cons.1 hp' with rfl | hp'
          · match p', hok.1.1 with
            | (t' + 2) :: q', _ => exact ⟨t', q', rfl⟩
          · exact ih e hok.2 p' hp'
      have hat' : ∀ p' ∈ ps, (e.putAt ((t + 2) :: q) (.lit (vm0 ((t + 2) :: q)))).at p' = e.at p' := by
        intro p' hp'
        obtain ⟨t', q', rfl⟩ := hhead ps e hok p' hp'
        exact Env.at_other (hap' _ hp').1 (hap' _ hp').2
      have hok' : (e.putAt ((t + 2) :: q) (.lit (vm0 ((t + 2) :: q)))).ioOk ps = true := by
        have aux : ∀ (l : List Path) (e' : Env), e.ioOk l = true → (∀ p' ∈ l, e'.at p' = e.at p') → e'.ioOk l = true := by
          intro l
          induction l with
          | nil => intros; rfl
          | cons p0 l ih =>
            intro e' hok hat
            simp only [Env.ioOk, Bool.and_eq_true] at hok ⊢
            refine ⟨⟨?_, hok.1.2⟩, ih e' hok.2 (fun p' hp' => hat p' (List.mem_cons_of_mem _ hp'))⟩
            match p0, hok.1.1, hat p0 (List.mem_cons_self ..) with
            | (t' + 2) :: q', h1, h2 => simp only at h1 ⊢; rw [h2]; exact h1
        exact aux ps _ hok hat'
      have hfree' : ∀ s, ∀ r ∈ ((e.putAt ((t + 2) :: q) (.lit (vm0 ((t + 2) :: q)))).get s).refs, r.head? ≠ some 1 := by
        intro s r hr
        rcases Env.refs_putAt hr with hr | hr
        · exact hfree s r hr
        · simp [V.refs] at hr
      have hpre1 : ∀ i : Nat, ¬ ((t + 2) :: q) <+: [1, i] := by
        rintro i ⟨r, hr⟩; simp at hr
      have hb' : ∀ i, i0 + 1 ≤ i → (g.move ((t + 2) :: q) [1, i0]).bare [1, i] := fun i hi =>
        Gh.bare_move (hb i (by omega)) (by rintro ⟨r, hr⟩; simp at hr; omega) (by rintro ⟨r, hr⟩; simp at hr; omega)
      have hvmq : ∀ q' : Path, q'.head? ≠ some 1 → (g.move ((t + 2) :: q) [1, i0]).vm q' = g.vm q' := fun q' hq' => Gh.move_vm (by rintro ⟨r, rfl⟩; simp at hq')
      have hvm0' : ∀ p' ∈ ps, (g.move ((t + 2) :: q) [1, i0]).vm p' = vm0 p' := by
        intro p' hp'
        obtain ⟨t', q', rfl⟩ := hhead ps e hok p' hp'
        rw [hvmq _ (by simp)]
        exact hvm0 _ (List.mem_cons_of_mem _ hp')
      obtain ⟨g', k1, k2, k3, k4, k5, k6, k7, k8⟩ := Holds.stashAll vm0 ps (i0 + 1) _ _ hH hok' hfree' hb' hvm0'
      refine ⟨g', k1, fun b hl => k2 b (Gh.move_none hl), fun b q' hl hq' => k3 b q' (Gh.move_other hl (hq' _ (List.mem_cons_self ..))) (fun p' hp' => hq' p' (List.mem_cons_of_mem _ hp')),
        fun q' hq' => (k4 q' hq').trans (hvmq q' hq'), fun i p' u' hi hat2 => ?_, fun p' hp' => ?_, fun p' hp' h1 h2 => ?_, fun i u' cs hi hr hO => ?_⟩
      · cases i with
        | zero =>
          simp at hi
          subst hi
          rw [hat] at hat2
          cases hat2
          exact k8 i0 u _ (by omega) hrefs hS
        | succ i =>
          simp at hi
          have := k5 i p' u' hi (by rw [hat' p' (List.mem_of_getElem? hi)]; exact hat2)
          rw [show i0 + 1 + i = i0 + (i + 1) by omega] at this
          exact this
      · rcases List.mem_cons.1 hp' with rfl | hp'
        · exact k7 _ (Gh.bare_moved (hpre1 i0) (by rintro ⟨r, hr⟩; simp at hr)) (by simp) (by simp)
        · exact k6 p' hp'
      · refine k7 p' (Gh.bare_move hp' ?_ ?_) h1 h2
        · rintro ⟨r, hr⟩
          cases p' with
          | nil => exact h2 rfl
          | cons x p' => simp at hr h1; exact h1 hr.1
        · rintro ⟨r, rfl⟩; simp at h1
      · refine k8 i u' cs (by omega) hr (hO.moves ⟨Nat.le_refl _, fun b _ hb => ⟨Gh.move_none hb, rfl⟩, fun b p hb => ⟨Gh.move_other hb ?_, rfl⟩, fun p => Gh.move_vm ?_⟩ (fun r hr' => by rw [hr] at hr'; cases hr'))
        · rintro ⟨r, hr⟩; simp at hr
        · rintro ⟨r, hr⟩; simp at hr; omega

theorem Holds.unstashAll (vm0 : Path → Value) : ∀ (ps : List Path) (us : List V) (i0 : Nat) (e : Env) (g : Gh), Holds w0 g0 e a w g → ps.length = us.length → ps.Pairwise (fun p q => ¬ p <+: q ∧ ¬ q <+: p) →
    (∀ i p u, ps[i]? = some p → us[i]? = some u → ∃ t q, p = (t + 2) :: q ∧ u.handy q = true ∧ e.at p = some (.lit (vm0 p)) ∧ g.vm p = vm0 p ∧ g.bare p ∧ RepO w g [1, i0 + i] u [vm0 p]) →
    (∀ s, ∀ r ∈ (e.get s).refs, ∀ p ∈ ps, p <+: r → r = p) → ∃ g', Holds w0 g0 (e.puts ps us) a w g'
  | [], _, _, e, g, h, _, _, _, _ => ⟨g, h⟩
  | _ :: _, [], _, _, _, _, hl, _, _, _ => by simp at hl
  | p :: ps, u :: us, i0, e, g, h, hl, hpw, hall, hfree => by
    obtain ⟨t, q, rfl, hh, hat, hvm, hbare, hO⟩ := hall 0 p u rfl rfl
    obtain ⟨hform, hrefs⟩ := V.handy_inv hh
    obtain ⟨hap, hpw'⟩ := List.pairwise_cons.1 hpw
    obtain ⟨hH, hv⟩ := h.unstash hat hO hform hrefs hbare hvm (fun s r hr hp => hfree s r hr _ (List.mem_cons_self ..) hp)
    refine Holds.unstashAll vm0 ps us (i0 + 1) _ _ hH (by simpa using hl) hpw' (fun i p' u' hp' hu' => ?_) (fun s r hr p' hp' hpre => ?_)
    · obtain ⟨t', q', rfl, hh', hat', hvm', hbare', hO'⟩ := hall (i + 1) p' u' (by simpa using hp') (by simpa using hu')
      obtain ⟨a1, a2⟩ := hap _ (List.mem_of_getElem? hp')
      refine ⟨t', q', rfl, hh', ?_, ?_, ?_, ?_⟩
      · rw [Env.at_other a1 a2]; exact hat'
      · rw [Gh.move_vm a1]; exact hvm'
      · exact Gh.bare_move hbare' a2 a1
      · rw [show i0 + 1 + i = i0 + (i + 1) by omega]
        refine hO'.moves ⟨Nat.le_refl _, fun b _ hb => ⟨Gh.move_none hb, rfl⟩, fun b p hb => ⟨Gh.move_other hb ?_, rfl⟩, fun p => Gh.move_vm ?_⟩ (fun r hr => by rw [(V.handy_inv hh').2] at hr; cases hr)
        · rintro ⟨r, hr⟩; simp at hr
        · rintro ⟨r, hr⟩; simp at hr
    · rcases Env.refs_putAt hr with hr | hr
      · exact hfree s r hr p' (List.mem_cons_of_mem _ hp') hpre
      · rw [hrefs] at hr; cases hr

end

theorem Env.Eqv.lits {vm : Path → Value} : ∀ (ps : List Path) {e e' : Env}, e.Eqv e' → (e.lits vm ps).Eqv (e'.lits vm ps)
  | [], _, _, h => h
  | p :: ps, _, _, h => Env.Eqv.lits ps (h.putAt p _)

theorem Env.Eqv.puts : ∀ (ps : List Path) (us : List V) {e e' : Env}, e.Eqv e' → (e.puts ps us).Eqv (e'.puts ps us)
  | [], _, _, _, h => h
  | _ :: _, [], _, _, h => h
  | p :: ps, u :: us, _, _, h => Env.Eqv.puts ps us (h.putAt p u)

theorem Env.Eqv.trans {e1 e2 e3 : Env} (h : e1.Eqv e2) (k : e2.Eqv e3) : e1.Eqv e3 := fun t => (h t).trans (k t)
theorem Env.Eqv.symm {e1 e2 : Env} (h : e1.Eqv e2) : e2.Eqv e1 := fun t => (h t).symm
theorem Env.Eqv.refl (e : Env) : e.Eqv e := fun _ => rfl

theorem Env.lits_put {vm : Path → Value} {p : Path} {u : V} : ∀ (ps : List Path) (e : Env), (∀ q ∈ ps, ¬ p <+: q ∧ ¬ q <+: p) → ((e.lits vm ps).putAt p u).Eqv ((e.putAt p u).lits vm ps)
  | [], e, _ => Env.Eqv.refl _
  | q :: ps, e, h => by
    obtain ⟨h1, h2⟩ := h q (List.mem_cons_self ..)
    exact (Env.lits_put ps (e.putAt q _) (fun q hq => h q (List.mem_cons_of_mem _ hq))).trans (Env.Eqv.lits ps (Env.putAt_comm e _ _ h2 h1))

theorem Env.lits_setd {vm : Path → Value} {d : Option Nat} {v : V} : ∀ (ps : List Path) (e : Env), (∀ p ∈ ps, ∃ t q, p = (t + 2) :: q ∧ d ≠ some t) → ((e.lits vm ps).setd d v).Eqv ((e.setd d v).lits vm ps)
  | [], e, _ => Env.Eqv.refl _
  | p :: ps, e, h => by
    obtain ⟨t, q, rfl, hd⟩ := h p (List.mem_cons_self ..)
    exact (Env.lits_setd ps (e.putAt _ _) (fun q hq => h q (List.mem_cons_of_mem _ hq))).trans (Env.Eqv.lits ps (Env.putAt_setd e _ _ hd))

/-- What is put at all these places makes no difference any more. -/
theorem Env.lits_puts {vm : Path → Value} : ∀ (ps : List Path) (us : List V) (e : Env), ps.length = us.length → ps.Pairwise (fun p q => ¬ p <+: q ∧ ¬ q <+: p) → ((e.lits vm ps).puts ps us).Eqv (e.puts ps us)
  | [], _, e, _, _ => Env.Eqv.refl _
  | _ :: _, [], _, h, _ => by simp at h
  | p :: ps, u :: us, e, h, hpw => by
    obtain ⟨h1, h2⟩ := List.pairwise_cons.1 hpw
    have k1 : (((e.putAt p (.lit (vm p))).lits vm ps).putAt p u).Eqv ((e.putAt p u).lits vm ps) :=
      (Env.lits_put ps _ h1).trans (Env.Eqv.lits ps (Env.putAt_putAt e p _ u))
    exact (Env.Eqv.puts ps us k1).trans (Env.lits_puts ps us _ (by simpa using h) h2)

theorem Env.lits_at {vm : Path → Value} : ∀ (ps : List Path) (e : Env), (∀ p ∈ ps, ∃ t q u, p = (t + 2) :: q ∧ e.at p = some u) → ps.Pairwise (fun p q => ¬ p <+: q ∧ ¬ q <+: p) → ∀ p ∈ ps, (e.lits vm ps).at p = some (.lit (vm p))
  | [], _, _, _, _, hp => by cases hp
  | p0 :: ps, e, h, hpw, p, hp => by
    obtain ⟨h1, h2⟩ := List.pairwise_cons.1 hpw
    obtain ⟨t, q, u, rfl, hat⟩ := h p0 (List.mem_cons_self ..)
    rcases List.mem_cons.1 hp with rfl | hp
    · have : ∀ (l : List Path) (e' : Env) (x : V), (∀ p' ∈ l, (∃ t q, p' = (t + 2) :: q) ∧ ¬ ((t + 2) :: q) <+: p' ∧ ¬ p' <+: ((t + 2) :: q)) → e'.at ((t + 2) :: q) = some x → (e'.lits vm l).at ((t + 2) :: q) = some x := by
        intro l
        induction l with
        | nil => intro e' x _ h; exact h
        | cons p' l ih =>
          intro e' x hl hx
          obtain ⟨⟨t', q', rfl⟩, k1, k2⟩ := hl p' (List.mem_cons_self ..)
          exact ih _ x (fun p' hp' => hl p' (List.mem_cons_of_mem _ hp')) (by rw [Env.at_other k2 k1]; exact hx)
      exact this ps _ _ (fun p' hp' => ⟨by obtain ⟨t', q', u', e1, _⟩ := h p' (List.mem_cons_of_mem _ hp'); exact ⟨t', q', e1⟩, h1 p' hp'⟩) (Env.at_putAt hat)
    · exact Env.lits_at ps _ (fun p' hp' => by
        obtain ⟨t', q', u', e1, hu'⟩ := h p' (List.mem_cons_of_mem _ hp')
        subst e1
        exact ⟨t', q', u', rfl, by rw [Env.at_other (h1 _ hp').1 (h1 _ hp').2]; exact hu'⟩) h2 p hp

end Go.Vx

namespace Go.Vx
open Go Go.RowKit Go.Great

/-- What a callee gets for a value at its path ρ: what is handed over whole; the rest to be read. -/
def Env.pass (e : Env) (I : List (Path × Path)) (ρ : Path) : V → V
  | .al p => if I.any (· == (p, ρ)) then (match e.at p with
    | some (.ow z xs) => .ow z xs
    | _ => .un) else e.imm (.al p)
  | .ad p off => if off = 0 ∧ I.any (· == (p, ρ)) then (match e.at p with
    | some (.bx cs) => .bx cs
    | _ => .un) else .un
  | .ag cs => .ag (go ρ 0 cs)
  | v => e.imm v
where go (ρ : Path) (k : Nat) : List V → List V
  | [] => []
  | c :: r => e.pass I (ρ ++ [k]) c :: go ρ (k + 1) r

/-- What of a value is lent. -/
def V.lent (I : List (Path × Path)) (ρ : Path) : V → List Path
  | .al p => if I.any (· == (p, ρ)) then [] else [p]
  | .hd p _ _ _ => [p]
  | .ag cs => go ρ 0 cs
  | _ => []
where go (ρ : Path) (k : Nat) : List V → List Path
  | [] => []
  | c :: r => c.lent I (ρ ++ [k]) ++ go ρ (k + 1) r

section
variable {w0 w : World} {g0 g g' : Gh} {e : Env} {a : Act} {I : List (Path × Path)}

theorem pass_go_get {ρ : Path} {cs : List V} : ∀ {k f : Nat} {y : V}, (Env.pass.go e I ρ k cs)[f]? = some y → ∃ x, cs[f]? = some x ∧ y = e.pass I (ρ ++ [k + f]) x := by
  induction cs with
  | nil => intro k f y h; simp [Env.pass.go] at h
  | cons c r ih =>
    intro k f y h
    cases f with
    | zero => simp [Env.pass.go] at h; exact ⟨c, rfl, by simpa using h.symm⟩
    | succ f =>
      simp [Env.pass.go] at h
      obtain ⟨x, h1, h2⟩ := ih h
      exact ⟨x, by simpa using h1, by rw [h2]; congr 3; omega⟩

theorem pass_go_length {ρ : Path} (cs : List V) : ∀ k, (Env.pass.go e I ρ k cs).length = cs.length := by
  induction cs with
  | nil => intro k; rfl
  | cons c r ih => intro k; simp [Env.pass.go, ih]

theorem lent_go_mem {ρ : Path} {cs : List V} {p : Path} : ∀ {k f : Nat} {x : V}, cs[f]? = some x → p ∈ x.lent I (ρ ++ [k + f]) → p ∈ V.lent.go I ρ k cs := by
  induction cs with
  | nil => intro k f x h; simp at h
  | cons c r ih =>
    intro k f x h hp
    simp only [V.lent.go, List.mem_append]
    cases f with
    | zero => simp at h; subst h; exact .inl (by simpa using hp)
    | succ f => simp at h; exact .inr (ih h (by rw [show k + 1 + f = k + (f + 1) by omega]; exact hp))

/-- What the callee's marks must tell for what it reads and gets. -/
structure Lends (e : Env) (w : World) (g g' : Gh) (I : List (Path × Path)) (R : List Path) : Prop where
  nobody : ∀ b, g.lab b = none → g'.lab b = none
  lent : ∀ p ∈ R, ∀ b q, g.lab b = some (p ++ q) → g'.lab b = none
  io : ∀ x ∈ I, ∀ u, e.at x.1 = some u → RepO w g' x.2 u [g.vm x.1]

theorem any_mem {p ρ : Path} (h : I.any (· == (p, ρ)) = true) : (p, ρ) ∈ I := by
  simp only [List.any_eq_true, beq_iff_eq] at h
  obtain ⟨x, hx, rfl⟩ := h
  exact hx

theorem imm_hd (h : Holds w0 g0 e a w g) {p : Path} {z off len : Nat} {xs : List V} {c : Value} (hat : e.at p = some (.ow z xs)) (hs : SubSl (g.vm p) z off len c)
    (h1 : ∀ b q, g.lab b = some (p ++ q) → g'.lab b = none) (h2 : ∀ b, g.lab b = none → g'.lab b = none) (o : Option Path) :
    RepC w g' o (.sl (((xs.drop off).take len).map V.toImm)) [c] := by
  obtain ⟨c0, hrow, rfl⟩ := h.at_ow hat
  have him := hrow.toImm (fun π hπ b q hb => by cases hπ; exact h1 b q hb) h2 none
  obtain ⟨s, n, cap, s', cap', e1, rfl, hl2, hoff, hbase, hshp⟩ := hs
  rw [e1] at him
  simp only [V.toImm, V.toImm_go] at him
  by_cases hlen : len = 0
  · subst hlen
    simp only [List.take_zero, List.map_nil]
    rcases hshp with ⟨rfl, rfl⟩ | ⟨blk, o', rfl⟩
    · exact .slnil
    · exact .sl blk o' 0 cap' (fun _ => []) (by simp) (by simp) (by simp) (by simp) (by simp) (by simp)
  · obtain ⟨blk, o', rfl, rfl⟩ := hbase (by omega)
    rcases hrow.ow_inv with ⟨_, hc0, _⟩ | ⟨blk', o'', cap2, cur, ty, ch, hc0, hl, hv, hb, hcap, hmax, hroom, hzz, hcc, hrr⟩
    · rw [e1] at hc0; cases hc0
    · rw [hc0] at e1
      simp only [Value.slice.injEq, Option.some.injEq, Addr.mk.injEq] at e1
      obtain ⟨⟨rfl, rfl, _⟩, rfl, rfl⟩ := e1
      have hlen2 : (((xs.drop off).take len).map V.toImm).length = len := by simp; omega
      have key := RepC.sl (w := w) (g := g') (π := o) (xs := ((xs.drop off).take len).map V.toImm) blk' (o'' + off * z) z cap' (fun j => ch (off + j))
        (fun _ => h1 blk' [] (by simpa using hl)) (fun _ => hb.lt) (by omega) (fun j hj => hzz _ (by omega))
        (fun j hj q u hq => by
          have := hcc (off + j) (by omega) q u hq
          rw [hb.cell]
          have he : o'' + off * z + j * z + q = o'' + (off + j) * z + q := by rw [Nat.add_mul]; omega
          rw [he]; exact this)
        (fun j x hx => by
          simp only [List.getElem?_map, Option.map_eq_some_iff] at hx
          obtain ⟨y, hy, rfl⟩ := hx
          exact (hrr _ y (slice_get hy).1).toImm (fun π hπ b q hb => by cases hπ; exact h1 b ((off + j) :: q) (by rw [hb]; simp)) h2 none)
      rw [hlen2] at key
      exact key

theorem RepO.pass (h : Holds w0 g0 e a w g) {R : List Path} (hL : Lends e w g g' I R) : ∀ (v : V) {π ρ : Path} {cs : List Value}, RepO w g π v cs → v.loose = true → (∀ p ∈ v.lent I ρ, p ∈ R) → RepO w g' ρ (e.pass I ρ v) cs
  | .al p, π, ρ, cs, hv, _, hR => by
    cases hv with
    | c h' => cases h'
    | al hs =>
      simp only [Env.pass]
      split
      · rename_i hany
        split
        · rename_i z xs hat
          exact hL.io _ (any_mem hany) _ hat
        · exact .un
      · rename_i hany
        have hp : p ∈ R := hR p (by simp [V.lent, hany])
        simp only [Env.imm]
        split
        · rename_i xs hrow
          simp only [Env.row] at hrow
          split at hrow
          · rename_i z xs' hat
            cases hrow
            obtain ⟨c0, hrow, rfl⟩ := h.at_ow hat
            have := hrow.toImm (g' := g') (fun π hπ b q hb => by cases hπ; exact hL.lent p hp b q hb) hL.nobody (some ρ)
            simp only [V.toImm, V.toImm_go] at this
            exact .c this
          · cases hrow
        · exact .un
  | .hd p z off len, π, ρ, cs, hv, _, hR => by
    cases hv with
    | c h' => cases h'
    | hd hs =>
      have hp : p ∈ R := hR p (by simp [V.lent])
      simp only [Env.pass, Env.imm]
      split
      · rename_i xs hrow
        simp only [Env.row] at hrow
        split at hrow
        · rename_i z' xs' hat
          split at hrow
          · rename_i hz
            subst hz
            cases hrow
            exact .c (imm_hd h hat hs (fun b q hb => hL.lent p hp b q hb) hL.nobody _)
          · cases hrow
        · cases hrow
      · exact .un
  | .ad p off, π, ρ, cs, hv, _, hR => by
    cases hv with
    | c h' => cases h'
    | ad blk o hb =>
      simp only [Env.pass]
      split
      · rename_i hany
        obtain ⟨rfl, hany⟩ := hany
        split
        · rename_i ks hat
          have := hL.io _ (any_mem hany) _ hat
          obtain ⟨c, h1⟩ := RepS.sub_bx (w := w) (g := g) (ks := ks) (p := []) (π := p) (v := .bx ks) (c := g.vm p) (by
            match p, hat with
            | (t + 2) :: q, hat =>
              obtain ⟨c', h'⟩ := RepS.sub_bx (h.rep t) (show (e.get t).sub q = some (.bx ks) from hat)
              have hv := h'.vm_bx
              simp only [List.singleton_append] at hv h'
              rw [← hv] at h'
              exact .one (by simp) h') rfl
          have hvm := h1.vm_bx
          cases h1 with
          | c h1 => cases h1
          | bx blk' cur ty hl hv2 hb2 hn h2 =>
            simp only [List.append_nil] at hv2
            rw [hv2] at hb this
            simp [baseOf] at hb
            obtain ⟨rfl, rfl⟩ := hb
            exact this
        · exact .un
      · exact .un
  | .ag ks, π, ρ, cs, hv, hl, hR => by
    obtain ⟨hn, hc⟩ := hv.ag_inv
    simp only [Env.pass]
    refine .ag (by rw [pass_go_length]; exact hn) (fun f y c hy hc' => ?_)
    obtain ⟨x, hx, rfl⟩ := pass_go_get hy
    have : SizeOf.sizeOf x < 1 + SizeOf.sizeOf ks := by
      have := List.sizeOf_lt_of_mem (List.mem_of_getElem? hx)
      omega
    rw [Nat.zero_add]
    exact RepO.pass h hL x (hc f x c hx hc') (V.loose_go hl hx) (fun p hp => hR p (lent_go_mem hx (by rw [Nat.zero_add]; exact hp)))
  | .i k n, _, _, _, hv, _, _ => by
    cases hv with
    | c h' => cases h'; exact .c .i
  | .b k, _, _, _, hv, _, _ => by
    cases hv with
    | c h' => cases h'; exact .c .b
  | .s k, _, _, _, hv, _, _ => by
    cases hv with
    | c h' => cases h'; exact .c .s
  | .np, _, _, _, hv, _, _ => by
    cases hv with
    | c h' => cases h'; exact .c .np
  | .nl, _, _, _, hv, _, _ => by
    cases hv with
    | c h' => cases h'; exact .c .slnil
  | .fn _, _, _, _, hv, _, _ => by
    cases hv with
    | c h' => cases h'; exact .c .fn
  | .sl xs, π, ρ, _, hv, _, _ => by
    cases hv with
    | c h' =>
      have hk : Keeps w g w g' := ⟨Nat.le_refl _, fun b _ hb => ⟨hL.nobody b hb, rfl⟩⟩
      obtain ⟨c, rfl⟩ := h'.width (by simp)
      exact .c ((RepS.sl_inv (.one (by simp) (.c h'))).imm rfl hk _)
  | .ow _ _, _, _, _, _, hl, _ => by simp [V.loose] at hl
  | .bx _, _, _, _, _, hl, _ => by simp [V.loose] at hl
  | .tp _, _, _, _, hv, _, _ => by
    cases hv with
    | c h' => cases h'
  | .ae _ _ _ _, _, _, _, _, _, _ => .un
  | .im _, _, _, _, _, _, _ => .un
  | .lit _, _, _, _, _, _, _ => .un
  | .un, _, _, _, _, _, _ => .un
termination_by v => SizeOf.sizeOf v

theorem RepS.pass (h : Holds w0 g0 e a w g) {R : List Path} (hL : Lends e w g g' I R) {v : V} {π ρ : Path} {c : Value} (hv : RepS w g π v c) (hl : v.loose = true) (hR : ∀ p ∈ v.lent I ρ, p ∈ R) : RepS w g' ρ (e.pass I ρ v) c := by
  cases hv with
  | @one π v c hna hv =>
    have := hv.pass (ρ := ρ) h hL v hl hR
    by_cases hag : ∃ cs, e.pass I ρ v = .ag cs
    · exfalso
      obtain ⟨cs, hcs⟩ := hag
      cases v <;> simp only [Env.pass, Env.imm] at hcs <;> (try split at hcs) <;> (try split at hcs) <;> first | exact hna _ rfl | cases hcs
    · exact .one (fun cs hcs => hag ⟨cs, hcs⟩) this
  | @agg π cs arr hv =>
    have := hv.pass (ρ := ρ) h hL _ hl hR
    simp only [Env.pass] at this ⊢
    exact .agg this
  | tup hn hk => simp only [Env.pass, Env.imm]; exact .un
  | un => simp only [Env.pass, Env.imm]; exact .un

end
end Go.Vx

namespace Go.Vx
open Go Go.RowKit Go.Great

def Env.shed (bad : Path → Bool) : Env → Env
  | [] => []
  | (t, v) :: r => (t, if v.refs.any bad then .un else v) :: Env.shed bad r

theorem Env.get_shed (bad : Path → Bool) (e : Env) (t : Nat) : (e.shed bad).get t = if (e.get t).refs.any bad then .un else e.get t := by
  induction e with
  | nil => rfl
  | cons p r ih =>
    obtain ⟨s, v⟩ := p
    simp only [Env.shed, Env.get]
    by_cases h : s = t
    · simp only [h, if_true]
    · simp only [h, if_false]; exact ih

theorem Env.shed_refs {bad : Path → Bool} {e : Env} {t : Nat} {r : Path} (h : r ∈ ((e.shed bad).get t).refs) : bad r = false := by
  rw [Env.get_shed] at h
  split at h
  · simp [V.refs] at h
  · rename_i hn
    simp only [List.any_eq_true, not_exists, not_and, Bool.not_eq_true] at hn
    exact hn r h

def badRef (d : Option Nat) (ps : List Path) (r : Path) : Bool :=
  r.head? == some 1 || (match d with
    | some x => r.head? == some (x + 2)
    | none => false) || ps.any fun p => p.isPrefixOf r && !(r == p)

def V.leaf : V → Path → Option V
  | v, [] => some v
  | .ag cs, [f] => cs[f]?
  | _, _ => none

def leafOf : Value → Path → Option Value
  | c, [] => some c
  | .agg arr, [f] => arr[f]?
  | _, _ => none

def leafIs (p : Path) (e : Env) : Option V → Bool
  | some (.al q) => q == p
  | some (.ad q off) => off == 0 && q == p && (match e.at p with
    | some (.bx _) => true
    | _ => false)
  | _ => false

def inAt (vs : List V) : Path → Option V
  | (j + 2) :: q => match vs[j]? with
    | some v => v.leaf q
    | none => none
  | _ => none

def outAt (outs : List V) (ρ : Path) : V := (inAt outs ρ).getD .un

def Env.passAll (e : Env) (I : List (Path × Path)) : Nat → List V → List V
  | _, [] => []
  | k, v :: r => e.pass I [k + 2] v :: Env.passAll e I (k + 1) r

def lentAll (I : List (Path × Path)) : Nat → List V → List Path
  | _, [] => []
  | k, v :: r => v.lent I [k + 2] ++ lentAll I (k + 1) r

def waysOk (k : Nat) : List Path → Bool
  | [] => true
  | ρ :: r => (match ρ with
    | (j + 2) :: _ => decide (j < k)
    | _ => false) && r.all (apart ρ) && waysOk k r

def quiet (R : List Path) (v : V) : Bool := v.refs.isEmpty && (R.isEmpty || v.noSl)

def callOk (e : Env) (d : Option Nat) (I : List (Path × Path)) (vs : List V) (res : V) (outs : List V) : Bool :=
  (e.shed (badRef d (I.map (·.1)))).ioOk (I.map (·.1)) && waysOk vs.length (I.map (·.2)) &&
    (I.map (·.1)).all (fun p => match d with
      | some x => !(p.head? == some (x + 2))
      | none => true) && (lentAll I 0 vs).all (fun r => (I.map (·.1)).all (apart r)) &&
    I.all (fun x => leafIs x.1 e (inAt vs x.2) && (outAt outs x.2).handy x.1.tail && quiet (lentAll I 0 vs) (outAt outs x.2)) && quiet (lentAll I 0 vs) res

def callEnv (e : Env) (d : Option Nat) (I : List (Path × Path)) (res : V) (outs : List V) : Env :=
  ((e.shed (badRef d (I.map (·.1)))).setd d res).puts (I.map (·.1)) (I.map fun x => outAt outs x.2)

theorem passAll_get {e : Env} {I : List (Path × Path)} : ∀ {vs : List V} {k j : Nat} {y : V}, (e.passAll I k vs)[j]? = some y → ∃ v, vs[j]? = some v ∧ y = e.pass I [k + j + 2] v
  | [], _, _, _, h => by simp [Env.passAll] at h
  | v :: r, k, j, y, h => by
    cases j with
    | zero => simp [Env.passAll] at h; exact ⟨v, rfl, by simpa using h.symm⟩
    | succ j =>
      simp [Env.passAll] at h
      obtain ⟨x, h1, h2⟩ := passAll_get h
      exact ⟨x, by simpa using h1, by rw [h2]; congr 2; omega⟩

theorem passAll_length {e : Env} {I : List (Path × Path)} : ∀ (vs : List V) (k : Nat), (e.passAll I k vs).length = vs.length
  | [], _ => rfl
  | v :: r, k => by simp [Env.passAll, passAll_length r]

theorem lentAll_mem {I : List (Path × Path)} {p : Path} : ∀ {vs : List V} {k j : Nat} {v : V}, vs[j]? = some v → p ∈ v.lent I [k + j + 2] → p ∈ lentAll I k vs
  | [], _, _, _, h, _ => by simp at h
  | v :: r, k, j, x, h, hp => by
    simp only [lentAll, List.mem_append]
    cases j with
    | zero => simp at h; subst h; exact .inl (by simpa using hp)
    | succ j => simp at h; exact .inr (lentAll_mem h (by rw [show k + 1 + j + 2 = k + (j + 1) + 2 by omega]; exact hp))

theorem waysOk_ways {k : Nat} : ∀ {ρs : List Path}, waysOk k ρs = true → Ways k ρs ∧ ρs.Pairwise (fun p q => ¬ p <+: q ∧ ¬ q <+: p)
  | [], _ => ⟨⟨fun i j ρ σ h => by simp at h, fun i ρ h => by simp at h⟩, List.Pairwise.nil⟩
  | ρ :: r, h => by
    simp only [waysOk, Bool.and_eq_true, List.all_eq_true] at h
    obtain ⟨⟨h1, h2⟩, h3⟩ := h
    obtain ⟨hw, hp⟩ := waysOk_ways h3
    refine ⟨⟨fun i j p q hi hj hpq => ?_, fun i p hi => ?_⟩, List.Pairwise.cons (fun q hq => apart_iff.1 (h2 q hq)) hp⟩
    · cases i with
      | zero =>
        simp at hi
        subst hi
        cases j with
        | zero => rfl
        | succ j => simp at hj; exact ((apart_iff.1 (h2 q (List.mem_of_getElem? hj))).1 hpq).elim
      | succ i =>
        simp at hi
        cases j with
        | zero => simp at hj; subst hj; exact ((apart_iff.1 (h2 p (List.mem_of_getElem? hi))).2 hpq).elim
        | succ j => simp at hj; exact congrArg (· + 1) (hw.apart i j p q hi hj hpq)
    · cases i with
      | zero =>
        simp at hi
        subst hi
        match ρ, h1 with
        | (j + 2) :: q, h1 => exact ⟨j + 2, q, rfl, by omega, by simpa using h1⟩
      | succ i => simp at hi; exact hw.head i p hi

theorem ioOk_inv : ∀ {ps : List Path} {e : Env}, e.ioOk ps = true → (∀ p ∈ ps, ∃ t q u, p = (t + 2) :: q ∧ e.at p = some u ∧ u.handy q = true) ∧ ps.Pairwise (fun p q => ¬ p <+: q ∧ ¬ q <+: p)
  | [], _, _ => ⟨by simp, List.Pairwise.nil⟩
  | p :: ps, e, h => by
    simp only [Env.ioOk, Bool.and_eq_true, List.all_eq_true] at h
    obtain ⟨⟨h1, h2⟩, h3⟩ := h
    obtain ⟨k1, k2⟩ := ioOk_inv h3
    refine ⟨fun p' hp' => ?_, List.Pairwise.cons (fun q hq => apart_iff.1 (h2 q hq)) k2⟩
    rcases List.mem_cons.1 hp' with rfl | hp'
    · match p', h1 with
      | (t + 2) :: q, h1 =>
        simp only at h1
        split at h1
        · rename_i u hu; exact ⟨t, q, u, rfl, hu, h1⟩
        · cases h1
    · exact k1 p' hp'

theorem refs_lits {vm : Path → Value} : ∀ (ps : List Path) (e : Env) {s : Nat} {r : Path}, r ∈ ((e.lits vm ps).get s).refs → r ∈ (e.get s).refs
  | [], _, _, _, h => h
  | p :: ps, e, s, r, h => by
    rcases Env.refs_putAt (refs_lits ps _ h) with h | h
    · exact h
    · simp [V.refs] at h

theorem eq_of_pre {p q : Path} (h1 : p <+: q) (h2 : q <+: p) : p = q :=
  h1.eq_of_length (Nat.le_antisymm h1.length_le h2.length_le)

section
variable {P : Program} {w0 w : World} {g0 g : Gh} {n : Nat} {e : Env} {a : Act}

theorem RepS.leaf {π q : Path} {v u : V} {c : Value} (h : RepS w g π v c) (hl : v.leaf q = some u) (h1 : ∀ cs, u ≠ .ag cs) (h2 : ∀ cs, u ≠ .tp cs) (h3 : u ≠ .un) : ∃ c', leafOf c q = some c' ∧ RepO w g (π ++ q) u [c'] := by
  unfold V.leaf at hl
  split at hl
  · cases hl
    exact ⟨c, rfl, by simpa using h.cell h1 h2 h3⟩
  · rename_i cs f
    obtain ⟨arr, rfl, hO⟩ := h.ag_inv
    obtain ⟨hn, hk⟩ := hO.ag_inv
    have hf : f < arr.toList.length := by rw [← hn]; exact (List.getElem?_eq_some_iff.1 hl).1
    have hf' : f < arr.size := by simpa using hf
    exact ⟨arr[f], by simp [leafOf, hf'], hk f u _ hl (by simp [hf'])⟩
  · cases hl

theorem Holds.clear1 (h : Holds w0 g0 e a w g) : ∃ g', Holds w0 g0 e a w g' ∧ (∀ b q, g'.lab b = some q → q.head? ≠ some 1) := by
  classical
  let lab' : Nat → Option Path := fun b => match g.lab b with
    | some q => if q.head? = some 1 then none else some q
    | none => none
  have h1 : ∀ b q, lab' b = some q → g.lab b = some q ∧ q.head? ≠ some 1 := by
    intro b q hb
    simp only [lab'] at hb
    split at hb
    · rename_i q' hq
      split at hb
      · cases hb
      · cases hb; exact ⟨hq, by assumption⟩
    · cases hb
  have h2 : ∀ b, g.lab b = none → lab' b = none := fun b hb => by simp only [lab', hb]
  have h3 : ∀ b q, g.lab b = some q → q.head? ≠ some 1 → lab' b = some q := fun b q hb hq => by simp only [lab', hb, hq, if_false]
  refine ⟨⟨lab', g.vm⟩, ⟨⟨?_, ?_⟩, ⟨h.fr.os, h.fr.tape, h.fr.output, h.fr.size, ?_, h.fr.vm0⟩, fun t => ?_⟩, fun b q hb => (h1 b q hb).2⟩
  · intro b b' q hb hb'; exact h.inj.1 b b' q (h1 _ _ hb).1 (h1 _ _ hb').1
  · intro b q hb; exact h.inj.2 b q (h1 _ _ hb).1
  · intro b hb hk
    obtain ⟨k1, k2⟩ := h.fr.keep b hb hk
    refine ⟨?_, k2⟩
    show lab' b = _
    rcases hk with hk | ⟨q, hk⟩
    · rw [hk] at k1 ⊢; exact h2 b k1
    · rw [hk] at k1 ⊢; exact h3 b _ k1 (by simp)
  · exact (h.rep t).moves ⟨Nat.le_refl _, fun b _ hb => ⟨h2 b hb, rfl⟩, fun b p hb => ⟨h3 b _ hb (by simp), rfl⟩, fun p => rfl⟩ (fun p _ => rfl)

theorem Holds.shed (h : Holds w0 g0 e a w g) (bad : Path → Bool) : Holds w0 g0 (e.shed bad) a w g :=
  ⟨h.inj, h.fr, fun t => by
    rw [Env.get_shed]
    split
    · exact .un
    · exact h.rep t⟩

theorem Holds.congr {e' : Env} (h : Holds w0 g0 e a w g) (he : e.Eqv e') : Holds w0 g0 e' a w g := ⟨h.inj, h.fr, fun t => by rw [← he t]; exact h.rep t⟩

theorem shed_at {bad : Path → Bool} {t : Nat} {q : Path} {u : V} (h : (e.shed bad).at ((t + 2) :: q) = some u) (hu : u ≠ .un) : e.at ((t + 2) :: q) = some u := by
  simp only [Env.at, Env.get_shed] at h ⊢
  split at h
  · cases q with
    | nil => simp [V.sub] at h; exact (hu h.symm).elim
    | cons f q => simp [V.sub, V.kids] at h
  · exact h

theorem handy_ne {u : V} {q : Path} (h : u.handy q = true) : (∀ cs, u ≠ .ag cs) ∧ (∀ cs, u ≠ .tp cs) ∧ u ≠ .un := by
  cases u <;> simp [V.handy] at h ⊢

theorem leafIs_val (h : Holds w0 g0 e a w g) {p ρ : Path} {u : V} {c : Value} (hl : leafIs p e (some u) = true) (hO : RepO w g ρ u [c]) : c = g.vm p := by
  cases u with
  | al q =>
    simp only [leafIs, beq_iff_eq] at hl
    subst hl
    exact (RepS.one (by simp) hO).al_inv
  | ad q off =>
    simp only [leafIs, Bool.and_eq_true, beq_iff_eq] at hl
    obtain ⟨⟨rfl, rfl⟩, hb⟩ := hl
    split at hb
    · rename_i ks hat
      obtain ⟨blk, o, hbase, rfl⟩ := (RepS.one (by simp) hO).ad_inv
      match q, hat with
      | (t + 2) :: q, hat =>
        obtain ⟨c', h'⟩ := RepS.sub_bx (h.rep t) (show (e.get t).sub q = some (.bx ks) from hat)
        simp only [List.singleton_append] at h'
        cases h' with
        | c h' => cases h'
        | bx blk' cur ty hl hv2 hb2 hn h2 =>
          rw [hv2] at hbase ⊢
          simp [baseOf] at hbase
          obtain ⟨rfl, rfl⟩ := hbase
          rfl
    · cases hb
  | _ => simp [leafIs] at hl

theorem call_ok {o : Oper} {f : FuncId} {fn : Func} {cd : Code} {xs : Array Operand} {ts : Array TypeId} (ho : o.op = .call { callee := .value (.func f), args := xs, argTypes := ts })
    (hd : dOk n o.dst = true) (hf : P.funcs[f]? = some fn) (hname : fn.name ≠ "runtime.NumGoroutine") (hbody : fn.body = some cd)
    {I : List (Path × Path)} {res : V} {outs : List V} (hdo : Does P f (e.passAll I 0 (xs.toList.map e.rd)) res outs)
    (hchk : callOk e o.dst I (xs.toList.map e.rd) res outs = true) {K : Env → Prop} (hK : K (callEnv e o.dst I res outs)) : OpOk P w0 g0 n o e K := by
  intro a w hs next Q hnext
  simp only [callOk, Bool.and_eq_true, List.all_eq_true] at hchk
  obtain ⟨⟨⟨⟨⟨c1, c2⟩, c3⟩, c4⟩, c5⟩, c6⟩ := hchk
  obtain ⟨hw, hρpw⟩ := waysOk_ways c2
  obtain ⟨cio, hpw⟩ := ioOk_inv c1
  obtain ⟨g0', h0⟩ := hs.holds
  obtain ⟨g, h, hhead⟩ := h0.clear1
  have hsh := h.shed (badRef o.dst (I.map (·.1)))
  have hbad : ∀ t, ∀ r ∈ ((e.shed (badRef o.dst (I.map (·.1)))).get t).refs, r.head? ≠ some 1 ∧ (∀ x, o.dst = some x → r.head? ≠ some (x + 2)) ∧ ∀ p ∈ I.map (·.1), p <+: r → r = p := by
    intro t r hr
    have := Env.shed_refs hr
    simp only [badRef, Bool.or_eq_false_iff, beq_eq_false_iff_ne, List.any_eq_false, Bool.and_eq_true, not_and, Bool.not_eq_true, Bool.not_eq_false'] at this
    obtain ⟨⟨k1, k2⟩, k3⟩ := this
    refine ⟨k1, fun x hx => ?_, fun p hp hpre => ?_⟩
    · rw [hx] at k2; simpa using k2
    · have := k3 p hp (List.isPrefixOf_iff_prefix.2 hpre)
      simpa using this
  obtain ⟨gs, s1, s2, s3, s4, s5, s6, _, _⟩ := hsh.stashAll g.vm (I.map (·.1)) 0 _ _ c1 (fun s r hr => (hbad s r hr).1) (fun i _ b q hb hp => by
    obtain ⟨r, rfl⟩ := hp; exact hhead b _ hb (by simp)) (fun _ _ => rfl)
  have hat : ∀ p ∈ I.map (·.1), ∃ t q u, p = (t + 2) :: q ∧ (e.shed (badRef o.dst (I.map (·.1)))).at p = some u ∧ e.at p = some u ∧ u.handy q = true := by
    intro p hp
    obtain ⟨t, q, u, rfl, k1, k2⟩ := cio p hp
    exact ⟨t, q, u, rfl, k1, shed_at k1 (handy_ne k2).2.2, k2⟩
  have hL : Lends e w g (gs.hand (lentAll I 0 (xs.toList.map e.rd)) (I.map (·.2))) I (lentAll I 0 (xs.toList.map e.rd)) := by
    refine ⟨fun b hb => Gh.hand_none (s2 b hb), fun p hp b q hb => ?_, fun x hx u hu => ?_⟩
    · have h1 : gs.lab b = some (p ++ q) := s3 b _ hb (fun p' hp' hpre => by
        have := apart_iff.1 (c4 p hp p' hp')
        exact (prefix_either hpre).elim this.2 this.1)
      rw [Gh.hand_other h1 (hhead b _ hb), if_pos ⟨p, hp, List.prefix_append p q⟩]
    · obtain ⟨i, hi⟩ := List.getElem?_of_mem hx
      obtain ⟨t, q, u', e1, k1, k2, k3⟩ := hat x.1 (List.mem_map.2 ⟨x, hx, rfl⟩)
      rw [k2] at hu
      cases hu
      have := s5 i x.1 u (by simp [hi]) k1
      rw [Nat.zero_add] at this
      exact this.moves (Gh.hand_moves hw (by simp [hi])) (fun r hr => by rw [(V.handy_inv k3).2] at hr; cases hr)
  have hargs : ∀ (j : Nat) (x : V) (c : Value), (e.passAll I 0 (xs.toList.map e.rd))[j]? = some x → (xs.map a.eval)[j]? = some c → RepS w (gs.hand (lentAll I 0 (xs.toList.map e.rd)) (I.map (·.2))) [j + 2] x c := by
    intro j x c hx hc
    obtain ⟨v, hv, rfl⟩ := passAll_get hx
    have hv' := hv
    simp only [List.getElem?_map, Option.map_eq_some_iff] at hv
    obtain ⟨y, hy, rfl⟩ := hv
    simp only [Array.getElem?_map, Option.map_eq_some_iff] at hc
    obtain ⟨y', hy', rfl⟩ := hc
    rw [Array.getElem?_toList, hy'] at hy
    cases hy
    rw [Nat.zero_add]
    exact (h.rd y []).pass h hL (e.rd_loose y) (fun p hp => lentAll_mem hv' (by rw [Nat.zero_add]; exact hp))
  have hcall := hdo w _ (xs.map a.eval) (Gh.hand_inj hw s1.inj) (by rw [passAll_length]; simp) (fun b p hb => by
    rw [passAll_length]; exact Gh.hand_heads hw hb) hargs
  unfold Oper.wp
  rw [run_enter ho hf hname hbody a.eval rfl w, Oper.upon_enter]
  refine hcall.mono ?_
  rintro en w' ⟨c, g', rfl, hin', hfr, hres, houts⟩
  have hrq : ∀ v : V, quiet (lentAll I 0 (xs.toList.map e.rd)) v = true → v.refs = [] ∧ (v.noSl = true ∨ lentAll I 0 (xs.toList.map e.rd) = []) := by
    intro v hv
    have : v.refs = [] ∧ (lentAll I 0 (xs.toList.map e.rd) = [] ∨ v.noSl = true) := by simpa [quiet] using hv
    exact ⟨this.1, this.2.symm⟩
  obtain ⟨r1, r2⟩ := hrq _ c6
  have hd1 : ∀ p ∈ I.map (·.1), ∀ x, o.dst = some x → p.head? ≠ some (x + 2) := by
    intro p hp x hx
    have := c3 p hp
    rw [hx] at this
    simpa using this
  have h3 := s1.called hs.size hd hw (fun t r hr => by
    obtain ⟨k1, k2, _⟩ := hbad t r (refs_lits _ _ hr); exact ⟨k1, k2⟩) hin' hfr hres r1 r2
  obtain ⟨g2, h4⟩ := h3.unstashAll g.vm (I.map (·.1)) (I.map fun x => outAt outs x.2) 0 _ _ (by simp) hpw (fun i p u hp hu => by
      simp only [List.getElem?_map, Option.map_eq_some_iff] at hp hu
      obtain ⟨x, hx, rfl⟩ := hp
      obtain ⟨x', hx', rfl⟩ := hu
      rw [hx] at hx'
      cases hx'
      have hxI := List.mem_of_getElem? hx
      have hxp : x.1 ∈ I.map (·.1) := List.mem_map.2 ⟨x, hxI, rfl⟩
      obtain ⟨t, q, u', e1, k1, k2, k3⟩ := hat x.1 hxp
      have hc5 := c5 x hxI
      obtain ⟨⟨m1, m2⟩, m3⟩ := hc5
      have hdt : o.dst ≠ some t := fun hx => hd1 x.1 hxp t hx (by rw [e1]; rfl)
      have hp1 : x.1.head? ≠ some 1 := by rw [e1]; simp
      refine ⟨t, q, e1, by rw [e1] at m2; exact m2, ?_, ?_, ?_, ?_⟩
      · rw [e1, Env.at_setd hdt, ← e1]
        exact Env.lits_at (I.map (·.1)) _ (fun p hp => by obtain ⟨t, q, u, e1, k1, _⟩ := hat p hp; exact ⟨t, q, u, e1, k1⟩) hpw _ hxp
      · rw [Gh.back_vm hp1 (hd1 _ hxp), s4 _ hp1]
      · exact back_bare (s6 _ hxp) hp1 (hd1 _ hxp) (by rw [e1]; simp)
      · rw [Nat.zero_add]
        obtain ⟨q1, q2⟩ := hrq _ m3
        refine called_io (ρ := x.2) hw hfr s1.inj (by simp [hx]) ?_ q1 q2
        obtain ⟨y, r, hy, hy2, hy3⟩ := hw.head i x.2 (by simp [hx])
        obtain ⟨j, rfl⟩ : ∃ j, y = j + 2 := ⟨y - 2, by omega⟩
        rw [hy] at m1 m2 ⊢
        simp only [inAt] at m1
        simp only [outAt, inAt] at m2 ⊢
        cases hvj : (xs.toList.map e.rd)[j]? with
        | none => simp [hvj, leafIs] at m1
        | some v =>
          simp only [hvj] at m1
          cases hvl : v.leaf r with
          | none => simp [hvl, leafIs] at m1
          | some ul =>
            rw [hvl] at m1
            simp only [List.getElem?_map, Option.map_eq_some_iff] at hvj
            obtain ⟨z, hz, rfl⟩ := hvj
            rw [Array.getElem?_toList] at hz
            have hun : (∀ cs, ul ≠ .ag cs) ∧ (∀ cs, ul ≠ .tp cs) ∧ ul ≠ .un := by cases ul <;> simp [leafIs] at m1 ⊢
            obtain ⟨c', l1, l2⟩ := (h.rd z []).leaf hvl hun.1 hun.2.1 hun.2.2
            have hcv := leafIs_val h m1 l2
            cases hoj : outs[j]? with
            | none => simp [hoj, V.handy] at m2
            | some vo =>
              simp only [hoj] at m2 ⊢
              cases hol : vo.leaf r with
              | none => simp [hol, V.handy] at m2
              | some uo =>
                simp only [hol, Option.getD_some] at m2 ⊢
                obtain ⟨n1, n2, n3⟩ := handy_ne m2
                obtain ⟨c2, l3, l4⟩ := (houts j vo (a.eval z) hoj (by simp [hz])).leaf hol n1 n2 n3
                rw [l1] at l3
                cases l3
                rw [hcv] at l4
                exact l4) (fun s r hr p hp hpre => by
      rw [Env.get_setd] at hr
      split at hr
      · rw [r1] at hr; cases hr
      · exact (hbad s r (refs_lits _ _ hr)).2.2 p hp hpre)
  have hfin : Holds w0 g0 (callEnv e o.dst I res outs) (a.put o.dst c) w' g2 := by
    refine h4.congr ?_
    unfold callEnv
    refine (Env.Eqv.puts _ _ (Env.lits_setd (I.map (·.1)) _ (fun p hp => ?_))).trans (Env.lits_puts (I.map (·.1)) (I.map fun x => outAt outs x.2) _ (by simp) hpw)
    obtain ⟨t, q, u, e1, _⟩ := hat p hp
    exact ⟨t, q, e1, fun hx => hd1 p hp t hx (by rw [e1]; rfl)⟩
  exact hnext _ _ _ hK ⟨⟨g2, hfin.inj, hfin.fr, hfin.rep⟩, by rw [put_defers]; exact hs.defers, by rw [put_size]; exact hs.size⟩

end
end Go.Vx

namespace Go.Vx
open Go Go.RowKit Go.Great

/-- The function is there, and has a body. -/
def Fnd (P : Program) (f : FuncId) : Prop := ∃ (fn : Func) (cd : Code), P.funcs[f]? = some fn ∧ fn.name ≠ "runtime.NumGoroutine" ∧ fn.body = some cd

/-- A contract. -/
def Vow (P : Program) (f : FuncId) (ins : List V) (res : V) (outs : List V) : Prop := Fnd P f ∧ Does P f ins res outs

/-- Each end of the tree is as Q tells; each call has a contract. -/
inductive TOk (P : Program) (n : Nat) (Q : Exit → Env → Prop) : T → Prop
  | ok {e} (h : Q .normal e) : TOk P n Q (.ok e)
  | br {c t f} (h1 : c = true → TOk P n Q t) (h2 : c = false → TOk P n Q f) : TOk P n Q (.br c t f)
  | call {f vs all rest d e} (I : List (Path × Path)) (res : V) (outs : List V) (hs : Vow P f (e.passAll I 0 vs) res outs) (hd : dOk n d = true)
      (hc : callOk e d I vs res outs = true) (h : TOk P n Q (runT P n all rest (callEnv e d I res outs))) : TOk P n Q (.call f vs all rest d e)

section
variable {P : Program} {k : Ctx} {w0 : World} {g0 : Gh} {n : Nat} {e : Env} {Q : Exit → Env → Prop} {ops : Array Oper} {rest : List Oper} {o : Oper}

def JL (P : Program) (k : Ctx) (ops : Array Oper) (l : List Oper) (e : Env) (Q : Exit → Env → Prop) : Prop :=
  ∀ a w, k.sim e a w → wpList P ops (lift k Q) l a w

/-- Whatever an operation does, it writes its own slot only. -/
theorem Oper.wp_put {a : Act} {w : World} {K : Act → World → Prop} {Q : Exit → Act → World → Prop} (h : o.wp P a w K Q) :
    o.wp P a w (fun a' w' => K a' w' ∧ ∀ t, o.dst ≠ some t → a'.tmps.getD t undef = a.tmps.getD t undef) Q := by
  have hput : ∀ (b : Act) (v : Value), b.tmps = a.tmps → ∀ t, o.dst ≠ some t → (b.put o.dst v).tmps.getD t undef = a.tmps.getD t undef := by
    intro b v hb t ht
    cases hd : o.dst with
    | none => simp only [Act.put]; rw [hb]
    | some d =>
      have : d ≠ t := fun e => ht (by rw [hd, e])
      simp only [Act.put, hb]
      simp [Array.getD_eq_getD_getElem?, Array.getElem?_setIfInBounds, this]
  unfold Oper.wp at *
  generalize (execOp a.eval o).run P w = r at *
  cases r with
  | ok m w' =>
    cases m <;> simp only [Oper.upon] at h ⊢ <;>
      first
        | exact ⟨h, hput _ _ rfl⟩
        | exact Calls.mono h (fun e w'' he => by cases e <;> first | exact ⟨he, hput _ _ rfl⟩ | exact he)
        | exact Rows.mono h (fun _ _ he => ⟨he, hput _ _ rfl⟩)
        | exact h
  | halt x w' => cases x <;> simp only [Oper.upon] at h ⊢ <;> exact h

def dstOk (pins : List Nat) (o : Oper) : Bool :=
  match o.dst with
  | some d => !pins.contains d
  | none => true

theorem dstOk_keep {pins : List Nat} (h : dstOk pins o = true) {t : Nat} (ht : t ∈ pins) : o.dst ≠ some t := by
  intro hd
  simp only [dstOk, hd] at h
  simp at h
  exact h ht

theorem JL.nil (h : Q .normal e) : JL P k ops [] e Q := fun _ _ hs => ⟨e, h, hs⟩

theorem Sim.congr' {a : Act} {w : World} {e' : Env} (h : Sim w0 g0 n e a w) (he : e.Eqv e') : Sim w0 g0 n e' a w := by
  obtain ⟨⟨g, h1, h2, h3⟩, h4, h5⟩ := h
  exact ⟨⟨g, h1, h2, fun t => by rw [← he t]; exact h3 t⟩, h4, h5⟩

theorem JL.op (hw : ∀ a w, Sim k.w0 k.g0 k.n e a w → Region.wanted o (yielded ops a.tmps) = true) (hp : dstOk k.pins o = true) (h : OpOk P k.w0 k.g0 k.n o e (fun e' => JL P k ops rest e' Q)) : JL P k ops (o :: rest) e Q := by
  intro a w hs
  refine wpList_step fun K hK => ?_
  rw [if_pos (hw a w hs.1)]
  have h1 := h a w hs.1 (fun a' w' => ∃ e', JL P k ops rest e' Q ∧ Sim k.w0 k.g0 k.n e' a' w') (lift k Q) (fun e' a' w' hj hs' => ⟨e', hj, hs'⟩)
  refine Oper.wp_mono (fun a' w' hh => ?_) (Oper.wp_put h1)
  obtain ⟨⟨e', hj, hs'⟩, hkeep⟩ := hh
  exact hK a' w' (hj a' w' ⟨hs', fun t ht => by rw [hkeep t (dstOk_keep hp ht)]; exact hs.2 t ht⟩)

theorem JL.skip (hw : ∀ a w, Sim k.w0 k.g0 k.n e a w → Region.wanted o (yielded ops a.tmps) = false) (hd : dOk k.n o.dst = true) (hp : dstOk k.pins o = true) (h : JL P k ops rest (e.setd o.dst (.tp [])) Q) : JL P k ops (o :: rest) e Q := by
  intro a w hs
  refine wpList_step fun K hK => ?_
  rw [if_neg (by rw [hw a w hs.1]; simp)]
  obtain ⟨g, hg⟩ := hs.1.holds
  refine hK _ _ (h _ _ ⟨hs.1.setd hg hd (fun ρ _ => .tup (arr := #[]) rfl (fun f x c hx => by simp at hx)), fun t ht => ?_⟩)
  have := dstOk_keep hp ht
  rw [← hs.2 t ht]
  cases hdd : o.dst with
  | none => rfl
  | some d =>
    have : d ≠ t := fun e => this (by rw [hdd, e])
    simp [Act.put, Array.getD_eq_getD_getElem?, Array.getElem?_setIfInBounds, this]

theorem wanted_none (h : o.guard = none) (a : Act) : Region.wanted o (yielded ops a.tmps) = true := by simp [Region.wanted, h]

theorem wanted_b {j d : Nat} {want c : Bool} (hg : o.guard = some (j, want)) (hd : (ops[j]?).bind (·.dst) = some d) (hc : e.get d = .b c) {a : Act} {w : World} (hs : Sim w0 g0 n e a w) :
    Region.wanted o (yielded ops a.tmps) = (c == want) := by
  obtain ⟨g, hg'⟩ := hs.holds
  have h1 := hg'.rep d
  rw [hc] at h1
  have h2 := h1.b_inv
  have h3 : a.tmps[d]? = some (.bool c) := by
    rw [Array.getD_eq_getD_getElem?] at h2
    cases hx : a.tmps[d]? with
    | none => rw [hx] at h2; simp [undef] at h2
    | some v => rw [hx] at h2; simpa using h2
  simp only [Region.wanted, hg, yielded, hd, Option.bind_some, h3]
  cases c <;> cases want <;> rfl

theorem wanted_tp {j d : Nat} {want : Bool} (hg : o.guard = some (j, want)) (hd : (ops[j]?).bind (·.dst) = some d) (hc : e.get d = .tp []) {a : Act} {w : World} (hs : Sim w0 g0 n e a w) :
    Region.wanted o (yielded ops a.tmps) = false := by
  obtain ⟨g, hg'⟩ := hs.holds
  have h1 := hg'.rep d
  rw [hc] at h1
  obtain ⟨arr, h2, h3⟩ : ∃ arr, a.tmps.getD d undef = .tuple arr ∧ arr.size = 0 := by
    generalize a.tmps.getD d undef = c at h1
    cases h1 with
    | one hv h => cases h with
      | c h => cases h
    | tup hn h => exact ⟨_, rfl, by simpa using hn.symm⟩
  have h4 : ∀ b, a.tmps[d]? ≠ some (.bool b) := by
    intro b hb
    rw [Array.getD_eq_getD_getElem?, hb] at h2
    cases h2
  simp only [Region.wanted, hg, yielded, hd, Option.bind_some]
  rfl

theorem JL.congr {l : List Oper} {e' : Env} (he : e.Eqv e') (h : JL P k ops l e' Q) : JL P k ops l e Q := fun a w hs => h a w ⟨hs.1.congr' he, hs.2⟩

theorem set_same {d : Nat} {v : V} (h : e.get d = v) : e.Eqv (e.set d v) := by
  intro t
  rw [Env.get_set]
  split
  · rename_i ht; subst ht; exact h
  · rfl

theorem runT_sound : ∀ (l : List Oper) (e : Env), l.all (dstOk k.pins) = true → TOk P k.n Q (runT P k.n ops.toList l e) → JL P k ops l e Q
  | [], e, _, h => by
    cases h with
    | ok h => exact JL.nil h
  | o :: r, e, hpin, h => by
    simp only [List.all_cons, Bool.and_eq_true] at hpin
    obtain ⟨hp, hpr⟩ := hpin
    have ih := fun e => runT_sound r e hpr
    have hgo : ∀ (e : Env) (T0 : T), TOk P k.n Q T0 → (∀ a w, Sim k.w0 k.g0 k.n e a w → Region.wanted o (yielded ops a.tmps) = true) →
        T0 = (match o.op with
          | .call { callee := .value (.func f), args, .. } => .call f (args.toList.map e.rd) ops.toList r o.dst e
          | _ => match stepF P k.n e o with
            | some e' => runT P k.n ops.toList r e'
            | none => .bad) → JL P k ops (o :: r) e Q := by
      intro e T0 hT hw he
      refine JL.op hw hp ?_
      split at he
      · rename_i f args ts ho
        subst he
        cases hT with
        | call I res outs hs hd hc h =>
          obtain ⟨⟨fn, cd, k1, k2, k3⟩, hdo⟩ := hs
          exact call_ok ho hd k1 k2 k3 hdo hc (ih _ h)
      · split at he
        · rename_i e' hst
          subst he
          exact stepF_ok hst (ih _ hT)
        · subst he; cases hT
    have hskip : ∀ (e : Env) (T0 : T), TOk P k.n Q T0 → (∀ a w, Sim k.w0 k.g0 k.n e a w → Region.wanted o (yielded ops a.tmps) = false) →
        T0 = (if dOk k.n o.dst then runT P k.n ops.toList r (e.setd o.dst (.tp [])) else .bad) → JL P k ops (o :: r) e Q := by
      intro e T0 hT hw he
      split at he
      · rename_i hd
        subst he
        exact JL.skip hw hd hp (ih _ hT)
      · subst he; cases hT
    simp only [runT] at h
    split at h
    · rename_i hg
      exact hgo e _ h (fun a w _ => wanted_none hg a) rfl
    · rename_i j want hg
      split at h
      · rename_i d hd
        simp only [Array.getElem?_toList] at hd
        split at h
        · rename_i c hc
          split at h
          · rename_i hwt
            subst hwt
            cases h with
            | br h1 h2 =>
              cases c with
              | true => exact JL.congr (set_same hc) (hgo _ _ (h1 rfl) (fun a w hs => by rw [wanted_b hg hd (c := true) (by rw [Env.get_set]; simp) hs]; rfl) rfl)
              | false => exact JL.congr (set_same hc) (hskip _ _ (h2 rfl) (fun a w hs => by rw [wanted_b hg hd (c := false) (by rw [Env.get_set]; simp) hs]; rfl) rfl)
          · rename_i hwt
            simp only [Bool.not_eq_true] at hwt
            subst hwt
            cases h with
            | br h1 h2 =>
              cases c with
              | true => exact JL.congr (set_same hc) (hskip _ _ (h1 rfl) (fun a w hs => by rw [wanted_b hg hd (c := true) (by rw [Env.get_set]; simp) hs]; rfl) rfl)
              | false => exact JL.congr (set_same hc) (hgo _ _ (h2 rfl) (fun a w hs => by rw [wanted_b hg hd (c := false) (by rw [Env.get_set]; simp) hs]; rfl) rfl)
        · rename_i hc
          exact hskip e _ h (fun a w hs => wanted_tp hg hd hc hs) rfl
        · cases h
      · cases h

theorem J.region {id : Nat} {ops : Array Oper} (hp : ops.toList.all (dstOk k.pins) = true) (h : TOk P k.n Q (runT P k.n ops.toList ops.toList e)) : J P k (.region id ops false) e Q :=
  fun a w hs => wp_region_list (runT_sound ops.toList e hp h a w hs)

end
end Go.Vx

namespace Go.Vx
open Go Go.RowKit Go.Great

/-- The paths that it hangs on, named anew. -/
def V.ren (f : Path → Path) : V → V
  | .al p => .al (f p)
  | .hd p z off len => .hd (f p) z off len
  | .ad p off => .ad (f p) off
  | .ae p z j k => .ae (f p) z j k
  | .ag cs => .ag (go f cs)
  | .tp cs => .tp (go f cs)
  | .bx cs => .bx (go f cs)
  | v => v
where go (f : Path → Path) : List V → List V
  | [] => []
  | c :: r => c.ren f :: go f r

theorem ren_go_get {f : Path → Path} {cs : List V} {j : Nat} {y : V} (h : (V.ren.go f cs)[j]? = some y) : ∃ x, cs[j]? = some x ∧ y = x.ren f := by
  induction cs generalizing j with
  | nil => simp [V.ren.go] at h
  | cons c r ih =>
    cases j with
    | zero => simp [V.ren.go] at h; exact ⟨c, rfl, h.symm⟩
    | succ j => simp [V.ren.go] at h; obtain ⟨x, h1, h2⟩ := ih h; exact ⟨x, by simpa using h1, h2⟩

theorem ren_go_length {f : Path → Path} (cs : List V) : (V.ren.go f cs).length = cs.length := by
  induction cs with
  | nil => rfl
  | cons c r ih => simp [V.ren.go, ih]

/-- It owns something itself. -/
def V.owns : V → Bool
  | .ow _ _ => true
  | .bx _ => true
  | _ => false

/-- What is owned along v is found at ρ as it was at π. -/
structure Live (w : World) (g : Gh) (w' : World) (g' : Gh) (v : V) (π ρ : Path) : Prop where
  own : ∀ q u, v.sub q = some u → u.owns = true → ∀ b, g.lab b = some (π ++ q) → g'.lab b = some (ρ ++ q) ∧ w'.heap[b]? = w.heap[b]?
  vm : ∀ q u, v.sub q = some u → u.owns = true → g'.vm (ρ ++ q) = g.vm (π ++ q)

theorem Live.kid {w w' : World} {g g' : Gh} {v x : V} {π ρ : Path} (h : Live w g w' g' v π ρ) {f : Nat} (hx : v.kids[f]? = some x) : Live w g w' g' x (π ++ [f]) (ρ ++ [f]) := by
  refine ⟨fun q u hu ho b hb => ?_, fun q u hu ho => ?_⟩
  · have := h.own (f :: q) u (by simp only [V.sub, hx]; exact hu) ho b (by simpa using hb)
    simpa using this
  · have := h.vm (f :: q) u (by simp only [V.sub, hx]; exact hu) ho
    simpa using this

section
variable {w w' : World} {g g' : Gh} {f : Path → Path}

theorem RepC.live {o : Option Path} {v : V} {cs : List Value} (h : RepC w g o v cs) : ∀ {π ρ : Path}, o = some π → Keeps w g w' g' → Live w g w' g' v π ρ → RepC w' g' (some ρ) v cs := by
  induction h with
  | i => intros; exact .i
  | b => intros; exact .b
  | s => intros; exact .s
  | np => intros; exact .np
  | nl => intros; exact .nl
  | un => intros; exact .un
  | fn => intros; exact .fn
  | lit h => intros; exact .lit h
  | slnil => intros; exact .slnil
  | sl blk o z cap ch hl hlt hcap hz hc hr =>
    intro π ρ _ hk _
    exact (RepC.sl (w := w) (g := g) (π := none) blk o z cap ch hl hlt hcap hz hc hr).imm rfl hk _
  | ownil hv => intro π ρ e _ m; cases e; exact .ownil (by have := m.vm [] _ rfl rfl; simp at this; rw [this]; exact hv)
  | ow blk o z cap cur ty ch hl hv hb hcap hmax hroom hz hc hr ih =>
    intro π ρ e hk m
    cases e
    have h1 := m.own [] _ rfl rfl blk (by simpa using hl)
    have h2 := m.vm [] _ rfl rfl
    simp at h1 h2
    exact .ow blk o z cap cur ty ch h1.1 (by rw [h2]; exact hv) (hb.of h1.2) hcap hmax hroom hz hc (fun j x hx => ih j x hx rfl hk (m.kid hx))
  | ag hn h ih => intro π ρ e hk m; cases e; exact .ag hn (fun f x c hx hc => ih f x c hx hc rfl hk (m.kid hx))

/-- Trees name no other place. -/
theorem RepC.ren_eq : ∀ (v : V) {o : Option Path} {cs : List Value}, RepC w g o v cs → v.ren f = v
  | .ag ks, o, cs, h => by
    cases h with
    | ag hn h =>
      simp only [V.ren]
      congr 1
      refine List.ext_getElem? (fun j => ?_)
      cases hj : ks[j]? with
      | none =>
        simp only [List.getElem?_eq_none_iff] at hj ⊢
        rw [ren_go_length]; exact hj
      | some x =>
        have hjl := (List.getElem?_eq_some_iff.1 hj).1
        have hjr : j < (V.ren.go f ks).length := by rw [ren_go_length]; exact hjl
        rw [List.getElem?_eq_getElem hjr]
        obtain ⟨x', h1, h2⟩ := ren_go_get (List.getElem?_eq_getElem hjr)
        rw [hj] at h1
        cases h1
        have hv : j < cs.length := by omega
        have : SizeOf.sizeOf x < 1 + SizeOf.sizeOf ks := by
          have := List.sizeOf_lt_of_mem (List.mem_of_getElem? hj)
          omega
        rw [h2, RepC.ren_eq x (h j x cs[j] hj (List.getElem?_eq_getElem hv))]
  | .i _ _, _, _, _ | .b _, _, _, _ | .s _, _, _, _ | .np, _, _, _ | .nl, _, _, _ | .un, _, _, _ | .fn _, _, _, _ | .lit _, _, _, _ | .sl _, _, _, _ | .ow _ _, _, _, _ => rfl
  | .al _, _, _, h | .hd _ _ _ _, _, _, h | .ad _ _, _, _, h | .ae _ _ _ _, _, _, h | .im _, _, _, h | .tp _, _, _, h | .bx _, _, _, h => by cases h
termination_by v => SizeOf.sizeOf v

theorem RepO.live {π : Path} {v : V} {cs : List Value} (h : RepO w g π v cs) : ∀ {ρ : Path}, Keeps w g w' g' → Live w g w' g' v π ρ → (∀ r ∈ v.refs, g'.vm (f r) = g.vm r) → RepO w' g' ρ (v.ren f) cs := by
  induction h with
  | c h => intro ρ hk m _; rw [RepC.ren_eq _ h]; exact .c (h.live rfl hk m)
  | ag hn h ih =>
    intro ρ hk m hr
    refine .ag (by rw [ren_go_length]; exact hn) (fun j y c hy hc => ?_)
    obtain ⟨x, hx, rfl⟩ := ren_go_get hy
    exact ih j x c hx hc hk (m.kid hx) (fun r hr' => hr r (V.mem_go hx hr'))
  | bx blk cur ty hl hv hb hn h ih =>
    intro ρ hk m hr
    have h1 := m.own [] _ rfl rfl blk (by simpa using hl)
    have h2 := m.vm [] _ rfl rfl
    simp at h1 h2
    refine .bx blk cur ty h1.1 (by rw [h2]; exact hv) (by rw [h1.2]; exact hb) (by rw [ren_go_length]; exact hn) (fun j y c hy hc => ?_)
    obtain ⟨x, hx, rfl⟩ := ren_go_get hy
    exact ih j x c hx hc hk (m.kid hx) (fun r hr' => hr r (V.mem_go hx hr'))
  | @al π p hs =>
    intro ρ _ _ hr
    have := hr p (by simp [V.refs])
    rw [← this]
    exact .al (by rw [this]; exact hs)
  | @hd π p z off len c h => intro ρ _ _ hr; exact .hd (by rw [hr p (by simp [V.refs])]; exact h)
  | @ad π p off blk o h => intro ρ _ _ hr; exact .ad blk o (by rw [hr p (by simp [V.refs])]; exact h)
  | @ae π p z j f blk o h => intro ρ _ _ hr; exact .ae blk o (by rw [hr p (by simp [V.refs])]; exact h)
  | im blk o vs hl hlt hn hc h =>
    intro ρ m _ _
    have hb := m.imm blk hlt hl
    exact .im blk o vs hb.1 (Nat.lt_of_lt_of_le hlt m.size) hn (fun q c hq => by rw [cell_same (by exact hb.2)]; exact hc q c hq) (h.imm rfl m none)
  | un => intros; exact .un

theorem ren_not_ag {v : V} (h : ∀ cs, v ≠ .ag cs) : ∀ cs, v.ren f ≠ .ag cs := by
  intro cs
  cases v <;> simp [V.ren] at h ⊢

theorem RepS.live {π : Path} {v : V} {c : Value} (h : RepS w g π v c) : ∀ {ρ : Path}, Keeps w g w' g' → Live w g w' g' v π ρ → (∀ r ∈ v.refs, g'.vm (f r) = g.vm r) → RepS w' g' ρ (v.ren f) c := by
  induction h with
  | one hv h => intro ρ hk m hr; exact .one (ren_not_ag hv) (h.live hk m hr)
  | agg h => intro ρ hk m hr; exact .agg (h.live hk m hr)
  | tup hn h ih =>
    intro ρ hk m hr
    refine .tup (by rw [ren_go_length]; exact hn) (fun j y c hy hc => ?_)
    obtain ⟨x, hx, rfl⟩ := ren_go_get hy
    exact ih j x c hx hc hk (m.kid hx) (fun r hr' => hr r (V.mem_go hx hr'))
  | un => intros; exact .un

end
end Go.Vx

namespace Go.Vx
open Go Go.RowKit Go.Great

def renP (p π r : Path) : Path := if p.isPrefixOf r then π ++ r.drop p.length else r

def Env.ren (f : Path → Path) : Env → Env
  | [] => []
  | (t, v) :: r => (t, v.ren f) :: Env.ren f r

theorem Env.get_ren (f : Path → Path) (e : Env) (t : Nat) : (e.ren f).get t = (e.get t).ren f := by
  induction e with
  | nil => rfl
  | cons p r ih =>
    obtain ⟨s, v⟩ := p
    simp only [Env.ren, Env.get]
    split
    · rfl
    · exact ih

/-- The place π, which names what p owns, becomes its owner; p is forgotten. -/
def Env.adopt (e : Env) (p π : Path) : Option Env :=
  match p, π with
  | (t + 2) :: q, (s + 2) :: r =>
    if t = s then none else match e.at ((t + 2) :: q), (e.shed ((s + 2) :: r).isPrefixOf).at ((s + 2) :: r) with
    | some (.ow z xs), some (.al p') => if p' = (t + 2) :: q then
        some ((((e.shed ((s + 2) :: r).isPrefixOf).putAt ((t + 2) :: q) .un).ren (renP ((t + 2) :: q) ((s + 2) :: r))).putAt ((s + 2) :: r) (.ow z xs)) else none
    | _, _ => none
  | _, _ => none

theorem sub_app : ∀ (p q : Path) (v : V), v.sub (p ++ q) = (v.sub p).bind (V.sub · q)
  | [], q, v => rfl
  | f :: p, q, v => by
    simp only [List.cons_append, V.sub]
    split
    · exact sub_app p q _
    · rfl

theorem sub_ren {f : Path → Path} : ∀ (q : Path) {v u : V}, v.sub q = some u → (v.ren f).sub q = some (u.ren f) ∨ (v.ren f).sub q = some u
  | [], v, u, h => by simp [V.sub] at h; subst h; exact .inl rfl
  | j :: q, v, u, h => by
    simp only [V.sub] at h
    cases hk : v.kids[j]? with
    | none => simp [hk] at h
    | some x =>
      simp only [hk] at h
      have aux : ∀ cs : List V, cs[j]? = some x → (V.ren.go f cs)[j]? = some (x.ren f) := by
        intro cs hc
        have hl : j < (V.ren.go f cs).length := by rw [ren_go_length]; exact (List.getElem?_eq_some_iff.1 hc).1
        obtain ⟨y, h1, h2⟩ := ren_go_get (List.getElem?_eq_getElem hl)
        rw [hc] at h1
        cases h1
        rw [List.getElem?_eq_getElem hl, h2]
      cases v with
      | ag cs | tp cs | bx cs =>
        simp only [V.kids] at hk
        simp only [V.ren, V.sub, V.kids, aux cs hk]
        exact sub_ren q h
      | ow z xs => right; simp only [V.ren, V.sub, hk]; exact h
      | _ => simp [V.kids] at hk

/-- The marks when what stands at p is found at π, where nothing was. -/
noncomputable def Gh.take (g : Gh) (p π : Path) : Gh :=
  open Classical in
  { lab := fun b => match g.lab b with
      | some q => if p <+: q then some (π ++ q.drop p.length) else if π <+: q then none else some q
      | none => none
    vm := fun q => if π <+: q then g.vm (p ++ q.drop π.length) else g.vm q }

section
variable {P : Program} {w0 w : World} {g0 g : Gh} {n : Nat} {e : Env} {a : Act}

theorem Gh.take_none {b : Nat} {p π : Path} (h : g.lab b = none) : (g.take p π).lab b = none := by simp [Gh.take, h]
theorem Gh.take_under {b : Nat} {p π q : Path} (h : g.lab b = some (p ++ q)) : (g.take p π).lab b = some (π ++ q) := by simp [Gh.take, h]
theorem Gh.take_other {b : Nat} {p π q : Path} (h : g.lab b = some q) (hp : ¬ p <+: q) (hπ : ¬ π <+: q) : (g.take p π).lab b = some q := by simp [Gh.take, h, hp, hπ]
theorem Gh.take_vm {p π q : Path} (h : ¬ π <+: q) : (g.take p π).vm q = g.vm q := by simp [Gh.take, h]
theorem Gh.take_vm' {p π r : Path} : (g.take p π).vm (π ++ r) = g.vm (p ++ r) := by simp [Gh.take]
theorem Gh.take_inv {b : Nat} {p π q : Path} (h : (g.take p π).lab b = some q) : (∃ r, g.lab b = some (p ++ r) ∧ q = π ++ r) ∨ (g.lab b = some q ∧ ¬ p <+: q ∧ ¬ π <+: q) := by
  simp only [Gh.take] at h
  split at h
  · rename_i q' hq
    split at h
    · rename_i hp
      obtain ⟨r, rfl⟩ := hp
      cases h
      exact .inl ⟨r, by rw [hq], by simp⟩
    · split at h
      · cases h
      · rename_i h1 h2; cases h; exact .inr ⟨hq, h1, h2⟩
  · cases h

theorem Holds.putSame (h : Holds w0 g0 e a w g) {t : Nat} {q : Path} {u u' : V} (hat : e.at ((t + 2) :: q) = some u)
    (hC : ∀ cs, RepC w g (some ((t + 2) :: q)) u cs → RepC w g (some ((t + 2) :: q)) u' cs) (hO : ∀ cs, RepO w g ((t + 2) :: q) u cs → RepO w g ((t + 2) :: q) u' cs)
    (hS : ∀ c, RepS w g ((t + 2) :: q) u c → RepS w g ((t + 2) :: q) u' c) : Holds w0 g0 (e.putAt ((t + 2) :: q) u') a w g := by
  refine ⟨h.inj, h.fr, fun s => ?_⟩
  rw [Env.putAt_get]
  simp only
  split
  · rename_i hts
    subst hts
    exact RepS.put q (by simp) (h.rep t) hat ⟨Nat.le_refl _, fun b _ hb => ⟨hb, rfl⟩, fun b p hb _ _ => ⟨hb, rfl⟩, fun p _ _ => rfl⟩ (fun _ _ => rfl) (by simpa using hC) (by simpa using hO) (by simpa using hS)
  · exact h.rep s

theorem adopt_fin {t s : Nat} {q r : Path} {z : Nat} {xs : List V} {c : Value} {e1 : Env} (h2 : Holds w0 g0 e1 a w g) (hrow : RepC w g (some ((t + 2) :: q)) (.ow z xs) [c]) (hvm : c = g.vm ((t + 2) :: q)) (hts : ¬ t = s)
    (hrefs : ∀ x, True → ∀ r' ∈ (e1.get x).refs, ((s + 2) :: r).isPrefixOf r' = false) (hπ : e1.at ((s + 2) :: r) = some (.al ((t + 2) :: q))) (hp : e1.at ((t + 2) :: q) = some .un ∨ e1.at ((t + 2) :: q) = none) :
    ∃ g', Holds w0 g0 ((e1.ren (renP ((t + 2) :: q) ((s + 2) :: r))).putAt ((s + 2) :: r) (.ow z xs)) a w g' := by
  have hπp : ∀ y : Path, ¬ ((s + 2) :: r) <+: ((t + 2) :: y) := by rintro y ⟨x, hx⟩; simp at hx; omega
  have hvm2 : (g.take ((t + 2) :: q) ((s + 2) :: r)).vm ((s + 2) :: r) = c := by
    have := Gh.take_vm' (g := g) (p := (t + 2) :: q) (π := (s + 2) :: r) (r := [])
    simp only [List.append_nil] at this
    rw [this, hvm]
  have hH : Holds w0 g0 (e1.ren (renP ((t + 2) :: q) ((s + 2) :: r))) a w (g.take ((t + 2) :: q) ((s + 2) :: r)) := by
    refine ⟨⟨fun b b' y hb hb' => ?_, fun b y hb => ?_⟩, ⟨h2.fr.os, h2.fr.tape, h2.fr.output, h2.fr.size, fun b hb hk => ?_, fun y => ?_⟩, fun x => ?_⟩
    · rcases Gh.take_inv hb with ⟨y1, k1, rfl⟩ | ⟨k1, k2, k3⟩
      · rcases Gh.take_inv hb' with ⟨y2, k1', e2⟩ | ⟨k1', k2', k3'⟩
        · rw [List.append_cancel_left_eq] at e2; subst e2; exact h2.inj.1 b b' _ k1 k1'
        · exact (k3' (List.prefix_append _ _)).elim
      · rcases Gh.take_inv hb' with ⟨y2, k1', rfl⟩ | ⟨k1', k2', k3'⟩
        · exact (k3 (List.prefix_append _ _)).elim
        · exact h2.inj.1 b b' _ k1 k1'
    · rcases Gh.take_inv hb with ⟨y1, k1, rfl⟩ | ⟨k1, k2, k3⟩ <;> exact h2.inj.2 b _ k1
    · obtain ⟨k1, k2⟩ := h2.fr.keep b hb hk
      refine ⟨?_, k2⟩
      rcases hk with hk | ⟨y, hk⟩
      · rw [hk] at k1 ⊢; exact Gh.take_none k1
      · rw [hk] at k1 ⊢; exact Gh.take_other k1 (not_pre0 (by omega) _) (not_pre0 (by omega) _)
    · rw [Gh.take_vm (not_pre0 (by omega) _)]; exact h2.fr.vm0 y
    · rw [Env.get_ren]
      have hbelow : ∀ (t0 : Nat) (q0 y : Path) (u u0 : V), (e1.at ((t0 + 2) :: q0) = some u0 ∨ e1.at ((t0 + 2) :: q0) = none) → u0.kids = [] → u0.owns = false → (e1.get x).sub y = some u → u.owns = true → ¬ ((t0 + 2) :: q0) <+: ([x + 2] ++ y) := by
        rintro t0 q0 y u u0 hu0 hk0 ho0 hy ho ⟨l, hl⟩
        simp at hl
        obtain ⟨rfl, rfl⟩ := hl
        rw [sub_app] at hy
        rcases hu0 with hu0 | hu0
        · simp only [Env.at] at hu0
          rw [hu0] at hy
          simp only [Option.bind_some] at hy
          cases l with
          | nil => simp [V.sub] at hy; subst hy; rw [ho0] at ho; cases ho
          | cons j l => simp [V.sub, hk0] at hy
        · simp only [Env.at] at hu0
          rw [hu0] at hy
          simp at hy
      refine (h2.rep x).live ⟨Nat.le_refl _, fun b _ hb => ⟨Gh.take_none hb, rfl⟩⟩ ⟨fun y u hy ho b hb => ⟨Gh.take_other hb ?_ ?_, rfl⟩, fun y u hy ho => Gh.take_vm ?_⟩ (fun r' hr' => ?_)
      · exact hbelow t q y u .un hp rfl rfl hy ho
      · exact hbelow s r y u _ (.inl hπ) rfl rfl hy ho
      · exact hbelow s r y u _ (.inl hπ) rfl rfl hy ho
      · unfold renP
        split
        · rename_i hpre
          obtain ⟨l, rfl⟩ := List.isPrefixOf_iff_prefix.1 hpre
          rw [List.drop_left, Gh.take_vm']
        · refine Gh.take_vm (fun hpre => ?_)
          have := hrefs x trivial r' hr'
          rw [List.isPrefixOf_iff_prefix.2 hpre] at this
          cases this
  have hnew : RepC w (g.take ((t + 2) :: q) ((s + 2) :: r)) (some ((s + 2) :: r)) (.ow z xs) [c] :=
    hrow.live rfl ⟨Nat.le_refl _, fun b _ hb => ⟨Gh.take_none hb, rfl⟩⟩ ⟨fun y u _ _ b hb => ⟨Gh.take_under hb, rfl⟩, fun y u _ _ => Gh.take_vm'⟩
  have hvp : (g.take ((t + 2) :: q) ((s + 2) :: r)).vm ((t + 2) :: q) = c := by rw [Gh.take_vm (hπp q), hvm]
  have hat3 : ∃ p3, (e1.ren (renP ((t + 2) :: q) ((s + 2) :: r))).at ((s + 2) :: r) = some (.al p3) ∧ (g.take ((t + 2) :: q) ((s + 2) :: r)).vm p3 = c := by
    simp only [Env.at, Env.get_ren] at hπ ⊢
    rcases sub_ren (f := renP ((t + 2) :: q) ((s + 2) :: r)) r hπ with h3 | h3
    · refine ⟨_, h3, ?_⟩
      simp only [renP, List.isPrefixOf_iff_prefix.2 (List.prefix_refl _), if_true, List.drop_length, List.append_nil]
      exact hvm2
    · exact ⟨_, h3, hvp⟩
  obtain ⟨p3, hat3, hv3⟩ := hat3
  refine ⟨_, hH.putSame hat3 (fun cs hcs => by cases hcs) (fun cs hcs => ?_) (fun c' hc' => ?_)⟩
  · cases hcs with
    | c hcs => cases hcs
    | al hs => rw [hv3]; exact .c hnew
  · rw [hc'.al_inv, hv3]; exact .one (by simp) (.c hnew)

theorem Holds.adopt (h : Holds w0 g0 e a w g) {p π : Path} {e' : Env} (ha : e.adopt p π = some e') : ∃ g', Holds w0 g0 e' a w g' := by
  unfold Env.adopt at ha
  split at ha
  · rename_i t q s r
    split at ha
    · cases ha
    · rename_i hts
      split at ha
      · rename_i z xs p' hat hat2
        split at ha
        · rename_i hp'
          subst hp'
          cases ha
          obtain ⟨c, hrow, hvm⟩ := h.at_ow hat
          have h1 := h.shed ((s + 2) :: r).isPrefixOf
          -- the owner, unless what it hangs on hid it
          have hsub : ∀ (bad : Path → Bool) (u : V), u = (if (e.get t).refs.any bad then V.un else e.get t) → (e.shed bad).get t = u := fun bad u hu => by rw [hu, Env.get_shed]
          by_cases hsh : (e.get t).refs.any ((s + 2) :: r).isPrefixOf = true
          · -- the owner's slot is forgotten as a whole
            have hgt : (e.shed ((s + 2) :: r).isPrefixOf).get t = .un := by rw [Env.get_shed, if_pos hsh]
            have hput : ((e.shed ((s + 2) :: r).isPrefixOf).putAt ((t + 2) :: q) .un).Eqv (e.shed ((s + 2) :: r).isPrefixOf) := by
              intro x
              rw [Env.putAt_get]
              simp only
              split
              · rename_i hx
                subst hx
                rw [hgt]
                cases q with
                | nil => rfl
                | cons j q => simp [V.put, V.kids]
              · rfl
            have h2 : Holds w0 g0 ((e.shed ((s + 2) :: r).isPrefixOf).putAt ((t + 2) :: q) .un) a w g := h1.congr hput.symm
            exact adopt_fin h2 hrow hvm hts (fun x hx => by rw [hput x]; exact fun r' hr' => Env.shed_refs hr') (by rw [hput.at]; exact hat2) (by
              rw [hput.at]
              simp only [Env.at, hgt]
              cases q with
              | nil => exact .inl rfl
              | cons j q => right; simp [V.sub, V.kids])
          · have hgt : (e.shed ((s + 2) :: r).isPrefixOf).at ((t + 2) :: q) = some (.ow z xs) := by
              simp only [Env.at, Env.get_shed, if_neg hsh] at hat ⊢
              exact hat
            have h2 := h1.putSame (u' := .un) hgt (fun cs hcs => by obtain ⟨c', rfl⟩ := hcs.width (by simp); exact .un) (fun _ _ => .un) (fun _ _ => .un)
            exact adopt_fin h2 hrow hvm hts (fun x hx r' hr' => by
              rcases Env.refs_putAt hr' with hr' | hr'
              · exact Env.shed_refs hr'
              · simp [V.refs] at hr') (by rw [Env.at_other]; exact hat2; all_goals (rintro ⟨y, hy⟩; simp at hy; omega)) (.inl (Env.at_putAt hgt))
        · cases ha
      · cases ha
  · cases ha
theorem Norm.adopt {p π : Path} {e' : Env} (ha : e.adopt p π = some e') : Norm w0 g0 n e e' := by
  intro a w hs
  obtain ⟨g, h⟩ := hs.holds
  obtain ⟨g', h'⟩ := h.adopt ha
  exact ⟨⟨g', h'.inj, h'.fr, h'.rep⟩, hs.defers, hs.size⟩

/-- The slot s, which names the variable that slot t owns, becomes its owner. -/
def Env.adoptB (e : Env) (t s : Nat) : Option Env :=
  if t = s then none else match (e.shed [s + 2].isPrefixOf).get t, (e.shed [s + 2].isPrefixOf).get s with
    | .bx cs, .ad p 0 => if p = [t + 2] then
        some ((((e.shed [s + 2].isPrefixOf).putAt [t + 2] .un).ren (renP [t + 2] [s + 2])).putAt [s + 2] (.bx (V.ren.go (renP [t + 2] [s + 2]) cs))) else none
    | _, _ => none

theorem adoptB_fin {t s : Nat} {cs : List V} {c : Value} {e1 : Env} (h2 : Holds w0 g0 e1 a w g) (hbox : RepO w g [t + 2] (.bx cs) [c]) (hts : ¬ t = s)
    (hrefs : ∀ x, True → ∀ r' ∈ (e1.get x).refs, [s + 2].isPrefixOf r' = false) (hrefs2 : ∀ r' ∈ (V.bx cs).refs, [s + 2].isPrefixOf r' = false) (hπ : e1.at [s + 2] = some (.ad [t + 2] 0)) (hp : e1.at [t + 2] = some .un ∨ e1.at [t + 2] = none) :
    ∃ g', Holds w0 g0 ((e1.ren (renP [t + 2] [s + 2])).putAt [s + 2] (.bx (V.ren.go (renP [t + 2] [s + 2]) cs))) a w g' := by
  have hπp : ∀ y : Path, ¬ [s + 2] <+: ((t + 2) :: y) := by rintro y ⟨x, hx⟩; simp at hx; omega
  have hren : ∀ (r' : Path), [s + 2].isPrefixOf r' = false → (g.take [t + 2] [s + 2]).vm (renP [t + 2] [s + 2] r') = g.vm r' := by
    intro r' hr'
    unfold renP
    split
    · rename_i hpre
      obtain ⟨l, rfl⟩ := List.isPrefixOf_iff_prefix.1 hpre
      rw [List.drop_left, Gh.take_vm']
    · refine Gh.take_vm (fun hpre => ?_)
      rw [List.isPrefixOf_iff_prefix.2 hpre] at hr'
      cases hr'
  have hH : Holds w0 g0 (e1.ren (renP [t + 2] [s + 2])) a w (g.take [t + 2] [s + 2]) := by
    refine ⟨⟨fun b b' y hb hb' => ?_, fun b y hb => ?_⟩, ⟨h2.fr.os, h2.fr.tape, h2.fr.output, h2.fr.size, fun b hb hk => ?_, fun y => ?_⟩, fun x => ?_⟩
    · rcases Gh.take_inv hb with ⟨y1, k1, rfl⟩ | ⟨k1, k2, k3⟩
      · rcases Gh.take_inv hb' with ⟨y2, k1', e2⟩ | ⟨k1', k2', k3'⟩
        · rw [List.append_cancel_left_eq] at e2; subst e2; exact h2.inj.1 b b' _ k1 k1'
        · exact (k3' (List.prefix_append _ _)).elim
      · rcases Gh.take_inv hb' with ⟨y2, k1', rfl⟩ | ⟨k1', k2', k3'⟩
        · exact (k3 (List.prefix_append _ _)).elim
        · exact h2.inj.1 b b' _ k1 k1'
    · rcases Gh.take_inv hb with ⟨y1, k1, rfl⟩ | ⟨k1, k2, k3⟩ <;> exact h2.inj.2 b _ k1
    · obtain ⟨k1, k2⟩ := h2.fr.keep b hb hk
      refine ⟨?_, k2⟩
      rcases hk with hk | ⟨y, hk⟩
      · rw [hk] at k1 ⊢; exact Gh.take_none k1
      · rw [hk] at k1 ⊢; exact Gh.take_other k1 (not_pre0 (by omega) _) (not_pre0 (by omega) _)
    · rw [Gh.take_vm (not_pre0 (by omega) _)]; exact h2.fr.vm0 y
    · rw [Env.get_ren]
      have hbelow : ∀ (t0 : Nat) (y : Path) (u u0 : V), (e1.at [t0 + 2] = some u0 ∨ e1.at [t0 + 2] = none) → u0.kids = [] → u0.owns = false → (e1.get x).sub y = some u → u.owns = true → ¬ [t0 + 2] <+: ([x + 2] ++ y) := by
        rintro t0 y u u0 hu0 hk0 ho0 hy ho ⟨l, hl⟩
        simp at hl
        obtain ⟨rfl, rfl⟩ := hl
        rcases hu0 with hu0 | hu0
        · simp only [Env.at, V.sub] at hu0
          cases hu0
          cases l with
          | nil => simp [V.sub] at hy; subst hy; rw [ho0] at ho; cases ho
          | cons j l => simp [V.sub, hk0] at hy
        · simp [Env.at, V.sub] at hu0
      refine (h2.rep x).live ⟨Nat.le_refl _, fun b _ hb => ⟨Gh.take_none hb, rfl⟩⟩ ⟨fun y u hy ho b hb => ⟨Gh.take_other hb ?_ ?_, rfl⟩, fun y u hy ho => Gh.take_vm ?_⟩ (fun r' hr' => hren r' (hrefs x trivial r' hr'))
      · exact hbelow t y u .un hp rfl rfl hy ho
      · exact hbelow s y u _ (.inl hπ) rfl rfl hy ho
      · exact hbelow s y u _ (.inl hπ) rfl rfl hy ho
  have hnew : RepO w (g.take [t + 2] [s + 2]) [s + 2] (.bx (V.ren.go (renP [t + 2] [s + 2]) cs)) [c] := by
    have := hbox.live (f := renP [t + 2] [s + 2]) (w' := w) (g' := g.take [t + 2] [s + 2]) (ρ := [s + 2]) ⟨Nat.le_refl _, fun b _ hb => ⟨Gh.take_none hb, rfl⟩⟩
      ⟨fun y u _ _ b hb => ⟨Gh.take_under hb, rfl⟩, fun y u _ _ => Gh.take_vm'⟩ (fun r' hr' => hren r' (hrefs2 r' hr'))
    exact this
  have hat3 : (e1.ren (renP [t + 2] [s + 2])).at [s + 2] = some (.ad [s + 2] 0) := by
    simp only [Env.at, V.sub, Env.get_ren] at hπ ⊢
    cases hg : e1.get s <;> rw [hg] at hπ <;> simp at hπ
    obtain ⟨rfl, rfl⟩ := hπ
    simp [V.ren, renP]
  have key : ∀ cs', RepO w (g.take [t + 2] [s + 2]) [s + 2] (.ad [s + 2] 0) cs' → cs' = [c] := by
    intro cs' hcs
    cases hcs with
    | c hcs => cases hcs
    | ad blk o hb =>
      cases hnew with
      | c hn => cases hn
      | bx blk' cur ty hl hv hb' hn hk =>
        rw [hv] at hb
        simp [baseOf] at hb
        obtain ⟨rfl, rfl⟩ := hb
        rfl
  refine ⟨_, hH.putSame hat3 (fun cs hcs => by cases hcs) (fun cs' hcs => ?_) (fun c' hc' => ?_)⟩
  · rw [key cs' hcs]; exact hnew
  · cases hc' with
    | one _ hc' =>
      have := key _ hc'
      simp at this
      subst this
      exact .one (by simp) hnew

theorem Holds.adoptB (h : Holds w0 g0 e a w g) {t s : Nat} {e' : Env} (ha : e.adoptB t s = some e') : ∃ g', Holds w0 g0 e' a w g' := by
  unfold Env.adoptB at ha
  split at ha
  · cases ha
  · rename_i hts
    split at ha
    · rename_i cs p hgt hgs
      split at ha
      · rename_i hp
        subst hp
        cases ha
        have h1 := h.shed [s + 2].isPrefixOf
        have hat : (e.shed [s + 2].isPrefixOf).at [t + 2] = some (.bx cs) := by simp [Env.at, V.sub, hgt]
        have h2 := h1.putSame (u' := .un) hat (fun cs hcs => by cases hcs) (fun _ _ => .un) (fun _ _ => .un)
        obtain ⟨c, hbox⟩ : ∃ c, RepO w g [t + 2] (.bx cs) [c] := by
          have := h1.rep t
          rw [hgt] at this
          cases this with
          | one _ h => exact ⟨_, h⟩
        refine adoptB_fin h2 hbox hts (fun x hx r' hr' => ?_) (fun r' hr' => ?_) ?_ (.inl (Env.at_putAt hat))
        · rcases Env.refs_putAt hr' with hr' | hr'
          · exact Env.shed_refs hr'
          · simp [V.refs] at hr'
        · rw [← hgt] at hr'; exact Env.shed_refs hr'
        · rw [Env.at_other]
          · simp [Env.at, V.sub, hgs]
          all_goals (rintro ⟨y, hy⟩; simp at hy; omega)
      · cases ha
    · cases ha
theorem Norm.adoptB {t s : Nat} {e' : Env} (ha : e.adoptB t s = some e') : Norm w0 g0 n e e' := by
  intro a w hs
  obtain ⟨g, h⟩ := hs.holds
  obtain ⟨g', h'⟩ := h.adoptB ha
  exact ⟨⟨g', h'.inj, h'.fr, h'.rep⟩, hs.defers, hs.size⟩

end
end Go.Vx

namespace Go.Vx
open Go Go.RowKit Go.Great

theorem Moves.trans {w w' w2 : World} {g g' g2 : Gh} {π ρ τ : Path} (h : Moves w g w' g' π ρ) (k : Moves w' g' w2 g2 ρ τ) : Moves w g w2 g2 π τ := by
  refine ⟨Nat.le_trans h.size k.size, fun b hb hl => ?_, fun b p hb => ?_, fun p => (k.vm p).trans (h.vm p)⟩
  · obtain ⟨h1, h2⟩ := h.imm b hb hl
    obtain ⟨k1, k2⟩ := k.imm b (Nat.lt_of_lt_of_le hb h.size) h1
    exact ⟨k1, k2.trans h2⟩
  · obtain ⟨h1, h2⟩ := h.own b p hb
    obtain ⟨k1, k2⟩ := k.own b p h1
    exact ⟨k1, k2.trans h2⟩

theorem Inj.take {w : World} {g : Gh} (h : Inj g w) (p π : Path) : Inj (g.take p π) w := by
  refine ⟨fun b b' y hb hb' => ?_, fun b y hb => ?_⟩
  · rcases Gh.take_inv hb with ⟨y1, k1, rfl⟩ | ⟨k1, k2, k3⟩
    · rcases Gh.take_inv hb' with ⟨y2, k1', e2⟩ | ⟨k1', k2', k3'⟩
      · rw [List.append_cancel_left_eq] at e2; subst e2; exact h.1 b b' _ k1 k1'
      · exact (k3' (List.prefix_append _ _)).elim
    · rcases Gh.take_inv hb' with ⟨y2, k1', rfl⟩ | ⟨k1', k2', k3'⟩
      · exact (k3 (List.prefix_append _ _)).elim
      · exact h.1 b b' _ k1 k1'
  · rcases Gh.take_inv hb with ⟨y1, k1, rfl⟩ | ⟨k1, k2, k3⟩ <;> exact h.2 b _ k1

def Apart (p q : Path) : Prop := ¬ p <+: q ∧ ¬ q <+: p
theorem Apart.symm {p q : Path} (h : Apart p q) : Apart q p := ⟨h.2, h.1⟩
theorem Apart.app {p q : Path} (h : Apart p q) (r : Path) : ¬ p <+: q ++ r := fun hp => (prefix_either hp).elim h.1 h.2

theorem take_moves {w : World} {g : Gh} {p π : Path} : Moves w g w (g.take p π) p π :=
  ⟨Nat.le_refl _, fun b _ hb => ⟨Gh.take_none hb, rfl⟩, fun b q hb => ⟨Gh.take_under hb, rfl⟩, fun q => Gh.take_vm'⟩

theorem take_moves_other {w : World} {g : Gh} {p π τ : Path} (h1 : Apart p τ) (h2 : Apart π τ) : Moves w g w (g.take p π) τ τ :=
  ⟨Nat.le_refl _, fun b _ hb => ⟨Gh.take_none hb, rfl⟩, fun b q hb => ⟨Gh.take_other hb (h1.app q) (h2.app q), rfl⟩, fun q => Gh.take_vm (h2.app q)⟩

/-- Several places are sent elsewhere. -/
theorem sends {w : World} : ∀ (S : List (Path × Path)) (g : Gh), Inj g w → S.Pairwise (fun x y => Apart x.1 y.1 ∧ Apart x.2 y.2) → (∀ x ∈ S, ∀ y ∈ S, Apart x.1 y.2) →
    ∃ g', Inj g' w ∧ (∀ b, g.lab b = none → g'.lab b = none) ∧ (∀ b q, g.lab b = some q → (∀ x ∈ S, ¬ x.1 <+: q ∧ ¬ x.2 <+: q) → g'.lab b = some q) ∧
      (∀ q, (∀ x ∈ S, ¬ x.2 <+: q) → g'.vm q = g.vm q) ∧ (∀ x ∈ S, Moves w g w g' x.1 x.2)
  | [], g, h, _, _ => ⟨g, h, fun _ h => h, fun _ _ h _ => h, fun _ _ => rfl, by simp⟩
  | (σ, ρ) :: S, g, h, hpw, hx => by
    obtain ⟨hp1, hp2⟩ := List.pairwise_cons.1 hpw
    obtain ⟨g', k1, k2, k3, k4, k5⟩ := sends S (g.take σ ρ) (h.take σ ρ) hp2 (fun x hxS y hyS => hx x (List.mem_cons_of_mem _ hxS) y (List.mem_cons_of_mem _ hyS))
    refine ⟨g', k1, fun b hb => k2 b (Gh.take_none hb), fun b q hb hq => ?_, fun q hq => ?_, fun x hxS => ?_⟩
    · obtain ⟨q1, q2⟩ := hq _ (List.mem_cons_self ..)
      exact k3 b q (Gh.take_other hb q1 q2) (fun x hxS => hq x (List.mem_cons_of_mem _ hxS))
    · rw [k4 q (fun x hxS => hq x (List.mem_cons_of_mem _ hxS)), Gh.take_vm (hq _ (List.mem_cons_self ..))]
    · rcases List.mem_cons.1 hxS with rfl | hxS
      · refine take_moves.trans ⟨Nat.le_refl _, fun b _ hb => ⟨k2 b hb, rfl⟩, fun b q hb => ⟨k3 b _ hb (fun x hxS => ⟨?_, ?_⟩), rfl⟩, fun q => k4 _ (fun x hxS => ?_)⟩
        · exact (hx x (List.mem_cons_of_mem _ hxS) _ (List.mem_cons_self ..)).app q
        · exact (hp1 x hxS).2.symm.app q
        · exact (hp1 x hxS).2.symm.app q
      · exact (take_moves_other (hp1 x hxS).1 (hx x (List.mem_cons_of_mem _ hxS) _ (List.mem_cons_self ..)).symm).trans (k5 x hxS)

/-- The parameters' slots at the begin. -/
def envOf : Nat → List V → Env
  | _, [] => []
  | k, v :: r => (k, v) :: envOf (k + 1) r

theorem envOf_get : ∀ (vs : List V) (k t : Nat), (envOf k vs).get t = if k ≤ t then (vs[t - k]?).getD .un else .un
  | [], k, t => by simp [envOf, Env.get]
  | v :: r, k, t => by
    simp only [envOf, Env.get]
    by_cases h : k = t
    · subst h; simp
    · simp only [h, if_false, envOf_get r]
      by_cases h2 : k + 1 ≤ t
      · rw [if_pos h2, if_pos (by omega), show t - k = (t - (k + 1)) + 1 by omega]; simp
      · rw [if_neg h2, if_neg (by omega)]

/-- What a result is, and where it stands. -/
def resV (P : Program) (e : Env) : ResultVar → Option (V × Path)
  | .tmp t => if (e.get t).refs.isEmpty then some (e.get t, [t + 2]) else none
  | .cell a ty => match tinfo P ty, e.get a with
    | .bad, _ => none
    | ti, .bx cs => if (V.refs.go cs).isEmpty then (match ti.cells with
      | some n => if cs.length = n then some (.ag cs, [a + 2]) else none
      | none => match cs with
        | [.ag _] => none
        | [.tp _] => none
        | [.un] => none
        | [c] => some (c, [a + 2, 0])
        | _ => none) else none
    | _, _ => none

def slotOf : ResultVar → Nat
  | .tmp t => t
  | .cell a _ => a

def resAll (P : Program) (e : Env) : List ResultVar → Option (List (V × Path))
  | [] => some []
  | r :: rs => match resV P e r, resAll P e rs with
    | some x, some xs => some (x :: xs)
    | _, _ => none

def resOf : List V → V
  | [v] => v
  | vs => .tp vs

def distinct : List Nat → Bool
  | [] => true
  | x :: r => !r.contains x && distinct r

/-- How a walk ends: the results, and what has become of what was handed over. -/
def Ret (P : Program) (rs : Array ResultVar) (pins : List Nat) (res : V) (outs : List V) (e : Env) : Prop :=
  (∃ xs, resAll P e rs.toList = some xs ∧ resOf (xs.map (·.1)) = res) ∧ distinct (rs.toList.map slotOf ++ pins) = true ∧
    ∀ (j : Nat) (x : V), outs[j]? = some x → x = .un ∨ j ∈ pins ∧ e.get j = x ∧ x.refs = []

def retQ (P : Program) (rs : Array ResultVar) (pins : List Nat) (res : V) (outs : List V) (x : Exit) (e : Env) : Prop :=
  (x = .normal ∨ x = .ret) ∧ Ret P rs pins res outs e

section
variable {P : Program} {w0 w : World} {g0 g : Gh} {n : Nat} {e : Env} {a : Act}

theorem resV_ok (h : Holds w0 g0 e a w g) {r : ResultVar} {v : V} {σ : Path} (hv : resV P e r = some (v, σ)) :
    ∃ c, (match r with
      | .tmp t => pure (a.tmps.getD t undef)
      | .cell x t => do loadVar t (← asAddr (a.tmps.getD x undef)) : Sem Value).run P w = .ok c w ∧ v.refs = [] ∧ (∃ q, σ = (slotOf r + 2) :: q) ∧
        ∀ (g' : Gh) (ρ : Path), Moves w g w g' σ ρ → RepS w g' ρ v c := by
  cases r with
  | tmp t =>
    simp only [resV] at hv
    split at hv
    · rename_i hr
      cases hv
      have hr' : (e.get t).refs = [] := by simpa using hr
      exact ⟨_, rfl, hr', ⟨[], rfl⟩, fun g' ρ m => (h.rep t).moves m (fun r hr2 => by rw [hr'] at hr2; cases hr2)⟩
    · cases hv
  | cell x ty =>
    simp only [resV] at hv
    split at hv
    · cases hv
    · rename_i cs hbx hbad
      have hne : tinfo P ty ≠ .bad := hbad
      split at hv
      · rename_i hr
        have hr' : V.refs.go cs = [] := by simpa using hr
        have hrep := h.rep x
        rw [hbx] at hrep
        have hO := hrep.cell (by simp) (by simp) (by simp)
        generalize hval : a.tmps.getD x undef = cv at hO
        cases hO with
        | c h' => cases h'
        | bx blk cur tyb hl hvm hb hn hk =>
          have hcell : ∀ q u, cur.toList[q]? = some u → w.cell? ⟨blk, 0 + q, none⟩ = some u := by
            intro q u hq
            rw [cell_of_heap hb, Nat.zero_add]
            simpa using hq
          split at hv
          · rename_i k hk2
            split at hv
            · rename_i hlen
              cases hv
              obtain ⟨j, hj, hjk⟩ := tinfo_cells hk2
              have hL := run_loadCells_at (P := P) hcell
              rw [show cur.toList.length = k by simp; omega] at hL
              refine ⟨.agg cur.toList.toArray, ?_, by simp only [V.refs]; exact hr', ⟨[], rfl⟩, fun g' ρ m => .agg (.ag (by simpa using hn) (fun f y u hy hu => ?_))⟩
              · simp only [hval, asAddr, loadVar, Sem.run_bind, Sem.run_pure, Result.andThen_ok, run_isAgg w hne, hk2, Option.isSome_some, if_true, run_sizeOf' w hj, hjk, hL]
              · exact (hk f y u hy (by simpa using hu)).moves (m.sub [f]) (fun r hr2 => by rw [refs_nil hr' hy] at hr2; cases hr2)
            · cases hv
          · rename_i hk2
            split at hv
            · cases hv
            · cases hv
            · cases hv
            · rename_i c1 na nt nu
              cases hv
              have h1 : cur.size = 1 := by simpa using hn.symm
              obtain ⟨u, hu⟩ : ∃ u, cur[0]? = some u := ⟨cur[0], by simp [h1]⟩
              have h0 := hcell 0 u (by simpa using hu)
              refine ⟨u, ?_, refs_nil hr' (f := 0) rfl, ⟨[0], rfl⟩, fun g' ρ m => .one (fun cs e => na cs (by rw [e])) ((hk 0 v u rfl hu).moves m (fun r hr2 => by rw [refs_nil hr' (f := 0) rfl] at hr2; cases hr2))⟩
              simp only [hval, asAddr, loadVar, Sem.run_bind, Sem.run_pure, Result.andThen_ok, run_isAgg w hne, hk2, Option.isSome_none, Bool.false_eq_true, if_false]
              rw [run_load]
              simp only [Nat.add_zero] at h0
              rw [h0]
            · cases hv
      · cases hv
    · cases hv

theorem resAll_ok (h : Holds w0 g0 e a w g) : ∀ {rs : List ResultVar} {xs : List (V × Path)}, resAll P e rs = some xs →
    ∃ cs : List Value, (rs.mapM (m := Sem) fun
      | .tmp t => pure (a.tmps.getD t undef)
      | .cell x t => do loadVar t (← asAddr (a.tmps.getD x undef))).run P w = .ok cs w ∧ cs.length = xs.length ∧ rs.length = xs.length ∧
      ∀ (i : Nat) (v : V) (σ : Path), xs[i]? = some (v, σ) → ∃ c r, cs[i]? = some c ∧ rs[i]? = some r ∧ v.refs = [] ∧ (∃ q, σ = (slotOf r + 2) :: q) ∧ ∀ (g' : Gh) (ρ : Path), Moves w g w g' σ ρ → RepS w g' ρ v c
  | [], xs, hx => by
    simp only [resAll, Option.some.injEq] at hx
    subst hx
    exact ⟨[], by simp, rfl, rfl, by simp⟩
  | r :: rs, xs, hx => by
    simp only [resAll] at hx
    split at hx
    · rename_i x xs' h1 h2
      cases hx
      obtain ⟨v, σ⟩ := x
      obtain ⟨c, k1, k2, k3, k4⟩ := resV_ok h h1
      obtain ⟨cs, m1, m2, m3, m4⟩ := resAll_ok h h2
      refine ⟨c :: cs, ?_, by simp [m2], by simp [m3], fun i v' σ' hi => ?_⟩
      · rw [List.mapM_cons]
        simp only [Sem.run_bind, k1, Result.andThen_ok, m1, Sem.run_pure]
      · cases i with
        | zero => simp at hi; obtain ⟨rfl, rfl⟩ := hi; exact ⟨c, r, rfl, rfl, k2, k3, k4⟩
        | succ i => simp at hi; obtain ⟨c', r', n1, n2, n3⟩ := m4 i v' σ' hi; exact ⟨c', r', by simpa using n1, by simpa using n2, n3⟩
    · cases hx

end
end Go.Vx

namespace Go.Vx
open Go Go.RowKit Go.Great

theorem distinct_nodup : ∀ {l : List Nat}, distinct l = true → l.Nodup
  | [], _ => List.nodup_nil
  | x :: r, h => by
    simp only [distinct, Bool.and_eq_true, Bool.not_eq_true', List.contains_eq_mem, decide_eq_false_iff_not] at h
    exact List.nodup_cons.2 ⟨h.1, distinct_nodup h.2⟩

theorem apart_heads {x y : Nat} {p q : Path} (h : x ≠ y) : Apart (x :: p) (y :: q) := by
  constructor
  · rintro ⟨r, hr⟩; simp at hr; exact h hr.1
  · rintro ⟨r, hr⟩; simp at hr; exact h hr.1.symm

theorem vow_intro {P : Program} {f : FuncId} {fn : Func} {cd : Code} {ins : List V} {res : V} {outs : List V} (pins : List Nat)
    (hf : P.funcs[f]? = some fn) (hname : fn.name ≠ "runtime.NumGoroutine") (hbody : fn.body = some cd) (hlen : ins.length ≤ fn.ntmps) (hpins : pins.all (fun j => j < ins.length) = true)
    (hJ : ∀ k : Ctx, k.n = fn.ntmps → k.pins = pins → J P k cd (envOf 0 ins) (retQ P fn.results pins res outs)) : Vow P f ins res outs := by
  refine ⟨⟨fn, cd, hf, hname, hbody⟩, ?_⟩
  intro w g args hin hsz hheads hargs
  refine calls_of_wp hf hbody ?_
  have hslot : ∀ t, (args ++ Array.replicate (fn.ntmps - args.size) undef).getD t undef = args.getD t undef := by
    intro t
    simp only [Array.getD_eq_getD_getElem?, Array.getElem?_append, Array.getElem?_replicate]
    split
    · rfl
    · rename_i ht
      rw [Array.getElem?_eq_none (by omega)]
      split <;> rfl
  have hsim : (Ctx.mk w g fn.ntmps pins (fun t => args.getD t undef)).sim (envOf 0 ins) { tmps := args ++ Array.replicate (fn.ntmps - args.size) undef, defers := [] } w := by
    refine ⟨⟨⟨g, hin, Fr.refl w g, fun t => ?_⟩, rfl, by simp; omega⟩, fun t _ => hslot t⟩
    rw [envOf_get]
    simp only [Nat.zero_le, if_true, Nat.sub_zero]
    show RepS w g [t + 2] _ ((args ++ Array.replicate (fn.ntmps - args.size) undef).getD t undef)
    rw [hslot]
    cases ht : ins[t]? with
    | none => exact .un
    | some x =>
      have hlt := (List.getElem?_eq_some_iff.1 ht).1
      have hat : args[t]? = some args[t] := Array.getElem?_eq_getElem (by omega)
      have := hargs t x args[t] ht hat
      rw [Array.getD_eq_getD_getElem?, hat]
      exact this
  refine wp_mono (hJ (Ctx.mk w g fn.ntmps pins (fun t => args.getD t undef)) rfl rfl _ w hsim) ?_
  rintro x a' w' ⟨e, ⟨hx, ⟨xs, hxs, hres⟩, hdist, houts⟩, hs, hpin⟩
  obtain ⟨g1, h⟩ := hs.holds
  obtain ⟨cs, m1, m2, m3, m4⟩ := resAll_ok h hxs
  obtain ⟨ρ, hρ⟩ : ∃ ρ : Nat → Path, ρ = fun i => if xs.length = 1 then [1] else [1, i] := ⟨_, rfl⟩
  obtain ⟨S, hS⟩ : ∃ S : List (Path × Path), S = xs.mapIdx (fun i x => (x.2, ρ i)) := ⟨_, rfl⟩
  have hSget : ∀ i y, S[i]? = some y → ∃ v σ r, xs[i]? = some (v, σ) ∧ y = (σ, ρ i) ∧ fn.results.toList[i]? = some r ∧ ∃ q, σ = (slotOf r + 2) :: q := by
    intro i y hy
    rw [hS, List.getElem?_mapIdx, Option.map_eq_some_iff] at hy
    obtain ⟨⟨v, σ⟩, h1, rfl⟩ := hy
    obtain ⟨c, r, _, h2, _, h3, _⟩ := m4 i v σ h1
    exact ⟨v, σ, r, h1, rfl, h2, h3⟩
  have hnd := distinct_nodup hdist
  have hρhead : ∀ i, ∃ q, ρ i = 1 :: q := by
    intro i
    rw [hρ]
    by_cases h1 : xs.length = 1
    · simp only [h1, if_true]; exact ⟨[], rfl⟩
    · simp only [h1, if_false]; exact ⟨[i], rfl⟩
  have hpw : S.Pairwise (fun x y => Apart x.1 y.1 ∧ Apart x.2 y.2) := by
    rw [List.pairwise_iff_getElem]
    intro i j hi hj hij
    obtain ⟨v, σ, r, h1, h2, h3, q, h4⟩ := hSget i S[i] (List.getElem?_eq_getElem hi)
    obtain ⟨v', σ', r', h1', h2', h3', q', h4'⟩ := hSget j S[j] (List.getElem?_eq_getElem hj)
    rw [h2, h2', h4, h4']
    have hne : slotOf r ≠ slotOf r' := by
      intro he
      have hnd1 := (List.nodup_append.1 hnd).1
      have hri := (List.getElem?_eq_some_iff.1 h3).1
      have hrj := (List.getElem?_eq_some_iff.1 h3').1
      have := (List.pairwise_iff_getElem.1 hnd1) i j (by simpa using hri) (by simpa using hrj) hij
      have e1 := (List.getElem?_eq_some_iff.1 h3).2
      have e2 := (List.getElem?_eq_some_iff.1 h3').2
      rw [List.getElem_map, List.getElem_map, e1, e2] at this
      exact this he
    refine ⟨apart_heads (by omega), ?_⟩
    have hl : xs.length ≠ 1 := by
      have := (List.getElem?_eq_some_iff.1 h1').1
      omega
    simp only [hρ, hl, if_false]
    constructor <;> (rintro ⟨l, hl⟩; simp at hl; omega)
  have hcross : ∀ x ∈ S, ∀ y ∈ S, Apart x.1 y.2 := by
    intro x hx y hy
    obtain ⟨i, hi⟩ := List.getElem?_of_mem hx
    obtain ⟨j, hj⟩ := List.getElem?_of_mem hy
    obtain ⟨v, σ, r, h1, rfl, h3, q, h4⟩ := hSget i x hi
    obtain ⟨v', σ', r', h1', rfl, h3', q', h4'⟩ := hSget j y hj
    obtain ⟨l, hl⟩ := hρhead j
    simp only [h4, hl]
    exact apart_heads (by omega)
  obtain ⟨g', k1, k2, k3, k4, k5⟩ := sends S g1 h.inj hpw hcross
  have hSx : ∀ x ∈ S, (∃ r q, r ∈ fn.results.toList ∧ x.1 = (slotOf r + 2) :: q) ∧ ∃ q, x.2 = 1 :: q := by
    intro x hx
    obtain ⟨i, hi⟩ := List.getElem?_of_mem hx
    obtain ⟨v, σ, r, h1, rfl, h3, q, h4⟩ := hSget i x hi
    exact ⟨⟨r, q, List.mem_of_getElem? h3, h4⟩, hρhead i⟩
  have hrun : (results fn a'.tmps).run P w' = .ok (if cs.length = 1 then cs.getD 0 undef else .tuple cs.toArray) w' := by
    unfold results
    rw [Array.mapM_eq_mapM_toList]
    rw [Sem.run_bind, Sem.run_map]
    erw [m1]
    simp only [Result.andThen_ok, Sem.run_pure]
    by_cases h1 : cs.length = 1
    · obtain ⟨c, rfl⟩ := List.length_eq_one_iff.1 h1
      simp
    · simp [h1]
  have hfin : ∃ c g', (Ending.returned (if cs.length = 1 then cs.getD 0 undef else .tuple cs.toArray)) = .returned c ∧ Inj g' w' ∧ Fr w g w' g' ∧ RepS w' g' [1] res c ∧
      ∀ (j : Nat) (x : V) (c : Value), outs[j]? = some x → args[j]? = some c → RepS w' g' [j + 2] x c := by
    refine ⟨_, g', rfl, k1, ⟨h.fr.os, h.fr.tape, h.fr.output, h.fr.size, fun b hb hk => ?_, fun p => ?_⟩, ?_, fun j x c hj hc => ?_⟩
    · obtain ⟨l1, l2⟩ := h.fr.keep b hb hk
      refine ⟨?_, l2⟩
      rcases hk with hk | ⟨q, hk⟩
      · rw [hk] at l1 ⊢; exact k2 b l1
      · rw [hk] at l1 ⊢
        refine k3 b _ l1 (fun x hx => ?_)
        obtain ⟨⟨r, q1, _, e1⟩, q2, e2⟩ := hSx x hx
        rw [e1, e2]
        exact ⟨not_pre0 (by omega) _, not_pre0 (by omega) _⟩
    · rw [k4 _ (fun x hx => by obtain ⟨_, q2, e2⟩ := hSx x hx; rw [e2]; exact not_pre0 (by omega) _)]
      exact h.fr.vm0 p
    · rw [← hres]
      by_cases h1 : cs.length = 1
      · rw [if_pos h1]
        rw [m2] at h1
        obtain ⟨⟨v, σ⟩, rfl⟩ := List.length_eq_one_iff.1 h1
        obtain ⟨c, r, n1, n2, n3, n4, n5⟩ := m4 0 v σ rfl
        have hm := k5 (σ, ρ 0) (by rw [hS]; simp)
        have hr0 : ρ 0 = [1] := by rw [hρ]; rfl
        rw [hr0] at hm
        have : cs.getD 0 undef = c := by rw [List.getD_eq_getElem?_getD, n1]; rfl
        rw [this]
        exact n5 g' [1] hm
      · rw [if_neg h1]
        have hl : xs.length ≠ 1 := by omega
        have hres2 : resOf (xs.map (·.1)) = .tp (xs.map (·.1)) := by
          match xs, hl with
          | [], _ => rfl
          | [x], hl => exact (hl rfl).elim
          | x :: y :: r, _ => rfl
        rw [hres2]
        refine .tup (by simp; omega) (fun i v c hv hc => ?_)
        simp only [List.getElem?_map, Option.map_eq_some_iff] at hv
        obtain ⟨⟨v', σ⟩, hvx, rfl⟩ := hv
        obtain ⟨c', r, n1, n2, n3, n4, n5⟩ := m4 i v' σ hvx
        have hc' : c' = c := by
          simp only [List.getElem?_toArray] at hc
          rw [n1] at hc
          exact Option.some.inj hc
        subst hc'
        have hm := k5 (σ, ρ i) (by rw [hS]; exact List.mem_of_getElem? (i := i) (by rw [List.getElem?_mapIdx, hvx]; rfl))
        have hr0 : ρ i = [1] ++ [i] := by rw [hρ]; simp [hl]
        rw [hr0] at hm
        exact n5 g' _ hm
    · rcases houts j x hj with rfl | ⟨hjp, hget, hrefs⟩
      · exact .un
      · have hrep := h.rep j
        rw [hget, hpin j hjp] at hrep
        simp only [Array.getD_eq_getD_getElem?, hc, Option.getD_some] at hrep
        have hout : ∀ y ∈ S, Apart y.1 [j + 2] ∧ Apart y.2 [j + 2] := by
          intro y hy
          obtain ⟨⟨r, q1, hr, e1⟩, q2, e2⟩ := hSx y hy
          rw [e1, e2]
          refine ⟨apart_heads ?_, apart_heads (by omega)⟩
          intro he
          have hne : slotOf r = j := by omega
          exact (List.nodup_append.1 hnd).2.2 _ (List.mem_map.2 ⟨r, hr, rfl⟩) j hjp hne
        exact hrep.moves ⟨Nat.le_refl _, fun b _ hb => ⟨k2 b hb, rfl⟩, fun b q hb => ⟨k3 b _ hb (fun y hy => ⟨(hout y hy).1.app q, (hout y hy).2.app q⟩), rfl⟩, fun q => k4 _ (fun y hy => (hout y hy).2.app q)⟩
          (fun r hr => by rw [hrefs] at hr; cases hr)
  rcases hx with rfl | rfl
  · exact ⟨hs.defers, _, hrun, hfin⟩
  · exact ⟨hs.defers, _, hrun, hfin⟩

end Go.Vx

namespace Go.Vx
open Go Go.RowKit Go.Great

/-- One of two values, as c tells: the same shape, or nothing. -/
def V.mix (c : Bool) : V → V → Option V
  | .i k x, .i k' y => if k = k' then some (.i k (cond c x y)) else none
  | .b x, .b y => some (.b (cond c x y))
  | .s x, .s y => some (.s (cond c x y))
  | .sl x, .sl y => some (.sl (cond c x y))
  | .ow z x, .ow z' y => if z = z' then some (.ow z (cond c x y)) else none
  | .ag x, .ag y => (go x y).map .ag
  | .bx x, .bx y => (go x y).map .bx
  | .tp x, .tp y => (go x y).map .tp
  | .al p, .al q => if p = q then some (.al p) else none
  | .hd p z x1 x2, .hd p' z' y1 y2 => if p = p' ∧ z = z' then some (.hd p z (cond c x1 y1) (cond c x2 y2)) else none
  | .ad p x, .ad p' y => if p = p' ∧ x = y then some (.ad p x) else none
  | .np, .np => some .np
  | .nl, .nl => some .nl
  | .fn x, .fn y => if x = y then some (.fn x) else none
  | .un, .un => some .un
  | _, _ => none
where go : List V → List V → Option (List V)
  | [], [] => some []
  | x :: xs, y :: ys => match V.mix c x y, go xs ys with
    | some u, some us => some (u :: us)
    | _, _ => none
  | _, _ => none

mutual
theorem V.mix_eq (c : Bool) : ∀ (x y u : V), V.mix c x y = some u → u = if c then x else y
  | .ag x, y, u, h => by
    cases y <;> simp only [V.mix, reduceCtorEq, Option.map_eq_some_iff] at h
    obtain ⟨us, h1, rfl⟩ := h
    rw [V.mix_go_eq c x _ us h1]; cases c <;> rfl
  | .bx x, y, u, h => by
    cases y <;> simp only [V.mix, reduceCtorEq, Option.map_eq_some_iff] at h
    obtain ⟨us, h1, rfl⟩ := h
    rw [V.mix_go_eq c x _ us h1]; cases c <;> rfl
  | .tp x, y, u, h => by
    cases y <;> simp only [V.mix, reduceCtorEq, Option.map_eq_some_iff] at h
    obtain ⟨us, h1, rfl⟩ := h
    rw [V.mix_go_eq c x _ us h1]; cases c <;> rfl
  | .i k x, y, u, h => by
    cases y <;> simp only [V.mix, reduceCtorEq] at h
    split at h <;> simp_all <;> subst h <;> cases c <;> simp_all
  | .ow k x, y, u, h => by
    cases y <;> simp only [V.mix, reduceCtorEq] at h
    split at h <;> simp_all <;> subst h <;> cases c <;> simp_all
  | .al x, y, u, h => by
    cases y <;> simp only [V.mix, reduceCtorEq] at h
    split at h <;> simp_all <;> subst h <;> cases c <;> simp_all
  | .fn x, y, u, h => by
    cases y <;> simp only [V.mix, reduceCtorEq] at h
    split at h <;> simp_all <;> subst h <;> cases c <;> simp_all
  | .hd _ _ _ _, y, u, h => by
    cases y <;> simp only [V.mix, reduceCtorEq] at h
    split at h <;> simp_all <;> subst h <;> cases c <;> simp_all
  | .ad _ _, y, u, h => by
    cases y <;> simp only [V.mix, reduceCtorEq] at h
    split at h <;> simp_all <;> subst h <;> cases c <;> simp_all
  | .b x, y, u, h => by cases y <;> simp only [V.mix, reduceCtorEq, Option.some.injEq] at h; subst h; cases c <;> rfl
  | .s x, y, u, h => by cases y <;> simp only [V.mix, reduceCtorEq, Option.some.injEq] at h; subst h; cases c <;> rfl
  | .sl x, y, u, h => by cases y <;> simp only [V.mix, reduceCtorEq, Option.some.injEq] at h; subst h; cases c <;> rfl
  | .np, y, u, h => by cases y <;> simp only [V.mix, reduceCtorEq, Option.some.injEq] at h; subst h; cases c <;> rfl
  | .nl, y, u, h => by cases y <;> simp only [V.mix, reduceCtorEq, Option.some.injEq] at h; subst h; cases c <;> rfl
  | .un, y, u, h => by cases y <;> simp only [V.mix, reduceCtorEq, Option.some.injEq] at h; subst h; cases c <;> rfl
  | .ae _ _ _ _, y, u, h => by cases y <;> simp [V.mix] at h
  | .im _, y, u, h => by cases y <;> simp [V.mix] at h
  | .lit _, y, u, h => by cases y <;> simp [V.mix] at h
theorem V.mix_go_eq (c : Bool) : ∀ (x y u : List V), V.mix.go c x y = some u → u = if c then x else y
  | [], y, u, h => by
    cases y <;> simp only [V.mix.go, reduceCtorEq, Option.some.injEq] at h
    subst h; cases c <;> rfl
  | a :: x, y, u, h => by
    cases y with
    | nil => simp [V.mix.go] at h
    | cons b y =>
      simp only [V.mix.go] at h
      split at h
      · rename_i v vs h1 h2
        cases h
        rw [V.mix_eq c a b v h1, V.mix_go_eq c x y vs h2]
        cases c <;> rfl
      · cases h
end

/-- The slots of two states, brought together. -/
def Env.mix (c : Bool) : Env → Env → Env
  | [], _ => []
  | (t, v) :: r, e2 => match V.mix c v (e2.get t) with
    | some u => (t, u) :: Env.mix c r e2
    | none => (t, .un) :: Env.mix c r e2

theorem Env.mix_get (c : Bool) : ∀ (e1 e2 : Env) (t : Nat), (Env.mix c e1 e2).get t = .un ∨ (Env.mix c e1 e2).get t = if c then e1.get t else e2.get t
  | [], _, _ => .inl rfl
  | (s, v) :: r, e2, t => by
    simp only [Env.mix]
    split
    · rename_i u hu
      simp only [Env.get]
      by_cases h : s = t
      · subst h
        simp only [if_true]
        exact .inr (V.mix_eq c _ _ _ hu)
      · simp only [h, if_false]; exact Env.mix_get c r e2 t
    · simp only [Env.get]
      by_cases h : s = t
      · subst h; simp only [if_true]; exact .inl trivial
      · simp only [h, if_false]; exact Env.mix_get c r e2 t

section
variable {P : Program} {k : Ctx} {w0 : World} {g0 : Gh} {n : Nat} {e e' : Env} {Q : Exit → Env → Prop} {ops : Array Oper} {l rest : List Oper} {o : Oper}

theorem JL.norm (h : Norm k.w0 k.g0 k.n e e') (hj : JL P k ops l e' Q) : JL P k ops l e Q := fun a w s => hj a w ⟨h a w s.1, s.2⟩
theorem JL.mono {Q' : Exit → Env → Prop} (h : JL P k ops l e Q) (hq : ∀ x e, Q x e → Q' x e) : JL P k ops l e Q' := by
  intro a w hs
  have := h a w hs
  have hlift : ∀ x a w, lift k Q x a w → lift k Q' x a w := fun x a w ⟨e, q, s⟩ => ⟨e, hq x e q, s⟩
  revert this
  generalize a = a, w = w
  clear hs h
  induction l generalizing a w with
  | nil => exact fun h => hlift _ _ _ h
  | cons o l ih =>
    intro h
    have hout : LetsOut (lift k Q) → LetsOut (lift k Q') := fun ⟨a, w, h⟩ => ⟨a, w, hlift _ _ _ h⟩
    simp only [wpList] at h ⊢
    split
    · rename_i hw
      rw [if_pos hw] at h
      rcases h with h | ⟨h1, h2⟩
      · left
        have h3 := Oper.wp_mono (fun a w => ih a w) h
        unfold Oper.wp at *
        generalize (execOp a.eval o).run P w = r at *
        cases r with
        | ok m w' =>
          cases m <;> simp only [Oper.upon] at h3 ⊢ <;>
            first
              | exact h3
              | exact Calls.mono h3 (fun e w'' he => by cases e <;> first | exact he | exact hlift _ _ _ he | exact hout he)
        | halt x w' => cases x <;> simp only [Oper.upon] at h3 ⊢ <;> first | exact h3 | exact hlift _ _ _ h3
      · exact .inr ⟨h1, hout h2⟩
    · rename_i hw
      rw [if_neg hw] at h
      exact ih _ _ h

/-- First these operations, then those. -/
theorem JL.cut {l1 l2 : List Oper} (h : JL P k ops l1 e (thn (fun e1 => JL P k ops l2 e1 Q) Q)) : JL P k ops (l1 ++ l2) e Q := by
  intro a w hs
  have := h a w hs
  clear hs h
  induction l1 generalizing a w with
  | nil => obtain ⟨e1, h1, h2⟩ := this; exact h1 a w h2
  | cons o l ih =>
    have hx : ∀ x a w, x ≠ .normal → lift k (thn (fun e1 => JL P k ops l2 e1 Q) Q) x a w → lift k Q x a w := by
      rintro x a w hne ⟨e, q, s⟩
      cases x <;> first | exact (hne rfl).elim | exact ⟨e, q, s⟩
    have hout : LetsOut (lift k (thn (fun e1 => JL P k ops l2 e1 Q) Q)) → LetsOut (lift k Q) := fun ⟨a, w, h⟩ => ⟨a, w, hx _ _ _ (by simp) h⟩
    simp only [List.cons_append, wpList] at this ⊢
    split
    · rename_i hw
      rw [if_pos hw] at this
      rcases this with h | ⟨h1, h2⟩
      · left
        have h3 := Oper.wp_mono (fun a w => ih a w) h
        unfold Oper.wp at *
        generalize (execOp a.eval o).run P w = r at *
        cases r with
        | ok m w' =>
          cases m <;> simp only [Oper.upon] at h3 ⊢ <;>
            first
              | exact h3
              | exact Calls.mono h3 (fun e w'' he => by cases e <;> first | exact he | exact hx _ _ _ (by simp) he | exact hout he)
        | halt x w' => cases x <;> simp only [Oper.upon] at h3 ⊢ <;> first | exact h3 | exact hx _ _ _ (by simp) h3
      · exact .inr ⟨h1, hout h2⟩
    · rename_i hw
      rw [if_neg hw] at this
      exact ih _ _ this

/-- An operation that is no call of a function. -/
theorem JL.val (hg : o.guard = none) (hp : dstOk k.pins o = true) (hs : stepF P k.n e o = some e') (h : JL P k ops rest e' Q) : JL P k ops (o :: rest) e Q :=
  JL.op (fun a _ _ => wanted_none hg a) hp (stepF_ok hs h)

/-- The same, behind a question that is answered. -/
theorem JL.valG {j d : Nat} {want : Bool} (hg : o.guard = some (j, want)) (hd : (ops[j]?).bind (·.dst) = some d) (hc : e.get d = .b want) (hp : dstOk k.pins o = true)
    (hs : stepF P k.n e o = some e') (h : JL P k ops rest e' Q) : JL P k ops (o :: rest) e Q :=
  JL.op (fun a w hs => by rw [wanted_b hg hd hc hs]; simp) hp (stepF_ok hs h)

theorem JL.skipG {j d : Nat} {want c : Bool} (hg : o.guard = some (j, want)) (hd : (ops[j]?).bind (·.dst) = some d) (hc : e.get d = .b c) (hne : (c == want) = false) (hp : dstOk k.pins o = true) (hn : dOk k.n o.dst = true)
    (h : JL P k ops rest (e.setd o.dst (.tp [])) Q) : JL P k ops (o :: rest) e Q :=
  JL.skip (fun a w hs => by rw [wanted_b hg hd hc hs]; exact hne) hn hp h

theorem JL.skipU {j d : Nat} {want : Bool} (hg : o.guard = some (j, want)) (hd : (ops[j]?).bind (·.dst) = some d) (hc : e.get d = .tp []) (hp : dstOk k.pins o = true) (hn : dOk k.n o.dst = true)
    (h : JL P k ops rest (e.setd o.dst (.tp [])) Q) : JL P k ops (o :: rest) e Q :=
  JL.skip (fun a w hs => wanted_tp hg hd hc hs) hn hp h

theorem JL.callW (hw : ∀ a w, Sim k.w0 k.g0 k.n e a w → Region.wanted o (yielded ops a.tmps) = true) {f : FuncId} {xs : Array Operand} {ts : Array TypeId} (ho : o.op = .call { callee := .value (.func f), args := xs, argTypes := ts })
    (hp : dstOk k.pins o = true) (hn : dOk k.n o.dst = true) (I : List (Path × Path)) {vs ins : List V} {res : V} {outs : List V} (hv : xs.toList.map e.rd = vs) (hi : e.passAll I 0 vs = ins) (hvow : Vow P f ins res outs)
    (hc : callOk e o.dst I vs res outs = true) (he : callEnv e o.dst I res outs = e') (h : JL P k ops rest e' Q) : JL P k ops (o :: rest) e Q := by
  subst hv; subst hi; subst he
  obtain ⟨⟨fn, cd, k1, k2, k3⟩, hdo⟩ := hvow
  exact JL.op hw hp (call_ok ho hn k1 k2 k3 hdo hc h)

theorem JL.call (hg : o.guard = none) {f : FuncId} {xs : Array Operand} {ts : Array TypeId} (ho : o.op = .call { callee := .value (.func f), args := xs, argTypes := ts })
    (hp : dstOk k.pins o = true) (hn : dOk k.n o.dst = true) (I : List (Path × Path)) {vs ins : List V} {res : V} {outs : List V} (hv : xs.toList.map e.rd = vs) (hi : e.passAll I 0 vs = ins) (hvow : Vow P f ins res outs)
    (hc : callOk e o.dst I vs res outs = true) (he : callEnv e o.dst I res outs = e') (h : JL P k ops rest e' Q) : JL P k ops (o :: rest) e Q :=
  JL.callW (fun a _ _ => wanted_none hg a) ho hp hn I hv hi hvow hc he h

theorem JL.callG {j d : Nat} {want : Bool} (hg : o.guard = some (j, want)) (hd : (ops[j]?).bind (·.dst) = some d) (hcd : e.get d = .b want) {f : FuncId} {xs : Array Operand} {ts : Array TypeId} (ho : o.op = .call { callee := .value (.func f), args := xs, argTypes := ts })
    (hp : dstOk k.pins o = true) (hn : dOk k.n o.dst = true) (I : List (Path × Path)) {vs ins : List V} {res : V} {outs : List V} (hv : xs.toList.map e.rd = vs) (hi : e.passAll I 0 vs = ins) (hvow : Vow P f ins res outs)
    (hc : callOk e o.dst I vs res outs = true) (he : callEnv e o.dst I res outs = e') (h : JL P k ops rest e' Q) : JL P k ops (o :: rest) e Q :=
  JL.callW (fun a w hs => by rw [wanted_b hg hd hcd hs]; simp) ho hp hn I hv hi hvow hc he h

theorem JL.br {d : Nat} {c : Bool} (hc : e.get d = .b c) (h1 : c = true → JL P k ops l (e.set d (.b true)) Q) (h2 : c = false → JL P k ops l (e.set d (.b false)) Q) : JL P k ops l e Q := by
  cases c with
  | true => exact JL.congr (set_same hc) (h1 rfl)
  | false => exact JL.congr (set_same hc) (h2 rfl)

/-- It ends in just this state. -/
def to (e1 : Env) (Q : Exit → Env → Prop) : Exit → Env → Prop := thn (fun e => e = e1) Q

theorem Norm.mixT {eA eB : Env} : Norm w0 g0 n eA (Env.mix true eA eB) := Norm.less fun t => by simpa using Env.mix_get true eA eB t
theorem Norm.mixF {eA eB : Env} : Norm w0 g0 n eB (Env.mix false eA eB) := Norm.less fun t => by simpa using Env.mix_get false eA eB t

/-- m operations that hang on a question: both sides, and on from there with both brought together. -/
theorem JL.fork (m : Nat) {d : Nat} {c : Bool} {eA eB : Env} (hc : e.get d = .b c) (h1 : c = true → JL P k ops (l.take m) (e.set d (.b true)) (to eA Q)) (h2 : c = false → JL P k ops (l.take m) (e.set d (.b false)) (to eB Q))
    (h : JL P k ops (l.drop m) (Env.mix c eA eB) Q) : JL P k ops l e Q := by
  rw [← List.take_append_drop m l]
  refine JL.cut (JL.br hc (fun ht => ?_) (fun hf => ?_))
  · subst ht
    refine (h1 rfl).mono (fun x e1 hq => ?_)
    cases x <;> first | (simp only [to, thn] at hq ⊢; subst hq; exact JL.norm Norm.mixT h) | exact hq
  · subst hf
    refine (h2 rfl).mono (fun x e1 hq => ?_)
    cases x <;> first | (simp only [to, thn] at hq ⊢; subst hq; exact JL.norm Norm.mixF h) | exact hq

theorem J.reg {id : Nat} {os : List Oper} (h : JL P k os.toArray os e Q) : J P k (.region id os.toArray false) e Q :=
  fun a w hs => wp_region_lit (h a w hs)

/-- An if whose two sides are brought together behind it. -/
theorem J.fork {x y z : Code} {t : Nat} {c : Bool} {eA eB : Env} (hc : e.get t = .b c) (h1 : c = true → J P k x e (to eA Q)) (h2 : c = false → J P k y e (to eB Q)) (h : J P k z (Env.mix c eA eB) Q) :
    J P k (.seq (.cond (.tmp t) x y) z) e Q := by
  refine J.seq (J.cond (t := c) hc (fun ht => ?_) (fun hf => ?_))
  · subst ht
    refine (h1 rfl).mono (fun x e1 hq => ?_)
    cases x <;> first | (simp only [to, thn] at hq ⊢; subst hq; exact J.norm Norm.mixT h) | exact hq
  · subst hf
    refine (h2 rfl).mono (fun x e1 hq => ?_)
    cases x <;> first | (simp only [to, thn] at hq ⊢; subst hq; exact J.norm Norm.mixF h) | exact hq

end
end Go.Vx

namespace Go.Vx
open Go Go.RowKit Go.Great

theorem cond_tf (c : Bool) : cond c true false = c := by cases c <;> rfl
theorem cond_ft (c : Bool) : cond c false true = !c := by cases c <;> rfl
theorem cond_xf (c x : Bool) : cond c x false = (c && x) := by cases c <;> simp
theorem cond_tx (c x : Bool) : cond c true x = (c || x) := by cases c <;> rfl
theorem cond_fx (c x : Bool) : cond c false x = (!c && x) := by cases c <;> simp
theorem cond_xt (c x : Bool) : cond c x true = (!c || x) := by cases c <;> simp
theorem cond_xx {α : Type} (c : Bool) (x : α) : cond c x x = x := by cases c <;> rfl

section
variable {P : Program} {k : Ctx} {e e' : Env} {Q : Exit → Env → Prop}

/-- Only these slots matter from here on. -/
theorem J.only (ts : List Nat) {c : Code} (h : J P k c (e.keep ts) Q) : J P k c e Q := J.norm (Norm.keep ts) h

theorem J.adopt {c : Code} {p π : Path} (ha : e.adopt p π = some e') (h : J P k c e' Q) : J P k c e Q := J.norm (Norm.adopt ha) h

end
end Go.Vx

namespace Go.Vx
open Go Go.RowKit Go.Great

section
variable {P : Program} {k : Ctx} {e e1 : Env} {Q : Exit → Env → Prop} {next : Env → Prop} {i j : Nat} {ops : Array Oper}

theorem go_thn (h : next e) : thn next Q .normal e := h
theorem go_inB (h : Q .normal e) : inB i Q .normal e := h
theorem go_to : to e Q .normal e := rfl
theorem ret_thn (h : Q .ret e) : thn next Q .ret e := h
theorem ret_inB (h : Q .ret e) : inB i Q .ret e := h
theorem ret_to (h : Q .ret e) : to e1 Q .ret e := h
theorem ex_thn (h : Q (.exit j) e) : thn next Q (.exit j) e := h
theorem ex_to (h : Q (.exit j) e) : to e1 Q (.exit j) e := h
theorem ex_hit (h : Q .normal e) : inB i Q (.exit i) e := by simp only [inB, if_true]; exact h
theorem ex_miss (hij : (j == i) = false) (h : Q (.exit j) e) : inB i Q (.exit j) e := by
  have : ¬ j = i := by simpa using hij
  simp only [inB, if_neg this]; exact h

end
end Go.Vx

namespace Go.Vx
open Go Go.RowKit Go.Great

def Env.sets : List (Nat × V) → Env → Env
  | [], e => e
  | (d, v) :: r, e => Env.sets r (e.set d v)

/-- An edge that binds whatever the order follows. -/
def edgeAll (x : Edge) : Bool := match x.ground with
  | .textOnly _ => false
  | .gcOnly _ => false
  | _ => true

theorem edgeAll_binds {x : Edge} (h : edgeAll x = true) (md : Region.Mode) : Region.binds md x = true := by
  unfold edgeAll at h
  unfold Region.binds
  split <;> simp_all

/-- A state that has at least what is told: outside the slots of dv it is e; the slots of B hold theirs; each other holds its own or nothing. -/
structure AtL (e e' : Env) (dv : List (Nat × V)) (B : List Nat) : Prop where
  base : ∀ t, (∀ x ∈ dv, x.1 ≠ t) → e'.get t = e.get t
  has : ∀ j ∈ B, ∀ x, dv[j]? = some x → e'.get x.1 = x.2
  may : ∀ x ∈ dv, e'.get x.1 = x.2 ∨ e'.get x.1 = .un

/-- One operation of such a region. -/
def Step (P : Program) (k : Ctx) (e : Env) (dv : List (Nat × V)) (o : Oper) (d : Nat) (v : V) (B : List Nat) : Prop :=
  ∀ e', AtL e e' dv B → OpOk P k.w0 k.g0 k.n o e' (fun e'' => e''.Eqv (e'.set d v))

def before (o : Oper) : List Nat := (o.after.toList.filter edgeAll).map (·.on)

structure DrawOk (P : Program) (k : Ctx) (ops : Array Oper) (e : Env) (dv : List (Nat × V)) : Prop where
  size : dv.length ≤ ops.size
  nodup : (dv.map (·.1)).Nodup
  clear : ∀ x ∈ dv, e.get x.1 = .un
  op : ∀ (i : Nat) (o : Oper) (x : Nat × V), ops[i]? = some o → dv[i]? = some x → o.guard = none ∧ dstOk k.pins o = true ∧ ∃ B, (∀ j ∈ B, j ∈ before o) ∧ Step P k e dv o x.1 x.2 B
  back : ∀ (i : Nat) (o : Oper), ops[i]? = some o → ∀ y ∈ o.after.toList, y.on < i
  tail : ∀ (i : Nat) (o : Oper), ops[i]? = some o → dv.length ≤ i → ∀ j, j < i → j ∈ before o

section
variable {P : Program} {k : Ctx} {ops : Array Oper} {e : Env} {dv : List (Nat × V)} {Q : Exit → Env → Prop} {md : Region.Mode}

theorem mem_ready {listed : Array Bool} {i : Nat} : i ∈ Region.ready md ops listed ↔ ∃ o, ops[i]? = some o ∧ listed.getD i true = false ∧ ∀ y ∈ o.after.toList, Region.binds md y = true → listed.getD y.on false = true := by
  unfold Region.ready
  simp only [List.mem_filter, List.mem_range, Bool.and_eq_true, Bool.not_eq_true']
  constructor
  · rintro ⟨hi, h1, h2⟩
    have ho : ops[i]? = some ops[i] := Array.getElem?_eq_getElem hi
    rw [ho] at h2
    simp only [Option.map_some, Option.getD_some, Array.all_eq_true', Bool.or_eq_true, Bool.not_eq_true'] at h2
    refine ⟨_, ho, h1, fun y hy hb => ?_⟩
    rcases h2 y (by simpa using hy) with h | h
    · rw [hb] at h; cases h
    · exact h
  · rintro ⟨o, ho, h1, h2⟩
    refine ⟨(Array.getElem?_eq_some_iff.1 ho).1, h1, ?_⟩
    rw [ho]
    simp only [Option.map_some, Option.getD_some, Array.all_eq_true', Bool.or_eq_true, Bool.not_eq_true']
    intro y hy
    by_cases hb : Region.binds md y = true
    · exact .inr (h2 y (by simpa using hy) hb)
    · exact .inl (by simpa using hb)

theorem count_drop {p p' : Nat → Bool} : ∀ {l : List Nat}, l.Nodup → ∀ {i : Nat}, i ∈ l → p i = true → p' i = false → (∀ j, j ≠ i → p' j = p j) → l.countP p' + 1 = l.countP p
  | [], _, _, h, _, _, _ => by cases h
  | x :: l, hn, i, h, h1, h2, h3 => by
    obtain ⟨n1, n2⟩ := List.nodup_cons.1 hn
    rw [List.countP_cons, List.countP_cons]
    by_cases hx : x = i
    · subst hx
      have : l.countP p' = l.countP p := List.countP_congr (fun j hj => by rw [h3 j (fun e => n1 (e ▸ hj))])
      simp [h1, h2, this]
    · have hi : i ∈ l := (List.mem_cons.1 h).resolve_left (fun e => hx e.symm)
      have := count_drop n2 hi h1 h2 h3
      rw [h3 x hx]
      omega

theorem getD_set {listed : Array Bool} {i j : Nat} {d : Bool} : (listed.setIfInBounds i true).getD j d = if i = j ∧ i < listed.size then true else listed.getD j d := by
  simp only [Array.getD_eq_getD_getElem?, Array.getElem?_setIfInBounds]
  by_cases h : i = j
  · subst h
    by_cases h2 : i < listed.size
    · simp [h2]
    · simp [h2]
  · simp [h]

theorem getD_any {listed : Array Bool} {j : Nat} (h : j < listed.size) (x y : Bool) : listed.getD j x = listed.getD j y := by
  simp only [Array.getD_eq_getD_getElem?, Array.getElem?_eq_getElem h, Option.getD_some]

/-- The ordered tail. -/
theorem draw_tail (hk : DrawOk P k ops e dv) : ∀ (fuel q : Nat) (listed : Array Bool) (a : Act) (w : World), dv.length ≤ q → q ≤ ops.size → ops.size - q ≤ fuel → listed.size = ops.size →
    (∀ j, j < ops.size → listed.getD j true = decide (j < q)) → wpList P ops (lift k Q) (ops.toList.drop q) a w → wpAny P md ops (lift k Q) fuel listed a w := by
  intro fuel
  induction fuel with
  | zero =>
    intro q listed a w h1 h2 h3 h4 h5 h
    have hq : q = ops.size := by omega
    subst hq
    rw [List.drop_eq_nil_of_le (by simp)] at h
    refine ⟨?_, h⟩
    refine List.eq_nil_iff_forall_not_mem.2 (fun i hi => ?_)
    obtain ⟨o, ho, hl, _⟩ := mem_ready.1 hi
    have hlt := (Array.getElem?_eq_some_iff.1 ho).1
    rw [h5 i hlt] at hl
    simp at hl
    omega
  | succ fuel ih =>
    intro q listed a w h1 h2 h3 h4 h5 h
    by_cases hq : q = ops.size
    · subst hq
      rw [List.drop_eq_nil_of_le (by simp)] at h
      refine ⟨fun _ => h, fun i hi => ?_⟩
      obtain ⟨o, ho, hl, _⟩ := mem_ready.1 hi
      have hlt := (Array.getElem?_eq_some_iff.1 ho).1
      rw [h5 i hlt] at hl
      simp at hl
      omega
    · have hlt : q < ops.size := by omega
      have hoq : ops[q]? = some ops[q] := Array.getElem?_eq_getElem hlt
      have hready : q ∈ Region.ready md ops listed := mem_ready.2 ⟨_, hoq, by rw [h5 q hlt]; simp, fun y hy _ => by
        have hb := hk.back q _ hoq y hy
        rw [getD_any (by omega) false true, h5 y.on (by omega)]
        exact decide_eq_true hb⟩
      refine ⟨fun h0 => absurd (h0 ▸ hready) List.not_mem_nil, fun i hi => ?_⟩
      obtain ⟨o, ho, hl, hed⟩ := mem_ready.1 hi
      have hil := (Array.getElem?_eq_some_iff.1 ho).1
      have hiq : i = q := by
        rw [h5 i hil] at hl
        simp at hl
        refine Classical.byContradiction fun hne => ?_
        have hb := hk.tail i o ho (by omega) q (by omega)
        simp only [before, List.mem_map, List.mem_filter] at hb
        obtain ⟨y, ⟨hy, hya⟩, rfl⟩ := hb
        have := hed y hy (edgeAll_binds hya md)
        rw [getD_any (by omega) false true, h5 y.on hlt] at this
        simp at this
      subst hiq
      have hdrop : ops.toList.drop i = ops[i] :: ops.toList.drop (i + 1) := by
        rw [List.drop_eq_getElem_cons (by simpa using hlt)]
        simp
      rw [hdrop] at h
      have key : ∀ a w, wpList P ops (lift k Q) (ops.toList.drop (i + 1)) a w → wpAny P md ops (lift k Q) fuel (listed.setIfInBounds i true) a w := by
        intro a w hh
        refine ih (i + 1) _ a w (by omega) (by omega) (by omega) (by simp [h4]) (fun j hj => ?_) hh
        rw [getD_set, h5 j hj]
        by_cases hij : i = j
        · subst hij; simp [h4, hlt]
        · simp only [hij, false_and, if_false]
          congr 1
          simp only [eq_iff_iff]
          omega
      unfold wpOp
      simp only [hoq]
      simp only [wpList] at h
      split
      · rename_i hw
        rw [if_pos hw] at h
        exact h.imp (Oper.wp_mono key) id
      · rename_i hw
        rw [if_neg hw] at h
        exact key _ _ h

end
end Go.Vx

namespace Go.Vx
open Go Go.RowKit Go.Great

section
variable {P : Program} {k : Ctx} {ops : Array Oper} {e : Env} {dv : List (Nat × V)} {Q : Exit → Env → Prop} {md : Region.Mode}

theorem sets_other : ∀ (dv : List (Nat × V)) (e : Env) (t : Nat), (∀ x ∈ dv, x.1 ≠ t) → (e.sets dv).get t = e.get t
  | [], _, _, _ => rfl
  | (d, v) :: r, e, t, h => by
    simp only [Env.sets]
    rw [sets_other r _ t (fun x hx => h x (List.mem_cons_of_mem _ hx)), Env.get_set, if_neg (h _ (List.mem_cons_self ..))]

theorem sets_get : ∀ (dv : List (Nat × V)) (e : Env), (dv.map (·.1)).Nodup → ∀ x ∈ dv, (e.sets dv).get x.1 = x.2
  | [], _, _, _, h => by cases h
  | (d, v) :: r, e, hn, x, hx => by
    simp only [List.map_cons, List.nodup_cons] at hn
    simp only [Env.sets]
    rcases List.mem_cons.1 hx with rfl | hx
    · rw [sets_other r _ d (fun y hy e => hn.1 (List.mem_map.2 ⟨y, hy, e⟩)), Env.get_set, if_pos rfl]
    · exact sets_get r _ hn.2 x hx

/-- What has run so far. -/
structure St (e : Env) (dv : List (Nat × V)) (listed : Array Bool) (e' : Env) : Prop where
  base : ∀ t, (∀ x ∈ dv, x.1 ≠ t) → e'.get t = e.get t
  ran : ∀ i x, dv[i]? = some x → e'.get x.1 = if listed.getD i true then x.2 else .un

theorem draw_any (hk : DrawOk P k ops e dv) (h : JL P k ops (ops.toList.drop dv.length) (e.sets dv) Q) : ∀ (fuel : Nat) (listed : Array Bool) (e' : Env) (a : Act) (w : World), listed.size = ops.size →
    (∀ i, dv.length ≤ i → i < ops.size → listed.getD i true = false) → (List.range dv.length).countP (fun i => !listed.getD i true) + (ops.size - dv.length) ≤ fuel → St e dv listed e' → k.sim e' a w →
    wpAny P md ops (lift k Q) fuel listed a w := by
  intro fuel
  induction fuel with
  | zero =>
    intro listed e' a w h1 h2 h3 h4 hs
    exact all hk h listed e' a w 0 h1 h2 h3 h4 hs (fun i hi => by
      have h0 : (List.range dv.length).countP (fun i => !listed.getD i true) = 0 := by omega
      have := List.countP_eq_zero.1 h0 i (by simpa using hi)
      simpa using this)
  | succ fuel ih =>
    intro listed e' a w h1 h2 h3 h4 hs
    by_cases hall : ∀ i, i < dv.length → listed.getD i true = true
    · exact all hk h listed e' a w _ h1 h2 h3 h4 hs hall
    · obtain ⟨j0, hj0, hl0⟩ : ∃ j, j < dv.length ∧ listed.getD j true = false := by
        refine Classical.byContradiction fun hn => hall (fun i hi => ?_)
        cases hb : listed.getD i true with
        | true => rfl
        | false => exact (hn ⟨i, hi, hb⟩).elim
      have hsz := hk.size
      refine ⟨fun h0 => ?_, fun i hi => ?_⟩
      · -- the least that has not run could
        obtain ⟨j, hj, hlj, hmin⟩ : ∃ j, j < dv.length ∧ listed.getD j true = false ∧ ∀ i, i < j → listed.getD i true = true := by
          have : ∀ n, ∀ j, j ≤ n → j < dv.length → listed.getD j true = false → ∃ j, j < dv.length ∧ listed.getD j true = false ∧ ∀ i, i < j → listed.getD i true = true := by
            intro n
            induction n with
            | zero => intro j hj hjl hl; exact ⟨j, hjl, hl, fun i hi => by omega⟩
            | succ n ih2 =>
              intro j hj hjl hl
              by_cases hex : ∃ i, i < j ∧ listed.getD i true = false
              · obtain ⟨i, hij, hli⟩ := hex
                exact ih2 i (by omega) (by omega) hli
              · refine ⟨j, hjl, hl, fun i hij => ?_⟩
                cases hb : listed.getD i true with
                | true => rfl
                | false => exact (hex ⟨i, hij, hb⟩).elim
          exact this j0 j0 (Nat.le_refl _) hj0 hl0
        have hoj : ops[j]? = some ops[j] := Array.getElem?_eq_getElem (by omega)
        have hr : j ∈ Region.ready md ops listed := mem_ready.2 ⟨_, hoj, hlj, fun y hy _ => by
          have hb := hk.back j _ hoj y hy
          rw [getD_any (by omega) false true]
          exact hmin _ hb⟩
        rw [h0] at hr
        cases hr
      · obtain ⟨o, ho, hl, hed⟩ := mem_ready.1 hi
        have hil := (Array.getElem?_eq_some_iff.1 ho).1
        have hbef : ∀ j ∈ before o, listed.getD j false = true := by
          intro j hj
          simp only [before, List.mem_map, List.mem_filter] at hj
          obtain ⟨y, ⟨hy, hya⟩, rfl⟩ := hj
          exact hed y hy (edgeAll_binds hya md)
        have him : i < dv.length := by
          refine Classical.byContradiction fun hn => ?_
          have := hbef j0 (hk.tail i o ho (by omega) j0 (by omega))
          rw [getD_any (by omega) false true, hl0] at this
          cases this
        have hdv : dv[i]? = some dv[i] := List.getElem?_eq_getElem him
        obtain ⟨hg, hp, B, hB, hstep⟩ := hk.op i o dv[i] ho hdv
        have hat : AtL e e' dv B := by
          refine ⟨h4.base, fun j hj x hx => ?_, fun x hx => ?_⟩
          · rw [h4.ran j x hx]
            have := hbef j (hB j hj)
            have hjl : j < dv.length := (List.getElem?_eq_some_iff.1 hx).1
            rw [getD_any (by omega) false true] at this
            rw [if_pos this]
          · obtain ⟨j, hj⟩ := List.getElem?_of_mem hx
            rw [h4.ran j x hj]
            split
            · exact .inl rfl
            · exact .inr rfl
        have hop := hstep e' hat a w hs.1 (fun a' w' => ∃ e'', e''.Eqv (e'.set dv[i].1 dv[i].2) ∧ Sim k.w0 k.g0 k.n e'' a' w') (lift k Q) (fun e'' a' w' he hs' => ⟨e'', he, hs'⟩)
        unfold wpOp
        simp only [ho]
        rw [if_pos (wanted_none hg a)]
        left
        refine Oper.wp_mono (fun a' w' hh => ?_) (Oper.wp_put hop)
        obtain ⟨⟨e'', he, hs'⟩, hkeep⟩ := hh
        refine ih (listed.setIfInBounds i true) (e'.set dv[i].1 dv[i].2) a' w' (by simp [h1]) (fun j hj hjl => ?_) ?_ ⟨fun t ht => ?_, fun j x hx => ?_⟩ ⟨hs'.congr' he, fun t ht => by rw [hkeep t (dstOk_keep hp ht)]; exact hs.2 t ht⟩
        · rw [getD_set, if_neg (by omega)]
          exact h2 j hj hjl
        · have := count_drop (p := fun i => !listed.getD i true) (p' := fun j => !(listed.setIfInBounds i true).getD j true) List.nodup_range (i := i) (by simpa using him) (by simp [hl]) (by rw [getD_set, if_pos ⟨rfl, by omega⟩]; rfl)
            (fun j hj => by simp only [getD_set]; rw [if_neg (fun h => hj h.1.symm)])
          omega
        · rw [Env.get_set, if_neg (ht _ (List.getElem_mem him))]
          exact h4.base t ht
        · rw [Env.get_set, getD_set]
          by_cases hij : i = j
          · subst hij
            rw [hdv] at hx
            cases hx
            rw [if_pos rfl, if_pos (by rw [if_pos ⟨rfl, by omega⟩])]
          · have hne : dv[i].1 ≠ x.1 := by
              intro he2
              have hjl := (List.getElem?_eq_some_iff.1 hx).1
              have e2 := (List.getElem?_eq_some_iff.1 hx).2
              have hnd := List.pairwise_iff_getElem.1 hk.nodup
              rcases Nat.lt_or_gt_of_ne hij with hlt | hlt
              · have := hnd i j (by simpa using him) (by simpa using hjl) hlt
                simp only [List.getElem_map, e2] at this
                exact this he2
              · have := hnd j i (by simpa using hjl) (by simpa using him) hlt
                simp only [List.getElem_map, e2] at this
                exact this he2.symm
            rw [if_neg hne, if_neg (c := i = j ∧ i < listed.size) (fun h => hij h.1)]
            exact h4.ran j x hx
where
  all (hk : DrawOk P k ops e dv) (h : JL P k ops (ops.toList.drop dv.length) (e.sets dv) Q) (listed : Array Bool) (e' : Env) (a : Act) (w : World) (fuel : Nat) (h1 : listed.size = ops.size)
    (h2 : ∀ i, dv.length ≤ i → i < ops.size → listed.getD i true = false) (h3 : (List.range dv.length).countP (fun i => !listed.getD i true) + (ops.size - dv.length) ≤ fuel) (h4 : St e dv listed e') (hs : k.sim e' a w)
    (hall : ∀ i, i < dv.length → listed.getD i true = true) : wpAny P md ops (lift k Q) fuel listed a w := by
      refine draw_tail hk fuel dv.length listed a w (Nat.le_refl _) hk.size (by omega) h1 (fun j hj => ?_) (h a w ⟨hs.1.congr' (fun t => ?_), hs.2⟩)
      · by_cases hjm : j < dv.length
        · rw [hall j hjm]; simp [hjm]
        · rw [h2 j (by omega) hj]; simp [hjm]
      · by_cases ht : ∀ x ∈ dv, x.1 ≠ t
        · rw [h4.base t ht, sets_other dv e t ht]
        · obtain ⟨x, hx, rfl⟩ : ∃ x, x ∈ dv ∧ x.1 = t := Classical.byContradiction fun hn => ht (fun x hx he => hn ⟨x, hx, he⟩)
          obtain ⟨j, hj⟩ := List.getElem?_of_mem hx
          rw [h4.ran j x hj, if_pos (hall j (List.getElem?_eq_some_iff.1 hj).1), sets_get dv e hk.nodup x hx]

theorem Sim.drew {w0 : World} {g0 : Gh} {n : Nat} {a : Act} {w : World} (h : Sim w0 g0 n e a w) : Sim w0 g0 n e a { w with drawn := w.drawn + 1 } := by
  obtain ⟨⟨g, h1, h2, h3⟩, h4, h5⟩ := h
  refine ⟨⟨g, h1, ⟨h2.os, h2.tape, h2.output, h2.size, h2.keep, h2.vm0⟩, fun t => (h3 t).moves ⟨Nat.le_refl _, fun b _ hb => ⟨hb, rfl⟩, fun b p hb => ⟨hb, rfl⟩, fun p => rfl⟩ (fun _ _ => rfl)⟩, h4, h5⟩

/-- A region whose order is drawn: all but the ordered tail in any order. -/
theorem J.draw {id : Nat} (hk : DrawOk P k ops e dv) (h : JL P k ops (ops.toList.drop dv.length) (e.sets dv) Q) : J P k (.region id ops true) e Q := by
  intro a w hs
  refine wp_region_draw fun t => ?_
  have hinit : ∀ md t, wpOps P ops (lift k Q) (Region.linearise md ops t) a { w with drawn := w.drawn + 1 } := by
    intro md t
    unfold Region.linearise
    refine wpAny_sound _ _ _ _ _ (draw_any (md := md) hk h ops.size (Array.replicate ops.size false) e a _ (by simp) (fun i _ hi => ?_) ?_ ⟨fun _ _ => rfl, fun i x hx => ?_⟩ ⟨hs.1.drew, hs.2⟩)
    · simp [Array.getD_eq_getD_getElem?, hi]
    · have := List.countP_le_length (p := fun i => !(Array.replicate ops.size false).getD i true) (l := List.range dv.length)
      have h2 := hk.size
      simp only [List.length_range] at this
      omega
    · have hil := (List.getElem?_eq_some_iff.1 hx).1
      have h2 := hk.size
      rw [hk.clear x (List.mem_of_getElem? hx)]
      have : (Array.replicate ops.size false).getD i true = false := by
        simp only [Array.getD_eq_getD_getElem?, Array.getElem?_replicate]
        rw [if_pos (by omega)]
        rfl
      rw [this]
      rfl
  unfold Region.schedule
  split
  · exact hinit _ _
  · exact hinit _ _

end
end Go.Vx

namespace Go.Vx
open Go Go.RowKit Go.Great

theorem sets_mem : ∀ (l : List (Nat × V)) (e : Env) (t : Nat), ((∀ x ∈ l, x.1 ≠ t) ∧ (e.sets l).get t = e.get t) ∨ ∃ x ∈ l, x.1 = t ∧ (e.sets l).get t = x.2
  | [], e, t => .inl ⟨by simp, rfl⟩
  | (d, v) :: r, e, t => by
    simp only [Env.sets]
    rcases sets_mem r (e.set d v) t with ⟨h1, h2⟩ | ⟨x, h1, h2, h3⟩
    · rw [Env.get_set] at h2
      by_cases hd : d = t
      · rw [if_pos hd] at h2
        exact .inr ⟨(d, v), List.mem_cons_self .., hd, h2⟩
      · rw [if_neg hd] at h2
        refine .inl ⟨fun x hx => ?_, h2⟩
        rcases List.mem_cons.1 hx with rfl | hx
        · exact hd
        · exact h1 x hx
    · exact .inr ⟨x, List.mem_cons_of_mem _ h1, h2, h3⟩

def pickD (dv : List (Nat × V)) (B : List Nat) : List (Nat × V) := B.filterMap (dv[·]?)

/-- What an operation that makes nothing and writes nothing puts into its slot. -/
def pureF (P : Program) (e : Env) (o : Oper) : Option V :=
  match o.op with
  | .build t parts => buildV P e t parts.toList
  | _ => valF P e o

section
variable {P : Program} {k : Ctx} {ops : Array Oper} {e e' : Env} {dv : List (Nat × V)} {o : Oper} {d : Nat} {v : V} {B : List Nat}

theorem AtL.less (h : AtL e e' dv B) (hclear : ∀ x ∈ dv, e.get x.1 = .un) (t : Nat) : (e.sets (pickD dv B)).get t = .un ∨ (e.sets (pickD dv B)).get t = e'.get t := by
  rcases sets_mem (pickD dv B) e t with ⟨h1, h2⟩ | ⟨x, h1, h2, h3⟩
  · by_cases ht : ∀ x ∈ dv, x.1 ≠ t
    · right; rw [h2, h.base t ht]
    · obtain ⟨x, hx, rfl⟩ : ∃ x, x ∈ dv ∧ x.1 = t := Classical.byContradiction fun hn => ht (fun x hx he => hn ⟨x, hx, he⟩)
      left; rw [h2, hclear x hx]
  · right
    simp only [pickD, List.mem_filterMap] at h1
    obtain ⟨j, hj, hx⟩ := h1
    rw [h3, ← h2, h.has j hj x hx]

theorem Holds.less {w0 : World} {g0 : Gh} {a : Act} {w : World} {g : Gh} (h : Holds w0 g0 e' a w g) (hl : ∀ t, e.get t = .un ∨ e.get t = e'.get t) : Holds w0 g0 e a w g :=
  ⟨h.inj, h.fr, fun t => by
    rcases hl t with h1 | h1
    · rw [h1]; exact .un
    · rw [h1]; exact h.rep t⟩

theorem Step.pure (B : List Nat) (hclear : ∀ x ∈ dv, e.get x.1 = .un) (hdst : o.dst = some d) (hd : d < k.n) (hv : pureF P (e.sets (pickD dv B)) o = some v) : Step P k e dv o d v B := by
  intro e' hat
  refine OpOk.val (v := v) (by rw [hdst]; simpa [dOk] using hd) (fun a w g h => ?_) ?_
  · have h' := h.less (hat.less hclear)
    unfold pureF at hv
    split at hv
    · rename_i t parts ho
      exact build_ok ho hv h'
    · exact valF_ok hv h'
  · rw [hdst]; exact Env.Eqv.refl _

/-- The state e', written out over a longer row of slots. -/
def canon (e' : Env) : Env → Env
  | [] => []
  | (t, v) :: r => (t, if (e'.get t).isUn then .un else v) :: canon e' r

theorem isUn_iff {v : V} : v.isUn = true ↔ v = .un := by cases v <;> simp [V.isUn]

theorem canon_get (e' : Env) : ∀ (E : Env) (t : Nat), (canon e' E).get t = if (e'.get t).isUn then .un else E.get t
  | [], t => by simp [canon, Env.get]
  | (s, v) :: r, t => by
    simp only [canon, Env.get]
    by_cases h : s = t
    · subst h; simp only [if_true]
    · simp only [if_neg h]; exact canon_get e' r t

theorem AtL.canon (h : AtL e e' dv B) (hn : (dv.map (·.1)).Nodup) : (canon e' (e.sets dv)).Eqv e' := by
  intro t
  rw [canon_get]
  by_cases hu : (e'.get t).isUn = true
  · rw [if_pos hu, isUn_iff.1 hu]
  · rw [if_neg hu]
    by_cases ht : ∀ x ∈ dv, x.1 ≠ t
    · rw [sets_other dv e t ht, h.base t ht]
    · obtain ⟨x, hx, rfl⟩ : ∃ x, x ∈ dv ∧ x.1 = t := Classical.byContradiction fun hn => ht (fun x hx he => hn ⟨x, hx, he⟩)
      rw [sets_get dv e hn x hx]
      rcases h.may x hx with h1 | h1
      · exact h1.symm
      · rw [h1] at hu; exact (hu rfl).elim

theorem canon_free {e' : Env} {d : Nat} : ∀ {E : Env}, E.free d = true → (canon e' E).free d = true
  | [], _ => rfl
  | (s, v) :: r, h => by
    simp only [Env.free, List.all_cons, Bool.and_eq_true] at h
    have h2 := canon_free (e' := e') (d := d) (E := r) (by simpa [Env.free] using h.2)
    simp only [Env.free] at h2
    simp only [canon, Env.free, List.all_cons, Bool.and_eq_true]
    refine ⟨?_, h2⟩
    split
    · simp [V.refs]
    · exact h.1

theorem OpOk.eqv {w0 : World} {g0 : Gh} {n : Nat} {K : Env → Prop} (he : e.Eqv e') (h : OpOk P w0 g0 n o e' K) : OpOk P w0 g0 n o e K := fun a w hs => h a w (hs.congr' he)

theorem rd_eqv (he : e.Eqv e') (x : Operand) : e.rd x = e'.rd x := by
  cases x with
  | tmp t => simp only [Env.rd, he t]
  | _ => rfl

/-- The slots that an operation which makes something reads. -/
def reads (o : Oper) : List Operand :=
  match o.op with
  | .box _ x => [x]
  | .buildSlice _ _ parts => parts.toList.map (·.2)
  | .makeSlice _ l c => [l, c]
  | .convert _ _ x => [x]
  | .call { args, .. } => args.toList
  | _ => []

theorem newF_congr {E E' : Env} (h : ∀ x ∈ reads o, E.rd x = E'.rd x) (hn : match o.op with
    | .alloc _ | .box _ _ | .buildSlice _ _ _ | .makeSlice _ _ _ | .convert _ _ _ => True
    | _ => False) : newF P E o = newF P E' o := by
  unfold newF
  unfold reads at h
  split at hn
  · rename_i ho; simp only [ho]
  · rename_i t x ho
    simp only [ho, List.mem_singleton, forall_eq] at h
    simp only [ho, h]
  · rename_i t len parts ho
    simp only [ho] at h
    have : parts.toList.map (fun p => E.rd p.2) = parts.toList.map (fun p => E'.rd p.2) := List.map_congr_left (fun p hp => h p.2 (List.mem_map.2 ⟨p, hp, rfl⟩))
    simp only [ho, this]
  · rename_i t l c ho
    simp only [ho, List.mem_cons, List.not_mem_nil, or_false] at h
    simp only [ho, h l (.inl rfl), h c (.inr rfl)]
  · rename_i s t x ho
    simp only [ho, List.mem_singleton, forall_eq] at h
    simp only [ho, h]
  · exact hn.elim

def makes (o : Oper) : Bool :=
  match o.op with
  | .alloc _ | .box _ _ | .buildSlice _ _ _ | .makeSlice _ _ _ | .convert _ _ _ => true
  | _ => false

/-- What is read is known: it stands outside the region's slots, or is asked for. -/
def known (dv : List (Nat × V)) (B : List Nat) (xs : List Operand) : Bool :=
  xs.all fun
    | .tmp t => !(dv.map (·.1)).contains t || ((pickD dv B).map (·.1)).contains t
    | _ => true

theorem known_rd (h : AtL e e' dv B) {xs : List Operand} (hk : known dv B xs = true) : ∀ x ∈ xs, e'.rd x = (e.sets (pickD dv B)).rd x := by
  intro x hx
  have := List.all_eq_true.1 hk x hx
  cases x with
  | tmp t =>
    simp only [Env.rd]
    congr 1
    simp only [Bool.or_eq_true, Bool.not_eq_true', List.contains_eq_mem, decide_eq_false_iff_not, decide_eq_true_eq, List.mem_map] at this
    rcases sets_mem (pickD dv B) e t with ⟨h1, h2⟩ | ⟨y, h1, h2, h3⟩
    · rcases this with h4 | ⟨y, h4, h5⟩
      · rw [h2, h.base t (fun x hx he => h4 ⟨x, hx, he⟩)]
      · exact (h1 y h4 h5).elim
    · simp only [pickD, List.mem_filterMap] at h1
      obtain ⟨j, hj, hx⟩ := h1
      rw [h3, ← h2, h.has j hj y hx]
  | _ => rfl

theorem Step.new (B : List Nat) (hn : (dv.map (·.1)).Nodup) (hmk : makes o = true) (hdst : o.dst = some d) (hd : d < k.n) (hfree : (e.sets dv).free d = true) (hkn : known dv B (reads o) = true)
    (hv : newF P (e.sets (pickD dv B)) o = some v) : Step P k e dv o d v B := by
  intro e' hat
  have hc := hat.canon hn
  refine OpOk.eqv hc.symm ?_
  have hf := canon_free (e' := e') hfree
  have hv' : newF P (canon e' (e.sets dv)) o = some v := by
    rw [← hv]
    refine newF_congr (fun x hx => by rw [rd_eqv hc, known_rd hat hkn x hx]) ?_
    unfold makes at hmk
    split at hmk <;> first | trivial | cases hmk
  have hK : ((canon e' (e.sets dv)).set d v).Eqv (e'.set d v) := fun t => by rw [Env.get_set, Env.get_set, hc t]
  unfold makes at hmk
  split at hmk
  · rename_i ho; exact alloc_ok ho hdst hd hf hv' hK
  · rename_i ho; exact box_ok ho hdst hd hf hv' hK
  · rename_i ho; exact buildSlice_ok ho hdst hd hf hv' hK
  · rename_i ho; exact makeSlice_ok ho hdst hd hf hv' hK
  · rename_i ho; exact bytesNew_ok ho hdst hd hf hv' hK
  · cases hmk

end
end Go.Vx

namespace Go.Vx
open Go Go.RowKit Go.Great

section
variable {P : Program} {k : Ctx} {ops : Array Oper} {e e' E E' : Env} {dv : List (Nat × V)} {o : Oper} {d : Nat} {v : V} {B : List Nat}

theorem row_congr {u : V} (h : ∀ r ∈ u.refs, E.at r = E'.at r) : E.row u = E'.row u := by
  cases u <;> simp only [Env.row]
  · rw [h _ (by simp [V.refs])]
  · rw [h _ (by simp [V.refs])]

theorem imm_congr : ∀ (u : V), (∀ r ∈ u.refs, E.at r = E'.at r) → E.imm u = E'.imm u
  | .ag cs, h => by
    simp only [Env.imm]
    congr 1
    exact goc cs (fun r hr => h r hr)
  | .al p, h => by simp only [Env.imm, row_congr h]
  | .hd p z a b, h => by simp only [Env.imm, row_congr h]
  | .i _ _, _ | .b _, _ | .s _, _ | .sl _, _ | .ow _ _, _ | .tp _, _ | .bx _, _ | .ad _ _, _ | .ae _ _ _ _, _ | .im _, _ | .np, _ | .nl, _ | .fn _, _ | .lit _, _ | .un, _ => rfl
where goc : ∀ (cs : List V), (∀ r ∈ V.refs.go cs, E.at r = E'.at r) → Env.imm.go E cs = Env.imm.go E' cs
  | [], _ => rfl
  | c :: r, h => by
    simp only [Env.imm.go]
    rw [imm_congr c (fun x hx => h x (by simp only [V.refs.go, List.mem_append]; exact .inl hx)), goc r (fun x hx => h x (by simp only [V.refs.go, List.mem_append]; exact .inr hx))]

theorem pass_congr : ∀ (u : V) (ρ : Path), (∀ r ∈ u.refs, E.at r = E'.at r) → E.pass [] ρ u = E'.pass [] ρ u
  | .ag cs, ρ, h => by
    simp only [Env.pass]
    congr 1
    exact goc cs ρ 0 (fun r hr => h r hr)
  | .al p, ρ, h => by simp only [Env.pass, List.any_nil, Bool.false_eq_true, if_false]; exact imm_congr _ h
  | .hd p z a b, ρ, h => by simp only [Env.pass]; exact imm_congr _ h
  | .ad p x, ρ, h => by simp only [Env.pass, List.any_nil, Bool.false_eq_true, and_false, if_false]
  | .i _ _, _, _ | .b _, _, _ | .s _, _, _ | .sl _, _, _ | .ow _ _, _, _ | .tp _, _, _ | .bx _, _, _ | .ae _ _ _ _, _, _ | .im _, _, _ | .np, _, _ | .nl, _, _ | .fn _, _, _ | .lit _, _, _ | .un, _, _ => rfl
where goc : ∀ (cs : List V) (ρ : Path) (n : Nat), (∀ r ∈ V.refs.go cs, E.at r = E'.at r) → Env.pass.go E [] ρ n cs = Env.pass.go E' [] ρ n cs
  | [], _, _, _ => rfl
  | c :: r, ρ, n, h => by
    simp only [Env.pass.go]
    rw [pass_congr c _ (fun x hx => h x (by simp only [V.refs.go, List.mem_append]; exact .inl hx)), goc r ρ (n + 1) (fun x hx => h x (by simp only [V.refs.go, List.mem_append]; exact .inr hx))]

theorem passAll_congr : ∀ (vs : List V) (n : Nat), (∀ u ∈ vs, ∀ r ∈ u.refs, E.at r = E'.at r) → E.passAll [] n vs = E'.passAll [] n vs
  | [], _, _ => rfl
  | u :: r, n, h => by
    simp only [Env.passAll]
    rw [pass_congr u _ (h u (List.mem_cons_self ..)), passAll_congr r (n + 1) (fun x hx => h x (List.mem_cons_of_mem _ hx))]

/-- No slot hangs on slot d, nor on what a callee may name. -/
def Env.calm (e : Env) (d : Nat) : Bool := e.all fun q => q.2.refs.all fun r => !badRef (some d) [] r

theorem calm_canon {e' : Env} {d : Nat} : ∀ {E : Env}, E.calm d = true → (canon e' E).calm d = true
  | [], _ => rfl
  | (s, v) :: r, h => by
    simp only [Env.calm, List.all_cons, Bool.and_eq_true] at h
    have h2 := calm_canon (e' := e') (d := d) (E := r) (by simpa [Env.calm] using h.2)
    simp only [Env.calm] at h2
    simp only [canon, Env.calm, List.all_cons, Bool.and_eq_true]
    refine ⟨?_, h2⟩
    split
    · simp [V.refs]
    · exact h.1

theorem calm_shed {d : Nat} (h : E.calm d = true) : (E.shed (badRef (some d) [])).Eqv E := by
  intro t
  rw [Env.get_shed]
  split
  · rename_i hb
    exfalso
    simp only [List.any_eq_true] at hb
    obtain ⟨r, hr, hb⟩ := hb
    by_cases hu : E.get t = .un
    · rw [hu] at hr; simp [V.refs] at hr
    · have h1 := List.all_eq_true.1 h _ (Env.mem_get hu)
      have h2 := List.all_eq_true.1 h1 r hr
      rw [hb] at h2
      cases h2
  · rfl

/-- The places that are named are known. -/
def knownR (dv : List (Nat × V)) (B : List Nat) (vs : List V) : Bool :=
  vs.all fun u => u.refs.all fun
    | (t + 2) :: _ => !(dv.map (·.1)).contains t || ((pickD dv B).map (·.1)).contains t
    | _ => true

theorem Step.call (B : List Nat) (hn : (dv.map (·.1)).Nodup) {f : FuncId} {xs : Array Operand} {ts : Array TypeId} (ho : o.op = .call { callee := .value (.func f), args := xs, argTypes := ts })
    (hdst : o.dst = some d) (hd : d < k.n) (hcalm : (e.sets dv).calm d = true) (hkn : known dv B xs.toList = true) {vs ins : List V} (hv : xs.toList.map (e.sets (pickD dv B)).rd = vs) (hkr : knownR dv B vs = true)
    (hi : (e.sets (pickD dv B)).passAll [] 0 vs = ins) (hvow : Vow P f ins v []) (hq : quiet (lentAll [] 0 vs) v = true) : Step P k e dv o d v B := by
  intro e' hat
  have hc := hat.canon hn
  refine OpOk.eqv hc.symm ?_
  obtain ⟨⟨fn, cd, k1, k2, k3⟩, hdo⟩ := hvow
  have hrd : xs.toList.map (canon e' (e.sets dv)).rd = vs := by
    rw [← hv]
    exact List.map_congr_left (fun x hx => by rw [rd_eqv hc, known_rd hat hkn x hx])
  have hpass : (canon e' (e.sets dv)).passAll [] 0 vs = ins := by
    rw [← hi]
    refine passAll_congr vs 0 (fun u hu r hr => ?_)
    rw [hc.at]
    have h1 := List.all_eq_true.1 (List.all_eq_true.1 hkr u hu) r hr
    match r, h1 with
    | (t + 2) :: q, h1 =>
      have := known_rd (xs := [.tmp t]) hat (by simpa [known] using h1) (.tmp t) (by simp)
      simp only [Env.at]
      congr 1
      simp only [Bool.or_eq_true, Bool.not_eq_true', List.contains_eq_mem, decide_eq_false_iff_not, decide_eq_true_eq, List.mem_map] at h1
      rcases sets_mem (pickD dv B) e t with ⟨h3, h2⟩ | ⟨y, h3, h4, h5⟩
      · rcases h1 with h4 | ⟨y, h4, h5⟩
        · rw [h2, hat.base t (fun x hx he => h4 ⟨x, hx, he⟩)]
        · exact (h3 y h4 h5).elim
      · simp only [pickD, List.mem_filterMap] at h3
        obtain ⟨j, hj, hx⟩ := h3
        rw [h5, ← h4, hat.has j hj y hx]
    | [], _ => rfl
    | [0], _ => rfl
    | [1], _ => rfl
    | 0 :: _ :: _, _ => rfl
    | 1 :: _ :: _, _ => rfl
  refine call_ok (I := []) (res := v) (outs := []) ho (by rw [hdst]; simpa [dOk] using hd) k1 k2 k3 (by rw [hrd, hpass]; exact hdo) ?_ ?_
  · rw [hrd]
    simp only [callOk, List.map_nil, Env.ioOk, waysOk, List.all_nil, Bool.and_true, Bool.true_and, hq]
    simp
  · rw [hdst]
    show (Env.puts [] [] ((Env.shed (badRef (some d) []) (canon e' (e.sets dv))).setd (some d) v)).Eqv (e'.set d v)
    intro t
    show ((Env.shed (badRef (some d) []) (canon e' (e.sets dv))).setd (some d) v).get t = _
    rw [Env.get_setd, Env.get_set, calm_shed (calm_canon hcalm) t, hc t]
    simp only [Option.some.injEq]

end
end Go.Vx

namespace Go.Vx
open Go Go.RowKit Go.Great

def Env.calmO (e : Env) : Option Nat → Bool
  | some d => e.calm d
  | none => e.all fun q => q.2.refs.all fun r => !badRef none [] r

section
variable {P : Program} {k : Ctx} {ops : Array Oper} {e e' : Env} {Q : Exit → Env → Prop} {o : Oper} {rest : List Oper}

theorem calmO_shed {d : Option Nat} (h : e.calmO d = true) : (e.shed (badRef d [])).Eqv e := by
  cases d with
  | some d => exact calm_shed h
  | none =>
    intro t
    rw [Env.get_shed]
    split
    · rename_i hb
      exfalso
      simp only [List.any_eq_true] at hb
      obtain ⟨r, hr, hb⟩ := hb
      by_cases hu : e.get t = .un
      · rw [hu] at hr; simp [V.refs] at hr
      · have h1 := List.all_eq_true.1 h _ (Env.mem_get hu)
        have h2 := List.all_eq_true.1 h1 r hr
        rw [hb] at h2
        cases h2
    · rfl

theorem JL.call0W (hw : ∀ a w, Sim k.w0 k.g0 k.n e a w → Region.wanted o (yielded ops a.tmps) = true) {f : FuncId} {xs : Array Operand} {ts : Array TypeId} (ho : o.op = .call { callee := .value (.func f), args := xs, argTypes := ts })
    (hp : dstOk k.pins o = true) (hn : dOk k.n o.dst = true) (hcalm : e.calmO o.dst = true) {vs ins : List V} {res : V} (hv : xs.toList.map e.rd = vs) (hi : e.passAll [] 0 vs = ins) (hvow : Vow P f ins res [])
    (hq : quiet (lentAll [] 0 vs) res = true) (he : e.setd o.dst res = e') (h : JL P k ops rest e' Q) : JL P k ops (o :: rest) e Q := by
  refine JL.callW hw ho hp hn [] hv hi hvow ?_ rfl (JL.congr ?_ h)
  · simp only [callOk, List.map_nil, Env.ioOk, waysOk, List.all_nil, Bool.and_true, Bool.true_and, hq]
    simp
  · rw [← he]
    intro t
    show ((Env.shed (badRef o.dst []) e).setd o.dst res).get t = _
    rw [Env.get_setd, Env.get_setd, calmO_shed hcalm t]

theorem JL.call0 (hg : o.guard = none) {f : FuncId} {xs : Array Operand} {ts : Array TypeId} (ho : o.op = .call { callee := .value (.func f), args := xs, argTypes := ts })
    (hp : dstOk k.pins o = true) (hn : dOk k.n o.dst = true) (hcalm : e.calmO o.dst = true) {vs ins : List V} {res : V} (hv : xs.toList.map e.rd = vs) (hi : e.passAll [] 0 vs = ins) (hvow : Vow P f ins res [])
    (hq : quiet (lentAll [] 0 vs) res = true) (he : e.setd o.dst res = e') (h : JL P k ops rest e' Q) : JL P k ops (o :: rest) e Q :=
  JL.call0W (fun a _ _ => wanted_none hg a) ho hp hn hcalm hv hi hvow hq he h

theorem JL.call0G {j d : Nat} {want : Bool} (hg : o.guard = some (j, want)) (hd : (ops[j]?).bind (·.dst) = some d) (hcd : e.get d = .b want) {f : FuncId} {xs : Array Operand} {ts : Array TypeId} (ho : o.op = .call { callee := .value (.func f), args := xs, argTypes := ts })
    (hp : dstOk k.pins o = true) (hn : dOk k.n o.dst = true) (hcalm : e.calmO o.dst = true) {vs ins : List V} {res : V} (hv : xs.toList.map e.rd = vs) (hi : e.passAll [] 0 vs = ins) (hvow : Vow P f ins res [])
    (hq : quiet (lentAll [] 0 vs) res = true) (he : e.setd o.dst res = e') (h : JL P k ops rest e' Q) : JL P k ops (o :: rest) e Q :=
  JL.call0W (fun a w hs => by rw [wanted_b hg hd hcd hs]; simp) ho hp hn hcalm hv hi hvow hq he h

end
end Go.Vx

namespace Go.Vx
open Go Go.RowKit Go.Great

theorem cons_eqv (e : Env) (d : Nat) (v : V) : (e.set d v).Eqv ((d, v) :: e) := by
  intro t
  rw [Env.get_set]
  rfl

def isB : TypeDesc → Bool
  | .bool => true
  | _ => false

section
variable {P : Program} {k : Ctx} {ops : Array Oper} {e e' : Env} {Q : Exit → Env → Prop} {o : Oper} {rest : List Oper} {d : Nat} {v : V}

theorem JL.eqv {l : List Oper} (he : e.Eqv e') (h : JL P k ops l e' Q) : JL P k ops l e Q := JL.congr he h

/-- An operation that only looks, or copies. -/
theorem JL.pure (hw : ∀ a w, Sim k.w0 k.g0 k.n e a w → Region.wanted o (yielded ops a.tmps) = true) (hdst : o.dst = some d) (hp : dstOk k.pins o = true) (hd : dOk k.n o.dst = true) (hv : pureF P e o = some v)
    (h : JL P k ops rest ((d, v) :: e) Q) : JL P k ops (o :: rest) e Q := by
  refine JL.op hw hp (OpOk.val (v := v) hd (fun a w g hh => ?_) ?_)
  · unfold pureF at hv
    split at hv
    · rename_i t parts ho; exact build_ok ho hv hh
    · exact valF_ok hv hh
  · rw [hdst]; exact JL.eqv (cons_eqv e d v) h

theorem want_n (hg : o.guard = none) : ∀ a w, Sim k.w0 k.g0 k.n e a w → Region.wanted o (yielded ops a.tmps) = true := fun a _ _ => wanted_none hg a
theorem want_g {j d : Nat} {want : Bool} (hg : o.guard = some (j, want)) (hd : (ops[j]?).bind (·.dst) = some d) (hc : e.get d = .b want) : ∀ a w, Sim k.w0 k.g0 k.n e a w → Region.wanted o (yielded ops a.tmps) = true :=
  fun a w hs => by rw [wanted_b hg hd hc hs]; simp

/-- Copies. -/
theorem JL.mv {x : Operand} (hw : ∀ a w, Sim k.w0 k.g0 k.n e a w → Region.wanted o (yielded ops a.tmps) = true) (ho : o.op = .move x ∨ o.op = .assign x) (hdst : o.dst = some d) (hp : dstOk k.pins o = true) (hd : dOk k.n o.dst = true)
    (hx : e.rd x = v) (h : JL P k ops rest ((d, v) :: e) Q) : JL P k ops (o :: rest) e Q :=
  JL.pure hw hdst hp hd (by rcases ho with ho | ho <;> simp only [pureF, ho, valF, hx]) h

theorem JL.un {op : UnOp} {t : TypeId} {x : Operand} {vx : V} (hw : ∀ a w, Sim k.w0 k.g0 k.n e a w → Region.wanted o (yielded ops a.tmps) = true) (ho : o.op = .unOp op t x) (hdst : o.dst = some d)
    (hp : dstOk k.pins o = true) (hd : dOk k.n o.dst = true) (hx : e.rd x = vx) (hv : unV op vx = some v) (h : JL P k ops rest ((d, v) :: e) Q) : JL P k ops (o :: rest) e Q :=
  JL.pure hw hdst hp hd (by simp only [pureF, ho, valF, hx]; exact hv) h

/-- Passed over. -/
theorem JL.offG {j d' : Nat} {want c : Bool} (hg : o.guard = some (j, want)) (hd : (ops[j]?).bind (·.dst) = some d') (hc : e.get d' = .b c) (hne : (c == want) = false) (hp : dstOk k.pins o = true) (hn : dOk k.n o.dst = true) (hdst : o.dst = some d)
    (h : JL P k ops rest ((d, .tp []) :: e) Q) : JL P k ops (o :: rest) e Q :=
  JL.skipG hg hd hc hne hp hn (by rw [hdst]; exact JL.eqv (cons_eqv e d _) h)

theorem JL.offU {j d' : Nat} {want : Bool} (hg : o.guard = some (j, want)) (hd : (ops[j]?).bind (·.dst) = some d') (hc : e.get d' = .tp []) (hp : dstOk k.pins o = true) (hn : dOk k.n o.dst = true) (hdst : o.dst = some d)
    (h : JL P k ops rest ((d, .tp []) :: e) Q) : JL P k ops (o :: rest) e Q :=
  JL.skipU hg hd hc hp hn (by rw [hdst]; exact JL.eqv (cons_eqv e d _) h)

/-- These slots of two states, brought together; the others are forgotten. -/
def Env.mixOn (c : Bool) (e1 e2 : Env) : List Nat → Env
  | [] => []
  | t :: r => match V.mix c (e1.get t) (e2.get t) with
    | some u => (t, u) :: Env.mixOn c e1 e2 r
    | none => Env.mixOn c e1 e2 r

theorem mixOn_get (c : Bool) (e1 e2 : Env) : ∀ (ts : List Nat) (t : Nat), (Env.mixOn c e1 e2 ts).get t = .un ∨ (Env.mixOn c e1 e2 ts).get t = if c then e1.get t else e2.get t
  | [], _ => .inl rfl
  | s :: r, t => by
    simp only [Env.mixOn]
    split
    · rename_i u hu
      simp only [Env.get]
      by_cases h : s = t
      · subst h
        simp only [if_true]
        exact .inr (V.mix_eq c _ _ _ hu)
      · simp only [h, if_false]; exact mixOn_get c e1 e2 r t
    · exact mixOn_get c e1 e2 r t

theorem JL.forkL (m : Nat) (ts : List Nat) {l : List Oper} {c : Bool} {eA eB : Env} (hc : e.get d = .b c) (h1 : c = true → JL P k ops (l.take m) ((d, .b true) :: e) (to eA Q)) (h2 : c = false → JL P k ops (l.take m) ((d, .b false) :: e) (to eB Q))
    (h : JL P k ops (l.drop m) (Env.mixOn c eA eB ts) Q) : JL P k ops l e Q := by
  rw [← List.take_append_drop m l]
  refine JL.cut (JL.br hc (fun ht => ?_) (fun hf => ?_))
  · subst ht
    refine JL.eqv (cons_eqv e d _) ((h1 rfl).mono (fun x e1 hq => ?_))
    cases x <;> first | (simp only [to, thn] at hq ⊢; subst hq; exact JL.norm (Norm.less fun t => by simpa using mixOn_get true e1 eB ts t) h) | exact hq
  · subst hf
    refine JL.eqv (cons_eqv e d _) ((h2 rfl).mono (fun x e1 hq => ?_))
    cases x <;> first | (simp only [to, thn] at hq ⊢; subst hq; exact JL.norm (Norm.less fun t => by simpa using mixOn_get false eA e1 ts t) h) | exact hq

theorem J.forkL (ts : List Nat) {x y z : Code} {t : Nat} {c : Bool} {eA eB : Env} (hc : e.get t = .b c) (h1 : c = true → J P k x e (to eA Q)) (h2 : c = false → J P k y e (to eB Q)) (h : J P k z (Env.mixOn c eA eB ts) Q) :
    J P k (.seq (.cond (.tmp t) x y) z) e Q := by
  refine J.seq (J.cond (t := c) hc (fun ht => ?_) (fun hf => ?_))
  · subst ht
    refine (h1 rfl).mono (fun x e1 hq => ?_)
    cases x <;> first | (simp only [to, thn] at hq ⊢; subst hq; exact J.norm (Norm.less fun t => by simpa using mixOn_get true e1 eB ts t) h) | exact hq
  · subst hf
    refine (h2 rfl).mono (fun x e1 hq => ?_)
    cases x <;> first | (simp only [to, thn] at hq ⊢; subst hq; exact J.norm (Norm.less fun t => by simpa using mixOn_get false eA e1 ts t) h) | exact hq

/-- Only these slots are kept. -/
def Env.pick (e : Env) : List Nat → Env
  | [] => []
  | t :: r => (t, e.get t) :: Env.pick e r

theorem pick_get (e : Env) : ∀ (ts : List Nat) (t : Nat), (e.pick ts).get t = .un ∨ (e.pick ts).get t = e.get t
  | [], _ => .inl rfl
  | s :: r, t => by
    simp only [Env.pick, Env.get]
    by_cases h : s = t
    · subst h; simp
    · simp only [h, if_false]; exact pick_get e r t

theorem J.pick (ts : List Nat) {c : Code} (he : e.pick ts = e') (h : J P k c e' Q) : J P k c e Q := J.norm (Norm.less fun t => by rw [← he]; exact pick_get e ts t) h
theorem JL.pick (ts : List Nat) {l : List Oper} (he : e.pick ts = e') (h : JL P k ops l e' Q) : JL P k ops l e Q := JL.norm (Norm.less fun t => by rw [← he]; exact pick_get e ts t) h

/-- A call that is handed nothing to write, its result kept newest first. -/
theorem JL.callC (hw : ∀ a w, Sim k.w0 k.g0 k.n e a w → Region.wanted o (yielded ops a.tmps) = true) {f : FuncId} {xs : Array Operand} {ts : Array TypeId} (ho : o.op = .call { callee := .value (.func f), args := xs, argTypes := ts })
    (hdst : o.dst = some d) (hp : dstOk k.pins o = true) (hn : dOk k.n o.dst = true) (hcalm : e.calm d = true) {vs ins : List V} {res : V} (hv : xs.toList.map e.rd = vs) (hi : e.passAll [] 0 vs = ins) (hvow : Vow P f ins res [])
    (hq : quiet (lentAll [] 0 vs) res = true) (h : JL P k ops rest ((d, res) :: e) Q) : JL P k ops (o :: rest) e Q :=
  JL.call0W hw ho hp hn (by rw [hdst]; exact hcalm) hv hi hvow hq rfl (by rw [hdst]; exact JL.eqv (cons_eqv e d res) h)

end
end Go.Vx

namespace Go.Vx
open Go Go.RowKit Go.Great

section
variable {P : Program} {k : Ctx} {ops : Array Oper} {e e' e1 : Env} {Q : Exit → Env → Prop} {o : Oper} {rest : List Oper} {d : Nat} {v : V}

theorem JL.new (hw : ∀ a w, Sim k.w0 k.g0 k.n e a w → Region.wanted o (yielded ops a.tmps) = true) (hmk : makes o = true) (hdst : o.dst = some d) (hp : dstOk k.pins o = true) (hd : Nat.blt d k.n = true)
    (hfree : e.free d = true) (hv : newF P e o = some v) (h : JL P k ops rest ((d, v) :: e) Q) : JL P k ops (o :: rest) e Q := by
  have hd' : d < k.n := by simpa [Nat.blt_eq] using hd
  have h' := JL.eqv (cons_eqv e d v) h
  refine JL.op hw hp ?_
  unfold makes at hmk
  split at hmk
  · rename_i ho; exact alloc_ok ho hdst hd' hfree hv h'
  · rename_i ho; exact box_ok ho hdst hd' hfree hv h'
  · rename_i ho; exact buildSlice_ok ho hdst hd' hfree hv h'
  · rename_i ho; exact makeSlice_ok ho hdst hd' hfree hv h'
  · rename_i ho; exact bytesNew_ok ho hdst hd' hfree hv h'
  · cases hmk

theorem JL.app (hw : ∀ a w, Sim k.w0 k.g0 k.n e a w → Region.wanted o (yielded ops a.tmps) = true) {xs : Array Operand} {ts : Array TypeId} (ho : o.op = .call { callee := .builtin .append, args := xs, argTypes := ts }) (hdst : o.dst = some d)
    (hp : dstOk k.pins o = true) (hd : Nat.blt d k.n = true) (hv : appF P e xs.toList ts.toList = some (e1, v)) (hf : e.free d = true) (hf1 : e1.free d = true) (hu : (e.get d).isUn = true)
    (h : JL P k ops rest ((d, v) :: e1) Q) : JL P k ops (o :: rest) e Q := by
  have hd' : d < k.n := by simpa [Nat.blt_eq] using hd
  exact JL.op hw hp (append_ok ho hdst hd' hv hf hf1 hu (JL.eqv (cons_eqv e1 d v) h))

theorem JL.sto (hw : ∀ a w, Sim k.w0 k.g0 k.n e a w → Region.wanted o (yielded ops a.tmps) = true) {t : TypeId} {x y : Operand} {vx vy : V} (ho : o.op = .store t x y) (hdst : o.dst = none) (hx : e.rd x = vx) (hy : e.rd y = vy)
    (hv : storeV P e t vx vy = some e') (h : JL P k ops rest e' Q) : JL P k ops (o :: rest) e Q := by
  subst hx; subst hy
  exact JL.op hw (by simp only [dstOk, hdst]) (store_ok ho hdst hv h)

end
end Go.Vx

namespace Go.Vx
open Go Go.RowKit Go.Great

section
variable {P : Program} {k : Ctx} {ops : Array Oper} {e e' e1 : Env} {Q : Exit → Env → Prop} {o : Oper} {rest : List Oper} {d : Nat} {v : V}

/-- A row's elements at first. -/
def zeroRow (P : Program) (el z : Nat) (n : Nat) : Option V :=
  match zeroC P el, (tinfo P el).cells with
  | some zs, some m => if zs.length = z ∧ m = z ∧ zs.all V.plain ∧ 0 < z then some (.ow z (List.replicate n (.ag zs))) else none
  | some [x], none => if z = 1 ∧ x.plain then some (.ow 1 (List.replicate n x)) else none
  | _, _ => none

theorem JL.mk (hw : ∀ a w, Sim k.w0 k.g0 k.n e a w → Region.wanted o (yielded ops a.tmps) = true) {t el z nb : Nat} {l c : Operand} {k1 k2 : IntKind} {a b : Int} (ho : o.op = .makeSlice t l c) (hdst : o.dst = some d) (hp : dstOk k.pins o = true)
    (hd : Nat.blt d k.n = true) (hfree : e.free d = true) (hl : e.rd l = .i k1 a) (hc : e.rd c = .i k2 b) (ht : tinfo P t = .slice el z nb) (hv : zeroRow P el z a.toNat = some v)
    (h0 : 0 ≤ a ∧ a ≤ b ∧ b * nb ≤ 140737488355328 ∧ b ≤ 140737488355328) (h : JL P k ops rest ((d, v) :: e) Q) : JL P k ops (o :: rest) e Q := by
  refine JL.new hw (by simp only [makes, ho]) hdst hp hd hfree ?_ h
  simp only [newF, ho, ht, hl, hc]
  rw [if_pos h0]
  exact hv

theorem JL.idx (hw : ∀ a w, Sim k.w0 k.g0 k.n e a w → Region.wanted o (yielded ops a.tmps) = true) {t : Nat} {x i : Operand} {vx vi : V} (ho : o.op = .indexAddr t x i) (hdst : o.dst = some d) (hp : dstOk k.pins o = true)
    (hd : dOk k.n o.dst = true) (hx : e.rd x = vx) (hi : e.rd i = vi) (hv : idxAd P e t vx vi = some v) (h : JL P k ops rest ((d, v) :: e) Q) : JL P k ops (o :: rest) e Q :=
  JL.pure hw hdst hp hd (by simp only [pureF, ho, valF, hx, hi]; exact hv) h

theorem JL.ld (hw : ∀ a w, Sim k.w0 k.g0 k.n e a w → Region.wanted o (yielded ops a.tmps) = true) {t : Nat} {x : Operand} {vx : V} (ho : o.op = .load t x) (hdst : o.dst = some d) (hp : dstOk k.pins o = true)
    (hd : dOk k.n o.dst = true) (hx : e.rd x = vx) (hv : loadV P e t vx = some v) (h : JL P k ops rest ((d, v) :: e) Q) : JL P k ops (o :: rest) e Q :=
  JL.pure hw hdst hp hd (by simp only [pureF, ho, valF, hx]; exact hv) h

theorem JL.fld (hw : ∀ a w, Sim k.w0 k.g0 k.n e a w → Region.wanted o (yielded ops a.tmps) = true) {t f : Nat} {x : Operand} {vx : V} (ho : o.op = .fieldAddr t x f) (hdst : o.dst = some d) (hp : dstOk k.pins o = true)
    (hd : dOk k.n o.dst = true) (hx : e.rd x = vx) (hv : fldAd P t vx f = some v) (h : JL P k ops rest ((d, v) :: e) Q) : JL P k ops (o :: rest) e Q :=
  JL.pure hw hdst hp hd (by simp only [pureF, ho, valF, hx]; exact hv) h

end
end Go.Vx

namespace Go.Vx
open Go Go.RowKit Go.Great

section
variable {P : Program} {k : Ctx} {ops : Array Oper} {e e' : Env} {Q : Exit → Env → Prop} {l : List Oper}

theorem adopt_eq {t s : Nat} {q r : Path} {z : Nat} {xs : List V} (hts : (t == s) = false) (h1 : e.at ((t + 2) :: q) = some (.ow z xs)) (h2 : (e.shed ((s + 2) :: r).isPrefixOf).at ((s + 2) :: r) = some (.al ((t + 2) :: q)))
    (he : ((((e.shed ((s + 2) :: r).isPrefixOf).putAt ((t + 2) :: q) .un).ren (renP ((t + 2) :: q) ((s + 2) :: r))).putAt ((s + 2) :: r) (.ow z xs)) = e') : e.adopt ((t + 2) :: q) ((s + 2) :: r) = some e' := by
  have : ¬ t = s := by simpa using hts
  subst he
  simp only [Env.adopt, if_neg this, h1, h2, if_true]

theorem J.adoptL (t s : Nat) (q r : Path) {z : Nat} {xs : List V} {c : Code} (hts : (t == s) = false) (h1 : e.at ((t + 2) :: q) = some (.ow z xs)) (h2 : (e.shed ((s + 2) :: r).isPrefixOf).at ((s + 2) :: r) = some (.al ((t + 2) :: q)))
    (he : ((((e.shed ((s + 2) :: r).isPrefixOf).putAt ((t + 2) :: q) .un).ren (renP ((t + 2) :: q) ((s + 2) :: r))).putAt ((s + 2) :: r) (.ow z xs)) = e') (h : J P k c e' Q) : J P k c e Q :=
  J.adopt (adopt_eq hts h1 h2 he) h

theorem Norm.adoptL {w0 : World} {g0 : Gh} {n : Nat} (t s : Nat) (q r : Path) {z : Nat} {xs : List V} (hts : (t == s) = false) (h1 : e.at ((t + 2) :: q) = some (.ow z xs)) (h2 : (e.shed ((s + 2) :: r).isPrefixOf).at ((s + 2) :: r) = some (.al ((t + 2) :: q)))
    (he : ((((e.shed ((s + 2) :: r).isPrefixOf).putAt ((t + 2) :: q) .un).ren (renP ((t + 2) :: q) ((s + 2) :: r))).putAt ((s + 2) :: r) (.ow z xs)) = e') : Norm w0 g0 n e e' := Norm.adopt (adopt_eq hts h1 h2 he)

theorem Norm.pick {w0 : World} {g0 : Gh} {n : Nat} (ts : List Nat) (he : e.pick ts = e') : Norm w0 g0 n e e' := Norm.less fun t => by rw [← he]; exact pick_get e ts t

end
end Go.Vx

namespace Go.Vx
open Go Go.RowKit Go.Great

theorem toB_byteV (b : UInt8) : toB (byteV b) = some b := by
  simp only [toB, byteV]
  congr 1
  simp

theorem allB_byteV : ∀ l : List UInt8, allB (l.map byteV) = some l
  | [] => rfl
  | b :: r => by simp only [List.map_cons, allB, toB_byteV, allB_byteV r]

section
variable {P : Program} {k : Ctx} {ops : Array Oper} {e e' e1 : Env} {Q : Exit → Env → Prop} {o : Oper} {rest : List Oper} {d : Nat} {v : V}

/-- A row of parts. -/
theorem JL.bs (hw : ∀ a w, Sim k.w0 k.g0 k.n e a w → Region.wanted o (yielded ops a.tmps) = true) {t el z nb len : Nat} {parts : Array (Nat × Operand)} {vs : List V} (ho : o.op = .buildSlice t len parts) (hdst : o.dst = some d)
    (hp : dstOk k.pins o = true) (hd : Nat.blt d k.n = true) (hfree : e.free d = true) (ht : tinfo P t = .slice el z nb) (hix : parts.toList.map (·.1) = List.range len) (hv : parts.toList.map (fun p => e.rd p.2) = vs)
    (hz : (decide (len * z ≤ 16777216) && decide (0 < z) && (zeroC P el).isSome) = true) (hall : (V.allW z vs && V.allFlat vs) = true) (h : JL P k ops rest ((d, .ow z vs) :: e) Q) : JL P k ops (o :: rest) e Q := by
  simp only [Bool.and_eq_true, decide_eq_true_eq] at hz hall
  refine JL.new hw (by simp only [makes, ho]) hdst hp hd hfree ?_ h
  simp only [newF, ho, ht, hv]
  rw [if_pos ⟨hix, hz.1.1, hz.1.2, hz.2, hall.1, hall.2⟩]

/-- Appending to a row that is owned. -/
theorem JL.ap (hw : ∀ a w, Sim k.w0 k.g0 k.n e a w → Region.wanted o (yielded ops a.tmps) = true) {x y : Operand} {t t2 el z nb : Nat} {p : Path} {xs ys : List V} {vy : V}
    (ho : o.op = .call { callee := .builtin .append, args := #[x, y], argTypes := #[t, t2] }) (hdst : o.dst = some d) (hp : dstOk k.pins o = true) (hd : Nat.blt d k.n = true)
    (ht : tinfo P t = .slice el z nb) (hx : e.rd x = .al p) (hat : e.at p = some (.ow z xs)) (hy : e.rd y = vy) (hs : srcOf e z vy = some ys) (hc : (decide (0 < z) && srcTy P t2 && (match (zeroC P el).map List.length with
      | some m => m == z
      | none => false)) = true)
    (hsz : (xs.length + ys.length) * nb ≤ 140737488355328 ∧ xs.length + ys.length ≤ 140737488355328) (he : e.putAt p .un = e1) (hf : e.free d = true) (hf1 : e1.free d = true) (hu : (e.get d).isUn = true)
    (h : JL P k ops rest ((d, .ow z (xs ++ ys)) :: e1) Q) : JL P k ops (o :: rest) e Q := by
  refine JL.app hw ho hdst hp hd ?_ hf hf1 hu h
  simp only [Bool.and_eq_true, decide_eq_true_eq] at hc
  obtain ⟨⟨h1, h2⟩, h3⟩ := hc
  have h4 : (zeroC P el).map List.length = some z := by
    split at h3
    · rename_i m hm; rw [hm]; simp at h3; rw [h3]
    · cases h3
  simp only [appF, ht, hy, hs, hx, hat]
  rw [if_pos ⟨h1, h2, h4⟩, if_pos ⟨trivial, hsz.1, hsz.2⟩, he]

/-- Appending to nothing. -/
theorem JL.apN (hw : ∀ a w, Sim k.w0 k.g0 k.n e a w → Region.wanted o (yielded ops a.tmps) = true) {x y : Operand} {t t2 el z nb : Nat} {ys : List V} {vy : V}
    (ho : o.op = .call { callee := .builtin .append, args := #[x, y], argTypes := #[t, t2] }) (hdst : o.dst = some d) (hp : dstOk k.pins o = true) (hd : Nat.blt d k.n = true)
    (ht : tinfo P t = .slice el z nb) (hx : e.rd x = .nl) (hy : e.rd y = vy) (hs : srcOf e z vy = some ys) (hc : (decide (0 < z) && srcTy P t2 && (match (zeroC P el).map List.length with
      | some m => m == z
      | none => false)) = true)
    (hsz : ys.length * nb ≤ 140737488355328 ∧ ys.length ≤ 140737488355328) (hf : e.free d = true) (hu : (e.get d).isUn = true)
    (h : JL P k ops rest ((d, .ow z ys) :: e) Q) : JL P k ops (o :: rest) e Q := by
  refine JL.app hw ho hdst hp hd ?_ hf hf hu h
  simp only [Bool.and_eq_true, decide_eq_true_eq] at hc
  obtain ⟨⟨h1, h2⟩, h3⟩ := hc
  have h4 : (zeroC P el).map List.length = some z := by
    split at h3
    · rename_i m hm; rw [hm]; simp at h3; rw [h3]
    · cases h3
  simp only [appF, ht, hy, hs, hx]
  rw [if_pos ⟨h1, h2, h4⟩, if_pos hsz]

/-- Bytes as text. -/
theorem JL.cvs (hw : ∀ a w, Sim k.w0 k.g0 k.n e a w → Region.wanted o (yielded ops a.tmps) = true) {x : Operand} {src dst' t nb : Nat} {vx : V} {xs : List V} {l : List UInt8} (ho : o.op = .convert src dst' x) (hdst : o.dst = some d) (hp : dstOk k.pins o = true)
    (hd : dOk k.n o.dst = true) (hx : e.rd x = vx) (hs : tinfo P src = .slice t 1 nb) (ht : P.underlying t = some (.int .u8)) (hd2 : tinfo P dst' = .str) (hrow : e.row vx = some xs) (hl : allB xs = some l)
    (h : JL P k ops rest ((d, .s l) :: e) Q) : JL P k ops (o :: rest) e Q := by
  refine JL.pure hw hdst hp hd ?_ h
  simp only [pureF, ho, valF, hx]
  cases vx <;> first | (simp [Env.row] at hrow; done) | (simp only [hs, hd2, ht, hrow, hl, Option.map_some])

end
end Go.Vx

namespace Go.Vx
open Go Go.RowKit Go.Great

/-- One operation of such a region: it runs, or it is passed over. -/
def GStep (P : Program) (k : Ctx) (ops : Array Oper) (e : Env) (dv : List (Nat × V)) (o : Oper) (d : Nat) (v : V) (B : List Nat) : Prop :=
  ∀ e', AtL e e' dv B → ((∀ a w, Sim k.w0 k.g0 k.n e' a w → Region.wanted o (yielded ops a.tmps) = true) ∧ OpOk P k.w0 k.g0 k.n o e' (fun e'' => e''.Eqv (e'.set d v))) ∨
    ((∀ a w, Sim k.w0 k.g0 k.n e' a w → Region.wanted o (yielded ops a.tmps) = false) ∧ v = .tp [])

def anyR (f : Nat → Bool) : List Nat → Bool
  | [] => false
  | b :: r => match f b with
    | true => true
    | false => anyR f r
theorem anyR_ex {f : Nat → Bool} : ∀ {l : List Nat}, anyR f l = true → ∃ b ∈ l, f b = true
  | [], h => by cases h
  | b :: r, h => by
    simp only [anyR] at h
    split at h
    · rename_i hb; exact ⟨b, List.mem_cons_self .., hb⟩
    · obtain ⟨c, hc, hf⟩ := anyR_ex h; exact ⟨c, List.mem_cons_of_mem _ hc, hf⟩
def memR (t : Nat) : List Nat → Bool
  | [] => false
  | x :: r => match Nat.beq x t with
    | true => true
    | false => memR t r
theorem memR_mem {t : Nat} : ∀ {l : List Nat}, memR t l = true → t ∈ l
  | [], h => by cases h
  | x :: r, h => by
    simp only [memR] at h
    split at h
    · rename_i hb; rw [Nat.eq_of_beq_eq_true hb]; exact List.mem_cons_self ..
    · exact List.mem_cons_of_mem _ (memR_mem h)
/-- Operation i is before j, in so many steps. -/
def reach (all : List Oper) (i : Nat) : Nat → Nat → Bool
  | 0, _ => false
  | f + 1, j => match all[j]? with
    | some o => match memR i (before o) with
      | true => true
      | false => anyR (fun b => match Nat.blt i b with
        | true => reach all i f b
        | false => false) (before o)
    | none => false

/-- What of dv can stand while operation i has not run: what comes behind i cannot. -/
def lateR (all : List Oper) (i : Nat) : Nat → List (Nat × V) → List (Nat × V)
  | _, [] => []
  | j, x :: r => (x.1, if reach all i 4 j = true then .un else x.2) :: lateR all i (j + 1) r

theorem lateR_get (all : List Oper) (i : Nat) : ∀ (dv : List (Nat × V)) (k j : Nat), (lateR all i k dv)[j]? = (dv[j]?).map fun x => (x.1, if reach all i 4 (k + j) = true then .un else x.2)
  | [], _, _ => by simp [lateR]
  | x :: r, k, j => by
    cases j with
    | zero => simp only [lateR, List.getElem?_cons_zero, Option.map_some, Nat.add_zero]
    | succ j =>
      simp only [lateR, List.getElem?_cons_succ]
      rw [lateR_get all i r (k + 1) j, show k + 1 + j = k + (j + 1) by omega]

theorem lateR_map (all : List Oper) (i : Nat) : ∀ (dv : List (Nat × V)) (k : Nat), (lateR all i k dv).map (·.1) = dv.map (·.1)
  | [], _ => rfl
  | x :: r, k => by simp only [lateR, List.map_cons, lateR_map all i r (k + 1)]

/-- From k down, each is before one of S, or of one that is, or is late. -/
def coverL (late : List Nat) (ops : Array Oper) : Nat → List Nat → Prop
  | 0, _ => True
  | k + 1, S => (k ∈ S ∧ ∀ o, ops[k]? = some o → coverL late ops k (before o ++ S)) ∨ (k ∈ late ∧ coverL late ops k S)

structure DrawOk2 (P : Program) (k : Ctx) (ops : Array Oper) (e : Env) (dv : List (Nat × V)) (late : List Nat) : Prop where
  size : dv.length ≤ ops.size
  nodup : (dv.map (·.1)).Nodup
  clear : ∀ x ∈ dv, e.get x.1 = .un
  op : ∀ (i : Nat) (o : Oper) (x : Nat × V), ops[i]? = some o → dv[i]? = some x → dstOk k.pins o = true ∧ o.dst = some x.1 ∧ x.1 < k.n ∧ ∃ B, (∀ j ∈ B, j ∈ before o) ∧ GStep P k ops e (lateR ops.toList i 0 dv) o x.1 x.2 B
  back : ∀ (i : Nat) (o : Oper), ops[i]? = some o → ∀ y ∈ o.after.toList, edgeAll y = true → y.on < i
  tail1 : ∀ (i : Nat) (o : Oper), ops[i]? = some o → dv.length < i → i - 1 ∈ before o
  tail0 : ∀ (o : Oper), ops[dv.length]? = some o → coverL late ops dv.length (before o)
  late : ∀ j ∈ late, ∀ (o : Oper) (x : Nat × V), ops[j]? = some o → dv[j]? = some x → (∀ (i : Nat) (oi : Oper), ops[i]? = some oi → i ≠ j → i ∈ before o ∨ j ∈ before oi ∨ o.apart ops oi = true) ∧
    ∀ e', AtL e e' (lateR ops.toList j 0 dv) (before o) → ∀ a w, Sim k.w0 k.g0 k.n e' a w → ∃ u, Yields P ops o u a ∧ Sim k.w0 k.g0 k.n (e'.set x.1 x.2) (a.put o.dst u) w
  nosel : ∀ (j : Nat) (o : Oper) cs b, ops[j]? = some o → o.op ≠ .select cs b

section
variable {P : Program} {k : Ctx} {ops : Array Oper} {e : Env} {dv : List (Nat × V)} {Q : Exit → Env → Prop} {late : List Nat}

theorem binds_any {y : Edge} (h : Region.binds .any y = true) : edgeAll y = true := by
  unfold Region.binds at h
  unfold edgeAll
  split at h <;> simp_all

theorem draw2_tail (hk : DrawOk2 P k ops e dv late) : ∀ (fuel q : Nat) (listed : Array Bool) (a : Act) (w : World), dv.length ≤ q → q ≤ ops.size → ops.size - q ≤ fuel → listed.size = ops.size →
    (∀ j, j < ops.size → listed.getD j true = decide (j < q)) → wpList P ops (lift k Q) (ops.toList.drop q) a w → wpAny P .any ops (lift k Q) fuel listed a w := by
  intro fuel
  induction fuel with
  | zero =>
    intro q listed a w h1 h2 h3 h4 h5 h
    have hq : q = ops.size := by omega
    subst hq
    rw [List.drop_eq_nil_of_le (by simp)] at h
    refine ⟨?_, h⟩
    refine List.eq_nil_iff_forall_not_mem.2 (fun i hi => ?_)
    obtain ⟨o, ho, hl, _⟩ := mem_ready.1 hi
    have hlt := (Array.getElem?_eq_some_iff.1 ho).1
    rw [h5 i hlt] at hl
    simp at hl
    omega
  | succ fuel ih =>
    intro q listed a w h1 h2 h3 h4 h5 h
    by_cases hq : q = ops.size
    · subst hq
      rw [List.drop_eq_nil_of_le (by simp)] at h
      refine ⟨fun _ => h, fun i hi => ?_⟩
      obtain ⟨o, ho, hl, _⟩ := mem_ready.1 hi
      have hlt := (Array.getElem?_eq_some_iff.1 ho).1
      rw [h5 i hlt] at hl
      simp at hl
      omega
    · have hlt : q < ops.size := by omega
      have hoq : ops[q]? = some ops[q] := Array.getElem?_eq_getElem hlt
      have hready : q ∈ Region.ready .any ops listed := mem_ready.2 ⟨_, hoq, by rw [h5 q hlt]; simp, fun y hy hyb => by
        have hb := hk.back q _ hoq y hy (binds_any hyb)
        rw [getD_any (by omega) false true, h5 y.on (by omega)]
        exact decide_eq_true hb⟩
      refine ⟨fun h0 => absurd (h0 ▸ hready) List.not_mem_nil, fun i hi => ?_⟩
      obtain ⟨o, ho, hl, hed⟩ := mem_ready.1 hi
      have hil := (Array.getElem?_eq_some_iff.1 ho).1
      have hiq : i = q := by
        rw [h5 i hil] at hl
        simp at hl
        refine Classical.byContradiction fun hne => ?_
        have hb := hk.tail1 i o ho (by omega)
        simp only [before, List.mem_map, List.mem_filter] at hb
        obtain ⟨y, ⟨hy, hya⟩, hyi⟩ := hb
        have := hed y hy (edgeAll_binds hya .any)
        rw [getD_any (by omega) false true, h5 y.on (by omega)] at this
        simp at this
        omega
      subst hiq
      have hdrop : ops.toList.drop i = ops[i] :: ops.toList.drop (i + 1) := by
        rw [List.drop_eq_getElem_cons (by simpa using hlt)]
        simp
      rw [hdrop] at h
      have key : ∀ a w, wpList P ops (lift k Q) (ops.toList.drop (i + 1)) a w → wpAny P .any ops (lift k Q) fuel (listed.setIfInBounds i true) a w := by
        intro a w hh
        refine ih (i + 1) _ a w (by omega) (by omega) (by omega) (by simp [h4]) (fun j hj => ?_) hh
        rw [getD_set, h5 j hj]
        by_cases hij : i = j
        · subst hij; simp [h4, hlt]
        · simp only [hij, false_and, if_false]
          congr 1
          simp only [eq_iff_iff]
          omega
      unfold wpOp
      simp only [hoq]
      simp only [wpList] at h
      split
      · rename_i hw
        rw [if_pos hw] at h
        exact h.imp (Oper.wp_mono key) id
      · rename_i hw
        rw [if_neg hw] at h
        exact key _ _ h

/-- What is listed has all before it listed. -/
def Closed (ops : Array Oper) (listed : Array Bool) : Prop := ∀ i o, ops[i]? = some o → listed.getD i true = true → ∀ j ∈ before o, listed.getD j true = true

theorem reach_listed {listed : Array Bool} (hc : Closed ops listed) {i : Nat} : ∀ (f j : Nat), reach ops.toList i f j = true → listed.getD j true = true → listed.getD i true = true
  | 0, _, h, _ => by cases h
  | f + 1, j, h, hl => by
    simp only [reach] at h
    split at h
    · rename_i o ho
      rw [Array.getElem?_toList] at ho
      split at h
      · rename_i hm; exact hc j o ho hl i (memR_mem hm)
      · obtain ⟨b, hb, hf⟩ := anyR_ex h
        split at hf
        · exact reach_listed hc f b hf (hc j o ho hl b hb)
        · cases hf
    · cases h
theorem reach_lt (hb : ∀ (i : Nat) (o : Oper), ops[i]? = some o → ∀ b ∈ before o, b < i) {i : Nat} : ∀ (f j : Nat), reach ops.toList i f j = true → i < j
  | 0, _, h => by cases h
  | f + 1, j, h => by
    simp only [reach] at h
    split at h
    · rename_i o ho
      rw [Array.getElem?_toList] at ho
      split at h
      · rename_i hm; exact hb j o ho i (memR_mem hm)
      · obtain ⟨b, hbm, hf⟩ := anyR_ex h
        have := hb j o ho b hbm
        split at hf
        · have := reach_lt hb f b hf; omega
        · cases hf
    · cases h

theorem cover_all {listed : Array Bool} (hc : Closed ops listed) : ∀ (m : Nat) (S : List Nat), m ≤ ops.size → (∀ j ∈ S, listed.getD j true = true) → coverL late ops m S → ∀ j, j < m → j ∉ late → listed.getD j true = true
  | 0, _, _, _, _, j, hj, _ => by omega
  | m + 1, S, hm, hS, h, j, hj, hjl => by
    have hom : ops[m]? = some ops[m] := Array.getElem?_eq_getElem (by omega)
    rcases h with ⟨h1, h2⟩ | ⟨h1, h2⟩
    · by_cases hjm : j = m
      · subst hjm; exact hS j h1
      · refine cover_all hc m _ (by omega) (fun i hi => ?_) (h2 _ hom) j (by omega) hjl
        rcases List.mem_append.1 hi with hi | hi
        · exact hc m _ hom (hS m h1) i hi
        · exact hS i hi
    · by_cases hjm : j = m
      · subst hjm; exact (hjl h1).elim
      · exact cover_all hc m S (by omega) hS h2 j (by omega) hjl

theorem draw2_any (hk : DrawOk2 P k ops e dv late) (hQ : ∀ c e, ¬ Q (.panic c) e) (h : JL P k ops (ops.toList.drop dv.length) (e.sets dv) Q) : ∀ (fuel : Nat) (listed : Array Bool) (e' : Env) (a : Act) (w : World), listed.size = ops.size → Closed ops listed →
    (∀ i, dv.length ≤ i → i < ops.size → listed.getD i true = false) → (List.range dv.length).countP (fun i => !listed.getD i true) + (ops.size - dv.length) ≤ fuel → St e dv listed e' → k.sim e' a w →
    wpAny P .any ops (lift k Q) fuel listed a w := by
  intro fuel
  induction fuel with
  | zero =>
    intro listed e' a w h1 hcl h2 h3 h4 hs
    exact all hk h listed e' a w 0 h1 h2 h3 h4 hs (fun i hi => by
      have h0 : (List.range dv.length).countP (fun i => !listed.getD i true) = 0 := by omega
      have := List.countP_eq_zero.1 h0 i (by simpa using hi)
      simpa using this)
  | succ fuel ih =>
    intro listed e' a w h1 hcl h2 h3 h4 hs
    by_cases hall : ∀ i, i < dv.length → listed.getD i true = true
    · exact all hk h listed e' a w _ h1 h2 h3 h4 hs hall
    · obtain ⟨j0, hj0, hl0⟩ : ∃ j, j < dv.length ∧ listed.getD j true = false := by
        refine Classical.byContradiction fun hn => hall (fun i hi => ?_)
        cases hb : listed.getD i true with
        | true => rfl
        | false => exact (hn ⟨i, hi, hb⟩).elim
      have hsz := hk.size
      -- the least that has not run could
      obtain ⟨j, hj, hlj, hmin⟩ : ∃ j, j < dv.length ∧ listed.getD j true = false ∧ ∀ i, i < j → listed.getD i true = true := by
        have : ∀ n, ∀ j, j ≤ n → j < dv.length → listed.getD j true = false → ∃ j, j < dv.length ∧ listed.getD j true = false ∧ ∀ i, i < j → listed.getD i true = true := by
          intro n
          induction n with
          | zero => intro j hj hjl hl; exact ⟨j, hjl, hl, fun i hi => by omega⟩
          | succ n ih2 =>
            intro j hj hjl hl
            by_cases hex : ∃ i, i < j ∧ listed.getD i true = false
            · obtain ⟨i, hij, hli⟩ := hex
              exact ih2 i (by omega) (by omega) hli
            · refine ⟨j, hjl, hl, fun i hij => ?_⟩
              cases hb : listed.getD i true with
              | true => rfl
              | false => exact (hex ⟨i, hij, hb⟩).elim
        exact this j0 j0 (Nat.le_refl _) hj0 hl0
      have hoj : ops[j]? = some ops[j] := Array.getElem?_eq_getElem (by omega)
      have hr : j ∈ Region.ready .any ops listed := mem_ready.2 ⟨_, hoj, hlj, fun y hy hyb => by
        have hb := hk.back j _ hoj y hy (binds_any hyb)
        rw [getD_any (by omega) false true]
        exact hmin _ hb⟩
      -- one that may run
      have common : ∀ (i : Nat) (o : Oper), ops[i]? = some o → listed.getD i true = false → (∀ j ∈ before o, j < i ∧ listed.getD j true = true) → ∀ (him : i < dv.length) (B : List Nat), (∀ j ∈ B, j ∈ before o) →
          AtL e e' (lateR ops.toList i 0 dv) B ∧ ∀ a' w', k.sim (e'.set dv[i].1 dv[i].2) a' w' → wpAny P .any ops (lift k Q) fuel (listed.setIfInBounds i true) a' w' := by
        intro i o ho hl hbef him B hB
        have hdv : dv[i]? = some dv[i] := List.getElem?_eq_getElem him
        have hat : AtL e e' (lateR ops.toList i 0 dv) B := by
          have hlate : ∀ j, reach ops.toList i 4 j = true → listed.getD j true = false := by
            intro j hio
            cases hb : listed.getD j true with
            | false => rfl
            | true =>
              have := reach_listed hcl 4 j hio hb
              rw [hl] at this
              cases this
          refine ⟨fun t ht => h4.base t (fun x hx => ?_), fun j hj x hx => ?_, fun x hx => ?_⟩
          · have : x.1 ∈ (lateR ops.toList i 0 dv).map (·.1) := by rw [lateR_map]; exact List.mem_map.2 ⟨x, hx, rfl⟩
            obtain ⟨y, hy, hyx⟩ := List.mem_map.1 this
            rw [← hyx]; exact ht y hy
          · rw [lateR_get, Option.map_eq_some_iff] at hx
            obtain ⟨y, hy, rfl⟩ := hx
            have hb := hbef j (hB j hj)
            simp only
            rw [h4.ran j y hy, if_pos hb.2]
            simp only [Nat.zero_add]
            split
            · rename_i hio
              have := hlate j hio
              rw [hb.2] at this
              cases this
            · rfl
          · obtain ⟨j, hj⟩ := List.getElem?_of_mem hx
            rw [lateR_get, Option.map_eq_some_iff] at hj
            obtain ⟨y, hy, rfl⟩ := hj
            simp only [Nat.zero_add]
            rw [h4.ran j y hy]
            split
            · rename_i hjl
              split
              · rename_i hio
                have := hlate j hio
                rw [hjl] at this
                cases this
              · exact .inl rfl
            · exact .inr rfl
        have hcl' : Closed ops (listed.setIfInBounds i true) := by
          intro i' o' ho' hl' j hj
          have hj' : j ≠ i → listed.getD j true = true → (listed.setIfInBounds i true).getD j true = true := fun hne hlj => by
            rw [getD_set, if_neg (fun h => hne h.1.symm)]; exact hlj
          by_cases hii : i = i'
          · subst hii
            rw [ho] at ho'
            cases ho'
            have := hbef j hj
            exact hj' (by omega) this.2
          · rw [getD_set, if_neg (fun h => hii h.1)] at hl'
            by_cases hji : j = i
            · subst hji; rw [getD_set, if_pos ⟨rfl, by omega⟩]
            · exact hj' hji (hcl i' o' ho' hl' j hj)
        have hnext : ∀ a' w', k.sim (e'.set dv[i].1 dv[i].2) a' w' → wpAny P .any ops (lift k Q) fuel (listed.setIfInBounds i true) a' w' := by
          intro a' w' hs'
          refine ih (listed.setIfInBounds i true) (e'.set dv[i].1 dv[i].2) a' w' (by simp [h1]) hcl' (fun j hj hjl => ?_) ?_ ⟨fun t ht => ?_, fun j x hx => ?_⟩ hs'
          · rw [getD_set, if_neg (by omega)]
            exact h2 j hj hjl
          · have := count_drop (p := fun i => !listed.getD i true) (p' := fun j => !(listed.setIfInBounds i true).getD j true) List.nodup_range (i := i) (by simpa using him) (by simp [hl]) (by rw [getD_set, if_pos ⟨rfl, by omega⟩]; rfl)
              (fun j hj => by simp only [getD_set]; rw [if_neg (fun h => hj h.1.symm)])
            omega
          · rw [Env.get_set, if_neg (ht _ (List.getElem_mem him))]
            exact h4.base t ht
          · rw [Env.get_set, getD_set]
            by_cases hij : i = j
            · subst hij
              rw [hdv] at hx
              cases hx
              rw [if_pos rfl, if_pos (by rw [if_pos ⟨rfl, by omega⟩])]
            · have hne : dv[i].1 ≠ x.1 := by
                intro he2
                have hjl := (List.getElem?_eq_some_iff.1 hx).1
                have e2 := (List.getElem?_eq_some_iff.1 hx).2
                have hnd := List.pairwise_iff_getElem.1 hk.nodup
                rcases Nat.lt_or_gt_of_ne hij with hlt | hlt
                · have := hnd i j (by simpa using him) (by simpa using hjl) hlt
                  simp only [List.getElem_map, e2] at this
                  exact this he2
                · have := hnd j i (by simpa using hjl) (by simpa using him) hlt
                  simp only [List.getElem_map, e2] at this
                  exact this he2.symm
              rw [if_neg hne, if_neg (c := i = j ∧ i < listed.size) (fun h => hij h.1)]
              exact h4.ran j x hx
        exact ⟨hat, hnext⟩
      by_cases hA : ∃ j, j < dv.length ∧ listed.getD j true = false ∧ j ∉ late
      · obtain ⟨j1, hj1, hl1, hjn⟩ := hA
        refine ⟨fun h0 => (by rw [h0] at hr; cases hr), fun i hi => ?_⟩
        obtain ⟨o, ho, hl, hed⟩ := mem_ready.1 hi
        have hil := (Array.getElem?_eq_some_iff.1 ho).1
        have hbef : ∀ j ∈ before o, j < i ∧ listed.getD j true = true := by
          intro j hj
          simp only [before, List.mem_map, List.mem_filter] at hj
          obtain ⟨y, ⟨hy, hya⟩, rfl⟩ := hj
          have hb := hk.back i o ho y hy hya
          have := hed y hy (edgeAll_binds hya .any)
          exact ⟨hb, by rw [getD_any (by omega) true false]; exact this⟩
        have him : i < dv.length := by
          refine Classical.byContradiction fun hn => ?_
          by_cases hi0 : i = dv.length
          · subst hi0
            have := cover_all hcl dv.length _ hsz (fun j hj => (hbef j hj).2) (hk.tail0 o ho) j1 hj1 hjn
            rw [hl1] at this
            cases this
          · have := hbef _ (hk.tail1 i o ho (by omega))
            rw [h2 (i - 1) (by omega) (by omega)] at this
            cases this.2
        have hdv : dv[i]? = some dv[i] := List.getElem?_eq_getElem him
        obtain ⟨hp, hdst, hdn, B, hB, hstep⟩ := hk.op i o dv[i] ho hdv
        obtain ⟨hat, hnext⟩ := common i o ho hl hbef him B hB
        unfold wpOp
        simp only [ho]
        rcases hstep e' hat with ⟨hwt, hop⟩ | ⟨hwt, hv⟩
        · rw [if_pos (hwt a w hs.1)]
          left
          have hop := hop a w hs.1 (fun a' w' => ∃ e'', e''.Eqv (e'.set dv[i].1 dv[i].2) ∧ Sim k.w0 k.g0 k.n e'' a' w') (lift k Q) (fun e'' a' w' he hs' => ⟨e'', he, hs'⟩)
          refine Oper.wp_mono (fun a' w' hh => ?_) (Oper.wp_put hop)
          obtain ⟨⟨e'', he, hs'⟩, hkeep⟩ := hh
          exact hnext a' w' ⟨hs'.congr' he, fun t ht => by rw [hkeep t (dstOk_keep hp ht)]; exact hs.2 t ht⟩
        · rw [if_neg (by rw [hwt a w hs.1]; simp)]
          obtain ⟨g, hg⟩ := hs.1.holds
          have hd : dOk k.n o.dst = true := by rw [hdst]; simpa [dOk] using hdn
          have hset : Sim k.w0 k.g0 k.n (e'.setd o.dst (.tp [])) (a.put o.dst undef) w := hs.1.setd hg hd (fun ρ _ => .tup (arr := #[]) rfl (fun f x c hx => by simp at hx))
          rw [hdst] at hset
          refine hnext _ _ ⟨?_, fun t ht => ?_⟩
          · rw [hv, hdst]; exact hset
          · have := dstOk_keep hp ht
            rw [← hs.2 t ht, hdst]
            have : dv[i].1 ≠ t := fun e => this (by rw [hdst, e])
            simp [Act.put, Array.getD_eq_getD_getElem?, Array.getElem?_setIfInBounds, this]
      · -- what is left of these is late: it may as well run first
        have hjlate : j ∈ late := Classical.byContradiction fun hn => hA ⟨j, hj, hlj, hn⟩
        have hbef : ∀ i ∈ before ops[j], i < j ∧ listed.getD i true = true := by
          intro i hi
          simp only [before, List.mem_map, List.mem_filter] at hi
          obtain ⟨y, ⟨hy, hya⟩, rfl⟩ := hi
          have hb := hk.back j _ hoj y hy hya
          exact ⟨hb, hmin _ hb⟩
        have hdv : dv[j]? = some dv[j] := List.getElem?_eq_getElem hj
        obtain ⟨hp, hdst, hdn, _⟩ := hk.op j _ dv[j] hoj hdv
        obtain ⟨hap, hY⟩ := hk.late j hjlate _ dv[j] hoj hdv
        obtain ⟨hat, hnext⟩ := common j _ hoj hlj hbef hj (before ops[j]) (fun _ h => h)
        obtain ⟨u, hy, hsim⟩ := hY e' hat a w hs.1
        refine wpAny_first hoj hk.nosel (fun c a w hp => ?_) fuel listed a w (fun i oi hoi hij hun hno => ?_) hr hy (hnext _ _ ⟨hsim, fun t ht => ?_⟩)
        · obtain ⟨e, hq, _⟩ := hp; exact (hQ c e hq).elim
        · rcases hap i oi hoi hij with h | h | h
          · have := (hbef i h).2
            rw [hun] at this
            cases this
          · simp only [before, List.mem_map, List.mem_filter] at h
            obtain ⟨y, ⟨hy, hya⟩, hyj⟩ := h
            exact (hno y (by simpa using hy) (edgeAll_binds hya .any) hyj).elim
          · exact h
        · have := dstOk_keep hp ht
          rw [← hs.2 t ht, hdst]
          have : dv[j].1 ≠ t := fun e => this (by rw [hdst, e])
          simp [Act.put, Array.getD_eq_getD_getElem?, Array.getElem?_setIfInBounds, this]
where
  all (hk : DrawOk2 P k ops e dv late) (h : JL P k ops (ops.toList.drop dv.length) (e.sets dv) Q) (listed : Array Bool) (e' : Env) (a : Act) (w : World) (fuel : Nat) (h1 : listed.size = ops.size)
    (h2 : ∀ i, dv.length ≤ i → i < ops.size → listed.getD i true = false) (h3 : (List.range dv.length).countP (fun i => !listed.getD i true) + (ops.size - dv.length) ≤ fuel) (h4 : St e dv listed e') (hs : k.sim e' a w)
    (hall : ∀ i, i < dv.length → listed.getD i true = true) : wpAny P .any ops (lift k Q) fuel listed a w := by
      refine draw2_tail hk fuel dv.length listed a w (Nat.le_refl _) hk.size (by omega) h1 (fun j hj => ?_) (h a w ⟨hs.1.congr' (fun t => ?_), hs.2⟩)
      · by_cases hjm : j < dv.length
        · rw [hall j hjm]; simp [hjm]
        · rw [h2 j (by omega) hj]; simp [hjm]
      · by_cases ht : ∀ x ∈ dv, x.1 ≠ t
        · rw [h4.base t ht, sets_other dv e t ht]
        · obtain ⟨x, hx, rfl⟩ : ∃ x, x ∈ dv ∧ x.1 = t := Classical.byContradiction fun hn => ht (fun x hx he => hn ⟨x, hx, he⟩)
          obtain ⟨j, hj⟩ := List.getElem?_of_mem hx
          rw [h4.ran j x hj, if_pos (hall j (List.getElem?_eq_some_iff.1 hj).1), sets_get dv e hk.nodup x hx]

/-- A region whose order is drawn: all but the ordered tail in any order. -/
theorem J.draw2 {id : Nat} (hm : P.follows .mixedOrders = true) (hk : DrawOk2 P k ops e dv late) (hQ : ∀ c e, ¬ Q (.panic c) e) (h : JL P k ops (ops.toList.drop dv.length) (e.sets dv) Q) : J P k (.region id ops true) e Q := by
  intro a w hs
  refine wp_region_draw fun t => ?_
  have hinit : ∀ t, wpOps P ops (lift k Q) (Region.linearise .any ops t) a { w with drawn := w.drawn + 1 } := by
    intro t
    unfold Region.linearise
    have hfalse : ∀ i, i < ops.size → (Array.replicate ops.size false).getD i true = false := fun i hi => by simp [Array.getD_eq_getD_getElem?, hi]
    refine wpAny_sound _ _ _ _ _ (draw2_any hk hQ h ops.size (Array.replicate ops.size false) e a _ (by simp) (fun i o ho hl => ?_) (fun i _ hi => hfalse i hi) ?_ ⟨fun _ _ => rfl, fun i x hx => ?_⟩ ⟨hs.1.drew, hs.2⟩)
    · rw [hfalse i (Array.getElem?_eq_some_iff.1 ho).1] at hl; cases hl
    · have := List.countP_le_length (p := fun i => !(Array.replicate ops.size false).getD i true) (l := List.range dv.length)
      have h2 := hk.size
      simp only [List.length_range] at this
      omega
    · have hil := (List.getElem?_eq_some_iff.1 hx).1
      have h2 := hk.size
      rw [hk.clear x (List.mem_of_getElem? hx), hfalse i (by omega)]
      rfl
  unfold Region.schedule
  rw [hm]
  simp only [Bool.true_or, if_true]
  exact hinit _

end
end Go.Vx

namespace Go.Vx
open Go Go.RowKit Go.Great

/-- A state in such a region when operation i has not run and those of B have. -/
structure AtQ (e e' : Env) (dv : List (Nat × V)) (i : Nat) (B : List Nat) : Prop where
  base : ∀ t, (∀ x ∈ dv, x.1 ≠ t) → e'.get t = e.get t
  has : ∀ j ∈ B, ∀ x, dv[j]? = some x → e'.get x.1 = x.2
  own : ∀ x, dv[i]? = some x → e'.get x.1 = e.get x.1

structure DrawOk3 (P : Program) (k : Ctx) (ops : Array Oper) (e : Env) (dv : List (Nat × V)) : Prop where
  size : dv.length = ops.size
  nodup : (dv.map (·.1)).Nodup
  op : ∀ (i : Nat) (o : Oper) (x : Nat × V), ops[i]? = some o → dv[i]? = some x → o.guard = none ∧ dstOk k.pins o = true ∧ ∀ e', AtQ e e' dv i (before o) → OpOk P k.w0 k.g0 k.n o e' (fun e'' => e''.Eqv (e'.set x.1 x.2))
  back : ∀ (i : Nat) (o : Oper), ops[i]? = some o → ∀ b ∈ before o, b < i

structure St3 (e : Env) (dv : List (Nat × V)) (listed : Array Bool) (e' : Env) : Prop where
  base : ∀ t, (∀ x ∈ dv, x.1 ≠ t) → e'.get t = e.get t
  ran : ∀ i x, dv[i]? = some x → e'.get x.1 = if listed.getD i true then x.2 else e.get x.1

section
variable {P : Program} {k : Ctx} {ops : Array Oper} {e : Env} {dv : List (Nat × V)} {Q : Exit → Env → Prop}

theorem draw3_any (hk : DrawOk3 P k ops e dv) (h : JL P k ops [] (e.sets dv) Q) : ∀ (fuel : Nat) (listed : Array Bool) (e' : Env) (a : Act) (w : World), listed.size = ops.size →
    (List.range dv.length).countP (fun i => !listed.getD i true) ≤ fuel → St3 e dv listed e' → k.sim e' a w → wpAny P .any ops (lift k Q) fuel listed a w := by
  have fin : ∀ (listed : Array Bool) (e' : Env) (a : Act) (w : World), (∀ i, i < dv.length → listed.getD i true = true) → St3 e dv listed e' → k.sim e' a w → lift k Q .normal a w := by
    intro listed e' a w hall h4 hs
    refine h a w ⟨hs.1.congr' (fun t => ?_), hs.2⟩
    by_cases ht : ∀ x ∈ dv, x.1 ≠ t
    · rw [h4.base t ht, sets_other dv e t ht]
    · obtain ⟨x, hx, rfl⟩ : ∃ x, x ∈ dv ∧ x.1 = t := Classical.byContradiction fun hn => ht (fun x hx he => hn ⟨x, hx, he⟩)
      obtain ⟨j, hj⟩ := List.getElem?_of_mem hx
      rw [h4.ran j x hj, if_pos (hall j (List.getElem?_eq_some_iff.1 hj).1), sets_get dv e hk.nodup x hx]
  have hsz := hk.size
  intro fuel
  induction fuel with
  | zero =>
    intro listed e' a w h1 h3 h4 hs
    have hall : ∀ i, i < dv.length → listed.getD i true = true := fun i hi => by
      have h0 : (List.range dv.length).countP (fun i => !listed.getD i true) = 0 := by omega
      have := List.countP_eq_zero.1 h0 i (by simpa using hi)
      simpa using this
    refine ⟨?_, fin listed e' a w hall h4 hs⟩
    refine List.eq_nil_iff_forall_not_mem.2 (fun i hi => ?_)
    obtain ⟨o, ho, hl, _⟩ := mem_ready.1 hi
    have hlt := (Array.getElem?_eq_some_iff.1 ho).1
    rw [hall i (by omega)] at hl
    cases hl
  | succ fuel ih =>
    intro listed e' a w h1 h3 h4 hs
    by_cases hall : ∀ i, i < dv.length → listed.getD i true = true
    · refine ⟨fun _ => fin listed e' a w hall h4 hs, fun i hi => ?_⟩
      obtain ⟨o, ho, hl, _⟩ := mem_ready.1 hi
      have hlt := (Array.getElem?_eq_some_iff.1 ho).1
      rw [hall i (by omega)] at hl
      cases hl
    · obtain ⟨j0, hj0, hl0⟩ : ∃ j, j < dv.length ∧ listed.getD j true = false := by
        refine Classical.byContradiction fun hn => hall (fun i hi => ?_)
        cases hb : listed.getD i true with
        | true => rfl
        | false => exact (hn ⟨i, hi, hb⟩).elim
      obtain ⟨j, hj, hlj, hmin⟩ : ∃ j, j < dv.length ∧ listed.getD j true = false ∧ ∀ i, i < j → listed.getD i true = true := by
        have : ∀ n, ∀ j, j ≤ n → j < dv.length → listed.getD j true = false → ∃ j, j < dv.length ∧ listed.getD j true = false ∧ ∀ i, i < j → listed.getD i true = true := by
          intro n
          induction n with
          | zero => intro j hj hjl hl; exact ⟨j, hjl, hl, fun i hi => by omega⟩
          | succ n ih2 =>
            intro j hj hjl hl
            by_cases hex : ∃ i, i < j ∧ listed.getD i true = false
            · obtain ⟨i, hij, hli⟩ := hex
              exact ih2 i (by omega) (by omega) hli
            · refine ⟨j, hjl, hl, fun i hij => ?_⟩
              cases hb : listed.getD i true with
              | true => rfl
              | false => exact (hex ⟨i, hij, hb⟩).elim
        exact this j0 j0 (Nat.le_refl _) hj0 hl0
      have hoj : ops[j]? = some ops[j] := Array.getElem?_eq_getElem (by omega)
      have hr : j ∈ Region.ready .any ops listed := mem_ready.2 ⟨_, hoj, hlj, fun y hy hyb => by
        have hb := hk.back j _ hoj y.on (by simp only [before, List.mem_map, List.mem_filter]; exact ⟨y, ⟨hy, binds_any hyb⟩, rfl⟩)
        rw [getD_any (by omega) false true]
        exact hmin _ hb⟩
      refine ⟨fun h0 => (by rw [h0] at hr; cases hr), fun i hi => ?_⟩
      obtain ⟨o, ho, hl, hed⟩ := mem_ready.1 hi
      have hil := (Array.getElem?_eq_some_iff.1 ho).1
      have him : i < dv.length := by omega
      have hdv : dv[i]? = some dv[i] := List.getElem?_eq_getElem him
      obtain ⟨hg, hp, hstep⟩ := hk.op i o dv[i] ho hdv
      have hat : AtQ e e' dv i (before o) := by
        refine ⟨h4.base, fun j hj x hx => ?_, fun x hx => ?_⟩
        · have hb := hk.back i o ho j hj
          simp only [before, List.mem_map, List.mem_filter] at hj
          obtain ⟨y, ⟨hy, hya⟩, rfl⟩ := hj
          have := hed y hy (edgeAll_binds hya .any)
          rw [getD_any (by omega) false true] at this
          rw [h4.ran _ x hx, if_pos this]
        · rw [h4.ran i x hx, if_neg (by rw [hl]; simp)]
      unfold wpOp
      simp only [ho]
      rw [if_pos (wanted_none hg a)]
      left
      have hop := hstep e' hat a w hs.1 (fun a' w' => ∃ e'', e''.Eqv (e'.set dv[i].1 dv[i].2) ∧ Sim k.w0 k.g0 k.n e'' a' w') (lift k Q) (fun e'' a' w' he hs' => ⟨e'', he, hs'⟩)
      refine Oper.wp_mono (fun a' w' hh => ?_) (Oper.wp_put hop)
      obtain ⟨⟨e'', he, hs'⟩, hkeep⟩ := hh
      refine ih (listed.setIfInBounds i true) (e'.set dv[i].1 dv[i].2) a' w' (by simp [h1]) ?_ ⟨fun t ht => ?_, fun j x hx => ?_⟩ ⟨hs'.congr' he, fun t ht => by rw [hkeep t (dstOk_keep hp ht)]; exact hs.2 t ht⟩
      · have := count_drop (p := fun i => !listed.getD i true) (p' := fun j => !(listed.setIfInBounds i true).getD j true) List.nodup_range (i := i) (by simpa using him) (by simp [hl]) (by rw [getD_set, if_pos ⟨rfl, by omega⟩]; rfl)
          (fun j hj => by simp only [getD_set]; rw [if_neg (fun h => hj h.1.symm)])
        omega
      · rw [Env.get_set, if_neg (ht _ (List.getElem_mem him))]
        exact h4.base t ht
      · rw [Env.get_set, getD_set]
        by_cases hij : i = j
        · subst hij
          rw [hdv] at hx
          cases hx
          rw [if_pos rfl, if_pos (by rw [if_pos ⟨rfl, by omega⟩])]
        · have hne : dv[i].1 ≠ x.1 := by
            intro he2
            have hjl := (List.getElem?_eq_some_iff.1 hx).1
            have e2 := (List.getElem?_eq_some_iff.1 hx).2
            have hnd := List.pairwise_iff_getElem.1 hk.nodup
            rcases Nat.lt_or_gt_of_ne hij with hlt | hlt
            · have := hnd i j (by simpa using him) (by simpa using hjl) hlt
              simp only [List.getElem_map, e2] at this
              exact this he2
            · have := hnd j i (by simpa using hjl) (by simpa using him) hlt
              simp only [List.getElem_map, e2] at this
              exact this he2.symm
          rw [if_neg hne, if_neg (c := i = j ∧ i < listed.size) (fun h => hij h.1)]
          exact h4.ran j x hx

theorem J.draw3 {id : Nat} (hm : P.follows .mixedOrders = true) (hk : DrawOk3 P k ops e dv) (h : JL P k ops [] (e.sets dv) Q) : J P k (.region id ops true) e Q := by
  intro a w hs
  refine wp_region_draw fun t => ?_
  have hsz := hk.size
  have hinit : ∀ t, wpOps P ops (lift k Q) (Region.linearise .any ops t) a { w with drawn := w.drawn + 1 } := by
    intro t
    unfold Region.linearise
    have hfalse : ∀ i, i < ops.size → (Array.replicate ops.size false).getD i true = false := fun i hi => by simp [Array.getD_eq_getD_getElem?, hi]
    refine wpAny_sound _ _ _ _ _ (draw3_any hk h ops.size (Array.replicate ops.size false) e a _ (by simp) ?_ ⟨fun _ _ => rfl, fun i x hx => ?_⟩ ⟨hs.1.drew, hs.2⟩)
    · have := List.countP_le_length (p := fun i => !(Array.replicate ops.size false).getD i true) (l := List.range dv.length)
      simp only [List.length_range] at this
      omega
    · have hil := (List.getElem?_eq_some_iff.1 hx).1
      rw [hfalse i (by omega)]
      rfl
  unfold Region.schedule
  rw [hm]
  simp only [Bool.true_or, if_true]
  exact hinit _

/-- What has come so far has at least this. -/
theorem AtQ.less {eB e' : Env} {i : Nat} {B : List Nat} (h : AtQ e e' dv i B) (hB : ∀ t, eB.get t = .un ∨ (eB.get t = e.get t ∧ ∀ x ∈ dv, x.1 ≠ t)) (t : Nat) :
    (eB.sets (pickD dv B)).get t = .un ∨ (eB.sets (pickD dv B)).get t = e'.get t := by
  rcases sets_mem (pickD dv B) eB t with ⟨h1, h2⟩ | ⟨x, h1, h2, h3⟩
  · rcases hB t with h4 | ⟨h4, h5⟩
    · left; rw [h2, h4]
    · right; rw [h2, h4, h.base t h5]
  · right
    simp only [pickD, List.mem_filterMap] at h1
    obtain ⟨j, hj, hx⟩ := h1
    rw [h3, ← h2, h.has j hj x hx]

/-- A box that is stored anew. -/
def storeBx (P : Program) (t : TypeId) (cs : List V) (v : V) : Option V :=
  match tinfo P t with
  | .bad => none
  | ti => if v.cs.length = P.cellsOf t ∧ ti.cells.isSome = v.isAg ∧ v.noUn ∧ v.cs.length ≤ cs.length then some (.bx (setCells cs 0 v.cs)) else none

theorem storeBx_ok {t s : TypeId} {cs : List V} {v u : V} {e' : Env} (hs : e'.get s = .bx cs) (h : storeBx P t cs v = some u) : storeV P e' t (.ad [s + 2] 0) v = some (e'.set s u) := by
  unfold storeBx at h
  unfold storeV
  split at h
  · cases h
  · rename_i hb
    split at h
    · rename_i hc
      cases h
      obtain ⟨h1, h2, h3, h4⟩ := hc
      split
      · rename_i hb2; exact (hb hb2).elim
      · rw [if_pos ⟨h1, h2, h3⟩]
        have hat : e'.at [s + 2] = some (.bx cs) := by simp [Env.at, hs, V.sub]
        simp only [hat]
        rw [if_pos (by simpa using h4)]
        simp [Env.putAt, V.put]
    · cases h

theorem rd_up {E e' : Env} (hl : ∀ t, E.get t = .un ∨ E.get t = e'.get t) {x : Operand} (hn : (E.rd x).noUn = true) : e'.rd x = E.rd x := by
  cases x with
  | tmp t =>
    simp only [Env.rd] at hn ⊢
    rcases hl t with h | h
    · rw [h] at hn; simp [V.view, V.noUn, V.cs] at hn
    · rw [h]
  | _ => rfl

theorem Step3.pure {eB : Env} {o : Oper} {d : Nat} {v : V} {i : Nat} {B : List Nat} (hB : ∀ t, eB.get t = .un ∨ (eB.get t = e.get t ∧ ∀ x ∈ dv, x.1 ≠ t)) (hdst : o.dst = some d) (hd : d < k.n)
    (hv : pureF P (eB.sets (pickD dv B)) o = some v) : ∀ e', AtQ e e' dv i B → OpOk P k.w0 k.g0 k.n o e' (fun e'' => e''.Eqv (e'.set d v)) := by
  intro e' hat
  refine OpOk.val (v := v) (by rw [hdst]; simpa [dOk] using hd) (fun a w g h => ?_) ?_
  · have h' := h.less (hat.less hB)
    unfold pureF at hv
    split at hv
    · rename_i t parts ho
      exact build_ok ho hv h'
    · exact valF_ok hv h'
  · rw [hdst]; exact Env.Eqv.refl _

theorem Step3.store {eB : Env} {o : Oper} {t s : Nat} {x : Operand} {v : V} {cs : List V} {i : Nat} {B : List Nat} (hB : ∀ t, eB.get t = .un ∨ (eB.get t = e.get t ∧ ∀ x ∈ dv, x.1 ≠ t)) (ho : o.op = .store t (.tmp s) x) (hdst : o.dst = none)
    (hi : dv[i]? = some (s, v)) (hs : e.get s = .bx cs) (hv : storeBx P t cs ((eB.sets (pickD dv B)).rd x) = some v) :
    ∀ e', AtQ e e' dv i B → OpOk P k.w0 k.g0 k.n o e' (fun e'' => e''.Eqv (e'.set s v)) := by
  intro e' hat
  have hn : ((eB.sets (pickD dv B)).rd x).noUn = true := by
    unfold storeBx at hv
    split at hv
    · cases hv
    · split at hv
      · rename_i hc; exact hc.2.2.1
      · cases hv
  have hget : e'.get s = .bx cs := by rw [hat.own _ hi]; exact hs
  have hst := storeBx_ok (P := P) hget hv
  rw [← rd_up (hat.less hB) hn] at hst
  refine store_ok ho hdst (e' := e'.set s v) ?_ (Env.Eqv.refl _)
  simp only [Env.rd] at hst ⊢
  rw [hget]
  exact hst

end
end Go.Vx

namespace Go.Vx
open Go Go.RowKit Go.Great

mutual
theorem V.ren_id : ∀ v : V, v.ren (fun r => r) = v
  | .ag cs => by simp only [V.ren]; rw [V.ren_ids cs]
  | .tp cs => by simp only [V.ren]; rw [V.ren_ids cs]
  | .bx cs => by simp only [V.ren]; rw [V.ren_ids cs]
  | .i _ _ | .b _ | .s _ | .sl _ | .ow _ _ | .np | .nl | .fn _ | .lit _ | .un | .im _ | .al _ | .hd _ _ _ _ | .ad _ _ | .ae _ _ _ _ => rfl
theorem V.ren_ids : ∀ cs : List V, V.ren.go (fun r => r) cs = cs
  | [] => rfl
  | c :: r => by simp only [V.ren.go]; rw [V.ren_id c, V.ren_ids r]
end

/-- Strictly below a path. -/
def below : Path → Path → Bool
  | [], [] => false
  | [], _ :: _ => true
  | x :: p, y :: r => match Nat.beq x y with
    | true => below p r
    | false => false
  | _ :: _, [] => false

theorem below_of : ∀ {p r : Path} {j : Nat} {y : Path}, (p ++ j :: y) <+: r → below p r = true
  | [], [], j, y, h => by obtain ⟨l, hl⟩ := h; simp at hl
  | [], _ :: _, _, _, _ => rfl
  | x :: p, [], j, y, h => by obtain ⟨l, hl⟩ := h; simp at hl
  | x :: p, z :: r, j, y, h => by
    obtain ⟨l, hl⟩ := h
    simp only [List.cons_append, List.cons.injEq] at hl
    obtain ⟨rfl, hl⟩ := hl
    simp only [below, nbeq0]
    exact below_of (j := j) (y := y) ⟨l, hl⟩
where nbeq0 {x : Nat} : Nat.beq x x = true := by simp

section
variable {P : Program} {w0 w : World} {g0 g : Gh} {n : Nat} {e : Env} {a : Act}

/-- What was owned at one place is owned at another; neither place holds anything. -/
theorem Holds.takeTo {t s : Nat} {q r : Path} (h2 : Holds w0 g0 e a w g)
    (hrefs : ∀ x, ∀ r' ∈ (e.get x).refs, ¬ ((s + 2) :: r) <+: r')
    (hp : ∀ y u, e.at (((t + 2) :: q) ++ y) = some u → u.owns = false) (hπ : ∀ y u, e.at (((s + 2) :: r) ++ y) = some u → u.owns = false) :
    Holds w0 g0 e a w (g.take ((t + 2) :: q) ((s + 2) :: r)) := by
  refine ⟨⟨fun b b' y hb hb' => ?_, fun b y hb => ?_⟩, ⟨h2.fr.os, h2.fr.tape, h2.fr.output, h2.fr.size, fun b hb hk => ?_, fun y => ?_⟩, fun x => ?_⟩
  · rcases Gh.take_inv hb with ⟨y1, k1, rfl⟩ | ⟨k1, k2, k3⟩
    · rcases Gh.take_inv hb' with ⟨y2, k1', e2⟩ | ⟨k1', k2', k3'⟩
      · rw [List.append_cancel_left_eq] at e2; subst e2; exact h2.inj.1 b b' _ k1 k1'
      · exact (k3' (List.prefix_append _ _)).elim
    · rcases Gh.take_inv hb' with ⟨y2, k1', rfl⟩ | ⟨k1', k2', k3'⟩
      · exact (k3 (List.prefix_append _ _)).elim
      · exact h2.inj.1 b b' _ k1 k1'
  · rcases Gh.take_inv hb with ⟨y1, k1, rfl⟩ | ⟨k1, k2, k3⟩ <;> exact h2.inj.2 b _ k1
  · obtain ⟨k1, k2⟩ := h2.fr.keep b hb hk
    refine ⟨?_, k2⟩
    rcases hk with hk | ⟨y, hk⟩
    · rw [hk] at k1 ⊢; exact Gh.take_none k1
    · rw [hk] at k1 ⊢; exact Gh.take_other k1 (not_pre0 (by omega) _) (not_pre0 (by omega) _)
  · rw [Gh.take_vm (not_pre0 (by omega) _)]; exact h2.fr.vm0 y
  · have hbelow : ∀ (t0 : Nat) (q0 y : Path) (u : V), (∀ y u, e.at (((t0 + 2) :: q0) ++ y) = some u → u.owns = false) → (e.get x).sub y = some u → u.owns = true → ¬ ((t0 + 2) :: q0) <+: ([x + 2] ++ y) := by
      rintro t0 q0 y u hu0 hy ho ⟨l, hl⟩
      simp at hl
      obtain ⟨rfl, rfl⟩ := hl
      have := hu0 l u (by simp only [List.cons_append, Env.at]; exact hy)
      rw [this] at ho
      cases ho
    have := (h2.rep x).live (f := fun r => r) (w' := w) (g' := g.take ((t + 2) :: q) ((s + 2) :: r)) (ρ := [x + 2]) ⟨Nat.le_refl _, fun b _ hb => ⟨Gh.take_none hb, rfl⟩⟩
      ⟨fun y u hy ho b hb => ⟨Gh.take_other hb (hbelow t q y u hp hy ho) (hbelow s r y u hπ hy ho), rfl⟩, fun y u hy ho => Gh.take_vm (hbelow s r y u hπ hy ho)⟩ (fun r' hr' => Gh.take_vm (hrefs x r' hr'))
    rw [V.ren_id] at this
    exact this

/-- One element of a row is seen anew. -/
theorem Holds.rowElt (h : Holds w0 g0 e a w g) {s j z : Nat} {r : Path} {xs : List V} {y y' : V} (hat : e.at ((s + 2) :: r) = some (.ow z xs)) (hj : xs[j]? = some y)
    (hnew : ∀ blk o cap ch, g.vm ((s + 2) :: r) = .slice (some ⟨blk, o, none⟩) xs.length cap → ch.length = z → (∀ (q : Nat) (u : Value), ch[q]? = some u → w.cell? ⟨blk, o + j * z + q, none⟩ = some u) →
      RepC w g (some (((s + 2) :: r) ++ [j])) y ch → RepC w g (some (((s + 2) :: r) ++ [j])) y' ch) : Holds w0 g0 (e.putAt ((s + 2) :: r) (.ow z (xs.set j y'))) a w g := by
  have hjl := (List.getElem?_eq_some_iff.1 hj).1
  have key : ∀ c, RepC w g (some ((s + 2) :: r)) (.ow z xs) [c] → RepC w g (some ((s + 2) :: r)) (.ow z (xs.set j y')) [c] := by
    intro c hc
    rcases hc.ow_inv with ⟨rfl, _⟩ | ⟨blk, o, cap, cur, ty, ch, rfl, hl, hv, hb, hcap, hmax, hroom, hzz, hcc, hr⟩
    · simp at hjl
    · have hlen : (xs.set j y').length = xs.length := by simp
      have := RepC.ow (w := w) (g := g) (π := (s + 2) :: r) (xs := xs.set j y') blk o z cap cur ty ch hl (by rw [hlen]; exact hv) hb (by rw [hlen]; exact hcap) hmax hroom (by rw [hlen]; exact hzz) (by rw [hlen]; exact hcc)
        (fun i x hi => by
          rcases kid_cases hj hi with ⟨rfl, rfl⟩ | ⟨hne, hi⟩
          · exact hnew blk o cap (ch i) hv (hzz i hjl) (fun q u hq => by rw [hb.cell]; exact hcc i hjl q u hq) (hr i y hj)
          · exact hr i x hi)
      rw [hlen] at this
      exact this
  refine h.putSame hat (fun cs hcs => ?_) (fun cs hcs => ?_) (fun c hc => ?_)
  · obtain ⟨c, rfl⟩ := hcs.width (by simp)
    exact key c hcs
  · cases hcs with
    | c hcs =>
      obtain ⟨c, rfl⟩ := hcs.width (by simp)
      exact .c (key c hcs)
  · cases hc with
    | one _ hc => cases hc with
      | c hcs => exact .one (by simp) (.c (key c hcs))

theorem Holds.forget (h : Holds w0 g0 e a w g) {t z : Nat} {q : Path} {xs : List V} (hat : e.at ((t + 2) :: q) = some (.ow z xs)) :
    Holds w0 g0 (e.putAt ((t + 2) :: q) .un) a w g ∧ ∀ y u, (e.putAt ((t + 2) :: q) .un).at (((t + 2) :: q) ++ y) = some u → u.owns = false := by
  refine ⟨h.putSame hat (fun cs hcs => by obtain ⟨c', rfl⟩ := hcs.width (by simp); exact .un) (fun _ _ => .un) (fun _ _ => .un), fun y u hu => ?_⟩
  have h1 := Env.at_putAt (x := .un) hat
  simp only [List.cons_append, Env.at] at h1 hu
  rw [sub_app, h1] at hu
  cases y with
  | nil => simp [V.sub] at hu; subst hu; rfl
  | cons j y => simp [V.sub, V.kids] at hu

/-- The rows that cells name move into the element's cells. -/
def Env.moveIn (p : Path) (z j : Nat) (xs : List V) : Env → List V → Nat → List V → Option Env
  | e, _, _, [] => some e
  | e, cs, k, v :: r => match v with
    | .al q => match e.at q with
      | some (.ow zq ys) => Env.moveIn p z j xs ((e.putAt q .un).putAt p (.ow z (xs.set j (.ag (cs.set k (.ow zq ys)))))) (cs.set k (.ow zq ys)) (k + 1) r
      | _ => none
    | _ => Env.moveIn p z j xs e cs (k + 1) r

theorem moveIn_ok {s z j : Nat} {r0 : Path} {xs : List V} {blk ob : Nat} (hj : j < xs.length) : ∀ (vs : List V) (e : Env) (cs : List V) (k : Nat) (g : Gh) (e' : Env), Holds w0 g0 e a w g →
    e.at ((s + 2) :: r0) = some (.ow z (xs.set j (.ag cs))) → (∀ x, ∀ r' ∈ (e.get x).refs, below ((s + 2) :: r0) r' = false) → (∃ cap, g.vm ((s + 2) :: r0) = .slice (some ⟨blk, ob, none⟩) xs.length cap) →
    (∀ i q, vs[i]? = some (.al q) → q.head? ≠ some (s + 2) ∧ w.cell? ⟨blk, ob + j * z + (k + i), none⟩ = some (g.vm q) ∧ cs[k + i]? = some .un) → Env.moveIn ((s + 2) :: r0) z j xs e cs k vs = some e' → ∃ g', Holds w0 g0 e' a w g'
  | [], e, cs, k, g, e', h, _, _, _, _, hf => by simp [Env.moveIn] at hf; subst hf; exact ⟨g, h⟩
  | v :: vs, e, cs, k, g, e', h, hat, hrefs, hvm, hal, hf => by
    have hother : (∀ q, v ≠ .al q) → ∃ g', Holds w0 g0 e' a w g' := by
      intro hv
      have hf' : Env.moveIn ((s + 2) :: r0) z j xs e cs (k + 1) vs = some e' := by
        cases v <;> first | exact hf | exact (hv _ rfl).elim
      exact moveIn_ok hj vs e cs (k + 1) g e' h hat hrefs hvm (fun i q hi => by have := hal (i + 1) q (by simpa using hi); rw [show k + 1 + i = k + (i + 1) by omega]; exact this) hf'
    cases v with
    | al q =>
      simp only [Env.moveIn] at hf
      split at hf
      · rename_i zq ys hq
        obtain ⟨hne, hcell, hun⟩ := hal 0 q rfl
        simp only [Nat.add_zero] at hcell hun
        match q, hq, hne, hcell, hf with
        | (t + 2) :: q, hq, hne, hcell, hf =>
          have hts : ¬ t = s := by simpa using hne
          obtain ⟨c, hrow, hc⟩ := h.at_ow hq
          obtain ⟨h1, hown⟩ := h.forget hq
          have hpq : ∀ y y' : Path, ¬ ((t + 2) :: y) <+: ((s + 2) :: y') := by rintro y y' ⟨x, hx⟩; simp at hx; omega
          have hqp : ∀ y y' : Path, ¬ ((s + 2) :: y) <+: ((t + 2) :: y') := by rintro y y' ⟨x, hx⟩; simp at hx; omega
          have hat1 : (e.putAt ((t + 2) :: q) .un).at ((s + 2) :: r0) = some (.ow z (xs.set j (.ag cs))) := by rw [Env.at_other (hpq _ _) (hqp _ _)]; exact hat
          have hjl : (xs.set j (V.ag cs))[j]? = some (.ag cs) := by simp [hj]
          have hrefs1 : ∀ x, ∀ r' ∈ ((e.putAt ((t + 2) :: q) .un).get x).refs, below ((s + 2) :: r0) r' = false := fun x r' hr' => by
            rcases Env.refs_putAt hr' with hr' | hr'
            · exact hrefs x r' hr'
            · simp [V.refs] at hr'
          have hπ : ∀ y u, (e.putAt ((t + 2) :: q) .un).at (((s + 2) :: (r0 ++ [j, k])) ++ y) = some u → u.owns = false := by
            intro y u hu
            simp only [List.cons_append, Env.at, List.append_assoc] at hu hat1
            rw [sub_app, hat1] at hu
            simp only [Option.bind_some, List.nil_append, V.sub, V.kids, hjl, hun] at hu
            cases y with
            | nil => simp [V.sub] at hu; subst hu; rfl
            | cons j y => simp [V.sub, V.kids] at hu
          have h2 := h1.takeTo (t := t) (q := q) (s := s) (r := r0 ++ [j, k]) (fun x r' hr' hpre => by
            have := hrefs1 x r' hr'
            rw [below_of (p := (s + 2) :: r0) (j := j) (y := [k]) (by simpa using hpre)] at this
            cases this) hown hπ
          have hnewrow : RepC w (g.take ((t + 2) :: q) ((s + 2) :: (r0 ++ [j, k]))) (some ((s + 2) :: (r0 ++ [j, k]))) (.ow zq ys) [c] :=
            hrow.live rfl ⟨Nat.le_refl _, fun b _ hb => ⟨Gh.take_none hb, rfl⟩⟩ ⟨fun y u _ _ b hb => ⟨Gh.take_under hb, rfl⟩, fun y u _ _ => Gh.take_vm'⟩
          have hvmp : ∀ y : Path, (∀ l, y ≠ r0 ++ [j, k] ++ l) → (g.take ((t + 2) :: q) ((s + 2) :: (r0 ++ [j, k]))).vm ((s + 2) :: y) = g.vm ((s + 2) :: y) := fun y hy => Gh.take_vm (by
            rintro ⟨l, hl⟩; simp at hl; exact hy l (by simpa using hl.symm))
          have hself : ∀ l, r0 ≠ r0 ++ [j, k] ++ l := by
            intro l hl
            have := congrArg List.length hl
            simp at this
          obtain ⟨cap, hvm⟩ := hvm
          have h3 := h2.rowElt (y' := .ag (cs.set k (.ow zq ys))) hat1 hjl (fun blk' o' cap' ch hv' hchl hcell' hy => by
            rw [hvmp r0 hself, hvm] at hv'
            simp at hv'
            obtain ⟨⟨rfl, rfl⟩, -⟩ := hv'
            obtain ⟨hn1, hk1⟩ := hy.ag_inv
            refine .ag (by simpa using hn1) (fun f x u hx hu => ?_)
            rcases kid_cases hun hx with ⟨rfl, rfl⟩ | ⟨hnf, hx⟩
            · have := hcell' _ u hu
              rw [hcell] at this
              cases this
              rw [← hc]
              simpa using hnewrow
            · exact hk1 f x u hx hu)
          rw [List.set_set] at h3
          refine moveIn_ok hj vs _ (cs.set k (.ow zq ys)) (k + 1) _ e' h3 (Env.at_putAt hat1) (fun x r' hr' => ?_) ⟨cap, by rw [hvmp r0 hself]; exact hvm⟩ (fun i q' hi => ?_) hf
          · rcases Env.refs_putAt hr' with hr' | hr'
            · exact hrefs1 x r' hr'
            · simp [V.refs] at hr'
          · obtain ⟨k1, k2, k3⟩ := hal (i + 1) q' (by simpa using hi)
            refine ⟨k1, ?_, ?_⟩
            · rw [show k + 1 + i = k + (i + 1) by omega, k2]
              rw [Gh.take_vm]
              rintro ⟨l, hl⟩
              rw [← hl] at k1
              simp at k1
            · rw [show k + 1 + i = k + (i + 1) by omega, List.getElem?_set, if_neg (by omega)]
              exact k3
        | [], hq, _, _, _ => simp [Env.at] at hq
        | [0], hq, _, _, _ => simp [Env.at] at hq
        | [1], hq, _, _, _ => simp [Env.at] at hq
        | 0 :: _ :: _, hq, _, _, _ => simp [Env.at] at hq
        | 1 :: _ :: _, hq, _, _, _ => simp [Env.at] at hq
      · cases hf
    | _ => exact hother (by simp)

def V.mask : V → V
  | .al _ => .un
  | v => v

/-- Plain, or the name of a row that lies elsewhere than at p. -/
def mvOk (p : Path) : V → Bool
  | .al q => match q, p with
    | x :: _, y :: _ => match Nat.beq x y with
      | true => false
      | false => true
    | _, _ => false
  | v => v.plain

theorem nbeq' {t u : Nat} : Nat.beq t u = decide (t = u) := by
  by_cases h : t = u
  · subst h; simp
  · rw [decide_eq_false h]
    cases hb : Nat.beq t u with
    | false => rfl
    | true => exact (h (Nat.eq_of_beq_eq_true hb)).elim

theorem mvOk_al {s : Nat} {r q : Path} (h : mvOk ((s + 2) :: r) (.al q) = true) : q.head? ≠ some (s + 2) := by
  cases q with
  | nil => simp [mvOk] at h
  | cons x q =>
    simp only [mvOk] at h
    split at h
    · cases h
    · rename_i hb
      rw [nbeq'] at hb
      simpa using hb

theorem mask_get {vs : List V} {i : Nat} {y : V} (h : (vs.map V.mask)[i]? = some y) : ∃ v, vs[i]? = some v ∧ y = v.mask := by
  rw [List.getElem?_map, Option.map_eq_some_iff] at h
  obtain ⟨v, h1, h2⟩ := h
  exact ⟨v, h1, h2.symm⟩

/-- A masked cell is a tree. -/
theorem mask_rep {p : Path} {v : V} {u : Value} (hm : mvOk p v = true) (hr : ∀ ρ, RepO w g ρ v [u]) (hl : v.loose = true) {w' : World} {g' : Gh} (hk : Keeps w g w' g') : ∀ o', RepC w' g' o' v.mask [u] := by
  intro o'
  cases v with
  | al q => exact .un
  | _ =>
    simp only [mvOk] at hm
    exact ((hr []).plain hm).keep hl hk o'

/-- A store of cells that name rows: the rows move. -/
def storeM (P : Program) (e : Env) (t : TypeId) (x v : V) : Option Env :=
  match tinfo P t with
  | .bad => none
  | ti =>
    if v.cs.length = P.cellsOf t ∧ ti.cells.isSome = v.isAg ∧ v.noUn then
    match x with
    | .ae p z j f =>
      if v.cs.all (mvOk p) then match (e.shed (below p)).at p with
        | some (.ow z' xs) => if z' = z then match xs[j]? with
          | some (.ag cs) => if f + v.cs.length ≤ cs.length ∧ cs.length = z then
              Env.moveIn p z j xs ((e.shed (below p)).putAt p (.ow z (xs.set j (.ag (setCells cs f (v.cs.map V.mask)))))) (setCells cs f (v.cs.map V.mask)) f v.cs
            else none
          | _ => none
          else none
        | _ => none
      else none
    | _ => none
    else none

theorem Holds.writeH (h : Holds w0 g0 e a w g) {t0 : Nat} {q : Path} {u u' : V} {blk : Nat} {cur' : Array Value} (hat : e.at ((t0 + 2) :: q) = some u) (hl : g.lab blk = some ((t0 + 2) :: q))
    (hC : ∀ cs, RepC w g (some ((t0 + 2) :: q)) u cs → RepC (w.setRow blk cur') g (some ((t0 + 2) :: q)) u' cs)
    (hO : ∀ cs, RepO w g ((t0 + 2) :: q) u cs → RepO (w.setRow blk cur') g ((t0 + 2) :: q) u' cs) (h1 : ∀ cs, u ≠ .ag cs) (h2 : ∀ cs, u ≠ .tp cs) (h3 : u ≠ .un) (h4 : ∀ cs, u' ≠ .ag cs) :
    Holds w0 g0 (e.putAt ((t0 + 2) :: q) u') a (w.setRow blk cur') g := by
  have hother : ∀ b, b ≠ blk → (w.setRow blk cur').heap[b]? = w.heap[b]? := fun b hb => setRow_other w blk b _ hb
  have hsz : (w.setRow blk cur').heap.size = w.heap.size := by simp [World.setRow]
  have himm : ∀ b, b < w.heap.size → g.lab b = none → g.lab b = none ∧ (w.setRow blk cur').heap[b]? = w.heap[b]? := fun b _ hb => ⟨hb, hother b (by rintro rfl; rw [hl] at hb; cases hb)⟩
  refine ⟨⟨h.inj.1, fun b p hb => by rw [hsz]; exact h.inj.2 b p hb⟩, ⟨h.fr.os, h.fr.tape, h.fr.output, by rw [hsz]; exact h.fr.size, fun b hb hk => ?_, h.fr.vm0⟩, fun t => ?_⟩
  · obtain ⟨k1, k2⟩ := h.fr.keep b hb hk
    refine ⟨k1, (hother b ?_).trans k2⟩
    rintro rfl
    rw [hl] at k1
    rcases hk with hk | ⟨r, hk⟩ <;> rw [hk] at k1 <;> simp at k1
  · rw [Env.putAt_get]
    simp only
    by_cases ht : t0 = t
    · subst ht
      simp only [if_true]
      refine RepS.put q (by simp) (h.rep t0) hat ⟨by rw [hsz]; exact Nat.le_refl _, himm, fun b p hb _ hp => ⟨hb, hother b ?_⟩, fun p _ _ => rfl⟩ (fun _ _ => rfl) (by simpa using hC) (by simpa using hO) (fun c hc => ?_)
      · rintro rfl; rw [hl] at hb; cases hb; exact hp (by simp)
      · exact .one h4 (by simpa using hO _ (by simpa using hc.cell h1 h2 h3))
    · simp only [ht, if_false]
      refine (h.rep t).moves ⟨by rw [hsz]; exact Nat.le_refl _, himm, fun b p hb => ⟨hb, hother b ?_⟩, fun _ => rfl⟩ (fun _ _ => rfl)
      rintro rfl; rw [hl] at hb; simp at hb; omega

theorem storeM_ok {o : Oper} {t : TypeId} {ad x : Operand} {e' : Env} {K : Env → Prop} (ho : o.op = .store t ad x) (hdst : o.dst = none) (hst : storeM P e t (e.rd ad) (e.rd x) = some e') (hK : K e') : OpOk P w0 g0 n o e K := by
  intro a w hs next Q hn
  obtain ⟨g, h⟩ := hs.holds
  unfold storeM at hst
  split at hst
  · cases hst
  · rename_i ti hne
    have hbad : tinfo P t ≠ .bad := hne
    obtain ⟨inf, hinf⟩ := info_of hbad
    split at hst
    · rename_i hc
      obtain ⟨hlen, hagg, hnu⟩ := hc
      obtain ⟨c1, c2⟩ := cells_of (h.rd x []) hnu (e.rd_loose x)
      have hone := all_one c1 c2
      have hsz : (a.eval x).cells.size = inf.size := by
        have h1 : (a.eval x).cells.size = (e.rd x).cs.length := by simpa using c1
        rw [h1, hlen]
        simp [Program.cellsOf, hinf]
      split at hst
      · rename_i p z j f hadv
        have had := h.rd ad []
        rw [hadv] at had
        split at hst
        · rename_i hmv
          have hmv' : ∀ (i : Nat) (v : V), (e.rd x).cs[i]? = some v → mvOk p v = true := fun i v hi => List.all_eq_true.1 hmv v (List.mem_of_getElem? hi)
          have h1 := h.shed (below p)
          have hsref : ∀ y, ∀ r' ∈ ((e.shed (below p)).get y).refs, below p r' = false := fun y r' hr' => Env.shed_refs hr'
          generalize he1 : e.shed (below p) = e1 at *
          split at hst
          · rename_i z' xs hp
            split at hst
            · rename_i hzz'
              subst hzz'
              split at hst
              · rename_i cs hj
                split at hst
                · rename_i hf
                  have hjl := (List.getElem?_eq_some_iff.1 hj).1
                  obtain ⟨c0, hrow, hvm⟩ := h1.at_ow hp
                  rcases hrow.ow_inv with ⟨rfl, _⟩ | ⟨blk, ob, cap, cur, tyb, ch, hc0, hl, hv, hb, hcap, hmax, hroom, hzz, hcc, hr⟩
                  · simp at hjl
                  · obtain ⟨blk', o', hbase, hc⟩ := had.ae_inv
                    rw [hv, hc0] at hbase
                    simp [baseOf] at hbase
                    obtain ⟨rfl, rfl⟩ := hbase
                    have hjm : j * z' + z' ≤ cap * z' := by rw [← Nat.succ_mul]; exact Nat.mul_le_mul_right _ (by omega)
                    have hfl : f + (a.eval x).cells.toList.length ≤ z' := by rw [c1]; omega
                    have hfit : ob + (j * z' + f) + (a.eval x).cells.toList.length ≤ cur.size := by omega
                    have hchl := hzz j hjl
                    have hml : ((e.rd x).cs.map V.mask).length = (a.eval x).cells.toList.length := by rw [c1]; simp
                    have hy' : RepC (w.setRow blk (cur.toList.take (ob + (j * z' + f)) ++ (a.eval x).cells.toList ++ cur.toList.drop (ob + (j * z' + f) + (a.eval x).cells.toList.length)).toArray) g (some (p ++ [j]))
                        (.ag (setCells cs f ((e.rd x).cs.map V.mask))) ((ch j).take f ++ (a.eval x).cells.toList ++ (ch j).drop (f + (a.eval x).cells.toList.length)) := by
                      obtain ⟨hn1, hk1⟩ := (hr j _ hj).ag_inv
                      have htl : ((ch j).take f).length = f := by simp; omega
                      have hkp := setRow_keeps (w := w) (cur' := (cur.toList.take (ob + (j * z' + f)) ++ (a.eval x).cells.toList ++ cur.toList.drop (ob + (j * z' + f) + (a.eval x).cells.toList.length)).toArray) (g := g) (blk := blk) (by rw [hl]; simp)
                      refine .ag (by rw [setCells_length]; simp; rw [show (a.eval x).cells.size = (e.rd x).cs.length by simpa using c1]; omega) (fun q y u hy hu => ?_)
                      rw [setCells_get _ _ _ _ (by rw [hml, c1]; exact hf.1), hml] at hy
                      rw [List.append_assoc] at hu
                      by_cases h1 : q < f
                      · rw [if_neg (by omega)] at hy
                        rw [List.getElem?_append_left (by omega), List.getElem?_take, if_pos h1] at hu
                        refine (hk1 q y u hy hu).moves rfl ⟨by simp [World.setRow], hkp.imm, fun b q' hbq => ⟨hbq, setRow_other w blk b _ ?_⟩, fun _ => rfl⟩
                        rintro rfl; rw [hl] at hbq; simp at hbq
                      · rw [List.getElem?_append_right (by omega), htl] at hu
                        by_cases h2 : q < f + (a.eval x).cells.toList.length
                        · rw [if_pos ⟨by omega, h2⟩] at hy
                          rw [List.getElem?_append_left (by omega)] at hu
                          obtain ⟨v, hv1, rfl⟩ := mask_get hy
                          exact mask_rep (hmv' _ v hv1) (c2 _ v u hv1 hu).1 (loose_cell (e.rd_loose x) hv1) hkp _
                        · rw [if_neg (by omega)] at hy
                          rw [List.getElem?_append_right (by omega), List.getElem?_drop] at hu
                          rw [show f + (a.eval x).cells.toList.length + (q - f - (a.eval x).cells.toList.length) = q by omega] at hu
                          refine (hk1 q y u hy hu).moves rfl ⟨by simp [World.setRow], hkp.imm, fun b q' hbq => ⟨hbq, setRow_other w blk b _ ?_⟩, fun _ => rfl⟩
                          rintro rfl; rw [hl] at hbq; simp at hbq
                    have hwr := row_write hl (by rw [hv, hc0]) hb hcap hmax hroom hzz hcc hr hj hfl hy'
                    match p, hp, hl, hwr, hv, hmv', hsref, hst with
                    | (t0 + 2) :: q, hp, hl, hwr, hv, hmv', hsref, hst =>
                      have hcs : ∀ {π : Option Path} {cs : List Value}, π = some ((t0 + 2) :: q) → RepC w g π (.ow z' xs) cs → cs = [c0] := by
                        intro π cs hπ hcs
                        cases hπ
                        obtain ⟨u, rfl⟩ := hcs.width (by simp)
                        have : u = g.vm ((t0 + 2) :: q) := by
                          rcases hcs.ow_inv with ⟨_, _, h3⟩ | ⟨_, _, _, _, _, _, _, _, h3, _⟩ <;> exact h3.symm
                        rw [this, hv]
                      have hH := h1.writeH (u' := .ow z' (xs.set j (.ag (setCells cs f ((e.rd x).cs.map V.mask))))) hp hl (fun cs' hcs' => by rw [hcs rfl hcs', hc0]; exact hwr)
                        (fun cs' hcs' => by
                          cases hcs' with
                          | c hcs' => rw [hcs rfl hcs', hc0]; exact .c hwr) (by simp) (by simp) (by simp) (by simp)
                      obtain ⟨g', hfin⟩ := moveIn_ok (blk := blk) (ob := ob) hjl (e.rd x).cs _ _ f g e' hH (Env.at_putAt hp) (fun y r' hr' => by
                        rcases Env.refs_putAt hr' with hr' | hr'
                        · exact hsref y r' hr'
                        · simp [V.refs] at hr') ⟨cap, by rw [hv, hc0]⟩ (fun i q' hi => by
                          have hil := (List.getElem?_eq_some_iff.1 hi).1
                          have hiu : i < (a.eval x).cells.toList.length := by omega
                          have hu : (a.eval x).cells.toList[i]? = some (a.eval x).cells.toList[i] := List.getElem?_eq_getElem hiu
                          refine ⟨mvOk_al (hmv' i _ hi), ?_, ?_⟩
                          · have h3 := (c2 i _ _ hi hu).1 []
                            have h4 : (a.eval x).cells.toList[i] = g.vm q' := (RepS.one (by simp) h3 : RepS w g [] (.al q') _).al_inv
                            have hb' := hb.setRow (splice_size (us := (a.eval x).cells.toList) hfit)
                            rw [hb'.cell, splice_get hfit, if_pos (by omega), show ob + j * z' + (f + i) - (ob + (j * z' + f)) = i by omega, hu, h4]
                          · rw [setCells_get _ _ _ _ (by rw [hml, c1]; exact hf.1), hml, if_pos (by omega), show f + i - f = i by omega, List.getElem?_map, hi]
                            rfl) hst
                      have hr := run_storeAt_row (P := P) (t := t) (c := a.eval x) hinf hsz hb hfit hone
                      have hex : (execOp a.eval o).run P w = .ok .skip (w.setRow blk (cur.toList.take (ob + (j * z' + f)) ++ (a.eval x).cells.toList ++ cur.toList.drop (ob + (j * z' + f) + (a.eval x).cells.toList.length)).toArray) := by
                        simp only [execOp, ho, hc, Sem.run_bind, hr, Result.andThen_ok, Sem.run_pure]
                      unfold Oper.wp
                      rw [hex]
                      show next (a.put o.dst undef) _
                      rw [hdst]
                      exact hn _ _ _ hK (hfin.sim hs.defers hs.size)
                    | [], hp, _, _, _, _, _, _ => simp [Env.at] at hp
                    | [0], hp, _, _, _, _, _, _ => simp [Env.at] at hp
                    | [1], hp, _, _, _, _, _, _ => simp [Env.at] at hp
                    | 0 :: _ :: _, hp, _, _, _, _, _, _ => simp [Env.at] at hp
                    | 1 :: _ :: _, hp, _, _, _, _, _, _ => simp [Env.at] at hp
                · cases hst
              · cases hst
            · cases hst
          · cases hst
        · cases hst
      · cases hst
    · cases hst

theorem below_head {x : Nat} {p r : Path} (h : r.head? ≠ some x) : below (x :: p) r = false := by
  cases r with
  | nil => rfl
  | cons y r =>
    simp only [below, nbeq']
    have : ¬ x = y := fun e => h (by simp [e])
    simp [this]

theorem Sim.newRowH (hs : Sim w0 g0 n e a w) (h : Holds w0 g0 e a w g) {d : Nat} (hd : d < n) (hfree : e.free d = true) {z cap : Nat} {xs : List V} {us : Array Value} {t : TypeId} {w' : World}
    (hos : w'.os = w.os) (htape : w'.tape = w.tape) (hout : w'.output = w.output) {fr : Nat × Nat} (hheap : w'.heap = w.heap.push (.cells us t fr)) (hfr : FrOk fr us.size)
    (hcap : xs.length ≤ cap) (hmax : cap ≤ maxLen) (hroom : cap * z ≤ us.size) (ch : Nat → List Value)
    (hch : ∀ (j : Nat) (x : V), xs[j]? = some x → x.loose = true ∧ (∃ o, RepC w g o x (ch j)) ∧ (ch j).length = z ∧ ∀ (q : Nat) (u : Value), (ch j)[q]? = some u → us[j * z + q]? = some u) :
    ∃ g', Holds w0 g0 (e.set d (.ow z xs)) (a.put (some d) (.slice (some ⟨w.heap.size, 0, none⟩) xs.length cap)) w' g' ∧ g'.vm [d + 2] = .slice (some ⟨w.heap.size, 0, none⟩) xs.length cap ∧
      ∀ q, q.head? ≠ some (d + 2) → g'.vm q = g.vm q := by
  have hold : ∀ b, b < w.heap.size → w'.heap[b]? = w.heap[b]? := fun b hb => by rw [hheap]; exact push_old hb
  refine ⟨_, h.growH hs hd hfree (lab' := fun b => if b = w.heap.size then some [d + 2] else none) (vm' := fun _ => .slice (some ⟨w.heap.size, 0, none⟩) xs.length cap) hos htape hout (by rw [hheap]; simp) hold ?_ ?_ ?_, ?_, ?_⟩
  · intro b p hb hp
    split at hp
    · rename_i he; cases hp; subst he; exact ⟨pre_one.2 rfl, by rw [hheap]; simp⟩
    · cases hp
  · intro b b' p hb hb'
    split at hb
    · split at hb'
      · omega
      · cases hb'
    · cases hb
  · refine .one (by simp) (.c (.ow w.heap.size 0 z cap us t ch ?_ ?_ ?_ hcap hmax (by omega) ?_ ?_ ?_))
    · rw [Gh.anew_new (Nat.le_refl _)]; simp
    · rw [Gh.anew_vm' (pre_one.2 rfl)]
    · exact ⟨fr, by rw [hheap]; simp, hfr⟩
    · intro j hj
      exact (hch j _ (List.getElem?_eq_getElem hj)).2.2.1
    · intro j hj q u hq
      have := (hch j _ (List.getElem?_eq_getElem hj)).2.2.2 q u hq
      simpa using this
    · intro j x hj
      obtain ⟨h1, ⟨o, h2⟩, _⟩ := hch j x hj
      exact h2.keep h1 (anew_keeps rfl (by rw [hheap]; simp) hold) _
  · exact Gh.anew_vm' (pre_one.2 rfl)
  · intro q hq
    exact Gh.anew_vm (not_pre_head hq)

/-- A row of one element whose cells name rows: the rows move. -/
def bldM (P : Program) (e : Env) (d : Nat) (t len : Nat) (parts : List (Nat × Operand)) : Option Env :=
  match tinfo P t, parts with
  | .slice el z _, [(0, x)] => match e.rd x with
    | .ag vs => if len = 1 ∧ z ≤ 16777216 ∧ 0 < z ∧ (zeroC P el).isSome = true ∧ vs.length = z ∧ (V.ag vs).noUn = true ∧ vs.all (mvOk [d + 2]) = true then
        Env.moveIn [d + 2] z 0 [.ag (vs.map V.mask)] (e.set d (.ow z [.ag (vs.map V.mask)])) (vs.map V.mask) 0 vs
      else none
    | _ => none
  | _, _ => none

theorem mask_loose {vs : List V} (h : ∀ (i : Nat) (v : V), vs[i]? = some v → v.loose = true) : V.loose.go (vs.map V.mask) = true := by
  induction vs with
  | nil => rfl
  | cons v r ih =>
    simp only [List.map_cons, V.loose.go, Bool.and_eq_true]
    refine ⟨?_, ih (fun i x hi => h (i + 1) x (by simpa using hi))⟩
    have := h 0 v rfl
    cases v <;> first | rfl | exact this

theorem bldM_ok {o : Oper} {e' : Env} {t len d : Nat} {parts : Array (Nat × Operand)} {K : Env → Prop} (ho : o.op = .buildSlice t len parts) (hdst : o.dst = some d) (hd : d < n)
    (hfree : e.free d = true) (hv : bldM P e d t len parts.toList = some e') (hK : K e') : OpOk P w0 g0 n o e K := by
  intro a w hs next Q hn
  obtain ⟨g, h⟩ := hs.holds
  unfold bldM at hv
  split at hv
  · rename_i el z nb x ht hparts
    obtain ⟨hu, inf, hinf, rfl, -⟩ := tinfo_slice ht
    split at hv
    · rename_i vs hx
      split at hv
      · rename_i hc
        obtain ⟨rfl, hsmall, hz, hzero, hvl, hnu, hmv⟩ := hc
        have hpa : parts = #[(0, x)] := by cases parts; simp_all
        subst hpa
        obtain ⟨zs, hzs⟩ := Option.isSome_iff_exists.1 hzero
        obtain ⟨i, zv, hi, hzv, -⟩ := zeroC_inv hzs
        rw [hinf] at hi
        cases hi
        have hrd := h.rd x []
        have hlo := e.rd_loose x
        rw [hx] at hrd hlo
        obtain ⟨c1, c2⟩ := cells_of hrd hnu hlo
        simp only [V.cs] at c1 c2
        have hmv' : ∀ (i : Nat) (v : V), vs[i]? = some v → mvOk [d + 2] v = true := fun i v hi => List.all_eq_true.1 hmv v (List.mem_of_getElem? hi)
        have hlo' : ∀ (i : Nat) (v : V), vs[i]? = some v → v.loose = true := fun i v hi => V.loose_go hlo hi
        have hsz : (a.eval x).cells.size = inf.size := by rw [← hvl, ← c1]; simp
        have hfill := fill_whole hz [a.eval x] ((Array.range (1 * inf.size)).map (zv.cells[· % zv.cells.size]!)) (by simpa using hsz) (by simp)
        have hr : (Instr.buildSlice t 1 ((#[(0, x)] : Array (Nat × Operand)).map fun (i, x) => (i, a.eval x))).run P w = .ok (.slice (some ⟨w.heap.size, 0, none⟩) 1 1) (w.alloc (.cells (a.eval x).cells el)) := by
          have := run_buildSlice w t el 1 ((#[(0, x)] : Array (Nat × Operand)).map fun (i, x) => (i, a.eval x)) (([a.eval x].flatMap fun v => v.cells.toList).toArray) inf zv hu hinf hzv (by omega) (by omega) (by
            rw [← hfill]
            congr 1
            simp)
          rw [this]
          simp
        have hex : (execOp a.eval o).run P w = .ok (.value (.slice (some ⟨w.heap.size, 0, none⟩) 1 1)) (w.alloc (.cells (a.eval x).cells el)) := by
          simp only [execOp, ho, Sem.run_bind, Sem.run_pure, hr, Result.andThen_ok]
        have hkr : Keeps w g w g := ⟨Nat.le_refl _, fun b _ hb => ⟨hb, rfl⟩⟩
        obtain ⟨g1, h1, hvm1, hvm2⟩ := Sim.newRowH hs h hd hfree (z := inf.size) (cap := 1) (xs := [V.ag (vs.map V.mask)]) (us := (a.eval x).cells) (t := el) (w' := w.alloc (.cells (a.eval x).cells el)) rfl rfl rfl rfl (.inl rfl)
          (by simp) (by unfold maxLen; omega) (by omega) (fun _ => (a.eval x).cells.toList) (by
            intro j y hj
            have : j = 0 := by cases j <;> simp at hj ⊢
            subst this
            simp at hj
            subst hj
            refine ⟨mask_loose hlo', ⟨some [], ?_⟩, by simpa using hsz, fun q u hq => by simpa using hq⟩
            refine .ag (by rw [c1]; simp) (fun f y u hy hu => ?_)
            obtain ⟨v, hv1, rfl⟩ := mask_get hy
            exact mask_rep (hmv' f v hv1) (c2 f v u hv1 hu).1 (hlo' f v hv1) hkr _)
        have hnew : (w.alloc (.cells (a.eval x).cells el)).heap[w.heap.size]? = some (.cells (a.eval x).cells el (0, 0)) := heap_alloc_new w _
        obtain ⟨g', hfin⟩ := moveIn_ok (s := d) (r0 := []) (z := inf.size) (j := 0) (xs := [V.ag (vs.map V.mask)]) (blk := w.heap.size) (ob := 0) (by simp) vs _ (vs.map V.mask) 0 g1 e' h1 (by simp [Env.at, Env.get_set, V.sub]) (fun y r' hr' => by
            rw [Env.get_set] at hr'
            split at hr'
            · simp [V.refs] at hr'
            · exact below_head (Env.free_refs hfree r' hr')) ⟨1, by simpa using hvm1⟩ (fun i q' hi => by
              have hq := mvOk_al (hmv' i _ hi)
              have hil := (List.getElem?_eq_some_iff.1 hi).1
              have hiu : i < (a.eval x).cells.toList.length := by omega
              have hu : (a.eval x).cells.toList[i]? = some (a.eval x).cells.toList[i] := List.getElem?_eq_getElem hiu
              refine ⟨hq, ?_, ?_⟩
              · have h3 := (c2 i _ _ hi hu).1 []
                have h4 : (a.eval x).cells.toList[i] = g.vm q' := (RepS.one (by simp) h3 : RepS w g [] (.al q') _).al_inv
                rw [hvm2 q' hq, ← h4]
                simp only [World.cell?, hnew]
                rw [← hu]
                simp
              · rw [Nat.zero_add, List.getElem?_map, hi]; rfl) hv
        unfold Oper.wp
        rw [hex]
        show next (a.put o.dst _) _
        rw [hdst]
        exact hn _ _ _ hK (hfin.sim (by rw [put_defers]; exact hs.defers) (by rw [put_size]; exact hs.size))
      · cases hv
    · cases hv
  · cases hv

/-- Each cell is known. -/
def V.firm (v : V) : Bool := v.cs.all fun | .un | .ag _ => false | _ => true

theorem firm_cell {o : Option Path} {v : V} {cs : List Value} (h : RepC w g o v cs) (hf : v.firm = true) : ∀ u ∈ cs, u.oneCell' = true ∧ u.cells = #[u] := by
  have cell : ∀ {o : Option Path} {v : V} {c : Value}, RepC w g o v [c] → (∀ cs, v ≠ .ag cs) → v ≠ .un → c.oneCell' = true ∧ c.cells = #[c] := by
    intro o v c h h1 h2
    cases h <;> first | exact ⟨rfl, rfl⟩ | assumption | exact (h1 _ rfl).elim | exact (h2 rfl).elim
  intro u hu
  cases v with
  | ag ks =>
    obtain ⟨hn, hk⟩ := h.ag_inv
    obtain ⟨f, hf'⟩ := List.mem_iff_getElem?.1 hu
    have hlt := (List.getElem?_eq_some_iff.1 hf').1
    have hx : ks[f]? = some ks[f] := List.getElem?_eq_getElem (by omega)
    have hm := List.all_eq_true.1 hf _ (List.mem_of_getElem? hx)
    refine cell (hk f _ u hx hf') (fun cs e => ?_) (fun e => ?_)
    · rw [e] at hm; simp at hm
    · rw [e] at hm; simp at hm
  | _ =>
    obtain ⟨c, rfl⟩ := h.width (by simp)
    simp at hu
    subst hu
    refine cell h (by simp) (fun e => ?_)
    first
      | (cases e; done)
      | (simp [V.firm, V.cs] at hf; done)

theorem lit_inv {o : Option Path} {c : Value} {cs : List Value} (h : RepC w g o (.lit c) cs) : cs = [c] := by
  cases h
  rfl

theorem lits_cells {o : Option Path} {us cs : List Value} (h : RepC w g o (.ag (us.map V.lit)) cs) : cs = us := by
  obtain ⟨hn, hk⟩ := h.ag_inv
  simp only [List.length_map] at hn
  refine List.ext_getElem? (fun j => ?_)
  by_cases hj : j < us.length
  · have h1 : (us.map V.lit)[j]? = some (.lit us[j]) := by simp [hj]
    have h2 : cs[j]? = some cs[j] := List.getElem?_eq_getElem (by omega)
    have := hk j _ _ h1 h2
    rw [h2, List.getElem?_eq_getElem hj]
    have := lit_inv this
    simp at this
    rw [this]
  · rw [List.getElem?_eq_none (by omega), List.getElem?_eq_none (by omega)]

theorem lits_loose (us : List Value) : (V.ag (us.map V.lit)).loose = true := by
  show V.loose.go (us.map V.lit) = true
  induction us with
  | nil => rfl
  | cons u r ih => simp only [List.map_cons, V.loose.go, ih, Bool.and_true]; rfl

theorem eval_put {d tx : Nat} {c : Value} (h : tx ≠ d) (hd : d < a.tmps.size) : (a.put (some d) c).eval (.tmp tx) = a.eval (.tmp tx) := by
  have hdk : dOk a.tmps.size (some d) = true := by simpa [dOk] using hd
  have := dOk_put (a := a) (n := a.tmps.size) (d := some d) (c := c) (t := tx) rfl hdk
  show (a.put (some d) c).tmps.getD tx undef = a.tmps.getD tx undef
  rw [this, if_neg (by simp; omega)]

/-- From slot d's own row on: one element is appended that owns rows; they move. -/
theorem pushM {t t2 ty el : TypeId} {i : TypeInfo} {zv : Value} (ht : P.underlying t = some (.slice el)) (h2 : noInt P t2) (hi : P.info? el = some i) (hzv : i.zero = some zv) (hzl : zv.cells.size = i.size)
    (hz : 0 < i.size) (hs : Sim w0 g0 n e a w) (h : Holds w0 g0 e a w g) {d : Nat} (hd : d < n) (hfree : e.free d = true) {xs : List V} {y : V} (hget : e.get d = .ow i.size xs) {c cx : Value} (hc : c = g.vm [d + 2])
    {tx t1 : Nat} {q1 : Path} (htx : tx ≠ d) (ht1 : t1 ≠ d) (hσ : e.at ((t1 + 2) :: q1) = some (.ow i.size [y])) (hx : e.rd (.tmp tx) = .al ((t1 + 2) :: q1)) (hcx : a.eval (.tmp tx) = cx) (hfirm : y.firm = true)
    (hlen : xs.length + 1 ≤ maxLen) (hb : (xs.length + 1) * i.bytes ≤ 140737488355328) :
    ∃ v' w', (Builtin.append_ #[t, t2] ty #[c, cx]).run P w = .ok v' w' ∧ Sim w0 g0 n ((e.putAt ((t1 + 2) :: q1) .un).set d (.ow i.size (xs ++ [y]))) (a.put (some d) v') w' := by
  obtain ⟨c1, hrow, hvm⟩ := h.at_ow hσ
  have hcx1 : cx = c1 := by
    have := h.rd (.tmp tx) []
    rw [hx] at this
    rw [← hcx, this.al_inv, hvm]
  rcases hrow.ow_inv with ⟨hnil, _⟩ | ⟨blk, o, cap, cur, tyb, ch, hc1, hl, hv, hbk, hcap, hmax, hroom, hzz, hcc, hr⟩
  · cases hnil
  · have hy := hr 0 y rfl
    have hyl := hzz 0 (by simp)
    have hyc := fun q u (hq : (ch 0)[q]? = some u) => hcc 0 (by simp) q u hq
    generalize hU : ch 0 = us at *
    have hsrc : Src P w i.size cx ([V.ag (us.map V.lit)] : List V).length ((List.range ([V.ag (us.map V.lit)] : List V).length).flatMap fun _ => us) := by
      rw [hcx1, hc1]
      refine ⟨fun k => ?_, fun k => ?_, by simp [hyl], fun u hu => ?_⟩
      · simp [Builtin.lenOf]
      · have := run_firstCells_some (P := P) ({ w with drawn := k } : World) i.size 1 ⟨blk, o, none⟩ 1 cap us (by omega) (fun j v hv => by
          rw [add_addr, cell_drawn, hbk.cell]
          have := hyc j v hv
          simpa using this)
        simpa using this
      · have hu' : u ∈ us := by simpa using hu
        exact (firm_cell hy hfirm u hu').1
    have hlit : RepC w g (some []) (.ag (us.map V.lit)) us := by
      refine .ag (by simp) (fun f x u hx hu => ?_)
      rw [List.getElem?_map, Option.map_eq_some_iff] at hx
      obtain ⟨u', h1, rfl⟩ := hx
      rw [hu] at h1
      cases h1
      exact .lit (firm_cell hy hfirm u (List.mem_of_getElem? hu))
    obtain ⟨v', w', hrun, hsim, hkeep⟩ := append_own (ty := ty) (t2 := t2) ht h2 hi hzv hzl hz hs h hd hfree (xs := xs) (ys := [V.ag (us.map V.lit)]) hget (c := c) (cx := cx) hc (ch := fun _ => us) hsrc (fun j x hj => by
      have : j = 0 := by cases j <;> simp at hj ⊢
      subst this
      simp at hj
      subst hj
      exact ⟨lits_loose us, ⟨_, hlit⟩, hyl⟩) (by simpa using hlen) (by simpa using hb)
    refine ⟨v', w', hrun, ?_⟩
    obtain ⟨g3, h3⟩ := hsim.holds
    have hds : d < a.tmps.size := by rw [hs.size]; exact hd
    have hat3 : (e.set d (.ow i.size (xs ++ [V.ag (us.map V.lit)]))).at ((t1 + 2) :: q1) = some (.ow i.size [y]) := by
      simp only [Env.at, Env.get_set, if_neg (Ne.symm ht1)] at hσ ⊢
      exact hσ
    obtain ⟨c3, hrow3, hvm3⟩ := h3.at_ow hat3
    have hc3 : c3 = c1 := by
      have := h3.rd (.tmp tx) []
      have hx3 : (e.set d (.ow i.size (xs ++ [V.ag (us.map V.lit)]))).rd (.tmp tx) = .al ((t1 + 2) :: q1) := by
        simp only [Env.rd, Env.get_set, if_neg (Ne.symm htx)] at hx ⊢
        exact hx
      rw [hx3, eval_put htx hds] at this
      rw [hvm3, ← this.al_inv, hcx, hcx1]
    subst hc3
    rcases hrow3.ow_inv with ⟨hnil, _⟩ | ⟨blk3, o3, cap3, cur3, tyb3, ch3, hc3, hl3, hv3, hbk3, hcap3, hmax3, hroom3, hzz3, hcc3, hr3⟩
    · cases hnil
    · rw [hc1] at hc3
      simp at hc3
      obtain ⟨⟨rfl, rfl⟩, rfl⟩ := hc3
      have hsame := hkeep blk hbk.lt (by rw [hl]; simp; omega)
      have hus : ch3 0 = us := by
        have hl3 := hzz3 0 (by simp)
        refine List.ext_getElem? (fun j => ?_)
        by_cases hj : j < i.size
        · have h1 : (ch3 0)[j]? = some (ch3 0)[j] := List.getElem?_eq_getElem (by omega)
          have h2 : us[j]? = some us[j] := List.getElem?_eq_getElem (by omega)
          have k1 := hcc3 0 (by simp) j _ h1
          have k2 := hyc j _ h2
          rw [← hbk3.cell, cell_same (by exact hsame), hbk.cell, k2] at k1
          rw [h1, h2, k1]
        · rw [List.getElem?_eq_none (by omega), List.getElem?_eq_none (by omega)]
      have hy3 := hr3 0 y rfl
      rw [hus] at hy3
      obtain ⟨h4, hown⟩ := h3.forget hat3
      have hdg : ((e.set d (.ow i.size (xs ++ [V.ag (us.map V.lit)]))).putAt ((t1 + 2) :: q1) .un).get d = .ow i.size (xs ++ [V.ag (us.map V.lit)]) := by
        rw [Env.putAt_get]
        simp only
        rw [if_neg ht1, Env.get_set, if_pos rfl]
      have hnl : (xs ++ [V.ag (us.map V.lit)])[xs.length]? = some (V.ag (us.map V.lit)) := by simp
      have h5 := h4.takeTo (t := t1) (q := q1 ++ [0]) (s := d) (r := [xs.length]) (fun x r' hr' hpre => by
          rcases Env.refs_putAt hr' with hr' | hr'
          · rw [Env.get_set] at hr'
            split at hr'
            · simp [V.refs] at hr'
            · obtain ⟨l, rfl⟩ := hpre
              exact Env.free_refs hfree _ hr' rfl
          · simp [V.refs] at hr') (fun y' u hu => hown ([0] ++ y') u (by simpa using hu)) (fun y' u hu => by
            simp only [List.cons_append, List.nil_append, Env.at, hdg] at hu
            simp only [V.sub, V.kids, hnl] at hu
            cases y' with
            | nil => simp [V.sub] at hu; subst hu; rfl
            | cons k l =>
              simp only [V.sub, V.kids, List.getElem?_map] at hu
              cases hk : us[k]? with
              | none => simp [hk] at hu
              | some u1 =>
                simp only [hk, Option.map_some] at hu
                cases l with
                | nil => simp [V.sub] at hu; subst hu; rfl
                | cons k2 l => simp [V.sub, V.kids] at hu)
      have hy5 : RepC w' (g3.take ((t1 + 2) :: (q1 ++ [0])) ((d + 2) :: [xs.length])) (some ((d + 2) :: [xs.length])) y us :=
        hy3.live (by simp) ⟨Nat.le_refl _, fun b _ hb => ⟨Gh.take_none hb, rfl⟩⟩ ⟨fun y u _ _ b hb => ⟨Gh.take_under hb, rfl⟩, fun y u _ _ => Gh.take_vm'⟩
      have h6 := h5.rowElt (z := i.size) (s := d) (r := []) (j := xs.length) (y' := y) (by simp only [Env.at, V.sub, hdg]) hnl (fun blk' o' cap' ch' hv' hchl hcell' hyy => by
        rw [lits_cells hyy]
        simpa using hy5)
      have hset : (xs ++ [V.ag (us.map V.lit)]).set xs.length y = xs ++ [y] := by simp
      rw [hset] at h6
      refine (h6.sim (n := n) (by rw [put_defers]; exact hs.defers) (by rw [put_size]; exact hs.size)).congr (fun t' => ?_)
      rw [Env.get_set, Env.putAt_get]
      simp only
      by_cases hdt : d = t'
      · subst hdt
        simp only [if_true]
        rw [Env.putAt_get]
        simp only [if_true, hdg, V.put]
      · simp only [hdt, if_false]
        rw [Env.putAt_get, Env.putAt_get]
        simp only [Env.get_set, hdt, if_false, Ne.symm ht1]

/-- An append of one element that owns rows. -/
def appM (P : Program) (e : Env) (d : Nat) (args : List Operand) (ts : List TypeId) : Option Env :=
  match args, ts with
  | [s, .tmp tx], [t, t2] => match tinfo P t with
    | .slice el z nb => match e.rd (.tmp tx) with
      | .al ((t1 + 2) :: q1) => match e.at ((t1 + 2) :: q1) with
        | some (.ow z1 [y]) => if z1 = z ∧ 0 < z ∧ srcTy P t2 = true ∧ (zeroC P el).map List.length = some z ∧ tx ≠ d ∧ t1 ≠ d ∧ y.firm = true then match e.rd s with
          | .al p => match e.at p with
            | some (.ow z' xs) => if z' = z ∧ (xs.length + 1) * nb ≤ 140737488355328 ∧ xs.length + 1 ≤ 140737488355328 ∧ p.head? ≠ some (t1 + 2) ∧ p.head? ≠ some (tx + 2) ∧ (e.putAt p .un).free d = true then
                some (((e.putAt p .un).putAt ((t1 + 2) :: q1) .un).set d (.ow z (xs ++ [y]))) else none
            | _ => none
          | .nl => if nb ≤ 140737488355328 then some ((e.putAt ((t1 + 2) :: q1) .un).set d (.ow z [y])) else none
          | _ => none
          else none
        | _ => none
      | _ => none
    | _ => none
  | _, _ => none

theorem appM_ok {o : Oper} {args : Array Operand} {ts : Array TypeId} {d : Nat} {e' : Env} {K : Env → Prop} (ho : o.op = .call { callee := .builtin .append, args, argTypes := ts }) (hdst : o.dst = some d) (hd : d < n)
    (happ : appM P e d args.toList ts.toList = some e') (hf1 : e.free d = true) (hun : (e.get d).isUn = true) (hK : K e') : OpOk P w0 g0 n o e K := by
  intro a w hs next Q hn
  obtain ⟨g, h⟩ := hs.holds
  unfold appM at happ
  split at happ
  · rename_i s tx t t2 hargs hts
    have hargs' : args = #[s, .tmp tx] := by cases args; simp_all
    have hts' : ts = #[t, t2] := by cases ts; simp_all
    subst hargs' hts'
    split at happ
    · rename_i el z nb hti
      obtain ⟨hu, inf, hinf, rfl, rfl⟩ := tinfo_slice hti
      split at happ
      · rename_i t1 q1 hx
        split at happ
        · rename_i z1 y hσ
          split at happ
          · rename_i hc
            obtain ⟨rfl, hz, hst, hzl, htx, ht1, hfirm⟩ := hc
            simp only [Option.map_eq_some_iff] at hzl
            obtain ⟨zs, hzs, hzl⟩ := hzl
            obtain ⟨i, zv, hi, hzv, rfl⟩ := zeroC_inv hzs
            rw [hinf] at hi
            cases hi
            simp only [List.length_map, Array.length_toList] at hzl
            have hds : d < a.tmps.size := by rw [hs.size]; exact hd
            have hrun : ∀ {v' : Value} {w' : World} {e1 : Env}, (Builtin.append_ #[t, t2] o.type #[a.eval s, a.eval (.tmp tx)]).run P w = .ok v' w' → Sim w0 g0 n e1 (a.put (some d) v') w' → e1.Eqv e' → o.wp P a w next Q := by
              intro v' w' e1 hr hsim he
              have hex : (execOp a.eval o).run P w = .ok (.value v') w' := by
                simp only [execOp, ho, resolve, Sem.run_bind, Sem.run_pure, Result.andThen_ok, invoke, builtin, List.map_toArray, List.map_cons, List.map_nil, hr]
              unfold Oper.wp
              rw [hex]
              show next (a.put o.dst _) _
              rw [hdst]
              exact hn _ _ _ hK (hsim.congr' he)
            split at happ
            · rename_i p hsp
              split at happ
              · rename_i z' xs hp
                split at happ
                · rename_i hc2
                  cases happ
                  obtain ⟨rfl, hb, hl, hp1, hp2, hf2⟩ := hc2
                  obtain ⟨g1, h1, hl1, hv1, hn1, _⟩ := h.clear d
                  have h1' : Holds w0 g0 e a w g1 := h1.of_get (fun t' => by
                    rw [Env.get_set]
                    split
                    · rename_i ht'; subst ht'; exact isUn_eq hun
                    · rfl)
                  have hsv := h.rd s []
                  rw [hsp] at hsv
                  match p, hp, hsp, hsv, hp1, hp2, hf2 with
                  | (t0 + 2) :: q, hp, hsp, hsv, hp1, hp2, hf2 =>
                    have h01 : t0 ≠ t1 := by simpa using hp1
                    have h0x : t0 ≠ tx := by simpa using hp2
                    obtain ⟨h2, hvm2⟩ := h1'.rehome hp (isUn_eq hun) hf1 hl1 hds
                    have hs2 : Sim w0 g0 n ((e.putAt ((t0 + 2) :: q) .un).set d (.ow inf.size xs)) (a.put (some d) (g1.vm ((t0 + 2) :: q))) w :=
                      h2.sim (by rw [put_defers]; exact hs.defers) (by rw [put_size]; exact hs.size)
                    obtain ⟨v', w', hr, hsim⟩ := pushM (ty := o.type) (t2 := t2) hu (srcTy_ok hst) hinf hzv hzl hz hs2 h2 hd (Env.free_set hf2 rfl) (xs := xs) (y := y) (by rw [Env.get_set]; simp) (c := a.eval s) (cx := a.eval (.tmp tx))
                      (by rw [hvm2, hv1]; exact hsv.al_inv) (tx := tx) (t1 := t1) (q1 := q1) htx ht1
                      (by
                        simp only [Env.at, Env.get_set, if_neg (Ne.symm ht1)] at hσ ⊢
                        rw [Env.putAt_get]
                        simp only [if_neg h01]
                        exact hσ)
                      (by
                        simp only [Env.rd, Env.get_set, if_neg (Ne.symm htx)] at hx ⊢
                        rw [Env.putAt_get]
                        simp only [if_neg h0x]
                        exact hx) (eval_put htx hds) hfirm (by unfold maxLen; omega) hb
                    rw [put_put] at hsim
                    refine hrun hr hsim (fun t' => ?_)
                    simp only [Env.get_set, Env.putAt_get]
                    by_cases hdt : d = t'
                    · simp [hdt]
                    · simp only [hdt, if_false, Ne.symm ht1]
                · cases happ
              · cases happ
            · rename_i hsp
              split at happ
              · rename_i hc2
                cases happ
                have hsv := h.rd s []
                rw [hsp] at hsv
                have hnil := hsv.nl_inv
                have hgr := Holds.growH (n := n) hs h hd hf1 (w' := w) (v := .ow inf.size []) (c := .slice none 0 0) (lab' := fun _ => none) (vm' := fun _ => .slice none 0 0) rfl rfl rfl (Nat.le_refl _) (fun _ _ => rfl)
                  (fun b p _ hp => by cases hp) (fun b b' p hp => by cases hp) (.one (by simp) (.c (.ownil (Gh.anew_vm' (pre_one.2 rfl)))))
                have hs2 := hgr.sim (n := n) (by rw [put_defers]; exact hs.defers) (by rw [put_size]; exact hs.size)
                obtain ⟨v', w', hr, hsim⟩ := pushM (ty := o.type) (t2 := t2) hu (srcTy_ok hst) hinf hzv hzl hz hs2 hgr hd (Env.free_set hf1 rfl) (xs := []) (y := y) (by rw [Env.get_set]; simp) (c := a.eval s) (cx := a.eval (.tmp tx))
                  (by rw [hnil, Gh.anew_vm' (pre_one.2 rfl)]) (tx := tx) (t1 := t1) (q1 := q1) htx ht1
                  (by
                    simp only [Env.at, Env.get_set, if_neg (Ne.symm ht1)] at hσ ⊢
                    exact hσ)
                  (by
                    simp only [Env.rd, Env.get_set, if_neg (Ne.symm htx)] at hx ⊢
                    exact hx) (eval_put htx hds) hfirm (by unfold maxLen; simp) (by simpa using hc2)
                rw [put_put] at hsim
                refine hrun hr hsim (fun t' => ?_)
                simp only [Env.get_set, Env.putAt_get]
                by_cases hdt : d = t'
                · simp [hdt]
                · simp only [hdt, if_false, Ne.symm ht1]
              · cases happ
            · cases happ
          · cases happ
        · cases happ
      · cases happ
    · cases happ
  · cases happ

end
end Go.Vx

namespace Go.Vx
open Go Go.RowKit Go.Great

/-- Whether what operation i made stands: it has run, and what takes it over has not. -/
def live5 (con : Nat → Option Nat) (listed : Array Bool) (i : Nat) : Bool := listed.getD i true && match con i with
  | some c => !listed.getD c true
  | none => true

/-- What operation i leaves: its own, and nothing of what it takes over. -/
def After5 (dv : List (Nat × V)) (con : Nat → Option Nat) (i : Nat) (x : Nat × V) (e' e'' : Env) : Prop :=
  ∀ t, (t = x.1 → e''.get t = x.2) ∧ (t ≠ x.1 → (∃ j y, con j = some i ∧ dv[j]? = some y ∧ y.1 = t) → e''.get t = .un) ∧ (t ≠ x.1 → ¬ (∃ j y, con j = some i ∧ dv[j]? = some y ∧ y.1 = t) → e''.get t = e'.get t)

structure DrawOk5 (P : Program) (k : Ctx) (ops : Array Oper) (e : Env) (dv : List (Nat × V)) (con : Nat → Option Nat) : Prop where
  size : dv.length ≤ ops.size
  nodup : (dv.map (·.1)).Nodup
  clear : ∀ x ∈ dv, e.get x.1 = .un
  op : ∀ (i : Nat) (o : Oper) (x : Nat × V), ops[i]? = some o → dv[i]? = some x → o.guard = none ∧ dstOk k.pins o = true ∧ o.dst = some x.1 ∧ ∃ B, (∀ j ∈ B, j ∈ before o ∧ (con j = none ∨ con j = some i)) ∧
    ∀ e', AtL e e' (lateR ops.toList i 0 dv) B → e'.get x.1 = .un → OpOk P k.w0 k.g0 k.n o e' (After5 dv con i x e')
  conb : ∀ (j i : Nat) (o : Oper), con j = some i → ops[i]? = some o → j ∈ before o
  conl : ∀ (j i : Nat), con j = some i → i < dv.length
  back : ∀ (i : Nat) (o : Oper), ops[i]? = some o → ∀ y ∈ o.after.toList, edgeAll y = true → y.on < i
  tail1 : ∀ (i : Nat) (o : Oper), ops[i]? = some o → dv.length < i → i - 1 ∈ before o
  tail0 : ∀ (o : Oper), ops[dv.length]? = some o → coverL [] ops dv.length (before o)

/-- What has run so far. -/
structure St5 (e : Env) (dv : List (Nat × V)) (con : Nat → Option Nat) (listed : Array Bool) (e' : Env) : Prop where
  base : ∀ t, (∀ x ∈ dv, x.1 ≠ t) → e'.get t = e.get t
  ran : ∀ i x, dv[i]? = some x → e'.get x.1 = if live5 con listed i = true then x.2 else .un

/-- What is left behind all of them. -/
def conD (con : Nat → Option Nat) : Nat → List (Nat × V) → List (Nat × V)
  | _, [] => []
  | i, x :: r => (x.1, match con i with
    | some _ => .un
    | none => x.2) :: conD con (i + 1) r
theorem conD_get (con : Nat → Option Nat) : ∀ (dv : List (Nat × V)) (k j : Nat), (conD con k dv)[j]? = (dv[j]?).map fun x => (x.1, match con (k + j) with
    | some _ => .un
    | none => x.2)
  | [], _, _ => by simp [conD]
  | x :: r, k, j => by
    cases j with
    | zero => simp only [conD, List.getElem?_cons_zero, Option.map_some, Nat.add_zero]
    | succ j =>
      simp only [conD, List.getElem?_cons_succ]
      rw [conD_get con r (k + 1) j, show k + 1 + j = k + (j + 1) by omega]
theorem conD_map (con : Nat → Option Nat) : ∀ (dv : List (Nat × V)) (k : Nat), (conD con k dv).map (·.1) = dv.map (·.1)
  | [], _ => rfl
  | x :: r, k => by simp only [conD, List.map_cons, conD_map con r (k + 1)]

section
variable {P : Program} {k : Ctx} {ops : Array Oper} {e : Env} {dv : List (Nat × V)} {Q : Exit → Env → Prop} {con : Nat → Option Nat}

theorem draw5_tail (hk : DrawOk5 P k ops e dv con) : ∀ (fuel q : Nat) (listed : Array Bool) (a : Act) (w : World), dv.length ≤ q → q ≤ ops.size → ops.size - q ≤ fuel → listed.size = ops.size →
    (∀ j, j < ops.size → listed.getD j true = decide (j < q)) → wpList P ops (lift k Q) (ops.toList.drop q) a w → wpAny P .any ops (lift k Q) fuel listed a w := by
  intro fuel
  induction fuel with
  | zero =>
    intro q listed a w h1 h2 h3 h4 h5 h
    have hq : q = ops.size := by omega
    subst hq
    rw [List.drop_eq_nil_of_le (by simp)] at h
    refine ⟨?_, h⟩
    refine List.eq_nil_iff_forall_not_mem.2 (fun i hi => ?_)
    obtain ⟨o, ho, hl, _⟩ := mem_ready.1 hi
    have hlt := (Array.getElem?_eq_some_iff.1 ho).1
    rw [h5 i hlt] at hl
    simp at hl
    omega
  | succ fuel ih =>
    intro q listed a w h1 h2 h3 h4 h5 h
    by_cases hq : q = ops.size
    · subst hq
      rw [List.drop_eq_nil_of_le (by simp)] at h
      refine ⟨fun _ => h, fun i hi => ?_⟩
      obtain ⟨o, ho, hl, _⟩ := mem_ready.1 hi
      have hlt := (Array.getElem?_eq_some_iff.1 ho).1
      rw [h5 i hlt] at hl
      simp at hl
      omega
    · have hlt : q < ops.size := by omega
      have hoq : ops[q]? = some ops[q] := Array.getElem?_eq_getElem hlt
      have hready : q ∈ Region.ready .any ops listed := mem_ready.2 ⟨_, hoq, by rw [h5 q hlt]; simp, fun y hy hyb => by
        have hb := hk.back q _ hoq y hy (binds_any hyb)
        rw [getD_any (by omega) false true, h5 y.on (by omega)]
        exact decide_eq_true hb⟩
      refine ⟨fun h0 => absurd (h0 ▸ hready) List.not_mem_nil, fun i hi => ?_⟩
      obtain ⟨o, ho, hl, hed⟩ := mem_ready.1 hi
      have hil := (Array.getElem?_eq_some_iff.1 ho).1
      have hiq : i = q := by
        rw [h5 i hil] at hl
        simp at hl
        refine Classical.byContradiction fun hne => ?_
        have hb := hk.tail1 i o ho (by omega)
        simp only [before, List.mem_map, List.mem_filter] at hb
        obtain ⟨y, ⟨hy, hya⟩, hyi⟩ := hb
        have := hed y hy (edgeAll_binds hya .any)
        rw [getD_any (by omega) false true, h5 y.on (by omega)] at this
        simp at this
        omega
      subst hiq
      have hdrop : ops.toList.drop i = ops[i] :: ops.toList.drop (i + 1) := by
        rw [List.drop_eq_getElem_cons (by simpa using hlt)]
        simp
      rw [hdrop] at h
      have key : ∀ a w, wpList P ops (lift k Q) (ops.toList.drop (i + 1)) a w → wpAny P .any ops (lift k Q) fuel (listed.setIfInBounds i true) a w := by
        intro a w hh
        refine ih (i + 1) _ a w (by omega) (by omega) (by omega) (by simp [h4]) (fun j hj => ?_) hh
        rw [getD_set, h5 j hj]
        by_cases hij : i = j
        · subst hij; simp [h4, hlt]
        · simp only [hij, false_and, if_false]
          congr 1
          simp only [eq_iff_iff]
          omega
      unfold wpOp
      simp only [hoq]
      simp only [wpList] at h
      split
      · rename_i hw
        rw [if_pos hw] at h
        exact h.imp (Oper.wp_mono key) id
      · rename_i hw
        rw [if_neg hw] at h
        exact key _ _ h

theorem draw5_any (hk : DrawOk5 P k ops e dv con) (h : JL P k ops (ops.toList.drop dv.length) (e.sets (conD con 0 dv)) Q) : ∀ (fuel : Nat) (listed : Array Bool) (e' : Env) (a : Act) (w : World), listed.size = ops.size → Closed ops listed →
    (∀ i, dv.length ≤ i → i < ops.size → listed.getD i true = false) → (List.range dv.length).countP (fun i => !listed.getD i true) + (ops.size - dv.length) ≤ fuel → St5 e dv con listed e' → k.sim e' a w →
    wpAny P .any ops (lift k Q) fuel listed a w := by
  intro fuel
  induction fuel with
  | zero =>
    intro listed e' a w h1 hcl h2 h3 h4 hs
    exact all hk h listed e' a w 0 h1 h2 h3 h4 hs (fun i hi => by
      have h0 : (List.range dv.length).countP (fun i => !listed.getD i true) = 0 := by omega
      have := List.countP_eq_zero.1 h0 i (by simpa using hi)
      simpa using this)
  | succ fuel ih =>
    intro listed e' a w h1 hcl h2 h3 h4 hs
    by_cases hall : ∀ i, i < dv.length → listed.getD i true = true
    · exact all hk h listed e' a w _ h1 h2 h3 h4 hs hall
    · obtain ⟨j0, hj0, hl0⟩ : ∃ j, j < dv.length ∧ listed.getD j true = false := by
        refine Classical.byContradiction fun hn => hall (fun i hi => ?_)
        cases hb : listed.getD i true with
        | true => rfl
        | false => exact (hn ⟨i, hi, hb⟩).elim
      have hsz := hk.size
      -- the least that has not run could
      obtain ⟨j, hj, hlj, hmin⟩ : ∃ j, j < dv.length ∧ listed.getD j true = false ∧ ∀ i, i < j → listed.getD i true = true := by
        have : ∀ n, ∀ j, j ≤ n → j < dv.length → listed.getD j true = false → ∃ j, j < dv.length ∧ listed.getD j true = false ∧ ∀ i, i < j → listed.getD i true = true := by
          intro n
          induction n with
          | zero => intro j hj hjl hl; exact ⟨j, hjl, hl, fun i hi => by omega⟩
          | succ n ih2 =>
            intro j hj hjl hl
            by_cases hex : ∃ i, i < j ∧ listed.getD i true = false
            · obtain ⟨i, hij, hli⟩ := hex
              exact ih2 i (by omega) (by omega) hli
            · refine ⟨j, hjl, hl, fun i hij => ?_⟩
              cases hb : listed.getD i true with
              | true => rfl
              | false => exact (hex ⟨i, hij, hb⟩).elim
        exact this j0 j0 (Nat.le_refl _) hj0 hl0
      have hoj : ops[j]? = some ops[j] := Array.getElem?_eq_getElem (by omega)
      have hr : j ∈ Region.ready .any ops listed := mem_ready.2 ⟨_, hoj, hlj, fun y hy hyb => by
        have hb := hk.back j _ hoj y hy (binds_any hyb)
        rw [getD_any (by omega) false true]
        exact hmin _ hb⟩
      refine ⟨fun h0 => (by rw [h0] at hr; cases hr), fun i hi => ?_⟩
      obtain ⟨o, ho, hl, hed⟩ := mem_ready.1 hi
      have hil := (Array.getElem?_eq_some_iff.1 ho).1
      have hbef : ∀ j ∈ before o, j < i ∧ listed.getD j true = true := by
        intro j hj
        simp only [before, List.mem_map, List.mem_filter] at hj
        obtain ⟨y, ⟨hy, hya⟩, rfl⟩ := hj
        have hb := hk.back i o ho y hy hya
        have := hed y hy (edgeAll_binds hya .any)
        exact ⟨hb, by rw [getD_any (by omega) true false]; exact this⟩
      have him : i < dv.length := by
        refine Classical.byContradiction fun hn => ?_
        by_cases hi0 : i = dv.length
        · subst hi0
          have := cover_all hcl dv.length _ hsz (fun j hj => (hbef j hj).2) (hk.tail0 o ho) j hj (by simp)
          rw [hlj] at this
          cases this
        · have := hbef _ (hk.tail1 i o ho (by omega))
          rw [h2 (i - 1) (by omega) (by omega)] at this
          cases this.2
      have hdv : dv[i]? = some dv[i] := List.getElem?_eq_getElem him
      obtain ⟨hg, hp, hdst, B, hB, hstep⟩ := hk.op i o dv[i] ho hdv
      have hconl : ∀ j c, con j = some c → listed.getD c true = true → listed.getD j true = true := by
        intro j c hc hlc
        have hcl' := hk.conl j c hc
        exact hcl c _ (Array.getElem?_eq_getElem (by omega)) hlc j (hk.conb j c _ hc (Array.getElem?_eq_getElem (by omega)))
      have hlate : ∀ j, reach ops.toList i 4 j = true → listed.getD j true = false := by
        intro j hio
        cases hb : listed.getD j true with
        | false => rfl
        | true =>
          have := reach_listed hcl 4 j hio hb
          rw [hl] at this
          cases this
      have hat : AtL e e' (lateR ops.toList i 0 dv) B := by
        refine ⟨fun t ht => h4.base t (fun x hx => ?_), fun j hj x hx => ?_, fun x hx => ?_⟩
        · have : x.1 ∈ (lateR ops.toList i 0 dv).map (·.1) := by rw [lateR_map]; exact List.mem_map.2 ⟨x, hx, rfl⟩
          obtain ⟨y, hy, hyx⟩ := List.mem_map.1 this
          rw [← hyx]; exact ht y hy
        · rw [lateR_get, Option.map_eq_some_iff] at hx
          obtain ⟨y, hy, rfl⟩ := hx
          obtain ⟨hjb, hjc⟩ := hB j hj
          have hb := hbef j hjb
          have hlv : live5 con listed j = true := by
            unfold live5
            rw [hb.2]
            rcases hjc with hc | hc
            · rw [hc]; rfl
            · rw [hc]; simp [hl]
          simp only
          rw [h4.ran j y hy, if_pos hlv]
          simp only [Nat.zero_add]
          split
          · rename_i hio
            have := hlate j hio
            rw [hb.2] at this
            cases this
          · rfl
        · obtain ⟨j, hj⟩ := List.getElem?_of_mem hx
          rw [lateR_get, Option.map_eq_some_iff] at hj
          obtain ⟨y, hy, rfl⟩ := hj
          simp only [Nat.zero_add]
          rw [h4.ran j y hy]
          split
          · rename_i hjl
            split
            · rename_i hio
              have := hlate j hio
              unfold live5 at hjl
              rw [this] at hjl
              cases hjl
            · exact .inl rfl
          · exact .inr rfl
      have hcl' : Closed ops (listed.setIfInBounds i true) := by
        intro i' o' ho' hl' j hj
        have hj' : j ≠ i → listed.getD j true = true → (listed.setIfInBounds i true).getD j true = true := fun hne hlj => by
          rw [getD_set, if_neg (fun h => hne h.1.symm)]; exact hlj
        by_cases hii : i = i'
        · subst hii
          rw [ho] at ho'
          cases ho'
          have := hbef j hj
          exact hj' (by omega) this.2
        · rw [getD_set, if_neg (fun h => hii h.1)] at hl'
          by_cases hji : j = i
          · subst hji; rw [getD_set, if_pos ⟨rfl, by omega⟩]
          · exact hj' hji (hcl i' o' ho' hl' j hj)
      unfold wpOp
      simp only [ho]
      rw [if_pos (wanted_none hg a)]
      left
      have hun : e'.get dv[i].1 = .un := by
        rw [h4.ran i dv[i] hdv, if_neg (by unfold live5; rw [hl]; simp)]
      have hop := hstep e' hat hun a w hs.1 (fun a' w' => ∃ e'', After5 dv con i dv[i] e' e'' ∧ Sim k.w0 k.g0 k.n e'' a' w') (lift k Q) (fun e'' a' w' he hs' => ⟨e'', he, hs'⟩)
      refine Oper.wp_mono (fun a' w' hh => ?_) (Oper.wp_put hop)
      obtain ⟨⟨e'', he, hs'⟩, hkeep⟩ := hh
      have hdist : ∀ (j : Nat) (x : Nat × V), dv[j]? = some x → i ≠ j → x.1 ≠ dv[i].1 := by
        intro j x hx hij he2
        have hjl := (List.getElem?_eq_some_iff.1 hx).1
        have e2 := (List.getElem?_eq_some_iff.1 hx).2
        have hnd := List.pairwise_iff_getElem.1 hk.nodup
        rcases Nat.lt_or_gt_of_ne hij with hlt | hlt
        · have := hnd i j (by simpa using him) (by simpa using hjl) hlt
          simp only [List.getElem_map, e2] at this
          exact this he2.symm
        · have := hnd j i (by simpa using hjl) (by simpa using him) hlt
          simp only [List.getElem_map, e2] at this
          exact this he2
      have hdist2 : ∀ (j j' : Nat) (x y : Nat × V), dv[j]? = some x → dv[j']? = some y → y.1 = x.1 → j' = j := by
        intro j j' x y hx hy hxy
        refine Classical.byContradiction fun hne => ?_
        have hjl := (List.getElem?_eq_some_iff.1 hx).1
        have hjl' := (List.getElem?_eq_some_iff.1 hy).1
        have e2 := (List.getElem?_eq_some_iff.1 hx).2
        have e3 := (List.getElem?_eq_some_iff.1 hy).2
        have hnd := List.pairwise_iff_getElem.1 hk.nodup
        rcases Nat.lt_or_gt_of_ne hne with hlt | hlt
        · have := hnd j' j (by simpa using hjl') (by simpa using hjl) hlt
          simp only [List.getElem_map, e2, e3] at this
          exact this hxy
        · have := hnd j j' (by simpa using hjl) (by simpa using hjl') hlt
          simp only [List.getElem_map, e2, e3] at this
          exact this hxy.symm
      refine ih (listed.setIfInBounds i true) e'' a' w' (by simp [h1]) hcl' (fun j hj hjl => ?_) ?_ ⟨fun t ht => ?_, fun j x hx => ?_⟩ ⟨hs', fun t ht => by rw [hkeep t (dstOk_keep hp ht)]; exact hs.2 t ht⟩
      · rw [getD_set, if_neg (by omega)]
        exact h2 j hj hjl
      · have := count_drop (p := fun i => !listed.getD i true) (p' := fun j => !(listed.setIfInBounds i true).getD j true) List.nodup_range (i := i) (by simpa using him) (by simp [hl]) (by rw [getD_set, if_pos ⟨rfl, by omega⟩]; rfl)
          (fun j hj => by simp only [getD_set]; rw [if_neg (fun h => hj h.1.symm)])
        omega
      · have hne : t ≠ dv[i].1 := fun h => ht _ (List.getElem_mem him) h.symm
        rw [(he t).2.2 hne (fun ⟨j, y, _, hy, hyt⟩ => ht y (List.mem_of_getElem? hy) hyt)]
        exact h4.base t ht
      · by_cases hij : i = j
        · subst hij
          rw [hdv] at hx
          cases hx
          have hlv : live5 con (listed.setIfInBounds i true) i = true := by
            unfold live5
            rw [getD_set, if_pos ⟨rfl, by omega⟩]
            cases hc : con i with
            | none => rfl
            | some c =>
              have hci := (hbef · ) 
              have hcl2 := hk.conl i c hc
              have hb := hk.conb i c _ hc (Array.getElem?_eq_getElem (show c < ops.size by omega))
              have hlt : i < c := by
                simp only [before, List.mem_map, List.mem_filter] at hb
                obtain ⟨y, ⟨hy, hya⟩, rfl⟩ := hb
                exact hk.back c _ (Array.getElem?_eq_getElem (by omega)) y hy hya
              have hlc : listed.getD c true = false := by
                cases hb2 : listed.getD c true with
                | false => rfl
                | true => have := hconl i c hc hb2; rw [hl] at this; cases this
              simp only [Bool.true_and]
              rw [getD_set, if_neg (by omega), hlc]
              rfl
          rw [if_pos hlv]
          exact (he _).1 rfl
        · have hne := hdist j x hx hij
          by_cases hcj : con j = some i
          · rw [(he x.1).2.1 hne ⟨j, x, hcj, hx, rfl⟩]
            have hlv : live5 con (listed.setIfInBounds i true) j = false := by
              unfold live5
              rw [hcj]
              simp only
              rw [getD_set (i := i) (j := i), if_pos ⟨rfl, by omega⟩]
              simp
            rw [if_neg (by rw [hlv]; simp)]
          · rw [(he x.1).2.2 hne (fun ⟨j', y, hc', hy, hyt⟩ => hcj (by rw [← hdist2 j j' x y hx hy hyt]; exact hc')), h4.ran j x hx]
            have hlv : live5 con (listed.setIfInBounds i true) j = live5 con listed j := by
              unfold live5
              rw [getD_set, if_neg (fun h => hij h.1)]
              cases hc : con j with
              | none => rfl
              | some c =>
                simp only
                rw [getD_set, if_neg (fun h => hcj (by rw [hc, h.1]))]
            rw [hlv]
where
  all (hk : DrawOk5 P k ops e dv con) (h : JL P k ops (ops.toList.drop dv.length) (e.sets (conD con 0 dv)) Q) (listed : Array Bool) (e' : Env) (a : Act) (w : World) (fuel : Nat) (h1 : listed.size = ops.size)
    (h2 : ∀ i, dv.length ≤ i → i < ops.size → listed.getD i true = false) (h3 : (List.range dv.length).countP (fun i => !listed.getD i true) + (ops.size - dv.length) ≤ fuel) (h4 : St5 e dv con listed e') (hs : k.sim e' a w)
    (hall : ∀ i, i < dv.length → listed.getD i true = true) : wpAny P .any ops (lift k Q) fuel listed a w := by
      refine draw5_tail hk fuel dv.length listed a w (Nat.le_refl _) hk.size (by omega) h1 (fun j hj => ?_) (h a w ⟨hs.1.congr' (fun t => ?_), hs.2⟩)
      · by_cases hjm : j < dv.length
        · rw [hall j hjm]; simp [hjm]
        · rw [h2 j (by omega) hj]; simp [hjm]
      · have hmm := conD_map con dv 0
        by_cases ht : ∀ x ∈ dv, x.1 ≠ t
        · rw [h4.base t ht, sets_other (conD con 0 dv) e t (fun x hx => by
            have : x.1 ∈ (conD con 0 dv).map (·.1) := List.mem_map.2 ⟨x, hx, rfl⟩
            rw [hmm] at this
            obtain ⟨y, hy, hyx⟩ := List.mem_map.1 this
            rw [← hyx]; exact ht y hy)]
        · obtain ⟨x, hx, rfl⟩ : ∃ x, x ∈ dv ∧ x.1 = t := Classical.byContradiction fun hn => ht (fun x hx he => hn ⟨x, hx, he⟩)
          obtain ⟨j, hj⟩ := List.getElem?_of_mem hx
          have hjl := (List.getElem?_eq_some_iff.1 hj).1
          have hcd : (conD con 0 dv)[j]? = some (x.1, match con j with
            | some _ => .un
            | none => x.2) := by rw [conD_get, hj]; simp only [Option.map_some, Nat.zero_add]
          have := sets_get (conD con 0 dv) e (by rw [hmm]; exact hk.nodup) _ (List.mem_of_getElem? hcd)
          simp only at this
          rw [this, h4.ran j x hj]
          unfold live5
          rw [hall j hjl]
          cases hc : con j with
          | none => simp
          | some c =>
            have := hk.conl j c hc
            simp [hall c this]

theorem J.draw5 {id : Nat} (hm : P.follows .mixedOrders = true) (hk : DrawOk5 P k ops e dv con) (h : JL P k ops (ops.toList.drop dv.length) (e.sets (conD con 0 dv)) Q) : J P k (.region id ops true) e Q := by
  intro a w hs
  refine wp_region_draw fun t => ?_
  have hinit : ∀ t, wpOps P ops (lift k Q) (Region.linearise .any ops t) a { w with drawn := w.drawn + 1 } := by
    intro t
    unfold Region.linearise
    have hfalse : ∀ i, i < ops.size → (Array.replicate ops.size false).getD i true = false := fun i hi => by simp [Array.getD_eq_getD_getElem?, hi]
    refine wpAny_sound _ _ _ _ _ (draw5_any hk h ops.size (Array.replicate ops.size false) e a _ (by simp) (fun i o ho hl => ?_) (fun i _ hi => hfalse i hi) ?_ ⟨fun _ _ => rfl, fun i x hx => ?_⟩ ⟨hs.1.drew, hs.2⟩)
    · rw [hfalse i (Array.getElem?_eq_some_iff.1 ho).1] at hl; cases hl
    · have := List.countP_le_length (p := fun i => !(Array.replicate ops.size false).getD i true) (l := List.range dv.length)
      have h2 := hk.size
      simp only [List.length_range] at this
      omega
    · have hil := (List.getElem?_eq_some_iff.1 hx).1
      have h2 := hk.size
      have hlv : live5 con (Array.replicate ops.size false) i = false := by unfold live5; rw [hfalse i (by omega)]; rfl
      rw [hk.clear x (List.mem_of_getElem? hx), hlv]
      rfl
  unfold Region.schedule
  rw [hm]
  simp only [Bool.true_or, if_true]
  exact hinit _

end
end Go.Vx
