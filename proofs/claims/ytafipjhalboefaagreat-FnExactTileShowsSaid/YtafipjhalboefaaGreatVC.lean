/- A walk that computes, over that reading, and the rules by which one answers what it asks. No condition. -/
import Derived.Test.YtafipjhalboefaaGreatVB
import Derived.IntWalk
set_option linter.unusedVariables false
set_option linter.unusedSimpArgs false
namespace Go.Vx
open Go Go.RowKit Go.Great

/-! What a walk asks of the one who proves. -/
inductive Br (c : Bool) (A B : Prop) : Prop
  | mk (h1 : c = true → A) (h2 : c = false → B)
inductive Ob (φ A : Prop) : Prop
  | mk (h : φ) (k : A)
inductive Ar (k : IntKind) (x : Int) (κ : Int → Prop) : Prop
  | wrap (g : κ (k.wrap x))
  | fit (h : k.wrap x = x) (g : κ x)
inductive Quo (k : IntKind) (a b : Int) (κ : Int → Prop) : Prop
  | mk (h : b ≠ 0) (g : κ (k.wrap (a.tdiv b)))
inductive Rem (a b : Int) (κ : Int → Prop) : Prop
  | mk (h : b ≠ 0) (g : κ (a.tmod b))
inductive Shl (k : IntKind) (a b : Int) (κ : Int → Prop) : Prop
  | mk (h : ¬ b < 0) (g : κ (k.wrap (a * 2 ^ min b.toNat k.bits)))
inductive Shr (k : IntKind) (a b : Int) (κ : Int → Prop) : Prop
  | mk (h : ¬ b < 0) (g : κ (a.fdiv (2 ^ min b.toNat k.bits)))
inductive Mx (x : Int) (κ : Int → Prop) : Prop
  | mk (m : Int) (h : x = m) (g : κ m)
inductive Nt (n : Int) (κ : Nat → Prop) : Prop
  | mk (j : Nat) (h : n.toNat = j) (g : κ j)
inductive Elt (xs : List V) (n : Int) (κ : V → Prop) : Prop
  | mk (x : V) (h0 : 0 ≤ n) (h : xs[n.toNat]? = some x) (g : κ x)
inductive EltN (xs : List V) (j : Nat) (κ : V → Prop) : Prop
  | mk (x : V) (h : xs[j]? = some x) (g : κ x)
inductive SetN (xs : List V) (j : Nat) (v : V) (κ : List V → Prop) : Prop
  | mk (ys : List V) (h : xs.set j v = ys) (g : κ ys)
theorem SetN.one {xs : List V} {j : Nat} {v : V} {κ : List V → Prop} (g : κ (xs.set j v)) : SetN xs j v κ := .mk _ rfl g
theorem SetN.two {xs : List V} {j : Nat} {u v : V} {κ : List V → Prop} (g : κ (xs.set j v)) : SetN (xs.set j u) j v κ := .mk _ (List.set_set ..) g
inductive Chr (l : List UInt8) (n : Int) (κ : UInt8 → Prop) : Prop
  | mk (x : UInt8) (h0 : 0 ≤ n) (h : l[n.toNat]? = some x) (g : κ x)
inductive Byt (xs : List V) (κ : List UInt8 → Prop) : Prop
  | mk (l : List UInt8) (h : allB xs = some l) (g : κ l)
inductive Cut (len : Nat) (lo hi : Option V) (κ : Nat → Nat → Prop) : Prop
  | mk (a b : Nat) (h : boundsOf len lo hi = some (a, b)) (g : κ a b)
inductive Stuck (o : Oper) (e : Env) (why : Nat) : Prop
inductive StuckC (e : Env) (why : Nat) : Prop

theorem Nt.cast {j : Nat} {κ : Nat → Prop} (g : κ j) : Nt (j : Int) κ := .mk j (Int.toNat_natCast j) g
theorem Br.tt {A B : Prop} (a : A) : Br true A B := .mk (fun _ => a) (fun h => by cases h)
theorem Br.ff {A B : Prop} (b : B) : Br false A B := .mk (fun h => by cases h) (fun _ => b)
theorem Br.of {c : Bool} {p : Prop} {A B : Prop} (hp : c = true ↔ p) (h1 : p → A) (h2 : ¬ p → B) : Br c A B :=
  .mk (fun h => h1 (hp.1 h)) (fun h => h2 (fun k => by rw [hp.2 k] at h; cases h))

/-- What is known of a type. -/
inductive UD where
  | bool | int (k : IntKind) | str | other
  deriving DecidableEq

def udOf : TypeDesc → UD
  | .bool => .bool
  | .int k => .int k
  | .string => .str
  | _ => .other

structure TD where
  ti : TI
  u : UD
  zs : Option (List V)
  ones : List Bool
  cells : Nat
  eqs : List (Nat × UD)

inductive TT where
  | leaf
  | node (k : Nat) (d : TD) (l r : TT)

def TT.look : TT → Nat → Option TD
  | .leaf, _ => none
  | .node k d l r, t => match Nat.beq t k with
    | true => some d
    | false => match Nat.blt t k with
      | true => l.look t
      | false => r.look t

def eqsB (P : Program) : List Field → List (Nat × UD) → Bool
  | [], [] => true
  | f :: r, (o, u) :: l => (f.name != "_") && Nat.beq f.offset o && (match P.underlying f.type with
    | some x => decide (udOf x = u)
    | none => false) && eqsB P r l
  | _, _ => false
/-- A struct of plain fields, if there are any. -/
def eqsOk (P : Program) (t : Nat) (l : List (Nat × UD)) : Bool :=
  match l with
  | [] => true
  | l => (match P.underlying t with
    | some (.struct _) => true
    | _ => false) && !P.stoodInHeld t && !P.eqGuardType P.depth t && eqsB P (P.fieldsOf t).toList l

/-- What is told of a type is so. -/
def TD.ok (P : Program) (t : Nat) (d : TD) : Prop :=
  tinfo P t = d.ti ∧ (P.underlying t).map udOf = some d.u ∧ zeroC P t = d.zs ∧ P.cellsOf t = d.cells ∧ (∀ f, d.ones[f]? = some true → valF.tyOne P t f = true) ∧ eqsOk P t d.eqs = true

def TT.ok (P : Program) : TT → Prop
  | .leaf => P.follows .mixedOrders = true
  | .node k d l r => d.ok P k ∧ l.ok P ∧ r.ok P

def onesB (P : Program) (t : Nat) : Nat → List Bool → Bool
  | _, [] => true
  | i, b :: r => (match b with
    | true => valF.tyOne P t i
    | false => true) && onesB P t (i + 1) r
theorem ones_at {P : Program} {t : Nat} : ∀ (l : List Bool) (i : Nat), onesB P t i l = true → ∀ f, l[f]? = some true → valF.tyOne P t (i + f) = true
  | [], _, _, f, h => by simp at h
  | b :: r, i, hb, f, h => by
    simp only [onesB, Bool.and_eq_true] at hb
    cases f with
    | zero => simp at h; subst h; exact hb.1
    | succ f => simp at h; have := ones_at r (i + 1) hb.2 f h; rw [show i + (f + 1) = i + 1 + f by omega]; exact this
theorem ones_of {P : Program} {t : Nat} (l : List Bool) (h : onesB P t 0 l = true) : ∀ f, l[f]? = some true → valF.tyOne P t f = true := fun f hf => by
  have := ones_at l 0 h f hf
  simpa using this

theorem TT.mixed {P : Program} : ∀ {T : TT}, T.ok P → P.follows .mixedOrders = true
  | .leaf, h => h
  | .node _ _ l _, h => TT.mixed (T := l) h.2.1

theorem TT.look_ok {P : Program} : ∀ {T : TT} {t : Nat} {d : TD}, T.ok P → T.look t = some d → d.ok P t
  | .leaf, _, _, _, h => by simp [TT.look] at h
  | .node k d l r, t, d', ho, h => by
    simp only [TT.look] at h
    split at h
    · rename_i hb
      cases h
      have := Nat.eq_of_beq_eq_true hb
      subst this
      exact ho.1
    · split at h
      · exact TT.look_ok ho.2.1 h
      · exact TT.look_ok ho.2.2 h

/-! Values brought to their first words, then handed on. -/
def forceP : Path → (Path → Prop) → Prop
  | [], κ => κ []
  | x :: r, κ => forceP r fun r => κ (x :: r)
theorem forceP_iff : ∀ (p : Path) (κ : Path → Prop), forceP p κ ↔ κ p
  | [], _ => Iff.rfl
  | x :: r, κ => by simp only [forceP]; exact forceP_iff r _

mutual
def V.force0 (v : V) (κ : V → Prop) : Prop :=
  match v with
  | .i k n => κ (.i k n)
  | .b t => κ (.b t)
  | .s t => κ (.s t)
  | .sl xs => κ (.sl xs)
  | .ow z xs => κ (.ow z xs)
  | .ag cs => V.force0L cs fun cs => κ (.ag cs)
  | .tp cs => V.force0L cs fun cs => κ (.tp cs)
  | .bx cs => V.force0L cs fun cs => κ (.bx cs)
  | .al p => forceP p fun p => κ (.al p)
  | .hd p z off len => forceP p fun p => κ (.hd p z off len)
  | .ad p off => forceP p fun p => κ (.ad p off)
  | .ae p z j f => forceP p fun p => κ (.ae p z j f)
  | .im cs => V.force0L cs fun cs => κ (.im cs)
  | .np => κ .np
  | .nl => κ .nl
  | .fn f => κ (.fn f)
  | .lit c => κ (.lit c)
  | .un => κ .un
def V.force0L (vs : List V) (κ : List V → Prop) : Prop :=
  match vs with
  | [] => κ []
  | v :: r => V.force0 v fun v => V.force0L r fun r => κ (v :: r)
end

mutual
theorem V.force0_iff : ∀ (v : V) (κ : V → Prop), V.force0 v κ ↔ κ v
  | .ag cs, κ => by simp only [V.force0]; exact V.force0L_iff cs _
  | .tp cs, κ => by simp only [V.force0]; exact V.force0L_iff cs _
  | .bx cs, κ => by simp only [V.force0]; exact V.force0L_iff cs _
  | .im cs, κ => by simp only [V.force0]; exact V.force0L_iff cs _
  | .i _ _, _ | .b _, _ | .s _, _ | .sl _, _ | .ow _ _, _ | .np, _ | .nl, _ | .fn _, _ | .lit _, _ | .un, _ => by simp only [V.force0]
  | .al _, _ | .hd _ _ _ _, _ | .ad _ _, _ | .ae _ _ _ _, _ => by simp only [V.force0, forceP_iff]
theorem V.force0L_iff : ∀ (vs : List V) (κ : List V → Prop), V.force0L vs κ ↔ κ vs
  | [], κ => by simp only [V.force0L]
  | v :: r, κ => by simp only [V.force0L]; rw [V.force0_iff v]; exact V.force0L_iff r _
end

/-- The same, of a cell: what has parts is rare here. -/
def V.force1 (v : V) (κ : V → Prop) : Prop :=
  match v with
  | .i k n => κ (.i k n)
  | .b t => κ (.b t)
  | .s t => κ (.s t)
  | .sl xs => κ (.sl xs)
  | .ow z xs => κ (.ow z xs)
  | .al p => forceP p fun p => κ (.al p)
  | .hd p z off len => forceP p fun p => κ (.hd p z off len)
  | .ad p off => forceP p fun p => κ (.ad p off)
  | .ae p z j f => forceP p fun p => κ (.ae p z j f)
  | .np => κ .np
  | .nl => κ .nl
  | .fn f => κ (.fn f)
  | .lit c => κ (.lit c)
  | .un => κ .un
  | v => V.force0 v κ
def V.forceL : List V → (List V → Prop) → Prop
  | [], κ => κ []
  | v :: r, κ => V.force1 v fun v => V.forceL r fun r => κ (v :: r)
def V.force (v : V) (κ : V → Prop) : Prop :=
  match v with
  | .i k n => κ (.i k n)
  | .b t => κ (.b t)
  | .s t => κ (.s t)
  | .sl xs => κ (.sl xs)
  | .ow z xs => κ (.ow z xs)
  | .al p => forceP p fun p => κ (.al p)
  | .hd p z off len => forceP p fun p => κ (.hd p z off len)
  | .ad p off => forceP p fun p => κ (.ad p off)
  | .ae p z j f => forceP p fun p => κ (.ae p z j f)
  | .np => κ .np
  | .nl => κ .nl
  | .fn f => κ (.fn f)
  | .lit c => κ (.lit c)
  | .un => κ .un
  | .ag cs => V.forceL cs fun cs => κ (.ag cs)
  | .tp cs => V.forceL cs fun cs => κ (.tp cs)
  | .bx cs => V.forceL cs fun cs => κ (.bx cs)
  | .im cs => V.forceL cs fun cs => κ (.im cs)
theorem V.force1_iff (v : V) (κ : V → Prop) : V.force1 v κ ↔ κ v := by
  cases v <;> simp only [V.force1, forceP_iff, V.force0_iff]
theorem V.forceL_iff : ∀ (vs : List V) (κ : List V → Prop), V.forceL vs κ ↔ κ vs
  | [], κ => Iff.rfl
  | v :: r, κ => by simp only [V.forceL]; rw [V.force1_iff v]; exact V.forceL_iff r _
theorem V.force_iff (v : V) (κ : V → Prop) : V.force v κ ↔ κ v := by
  cases v <;> simp only [V.force, forceP_iff, V.forceL_iff]

def Env.force : Env → (Env → Prop) → Prop
  | [], κ => κ []
  | (t, v) :: r, κ => V.force v fun v => Env.force r fun r => κ ((t, v) :: r)

def Env.eqvQ (κ : Env → Prop) : Prop := ∀ e e' : Env, e.Eqv e' → κ e → κ e'

def Env.getK : Env → Nat → (V → Prop) → Prop
  | [], _, κ => κ .un
  | (t, v) :: r, u, κ => match Nat.beq t u with
    | true => κ v
    | false => Env.getK r u κ

theorem nbeq {t u : Nat} : Nat.beq t u = decide (t = u) := by
  by_cases h : t = u
  · subst h; simp
  · rw [decide_eq_false h]
    cases hb : Nat.beq t u with
    | false => rfl
    | true => exact (h (Nat.eq_of_beq_eq_true hb)).elim

theorem Env.getK_iff : ∀ (e : Env) (u : Nat) (κ : V → Prop), e.getK u κ ↔ κ (e.get u)
  | [], _, _ => Iff.rfl
  | (t, v) :: r, u, κ => by
    simp only [Env.getK, Env.get, nbeq]
    by_cases h : t = u
    · simp [h]
    · simp only [h, decide_false, if_false]; exact Env.getK_iff r u κ

def Env.setK (e : Env) (d : Nat) (v : V) (κ : Env → Prop) : Prop := V.force v fun v => κ ((d, v) :: e)

theorem Env.setK_iff (e : Env) (d : Nat) (v : V) (κ : Env → Prop) : e.setK d v κ ↔ κ ((d, v) :: e) := by
  simp only [Env.setK, V.force_iff]

theorem cons_del_eqv (e : Env) (d : Nat) (v : V) : (e.set d v).Eqv ((d, v) :: e) := cons_eqv e d v

mutual
def V.ownB : V → Bool
  | .ow _ _ => true
  | .bx _ => true
  | .ag cs => V.ownBs cs
  | .tp cs => V.ownBs cs
  | _ => false
def V.ownBs : List V → Bool
  | [] => false
  | c :: r => match c.ownB with
    | true => true
    | false => V.ownBs r
end

def memN (t : Nat) : List Nat → Bool
  | [] => false
  | x :: r => match Nat.beq x t with
    | true => true
    | false => memN t r

theorem memN_cons {t x : Nat} {r : List Nat} : memN t (x :: r) = (decide (x = t) || memN t r) := by
  simp only [memN, nbeq]
  by_cases h : x = t <;> simp [h]

/-- Slots from lo up to hi are forgotten, but for what owns. -/
def Env.dropK (lo hi : Nat) (ds : List Nat) : Env → (Env → Prop) → Prop
  | [], κ => κ []
  | (t, v) :: r, κ => match Nat.ble lo t, Nat.blt t hi with
    | true, true => match v.ownB with
      | false => Env.dropK lo hi (t :: ds) r κ
      | true => match memN t ds with
        | true => Env.dropK lo hi ds r κ
        | false => Env.dropK lo hi ds r fun r => κ ((t, v) :: r)
    | _, _ => Env.dropK lo hi ds r fun r => κ ((t, v) :: r)

def inR (lo hi t : Nat) : Bool := Nat.ble lo t && Nat.blt t hi

theorem Env.dropK_ok (lo hi : Nat) : ∀ (e : Env) (ds : List Nat) (κ : Env → Prop), (∀ t, memN t ds = true → inR lo hi t = true) → Env.dropK lo hi ds e κ →
    ∃ e', (∀ t, (memN t ds = true → e'.get t = .un) ∧ (e'.get t = .un ∨ e'.get t = e.get t)) ∧ κ e'
  | [], ds, κ, _, h => ⟨[], fun t => ⟨fun _ => rfl, .inl rfl⟩, h⟩
  | (t, v) :: r, ds, κ, hd, h => by
    have hkeep : ∀ {κ : Env → Prop}, memN t ds = false → Env.dropK lo hi ds r (fun r => κ ((t, v) :: r)) → ∃ e', (∀ u, (memN u ds = true → e'.get u = .un) ∧ (e'.get u = .un ∨ e'.get u = Env.get ((t, v) :: r) u)) ∧ κ e' := by
      intro κ hm h
      obtain ⟨e', k1, k2⟩ := Env.dropK_ok lo hi r ds _ hd h
      refine ⟨_, fun u => ?_, k2⟩
      simp only [Env.get]
      by_cases hu : t = u
      · subst hu
        simp only [if_true]
        exact ⟨fun h => (by rw [hm] at h; cases h), .inr trivial⟩
      · simp only [hu, if_false]; exact k1 u
    simp only [Env.dropK] at h
    split at h
    · rename_i h1 h2
      have hin : inR lo hi t = true := by simp [inR, h1, h2]
      split at h
      · obtain ⟨e', k1, k2⟩ := Env.dropK_ok lo hi r (t :: ds) κ (fun u hu => by
          rw [memN_cons] at hu
          by_cases htu : t = u
          · subst htu; exact hin
          · simp only [htu, decide_false, Bool.false_or] at hu; exact hd u hu) h
        refine ⟨e', fun u => ⟨fun hu => (k1 u).1 (by rw [memN_cons, hu]; simp), ?_⟩, k2⟩
        simp only [Env.get]
        by_cases htu : t = u
        · subst htu; left; exact (k1 t).1 (by rw [memN_cons]; simp)
        · simp only [htu, if_false]; exact (k1 u).2
      · split at h
        · rename_i hm
          obtain ⟨e', k1, k2⟩ := Env.dropK_ok lo hi r ds κ hd h
          refine ⟨e', fun u => ⟨(k1 u).1, ?_⟩, k2⟩
          simp only [Env.get]
          by_cases htu : t = u
          · subst htu; left; exact (k1 t).1 hm
          · simp only [htu, if_false]; exact (k1 u).2
        · rename_i hm; exact hkeep hm h
    · rename_i hne
      refine hkeep ?_ h
      cases hm : memN t ds with
      | false => rfl
      | true =>
        have := hd t hm
        simp only [inR, Bool.and_eq_true] at this
        exact (hne this.1 this.2).elim

def Env.rdK (e : Env) (x : Operand) (κ : V → Prop) : Prop :=
  match x with
  | .tmp t => e.getK t fun v => match v with
    | .ow _ _ => κ (.al [t + 2])
    | .bx _ => κ (.ad [t + 2] 0)
    | .ag cs => V.forceL (V.view.go [t + 2] 0 cs) fun cs => κ (.ag cs)
    | .tp cs => V.forceL (V.view.go [t + 2] 0 cs) fun cs => κ (.tp cs)
    | v => κ v
  | .const v => V.force (cvV v) κ
  | .func f => κ (.fn f)
  | .global _ => κ .un

theorem Env.rdK_iff (e : Env) (x : Operand) (κ : V → Prop) : e.rdK x κ ↔ κ (e.rd x) := by
  cases x with
  | tmp t =>
    simp only [Env.rdK, Env.getK_iff, Env.rd]
    generalize e.get t = v
    cases v <;> simp only [V.view, V.forceL_iff]
  | const v => simp only [Env.rdK, V.force_iff, Env.rd]
  | func f => simp only [Env.rdK, Env.rd]
  | global g => simp only [Env.rdK, Env.rd]

def Env.rdsK (e : Env) : List Operand → (List V → Prop) → Prop
  | [], κ => κ []
  | x :: r, κ => e.rdK x fun v => e.rdsK r fun vs => κ (v :: vs)

theorem Env.rdsK_iff (e : Env) : ∀ (l : List Operand) (κ : List V → Prop), e.rdsK l κ ↔ κ (l.map e.rd)
  | [], _ => Iff.rfl
  | x :: r, κ => by simp only [Env.rdsK, Env.rdK_iff, List.map_cons]; exact Env.rdsK_iff e r _

end Go.Vx

namespace Go.Vx
open Go Go.RowKit Go.Great

def lenIs : List V → Nat → Bool
  | [], 0 => true
  | _ :: r, n + 1 => lenIs r n
  | _, _ => false
def lenGe : List V → Nat → Bool
  | _, 0 => true
  | _ :: r, n + 1 => lenGe r n
  | [], _ + 1 => false

theorem lenIs_iff : ∀ {l : List V} {n : Nat}, lenIs l n = true → l.length = n
  | [], 0, _ => rfl
  | _ :: r, n + 1, h => by simp only [lenIs] at h; simp [lenIs_iff h]
  | [], _ + 1, h => by simp [lenIs] at h
  | _ :: _, 0, h => by simp [lenIs] at h
theorem lenGe_iff : ∀ {l : List V} {n : Nat}, lenGe l n = true → n ≤ l.length
  | _, 0, _ => Nat.zero_le _
  | _ :: r, n + 1, h => by simp only [lenGe] at h; simp [lenGe_iff h]
  | [], _ + 1, h => by simp [lenGe] at h

def kEq (a b : IntKind) : Bool := Nat.beq a.ctorIdx b.ctorIdx
theorem kEq_iff {a b : IntKind} (h : kEq a b = true) : a = b := by cases a <;> cases b <;> first | rfl | cases h

def arK (op : BinOp) (k : IntKind) (a b : Int) (κ : V → Prop) : Prop :=
  match op with
  | .add => Ar k (a + b) fun n => κ (.i k n)
  | .sub => Ar k (a - b) fun n => κ (.i k n)
  | .mul => Ar k (a * b) fun n => κ (.i k n)
  | .quo => Quo k a b fun n => κ (.i k n)
  | .rem => Rem a b fun n => κ (.i k n)
  | .and => κ (.i k (k.wrap (BitVec.ofInt k.bits a &&& BitVec.ofInt k.bits b).toNat))
  | .or => κ (.i k (k.wrap (BitVec.ofInt k.bits a ||| BitVec.ofInt k.bits b).toNat))
  | .xor => κ (.i k (k.wrap (BitVec.ofInt k.bits a ^^^ BitVec.ofInt k.bits b).toNat))
  | .eql => κ (.b (a == b))
  | .neq => κ (.b (a != b))
  | .lss => κ (.b (decide (a < b)))
  | .leq => κ (.b (decide (a ≤ b)))
  | .gtr => κ (.b (decide (b < a)))
  | .geq => κ (.b (decide (b ≤ a)))
  | _ => StuckC [] 1

theorem arK_ok {op : BinOp} {k : IntKind} {a b : Int} {κ : V → Prop} (h : arK op k a b κ) : ∃ v, binI op k a b = some v ∧ κ v := by
  cases op <;> simp only [arK] at h <;> simp only [binI] <;>
    first
      | exact ⟨_, rfl, h⟩
      | (cases h with
          | wrap h => exact ⟨_, rfl, h⟩
          | fit e h => exact ⟨_, rfl, by rw [e]; exact h⟩)
      | (cases h with
          | mk hb h => rw [if_neg hb]; exact ⟨_, rfl, h⟩)
      | (cases h; done)

def eq1K (u : UD) (x y : Option V) (κ : Bool → Prop) : Prop :=
  match u, x, y with
  | .bool, some (.b a), some (.b b) => κ (a == b)
  | .int _, some (.i k a), some (.i k' b) => match kEq k k' with
    | true => κ (a == b)
    | false => StuckC [] 8
  | .str, some (.s a), some (.s b) => κ (a == b)
  | _, _, _ => StuckC [] 8
def eqK : List (Nat × UD) → List V → List V → (Bool → Prop) → Prop
  | [], _, _, κ => κ true
  | (o, u) :: r, xs, ys, κ => eq1K u xs[o]? ys[o]? fun b => eqK r xs ys fun c => κ (b && c)

def binK (T : TT) (op : BinOp) (t : Nat) (x y : V) (κ : V → Prop) : Prop :=
  match T.look t with
  | some d => match d.u with
    | .bool => match x, y with
      | .b a, .b b => match op with
        | .eql => κ (.b (a == b))
        | .neq => κ (.b (!(a == b)))
        | _ => StuckC [] 2
      | _, _ => StuckC [] 3
    | .other => match x, y with
      | .ag xs, .ag ys => match d.eqs with
        | [] => StuckC [] 8
        | (o, u) :: l => match op with
          | .eql => eqK ((o, u) :: l) xs ys fun b => κ (.b b)
          | .neq => eqK ((o, u) :: l) xs ys fun b => κ (.b (!b))
          | _ => StuckC [] 8
      | _, _ => StuckC [] 3
    | _ => match x, y with
      | .i k a, .i k' b => match op with
        | .shl => Shl k a b fun n => κ (.i k n)
        | .shr => Shr k a b fun n => κ (.i k n)
        | op => match kEq k k' with
          | true => arK op k a b κ
          | false => StuckC [] 4
      | .s a, .s b => match op with
        | .add => Ob (a.length + b.length ≤ 9223372036854775807) (κ (.s (a ++ b)))
        | .eql => κ (.b (a == b))
        | .neq => κ (.b (!(a == b)))
        | _ => StuckC [] 5
      | _, _ => StuckC [] 6
  | none => StuckC [] 7

section
variable {P : Program} {T : TT} {n : Nat} {e : Env} {o : Oper}

theorem udOf_bool {x : TypeDesc} (h : udOf x = .bool) : x = .bool := by cases x <;> simp [udOf] at h ⊢
theorem udOf_int {x : TypeDesc} {k : IntKind} (h : udOf x = .int k) : x = .int k := by
  cases x <;> simp [udOf] at h ⊢
  exact h
theorem udOf_str {x : TypeDesc} (h : udOf x = .str) : x = .string := by cases x <;> simp [udOf] at h ⊢

theorem und_of {t : Nat} {d : TD} (h : d.ok P t) : ∃ x, P.underlying t = some x ∧ udOf x = d.u := by
  have := h.2.1
  cases hx : P.underlying t with
  | none => rw [hx] at this; cases this
  | some x => rw [hx] at this; exact ⟨x, rfl, by simpa using this⟩

theorem eq1K_ok {u : UD} {t : Nat} {x y : Option V} {κ : Bool → Prop} {ty : TypeDesc} (ht : P.underlying t = some ty) (hu : udOf ty = u) (h : eq1K u x y κ) : ∃ b, eq1 P t x y = some b ∧ κ b := by
  unfold eq1K at h
  split at h
  · rw [udOf_bool hu] at ht; exact ⟨_, by simp only [eq1, ht], h⟩
  · rename_i k0 k a k' b
    rw [udOf_int hu] at ht
    split at h
    · rename_i hk
      have := kEq_iff hk
      subst this
      exact ⟨_, by simp only [eq1, ht, if_true], h⟩
    · cases h
  · rw [udOf_str hu] at ht; exact ⟨_, by simp only [eq1, ht], h⟩
  · cases h
theorem eqK_ok {xs ys : List V} : ∀ (fs : List Field) (l : List (Nat × UD)) (κ : Bool → Prop), eqsB P fs l = true → eqK l xs ys κ → ∃ b, eqF P fs xs ys = some b ∧ κ b
  | [], [], κ, _, h => ⟨true, rfl, h⟩
  | [], _ :: _, κ, hb, _ => by simp [eqsB] at hb
  | _ :: _, [], κ, hb, _ => by simp [eqsB] at hb
  | f :: r, (o, u) :: l, κ, hb, h => by
    simp only [eqsB, Bool.and_eq_true] at hb
    obtain ⟨⟨⟨hn, ho⟩, hu⟩, hr⟩ := hb
    have ho := Nat.eq_of_beq_eq_true ho
    subst ho
    split at hu
    · rename_i ty hty
      simp only [eqK] at h
      obtain ⟨b, hb, h⟩ := eq1K_ok hty (of_decide_eq_true hu) h
      obtain ⟨c, hc, h⟩ := eqK_ok r l _ hr h
      refine ⟨b && c, ?_, h⟩
      simp only [eqF, hb, hc]
      rw [if_neg (by simpa using hn)]
    · cases hu

theorem binK_ok {op : BinOp} {t : Nat} {x y : V} {κ : V → Prop} (hT : T.ok P) (h : binK T op t x y κ) :
    ∃ v, (match P.underlying t with
      | some .bool => eqB op x y
      | some (.struct _) => eqS P op t x y
      | _ => binV op x y) = some v ∧ κ v := by
  unfold binK at h
  split at h
  · rename_i d hd
    obtain ⟨ty, hty, hu⟩ := und_of (TT.look_ok hT hd)
    rw [hty]
    split at h
    · rename_i hb
      rw [hb] at hu
      have := udOf_bool hu
      subst this
      simp only
      split at h
      · split at h
        · exact ⟨_, rfl, h⟩
        · exact ⟨_, rfl, h⟩
        · cases h
      · cases h
    · rename_i ho
      have hq := (TT.look_ok hT hd).2.2.2.2.2
      split at h
      · split at h
        · cases h
        · rename_i o u l heq
          rw [heq] at hq
          simp only [eqsOk, Bool.and_eq_true, Bool.not_eq_true'] at hq
          obtain ⟨⟨⟨hs, h1⟩, h2⟩, h3⟩ := hq
          rw [hty] at hs
          split at hs
          · rename_i fs hfs
            cases hfs
            split at h
            · obtain ⟨b, hb, h⟩ := eqK_ok _ _ _ h3 h
              exact ⟨.b b, by simp only [eqS, hb, h1, h2, and_self, if_true], h⟩
            · obtain ⟨b, hb, h⟩ := eqK_ok _ _ _ h3 h
              exact ⟨.b (!b), by simp only [eqS, hb, h1, h2, and_self, if_true], h⟩
            · cases h
          · cases hs
      · cases h
    · rename_i hnb hno
      have hm : (match (some ty : Option TypeDesc) with
          | some .bool => eqB op x y
          | some (.struct _) => eqS P op t x y
          | _ => binV op x y) = binV op x y := by
        cases ty <;> first | rfl | exact (hnb hu.symm).elim | exact (hno hu.symm).elim
      rw [hm]
      split at h
      · split at h
        · cases h with
          | mk hb h => exact ⟨_, by simp only [binV]; rw [if_neg hb], h⟩
        · cases h with
          | mk hb h => exact ⟨_, by simp only [binV]; rw [if_neg hb], h⟩
        · rename_i op h1 h2
          split at h
          · rename_i hk
            have := kEq_iff hk
            subst this
            obtain ⟨v, hv, hκ⟩ := arK_ok h
            refine ⟨v, ?_, hκ⟩
            rw [← hv]
            cases op <;> first | (simp only [binV, if_true]; done) | exact (h1 rfl).elim | exact (h2 rfl).elim
          · cases h
      · split at h
        · cases h with
          | mk hb h => exact ⟨_, by simp only [binV]; rw [if_pos hb], h⟩
        · exact ⟨_, rfl, h⟩
        · exact ⟨_, rfl, h⟩
        · cases h
      · cases h
  · cases h

/-- What stands along a path; through rows at what is told of their elements. -/
def subK (v : V) : Path → (Option V → Prop) → Prop
  | [], κ => κ (some v)
  | f :: p, κ => match v with
    | .ow _ xs => EltN xs f fun x => V.force x fun x => subK x p κ
    | v => match v.kids[f]? with
      | some x => subK x p κ
      | none => κ none

theorem subK_of : ∀ (p : Path) (v : V) (κ : Option V → Prop), subK v p κ → κ (v.sub p)
  | [], v, κ, h => h
  | f :: p, v, κ, h => by
    simp only [subK] at h
    split at h
    · rename_i z xs
      cases h with
      | mk x hx h =>
        rw [V.force_iff] at h
        simp only [V.sub, V.kids, hx]
        exact subK_of p x κ h
    · simp only [V.sub]
      split at h
      · rename_i x hx; rw [hx]; exact subK_of p x κ h
      · rename_i hx; rw [hx]; exact h

def Env.atK (e : Env) (p : Path) (κ : Option V → Prop) : Prop :=
  match p with
  | (t + 2) :: q => e.getK t fun v => subK v q κ
  | _ => κ none

theorem Env.atK_of {e : Env} {p : Path} {κ : Option V → Prop} (h : e.atK p κ) : κ (e.at p) := by
  match p, h with
  | (t + 2) :: q, h => exact subK_of q _ κ ((Env.getK_iff _ _ _).1 h)
  | [], h => exact h
  | [0], h => exact h
  | [1], h => exact h
  | 0 :: _ :: _, h => exact h
  | 1 :: _ :: _, h => exact h

def rowK (e : Env) (x : V) (κ : List V → Prop) : Prop :=
  match x with
  | .al p => e.atK p fun u => match u with
    | some (.ow _ xs) => κ xs
    | _ => StuckC e 8
  | .hd p z off len => e.atK p fun u => match u with
    | some (.ow z' xs) => match Nat.beq z' z with
      | true => κ ((xs.drop off).take len)
      | false => StuckC e 9
    | _ => StuckC e 10
  | .sl xs => κ xs
  | .nl => κ []
  | _ => StuckC e 11

theorem rowK_ok {x : V} {κ : List V → Prop} (h : rowK e x κ) : ∃ xs, e.row x = some xs ∧ κ xs := by
  unfold rowK at h
  split at h
  · replace h := Env.atK_of h
    simp only [Env.row]
    split at h
    · rename_i z xs hu; rw [hu]; exact ⟨_, rfl, h⟩
    · cases h
  · replace h := Env.atK_of h
    simp only [Env.row]
    split at h
    · rename_i z' xs hu
      rw [hu]
      split at h
      · rename_i hz
        have := Nat.eq_of_beq_eq_true hz
        subst this
        exact ⟨_, by simp, h⟩
      · cases h
    · cases h
  · exact ⟨_, rfl, h⟩
  · exact ⟨_, rfl, h⟩
  · cases h

def idxK (T : TT) (e : Env) (t : Nat) (x i : V) (κ : V → Prop) : Prop :=
  match T.look t with
  | some d => match d.ti, i with
    | .slice _ z _, .i _ n => match x with
      | .al p => e.atK p fun u => match u with
        | some (.ow z' xs) => match Nat.beq z' z with
          | true => Ob (0 ≤ n ∧ n < xs.length) (Nt n fun j => κ (.ae p z j 0))
          | false => StuckC e 12
        | _ => StuckC e 13
      | .hd p z2 off len => e.atK p fun u => match u with
        | some (.ow z' xs) => match Nat.beq z' z, Nat.beq z2 z with
          | true, true => Ob (0 ≤ n ∧ n < len ∧ off + len ≤ xs.length) (Nt n fun j => κ (.ae p z (off + j) 0))
          | _, _ => StuckC e 14
        | _ => StuckC e 15
      | .sl xs => Elt xs n fun x => V.force x fun x => match lenIs x.cs z with
        | true => κ (.im x.cs)
        | false => StuckC e 16
      | _ => StuckC e 17
    | .arr len z _, .i _ n => Ob (0 ≤ n ∧ n < len) (Nt n fun j => match x with
      | .ad p off => κ (.ad p (off + j * z))
      | .ae p z' j' g => κ (.ae p z' j' (g + j * z))
      | .im cs => κ (.im (cs.drop (j * z)))
      | _ => StuckC e 17)
    | _, _ => StuckC e 18
  | none => StuckC e 19

theorem idxK_ok {t : Nat} {x i : V} {κ : V → Prop} (hT : T.ok P) (h : idxK T e t x i κ) : ∃ v, idxAd P e t x i = some v ∧ κ v := by
  unfold idxK at h
  split at h
  · rename_i d hd
    have hti := (TT.look_ok hT hd).1
    unfold idxAd
    rw [hti]
    split at h
    · rename_i el z nb k n htd
      rw [htd]
      simp only
      split at h
      · replace h := Env.atK_of h
        simp only
        split at h
        · rename_i z' xs hu
          rw [hu]
          split at h
          · rename_i hz
            have := Nat.eq_of_beq_eq_true hz
            subst this
            cases h with
            | mk hb h => cases h with
              | mk j hj h => subst hj; exact ⟨_, by simp only; rw [if_pos ⟨trivial, hb.1, hb.2⟩], h⟩
          · cases h
        · cases h
      · replace h := Env.atK_of h
        simp only
        split at h
        · rename_i z' xs hu
          rw [hu]
          split at h
          · rename_i hz hz2
            have := Nat.eq_of_beq_eq_true hz
            subst this
            have := Nat.eq_of_beq_eq_true hz2
            subst this
            cases h with
            | mk hb h => cases h with
              | mk j hj h => subst hj; exact ⟨_, by simp only; rw [if_pos ⟨trivial, trivial, hb.1, hb.2.1, hb.2.2⟩], h⟩
          · cases h
        · cases h
      · cases h with
        | mk x h0 hx h =>
          rw [V.force_iff] at h
          split at h
          · rename_i hl
            exact ⟨_, by simp only; rw [if_pos h0, hx]; simp only; rw [if_pos (lenIs_iff hl)], h⟩
          · cases h
      · cases h
    · rename_i len z nb k n htd
      rw [htd]
      cases h with
      | mk hb h => cases h with
        | mk j hj h =>
          subst hj
          split at h
          · exact ⟨_, by simp only; rw [if_pos hb], h⟩
          · exact ⟨_, by simp only; rw [if_pos hb], h⟩
          · exact ⟨_, by simp only; rw [if_pos hb], h⟩
          · cases h
    · cases h
  · cases h

def fldK (T : TT) (t : Nat) (x : V) (f : Nat) (κ : V → Prop) : Prop :=
  match T.look t with
  | some d => match d.ti with
    | .struct fs _ => match fs[f]? with
      | some (o, s) => match Nat.beq s 0 with
        | true => StuckC [] 20
        | false => match x with
          | .ad p off => κ (.ad p (off + o))
          | .ae p z j g => κ (.ae p z j (g + o))
          | .im cs => κ (.im (cs.drop o))
          | _ => StuckC [] 21
      | none => StuckC [] 22
    | _ => StuckC [] 23
  | none => StuckC [] 24

theorem fldK_ok {t f : Nat} {x : V} {κ : V → Prop} (hT : T.ok P) (h : fldK T t x f κ) : ∃ v, fldAd P t x f = some v ∧ κ v := by
  unfold fldK at h
  split at h
  · rename_i d hd
    have hti := (TT.look_ok hT hd).1
    unfold fldAd
    rw [hti]
    split at h
    · rename_i fs m htd
      rw [htd]
      simp only
      split at h
      · rename_i o' s hf
        rw [hf]
        simp only
        split at h
        · cases h
        · rename_i hs
          have : ¬ s = 0 := by rintro rfl; simp at hs
          rw [if_neg this]
          split at h
          · exact ⟨_, rfl, h⟩
          · exact ⟨_, rfl, h⟩
          · exact ⟨_, rfl, h⟩
          · cases h
      · cases h
    · cases h
  · cases h

def cellsK (e : Env) (x : V) (n : Nat) (κ : List V → Prop) : Prop :=
  match x with
  | .ad p off => e.atK p fun u => match u with
    | some (.bx cs) => match lenGe cs (off + n) with
      | true => V.forceL (V.view.go p off ((cs.drop off).take n)) κ
      | false => StuckC e 25
    | _ => StuckC e 26
  | .ae p z j f => e.atK p fun u => match u with
    | some (.ow z' xs) => match Nat.beq z' z with
      | true => EltN xs j fun x => V.force x fun x => match x with
        | .ag cs => match lenGe cs (f + n), lenIs cs z with
          | true, true => V.forceL (V.view.go (p ++ [j]) f ((cs.drop f).take n)) κ
          | _, _ => StuckC e 27
        | x => match Nat.beq f 0, Nat.beq n 1, Nat.beq z 1 with
          | true, true, true => V.force (x.view (p ++ [j])) fun x => κ [x]
          | _, _, _ => StuckC e 28
      | false => StuckC e 29
    | _ => StuckC e 30
  | .im cs => match lenGe cs n with
    | true => V.forceL (cs.take n) κ
    | false => StuckC e 31
  | _ => StuckC e 32

theorem cellsK_ok {x : V} {m : Nat} {κ : List V → Prop} (h : cellsK e x m κ) : ∃ cs, cellsAt e x m = some cs ∧ κ cs := by
  unfold cellsK at h
  split at h
  · replace h := Env.atK_of h
    unfold cellsAt
    split at h
    · rename_i cs hu
      simp only
      rw [hu]
      split at h
      · rename_i hl
        rw [V.forceL_iff] at h
        exact ⟨_, by simp only; rw [if_pos (lenGe_iff hl)], h⟩
      · cases h
    · cases h
  · replace h := Env.atK_of h
    unfold cellsAt
    split at h
    · rename_i z' xs hu
      simp only
      rw [hu]
      split at h
      · rename_i hz
        have := Nat.eq_of_beq_eq_true hz
        subst this
        cases h with
        | mk x hx h =>
          rw [V.force_iff] at h
          simp only [if_true]
          rw [hx]
          split at h
          · split at h
            · rename_i h1 h2
              rw [V.forceL_iff] at h
              exact ⟨_, by simp only; rw [if_pos ⟨lenGe_iff h1, lenIs_iff h2⟩], h⟩
            · cases h
          · rename_i hna
            split at h
            · rename_i h1 h2 h3
              rw [V.force_iff] at h
              refine ⟨_, ?_, h⟩
              have hm : (∀ cs, x = V.ag cs → False) := hna
              split
              · rename_i cs hcs; exact (hm cs (by simpa using hcs)).elim
              · rename_i y hy heq
                cases heq
                rw [if_pos ⟨Nat.eq_of_beq_eq_true h1, Nat.eq_of_beq_eq_true h2, Nat.eq_of_beq_eq_true h3⟩]
              · rename_i heq; cases heq
            · cases h
      · cases h
    · cases h
  · unfold cellsAt
    split at h
    · rename_i hl
      rw [V.forceL_iff] at h
      exact ⟨_, by simp only; rw [if_pos (lenGe_iff hl)], h⟩
    · cases h
  · cases h

def loadK (T : TT) (e : Env) (t : Nat) (x : V) (κ : V → Prop) : Prop :=
  match T.look t with
  | some d => match d.ti with
    | .bad => StuckC e 33
    | ti => match ti.cells with
      | some n => cellsK e x n fun cs => κ (.ag cs)
      | none => cellsK e x 1 fun cs => match cs with
        | [.ag _] => StuckC e 34
        | [c] => κ c
        | _ => StuckC e 35
  | none => StuckC e 36

theorem loadK_ok {t : Nat} {x : V} {κ : V → Prop} (hT : T.ok P) (h : loadK T e t x κ) : ∃ v, loadV P e t x = some v ∧ κ v := by
  unfold loadK at h
  split at h
  · rename_i d hd
    have hti := (TT.look_ok hT hd).1
    unfold loadV
    rw [hti]
    split at h
    · cases h
    · rename_i hb
      split at h
      · rename_i n hn
        obtain ⟨cs, hcs, h⟩ := cellsK_ok h
        refine ⟨_, ?_, h⟩
        split
        · rename_i hbad; exact (hb hbad).elim
        · rw [hn]; simp only [hcs, Option.map_some]
      · rename_i hn
        obtain ⟨cs, hcs, h⟩ := cellsK_ok h
        split at h
        · cases h
        · rename_i c hna
          refine ⟨_, ?_, h⟩
          split
          · rename_i hbad; exact (hb hbad).elim
          · rw [hn]; simp only [hcs]
            try (split <;> simp_all)
        · cases h
  · cases h

def sliceK (T : TT) (e : Env) (t : Nat) (x : V) (lo hi : Option V) (κ : V → Prop) : Prop :=
  match T.look t with
  | some d => match d.ti, x with
    | .str, .s l => Cut l.length lo hi fun a b => κ (.s ((l.drop a).take (b - a)))
    | .slice _ z _, .al p => e.atK p fun u => match u with
      | some (.ow z' xs) => match Nat.beq z' z with
        | true => Cut xs.length lo hi fun a b => κ (.hd p z a (b - a))
        | false => StuckC e 37
      | _ => StuckC e 38
    | .slice _ z _, .hd p z' off len => match Nat.beq z' z with
      | true => Cut len lo hi fun a b => κ (.hd p z (off + a) (b - a))
      | false => StuckC e 39
    | .slice _ z _, .sl xs => Ob (V.allW z xs = true) (Cut xs.length lo hi fun a b => κ (.sl ((xs.drop a).take (b - a))))
    | .slice _ _ _, .nl => Cut 0 lo hi fun _ _ => κ .nl
    | _, _ => StuckC e 40
  | none => StuckC e 41

theorem sliceK_ok {t : Nat} {x : V} {lo hi : Option V} {κ : V → Prop} (hT : T.ok P) (h : sliceK T e t x lo hi κ) : ∃ v, sliceV P e t x lo hi = some v ∧ κ v := by
  unfold sliceK at h
  split at h
  · rename_i d hd
    have hti := (TT.look_ok hT hd).1
    unfold sliceV
    rw [hti]
    split at h
    · rename_i l htd
      rw [htd]
      cases h with
      | mk a b hb h => exact ⟨_, by simp only [hb, Option.map_some], h⟩
    · rename_i el z nb p htd
      rw [htd]
      replace h := Env.atK_of h
      simp only
      split at h
      · rename_i z' xs hu
        rw [hu]
        split at h
        · rename_i hz
          have := Nat.eq_of_beq_eq_true hz
          subst this
          cases h with
          | mk a b hb h => exact ⟨_, by simp only [if_true, hb, Option.map_some], h⟩
        · cases h
      · cases h
    · rename_i el z nb p z' off len htd
      rw [htd]
      split at h
      · rename_i hz
        have := Nat.eq_of_beq_eq_true hz
        subst this
        cases h with
        | mk a b hb h => exact ⟨_, by simp only [if_true, hb, Option.map_some], h⟩
      · cases h
    · rename_i el z nb xs htd
      rw [htd]
      cases h with
      | mk hw h =>
        cases h with
        | mk a b hb h => exact ⟨_, by simp only; rw [if_pos hw, hb]; rfl, h⟩
    · rename_i el z nb htd
      rw [htd]
      cases h with
      | mk a b hb h => exact ⟨_, by simp only [hb, Option.map_some], h⟩
    · cases h
  · cases h

end
end Go.Vx

namespace Go.Vx
open Go Go.RowKit Go.Great

def Env.rdoK (e : Env) (x : Option Operand) (κ : Option V → Prop) : Prop :=
  match x with
  | some x => e.rdK x fun v => κ (some v)
  | none => κ none
theorem Env.rdoK_iff (e : Env) (x : Option Operand) (κ : Option V → Prop) : e.rdoK x κ ↔ κ (x.map e.rd) := by
  cases x with
  | none => rfl
  | some x => simp only [Env.rdoK, Env.rdK_iff, Option.map_some]

def convK (T : TT) (e : Env) (src dst : Nat) (v : V) (κ : V → Prop) : Prop :=
  match T.look src, T.look dst with
  | some a, some b => match v with
    | .i _ n => match a.u, b.u with
      | .int _, .int k => Ar k n fun n => κ (.i k n)
      | _, _ => StuckC e 50
    | .s l => match a.u, b.u with
      | .str, .str => κ (.s l)
      | _, _ => StuckC e 51
    | v => match a.ti, b.ti with
      | .slice t 1 _, .str => match T.look t with
        | some c => match c.u with
          | .int .u8 => rowK e v fun xs => Byt xs fun l => κ (.s l)
          | _ => StuckC e 52
        | none => StuckC e 53
      | _, _ => StuckC e 54
  | _, _ => StuckC e 55

def pickK (e : Env) (o : Oper) (c a b : Operand) (κ : V → Prop) : Prop :=
  e.rdK c fun v => match v with
    | .b c => Br c (e.rdK a κ) (e.rdK b κ)
    | _ => Stuck o e 60
def nilK (e : Env) (o : Oper) (x : Operand) (κ : V → Prop) : Prop :=
  e.rdK x fun v => match v with
    | .ad p f => κ (.ad p f)
    | .ae p z j f => κ (.ae p z j f)
    | .im cs => κ (.im cs)
    | _ => Stuck o e 61
def unK (e : Env) (o : Oper) (op : UnOp) (x : Operand) (κ : V → Prop) : Prop :=
  e.rdK x fun v => match op, v with
    | .not, .b b => κ (.b !b)
    | .neg, .i k n => Ar k (0 - n) fun n => κ (.i k n)
    | _, _ => Stuck o e 62
def bin2K (T : TT) (e : Env) (op : BinOp) (t : Nat) (x y : Operand) (κ : V → Prop) : Prop :=
  e.rdK x fun vx => e.rdK y fun vy => binK T op t vx vy κ
def extK (e : Env) (o : Oper) (x : Operand) (i : Nat) (κ : V → Prop) : Prop :=
  e.rdK x fun v => match v with
    | .tp vs => match vs[i]? with
      | some v => κ v
      | none => Stuck o e 63
    | _ => Stuck o e 64
def load2K (T : TT) (e : Env) (t : Nat) (x : Operand) (κ : V → Prop) : Prop := e.rdK x fun v => loadK T e t v κ
def fld2K (T : TT) (e : Env) (t : Nat) (x : Operand) (f : Nat) (κ : V → Prop) : Prop := e.rdK x fun v => fldK T t v f κ
def idx2K (T : TT) (e : Env) (t : Nat) (x i : Operand) (κ : V → Prop) : Prop := e.rdK x fun v => e.rdK i fun vi => idxK T e t v vi κ
def slice2K (T : TT) (e : Env) (t : Nat) (x : Operand) (lo hi : Option Operand) (κ : V → Prop) : Prop :=
  e.rdK x fun v => e.rdoK lo fun lo => e.rdoK hi fun hi => sliceK T e t v lo hi κ
def indexK (T : TT) (e : Env) (o : Oper) (t : Nat) (x i : Operand) (κ : V → Prop) : Prop :=
  match T.look t with
  | some d => match d.ti with
    | .str => e.rdK x fun v => e.rdK i fun vi => match v, vi with
      | .s l, .i _ n => Chr l n fun b => κ (byteV b)
      | _, _ => Stuck o e 65
    | _ => Stuck o e 66
  | none => Stuck o e 67
def fieldK (T : TT) (e : Env) (o : Oper) (t : Nat) (x : Operand) (f : Nat) (κ : V → Prop) : Prop :=
  match T.look t with
  | some d => match d.ti with
    | .struct fs _ => e.rdK x fun v => match v with
      | .ag cs => match fs[f]?, d.ones[f]? with
        | some (off, s), some true => match Nat.beq s 1 with
          | true => match cs[off]? with
            | some (.ag _) => Stuck o e 68
            | some v => κ v
            | none => Stuck o e 69
          | false => Stuck o e 70
        | _, _ => Stuck o e 71
      | _ => Stuck o e 72
    | _ => Stuck o e 73
  | none => Stuck o e 74
def conv2K (T : TT) (e : Env) (src dst : Nat) (x : Operand) (κ : V → Prop) : Prop := e.rdK x fun v => convK T e src dst v κ
def lenK (T : TT) (e : Env) (o : Oper) (args : List Operand) (ts : List Nat) (κ : V → Prop) : Prop :=
  match args, ts with
  | [x], [t] => match T.look t with
    | some d => match d.ti with
      | .str => e.rdK x fun v => match v with
        | .s l => κ (.i .i64 l.length)
        | _ => Stuck o e 75
      | .slice _ _ _ => e.rdK x fun v => rowK e v fun xs => κ (.i .i64 xs.length)
      | _ => Stuck o e 76
    | none => Stuck o e 77
  | _, _ => Stuck o e 78
def maxK (e : Env) (o : Oper) (args : List Operand) (κ : V → Prop) : Prop :=
  e.rdsK args fun vs => match vs with
    | [.i k a, .i k' b] => match kEq k k' with
      | true => Mx (if b > a then b else a) fun m => κ (.i k m)
      | false => Stuck o e 79
    | _ => Stuck o e 80
def minK (e : Env) (o : Oper) (args : List Operand) (κ : V → Prop) : Prop :=
  e.rdsK args fun vs => match vs with
    | [.i k a, .i k' b] => match kEq k k' with
      | true => Mx (if b < a then b else a) fun m => κ (.i k m)
      | false => Stuck o e 81
    | _ => Stuck o e 82

def valK (T : TT) (e : Env) (o : Oper) (κ : V → Prop) : Prop :=
  match o.op with
  | .move x | .assign x => e.rdK x κ
  | .pick c a b => pickK e o c a b κ
  | .nilCheck x => nilK e o x κ
  | .unOp op _ x => unK e o op x κ
  | .binOp op t x y _ => bin2K T e op t x y κ
  | .extract x i => extK e o x i κ
  | .load t x => load2K T e t x κ
  | .fieldAddr t x f => fld2K T e t x f κ
  | .indexAddr t x i => idx2K T e t x i κ
  | .slice t x lo hi none => slice2K T e t x lo hi κ
  | .index t x i => indexK T e o t x i κ
  | .field t x f => fieldK T e o t x f κ
  | .convert src dst x => conv2K T e src dst x κ
  | .call { callee := .builtin .len, args, argTypes := ts } => lenK T e o args.toList ts.toList κ
  | .call { callee := .builtin .max, args, .. } => maxK e o args.toList κ
  | .call { callee := .builtin .min, args, .. } => minK e o args.toList κ
  | _ => Stuck o e 83

section
variable {P : Program} {T : TT} {n : Nat} {e : Env} {o : Oper}

theorem convK_ok {src dst : Nat} {x : Operand} {κ : V → Prop} (hT : T.ok P) (ho : o.op = .convert src dst x) (h : convK T e src dst (e.rd x) κ) : ∃ v, valF P e o = some v ∧ κ v := by
  unfold convK at h
  split at h
  · rename_i a b ha hb
    obtain ⟨ta, hta, hua⟩ := und_of (TT.look_ok hT ha)
    obtain ⟨tb, htb, hub⟩ := und_of (TT.look_ok hT hb)
    simp only [valF, ho]
    split at h
    · rename_i k n hv
      rw [hv]
      simp only [hta, htb]
      split at h
      · rename_i ka kb h1 h2
        rw [h1] at hua
        rw [h2] at hub
        have := udOf_int hua
        have := udOf_int hub
        subst ta tb
        simp only
        cases h with
        | wrap h => exact ⟨_, rfl, h⟩
        | fit hw h => exact ⟨_, rfl, by rw [hw]; exact h⟩
      · cases h
    · rename_i l hv
      rw [hv]
      simp only [hta, htb]
      split at h
      · rename_i h1 h2
        rw [h1] at hua
        rw [h2] at hub
        have := udOf_str hua
        have := udOf_str hub
        subst ta tb
        exact ⟨_, rfl, h⟩
      · cases h
    · rename_i hn1 hn2
      split at h
      · rename_i t nb h1 h2
        split at h
        · rename_i c hc
          split at h
          · rename_i hcu
            obtain ⟨tc, htc, huc⟩ := und_of (TT.look_ok hT hc)
            rw [hcu] at huc
            have := udOf_int huc
            subst this
            obtain ⟨xs, hrow, h⟩ := rowK_ok h
            cases h with
            | mk l hl h =>
              refine ⟨.s l, ?_, h⟩
              have k1 := (TT.look_ok hT ha).1
              have k2 := (TT.look_ok hT hb).1
              generalize hv : e.rd x = v at *
              cases v <;> first | exact (hn1 _ _ rfl).elim | exact (hn2 _ rfl).elim | (simp only [k1, k2, h1, h2, htc, hrow, hl, Option.map_some])
          · cases h
        · cases h
      · cases h
  · cases h

theorem valK_ok {κ : V → Prop} (hT : T.ok P) (h : valK T e o κ) : ∃ v, valF P e o = some v ∧ κ v := by
  unfold valK pickK nilK unK bin2K extK load2K fld2K idx2K slice2K indexK fieldK conv2K lenK maxK minK at h
  split at h
  · rename_i x ho; rw [Env.rdK_iff] at h; exact ⟨_, by simp only [valF, ho], h⟩
  · rename_i x ho; rw [Env.rdK_iff] at h; exact ⟨_, by simp only [valF, ho], h⟩
  · rename_i c a b ho
    rw [Env.rdK_iff] at h
    simp only [valF, ho]
    split at h
    · rename_i c' hc
      rw [hc]
      cases h with
      | mk h1 h2 =>
        cases c' with
        | true => have := h1 rfl; rw [Env.rdK_iff] at this; exact ⟨_, rfl, this⟩
        | false => have := h2 rfl; rw [Env.rdK_iff] at this; exact ⟨_, rfl, this⟩
    · cases h
  · rename_i x ho
    rw [Env.rdK_iff] at h
    simp only [valF, ho]
    split at h
    · rename_i hv; rw [hv]; exact ⟨_, rfl, h⟩
    · rename_i hv; rw [hv]; exact ⟨_, rfl, h⟩
    · rename_i hv; rw [hv]; exact ⟨_, rfl, h⟩
    · cases h
  · rename_i op t x ho
    rw [Env.rdK_iff] at h
    simp only [valF, ho]
    split at h
    · rename_i b hv; rw [hv]; exact ⟨_, rfl, h⟩
    · rename_i k m hv
      rw [hv]
      cases h with
      | wrap h => exact ⟨_, rfl, h⟩
      | fit hw h => exact ⟨_, rfl, by rw [hw]; exact h⟩
    · cases h
  · rename_i op t x y t2 ho
    simp only [Env.rdK_iff] at h
    obtain ⟨v, hv, h⟩ := binK_ok hT h
    refine ⟨v, ?_, h⟩
    rw [← hv]
    simp only [valF, ho]
    rfl
  · rename_i x i ho
    rw [Env.rdK_iff] at h
    simp only [valF, ho]
    split at h
    · rename_i vs hv
      rw [hv]
      split at h
      · rename_i v hi; exact ⟨_, hi, h⟩
      · cases h
    · cases h
  · rename_i t x ho
    rw [Env.rdK_iff] at h
    obtain ⟨v, hv, h⟩ := loadK_ok hT h
    exact ⟨v, by simp only [valF, ho]; exact hv, h⟩
  · rename_i t x f ho
    rw [Env.rdK_iff] at h
    obtain ⟨v, hv, h⟩ := fldK_ok hT h
    exact ⟨v, by simp only [valF, ho]; exact hv, h⟩
  · rename_i t x i ho
    simp only [Env.rdK_iff] at h
    obtain ⟨v, hv, h⟩ := idxK_ok hT h
    exact ⟨v, by simp only [valF, ho]; exact hv, h⟩
  · rename_i t x lo hi ho
    simp only [Env.rdK_iff, Env.rdoK_iff] at h
    obtain ⟨v, hv, h⟩ := sliceK_ok hT h
    exact ⟨v, by simp only [valF, ho]; exact hv, h⟩
  · rename_i t x i ho
    split at h
    · rename_i d hd
      have hti := (TT.look_ok hT hd).1
      split at h
      · rename_i hs
        simp only [Env.rdK_iff] at h
        split at h
        · rename_i l k n hv hvi
          cases h with
          | mk b h0 hb h =>
            refine ⟨_, ?_, h⟩
            simp only [valF, ho, hti, hs, hv, hvi]
            rw [if_pos h0, hb]
            rfl
        · cases h
      · cases h
    · cases h
  · rename_i t x f ho
    split at h
    · rename_i d hd
      obtain ⟨hti, _, _, _, hone, _⟩ := TT.look_ok hT hd
      split at h
      · rename_i fs m hs
        rw [Env.rdK_iff] at h
        split at h
        · rename_i cs hv
          split at h
          · rename_i off s hf h1
            split at h
            · rename_i hs1
              split at h
              · cases h
              · rename_i v hna hc
                refine ⟨v, ?_, h⟩
                simp only [valF, ho, hti, hs, hv, hf]
                rw [if_pos ⟨Nat.eq_of_beq_eq_true hs1, hone f h1⟩, hc]
                try (split <;> simp_all)
              · cases h
            · cases h
          · cases h
        · cases h
      · cases h
    · cases h
  · rename_i src dst x ho
    rw [Env.rdK_iff] at h
    exact convK_ok hT ho h
  · rename_i args ts ho
    simp only [valF, ho]
    split at h
    · rename_i x t hx ht
      rw [hx, ht]
      split at h
      · rename_i d hd
        have hti := (TT.look_ok hT hd).1
        simp only
        rw [hti]
        split at h
        · rename_i hs
          rw [hs]
          rw [Env.rdK_iff] at h
          split at h
          · rename_i l hv; simp only [hv]; exact ⟨_, rfl, h⟩
          · cases h
        · rename_i hs
          rw [hs]
          rw [Env.rdK_iff] at h
          obtain ⟨xs, hrow, h⟩ := rowK_ok h
          exact ⟨_, by simp only [hrow, Option.map_some], h⟩
        · cases h
      · cases h
    · cases h
  · rename_i args ts ho
    simp only [valF, ho]
    rw [Env.rdsK_iff] at h
    split at h
    · rename_i k a k' b hv
      rw [hv]
      split at h
      · rename_i hk
        have := kEq_iff hk
        subst this
        cases h with
        | mk m hm h => subst hm; exact ⟨_, by simp only [if_true], h⟩
      · cases h
    · cases h
  · rename_i args ts ho
    simp only [valF, ho]
    rw [Env.rdsK_iff] at h
    split at h
    · rename_i k a k' b hv
      rw [hv]
      split at h
      · rename_i hk
        have := kEq_iff hk
        subst this
        cases h with
        | mk m hm h => subst hm; exact ⟨_, by simp only [if_true], h⟩
      · cases h
    · cases h
  · cases h

theorem bytes_val {s t : TypeId} {x : Operand} {v : V} (ho : o.op = .convert s t x) (hn : newF P e o = some v) : valF P e o = none := by
  unfold newF at hn
  rw [ho] at hn
  simp only at hn
  split at hn
  · rename_i l el nb hx hs ht
    obtain ⟨hu, _⟩ := tinfo_slice ht
    simp only [valF, ho, hx, hs, hu]
  · cases hn

theorem stepF_val {v : V} (hv : valF P e o = some v) (hd : dOk n o.dst = true) : stepF P n e o = some (e.setd o.dst v) := by
  unfold stepF
  rw [if_pos hd]
  split <;> first
    | (rename_i ho; simp [valF, ho] at hv; done)
    | (rw [hv]; rfl)
    | (rename_i ho
       split
       · rename_i h1 _
         rw [bytes_val ho h1] at hv
         cases hv
       · rw [hv]; rfl)

theorem Env.force_ok : ∀ {e : Env} {κ : Env → Prop}, Env.force e κ → ∃ e', e.Eqv e' ∧ κ e'
  | [], κ, h => ⟨[], fun _ => rfl, h⟩
  | (t, v) :: r, κ, h => by
    have key : Env.force r (fun r => κ ((t, v) :: r)) := by
      simp only [Env.force, V.force_iff] at h
      exact h
    obtain ⟨r', h1, h2⟩ := Env.force_ok key
    refine ⟨_, fun u => ?_, h2⟩
    simp only [Env.get]
    rw [h1 u]

end
end Go.Vx

namespace Go.Vx
open Go Go.RowKit Go.Great

def hdNe (d : Nat) : Path → Bool
  | [] => true
  | x :: _ => match Nat.beq x (d + 2) with
    | true => false
    | false => true

def allNe (d : Nat) : List Path → Bool
  | [] => true
  | p :: r => match hdNe d p with
    | true => allNe d r
    | false => false

def allQ (q : Path → Bool) : List Path → Bool
  | [] => true
  | p :: r => match q p with
    | true => allQ q r
    | false => false
theorem allQ_ok {q : Path → Bool} : ∀ {l : List Path}, allQ q l = true → ∀ p ∈ l, q p = true
  | [], _, p, hp => by cases hp
  | x :: r, h, p, hp => by
    simp only [allQ] at h
    split at h
    · rename_i hx
      rcases List.mem_cons.1 hp with rfl | hp
      · exact hx
      · exact allQ_ok h p hp
    · cases h
/-- All that a cell hangs on is so (what has parts is rare here). -/
def V.ar1 (q : Path → Bool) (v : V) : Bool :=
  match v with
  | .al p => q p
  | .hd p _ _ _ => q p
  | .ad p _ => q p
  | .ae p _ _ _ => q p
  | .ag cs => allQ q (V.ag cs).refs
  | .tp cs => allQ q (V.tp cs).refs
  | .bx cs => allQ q (V.bx cs).refs
  | _ => true
def V.arL (q : Path → Bool) : List V → Bool
  | [] => true
  | v :: r => match v.ar1 q with
    | true => V.arL q r
    | false => false
def V.allRefs (q : Path → Bool) (v : V) : Bool :=
  match v with
  | .ag cs => V.arL q cs
  | .tp cs => V.arL q cs
  | .bx cs => V.arL q cs
  | v => v.ar1 q
theorem V.ar1_ok {q : Path → Bool} {v : V} (h : v.ar1 q = true) : ∀ p ∈ v.refs, q p = true := by
  intro p hp
  cases v with
  | al x => simp only [V.refs, List.mem_singleton] at hp; subst hp; exact h
  | hd x _ _ _ => simp only [V.refs, List.mem_singleton] at hp; subst hp; exact h
  | ad x _ => simp only [V.refs, List.mem_singleton] at hp; subst hp; exact h
  | ae x _ _ _ => simp only [V.refs, List.mem_singleton] at hp; subst hp; exact h
  | ag cs => exact allQ_ok h p hp
  | tp cs => exact allQ_ok h p hp
  | bx cs => exact allQ_ok h p hp
  | _ => simp [V.refs] at hp
theorem V.arL_ok {q : Path → Bool} : ∀ {cs : List V}, V.arL q cs = true → ∀ p ∈ V.refs.go cs, q p = true
  | [], _, p, hp => by simp [V.refs.go] at hp
  | v :: r, h, p, hp => by
    simp only [V.arL] at h
    split at h
    · rename_i hv
      simp only [V.refs.go, List.mem_append] at hp
      rcases hp with hp | hp
      · exact V.ar1_ok hv p hp
      · exact V.arL_ok h p hp
    · cases h
theorem V.allRefs_ok {q : Path → Bool} {v : V} (h : v.allRefs q = true) : ∀ p ∈ v.refs, q p = true := by
  cases v with
  | ag cs => exact V.arL_ok h
  | tp cs => exact V.arL_ok h
  | bx cs => exact V.arL_ok h
  | _ => exact V.ar1_ok h

def Env.freeB : Env → Nat → Bool
  | [], _ => true
  | (_, v) :: r, d => match v.allRefs (hdNe d) with
    | true => Env.freeB r d
    | false => false

theorem hdNe_eq {d : Nat} {p : Path} (h : hdNe d p = true) : (p.head? != some (d + 2)) = true := by
  cases p with
  | nil => rfl
  | cons x r =>
    simp only [hdNe] at h
    split at h
    · cases h
    · rename_i hb
      rw [nbeq] at hb
      simpa using hb

theorem allNe_eq {d : Nat} : ∀ {l : List Path}, allNe d l = true → (l.all fun p => p.head? != some (d + 2)) = true
  | [], _ => rfl
  | p :: r, h => by
    simp only [allNe] at h
    split at h
    · rename_i hp
      rw [List.all_cons, hdNe_eq hp, allNe_eq h]; rfl
    · cases h

theorem Env.freeB_eq : ∀ {e : Env} {d : Nat}, e.freeB d = true → e.free d = true
  | [], _, _ => rfl
  | (t, v) :: r, d, h => by
    simp only [Env.freeB] at h
    split at h
    · rename_i hp
      have ih := Env.freeB_eq h
      simp only [Env.free, List.all_cons, Bool.and_eq_true] at ih ⊢
      exact ⟨List.all_eq_true.2 fun p k => hdNe_eq (V.allRefs_ok hp p k), ih⟩
    · cases h

def natsEq : List Nat → List Nat → Bool
  | [], [] => true
  | a :: r, b :: s => match Nat.beq a b with
    | true => natsEq r s
    | false => false
  | _, _ => false
theorem natsEq_iff : ∀ {l m : List Nat}, natsEq l m = true → l = m
  | [], [], _ => rfl
  | a :: r, b :: s, h => by
    simp only [natsEq] at h
    split at h
    · rename_i hb; rw [Nat.eq_of_beq_eq_true hb, natsEq_iff h]
    · cases h
  | [], _ :: _, h => by simp [natsEq] at h
  | _ :: _, [], h => by simp [natsEq] at h

def newK (T : TT) (e : Env) (o : Oper) (κ : V → Prop) : Prop :=
  match o.op with
  | .alloc t => match T.look t with
    | some d => match d.zs with
      | some zs => κ (.bx zs)
      | none => Stuck o e 100
    | none => Stuck o e 101
  | .box _ x => e.rdK x fun v => match v.noUn, (match o.dst with
      | some d => allNe d v.refs
      | none => false) with
    | true, true => κ (.bx v.cs)
    | _, _ => Stuck o e 102
  | .buildSlice t len parts => match T.look t with
    | some d => match d.ti with
      | .slice el z _ => match T.look el with
        | some d2 => match d2.zs.isSome, natsEq (parts.toList.map (·.1)) (List.range len), Nat.ble (len * z) 16777216, Nat.blt 0 z with
          | true, true, true, true => e.rdsK (parts.toList.map (·.2)) fun vs => match V.allW z vs, V.allFlat vs with
            | true, true => κ (.ow z vs)
            | _, _ => Stuck o e 103
          | _, _, _, _ => Stuck o e 104
        | none => Stuck o e 105
      | _ => Stuck o e 106
    | none => Stuck o e 107
  | .makeSlice t l c => match T.look t with
    | some d => match d.ti with
      | .slice el z nb => match T.look el with
        | some d2 => e.rdK l fun vl => e.rdK c fun vc => match vl, vc with
          | .i _ a, .i _ b => Ob (0 ≤ a ∧ a ≤ b ∧ b * nb ≤ 140737488355328 ∧ b ≤ 140737488355328) (match d2.zs, d2.ti.cells with
            | some zs, some m => match lenIs zs z, Nat.beq m z, zs.all V.plain, Nat.blt 0 z with
              | true, true, true, true => κ (.ow z (List.replicate a.toNat (.ag zs)))
              | _, _, _, _ => Stuck o e 108
            | some [x], none => match Nat.beq z 1, x.plain with
              | true, true => κ (.ow 1 (List.replicate a.toNat x))
              | _, _ => Stuck o e 109
            | _, _ => Stuck o e 110)
          | _, _ => Stuck o e 111
        | none => Stuck o e 112
      | _ => Stuck o e 113
    | none => Stuck o e 114
  | .convert src dst x => match T.look src, T.look dst with
    | some a, some b => match a.u, b.ti with
      | .str, .slice el 1 _ => match T.look el with
        | some c => match c.u with
          | .int .u8 => e.rdK x fun v => match v with
            | .s l => Ob (l.length ≤ 140737488355328) (κ (.ow 1 (l.map byteV)))
            | _ => Stuck o e 116
          | _ => Stuck o e 117
        | none => Stuck o e 118
      | _, _ => Stuck o e 119
    | _, _ => Stuck o e 120
  | _ => Stuck o e 115

/-- A conversion that makes a row. -/
def isBytes (T : TT) (src dst : Nat) : Bool :=
  match T.look src, T.look dst with
  | some a, some b => match a.u, b.ti with
    | .str, .slice _ _ _ => true
    | _, _ => false
  | _, _ => false

section
variable {P : Program} {T : TT} {n : Nat} {e : Env} {o : Oper}

theorem newK_ok {κ : V → Prop} (hT : T.ok P) (h : newK T e o κ) : ∃ v, newF P e o = some v ∧ κ v := by
  unfold newK at h
  split at h
  · rename_i t ho
    split at h
    · rename_i d hd
      obtain ⟨_, _, hz, _⟩ := TT.look_ok hT hd
      split at h
      · rename_i zs hzs; exact ⟨_, by simp only [newF, ho, hz, hzs, Option.map_some], h⟩
      · cases h
    · cases h
  · rename_i t x ho
    rw [Env.rdK_iff] at h
    split at h
    · rename_i h1 h2
      refine ⟨_, ?_, h⟩
      simp only [newF, ho]
      split at h2
      · rename_i d hd
        have h3 : ((e.rd x).refs.all fun p => p.head? != o.dst.map (· + 2)) = true := by
          rw [hd]; exact allNe_eq h2
        rw [if_pos ⟨h1, h3⟩]
      · cases h2
    · cases h
  · rename_i t len parts ho
    split at h
    · rename_i d hd
      have hti := (TT.look_ok hT hd).1
      split at h
      · rename_i el z nb hs
        split at h
        · rename_i d2 hd2
          obtain ⟨_, _, hz, _⟩ := TT.look_ok hT hd2
          split at h
          · rename_i h1 h2 h3 h4
            rw [Env.rdsK_iff] at h
            split at h
            · rename_i h5 h6
              refine ⟨_, ?_, h⟩
              simp only [List.map_map] at h5 h6 ⊢
              simp only [newF, ho, hti, hs]
              rw [if_pos ⟨natsEq_iff h2, Nat.le_of_ble_eq_true h3, by simpa [Nat.blt_eq] using h4, by rw [hz]; exact h1, h5, h6⟩]
              rfl
            · cases h
          · cases h
        · cases h
      · cases h
    · cases h
  · rename_i t l c ho
    split at h
    · rename_i d hd
      have hti := (TT.look_ok hT hd).1
      split at h
      · rename_i el z nb hs
        split at h
        · rename_i d2 hd2
          obtain ⟨hti2, _, hz, _⟩ := TT.look_ok hT hd2
          simp only [Env.rdK_iff] at h
          split at h
          · rename_i k a k' b hl hc
            cases h with
            | mk hob h =>
              simp only [newF, ho, hti, hs, hl, hc, hz, hti2]
              rw [if_pos hob]
              split at h
              · rename_i zs m h1 h2
                rw [h1, h2]
                simp only
                split at h
                · rename_i k1 k2 k3 k4
                  rw [if_pos ⟨lenIs_iff k1, Nat.eq_of_beq_eq_true k2, k3, by simpa [Nat.blt_eq] using k4⟩]
                  exact ⟨_, rfl, h⟩
                · cases h
              · rename_i x h1 h2
                rw [h1, h2]
                simp only
                split at h
                · rename_i k1 k2
                  rw [if_pos ⟨Nat.eq_of_beq_eq_true k1, k2⟩]
                  exact ⟨_, rfl, h⟩
                · cases h
              · cases h
          · cases h
        · cases h
      · cases h
    · cases h
  · rename_i src dst x ho
    split at h
    · rename_i a b ha hb
      obtain ⟨ta, hta, hua⟩ := und_of (TT.look_ok hT ha)
      have hti := (TT.look_ok hT hb).1
      split at h
      · rename_i el nb h1 h2
        split at h
        · rename_i c hc
          obtain ⟨tc, htc, huc⟩ := und_of (TT.look_ok hT hc)
          split at h
          · rename_i hcu
            rw [hcu] at huc
            rw [h1] at hua
            have := udOf_str hua
            have := udOf_int huc
            subst ta tc
            rw [Env.rdK_iff] at h
            split at h
            · rename_i l hl
              cases h with
              | mk hob h =>
                refine ⟨_, ?_, h⟩
                simp only [newF, ho, hl, hta, hti, h2, htc]
                rw [if_pos hob]
            · cases h
          · cases h
        · cases h
      · cases h
    · cases h
  · cases h

def setAtK : List V → Nat → V → (List V → Prop) → Prop
  | [], _, _, κ => κ []
  | _ :: r, 0, x, κ => κ (x :: r)
  | a :: r, j + 1, x, κ => setAtK r j x fun r => κ (a :: r)
theorem setAtK_iff : ∀ (l : List V) (j : Nat) (x : V) (κ : List V → Prop), setAtK l j x κ ↔ κ (l.set j x)
  | [], _, _, _ => Iff.rfl
  | _ :: _, 0, _, _ => Iff.rfl
  | a :: r, j + 1, x, κ => by simp only [setAtK, List.set_cons_succ]; exact setAtK_iff r j x _
def setCellsK : List V → Nat → List V → (List V → Prop) → Prop
  | cs, _, [], κ => κ cs
  | cs, k, v :: r, κ => setAtK cs k v fun cs => setCellsK cs (k + 1) r κ
theorem setCellsK_iff : ∀ (vs cs : List V) (k : Nat) (κ : List V → Prop), setCellsK cs k vs κ ↔ κ (setCells cs k vs)
  | [], _, _, _ => Iff.rfl
  | v :: r, cs, k, κ => by simp only [setCellsK, setCells, setAtK_iff]; exact setCellsK_iff r _ _ _

/-- Cells from a place on, in one pass. -/
def overK : List V → List V → (List V → Prop) → Prop
  | cs, [], κ => κ cs
  | [], _ :: _, κ => κ []
  | _ :: r, v :: vs, κ => overK r vs fun r => κ (v :: r)
def spliceK : List V → Nat → List V → (List V → Prop) → Prop
  | cs, 0, vs, κ => overK cs vs κ
  | [], _ + 1, _, κ => κ []
  | c :: r, k + 1, vs, κ => spliceK r k vs fun r => κ (c :: r)
theorem setCells_nil : ∀ (vs : List V) (k : Nat), setCells [] k vs = []
  | [], _ => rfl
  | v :: vs, k => by simp only [setCells, List.set_nil]; exact setCells_nil vs (k + 1)
theorem setCells_succ (c : V) : ∀ (vs r : List V) (k : Nat), setCells (c :: r) (k + 1) vs = c :: setCells r k vs
  | [], _, _ => rfl
  | v :: vs, r, k => by simp only [setCells, List.set_cons_succ]; exact setCells_succ c vs _ _
theorem overK_iff : ∀ (vs cs : List V) (κ : List V → Prop), overK cs vs κ ↔ κ (setCells cs 0 vs)
  | [], cs, κ => by cases cs <;> rfl
  | v :: vs, [], κ => by rw [setCells_nil]; rfl
  | v :: vs, c :: r, κ => by
    simp only [overK, setCells, List.set_cons_zero]
    rw [overK_iff vs r, setCells_succ]
theorem spliceK_iff : ∀ (cs : List V) (k : Nat) (vs : List V) (κ : List V → Prop), spliceK cs k vs κ ↔ κ (setCells cs k vs)
  | cs, 0, vs, κ => by cases cs <;> exact overK_iff vs _ κ
  | [], k + 1, vs, κ => by rw [setCells_nil]; rfl
  | c :: r, k + 1, vs, κ => by simp only [spliceK]; rw [spliceK_iff r k, setCells_succ]
/-- The slot t gets another value, where it stands. -/
def Env.repK : Env → Nat → V → (Env → Prop) → Prop
  | [], t, u, κ => κ [(t, u)]
  | (x, v) :: r, t, u, κ => match Nat.beq x t with
    | true => κ ((x, u) :: r)
    | false => Env.repK r t u fun r => κ ((x, v) :: r)
theorem Env.repK_iff : ∀ (e : Env) (t : Nat) (u : V) (κ : Env → Prop), e.repK t u κ ↔ κ (e.set t u)
  | [], t, u, κ => Iff.rfl
  | (x, v) :: r, t, u, κ => by
    simp only [Env.repK, Env.set, nbeq]
    by_cases h : x = t
    · simp [h]
    · simp only [h, decide_false, if_false]; exact Env.repK_iff r t u _
def modAtK : List V → Nat → (V → (V → Prop) → Prop) → (List V → Prop) → Prop
  | [], _, _, κ => κ []
  | c :: r, 0, g, κ => g c fun c => κ (c :: r)
  | c :: r, n + 1, g, κ => modAtK r n g fun r => κ (c :: r)
theorem modAtK_iff {g : V → (V → Prop) → Prop} {m : V → V} (hg : ∀ v κ, g v κ ↔ κ (m v)) : ∀ (cs : List V) (f : Nat) (κ : List V → Prop), modAtK cs f g κ ↔ κ (match cs[f]? with
    | some x => cs.set f (m x)
    | none => cs)
  | [], _, _ => Iff.rfl
  | c :: r, 0, κ => by simp only [modAtK, List.getElem?_cons_zero, List.set_cons_zero]; exact hg c _
  | c :: r, n + 1, κ => by
    simp only [modAtK, List.getElem?_cons_succ, List.set_cons_succ]
    rw [modAtK_iff hg r n]
    cases r[n]? <;> rfl
def V.putK : Path → V → V → (V → Prop) → Prop
  | [], _, u, κ => κ u
  | f :: p, v, u, κ => match v with
    | .ag cs => modAtK cs f (fun x κ => V.putK p x u κ) fun cs => κ (.ag cs)
    | .tp cs => modAtK cs f (fun x κ => V.putK p x u κ) fun cs => κ (.tp cs)
    | .bx cs => modAtK cs f (fun x κ => V.putK p x u κ) fun cs => κ (.bx cs)
    | v => V.force (v.put (f :: p) u) κ
theorem V.putK_iff : ∀ (p : Path) (v u : V) (κ : V → Prop), V.putK p v u κ ↔ κ (v.put p u)
  | [], _, _, _ => Iff.rfl
  | f :: p, v, u, κ => by
    have key : ∀ cs : List V, ∀ κ : List V → Prop, modAtK cs f (fun x κ => V.putK p x u κ) κ ↔ κ (match cs[f]? with
        | some x => cs.set f (x.put p u)
        | none => cs) := fun cs κ => modAtK_iff (m := fun x => x.put p u) (fun v κ => V.putK_iff p v u κ) cs f κ
    cases v with
    | ag cs => simp only [V.putK, key, V.put, V.kids, V.withKids]; cases cs[f]? <;> rfl
    | tp cs => simp only [V.putK, key, V.put, V.kids, V.withKids]; cases cs[f]? <;> rfl
    | bx cs => simp only [V.putK, key, V.put, V.kids, V.withKids]; cases cs[f]? <;> rfl
    | _ => simp only [V.putK, V.force_iff]
/-- A place gets another value: nothing else is looked at. -/
def Env.putQ (e : Env) (p : Path) (u : V) (κ : Env → Prop) : Prop :=
  match p with
  | (t + 2) :: q => e.getK t fun v => V.putK q v u fun v => e.repK t v κ
  | p => Env.force (e.putAt p u) κ
theorem Env.putQ_ok {e : Env} {p : Path} {u : V} {κ : Env → Prop} (h : e.putQ p u κ) : ∃ e2, (e.putAt p u).Eqv e2 ∧ κ e2 := by
  unfold Env.putQ at h
  split at h
  · rename_i t q
    rw [Env.getK_iff, V.putK_iff, Env.repK_iff] at h
    exact ⟨_, fun _ => rfl, h⟩
  · exact Env.force_ok h

def storeK (T : TT) (e : Env) (t : Nat) (x v : V) (κ : Env → Prop) : Prop :=
  match T.look t with
  | some d => match d.ti with
    | .bad => StuckC e 120
    | ti => match lenIs v.cs d.cells, (ti.cells.isSome == v.isAg), v.noUn with
      | true, true, true => match x with
        | .ad p off => e.atK p fun u => match u with
          | some (.bx cs) => match lenGe cs (off + v.cs.length) with
            | true => V.forceL v.cs fun vs => spliceK cs off vs fun cs => Env.putQ e p (.bx cs) κ
            | false => StuckC e 121
          | _ => StuckC e 122
        | .ae p z j f => e.atK p fun u => match u with
          | some (.ow z' xs) => match Nat.beq z' z, v.cs.all V.plain with
            | true, true => EltN xs j fun y => V.force y fun y => match y with
              | .ag cs => match lenGe cs (f + v.cs.length), lenIs cs z with
                | true, true => V.forceL v.cs fun vs => spliceK cs f vs fun cs => V.forceL cs fun cs => SetN xs j (.ag cs) fun ys => Env.putQ e p (.ow z ys) κ
                | _, _ => StuckC e 123
              | _ => match Nat.beq f 0, lenIs v.cs 1, Nat.beq z 1 with
                | true, true, true => V.force (v.cs.getD 0 .un) fun y => SetN xs j y fun ys => Env.putQ e p (.ow z ys) κ
                | _, _, _ => StuckC e 124
            | _, _ => StuckC e 125
          | _ => StuckC e 126
        | _ => StuckC e 127
      | _, _, _ => StuckC e 128
  | none => StuckC e 129

/-- A store, where the type is known. -/
def storeB (P : Program) (e : Env) (t : Nat) (ti : TI) (x v : V) : Option Env :=
    let vs := v.cs
    if vs.length = P.cellsOf t ∧ ti.cells.isSome = v.isAg ∧ v.noUn then
    match x with
    | .ad p off => match e.at p with
      | some (.bx cs) => if off + vs.length ≤ cs.length then some (e.putAt p (.bx (setCells cs off vs))) else none
      | _ => none
    | .ae p z j f => match e.at p with
      | some (.ow z' xs) => if z' = z ∧ vs.all V.plain then match xs[j]? with
        | some (.ag cs) => if f + vs.length ≤ cs.length ∧ cs.length = z then some (e.putAt p (.ow z (xs.set j (.ag (setCells cs f vs))))) else none
        | some _ => if f = 0 ∧ vs.length = 1 ∧ z = 1 then some (e.putAt p (.ow z (xs.set j (vs.getD 0 .un)))) else none
        | none => none
        else none
      | _ => none
    | _ => none
    else none

theorem storeV_eq {t : Nat} {x v : V} {ti : TI} (h : tinfo P t = ti) (hb : ti = .bad → False) : storeV P e t x v = storeB P e t ti x v := by
  unfold storeV storeB
  rw [h]
  cases ti <;> first | exact (hb rfl).elim | rfl

theorem storeK_ok {t : Nat} {x v : V} {κ : Env → Prop} (hT : T.ok P) (h : storeK T e t x v κ) : ∃ e1, storeV P e t x v = some e1 ∧ ∃ e2, e1.Eqv e2 ∧ κ e2 := by
  unfold storeK at h
  split at h
  · rename_i d hd
    obtain ⟨hti, _, _, hcells, _⟩ := TT.look_ok hT hd
    split at h
    · cases h
    · rename_i hb
      rw [storeV_eq hti hb]
      unfold storeB
      rw [hcells]
      split at h
      · rename_i h1 h2 h3
        simp only
        rw [if_pos ⟨lenIs_iff h1, by simpa using h2, h3⟩]
        split at h
        · replace h := Env.atK_of h
          try simp only
          split at h
          · rename_i cs hu
            try rw [hu]
            split at h
            · rename_i hl
              rw [V.forceL_iff, spliceK_iff] at h
              try simp only
              rw [if_pos (lenGe_iff hl)]
              exact ⟨_, rfl, Env.putQ_ok h⟩
            · cases h
          · cases h
        · replace h := Env.atK_of h
          try simp only
          split at h
          · rename_i z' xs hu
            try rw [hu]
            split at h
            · rename_i hz hp
              have := Nat.eq_of_beq_eq_true hz
              subst this
              cases h with
              | mk y hy h =>
                rw [V.force_iff] at h
                try simp only
                rw [if_pos ⟨trivial, hp⟩, hy]
                split at h
                · split at h
                  · rename_i k1 k2
                    rw [V.forceL_iff, spliceK_iff, V.forceL_iff] at h
                    try simp only
                    rw [if_pos ⟨lenGe_iff k1, lenIs_iff k2⟩]
                    obtain ⟨ys, hys, h⟩ := h
                    subst hys
                    exact ⟨_, rfl, Env.putQ_ok h⟩
                  · cases h
                · rename_i hna
                  split at h
                  · rename_i k1 k2 k3
                    rw [V.force_iff] at h
                    obtain ⟨ys, hys, h⟩ := h
                    subst hys
                    refine ⟨_, ?_, Env.putQ_ok h⟩
                    split
                    · rename_i cs hcs; exact (hna cs (by simpa using hcs)).elim
                    · rw [if_pos ⟨Nat.eq_of_beq_eq_true k1, lenIs_iff k2, Nat.eq_of_beq_eq_true k3⟩]
                    · rename_i heq; cases heq
                  · cases h
            · cases h
          · cases h
        · cases h
      · cases h
  · cases h

def srcK (e : Env) (z : Nat) (v : V) (κ : List V → Prop) : Prop :=
  match v with
  | .s l => match Nat.beq z 1 with
    | true => κ (l.map byteV)
    | false => StuckC e 130
  | v => rowK e v fun ys => Ob (V.allW z ys = true ∧ V.allFlat ys = true) (κ ys)

theorem srcK_ok {z : Nat} {v : V} {κ : List V → Prop} (h : srcK e z v κ) : ∃ ys, srcOf e z v = some ys ∧ κ ys := by
  unfold srcK at h
  split at h
  · split at h
    · rename_i hz; exact ⟨_, by simp only [srcOf]; rw [if_pos (Nat.eq_of_beq_eq_true hz)], h⟩
    · cases h
  · rename_i hns
    obtain ⟨ys, hr, h⟩ := rowK_ok h
    cases h with
    | mk ho h =>
      refine ⟨ys, ?_, h⟩
      cases v <;> first | exact (hns _ rfl).elim | (simp only [srcOf, hr]; rw [if_pos ho])

def appK (T : TT) (n : Nat) (e : Env) (o : Oper) (args : List Operand) (ts : List Nat) (κ : Env → Prop) : Prop :=
  match args, ts, o.dst with
  | [s, x], [t, t2], some d => match T.look t, T.look t2 with
    | some dt, some dt2 => match dt.ti with
      | .slice el z nb => match T.look el with
        | some de => match de.zs with
          | some zs => match lenIs zs z, Nat.blt 0 z, (match dt2.ti with
              | .str | .slice _ _ _ => true
              | _ => false), Nat.blt d n with
            | true, true, true, true => e.rdK x fun vx => srcK e z vx fun ys => e.rdK s fun vs => match vs with
              | .al p => e.atK p fun u => match u with
                | some (.ow z' xs) => match Nat.beq z' z with
                  | true => Ob ((xs.length + ys.length) * nb ≤ 140737488355328 ∧ xs.length + ys.length ≤ 140737488355328) (match e.freeB d with
                    | true => Env.putQ e p .un fun e' => match e'.freeB d with
                      | true => e.getK d fun u => match u with
                        | .un => e'.setK d (.ow z (xs ++ ys)) κ
                        | _ => Stuck o e 140
                      | false => Stuck o e 141
                    | false => Stuck o e 142)
                  | false => Stuck o e 143
                | _ => Stuck o e 144
              | .nl => Ob (ys.length * nb ≤ 140737488355328 ∧ ys.length ≤ 140737488355328) (match e.freeB d with
                | true => e.getK d fun u => match u with
                  | .un => e.setK d (.ow z ys) κ
                  | _ => Stuck o e 145
                | false => Stuck o e 146)
              | _ => Stuck o e 147
            | _, _, _, _ => Stuck o e 148
          | none => Stuck o e 149
        | none => Stuck o e 150
      | _ => Stuck o e 151
    | _, _ => Stuck o e 152
  | _, _, _ => Stuck o e 153

theorem Env.Eqv.set {e e' : Env} (h : e.Eqv e') (d : Nat) (v : V) : (e.set d v).Eqv (e'.set d v) := by
  intro t
  rw [Env.get_set, Env.get_set, h t]

theorem Env.Eqv.trans' {a b c : Env} (h : a.Eqv b) (k : b.Eqv c) : a.Eqv c := fun t => (h t).trans (k t)

theorem refs_free {e : Env} {d : Nat} : e.free d = true ↔ ∀ q ∈ e, ∀ p ∈ q.2.refs, (p.head? != some (d + 2)) = true := by
  simp only [Env.free, List.all_eq_true]

theorem appK_ok {args : Array Operand} {ts : Array Nat} {κ : Env → Prop} (hT : T.ok P) (ho : o.op = .call { callee := .builtin .append, args := args, argTypes := ts }) (h : appK T n e o args.toList ts.toList κ) :
    ∃ e1, stepF P n e o = some e1 ∧ ∃ e2, e1.Eqv e2 ∧ κ e2 := by
  unfold appK at h
  split at h
  · rename_i s x t t2 d hargs hts hdst
    split at h
    · rename_i dt dt2 hdt hdt2
      have hti := (TT.look_ok hT hdt).1
      have hti2 := (TT.look_ok hT hdt2).1
      split at h
      · rename_i el z nb hs
        split at h
        · rename_i de hde
          obtain ⟨_, _, hz, _⟩ := TT.look_ok hT hde
          split at h
          · rename_i zs hzs
            split at h
            · rename_i h1 h2 h3 h4
              rw [Env.rdK_iff] at h
              obtain ⟨ys, hys, h⟩ := srcK_ok h
              rw [Env.rdK_iff] at h
              have hsrc : srcTy P t2 = true := by
                simp only [srcTy, hti2]
                exact h3
              have hzl : (zeroC P el).map List.length = some z := by rw [hz, hzs, Option.map_some, lenIs_iff h1]
              have h2' : 0 < z := by simpa [Nat.blt_eq] using h2
              have h4' : d < n := by simpa [Nat.blt_eq] using h4
              have hd : dOk n o.dst = true := by rw [hdst]; simpa [dOk] using h4'
              unfold stepF
              rw [if_pos hd]
              simp only [ho, hargs, hts, appF, hti, hs, hys]
              rw [if_pos ⟨h2', hsrc, hzl⟩]
              split at h
              · rename_i p hp
                rw [hp]
                replace h := Env.atK_of h
                simp only
                split at h
                · rename_i z' xs hu
                  rw [hu]
                  simp only
                  split at h
                  · rename_i hzz
                    cases h with
                    | mk hob h =>
                      rw [if_pos ⟨Nat.eq_of_beq_eq_true hzz, hob.1, hob.2⟩]
                      split at h
                      · rename_i hf
                        have hf1 := Env.freeB_eq hf
                        -- e.putAt p .un is free too
                        obtain ⟨e', he', h⟩ := Env.putQ_ok h
                        have hfp : (e.putAt p .un).free d = true := by
                          rw [refs_free] at hf1 ⊢
                          intro q hq r hr
                          match p, hu with
                          | (t' + 2) :: p', hu =>
                            simp only [Env.putAt] at hq
                            have hmem : ∀ (E : Env) (t0 : Nat) (v0 : V), (∀ r ∈ v0.refs, (r.head? != some (d + 2)) = true) → (∀ q ∈ E, ∀ r ∈ q.2.refs, (r.head? != some (d + 2)) = true) → ∀ q ∈ E.set t0 v0, ∀ r ∈ q.2.refs, (r.head? != some (d + 2)) = true := by
                              intro E t0 v0 hv0 hE
                              induction E with
                              | nil => intro q hq; simp [Env.set] at hq; subst hq; exact hv0
                              | cons c E ih =>
                                obtain ⟨a, b⟩ := c
                                intro q hq
                                simp only [Env.set] at hq
                                split at hq
                                · rcases List.mem_cons.1 hq with rfl | hq
                                  · exact hv0
                                  · exact hE q (List.mem_cons_of_mem _ hq)
                                · rcases List.mem_cons.1 hq with rfl | hq
                                  · exact hE _ (List.mem_cons_self ..)
                                  · exact ih (fun q hq => hE q (List.mem_cons_of_mem _ hq)) q hq
                            refine hmem e t' _ (fun r hr => ?_) hf1 q hq r hr
                            have hput : r ∈ (e.get t').refs := by
                              have : ∀ (p' : Path) (v u : V), v.sub p' = some u → ∀ r ∈ (v.put p' .un).refs, r ∈ v.refs := by
                                intro p'
                                induction p' with
                                | nil => intro v u _ r hr; simp [V.put, V.refs] at hr
                                | cons f p' ih =>
                                  intro v u hs r hr
                                  have hgo : ∀ (cs : List V) (f : Nat) (x : V), cs[f]? = some x → x.sub p' = some u → ∀ r ∈ V.refs.go (cs.set f (x.put p' .un)), r ∈ V.refs.go cs := by
                                    intro cs
                                    induction cs with
                                    | nil => intro f x hx; simp at hx
                                    | cons c cs ihc =>
                                      intro f x hx hsx r hr
                                      cases f with
                                      | zero =>
                                        simp at hx
                                        subst hx
                                        simp only [List.set_cons_zero, V.refs.go, List.mem_append] at hr ⊢
                                        exact hr.imp (ih _ _ hsx r) id
                                      | succ f =>
                                        simp at hx
                                        simp only [List.set_cons_succ, V.refs.go, List.mem_append] at hr ⊢
                                        exact hr.imp id (ihc f x hx hsx r)
                                  simp only [V.sub] at hs
                                  cases hk : v.kids[f]? with
                                  | none => simp [hk] at hs
                                  | some x =>
                                    simp only [hk] at hs
                                    simp only [V.put, hk] at hr
                                    cases v <;> simp only [V.kids, V.withKids, V.refs] at hk hr ⊢ <;>
                                      first
                                        | exact hgo _ _ x hk hs r hr
                                        | (simp at hk; done)
                                        | exact hr
                              exact this p' _ _ hu r hr
                            by_cases hun : e.get t' = .un
                            · rw [hun] at hput; simp [V.refs] at hput
                            · exact hf1 _ (Env.mem_get hun) r hput
                        split at h
                        · rw [Env.getK_iff] at h
                          split at h
                          · rename_i hun
                            rw [Env.setK_iff] at h
                            simp only [hdst]
                            rw [if_pos ⟨hf1r hf, hfp, by rw [hun]; rfl⟩]
                            exact ⟨_, rfl, _, (he'.set d _).trans' (cons_del_eqv _ _ _), h⟩
                          · cases h
                        · cases h
                      · cases h
                  · cases h
                · cases h
              · rename_i hp
                rw [hp]
                cases h with
                | mk hob h =>
                  simp only
                  rw [if_pos hob]
                  split at h
                  · rename_i hf
                    rw [Env.getK_iff] at h
                    split at h
                    · rename_i hun
                      rw [Env.setK_iff] at h
                      simp only [hdst]
                      rw [if_pos ⟨hf1r hf, hf1r hf, by rw [hun]; rfl⟩]
                      exact ⟨_, rfl, _, cons_del_eqv _ _ _, h⟩
                    · cases h
                  · cases h
              · cases h
            · cases h
          · cases h
        · cases h
      · cases h
    · cases h
  · cases h
where hf1r {e : Env} {d : Nat} (h : e.freeB d = true) : e.free d = true := Env.freeB_eq h

end
end Go.Vx

namespace Go.Vx
open Go Go.RowKit Go.Great

def anyAl : List V → Bool
  | [] => false
  | .al _ :: _ => true
  | _ :: r => anyAl r

def isAe : V → Bool
  | .ae _ _ _ _ => true
  | _ => false

def allMv (p : Path) : List V → Bool
  | [] => true
  | v :: r => match mvOk p v with
    | true => allMv p r
    | false => false
theorem allMv_iff {p : Path} : ∀ {vs : List V}, allMv p vs = true → vs.all (mvOk p) = true
  | [], _ => rfl
  | v :: r, h => by
    simp only [allMv] at h
    split at h
    · rename_i hv; rw [List.all_cons, hv, allMv_iff h]; rfl
    · cases h

def maskK : List V → (List V → Prop) → Prop
  | [], κ => κ []
  | v :: r, κ => maskK r fun r => κ (v.mask :: r)
theorem maskK_iff : ∀ (vs : List V) (κ : List V → Prop), maskK vs κ ↔ κ (vs.map V.mask)
  | [], _ => Iff.rfl
  | v :: r, κ => by simp only [maskK, List.map_cons]; exact maskK_iff r _

def Env.moveInK (p : Path) (z j : Nat) (xs : List V) : Env → List V → Nat → List V → (Env → Prop) → Prop
  | e, _, _, [], κ => Env.force e κ
  | e, cs, k, v :: r, κ => match v with
    | .al q => e.atK q fun u => match u with
      | some (.ow zq ys) => setAtK cs k (.ow zq ys) fun cs => Env.putQ e q .un fun e => Env.putQ e p (.ow z (xs.set j (.ag cs))) fun e => Env.moveInK p z j xs e cs (k + 1) r κ
      | _ => StuckC e 300
    | _ => Env.moveInK p z j xs e cs (k + 1) r κ

theorem Env.Eqv.at' {e e' : Env} (h : e.Eqv e') (p : Path) : e.at p = e'.at p := by
  unfold Env.at
  split
  · rw [h]
  · rfl
theorem moveIn_eqv {p : Path} {z j : Nat} {xs : List V} : ∀ (vs : List V) (e e' : Env) (cs : List V) (k : Nat) (e1 : Env), e.Eqv e' → Env.moveIn p z j xs e cs k vs = some e1 → ∃ e2, Env.moveIn p z j xs e' cs k vs = some e2 ∧ e1.Eqv e2
  | [], e, e', cs, k, e1, h, hm => by
    simp only [Env.moveIn, Option.some.injEq] at hm
    subst hm
    exact ⟨e', rfl, h⟩
  | v :: r, e, e', cs, k, e1, h, hm => by
    cases v with
    | al q =>
      simp only [Env.moveIn] at hm ⊢
      rw [← h.at' q]
      split at hm
      · rename_i zq ys hu
        exact moveIn_eqv r _ _ _ _ _ ((h.putAt q .un).putAt p _) hm
      · cases hm
    | _ =>
      simp only [Env.moveIn] at hm ⊢
      exact moveIn_eqv r _ _ _ _ _ h hm

theorem moveInK_ok {p : Path} {z j : Nat} {xs : List V} : ∀ (vs : List V) (e : Env) (cs : List V) (k : Nat) (κ : Env → Prop), Env.moveInK p z j xs e cs k vs κ → ∃ e1, Env.moveIn p z j xs e cs k vs = some e1 ∧ ∃ e2, e1.Eqv e2 ∧ κ e2
  | [], e, cs, k, κ, h => ⟨e, rfl, Env.force_ok h⟩
  | v :: r, e, cs, k, κ, h => by
    have hother : (∀ q, v ≠ .al q) → ∃ e1, Env.moveIn p z j xs e cs k (v :: r) = some e1 ∧ ∃ e2, e1.Eqv e2 ∧ κ e2 := by
      intro hv
      have h1 : Env.moveInK p z j xs e cs (k + 1) r κ := by
        cases v <;> first | exact h | exact (hv _ rfl).elim
      have h2 : Env.moveIn p z j xs e cs k (v :: r) = Env.moveIn p z j xs e cs (k + 1) r := by
        cases v <;> first | rfl | exact (hv _ rfl).elim
      rw [h2]
      exact moveInK_ok r e cs (k + 1) κ h1
    cases v with
    | al q =>
      simp only [Env.moveInK] at h
      replace h := Env.atK_of h
      split at h
      · rename_i zq ys hu
        rw [setAtK_iff] at h
        simp only [Env.moveIn, hu]
        obtain ⟨ea, ha, h⟩ := Env.putQ_ok h
        obtain ⟨eb, hb, h⟩ := Env.putQ_ok h
        obtain ⟨e1, m1, e2, m2, m3⟩ := moveInK_ok r _ _ (k + 1) κ h
        have hab := (ha.putAt p (.ow z (xs.set j (.ag (cs.set k (.ow zq ys)))))).trans' hb
        obtain ⟨e3, n1, n2⟩ := moveIn_eqv r _ _ _ _ _ (fun t => (hab t).symm) m1
        exact ⟨e3, n1, e2, (fun t => (n2 t).symm.trans (m2 t)), m3⟩
      · cases h
    | _ => exact hother (by simp)

def storeMK (T : TT) (e : Env) (t : Nat) (x v : V) (κ : Env → Prop) : Prop :=
  match T.look t with
  | some d => match d.ti with
    | .bad => StuckC e 301
    | ti => match lenIs v.cs d.cells, (ti.cells.isSome == v.isAg), v.noUn with
      | true, true, true => match x with
        | .ae p z j f => match allMv p v.cs with
          | true => (e.shed (below p)).atK p fun u => match u with
            | some (.ow z' xs) => match Nat.beq z' z with
              | true => EltN xs j fun y => V.force y fun y => match y with
                | .ag cs => match lenGe cs (f + v.cs.length), lenIs cs z with
                  | true, true => maskK v.cs fun ms => setCellsK cs f ms fun cs => Env.moveInK p z j xs ((e.shed (below p)).putAt p (.ow z (xs.set j (.ag cs)))) cs f v.cs κ
                  | _, _ => StuckC e 302
                | _ => StuckC e 303
              | false => StuckC e 304
            | _ => StuckC e 305
          | false => StuckC e 306
        | _ => StuckC e 307
      | _, _, _ => StuckC e 308
  | none => StuckC e 309

def bldMK (T : TT) (e : Env) (d t len : Nat) (vs : List V) (κ : Env → Prop) : Prop :=
  match T.look t with
  | some dt => match dt.ti with
    | .slice el z _ => match T.look el with
      | some de => match Nat.beq len 1, Nat.ble z 16777216, Nat.blt 0 z, de.zs.isSome, lenIs vs z, (V.ag vs).noUn, allMv [d + 2] vs with
        | true, true, true, true, true, true, true => maskK vs fun ms => Env.moveInK [d + 2] z 0 [.ag ms] (e.set d (.ow z [.ag ms])) ms 0 vs κ
        | _, _, _, _, _, _, _ => StuckC e 310
      | none => StuckC e 311
    | _ => StuckC e 312
  | none => StuckC e 313

def hdNeq : Path → Nat → Bool
  | [], _ => true
  | x :: _, t => match Nat.beq x t with
    | true => false
    | false => true
theorem hdNeq_iff {p : Path} {t : Nat} (h : hdNeq p t = true) : p.head? ≠ some t := by
  cases p with
  | nil => simp
  | cons x r =>
    simp only [hdNeq] at h
    split at h
    · cases h
    · rename_i hb
      rw [nbeq'] at hb
      simpa using hb

def appMK (T : TT) (e : Env) (o : Oper) (d : Nat) (s : Operand) (tx : Nat) (t t2 : Nat) (κ : Env → Prop) : Prop :=
  match T.look t, T.look t2 with
  | some dt, some dt2 => match dt.ti with
    | .slice el z nb => match T.look el with
      | some de => match de.zs with
        | some zs => match lenIs zs z, Nat.blt 0 z, (match dt2.ti with
            | .str | .slice _ _ _ => true
            | _ => false) with
          | true, true, true => e.rdK (.tmp tx) fun vx => match vx with
            | .al ((t1 + 2) :: q1) => e.atK ((t1 + 2) :: q1) fun u => match u with
              | some (.ow z1 [y]) => match Nat.beq z1 z, Nat.beq tx d, Nat.beq t1 d, y.firm with
                | true, false, false, true => e.rdK s fun vs => match vs with
                  | .al p => e.atK p fun u => match u with
                    | some (.ow z' xs) => match Nat.beq z' z, hdNeq p (t1 + 2), hdNeq p (tx + 2), (e.putAt p .un).freeB d with
                      | true, true, true, true => Ob ((xs.length + 1) * nb ≤ 140737488355328 ∧ xs.length + 1 ≤ 140737488355328) (Env.force (((e.putAt p .un).putAt ((t1 + 2) :: q1) .un).set d (.ow z (xs ++ [y]))) κ)
                      | _, _, _, _ => Stuck o e 320
                    | _ => Stuck o e 321
                  | .nl => Ob (nb ≤ 140737488355328) (Env.force ((e.putAt ((t1 + 2) :: q1) .un).set d (.ow z [y])) κ)
                  | _ => Stuck o e 322
                | _, _, _, _ => Stuck o e 323
              | _ => Stuck o e 324
            | _ => Stuck o e 325
          | _, _, _ => Stuck o e 326
        | none => Stuck o e 327
      | none => Stuck o e 328
    | _ => Stuck o e 329
  | _, _ => Stuck o e 330

section
variable {P : Program} {T : TT} {n : Nat} {e : Env} {o : Oper}

theorem storeMK_ok {t : Nat} {x v : V} {κ : Env → Prop} (hT : T.ok P) (h : storeMK T e t x v κ) : ∃ e1, storeM P e t x v = some e1 ∧ ∃ e2, e1.Eqv e2 ∧ κ e2 := by
  unfold storeMK at h
  split at h
  · rename_i d hd
    obtain ⟨hti, _, _, hcells, _⟩ := TT.look_ok hT hd
    split at h
    · cases h
    · rename_i hb
      have hst : storeM P e t x v = (if v.cs.length = P.cellsOf t ∧ d.ti.cells.isSome = v.isAg ∧ v.noUn then
          match x with
          | .ae p z j f =>
            if v.cs.all (mvOk p) then match (e.shed (below p)).at p with
              | some (.ow z' xs) => if z' = z then match xs[j]? with
                | some (.ag cs) => if f + v.cs.length ≤ cs.length ∧ cs.length = z then
                    Env.moveIn p z j xs ((e.shed (below p)).putAt p (.ow z (xs.set j (.ag (setCells cs f (v.cs.map V.mask)))))) (setCells cs f (v.cs.map V.mask)) f v.cs
                  else none
                | _ => none
                else none
              | _ => none
            else none
          | _ => none
          else none) := by
        unfold storeM
        rw [hti]
        cases hd : d.ti <;> first | exact (hb hd).elim | rfl
      rw [hst, hcells]
      split at h
      · rename_i h1 h2 h3
        rw [if_pos ⟨lenIs_iff h1, by simpa using h2, h3⟩]
        split at h
        · rename_i p z j f
          split at h
          · rename_i hm
            rw [if_pos (allMv_iff hm)]
            replace h := Env.atK_of h
            split at h
            · rename_i z' xs hu
              try rw [hu]
              try simp only
              split at h
              · rename_i hz
                rw [if_pos (Nat.eq_of_beq_eq_true hz)]
                cases h with
                | mk y hy h =>
                  rw [V.force_iff] at h
                  rw [hy]
                  split at h
                  · rename_i cs
                    try simp only
                    split at h
                    · rename_i k1 k2
                      rw [if_pos ⟨lenGe_iff k1, lenIs_iff k2⟩]
                      rw [maskK_iff, setCellsK_iff] at h
                      exact moveInK_ok _ _ _ _ _ h
                    · cases h
                  · cases h
              · cases h
            · cases h
          · cases h
        · cases h
      · cases h
  · cases h

theorem bldMK_ok {d t len : Nat} {x : Operand} {vs : List V} {κ : Env → Prop} (hT : T.ok P) (hx : e.rd x = .ag vs) (h : bldMK T e d t len vs κ) : ∃ e1, bldM P e d t len [(0, x)] = some e1 ∧ ∃ e2, e1.Eqv e2 ∧ κ e2 := by
  unfold bldMK at h
  split at h
  · rename_i dt hdt
    have hti := (TT.look_ok hT hdt).1
    split at h
    · rename_i el z nb hs
      split at h
      · rename_i de hde
        obtain ⟨_, _, hz, _⟩ := TT.look_ok hT hde
        split at h
        · rename_i h1 h2 h3 h4 h5 h6 h7
          rw [maskK_iff] at h
          unfold bldM
          simp only [hti, hs, hx]
          rw [if_pos ⟨Nat.eq_of_beq_eq_true h1, Nat.le_of_ble_eq_true h2, by simpa [Nat.blt_eq] using h3, by rw [hz]; exact h4, lenIs_iff h5, h6, allMv_iff h7⟩]
          exact moveInK_ok _ _ _ _ _ h
        · cases h
      · cases h
    · cases h
  · cases h

theorem beq_ne {a b : Nat} (h : Nat.beq a b = false) : a ≠ b := by
  rw [nbeq'] at h
  simpa using h

theorem appMK_ok {d tx t t2 : Nat} {s : Operand} {κ : Env → Prop} (hT : T.ok P) (h : appMK T e o d s tx t t2 κ) : ∃ e1, appM P e d [s, .tmp tx] [t, t2] = some e1 ∧ ∃ e2, e1.Eqv e2 ∧ κ e2 := by
  unfold appMK at h
  split at h
  · rename_i dt dt2 hdt hdt2
    have hti := (TT.look_ok hT hdt).1
    have hti2 := (TT.look_ok hT hdt2).1
    split at h
    · rename_i el z nb hs
      split at h
      · rename_i de hde
        obtain ⟨_, _, hz, _⟩ := TT.look_ok hT hde
        split at h
        · rename_i zs hzs
          split at h
          · rename_i h1 h2 h3
            have hsrc : srcTy P t2 = true := by
              simp only [srcTy, hti2]
              exact h3
            rw [Env.rdK_iff] at h
            split at h
            · rename_i t1 q1 hx
              replace h := Env.atK_of h
              split at h
              · rename_i z1 y hσ
                split at h
                · rename_i k1 k2 k3 k4
                  rw [Env.rdK_iff] at h
                  have hcond : z1 = z ∧ 0 < z ∧ srcTy P t2 = true ∧ (zeroC P el).map List.length = some z ∧ tx ≠ d ∧ t1 ≠ d ∧ y.firm = true :=
                    ⟨Nat.eq_of_beq_eq_true k1, by simpa [Nat.blt_eq] using h2, hsrc, by rw [hz, hzs, Option.map_some, lenIs_iff h1], beq_ne k2, beq_ne k3, k4⟩
                  simp only [appM, hti, hs, hx, hσ]
                  rw [if_pos hcond]
                  split at h
                  · rename_i p hp
                    try rw [hp]
                    replace h := Env.atK_of h
                    try simp only
                    split at h
                    · rename_i z' xs hu
                      try rw [hu]
                      try simp only
                      split at h
                      · rename_i m1 m2 m3 m4
                        cases h with
                        | mk hob h =>
                          rw [if_pos ⟨Nat.eq_of_beq_eq_true m1, hob.1, hob.2, hdNeq_iff m2, hdNeq_iff m3, Env.freeB_eq m4⟩]
                          exact ⟨_, rfl, Env.force_ok h⟩
                      · cases h
                    · cases h
                  · rename_i hp
                    try rw [hp]
                    cases h with
                    | mk hob h =>
                      try simp only
                      rw [if_pos hob]
                      exact ⟨_, rfl, Env.force_ok h⟩
                  · cases h
                · cases h
              · cases h
            · cases h
          · cases h
        · cases h
      · cases h
    · cases h
  · cases h

end
end Go.Vx

namespace Go.Vx
open Go Go.RowKit Go.Great

def putK (n : Nat) (e : Env) (dst : Option Nat) (v : V) (κ : Env → Prop) : Prop :=
  match dst with
  | some d => match Nat.blt d n with
    | true => e.setK d v κ
    | false => StuckC e 160
  | none => κ e

def buildCK (fs : List (Nat × Nat)) : List V → List (Nat × V) → (List V → Prop) → Prop
  | cs, [], κ => κ cs
  | cs, (i, x) :: r, κ => match fs[i]? with
    | some (o, s) => match lenIs x.cs s, lenGe cs (o + s), x.noUn with
      | true, true, true => setCellsK cs o x.cs fun cs => buildCK fs cs r κ
      | _, _, _ => StuckC [] 161
    | none => StuckC [] 161
theorem buildCK_ok {fs : List (Nat × Nat)} : ∀ (ps : List (Nat × V)) (cs : List V) (κ : List V → Prop), buildCK fs cs ps κ → ∃ cs', buildC fs cs ps = some cs' ∧ κ cs'
  | [], cs, κ, h => ⟨cs, rfl, h⟩
  | (i, x) :: r, cs, κ, h => by
    simp only [buildCK] at h
    split at h
    · rename_i o s hf
      split at h
      · rename_i h1 h2 h3
        rw [setCellsK_iff] at h
        obtain ⟨cs', h4, h5⟩ := buildCK_ok r _ _ h
        refine ⟨cs', ?_, h5⟩
        simp only [buildC, hf]
        rw [if_pos ⟨lenIs_iff h1, lenGe_iff h2, h3⟩]
        exact h4
      · cases h
    · cases h

def buildK (T : TT) (e : Env) (t : Nat) (parts : List (Nat × Operand)) (κ : V → Prop) : Prop :=
  match T.look t with
  | some d => match d.ti, d.zs with
    | .struct fs n, some zs => match lenIs zs n with
      | true => e.rdsK (parts.map (·.2)) fun vs => buildCK fs zs ((parts.map (·.1)).zip vs) fun cs => κ (.ag cs)
      | false => StuckC e 162
    | .arr len z n, some zs => match lenIs zs n with
      | true => e.rdsK (parts.map (·.2)) fun vs => buildCK ((List.range len).map fun i => (i * z, z)) zs ((parts.map (·.1)).zip vs) fun cs => κ (.ag cs)
      | false => StuckC e 164
    | _, _ => StuckC e 165
  | none => StuckC e 166

def opK (T : TT) (n : Nat) (e : Env) (o : Oper) (κ : Env → Prop) : Prop :=
  match o.op with
  | .store t a x => match o.dst with
    | none => e.rdK a fun va => e.rdK x fun vx => storeK T e t va vx κ
    | some _ => Stuck o e 170
  | .alloc _ | .box _ _ | .buildSlice _ _ _ | .makeSlice _ _ _ => match o.dst with
    | some d => newK T e o fun v => match e.freeB d, Nat.blt d n with
      | true, true => e.setK d v κ
      | _, _ => Stuck o e 171
    | none => Stuck o e 172
  | .call { callee := .builtin .append, args, argTypes } => appK T n e o args.toList argTypes.toList κ
  | .build t parts => buildK T e t parts.toList fun v => putK n e o.dst v κ
  | .convert src dst _ => match isBytes T src dst with
    | true => match o.dst with
      | some d => newK T e o fun v => match e.freeB d, Nat.blt d n with
        | true, true => e.setK d v κ
        | _, _ => Stuck o e 171
      | none => Stuck o e 172
    | false => valK T e o fun v => putK n e o.dst v κ
  | _ => valK T e o fun v => putK n e o.dst v κ

/-- A call: what it passes, what it vows, and how it goes on. -/
inductive CallP (P : Program) (n : Nat) (e : Env) (d : Option Nat) (f : Nat) (vs ins : List V) (κ : Env → Prop) : Prop
  | mk (I : List (Path × Path)) (res : V) (outs : List V) (hv : Vow P f (e.passAll I 0 vs) res outs) (hd : dOk n d = true) (hc : callOk e d I vs res outs = true) (e' : Env)
      (he : (callEnv e d I res outs).Eqv e') (g : κ e')
  | read (res : V) (outs : List V) (hv : Vow P f ins res outs) (hd : dOk n d = true) (hc : callOk e d [] vs res outs = true) (e' : Env) (he : (callEnv e d [] res outs).Eqv e') (g : κ e')

/-- A path that goes through a row's element. -/
def crossB : V → Path → Bool
  | _, [] => false
  | v, f :: p => match v with
    | .ow _ _ => true
    | v => match v.kids[f]? with
      | some x => crossB x p
      | none => false
def crossV (e : Env) : V → Bool
  | .al ((t + 2) :: q) => crossB (e.get t) q
  | _ => false
def anyCross (e : Env) : List V → Bool
  | [] => false
  | v :: r => match crossV e v with
    | true => true
    | false => anyCross e r

def callK (P : Program) (n : Nat) (e : Env) (d : Option Nat) (f : Nat) (args : List Operand) (κ : Env → Prop) : Prop := e.rdsK args fun vs => match anyCross e vs with
  | true => CallP P n e d f vs (e.passAll [] 0 vs) κ
  | false => V.forceL (e.passAll [] 0 vs) fun ins => CallP P n e d f vs ins κ

/-- Whether a slot is a row of one, written out in this region. -/
def bldOf (t : Nat) : List Oper → Bool
  | [] => false
  | o :: r => match o.dst with
    | some d => match Nat.beq d t with
      | true => match o.op with
        | .buildSlice _ len _ => Nat.beq len 1
        | _ => bldOf t r
      | false => bldOf t r
    | none => bldOf t r

def flatV (y : V) : Bool := y.cs.all V.plain

/-- An append of a row of one that was written out. -/
def pushK (T : TT) (n : Nat) (all : List Oper) (e : Env) (o : Oper) (args : Array Operand) (ts : Array TypeId) (κ : Env → Prop) : Prop :=
  match args.toList, ts.toList, o.dst with
  | [s, .tmp tx], [t, t2], some d => match bldOf tx all with
    | true => e.rdK (.tmp tx) fun vx => match vx with
      | .al p => e.atK p fun u => match u with
        | some (.ow _ [y]) => match flatV y with
          | true => opK T n e o κ
          | false => match e.freeB d, Nat.blt d n with
            | true, true => e.getK d fun u => match u with
              | .un => appMK T e o d s tx t t2 κ
              | _ => Stuck o e 330
            | _, _ => Stuck o e 331
        | _ => opK T n e o κ
      | _ => opK T n e o κ
    | false => opK T n e o κ
  | _, _, _ => opK T n e o κ

def goK (P : Program) (T : TT) (n : Nat) (all : List Oper) (e : Env) (o : Oper) (κ : Env → Prop) : Prop :=
  match o.op with
  | .call { callee := .value (.func f), args, .. } => callK P n e o.dst f args.toList κ
  | .move x => e.rdK x fun v => putK n e o.dst v κ
  | .assign x => e.rdK x fun v => putK n e o.dst v κ
  | .binOp op t x y _ => bin2K T e op t x y fun v => putK n e o.dst v κ
  | .store t a x => match o.dst with
    | none => e.rdK a fun va => e.rdK x fun vx => match isAe va with
      | true => match anyAl vx.cs with
        | true => storeMK T e t va vx κ
        | false => storeK T e t va vx κ
      | false => storeK T e t va vx κ
    | some _ => Stuck o e 170
  | .buildSlice t len parts => match parts.toList with
    | [(0, x)] => e.rdK x fun vx => match vx with
      | .ag vs => match anyAl vs with
        | true => match o.dst with
          | some d => match e.freeB d, Nat.blt d n with
            | true, true => bldMK T e d t len vs κ
            | _, _ => Stuck o e 332
          | none => Stuck o e 333
        | false => opK T n e o κ
      | _ => opK T n e o κ
    | _ => opK T n e o κ
  | .call { callee := .builtin .append, args, argTypes } => pushK T n all e o args argTypes κ
  | _ => opK T n e o κ

def guardK (all : List Oper) (o : Oper) (e : Env) (go skip : Env → Prop) : Prop :=
  match o.guard with
  | none => go e
  | some (j, want) => match (all[j]?).bind (·.dst) with
    | some d => e.getK d fun v => match v with
      | .b c => match want with
        | true => Br c (e.setK d (.b true) go) (e.setK d (.b false) skip)
        | false => Br c (e.setK d (.b true) skip) (e.setK d (.b false) go)
      | .tp [] => skip e
      | _ => Stuck o e 173
    | none => Stuck o e 174

def litFor (d : Nat) : List Operand → Bool
  | [] => false
  | .tmp t :: r => match Nat.beq t d with
    | true => true
    | false => litFor d r
  | _ :: r => litFor d r
/-- A row that is written out and passed on at once. -/
def isLit (o : Oper) (r : List Oper) : Bool :=
  match o.guard with
  | some _ => false
  | none => match o.op with
    | .buildSlice _ _ _ => match o.dst, r with
      | some d, o2 :: _ => match o2.op with
        | .call { callee := .value (.func _), args, .. } => litFor d args.toList
        | _ => false
      | _, _ => false
    | _ => false
/-- It is the slot's own, or nobody is to write it. -/
inductive BsP (A B : Prop) : Prop
  | own (h : A)
  | imm (h : B)
def immK (T : TT) (n : Nat) (e : Env) (o : Oper) (κ : Env → Prop) : Prop :=
  match o.dst with
  | some d => newK T e o fun v => match v, e.freeB d, Nat.blt d n with
    | .ow _ vs, true, true => e.setK d (.sl vs) κ
    | _, _, _ => Stuck o e 175
  | none => Stuck o e 176

def opsK (P : Program) (T : TT) (n : Nat) (all : List Oper) : List Oper → Env → (Env → Prop) → Prop
  | [], e, κ => κ e
  | o :: r, e, κ => match isLit o r with
    | true => BsP (guardK all o e (fun e => goK P T n all e o fun e => opsK P T n all r e κ) (fun e => putK n e o.dst (.tp []) fun e => opsK P T n all r e κ)) (immK T n e o fun e => opsK P T n all r e κ)
    | false => guardK all o e (fun e => goK P T n all e o fun e => opsK P T n all r e κ) (fun e => putK n e o.dst (.tp []) fun e => opsK P T n all r e κ)

section
variable {P : Program} {T : TT} {n : Nat} {e : Env} {o : Oper} {k : Ctx}

theorem putK_ok {dst : Option Nat} {v : V} {κ : Env → Prop} (h : putK n e dst v κ) : dOk n dst = true ∧ ∃ e', (e.setd dst v).Eqv e' ∧ κ e' := by
  unfold putK at h
  split at h
  · rename_i d
    split at h
    · rename_i hb
      rw [Env.setK_iff] at h
      exact ⟨by simpa [dOk, Nat.blt_eq] using hb, _, cons_del_eqv _ _ _, h⟩
    · cases h
  · exact ⟨rfl, _, fun _ => rfl, h⟩

theorem zip_map (parts : List (Nat × Operand)) : (parts.map (·.1)).zip ((parts.map (·.2)).map e.rd) = parts.map fun p => (p.1, e.rd p.2) := by
  induction parts with
  | nil => rfl
  | cons p r ih => simp only [List.map_cons, List.zip_cons_cons, ih]

theorem buildK_ok {t : Nat} {parts : List (Nat × Operand)} {κ : V → Prop} (hT : T.ok P) (h : buildK T e t parts κ) : ∃ v, buildV P e t parts = some v ∧ κ v := by
  unfold buildK at h
  split at h
  · rename_i d hd
    obtain ⟨hti, _, hz, _⟩ := TT.look_ok hT hd
    unfold buildV
    rw [hti, hz]
    split at h
    · rename_i fs m zs h1 h2
      rw [h1, h2]
      split at h
      · rename_i hl
        rw [Env.rdsK_iff, zip_map] at h
        simp only
        rw [if_pos (lenIs_iff hl)]
        obtain ⟨cs, hcs, h⟩ := buildCK_ok _ _ _ h
        exact ⟨_, by rw [hcs]; rfl, h⟩
      · cases h
    · rename_i len z m zs h1 h2
      rw [h1, h2]
      split at h
      · rename_i hl
        rw [Env.rdsK_iff, zip_map] at h
        simp only
        rw [if_pos (lenIs_iff hl)]
        obtain ⟨cs, hcs, h⟩ := buildCK_ok _ _ _ h
        exact ⟨_, by rw [hcs]; rfl, h⟩
      · cases h
    · cases h
  · cases h

theorem opK_ok {κ : Env → Prop} (hT : T.ok P) (h : opK T n e o κ) : ∃ e1, stepF P n e o = some e1 ∧ ∃ e2, e1.Eqv e2 ∧ κ e2 := by
  have hnew : ∀ {κ : Env → Prop}, (match o.dst with
      | some d => newK T e o fun v => match e.freeB d, Nat.blt d n with
        | true, true => e.setK d v κ
        | _, _ => Stuck o e 171
      | none => Stuck o e 172) → ∃ v d, o.dst = some d ∧ newF P e o = some v ∧ e.free d = true ∧ d < n ∧ κ ((d, v) :: e) := by
    intro κ h
    split at h
    · rename_i d hd
      obtain ⟨v, hv, h⟩ := newK_ok hT h
      split at h
      · rename_i h1 h2
        rw [Env.setK_iff] at h
        exact ⟨v, d, hd, hv, Env.freeB_eq h1, by simpa [Nat.blt_eq] using h2, h⟩
      · cases h
    · cases h
  unfold opK at h
  split at h
  · rename_i t a x ho
    split at h
    · rename_i hd
      simp only [Env.rdK_iff] at h
      obtain ⟨e1, h1, h2⟩ := storeK_ok hT h
      refine ⟨e1, ?_, h2⟩
      unfold stepF
      rw [hd]
      simp only [dOk, if_true, ho]
      exact h1
    · cases h
  · rename_i t ho
    obtain ⟨v, d, h1, h2, h3, h4, h5⟩ := hnew h
    refine ⟨_, ?_, _, cons_del_eqv _ _ _, h5⟩
    unfold stepF
    rw [if_pos (by rw [h1]; simpa [dOk] using h4)]
    simp only [ho, h1, h2, h3, if_true]
  · rename_i t x ho
    obtain ⟨v, d, h1, h2, h3, h4, h5⟩ := hnew h
    refine ⟨_, ?_, _, cons_del_eqv _ _ _, h5⟩
    unfold stepF
    rw [if_pos (by rw [h1]; simpa [dOk] using h4)]
    simp only [ho, h1, h2, h3, if_true]
  · rename_i t len parts ho
    obtain ⟨v, d, h1, h2, h3, h4, h5⟩ := hnew h
    refine ⟨_, ?_, _, cons_del_eqv _ _ _, h5⟩
    unfold stepF
    rw [if_pos (by rw [h1]; simpa [dOk] using h4)]
    simp only [ho, h1, h2, h3, if_true]
  · rename_i t l c ho
    obtain ⟨v, d, h1, h2, h3, h4, h5⟩ := hnew h
    refine ⟨_, ?_, _, cons_del_eqv _ _ _, h5⟩
    unfold stepF
    rw [if_pos (by rw [h1]; simpa [dOk] using h4)]
    simp only [ho, h1, h2, h3, if_true]
  · rename_i args ts ho
    exact appK_ok hT ho h
  · rename_i t parts ho
    obtain ⟨v, hv, h⟩ := buildK_ok hT h
    obtain ⟨hd, e', he, h⟩ := putK_ok h
    refine ⟨_, ?_, e', he, h⟩
    unfold stepF
    rw [if_pos hd]
    simp only [ho, hv, Option.map_some]
  · rename_i s t x ho
    split at h
    · obtain ⟨v, d, h1, h2, h3, h4, h5⟩ := hnew h
      refine ⟨_, ?_, _, cons_del_eqv _ _ _, h5⟩
      unfold stepF
      rw [if_pos (by rw [h1]; simpa [dOk] using h4)]
      simp only [ho, h1, h2, h3, if_true]
    · obtain ⟨v, hv, h⟩ := valK_ok hT h
      obtain ⟨hd, e', he, h⟩ := putK_ok h
      exact ⟨_, stepF_val hv hd, e', he, h⟩
  · obtain ⟨v, hv, h⟩ := valK_ok hT h
    obtain ⟨hd, e', he, h⟩ := putK_ok h
    exact ⟨_, stepF_val hv hd, e', he, h⟩

theorem goK_ok {ops : Array Oper} {r : List Oper} {Q : Exit → Env → Prop} {κ : Env → Prop} (hT : T.ok P) (ih : ∀ e, κ e → JL P k ops r e Q) {all : List Oper} (h : goK P T k.n all e o κ) : OpOk P k.w0 k.g0 k.n o e (fun e' => JL P k ops r e' Q) := by
  have hval : ∀ {v : V}, valF P e o = some v → putK k.n e o.dst v κ → OpOk P k.w0 k.g0 k.n o e (fun e' => JL P k ops r e' Q) := by
    intro v hv h
    obtain ⟨hd, e', he, h⟩ := putK_ok h
    exact stepF_ok (stepF_val hv hd) (JL.congr he (ih _ h))
  have hop : opK T k.n e o κ → OpOk P k.w0 k.g0 k.n o e (fun e' => JL P k ops r e' Q) := by
    intro h
    obtain ⟨e1, h1, e2, h2, h3⟩ := opK_ok hT h
    exact stepF_ok h1 (JL.congr h2 (ih _ h3))
  unfold goK at h
  split at h
  · rename_i f args ts ho
    unfold callK at h
    rw [Env.rdsK_iff] at h
    replace h : CallP P k.n e o.dst f (args.toList.map e.rd) (e.passAll [] 0 (args.toList.map e.rd)) κ := by
      split at h
      · exact h
      · rw [V.forceL_iff] at h; exact h
    cases h with
    | mk I res outs hs hd hc e' he g =>
      obtain ⟨⟨fn, cd, k1, k2, k3⟩, hdo⟩ := hs
      exact call_ok ho hd k1 k2 k3 hdo hc (JL.congr he (ih _ g))
    | read res outs hs hd hc e' he g =>
      obtain ⟨⟨fn, cd, k1, k2, k3⟩, hdo⟩ := hs
      exact call_ok (I := []) ho hd k1 k2 k3 hdo hc (JL.congr he (ih _ g))
  · rename_i x ho
    rw [Env.rdK_iff] at h
    exact hval (by simp only [valF, ho]) h
  · rename_i x ho
    rw [Env.rdK_iff] at h
    exact hval (by simp only [valF, ho]) h
  · rename_i op t x y t2 ho
    have h' : valK T e o fun v => putK k.n e o.dst v κ := by simp only [valK, ho]; exact h
    obtain ⟨v, hv, h⟩ := valK_ok hT h'
    exact hval hv h
  · rename_i t ad x ho
    split at h
    · rename_i hdst
      have hplain : storeK T e t (e.rd ad) (e.rd x) κ → OpOk P k.w0 k.g0 k.n o e (fun e' => JL P k ops r e' Q) := by
        intro h
        refine hop ?_
        simp only [opK, ho, hdst, Env.rdK_iff]
        exact h
      simp only [Env.rdK_iff] at h
      split at h
      · split at h
        · obtain ⟨e1, h1, e2, h2, h3⟩ := storeMK_ok hT h
          exact storeM_ok ho hdst h1 (JL.congr h2 (ih _ h3))
        · exact hplain h
      · exact hplain h
    · cases h
  · rename_i t len parts ho
    split at h
    · rename_i x hparts
      rw [Env.rdK_iff] at h
      split at h
      · rename_i vs hx
        split at h
        · split at h
          · rename_i d hdst
            split at h
            · rename_i k1 k2
              obtain ⟨e1, h1, e2, h2, h3⟩ := bldMK_ok hT hx h
              rw [← hparts] at h1
              exact bldM_ok ho hdst (by simpa [Nat.blt_eq] using k2) (Env.freeB_eq k1) h1 (JL.congr h2 (ih _ h3))
            · cases h
          · cases h
        · exact hop h
      · exact hop h
    · exact hop h
  · rename_i args ts ho
    unfold pushK at h
    split at h
    · rename_i s tx t t2 d hargs hts hdst
      split at h
      · rw [Env.rdK_iff] at h
        split at h
        · replace h := Env.atK_of h
          split at h
          · split at h
            · exact hop h
            · split at h
              · rename_i k1 k2
                rw [Env.getK_iff] at h
                split at h
                · rename_i hun
                  obtain ⟨e1, h1, e2, h2, h3⟩ := appMK_ok hT h
                  rw [← hargs, ← hts] at h1
                  exact appM_ok ho hdst (by simpa [Nat.blt_eq] using k2) h1 (Env.freeB_eq k1) (by rw [hun]; rfl) (JL.congr h2 (ih _ h3))
                · cases h
              · cases h
          · exact hop h
        · exact hop h
      · exact hop h
    · exact hop h
  · exact hop h

theorem opsK_ok {ops : Array Oper} {Q : Exit → Env → Prop} (hT : T.ok P) : ∀ (l : List Oper) (e : Env) (κ : Env → Prop), l.all (dstOk k.pins) = true → opsK P T k.n ops.toList l e κ → (∀ e, κ e → JL P k ops [] e Q) → JL P k ops l e Q
  | [], e, κ, _, h, hq => hq e h
  | o :: r, e, κ, hpin, h, hq => by
    simp only [List.all_cons, Bool.and_eq_true] at hpin
    obtain ⟨hp, hpr⟩ := hpin
    have ih := fun e (h : opsK P T k.n ops.toList r e κ) => opsK_ok (ops := ops) hT r e κ hpr h hq
    have hgo : ∀ (e : Env), (∀ a w, Sim k.w0 k.g0 k.n e a w → Region.wanted o (yielded ops a.tmps) = true) →
        goK P T k.n ops.toList e o (fun e => opsK P T k.n ops.toList r e κ) → JL P k ops (o :: r) e Q := by
      intro e hw h
      exact JL.op hw hp (goK_ok hT ih h)
    have hskip : ∀ (e : Env), (∀ a w, Sim k.w0 k.g0 k.n e a w → Region.wanted o (yielded ops a.tmps) = false) →
        putK k.n e o.dst (.tp []) (fun e => opsK P T k.n ops.toList r e κ) → JL P k ops (o :: r) e Q := by
      intro e hw h
      obtain ⟨hd, e', he, h⟩ := putK_ok h
      exact JL.skip hw hd hp (JL.congr he (ih _ h))
    have hmain : guardK ops.toList o e (fun e => goK P T k.n ops.toList e o fun e => opsK P T k.n ops.toList r e κ) (fun e => putK k.n e o.dst (.tp []) fun e => opsK P T k.n ops.toList r e κ) → JL P k ops (o :: r) e Q := by
      intro h
      simp only [guardK] at h
      split at h
      · rename_i hg
        exact hgo e (fun a w _ => wanted_none hg a) h
      · rename_i j want hg
        split at h
        · rename_i d hd
          simp only [Array.getElem?_toList] at hd
          rw [Env.getK_iff] at h
          have hset : ∀ c, e.get d = .b c → e.Eqv ((d, .b c) :: e) := fun c hc t => by
            simp only [Env.get]
            split
            · rename_i ht; subst ht; exact hc
            · rfl
          have hget : ∀ v, Env.get ((d, v) :: e) d = v := fun v => by simp [Env.get]
          split at h
          · rename_i c hc
            split at h
            · cases h with
              | mk h1 h2 =>
                simp only [Env.setK_iff] at h1 h2
                cases c with
                | true => exact JL.congr (hset _ hc) (hgo _ (fun a w hs => by rw [wanted_b hg hd (hget _) hs]; rfl) (h1 rfl))
                | false => exact JL.congr (hset _ hc) (hskip _ (fun a w hs => by rw [wanted_b hg hd (hget _) hs]; rfl) (h2 rfl))
            · cases h with
              | mk h1 h2 =>
                simp only [Env.setK_iff] at h1 h2
                cases c with
                | true => exact JL.congr (hset _ hc) (hskip _ (fun a w hs => by rw [wanted_b hg hd (hget _) hs]; rfl) (h1 rfl))
                | false => exact JL.congr (hset _ hc) (hgo _ (fun a w hs => by rw [wanted_b hg hd (hget _) hs]; rfl) (h2 rfl))
          · rename_i hc
            exact hskip e (fun a w hs => wanted_tp hg hd hc hs) h
          · cases h
        · cases h
    simp only [opsK] at h
    split at h
    · rename_i hlit
      cases h with
      | own h => exact hmain h
      | imm h =>
        unfold isLit at hlit
        split at hlit
        · cases hlit
        · rename_i hg
          split at hlit
          · rename_i t len parts hop
            unfold immK at h
            split at h
            · rename_i d hd
              obtain ⟨v, hv, h⟩ := newK_ok hT h
              split at h
              · rename_i z vs h1 h2
                rw [Env.setK_iff] at h
                refine JL.op (fun a w _ => wanted_none hg a) hp (buildSliceI_ok hop hd (by simpa [Nat.blt_eq] using h2) (Env.freeB_eq h1) hv ?_)
                exact JL.congr (cons_del_eqv _ _ _) (ih _ h)
              · cases h
            · cases h
          · cases hlit
    · exact hmain h

end
end Go.Vx

namespace Go.Vx
open Go Go.RowKit Go.Great

def snocK {α : Type} : List α → α → (List α → Prop) → Prop
  | [], x, κ => κ [x]
  | a :: r, x, κ => snocK r x fun r => κ (a :: r)
theorem snocK_iff {α : Type} : ∀ (l : List α) (x : α) (κ : List α → Prop), snocK l x κ ↔ κ (l ++ [x])
  | [], _, _ => Iff.rfl
  | a :: r, x, κ => by simp only [snocK]; exact snocK_iff r x _

def setNK {α : Type} : List α → Nat → α → (List α → Prop) → Prop
  | [], _, _, κ => κ []
  | _ :: r, 0, x, κ => κ (x :: r)
  | a :: r, j + 1, x, κ => setNK r j x fun r => κ (a :: r)
theorem setNK_iff {α : Type} : ∀ (l : List α) (j : Nat) (x : α) (κ : List α → Prop), setNK l j x κ ↔ κ (l.set j x)
  | [], _, _, _ => Iff.rfl
  | _ :: _, 0, _, _ => Iff.rfl
  | a :: r, j + 1, x, κ => by simp only [setNK, List.set_cons_succ]; exact setNK_iff r j x _

def consD : List (Nat × V) → Env → Env
  | [], e => e
  | x :: r, e => consD r (x :: e)
def consK : List (Nat × V) → Env → (Env → Prop) → Prop
  | [], e, κ => κ e
  | x :: r, e, κ => consK r (x :: e) κ
theorem consK_iff : ∀ (l : List (Nat × V)) (e : Env) (κ : Env → Prop), consK l e κ ↔ κ (consD l e)
  | [], _, _ => Iff.rfl
  | x :: r, e, κ => by simp only [consK, consD]; exact consK_iff r _ _

theorem sets_eqv : ∀ (l : List (Nat × V)) {e e' : Env}, e.Eqv e' → (e.sets l).Eqv (e'.sets l)
  | [], _, _, h => h
  | (d, v) :: r, e, e', h => by simp only [Env.sets]; exact sets_eqv r (h.set d v)
theorem consD_eqv : ∀ (l : List (Nat × V)) (e : Env), (e.sets l).Eqv (consD l e)
  | [], _ => fun _ => rfl
  | (d, v) :: r, e => by
    simp only [Env.sets, consD]
    exact (sets_eqv r (cons_eqv e d v)).trans' (consD_eqv r _)

def ltAll (n : Nat) : List Nat → Bool
  | [] => true
  | x :: r => match Nat.blt x n with
    | true => ltAll n r
    | false => false
theorem ltAll_mem {n : Nat} : ∀ {l : List Nat}, ltAll n l = true → ∀ x ∈ l, x < n
  | [], _, x, hx => by cases hx
  | y :: r, h, x, hx => by
    simp only [ltAll] at h
    split at h
    · rename_i hb
      rcases List.mem_cons.1 hx with rfl | hx
      · simpa [Nat.blt_eq] using hb
      · exact ltAll_mem h x hx
    · cases h

theorem memN_mem {t : Nat} : ∀ {l : List Nat}, memN t l = true ↔ t ∈ l
  | [] => by simp [memN]
  | x :: r => by
    rw [memN_cons, Bool.or_eq_true, memN_mem, decide_eq_true_eq, List.mem_cons]
    exact ⟨fun h => h.imp Eq.symm id, fun h => h.imp Eq.symm id⟩

def knownS (slots picked : List Nat) : List Operand → Bool
  | [] => true
  | .tmp t :: r => match memN t slots with
    | false => knownS slots picked r
    | true => match memN t picked with
      | true => knownS slots picked r
      | false => false
  | _ :: r => knownS slots picked r

def knownQ (slots picked : List Nat) : List Path → Bool
  | [] => true
  | p :: r => (match p with
    | (t + 2) :: _ => match memN t slots with
      | false => true
      | true => memN t picked
    | _ => true) && knownQ slots picked r

def knownP (slots picked : List Nat) : List V → Bool
  | [] => true
  | v :: r => knownQ slots picked v.refs && knownP slots picked r

/-- A call in such a region. -/
inductive DCall (P : Program) (f : Nat) (vs ins : List V) (κ : V → Prop) : Prop
  | mk (res : V) (outs : List V) (hv : Vow P f ins res outs) (hq : quiet (lentAll [] 0 vs) res = true) (g : V.force res κ)

def dcallK (P : Program) (E : Env) (o : Oper) (slots picked : List Nat) (f : Nat) (args : List Operand) (κ : V → Prop) : Prop :=
  E.rdsK args fun vs => match knownS slots picked args, knownP slots picked vs with
    | true, true => V.forceL (E.passAll [] 0 vs) fun ins => DCall P f vs ins κ
    | _, _ => Stuck o E 301

def dnewK (T : TT) (E : Env) (o : Oper) (slots picked : List Nat) (κ : V → Prop) : Prop :=
  match knownS slots picked (reads o) with
  | true => newK T E o κ
  | false => Stuck o E 302

def dopK (P : Program) (T : TT) (E : Env) (slots picked : List Nat) (o : Oper) (κ : V → Prop) : Prop :=
  match o.op with
  | .call { callee := .value (.func f), args, .. } => dcallK P E o slots picked f args.toList κ
  | .alloc _ | .box _ _ | .buildSlice _ _ _ | .makeSlice _ _ _ => dnewK T E o slots picked κ
  | .build t parts => buildK T E t parts.toList κ
  | .convert src dst _ => match isBytes T src dst with
    | true => dnewK T E o slots picked κ
    | false => valK T E o κ
  | _ => valK T E o κ

def dguardK (o : Oper) (dv : List (Nat × V)) (run skip : List (Nat × V) → Prop) : Prop :=
  match o.guard with
  | none => run dv
  | some (j, want) => match memN j (before o), dv[j]? with
    | true, some (s, .b c) => match want with
      | true => Br c (setNK dv j (s, .b true) run) (setNK dv j (s, .b false) skip)
      | false => Br c (setNK dv j (s, .b true) skip) (setNK dv j (s, .b false) run)
    | true, some (_, .tp []) => skip dv
    | _, _ => Stuck o [] 303

def pickK' (dv : List (Nat × V)) : List Nat → (List (Nat × V) → Prop) → Prop
  | [], κ => κ []
  | j :: B, κ => match dv[j]? with
    | some x => pickK' dv B fun l => κ (x :: l)
    | none => pickK' dv B κ
theorem pickK'_iff (dv : List (Nat × V)) : ∀ (B : List Nat) (κ : List (Nat × V) → Prop), pickK' dv B κ ↔ κ (pickD dv B)
  | [], _ => Iff.rfl
  | j :: B, κ => by
    simp only [pickK', pickD, List.filterMap_cons]
    split
    · rename_i x hx; rw [hx]; exact pickK'_iff dv B _
    · rename_i hx; rw [hx]; exact pickK'_iff dv B _

def drawK (P : Program) (T : TT) (n : Nat) (e : Env) (slots : List Nat) : Nat → List Oper → List (Nat × V) → (List (Nat × V) → Prop) → Prop
  | 0, _, dv, κ => κ dv
  | _ + 1, [], _, _ => StuckC e 304
  | m + 1, o :: r, dv, κ => match o.dst with
    | none => Stuck o e 305
    | some d => match memN d (dv.map (·.1)), Nat.blt d n, ltAll dv.length (before o) with
      | false, true, true => e.getK d fun u => match u with
        | .un => dguardK o dv
          (fun dv => pickK' dv (before o) fun l => consK l e fun E => dopK P T E slots (l.map (·.1)) o fun v => V.force v fun v => snocK dv (d, v) fun dv => drawK P T n e slots m r dv κ)
          (fun dv => snocK dv (d, .tp []) fun dv => drawK P T n e slots m r dv κ)
        | _ => Stuck o e 306
      | _, _, _ => Stuck o e 307

def freeable (e : Env) (o : Oper) : Bool :=
  match o.dst with
  | none => false
  | some d => (match o.op with
    | .call { callee := .builtin .append, .. } => false
    | .assign _ => false
    | _ => true) && (e.get d).isUn
def freeN (e : Env) : List Oper → Nat
  | [] => 0
  | o :: r => match freeable e o with
    | true => freeN e r + 1
    | false => 0

def backB : Nat → List Oper → Bool
  | _, [] => true
  | i, o :: r => ((before o).all fun y => Nat.blt y i) && backB (i + 1) r
def tailB (m : Nat) : Nat → List Oper → Bool
  | _, [] => true
  | i, o :: r => (match Nat.blt m i with
    | true => memN (i - 1) (before o)
    | false => true) && tailB m (i + 1) r
def coverB (all : List Oper) (late : List Nat) : Nat → List Nat → Bool
  | 0, _ => true
  | k + 1, S => match memN k S, all[k]? with
    | true, some o => coverB all late k (before o ++ S)
    | _, _ => match memN k late with
      | true => coverB all late k S
      | false => false
def tail0B (all : List Oper) (late : List Nat) (m : Nat) : Bool :=
  match all[m]? with
  | some o => coverB all late m (before o)
  | none => true

/-! What may come behind the first of the tail: operations that look at nothing but slots. -/
def lateKind (o : Oper) : Bool :=
  match o.guard with
  | some _ => false
  | none => match o.op with
    | .extract _ _ | .move _ | .assign _ => true
    | .binOp .add _ _ _ _ | .binOp .sub _ _ _ _ | .binOp .mul _ _ _ _ => true
    | _ => false
def tmpsB : List Operand → List Nat
  | [] => []
  | .tmp t :: r => t :: tmpsB r
  | _ :: r => tmpsB r
def looksB (all : List Oper) (o : Oper) : List Nat :=
  tmpsB o.op.operands.toList ++ (match o.guard with
    | some (g, _) => match all[g]? with
      | some o' => match o'.dst with
        | some d => [d]
        | none => []
      | none => []
    | none => [])
def apartB (all : List Oper) (x y : Oper) : Bool :=
  (match x.dst with
    | some d => !(memN d (looksB all y)) && (match y.dst with
      | some d' => !(Nat.beq d' d)
      | none => true)
    | none => true) && (match y.dst with
    | some d => !(memN d (looksB all x))
    | none => true)
def lateAll (all : List Oper) (j : Nat) (o : Oper) : Nat → List Oper → Bool
  | _, [] => true
  | i, oi :: r => (Nat.beq i j || memN i (before o) || memN j (before oi) || apartB all o oi) && lateAll all j o (i + 1) r
def lateL (all : List Oper) : Nat → List Oper → List Nat
  | _, [] => []
  | j, o :: r => match lateKind o && lateAll all j o 0 all with
    | true => j :: lateL all (j + 1) r
    | false => lateL all (j + 1) r
def noSelB : List Oper → Bool
  | [] => true
  | o :: r => match o.op with
    | .select _ _ => false
    | _ => noSelB r
def allCalmX (d : Nat) : List Path → Bool
  | [] => true
  | p :: r => !badRef (some d) [] p && allCalmX d r
def calmX : Env → Nat → Bool
  | [], _ => true
  | (_, v) :: r, d => match allCalmX d v.refs with
    | true => calmX r d
    | false => false
/-- lateR, told by a match. -/
def lateB (all : List Oper) (i : Nat) : Nat → List (Nat × V) → List (Nat × V)
  | _, [] => []
  | j, x :: r => (x.1, match reach all i 4 j with
    | true => .un
    | false => x.2) :: lateB all i (j + 1) r
/-- Nothing that can stand when operation i runs hangs on what it makes. -/
def chkB (all : List Oper) (dv : List (Nat × V)) (e : Env) : Nat → Nat → List Oper → Bool
  | 0, _, _ => true
  | _ + 1, _, [] => true
  | m + 1, i, o :: r => (match o.dst with
    | some d => match o.op with
      | .call { callee := .value (.func _), .. } => calmX (consD (lateB all i 0 dv) e) d
      | .alloc _ | .box _ _ | .buildSlice _ _ _ | .makeSlice _ _ _ | .convert _ _ _ => (consD (lateB all i 0 dv) e).freeB d
      | _ => true
    | none => false) && chkB all dv e m (i + 1) r

def slotsOf (m : Nat) (all : List Oper) : List Nat := (all.take m).filterMap (·.dst)

/-! A region that only reads, and stores into boxes that nothing of it reads. -/
def tgt (o : Oper) : Option Nat :=
  match o.dst with
  | some d => some d
  | none => match o.op with
    | .store _ (.tmp s) _ => some s
    | _ => none
def wipe (e : Env) : List Oper → Env
  | [] => e
  | o :: r => match tgt o with
    | some d => (d, .un) :: wipe e r
    | none => wipe e r
def storeBxK (T : TT) (o : Oper) (e : Env) (t : Nat) (cs : List V) (v : V) (κ : V → Prop) : Prop :=
  match T.look t with
  | some d => match d.ti with
    | .bad => Stuck o e 330
    | ti => match lenIs v.cs d.cells, (ti.cells.isSome == v.isAg), v.noUn, lenGe cs v.cs.length with
      | true, true, true, true => setCellsK cs 0 v.cs fun cs => V.forceL cs fun cs => κ (.bx cs)
      | _, _, _, _ => Stuck o e 331
  | none => Stuck o e 332
def op3K (T : TT) (E e : Env) (o : Oper) (κ : V → Prop) : Prop :=
  match o.op with
  | .store t (.tmp s) x => match o.dst with
    | none => e.getK s fun u => match u with
      | .bx cs => E.rdK x fun v => storeBxK T o e t cs v κ
      | _ => Stuck o e 333
    | some _ => Stuck o e 334
  | .build t parts => match o.dst with
    | some _ => buildK T E t parts.toList κ
    | none => Stuck o e 335
  | _ => match o.dst with
    | some _ => valK T E o κ
    | none => Stuck o e 336
def draw3K (T : TT) (n : Nat) (eB e : Env) : List Oper → List (Nat × V) → (List (Nat × V) → Prop) → Prop
  | [], dv, κ => κ dv
  | o :: r, dv, κ => match o.guard, tgt o with
    | none, some d => match memN d (dv.map (·.1)), Nat.blt d n, ltAll dv.length (before o) with
      | false, true, true => pickK' dv (before o) fun l => consK l eB fun E => op3K T E e o fun v => V.force v fun v => snocK dv (d, v) fun dv => draw3K T n eB e r dv κ
      | _, _, _ => Stuck o e 337
    | _, _ => Stuck o e 338
def drawP3 (T : TT) (n : Nat) (all : List Oper) (e : Env) (κ : Env → Prop) : Prop :=
  draw3K T n (wipe e all) e all [] fun dv => consK dv e κ

def drawP (P : Program) (T : TT) (n : Nat) (all : List Oper) (e : Env) (κ : Env → Prop) : Prop :=
  match backB 0 all, tailB (freeN e all) 0 all, (match tail0B all [] (freeN e all) with
    | true => true
    | false => tail0B all (lateL all 0 all) (freeN e all)), noSelB all with
  | true, true, true, true => drawK P T n e (slotsOf (freeN e all) all) (freeN e all) all [] fun dv => match chkB all dv e (freeN e all) 0 all with
    | true => consK dv e fun E => opsK P T n all (all.drop (freeN e all)) E κ
    | false => StuckC (consD dv e) 308
  | _, _, _, _ => drawP3 T n all e κ

section
variable {P : Program} {T : TT} {n : Nat} {e : Env} {o : Oper} {k : Ctx} {ops : Array Oper} {dv : List (Nat × V)} {slots : List Nat}

/-- What an operation of such a region makes, out of what it follows. -/
inductive DFact (P : Program) (e : Env) (dv : List (Nat × V)) (slots : List Nat) (o : Oper) (v : V) : Prop
  | pure (h : pureF P (consD (pickD dv (before o)) e) o = some v)
  | new (hm : makes o = true) (hk : knownS slots ((pickD dv (before o)).map (·.1)) (reads o) = true) (h : newF P (consD (pickD dv (before o)) e) o = some v)
  | call (f : FuncId) (xs : Array Operand) (ts : Array TypeId) (ho : o.op = .call { callee := .value (.func f), args := xs, argTypes := ts })
      (hk : knownS slots ((pickD dv (before o)).map (·.1)) xs.toList = true) (hp : knownP slots ((pickD dv (before o)).map (·.1)) (xs.toList.map (consD (pickD dv (before o)) e).rd) = true)
      (ins : List V) (outs : List V) (hi : (consD (pickD dv (before o)) e).passAll [] 0 (xs.toList.map (consD (pickD dv (before o)) e).rd) = ins) (hv : Vow P f ins v outs)
      (hq : quiet (lentAll [] 0 (xs.toList.map (consD (pickD dv (before o)) e).rd)) v = true)

theorem dopK_ok {κ : V → Prop} (hT : T.ok P) (h : dopK P T (consD (pickD dv (before o)) e) slots ((pickD dv (before o)).map (·.1)) o κ) : ∃ v, DFact P e dv slots o v ∧ κ v := by
  unfold dopK at h
  have hnew : makes o = true → dnewK T (consD (pickD dv (before o)) e) o slots ((pickD dv (before o)).map (·.1)) κ → ∃ v, DFact P e dv slots o v ∧ κ v := by
    intro hm h
    unfold dnewK at h
    split at h
    · rename_i hk
      obtain ⟨v, hv, h⟩ := newK_ok hT h
      exact ⟨v, .new hm hk hv, h⟩
    · cases h
  split at h
  · rename_i f args ts ho
    unfold dcallK at h
    rw [Env.rdsK_iff] at h
    split at h
    · rename_i h1 h2
      rw [V.forceL_iff] at h
      cases h with
      | mk res outs hv hq g =>
        rw [V.force_iff] at g
        exact ⟨res, .call f args ts ho h1 h2 _ outs rfl hv hq, g⟩
    · cases h
  · rename_i ho; exact hnew (by simp only [makes, ho]) h
  · rename_i ho; exact hnew (by simp only [makes, ho]) h
  · rename_i ho; exact hnew (by simp only [makes, ho]) h
  · rename_i ho; exact hnew (by simp only [makes, ho]) h
  · rename_i t parts ho
    obtain ⟨v, hv, h⟩ := buildK_ok hT h
    exact ⟨v, .pure (by simp only [pureF, ho]; exact hv), h⟩
  · rename_i s t x ho
    split at h
    · exact hnew (by simp only [makes, ho]) h
    · obtain ⟨v, hv, h⟩ := valK_ok hT h
      exact ⟨v, .pure (by simp only [pureF, ho]; exact hv), h⟩
  · rename_i hnb _
    obtain ⟨v, hv, h⟩ := valK_ok hT h
    refine ⟨v, .pure ?_, h⟩
    unfold pureF
    split
    · rename_i t parts ho; exact (hnb t parts ho).elim
    · exact hv

/-- Whether it runs. -/
def RunG (dv : List (Nat × V)) (o : Oper) : Prop := o.guard = none ∨ ∃ j want s, o.guard = some (j, want) ∧ j ∈ before o ∧ dv[j]? = some (s, .b want)
def SkipG (dv : List (Nat × V)) (o : Oper) : Prop := ∃ j want s, o.guard = some (j, want) ∧ j ∈ before o ∧ (dv[j]? = some (s, .b !want) ∨ dv[j]? = some (s, .tp []))

structure Facts (P : Program) (n : Nat) (all : List Oper) (e : Env) (slots : List Nat) (dv : List (Nat × V)) : Prop where
  nodup : (dv.map (·.1)).Nodup
  clear : ∀ x ∈ dv, e.get x.1 = .un
  op : ∀ (i : Nat) (o : Oper) (x : Nat × V), all[i]? = some o → dv[i]? = some x → o.dst = some x.1 ∧ x.1 < n ∧ (∀ j ∈ before o, j < i) ∧ (RunG dv o ∧ DFact P e dv slots o x.2 ∨ SkipG dv o ∧ x.2 = .tp [])

theorem pickD_more {x : Nat × V} {B : List Nat} (h : ∀ j ∈ B, j < dv.length) : pickD (dv ++ [x]) B = pickD dv B := by
  unfold pickD
  induction B with
  | nil => rfl
  | cons j B ih =>
    have := h j (List.mem_cons_self ..)
    simp only [List.filterMap_cons, List.getElem?_append_left this]
    rw [ih (fun j hj => h j (List.mem_cons_of_mem _ hj))]

theorem DFact.more {x : Nat × V} {v : V} (h : DFact P e dv slots o v) (hb : ∀ j ∈ before o, j < dv.length) : DFact P e (dv ++ [x]) slots o v := by
  cases h with
  | pure h => exact .pure (by rw [pickD_more hb]; exact h)
  | new hm hk h => exact .new hm (by rw [pickD_more hb]; exact hk) (by rw [pickD_more hb]; exact h)
  | call f xs ts ho hk hp ins outs hi hv hq => exact .call f xs ts ho (by rw [pickD_more hb]; exact hk) (by rw [pickD_more hb]; exact hp) ins outs (by rw [pickD_more hb]; exact hi) hv (by rw [pickD_more hb]; exact hq)

theorem get_more {x y : Nat × V} {j : Nat} (h : dv[j]? = some y) : (dv ++ [x])[j]? = some y := by
  rw [List.getElem?_append_left (List.getElem?_eq_some_iff.1 h).1]; exact h

theorem RunG.more {x : Nat × V} (h : RunG dv o) : RunG (dv ++ [x]) o := by
  rcases h with h | ⟨j, want, s, h1, h2, h3⟩
  · exact .inl h
  · exact .inr ⟨j, want, s, h1, h2, get_more h3⟩
theorem SkipG.more {x : Nat × V} (h : SkipG dv o) : SkipG (dv ++ [x]) o := by
  obtain ⟨j, want, s, h1, h2, h3⟩ := h
  exact ⟨j, want, s, h1, h2, h3.imp get_more get_more⟩

theorem Facts.more {all : List Oper} {d : Nat} {v : V} (h : Facts P n all e slots dv) (ho : all[dv.length]? = some o) (hd : o.dst = some d) (hn : d < n) (hc : e.get d = .un) (hm : d ∉ dv.map (·.1))
    (hb : ∀ j ∈ before o, j < dv.length) (hf : RunG dv o ∧ DFact P e dv slots o v ∨ SkipG dv o ∧ v = .tp []) : Facts P n all e slots (dv ++ [(d, v)]) := by
  refine ⟨?_, ?_, ?_⟩
  · rw [List.map_append, List.map_cons, List.map_nil, List.nodup_append]
    refine ⟨h.nodup, by simp, ?_⟩
    intro a ha b hb' hab
    simp at hb'
    subst hab
    subst hb'
    exact hm ha
  · intro x hx
    rcases List.mem_append.1 hx with hx | hx
    · exact h.clear x hx
    · simp at hx; subst hx; exact hc
  · intro i o' x ho' hx
    by_cases hi : i < dv.length
    · rw [List.getElem?_append_left hi] at hx
      obtain ⟨h1, h2, h3, h4⟩ := h.op i o' x ho' hx
      refine ⟨h1, h2, h3, ?_⟩
      rcases h4 with ⟨h4, h5⟩ | ⟨h4, h5⟩
      · exact .inl ⟨h4.more, h5.more (fun j hj => Nat.lt_trans (h3 j hj) hi)⟩
      · exact .inr ⟨h4.more, h5⟩
    · have hlen : i = dv.length := by
        have := (List.getElem?_eq_some_iff.1 hx).1
        simp at this
        omega
      subst hlen
      rw [ho] at ho'
      cases ho'
      simp at hx
      subst hx
      refine ⟨hd, hn, hb, ?_⟩
      rcases hf with ⟨h4, h5⟩ | ⟨h4, h5⟩
      · exact .inl ⟨h4.more, h5.more hb⟩
      · exact .inr ⟨h4.more, h5⟩

theorem set_self {α : Type} {l : List α} {j : Nat} {x : α} (h : l[j]? = some x) : l.set j x = l := by
  apply List.ext_getElem?
  intro i
  rw [List.getElem?_set]
  by_cases hji : j = i
  · subst hji
    have := (List.getElem?_eq_some_iff.1 h).1
    simp [this, (List.getElem?_eq_some_iff.1 h).2]
  · simp [hji]

theorem dguardK_ok {run skip : List (Nat × V) → Prop} (h : dguardK o dv run skip) : RunG dv o ∧ run dv ∨ SkipG dv o ∧ skip dv := by
  unfold dguardK at h
  split at h
  · rename_i hg; exact .inl ⟨.inl hg, h⟩
  · rename_i j want hg
    split at h
    · rename_i s c hm hj
      have hjm := memN_mem.1 hm
      split at h
      · cases h with
        | mk h1 h2 =>
          simp only [setNK_iff] at h1 h2
          cases c with
          | true => have := h1 rfl; rw [set_self hj] at this; exact .inl ⟨.inr ⟨j, _, s, hg, hjm, hj⟩, this⟩
          | false => have := h2 rfl; rw [set_self hj] at this; exact .inr ⟨⟨j, _, s, hg, hjm, .inl hj⟩, this⟩
      · cases h with
        | mk h1 h2 =>
          simp only [setNK_iff] at h1 h2
          cases c with
          | true => have := h1 rfl; rw [set_self hj] at this; exact .inr ⟨⟨j, _, s, hg, hjm, .inl hj⟩, this⟩
          | false => have := h2 rfl; rw [set_self hj] at this; exact .inl ⟨.inr ⟨j, _, s, hg, hjm, hj⟩, this⟩
    · rename_i s hm hj
      exact .inr ⟨⟨j, want, s, hg, memN_mem.1 hm, .inr hj⟩, h⟩
    · cases h

theorem drawK_ok {all : List Oper} (hT : T.ok P) : ∀ (m : Nat) (r : List Oper) (dv : List (Nat × V)) (κ : List (Nat × V) → Prop), drawK P T n e slots m r dv κ → all.drop dv.length = r → Facts P n all e slots dv →
    ∃ dv', κ dv' ∧ dv'.length = dv.length + m ∧ Facts P n all e slots dv'
  | 0, _, dv, κ, h, _, hf => ⟨dv, h, rfl, hf⟩
  | m + 1, [], dv, κ, h, _, _ => by simp only [drawK] at h; cases h
  | m + 1, o :: r, dv, κ, h, hr, hf => by
    have ho : all[dv.length]? = some o := by
      have : (all.drop dv.length)[0]? = some o := by rw [hr]; rfl
      simpa using this
    have hr' : ∀ x, all.drop (dv ++ [x]).length = r := by
      intro x
      rw [List.length_append, List.length_singleton, ← List.drop_drop, hr]
      rfl
    simp only [drawK] at h
    split at h
    · cases h
    · rename_i d hd
      split at h
      · rename_i h1 h2 h3
        have hm : d ∉ dv.map (·.1) := fun hh => by rw [memN_mem.2 hh] at h1; cases h1
        have hn : d < n := by simpa [Nat.blt_eq] using h2
        have hb := ltAll_mem h3
        rw [Env.getK_iff] at h
        split at h
        · rename_i hc
          rcases dguardK_ok h with ⟨hg, h⟩ | ⟨hg, h⟩
          · rw [pickK'_iff, consK_iff] at h
            obtain ⟨v, hv, h⟩ := dopK_ok hT h
            rw [V.force_iff, snocK_iff] at h
            obtain ⟨dv', k1, k2, k3⟩ := drawK_ok hT m r _ κ h (hr' _) (hf.more ho hd hn hc hm hb (.inl ⟨hg, hv⟩))
            exact ⟨dv', k1, by rw [k2]; simp; omega, k3⟩
          · rw [snocK_iff] at h
            obtain ⟨dv', k1, k2, k3⟩ := drawK_ok hT m r _ κ h (hr' _) (hf.more ho hd hn hc hm hb (.inr ⟨hg, rfl⟩))
            exact ⟨dv', k1, by rw [k2]; simp; omega, k3⟩
        · cases h
      · cases h

theorem knownS_ok {xs : List Operand} {picked : List Nat} {B : List Nat} (hs : dv.map (·.1) = slots) (hp : (pickD dv B).map (·.1) = picked) : knownS slots picked xs = true → known dv B xs = true := by
  induction xs with
  | nil => intro _; rfl
  | cons x r ih =>
    intro h
    unfold known at ih ⊢
    rw [List.all_cons]
    cases x with
    | tmp t =>
      simp only [knownS] at h
      split at h
      · rename_i hm
        rw [ih h, Bool.and_true]
        have : t ∉ dv.map (·.1) := fun hh => by rw [hs] at hh; rw [memN_mem.2 hh] at hm; cases hm
        simp only [List.contains_eq_mem, Bool.or_eq_true, Bool.not_eq_true', decide_eq_false_iff_not]
        exact .inl this
      · split at h
        · rename_i hm
          rw [ih h, Bool.and_true]
          have := memN_mem.1 hm
          rw [← hp] at this
          simp only [List.contains_eq_mem, Bool.or_eq_true, decide_eq_true_eq]
          exact .inr this
        · cases h
    | _ => simp only [knownS] at h; rw [ih h]; rfl

theorem knownP_ok {vs : List V} {picked : List Nat} {B : List Nat} (hs : dv.map (·.1) = slots) (hp : (pickD dv B).map (·.1) = picked) : knownP slots picked vs = true → knownR dv B vs = true := by
  induction vs with
  | nil => intro _; rfl
  | cons v r ih =>
    intro h
    simp only [knownP, Bool.and_eq_true] at h
    unfold knownR at ih ⊢
    rw [List.all_cons, ih h.2, Bool.and_true]
    have h1 := h.1
    clear h ih
    generalize v.refs = l at h1
    induction l with
    | nil => rfl
    | cons p l ih =>
      simp only [knownQ, Bool.and_eq_true] at h1
      rw [List.all_cons, ih h1.2, Bool.and_true]
      have h2 := h1.1
      match p, h2 with
      | (t + 2) :: q, h2 =>
        simp only at h2 ⊢
        split at h2
        · rename_i hm
          have : t ∉ dv.map (·.1) := fun hh => by rw [hs] at hh; rw [memN_mem.2 hh] at hm; cases hm
          simp only [List.contains_eq_mem, Bool.or_eq_true, Bool.not_eq_true', decide_eq_false_iff_not]
          exact .inl this
        · have := memN_mem.1 h2
          rw [← hp] at this
          simp only [List.contains_eq_mem, Bool.or_eq_true, decide_eq_true_eq]
          exact .inr this
      | [], _ => rfl
      | [0], _ => rfl
      | [1], _ => rfl
      | 0 :: _ :: _, _ => rfl
      | 1 :: _ :: _, _ => rfl

theorem Vow.noOuts {f : FuncId} {ins : List V} {res : V} {outs : List V} (h : Vow P f ins res outs) : Vow P f ins res [] :=
  ⟨h.1, fun w g args h1 h2 h3 h4 => (h.2 w g args h1 h2 h3 h4).mono fun e w' ⟨c, g', a1, a2, a3, a4, _⟩ => ⟨c, g', a1, a2, a3, a4, by simp⟩⟩

theorem Step.pure2 {d : Nat} {v : V} {E : Env} (B : List Nat) (hclear : ∀ x ∈ dv, e.get x.1 = .un) (hdst : o.dst = some d) (hd : d < k.n) (hE : (e.sets (pickD dv B)).Eqv E) (hv : pureF P E o = some v) : Step P k e dv o d v B := by
  intro e' hat
  refine OpOk.val (v := v) (by rw [hdst]; simpa [dOk] using hd) (fun a w g h => ?_) ?_
  · have h' : Holds k.w0 k.g0 E a w g := (h.less (hat.less hclear)).congr hE
    unfold pureF at hv
    split at hv
    · rename_i t parts ho
      exact build_ok ho hv h'
    · exact valF_ok hv h'
  · rw [hdst]; exact Env.Eqv.refl _

theorem lateB_eq (all : List Oper) (i : Nat) : ∀ (dv : List (Nat × V)) (j : Nat), lateB all i j dv = lateR all i j dv
  | [], _ => rfl
  | x :: r, j => by
    simp only [lateB, lateR, lateB_eq all i r (j + 1)]
    congr 2
    cases hm : reach all i 4 j with
    | true => simp
    | false => simp

theorem pickD_congr {dv dv' : List (Nat × V)} : ∀ {B : List Nat}, (∀ b ∈ B, dv[b]? = dv'[b]?) → pickD dv B = pickD dv' B
  | [], _ => rfl
  | b :: B, h => by
    have ih := pickD_congr (B := B) (fun b hb => h b (List.mem_cons_of_mem _ hb))
    unfold pickD at ih ⊢
    rw [List.filterMap_cons, List.filterMap_cons, h b (List.mem_cons_self ..), ih]

theorem calmX_calm : ∀ {E : Env} {d : Nat}, calmX E d = true → E.calm d = true
  | [], _, _ => rfl
  | (t, v) :: r, d, h => by
    simp only [calmX] at h
    split at h
    · rename_i hv
      have ih := calmX_calm h
      simp only [Env.calm, List.all_cons, Bool.and_eq_true] at ih ⊢
      refine ⟨?_, ih⟩
      clear ih h
      generalize v.refs = l at hv
      induction l with
      | nil => rfl
      | cons p l ih =>
        simp only [allCalmX, Bool.and_eq_true] at hv
        rw [List.all_cons, hv.1, ih hv.2]; rfl
    · cases h

theorem chkB_ok {all : List Oper} : ∀ (m i : Nat) (l : List Oper), chkB all dv e m i l = true → ∀ (j : Nat) (o : Oper), j < m → l[j]? = some o → ∃ d, o.dst = some d ∧
    (makes o = true → (consD (lateR all (i + j) 0 dv) e).freeB d = true) ∧ (∀ f xs ts, o.op = .call { callee := .value (.func f), args := xs, argTypes := ts } → (consD (lateR all (i + j) 0 dv) e).calm d = true)
  | 0, _, _, _, j, _, hj, _ => by omega
  | m + 1, i, [], _, j, o, _, ho => by simp at ho
  | m + 1, i, o' :: r, h, j, o, hj, ho => by
    simp only [chkB, Bool.and_eq_true, lateB_eq] at h
    cases j with
    | zero =>
      simp at ho
      subst ho
      have h1 := h.1
      split at h1
      · rename_i d hd
        refine ⟨d, hd, fun hm => ?_, fun f xs ts hop => ?_⟩
        · unfold makes at hm
          split at h1
          · rename_i hop; simp [hop] at hm
          · exact h1
          · exact h1
          · exact h1
          · exact h1
          · exact h1
          · rename_i a1 a2 a3 a4 a5 a6
            split at hm
            · rename_i hop; exact (a2 _ hop).elim
            · rename_i hop; exact (a3 _ _ hop).elim
            · rename_i hop; exact (a4 _ _ _ hop).elim
            · rename_i hop; exact (a5 _ _ _ hop).elim
            · rename_i hop; exact (a6 _ _ _ hop).elim
            · cases hm
        · rw [hop] at h1
          exact calmX_calm h1
      · cases h1
    | succ j =>
      simp at ho
      have := chkB_ok m (i + 1) r h.2 j o (by omega) ho
      rw [show i + (j + 1) = i + 1 + j by omega]
      exact this

theorem backB_ok : ∀ (l : List Oper) (i : Nat), backB i l = true → ∀ (j : Nat) (o : Oper), l[j]? = some o → ∀ y ∈ before o, y < i + j
  | [], _, _, j, o, ho => by simp at ho
  | o' :: r, i, h, j, o, ho => by
    simp only [backB, Bool.and_eq_true, List.all_eq_true] at h
    cases j with
    | zero => simp at ho; subst ho; intro y hy; simpa [Nat.blt_eq] using h.1 y hy
    | succ j => simp at ho; intro y hy; have := backB_ok r (i + 1) h.2 j o ho y hy; omega

theorem tailB_ok {m : Nat} : ∀ (l : List Oper) (i : Nat), tailB m i l = true → ∀ (j : Nat) (o : Oper), l[j]? = some o → m < i + j → (i + j - 1) ∈ before o
  | [], _, _, j, o, ho => by simp at ho
  | o' :: r, i, h, j, o, ho => by
    simp only [tailB, Bool.and_eq_true] at h
    cases j with
    | zero =>
      simp at ho
      subst ho
      intro hm
      have h1 := h.1
      split at h1
      · exact memN_mem.1 h1
      · rename_i hb
        have : Nat.blt m i = true := by simpa [Nat.blt_eq] using hm
        rw [this] at hb; cases hb
    | succ j =>
      simp at ho
      intro hm
      have := tailB_ok r (i + 1) h.2 j o ho (by omega)
      rw [show i + (j + 1) - 1 = i + 1 + j - 1 by omega]; exact this

theorem coverB_ok {late : List Nat} : ∀ (m : Nat) (S : List Nat), coverB ops.toList late m S = true → coverL late ops m S
  | 0, _, _ => trivial
  | m + 1, S, h => by
    simp only [coverB] at h
    split at h
    · rename_i o h1 h2
      refine .inl ⟨memN_mem.1 h1, fun o' ho' => ?_⟩
      rw [Array.getElem?_toList, ho'] at h2
      cases h2
      exact coverB_ok m _ h
    · split at h
      · rename_i hl
        exact .inr ⟨memN_mem.1 hl, coverB_ok m _ h⟩
      · cases h

theorem tmpsB_mem {t : Nat} : ∀ {l : List Operand}, t ∈ tmpsB l ↔ t ∈ l.filterMap (fun | .tmp t => some t | _ => none)
  | [] => by simp [tmpsB]
  | x :: r => by
    have ih := tmpsB_mem (t := t) (l := r)
    cases x <;> simp [tmpsB, ih]
theorem looksB_mem {t : Nat} {o : Oper} (h : t ∈ o.looksAt ops) : t ∈ looksB ops.toList o := by
  unfold Oper.looksAt at h
  unfold looksB
  rcases List.mem_append.1 h with h | h
  · exact List.mem_append.2 (.inl (tmpsB_mem.2 h))
  · refine List.mem_append.2 (.inr ?_)
    split at h
    · rename_i g w hg
      rw [hg]
      simp only
      cases hq : ops[g]? with
      | none => simp [hq] at h
      | some o' =>
        rw [Array.getElem?_toList, hq]
        simp only
        cases hd : o'.dst with
        | none => simp [hq, hd] at h
        | some d => simpa [hq, hd] using h
    · simp at h
theorem apartB_ok {x y : Oper} (h : apartB ops.toList x y = true) : x.apart ops y = true := by
  unfold apartB at h
  unfold Oper.apart
  simp only [Bool.and_eq_true] at h ⊢
  obtain ⟨h1, h2⟩ := h
  refine ⟨?_, ?_⟩
  · split
    · rename_i d hd
      rw [hd] at h1
      simp only [Bool.and_eq_true, Bool.not_eq_true'] at h1 ⊢
      refine ⟨?_, ?_⟩
      · cases hc : (y.looksAt ops).contains d with
        | false => rfl
        | true =>
          have := looksB_mem (List.contains_iff_mem.1 hc)
          rw [memN_mem.2 this] at h1
          cases h1.1
      · cases hy : y.dst with
        | none => rfl
        | some d' =>
          have h3 := h1.2
          rw [hy] at h3
          simp only [Bool.not_eq_true', nbeq, decide_eq_false_iff_not] at h3
          simpa using h3
    · rfl
  · split
    · rename_i d hd
      rw [hd] at h2
      simp only [Bool.not_eq_true'] at h2 ⊢
      cases hc : (x.looksAt ops).contains d with
      | false => rfl
      | true =>
        have := looksB_mem (List.contains_iff_mem.1 hc)
        rw [memN_mem.2 this] at h2
        cases h2
    · rfl
theorem lateAll_ok {j : Nat} {o : Oper} : ∀ (l : List Oper) (i : Nat), lateAll ops.toList j o i l = true → ∀ (n : Nat) (oi : Oper), l[n]? = some oi → i + n ≠ j → (i + n) ∈ before o ∨ j ∈ before oi ∨ o.apart ops oi = true
  | [], _, _, n, oi, hn, _ => by simp at hn
  | x :: r, i, h, n, oi, hn, hne => by
    simp only [lateAll, Bool.and_eq_true, Bool.or_eq_true] at h
    cases n with
    | zero =>
      simp at hn
      subst hn
      rcases h.1 with ((h | h) | h) | h
      · exact (hne (by simpa using Nat.eq_of_beq_eq_true h)).elim
      · exact .inl (memN_mem.1 h)
      · exact .inr (.inl (memN_mem.1 h))
      · exact .inr (.inr (apartB_ok h))
    | succ n =>
      simp at hn
      have := lateAll_ok r (i + 1) h.2 n oi hn (by omega)
      rwa [show i + 1 + n = i + (n + 1) by omega] at this
theorem lateL_ok {all : List Oper} : ∀ (l : List Oper) (i : Nat) (j : Nat), j ∈ lateL all i l → ∃ o, i ≤ j ∧ l[j - i]? = some o ∧ lateKind o = true ∧ lateAll all j o 0 all = true
  | [], _, j, h => by simp [lateL] at h
  | o :: r, i, j, h => by
    simp only [lateL] at h
    have hrec : j ∈ lateL all (i + 1) r → ∃ o', i ≤ j ∧ (o :: r)[j - i]? = some o' ∧ lateKind o' = true ∧ lateAll all j o' 0 all = true := by
      intro h
      obtain ⟨o', h1, h2, h3⟩ := lateL_ok r (i + 1) j h
      refine ⟨o', by omega, ?_, h3⟩
      rw [show j - i = (j - (i + 1)) + 1 by omega, List.getElem?_cons_succ]
      exact h2
    split at h
    · rename_i hk
      rcases List.mem_cons.1 h with rfl | h
      · simp only [Bool.and_eq_true] at hk
        exact ⟨o, Nat.le_refl _, by simp, hk.1, hk.2⟩
      · exact hrec h
    · exact hrec h
theorem noSelB_ok : ∀ {l : List Oper}, noSelB l = true → ∀ (j : Nat) (o : Oper) cs b, l[j]? = some o → o.op ≠ .select cs b
  | [], _, j, o, cs, b, h => by simp at h
  | x :: r, hn, j, o, cs, b, h => by
    simp only [noSelB] at hn
    split at hn
    · cases hn
    · rename_i hx
      cases j with
      | zero => simp at h; subst h; exact hx _ _
      | succ j => simp at h; exact noSelB_ok hn j o cs b h

/-- It gives the same in every world. -/
theorem late_ok {E : Env} {w0 w : World} {g0 g : Gh} {a : Act} {v : V} (hk : lateKind o = true) (hv : valF P E o = some v) (h : Holds w0 g0 E a w g) : ∃ c, (∀ w', (execOp a.eval o).run P w' = .ok (.value c) w') ∧ ∀ ρ, RepS w g ρ v c := by
  obtain ⟨c, hr, hrep⟩ := valF_ok hv h
  refine ⟨c, fun w' => ?_, hrep⟩
  unfold lateKind at hk
  split at hk
  · cases hk
  have hbin : ∀ (op : BinOp) (t : TypeId) (x y : Operand) (t2 : TypeId), (op = .add ∨ op = .sub ∨ op = .mul) → o.op = .binOp op t x y t2 → (execOp a.eval o).run P w' = .ok (.value c) w' := by
    intro op t x y t2 hop ho
    unfold valF at hv
    rw [ho] at hv
    simp only at hv
    have hb : binV op (E.rd x) (E.rd y) = some v := by
      split at hv
      · unfold eqB at hv; rcases hop with rfl | rfl | rfl <;> (split at hv <;> simp_all)
      · unfold eqS at hv; rcases hop with rfl | rfl | rfl <;> (split at hv <;> (try split at hv) <;> (try split at hv) <;> simp_all)
      · exact hv
    have key : ∀ (cx cy : Value), (∀ w g ρ, RepS w g ρ (E.rd x) cx) → (∀ w g ρ, RepS w g ρ (E.rd y) cy) → a.eval x = cx → a.eval y = cy → (∀ w g w2 g2 ρ c1 c2, RepS w g ρ v c1 → RepS w2 g2 ρ v c2 → c1 = c2) → (execOp a.eval o).run P w' = .ok (.value c) w' := by
      intro cx cy hx hy ex ey hu
      have run : ∀ w', ∃ u, (execOp a.eval o).run P w' = .ok (.value u) w' ∧ ∀ ρ, RepS w' g ρ v u := by
        intro w'
        obtain ⟨u, h1, h2⟩ := binV_ok (P := P) (t := t) (hx w' g []) (hy w' g []) hb
        have hg := guard_ok (P := P) (t := t) (op := op) (ox := x) (oy := y) (hx w' g []) (hy w' g []) (.inl ⟨_, hb⟩)
        refine ⟨u, ?_, h2⟩
        simp only [execOp, ho, ex, ey]
        simp [hg, h1]
      obtain ⟨u, h1, h2⟩ := run w'
      rw [h1, hu w' g w g [] u c (h2 []) (hrep [])]
    cases hx : E.rd x <;> rw [hx] at hb key <;> (try (simp [binV] at hb; done))
    · cases hy : E.rd y <;> rw [hy] at hb key <;> (try (simp [binV] at hb; done))
      rename_i k n k' m
      have e1 := (hx ▸ h.rd x []).i_inv
      have e2 := (hy ▸ h.rd y []).i_inv
      refine key _ _ (fun w g ρ => RepS.i_mk w g ρ k n) (fun w g ρ => RepS.i_mk w g ρ k' m) e1 e2 (fun w g w2 g2 ρ c1 c2 h1 h2 => ?_)
      have : ∃ z, v = .i k z := by
        rcases hop with rfl | rfl | rfl <;> (simp only [binV] at hb; split at hb <;> simp [binI] at hb; exact ⟨_, hb.symm⟩)
      obtain ⟨z, rfl⟩ := this
      rw [h1.i_inv, h2.i_inv]
    · cases hy : E.rd y <;> rw [hy] at hb key <;> (try (simp [binV] at hb; done))
      rename_i l m
      have e1 := (hx ▸ h.rd x []).s_inv
      have e2 := (hy ▸ h.rd y []).s_inv
      refine key _ _ (fun w g ρ => RepS.s_mk w g ρ l) (fun w g ρ => RepS.s_mk w g ρ m) e1 e2 (fun w g w2 g2 ρ c1 c2 h1 h2 => ?_)
      have : ∃ z, v = .s z := by
        rcases hop with rfl | rfl | rfl
        · simp only [binV] at hb; split at hb <;> simp at hb; exact ⟨_, hb.symm⟩
        · simp [binV] at hb
        · simp [binV] at hb
      obtain ⟨z, rfl⟩ := this
      rw [h1.s_inv, h2.s_inv]
  split at hk
  · rename_i x i ho
    simp only [execOp, ho] at hr ⊢
    cases hx : a.eval x <;> simp [Instr.extract, hx] at hr ⊢
    rename_i vs
    cases hq : vs[i]? <;> simp [hq] at hr ⊢
    exact hr
  · rename_i x ho
    simp only [execOp, ho] at hr ⊢
    simpa using hr
  · rename_i x ho
    simp only [execOp, ho] at hr ⊢
    simpa using hr
  · rename_i t x y t2 ho; exact hbin _ _ _ _ _ (.inl rfl) ho
  · rename_i t x y t2 ho; exact hbin _ _ _ _ _ (.inr (.inl rfl)) ho
  · rename_i t x y t2 ho; exact hbin _ _ _ _ _ (.inr (.inr rfl)) ho
  · cases hk

theorem mem_set {e : Env} {d : Nat} {v : V} {q : Nat × V} (h : q ∈ e.set d v) : q = (d, v) ∨ q ∈ e := by
  induction e with
  | nil => simp [Env.set] at h; exact .inl h
  | cons p r ih =>
    obtain ⟨t, x⟩ := p
    simp only [Env.set] at h
    split at h
    · rename_i ht
      subst ht
      rcases List.mem_cons.1 h with h | h
      · exact .inl h
      · exact .inr (List.mem_cons_of_mem _ h)
    · rcases List.mem_cons.1 h with h | h
      · exact .inr (by rw [h]; exact List.mem_cons_self ..)
      · exact (ih h).imp id (List.mem_cons_of_mem _)

theorem mem_sets : ∀ (l : List (Nat × V)) (e : Env) (q : Nat × V), q ∈ e.sets l → q ∈ l ∨ q ∈ e
  | [], _, _, h => .inr h
  | (d, v) :: r, e, q, h => by
    simp only [Env.sets] at h
    rcases mem_sets r _ q h with h | h
    · exact .inl (List.mem_cons_of_mem _ h)
    · rcases mem_set h with h | h
      · exact .inl (by rw [h]; exact List.mem_cons_self ..)
      · exact .inr h

theorem mem_consD : ∀ (l : List (Nat × V)) (e : Env) (q : Nat × V), q ∈ l ∨ q ∈ e → q ∈ consD l e
  | [], _, _, h => h.resolve_left (by simp)
  | x :: r, e, q, h => by
    simp only [consD]
    refine mem_consD r _ q ?_
    rcases h with h | h
    · rcases List.mem_cons.1 h with rfl | h
      · exact .inr (List.mem_cons_self ..)
      · exact .inl h
    · exact .inr (List.mem_cons_of_mem _ h)

theorem slots_eq {all : List Oper} (hf : Facts P n all e slots dv) : ∀ (_ : dv.length ≤ all.length), dv.map (·.1) = slotsOf dv.length all := by
  intro hlen
  unfold slotsOf
  have : ∀ (m : Nat), m ≤ dv.length → (dv.take m).map (·.1) = (all.take m).filterMap (·.dst) := by
    intro m
    induction m with
    | zero => intro _; simp
    | succ m ih =>
      intro hm
      have h1 : dv[m]? = some dv[m] := List.getElem?_eq_getElem (by omega)
      have h2 : all[m]? = some all[m] := List.getElem?_eq_getElem (by omega)
      have h3 := (hf.op m _ _ h2 h1).1
      rw [List.take_add_one, List.take_add_one, h1, h2, List.map_append, List.filterMap_append, ih (by omega)]
      simp [h3]
  have := this dv.length (Nat.le_refl _)
  rwa [List.take_length] at this

theorem wipe_get (e : Env) : ∀ (l : List Oper) (t : Nat), (wipe e l).get t = .un ∨ ((wipe e l).get t = e.get t ∧ ∀ o ∈ l, tgt o ≠ some t)
  | [], t => .inr ⟨rfl, by simp⟩
  | o :: r, t => by
    simp only [wipe]
    split
    · rename_i d hd
      simp only [Env.get]
      by_cases hdt : d = t
      · left; simp [hdt]
      · rw [if_neg hdt]
        rcases wipe_get e r t with h | ⟨h1, h2⟩
        · exact .inl h
        · refine .inr ⟨h1, fun o' ho' => ?_⟩
          rcases List.mem_cons.1 ho' with rfl | ho'
          · rw [hd]; simpa using hdt
          · exact h2 o' ho'
    · rename_i hd
      rcases wipe_get e r t with h | ⟨h1, h2⟩
      · exact .inl h
      · refine .inr ⟨h1, fun o' ho' => ?_⟩
        rcases List.mem_cons.1 ho' with rfl | ho'
        · rw [hd]; simp
        · exact h2 o' ho'

/-- What an operation of such a region gives. -/
inductive Q3 (P : Program) (eB e : Env) (dv : List (Nat × V)) (o : Oper) (d : Nat) (v : V) : Prop
  | pure (hd : o.dst = some d) (h : pureF P (consD (pickD dv (before o)) eB) o = some v)
  | store (t : Nat) (x : Operand) (cs : List V) (ho : o.op = .store t (.tmp d) x) (hd : o.dst = none) (hs : e.get d = .bx cs) (h : storeBx P t cs ((consD (pickD dv (before o)) eB).rd x) = some v)

structure Facts3 (P : Program) (n : Nat) (all : List Oper) (eB e : Env) (dv : List (Nat × V)) : Prop where
  nodup : (dv.map (·.1)).Nodup
  op : ∀ (i : Nat) (o : Oper) (x : Nat × V), all[i]? = some o → dv[i]? = some x → o.guard = none ∧ tgt o = some x.1 ∧ x.1 < n ∧ (∀ j ∈ before o, j < i) ∧ Q3 P eB e dv o x.1 x.2

theorem storeBxK_ok {t : Nat} {cs : List V} {v : V} {κ : V → Prop} (hT : T.ok P) (h : storeBxK T o e t cs v κ) : ∃ u, storeBx P t cs v = some u ∧ κ u := by
  unfold storeBxK at h
  split at h
  · rename_i d hd
    obtain ⟨hti, _, _, hcells, _⟩ := TT.look_ok hT hd
    split at h
    · cases h
    · rename_i hb
      split at h
      · rename_i h1 h2 h3 h4
        rw [setCellsK_iff, V.forceL_iff] at h
        refine ⟨_, ?_, h⟩
        unfold storeBx
        rw [hti, hcells]
        split
        · rename_i hb2; exact (hb hb2).elim
        · rw [if_pos ⟨lenIs_iff h1, by simpa using h2, h3, lenGe_iff h4⟩]
      · cases h
  · cases h

theorem op3K_ok {eB : Env} {d : Nat} {κ : V → Prop} (hT : T.ok P) (ht : tgt o = some d) (h : op3K T (consD (pickD dv (before o)) eB) e o κ) : ∃ v, Q3 P eB e dv o d v ∧ κ v := by
  unfold op3K at h
  have hdst : ∀ {d'}, o.dst = some d' → o.dst = some d := fun hd => by
    unfold tgt at ht
    rw [hd] at ht
    rw [hd, ← ht]
  split at h
  · rename_i t s x ho
    split at h
    · rename_i hd
      have hsd : s = d := by
        unfold tgt at ht
        rw [hd, ho] at ht
        simpa using ht
      subst hsd
      rw [Env.getK_iff] at h
      split at h
      · rename_i cs hcs
        rw [Env.rdK_iff] at h
        obtain ⟨u, hu, h⟩ := storeBxK_ok hT h
        exact ⟨u, .store t x cs ho hd hcs hu, h⟩
      · cases h
    · cases h
  · rename_i t parts ho
    split at h
    · rename_i d' hd
      obtain ⟨v, hv, h⟩ := buildK_ok hT h
      exact ⟨v, .pure (hdst hd) (by simp only [pureF, ho]; exact hv), h⟩
    · cases h
  · rename_i hns hnb
    split at h
    · rename_i d' hd
      obtain ⟨v, hv, h⟩ := valK_ok hT h
      refine ⟨v, .pure (hdst hd) ?_, h⟩
      unfold pureF
      split
      · rename_i t parts ho; exact (hnb t parts ho).elim
      · exact hv
    · cases h

theorem Q3.more {eB : Env} {d : Nat} {v : V} {x : Nat × V} (h : Q3 P eB e dv o d v) (hb : ∀ j ∈ before o, j < dv.length) : Q3 P eB e (dv ++ [x]) o d v := by
  cases h with
  | pure hd h => exact .pure hd (by rw [pickD_more hb]; exact h)
  | store t x cs ho hd hs h => exact .store t x cs ho hd hs (by rw [pickD_more hb]; exact h)

theorem draw3K_ok {all : List Oper} {eB : Env} (hT : T.ok P) : ∀ (r : List Oper) (dv : List (Nat × V)) (κ : List (Nat × V) → Prop), draw3K T n eB e r dv κ → all.drop dv.length = r → Facts3 P n all eB e dv → dv.length ≤ all.length →
    ∃ dv', κ dv' ∧ dv'.length = all.length ∧ Facts3 P n all eB e dv'
  | [], dv, κ, h, hr, hf, hl => ⟨dv, h, by
      have := congrArg List.length hr
      simp at this
      omega, hf⟩
  | o :: r, dv, κ, h, hr, hf, hl => by
    have ho : all[dv.length]? = some o := by
      have : (all.drop dv.length)[0]? = some o := by rw [hr]; rfl
      simpa using this
    have hlt := (List.getElem?_eq_some_iff.1 ho).1
    have hr' : ∀ x, all.drop (dv ++ [x]).length = r := by
      intro x
      rw [List.length_append, List.length_singleton, ← List.drop_drop, hr]
      rfl
    simp only [draw3K] at h
    split at h
    · rename_i d hg ht
      split at h
      · rename_i h1 h2 h3
        have hm : d ∉ dv.map (·.1) := fun hh => by rw [memN_mem.2 hh] at h1; cases h1
        have hn : d < n := by simpa [Nat.blt_eq] using h2
        have hb := ltAll_mem h3
        rw [pickK'_iff, consK_iff] at h
        obtain ⟨v, hv, h⟩ := op3K_ok hT ht h
        rw [V.force_iff, snocK_iff] at h
        refine draw3K_ok hT r _ κ h (hr' _) ⟨?_, fun i o' x ho' hx => ?_⟩ (by simp; omega)
        · rw [List.map_append, List.map_cons, List.map_nil, List.nodup_append]
          refine ⟨hf.nodup, by simp, ?_⟩
          intro a ha b hb' hab
          simp at hb'
          subst hab
          subst hb'
          exact hm ha
        · by_cases hi : i < dv.length
          · rw [List.getElem?_append_left hi] at hx
            obtain ⟨k1, k2, k3, k4, k5⟩ := hf.op i o' x ho' hx
            exact ⟨k1, k2, k3, k4, k5.more (fun j hj => Nat.lt_trans (k4 j hj) hi)⟩
          · have hlen : i = dv.length := by
              have := (List.getElem?_eq_some_iff.1 hx).1
              simp at this
              omega
            subst hlen
            rw [ho] at ho'
            cases ho'
            simp at hx
            subst hx
            exact ⟨hg, ht, hn, hb, hv.more hb⟩
      · cases h
    · cases h

theorem drawP3_ok {id : Nat} {Q : Exit → Env → Prop} {κ : Env → Prop} (hT : T.ok P) (hpins : ∀ o ∈ ops.toList, dstOk k.pins o = true) (h : drawP3 T k.n ops.toList e κ) (hq : ∀ e, κ e → JL P k ops [] e Q) : J P k (.region id ops true) e Q := by
  unfold drawP3 at h
  obtain ⟨dv, h, hlen, hf⟩ := draw3K_ok (all := ops.toList) hT _ [] _ h rfl ⟨List.nodup_nil, by simp⟩ (by simp)
  rw [consK_iff] at h
  have hB : ∀ t, (wipe e ops.toList).get t = .un ∨ ((wipe e ops.toList).get t = e.get t ∧ ∀ x ∈ dv, x.1 ≠ t) := by
    intro t
    rcases wipe_get e ops.toList t with h | ⟨h1, h2⟩
    · exact .inl h
    · refine .inr ⟨h1, fun x hx => ?_⟩
      obtain ⟨j, hj⟩ := List.getElem?_of_mem hx
      have hjl := (List.getElem?_eq_some_iff.1 hj).1
      have hoj : ops.toList[j]? = some ops.toList[j] := List.getElem?_eq_getElem (by omega)
      obtain ⟨_, k2, _⟩ := hf.op j _ x hoj hj
      intro hxt
      exact h2 _ (List.getElem_mem _) (by rw [k2, hxt])
  refine J.draw3 (dv := dv) (TT.mixed hT) ⟨by simpa using hlen, hf.nodup, fun i o x ho hx => ?_, fun i o ho b hb => ?_⟩ (JL.congr (consD_eqv dv e) (hq _ h))
  · have ho' : ops.toList[i]? = some o := by rw [Array.getElem?_toList]; exact ho
    obtain ⟨k1, k2, k3, k4, k5⟩ := hf.op i o x ho' hx
    refine ⟨k1, hpins o (List.mem_of_getElem? ho'), ?_⟩
    have hE := consD_eqv (pickD dv (before o)) (wipe e ops.toList)
    cases k5 with
    | pure hd hp =>
      intro e' hat
      refine OpOk.val (v := x.2) (by rw [hd]; simpa [dOk] using k3) (fun a w g h => ?_) (by rw [hd]; exact Env.Eqv.refl _)
      have h' : Holds k.w0 k.g0 (consD (pickD dv (before o)) (wipe e ops.toList)) a w g := (h.less (hat.less hB)).congr hE
      unfold pureF at hp
      split at hp
      · rename_i t parts ho; exact build_ok ho hp h'
      · exact valF_ok hp h'
    | store t y cs hop hd hs hv =>
      exact Step3.store hB hop hd hx hs (by rw [rd_eqv hE]; exact hv)
  · have ho' : ops.toList[i]? = some o := by rw [Array.getElem?_toList]; exact ho
    have hil := (List.getElem?_eq_some_iff.1 ho').1
    exact (hf.op i o _ ho' (List.getElem?_eq_getElem (show i < dv.length by omega))).2.2.2.1 b hb

theorem drawP_ok {id : Nat} {Q : Exit → Env → Prop} {κ : Env → Prop} (hT : T.ok P) (hpe : ops.toList.all (dstOk k.pins) = true) (h : drawP P T k.n ops.toList e κ) (hq : ∀ e, κ e → JL P k ops [] e Q) : J P k (.region id ops true) e Q := by
  unfold drawP at h
  have hpins : ∀ o ∈ ops.toList, dstOk k.pins o = true := List.all_eq_true.1 hpe
  split at h
  · rename_i h1 h2 h3 h4
    obtain ⟨late, h3, hlate⟩ : ∃ late : List Nat, tail0B ops.toList late (freeN e ops.toList) = true ∧ ∀ j ∈ late, j ∈ lateL ops.toList 0 ops.toList := by
      split at h3
      · rename_i ht; exact ⟨[], ht, fun j hj => by cases hj⟩
      · exact ⟨_, h3, fun j hj => hj⟩
    obtain ⟨dv, h, hlen, hf⟩ := drawK_ok (all := ops.toList) hT _ _ [] _ h rfl ⟨List.nodup_nil, by simp, by simp⟩
    simp only [List.length_nil, Nat.zero_add] at hlen
    split at h
    · rename_i hchk
      rw [consK_iff] at h
      have hE := consD_eqv dv e
      have hfree : freeN e ops.toList ≤ ops.toList.length := by
        generalize ops.toList = l
        induction l with
        | nil => simp [freeN]
        | cons o r ih => simp only [freeN]; split <;> simp <;> omega
      have hsz : dv.length ≤ ops.toList.length := by omega
      have hslots := slots_eq hf hsz
      rw [hlen] at hslots
      have hbefore : ∀ (i : Nat) (o : Oper), ops[i]? = some o → ∀ b ∈ before o, b < i := fun i o ho b hb => by
        have := backB_ok _ 0 h1 i o (by rw [Array.getElem?_toList]; exact ho) b hb
        omega
      have hJ : J P k (.region id ops true) e (fun x e => x = Exit.normal ∧ κ e) := by
       refine J.draw2 (dv := dv) (late := late) (TT.mixed hT) ⟨by simpa using hsz, hf.nodup, hf.clear, fun i o x ho hx => ?_, fun i o ho y hy hya => ?_, fun i o ho hi => ?_, fun o ho => ?_, fun j hj o x ho hx => ?_, fun j o cs b ho => noSelB_ok h4 j o cs b (by rw [Array.getElem?_toList]; exact ho)⟩ (fun c e hq => by cases hq.1) ?_
       · have ho' : ops.toList[i]? = some o := by rw [Array.getElem?_toList]; exact ho
         obtain ⟨k1, k2, k3, k4⟩ := hf.op i o x ho' hx
         have hi := (List.getElem?_eq_some_iff.1 hx).1
         obtain ⟨d, c1, c2, c3⟩ := chkB_ok _ 0 _ hchk i o (by omega) ho'
         rw [k1] at c1
         cases c1
         rw [Nat.zero_add] at c2 c3
         have hbk : ∀ b ∈ before o, ∀ x', dv[b]? = some x' → (lateR ops.toList i 0 dv)[b]? = some x' := by
           intro b hb x' hx'
           rw [lateR_get, hx', Option.map_some, Nat.zero_add, if_neg (fun hr => by have := reach_lt hbefore 4 b hr; have := hbefore i o ho b hb; omega)]
         have hpick : pickD (lateR ops.toList i 0 dv) (before o) = pickD dv (before o) := by
           refine pickD_congr (fun b hb => ?_)
           obtain ⟨x', hx'⟩ : ∃ x', dv[b]? = some x' := ⟨_, List.getElem?_eq_getElem (by have := k3 b hb; omega)⟩
           rw [hbk b hb x' hx', hx']
         have hnodL : ((lateR ops.toList i 0 dv).map (·.1)).Nodup := by rw [lateR_map]; exact hf.nodup
         have hclL : ∀ y ∈ lateR ops.toList i 0 dv, e.get y.1 = .un := by
           intro y hy
           have : y.1 ∈ dv.map (·.1) := by rw [← lateR_map ops.toList i dv 0]; exact List.mem_map.2 ⟨y, hy, rfl⟩
           obtain ⟨z, hz, hzy⟩ := List.mem_map.1 this
           rw [← hzy]; exact hf.clear z hz
         have hslL : (lateR ops.toList i 0 dv).map (·.1) = slotsOf (freeN e ops.toList) ops.toList := by rw [lateR_map]; exact hslots
         have sets_cons : ∀ q ∈ e.sets (lateR ops.toList i 0 dv), q ∈ consD (lateR ops.toList i 0 dv) e := fun q hq => mem_consD _ e q (mem_sets _ e q hq)
         refine ⟨hpins o (List.mem_of_getElem? ho'), k1, k2, before o, fun j hj => hj, fun e' hat => ?_⟩
         have hjd : ∀ (j s : Nat) (y : V), j ∈ before o → dv[j]? = some (s, y) → (ops[j]?).bind (·.dst) = some s ∧ e'.get s = y := by
           intro j s y hj hy
           have hjo : ∃ o', ops.toList[j]? = some o' := ⟨_, List.getElem?_eq_getElem (by have := (List.getElem?_eq_some_iff.1 hy).1; omega)⟩
           obtain ⟨o', ho'2⟩ := hjo
           have := (hf.op j o' _ ho'2 hy).1
           rw [Array.getElem?_toList] at ho'2
           exact ⟨by rw [ho'2]; exact this, hat.has j hj _ (hbk j hj _ hy)⟩
         rcases k4 with ⟨hrun, hfact⟩ | ⟨hskip, hv⟩
         · left
           constructor
           · intro a w hs
             rcases hrun with hg | ⟨j, want, s, hg, hj, hy⟩
             · exact wanted_none hg a
             · obtain ⟨d1, d2⟩ := hjd j s _ hj hy
               rw [wanted_b hg d1 d2 hs]; simp
           · have hEp := consD_eqv (pickD dv (before o)) e
             cases hfact with
             | pure hp => exact Step.pure2 (before o) hclL k1 k2 (by rw [hpick]; exact hEp) hp e' hat
             | new hm hk hnw =>
               refine Step.new (before o) hnodL hm k1 k2 ?_ (knownS_ok hslL (by rw [hpick]) hk) ?_ e' hat
               · have := Env.freeB_eq (c2 hm)
                 rw [refs_free] at this ⊢
                 exact fun q hq => this q (sets_cons q hq)
               · rw [← hnw, hpick]
                 refine newF_congr (fun y _ => rd_eqv hEp y) ?_
                 unfold makes at hm
                 split at hm <;> first | trivial | cases hm
             | call f xs ts hop hk hp ins outs hi2 hvow hqt =>
               have hrd : xs.toList.map (e.sets (pickD dv (before o))).rd = xs.toList.map (consD (pickD dv (before o)) e).rd := List.map_congr_left (fun y _ => rd_eqv hEp y)
               refine Step.call (before o) hnodL hop k1 k2 ?_ (knownS_ok hslL (by rw [hpick]) hk) (by rw [hpick]; exact hrd) (knownP_ok hslL (by rw [hpick]) hp) ?_ hvow.noOuts hqt e' hat
               · have := c3 f xs ts hop
                 unfold Env.calm at this ⊢
                 rw [List.all_eq_true] at this ⊢
                 exact fun q hq => this q (sets_cons q hq)
               · rw [← hi2, hpick]
                 exact passAll_congr _ 0 (fun u _ r _ => hEp.at r)
         · right
           refine ⟨fun a w hs => ?_, hv⟩
           obtain ⟨j, want, s, hg, hj, hy⟩ := hskip
           rcases hy with hy | hy
           · obtain ⟨d1, d2⟩ := hjd j s _ hj hy
             rw [wanted_b hg d1 d2 hs]; cases want <;> rfl
           · obtain ⟨d1, d2⟩ := hjd j s _ hj hy
             exact wanted_tp hg d1 d2 hs
       · exact hbefore i o ho _ (by simp only [before, List.mem_map, List.mem_filter]; exact ⟨y, ⟨hy, hya⟩, rfl⟩)
       · have := tailB_ok _ 0 h2 i o (by rw [Array.getElem?_toList]; exact ho) (by omega)
         rwa [Nat.zero_add] at this
       · unfold tail0B at h3
         rw [← hlen] at h3
         rw [Array.getElem?_toList, ho] at h3
         exact coverB_ok _ _ h3
       · obtain ⟨o', _, ho', hk1, hk2⟩ := lateL_ok _ 0 j (hlate j hj)
         rw [Nat.sub_zero, Array.getElem?_toList, ho] at ho'
         cases ho'
         have hot : ops.toList[j]? = some o := by rw [Array.getElem?_toList]; exact ho
         refine ⟨fun i oi hoi hij => ?_, fun e' hat a w hs => ?_⟩
         · have := lateAll_ok ops.toList 0 hk2 i oi (by rw [Array.getElem?_toList]; exact hoi) (by omega)
           rwa [Nat.zero_add] at this
         · obtain ⟨k1, k2, k3, k4⟩ := hf.op j o x hot hx
           have hg : o.guard = none := by unfold lateKind at hk1; split at hk1 <;> simp_all
           have hclL : ∀ y ∈ lateR ops.toList j 0 dv, e.get y.1 = .un := by
             intro y hy
             have : y.1 ∈ dv.map (·.1) := by rw [← lateR_map ops.toList j dv 0]; exact List.mem_map.2 ⟨y, hy, rfl⟩
             obtain ⟨z, hz, hzy⟩ := List.mem_map.1 this
             rw [← hzy]; exact hf.clear z hz
           have hbk : ∀ b ∈ before o, ∀ x', dv[b]? = some x' → (lateR ops.toList j 0 dv)[b]? = some x' := by
             intro b hb x' hx'
             rw [lateR_get, hx', Option.map_some, Nat.zero_add, if_neg (fun hr => by have := reach_lt hbefore 4 b hr; have := hbefore j o ho b hb; omega)]
           have hpick : pickD (lateR ops.toList j 0 dv) (before o) = pickD dv (before o) := by
             refine pickD_congr (fun b hb => ?_)
             have hjl := (List.getElem?_eq_some_iff.1 hx).1
             obtain ⟨x', hx'⟩ : ∃ x', dv[b]? = some x' := ⟨_, List.getElem?_eq_getElem (by have := k3 b hb; omega)⟩
             rw [hbk b hb x' hx', hx']
           have hpv : valF P (consD (pickD dv (before o)) e) o = some x.2 := by
             rcases k4 with ⟨_, hfact⟩ | ⟨⟨j', want, s, hg', _⟩, _⟩
             · cases hfact with
               | pure hp =>
                 unfold pureF at hp
                 split at hp
                 · rename_i t parts hop
                   unfold lateKind at hk1
                   rw [hg, hop] at hk1
                   cases hk1
                 · exact hp
               | new hm _ _ =>
                 unfold lateKind at hk1
                 unfold makes at hm
                 rw [hg] at hk1
                 split at hm <;> simp_all
               | call f xs ts hop =>
                 unfold lateKind at hk1
                 rw [hg, hop] at hk1
                 cases hk1
             · rw [hg] at hg'; cases hg'
           obtain ⟨g, hh⟩ := hs.holds
           have hE2 := consD_eqv (pickD dv (before o)) e
           have hh2 : Holds k.w0 k.g0 (consD (pickD dv (before o)) e) a w g := (hh.less (hat.less hclL)).congr (by rw [hpick]; exact hE2)
           obtain ⟨c, hrun, hrep⟩ := late_ok hk1 hpv hh2
           refine ⟨c, .inl ⟨wanted_none hg a, hrun⟩, ?_⟩
           have := hs.setd hh (show dOk k.n o.dst = true by rw [k1]; simpa [dOk] using k2) (fun t _ => hrep [t + 2])
           rwa [k1] at this ⊢
       · rw [← hlen] at h
         refine JL.congr hE (opsK_ok hT _ _ _ ?_ h (fun e he => JL.nil ⟨rfl, he⟩))
         rw [List.all_eq_true]
         intro o ho
         exact hpins o (by first | exact ho | exact List.mem_of_mem_drop ho)
      intro a w hs
      exact wp_mono (hJ a w hs) (fun x a w hx => by
        obtain ⟨e, ⟨rfl, hκ⟩, hs⟩ := hx
        exact hq e hκ a w hs)
    · cases h
  · exact drawP3_ok hT hpins h hq

end
end Go.Vx

namespace Go.Vx
open Go Go.RowKit Go.Great

/-- The slot that an append takes over. -/
def takesS (o : Oper) : Option Nat :=
  match o.op with
  | .call { callee := .builtin .append, args, .. } => match args.toList with
    | [.tmp s, _] => some s
    | _ => none
  | _ => none
def idxS (s : Nat) : Nat → List Oper → Option Nat
  | _, [] => none
  | i, o :: r => match o.dst with
    | some d => match Nat.beq d s with
      | true => some i
      | false => idxS s (i + 1) r
    | none => idxS s (i + 1) r
def takes (all : List Oper) (o : Oper) : Option Nat :=
  match takesS o with
  | some s => idxS s 0 all
  | none => none
def conGo (all : List Oper) (j : Nat) : Nat → List Oper → Option Nat
  | _, [] => none
  | i, o :: r => match takes all o with
    | some j' => match Nat.beq j' j with
      | true => some i
      | false => conGo all j (i + 1) r
    | none => conGo all j (i + 1) r
def conOf (all : List Oper) (j : Nat) : Option Nat := conGo all j 0 all
def okB5 (all : List Oper) (i j : Nat) : Bool := match conOf all j with
  | none => true
  | some c => Nat.beq c i
def pk5 (all : List Oper) (i : Nat) : List Nat → List Nat
  | [] => []
  | j :: r => match okB5 all i j with
    | true => j :: pk5 all i r
    | false => pk5 all i r
theorem pk5_mem {all : List Oper} {i j : Nat} : ∀ {B : List Nat}, j ∈ pk5 all i B → j ∈ B ∧ (conOf all j = none ∨ conOf all j = some i)
  | [], h => by simp [pk5] at h
  | b :: r, h => by
    simp only [pk5] at h
    split at h
    · rename_i hb
      rcases List.mem_cons.1 h with rfl | h
      · refine ⟨List.mem_cons_self .., ?_⟩
        unfold okB5 at hb
        split at hb
        · rename_i hc; exact .inl hc
        · rename_i c hc; rw [hc, Nat.eq_of_beq_eq_true hb]; exact .inr rfl
      · exact ⟨List.mem_cons_of_mem _ (pk5_mem h).1, (pk5_mem h).2⟩
    · exact ⟨List.mem_cons_of_mem _ (pk5_mem h).1, (pk5_mem h).2⟩
theorem conGo_some {all : List Oper} {j : Nat} : ∀ {l : List Oper} {i c : Nat}, conGo all j i l = some c → ∃ o, i ≤ c ∧ l[c - i]? = some o ∧ takes all o = some j
  | [], _, _, h => by simp [conGo] at h
  | o :: r, i, c, h => by
    have hrec : conGo all j (i + 1) r = some c → ∃ o', i ≤ c ∧ (o :: r)[c - i]? = some o' ∧ takes all o' = some j := by
      intro h
      obtain ⟨o', h1, h2, h3⟩ := conGo_some h
      refine ⟨o', by omega, ?_, h3⟩
      rw [show c - i = (c - (i + 1)) + 1 by omega, List.getElem?_cons_succ]
      exact h2
    simp only [conGo] at h
    split at h
    · rename_i j' hj
      split at h
      · rename_i hb
        cases h
        exact ⟨o, Nat.le_refl _, by simp, by rw [hj, Nat.eq_of_beq_eq_true hb]⟩
      · exact hrec h
    · exact hrec h
theorem conOf_some {all : List Oper} {j c : Nat} (h : conOf all j = some c) : ∃ o, all[c]? = some o ∧ takes all o = some j := by
  obtain ⟨o, _, h2, h3⟩ := conGo_some h
  exact ⟨o, by simpa using h2, h3⟩
theorem idxS_some {s : Nat} : ∀ {l : List Oper} {i j : Nat}, idxS s i l = some j → ∃ o, i ≤ j ∧ l[j - i]? = some o ∧ o.dst = some s
  | [], _, _, h => by simp [idxS] at h
  | o :: r, i, j, h => by
    have hrec : idxS s (i + 1) r = some j → ∃ o', i ≤ j ∧ (o :: r)[j - i]? = some o' ∧ o'.dst = some s := by
      intro h
      obtain ⟨o', h1, h2, h3⟩ := idxS_some h
      refine ⟨o', by omega, ?_, h3⟩
      rw [show j - i = (j - (i + 1)) + 1 by omega, List.getElem?_cons_succ]
      exact h2
    simp only [idxS] at h
    split at h
    · rename_i d hd
      split at h
      · rename_i hb
        cases h
        exact ⟨o, Nat.le_refl _, by simp, by rw [hd, Nat.eq_of_beq_eq_true hb]⟩
      · exact hrec h
    · exact hrec h

/-- What an append makes, where its base is a row that it takes over and its source is nobody's to write. -/
def app5 (P : Program) (E : Env) (s : Nat) (x : Operand) (t t2 : TypeId) : Option V :=
  match tinfo P t with
  | .slice el z nb => match E.get s, E.rd x with
    | .ow z' xs, .sl ys => if z' = z ∧ 0 < z ∧ srcTy P t2 = true ∧ (zeroC P el).map List.length = some z ∧ (V.allW z ys = true ∧ V.allFlat ys = true) ∧ (xs.length + ys.length) * nb ≤ 140737488355328 ∧ xs.length + ys.length ≤ 140737488355328
      then some (.ow z (xs ++ ys)) else none
    | _, _ => none
  | _ => none
theorem app5_F {P : Program} {E e' : Env} {s : Nat} {x : Operand} {t t2 : TypeId} {v : V} (h : app5 P E s x t t2 = some v) (hs : ∀ z xs, E.get s = .ow z xs → e'.get s = .ow z xs) (hx : ∀ ys, E.rd x = .sl ys → e'.rd x = .sl ys) :
    appF P e' [.tmp s, x] [t, t2] = some (e'.putAt [s + 2] .un, v) := by
  unfold app5 at h
  split at h
  · rename_i el z nb ht
    split at h
    · rename_i z' xs ys h1 h2
      split at h
      · rename_i hc
        cases h
        obtain ⟨rfl, c2, c3, c4, c5, c6, c7⟩ := hc
        have hg := hs _ _ h1
        have hr := hx _ h2
        have hrs : e'.rd (.tmp s) = .al [s + 2] := by simp [Env.rd, hg, V.view]
        have hat : e'.at [s + 2] = some (.ow z' xs) := by simp [Env.at, hg, V.sub]
        simp only [appF, ht, hr, srcOf, Env.row]
        rw [if_pos c5]
        simp only
        rw [if_pos ⟨c2, c3, c4⟩, hrs]
        simp only [hat]
        rw [if_pos ⟨trivial, c6, c7⟩]
      · cases h
    · cases h
  · cases h

def app5K (T : TT) (E : Env) (o : Oper) (s : Nat) (x : Operand) (t t2 : Nat) (κ : V → Prop) : Prop :=
  match T.look t, T.look t2 with
  | some dt, some dt2 => match dt.ti with
    | .slice el z nb => match T.look el with
      | some de => match de.zs with
        | some zs => match lenIs zs z, Nat.blt 0 z, (match dt2.ti with
            | .str | .slice _ _ _ => true
            | _ => false) with
          | true, true, true => E.getK s fun u => match u with
            | .ow z' xs => match Nat.beq z' z with
              | true => E.rdK x fun vx => match vx with
                | .sl ys => Ob (V.allW z ys = true ∧ V.allFlat ys = true) (Ob ((xs.length + ys.length) * nb ≤ 140737488355328 ∧ xs.length + ys.length ≤ 140737488355328) (κ (.ow z (xs ++ ys))))
                | _ => Stuck o E 340
              | false => Stuck o E 341
            | _ => Stuck o E 342
          | _, _, _ => Stuck o E 343
        | none => Stuck o E 344
      | none => Stuck o E 345
    | _ => Stuck o E 346
  | _, _ => Stuck o E 347

def op5K (T : TT) (E : Env) (all : List Oper) (i : Nat) (o : Oper) (κ : V → Prop) : Prop :=
  match takesS o with
  | some _ => match takes all o with
    | some j => match conOf all j with
      | some c => match Nat.beq c i, o.op with
        | true, .call { callee := .builtin .append, args, argTypes } => match args.toList, argTypes.toList with
          | [.tmp s, x], [t, t2] => app5K T E o s x t t2 κ
          | _, _ => Stuck o E 350
        | _, _ => Stuck o E 351
      | none => Stuck o E 352
    | none => Stuck o E 353
  | none => match makes o with
    | true => match reads o with
      | [] => newK T E o κ
      | _ => Stuck o E 354
    | false => match o.op with
      | .build t parts => buildK T E t parts.toList κ
      | _ => valK T E o κ

def draw5K (T : TT) (n : Nat) (e : Env) (all : List Oper) : Nat → List Oper → List (Nat × V) → (List (Nat × V) → Prop) → Prop
  | 0, _, dv, κ => κ dv
  | _ + 1, [], _, _ => StuckC e 355
  | m + 1, o :: r, dv, κ => match o.guard, o.dst with
    | none, some d => match memN d (dv.map (·.1)), Nat.blt d n, ltAll dv.length (before o) with
      | false, true, true => e.getK d fun u => match u with
        | .un => pickK' dv (pk5 all dv.length (before o)) fun l => consK l e fun E => op5K T E all dv.length o fun v => V.force v fun v => snocK dv (d, v) fun dv => draw5K T n e all m r dv κ
        | _ => Stuck o e 356
      | _, _, _ => Stuck o e 357
    | _, _ => Stuck o e 358

def free5 (e : Env) (o : Oper) : Bool :=
  match o.guard, o.dst with
  | none, some d => (match o.op with
    | .assign _ => false
    | _ => true) && (e.get d).isUn
  | _, _ => false
def free5N (e : Env) : List Oper → Nat
  | [] => 0
  | o :: r => match free5 e o with
    | true => free5N e r + 1
    | false => 0
def conbB (all : List Oper) : List Oper → Bool
  | [] => true
  | o :: r => (match takes all o with
    | some j => memN j (before o)
    | none => true) && conbB all r
def noTake (all : List Oper) : List Oper → Bool
  | [] => true
  | o :: r => match takes all o with
    | some _ => false
    | none => noTake all r
def chk5 (all : List Oper) (dv : List (Nat × V)) (e : Env) : Nat → Nat → List Oper → Bool
  | 0, _, _ => true
  | _ + 1, _, [] => true
  | m + 1, i, o :: r => (match o.dst with
    | some d => match makes o, takesS o with
      | false, none => true
      | _, some s => (consD (lateB all i 0 dv) e).freeB d && !(Nat.beq s d)
      | true, none => (consD (lateB all i 0 dv) e).freeB d
    | none => false) && chk5 all dv e m (i + 1) r

def drawP5 (P : Program) (T : TT) (n : Nat) (all : List Oper) (e : Env) (κ : Env → Prop) : Prop :=
  match backB 0 all, tailB (free5N e all) 0 all, tail0B all [] (free5N e all), conbB all all, noTake all (all.drop (free5N e all)) with
  | true, true, true, true, true => draw5K T n e all (free5N e all) all [] fun dv => match chk5 all dv e (free5N e all) 0 all with
    | true => consK (conD (conOf all) 0 dv) e fun E => opsK P T n all (all.drop (free5N e all)) E κ
    | false => StuckC (consD dv e) 359
  | _, _, _, _, _ => StuckC e 360

section
variable {P : Program} {T : TT} {n : Nat} {e : Env} {o : Oper} {k : Ctx} {ops : Array Oper} {dv : List (Nat × V)}

inductive F5 (P : Program) (e : Env) (dv : List (Nat × V)) (all : List Oper) (i : Nat) (o : Oper) (v : V) : Prop
  | pure (h : takesS o = none) (hm : makes o = false) (hp : pureF P (consD (pickD dv (pk5 all i (before o))) e) o = some v)
  | new (h : takesS o = none) (hm : makes o = true) (hr : reads o = []) (hn : newF P (consD (pickD dv (pk5 all i (before o))) e) o = some v)
  | app (s : Nat) (x : Operand) (t t2 : TypeId) (j : Nat) (args : Array Operand) (ts : Array TypeId) (ho : o.op = .call { callee := .builtin .append, args := args, argTypes := ts }) (ha : args.toList = [.tmp s, x]) (ht : ts.toList = [t, t2])
      (hj : takes all o = some j) (hc : conOf all j = some i) (hv : app5 P (consD (pickD dv (pk5 all i (before o))) e) s x t t2 = some v)

theorem app5K_ok {E : Env} {s : Nat} {x : Operand} {t t2 : Nat} {κ : V → Prop} (hT : T.ok P) (h : app5K T E o s x t t2 κ) : ∃ v, app5 P E s x t t2 = some v ∧ κ v := by
  unfold app5K at h
  split at h
  · rename_i dt dt2 hdt hdt2
    have hti := (TT.look_ok hT hdt).1
    have hti2 := (TT.look_ok hT hdt2).1
    split at h
    · rename_i el z nb hs
      split at h
      · rename_i de hde
        obtain ⟨_, _, hz, _⟩ := TT.look_ok hT hde
        split at h
        · rename_i zs hzs
          split at h
          · rename_i h1 h2 h3
            have hsrc : srcTy P t2 = true := by
              simp only [srcTy, hti2]
              exact h3
            have hzl : (zeroC P el).map List.length = some z := by rw [hz, hzs, Option.map_some, lenIs_iff h1]
            have h2' : 0 < z := by simpa [Nat.blt_eq] using h2
            rw [Env.getK_iff] at h
            split at h
            · rename_i z' xs hu
              split at h
              · rename_i hzz
                rw [Env.rdK_iff] at h
                split at h
                · rename_i ys hx
                  cases h with
                  | mk c5 h => cases h with
                    | mk hob h =>
                      refine ⟨_, ?_, h⟩
                      simp only [app5, hti, hs, hu, hx]
                      rw [if_pos ⟨Nat.eq_of_beq_eq_true hzz, h2', hsrc, hzl, c5, hob.1, hob.2⟩]
                · cases h
              · cases h
            · cases h
          · cases h
        · cases h
      · cases h
    · cases h
  · cases h

theorem op5K_ok {all : List Oper} {i : Nat} {κ : V → Prop} (hT : T.ok P) (h : op5K T (consD (pickD dv (pk5 all i (before o))) e) all i o κ) : ∃ v, F5 P e dv all i o v ∧ κ v := by
  unfold op5K at h
  split at h
  · rename_i s hs
    split at h
    · rename_i j hj
      split at h
      · rename_i c hc
        split at h
        · rename_i args ts hci ho
          have hci := Nat.eq_of_beq_eq_true hci
          subst hci
          split at h
          · rename_i s' x t t2 ha ht
            obtain ⟨v, hv, h⟩ := app5K_ok hT h
            exact ⟨v, .app s' x t t2 j args ts ho ha ht hj hc hv, h⟩
          · cases h
        · cases h
      · cases h
    · cases h
  · rename_i hs
    split at h
    · rename_i hm
      split at h
      · rename_i hr
        obtain ⟨v, hv, h⟩ := newK_ok hT h
        exact ⟨v, .new hs hm hr hv, h⟩
      · cases h
    · rename_i hm
      split at h
      · rename_i t parts ho
        obtain ⟨v, hv, h⟩ := buildK_ok hT h
        exact ⟨v, .pure hs hm (by simp only [pureF, ho]; exact hv), h⟩
      · rename_i hnb
        obtain ⟨v, hv, h⟩ := valK_ok hT h
        refine ⟨v, .pure hs hm ?_, h⟩
        unfold pureF
        split
        · rename_i t parts ho; exact (hnb t parts ho).elim
        · exact hv

structure Facts5 (P : Program) (n : Nat) (all : List Oper) (e : Env) (dv : List (Nat × V)) : Prop where
  nodup : (dv.map (·.1)).Nodup
  clear : ∀ x ∈ dv, e.get x.1 = .un
  op : ∀ (i : Nat) (o : Oper) (x : Nat × V), all[i]? = some o → dv[i]? = some x → o.guard = none ∧ o.dst = some x.1 ∧ x.1 < n ∧ (∀ j ∈ before o, j < i) ∧ F5 P e dv all i o x.2

theorem F5.more {all : List Oper} {i : Nat} {x : Nat × V} {v : V} (h : F5 P e dv all i o v) (hb : ∀ j ∈ before o, j < dv.length) : F5 P e (dv ++ [x]) all i o v := by
  have hp : pickD (dv ++ [x]) (pk5 all i (before o)) = pickD dv (pk5 all i (before o)) := pickD_more (fun j hj => hb j (pk5_mem hj).1)
  cases h with
  | pure h hm hv => exact .pure h hm (by rw [hp]; exact hv)
  | new h hm hr hn => exact .new h hm hr (by rw [hp]; exact hn)
  | app s y t t2 j args ts ho ha ht hj hc hv => exact .app s y t t2 j args ts ho ha ht hj hc (by rw [hp]; exact hv)

theorem draw5K_ok {all : List Oper} (hT : T.ok P) : ∀ (m : Nat) (r : List Oper) (dv : List (Nat × V)) (κ : List (Nat × V) → Prop), draw5K T n e all m r dv κ → all.drop dv.length = r → Facts5 P n all e dv →
    ∃ dv', κ dv' ∧ dv'.length = dv.length + m ∧ Facts5 P n all e dv'
  | 0, _, dv, κ, h, _, hf => ⟨dv, h, rfl, hf⟩
  | m + 1, [], dv, κ, h, _, _ => by simp only [draw5K] at h; cases h
  | m + 1, o :: r, dv, κ, h, hr, hf => by
    have ho : all[dv.length]? = some o := by
      have : (all.drop dv.length)[0]? = some o := by rw [hr]; rfl
      simpa using this
    have hr' : ∀ x, all.drop (dv ++ [x]).length = r := by
      intro x
      rw [List.length_append, List.length_singleton, ← List.drop_drop, hr]
      rfl
    simp only [draw5K] at h
    split at h
    · rename_i d hg hd
      split at h
      · rename_i h1 h2 h3
        have hm : d ∉ dv.map (·.1) := fun hh => by rw [memN_mem.2 hh] at h1; cases h1
        have hn : d < n := by simpa [Nat.blt_eq] using h2
        have hb := ltAll_mem h3
        rw [Env.getK_iff] at h
        split at h
        · rename_i hc
          rw [pickK'_iff, consK_iff] at h
          obtain ⟨v, hv, h⟩ := op5K_ok hT h
          rw [V.force_iff, snocK_iff] at h
          have hF : Facts5 P n all e (dv ++ [(d, v)]) := by
            refine ⟨?_, ?_, ?_⟩
            · rw [List.map_append, List.map_cons, List.map_nil, List.nodup_append]
              refine ⟨hf.nodup, by simp, ?_⟩
              intro a ha b hb' hab
              simp at hb'
              subst hab
              subst hb'
              exact hm ha
            · intro x hx
              rcases List.mem_append.1 hx with hx | hx
              · exact hf.clear x hx
              · simp at hx; subst hx; exact hc
            · intro i o' x ho' hx
              by_cases hi : i < dv.length
              · rw [List.getElem?_append_left hi] at hx
                obtain ⟨a1, a2, a3, a4, a5⟩ := hf.op i o' x ho' hx
                exact ⟨a1, a2, a3, a4, a5.more (fun j hj => Nat.lt_trans (a4 j hj) hi)⟩
              · have hlen : i = dv.length := by
                  have := (List.getElem?_eq_some_iff.1 hx).1
                  simp at this
                  omega
                subst hlen
                rw [ho] at ho'
                cases ho'
                simp at hx
                subst hx
                exact ⟨hg, hd, hn, hb, hv.more hb⟩
          obtain ⟨dv', k1, k2, k3⟩ := draw5K_ok hT m r _ κ h (hr' _) hF
          exact ⟨dv', k1, by rw [k2]; simp; omega, k3⟩
        · cases h
      · cases h
    · cases h

theorem conbB_ok {all : List Oper} : ∀ {l : List Oper}, conbB all l = true → ∀ (i : Nat) (o : Oper), l[i]? = some o → ∀ j, takes all o = some j → j ∈ before o
  | [], _, i, o, ho => by simp at ho
  | x :: r, h, i, o, ho => by
    simp only [conbB, Bool.and_eq_true] at h
    cases i with
    | zero =>
      simp at ho
      subst ho
      intro j hj
      have h1 := h.1
      rw [hj] at h1
      exact memN_mem.1 h1
    | succ i => simp at ho; exact conbB_ok h.2 i o ho
theorem noTake_ok {all : List Oper} : ∀ {l : List Oper}, noTake all l = true → ∀ (i : Nat) (o : Oper), l[i]? = some o → takes all o = none
  | [], _, i, o, ho => by simp at ho
  | x :: r, h, i, o, ho => by
    simp only [noTake] at h
    split at h
    · cases h
    · rename_i hx
      cases i with
      | zero => simp at ho; subst ho; exact hx
      | succ i => simp at ho; exact noTake_ok h i o ho
theorem chk5_ok {all : List Oper} : ∀ (m i : Nat) (l : List Oper), chk5 all dv e m i l = true → ∀ (j : Nat) (o : Oper), j < m → l[j]? = some o → ∃ d, o.dst = some d ∧
    (makes o = true ∨ (∃ s, takesS o = some s) → (consD (lateR all (i + j) 0 dv) e).freeB d = true) ∧ (∀ s, takesS o = some s → s ≠ d)
  | 0, _, _, _, j, _, hj, _ => by omega
  | m + 1, i, [], _, j, o, _, ho => by simp at ho
  | m + 1, i, o' :: r, h, j, o, hj, ho => by
    simp only [chk5, Bool.and_eq_true, lateB_eq] at h
    cases j with
    | zero =>
      simp at ho
      subst ho
      have h1 := h.1
      split at h1
      · rename_i d hd
        refine ⟨d, hd, ?_⟩
        split at h1
        · rename_i hm hs
          refine ⟨fun hh => ?_, fun s hs' => by rw [hs] at hs'; cases hs'⟩
          rcases hh with hh | ⟨s, hh⟩
          · rw [hm] at hh; cases hh
          · rw [hs] at hh; cases hh
        · rename_i s hs
          simp only [Bool.and_eq_true, Bool.not_eq_true', nbeq, decide_eq_false_iff_not] at h1
          exact ⟨fun _ => h1.1, fun s' hs' => by rw [hs] at hs'; cases hs'; exact h1.2⟩
        · rename_i hm hs
          exact ⟨fun _ => h1, fun s hs' => by rw [hs] at hs'; cases hs'⟩
      · cases h1
    | succ j =>
      simp at ho
      have := chk5_ok m (i + 1) r h.2 j o (by omega) ho
      rw [show i + (j + 1) = i + 1 + j by omega]
      exact this

theorem takesS_app {args : Array Operand} {ts : Array TypeId} {s : Nat} {x : Operand} (ho : o.op = .call { callee := .builtin .append, args := args, argTypes := ts }) (ha : args.toList = [.tmp s, x]) : takesS o = some s := by
  unfold takesS
  rw [ho]
  simp only [ha]

theorem free_set {E : Env} {d t : Nat} (h : E.free d = true) : (E.set t .un).free d = true := by
  rw [refs_free] at h ⊢
  intro q hq r hr
  rcases mem_set hq with rfl | hq
  · simp [V.refs] at hr
  · exact h q hq r hr

theorem drawP5_ok {id : Nat} {Q : Exit → Env → Prop} {κ : Env → Prop} (hT : T.ok P) (hpe : ops.toList.all (dstOk k.pins) = true) (h : drawP5 P T k.n ops.toList e κ) (hq : ∀ e, κ e → JL P k ops [] e Q) : J P k (.region id ops true) e Q := by
  unfold drawP5 at h
  have hpins : ∀ o ∈ ops.toList, dstOk k.pins o = true := List.all_eq_true.1 hpe
  split at h
  · rename_i h1 h2 h3 h4 h5
    obtain ⟨dv, h, hlen, hf⟩ := draw5K_ok (all := ops.toList) hT _ _ [] _ h rfl ⟨List.nodup_nil, by simp, by simp⟩
    simp only [List.length_nil, Nat.zero_add] at hlen
    split at h
    · rename_i hchk
      rw [consK_iff] at h
      have hfree : free5N e ops.toList ≤ ops.toList.length := by
        generalize ops.toList = l
        induction l with
        | nil => simp [free5N]
        | cons o r ih => simp only [free5N]; split <;> simp <;> omega
      have hsz : dv.length ≤ ops.toList.length := by omega
      have hbefore : ∀ (i : Nat) (o : Oper), ops[i]? = some o → ∀ b ∈ before o, b < i := fun i o ho b hb => by
        have := backB_ok _ 0 h1 i o (by rw [Array.getElem?_toList]; exact ho) b hb
        omega
      have hslot : ∀ (j s : Nat) (o' : Oper) (y : Nat × V), ops.toList[j]? = some o' → dv[j]? = some y → o'.dst = some s → y.1 = s := by
        intro j s o' y ho' hy hs
        have := (hf.op j o' y ho' hy).2.1
        rw [this] at hs
        exact Option.some.inj hs
      refine J.draw5 (dv := dv) (con := conOf ops.toList) (TT.mixed hT) ⟨by simpa using hsz, hf.nodup, hf.clear, fun i o x ho hx => ?_, fun j i o hc ho => ?_, fun j i hc => ?_, fun i o ho y hy hya => ?_, fun i o ho hi => ?_, fun o ho => ?_⟩ ?_
      · have ho' : ops.toList[i]? = some o := by rw [Array.getElem?_toList]; exact ho
        obtain ⟨k1, k2, k3, k4, k5⟩ := hf.op i o x ho' hx
        have hi := (List.getElem?_eq_some_iff.1 hx).1
        obtain ⟨d, c1, c2, c3⟩ := chk5_ok _ 0 _ hchk i o (by omega) ho'
        rw [k2] at c1
        cases c1
        rw [Nat.zero_add] at c2
        have hbk : ∀ b ∈ before o, ∀ x', dv[b]? = some x' → (lateR ops.toList i 0 dv)[b]? = some x' := by
          intro b hb x' hx'
          rw [lateR_get, hx', Option.map_some, Nat.zero_add, if_neg (fun hr => by have := reach_lt hbefore 4 b hr; have := hbefore i o ho b hb; omega)]
        have hpick : pickD (lateR ops.toList i 0 dv) (pk5 ops.toList i (before o)) = pickD dv (pk5 ops.toList i (before o)) := by
          refine pickD_congr (fun b hb => ?_)
          have hb := (pk5_mem hb).1
          obtain ⟨x', hx'⟩ : ∃ x', dv[b]? = some x' := ⟨_, List.getElem?_eq_getElem (by have := k4 b hb; omega)⟩
          rw [hbk b hb x' hx', hx']
        have hnodL : ((lateR ops.toList i 0 dv).map (·.1)).Nodup := by rw [lateR_map]; exact hf.nodup
        have hclL : ∀ y ∈ lateR ops.toList i 0 dv, e.get y.1 = .un := by
          intro y hy
          have : y.1 ∈ dv.map (·.1) := by rw [← lateR_map ops.toList i dv 0]; exact List.mem_map.2 ⟨y, hy, rfl⟩
          obtain ⟨z, hz, hzy⟩ := List.mem_map.1 this
          rw [← hzy]; exact hf.clear z hz
        have sets_cons : ∀ q ∈ e.sets (lateR ops.toList i 0 dv), q ∈ consD (lateR ops.toList i 0 dv) e := fun q hq => mem_consD _ e q (mem_sets _ e q hq)
        have hEp := consD_eqv (pickD dv (pk5 ops.toList i (before o))) e
        have hcon : takesS o = none → ∀ j, conOf ops.toList j ≠ some i := by
          intro ht j hc
          obtain ⟨o2, hc1, hc2⟩ := conOf_some hc
          rw [ho'] at hc1
          cases hc1
          unfold takes at hc2
          rw [ht] at hc2
          cases hc2
        have hplain : takesS o = none → ∀ e', Step P k e (lateR ops.toList i 0 dv) o x.1 x.2 (pk5 ops.toList i (before o)) → AtL e e' (lateR ops.toList i 0 dv) (pk5 ops.toList i (before o)) → OpOk P k.w0 k.g0 k.n o e' (After5 dv (conOf ops.toList) i x e') := by
          intro ht e' hst hat
          refine fun a w hs next Qn hn => hst e' hat a w hs next Qn (fun e'' a' w' he hs' => hn e'' a' w' (fun t => ?_) hs')
          have := he t
          rw [Env.get_set] at this
          refine ⟨fun htx => by rw [this, if_pos htx.symm], fun htx ⟨j, y, hc, _⟩ => (hcon ht j hc).elim, fun htx _ => by rw [this, if_neg (fun h => htx h.symm)]⟩
        refine ⟨k1, hpins o (List.mem_of_getElem? ho'), k2, pk5 ops.toList i (before o), fun j hj => pk5_mem hj, fun e' hat hun => ?_⟩
        cases k5 with
        | pure ht hm hp => exact hplain ht e' (Step.pure2 _ hclL k2 k3 (by rw [hpick]; exact hEp) hp) hat
        | new ht hm hr hnw =>
          refine hplain ht e' (Step.new _ hnodL hm k2 k3 ?_ (by rw [hr]; rfl) ?_) hat
          · have := Env.freeB_eq (c2 (.inl hm))
            rw [refs_free] at this ⊢
            exact fun q hq => this q (sets_cons q hq)
          · rw [← hnw, hpick]
            refine newF_congr (fun y _ => rd_eqv hEp y) ?_
            unfold makes at hm
            split at hm <;> first | trivial | cases hm
        | app s y t t2 j args ts hop ha hts hj hc hv =>
          have htS := takesS_app hop ha
          have hsd := c3 s htS
          have hfr := Env.freeB_eq (c2 (.inr ⟨s, htS⟩))
          have hfr2 : (e.sets (lateR ops.toList i 0 dv)).free x.1 = true := by
            rw [refs_free] at hfr ⊢
            exact fun q hq => hfr q (sets_cons q hq)
          have hcn := hat.canon hnodL
          have hless := hat.less hclL
          rw [hpick] at hless
          have hEl : ∀ t, (consD (pickD dv (pk5 ops.toList i (before o))) e).get t = .un ∨ (consD (pickD dv (pk5 ops.toList i (before o))) e).get t = e'.get t := fun t => by
            rw [← hEp t]; exact hless t
          refine OpOk.eqv hcn.symm ?_
          have happ := app5_F (e' := canon e' (e.sets (lateR ops.toList i 0 dv))) hv (fun z xs hg => by
              rcases hEl s with h | h
              · rw [hg] at h; cases h
              · rw [hcn s, ← h, hg]) (fun ys hg => by
              rw [rd_eqv hcn, rd_up hEl (by rw [hg]; rfl), hg])
          have hput : (canon e' (e.sets (lateR ops.toList i 0 dv))).putAt [s + 2] .un = (canon e' (e.sets (lateR ops.toList i 0 dv))).set s .un := by simp [Env.putAt, V.put]
          have hcf := canon_free (e' := e') hfr2
          refine append_ok hop k2 k3 (by rw [ha, hts]; exact happ) hcf (by rw [hput]; exact free_set hcf) (by rw [hcn x.1, hun]; rfl) (fun u => ?_)
          rw [hput]
          have hju : ∀ (j' : Nat) (y' : Nat × V), conOf ops.toList j' = some i → dv[j']? = some y' → y'.1 = s := by
            intro j' y' hc' hy'
            obtain ⟨o2, hc1, hc2⟩ := conOf_some hc'
            rw [ho'] at hc1
            cases hc1
            unfold takes at hc2
            rw [htS] at hc2
            obtain ⟨o3, _, q2, q3⟩ := idxS_some hc2
            exact hslot j' s o3 y' (by simpa using q2) hy' q3
          have hjx : ∃ j' y', conOf ops.toList j' = some i ∧ dv[j']? = some y' ∧ y'.1 = s := by
            have hjb := conbB_ok h4 i o ho' j hj
            have hjl := k4 j hjb
            exact ⟨j, dv[j], hc, List.getElem?_eq_getElem (by omega), hju j _ hc (List.getElem?_eq_getElem (by omega))⟩
          refine ⟨fun hux => by rw [Env.get_set, if_pos hux.symm], fun hux ⟨j', y', q1, q2, q3⟩ => ?_, fun hux hno => ?_⟩
          · rw [Env.get_set, if_neg (fun h => hux h.symm), Env.get_set, if_pos (by rw [← q3]; exact (hju j' y' q1 q2).symm)]
          · rw [Env.get_set, if_neg (fun h => hux h.symm), Env.get_set, if_neg (fun h => hno (by rw [← h]; exact hjx))]
            exact hcn u
      · obtain ⟨o2, hc1, hc2⟩ := conOf_some hc
        rw [Array.getElem?_toList, ho] at hc1
        cases hc1
        exact conbB_ok h4 i o (by rw [Array.getElem?_toList]; exact ho) j hc2
      · obtain ⟨o2, hc1, hc2⟩ := conOf_some hc
        refine Classical.byContradiction fun hn => ?_
        have := noTake_ok h5 (i - free5N e ops.toList) o2 (by rw [List.getElem?_drop, show free5N e ops.toList + (i - free5N e ops.toList) = i by omega]; exact hc1)
        rw [hc2] at this
        cases this
      · have hb := hbefore i o ho y.on (by simp only [before, List.mem_map, List.mem_filter]; exact ⟨y, ⟨hy, hya⟩, rfl⟩)
        exact hb
      · have := tailB_ok _ 0 h2 i o (by rw [Array.getElem?_toList]; exact ho) (by omega)
        simpa using this
      · unfold tail0B at h3
        rw [← hlen, Array.getElem?_toList, ho] at h3
        exact coverB_ok _ _ h3
      · have hE := consD_eqv (conD (conOf ops.toList) 0 dv) e
        rw [hlen]
        refine JL.congr (fun t => (hE t)) ?_
        refine opsK_ok hT _ _ κ ?_ h hq
        exact List.all_eq_true.2 fun o ho => hpins o (List.mem_of_mem_drop ho)
    · cases h
  · cases h

/-- A drawn region: the elder way where it fits. -/
def drawQ (P : Program) (T : TT) (n : Nat) (all : List Oper) (e : Env) (κ : Env → Prop) : Prop :=
  match tailB (freeN e all) 0 all, noTake all all with
  | false, false => drawP5 P T n all e κ
  | _, _ => drawP P T n all e κ
theorem drawQ_ok {id : Nat} {Q : Exit → Env → Prop} {κ : Env → Prop} (hT : T.ok P) (hpe : ops.toList.all (dstOk k.pins) = true) (h : drawQ P T k.n ops.toList e κ) (hq : ∀ e, κ e → JL P k ops [] e Q) : J P k (.region id ops true) e Q := by
  unfold drawQ at h
  split at h
  · exact drawP5_ok hT hpe h hq
  · exact drawP_ok hT hpe h hq

end
end Go.Vx

namespace Go.Vx
open Go Go.RowKit Go.Great

/-- The same, but that some rows of nothing are now said to be owned. -/
inductive NlLe : V → V → Prop
  | refl (v : V) : NlLe v v
  | nl (z : Nat) : NlLe .nl (.ow z [])
  | ag {cs ds : List V} (hn : cs.length = ds.length) (h : ∀ (i : Nat) (x y : V), cs[i]? = some x → ds[i]? = some y → NlLe x y) : NlLe (.ag cs) (.ag ds)
  | tp {cs ds : List V} (hn : cs.length = ds.length) (h : ∀ (i : Nat) (x y : V), cs[i]? = some x → ds[i]? = some y → NlLe x y) : NlLe (.tp cs) (.tp ds)
  | bx {cs ds : List V} (hn : cs.length = ds.length) (h : ∀ (i : Nat) (x y : V), cs[i]? = some x → ds[i]? = some y → NlLe x y) : NlLe (.bx cs) (.bx ds)
  | ow {z : Nat} {cs ds : List V} (hn : cs.length = ds.length) (h : ∀ (i : Nat) (x y : V), cs[i]? = some x → ds[i]? = some y → NlLe x y) : NlLe (.ow z cs) (.ow z ds)

def NlL (cs ds : List V) : Prop := cs.length = ds.length ∧ ∀ (i : Nat) (x y : V), cs[i]? = some x → ds[i]? = some y → NlLe x y
theorem NlL.nil : NlL [] [] := ⟨rfl, fun i x y h => by simp at h⟩
theorem NlL.cons {x y : V} {cs ds : List V} (h : NlLe x y) (t : NlL cs ds) : NlL (x :: cs) (y :: ds) := by
  refine ⟨by simp [t.1], fun i a b ha hb => ?_⟩
  cases i with
  | zero => simp at ha hb; subst ha; subst hb; exact h
  | succ i => exact t.2 i a b (by simpa using ha) (by simpa using hb)
theorem NlL.refl (cs : List V) : NlL cs cs := ⟨rfl, fun i x y h k => by rw [h] at k; cases k; exact .refl x⟩
theorem NlL.app {cs ds cs' ds' : List V} (h : NlL cs ds) (k : NlL cs' ds') : NlL (cs ++ cs') (ds ++ ds') := by
  refine ⟨by simp [h.1, k.1], fun i x y hx hy => ?_⟩
  by_cases hi : i < cs.length
  · rw [List.getElem?_append_left hi] at hx
    rw [List.getElem?_append_left (by rw [← h.1]; exact hi)] at hy
    exact h.2 i x y hx hy
  · rw [List.getElem?_append_right (by omega)] at hx
    rw [List.getElem?_append_right (by have := h.1; omega), ← h.1] at hy
    exact k.2 _ x y hx hy
theorem NlL.map {α : Type} {f g : α → V} (h : ∀ x, NlLe (f x) (g x)) (l : List α) : NlL (l.map f) (l.map g) := by
  induction l with
  | nil => exact .nil
  | cons x r ih => exact .cons (h x) ih
theorem NlL.rep {x y : V} (h : NlLe x y) (n : Nat) : NlL (List.replicate n x) (List.replicate n y) := by
  induction n with
  | zero => exact .nil
  | succ n ih => simp only [List.replicate_succ]; exact .cons h ih
theorem NlLe.agL {cs ds : List V} (h : NlL cs ds) : NlLe (.ag cs) (.ag ds) := .ag h.1 h.2
theorem NlLe.tpL {cs ds : List V} (h : NlL cs ds) : NlLe (.tp cs) (.tp ds) := .tp h.1 h.2
theorem NlLe.bxL {cs ds : List V} (h : NlL cs ds) : NlLe (.bx cs) (.bx ds) := .bx h.1 h.2
theorem NlLe.owL {z : Nat} {cs ds : List V} (h : NlL cs ds) : NlLe (.ow z cs) (.ow z ds) := .ow h.1 h.2

/-- The places where a row of nothing turns. -/
def NlAt (v v' : V) (y : Path) : Prop := v.sub y = some .nl ∧ ∃ z, v'.sub y = some (.ow z [])

section
variable {w : World} {g g' : Gh}

theorem NlAt.kid {v v' x x' : V} {f : Nat} {y : Path} (h : NlAt x x' y) (h1 : v.kids[f]? = some x) (h2 : v'.kids[f]? = some x') : NlAt v v' (f :: y) := by
  obtain ⟨k1, z, k2⟩ := h
  exact ⟨by simp only [V.sub, h1]; exact k1, z, by simp only [V.sub, h2]; exact k2⟩

structure NlG (g g' : Gh) (v v' : V) (π : Path) : Prop where
  new : ∀ y, NlAt v v' y → g'.vm (π ++ y) = .slice none 0 0
  old : ∀ y u, v.sub y = some u → u.owns = true → g'.vm (π ++ y) = g.vm (π ++ y)

theorem NlG.kid {v v' x x' : V} {π : Path} {f : Nat} (h : NlG g g' v v' π) (h1 : v.kids[f]? = some x) (h2 : v'.kids[f]? = some x') : NlG g g' x x' (π ++ [f]) := by
  refine ⟨fun y hy => ?_, fun y u hu ho => ?_⟩
  · have := h.new (f :: y) (hy.kid h1 h2)
    simpa using this
  · have := h.old (f :: y) u (by simp only [V.sub, h1]; exact hu) ho
    simpa using this

theorem nl_keeps (hl : ∀ b, g'.lab b = g.lab b) : Keeps w g w g' := ⟨Nat.le_refl _, fun b _ hb => ⟨by rw [hl]; exact hb, rfl⟩⟩
theorem nl_live {v v' : V} {π : Path} (hl : ∀ b, g'.lab b = g.lab b) (h : NlG g g' v v' π) : Live w g w g' v π π :=
  ⟨fun q u _ _ b hb => ⟨by rw [hl]; exact hb, rfl⟩, fun q u hu ho => h.old q u hu ho⟩

theorem RepC.nlLe (hl : ∀ b, g'.lab b = g.lab b) {v v' : V} (h : NlLe v v') : ∀ {π : Path} {cs : List Value}, RepC w g (some π) v cs → NlG g g' v v' π → RepC w g' (some π) v' cs := by
  induction h with
  | refl v => intro π cs hr k; exact hr.live rfl (nl_keeps hl) (nl_live hl k)
  | nl z =>
    intro π cs hr k
    cases hr
    exact .ownil (by have := k.new [] ⟨rfl, z, rfl⟩; simpa using this)
  | @ag ks ds hn h ih =>
    intro π cs hr k
    cases hr with
    | ag hn' h' =>
      refine .ag (by omega) (fun f y c hy hc => ?_)
      obtain ⟨x, hx⟩ : ∃ x, ks[f]? = some x := ⟨_, List.getElem?_eq_getElem (by rw [hn]; exact (List.getElem?_eq_some_iff.1 hy).1)⟩
      exact ih f x y hx hy (h' f x c hx hc) (k.kid hx hy)
  | tp => intro π cs hr; cases hr
  | bx => intro π cs hr; cases hr
  | @ow z ks ds hn h ih =>
    intro π cs hr k
    cases hr with
    | ownil hv =>
      obtain rfl : ds = [] := List.eq_nil_of_length_eq_zero (by simpa using hn.symm)
      exact .ownil (by have := k.old [] _ rfl rfl; simp at this; rw [this]; exact hv)
    | ow blk o _ cap cur ty ch hlb hv hb hcap hmax hroom hz hc hr =>
      have h2 := k.old [] _ rfl rfl
      simp at h2
      have := RepC.ow (w := w) (g := g') (xs := ds) blk o _ cap cur ty ch (by rw [hl]; exact hlb) (by rw [h2, hv, hn]) hb (by omega) hmax hroom (fun j hj => hz j (by omega)) (fun j hj => hc j (by omega)) (fun j y hy => by
        obtain ⟨x, hx⟩ : ∃ x, ks[j]? = some x := ⟨_, List.getElem?_eq_getElem (by rw [hn]; exact (List.getElem?_eq_some_iff.1 hy).1)⟩
        exact ih j x y hx hy (hr j x hx) (k.kid hx hy))
      rw [hn]
      exact this

theorem RepO.nlLe (hl : ∀ b, g'.lab b = g.lab b) {v v' : V} (h : NlLe v v') : ∀ {π : Path} {cs : List Value}, RepO w g π v cs → NlG g g' v v' π → (∀ r ∈ v.refs, g'.vm r = g.vm r) → RepO w g' π v' cs := by
  induction h with
  | refl v =>
    intro π cs hr k kr
    have := hr.live (f := fun r => r) (nl_keeps hl) (nl_live hl k) kr
    rw [V.ren_id] at this
    exact this
  | nl z => intro π cs hr k _; cases hr with | c hr => exact .c (hr.nlLe hl (.nl z) k)
  | @ag ks ds hn h ih =>
    intro π cs hr k kr
    cases hr with
    | c hr => exact .c (hr.nlLe hl (.ag hn h) k)
    | ag hn' h' =>
      refine .ag (by omega) (fun f y c hy hc => ?_)
      obtain ⟨x, hx⟩ : ∃ x, ks[f]? = some x := ⟨_, List.getElem?_eq_getElem (by rw [hn]; exact (List.getElem?_eq_some_iff.1 hy).1)⟩
      exact ih f x y hx hy (h' f x c hx hc) (k.kid hx hy) (fun r hr => kr r (V.mem_go hx hr))
  | tp => intro π cs hr; cases hr with | c hr => cases hr
  | @bx ks ds hn h ih =>
    intro π cs hr k kr
    cases hr with
    | c hr => cases hr
    | bx blk cur ty hlb hv hb hn' h' =>
      have h2 := k.old [] _ rfl rfl
      simp at h2
      refine .bx blk cur ty (by rw [hl]; exact hlb) (by rw [h2]; exact hv) hb (by omega) (fun f y c hy hc => ?_)
      obtain ⟨x, hx⟩ : ∃ x, ks[f]? = some x := ⟨_, List.getElem?_eq_getElem (by rw [hn]; exact (List.getElem?_eq_some_iff.1 hy).1)⟩
      exact ih f x y hx hy (h' f x c hx hc) (k.kid hx hy) (fun r hr => kr r (V.mem_go hx hr))
  | ow hn h => intro π cs hr k _; cases hr with | c hr => exact .c (hr.nlLe hl (.ow hn h) k)

theorem RepS.nlLe (hl : ∀ b, g'.lab b = g.lab b) {v v' : V} (h : NlLe v v') : ∀ {π : Path} {c : Value}, RepS w g π v c → NlG g g' v v' π → (∀ r ∈ v.refs, g'.vm r = g.vm r) → RepS w g' π v' c := by
  induction h with
  | refl v =>
    intro π c hr k kr
    have := hr.live (f := fun r => r) (nl_keeps hl) (nl_live hl k) kr
    rw [V.ren_id] at this
    exact this
  | nl z => intro π c hr k kr; cases hr with | one hv hr => exact .one (by simp) (hr.nlLe hl (.nl z) k kr)
  | @ag ks ds hn h ih =>
    intro π c hr k kr
    cases hr with
    | one hv => exact (hv _ rfl).elim
    | agg hr => exact .agg (hr.nlLe hl (.ag hn h) k kr)
  | @tp ks ds hn h ih =>
    intro π c hr k kr
    cases hr with
    | one hv hr => cases hr with | c hr => cases hr
    | tup hn' h' =>
      refine .tup (by omega) (fun f y c hy hc => ?_)
      obtain ⟨x, hx⟩ : ∃ x, ks[f]? = some x := ⟨_, List.getElem?_eq_getElem (by rw [hn]; exact (List.getElem?_eq_some_iff.1 hy).1)⟩
      exact ih f x y hx hy (h' f x c hx hc) (k.kid hx hy) (fun r hr => kr r (V.mem_go hx hr))
  | bx hn h => intro π c hr k kr; cases hr with | one hv hr => exact .one (by simp) (hr.nlLe hl (.bx hn h) k kr)
  | ow hn h => intro π c hr k kr; cases hr with | one hv hr => exact .one (by simp) (hr.nlLe hl (.ow hn h) k kr)

open Classical in
/-- The marks, where the places N now have a row of nothing. -/
noncomputable def Gh.nilAt (g : Gh) (N : Path → Prop) : Gh := ⟨g.lab, fun p => if N p then .slice none 0 0 else g.vm p⟩
theorem Gh.nilAt_in {N : Path → Prop} {p : Path} (h : N p) : (g.nilAt N).vm p = .slice none 0 0 := by simp [Gh.nilAt, h]
theorem Gh.nilAt_out {N : Path → Prop} {p : Path} (h : ¬ N p) : (g.nilAt N).vm p = g.vm p := by simp [Gh.nilAt, h]

/-- A contract's result may be said to own its rows of nothing. -/
theorem Vow.nl {P : Program} {f : Nat} {ins : List V} {res res' : V} {outs : List V} (h : Vow P f ins res outs) (hle : NlLe res res') (hr : res.refs = []) (ho : V.refs.go outs = []) : Vow P f ins res' outs := by
  refine ⟨h.1, fun w g args hi hs hlab hrep => (h.2 w g args hi hs hlab hrep).mono ?_⟩
  rintro e w' ⟨c, g', he, hi', hfr, hres, houts⟩
  have hN : ∀ (x : Nat) (p : Path), x ≠ 1 → ¬ ∃ y, NlAt res res' y ∧ x :: p = 1 :: y := by
    rintro x p hx ⟨y, _, e⟩
    cases e
    exact hx rfl
  refine ⟨c, g'.nilAt (fun p => ∃ y, NlAt res res' y ∧ p = 1 :: y), he, hi', ⟨hfr.os, hfr.tape, hfr.output, hfr.size, hfr.keep, fun p => ?_⟩, ?_, fun j x cj hx hc => ?_⟩
  · rw [Gh.nilAt_out (hN _ _ (by omega))]; exact hfr.vm0 p
  · refine hres.nlLe (g := g') (g' := g'.nilAt (fun p => ∃ y, NlAt res res' y ∧ p = 1 :: y)) (fun _ => rfl) hle ⟨fun y hy => Gh.nilAt_in ⟨y, hy, rfl⟩, fun y u hu hown => Gh.nilAt_out ?_⟩ (fun r hr' => by rw [hr] at hr'; cases hr')
    rintro ⟨y', ⟨k1, _⟩, e⟩
    simp at e
    subst e
    rw [hu] at k1
    cases k1
    cases hown
  · have hx' : ∀ r ∈ x.refs, False := fun r hr' => by
      have := V.mem_go hx hr'
      rw [ho] at this
      cases this
    have := (houts j x cj hx hc).live (f := fun r => r) (w' := w') (g' := g'.nilAt (fun p => ∃ y, NlAt res res' y ∧ p = 1 :: y)) (ρ := [j + 2]) (nl_keeps fun _ => rfl)
      ⟨fun q u _ _ b hb => ⟨hb, rfl⟩, fun q u hu _ => Gh.nilAt_out (hN _ _ (by omega))⟩ (fun r hr' => (hx' r hr').elim)
    rw [V.ren_id] at this
    exact this

/-- Slot by slot the same, but that some rows of nothing are now said to be owned. -/
inductive EnvLe : Env → Env → Prop
  | nil : EnvLe [] []
  | cons {t : Nat} {v v' : V} {e e' : Env} (h : NlLe v v') (k : EnvLe e e') : EnvLe ((t, v) :: e) ((t, v') :: e')

theorem EnvLe.get {e e' : Env} (h : EnvLe e e') (t : Nat) : NlLe (e.get t) (e'.get t) := by
  induction h with
  | nil => exact .refl _
  | cons h k ih => simp only [Env.get]; split <;> assumption
theorem EnvLe.refl : ∀ (e : Env), EnvLe e e
  | [] => .nil
  | (t, v) :: r => .cons (.refl v) (EnvLe.refl r)

/-- Nothing hangs on a row of nothing. -/
def Env.nlFree (e : Env) : Bool := e.all fun q => q.2.refs.all fun p => match e.at p with
  | some .nl => false
  | _ => true

theorem Env.nlFree_ok {e : Env} (h : e.nlFree = true) {t : Nat} {r : Path} (hr : r ∈ (e.get t).refs) : e.at r ≠ some .nl := by
  by_cases hu : e.get t = .un
  · rw [hu] at hr; simp [V.refs] at hr
  · have := List.all_eq_true.1 h _ (Env.mem_get hu)
    have := List.all_eq_true.1 this r hr
    intro hn
    rw [hn] at this
    cases this

theorem Norm.nl {w0 : World} {g0 : Gh} {n : Nat} {e e' : Env} (h : EnvLe e e') (hf : e.nlFree = true) : Norm w0 g0 n e e' := by
  intro a w ⟨⟨g, hi, hfr, hr⟩, hd, hs⟩
  refine ⟨⟨g.nilAt (fun p => ∃ t y, NlAt (e.get t) (e'.get t) y ∧ p = (t + 2) :: y), hi, ⟨hfr.os, hfr.tape, hfr.output, hfr.size, hfr.keep, fun p => ?_⟩, fun t => ?_⟩, hd, hs⟩
  · rw [Gh.nilAt_out]
    · exact hfr.vm0 p
    · rintro ⟨t, y, _, e⟩; cases e
  · refine (hr t).nlLe (g := g) (g' := g.nilAt (fun p => ∃ t y, NlAt (e.get t) (e'.get t) y ∧ p = (t + 2) :: y)) (fun _ => rfl) (h.get t) ⟨fun y hy => Gh.nilAt_in ⟨t, y, hy, rfl⟩, fun y u hu hown => Gh.nilAt_out ?_⟩ (fun r hr' => Gh.nilAt_out ?_)
    · rintro ⟨t', y', ⟨k1, _⟩, e⟩
      simp at e
      obtain ⟨rfl, rfl⟩ := e
      rw [hu] at k1
      cases k1
      cases hown
    · rintro ⟨t', y', ⟨k1, _⟩, rfl⟩
      exact Env.nlFree_ok hf hr' k1
end
end Go.Vx

namespace Go.Vx
open Go Go.RowKit Go.Great

/-! Who owns what, set right at the head of a loop and at the end. -/
/-- The place π becomes the owner of what p owns, step by step. -/
def Env.adoptK (e : Env) (p π : Path) (κ : Env → Prop) : Prop :=
  match p, π with
  | (t + 2) :: q, (s + 2) :: r => match Nat.beq t s with
    | true => κ e
    | false => Env.force (e.shed ((s + 2) :: r).isPrefixOf) fun e => e.atK ((t + 2) :: q) fun u => match u with
      | some (.ow z xs) => e.atK ((s + 2) :: r) fun u => match u with
        | some (.al p') => match natsEq p' ((t + 2) :: q) with
          | true => Env.putQ e ((t + 2) :: q) .un fun e => Env.force (e.ren (renP ((t + 2) :: q) ((s + 2) :: r))) fun e => Env.putQ e ((s + 2) :: r) (.ow z xs) κ
          | false => κ e
        | _ => κ e
      | _ => κ e
  | _, _ => κ e

/-- The place π becomes the owner of what it names, if the one that owns it is not kept. -/
def Env.claimK (L : List Nat) (e : Env) (π : Path) (v : V) (κ : Env → Prop) : Prop :=
  match v with
  | .al (t :: q) => match memN (t - 2) L with
    | true => κ e
    | false => e.adoptK (t :: q) π κ
  | _ => κ e

/-- The slot s becomes the owner of the variable that it names. -/
def Env.adoptBK (e : Env) (t s : Nat) (κ : Env → Prop) : Prop :=
  match Nat.beq t s with
  | true => κ e
  | false => Env.force (e.shed [s + 2].isPrefixOf) fun e => e.getK t fun u => match u with
    | .bx cs => e.getK s fun u => match u with
      | .ad [x] 0 => match Nat.beq x (t + 2) with
        | true => Env.force (e.putAt [t + 2] .un) fun e => Env.force (e.ren (renP [t + 2] [s + 2])) fun e => V.forceL (V.ren.go (renP [t + 2] [s + 2]) cs) fun cs => Env.force (e.putAt [s + 2] (.bx cs)) κ
        | false => κ e
      | _ => κ e
    | _ => κ e

def Env.claimsK (L : List Nat) (s : Nat) : Nat → List V → Env → (Env → Prop) → Prop
  | _, [], e, κ => κ e
  | k, v :: r, e, κ => e.claimK L [s + 2, k] v fun e => Env.claimsK L s (k + 1) r e κ

def Env.claim1K (L : List Nat) (s : Nat) (e : Env) (κ : Env → Prop) : Prop :=
  e.getK s fun v => match v with
    | .al p => e.claimK L [s + 2] (.al p) κ
    | .ad [x] 0 => match memN (x - 2) L with
      | true => κ e
      | false => e.adoptBK (x - 2) s κ
    | .ag cs => e.claimsK L s 0 cs κ
    | .bx cs => e.claimsK L s 0 cs κ
    | _ => κ e

def Env.pickK (e : Env) : List Nat → (Env → Prop) → Prop
  | [], κ => κ []
  | t :: r, κ => e.getK t fun v => e.pickK r fun l => κ ((t, v) :: l)

def Env.settleK (L : List Nat) : List Nat → Env → (Env → Prop) → Prop
  | [], e, κ => e.pickK L κ
  | s :: r, e, κ => e.claim1K L s fun e => Env.settleK L r e κ

inductive LoopP (B : Env → (Exit → Env → Prop) → Prop) (e : Env) (Q : Exit → Env → Prop) : Prop
  | mk {σ : Type} (L : List Nat) (E : σ → Env) (μ : σ → Nat) (I : σ → Prop) (h0 : Env.settleK L L e fun e' => ∃ s, I s ∧ e' = E s)
      (h : ∀ s, I s → B (E s) (thn (fun e' => Env.settleK L L e' fun e'' => ∃ s', I s' ∧ μ s' < μ s ∧ e'' = E s') Q))
  | mkn {σ : Type} (L : List Nat) (E : σ → Env) (μ : σ → Nat) (I : σ → Prop) (h0 : Env.settleK L L e fun e' => ∃ s, I s ∧ EnvLe e' (E s) ∧ e'.nlFree = true)
      (h : ∀ s, I s → B (E s) (thn (fun e' => Env.settleK L L e' fun e'' => ∃ s', I s' ∧ μ s' < μ s ∧ EnvLe e'' (E s') ∧ e''.nlFree = true) Q))

def inBK (id : Nat) (Q : Exit → Env → Prop) : Exit → Env → Prop
  | .exit id', e => match Nat.beq id' id with
    | true => Q .normal e
    | false => Q (.exit id') e
  | x, e => Q x e

def condK (e : Env) (c : Operand) (A B : Prop) : Prop :=
  match c with
  | .tmp u => e.getK u fun v => match v with
    | .b t => Br t A B
    | _ => StuckC e 180
  | .const (.bool t) => Br t A B
  | _ => StuckC e 181

/-- What is asked of the state e for the code to end as Q tells. -/
def dropAt (A : List (Nat × Nat)) (id : Nat) (Q : Env → Prop) (e : Env) : Prop :=
  match A[id]? with
  | some (lo, hi) => match Nat.blt lo hi with
    | true => Env.dropK lo hi [] e Q
    | false => Q e
  | none => Q e

def ev (P : Program) (T : TT) (n : Nat) (A : List (Nat × Nat)) : Code → Env → (Exit → Env → Prop) → Prop
  | .skip, e, Q => Q .normal e
  | .region id ops draw, e, Q => match draw with
    | false => opsK P T n ops.toList ops.toList e (dropAt A id (Q .normal))
    | true => drawQ P T n ops.toList e (dropAt A id (Q .normal))
  | .seq x y, e, Q => ev P T n A x e (thn (fun e => ev P T n A y e Q) Q)
  | .cond c x y, e, Q => condK e c (ev P T n A x e Q) (ev P T n A y e Q)
  | .block id c, e, Q => ev P T n A c e (inBK id Q)
  | .loop c, e, Q => LoopP (fun e Q => ev P T n A c e Q) e Q
  | .exit id, e, Q => Q (.exit id) e
  | .ret, e, Q => Q .ret e
  | _, e, _ => StuckC e 190

/-- No operation of it writes a slot of these. -/
def pinsOk (pins : List Nat) : Code → Bool
  | .region _ ops _ => ops.toList.all (dstOk pins)
  | .seq x y => pinsOk pins x && pinsOk pins y
  | .cond _ x y => pinsOk pins x && pinsOk pins y
  | .block _ c => pinsOk pins c
  | .loop c => pinsOk pins c
  | _ => true

section
variable {P : Program} {T : TT} {n : Nat} {e : Env} {o : Oper} {k : Ctx}

theorem dropAt_ok {A : List (Nat × Nat)} {id : Nat} {q : Env → Prop} (h : dropAt A id q e) : ∃ e', (∀ w0 g0, Norm w0 g0 n e e') ∧ q e' := by
  unfold dropAt at h
  split at h
  · split at h
    · obtain ⟨e', h1, h2⟩ := Env.dropK_ok _ _ _ _ _ (fun t h => by simp [memN] at h) h
      exact ⟨e', fun w0 g0 => Norm.less (fun t => (h1 t).2), h2⟩
    · exact ⟨e, fun _ _ => Norm.refl, h⟩
  · exact ⟨e, fun _ _ => Norm.refl, h⟩

theorem Norm.eqv {w0 : World} {g0 : Gh} {e' : Env} (h : e.Eqv e') : Norm w0 g0 n e e' := Norm.less fun t => .inr (h t).symm

theorem pickL_get (e : Env) (L : List Nat) (t : Nat) : Env.get (L.map fun t => (t, e.get t)) t = .un ∨ Env.get (L.map fun t => (t, e.get t)) t = e.get t := by
  induction L with
  | nil => exact .inl rfl
  | cons s r ih =>
    simp only [List.map_cons, Env.get]
    by_cases h : s = t
    · subst h; simp
    · simp only [h, if_false]; exact ih

theorem pickK_iff (e : Env) : ∀ (L : List Nat) (κ : Env → Prop), e.pickK L κ ↔ κ (L.map fun t => (t, e.get t))
  | [], _ => Iff.rfl
  | t :: r, κ => by simp only [Env.pickK, Env.getK_iff, List.map_cons]; exact pickK_iff e r _

theorem Env.Eqv.ren {e e' : Env} (h : e.Eqv e') (f : Path → Path) : (e.ren f).Eqv (e'.ren f) := by
  intro s
  rw [Env.get_ren, Env.get_ren, h s]

theorem shed_norm {w0 : World} {g0 : Gh} (bad : Path → Bool) : Norm w0 g0 n e (e.shed bad) := Norm.less fun t => by
  rw [Env.get_shed]
  split
  · exact .inl rfl
  · exact .inr rfl

theorem shed_shed {e e1 : Env} {bad : Path → Bool} (h : (e.shed bad).Eqv e1) : (e1.shed bad).Eqv e1 := by
  intro t
  rw [Env.get_shed]
  split
  · rename_i hb
    rw [← h t] at hb
    rw [List.any_eq_true] at hb
    obtain ⟨r, hr, hb⟩ := hb
    have := Env.shed_refs hr
    rw [this] at hb
    cases hb
  · rfl

theorem adoptK_ok {p π : Path} {κ : Env → Prop} (h : e.adoptK p π κ) : ∃ e', (∀ w0 g0, Norm w0 g0 n e e') ∧ κ e' := by
  unfold Env.adoptK at h
  split at h
  · rename_i t q s r
    split at h
    · exact ⟨e, fun _ _ => Norm.refl, h⟩
    · rename_i hts
      obtain ⟨e1, h1, h⟩ := Env.force_ok h
      have hn1 : ∀ w0 g0, Norm w0 g0 n e e1 := fun w0 g0 => (shed_norm _).trans (Norm.eqv h1)
      replace h := Env.atK_of h
      split at h
      · rename_i z xs hu
        replace h := Env.atK_of h
        split at h
        · rename_i p' hw
          split at h
          · rename_i hp
            have hp := natsEq_iff hp
            subst hp
            obtain ⟨e2, h2, h⟩ := Env.putQ_ok h
            obtain ⟨e3, h3, h⟩ := Env.force_ok h
            obtain ⟨e4, h4, h⟩ := Env.putQ_ok h
            have hss := shed_shed h1
            have hts' : ¬ t = s := by
              rw [nbeq] at hts
              simpa using hts
            have hat : e1.adopt ((t + 2) :: q) ((s + 2) :: r) = some ((((e1.shed ((s + 2) :: r).isPrefixOf).putAt ((t + 2) :: q) .un).ren (renP ((t + 2) :: q) ((s + 2) :: r))).putAt ((s + 2) :: r) (.ow z xs)) := by
              unfold Env.adopt
              simp only [hts', if_false]
              rw [hu, hss.at, hw]
              simp
            refine ⟨e4, fun w0 g0 => (hn1 w0 g0).trans ((Norm.adopt hat).trans (Norm.eqv ?_)), h⟩
            have k1 := (hss.putAt ((t + 2) :: q) .un).trans' h2
            have k2 := (k1.ren (renP ((t + 2) :: q) ((s + 2) :: r))).trans' h3
            exact (k2.putAt ((s + 2) :: r) (.ow z xs)).trans' h4
          · exact ⟨e1, hn1, h⟩
        · exact ⟨e1, hn1, h⟩
      · exact ⟨e1, hn1, h⟩
  · exact ⟨e, fun _ _ => Norm.refl, h⟩

theorem adoptBK_ok {t s : Nat} {κ : Env → Prop} (h : e.adoptBK t s κ) : ∃ e', (∀ w0 g0, Norm w0 g0 n e e') ∧ κ e' := by
  unfold Env.adoptBK at h
  split at h
  · exact ⟨e, fun _ _ => Norm.refl, h⟩
  · rename_i hts
    obtain ⟨e1, h1, h⟩ := Env.force_ok h
    have hn1 : ∀ w0 g0, Norm w0 g0 n e e1 := fun w0 g0 => (shed_norm _).trans (Norm.eqv h1)
    rw [Env.getK_iff] at h
    split at h
    · rename_i cs hu
      rw [Env.getK_iff] at h
      split at h
      · rename_i x hw
        split at h
        · rename_i hx
          have hx := Nat.eq_of_beq_eq_true hx
          subst hx
          obtain ⟨e2, h2, h⟩ := Env.force_ok h
          obtain ⟨e3, h3, h⟩ := Env.force_ok h
          rw [V.forceL_iff] at h
          obtain ⟨e4, h4, h⟩ := Env.force_ok h
          have hss := shed_shed h1
          have hts' : ¬ t = s := by
            rw [nbeq] at hts
            simpa using hts
          have hat : e1.adoptB t s = some ((((e1.shed [s + 2].isPrefixOf).putAt [t + 2] .un).ren (renP [t + 2] [s + 2])).putAt [s + 2] (.bx (V.ren.go (renP [t + 2] [s + 2]) cs))) := by
            unfold Env.adoptB
            simp only [hts', if_false]
            rw [hss t, hss s, hu, hw]
            simp
          refine ⟨e4, fun w0 g0 => (hn1 w0 g0).trans ((Norm.adoptB hat).trans (Norm.eqv ?_)), h⟩
          have k1 := (hss.putAt [t + 2] .un).trans' h2
          have k2 := (k1.ren (renP [t + 2] [s + 2])).trans' h3
          exact (k2.putAt [s + 2] (.bx (V.ren.go (renP [t + 2] [s + 2]) cs))).trans' h4
        · exact ⟨e1, hn1, h⟩
      · exact ⟨e1, hn1, h⟩
    · exact ⟨e1, hn1, h⟩

theorem claimK_ok {L : List Nat} {π : Path} {v : V} {κ : Env → Prop} (h : e.claimK L π v κ) : ∃ e', (∀ w0 g0, Norm w0 g0 n e e') ∧ κ e' := by
  unfold Env.claimK at h
  split at h
  · split at h
    · exact ⟨e, fun _ _ => Norm.refl, h⟩
    · exact adoptK_ok h
  · exact ⟨e, fun _ _ => Norm.refl, h⟩

theorem claimsK_ok {L : List Nat} {s : Nat} : ∀ (cs : List V) (i : Nat) (e : Env) (κ : Env → Prop), Env.claimsK L s i cs e κ → ∃ e', (∀ w0 g0, Norm w0 g0 n e e') ∧ κ e'
  | [], _, e, κ, h => ⟨e, fun _ _ => Norm.refl, h⟩
  | v :: r, i, e, κ, h => by
    obtain ⟨e1, h1, h⟩ := claimK_ok (n := n) h
    obtain ⟨e2, h2, h⟩ := claimsK_ok r (i + 1) e1 κ h
    exact ⟨e2, fun w0 g0 => (h1 w0 g0).trans (h2 w0 g0), h⟩

theorem claim1K_ok {L : List Nat} {s : Nat} {κ : Env → Prop} (h : e.claim1K L s κ) : ∃ e', (∀ w0 g0, Norm w0 g0 n e e') ∧ κ e' := by
  unfold Env.claim1K at h
  rw [Env.getK_iff] at h
  split at h
  · exact claimK_ok h
  · split at h
    · exact ⟨e, fun _ _ => Norm.refl, h⟩
    · exact adoptBK_ok h
  · exact claimsK_ok _ _ _ _ h
  · exact claimsK_ok _ _ _ _ h
  · exact ⟨e, fun _ _ => Norm.refl, h⟩

theorem settleK_ok {L : List Nat} : ∀ (l : List Nat) (e : Env) (κ : Env → Prop), Env.settleK L l e κ → ∃ e', (∀ w0 g0, Norm w0 g0 n e e') ∧ κ e'
  | [], e, κ, h => ⟨_, fun w0 g0 => Norm.less (pickL_get e L), (pickK_iff e L κ).1 h⟩
  | s :: r, e, κ, h => by
    obtain ⟨e1, h1, h⟩ := claim1K_ok (n := n) h
    obtain ⟨e2, h3, h4⟩ := settleK_ok r e1 κ h
    exact ⟨e2, fun w0 g0 => (h1 w0 g0).trans (h3 w0 g0), h4⟩

theorem thn_mono {next next' : Env → Prop} {Q Q' : Exit → Env → Prop} (h1 : ∀ e, next e → next' e) (h2 : ∀ x e, Q x e → Q' x e) : ∀ x e, thn next Q x e → thn next' Q' x e := by
  intro x e h
  cases x <;> first | exact h1 e h | exact h2 _ e h

theorem ev_ok {A : List (Nat × Nat)} (hT : T.ok P) : ∀ (c : Code) (e : Env) (Q Q' : Exit → Env → Prop), pinsOk k.pins c = true → ev P T k.n A c e Q → (∀ x e, Q x e → Q' x e) → J P k c e Q'
  | .skip, e, Q, Q', _, h, hq => J.skip (hq _ _ h)
  | .region id ops draw, e, Q, Q', hp, h, hq => by
    simp only [pinsOk] at hp
    simp only [ev] at h
    have hnil : ∀ e, dropAt A id (Q .normal) e → JL P k ops [] e Q' := by
      intro e h
      obtain ⟨e', hn, hq'⟩ := dropAt_ok (n := k.n) h
      exact JL.norm (hn _ _) (JL.nil (hq _ _ hq'))
    split at h
    · intro a w hs
      exact wp_region_list (opsK_ok hT ops.toList e _ hp h hnil a w hs)
    · exact drawQ_ok hT hp h hnil
  | .seq x y, e, Q, Q', hp, h, hq => by
    simp only [pinsOk, Bool.and_eq_true] at hp
    simp only [ev] at h
    exact J.seq (ev_ok hT x e _ _ hp.1 h (thn_mono (fun e h => ev_ok hT y e Q Q' hp.2 h hq) hq))
  | .cond c x y, e, Q, Q', hp, h, hq => by
    simp only [pinsOk, Bool.and_eq_true] at hp
    simp only [ev, condK] at h
    split at h
    · rename_i u
      rw [Env.getK_iff] at h
      split at h
      · rename_i t ht
        cases h with
        | mk h1 h2 => exact J.cond (t := t) ht (fun hh => ev_ok hT x e Q Q' hp.1 (h1 hh) hq) (fun hh => ev_ok hT y e Q Q' hp.2 (h2 hh) hq)
      · cases h
    · rename_i t
      cases h with
      | mk h1 h2 => exact J.cond (t := t) rfl (fun hh => ev_ok hT x e Q Q' hp.1 (h1 hh) hq) (fun hh => ev_ok hT y e Q Q' hp.2 (h2 hh) hq)
    · cases h
  | .block id c, e, Q, Q', hp, h, hq => by
    simp only [pinsOk] at hp
    simp only [ev] at h
    refine J.block (ev_ok hT c e _ _ hp h (fun x e hx => ?_))
    cases x with
    | exit id' =>
      simp only [inBK, nbeq] at hx
      simp only [inB]
      by_cases hid : id' = id
      · simp only [hid, decide_true, if_true] at hx ⊢; exact hq _ _ hx
      · simp only [hid, decide_false, if_false] at hx ⊢; exact hq _ _ hx
    | _ => exact hq _ _ hx
  | .loop c, e, Q, Q', hp, h, hq => by
    simp only [pinsOk] at hp
    simp only [ev] at h
    cases h with
    | @mk σ L E μ I h0 h =>
      obtain ⟨e0, hn0, s0, hs0, rfl⟩ := settleK_ok (n := k.n) L e _ h0
      refine J.loop (fun m e => ∃ s, I s ∧ μ s = m ∧ e = E s) (μ s0) ⟨E s0, ⟨s0, hs0, rfl, rfl⟩, hn0 _ _⟩ ?_
      rintro m e ⟨s, hs, rfl, rfl⟩
      refine ev_ok hT c (E s) _ _ hp (h s hs) (thn_mono (fun e' h' => ?_) hq)
      obtain ⟨e2, hn2, s', hs', hm, rfl⟩ := settleK_ok (n := k.n) L e' _ h'
      exact ⟨μ s', E s', hm, ⟨s', hs', rfl, rfl⟩, hn2 _ _⟩
    | @mkn σ L E μ I h0 h =>
      obtain ⟨e0, hn0, s0, hs0, hle, hf⟩ := settleK_ok (n := k.n) L e _ h0
      refine J.loop (fun m e => ∃ s, I s ∧ μ s = m ∧ e = E s) (μ s0) ⟨E s0, ⟨s0, hs0, rfl, rfl⟩, (hn0 _ _).trans (Norm.nl hle hf)⟩ ?_
      rintro m e ⟨s, hs, rfl, rfl⟩
      refine ev_ok hT c (E s) _ _ hp (h s hs) (thn_mono (fun e' h' => ?_) hq)
      obtain ⟨e2, hn2, s', hs', hm, hle, hf⟩ := settleK_ok (n := k.n) L e' _ h'
      exact ⟨μ s', E s', hm, ⟨s', hs', rfl, rfl⟩, (hn2 _ _).trans (Norm.nl hle hf)⟩
  | .exit id, e, Q, Q', _, h, hq => J.exit (hq _ _ h)
  | .ret, e, Q, Q', _, h, hq => J.ret (hq _ _ h)
  | .rangeFunc _ _ _ _, _, _, _, _, h, _ => by cases h
  | .scope _, _, _, _, _, h, _ => by cases h
  | .label _, _, _, _, _, h, _ => by cases h
  | .goto _, _, _, _, _, h, _ => by cases h
  | .refuse _, _, _, _, _, h, _ => by cases h

/-! The end. -/
def resK (T : TT) (e : Env) (r : ResultVar) (κ : V → Prop) : Prop :=
  match r with
  | .tmp t => e.getK t fun v => match v.refs with
    | [] => κ v
    | _ => StuckC e 200
  | .cell a ty => match T.look ty with
    | some d => e.getK a fun v => match v with
      | .bx cs => match V.refs.go cs with
        | [] => match d.ti with
          | .bad => StuckC e 201
          | ti => match ti.cells with
            | some n => match lenIs cs n with
              | true => κ (.ag cs)
              | false => StuckC e 202
            | none => match cs with
              | [.ag _] => StuckC e 203
              | [.tp _] => StuckC e 204
              | [.un] => StuckC e 205
              | [c] => κ c
              | _ => StuckC e 206
        | _ => StuckC e 207
      | _ => StuckC e 208
    | none => StuckC e 209

theorem resK_ok {r : ResultVar} {κ : V → Prop} (hT : T.ok P) (h : resK T e r κ) : ∃ x, resV P e r = some x ∧ κ x.1 := by
  unfold resK at h
  split at h
  · rename_i t
    rw [Env.getK_iff] at h
    split at h
    · rename_i hr
      exact ⟨_, by simp only [resV]; rw [if_pos (by rw [hr]; rfl)], h⟩
    · cases h
  · rename_i a ty
    split at h
    · rename_i d hd
      have hti := (TT.look_ok hT hd).1
      rw [Env.getK_iff] at h
      split at h
      · rename_i cs hcs
        split at h
        · rename_i hr
          simp only [resV, hti, hcs]
          split at h
          · cases h
          · rename_i hb
            have key : ∀ (α : Option (V × Path)), (match d.ti with
                | .bad => none
                | _ => α) = α := by
              intro α
              split
              · rename_i hbad; exact (hb hbad).elim
              · rfl
            split at h
            · rename_i n hn
              split at h
              · rename_i hl
                refine ⟨(.ag cs, [a + 2]), ?_, h⟩
                split
                · rename_i hbad; exact (hb hbad).elim
                · rename_i heq _; cases heq; rw [if_pos (by rw [hr]; rfl), hn]; simp only; rw [if_pos (lenIs_iff hl)]
                · rename_i hne; exact (hne _ rfl).elim
              · cases h
            · rename_i hn
              split at h
              · cases h
              · cases h
              · cases h
              · rename_i c h1 h2 h3
                refine ⟨(c, [a + 2, 0]), ?_, h⟩
                split
                · rename_i hbad; exact (hb hbad).elim
                · rename_i heq _
                  cases heq
                  rw [if_pos (by rw [hr]; rfl), hn]
                  cases c <;> first | rfl | exact (h1 _ rfl).elim | exact (h2 _ rfl).elim | exact (h3 rfl).elim
                · rename_i hne; exact (hne _ rfl).elim
              · cases h
        · cases h
      · cases h
    · cases h

def ressK (T : TT) (e : Env) : List ResultVar → (List V → Prop) → Prop
  | [], κ => κ []
  | r :: rs, κ => resK T e r fun v => ressK T e rs fun vs => κ (v :: vs)

theorem ressK_ok (hT : T.ok P) : ∀ (rs : List ResultVar) (κ : List V → Prop), ressK T e rs κ → ∃ xs, resAll P e rs = some xs ∧ κ (xs.map (·.1))
  | [], _, h => ⟨[], rfl, h⟩
  | r :: rs, κ, h => by
    obtain ⟨x, h1, h⟩ := resK_ok hT h
    obtain ⟨xs, h2, h⟩ := ressK_ok hT rs _ h
    exact ⟨x :: xs, by simp only [resAll, h1, h2], h⟩

def OutsP (pins : List Nat) (e : Env) : Nat → List V → Prop
  | _, [] => True
  | j, x :: r => (x = .un ∨ j ∈ pins ∧ e.get j = x ∧ x.refs = []) ∧ OutsP pins e (j + 1) r

/-- The end: the result, and what has become of what was handed over. -/
inductive EndP (pins : List Nat) (e : Env) (res : V) (outs : List V) (v : V) : Prop
  | mk (h : v = res) (ho : OutsP pins e 0 outs)

theorem OutsP_ok {pins : List Nat} : ∀ (outs : List V) (i : Nat), OutsP pins e i outs → ∀ (j : Nat) (x : V), outs[j]? = some x → x = .un ∨ (i + j) ∈ pins ∧ e.get (i + j) = x ∧ x.refs = []
  | [], _, _, j, x, hx => by simp at hx
  | y :: r, i, h, j, x, hx => by
    cases j with
    | zero => simp at hx; subst hx; exact h.1
    | succ j => simp at hx; have := OutsP_ok r (i + 1) h.2 j x hx; rw [show i + (j + 1) = i + 1 + j by omega]; exact this

def retK (T : TT) (rs : List ResultVar) (pins : List Nat) (res : V) (outs : List V) (e : Env) : Prop :=
  Env.settleK (rs.map slotOf ++ pins) (rs.map slotOf ++ pins) e fun e => ressK T e rs fun vs => EndP pins e res outs (resOf vs)

def endQ (T : TT) (rs : List ResultVar) (pins : List Nat) (res : V) (outs : List V) : Exit → Env → Prop
  | .normal, e => retK T rs pins res outs e
  | .ret, e => retK T rs pins res outs e
  | _, e => StuckC e 210

theorem vow_of_ev {f : FuncId} {fn : Func} {cd : Code} {ins : List V} {res : V} {outs : List V} (pins : List Nat) (A : List (Nat × Nat)) (hT : T.ok P)
    (hf : P.funcs[f]? = some fn) (hname : fn.name ≠ "runtime.NumGoroutine") (hbody : fn.body = some cd) (hlen : ins.length ≤ fn.ntmps) (hpins : pins.all (fun j => j < ins.length) = true)
    (hdist : distinct (fn.results.toList.map slotOf ++ pins) = true) (hpo : pinsOk pins cd = true) (h : ev P T fn.ntmps A cd (envOf 0 ins) (endQ T fn.results.toList pins res outs)) : Vow P f ins res outs := by
  refine vow_intro pins hf hname hbody hlen hpins (fun k hn hp => ?_)
  subst hp
  rw [← hn] at h
  have h1 := ev_ok hT cd (envOf 0 ins) _ (fun x e => ∃ e', Norm k.w0 k.g0 k.n e e' ∧ retQ P fn.results k.pins res outs x e') hpo h (fun x e hx => by
    have key : retK T fn.results.toList k.pins res outs e → ∃ e', Norm k.w0 k.g0 k.n e e' ∧ Ret P fn.results k.pins res outs e' := by
      intro hx
      obtain ⟨e', hn', hx⟩ := settleK_ok (n := k.n) _ e _ hx
      obtain ⟨xs, hxs, hx⟩ := ressK_ok hT _ _ hx
      cases hx with
      | mk hr ho => exact ⟨e', hn' _ _, ⟨xs, hxs, hr⟩, hdist, fun j x hj => by simpa using OutsP_ok outs 0 ho j x hj⟩
    cases x with
    | normal => obtain ⟨e', h1, h2⟩ := key hx; exact ⟨e', h1, .inl rfl, h2⟩
    | ret => obtain ⟨e', h1, h2⟩ := key hx; exact ⟨e', h1, .inr rfl, h2⟩
    | _ => cases hx)
  intro a w hs
  refine wp_mono (h1 a w hs) ?_
  rintro x a' w' ⟨e, ⟨e', hn', hq⟩, hs'⟩
  exact ⟨e', hq, hn' a' w' hs'.1, hs'.2⟩

end
end Go.Vx

namespace Go.Vx
open Go Go.RowKit Go.Great

theorem Br.not {c : Bool} {A B : Prop} (h : Br c B A) : Br (!c) A B := by
  cases h with
  | mk h1 h2 => exact .mk (fun h => h2 (by simpa using h)) (fun h => h1 (by simpa using h))
theorem Br.dec {p : Prop} {i : Decidable p} {A B : Prop} (h1 : p → A) (h2 : ¬ p → B) : Br (@decide p i) A B := .mk (fun h => h1 (of_decide_eq_true h)) (fun h => h2 (of_decide_eq_false h))
theorem Br.dand {p q : Prop} {i : Decidable p} {j : Decidable q} {A B : Prop} (h1 : p ∧ q → A) (h2 : ¬ (p ∧ q) → B) : Br (@decide p i && @decide q j) A B :=
  .mk (fun h => h1 (by simpa using h)) (fun h => h2 (by simpa using h))
theorem Br.and {x y : Bool} {A B : Prop} (h : Br x (Br y A B) B) : Br (x && y) A B := by
  cases h with
  | mk h1 h2 => cases x with
    | true => exact h1 rfl
    | false => exact .mk (fun h => by cases h) (fun _ => h2 rfl)
theorem Br.beq {x y : Int} {A B : Prop} (h1 : x = y → A) (h2 : ¬ x = y → B) : Br (x == y) A B := .mk (fun h => h1 (by simpa using h)) (fun h => h2 (by simpa using h))
theorem Br.bne {x y : Int} {A B : Prop} (h1 : ¬ x = y → A) (h2 : x = y → B) : Br (x != y) A B := .mk (fun h => h1 (by simpa using h)) (fun h => h2 (by simpa using h))
theorem Br.seq {x y : List UInt8} {A B : Prop} (h1 : x = y → A) (h2 : ¬ x = y → B) : Br (x == y) A B := .mk (fun h => h1 (by simpa using h)) (fun h => h2 (by simpa using h))

theorem Ar.i64 {x : Int} {κ : Int → Prop} (h : -9223372036854775808 ≤ x ∧ x ≤ 9223372036854775807) (g : κ x) : Ar .i64 x κ := .fit (IntWalk.i64_in x h) g
theorem Ar.u8 {x : Int} {κ : Int → Prop} (h : 0 ≤ x ∧ x ≤ 255) (g : κ x) : Ar .u8 x κ := .fit (IntWalk.u8_in x h) g
theorem Quo.pos {a b : Int} {κ : Int → Prop} (h : 0 ≤ a ∧ 0 < b ∧ a ≤ 9223372036854775807) (g : κ (a / b)) : Quo .i64 a b κ := by
  refine .mk (by omega) ?_
  rw [Int.tdiv_eq_ediv_of_nonneg h.1, IntWalk.i64_in _ ⟨?_, ?_⟩]
  · exact g
  · have := Int.ediv_nonneg h.1 (Int.le_of_lt h.2.1); omega
  · have := Int.ediv_le_self b h.1; omega
theorem Rem.pos {a b : Int} {κ : Int → Prop} (h : 0 ≤ a ∧ 0 < b) (g : κ (a % b)) : Rem a b κ := by
  refine .mk (by omega) ?_
  rw [Int.tmod_eq_emod_of_nonneg h.1]
  exact g

def oneNe : Path → Bool
  | [] => true
  | x :: _ => match Nat.beq x 1 with
    | true => false
    | false => true
def calmQ (d : Nat) (p : Path) : Bool :=
  match hdNe d p with
  | true => oneNe p
  | false => false
def Env.calmB : Env → Nat → Bool
  | [], _ => true
  | (_, v) :: r, d => match v.allRefs (calmQ d) with
    | true => Env.calmB r d
    | false => false

theorem Env.calmB_eq : ∀ {e : Env} {d : Nat}, e.calmB d = true → e.calm d = true
  | [], _, _ => rfl
  | (t, v) :: r, d, h => by
    simp only [Env.calmB] at h
    split at h
    · rename_i hp
      have ih := Env.calmB_eq h
      simp only [Env.calm, List.all_cons, Bool.and_eq_true] at ih ⊢
      refine ⟨List.all_eq_true.2 fun p k => ?_, ih⟩
      have hq := V.allRefs_ok hp p k
      simp only [calmQ] at hq
      split at hq
      · rename_i h1
        cases p with
        | nil => rfl
        | cons x p =>
          simp only [hdNe, oneNe, nbeq] at h1 hq
          by_cases k1 : x = d + 2
          · simp [k1] at h1
          · by_cases k2 : x = 1
            · simp [k2] at hq
            · simp [badRef, k1, k2]
      · cases hq
    · cases h

section
variable {P : Program} {T : TT} {n : Nat} {e : Env} {d f : Nat} {vs ins : List V} {res : V} {outs : List V} {κ : Env → Prop}

theorem quiet_nil {vs : List V} {res : V} (hr : lentAll [] 0 vs = []) (h : res.refs = []) : quiet (lentAll [] 0 vs) res = true := by
  simp [quiet, hr, h]
theorem quiet_sl {vs : List V} {res : V} (h : res.refs = []) (hn : res.noSl = true) : quiet (lentAll [] 0 vs) res = true := by
  simp [quiet, hn, h]

theorem CallP.rq (hv : Vow P f ins res outs) (hd : Nat.blt d n = true) (hc : e.calmB d = true) (hq : quiet (lentAll [] 0 vs) res = true) (g : e.setK d res κ) : CallP P n e (some d) f vs ins κ := by
  rw [Env.setK_iff] at g
  refine .read res outs hv (by simpa [dOk, Nat.blt_eq] using hd) ?_ _ ?_ g
  · simp only [callOk, List.map_nil, Env.ioOk, waysOk, List.all_nil, Bool.true_and, hq, Bool.and_true]
    simp only [List.all_eq_true]
    intros; trivial
  · have := calm_shed (Env.calmB_eq hc)
    simp only [callEnv, List.map_nil, Env.puts, Env.setd]
    exact (this.set d res).trans' (cons_del_eqv _ _ _)

/-- A call that lends nothing. -/
theorem CallP.rd (hv : Vow P f ins res outs) (hd : Nat.blt d n = true) (hc : e.calmB d = true) (hr : lentAll [] 0 vs = []) (hq : res.refs = []) (g : e.setK d res κ) : CallP P n e (some d) f vs ins κ :=
  .rq hv hd hc (quiet_nil hr hq) g
/-- A call whose result is its own. -/
theorem CallP.rl (hv : Vow P f ins res outs) (hd : Nat.blt d n = true) (hc : e.calmB d = true) (hq : res.refs = []) (hn : res.noSl = true) (g : e.setK d res κ) : CallP P n e (some d) f vs ins κ :=
  .rq hv hd hc (quiet_sl hq hn) g
/-- The same, where what is passed is written in other words. -/
theorem CallP.re {ins' : List V} (hv : Vow P f ins' res outs) (hi : ins = ins') (hd : Nat.blt d n = true) (hc : e.calmB d = true) (hq : res.refs = []) (hn : res.noSl = true) (g : e.setK d res κ) : CallP P n e (some d) f vs ins κ :=
  .rl (by rw [hi]; exact hv) hd hc hq hn g

/-- A call that hands over what it may write. -/
theorem CallP.ho (I : List (Path × Path)) (hv : Vow P f (e.passAll I 0 vs) res outs) (hd : Nat.blt d n = true) (hc : callOk e (some d) I vs res outs = true) (g : Env.force (callEnv e (some d) I res outs) κ) : CallP P n e (some d) f vs ins κ := by
  obtain ⟨e', h1, h2⟩ := Env.force_ok g
  exact .mk I res outs hv (by simpa [dOk, Nat.blt_eq] using hd) hc e' h1 h2

theorem DCall.rd {κ : V → Prop} (hv : Vow P f ins res outs) (hr : lentAll [] 0 vs = []) (hq : res.refs = []) (g : V.force res κ) : DCall P f vs ins κ :=
  .mk res outs hv (quiet_nil hr hq) g
theorem DCall.rl {κ : V → Prop} (hv : Vow P f ins res outs) (hq : res.refs = []) (hn : res.noSl = true) (g : V.force res κ) : DCall P f vs ins κ :=
  .mk res outs hv (quiet_sl hq hn) g
theorem DCall.re {ins' : List V} {κ : V → Prop} (hv : Vow P f ins' res outs) (hi : ins = ins') (hq : res.refs = []) (hn : res.noSl = true) (g : V.force res κ) : DCall P f vs ins κ :=
  .rl (by rw [hi]; exact hv) hq hn g

/-! What is read of rows of plain things, and that they are their own. -/
theorem map_toImm {α : Type} {f : α → V} (h : ∀ a, (f a).toImm = f a) (l : List α) : (l.map f).map V.toImm = l.map f := by
  rw [List.map_map]; exact List.map_congr_left fun a _ => h a
theorem imm_i (k : IntKind) (l : List Int) : (l.map (V.i k)).map V.toImm = l.map (V.i k) := map_toImm (fun _ => rfl) l
theorem imm_s (l : List (List UInt8)) : (l.map V.s).map V.toImm = l.map V.s := map_toImm (fun _ => rfl) l
theorem imm_b (l : List UInt8) : (l.map byteV).map V.toImm = l.map byteV := map_toImm (fun _ => rfl) l
theorem noSl_map {α : Type} {f : α → V} (h : ∀ a, (f a).noSl = true) : ∀ l : List α, V.noSl.go (l.map f) = true
  | [] => rfl
  | a :: r => by simp only [List.map_cons, V.noSl.go, h a, noSl_map h r, Bool.and_self]
theorem own_i (k : IntKind) (l : List Int) : V.noSl.go (l.map (V.i k)) = true := noSl_map (fun _ => rfl) l
theorem own_s (l : List (List UInt8)) : V.noSl.go (l.map V.s) = true := noSl_map (fun _ => rfl) l
theorem own_b (l : List UInt8) : V.noSl.go (l.map byteV) = true := noSl_map (fun _ => rfl) l
theorem flat_map {α : Type} {f : α → V} (h : ∀ a, ((f a).cs.all V.plain) = true) (l : List α) : V.allFlat (l.map f) = true := by
  simp only [V.allFlat, List.all_map, List.all_eq_true]; intro a _; exact h a
theorem allW_map {α : Type} {f : α → V} {z : Nat} (h : ∀ a, (f a).cs.length = z) (l : List α) : V.allW z (l.map f) = true := by
  simp only [V.allW, List.all_map, List.all_eq_true]; intro a _; simp [h a]
theorem flat_i (k : IntKind) (l : List Int) : V.allW 1 (l.map (V.i k)) = true ∧ V.allFlat (l.map (V.i k)) = true := ⟨allW_map (z := 1) (f := V.i k) (fun _ => rfl) l, flat_map (f := V.i k) (fun _ => rfl) l⟩
theorem flat_s (l : List (List UInt8)) : V.allW 1 (l.map V.s) = true ∧ V.allFlat (l.map V.s) = true := ⟨allW_map (z := 1) (f := V.s) (fun _ => rfl) l, flat_map (f := V.s) (fun _ => rfl) l⟩

/-- The number at a place. -/
def rd (l : List Int) (i : Nat) : Int := l.getD i 0
theorem rd_at {l : List Int} {i : Nat} (k : IntKind) (h : i < l.length) : (l.map (V.i k))[i]? = some (.i k (rd l i)) := by
  simp [rd, h]
theorem Elt.i {k : IntKind} {l : List Int} {i : Nat} {κ : V → Prop} (h : i < l.length) (g : κ (.i k (rd l i))) : Elt (l.map (V.i k)) (i : Int) κ := .mk _ (by omega) (by rw [Int.toNat_natCast]; exact rd_at k h) g
theorem EltN.i {k : IntKind} {l : List Int} {i : Nat} {κ : V → Prop} (h : i < l.length) (g : κ (.i k (rd l i))) : EltN (l.map (V.i k)) i κ := .mk _ (rd_at k h) g

end
end Go.Vx

namespace Go.Vx
open Go Go.RowKit Go.Great

/-- No block is anyone's. -/
def gNone : Gh := ⟨fun _ => none, fun _ => undef⟩

theorem vow_calls {P : Program} {f : Nat} {ins : List V} {res : V} {outs : List V} (h : Vow P f ins res outs) (w : World) (args : Array Value) (hsz : args.size = ins.length)
    (hrep : ∀ (j : Nat) (x : V) (c : Value), ins[j]? = some x → args[j]? = some c → RepS w gNone [j + 2] x c) :
    Calls P f args w fun e w' => ∃ c g', e = .returned c ∧ Below w.heap.size w w' ∧ RepS w' g' [1] res c := by
  refine (h.2 w gNone args ⟨fun b b' p hb => (by cases hb), fun b p hb => (by cases hb)⟩ hsz (fun b p hb => (by cases hb)) hrep).mono ?_
  rintro e w' ⟨c, g', rfl, _, hfr, hres, _⟩
  exact ⟨c, g', rfl, ⟨hfr.os, hfr.tape, hfr.output, hfr.size, fun k hk => (hfr.keep k hk (.inl rfl)).2⟩, hres⟩

theorem vow_true {P : Program} {f : Nat} {ins : List V} {outs : List V} (h : Vow P f ins (.b true) outs) (w : World) (args : Array Value) (hsz : args.size = ins.length)
    (hrep : ∀ (j : Nat) (x : V) (c : Value), ins[j]? = some x → args[j]? = some c → RepS w gNone [j + 2] x c) :
    Calls P f args w fun e w' => e = .returned (.bool true) ∧ Below w.heap.size w w' :=
  (vow_calls h w args hsz hrep).mono fun e w' ⟨c, g', he, hb, hr⟩ => ⟨by rw [he, hr.b_inv], hb⟩

theorem rep1 {w : World} {x : V} {c : Value} (h : RepS w gNone [2] x c) : ∀ (j : Nat) (y : V) (d : Value), [x][j]? = some y → #[c][j]? = some d → RepS w gNone [j + 2] y d := by
  intro j y d hy hd
  match j with
  | 0 => simp at hy hd; subst hy; subst hd; exact h
  | j + 1 => simp at hy

theorem reps {w : World} {xs : List V} {cs : Array Value} (h : ∀ (j : Nat), j < xs.length → RepS w gNone [j + 2] (xs.getD j .un) (cs.getD j undef)) (hs : cs.size = xs.length) :
    ∀ (j : Nat) (y : V) (d : Value), xs[j]? = some y → cs[j]? = some d → RepS w gNone [j + 2] y d := by
  intro j y d hy hd
  have hj := (List.getElem?_eq_some_iff.1 hy).1
  have := h j hj
  rw [List.getD_eq_getElem?_getD, hy, Array.getD_eq_getD_getElem?, hd] at this
  exact this

end Go.Vx
