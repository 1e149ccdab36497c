/- Rows of anything: elements, sums, copies and marks in plain words. No condition. -/
import Derived.Test.YtafipjhalboefaaGreatSe
namespace Go.Vx
open Go Go.RowKit Go.Great
section
variable {α : Type}

def gt (d : α) (l : List α) (i : Nat) : α := l.getD i d
theorem gt_some {d : α} {l : List α} {i : Nat} (h : i < l.length) : l[i]? = some (gt d l i) := by simp [gt, h]
theorem gt_mem {d : α} {l : List α} {i : Nat} (h : i < l.length) : gt d l i ∈ l := List.mem_of_getElem? (gt_some h)
theorem gt_map {d : α} {f : α → V} {l : List α} {i : Nat} (h : i < l.length) : (l.map f)[i]? = some (f (gt d l i)) := by rw [List.getElem?_map, gt_some (d := d) h]; rfl
theorem take_gt {d : α} {l : List α} {i : Nat} (h : i < l.length) : l.take (i + 1) = l.take i ++ [gt d l i] := by rw [List.take_add_one, gt_some (d := d) h]; rfl
theorem Elt.gt (d : α) {f : α → V} {l : List α} {j : Nat} {κ : V → Prop} (h : j < l.length) (g : κ (f (gt d l j))) : Elt (l.map f) (j : Int) κ :=
  .mk _ (by omega) (by rw [Int.toNat_natCast]; exact gt_map h) g
theorem EltN.gt (d : α) {f : α → V} {l : List α} {j : Nat} {κ : V → Prop} (h : j < l.length) (g : κ (f (gt d l j))) : EltN (l.map f) j κ := .mk _ (gt_map h) g
theorem EltN.st {xs : List V} {i : Nat} {v : V} {κ : V → Prop} (h : i < xs.length) (g : κ v) : EltN (xs.set i v) i κ := .mk v (by simp [h]) g
/-- What the elements ahead of a place add up to. -/
def sumR (d : α) (c : α → Nat) (l : List α) : Nat → Nat
  | 0 => 0
  | i + 1 => sumR d c l i + c (gt d l i)
theorem sumR_mono (d : α) (c : α → Nat) (l : List α) (i : Nat) : ∀ m, sumR d c l i ≤ sumR d c l (i + m)
  | 0 => Nat.le_refl _
  | m + 1 => by
    have := sumR_mono d c l i m
    show sumR d c l i ≤ sumR d c l (i + m) + _
    omega
theorem sumR_le (d : α) (c : α → Nat) (l : List α) {i j : Nat} (h : i ≤ j) : sumR d c l i ≤ sumR d c l j := by
  have := sumR_mono d c l i (j - i); rwa [show i + (j - i) = j by omega] at this
theorem sumR_elem (d : α) (c : α → Nat) (l : List α) {i : Nat} (h : i < l.length) : sumR d c l i + c (gt d l i) ≤ sumR d c l l.length := sumR_le d c l (show i + 1 ≤ l.length from h)
/-- A row that is filled from the front. -/
def cpR (f : α → V) (z : V) (l : List α) (i : Nat) : List V := (l.take i).map f ++ List.replicate (l.length - i) z
theorem cpR_len (f : α → V) (z : V) (l : List α) {i : Nat} (h : i ≤ l.length) : (cpR f z l i).length = l.length := by simp [cpR]; omega
theorem cpR_at (f : α → V) (z : V) (l : List α) {i : Nat} (h : i < l.length) : (cpR f z l i)[i]? = some z := by
  unfold cpR
  have hl : ((l.take i).map f).length = i := by simp; omega
  rw [List.getElem?_append_right (by omega), hl, Nat.sub_self, List.getElem?_replicate, if_pos (by omega)]
theorem cpR_set (d : α) (f : α → V) (z : V) (l : List α) {i : Nat} (h : i < l.length) : (cpR f z l i).set i (f (gt d l i)) = cpR f z l (i + 1) := by
  unfold cpR
  have hl : ((l.take i).map f).length = i := by simp; omega
  rw [List.set_append_right _ _ (by omega), hl, Nat.sub_self, show l.length - i = (l.length - (i + 1)) + 1 by omega, List.replicate_succ, List.set_cons_zero, take_gt (d := d) h]
  simp
theorem cpR_all (f : α → V) (z : V) (l : List α) : cpR f z l l.length = l.map f := by simp [cpR]
theorem cpR_0 (f : α → V) (z : V) (l : List α) : List.replicate l.length z = cpR f z l 0 := by simp [cpR]

section
variable (d : α) (m : α → Int → α) (c : α → Nat) (l : List α) (k : Int)
end
/-- What is left of a budget. -/
def szL (n : Nat) (left : Int) : Int := if (n : Int) ≤ left then left - n else -1
theorem szL_le (n : Nat) (left : Int) : (szL n left = -1 ∧ left < n) ∨ (szL n left = left - n ∧ (n : Int) ≤ left) := by unfold szL; split <;> omega
theorem immR {f g : α → V} (h : ∀ a, (f a).toImm = g a) (l : List α) : (l.map f).map V.toImm = l.map g := by rw [List.map_map]; exact List.map_congr_left fun a _ => h a
end

theorem Br.ne_self {α : Type} [BEq α] [ReflBEq α] {x : α} {A B : Prop} (h : B) : Br (x != x) A B := by
  have : (x != x) = false := by show (!(x == x)) = false; rw [BEq.rfl]; rfl
  rw [this]; exact .ff h
theorem Br.eq_self {α : Type} [BEq α] [ReflBEq α] {x : α} {A B : Prop} (h : A) : Br (x == x) A B := by
  have : (x == x) = true := BEq.rfl
  rw [this]; exact .tt h
theorem Br.deq {α : Type} {x : α} {i : Decidable (x = x)} {A B : Prop} (h : A) : Br (@decide (x = x) i) A B := by
  have : @decide (x = x) i = true := decide_eq_true rfl
  rw [this]; exact .tt h
section
variable {α : Type} (d : α) (m : α → Int → α) (c : α → Nat) (l : List α) (k : Int)
end

def shortP (t : Nat) : Path → Bool
  | x :: _ :: _ :: _ :: _ => match Nat.beq x (t + 2) with
    | true => false
    | false => true
  | _ => true
def allShort (t : Nat) : List Path → Bool
  | [] => true
  | p :: r => match shortP t p with
    | true => allShort t r
    | false => false
def Env.shortB : Env → Nat → Bool
  | [], _ => true
  | (_, v) :: r, t => match allShort t v.refs with
    | true => Env.shortB r t
    | false => false

theorem allShort_all {t : Nat} : ∀ {l : List Path}, allShort t l = true → ∀ p ∈ l, shortP t p = true
  | [], _, p, hp => by simp at hp
  | x :: l, h, p, hp => by
    simp only [allShort] at h
    split at h
    · rename_i hx
      rcases List.mem_cons.1 hp with rfl | hp
      · exact hx
      · exact allShort_all h p hp
    · cases h
theorem shortB_all {t : Nat} : ∀ {e : Env}, e.shortB t = true → ∀ q ∈ e, ∀ p ∈ q.2.refs, shortP t p = true
  | [], _, q, hq => by simp at hq
  | (s, v) :: e, h, q, hq => by
    simp only [Env.shortB] at h
    split at h
    · rename_i hx
      rcases List.mem_cons.1 hq with rfl | hq
      · exact allShort_all hx
      · exact shortB_all h q hq
    · cases h
theorem shortB_refs {e : Env} {t s : Nat} (h : e.shortB t = true) : ∀ r ∈ (e.get s).refs, shortP t r = true := by
  intro r hr
  by_cases hu : e.get s = .un
  · rw [hu] at hr; simp [V.refs] at hr
  · exact shortB_all h _ (Env.mem_get hu) r hr
theorem calm_refs {e : Env} {d s : Nat} (h : e.calm d = true) : ∀ r ∈ (e.get s).refs, badRef (some d) [] r = false := by
  intro r hr
  by_cases hu : e.get s = .un
  · rw [hu] at hr; simp [V.refs] at hr
  · have := List.all_eq_true.1 (List.all_eq_true.1 h _ (Env.mem_get hu)) r hr
    simpa using this
theorem short_not {t i f : Nat} {r : Path} (h : shortP t r = true) : ([t + 2, i, f].isPrefixOf r && !(r == [t + 2, i, f])) = false := by
  match r, h with
  | [], _ => rfl
  | [a], _ => simp [List.isPrefixOf]
  | [a, b], _ => simp [List.isPrefixOf]
  | [a, b, c], _ => simp [List.isPrefixOf]; intro h1 h2 h3; simp [h1, h2, h3]
  | a :: b :: c :: d :: l, h =>
    simp only [shortP] at h
    split at h
    · cases h
    · rename_i hb
      have : ¬ a = t + 2 := by rintro rfl; simp at hb
      have h2 : ¬ t + 2 = a := fun h => this h.symm
      simp [List.isPrefixOf, h2]

def isSc : V → Bool
  | .i _ _ | .b _ | .s _ => true
  | _ => false
def allSc : List V → Bool
  | [] => true
  | v :: r => match isSc v with
    | true => allSc r
    | false => false

theorem pass_sc {e : Env} {I : List (Path × Path)} : ∀ {vs : List V} {k : Nat}, allSc vs = true → e.passAll I k vs = vs ∧ lentAll I k vs = []
  | [], _, _ => ⟨rfl, rfl⟩
  | v :: r, k, h => by
    simp only [allSc] at h
    split at h
    · rename_i hv
      obtain ⟨h1, h2⟩ := pass_sc (e := e) (I := I) (k := k + 1) h
      cases v <;> simp [isSc] at hv <;> simp [Env.passAll, lentAll, h1, h2, Env.pass, Env.imm, V.lent]
    · cases h

/-- A row that lies in a row's element is handed over. -/
theorem CallP.hn {P : Program} {n : Nat} {e : Env} {d fn : Nat} {κ : Env → Prop} {t i f z zq : Nat} {xs cs ys rest outs ins os : List V} {zo : Nat} {res : V} (hv : Vow P fn (.ow zq ys :: rest) res (.ow zo os :: outs))
    (hget : e.get t = .ow z xs) (hx : xs[i]? = some (.ag cs)) (hc : cs[f]? = some (.ow zq ys)) (hrest : allSc rest = true) (hd : Nat.blt d n = true) (hdt : Nat.beq t d = false)
    (hcalm : e.calmB d = true) (hshort : e.shortB t = true) (hres : res.refs = [])
    (g : Env.force ((e.set d res).putAt [t + 2] (.ow z (xs.set i (.ag (cs.set f (.ow zo os)))))) κ) : CallP P n e (some d) fn (.al [t + 2, i, f] :: rest) ins κ := by
  obtain ⟨hp1, hp2⟩ := pass_sc (e := e) (I := [([t + 2, i, f], [2])]) (k := 1) hrest
  have htd : t ≠ d := beq_ne hdt
  have hat : e.at [t + 2, i, f] = some (.ow zq ys) := by
    simp only [Env.at, hget, V.sub, V.kids, hx, hc]
  have hcc := Env.calmB_eq hcalm
  have hbad : ∀ s, ∀ r ∈ (e.get s).refs, badRef (some d) [[t + 2, i, f]] r = false := by
    intro s r hr
    have h1 := calm_refs hcc r hr
    have h2 := short_not (i := i) (f := f) (shortB_refs hshort r hr)
    simp only [badRef, List.any_nil, Bool.or_false] at h1
    simp only [badRef, List.any_cons, List.any_nil, Bool.or_false, h2]
    exact h1
  have hshed : (e.shed (badRef (some d) [[t + 2, i, f]])).Eqv e := by
    intro s
    rw [Env.get_shed]
    split
    · rename_i hb
      obtain ⟨r, hr, hb⟩ := List.any_eq_true.1 hb
      rw [hbad s r hr] at hb
      cases hb
    · rfl
  have hat' : (e.shed (badRef (some d) [[t + 2, i, f]])).at [t + 2, i, f] = some (.ow zq ys) := by rw [hshed.at]; exact hat
  obtain ⟨e', h1, h2⟩ := Env.force_ok g
  refine .mk [([t + 2, i, f], [2])] res (.ow zo os :: outs) ?_ (by simpa [dOk, Nat.blt_eq] using hd) ?_ e' ?_ h2
  · simp only [Env.passAll, Env.pass, hp1, hat]
    simpa using hv
  · simp only [callOk, List.map_cons, List.map_nil, Env.ioOk, hat', V.handy, waysOk, lentAll, V.lent, hp2, List.any_cons, List.any_nil, Bool.or_false, List.all_nil, List.all_cons, Bool.and_true, Bool.true_and]
    simp [inAt, V.leaf, leafIs, outAt, quiet, hres, V.refs]
    exact htd
  · refine Env.Eqv.trans ?_ h1
    simp only [callEnv, List.map_cons, List.map_nil, Env.puts, Env.setd]
    have ho : outAt (.ow zo os :: outs) [2] = .ow zo os := by simp [outAt, inAt, V.leaf]
    rw [ho]
    intro s
    rw [Env.putAt_get, Env.putAt_get]
    simp only
    by_cases hts : t = s
    · subst hts
      simp only [if_true, Env.get_set, if_neg (Ne.symm htd)]
      rw [hshed t, hget]
      simp only [V.put, V.kids, hx, hc, V.withKids]
    · simp only [hts, if_false, Env.get_set]
      split
      · rfl
      · exact hshed s
end Go.Vx
namespace Go.Proofs.YtafipjhalboefaaGreat
open Go Go.Vx
set_option linter.unusedVariables false
set_option linter.unusedSimpArgs false
set_option maxHeartbeats 600000
set_option maxRecDepth 100000

theorem sz1_eq (n : Nat) (left : Int) : sz1 n left = szL n left := by unfold sz1 szL; split <;> split <;> omega
theorem szIntS_w (zs : List Int) (left : Int) (hz : zs.length ≤ maxLen) (hl : 0 ≤ left ∧ left ≤ 1048576) : Vow Tryz.prog 36 [iS zs, .i .i64 left] (.i .i64 (szL zs.length left)) [] := by
  have := szIntS_vow zs left (Nat.le_trans hz (by decide)) (by omega)
  rwa [sz1_eq] at this
theorem eqIntS_w (zs : List Int) (h : zs.length ≤ 1000000000) : Vow Tryz.prog 57 [iS zs, iS zs] (.b true) [] := by
  have := eqIntS_vow zs zs (by omega) (by omega)
  rwa [decide_eq_true rfl] at this
theorem imm_iO (l : List Int) : (iO l).toImm = iS l := by simp only [iO, iS, V.toImm, V.toImm_go, imm_i]
end Go.Proofs.YtafipjhalboefaaGreat
