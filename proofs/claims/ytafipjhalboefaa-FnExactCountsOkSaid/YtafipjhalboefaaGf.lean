/- Worlds: sights that are found, and counts that go up. No condition. -/
import Derived.Test.YtafipjhalboefaaGa
namespace Go.Vx
theorem find_hit {α : Type} {p : α → Bool} {d : α} : ∀ {l : List α} {i : Nat}, i < l.length → (∀ j, j < i → p (gt d l j) = false) → p (gt d l i) = true → l.find? p = some (gt d l i)
  | [], i, h, _, _ => by simp at h
  | x :: r, 0, _, _, hp => by
    have : p x = true := hp
    rw [List.find?_cons_of_pos this]; rfl
  | x :: r, i + 1, h, ha, hp => by
    have h0 : p x = false := ha 0 (by omega)
    rw [List.find?_cons_of_neg (by simp [h0])]
    exact find_hit (d := d) (l := r) (i := i) (by simpa using h) (fun j hj => ha (j + 1) (by omega)) hp
theorem find_not {α : Type} {p : α → Bool} {d : α} {l : List α} (h : ∀ j, j < l.length → p (gt d l j) = false) : l.find? p = none := by
  rw [List.find?_eq_none]
  intro x hx
  obtain ⟨j, hj, rfl⟩ := List.mem_iff_getElem.1 hx
  have := h j hj
  have e := gt_some (d := d) hj
  rw [List.getElem?_eq_getElem hj] at e
  rw [Option.some.inj e, this]
  simp
end Go.Vx
namespace Go.Proofs.Ytafipjhalboefaa
open Go Go.Vx
set_option linter.unusedVariables false
set_option linter.unusedSimpArgs false
set_option maxHeartbeats 600000
set_option maxRecDepth 100000


def sgHit (who cnt : Int) (s : SightD) : Bool := decide (s.who = who ∧ s.count = cnt)
def sightOf (l : List SightD) (who cnt : Int) : Option SightD := l.find? (sgHit who cnt)
def sgV : Option SightD → V
  | some s => .tp [sightVs s, .b true]
  | none => .tp [.ag [.i .i64 0, .i .i64 0, .b false, .i .i64 0, .s [], .i .i64 0, .i .i64 0, .s []], .b false]
theorem sight_yes {l : List SightD} {who cnt : Int} {i : Nat} (h : i < l.length) (ha : ∀ j, j < i → sgHit who cnt (gt sightD l j) = false) (hp : (gt sightD l i).who = who ∧ (gt sightD l i).count = cnt) : sgV (sightOf l who cnt) = .tp [sightVs (gt sightD l i), .b true] := by
  rw [sightOf, find_hit h ha (decide_eq_true hp)]; rfl
theorem sight_no {l : List SightD} {who cnt : Int} (ha : ∀ j, j < l.length → sgHit who cnt (gt sightD l j) = false) : sgV (sightOf l who cnt) = .tp [.ag [.i .i64 0, .i .i64 0, .b false, .i .i64 0, .s [], .i .i64 0, .i .i64 0, .s []], .b false] := by
  rw [sightOf, find_not ha]; rfl

/-- The counts of a camera's tells: what was last, or that it is wrong. -/
def ctStep (who : Int) (st : Bool × Int) (t : Tell) : Option (Bool × Int) :=
  if t.who = who then (if t.what = 1 then (if st.1 = true ∧ t.count ≤ st.2 then none else some (true, t.count)) else if t.what = 2 then (if st.1 = true ∧ t.count = st.2 then some st else none) else some st) else some st
def ctTells (who : Int) : List Tell → Bool × Int → Option (Bool × Int)
  | [], st => some st
  | t :: r, st => match ctStep who st t with
    | none => none
    | some st => ctTells who r st
def ctLooks (who : Int) : List LookD → Bool × Int → Bool
  | [], _ => true
  | l :: r, st => match ctTells who l.tells st with
    | none => false
    | some st => ctLooks who r st
def ctRest (who : Int) (ts : List Tell) (ls : List LookD) (st : Bool × Int) : Bool := match ctTells who ts st with
  | none => false
  | some st => ctLooks who ls st
def countsOk (a : WorldD) (who : Int) : Bool := ctLooks who a.looks (false, 0)
theorem ct_look {who : Int} {l : List LookD} {i : Nat} (h : i < l.length) (st : Bool × Int) : ctLooks who (l.drop i) st = ctRest who (gt lookD l i).tells (l.drop (i + 1)) st := by
  rw [drop_gt (d := lookD) h]; rfl
theorem ct_tell {who : Int} {ts : List Tell} {ls : List LookD} {j : Nat} (h : j < ts.length) (st : Bool × Int) : ctRest who (ts.drop j) ls st = match ctStep who st (gt tellD ts j) with
    | none => false
    | some st => ctRest who (ts.drop (j + 1)) ls st := by
  rw [drop_gt (d := tellD) h]
  unfold ctRest
  simp only [ctTells]
  cases ctStep who st (gt tellD ts j) <;> rfl

set_option maxHeartbeats 8000000 in
theorem sightOf_impl (a : WorldD) (who cnt : Int) (h : a.sights.length ≤ 1000000000) : Vow Try.prog 12 [worldVs a, .i .i64 who, .i .i64 cnt] (sgV (sightOf a.sights who cnt)) [] := by
  have hm : (a.sights.map sightVs).length = a.sights.length := by simp
  refine vow_of_ev (fn := Try.f12) [] [(0, 0), (10, 11), (0, 0), (15, 17), (17, 26), (27, 28), (28, 29), (29, 30)] tt_ok Try.func12 (by decide) rfl (Nat.le_of_ble_eq_true rfl) rfl rfl rfl ?_
  repeat' (conv => whnf); first | refine Br.tt ?_ | refine Br.ff ?_ | refine Br.not ?_ | refine Br.dand (fun _ => ?_) (fun _ => ?_) | refine Br.dec (fun _ => ?_) (fun _ => ?_) | refine Br.beq (fun _ => ?_) (fun _ => ?_) | refine Br.bne (fun _ => ?_) (fun _ => ?_) | refine Br.seq (fun _ => ?_) (fun _ => ?_) | refine Elt.i (by omega) ?_ | refine EltN.i (by omega) ?_ | refine Nt.cast ?_ | refine Nt.mk _ rfl ?_ | refine EltN.mk _ rfl ?_ | refine Mx.mk _ rfl ?_ | refine Br.mk (fun _ => ?_) (fun _ => ?_) | refine EndP.mk ?_ trivial | refine EndP.mk ?_ ⟨.inr ⟨List.mem_cons_self .., ?_, rfl⟩, trivial⟩ | refine Ar.i64 (by omega) ?_ | refine Ar.u8 (by omega) ?_ | refine Quo.pos (by omega) ?_ | refine Rem.pos (by omega) ?_ | refine BsP.own ?_ | refine SetN.two ?_ | refine SetN.one ?_ | refine Ob.mk ⟨rfl, rfl⟩ ?_ | refine Ob.mk (flat_i _ _).1 ?_ | refine Ob.mk (flat_i _ _) ?_ | refine Ob.mk (flat_s _) ?_ | refine Ob.mk (by first | omega | (simp; first | done | fail) | (simp; omega)) ?_ | fail
  conv => whnf
  refine LoopP.mk [1,2,6,7,11,12,13] (fun i : Nat => [(1, .i .i64 who), (2, .i .i64 cnt), (6, .bx [.i .i64 0, .i .i64 0, .b false, .i .i64 0, .s [], .i .i64 0, .i .i64 0, .s []]), (7, .b false), (11, .sl (a.sights.map sightVs)), (12, .i .i64 (a.sights.length : Nat)), (13, .i .i64 i)])
    (fun i => a.sights.length - i) (fun i => i ≤ a.sights.length ∧ ∀ j, j < i → sgHit who cnt (gt sightD a.sights j) = false) ?_ ?_
  · conv => whnf
    refine ⟨0, ⟨by omega, fun j hj => by omega⟩, ?_⟩
    try rw [hm]
    rfl
  · rintro i ⟨hi, ha⟩
    by_cases hlt : i < a.sights.length
    · have hs : sgHit who cnt (gt sightD a.sights i) = decide ((gt sightD a.sights i).who = who ∧ (gt sightD a.sights i).count = cnt) := rfl
      repeat' (conv => whnf); first | refine Elt.gt sightD hlt ?_ | refine EltN.gt sightD hlt ?_ | refine Br.tt ?_ | refine Br.ff ?_ | refine Br.not ?_ | refine Br.dand (fun _ => ?_) (fun _ => ?_) | refine Br.dec (fun _ => ?_) (fun _ => ?_) | refine Br.beq (fun _ => ?_) (fun _ => ?_) | refine Br.bne (fun _ => ?_) (fun _ => ?_) | refine Br.seq (fun _ => ?_) (fun _ => ?_) | refine Elt.i (by omega) ?_ | refine EltN.i (by omega) ?_ | refine Nt.cast ?_ | refine Nt.mk _ rfl ?_ | refine EltN.mk _ rfl ?_ | refine Mx.mk _ rfl ?_ | refine Br.mk (fun _ => ?_) (fun _ => ?_) | refine EndP.mk ?_ trivial | refine EndP.mk ?_ ⟨.inr ⟨List.mem_cons_self .., ?_, rfl⟩, trivial⟩ | refine Ar.i64 (by omega) ?_ | refine Ar.u8 (by omega) ?_ | refine Quo.pos (by omega) ?_ | refine Rem.pos (by omega) ?_ | refine BsP.own ?_ | refine SetN.two ?_ | refine SetN.one ?_ | refine Ob.mk ⟨rfl, rfl⟩ ?_ | refine Ob.mk (flat_i _ _).1 ?_ | refine Ob.mk (flat_i _ _) ?_ | refine Ob.mk (flat_s _) ?_ | refine Ob.mk (by first | omega | (simp; first | done | fail) | (simp; omega)) ?_ | fail
      all_goals first
        | (exfalso; omega)
        | (rw [sight_yes hlt ha ⟨by assumption, by assumption⟩]; rfl)
        | (conv => whnf
           refine ⟨i + 1, ⟨by omega, all_next ha ?_⟩, by omega, rfl⟩
           rw [hs]
           exact decide_eq_false (by omega))
    · obtain rfl : i = a.sights.length := by omega
      repeat' (conv => whnf); first | refine Br.tt ?_ | refine Br.ff ?_ | refine Br.not ?_ | refine Br.dand (fun _ => ?_) (fun _ => ?_) | refine Br.dec (fun _ => ?_) (fun _ => ?_) | refine Br.beq (fun _ => ?_) (fun _ => ?_) | refine Br.bne (fun _ => ?_) (fun _ => ?_) | refine Br.seq (fun _ => ?_) (fun _ => ?_) | refine Elt.i (by omega) ?_ | refine EltN.i (by omega) ?_ | refine Nt.cast ?_ | refine Nt.mk _ rfl ?_ | refine EltN.mk _ rfl ?_ | refine Mx.mk _ rfl ?_ | refine Br.mk (fun _ => ?_) (fun _ => ?_) | refine EndP.mk ?_ trivial | refine EndP.mk ?_ ⟨.inr ⟨List.mem_cons_self .., ?_, rfl⟩, trivial⟩ | refine Ar.i64 (by omega) ?_ | refine Ar.u8 (by omega) ?_ | refine Quo.pos (by omega) ?_ | refine Rem.pos (by omega) ?_ | refine BsP.own ?_ | refine SetN.two ?_ | refine SetN.one ?_ | refine Ob.mk ⟨rfl, rfl⟩ ?_ | refine Ob.mk (flat_i _ _).1 ?_ | refine Ob.mk (flat_i _ _) ?_ | refine Ob.mk (flat_s _) ?_ | refine Ob.mk (by first | omega | (simp; first | done | fail) | (simp; omega)) ?_ | fail
      all_goals first
        | (exfalso; omega)
        | (rw [sight_no ha]; rfl)
set_option maxHeartbeats 8000000 in
theorem sightOf_spec (a : WorldD) (who cnt : Int) (h : a.sights.length ≤ 1000000000) : Vow Try.prog 11 [worldVs a, .i .i64 who, .i .i64 cnt] (sgV (sightOf a.sights who cnt)) [] := by
  have hm : (a.sights.map sightVs).length = a.sights.length := by simp
  refine vow_of_ev (fn := Try.f11) [] [(0, 0), (0, 0), (9, 13), (14, 16), (16, 33), (34, 39), (39, 40)] tt_ok Try.func11 (by decide) rfl (Nat.le_of_ble_eq_true rfl) rfl rfl rfl ?_
  repeat' (conv => whnf); first | refine Br.tt ?_ | refine Br.ff ?_ | refine Br.not ?_ | refine Br.dand (fun _ => ?_) (fun _ => ?_) | refine Br.dec (fun _ => ?_) (fun _ => ?_) | refine Br.beq (fun _ => ?_) (fun _ => ?_) | refine Br.bne (fun _ => ?_) (fun _ => ?_) | refine Br.seq (fun _ => ?_) (fun _ => ?_) | refine Elt.i (by omega) ?_ | refine EltN.i (by omega) ?_ | refine Nt.cast ?_ | refine Nt.mk _ rfl ?_ | refine EltN.mk _ rfl ?_ | refine Mx.mk _ rfl ?_ | refine Br.mk (fun _ => ?_) (fun _ => ?_) | refine EndP.mk ?_ trivial | refine EndP.mk ?_ ⟨.inr ⟨List.mem_cons_self .., ?_, rfl⟩, trivial⟩ | refine Ar.i64 (by omega) ?_ | refine Ar.u8 (by omega) ?_ | refine Quo.pos (by omega) ?_ | refine Rem.pos (by omega) ?_ | refine BsP.own ?_ | refine SetN.two ?_ | refine SetN.one ?_ | refine Ob.mk ⟨rfl, rfl⟩ ?_ | refine Ob.mk (flat_i _ _).1 ?_ | refine Ob.mk (flat_i _ _) ?_ | refine Ob.mk (flat_s _) ?_ | refine Ob.mk (by first | omega | (simp; first | done | fail) | (simp; omega)) ?_ | fail
  conv => whnf
  refine LoopP.mk [1,2,3,6,7,8] (fun i : Nat => [(1, .i .i64 who), (2, .i .i64 cnt), (3, worldB a), (6, .bx [.i .i64 0, .i .i64 0, .b false, .i .i64 0, .s [], .i .i64 0, .i .i64 0, .s []]), (7, .b false), (8, .i .i64 i)])
    (fun i => a.sights.length - i) (fun i => i ≤ a.sights.length ∧ ∀ j, j < i → sgHit who cnt (gt sightD a.sights j) = false) ?_ ?_
  · conv => whnf
    exact ⟨0, ⟨by omega, fun j hj => by omega⟩, rfl⟩
  · rintro i ⟨hi, ha⟩
    by_cases hlt : i < a.sights.length
    · have hs : sgHit who cnt (gt sightD a.sights i) = decide ((gt sightD a.sights i).who = who ∧ (gt sightD a.sights i).count = cnt) := rfl
      repeat' (conv => whnf); first | refine Elt.gt sightD hlt ?_ | refine EltN.gt sightD hlt ?_ | refine Br.tt ?_ | refine Br.ff ?_ | refine Br.not ?_ | refine Br.dand (fun _ => ?_) (fun _ => ?_) | refine Br.dec (fun _ => ?_) (fun _ => ?_) | refine Br.beq (fun _ => ?_) (fun _ => ?_) | refine Br.bne (fun _ => ?_) (fun _ => ?_) | refine Br.seq (fun _ => ?_) (fun _ => ?_) | refine Elt.i (by omega) ?_ | refine EltN.i (by omega) ?_ | refine Nt.cast ?_ | refine Nt.mk _ rfl ?_ | refine EltN.mk _ rfl ?_ | refine Mx.mk _ rfl ?_ | refine Br.mk (fun _ => ?_) (fun _ => ?_) | refine EndP.mk ?_ trivial | refine EndP.mk ?_ ⟨.inr ⟨List.mem_cons_self .., ?_, rfl⟩, trivial⟩ | refine Ar.i64 (by omega) ?_ | refine Ar.u8 (by omega) ?_ | refine Quo.pos (by omega) ?_ | refine Rem.pos (by omega) ?_ | refine BsP.own ?_ | refine SetN.two ?_ | refine SetN.one ?_ | refine Ob.mk ⟨rfl, rfl⟩ ?_ | refine Ob.mk (flat_i _ _).1 ?_ | refine Ob.mk (flat_i _ _) ?_ | refine Ob.mk (flat_s _) ?_ | refine Ob.mk (by first | omega | (simp; first | done | fail) | (simp; omega)) ?_ | fail
      all_goals first
        | (exfalso; omega)
        | (rw [sight_yes hlt ha ⟨by assumption, by assumption⟩]; rfl)
        | (conv => whnf
           refine ⟨i + 1, ⟨by omega, all_next ha ?_⟩, by omega, rfl⟩
           rw [hs]
           exact decide_eq_false (by omega))
    · obtain rfl : i = a.sights.length := by omega
      repeat' (conv => whnf); first | refine Br.tt ?_ | refine Br.ff ?_ | refine Br.not ?_ | refine Br.dand (fun _ => ?_) (fun _ => ?_) | refine Br.dec (fun _ => ?_) (fun _ => ?_) | refine Br.beq (fun _ => ?_) (fun _ => ?_) | refine Br.bne (fun _ => ?_) (fun _ => ?_) | refine Br.seq (fun _ => ?_) (fun _ => ?_) | refine Elt.i (by omega) ?_ | refine EltN.i (by omega) ?_ | refine Nt.cast ?_ | refine Nt.mk _ rfl ?_ | refine EltN.mk _ rfl ?_ | refine Mx.mk _ rfl ?_ | refine Br.mk (fun _ => ?_) (fun _ => ?_) | refine EndP.mk ?_ trivial | refine EndP.mk ?_ ⟨.inr ⟨List.mem_cons_self .., ?_, rfl⟩, trivial⟩ | refine Ar.i64 (by omega) ?_ | refine Ar.u8 (by omega) ?_ | refine Quo.pos (by omega) ?_ | refine Rem.pos (by omega) ?_ | refine BsP.own ?_ | refine SetN.two ?_ | refine SetN.one ?_ | refine Ob.mk ⟨rfl, rfl⟩ ?_ | refine Ob.mk (flat_i _ _).1 ?_ | refine Ob.mk (flat_i _ _) ?_ | refine Ob.mk (flat_s _) ?_ | refine Ob.mk (by first | omega | (simp; first | done | fail) | (simp; omega)) ?_ | fail
      all_goals first
        | (exfalso; omega)
        | (rw [sight_no ha]; rfl)

structure CtS where
  i : Nat
  has : Bool
  last : Int

theorem ct_size {a : WorldD} (h1 : a.looks.length ≤ 1000000000) (h2 : ∀ n, n < a.looks.length → (gt lookD a.looks n).tells.length ≤ 1000000000) : True := trivial
theorem ct_end {who : Int} {ts : List Tell} {ls : List LookD} (st : Bool × Int) : ctRest who (ts.drop ts.length) ls st = ctLooks who ls st := by
  rw [List.drop_length]; rfl
theorem ct_done {who : Int} {ls : List LookD} (st : Bool × Int) : ctLooks who (ls.drop ls.length) st = true := by
  rw [List.drop_length]; rfl
theorem ctS_other {who : Int} {t : Tell} {st : Bool × Int} (h : ¬ t.who = who) : ctStep who st t = some st := by unfold ctStep; rw [if_neg h]
theorem ctS_none {who : Int} {t : Tell} {st : Bool × Int} (h : ¬ t.what = 1) (k : ¬ t.what = 2) : ctStep who st t = some st := by unfold ctStep; split <;> simp [h, k]
theorem ctS_live {who : Int} {t : Tell} {st : Bool × Int} (h : t.who = who) (k : t.what = 1) : ctStep who st t = if st.1 = true ∧ t.count ≤ st.2 then none else some (true, t.count) := by unfold ctStep; rw [if_pos h, if_pos k]
theorem ctS_hold {who : Int} {t : Tell} {st : Bool × Int} (h : t.who = who) (k : t.what = 2) : ctStep who st t = if st.1 = true ∧ t.count = st.2 then some st else none := by unfold ctStep; rw [if_pos h, if_neg (by omega), if_pos k]
set_option maxHeartbeats 16000000 in
theorem countsOk_impl (a : WorldD) (who : Int) (h1 : a.looks.length ≤ 1000000000) (h2 : ∀ n, n < a.looks.length → (gt lookD a.looks n).tells.length ≤ 1000000000) :
    Vow Try.prog 15 [worldVs a, .i .i64 who] (.b (countsOk a who)) [] := by
  have hm : (a.looks.map lookVs).length = a.looks.length := by simp
  refine vow_of_ev (fn := Try.f15) [] [(0, 0), (0, 0), (11, 12), (0, 0), (16, 18), (18, 19), (0, 0), (23, 25), (25, 28), (29, 30), (32, 33), (33, 39), (0, 0), (40, 42), (43, 44), (44, 51), (0, 0), (52, 53), (53, 54), (0, 0)] tt_ok Try.func15 (by decide) rfl (Nat.le_of_ble_eq_true rfl) rfl rfl rfl ?_
  repeat' (conv => whnf); first | refine Br.tt ?_ | refine Br.ff ?_ | refine Br.not ?_ | refine Br.dand (fun _ => ?_) (fun _ => ?_) | refine Br.dec (fun _ => ?_) (fun _ => ?_) | refine Br.beq (fun _ => ?_) (fun _ => ?_) | refine Br.bne (fun _ => ?_) (fun _ => ?_) | refine Br.seq (fun _ => ?_) (fun _ => ?_) | refine Elt.i (by omega) ?_ | refine EltN.i (by omega) ?_ | refine Nt.cast ?_ | refine Nt.mk _ rfl ?_ | refine EltN.mk _ rfl ?_ | refine Mx.mk _ rfl ?_ | refine Br.mk (fun _ => ?_) (fun _ => ?_) | refine EndP.mk ?_ trivial | refine EndP.mk ?_ ⟨.inr ⟨List.mem_cons_self .., ?_, rfl⟩, trivial⟩ | refine Ar.i64 (by omega) ?_ | refine Ar.u8 (by omega) ?_ | refine Quo.pos (by omega) ?_ | refine Rem.pos (by omega) ?_ | refine BsP.own ?_ | refine SetN.two ?_ | refine SetN.one ?_ | refine Ob.mk ⟨rfl, rfl⟩ ?_ | refine Ob.mk (flat_i _ _).1 ?_ | refine Ob.mk (flat_i _ _) ?_ | refine Ob.mk (flat_s _) ?_ | refine Ob.mk (by first | omega | (simp; first | done | fail) | (simp; omega)) ?_ | fail
  conv => whnf
  refine LoopP.mk [1,4,5,6,12,13,14] (fun s : CtS => [(1, .i .i64 who), (4, .b false), (5, .b s.has), (6, .i .i64 s.last), (12, .sl (a.looks.map lookVs)), (13, .i .i64 (a.looks.length : Nat)), (14, .i .i64 s.i)])
    (fun s => a.looks.length - s.i) (fun s => s.i ≤ a.looks.length ∧ ctLooks who (a.looks.drop s.i) (s.has, s.last) = countsOk a who) ?_ ?_
  · conv => whnf
    refine ⟨⟨0, false, 0⟩, ⟨Nat.zero_le _, rfl⟩, ?_⟩
    try rw [hm]
    rfl
  · rintro ⟨i, has, last⟩ ⟨hi, hr⟩
    dsimp only at hi hr ⊢
    generalize countsOk a who = R at hr ⊢
    by_cases hlt : i < a.looks.length
    · rw [ct_look hlt] at hr
      have hz := h2 i hlt
      have hm2 : ((gt lookD a.looks i).tells.map tellV).length = (gt lookD a.looks i).tells.length := by simp
      repeat' (conv => whnf); first | refine Elt.gt lookD hlt ?_ | refine EltN.gt lookD hlt ?_ | refine Br.tt ?_ | refine Br.ff ?_ | refine Br.not ?_ | refine Br.dand (fun _ => ?_) (fun _ => ?_) | refine Br.dec (fun _ => ?_) (fun _ => ?_) | refine Br.beq (fun _ => ?_) (fun _ => ?_) | refine Br.bne (fun _ => ?_) (fun _ => ?_) | refine Br.seq (fun _ => ?_) (fun _ => ?_) | refine Elt.i (by omega) ?_ | refine EltN.i (by omega) ?_ | refine Nt.cast ?_ | refine Nt.mk _ rfl ?_ | refine EltN.mk _ rfl ?_ | refine Mx.mk _ rfl ?_ | refine Br.mk (fun _ => ?_) (fun _ => ?_) | refine EndP.mk ?_ trivial | refine EndP.mk ?_ ⟨.inr ⟨List.mem_cons_self .., ?_, rfl⟩, trivial⟩ | refine Ar.i64 (by omega) ?_ | refine Ar.u8 (by omega) ?_ | refine Quo.pos (by omega) ?_ | refine Rem.pos (by omega) ?_ | refine BsP.own ?_ | refine SetN.two ?_ | refine SetN.one ?_ | refine Ob.mk ⟨rfl, rfl⟩ ?_ | refine Ob.mk (flat_i _ _).1 ?_ | refine Ob.mk (flat_i _ _) ?_ | refine Ob.mk (flat_s _) ?_ | refine Ob.mk (by first | omega | (simp; first | done | fail) | (simp; omega)) ?_ | fail
      all_goals try (exfalso; omega)
      all_goals (conv => whnf)
      generalize (gt lookD a.looks i).tells = ts at *
      refine LoopP.mk [1,4,5,6,12,13,14,19,20,21] (fun s : CtS => [(1, .i .i64 who), (4, .b false), (5, .b s.has), (6, .i .i64 s.last), (12, .sl (a.looks.map lookVs)), (13, .i .i64 (a.looks.length : Nat)), (14, .i .i64 i), (19, .sl (ts.map tellV)), (20, .i .i64 (ts.length : Nat)), (21, .i .i64 s.i)])
        (fun s => ts.length - s.i) (fun s => s.i ≤ ts.length ∧ ctRest who (ts.drop s.i) (a.looks.drop (i + 1)) (s.has, s.last) = R) ?_ ?_
      · conv => whnf
        refine ⟨⟨0, has, last⟩, ⟨Nat.zero_le _, hr⟩, ?_⟩
        try rw [hm2]
        rfl
      · rintro ⟨j, hs, la⟩ ⟨hj, hr⟩
        dsimp only at hj hr ⊢
        by_cases hlj : j < ts.length
        · rw [ct_tell hlj] at hr
          have e1 := fun k => @ctS_other who (gt tellD ts j) (hs, la) k
          have e2 := fun k => @ctS_none who (gt tellD ts j) (hs, la) k
          have e3 := fun k => @ctS_live who (gt tellD ts j) (hs, la) k
          have e4 := fun k => @ctS_hold who (gt tellD ts j) (hs, la) k
          repeat' (conv => whnf); first | refine Elt.gt tellD hlj ?_ | refine EltN.gt tellD hlj ?_ | refine Br.tt ?_ | refine Br.ff ?_ | refine Br.not ?_ | refine Br.dand (fun _ => ?_) (fun _ => ?_) | refine Br.dec (fun _ => ?_) (fun _ => ?_) | refine Br.beq (fun _ => ?_) (fun _ => ?_) | refine Br.bne (fun _ => ?_) (fun _ => ?_) | refine Br.seq (fun _ => ?_) (fun _ => ?_) | refine Elt.i (by omega) ?_ | refine EltN.i (by omega) ?_ | refine Nt.cast ?_ | refine Nt.mk _ rfl ?_ | refine EltN.mk _ rfl ?_ | refine Mx.mk _ rfl ?_ | refine Br.mk (fun _ => ?_) (fun _ => ?_) | refine EndP.mk ?_ trivial | refine EndP.mk ?_ ⟨.inr ⟨List.mem_cons_self .., ?_, rfl⟩, trivial⟩ | refine Ar.i64 (by omega) ?_ | refine Ar.u8 (by omega) ?_ | refine Quo.pos (by omega) ?_ | refine Rem.pos (by omega) ?_ | refine BsP.own ?_ | refine SetN.two ?_ | refine SetN.one ?_ | refine Ob.mk ⟨rfl, rfl⟩ ?_ | refine Ob.mk (flat_i _ _).1 ?_ | refine Ob.mk (flat_i _ _) ?_ | refine Ob.mk (flat_s _) ?_ | refine Ob.mk (by first | omega | (simp; first | done | fail) | (simp; omega)) ?_ | fail
          all_goals first
            | (exfalso; omega)
            | (rw [e1 (by assumption)] at hr
               conv => whnf
               exact ⟨⟨j + 1, hs, la⟩, ⟨by simp only; omega, hr⟩, by simp only; omega, rfl⟩)
            | (rw [e2 (by assumption) (by assumption)] at hr
               conv => whnf
               exact ⟨⟨j + 1, hs, la⟩, ⟨by simp only; omega, hr⟩, by simp only; omega, rfl⟩)
            | (rw [e3 (by assumption) (by assumption), if_pos (by refine ⟨by assumption, by simp only; omega⟩)] at hr
               rw [← hr]; rfl)
            | (rw [e3 (by assumption) (by assumption), if_neg (by rintro ⟨k1, k2⟩; simp only at k1 k2; first | omega | simp_all)] at hr
               conv => whnf
               exact ⟨⟨j + 1, true, (gt tellD ts j).count⟩, ⟨by simp only; omega, hr⟩, by simp only; omega, rfl⟩)
            | (rw [e4 (by assumption) (by assumption), if_pos (by refine ⟨by assumption, by simp only; omega⟩)] at hr
               conv => whnf
               exact ⟨⟨j + 1, hs, la⟩, ⟨by simp only; omega, hr⟩, by simp only; omega, rfl⟩)
            | (rw [e4 (by assumption) (by assumption), if_neg (by rintro ⟨k1, k2⟩; simp only at k1 k2; first | omega | simp_all)] at hr
               rw [← hr]; rfl)
            | (trace_state; fail)
        · obtain rfl : j = ts.length := by omega
          rw [ct_end] at hr
          repeat' (conv => whnf); first | refine Br.tt ?_ | refine Br.ff ?_ | refine Br.not ?_ | refine Br.dand (fun _ => ?_) (fun _ => ?_) | refine Br.dec (fun _ => ?_) (fun _ => ?_) | refine Br.beq (fun _ => ?_) (fun _ => ?_) | refine Br.bne (fun _ => ?_) (fun _ => ?_) | refine Br.seq (fun _ => ?_) (fun _ => ?_) | refine Elt.i (by omega) ?_ | refine EltN.i (by omega) ?_ | refine Nt.cast ?_ | refine Nt.mk _ rfl ?_ | refine EltN.mk _ rfl ?_ | refine Mx.mk _ rfl ?_ | refine Br.mk (fun _ => ?_) (fun _ => ?_) | refine EndP.mk ?_ trivial | refine EndP.mk ?_ ⟨.inr ⟨List.mem_cons_self .., ?_, rfl⟩, trivial⟩ | refine Ar.i64 (by omega) ?_ | refine Ar.u8 (by omega) ?_ | refine Quo.pos (by omega) ?_ | refine Rem.pos (by omega) ?_ | refine BsP.own ?_ | refine SetN.two ?_ | refine SetN.one ?_ | refine Ob.mk ⟨rfl, rfl⟩ ?_ | refine Ob.mk (flat_i _ _).1 ?_ | refine Ob.mk (flat_i _ _) ?_ | refine Ob.mk (flat_s _) ?_ | refine Ob.mk (by first | omega | (simp; first | done | fail) | (simp; omega)) ?_ | fail
          all_goals first
            | (exfalso; omega)
            | (conv => whnf
               exact ⟨⟨i + 1, hs, la⟩, ⟨by simp only; omega, hr⟩, by simp only; omega, rfl⟩)
    · obtain rfl : i = a.looks.length := by omega
      rw [ct_done] at hr
      subst hr
      repeat' (conv => whnf); first | refine Br.tt ?_ | refine Br.ff ?_ | refine Br.not ?_ | refine Br.dand (fun _ => ?_) (fun _ => ?_) | refine Br.dec (fun _ => ?_) (fun _ => ?_) | refine Br.beq (fun _ => ?_) (fun _ => ?_) | refine Br.bne (fun _ => ?_) (fun _ => ?_) | refine Br.seq (fun _ => ?_) (fun _ => ?_) | refine Elt.i (by omega) ?_ | refine EltN.i (by omega) ?_ | refine Nt.cast ?_ | refine Nt.mk _ rfl ?_ | refine EltN.mk _ rfl ?_ | refine Mx.mk _ rfl ?_ | refine Br.mk (fun _ => ?_) (fun _ => ?_) | refine EndP.mk ?_ trivial | refine EndP.mk ?_ ⟨.inr ⟨List.mem_cons_self .., ?_, rfl⟩, trivial⟩ | refine Ar.i64 (by omega) ?_ | refine Ar.u8 (by omega) ?_ | refine Quo.pos (by omega) ?_ | refine Rem.pos (by omega) ?_ | refine BsP.own ?_ | refine SetN.two ?_ | refine SetN.one ?_ | refine Ob.mk ⟨rfl, rfl⟩ ?_ | refine Ob.mk (flat_i _ _).1 ?_ | refine Ob.mk (flat_i _ _) ?_ | refine Ob.mk (flat_s _) ?_ | refine Ob.mk (by first | omega | (simp; first | done | fail) | (simp; omega)) ?_ | fail
      all_goals first
        | (exfalso; omega)
        | rfl
set_option maxHeartbeats 16000000 in
theorem countsOk_spec (a : WorldD) (who : Int) (h1 : a.looks.length ≤ 1000000000) (h2 : ∀ n, n < a.looks.length → (gt lookD a.looks n).tells.length ≤ 1000000000) :
    Vow Try.prog 14 [worldVs a, .i .i64 who] (.b (countsOk a who)) [] := by
  have hm : (a.looks.map lookVs).length = a.looks.length := by simp
  refine vow_of_ev (fn := Try.f14) [] [(0, 0), (0, 0), (0, 0), (0, 0), (10, 14), (15, 17), (0, 0), (17, 25), (26, 28), (28, 37), (37, 40), (41, 43), (44, 50), (0, 0), (51, 53), (0, 0), (53, 65), (0, 0), (0, 0)] tt_ok Try.func14 (by decide) rfl (Nat.le_of_ble_eq_true rfl) rfl rfl rfl ?_
  repeat' (conv => whnf); first | refine Br.tt ?_ | refine Br.ff ?_ | refine Br.not ?_ | refine Br.dand (fun _ => ?_) (fun _ => ?_) | refine Br.dec (fun _ => ?_) (fun _ => ?_) | refine Br.beq (fun _ => ?_) (fun _ => ?_) | refine Br.bne (fun _ => ?_) (fun _ => ?_) | refine Br.seq (fun _ => ?_) (fun _ => ?_) | refine Elt.i (by omega) ?_ | refine EltN.i (by omega) ?_ | refine Nt.cast ?_ | refine Nt.mk _ rfl ?_ | refine EltN.mk _ rfl ?_ | refine Mx.mk _ rfl ?_ | refine Br.mk (fun _ => ?_) (fun _ => ?_) | refine EndP.mk ?_ trivial | refine EndP.mk ?_ ⟨.inr ⟨List.mem_cons_self .., ?_, rfl⟩, trivial⟩ | refine Ar.i64 (by omega) ?_ | refine Ar.u8 (by omega) ?_ | refine Quo.pos (by omega) ?_ | refine Rem.pos (by omega) ?_ | refine BsP.own ?_ | refine SetN.two ?_ | refine SetN.one ?_ | refine Ob.mk ⟨rfl, rfl⟩ ?_ | refine Ob.mk (flat_i _ _).1 ?_ | refine Ob.mk (flat_i _ _) ?_ | refine Ob.mk (flat_s _) ?_ | refine Ob.mk (by first | omega | (simp; first | done | fail) | (simp; omega)) ?_ | fail
  conv => whnf
  refine LoopP.mk [1,2,4,5,6,7] (fun s : CtS => [(1, .i .i64 who), (2, worldB a), (4, .b false), (5, .i .i64 s.last), (6, .b s.has), (7, .i .i64 s.i)])
    (fun s => a.looks.length - s.i) (fun s => s.i ≤ a.looks.length ∧ ctLooks who (a.looks.drop s.i) (s.has, s.last) = countsOk a who) ?_ ?_
  · conv => whnf
    exact ⟨⟨0, false, 0⟩, ⟨Nat.zero_le _, rfl⟩, rfl⟩
  · rintro ⟨i, has, last⟩ ⟨hi, hr⟩
    dsimp only at hi hr ⊢
    generalize countsOk a who = R at hr ⊢
    by_cases hlt : i < a.looks.length
    · rw [ct_look hlt] at hr
      have hz := h2 i hlt
      have hm2 : ((gt lookD a.looks i).tells.map tellV).length = (gt lookD a.looks i).tells.length := by simp
      repeat' (conv => whnf); first | refine Elt.gt lookD hlt ?_ | refine EltN.gt lookD hlt ?_ | refine Br.tt ?_ | refine Br.ff ?_ | refine Br.not ?_ | refine Br.dand (fun _ => ?_) (fun _ => ?_) | refine Br.dec (fun _ => ?_) (fun _ => ?_) | refine Br.beq (fun _ => ?_) (fun _ => ?_) | refine Br.bne (fun _ => ?_) (fun _ => ?_) | refine Br.seq (fun _ => ?_) (fun _ => ?_) | refine Elt.i (by omega) ?_ | refine EltN.i (by omega) ?_ | refine Nt.cast ?_ | refine Nt.mk _ rfl ?_ | refine EltN.mk _ rfl ?_ | refine Mx.mk _ rfl ?_ | refine Br.mk (fun _ => ?_) (fun _ => ?_) | refine EndP.mk ?_ trivial | refine EndP.mk ?_ ⟨.inr ⟨List.mem_cons_self .., ?_, rfl⟩, trivial⟩ | refine Ar.i64 (by omega) ?_ | refine Ar.u8 (by omega) ?_ | refine Quo.pos (by omega) ?_ | refine Rem.pos (by omega) ?_ | refine BsP.own ?_ | refine SetN.two ?_ | refine SetN.one ?_ | refine Ob.mk ⟨rfl, rfl⟩ ?_ | refine Ob.mk (flat_i _ _).1 ?_ | refine Ob.mk (flat_i _ _) ?_ | refine Ob.mk (flat_s _) ?_ | refine Ob.mk (by first | omega | (simp; first | done | fail) | (simp; omega)) ?_ | fail
      all_goals try (exfalso; omega)
      all_goals (conv => whnf)
      refine LoopP.mk [1,2,4,5,6,7,8] (fun s : CtS => [(1, .i .i64 who), (2, worldB a), (4, .b false), (5, .i .i64 s.last), (6, .b s.has), (7, .i .i64 i), (8, .i .i64 s.i)])
        (fun s => (gt lookD a.looks i).tells.length - s.i) (fun s => s.i ≤ (gt lookD a.looks i).tells.length ∧ ctRest who ((gt lookD a.looks i).tells.drop s.i) (a.looks.drop (i + 1)) (s.has, s.last) = R) ?_ ?_
      · conv => whnf
        exact ⟨⟨0, has, last⟩, ⟨Nat.zero_le _, hr⟩, rfl⟩
      · rintro ⟨j, hs, la⟩ ⟨hj, hr⟩
        dsimp only at hj hr ⊢
        by_cases hlj : j < (gt lookD a.looks i).tells.length
        · rw [ct_tell hlj] at hr
          have e1 := fun k => @ctS_other who (gt tellD (gt lookD a.looks i).tells j) (hs, la) k
          have e2 := fun k => @ctS_none who (gt tellD (gt lookD a.looks i).tells j) (hs, la) k
          have e3 := fun k => @ctS_live who (gt tellD (gt lookD a.looks i).tells j) (hs, la) k
          have e4 := fun k => @ctS_hold who (gt tellD (gt lookD a.looks i).tells j) (hs, la) k
          repeat' (conv => whnf); first | refine Elt.gt lookD hlt ?_ | refine EltN.gt lookD hlt ?_ | refine Elt.gt tellD hlj ?_ | refine EltN.gt tellD hlj ?_ | refine Br.tt ?_ | refine Br.ff ?_ | refine Br.not ?_ | refine Br.dand (fun _ => ?_) (fun _ => ?_) | refine Br.dec (fun _ => ?_) (fun _ => ?_) | refine Br.beq (fun _ => ?_) (fun _ => ?_) | refine Br.bne (fun _ => ?_) (fun _ => ?_) | refine Br.seq (fun _ => ?_) (fun _ => ?_) | refine Elt.i (by omega) ?_ | refine EltN.i (by omega) ?_ | refine Nt.cast ?_ | refine Nt.mk _ rfl ?_ | refine EltN.mk _ rfl ?_ | refine Mx.mk _ rfl ?_ | refine Br.mk (fun _ => ?_) (fun _ => ?_) | refine EndP.mk ?_ trivial | refine EndP.mk ?_ ⟨.inr ⟨List.mem_cons_self .., ?_, rfl⟩, trivial⟩ | refine Ar.i64 (by omega) ?_ | refine Ar.u8 (by omega) ?_ | refine Quo.pos (by omega) ?_ | refine Rem.pos (by omega) ?_ | refine BsP.own ?_ | refine SetN.two ?_ | refine SetN.one ?_ | refine Ob.mk ⟨rfl, rfl⟩ ?_ | refine Ob.mk (flat_i _ _).1 ?_ | refine Ob.mk (flat_i _ _) ?_ | refine Ob.mk (flat_s _) ?_ | refine Ob.mk (by first | omega | (simp; first | done | fail) | (simp; omega)) ?_ | fail
          all_goals first
            | (exfalso; omega)
            | (rw [e1 (by assumption)] at hr
               conv => whnf
               exact ⟨⟨j + 1, hs, la⟩, ⟨by simp only; omega, hr⟩, by simp only; omega, rfl⟩)
            | (rw [e2 (by assumption) (by assumption)] at hr
               conv => whnf
               exact ⟨⟨j + 1, hs, la⟩, ⟨by simp only; omega, hr⟩, by simp only; omega, rfl⟩)
            | (rw [e3 (by assumption) (by assumption), if_pos (by refine ⟨by assumption, by simp only; omega⟩)] at hr
               rw [← hr]; rfl)
            | (rw [e3 (by assumption) (by assumption), if_neg (by rintro ⟨k1, k2⟩; simp only at k1 k2; first | omega | simp_all)] at hr
               conv => whnf
               exact ⟨⟨j + 1, true, (gt tellD (gt lookD a.looks i).tells j).count⟩, ⟨by simp only; omega, hr⟩, by simp only; omega, rfl⟩)
            | (rw [e4 (by assumption) (by assumption), if_pos (by refine ⟨by assumption, by simp only; omega⟩)] at hr
               conv => whnf
               exact ⟨⟨j + 1, hs, la⟩, ⟨by simp only; omega, hr⟩, by simp only; omega, rfl⟩)
            | (rw [e4 (by assumption) (by assumption), if_neg (by rintro ⟨k1, k2⟩; simp only at k1 k2; first | omega | simp_all)] at hr
               rw [← hr]; rfl)
            | (trace_state; fail)
        · obtain rfl : j = (gt lookD a.looks i).tells.length := by omega
          rw [ct_end] at hr
          repeat' (conv => whnf); first | refine Elt.gt lookD hlt ?_ | refine EltN.gt lookD hlt ?_ | refine Br.tt ?_ | refine Br.ff ?_ | refine Br.not ?_ | refine Br.dand (fun _ => ?_) (fun _ => ?_) | refine Br.dec (fun _ => ?_) (fun _ => ?_) | refine Br.beq (fun _ => ?_) (fun _ => ?_) | refine Br.bne (fun _ => ?_) (fun _ => ?_) | refine Br.seq (fun _ => ?_) (fun _ => ?_) | refine Elt.i (by omega) ?_ | refine EltN.i (by omega) ?_ | refine Nt.cast ?_ | refine Nt.mk _ rfl ?_ | refine EltN.mk _ rfl ?_ | refine Mx.mk _ rfl ?_ | refine Br.mk (fun _ => ?_) (fun _ => ?_) | refine EndP.mk ?_ trivial | refine EndP.mk ?_ ⟨.inr ⟨List.mem_cons_self .., ?_, rfl⟩, trivial⟩ | refine Ar.i64 (by omega) ?_ | refine Ar.u8 (by omega) ?_ | refine Quo.pos (by omega) ?_ | refine Rem.pos (by omega) ?_ | refine BsP.own ?_ | refine SetN.two ?_ | refine SetN.one ?_ | refine Ob.mk ⟨rfl, rfl⟩ ?_ | refine Ob.mk (flat_i _ _).1 ?_ | refine Ob.mk (flat_i _ _) ?_ | refine Ob.mk (flat_s _) ?_ | refine Ob.mk (by first | omega | (simp; first | done | fail) | (simp; omega)) ?_ | fail
          all_goals first
            | (exfalso; omega)
            | (conv => whnf
               exact ⟨⟨i + 1, hs, la⟩, ⟨by simp only; omega, hr⟩, by simp only; omega, rfl⟩)
    · obtain rfl : i = a.looks.length := by omega
      rw [ct_done] at hr
      subst hr
      repeat' (conv => whnf); first | refine Br.tt ?_ | refine Br.ff ?_ | refine Br.not ?_ | refine Br.dand (fun _ => ?_) (fun _ => ?_) | refine Br.dec (fun _ => ?_) (fun _ => ?_) | refine Br.beq (fun _ => ?_) (fun _ => ?_) | refine Br.bne (fun _ => ?_) (fun _ => ?_) | refine Br.seq (fun _ => ?_) (fun _ => ?_) | refine Elt.i (by omega) ?_ | refine EltN.i (by omega) ?_ | refine Nt.cast ?_ | refine Nt.mk _ rfl ?_ | refine EltN.mk _ rfl ?_ | refine Mx.mk _ rfl ?_ | refine Br.mk (fun _ => ?_) (fun _ => ?_) | refine EndP.mk ?_ trivial | refine EndP.mk ?_ ⟨.inr ⟨List.mem_cons_self .., ?_, rfl⟩, trivial⟩ | refine Ar.i64 (by omega) ?_ | refine Ar.u8 (by omega) ?_ | refine Quo.pos (by omega) ?_ | refine Rem.pos (by omega) ?_ | refine BsP.own ?_ | refine SetN.two ?_ | refine SetN.one ?_ | refine Ob.mk ⟨rfl, rfl⟩ ?_ | refine Ob.mk (flat_i _ _).1 ?_ | refine Ob.mk (flat_i _ _) ?_ | refine Ob.mk (flat_s _) ?_ | refine Ob.mk (by first | omega | (simp; first | done | fail) | (simp; omega)) ?_ | fail
      all_goals first
        | (exfalso; omega)
        | rfl
end Go.Proofs.Ytafipjhalboefaa
