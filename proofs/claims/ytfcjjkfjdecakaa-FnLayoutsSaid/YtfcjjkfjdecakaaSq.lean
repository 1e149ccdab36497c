/- Rows of events in the laws: compared, marked, held. No condition. -/
import Derived.Test.YtfcjjkfjdecakaaSp
import Derived.Test.YtfcjjkfjdecakaaSe
namespace Go.Proofs.Ytfcjjkfjdecakaa
open Go Go.Vx
set_option linter.unusedVariables false
set_option linter.unusedSimpArgs false
set_option maxHeartbeats 600000
set_option maxRecDepth 100000

theorem eqEvent_vow (a b : Event) : Vow Try.prog 107 [eventV a, eventV b] (.b (decide (a = b))) [] := by
  refine vow_of_ev (fn := Try.f107) [] [(0, 0), (5, 9), (0, 0), (10, 14), (0, 0), (15, 19), (0, 0), (20, 24), (0, 0), (0, 0)] tt_ok Try.func107 (by decide) rfl (Nat.le_of_ble_eq_true rfl) rfl rfl rfl ?_
  obtain ⟨a1, a2, a3, a4⟩ := a
  obtain ⟨b1, b2, b3, b4⟩ := b
  repeat' (conv => whnf); first | refine Br.tt ?_ | refine Br.ff ?_ | refine Br.not ?_ | refine Br.dand (fun _ => ?_) (fun _ => ?_) | refine Br.dec (fun _ => ?_) (fun _ => ?_) | refine Br.beq (fun _ => ?_) (fun _ => ?_) | refine Br.bne (fun _ => ?_) (fun _ => ?_) | refine Br.seq (fun _ => ?_) (fun _ => ?_) | refine Elt.i (by omega) ?_ | refine EltN.i (by omega) ?_ | refine Nt.cast ?_ | refine Nt.mk _ rfl ?_ | refine EltN.mk _ rfl ?_ | refine Mx.mk _ rfl ?_ | refine Br.mk (fun _ => ?_) (fun _ => ?_) | refine EndP.mk ?_ trivial | refine EndP.mk ?_ ⟨.inr ⟨List.mem_cons_self .., ?_, rfl⟩, trivial⟩ | refine Ar.i64 (by omega) ?_ | refine Ar.u8 (by omega) ?_ | refine Quo.pos (by omega) ?_ | refine Rem.pos (by omega) ?_ | refine BsP.own ?_ | refine Ob.mk ⟨rfl, rfl⟩ ?_ | refine Ob.mk (flat_i _ _).1 ?_ | refine Ob.mk (flat_i _ _) ?_ | refine Ob.mk (flat_s _) ?_ | refine Ob.mk (by first | omega | (simp; first | done | fail) | (simp; omega)) ?_ | fail
  all_goals simp_all [resOf]

def evAtI (l : List Event) (i : Nat) : Event := l.getD i evZero
theorem evAtI_at {l : List Event} {i : Nat} (h : i < l.length) : (l.map eventV)[i]? = some (eventV (evAtI l i)) := by simp [evAtI, h]
theorem ev_next {a b : List Event} {i : Nat} (hl : a.length = b.length) (h : a.take i = b.take i) (hi : i < a.length) (he : evAtI a i = evAtI b i) : a.take (i + 1) = b.take (i + 1) := by
  rw [List.take_add_one, List.take_add_one, h]
  congr 1
  have h1 : a[i]? = some (evAtI a i) := by simp [evAtI, hi]
  have h2 : b[i]? = some (evAtI b i) := by simp [evAtI, show i < b.length by omega]
  rw [h1, h2, he]
theorem ev_ne {a b : List Event} {i : Nat} (he : ¬ evAtI a i = evAtI b i) : ¬ a = b := fun h => he (by rw [h])
theorem lt_set {xs : List V} {i j : Nat} {v : V} (h : j < xs.length) : j < (xs.set i v).length := by simp [h]
theorem _root_.Go.Vx.EltN.set {xs : List V} {i : Nat} {v : V} {κ : V → Prop} (h : i < xs.length) (g : κ v) : EltN (xs.set i v) i κ := .mk v (by simp [h]) g
theorem _root_.Go.Vx.Elt.ev {l : List Event} {j : Nat} {κ : V → Prop} (h : j < l.length) (g : κ (eventV (evAtI l j))) : Elt (l.map eventV) (j : Int) κ :=
  .mk _ (by omega) (by rw [Int.toNat_natCast]; exact evAtI_at h) g
theorem _root_.Go.Vx.EltN.ev {l : List Event} {j : Nat} {κ : V → Prop} (h : j < l.length) (g : κ (eventV (evAtI l j))) : EltN (l.map eventV) j κ :=
  .mk _ (evAtI_at h) g

def markEv (k : Int) (j : Nat) : Event := ⟨k + 4 * j, k + 4 * j + 1, k + 4 * j + 2, k + 4 * j + 3⟩
def markE (n : Nat) (k : Int) : List Event := (List.range n).map (markEv k)
theorem markE_len (n : Nat) (k : Int) : (markE n k).length = n := by simp [markE]
theorem markE_succ (n : Nat) (k : Int) : markE (n + 1) k = markE n k ++ [markEv k n] := by simp [markE, List.range_succ]
def markEAt (l : List Event) (k : Int) (i : Nat) : List Event := markE i k ++ l.drop i
theorem markEAt_len (l : List Event) (k : Int) {i : Nat} (h : i ≤ l.length) : ((markEAt l k i).map eventV).length = l.length := by simp [markEAt, markE_len]; omega
theorem markEAt_set (l : List Event) (k : Int) {i : Nat} (h : i < l.length) : ((markEAt l k i).map eventV).set i (eventV (markEv k i)) = (markEAt l k (i + 1)).map eventV := by
  rw [← List.map_set (f := eventV) (a := markEv k i)]
  congr 1
  unfold markEAt
  rw [List.set_append_right _ _ (by rw [markE_len]; omega), markE_len, Nat.sub_self, List.drop_eq_getElem_cons h, List.set_cons_zero, markE_succ]
  simp
theorem markEAt_all (l : List Event) (k : Int) : markEAt l k l.length = markE l.length k := by simp [markEAt]

def heldE (l : List Event) (k : Int) : Int := if l = markE l.length k then k + 4 * l.length else -1
theorem heldE_mark (n : Nat) (k : Int) : heldE (markE n k) k = k + 4 * n := by unfold heldE; rw [markE_len, if_pos rfl]
theorem heldE_next {l : List Event} {k : Int} {i : Nat} (h : l.take i = markE i k) (hi : i < l.length) (he : evAtI l i = markEv k i) : l.take (i + 1) = markE (i + 1) k := by
  rw [List.take_add_one, h, markE_succ]
  congr 1
  have h1 : l[i]? = some (evAtI l i) := by simp [evAtI, hi]
  rw [h1, he]; rfl
theorem heldE_ne {l : List Event} {k : Int} {i : Nat} (hi : i < l.length) (he : ¬ evAtI l i = markEv k i) : heldE l k = -1 := by
  unfold heldE
  rw [if_neg]
  intro h
  apply he
  have : evAtI (markE l.length k) i = markEv k i := by simp [evAtI, markE, hi]
  rw [← h] at this
  exact this

def evS (l : List Event) : V := .sl (l.map eventV)
def evO (l : List Event) : V := .ow 4 (l.map eventV)
theorem own_ev (l : List Event) : V.noSl.go (l.map eventV) = true := noSl_map (fun _ => rfl) l
theorem imm_ev (l : List Event) : (l.map eventV).map V.toImm = l.map eventV := map_toImm (fun _ => rfl) l


theorem eqEventS_vow (a b : List Event) (ha : a.length ≤ 17592186044416) (hb : b.length ≤ 17592186044416) : Vow Try.prog 44 [evS a, evS b] (.b (decide (a = b))) [] := by
  refine vow_of_ev (fn := Try.f44) [] [(0, 0), (6, 10), (0, 0), (0, 0), (11, 14), (15, 17), (17, 26), (0, 0), (0, 0)] tt_ok Try.func44 (by decide) rfl (Nat.le_of_ble_eq_true rfl) rfl rfl rfl ?_
  have l1 : (a.map eventV).length = a.length := by simp
  have l2 : (b.map eventV).length = b.length := by simp
  repeat' (conv => whnf); first | refine Br.tt ?_ | refine Br.ff ?_ | refine Br.not ?_ | refine Br.dand (fun _ => ?_) (fun _ => ?_) | refine Br.dec (fun _ => ?_) (fun _ => ?_) | refine Br.beq (fun _ => ?_) (fun _ => ?_) | refine Br.bne (fun _ => ?_) (fun _ => ?_) | refine Br.seq (fun _ => ?_) (fun _ => ?_) | refine Elt.i (by omega) ?_ | refine EltN.i (by omega) ?_ | refine Nt.cast ?_ | refine Nt.mk _ rfl ?_ | refine EltN.mk _ rfl ?_ | refine Mx.mk _ rfl ?_ | refine Br.mk (fun _ => ?_) (fun _ => ?_) | refine EndP.mk ?_ trivial | refine EndP.mk ?_ ⟨.inr ⟨List.mem_cons_self .., ?_, rfl⟩, trivial⟩ | refine Ar.i64 (by omega) ?_ | refine Ar.u8 (by omega) ?_ | refine Quo.pos (by omega) ?_ | refine Rem.pos (by omega) ?_ | refine BsP.own ?_ | refine Ob.mk ⟨rfl, rfl⟩ ?_ | refine Ob.mk (flat_i _ _).1 ?_ | refine Ob.mk (flat_i _ _) ?_ | refine Ob.mk (flat_s _) ?_ | refine Ob.mk (by first | omega | (simp; first | done | fail) | (simp; omega)) ?_ | fail
  · conv => whnf
    refine LoopP.mk [0,1,4,5] (fun i : Nat => [(0, evS a), (1, evS b), (4, .b false), (5, .i .i64 i)]) (fun i => a.length - i) (fun i => i ≤ a.length ∧ a.take i = b.take i) ?_ ?_
    · conv => whnf
      exact ⟨0, ⟨by omega, by simp⟩, rfl⟩
    · rintro i ⟨hi, ht⟩
      repeat' (conv => whnf); first | refine Elt.ev (by omega) ?_ | refine EltN.ev (by omega) ?_ | refine CallP.rd (eqEvent_vow (evAtI a i) (evAtI b i)) rfl rfl rfl rfl ?_ | refine DCall.rd (eqEvent_vow (evAtI a i) (evAtI b i)) rfl rfl ?_ | refine Br.tt ?_ | refine Br.ff ?_ | refine Br.not ?_ | refine Br.dand (fun _ => ?_) (fun _ => ?_) | refine Br.dec (fun _ => ?_) (fun _ => ?_) | refine Br.beq (fun _ => ?_) (fun _ => ?_) | refine Br.bne (fun _ => ?_) (fun _ => ?_) | refine Br.seq (fun _ => ?_) (fun _ => ?_) | refine Elt.i (by omega) ?_ | refine EltN.i (by omega) ?_ | refine Nt.cast ?_ | refine Nt.mk _ rfl ?_ | refine EltN.mk _ rfl ?_ | refine Mx.mk _ rfl ?_ | refine Br.mk (fun _ => ?_) (fun _ => ?_) | refine EndP.mk ?_ trivial | refine EndP.mk ?_ ⟨.inr ⟨List.mem_cons_self .., ?_, rfl⟩, trivial⟩ | refine Ar.i64 (by omega) ?_ | refine Ar.u8 (by omega) ?_ | refine Quo.pos (by omega) ?_ | refine Rem.pos (by omega) ?_ | refine BsP.own ?_ | refine Ob.mk ⟨rfl, rfl⟩ ?_ | refine Ob.mk (flat_i _ _).1 ?_ | refine Ob.mk (flat_i _ _) ?_ | refine Ob.mk (flat_s _) ?_ | refine Ob.mk (by first | omega | (simp; first | done | fail) | (simp; omega)) ?_ | fail
      · conv => whnf
        exact ⟨i + 1, ⟨by omega, ev_next (by omega) ht (by omega) (by assumption)⟩, by omega, rfl⟩
      · simp [resOf, ev_ne (by assumption)]
      · obtain rfl : i = a.length := by omega
        have : a = b := by
          rw [List.take_length, show a.length = b.length by omega, List.take_length] at ht
          exact ht
        simp [resOf, this]
  · have : ¬ a = b := fun h => by subst h; omega
    simp [resOf, this]

theorem markEventS_vow (l : List Event) (k : Int) (hz : l.length ≤ 17592186044416) (hk : 0 ≤ k ∧ k ≤ 1000000000000000000) :
    Vow Try.prog 47 [evO l, .i .i64 k] (.i .i64 (k + 4 * l.length)) [evO (markE l.length k)] := by
  refine vow_of_ev (fn := Try.f47) [0] [(0, 0), (0, 0), (6, 9), (10, 12), (12, 17), (17, 19), (19, 24), (24, 26), (26, 31), (31, 33), (33, 38), (38, 40), (40, 41)] tt_ok Try.func47 (by decide) rfl (Nat.le_of_ble_eq_true rfl) rfl rfl rfl ?_
  repeat' (conv => whnf); first | refine Br.tt ?_ | refine Br.ff ?_ | refine Br.not ?_ | refine Br.dand (fun _ => ?_) (fun _ => ?_) | refine Br.dec (fun _ => ?_) (fun _ => ?_) | refine Br.beq (fun _ => ?_) (fun _ => ?_) | refine Br.bne (fun _ => ?_) (fun _ => ?_) | refine Br.seq (fun _ => ?_) (fun _ => ?_) | refine Elt.i (by omega) ?_ | refine EltN.i (by omega) ?_ | refine Nt.cast ?_ | refine Nt.mk _ rfl ?_ | refine EltN.mk _ rfl ?_ | refine Mx.mk _ rfl ?_ | refine Br.mk (fun _ => ?_) (fun _ => ?_) | refine EndP.mk ?_ trivial | refine EndP.mk ?_ ⟨.inr ⟨List.mem_cons_self .., ?_, rfl⟩, trivial⟩ | refine Ar.i64 (by omega) ?_ | refine Ar.u8 (by omega) ?_ | refine Quo.pos (by omega) ?_ | refine Rem.pos (by omega) ?_ | refine BsP.own ?_ | refine Ob.mk ⟨rfl, rfl⟩ ?_ | refine Ob.mk (flat_i _ _).1 ?_ | refine Ob.mk (flat_i _ _) ?_ | refine Ob.mk (flat_s _) ?_ | refine Ob.mk (by first | omega | (simp; first | done | fail) | (simp; omega)) ?_ | fail
  · conv => whnf
    refine LoopP.mk [0,1,4,5] (fun i : Nat => [(0, evO (markEAt l k i)), (1, .i .i64 (k + 4 * i)), (4, .i .i64 0), (5, .i .i64 i)]) (fun i => l.length - i) (fun i => i ≤ l.length) ?_ ?_
    · conv => whnf
      exact ⟨0, by omega, by simp [markEAt, markE] <;> rfl⟩
    · intro i hi
      have hl := markEAt_len l k hi
      have hl2 : (markEAt l k i).length = l.length := by simpa using hl
      repeat' (conv => whnf); first | refine EltN.set (by first | omega | exact lt_set (by omega) | exact lt_set (lt_set (by omega)) | exact lt_set (lt_set (lt_set (by omega)))) ?_ | refine EltN.ev (by omega) ?_ | refine Br.tt ?_ | refine Br.ff ?_ | refine Br.not ?_ | refine Br.dand (fun _ => ?_) (fun _ => ?_) | refine Br.dec (fun _ => ?_) (fun _ => ?_) | refine Br.beq (fun _ => ?_) (fun _ => ?_) | refine Br.bne (fun _ => ?_) (fun _ => ?_) | refine Br.seq (fun _ => ?_) (fun _ => ?_) | refine Elt.i (by omega) ?_ | refine EltN.i (by omega) ?_ | refine Nt.cast ?_ | refine Nt.mk _ rfl ?_ | refine EltN.mk _ rfl ?_ | refine Mx.mk _ rfl ?_ | refine Br.mk (fun _ => ?_) (fun _ => ?_) | refine EndP.mk ?_ trivial | refine EndP.mk ?_ ⟨.inr ⟨List.mem_cons_self .., ?_, rfl⟩, trivial⟩ | refine Ar.i64 (by omega) ?_ | refine Ar.u8 (by omega) ?_ | refine Quo.pos (by omega) ?_ | refine Rem.pos (by omega) ?_ | refine BsP.own ?_ | refine Ob.mk ⟨rfl, rfl⟩ ?_ | refine Ob.mk (flat_i _ _).1 ?_ | refine Ob.mk (flat_i _ _) ?_ | refine Ob.mk (flat_s _) ?_ | refine Ob.mk (by first | omega | (simp; first | done | fail) | (simp; omega)) ?_ | fail
      · conv => whnf
        refine ⟨i + 1, by omega, by omega, ?_⟩
        have e1 : k + 4 * (i : Int) + 1 + 1 = k + 4 * i + 2 := by omega
        have e2 : k + 4 * (i : Int) + 2 + 1 = k + 4 * i + 3 := by omega
        have e3 : k + 4 * (i : Int) + 3 + 1 = k + 4 * ((i + 1 : Nat) : Int) := by omega
        simp only [List.set_set, e1, e2, e3]
        rw [show ((markEAt l k i).map eventV).set i (.ag [.i .i64 (k + 4 * i), .i .i64 (k + 4 * i + 1), .i .i64 (k + 4 * i + 2), .i .i64 (k + 4 * i + 3)]) = _ from markEAt_set l k (show i < l.length by omega)]
        rfl
      · obtain rfl : i = l.length := by omega
        rfl
      · obtain rfl : i = l.length := by omega
        rw [← markEAt_all]
        rfl

theorem heldEventS_vow (l : List Event) (k : Int) (hz : l.length ≤ 17592186044416) (hk : 0 ≤ k ∧ k ≤ 1000000000000000000) : Vow Try.prog 48 [evS l, .i .i64 k] (.i .i64 (heldE l k)) [] := by
  refine vow_of_ev (fn := Try.f48) [] [(0, 0), (0, 0), (6, 9), (10, 12), (12, 18), (0, 0), (19, 21), (21, 27), (0, 0), (28, 30), (30, 36), (0, 0), (37, 39), (39, 45), (0, 0), (46, 48), (48, 49)] tt_ok Try.func48 (by decide) rfl (Nat.le_of_ble_eq_true rfl) rfl rfl rfl ?_
  have l1 : (l.map eventV).length = l.length := by simp
  repeat' (conv => whnf); first | refine Br.tt ?_ | refine Br.ff ?_ | refine Br.not ?_ | refine Br.dand (fun _ => ?_) (fun _ => ?_) | refine Br.dec (fun _ => ?_) (fun _ => ?_) | refine Br.beq (fun _ => ?_) (fun _ => ?_) | refine Br.bne (fun _ => ?_) (fun _ => ?_) | refine Br.seq (fun _ => ?_) (fun _ => ?_) | refine Elt.i (by omega) ?_ | refine EltN.i (by omega) ?_ | refine Nt.cast ?_ | refine Nt.mk _ rfl ?_ | refine EltN.mk _ rfl ?_ | refine Mx.mk _ rfl ?_ | refine Br.mk (fun _ => ?_) (fun _ => ?_) | refine EndP.mk ?_ trivial | refine EndP.mk ?_ ⟨.inr ⟨List.mem_cons_self .., ?_, rfl⟩, trivial⟩ | refine Ar.i64 (by omega) ?_ | refine Ar.u8 (by omega) ?_ | refine Quo.pos (by omega) ?_ | refine Rem.pos (by omega) ?_ | refine BsP.own ?_ | refine Ob.mk ⟨rfl, rfl⟩ ?_ | refine Ob.mk (flat_i _ _).1 ?_ | refine Ob.mk (flat_i _ _) ?_ | refine Ob.mk (flat_s _) ?_ | refine Ob.mk (by first | omega | (simp; first | done | fail) | (simp; omega)) ?_ | fail
  · conv => whnf
    refine LoopP.mk [0,1,4,5] (fun i : Nat => [(0, evS l), (1, .i .i64 (k + 4 * i)), (4, .i .i64 0), (5, .i .i64 i)]) (fun i => l.length - i) (fun i => i ≤ l.length ∧ l.take i = markE i k) ?_ ?_
    · conv => whnf
      exact ⟨0, ⟨by omega, by simp [markE]⟩, by simp <;> rfl⟩
    · rintro i ⟨hi, ht⟩
      have hev : ∀ (e : Event) (j : Nat), e = markEv k j ↔ e.kind = k + 4 * j ∧ e.a = k + 4 * j + 1 ∧ e.b = k + 4 * j + 1 + 1 ∧ e.c = k + 4 * j + 1 + 1 + 1 := by
        rintro ⟨e1, e2, e3, e4⟩ j
        simp only [markEv, Event.mk.injEq]
        omega
      repeat' (conv => whnf); first | refine Elt.ev (by omega) ?_ | refine EltN.ev (by omega) ?_ | refine Br.tt ?_ | refine Br.ff ?_ | refine Br.not ?_ | refine Br.dand (fun _ => ?_) (fun _ => ?_) | refine Br.dec (fun _ => ?_) (fun _ => ?_) | refine Br.beq (fun _ => ?_) (fun _ => ?_) | refine Br.bne (fun _ => ?_) (fun _ => ?_) | refine Br.seq (fun _ => ?_) (fun _ => ?_) | refine Elt.i (by omega) ?_ | refine EltN.i (by omega) ?_ | refine Nt.cast ?_ | refine Nt.mk _ rfl ?_ | refine EltN.mk _ rfl ?_ | refine Mx.mk _ rfl ?_ | refine Br.mk (fun _ => ?_) (fun _ => ?_) | refine EndP.mk ?_ trivial | refine EndP.mk ?_ ⟨.inr ⟨List.mem_cons_self .., ?_, rfl⟩, trivial⟩ | refine Ar.i64 (by omega) ?_ | refine Ar.u8 (by omega) ?_ | refine Quo.pos (by omega) ?_ | refine Rem.pos (by omega) ?_ | refine BsP.own ?_ | refine Ob.mk ⟨rfl, rfl⟩ ?_ | refine Ob.mk (flat_i _ _).1 ?_ | refine Ob.mk (flat_i _ _) ?_ | refine Ob.mk (flat_s _) ?_ | refine Ob.mk (by first | omega | (simp; first | done | fail) | (simp; omega)) ?_ | fail
      all_goals first
        | (conv => whnf
           refine ⟨i + 1, ⟨by omega, heldE_next ht (by omega) ((hev _ _).2 ⟨by assumption, by assumption, by assumption, by assumption⟩)⟩, by omega, ?_⟩
           rw [show k + 4 * (i : Int) + 1 + 1 + 1 + 1 = k + 4 * ((i + 1 : Nat) : Int) by omega]
           rfl)
        | (rw [heldE_ne (i := i) (by omega) (fun h => absurd ((hev _ _).1 h).1 (by assumption))]; rfl)
        | (rw [heldE_ne (i := i) (by omega) (fun h => absurd ((hev _ _).1 h).2.1 (by assumption))]; rfl)
        | (rw [heldE_ne (i := i) (by omega) (fun h => absurd ((hev _ _).1 h).2.2.1 (by assumption))]; rfl)
        | (rw [heldE_ne (i := i) (by omega) (fun h => absurd ((hev _ _).1 h).2.2.2 (by assumption))]; rfl)
        | (obtain rfl : i = l.length := by omega
           rw [List.take_length] at ht
           rw [heldE, if_pos ht]
           rfl)

end Go.Proofs.Ytfcjjkfjdecakaa