/- Rows of events in the laws. No condition. -/
import Derived.Test.YtaeaeefggcjjhaaBc
import Derived.Test.YtaeaeefggcjjhaaSd
namespace Go.Proofs.Ytaeaeefggcjjhaa
open Go Go.Vx
set_option linter.unusedVariables false
set_option linter.unusedSimpArgs false
set_option maxHeartbeats 600000
set_option maxRecDepth 100000
def eventB (a : Event) : V := .bx [.i .i64 a.kind, .i .i64 a.a, .i .i64 a.b, .i .i64 a.c]
def eventD : Event := ⟨0, 0, 0, 0⟩
structure HasEvent (x0 : Event) : Prop where
  kind : IntKind.i64.has x0.kind
  a : IntKind.i64.has x0.a
  b : IntKind.i64.has x0.b
  c : IntKind.i64.has x0.c
def eventK : List NK := [.int .i64, .int .i64, .int .i64, .int .i64]
theorem eventW (vs : List V) (h : NLeafs eventK vs) : ∃ a : Event, V.ag vs = eventV a ∧ HasEvent a := by
  obtain ⟨v0, r0, rfl, h0, h⟩ := h.cons_inv
  obtain ⟨v1, r1, rfl, h1, h⟩ := h.cons_inv
  obtain ⟨v2, r2, rfl, h2, h⟩ := h.cons_inv
  obtain ⟨v3, r3, rfl, h3, h⟩ := h.cons_inv
  obtain rfl := h.nil_inv
  obtain ⟨n0, rfl, e0⟩ := h0.int_inv
  obtain ⟨n1, rfl, e1⟩ := h1.int_inv
  obtain ⟨n2, rfl, e2⟩ := h2.int_inv
  obtain ⟨n3, rfl, e3⟩ := h3.int_inv
  exact ⟨⟨n0, n1, n2, n3⟩, rfl, ⟨e0, e1, e2, e3⟩⟩
theorem imm_eventV (a : Event) : (eventV a).toImm = eventV a := rfl
theorem own_eventV (a : Event) : (eventV a).noSl = true := rfl
theorem immR_eventV (l : List Event) : (l.map eventV).map V.toImm = l.map eventV := immR imm_eventV l
theorem ownR_eventV (l : List Event) : V.noSl.go (l.map eventV) = true := noSl_map own_eventV l
def meEvent (a : Event) (k : Int) : Event := ⟨k, k + 1, k + 1 + 1, k + 1 + 1 + 1⟩
def ceEvent (a : Event) : Nat := 4

theorem eqEvent_w (a : Event) : Vow Try.prog 64 [eventV a, eventV a] (.b true) [] := by
  refine vow_of_ev (fn := Try.f64) [] [(0, 0), (5, 9), (0, 0), (10, 14), (0, 0), (15, 19), (0, 0), (20, 24), (0, 0), (0, 0)] tt_ok Try.func64 (by decide) rfl (Nat.le_of_ble_eq_true rfl) rfl rfl rfl ?_
  repeat' (conv => whnf); first | refine Br.ne_self ?_ | refine Br.eq_self ?_ | refine Br.deq ?_ | refine Br.tt ?_ | refine Br.ff ?_ | refine Br.not ?_ | refine Br.dand (fun _ => ?_) (fun _ => ?_) | refine Br.dec (fun _ => ?_) (fun _ => ?_) | refine Br.beq (fun _ => ?_) (fun _ => ?_) | refine Br.bne (fun _ => ?_) (fun _ => ?_) | refine Br.seq (fun _ => ?_) (fun _ => ?_) | refine Elt.i (by omega) ?_ | refine EltN.i (by omega) ?_ | refine Nt.cast ?_ | refine Nt.mk _ rfl ?_ | refine EltN.mk _ rfl ?_ | refine Mx.mk _ rfl ?_ | refine Br.mk (fun _ => ?_) (fun _ => ?_) | refine EndP.mk ?_ trivial | refine EndP.mk ?_ ⟨.inr ⟨List.mem_cons_self .., ?_, rfl⟩, trivial⟩ | refine Ar.i64 (by omega) ?_ | refine Ar.u8 (by omega) ?_ | refine Quo.pos (by omega) ?_ | refine Rem.pos (by omega) ?_ | refine BsP.own ?_ | refine Ob.mk ⟨rfl, rfl⟩ ?_ | refine Ob.mk (flat_i _ _).1 ?_ | refine Ob.mk (flat_i _ _) ?_ | refine Ob.mk (flat_s _) ?_ | refine Ob.mk (by first | omega | (simp; first | done | fail) | (simp; omega)) ?_ | fail
  all_goals rfl

theorem eqEventS_w (l : List Event) (h : l.length ≤ 1000000000) : Vow Try.prog 17 [.sl (l.map eventV), .sl (l.map eventV)] (.b true) [] := by
  have hm : (l.map eventV).length = l.length := by simp
  refine vow_of_ev (fn := Try.f17) [] [(0, 0), (6, 10), (0, 0), (0, 0), (11, 14), (15, 17), (17, 26), (0, 0), (0, 0)] tt_ok Try.func17 (by decide) rfl (Nat.le_of_ble_eq_true rfl) rfl rfl rfl ?_
  repeat' (conv => whnf); first | refine Br.ne_self ?_ | refine Br.eq_self ?_ | refine Br.deq ?_ | refine Br.tt ?_ | refine Br.ff ?_ | refine Br.not ?_ | refine Br.dand (fun _ => ?_) (fun _ => ?_) | refine Br.dec (fun _ => ?_) (fun _ => ?_) | refine Br.beq (fun _ => ?_) (fun _ => ?_) | refine Br.bne (fun _ => ?_) (fun _ => ?_) | refine Br.seq (fun _ => ?_) (fun _ => ?_) | refine Elt.i (by omega) ?_ | refine EltN.i (by omega) ?_ | refine Nt.cast ?_ | refine Nt.mk _ rfl ?_ | refine EltN.mk _ rfl ?_ | refine Mx.mk _ rfl ?_ | refine Br.mk (fun _ => ?_) (fun _ => ?_) | refine EndP.mk ?_ trivial | refine EndP.mk ?_ ⟨.inr ⟨List.mem_cons_self .., ?_, rfl⟩, trivial⟩ | refine Ar.i64 (by omega) ?_ | refine Ar.u8 (by omega) ?_ | refine Quo.pos (by omega) ?_ | refine Rem.pos (by omega) ?_ | refine BsP.own ?_ | refine Ob.mk ⟨rfl, rfl⟩ ?_ | refine Ob.mk (flat_i _ _).1 ?_ | refine Ob.mk (flat_i _ _) ?_ | refine Ob.mk (flat_s _) ?_ | refine Ob.mk (by first | omega | (simp; first | done | fail) | (simp; omega)) ?_ | fail
  · conv => whnf
    refine LoopP.mk [0,1,4,5] (fun i : Nat => [(0, .sl (l.map eventV)), (1, .sl (l.map eventV)), (4, .b false), (5, .i .i64 i)]) (fun i => l.length - i) (fun i => i ≤ l.length) ?_ ?_
    · conv => whnf
      exact ⟨0, by omega, rfl⟩
    · intro i hi
      by_cases hlt : i < l.length
      · have hlt2 := hlt
        have f1 := eqEvent_w (gt eventD l i)
        repeat' (conv => whnf); first | refine Elt.gt eventD hlt ?_ | refine EltN.gt eventD hlt ?_ | refine CallP.rd (f1) rfl rfl rfl rfl ?_ | refine DCall.rd (f1) rfl rfl ?_ | refine Br.tt ?_ | refine Br.ff ?_ | refine Br.not ?_ | refine Br.dand (fun _ => ?_) (fun _ => ?_) | refine Br.dec (fun _ => ?_) (fun _ => ?_) | refine Br.beq (fun _ => ?_) (fun _ => ?_) | refine Br.bne (fun _ => ?_) (fun _ => ?_) | refine Br.seq (fun _ => ?_) (fun _ => ?_) | refine Elt.i (by omega) ?_ | refine EltN.i (by omega) ?_ | refine Nt.cast ?_ | refine Nt.mk _ rfl ?_ | refine EltN.mk _ rfl ?_ | refine Mx.mk _ rfl ?_ | refine Br.mk (fun _ => ?_) (fun _ => ?_) | refine EndP.mk ?_ trivial | refine EndP.mk ?_ ⟨.inr ⟨List.mem_cons_self .., ?_, rfl⟩, trivial⟩ | refine Ar.i64 (by omega) ?_ | refine Ar.u8 (by omega) ?_ | refine Quo.pos (by omega) ?_ | refine Rem.pos (by omega) ?_ | refine BsP.own ?_ | refine Ob.mk ⟨rfl, rfl⟩ ?_ | refine Ob.mk (flat_i _ _).1 ?_ | refine Ob.mk (flat_i _ _) ?_ | refine Ob.mk (flat_s _) ?_ | refine Ob.mk (by first | omega | (simp; first | done | fail) | (simp; omega)) ?_ | fail
        all_goals first
          | (exfalso; omega)
          | rfl
          | (conv => whnf
             exact ⟨i + 1, by omega, by omega, rfl⟩)
      · obtain rfl : i = l.length := by omega
        repeat' (conv => whnf); first | refine Br.tt ?_ | refine Br.ff ?_ | refine Br.not ?_ | refine Br.dand (fun _ => ?_) (fun _ => ?_) | refine Br.dec (fun _ => ?_) (fun _ => ?_) | refine Br.beq (fun _ => ?_) (fun _ => ?_) | refine Br.bne (fun _ => ?_) (fun _ => ?_) | refine Br.seq (fun _ => ?_) (fun _ => ?_) | refine Elt.i (by omega) ?_ | refine EltN.i (by omega) ?_ | refine Nt.cast ?_ | refine Nt.mk _ rfl ?_ | refine EltN.mk _ rfl ?_ | refine Mx.mk _ rfl ?_ | refine Br.mk (fun _ => ?_) (fun _ => ?_) | refine EndP.mk ?_ trivial | refine EndP.mk ?_ ⟨.inr ⟨List.mem_cons_self .., ?_, rfl⟩, trivial⟩ | refine Ar.i64 (by omega) ?_ | refine Ar.u8 (by omega) ?_ | refine Quo.pos (by omega) ?_ | refine Rem.pos (by omega) ?_ | refine BsP.own ?_ | refine Ob.mk ⟨rfl, rfl⟩ ?_ | refine Ob.mk (flat_i _ _).1 ?_ | refine Ob.mk (flat_i _ _) ?_ | refine Ob.mk (flat_s _) ?_ | refine Ob.mk (by first | omega | (simp; first | done | fail) | (simp; omega)) ?_ | fail
        all_goals first
          | (exfalso; omega)
          | rfl

set_option maxHeartbeats 4000000 in
theorem markEventS_w (l : List Event) (k : Int) (h : l.length ≤ 1000000000) (hk : 0 ≤ k ∧ k + (sumR eventD ceEvent l l.length : Nat) ≤ 100000000000000) :
    Vow Try.prog 20 [.ow 4 (l.map eventV), .i .i64 k] (.i .i64 (k + (sumR eventD ceEvent l l.length : Nat))) [.ow 4 ((mkR eventD meEvent ceEvent l k l.length).map eventV)] := by
  have h0 := mkRAt_len eventD meEvent ceEvent l k eventV (Nat.zero_le _)
  refine vow_of_ev (fn := Try.f20) [0] [(0, 0), (0, 0), (6, 9), (10, 12), (12, 17), (17, 19), (19, 24), (24, 26), (26, 31), (31, 33), (33, 38), (38, 40), (40, 41)] tt_ok Try.func20 (by decide) rfl (Nat.le_of_ble_eq_true rfl) rfl rfl rfl ?_
  repeat' (conv => whnf); first | refine Br.tt ?_ | refine Br.ff ?_ | refine Br.not ?_ | refine Br.dand (fun _ => ?_) (fun _ => ?_) | refine Br.dec (fun _ => ?_) (fun _ => ?_) | refine Br.beq (fun _ => ?_) (fun _ => ?_) | refine Br.bne (fun _ => ?_) (fun _ => ?_) | refine Br.seq (fun _ => ?_) (fun _ => ?_) | refine Elt.i (by omega) ?_ | refine EltN.i (by omega) ?_ | refine Nt.cast ?_ | refine Nt.mk _ rfl ?_ | refine EltN.mk _ rfl ?_ | refine Mx.mk _ rfl ?_ | refine Br.mk (fun _ => ?_) (fun _ => ?_) | refine EndP.mk ?_ trivial | refine EndP.mk ?_ ⟨.inr ⟨List.mem_cons_self .., ?_, rfl⟩, trivial⟩ | refine Ar.i64 (by omega) ?_ | refine Ar.u8 (by omega) ?_ | refine Quo.pos (by omega) ?_ | refine Rem.pos (by omega) ?_ | refine BsP.own ?_ | refine Ob.mk ⟨rfl, rfl⟩ ?_ | refine Ob.mk (flat_i _ _).1 ?_ | refine Ob.mk (flat_i _ _) ?_ | refine Ob.mk (flat_s _) ?_ | refine Ob.mk (by first | omega | (simp; first | done | fail) | (simp; omega)) ?_ | fail
  all_goals try (conv => whnf)
  · refine LoopP.mk [0,1,4,5] (fun i : Nat => [(0, .ow 4 ((mkRAt eventD meEvent ceEvent l k i).map eventV)), (1, .i .i64 (k + (sumR eventD ceEvent l i : Nat))), (4, .i .i64 0), (5, .i .i64 i)]) (fun i => l.length - i) (fun i => i ≤ l.length) ?_ ?_
    · conv => whnf
      refine ⟨0, by omega, ?_⟩
      rw [show k + ((sumR eventD ceEvent l 0 : Nat) : Int) = k by simp [sumR], show mkRAt eventD meEvent ceEvent l k 0 = l from mkRAt_0 _ _ _ _ _]
      rfl
    · intro i hi
      have hl := mkRAt_len eventD meEvent ceEvent l k eventV hi
      by_cases hlt : i < l.length
      · have hc := sumR_elem eventD ceEvent l hlt
        have hst : sumR eventD ceEvent l (i + 1) = sumR eventD ceEvent l i + ceEvent (gt eventD l i) := rfl
        have hce : ceEvent (gt eventD l i) = 4 := rfl
        have a1 := mkRAt_at eventD meEvent ceEvent l k eventV hlt
        obtain ⟨K, hK⟩ : ∃ K : Int, K = k + (sumR eventD ceEvent l i : Nat) := ⟨_, rfl⟩
        rw [← hK]
        repeat' (conv => whnf); first | fail | refine Ob.mk (ob_st (n := l.length) (by simp only [List.length_set, hl]) hlt) ?_ | refine EltN.mk _ a1 ?_ | refine EltN.st (by simp only [List.length_set, hl, hlt]) ?_ | refine Br.tt ?_ | refine Br.ff ?_ | refine Br.not ?_ | refine Br.dand (fun _ => ?_) (fun _ => ?_) | refine Br.dec (fun _ => ?_) (fun _ => ?_) | refine Br.beq (fun _ => ?_) (fun _ => ?_) | refine Br.bne (fun _ => ?_) (fun _ => ?_) | refine Br.seq (fun _ => ?_) (fun _ => ?_) | refine Elt.i (by omega) ?_ | refine EltN.i (by omega) ?_ | refine Nt.cast ?_ | refine Nt.mk _ rfl ?_ | refine EltN.mk _ rfl ?_ | refine Mx.mk _ rfl ?_ | refine Br.mk (fun _ => ?_) (fun _ => ?_) | refine EndP.mk ?_ trivial | refine EndP.mk ?_ ⟨.inr ⟨List.mem_cons_self .., ?_, rfl⟩, trivial⟩ | refine Ar.i64 (by omega) ?_ | refine Ar.u8 (by omega) ?_ | refine Quo.pos (by omega) ?_ | refine Rem.pos (by omega) ?_ | refine BsP.own ?_ | refine Ob.mk ⟨rfl, rfl⟩ ?_ | refine Ob.mk (flat_i _ _).1 ?_ | refine Ob.mk (flat_i _ _) ?_ | refine Ob.mk (flat_s _) ?_ | refine Ob.mk (by first | omega | (simp; first | done | fail) | (simp; omega)) ?_ | fail
        all_goals first
          | (exfalso; omega)
          | (conv => whnf
             refine ⟨i + 1, by omega, by omega, ?_⟩
             have e3 : K + 1 + 1 + 1 + 1 = k + (sumR eventD ceEvent l (i + 1) : Nat) := by omega
             simp only [List.set_set, e3]
             rw [← mkRAt_set eventD meEvent ceEvent l k eventV hlt, ← hK]
             rfl)
      · obtain rfl : i = l.length := by omega
        repeat' (conv => whnf); first | refine Br.tt ?_ | refine Br.ff ?_ | refine Br.not ?_ | refine Br.dand (fun _ => ?_) (fun _ => ?_) | refine Br.dec (fun _ => ?_) (fun _ => ?_) | refine Br.beq (fun _ => ?_) (fun _ => ?_) | refine Br.bne (fun _ => ?_) (fun _ => ?_) | refine Br.seq (fun _ => ?_) (fun _ => ?_) | refine Elt.i (by omega) ?_ | refine EltN.i (by omega) ?_ | refine Nt.cast ?_ | refine Nt.mk _ rfl ?_ | refine EltN.mk _ rfl ?_ | refine Mx.mk _ rfl ?_ | refine Br.mk (fun _ => ?_) (fun _ => ?_) | refine EndP.mk ?_ trivial | refine EndP.mk ?_ ⟨.inr ⟨List.mem_cons_self .., ?_, rfl⟩, trivial⟩ | refine Ar.i64 (by omega) ?_ | refine Ar.u8 (by omega) ?_ | refine Quo.pos (by omega) ?_ | refine Rem.pos (by omega) ?_ | refine BsP.own ?_ | refine Ob.mk ⟨rfl, rfl⟩ ?_ | refine Ob.mk (flat_i _ _).1 ?_ | refine Ob.mk (flat_i _ _) ?_ | refine Ob.mk (flat_s _) ?_ | refine Ob.mk (by first | omega | (simp; first | done | fail) | (simp; omega)) ?_ | fail
        all_goals first
          | (exfalso; omega)
          | rfl
          | (rw [← mkRAt_all]; rfl)

set_option maxHeartbeats 4000000 in
theorem heldEventS_w (l : List Event) (k : Int) (h : l.length ≤ 1000000000) (hk : 0 ≤ k ∧ k + (sumR eventD ceEvent l l.length : Nat) ≤ 100000000000000) :
    Vow Try.prog 21 [.sl ((mkR eventD meEvent ceEvent l k l.length).map eventV), .i .i64 k] (.i .i64 (k + (sumR eventD ceEvent l l.length : Nat))) [] := by
  have hm : ((mkR eventD meEvent ceEvent l k l.length).map eventV).length = l.length := by rw [List.length_map, mkR_len]
  refine vow_of_ev (fn := Try.f21) [] [(0, 0), (0, 0), (6, 9), (10, 12), (12, 18), (0, 0), (19, 21), (21, 27), (0, 0), (28, 30), (30, 36), (0, 0), (37, 39), (39, 45), (0, 0), (46, 48), (48, 49)] tt_ok Try.func21 (by decide) rfl (Nat.le_of_ble_eq_true rfl) rfl rfl rfl ?_
  repeat' (conv => whnf); first | refine Br.tt ?_ | refine Br.ff ?_ | refine Br.not ?_ | refine Br.dand (fun _ => ?_) (fun _ => ?_) | refine Br.dec (fun _ => ?_) (fun _ => ?_) | refine Br.beq (fun _ => ?_) (fun _ => ?_) | refine Br.bne (fun _ => ?_) (fun _ => ?_) | refine Br.seq (fun _ => ?_) (fun _ => ?_) | refine Elt.i (by omega) ?_ | refine EltN.i (by omega) ?_ | refine Nt.cast ?_ | refine Nt.mk _ rfl ?_ | refine EltN.mk _ rfl ?_ | refine Mx.mk _ rfl ?_ | refine Br.mk (fun _ => ?_) (fun _ => ?_) | refine EndP.mk ?_ trivial | refine EndP.mk ?_ ⟨.inr ⟨List.mem_cons_self .., ?_, rfl⟩, trivial⟩ | refine Ar.i64 (by omega) ?_ | refine Ar.u8 (by omega) ?_ | refine Quo.pos (by omega) ?_ | refine Rem.pos (by omega) ?_ | refine BsP.own ?_ | refine Ob.mk ⟨rfl, rfl⟩ ?_ | refine Ob.mk (flat_i _ _).1 ?_ | refine Ob.mk (flat_i _ _) ?_ | refine Ob.mk (flat_s _) ?_ | refine Ob.mk (by first | omega | (simp; first | done | fail) | (simp; omega)) ?_ | fail
  · conv => whnf
    refine LoopP.mk [0,1,4,5] (fun i : Nat => [(0, .sl ((mkR eventD meEvent ceEvent l k l.length).map eventV)), (1, .i .i64 (k + (sumR eventD ceEvent l i : Nat))), (4, .i .i64 0), (5, .i .i64 i)]) (fun i => l.length - i) (fun i => i ≤ l.length) ?_ ?_
    · conv => whnf
      refine ⟨0, by omega, ?_⟩
      rw [show k + ((sumR eventD ceEvent l 0 : Nat) : Int) = k by simp [sumR]]
      rfl
    · intro i hi
      by_cases hlt : i < l.length
      · have hc := sumR_elem eventD ceEvent l hlt
        have hst : sumR eventD ceEvent l (i + 1) = sumR eventD ceEvent l i + ceEvent (gt eventD l i) := rfl
        have hce : ceEvent (gt eventD l i) = 4 := rfl
        obtain ⟨K, hK⟩ : ∃ K : Int, K = k + (sumR eventD ceEvent l i : Nat) := ⟨_, rfl⟩
        have q1 := fun κ g => Elt.mkR (κ := κ) eventD meEvent ceEvent l k (f := eventV) hlt g
        have q2 := fun κ g => EltN.mkR (κ := κ) eventD meEvent ceEvent l k (f := eventV) hlt g
        rw [← hK] at q1 q2 ⊢
        repeat' (conv => whnf); first | refine q1 _ ?_ | refine q2 _ ?_ | refine Br.ne_self ?_ | refine Br.eq_self ?_ | refine Br.deq ?_ | refine Br.tt ?_ | refine Br.ff ?_ | refine Br.not ?_ | refine Br.dand (fun _ => ?_) (fun _ => ?_) | refine Br.dec (fun _ => ?_) (fun _ => ?_) | refine Br.beq (fun _ => ?_) (fun _ => ?_) | refine Br.bne (fun _ => ?_) (fun _ => ?_) | refine Br.seq (fun _ => ?_) (fun _ => ?_) | refine Elt.i (by omega) ?_ | refine EltN.i (by omega) ?_ | refine Nt.cast ?_ | refine Nt.mk _ rfl ?_ | refine EltN.mk _ rfl ?_ | refine Mx.mk _ rfl ?_ | refine Br.mk (fun _ => ?_) (fun _ => ?_) | refine EndP.mk ?_ trivial | refine EndP.mk ?_ ⟨.inr ⟨List.mem_cons_self .., ?_, rfl⟩, trivial⟩ | refine Ar.i64 (by omega) ?_ | refine Ar.u8 (by omega) ?_ | refine Quo.pos (by omega) ?_ | refine Rem.pos (by omega) ?_ | refine BsP.own ?_ | refine Ob.mk ⟨rfl, rfl⟩ ?_ | refine Ob.mk (flat_i _ _).1 ?_ | refine Ob.mk (flat_i _ _) ?_ | refine Ob.mk (flat_s _) ?_ | refine Ob.mk (by first | omega | (simp; first | done | fail) | (simp; omega)) ?_ | fail
        all_goals first
          | (exfalso; omega)
          | (conv => whnf
             refine ⟨i + 1, by omega, by omega, ?_⟩
             have e3 : K + 1 + 1 + 1 + 1 = k + (sumR eventD ceEvent l (i + 1) : Nat) := by omega
             simp only [e3]
             rfl)
      · obtain rfl : i = l.length := by omega
        repeat' (conv => whnf); first | refine Br.tt ?_ | refine Br.ff ?_ | refine Br.not ?_ | refine Br.dand (fun _ => ?_) (fun _ => ?_) | refine Br.dec (fun _ => ?_) (fun _ => ?_) | refine Br.beq (fun _ => ?_) (fun _ => ?_) | refine Br.bne (fun _ => ?_) (fun _ => ?_) | refine Br.seq (fun _ => ?_) (fun _ => ?_) | refine Elt.i (by omega) ?_ | refine EltN.i (by omega) ?_ | refine Nt.cast ?_ | refine Nt.mk _ rfl ?_ | refine EltN.mk _ rfl ?_ | refine Mx.mk _ rfl ?_ | refine Br.mk (fun _ => ?_) (fun _ => ?_) | refine EndP.mk ?_ trivial | refine EndP.mk ?_ ⟨.inr ⟨List.mem_cons_self .., ?_, rfl⟩, trivial⟩ | refine Ar.i64 (by omega) ?_ | refine Ar.u8 (by omega) ?_ | refine Quo.pos (by omega) ?_ | refine Rem.pos (by omega) ?_ | refine BsP.own ?_ | refine Ob.mk ⟨rfl, rfl⟩ ?_ | refine Ob.mk (flat_i _ _).1 ?_ | refine Ob.mk (flat_i _ _) ?_ | refine Ob.mk (flat_s _) ?_ | refine Ob.mk (by first | omega | (simp; first | done | fail) | (simp; omega)) ?_ | fail
        all_goals first
          | (exfalso; omega)
          | rfl
end Go.Proofs.Ytaeaeefggcjjhaa
