/- Rows of parts in the laws. No condition. -/
import Derived.Test.YtfcjjkfjdecakaaUg
namespace Go.Proofs.Ytfcjjkfjdecakaa
open Go Go.Vx
set_option linter.unusedVariables false
set_option linter.unusedSimpArgs false
set_option maxHeartbeats 600000
set_option maxRecDepth 100000

def partD : Part := ⟨false, 0, []⟩
def pt (ps : List Part) (i : Nat) : Part := ps.getD i partD
theorem pt_at {ps : List Part} {i : Nat} (h : i < ps.length) : (ps.map partV)[i]? = some (partV (pt ps i)) := by simp [pt, h]
theorem _root_.Go.Vx.Elt.pt {ps : List Part} {j : Nat} {κ : V → Prop} (h : j < ps.length) (g : κ (partV (pt ps j))) : Elt (ps.map partV) (j : Int) κ :=
  .mk _ (by omega) (by rw [Int.toNat_natCast]; exact pt_at h) g
theorem _root_.Go.Vx.EltN.pt {ps : List Part} {j : Nat} {κ : V → Prop} (h : j < ps.length) (g : κ (partV (pt ps j))) : EltN (ps.map partV) j κ := .mk _ (pt_at h) g
theorem lt_set3 {xs : List V} {i j : Nat} {v : V} (h : j < xs.length) : j < (xs.set i v).length := by simp [h]
theorem _root_.Go.Vx.EltN.set3 {xs : List V} {i : Nat} {v : V} {κ : V → Prop} (h : i < xs.length) (g : κ v) : EltN (xs.set i v) i κ := .mk v (by simp [h]) g
def ptS (ps : List Part) : V := .sl (ps.map partV)
def ptO (ps : List Part) : V := .ow 3 (ps.map partV)
theorem imm_pt (l : List Part) : (l.map partV).map V.toImm = l.map partV := map_toImm (fun _ => rfl) l
theorem own_pt (l : List Part) : V.noSl.go (l.map partV) = true := noSl_map (fun _ => rfl) l


theorem eqPart3_vow (x : Part) : Vow Try.prog 24 [partV x, partV x] (.b true) [] := by
  obtain ⟨k, q, w⟩ := x
  refine vow_of_ev (fn := Try.f24) [] [(0, 0), (5, 9), (0, 0), (10, 14), (0, 0), (15, 19), (0, 0), (0, 0)] tt_ok Try.func24 (by decide) rfl (Nat.le_of_ble_eq_true rfl) rfl rfl rfl ?_
  cases k
  all_goals (repeat' (conv => whnf); first | refine Br.tt ?_ | refine Br.ff ?_ | refine Br.not ?_ | refine Br.dand (fun _ => ?_) (fun _ => ?_) | refine Br.dec (fun _ => ?_) (fun _ => ?_) | refine Br.beq (fun _ => ?_) (fun _ => ?_) | refine Br.bne (fun _ => ?_) (fun _ => ?_) | refine Br.seq (fun _ => ?_) (fun _ => ?_) | refine Elt.i (by omega) ?_ | refine EltN.i (by omega) ?_ | refine Nt.cast ?_ | refine Nt.mk _ rfl ?_ | refine EltN.mk _ rfl ?_ | refine Mx.mk _ rfl ?_ | refine Br.mk (fun _ => ?_) (fun _ => ?_) | refine EndP.mk ?_ trivial | refine EndP.mk ?_ ⟨.inr ⟨List.mem_cons_self .., ?_, rfl⟩, trivial⟩ | refine Ar.i64 (by omega) ?_ | refine Ar.u8 (by omega) ?_ | refine Quo.pos (by omega) ?_ | refine Rem.pos (by omega) ?_ | refine BsP.own ?_ | refine Ob.mk ⟨rfl, rfl⟩ ?_ | refine Ob.mk (flat_i _ _).1 ?_ | refine Ob.mk (flat_i _ _) ?_ | refine Ob.mk (flat_s _) ?_ | refine Ob.mk (by first | omega | (simp; first | done | fail) | (simp; omega)) ?_ | fail)
  all_goals first | rfl | exact absurd rfl ‹¬ _ = _›
theorem eqPartS_vow (ps : List Part) (h : ps.length ≤ 1048576) : Vow Try.prog 57 [ptS ps, ptS ps] (.b true) [] := by
  have hm : (ps.map partV).length = ps.length := by simp
  refine vow_of_ev (fn := Try.f57) [] [(0, 0), (6, 10), (0, 0), (0, 0), (11, 14), (15, 17), (17, 26), (0, 0), (0, 0)] tt_ok Try.func57 (by decide) rfl (Nat.le_of_ble_eq_true rfl) rfl rfl rfl ?_
  repeat' (conv => whnf); first | refine Br.tt ?_ | refine Br.ff ?_ | refine Br.not ?_ | refine Br.dand (fun _ => ?_) (fun _ => ?_) | refine Br.dec (fun _ => ?_) (fun _ => ?_) | refine Br.beq (fun _ => ?_) (fun _ => ?_) | refine Br.bne (fun _ => ?_) (fun _ => ?_) | refine Br.seq (fun _ => ?_) (fun _ => ?_) | refine Elt.i (by omega) ?_ | refine EltN.i (by omega) ?_ | refine Nt.cast ?_ | refine Nt.mk _ rfl ?_ | refine EltN.mk _ rfl ?_ | refine Mx.mk _ rfl ?_ | refine Br.mk (fun _ => ?_) (fun _ => ?_) | refine EndP.mk ?_ trivial | refine EndP.mk ?_ ⟨.inr ⟨List.mem_cons_self .., ?_, rfl⟩, trivial⟩ | refine Ar.i64 (by omega) ?_ | refine Ar.u8 (by omega) ?_ | refine Quo.pos (by omega) ?_ | refine Rem.pos (by omega) ?_ | refine BsP.own ?_ | refine Ob.mk ⟨rfl, rfl⟩ ?_ | refine Ob.mk (flat_i _ _).1 ?_ | refine Ob.mk (flat_i _ _) ?_ | refine Ob.mk (flat_s _) ?_ | refine Ob.mk (by first | omega | (simp; first | done | fail) | (simp; omega)) ?_ | fail
  rotate_left
  · exfalso; omega
  · conv => whnf
    refine LoopP.mk [0,1,4,5] (fun i : Nat => [(0, ptS ps), (1, ptS ps), (4, .b false), (5, .i .i64 i)]) (fun i => ps.length - i) (fun i => i ≤ ps.length) ?_ ?_
    · conv => whnf
      exact ⟨0, by omega, rfl⟩
    · intro i hi
      repeat' (conv => whnf); first | refine Elt.pt (by omega) ?_ | refine EltN.pt (by omega) ?_ | refine CallP.rd (eqPart3_vow (pt ps i)) rfl rfl rfl rfl ?_ | refine DCall.rd (eqPart3_vow (pt ps i)) rfl rfl ?_ | refine Br.tt ?_ | refine Br.ff ?_ | refine Br.not ?_ | refine Br.dand (fun _ => ?_) (fun _ => ?_) | refine Br.dec (fun _ => ?_) (fun _ => ?_) | refine Br.beq (fun _ => ?_) (fun _ => ?_) | refine Br.bne (fun _ => ?_) (fun _ => ?_) | refine Br.seq (fun _ => ?_) (fun _ => ?_) | refine Elt.i (by omega) ?_ | refine EltN.i (by omega) ?_ | refine Nt.cast ?_ | refine Nt.mk _ rfl ?_ | refine EltN.mk _ rfl ?_ | refine Mx.mk _ rfl ?_ | refine Br.mk (fun _ => ?_) (fun _ => ?_) | refine EndP.mk ?_ trivial | refine EndP.mk ?_ ⟨.inr ⟨List.mem_cons_self .., ?_, rfl⟩, trivial⟩ | refine Ar.i64 (by omega) ?_ | refine Ar.u8 (by omega) ?_ | refine Quo.pos (by omega) ?_ | refine Rem.pos (by omega) ?_ | refine BsP.own ?_ | refine Ob.mk ⟨rfl, rfl⟩ ?_ | refine Ob.mk (flat_i _ _).1 ?_ | refine Ob.mk (flat_i _ _) ?_ | refine Ob.mk (flat_s _) ?_ | refine Ob.mk (by first | omega | (simp; first | done | fail) | (simp; omega)) ?_ | fail
      all_goals first
        | (exfalso; omega)
        | rfl
        | (conv => whnf
           exact ⟨i + 1, by omega, by omega, rfl⟩)

def mkPart (k : Int) (j : Nat) : Part := ⟨(k + 3 * j) % 3 == 0, k + 3 * j + 1, mtext (k + 3 * j + 1 + 1)⟩
def mkP (n : Nat) (k : Int) : List Part := (List.range n).map (mkPart k)
theorem mkP_len (n : Nat) (k : Int) : (mkP n k).length = n := by simp [mkP]
theorem mkP_succ (n : Nat) (k : Int) : mkP (n + 1) k = mkP n k ++ [mkPart k n] := by simp [mkP, List.range_succ]
theorem mkP_at {n : Nat} {k : Int} {j : Nat} (h : j < n) : pt (mkP n k) j = mkPart k j := by simp [pt, mkP, h]
def mkPAt (ps : List Part) (k : Int) (i : Nat) : List Part := mkP i k ++ ps.drop i
theorem mkPAt_len (ps : List Part) (k : Int) {i : Nat} (h : i ≤ ps.length) : ((mkPAt ps k i).map partV).length = ps.length := by simp [mkPAt, mkP_len]; omega
theorem mkPAt_set (ps : List Part) (k : Int) {i : Nat} (h : i < ps.length) : ((mkPAt ps k i).map partV).set i (partV (mkPart k i)) = (mkPAt ps k (i + 1)).map partV := by
  unfold mkPAt
  rw [← List.map_set, List.set_append_right _ _ (by rw [mkP_len]; omega), mkP_len, Nat.sub_self, mkP_succ, List.drop_eq_getElem_cons h, List.set_cons_zero, List.append_assoc]
  rfl
theorem mkPAt_all (ps : List Part) (k : Int) : mkPAt ps k ps.length = mkP ps.length k := by simp [mkPAt]

theorem markPartS_vow (ps : List Part) (k : Int) (hz : ps.length ≤ 1048576) (hk : 0 ≤ k ∧ k ≤ 100000000000000) :
    Vow Try.prog 61 [ptO ps, .i .i64 k] (.i .i64 (k + 3 * ps.length)) [ptO (mkP ps.length k)] := by
  refine vow_of_ev (fn := Try.f61) [0] [(0, 0), (0, 0), (6, 9), (10, 12), (12, 19), (19, 21), (21, 26), (26, 28), (28, 34), (34, 36), (36, 37)] tt_ok Try.func61 (by decide) rfl (Nat.le_of_ble_eq_true rfl) rfl rfl rfl ?_
  repeat' (conv => whnf); first | refine Br.tt ?_ | refine Br.ff ?_ | refine Br.not ?_ | refine Br.dand (fun _ => ?_) (fun _ => ?_) | refine Br.dec (fun _ => ?_) (fun _ => ?_) | refine Br.beq (fun _ => ?_) (fun _ => ?_) | refine Br.bne (fun _ => ?_) (fun _ => ?_) | refine Br.seq (fun _ => ?_) (fun _ => ?_) | refine Elt.i (by omega) ?_ | refine EltN.i (by omega) ?_ | refine Nt.cast ?_ | refine Nt.mk _ rfl ?_ | refine EltN.mk _ rfl ?_ | refine Mx.mk _ rfl ?_ | refine Br.mk (fun _ => ?_) (fun _ => ?_) | refine EndP.mk ?_ trivial | refine EndP.mk ?_ ⟨.inr ⟨List.mem_cons_self .., ?_, rfl⟩, trivial⟩ | refine Ar.i64 (by omega) ?_ | refine Ar.u8 (by omega) ?_ | refine Quo.pos (by omega) ?_ | refine Rem.pos (by omega) ?_ | refine BsP.own ?_ | refine Ob.mk ⟨rfl, rfl⟩ ?_ | refine Ob.mk (flat_i _ _).1 ?_ | refine Ob.mk (flat_i _ _) ?_ | refine Ob.mk (flat_s _) ?_ | refine Ob.mk (by first | omega | (simp; first | done | fail) | (simp; omega)) ?_ | fail
  · conv => whnf
    refine LoopP.mk [0,1,4,5] (fun i : Nat => [(0, ptO (mkPAt ps k i)), (1, .i .i64 (k + 3 * i)), (4, .i .i64 0), (5, .i .i64 i)]) (fun i => ps.length - i) (fun i => i ≤ ps.length) ?_ ?_
    · conv => whnf
      exact ⟨0, by omega, by simp [mkPAt, mkP] <;> rfl⟩
    · intro i hi
      have hl := mkPAt_len ps k hi
      have hl2 : (mkPAt ps k i).length = ps.length := by simpa using hl
      by_cases hlt : i < ps.length
      · have f1 := markText_vow (k + 3 * i + 1 + 1) (by omega)
        repeat' (conv => whnf); first | refine CallP.rd (f1) rfl rfl rfl rfl ?_ | refine EltN.set3 (by first | omega | exact lt_set3 (by omega) | exact lt_set3 (lt_set3 (by omega)) | exact lt_set3 (lt_set3 (lt_set3 (by omega)))) ?_ | refine EltN.pt (by omega) ?_ | refine Br.tt ?_ | refine Br.ff ?_ | refine Br.not ?_ | refine Br.dand (fun _ => ?_) (fun _ => ?_) | refine Br.dec (fun _ => ?_) (fun _ => ?_) | refine Br.beq (fun _ => ?_) (fun _ => ?_) | refine Br.bne (fun _ => ?_) (fun _ => ?_) | refine Br.seq (fun _ => ?_) (fun _ => ?_) | refine Elt.i (by omega) ?_ | refine EltN.i (by omega) ?_ | refine Nt.cast ?_ | refine Nt.mk _ rfl ?_ | refine EltN.mk _ rfl ?_ | refine Mx.mk _ rfl ?_ | refine Br.mk (fun _ => ?_) (fun _ => ?_) | refine EndP.mk ?_ trivial | refine EndP.mk ?_ ⟨.inr ⟨List.mem_cons_self .., ?_, rfl⟩, trivial⟩ | refine Ar.i64 (by omega) ?_ | refine Ar.u8 (by omega) ?_ | refine Quo.pos (by omega) ?_ | refine Rem.pos (by omega) ?_ | refine BsP.own ?_ | refine Ob.mk ⟨rfl, rfl⟩ ?_ | refine Ob.mk (flat_i _ _).1 ?_ | refine Ob.mk (flat_i _ _) ?_ | refine Ob.mk (flat_s _) ?_ | refine Ob.mk (by first | omega | (simp; first | done | fail) | (simp; omega)) ?_ | fail
        all_goals first
          | (exfalso; omega)
          | (conv => whnf
             refine ⟨i + 1, by omega, by omega, ?_⟩
             have e3 : k + 3 * (i : Int) + 1 + 1 + 1 = k + 3 * ((i + 1 : Nat) : Int) := by omega
             simp only [List.set_set, e3]
             rw [show ((mkPAt ps k i).map partV).set i (.ag [.b ((k + 3 * (i : Int)) % 3 == 0), .i .i64 (k + 3 * i + 1), .s (mtext (k + 3 * i + 1 + 1))]) = _ from mkPAt_set ps k hlt]
             rfl)
      · obtain rfl : i = ps.length := by omega
        repeat' (conv => whnf); first | refine Br.tt ?_ | refine Br.ff ?_ | refine Br.not ?_ | refine Br.dand (fun _ => ?_) (fun _ => ?_) | refine Br.dec (fun _ => ?_) (fun _ => ?_) | refine Br.beq (fun _ => ?_) (fun _ => ?_) | refine Br.bne (fun _ => ?_) (fun _ => ?_) | refine Br.seq (fun _ => ?_) (fun _ => ?_) | refine Elt.i (by omega) ?_ | refine EltN.i (by omega) ?_ | refine Nt.cast ?_ | refine Nt.mk _ rfl ?_ | refine EltN.mk _ rfl ?_ | refine Mx.mk _ rfl ?_ | refine Br.mk (fun _ => ?_) (fun _ => ?_) | refine EndP.mk ?_ trivial | refine EndP.mk ?_ ⟨.inr ⟨List.mem_cons_self .., ?_, rfl⟩, trivial⟩ | refine Ar.i64 (by omega) ?_ | refine Ar.u8 (by omega) ?_ | refine Quo.pos (by omega) ?_ | refine Rem.pos (by omega) ?_ | refine BsP.own ?_ | refine Ob.mk ⟨rfl, rfl⟩ ?_ | refine Ob.mk (flat_i _ _).1 ?_ | refine Ob.mk (flat_i _ _) ?_ | refine Ob.mk (flat_s _) ?_ | refine Ob.mk (by first | omega | (simp; first | done | fail) | (simp; omega)) ?_ | fail
        all_goals first
          | (exfalso; omega)
          | rfl
          | (rw [← mkPAt_all]; rfl)
theorem heldPartS_vow (n : Nat) (k : Int) (hz : n ≤ 1048576) (hk : 0 ≤ k ∧ k ≤ 100000000000000) : Vow Try.prog 62 [ptS (mkP n k), .i .i64 k] (.i .i64 (k + 3 * n)) [] := by
  have hl := mkP_len n k
  have hm : ((mkP n k).map partV).length = n := by rw [List.length_map, hl]
  refine vow_of_ev (fn := Try.f62) [] [(0, 0), (0, 0), (6, 9), (10, 12), (12, 20), (0, 0), (21, 23), (23, 29), (0, 0), (30, 32), (32, 39), (0, 0), (40, 42), (42, 43)] tt_ok Try.func62 (by decide) rfl (Nat.le_of_ble_eq_true rfl) rfl rfl rfl ?_
  repeat' (conv => whnf); first | refine Br.tt ?_ | refine Br.ff ?_ | refine Br.not ?_ | refine Br.dand (fun _ => ?_) (fun _ => ?_) | refine Br.dec (fun _ => ?_) (fun _ => ?_) | refine Br.beq (fun _ => ?_) (fun _ => ?_) | refine Br.bne (fun _ => ?_) (fun _ => ?_) | refine Br.seq (fun _ => ?_) (fun _ => ?_) | refine Elt.i (by omega) ?_ | refine EltN.i (by omega) ?_ | refine Nt.cast ?_ | refine Nt.mk _ rfl ?_ | refine EltN.mk _ rfl ?_ | refine Mx.mk _ rfl ?_ | refine Br.mk (fun _ => ?_) (fun _ => ?_) | refine EndP.mk ?_ trivial | refine EndP.mk ?_ ⟨.inr ⟨List.mem_cons_self .., ?_, rfl⟩, trivial⟩ | refine Ar.i64 (by omega) ?_ | refine Ar.u8 (by omega) ?_ | refine Quo.pos (by omega) ?_ | refine Rem.pos (by omega) ?_ | refine BsP.own ?_ | refine Ob.mk ⟨rfl, rfl⟩ ?_ | refine Ob.mk (flat_i _ _).1 ?_ | refine Ob.mk (flat_i _ _) ?_ | refine Ob.mk (flat_s _) ?_ | refine Ob.mk (by first | omega | (simp; first | done | fail) | (simp; omega)) ?_ | fail
  · conv => whnf
    refine LoopP.mk [0,1,4,5] (fun i : Nat => [(0, ptS (mkP n k)), (1, .i .i64 (k + 3 * i)), (4, .i .i64 0), (5, .i .i64 i)]) (fun i => n - i) (fun i => i ≤ n) ?_ ?_
    · conv => whnf
      exact ⟨0, by omega, by simp <;> rfl⟩
    · intro i hi
      by_cases hlt : i < n
      · have f1 := markText_vow (k + 3 * i + 1 + 1) (by omega)
        have ha := mkP_at (k := k) hlt
        have a1 : (pt (mkP n k) i).key = ((k + 3 * i) % 3 == 0) := by rw [ha]; rfl
        have a2 : (pt (mkP n k) i).qp = k + 3 * i + 1 := by rw [ha]; rfl
        have a3 : (pt (mkP n k) i).row = mtext (k + 3 * i + 1 + 1) := by rw [ha]; rfl
        repeat' (conv => whnf); first | refine CallP.rd (f1) rfl rfl rfl rfl ?_ | refine DCall.rd (f1) rfl rfl ?_ | refine Elt.pt (by omega) ?_ | refine EltN.pt (by omega) ?_ | refine Br.tt ?_ | refine Br.ff ?_ | refine Br.not ?_ | refine Br.dand (fun _ => ?_) (fun _ => ?_) | refine Br.dec (fun _ => ?_) (fun _ => ?_) | refine Br.beq (fun _ => ?_) (fun _ => ?_) | refine Br.bne (fun _ => ?_) (fun _ => ?_) | refine Br.seq (fun _ => ?_) (fun _ => ?_) | refine Elt.i (by omega) ?_ | refine EltN.i (by omega) ?_ | refine Nt.cast ?_ | refine Nt.mk _ rfl ?_ | refine EltN.mk _ rfl ?_ | refine Mx.mk _ rfl ?_ | refine Br.mk (fun _ => ?_) (fun _ => ?_) | refine EndP.mk ?_ trivial | refine EndP.mk ?_ ⟨.inr ⟨List.mem_cons_self .., ?_, rfl⟩, trivial⟩ | refine Ar.i64 (by omega) ?_ | refine Ar.u8 (by omega) ?_ | refine Quo.pos (by omega) ?_ | refine Rem.pos (by omega) ?_ | refine BsP.own ?_ | refine Ob.mk ⟨rfl, rfl⟩ ?_ | refine Ob.mk (flat_i _ _).1 ?_ | refine Ob.mk (flat_i _ _) ?_ | refine Ob.mk (flat_s _) ?_ | refine Ob.mk (by first | omega | (simp; first | done | fail) | (simp; omega)) ?_ | fail
        all_goals first
          | (exfalso; omega)
          | (exfalso; exact absurd a1 (by assumption))
          | (exfalso; exact absurd a2 (by assumption))
          | (exfalso; exact absurd a3 (by assumption))
          | (conv => whnf
             refine ⟨i + 1, by omega, by omega, ?_⟩
             rw [show k + 3 * (i : Int) + 1 + 1 + 1 = k + 3 * ((i + 1 : Nat) : Int) by omega]
             rfl)
      · obtain rfl : i = n := by omega
        repeat' (conv => whnf); first | refine Br.tt ?_ | refine Br.ff ?_ | refine Br.not ?_ | refine Br.dand (fun _ => ?_) (fun _ => ?_) | refine Br.dec (fun _ => ?_) (fun _ => ?_) | refine Br.beq (fun _ => ?_) (fun _ => ?_) | refine Br.bne (fun _ => ?_) (fun _ => ?_) | refine Br.seq (fun _ => ?_) (fun _ => ?_) | refine Elt.i (by omega) ?_ | refine EltN.i (by omega) ?_ | refine Nt.cast ?_ | refine Nt.mk _ rfl ?_ | refine EltN.mk _ rfl ?_ | refine Mx.mk _ rfl ?_ | refine Br.mk (fun _ => ?_) (fun _ => ?_) | refine EndP.mk ?_ trivial | refine EndP.mk ?_ ⟨.inr ⟨List.mem_cons_self .., ?_, rfl⟩, trivial⟩ | refine Ar.i64 (by omega) ?_ | refine Ar.u8 (by omega) ?_ | refine Quo.pos (by omega) ?_ | refine Rem.pos (by omega) ?_ | refine BsP.own ?_ | refine Ob.mk ⟨rfl, rfl⟩ ?_ | refine Ob.mk (flat_i _ _).1 ?_ | refine Ob.mk (flat_i _ _) ?_ | refine Ob.mk (flat_s _) ?_ | refine Ob.mk (by first | omega | (simp; first | done | fail) | (simp; omega)) ?_ | fail
        all_goals first
          | (exfalso; omega)
          | rfl

def cpP (ps : List Part) (i : Nat) : List Part := ps.take i ++ List.replicate (ps.length - i) partD
theorem cpP_len (ps : List Part) {i : Nat} (h : i ≤ ps.length) : ((cpP ps i).map partV).length = ps.length := by simp [cpP]; omega
theorem cpP_at (ps : List Part) {i : Nat} (h : i < ps.length) : ((cpP ps i).map partV)[i]? = some (partV partD) := by
  have h1 : (ps.take i).length = i := by simp; omega
  obtain ⟨d, hd⟩ : ∃ d, ps.length - i = d + 1 := ⟨ps.length - i - 1, by omega⟩
  unfold cpP
  rw [hd, List.replicate_succ, List.map_append, List.getElem?_append_right (by simp; omega)]
  simp
  rw [show i - min i ps.length = 0 by omega]
  rfl
theorem take_pt {ps : List Part} {i : Nat} (h : i < ps.length) : ps.take (i + 1) = ps.take i ++ [pt ps i] := by
  rw [List.take_add_one]
  congr 1
  unfold pt
  rw [List.getD_eq_getElem?_getD, List.getElem?_eq_getElem h]
  rfl
theorem cpP_set (ps : List Part) {i : Nat} (h : i < ps.length) : ((cpP ps i).map partV).set i (partV (pt ps i)) = (cpP ps (i + 1)).map partV := by
  have h1 : (ps.take i).length = i := by simp; omega
  obtain ⟨d, hd⟩ : ∃ d, ps.length - i = d + 1 := ⟨ps.length - i - 1, by omega⟩
  unfold cpP
  rw [hd, show ps.length - (i + 1) = d by omega, take_pt h, List.replicate_succ, ← List.map_set]
  rw [List.set_append_right _ _ (by omega), h1, Nat.sub_self]
  simp
theorem cpP_all (ps : List Part) : cpP ps ps.length = ps := by simp [cpP]
theorem toPartS_vow (ps : List Part) (h : ps.length ≤ 1048576) : Vow Try.prog 65 [ptS ps] (ptO ps) [] := by
  have hm : (ps.map partV).length = ps.length := by simp
  refine vow_of_ev (fn := Try.f65) [] [(0, 0), (5, 8), (0, 0), (8, 11), (12, 14), (14, 22), (22, 23)] tt_ok Try.func65 (by decide) rfl (Nat.le_of_ble_eq_true rfl) rfl rfl rfl ?_
  repeat' (conv => whnf); first | refine Br.tt ?_ | refine Br.ff ?_ | refine Br.not ?_ | refine Br.dand (fun _ => ?_) (fun _ => ?_) | refine Br.dec (fun _ => ?_) (fun _ => ?_) | refine Br.beq (fun _ => ?_) (fun _ => ?_) | refine Br.bne (fun _ => ?_) (fun _ => ?_) | refine Br.seq (fun _ => ?_) (fun _ => ?_) | refine Elt.i (by omega) ?_ | refine EltN.i (by omega) ?_ | refine Nt.cast ?_ | refine Nt.mk _ rfl ?_ | refine EltN.mk _ rfl ?_ | refine Mx.mk _ rfl ?_ | refine Br.mk (fun _ => ?_) (fun _ => ?_) | refine EndP.mk ?_ trivial | refine EndP.mk ?_ ⟨.inr ⟨List.mem_cons_self .., ?_, rfl⟩, trivial⟩ | refine Ar.i64 (by omega) ?_ | refine Ar.u8 (by omega) ?_ | refine Quo.pos (by omega) ?_ | refine Rem.pos (by omega) ?_ | refine BsP.own ?_ | refine Ob.mk ⟨rfl, rfl⟩ ?_ | refine Ob.mk (flat_i _ _).1 ?_ | refine Ob.mk (flat_i _ _) ?_ | refine Ob.mk (flat_s _) ?_ | refine Ob.mk (by first | omega | (simp; first | done | fail) | (simp; omega)) ?_ | fail
  · conv => whnf
    refine LoopP.mk [0,2,3,4] (fun i : Nat => [(0, ptS ps), (2, .nl), (3, .ow 3 ((cpP ps i).map partV)), (4, .i .i64 i)]) (fun i => ps.length - i) (fun i => i ≤ ps.length) ?_ ?_
    · conv => whnf
      refine ⟨0, by omega, ?_⟩
      rw [hm, Int.toNat_natCast, show List.replicate ps.length (V.ag [.b false, .i .i64 0, .s []]) = (cpP ps 0).map partV by simp [cpP]; right; rfl]
      rfl
    · intro i hi
      have hc := cpP_len ps hi
      by_cases hlt : i < ps.length
      · repeat' (conv => whnf); first | refine Elt.pt (by omega) ?_ | refine EltN.pt (by omega) ?_ | refine EltN.mk _ (cpP_at ps (by omega)) ?_ | refine CallP.rd (toPart_vow (pt ps i)) rfl rfl rfl rfl ?_ | refine DCall.rd (toPart_vow (pt ps i)) rfl rfl ?_ | refine Br.tt ?_ | refine Br.ff ?_ | refine Br.not ?_ | refine Br.dand (fun _ => ?_) (fun _ => ?_) | refine Br.dec (fun _ => ?_) (fun _ => ?_) | refine Br.beq (fun _ => ?_) (fun _ => ?_) | refine Br.bne (fun _ => ?_) (fun _ => ?_) | refine Br.seq (fun _ => ?_) (fun _ => ?_) | refine Elt.i (by omega) ?_ | refine EltN.i (by omega) ?_ | refine Nt.cast ?_ | refine Nt.mk _ rfl ?_ | refine EltN.mk _ rfl ?_ | refine Mx.mk _ rfl ?_ | refine Br.mk (fun _ => ?_) (fun _ => ?_) | refine EndP.mk ?_ trivial | refine EndP.mk ?_ ⟨.inr ⟨List.mem_cons_self .., ?_, rfl⟩, trivial⟩ | refine Ar.i64 (by omega) ?_ | refine Ar.u8 (by omega) ?_ | refine Quo.pos (by omega) ?_ | refine Rem.pos (by omega) ?_ | refine BsP.own ?_ | refine Ob.mk ⟨rfl, rfl⟩ ?_ | refine Ob.mk (flat_i _ _).1 ?_ | refine Ob.mk (flat_i _ _) ?_ | refine Ob.mk (flat_s _) ?_ | refine Ob.mk (by first | omega | (simp; first | done | fail) | (simp; omega)) ?_ | fail
        all_goals first
          | (exfalso; omega)
          | (conv => whnf
             refine ⟨i + 1, by omega, by omega, ?_⟩
             rw [← cpP_set ps (by omega)]
             rfl)
      · obtain rfl : i = ps.length := by omega
        repeat' (conv => whnf); first | refine Br.tt ?_ | refine Br.ff ?_ | refine Br.not ?_ | refine Br.dand (fun _ => ?_) (fun _ => ?_) | refine Br.dec (fun _ => ?_) (fun _ => ?_) | refine Br.beq (fun _ => ?_) (fun _ => ?_) | refine Br.bne (fun _ => ?_) (fun _ => ?_) | refine Br.seq (fun _ => ?_) (fun _ => ?_) | refine Elt.i (by omega) ?_ | refine EltN.i (by omega) ?_ | refine Nt.cast ?_ | refine Nt.mk _ rfl ?_ | refine EltN.mk _ rfl ?_ | refine Mx.mk _ rfl ?_ | refine Br.mk (fun _ => ?_) (fun _ => ?_) | refine EndP.mk ?_ trivial | refine EndP.mk ?_ ⟨.inr ⟨List.mem_cons_self .., ?_, rfl⟩, trivial⟩ | refine Ar.i64 (by omega) ?_ | refine Ar.u8 (by omega) ?_ | refine Quo.pos (by omega) ?_ | refine Rem.pos (by omega) ?_ | refine BsP.own ?_ | refine Ob.mk ⟨rfl, rfl⟩ ?_ | refine Ob.mk (flat_i _ _).1 ?_ | refine Ob.mk (flat_i _ _) ?_ | refine Ob.mk (flat_s _) ?_ | refine Ob.mk (by first | omega | (simp; first | done | fail) | (simp; omega)) ?_ | fail
        all_goals first
          | (exfalso; omega)
          | (rw [cpP_all]; rfl)
def sumP (ps : List Part) : Nat → Nat
  | 0 => 0
  | i + 1 => sumP ps i + (pt ps i).row.length
theorem sumP_mono (ps : List Part) (i : Nat) : ∀ d, sumP ps i ≤ sumP ps (i + d)
  | 0 => Nat.le_refl _
  | d + 1 => by
    have := sumP_mono ps i d
    show sumP ps i ≤ sumP ps (i + d) + _
    omega
def szP (ps : List Part) (left : Int) : Int := left - ps.length - sumP ps ps.length
def szPR (ps : List Part) (left : Int) : Int := if 0 ≤ szP ps left then szP ps left else -1
theorem szPartS_vow (ps : List Part) (left : Int) (hl : 0 ≤ left ∧ left ≤ 1048576) (hz : ps.length ≤ 9223372036854775807) (hx : ∀ x ∈ ps, x.row.length ≤ 9223372036854775807) :
    Vow Try.prog 63 [ptS ps, .i .i64 left] (.i .i64 (szPR ps left)) [] := by
  have hm : (ps.map partV).length = ps.length := by simp
  have hlen : ∀ j, j < ps.length → (pt ps j).row.length ≤ 9223372036854775807 := fun j hj => hx _ (by
    unfold pt; rw [List.getD_eq_getElem?_getD, List.getElem?_eq_getElem hj]; exact List.getElem_mem _)
  refine vow_of_ev (fn := Try.f63) [] [(0, 0), (6, 10), (10, 11), (0, 0), (0, 0), (12, 15), (16, 18), (18, 24), (24, 25), (0, 0), (26, 27)] tt_ok Try.func63 (by decide) rfl (Nat.le_of_ble_eq_true rfl) rfl rfl rfl ?_
  repeat' (conv => whnf); first | refine Br.tt ?_ | refine Br.ff ?_ | refine Br.not ?_ | refine Br.dand (fun _ => ?_) (fun _ => ?_) | refine Br.dec (fun _ => ?_) (fun _ => ?_) | refine Br.beq (fun _ => ?_) (fun _ => ?_) | refine Br.bne (fun _ => ?_) (fun _ => ?_) | refine Br.seq (fun _ => ?_) (fun _ => ?_) | refine Elt.i (by omega) ?_ | refine EltN.i (by omega) ?_ | refine Nt.cast ?_ | refine Nt.mk _ rfl ?_ | refine EltN.mk _ rfl ?_ | refine Mx.mk _ rfl ?_ | refine Br.mk (fun _ => ?_) (fun _ => ?_) | refine EndP.mk ?_ trivial | refine EndP.mk ?_ ⟨.inr ⟨List.mem_cons_self .., ?_, rfl⟩, trivial⟩ | refine Ar.i64 (by omega) ?_ | refine Ar.u8 (by omega) ?_ | refine Quo.pos (by omega) ?_ | refine Rem.pos (by omega) ?_ | refine BsP.own ?_ | refine Ob.mk ⟨rfl, rfl⟩ ?_ | refine Ob.mk (flat_i _ _).1 ?_ | refine Ob.mk (flat_i _ _) ?_ | refine Ob.mk (flat_s _) ?_ | refine Ob.mk (by first | omega | (simp; first | done | fail) | (simp; omega)) ?_ | fail
  · rw [szPR, if_neg (by unfold szP; omega)]; rfl
  · conv => whnf
    refine LoopP.mk [0,1,4,5] (fun i : Nat => [(0, ptS ps), (1, .i .i64 (left - ps.length - sumP ps i)), (4, .i .i64 0), (5, .i .i64 i)]) (fun i => ps.length - i) (fun i => i ≤ ps.length ∧ 0 ≤ left - (ps.length : Int) - sumP ps i) ?_ ?_
    · conv => whnf
      refine ⟨0, ⟨by omega, by simp only [sumP]; omega⟩, ?_⟩
      rw [hm, show left - (ps.length : Int) - ((sumP ps 0 : Nat) : Int) = left - (ps.length : Int) by simp [sumP]]
      rfl
    · rintro i ⟨hi, hs⟩
      by_cases hlt : i < ps.length
      · have hli := hlen i hlt
        have hmono := sumP_mono ps (i + 1) (ps.length - (i + 1))
        rw [show i + 1 + (ps.length - (i + 1)) = ps.length by omega] at hmono
        have hstep : sumP ps (i + 1) = sumP ps i + (pt ps i).row.length := rfl
        have c3 := sz1_le (pt ps i).row.length (left - ps.length - sumP ps i)
        have f1 := szPart_vow (pt ps i) (left - ps.length - sumP ps i) hli (by omega)
        repeat' (conv => whnf); first | refine Elt.pt (by omega) ?_ | refine EltN.pt (by omega) ?_ | refine CallP.rd (f1) rfl rfl rfl rfl ?_ | refine DCall.rd (f1) rfl rfl ?_ | refine Br.tt ?_ | refine Br.ff ?_ | refine Br.not ?_ | refine Br.dand (fun _ => ?_) (fun _ => ?_) | refine Br.dec (fun _ => ?_) (fun _ => ?_) | refine Br.beq (fun _ => ?_) (fun _ => ?_) | refine Br.bne (fun _ => ?_) (fun _ => ?_) | refine Br.seq (fun _ => ?_) (fun _ => ?_) | refine Elt.i (by omega) ?_ | refine EltN.i (by omega) ?_ | refine Nt.cast ?_ | refine Nt.mk _ rfl ?_ | refine EltN.mk _ rfl ?_ | refine Mx.mk _ rfl ?_ | refine Br.mk (fun _ => ?_) (fun _ => ?_) | refine EndP.mk ?_ trivial | refine EndP.mk ?_ ⟨.inr ⟨List.mem_cons_self .., ?_, rfl⟩, trivial⟩ | refine Ar.i64 (by omega) ?_ | refine Ar.u8 (by omega) ?_ | refine Quo.pos (by omega) ?_ | refine Rem.pos (by omega) ?_ | refine BsP.own ?_ | refine Ob.mk ⟨rfl, rfl⟩ ?_ | refine Ob.mk (flat_i _ _).1 ?_ | refine Ob.mk (flat_i _ _) ?_ | refine Ob.mk (flat_s _) ?_ | refine Ob.mk (by first | omega | (simp; first | done | fail) | (simp; omega)) ?_ | fail
        all_goals first
          | (exfalso; omega)
          | (rw [szPR, if_neg (by unfold szP; omega)]; rfl)
          | (conv => whnf
             refine ⟨i + 1, ⟨by omega, by omega⟩, by omega, ?_⟩
             rw [show sz1 (pt ps i).row.length (left - (ps.length : Int) - (sumP ps i : Nat)) = left - (ps.length : Int) - (sumP ps (i + 1) : Nat) by omega]
             rfl)
      · obtain rfl : i = ps.length := by omega
        repeat' (conv => whnf); first | refine Br.tt ?_ | refine Br.ff ?_ | refine Br.not ?_ | refine Br.dand (fun _ => ?_) (fun _ => ?_) | refine Br.dec (fun _ => ?_) (fun _ => ?_) | refine Br.beq (fun _ => ?_) (fun _ => ?_) | refine Br.bne (fun _ => ?_) (fun _ => ?_) | refine Br.seq (fun _ => ?_) (fun _ => ?_) | refine Elt.i (by omega) ?_ | refine EltN.i (by omega) ?_ | refine Nt.cast ?_ | refine Nt.mk _ rfl ?_ | refine EltN.mk _ rfl ?_ | refine Mx.mk _ rfl ?_ | refine Br.mk (fun _ => ?_) (fun _ => ?_) | refine EndP.mk ?_ trivial | refine EndP.mk ?_ ⟨.inr ⟨List.mem_cons_self .., ?_, rfl⟩, trivial⟩ | refine Ar.i64 (by omega) ?_ | refine Ar.u8 (by omega) ?_ | refine Quo.pos (by omega) ?_ | refine Rem.pos (by omega) ?_ | refine BsP.own ?_ | refine Ob.mk ⟨rfl, rfl⟩ ?_ | refine Ob.mk (flat_i _ _).1 ?_ | refine Ob.mk (flat_i _ _) ?_ | refine Ob.mk (flat_s _) ?_ | refine Ob.mk (by first | omega | (simp; first | done | fail) | (simp; omega)) ?_ | fail
        all_goals first
          | (exfalso; omega)
          | (rw [szPR, if_pos (show 0 ≤ szP ps left from hs)]; rfl)
end Go.Proofs.Ytfcjjkfjdecakaa
