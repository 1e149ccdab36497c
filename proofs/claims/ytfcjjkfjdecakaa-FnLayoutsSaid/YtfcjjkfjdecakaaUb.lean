/- Drawn events. Condition: no more than 2000000 bytes. -/
import Derived.Test.YtfcjjkfjdecakaaUa
import Derived.Test.YtfcjjkfjdecakaaTa
namespace Go.Proofs.Ytfcjjkfjdecakaa
open Go Go.Vx
set_option linter.unusedVariables false
set_option linter.unusedSimpArgs false
set_option maxHeartbeats 600000
set_option maxRecDepth 100000


theorem big2_vow (l : List UInt8) : Vow Try.prog 25 [.sl (l.map byteV)] (.b (decide (1048576 < (l.length : Int)))) [] := by
  have hl : (l.map byteV).length = l.length := by simp
  refine vow_of_ev (fn := Try.f25) [] [(0, 0), (3, 6)] tt_ok Try.func25 (by decide) rfl (Nat.le_of_ble_eq_true rfl) rfl rfl rfl ?_
  repeat' (conv => whnf); first | refine Br.tt ?_ | refine Br.ff ?_ | refine Br.not ?_ | refine Br.dand (fun _ => ?_) (fun _ => ?_) | refine Br.dec (fun _ => ?_) (fun _ => ?_) | refine Br.beq (fun _ => ?_) (fun _ => ?_) | refine Br.bne (fun _ => ?_) (fun _ => ?_) | refine Br.seq (fun _ => ?_) (fun _ => ?_) | refine Elt.i (by omega) ?_ | refine EltN.i (by omega) ?_ | refine Nt.cast ?_ | refine Nt.mk _ rfl ?_ | refine EltN.mk _ rfl ?_ | refine Mx.mk _ rfl ?_ | refine Br.mk (fun _ => ?_) (fun _ => ?_) | refine EndP.mk ?_ trivial | refine EndP.mk ?_ ⟨.inr ⟨List.mem_cons_self .., ?_, rfl⟩, trivial⟩ | refine Ar.i64 (by omega) ?_ | refine Ar.u8 (by omega) ?_ | refine Quo.pos (by omega) ?_ | refine Rem.pos (by omega) ?_ | refine BsP.own ?_ | refine Ob.mk ⟨rfl, rfl⟩ ?_ | refine Ob.mk (flat_i _ _).1 ?_ | refine Ob.mk (flat_i _ _) ?_ | refine Ob.mk (flat_s _) ?_ | refine Ob.mk (by first | omega | (simp; first | done | fail) | (simp; omega)) ?_ | fail
  rw [hl]; rfl

theorem l01Once_vow (c : Cur) (h : c.ok) (n : Int) : Vow Try.prog 151 [curV c, .i .i64 n] (.b (below c n == 0)) [curV (belowNext c n)] := by
  refine vow_of_ev (fn := Try.f151) [0] [(0, 0), (5, 9)] tt_ok Try.func151 (by decide) rfl (Nat.le_of_ble_eq_true rfl) rfl rfl rfl ?_
  repeat' (conv => whnf); first | refine CallP.ho [([2], [2])] (l01Below_vow c h n) rfl rfl ?_ | refine Br.tt ?_ | refine Br.ff ?_ | refine Br.not ?_ | refine Br.dand (fun _ => ?_) (fun _ => ?_) | refine Br.dec (fun _ => ?_) (fun _ => ?_) | refine Br.beq (fun _ => ?_) (fun _ => ?_) | refine Br.bne (fun _ => ?_) (fun _ => ?_) | refine Br.seq (fun _ => ?_) (fun _ => ?_) | refine Elt.i (by omega) ?_ | refine EltN.i (by omega) ?_ | refine Nt.cast ?_ | refine Nt.mk _ rfl ?_ | refine EltN.mk _ rfl ?_ | refine Mx.mk _ rfl ?_ | refine Br.mk (fun _ => ?_) (fun _ => ?_) | refine EndP.mk ?_ trivial | refine EndP.mk ?_ ⟨.inr ⟨List.mem_cons_self .., ?_, rfl⟩, trivial⟩ | refine Ar.i64 (by omega) ?_ | refine Ar.u8 (by omega) ?_ | refine Quo.pos (by omega) ?_ | refine Rem.pos (by omega) ?_ | refine BsP.own ?_ | refine Ob.mk ⟨rfl, rfl⟩ ?_ | refine Ob.mk (flat_i _ _).1 ?_ | refine Ob.mk (flat_i _ _) ?_ | refine Ob.mk (flat_s _) ?_ | refine Ob.mk (by first | omega | (simp; first | done | fail) | (simp; omega)) ?_ | fail
  all_goals rfl

def seqs : List Int := [0, 65535, 65530, 65520, 32767, 32768]
theorem seqs_at {i : Nat} (h : i < 6) : (seqs.map (V.i .i64))[i]? = some (.i .i64 (seqs.getD i 0)) := by
  have : i = 0 ∨ i = 1 ∨ i = 2 ∨ i = 3 ∨ i = 4 ∨ i = 5 := by omega
  rcases this with rfl | rfl | rfl | rfl | rfl | rfl <;> rfl
theorem seqs_fit {i : Nat} (h : i < 6) : 0 ≤ seqs.getD i 0 ∧ seqs.getD i 0 ≤ 65535 := by
  have : i = 0 ∨ i = 1 ∨ i = 2 ∨ i = 3 ∨ i = 4 ∨ i = 5 := by omega
  rcases this with rfl | rfl | rfl | rfl | rfl | rfl <;> decide
theorem pickSeq_vow (c : Cur) (h : c.ok) : Vow Try.prog 170 [curV c, .sl [.i .i64 0, .i .i64 65535, .i .i64 65530, .i .i64 65520, .i .i64 32767, .i .i64 32768]] (.i .i64 (seqs.getD (below c 6).toNat 0)) [curV (belowNext c 6)] := by
  have hb := below_fit c (n := 6) (by omega)
  have ha := seqs_at (i := (below c 6).toNat) (by omega)
  refine vow_of_ev (fn := Try.f170) [0] [(0, 0), (5, 12)] tt_ok Try.func170 (by decide) rfl (Nat.le_of_ble_eq_true rfl) rfl rfl rfl ?_
  repeat' (conv => whnf); first | refine CallP.ho [([2], [2])] (l01Below_vow c h 6) rfl rfl ?_ | refine Elt.mk _ (by omega) ha ?_ | refine Br.tt ?_ | refine Br.ff ?_ | refine Br.not ?_ | refine Br.dand (fun _ => ?_) (fun _ => ?_) | refine Br.dec (fun _ => ?_) (fun _ => ?_) | refine Br.beq (fun _ => ?_) (fun _ => ?_) | refine Br.bne (fun _ => ?_) (fun _ => ?_) | refine Br.seq (fun _ => ?_) (fun _ => ?_) | refine Elt.i (by omega) ?_ | refine EltN.i (by omega) ?_ | refine Nt.cast ?_ | refine Nt.mk _ rfl ?_ | refine EltN.mk _ rfl ?_ | refine Mx.mk _ rfl ?_ | refine Br.mk (fun _ => ?_) (fun _ => ?_) | refine EndP.mk ?_ trivial | refine EndP.mk ?_ ⟨.inr ⟨List.mem_cons_self .., ?_, rfl⟩, trivial⟩ | refine Ar.i64 (by omega) ?_ | refine Ar.u8 (by omega) ?_ | refine Quo.pos (by omega) ?_ | refine Rem.pos (by omega) ?_ | refine BsP.own ?_ | refine Ob.mk ⟨rfl, rfl⟩ ?_ | refine Ob.mk (flat_i _ _).1 ?_ | refine Ob.mk (flat_i _ _) ?_ | refine Ob.mk (flat_s _) ?_ | refine Ob.mk (by first | omega | (simp; first | done | fail) | (simp; omega)) ?_ | fail
  all_goals rfl

def seqDraw (c : Cur) : Int × Cur := if below c 3 = 0 then (seqs.getD (below (belowNext c 3) 6).toNat 0, belowNext (belowNext c 3) 6) else (below (belowNext c 3) 65536, belowNext (belowNext c 3) 65536)
theorem seqDraw_fit (c : Cur) : 0 ≤ (seqDraw c).1 ∧ (seqDraw c).1 ≤ 65535 := by
  have hb := below_fit (belowNext c 3) (n := 6) (by omega)
  have hb2 := below_fit (belowNext c 3) (n := 65536) (by omega)
  unfold seqDraw
  split
  · exact seqs_fit (by omega)
  · show 0 ≤ below (belowNext c 3) 65536 ∧ below (belowNext c 3) 65536 ≤ 65535
    omega
theorem seqDraw_ok {c : Cur} (h : c.ok) : (seqDraw c).2.ok := by
  unfold seqDraw
  split
  · exact belowNext_ok (belowNext_ok h 3) 6
  · exact belowNext_ok (belowNext_ok h 3) 65536
theorem l22Seq_vow (c : Cur) (h : c.ok) : Vow Try.prog 150 [curV c] (.i .i64 (seqDraw c).1) [curV (seqDraw c).2] := by
  have o1 := belowNext_ok h 3
  by_cases hk : below c 3 = 0
  · rw [seqDraw, if_pos hk]
    refine vow_of_ev (fn := Try.f150) [0] [(0, 0), (3, 4), (5, 8), (8, 10)] tt_ok Try.func150 (by decide) rfl (Nat.le_of_ble_eq_true rfl) rfl rfl rfl ?_
    repeat' (conv => whnf); first | refine CallP.ho [([2], [2])] (l01Once_vow c h 3) rfl rfl ?_ | refine CallP.ho [([2], [2])] (pickSeq_vow (belowNext c 3) o1) rfl rfl ?_ | refine BsP.imm ?_ | refine Br.tt ?_ | refine Br.ff ?_ | refine Br.not ?_ | refine Br.dand (fun _ => ?_) (fun _ => ?_) | refine Br.dec (fun _ => ?_) (fun _ => ?_) | refine Br.beq (fun _ => ?_) (fun _ => ?_) | refine Br.bne (fun _ => ?_) (fun _ => ?_) | refine Br.seq (fun _ => ?_) (fun _ => ?_) | refine Elt.i (by omega) ?_ | refine EltN.i (by omega) ?_ | refine Nt.cast ?_ | refine Nt.mk _ rfl ?_ | refine EltN.mk _ rfl ?_ | refine Mx.mk _ rfl ?_ | refine Br.mk (fun _ => ?_) (fun _ => ?_) | refine EndP.mk ?_ trivial | refine EndP.mk ?_ ⟨.inr ⟨List.mem_cons_self .., ?_, rfl⟩, trivial⟩ | refine Ar.i64 (by omega) ?_ | refine Ar.u8 (by omega) ?_ | refine Quo.pos (by omega) ?_ | refine Rem.pos (by omega) ?_ | refine BsP.own ?_ | refine Ob.mk ⟨rfl, rfl⟩ ?_ | refine Ob.mk (flat_i _ _).1 ?_ | refine Ob.mk (flat_i _ _) ?_ | refine Ob.mk (flat_s _) ?_ | refine Ob.mk (by first | omega | (simp; first | done | fail) | (simp; omega)) ?_ | fail
    all_goals first
      | exact absurd hk (by assumption)
      | rfl
  · rw [seqDraw, if_neg hk]
    refine vow_of_ev (fn := Try.f150) [0] [(0, 0), (3, 4), (5, 8), (8, 10)] tt_ok Try.func150 (by decide) rfl (Nat.le_of_ble_eq_true rfl) rfl rfl rfl ?_
    repeat' (conv => whnf); first | refine CallP.ho [([2], [2])] (l01Once_vow c h 3) rfl rfl ?_ | refine CallP.ho [([2], [2])] (l01Below_vow (belowNext c 3) o1 65536) rfl rfl ?_ | refine Br.tt ?_ | refine Br.ff ?_ | refine Br.not ?_ | refine Br.dand (fun _ => ?_) (fun _ => ?_) | refine Br.dec (fun _ => ?_) (fun _ => ?_) | refine Br.beq (fun _ => ?_) (fun _ => ?_) | refine Br.bne (fun _ => ?_) (fun _ => ?_) | refine Br.seq (fun _ => ?_) (fun _ => ?_) | refine Elt.i (by omega) ?_ | refine EltN.i (by omega) ?_ | refine Nt.cast ?_ | refine Nt.mk _ rfl ?_ | refine EltN.mk _ rfl ?_ | refine Mx.mk _ rfl ?_ | refine Br.mk (fun _ => ?_) (fun _ => ?_) | refine EndP.mk ?_ trivial | refine EndP.mk ?_ ⟨.inr ⟨List.mem_cons_self .., ?_, rfl⟩, trivial⟩ | refine Ar.i64 (by omega) ?_ | refine Ar.u8 (by omega) ?_ | refine Quo.pos (by omega) ?_ | refine Rem.pos (by omega) ?_ | refine BsP.own ?_ | refine Ob.mk ⟨rfl, rfl⟩ ?_ | refine Ob.mk (flat_i _ _).1 ?_ | refine Ob.mk (flat_i _ _) ?_ | refine Ob.mk (flat_s _) ?_ | refine Ob.mk (by first | omega | (simp; first | done | fail) | (simp; omega)) ?_ | fail
    all_goals first
      | exact absurd (by assumption) hk
      | rfl

def evDraw (c : Cur) : Event × Cur :=
  if below c 16 = 0 then (⟨4, below (belowNext c 16) 4, 0, 0⟩, belowNext (belowNext c 16) 4)
  else if below c 16 = 1 then (⟨3, below (belowNext c 16) 4, 0, 0⟩, belowNext (belowNext c 16) 4)
  else if below c 16 = 2 then (⟨2, below (belowNext c 16) 5, 0, 0⟩, belowNext (belowNext c 16) 5)
  else if below c 16 = 3 then (⟨5, below (belowNext c 16) 3, below (belowNext (belowNext c 16) 3) 60, 1 + below (belowNext (belowNext (belowNext c 16) 3) 60) 255⟩, belowNext (belowNext (belowNext (belowNext c 16) 3) 60) 255)
  else if below c 16 = 4 then (⟨6, below (belowNext c 16) 3, (seqDraw (belowNext (belowNext c 16) 3)).1, below (seqDraw (belowNext (belowNext c 16) 3)).2 1000⟩, belowNext (seqDraw (belowNext (belowNext c 16) 3)).2 1000)
  else if below c 16 = 5 then (⟨9, below (belowNext c 16) 2, 0, 0⟩, belowNext (belowNext c 16) 2)
  else if below c 16 ≤ 9 then (⟨8, 0, 0, 0⟩, belowNext c 16)
  else if below c 16 ≤ 11 then (⟨7, 0, 0, 0⟩, belowNext c 16)
  else (⟨1, below (belowNext (belowNext c 16) 5) 3, if below (belowNext c 16) 5 = 0 then 1 else 0, 0⟩, belowNext (belowNext (belowNext c 16) 5) 3)

theorem evDraw_0 {c : Cur} (h : below c 16 = 0) : evDraw c = (⟨4, below (belowNext c 16) 4, 0, 0⟩, belowNext (belowNext c 16) 4) := by rw [evDraw, if_pos h]
theorem evDraw_1 {c : Cur} (h : below c 16 = 1) : evDraw c = (⟨3, below (belowNext c 16) 4, 0, 0⟩, belowNext (belowNext c 16) 4) := by rw [evDraw, if_neg (by omega), if_pos h]
theorem evDraw_2 {c : Cur} (h : below c 16 = 2) : evDraw c = (⟨2, below (belowNext c 16) 5, 0, 0⟩, belowNext (belowNext c 16) 5) := by rw [evDraw, if_neg (by omega), if_neg (by omega), if_pos h]
theorem evDraw_3 {c : Cur} (h : below c 16 = 3) : evDraw c = (⟨5, below (belowNext c 16) 3, below (belowNext (belowNext c 16) 3) 60, 1 + below (belowNext (belowNext (belowNext c 16) 3) 60) 255⟩, belowNext (belowNext (belowNext (belowNext c 16) 3) 60) 255) := by
  rw [evDraw, if_neg (by omega), if_neg (by omega), if_neg (by omega), if_pos h]
theorem evDraw_4 {c : Cur} (h : below c 16 = 4) : evDraw c = (⟨6, below (belowNext c 16) 3, (seqDraw (belowNext (belowNext c 16) 3)).1, below (seqDraw (belowNext (belowNext c 16) 3)).2 1000⟩, belowNext (seqDraw (belowNext (belowNext c 16) 3)).2 1000) := by
  rw [evDraw, if_neg (by omega), if_neg (by omega), if_neg (by omega), if_neg (by omega), if_pos h]
theorem evDraw_5 {c : Cur} (h : below c 16 = 5) : evDraw c = (⟨9, below (belowNext c 16) 2, 0, 0⟩, belowNext (belowNext c 16) 2) := by
  rw [evDraw, if_neg (by omega), if_neg (by omega), if_neg (by omega), if_neg (by omega), if_neg (by omega), if_pos h]
theorem evDraw_6 {c : Cur} (h : 6 ≤ below c 16 ∧ below c 16 ≤ 9) : evDraw c = (⟨8, 0, 0, 0⟩, belowNext c 16) := by
  rw [evDraw, if_neg (by omega), if_neg (by omega), if_neg (by omega), if_neg (by omega), if_neg (by omega), if_neg (by omega), if_pos h.2]
theorem evDraw_10 {c : Cur} (h : 10 ≤ below c 16 ∧ below c 16 ≤ 11) : evDraw c = (⟨7, 0, 0, 0⟩, belowNext c 16) := by
  rw [evDraw, if_neg (by omega), if_neg (by omega), if_neg (by omega), if_neg (by omega), if_neg (by omega), if_neg (by omega), if_neg (by omega), if_pos h.2]
theorem evDraw_12 {c : Cur} (h : 12 ≤ below c 16) : evDraw c = (⟨1, below (belowNext (belowNext c 16) 5) 3, if below (belowNext c 16) 5 = 0 then 1 else 0, 0⟩, belowNext (belowNext (belowNext c 16) 5) 3) := by
  rw [evDraw, if_neg (by omega), if_neg (by omega), if_neg (by omega), if_neg (by omega), if_neg (by omega), if_neg (by omega), if_neg (by omega), if_neg (by omega)]

theorem evDraw_ok {c : Cur} (h : c.ok) : (evDraw c).2.ok := by
  have o1 := belowNext_ok h 16
  unfold evDraw
  repeat' split
  all_goals first
    | exact belowNext_ok o1 4
    | exact belowNext_ok o1 5
    | exact belowNext_ok (belowNext_ok (belowNext_ok o1 3) 60) 255
    | exact belowNext_ok (seqDraw_ok (belowNext_ok o1 3)) 1000
    | exact belowNext_ok o1 2
    | exact o1
    | exact belowNext_ok (belowNext_ok o1 5) 3
theorem EvGood.of {k a b c : Int} (hk : 1 ≤ k ∧ k ≤ 9) (ha : num9 a) (hb : num9 b) (hc : num9 c) (h0 : (evWord k).2 ≤ 0 → a = 0) (h1 : (evWord k).2 ≤ 1 → b = 0) (h2 : (evWord k).2 ≤ 2 → c = 0) : EvGood ⟨k, a, b, c⟩ :=
  ⟨hk, ha, hb, hc, h0, h1, h2⟩
theorem evDraw_good (c : Cur) : EvGood (evDraw c).1 := by
  have b16 := below_fit c (n := 16) (by omega)
  have b4 := below_fit (belowNext c 16) (n := 4) (by omega)
  have b5 := below_fit (belowNext c 16) (n := 5) (by omega)
  have b3 := below_fit (belowNext c 16) (n := 3) (by omega)
  have b2 := below_fit (belowNext c 16) (n := 2) (by omega)
  have b60 := below_fit (belowNext (belowNext c 16) 3) (n := 60) (by omega)
  have b255 := below_fit (belowNext (belowNext (belowNext c 16) 3) 60) (n := 255) (by omega)
  have bs := seqDraw_fit (belowNext (belowNext c 16) 3)
  have b1000 := below_fit (seqDraw (belowNext (belowNext c 16) 3)).2 (n := 1000) (by omega)
  have b33 := below_fit (belowNext (belowNext c 16) 5) (n := 3) (by omega)
  have n1 : (evWord 1).2 = 2 := rfl
  have n2 : (evWord 2).2 = 1 := rfl
  have n3 : (evWord 3).2 = 1 := rfl
  have n4 : (evWord 4).2 = 1 := rfl
  have n5 : (evWord 5).2 = 3 := rfl
  have n6 : (evWord 6).2 = 3 := rfl
  have n9 : (evWord 9).2 = 1 := rfl
  have hk : below c 16 = 0 ∨ below c 16 = 1 ∨ below c 16 = 2 ∨ below c 16 = 3 ∨ below c 16 = 4 ∨ below c 16 = 5 ∨ (6 ≤ below c 16 ∧ below c 16 ≤ 9) ∨ (10 ≤ below c 16 ∧ below c 16 ≤ 11) ∨ 12 ≤ below c 16 := by omega
  rcases hk with h | h | h | h | h | h | h | h | h
  · rw [evDraw_0 h]; exact EvGood.of (by omega) (by unfold num9; omega) (by unfold num9; omega) (by unfold num9; omega) (fun hh => by rw [n4] at hh; omega) (fun _ => rfl) (fun _ => rfl)
  · rw [evDraw_1 h]; exact EvGood.of (by omega) (by unfold num9; omega) (by unfold num9; omega) (by unfold num9; omega) (fun hh => by rw [n3] at hh; omega) (fun _ => rfl) (fun _ => rfl)
  · rw [evDraw_2 h]; exact EvGood.of (by omega) (by unfold num9; omega) (by unfold num9; omega) (by unfold num9; omega) (fun hh => by rw [n2] at hh; omega) (fun _ => rfl) (fun _ => rfl)
  · rw [evDraw_3 h]; exact EvGood.of (by omega) (by unfold num9; omega) (by unfold num9; omega) (by unfold num9; omega) (fun hh => by rw [n5] at hh; omega) (fun hh => by rw [n5] at hh; omega) (fun hh => by rw [n5] at hh; omega)
  · rw [evDraw_4 h]; exact EvGood.of (by omega) (by unfold num9; omega) (by unfold num9; omega) (by unfold num9; omega) (fun hh => by rw [n6] at hh; omega) (fun hh => by rw [n6] at hh; omega) (fun hh => by rw [n6] at hh; omega)
  · rw [evDraw_5 h]; exact EvGood.of (by omega) (by unfold num9; omega) (by unfold num9; omega) (by unfold num9; omega) (fun hh => by rw [n9] at hh; omega) (fun _ => rfl) (fun _ => rfl)
  · rw [evDraw_6 h]; exact EvGood.of (by omega) (by unfold num9; omega) (by unfold num9; omega) (by unfold num9; omega) (fun _ => rfl) (fun _ => rfl) (fun _ => rfl)
  · rw [evDraw_10 h]; exact EvGood.of (by omega) (by unfold num9; omega) (by unfold num9; omega) (by unfold num9; omega) (fun _ => rfl) (fun _ => rfl) (fun _ => rfl)
  · rw [evDraw_12 h]
    by_cases hb : below (belowNext c 16) 5 = 0
    · rw [if_pos hb]; exact EvGood.of (by omega) (by unfold num9; omega) (by unfold num9; omega) (by unfold num9; omega) (fun hh => by rw [n1] at hh; omega) (fun hh => by rw [n1] at hh; omega) (fun _ => rfl)
    · rw [if_neg hb]; exact EvGood.of (by omega) (by unfold num9; omega) (by unfold num9; omega) (by unfold num9; omega) (fun hh => by rw [n1] at hh; omega) (fun _ => rfl) (fun _ => rfl)

set_option maxHeartbeats 6000000 in
theorem l29Event_vow (c : Cur) (h : c.ok) : Vow Try.prog 85 [curV c, .i .i64 3] (eventV (evDraw c).1) [curV (evDraw c).2] := by
  have b16 := below_fit c (n := 16) (by omega)
  have b255 := below_fit (belowNext (belowNext (belowNext c 16) 3) 60) (n := 255) (by omega)
  have o1 := belowNext_ok h 16
  have o3 := belowNext_ok o1 3
  have o60 := belowNext_ok o3 60
  have os := seqDraw_ok o3
  have o5 := belowNext_ok o1 5
  refine vow_of_ev (fn := Try.f85) [0] [(0, 0), (6, 7), (9, 10), (10, 13), (14, 15), (15, 18), (19, 20), (20, 23), (24, 25), (25, 33), (34, 35), (35, 43), (44, 45), (45, 48), (49, 50), (50, 51), (51, 52), (52, 53), (53, 54), (55, 56), (56, 57), (57, 58), (0, 0), (58, 59), (0, 0), (60, 65)] tt_ok Try.func85 (by decide) rfl (Nat.le_of_ble_eq_true rfl) rfl rfl rfl ?_
  repeat' (conv => whnf); first | refine CallP.ho [([2], [2])] (l01Below_vow c h 16) rfl rfl ?_ | refine CallP.ho [([2], [2])] (l01Below_vow (belowNext c 16) o1 4) rfl rfl ?_ | refine CallP.ho [([2], [2])] (l01Below_vow (belowNext c 16) o1 5) rfl rfl ?_ | refine CallP.ho [([2], [2])] (l01Below_vow (belowNext c 16) o1 3) rfl rfl ?_ | refine CallP.ho [([2], [2])] (l01Below_vow (belowNext c 16) o1 2) rfl rfl ?_ | refine CallP.ho [([2], [2])] (l01Below_vow (belowNext (belowNext c 16) 3) o3 60) rfl rfl ?_ | refine CallP.ho [([2], [2])] (l01Below_vow (belowNext (belowNext (belowNext c 16) 3) 60) o60 255) rfl rfl ?_ | refine CallP.ho [([2], [2])] (l22Seq_vow (belowNext (belowNext c 16) 3) o3) rfl rfl ?_ | refine CallP.ho [([2], [2])] (l01Below_vow (seqDraw (belowNext (belowNext c 16) 3)).2 os 1000) rfl rfl ?_ | refine CallP.ho [([2], [2])] (l01Once_vow (belowNext c 16) o1 5) rfl rfl ?_ | refine CallP.ho [([2], [2])] (l01Below_vow (belowNext (belowNext c 16) 5) o5 3) rfl rfl ?_ | refine Br.tt ?_ | refine Br.ff ?_ | refine Br.not ?_ | refine Br.dand (fun _ => ?_) (fun _ => ?_) | refine Br.dec (fun _ => ?_) (fun _ => ?_) | refine Br.beq (fun _ => ?_) (fun _ => ?_) | refine Br.bne (fun _ => ?_) (fun _ => ?_) | refine Br.seq (fun _ => ?_) (fun _ => ?_) | refine Elt.i (by omega) ?_ | refine EltN.i (by omega) ?_ | refine Nt.cast ?_ | refine Nt.mk _ rfl ?_ | refine EltN.mk _ rfl ?_ | refine Mx.mk _ rfl ?_ | refine Br.mk (fun _ => ?_) (fun _ => ?_) | refine EndP.mk ?_ trivial | refine EndP.mk ?_ ⟨.inr ⟨List.mem_cons_self .., ?_, rfl⟩, trivial⟩ | refine Ar.i64 (by omega) ?_ | refine Ar.u8 (by omega) ?_ | refine Quo.pos (by omega) ?_ | refine Rem.pos (by omega) ?_ | refine BsP.own ?_ | refine Ob.mk ⟨rfl, rfl⟩ ?_ | refine Ob.mk (flat_i _ _).1 ?_ | refine Ob.mk (flat_i _ _) ?_ | refine Ob.mk (flat_s _) ?_ | refine Ob.mk (by first | omega | (simp; first | done | fail) | (simp; omega)) ?_ | fail
  all_goals first
    | (exfalso; omega)
    | (rw [evDraw_0 (by omega)]; rfl)
    | (rw [evDraw_1 (by omega)]; rfl)
    | (rw [evDraw_2 (by omega)]; rfl)
    | (rw [evDraw_3 (by omega)]; rfl)
    | (rw [evDraw_4 (by omega)]; rfl)
    | (rw [evDraw_5 (by omega)]; rfl)
    | (rw [evDraw_6 (by omega)]; rfl)
    | (rw [evDraw_10 (by omega)]; rfl)
    | (rw [evDraw_12 (by omega), if_pos (by assumption)]; rfl)
    | (rw [evDraw_12 (by omega), if_neg (by assumption)]; rfl)
end Go.Proofs.Ytfcjjkfjdecakaa
