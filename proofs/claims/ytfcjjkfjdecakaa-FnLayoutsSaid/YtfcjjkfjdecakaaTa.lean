/- A cursor over drawn bytes. Condition: no more than 2000000 bytes. -/
import Derived.Test.YtfcjjkfjdecakaaSb
import Derived.Test.YtfcjjkfjdecakaaSm
namespace Go.Proofs.Ytfcjjkfjdecakaa
open Go Go.Vx
set_option linter.unusedVariables false
set_option linter.unusedSimpArgs false
set_option maxHeartbeats 600000
set_option maxRecDepth 100000

def WI (x : Int) : Int := IntKind.i64.wrap x
def andI (a b : Int) : Int := IntKind.i64.wrap (BitVec.ofInt IntKind.i64.bits a &&& BitVec.ofInt IntKind.i64.bits b).toNat
def xorI (a b : Int) : Int := IntKind.i64.wrap (BitVec.ofInt IntKind.i64.bits a ^^^ BitVec.ofInt IntKind.i64.bits b).toNat
def shrI (a n : Int) : Int := a.fdiv (2 ^ min n.toNat IntKind.i64.bits)
theorem and_fit (a : Int) {m : Nat} (hm : (m : Int) ≤ 1073741823) : 0 ≤ andI a m ∧ andI a m ≤ m := by
  have h : (BitVec.ofInt IntKind.i64.bits a &&& BitVec.ofInt IntKind.i64.bits m).toNat ≤ m := by
    rw [BitVec.toNat_and]
    refine Nat.le_trans Nat.and_le_right ?_
    rw [BitVec.ofInt_natCast, BitVec.toNat_ofNat]
    exact Nat.mod_le _ _
  unfold andI
  rw [IntWalk.i64_in _ (by omega)]
  omega

structure Cur where
  b : List UInt8
  i : Nat
  h : Int
def curV (c : Cur) : V := .bx [.sl (c.b.map byteV), .i .i64 c.i, .i .i64 c.h]
def Cur.ok (c : Cur) : Prop := c.b.length ≤ 2000000 ∧ c.i ≤ c.b.length

def nextH (h : Int) : Int := WI (WI (h * 6364136223846793005) + 1442695040888963407)
def byte0 (h : Int) : Int := andI (xorI (shrI (nextH h) 33) (shrI (nextH h) 45)) 255
def curByte (c : Cur) : Int := if c.i < c.b.length then andI (WI (byte0 c.h + (rb c.b c.i).toNat)) 255 else byte0 c.h
def curNext (c : Cur) : Cur := ⟨c.b, if c.i < c.b.length then c.i + 1 else c.i, nextH c.h⟩
theorem byte0_fit (h : Int) : 0 ≤ byte0 h ∧ byte0 h ≤ 255 := and_fit _ (m := 255) (by omega)
theorem curByte_fit (c : Cur) : 0 ≤ curByte c ∧ curByte c ≤ 255 := by
  unfold curByte; split
  · exact and_fit _ (m := 255) (by omega)
  · exact byte0_fit _
theorem curNext_ok {c : Cur} (h : c.ok) : (curNext c).ok := by
  refine ⟨h.1, ?_⟩
  have := h.2
  show (if c.i < c.b.length then c.i + 1 else c.i) ≤ c.b.length
  split <;> omega
theorem byte_at {l : List UInt8} {i : Nat} (h : i < l.length) : (l.map byteV)[i]? = some (.i .u8 (rb l i).toNat) := by simp [rb, h, byteV]
theorem _root_.Go.Vx.Elt.by {l : List UInt8} {j : Nat} {κ : V → Prop} (h : j < l.length) (g : κ (.i .u8 (rb l j).toNat)) : Elt (l.map byteV) (j : Int) κ :=
  .mk _ (by omega) (by rw [Int.toNat_natCast]; exact byte_at h) g
theorem _root_.Go.Vx.EltN.by {l : List UInt8} {j : Nat} {κ : V → Prop} (h : j < l.length) (g : κ (.i .u8 (rb l j).toNat)) : EltN (l.map byteV) j κ := .mk _ (byte_at h) g


theorem l01Byte_vow (c : Cur) (h : c.ok) : Vow Try.prog 149 [curV c] (.i .i64 (curByte c)) [curV (curNext c)] := by
  have h1 := h.1
  have h2 := h.2
  have hl : (c.b.map byteV).length = c.b.length := by simp
  have hb := (rb c.b c.i).toNat_lt
  have h0 := byte0_fit c.h
  refine vow_of_ev (fn := Try.f149) [0] [(0, 0), (4, 13), (13, 25), (25, 34), (35, 49), (49, 57), (57, 58)] tt_ok Try.func149 (by decide) rfl (Nat.le_of_ble_eq_true rfl) rfl rfl rfl ?_
  repeat' (conv => whnf); first | refine Elt.by (by omega) ?_ | refine EltN.by (by omega) ?_ | refine Ar.i64 (by omega) ?_ | refine Ar.wrap ?_ | refine Shr.mk (by decide) ?_ | refine Br.tt ?_ | refine Br.ff ?_ | refine Br.not ?_ | refine Br.dand (fun _ => ?_) (fun _ => ?_) | refine Br.dec (fun _ => ?_) (fun _ => ?_) | refine Br.beq (fun _ => ?_) (fun _ => ?_) | refine Br.bne (fun _ => ?_) (fun _ => ?_) | refine Br.seq (fun _ => ?_) (fun _ => ?_) | refine Elt.i (by omega) ?_ | refine EltN.i (by omega) ?_ | refine Nt.cast ?_ | refine Nt.mk _ rfl ?_ | refine EltN.mk _ rfl ?_ | refine Mx.mk _ rfl ?_ | refine Br.mk (fun _ => ?_) (fun _ => ?_) | refine EndP.mk ?_ trivial | refine EndP.mk ?_ ⟨.inr ⟨List.mem_cons_self .., ?_, rfl⟩, trivial⟩ | refine Ar.i64 (by omega) ?_ | refine Ar.u8 (by omega) ?_ | refine Quo.pos (by omega) ?_ | refine Rem.pos (by omega) ?_ | refine BsP.own ?_ | refine Ob.mk ⟨rfl, rfl⟩ ?_ | refine Ob.mk (flat_i _ _).1 ?_ | refine Ob.mk (flat_i _ _) ?_ | refine Ob.mk (flat_s _) ?_ | refine Ob.mk (by first | omega | (simp; first | done | fail) | (simp; omega)) ?_ | fail
  · rw [curByte, if_pos (by omega)]; rfl
  · rw [curNext, if_pos (by omega)]; rfl
  · rw [curByte, if_neg (by omega)]; rfl
  · rw [curNext, if_neg (by omega)]; rfl

def below (c : Cur) (n : Int) : Int :=
  if n ≤ 0 then 0 else if n ≤ 256 then curByte c % n
  else (curByte c * 16777216 + curByte (curNext c) * 65536 + curByte (curNext (curNext c)) * 256 + curByte (curNext (curNext (curNext c)))) % n
def belowNext (c : Cur) (n : Int) : Cur := if n ≤ 0 then c else if n ≤ 256 then curNext c else curNext (curNext (curNext (curNext c)))
theorem belowNext_ok {c : Cur} (h : c.ok) (n : Int) : (belowNext c n).ok := by
  unfold belowNext
  split
  · exact h
  · split
    · exact curNext_ok h
    · exact curNext_ok (curNext_ok (curNext_ok (curNext_ok h)))
theorem below_fit (c : Cur) {n : Int} (h : 0 < n) : 0 ≤ below c n ∧ below c n < n := by
  unfold below
  rw [if_neg (by omega)]
  split
  · exact ⟨Int.emod_nonneg _ (by omega), Int.emod_lt_of_pos _ h⟩
  · exact ⟨Int.emod_nonneg _ (by omega), Int.emod_lt_of_pos _ h⟩

theorem l01Below_vow (c : Cur) (h : c.ok) (n : Int) : Vow Try.prog 84 [curV c, .i .i64 n] (.i .i64 (below c n)) [curV (belowNext c n)] := by
  have b0 := curByte_fit c
  have b1 := curByte_fit (curNext c)
  have b2 := curByte_fit (curNext (curNext c))
  have b3 := curByte_fit (curNext (curNext (curNext c)))
  have o1 := curNext_ok h
  have o2 := curNext_ok o1
  have o3 := curNext_ok o2
  refine vow_of_ev (fn := Try.f84) [0] [(0, 0), (9, 10), (0, 0), (11, 12), (13, 17), (17, 19), (19, 21), (21, 23), (23, 25), (25, 37)] tt_ok Try.func84 (by decide) rfl (Nat.le_of_ble_eq_true rfl) rfl rfl rfl ?_
  by_cases hn : n ≤ 256
  · repeat' (conv => whnf); first | refine CallP.ho [([2], [2])] (l01Byte_vow c h) rfl rfl ?_ | refine Br.tt ?_ | refine Br.ff ?_ | refine Br.not ?_ | refine Br.dand (fun _ => ?_) (fun _ => ?_) | refine Br.dec (fun _ => ?_) (fun _ => ?_) | refine Br.beq (fun _ => ?_) (fun _ => ?_) | refine Br.bne (fun _ => ?_) (fun _ => ?_) | refine Br.seq (fun _ => ?_) (fun _ => ?_) | refine Elt.i (by omega) ?_ | refine EltN.i (by omega) ?_ | refine Nt.cast ?_ | refine Nt.mk _ rfl ?_ | refine EltN.mk _ rfl ?_ | refine Mx.mk _ rfl ?_ | refine Br.mk (fun _ => ?_) (fun _ => ?_) | refine EndP.mk ?_ trivial | refine EndP.mk ?_ ⟨.inr ⟨List.mem_cons_self .., ?_, rfl⟩, trivial⟩ | refine Ar.i64 (by omega) ?_ | refine Ar.u8 (by omega) ?_ | refine Quo.pos (by omega) ?_ | refine Rem.pos (by omega) ?_ | refine BsP.own ?_ | refine Ob.mk ⟨rfl, rfl⟩ ?_ | refine Ob.mk (flat_i _ _).1 ?_ | refine Ob.mk (flat_i _ _) ?_ | refine Ob.mk (flat_s _) ?_ | refine Ob.mk (by first | omega | (simp; first | done | fail) | (simp; omega)) ?_ | fail
    all_goals first
      | (exfalso; omega)
      | (rw [below, if_pos (by omega)]; rfl)
      | (rw [belowNext, if_pos (by omega)]; rfl)
      | (rw [below, if_neg (by omega), if_pos (by omega)]; rfl)
      | (rw [belowNext, if_neg (by omega), if_pos (by omega)]; rfl)
      | (rw [below, if_neg (by omega), if_neg (by omega)]; rfl)
      | (rw [belowNext, if_neg (by omega), if_neg (by omega)]; rfl)
  · repeat' (conv => whnf); first | refine CallP.ho [([2], [2])] (l01Byte_vow c h) rfl rfl ?_ | refine CallP.ho [([2], [2])] (l01Byte_vow (curNext c) o1) rfl rfl ?_ | refine CallP.ho [([2], [2])] (l01Byte_vow (curNext (curNext c)) o2) rfl rfl ?_ | refine CallP.ho [([2], [2])] (l01Byte_vow (curNext (curNext (curNext c))) o3) rfl rfl ?_ | refine Br.tt ?_ | refine Br.ff ?_ | refine Br.not ?_ | refine Br.dand (fun _ => ?_) (fun _ => ?_) | refine Br.dec (fun _ => ?_) (fun _ => ?_) | refine Br.beq (fun _ => ?_) (fun _ => ?_) | refine Br.bne (fun _ => ?_) (fun _ => ?_) | refine Br.seq (fun _ => ?_) (fun _ => ?_) | refine Elt.i (by omega) ?_ | refine EltN.i (by omega) ?_ | refine Nt.cast ?_ | refine Nt.mk _ rfl ?_ | refine EltN.mk _ rfl ?_ | refine Mx.mk _ rfl ?_ | refine Br.mk (fun _ => ?_) (fun _ => ?_) | refine EndP.mk ?_ trivial | refine EndP.mk ?_ ⟨.inr ⟨List.mem_cons_self .., ?_, rfl⟩, trivial⟩ | refine Ar.i64 (by omega) ?_ | refine Ar.u8 (by omega) ?_ | refine Quo.pos (by omega) ?_ | refine Rem.pos (by omega) ?_ | refine BsP.own ?_ | refine Ob.mk ⟨rfl, rfl⟩ ?_ | refine Ob.mk (flat_i _ _).1 ?_ | refine Ob.mk (flat_i _ _) ?_ | refine Ob.mk (flat_s _) ?_ | refine Ob.mk (by first | omega | (simp; first | done | fail) | (simp; omega)) ?_ | fail
    all_goals first
      | (exfalso; omega)
      | (rw [below, if_pos (by omega)]; rfl)
      | (rw [belowNext, if_pos (by omega)]; rfl)
      | (rw [below, if_neg (by omega), if_pos (by omega)]; rfl)
      | (rw [belowNext, if_neg (by omega), if_pos (by omega)]; rfl)
      | (rw [below, if_neg (by omega), if_neg (by omega)]; rfl)
      | (rw [belowNext, if_neg (by omega), if_neg (by omega)]; rfl)

def newH (l : List UInt8) : Nat → Int
  | 0 => 94701 + l.length
  | i + 1 => andI (newH l i * 131 + (rb l i).toNat + 7) 1073741823
theorem newH_fit (l : List UInt8) (h : l.length ≤ 2000000) : ∀ i, 0 ≤ newH l i ∧ newH l i ≤ 1073741823
  | 0 => by simp only [newH]; omega
  | i + 1 => and_fit _ (m := 1073741823) (by omega)
def curNew (l : List UInt8) : Cur := ⟨l, 0, newH l (if l.length < 4000 then l.length else 4000)⟩
theorem curNew_ok {l : List UInt8} (h : l.length ≤ 2000000) : (curNew l).ok := ⟨h, Nat.zero_le _⟩

theorem l01New_vow (l : List UInt8) (h : l.length ≤ 2000000) : Vow Try.prog 83 [.sl (l.map byteV)] (curV (curNew l)) [] := by
  have hl : (l.map byteV).length = l.length := by simp
  refine vow_of_ev (fn := Try.f83) [] [(0, 0), (5, 8), (0, 0), (8, 15), (16, 18), (18, 28), (28, 32)] tt_ok Try.func83 (by decide) rfl (Nat.le_of_ble_eq_true rfl) rfl rfl rfl ?_
  repeat' (conv => whnf); first | refine Br.tt ?_ | refine Br.ff ?_ | refine Br.not ?_ | refine Br.dand (fun _ => ?_) (fun _ => ?_) | refine Br.dec (fun _ => ?_) (fun _ => ?_) | refine Br.beq (fun _ => ?_) (fun _ => ?_) | refine Br.bne (fun _ => ?_) (fun _ => ?_) | refine Br.seq (fun _ => ?_) (fun _ => ?_) | refine Elt.i (by omega) ?_ | refine EltN.i (by omega) ?_ | refine Nt.cast ?_ | refine Nt.mk _ rfl ?_ | refine EltN.mk _ rfl ?_ | refine Mx.mk _ rfl ?_ | refine Br.mk (fun _ => ?_) (fun _ => ?_) | refine EndP.mk ?_ trivial | refine EndP.mk ?_ ⟨.inr ⟨List.mem_cons_self .., ?_, rfl⟩, trivial⟩ | refine Ar.i64 (by omega) ?_ | refine Ar.u8 (by omega) ?_ | refine Quo.pos (by omega) ?_ | refine Rem.pos (by omega) ?_ | refine BsP.own ?_ | refine Ob.mk ⟨rfl, rfl⟩ ?_ | refine Ob.mk (flat_i _ _).1 ?_ | refine Ob.mk (flat_i _ _) ?_ | refine Ob.mk (flat_s _) ?_ | refine Ob.mk (by first | omega | (simp; first | done | fail) | (simp; omega)) ?_ | fail
  · conv => whnf
    refine LoopP.mk [0,2,3,4] (fun i : Nat => [(0, .sl (l.map byteV)), (2, .np), (3, .i .i64 (newH l i)), (4, .i .i64 i)]) (fun i => 4000 - i) (fun i => i ≤ l.length ∧ i ≤ 4000) ?_ ?_
    · conv => whnf
      refine ⟨0, ⟨by omega, by omega⟩, ?_⟩
      rw [hl]
      rfl
    · rintro i ⟨hi, h4⟩
      have hf := newH_fit l h i
      have hb := (rb l i).toNat_lt
      repeat' (conv => whnf); first | refine Elt.by (by omega) ?_ | refine EltN.by (by omega) ?_ | refine Br.tt ?_ | refine Br.ff ?_ | refine Br.not ?_ | refine Br.dand (fun _ => ?_) (fun _ => ?_) | refine Br.dec (fun _ => ?_) (fun _ => ?_) | refine Br.beq (fun _ => ?_) (fun _ => ?_) | refine Br.bne (fun _ => ?_) (fun _ => ?_) | refine Br.seq (fun _ => ?_) (fun _ => ?_) | refine Elt.i (by omega) ?_ | refine EltN.i (by omega) ?_ | refine Nt.cast ?_ | refine Nt.mk _ rfl ?_ | refine EltN.mk _ rfl ?_ | refine Mx.mk _ rfl ?_ | refine Br.mk (fun _ => ?_) (fun _ => ?_) | refine EndP.mk ?_ trivial | refine EndP.mk ?_ ⟨.inr ⟨List.mem_cons_self .., ?_, rfl⟩, trivial⟩ | refine Ar.i64 (by omega) ?_ | refine Ar.u8 (by omega) ?_ | refine Quo.pos (by omega) ?_ | refine Rem.pos (by omega) ?_ | refine BsP.own ?_ | refine Ob.mk ⟨rfl, rfl⟩ ?_ | refine Ob.mk (flat_i _ _).1 ?_ | refine Ob.mk (flat_i _ _) ?_ | refine Ob.mk (flat_s _) ?_ | refine Ob.mk (by first | omega | (simp; first | done | fail) | (simp; omega)) ?_ | fail
      · conv => whnf
        refine ⟨i + 1, ⟨by omega, by omega⟩, by omega, rfl⟩
      · obtain rfl : i = (if l.length < 4000 then l.length else 4000) := by split <;> omega
        rfl
      · obtain rfl : i = (if l.length < 4000 then l.length else 4000) := by split <;> omega
        rfl
end Go.Proofs.Ytfcjjkfjdecakaa
