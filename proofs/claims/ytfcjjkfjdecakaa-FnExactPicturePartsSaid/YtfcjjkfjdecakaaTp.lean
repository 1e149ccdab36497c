/- Rows of signs packed into bytes: the program's side. No condition. -/
import Derived.Test.YtfcjjkfjdecakaaTk
namespace Go.Proofs.Ytfcjjkfjdecakaa
open Go Go.Vx
set_option linter.unusedVariables false
set_option linter.unusedSimpArgs false
set_option maxHeartbeats 600000
set_option maxRecDepth 100000

def orI (a b : Int) : Int := IntKind.u8.wrap (BitVec.ofInt IntKind.u8.bits a ||| BitVec.ofInt IntKind.u8.bits b).toNat
theorem orI_fit (a b : Int) : 0 ≤ orI a b ∧ orI a b ≤ 255 := by
  have h := (BitVec.ofInt IntKind.u8.bits a ||| BitVec.ofInt IntKind.u8.bits b).isLt
  have h2 : (2 : Nat) ^ IntKind.u8.bits = 256 := by decide
  unfold orI
  rw [IntWalk.u8_in _ (by omega)]
  omega
def bitI (k : Int) : Int := (128 : Int).fdiv (2 ^ min k.toNat IntKind.u8.bits)
def orB (x : UInt8) (i : Nat) : UInt8 := UInt8.ofNat (orI x.toNat (bitI ((i : Int) % 8))).toNat
theorem orB_v (x : UInt8) (i : Nat) : byteV (orB x i) = .i .u8 (orI x.toNat (bitI ((i : Int) % 8))) := by
  have := orI_fit x.toNat (bitI ((i : Int) % 8))
  unfold byteV orB
  congr 1
  rw [UInt8.toNat_ofNat']
  omega
def orAt (l : List UInt8) (i : Nat) : List UInt8 := l.set (i / 8) (orB (rb l (i / 8)) i)
theorem orAt_len (l : List UInt8) (i : Nat) : (orAt l i).length = l.length := by simp [orAt]
def pk (t : List UInt8) : Nat → List UInt8
  | 0 => List.replicate (t.length / 8 + 1) 0
  | i + 1 => if (rb t i).toNat = 49 then orAt (pk t i) i else pk t i
theorem pk_len (t : List UInt8) : ∀ i, (pk t i).length = t.length / 8 + 1
  | 0 => by simp [pk]
  | i + 1 => by simp only [pk]; split <;> simp [orAt_len, pk_len t i]
def packS (t : List UInt8) : List UInt8 := orAt (pk t t.length) t.length
theorem byte_at2 {l : List UInt8} {i : Nat} (h : i < l.length) : (l.map byteV)[i]? = some (.i .u8 (rb l i).toNat) := by simp [rb, h, byteV]
theorem orAt_set (l : List UInt8) (i : Nat) : (l.map byteV).set (i / 8) (.i .u8 (orI (rb l (i / 8)).toNat (bitI ((i : Int) % 8)))) = (orAt l i).map byteV := by
  rw [← orB_v, orAt, List.map_set]

theorem rowBytes_impl (t : List UInt8) (h : rowOk t) : Vow Try.prog 138 [.s t] (.tp [.s (packS t), .b true]) [] := by
  have hk := rowOk_impl t
  rw [decide_eq_true h] at hk
  have h1 := h.1
  refine vow_of_ev (fn := Try.f138) [] [(0, 0), (6, 8), (0, 0), (9, 14), (0, 0), (14, 17), (18, 20), (20, 23), (24, 34), (34, 46), (46, 48)] tt_ok Try.func138 (by decide) rfl (Nat.le_of_ble_eq_true rfl) rfl rfl rfl ?_
  repeat' (conv => whnf); first | refine CallP.rd (hk) rfl rfl rfl rfl ?_ | refine Br.tt ?_ | refine Br.ff ?_ | refine Br.not ?_ | refine Br.dand (fun _ => ?_) (fun _ => ?_) | refine Br.dec (fun _ => ?_) (fun _ => ?_) | refine Br.beq (fun _ => ?_) (fun _ => ?_) | refine Br.bne (fun _ => ?_) (fun _ => ?_) | refine Br.seq (fun _ => ?_) (fun _ => ?_) | refine Elt.i (by omega) ?_ | refine EltN.i (by omega) ?_ | refine Nt.cast ?_ | refine Nt.mk _ rfl ?_ | refine EltN.mk _ rfl ?_ | refine Mx.mk _ rfl ?_ | refine Br.mk (fun _ => ?_) (fun _ => ?_) | refine EndP.mk ?_ trivial | refine EndP.mk ?_ ⟨.inr ⟨List.mem_cons_self .., ?_, rfl⟩, trivial⟩ | refine Ar.i64 (by omega) ?_ | refine Ar.u8 (by omega) ?_ | refine Quo.pos (by omega) ?_ | refine Rem.pos (by omega) ?_ | refine BsP.own ?_ | refine Ob.mk ⟨rfl, rfl⟩ ?_ | refine Ob.mk (flat_i _ _).1 ?_ | refine Ob.mk (flat_i _ _) ?_ | refine Ob.mk (flat_s _) ?_ | refine Ob.mk (by first | omega | (simp; first | done | fail) | (simp; omega)) ?_ | fail
  · conv => whnf
    refine LoopP.mk [0,2,3,4,5] (fun i : Nat => [(0, .s t), (2, .s []), (3, .b false), (4, .ow 1 ((pk t i).map byteV)), (5, .i .i64 i)]) (fun i => t.length - i) (fun i => i ≤ t.length) ?_ ?_
    · conv => whnf
      refine ⟨0, by omega, ?_⟩
      rw [show List.replicate ((t.length : Int) / 8 + 1).toNat (V.i .u8 0) = (pk t 0).map byteV by
        rw [show ((t.length : Int) / 8 + 1).toNat = t.length / 8 + 1 by omega]
        simp [pk, byteV]]
      rfl
    · intro i hi
      have hl := pk_len t i
      have hl2 : ((pk t i).map byteV).length = t.length / 8 + 1 := by simp [hl]
      have hb := (rb t i).toNat_lt
      by_cases hin : i < t.length
      · repeat' (conv => whnf); first | refine Chr.at (by omega) ?_ | refine Nt.of (i / 8) (by omega) ?_ | refine EltN.mk _ (byte_at2 (show i / 8 < (pk t i).length by omega)) ?_ | refine Shr.mk (by omega) ?_ | refine Br.tt ?_ | refine Br.ff ?_ | refine Br.not ?_ | refine Br.dand (fun _ => ?_) (fun _ => ?_) | refine Br.dec (fun _ => ?_) (fun _ => ?_) | refine Br.beq (fun _ => ?_) (fun _ => ?_) | refine Br.bne (fun _ => ?_) (fun _ => ?_) | refine Br.seq (fun _ => ?_) (fun _ => ?_) | refine Elt.i (by omega) ?_ | refine EltN.i (by omega) ?_ | refine Nt.cast ?_ | refine Nt.mk _ rfl ?_ | refine EltN.mk _ rfl ?_ | refine Mx.mk _ rfl ?_ | refine Br.mk (fun _ => ?_) (fun _ => ?_) | refine EndP.mk ?_ trivial | refine EndP.mk ?_ ⟨.inr ⟨List.mem_cons_self .., ?_, rfl⟩, trivial⟩ | refine Ar.i64 (by omega) ?_ | refine Ar.u8 (by omega) ?_ | refine Quo.pos (by omega) ?_ | refine Rem.pos (by omega) ?_ | refine BsP.own ?_ | refine Ob.mk ⟨rfl, rfl⟩ ?_ | refine Ob.mk (flat_i _ _).1 ?_ | refine Ob.mk (flat_i _ _) ?_ | refine Ob.mk (flat_s _) ?_ | refine Ob.mk (by first | omega | (simp; first | done | fail) | (simp; omega)) ?_ | fail
        all_goals first
          | (exfalso; omega)
          | (conv => whnf
             refine ⟨i + 1, by omega, by omega, ?_⟩
             first
               | (rw [show pk t (i + 1) = orAt (pk t i) i by simp only [pk]; rw [if_pos (by omega)], ← orAt_set]; rfl)
               | (rw [show pk t (i + 1) = pk t i by simp only [pk]; rw [if_neg (by omega)]]; rfl))
      · obtain rfl : i = t.length := by omega
        have hB : allB (((pk t t.length).map byteV).set (t.length / 8) (.i .u8 (orI (rb (pk t t.length) (t.length / 8)).toNat (bitI ((t.length : Int) % 8))))) = some (packS t) := by
          rw [orAt_set]; exact byt_tail _
        repeat' (conv => whnf); first | refine Nt.of (t.length / 8) (by omega) ?_ | refine EltN.mk _ (byte_at2 (show t.length / 8 < (pk t t.length).length by omega)) ?_ | refine Shr.mk (by omega) ?_ | refine Byt.mk _ hB ?_ | refine Br.tt ?_ | refine Br.ff ?_ | refine Br.not ?_ | refine Br.dand (fun _ => ?_) (fun _ => ?_) | refine Br.dec (fun _ => ?_) (fun _ => ?_) | refine Br.beq (fun _ => ?_) (fun _ => ?_) | refine Br.bne (fun _ => ?_) (fun _ => ?_) | refine Br.seq (fun _ => ?_) (fun _ => ?_) | refine Elt.i (by omega) ?_ | refine EltN.i (by omega) ?_ | refine Nt.cast ?_ | refine Nt.mk _ rfl ?_ | refine EltN.mk _ rfl ?_ | refine Mx.mk _ rfl ?_ | refine Br.mk (fun _ => ?_) (fun _ => ?_) | refine EndP.mk ?_ trivial | refine EndP.mk ?_ ⟨.inr ⟨List.mem_cons_self .., ?_, rfl⟩, trivial⟩ | refine Ar.i64 (by omega) ?_ | refine Ar.u8 (by omega) ?_ | refine Quo.pos (by omega) ?_ | refine Rem.pos (by omega) ?_ | refine BsP.own ?_ | refine Ob.mk ⟨rfl, rfl⟩ ?_ | refine Ob.mk (flat_i _ _).1 ?_ | refine Ob.mk (flat_i _ _) ?_ | refine Ob.mk (flat_s _) ?_ | refine Ob.mk (by first | omega | (simp; first | done | fail) | (simp; omega)) ?_ | fail
        all_goals first
          | (exfalso; omega)
          | rfl

theorem packS_len (t : List UInt8) : (packS t).length = t.length / 8 + 1 := by unfold packS; rw [orAt_len, pk_len]
end Go.Proofs.Ytfcjjkfjdecakaa
