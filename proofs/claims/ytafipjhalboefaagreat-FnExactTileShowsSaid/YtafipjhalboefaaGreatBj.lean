/- Mixers in the laws. No condition. -/
import Derived.Test.YtafipjhalboefaaGreatBb
import Derived.Test.YtafipjhalboefaaGreatBc
namespace Go.Proofs.YtafipjhalboefaaGreat
open Go Go.Vx
set_option linter.unusedVariables false
set_option linter.unusedSimpArgs false
set_option maxHeartbeats 600000
set_option maxRecDepth 100000
structure SeqD where
  level : Int
  bits : Int
  cols : List Int
  rows : List Int
def seqVs (a : SeqD) : V := .ag [.i .i64 a.level, .i .i64 a.bits, iS a.cols, iS a.rows]
def seqVo (a : SeqD) : V := .ag [.i .i64 a.level, .i .i64 a.bits, iO a.cols, iO a.rows]
def seqD : SeqD := ⟨0, 0, [], []⟩
def znSeq (a : SeqD) : Nat := a.cols.length + a.rows.length
structure HasSeq (x0 : SeqD) : Prop where
  level : IntKind.i64.has x0.level
  bits : IntKind.i64.has x0.bits
  cols : x0.cols.length ≤ maxLen ∧ ∀ z ∈ x0.cols, IntKind.i64.has z
  rows : x0.rows.length ≤ maxLen ∧ ∀ z ∈ x0.rows, IntKind.i64.has z
theorem imm_seqVo (a : SeqD) : (seqVo a).toImm = seqVs a := by simp [seqVo, seqVs, V.toImm, V.toImm.go, imm_iO]
theorem own_seqVo (a : SeqD) : (seqVo a).noSl = true := by simp [seqVo, iO, V.noSl, V.noSl.go, own_i]
theorem immR_seqVo (l : List SeqD) : (l.map seqVo).map V.toImm = l.map seqVs := immR imm_seqVo l
theorem ownR_seqVo (l : List SeqD) : V.noSl.go (l.map seqVo) = true := noSl_map own_seqVo l
theorem toSeq_w (a : SeqD) (h : znSeq a ≤ 1000000000) : Vow Tryz.prog 99 [seqVs a] (seqVo a) [] := by
  have ht : znSeq a = a.cols.length + a.rows.length := rfl
  refine vow_of_ev (fn := Tryz.f99) [] [(0, 0), (0, 0), (4, 7), (7, 10), (10, 14), (14, 18), (18, 19)] tt_ok Tryz.func99 (by decide) rfl (Nat.le_of_ble_eq_true rfl) rfl rfl rfl ?_
  repeat' (conv => whnf); first | refine CallP.re (toIntS_vow a.cols (by omega)) (by first | with_reducible rfl | (simp only [imm_i, imm_s, imm_b, iO, iS, imm_iO, seqVs, seqVo, imm_seqVo, own_seqVo, immR_seqVo, ownR_seqVo]; first | done | fail)) rfl rfl rfl (by first | rfl | exact own_i _ _ | exact own_s _ | exact own_b _ | (simp [V.noSl, V.noSl.go, own_i, own_s, own_b, iO, iS, imm_iO, seqVs, seqVo, imm_seqVo, own_seqVo, immR_seqVo, ownR_seqVo]; first | done | fail)) ?_ | refine CallP.re (toIntS_vow a.rows (by omega)) (by first | with_reducible rfl | (simp only [imm_i, imm_s, imm_b, iO, iS, imm_iO, seqVs, seqVo, imm_seqVo, own_seqVo, immR_seqVo, ownR_seqVo]; first | done | fail)) rfl rfl rfl (by first | rfl | exact own_i _ _ | exact own_s _ | exact own_b _ | (simp [V.noSl, V.noSl.go, own_i, own_s, own_b, iO, iS, imm_iO, seqVs, seqVo, imm_seqVo, own_seqVo, immR_seqVo, ownR_seqVo]; first | done | fail)) ?_ | refine Br.tt ?_ | refine Br.ff ?_ | refine Br.not ?_ | refine Br.dand (fun _ => ?_) (fun _ => ?_) | refine Br.dec (fun _ => ?_) (fun _ => ?_) | refine Br.beq (fun _ => ?_) (fun _ => ?_) | refine Br.bne (fun _ => ?_) (fun _ => ?_) | refine Br.seq (fun _ => ?_) (fun _ => ?_) | refine Elt.i (by omega) ?_ | refine EltN.i (by omega) ?_ | refine Nt.cast ?_ | refine Nt.mk _ rfl ?_ | refine EltN.mk _ rfl ?_ | refine Mx.mk _ rfl ?_ | refine Br.mk (fun _ => ?_) (fun _ => ?_) | refine EndP.mk ?_ trivial | refine EndP.mk ?_ ⟨.inr ⟨List.mem_cons_self .., ?_, rfl⟩, trivial⟩ | refine Ar.i64 (by omega) ?_ | refine Ar.u8 (by omega) ?_ | refine Quo.pos (by omega) ?_ | refine Rem.pos (by omega) ?_ | refine BsP.own ?_ | refine SetN.two ?_ | refine SetN.one ?_ | refine Ob.mk ⟨rfl, rfl⟩ ?_ | refine Ob.mk (flat_i _ _).1 ?_ | refine Ob.mk (flat_i _ _) ?_ | refine Ob.mk (flat_s _) ?_ | refine Ob.mk (by first | omega | (simp; first | done | fail) | (simp; omega)) ?_ | fail
  all_goals rfl

theorem eqSeq_w (a : SeqD) (h : znSeq a ≤ 1000000000) : Vow Tryz.prog 111 [seqVs a, seqVs a] (.b true) [] := by
  have ht : znSeq a = a.cols.length + a.rows.length := rfl
  refine vow_of_ev (fn := Tryz.f111) [] [(0, 0), (5, 9), (0, 0), (10, 14), (0, 0), (15, 20), (0, 0), (21, 26), (0, 0), (0, 0)] tt_ok Tryz.func111 (by decide) rfl (Nat.le_of_ble_eq_true rfl) rfl rfl rfl ?_
  repeat' (conv => whnf); first | refine Br.ne_self ?_ | refine Br.eq_self ?_ | refine Br.deq ?_ | refine CallP.rd (eqIntS_w a.cols (by omega)) rfl rfl rfl rfl ?_ | refine CallP.rd (eqIntS_w a.rows (by omega)) rfl rfl rfl rfl ?_ | refine Br.tt ?_ | refine Br.ff ?_ | refine Br.not ?_ | refine Br.dand (fun _ => ?_) (fun _ => ?_) | refine Br.dec (fun _ => ?_) (fun _ => ?_) | refine Br.beq (fun _ => ?_) (fun _ => ?_) | refine Br.bne (fun _ => ?_) (fun _ => ?_) | refine Br.seq (fun _ => ?_) (fun _ => ?_) | refine Elt.i (by omega) ?_ | refine EltN.i (by omega) ?_ | refine Nt.cast ?_ | refine Nt.mk _ rfl ?_ | refine EltN.mk _ rfl ?_ | refine Mx.mk _ rfl ?_ | refine Br.mk (fun _ => ?_) (fun _ => ?_) | refine EndP.mk ?_ trivial | refine EndP.mk ?_ ⟨.inr ⟨List.mem_cons_self .., ?_, rfl⟩, trivial⟩ | refine Ar.i64 (by omega) ?_ | refine Ar.u8 (by omega) ?_ | refine Quo.pos (by omega) ?_ | refine Rem.pos (by omega) ?_ | refine BsP.own ?_ | refine SetN.two ?_ | refine SetN.one ?_ | refine Ob.mk ⟨rfl, rfl⟩ ?_ | refine Ob.mk (flat_i _ _).1 ?_ | refine Ob.mk (flat_i _ _) ?_ | refine Ob.mk (flat_s _) ?_ | refine Ob.mk (by first | omega | (simp; first | done | fail) | (simp; omega)) ?_ | fail
  all_goals rfl
theorem szSeq_w (a : SeqD) (h : HasSeq a) (left : Int) (hl : 0 ≤ left ∧ left ≤ 1048576) : Vow Tryz.prog 88 [seqVs a, .i .i64 left] (.i .i64 (szL (znSeq a) left)) [] := by
  have ht : znSeq a = a.cols.length + a.rows.length := rfl
  have hm : maxLen ≤ 9223372036854775807 := by decide
  have c := szL_le (znSeq a) left
  have c0 := szL_le (a.cols.length) (left)
  have c1 := szL_le (a.rows.length) (szL (a.cols.length) (left))
  refine vow_of_ev (fn := Tryz.f88) [] [(0, 0), (5, 9), (9, 10), (0, 0), (11, 15), (15, 16), (0, 0), (17, 18)] tt_ok Tryz.func88 (by decide) rfl (Nat.le_of_ble_eq_true rfl) rfl rfl rfl ?_
  repeat' (conv => whnf); first | refine CallP.rd (szIntS_w a.cols (left) h.cols.1 (by omega)) rfl rfl rfl rfl ?_ | refine CallP.rd (szIntS_w a.rows (szL (a.cols.length) (left)) h.rows.1 (by omega)) rfl rfl rfl rfl ?_ | refine Br.tt ?_ | refine Br.ff ?_ | refine Br.not ?_ | refine Br.dand (fun _ => ?_) (fun _ => ?_) | refine Br.dec (fun _ => ?_) (fun _ => ?_) | refine Br.beq (fun _ => ?_) (fun _ => ?_) | refine Br.bne (fun _ => ?_) (fun _ => ?_) | refine Br.seq (fun _ => ?_) (fun _ => ?_) | refine Elt.i (by omega) ?_ | refine EltN.i (by omega) ?_ | refine Nt.cast ?_ | refine Nt.mk _ rfl ?_ | refine EltN.mk _ rfl ?_ | refine Mx.mk _ rfl ?_ | refine Br.mk (fun _ => ?_) (fun _ => ?_) | refine EndP.mk ?_ trivial | refine EndP.mk ?_ ⟨.inr ⟨List.mem_cons_self .., ?_, rfl⟩, trivial⟩ | refine Ar.i64 (by omega) ?_ | refine Ar.u8 (by omega) ?_ | refine Quo.pos (by omega) ?_ | refine Rem.pos (by omega) ?_ | refine BsP.own ?_ | refine SetN.two ?_ | refine SetN.one ?_ | refine Ob.mk ⟨rfl, rfl⟩ ?_ | refine Ob.mk (flat_i _ _).1 ?_ | refine Ob.mk (flat_i _ _) ?_ | refine Ob.mk (flat_s _) ?_ | refine Ob.mk (by first | omega | (simp; first | done | fail) | (simp; omega)) ?_ | fail
  all_goals first
    | (exfalso; omega)
    | (rw [show szL (znSeq a) left = -1 by omega]; rfl)
    | (rw [show szL (znSeq a) left = szL (a.rows.length) (szL (a.cols.length) (left)) by omega]; rfl)
structure PacketD where
  seq : Int
  first : Bool
  last : Bool
  bytes : List UInt8
def packetVs (a : PacketD) : V := .ag [.i .i64 a.seq, .b a.first, .b a.last, .s a.bytes]
def packetD : PacketD := ⟨0, false, false, []⟩
def znPacket (a : PacketD) : Nat := a.bytes.length
structure HasPacket (x0 : PacketD) : Prop where
  seq : IntKind.i64.has x0.seq
  bytes : x0.bytes.length ≤ maxLen
def packetK : List NK := [.int .i64, .bool, .bool, .str]
theorem packetW (vs : List V) (h : NLeafs packetK vs) : ∃ a : PacketD, V.ag vs = packetVs a ∧ HasPacket a := by
  obtain ⟨v0, r0, rfl, h0, h⟩ := h.cons_inv
  obtain ⟨v1, r1, rfl, h1, h⟩ := h.cons_inv
  obtain ⟨v2, r2, rfl, h2, h⟩ := h.cons_inv
  obtain ⟨v3, r3, rfl, h3, h⟩ := h.cons_inv
  obtain rfl := h.nil_inv
  obtain ⟨n0, rfl, e0⟩ := h0.int_inv
  obtain ⟨n1, rfl⟩ := h1.bool_inv
  obtain ⟨n2, rfl⟩ := h2.bool_inv
  obtain ⟨n3, rfl, e3⟩ := h3.str_inv
  exact ⟨⟨n0, n1, n2, n3⟩, rfl, ⟨e0, e3⟩⟩
theorem imm_packetVs (a : PacketD) : (packetVs a).toImm = packetVs a := rfl
theorem own_packetVs (a : PacketD) : (packetVs a).noSl = true := rfl
theorem immR_packetVs (l : List PacketD) : (l.map packetVs).map V.toImm = l.map packetVs := immR imm_packetVs l
theorem ownR_packetVs (l : List PacketD) : V.noSl.go (l.map packetVs) = true := noSl_map own_packetVs l
theorem toPacket_w (a : PacketD) (h : znPacket a ≤ 1000000000) : Vow Tryz.prog 138 [packetVs a] (packetVs a) [] := by
  have ht : znPacket a = a.bytes.length := rfl
  refine vow_of_ev (fn := Tryz.f138) [] [(0, 0), (0, 0), (4, 7), (7, 10), (10, 13), (13, 16), (16, 17)] tt_ok Tryz.func138 (by decide) rfl (Nat.le_of_ble_eq_true rfl) rfl rfl rfl ?_
  repeat' (conv => whnf); first | refine Br.tt ?_ | refine Br.ff ?_ | refine Br.not ?_ | refine Br.dand (fun _ => ?_) (fun _ => ?_) | refine Br.dec (fun _ => ?_) (fun _ => ?_) | refine Br.beq (fun _ => ?_) (fun _ => ?_) | refine Br.bne (fun _ => ?_) (fun _ => ?_) | refine Br.seq (fun _ => ?_) (fun _ => ?_) | refine Elt.i (by omega) ?_ | refine EltN.i (by omega) ?_ | refine Nt.cast ?_ | refine Nt.mk _ rfl ?_ | refine EltN.mk _ rfl ?_ | refine Mx.mk _ rfl ?_ | refine Br.mk (fun _ => ?_) (fun _ => ?_) | refine EndP.mk ?_ trivial | refine EndP.mk ?_ ⟨.inr ⟨List.mem_cons_self .., ?_, rfl⟩, trivial⟩ | refine Ar.i64 (by omega) ?_ | refine Ar.u8 (by omega) ?_ | refine Quo.pos (by omega) ?_ | refine Rem.pos (by omega) ?_ | refine BsP.own ?_ | refine SetN.two ?_ | refine SetN.one ?_ | refine Ob.mk ⟨rfl, rfl⟩ ?_ | refine Ob.mk (flat_i _ _).1 ?_ | refine Ob.mk (flat_i _ _) ?_ | refine Ob.mk (flat_s _) ?_ | refine Ob.mk (by first | omega | (simp; first | done | fail) | (simp; omega)) ?_ | fail
  all_goals rfl

theorem eqPacket_w (a : PacketD) (h : znPacket a ≤ 1000000000) : Vow Tryz.prog 145 [packetVs a, packetVs a] (.b true) [] := by
  have ht : znPacket a = a.bytes.length := rfl
  refine vow_of_ev (fn := Tryz.f145) [] [(0, 0), (5, 9), (0, 0), (10, 14), (0, 0), (15, 19), (0, 0), (20, 24), (0, 0), (0, 0)] tt_ok Tryz.func145 (by decide) rfl (Nat.le_of_ble_eq_true rfl) rfl rfl rfl ?_
  repeat' (conv => whnf); first | refine Br.ne_self ?_ | refine Br.eq_self ?_ | refine Br.deq ?_ | refine Br.tt ?_ | refine Br.ff ?_ | refine Br.not ?_ | refine Br.dand (fun _ => ?_) (fun _ => ?_) | refine Br.dec (fun _ => ?_) (fun _ => ?_) | refine Br.beq (fun _ => ?_) (fun _ => ?_) | refine Br.bne (fun _ => ?_) (fun _ => ?_) | refine Br.seq (fun _ => ?_) (fun _ => ?_) | refine Elt.i (by omega) ?_ | refine EltN.i (by omega) ?_ | refine Nt.cast ?_ | refine Nt.mk _ rfl ?_ | refine EltN.mk _ rfl ?_ | refine Mx.mk _ rfl ?_ | refine Br.mk (fun _ => ?_) (fun _ => ?_) | refine EndP.mk ?_ trivial | refine EndP.mk ?_ ⟨.inr ⟨List.mem_cons_self .., ?_, rfl⟩, trivial⟩ | refine Ar.i64 (by omega) ?_ | refine Ar.u8 (by omega) ?_ | refine Quo.pos (by omega) ?_ | refine Rem.pos (by omega) ?_ | refine BsP.own ?_ | refine SetN.two ?_ | refine SetN.one ?_ | refine Ob.mk ⟨rfl, rfl⟩ ?_ | refine Ob.mk (flat_i _ _).1 ?_ | refine Ob.mk (flat_i _ _) ?_ | refine Ob.mk (flat_s _) ?_ | refine Ob.mk (by first | omega | (simp; first | done | fail) | (simp; omega)) ?_ | fail
  all_goals rfl
theorem szPacket_w (a : PacketD) (h : HasPacket a) (left : Int) (hl : 0 ≤ left ∧ left ≤ 1048576) : Vow Tryz.prog 131 [packetVs a, .i .i64 left] (.i .i64 (szL (znPacket a) left)) [] := by
  have ht : znPacket a = a.bytes.length := rfl
  have hm : maxLen ≤ 9223372036854775807 := by decide
  have c := szL_le (znPacket a) left
  have b0 := h.bytes
  refine vow_of_ev (fn := Tryz.f131) [] [(0, 0), (5, 10), (10, 11), (0, 0), (12, 13)] tt_ok Tryz.func131 (by decide) rfl (Nat.le_of_ble_eq_true rfl) rfl rfl rfl ?_
  repeat' (conv => whnf); first | refine Br.tt ?_ | refine Br.ff ?_ | refine Br.not ?_ | refine Br.dand (fun _ => ?_) (fun _ => ?_) | refine Br.dec (fun _ => ?_) (fun _ => ?_) | refine Br.beq (fun _ => ?_) (fun _ => ?_) | refine Br.bne (fun _ => ?_) (fun _ => ?_) | refine Br.seq (fun _ => ?_) (fun _ => ?_) | refine Elt.i (by omega) ?_ | refine EltN.i (by omega) ?_ | refine Nt.cast ?_ | refine Nt.mk _ rfl ?_ | refine EltN.mk _ rfl ?_ | refine Mx.mk _ rfl ?_ | refine Br.mk (fun _ => ?_) (fun _ => ?_) | refine EndP.mk ?_ trivial | refine EndP.mk ?_ ⟨.inr ⟨List.mem_cons_self .., ?_, rfl⟩, trivial⟩ | refine Ar.i64 (by omega) ?_ | refine Ar.u8 (by omega) ?_ | refine Quo.pos (by omega) ?_ | refine Rem.pos (by omega) ?_ | refine BsP.own ?_ | refine SetN.two ?_ | refine SetN.one ?_ | refine Ob.mk ⟨rfl, rfl⟩ ?_ | refine Ob.mk (flat_i _ _).1 ?_ | refine Ob.mk (flat_i _ _) ?_ | refine Ob.mk (flat_s _) ?_ | refine Ob.mk (by first | omega | (simp; first | done | fail) | (simp; omega)) ?_ | fail
  all_goals first
    | (exfalso; omega)
    | (rw [show szL (znPacket a) left = -1 by omega]; rfl)
    | (rw [show szL (znPacket a) left = left - (a.bytes.length : Nat) by omega]; rfl)

theorem toPacketS_w (l : List PacketD) (h : l.length + sumR packetD znPacket l l.length ≤ 1000000000) : Vow Tryz.prog 162 [.sl (l.map packetVs)] (.ow 4 (l.map packetVs)) [] := by
  have hm : (l.map packetVs).length = l.length := by simp
  refine vow_of_ev (fn := Tryz.f162) [] [(0, 0), (5, 8), (0, 0), (8, 11), (12, 14), (14, 22), (22, 23)] tt_ok Tryz.func162 (by decide) rfl (Nat.le_of_ble_eq_true rfl) rfl rfl rfl ?_
  repeat' (conv => whnf); first | refine Br.tt ?_ | refine Br.ff ?_ | refine Br.not ?_ | refine Br.dand (fun _ => ?_) (fun _ => ?_) | refine Br.dec (fun _ => ?_) (fun _ => ?_) | refine Br.beq (fun _ => ?_) (fun _ => ?_) | refine Br.bne (fun _ => ?_) (fun _ => ?_) | refine Br.seq (fun _ => ?_) (fun _ => ?_) | refine Elt.i (by omega) ?_ | refine EltN.i (by omega) ?_ | refine Nt.cast ?_ | refine Nt.mk _ rfl ?_ | refine EltN.mk _ rfl ?_ | refine Mx.mk _ rfl ?_ | refine Br.mk (fun _ => ?_) (fun _ => ?_) | refine EndP.mk ?_ trivial | refine EndP.mk ?_ ⟨.inr ⟨List.mem_cons_self .., ?_, rfl⟩, trivial⟩ | refine Ar.i64 (by omega) ?_ | refine Ar.u8 (by omega) ?_ | refine Quo.pos (by omega) ?_ | refine Rem.pos (by omega) ?_ | refine BsP.own ?_ | refine SetN.two ?_ | refine SetN.one ?_ | refine Ob.mk ⟨rfl, rfl⟩ ?_ | refine Ob.mk (flat_i _ _).1 ?_ | refine Ob.mk (flat_i _ _) ?_ | refine Ob.mk (flat_s _) ?_ | refine Ob.mk (by first | omega | (simp; first | done | fail) | (simp; omega)) ?_ | fail
  · conv => whnf
    refine LoopP.mk [0,2,3,4] (fun i : Nat => [(0, .sl (l.map packetVs)), (2, .nl), (3, .ow 4 (cpR packetVs (.ag [.i .i64 0, .b false, .b false, .s []]) l i)), (4, .i .i64 i)]) (fun i => l.length - i) (fun i => i ≤ l.length) ?_ ?_
    · conv => whnf
      refine ⟨0, by omega, ?_⟩
      rw [hm, Int.toNat_natCast, show List.replicate l.length (V.ag [.i .i64 0, .b false, .b false, .s []]) = _ from cpR_0 packetVs (.ag [.i .i64 0, .b false, .b false, .s []]) l]
      rfl
    · intro i hi
      have hc := cpR_len packetVs (.ag [.i .i64 0, .b false, .b false, .s []]) l hi
      by_cases hlt : i < l.length
      · have hcl := cpR_at packetVs (.ag [.i .i64 0, .b false, .b false, .s []]) l hlt
        have he := sumR_elem packetD znPacket l hlt
        repeat' (conv => whnf); first | refine Elt.gt packetD hlt ?_ | refine EltN.gt packetD hlt ?_ | refine EltN.mk _ hcl ?_ | refine CallP.rd (toPacket_w (gt packetD l i) (by omega)) rfl rfl rfl rfl ?_ | refine DCall.rd (toPacket_w (gt packetD l i) (by omega)) rfl rfl ?_ | refine Br.tt ?_ | refine Br.ff ?_ | refine Br.not ?_ | refine Br.dand (fun _ => ?_) (fun _ => ?_) | refine Br.dec (fun _ => ?_) (fun _ => ?_) | refine Br.beq (fun _ => ?_) (fun _ => ?_) | refine Br.bne (fun _ => ?_) (fun _ => ?_) | refine Br.seq (fun _ => ?_) (fun _ => ?_) | refine Elt.i (by omega) ?_ | refine EltN.i (by omega) ?_ | refine Nt.cast ?_ | refine Nt.mk _ rfl ?_ | refine EltN.mk _ rfl ?_ | refine Mx.mk _ rfl ?_ | refine Br.mk (fun _ => ?_) (fun _ => ?_) | refine EndP.mk ?_ trivial | refine EndP.mk ?_ ⟨.inr ⟨List.mem_cons_self .., ?_, rfl⟩, trivial⟩ | refine Ar.i64 (by omega) ?_ | refine Ar.u8 (by omega) ?_ | refine Quo.pos (by omega) ?_ | refine Rem.pos (by omega) ?_ | refine BsP.own ?_ | refine SetN.two ?_ | refine SetN.one ?_ | refine Ob.mk ⟨rfl, rfl⟩ ?_ | refine Ob.mk (flat_i _ _).1 ?_ | refine Ob.mk (flat_i _ _) ?_ | refine Ob.mk (flat_s _) ?_ | refine Ob.mk (by first | omega | (simp; first | done | fail) | (simp; omega)) ?_ | fail
        all_goals first
          | (exfalso; omega)
          | (conv => whnf
             refine ⟨i + 1, by omega, by omega, ?_⟩
             rw [← cpR_set packetD packetVs (.ag [.i .i64 0, .b false, .b false, .s []]) l hlt]
             rfl)
      · obtain rfl : i = l.length := by omega
        repeat' (conv => whnf); first | refine Br.tt ?_ | refine Br.ff ?_ | refine Br.not ?_ | refine Br.dand (fun _ => ?_) (fun _ => ?_) | refine Br.dec (fun _ => ?_) (fun _ => ?_) | refine Br.beq (fun _ => ?_) (fun _ => ?_) | refine Br.bne (fun _ => ?_) (fun _ => ?_) | refine Br.seq (fun _ => ?_) (fun _ => ?_) | refine Elt.i (by omega) ?_ | refine EltN.i (by omega) ?_ | refine Nt.cast ?_ | refine Nt.mk _ rfl ?_ | refine EltN.mk _ rfl ?_ | refine Mx.mk _ rfl ?_ | refine Br.mk (fun _ => ?_) (fun _ => ?_) | refine EndP.mk ?_ trivial | refine EndP.mk ?_ ⟨.inr ⟨List.mem_cons_self .., ?_, rfl⟩, trivial⟩ | refine Ar.i64 (by omega) ?_ | refine Ar.u8 (by omega) ?_ | refine Quo.pos (by omega) ?_ | refine Rem.pos (by omega) ?_ | refine BsP.own ?_ | refine SetN.two ?_ | refine SetN.one ?_ | refine Ob.mk ⟨rfl, rfl⟩ ?_ | refine Ob.mk (flat_i _ _).1 ?_ | refine Ob.mk (flat_i _ _) ?_ | refine Ob.mk (flat_s _) ?_ | refine Ob.mk (by first | omega | (simp; first | done | fail) | (simp; omega)) ?_ | fail
        all_goals first
          | (exfalso; omega)
          | (rw [cpR_all]; rfl)

theorem eqPacketS_w (l : List PacketD) (h : l.length + sumR packetD znPacket l l.length ≤ 1000000000) : Vow Tryz.prog 163 [.sl (l.map packetVs), .sl (l.map packetVs)] (.b true) [] := by
  have hm : (l.map packetVs).length = l.length := by simp
  refine vow_of_ev (fn := Tryz.f163) [] [(0, 0), (6, 10), (0, 0), (0, 0), (11, 14), (15, 17), (17, 26), (0, 0), (0, 0)] tt_ok Tryz.func163 (by decide) rfl (Nat.le_of_ble_eq_true rfl) rfl rfl rfl ?_
  repeat' (conv => whnf); first | refine Br.ne_self ?_ | refine Br.eq_self ?_ | refine Br.deq ?_ | refine Br.tt ?_ | refine Br.ff ?_ | refine Br.not ?_ | refine Br.dand (fun _ => ?_) (fun _ => ?_) | refine Br.dec (fun _ => ?_) (fun _ => ?_) | refine Br.beq (fun _ => ?_) (fun _ => ?_) | refine Br.bne (fun _ => ?_) (fun _ => ?_) | refine Br.seq (fun _ => ?_) (fun _ => ?_) | refine Elt.i (by omega) ?_ | refine EltN.i (by omega) ?_ | refine Nt.cast ?_ | refine Nt.mk _ rfl ?_ | refine EltN.mk _ rfl ?_ | refine Mx.mk _ rfl ?_ | refine Br.mk (fun _ => ?_) (fun _ => ?_) | refine EndP.mk ?_ trivial | refine EndP.mk ?_ ⟨.inr ⟨List.mem_cons_self .., ?_, rfl⟩, trivial⟩ | refine Ar.i64 (by omega) ?_ | refine Ar.u8 (by omega) ?_ | refine Quo.pos (by omega) ?_ | refine Rem.pos (by omega) ?_ | refine BsP.own ?_ | refine SetN.two ?_ | refine SetN.one ?_ | refine Ob.mk ⟨rfl, rfl⟩ ?_ | refine Ob.mk (flat_i _ _).1 ?_ | refine Ob.mk (flat_i _ _) ?_ | refine Ob.mk (flat_s _) ?_ | refine Ob.mk (by first | omega | (simp; first | done | fail) | (simp; omega)) ?_ | fail
  · conv => whnf
    refine LoopP.mk [0,1,4,5] (fun i : Nat => [(0, .sl (l.map packetVs)), (1, .sl (l.map packetVs)), (4, .b false), (5, .i .i64 i)]) (fun i => l.length - i) (fun i => i ≤ l.length) ?_ ?_
    · conv => whnf
      exact ⟨0, by omega, rfl⟩
    · intro i hi
      by_cases hlt : i < l.length
      · have hlt2 := hlt
        have he := sumR_elem packetD znPacket l hlt
        have f1 := eqPacket_w (gt packetD l i) (by omega)
        repeat' (conv => whnf); first | refine Elt.gt packetD hlt ?_ | refine EltN.gt packetD hlt ?_ | refine CallP.rd (f1) rfl rfl rfl rfl ?_ | refine DCall.rd (f1) rfl rfl ?_ | refine Br.tt ?_ | refine Br.ff ?_ | refine Br.not ?_ | refine Br.dand (fun _ => ?_) (fun _ => ?_) | refine Br.dec (fun _ => ?_) (fun _ => ?_) | refine Br.beq (fun _ => ?_) (fun _ => ?_) | refine Br.bne (fun _ => ?_) (fun _ => ?_) | refine Br.seq (fun _ => ?_) (fun _ => ?_) | refine Elt.i (by omega) ?_ | refine EltN.i (by omega) ?_ | refine Nt.cast ?_ | refine Nt.mk _ rfl ?_ | refine EltN.mk _ rfl ?_ | refine Mx.mk _ rfl ?_ | refine Br.mk (fun _ => ?_) (fun _ => ?_) | refine EndP.mk ?_ trivial | refine EndP.mk ?_ ⟨.inr ⟨List.mem_cons_self .., ?_, rfl⟩, trivial⟩ | refine Ar.i64 (by omega) ?_ | refine Ar.u8 (by omega) ?_ | refine Quo.pos (by omega) ?_ | refine Rem.pos (by omega) ?_ | refine BsP.own ?_ | refine SetN.two ?_ | refine SetN.one ?_ | refine Ob.mk ⟨rfl, rfl⟩ ?_ | refine Ob.mk (flat_i _ _).1 ?_ | refine Ob.mk (flat_i _ _) ?_ | refine Ob.mk (flat_s _) ?_ | refine Ob.mk (by first | omega | (simp; first | done | fail) | (simp; omega)) ?_ | fail
        all_goals first
          | (exfalso; omega)
          | rfl
          | (conv => whnf
             exact ⟨i + 1, by omega, by omega, rfl⟩)
      · obtain rfl : i = l.length := by omega
        repeat' (conv => whnf); first | refine Br.tt ?_ | refine Br.ff ?_ | refine Br.not ?_ | refine Br.dand (fun _ => ?_) (fun _ => ?_) | refine Br.dec (fun _ => ?_) (fun _ => ?_) | refine Br.beq (fun _ => ?_) (fun _ => ?_) | refine Br.bne (fun _ => ?_) (fun _ => ?_) | refine Br.seq (fun _ => ?_) (fun _ => ?_) | refine Elt.i (by omega) ?_ | refine EltN.i (by omega) ?_ | refine Nt.cast ?_ | refine Nt.mk _ rfl ?_ | refine EltN.mk _ rfl ?_ | refine Mx.mk _ rfl ?_ | refine Br.mk (fun _ => ?_) (fun _ => ?_) | refine EndP.mk ?_ trivial | refine EndP.mk ?_ ⟨.inr ⟨List.mem_cons_self .., ?_, rfl⟩, trivial⟩ | refine Ar.i64 (by omega) ?_ | refine Ar.u8 (by omega) ?_ | refine Quo.pos (by omega) ?_ | refine Rem.pos (by omega) ?_ | refine BsP.own ?_ | refine SetN.two ?_ | refine SetN.one ?_ | refine Ob.mk ⟨rfl, rfl⟩ ?_ | refine Ob.mk (flat_i _ _).1 ?_ | refine Ob.mk (flat_i _ _) ?_ | refine Ob.mk (flat_s _) ?_ | refine Ob.mk (by first | omega | (simp; first | done | fail) | (simp; omega)) ?_ | fail
        all_goals first
          | (exfalso; omega)
          | rfl
theorem szPacketS_w (l : List PacketD) (left : Int) (hz : l.length ≤ maxLen) (hf : ∀ x ∈ l, HasPacket x) (hl : 0 ≤ left ∧ left ≤ 1048576) : Vow Tryz.prog 161 [.sl (l.map packetVs), .i .i64 left] (.i .i64 (szL (l.length + sumR packetD znPacket l l.length) left)) [] := by
  have hm : (l.map packetVs).length = l.length := by simp
  have hx : maxLen ≤ 9223372036854775807 := by decide
  have c := szL_le (l.length + sumR packetD znPacket l l.length) left
  refine vow_of_ev (fn := Tryz.f161) [] [(0, 0), (6, 10), (10, 11), (0, 0), (0, 0), (12, 15), (16, 18), (18, 24), (24, 25), (0, 0), (26, 27)] tt_ok Tryz.func161 (by decide) rfl (Nat.le_of_ble_eq_true rfl) rfl rfl rfl ?_
  repeat' (conv => whnf); first | refine Br.tt ?_ | refine Br.ff ?_ | refine Br.not ?_ | refine Br.dand (fun _ => ?_) (fun _ => ?_) | refine Br.dec (fun _ => ?_) (fun _ => ?_) | refine Br.beq (fun _ => ?_) (fun _ => ?_) | refine Br.bne (fun _ => ?_) (fun _ => ?_) | refine Br.seq (fun _ => ?_) (fun _ => ?_) | refine Elt.i (by omega) ?_ | refine EltN.i (by omega) ?_ | refine Nt.cast ?_ | refine Nt.mk _ rfl ?_ | refine EltN.mk _ rfl ?_ | refine Mx.mk _ rfl ?_ | refine Br.mk (fun _ => ?_) (fun _ => ?_) | refine EndP.mk ?_ trivial | refine EndP.mk ?_ ⟨.inr ⟨List.mem_cons_self .., ?_, rfl⟩, trivial⟩ | refine Ar.i64 (by omega) ?_ | refine Ar.u8 (by omega) ?_ | refine Quo.pos (by omega) ?_ | refine Rem.pos (by omega) ?_ | refine BsP.own ?_ | refine SetN.two ?_ | refine SetN.one ?_ | refine Ob.mk ⟨rfl, rfl⟩ ?_ | refine Ob.mk (flat_i _ _).1 ?_ | refine Ob.mk (flat_i _ _) ?_ | refine Ob.mk (flat_s _) ?_ | refine Ob.mk (by first | omega | (simp; first | done | fail) | (simp; omega)) ?_ | fail
  · rw [show szL (l.length + sumR packetD znPacket l l.length) left = -1 by omega]; rfl
  · conv => whnf
    refine LoopP.mk [0,1,4,5] (fun i : Nat => [(0, .sl (l.map packetVs)), (1, .i .i64 (left - (l.length : Nat) - (sumR packetD znPacket l i : Nat))), (4, .i .i64 0), (5, .i .i64 i)]) (fun i => l.length - i) (fun i => i ≤ l.length ∧ 0 ≤ left - (l.length : Nat) - (sumR packetD znPacket l i : Nat)) ?_ ?_
    · conv => whnf
      refine ⟨0, ⟨by omega, by simp only [sumR]; omega⟩, ?_⟩
      rw [hm, show left - ((l.length : Nat) : Int) - ((sumR packetD znPacket l 0 : Nat) : Int) = left - ((l.length : Nat) : Int) by simp [sumR]]
      rfl
    · rintro i ⟨hi, hs⟩
      by_cases hlt : i < l.length
      · have he := sumR_elem packetD znPacket l hlt
        have hst : sumR packetD znPacket l (i + 1) = sumR packetD znPacket l i + znPacket (gt packetD l i) := rfl
        have c3 := szL_le (znPacket (gt packetD l i)) (left - (l.length : Nat) - (sumR packetD znPacket l i : Nat))
        have f1 := szPacket_w (gt packetD l i) (hf _ (gt_mem hlt)) (left - (l.length : Nat) - (sumR packetD znPacket l i : Nat)) (by omega)
        repeat' (conv => whnf); first | refine Elt.gt packetD hlt ?_ | refine EltN.gt packetD hlt ?_ | refine CallP.rd (f1) rfl rfl rfl rfl ?_ | refine DCall.rd (f1) rfl rfl ?_ | refine Br.tt ?_ | refine Br.ff ?_ | refine Br.not ?_ | refine Br.dand (fun _ => ?_) (fun _ => ?_) | refine Br.dec (fun _ => ?_) (fun _ => ?_) | refine Br.beq (fun _ => ?_) (fun _ => ?_) | refine Br.bne (fun _ => ?_) (fun _ => ?_) | refine Br.seq (fun _ => ?_) (fun _ => ?_) | refine Elt.i (by omega) ?_ | refine EltN.i (by omega) ?_ | refine Nt.cast ?_ | refine Nt.mk _ rfl ?_ | refine EltN.mk _ rfl ?_ | refine Mx.mk _ rfl ?_ | refine Br.mk (fun _ => ?_) (fun _ => ?_) | refine EndP.mk ?_ trivial | refine EndP.mk ?_ ⟨.inr ⟨List.mem_cons_self .., ?_, rfl⟩, trivial⟩ | refine Ar.i64 (by omega) ?_ | refine Ar.u8 (by omega) ?_ | refine Quo.pos (by omega) ?_ | refine Rem.pos (by omega) ?_ | refine BsP.own ?_ | refine SetN.two ?_ | refine SetN.one ?_ | refine Ob.mk ⟨rfl, rfl⟩ ?_ | refine Ob.mk (flat_i _ _).1 ?_ | refine Ob.mk (flat_i _ _) ?_ | refine Ob.mk (flat_s _) ?_ | refine Ob.mk (by first | omega | (simp; first | done | fail) | (simp; omega)) ?_ | fail
        all_goals first
          | (exfalso; omega)
          | (rw [show szL (l.length + sumR packetD znPacket l l.length) left = -1 by omega]; rfl)
          | (conv => whnf
             refine ⟨i + 1, ⟨by omega, by omega⟩, by omega, ?_⟩
             rw [show szL (znPacket (gt packetD l i)) (left - (l.length : Nat) - (sumR packetD znPacket l i : Nat)) = left - (l.length : Nat) - (sumR packetD znPacket l (i + 1) : Nat) by omega]
             rfl)
      · obtain rfl : i = l.length := by omega
        repeat' (conv => whnf); first | refine Br.tt ?_ | refine Br.ff ?_ | refine Br.not ?_ | refine Br.dand (fun _ => ?_) (fun _ => ?_) | refine Br.dec (fun _ => ?_) (fun _ => ?_) | refine Br.beq (fun _ => ?_) (fun _ => ?_) | refine Br.bne (fun _ => ?_) (fun _ => ?_) | refine Br.seq (fun _ => ?_) (fun _ => ?_) | refine Elt.i (by omega) ?_ | refine EltN.i (by omega) ?_ | refine Nt.cast ?_ | refine Nt.mk _ rfl ?_ | refine EltN.mk _ rfl ?_ | refine Mx.mk _ rfl ?_ | refine Br.mk (fun _ => ?_) (fun _ => ?_) | refine EndP.mk ?_ trivial | refine EndP.mk ?_ ⟨.inr ⟨List.mem_cons_self .., ?_, rfl⟩, trivial⟩ | refine Ar.i64 (by omega) ?_ | refine Ar.u8 (by omega) ?_ | refine Quo.pos (by omega) ?_ | refine Rem.pos (by omega) ?_ | refine BsP.own ?_ | refine SetN.two ?_ | refine SetN.one ?_ | refine Ob.mk ⟨rfl, rfl⟩ ?_ | refine Ob.mk (flat_i _ _).1 ?_ | refine Ob.mk (flat_i _ _) ?_ | refine Ob.mk (flat_s _) ?_ | refine Ob.mk (by first | omega | (simp; first | done | fail) | (simp; omega)) ?_ | fail
        all_goals first
          | (exfalso; omega)
          | (rw [show szL (l.length + sumR packetD znPacket l l.length) left = left - (l.length : Nat) - (sumR packetD znPacket l l.length : Nat) by omega]; rfl)
structure QueueD where
  begun : Bool
  next : Int
  age : Int
  held : List PacketD
  late : Int
  far : Int
  twice : Int
  over : Int
  lost : Int
def queueVs (a : QueueD) : V := .ag [.b a.begun, .i .i64 a.next, .i .i64 a.age, .sl (a.held.map packetVs), .i .i64 a.late, .i .i64 a.far, .i .i64 a.twice, .i .i64 a.over, .i .i64 a.lost]
def queueVo (a : QueueD) : V := .ag [.b a.begun, .i .i64 a.next, .i .i64 a.age, .ow 4 (a.held.map packetVs), .i .i64 a.late, .i .i64 a.far, .i .i64 a.twice, .i .i64 a.over, .i .i64 a.lost]
def queueD : QueueD := ⟨false, 0, 0, [], 0, 0, 0, 0, 0⟩
def znQueue (a : QueueD) : Nat := (a.held.length + sumR packetD znPacket a.held a.held.length)
structure HasQueue (x0 : QueueD) : Prop where
  next : IntKind.i64.has x0.next
  age : IntKind.i64.has x0.age
  held : x0.held.length ≤ maxLen ∧ ∀ x ∈ x0.held, HasPacket x
  late : IntKind.i64.has x0.late
  far : IntKind.i64.has x0.far
  twice : IntKind.i64.has x0.twice
  over : IntKind.i64.has x0.over
  lost : IntKind.i64.has x0.lost
theorem imm_queueVo (a : QueueD) : (queueVo a).toImm = queueVs a := by simp [queueVo, queueVs, V.toImm, V.toImm.go, imm_iO, V.toImm_go, immR imm_packetVs]
theorem own_queueVo (a : QueueD) : (queueVo a).noSl = true := by simp [queueVo, iO, V.noSl, V.noSl.go, own_i, noSl_map own_packetVs]
theorem immR_queueVo (l : List QueueD) : (l.map queueVo).map V.toImm = l.map queueVs := immR imm_queueVo l
theorem ownR_queueVo (l : List QueueD) : V.noSl.go (l.map queueVo) = true := noSl_map own_queueVo l
theorem toQueue_w (a : QueueD) (h : znQueue a ≤ 1000000000) : Vow Tryz.prog 153 [queueVs a] (queueVo a) [] := by
  have ht : znQueue a = (a.held.length + sumR packetD znPacket a.held a.held.length) := rfl
  refine vow_of_ev (fn := Tryz.f153) [] [(0, 0), (0, 0), (4, 7), (7, 10), (10, 13), (13, 17), (17, 20), (20, 23), (23, 26), (26, 29), (29, 32), (32, 33)] tt_ok Tryz.func153 (by decide) rfl (Nat.le_of_ble_eq_true rfl) rfl rfl rfl ?_
  repeat' (conv => whnf); first | refine CallP.re (toPacketS_w a.held (by omega)) (by first | with_reducible rfl | (simp only [imm_i, imm_s, imm_b, iO, iS, imm_iO, packetVs, imm_packetVs, own_packetVs, immR_packetVs, ownR_packetVs, queueVs, queueVo, imm_queueVo, own_queueVo, immR_queueVo, ownR_queueVo]; first | done | fail)) rfl rfl rfl (by first | rfl | exact own_i _ _ | exact own_s _ | exact own_b _ | (simp [V.noSl, V.noSl.go, own_i, own_s, own_b, iO, iS, imm_iO, packetVs, imm_packetVs, own_packetVs, immR_packetVs, ownR_packetVs, queueVs, queueVo, imm_queueVo, own_queueVo, immR_queueVo, ownR_queueVo]; first | done | fail)) ?_ | refine Br.tt ?_ | refine Br.ff ?_ | refine Br.not ?_ | refine Br.dand (fun _ => ?_) (fun _ => ?_) | refine Br.dec (fun _ => ?_) (fun _ => ?_) | refine Br.beq (fun _ => ?_) (fun _ => ?_) | refine Br.bne (fun _ => ?_) (fun _ => ?_) | refine Br.seq (fun _ => ?_) (fun _ => ?_) | refine Elt.i (by omega) ?_ | refine EltN.i (by omega) ?_ | refine Nt.cast ?_ | refine Nt.mk _ rfl ?_ | refine EltN.mk _ rfl ?_ | refine Mx.mk _ rfl ?_ | refine Br.mk (fun _ => ?_) (fun _ => ?_) | refine EndP.mk ?_ trivial | refine EndP.mk ?_ ⟨.inr ⟨List.mem_cons_self .., ?_, rfl⟩, trivial⟩ | refine Ar.i64 (by omega) ?_ | refine Ar.u8 (by omega) ?_ | refine Quo.pos (by omega) ?_ | refine Rem.pos (by omega) ?_ | refine BsP.own ?_ | refine SetN.two ?_ | refine SetN.one ?_ | refine Ob.mk ⟨rfl, rfl⟩ ?_ | refine Ob.mk (flat_i _ _).1 ?_ | refine Ob.mk (flat_i _ _) ?_ | refine Ob.mk (flat_s _) ?_ | refine Ob.mk (by first | omega | (simp; first | done | fail) | (simp; omega)) ?_ | fail
  all_goals rfl

theorem eqQueue_w (a : QueueD) (h : znQueue a ≤ 1000000000) : Vow Tryz.prog 157 [queueVs a, queueVs a] (.b true) [] := by
  have ht : znQueue a = (a.held.length + sumR packetD znPacket a.held a.held.length) := rfl
  refine vow_of_ev (fn := Tryz.f157) [] [(0, 0), (5, 9), (0, 0), (10, 14), (0, 0), (15, 19), (0, 0), (20, 25), (0, 0), (26, 30), (0, 0), (31, 35), (0, 0), (36, 40), (0, 0), (41, 45), (0, 0), (46, 50), (0, 0), (0, 0)] tt_ok Tryz.func157 (by decide) rfl (Nat.le_of_ble_eq_true rfl) rfl rfl rfl ?_
  repeat' (conv => whnf); first | refine Br.ne_self ?_ | refine Br.eq_self ?_ | refine Br.deq ?_ | refine CallP.rd (eqPacketS_w a.held (by omega)) rfl rfl rfl rfl ?_ | refine Br.tt ?_ | refine Br.ff ?_ | refine Br.not ?_ | refine Br.dand (fun _ => ?_) (fun _ => ?_) | refine Br.dec (fun _ => ?_) (fun _ => ?_) | refine Br.beq (fun _ => ?_) (fun _ => ?_) | refine Br.bne (fun _ => ?_) (fun _ => ?_) | refine Br.seq (fun _ => ?_) (fun _ => ?_) | refine Elt.i (by omega) ?_ | refine EltN.i (by omega) ?_ | refine Nt.cast ?_ | refine Nt.mk _ rfl ?_ | refine EltN.mk _ rfl ?_ | refine Mx.mk _ rfl ?_ | refine Br.mk (fun _ => ?_) (fun _ => ?_) | refine EndP.mk ?_ trivial | refine EndP.mk ?_ ⟨.inr ⟨List.mem_cons_self .., ?_, rfl⟩, trivial⟩ | refine Ar.i64 (by omega) ?_ | refine Ar.u8 (by omega) ?_ | refine Quo.pos (by omega) ?_ | refine Rem.pos (by omega) ?_ | refine BsP.own ?_ | refine SetN.two ?_ | refine SetN.one ?_ | refine Ob.mk ⟨rfl, rfl⟩ ?_ | refine Ob.mk (flat_i _ _).1 ?_ | refine Ob.mk (flat_i _ _) ?_ | refine Ob.mk (flat_s _) ?_ | refine Ob.mk (by first | omega | (simp; first | done | fail) | (simp; omega)) ?_ | fail
  all_goals rfl
theorem szQueue_w (a : QueueD) (h : HasQueue a) (left : Int) (hl : 0 ≤ left ∧ left ≤ 1048576) : Vow Tryz.prog 151 [queueVs a, .i .i64 left] (.i .i64 (szL (znQueue a) left)) [] := by
  have ht : znQueue a = (a.held.length + sumR packetD znPacket a.held a.held.length) := rfl
  have hm : maxLen ≤ 9223372036854775807 := by decide
  have c := szL_le (znQueue a) left
  have c0 := szL_le ((a.held.length + sumR packetD znPacket a.held a.held.length)) (left)
  refine vow_of_ev (fn := Tryz.f151) [] [(0, 0), (5, 9), (9, 10), (0, 0), (11, 12)] tt_ok Tryz.func151 (by decide) rfl (Nat.le_of_ble_eq_true rfl) rfl rfl rfl ?_
  repeat' (conv => whnf); first | refine CallP.rd (szPacketS_w a.held (left) h.held.1 h.held.2 (by omega)) rfl rfl rfl rfl ?_ | refine Br.tt ?_ | refine Br.ff ?_ | refine Br.not ?_ | refine Br.dand (fun _ => ?_) (fun _ => ?_) | refine Br.dec (fun _ => ?_) (fun _ => ?_) | refine Br.beq (fun _ => ?_) (fun _ => ?_) | refine Br.bne (fun _ => ?_) (fun _ => ?_) | refine Br.seq (fun _ => ?_) (fun _ => ?_) | refine Elt.i (by omega) ?_ | refine EltN.i (by omega) ?_ | refine Nt.cast ?_ | refine Nt.mk _ rfl ?_ | refine EltN.mk _ rfl ?_ | refine Mx.mk _ rfl ?_ | refine Br.mk (fun _ => ?_) (fun _ => ?_) | refine EndP.mk ?_ trivial | refine EndP.mk ?_ ⟨.inr ⟨List.mem_cons_self .., ?_, rfl⟩, trivial⟩ | refine Ar.i64 (by omega) ?_ | refine Ar.u8 (by omega) ?_ | refine Quo.pos (by omega) ?_ | refine Rem.pos (by omega) ?_ | refine BsP.own ?_ | refine SetN.two ?_ | refine SetN.one ?_ | refine Ob.mk ⟨rfl, rfl⟩ ?_ | refine Ob.mk (flat_i _ _).1 ?_ | refine Ob.mk (flat_i _ _) ?_ | refine Ob.mk (flat_s _) ?_ | refine Ob.mk (by first | omega | (simp; first | done | fail) | (simp; omega)) ?_ | fail
  all_goals first
    | (exfalso; omega)
    | (rw [show szL (znQueue a) left = -1 by omega]; rfl)
    | (rw [show szL (znQueue a) left = szL ((a.held.length + sumR packetD znPacket a.held a.held.length)) (left) by omega]; rfl)
structure AdmitD where
  has : Bool
  live : Bool
  seq : SeqD
  par : Par
  frame : Int
  count : Int
  gone : Int
def admitVs (a : AdmitD) : V := .ag [.b a.has, .b a.live, .i .i64 a.seq.level, .i .i64 a.seq.bits, iS a.seq.cols, iS a.seq.rows, .i .i64 a.par.qp, .b a.par.large, .b a.par.exact, .b a.par.confined, .i .i64 a.frame, .i .i64 a.count, .i .i64 a.gone]
def admitVo (a : AdmitD) : V := .ag [.b a.has, .b a.live, .i .i64 a.seq.level, .i .i64 a.seq.bits, iO a.seq.cols, iO a.seq.rows, .i .i64 a.par.qp, .b a.par.large, .b a.par.exact, .b a.par.confined, .i .i64 a.frame, .i .i64 a.count, .i .i64 a.gone]
def admitD : AdmitD := ⟨false, false, seqD, parD, 0, 0, 0⟩
def znAdmit (a : AdmitD) : Nat := znSeq a.seq
structure HasAdmit (x0 : AdmitD) : Prop where
  seq : HasSeq x0.seq
  par : HasPar x0.par
  frame : IntKind.i64.has x0.frame
  count : IntKind.i64.has x0.count
  gone : IntKind.i64.has x0.gone
theorem imm_admitVo (a : AdmitD) : (admitVo a).toImm = admitVs a := by simp [admitVo, admitVs, V.toImm, V.toImm.go, imm_iO]
theorem own_admitVo (a : AdmitD) : (admitVo a).noSl = true := by simp [admitVo, iO, V.noSl, V.noSl.go, own_i]
theorem immR_admitVo (l : List AdmitD) : (l.map admitVo).map V.toImm = l.map admitVs := immR imm_admitVo l
theorem ownR_admitVo (l : List AdmitD) : V.noSl.go (l.map admitVo) = true := noSl_map own_admitVo l
set_option maxHeartbeats 40000000 in
theorem toAdmit_w (a : AdmitD) (h : znAdmit a ≤ 1000000000) : Vow Tryz.prog 154 [admitVs a] (admitVo a) [] := by
  have ht : znAdmit a = znSeq a.seq := rfl
  refine vow_of_ev (fn := Tryz.f154) [] [(0, 0), (0, 0), (4, 7), (7, 10), (10, 14), (14, 18), (18, 21), (21, 24), (24, 27), (27, 28)] tt_ok Tryz.func154 (by decide) rfl (Nat.le_of_ble_eq_true rfl) rfl rfl rfl ?_
  repeat' (conv => whnf); first | refine CallP.re (toSeq_w a.seq (by omega)) (by first | with_reducible rfl | (simp only [imm_i, imm_s, imm_b, iO, iS, imm_iO, seqVs, seqVo, imm_seqVo, own_seqVo, immR_seqVo, ownR_seqVo, parV, imm_parV, own_parV, immR_parV, ownR_parV, admitVs, admitVo, imm_admitVo, own_admitVo, immR_admitVo, ownR_admitVo]; first | done | fail)) rfl rfl rfl (by first | rfl | exact own_i _ _ | exact own_s _ | exact own_b _ | (simp [V.noSl, V.noSl.go, own_i, own_s, own_b, iO, iS, imm_iO, seqVs, seqVo, imm_seqVo, own_seqVo, immR_seqVo, ownR_seqVo, parV, imm_parV, own_parV, immR_parV, ownR_parV, admitVs, admitVo, imm_admitVo, own_admitVo, immR_admitVo, ownR_admitVo]; first | done | fail)) ?_ | refine CallP.rd (toPar_w a.par) rfl rfl rfl rfl ?_ | refine Br.tt ?_ | refine Br.ff ?_ | refine Br.not ?_ | refine Br.dand (fun _ => ?_) (fun _ => ?_) | refine Br.dec (fun _ => ?_) (fun _ => ?_) | refine Br.beq (fun _ => ?_) (fun _ => ?_) | refine Br.bne (fun _ => ?_) (fun _ => ?_) | refine Br.seq (fun _ => ?_) (fun _ => ?_) | refine Elt.i (by omega) ?_ | refine EltN.i (by omega) ?_ | refine Nt.cast ?_ | refine Nt.mk _ rfl ?_ | refine EltN.mk _ rfl ?_ | refine Mx.mk _ rfl ?_ | refine Br.mk (fun _ => ?_) (fun _ => ?_) | refine EndP.mk ?_ trivial | refine EndP.mk ?_ ⟨.inr ⟨List.mem_cons_self .., ?_, rfl⟩, trivial⟩ | refine Ar.i64 (by omega) ?_ | refine Ar.u8 (by omega) ?_ | refine Quo.pos (by omega) ?_ | refine Rem.pos (by omega) ?_ | refine BsP.own ?_ | refine SetN.two ?_ | refine SetN.one ?_ | refine Ob.mk ⟨rfl, rfl⟩ ?_ | refine Ob.mk (flat_i _ _).1 ?_ | refine Ob.mk (flat_i _ _) ?_ | refine Ob.mk (flat_s _) ?_ | refine Ob.mk (by first | omega | (simp; first | done | fail) | (simp; omega)) ?_ | fail
  all_goals rfl

set_option maxHeartbeats 40000000 in
theorem eqAdmit_w (a : AdmitD) (h : znAdmit a ≤ 1000000000) : Vow Tryz.prog 158 [admitVs a, admitVs a] (.b true) [] := by
  have ht : znAdmit a = znSeq a.seq := rfl
  refine vow_of_ev (fn := Tryz.f158) [] [(0, 0), (5, 9), (0, 0), (10, 14), (0, 0), (15, 20), (0, 0), (21, 26), (0, 0), (27, 31), (0, 0), (32, 36), (0, 0), (37, 41), (0, 0), (0, 0)] tt_ok Tryz.func158 (by decide) rfl (Nat.le_of_ble_eq_true rfl) rfl rfl rfl ?_
  repeat' (conv => whnf); first | refine Br.ne_self ?_ | refine Br.eq_self ?_ | refine Br.deq ?_ | refine CallP.rd (eqSeq_w a.seq (by omega)) rfl rfl rfl rfl ?_ | refine CallP.rd (eqPar_w a.par) rfl rfl rfl rfl ?_ | refine Br.tt ?_ | refine Br.ff ?_ | refine Br.not ?_ | refine Br.dand (fun _ => ?_) (fun _ => ?_) | refine Br.dec (fun _ => ?_) (fun _ => ?_) | refine Br.beq (fun _ => ?_) (fun _ => ?_) | refine Br.bne (fun _ => ?_) (fun _ => ?_) | refine Br.seq (fun _ => ?_) (fun _ => ?_) | refine Elt.i (by omega) ?_ | refine EltN.i (by omega) ?_ | refine Nt.cast ?_ | refine Nt.mk _ rfl ?_ | refine EltN.mk _ rfl ?_ | refine Mx.mk _ rfl ?_ | refine Br.mk (fun _ => ?_) (fun _ => ?_) | refine EndP.mk ?_ trivial | refine EndP.mk ?_ ⟨.inr ⟨List.mem_cons_self .., ?_, rfl⟩, trivial⟩ | refine Ar.i64 (by omega) ?_ | refine Ar.u8 (by omega) ?_ | refine Quo.pos (by omega) ?_ | refine Rem.pos (by omega) ?_ | refine BsP.own ?_ | refine SetN.two ?_ | refine SetN.one ?_ | refine Ob.mk ⟨rfl, rfl⟩ ?_ | refine Ob.mk (flat_i _ _).1 ?_ | refine Ob.mk (flat_i _ _) ?_ | refine Ob.mk (flat_s _) ?_ | refine Ob.mk (by first | omega | (simp; first | done | fail) | (simp; omega)) ?_ | fail
  all_goals rfl
set_option maxHeartbeats 40000000 in
theorem szAdmit_w (a : AdmitD) (h : HasAdmit a) (left : Int) (hl : 0 ≤ left ∧ left ≤ 1048576) : Vow Tryz.prog 152 [admitVs a, .i .i64 left] (.i .i64 (szL (znAdmit a) left)) [] := by
  have ht : znAdmit a = znSeq a.seq := rfl
  have hm : maxLen ≤ 9223372036854775807 := by decide
  have c := szL_le (znAdmit a) left
  have c0 := szL_le (znSeq a.seq) (left)
  refine vow_of_ev (fn := Tryz.f152) [] [(0, 0), (5, 9), (9, 10), (0, 0), (11, 12)] tt_ok Tryz.func152 (by decide) rfl (Nat.le_of_ble_eq_true rfl) rfl rfl rfl ?_
  repeat' (conv => whnf); first | refine CallP.rd (szSeq_w a.seq h.seq (left) (by omega)) rfl rfl rfl rfl ?_ | refine Br.tt ?_ | refine Br.ff ?_ | refine Br.not ?_ | refine Br.dand (fun _ => ?_) (fun _ => ?_) | refine Br.dec (fun _ => ?_) (fun _ => ?_) | refine Br.beq (fun _ => ?_) (fun _ => ?_) | refine Br.bne (fun _ => ?_) (fun _ => ?_) | refine Br.seq (fun _ => ?_) (fun _ => ?_) | refine Elt.i (by omega) ?_ | refine EltN.i (by omega) ?_ | refine Nt.cast ?_ | refine Nt.mk _ rfl ?_ | refine EltN.mk _ rfl ?_ | refine Mx.mk _ rfl ?_ | refine Br.mk (fun _ => ?_) (fun _ => ?_) | refine EndP.mk ?_ trivial | refine EndP.mk ?_ ⟨.inr ⟨List.mem_cons_self .., ?_, rfl⟩, trivial⟩ | refine Ar.i64 (by omega) ?_ | refine Ar.u8 (by omega) ?_ | refine Quo.pos (by omega) ?_ | refine Rem.pos (by omega) ?_ | refine BsP.own ?_ | refine SetN.two ?_ | refine SetN.one ?_ | refine Ob.mk ⟨rfl, rfl⟩ ?_ | refine Ob.mk (flat_i _ _).1 ?_ | refine Ob.mk (flat_i _ _) ?_ | refine Ob.mk (flat_s _) ?_ | refine Ob.mk (by first | omega | (simp; first | done | fail) | (simp; omega)) ?_ | fail
  all_goals first
    | (exfalso; omega)
    | (rw [show szL (znAdmit a) left = -1 by omega]; rfl)
    | (rw [show szL (znAdmit a) left = szL (znSeq a.seq) (left) by omega]; rfl)
structure InputD where
  queue : QueueD
  adms : AdmitD
  shown : Bool
  holds : Int
def inputVs (a : InputD) : V := .ag [.b a.queue.begun, .i .i64 a.queue.next, .i .i64 a.queue.age, .sl (a.queue.held.map packetVs), .i .i64 a.queue.late, .i .i64 a.queue.far, .i .i64 a.queue.twice, .i .i64 a.queue.over, .i .i64 a.queue.lost, .b a.adms.has, .b a.adms.live, .i .i64 a.adms.seq.level, .i .i64 a.adms.seq.bits, iS a.adms.seq.cols, iS a.adms.seq.rows, .i .i64 a.adms.par.qp, .b a.adms.par.large, .b a.adms.par.exact, .b a.adms.par.confined, .i .i64 a.adms.frame, .i .i64 a.adms.count, .i .i64 a.adms.gone, .b a.shown, .i .i64 a.holds]
def inputVo (a : InputD) : V := .ag [.b a.queue.begun, .i .i64 a.queue.next, .i .i64 a.queue.age, .ow 4 (a.queue.held.map packetVs), .i .i64 a.queue.late, .i .i64 a.queue.far, .i .i64 a.queue.twice, .i .i64 a.queue.over, .i .i64 a.queue.lost, .b a.adms.has, .b a.adms.live, .i .i64 a.adms.seq.level, .i .i64 a.adms.seq.bits, iO a.adms.seq.cols, iO a.adms.seq.rows, .i .i64 a.adms.par.qp, .b a.adms.par.large, .b a.adms.par.exact, .b a.adms.par.confined, .i .i64 a.adms.frame, .i .i64 a.adms.count, .i .i64 a.adms.gone, .b a.shown, .i .i64 a.holds]
def inputD : InputD := ⟨queueD, admitD, false, 0⟩
def znInput (a : InputD) : Nat := znQueue a.queue + znAdmit a.adms
structure HasInput (x0 : InputD) : Prop where
  queue : HasQueue x0.queue
  adms : HasAdmit x0.adms
  holds : IntKind.i64.has x0.holds
def inputK : List NK := [.bool, .int .i64, .int .i64, .row packetK true, .int .i64, .int .i64, .int .i64, .int .i64, .int .i64, .bool, .bool, .int .i64, .int .i64, .row [.int .i64] false, .row [.int .i64] false, .int .i64, .bool, .bool, .bool, .int .i64, .int .i64, .int .i64, .bool, .int .i64]
theorem inputW (vs : List V) (h : NLeafs inputK vs) : ∃ a : InputD, V.ag vs = inputVs a ∧ HasInput a := by
  obtain ⟨v0, r0, rfl, h0, h⟩ := h.cons_inv
  obtain ⟨v1, r1, rfl, h1, h⟩ := h.cons_inv
  obtain ⟨v2, r2, rfl, h2, h⟩ := h.cons_inv
  obtain ⟨v3, r3, rfl, h3, h⟩ := h.cons_inv
  obtain ⟨v4, r4, rfl, h4, h⟩ := h.cons_inv
  obtain ⟨v5, r5, rfl, h5, h⟩ := h.cons_inv
  obtain ⟨v6, r6, rfl, h6, h⟩ := h.cons_inv
  obtain ⟨v7, r7, rfl, h7, h⟩ := h.cons_inv
  obtain ⟨v8, r8, rfl, h8, h⟩ := h.cons_inv
  obtain ⟨v9, r9, rfl, h9, h⟩ := h.cons_inv
  obtain ⟨v10, r10, rfl, h10, h⟩ := h.cons_inv
  obtain ⟨v11, r11, rfl, h11, h⟩ := h.cons_inv
  obtain ⟨v12, r12, rfl, h12, h⟩ := h.cons_inv
  obtain ⟨v13, r13, rfl, h13, h⟩ := h.cons_inv
  obtain ⟨v14, r14, rfl, h14, h⟩ := h.cons_inv
  obtain ⟨v15, r15, rfl, h15, h⟩ := h.cons_inv
  obtain ⟨v16, r16, rfl, h16, h⟩ := h.cons_inv
  obtain ⟨v17, r17, rfl, h17, h⟩ := h.cons_inv
  obtain ⟨v18, r18, rfl, h18, h⟩ := h.cons_inv
  obtain ⟨v19, r19, rfl, h19, h⟩ := h.cons_inv
  obtain ⟨v20, r20, rfl, h20, h⟩ := h.cons_inv
  obtain ⟨v21, r21, rfl, h21, h⟩ := h.cons_inv
  obtain ⟨v22, r22, rfl, h22, h⟩ := h.cons_inv
  obtain ⟨v23, r23, rfl, h23, h⟩ := h.cons_inv
  obtain rfl := h.nil_inv
  obtain ⟨n0, rfl⟩ := h0.bool_inv
  obtain ⟨n1, rfl, e1⟩ := h1.int_inv
  obtain ⟨n2, rfl, e2⟩ := h2.int_inv
  obtain ⟨n3, rfl, e3⟩ := h3.rowW packetW
  obtain ⟨n4, rfl, e4⟩ := h4.int_inv
  obtain ⟨n5, rfl, e5⟩ := h5.int_inv
  obtain ⟨n6, rfl, e6⟩ := h6.int_inv
  obtain ⟨n7, rfl, e7⟩ := h7.int_inv
  obtain ⟨n8, rfl, e8⟩ := h8.int_inv
  obtain ⟨n9, rfl⟩ := h9.bool_inv
  obtain ⟨n10, rfl⟩ := h10.bool_inv
  obtain ⟨n11, rfl, e11⟩ := h11.int_inv
  obtain ⟨n12, rfl, e12⟩ := h12.int_inv
  obtain ⟨n13, rfl, e13⟩ := h13.ints
  obtain ⟨n14, rfl, e14⟩ := h14.ints
  obtain ⟨n15, rfl, e15⟩ := h15.int_inv
  obtain ⟨n16, rfl⟩ := h16.bool_inv
  obtain ⟨n17, rfl⟩ := h17.bool_inv
  obtain ⟨n18, rfl⟩ := h18.bool_inv
  obtain ⟨n19, rfl, e19⟩ := h19.int_inv
  obtain ⟨n20, rfl, e20⟩ := h20.int_inv
  obtain ⟨n21, rfl, e21⟩ := h21.int_inv
  obtain ⟨n22, rfl⟩ := h22.bool_inv
  obtain ⟨n23, rfl, e23⟩ := h23.int_inv
  exact ⟨⟨⟨n0, n1, n2, n3, n4, n5, n6, n7, n8⟩, ⟨n9, n10, ⟨n11, n12, n13, n14⟩, ⟨n15, n16, n17, n18⟩, n19, n20, n21⟩, n22, n23⟩, rfl, ⟨⟨e1, e2, e3, e4, e5, e6, e7, e8⟩, ⟨⟨e11, e12, e13, e14⟩, ⟨e15⟩, e19, e20, e21⟩, e23⟩⟩

theorem imm_inputVo (a : InputD) : (inputVo a).toImm = inputVs a := by simp [inputVo, inputVs, V.toImm, V.toImm.go, imm_iO, V.toImm_go, immR imm_packetVs]
theorem own_inputVo (a : InputD) : (inputVo a).noSl = true := by simp [inputVo, iO, V.noSl, V.noSl.go, own_i, noSl_map own_packetVs]
theorem immR_inputVo (l : List InputD) : (l.map inputVo).map V.toImm = l.map inputVs := immR imm_inputVo l
theorem ownR_inputVo (l : List InputD) : V.noSl.go (l.map inputVo) = true := noSl_map own_inputVo l
set_option maxHeartbeats 40000000 in
theorem toInput_w (a : InputD) (h : znInput a ≤ 1000000000) : Vow Tryz.prog 136 [inputVs a] (inputVo a) [] := by
  have ht : znInput a = znQueue a.queue + znAdmit a.adms := rfl
  refine vow_of_ev (fn := Tryz.f136) [] [(0, 0), (0, 0), (4, 8), (8, 12), (12, 15), (15, 18), (18, 19)] tt_ok Tryz.func136 (by decide) rfl (Nat.le_of_ble_eq_true rfl) rfl rfl rfl ?_
  repeat' (conv => whnf); first | refine CallP.re (toQueue_w a.queue (by omega)) (by first | with_reducible rfl | (simp only [imm_i, imm_s, imm_b, iO, iS, imm_iO, packetVs, imm_packetVs, own_packetVs, immR_packetVs, ownR_packetVs, queueVs, queueVo, imm_queueVo, own_queueVo, immR_queueVo, ownR_queueVo, seqVs, seqVo, imm_seqVo, own_seqVo, immR_seqVo, ownR_seqVo, parV, imm_parV, own_parV, immR_parV, ownR_parV, admitVs, admitVo, imm_admitVo, own_admitVo, immR_admitVo, ownR_admitVo, inputVs, inputVo, imm_inputVo, own_inputVo, immR_inputVo, ownR_inputVo]; first | done | fail)) rfl rfl rfl (by first | rfl | exact own_i _ _ | exact own_s _ | exact own_b _ | (simp [V.noSl, V.noSl.go, own_i, own_s, own_b, iO, iS, imm_iO, packetVs, imm_packetVs, own_packetVs, immR_packetVs, ownR_packetVs, queueVs, queueVo, imm_queueVo, own_queueVo, immR_queueVo, ownR_queueVo, seqVs, seqVo, imm_seqVo, own_seqVo, immR_seqVo, ownR_seqVo, parV, imm_parV, own_parV, immR_parV, ownR_parV, admitVs, admitVo, imm_admitVo, own_admitVo, immR_admitVo, ownR_admitVo, inputVs, inputVo, imm_inputVo, own_inputVo, immR_inputVo, ownR_inputVo]; first | done | fail)) ?_ | refine CallP.re (toAdmit_w a.adms (by omega)) (by first | with_reducible rfl | (simp only [imm_i, imm_s, imm_b, iO, iS, imm_iO, packetVs, imm_packetVs, own_packetVs, immR_packetVs, ownR_packetVs, queueVs, queueVo, imm_queueVo, own_queueVo, immR_queueVo, ownR_queueVo, seqVs, seqVo, imm_seqVo, own_seqVo, immR_seqVo, ownR_seqVo, parV, imm_parV, own_parV, immR_parV, ownR_parV, admitVs, admitVo, imm_admitVo, own_admitVo, immR_admitVo, ownR_admitVo, inputVs, inputVo, imm_inputVo, own_inputVo, immR_inputVo, ownR_inputVo]; first | done | fail)) rfl rfl rfl (by first | rfl | exact own_i _ _ | exact own_s _ | exact own_b _ | (simp [V.noSl, V.noSl.go, own_i, own_s, own_b, iO, iS, imm_iO, packetVs, imm_packetVs, own_packetVs, immR_packetVs, ownR_packetVs, queueVs, queueVo, imm_queueVo, own_queueVo, immR_queueVo, ownR_queueVo, seqVs, seqVo, imm_seqVo, own_seqVo, immR_seqVo, ownR_seqVo, parV, imm_parV, own_parV, immR_parV, ownR_parV, admitVs, admitVo, imm_admitVo, own_admitVo, immR_admitVo, ownR_admitVo, inputVs, inputVo, imm_inputVo, own_inputVo, immR_inputVo, ownR_inputVo]; first | done | fail)) ?_ | refine Br.tt ?_ | refine Br.ff ?_ | refine Br.not ?_ | refine Br.dand (fun _ => ?_) (fun _ => ?_) | refine Br.dec (fun _ => ?_) (fun _ => ?_) | refine Br.beq (fun _ => ?_) (fun _ => ?_) | refine Br.bne (fun _ => ?_) (fun _ => ?_) | refine Br.seq (fun _ => ?_) (fun _ => ?_) | refine Elt.i (by omega) ?_ | refine EltN.i (by omega) ?_ | refine Nt.cast ?_ | refine Nt.mk _ rfl ?_ | refine EltN.mk _ rfl ?_ | refine Mx.mk _ rfl ?_ | refine Br.mk (fun _ => ?_) (fun _ => ?_) | refine EndP.mk ?_ trivial | refine EndP.mk ?_ ⟨.inr ⟨List.mem_cons_self .., ?_, rfl⟩, trivial⟩ | refine Ar.i64 (by omega) ?_ | refine Ar.u8 (by omega) ?_ | refine Quo.pos (by omega) ?_ | refine Rem.pos (by omega) ?_ | refine BsP.own ?_ | refine SetN.two ?_ | refine SetN.one ?_ | refine Ob.mk ⟨rfl, rfl⟩ ?_ | refine Ob.mk (flat_i _ _).1 ?_ | refine Ob.mk (flat_i _ _) ?_ | refine Ob.mk (flat_s _) ?_ | refine Ob.mk (by first | omega | (simp; first | done | fail) | (simp; omega)) ?_ | fail
  all_goals rfl

set_option maxHeartbeats 40000000 in
theorem eqInput_w (a : InputD) (h : znInput a ≤ 1000000000) : Vow Tryz.prog 143 [inputVs a, inputVs a] (.b true) [] := by
  have ht : znInput a = znQueue a.queue + znAdmit a.adms := rfl
  refine vow_of_ev (fn := Tryz.f143) [] [(0, 0), (5, 10), (0, 0), (11, 16), (0, 0), (17, 21), (0, 0), (22, 26), (0, 0), (0, 0)] tt_ok Tryz.func143 (by decide) rfl (Nat.le_of_ble_eq_true rfl) rfl rfl rfl ?_
  repeat' (conv => whnf); first | refine Br.ne_self ?_ | refine Br.eq_self ?_ | refine Br.deq ?_ | refine CallP.rd (eqQueue_w a.queue (by omega)) rfl rfl rfl rfl ?_ | refine CallP.rd (eqAdmit_w a.adms (by omega)) rfl rfl rfl rfl ?_ | refine Br.tt ?_ | refine Br.ff ?_ | refine Br.not ?_ | refine Br.dand (fun _ => ?_) (fun _ => ?_) | refine Br.dec (fun _ => ?_) (fun _ => ?_) | refine Br.beq (fun _ => ?_) (fun _ => ?_) | refine Br.bne (fun _ => ?_) (fun _ => ?_) | refine Br.seq (fun _ => ?_) (fun _ => ?_) | refine Elt.i (by omega) ?_ | refine EltN.i (by omega) ?_ | refine Nt.cast ?_ | refine Nt.mk _ rfl ?_ | refine EltN.mk _ rfl ?_ | refine Mx.mk _ rfl ?_ | refine Br.mk (fun _ => ?_) (fun _ => ?_) | refine EndP.mk ?_ trivial | refine EndP.mk ?_ ⟨.inr ⟨List.mem_cons_self .., ?_, rfl⟩, trivial⟩ | refine Ar.i64 (by omega) ?_ | refine Ar.u8 (by omega) ?_ | refine Quo.pos (by omega) ?_ | refine Rem.pos (by omega) ?_ | refine BsP.own ?_ | refine SetN.two ?_ | refine SetN.one ?_ | refine Ob.mk ⟨rfl, rfl⟩ ?_ | refine Ob.mk (flat_i _ _).1 ?_ | refine Ob.mk (flat_i _ _) ?_ | refine Ob.mk (flat_s _) ?_ | refine Ob.mk (by first | omega | (simp; first | done | fail) | (simp; omega)) ?_ | fail
  all_goals rfl
set_option maxHeartbeats 40000000 in
theorem szInput_w (a : InputD) (h : HasInput a) (left : Int) (hl : 0 ≤ left ∧ left ≤ 1048576) : Vow Tryz.prog 129 [inputVs a, .i .i64 left] (.i .i64 (szL (znInput a) left)) [] := by
  have ht : znInput a = znQueue a.queue + znAdmit a.adms := rfl
  have hm : maxLen ≤ 9223372036854775807 := by decide
  have c := szL_le (znInput a) left
  have c0 := szL_le (znQueue a.queue) (left)
  have c1 := szL_le (znAdmit a.adms) (szL (znQueue a.queue) (left))
  refine vow_of_ev (fn := Tryz.f129) [] [(0, 0), (5, 9), (9, 10), (0, 0), (11, 15), (15, 16), (0, 0), (17, 18)] tt_ok Tryz.func129 (by decide) rfl (Nat.le_of_ble_eq_true rfl) rfl rfl rfl ?_
  repeat' (conv => whnf); first | refine CallP.rd (szQueue_w a.queue h.queue (left) (by omega)) rfl rfl rfl rfl ?_ | refine CallP.rd (szAdmit_w a.adms h.adms (szL (znQueue a.queue) (left)) (by omega)) rfl rfl rfl rfl ?_ | refine Br.tt ?_ | refine Br.ff ?_ | refine Br.not ?_ | refine Br.dand (fun _ => ?_) (fun _ => ?_) | refine Br.dec (fun _ => ?_) (fun _ => ?_) | refine Br.beq (fun _ => ?_) (fun _ => ?_) | refine Br.bne (fun _ => ?_) (fun _ => ?_) | refine Br.seq (fun _ => ?_) (fun _ => ?_) | refine Elt.i (by omega) ?_ | refine EltN.i (by omega) ?_ | refine Nt.cast ?_ | refine Nt.mk _ rfl ?_ | refine EltN.mk _ rfl ?_ | refine Mx.mk _ rfl ?_ | refine Br.mk (fun _ => ?_) (fun _ => ?_) | refine EndP.mk ?_ trivial | refine EndP.mk ?_ ⟨.inr ⟨List.mem_cons_self .., ?_, rfl⟩, trivial⟩ | refine Ar.i64 (by omega) ?_ | refine Ar.u8 (by omega) ?_ | refine Quo.pos (by omega) ?_ | refine Rem.pos (by omega) ?_ | refine BsP.own ?_ | refine SetN.two ?_ | refine SetN.one ?_ | refine Ob.mk ⟨rfl, rfl⟩ ?_ | refine Ob.mk (flat_i _ _).1 ?_ | refine Ob.mk (flat_i _ _) ?_ | refine Ob.mk (flat_s _) ?_ | refine Ob.mk (by first | omega | (simp; first | done | fail) | (simp; omega)) ?_ | fail
  all_goals first
    | (exfalso; omega)
    | (rw [show szL (znInput a) left = -1 by omega]; rfl)
    | (rw [show szL (znInput a) left = szL (znAdmit a.adms) (szL (znQueue a.queue) (left)) by omega]; rfl)

set_option maxHeartbeats 40000000 in
theorem toInputS_w (l : List InputD) (h : l.length + sumR inputD znInput l l.length ≤ 1000000000) : Vow Tryz.prog 96 [.sl (l.map inputVs)] (.ow 24 (l.map inputVo)) [] := by
  have hm : (l.map inputVs).length = l.length := by simp
  refine vow_of_ev (fn := Tryz.f96) [] [(0, 0), (5, 8), (0, 0), (8, 11), (12, 14), (14, 22), (22, 23)] tt_ok Tryz.func96 (by decide) rfl (Nat.le_of_ble_eq_true rfl) rfl rfl rfl ?_
  repeat' (conv => whnf); first | refine Br.tt ?_ | refine Br.ff ?_ | refine Br.not ?_ | refine Br.dand (fun _ => ?_) (fun _ => ?_) | refine Br.dec (fun _ => ?_) (fun _ => ?_) | refine Br.beq (fun _ => ?_) (fun _ => ?_) | refine Br.bne (fun _ => ?_) (fun _ => ?_) | refine Br.seq (fun _ => ?_) (fun _ => ?_) | refine Elt.i (by omega) ?_ | refine EltN.i (by omega) ?_ | refine Nt.cast ?_ | refine Nt.mk _ rfl ?_ | refine EltN.mk _ rfl ?_ | refine Mx.mk _ rfl ?_ | refine Br.mk (fun _ => ?_) (fun _ => ?_) | refine EndP.mk ?_ trivial | refine EndP.mk ?_ ⟨.inr ⟨List.mem_cons_self .., ?_, rfl⟩, trivial⟩ | refine Ar.i64 (by omega) ?_ | refine Ar.u8 (by omega) ?_ | refine Quo.pos (by omega) ?_ | refine Rem.pos (by omega) ?_ | refine BsP.own ?_ | refine SetN.two ?_ | refine SetN.one ?_ | refine Ob.mk ⟨rfl, rfl⟩ ?_ | refine Ob.mk (flat_i _ _).1 ?_ | refine Ob.mk (flat_i _ _) ?_ | refine Ob.mk (flat_s _) ?_ | refine Ob.mk (by first | omega | (simp; first | done | fail) | (simp; omega)) ?_ | fail
  · conv => whnf
    refine LoopP.mk [0,2,3,4] (fun i : Nat => [(0, .sl (l.map inputVs)), (2, .nl), (3, .ow 24 (cpR inputVo (.ag [.b false, .i .i64 0, .i .i64 0, .nl, .i .i64 0, .i .i64 0, .i .i64 0, .i .i64 0, .i .i64 0, .b false, .b false, .i .i64 0, .i .i64 0, .nl, .nl, .i .i64 0, .b false, .b false, .b false, .i .i64 0, .i .i64 0, .i .i64 0, .b false, .i .i64 0]) l i)), (4, .i .i64 i)]) (fun i => l.length - i) (fun i => i ≤ l.length) ?_ ?_
    · conv => whnf
      refine ⟨0, by omega, ?_⟩
      rw [hm, Int.toNat_natCast, show List.replicate l.length (V.ag [.b false, .i .i64 0, .i .i64 0, .nl, .i .i64 0, .i .i64 0, .i .i64 0, .i .i64 0, .i .i64 0, .b false, .b false, .i .i64 0, .i .i64 0, .nl, .nl, .i .i64 0, .b false, .b false, .b false, .i .i64 0, .i .i64 0, .i .i64 0, .b false, .i .i64 0]) = _ from cpR_0 inputVo (.ag [.b false, .i .i64 0, .i .i64 0, .nl, .i .i64 0, .i .i64 0, .i .i64 0, .i .i64 0, .i .i64 0, .b false, .b false, .i .i64 0, .i .i64 0, .nl, .nl, .i .i64 0, .b false, .b false, .b false, .i .i64 0, .i .i64 0, .i .i64 0, .b false, .i .i64 0]) l]
      rfl
    · intro i hi
      have hc := cpR_len inputVo (.ag [.b false, .i .i64 0, .i .i64 0, .nl, .i .i64 0, .i .i64 0, .i .i64 0, .i .i64 0, .i .i64 0, .b false, .b false, .i .i64 0, .i .i64 0, .nl, .nl, .i .i64 0, .b false, .b false, .b false, .i .i64 0, .i .i64 0, .i .i64 0, .b false, .i .i64 0]) l hi
      by_cases hlt : i < l.length
      · have hcl := cpR_at inputVo (.ag [.b false, .i .i64 0, .i .i64 0, .nl, .i .i64 0, .i .i64 0, .i .i64 0, .i .i64 0, .i .i64 0, .b false, .b false, .i .i64 0, .i .i64 0, .nl, .nl, .i .i64 0, .b false, .b false, .b false, .i .i64 0, .i .i64 0, .i .i64 0, .b false, .i .i64 0]) l hlt
        have he := sumR_elem inputD znInput l hlt
        repeat' (conv => whnf); first | refine Elt.gt inputD hlt ?_ | refine EltN.gt inputD hlt ?_ | refine EltN.mk _ hcl ?_ | refine CallP.re (toInput_w (gt inputD l i) (by omega)) (by first | with_reducible rfl | (simp only [imm_i, imm_s, imm_b, iO, iS, imm_iO, packetVs, imm_packetVs, own_packetVs, immR_packetVs, ownR_packetVs, queueVs, queueVo, imm_queueVo, own_queueVo, immR_queueVo, ownR_queueVo, seqVs, seqVo, imm_seqVo, own_seqVo, immR_seqVo, ownR_seqVo, parV, imm_parV, own_parV, immR_parV, ownR_parV, admitVs, admitVo, imm_admitVo, own_admitVo, immR_admitVo, ownR_admitVo, inputVs, inputVo, imm_inputVo, own_inputVo, immR_inputVo, ownR_inputVo]; first | done | fail)) rfl rfl rfl (by first | rfl | exact own_i _ _ | exact own_s _ | exact own_b _ | (simp [V.noSl, V.noSl.go, own_i, own_s, own_b, iO, iS, imm_iO, packetVs, imm_packetVs, own_packetVs, immR_packetVs, ownR_packetVs, queueVs, queueVo, imm_queueVo, own_queueVo, immR_queueVo, ownR_queueVo, seqVs, seqVo, imm_seqVo, own_seqVo, immR_seqVo, ownR_seqVo, parV, imm_parV, own_parV, immR_parV, ownR_parV, admitVs, admitVo, imm_admitVo, own_admitVo, immR_admitVo, ownR_admitVo, inputVs, inputVo, imm_inputVo, own_inputVo, immR_inputVo, ownR_inputVo]; first | done | fail)) ?_ | refine DCall.re (toInput_w (gt inputD l i) (by omega)) (by first | with_reducible rfl | (simp only [imm_i, imm_s, imm_b, iO, iS, imm_iO, packetVs, imm_packetVs, own_packetVs, immR_packetVs, ownR_packetVs, queueVs, queueVo, imm_queueVo, own_queueVo, immR_queueVo, ownR_queueVo, seqVs, seqVo, imm_seqVo, own_seqVo, immR_seqVo, ownR_seqVo, parV, imm_parV, own_parV, immR_parV, ownR_parV, admitVs, admitVo, imm_admitVo, own_admitVo, immR_admitVo, ownR_admitVo, inputVs, inputVo, imm_inputVo, own_inputVo, immR_inputVo, ownR_inputVo]; first | done | fail)) rfl (by first | rfl | exact own_i _ _ | exact own_s _ | exact own_b _ | (simp [V.noSl, V.noSl.go, own_i, own_s, own_b, iO, iS, imm_iO, packetVs, imm_packetVs, own_packetVs, immR_packetVs, ownR_packetVs, queueVs, queueVo, imm_queueVo, own_queueVo, immR_queueVo, ownR_queueVo, seqVs, seqVo, imm_seqVo, own_seqVo, immR_seqVo, ownR_seqVo, parV, imm_parV, own_parV, immR_parV, ownR_parV, admitVs, admitVo, imm_admitVo, own_admitVo, immR_admitVo, ownR_admitVo, inputVs, inputVo, imm_inputVo, own_inputVo, immR_inputVo, ownR_inputVo]; first | done | fail)) ?_ | refine Br.tt ?_ | refine Br.ff ?_ | refine Br.not ?_ | refine Br.dand (fun _ => ?_) (fun _ => ?_) | refine Br.dec (fun _ => ?_) (fun _ => ?_) | refine Br.beq (fun _ => ?_) (fun _ => ?_) | refine Br.bne (fun _ => ?_) (fun _ => ?_) | refine Br.seq (fun _ => ?_) (fun _ => ?_) | refine Elt.i (by omega) ?_ | refine EltN.i (by omega) ?_ | refine Nt.cast ?_ | refine Nt.mk _ rfl ?_ | refine EltN.mk _ rfl ?_ | refine Mx.mk _ rfl ?_ | refine Br.mk (fun _ => ?_) (fun _ => ?_) | refine EndP.mk ?_ trivial | refine EndP.mk ?_ ⟨.inr ⟨List.mem_cons_self .., ?_, rfl⟩, trivial⟩ | refine Ar.i64 (by omega) ?_ | refine Ar.u8 (by omega) ?_ | refine Quo.pos (by omega) ?_ | refine Rem.pos (by omega) ?_ | refine BsP.own ?_ | refine SetN.two ?_ | refine SetN.one ?_ | refine Ob.mk ⟨rfl, rfl⟩ ?_ | refine Ob.mk (flat_i _ _).1 ?_ | refine Ob.mk (flat_i _ _) ?_ | refine Ob.mk (flat_s _) ?_ | refine Ob.mk (by first | omega | (simp; first | done | fail) | (simp; omega)) ?_ | fail
        all_goals first
          | (exfalso; omega)
          | (conv => whnf
             refine ⟨i + 1, by omega, by omega, ?_⟩
             rw [← cpR_set inputD inputVo (.ag [.b false, .i .i64 0, .i .i64 0, .nl, .i .i64 0, .i .i64 0, .i .i64 0, .i .i64 0, .i .i64 0, .b false, .b false, .i .i64 0, .i .i64 0, .nl, .nl, .i .i64 0, .b false, .b false, .b false, .i .i64 0, .i .i64 0, .i .i64 0, .b false, .i .i64 0]) l hlt]
             rfl)
      · obtain rfl : i = l.length := by omega
        repeat' (conv => whnf); first | refine Br.tt ?_ | refine Br.ff ?_ | refine Br.not ?_ | refine Br.dand (fun _ => ?_) (fun _ => ?_) | refine Br.dec (fun _ => ?_) (fun _ => ?_) | refine Br.beq (fun _ => ?_) (fun _ => ?_) | refine Br.bne (fun _ => ?_) (fun _ => ?_) | refine Br.seq (fun _ => ?_) (fun _ => ?_) | refine Elt.i (by omega) ?_ | refine EltN.i (by omega) ?_ | refine Nt.cast ?_ | refine Nt.mk _ rfl ?_ | refine EltN.mk _ rfl ?_ | refine Mx.mk _ rfl ?_ | refine Br.mk (fun _ => ?_) (fun _ => ?_) | refine EndP.mk ?_ trivial | refine EndP.mk ?_ ⟨.inr ⟨List.mem_cons_self .., ?_, rfl⟩, trivial⟩ | refine Ar.i64 (by omega) ?_ | refine Ar.u8 (by omega) ?_ | refine Quo.pos (by omega) ?_ | refine Rem.pos (by omega) ?_ | refine BsP.own ?_ | refine SetN.two ?_ | refine SetN.one ?_ | refine Ob.mk ⟨rfl, rfl⟩ ?_ | refine Ob.mk (flat_i _ _).1 ?_ | refine Ob.mk (flat_i _ _) ?_ | refine Ob.mk (flat_s _) ?_ | refine Ob.mk (by first | omega | (simp; first | done | fail) | (simp; omega)) ?_ | fail
        all_goals first
          | (exfalso; omega)
          | (rw [cpR_all]; rfl)

set_option maxHeartbeats 40000000 in
theorem eqInputS_w (l : List InputD) (h : l.length + sumR inputD znInput l l.length ≤ 1000000000) : Vow Tryz.prog 108 [.sl (l.map inputVs), .sl (l.map inputVs)] (.b true) [] := by
  have hm : (l.map inputVs).length = l.length := by simp
  refine vow_of_ev (fn := Tryz.f108) [] [(0, 0), (6, 10), (0, 0), (0, 0), (11, 14), (15, 17), (17, 26), (0, 0), (0, 0)] tt_ok Tryz.func108 (by decide) rfl (Nat.le_of_ble_eq_true rfl) rfl rfl rfl ?_
  repeat' (conv => whnf); first | refine Br.ne_self ?_ | refine Br.eq_self ?_ | refine Br.deq ?_ | refine Br.tt ?_ | refine Br.ff ?_ | refine Br.not ?_ | refine Br.dand (fun _ => ?_) (fun _ => ?_) | refine Br.dec (fun _ => ?_) (fun _ => ?_) | refine Br.beq (fun _ => ?_) (fun _ => ?_) | refine Br.bne (fun _ => ?_) (fun _ => ?_) | refine Br.seq (fun _ => ?_) (fun _ => ?_) | refine Elt.i (by omega) ?_ | refine EltN.i (by omega) ?_ | refine Nt.cast ?_ | refine Nt.mk _ rfl ?_ | refine EltN.mk _ rfl ?_ | refine Mx.mk _ rfl ?_ | refine Br.mk (fun _ => ?_) (fun _ => ?_) | refine EndP.mk ?_ trivial | refine EndP.mk ?_ ⟨.inr ⟨List.mem_cons_self .., ?_, rfl⟩, trivial⟩ | refine Ar.i64 (by omega) ?_ | refine Ar.u8 (by omega) ?_ | refine Quo.pos (by omega) ?_ | refine Rem.pos (by omega) ?_ | refine BsP.own ?_ | refine SetN.two ?_ | refine SetN.one ?_ | refine Ob.mk ⟨rfl, rfl⟩ ?_ | refine Ob.mk (flat_i _ _).1 ?_ | refine Ob.mk (flat_i _ _) ?_ | refine Ob.mk (flat_s _) ?_ | refine Ob.mk (by first | omega | (simp; first | done | fail) | (simp; omega)) ?_ | fail
  · conv => whnf
    refine LoopP.mk [0,1,4,5] (fun i : Nat => [(0, .sl (l.map inputVs)), (1, .sl (l.map inputVs)), (4, .b false), (5, .i .i64 i)]) (fun i => l.length - i) (fun i => i ≤ l.length) ?_ ?_
    · conv => whnf
      exact ⟨0, by omega, rfl⟩
    · intro i hi
      by_cases hlt : i < l.length
      · have hlt2 := hlt
        have he := sumR_elem inputD znInput l hlt
        have f1 := eqInput_w (gt inputD l i) (by omega)
        repeat' (conv => whnf); first | refine Elt.gt inputD hlt ?_ | refine EltN.gt inputD hlt ?_ | refine CallP.rd (f1) rfl rfl rfl rfl ?_ | refine DCall.rd (f1) rfl rfl ?_ | refine Br.tt ?_ | refine Br.ff ?_ | refine Br.not ?_ | refine Br.dand (fun _ => ?_) (fun _ => ?_) | refine Br.dec (fun _ => ?_) (fun _ => ?_) | refine Br.beq (fun _ => ?_) (fun _ => ?_) | refine Br.bne (fun _ => ?_) (fun _ => ?_) | refine Br.seq (fun _ => ?_) (fun _ => ?_) | refine Elt.i (by omega) ?_ | refine EltN.i (by omega) ?_ | refine Nt.cast ?_ | refine Nt.mk _ rfl ?_ | refine EltN.mk _ rfl ?_ | refine Mx.mk _ rfl ?_ | refine Br.mk (fun _ => ?_) (fun _ => ?_) | refine EndP.mk ?_ trivial | refine EndP.mk ?_ ⟨.inr ⟨List.mem_cons_self .., ?_, rfl⟩, trivial⟩ | refine Ar.i64 (by omega) ?_ | refine Ar.u8 (by omega) ?_ | refine Quo.pos (by omega) ?_ | refine Rem.pos (by omega) ?_ | refine BsP.own ?_ | refine SetN.two ?_ | refine SetN.one ?_ | refine Ob.mk ⟨rfl, rfl⟩ ?_ | refine Ob.mk (flat_i _ _).1 ?_ | refine Ob.mk (flat_i _ _) ?_ | refine Ob.mk (flat_s _) ?_ | refine Ob.mk (by first | omega | (simp; first | done | fail) | (simp; omega)) ?_ | fail
        all_goals first
          | (exfalso; omega)
          | rfl
          | (conv => whnf
             exact ⟨i + 1, by omega, by omega, rfl⟩)
      · obtain rfl : i = l.length := by omega
        repeat' (conv => whnf); first | refine Br.tt ?_ | refine Br.ff ?_ | refine Br.not ?_ | refine Br.dand (fun _ => ?_) (fun _ => ?_) | refine Br.dec (fun _ => ?_) (fun _ => ?_) | refine Br.beq (fun _ => ?_) (fun _ => ?_) | refine Br.bne (fun _ => ?_) (fun _ => ?_) | refine Br.seq (fun _ => ?_) (fun _ => ?_) | refine Elt.i (by omega) ?_ | refine EltN.i (by omega) ?_ | refine Nt.cast ?_ | refine Nt.mk _ rfl ?_ | refine EltN.mk _ rfl ?_ | refine Mx.mk _ rfl ?_ | refine Br.mk (fun _ => ?_) (fun _ => ?_) | refine EndP.mk ?_ trivial | refine EndP.mk ?_ ⟨.inr ⟨List.mem_cons_self .., ?_, rfl⟩, trivial⟩ | refine Ar.i64 (by omega) ?_ | refine Ar.u8 (by omega) ?_ | refine Quo.pos (by omega) ?_ | refine Rem.pos (by omega) ?_ | refine BsP.own ?_ | refine SetN.two ?_ | refine SetN.one ?_ | refine Ob.mk ⟨rfl, rfl⟩ ?_ | refine Ob.mk (flat_i _ _).1 ?_ | refine Ob.mk (flat_i _ _) ?_ | refine Ob.mk (flat_s _) ?_ | refine Ob.mk (by first | omega | (simp; first | done | fail) | (simp; omega)) ?_ | fail
        all_goals first
          | (exfalso; omega)
          | rfl
set_option maxHeartbeats 40000000 in
theorem szInputS_w (l : List InputD) (left : Int) (hz : l.length ≤ maxLen) (hf : ∀ x ∈ l, HasInput x) (hl : 0 ≤ left ∧ left ≤ 1048576) : Vow Tryz.prog 85 [.sl (l.map inputVs), .i .i64 left] (.i .i64 (szL (l.length + sumR inputD znInput l l.length) left)) [] := by
  have hm : (l.map inputVs).length = l.length := by simp
  have hx : maxLen ≤ 9223372036854775807 := by decide
  have c := szL_le (l.length + sumR inputD znInput l l.length) left
  refine vow_of_ev (fn := Tryz.f85) [] [(0, 0), (6, 10), (10, 11), (0, 0), (0, 0), (12, 15), (16, 18), (18, 24), (24, 25), (0, 0), (26, 27)] tt_ok Tryz.func85 (by decide) rfl (Nat.le_of_ble_eq_true rfl) rfl rfl rfl ?_
  repeat' (conv => whnf); first | refine Br.tt ?_ | refine Br.ff ?_ | refine Br.not ?_ | refine Br.dand (fun _ => ?_) (fun _ => ?_) | refine Br.dec (fun _ => ?_) (fun _ => ?_) | refine Br.beq (fun _ => ?_) (fun _ => ?_) | refine Br.bne (fun _ => ?_) (fun _ => ?_) | refine Br.seq (fun _ => ?_) (fun _ => ?_) | refine Elt.i (by omega) ?_ | refine EltN.i (by omega) ?_ | refine Nt.cast ?_ | refine Nt.mk _ rfl ?_ | refine EltN.mk _ rfl ?_ | refine Mx.mk _ rfl ?_ | refine Br.mk (fun _ => ?_) (fun _ => ?_) | refine EndP.mk ?_ trivial | refine EndP.mk ?_ ⟨.inr ⟨List.mem_cons_self .., ?_, rfl⟩, trivial⟩ | refine Ar.i64 (by omega) ?_ | refine Ar.u8 (by omega) ?_ | refine Quo.pos (by omega) ?_ | refine Rem.pos (by omega) ?_ | refine BsP.own ?_ | refine SetN.two ?_ | refine SetN.one ?_ | refine Ob.mk ⟨rfl, rfl⟩ ?_ | refine Ob.mk (flat_i _ _).1 ?_ | refine Ob.mk (flat_i _ _) ?_ | refine Ob.mk (flat_s _) ?_ | refine Ob.mk (by first | omega | (simp; first | done | fail) | (simp; omega)) ?_ | fail
  · rw [show szL (l.length + sumR inputD znInput l l.length) left = -1 by omega]; rfl
  · conv => whnf
    refine LoopP.mk [0,1,4,5] (fun i : Nat => [(0, .sl (l.map inputVs)), (1, .i .i64 (left - (l.length : Nat) - (sumR inputD znInput l i : Nat))), (4, .i .i64 0), (5, .i .i64 i)]) (fun i => l.length - i) (fun i => i ≤ l.length ∧ 0 ≤ left - (l.length : Nat) - (sumR inputD znInput l i : Nat)) ?_ ?_
    · conv => whnf
      refine ⟨0, ⟨by omega, by simp only [sumR]; omega⟩, ?_⟩
      rw [hm, show left - ((l.length : Nat) : Int) - ((sumR inputD znInput l 0 : Nat) : Int) = left - ((l.length : Nat) : Int) by simp [sumR]]
      rfl
    · rintro i ⟨hi, hs⟩
      by_cases hlt : i < l.length
      · have he := sumR_elem inputD znInput l hlt
        have hst : sumR inputD znInput l (i + 1) = sumR inputD znInput l i + znInput (gt inputD l i) := rfl
        have c3 := szL_le (znInput (gt inputD l i)) (left - (l.length : Nat) - (sumR inputD znInput l i : Nat))
        have f1 := szInput_w (gt inputD l i) (hf _ (gt_mem hlt)) (left - (l.length : Nat) - (sumR inputD znInput l i : Nat)) (by omega)
        repeat' (conv => whnf); first | refine Elt.gt inputD hlt ?_ | refine EltN.gt inputD hlt ?_ | refine CallP.rd (f1) rfl rfl rfl rfl ?_ | refine DCall.rd (f1) rfl rfl ?_ | refine Br.tt ?_ | refine Br.ff ?_ | refine Br.not ?_ | refine Br.dand (fun _ => ?_) (fun _ => ?_) | refine Br.dec (fun _ => ?_) (fun _ => ?_) | refine Br.beq (fun _ => ?_) (fun _ => ?_) | refine Br.bne (fun _ => ?_) (fun _ => ?_) | refine Br.seq (fun _ => ?_) (fun _ => ?_) | refine Elt.i (by omega) ?_ | refine EltN.i (by omega) ?_ | refine Nt.cast ?_ | refine Nt.mk _ rfl ?_ | refine EltN.mk _ rfl ?_ | refine Mx.mk _ rfl ?_ | refine Br.mk (fun _ => ?_) (fun _ => ?_) | refine EndP.mk ?_ trivial | refine EndP.mk ?_ ⟨.inr ⟨List.mem_cons_self .., ?_, rfl⟩, trivial⟩ | refine Ar.i64 (by omega) ?_ | refine Ar.u8 (by omega) ?_ | refine Quo.pos (by omega) ?_ | refine Rem.pos (by omega) ?_ | refine BsP.own ?_ | refine SetN.two ?_ | refine SetN.one ?_ | refine Ob.mk ⟨rfl, rfl⟩ ?_ | refine Ob.mk (flat_i _ _).1 ?_ | refine Ob.mk (flat_i _ _) ?_ | refine Ob.mk (flat_s _) ?_ | refine Ob.mk (by first | omega | (simp; first | done | fail) | (simp; omega)) ?_ | fail
        all_goals first
          | (exfalso; omega)
          | (rw [show szL (l.length + sumR inputD znInput l l.length) left = -1 by omega]; rfl)
          | (conv => whnf
             refine ⟨i + 1, ⟨by omega, by omega⟩, by omega, ?_⟩
             rw [show szL (znInput (gt inputD l i)) (left - (l.length : Nat) - (sumR inputD znInput l i : Nat)) = left - (l.length : Nat) - (sumR inputD znInput l (i + 1) : Nat) by omega]
             rfl)
      · obtain rfl : i = l.length := by omega
        repeat' (conv => whnf); first | refine Br.tt ?_ | refine Br.ff ?_ | refine Br.not ?_ | refine Br.dand (fun _ => ?_) (fun _ => ?_) | refine Br.dec (fun _ => ?_) (fun _ => ?_) | refine Br.beq (fun _ => ?_) (fun _ => ?_) | refine Br.bne (fun _ => ?_) (fun _ => ?_) | refine Br.seq (fun _ => ?_) (fun _ => ?_) | refine Elt.i (by omega) ?_ | refine EltN.i (by omega) ?_ | refine Nt.cast ?_ | refine Nt.mk _ rfl ?_ | refine EltN.mk _ rfl ?_ | refine Mx.mk _ rfl ?_ | refine Br.mk (fun _ => ?_) (fun _ => ?_) | refine EndP.mk ?_ trivial | refine EndP.mk ?_ ⟨.inr ⟨List.mem_cons_self .., ?_, rfl⟩, trivial⟩ | refine Ar.i64 (by omega) ?_ | refine Ar.u8 (by omega) ?_ | refine Quo.pos (by omega) ?_ | refine Rem.pos (by omega) ?_ | refine BsP.own ?_ | refine SetN.two ?_ | refine SetN.one ?_ | refine Ob.mk ⟨rfl, rfl⟩ ?_ | refine Ob.mk (flat_i _ _).1 ?_ | refine Ob.mk (flat_i _ _) ?_ | refine Ob.mk (flat_s _) ?_ | refine Ob.mk (by first | omega | (simp; first | done | fail) | (simp; omega)) ?_ | fail
        all_goals first
          | (exfalso; omega)
          | (rw [show szL (l.length + sumR inputD znInput l l.length) left = left - (l.length : Nat) - (sumR inputD znInput l l.length : Nat) by omega]; rfl)
structure MixerD where
  par : Par
  bits : Int
  wait : Int
  hold : Int
  limit : Int
  layout : Layout
  next : Layout
  left : Int
  frame : Int
  begun : Bool
  inputs : List InputD
def mixerVs (a : MixerD) : V := .ag [.i .i64 a.par.qp, .b a.par.large, .b a.par.exact, .b a.par.confined, .i .i64 a.bits, .i .i64 a.wait, .i .i64 a.hold, .i .i64 a.limit, iS a.layout.cols, iS a.layout.rows, iS a.layout.who, iS a.next.cols, iS a.next.rows, iS a.next.who, .i .i64 a.left, .i .i64 a.frame, .b a.begun, .sl (a.inputs.map inputVs)]
def mixerVo (a : MixerD) : V := .ag [.i .i64 a.par.qp, .b a.par.large, .b a.par.exact, .b a.par.confined, .i .i64 a.bits, .i .i64 a.wait, .i .i64 a.hold, .i .i64 a.limit, iO a.layout.cols, iO a.layout.rows, iO a.layout.who, iO a.next.cols, iO a.next.rows, iO a.next.who, .i .i64 a.left, .i .i64 a.frame, .b a.begun, .ow 24 (a.inputs.map inputVo)]
def znMixer (a : MixerD) : Nat := znLayout a.layout + znLayout a.next + (a.inputs.length + sumR inputD znInput a.inputs a.inputs.length)
structure HasMixer (x0 : MixerD) : Prop where
  par : HasPar x0.par
  bits : IntKind.i64.has x0.bits
  wait : IntKind.i64.has x0.wait
  hold : IntKind.i64.has x0.hold
  limit : IntKind.i64.has x0.limit
  layout : HasLayout x0.layout
  next : HasLayout x0.next
  left : IntKind.i64.has x0.left
  frame : IntKind.i64.has x0.frame
  inputs : x0.inputs.length ≤ maxLen ∧ ∀ x ∈ x0.inputs, HasInput x
theorem imm_mixerVo (a : MixerD) : (mixerVo a).toImm = mixerVs a := by simp [mixerVo, mixerVs, V.toImm, V.toImm.go, imm_iO, V.toImm_go, immR imm_inputVo]
theorem own_mixerVo (a : MixerD) : (mixerVo a).noSl = true := by simp [mixerVo, iO, V.noSl, V.noSl.go, own_i, noSl_map own_inputVo]
theorem immR_mixerVo (l : List MixerD) : (l.map mixerVo).map V.toImm = l.map mixerVs := immR imm_mixerVo l
theorem ownR_mixerVo (l : List MixerD) : V.noSl.go (l.map mixerVo) = true := noSl_map own_mixerVo l
set_option maxHeartbeats 40000000 in
theorem toMixer_w (a : MixerD) (h : znMixer a ≤ 1000000000) : Vow Tryz.prog 39 [mixerVs a] (mixerVo a) [] := by
  have ht : znMixer a = znLayout a.layout + znLayout a.next + (a.inputs.length + sumR inputD znInput a.inputs a.inputs.length) := rfl
  refine vow_of_ev (fn := Tryz.f39) [] [(0, 0), (0, 0), (4, 8), (8, 11), (11, 14), (14, 17), (17, 20), (20, 24), (24, 28), (28, 31), (31, 34), (34, 37), (37, 41), (41, 42)] tt_ok Tryz.func39 (by decide) rfl (Nat.le_of_ble_eq_true rfl) rfl rfl rfl ?_
  repeat' (conv => whnf); first | refine CallP.rd (toPar_w a.par) rfl rfl rfl rfl ?_ | refine CallP.re (toLayout_w a.layout (by omega)) (by first | with_reducible rfl | (simp only [imm_i, imm_s, imm_b, iO, iS, imm_iO, parV, imm_parV, own_parV, immR_parV, ownR_parV, layV, layO, imm_layO, own_layO, immR_layO, ownR_layO, packetVs, imm_packetVs, own_packetVs, immR_packetVs, ownR_packetVs, queueVs, queueVo, imm_queueVo, own_queueVo, immR_queueVo, ownR_queueVo, seqVs, seqVo, imm_seqVo, own_seqVo, immR_seqVo, ownR_seqVo, admitVs, admitVo, imm_admitVo, own_admitVo, immR_admitVo, ownR_admitVo, inputVs, inputVo, imm_inputVo, own_inputVo, immR_inputVo, ownR_inputVo, mixerVs, mixerVo, imm_mixerVo, own_mixerVo, immR_mixerVo, ownR_mixerVo]; first | done | fail)) rfl rfl rfl (by first | rfl | exact own_i _ _ | exact own_s _ | exact own_b _ | (simp [V.noSl, V.noSl.go, own_i, own_s, own_b, iO, iS, imm_iO, parV, imm_parV, own_parV, immR_parV, ownR_parV, layV, layO, imm_layO, own_layO, immR_layO, ownR_layO, packetVs, imm_packetVs, own_packetVs, immR_packetVs, ownR_packetVs, queueVs, queueVo, imm_queueVo, own_queueVo, immR_queueVo, ownR_queueVo, seqVs, seqVo, imm_seqVo, own_seqVo, immR_seqVo, ownR_seqVo, admitVs, admitVo, imm_admitVo, own_admitVo, immR_admitVo, ownR_admitVo, inputVs, inputVo, imm_inputVo, own_inputVo, immR_inputVo, ownR_inputVo, mixerVs, mixerVo, imm_mixerVo, own_mixerVo, immR_mixerVo, ownR_mixerVo]; first | done | fail)) ?_ | refine CallP.re (toLayout_w a.next (by omega)) (by first | with_reducible rfl | (simp only [imm_i, imm_s, imm_b, iO, iS, imm_iO, parV, imm_parV, own_parV, immR_parV, ownR_parV, layV, layO, imm_layO, own_layO, immR_layO, ownR_layO, packetVs, imm_packetVs, own_packetVs, immR_packetVs, ownR_packetVs, queueVs, queueVo, imm_queueVo, own_queueVo, immR_queueVo, ownR_queueVo, seqVs, seqVo, imm_seqVo, own_seqVo, immR_seqVo, ownR_seqVo, admitVs, admitVo, imm_admitVo, own_admitVo, immR_admitVo, ownR_admitVo, inputVs, inputVo, imm_inputVo, own_inputVo, immR_inputVo, ownR_inputVo, mixerVs, mixerVo, imm_mixerVo, own_mixerVo, immR_mixerVo, ownR_mixerVo]; first | done | fail)) rfl rfl rfl (by first | rfl | exact own_i _ _ | exact own_s _ | exact own_b _ | (simp [V.noSl, V.noSl.go, own_i, own_s, own_b, iO, iS, imm_iO, parV, imm_parV, own_parV, immR_parV, ownR_parV, layV, layO, imm_layO, own_layO, immR_layO, ownR_layO, packetVs, imm_packetVs, own_packetVs, immR_packetVs, ownR_packetVs, queueVs, queueVo, imm_queueVo, own_queueVo, immR_queueVo, ownR_queueVo, seqVs, seqVo, imm_seqVo, own_seqVo, immR_seqVo, ownR_seqVo, admitVs, admitVo, imm_admitVo, own_admitVo, immR_admitVo, ownR_admitVo, inputVs, inputVo, imm_inputVo, own_inputVo, immR_inputVo, ownR_inputVo, mixerVs, mixerVo, imm_mixerVo, own_mixerVo, immR_mixerVo, ownR_mixerVo]; first | done | fail)) ?_ | refine CallP.re (toInputS_w a.inputs (by omega)) (by first | with_reducible rfl | (simp only [imm_i, imm_s, imm_b, iO, iS, imm_iO, parV, imm_parV, own_parV, immR_parV, ownR_parV, layV, layO, imm_layO, own_layO, immR_layO, ownR_layO, packetVs, imm_packetVs, own_packetVs, immR_packetVs, ownR_packetVs, queueVs, queueVo, imm_queueVo, own_queueVo, immR_queueVo, ownR_queueVo, seqVs, seqVo, imm_seqVo, own_seqVo, immR_seqVo, ownR_seqVo, admitVs, admitVo, imm_admitVo, own_admitVo, immR_admitVo, ownR_admitVo, inputVs, inputVo, imm_inputVo, own_inputVo, immR_inputVo, ownR_inputVo, mixerVs, mixerVo, imm_mixerVo, own_mixerVo, immR_mixerVo, ownR_mixerVo]; first | done | fail)) rfl rfl rfl (by first | rfl | exact own_i _ _ | exact own_s _ | exact own_b _ | (simp [V.noSl, V.noSl.go, own_i, own_s, own_b, iO, iS, imm_iO, parV, imm_parV, own_parV, immR_parV, ownR_parV, layV, layO, imm_layO, own_layO, immR_layO, ownR_layO, packetVs, imm_packetVs, own_packetVs, immR_packetVs, ownR_packetVs, queueVs, queueVo, imm_queueVo, own_queueVo, immR_queueVo, ownR_queueVo, seqVs, seqVo, imm_seqVo, own_seqVo, immR_seqVo, ownR_seqVo, admitVs, admitVo, imm_admitVo, own_admitVo, immR_admitVo, ownR_admitVo, inputVs, inputVo, imm_inputVo, own_inputVo, immR_inputVo, ownR_inputVo, mixerVs, mixerVo, imm_mixerVo, own_mixerVo, immR_mixerVo, ownR_mixerVo]; first | done | fail)) ?_ | refine Br.tt ?_ | refine Br.ff ?_ | refine Br.not ?_ | refine Br.dand (fun _ => ?_) (fun _ => ?_) | refine Br.dec (fun _ => ?_) (fun _ => ?_) | refine Br.beq (fun _ => ?_) (fun _ => ?_) | refine Br.bne (fun _ => ?_) (fun _ => ?_) | refine Br.seq (fun _ => ?_) (fun _ => ?_) | refine Elt.i (by omega) ?_ | refine EltN.i (by omega) ?_ | refine Nt.cast ?_ | refine Nt.mk _ rfl ?_ | refine EltN.mk _ rfl ?_ | refine Mx.mk _ rfl ?_ | refine Br.mk (fun _ => ?_) (fun _ => ?_) | refine EndP.mk ?_ trivial | refine EndP.mk ?_ ⟨.inr ⟨List.mem_cons_self .., ?_, rfl⟩, trivial⟩ | refine Ar.i64 (by omega) ?_ | refine Ar.u8 (by omega) ?_ | refine Quo.pos (by omega) ?_ | refine Rem.pos (by omega) ?_ | refine BsP.own ?_ | refine SetN.two ?_ | refine SetN.one ?_ | refine Ob.mk ⟨rfl, rfl⟩ ?_ | refine Ob.mk (flat_i _ _).1 ?_ | refine Ob.mk (flat_i _ _) ?_ | refine Ob.mk (flat_s _) ?_ | refine Ob.mk (by first | omega | (simp; first | done | fail) | (simp; omega)) ?_ | fail
  all_goals rfl

set_option maxHeartbeats 40000000 in
theorem eqMixer_w (a : MixerD) (h : znMixer a ≤ 1000000000) : Vow Tryz.prog 50 [mixerVs a, mixerVs a] (.b true) [] := by
  have ht : znMixer a = znLayout a.layout + znLayout a.next + (a.inputs.length + sumR inputD znInput a.inputs a.inputs.length) := rfl
  refine vow_of_ev (fn := Tryz.f50) [] [(0, 0), (5, 10), (0, 0), (11, 15), (0, 0), (16, 20), (0, 0), (21, 25), (0, 0), (26, 30), (0, 0), (31, 36), (0, 0), (37, 42), (0, 0), (43, 47), (0, 0), (48, 52), (0, 0), (53, 57), (0, 0), (58, 63), (0, 0), (0, 0)] tt_ok Tryz.func50 (by decide) rfl (Nat.le_of_ble_eq_true rfl) rfl rfl rfl ?_
  repeat' (conv => whnf); first | refine Br.ne_self ?_ | refine Br.eq_self ?_ | refine Br.deq ?_ | refine CallP.rd (eqPar_w a.par) rfl rfl rfl rfl ?_ | refine CallP.rd (eqLayout_w a.layout (by omega)) rfl rfl rfl rfl ?_ | refine CallP.rd (eqLayout_w a.next (by omega)) rfl rfl rfl rfl ?_ | refine CallP.rd (eqInputS_w a.inputs (by omega)) rfl rfl rfl rfl ?_ | refine Br.tt ?_ | refine Br.ff ?_ | refine Br.not ?_ | refine Br.dand (fun _ => ?_) (fun _ => ?_) | refine Br.dec (fun _ => ?_) (fun _ => ?_) | refine Br.beq (fun _ => ?_) (fun _ => ?_) | refine Br.bne (fun _ => ?_) (fun _ => ?_) | refine Br.seq (fun _ => ?_) (fun _ => ?_) | refine Elt.i (by omega) ?_ | refine EltN.i (by omega) ?_ | refine Nt.cast ?_ | refine Nt.mk _ rfl ?_ | refine EltN.mk _ rfl ?_ | refine Mx.mk _ rfl ?_ | refine Br.mk (fun _ => ?_) (fun _ => ?_) | refine EndP.mk ?_ trivial | refine EndP.mk ?_ ⟨.inr ⟨List.mem_cons_self .., ?_, rfl⟩, trivial⟩ | refine Ar.i64 (by omega) ?_ | refine Ar.u8 (by omega) ?_ | refine Quo.pos (by omega) ?_ | refine Rem.pos (by omega) ?_ | refine BsP.own ?_ | refine SetN.two ?_ | refine SetN.one ?_ | refine Ob.mk ⟨rfl, rfl⟩ ?_ | refine Ob.mk (flat_i _ _).1 ?_ | refine Ob.mk (flat_i _ _) ?_ | refine Ob.mk (flat_s _) ?_ | refine Ob.mk (by first | omega | (simp; first | done | fail) | (simp; omega)) ?_ | fail
  all_goals rfl
set_option maxHeartbeats 40000000 in
theorem szMixer_w (a : MixerD) (h : HasMixer a) (left : Int) (hl : 0 ≤ left ∧ left ≤ 1048576) : Vow Tryz.prog 29 [mixerVs a, .i .i64 left] (.i .i64 (szL (znMixer a) left)) [] := by
  have ht : znMixer a = znLayout a.layout + znLayout a.next + (a.inputs.length + sumR inputD znInput a.inputs a.inputs.length) := rfl
  have hm : maxLen ≤ 9223372036854775807 := by decide
  have c := szL_le (znMixer a) left
  have c0 := szL_le (znLayout a.layout) (left)
  have c1 := szL_le (znLayout a.next) (szL (znLayout a.layout) (left))
  have c2 := szL_le ((a.inputs.length + sumR inputD znInput a.inputs a.inputs.length)) (szL (znLayout a.next) (szL (znLayout a.layout) (left)))
  refine vow_of_ev (fn := Tryz.f29) [] [(0, 0), (5, 9), (9, 10), (0, 0), (11, 15), (15, 16), (0, 0), (17, 21), (21, 22), (0, 0), (23, 24)] tt_ok Tryz.func29 (by decide) rfl (Nat.le_of_ble_eq_true rfl) rfl rfl rfl ?_
  repeat' (conv => whnf); first | refine CallP.rd (szLayout_w a.layout h.layout (left) (by omega)) rfl rfl rfl rfl ?_ | refine CallP.rd (szLayout_w a.next h.next (szL (znLayout a.layout) (left)) (by omega)) rfl rfl rfl rfl ?_ | refine CallP.rd (szInputS_w a.inputs (szL (znLayout a.next) (szL (znLayout a.layout) (left))) h.inputs.1 h.inputs.2 (by omega)) rfl rfl rfl rfl ?_ | refine Br.tt ?_ | refine Br.ff ?_ | refine Br.not ?_ | refine Br.dand (fun _ => ?_) (fun _ => ?_) | refine Br.dec (fun _ => ?_) (fun _ => ?_) | refine Br.beq (fun _ => ?_) (fun _ => ?_) | refine Br.bne (fun _ => ?_) (fun _ => ?_) | refine Br.seq (fun _ => ?_) (fun _ => ?_) | refine Elt.i (by omega) ?_ | refine EltN.i (by omega) ?_ | refine Nt.cast ?_ | refine Nt.mk _ rfl ?_ | refine EltN.mk _ rfl ?_ | refine Mx.mk _ rfl ?_ | refine Br.mk (fun _ => ?_) (fun _ => ?_) | refine EndP.mk ?_ trivial | refine EndP.mk ?_ ⟨.inr ⟨List.mem_cons_self .., ?_, rfl⟩, trivial⟩ | refine Ar.i64 (by omega) ?_ | refine Ar.u8 (by omega) ?_ | refine Quo.pos (by omega) ?_ | refine Rem.pos (by omega) ?_ | refine BsP.own ?_ | refine SetN.two ?_ | refine SetN.one ?_ | refine Ob.mk ⟨rfl, rfl⟩ ?_ | refine Ob.mk (flat_i _ _).1 ?_ | refine Ob.mk (flat_i _ _) ?_ | refine Ob.mk (flat_s _) ?_ | refine Ob.mk (by first | omega | (simp; first | done | fail) | (simp; omega)) ?_ | fail
  all_goals first
    | (exfalso; omega)
    | (rw [show szL (znMixer a) left = -1 by omega]; rfl)
    | (rw [show szL (znMixer a) left = szL ((a.inputs.length + sumR inputD znInput a.inputs a.inputs.length)) (szL (znLayout a.next) (szL (znLayout a.layout) (left))) by omega]; rfl)
end Go.Proofs.YtafipjhalboefaaGreat
