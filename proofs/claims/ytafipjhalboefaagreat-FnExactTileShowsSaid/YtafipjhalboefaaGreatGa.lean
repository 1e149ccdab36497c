/- Worlds in the laws: what they hold, and the small things. No condition. -/
import Derived.Test.YtafipjhalboefaaGreatBj
namespace Go.Proofs.YtafipjhalboefaaGreat
open Go Go.Vx
set_option linter.unusedVariables false
set_option linter.unusedSimpArgs false
set_option maxHeartbeats 600000
set_option maxRecDepth 100000
def picD : Pic := ⟨0, 0, []⟩
def znPic (a : Pic) : Nat := a.dots.length
structure HasPic (x0 : Pic) : Prop where
  wide : IntKind.i64.has x0.wide
  high : IntKind.i64.has x0.high
  dots : x0.dots.length ≤ maxLen
def picK : List NK := [.int .i64, .int .i64, .str]
theorem picW (vs : List V) (h : NLeafs picK vs) : ∃ a : Pic, V.ag vs = picV a ∧ HasPic a := by
  obtain ⟨v0, r0, rfl, h0, h⟩ := h.cons_inv
  obtain ⟨v1, r1, rfl, h1, h⟩ := h.cons_inv
  obtain ⟨v2, r2, rfl, h2, h⟩ := h.cons_inv
  obtain rfl := h.nil_inv
  obtain ⟨n0, rfl, e0⟩ := h0.int_inv
  obtain ⟨n1, rfl, e1⟩ := h1.int_inv
  obtain ⟨n2, rfl, e2⟩ := h2.str_inv
  exact ⟨⟨n0, n1, n2⟩, rfl, ⟨e0, e1, e2⟩⟩
theorem imm_picV (a : Pic) : (picV a).toImm = picV a := rfl
theorem own_picV (a : Pic) : (picV a).noSl = true := rfl
theorem immR_picV (l : List Pic) : (l.map picV).map V.toImm = l.map picV := immR imm_picV l
theorem ownR_picV (l : List Pic) : V.noSl.go (l.map picV) = true := noSl_map own_picV l
def tellD : Tell := ⟨0, 0, 0⟩
structure HasTell (x0 : Tell) : Prop where
  what : IntKind.i64.has x0.what
  who : IntKind.i64.has x0.who
  count : IntKind.i64.has x0.count
def tellK : List NK := [.int .i64, .int .i64, .int .i64]
theorem tellW (vs : List V) (h : NLeafs tellK vs) : ∃ a : Tell, V.ag vs = tellV a ∧ HasTell a := by
  obtain ⟨v0, r0, rfl, h0, h⟩ := h.cons_inv
  obtain ⟨v1, r1, rfl, h1, h⟩ := h.cons_inv
  obtain ⟨v2, r2, rfl, h2, h⟩ := h.cons_inv
  obtain rfl := h.nil_inv
  obtain ⟨n0, rfl, e0⟩ := h0.int_inv
  obtain ⟨n1, rfl, e1⟩ := h1.int_inv
  obtain ⟨n2, rfl, e2⟩ := h2.int_inv
  exact ⟨⟨n0, n1, n2⟩, rfl, ⟨e0, e1, e2⟩⟩
theorem imm_tellV (a : Tell) : (tellV a).toImm = tellV a := rfl
theorem own_tellV (a : Tell) : (tellV a).noSl = true := rfl
theorem immR_tellV (l : List Tell) : (l.map tellV).map V.toImm = l.map tellV := immR imm_tellV l
theorem ownR_tellV (l : List Tell) : V.noSl.go (l.map tellV) = true := noSl_map own_tellV l
structure RateD where
  qp : Int
  target : Int
  debt : Int
def rateVs (a : RateD) : V := .ag [.i .i64 a.qp, .i .i64 a.target, .i .i64 a.debt]
def rateD : RateD := ⟨0, 0, 0⟩
structure HasRate (x0 : RateD) : Prop where
  qp : IntKind.i64.has x0.qp
  target : IntKind.i64.has x0.target
  debt : IntKind.i64.has x0.debt
theorem imm_rateVs (a : RateD) : (rateVs a).toImm = rateVs a := rfl
theorem own_rateVs (a : RateD) : (rateVs a).noSl = true := rfl
theorem immR_rateVs (l : List RateD) : (l.map rateVs).map V.toImm = l.map rateVs := immR imm_rateVs l
theorem ownR_rateVs (l : List RateD) : V.noSl.go (l.map rateVs) = true := noSl_map own_rateVs l
structure SourceD where
  seq : SeqD
  par : Par
  rate : RateD
  frame : Int
  since : Int
  every : Int
  reach : Int
  has : Bool
  ref : Pic
def sourceVs (a : SourceD) : V := .ag [.i .i64 a.seq.level, .i .i64 a.seq.bits, iS a.seq.cols, iS a.seq.rows, .i .i64 a.par.qp, .b a.par.large, .b a.par.exact, .b a.par.confined, .i .i64 a.rate.qp, .i .i64 a.rate.target, .i .i64 a.rate.debt, .i .i64 a.frame, .i .i64 a.since, .i .i64 a.every, .i .i64 a.reach, .b a.has, .i .i64 a.ref.wide, .i .i64 a.ref.high, .s a.ref.dots]
def sourceVo (a : SourceD) : V := .ag [.i .i64 a.seq.level, .i .i64 a.seq.bits, iO a.seq.cols, iO a.seq.rows, .i .i64 a.par.qp, .b a.par.large, .b a.par.exact, .b a.par.confined, .i .i64 a.rate.qp, .i .i64 a.rate.target, .i .i64 a.rate.debt, .i .i64 a.frame, .i .i64 a.since, .i .i64 a.every, .i .i64 a.reach, .b a.has, .i .i64 a.ref.wide, .i .i64 a.ref.high, .s a.ref.dots]
def sourceD : SourceD := ⟨seqD, parD, rateD, 0, 0, 0, 0, false, picD⟩
def znSource (a : SourceD) : Nat := znSeq a.seq + znPic a.ref
structure HasSource (x0 : SourceD) : Prop where
  seq : HasSeq x0.seq
  par : HasPar x0.par
  rate : HasRate x0.rate
  frame : IntKind.i64.has x0.frame
  since : IntKind.i64.has x0.since
  every : IntKind.i64.has x0.every
  reach : IntKind.i64.has x0.reach
  ref : HasPic x0.ref
theorem imm_sourceVo (a : SourceD) : (sourceVo a).toImm = sourceVs a := by simp [sourceVo, sourceVs, V.toImm, V.toImm.go, imm_iO]
theorem own_sourceVo (a : SourceD) : (sourceVo a).noSl = true := by simp [sourceVo, iO, V.noSl, V.noSl.go, own_i]
theorem immR_sourceVo (l : List SourceD) : (l.map sourceVo).map V.toImm = l.map sourceVs := immR imm_sourceVo l
theorem ownR_sourceVo (l : List SourceD) : V.noSl.go (l.map sourceVo) = true := noSl_map own_sourceVo l
structure CamD where
  source : SourceD
  clock : Int
  seq : Int
def camVs (a : CamD) : V := .ag [.i .i64 a.source.seq.level, .i .i64 a.source.seq.bits, iS a.source.seq.cols, iS a.source.seq.rows, .i .i64 a.source.par.qp, .b a.source.par.large, .b a.source.par.exact, .b a.source.par.confined, .i .i64 a.source.rate.qp, .i .i64 a.source.rate.target, .i .i64 a.source.rate.debt, .i .i64 a.source.frame, .i .i64 a.source.since, .i .i64 a.source.every, .i .i64 a.source.reach, .b a.source.has, .i .i64 a.source.ref.wide, .i .i64 a.source.ref.high, .s a.source.ref.dots, .i .i64 a.clock, .i .i64 a.seq]
def camVo (a : CamD) : V := .ag [.i .i64 a.source.seq.level, .i .i64 a.source.seq.bits, iO a.source.seq.cols, iO a.source.seq.rows, .i .i64 a.source.par.qp, .b a.source.par.large, .b a.source.par.exact, .b a.source.par.confined, .i .i64 a.source.rate.qp, .i .i64 a.source.rate.target, .i .i64 a.source.rate.debt, .i .i64 a.source.frame, .i .i64 a.source.since, .i .i64 a.source.every, .i .i64 a.source.reach, .b a.source.has, .i .i64 a.source.ref.wide, .i .i64 a.source.ref.high, .s a.source.ref.dots, .i .i64 a.clock, .i .i64 a.seq]
def camD : CamD := ⟨sourceD, 0, 0⟩
def znCam (a : CamD) : Nat := znSource a.source
structure HasCam (x0 : CamD) : Prop where
  source : HasSource x0.source
  clock : IntKind.i64.has x0.clock
  seq : IntKind.i64.has x0.seq
def camK : List NK := [.int .i64, .int .i64, .row [.int .i64] false, .row [.int .i64] false, .int .i64, .bool, .bool, .bool, .int .i64, .int .i64, .int .i64, .int .i64, .int .i64, .int .i64, .int .i64, .bool, .int .i64, .int .i64, .str, .int .i64, .int .i64]
theorem camW (vs : List V) (h : NLeafs camK vs) : ∃ a : CamD, V.ag vs = camVs a ∧ HasCam a := by
  obtain ⟨v0, r0, rfl, h0, h⟩ := h.cons_inv
  obtain ⟨v1, r1, rfl, h1, h⟩ := h.cons_inv
  obtain ⟨v2, r2, rfl, h2, h⟩ := h.cons_inv
  obtain ⟨v3, r3, rfl, h3, h⟩ := h.cons_inv
  obtain ⟨v4, r4, rfl, h4, h⟩ := h.cons_inv
  obtain ⟨v5, r5, rfl, h5, h⟩ := h.cons_inv
  obtain ⟨v6, r6, rfl, h6, h⟩ := h.cons_inv
  obtain ⟨v7, r7, rfl, h7, h⟩ := h.cons_inv
  obtain ⟨v8, r8, rfl, h8, h⟩ := h.cons_inv
  obtain ⟨v9, r9, rfl, h9, h⟩ := h.cons_inv
  obtain ⟨v10, r10, rfl, h10, h⟩ := h.cons_inv
  obtain ⟨v11, r11, rfl, h11, h⟩ := h.cons_inv
  obtain ⟨v12, r12, rfl, h12, h⟩ := h.cons_inv
  obtain ⟨v13, r13, rfl, h13, h⟩ := h.cons_inv
  obtain ⟨v14, r14, rfl, h14, h⟩ := h.cons_inv
  obtain ⟨v15, r15, rfl, h15, h⟩ := h.cons_inv
  obtain ⟨v16, r16, rfl, h16, h⟩ := h.cons_inv
  obtain ⟨v17, r17, rfl, h17, h⟩ := h.cons_inv
  obtain ⟨v18, r18, rfl, h18, h⟩ := h.cons_inv
  obtain ⟨v19, r19, rfl, h19, h⟩ := h.cons_inv
  obtain ⟨v20, r20, rfl, h20, h⟩ := h.cons_inv
  obtain rfl := h.nil_inv
  obtain ⟨n0, rfl, e0⟩ := h0.int_inv
  obtain ⟨n1, rfl, e1⟩ := h1.int_inv
  obtain ⟨n2, rfl, e2⟩ := h2.ints
  obtain ⟨n3, rfl, e3⟩ := h3.ints
  obtain ⟨n4, rfl, e4⟩ := h4.int_inv
  obtain ⟨n5, rfl⟩ := h5.bool_inv
  obtain ⟨n6, rfl⟩ := h6.bool_inv
  obtain ⟨n7, rfl⟩ := h7.bool_inv
  obtain ⟨n8, rfl, e8⟩ := h8.int_inv
  obtain ⟨n9, rfl, e9⟩ := h9.int_inv
  obtain ⟨n10, rfl, e10⟩ := h10.int_inv
  obtain ⟨n11, rfl, e11⟩ := h11.int_inv
  obtain ⟨n12, rfl, e12⟩ := h12.int_inv
  obtain ⟨n13, rfl, e13⟩ := h13.int_inv
  obtain ⟨n14, rfl, e14⟩ := h14.int_inv
  obtain ⟨n15, rfl⟩ := h15.bool_inv
  obtain ⟨n16, rfl, e16⟩ := h16.int_inv
  obtain ⟨n17, rfl, e17⟩ := h17.int_inv
  obtain ⟨n18, rfl, e18⟩ := h18.str_inv
  obtain ⟨n19, rfl, e19⟩ := h19.int_inv
  obtain ⟨n20, rfl, e20⟩ := h20.int_inv
  exact ⟨⟨⟨⟨n0, n1, n2, n3⟩, ⟨n4, n5, n6, n7⟩, ⟨n8, n9, n10⟩, n11, n12, n13, n14, n15, ⟨n16, n17, n18⟩⟩, n19, n20⟩, rfl, ⟨⟨⟨e0, e1, e2, e3⟩, ⟨e4⟩, ⟨e8, e9, e10⟩, e11, e12, e13, e14, ⟨e16, e17, e18⟩⟩, e19, e20⟩⟩

theorem imm_camVo (a : CamD) : (camVo a).toImm = camVs a := by simp [camVo, camVs, V.toImm, V.toImm.go, imm_iO]
theorem own_camVo (a : CamD) : (camVo a).noSl = true := by simp [camVo, iO, V.noSl, V.noSl.go, own_i]
theorem immR_camVo (l : List CamD) : (l.map camVo).map V.toImm = l.map camVs := immR imm_camVo l
theorem ownR_camVo (l : List CamD) : V.noSl.go (l.map camVo) = true := noSl_map own_camVo l
structure FlyD where
  who : Int
  packet : PacketD
def flyVs (a : FlyD) : V := .ag [.i .i64 a.who, .i .i64 a.packet.seq, .b a.packet.first, .b a.packet.last, .s a.packet.bytes]
def flyD : FlyD := ⟨0, packetD⟩
def znFly (a : FlyD) : Nat := znPacket a.packet
structure HasFly (x0 : FlyD) : Prop where
  who : IntKind.i64.has x0.who
  packet : HasPacket x0.packet
def flyK : List NK := [.int .i64, .int .i64, .bool, .bool, .str]
theorem flyW (vs : List V) (h : NLeafs flyK vs) : ∃ a : FlyD, V.ag vs = flyVs a ∧ HasFly a := by
  obtain ⟨v0, r0, rfl, h0, h⟩ := h.cons_inv
  obtain ⟨v1, r1, rfl, h1, h⟩ := h.cons_inv
  obtain ⟨v2, r2, rfl, h2, h⟩ := h.cons_inv
  obtain ⟨v3, r3, rfl, h3, h⟩ := h.cons_inv
  obtain ⟨v4, r4, rfl, h4, h⟩ := h.cons_inv
  obtain rfl := h.nil_inv
  obtain ⟨n0, rfl, e0⟩ := h0.int_inv
  obtain ⟨n1, rfl, e1⟩ := h1.int_inv
  obtain ⟨n2, rfl⟩ := h2.bool_inv
  obtain ⟨n3, rfl⟩ := h3.bool_inv
  obtain ⟨n4, rfl, e4⟩ := h4.str_inv
  exact ⟨⟨n0, ⟨n1, n2, n3, n4⟩⟩, rfl, ⟨e0, ⟨e1, e4⟩⟩⟩
theorem imm_flyVs (a : FlyD) : (flyVs a).toImm = flyVs a := rfl
theorem own_flyVs (a : FlyD) : (flyVs a).noSl = true := rfl
theorem immR_flyVs (l : List FlyD) : (l.map flyVs).map V.toImm = l.map flyVs := immR imm_flyVs l
theorem ownR_flyVs (l : List FlyD) : V.noSl.go (l.map flyVs) = true := noSl_map own_flyVs l
structure DecoderD where
  hasSeq : Bool
  hasPar : Bool
  hasRef : Bool
  seq : SeqD
  par : Par
  frame : Int
  got : Int
  now : Pic
  ref : Pic
def decoderVs (a : DecoderD) : V := .ag [.b a.hasSeq, .b a.hasPar, .b a.hasRef, .i .i64 a.seq.level, .i .i64 a.seq.bits, iS a.seq.cols, iS a.seq.rows, .i .i64 a.par.qp, .b a.par.large, .b a.par.exact, .b a.par.confined, .i .i64 a.frame, .i .i64 a.got, .i .i64 a.now.wide, .i .i64 a.now.high, .s a.now.dots, .i .i64 a.ref.wide, .i .i64 a.ref.high, .s a.ref.dots]
def decoderVo (a : DecoderD) : V := .ag [.b a.hasSeq, .b a.hasPar, .b a.hasRef, .i .i64 a.seq.level, .i .i64 a.seq.bits, iO a.seq.cols, iO a.seq.rows, .i .i64 a.par.qp, .b a.par.large, .b a.par.exact, .b a.par.confined, .i .i64 a.frame, .i .i64 a.got, .i .i64 a.now.wide, .i .i64 a.now.high, .s a.now.dots, .i .i64 a.ref.wide, .i .i64 a.ref.high, .s a.ref.dots]
def decoderD : DecoderD := ⟨false, false, false, seqD, parD, 0, 0, picD, picD⟩
def znDecoder (a : DecoderD) : Nat := znSeq a.seq + znPic a.now + znPic a.ref
structure HasDecoder (x0 : DecoderD) : Prop where
  seq : HasSeq x0.seq
  par : HasPar x0.par
  frame : IntKind.i64.has x0.frame
  got : IntKind.i64.has x0.got
  now : HasPic x0.now
  ref : HasPic x0.ref
def decoderK : List NK := [.bool, .bool, .bool, .int .i64, .int .i64, .row [.int .i64] false, .row [.int .i64] false, .int .i64, .bool, .bool, .bool, .int .i64, .int .i64, .int .i64, .int .i64, .str, .int .i64, .int .i64, .str]
theorem decoderW (vs : List V) (h : NLeafs decoderK vs) : ∃ a : DecoderD, V.ag vs = decoderVs a ∧ HasDecoder a := by
  obtain ⟨v0, r0, rfl, h0, h⟩ := h.cons_inv
  obtain ⟨v1, r1, rfl, h1, h⟩ := h.cons_inv
  obtain ⟨v2, r2, rfl, h2, h⟩ := h.cons_inv
  obtain ⟨v3, r3, rfl, h3, h⟩ := h.cons_inv
  obtain ⟨v4, r4, rfl, h4, h⟩ := h.cons_inv
  obtain ⟨v5, r5, rfl, h5, h⟩ := h.cons_inv
  obtain ⟨v6, r6, rfl, h6, h⟩ := h.cons_inv
  obtain ⟨v7, r7, rfl, h7, h⟩ := h.cons_inv
  obtain ⟨v8, r8, rfl, h8, h⟩ := h.cons_inv
  obtain ⟨v9, r9, rfl, h9, h⟩ := h.cons_inv
  obtain ⟨v10, r10, rfl, h10, h⟩ := h.cons_inv
  obtain ⟨v11, r11, rfl, h11, h⟩ := h.cons_inv
  obtain ⟨v12, r12, rfl, h12, h⟩ := h.cons_inv
  obtain ⟨v13, r13, rfl, h13, h⟩ := h.cons_inv
  obtain ⟨v14, r14, rfl, h14, h⟩ := h.cons_inv
  obtain ⟨v15, r15, rfl, h15, h⟩ := h.cons_inv
  obtain ⟨v16, r16, rfl, h16, h⟩ := h.cons_inv
  obtain ⟨v17, r17, rfl, h17, h⟩ := h.cons_inv
  obtain ⟨v18, r18, rfl, h18, h⟩ := h.cons_inv
  obtain rfl := h.nil_inv
  obtain ⟨n0, rfl⟩ := h0.bool_inv
  obtain ⟨n1, rfl⟩ := h1.bool_inv
  obtain ⟨n2, rfl⟩ := h2.bool_inv
  obtain ⟨n3, rfl, e3⟩ := h3.int_inv
  obtain ⟨n4, rfl, e4⟩ := h4.int_inv
  obtain ⟨n5, rfl, e5⟩ := h5.ints
  obtain ⟨n6, rfl, e6⟩ := h6.ints
  obtain ⟨n7, rfl, e7⟩ := h7.int_inv
  obtain ⟨n8, rfl⟩ := h8.bool_inv
  obtain ⟨n9, rfl⟩ := h9.bool_inv
  obtain ⟨n10, rfl⟩ := h10.bool_inv
  obtain ⟨n11, rfl, e11⟩ := h11.int_inv
  obtain ⟨n12, rfl, e12⟩ := h12.int_inv
  obtain ⟨n13, rfl, e13⟩ := h13.int_inv
  obtain ⟨n14, rfl, e14⟩ := h14.int_inv
  obtain ⟨n15, rfl, e15⟩ := h15.str_inv
  obtain ⟨n16, rfl, e16⟩ := h16.int_inv
  obtain ⟨n17, rfl, e17⟩ := h17.int_inv
  obtain ⟨n18, rfl, e18⟩ := h18.str_inv
  exact ⟨⟨n0, n1, n2, ⟨n3, n4, n5, n6⟩, ⟨n7, n8, n9, n10⟩, n11, n12, ⟨n13, n14, n15⟩, ⟨n16, n17, n18⟩⟩, rfl, ⟨⟨e3, e4, e5, e6⟩, ⟨e7⟩, e11, e12, ⟨e13, e14, e15⟩, ⟨e16, e17, e18⟩⟩⟩

theorem imm_decoderVo (a : DecoderD) : (decoderVo a).toImm = decoderVs a := by simp [decoderVo, decoderVs, V.toImm, V.toImm.go, imm_iO]
theorem own_decoderVo (a : DecoderD) : (decoderVo a).noSl = true := by simp [decoderVo, iO, V.noSl, V.noSl.go, own_i]
theorem immR_decoderVo (l : List DecoderD) : (l.map decoderVo).map V.toImm = l.map decoderVs := immR imm_decoderVo l
theorem ownR_decoderVo (l : List DecoderD) : V.noSl.go (l.map decoderVo) = true := noSl_map own_decoderVo l
structure PartD where
  key : Bool
  qp : Int
  row : List UInt8
def partVs (a : PartD) : V := .ag [.b a.key, .i .i64 a.qp, .s a.row]
def partD : PartD := ⟨false, 0, []⟩
def znPart (a : PartD) : Nat := a.row.length
structure HasPart (x0 : PartD) : Prop where
  qp : IntKind.i64.has x0.qp
  row : x0.row.length ≤ maxLen
theorem imm_partVs (a : PartD) : (partVs a).toImm = partVs a := rfl
theorem own_partVs (a : PartD) : (partVs a).noSl = true := rfl
theorem immR_partVs (l : List PartD) : (l.map partVs).map V.toImm = l.map partVs := immR imm_partVs l
theorem ownR_partVs (l : List PartD) : V.noSl.go (l.map partVs) = true := noSl_map own_partVs l
structure SightD where
  who : Int
  count : Int
  part : PartD
  pic : Pic
def sightVs (a : SightD) : V := .ag [.i .i64 a.who, .i .i64 a.count, .b a.part.key, .i .i64 a.part.qp, .s a.part.row, .i .i64 a.pic.wide, .i .i64 a.pic.high, .s a.pic.dots]
def sightD : SightD := ⟨0, 0, partD, picD⟩
def znSight (a : SightD) : Nat := znPart a.part + znPic a.pic
structure HasSight (x0 : SightD) : Prop where
  who : IntKind.i64.has x0.who
  count : IntKind.i64.has x0.count
  part : HasPart x0.part
  pic : HasPic x0.pic
def sightK : List NK := [.int .i64, .int .i64, .bool, .int .i64, .str, .int .i64, .int .i64, .str]
theorem sightW (vs : List V) (h : NLeafs sightK vs) : ∃ a : SightD, V.ag vs = sightVs a ∧ HasSight a := by
  obtain ⟨v0, r0, rfl, h0, h⟩ := h.cons_inv
  obtain ⟨v1, r1, rfl, h1, h⟩ := h.cons_inv
  obtain ⟨v2, r2, rfl, h2, h⟩ := h.cons_inv
  obtain ⟨v3, r3, rfl, h3, h⟩ := h.cons_inv
  obtain ⟨v4, r4, rfl, h4, h⟩ := h.cons_inv
  obtain ⟨v5, r5, rfl, h5, h⟩ := h.cons_inv
  obtain ⟨v6, r6, rfl, h6, h⟩ := h.cons_inv
  obtain ⟨v7, r7, rfl, h7, h⟩ := h.cons_inv
  obtain rfl := h.nil_inv
  obtain ⟨n0, rfl, e0⟩ := h0.int_inv
  obtain ⟨n1, rfl, e1⟩ := h1.int_inv
  obtain ⟨n2, rfl⟩ := h2.bool_inv
  obtain ⟨n3, rfl, e3⟩ := h3.int_inv
  obtain ⟨n4, rfl, e4⟩ := h4.str_inv
  obtain ⟨n5, rfl, e5⟩ := h5.int_inv
  obtain ⟨n6, rfl, e6⟩ := h6.int_inv
  obtain ⟨n7, rfl, e7⟩ := h7.str_inv
  exact ⟨⟨n0, n1, ⟨n2, n3, n4⟩, ⟨n5, n6, n7⟩⟩, rfl, ⟨e0, e1, ⟨e3, e4⟩, ⟨e5, e6, e7⟩⟩⟩
theorem imm_sightVs (a : SightD) : (sightVs a).toImm = sightVs a := rfl
theorem own_sightVs (a : SightD) : (sightVs a).noSl = true := rfl
theorem immR_sightVs (l : List SightD) : (l.map sightVs).map V.toImm = l.map sightVs := immR imm_sightVs l
theorem ownR_sightVs (l : List SightD) : V.noSl.go (l.map sightVs) = true := noSl_map own_sightVs l
structure LookD where
  seq : SeqD
  tells : List Tell
  units : List (List UInt8)
  codes : List Int
  pics : List Pic
def lookVs (a : LookD) : V := .ag [.i .i64 a.seq.level, .i .i64 a.seq.bits, iS a.seq.cols, iS a.seq.rows, .sl (a.tells.map tellV), txS a.units, iS a.codes, .sl (a.pics.map picV)]
def lookVo (a : LookD) : V := .ag [.i .i64 a.seq.level, .i .i64 a.seq.bits, iO a.seq.cols, iO a.seq.rows, .ow 3 (a.tells.map tellV), txO a.units, iO a.codes, .ow 3 (a.pics.map picV)]
def lookD : LookD := ⟨seqD, [], [], [], []⟩
def znLook (a : LookD) : Nat := znSeq a.seq + a.tells.length + (a.units.length + sumR [] List.length a.units a.units.length) + a.codes.length + (a.pics.length + sumR picD znPic a.pics a.pics.length)
structure HasLook (x0 : LookD) : Prop where
  seq : HasSeq x0.seq
  tells : x0.tells.length ≤ maxLen ∧ ∀ x ∈ x0.tells, HasTell x
  units : x0.units.length ≤ maxLen ∧ ∀ z ∈ x0.units, z.length ≤ maxLen
  codes : x0.codes.length ≤ maxLen ∧ ∀ z ∈ x0.codes, IntKind.i64.has z
  pics : x0.pics.length ≤ maxLen ∧ ∀ x ∈ x0.pics, HasPic x
def lookK : List NK := [.int .i64, .int .i64, .row [.int .i64] false, .row [.int .i64] false, .row tellK true, .row [.str] false, .row [.int .i64] false, .row picK true]
theorem lookW (vs : List V) (h : NLeafs lookK vs) : ∃ a : LookD, V.ag vs = lookVs a ∧ HasLook a := by
  obtain ⟨v0, r0, rfl, h0, h⟩ := h.cons_inv
  obtain ⟨v1, r1, rfl, h1, h⟩ := h.cons_inv
  obtain ⟨v2, r2, rfl, h2, h⟩ := h.cons_inv
  obtain ⟨v3, r3, rfl, h3, h⟩ := h.cons_inv
  obtain ⟨v4, r4, rfl, h4, h⟩ := h.cons_inv
  obtain ⟨v5, r5, rfl, h5, h⟩ := h.cons_inv
  obtain ⟨v6, r6, rfl, h6, h⟩ := h.cons_inv
  obtain ⟨v7, r7, rfl, h7, h⟩ := h.cons_inv
  obtain rfl := h.nil_inv
  obtain ⟨n0, rfl, e0⟩ := h0.int_inv
  obtain ⟨n1, rfl, e1⟩ := h1.int_inv
  obtain ⟨n2, rfl, e2⟩ := h2.ints
  obtain ⟨n3, rfl, e3⟩ := h3.ints
  obtain ⟨n4, rfl, e4⟩ := h4.rowW tellW
  obtain ⟨n5, rfl, e5⟩ := h5.strs
  obtain ⟨n6, rfl, e6⟩ := h6.ints
  obtain ⟨n7, rfl, e7⟩ := h7.rowW picW
  exact ⟨⟨⟨n0, n1, n2, n3⟩, n4, n5, n6, n7⟩, rfl, ⟨⟨e0, e1, e2, e3⟩, e4, e5, e6, e7⟩⟩

theorem imm_lookVo (a : LookD) : (lookVo a).toImm = lookVs a := by simp [lookVo, lookVs, V.toImm, V.toImm.go, imm_iO, imm_txO, V.toImm_go, immR imm_tellV, V.toImm_go, immR imm_picV]
theorem own_lookVo (a : LookD) : (lookVo a).noSl = true := by simp [lookVo, iO, V.noSl, V.noSl.go, own_i, txO, own_s, noSl_map own_tellV, noSl_map own_picV]
theorem immR_lookVo (l : List LookD) : (l.map lookVo).map V.toImm = l.map lookVs := immR imm_lookVo l
theorem ownR_lookVo (l : List LookD) : V.noSl.go (l.map lookVo) = true := noSl_map own_lookVo l
structure WorldD where
  mixer : MixerD
  cams : List CamD
  wire : List FlyD
  wall : DecoderD
  alone : List DecoderD
  sights : List SightD
  looks : List LookD
  codes : List Int
def worldVs (a : WorldD) : V := .ag [.i .i64 a.mixer.par.qp, .b a.mixer.par.large, .b a.mixer.par.exact, .b a.mixer.par.confined, .i .i64 a.mixer.bits, .i .i64 a.mixer.wait, .i .i64 a.mixer.hold, .i .i64 a.mixer.limit, iS a.mixer.layout.cols, iS a.mixer.layout.rows, iS a.mixer.layout.who, iS a.mixer.next.cols, iS a.mixer.next.rows, iS a.mixer.next.who, .i .i64 a.mixer.left, .i .i64 a.mixer.frame, .b a.mixer.begun, .sl (a.mixer.inputs.map inputVs), .sl (a.cams.map camVs), .sl (a.wire.map flyVs), .b a.wall.hasSeq, .b a.wall.hasPar, .b a.wall.hasRef, .i .i64 a.wall.seq.level, .i .i64 a.wall.seq.bits, iS a.wall.seq.cols, iS a.wall.seq.rows, .i .i64 a.wall.par.qp, .b a.wall.par.large, .b a.wall.par.exact, .b a.wall.par.confined, .i .i64 a.wall.frame, .i .i64 a.wall.got, .i .i64 a.wall.now.wide, .i .i64 a.wall.now.high, .s a.wall.now.dots, .i .i64 a.wall.ref.wide, .i .i64 a.wall.ref.high, .s a.wall.ref.dots, .sl (a.alone.map decoderVs), .sl (a.sights.map sightVs), .sl (a.looks.map lookVs), iS a.codes]
def worldVo (a : WorldD) : V := .ag [.i .i64 a.mixer.par.qp, .b a.mixer.par.large, .b a.mixer.par.exact, .b a.mixer.par.confined, .i .i64 a.mixer.bits, .i .i64 a.mixer.wait, .i .i64 a.mixer.hold, .i .i64 a.mixer.limit, iO a.mixer.layout.cols, iO a.mixer.layout.rows, iO a.mixer.layout.who, iO a.mixer.next.cols, iO a.mixer.next.rows, iO a.mixer.next.who, .i .i64 a.mixer.left, .i .i64 a.mixer.frame, .b a.mixer.begun, .ow 24 (a.mixer.inputs.map inputVo), .ow 21 (a.cams.map camVo), .ow 5 (a.wire.map flyVs), .b a.wall.hasSeq, .b a.wall.hasPar, .b a.wall.hasRef, .i .i64 a.wall.seq.level, .i .i64 a.wall.seq.bits, iO a.wall.seq.cols, iO a.wall.seq.rows, .i .i64 a.wall.par.qp, .b a.wall.par.large, .b a.wall.par.exact, .b a.wall.par.confined, .i .i64 a.wall.frame, .i .i64 a.wall.got, .i .i64 a.wall.now.wide, .i .i64 a.wall.now.high, .s a.wall.now.dots, .i .i64 a.wall.ref.wide, .i .i64 a.wall.ref.high, .s a.wall.ref.dots, .ow 19 (a.alone.map decoderVo), .ow 8 (a.sights.map sightVs), .ow 8 (a.looks.map lookVo), iO a.codes]
def znWorld (a : WorldD) : Nat := znMixer a.mixer + (a.cams.length + sumR camD znCam a.cams a.cams.length) + (a.wire.length + sumR flyD znFly a.wire a.wire.length) + znDecoder a.wall + (a.alone.length + sumR decoderD znDecoder a.alone a.alone.length) + (a.sights.length + sumR sightD znSight a.sights a.sights.length) + (a.looks.length + sumR lookD znLook a.looks a.looks.length) + a.codes.length
structure HasWorld (x0 : WorldD) : Prop where
  mixer : HasMixer x0.mixer
  cams : x0.cams.length ≤ maxLen ∧ ∀ x ∈ x0.cams, HasCam x
  wire : x0.wire.length ≤ maxLen ∧ ∀ x ∈ x0.wire, HasFly x
  wall : HasDecoder x0.wall
  alone : x0.alone.length ≤ maxLen ∧ ∀ x ∈ x0.alone, HasDecoder x
  sights : x0.sights.length ≤ maxLen ∧ ∀ x ∈ x0.sights, HasSight x
  looks : x0.looks.length ≤ maxLen ∧ ∀ x ∈ x0.looks, HasLook x
  codes : x0.codes.length ≤ maxLen ∧ ∀ z ∈ x0.codes, IntKind.i64.has z
def worldK : List NK := [.int .i64, .bool, .bool, .bool, .int .i64, .int .i64, .int .i64, .int .i64, .row [.int .i64] false, .row [.int .i64] false, .row [.int .i64] false, .row [.int .i64] false, .row [.int .i64] false, .row [.int .i64] false, .int .i64, .int .i64, .bool, .row inputK true, .row camK true, .row flyK true, .bool, .bool, .bool, .int .i64, .int .i64, .row [.int .i64] false, .row [.int .i64] false, .int .i64, .bool, .bool, .bool, .int .i64, .int .i64, .int .i64, .int .i64, .str, .int .i64, .int .i64, .str, .row decoderK true, .row sightK true, .row lookK true, .row [.int .i64] false]
theorem worldW (vs : List V) (h : NLeafs worldK vs) : ∃ a : WorldD, V.ag vs = worldVs a ∧ HasWorld a := by
  obtain ⟨v0, r0, rfl, h0, h⟩ := h.cons_inv
  obtain ⟨v1, r1, rfl, h1, h⟩ := h.cons_inv
  obtain ⟨v2, r2, rfl, h2, h⟩ := h.cons_inv
  obtain ⟨v3, r3, rfl, h3, h⟩ := h.cons_inv
  obtain ⟨v4, r4, rfl, h4, h⟩ := h.cons_inv
  obtain ⟨v5, r5, rfl, h5, h⟩ := h.cons_inv
  obtain ⟨v6, r6, rfl, h6, h⟩ := h.cons_inv
  obtain ⟨v7, r7, rfl, h7, h⟩ := h.cons_inv
  obtain ⟨v8, r8, rfl, h8, h⟩ := h.cons_inv
  obtain ⟨v9, r9, rfl, h9, h⟩ := h.cons_inv
  obtain ⟨v10, r10, rfl, h10, h⟩ := h.cons_inv
  obtain ⟨v11, r11, rfl, h11, h⟩ := h.cons_inv
  obtain ⟨v12, r12, rfl, h12, h⟩ := h.cons_inv
  obtain ⟨v13, r13, rfl, h13, h⟩ := h.cons_inv
  obtain ⟨v14, r14, rfl, h14, h⟩ := h.cons_inv
  obtain ⟨v15, r15, rfl, h15, h⟩ := h.cons_inv
  obtain ⟨v16, r16, rfl, h16, h⟩ := h.cons_inv
  obtain ⟨v17, r17, rfl, h17, h⟩ := h.cons_inv
  obtain ⟨v18, r18, rfl, h18, h⟩ := h.cons_inv
  obtain ⟨v19, r19, rfl, h19, h⟩ := h.cons_inv
  obtain ⟨v20, r20, rfl, h20, h⟩ := h.cons_inv
  obtain ⟨v21, r21, rfl, h21, h⟩ := h.cons_inv
  obtain ⟨v22, r22, rfl, h22, h⟩ := h.cons_inv
  obtain ⟨v23, r23, rfl, h23, h⟩ := h.cons_inv
  obtain ⟨v24, r24, rfl, h24, h⟩ := h.cons_inv
  obtain ⟨v25, r25, rfl, h25, h⟩ := h.cons_inv
  obtain ⟨v26, r26, rfl, h26, h⟩ := h.cons_inv
  obtain ⟨v27, r27, rfl, h27, h⟩ := h.cons_inv
  obtain ⟨v28, r28, rfl, h28, h⟩ := h.cons_inv
  obtain ⟨v29, r29, rfl, h29, h⟩ := h.cons_inv
  obtain ⟨v30, r30, rfl, h30, h⟩ := h.cons_inv
  obtain ⟨v31, r31, rfl, h31, h⟩ := h.cons_inv
  obtain ⟨v32, r32, rfl, h32, h⟩ := h.cons_inv
  obtain ⟨v33, r33, rfl, h33, h⟩ := h.cons_inv
  obtain ⟨v34, r34, rfl, h34, h⟩ := h.cons_inv
  obtain ⟨v35, r35, rfl, h35, h⟩ := h.cons_inv
  obtain ⟨v36, r36, rfl, h36, h⟩ := h.cons_inv
  obtain ⟨v37, r37, rfl, h37, h⟩ := h.cons_inv
  obtain ⟨v38, r38, rfl, h38, h⟩ := h.cons_inv
  obtain ⟨v39, r39, rfl, h39, h⟩ := h.cons_inv
  obtain ⟨v40, r40, rfl, h40, h⟩ := h.cons_inv
  obtain ⟨v41, r41, rfl, h41, h⟩ := h.cons_inv
  obtain ⟨v42, r42, rfl, h42, h⟩ := h.cons_inv
  obtain rfl := h.nil_inv
  obtain ⟨n0, rfl, e0⟩ := h0.int_inv
  obtain ⟨n1, rfl⟩ := h1.bool_inv
  obtain ⟨n2, rfl⟩ := h2.bool_inv
  obtain ⟨n3, rfl⟩ := h3.bool_inv
  obtain ⟨n4, rfl, e4⟩ := h4.int_inv
  obtain ⟨n5, rfl, e5⟩ := h5.int_inv
  obtain ⟨n6, rfl, e6⟩ := h6.int_inv
  obtain ⟨n7, rfl, e7⟩ := h7.int_inv
  obtain ⟨n8, rfl, e8⟩ := h8.ints
  obtain ⟨n9, rfl, e9⟩ := h9.ints
  obtain ⟨n10, rfl, e10⟩ := h10.ints
  obtain ⟨n11, rfl, e11⟩ := h11.ints
  obtain ⟨n12, rfl, e12⟩ := h12.ints
  obtain ⟨n13, rfl, e13⟩ := h13.ints
  obtain ⟨n14, rfl, e14⟩ := h14.int_inv
  obtain ⟨n15, rfl, e15⟩ := h15.int_inv
  obtain ⟨n16, rfl⟩ := h16.bool_inv
  obtain ⟨n17, rfl, e17⟩ := h17.rowW inputW
  obtain ⟨n18, rfl, e18⟩ := h18.rowW camW
  obtain ⟨n19, rfl, e19⟩ := h19.rowW flyW
  obtain ⟨n20, rfl⟩ := h20.bool_inv
  obtain ⟨n21, rfl⟩ := h21.bool_inv
  obtain ⟨n22, rfl⟩ := h22.bool_inv
  obtain ⟨n23, rfl, e23⟩ := h23.int_inv
  obtain ⟨n24, rfl, e24⟩ := h24.int_inv
  obtain ⟨n25, rfl, e25⟩ := h25.ints
  obtain ⟨n26, rfl, e26⟩ := h26.ints
  obtain ⟨n27, rfl, e27⟩ := h27.int_inv
  obtain ⟨n28, rfl⟩ := h28.bool_inv
  obtain ⟨n29, rfl⟩ := h29.bool_inv
  obtain ⟨n30, rfl⟩ := h30.bool_inv
  obtain ⟨n31, rfl, e31⟩ := h31.int_inv
  obtain ⟨n32, rfl, e32⟩ := h32.int_inv
  obtain ⟨n33, rfl, e33⟩ := h33.int_inv
  obtain ⟨n34, rfl, e34⟩ := h34.int_inv
  obtain ⟨n35, rfl, e35⟩ := h35.str_inv
  obtain ⟨n36, rfl, e36⟩ := h36.int_inv
  obtain ⟨n37, rfl, e37⟩ := h37.int_inv
  obtain ⟨n38, rfl, e38⟩ := h38.str_inv
  obtain ⟨n39, rfl, e39⟩ := h39.rowW decoderW
  obtain ⟨n40, rfl, e40⟩ := h40.rowW sightW
  obtain ⟨n41, rfl, e41⟩ := h41.rowW lookW
  obtain ⟨n42, rfl, e42⟩ := h42.ints
  exact ⟨⟨⟨⟨n0, n1, n2, n3⟩, n4, n5, n6, n7, ⟨n8, n9, n10⟩, ⟨n11, n12, n13⟩, n14, n15, n16, n17⟩, n18, n19, ⟨n20, n21, n22, ⟨n23, n24, n25, n26⟩, ⟨n27, n28, n29, n30⟩, n31, n32, ⟨n33, n34, n35⟩, ⟨n36, n37, n38⟩⟩, n39, n40, n41, n42⟩, rfl, ⟨⟨⟨e0⟩, e4, e5, e6, e7, ⟨e8, e9, e10⟩, ⟨e11, e12, e13⟩, e14, e15, e17⟩, e18, e19, ⟨⟨e23, e24, e25, e26⟩, ⟨e27⟩, e31, e32, ⟨e33, e34, e35⟩, ⟨e36, e37, e38⟩⟩, e39, e40, e41, e42⟩⟩

theorem imm_worldVo (a : WorldD) : (worldVo a).toImm = worldVs a := by simp [worldVo, worldVs, V.toImm, V.toImm.go, imm_iO, V.toImm_go, immR imm_inputVo, V.toImm_go, immR imm_camVo, V.toImm_go, immR imm_flyVs, V.toImm_go, immR imm_decoderVo, V.toImm_go, immR imm_sightVs, V.toImm_go, immR imm_lookVo]
theorem own_worldVo (a : WorldD) : (worldVo a).noSl = true := by simp [worldVo, iO, V.noSl, V.noSl.go, own_i, noSl_map own_inputVo, noSl_map own_camVo, noSl_map own_flyVs, noSl_map own_decoderVo, noSl_map own_sightVs, noSl_map own_lookVo]
theorem immR_worldVo (l : List WorldD) : (l.map worldVo).map V.toImm = l.map worldVs := immR imm_worldVo l
theorem ownR_worldVo (l : List WorldD) : V.noSl.go (l.map worldVo) = true := noSl_map own_worldVo l

theorem toPic_w (a : Pic) (h : znPic a ≤ 1000000000) : Vow Tryz.prog 100 [picV a] (picV a) [] := by
  have ht : znPic a = a.dots.length := rfl
  refine vow_of_ev (fn := Tryz.f100) [] [(0, 0), (0, 0), (4, 7), (7, 10), (10, 13), (13, 14)] tt_ok Tryz.func100 (by decide) rfl (Nat.le_of_ble_eq_true rfl) rfl rfl rfl ?_
  repeat' (conv => whnf); first | refine Br.tt ?_ | refine Br.ff ?_ | refine Br.not ?_ | refine Br.dand (fun _ => ?_) (fun _ => ?_) | refine Br.dec (fun _ => ?_) (fun _ => ?_) | refine Br.beq (fun _ => ?_) (fun _ => ?_) | refine Br.bne (fun _ => ?_) (fun _ => ?_) | refine Br.seq (fun _ => ?_) (fun _ => ?_) | refine Elt.i (by omega) ?_ | refine EltN.i (by omega) ?_ | refine Nt.cast ?_ | refine Nt.mk _ rfl ?_ | refine EltN.mk _ rfl ?_ | refine Mx.mk _ rfl ?_ | refine Br.mk (fun _ => ?_) (fun _ => ?_) | refine EndP.mk ?_ trivial | refine EndP.mk ?_ ⟨.inr ⟨List.mem_cons_self .., ?_, rfl⟩, trivial⟩ | refine Ar.i64 (by omega) ?_ | refine Ar.u8 (by omega) ?_ | refine Quo.pos (by omega) ?_ | refine Rem.pos (by omega) ?_ | refine BsP.own ?_ | refine SetN.two ?_ | refine SetN.one ?_ | refine Ob.mk ⟨rfl, rfl⟩ ?_ | refine Ob.mk (flat_i _ _).1 ?_ | refine Ob.mk (flat_i _ _) ?_ | refine Ob.mk (flat_s _) ?_ | refine Ob.mk (by first | omega | (simp; first | done | fail) | (simp; omega)) ?_ | fail
  all_goals rfl

theorem eqPic_w (a : Pic) (h : znPic a ≤ 1000000000) : Vow Tryz.prog 13 [picV a, picV a] (.b true) [] := by
  have ht : znPic a = a.dots.length := rfl
  refine vow_of_ev (fn := Tryz.f13) [] [(0, 0), (5, 9), (0, 0), (10, 14), (0, 0), (15, 19), (0, 0), (0, 0)] tt_ok Tryz.func13 (by decide) rfl (Nat.le_of_ble_eq_true rfl) rfl rfl rfl ?_
  repeat' (conv => whnf); first | refine Br.ne_self ?_ | refine Br.eq_self ?_ | refine Br.deq ?_ | refine Br.tt ?_ | refine Br.ff ?_ | refine Br.not ?_ | refine Br.dand (fun _ => ?_) (fun _ => ?_) | refine Br.dec (fun _ => ?_) (fun _ => ?_) | refine Br.beq (fun _ => ?_) (fun _ => ?_) | refine Br.bne (fun _ => ?_) (fun _ => ?_) | refine Br.seq (fun _ => ?_) (fun _ => ?_) | refine Elt.i (by omega) ?_ | refine EltN.i (by omega) ?_ | refine Nt.cast ?_ | refine Nt.mk _ rfl ?_ | refine EltN.mk _ rfl ?_ | refine Mx.mk _ rfl ?_ | refine Br.mk (fun _ => ?_) (fun _ => ?_) | refine EndP.mk ?_ trivial | refine EndP.mk ?_ ⟨.inr ⟨List.mem_cons_self .., ?_, rfl⟩, trivial⟩ | refine Ar.i64 (by omega) ?_ | refine Ar.u8 (by omega) ?_ | refine Quo.pos (by omega) ?_ | refine Rem.pos (by omega) ?_ | refine BsP.own ?_ | refine SetN.two ?_ | refine SetN.one ?_ | refine Ob.mk ⟨rfl, rfl⟩ ?_ | refine Ob.mk (flat_i _ _).1 ?_ | refine Ob.mk (flat_i _ _) ?_ | refine Ob.mk (flat_s _) ?_ | refine Ob.mk (by first | omega | (simp; first | done | fail) | (simp; omega)) ?_ | fail
  all_goals rfl
theorem szPic_w (a : Pic) (h : HasPic a) (left : Int) (hl : 0 ≤ left ∧ left ≤ 1048576) : Vow Tryz.prog 89 [picV a, .i .i64 left] (.i .i64 (szL (znPic a) left)) [] := by
  have ht : znPic a = a.dots.length := rfl
  have hm : maxLen ≤ 9223372036854775807 := by decide
  have c := szL_le (znPic a) left
  have b0 := h.dots
  refine vow_of_ev (fn := Tryz.f89) [] [(0, 0), (5, 10), (10, 11), (0, 0), (12, 13)] tt_ok Tryz.func89 (by decide) rfl (Nat.le_of_ble_eq_true rfl) rfl rfl rfl ?_
  repeat' (conv => whnf); first | refine Br.tt ?_ | refine Br.ff ?_ | refine Br.not ?_ | refine Br.dand (fun _ => ?_) (fun _ => ?_) | refine Br.dec (fun _ => ?_) (fun _ => ?_) | refine Br.beq (fun _ => ?_) (fun _ => ?_) | refine Br.bne (fun _ => ?_) (fun _ => ?_) | refine Br.seq (fun _ => ?_) (fun _ => ?_) | refine Elt.i (by omega) ?_ | refine EltN.i (by omega) ?_ | refine Nt.cast ?_ | refine Nt.mk _ rfl ?_ | refine EltN.mk _ rfl ?_ | refine Mx.mk _ rfl ?_ | refine Br.mk (fun _ => ?_) (fun _ => ?_) | refine EndP.mk ?_ trivial | refine EndP.mk ?_ ⟨.inr ⟨List.mem_cons_self .., ?_, rfl⟩, trivial⟩ | refine Ar.i64 (by omega) ?_ | refine Ar.u8 (by omega) ?_ | refine Quo.pos (by omega) ?_ | refine Rem.pos (by omega) ?_ | refine BsP.own ?_ | refine SetN.two ?_ | refine SetN.one ?_ | refine Ob.mk ⟨rfl, rfl⟩ ?_ | refine Ob.mk (flat_i _ _).1 ?_ | refine Ob.mk (flat_i _ _) ?_ | refine Ob.mk (flat_s _) ?_ | refine Ob.mk (by first | omega | (simp; first | done | fail) | (simp; omega)) ?_ | fail
  all_goals first
    | (exfalso; omega)
    | (rw [show szL (znPic a) left = -1 by omega]; rfl)
    | (rw [show szL (znPic a) left = left - (a.dots.length : Nat) by omega]; rfl)

theorem toPicS_w (l : List Pic) (h : l.length + sumR picD znPic l l.length ≤ 1000000000) : Vow Tryz.prog 142 [.sl (l.map picV)] (.ow 3 (l.map picV)) [] := by
  have hm : (l.map picV).length = l.length := by simp
  refine vow_of_ev (fn := Tryz.f142) [] [(0, 0), (5, 8), (0, 0), (8, 11), (12, 14), (14, 22), (22, 23)] tt_ok Tryz.func142 (by decide) rfl (Nat.le_of_ble_eq_true rfl) rfl rfl rfl ?_
  repeat' (conv => whnf); first | refine Br.tt ?_ | refine Br.ff ?_ | refine Br.not ?_ | refine Br.dand (fun _ => ?_) (fun _ => ?_) | refine Br.dec (fun _ => ?_) (fun _ => ?_) | refine Br.beq (fun _ => ?_) (fun _ => ?_) | refine Br.bne (fun _ => ?_) (fun _ => ?_) | refine Br.seq (fun _ => ?_) (fun _ => ?_) | refine Elt.i (by omega) ?_ | refine EltN.i (by omega) ?_ | refine Nt.cast ?_ | refine Nt.mk _ rfl ?_ | refine EltN.mk _ rfl ?_ | refine Mx.mk _ rfl ?_ | refine Br.mk (fun _ => ?_) (fun _ => ?_) | refine EndP.mk ?_ trivial | refine EndP.mk ?_ ⟨.inr ⟨List.mem_cons_self .., ?_, rfl⟩, trivial⟩ | refine Ar.i64 (by omega) ?_ | refine Ar.u8 (by omega) ?_ | refine Quo.pos (by omega) ?_ | refine Rem.pos (by omega) ?_ | refine BsP.own ?_ | refine SetN.two ?_ | refine SetN.one ?_ | refine Ob.mk ⟨rfl, rfl⟩ ?_ | refine Ob.mk (flat_i _ _).1 ?_ | refine Ob.mk (flat_i _ _) ?_ | refine Ob.mk (flat_s _) ?_ | refine Ob.mk (by first | omega | (simp; first | done | fail) | (simp; omega)) ?_ | fail
  · conv => whnf
    refine LoopP.mk [0,2,3,4] (fun i : Nat => [(0, .sl (l.map picV)), (2, .nl), (3, .ow 3 (cpR picV (.ag [.i .i64 0, .i .i64 0, .s []]) l i)), (4, .i .i64 i)]) (fun i => l.length - i) (fun i => i ≤ l.length) ?_ ?_
    · conv => whnf
      refine ⟨0, by omega, ?_⟩
      rw [hm, Int.toNat_natCast, show List.replicate l.length (V.ag [.i .i64 0, .i .i64 0, .s []]) = _ from cpR_0 picV (.ag [.i .i64 0, .i .i64 0, .s []]) l]
      rfl
    · intro i hi
      have hc := cpR_len picV (.ag [.i .i64 0, .i .i64 0, .s []]) l hi
      by_cases hlt : i < l.length
      · have hcl := cpR_at picV (.ag [.i .i64 0, .i .i64 0, .s []]) l hlt
        have he := sumR_elem picD znPic l hlt
        repeat' (conv => whnf); first | refine Elt.gt picD hlt ?_ | refine EltN.gt picD hlt ?_ | refine EltN.mk _ hcl ?_ | refine CallP.rd (toPic_w (gt picD l i) (by omega)) rfl rfl rfl rfl ?_ | refine DCall.rd (toPic_w (gt picD l i) (by omega)) rfl rfl ?_ | refine Br.tt ?_ | refine Br.ff ?_ | refine Br.not ?_ | refine Br.dand (fun _ => ?_) (fun _ => ?_) | refine Br.dec (fun _ => ?_) (fun _ => ?_) | refine Br.beq (fun _ => ?_) (fun _ => ?_) | refine Br.bne (fun _ => ?_) (fun _ => ?_) | refine Br.seq (fun _ => ?_) (fun _ => ?_) | refine Elt.i (by omega) ?_ | refine EltN.i (by omega) ?_ | refine Nt.cast ?_ | refine Nt.mk _ rfl ?_ | refine EltN.mk _ rfl ?_ | refine Mx.mk _ rfl ?_ | refine Br.mk (fun _ => ?_) (fun _ => ?_) | refine EndP.mk ?_ trivial | refine EndP.mk ?_ ⟨.inr ⟨List.mem_cons_self .., ?_, rfl⟩, trivial⟩ | refine Ar.i64 (by omega) ?_ | refine Ar.u8 (by omega) ?_ | refine Quo.pos (by omega) ?_ | refine Rem.pos (by omega) ?_ | refine BsP.own ?_ | refine SetN.two ?_ | refine SetN.one ?_ | refine Ob.mk ⟨rfl, rfl⟩ ?_ | refine Ob.mk (flat_i _ _).1 ?_ | refine Ob.mk (flat_i _ _) ?_ | refine Ob.mk (flat_s _) ?_ | refine Ob.mk (by first | omega | (simp; first | done | fail) | (simp; omega)) ?_ | fail
        all_goals first
          | (exfalso; omega)
          | (conv => whnf
             refine ⟨i + 1, by omega, by omega, ?_⟩
             rw [← cpR_set picD picV (.ag [.i .i64 0, .i .i64 0, .s []]) l hlt]
             rfl)
      · obtain rfl : i = l.length := by omega
        repeat' (conv => whnf); first | refine Br.tt ?_ | refine Br.ff ?_ | refine Br.not ?_ | refine Br.dand (fun _ => ?_) (fun _ => ?_) | refine Br.dec (fun _ => ?_) (fun _ => ?_) | refine Br.beq (fun _ => ?_) (fun _ => ?_) | refine Br.bne (fun _ => ?_) (fun _ => ?_) | refine Br.seq (fun _ => ?_) (fun _ => ?_) | refine Elt.i (by omega) ?_ | refine EltN.i (by omega) ?_ | refine Nt.cast ?_ | refine Nt.mk _ rfl ?_ | refine EltN.mk _ rfl ?_ | refine Mx.mk _ rfl ?_ | refine Br.mk (fun _ => ?_) (fun _ => ?_) | refine EndP.mk ?_ trivial | refine EndP.mk ?_ ⟨.inr ⟨List.mem_cons_self .., ?_, rfl⟩, trivial⟩ | refine Ar.i64 (by omega) ?_ | refine Ar.u8 (by omega) ?_ | refine Quo.pos (by omega) ?_ | refine Rem.pos (by omega) ?_ | refine BsP.own ?_ | refine SetN.two ?_ | refine SetN.one ?_ | refine Ob.mk ⟨rfl, rfl⟩ ?_ | refine Ob.mk (flat_i _ _).1 ?_ | refine Ob.mk (flat_i _ _) ?_ | refine Ob.mk (flat_s _) ?_ | refine Ob.mk (by first | omega | (simp; first | done | fail) | (simp; omega)) ?_ | fail
        all_goals first
          | (exfalso; omega)
          | (rw [cpR_all]; rfl)

theorem eqPicS_w (l : List Pic) (h : l.length + sumR picD znPic l l.length ≤ 1000000000) : Vow Tryz.prog 148 [.sl (l.map picV), .sl (l.map picV)] (.b true) [] := by
  have hm : (l.map picV).length = l.length := by simp
  refine vow_of_ev (fn := Tryz.f148) [] [(0, 0), (6, 10), (0, 0), (0, 0), (11, 14), (15, 17), (17, 26), (0, 0), (0, 0)] tt_ok Tryz.func148 (by decide) rfl (Nat.le_of_ble_eq_true rfl) rfl rfl rfl ?_
  repeat' (conv => whnf); first | refine Br.ne_self ?_ | refine Br.eq_self ?_ | refine Br.deq ?_ | refine Br.tt ?_ | refine Br.ff ?_ | refine Br.not ?_ | refine Br.dand (fun _ => ?_) (fun _ => ?_) | refine Br.dec (fun _ => ?_) (fun _ => ?_) | refine Br.beq (fun _ => ?_) (fun _ => ?_) | refine Br.bne (fun _ => ?_) (fun _ => ?_) | refine Br.seq (fun _ => ?_) (fun _ => ?_) | refine Elt.i (by omega) ?_ | refine EltN.i (by omega) ?_ | refine Nt.cast ?_ | refine Nt.mk _ rfl ?_ | refine EltN.mk _ rfl ?_ | refine Mx.mk _ rfl ?_ | refine Br.mk (fun _ => ?_) (fun _ => ?_) | refine EndP.mk ?_ trivial | refine EndP.mk ?_ ⟨.inr ⟨List.mem_cons_self .., ?_, rfl⟩, trivial⟩ | refine Ar.i64 (by omega) ?_ | refine Ar.u8 (by omega) ?_ | refine Quo.pos (by omega) ?_ | refine Rem.pos (by omega) ?_ | refine BsP.own ?_ | refine SetN.two ?_ | refine SetN.one ?_ | refine Ob.mk ⟨rfl, rfl⟩ ?_ | refine Ob.mk (flat_i _ _).1 ?_ | refine Ob.mk (flat_i _ _) ?_ | refine Ob.mk (flat_s _) ?_ | refine Ob.mk (by first | omega | (simp; first | done | fail) | (simp; omega)) ?_ | fail
  · conv => whnf
    refine LoopP.mk [0,1,4,5] (fun i : Nat => [(0, .sl (l.map picV)), (1, .sl (l.map picV)), (4, .b false), (5, .i .i64 i)]) (fun i => l.length - i) (fun i => i ≤ l.length) ?_ ?_
    · conv => whnf
      exact ⟨0, by omega, rfl⟩
    · intro i hi
      by_cases hlt : i < l.length
      · have hlt2 := hlt
        have he := sumR_elem picD znPic l hlt
        have f1 := eqPic_w (gt picD l i) (by omega)
        repeat' (conv => whnf); first | refine Elt.gt picD hlt ?_ | refine EltN.gt picD hlt ?_ | refine CallP.rd (f1) rfl rfl rfl rfl ?_ | refine DCall.rd (f1) rfl rfl ?_ | refine Br.tt ?_ | refine Br.ff ?_ | refine Br.not ?_ | refine Br.dand (fun _ => ?_) (fun _ => ?_) | refine Br.dec (fun _ => ?_) (fun _ => ?_) | refine Br.beq (fun _ => ?_) (fun _ => ?_) | refine Br.bne (fun _ => ?_) (fun _ => ?_) | refine Br.seq (fun _ => ?_) (fun _ => ?_) | refine Elt.i (by omega) ?_ | refine EltN.i (by omega) ?_ | refine Nt.cast ?_ | refine Nt.mk _ rfl ?_ | refine EltN.mk _ rfl ?_ | refine Mx.mk _ rfl ?_ | refine Br.mk (fun _ => ?_) (fun _ => ?_) | refine EndP.mk ?_ trivial | refine EndP.mk ?_ ⟨.inr ⟨List.mem_cons_self .., ?_, rfl⟩, trivial⟩ | refine Ar.i64 (by omega) ?_ | refine Ar.u8 (by omega) ?_ | refine Quo.pos (by omega) ?_ | refine Rem.pos (by omega) ?_ | refine BsP.own ?_ | refine SetN.two ?_ | refine SetN.one ?_ | refine Ob.mk ⟨rfl, rfl⟩ ?_ | refine Ob.mk (flat_i _ _).1 ?_ | refine Ob.mk (flat_i _ _) ?_ | refine Ob.mk (flat_s _) ?_ | refine Ob.mk (by first | omega | (simp; first | done | fail) | (simp; omega)) ?_ | fail
        all_goals first
          | (exfalso; omega)
          | rfl
          | (conv => whnf
             exact ⟨i + 1, by omega, by omega, rfl⟩)
      · obtain rfl : i = l.length := by omega
        repeat' (conv => whnf); first | refine Br.tt ?_ | refine Br.ff ?_ | refine Br.not ?_ | refine Br.dand (fun _ => ?_) (fun _ => ?_) | refine Br.dec (fun _ => ?_) (fun _ => ?_) | refine Br.beq (fun _ => ?_) (fun _ => ?_) | refine Br.bne (fun _ => ?_) (fun _ => ?_) | refine Br.seq (fun _ => ?_) (fun _ => ?_) | refine Elt.i (by omega) ?_ | refine EltN.i (by omega) ?_ | refine Nt.cast ?_ | refine Nt.mk _ rfl ?_ | refine EltN.mk _ rfl ?_ | refine Mx.mk _ rfl ?_ | refine Br.mk (fun _ => ?_) (fun _ => ?_) | refine EndP.mk ?_ trivial | refine EndP.mk ?_ ⟨.inr ⟨List.mem_cons_self .., ?_, rfl⟩, trivial⟩ | refine Ar.i64 (by omega) ?_ | refine Ar.u8 (by omega) ?_ | refine Quo.pos (by omega) ?_ | refine Rem.pos (by omega) ?_ | refine BsP.own ?_ | refine SetN.two ?_ | refine SetN.one ?_ | refine Ob.mk ⟨rfl, rfl⟩ ?_ | refine Ob.mk (flat_i _ _).1 ?_ | refine Ob.mk (flat_i _ _) ?_ | refine Ob.mk (flat_s _) ?_ | refine Ob.mk (by first | omega | (simp; first | done | fail) | (simp; omega)) ?_ | fail
        all_goals first
          | (exfalso; omega)
          | rfl
theorem szPicS_w (l : List Pic) (left : Int) (hz : l.length ≤ maxLen) (hf : ∀ x ∈ l, HasPic x) (hl : 0 ≤ left ∧ left ≤ 1048576) : Vow Tryz.prog 135 [.sl (l.map picV), .i .i64 left] (.i .i64 (szL (l.length + sumR picD znPic l l.length) left)) [] := by
  have hm : (l.map picV).length = l.length := by simp
  have hx : maxLen ≤ 9223372036854775807 := by decide
  have c := szL_le (l.length + sumR picD znPic l l.length) left
  refine vow_of_ev (fn := Tryz.f135) [] [(0, 0), (6, 10), (10, 11), (0, 0), (0, 0), (12, 15), (16, 18), (18, 24), (24, 25), (0, 0), (26, 27)] tt_ok Tryz.func135 (by decide) rfl (Nat.le_of_ble_eq_true rfl) rfl rfl rfl ?_
  repeat' (conv => whnf); first | refine Br.tt ?_ | refine Br.ff ?_ | refine Br.not ?_ | refine Br.dand (fun _ => ?_) (fun _ => ?_) | refine Br.dec (fun _ => ?_) (fun _ => ?_) | refine Br.beq (fun _ => ?_) (fun _ => ?_) | refine Br.bne (fun _ => ?_) (fun _ => ?_) | refine Br.seq (fun _ => ?_) (fun _ => ?_) | refine Elt.i (by omega) ?_ | refine EltN.i (by omega) ?_ | refine Nt.cast ?_ | refine Nt.mk _ rfl ?_ | refine EltN.mk _ rfl ?_ | refine Mx.mk _ rfl ?_ | refine Br.mk (fun _ => ?_) (fun _ => ?_) | refine EndP.mk ?_ trivial | refine EndP.mk ?_ ⟨.inr ⟨List.mem_cons_self .., ?_, rfl⟩, trivial⟩ | refine Ar.i64 (by omega) ?_ | refine Ar.u8 (by omega) ?_ | refine Quo.pos (by omega) ?_ | refine Rem.pos (by omega) ?_ | refine BsP.own ?_ | refine SetN.two ?_ | refine SetN.one ?_ | refine Ob.mk ⟨rfl, rfl⟩ ?_ | refine Ob.mk (flat_i _ _).1 ?_ | refine Ob.mk (flat_i _ _) ?_ | refine Ob.mk (flat_s _) ?_ | refine Ob.mk (by first | omega | (simp; first | done | fail) | (simp; omega)) ?_ | fail
  · rw [show szL (l.length + sumR picD znPic l l.length) left = -1 by omega]; rfl
  · conv => whnf
    refine LoopP.mk [0,1,4,5] (fun i : Nat => [(0, .sl (l.map picV)), (1, .i .i64 (left - (l.length : Nat) - (sumR picD znPic l i : Nat))), (4, .i .i64 0), (5, .i .i64 i)]) (fun i => l.length - i) (fun i => i ≤ l.length ∧ 0 ≤ left - (l.length : Nat) - (sumR picD znPic l i : Nat)) ?_ ?_
    · conv => whnf
      refine ⟨0, ⟨by omega, by simp only [sumR]; omega⟩, ?_⟩
      rw [hm, show left - ((l.length : Nat) : Int) - ((sumR picD znPic l 0 : Nat) : Int) = left - ((l.length : Nat) : Int) by simp [sumR]]
      rfl
    · rintro i ⟨hi, hs⟩
      by_cases hlt : i < l.length
      · have he := sumR_elem picD znPic l hlt
        have hst : sumR picD znPic l (i + 1) = sumR picD znPic l i + znPic (gt picD l i) := rfl
        have c3 := szL_le (znPic (gt picD l i)) (left - (l.length : Nat) - (sumR picD znPic l i : Nat))
        have f1 := szPic_w (gt picD l i) (hf _ (gt_mem hlt)) (left - (l.length : Nat) - (sumR picD znPic l i : Nat)) (by omega)
        repeat' (conv => whnf); first | refine Elt.gt picD hlt ?_ | refine EltN.gt picD hlt ?_ | refine CallP.rd (f1) rfl rfl rfl rfl ?_ | refine DCall.rd (f1) rfl rfl ?_ | refine Br.tt ?_ | refine Br.ff ?_ | refine Br.not ?_ | refine Br.dand (fun _ => ?_) (fun _ => ?_) | refine Br.dec (fun _ => ?_) (fun _ => ?_) | refine Br.beq (fun _ => ?_) (fun _ => ?_) | refine Br.bne (fun _ => ?_) (fun _ => ?_) | refine Br.seq (fun _ => ?_) (fun _ => ?_) | refine Elt.i (by omega) ?_ | refine EltN.i (by omega) ?_ | refine Nt.cast ?_ | refine Nt.mk _ rfl ?_ | refine EltN.mk _ rfl ?_ | refine Mx.mk _ rfl ?_ | refine Br.mk (fun _ => ?_) (fun _ => ?_) | refine EndP.mk ?_ trivial | refine EndP.mk ?_ ⟨.inr ⟨List.mem_cons_self .., ?_, rfl⟩, trivial⟩ | refine Ar.i64 (by omega) ?_ | refine Ar.u8 (by omega) ?_ | refine Quo.pos (by omega) ?_ | refine Rem.pos (by omega) ?_ | refine BsP.own ?_ | refine SetN.two ?_ | refine SetN.one ?_ | refine Ob.mk ⟨rfl, rfl⟩ ?_ | refine Ob.mk (flat_i _ _).1 ?_ | refine Ob.mk (flat_i _ _) ?_ | refine Ob.mk (flat_s _) ?_ | refine Ob.mk (by first | omega | (simp; first | done | fail) | (simp; omega)) ?_ | fail
        all_goals first
          | (exfalso; omega)
          | (rw [show szL (l.length + sumR picD znPic l l.length) left = -1 by omega]; rfl)
          | (conv => whnf
             refine ⟨i + 1, ⟨by omega, by omega⟩, by omega, ?_⟩
             rw [show szL (znPic (gt picD l i)) (left - (l.length : Nat) - (sumR picD znPic l i : Nat)) = left - (l.length : Nat) - (sumR picD znPic l (i + 1) : Nat) by omega]
             rfl)
      · obtain rfl : i = l.length := by omega
        repeat' (conv => whnf); first | refine Br.tt ?_ | refine Br.ff ?_ | refine Br.not ?_ | refine Br.dand (fun _ => ?_) (fun _ => ?_) | refine Br.dec (fun _ => ?_) (fun _ => ?_) | refine Br.beq (fun _ => ?_) (fun _ => ?_) | refine Br.bne (fun _ => ?_) (fun _ => ?_) | refine Br.seq (fun _ => ?_) (fun _ => ?_) | refine Elt.i (by omega) ?_ | refine EltN.i (by omega) ?_ | refine Nt.cast ?_ | refine Nt.mk _ rfl ?_ | refine EltN.mk _ rfl ?_ | refine Mx.mk _ rfl ?_ | refine Br.mk (fun _ => ?_) (fun _ => ?_) | refine EndP.mk ?_ trivial | refine EndP.mk ?_ ⟨.inr ⟨List.mem_cons_self .., ?_, rfl⟩, trivial⟩ | refine Ar.i64 (by omega) ?_ | refine Ar.u8 (by omega) ?_ | refine Quo.pos (by omega) ?_ | refine Rem.pos (by omega) ?_ | refine BsP.own ?_ | refine SetN.two ?_ | refine SetN.one ?_ | refine Ob.mk ⟨rfl, rfl⟩ ?_ | refine Ob.mk (flat_i _ _).1 ?_ | refine Ob.mk (flat_i _ _) ?_ | refine Ob.mk (flat_s _) ?_ | refine Ob.mk (by first | omega | (simp; first | done | fail) | (simp; omega)) ?_ | fail
        all_goals first
          | (exfalso; omega)
          | (rw [show szL (l.length + sumR picD znPic l l.length) left = left - (l.length : Nat) - (sumR picD znPic l l.length : Nat) by omega]; rfl)

theorem toRate_w (a : RateD) : Vow Tryz.prog 155 [rateVs a] (rateVs a) [] := by
  refine vow_of_ev (fn := Tryz.f155) [] [(0, 0), (0, 0), (4, 7), (7, 10), (10, 13), (13, 14)] tt_ok Tryz.func155 (by decide) rfl (Nat.le_of_ble_eq_true rfl) rfl rfl rfl ?_
  repeat' (conv => whnf); first | refine Br.tt ?_ | refine Br.ff ?_ | refine Br.not ?_ | refine Br.dand (fun _ => ?_) (fun _ => ?_) | refine Br.dec (fun _ => ?_) (fun _ => ?_) | refine Br.beq (fun _ => ?_) (fun _ => ?_) | refine Br.bne (fun _ => ?_) (fun _ => ?_) | refine Br.seq (fun _ => ?_) (fun _ => ?_) | refine Elt.i (by omega) ?_ | refine EltN.i (by omega) ?_ | refine Nt.cast ?_ | refine Nt.mk _ rfl ?_ | refine EltN.mk _ rfl ?_ | refine Mx.mk _ rfl ?_ | refine Br.mk (fun _ => ?_) (fun _ => ?_) | refine EndP.mk ?_ trivial | refine EndP.mk ?_ ⟨.inr ⟨List.mem_cons_self .., ?_, rfl⟩, trivial⟩ | refine Ar.i64 (by omega) ?_ | refine Ar.u8 (by omega) ?_ | refine Quo.pos (by omega) ?_ | refine Rem.pos (by omega) ?_ | refine BsP.own ?_ | refine SetN.two ?_ | refine SetN.one ?_ | refine Ob.mk ⟨rfl, rfl⟩ ?_ | refine Ob.mk (flat_i _ _).1 ?_ | refine Ob.mk (flat_i _ _) ?_ | refine Ob.mk (flat_s _) ?_ | refine Ob.mk (by first | omega | (simp; first | done | fail) | (simp; omega)) ?_ | fail
  all_goals rfl

theorem eqRate_w (a : RateD) : Vow Tryz.prog 159 [rateVs a, rateVs a] (.b true) [] := by
  refine vow_of_ev (fn := Tryz.f159) [] [(0, 0), (5, 9), (0, 0), (10, 14), (0, 0), (15, 19), (0, 0), (0, 0)] tt_ok Tryz.func159 (by decide) rfl (Nat.le_of_ble_eq_true rfl) rfl rfl rfl ?_
  repeat' (conv => whnf); first | refine Br.ne_self ?_ | refine Br.eq_self ?_ | refine Br.deq ?_ | refine Br.tt ?_ | refine Br.ff ?_ | refine Br.not ?_ | refine Br.dand (fun _ => ?_) (fun _ => ?_) | refine Br.dec (fun _ => ?_) (fun _ => ?_) | refine Br.beq (fun _ => ?_) (fun _ => ?_) | refine Br.bne (fun _ => ?_) (fun _ => ?_) | refine Br.seq (fun _ => ?_) (fun _ => ?_) | refine Elt.i (by omega) ?_ | refine EltN.i (by omega) ?_ | refine Nt.cast ?_ | refine Nt.mk _ rfl ?_ | refine EltN.mk _ rfl ?_ | refine Mx.mk _ rfl ?_ | refine Br.mk (fun _ => ?_) (fun _ => ?_) | refine EndP.mk ?_ trivial | refine EndP.mk ?_ ⟨.inr ⟨List.mem_cons_self .., ?_, rfl⟩, trivial⟩ | refine Ar.i64 (by omega) ?_ | refine Ar.u8 (by omega) ?_ | refine Quo.pos (by omega) ?_ | refine Rem.pos (by omega) ?_ | refine BsP.own ?_ | refine SetN.two ?_ | refine SetN.one ?_ | refine Ob.mk ⟨rfl, rfl⟩ ?_ | refine Ob.mk (flat_i _ _).1 ?_ | refine Ob.mk (flat_i _ _) ?_ | refine Ob.mk (flat_s _) ?_ | refine Ob.mk (by first | omega | (simp; first | done | fail) | (simp; omega)) ?_ | fail
  all_goals rfl

theorem toFly_w (a : FlyD) (h : znFly a ≤ 1000000000) : Vow Tryz.prog 98 [flyVs a] (flyVs a) [] := by
  have ht : znFly a = znPacket a.packet := rfl
  refine vow_of_ev (fn := Tryz.f98) [] [(0, 0), (0, 0), (4, 7), (7, 11), (11, 12)] tt_ok Tryz.func98 (by decide) rfl (Nat.le_of_ble_eq_true rfl) rfl rfl rfl ?_
  repeat' (conv => whnf); first | refine CallP.rd (toPacket_w a.packet (by omega)) rfl rfl rfl rfl ?_ | refine Br.tt ?_ | refine Br.ff ?_ | refine Br.not ?_ | refine Br.dand (fun _ => ?_) (fun _ => ?_) | refine Br.dec (fun _ => ?_) (fun _ => ?_) | refine Br.beq (fun _ => ?_) (fun _ => ?_) | refine Br.bne (fun _ => ?_) (fun _ => ?_) | refine Br.seq (fun _ => ?_) (fun _ => ?_) | refine Elt.i (by omega) ?_ | refine EltN.i (by omega) ?_ | refine Nt.cast ?_ | refine Nt.mk _ rfl ?_ | refine EltN.mk _ rfl ?_ | refine Mx.mk _ rfl ?_ | refine Br.mk (fun _ => ?_) (fun _ => ?_) | refine EndP.mk ?_ trivial | refine EndP.mk ?_ ⟨.inr ⟨List.mem_cons_self .., ?_, rfl⟩, trivial⟩ | refine Ar.i64 (by omega) ?_ | refine Ar.u8 (by omega) ?_ | refine Quo.pos (by omega) ?_ | refine Rem.pos (by omega) ?_ | refine BsP.own ?_ | refine SetN.two ?_ | refine SetN.one ?_ | refine Ob.mk ⟨rfl, rfl⟩ ?_ | refine Ob.mk (flat_i _ _).1 ?_ | refine Ob.mk (flat_i _ _) ?_ | refine Ob.mk (flat_s _) ?_ | refine Ob.mk (by first | omega | (simp; first | done | fail) | (simp; omega)) ?_ | fail
  all_goals rfl

theorem eqFly_w (a : FlyD) (h : znFly a ≤ 1000000000) : Vow Tryz.prog 110 [flyVs a, flyVs a] (.b true) [] := by
  have ht : znFly a = znPacket a.packet := rfl
  refine vow_of_ev (fn := Tryz.f110) [] [(0, 0), (5, 9), (0, 0), (10, 15), (0, 0), (0, 0)] tt_ok Tryz.func110 (by decide) rfl (Nat.le_of_ble_eq_true rfl) rfl rfl rfl ?_
  repeat' (conv => whnf); first | refine Br.ne_self ?_ | refine Br.eq_self ?_ | refine Br.deq ?_ | refine CallP.rd (eqPacket_w a.packet (by omega)) rfl rfl rfl rfl ?_ | refine Br.tt ?_ | refine Br.ff ?_ | refine Br.not ?_ | refine Br.dand (fun _ => ?_) (fun _ => ?_) | refine Br.dec (fun _ => ?_) (fun _ => ?_) | refine Br.beq (fun _ => ?_) (fun _ => ?_) | refine Br.bne (fun _ => ?_) (fun _ => ?_) | refine Br.seq (fun _ => ?_) (fun _ => ?_) | refine Elt.i (by omega) ?_ | refine EltN.i (by omega) ?_ | refine Nt.cast ?_ | refine Nt.mk _ rfl ?_ | refine EltN.mk _ rfl ?_ | refine Mx.mk _ rfl ?_ | refine Br.mk (fun _ => ?_) (fun _ => ?_) | refine EndP.mk ?_ trivial | refine EndP.mk ?_ ⟨.inr ⟨List.mem_cons_self .., ?_, rfl⟩, trivial⟩ | refine Ar.i64 (by omega) ?_ | refine Ar.u8 (by omega) ?_ | refine Quo.pos (by omega) ?_ | refine Rem.pos (by omega) ?_ | refine BsP.own ?_ | refine SetN.two ?_ | refine SetN.one ?_ | refine Ob.mk ⟨rfl, rfl⟩ ?_ | refine Ob.mk (flat_i _ _).1 ?_ | refine Ob.mk (flat_i _ _) ?_ | refine Ob.mk (flat_s _) ?_ | refine Ob.mk (by first | omega | (simp; first | done | fail) | (simp; omega)) ?_ | fail
  all_goals rfl
theorem szFly_w (a : FlyD) (h : HasFly a) (left : Int) (hl : 0 ≤ left ∧ left ≤ 1048576) : Vow Tryz.prog 87 [flyVs a, .i .i64 left] (.i .i64 (szL (znFly a) left)) [] := by
  have ht : znFly a = znPacket a.packet := rfl
  have hm : maxLen ≤ 9223372036854775807 := by decide
  have c := szL_le (znFly a) left
  have c0 := szL_le (znPacket a.packet) (left)
  refine vow_of_ev (fn := Tryz.f87) [] [(0, 0), (5, 9), (9, 10), (0, 0), (11, 12)] tt_ok Tryz.func87 (by decide) rfl (Nat.le_of_ble_eq_true rfl) rfl rfl rfl ?_
  repeat' (conv => whnf); first | refine CallP.rd (szPacket_w a.packet h.packet (left) (by omega)) rfl rfl rfl rfl ?_ | refine Br.tt ?_ | refine Br.ff ?_ | refine Br.not ?_ | refine Br.dand (fun _ => ?_) (fun _ => ?_) | refine Br.dec (fun _ => ?_) (fun _ => ?_) | refine Br.beq (fun _ => ?_) (fun _ => ?_) | refine Br.bne (fun _ => ?_) (fun _ => ?_) | refine Br.seq (fun _ => ?_) (fun _ => ?_) | refine Elt.i (by omega) ?_ | refine EltN.i (by omega) ?_ | refine Nt.cast ?_ | refine Nt.mk _ rfl ?_ | refine EltN.mk _ rfl ?_ | refine Mx.mk _ rfl ?_ | refine Br.mk (fun _ => ?_) (fun _ => ?_) | refine EndP.mk ?_ trivial | refine EndP.mk ?_ ⟨.inr ⟨List.mem_cons_self .., ?_, rfl⟩, trivial⟩ | refine Ar.i64 (by omega) ?_ | refine Ar.u8 (by omega) ?_ | refine Quo.pos (by omega) ?_ | refine Rem.pos (by omega) ?_ | refine BsP.own ?_ | refine SetN.two ?_ | refine SetN.one ?_ | refine Ob.mk ⟨rfl, rfl⟩ ?_ | refine Ob.mk (flat_i _ _).1 ?_ | refine Ob.mk (flat_i _ _) ?_ | refine Ob.mk (flat_s _) ?_ | refine Ob.mk (by first | omega | (simp; first | done | fail) | (simp; omega)) ?_ | fail
  all_goals first
    | (exfalso; omega)
    | (rw [show szL (znFly a) left = -1 by omega]; rfl)
    | (rw [show szL (znFly a) left = szL (znPacket a.packet) (left) by omega]; rfl)

theorem toFlyS_w (l : List FlyD) (h : l.length + sumR flyD znFly l l.length ≤ 1000000000) : Vow Tryz.prog 41 [.sl (l.map flyVs)] (.ow 5 (l.map flyVs)) [] := by
  have hm : (l.map flyVs).length = l.length := by simp
  refine vow_of_ev (fn := Tryz.f41) [] [(0, 0), (5, 8), (0, 0), (8, 11), (12, 14), (14, 22), (22, 23)] tt_ok Tryz.func41 (by decide) rfl (Nat.le_of_ble_eq_true rfl) rfl rfl rfl ?_
  repeat' (conv => whnf); first | refine Br.tt ?_ | refine Br.ff ?_ | refine Br.not ?_ | refine Br.dand (fun _ => ?_) (fun _ => ?_) | refine Br.dec (fun _ => ?_) (fun _ => ?_) | refine Br.beq (fun _ => ?_) (fun _ => ?_) | refine Br.bne (fun _ => ?_) (fun _ => ?_) | refine Br.seq (fun _ => ?_) (fun _ => ?_) | refine Elt.i (by omega) ?_ | refine EltN.i (by omega) ?_ | refine Nt.cast ?_ | refine Nt.mk _ rfl ?_ | refine EltN.mk _ rfl ?_ | refine Mx.mk _ rfl ?_ | refine Br.mk (fun _ => ?_) (fun _ => ?_) | refine EndP.mk ?_ trivial | refine EndP.mk ?_ ⟨.inr ⟨List.mem_cons_self .., ?_, rfl⟩, trivial⟩ | refine Ar.i64 (by omega) ?_ | refine Ar.u8 (by omega) ?_ | refine Quo.pos (by omega) ?_ | refine Rem.pos (by omega) ?_ | refine BsP.own ?_ | refine SetN.two ?_ | refine SetN.one ?_ | refine Ob.mk ⟨rfl, rfl⟩ ?_ | refine Ob.mk (flat_i _ _).1 ?_ | refine Ob.mk (flat_i _ _) ?_ | refine Ob.mk (flat_s _) ?_ | refine Ob.mk (by first | omega | (simp; first | done | fail) | (simp; omega)) ?_ | fail
  · conv => whnf
    refine LoopP.mk [0,2,3,4] (fun i : Nat => [(0, .sl (l.map flyVs)), (2, .nl), (3, .ow 5 (cpR flyVs (.ag [.i .i64 0, .i .i64 0, .b false, .b false, .s []]) l i)), (4, .i .i64 i)]) (fun i => l.length - i) (fun i => i ≤ l.length) ?_ ?_
    · conv => whnf
      refine ⟨0, by omega, ?_⟩
      rw [hm, Int.toNat_natCast, show List.replicate l.length (V.ag [.i .i64 0, .i .i64 0, .b false, .b false, .s []]) = _ from cpR_0 flyVs (.ag [.i .i64 0, .i .i64 0, .b false, .b false, .s []]) l]
      rfl
    · intro i hi
      have hc := cpR_len flyVs (.ag [.i .i64 0, .i .i64 0, .b false, .b false, .s []]) l hi
      by_cases hlt : i < l.length
      · have hcl := cpR_at flyVs (.ag [.i .i64 0, .i .i64 0, .b false, .b false, .s []]) l hlt
        have he := sumR_elem flyD znFly l hlt
        repeat' (conv => whnf); first | refine Elt.gt flyD hlt ?_ | refine EltN.gt flyD hlt ?_ | refine EltN.mk _ hcl ?_ | refine CallP.rd (toFly_w (gt flyD l i) (by omega)) rfl rfl rfl rfl ?_ | refine DCall.rd (toFly_w (gt flyD l i) (by omega)) rfl rfl ?_ | refine Br.tt ?_ | refine Br.ff ?_ | refine Br.not ?_ | refine Br.dand (fun _ => ?_) (fun _ => ?_) | refine Br.dec (fun _ => ?_) (fun _ => ?_) | refine Br.beq (fun _ => ?_) (fun _ => ?_) | refine Br.bne (fun _ => ?_) (fun _ => ?_) | refine Br.seq (fun _ => ?_) (fun _ => ?_) | refine Elt.i (by omega) ?_ | refine EltN.i (by omega) ?_ | refine Nt.cast ?_ | refine Nt.mk _ rfl ?_ | refine EltN.mk _ rfl ?_ | refine Mx.mk _ rfl ?_ | refine Br.mk (fun _ => ?_) (fun _ => ?_) | refine EndP.mk ?_ trivial | refine EndP.mk ?_ ⟨.inr ⟨List.mem_cons_self .., ?_, rfl⟩, trivial⟩ | refine Ar.i64 (by omega) ?_ | refine Ar.u8 (by omega) ?_ | refine Quo.pos (by omega) ?_ | refine Rem.pos (by omega) ?_ | refine BsP.own ?_ | refine SetN.two ?_ | refine SetN.one ?_ | refine Ob.mk ⟨rfl, rfl⟩ ?_ | refine Ob.mk (flat_i _ _).1 ?_ | refine Ob.mk (flat_i _ _) ?_ | refine Ob.mk (flat_s _) ?_ | refine Ob.mk (by first | omega | (simp; first | done | fail) | (simp; omega)) ?_ | fail
        all_goals first
          | (exfalso; omega)
          | (conv => whnf
             refine ⟨i + 1, by omega, by omega, ?_⟩
             rw [← cpR_set flyD flyVs (.ag [.i .i64 0, .i .i64 0, .b false, .b false, .s []]) l hlt]
             rfl)
      · obtain rfl : i = l.length := by omega
        repeat' (conv => whnf); first | refine Br.tt ?_ | refine Br.ff ?_ | refine Br.not ?_ | refine Br.dand (fun _ => ?_) (fun _ => ?_) | refine Br.dec (fun _ => ?_) (fun _ => ?_) | refine Br.beq (fun _ => ?_) (fun _ => ?_) | refine Br.bne (fun _ => ?_) (fun _ => ?_) | refine Br.seq (fun _ => ?_) (fun _ => ?_) | refine Elt.i (by omega) ?_ | refine EltN.i (by omega) ?_ | refine Nt.cast ?_ | refine Nt.mk _ rfl ?_ | refine EltN.mk _ rfl ?_ | refine Mx.mk _ rfl ?_ | refine Br.mk (fun _ => ?_) (fun _ => ?_) | refine EndP.mk ?_ trivial | refine EndP.mk ?_ ⟨.inr ⟨List.mem_cons_self .., ?_, rfl⟩, trivial⟩ | refine Ar.i64 (by omega) ?_ | refine Ar.u8 (by omega) ?_ | refine Quo.pos (by omega) ?_ | refine Rem.pos (by omega) ?_ | refine BsP.own ?_ | refine SetN.two ?_ | refine SetN.one ?_ | refine Ob.mk ⟨rfl, rfl⟩ ?_ | refine Ob.mk (flat_i _ _).1 ?_ | refine Ob.mk (flat_i _ _) ?_ | refine Ob.mk (flat_s _) ?_ | refine Ob.mk (by first | omega | (simp; first | done | fail) | (simp; omega)) ?_ | fail
        all_goals first
          | (exfalso; omega)
          | (rw [cpR_all]; rfl)

theorem eqFlyS_w (l : List FlyD) (h : l.length + sumR flyD znFly l l.length ≤ 1000000000) : Vow Tryz.prog 52 [.sl (l.map flyVs), .sl (l.map flyVs)] (.b true) [] := by
  have hm : (l.map flyVs).length = l.length := by simp
  refine vow_of_ev (fn := Tryz.f52) [] [(0, 0), (6, 10), (0, 0), (0, 0), (11, 14), (15, 17), (17, 26), (0, 0), (0, 0)] tt_ok Tryz.func52 (by decide) rfl (Nat.le_of_ble_eq_true rfl) rfl rfl rfl ?_
  repeat' (conv => whnf); first | refine Br.ne_self ?_ | refine Br.eq_self ?_ | refine Br.deq ?_ | refine Br.tt ?_ | refine Br.ff ?_ | refine Br.not ?_ | refine Br.dand (fun _ => ?_) (fun _ => ?_) | refine Br.dec (fun _ => ?_) (fun _ => ?_) | refine Br.beq (fun _ => ?_) (fun _ => ?_) | refine Br.bne (fun _ => ?_) (fun _ => ?_) | refine Br.seq (fun _ => ?_) (fun _ => ?_) | refine Elt.i (by omega) ?_ | refine EltN.i (by omega) ?_ | refine Nt.cast ?_ | refine Nt.mk _ rfl ?_ | refine EltN.mk _ rfl ?_ | refine Mx.mk _ rfl ?_ | refine Br.mk (fun _ => ?_) (fun _ => ?_) | refine EndP.mk ?_ trivial | refine EndP.mk ?_ ⟨.inr ⟨List.mem_cons_self .., ?_, rfl⟩, trivial⟩ | refine Ar.i64 (by omega) ?_ | refine Ar.u8 (by omega) ?_ | refine Quo.pos (by omega) ?_ | refine Rem.pos (by omega) ?_ | refine BsP.own ?_ | refine SetN.two ?_ | refine SetN.one ?_ | refine Ob.mk ⟨rfl, rfl⟩ ?_ | refine Ob.mk (flat_i _ _).1 ?_ | refine Ob.mk (flat_i _ _) ?_ | refine Ob.mk (flat_s _) ?_ | refine Ob.mk (by first | omega | (simp; first | done | fail) | (simp; omega)) ?_ | fail
  · conv => whnf
    refine LoopP.mk [0,1,4,5] (fun i : Nat => [(0, .sl (l.map flyVs)), (1, .sl (l.map flyVs)), (4, .b false), (5, .i .i64 i)]) (fun i => l.length - i) (fun i => i ≤ l.length) ?_ ?_
    · conv => whnf
      exact ⟨0, by omega, rfl⟩
    · intro i hi
      by_cases hlt : i < l.length
      · have hlt2 := hlt
        have he := sumR_elem flyD znFly l hlt
        have f1 := eqFly_w (gt flyD l i) (by omega)
        repeat' (conv => whnf); first | refine Elt.gt flyD hlt ?_ | refine EltN.gt flyD hlt ?_ | refine CallP.rd (f1) rfl rfl rfl rfl ?_ | refine DCall.rd (f1) rfl rfl ?_ | refine Br.tt ?_ | refine Br.ff ?_ | refine Br.not ?_ | refine Br.dand (fun _ => ?_) (fun _ => ?_) | refine Br.dec (fun _ => ?_) (fun _ => ?_) | refine Br.beq (fun _ => ?_) (fun _ => ?_) | refine Br.bne (fun _ => ?_) (fun _ => ?_) | refine Br.seq (fun _ => ?_) (fun _ => ?_) | refine Elt.i (by omega) ?_ | refine EltN.i (by omega) ?_ | refine Nt.cast ?_ | refine Nt.mk _ rfl ?_ | refine EltN.mk _ rfl ?_ | refine Mx.mk _ rfl ?_ | refine Br.mk (fun _ => ?_) (fun _ => ?_) | refine EndP.mk ?_ trivial | refine EndP.mk ?_ ⟨.inr ⟨List.mem_cons_self .., ?_, rfl⟩, trivial⟩ | refine Ar.i64 (by omega) ?_ | refine Ar.u8 (by omega) ?_ | refine Quo.pos (by omega) ?_ | refine Rem.pos (by omega) ?_ | refine BsP.own ?_ | refine SetN.two ?_ | refine SetN.one ?_ | refine Ob.mk ⟨rfl, rfl⟩ ?_ | refine Ob.mk (flat_i _ _).1 ?_ | refine Ob.mk (flat_i _ _) ?_ | refine Ob.mk (flat_s _) ?_ | refine Ob.mk (by first | omega | (simp; first | done | fail) | (simp; omega)) ?_ | fail
        all_goals first
          | (exfalso; omega)
          | rfl
          | (conv => whnf
             exact ⟨i + 1, by omega, by omega, rfl⟩)
      · obtain rfl : i = l.length := by omega
        repeat' (conv => whnf); first | refine Br.tt ?_ | refine Br.ff ?_ | refine Br.not ?_ | refine Br.dand (fun _ => ?_) (fun _ => ?_) | refine Br.dec (fun _ => ?_) (fun _ => ?_) | refine Br.beq (fun _ => ?_) (fun _ => ?_) | refine Br.bne (fun _ => ?_) (fun _ => ?_) | refine Br.seq (fun _ => ?_) (fun _ => ?_) | refine Elt.i (by omega) ?_ | refine EltN.i (by omega) ?_ | refine Nt.cast ?_ | refine Nt.mk _ rfl ?_ | refine EltN.mk _ rfl ?_ | refine Mx.mk _ rfl ?_ | refine Br.mk (fun _ => ?_) (fun _ => ?_) | refine EndP.mk ?_ trivial | refine EndP.mk ?_ ⟨.inr ⟨List.mem_cons_self .., ?_, rfl⟩, trivial⟩ | refine Ar.i64 (by omega) ?_ | refine Ar.u8 (by omega) ?_ | refine Quo.pos (by omega) ?_ | refine Rem.pos (by omega) ?_ | refine BsP.own ?_ | refine SetN.two ?_ | refine SetN.one ?_ | refine Ob.mk ⟨rfl, rfl⟩ ?_ | refine Ob.mk (flat_i _ _).1 ?_ | refine Ob.mk (flat_i _ _) ?_ | refine Ob.mk (flat_s _) ?_ | refine Ob.mk (by first | omega | (simp; first | done | fail) | (simp; omega)) ?_ | fail
        all_goals first
          | (exfalso; omega)
          | rfl
theorem szFlyS_w (l : List FlyD) (left : Int) (hz : l.length ≤ maxLen) (hf : ∀ x ∈ l, HasFly x) (hl : 0 ≤ left ∧ left ≤ 1048576) : Vow Tryz.prog 31 [.sl (l.map flyVs), .i .i64 left] (.i .i64 (szL (l.length + sumR flyD znFly l l.length) left)) [] := by
  have hm : (l.map flyVs).length = l.length := by simp
  have hx : maxLen ≤ 9223372036854775807 := by decide
  have c := szL_le (l.length + sumR flyD znFly l l.length) left
  refine vow_of_ev (fn := Tryz.f31) [] [(0, 0), (6, 10), (10, 11), (0, 0), (0, 0), (12, 15), (16, 18), (18, 24), (24, 25), (0, 0), (26, 27)] tt_ok Tryz.func31 (by decide) rfl (Nat.le_of_ble_eq_true rfl) rfl rfl rfl ?_
  repeat' (conv => whnf); first | refine Br.tt ?_ | refine Br.ff ?_ | refine Br.not ?_ | refine Br.dand (fun _ => ?_) (fun _ => ?_) | refine Br.dec (fun _ => ?_) (fun _ => ?_) | refine Br.beq (fun _ => ?_) (fun _ => ?_) | refine Br.bne (fun _ => ?_) (fun _ => ?_) | refine Br.seq (fun _ => ?_) (fun _ => ?_) | refine Elt.i (by omega) ?_ | refine EltN.i (by omega) ?_ | refine Nt.cast ?_ | refine Nt.mk _ rfl ?_ | refine EltN.mk _ rfl ?_ | refine Mx.mk _ rfl ?_ | refine Br.mk (fun _ => ?_) (fun _ => ?_) | refine EndP.mk ?_ trivial | refine EndP.mk ?_ ⟨.inr ⟨List.mem_cons_self .., ?_, rfl⟩, trivial⟩ | refine Ar.i64 (by omega) ?_ | refine Ar.u8 (by omega) ?_ | refine Quo.pos (by omega) ?_ | refine Rem.pos (by omega) ?_ | refine BsP.own ?_ | refine SetN.two ?_ | refine SetN.one ?_ | refine Ob.mk ⟨rfl, rfl⟩ ?_ | refine Ob.mk (flat_i _ _).1 ?_ | refine Ob.mk (flat_i _ _) ?_ | refine Ob.mk (flat_s _) ?_ | refine Ob.mk (by first | omega | (simp; first | done | fail) | (simp; omega)) ?_ | fail
  · rw [show szL (l.length + sumR flyD znFly l l.length) left = -1 by omega]; rfl
  · conv => whnf
    refine LoopP.mk [0,1,4,5] (fun i : Nat => [(0, .sl (l.map flyVs)), (1, .i .i64 (left - (l.length : Nat) - (sumR flyD znFly l i : Nat))), (4, .i .i64 0), (5, .i .i64 i)]) (fun i => l.length - i) (fun i => i ≤ l.length ∧ 0 ≤ left - (l.length : Nat) - (sumR flyD znFly l i : Nat)) ?_ ?_
    · conv => whnf
      refine ⟨0, ⟨by omega, by simp only [sumR]; omega⟩, ?_⟩
      rw [hm, show left - ((l.length : Nat) : Int) - ((sumR flyD znFly l 0 : Nat) : Int) = left - ((l.length : Nat) : Int) by simp [sumR]]
      rfl
    · rintro i ⟨hi, hs⟩
      by_cases hlt : i < l.length
      · have he := sumR_elem flyD znFly l hlt
        have hst : sumR flyD znFly l (i + 1) = sumR flyD znFly l i + znFly (gt flyD l i) := rfl
        have c3 := szL_le (znFly (gt flyD l i)) (left - (l.length : Nat) - (sumR flyD znFly l i : Nat))
        have f1 := szFly_w (gt flyD l i) (hf _ (gt_mem hlt)) (left - (l.length : Nat) - (sumR flyD znFly l i : Nat)) (by omega)
        repeat' (conv => whnf); first | refine Elt.gt flyD hlt ?_ | refine EltN.gt flyD hlt ?_ | refine CallP.rd (f1) rfl rfl rfl rfl ?_ | refine DCall.rd (f1) rfl rfl ?_ | refine Br.tt ?_ | refine Br.ff ?_ | refine Br.not ?_ | refine Br.dand (fun _ => ?_) (fun _ => ?_) | refine Br.dec (fun _ => ?_) (fun _ => ?_) | refine Br.beq (fun _ => ?_) (fun _ => ?_) | refine Br.bne (fun _ => ?_) (fun _ => ?_) | refine Br.seq (fun _ => ?_) (fun _ => ?_) | refine Elt.i (by omega) ?_ | refine EltN.i (by omega) ?_ | refine Nt.cast ?_ | refine Nt.mk _ rfl ?_ | refine EltN.mk _ rfl ?_ | refine Mx.mk _ rfl ?_ | refine Br.mk (fun _ => ?_) (fun _ => ?_) | refine EndP.mk ?_ trivial | refine EndP.mk ?_ ⟨.inr ⟨List.mem_cons_self .., ?_, rfl⟩, trivial⟩ | refine Ar.i64 (by omega) ?_ | refine Ar.u8 (by omega) ?_ | refine Quo.pos (by omega) ?_ | refine Rem.pos (by omega) ?_ | refine BsP.own ?_ | refine SetN.two ?_ | refine SetN.one ?_ | refine Ob.mk ⟨rfl, rfl⟩ ?_ | refine Ob.mk (flat_i _ _).1 ?_ | refine Ob.mk (flat_i _ _) ?_ | refine Ob.mk (flat_s _) ?_ | refine Ob.mk (by first | omega | (simp; first | done | fail) | (simp; omega)) ?_ | fail
        all_goals first
          | (exfalso; omega)
          | (rw [show szL (l.length + sumR flyD znFly l l.length) left = -1 by omega]; rfl)
          | (conv => whnf
             refine ⟨i + 1, ⟨by omega, by omega⟩, by omega, ?_⟩
             rw [show szL (znFly (gt flyD l i)) (left - (l.length : Nat) - (sumR flyD znFly l i : Nat)) = left - (l.length : Nat) - (sumR flyD znFly l (i + 1) : Nat) by omega]
             rfl)
      · obtain rfl : i = l.length := by omega
        repeat' (conv => whnf); first | refine Br.tt ?_ | refine Br.ff ?_ | refine Br.not ?_ | refine Br.dand (fun _ => ?_) (fun _ => ?_) | refine Br.dec (fun _ => ?_) (fun _ => ?_) | refine Br.beq (fun _ => ?_) (fun _ => ?_) | refine Br.bne (fun _ => ?_) (fun _ => ?_) | refine Br.seq (fun _ => ?_) (fun _ => ?_) | refine Elt.i (by omega) ?_ | refine EltN.i (by omega) ?_ | refine Nt.cast ?_ | refine Nt.mk _ rfl ?_ | refine EltN.mk _ rfl ?_ | refine Mx.mk _ rfl ?_ | refine Br.mk (fun _ => ?_) (fun _ => ?_) | refine EndP.mk ?_ trivial | refine EndP.mk ?_ ⟨.inr ⟨List.mem_cons_self .., ?_, rfl⟩, trivial⟩ | refine Ar.i64 (by omega) ?_ | refine Ar.u8 (by omega) ?_ | refine Quo.pos (by omega) ?_ | refine Rem.pos (by omega) ?_ | refine BsP.own ?_ | refine SetN.two ?_ | refine SetN.one ?_ | refine Ob.mk ⟨rfl, rfl⟩ ?_ | refine Ob.mk (flat_i _ _).1 ?_ | refine Ob.mk (flat_i _ _) ?_ | refine Ob.mk (flat_s _) ?_ | refine Ob.mk (by first | omega | (simp; first | done | fail) | (simp; omega)) ?_ | fail
        all_goals first
          | (exfalso; omega)
          | (rw [show szL (l.length + sumR flyD znFly l l.length) left = left - (l.length : Nat) - (sumR flyD znFly l l.length : Nat) by omega]; rfl)

theorem toPart_w (a : PartD) (h : znPart a ≤ 1000000000) : Vow Tryz.prog 139 [partVs a] (partVs a) [] := by
  have ht : znPart a = a.row.length := rfl
  refine vow_of_ev (fn := Tryz.f139) [] [(0, 0), (0, 0), (4, 7), (7, 10), (10, 13), (13, 14)] tt_ok Tryz.func139 (by decide) rfl (Nat.le_of_ble_eq_true rfl) rfl rfl rfl ?_
  repeat' (conv => whnf); first | refine Br.tt ?_ | refine Br.ff ?_ | refine Br.not ?_ | refine Br.dand (fun _ => ?_) (fun _ => ?_) | refine Br.dec (fun _ => ?_) (fun _ => ?_) | refine Br.beq (fun _ => ?_) (fun _ => ?_) | refine Br.bne (fun _ => ?_) (fun _ => ?_) | refine Br.seq (fun _ => ?_) (fun _ => ?_) | refine Elt.i (by omega) ?_ | refine EltN.i (by omega) ?_ | refine Nt.cast ?_ | refine Nt.mk _ rfl ?_ | refine EltN.mk _ rfl ?_ | refine Mx.mk _ rfl ?_ | refine Br.mk (fun _ => ?_) (fun _ => ?_) | refine EndP.mk ?_ trivial | refine EndP.mk ?_ ⟨.inr ⟨List.mem_cons_self .., ?_, rfl⟩, trivial⟩ | refine Ar.i64 (by omega) ?_ | refine Ar.u8 (by omega) ?_ | refine Quo.pos (by omega) ?_ | refine Rem.pos (by omega) ?_ | refine BsP.own ?_ | refine SetN.two ?_ | refine SetN.one ?_ | refine Ob.mk ⟨rfl, rfl⟩ ?_ | refine Ob.mk (flat_i _ _).1 ?_ | refine Ob.mk (flat_i _ _) ?_ | refine Ob.mk (flat_s _) ?_ | refine Ob.mk (by first | omega | (simp; first | done | fail) | (simp; omega)) ?_ | fail
  all_goals rfl

theorem eqPart_w (a : PartD) (h : znPart a ≤ 1000000000) : Vow Tryz.prog 146 [partVs a, partVs a] (.b true) [] := by
  have ht : znPart a = a.row.length := rfl
  refine vow_of_ev (fn := Tryz.f146) [] [(0, 0), (5, 9), (0, 0), (10, 14), (0, 0), (15, 19), (0, 0), (0, 0)] tt_ok Tryz.func146 (by decide) rfl (Nat.le_of_ble_eq_true rfl) rfl rfl rfl ?_
  repeat' (conv => whnf); first | refine Br.ne_self ?_ | refine Br.eq_self ?_ | refine Br.deq ?_ | refine Br.tt ?_ | refine Br.ff ?_ | refine Br.not ?_ | refine Br.dand (fun _ => ?_) (fun _ => ?_) | refine Br.dec (fun _ => ?_) (fun _ => ?_) | refine Br.beq (fun _ => ?_) (fun _ => ?_) | refine Br.bne (fun _ => ?_) (fun _ => ?_) | refine Br.seq (fun _ => ?_) (fun _ => ?_) | refine Elt.i (by omega) ?_ | refine EltN.i (by omega) ?_ | refine Nt.cast ?_ | refine Nt.mk _ rfl ?_ | refine EltN.mk _ rfl ?_ | refine Mx.mk _ rfl ?_ | refine Br.mk (fun _ => ?_) (fun _ => ?_) | refine EndP.mk ?_ trivial | refine EndP.mk ?_ ⟨.inr ⟨List.mem_cons_self .., ?_, rfl⟩, trivial⟩ | refine Ar.i64 (by omega) ?_ | refine Ar.u8 (by omega) ?_ | refine Quo.pos (by omega) ?_ | refine Rem.pos (by omega) ?_ | refine BsP.own ?_ | refine SetN.two ?_ | refine SetN.one ?_ | refine Ob.mk ⟨rfl, rfl⟩ ?_ | refine Ob.mk (flat_i _ _).1 ?_ | refine Ob.mk (flat_i _ _) ?_ | refine Ob.mk (flat_s _) ?_ | refine Ob.mk (by first | omega | (simp; first | done | fail) | (simp; omega)) ?_ | fail
  all_goals rfl
theorem szPart_w (a : PartD) (h : HasPart a) (left : Int) (hl : 0 ≤ left ∧ left ≤ 1048576) : Vow Tryz.prog 132 [partVs a, .i .i64 left] (.i .i64 (szL (znPart a) left)) [] := by
  have ht : znPart a = a.row.length := rfl
  have hm : maxLen ≤ 9223372036854775807 := by decide
  have c := szL_le (znPart a) left
  have b0 := h.row
  refine vow_of_ev (fn := Tryz.f132) [] [(0, 0), (5, 10), (10, 11), (0, 0), (12, 13)] tt_ok Tryz.func132 (by decide) rfl (Nat.le_of_ble_eq_true rfl) rfl rfl rfl ?_
  repeat' (conv => whnf); first | refine Br.tt ?_ | refine Br.ff ?_ | refine Br.not ?_ | refine Br.dand (fun _ => ?_) (fun _ => ?_) | refine Br.dec (fun _ => ?_) (fun _ => ?_) | refine Br.beq (fun _ => ?_) (fun _ => ?_) | refine Br.bne (fun _ => ?_) (fun _ => ?_) | refine Br.seq (fun _ => ?_) (fun _ => ?_) | refine Elt.i (by omega) ?_ | refine EltN.i (by omega) ?_ | refine Nt.cast ?_ | refine Nt.mk _ rfl ?_ | refine EltN.mk _ rfl ?_ | refine Mx.mk _ rfl ?_ | refine Br.mk (fun _ => ?_) (fun _ => ?_) | refine EndP.mk ?_ trivial | refine EndP.mk ?_ ⟨.inr ⟨List.mem_cons_self .., ?_, rfl⟩, trivial⟩ | refine Ar.i64 (by omega) ?_ | refine Ar.u8 (by omega) ?_ | refine Quo.pos (by omega) ?_ | refine Rem.pos (by omega) ?_ | refine BsP.own ?_ | refine SetN.two ?_ | refine SetN.one ?_ | refine Ob.mk ⟨rfl, rfl⟩ ?_ | refine Ob.mk (flat_i _ _).1 ?_ | refine Ob.mk (flat_i _ _) ?_ | refine Ob.mk (flat_s _) ?_ | refine Ob.mk (by first | omega | (simp; first | done | fail) | (simp; omega)) ?_ | fail
  all_goals first
    | (exfalso; omega)
    | (rw [show szL (znPart a) left = -1 by omega]; rfl)
    | (rw [show szL (znPart a) left = left - (a.row.length : Nat) by omega]; rfl)

theorem toSight_w (a : SightD) (h : znSight a ≤ 1000000000) : Vow Tryz.prog 101 [sightVs a] (sightVs a) [] := by
  have ht : znSight a = znPart a.part + znPic a.pic := rfl
  refine vow_of_ev (fn := Tryz.f101) [] [(0, 0), (0, 0), (4, 7), (7, 10), (10, 14), (14, 18), (18, 19)] tt_ok Tryz.func101 (by decide) rfl (Nat.le_of_ble_eq_true rfl) rfl rfl rfl ?_
  repeat' (conv => whnf); first | refine CallP.rd (toPart_w a.part (by omega)) rfl rfl rfl rfl ?_ | refine CallP.rd (toPic_w a.pic (by omega)) rfl rfl rfl rfl ?_ | refine Br.tt ?_ | refine Br.ff ?_ | refine Br.not ?_ | refine Br.dand (fun _ => ?_) (fun _ => ?_) | refine Br.dec (fun _ => ?_) (fun _ => ?_) | refine Br.beq (fun _ => ?_) (fun _ => ?_) | refine Br.bne (fun _ => ?_) (fun _ => ?_) | refine Br.seq (fun _ => ?_) (fun _ => ?_) | refine Elt.i (by omega) ?_ | refine EltN.i (by omega) ?_ | refine Nt.cast ?_ | refine Nt.mk _ rfl ?_ | refine EltN.mk _ rfl ?_ | refine Mx.mk _ rfl ?_ | refine Br.mk (fun _ => ?_) (fun _ => ?_) | refine EndP.mk ?_ trivial | refine EndP.mk ?_ ⟨.inr ⟨List.mem_cons_self .., ?_, rfl⟩, trivial⟩ | refine Ar.i64 (by omega) ?_ | refine Ar.u8 (by omega) ?_ | refine Quo.pos (by omega) ?_ | refine Rem.pos (by omega) ?_ | refine BsP.own ?_ | refine SetN.two ?_ | refine SetN.one ?_ | refine Ob.mk ⟨rfl, rfl⟩ ?_ | refine Ob.mk (flat_i _ _).1 ?_ | refine Ob.mk (flat_i _ _) ?_ | refine Ob.mk (flat_s _) ?_ | refine Ob.mk (by first | omega | (simp; first | done | fail) | (simp; omega)) ?_ | fail
  all_goals rfl

theorem eqSight_w (a : SightD) (h : znSight a ≤ 1000000000) : Vow Tryz.prog 112 [sightVs a, sightVs a] (.b true) [] := by
  have ht : znSight a = znPart a.part + znPic a.pic := rfl
  refine vow_of_ev (fn := Tryz.f112) [] [(0, 0), (5, 9), (0, 0), (10, 14), (0, 0), (15, 20), (0, 0), (21, 26), (0, 0), (0, 0)] tt_ok Tryz.func112 (by decide) rfl (Nat.le_of_ble_eq_true rfl) rfl rfl rfl ?_
  repeat' (conv => whnf); first | refine Br.ne_self ?_ | refine Br.eq_self ?_ | refine Br.deq ?_ | refine CallP.rd (eqPart_w a.part (by omega)) rfl rfl rfl rfl ?_ | refine CallP.rd (eqPic_w a.pic (by omega)) rfl rfl rfl rfl ?_ | refine Br.tt ?_ | refine Br.ff ?_ | refine Br.not ?_ | refine Br.dand (fun _ => ?_) (fun _ => ?_) | refine Br.dec (fun _ => ?_) (fun _ => ?_) | refine Br.beq (fun _ => ?_) (fun _ => ?_) | refine Br.bne (fun _ => ?_) (fun _ => ?_) | refine Br.seq (fun _ => ?_) (fun _ => ?_) | refine Elt.i (by omega) ?_ | refine EltN.i (by omega) ?_ | refine Nt.cast ?_ | refine Nt.mk _ rfl ?_ | refine EltN.mk _ rfl ?_ | refine Mx.mk _ rfl ?_ | refine Br.mk (fun _ => ?_) (fun _ => ?_) | refine EndP.mk ?_ trivial | refine EndP.mk ?_ ⟨.inr ⟨List.mem_cons_self .., ?_, rfl⟩, trivial⟩ | refine Ar.i64 (by omega) ?_ | refine Ar.u8 (by omega) ?_ | refine Quo.pos (by omega) ?_ | refine Rem.pos (by omega) ?_ | refine BsP.own ?_ | refine SetN.two ?_ | refine SetN.one ?_ | refine Ob.mk ⟨rfl, rfl⟩ ?_ | refine Ob.mk (flat_i _ _).1 ?_ | refine Ob.mk (flat_i _ _) ?_ | refine Ob.mk (flat_s _) ?_ | refine Ob.mk (by first | omega | (simp; first | done | fail) | (simp; omega)) ?_ | fail
  all_goals rfl
theorem szSight_w (a : SightD) (h : HasSight a) (left : Int) (hl : 0 ≤ left ∧ left ≤ 1048576) : Vow Tryz.prog 90 [sightVs a, .i .i64 left] (.i .i64 (szL (znSight a) left)) [] := by
  have ht : znSight a = znPart a.part + znPic a.pic := rfl
  have hm : maxLen ≤ 9223372036854775807 := by decide
  have c := szL_le (znSight a) left
  have c0 := szL_le (znPart a.part) (left)
  have c1 := szL_le (znPic a.pic) (szL (znPart a.part) (left))
  refine vow_of_ev (fn := Tryz.f90) [] [(0, 0), (5, 9), (9, 10), (0, 0), (11, 15), (15, 16), (0, 0), (17, 18)] tt_ok Tryz.func90 (by decide) rfl (Nat.le_of_ble_eq_true rfl) rfl rfl rfl ?_
  repeat' (conv => whnf); first | refine CallP.rd (szPart_w a.part h.part (left) (by omega)) rfl rfl rfl rfl ?_ | refine CallP.rd (szPic_w a.pic h.pic (szL (znPart a.part) (left)) (by omega)) rfl rfl rfl rfl ?_ | refine Br.tt ?_ | refine Br.ff ?_ | refine Br.not ?_ | refine Br.dand (fun _ => ?_) (fun _ => ?_) | refine Br.dec (fun _ => ?_) (fun _ => ?_) | refine Br.beq (fun _ => ?_) (fun _ => ?_) | refine Br.bne (fun _ => ?_) (fun _ => ?_) | refine Br.seq (fun _ => ?_) (fun _ => ?_) | refine Elt.i (by omega) ?_ | refine EltN.i (by omega) ?_ | refine Nt.cast ?_ | refine Nt.mk _ rfl ?_ | refine EltN.mk _ rfl ?_ | refine Mx.mk _ rfl ?_ | refine Br.mk (fun _ => ?_) (fun _ => ?_) | refine EndP.mk ?_ trivial | refine EndP.mk ?_ ⟨.inr ⟨List.mem_cons_self .., ?_, rfl⟩, trivial⟩ | refine Ar.i64 (by omega) ?_ | refine Ar.u8 (by omega) ?_ | refine Quo.pos (by omega) ?_ | refine Rem.pos (by omega) ?_ | refine BsP.own ?_ | refine SetN.two ?_ | refine SetN.one ?_ | refine Ob.mk ⟨rfl, rfl⟩ ?_ | refine Ob.mk (flat_i _ _).1 ?_ | refine Ob.mk (flat_i _ _) ?_ | refine Ob.mk (flat_s _) ?_ | refine Ob.mk (by first | omega | (simp; first | done | fail) | (simp; omega)) ?_ | fail
  all_goals first
    | (exfalso; omega)
    | (rw [show szL (znSight a) left = -1 by omega]; rfl)
    | (rw [show szL (znSight a) left = szL (znPic a.pic) (szL (znPart a.part) (left)) by omega]; rfl)

set_option maxHeartbeats 40000000 in
theorem toSightS_w (l : List SightD) (h : l.length + sumR sightD znSight l l.length ≤ 1000000000) : Vow Tryz.prog 44 [.sl (l.map sightVs)] (.ow 8 (l.map sightVs)) [] := by
  have hm : (l.map sightVs).length = l.length := by simp
  refine vow_of_ev (fn := Tryz.f44) [] [(0, 0), (5, 8), (0, 0), (8, 11), (12, 14), (14, 22), (22, 23)] tt_ok Tryz.func44 (by decide) rfl (Nat.le_of_ble_eq_true rfl) rfl rfl rfl ?_
  repeat' (conv => whnf); first | refine Br.tt ?_ | refine Br.ff ?_ | refine Br.not ?_ | refine Br.dand (fun _ => ?_) (fun _ => ?_) | refine Br.dec (fun _ => ?_) (fun _ => ?_) | refine Br.beq (fun _ => ?_) (fun _ => ?_) | refine Br.bne (fun _ => ?_) (fun _ => ?_) | refine Br.seq (fun _ => ?_) (fun _ => ?_) | refine Elt.i (by omega) ?_ | refine EltN.i (by omega) ?_ | refine Nt.cast ?_ | refine Nt.mk _ rfl ?_ | refine EltN.mk _ rfl ?_ | refine Mx.mk _ rfl ?_ | refine Br.mk (fun _ => ?_) (fun _ => ?_) | refine EndP.mk ?_ trivial | refine EndP.mk ?_ ⟨.inr ⟨List.mem_cons_self .., ?_, rfl⟩, trivial⟩ | refine Ar.i64 (by omega) ?_ | refine Ar.u8 (by omega) ?_ | refine Quo.pos (by omega) ?_ | refine Rem.pos (by omega) ?_ | refine BsP.own ?_ | refine SetN.two ?_ | refine SetN.one ?_ | refine Ob.mk ⟨rfl, rfl⟩ ?_ | refine Ob.mk (flat_i _ _).1 ?_ | refine Ob.mk (flat_i _ _) ?_ | refine Ob.mk (flat_s _) ?_ | refine Ob.mk (by first | omega | (simp; first | done | fail) | (simp; omega)) ?_ | fail
  · conv => whnf
    refine LoopP.mk [0,2,3,4] (fun i : Nat => [(0, .sl (l.map sightVs)), (2, .nl), (3, .ow 8 (cpR sightVs (.ag [.i .i64 0, .i .i64 0, .b false, .i .i64 0, .s [], .i .i64 0, .i .i64 0, .s []]) l i)), (4, .i .i64 i)]) (fun i => l.length - i) (fun i => i ≤ l.length) ?_ ?_
    · conv => whnf
      refine ⟨0, by omega, ?_⟩
      rw [hm, Int.toNat_natCast, show List.replicate l.length (V.ag [.i .i64 0, .i .i64 0, .b false, .i .i64 0, .s [], .i .i64 0, .i .i64 0, .s []]) = _ from cpR_0 sightVs (.ag [.i .i64 0, .i .i64 0, .b false, .i .i64 0, .s [], .i .i64 0, .i .i64 0, .s []]) l]
      rfl
    · intro i hi
      have hc := cpR_len sightVs (.ag [.i .i64 0, .i .i64 0, .b false, .i .i64 0, .s [], .i .i64 0, .i .i64 0, .s []]) l hi
      by_cases hlt : i < l.length
      · have hcl := cpR_at sightVs (.ag [.i .i64 0, .i .i64 0, .b false, .i .i64 0, .s [], .i .i64 0, .i .i64 0, .s []]) l hlt
        have he := sumR_elem sightD znSight l hlt
        repeat' (conv => whnf); first | refine Elt.gt sightD hlt ?_ | refine EltN.gt sightD hlt ?_ | refine EltN.mk _ hcl ?_ | refine CallP.rd (toSight_w (gt sightD l i) (by omega)) rfl rfl rfl rfl ?_ | refine DCall.rd (toSight_w (gt sightD l i) (by omega)) rfl rfl ?_ | refine Br.tt ?_ | refine Br.ff ?_ | refine Br.not ?_ | refine Br.dand (fun _ => ?_) (fun _ => ?_) | refine Br.dec (fun _ => ?_) (fun _ => ?_) | refine Br.beq (fun _ => ?_) (fun _ => ?_) | refine Br.bne (fun _ => ?_) (fun _ => ?_) | refine Br.seq (fun _ => ?_) (fun _ => ?_) | refine Elt.i (by omega) ?_ | refine EltN.i (by omega) ?_ | refine Nt.cast ?_ | refine Nt.mk _ rfl ?_ | refine EltN.mk _ rfl ?_ | refine Mx.mk _ rfl ?_ | refine Br.mk (fun _ => ?_) (fun _ => ?_) | refine EndP.mk ?_ trivial | refine EndP.mk ?_ ⟨.inr ⟨List.mem_cons_self .., ?_, rfl⟩, trivial⟩ | refine Ar.i64 (by omega) ?_ | refine Ar.u8 (by omega) ?_ | refine Quo.pos (by omega) ?_ | refine Rem.pos (by omega) ?_ | refine BsP.own ?_ | refine SetN.two ?_ | refine SetN.one ?_ | refine Ob.mk ⟨rfl, rfl⟩ ?_ | refine Ob.mk (flat_i _ _).1 ?_ | refine Ob.mk (flat_i _ _) ?_ | refine Ob.mk (flat_s _) ?_ | refine Ob.mk (by first | omega | (simp; first | done | fail) | (simp; omega)) ?_ | fail
        all_goals first
          | (exfalso; omega)
          | (conv => whnf
             refine ⟨i + 1, by omega, by omega, ?_⟩
             rw [← cpR_set sightD sightVs (.ag [.i .i64 0, .i .i64 0, .b false, .i .i64 0, .s [], .i .i64 0, .i .i64 0, .s []]) l hlt]
             rfl)
      · obtain rfl : i = l.length := by omega
        repeat' (conv => whnf); first | refine Br.tt ?_ | refine Br.ff ?_ | refine Br.not ?_ | refine Br.dand (fun _ => ?_) (fun _ => ?_) | refine Br.dec (fun _ => ?_) (fun _ => ?_) | refine Br.beq (fun _ => ?_) (fun _ => ?_) | refine Br.bne (fun _ => ?_) (fun _ => ?_) | refine Br.seq (fun _ => ?_) (fun _ => ?_) | refine Elt.i (by omega) ?_ | refine EltN.i (by omega) ?_ | refine Nt.cast ?_ | refine Nt.mk _ rfl ?_ | refine EltN.mk _ rfl ?_ | refine Mx.mk _ rfl ?_ | refine Br.mk (fun _ => ?_) (fun _ => ?_) | refine EndP.mk ?_ trivial | refine EndP.mk ?_ ⟨.inr ⟨List.mem_cons_self .., ?_, rfl⟩, trivial⟩ | refine Ar.i64 (by omega) ?_ | refine Ar.u8 (by omega) ?_ | refine Quo.pos (by omega) ?_ | refine Rem.pos (by omega) ?_ | refine BsP.own ?_ | refine SetN.two ?_ | refine SetN.one ?_ | refine Ob.mk ⟨rfl, rfl⟩ ?_ | refine Ob.mk (flat_i _ _).1 ?_ | refine Ob.mk (flat_i _ _) ?_ | refine Ob.mk (flat_s _) ?_ | refine Ob.mk (by first | omega | (simp; first | done | fail) | (simp; omega)) ?_ | fail
        all_goals first
          | (exfalso; omega)
          | (rw [cpR_all]; rfl)

set_option maxHeartbeats 40000000 in
theorem eqSightS_w (l : List SightD) (h : l.length + sumR sightD znSight l l.length ≤ 1000000000) : Vow Tryz.prog 55 [.sl (l.map sightVs), .sl (l.map sightVs)] (.b true) [] := by
  have hm : (l.map sightVs).length = l.length := by simp
  refine vow_of_ev (fn := Tryz.f55) [] [(0, 0), (6, 10), (0, 0), (0, 0), (11, 14), (15, 17), (17, 26), (0, 0), (0, 0)] tt_ok Tryz.func55 (by decide) rfl (Nat.le_of_ble_eq_true rfl) rfl rfl rfl ?_
  repeat' (conv => whnf); first | refine Br.ne_self ?_ | refine Br.eq_self ?_ | refine Br.deq ?_ | refine Br.tt ?_ | refine Br.ff ?_ | refine Br.not ?_ | refine Br.dand (fun _ => ?_) (fun _ => ?_) | refine Br.dec (fun _ => ?_) (fun _ => ?_) | refine Br.beq (fun _ => ?_) (fun _ => ?_) | refine Br.bne (fun _ => ?_) (fun _ => ?_) | refine Br.seq (fun _ => ?_) (fun _ => ?_) | refine Elt.i (by omega) ?_ | refine EltN.i (by omega) ?_ | refine Nt.cast ?_ | refine Nt.mk _ rfl ?_ | refine EltN.mk _ rfl ?_ | refine Mx.mk _ rfl ?_ | refine Br.mk (fun _ => ?_) (fun _ => ?_) | refine EndP.mk ?_ trivial | refine EndP.mk ?_ ⟨.inr ⟨List.mem_cons_self .., ?_, rfl⟩, trivial⟩ | refine Ar.i64 (by omega) ?_ | refine Ar.u8 (by omega) ?_ | refine Quo.pos (by omega) ?_ | refine Rem.pos (by omega) ?_ | refine BsP.own ?_ | refine SetN.two ?_ | refine SetN.one ?_ | refine Ob.mk ⟨rfl, rfl⟩ ?_ | refine Ob.mk (flat_i _ _).1 ?_ | refine Ob.mk (flat_i _ _) ?_ | refine Ob.mk (flat_s _) ?_ | refine Ob.mk (by first | omega | (simp; first | done | fail) | (simp; omega)) ?_ | fail
  · conv => whnf
    refine LoopP.mk [0,1,4,5] (fun i : Nat => [(0, .sl (l.map sightVs)), (1, .sl (l.map sightVs)), (4, .b false), (5, .i .i64 i)]) (fun i => l.length - i) (fun i => i ≤ l.length) ?_ ?_
    · conv => whnf
      exact ⟨0, by omega, rfl⟩
    · intro i hi
      by_cases hlt : i < l.length
      · have hlt2 := hlt
        have he := sumR_elem sightD znSight l hlt
        have f1 := eqSight_w (gt sightD l i) (by omega)
        repeat' (conv => whnf); first | refine Elt.gt sightD hlt ?_ | refine EltN.gt sightD hlt ?_ | refine CallP.rd (f1) rfl rfl rfl rfl ?_ | refine DCall.rd (f1) rfl rfl ?_ | refine Br.tt ?_ | refine Br.ff ?_ | refine Br.not ?_ | refine Br.dand (fun _ => ?_) (fun _ => ?_) | refine Br.dec (fun _ => ?_) (fun _ => ?_) | refine Br.beq (fun _ => ?_) (fun _ => ?_) | refine Br.bne (fun _ => ?_) (fun _ => ?_) | refine Br.seq (fun _ => ?_) (fun _ => ?_) | refine Elt.i (by omega) ?_ | refine EltN.i (by omega) ?_ | refine Nt.cast ?_ | refine Nt.mk _ rfl ?_ | refine EltN.mk _ rfl ?_ | refine Mx.mk _ rfl ?_ | refine Br.mk (fun _ => ?_) (fun _ => ?_) | refine EndP.mk ?_ trivial | refine EndP.mk ?_ ⟨.inr ⟨List.mem_cons_self .., ?_, rfl⟩, trivial⟩ | refine Ar.i64 (by omega) ?_ | refine Ar.u8 (by omega) ?_ | refine Quo.pos (by omega) ?_ | refine Rem.pos (by omega) ?_ | refine BsP.own ?_ | refine SetN.two ?_ | refine SetN.one ?_ | refine Ob.mk ⟨rfl, rfl⟩ ?_ | refine Ob.mk (flat_i _ _).1 ?_ | refine Ob.mk (flat_i _ _) ?_ | refine Ob.mk (flat_s _) ?_ | refine Ob.mk (by first | omega | (simp; first | done | fail) | (simp; omega)) ?_ | fail
        all_goals first
          | (exfalso; omega)
          | rfl
          | (conv => whnf
             exact ⟨i + 1, by omega, by omega, rfl⟩)
      · obtain rfl : i = l.length := by omega
        repeat' (conv => whnf); first | refine Br.tt ?_ | refine Br.ff ?_ | refine Br.not ?_ | refine Br.dand (fun _ => ?_) (fun _ => ?_) | refine Br.dec (fun _ => ?_) (fun _ => ?_) | refine Br.beq (fun _ => ?_) (fun _ => ?_) | refine Br.bne (fun _ => ?_) (fun _ => ?_) | refine Br.seq (fun _ => ?_) (fun _ => ?_) | refine Elt.i (by omega) ?_ | refine EltN.i (by omega) ?_ | refine Nt.cast ?_ | refine Nt.mk _ rfl ?_ | refine EltN.mk _ rfl ?_ | refine Mx.mk _ rfl ?_ | refine Br.mk (fun _ => ?_) (fun _ => ?_) | refine EndP.mk ?_ trivial | refine EndP.mk ?_ ⟨.inr ⟨List.mem_cons_self .., ?_, rfl⟩, trivial⟩ | refine Ar.i64 (by omega) ?_ | refine Ar.u8 (by omega) ?_ | refine Quo.pos (by omega) ?_ | refine Rem.pos (by omega) ?_ | refine BsP.own ?_ | refine SetN.two ?_ | refine SetN.one ?_ | refine Ob.mk ⟨rfl, rfl⟩ ?_ | refine Ob.mk (flat_i _ _).1 ?_ | refine Ob.mk (flat_i _ _) ?_ | refine Ob.mk (flat_s _) ?_ | refine Ob.mk (by first | omega | (simp; first | done | fail) | (simp; omega)) ?_ | fail
        all_goals first
          | (exfalso; omega)
          | rfl
set_option maxHeartbeats 40000000 in
theorem szSightS_w (l : List SightD) (left : Int) (hz : l.length ≤ maxLen) (hf : ∀ x ∈ l, HasSight x) (hl : 0 ≤ left ∧ left ≤ 1048576) : Vow Tryz.prog 34 [.sl (l.map sightVs), .i .i64 left] (.i .i64 (szL (l.length + sumR sightD znSight l l.length) left)) [] := by
  have hm : (l.map sightVs).length = l.length := by simp
  have hx : maxLen ≤ 9223372036854775807 := by decide
  have c := szL_le (l.length + sumR sightD znSight l l.length) left
  refine vow_of_ev (fn := Tryz.f34) [] [(0, 0), (6, 10), (10, 11), (0, 0), (0, 0), (12, 15), (16, 18), (18, 24), (24, 25), (0, 0), (26, 27)] tt_ok Tryz.func34 (by decide) rfl (Nat.le_of_ble_eq_true rfl) rfl rfl rfl ?_
  repeat' (conv => whnf); first | refine Br.tt ?_ | refine Br.ff ?_ | refine Br.not ?_ | refine Br.dand (fun _ => ?_) (fun _ => ?_) | refine Br.dec (fun _ => ?_) (fun _ => ?_) | refine Br.beq (fun _ => ?_) (fun _ => ?_) | refine Br.bne (fun _ => ?_) (fun _ => ?_) | refine Br.seq (fun _ => ?_) (fun _ => ?_) | refine Elt.i (by omega) ?_ | refine EltN.i (by omega) ?_ | refine Nt.cast ?_ | refine Nt.mk _ rfl ?_ | refine EltN.mk _ rfl ?_ | refine Mx.mk _ rfl ?_ | refine Br.mk (fun _ => ?_) (fun _ => ?_) | refine EndP.mk ?_ trivial | refine EndP.mk ?_ ⟨.inr ⟨List.mem_cons_self .., ?_, rfl⟩, trivial⟩ | refine Ar.i64 (by omega) ?_ | refine Ar.u8 (by omega) ?_ | refine Quo.pos (by omega) ?_ | refine Rem.pos (by omega) ?_ | refine BsP.own ?_ | refine SetN.two ?_ | refine SetN.one ?_ | refine Ob.mk ⟨rfl, rfl⟩ ?_ | refine Ob.mk (flat_i _ _).1 ?_ | refine Ob.mk (flat_i _ _) ?_ | refine Ob.mk (flat_s _) ?_ | refine Ob.mk (by first | omega | (simp; first | done | fail) | (simp; omega)) ?_ | fail
  · rw [show szL (l.length + sumR sightD znSight l l.length) left = -1 by omega]; rfl
  · conv => whnf
    refine LoopP.mk [0,1,4,5] (fun i : Nat => [(0, .sl (l.map sightVs)), (1, .i .i64 (left - (l.length : Nat) - (sumR sightD znSight l i : Nat))), (4, .i .i64 0), (5, .i .i64 i)]) (fun i => l.length - i) (fun i => i ≤ l.length ∧ 0 ≤ left - (l.length : Nat) - (sumR sightD znSight l i : Nat)) ?_ ?_
    · conv => whnf
      refine ⟨0, ⟨by omega, by simp only [sumR]; omega⟩, ?_⟩
      rw [hm, show left - ((l.length : Nat) : Int) - ((sumR sightD znSight l 0 : Nat) : Int) = left - ((l.length : Nat) : Int) by simp [sumR]]
      rfl
    · rintro i ⟨hi, hs⟩
      by_cases hlt : i < l.length
      · have he := sumR_elem sightD znSight l hlt
        have hst : sumR sightD znSight l (i + 1) = sumR sightD znSight l i + znSight (gt sightD l i) := rfl
        have c3 := szL_le (znSight (gt sightD l i)) (left - (l.length : Nat) - (sumR sightD znSight l i : Nat))
        have f1 := szSight_w (gt sightD l i) (hf _ (gt_mem hlt)) (left - (l.length : Nat) - (sumR sightD znSight l i : Nat)) (by omega)
        repeat' (conv => whnf); first | refine Elt.gt sightD hlt ?_ | refine EltN.gt sightD hlt ?_ | refine CallP.rd (f1) rfl rfl rfl rfl ?_ | refine DCall.rd (f1) rfl rfl ?_ | refine Br.tt ?_ | refine Br.ff ?_ | refine Br.not ?_ | refine Br.dand (fun _ => ?_) (fun _ => ?_) | refine Br.dec (fun _ => ?_) (fun _ => ?_) | refine Br.beq (fun _ => ?_) (fun _ => ?_) | refine Br.bne (fun _ => ?_) (fun _ => ?_) | refine Br.seq (fun _ => ?_) (fun _ => ?_) | refine Elt.i (by omega) ?_ | refine EltN.i (by omega) ?_ | refine Nt.cast ?_ | refine Nt.mk _ rfl ?_ | refine EltN.mk _ rfl ?_ | refine Mx.mk _ rfl ?_ | refine Br.mk (fun _ => ?_) (fun _ => ?_) | refine EndP.mk ?_ trivial | refine EndP.mk ?_ ⟨.inr ⟨List.mem_cons_self .., ?_, rfl⟩, trivial⟩ | refine Ar.i64 (by omega) ?_ | refine Ar.u8 (by omega) ?_ | refine Quo.pos (by omega) ?_ | refine Rem.pos (by omega) ?_ | refine BsP.own ?_ | refine SetN.two ?_ | refine SetN.one ?_ | refine Ob.mk ⟨rfl, rfl⟩ ?_ | refine Ob.mk (flat_i _ _).1 ?_ | refine Ob.mk (flat_i _ _) ?_ | refine Ob.mk (flat_s _) ?_ | refine Ob.mk (by first | omega | (simp; first | done | fail) | (simp; omega)) ?_ | fail
        all_goals first
          | (exfalso; omega)
          | (rw [show szL (l.length + sumR sightD znSight l l.length) left = -1 by omega]; rfl)
          | (conv => whnf
             refine ⟨i + 1, ⟨by omega, by omega⟩, by omega, ?_⟩
             rw [show szL (znSight (gt sightD l i)) (left - (l.length : Nat) - (sumR sightD znSight l i : Nat)) = left - (l.length : Nat) - (sumR sightD znSight l (i + 1) : Nat) by omega]
             rfl)
      · obtain rfl : i = l.length := by omega
        repeat' (conv => whnf); first | refine Br.tt ?_ | refine Br.ff ?_ | refine Br.not ?_ | refine Br.dand (fun _ => ?_) (fun _ => ?_) | refine Br.dec (fun _ => ?_) (fun _ => ?_) | refine Br.beq (fun _ => ?_) (fun _ => ?_) | refine Br.bne (fun _ => ?_) (fun _ => ?_) | refine Br.seq (fun _ => ?_) (fun _ => ?_) | refine Elt.i (by omega) ?_ | refine EltN.i (by omega) ?_ | refine Nt.cast ?_ | refine Nt.mk _ rfl ?_ | refine EltN.mk _ rfl ?_ | refine Mx.mk _ rfl ?_ | refine Br.mk (fun _ => ?_) (fun _ => ?_) | refine EndP.mk ?_ trivial | refine EndP.mk ?_ ⟨.inr ⟨List.mem_cons_self .., ?_, rfl⟩, trivial⟩ | refine Ar.i64 (by omega) ?_ | refine Ar.u8 (by omega) ?_ | refine Quo.pos (by omega) ?_ | refine Rem.pos (by omega) ?_ | refine BsP.own ?_ | refine SetN.two ?_ | refine SetN.one ?_ | refine Ob.mk ⟨rfl, rfl⟩ ?_ | refine Ob.mk (flat_i _ _).1 ?_ | refine Ob.mk (flat_i _ _) ?_ | refine Ob.mk (flat_s _) ?_ | refine Ob.mk (by first | omega | (simp; first | done | fail) | (simp; omega)) ?_ | fail
        all_goals first
          | (exfalso; omega)
          | (rw [show szL (l.length + sumR sightD znSight l l.length) left = left - (l.length : Nat) - (sumR sightD znSight l l.length : Nat) by omega]; rfl)

theorem toTell_w (a : Tell) : Vow Tryz.prog 156 [tellV a] (tellV a) [] := by
  refine vow_of_ev (fn := Tryz.f156) [] [(0, 0), (0, 0), (4, 7), (7, 10), (10, 13), (13, 14)] tt_ok Tryz.func156 (by decide) rfl (Nat.le_of_ble_eq_true rfl) rfl rfl rfl ?_
  repeat' (conv => whnf); first | refine Br.tt ?_ | refine Br.ff ?_ | refine Br.not ?_ | refine Br.dand (fun _ => ?_) (fun _ => ?_) | refine Br.dec (fun _ => ?_) (fun _ => ?_) | refine Br.beq (fun _ => ?_) (fun _ => ?_) | refine Br.bne (fun _ => ?_) (fun _ => ?_) | refine Br.seq (fun _ => ?_) (fun _ => ?_) | refine Elt.i (by omega) ?_ | refine EltN.i (by omega) ?_ | refine Nt.cast ?_ | refine Nt.mk _ rfl ?_ | refine EltN.mk _ rfl ?_ | refine Mx.mk _ rfl ?_ | refine Br.mk (fun _ => ?_) (fun _ => ?_) | refine EndP.mk ?_ trivial | refine EndP.mk ?_ ⟨.inr ⟨List.mem_cons_self .., ?_, rfl⟩, trivial⟩ | refine Ar.i64 (by omega) ?_ | refine Ar.u8 (by omega) ?_ | refine Quo.pos (by omega) ?_ | refine Rem.pos (by omega) ?_ | refine BsP.own ?_ | refine SetN.two ?_ | refine SetN.one ?_ | refine Ob.mk ⟨rfl, rfl⟩ ?_ | refine Ob.mk (flat_i _ _).1 ?_ | refine Ob.mk (flat_i _ _) ?_ | refine Ob.mk (flat_s _) ?_ | refine Ob.mk (by first | omega | (simp; first | done | fail) | (simp; omega)) ?_ | fail
  all_goals rfl

theorem eqTell_w (a : Tell) : Vow Tryz.prog 160 [tellV a, tellV a] (.b true) [] := by
  refine vow_of_ev (fn := Tryz.f160) [] [(0, 0), (5, 9), (0, 0), (10, 14), (0, 0), (15, 19), (0, 0), (0, 0)] tt_ok Tryz.func160 (by decide) rfl (Nat.le_of_ble_eq_true rfl) rfl rfl rfl ?_
  repeat' (conv => whnf); first | refine Br.ne_self ?_ | refine Br.eq_self ?_ | refine Br.deq ?_ | refine Br.tt ?_ | refine Br.ff ?_ | refine Br.not ?_ | refine Br.dand (fun _ => ?_) (fun _ => ?_) | refine Br.dec (fun _ => ?_) (fun _ => ?_) | refine Br.beq (fun _ => ?_) (fun _ => ?_) | refine Br.bne (fun _ => ?_) (fun _ => ?_) | refine Br.seq (fun _ => ?_) (fun _ => ?_) | refine Elt.i (by omega) ?_ | refine EltN.i (by omega) ?_ | refine Nt.cast ?_ | refine Nt.mk _ rfl ?_ | refine EltN.mk _ rfl ?_ | refine Mx.mk _ rfl ?_ | refine Br.mk (fun _ => ?_) (fun _ => ?_) | refine EndP.mk ?_ trivial | refine EndP.mk ?_ ⟨.inr ⟨List.mem_cons_self .., ?_, rfl⟩, trivial⟩ | refine Ar.i64 (by omega) ?_ | refine Ar.u8 (by omega) ?_ | refine Quo.pos (by omega) ?_ | refine Rem.pos (by omega) ?_ | refine BsP.own ?_ | refine SetN.two ?_ | refine SetN.one ?_ | refine Ob.mk ⟨rfl, rfl⟩ ?_ | refine Ob.mk (flat_i _ _).1 ?_ | refine Ob.mk (flat_i _ _) ?_ | refine Ob.mk (flat_s _) ?_ | refine Ob.mk (by first | omega | (simp; first | done | fail) | (simp; omega)) ?_ | fail
  all_goals rfl

theorem toTellS_w (l : List Tell) (h : l.length ≤ 1000000000) : Vow Tryz.prog 140 [.sl (l.map tellV)] (.ow 3 (l.map tellV)) [] := by
  have hm : (l.map tellV).length = l.length := by simp
  refine vow_of_ev (fn := Tryz.f140) [] [(0, 0), (5, 8), (0, 0), (8, 11), (12, 14), (14, 22), (22, 23)] tt_ok Tryz.func140 (by decide) rfl (Nat.le_of_ble_eq_true rfl) rfl rfl rfl ?_
  repeat' (conv => whnf); first | refine Br.tt ?_ | refine Br.ff ?_ | refine Br.not ?_ | refine Br.dand (fun _ => ?_) (fun _ => ?_) | refine Br.dec (fun _ => ?_) (fun _ => ?_) | refine Br.beq (fun _ => ?_) (fun _ => ?_) | refine Br.bne (fun _ => ?_) (fun _ => ?_) | refine Br.seq (fun _ => ?_) (fun _ => ?_) | refine Elt.i (by omega) ?_ | refine EltN.i (by omega) ?_ | refine Nt.cast ?_ | refine Nt.mk _ rfl ?_ | refine EltN.mk _ rfl ?_ | refine Mx.mk _ rfl ?_ | refine Br.mk (fun _ => ?_) (fun _ => ?_) | refine EndP.mk ?_ trivial | refine EndP.mk ?_ ⟨.inr ⟨List.mem_cons_self .., ?_, rfl⟩, trivial⟩ | refine Ar.i64 (by omega) ?_ | refine Ar.u8 (by omega) ?_ | refine Quo.pos (by omega) ?_ | refine Rem.pos (by omega) ?_ | refine BsP.own ?_ | refine SetN.two ?_ | refine SetN.one ?_ | refine Ob.mk ⟨rfl, rfl⟩ ?_ | refine Ob.mk (flat_i _ _).1 ?_ | refine Ob.mk (flat_i _ _) ?_ | refine Ob.mk (flat_s _) ?_ | refine Ob.mk (by first | omega | (simp; first | done | fail) | (simp; omega)) ?_ | fail
  · conv => whnf
    refine LoopP.mk [0,2,3,4] (fun i : Nat => [(0, .sl (l.map tellV)), (2, .nl), (3, .ow 3 (cpR tellV (.ag [.i .i64 0, .i .i64 0, .i .i64 0]) l i)), (4, .i .i64 i)]) (fun i => l.length - i) (fun i => i ≤ l.length) ?_ ?_
    · conv => whnf
      refine ⟨0, by omega, ?_⟩
      rw [hm, Int.toNat_natCast, show List.replicate l.length (V.ag [.i .i64 0, .i .i64 0, .i .i64 0]) = _ from cpR_0 tellV (.ag [.i .i64 0, .i .i64 0, .i .i64 0]) l]
      rfl
    · intro i hi
      have hc := cpR_len tellV (.ag [.i .i64 0, .i .i64 0, .i .i64 0]) l hi
      by_cases hlt : i < l.length
      · have hcl := cpR_at tellV (.ag [.i .i64 0, .i .i64 0, .i .i64 0]) l hlt
        repeat' (conv => whnf); first | refine Elt.gt tellD hlt ?_ | refine EltN.gt tellD hlt ?_ | refine EltN.mk _ hcl ?_ | refine CallP.rd (toTell_w (gt tellD l i)) rfl rfl rfl rfl ?_ | refine DCall.rd (toTell_w (gt tellD l i)) rfl rfl ?_ | refine Br.tt ?_ | refine Br.ff ?_ | refine Br.not ?_ | refine Br.dand (fun _ => ?_) (fun _ => ?_) | refine Br.dec (fun _ => ?_) (fun _ => ?_) | refine Br.beq (fun _ => ?_) (fun _ => ?_) | refine Br.bne (fun _ => ?_) (fun _ => ?_) | refine Br.seq (fun _ => ?_) (fun _ => ?_) | refine Elt.i (by omega) ?_ | refine EltN.i (by omega) ?_ | refine Nt.cast ?_ | refine Nt.mk _ rfl ?_ | refine EltN.mk _ rfl ?_ | refine Mx.mk _ rfl ?_ | refine Br.mk (fun _ => ?_) (fun _ => ?_) | refine EndP.mk ?_ trivial | refine EndP.mk ?_ ⟨.inr ⟨List.mem_cons_self .., ?_, rfl⟩, trivial⟩ | refine Ar.i64 (by omega) ?_ | refine Ar.u8 (by omega) ?_ | refine Quo.pos (by omega) ?_ | refine Rem.pos (by omega) ?_ | refine BsP.own ?_ | refine SetN.two ?_ | refine SetN.one ?_ | refine Ob.mk ⟨rfl, rfl⟩ ?_ | refine Ob.mk (flat_i _ _).1 ?_ | refine Ob.mk (flat_i _ _) ?_ | refine Ob.mk (flat_s _) ?_ | refine Ob.mk (by first | omega | (simp; first | done | fail) | (simp; omega)) ?_ | fail
        all_goals first
          | (exfalso; omega)
          | (conv => whnf
             refine ⟨i + 1, by omega, by omega, ?_⟩
             rw [← cpR_set tellD tellV (.ag [.i .i64 0, .i .i64 0, .i .i64 0]) l hlt]
             rfl)
      · obtain rfl : i = l.length := by omega
        repeat' (conv => whnf); first | refine Br.tt ?_ | refine Br.ff ?_ | refine Br.not ?_ | refine Br.dand (fun _ => ?_) (fun _ => ?_) | refine Br.dec (fun _ => ?_) (fun _ => ?_) | refine Br.beq (fun _ => ?_) (fun _ => ?_) | refine Br.bne (fun _ => ?_) (fun _ => ?_) | refine Br.seq (fun _ => ?_) (fun _ => ?_) | refine Elt.i (by omega) ?_ | refine EltN.i (by omega) ?_ | refine Nt.cast ?_ | refine Nt.mk _ rfl ?_ | refine EltN.mk _ rfl ?_ | refine Mx.mk _ rfl ?_ | refine Br.mk (fun _ => ?_) (fun _ => ?_) | refine EndP.mk ?_ trivial | refine EndP.mk ?_ ⟨.inr ⟨List.mem_cons_self .., ?_, rfl⟩, trivial⟩ | refine Ar.i64 (by omega) ?_ | refine Ar.u8 (by omega) ?_ | refine Quo.pos (by omega) ?_ | refine Rem.pos (by omega) ?_ | refine BsP.own ?_ | refine SetN.two ?_ | refine SetN.one ?_ | refine Ob.mk ⟨rfl, rfl⟩ ?_ | refine Ob.mk (flat_i _ _).1 ?_ | refine Ob.mk (flat_i _ _) ?_ | refine Ob.mk (flat_s _) ?_ | refine Ob.mk (by first | omega | (simp; first | done | fail) | (simp; omega)) ?_ | fail
        all_goals first
          | (exfalso; omega)
          | (rw [cpR_all]; rfl)

theorem eqTellS_w (l : List Tell) (h : l.length ≤ 1000000000) : Vow Tryz.prog 147 [.sl (l.map tellV), .sl (l.map tellV)] (.b true) [] := by
  have hm : (l.map tellV).length = l.length := by simp
  refine vow_of_ev (fn := Tryz.f147) [] [(0, 0), (6, 10), (0, 0), (0, 0), (11, 14), (15, 17), (17, 26), (0, 0), (0, 0)] tt_ok Tryz.func147 (by decide) rfl (Nat.le_of_ble_eq_true rfl) rfl rfl rfl ?_
  repeat' (conv => whnf); first | refine Br.ne_self ?_ | refine Br.eq_self ?_ | refine Br.deq ?_ | refine Br.tt ?_ | refine Br.ff ?_ | refine Br.not ?_ | refine Br.dand (fun _ => ?_) (fun _ => ?_) | refine Br.dec (fun _ => ?_) (fun _ => ?_) | refine Br.beq (fun _ => ?_) (fun _ => ?_) | refine Br.bne (fun _ => ?_) (fun _ => ?_) | refine Br.seq (fun _ => ?_) (fun _ => ?_) | refine Elt.i (by omega) ?_ | refine EltN.i (by omega) ?_ | refine Nt.cast ?_ | refine Nt.mk _ rfl ?_ | refine EltN.mk _ rfl ?_ | refine Mx.mk _ rfl ?_ | refine Br.mk (fun _ => ?_) (fun _ => ?_) | refine EndP.mk ?_ trivial | refine EndP.mk ?_ ⟨.inr ⟨List.mem_cons_self .., ?_, rfl⟩, trivial⟩ | refine Ar.i64 (by omega) ?_ | refine Ar.u8 (by omega) ?_ | refine Quo.pos (by omega) ?_ | refine Rem.pos (by omega) ?_ | refine BsP.own ?_ | refine SetN.two ?_ | refine SetN.one ?_ | refine Ob.mk ⟨rfl, rfl⟩ ?_ | refine Ob.mk (flat_i _ _).1 ?_ | refine Ob.mk (flat_i _ _) ?_ | refine Ob.mk (flat_s _) ?_ | refine Ob.mk (by first | omega | (simp; first | done | fail) | (simp; omega)) ?_ | fail
  · conv => whnf
    refine LoopP.mk [0,1,4,5] (fun i : Nat => [(0, .sl (l.map tellV)), (1, .sl (l.map tellV)), (4, .b false), (5, .i .i64 i)]) (fun i => l.length - i) (fun i => i ≤ l.length) ?_ ?_
    · conv => whnf
      exact ⟨0, by omega, rfl⟩
    · intro i hi
      by_cases hlt : i < l.length
      · have hlt2 := hlt
        have f1 := eqTell_w (gt tellD l i)
        repeat' (conv => whnf); first | refine Elt.gt tellD hlt ?_ | refine EltN.gt tellD hlt ?_ | refine CallP.rd (f1) rfl rfl rfl rfl ?_ | refine DCall.rd (f1) rfl rfl ?_ | refine Br.tt ?_ | refine Br.ff ?_ | refine Br.not ?_ | refine Br.dand (fun _ => ?_) (fun _ => ?_) | refine Br.dec (fun _ => ?_) (fun _ => ?_) | refine Br.beq (fun _ => ?_) (fun _ => ?_) | refine Br.bne (fun _ => ?_) (fun _ => ?_) | refine Br.seq (fun _ => ?_) (fun _ => ?_) | refine Elt.i (by omega) ?_ | refine EltN.i (by omega) ?_ | refine Nt.cast ?_ | refine Nt.mk _ rfl ?_ | refine EltN.mk _ rfl ?_ | refine Mx.mk _ rfl ?_ | refine Br.mk (fun _ => ?_) (fun _ => ?_) | refine EndP.mk ?_ trivial | refine EndP.mk ?_ ⟨.inr ⟨List.mem_cons_self .., ?_, rfl⟩, trivial⟩ | refine Ar.i64 (by omega) ?_ | refine Ar.u8 (by omega) ?_ | refine Quo.pos (by omega) ?_ | refine Rem.pos (by omega) ?_ | refine BsP.own ?_ | refine SetN.two ?_ | refine SetN.one ?_ | refine Ob.mk ⟨rfl, rfl⟩ ?_ | refine Ob.mk (flat_i _ _).1 ?_ | refine Ob.mk (flat_i _ _) ?_ | refine Ob.mk (flat_s _) ?_ | refine Ob.mk (by first | omega | (simp; first | done | fail) | (simp; omega)) ?_ | fail
        all_goals first
          | (exfalso; omega)
          | rfl
          | (conv => whnf
             exact ⟨i + 1, by omega, by omega, rfl⟩)
      · obtain rfl : i = l.length := by omega
        repeat' (conv => whnf); first | refine Br.tt ?_ | refine Br.ff ?_ | refine Br.not ?_ | refine Br.dand (fun _ => ?_) (fun _ => ?_) | refine Br.dec (fun _ => ?_) (fun _ => ?_) | refine Br.beq (fun _ => ?_) (fun _ => ?_) | refine Br.bne (fun _ => ?_) (fun _ => ?_) | refine Br.seq (fun _ => ?_) (fun _ => ?_) | refine Elt.i (by omega) ?_ | refine EltN.i (by omega) ?_ | refine Nt.cast ?_ | refine Nt.mk _ rfl ?_ | refine EltN.mk _ rfl ?_ | refine Mx.mk _ rfl ?_ | refine Br.mk (fun _ => ?_) (fun _ => ?_) | refine EndP.mk ?_ trivial | refine EndP.mk ?_ ⟨.inr ⟨List.mem_cons_self .., ?_, rfl⟩, trivial⟩ | refine Ar.i64 (by omega) ?_ | refine Ar.u8 (by omega) ?_ | refine Quo.pos (by omega) ?_ | refine Rem.pos (by omega) ?_ | refine BsP.own ?_ | refine SetN.two ?_ | refine SetN.one ?_ | refine Ob.mk ⟨rfl, rfl⟩ ?_ | refine Ob.mk (flat_i _ _).1 ?_ | refine Ob.mk (flat_i _ _) ?_ | refine Ob.mk (flat_s _) ?_ | refine Ob.mk (by first | omega | (simp; first | done | fail) | (simp; omega)) ?_ | fail
        all_goals first
          | (exfalso; omega)
          | rfl
theorem szTellS_w (l : List Tell) (left : Int) (hz : l.length ≤ maxLen) (hl : 0 ≤ left ∧ left ≤ 1048576) : Vow Tryz.prog 133 [.sl (l.map tellV), .i .i64 left] (.i .i64 (szL l.length left)) [] := by
  have hm : (l.map tellV).length = l.length := by simp
  have hx : maxLen ≤ 9223372036854775807 := by decide
  have c := szL_le l.length left
  refine vow_of_ev (fn := Tryz.f133) [] [(0, 0), (5, 9), (9, 10), (0, 0), (11, 12)] tt_ok Tryz.func133 (by decide) rfl (Nat.le_of_ble_eq_true rfl) rfl rfl rfl ?_
  repeat' (conv => whnf); first | refine Br.tt ?_ | refine Br.ff ?_ | refine Br.not ?_ | refine Br.dand (fun _ => ?_) (fun _ => ?_) | refine Br.dec (fun _ => ?_) (fun _ => ?_) | refine Br.beq (fun _ => ?_) (fun _ => ?_) | refine Br.bne (fun _ => ?_) (fun _ => ?_) | refine Br.seq (fun _ => ?_) (fun _ => ?_) | refine Elt.i (by omega) ?_ | refine EltN.i (by omega) ?_ | refine Nt.cast ?_ | refine Nt.mk _ rfl ?_ | refine EltN.mk _ rfl ?_ | refine Mx.mk _ rfl ?_ | refine Br.mk (fun _ => ?_) (fun _ => ?_) | refine EndP.mk ?_ trivial | refine EndP.mk ?_ ⟨.inr ⟨List.mem_cons_self .., ?_, rfl⟩, trivial⟩ | refine Ar.i64 (by omega) ?_ | refine Ar.u8 (by omega) ?_ | refine Quo.pos (by omega) ?_ | refine Rem.pos (by omega) ?_ | refine BsP.own ?_ | refine SetN.two ?_ | refine SetN.one ?_ | refine Ob.mk ⟨rfl, rfl⟩ ?_ | refine Ob.mk (flat_i _ _).1 ?_ | refine Ob.mk (flat_i _ _) ?_ | refine Ob.mk (flat_s _) ?_ | refine Ob.mk (by first | omega | (simp; first | done | fail) | (simp; omega)) ?_ | fail
  all_goals first
    | (exfalso; omega)
    | (rw [show szL l.length left = -1 by omega]; rfl)
    | (rw [show szL l.length left = left - l.length by omega, hm]; rfl)
end Go.Proofs.YtafipjhalboefaaGreat
