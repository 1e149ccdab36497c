/- A cursor over drawn bytes. Condition: no more than 2000000 bytes. -/
import Derived.Test.YtafipjhalboefaaGreatSb
import Derived.Test.YtafipjhalboefaaGreatSm
namespace Go.Proofs.YtafipjhalboefaaGreat
open Go Go.Vx
set_option linter.unusedVariables false
set_option linter.unusedSimpArgs false
set_option maxHeartbeats 600000
set_option maxRecDepth 100000

def WI (x : Int) : Int := IntKind.i64.wrap x
def andI (a b : Int) : Int := IntKind.i64.wrap (BitVec.ofInt IntKind.i64.bits a &&& BitVec.ofInt IntKind.i64.bits b).toNat
def xorI (a b : Int) : Int := IntKind.i64.wrap (BitVec.ofInt IntKind.i64.bits a ^^^ BitVec.ofInt IntKind.i64.bits b).toNat
def shrI (a n : Int) : Int := a.fdiv (2 ^ min n.toNat IntKind.i64.bits)
structure Cur where
  b : List UInt8
  i : Nat
  h : Int
def Cur.ok (c : Cur) : Prop := c.b.length ≤ 2000000 ∧ c.i ≤ c.b.length

def nextH (h : Int) : Int := WI (WI (h * 6364136223846793005) + 1442695040888963407)
def byte0 (h : Int) : Int := andI (xorI (shrI (nextH h) 33) (shrI (nextH h) 45)) 255
def curByte (c : Cur) : Int := if c.i < c.b.length then andI (WI (byte0 c.h + (rb c.b c.i).toNat)) 255 else byte0 c.h
def curNext (c : Cur) : Cur := ⟨c.b, if c.i < c.b.length then c.i + 1 else c.i, nextH c.h⟩
theorem byte_at {l : List UInt8} {i : Nat} (h : i < l.length) : (l.map byteV)[i]? = some (.i .u8 (rb l i).toNat) := by simp [rb, h, byteV]
theorem _root_.Go.Vx.Elt.by {l : List UInt8} {j : Nat} {κ : V → Prop} (h : j < l.length) (g : κ (.i .u8 (rb l j).toNat)) : Elt (l.map byteV) (j : Int) κ :=
  .mk _ (by omega) (by rw [Int.toNat_natCast]; exact byte_at h) g
theorem _root_.Go.Vx.EltN.by {l : List UInt8} {j : Nat} {κ : V → Prop} (h : j < l.length) (g : κ (.i .u8 (rb l j).toNat)) : EltN (l.map byteV) j κ := .mk _ (byte_at h) g

def below (c : Cur) (n : Int) : Int :=
  if n ≤ 0 then 0 else if n ≤ 256 then curByte c % n
  else (curByte c * 16777216 + curByte (curNext c) * 65536 + curByte (curNext (curNext c)) * 256 + curByte (curNext (curNext (curNext c)))) % n
def belowNext (c : Cur) (n : Int) : Cur := if n ≤ 0 then c else if n ≤ 256 then curNext c else curNext (curNext (curNext (curNext c)))
def newH (l : List UInt8) : Nat → Int
  | 0 => 94701 + l.length
  | i + 1 => andI (newH l i * 131 + (rb l i).toNat + 7) 1073741823
def curNew (l : List UInt8) : Cur := ⟨l, 0, newH l (if l.length < 4000 then l.length else 4000)⟩
end Go.Proofs.YtafipjhalboefaaGreat
