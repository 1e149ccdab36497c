/- What is known of the types of this program. No condition. -/
import Derived.Test.YtjomgcgeknpehaaVD
import Derived.Test.YtjomgcgeknpehaaProg
import Derived.KernelRfl
namespace Go.Proofs.Ytjomgcgeknpehaa
open Go Go.Vx

def td3 : TD := { ti := .sc, u := .int .i64, zs := some [.i .i64 0], ones := [], cells := 1, eqs := [] }
theorem td3_ok : td3.ok Try.prog 3 := ⟨by kernel_rfl, by kernel_rfl, by kernel_rfl, by kernel_rfl, ones_of _ (by kernel_rfl), by kernel_rfl⟩
def td4 : TD := { ti := .sc, u := .bool, zs := some [.b false], ones := [], cells := 1, eqs := [] }
theorem td4_ok : td4.ok Try.prog 4 := ⟨by kernel_rfl, by kernel_rfl, by kernel_rfl, by kernel_rfl, ones_of _ (by kernel_rfl), by kernel_rfl⟩
def td5 : TD := { ti := .sc, u := .int .u8, zs := some [.i .u8 0], ones := [], cells := 1, eqs := [] }
theorem td5_ok : td5.ok Try.prog 5 := ⟨by kernel_rfl, by kernel_rfl, by kernel_rfl, by kernel_rfl, ones_of _ (by kernel_rfl), by kernel_rfl⟩
def td9 : TD := { ti := .str, u := .str, zs := some [.s []], ones := [], cells := 1, eqs := [] }
theorem td9_ok : td9.ok Try.prog 9 := ⟨by kernel_rfl, by kernel_rfl, by kernel_rfl, by kernel_rfl, ones_of _ (by kernel_rfl), by kernel_rfl⟩
def td23 : TD := { ti := .struct [(0, 1), (1, 1), (2, 1), (3, 1)] 4, u := .other, zs := some [.i .i64 0, .b false, .b false, .b false], ones := [true, true, true, true], cells := 4, eqs := [(0, .int .i64), (1, .bool), (2, .bool), (3, .bool)] }
theorem td23_ok : td23.ok Try.prog 23 := ⟨by kernel_rfl, by kernel_rfl, by kernel_rfl, by kernel_rfl, ones_of _ (by kernel_rfl), by kernel_rfl⟩
def td24 : TD := { ti := .slice 3 1 8, u := .other, zs := some [.nl], ones := [], cells := 1, eqs := [] }
theorem td24_ok : td24.ok Try.prog 24 := ⟨by kernel_rfl, by kernel_rfl, by kernel_rfl, by kernel_rfl, ones_of _ (by kernel_rfl), by kernel_rfl⟩
def td26 : TD := { ti := .struct [(0, 1), (1, 1), (2, 1)] 3, u := .other, zs := some [.nl, .nl, .nl], ones := [true, true, true], cells := 3, eqs := [] }
theorem td26_ok : td26.ok Try.prog 26 := ⟨by kernel_rfl, by kernel_rfl, by kernel_rfl, by kernel_rfl, ones_of _ (by kernel_rfl), by kernel_rfl⟩
def td27 : TD := { ti := .slice 26 3 72, u := .other, zs := some [.nl], ones := [], cells := 1, eqs := [] }
theorem td27_ok : td27.ok Try.prog 27 := ⟨by kernel_rfl, by kernel_rfl, by kernel_rfl, by kernel_rfl, ones_of _ (by kernel_rfl), by kernel_rfl⟩
def td28 : TD := { ti := .slice 139 10 80, u := .other, zs := some [.nl], ones := [], cells := 1, eqs := [] }
theorem td28_ok : td28.ok Try.prog 28 := ⟨by kernel_rfl, by kernel_rfl, by kernel_rfl, by kernel_rfl, ones_of _ (by kernel_rfl), by kernel_rfl⟩
def td30 : TD := { ti := .struct [(0, 4), (4, 1), (5, 1), (6, 1), (7, 1), (8, 3), (11, 1), (12, 1)] 13, u := .other, zs := some [.i .i64 0, .b false, .b false, .b false, .i .i64 0, .i .i64 0, .i .i64 0, .i .i64 0, .nl, .nl, .nl, .nl, .nl], ones := [false, true, true, true, true, false, true, true], cells := 13, eqs := [] }
theorem td30_ok : td30.ok Try.prog 30 := ⟨by kernel_rfl, by kernel_rfl, by kernel_rfl, by kernel_rfl, ones_of _ (by kernel_rfl), by kernel_rfl⟩
def td33 : TD := { ti := .struct [(0, 1), (1, 1), (2, 1), (3, 1)] 4, u := .other, zs := some [.i .i64 0, .b false, .b false, .b false], ones := [true, true, true, true], cells := 4, eqs := [(0, .int .i64), (1, .bool), (2, .bool), (3, .bool)] }
theorem td33_ok : td33.ok Try.prog 33 := ⟨by kernel_rfl, by kernel_rfl, by kernel_rfl, by kernel_rfl, ones_of _ (by kernel_rfl), by kernel_rfl⟩
def td34 : TD := { ti := .struct [(0, 1), (1, 1), (2, 1)] 3, u := .other, zs := some [.nl, .nl, .nl], ones := [true, true, true], cells := 3, eqs := [] }
theorem td34_ok : td34.ok Try.prog 34 := ⟨by kernel_rfl, by kernel_rfl, by kernel_rfl, by kernel_rfl, ones_of _ (by kernel_rfl), by kernel_rfl⟩
def td35 : TD := { ti := .slice 34 3 72, u := .other, zs := some [.nl], ones := [], cells := 1, eqs := [] }
theorem td35_ok : td35.ok Try.prog 35 := ⟨by kernel_rfl, by kernel_rfl, by kernel_rfl, by kernel_rfl, ones_of _ (by kernel_rfl), by kernel_rfl⟩
def td36 : TD := { ti := .slice 92 10 80, u := .other, zs := some [.nl], ones := [], cells := 1, eqs := [] }
theorem td36_ok : td36.ok Try.prog 36 := ⟨by kernel_rfl, by kernel_rfl, by kernel_rfl, by kernel_rfl, ones_of _ (by kernel_rfl), by kernel_rfl⟩
def td38 : TD := { ti := .struct [(0, 4), (4, 1), (5, 1), (6, 1), (7, 1), (8, 3), (11, 1), (12, 1)] 13, u := .other, zs := some [.i .i64 0, .b false, .b false, .b false, .i .i64 0, .i .i64 0, .i .i64 0, .i .i64 0, .nl, .nl, .nl, .nl, .nl], ones := [false, true, true, true, true, false, true, true], cells := 13, eqs := [] }
theorem td38_ok : td38.ok Try.prog 38 := ⟨by kernel_rfl, by kernel_rfl, by kernel_rfl, by kernel_rfl, ones_of _ (by kernel_rfl), by kernel_rfl⟩
def td45 : TD := { ti := .slice 151 24 216, u := .other, zs := some [.nl], ones := [], cells := 1, eqs := [] }
theorem td45_ok : td45.ok Try.prog 45 := ⟨by kernel_rfl, by kernel_rfl, by kernel_rfl, by kernel_rfl, ones_of _ (by kernel_rfl), by kernel_rfl⟩
def td47 : TD := { ti := .struct [(0, 4), (4, 1), (5, 1), (6, 1), (7, 1), (8, 3), (11, 3), (14, 1), (15, 1), (16, 1), (17, 1)] 18, u := .other, zs := some [.i .i64 0, .b false, .b false, .b false, .i .i64 0, .i .i64 0, .i .i64 0, .i .i64 0, .nl, .nl, .nl, .nl, .nl, .nl, .i .i64 0, .i .i64 0, .b false, .nl], ones := [false, true, true, true, true, false, false, true, true, true, true], cells := 18, eqs := [] }
theorem td47_ok : td47.ok Try.prog 47 := ⟨by kernel_rfl, by kernel_rfl, by kernel_rfl, by kernel_rfl, ones_of _ (by kernel_rfl), by kernel_rfl⟩
def td57 : TD := { ti := .slice 9 1 16, u := .other, zs := some [.nl], ones := [], cells := 1, eqs := [] }
theorem td57_ok : td57.ok Try.prog 57 := ⟨by kernel_rfl, by kernel_rfl, by kernel_rfl, by kernel_rfl, ones_of _ (by kernel_rfl), by kernel_rfl⟩
def td62 : TD := { ti := .slice 115 10 96, u := .other, zs := some [.nl], ones := [], cells := 1, eqs := [] }
theorem td62_ok : td62.ok Try.prog 62 := ⟨by kernel_rfl, by kernel_rfl, by kernel_rfl, by kernel_rfl, ones_of _ (by kernel_rfl), by kernel_rfl⟩
def td67 : TD := { ti := .slice 181 24 216, u := .other, zs := some [.nl], ones := [], cells := 1, eqs := [] }
theorem td67_ok : td67.ok Try.prog 67 := ⟨by kernel_rfl, by kernel_rfl, by kernel_rfl, by kernel_rfl, ones_of _ (by kernel_rfl), by kernel_rfl⟩
def td69 : TD := { ti := .struct [(0, 4), (4, 1), (5, 1), (6, 1), (7, 1), (8, 3), (11, 3), (14, 1), (15, 1), (16, 1), (17, 1)] 18, u := .other, zs := some [.i .i64 0, .b false, .b false, .b false, .i .i64 0, .i .i64 0, .i .i64 0, .i .i64 0, .nl, .nl, .nl, .nl, .nl, .nl, .i .i64 0, .i .i64 0, .b false, .nl], ones := [false, true, true, true, true, false, false, true, true, true, true], cells := 18, eqs := [] }
theorem td69_ok : td69.ok Try.prog 69 := ⟨by kernel_rfl, by kernel_rfl, by kernel_rfl, by kernel_rfl, ones_of _ (by kernel_rfl), by kernel_rfl⟩
def td80 : TD := { ti := .struct [(0, 1), (1, 1), (2, 1), (3, 1)] 4, u := .other, zs := some [.i .i64 0, .i .i64 0, .nl, .nl], ones := [true, true, true, true], cells := 4, eqs := [] }
theorem td80_ok : td80.ok Try.prog 80 := ⟨by kernel_rfl, by kernel_rfl, by kernel_rfl, by kernel_rfl, ones_of _ (by kernel_rfl), by kernel_rfl⟩
def td82 : TD := { ti := .struct [(0, 1), (1, 1), (2, 1)] 3, u := .other, zs := some [.i .i64 0, .i .i64 0, .i .i64 0], ones := [true, true, true], cells := 3, eqs := [(0, .int .i64), (1, .int .i64), (2, .int .i64)] }
theorem td82_ok : td82.ok Try.prog 82 := ⟨by kernel_rfl, by kernel_rfl, by kernel_rfl, by kernel_rfl, ones_of _ (by kernel_rfl), by kernel_rfl⟩
def td84 : TD := { ti := .struct [(0, 1), (1, 1), (2, 1)] 3, u := .other, zs := some [.i .i64 0, .i .i64 0, .s []], ones := [true, true, true], cells := 3, eqs := [(0, .int .i64), (1, .int .i64), (2, .str)] }
theorem td84_ok : td84.ok Try.prog 84 := ⟨by kernel_rfl, by kernel_rfl, by kernel_rfl, by kernel_rfl, ones_of _ (by kernel_rfl), by kernel_rfl⟩
def td86 : TD := { ti := .struct [(0, 4), (4, 4), (8, 3), (11, 1), (12, 1), (13, 1), (14, 1), (15, 1), (16, 3)] 19, u := .other, zs := some [.i .i64 0, .i .i64 0, .nl, .nl, .i .i64 0, .b false, .b false, .b false, .i .i64 0, .i .i64 0, .i .i64 0, .i .i64 0, .i .i64 0, .i .i64 0, .i .i64 0, .b false, .i .i64 0, .i .i64 0, .s []], ones := [false, false, false, true, true, true, true, true, false], cells := 19, eqs := [] }
theorem td86_ok : td86.ok Try.prog 86 := ⟨by kernel_rfl, by kernel_rfl, by kernel_rfl, by kernel_rfl, ones_of _ (by kernel_rfl), by kernel_rfl⟩
def td88 : TD := { ti := .struct [(0, 19), (19, 1), (20, 1)] 21, u := .other, zs := some [.i .i64 0, .i .i64 0, .nl, .nl, .i .i64 0, .b false, .b false, .b false, .i .i64 0, .i .i64 0, .i .i64 0, .i .i64 0, .i .i64 0, .i .i64 0, .i .i64 0, .b false, .i .i64 0, .i .i64 0, .s [], .i .i64 0, .i .i64 0], ones := [false, true, true], cells := 21, eqs := [] }
theorem td88_ok : td88.ok Try.prog 88 := ⟨by kernel_rfl, by kernel_rfl, by kernel_rfl, by kernel_rfl, ones_of _ (by kernel_rfl), by kernel_rfl⟩
def td92 : TD := { ti := .struct [(0, 1), (1, 1), (2, 1), (3, 1), (4, 1), (5, 1), (6, 1), (7, 1), (8, 1), (9, 1)] 10, u := .other, zs := some [.i .i64 0, .i .i64 0, .i .i64 0, .i .i64 0, .i .i64 0, .i .i64 0, .i .i64 0, .i .i64 0, .i .i64 0, .i .i64 0], ones := [true, true, true, true, true, true, true, true, true, true], cells := 10, eqs := [(0, .int .i64), (1, .int .i64), (2, .int .i64), (3, .int .i64), (4, .int .i64), (5, .int .i64), (6, .int .i64), (7, .int .i64), (8, .int .i64), (9, .int .i64)] }
theorem td92_ok : td92.ok Try.prog 92 := ⟨by kernel_rfl, by kernel_rfl, by kernel_rfl, by kernel_rfl, ones_of _ (by kernel_rfl), by kernel_rfl⟩
def td99 : TD := { ti := .struct [(0, 1), (1, 1), (2, 1), (3, 1)] 4, u := .other, zs := some [.i .i64 0, .i .i64 0, .i .i64 0, .i .i64 0], ones := [true, true, true, true], cells := 4, eqs := [(0, .int .i64), (1, .int .i64), (2, .int .i64), (3, .int .i64)] }
theorem td99_ok : td99.ok Try.prog 99 := ⟨by kernel_rfl, by kernel_rfl, by kernel_rfl, by kernel_rfl, ones_of _ (by kernel_rfl), by kernel_rfl⟩
def td115 : TD := { ti := .struct [(0, 4), (4, 4), (8, 1), (9, 1)] 10, u := .other, zs := some [.i .i64 0, .i .i64 0, .nl, .nl, .i .i64 0, .b false, .b false, .b false, .i .i64 0, .i .i64 0], ones := [false, false, true, true], cells := 10, eqs := [] }
theorem td115_ok : td115.ok Try.prog 115 := ⟨by kernel_rfl, by kernel_rfl, by kernel_rfl, by kernel_rfl, ones_of _ (by kernel_rfl), by kernel_rfl⟩
def td119 : TD := { ti := .slice 124 3 32, u := .other, zs := some [.nl], ones := [], cells := 1, eqs := [] }
theorem td119_ok : td119.ok Try.prog 119 := ⟨by kernel_rfl, by kernel_rfl, by kernel_rfl, by kernel_rfl, ones_of _ (by kernel_rfl), by kernel_rfl⟩
def td122 : TD := { ti := .sc, u := .int .u64, zs := some [.i .u64 0], ones := [], cells := 1, eqs := [] }
theorem td122_ok : td122.ok Try.prog 122 := ⟨by kernel_rfl, by kernel_rfl, by kernel_rfl, by kernel_rfl, ones_of _ (by kernel_rfl), by kernel_rfl⟩
def td124 : TD := { ti := .struct [(0, 1), (1, 1), (2, 1)] 3, u := .other, zs := some [.b false, .i .i64 0, .s []], ones := [true, true, true], cells := 3, eqs := [(0, .bool), (1, .int .i64), (2, .str)] }
theorem td124_ok : td124.ok Try.prog 124 := ⟨by kernel_rfl, by kernel_rfl, by kernel_rfl, by kernel_rfl, ones_of _ (by kernel_rfl), by kernel_rfl⟩
def td125 : TD := { ti := .sc, u := .other, zs := some [.np], ones := [], cells := 1, eqs := [] }
theorem td125_ok : td125.ok Try.prog 125 := ⟨by kernel_rfl, by kernel_rfl, by kernel_rfl, by kernel_rfl, ones_of _ (by kernel_rfl), by kernel_rfl⟩
def td127 : TD := { ti := .struct [(0, 1), (1, 1), (2, 1)] 3, u := .other, zs := some [.nl, .nl, .i .i64 0], ones := [true, true, true], cells := 3, eqs := [] }
theorem td127_ok : td127.ok Try.prog 127 := ⟨by kernel_rfl, by kernel_rfl, by kernel_rfl, by kernel_rfl, ones_of _ (by kernel_rfl), by kernel_rfl⟩
def td139 : TD := { ti := .struct [(0, 1), (1, 1), (2, 1), (3, 1), (4, 1), (5, 1), (6, 1), (7, 1), (8, 1), (9, 1)] 10, u := .other, zs := some [.i .i64 0, .i .i64 0, .i .i64 0, .i .i64 0, .i .i64 0, .i .i64 0, .i .i64 0, .i .i64 0, .i .i64 0, .i .i64 0], ones := [true, true, true, true, true, true, true, true, true, true], cells := 10, eqs := [(0, .int .i64), (1, .int .i64), (2, .int .i64), (3, .int .i64), (4, .int .i64), (5, .int .i64), (6, .int .i64), (7, .int .i64), (8, .int .i64), (9, .int .i64)] }
theorem td139_ok : td139.ok Try.prog 139 := ⟨by kernel_rfl, by kernel_rfl, by kernel_rfl, by kernel_rfl, ones_of _ (by kernel_rfl), by kernel_rfl⟩
def td145 : TD := { ti := .slice 188 4 32, u := .other, zs := some [.nl], ones := [], cells := 1, eqs := [] }
theorem td145_ok : td145.ok Try.prog 145 := ⟨by kernel_rfl, by kernel_rfl, by kernel_rfl, by kernel_rfl, ones_of _ (by kernel_rfl), by kernel_rfl⟩
def td147 : TD := { ti := .struct [(0, 1), (1, 1), (2, 1), (3, 1), (4, 1), (5, 1), (6, 1), (7, 1), (8, 1)] 9, u := .other, zs := some [.b false, .i .i64 0, .i .i64 0, .nl, .i .i64 0, .i .i64 0, .i .i64 0, .i .i64 0, .i .i64 0], ones := [true, true, true, true, true, true, true, true, true], cells := 9, eqs := [] }
theorem td147_ok : td147.ok Try.prog 147 := ⟨by kernel_rfl, by kernel_rfl, by kernel_rfl, by kernel_rfl, ones_of _ (by kernel_rfl), by kernel_rfl⟩
def td149 : TD := { ti := .struct [(0, 1), (1, 1), (2, 4), (6, 4), (10, 1), (11, 1), (12, 1)] 13, u := .other, zs := some [.b false, .b false, .i .i64 0, .i .i64 0, .nl, .nl, .i .i64 0, .b false, .b false, .b false, .i .i64 0, .i .i64 0, .i .i64 0], ones := [true, true, false, false, true, true, true], cells := 13, eqs := [] }
theorem td149_ok : td149.ok Try.prog 149 := ⟨by kernel_rfl, by kernel_rfl, by kernel_rfl, by kernel_rfl, ones_of _ (by kernel_rfl), by kernel_rfl⟩
def td151 : TD := { ti := .struct [(0, 9), (9, 13), (22, 1), (23, 1)] 24, u := .other, zs := some [.b false, .i .i64 0, .i .i64 0, .nl, .i .i64 0, .i .i64 0, .i .i64 0, .i .i64 0, .i .i64 0, .b false, .b false, .i .i64 0, .i .i64 0, .nl, .nl, .i .i64 0, .b false, .b false, .b false, .i .i64 0, .i .i64 0, .i .i64 0, .b false, .i .i64 0], ones := [false, false, true, true], cells := 24, eqs := [] }
theorem td151_ok : td151.ok Try.prog 151 := ⟨by kernel_rfl, by kernel_rfl, by kernel_rfl, by kernel_rfl, ones_of _ (by kernel_rfl), by kernel_rfl⟩
def td165 : TD := { ti := .struct [(0, 1), (1, 1), (2, 1)] 3, u := .other, zs := some [.i .i64 0, .i .i64 0, .i .i64 0], ones := [true, true, true], cells := 3, eqs := [(0, .int .i64), (1, .int .i64), (2, .int .i64)] }
theorem td165_ok : td165.ok Try.prog 165 := ⟨by kernel_rfl, by kernel_rfl, by kernel_rfl, by kernel_rfl, ones_of _ (by kernel_rfl), by kernel_rfl⟩
def td172 : TD := { ti := .slice 5 1 1, u := .other, zs := some [.nl], ones := [], cells := 1, eqs := [] }
theorem td172_ok : td172.ok Try.prog 172 := ⟨by kernel_rfl, by kernel_rfl, by kernel_rfl, by kernel_rfl, ones_of _ (by kernel_rfl), by kernel_rfl⟩
def td174 : TD := { ti := .slice 227 4 32, u := .other, zs := some [.nl], ones := [], cells := 1, eqs := [] }
theorem td174_ok : td174.ok Try.prog 174 := ⟨by kernel_rfl, by kernel_rfl, by kernel_rfl, by kernel_rfl, ones_of _ (by kernel_rfl), by kernel_rfl⟩
def td176 : TD := { ti := .struct [(0, 1), (1, 1), (2, 1), (3, 1), (4, 1), (5, 1), (6, 1), (7, 1), (8, 1)] 9, u := .other, zs := some [.b false, .i .i64 0, .i .i64 0, .nl, .i .i64 0, .i .i64 0, .i .i64 0, .i .i64 0, .i .i64 0], ones := [true, true, true, true, true, true, true, true, true], cells := 9, eqs := [] }
theorem td176_ok : td176.ok Try.prog 176 := ⟨by kernel_rfl, by kernel_rfl, by kernel_rfl, by kernel_rfl, ones_of _ (by kernel_rfl), by kernel_rfl⟩
def td177 : TD := { ti := .struct [(0, 1), (1, 1), (2, 1), (3, 1)] 4, u := .other, zs := some [.i .i64 0, .i .i64 0, .nl, .nl], ones := [true, true, true, true], cells := 4, eqs := [] }
theorem td177_ok : td177.ok Try.prog 177 := ⟨by kernel_rfl, by kernel_rfl, by kernel_rfl, by kernel_rfl, ones_of _ (by kernel_rfl), by kernel_rfl⟩
def td179 : TD := { ti := .struct [(0, 1), (1, 1), (2, 4), (6, 4), (10, 1), (11, 1), (12, 1)] 13, u := .other, zs := some [.b false, .b false, .i .i64 0, .i .i64 0, .nl, .nl, .i .i64 0, .b false, .b false, .b false, .i .i64 0, .i .i64 0, .i .i64 0], ones := [true, true, false, false, true, true, true], cells := 13, eqs := [] }
theorem td179_ok : td179.ok Try.prog 179 := ⟨by kernel_rfl, by kernel_rfl, by kernel_rfl, by kernel_rfl, ones_of _ (by kernel_rfl), by kernel_rfl⟩
def td181 : TD := { ti := .struct [(0, 9), (9, 13), (22, 1), (23, 1)] 24, u := .other, zs := some [.b false, .i .i64 0, .i .i64 0, .nl, .i .i64 0, .i .i64 0, .i .i64 0, .i .i64 0, .i .i64 0, .b false, .b false, .i .i64 0, .i .i64 0, .nl, .nl, .i .i64 0, .b false, .b false, .b false, .i .i64 0, .i .i64 0, .i .i64 0, .b false, .i .i64 0], ones := [false, false, true, true], cells := 24, eqs := [] }
theorem td181_ok : td181.ok Try.prog 181 := ⟨by kernel_rfl, by kernel_rfl, by kernel_rfl, by kernel_rfl, ones_of _ (by kernel_rfl), by kernel_rfl⟩
def td188 : TD := { ti := .struct [(0, 1), (1, 1), (2, 1), (3, 1)] 4, u := .other, zs := some [.i .i64 0, .b false, .b false, .s []], ones := [true, true, true, true], cells := 4, eqs := [(0, .int .i64), (1, .bool), (2, .bool), (3, .str)] }
theorem td188_ok : td188.ok Try.prog 188 := ⟨by kernel_rfl, by kernel_rfl, by kernel_rfl, by kernel_rfl, ones_of _ (by kernel_rfl), by kernel_rfl⟩
def td203 : TD := { ti := .sc, u := .other, zs := some [.np], ones := [], cells := 1, eqs := [] }
theorem td203_ok : td203.ok Try.prog 203 := ⟨by kernel_rfl, by kernel_rfl, by kernel_rfl, by kernel_rfl, ones_of _ (by kernel_rfl), by kernel_rfl⟩
def td208 : TD := { ti := .struct [(0, 1), (1, 1), (2, 1)] 3, u := .other, zs := some [.s [], .i .i64 0, .b false], ones := [true, true, true], cells := 3, eqs := [(0, .str), (1, .int .i64), (2, .bool)] }
theorem td208_ok : td208.ok Try.prog 208 := ⟨by kernel_rfl, by kernel_rfl, by kernel_rfl, by kernel_rfl, ones_of _ (by kernel_rfl), by kernel_rfl⟩
def td223 : TD := { ti := .slice 24 1 24, u := .other, zs := some [.nl], ones := [], cells := 1, eqs := [] }
theorem td223_ok : td223.ok Try.prog 223 := ⟨by kernel_rfl, by kernel_rfl, by kernel_rfl, by kernel_rfl, ones_of _ (by kernel_rfl), by kernel_rfl⟩
def td227 : TD := { ti := .struct [(0, 1), (1, 1), (2, 1), (3, 1)] 4, u := .other, zs := some [.i .i64 0, .b false, .b false, .s []], ones := [true, true, true, true], cells := 4, eqs := [(0, .int .i64), (1, .bool), (2, .bool), (3, .str)] }
theorem td227_ok : td227.ok Try.prog 227 := ⟨by kernel_rfl, by kernel_rfl, by kernel_rfl, by kernel_rfl, ones_of _ (by kernel_rfl), by kernel_rfl⟩
theorem mixed_ok : Try.prog.follows .mixedOrders = true := by kernel_rfl
def tt : TT := (.node 88 td88 (.node 35 td35 (.node 26 td26 (.node 9 td9 (.node 4 td4 (.node 3 td3 .leaf .leaf) (.node 5 td5 .leaf .leaf)) (.node 24 td24 (.node 23 td23 .leaf .leaf) .leaf)) (.node 30 td30 (.node 28 td28 (.node 27 td27 .leaf .leaf) .leaf) (.node 34 td34 (.node 33 td33 .leaf .leaf) .leaf))) (.node 67 td67 (.node 47 td47 (.node 38 td38 (.node 36 td36 .leaf .leaf) (.node 45 td45 .leaf .leaf)) (.node 62 td62 (.node 57 td57 .leaf .leaf) .leaf)) (.node 82 td82 (.node 80 td80 (.node 69 td69 .leaf .leaf) .leaf) (.node 86 td86 (.node 84 td84 .leaf .leaf) .leaf)))) (.node 151 td151 (.node 125 td125 (.node 119 td119 (.node 99 td99 (.node 92 td92 .leaf .leaf) (.node 115 td115 .leaf .leaf)) (.node 124 td124 (.node 122 td122 .leaf .leaf) .leaf)) (.node 145 td145 (.node 139 td139 (.node 127 td127 .leaf .leaf) .leaf) (.node 149 td149 (.node 147 td147 .leaf .leaf) .leaf))) (.node 181 td181 (.node 176 td176 (.node 172 td172 (.node 165 td165 .leaf .leaf) (.node 174 td174 .leaf .leaf)) (.node 179 td179 (.node 177 td177 .leaf .leaf) .leaf)) (.node 208 td208 (.node 203 td203 (.node 188 td188 .leaf .leaf) .leaf) (.node 227 td227 (.node 223 td223 .leaf .leaf) .leaf)))))
theorem tt_ok : tt.ok Try.prog := ⟨td88_ok, ⟨td35_ok, ⟨td26_ok, ⟨td9_ok, ⟨td4_ok, ⟨td3_ok, mixed_ok, mixed_ok⟩, ⟨td5_ok, mixed_ok, mixed_ok⟩⟩, ⟨td24_ok, ⟨td23_ok, mixed_ok, mixed_ok⟩, mixed_ok⟩⟩, ⟨td30_ok, ⟨td28_ok, ⟨td27_ok, mixed_ok, mixed_ok⟩, mixed_ok⟩, ⟨td34_ok, ⟨td33_ok, mixed_ok, mixed_ok⟩, mixed_ok⟩⟩⟩, ⟨td67_ok, ⟨td47_ok, ⟨td38_ok, ⟨td36_ok, mixed_ok, mixed_ok⟩, ⟨td45_ok, mixed_ok, mixed_ok⟩⟩, ⟨td62_ok, ⟨td57_ok, mixed_ok, mixed_ok⟩, mixed_ok⟩⟩, ⟨td82_ok, ⟨td80_ok, ⟨td69_ok, mixed_ok, mixed_ok⟩, mixed_ok⟩, ⟨td86_ok, ⟨td84_ok, mixed_ok, mixed_ok⟩, mixed_ok⟩⟩⟩⟩, ⟨td151_ok, ⟨td125_ok, ⟨td119_ok, ⟨td99_ok, ⟨td92_ok, mixed_ok, mixed_ok⟩, ⟨td115_ok, mixed_ok, mixed_ok⟩⟩, ⟨td124_ok, ⟨td122_ok, mixed_ok, mixed_ok⟩, mixed_ok⟩⟩, ⟨td145_ok, ⟨td139_ok, ⟨td127_ok, mixed_ok, mixed_ok⟩, mixed_ok⟩, ⟨td149_ok, ⟨td147_ok, mixed_ok, mixed_ok⟩, mixed_ok⟩⟩⟩, ⟨td181_ok, ⟨td176_ok, ⟨td172_ok, ⟨td165_ok, mixed_ok, mixed_ok⟩, ⟨td174_ok, mixed_ok, mixed_ok⟩⟩, ⟨td179_ok, ⟨td177_ok, mixed_ok, mixed_ok⟩, mixed_ok⟩⟩, ⟨td208_ok, ⟨td203_ok, ⟨td188_ok, mixed_ok, mixed_ok⟩, mixed_ok⟩, ⟨td227_ok, ⟨td223_ok, mixed_ok, mixed_ok⟩, mixed_ok⟩⟩⟩⟩⟩
end Go.Proofs.Ytjomgcgeknpehaa
