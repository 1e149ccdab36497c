/- What is known of the types of this program. No condition. -/
import Derived.Test.YtafipjhalboefaaGreatVD
import Derived.Test.YtafipjhalboefaaGreatProg
import Derived.KernelRfl
namespace Go.Proofs.YtafipjhalboefaaGreat
open Go Go.Vx

def td3 : TD := { ti := .sc, u := .int .i64, zs := some [.i .i64 0], ones := [], cells := 1, eqs := [] }
theorem td3_ok : td3.ok Tryz.prog 3 := ⟨by kernel_rfl, by kernel_rfl, by kernel_rfl, by kernel_rfl, ones_of _ (by kernel_rfl), by kernel_rfl⟩
def td4 : TD := { ti := .sc, u := .bool, zs := some [.b false], ones := [], cells := 1, eqs := [] }
theorem td4_ok : td4.ok Tryz.prog 4 := ⟨by kernel_rfl, by kernel_rfl, by kernel_rfl, by kernel_rfl, ones_of _ (by kernel_rfl), by kernel_rfl⟩
def td5 : TD := { ti := .sc, u := .int .u8, zs := some [.i .u8 0], ones := [], cells := 1, eqs := [] }
theorem td5_ok : td5.ok Tryz.prog 5 := ⟨by kernel_rfl, by kernel_rfl, by kernel_rfl, by kernel_rfl, ones_of _ (by kernel_rfl), by kernel_rfl⟩
def td9 : TD := { ti := .str, u := .str, zs := some [.s []], ones := [], cells := 1, eqs := [] }
theorem td9_ok : td9.ok Tryz.prog 9 := ⟨by kernel_rfl, by kernel_rfl, by kernel_rfl, by kernel_rfl, ones_of _ (by kernel_rfl), by kernel_rfl⟩
def td23 : TD := { ti := .struct [(0, 1), (1, 1), (2, 1), (3, 1)] 4, u := .other, zs := some [.i .i64 0, .b false, .b false, .b false], ones := [true, true, true, true], cells := 4, eqs := [(0, .int .i64), (1, .bool), (2, .bool), (3, .bool)] }
theorem td23_ok : td23.ok Tryz.prog 23 := ⟨by kernel_rfl, by kernel_rfl, by kernel_rfl, by kernel_rfl, ones_of _ (by kernel_rfl), by kernel_rfl⟩
def td24 : TD := { ti := .slice 3 1 8, u := .other, zs := some [.nl], ones := [], cells := 1, eqs := [] }
theorem td24_ok : td24.ok Tryz.prog 24 := ⟨by kernel_rfl, by kernel_rfl, by kernel_rfl, by kernel_rfl, ones_of _ (by kernel_rfl), by kernel_rfl⟩
def td26 : TD := { ti := .struct [(0, 1), (1, 1), (2, 1)] 3, u := .other, zs := some [.nl, .nl, .nl], ones := [true, true, true], cells := 3, eqs := [] }
theorem td26_ok : td26.ok Tryz.prog 26 := ⟨by kernel_rfl, by kernel_rfl, by kernel_rfl, by kernel_rfl, ones_of _ (by kernel_rfl), by kernel_rfl⟩
def td27 : TD := { ti := .slice 203 24 216, u := .other, zs := some [.nl], ones := [], cells := 1, eqs := [] }
theorem td27_ok : td27.ok Tryz.prog 27 := ⟨by kernel_rfl, by kernel_rfl, by kernel_rfl, by kernel_rfl, ones_of _ (by kernel_rfl), by kernel_rfl⟩
def td29 : TD := { ti := .struct [(0, 4), (4, 1), (5, 1), (6, 1), (7, 1), (8, 3), (11, 3), (14, 1), (15, 1), (16, 1), (17, 1)] 18, u := .other, zs := some [.i .i64 0, .b false, .b false, .b false, .i .i64 0, .i .i64 0, .i .i64 0, .i .i64 0, .nl, .nl, .nl, .nl, .nl, .nl, .i .i64 0, .i .i64 0, .b false, .nl], ones := [false, true, true, true, true, false, false, true, true, true, true], cells := 18, eqs := [] }
theorem td29_ok : td29.ok Tryz.prog 29 := ⟨by kernel_rfl, by kernel_rfl, by kernel_rfl, by kernel_rfl, ones_of _ (by kernel_rfl), by kernel_rfl⟩
def td30 : TD := { ti := .slice 139 21 192, u := .other, zs := some [.nl], ones := [], cells := 1, eqs := [] }
theorem td30_ok : td30.ok Tryz.prog 30 := ⟨by kernel_rfl, by kernel_rfl, by kernel_rfl, by kernel_rfl, ones_of _ (by kernel_rfl), by kernel_rfl⟩
def td31 : TD := { ti := .slice 144 5 40, u := .other, zs := some [.nl], ones := [], cells := 1, eqs := [] }
theorem td31_ok : td31.ok Tryz.prog 31 := ⟨by kernel_rfl, by kernel_rfl, by kernel_rfl, by kernel_rfl, ones_of _ (by kernel_rfl), by kernel_rfl⟩
def td33 : TD := { ti := .struct [(0, 1), (1, 1), (2, 1), (3, 1)] 4, u := .other, zs := some [.i .i64 0, .i .i64 0, .nl, .nl], ones := [true, true, true, true], cells := 4, eqs := [] }
theorem td33_ok : td33.ok Tryz.prog 33 := ⟨by kernel_rfl, by kernel_rfl, by kernel_rfl, by kernel_rfl, ones_of _ (by kernel_rfl), by kernel_rfl⟩
def td35 : TD := { ti := .struct [(0, 1), (1, 1), (2, 1)] 3, u := .other, zs := some [.i .i64 0, .i .i64 0, .s []], ones := [true, true, true], cells := 3, eqs := [(0, .int .i64), (1, .int .i64), (2, .str)] }
theorem td35_ok : td35.ok Tryz.prog 35 := ⟨by kernel_rfl, by kernel_rfl, by kernel_rfl, by kernel_rfl, ones_of _ (by kernel_rfl), by kernel_rfl⟩
def td37 : TD := { ti := .struct [(0, 1), (1, 1), (2, 1), (3, 4), (7, 4), (11, 1), (12, 1), (13, 3), (16, 3)] 19, u := .other, zs := some [.b false, .b false, .b false, .i .i64 0, .i .i64 0, .nl, .nl, .i .i64 0, .b false, .b false, .b false, .i .i64 0, .i .i64 0, .i .i64 0, .i .i64 0, .s [], .i .i64 0, .i .i64 0, .s []], ones := [true, true, true, false, false, true, true, false, false], cells := 19, eqs := [] }
theorem td37_ok : td37.ok Tryz.prog 37 := ⟨by kernel_rfl, by kernel_rfl, by kernel_rfl, by kernel_rfl, ones_of _ (by kernel_rfl), by kernel_rfl⟩
def td38 : TD := { ti := .slice 37 19 168, u := .other, zs := some [.nl], ones := [], cells := 1, eqs := [] }
theorem td38_ok : td38.ok Tryz.prog 38 := ⟨by kernel_rfl, by kernel_rfl, by kernel_rfl, by kernel_rfl, ones_of _ (by kernel_rfl), by kernel_rfl⟩
def td39 : TD := { ti := .slice 150 8 80, u := .other, zs := some [.nl], ones := [], cells := 1, eqs := [] }
theorem td39_ok : td39.ok Tryz.prog 39 := ⟨by kernel_rfl, by kernel_rfl, by kernel_rfl, by kernel_rfl, ones_of _ (by kernel_rfl), by kernel_rfl⟩
def td40 : TD := { ti := .slice 155 8 160, u := .other, zs := some [.nl], ones := [], cells := 1, eqs := [] }
theorem td40_ok : td40.ok Tryz.prog 40 := ⟨by kernel_rfl, by kernel_rfl, by kernel_rfl, by kernel_rfl, ones_of _ (by kernel_rfl), by kernel_rfl⟩
def td42 : TD := { ti := .struct [(0, 18), (18, 1), (19, 1), (20, 19), (39, 1), (40, 1), (41, 1), (42, 1)] 43, u := .other, zs := some [.i .i64 0, .b false, .b false, .b false, .i .i64 0, .i .i64 0, .i .i64 0, .i .i64 0, .nl, .nl, .nl, .nl, .nl, .nl, .i .i64 0, .i .i64 0, .b false, .nl, .nl, .nl, .b false, .b false, .b false, .i .i64 0, .i .i64 0, .nl, .nl, .i .i64 0, .b false, .b false, .b false, .i .i64 0, .i .i64 0, .i .i64 0, .i .i64 0, .s [], .i .i64 0, .i .i64 0, .s [], .nl, .nl, .nl, .nl], ones := [false, true, true, false, true, true, true, true], cells := 43, eqs := [] }
theorem td42_ok : td42.ok Tryz.prog 42 := ⟨by kernel_rfl, by kernel_rfl, by kernel_rfl, by kernel_rfl, ones_of _ (by kernel_rfl), by kernel_rfl⟩
def td44 : TD := { ti := .struct [(0, 1), (1, 1), (2, 1)] 3, u := .other, zs := some [.i .i64 0, .i .i64 0, .s []], ones := [true, true, true], cells := 3, eqs := [(0, .int .i64), (1, .int .i64), (2, .str)] }
theorem td44_ok : td44.ok Tryz.prog 44 := ⟨by kernel_rfl, by kernel_rfl, by kernel_rfl, by kernel_rfl, ones_of _ (by kernel_rfl), by kernel_rfl⟩
def td47 : TD := { ti := .struct [(0, 1), (1, 1), (2, 1), (3, 1)] 4, u := .other, zs := some [.i .i64 0, .b false, .b false, .b false], ones := [true, true, true, true], cells := 4, eqs := [(0, .int .i64), (1, .bool), (2, .bool), (3, .bool)] }
theorem td47_ok : td47.ok Tryz.prog 47 := ⟨by kernel_rfl, by kernel_rfl, by kernel_rfl, by kernel_rfl, ones_of _ (by kernel_rfl), by kernel_rfl⟩
def td48 : TD := { ti := .struct [(0, 1), (1, 1), (2, 1)] 3, u := .other, zs := some [.nl, .nl, .nl], ones := [true, true, true], cells := 3, eqs := [] }
theorem td48_ok : td48.ok Tryz.prog 48 := ⟨by kernel_rfl, by kernel_rfl, by kernel_rfl, by kernel_rfl, ones_of _ (by kernel_rfl), by kernel_rfl⟩
def td49 : TD := { ti := .slice 215 24 216, u := .other, zs := some [.nl], ones := [], cells := 1, eqs := [] }
theorem td49_ok : td49.ok Tryz.prog 49 := ⟨by kernel_rfl, by kernel_rfl, by kernel_rfl, by kernel_rfl, ones_of _ (by kernel_rfl), by kernel_rfl⟩
def td51 : TD := { ti := .struct [(0, 4), (4, 1), (5, 1), (6, 1), (7, 1), (8, 3), (11, 3), (14, 1), (15, 1), (16, 1), (17, 1)] 18, u := .other, zs := some [.i .i64 0, .b false, .b false, .b false, .i .i64 0, .i .i64 0, .i .i64 0, .i .i64 0, .nl, .nl, .nl, .nl, .nl, .nl, .i .i64 0, .i .i64 0, .b false, .nl], ones := [false, true, true, true, true, false, false, true, true, true, true], cells := 18, eqs := [] }
theorem td51_ok : td51.ok Tryz.prog 51 := ⟨by kernel_rfl, by kernel_rfl, by kernel_rfl, by kernel_rfl, ones_of _ (by kernel_rfl), by kernel_rfl⟩
def td52 : TD := { ti := .slice 165 21 192, u := .other, zs := some [.nl], ones := [], cells := 1, eqs := [] }
theorem td52_ok : td52.ok Tryz.prog 52 := ⟨by kernel_rfl, by kernel_rfl, by kernel_rfl, by kernel_rfl, ones_of _ (by kernel_rfl), by kernel_rfl⟩
def td53 : TD := { ti := .slice 169 5 40, u := .other, zs := some [.nl], ones := [], cells := 1, eqs := [] }
theorem td53_ok : td53.ok Tryz.prog 53 := ⟨by kernel_rfl, by kernel_rfl, by kernel_rfl, by kernel_rfl, ones_of _ (by kernel_rfl), by kernel_rfl⟩
def td54 : TD := { ti := .struct [(0, 1), (1, 1), (2, 1), (3, 1)] 4, u := .other, zs := some [.i .i64 0, .i .i64 0, .nl, .nl], ones := [true, true, true, true], cells := 4, eqs := [] }
theorem td54_ok : td54.ok Tryz.prog 54 := ⟨by kernel_rfl, by kernel_rfl, by kernel_rfl, by kernel_rfl, ones_of _ (by kernel_rfl), by kernel_rfl⟩
def td56 : TD := { ti := .struct [(0, 1), (1, 1), (2, 1), (3, 4), (7, 4), (11, 1), (12, 1), (13, 3), (16, 3)] 19, u := .other, zs := some [.b false, .b false, .b false, .i .i64 0, .i .i64 0, .nl, .nl, .i .i64 0, .b false, .b false, .b false, .i .i64 0, .i .i64 0, .i .i64 0, .i .i64 0, .s [], .i .i64 0, .i .i64 0, .s []], ones := [true, true, true, false, false, true, true, false, false], cells := 19, eqs := [] }
theorem td56_ok : td56.ok Tryz.prog 56 := ⟨by kernel_rfl, by kernel_rfl, by kernel_rfl, by kernel_rfl, ones_of _ (by kernel_rfl), by kernel_rfl⟩
def td57 : TD := { ti := .slice 56 19 168, u := .other, zs := some [.nl], ones := [], cells := 1, eqs := [] }
theorem td57_ok : td57.ok Tryz.prog 57 := ⟨by kernel_rfl, by kernel_rfl, by kernel_rfl, by kernel_rfl, ones_of _ (by kernel_rfl), by kernel_rfl⟩
def td58 : TD := { ti := .slice 115 8 80, u := .other, zs := some [.nl], ones := [], cells := 1, eqs := [] }
theorem td58_ok : td58.ok Tryz.prog 58 := ⟨by kernel_rfl, by kernel_rfl, by kernel_rfl, by kernel_rfl, ones_of _ (by kernel_rfl), by kernel_rfl⟩
def td59 : TD := { ti := .slice 87 8 160, u := .other, zs := some [.nl], ones := [], cells := 1, eqs := [] }
theorem td59_ok : td59.ok Tryz.prog 59 := ⟨by kernel_rfl, by kernel_rfl, by kernel_rfl, by kernel_rfl, ones_of _ (by kernel_rfl), by kernel_rfl⟩
def td61 : TD := { ti := .struct [(0, 18), (18, 1), (19, 1), (20, 19), (39, 1), (40, 1), (41, 1), (42, 1)] 43, u := .other, zs := some [.i .i64 0, .b false, .b false, .b false, .i .i64 0, .i .i64 0, .i .i64 0, .i .i64 0, .nl, .nl, .nl, .nl, .nl, .nl, .i .i64 0, .i .i64 0, .b false, .nl, .nl, .nl, .b false, .b false, .b false, .i .i64 0, .i .i64 0, .nl, .nl, .i .i64 0, .b false, .b false, .b false, .i .i64 0, .i .i64 0, .i .i64 0, .i .i64 0, .s [], .i .i64 0, .i .i64 0, .s [], .nl, .nl, .nl, .nl], ones := [false, true, true, false, true, true, true, true], cells := 43, eqs := [] }
theorem td61_ok : td61.ok Tryz.prog 61 := ⟨by kernel_rfl, by kernel_rfl, by kernel_rfl, by kernel_rfl, ones_of _ (by kernel_rfl), by kernel_rfl⟩
def td71 : TD := { ti := .slice 9 1 16, u := .other, zs := some [.nl], ones := [], cells := 1, eqs := [] }
theorem td71_ok : td71.ok Tryz.prog 71 := ⟨by kernel_rfl, by kernel_rfl, by kernel_rfl, by kernel_rfl, ones_of _ (by kernel_rfl), by kernel_rfl⟩
def td84 : TD := { ti := .slice 111 3 24, u := .other, zs := some [.nl], ones := [], cells := 1, eqs := [] }
theorem td84_ok : td84.ok Tryz.prog 84 := ⟨by kernel_rfl, by kernel_rfl, by kernel_rfl, by kernel_rfl, ones_of _ (by kernel_rfl), by kernel_rfl⟩
def td85 : TD := { ti := .slice 44 3 32, u := .other, zs := some [.nl], ones := [], cells := 1, eqs := [] }
theorem td85_ok : td85.ok Tryz.prog 85 := ⟨by kernel_rfl, by kernel_rfl, by kernel_rfl, by kernel_rfl, ones_of _ (by kernel_rfl), by kernel_rfl⟩
def td87 : TD := { ti := .struct [(0, 4), (4, 1), (5, 1), (6, 1), (7, 1)] 8, u := .other, zs := some [.i .i64 0, .i .i64 0, .nl, .nl, .nl, .nl, .nl, .nl], ones := [false, true, true, true, true], cells := 8, eqs := [] }
theorem td87_ok : td87.ok Tryz.prog 87 := ⟨by kernel_rfl, by kernel_rfl, by kernel_rfl, by kernel_rfl, ones_of _ (by kernel_rfl), by kernel_rfl⟩
def td89 : TD := { ti := .struct [(0, 1), (1, 1), (2, 1), (3, 1)] 4, u := .other, zs := some [.i .i64 0, .i .i64 0, .i .i64 0, .i .i64 0], ones := [true, true, true, true], cells := 4, eqs := [(0, .int .i64), (1, .int .i64), (2, .int .i64), (3, .int .i64)] }
theorem td89_ok : td89.ok Tryz.prog 89 := ⟨by kernel_rfl, by kernel_rfl, by kernel_rfl, by kernel_rfl, ones_of _ (by kernel_rfl), by kernel_rfl⟩
def td111 : TD := { ti := .struct [(0, 1), (1, 1), (2, 1)] 3, u := .other, zs := some [.i .i64 0, .i .i64 0, .i .i64 0], ones := [true, true, true], cells := 3, eqs := [(0, .int .i64), (1, .int .i64), (2, .int .i64)] }
theorem td111_ok : td111.ok Tryz.prog 111 := ⟨by kernel_rfl, by kernel_rfl, by kernel_rfl, by kernel_rfl, ones_of _ (by kernel_rfl), by kernel_rfl⟩
def td113 : TD := { ti := .struct [(0, 1), (1, 1), (2, 1)] 3, u := .other, zs := some [.b false, .i .i64 0, .s []], ones := [true, true, true], cells := 3, eqs := [(0, .bool), (1, .int .i64), (2, .str)] }
theorem td113_ok : td113.ok Tryz.prog 113 := ⟨by kernel_rfl, by kernel_rfl, by kernel_rfl, by kernel_rfl, ones_of _ (by kernel_rfl), by kernel_rfl⟩
def td115 : TD := { ti := .struct [(0, 1), (1, 1), (2, 3), (5, 3)] 8, u := .other, zs := some [.i .i64 0, .i .i64 0, .b false, .i .i64 0, .s [], .i .i64 0, .i .i64 0, .s []], ones := [true, true, false, false], cells := 8, eqs := [] }
theorem td115_ok : td115.ok Tryz.prog 115 := ⟨by kernel_rfl, by kernel_rfl, by kernel_rfl, by kernel_rfl, ones_of _ (by kernel_rfl), by kernel_rfl⟩
def td135 : TD := { ti := .struct [(0, 1), (1, 1), (2, 1)] 3, u := .other, zs := some [.i .i64 0, .i .i64 0, .i .i64 0], ones := [true, true, true], cells := 3, eqs := [(0, .int .i64), (1, .int .i64), (2, .int .i64)] }
theorem td135_ok : td135.ok Tryz.prog 135 := ⟨by kernel_rfl, by kernel_rfl, by kernel_rfl, by kernel_rfl, ones_of _ (by kernel_rfl), by kernel_rfl⟩
def td137 : TD := { ti := .struct [(0, 4), (4, 4), (8, 3), (11, 1), (12, 1), (13, 1), (14, 1), (15, 1), (16, 3)] 19, u := .other, zs := some [.i .i64 0, .i .i64 0, .nl, .nl, .i .i64 0, .b false, .b false, .b false, .i .i64 0, .i .i64 0, .i .i64 0, .i .i64 0, .i .i64 0, .i .i64 0, .i .i64 0, .b false, .i .i64 0, .i .i64 0, .s []], ones := [false, false, false, true, true, true, true, true, false], cells := 19, eqs := [] }
theorem td137_ok : td137.ok Tryz.prog 137 := ⟨by kernel_rfl, by kernel_rfl, by kernel_rfl, by kernel_rfl, ones_of _ (by kernel_rfl), by kernel_rfl⟩
def td139 : TD := { ti := .struct [(0, 19), (19, 1), (20, 1)] 21, u := .other, zs := some [.i .i64 0, .i .i64 0, .nl, .nl, .i .i64 0, .b false, .b false, .b false, .i .i64 0, .i .i64 0, .i .i64 0, .i .i64 0, .i .i64 0, .i .i64 0, .i .i64 0, .b false, .i .i64 0, .i .i64 0, .s [], .i .i64 0, .i .i64 0], ones := [false, true, true], cells := 21, eqs := [] }
theorem td139_ok : td139.ok Tryz.prog 139 := ⟨by kernel_rfl, by kernel_rfl, by kernel_rfl, by kernel_rfl, ones_of _ (by kernel_rfl), by kernel_rfl⟩
def td142 : TD := { ti := .struct [(0, 1), (1, 1), (2, 1), (3, 1)] 4, u := .other, zs := some [.i .i64 0, .b false, .b false, .s []], ones := [true, true, true, true], cells := 4, eqs := [(0, .int .i64), (1, .bool), (2, .bool), (3, .str)] }
theorem td142_ok : td142.ok Tryz.prog 142 := ⟨by kernel_rfl, by kernel_rfl, by kernel_rfl, by kernel_rfl, ones_of _ (by kernel_rfl), by kernel_rfl⟩
def td144 : TD := { ti := .struct [(0, 1), (1, 4)] 5, u := .other, zs := some [.i .i64 0, .i .i64 0, .b false, .b false, .s []], ones := [true, false], cells := 5, eqs := [] }
theorem td144_ok : td144.ok Tryz.prog 144 := ⟨by kernel_rfl, by kernel_rfl, by kernel_rfl, by kernel_rfl, ones_of _ (by kernel_rfl), by kernel_rfl⟩
def td148 : TD := { ti := .struct [(0, 1), (1, 1), (2, 1)] 3, u := .other, zs := some [.b false, .i .i64 0, .s []], ones := [true, true, true], cells := 3, eqs := [(0, .bool), (1, .int .i64), (2, .str)] }
theorem td148_ok : td148.ok Tryz.prog 148 := ⟨by kernel_rfl, by kernel_rfl, by kernel_rfl, by kernel_rfl, ones_of _ (by kernel_rfl), by kernel_rfl⟩
def td150 : TD := { ti := .struct [(0, 1), (1, 1), (2, 3), (5, 3)] 8, u := .other, zs := some [.i .i64 0, .i .i64 0, .b false, .i .i64 0, .s [], .i .i64 0, .i .i64 0, .s []], ones := [true, true, false, false], cells := 8, eqs := [] }
theorem td150_ok : td150.ok Tryz.prog 150 := ⟨by kernel_rfl, by kernel_rfl, by kernel_rfl, by kernel_rfl, ones_of _ (by kernel_rfl), by kernel_rfl⟩
def td152 : TD := { ti := .slice 237 3 24, u := .other, zs := some [.nl], ones := [], cells := 1, eqs := [] }
theorem td152_ok : td152.ok Tryz.prog 152 := ⟨by kernel_rfl, by kernel_rfl, by kernel_rfl, by kernel_rfl, ones_of _ (by kernel_rfl), by kernel_rfl⟩
def td153 : TD := { ti := .slice 35 3 32, u := .other, zs := some [.nl], ones := [], cells := 1, eqs := [] }
theorem td153_ok : td153.ok Tryz.prog 153 := ⟨by kernel_rfl, by kernel_rfl, by kernel_rfl, by kernel_rfl, ones_of _ (by kernel_rfl), by kernel_rfl⟩
def td155 : TD := { ti := .struct [(0, 4), (4, 1), (5, 1), (6, 1), (7, 1)] 8, u := .other, zs := some [.i .i64 0, .i .i64 0, .nl, .nl, .nl, .nl, .nl, .nl], ones := [false, true, true, true, true], cells := 8, eqs := [] }
theorem td155_ok : td155.ok Tryz.prog 155 := ⟨by kernel_rfl, by kernel_rfl, by kernel_rfl, by kernel_rfl, ones_of _ (by kernel_rfl), by kernel_rfl⟩
def td157 : TD := { ti := .slice 5 1 1, u := .other, zs := some [.nl], ones := [], cells := 1, eqs := [] }
theorem td157_ok : td157.ok Tryz.prog 157 := ⟨by kernel_rfl, by kernel_rfl, by kernel_rfl, by kernel_rfl, ones_of _ (by kernel_rfl), by kernel_rfl⟩
def td161 : TD := { ti := .struct [(0, 1), (1, 1), (2, 1)] 3, u := .other, zs := some [.i .i64 0, .i .i64 0, .i .i64 0], ones := [true, true, true], cells := 3, eqs := [(0, .int .i64), (1, .int .i64), (2, .int .i64)] }
theorem td161_ok : td161.ok Tryz.prog 161 := ⟨by kernel_rfl, by kernel_rfl, by kernel_rfl, by kernel_rfl, ones_of _ (by kernel_rfl), by kernel_rfl⟩
def td163 : TD := { ti := .struct [(0, 4), (4, 4), (8, 3), (11, 1), (12, 1), (13, 1), (14, 1), (15, 1), (16, 3)] 19, u := .other, zs := some [.i .i64 0, .i .i64 0, .nl, .nl, .i .i64 0, .b false, .b false, .b false, .i .i64 0, .i .i64 0, .i .i64 0, .i .i64 0, .i .i64 0, .i .i64 0, .i .i64 0, .b false, .i .i64 0, .i .i64 0, .s []], ones := [false, false, false, true, true, true, true, true, false], cells := 19, eqs := [] }
theorem td163_ok : td163.ok Tryz.prog 163 := ⟨by kernel_rfl, by kernel_rfl, by kernel_rfl, by kernel_rfl, ones_of _ (by kernel_rfl), by kernel_rfl⟩
def td165 : TD := { ti := .struct [(0, 19), (19, 1), (20, 1)] 21, u := .other, zs := some [.i .i64 0, .i .i64 0, .nl, .nl, .i .i64 0, .b false, .b false, .b false, .i .i64 0, .i .i64 0, .i .i64 0, .i .i64 0, .i .i64 0, .i .i64 0, .i .i64 0, .b false, .i .i64 0, .i .i64 0, .s [], .i .i64 0, .i .i64 0], ones := [false, true, true], cells := 21, eqs := [] }
theorem td165_ok : td165.ok Tryz.prog 165 := ⟨by kernel_rfl, by kernel_rfl, by kernel_rfl, by kernel_rfl, ones_of _ (by kernel_rfl), by kernel_rfl⟩
def td167 : TD := { ti := .struct [(0, 1), (1, 1), (2, 1), (3, 1)] 4, u := .other, zs := some [.i .i64 0, .b false, .b false, .s []], ones := [true, true, true, true], cells := 4, eqs := [(0, .int .i64), (1, .bool), (2, .bool), (3, .str)] }
theorem td167_ok : td167.ok Tryz.prog 167 := ⟨by kernel_rfl, by kernel_rfl, by kernel_rfl, by kernel_rfl, ones_of _ (by kernel_rfl), by kernel_rfl⟩
def td169 : TD := { ti := .struct [(0, 1), (1, 4)] 5, u := .other, zs := some [.i .i64 0, .i .i64 0, .b false, .b false, .s []], ones := [true, false], cells := 5, eqs := [] }
theorem td169_ok : td169.ok Tryz.prog 169 := ⟨by kernel_rfl, by kernel_rfl, by kernel_rfl, by kernel_rfl, ones_of _ (by kernel_rfl), by kernel_rfl⟩
def td197 : TD := { ti := .slice 142 4 32, u := .other, zs := some [.nl], ones := [], cells := 1, eqs := [] }
theorem td197_ok : td197.ok Tryz.prog 197 := ⟨by kernel_rfl, by kernel_rfl, by kernel_rfl, by kernel_rfl, ones_of _ (by kernel_rfl), by kernel_rfl⟩
def td199 : TD := { ti := .struct [(0, 1), (1, 1), (2, 1), (3, 1), (4, 1), (5, 1), (6, 1), (7, 1), (8, 1)] 9, u := .other, zs := some [.b false, .i .i64 0, .i .i64 0, .nl, .i .i64 0, .i .i64 0, .i .i64 0, .i .i64 0, .i .i64 0], ones := [true, true, true, true, true, true, true, true, true], cells := 9, eqs := [] }
theorem td199_ok : td199.ok Tryz.prog 199 := ⟨by kernel_rfl, by kernel_rfl, by kernel_rfl, by kernel_rfl, ones_of _ (by kernel_rfl), by kernel_rfl⟩
def td201 : TD := { ti := .struct [(0, 1), (1, 1), (2, 4), (6, 4), (10, 1), (11, 1), (12, 1)] 13, u := .other, zs := some [.b false, .b false, .i .i64 0, .i .i64 0, .nl, .nl, .i .i64 0, .b false, .b false, .b false, .i .i64 0, .i .i64 0, .i .i64 0], ones := [true, true, false, false, true, true, true], cells := 13, eqs := [] }
theorem td201_ok : td201.ok Tryz.prog 201 := ⟨by kernel_rfl, by kernel_rfl, by kernel_rfl, by kernel_rfl, ones_of _ (by kernel_rfl), by kernel_rfl⟩
def td203 : TD := { ti := .struct [(0, 9), (9, 13), (22, 1), (23, 1)] 24, u := .other, zs := some [.b false, .i .i64 0, .i .i64 0, .nl, .i .i64 0, .i .i64 0, .i .i64 0, .i .i64 0, .i .i64 0, .b false, .b false, .i .i64 0, .i .i64 0, .nl, .nl, .i .i64 0, .b false, .b false, .b false, .i .i64 0, .i .i64 0, .i .i64 0, .b false, .i .i64 0], ones := [false, false, true, true], cells := 24, eqs := [] }
theorem td203_ok : td203.ok Tryz.prog 203 := ⟨by kernel_rfl, by kernel_rfl, by kernel_rfl, by kernel_rfl, ones_of _ (by kernel_rfl), by kernel_rfl⟩
def td209 : TD := { ti := .slice 167 4 32, u := .other, zs := some [.nl], ones := [], cells := 1, eqs := [] }
theorem td209_ok : td209.ok Tryz.prog 209 := ⟨by kernel_rfl, by kernel_rfl, by kernel_rfl, by kernel_rfl, ones_of _ (by kernel_rfl), by kernel_rfl⟩
def td211 : TD := { ti := .struct [(0, 1), (1, 1), (2, 1), (3, 1), (4, 1), (5, 1), (6, 1), (7, 1), (8, 1)] 9, u := .other, zs := some [.b false, .i .i64 0, .i .i64 0, .nl, .i .i64 0, .i .i64 0, .i .i64 0, .i .i64 0, .i .i64 0], ones := [true, true, true, true, true, true, true, true, true], cells := 9, eqs := [] }
theorem td211_ok : td211.ok Tryz.prog 211 := ⟨by kernel_rfl, by kernel_rfl, by kernel_rfl, by kernel_rfl, ones_of _ (by kernel_rfl), by kernel_rfl⟩
def td213 : TD := { ti := .struct [(0, 1), (1, 1), (2, 4), (6, 4), (10, 1), (11, 1), (12, 1)] 13, u := .other, zs := some [.b false, .b false, .i .i64 0, .i .i64 0, .nl, .nl, .i .i64 0, .b false, .b false, .b false, .i .i64 0, .i .i64 0, .i .i64 0], ones := [true, true, false, false, true, true, true], cells := 13, eqs := [] }
theorem td213_ok : td213.ok Tryz.prog 213 := ⟨by kernel_rfl, by kernel_rfl, by kernel_rfl, by kernel_rfl, ones_of _ (by kernel_rfl), by kernel_rfl⟩
def td215 : TD := { ti := .struct [(0, 9), (9, 13), (22, 1), (23, 1)] 24, u := .other, zs := some [.b false, .i .i64 0, .i .i64 0, .nl, .i .i64 0, .i .i64 0, .i .i64 0, .i .i64 0, .i .i64 0, .b false, .b false, .i .i64 0, .i .i64 0, .nl, .nl, .i .i64 0, .b false, .b false, .b false, .i .i64 0, .i .i64 0, .i .i64 0, .b false, .i .i64 0], ones := [false, false, true, true], cells := 24, eqs := [] }
theorem td215_ok : td215.ok Tryz.prog 215 := ⟨by kernel_rfl, by kernel_rfl, by kernel_rfl, by kernel_rfl, ones_of _ (by kernel_rfl), by kernel_rfl⟩
def td229 : TD := { ti := .slice 24 1 24, u := .other, zs := some [.nl], ones := [], cells := 1, eqs := [] }
theorem td229_ok : td229.ok Tryz.prog 229 := ⟨by kernel_rfl, by kernel_rfl, by kernel_rfl, by kernel_rfl, ones_of _ (by kernel_rfl), by kernel_rfl⟩
def td237 : TD := { ti := .struct [(0, 1), (1, 1), (2, 1)] 3, u := .other, zs := some [.i .i64 0, .i .i64 0, .i .i64 0], ones := [true, true, true], cells := 3, eqs := [(0, .int .i64), (1, .int .i64), (2, .int .i64)] }
theorem td237_ok : td237.ok Tryz.prog 237 := ⟨by kernel_rfl, by kernel_rfl, by kernel_rfl, by kernel_rfl, ones_of _ (by kernel_rfl), by kernel_rfl⟩
theorem mixed_ok : Tryz.prog.follows .mixedOrders = true := by kernel_rfl
def tt : TT := (.node 84 td84 (.node 40 td40 (.node 29 td29 (.node 23 td23 (.node 5 td5 (.node 4 td4 (.node 3 td3 .leaf .leaf) .leaf) (.node 9 td9 .leaf .leaf)) (.node 26 td26 (.node 24 td24 .leaf .leaf) (.node 27 td27 .leaf .leaf))) (.node 35 td35 (.node 31 td31 (.node 30 td30 .leaf .leaf) (.node 33 td33 .leaf .leaf)) (.node 38 td38 (.node 37 td37 .leaf .leaf) (.node 39 td39 .leaf .leaf)))) (.node 53 td53 (.node 48 td48 (.node 44 td44 (.node 42 td42 .leaf .leaf) (.node 47 td47 .leaf .leaf)) (.node 51 td51 (.node 49 td49 .leaf .leaf) (.node 52 td52 .leaf .leaf))) (.node 58 td58 (.node 56 td56 (.node 54 td54 .leaf .leaf) (.node 57 td57 .leaf .leaf)) (.node 61 td61 (.node 59 td59 .leaf .leaf) (.node 71 td71 .leaf .leaf))))) (.node 157 td157 (.node 139 td139 (.node 113 td113 (.node 89 td89 (.node 87 td87 (.node 85 td85 .leaf .leaf) .leaf) (.node 111 td111 .leaf .leaf)) (.node 135 td135 (.node 115 td115 .leaf .leaf) (.node 137 td137 .leaf .leaf))) (.node 150 td150 (.node 144 td144 (.node 142 td142 .leaf .leaf) (.node 148 td148 .leaf .leaf)) (.node 153 td153 (.node 152 td152 .leaf .leaf) (.node 155 td155 .leaf .leaf)))) (.node 201 td201 (.node 167 td167 (.node 163 td163 (.node 161 td161 .leaf .leaf) (.node 165 td165 .leaf .leaf)) (.node 197 td197 (.node 169 td169 .leaf .leaf) (.node 199 td199 .leaf .leaf))) (.node 213 td213 (.node 209 td209 (.node 203 td203 .leaf .leaf) (.node 211 td211 .leaf .leaf)) (.node 229 td229 (.node 215 td215 .leaf .leaf) (.node 237 td237 .leaf .leaf))))))
theorem tt_ok : tt.ok Tryz.prog := ⟨td84_ok, ⟨td40_ok, ⟨td29_ok, ⟨td23_ok, ⟨td5_ok, ⟨td4_ok, ⟨td3_ok, mixed_ok, mixed_ok⟩, mixed_ok⟩, ⟨td9_ok, mixed_ok, mixed_ok⟩⟩, ⟨td26_ok, ⟨td24_ok, mixed_ok, mixed_ok⟩, ⟨td27_ok, mixed_ok, mixed_ok⟩⟩⟩, ⟨td35_ok, ⟨td31_ok, ⟨td30_ok, mixed_ok, mixed_ok⟩, ⟨td33_ok, mixed_ok, mixed_ok⟩⟩, ⟨td38_ok, ⟨td37_ok, mixed_ok, mixed_ok⟩, ⟨td39_ok, mixed_ok, mixed_ok⟩⟩⟩⟩, ⟨td53_ok, ⟨td48_ok, ⟨td44_ok, ⟨td42_ok, mixed_ok, mixed_ok⟩, ⟨td47_ok, mixed_ok, mixed_ok⟩⟩, ⟨td51_ok, ⟨td49_ok, mixed_ok, mixed_ok⟩, ⟨td52_ok, mixed_ok, mixed_ok⟩⟩⟩, ⟨td58_ok, ⟨td56_ok, ⟨td54_ok, mixed_ok, mixed_ok⟩, ⟨td57_ok, mixed_ok, mixed_ok⟩⟩, ⟨td61_ok, ⟨td59_ok, mixed_ok, mixed_ok⟩, ⟨td71_ok, mixed_ok, mixed_ok⟩⟩⟩⟩⟩, ⟨td157_ok, ⟨td139_ok, ⟨td113_ok, ⟨td89_ok, ⟨td87_ok, ⟨td85_ok, mixed_ok, mixed_ok⟩, mixed_ok⟩, ⟨td111_ok, mixed_ok, mixed_ok⟩⟩, ⟨td135_ok, ⟨td115_ok, mixed_ok, mixed_ok⟩, ⟨td137_ok, mixed_ok, mixed_ok⟩⟩⟩, ⟨td150_ok, ⟨td144_ok, ⟨td142_ok, mixed_ok, mixed_ok⟩, ⟨td148_ok, mixed_ok, mixed_ok⟩⟩, ⟨td153_ok, ⟨td152_ok, mixed_ok, mixed_ok⟩, ⟨td155_ok, mixed_ok, mixed_ok⟩⟩⟩⟩, ⟨td201_ok, ⟨td167_ok, ⟨td163_ok, ⟨td161_ok, mixed_ok, mixed_ok⟩, ⟨td165_ok, mixed_ok, mixed_ok⟩⟩, ⟨td197_ok, ⟨td169_ok, mixed_ok, mixed_ok⟩, ⟨td199_ok, mixed_ok, mixed_ok⟩⟩⟩, ⟨td213_ok, ⟨td209_ok, ⟨td203_ok, mixed_ok, mixed_ok⟩, ⟨td211_ok, mixed_ok, mixed_ok⟩⟩, ⟨td229_ok, ⟨td215_ok, mixed_ok, mixed_ok⟩, ⟨td237_ok, mixed_ok, mixed_ok⟩⟩⟩⟩⟩⟩
end Go.Proofs.YtafipjhalboefaaGreat
