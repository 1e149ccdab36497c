/- What is known of the types of this program. No condition. -/
import Derived.Test.YtafipjhalboefaaVD
import Derived.Test.YtafipjhalboefaaProg
import Derived.KernelRfl
namespace Go.Proofs.Ytafipjhalboefaa
open Go Go.Vx

def td3 : TD := { ti := .sc, u := .int .i64, zs := some [.i .i64 0], ones := [], cells := 1, eqs := [] }
theorem td3_ok : td3.ok Try.prog 3 := ⟨by kernel_rfl, by kernel_rfl, by kernel_rfl, by kernel_rfl, ones_of _ (by kernel_rfl), by kernel_rfl⟩
def td4 : TD := { ti := .sc, u := .bool, zs := some [.b false], ones := [], cells := 1, eqs := [] }
theorem td4_ok : td4.ok Try.prog 4 := ⟨by kernel_rfl, by kernel_rfl, by kernel_rfl, by kernel_rfl, ones_of _ (by kernel_rfl), by kernel_rfl⟩
def td9 : TD := { ti := .str, u := .str, zs := some [.s []], ones := [], cells := 1, eqs := [] }
theorem td9_ok : td9.ok Try.prog 9 := ⟨by kernel_rfl, by kernel_rfl, by kernel_rfl, by kernel_rfl, ones_of _ (by kernel_rfl), by kernel_rfl⟩
def td23 : TD := { ti := .struct [(0, 1), (1, 1), (2, 1), (3, 1)] 4, u := .other, zs := some [.i .i64 0, .b false, .b false, .b false], ones := [true, true, true, true], cells := 4, eqs := [(0, .int .i64), (1, .bool), (2, .bool), (3, .bool)] }
theorem td23_ok : td23.ok Try.prog 23 := ⟨by kernel_rfl, by kernel_rfl, by kernel_rfl, by kernel_rfl, ones_of _ (by kernel_rfl), by kernel_rfl⟩
def td24 : TD := { ti := .slice 3 1 8, u := .other, zs := some [.nl], ones := [], cells := 1, eqs := [] }
theorem td24_ok : td24.ok Try.prog 24 := ⟨by kernel_rfl, by kernel_rfl, by kernel_rfl, by kernel_rfl, ones_of _ (by kernel_rfl), by kernel_rfl⟩
def td26 : TD := { ti := .struct [(0, 1), (1, 1), (2, 1)] 3, u := .other, zs := some [.nl, .nl, .nl], ones := [true, true, true], cells := 3, eqs := [] }
theorem td26_ok : td26.ok Try.prog 26 := ⟨by kernel_rfl, by kernel_rfl, by kernel_rfl, by kernel_rfl, ones_of _ (by kernel_rfl), by kernel_rfl⟩
def td27 : TD := { ti := .slice 163 24 216, u := .other, zs := some [.nl], ones := [], cells := 1, eqs := [] }
theorem td27_ok : td27.ok Try.prog 27 := ⟨by kernel_rfl, by kernel_rfl, by kernel_rfl, by kernel_rfl, ones_of _ (by kernel_rfl), by kernel_rfl⟩
def td29 : TD := { ti := .struct [(0, 4), (4, 1), (5, 1), (6, 1), (7, 1), (8, 3), (11, 3), (14, 1), (15, 1), (16, 1), (17, 1)] 18, u := .other, zs := some [.i .i64 0, .b false, .b false, .b false, .i .i64 0, .i .i64 0, .i .i64 0, .i .i64 0, .nl, .nl, .nl, .nl, .nl, .nl, .i .i64 0, .i .i64 0, .b false, .nl], ones := [false, true, true, true, true, false, false, true, true, true, true], cells := 18, eqs := [] }
theorem td29_ok : td29.ok Try.prog 29 := ⟨by kernel_rfl, by kernel_rfl, by kernel_rfl, by kernel_rfl, ones_of _ (by kernel_rfl), by kernel_rfl⟩
def td30 : TD := { ti := .slice 115 21 192, u := .other, zs := some [.nl], ones := [], cells := 1, eqs := [] }
theorem td30_ok : td30.ok Try.prog 30 := ⟨by kernel_rfl, by kernel_rfl, by kernel_rfl, by kernel_rfl, ones_of _ (by kernel_rfl), by kernel_rfl⟩
def td31 : TD := { ti := .slice 120 5 40, u := .other, zs := some [.nl], ones := [], cells := 1, eqs := [] }
theorem td31_ok : td31.ok Try.prog 31 := ⟨by kernel_rfl, by kernel_rfl, by kernel_rfl, by kernel_rfl, ones_of _ (by kernel_rfl), by kernel_rfl⟩
def td33 : TD := { ti := .struct [(0, 1), (1, 1), (2, 1), (3, 1)] 4, u := .other, zs := some [.i .i64 0, .i .i64 0, .nl, .nl], ones := [true, true, true, true], cells := 4, eqs := [] }
theorem td33_ok : td33.ok Try.prog 33 := ⟨by kernel_rfl, by kernel_rfl, by kernel_rfl, by kernel_rfl, ones_of _ (by kernel_rfl), by kernel_rfl⟩
def td35 : TD := { ti := .struct [(0, 1), (1, 1), (2, 1)] 3, u := .other, zs := some [.i .i64 0, .i .i64 0, .s []], ones := [true, true, true], cells := 3, eqs := [(0, .int .i64), (1, .int .i64), (2, .str)] }
theorem td35_ok : td35.ok Try.prog 35 := ⟨by kernel_rfl, by kernel_rfl, by kernel_rfl, by kernel_rfl, ones_of _ (by kernel_rfl), by kernel_rfl⟩
def td37 : TD := { ti := .struct [(0, 1), (1, 1), (2, 1), (3, 4), (7, 4), (11, 1), (12, 1), (13, 3), (16, 3)] 19, u := .other, zs := some [.b false, .b false, .b false, .i .i64 0, .i .i64 0, .nl, .nl, .i .i64 0, .b false, .b false, .b false, .i .i64 0, .i .i64 0, .i .i64 0, .i .i64 0, .s [], .i .i64 0, .i .i64 0, .s []], ones := [true, true, true, false, false, true, true, false, false], cells := 19, eqs := [] }
theorem td37_ok : td37.ok Try.prog 37 := ⟨by kernel_rfl, by kernel_rfl, by kernel_rfl, by kernel_rfl, ones_of _ (by kernel_rfl), by kernel_rfl⟩
def td38 : TD := { ti := .slice 37 19 168, u := .other, zs := some [.nl], ones := [], cells := 1, eqs := [] }
theorem td38_ok : td38.ok Try.prog 38 := ⟨by kernel_rfl, by kernel_rfl, by kernel_rfl, by kernel_rfl, ones_of _ (by kernel_rfl), by kernel_rfl⟩
def td39 : TD := { ti := .slice 126 8 80, u := .other, zs := some [.nl], ones := [], cells := 1, eqs := [] }
theorem td39_ok : td39.ok Try.prog 39 := ⟨by kernel_rfl, by kernel_rfl, by kernel_rfl, by kernel_rfl, ones_of _ (by kernel_rfl), by kernel_rfl⟩
def td40 : TD := { ti := .slice 131 8 160, u := .other, zs := some [.nl], ones := [], cells := 1, eqs := [] }
theorem td40_ok : td40.ok Try.prog 40 := ⟨by kernel_rfl, by kernel_rfl, by kernel_rfl, by kernel_rfl, ones_of _ (by kernel_rfl), by kernel_rfl⟩
def td42 : TD := { ti := .struct [(0, 18), (18, 1), (19, 1), (20, 19), (39, 1), (40, 1), (41, 1), (42, 1)] 43, u := .other, zs := some [.i .i64 0, .b false, .b false, .b false, .i .i64 0, .i .i64 0, .i .i64 0, .i .i64 0, .nl, .nl, .nl, .nl, .nl, .nl, .i .i64 0, .i .i64 0, .b false, .nl, .nl, .nl, .b false, .b false, .b false, .i .i64 0, .i .i64 0, .nl, .nl, .i .i64 0, .b false, .b false, .b false, .i .i64 0, .i .i64 0, .i .i64 0, .i .i64 0, .s [], .i .i64 0, .i .i64 0, .s [], .nl, .nl, .nl, .nl], ones := [false, true, true, false, true, true, true, true], cells := 43, eqs := [] }
theorem td42_ok : td42.ok Try.prog 42 := ⟨by kernel_rfl, by kernel_rfl, by kernel_rfl, by kernel_rfl, ones_of _ (by kernel_rfl), by kernel_rfl⟩
def td45 : TD := { ti := .struct [(0, 1), (1, 1), (2, 1), (3, 1)] 4, u := .other, zs := some [.i .i64 0, .b false, .b false, .b false], ones := [true, true, true, true], cells := 4, eqs := [(0, .int .i64), (1, .bool), (2, .bool), (3, .bool)] }
theorem td45_ok : td45.ok Try.prog 45 := ⟨by kernel_rfl, by kernel_rfl, by kernel_rfl, by kernel_rfl, ones_of _ (by kernel_rfl), by kernel_rfl⟩
def td46 : TD := { ti := .struct [(0, 1), (1, 1), (2, 1)] 3, u := .other, zs := some [.nl, .nl, .nl], ones := [true, true, true], cells := 3, eqs := [] }
theorem td46_ok : td46.ok Try.prog 46 := ⟨by kernel_rfl, by kernel_rfl, by kernel_rfl, by kernel_rfl, ones_of _ (by kernel_rfl), by kernel_rfl⟩
def td47 : TD := { ti := .slice 176 24 216, u := .other, zs := some [.nl], ones := [], cells := 1, eqs := [] }
theorem td47_ok : td47.ok Try.prog 47 := ⟨by kernel_rfl, by kernel_rfl, by kernel_rfl, by kernel_rfl, ones_of _ (by kernel_rfl), by kernel_rfl⟩
def td49 : TD := { ti := .struct [(0, 4), (4, 1), (5, 1), (6, 1), (7, 1), (8, 3), (11, 3), (14, 1), (15, 1), (16, 1), (17, 1)] 18, u := .other, zs := some [.i .i64 0, .b false, .b false, .b false, .i .i64 0, .i .i64 0, .i .i64 0, .i .i64 0, .nl, .nl, .nl, .nl, .nl, .nl, .i .i64 0, .i .i64 0, .b false, .nl], ones := [false, true, true, true, true, false, false, true, true, true, true], cells := 18, eqs := [] }
theorem td49_ok : td49.ok Try.prog 49 := ⟨by kernel_rfl, by kernel_rfl, by kernel_rfl, by kernel_rfl, ones_of _ (by kernel_rfl), by kernel_rfl⟩
def td50 : TD := { ti := .slice 139 21 192, u := .other, zs := some [.nl], ones := [], cells := 1, eqs := [] }
theorem td50_ok : td50.ok Try.prog 50 := ⟨by kernel_rfl, by kernel_rfl, by kernel_rfl, by kernel_rfl, ones_of _ (by kernel_rfl), by kernel_rfl⟩
def td51 : TD := { ti := .slice 143 5 40, u := .other, zs := some [.nl], ones := [], cells := 1, eqs := [] }
theorem td51_ok : td51.ok Try.prog 51 := ⟨by kernel_rfl, by kernel_rfl, by kernel_rfl, by kernel_rfl, ones_of _ (by kernel_rfl), by kernel_rfl⟩
def td52 : TD := { ti := .struct [(0, 1), (1, 1), (2, 1), (3, 1)] 4, u := .other, zs := some [.i .i64 0, .i .i64 0, .nl, .nl], ones := [true, true, true, true], cells := 4, eqs := [] }
theorem td52_ok : td52.ok Try.prog 52 := ⟨by kernel_rfl, by kernel_rfl, by kernel_rfl, by kernel_rfl, ones_of _ (by kernel_rfl), by kernel_rfl⟩
def td53 : TD := { ti := .struct [(0, 1), (1, 1), (2, 1)] 3, u := .other, zs := some [.i .i64 0, .i .i64 0, .s []], ones := [true, true, true], cells := 3, eqs := [(0, .int .i64), (1, .int .i64), (2, .str)] }
theorem td53_ok : td53.ok Try.prog 53 := ⟨by kernel_rfl, by kernel_rfl, by kernel_rfl, by kernel_rfl, ones_of _ (by kernel_rfl), by kernel_rfl⟩
def td55 : TD := { ti := .struct [(0, 1), (1, 1), (2, 1), (3, 4), (7, 4), (11, 1), (12, 1), (13, 3), (16, 3)] 19, u := .other, zs := some [.b false, .b false, .b false, .i .i64 0, .i .i64 0, .nl, .nl, .i .i64 0, .b false, .b false, .b false, .i .i64 0, .i .i64 0, .i .i64 0, .i .i64 0, .s [], .i .i64 0, .i .i64 0, .s []], ones := [true, true, true, false, false, true, true, false, false], cells := 19, eqs := [] }
theorem td55_ok : td55.ok Try.prog 55 := ⟨by kernel_rfl, by kernel_rfl, by kernel_rfl, by kernel_rfl, ones_of _ (by kernel_rfl), by kernel_rfl⟩
def td56 : TD := { ti := .slice 55 19 168, u := .other, zs := some [.nl], ones := [], cells := 1, eqs := [] }
theorem td56_ok : td56.ok Try.prog 56 := ⟨by kernel_rfl, by kernel_rfl, by kernel_rfl, by kernel_rfl, ones_of _ (by kernel_rfl), by kernel_rfl⟩
def td57 : TD := { ti := .slice 67 8 80, u := .other, zs := some [.nl], ones := [], cells := 1, eqs := [] }
theorem td57_ok : td57.ok Try.prog 57 := ⟨by kernel_rfl, by kernel_rfl, by kernel_rfl, by kernel_rfl, ones_of _ (by kernel_rfl), by kernel_rfl⟩
def td58 : TD := { ti := .slice 85 8 160, u := .other, zs := some [.nl], ones := [], cells := 1, eqs := [] }
theorem td58_ok : td58.ok Try.prog 58 := ⟨by kernel_rfl, by kernel_rfl, by kernel_rfl, by kernel_rfl, ones_of _ (by kernel_rfl), by kernel_rfl⟩
def td60 : TD := { ti := .struct [(0, 18), (18, 1), (19, 1), (20, 19), (39, 1), (40, 1), (41, 1), (42, 1)] 43, u := .other, zs := some [.i .i64 0, .b false, .b false, .b false, .i .i64 0, .i .i64 0, .i .i64 0, .i .i64 0, .nl, .nl, .nl, .nl, .nl, .nl, .i .i64 0, .i .i64 0, .b false, .nl, .nl, .nl, .b false, .b false, .b false, .i .i64 0, .i .i64 0, .nl, .nl, .i .i64 0, .b false, .b false, .b false, .i .i64 0, .i .i64 0, .i .i64 0, .i .i64 0, .s [], .i .i64 0, .i .i64 0, .s [], .nl, .nl, .nl, .nl], ones := [false, true, true, false, true, true, true, true], cells := 43, eqs := [] }
theorem td60_ok : td60.ok Try.prog 60 := ⟨by kernel_rfl, by kernel_rfl, by kernel_rfl, by kernel_rfl, ones_of _ (by kernel_rfl), by kernel_rfl⟩
def td65 : TD := { ti := .struct [(0, 1), (1, 1), (2, 1)] 3, u := .other, zs := some [.b false, .i .i64 0, .s []], ones := [true, true, true], cells := 3, eqs := [(0, .bool), (1, .int .i64), (2, .str)] }
theorem td65_ok : td65.ok Try.prog 65 := ⟨by kernel_rfl, by kernel_rfl, by kernel_rfl, by kernel_rfl, ones_of _ (by kernel_rfl), by kernel_rfl⟩
def td67 : TD := { ti := .struct [(0, 1), (1, 1), (2, 3), (5, 3)] 8, u := .other, zs := some [.i .i64 0, .i .i64 0, .b false, .i .i64 0, .s [], .i .i64 0, .i .i64 0, .s []], ones := [true, true, false, false], cells := 8, eqs := [] }
theorem td67_ok : td67.ok Try.prog 67 := ⟨by kernel_rfl, by kernel_rfl, by kernel_rfl, by kernel_rfl, ones_of _ (by kernel_rfl), by kernel_rfl⟩
def td81 : TD := { ti := .slice 87 3 24, u := .other, zs := some [.nl], ones := [], cells := 1, eqs := [] }
theorem td81_ok : td81.ok Try.prog 81 := ⟨by kernel_rfl, by kernel_rfl, by kernel_rfl, by kernel_rfl, ones_of _ (by kernel_rfl), by kernel_rfl⟩
def td82 : TD := { ti := .slice 9 1 16, u := .other, zs := some [.nl], ones := [], cells := 1, eqs := [] }
theorem td82_ok : td82.ok Try.prog 82 := ⟨by kernel_rfl, by kernel_rfl, by kernel_rfl, by kernel_rfl, ones_of _ (by kernel_rfl), by kernel_rfl⟩
def td83 : TD := { ti := .slice 53 3 32, u := .other, zs := some [.nl], ones := [], cells := 1, eqs := [] }
theorem td83_ok : td83.ok Try.prog 83 := ⟨by kernel_rfl, by kernel_rfl, by kernel_rfl, by kernel_rfl, ones_of _ (by kernel_rfl), by kernel_rfl⟩
def td85 : TD := { ti := .struct [(0, 4), (4, 1), (5, 1), (6, 1), (7, 1)] 8, u := .other, zs := some [.i .i64 0, .i .i64 0, .nl, .nl, .nl, .nl, .nl, .nl], ones := [false, true, true, true, true], cells := 8, eqs := [] }
theorem td85_ok : td85.ok Try.prog 85 := ⟨by kernel_rfl, by kernel_rfl, by kernel_rfl, by kernel_rfl, ones_of _ (by kernel_rfl), by kernel_rfl⟩
def td87 : TD := { ti := .struct [(0, 1), (1, 1), (2, 1)] 3, u := .other, zs := some [.i .i64 0, .i .i64 0, .i .i64 0], ones := [true, true, true], cells := 3, eqs := [(0, .int .i64), (1, .int .i64), (2, .int .i64)] }
theorem td87_ok : td87.ok Try.prog 87 := ⟨by kernel_rfl, by kernel_rfl, by kernel_rfl, by kernel_rfl, ones_of _ (by kernel_rfl), by kernel_rfl⟩
def td111 : TD := { ti := .struct [(0, 1), (1, 1), (2, 1)] 3, u := .other, zs := some [.i .i64 0, .i .i64 0, .i .i64 0], ones := [true, true, true], cells := 3, eqs := [(0, .int .i64), (1, .int .i64), (2, .int .i64)] }
theorem td111_ok : td111.ok Try.prog 111 := ⟨by kernel_rfl, by kernel_rfl, by kernel_rfl, by kernel_rfl, ones_of _ (by kernel_rfl), by kernel_rfl⟩
def td113 : TD := { ti := .struct [(0, 4), (4, 4), (8, 3), (11, 1), (12, 1), (13, 1), (14, 1), (15, 1), (16, 3)] 19, u := .other, zs := some [.i .i64 0, .i .i64 0, .nl, .nl, .i .i64 0, .b false, .b false, .b false, .i .i64 0, .i .i64 0, .i .i64 0, .i .i64 0, .i .i64 0, .i .i64 0, .i .i64 0, .b false, .i .i64 0, .i .i64 0, .s []], ones := [false, false, false, true, true, true, true, true, false], cells := 19, eqs := [] }
theorem td113_ok : td113.ok Try.prog 113 := ⟨by kernel_rfl, by kernel_rfl, by kernel_rfl, by kernel_rfl, ones_of _ (by kernel_rfl), by kernel_rfl⟩
def td115 : TD := { ti := .struct [(0, 19), (19, 1), (20, 1)] 21, u := .other, zs := some [.i .i64 0, .i .i64 0, .nl, .nl, .i .i64 0, .b false, .b false, .b false, .i .i64 0, .i .i64 0, .i .i64 0, .i .i64 0, .i .i64 0, .i .i64 0, .i .i64 0, .b false, .i .i64 0, .i .i64 0, .s [], .i .i64 0, .i .i64 0], ones := [false, true, true], cells := 21, eqs := [] }
theorem td115_ok : td115.ok Try.prog 115 := ⟨by kernel_rfl, by kernel_rfl, by kernel_rfl, by kernel_rfl, ones_of _ (by kernel_rfl), by kernel_rfl⟩
def td118 : TD := { ti := .struct [(0, 1), (1, 1), (2, 1), (3, 1)] 4, u := .other, zs := some [.i .i64 0, .b false, .b false, .s []], ones := [true, true, true, true], cells := 4, eqs := [(0, .int .i64), (1, .bool), (2, .bool), (3, .str)] }
theorem td118_ok : td118.ok Try.prog 118 := ⟨by kernel_rfl, by kernel_rfl, by kernel_rfl, by kernel_rfl, ones_of _ (by kernel_rfl), by kernel_rfl⟩
def td120 : TD := { ti := .struct [(0, 1), (1, 4)] 5, u := .other, zs := some [.i .i64 0, .i .i64 0, .b false, .b false, .s []], ones := [true, false], cells := 5, eqs := [] }
theorem td120_ok : td120.ok Try.prog 120 := ⟨by kernel_rfl, by kernel_rfl, by kernel_rfl, by kernel_rfl, ones_of _ (by kernel_rfl), by kernel_rfl⟩
def td124 : TD := { ti := .struct [(0, 1), (1, 1), (2, 1)] 3, u := .other, zs := some [.b false, .i .i64 0, .s []], ones := [true, true, true], cells := 3, eqs := [(0, .bool), (1, .int .i64), (2, .str)] }
theorem td124_ok : td124.ok Try.prog 124 := ⟨by kernel_rfl, by kernel_rfl, by kernel_rfl, by kernel_rfl, ones_of _ (by kernel_rfl), by kernel_rfl⟩
def td126 : TD := { ti := .struct [(0, 1), (1, 1), (2, 3), (5, 3)] 8, u := .other, zs := some [.i .i64 0, .i .i64 0, .b false, .i .i64 0, .s [], .i .i64 0, .i .i64 0, .s []], ones := [true, true, false, false], cells := 8, eqs := [] }
theorem td126_ok : td126.ok Try.prog 126 := ⟨by kernel_rfl, by kernel_rfl, by kernel_rfl, by kernel_rfl, ones_of _ (by kernel_rfl), by kernel_rfl⟩
def td128 : TD := { ti := .slice 196 3 24, u := .other, zs := some [.nl], ones := [], cells := 1, eqs := [] }
theorem td128_ok : td128.ok Try.prog 128 := ⟨by kernel_rfl, by kernel_rfl, by kernel_rfl, by kernel_rfl, ones_of _ (by kernel_rfl), by kernel_rfl⟩
def td129 : TD := { ti := .slice 35 3 32, u := .other, zs := some [.nl], ones := [], cells := 1, eqs := [] }
theorem td129_ok : td129.ok Try.prog 129 := ⟨by kernel_rfl, by kernel_rfl, by kernel_rfl, by kernel_rfl, ones_of _ (by kernel_rfl), by kernel_rfl⟩
def td131 : TD := { ti := .struct [(0, 4), (4, 1), (5, 1), (6, 1), (7, 1)] 8, u := .other, zs := some [.i .i64 0, .i .i64 0, .nl, .nl, .nl, .nl, .nl, .nl], ones := [false, true, true, true, true], cells := 8, eqs := [] }
theorem td131_ok : td131.ok Try.prog 131 := ⟨by kernel_rfl, by kernel_rfl, by kernel_rfl, by kernel_rfl, ones_of _ (by kernel_rfl), by kernel_rfl⟩
def td135 : TD := { ti := .struct [(0, 1), (1, 1), (2, 1)] 3, u := .other, zs := some [.i .i64 0, .i .i64 0, .i .i64 0], ones := [true, true, true], cells := 3, eqs := [(0, .int .i64), (1, .int .i64), (2, .int .i64)] }
theorem td135_ok : td135.ok Try.prog 135 := ⟨by kernel_rfl, by kernel_rfl, by kernel_rfl, by kernel_rfl, ones_of _ (by kernel_rfl), by kernel_rfl⟩
def td137 : TD := { ti := .struct [(0, 4), (4, 4), (8, 3), (11, 1), (12, 1), (13, 1), (14, 1), (15, 1), (16, 3)] 19, u := .other, zs := some [.i .i64 0, .i .i64 0, .nl, .nl, .i .i64 0, .b false, .b false, .b false, .i .i64 0, .i .i64 0, .i .i64 0, .i .i64 0, .i .i64 0, .i .i64 0, .i .i64 0, .b false, .i .i64 0, .i .i64 0, .s []], ones := [false, false, false, true, true, true, true, true, false], cells := 19, eqs := [] }
theorem td137_ok : td137.ok Try.prog 137 := ⟨by kernel_rfl, by kernel_rfl, by kernel_rfl, by kernel_rfl, ones_of _ (by kernel_rfl), by kernel_rfl⟩
def td139 : TD := { ti := .struct [(0, 19), (19, 1), (20, 1)] 21, u := .other, zs := some [.i .i64 0, .i .i64 0, .nl, .nl, .i .i64 0, .b false, .b false, .b false, .i .i64 0, .i .i64 0, .i .i64 0, .i .i64 0, .i .i64 0, .i .i64 0, .i .i64 0, .b false, .i .i64 0, .i .i64 0, .s [], .i .i64 0, .i .i64 0], ones := [false, true, true], cells := 21, eqs := [] }
theorem td139_ok : td139.ok Try.prog 139 := ⟨by kernel_rfl, by kernel_rfl, by kernel_rfl, by kernel_rfl, ones_of _ (by kernel_rfl), by kernel_rfl⟩
def td141 : TD := { ti := .struct [(0, 1), (1, 1), (2, 1), (3, 1)] 4, u := .other, zs := some [.i .i64 0, .b false, .b false, .s []], ones := [true, true, true, true], cells := 4, eqs := [(0, .int .i64), (1, .bool), (2, .bool), (3, .str)] }
theorem td141_ok : td141.ok Try.prog 141 := ⟨by kernel_rfl, by kernel_rfl, by kernel_rfl, by kernel_rfl, ones_of _ (by kernel_rfl), by kernel_rfl⟩
def td143 : TD := { ti := .struct [(0, 1), (1, 4)] 5, u := .other, zs := some [.i .i64 0, .i .i64 0, .b false, .b false, .s []], ones := [true, false], cells := 5, eqs := [] }
theorem td143_ok : td143.ok Try.prog 143 := ⟨by kernel_rfl, by kernel_rfl, by kernel_rfl, by kernel_rfl, ones_of _ (by kernel_rfl), by kernel_rfl⟩
def td157 : TD := { ti := .slice 118 4 32, u := .other, zs := some [.nl], ones := [], cells := 1, eqs := [] }
theorem td157_ok : td157.ok Try.prog 157 := ⟨by kernel_rfl, by kernel_rfl, by kernel_rfl, by kernel_rfl, ones_of _ (by kernel_rfl), by kernel_rfl⟩
def td159 : TD := { ti := .struct [(0, 1), (1, 1), (2, 1), (3, 1), (4, 1), (5, 1), (6, 1), (7, 1), (8, 1)] 9, u := .other, zs := some [.b false, .i .i64 0, .i .i64 0, .nl, .i .i64 0, .i .i64 0, .i .i64 0, .i .i64 0, .i .i64 0], ones := [true, true, true, true, true, true, true, true, true], cells := 9, eqs := [] }
theorem td159_ok : td159.ok Try.prog 159 := ⟨by kernel_rfl, by kernel_rfl, by kernel_rfl, by kernel_rfl, ones_of _ (by kernel_rfl), by kernel_rfl⟩
def td161 : TD := { ti := .struct [(0, 1), (1, 1), (2, 4), (6, 4), (10, 1), (11, 1), (12, 1)] 13, u := .other, zs := some [.b false, .b false, .i .i64 0, .i .i64 0, .nl, .nl, .i .i64 0, .b false, .b false, .b false, .i .i64 0, .i .i64 0, .i .i64 0], ones := [true, true, false, false, true, true, true], cells := 13, eqs := [] }
theorem td161_ok : td161.ok Try.prog 161 := ⟨by kernel_rfl, by kernel_rfl, by kernel_rfl, by kernel_rfl, ones_of _ (by kernel_rfl), by kernel_rfl⟩
def td163 : TD := { ti := .struct [(0, 9), (9, 13), (22, 1), (23, 1)] 24, u := .other, zs := some [.b false, .i .i64 0, .i .i64 0, .nl, .i .i64 0, .i .i64 0, .i .i64 0, .i .i64 0, .i .i64 0, .b false, .b false, .i .i64 0, .i .i64 0, .nl, .nl, .i .i64 0, .b false, .b false, .b false, .i .i64 0, .i .i64 0, .i .i64 0, .b false, .i .i64 0], ones := [false, false, true, true], cells := 24, eqs := [] }
theorem td163_ok : td163.ok Try.prog 163 := ⟨by kernel_rfl, by kernel_rfl, by kernel_rfl, by kernel_rfl, ones_of _ (by kernel_rfl), by kernel_rfl⟩
def td170 : TD := { ti := .slice 141 4 32, u := .other, zs := some [.nl], ones := [], cells := 1, eqs := [] }
theorem td170_ok : td170.ok Try.prog 170 := ⟨by kernel_rfl, by kernel_rfl, by kernel_rfl, by kernel_rfl, ones_of _ (by kernel_rfl), by kernel_rfl⟩
def td172 : TD := { ti := .struct [(0, 1), (1, 1), (2, 1), (3, 1), (4, 1), (5, 1), (6, 1), (7, 1), (8, 1)] 9, u := .other, zs := some [.b false, .i .i64 0, .i .i64 0, .nl, .i .i64 0, .i .i64 0, .i .i64 0, .i .i64 0, .i .i64 0], ones := [true, true, true, true, true, true, true, true, true], cells := 9, eqs := [] }
theorem td172_ok : td172.ok Try.prog 172 := ⟨by kernel_rfl, by kernel_rfl, by kernel_rfl, by kernel_rfl, ones_of _ (by kernel_rfl), by kernel_rfl⟩
def td174 : TD := { ti := .struct [(0, 1), (1, 1), (2, 4), (6, 4), (10, 1), (11, 1), (12, 1)] 13, u := .other, zs := some [.b false, .b false, .i .i64 0, .i .i64 0, .nl, .nl, .i .i64 0, .b false, .b false, .b false, .i .i64 0, .i .i64 0, .i .i64 0], ones := [true, true, false, false, true, true, true], cells := 13, eqs := [] }
theorem td174_ok : td174.ok Try.prog 174 := ⟨by kernel_rfl, by kernel_rfl, by kernel_rfl, by kernel_rfl, ones_of _ (by kernel_rfl), by kernel_rfl⟩
def td176 : TD := { ti := .struct [(0, 9), (9, 13), (22, 1), (23, 1)] 24, u := .other, zs := some [.b false, .i .i64 0, .i .i64 0, .nl, .i .i64 0, .i .i64 0, .i .i64 0, .i .i64 0, .i .i64 0, .b false, .b false, .i .i64 0, .i .i64 0, .nl, .nl, .i .i64 0, .b false, .b false, .b false, .i .i64 0, .i .i64 0, .i .i64 0, .b false, .i .i64 0], ones := [false, false, true, true], cells := 24, eqs := [] }
theorem td176_ok : td176.ok Try.prog 176 := ⟨by kernel_rfl, by kernel_rfl, by kernel_rfl, by kernel_rfl, ones_of _ (by kernel_rfl), by kernel_rfl⟩
def td196 : TD := { ti := .struct [(0, 1), (1, 1), (2, 1)] 3, u := .other, zs := some [.i .i64 0, .i .i64 0, .i .i64 0], ones := [true, true, true], cells := 3, eqs := [(0, .int .i64), (1, .int .i64), (2, .int .i64)] }
theorem td196_ok : td196.ok Try.prog 196 := ⟨by kernel_rfl, by kernel_rfl, by kernel_rfl, by kernel_rfl, ones_of _ (by kernel_rfl), by kernel_rfl⟩
theorem mixed_ok : Try.prog.follows .mixedOrders = true := by kernel_rfl
def tt : TT := (.node 65 td65 (.node 40 td40 (.node 29 td29 (.node 23 td23 (.node 4 td4 (.node 3 td3 .leaf .leaf) (.node 9 td9 .leaf .leaf)) (.node 26 td26 (.node 24 td24 .leaf .leaf) (.node 27 td27 .leaf .leaf))) (.node 35 td35 (.node 31 td31 (.node 30 td30 .leaf .leaf) (.node 33 td33 .leaf .leaf)) (.node 38 td38 (.node 37 td37 .leaf .leaf) (.node 39 td39 .leaf .leaf)))) (.node 52 td52 (.node 47 td47 (.node 45 td45 (.node 42 td42 .leaf .leaf) (.node 46 td46 .leaf .leaf)) (.node 50 td50 (.node 49 td49 .leaf .leaf) (.node 51 td51 .leaf .leaf))) (.node 57 td57 (.node 55 td55 (.node 53 td53 .leaf .leaf) (.node 56 td56 .leaf .leaf)) (.node 60 td60 (.node 58 td58 .leaf .leaf) .leaf)))) (.node 131 td131 (.node 113 td113 (.node 83 td83 (.node 81 td81 (.node 67 td67 .leaf .leaf) (.node 82 td82 .leaf .leaf)) (.node 87 td87 (.node 85 td85 .leaf .leaf) (.node 111 td111 .leaf .leaf))) (.node 124 td124 (.node 118 td118 (.node 115 td115 .leaf .leaf) (.node 120 td120 .leaf .leaf)) (.node 128 td128 (.node 126 td126 .leaf .leaf) (.node 129 td129 .leaf .leaf)))) (.node 161 td161 (.node 141 td141 (.node 137 td137 (.node 135 td135 .leaf .leaf) (.node 139 td139 .leaf .leaf)) (.node 157 td157 (.node 143 td143 .leaf .leaf) (.node 159 td159 .leaf .leaf))) (.node 174 td174 (.node 170 td170 (.node 163 td163 .leaf .leaf) (.node 172 td172 .leaf .leaf)) (.node 196 td196 (.node 176 td176 .leaf .leaf) .leaf)))))
theorem tt_ok : tt.ok Try.prog := ⟨td65_ok, ⟨td40_ok, ⟨td29_ok, ⟨td23_ok, ⟨td4_ok, ⟨td3_ok, mixed_ok, mixed_ok⟩, ⟨td9_ok, mixed_ok, mixed_ok⟩⟩, ⟨td26_ok, ⟨td24_ok, mixed_ok, mixed_ok⟩, ⟨td27_ok, mixed_ok, mixed_ok⟩⟩⟩, ⟨td35_ok, ⟨td31_ok, ⟨td30_ok, mixed_ok, mixed_ok⟩, ⟨td33_ok, mixed_ok, mixed_ok⟩⟩, ⟨td38_ok, ⟨td37_ok, mixed_ok, mixed_ok⟩, ⟨td39_ok, mixed_ok, mixed_ok⟩⟩⟩⟩, ⟨td52_ok, ⟨td47_ok, ⟨td45_ok, ⟨td42_ok, mixed_ok, mixed_ok⟩, ⟨td46_ok, mixed_ok, mixed_ok⟩⟩, ⟨td50_ok, ⟨td49_ok, mixed_ok, mixed_ok⟩, ⟨td51_ok, mixed_ok, mixed_ok⟩⟩⟩, ⟨td57_ok, ⟨td55_ok, ⟨td53_ok, mixed_ok, mixed_ok⟩, ⟨td56_ok, mixed_ok, mixed_ok⟩⟩, ⟨td60_ok, ⟨td58_ok, mixed_ok, mixed_ok⟩, mixed_ok⟩⟩⟩⟩, ⟨td131_ok, ⟨td113_ok, ⟨td83_ok, ⟨td81_ok, ⟨td67_ok, mixed_ok, mixed_ok⟩, ⟨td82_ok, mixed_ok, mixed_ok⟩⟩, ⟨td87_ok, ⟨td85_ok, mixed_ok, mixed_ok⟩, ⟨td111_ok, mixed_ok, mixed_ok⟩⟩⟩, ⟨td124_ok, ⟨td118_ok, ⟨td115_ok, mixed_ok, mixed_ok⟩, ⟨td120_ok, mixed_ok, mixed_ok⟩⟩, ⟨td128_ok, ⟨td126_ok, mixed_ok, mixed_ok⟩, ⟨td129_ok, mixed_ok, mixed_ok⟩⟩⟩⟩, ⟨td161_ok, ⟨td141_ok, ⟨td137_ok, ⟨td135_ok, mixed_ok, mixed_ok⟩, ⟨td139_ok, mixed_ok, mixed_ok⟩⟩, ⟨td157_ok, ⟨td143_ok, mixed_ok, mixed_ok⟩, ⟨td159_ok, mixed_ok, mixed_ok⟩⟩⟩, ⟨td174_ok, ⟨td170_ok, ⟨td163_ok, mixed_ok, mixed_ok⟩, ⟨td172_ok, mixed_ok, mixed_ok⟩⟩, ⟨td196_ok, ⟨td176_ok, mixed_ok, mixed_ok⟩, mixed_ok⟩⟩⟩⟩⟩
end Go.Proofs.Ytafipjhalboefaa
