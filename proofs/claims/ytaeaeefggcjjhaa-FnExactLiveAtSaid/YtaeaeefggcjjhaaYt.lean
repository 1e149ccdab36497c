/- What is known of the types of this program. No condition. -/
import Derived.Test.YtaeaeefggcjjhaaVD
import Derived.Test.YtaeaeefggcjjhaaProg
import Derived.KernelRfl
namespace Go.Proofs.Ytaeaeefggcjjhaa
open Go Go.Vx

def td3 : TD := { ti := .sc, u := .int .i64, zs := some [.i .i64 0], ones := [], cells := 1, eqs := [] }
theorem td3_ok : td3.ok Try.prog 3 := ⟨by kernel_rfl, by kernel_rfl, by kernel_rfl, by kernel_rfl, ones_of _ (by kernel_rfl), by kernel_rfl⟩
def td4 : TD := { ti := .sc, u := .bool, zs := some [.b false], ones := [], cells := 1, eqs := [] }
theorem td4_ok : td4.ok Try.prog 4 := ⟨by kernel_rfl, by kernel_rfl, by kernel_rfl, by kernel_rfl, ones_of _ (by kernel_rfl), by kernel_rfl⟩
def td5 : TD := { ti := .sc, u := .int .u8, zs := some [.i .u8 0], ones := [], cells := 1, eqs := [] }
theorem td5_ok : td5.ok Try.prog 5 := ⟨by kernel_rfl, by kernel_rfl, by kernel_rfl, by kernel_rfl, ones_of _ (by kernel_rfl), by kernel_rfl⟩
def td9 : TD := { ti := .str, u := .str, zs := some [.s []], ones := [], cells := 1, eqs := [] }
theorem td9_ok : td9.ok Try.prog 9 := ⟨by kernel_rfl, by kernel_rfl, by kernel_rfl, by kernel_rfl, ones_of _ (by kernel_rfl), by kernel_rfl⟩
def td23 : TD := { ti := .struct [(0, 1), (1, 1), (2, 1), (3, 1)] 4, u := .other, zs := some [.i .i64 0, .b false, .b false, .b false], ones := [true, true, true, true], cells := 4, eqs := [(0, .int .i64), (1, .bool), (2, .bool), (3, .bool)] }
theorem td23_ok : td23.ok Try.prog 23 := ⟨by kernel_rfl, by kernel_rfl, by kernel_rfl, by kernel_rfl, ones_of _ (by kernel_rfl), by kernel_rfl⟩
def td24 : TD := { ti := .slice 3 1 8, u := .other, zs := some [.nl], ones := [], cells := 1, eqs := [] }
theorem td24_ok : td24.ok Try.prog 24 := ⟨by kernel_rfl, by kernel_rfl, by kernel_rfl, by kernel_rfl, ones_of _ (by kernel_rfl), by kernel_rfl⟩
def td26 : TD := { ti := .struct [(0, 1), (1, 1), (2, 1)] 3, u := .other, zs := some [.nl, .nl, .nl], ones := [true, true, true], cells := 3, eqs := [] }
theorem td26_ok : td26.ok Try.prog 26 := ⟨by kernel_rfl, by kernel_rfl, by kernel_rfl, by kernel_rfl, ones_of _ (by kernel_rfl), by kernel_rfl⟩
def td27 : TD := { ti := .slice 26 3 72, u := .other, zs := some [.nl], ones := [], cells := 1, eqs := [] }
theorem td27_ok : td27.ok Try.prog 27 := ⟨by kernel_rfl, by kernel_rfl, by kernel_rfl, by kernel_rfl, ones_of _ (by kernel_rfl), by kernel_rfl⟩
def td28 : TD := { ti := .slice 208 10 80, u := .other, zs := some [.nl], ones := [], cells := 1, eqs := [] }
theorem td28_ok : td28.ok Try.prog 28 := ⟨by kernel_rfl, by kernel_rfl, by kernel_rfl, by kernel_rfl, ones_of _ (by kernel_rfl), by kernel_rfl⟩
def td30 : TD := { ti := .struct [(0, 4), (4, 1), (5, 1), (6, 1), (7, 1), (8, 3), (11, 1), (12, 1)] 13, u := .other, zs := some [.i .i64 0, .b false, .b false, .b false, .i .i64 0, .i .i64 0, .i .i64 0, .i .i64 0, .nl, .nl, .nl, .nl, .nl], ones := [false, true, true, true, true, false, true, true], cells := 13, eqs := [] }
theorem td30_ok : td30.ok Try.prog 30 := ⟨by kernel_rfl, by kernel_rfl, by kernel_rfl, by kernel_rfl, ones_of _ (by kernel_rfl), by kernel_rfl⟩
def td32 : TD := { ti := .slice 115 4 32, u := .other, zs := some [.nl], ones := [], cells := 1, eqs := [] }
theorem td32_ok : td32.ok Try.prog 32 := ⟨by kernel_rfl, by kernel_rfl, by kernel_rfl, by kernel_rfl, ones_of _ (by kernel_rfl), by kernel_rfl⟩
def td34 : TD := { ti := .struct [(0, 1), (1, 1), (2, 1), (3, 1)] 4, u := .other, zs := some [.i .i64 0, .b false, .b false, .b false], ones := [true, true, true, true], cells := 4, eqs := [(0, .int .i64), (1, .bool), (2, .bool), (3, .bool)] }
theorem td34_ok : td34.ok Try.prog 34 := ⟨by kernel_rfl, by kernel_rfl, by kernel_rfl, by kernel_rfl, ones_of _ (by kernel_rfl), by kernel_rfl⟩
def td35 : TD := { ti := .struct [(0, 1), (1, 1), (2, 1)] 3, u := .other, zs := some [.nl, .nl, .nl], ones := [true, true, true], cells := 3, eqs := [] }
theorem td35_ok : td35.ok Try.prog 35 := ⟨by kernel_rfl, by kernel_rfl, by kernel_rfl, by kernel_rfl, ones_of _ (by kernel_rfl), by kernel_rfl⟩
def td36 : TD := { ti := .slice 35 3 72, u := .other, zs := some [.nl], ones := [], cells := 1, eqs := [] }
theorem td36_ok : td36.ok Try.prog 36 := ⟨by kernel_rfl, by kernel_rfl, by kernel_rfl, by kernel_rfl, ones_of _ (by kernel_rfl), by kernel_rfl⟩
def td37 : TD := { ti := .slice 156 10 80, u := .other, zs := some [.nl], ones := [], cells := 1, eqs := [] }
theorem td37_ok : td37.ok Try.prog 37 := ⟨by kernel_rfl, by kernel_rfl, by kernel_rfl, by kernel_rfl, ones_of _ (by kernel_rfl), by kernel_rfl⟩
def td39 : TD := { ti := .struct [(0, 4), (4, 1), (5, 1), (6, 1), (7, 1), (8, 3), (11, 1), (12, 1)] 13, u := .other, zs := some [.i .i64 0, .b false, .b false, .b false, .i .i64 0, .i .i64 0, .i .i64 0, .i .i64 0, .nl, .nl, .nl, .nl, .nl], ones := [false, true, true, true, true, false, true, true], cells := 13, eqs := [] }
theorem td39_ok : td39.ok Try.prog 39 := ⟨by kernel_rfl, by kernel_rfl, by kernel_rfl, by kernel_rfl, ones_of _ (by kernel_rfl), by kernel_rfl⟩
def td50 : TD := { ti := .slice 9 1 16, u := .other, zs := some [.nl], ones := [], cells := 1, eqs := [] }
theorem td50_ok : td50.ok Try.prog 50 := ⟨by kernel_rfl, by kernel_rfl, by kernel_rfl, by kernel_rfl, ones_of _ (by kernel_rfl), by kernel_rfl⟩
def td55 : TD := { ti := .slice 129 10 96, u := .other, zs := some [.nl], ones := [], cells := 1, eqs := [] }
theorem td55_ok : td55.ok Try.prog 55 := ⟨by kernel_rfl, by kernel_rfl, by kernel_rfl, by kernel_rfl, ones_of _ (by kernel_rfl), by kernel_rfl⟩
def td63 : TD := { ti := .slice 238 24 216, u := .other, zs := some [.nl], ones := [], cells := 1, eqs := [] }
theorem td63_ok : td63.ok Try.prog 63 := ⟨by kernel_rfl, by kernel_rfl, by kernel_rfl, by kernel_rfl, ones_of _ (by kernel_rfl), by kernel_rfl⟩
def td65 : TD := { ti := .struct [(0, 4), (4, 1), (5, 1), (6, 1), (7, 1), (8, 3), (11, 3), (14, 1), (15, 1), (16, 1), (17, 1)] 18, u := .other, zs := some [.i .i64 0, .b false, .b false, .b false, .i .i64 0, .i .i64 0, .i .i64 0, .i .i64 0, .nl, .nl, .nl, .nl, .nl, .nl, .i .i64 0, .i .i64 0, .b false, .nl], ones := [false, true, true, true, true, false, false, true, true, true, true], cells := 18, eqs := [] }
theorem td65_ok : td65.ok Try.prog 65 := ⟨by kernel_rfl, by kernel_rfl, by kernel_rfl, by kernel_rfl, ones_of _ (by kernel_rfl), by kernel_rfl⟩
def td68 : TD := { ti := .slice 174 24 216, u := .other, zs := some [.nl], ones := [], cells := 1, eqs := [] }
theorem td68_ok : td68.ok Try.prog 68 := ⟨by kernel_rfl, by kernel_rfl, by kernel_rfl, by kernel_rfl, ones_of _ (by kernel_rfl), by kernel_rfl⟩
def td70 : TD := { ti := .struct [(0, 4), (4, 1), (5, 1), (6, 1), (7, 1), (8, 3), (11, 3), (14, 1), (15, 1), (16, 1), (17, 1)] 18, u := .other, zs := some [.i .i64 0, .b false, .b false, .b false, .i .i64 0, .i .i64 0, .i .i64 0, .i .i64 0, .nl, .nl, .nl, .nl, .nl, .nl, .i .i64 0, .i .i64 0, .b false, .nl], ones := [false, true, true, true, true, false, false, true, true, true, true], cells := 18, eqs := [] }
theorem td70_ok : td70.ok Try.prog 70 := ⟨by kernel_rfl, by kernel_rfl, by kernel_rfl, by kernel_rfl, ones_of _ (by kernel_rfl), by kernel_rfl⟩
def td74 : TD := { ti := .slice 251 21 192, u := .other, zs := some [.nl], ones := [], cells := 1, eqs := [] }
theorem td74_ok : td74.ok Try.prog 74 := ⟨by kernel_rfl, by kernel_rfl, by kernel_rfl, by kernel_rfl, ones_of _ (by kernel_rfl), by kernel_rfl⟩
def td75 : TD := { ti := .slice 255 5 40, u := .other, zs := some [.nl], ones := [], cells := 1, eqs := [] }
theorem td75_ok : td75.ok Try.prog 75 := ⟨by kernel_rfl, by kernel_rfl, by kernel_rfl, by kernel_rfl, ones_of _ (by kernel_rfl), by kernel_rfl⟩
def td77 : TD := { ti := .struct [(0, 1), (1, 1), (2, 1), (3, 1)] 4, u := .other, zs := some [.i .i64 0, .i .i64 0, .nl, .nl], ones := [true, true, true, true], cells := 4, eqs := [] }
theorem td77_ok : td77.ok Try.prog 77 := ⟨by kernel_rfl, by kernel_rfl, by kernel_rfl, by kernel_rfl, ones_of _ (by kernel_rfl), by kernel_rfl⟩
def td79 : TD := { ti := .struct [(0, 1), (1, 1), (2, 1)] 3, u := .other, zs := some [.i .i64 0, .i .i64 0, .s []], ones := [true, true, true], cells := 3, eqs := [(0, .int .i64), (1, .int .i64), (2, .str)] }
theorem td79_ok : td79.ok Try.prog 79 := ⟨by kernel_rfl, by kernel_rfl, by kernel_rfl, by kernel_rfl, ones_of _ (by kernel_rfl), by kernel_rfl⟩
def td81 : TD := { ti := .struct [(0, 1), (1, 1), (2, 1), (3, 4), (7, 4), (11, 1), (12, 1), (13, 3), (16, 3)] 19, u := .other, zs := some [.b false, .b false, .b false, .i .i64 0, .i .i64 0, .nl, .nl, .i .i64 0, .b false, .b false, .b false, .i .i64 0, .i .i64 0, .i .i64 0, .i .i64 0, .s [], .i .i64 0, .i .i64 0, .s []], ones := [true, true, true, false, false, true, true, false, false], cells := 19, eqs := [] }
theorem td81_ok : td81.ok Try.prog 81 := ⟨by kernel_rfl, by kernel_rfl, by kernel_rfl, by kernel_rfl, ones_of _ (by kernel_rfl), by kernel_rfl⟩
def td82 : TD := { ti := .slice 81 19 168, u := .other, zs := some [.nl], ones := [], cells := 1, eqs := [] }
theorem td82_ok : td82.ok Try.prog 82 := ⟨by kernel_rfl, by kernel_rfl, by kernel_rfl, by kernel_rfl, ones_of _ (by kernel_rfl), by kernel_rfl⟩
def td83 : TD := { ti := .slice 261 8 80, u := .other, zs := some [.nl], ones := [], cells := 1, eqs := [] }
theorem td83_ok : td83.ok Try.prog 83 := ⟨by kernel_rfl, by kernel_rfl, by kernel_rfl, by kernel_rfl, ones_of _ (by kernel_rfl), by kernel_rfl⟩
def td84 : TD := { ti := .slice 266 8 160, u := .other, zs := some [.nl], ones := [], cells := 1, eqs := [] }
theorem td84_ok : td84.ok Try.prog 84 := ⟨by kernel_rfl, by kernel_rfl, by kernel_rfl, by kernel_rfl, ones_of _ (by kernel_rfl), by kernel_rfl⟩
def td86 : TD := { ti := .struct [(0, 18), (18, 1), (19, 1), (20, 19), (39, 1), (40, 1), (41, 1), (42, 1)] 43, u := .other, zs := some [.i .i64 0, .b false, .b false, .b false, .i .i64 0, .i .i64 0, .i .i64 0, .i .i64 0, .nl, .nl, .nl, .nl, .nl, .nl, .i .i64 0, .i .i64 0, .b false, .nl, .nl, .nl, .b false, .b false, .b false, .i .i64 0, .i .i64 0, .nl, .nl, .i .i64 0, .b false, .b false, .b false, .i .i64 0, .i .i64 0, .i .i64 0, .i .i64 0, .s [], .i .i64 0, .i .i64 0, .s [], .nl, .nl, .nl, .nl], ones := [false, true, true, false, true, true, true, true], cells := 43, eqs := [] }
theorem td86_ok : td86.ok Try.prog 86 := ⟨by kernel_rfl, by kernel_rfl, by kernel_rfl, by kernel_rfl, ones_of _ (by kernel_rfl), by kernel_rfl⟩
def td89 : TD := { ti := .slice 152 21 192, u := .other, zs := some [.nl], ones := [], cells := 1, eqs := [] }
theorem td89_ok : td89.ok Try.prog 89 := ⟨by kernel_rfl, by kernel_rfl, by kernel_rfl, by kernel_rfl, ones_of _ (by kernel_rfl), by kernel_rfl⟩
def td90 : TD := { ti := .slice 269 5 40, u := .other, zs := some [.nl], ones := [], cells := 1, eqs := [] }
theorem td90_ok : td90.ok Try.prog 90 := ⟨by kernel_rfl, by kernel_rfl, by kernel_rfl, by kernel_rfl, ones_of _ (by kernel_rfl), by kernel_rfl⟩
def td91 : TD := { ti := .struct [(0, 1), (1, 1), (2, 1), (3, 1)] 4, u := .other, zs := some [.i .i64 0, .i .i64 0, .nl, .nl], ones := [true, true, true, true], cells := 4, eqs := [] }
theorem td91_ok : td91.ok Try.prog 91 := ⟨by kernel_rfl, by kernel_rfl, by kernel_rfl, by kernel_rfl, ones_of _ (by kernel_rfl), by kernel_rfl⟩
def td92 : TD := { ti := .struct [(0, 1), (1, 1), (2, 1)] 3, u := .other, zs := some [.i .i64 0, .i .i64 0, .s []], ones := [true, true, true], cells := 3, eqs := [(0, .int .i64), (1, .int .i64), (2, .str)] }
theorem td92_ok : td92.ok Try.prog 92 := ⟨by kernel_rfl, by kernel_rfl, by kernel_rfl, by kernel_rfl, ones_of _ (by kernel_rfl), by kernel_rfl⟩
def td94 : TD := { ti := .struct [(0, 1), (1, 1), (2, 1), (3, 4), (7, 4), (11, 1), (12, 1), (13, 3), (16, 3)] 19, u := .other, zs := some [.b false, .b false, .b false, .i .i64 0, .i .i64 0, .nl, .nl, .i .i64 0, .b false, .b false, .b false, .i .i64 0, .i .i64 0, .i .i64 0, .i .i64 0, .s [], .i .i64 0, .i .i64 0, .s []], ones := [true, true, true, false, false, true, true, false, false], cells := 19, eqs := [] }
theorem td94_ok : td94.ok Try.prog 94 := ⟨by kernel_rfl, by kernel_rfl, by kernel_rfl, by kernel_rfl, ones_of _ (by kernel_rfl), by kernel_rfl⟩
def td95 : TD := { ti := .slice 94 19 168, u := .other, zs := some [.nl], ones := [], cells := 1, eqs := [] }
theorem td95_ok : td95.ok Try.prog 95 := ⟨by kernel_rfl, by kernel_rfl, by kernel_rfl, by kernel_rfl, ones_of _ (by kernel_rfl), by kernel_rfl⟩
def td96 : TD := { ti := .slice 274 8 80, u := .other, zs := some [.nl], ones := [], cells := 1, eqs := [] }
theorem td96_ok : td96.ok Try.prog 96 := ⟨by kernel_rfl, by kernel_rfl, by kernel_rfl, by kernel_rfl, ones_of _ (by kernel_rfl), by kernel_rfl⟩
def td97 : TD := { ti := .slice 188 8 160, u := .other, zs := some [.nl], ones := [], cells := 1, eqs := [] }
theorem td97_ok : td97.ok Try.prog 97 := ⟨by kernel_rfl, by kernel_rfl, by kernel_rfl, by kernel_rfl, ones_of _ (by kernel_rfl), by kernel_rfl⟩
def td99 : TD := { ti := .struct [(0, 18), (18, 1), (19, 1), (20, 19), (39, 1), (40, 1), (41, 1), (42, 1)] 43, u := .other, zs := some [.i .i64 0, .b false, .b false, .b false, .i .i64 0, .i .i64 0, .i .i64 0, .i .i64 0, .nl, .nl, .nl, .nl, .nl, .nl, .i .i64 0, .i .i64 0, .b false, .nl, .nl, .nl, .b false, .b false, .b false, .i .i64 0, .i .i64 0, .nl, .nl, .i .i64 0, .b false, .b false, .b false, .i .i64 0, .i .i64 0, .i .i64 0, .i .i64 0, .s [], .i .i64 0, .i .i64 0, .s [], .nl, .nl, .nl, .nl], ones := [false, true, true, false, true, true, true, true], cells := 43, eqs := [] }
theorem td99_ok : td99.ok Try.prog 99 := ⟨by kernel_rfl, by kernel_rfl, by kernel_rfl, by kernel_rfl, ones_of _ (by kernel_rfl), by kernel_rfl⟩
def td115 : TD := { ti := .struct [(0, 1), (1, 1), (2, 1), (3, 1)] 4, u := .other, zs := some [.i .i64 0, .i .i64 0, .i .i64 0, .i .i64 0], ones := [true, true, true, true], cells := 4, eqs := [(0, .int .i64), (1, .int .i64), (2, .int .i64), (3, .int .i64)] }
theorem td115_ok : td115.ok Try.prog 115 := ⟨by kernel_rfl, by kernel_rfl, by kernel_rfl, by kernel_rfl, ones_of _ (by kernel_rfl), by kernel_rfl⟩
def td125 : TD := { ti := .sc, u := .int .u64, zs := some [.i .u64 0], ones := [], cells := 1, eqs := [] }
theorem td125_ok : td125.ok Try.prog 125 := ⟨by kernel_rfl, by kernel_rfl, by kernel_rfl, by kernel_rfl, ones_of _ (by kernel_rfl), by kernel_rfl⟩
def td129 : TD := { ti := .struct [(0, 4), (4, 4), (8, 1), (9, 1)] 10, u := .other, zs := some [.i .i64 0, .i .i64 0, .nl, .nl, .i .i64 0, .b false, .b false, .b false, .i .i64 0, .i .i64 0], ones := [false, false, true, true], cells := 10, eqs := [] }
theorem td129_ok : td129.ok Try.prog 129 := ⟨by kernel_rfl, by kernel_rfl, by kernel_rfl, by kernel_rfl, ones_of _ (by kernel_rfl), by kernel_rfl⟩
def td133 : TD := { ti := .slice 137 3 32, u := .other, zs := some [.nl], ones := [], cells := 1, eqs := [] }
theorem td133_ok : td133.ok Try.prog 133 := ⟨by kernel_rfl, by kernel_rfl, by kernel_rfl, by kernel_rfl, ones_of _ (by kernel_rfl), by kernel_rfl⟩
def td137 : TD := { ti := .struct [(0, 1), (1, 1), (2, 1)] 3, u := .other, zs := some [.b false, .i .i64 0, .s []], ones := [true, true, true], cells := 3, eqs := [(0, .bool), (1, .int .i64), (2, .str)] }
theorem td137_ok : td137.ok Try.prog 137 := ⟨by kernel_rfl, by kernel_rfl, by kernel_rfl, by kernel_rfl, ones_of _ (by kernel_rfl), by kernel_rfl⟩
def td138 : TD := { ti := .sc, u := .other, zs := some [.np], ones := [], cells := 1, eqs := [] }
theorem td138_ok : td138.ok Try.prog 138 := ⟨by kernel_rfl, by kernel_rfl, by kernel_rfl, by kernel_rfl, ones_of _ (by kernel_rfl), by kernel_rfl⟩
def td140 : TD := { ti := .struct [(0, 1), (1, 1), (2, 1)] 3, u := .other, zs := some [.nl, .nl, .i .i64 0], ones := [true, true, true], cells := 3, eqs := [] }
theorem td140_ok : td140.ok Try.prog 140 := ⟨by kernel_rfl, by kernel_rfl, by kernel_rfl, by kernel_rfl, ones_of _ (by kernel_rfl), by kernel_rfl⟩
def td148 : TD := { ti := .struct [(0, 1), (1, 1), (2, 1)] 3, u := .other, zs := some [.i .i64 0, .i .i64 0, .i .i64 0], ones := [true, true, true], cells := 3, eqs := [(0, .int .i64), (1, .int .i64), (2, .int .i64)] }
theorem td148_ok : td148.ok Try.prog 148 := ⟨by kernel_rfl, by kernel_rfl, by kernel_rfl, by kernel_rfl, ones_of _ (by kernel_rfl), by kernel_rfl⟩
def td150 : TD := { ti := .struct [(0, 4), (4, 4), (8, 3), (11, 1), (12, 1), (13, 1), (14, 1), (15, 1), (16, 3)] 19, u := .other, zs := some [.i .i64 0, .i .i64 0, .nl, .nl, .i .i64 0, .b false, .b false, .b false, .i .i64 0, .i .i64 0, .i .i64 0, .i .i64 0, .i .i64 0, .i .i64 0, .i .i64 0, .b false, .i .i64 0, .i .i64 0, .s []], ones := [false, false, false, true, true, true, true, true, false], cells := 19, eqs := [] }
theorem td150_ok : td150.ok Try.prog 150 := ⟨by kernel_rfl, by kernel_rfl, by kernel_rfl, by kernel_rfl, ones_of _ (by kernel_rfl), by kernel_rfl⟩
def td152 : TD := { ti := .struct [(0, 19), (19, 1), (20, 1)] 21, u := .other, zs := some [.i .i64 0, .i .i64 0, .nl, .nl, .i .i64 0, .b false, .b false, .b false, .i .i64 0, .i .i64 0, .i .i64 0, .i .i64 0, .i .i64 0, .i .i64 0, .i .i64 0, .b false, .i .i64 0, .i .i64 0, .s [], .i .i64 0, .i .i64 0], ones := [false, true, true], cells := 21, eqs := [] }
theorem td152_ok : td152.ok Try.prog 152 := ⟨by kernel_rfl, by kernel_rfl, by kernel_rfl, by kernel_rfl, ones_of _ (by kernel_rfl), by kernel_rfl⟩
def td156 : TD := { ti := .struct [(0, 1), (1, 1), (2, 1), (3, 1), (4, 1), (5, 1), (6, 1), (7, 1), (8, 1), (9, 1)] 10, u := .other, zs := some [.i .i64 0, .i .i64 0, .i .i64 0, .i .i64 0, .i .i64 0, .i .i64 0, .i .i64 0, .i .i64 0, .i .i64 0, .i .i64 0], ones := [true, true, true, true, true, true, true, true, true, true], cells := 10, eqs := [(0, .int .i64), (1, .int .i64), (2, .int .i64), (3, .int .i64), (4, .int .i64), (5, .int .i64), (6, .int .i64), (7, .int .i64), (8, .int .i64), (9, .int .i64)] }
theorem td156_ok : td156.ok Try.prog 156 := ⟨by kernel_rfl, by kernel_rfl, by kernel_rfl, by kernel_rfl, ones_of _ (by kernel_rfl), by kernel_rfl⟩
def td158 : TD := { ti := .struct [(0, 1), (1, 1), (2, 1), (3, 1)] 4, u := .other, zs := some [.i .i64 0, .i .i64 0, .i .i64 0, .i .i64 0], ones := [true, true, true, true], cells := 4, eqs := [(0, .int .i64), (1, .int .i64), (2, .int .i64), (3, .int .i64)] }
theorem td158_ok : td158.ok Try.prog 158 := ⟨by kernel_rfl, by kernel_rfl, by kernel_rfl, by kernel_rfl, ones_of _ (by kernel_rfl), by kernel_rfl⟩
def td168 : TD := { ti := .slice 241 4 32, u := .other, zs := some [.nl], ones := [], cells := 1, eqs := [] }
theorem td168_ok : td168.ok Try.prog 168 := ⟨by kernel_rfl, by kernel_rfl, by kernel_rfl, by kernel_rfl, ones_of _ (by kernel_rfl), by kernel_rfl⟩
def td170 : TD := { ti := .struct [(0, 1), (1, 1), (2, 1), (3, 1), (4, 1), (5, 1), (6, 1), (7, 1), (8, 1)] 9, u := .other, zs := some [.b false, .i .i64 0, .i .i64 0, .nl, .i .i64 0, .i .i64 0, .i .i64 0, .i .i64 0, .i .i64 0], ones := [true, true, true, true, true, true, true, true, true], cells := 9, eqs := [] }
theorem td170_ok : td170.ok Try.prog 170 := ⟨by kernel_rfl, by kernel_rfl, by kernel_rfl, by kernel_rfl, ones_of _ (by kernel_rfl), by kernel_rfl⟩
def td172 : TD := { ti := .struct [(0, 1), (1, 1), (2, 4), (6, 4), (10, 1), (11, 1), (12, 1)] 13, u := .other, zs := some [.b false, .b false, .i .i64 0, .i .i64 0, .nl, .nl, .i .i64 0, .b false, .b false, .b false, .i .i64 0, .i .i64 0, .i .i64 0], ones := [true, true, false, false, true, true, true], cells := 13, eqs := [] }
theorem td172_ok : td172.ok Try.prog 172 := ⟨by kernel_rfl, by kernel_rfl, by kernel_rfl, by kernel_rfl, ones_of _ (by kernel_rfl), by kernel_rfl⟩
def td174 : TD := { ti := .struct [(0, 9), (9, 13), (22, 1), (23, 1)] 24, u := .other, zs := some [.b false, .i .i64 0, .i .i64 0, .nl, .i .i64 0, .i .i64 0, .i .i64 0, .i .i64 0, .i .i64 0, .b false, .b false, .i .i64 0, .i .i64 0, .nl, .nl, .i .i64 0, .b false, .b false, .b false, .i .i64 0, .i .i64 0, .i .i64 0, .b false, .i .i64 0], ones := [false, false, true, true], cells := 24, eqs := [] }
theorem td174_ok : td174.ok Try.prog 174 := ⟨by kernel_rfl, by kernel_rfl, by kernel_rfl, by kernel_rfl, ones_of _ (by kernel_rfl), by kernel_rfl⟩
def td185 : TD := { ti := .slice 190 3 24, u := .other, zs := some [.nl], ones := [], cells := 1, eqs := [] }
theorem td185_ok : td185.ok Try.prog 185 := ⟨by kernel_rfl, by kernel_rfl, by kernel_rfl, by kernel_rfl, ones_of _ (by kernel_rfl), by kernel_rfl⟩
def td186 : TD := { ti := .slice 92 3 32, u := .other, zs := some [.nl], ones := [], cells := 1, eqs := [] }
theorem td186_ok : td186.ok Try.prog 186 := ⟨by kernel_rfl, by kernel_rfl, by kernel_rfl, by kernel_rfl, ones_of _ (by kernel_rfl), by kernel_rfl⟩
def td188 : TD := { ti := .struct [(0, 4), (4, 1), (5, 1), (6, 1), (7, 1)] 8, u := .other, zs := some [.i .i64 0, .i .i64 0, .nl, .nl, .nl, .nl, .nl, .nl], ones := [false, true, true, true, true], cells := 8, eqs := [] }
theorem td188_ok : td188.ok Try.prog 188 := ⟨by kernel_rfl, by kernel_rfl, by kernel_rfl, by kernel_rfl, ones_of _ (by kernel_rfl), by kernel_rfl⟩
def td190 : TD := { ti := .struct [(0, 1), (1, 1), (2, 1)] 3, u := .other, zs := some [.i .i64 0, .i .i64 0, .i .i64 0], ones := [true, true, true], cells := 3, eqs := [(0, .int .i64), (1, .int .i64), (2, .int .i64)] }
theorem td190_ok : td190.ok Try.prog 190 := ⟨by kernel_rfl, by kernel_rfl, by kernel_rfl, by kernel_rfl, ones_of _ (by kernel_rfl), by kernel_rfl⟩
def td208 : TD := { ti := .struct [(0, 1), (1, 1), (2, 1), (3, 1), (4, 1), (5, 1), (6, 1), (7, 1), (8, 1), (9, 1)] 10, u := .other, zs := some [.i .i64 0, .i .i64 0, .i .i64 0, .i .i64 0, .i .i64 0, .i .i64 0, .i .i64 0, .i .i64 0, .i .i64 0, .i .i64 0], ones := [true, true, true, true, true, true, true, true, true, true], cells := 10, eqs := [(0, .int .i64), (1, .int .i64), (2, .int .i64), (3, .int .i64), (4, .int .i64), (5, .int .i64), (6, .int .i64), (7, .int .i64), (8, .int .i64), (9, .int .i64)] }
theorem td208_ok : td208.ok Try.prog 208 := ⟨by kernel_rfl, by kernel_rfl, by kernel_rfl, by kernel_rfl, ones_of _ (by kernel_rfl), by kernel_rfl⟩
def td219 : TD := { ti := .struct [(0, 1), (1, 1), (2, 1)] 3, u := .other, zs := some [.i .i64 0, .i .i64 0, .i .i64 0], ones := [true, true, true], cells := 3, eqs := [(0, .int .i64), (1, .int .i64), (2, .int .i64)] }
theorem td219_ok : td219.ok Try.prog 219 := ⟨by kernel_rfl, by kernel_rfl, by kernel_rfl, by kernel_rfl, ones_of _ (by kernel_rfl), by kernel_rfl⟩
def td226 : TD := { ti := .slice 5 1 1, u := .other, zs := some [.nl], ones := [], cells := 1, eqs := [] }
theorem td226_ok : td226.ok Try.prog 226 := ⟨by kernel_rfl, by kernel_rfl, by kernel_rfl, by kernel_rfl, ones_of _ (by kernel_rfl), by kernel_rfl⟩
def td232 : TD := { ti := .slice 253 4 32, u := .other, zs := some [.nl], ones := [], cells := 1, eqs := [] }
theorem td232_ok : td232.ok Try.prog 232 := ⟨by kernel_rfl, by kernel_rfl, by kernel_rfl, by kernel_rfl, ones_of _ (by kernel_rfl), by kernel_rfl⟩
def td234 : TD := { ti := .struct [(0, 1), (1, 1), (2, 1), (3, 1), (4, 1), (5, 1), (6, 1), (7, 1), (8, 1)] 9, u := .other, zs := some [.b false, .i .i64 0, .i .i64 0, .nl, .i .i64 0, .i .i64 0, .i .i64 0, .i .i64 0, .i .i64 0], ones := [true, true, true, true, true, true, true, true, true], cells := 9, eqs := [] }
theorem td234_ok : td234.ok Try.prog 234 := ⟨by kernel_rfl, by kernel_rfl, by kernel_rfl, by kernel_rfl, ones_of _ (by kernel_rfl), by kernel_rfl⟩
def td236 : TD := { ti := .struct [(0, 1), (1, 1), (2, 4), (6, 4), (10, 1), (11, 1), (12, 1)] 13, u := .other, zs := some [.b false, .b false, .i .i64 0, .i .i64 0, .nl, .nl, .i .i64 0, .b false, .b false, .b false, .i .i64 0, .i .i64 0, .i .i64 0], ones := [true, true, false, false, true, true, true], cells := 13, eqs := [] }
theorem td236_ok : td236.ok Try.prog 236 := ⟨by kernel_rfl, by kernel_rfl, by kernel_rfl, by kernel_rfl, ones_of _ (by kernel_rfl), by kernel_rfl⟩
def td238 : TD := { ti := .struct [(0, 9), (9, 13), (22, 1), (23, 1)] 24, u := .other, zs := some [.b false, .i .i64 0, .i .i64 0, .nl, .i .i64 0, .i .i64 0, .i .i64 0, .i .i64 0, .i .i64 0, .b false, .b false, .i .i64 0, .i .i64 0, .nl, .nl, .i .i64 0, .b false, .b false, .b false, .i .i64 0, .i .i64 0, .i .i64 0, .b false, .i .i64 0], ones := [false, false, true, true], cells := 24, eqs := [] }
theorem td238_ok : td238.ok Try.prog 238 := ⟨by kernel_rfl, by kernel_rfl, by kernel_rfl, by kernel_rfl, ones_of _ (by kernel_rfl), by kernel_rfl⟩
def td241 : TD := { ti := .struct [(0, 1), (1, 1), (2, 1), (3, 1)] 4, u := .other, zs := some [.i .i64 0, .b false, .b false, .s []], ones := [true, true, true, true], cells := 4, eqs := [(0, .int .i64), (1, .bool), (2, .bool), (3, .str)] }
theorem td241_ok : td241.ok Try.prog 241 := ⟨by kernel_rfl, by kernel_rfl, by kernel_rfl, by kernel_rfl, ones_of _ (by kernel_rfl), by kernel_rfl⟩
def td247 : TD := { ti := .struct [(0, 1), (1, 1), (2, 1)] 3, u := .other, zs := some [.i .i64 0, .i .i64 0, .i .i64 0], ones := [true, true, true], cells := 3, eqs := [(0, .int .i64), (1, .int .i64), (2, .int .i64)] }
theorem td247_ok : td247.ok Try.prog 247 := ⟨by kernel_rfl, by kernel_rfl, by kernel_rfl, by kernel_rfl, ones_of _ (by kernel_rfl), by kernel_rfl⟩
def td249 : TD := { ti := .struct [(0, 4), (4, 4), (8, 3), (11, 1), (12, 1), (13, 1), (14, 1), (15, 1), (16, 3)] 19, u := .other, zs := some [.i .i64 0, .i .i64 0, .nl, .nl, .i .i64 0, .b false, .b false, .b false, .i .i64 0, .i .i64 0, .i .i64 0, .i .i64 0, .i .i64 0, .i .i64 0, .i .i64 0, .b false, .i .i64 0, .i .i64 0, .s []], ones := [false, false, false, true, true, true, true, true, false], cells := 19, eqs := [] }
theorem td249_ok : td249.ok Try.prog 249 := ⟨by kernel_rfl, by kernel_rfl, by kernel_rfl, by kernel_rfl, ones_of _ (by kernel_rfl), by kernel_rfl⟩
def td251 : TD := { ti := .struct [(0, 19), (19, 1), (20, 1)] 21, u := .other, zs := some [.i .i64 0, .i .i64 0, .nl, .nl, .i .i64 0, .b false, .b false, .b false, .i .i64 0, .i .i64 0, .i .i64 0, .i .i64 0, .i .i64 0, .i .i64 0, .i .i64 0, .b false, .i .i64 0, .i .i64 0, .s [], .i .i64 0, .i .i64 0], ones := [false, true, true], cells := 21, eqs := [] }
theorem td251_ok : td251.ok Try.prog 251 := ⟨by kernel_rfl, by kernel_rfl, by kernel_rfl, by kernel_rfl, ones_of _ (by kernel_rfl), by kernel_rfl⟩
def td253 : TD := { ti := .struct [(0, 1), (1, 1), (2, 1), (3, 1)] 4, u := .other, zs := some [.i .i64 0, .b false, .b false, .s []], ones := [true, true, true, true], cells := 4, eqs := [(0, .int .i64), (1, .bool), (2, .bool), (3, .str)] }
theorem td253_ok : td253.ok Try.prog 253 := ⟨by kernel_rfl, by kernel_rfl, by kernel_rfl, by kernel_rfl, ones_of _ (by kernel_rfl), by kernel_rfl⟩
def td255 : TD := { ti := .struct [(0, 1), (1, 4)] 5, u := .other, zs := some [.i .i64 0, .i .i64 0, .b false, .b false, .s []], ones := [true, false], cells := 5, eqs := [] }
theorem td255_ok : td255.ok Try.prog 255 := ⟨by kernel_rfl, by kernel_rfl, by kernel_rfl, by kernel_rfl, ones_of _ (by kernel_rfl), by kernel_rfl⟩
def td259 : TD := { ti := .struct [(0, 1), (1, 1), (2, 1)] 3, u := .other, zs := some [.b false, .i .i64 0, .s []], ones := [true, true, true], cells := 3, eqs := [(0, .bool), (1, .int .i64), (2, .str)] }
theorem td259_ok : td259.ok Try.prog 259 := ⟨by kernel_rfl, by kernel_rfl, by kernel_rfl, by kernel_rfl, ones_of _ (by kernel_rfl), by kernel_rfl⟩
def td261 : TD := { ti := .struct [(0, 1), (1, 1), (2, 3), (5, 3)] 8, u := .other, zs := some [.i .i64 0, .i .i64 0, .b false, .i .i64 0, .s [], .i .i64 0, .i .i64 0, .s []], ones := [true, true, false, false], cells := 8, eqs := [] }
theorem td261_ok : td261.ok Try.prog 261 := ⟨by kernel_rfl, by kernel_rfl, by kernel_rfl, by kernel_rfl, ones_of _ (by kernel_rfl), by kernel_rfl⟩
def td263 : TD := { ti := .slice 331 3 24, u := .other, zs := some [.nl], ones := [], cells := 1, eqs := [] }
theorem td263_ok : td263.ok Try.prog 263 := ⟨by kernel_rfl, by kernel_rfl, by kernel_rfl, by kernel_rfl, ones_of _ (by kernel_rfl), by kernel_rfl⟩
def td264 : TD := { ti := .slice 79 3 32, u := .other, zs := some [.nl], ones := [], cells := 1, eqs := [] }
theorem td264_ok : td264.ok Try.prog 264 := ⟨by kernel_rfl, by kernel_rfl, by kernel_rfl, by kernel_rfl, ones_of _ (by kernel_rfl), by kernel_rfl⟩
def td266 : TD := { ti := .struct [(0, 4), (4, 1), (5, 1), (6, 1), (7, 1)] 8, u := .other, zs := some [.i .i64 0, .i .i64 0, .nl, .nl, .nl, .nl, .nl, .nl], ones := [false, true, true, true, true], cells := 8, eqs := [] }
theorem td266_ok : td266.ok Try.prog 266 := ⟨by kernel_rfl, by kernel_rfl, by kernel_rfl, by kernel_rfl, ones_of _ (by kernel_rfl), by kernel_rfl⟩
def td269 : TD := { ti := .struct [(0, 1), (1, 4)] 5, u := .other, zs := some [.i .i64 0, .i .i64 0, .b false, .b false, .s []], ones := [true, false], cells := 5, eqs := [] }
theorem td269_ok : td269.ok Try.prog 269 := ⟨by kernel_rfl, by kernel_rfl, by kernel_rfl, by kernel_rfl, ones_of _ (by kernel_rfl), by kernel_rfl⟩
def td274 : TD := { ti := .struct [(0, 1), (1, 1), (2, 3), (5, 3)] 8, u := .other, zs := some [.i .i64 0, .i .i64 0, .b false, .i .i64 0, .s [], .i .i64 0, .i .i64 0, .s []], ones := [true, true, false, false], cells := 8, eqs := [] }
theorem td274_ok : td274.ok Try.prog 274 := ⟨by kernel_rfl, by kernel_rfl, by kernel_rfl, by kernel_rfl, ones_of _ (by kernel_rfl), by kernel_rfl⟩
def td292 : TD := { ti := .sc, u := .other, zs := some [.np], ones := [], cells := 1, eqs := [] }
theorem td292_ok : td292.ok Try.prog 292 := ⟨by kernel_rfl, by kernel_rfl, by kernel_rfl, by kernel_rfl, ones_of _ (by kernel_rfl), by kernel_rfl⟩
def td297 : TD := { ti := .struct [(0, 1), (1, 1), (2, 1)] 3, u := .other, zs := some [.s [], .i .i64 0, .b false], ones := [true, true, true], cells := 3, eqs := [(0, .str), (1, .int .i64), (2, .bool)] }
theorem td297_ok : td297.ok Try.prog 297 := ⟨by kernel_rfl, by kernel_rfl, by kernel_rfl, by kernel_rfl, ones_of _ (by kernel_rfl), by kernel_rfl⟩
def td331 : TD := { ti := .struct [(0, 1), (1, 1), (2, 1)] 3, u := .other, zs := some [.i .i64 0, .i .i64 0, .i .i64 0], ones := [true, true, true], cells := 3, eqs := [(0, .int .i64), (1, .int .i64), (2, .int .i64)] }
theorem td331_ok : td331.ok Try.prog 331 := ⟨by kernel_rfl, by kernel_rfl, by kernel_rfl, by kernel_rfl, ones_of _ (by kernel_rfl), by kernel_rfl⟩
def td335 : TD := { ti := .slice 24 1 24, u := .other, zs := some [.nl], ones := [], cells := 1, eqs := [] }
theorem td335_ok : td335.ok Try.prog 335 := ⟨by kernel_rfl, by kernel_rfl, by kernel_rfl, by kernel_rfl, ones_of _ (by kernel_rfl), by kernel_rfl⟩
theorem mixed_ok : Try.prog.follows .mixedOrders = true := by kernel_rfl
def tt : TT := (.node 129 td129 (.node 70 td70 (.node 32 td32 (.node 24 td24 (.node 5 td5 (.node 4 td4 (.node 3 td3 .leaf .leaf) .leaf) (.node 23 td23 (.node 9 td9 .leaf .leaf) .leaf)) (.node 28 td28 (.node 27 td27 (.node 26 td26 .leaf .leaf) .leaf) (.node 30 td30 .leaf .leaf))) (.node 50 td50 (.node 36 td36 (.node 35 td35 (.node 34 td34 .leaf .leaf) .leaf) (.node 39 td39 (.node 37 td37 .leaf .leaf) .leaf)) (.node 65 td65 (.node 63 td63 (.node 55 td55 .leaf .leaf) .leaf) (.node 68 td68 .leaf .leaf)))) (.node 90 td90 (.node 82 td82 (.node 77 td77 (.node 75 td75 (.node 74 td74 .leaf .leaf) .leaf) (.node 81 td81 (.node 79 td79 .leaf .leaf) .leaf)) (.node 86 td86 (.node 84 td84 (.node 83 td83 .leaf .leaf) .leaf) (.node 89 td89 .leaf .leaf))) (.node 96 td96 (.node 94 td94 (.node 92 td92 (.node 91 td91 .leaf .leaf) .leaf) (.node 95 td95 .leaf .leaf)) (.node 115 td115 (.node 99 td99 (.node 97 td97 .leaf .leaf) .leaf) (.node 125 td125 .leaf .leaf))))) (.node 232 td232 (.node 170 td170 (.node 150 td150 (.node 138 td138 (.node 137 td137 (.node 133 td133 .leaf .leaf) .leaf) (.node 148 td148 (.node 140 td140 .leaf .leaf) .leaf)) (.node 158 td158 (.node 156 td156 (.node 152 td152 .leaf .leaf) .leaf) (.node 168 td168 .leaf .leaf))) (.node 188 td188 (.node 185 td185 (.node 174 td174 (.node 172 td172 .leaf .leaf) .leaf) (.node 186 td186 .leaf .leaf)) (.node 219 td219 (.node 208 td208 (.node 190 td190 .leaf .leaf) .leaf) (.node 226 td226 .leaf .leaf)))) (.node 261 td261 (.node 249 td249 (.node 238 td238 (.node 236 td236 (.node 234 td234 .leaf .leaf) .leaf) (.node 247 td247 (.node 241 td241 .leaf .leaf) .leaf)) (.node 255 td255 (.node 253 td253 (.node 251 td251 .leaf .leaf) .leaf) (.node 259 td259 .leaf .leaf))) (.node 274 td274 (.node 266 td266 (.node 264 td264 (.node 263 td263 .leaf .leaf) .leaf) (.node 269 td269 .leaf .leaf)) (.node 331 td331 (.node 297 td297 (.node 292 td292 .leaf .leaf) .leaf) (.node 335 td335 .leaf .leaf))))))
theorem tt_ok : tt.ok Try.prog := ⟨td129_ok, ⟨td70_ok, ⟨td32_ok, ⟨td24_ok, ⟨td5_ok, ⟨td4_ok, ⟨td3_ok, mixed_ok, mixed_ok⟩, mixed_ok⟩, ⟨td23_ok, ⟨td9_ok, mixed_ok, mixed_ok⟩, mixed_ok⟩⟩, ⟨td28_ok, ⟨td27_ok, ⟨td26_ok, mixed_ok, mixed_ok⟩, mixed_ok⟩, ⟨td30_ok, mixed_ok, mixed_ok⟩⟩⟩, ⟨td50_ok, ⟨td36_ok, ⟨td35_ok, ⟨td34_ok, mixed_ok, mixed_ok⟩, mixed_ok⟩, ⟨td39_ok, ⟨td37_ok, mixed_ok, mixed_ok⟩, mixed_ok⟩⟩, ⟨td65_ok, ⟨td63_ok, ⟨td55_ok, mixed_ok, mixed_ok⟩, mixed_ok⟩, ⟨td68_ok, mixed_ok, mixed_ok⟩⟩⟩⟩, ⟨td90_ok, ⟨td82_ok, ⟨td77_ok, ⟨td75_ok, ⟨td74_ok, mixed_ok, mixed_ok⟩, mixed_ok⟩, ⟨td81_ok, ⟨td79_ok, mixed_ok, mixed_ok⟩, mixed_ok⟩⟩, ⟨td86_ok, ⟨td84_ok, ⟨td83_ok, mixed_ok, mixed_ok⟩, mixed_ok⟩, ⟨td89_ok, mixed_ok, mixed_ok⟩⟩⟩, ⟨td96_ok, ⟨td94_ok, ⟨td92_ok, ⟨td91_ok, mixed_ok, mixed_ok⟩, mixed_ok⟩, ⟨td95_ok, mixed_ok, mixed_ok⟩⟩, ⟨td115_ok, ⟨td99_ok, ⟨td97_ok, mixed_ok, mixed_ok⟩, mixed_ok⟩, ⟨td125_ok, mixed_ok, mixed_ok⟩⟩⟩⟩⟩, ⟨td232_ok, ⟨td170_ok, ⟨td150_ok, ⟨td138_ok, ⟨td137_ok, ⟨td133_ok, mixed_ok, mixed_ok⟩, mixed_ok⟩, ⟨td148_ok, ⟨td140_ok, mixed_ok, mixed_ok⟩, mixed_ok⟩⟩, ⟨td158_ok, ⟨td156_ok, ⟨td152_ok, mixed_ok, mixed_ok⟩, mixed_ok⟩, ⟨td168_ok, mixed_ok, mixed_ok⟩⟩⟩, ⟨td188_ok, ⟨td185_ok, ⟨td174_ok, ⟨td172_ok, mixed_ok, mixed_ok⟩, mixed_ok⟩, ⟨td186_ok, mixed_ok, mixed_ok⟩⟩, ⟨td219_ok, ⟨td208_ok, ⟨td190_ok, mixed_ok, mixed_ok⟩, mixed_ok⟩, ⟨td226_ok, mixed_ok, mixed_ok⟩⟩⟩⟩, ⟨td261_ok, ⟨td249_ok, ⟨td238_ok, ⟨td236_ok, ⟨td234_ok, mixed_ok, mixed_ok⟩, mixed_ok⟩, ⟨td247_ok, ⟨td241_ok, mixed_ok, mixed_ok⟩, mixed_ok⟩⟩, ⟨td255_ok, ⟨td253_ok, ⟨td251_ok, mixed_ok, mixed_ok⟩, mixed_ok⟩, ⟨td259_ok, mixed_ok, mixed_ok⟩⟩⟩, ⟨td274_ok, ⟨td266_ok, ⟨td264_ok, ⟨td263_ok, mixed_ok, mixed_ok⟩, mixed_ok⟩, ⟨td269_ok, mixed_ok, mixed_ok⟩⟩, ⟨td331_ok, ⟨td297_ok, ⟨td292_ok, mixed_ok, mixed_ok⟩, mixed_ok⟩, ⟨td335_ok, mixed_ok, mixed_ok⟩⟩⟩⟩⟩⟩
end Go.Proofs.Ytaeaeefggcjjhaa
