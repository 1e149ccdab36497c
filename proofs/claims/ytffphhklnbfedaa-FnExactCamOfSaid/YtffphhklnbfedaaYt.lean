/- What is known of the types of this program. No condition. -/
import Derived.Test.YtffphhklnbfedaaVD
import Derived.Test.YtffphhklnbfedaaProg
import Derived.KernelRfl
namespace Go.Proofs.Ytffphhklnbfedaa
open Go Go.Vx

def td3 : TD := { ti := .sc, u := .int .i64, zs := some [.i .i64 0], ones := [], cells := 1, eqs := [] }
theorem td3_ok : td3.ok Try.prog 3 := ⟨by kernel_rfl, by kernel_rfl, by kernel_rfl, by kernel_rfl, ones_of _ (by kernel_rfl), by kernel_rfl⟩
def td4 : TD := { ti := .sc, u := .bool, zs := some [.b false], ones := [], cells := 1, eqs := [] }
theorem td4_ok : td4.ok Try.prog 4 := ⟨by kernel_rfl, by kernel_rfl, by kernel_rfl, by kernel_rfl, ones_of _ (by kernel_rfl), by kernel_rfl⟩
def td5 : TD := { ti := .sc, u := .int .u8, zs := some [.i .u8 0], ones := [], cells := 1, eqs := [] }
theorem td5_ok : td5.ok Try.prog 5 := ⟨by kernel_rfl, by kernel_rfl, by kernel_rfl, by kernel_rfl, ones_of _ (by kernel_rfl), by kernel_rfl⟩
def td9 : TD := { ti := .str, u := .str, zs := some [.s []], ones := [], cells := 1, eqs := [] }
theorem td9_ok : td9.ok Try.prog 9 := ⟨by kernel_rfl, by kernel_rfl, by kernel_rfl, by kernel_rfl, ones_of _ (by kernel_rfl), by kernel_rfl⟩
def td22 : TD := { ti := .slice 5 1 1, u := .other, zs := some [.nl], ones := [], cells := 1, eqs := [] }
theorem td22_ok : td22.ok Try.prog 22 := ⟨by kernel_rfl, by kernel_rfl, by kernel_rfl, by kernel_rfl, ones_of _ (by kernel_rfl), by kernel_rfl⟩
def td24 : TD := { ti := .slice 3 1 8, u := .other, zs := some [.nl], ones := [], cells := 1, eqs := [] }
theorem td24_ok : td24.ok Try.prog 24 := ⟨by kernel_rfl, by kernel_rfl, by kernel_rfl, by kernel_rfl, ones_of _ (by kernel_rfl), by kernel_rfl⟩
def td27 : TD := { ti := .struct [(0, 1), (1, 1), (2, 1)] 3, u := .other, zs := some [.i .i64 0, .i .i64 0, .s []], ones := [true, true, true], cells := 3, eqs := [(0, .int .i64), (1, .int .i64), (2, .str)] }
theorem td27_ok : td27.ok Try.prog 27 := ⟨by kernel_rfl, by kernel_rfl, by kernel_rfl, by kernel_rfl, ones_of _ (by kernel_rfl), by kernel_rfl⟩
def td32 : TD := { ti := .slice 37 4 32, u := .other, zs := some [.nl], ones := [], cells := 1, eqs := [] }
theorem td32_ok : td32.ok Try.prog 32 := ⟨by kernel_rfl, by kernel_rfl, by kernel_rfl, by kernel_rfl, ones_of _ (by kernel_rfl), by kernel_rfl⟩
def td37 : TD := { ti := .struct [(0, 1), (1, 1), (2, 1), (3, 1)] 4, u := .other, zs := some [.i .i64 0, .i .i64 0, .i .i64 0, .i .i64 0], ones := [true, true, true, true], cells := 4, eqs := [(0, .int .i64), (1, .int .i64), (2, .int .i64), (3, .int .i64)] }
theorem td37_ok : td37.ok Try.prog 37 := ⟨by kernel_rfl, by kernel_rfl, by kernel_rfl, by kernel_rfl, ones_of _ (by kernel_rfl), by kernel_rfl⟩
def td46 : TD := { ti := .struct [(0, 1), (1, 1), (2, 1)] 3, u := .other, zs := some [.nl, .nl, .nl], ones := [true, true, true], cells := 3, eqs := [] }
theorem td46_ok : td46.ok Try.prog 46 := ⟨by kernel_rfl, by kernel_rfl, by kernel_rfl, by kernel_rfl, ones_of _ (by kernel_rfl), by kernel_rfl⟩
def td53 : TD := { ti := .struct [(0, 1), (1, 1), (2, 1), (3, 1)] 4, u := .other, zs := some [.i .i64 0, .i .i64 0, .nl, .nl], ones := [true, true, true, true], cells := 4, eqs := [] }
theorem td53_ok : td53.ok Try.prog 53 := ⟨by kernel_rfl, by kernel_rfl, by kernel_rfl, by kernel_rfl, ones_of _ (by kernel_rfl), by kernel_rfl⟩
def td61 : TD := { ti := .struct [(0, 1), (1, 1), (2, 1), (3, 1)] 4, u := .other, zs := some [.i .i64 0, .i .i64 0, .nl, .nl], ones := [true, true, true, true], cells := 4, eqs := [] }
theorem td61_ok : td61.ok Try.prog 61 := ⟨by kernel_rfl, by kernel_rfl, by kernel_rfl, by kernel_rfl, ones_of _ (by kernel_rfl), by kernel_rfl⟩
def td63 : TD := { ti := .struct [(0, 1), (1, 1), (2, 1), (3, 1)] 4, u := .other, zs := some [.i .i64 0, .b false, .b false, .b false], ones := [true, true, true, true], cells := 4, eqs := [(0, .int .i64), (1, .bool), (2, .bool), (3, .bool)] }
theorem td63_ok : td63.ok Try.prog 63 := ⟨by kernel_rfl, by kernel_rfl, by kernel_rfl, by kernel_rfl, ones_of _ (by kernel_rfl), by kernel_rfl⟩
def td65 : TD := { ti := .struct [(0, 1), (1, 1), (2, 1)] 3, u := .other, zs := some [.b false, .i .i64 0, .s []], ones := [true, true, true], cells := 3, eqs := [(0, .bool), (1, .int .i64), (2, .str)] }
theorem td65_ok : td65.ok Try.prog 65 := ⟨by kernel_rfl, by kernel_rfl, by kernel_rfl, by kernel_rfl, ones_of _ (by kernel_rfl), by kernel_rfl⟩
def td70 : TD := { ti := .struct [(0, 1), (1, 1), (2, 1), (3, 1)] 4, u := .other, zs := some [.i .i64 0, .b false, .b false, .b false], ones := [true, true, true, true], cells := 4, eqs := [(0, .int .i64), (1, .bool), (2, .bool), (3, .bool)] }
theorem td70_ok : td70.ok Try.prog 70 := ⟨by kernel_rfl, by kernel_rfl, by kernel_rfl, by kernel_rfl, ones_of _ (by kernel_rfl), by kernel_rfl⟩
def td72 : TD := { ti := .struct [(0, 1), (1, 1), (2, 1)] 3, u := .other, zs := some [.b false, .i .i64 0, .s []], ones := [true, true, true], cells := 3, eqs := [(0, .bool), (1, .int .i64), (2, .str)] }
theorem td72_ok : td72.ok Try.prog 72 := ⟨by kernel_rfl, by kernel_rfl, by kernel_rfl, by kernel_rfl, ones_of _ (by kernel_rfl), by kernel_rfl⟩
def td78 : TD := { ti := .struct [(0, 1), (1, 1), (2, 1), (3, 1), (4, 1), (5, 1), (6, 1), (7, 1), (8, 1), (9, 1)] 10, u := .other, zs := some [.i .i64 0, .i .i64 0, .i .i64 0, .i .i64 0, .i .i64 0, .i .i64 0, .i .i64 0, .i .i64 0, .i .i64 0, .i .i64 0], ones := [true, true, true, true, true, true, true, true, true, true], cells := 10, eqs := [(0, .int .i64), (1, .int .i64), (2, .int .i64), (3, .int .i64), (4, .int .i64), (5, .int .i64), (6, .int .i64), (7, .int .i64), (8, .int .i64), (9, .int .i64)] }
theorem td78_ok : td78.ok Try.prog 78 := ⟨by kernel_rfl, by kernel_rfl, by kernel_rfl, by kernel_rfl, ones_of _ (by kernel_rfl), by kernel_rfl⟩
def td80 : TD := { ti := .struct [(0, 1), (1, 1), (2, 1)] 3, u := .other, zs := some [.i .i64 0, .i .i64 0, .i .i64 0], ones := [true, true, true], cells := 3, eqs := [(0, .int .i64), (1, .int .i64), (2, .int .i64)] }
theorem td80_ok : td80.ok Try.prog 80 := ⟨by kernel_rfl, by kernel_rfl, by kernel_rfl, by kernel_rfl, ones_of _ (by kernel_rfl), by kernel_rfl⟩
def td82 : TD := { ti := .struct [(0, 4), (4, 4), (8, 3), (11, 1), (12, 1), (13, 1), (14, 1), (15, 1), (16, 3)] 19, u := .other, zs := some [.i .i64 0, .i .i64 0, .nl, .nl, .i .i64 0, .b false, .b false, .b false, .i .i64 0, .i .i64 0, .i .i64 0, .i .i64 0, .i .i64 0, .i .i64 0, .i .i64 0, .b false, .i .i64 0, .i .i64 0, .s []], ones := [false, false, false, true, true, true, true, true, false], cells := 19, eqs := [] }
theorem td82_ok : td82.ok Try.prog 82 := ⟨by kernel_rfl, by kernel_rfl, by kernel_rfl, by kernel_rfl, ones_of _ (by kernel_rfl), by kernel_rfl⟩
def td84 : TD := { ti := .struct [(0, 19), (19, 1), (20, 1)] 21, u := .other, zs := some [.i .i64 0, .i .i64 0, .nl, .nl, .i .i64 0, .b false, .b false, .b false, .i .i64 0, .i .i64 0, .i .i64 0, .i .i64 0, .i .i64 0, .i .i64 0, .i .i64 0, .b false, .i .i64 0, .i .i64 0, .s [], .i .i64 0, .i .i64 0], ones := [false, true, true], cells := 21, eqs := [] }
theorem td84_ok : td84.ok Try.prog 84 := ⟨by kernel_rfl, by kernel_rfl, by kernel_rfl, by kernel_rfl, ones_of _ (by kernel_rfl), by kernel_rfl⟩
def td87 : TD := { ti := .struct [(0, 1), (1, 1), (2, 1), (3, 1), (4, 1), (5, 1), (6, 1), (7, 1), (8, 1), (9, 1)] 10, u := .other, zs := some [.i .i64 0, .i .i64 0, .i .i64 0, .i .i64 0, .i .i64 0, .i .i64 0, .i .i64 0, .i .i64 0, .i .i64 0, .i .i64 0], ones := [true, true, true, true, true, true, true, true, true, true], cells := 10, eqs := [(0, .int .i64), (1, .int .i64), (2, .int .i64), (3, .int .i64), (4, .int .i64), (5, .int .i64), (6, .int .i64), (7, .int .i64), (8, .int .i64), (9, .int .i64)] }
theorem td87_ok : td87.ok Try.prog 87 := ⟨by kernel_rfl, by kernel_rfl, by kernel_rfl, by kernel_rfl, ones_of _ (by kernel_rfl), by kernel_rfl⟩
def td92 : TD := { ti := .struct [(0, 1), (1, 1), (2, 1)] 3, u := .other, zs := some [.nl, .nl, .nl], ones := [true, true, true], cells := 3, eqs := [] }
theorem td92_ok : td92.ok Try.prog 92 := ⟨by kernel_rfl, by kernel_rfl, by kernel_rfl, by kernel_rfl, ones_of _ (by kernel_rfl), by kernel_rfl⟩
def td93 : TD := { ti := .slice 92 3 72, u := .other, zs := some [.nl], ones := [], cells := 1, eqs := [] }
theorem td93_ok : td93.ok Try.prog 93 := ⟨by kernel_rfl, by kernel_rfl, by kernel_rfl, by kernel_rfl, ones_of _ (by kernel_rfl), by kernel_rfl⟩
def td94 : TD := { ti := .slice 78 10 80, u := .other, zs := some [.nl], ones := [], cells := 1, eqs := [] }
theorem td94_ok : td94.ok Try.prog 94 := ⟨by kernel_rfl, by kernel_rfl, by kernel_rfl, by kernel_rfl, ones_of _ (by kernel_rfl), by kernel_rfl⟩
def td96 : TD := { ti := .struct [(0, 4), (4, 1), (5, 1), (6, 1), (7, 1), (8, 3), (11, 1), (12, 1)] 13, u := .other, zs := some [.i .i64 0, .b false, .b false, .b false, .i .i64 0, .i .i64 0, .i .i64 0, .i .i64 0, .nl, .nl, .nl, .nl, .nl], ones := [false, true, true, true, true, false, true, true], cells := 13, eqs := [] }
theorem td96_ok : td96.ok Try.prog 96 := ⟨by kernel_rfl, by kernel_rfl, by kernel_rfl, by kernel_rfl, ones_of _ (by kernel_rfl), by kernel_rfl⟩
def td99 : TD := { ti := .slice 46 3 72, u := .other, zs := some [.nl], ones := [], cells := 1, eqs := [] }
theorem td99_ok : td99.ok Try.prog 99 := ⟨by kernel_rfl, by kernel_rfl, by kernel_rfl, by kernel_rfl, ones_of _ (by kernel_rfl), by kernel_rfl⟩
def td100 : TD := { ti := .slice 87 10 80, u := .other, zs := some [.nl], ones := [], cells := 1, eqs := [] }
theorem td100_ok : td100.ok Try.prog 100 := ⟨by kernel_rfl, by kernel_rfl, by kernel_rfl, by kernel_rfl, ones_of _ (by kernel_rfl), by kernel_rfl⟩
def td102 : TD := { ti := .struct [(0, 4), (4, 1), (5, 1), (6, 1), (7, 1), (8, 3), (11, 1), (12, 1)] 13, u := .other, zs := some [.i .i64 0, .b false, .b false, .b false, .i .i64 0, .i .i64 0, .i .i64 0, .i .i64 0, .nl, .nl, .nl, .nl, .nl], ones := [false, true, true, true, true, false, true, true], cells := 13, eqs := [] }
theorem td102_ok : td102.ok Try.prog 102 := ⟨by kernel_rfl, by kernel_rfl, by kernel_rfl, by kernel_rfl, ones_of _ (by kernel_rfl), by kernel_rfl⟩
def td108 : TD := { ti := .struct [(0, 1), (1, 1), (2, 1)] 3, u := .other, zs := some [.i .i64 0, .i .i64 0, .i .i64 0], ones := [true, true, true], cells := 3, eqs := [(0, .int .i64), (1, .int .i64), (2, .int .i64)] }
theorem td108_ok : td108.ok Try.prog 108 := ⟨by kernel_rfl, by kernel_rfl, by kernel_rfl, by kernel_rfl, ones_of _ (by kernel_rfl), by kernel_rfl⟩
def td118 : TD := { ti := .sc, u := .other, zs := some [.np], ones := [], cells := 1, eqs := [] }
theorem td118_ok : td118.ok Try.prog 118 := ⟨by kernel_rfl, by kernel_rfl, by kernel_rfl, by kernel_rfl, ones_of _ (by kernel_rfl), by kernel_rfl⟩
def td128 : TD := { ti := .slice 9 1 16, u := .other, zs := some [.nl], ones := [], cells := 1, eqs := [] }
theorem td128_ok : td128.ok Try.prog 128 := ⟨by kernel_rfl, by kernel_rfl, by kernel_rfl, by kernel_rfl, ones_of _ (by kernel_rfl), by kernel_rfl⟩
def td131 : TD := { ti := .arr 3 1 3, u := .other, zs := some [.i .i64 0, .i .i64 0, .i .i64 0], ones := [], cells := 3, eqs := [] }
theorem td131_ok : td131.ok Try.prog 131 := ⟨by kernel_rfl, by kernel_rfl, by kernel_rfl, by kernel_rfl, ones_of _ (by kernel_rfl), by kernel_rfl⟩
def td166 : TD := { ti := .sc, u := .int .u64, zs := some [.i .u64 0], ones := [], cells := 1, eqs := [] }
theorem td166_ok : td166.ok Try.prog 166 := ⟨by kernel_rfl, by kernel_rfl, by kernel_rfl, by kernel_rfl, ones_of _ (by kernel_rfl), by kernel_rfl⟩
def td168 : TD := { ti := .struct [(0, 1), (1, 1), (2, 1)] 3, u := .other, zs := some [.nl, .i .i64 0, .i .i64 0], ones := [true, true, true], cells := 3, eqs := [] }
theorem td168_ok : td168.ok Try.prog 168 := ⟨by kernel_rfl, by kernel_rfl, by kernel_rfl, by kernel_rfl, ones_of _ (by kernel_rfl), by kernel_rfl⟩
def td172 : TD := { ti := .slice 24 1 24, u := .other, zs := some [.nl], ones := [], cells := 1, eqs := [] }
theorem td172_ok : td172.ok Try.prog 172 := ⟨by kernel_rfl, by kernel_rfl, by kernel_rfl, by kernel_rfl, ones_of _ (by kernel_rfl), by kernel_rfl⟩
def td188 : TD := { ti := .sc, u := .other, zs := some [.np], ones := [], cells := 1, eqs := [] }
theorem td188_ok : td188.ok Try.prog 188 := ⟨by kernel_rfl, by kernel_rfl, by kernel_rfl, by kernel_rfl, ones_of _ (by kernel_rfl), by kernel_rfl⟩
def td192 : TD := { ti := .struct [(0, 1), (1, 1), (2, 1)] 3, u := .other, zs := some [.s [], .i .i64 0, .b false], ones := [true, true, true], cells := 3, eqs := [(0, .str), (1, .int .i64), (2, .bool)] }
theorem td192_ok : td192.ok Try.prog 192 := ⟨by kernel_rfl, by kernel_rfl, by kernel_rfl, by kernel_rfl, ones_of _ (by kernel_rfl), by kernel_rfl⟩
theorem mixed_ok : Try.prog.follows .mixedOrders = true := by kernel_rfl
def tt : TT := (.node 82 td82 (.node 46 td46 (.node 22 td22 (.node 5 td5 (.node 4 td4 (.node 3 td3 .leaf .leaf) .leaf) (.node 9 td9 .leaf .leaf)) (.node 32 td32 (.node 27 td27 (.node 24 td24 .leaf .leaf) .leaf) (.node 37 td37 .leaf .leaf))) (.node 70 td70 (.node 63 td63 (.node 61 td61 (.node 53 td53 .leaf .leaf) .leaf) (.node 65 td65 .leaf .leaf)) (.node 78 td78 (.node 72 td72 .leaf .leaf) (.node 80 td80 .leaf .leaf)))) (.node 108 td108 (.node 94 td94 (.node 92 td92 (.node 87 td87 (.node 84 td84 .leaf .leaf) .leaf) (.node 93 td93 .leaf .leaf)) (.node 100 td100 (.node 99 td99 (.node 96 td96 .leaf .leaf) .leaf) (.node 102 td102 .leaf .leaf))) (.node 168 td168 (.node 131 td131 (.node 128 td128 (.node 118 td118 .leaf .leaf) .leaf) (.node 166 td166 .leaf .leaf)) (.node 188 td188 (.node 172 td172 .leaf .leaf) (.node 192 td192 .leaf .leaf)))))
theorem tt_ok : tt.ok Try.prog := ⟨td82_ok, ⟨td46_ok, ⟨td22_ok, ⟨td5_ok, ⟨td4_ok, ⟨td3_ok, mixed_ok, mixed_ok⟩, mixed_ok⟩, ⟨td9_ok, mixed_ok, mixed_ok⟩⟩, ⟨td32_ok, ⟨td27_ok, ⟨td24_ok, mixed_ok, mixed_ok⟩, mixed_ok⟩, ⟨td37_ok, mixed_ok, mixed_ok⟩⟩⟩, ⟨td70_ok, ⟨td63_ok, ⟨td61_ok, ⟨td53_ok, mixed_ok, mixed_ok⟩, mixed_ok⟩, ⟨td65_ok, mixed_ok, mixed_ok⟩⟩, ⟨td78_ok, ⟨td72_ok, mixed_ok, mixed_ok⟩, ⟨td80_ok, mixed_ok, mixed_ok⟩⟩⟩⟩, ⟨td108_ok, ⟨td94_ok, ⟨td92_ok, ⟨td87_ok, ⟨td84_ok, mixed_ok, mixed_ok⟩, mixed_ok⟩, ⟨td93_ok, mixed_ok, mixed_ok⟩⟩, ⟨td100_ok, ⟨td99_ok, ⟨td96_ok, mixed_ok, mixed_ok⟩, mixed_ok⟩, ⟨td102_ok, mixed_ok, mixed_ok⟩⟩⟩, ⟨td168_ok, ⟨td131_ok, ⟨td128_ok, ⟨td118_ok, mixed_ok, mixed_ok⟩, mixed_ok⟩, ⟨td166_ok, mixed_ok, mixed_ok⟩⟩, ⟨td188_ok, ⟨td172_ok, mixed_ok, mixed_ok⟩, ⟨td192_ok, mixed_ok, mixed_ok⟩⟩⟩⟩⟩
end Go.Proofs.Ytffphhklnbfedaa
