/- What is known of the types of this program. No condition. -/
import Derived.Test.YtfcjjkfjdecakaaVD
import Derived.Test.YtfcjjkfjdecakaaProg
import Derived.KernelRfl
namespace Go.Proofs.Ytfcjjkfjdecakaa
open Go Go.Vx

def td3 : TD := { ti := .sc, u := .int .i64, zs := some [.i .i64 0], ones := [], cells := 1, eqs := [] }
theorem td3_ok : td3.ok Try.prog 3 := ⟨by kernel_rfl, by kernel_rfl, by kernel_rfl, by kernel_rfl, ones_of _ (by kernel_rfl), by kernel_rfl⟩
def td4 : TD := { ti := .sc, u := .bool, zs := some [.b false], ones := [], cells := 1, eqs := [] }
theorem td4_ok : td4.ok Try.prog 4 := ⟨by kernel_rfl, by kernel_rfl, by kernel_rfl, by kernel_rfl, ones_of _ (by kernel_rfl), by kernel_rfl⟩
def td5 : TD := { ti := .sc, u := .int .u8, zs := some [.i .u8 0], ones := [], cells := 1, eqs := [] }
theorem td5_ok : td5.ok Try.prog 5 := ⟨by kernel_rfl, by kernel_rfl, by kernel_rfl, by kernel_rfl, ones_of _ (by kernel_rfl), by kernel_rfl⟩
def td9 : TD := { ti := .str, u := .str, zs := some [.s []], ones := [], cells := 1, eqs := [] }
theorem td9_ok : td9.ok Try.prog 9 := ⟨by kernel_rfl, by kernel_rfl, by kernel_rfl, by kernel_rfl, ones_of _ (by kernel_rfl), by kernel_rfl⟩
def td22 : TD := { ti := .slice 3 1 8, u := .other, zs := some [.nl], ones := [], cells := 1, eqs := [] }
theorem td22_ok : td22.ok Try.prog 22 := ⟨by kernel_rfl, by kernel_rfl, by kernel_rfl, by kernel_rfl, ones_of _ (by kernel_rfl), by kernel_rfl⟩
def td24 : TD := { ti := .struct [(0, 1), (1, 1), (2, 1), (3, 1)] 4, u := .other, zs := some [.i .i64 0, .i .i64 0, .nl, .nl], ones := [true, true, true, true], cells := 4, eqs := [] }
theorem td24_ok : td24.ok Try.prog 24 := ⟨by kernel_rfl, by kernel_rfl, by kernel_rfl, by kernel_rfl, ones_of _ (by kernel_rfl), by kernel_rfl⟩
def td26 : TD := { ti := .struct [(0, 1), (1, 1), (2, 1), (3, 1)] 4, u := .other, zs := some [.i .i64 0, .b false, .b false, .b false], ones := [true, true, true, true], cells := 4, eqs := [(0, .int .i64), (1, .bool), (2, .bool), (3, .bool)] }
theorem td26_ok : td26.ok Try.prog 26 := ⟨by kernel_rfl, by kernel_rfl, by kernel_rfl, by kernel_rfl, ones_of _ (by kernel_rfl), by kernel_rfl⟩
def td28 : TD := { ti := .struct [(0, 1), (1, 1), (2, 1)] 3, u := .other, zs := some [.b false, .i .i64 0, .s []], ones := [true, true, true], cells := 3, eqs := [(0, .bool), (1, .int .i64), (2, .str)] }
theorem td28_ok : td28.ok Try.prog 28 := ⟨by kernel_rfl, by kernel_rfl, by kernel_rfl, by kernel_rfl, ones_of _ (by kernel_rfl), by kernel_rfl⟩
def td33 : TD := { ti := .struct [(0, 1), (1, 1), (2, 1), (3, 1)] 4, u := .other, zs := some [.i .i64 0, .i .i64 0, .nl, .nl], ones := [true, true, true, true], cells := 4, eqs := [] }
theorem td33_ok : td33.ok Try.prog 33 := ⟨by kernel_rfl, by kernel_rfl, by kernel_rfl, by kernel_rfl, ones_of _ (by kernel_rfl), by kernel_rfl⟩
def td35 : TD := { ti := .struct [(0, 1), (1, 1), (2, 1), (3, 1)] 4, u := .other, zs := some [.i .i64 0, .b false, .b false, .b false], ones := [true, true, true, true], cells := 4, eqs := [(0, .int .i64), (1, .bool), (2, .bool), (3, .bool)] }
theorem td35_ok : td35.ok Try.prog 35 := ⟨by kernel_rfl, by kernel_rfl, by kernel_rfl, by kernel_rfl, ones_of _ (by kernel_rfl), by kernel_rfl⟩
def td37 : TD := { ti := .struct [(0, 1), (1, 1), (2, 1)] 3, u := .other, zs := some [.b false, .i .i64 0, .s []], ones := [true, true, true], cells := 3, eqs := [(0, .bool), (1, .int .i64), (2, .str)] }
theorem td37_ok : td37.ok Try.prog 37 := ⟨by kernel_rfl, by kernel_rfl, by kernel_rfl, by kernel_rfl, ones_of _ (by kernel_rfl), by kernel_rfl⟩
def td42 : TD := { ti := .struct [(0, 1), (1, 1), (2, 1)] 3, u := .other, zs := some [.i .i64 0, .i .i64 0, .i .i64 0], ones := [true, true, true], cells := 3, eqs := [(0, .int .i64), (1, .int .i64), (2, .int .i64)] }
theorem td42_ok : td42.ok Try.prog 42 := ⟨by kernel_rfl, by kernel_rfl, by kernel_rfl, by kernel_rfl, ones_of _ (by kernel_rfl), by kernel_rfl⟩
def td48 : TD := { ti := .slice 5 1 1, u := .other, zs := some [.nl], ones := [], cells := 1, eqs := [] }
theorem td48_ok : td48.ok Try.prog 48 := ⟨by kernel_rfl, by kernel_rfl, by kernel_rfl, by kernel_rfl, ones_of _ (by kernel_rfl), by kernel_rfl⟩
def td50 : TD := { ti := .slice 54 4 32, u := .other, zs := some [.nl], ones := [], cells := 1, eqs := [] }
theorem td50_ok : td50.ok Try.prog 50 := ⟨by kernel_rfl, by kernel_rfl, by kernel_rfl, by kernel_rfl, ones_of _ (by kernel_rfl), by kernel_rfl⟩
def td54 : TD := { ti := .struct [(0, 1), (1, 1), (2, 1), (3, 1)] 4, u := .other, zs := some [.i .i64 0, .i .i64 0, .i .i64 0, .i .i64 0], ones := [true, true, true, true], cells := 4, eqs := [(0, .int .i64), (1, .int .i64), (2, .int .i64), (3, .int .i64)] }
theorem td54_ok : td54.ok Try.prog 54 := ⟨by kernel_rfl, by kernel_rfl, by kernel_rfl, by kernel_rfl, ones_of _ (by kernel_rfl), by kernel_rfl⟩
def td61 : TD := { ti := .struct [(0, 1), (1, 1), (2, 1)] 3, u := .other, zs := some [.nl, .nl, .nl], ones := [true, true, true], cells := 3, eqs := [] }
theorem td61_ok : td61.ok Try.prog 61 := ⟨by kernel_rfl, by kernel_rfl, by kernel_rfl, by kernel_rfl, ones_of _ (by kernel_rfl), by kernel_rfl⟩
def td74 : TD := { ti := .struct [(0, 1), (1, 1), (2, 1)] 3, u := .other, zs := some [.nl, .nl, .nl], ones := [true, true, true], cells := 3, eqs := [] }
theorem td74_ok : td74.ok Try.prog 74 := ⟨by kernel_rfl, by kernel_rfl, by kernel_rfl, by kernel_rfl, ones_of _ (by kernel_rfl), by kernel_rfl⟩
def td75 : TD := { ti := .slice 74 3 72, u := .other, zs := some [.nl], ones := [], cells := 1, eqs := [] }
theorem td75_ok : td75.ok Try.prog 75 := ⟨by kernel_rfl, by kernel_rfl, by kernel_rfl, by kernel_rfl, ones_of _ (by kernel_rfl), by kernel_rfl⟩
def td76 : TD := { ti := .slice 185 10 80, u := .other, zs := some [.nl], ones := [], cells := 1, eqs := [] }
theorem td76_ok : td76.ok Try.prog 76 := ⟨by kernel_rfl, by kernel_rfl, by kernel_rfl, by kernel_rfl, ones_of _ (by kernel_rfl), by kernel_rfl⟩
def td78 : TD := { ti := .struct [(0, 4), (4, 1), (5, 1), (6, 1), (7, 1), (8, 3), (11, 1), (12, 1)] 13, u := .other, zs := some [.i .i64 0, .b false, .b false, .b false, .i .i64 0, .i .i64 0, .i .i64 0, .i .i64 0, .nl, .nl, .nl, .nl, .nl], ones := [false, true, true, true, true, false, true, true], cells := 13, eqs := [] }
theorem td78_ok : td78.ok Try.prog 78 := ⟨by kernel_rfl, by kernel_rfl, by kernel_rfl, by kernel_rfl, ones_of _ (by kernel_rfl), by kernel_rfl⟩
def td81 : TD := { ti := .slice 61 3 72, u := .other, zs := some [.nl], ones := [], cells := 1, eqs := [] }
theorem td81_ok : td81.ok Try.prog 81 := ⟨by kernel_rfl, by kernel_rfl, by kernel_rfl, by kernel_rfl, ones_of _ (by kernel_rfl), by kernel_rfl⟩
def td82 : TD := { ti := .slice 183 10 80, u := .other, zs := some [.nl], ones := [], cells := 1, eqs := [] }
theorem td82_ok : td82.ok Try.prog 82 := ⟨by kernel_rfl, by kernel_rfl, by kernel_rfl, by kernel_rfl, ones_of _ (by kernel_rfl), by kernel_rfl⟩
def td84 : TD := { ti := .struct [(0, 4), (4, 1), (5, 1), (6, 1), (7, 1), (8, 3), (11, 1), (12, 1)] 13, u := .other, zs := some [.i .i64 0, .b false, .b false, .b false, .i .i64 0, .i .i64 0, .i .i64 0, .i .i64 0, .nl, .nl, .nl, .nl, .nl], ones := [false, true, true, true, true, false, true, true], cells := 13, eqs := [] }
theorem td84_ok : td84.ok Try.prog 84 := ⟨by kernel_rfl, by kernel_rfl, by kernel_rfl, by kernel_rfl, ones_of _ (by kernel_rfl), by kernel_rfl⟩
def td94 : TD := { ti := .slice 9 1 16, u := .other, zs := some [.nl], ones := [], cells := 1, eqs := [] }
theorem td94_ok : td94.ok Try.prog 94 := ⟨by kernel_rfl, by kernel_rfl, by kernel_rfl, by kernel_rfl, ones_of _ (by kernel_rfl), by kernel_rfl⟩
def td96 : TD := { ti := .slice 37 3 32, u := .other, zs := some [.nl], ones := [], cells := 1, eqs := [] }
theorem td96_ok : td96.ok Try.prog 96 := ⟨by kernel_rfl, by kernel_rfl, by kernel_rfl, by kernel_rfl, ones_of _ (by kernel_rfl), by kernel_rfl⟩
def td105 : TD := { ti := .slice 28 3 32, u := .other, zs := some [.nl], ones := [], cells := 1, eqs := [] }
theorem td105_ok : td105.ok Try.prog 105 := ⟨by kernel_rfl, by kernel_rfl, by kernel_rfl, by kernel_rfl, ones_of _ (by kernel_rfl), by kernel_rfl⟩
def td122 : TD := { ti := .sc, u := .other, zs := some [.np], ones := [], cells := 1, eqs := [] }
theorem td122_ok : td122.ok Try.prog 122 := ⟨by kernel_rfl, by kernel_rfl, by kernel_rfl, by kernel_rfl, ones_of _ (by kernel_rfl), by kernel_rfl⟩
def td131 : TD := { ti := .arr 3 1 3, u := .other, zs := some [.i .i64 0, .i .i64 0, .i .i64 0], ones := [], cells := 3, eqs := [] }
theorem td131_ok : td131.ok Try.prog 131 := ⟨by kernel_rfl, by kernel_rfl, by kernel_rfl, by kernel_rfl, ones_of _ (by kernel_rfl), by kernel_rfl⟩
def td153 : TD := { ti := .sc, u := .int .u64, zs := some [.i .u64 0], ones := [], cells := 1, eqs := [] }
theorem td153_ok : td153.ok Try.prog 153 := ⟨by kernel_rfl, by kernel_rfl, by kernel_rfl, by kernel_rfl, ones_of _ (by kernel_rfl), by kernel_rfl⟩
def td158 : TD := { ti := .slice 193 10 96, u := .other, zs := some [.nl], ones := [], cells := 1, eqs := [] }
theorem td158_ok : td158.ok Try.prog 158 := ⟨by kernel_rfl, by kernel_rfl, by kernel_rfl, by kernel_rfl, ones_of _ (by kernel_rfl), by kernel_rfl⟩
def td170 : TD := { ti := .sc, u := .other, zs := some [.np], ones := [], cells := 1, eqs := [] }
theorem td170_ok : td170.ok Try.prog 170 := ⟨by kernel_rfl, by kernel_rfl, by kernel_rfl, by kernel_rfl, ones_of _ (by kernel_rfl), by kernel_rfl⟩
def td174 : TD := { ti := .struct [(0, 1), (1, 1), (2, 1)] 3, u := .other, zs := some [.s [], .i .i64 0, .b false], ones := [true, true, true], cells := 3, eqs := [(0, .str), (1, .int .i64), (2, .bool)] }
theorem td174_ok : td174.ok Try.prog 174 := ⟨by kernel_rfl, by kernel_rfl, by kernel_rfl, by kernel_rfl, ones_of _ (by kernel_rfl), by kernel_rfl⟩
def td176 : TD := { ti := .struct [(0, 1), (1, 1), (2, 1)] 3, u := .other, zs := some [.nl, .i .i64 0, .i .i64 0], ones := [true, true, true], cells := 3, eqs := [] }
theorem td176_ok : td176.ok Try.prog 176 := ⟨by kernel_rfl, by kernel_rfl, by kernel_rfl, by kernel_rfl, ones_of _ (by kernel_rfl), by kernel_rfl⟩
def td180 : TD := { ti := .slice 22 1 24, u := .other, zs := some [.nl], ones := [], cells := 1, eqs := [] }
theorem td180_ok : td180.ok Try.prog 180 := ⟨by kernel_rfl, by kernel_rfl, by kernel_rfl, by kernel_rfl, ones_of _ (by kernel_rfl), by kernel_rfl⟩
def td183 : TD := { ti := .struct [(0, 1), (1, 1), (2, 1), (3, 1), (4, 1), (5, 1), (6, 1), (7, 1), (8, 1), (9, 1)] 10, u := .other, zs := some [.i .i64 0, .i .i64 0, .i .i64 0, .i .i64 0, .i .i64 0, .i .i64 0, .i .i64 0, .i .i64 0, .i .i64 0, .i .i64 0], ones := [true, true, true, true, true, true, true, true, true, true], cells := 10, eqs := [(0, .int .i64), (1, .int .i64), (2, .int .i64), (3, .int .i64), (4, .int .i64), (5, .int .i64), (6, .int .i64), (7, .int .i64), (8, .int .i64), (9, .int .i64)] }
theorem td183_ok : td183.ok Try.prog 183 := ⟨by kernel_rfl, by kernel_rfl, by kernel_rfl, by kernel_rfl, ones_of _ (by kernel_rfl), by kernel_rfl⟩
def td185 : TD := { ti := .struct [(0, 1), (1, 1), (2, 1), (3, 1), (4, 1), (5, 1), (6, 1), (7, 1), (8, 1), (9, 1)] 10, u := .other, zs := some [.i .i64 0, .i .i64 0, .i .i64 0, .i .i64 0, .i .i64 0, .i .i64 0, .i .i64 0, .i .i64 0, .i .i64 0, .i .i64 0], ones := [true, true, true, true, true, true, true, true, true, true], cells := 10, eqs := [(0, .int .i64), (1, .int .i64), (2, .int .i64), (3, .int .i64), (4, .int .i64), (5, .int .i64), (6, .int .i64), (7, .int .i64), (8, .int .i64), (9, .int .i64)] }
theorem td185_ok : td185.ok Try.prog 185 := ⟨by kernel_rfl, by kernel_rfl, by kernel_rfl, by kernel_rfl, ones_of _ (by kernel_rfl), by kernel_rfl⟩
def td193 : TD := { ti := .struct [(0, 4), (4, 4), (8, 1), (9, 1)] 10, u := .other, zs := some [.i .i64 0, .i .i64 0, .nl, .nl, .i .i64 0, .b false, .b false, .b false, .i .i64 0, .i .i64 0], ones := [false, false, true, true], cells := 10, eqs := [] }
theorem td193_ok : td193.ok Try.prog 193 := ⟨by kernel_rfl, by kernel_rfl, by kernel_rfl, by kernel_rfl, ones_of _ (by kernel_rfl), by kernel_rfl⟩
def td194 : TD := { ti := .sc, u := .other, zs := some [.np], ones := [], cells := 1, eqs := [] }
theorem td194_ok : td194.ok Try.prog 194 := ⟨by kernel_rfl, by kernel_rfl, by kernel_rfl, by kernel_rfl, ones_of _ (by kernel_rfl), by kernel_rfl⟩
def td196 : TD := { ti := .struct [(0, 1), (1, 1), (2, 1)] 3, u := .other, zs := some [.nl, .nl, .i .i64 0], ones := [true, true, true], cells := 3, eqs := [] }
theorem td196_ok : td196.ok Try.prog 196 := ⟨by kernel_rfl, by kernel_rfl, by kernel_rfl, by kernel_rfl, ones_of _ (by kernel_rfl), by kernel_rfl⟩
theorem mixed_ok : Try.prog.follows .mixedOrders = true := by kernel_rfl
def tt : TT := (.node 78 td78 (.node 35 td35 (.node 22 td22 (.node 5 td5 (.node 4 td4 (.node 3 td3 .leaf .leaf) .leaf) (.node 9 td9 .leaf .leaf)) (.node 28 td28 (.node 26 td26 (.node 24 td24 .leaf .leaf) .leaf) (.node 33 td33 .leaf .leaf))) (.node 54 td54 (.node 48 td48 (.node 42 td42 (.node 37 td37 .leaf .leaf) .leaf) (.node 50 td50 .leaf .leaf)) (.node 75 td75 (.node 74 td74 (.node 61 td61 .leaf .leaf) .leaf) (.node 76 td76 .leaf .leaf)))) (.node 158 td158 (.node 96 td96 (.node 84 td84 (.node 82 td82 (.node 81 td81 .leaf .leaf) .leaf) (.node 94 td94 .leaf .leaf)) (.node 131 td131 (.node 122 td122 (.node 105 td105 .leaf .leaf) .leaf) (.node 153 td153 .leaf .leaf))) (.node 183 td183 (.node 176 td176 (.node 174 td174 (.node 170 td170 .leaf .leaf) .leaf) (.node 180 td180 .leaf .leaf)) (.node 194 td194 (.node 193 td193 (.node 185 td185 .leaf .leaf) .leaf) (.node 196 td196 .leaf .leaf)))))
theorem tt_ok : tt.ok Try.prog := ⟨td78_ok, ⟨td35_ok, ⟨td22_ok, ⟨td5_ok, ⟨td4_ok, ⟨td3_ok, mixed_ok, mixed_ok⟩, mixed_ok⟩, ⟨td9_ok, mixed_ok, mixed_ok⟩⟩, ⟨td28_ok, ⟨td26_ok, ⟨td24_ok, mixed_ok, mixed_ok⟩, mixed_ok⟩, ⟨td33_ok, mixed_ok, mixed_ok⟩⟩⟩, ⟨td54_ok, ⟨td48_ok, ⟨td42_ok, ⟨td37_ok, mixed_ok, mixed_ok⟩, mixed_ok⟩, ⟨td50_ok, mixed_ok, mixed_ok⟩⟩, ⟨td75_ok, ⟨td74_ok, ⟨td61_ok, mixed_ok, mixed_ok⟩, mixed_ok⟩, ⟨td76_ok, mixed_ok, mixed_ok⟩⟩⟩⟩, ⟨td158_ok, ⟨td96_ok, ⟨td84_ok, ⟨td82_ok, ⟨td81_ok, mixed_ok, mixed_ok⟩, mixed_ok⟩, ⟨td94_ok, mixed_ok, mixed_ok⟩⟩, ⟨td131_ok, ⟨td122_ok, ⟨td105_ok, mixed_ok, mixed_ok⟩, mixed_ok⟩, ⟨td153_ok, mixed_ok, mixed_ok⟩⟩⟩, ⟨td183_ok, ⟨td176_ok, ⟨td174_ok, ⟨td170_ok, mixed_ok, mixed_ok⟩, mixed_ok⟩, ⟨td180_ok, mixed_ok, mixed_ok⟩⟩, ⟨td194_ok, ⟨td193_ok, ⟨td185_ok, mixed_ok, mixed_ok⟩, mixed_ok⟩, ⟨td196_ok, mixed_ok, mixed_ok⟩⟩⟩⟩⟩
end Go.Proofs.Ytfcjjkfjdecakaa
