/- What is known of the types of this program. No condition. -/
import Derived.Test.YtjcflbhaapcjbaaVD
import Derived.Test.YtjcflbhaapcjbaaProg
import Derived.KernelRfl
namespace Go.Proofs.Ytjcflbhaapcjbaa
open Go Go.Vx

def td3 : TD := { ti := .sc, u := .int .i64, zs := some [.i .i64 0], ones := [], cells := 1 }
theorem td3_ok : td3.ok Try.prog 3 := ⟨by kernel_rfl, by kernel_rfl, by kernel_rfl, by kernel_rfl, ones_of _ (by kernel_rfl)⟩
def td4 : TD := { ti := .sc, u := .bool, zs := some [.b false], ones := [], cells := 1 }
theorem td4_ok : td4.ok Try.prog 4 := ⟨by kernel_rfl, by kernel_rfl, by kernel_rfl, by kernel_rfl, ones_of _ (by kernel_rfl)⟩
def td5 : TD := { ti := .sc, u := .int .u8, zs := some [.i .u8 0], ones := [], cells := 1 }
theorem td5_ok : td5.ok Try.prog 5 := ⟨by kernel_rfl, by kernel_rfl, by kernel_rfl, by kernel_rfl, ones_of _ (by kernel_rfl)⟩
def td9 : TD := { ti := .str, u := .str, zs := some [.s []], ones := [], cells := 1 }
theorem td9_ok : td9.ok Try.prog 9 := ⟨by kernel_rfl, by kernel_rfl, by kernel_rfl, by kernel_rfl, ones_of _ (by kernel_rfl)⟩
def td23 : TD := { ti := .struct [(0, 1), (1, 1), (2, 1)] 3, u := .other, zs := some [.i .i64 0, .i .i64 0, .s []], ones := [true, true, true], cells := 3 }
theorem td23_ok : td23.ok Try.prog 23 := ⟨by kernel_rfl, by kernel_rfl, by kernel_rfl, by kernel_rfl, ones_of _ (by kernel_rfl)⟩
def td28 : TD := { ti := .struct [(0, 1), (1, 1), (2, 1)] 3, u := .other, zs := some [.i .i64 0, .i .i64 0, .i .i64 0], ones := [true, true, true], cells := 3 }
theorem td28_ok : td28.ok Try.prog 28 := ⟨by kernel_rfl, by kernel_rfl, by kernel_rfl, by kernel_rfl, ones_of _ (by kernel_rfl)⟩
def td30 : TD := { ti := .struct [(0, 1), (1, 1), (2, 1)] 3, u := .other, zs := some [.i .i64 0, .i .i64 0, .i .i64 0], ones := [true, true, true], cells := 3 }
theorem td30_ok : td30.ok Try.prog 30 := ⟨by kernel_rfl, by kernel_rfl, by kernel_rfl, by kernel_rfl, ones_of _ (by kernel_rfl)⟩
def td33 : TD := { ti := .slice 5 1 1, u := .other, zs := some [.nl], ones := [], cells := 1 }
theorem td33_ok : td33.ok Try.prog 33 := ⟨by kernel_rfl, by kernel_rfl, by kernel_rfl, by kernel_rfl, ones_of _ (by kernel_rfl)⟩
def td35 : TD := { ti := .slice 3 1 8, u := .other, zs := some [.nl], ones := [], cells := 1 }
theorem td35_ok : td35.ok Try.prog 35 := ⟨by kernel_rfl, by kernel_rfl, by kernel_rfl, by kernel_rfl, ones_of _ (by kernel_rfl)⟩
def td41 : TD := { ti := .struct [(0, 1), (1, 1), (2, 1), (3, 1)] 4, u := .other, zs := some [.i .i64 0, .i .i64 0, .i .i64 0, .i .i64 0], ones := [true, true, true, true], cells := 4 }
theorem td41_ok : td41.ok Try.prog 41 := ⟨by kernel_rfl, by kernel_rfl, by kernel_rfl, by kernel_rfl, ones_of _ (by kernel_rfl)⟩
def td44 : TD := { ti := .struct [(0, 1), (1, 1), (2, 1), (3, 1)] 4, u := .other, zs := some [.i .i64 0, .i .i64 0, .i .i64 0, .i .i64 0], ones := [true, true, true, true], cells := 4 }
theorem td44_ok : td44.ok Try.prog 44 := ⟨by kernel_rfl, by kernel_rfl, by kernel_rfl, by kernel_rfl, ones_of _ (by kernel_rfl)⟩
def td48 : TD := { ti := .struct [(0, 1), (1, 1), (2, 1)] 3, u := .other, zs := some [.nl, .nl, .nl], ones := [true, true, true], cells := 3 }
theorem td48_ok : td48.ok Try.prog 48 := ⟨by kernel_rfl, by kernel_rfl, by kernel_rfl, by kernel_rfl, ones_of _ (by kernel_rfl)⟩
def td51 : TD := { ti := .struct [(0, 1), (1, 1), (2, 1)] 3, u := .other, zs := some [.nl, .nl, .nl], ones := [true, true, true], cells := 3 }
theorem td51_ok : td51.ok Try.prog 51 := ⟨by kernel_rfl, by kernel_rfl, by kernel_rfl, by kernel_rfl, ones_of _ (by kernel_rfl)⟩
def td59 : TD := { ti := .slice 44 4 32, u := .other, zs := some [.nl], ones := [], cells := 1 }
theorem td59_ok : td59.ok Try.prog 59 := ⟨by kernel_rfl, by kernel_rfl, by kernel_rfl, by kernel_rfl, ones_of _ (by kernel_rfl)⟩
def td69 : TD := { ti := .struct [(0, 1), (1, 1), (2, 1), (3, 1)] 4, u := .other, zs := some [.i .i64 0, .i .i64 0, .nl, .nl], ones := [true, true, true, true], cells := 4 }
theorem td69_ok : td69.ok Try.prog 69 := ⟨by kernel_rfl, by kernel_rfl, by kernel_rfl, by kernel_rfl, ones_of _ (by kernel_rfl)⟩
def td85 : TD := { ti := .sc, u := .other, zs := some [.np], ones := [], cells := 1 }
theorem td85_ok : td85.ok Try.prog 85 := ⟨by kernel_rfl, by kernel_rfl, by kernel_rfl, by kernel_rfl, ones_of _ (by kernel_rfl)⟩
def td96 : TD := { ti := .slice 9 1 16, u := .other, zs := some [.nl], ones := [], cells := 1 }
theorem td96_ok : td96.ok Try.prog 96 := ⟨by kernel_rfl, by kernel_rfl, by kernel_rfl, by kernel_rfl, ones_of _ (by kernel_rfl)⟩
def td99 : TD := { ti := .arr 3 1 3, u := .other, zs := some [.i .i64 0, .i .i64 0, .i .i64 0], ones := [], cells := 3 }
theorem td99_ok : td99.ok Try.prog 99 := ⟨by kernel_rfl, by kernel_rfl, by kernel_rfl, by kernel_rfl, ones_of _ (by kernel_rfl)⟩
def td111 : TD := { ti := .struct [(0, 1), (1, 1), (2, 1)] 3, u := .other, zs := some [.nl, .i .i64 0, .i .i64 0], ones := [true, true, true], cells := 3 }
theorem td111_ok : td111.ok Try.prog 111 := ⟨by kernel_rfl, by kernel_rfl, by kernel_rfl, by kernel_rfl, ones_of _ (by kernel_rfl)⟩
def td116 : TD := { ti := .slice 35 1 24, u := .other, zs := some [.nl], ones := [], cells := 1 }
theorem td116_ok : td116.ok Try.prog 116 := ⟨by kernel_rfl, by kernel_rfl, by kernel_rfl, by kernel_rfl, ones_of _ (by kernel_rfl)⟩
def tt : TT := (.node 44 td44 (.node 28 td28 (.node 5 td5 (.node 4 td4 (.node 3 td3 .leaf .leaf) .leaf) (.node 23 td23 (.node 9 td9 .leaf .leaf) .leaf)) (.node 35 td35 (.node 33 td33 (.node 30 td30 .leaf .leaf) .leaf) (.node 41 td41 .leaf .leaf))) (.node 85 td85 (.node 59 td59 (.node 51 td51 (.node 48 td48 .leaf .leaf) .leaf) (.node 69 td69 .leaf .leaf)) (.node 111 td111 (.node 99 td99 (.node 96 td96 .leaf .leaf) .leaf) (.node 116 td116 .leaf .leaf))))
theorem tt_ok : tt.ok Try.prog := ⟨td44_ok, ⟨td28_ok, ⟨td5_ok, ⟨td4_ok, ⟨td3_ok, trivial, trivial⟩, trivial⟩, ⟨td23_ok, ⟨td9_ok, trivial, trivial⟩, trivial⟩⟩, ⟨td35_ok, ⟨td33_ok, ⟨td30_ok, trivial, trivial⟩, trivial⟩, ⟨td41_ok, trivial, trivial⟩⟩⟩, ⟨td85_ok, ⟨td59_ok, ⟨td51_ok, ⟨td48_ok, trivial, trivial⟩, trivial⟩, ⟨td69_ok, trivial, trivial⟩⟩, ⟨td111_ok, ⟨td99_ok, ⟨td96_ok, trivial, trivial⟩, trivial⟩, ⟨td116_ok, trivial, trivial⟩⟩⟩⟩
end Go.Proofs.Ytjcflbhaapcjbaa
