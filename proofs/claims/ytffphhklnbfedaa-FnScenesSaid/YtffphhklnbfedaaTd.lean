/- Scenes: the law for the bytes of a row. No condition. -/
import Derived.Test.YtffphhklnbfedaaTc
namespace Go.Proofs.Ytffphhklnbfedaa
open Go Go.Vx
set_option linter.unusedVariables false
set_option linter.unusedSimpArgs false
set_option maxHeartbeats 600000
set_option maxRecDepth 100000
theorem bytes_of (n : List Int) (h : ∀ z ∈ n, IntKind.u8.has z) : ∃ l : List UInt8, n.map (V.i .u8) = l.map byteV := by
  refine ⟨n.map fun z => UInt8.ofNat z.toNat, ?_⟩
  rw [List.map_map]
  refine List.map_congr_left fun z hz => ?_
  have hh := h z hz
  have : 0 ≤ z ∧ z ≤ 255 := by
    unfold IntKind.has IntKind.min IntKind.max at hh
    simpa [IntKind.bits, IntKind.signed] using hh
  show V.i .u8 z = byteV (UInt8.ofNat z.toNat)
  unfold byteV
  congr 1
  rw [UInt8.toNat_ofNat']
  omega
theorem law_scenes_row (n : List Int) (h : ∀ z ∈ n, IntKind.u8.has z) : Vow Try.prog 3 [.sl (n.map (.i .u8))] (.b true) [] := by
  obtain ⟨l, hl⟩ := bytes_of n h
  rw [hl]
  exact law_scenes l
end Go.Proofs.Ytffphhklnbfedaa
