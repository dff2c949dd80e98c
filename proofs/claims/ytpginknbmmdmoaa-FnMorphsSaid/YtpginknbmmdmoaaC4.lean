/- Contracts of functions of the translated program, by the walk. -/
import Derived.Test.YtpginknbmmdmoaaC3
set_option linter.unusedVariables false
set_option linter.unusedSimpArgs false
set_option maxRecDepth 8000
set_option maxHeartbeats 4000000
namespace Go.Proofs.Ytpginknbmmdmoaa
open Go Go.Sx
/- Blobs: plain law. -/
theorem dot_meetF {f g : Nat → Int} (h : R16 f) (h2 : R16 g) {x y : Nat} (hy : y < 12) : dot (meetF f g) x y = (dot f x y && dot g x y) := by
  have a := h y hy
  have b := h2 y hy
  unfold dot meetF
  rw [u16_and _ _ a.1 a.2 b.1 b.2, Int.toNat_natCast, Nat.testBit_and]
theorem meetF_12 {f g : Nat → Int} (h : R16 f) (h2 : F12 g) : F12 (meetF f g) := fun j hj => by
  have a := h j hj
  have b := h2 j hj
  unfold meetF
  rw [u16_and _ _ a.1 a.2 b.1 (by omega)]
  have := Nat.and_le_right (n := (f j).toNat) (m := (g j).toNat)
  omega
end Go.Proofs.Ytpginknbmmdmoaa

