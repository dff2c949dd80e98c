/- Contracts of functions of the translated program, by the walk. -/
import Derived.Test.YtheeehjgmifclaaR1f
set_option linter.unusedVariables false
set_option linter.unusedSimpArgs false
set_option maxRecDepth 8000
set_option maxHeartbeats 4000000
namespace Go.Proofs.Ytheeehjgmifclaa
open Go Go.Sx
theorem joinF_r16 {f g : Nat → Int} (h : R16 f) (h2 : R16 g) : R16 (joinF f g) := fun j hj => by
  have a := h j hj
  have b := h2 j hj
  unfold joinF
  rw [u16_or _ _ a.1 a.2 b.1 b.2]
  have := or_lt (a := (f j).toNat) (b := (g j).toNat) (by omega) (by omega)
  omega
theorem dot_joinF {f g : Nat → Int} (h : R16 f) (h2 : R16 g) {x y : Nat} (hy : y < 12) : dot (joinF f g) x y = (dot f x y || dot g x y) := by
  have a := h y hy
  have b := h2 y hy
  unfold dot joinF
  rw [u16_or _ _ a.1 a.2 b.1 b.2, Int.toNat_natCast, Nat.testBit_or]
end Go.Proofs.Ytheeehjgmifclaa

