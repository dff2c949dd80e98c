/- Contracts of functions of the translated program, by the walk. -/
import Derived.Test.YtpjimhkblldhaaaK6
import Derived.Test.YtpjimhkblldhaaaK1
import Derived.Test.YtpjimhkblldhaaaLD
set_option linter.unusedVariables false
set_option linter.unusedSimpArgs false
set_option maxRecDepth 8000
set_option maxHeartbeats 4000000
namespace Go.Proofs.Ytpjimhkblldhaaa
open Go Go.Sx
/-- How many ticks a track has behind its first one. -/
def tkN (l : List (Nat → Int)) : Nat := (kAt l (l.length - 1) 0 - kAt l 0 0).toNat
theorem tkN_eq {l : List (Nat → Int)} (hv : tkOk l = true) : (tkN l : Int) = kAt l (l.length - 1) 0 - kAt l 0 0 ∧ tkN l ≤ 200 := by
  have hlen := tkOk_len hv
  have h0 := okK_iff.1 (tkOk_at hv (show 0 < l.length by omega)).1
  have h1 := okK_iff.1 (tkOk_at hv (show l.length - 1 < l.length by omega)).1
  rw [← kAt_at (show 0 < l.length by omega)] at h0
  rw [← kAt_at (show l.length - 1 < l.length by omega)] at h1
  have h2 : kAt l 0 0 ≤ kAt l (l.length - 1) 0 := by
    by_cases e : l.length - 1 = 0
    · rw [e]; exact Int.le_refl _
    · have := tkOk_lt hv (show 0 < l.length - 1 by omega) (by omega)
      rw [kAt_at (show 0 < l.length by omega), kAt_at (show l.length - 1 < l.length by omega)]; omega
  unfold tkN
  omega
end Go.Proofs.Ytpjimhkblldhaaa

