/- Contracts of functions of the translated program, by the walk. -/
import Derived.Test.YtpjimhkblldhaaaK9
set_option linter.unusedVariables false
set_option linter.unusedSimpArgs false
set_option maxRecDepth 8000
set_option maxHeartbeats 4000000
namespace Go.Proofs.Ytpjimhkblldhaaa
open Go Go.Sx
theorem okK_KyW {a : Nat → Int} (h : okK a = true) : KyW a := by
  have := okK_iff.1 h
  exact ⟨by omega, by omega, by omega⟩
end Go.Proofs.Ytpjimhkblldhaaa

