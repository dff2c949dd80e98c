/- Contracts of functions of the translated program, by the walk. -/
import Derived.Test.YtpjimhkblldhaaaK14
set_option linter.unusedVariables false
set_option linter.unusedSimpArgs false
set_option maxRecDepth 8000
set_option maxHeartbeats 4000000
namespace Go.Proofs.Ytpjimhkblldhaaa
open Go Go.Sx
theorem mdK_KyW {a : Nat → Int} (h : KyW a) : KyW (mdK a) := ⟨h.t, h.x, h.y⟩
end Go.Proofs.Ytpjimhkblldhaaa

