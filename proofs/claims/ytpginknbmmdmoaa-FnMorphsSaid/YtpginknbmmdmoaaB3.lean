/- Contracts of functions of the translated program, by the walk. -/
import Derived.Test.YtpginknbmmdmoaaR1g
import Derived.Test.YtpginknbmmdmoaaLD
set_option linter.unusedVariables false
set_option linter.unusedSimpArgs false
set_option maxRecDepth 8000
set_option maxHeartbeats 4000000
namespace Go.Proofs.Ytpginknbmmdmoaa
open Go Go.Sx
theorem hz12 : ∀ x : Nat → Int, (rowL .u16 12 x).length = 12 := fun _ => rowL_length ..
end Go.Proofs.Ytpginknbmmdmoaa

