/- Contracts of functions of the translated program, by the walk. -/
import Derived.Test.YtpjimhkblldhaaaDoorK6
import Derived.Test.YtpjimhkblldhaaaDoorK1
import Derived.Test.YtpjimhkblldhaaaDoorLD
set_option linter.unusedVariables false
set_option linter.unusedSimpArgs false
set_option maxRecDepth 8000
set_option maxHeartbeats 4000000
namespace Go.Proofs.YtpjimhkblldhaaaDoor
open Go Go.Sx
theorem flat_snoc {α : Type} (enc : α → List V) (l : List α) (a : α) : (l ++ [a]).flatMap enc = l.flatMap enc ++ enc a := by simp
end Go.Proofs.YtpjimhkblldhaaaDoor

