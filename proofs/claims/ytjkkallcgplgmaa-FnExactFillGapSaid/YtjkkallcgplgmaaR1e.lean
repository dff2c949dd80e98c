/- Contracts of functions of the translated program, by the walk. -/
import Derived.Test.YtjkkallcgplgmaaR1d
set_option linter.unusedVariables false
set_option linter.unusedSimpArgs false
set_option maxRecDepth 8000
set_option maxHeartbeats 4000000
namespace Go.Proofs.Ytjkkallcgplgmaa
open Go Go.Sx
theorem allEq_self (n : Nat) (f : Nat → Int) : allEq n f f = true := allEq_iff.2 fun _ _ => rfl
end Go.Proofs.Ytjkkallcgplgmaa

