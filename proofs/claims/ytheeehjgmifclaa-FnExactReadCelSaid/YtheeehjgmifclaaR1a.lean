/- Contracts of functions of the translated program, by the walk. -/
import Derived.Test.YtheeehjgmifclaaT1
set_option linter.unusedVariables false
set_option linter.unusedSimpArgs false
set_option maxRecDepth 8000
set_option maxHeartbeats 4000000
namespace Go.Proofs.Ytheeehjgmifclaa
open Go Go.Sx
def okF (f : Nat → Int) : Bool := allN 12 fun j => decide (f j ≤ 4095)
def lessF (f g : Nat → Int) (j : Nat) : Int := bits .andNot .u16 (f j) (g j)

end Go.Proofs.Ytheeehjgmifclaa

