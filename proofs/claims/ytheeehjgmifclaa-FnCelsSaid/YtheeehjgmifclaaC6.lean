/- Contracts of functions of the translated program, by the walk. -/
import Derived.Test.YtheeehjgmifclaaB2
import Derived.Test.YtheeehjgmifclaaLD
set_option linter.unusedVariables false
set_option linter.unusedSimpArgs false
set_option maxRecDepth 8000
set_option maxHeartbeats 4000000
namespace Go.Proofs.Ytheeehjgmifclaa
open Go Go.Sx
def strC (l : List (Nat → Int)) : Int := if okB l = true then (if l.length < 2 then 6 else 0) else 1
end Go.Proofs.Ytheeehjgmifclaa

