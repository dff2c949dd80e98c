/- Contracts of functions of the translated program, by the walk. -/
import Derived.Test.YtpginknbmmdmoaaB3
import Derived.Test.YtpginknbmmdmoaaLD
set_option linter.unusedVariables false
set_option linter.unusedSimpArgs false
set_option maxRecDepth 8000
set_option maxHeartbeats 4000000
namespace Go.Proofs.Ytpginknbmmdmoaa
open Go Go.Sx
def pg (l : List (Nat → Int)) (i : Nat) : Nat → Int := l[i]?.getD zeroF
theorem pg_at {l : List (Nat → Int)} {i : Nat} (h : i < l.length) : pg l i = l[i] := by unfold pg; rw [List.getElem?_eq_getElem h]; rfl
end Go.Proofs.Ytpginknbmmdmoaa

