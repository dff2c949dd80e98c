/- Contracts of functions of the translated program, by the walk. -/
import Derived.Test.YtpginknbmmdmoaaR1g
import Derived.Test.YtpginknbmmdmoaaLD
set_option linter.unusedVariables false
set_option linter.unusedSimpArgs false
set_option maxRecDepth 8000
set_option maxHeartbeats 4000000
namespace Go.Proofs.Ytpginknbmmdmoaa
open Go Go.Sx

def mk16 (k : Int) (c : Nat) : Int := IntKind.u16.wrap (k + c)
theorem eqFrameSelf {H : List Blk} {f : Nat → Int} : Cal Try.prog 18 [.a (rowL .u16 12 (f)), .a (rowL .u16 12 (f))] H fun v H' => v = .v (.bool true) ∧ H' = H := by
  have := eqFrame (H := H) (f := f) (g := f)
  rwa [allEq_self] at this
end Go.Proofs.Ytpginknbmmdmoaa


