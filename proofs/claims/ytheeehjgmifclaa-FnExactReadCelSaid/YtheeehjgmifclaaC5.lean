/- Contracts of functions of the translated program, by the walk. -/
import Derived.Test.YtheeehjgmifclaaC4
set_option linter.unusedVariables false
set_option linter.unusedSimpArgs false
set_option maxRecDepth 8000
set_option maxHeartbeats 4000000
namespace Go.Proofs.Ytheeehjgmifclaa
open Go Go.Sx
theorem eqCelSelf {H : List Blk} {f g : Nat → Int} : Cal Try.prog 30 [.a (rowL .u16 12 (f) ++ rowL .u16 12 (g)), .a (rowL .u16 12 (f) ++ rowL .u16 12 (g))] H fun v H' => v = .v (.bool true) ∧ H' = H := by
  have := eqCel (H := H) (f := f) (g := g) (f' := f) (g' := g)
  simpa [allEq_self] using this
end Go.Proofs.Ytheeehjgmifclaa

