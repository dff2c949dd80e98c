/- Contracts of functions of the translated program, by the walk. -/
import Derived.Test.YtheeehjgmifclaaC2
set_option linter.unusedVariables false
set_option linter.unusedSimpArgs false
set_option maxRecDepth 8000
set_option maxHeartbeats 4000000
namespace Go.Proofs.Ytheeehjgmifclaa
open Go Go.Sx
theorem okC_iff {f g : Nat → Int} (h : okC f g = true) : okF f = true ∧ okF g = true := by
  unfold okC at h
  simp only [Bool.and_eq_true] at h
  exact h.1
end Go.Proofs.Ytheeehjgmifclaa

