/- Contracts of functions of the translated program, by the walk. -/
import Derived.Test.YtjkkallcgplgmaaD4
import Derived.Test.YtjkkallcgplgmaaB3
set_option linter.unusedVariables false
set_option linter.unusedSimpArgs false
set_option maxRecDepth 8000
set_option maxHeartbeats 4000000
namespace Go.Proofs.Ytjkkallcgplgmaa
open Go Go.Sx
theorem pageC_ok {l : List (Nat → Int)} {p : Int} (h : pageC l p = 0) : okB l = true ∧ 0 ≤ p ∧ p < l.length := by
  unfold pageC at h
  split at h
  · rename_i e
    split at h
    · rename_i h2; simp at h2; exact ⟨e, by omega, by omega⟩
    · cases h
  · cases h
end Go.Proofs.Ytjkkallcgplgmaa

