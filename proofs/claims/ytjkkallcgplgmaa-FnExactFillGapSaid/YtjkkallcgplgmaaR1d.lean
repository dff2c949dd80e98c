/- Contracts of functions of the translated program, by the walk. -/
import Derived.Test.YtjkkallcgplgmaaR1c
set_option linter.unusedVariables false
set_option linter.unusedSimpArgs false
set_option maxRecDepth 8000
set_option maxHeartbeats 4000000
namespace Go.Proofs.Ytjkkallcgplgmaa
open Go Go.Sx
theorem zeros_zero (zs : List V) : zerosL zs 0 = [] := rfl
theorem zeros_succ (zs : List V) (n : Nat) : zerosL zs (n + 1) = zs ++ zerosL zs n := rfl
attribute [go_sem] zeros_zero zeros_succ
end Go.Proofs.Ytjkkallcgplgmaa

