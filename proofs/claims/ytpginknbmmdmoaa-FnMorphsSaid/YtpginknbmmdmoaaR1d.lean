/- Contracts of functions of the translated program, by the walk. -/
import Derived.Test.YtpginknbmmdmoaaR1c
set_option linter.unusedVariables false
set_option linter.unusedSimpArgs false
set_option maxRecDepth 8000
set_option maxHeartbeats 4000000
namespace Go.Proofs.Ytpginknbmmdmoaa
open Go Go.Sx
theorem zeros_zero (zs : List V) : zerosL zs 0 = [] := rfl
theorem zeros_succ (zs : List V) (n : Nat) : zerosL zs (n + 1) = zs ++ zerosL zs n := rfl
attribute [go_sem] zeros_zero zeros_succ
theorem areFrames2 {H : List Blk} {i off : Nat} {cap : Cap} {f g : Nat → Int} {b : Blk} (h : At H i off (rowL .u16 12 (f) ++ rowL .u16 12 (g)) b) :
    Cal Try.prog 70 [.s i off 2 cap] H fun v H' => v = .v (.bool (okF f && okF g)) ∧ H' = H := by
  have := areFrames (l := [f, g]) (cap := cap) (by simpa using h) (by simp)
  simpa using this
theorem areFrames3 {H : List Blk} {i off : Nat} {cap : Cap} {f g e : Nat → Int} {b : Blk} (h : At H i off (rowL .u16 12 (f) ++ rowL .u16 12 (g) ++ rowL .u16 12 (e)) b) :
    Cal Try.prog 70 [.s i off 3 cap] H fun v H' => v = .v (.bool (okF f && (okF g && okF e))) ∧ H' = H := by
  have := areFrames (l := [f, g, e]) (cap := cap) (by simpa using h) (by simp)
  simpa using this
end Go.Proofs.Ytpginknbmmdmoaa

