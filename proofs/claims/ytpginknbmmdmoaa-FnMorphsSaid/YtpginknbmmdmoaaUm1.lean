/- Contracts of functions of the translated program, by the walk. -/
import Derived.Test.YtpginknbmmdmoaaC1
import Derived.Test.YtpginknbmmdmoaaLD
import Derived.Test.YtpginknbmmdmoaaR1g
set_option linter.unusedVariables false
set_option linter.unusedSimpArgs false
set_option maxRecDepth 8000
set_option maxHeartbeats 4000000
namespace Go.Proofs.Ytpginknbmmdmoaa
open Go Go.Sx
open Go.RowKit
def bitF (m i : Nat) : Int := ((m / 2 ^ i % 2 : Nat) : Int)
def sdT (m n t : Nat) : List Int := (List.range t).map fun k => bitF m (n - 1 - k)
def sdL (m n : Nat) : List Int := sdT m n n
theorem sdT_len (m n t : Nat) : (sdT m n t).length = t := by simp [sdT]
@[simp] theorem sdL_len (m n : Nat) : (sdL m n).length = n := sdT_len m n n
theorem sdT_succ (m n t : Nat) : sdT m n (t + 1) = sdT m n t ++ [bitF m (n - 1 - t)] := by simp [sdT, List.range_succ]
end Go.Proofs.Ytpginknbmmdmoaa

