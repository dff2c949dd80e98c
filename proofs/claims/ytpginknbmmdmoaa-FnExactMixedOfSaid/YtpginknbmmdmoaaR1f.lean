/- Contracts of functions of the translated program, by the walk. -/
import Derived.Test.YtpginknbmmdmoaaR1e
import Derived.Test.YtpginknbmmdmoaaLD
set_option linter.unusedVariables false
set_option linter.unusedSimpArgs false
set_option maxRecDepth 8000
set_option maxHeartbeats 4000000
namespace Go.Proofs.Ytpginknbmmdmoaa
open Go Go.Sx
theorem l00In {H : List Blk} {n lo hi : Int} : Cal Try.prog 102 [.v (.int .i64 n), .v (.int .i64 lo), .v (.int .i64 hi)] H fun v H' => v = .v (.bool (decide (lo ≤ n) && decide (n ≤ hi))) ∧ H' = H := by
  refine cal_fn 12 mixed Try.func102 Try.ntmps102 Try.results102 rfl rfl rfl fun hw cx hx hq => ?_
  by_cases h1 : lo ≤ n
  · simp only [go_sem, h1]
    refine ret_same hq _ (.inl rfl) ?_
    simp [go_sem, h1]
  · simp only [go_sem, h1]
    refine ret_same hq _ (.inl rfl) ?_
    simp [go_sem, h1]
theorem inRange {H : List Blk} {n lo hi : Int} : Cal Try.prog 81 [.v (.int .i64 n), .v (.int .i64 lo), .v (.int .i64 hi)] H fun v H' => v = .v (.bool (decide (lo ≤ n) && decide (n ≤ hi))) ∧ H' = H := by
  refine cal_fn 12 mixed Try.func81 Try.ntmps81 Try.results81 rfl rfl rfl fun hw cx hx hq => ?_
  by_cases h1 : lo ≤ n
  · simp only [go_sem, h1]
    refine ret_same hq _ (.inl rfl) ?_
    simp [go_sem, h1]
  · simp only [go_sem, h1]
    refine ret_same hq _ (.inl rfl) ?_
    simp [go_sem, h1]
end Go.Proofs.Ytpginknbmmdmoaa

