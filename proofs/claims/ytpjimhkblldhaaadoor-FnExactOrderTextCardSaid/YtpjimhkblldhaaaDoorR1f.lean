/- Contracts of functions of the translated program, by the walk. -/
import Derived.Test.YtpjimhkblldhaaaDoorR1d
import Derived.Test.YtpjimhkblldhaaaDoorLD
set_option linter.unusedVariables false
set_option linter.unusedSimpArgs false
set_option maxRecDepth 8000
set_option maxHeartbeats 4000000
namespace Go.Proofs.YtpjimhkblldhaaaDoor
open Go Go.Sx
theorem l00In {H : List Blk} {n lo hi : Int} : Cal Tryd.prog 26 [.v (.int .i64 n), .v (.int .i64 lo), .v (.int .i64 hi)] H fun v H' => v = .v (.bool (decide (lo ≤ n) && decide (n ≤ hi))) ∧ H' = H := by
  refine cal_fn 12 mixed Tryd.func26 Tryd.ntmps26 Tryd.results26 rfl rfl rfl fun hw cx hx hq => ?_
  by_cases h1 : lo ≤ n
  · simp only [go_sem, h1]
    refine ret_same hq _ (.inl rfl) ?_
    simp [go_sem, h1]
  · simp only [go_sem, h1]
    refine ret_same hq _ (.inl rfl) ?_
    simp [go_sem, h1]
theorem inRange {H : List Blk} {n lo hi : Int} : Cal Tryd.prog 29 [.v (.int .i64 n), .v (.int .i64 lo), .v (.int .i64 hi)] H fun v H' => v = .v (.bool (decide (lo ≤ n) && decide (n ≤ hi))) ∧ H' = H := by
  refine cal_fn 12 mixed Tryd.func29 Tryd.ntmps29 Tryd.results29 rfl rfl rfl fun hw cx hx hq => ?_
  by_cases h1 : lo ≤ n
  · simp only [go_sem, h1]
    refine ret_same hq _ (.inl rfl) ?_
    simp [go_sem, h1]
  · simp only [go_sem, h1]
    refine ret_same hq _ (.inl rfl) ?_
    simp [go_sem, h1]
end Go.Proofs.YtpjimhkblldhaaaDoor

