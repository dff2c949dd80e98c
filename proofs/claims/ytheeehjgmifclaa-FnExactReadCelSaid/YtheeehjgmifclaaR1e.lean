/- Contracts of functions of the translated program, by the walk. -/
import Derived.Test.YtheeehjgmifclaaR1d
set_option linter.unusedVariables false
set_option linter.unusedSimpArgs false
set_option maxRecDepth 8000
set_option maxHeartbeats 4000000
namespace Go.Proofs.Ytheeehjgmifclaa
open Go Go.Sx
theorem allEq_self (n : Nat) (f : Nat → Int) : allEq n f f = true := allEq_iff.2 fun _ _ => rfl
theorem eqCel {H : List Blk} {f g f' g' : Nat → Int} : Cal Try.prog 30 [.a (rowL .u16 12 (f) ++ rowL .u16 12 (g)), .a (rowL .u16 12 (f') ++ rowL .u16 12 (g'))] H fun v H' => v = .v (.bool (allEq 12 f f' && allEq 12 g g')) ∧ H' = H := by
  refine cal_fn 15 mixed Try.func30 Try.ntmps30 Try.results30 rfl rfl rfl fun hw cx hx hq => ?_
  simp only [go_sem]
  repeat (refine And.intro (by omega) ?_)
  refine call_ret eqFrame (by simp only [go_sem]) ?_
  cases e1 : allEq 12 f f'
  · simp only [go_sem]
    refine ret_cut hq hw _ (.inl rfl) ?_
    simp [go_sem, e1]
  simp only [go_sem]
  repeat (refine And.intro (by omega) ?_)
  refine call_ret eqFrame (by simp only [go_sem]) ?_
  cases e2 : allEq 12 g g' <;> simp only [go_sem] <;> refine ret_cut hq hw _ (.inl rfl) ?_ <;> simp [go_sem, e1, e2]
end Go.Proofs.Ytheeehjgmifclaa

