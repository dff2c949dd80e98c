/- Contracts of functions of the translated program, by the walk. -/
import Derived.Test.YtjkkallcgplgmaaC6
import Derived.Test.YtjkkallcgplgmaaD4
import Derived.Test.YtjkkallcgplgmaaLD
set_option linter.unusedVariables false
set_option linter.unusedSimpArgs false
set_option maxRecDepth 8000
set_option maxHeartbeats 4000000
namespace Go.Proofs.Ytjkkallcgplgmaa
open Go Go.Sx
theorem isNaN64 {H : List Blk} {x : Int} : Cal Try.prog 114 [.v (.int .i64 x)] H fun u H' => u = .v (.bool false) ∧ H' = H := by
  refine cal_fn 5 mixed Try.func114 Try.ntmps114 Try.results114 rfl rfl rfl fun hw cx hx hq => ?_
  repeat (first | (simp only [go_sem, Int.reduceLT, Int.reduceLE, Int.reduceEq, Int.reduceToNat]) | ((with_reducible refine And.intro ?_ ?_); omega) | ((with_reducible refine And.intro ?_ ?_); first | (with_reducible rfl) | assumption | (simp only [go_sem]; done)))
  refine ret_same hq _ (.inl rfl) ?_
  simp [go_sem]
def cmpI (x y : Int) : Int := if x < y then -1 else if y < x then 1 else 0
theorem compare64 {H : List Blk} {x y : Int} : Cal Try.prog 77 [.v (.int .i64 x), .v (.int .i64 y)] H fun u H' => u = .v (.int .i64 (cmpI x y)) ∧ H' = H := by
  refine cal_fn 18 mixed Try.func77 Try.ntmps77 Try.results77 rfl rfl rfl fun hw cx hx hq => ?_
  by_cases h1 : x < y
  · have e1 : (x < y) = True := eq_true h1
    repeat (first | (simp only [go_sem, Int.reduceLT, Int.reduceLE, Int.reduceEq, Int.reduceToNat, e1]) | ((with_reducible refine And.intro ?_ ?_); omega) | ((with_reducible refine isSK ?_); first | (refine call_ret (isNaN64) (by simp only [go_sem, Int.reduceLT, Int.reduceLE, Int.reduceEq, Int.reduceToNat, e1]) ?_)) | ((with_reducible refine isMC ?_); first | (refine mcall_ret (isNaN64) (by simp only [go_sem, Int.reduceLT, Int.reduceLE, Int.reduceEq, Int.reduceToNat, e1]) (by simp only [go_sem, Int.reduceLT, Int.reduceLE, Int.reduceEq, Int.reduceToNat, e1]) ?_)) | ((with_reducible refine And.intro ?_ ?_); first | (with_reducible rfl) | assumption | (simp only [go_sem]; done)))
    refine ret_same hq _ (.inl rfl) ?_
    simp [go_sem, cmpI, h1]
  have e1 : (x < y) = False := eq_false h1
  by_cases h2 : y < x
  · have e2 : (y < x) = True := eq_true h2
    repeat (first | (simp only [go_sem, Int.reduceLT, Int.reduceLE, Int.reduceEq, Int.reduceToNat, e1, e2]) | ((with_reducible refine And.intro ?_ ?_); omega) | ((with_reducible refine isSK ?_); first | (refine call_ret (isNaN64) (by simp only [go_sem, Int.reduceLT, Int.reduceLE, Int.reduceEq, Int.reduceToNat, e1, e2]) ?_)) | ((with_reducible refine isMC ?_); first | (refine mcall_ret (isNaN64) (by simp only [go_sem, Int.reduceLT, Int.reduceLE, Int.reduceEq, Int.reduceToNat, e1, e2]) (by simp only [go_sem, Int.reduceLT, Int.reduceLE, Int.reduceEq, Int.reduceToNat, e1, e2]) ?_)) | ((with_reducible refine And.intro ?_ ?_); first | (with_reducible rfl) | assumption | (simp only [go_sem]; done)))
    refine ret_same hq _ (.inl rfl) ?_
    simp [go_sem, cmpI, h1, h2]
  have e2 : (y < x) = False := eq_false h2
  repeat (first | (simp only [go_sem, Int.reduceLT, Int.reduceLE, Int.reduceEq, Int.reduceToNat, e1, e2]) | ((with_reducible refine And.intro ?_ ?_); omega) | ((with_reducible refine isSK ?_); first | (refine call_ret (isNaN64) (by simp only [go_sem, Int.reduceLT, Int.reduceLE, Int.reduceEq, Int.reduceToNat, e1, e2]) ?_)) | ((with_reducible refine isMC ?_); first | (refine mcall_ret (isNaN64) (by simp only [go_sem, Int.reduceLT, Int.reduceLE, Int.reduceEq, Int.reduceToNat, e1, e2]) (by simp only [go_sem, Int.reduceLT, Int.reduceLE, Int.reduceEq, Int.reduceToNat, e1, e2]) ?_)) | ((with_reducible refine And.intro ?_ ?_); first | (with_reducible rfl) | assumption | (simp only [go_sem]; done)))
  refine ret_same hq _ (.inl rfl) ?_
  simp [go_sem, cmpI, h1, h2]
end Go.Proofs.Ytjkkallcgplgmaa

