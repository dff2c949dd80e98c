/- Contracts of functions of the translated program, by the walk. -/
import Derived.Test.YtheeehjgmifclaaCt3
import Derived.Test.YtheeehjgmifclaaR1d
set_option linter.unusedVariables false
set_option linter.unusedSimpArgs false
set_option maxRecDepth 8000
set_option maxHeartbeats 4000000
namespace Go.Proofs.Ytheeehjgmifclaa
open Go Go.Sx
theorem implCelText {H : List Blk} {f g : Nat → Int} (hf : R16 f) (hg : R16 g) : Cal Try.prog 48 [.a (rowL .u16 12 (f) ++ rowL .u16 12 (g))] H fun u H' => u = .v (.string (if okC f g = true then bstr (cxL f g 156) else bstr [])) ∧ H' = H := by
  cases e : okC f g
  · refine cal_fn 7 mixed Try.func48 Try.ntmps48 Try.results48 rfl rfl rfl fun hw cx hx hq => ?_
    repeat (first | (simp only [go_sem, Int.reduceLT, Int.reduceLE, Int.reduceEq, Int.reduceToNat, e, bs0]) | ((with_reducible refine And.intro ?_ ?_); omega) | ((with_reducible refine isSK ?_); first | (refine call_ret (implValidCel (f := f) (g := g)) (by simp only [go_sem, Int.reduceLT, Int.reduceLE, Int.reduceEq, Int.reduceToNat, e, bs0]) ?_)) | ((with_reducible refine isMC ?_); first | (refine mcall_ret (implValidCel (f := f) (g := g)) (by simp only [go_sem, Int.reduceLT, Int.reduceLE, Int.reduceEq, Int.reduceToNat, e, bs0]) (by simp only [go_sem, Int.reduceLT, Int.reduceLE, Int.reduceEq, Int.reduceToNat, e, bs0]) ?_)) | ((with_reducible refine And.intro ?_ ?_); first | (with_reducible rfl) | assumption | (simp only [go_sem]; done)))
    refine ret_cut hq hw _ (.inl rfl) ?_
    simp [go_sem]
  · refine cal_fn 7 mixed Try.func48 Try.ntmps48 Try.results48 rfl rfl rfl fun hw cx hx hq => ?_
    repeat (first | (simp only [go_sem, Int.reduceLT, Int.reduceLE, Int.reduceEq, Int.reduceToNat, e, bs0]) | ((with_reducible refine And.intro ?_ ?_); omega) | ((with_reducible refine isSK ?_); first | (refine call_ret (implValidCel (f := f) (g := g)) (by simp only [go_sem, Int.reduceLT, Int.reduceLE, Int.reduceEq, Int.reduceToNat, e, bs0]) ?_) | (refine call_ret (celText hf hg) (by simp only [go_sem, Int.reduceLT, Int.reduceLE, Int.reduceEq, Int.reduceToNat, e, bs0]) ?_)) | ((with_reducible refine isMC ?_); first | (refine mcall_ret (implValidCel (f := f) (g := g)) (by simp only [go_sem, Int.reduceLT, Int.reduceLE, Int.reduceEq, Int.reduceToNat, e, bs0]) (by simp only [go_sem, Int.reduceLT, Int.reduceLE, Int.reduceEq, Int.reduceToNat, e, bs0]) ?_) | (refine mcall_ret (celText hf hg) (by simp only [go_sem, Int.reduceLT, Int.reduceLE, Int.reduceEq, Int.reduceToNat, e, bs0]) (by simp only [go_sem, Int.reduceLT, Int.reduceLE, Int.reduceEq, Int.reduceToNat, e, bs0]) ?_)) | ((with_reducible refine And.intro ?_ ?_); first | (with_reducible rfl) | assumption | (simp only [go_sem]; done)))
    refine ret_cut hq hw _ (.inl rfl) ?_
    simp [go_sem]
end Go.Proofs.Ytheeehjgmifclaa

