/- Contracts of functions of the translated program, by the walk. -/
import Derived.Test.YtheeehjgmifclaaB1
import Derived.Test.YtheeehjgmifclaaLD
set_option linter.unusedVariables false
set_option linter.unusedSimpArgs false
set_option maxRecDepth 8000
set_option maxHeartbeats 4000000
namespace Go.Proofs.Ytheeehjgmifclaa
open Go Go.Sx
theorem okC_iff {f g : Nat → Int} (h : okC f g = true) : okF f = true ∧ okF g = true := by
  unfold okC at h
  simp only [Bool.and_eq_true] at h
  exact h.1
theorem l05Moved {H : List Blk} {i off : Nat} {f g : Nat → Int} {b : Blk} {e s : Int} (h : At H i off (rowL .u16 12 (f) ++ rowL .u16 12 (g)) b) (hf : F12 f) (hg : F12 g) (he : -1000 ≤ e ∧ e ≤ 1000) (hs : -1000 ≤ s ∧ s ≤ 1000) :
    Cal Try.prog 105 [.p i off, .v (.int .i64 e), .v (.int .i64 s)] H fun v H' => v = .a (rowL .u16 12 (movI f e s) ++ rowL .u16 12 (movI g e s)) ∧ H' = H := by
  have hl := h.left
  have hr := h.right
  rw [rowL_length] at hr
  have e1 := moved_eq hf e s .u16
  have e2 := moved_eq hg e s .u16
  refine cal_fn 17 mixed Try.func105 Try.ntmps105 Try.results105 rfl rfl rfl fun hw cx hx hq => ?_
  repeat (first | (simp only [go_sem, Int.reduceLT, Int.reduceLE, Int.reduceEq, Int.reduceToNat, rowL_rep, cel0, e1, e2]) | ((with_reducible refine And.intro ?_ ?_); omega) | ((with_reducible refine isSK ?_); first | (refine call_ret (l01Moved hl.app hf.r16 he hs) (by simp only [go_sem, Int.reduceLT, Int.reduceLE, Int.reduceEq, Int.reduceToNat, rowL_rep, cel0, e1, e2]) ?_) | (refine call_ret (l01Moved hr.app hg.r16 he hs) (by simp only [go_sem, Int.reduceLT, Int.reduceLE, Int.reduceEq, Int.reduceToNat, rowL_rep, cel0, e1, e2]) ?_)) | ((with_reducible refine isMC ?_); first | (refine mcall_ret (l01Moved hl.app hf.r16 he hs) (by simp only [go_sem, Int.reduceLT, Int.reduceLE, Int.reduceEq, Int.reduceToNat, rowL_rep, cel0, e1, e2]) (by simp only [go_sem, Int.reduceLT, Int.reduceLE, Int.reduceEq, Int.reduceToNat, rowL_rep, cel0, e1, e2]) ?_) | (refine mcall_ret (l01Moved hr.app hg.r16 he hs) (by simp only [go_sem, Int.reduceLT, Int.reduceLE, Int.reduceEq, Int.reduceToNat, rowL_rep, cel0, e1, e2]) (by simp only [go_sem, Int.reduceLT, Int.reduceLE, Int.reduceEq, Int.reduceToNat, rowL_rep, cel0, e1, e2]) ?_)) | ((with_reducible refine isWKr (id := 1) ?_); refine WK_drawAt 1 [[],[0],[0,1],[],[],[0,1,2,3,4],[],[6],[6,7],[],[],[0,1,2,3,4,5,6,7,8,9,10],[0,1,2,3,4,5,6,7,8,9,10,11],[0,1,2,3,4,5,6,7,8,9,10,11,12]] (by kernel_rfl) ?_) | ((with_reducible refine And.intro ?_ ?_); first | (with_reducible rfl) | assumption | (simp only [go_sem]; done)))
  refine ret_cut hq hw _ (.inl rfl) ?_
  simp [go_sem]
end Go.Proofs.Ytheeehjgmifclaa

