/- Contracts of functions of the translated program, by the walk. -/
import Derived.Test.YtpjimhkblldhaaaK6
set_option linter.unusedVariables false
set_option linter.unusedSimpArgs false
set_option maxRecDepth 8000
set_option maxHeartbeats 4000000
namespace Go.Proofs.Ytpjimhkblldhaaa
open Go Go.Sx
/-- The code for a track, an ease, and whether the rest is fine. -/
def paC (l : List (Nat → Int)) (e : Int) (fine : Bool) : Int := if tkOk l = true then (if (inB 0 3 e && fine) = true then 0 else 2) else 1
theorem l03Asked {H : List Blk} {v : V} {l : List (Nat → Int)} {e : Int} {fine : Bool} (h : Rd H v encK l) (hK : ∀ a ∈ l, KyW a) (hl : l.length ≤ 1000000) :
    Cal Try.prog 34 [v, .v (.int .i64 e), .v (.bool fine)] H fun u H' => u = .v (.int .i64 (paC l e fine)) ∧ H' = H := by
  have hsol := h.solid
  refine cal_fn 14 mixed Try.func34 Try.ntmps34 Try.results34 rfl rfl rfl fun hw cx hx hq => ?_
  by_cases e1 : tkOk l = true
  · cases e2 : inB 0 3 e
    · have hC : paC l e fine = 2 := by unfold paC; rw [if_pos e1, e2]; rfl
      repeat (first | (simp only [go_sem, Int.reduceLT, Int.reduceLE, Int.reduceEq, Int.reduceToNat, hsol, e1, e2]) | ((with_reducible refine And.intro ?_ ?_); omega) | ((with_reducible refine isSK ?_); first | (refine call_ret (l03Ok h hK hl) (by simp only [go_sem, Int.reduceLT, Int.reduceLE, Int.reduceEq, Int.reduceToNat, hsol, e1, e2]) ?_) | (refine call_ret (l03Ease) (by simp only [go_sem, Int.reduceLT, Int.reduceLE, Int.reduceEq, Int.reduceToNat, hsol, e1, e2]) ?_)) | ((with_reducible refine isMC ?_); first | (refine mcall_ret (l03Ok h hK hl) (by simp only [go_sem, Int.reduceLT, Int.reduceLE, Int.reduceEq, Int.reduceToNat, hsol, e1, e2]) (by simp only [go_sem, Int.reduceLT, Int.reduceLE, Int.reduceEq, Int.reduceToNat, hsol, e1, e2]) ?_) | (refine mcall_ret (l03Ease) (by simp only [go_sem, Int.reduceLT, Int.reduceLE, Int.reduceEq, Int.reduceToNat, hsol, e1, e2]) (by simp only [go_sem, Int.reduceLT, Int.reduceLE, Int.reduceEq, Int.reduceToNat, hsol, e1, e2]) ?_)) | ((with_reducible refine And.intro ?_ ?_); first | (with_reducible rfl) | assumption | (simp only [go_sem]; done)))
      refine ret_same hq _ (.inl rfl) ?_
      simp [go_sem, hC]
    · cases fine
      · have hC : paC l e false = 2 := by unfold paC; rw [if_pos e1, e2]; rfl
        repeat (first | (simp only [go_sem, Int.reduceLT, Int.reduceLE, Int.reduceEq, Int.reduceToNat, hsol, e1, e2]) | ((with_reducible refine And.intro ?_ ?_); omega) | ((with_reducible refine isSK ?_); first | (refine call_ret (l03Ok h hK hl) (by simp only [go_sem, Int.reduceLT, Int.reduceLE, Int.reduceEq, Int.reduceToNat, hsol, e1, e2]) ?_) | (refine call_ret (l03Ease) (by simp only [go_sem, Int.reduceLT, Int.reduceLE, Int.reduceEq, Int.reduceToNat, hsol, e1, e2]) ?_)) | ((with_reducible refine isMC ?_); first | (refine mcall_ret (l03Ok h hK hl) (by simp only [go_sem, Int.reduceLT, Int.reduceLE, Int.reduceEq, Int.reduceToNat, hsol, e1, e2]) (by simp only [go_sem, Int.reduceLT, Int.reduceLE, Int.reduceEq, Int.reduceToNat, hsol, e1, e2]) ?_) | (refine mcall_ret (l03Ease) (by simp only [go_sem, Int.reduceLT, Int.reduceLE, Int.reduceEq, Int.reduceToNat, hsol, e1, e2]) (by simp only [go_sem, Int.reduceLT, Int.reduceLE, Int.reduceEq, Int.reduceToNat, hsol, e1, e2]) ?_)) | ((with_reducible refine And.intro ?_ ?_); first | (with_reducible rfl) | assumption | (simp only [go_sem]; done)))
        refine ret_same hq _ (.inl rfl) ?_
        simp [go_sem, hC]
      · have hC : paC l e true = 0 := by unfold paC; rw [if_pos e1, e2]; rfl
        repeat (first | (simp only [go_sem, Int.reduceLT, Int.reduceLE, Int.reduceEq, Int.reduceToNat, hsol, e1, e2]) | ((with_reducible refine And.intro ?_ ?_); omega) | ((with_reducible refine isSK ?_); first | (refine call_ret (l03Ok h hK hl) (by simp only [go_sem, Int.reduceLT, Int.reduceLE, Int.reduceEq, Int.reduceToNat, hsol, e1, e2]) ?_) | (refine call_ret (l03Ease) (by simp only [go_sem, Int.reduceLT, Int.reduceLE, Int.reduceEq, Int.reduceToNat, hsol, e1, e2]) ?_)) | ((with_reducible refine isMC ?_); first | (refine mcall_ret (l03Ok h hK hl) (by simp only [go_sem, Int.reduceLT, Int.reduceLE, Int.reduceEq, Int.reduceToNat, hsol, e1, e2]) (by simp only [go_sem, Int.reduceLT, Int.reduceLE, Int.reduceEq, Int.reduceToNat, hsol, e1, e2]) ?_) | (refine mcall_ret (l03Ease) (by simp only [go_sem, Int.reduceLT, Int.reduceLE, Int.reduceEq, Int.reduceToNat, hsol, e1, e2]) (by simp only [go_sem, Int.reduceLT, Int.reduceLE, Int.reduceEq, Int.reduceToNat, hsol, e1, e2]) ?_)) | ((with_reducible refine And.intro ?_ ?_); first | (with_reducible rfl) | assumption | (simp only [go_sem]; done)))
        refine ret_same hq _ (.inl rfl) ?_
        simp [go_sem, hC]
  · have hC : paC l e fine = 1 := by unfold paC; rw [if_neg e1]
    rw [Bool.not_eq_true] at e1
    repeat (first | (simp only [go_sem, Int.reduceLT, Int.reduceLE, Int.reduceEq, Int.reduceToNat, hsol, e1]) | ((with_reducible refine And.intro ?_ ?_); omega) | ((with_reducible refine isSK ?_); first | (refine call_ret (l03Ok h hK hl) (by simp only [go_sem, Int.reduceLT, Int.reduceLE, Int.reduceEq, Int.reduceToNat, hsol, e1]) ?_)) | ((with_reducible refine isMC ?_); first | (refine mcall_ret (l03Ok h hK hl) (by simp only [go_sem, Int.reduceLT, Int.reduceLE, Int.reduceEq, Int.reduceToNat, hsol, e1]) (by simp only [go_sem, Int.reduceLT, Int.reduceLE, Int.reduceEq, Int.reduceToNat, hsol, e1]) ?_)) | ((with_reducible refine And.intro ?_ ?_); first | (with_reducible rfl) | assumption | (simp only [go_sem]; done)))
    refine ret_same hq _ (.inl rfl) ?_
    simp [go_sem, hC]
end Go.Proofs.Ytpjimhkblldhaaa

